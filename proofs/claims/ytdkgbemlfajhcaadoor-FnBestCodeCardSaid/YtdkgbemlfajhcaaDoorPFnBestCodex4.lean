-- Written by a program of this session (wip/tool/myprint.py) out of the translation.
import Derived.Test.YtdkgbemlfajhcaaDoorPFnBestCodex0
namespace Go.Proofs.YtdkgbemlfajhcaaDoor.PFnBestCode
open Go.RowKit Go.Proofs.YtdkgbemlfajhcaaDoorW.PrintWords Go.Proofs.YtdkgbemlfajhcaaDoorW.PrintLast Go.Proofs.YtdkgbemlfajhcaaDoorW.PrintMore
attribute [local go_sem] max2_int min2_int max_two min_two max_three min_three max_four min_four   -- for this text's walks alone
set_option linter.unusedVariables false
set_option linter.unusedSimpArgs false

/-! ### impl_hexByte: function 60 -/
def impl_hexByte.f (a0 : Int) : Option (ByteArray) := if 0 ≤ (a0 / 16) then (if (a0 / 16) ≤ (((a0 / 16) + 1) % 256) then (if (((a0 / 16) + 1) % 256) ≤ 16 then (if 1 + ((⟨#[48, 49, 50, 51, 52, 53, 54, 55, 56, 57, 65, 66, 67, 68, 69, 70]⟩ : ByteArray).extract ((a0 / 16) : Int).toNat ((((a0 / 16) + 1) % 256) : Int).toNat).size ≤ 9223372036854775807 then (if 0 ≤ (Go.bits .and .u8 a0 15) then (if (Go.bits .and .u8 a0 15) ≤ (((Go.bits .and .u8 a0 15) + 1) % 256) then (if (((Go.bits .and .u8 a0 15) + 1) % 256) ≤ 16 then (if ((⟨#[61]⟩ : ByteArray) ++ ((⟨#[48, 49, 50, 51, 52, 53, 54, 55, 56, 57, 65, 66, 67, 68, 69, 70]⟩ : ByteArray).extract ((a0 / 16) : Int).toNat ((((a0 / 16) + 1) % 256) : Int).toNat)).size + ((⟨#[48, 49, 50, 51, 52, 53, 54, 55, 56, 57, 65, 66, 67, 68, 69, 70]⟩ : ByteArray).extract ((Go.bits .and .u8 a0 15) : Int).toNat ((((Go.bits .and .u8 a0 15) + 1) % 256) : Int).toNat).size ≤ 9223372036854775807 then (some (((⟨#[61]⟩ : ByteArray) ++ ((⟨#[48, 49, 50, 51, 52, 53, 54, 55, 56, 57, 65, 66, 67, 68, 69, 70]⟩ : ByteArray).extract ((a0 / 16) : Int).toNat ((((a0 / 16) + 1) % 256) : Int).toNat)) ++ ((⟨#[48, 49, 50, 51, 52, 53, 54, 55, 56, 57, 65, 66, 67, 68, 69, 70]⟩ : ByteArray).extract ((Go.bits .and .u8 a0 15) : Int).toNat ((((Go.bits .and .u8 a0 15) + 1) % 256) : Int).toNat))) else (none)) else (none)) else (none)) else (none)) else (none)) else (none)) else (none)) else (none)
set_option maxHeartbeats 8000000 in
set_option maxRecDepth 100000 in
theorem impl_hexByte.calls (a0 : Int) (r : ByteArray) (w : World) (h : impl_hexByte.f a0 = some r) :
  Calls Tryd.prog 60 #[.int .u8 a0] w fun e w' => e = .returned (.string r) ∧ Drawn0 w w' := by
 have H : (if 0 ≤ (a0 / 16) then (if (a0 / 16) ≤ (((a0 / 16) + 1) % 256) then (if (((a0 / 16) + 1) % 256) ≤ 16 then (if 1 + ((⟨#[48, 49, 50, 51, 52, 53, 54, 55, 56, 57, 65, 66, 67, 68, 69, 70]⟩ : ByteArray).extract ((a0 / 16) : Int).toNat ((((a0 / 16) + 1) % 256) : Int).toNat).size ≤ 9223372036854775807 then (if 0 ≤ (Go.bits .and .u8 a0 15) then (if (Go.bits .and .u8 a0 15) ≤ (((Go.bits .and .u8 a0 15) + 1) % 256) then (if (((Go.bits .and .u8 a0 15) + 1) % 256) ≤ 16 then (if ((⟨#[61]⟩ : ByteArray) ++ ((⟨#[48, 49, 50, 51, 52, 53, 54, 55, 56, 57, 65, 66, 67, 68, 69, 70]⟩ : ByteArray).extract ((a0 / 16) : Int).toNat ((((a0 / 16) + 1) % 256) : Int).toNat)).size + ((⟨#[48, 49, 50, 51, 52, 53, 54, 55, 56, 57, 65, 66, 67, 68, 69, 70]⟩ : ByteArray).extract ((Go.bits .and .u8 a0 15) : Int).toNat ((((Go.bits .and .u8 a0 15) + 1) % 256) : Int).toNat).size ≤ 9223372036854775807 then (some (((⟨#[61]⟩ : ByteArray) ++ ((⟨#[48, 49, 50, 51, 52, 53, 54, 55, 56, 57, 65, 66, 67, 68, 69, 70]⟩ : ByteArray).extract ((a0 / 16) : Int).toNat ((((a0 / 16) + 1) % 256) : Int).toNat)) ++ ((⟨#[48, 49, 50, 51, 52, 53, 54, 55, 56, 57, 65, 66, 67, 68, 69, 70]⟩ : ByteArray).extract ((Go.bits .and .u8 a0 15) : Int).toNat ((((Go.bits .and .u8 a0 15) + 1) % 256) : Int).toNat))) else (none)) else (none)) else (none)) else (none)) else (none)) else (none)) else (none)) else (none)) = some r := h
 clear h
 obtain ⟨ji2, hji2⟩ : ∃ j_ : Int, (a0 / 16) = j_ := ⟨_, rfl⟩
 replace H : (if 0 ≤ (ji2) then (if (ji2) ≤ (((ji2) + 1) % 256) then (if (((ji2) + 1) % 256) ≤ 16 then (if 1 + ((⟨#[48, 49, 50, 51, 52, 53, 54, 55, 56, 57, 65, 66, 67, 68, 69, 70]⟩ : ByteArray).extract ((ji2) : Int).toNat ((((ji2) + 1) % 256) : Int).toNat).size ≤ 9223372036854775807 then (if 0 ≤ (Go.bits .and .u8 a0 15) then (if (Go.bits .and .u8 a0 15) ≤ (((Go.bits .and .u8 a0 15) + 1) % 256) then (if (((Go.bits .and .u8 a0 15) + 1) % 256) ≤ 16 then (if ((⟨#[61]⟩ : ByteArray) ++ ((⟨#[48, 49, 50, 51, 52, 53, 54, 55, 56, 57, 65, 66, 67, 68, 69, 70]⟩ : ByteArray).extract ((ji2) : Int).toNat ((((ji2) + 1) % 256) : Int).toNat)).size + ((⟨#[48, 49, 50, 51, 52, 53, 54, 55, 56, 57, 65, 66, 67, 68, 69, 70]⟩ : ByteArray).extract ((Go.bits .and .u8 a0 15) : Int).toNat ((((Go.bits .and .u8 a0 15) + 1) % 256) : Int).toNat).size ≤ 9223372036854775807 then (some (((⟨#[61]⟩ : ByteArray) ++ ((⟨#[48, 49, 50, 51, 52, 53, 54, 55, 56, 57, 65, 66, 67, 68, 69, 70]⟩ : ByteArray).extract ((ji2) : Int).toNat ((((ji2) + 1) % 256) : Int).toNat)) ++ ((⟨#[48, 49, 50, 51, 52, 53, 54, 55, 56, 57, 65, 66, 67, 68, 69, 70]⟩ : ByteArray).extract ((Go.bits .and .u8 a0 15) : Int).toNat ((((Go.bits .and .u8 a0 15) + 1) % 256) : Int).toNat))) else (none)) else (none)) else (none)) else (none)) else (none)) else (none)) else (none)) else (none)) = some r := by first | (rw [hji2] at H; exact H) | (simp only [hji2] at H ⊢; exact H)
 by_cases c3 : 0 ≤ (ji2)
 ·rw [if_pos c3] at H
  have c3b0 := eq_true c3
  have c3b1 : decide (0 ≤ (ji2)) = true := decide_eq_true c3
  clear c3
  by_cases c4 : (ji2) ≤ (((ji2) + 1) % 256)
  ·rw [if_pos c4] at H
   have c4b0 := eq_true c4
   have c4b1 : decide ((ji2) ≤ (((ji2) + 1) % 256)) = true := decide_eq_true c4
   by_cases c5 : (((ji2) + 1) % 256) ≤ 16
   ·rw [if_pos c5] at H
    have c5b0 := eq_true c5
    have c5b1 : decide ((((ji2) + 1) % 256) ≤ 16) = true := decide_eq_true c5
    by_cases c6 : 1 + ((⟨#[48, 49, 50, 51, 52, 53, 54, 55, 56, 57, 65, 66, 67, 68, 69, 70]⟩ : ByteArray).extract ((ji2) : Int).toNat ((((ji2) + 1) % 256) : Int).toNat).size ≤ 9223372036854775807
    ·rw [if_pos c6] at H
     have c6b0 := eq_true c6
     have c6b1 : decide (1 + ((⟨#[48, 49, 50, 51, 52, 53, 54, 55, 56, 57, 65, 66, 67, 68, 69, 70]⟩ : ByteArray).extract ((ji2) : Int).toNat ((((ji2) + 1) % 256) : Int).toNat).size ≤ 9223372036854775807) = true := decide_eq_true c6
     (try (have c6b1z := c6b1; simp only [ByteArray.size_extract] at c6b1z))
     try have c6b2 : (9223372036854775807 < 1 + ((⟨#[48, 49, 50, 51, 52, 53, 54, 55, 56, 57, 65, 66, 67, 68, 69, 70]⟩ : ByteArray).extract ((ji2) : Int).toNat ((((ji2) + 1) % 256) : Int).toNat).size) = False := eq_false (Nat.not_lt.2 c6)
     (try (have c6b0x := c6b0; rw [show ((⟨#[48, 49, 50, 51, 52, 53, 54, 55, 56, 57, 65, 66, 67, 68, 69, 70]⟩ : ByteArray).extract ((ji2) : Int).toNat ((((ji2) + 1) % 256) : Int).toNat).size = ((((ji2) + 1) % 256) : Int).toNat - ((ji2) : Int).toNat from by (simp only [ByteArray.size_extract]; omega)] at c6b0x; (try rw [Nat.zero_add] at c6b0x)))
     (try (have c6b1x := c6b1; rw [show ((⟨#[48, 49, 50, 51, 52, 53, 54, 55, 56, 57, 65, 66, 67, 68, 69, 70]⟩ : ByteArray).extract ((ji2) : Int).toNat ((((ji2) + 1) % 256) : Int).toNat).size = ((((ji2) + 1) % 256) : Int).toNat - ((ji2) : Int).toNat from by (simp only [ByteArray.size_extract]; omega)] at c6b1x; (try rw [Nat.zero_add] at c6b1x)))
     (try (have c6b2x := c6b2; rw [show ((⟨#[48, 49, 50, 51, 52, 53, 54, 55, 56, 57, 65, 66, 67, 68, 69, 70]⟩ : ByteArray).extract ((ji2) : Int).toNat ((((ji2) + 1) % 256) : Int).toNat).size = ((((ji2) + 1) % 256) : Int).toNat - ((ji2) : Int).toNat from by (simp only [ByteArray.size_extract]; omega)] at c6b2x; (try rw [Nat.zero_add] at c6b2x)))
     by_cases c7 : 0 ≤ (Go.bits .and .u8 a0 15)
     ·rw [if_pos c7] at H
      have c7b0 := eq_true c7
      have c7b1 : decide (0 ≤ (Go.bits .and .u8 a0 15)) = true := decide_eq_true c7
      clear c7
      by_cases c8 : (Go.bits .and .u8 a0 15) ≤ (((Go.bits .and .u8 a0 15) + 1) % 256)
      ·rw [if_pos c8] at H
       have c8b0 := eq_true c8
       have c8b1 : decide ((Go.bits .and .u8 a0 15) ≤ (((Go.bits .and .u8 a0 15) + 1) % 256)) = true := decide_eq_true c8
       by_cases c9 : (((Go.bits .and .u8 a0 15) + 1) % 256) ≤ 16
       ·rw [if_pos c9] at H
        have c9b0 := eq_true c9
        have c9b1 : decide ((((Go.bits .and .u8 a0 15) + 1) % 256) ≤ 16) = true := decide_eq_true c9
        by_cases c10 : ((⟨#[61]⟩ : ByteArray) ++ ((⟨#[48, 49, 50, 51, 52, 53, 54, 55, 56, 57, 65, 66, 67, 68, 69, 70]⟩ : ByteArray).extract ((ji2) : Int).toNat ((((ji2) + 1) % 256) : Int).toNat)).size + ((⟨#[48, 49, 50, 51, 52, 53, 54, 55, 56, 57, 65, 66, 67, 68, 69, 70]⟩ : ByteArray).extract ((Go.bits .and .u8 a0 15) : Int).toNat ((((Go.bits .and .u8 a0 15) + 1) % 256) : Int).toNat).size ≤ 9223372036854775807
        ·rw [if_pos c10] at H
         have c10b0 := eq_true c10
         have c10b1 : decide (((⟨#[61]⟩ : ByteArray) ++ ((⟨#[48, 49, 50, 51, 52, 53, 54, 55, 56, 57, 65, 66, 67, 68, 69, 70]⟩ : ByteArray).extract ((ji2) : Int).toNat ((((ji2) + 1) % 256) : Int).toNat)).size + ((⟨#[48, 49, 50, 51, 52, 53, 54, 55, 56, 57, 65, 66, 67, 68, 69, 70]⟩ : ByteArray).extract ((Go.bits .and .u8 a0 15) : Int).toNat ((((Go.bits .and .u8 a0 15) + 1) % 256) : Int).toNat).size ≤ 9223372036854775807) = true := decide_eq_true c10
         (try (have c10b1z := c10b1; simp only [ByteArray.size_extract] at c10b1z))
         try have c10b2 : (9223372036854775807 < ((⟨#[61]⟩ : ByteArray) ++ ((⟨#[48, 49, 50, 51, 52, 53, 54, 55, 56, 57, 65, 66, 67, 68, 69, 70]⟩ : ByteArray).extract ((ji2) : Int).toNat ((((ji2) + 1) % 256) : Int).toNat)).size + ((⟨#[48, 49, 50, 51, 52, 53, 54, 55, 56, 57, 65, 66, 67, 68, 69, 70]⟩ : ByteArray).extract ((Go.bits .and .u8 a0 15) : Int).toNat ((((Go.bits .and .u8 a0 15) + 1) % 256) : Int).toNat).size) = False := eq_false (Nat.not_lt.2 c10)
         (try (have c10n := c10; simp only [ByteArray.size_append, show (⟨#[48, 49, 50, 51, 52, 53, 54, 55, 56, 57, 65, 66, 67, 68, 69, 70]⟩ : ByteArray).size = 16 from rfl, show (⟨#[61]⟩ : ByteArray).size = 1 from rfl] at c10n))
         (try (have c10b0x := c10b0; rw [show ((⟨#[48, 49, 50, 51, 52, 53, 54, 55, 56, 57, 65, 66, 67, 68, 69, 70]⟩ : ByteArray).extract ((Go.bits .and .u8 a0 15) : Int).toNat ((((Go.bits .and .u8 a0 15) + 1) % 256) : Int).toNat).size = ((((Go.bits .and .u8 a0 15) + 1) % 256) : Int).toNat - ((Go.bits .and .u8 a0 15) : Int).toNat from by (simp only [ByteArray.size_extract]; omega)] at c10b0x; (try rw [Nat.zero_add] at c10b0x)))
         (try (have c10b1x := c10b1; rw [show ((⟨#[48, 49, 50, 51, 52, 53, 54, 55, 56, 57, 65, 66, 67, 68, 69, 70]⟩ : ByteArray).extract ((Go.bits .and .u8 a0 15) : Int).toNat ((((Go.bits .and .u8 a0 15) + 1) % 256) : Int).toNat).size = ((((Go.bits .and .u8 a0 15) + 1) % 256) : Int).toNat - ((Go.bits .and .u8 a0 15) : Int).toNat from by (simp only [ByteArray.size_extract]; omega)] at c10b1x; (try rw [Nat.zero_add] at c10b1x)))
         (try (have c10b2x := c10b2; rw [show ((⟨#[48, 49, 50, 51, 52, 53, 54, 55, 56, 57, 65, 66, 67, 68, 69, 70]⟩ : ByteArray).extract ((Go.bits .and .u8 a0 15) : Int).toNat ((((Go.bits .and .u8 a0 15) + 1) % 256) : Int).toNat).size = ((((Go.bits .and .u8 a0 15) + 1) % 256) : Int).toNat - ((Go.bits .and .u8 a0 15) : Int).toNat from by (simp only [ByteArray.size_extract]; omega)] at c10b2x; (try rw [Nat.zero_add] at c10b2x)))
         obtain rfl := Option.some.inj H
         go_enter Tryd.func60, Tryd.ntmps60
         go_wp2
         repeat (go_quiet (fail); try go_wp2)
         go_ret
         exact ⟨by first | rfl | (simp; done) | (simp only [← hji2] <;> (first | rfl | simp)) | (simp [*]; done), by repeat (first | exact Drawn0.refl _ | apply Drawn0.step)⟩
        ·rw [if_neg c10] at H
         exact absurd H (by simp)
       ·rw [if_neg c9] at H
        exact absurd H (by simp)
      ·rw [if_neg c8] at H
       exact absurd H (by simp)
     ·rw [if_neg c7] at H
      exact absurd H (by simp)
    ·rw [if_neg c6] at H
     exact absurd H (by simp)
   ·rw [if_neg c5] at H
    exact absurd H (by simp)
  ·rw [if_neg c4] at H
   exact absurd H (by simp)
 ·rw [if_neg c3] at H
  exact absurd H (by simp)

/-! ### impl_EncodeQuoted: function 32 -/
mutual
def impl_EncodeQuoted.l0 : Nat → ByteArray → List ByteArray → ByteArray → Int → Int → Option (List ByteArray × Bool)
 | 0, _, _, _, _, _ => none
 | k + 1, x0, x4, x5, x14, x15 => if x15 < x14 then (if 0 ≤ x15 then (if x15 < (x0.size : Int) then (if (bt x0 x15) = 10 then (if x4.length < 8796093022208 then (impl_EncodeQuoted.l0 k x0 (x4 ++ [x5]) (⟨#[]⟩ : ByteArray) x14 (wrap64 (x15 + 1))) else (none)) else ((impl_hexByte.f (bt x0 x15)).bind fun t201 => (if (wrap64 (x15 + 1)) = (x0.size : Int) then (impl_EncodeQuoted.j1 k x0 x4 x5 x15 t201 true x14 x15) else (if 0 ≤ (wrap64 (x15 + 1)) then (if (wrap64 (x15 + 1)) < (x0.size : Int) then (impl_EncodeQuoted.j1 k x0 x4 x5 x15 t201 ((bt x0 (wrap64 (x15 + 1))) == 10) x14 x15) else (none)) else (none))))) else (none)) else (none)) else (if x4.length < 8796093022208 then (some ((x4 ++ [x5]), true)) else (none))
def impl_EncodeQuoted.j1 : Nat → ByteArray → List ByteArray → ByteArray → Int → ByteArray → Bool → Int → Int → Option (List ByteArray × Bool)
 | 0, _, _, _, _, _, _, _, _ => none
 | k + 1, x0, x4, x5, x6, x7, x8, x14, x15 => if 0 ≤ x6 then (if x6 < (x0.size : Int) then (if (bt x0 x6) ≥ 33 then (if (bt x0 x6) ≤ 126 then (if (bt x0 x6) = 61 then (if (bt x0 x6) = 32 then (impl_EncodeQuoted.j2 k x0 x4 x5 x6 x7 x14 x15 (!x8)) else (impl_EncodeQuoted.j2 k x0 x4 x5 x6 x7 x14 x15 false)) else (impl_EncodeQuoted.j2 k x0 x4 x5 x6 x7 x14 x15 true)) else (if (bt x0 x6) = 32 then (impl_EncodeQuoted.j2 k x0 x4 x5 x6 x7 x14 x15 (!x8)) else (impl_EncodeQuoted.j2 k x0 x4 x5 x6 x7 x14 x15 false))) else (if (bt x0 x6) = 32 then (impl_EncodeQuoted.j2 k x0 x4 x5 x6 x7 x14 x15 (!x8)) else (impl_EncodeQuoted.j2 k x0 x4 x5 x6 x7 x14 x15 false))) else (none)) else (none)
def impl_EncodeQuoted.j2 : Nat → ByteArray → List ByteArray → ByteArray → Int → ByteArray → Int → Int → Bool → Option (List ByteArray × Bool)
 | 0, _, _, _, _, _, _, _, _ => none
 | k + 1, x0, x4, x5, x6, x7, x14, x15, x67 => if x67 = true then (if 0 ≤ x6 then (if x6 ≤ (wrap64 (x6 + 1)) then (if (wrap64 (x6 + 1)) ≤ (x0.size : Int) then (if (wrap64 ((x5.size : Int) + ((x0.extract (x6 : Int).toNat ((wrap64 (x6 + 1)) : Int).toNat).size : Int))) > 39 then (if x5.size + 1 ≤ 9223372036854775807 then (if x4.length < 8796093022208 then (if 0 + (x0.extract (x6 : Int).toNat ((wrap64 (x6 + 1)) : Int).toNat).size ≤ 9223372036854775807 then (impl_EncodeQuoted.l0 k x0 (x4 ++ [x5 ++ (⟨#[61]⟩ : ByteArray)]) ((⟨#[]⟩ : ByteArray) ++ (x0.extract (x6 : Int).toNat ((wrap64 (x6 + 1)) : Int).toNat)) x14 (wrap64 (x15 + 1))) else (none)) else (none)) else (none)) else (if x5.size + (x0.extract (x6 : Int).toNat ((wrap64 (x6 + 1)) : Int).toNat).size ≤ 9223372036854775807 then (impl_EncodeQuoted.l0 k x0 x4 (x5 ++ (x0.extract (x6 : Int).toNat ((wrap64 (x6 + 1)) : Int).toNat)) x14 (wrap64 (x15 + 1))) else (none))) else (none)) else (none)) else (none)) else (if (wrap64 ((x5.size : Int) + (x7.size : Int))) > 39 then (if x5.size + 1 ≤ 9223372036854775807 then (if x4.length < 8796093022208 then (if 0 + x7.size ≤ 9223372036854775807 then (impl_EncodeQuoted.l0 k x0 (x4 ++ [x5 ++ (⟨#[61]⟩ : ByteArray)]) ((⟨#[]⟩ : ByteArray) ++ x7) x14 (wrap64 (x15 + 1))) else (none)) else (none)) else (none)) else (if x5.size + x7.size ≤ 9223372036854775807 then (impl_EncodeQuoted.l0 k x0 x4 (x5 ++ x7) x14 (wrap64 (x15 + 1))) else (none)))
end
def impl_EncodeQuoted.f (k : Nat) (a0 : ByteArray) : Option (List ByteArray × Bool) := if (a0.size : Int) > 300 then (some (([] : List ByteArray), false)) else (impl_EncodeQuoted.l0 k a0 (([] : List ByteArray)) (⟨#[]⟩ : ByteArray) (a0.size : Int) 0)
theorem impl_EncodeQuoted.mono_l : ∀ k, (∀ y0 y1 y2 y3 y4, LeO (impl_EncodeQuoted.l0 k y0 y1 y2 y3 y4) (impl_EncodeQuoted.l0 (k + 1) y0 y1 y2 y3 y4)) ∧ (∀ y0 y1 y2 y3 y4 y5 y6 y7, LeO (impl_EncodeQuoted.j1 k y0 y1 y2 y3 y4 y5 y6 y7) (impl_EncodeQuoted.j1 (k + 1) y0 y1 y2 y3 y4 y5 y6 y7)) ∧ (∀ y0 y1 y2 y3 y4 y5 y6 y7, LeO (impl_EncodeQuoted.j2 k y0 y1 y2 y3 y4 y5 y6 y7) (impl_EncodeQuoted.j2 (k + 1) y0 y1 y2 y3 y4 y5 y6 y7))
 | 0 => ⟨fun _ _ _ _ _ r h => by simp [impl_EncodeQuoted.l0] at h, fun _ _ _ _ _ _ _ _ r h => by simp [impl_EncodeQuoted.j1] at h, fun _ _ _ _ _ _ _ _ r h => by simp [impl_EncodeQuoted.j2] at h⟩
 | k + 1 => by
  obtain ⟨ih0, ih1, ih2⟩ := impl_EncodeQuoted.mono_l k
  refine ⟨?_, ?_, ?_⟩
  ·intro y0 y1 y2 y3 y4
   unfold impl_EncodeQuoted.l0
   repeat' first
   | (with_reducible exact ih0 _ _ _ _ _)
   | (with_reducible exact ih1 _ _ _ _ _ _ _ _)
   | (with_reducible exact ih2 _ _ _ _ _ _ _ _)
   | (with_reducible exact LeO.refl _)
   | (with_reducible exact LeO.none _)
   | (with_reducible refine LeO.ite ?_ ?_)
   | (with_reducible refine LeO.bind ?_ (fun _ => ?_))
   | exact ih0 _ _ _ _ _
   | exact ih1 _ _ _ _ _ _ _ _
   | exact ih2 _ _ _ _ _ _ _ _
   | exact LeO.none _
   | refine LeO.ite ?_ ?_
   | refine LeO.bind ?_ (fun _ => ?_)
  ·intro y0 y1 y2 y3 y4 y5 y6 y7
   unfold impl_EncodeQuoted.j1
   repeat' first
   | (with_reducible exact ih0 _ _ _ _ _)
   | (with_reducible exact ih1 _ _ _ _ _ _ _ _)
   | (with_reducible exact ih2 _ _ _ _ _ _ _ _)
   | (with_reducible exact LeO.refl _)
   | (with_reducible exact LeO.none _)
   | (with_reducible refine LeO.ite ?_ ?_)
   | (with_reducible refine LeO.bind ?_ (fun _ => ?_))
   | exact ih0 _ _ _ _ _
   | exact ih1 _ _ _ _ _ _ _ _
   | exact ih2 _ _ _ _ _ _ _ _
   | exact LeO.none _
   | refine LeO.ite ?_ ?_
   | refine LeO.bind ?_ (fun _ => ?_)
  ·intro y0 y1 y2 y3 y4 y5 y6 y7
   unfold impl_EncodeQuoted.j2
   repeat' first
   | (with_reducible exact ih0 _ _ _ _ _)
   | (with_reducible exact ih1 _ _ _ _ _ _ _ _)
   | (with_reducible exact ih2 _ _ _ _ _ _ _ _)
   | (with_reducible exact LeO.refl _)
   | (with_reducible exact LeO.none _)
   | (with_reducible refine LeO.ite ?_ ?_)
   | (with_reducible refine LeO.bind ?_ (fun _ => ?_))
   | exact ih0 _ _ _ _ _
   | exact ih1 _ _ _ _ _ _ _ _
   | exact ih2 _ _ _ _ _ _ _ _
   | exact LeO.none _
   | refine LeO.ite ?_ ?_
   | refine LeO.bind ?_ (fun _ => ?_)
theorem impl_EncodeQuoted.mono : ∀ a0 k, LeO (impl_EncodeQuoted.f k a0) (impl_EncodeQuoted.f (k + 1) a0) := by
 intro a0 k
 obtain ⟨ih0, ih1, ih2⟩ := impl_EncodeQuoted.mono_l k
 unfold impl_EncodeQuoted.f
 repeat' first
   | (with_reducible exact ih0 _ _ _ _ _)
   | (with_reducible exact ih1 _ _ _ _ _ _ _ _)
   | (with_reducible exact ih2 _ _ _ _ _ _ _ _)
   | (with_reducible exact LeO.refl _)
   | (with_reducible exact LeO.none _)
   | (with_reducible refine LeO.ite ?_ ?_)
   | (with_reducible refine LeO.bind ?_ (fun _ => ?_))
   | exact ih0 _ _ _ _ _
   | exact ih1 _ _ _ _ _ _ _ _
   | exact ih2 _ _ _ _ _ _ _ _
   | exact LeO.none _
   | refine LeO.ite ?_ ?_
   | refine LeO.bind ?_ (fun _ => ?_)
set_option maxHeartbeats 8000000 in
set_option maxRecDepth 100000 in
theorem impl_EncodeQuoted.calls (k : Nat) (a0 : ByteArray) (r1 : List ByteArray) (r2 : Bool) (w : World) (h : impl_EncodeQuoted.f k a0 = some (r1, r2)) :
  Calls Tryd.prog 32 #[.string a0] w fun e w' => ∃ v0_ : Value, e = .returned (.tuple #[v0_, .bool r2]) ∧ Kd.R Kd.string 9 w' w.heap.size (fun _ => True) v0_ r1 ∧ Below w.heap.size w w' := by
 have HB := Aside0.mk (Below.refl w.heap.size w)
 have H : (if (a0.size : Int) > 300 then (some (([] : List ByteArray), false)) else (impl_EncodeQuoted.l0 k a0 (([] : List ByteArray)) (⟨#[]⟩ : ByteArray) (a0.size : Int) 0)) = some (r1, r2) := h
 clear h
 by_cases c2 : (a0.size : Int) > 300
 ·rw [if_pos c2] at H
  have c2b0 : decide (300 < (a0.size : Int)) = true := decide_eq_true c2
  have c2b1 : decide (300 < a0.size) = true := decide_eq_true (by omega)
  clear c2
  simp only [Option.some.injEq, Prod.mk.injEq] at H
  obtain ⟨rfl, rfl⟩ := H
  go_enter Tryd.func32, Tryd.ntmps32
  go_wp2
  go_ret2
  exact ⟨_, by first | rfl | (simp [errW_none, errW_some] <;> rfl) | (simp [*, errW_none, errW_some] <;> rfl), by first | exact Kd.R_nil _ _ _ _ _ | exact Kd.N_nil _ _ _ _ _ | exact Kd.V_nil _ _ _ _ _ | exact Kd.Q_nil _ _ _ _ _ | exact Kd.S_nil _ _ _ _ _, by repeat (first | (with_reducible first | exact HB.out | apply below_alloc | apply pw_below_drewN | apply below_drew1) | exact HB.out)⟩
 ·rw [if_neg c2] at H
  have c2b0 : decide (300 < (a0.size : Int)) = false := decide_eq_false c2
  have c2b1 : decide (300 < a0.size) = false := decide_eq_false (by omega)
  clear c2
  obtain ⟨y192, hy192⟩ : ∃ y_ : List ByteArray, y_ = (([] : List ByteArray)) := ⟨_, rfl⟩
  replace H : (impl_EncodeQuoted.l0 k a0 y192 (⟨#[]⟩ : ByteArray) (a0.size : Int) 0) = some (r1, r2) := by first | (rw [hy192]; with_reducible exact H) | (have H2_ := (Option.bind_some _ _).symm.trans H; rw [hy192]; with_reducible exact H2_) | (have H2_ := (Option.bind_some _ _).symm.trans H; with_reducible exact H2_) | with_reducible exact H | (rw [hy192]; exact H) | exact H
  have Ny192 := Aside0.mk hy192
  clear hy192
  have H' := Aside0.mk H
  clear H
  go_enter Tryd.func32, Tryd.ntmps32
  go_wp2_with (first | ((with_reducible refine gate_dst (N := 12) rfl ?_); refine Kd.R_lit Kd.string _ 9 ?hg (N := 12) ?hd (xs := ([] : List ByteArray)) (inner := []) (ok := fun _ => True) (okp := fun _ => True) ?hr ?hp (fun _ hk => hk) trivial (Below.refl _ _) (Nat.le_refl _) (by simp) ?_; (case hd => rfl); (case hg => rfl); (case hr => first | (go_simp; done) | (go_simp; rfl)); (case hp => exact (Reps.none _ _)); intro v193 w3 ho4 hb hg_ hnew_; clear hg_ hnew_; (first | rw [← Ny192.out] at ho4 | (simp only [Int.reduceToNat] at ho4; rw [← Ny192.out] at ho4)); have n0_ := Aside0.mk (Kd.R_lower ho4 (below_size (by repeat (first | (with_reducible first | exact HB.out | apply below_alloc | apply pw_below_drewN | apply below_drew1) | exact HB.out)))); have n1_ := Aside0.mk (below_step (by repeat (first | (with_reducible first | exact HB.out | apply below_alloc | apply pw_below_drewN | apply below_drew1) | exact HB.out)) hb); clear HB; have HO194 := n0_; have HB := n1_; clear n0_ n1_; clear hb ho4))
  go_loopg [4, 5, 15] k (fun kq v4 v5 v15 w' => ∃ (x4_1 : List ByteArray) (x5_1 : ByteArray) (x15_1 : Int), v5 = .string x5_1 ∧ v15 = .int .i64 x15_1 ∧ Aside0 (impl_EncodeQuoted.l0 kq a0 x4_1 x5_1 (a0.size : Int) x15_1 = some (r1, r2)) ∧ Aside0 (kq ≤ k) ∧ Aside0 (Kd.R Kd.string 9 w' w.heap.size (fun _ => True) v4 x4_1) ∧ Aside0 (Below w.heap.size w w'))
  case atStart => exact ⟨(y192), ((⟨#[]⟩ : ByteArray)), (0), (by first | rfl | (simp; done) | (simp [*]; done)), (by first | rfl | (simp; done) | (simp [*]; done)), H', ⟨Nat.le_refl _⟩, ⟨by (with_reducible repeat (first | apply Kd.R_alloc | apply Kd.R_drewN | apply Kd.R_drew)); exact HO194.out⟩, ⟨by repeat (first | (with_reducible first | exact HB.out | apply below_alloc | apply pw_below_drewN | apply below_drew1) | exact HB.out)⟩⟩
  case round =>
   clear H'
   try clear c2
   try clear c2b0
   try clear c2b1
   try clear p2
   try clear c3
   obtain ⟨x4_1, x5_1, x15_1, rfl, rfl, HA, HK1, HO_4, HB⟩ := hrel
   cases gk with
   | zero => exact absurd HA.out (by simp [impl_EncodeQuoted.l0])
   | succ k1 =>
    have H := HA.out
    clear HA
    simp only [impl_EncodeQuoted.l0] at H
    by_cases c5 : x15_1 < (a0.size : Int)
    ·rw [if_pos c5] at H
     have c5b0 : decide (x15_1 < (a0.size : Int)) = true := decide_eq_true c5
     clear c5
     by_cases c6 : 0 ≤ x15_1
     ·rw [if_pos c6] at H
      have c6b0 : decide (0 ≤ x15_1) = true := decide_eq_true c6
      clear c6
      by_cases c7 : x15_1 < (a0.size : Int)
      ·rw [if_pos c7] at H
       have c7b0 : decide (x15_1 < (a0.size : Int)) = true := decide_eq_true c7
       clear c7
       by_cases c9 : (bt a0 x15_1) = 10
       ·rw [if_pos c9] at H
        have c9b0 : ((bt a0 x15_1) == 10) = true := beq_iff_eq.mpr c9
        have c9b1 : ((bt a0 x15_1) != 10) = false := bne_eq_false_iff_eq.mpr c9
        clear c9
        by_cases c10 : x4_1.length < 8796093022208
        ·rw [if_pos c10] at H
         have LMc10 := Aside0.mk c10
         clear c10
         obtain ⟨y198, hy198⟩ : ∃ y_ : List ByteArray, y_ = (x4_1 ++ [x5_1]) := ⟨_, rfl⟩
         replace H : (impl_EncodeQuoted.l0 k1 a0 y198 (⟨#[]⟩ : ByteArray) (a0.size : Int) (wrap64 (x15_1 + 1))) = some (r1, r2) := by first | (rw [hy198]; with_reducible exact H) | (have H2_ := (Option.bind_some _ _).symm.trans H; rw [hy198]; with_reducible exact H2_) | (have H2_ := (Option.bind_some _ _).symm.trans H; with_reducible exact H2_) | with_reducible exact H | (rw [hy198]; exact H) | exact H
         have Ny198 := Aside0.mk hy198
         clear hy198
         have H' := Aside0.mk H
         clear H
         have p8 : 0 ≤ (x15_1 : Int) := of_decide_eq_true (by first | (with_reducible assumption) | assumption)
         have q8 : x15_1 < (a0.size : Int) := of_decide_eq_true (by first | (with_reducible assumption) | assumption)
         have hx8 := bt_at a0 x15_1
         replace p8 := eq_true p8
         replace q8 := eq_true q8
         go_wp2_with (first | ((with_reducible refine gate_builtin (b := .append) (xs := #[.tmp 22, .tmp 24]) rfl ?_); at_builtin; refine Kd.R_append Kd.string (w0 := w) w.heap.size rfl (.tmp 22) (.tmp 24) 25 9 (.string ⟨#[]⟩) 16 rfl Tryd.underlying25 info9 rfl (by decide) (by omega) u4 x4_1 x5_1 [.string x5_1] (fun _ => True) (fun _ => False) rfl rfl ?aP (fun _ hk => hk.elim) ?aF ?aO ?aB ?aS ?aL ?_; (case aP => exact rfl); (case aB => exact (by repeat (first | (with_reducible first | exact HB.out | apply below_alloc | apply pw_below_drewN | apply below_drew1) | exact HB.out))); (case aF => exact (fun _ _ => trivial)); (case aO => exact (by (with_reducible repeat (first | apply Kd.R_alloc | apply Kd.R_drewN | apply Kd.R_drew)); exact HO_4.out)); (case aS => exact (below_size (by repeat (first | (with_reducible first | exact HB.out | apply below_alloc | apply pw_below_drewN | apply below_drew1) | exact HB.out)))); (case aL => have := LMc10.out; omega); intro v199 w11 ho hb hg hat; rw [← Ny198.out] at ho; have n0_ := Aside0.mk (hb); have n1_ := Aside0.mk (ho); clear HB; clear HO_4; have HB := n0_; have HO200 := n1_; clear n0_ n1_; clear ho hb hg hat))
         go_roundg k1
         case measure => have := HK1.out; omega
         case rel => exact ⟨(y198), ((⟨#[]⟩ : ByteArray)), (wrap64 (x15_1 + 1)), (by first | rfl | (simp; done) | (simp [*]; done)), (by first | rfl | (simp; done) | (simp [*]; done)), H', ⟨by have := HK1.out; omega⟩, ⟨by (with_reducible repeat (first | apply Kd.R_alloc | apply Kd.R_drewN | apply Kd.R_drew)); exact HO200.out⟩, ⟨by repeat (first | (with_reducible first | exact HB.out | apply below_alloc | apply pw_below_drewN | apply below_drew1) | exact HB.out)⟩⟩
        ·rw [if_neg c10] at H
         exact absurd H (by simp)
       ·rw [if_neg c9] at H
        have c9b0 : ((bt a0 x15_1) == 10) = false := beq_eq_false_iff_ne.mpr c9
        have c9b1 : ((bt a0 x15_1) != 10) = true := bne_iff_ne.mpr c9
        replace H := Option.bind_eq_some_iff.mp H
        obtain ⟨t201, A130, H⟩ := H
        replace H : (if (wrap64 (x15_1 + 1)) = (a0.size : Int) then (impl_EncodeQuoted.j1 k1 a0 x4_1 x5_1 x15_1 t201 true (a0.size : Int) x15_1) else (if 0 ≤ (wrap64 (x15_1 + 1)) then (if (wrap64 (x15_1 + 1)) < (a0.size : Int) then (impl_EncodeQuoted.j1 k1 a0 x4_1 x5_1 x15_1 t201 ((bt a0 (wrap64 (x15_1 + 1))) == 10) (a0.size : Int) x15_1) else (none)) else (none))) = some (r1, r2) := H
        have A13 := Aside0.mk A130
        clear A130
        have HC14 := Aside0.mk H
        clear H
        have p8 : 0 ≤ (x15_1 : Int) := of_decide_eq_true (by first | (with_reducible assumption) | assumption)
        have q8 : x15_1 < (a0.size : Int) := of_decide_eq_true (by first | (with_reducible assumption) | assumption)
        have hx8 := bt_at a0 x15_1
        replace p8 := eq_true p8
        replace q8 := eq_true q8
        have p12 : 0 ≤ (x15_1 : Int) := of_decide_eq_true (by first | (with_reducible assumption) | assumption)
        have q12 : x15_1 < (a0.size : Int) := of_decide_eq_true (by first | (with_reducible assumption) | assumption)
        have hx12 := bt_at a0 x15_1
        replace p12 := eq_true p12
        replace q12 := eq_true q12
        go_upto_region 10 with (first | ((with_reducible refine gate_callee (f := 60) rfl ?_); refine goesL_ (some 29) rfl rfl Tryd.func60 (by kernel_rfl) rfl #[.int .u8 (bt a0 x15_1)] rfl (by (try simp only [List.map_toArray, List.map_cons, List.map_nil]); first | done | rfl | (simp only [List.length_drop, List.length_take]; rfl)) ?_; (with_reducible refine (impl_hexByte.calls (bt a0 x15_1) t201 _ A13.out).mono ?_); rintro e w' ⟨rfl, ⟨nd, rfl⟩⟩; refine ⟨_, rfl, ?_⟩))
        (try simp only [Act.put, List.setIfInBounds_toArray, List.set_cons_zero, List.set_cons_succ])
        go_cut [8] (fun v8 wc => ∃ (kq : Nat) (x8_13 : Bool), v8 = .bool x8_13 ∧ Aside0 (impl_EncodeQuoted.j1 kq a0 x4_1 x5_1 x15_1 t201 x8_13 (a0.size : Int) x15_1 = some (r1, r2)) ∧ Aside0 (kq ≤ k1) ∧ Aside0 (Kd.R Kd.string 9 wc w.heap.size (fun _ => True) u4 x4_1) ∧ Aside0 (Below w.heap.size w wc))
        case first =>
         have H := HC14.out
         clear HC14
         by_cases c15 : (wrap64 (x15_1 + 1)) = (a0.size : Int)
         ·rw [if_pos c15] at H
          have c15b0 : ((wrap64 (x15_1 + 1)) == (a0.size : Int)) = true := beq_iff_eq.mpr c15
          have c15b1 : ((wrap64 (x15_1 + 1)) != (a0.size : Int)) = false := bne_eq_false_iff_eq.mpr c15
          clear c15
          (first | rw [c15b0] | (simp only [i64_w, i32_w]; rw [c15b0]) | skip)
          have H' := Aside0.mk H
          clear H
          go_wp2
          go_meet
          case rel => exact ⟨_, (true), (by first | rfl | (simp; done) | (simp [*]; done)), H', ⟨by have := HK1.out; first | omega | exact Nat.le_refl _⟩, ⟨by (with_reducible repeat (first | apply Kd.R_alloc | apply Kd.R_drewN | apply Kd.R_drew)); exact HO_4.out⟩, ⟨by repeat (first | (with_reducible first | exact HB.out | apply below_alloc | apply pw_below_drewN | apply below_drew1) | exact HB.out)⟩⟩
         ·rw [if_neg c15] at H
          have c15b0 : ((wrap64 (x15_1 + 1)) == (a0.size : Int)) = false := beq_eq_false_iff_ne.mpr c15
          have c15b1 : ((wrap64 (x15_1 + 1)) != (a0.size : Int)) = true := bne_iff_ne.mpr c15
          (first | rw [c15b0] | (simp only [i64_w, i32_w]; rw [c15b0]) | skip)
          obtain ⟨ji16, hji16⟩ : ∃ j_ : Int, (wrap64 (x15_1 + 1)) = j_ := ⟨_, rfl⟩
          replace H : (if 0 ≤ (ji16) then (if (ji16) < (a0.size : Int) then (impl_EncodeQuoted.j1 k1 a0 x4_1 x5_1 x15_1 t201 ((bt a0 (ji16)) == 10) (a0.size : Int) x15_1) else (none)) else (none)) = some (r1, r2) := by first | (rw [hji16] at H; exact H) | (simp only [hji16] at H ⊢; exact H)
          (try rw [hji16] at c15b0)
          (try rw [hji16] at c15b1)
          have hji16w : (IntKind.i64.wrap (x15_1 + 1)) = ji16 := (i64_w _).trans hji16
          by_cases c17 : 0 ≤ (ji16)
          ·rw [if_pos c17] at H
           have c17b0 : decide (0 ≤ (ji16)) = true := decide_eq_true c17
           clear c17
           by_cases c18 : (ji16) < (a0.size : Int)
           ·rw [if_pos c18] at H
            have c18b0 : decide ((ji16) < (a0.size : Int)) = true := decide_eq_true c18
            clear c18
            have H' := Aside0.mk H
            clear H
            have p19 : 0 ≤ ((ji16) : Int) := of_decide_eq_true (by first | (with_reducible assumption) | assumption)
            have q19 : (ji16) < (a0.size : Int) := of_decide_eq_true (by first | (with_reducible assumption) | assumption)
            have hx19 := bt_at a0 (ji16)
            replace p19 := eq_true p19
            replace q19 := eq_true q19
            go_wp2
            go_meet
            case rel => exact ⟨_, (((bt a0 (ji16)) == 10)), (by first | rfl | (simp; done) | (simp only [← hji16] <;> (first | rfl | simp)) | (simp [*]; done)), H', ⟨by have := HK1.out; first | omega | exact Nat.le_refl _⟩, ⟨by (with_reducible repeat (first | apply Kd.R_alloc | apply Kd.R_drewN | apply Kd.R_drew)); exact HO_4.out⟩, ⟨by repeat (first | (with_reducible first | exact HB.out | apply below_alloc | apply pw_below_drewN | apply below_drew1) | exact HB.out)⟩⟩
           ·rw [if_neg c18] at H
            exact absurd H (by simp)
          ·rw [if_neg c17] at H
           exact absurd H (by simp)
        case rest =>
         clear HC14
         try clear c1
         try clear p1
         try clear q1
         try clear hx1
         try clear c2
         try clear c2b0
         try clear c2b1
         try clear p2
         try clear c3
         try clear c5
         try clear c5b0
         try clear c6
         try clear c6b0
         try clear p6
         try clear c7
         try clear c7b0
         try clear p8
         try clear q8
         try clear hx8
         try clear c9
         try clear c9b0
         try clear c9b1
         try clear c10
         try clear p12
         try clear q12
         try clear hx12
         try clear c15
         try clear c15b0
         try clear c15b1
         try clear c17
         try clear c17b0
         try clear c18
         try clear c18b0
         try clear p19
         try clear q19
         try clear hx19
         try clear p12
         try clear p19
         try clear p2
         try clear p8
         try clear q12
         try clear q19
         try clear q8
         obtain ⟨kq, x8_13, rfl, HA, HJ13, HO_4, HB⟩ := hcut
         cases kq with
         | zero => exact absurd HA.out (by simp [impl_EncodeQuoted.j1])
         | succ kj13 =>
          have H := HA.out
          clear HA
          simp only [impl_EncodeQuoted.j1] at H
          have HC20 := Aside0.mk H
          clear H
          go_upto_region 11 with (fail)
          go_cut [67] (fun v67 wc => ∃ (kq : Nat) (x67_19 : Bool), v67 = .bool x67_19 ∧ Aside0 (impl_EncodeQuoted.j2 kq a0 x4_1 x5_1 x15_1 t201 (a0.size : Int) x15_1 x67_19 = some (r1, r2)) ∧ Aside0 (kq ≤ kj13) ∧ Aside0 (Kd.R Kd.string 9 wc w.heap.size (fun _ => True) u4 x4_1) ∧ Aside0 (Below w.heap.size w wc))
          case first =>
           have H := HC20.out
           clear HC20
           by_cases c21 : 0 ≤ x15_1
           ·rw [if_pos c21] at H
            have c21b0 : decide (0 ≤ x15_1) = true := decide_eq_true c21
            clear c21
            (first | rw [c21b0] | (simp only [i64_w, i32_w]; rw [c21b0]) | skip)
            by_cases c22 : x15_1 < (a0.size : Int)
            ·rw [if_pos c22] at H
             have c22b0 : decide (x15_1 < (a0.size : Int)) = true := decide_eq_true c22
             clear c22
             by_cases c24 : (bt a0 x15_1) ≥ 33
             ·rw [if_pos c24] at H
              have c24b0 : decide (33 ≤ (bt a0 x15_1)) = true := decide_eq_true c24
              clear c24
              by_cases c26 : (bt a0 x15_1) ≤ 126
              ·rw [if_pos c26] at H
               have c26b0 : decide ((bt a0 x15_1) ≤ 126) = true := decide_eq_true c26
               clear c26
               by_cases c28 : (bt a0 x15_1) = 61
               ·rw [if_pos c28] at H
                have c28b0 : ((bt a0 x15_1) == 61) = true := beq_iff_eq.mpr c28
                have c28b1 : ((bt a0 x15_1) != 61) = false := bne_eq_false_iff_eq.mpr c28
                clear c28
                by_cases c30 : (bt a0 x15_1) = 32
                ·rw [if_pos c30] at H
                 have c30b0 : ((bt a0 x15_1) == 32) = true := beq_iff_eq.mpr c30
                 have c30b1 : ((bt a0 x15_1) != 32) = false := bne_eq_false_iff_eq.mpr c30
                 clear c30
                 have H' := Aside0.mk H
                 clear H
                 have p23 : 0 ≤ (x15_1 : Int) := of_decide_eq_true (by first | (with_reducible assumption) | assumption)
                 have q23 : x15_1 < (a0.size : Int) := of_decide_eq_true (by first | (with_reducible assumption) | assumption)
                 have hx23 := bt_at a0 x15_1
                 replace p23 := eq_true p23
                 replace q23 := eq_true q23
                 have p25 : 0 ≤ (x15_1 : Int) := of_decide_eq_true (by first | (with_reducible assumption) | assumption)
                 have q25 : x15_1 < (a0.size : Int) := of_decide_eq_true (by first | (with_reducible assumption) | assumption)
                 have hx25 := bt_at a0 x15_1
                 replace p25 := eq_true p25
                 replace q25 := eq_true q25
                 have p27 : 0 ≤ (x15_1 : Int) := of_decide_eq_true (by first | (with_reducible assumption) | assumption)
                 have q27 : x15_1 < (a0.size : Int) := of_decide_eq_true (by first | (with_reducible assumption) | assumption)
                 have hx27 := bt_at a0 x15_1
                 replace p27 := eq_true p27
                 replace q27 := eq_true q27
                 have p29 : 0 ≤ (x15_1 : Int) := of_decide_eq_true (by first | (with_reducible assumption) | assumption)
                 have q29 : x15_1 < (a0.size : Int) := of_decide_eq_true (by first | (with_reducible assumption) | assumption)
                 have hx29 := bt_at a0 x15_1
                 replace p29 := eq_true p29
                 replace q29 := eq_true q29
                 go_wp2
                 go_meet
                 case rel => exact ⟨_, (!x8_13), (by first | rfl | (simp; done) | (simp [*]; done)), H', ⟨by have := HK1.out; have := HJ13.out; first | omega | exact Nat.le_refl _⟩, ⟨by (with_reducible repeat (first | apply Kd.R_alloc | apply Kd.R_drewN | apply Kd.R_drew)); exact HO_4.out⟩, ⟨by repeat (first | (with_reducible first | exact HB.out | apply below_alloc | apply pw_below_drewN | apply below_drew1) | exact HB.out)⟩⟩
                ·rw [if_neg c30] at H
                 have c30b0 : ((bt a0 x15_1) == 32) = false := beq_eq_false_iff_ne.mpr c30
                 have c30b1 : ((bt a0 x15_1) != 32) = true := bne_iff_ne.mpr c30
                 have H' := Aside0.mk H
                 clear H
                 have p23 : 0 ≤ (x15_1 : Int) := of_decide_eq_true (by first | (with_reducible assumption) | assumption)
                 have q23 : x15_1 < (a0.size : Int) := of_decide_eq_true (by first | (with_reducible assumption) | assumption)
                 have hx23 := bt_at a0 x15_1
                 replace p23 := eq_true p23
                 replace q23 := eq_true q23
                 have p25 : 0 ≤ (x15_1 : Int) := of_decide_eq_true (by first | (with_reducible assumption) | assumption)
                 have q25 : x15_1 < (a0.size : Int) := of_decide_eq_true (by first | (with_reducible assumption) | assumption)
                 have hx25 := bt_at a0 x15_1
                 replace p25 := eq_true p25
                 replace q25 := eq_true q25
                 have p27 : 0 ≤ (x15_1 : Int) := of_decide_eq_true (by first | (with_reducible assumption) | assumption)
                 have q27 : x15_1 < (a0.size : Int) := of_decide_eq_true (by first | (with_reducible assumption) | assumption)
                 have hx27 := bt_at a0 x15_1
                 replace p27 := eq_true p27
                 replace q27 := eq_true q27
                 have p29 : 0 ≤ (x15_1 : Int) := of_decide_eq_true (by first | (with_reducible assumption) | assumption)
                 have q29 : x15_1 < (a0.size : Int) := of_decide_eq_true (by first | (with_reducible assumption) | assumption)
                 have hx29 := bt_at a0 x15_1
                 replace p29 := eq_true p29
                 replace q29 := eq_true q29
                 go_wp2
                 go_meet
                 case rel => exact ⟨_, (false), (by first | rfl | (simp; done) | (simp [*]; done)), H', ⟨by have := HK1.out; have := HJ13.out; first | omega | exact Nat.le_refl _⟩, ⟨by (with_reducible repeat (first | apply Kd.R_alloc | apply Kd.R_drewN | apply Kd.R_drew)); exact HO_4.out⟩, ⟨by repeat (first | (with_reducible first | exact HB.out | apply below_alloc | apply pw_below_drewN | apply below_drew1) | exact HB.out)⟩⟩
               ·rw [if_neg c28] at H
                have c28b0 : ((bt a0 x15_1) == 61) = false := beq_eq_false_iff_ne.mpr c28
                have c28b1 : ((bt a0 x15_1) != 61) = true := bne_iff_ne.mpr c28
                have H' := Aside0.mk H
                clear H
                have p23 : 0 ≤ (x15_1 : Int) := of_decide_eq_true (by first | (with_reducible assumption) | assumption)
                have q23 : x15_1 < (a0.size : Int) := of_decide_eq_true (by first | (with_reducible assumption) | assumption)
                have hx23 := bt_at a0 x15_1
                replace p23 := eq_true p23
                replace q23 := eq_true q23
                have p25 : 0 ≤ (x15_1 : Int) := of_decide_eq_true (by first | (with_reducible assumption) | assumption)
                have q25 : x15_1 < (a0.size : Int) := of_decide_eq_true (by first | (with_reducible assumption) | assumption)
                have hx25 := bt_at a0 x15_1
                replace p25 := eq_true p25
                replace q25 := eq_true q25
                have p27 : 0 ≤ (x15_1 : Int) := of_decide_eq_true (by first | (with_reducible assumption) | assumption)
                have q27 : x15_1 < (a0.size : Int) := of_decide_eq_true (by first | (with_reducible assumption) | assumption)
                have hx27 := bt_at a0 x15_1
                replace p27 := eq_true p27
                replace q27 := eq_true q27
                go_wp2
                go_meet
                case rel => exact ⟨_, (true), (by first | rfl | (simp; done) | (simp [*]; done)), H', ⟨by have := HK1.out; have := HJ13.out; first | omega | exact Nat.le_refl _⟩, ⟨by (with_reducible repeat (first | apply Kd.R_alloc | apply Kd.R_drewN | apply Kd.R_drew)); exact HO_4.out⟩, ⟨by repeat (first | (with_reducible first | exact HB.out | apply below_alloc | apply pw_below_drewN | apply below_drew1) | exact HB.out)⟩⟩
              ·rw [if_neg c26] at H
               have c26b0 : decide ((bt a0 x15_1) ≤ 126) = false := decide_eq_false c26
               clear c26
               by_cases c32 : (bt a0 x15_1) = 32
               ·rw [if_pos c32] at H
                have c32b0 : ((bt a0 x15_1) == 32) = true := beq_iff_eq.mpr c32
                have c32b1 : ((bt a0 x15_1) != 32) = false := bne_eq_false_iff_eq.mpr c32
                clear c32
                have H' := Aside0.mk H
                clear H
                have p23 : 0 ≤ (x15_1 : Int) := of_decide_eq_true (by first | (with_reducible assumption) | assumption)
                have q23 : x15_1 < (a0.size : Int) := of_decide_eq_true (by first | (with_reducible assumption) | assumption)
                have hx23 := bt_at a0 x15_1
                replace p23 := eq_true p23
                replace q23 := eq_true q23
                have p25 : 0 ≤ (x15_1 : Int) := of_decide_eq_true (by first | (with_reducible assumption) | assumption)
                have q25 : x15_1 < (a0.size : Int) := of_decide_eq_true (by first | (with_reducible assumption) | assumption)
                have hx25 := bt_at a0 x15_1
                replace p25 := eq_true p25
                replace q25 := eq_true q25
                have p31 : 0 ≤ (x15_1 : Int) := of_decide_eq_true (by first | (with_reducible assumption) | assumption)
                have q31 : x15_1 < (a0.size : Int) := of_decide_eq_true (by first | (with_reducible assumption) | assumption)
                have hx31 := bt_at a0 x15_1
                replace p31 := eq_true p31
                replace q31 := eq_true q31
                go_wp2
                go_meet
                case rel => exact ⟨_, (!x8_13), (by first | rfl | (simp; done) | (simp [*]; done)), H', ⟨by have := HK1.out; have := HJ13.out; first | omega | exact Nat.le_refl _⟩, ⟨by (with_reducible repeat (first | apply Kd.R_alloc | apply Kd.R_drewN | apply Kd.R_drew)); exact HO_4.out⟩, ⟨by repeat (first | (with_reducible first | exact HB.out | apply below_alloc | apply pw_below_drewN | apply below_drew1) | exact HB.out)⟩⟩
               ·rw [if_neg c32] at H
                have c32b0 : ((bt a0 x15_1) == 32) = false := beq_eq_false_iff_ne.mpr c32
                have c32b1 : ((bt a0 x15_1) != 32) = true := bne_iff_ne.mpr c32
                have H' := Aside0.mk H
                clear H
                have p23 : 0 ≤ (x15_1 : Int) := of_decide_eq_true (by first | (with_reducible assumption) | assumption)
                have q23 : x15_1 < (a0.size : Int) := of_decide_eq_true (by first | (with_reducible assumption) | assumption)
                have hx23 := bt_at a0 x15_1
                replace p23 := eq_true p23
                replace q23 := eq_true q23
                have p25 : 0 ≤ (x15_1 : Int) := of_decide_eq_true (by first | (with_reducible assumption) | assumption)
                have q25 : x15_1 < (a0.size : Int) := of_decide_eq_true (by first | (with_reducible assumption) | assumption)
                have hx25 := bt_at a0 x15_1
                replace p25 := eq_true p25
                replace q25 := eq_true q25
                have p31 : 0 ≤ (x15_1 : Int) := of_decide_eq_true (by first | (with_reducible assumption) | assumption)
                have q31 : x15_1 < (a0.size : Int) := of_decide_eq_true (by first | (with_reducible assumption) | assumption)
                have hx31 := bt_at a0 x15_1
                replace p31 := eq_true p31
                replace q31 := eq_true q31
                go_wp2
                go_meet
                case rel => exact ⟨_, (false), (by first | rfl | (simp; done) | (simp [*]; done)), H', ⟨by have := HK1.out; have := HJ13.out; first | omega | exact Nat.le_refl _⟩, ⟨by (with_reducible repeat (first | apply Kd.R_alloc | apply Kd.R_drewN | apply Kd.R_drew)); exact HO_4.out⟩, ⟨by repeat (first | (with_reducible first | exact HB.out | apply below_alloc | apply pw_below_drewN | apply below_drew1) | exact HB.out)⟩⟩
             ·rw [if_neg c24] at H
              have c24b0 : decide (33 ≤ (bt a0 x15_1)) = false := decide_eq_false c24
              clear c24
              by_cases c34 : (bt a0 x15_1) = 32
              ·rw [if_pos c34] at H
               have c34b0 : ((bt a0 x15_1) == 32) = true := beq_iff_eq.mpr c34
               have c34b1 : ((bt a0 x15_1) != 32) = false := bne_eq_false_iff_eq.mpr c34
               clear c34
               have H' := Aside0.mk H
               clear H
               have p23 : 0 ≤ (x15_1 : Int) := of_decide_eq_true (by first | (with_reducible assumption) | assumption)
               have q23 : x15_1 < (a0.size : Int) := of_decide_eq_true (by first | (with_reducible assumption) | assumption)
               have hx23 := bt_at a0 x15_1
               replace p23 := eq_true p23
               replace q23 := eq_true q23
               have p33 : 0 ≤ (x15_1 : Int) := of_decide_eq_true (by first | (with_reducible assumption) | assumption)
               have q33 : x15_1 < (a0.size : Int) := of_decide_eq_true (by first | (with_reducible assumption) | assumption)
               have hx33 := bt_at a0 x15_1
               replace p33 := eq_true p33
               replace q33 := eq_true q33
               go_wp2
               go_meet
               case rel => exact ⟨_, (!x8_13), (by first | rfl | (simp; done) | (simp [*]; done)), H', ⟨by have := HK1.out; have := HJ13.out; first | omega | exact Nat.le_refl _⟩, ⟨by (with_reducible repeat (first | apply Kd.R_alloc | apply Kd.R_drewN | apply Kd.R_drew)); exact HO_4.out⟩, ⟨by repeat (first | (with_reducible first | exact HB.out | apply below_alloc | apply pw_below_drewN | apply below_drew1) | exact HB.out)⟩⟩
              ·rw [if_neg c34] at H
               have c34b0 : ((bt a0 x15_1) == 32) = false := beq_eq_false_iff_ne.mpr c34
               have c34b1 : ((bt a0 x15_1) != 32) = true := bne_iff_ne.mpr c34
               have H' := Aside0.mk H
               clear H
               have p23 : 0 ≤ (x15_1 : Int) := of_decide_eq_true (by first | (with_reducible assumption) | assumption)
               have q23 : x15_1 < (a0.size : Int) := of_decide_eq_true (by first | (with_reducible assumption) | assumption)
               have hx23 := bt_at a0 x15_1
               replace p23 := eq_true p23
               replace q23 := eq_true q23
               have p33 : 0 ≤ (x15_1 : Int) := of_decide_eq_true (by first | (with_reducible assumption) | assumption)
               have q33 : x15_1 < (a0.size : Int) := of_decide_eq_true (by first | (with_reducible assumption) | assumption)
               have hx33 := bt_at a0 x15_1
               replace p33 := eq_true p33
               replace q33 := eq_true q33
               go_wp2
               go_meet
               case rel => exact ⟨_, (false), (by first | rfl | (simp; done) | (simp [*]; done)), H', ⟨by have := HK1.out; have := HJ13.out; first | omega | exact Nat.le_refl _⟩, ⟨by (with_reducible repeat (first | apply Kd.R_alloc | apply Kd.R_drewN | apply Kd.R_drew)); exact HO_4.out⟩, ⟨by repeat (first | (with_reducible first | exact HB.out | apply below_alloc | apply pw_below_drewN | apply below_drew1) | exact HB.out)⟩⟩
            ·rw [if_neg c22] at H
             exact absurd H (by simp)
           ·rw [if_neg c21] at H
            exact absurd H (by simp)
          case rest =>
           clear HC20
           try clear c1
           try clear p1
           try clear q1
           try clear hx1
           try clear c2
           try clear c2b0
           try clear c2b1
           try clear p2
           try clear q2
           try clear hx2
           try clear c3
           try clear p3
           try clear q3
           try clear hx3
           try clear c5
           try clear c5b0
           try clear c6
           try clear c6b0
           try clear p6
           try clear c7
           try clear c7b0
           try clear p8
           try clear q8
           try clear hx8
           try clear c9
           try clear c9b0
           try clear c9b1
           try clear c10
           try clear p12
           try clear q12
           try clear hx12
           try clear c15
           try clear c15b0
           try clear c15b1
           try clear c17
           try clear c17b0
           try clear c18
           try clear c18b0
           try clear p19
           try clear q19
           try clear hx19
           try clear c21
           try clear c21b0
           try clear c22
           try clear c22b0
           try clear p23
           try clear q23
           try clear hx23
           try clear c24
           try clear c24b0
           try clear p25
           try clear q25
           try clear hx25
           try clear c26
           try clear c26b0
           try clear p27
           try clear q27
           try clear hx27
           try clear c28
           try clear c28b0
           try clear c28b1
           try clear p29
           try clear q29
           try clear hx29
           try clear c30
           try clear c30b0
           try clear c30b1
           try clear p31
           try clear q31
           try clear hx31
           try clear c32
           try clear c32b0
           try clear c32b1
           try clear p33
           try clear q33
           try clear hx33
           try clear c34
           try clear c34b0
           try clear c34b1
           try clear p1
           try clear p12
           try clear p19
           try clear p2
           try clear p23
           try clear p25
           try clear p27
           try clear p29
           try clear p31
           try clear p33
           try clear p6
           try clear p8
           try clear q1
           try clear q12
           try clear q19
           try clear q23
           try clear q25
           try clear q27
           try clear q29
           try clear q31
           try clear q33
           try clear q8
           obtain ⟨kq, x67_19, rfl, HA, HJ19, HO_4, HB⟩ := hcut
           cases kq with
           | zero => exact absurd HA.out (by simp [impl_EncodeQuoted.j2])
           | succ kj19 =>
            have H := HA.out
            clear HA
            simp only [impl_EncodeQuoted.j2] at H
            by_cases c35 : x67_19 = true
            ·subst c35
             have H1 : (if 0 ≤ x15_1 then (if x15_1 ≤ (wrap64 (x15_1 + 1)) then (if (wrap64 (x15_1 + 1)) ≤ (a0.size : Int) then (if (wrap64 ((x5_1.size : Int) + ((a0.extract (x15_1 : Int).toNat ((wrap64 (x15_1 + 1)) : Int).toNat).size : Int))) > 39 then (if x5_1.size + 1 ≤ 9223372036854775807 then (if x4_1.length < 8796093022208 then (if 0 + (a0.extract (x15_1 : Int).toNat ((wrap64 (x15_1 + 1)) : Int).toNat).size ≤ 9223372036854775807 then (impl_EncodeQuoted.l0 kj19 a0 (x4_1 ++ [x5_1 ++ (⟨#[61]⟩ : ByteArray)]) ((⟨#[]⟩ : ByteArray) ++ (a0.extract (x15_1 : Int).toNat ((wrap64 (x15_1 + 1)) : Int).toNat)) (a0.size : Int) (wrap64 (x15_1 + 1))) else (none)) else (none)) else (none)) else (if x5_1.size + (a0.extract (x15_1 : Int).toNat ((wrap64 (x15_1 + 1)) : Int).toNat).size ≤ 9223372036854775807 then (impl_EncodeQuoted.l0 kj19 a0 x4_1 (x5_1 ++ (a0.extract (x15_1 : Int).toNat ((wrap64 (x15_1 + 1)) : Int).toNat)) (a0.size : Int) (wrap64 (x15_1 + 1))) else (none))) else (none)) else (none)) else (none)) = some (r1, r2) := by rw [if_pos rfl] at H; exact H
             clear H
             have H := H1
             clear H1
             by_cases c36 : 0 ≤ x15_1
             ·rw [if_pos c36] at H
              have c36b0 := eq_true c36
              have c36b1 : decide (0 ≤ x15_1) = true := decide_eq_true c36
              clear c36
              by_cases c37 : x15_1 ≤ (wrap64 (x15_1 + 1))
              ·rw [if_pos c37] at H
               have c37b0 := eq_true c37
               have c37b1 : decide (x15_1 ≤ (wrap64 (x15_1 + 1))) = true := decide_eq_true c37
               by_cases c38 : (wrap64 (x15_1 + 1)) ≤ (a0.size : Int)
               ·rw [if_pos c38] at H
                have c38b0 := eq_true c38
                have c38b1 : decide ((wrap64 (x15_1 + 1)) ≤ (a0.size : Int)) = true := decide_eq_true c38
                by_cases c39 : (wrap64 ((x5_1.size : Int) + ((a0.extract (x15_1 : Int).toNat ((wrap64 (x15_1 + 1)) : Int).toNat).size : Int))) > 39
                ·rw [if_pos c39] at H
                 have c39b0 : decide (39 < (wrap64 ((x5_1.size : Int) + ((a0.extract (x15_1 : Int).toNat ((wrap64 (x15_1 + 1)) : Int).toNat).size : Int)))) = true := decide_eq_true c39
                 (try (have c39b0z := c39b0; simp only [ByteArray.size_extract] at c39b0z))
                 (try (have c39b0x := c39b0; rw [show (a0.extract (x15_1 : Int).toNat ((wrap64 (x15_1 + 1)) : Int).toNat).size = ((wrap64 (x15_1 + 1)) : Int).toNat - (x15_1 : Int).toNat from by (simp only [ByteArray.size_extract]; omega)] at c39b0x; (try rw [Nat.zero_add] at c39b0x)))
                 clear c39
                 by_cases c40 : x5_1.size + 1 ≤ 9223372036854775807
                 ·rw [if_pos c40] at H
                  have c40b0 := eq_true c40
                  have c40b1 : decide (x5_1.size + 1 ≤ 9223372036854775807) = true := decide_eq_true c40
                  try have c40b2 : (9223372036854775807 < x5_1.size + 1) = False := eq_false (Nat.not_lt.2 c40)
                  (try (have c39b0u : decide (39 < ((x5_1.size : Int) + ((a0.extract (x15_1 : Int).toNat ((wrap64 (x15_1 + 1)) : Int).toNat).size : Int))) = true := by (have w_ : wrap64 ((x5_1.size : Int) + ((a0.extract (x15_1 : Int).toNat ((wrap64 (x15_1 + 1)) : Int).toNat).size : Int)) = ((x5_1.size : Int) + ((a0.extract (x15_1 : Int).toNat ((wrap64 (x15_1 + 1)) : Int).toNat).size : Int)) := by (unfold wrap64; omega)); rw [← w_]; exact c39b0))
                  (try (have c39b0ux := c39b0u; rw [show (a0.extract (x15_1 : Int).toNat ((wrap64 (x15_1 + 1)) : Int).toNat).size = ((wrap64 (x15_1 + 1)) : Int).toNat - (x15_1 : Int).toNat from by (simp only [ByteArray.size_extract]; omega)] at c39b0ux; (try rw [Nat.zero_add] at c39b0ux)))
                  by_cases c41 : x4_1.length < 8796093022208
                  ·rw [if_pos c41] at H
                   have LMc41 := Aside0.mk c41
                   clear c41
                   obtain ⟨y202, hy202⟩ : ∃ y_ : List ByteArray, y_ = (x4_1 ++ [x5_1 ++ (⟨#[61]⟩ : ByteArray)]) := ⟨_, rfl⟩
                   replace H : (if 0 + (a0.extract (x15_1 : Int).toNat ((wrap64 (x15_1 + 1)) : Int).toNat).size ≤ 9223372036854775807 then (impl_EncodeQuoted.l0 kj19 a0 y202 ((⟨#[]⟩ : ByteArray) ++ (a0.extract (x15_1 : Int).toNat ((wrap64 (x15_1 + 1)) : Int).toNat)) (a0.size : Int) (wrap64 (x15_1 + 1))) else (none)) = some (r1, r2) := by first | (rw [hy202]; with_reducible exact H) | (have H2_ := (Option.bind_some _ _).symm.trans H; rw [hy202]; with_reducible exact H2_) | (have H2_ := (Option.bind_some _ _).symm.trans H; with_reducible exact H2_) | with_reducible exact H | (rw [hy202]; exact H) | exact H
                   have Ny202 := Aside0.mk hy202
                   clear hy202
                   by_cases c42 : 0 + (a0.extract (x15_1 : Int).toNat ((wrap64 (x15_1 + 1)) : Int).toNat).size ≤ 9223372036854775807
                   ·rw [if_pos c42] at H
                    have c42b0 := eq_true c42
                    have c42b1 : decide (0 + (a0.extract (x15_1 : Int).toNat ((wrap64 (x15_1 + 1)) : Int).toNat).size ≤ 9223372036854775807) = true := decide_eq_true c42
                    (try (have c42b1z := c42b1; simp only [ByteArray.size_extract] at c42b1z))
                    try have c42b2 : (9223372036854775807 < 0 + (a0.extract (x15_1 : Int).toNat ((wrap64 (x15_1 + 1)) : Int).toNat).size) = False := eq_false (Nat.not_lt.2 c42)
                    (try (have c42b0x := c42b0; rw [show (a0.extract (x15_1 : Int).toNat ((wrap64 (x15_1 + 1)) : Int).toNat).size = ((wrap64 (x15_1 + 1)) : Int).toNat - (x15_1 : Int).toNat from by (simp only [ByteArray.size_extract]; omega)] at c42b0x; (try rw [Nat.zero_add] at c42b0x)))
                    (try (have c42b1x := c42b1; rw [show (a0.extract (x15_1 : Int).toNat ((wrap64 (x15_1 + 1)) : Int).toNat).size = ((wrap64 (x15_1 + 1)) : Int).toNat - (x15_1 : Int).toNat from by (simp only [ByteArray.size_extract]; omega)] at c42b1x; (try rw [Nat.zero_add] at c42b1x)))
                    (try (have c42b2x := c42b2; rw [show (a0.extract (x15_1 : Int).toNat ((wrap64 (x15_1 + 1)) : Int).toNat).size = ((wrap64 (x15_1 + 1)) : Int).toNat - (x15_1 : Int).toNat from by (simp only [ByteArray.size_extract]; omega)] at c42b2x; (try rw [Nat.zero_add] at c42b2x)))
                    (try (have c39b0u : decide (39 < ((x5_1.size : Int) + ((a0.extract (x15_1 : Int).toNat ((wrap64 (x15_1 + 1)) : Int).toNat).size : Int))) = true := by (have w_ : wrap64 ((x5_1.size : Int) + ((a0.extract (x15_1 : Int).toNat ((wrap64 (x15_1 + 1)) : Int).toNat).size : Int)) = ((x5_1.size : Int) + ((a0.extract (x15_1 : Int).toNat ((wrap64 (x15_1 + 1)) : Int).toNat).size : Int)) := by (unfold wrap64; omega)); rw [← w_]; exact c39b0))
                    (try (have c39b0ux := c39b0u; rw [show (a0.extract (x15_1 : Int).toNat ((wrap64 (x15_1 + 1)) : Int).toNat).size = ((wrap64 (x15_1 + 1)) : Int).toNat - (x15_1 : Int).toNat from by (simp only [ByteArray.size_extract]; omega)] at c39b0ux; (try rw [Nat.zero_add] at c39b0ux)))
                    have H' := Aside0.mk H
                    clear H
                    go_wp2_with (first | ((with_reducible refine gate_builtin (b := .append) (xs := #[.tmp 79, .tmp 82]) rfl ?_); at_builtin; refine Kd.R_append Kd.string (w0 := w) w.heap.size rfl (.tmp 79) (.tmp 82) 25 9 (.string ⟨#[]⟩) 16 rfl Tryd.underlying25 info9 rfl (by decide) (by omega) u4 x4_1 (x5_1 ++ (⟨#[61]⟩ : ByteArray)) [.string (x5_1 ++ (⟨#[61]⟩ : ByteArray))] (fun _ => True) (fun _ => False) rfl rfl ?aP (fun _ hk => hk.elim) ?aF ?aO ?aB ?aS ?aL ?_; (case aP => exact rfl); (case aB => exact (by repeat (first | (with_reducible first | exact HB.out | apply below_alloc | apply pw_below_drewN | apply below_drew1) | exact HB.out))); (case aF => exact (fun _ _ => trivial)); (case aO => exact (by (with_reducible repeat (first | apply Kd.R_alloc | apply Kd.R_drewN | apply Kd.R_drew)); exact HO_4.out)); (case aS => exact (below_size (by repeat (first | (with_reducible first | exact HB.out | apply below_alloc | apply pw_below_drewN | apply below_drew1) | exact HB.out)))); (case aL => have := LMc41.out; omega); intro v203 w43 ho hb hg hat; rw [← Ny202.out] at ho; have n0_ := Aside0.mk (hb); have n1_ := Aside0.mk (ho); clear HB; clear HO_4; have HB := n0_; have HO204 := n1_; clear n0_ n1_; clear ho hb hg hat))
                    go_roundg kj19
                    case measure => have := HK1.out; have := HJ13.out; have := HJ19.out; omega
                    case rel => exact ⟨(y202), ((⟨#[]⟩ : ByteArray) ++ (a0.extract (x15_1 : Int).toNat ((wrap64 (x15_1 + 1)) : Int).toNat)), (wrap64 (x15_1 + 1)), (by first | rfl | (simp; done) | (simp [*]; done)), (by first | rfl | (simp; done) | (simp [*]; done)), H', ⟨by have := HK1.out; have := HJ13.out; have := HJ19.out; omega⟩, ⟨by (with_reducible repeat (first | apply Kd.R_alloc | apply Kd.R_drewN | apply Kd.R_drew)); exact HO204.out⟩, ⟨by repeat (first | (with_reducible first | exact HB.out | apply below_alloc | apply pw_below_drewN | apply below_drew1) | exact HB.out)⟩⟩
                   ·rw [if_neg c42] at H
                    exact absurd H (by simp)
                  ·rw [if_neg c41] at H
                   exact absurd H (by simp)
                 ·rw [if_neg c40] at H
                  exact absurd H (by simp)
                ·rw [if_neg c39] at H
                 have c39b0 : decide (39 < (wrap64 ((x5_1.size : Int) + ((a0.extract (x15_1 : Int).toNat ((wrap64 (x15_1 + 1)) : Int).toNat).size : Int)))) = false := decide_eq_false c39
                 (try (have c39b0z := c39b0; simp only [ByteArray.size_extract] at c39b0z))
                 (try (have c39b0x := c39b0; rw [show (a0.extract (x15_1 : Int).toNat ((wrap64 (x15_1 + 1)) : Int).toNat).size = ((wrap64 (x15_1 + 1)) : Int).toNat - (x15_1 : Int).toNat from by (simp only [ByteArray.size_extract]; omega)] at c39b0x; (try rw [Nat.zero_add] at c39b0x)))
                 clear c39
                 by_cases c44 : x5_1.size + (a0.extract (x15_1 : Int).toNat ((wrap64 (x15_1 + 1)) : Int).toNat).size ≤ 9223372036854775807
                 ·rw [if_pos c44] at H
                  have c44b0 := eq_true c44
                  have c44b1 : decide (x5_1.size + (a0.extract (x15_1 : Int).toNat ((wrap64 (x15_1 + 1)) : Int).toNat).size ≤ 9223372036854775807) = true := decide_eq_true c44
                  (try (have c44b1z := c44b1; simp only [ByteArray.size_extract] at c44b1z))
                  try have c44b2 : (9223372036854775807 < x5_1.size + (a0.extract (x15_1 : Int).toNat ((wrap64 (x15_1 + 1)) : Int).toNat).size) = False := eq_false (Nat.not_lt.2 c44)
                  (try (have c44b0x := c44b0; rw [show (a0.extract (x15_1 : Int).toNat ((wrap64 (x15_1 + 1)) : Int).toNat).size = ((wrap64 (x15_1 + 1)) : Int).toNat - (x15_1 : Int).toNat from by (simp only [ByteArray.size_extract]; omega)] at c44b0x; (try rw [Nat.zero_add] at c44b0x)))
                  (try (have c44b1x := c44b1; rw [show (a0.extract (x15_1 : Int).toNat ((wrap64 (x15_1 + 1)) : Int).toNat).size = ((wrap64 (x15_1 + 1)) : Int).toNat - (x15_1 : Int).toNat from by (simp only [ByteArray.size_extract]; omega)] at c44b1x; (try rw [Nat.zero_add] at c44b1x)))
                  (try (have c44b2x := c44b2; rw [show (a0.extract (x15_1 : Int).toNat ((wrap64 (x15_1 + 1)) : Int).toNat).size = ((wrap64 (x15_1 + 1)) : Int).toNat - (x15_1 : Int).toNat from by (simp only [ByteArray.size_extract]; omega)] at c44b2x; (try rw [Nat.zero_add] at c44b2x)))
                  (try (have c39b0u : decide (39 < ((x5_1.size : Int) + ((a0.extract (x15_1 : Int).toNat ((wrap64 (x15_1 + 1)) : Int).toNat).size : Int))) = false := by (have w_ : wrap64 ((x5_1.size : Int) + ((a0.extract (x15_1 : Int).toNat ((wrap64 (x15_1 + 1)) : Int).toNat).size : Int)) = ((x5_1.size : Int) + ((a0.extract (x15_1 : Int).toNat ((wrap64 (x15_1 + 1)) : Int).toNat).size : Int)) := by (unfold wrap64; omega)); rw [← w_]; exact c39b0))
                  (try (have c39b0ux := c39b0u; rw [show (a0.extract (x15_1 : Int).toNat ((wrap64 (x15_1 + 1)) : Int).toNat).size = ((wrap64 (x15_1 + 1)) : Int).toNat - (x15_1 : Int).toNat from by (simp only [ByteArray.size_extract]; omega)] at c39b0ux; (try rw [Nat.zero_add] at c39b0ux)))
                  have H' := Aside0.mk H
                  clear H
                  go_wp2
                  go_roundg kj19
                  case measure => have := HK1.out; have := HJ13.out; have := HJ19.out; omega
                  case rel => exact ⟨(x4_1), (x5_1 ++ (a0.extract (x15_1 : Int).toNat ((wrap64 (x15_1 + 1)) : Int).toNat)), (wrap64 (x15_1 + 1)), (by first | rfl | (simp; done) | (simp [*]; done)), (by first | rfl | (simp; done) | (simp [*]; done)), H', ⟨by have := HK1.out; have := HJ13.out; have := HJ19.out; omega⟩, ⟨by (with_reducible repeat (first | apply Kd.R_alloc | apply Kd.R_drewN | apply Kd.R_drew)); exact HO_4.out⟩, ⟨by repeat (first | (with_reducible first | exact HB.out | apply below_alloc | apply pw_below_drewN | apply below_drew1) | exact HB.out)⟩⟩
                 ·rw [if_neg c44] at H
                  exact absurd H (by simp)
               ·rw [if_neg c38] at H
                exact absurd H (by simp)
              ·rw [if_neg c37] at H
               exact absurd H (by simp)
             ·rw [if_neg c36] at H
              exact absurd H (by simp)
            ·replace c35 := Bool.eq_false_iff.mpr c35
             subst c35
             have H1 : (if (wrap64 ((x5_1.size : Int) + (t201.size : Int))) > 39 then (if x5_1.size + 1 ≤ 9223372036854775807 then (if x4_1.length < 8796093022208 then (if 0 + t201.size ≤ 9223372036854775807 then (impl_EncodeQuoted.l0 kj19 a0 (x4_1 ++ [x5_1 ++ (⟨#[61]⟩ : ByteArray)]) ((⟨#[]⟩ : ByteArray) ++ t201) (a0.size : Int) (wrap64 (x15_1 + 1))) else (none)) else (none)) else (none)) else (if x5_1.size + t201.size ≤ 9223372036854775807 then (impl_EncodeQuoted.l0 kj19 a0 x4_1 (x5_1 ++ t201) (a0.size : Int) (wrap64 (x15_1 + 1))) else (none))) = some (r1, r2) := by rw [if_neg (show ¬ (false = true) by decide)] at H; exact H
             clear H
             have H := H1
             clear H1
             by_cases c45 : (wrap64 ((x5_1.size : Int) + (t201.size : Int))) > 39
             ·rw [if_pos c45] at H
              have c45b0 : decide (39 < (wrap64 ((x5_1.size : Int) + (t201.size : Int)))) = true := decide_eq_true c45
              clear c45
              by_cases c46 : x5_1.size + 1 ≤ 9223372036854775807
              ·rw [if_pos c46] at H
               have c46b0 := eq_true c46
               have c46b1 : decide (x5_1.size + 1 ≤ 9223372036854775807) = true := decide_eq_true c46
               try have c46b2 : (9223372036854775807 < x5_1.size + 1) = False := eq_false (Nat.not_lt.2 c46)
               (try (have c45b0u : decide (39 < ((x5_1.size : Int) + (t201.size : Int))) = true := by (have w_ : wrap64 ((x5_1.size : Int) + (t201.size : Int)) = ((x5_1.size : Int) + (t201.size : Int)) := by (unfold wrap64; omega)); rw [← w_]; exact c45b0))
               by_cases c47 : x4_1.length < 8796093022208
               ·rw [if_pos c47] at H
                have LMc47 := Aside0.mk c47
                clear c47
                obtain ⟨y205, hy205⟩ : ∃ y_ : List ByteArray, y_ = (x4_1 ++ [x5_1 ++ (⟨#[61]⟩ : ByteArray)]) := ⟨_, rfl⟩
                replace H : (if 0 + t201.size ≤ 9223372036854775807 then (impl_EncodeQuoted.l0 kj19 a0 y205 ((⟨#[]⟩ : ByteArray) ++ t201) (a0.size : Int) (wrap64 (x15_1 + 1))) else (none)) = some (r1, r2) := by first | (rw [hy205]; with_reducible exact H) | (have H2_ := (Option.bind_some _ _).symm.trans H; rw [hy205]; with_reducible exact H2_) | (have H2_ := (Option.bind_some _ _).symm.trans H; with_reducible exact H2_) | with_reducible exact H | (rw [hy205]; exact H) | exact H
                have Ny205 := Aside0.mk hy205
                clear hy205
                by_cases c48 : 0 + t201.size ≤ 9223372036854775807
                ·rw [if_pos c48] at H
                 have c48b0 := eq_true c48
                 have c48b1 : decide (0 + t201.size ≤ 9223372036854775807) = true := decide_eq_true c48
                 try have c48b2 : (9223372036854775807 < 0 + t201.size) = False := eq_false (Nat.not_lt.2 c48)
                 (try (have c45b0u : decide (39 < ((x5_1.size : Int) + (t201.size : Int))) = true := by (have w_ : wrap64 ((x5_1.size : Int) + (t201.size : Int)) = ((x5_1.size : Int) + (t201.size : Int)) := by (unfold wrap64; omega)); rw [← w_]; exact c45b0))
                 have H' := Aside0.mk H
                 clear H
                 go_wp2_with (first | ((with_reducible refine gate_builtin (b := .append) (xs := #[.tmp 79, .tmp 82]) rfl ?_); at_builtin; refine Kd.R_append Kd.string (w0 := w) w.heap.size rfl (.tmp 79) (.tmp 82) 25 9 (.string ⟨#[]⟩) 16 rfl Tryd.underlying25 info9 rfl (by decide) (by omega) u4 x4_1 (x5_1 ++ (⟨#[61]⟩ : ByteArray)) [.string (x5_1 ++ (⟨#[61]⟩ : ByteArray))] (fun _ => True) (fun _ => False) rfl rfl ?aP (fun _ hk => hk.elim) ?aF ?aO ?aB ?aS ?aL ?_; (case aP => exact rfl); (case aB => exact (by repeat (first | (with_reducible first | exact HB.out | apply below_alloc | apply pw_below_drewN | apply below_drew1) | exact HB.out))); (case aF => exact (fun _ _ => trivial)); (case aO => exact (by (with_reducible repeat (first | apply Kd.R_alloc | apply Kd.R_drewN | apply Kd.R_drew)); exact HO_4.out)); (case aS => exact (below_size (by repeat (first | (with_reducible first | exact HB.out | apply below_alloc | apply pw_below_drewN | apply below_drew1) | exact HB.out)))); (case aL => have := LMc47.out; omega); intro v206 w49 ho hb hg hat; rw [← Ny205.out] at ho; have n0_ := Aside0.mk (hb); have n1_ := Aside0.mk (ho); clear HB; clear HO_4; have HB := n0_; have HO207 := n1_; clear n0_ n1_; clear ho hb hg hat))
                 go_roundg kj19
                 case measure => have := HK1.out; have := HJ13.out; have := HJ19.out; omega
                 case rel => exact ⟨(y205), ((⟨#[]⟩ : ByteArray) ++ t201), (wrap64 (x15_1 + 1)), (by first | rfl | (simp; done) | (simp [*]; done)), (by first | rfl | (simp; done) | (simp [*]; done)), H', ⟨by have := HK1.out; have := HJ13.out; have := HJ19.out; omega⟩, ⟨by (with_reducible repeat (first | apply Kd.R_alloc | apply Kd.R_drewN | apply Kd.R_drew)); exact HO207.out⟩, ⟨by repeat (first | (with_reducible first | exact HB.out | apply below_alloc | apply pw_below_drewN | apply below_drew1) | exact HB.out)⟩⟩
                ·rw [if_neg c48] at H
                 exact absurd H (by simp)
               ·rw [if_neg c47] at H
                exact absurd H (by simp)
              ·rw [if_neg c46] at H
               exact absurd H (by simp)
             ·rw [if_neg c45] at H
              have c45b0 : decide (39 < (wrap64 ((x5_1.size : Int) + (t201.size : Int)))) = false := decide_eq_false c45
              clear c45
              by_cases c50 : x5_1.size + t201.size ≤ 9223372036854775807
              ·rw [if_pos c50] at H
               have c50b0 := eq_true c50
               have c50b1 : decide (x5_1.size + t201.size ≤ 9223372036854775807) = true := decide_eq_true c50
               try have c50b2 : (9223372036854775807 < x5_1.size + t201.size) = False := eq_false (Nat.not_lt.2 c50)
               (try (have c45b0u : decide (39 < ((x5_1.size : Int) + (t201.size : Int))) = false := by (have w_ : wrap64 ((x5_1.size : Int) + (t201.size : Int)) = ((x5_1.size : Int) + (t201.size : Int)) := by (unfold wrap64; omega)); rw [← w_]; exact c45b0))
               have H' := Aside0.mk H
               clear H
               go_wp2
               go_roundg kj19
               case measure => have := HK1.out; have := HJ13.out; have := HJ19.out; omega
               case rel => exact ⟨(x4_1), (x5_1 ++ t201), (wrap64 (x15_1 + 1)), (by first | rfl | (simp; done) | (simp [*]; done)), (by first | rfl | (simp; done) | (simp [*]; done)), H', ⟨by have := HK1.out; have := HJ13.out; have := HJ19.out; omega⟩, ⟨by (with_reducible repeat (first | apply Kd.R_alloc | apply Kd.R_drewN | apply Kd.R_drew)); exact HO_4.out⟩, ⟨by repeat (first | (with_reducible first | exact HB.out | apply below_alloc | apply pw_below_drewN | apply below_drew1) | exact HB.out)⟩⟩
              ·rw [if_neg c50] at H
               exact absurd H (by simp)
      ·rw [if_neg c7] at H
       exact absurd H (by simp)
     ·rw [if_neg c6] at H
      exact absurd H (by simp)
    ·rw [if_neg c5] at H
     have c5b0 : decide (x15_1 < (a0.size : Int)) = false := decide_eq_false c5
     clear c5
     by_cases c51 : x4_1.length < 8796093022208
     ·rw [if_pos c51] at H
      have LMc51 := Aside0.mk c51
      clear c51
      obtain ⟨y195, hy195⟩ : ∃ y_ : List ByteArray, y_ = (x4_1 ++ [x5_1]) := ⟨_, rfl⟩
      replace H : (some (y195, true)) = some (r1, r2) := by first | (rw [hy195]; with_reducible exact H) | (have H2_ := (Option.bind_some _ _).symm.trans H; rw [hy195]; with_reducible exact H2_) | (have H2_ := (Option.bind_some _ _).symm.trans H; with_reducible exact H2_) | with_reducible exact H | (rw [hy195]; exact H) | exact H
      have Ny195 := Aside0.mk hy195
      clear hy195
      simp only [Option.some.injEq, Prod.mk.injEq] at H
      obtain ⟨rfl, rfl⟩ := H
      go_wp2_with (first | ((with_reducible refine gate_builtin (b := .append) (xs := #[.tmp 88, .tmp 90]) rfl ?_); at_builtin; refine Kd.R_append Kd.string (w0 := w) w.heap.size rfl (.tmp 88) (.tmp 90) 25 9 (.string ⟨#[]⟩) 16 rfl Tryd.underlying25 info9 rfl (by decide) (by omega) u4 x4_1 x5_1 [.string x5_1] (fun _ => True) (fun _ => False) rfl rfl ?aP (fun _ hk => hk.elim) ?aF ?aO ?aB ?aS ?aL ?_; (case aP => exact rfl); (case aB => exact (by repeat (first | (with_reducible first | exact HB.out | apply below_alloc | apply pw_below_drewN | apply below_drew1) | exact HB.out))); (case aF => exact (fun _ _ => trivial)); (case aO => exact (by (with_reducible repeat (first | apply Kd.R_alloc | apply Kd.R_drewN | apply Kd.R_drew)); exact HO_4.out)); (case aS => exact (below_size (by repeat (first | (with_reducible first | exact HB.out | apply below_alloc | apply pw_below_drewN | apply below_drew1) | exact HB.out)))); (case aL => have := LMc51.out; omega); intro v196 w52 ho hb hg hat; rw [← Ny195.out] at ho; have n0_ := Aside0.mk (hb); have n1_ := Aside0.mk (ho); clear HB; clear HO_4; have HB := n0_; have HO197 := n1_; clear n0_ n1_; clear ho hb hg hat))
      go_ret2
      exact ⟨_, by first | rfl | (simp [errW_none, errW_some] <;> rfl) | (simp [*, errW_none, errW_some] <;> rfl), by (with_reducible repeat (first | apply Kd.R_alloc | apply Kd.R_drewN | apply Kd.R_drew)); exact HO197.out, by repeat (first | (with_reducible first | exact HB.out | apply below_alloc | apply pw_below_drewN | apply below_drew1) | exact HB.out)⟩
     ·rw [if_neg c51] at H
      exact absurd H (by simp)

end Go.Proofs.YtdkgbemlfajhcaaDoor.PFnBestCode
