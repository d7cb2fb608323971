/- Plain mathematics of letters for six binary digits, and of lines of forty; no program in sight. No conditions. -/
import Derived.Test.YtdkgbemlfajhcaaMStr
import Derived.Test.YtdkgbemlfajhcaaMQuot
import Derived.Test.YtdkgbemlfajhcaaWMore
namespace Go.Proofs.Ytdkgbemlfajhcaa.M
open Go.RowKit Go.Proofs.YtdkgbemlfajhcaaW.PrintWords Go.Proofs.YtdkgbemlfajhcaaW.PrintMore

def b64 : List UInt8 := [65, 66, 67, 68, 69, 70, 71, 72, 73, 74, 75, 76, 77, 78, 79, 80, 81, 82, 83, 84, 85, 86, 87, 88, 89, 90, 97, 98, 99, 100, 101, 102, 103, 104, 105, 106, 107, 108, 109, 110, 111, 112, 113, 114, 115, 116, 117, 118, 119, 120, 121, 122, 48, 49, 50, 51, 52, 53, 54, 55, 56, 57, 43, 47]
def let6 (n : Nat) : UInt8 := b64.getD n 0
theorem b64_length : b64.length = 64 := rfl

/-- The letters for bytes. -/
def base : List UInt8 → List UInt8
  | [] => []
  | [a] => [let6 (a.toNat / 4), let6 (a.toNat % 4 * 16), 61, 61]
  | [a, b] => [let6 (a.toNat / 4), let6 (a.toNat % 4 * 16 + b.toNat / 16), let6 (b.toNat % 16 * 4), 61]
  | a :: b :: c :: r => let6 (a.toNat / 4) :: let6 (a.toNat % 4 * 16 + b.toNat / 16) :: let6 (b.toNat % 16 * 4 + c.toNat / 64) :: let6 (c.toNat % 64) :: base r

theorem base_length : ∀ b : List UInt8, (base b).length = (b.length + 2) / 3 * 4
  | [] => rfl
  | [a] => by simp [base]
  | [a, b] => by simp [base]
  | a :: b :: c :: r => by
    have := base_length r
    simp only [base, List.length_cons, this]
    omega

theorem extract_one (l : List UInt8) (p : Nat) (h : p < l.length) : (S l).extract p (p + 1) = S [l.getD p 0] := by
  rw [extract_S, Nat.add_sub_cancel_left, take_one h, List.getD_eq_getElem?_getD, List.getElem?_eq_getElem h]
  rfl

theorem wraps_i64 (n : Int) (h₀ : 0 ≤ n) (h₁ : n < 2 ^ 62) : IntKind.i64.wrap n = n := by rw [IntKind.wrap_i64]; omega
theorem and63 {x : Int} (h0 : 0 ≤ x) (h1 : x < 16777216) : bits .and .i64 x 63 = x % 64 := bits_mask .i64 62 (by decide) wraps_i64 6 (by decide) x h0 (by omega)

/-- The four letters' numbers out of three bytes. -/
theorem six0 {a b c n : Nat} (ha : a < 256) (hb : b < 256) (hc : c < 256) (hn : n = a * 65536 + b * 256 + c) : a / 4 = n / 2 ^ (18 - 6 * 0) % 64 := by
  show a / 4 = n / 262144 % 64
  omega
theorem six1 {a b c n : Nat} (hb : b < 256) (hc : c < 256) (hn : n = a * 65536 + b * 256 + c) : a % 4 * 16 + b / 16 = n / 2 ^ (18 - 6 * 1) % 64 := by
  show a % 4 * 16 + b / 16 = n / 4096 % 64
  omega
theorem six2 {a b c n : Nat} (hc : c < 256) (hn : n = a * 65536 + b * 256 + c) : b % 16 * 4 + c / 64 = n / 2 ^ (18 - 6 * 2) % 64 := by
  show b % 16 * 4 + c / 64 = n / 64 % 64
  omega
theorem six3 {a b c n : Nat} (hn : n = a * 65536 + b * 256 + c) : c % 64 = n / 2 ^ (18 - 6 * 3) % 64 := by
  show c % 64 = n / 1 % 64
  omega
theorem six1' {a n : Nat} (hn : n = a * 65536) : a % 4 * 16 = n / 2 ^ (18 - 6 * 1) % 64 := by
  show a % 4 * 16 = n / 4096 % 64
  omega
theorem six2' {a b n : Nat} (hn : n = a * 65536 + b * 256) : b % 16 * 4 = n / 2 ^ (18 - 6 * 2) % 64 := by
  show b % 16 * 4 = n / 64 % 64
  omega
theorem six0a {a n : Nat} (ha : a < 256) (hn : n = a * 65536) : a / 4 = n / 2 ^ (18 - 6 * 0) % 64 := by
  show a / 4 = n / 262144 % 64
  omega
theorem six0b {a b n : Nat} (ha : a < 256) (hb : b < 256) (hn : n = a * 65536 + b * 256) : a / 4 = n / 2 ^ (18 - 6 * 0) % 64 := by
  show a / 4 = n / 262144 % 64
  omega
theorem six1b {a b n : Nat} (hb : b < 256) (hn : n = a * 65536 + b * 256) : a % 4 * 16 + b / 16 = n / 2 ^ (18 - 6 * 1) % 64 := by
  show a % 4 * 16 + b / 16 = n / 4096 % 64
  omega
theorem u8_lt (c : UInt8) : c.toNat < 256 := c.toNat_lt

theorem nA {A : Nat} (h : A < 256) : 0 * 256 + A < 65536 ∧ (0 * 256 + A) * 256 < 65536 ∧ (0 * 256 + A) * 256 * 256 < 16777216 ∧ (0 * 256 + A) * 256 * 256 / 262144 = A / 4 ∧ (0 * 256 + A) * 256 * 256 / 4096 % 64 = A % 4 * 16 := by omega
theorem nB {A C : Nat} (h : A < 256) (h1 : C < 256) : (0 * 256 + A) * 256 + C < 65536 ∧ ((0 * 256 + A) * 256 + C) * 256 < 16777216 ∧ ((0 * 256 + A) * 256 + C) * 256 / 262144 = A / 4 ∧ ((0 * 256 + A) * 256 + C) * 256 / 4096 % 64 = A % 4 * 16 + C / 16 ∧
    ((0 * 256 + A) * 256 + C) * 256 / 64 % 64 = C % 16 * 4 := by omega
theorem nC {A C D : Nat} (h : A < 256) (h1 : C < 256) (h2 : D < 256) : ((0 * 256 + A) * 256 + C) * 256 + D < 16777216 ∧ (((0 * 256 + A) * 256 + C) * 256 + D) / 262144 = A / 4 ∧ (((0 * 256 + A) * 256 + C) * 256 + D) / 4096 % 64 = A % 4 * 16 + C / 16 ∧
    (((0 * 256 + A) * 256 + C) * 256 + D) / 64 % 64 = C % 16 * 4 + D / 64 ∧ (((0 * 256 + A) * 256 + C) * 256 + D) % 64 = D % 64 := by omega

/-- Numbers of bytes. -/
def NI (l : List UInt8) : List Int := l.map fun c => (c.toNat : Int)
theorem strOfNums_NI (l : List UInt8) : strOfNums (NI l) = S l := by
  rw [strOfNums_S]
  congr 1
  unfold NI
  rw [List.map_map]
  have : ((fun n : Int => UInt8.ofNat n.toNat) ∘ fun c : UInt8 => (c.toNat : Int)) = id := by
    funext c
    simp
  rw [this]
  simp
theorem NI_length (l : List UInt8) : (NI l).length = l.length := by unfold NI; simp
theorem NI_append (a b : List UInt8) : NI a ++ NI b = NI (a ++ b) := by unfold NI; simp

/-- Lines of at most forty bytes. -/
def lines40 : Nat → List UInt8 → List (List UInt8)
  | 0, s => [s]
  | n + 1, s => if s.length > 40 then s.take 40 :: lines40 n (s.drop 40) else [s]

theorem lines40_join : ∀ (n : Nat) (s : List UInt8), (lines40 n s).flatten = s := by
  intro n
  induction n with
  | zero => intro s; simp [lines40]
  | succ n ih =>
    intro s
    unfold lines40
    split
    · rw [List.flatten_cons, ih]
      exact List.take_append_drop 40 s
    · simp
theorem lines40_length : ∀ (n : Nat) (s : List UInt8), (lines40 n s).length ≤ n + 1 ∧ 1 ≤ (lines40 n s).length := by
  intro n
  induction n with
  | zero => intro s; simp [lines40]
  | succ n ih =>
    intro s
    unfold lines40
    split
    · have := ih (s.drop 40)
      simp only [List.length_cons]
      omega
    · simp

/-- All lines but the last have forty bytes; the last has at most that many, and none only where there are none at all. -/
theorem lines40_width : ∀ (n : Nat) (s : List UInt8), s.length ≤ 40 * n → (∀ i (h : i < (lines40 n s).length), i + 1 < (lines40 n s).length → (lines40 n s)[i].length = 40) ∧
    ((lines40 n s).getLastD []).length ≤ 40 ∧ (((lines40 n s).getLastD []).length = 0 ↔ s.length = 0) := by
  intro n
  induction n with
  | zero =>
    intro s h
    refine ⟨fun i h1 h2 => by simp [lines40] at h2, ?_, ?_⟩
    · simp [lines40]
      omega
    · simp [lines40]
  | succ n ih =>
    intro s h
    by_cases c : s.length > 40
    · have e : lines40 (n + 1) s = s.take 40 :: lines40 n (s.drop 40) := by rw [lines40, if_pos c]
      obtain ⟨i1, i2, i3⟩ := ih (s.drop 40) (by rw [List.length_drop]; omega)
      have hl := (lines40_length n (s.drop 40)).2
      rw [e]
      have hlast : (s.take 40 :: lines40 n (s.drop 40)).getLastD [] = (lines40 n (s.drop 40)).getLastD [] := by
        cases hx : lines40 n (s.drop 40) with
        | nil => rw [hx] at hl; simp at hl
        | cons a r => rfl
      refine ⟨?_, ?_, ?_⟩
      · intro i h1 h2
        cases i with
        | zero => simp; omega
        | succ i =>
          simp only [List.length_cons] at h1 h2
          exact i1 i (by omega) (by omega)
      · rw [hlast]
        exact i2
      · rw [hlast, i3, List.length_drop]
        omega
    · have e : lines40 (n + 1) s = [s] := by rw [lines40, if_neg c]
      rw [e]
      refine ⟨fun i h1 h2 => by simp at h2, ?_, ?_⟩
      · simp
        omega
      · simp

/-- What EncodeBase returns. -/
def baseR (b : List UInt8) : List ByteArray × Bool := if b.length > 300 then ([], false) else (SL (lines40 20 (base b)), true)
theorem baseR_length (b : List UInt8) : (baseR b).1.length ≤ 21 := by
  unfold baseR
  split
  · simp
  · rw [SL_length]
    exact (lines40_length 20 (base b)).1

end Go.Proofs.Ytdkgbemlfajhcaa.M
