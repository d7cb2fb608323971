/- Plain mathematics of quoted lines: what stands for a byte, the lines of bytes; no program in sight. No conditions. -/
import Derived.Test.YtafpbechcjcdbaaDoorVFnDateWeekdayMStr
namespace Go.Proofs.YtafpbechcjcdbaaDoor.M
open Go.RowKit Go.Proofs.YtafpbechcjcdbaaDoorW.PrintWords

/-- A hexadecimal digit. -/
def hexDig (n : Nat) : UInt8 := [48, 49, 50, 51, 52, 53, 54, 55, 56, 57, 65, 66, 67, 68, 69, 70].getD n 0
def hex3 (c : UInt8) : List UInt8 := [61, hexDig (c.toNat / 16), hexDig (c.toNat % 16)]
def plainQ (c : UInt8) (last : Bool) : Bool := decide (33 ≤ c.toNat ∧ c.toNat ≤ 126 ∧ c.toNat ≠ 61) || (decide (c.toNat = 32) && !last)
def quoteB (c : UInt8) (last : Bool) : List UInt8 := if plainQ c last then [c] else hex3 c
def lastQ (r : List UInt8) : Bool := match r with | [] => true | d :: _ => decide (d.toNat = 10)

/-- The quoted lines of bytes, behind what the first line holds already. -/
def encQ : List UInt8 → List UInt8 → List (List UInt8)
  | [], line => [line]
  | c :: r, line =>
    if c.toNat = 10 then line :: encQ r []
    else if line.length + (quoteB c (lastQ r)).length > 39 then (line ++ [61]) :: encQ r (quoteB c (lastQ r))
    else encQ r (line ++ quoteB c (lastQ r))

theorem hex3_length (c : UInt8) : (hex3 c).length = 3 := rfl
theorem quoteB_length (c : UInt8) (b : Bool) : 1 ≤ (quoteB c b).length ∧ (quoteB c b).length ≤ 3 := by
  unfold quoteB
  split
  · exact ⟨by simp, by simp⟩
  · rw [hex3_length]
    omega

theorem extract_digit (n : Nat) (h : n < 16) : (S [48, 49, 50, 51, 52, 53, 54, 55, 56, 57, 65, 66, 67, 68, 69, 70]).extract n (n + 1) = S [hexDig n] := by
  have : n = 0 ∨ n = 1 ∨ n = 2 ∨ n = 3 ∨ n = 4 ∨ n = 5 ∨ n = 6 ∨ n = 7 ∨ n = 8 ∨ n = 9 ∨ n = 10 ∨ n = 11 ∨ n = 12 ∨ n = 13 ∨ n = 14 ∨ n = 15 := by omega
  rcases this with rfl | rfl | rfl | rfl | rfl | rfl | rfl | rfl | rfl | rfl | rfl | rfl | rfl | rfl | rfl | rfl <;> rfl

/-- The lines' strings. -/
def SL (ls : List (List UInt8)) : List ByteArray := ls.map S
theorem SL_append (a b : List (List UInt8)) : SL a ++ SL b = SL (a ++ b) := by unfold SL; simp
theorem SL_nil : ([] : List ByteArray) = SL [] := rfl
theorem SL_one (a : List UInt8) : [S a] = SL [a] := rfl
theorem SL_length (a : List (List UInt8)) : (SL a).length = a.length := by unfold SL; simp
theorem rdOf_SL (d : ByteArray) (l : List (List UInt8)) (i : Nat) (h : i < l.length) : rdOf d (SL l) (i : Int) = S l[i] := by
  unfold rdOf SL
  rw [List.getD_eq_getElem?_getD]
  simp [h]
theorem ex_SL (l : List ByteArray) : ∃ m, l = SL m := by
  refine ⟨l.map fun s => s.data.toList, ?_⟩
  unfold SL
  rw [List.map_map]
  have : (S ∘ fun s : ByteArray => s.data.toList) = id := by
    funext s
    exact S_eta s
  rw [this]
  simp

/-- What EncodeQuoted returns. -/
def quotR (b : List UInt8) : List ByteArray × Bool := if b.length > 300 then ([], false) else (SL (encQ b []), true)

theorem encQ_length (b : List UInt8) : ∀ line, (encQ b line).length ≤ b.length + 1 := by
  induction b with
  | nil => intro line; simp [encQ]
  | cons c r ih =>
    intro line
    unfold encQ
    split
    · have := ih []
      simp only [List.length_cons]
      omega
    · split
      · have := ih (quoteB c (lastQ r))
        simp only [List.length_cons]
        omega
      · have := ih (line ++ quoteB c (lastQ r))
        simp only [List.length_cons]
        omega
theorem encQ_width (b : List UInt8) : ∀ line, line.length ≤ 39 → ∀ l ∈ encQ b line, l.length ≤ 40 := by
  induction b with
  | nil =>
    intro line h l hl
    simp only [encQ, List.mem_singleton] at hl
    rw [hl]
    omega
  | cons c r ih =>
    intro line h l hl
    have q := quoteB_length c (lastQ r)
    unfold encQ at hl
    split at hl
    · rcases List.mem_cons.1 hl with rfl | hl
      · omega
      · exact ih [] (by simp) l hl
    · split at hl
      · rcases List.mem_cons.1 hl with rfl | hl
        · simp
          omega
        · exact ih _ (by omega) l hl
      · exact ih _ (by rw [List.length_append]; omega) l hl
theorem quotR_length (b : List UInt8) : (quotR b).1.length ≤ 301 := by
  unfold quotR
  split
  · simp
  · rw [SL_length]
    have := encQ_length b []
    omega

/-- Bytes that stand for themselves make one line. -/
theorem encQ_plain (b : List UInt8) : ∀ line, (∀ c ∈ b, 33 ≤ c.toNat ∧ c.toNat ≤ 126 ∧ c.toNat ≠ 61) → line.length + b.length ≤ 39 → encQ b line = [line ++ b] := by
  induction b with
  | nil => intro line _ _; simp [encQ]
  | cons c r ih =>
    intro line h hl
    have hc := h c (by simp)
    have hq : quoteB c (lastQ r) = [c] := by
      unfold quoteB plainQ
      simp [hc]
    simp only [List.length_cons] at hl
    rw [encQ, if_neg (by omega), hq, if_neg (by simp; omega), ih _ (fun d hd => h d (by simp [hd])) (by simp; omega)]
    simp

def nl (b : List UInt8) : Nat := b.countP fun c => decide (c.toNat = 10)
def soft (ls : List (List UInt8)) : Nat := ls.countP fun l => l.getLast? == some 61

theorem hexDig_ne (n : Nat) (h : n < 16) : hexDig n ≠ 61 ∧ hexDig n ≠ 32 := by
  have : n = 0 ∨ n = 1 ∨ n = 2 ∨ n = 3 ∨ n = 4 ∨ n = 5 ∨ n = 6 ∨ n = 7 ∨ n = 8 ∨ n = 9 ∨ n = 10 ∨ n = 11 ∨ n = 12 ∨ n = 13 ∨ n = 14 ∨ n = 15 := by omega
  rcases this with rfl | rfl | rfl | rfl | rfl | rfl | rfl | rfl | rfl | rfl | rfl | rfl | rfl | rfl | rfl | rfl <;> decide

theorem quoteB_last (c : UInt8) (last : Bool) : ∃ d, (quoteB c last).getLast? = some d ∧ d ≠ 61 ∧ (last = true → d ≠ 32) := by
  unfold quoteB
  split
  · rename_i h
    refine ⟨c, rfl, ?_, ?_⟩
    · rintro rfl
      unfold plainQ at h
      simp at h
    · rintro rfl rfl
      unfold plainQ at h
      simp at h
  · have := hexDig_ne (c.toNat % 16) (by omega)
    exact ⟨hexDig (c.toNat % 16), rfl, this.1, fun _ => this.2⟩

theorem encQ_lines (b : List UInt8) : ∀ line, line.getLast? ≠ some 61 → (lastQ b = true → line.getLast? ≠ some 32) →
    (encQ b line).length = 1 + nl b + soft (encQ b line) ∧ ∀ l ∈ encQ b line, l.getLast? ≠ some 32 := by
  induction b with
  | nil =>
    intro line h1 h2
    refine ⟨?_, ?_⟩
    · have : (line.getLast? == some 61) = false := by simpa using h1
      simp [encQ, nl, soft, this]
    · intro l hl
      simp only [encQ, List.mem_singleton] at hl
      rw [hl]
      exact h2 rfl
  | cons c r ih =>
    intro line h1 h2
    by_cases c10 : c.toNat = 10
    · have he : encQ (c :: r) line = line :: encQ r [] := by rw [encQ, if_pos c10]
      rw [he]
      obtain ⟨i1, i2⟩ := ih [] (by simp) (by simp)
      have hl : (line.getLast? == some 61) = false := by simpa using h1
      have hn : nl (c :: r) = nl r + 1 := by unfold nl; rw [List.countP_cons_of_pos (by simpa using c10)]
      have hs : soft (line :: encQ r []) = soft (encQ r []) := by unfold soft; rw [List.countP_cons_of_neg (by simp [hl])]
      refine ⟨?_, ?_⟩
      · rw [hn, hs, List.length_cons, i1]
        omega
      · intro l hl
        rcases List.mem_cons.1 hl with rfl | hl
        · exact h2 (by unfold lastQ; simpa using c10)
        · exact i2 l hl
    · have hn : nl (c :: r) = nl r := by unfold nl; rw [List.countP_cons_of_neg (by simpa using c10)]
      obtain ⟨d, hd, hd1, hd2⟩ := quoteB_last c (lastQ r)
      by_cases c39 : line.length + (quoteB c (lastQ r)).length > 39
      · have he : encQ (c :: r) line = (line ++ [61]) :: encQ r (quoteB c (lastQ r)) := by rw [encQ, if_neg c10, if_pos c39]
        rw [he]
        obtain ⟨i1, i2⟩ := ih (quoteB c (lastQ r)) (by rw [hd]; simpa using hd1) (fun hl => by rw [hd]; simpa using hd2 hl)
        have hs : soft ((line ++ [61]) :: encQ r (quoteB c (lastQ r))) = soft (encQ r (quoteB c (lastQ r))) + 1 := by
          unfold soft
          rw [List.countP_cons_of_pos (by simp)]
        refine ⟨?_, ?_⟩
        · rw [hn, hs, List.length_cons, i1]
          omega
        · intro l hl
          rcases List.mem_cons.1 hl with rfl | hl
          · simp
          · exact i2 l hl
      · have he : encQ (c :: r) line = encQ r (line ++ quoteB c (lastQ r)) := by rw [encQ, if_neg c10, if_neg c39]
        rw [he, hn]
        have hap : (line ++ quoteB c (lastQ r)).getLast? = some d := by rw [List.getLast?_append, hd]; rfl
        exact ih (line ++ quoteB c (lastQ r)) (by rw [hap]; simpa using hd1) (fun hl => by rw [hap]; simpa using hd2 hl)

end Go.Proofs.YtafpbechcjcdbaaDoor.M
