/- Plain mathematics of names that are written: texts, trimmed texts, the longest coded words; no program in sight. No conditions. -/
import Derived.Test.YthmdblcgiljhpaaDoorMName
namespace Go.Proofs.YthmdblcgiljhpaaDoor.M
open Go.RowKit Go.Proofs.YthmdblcgiljhpaaDoorW.PrintWords

/-- A text: printable bytes, at most 200. -/
def textOK (s : List UInt8) : Prop := s.length ≤ 200 ∧ ∀ c ∈ s, 32 ≤ c.toNat ∧ c.toNat ≤ 126
instance (s : List UInt8) : Decidable (textOK s) := by unfold textOK; exact inferInstance
/-- Without spaces at its begin; at its end; at both. -/
def trimL (s : List UInt8) : List UInt8 := s.dropWhile (· == 32)
def trimR (s : List UInt8) : List UInt8 := (s.reverse.dropWhile (· == 32)).reverse
def trim (s : List UInt8) : List UInt8 := trimR (trimL s)
theorem dropWhile_len (p : UInt8 → Bool) (s : List UInt8) : (s.dropWhile p).length ≤ s.length := by
  induction s with
  | nil => simp
  | cons a r ih =>
    rw [List.dropWhile_cons]
    split
    · simp
      omega
    · exact Nat.le_refl _
theorem trimL_len (s : List UInt8) : (trimL s).length ≤ s.length := dropWhile_len _ s
theorem trimR_len (s : List UInt8) : (trimR s).length ≤ s.length := by
  unfold trimR
  have := dropWhile_len (· == 32) s.reverse
  simpa using this
theorem trim_len (s : List UInt8) : (trim s).length ≤ s.length := Nat.le_trans (trimR_len _) (trimL_len s)
theorem trimR_nil : trimR [] = [] := rfl
theorem trimR_snoc (s : List UInt8) (c : UInt8) : trimR (s ++ [c]) = if c = 32 then trimR s else s ++ [c] := by
  unfold trimR
  rw [List.reverse_append, List.reverse_singleton, List.singleton_append, List.dropWhile_cons]
  by_cases h : c = 32
  · rw [if_pos h, if_pos (by simp [h])]
  · rw [if_neg h, if_neg (by simp [h])]
    simp
/-- Do the two bytes '=?' stand in a text? -/
def hasQ : List UInt8 → Bool
  | a :: b :: r => (a == 61 && b == 63) || hasQ (b :: r)
  | _ => false
/-- Must a name be coded? -/
def needC (b : List UInt8) : Bool := hasQ b || !(decide (textOK b)) || !(decide (trim b = b)) || decide (b.length > 120)

/-- The greatest number of bytes, from n on, that one coded word holds. -/
def grow : Nat → List UInt8 → Nat → Nat
  | 0, _, n => n
  | f + 1, b, n => if n < b.length ∧ (codeL (b.take (n + 1))).length ≤ 28 then grow f b (n + 1) else n
def cutW (b : List UInt8) : Nat := grow b.length b 1
def wordsN : Nat → List UInt8 → List (List UInt8)
  | 0, _ => []
  | _ + 1, [] => []
  | f + 1, c :: r => (c :: r).take (cutW (c :: r)) :: wordsN f ((c :: r).drop (cutW (c :: r)))
def words (b : List UInt8) : List (List UInt8) := wordsN b.length b
theorem grow_ge : ∀ (f : Nat) (b : List UInt8) (n : Nat), n ≤ grow f b n ∧ (n ≤ b.length → grow f b n ≤ b.length) := by
  intro f
  induction f with
  | zero => intro b n; exact ⟨Nat.le_refl _, fun h => h⟩
  | succ f ih =>
    intro b n
    unfold grow
    split
    · rename_i h
      have := ih b (n + 1)
      exact ⟨by omega, fun _ => this.2 (by omega)⟩
    · exact ⟨Nat.le_refl _, fun h => h⟩
theorem grow_fit : ∀ (f : Nat) (b : List UInt8) (n : Nat), (codeL (b.take n)).length ≤ 28 → (codeL (b.take (grow f b n))).length ≤ 28 := by
  intro f
  induction f with
  | zero => intro b n h; exact h
  | succ f ih =>
    intro b n h
    unfold grow
    split
    · rename_i h2
      exact ih b (n + 1) h2.2
    · exact h
theorem cutW_bd {b : List UInt8} (h : b ≠ []) : 1 ≤ cutW b ∧ cutW b ≤ b.length ∧ (codeL (b.take (cutW b))).length ≤ 28 := by
  have hl : 1 ≤ b.length := List.length_pos_iff.2 h
  obtain ⟨h1, h2⟩ := grow_ge b.length b 1
  refine ⟨h1, h2 hl, grow_fit _ b 1 ?_⟩
  have := (codeL_length (b.take 1)).2
  rw [List.length_take] at this
  omega
theorem word_ok {b : List UInt8} (h : b ≠ []) : codeOK (b.take (cutW b)) := by
  obtain ⟨h1, h2, h3⟩ := cutW_bd h
  have h4 := codeL_length (b.take (cutW b))
  have h5 := codeW_length (b.take (cutW b))
  rw [List.length_take] at h4
  refine ⟨by rw [List.length_take]; omega, by rw [List.length_take]; omega, by omega⟩
theorem wordsN_cons (f : Nat) {b : List UInt8} (h : b ≠ []) : wordsN (f + 1) b = b.take (cutW b) :: wordsN f (b.drop (cutW b)) := by
  cases b with
  | nil => exact absurd rfl h
  | cons c r => rfl
theorem wordsN_fuel : ∀ (f g : Nat) (b : List UInt8), b.length ≤ f → b.length ≤ g → wordsN f b = wordsN g b := by
  intro f
  induction f with
  | zero =>
    intro g b h1 _
    have : b = [] := List.eq_nil_of_length_eq_zero (by omega)
    subst this
    cases g <;> rfl
  | succ f ih =>
    intro g b h1 h2
    by_cases hb : b = []
    · subst hb
      cases g <;> rfl
    · have hl := List.length_pos_iff.2 hb
      obtain ⟨g, rfl⟩ : ∃ m, g = m + 1 := ⟨g - 1, by omega⟩
      obtain ⟨c1, c2, _⟩ := cutW_bd hb
      rw [wordsN_cons f hb, wordsN_cons g hb, ih g _ (by rw [List.length_drop]; omega) (by rw [List.length_drop]; omega)]
theorem words_cons {b : List UInt8} (h : b ≠ []) : words b = b.take (cutW b) :: words (b.drop (cutW b)) := by
  have hl := List.length_pos_iff.2 h
  obtain ⟨c1, c2, _⟩ := cutW_bd h
  unfold words
  rw [wordsN_fuel b.length (b.length - 1 + 1) b (by omega) (by omega), wordsN_cons _ h]
  rw [wordsN_fuel (b.length - 1) (b.drop (cutW b)).length _ (by rw [List.length_drop]; omega) (Nat.le_refl _)]
theorem words_nil : words [] = [] := rfl
/-- The words: each one has a coded word, and together they are the text. -/
theorem words_ok : ∀ (n : Nat) (b : List UInt8), b.length ≤ n → (∀ w ∈ words b, codeOK w) ∧ (words b).flatten = b ∧ (words b).length ≤ b.length := by
  intro n
  induction n with
  | zero =>
    intro b h
    have : b = [] := List.eq_nil_of_length_eq_zero (by omega)
    subst this
    exact ⟨by rw [words_nil]; simp, rfl, Nat.le_refl _⟩
  | succ n ih =>
    intro b h
    by_cases hb : b = []
    · subst hb
      exact ⟨by rw [words_nil]; simp, rfl, Nat.le_refl _⟩
    · obtain ⟨c1, c2, _⟩ := cutW_bd hb
      obtain ⟨i1, i2, i3⟩ := ih (b.drop (cutW b)) (by rw [List.length_drop]; omega)
      rw [words_cons hb]
      refine ⟨?_, ?_, ?_⟩
      · intro w hw
        rcases List.mem_cons.1 hw with rfl | hw
        · exact word_ok hb
        · exact i1 w hw
      · rw [List.flatten_cons, i2, List.take_append_drop]
      · rw [List.length_drop] at i3
        simp only [List.length_cons]
        omega

/-- Coded words with a space between. -/
def spaced (ws : List (List UInt8)) : List UInt8 := [32].intercalate (ws.map codeW)
theorem spaced_nil : spaced [] = [] := rfl
theorem spaced_one (w : List UInt8) : spaced [w] = codeW w := by simp [spaced, List.intercalate]
theorem spaced_cons (w : List UInt8) {ws : List (List UInt8)} (h : ws ≠ []) : spaced (w :: ws) = codeW w ++ [32] ++ spaced ws := by
  cases ws with
  | nil => exact absurd rfl h
  | cons v r => simp [spaced, List.intercalate]
theorem spaced_len (ws : List (List UInt8)) (h : ∀ w ∈ ws, codeOK w) : (spaced ws).length ≤ 41 * ws.length := by
  induction ws with
  | nil => simp [spaced_nil]
  | cons w r ih =>
    have hw := (h w (by simp)).2.2
    have hr := ih (fun x hx => h x (by simp [hx]))
    by_cases e : r = []
    · subst e
      rw [spaced_one]
      simp
      omega
    · rw [spaced_cons w e, List.length_append, List.length_append]
      simp only [List.length_cons, List.length_nil]
      omega
theorem fits {a w : Nat} (ha : a ≤ 6000) (hw : w ≤ 40) : a + w ≤ 9223372036854775807 ∧ a + 1 ≤ 9223372036854775807 ∧ a + 1 + w ≤ 9223372036854775807 := by omega
/-- What EncodeName returns. -/
def encR (b : List UInt8) : ByteArray × Bool := if b.length > 120 then (S [], false) else if needC b = true then (S (spaced (words b)), true) else (S b, true)
theorem encR_len (b : List UInt8) : (encR b).1.size ≤ 5000 := by
  unfold encR
  split
  · exact Nat.zero_le _
  · split
    · obtain ⟨h1, _, h3⟩ := words_ok b.length b (Nat.le_refl _)
      have := spaced_len (words b) h1
      rw [size_S]
      omega
    · rw [size_S]
      omega

end Go.Proofs.YthmdblcgiljhpaaDoor.M
