/- Plain mathematics of fields' lines: where a line is broken, the lines, that they are one line again, what is cut and trimmed; no program in sight. No conditions. -/
import Derived.Lib.IndexBytes
import Derived.Lib.IndexMore
import Derived.Lib.TrimByte
import Derived.Test.YthmdblcgiljhpaaDoorMQuot
namespace Go.Proofs.YthmdblcgiljhpaaDoor.M
open Go.RowKit Go.Proofs.YthmdblcgiljhpaaDoorW.PrintWords

/-- A single space at place i. -/
def sp1 (l : List UInt8) (i : Nat) : Prop := l.getD i 0 = 32 ∧ l.getD (i - 1) 0 ≠ 32 ∧ l.getD (i + 1) 0 ≠ 32
instance (l : List UInt8) (i : Nat) : Decidable (sp1 l i) := by unfold sp1; exact inferInstance
/-- The best place to break from i on, e places to go. -/
def scanB (l : List UInt8) : Nat → Nat → Option Nat → Option Nat
  | 0, _, b => b
  | e + 1, i, b => scanB l e (i + 1) (if sp1 l i ∧ (b = none ∨ i ≤ 40) then some i else b)
def brk (l : List UInt8) (first : Nat) : Option Nat := scanB l (l.length - 1 - first) first none
theorem scanB_in (l : List UInt8) (lo : Nat) : ∀ (e i : Nat) (b : Option Nat), lo ≤ i → i + e ≤ l.length - 1 → (∀ k, b = some k → lo ≤ k ∧ k + 1 < l.length ∧ sp1 l k) → ∀ k, scanB l e i b = some k → lo ≤ k ∧ k + 1 < l.length ∧ sp1 l k := by
  intro e
  induction e with
  | zero => intro i b _ _ h k hk; exact h k hk
  | succ e ih =>
    intro i b hi hl h k hk
    refine ih (i + 1) _ (by omega) (by omega) ?_ k hk
    intro j hj
    split at hj
    · rename_i c
      obtain rfl := Option.some.inj hj
      exact ⟨hi, by omega, c.1⟩
    · exact h j hj
theorem brk_in {l : List UInt8} {first k : Nat} (hf : first ≤ l.length - 1) (h : brk l first = some k) : first ≤ k ∧ k + 1 < l.length ∧ sp1 l k :=
  scanB_in l first (l.length - 1 - first) first none (Nat.le_refl _) (by omega) (fun _ q => by cases q) k h
theorem brk_far {l : List UInt8} {first : Nat} (hf : l.length - 1 ≤ first) : brk l first = none := by
  unfold brk
  rw [Nat.sub_eq_zero_of_le hf]
  rfl
/-- The lines. -/
def foldF : Nat → List UInt8 → Nat → List (List UInt8)
  | 0, l, _ => [l]
  | f + 1, l, first => if l.length > 40 then match brk l first with
    | none => [l]
    | some k => l.take k :: foldF f (l.drop k) 2
    else [l]
theorem foldF_flat : ∀ (f : Nat) (l : List UInt8) (first : Nat), (foldF f l first).flatten = l := by
  intro f
  induction f with
  | zero => intro l first; simp [foldF]
  | succ f ih =>
    intro l first
    unfold foldF
    split
    · split
      · simp
      · rw [List.flatten_cons, ih, List.take_append_drop]
    · simp
theorem foldF_len : ∀ (f : Nat) (l : List UInt8) (first : Nat), (foldF f l first).length ≤ f + 1 := by
  intro f
  induction f with
  | zero => intro l first; simp [foldF]
  | succ f ih =>
    intro l first
    unfold foldF
    split
    · split
      · simp
      · rename_i k _
        have := ih (l.drop k) 2
        simp only [List.length_cons]
        omega
    · simp
/-- The first line begins as the text does, the others with a space. -/
theorem foldF_heads : ∀ (f : Nat) (l : List UInt8) (first : Nat), 1 ≤ first → ∃ h t, foldF f l first = h :: t ∧ h.head? = l.head? ∧ ∀ x ∈ t, x.head? = some 32 := by
  intro f
  induction f with
  | zero => intro l first _; exact ⟨l, [], rfl, rfl, fun x hx => by cases hx⟩
  | succ f ih =>
    intro l first hf
    unfold foldF
    split
    · cases hb : brk l first with
      | none => exact ⟨l, [], rfl, rfl, fun x hx => by cases hx⟩
      | some k =>
        by_cases hlt : first ≤ l.length - 1
        · obtain ⟨h1, h2, h3, _⟩ := brk_in hlt hb
          obtain ⟨a, t, e1, e2, e3⟩ := ih (l.drop k) 2 (by omega)
          have hk : k < l.length := by omega
          have hd : (l.drop k).head? = some 32 := by
            rw [List.head?_drop, List.getElem?_eq_getElem hk]
            rw [List.getD_eq_getElem?_getD, List.getElem?_eq_getElem hk] at h3
            exact congrArg some h3
          refine ⟨l.take k, foldF f (l.drop k) 2, rfl, ?_, ?_⟩
          · cases l with
            | nil => simp at hk
            | cons c r =>
              obtain ⟨j, rfl⟩ : ∃ j, k = j + 1 := ⟨k - 1, by omega⟩
              rfl
          · intro x hx
            rw [e1] at hx
            rcases List.mem_cons.1 hx with rfl | hx
            · rw [e2, hd]
            · exact e3 x hx
        · rw [brk_far (by omega)] at hb
          cases hb
    · exact ⟨l, [], rfl, rfl, fun x hx => by cases hx⟩
/-- More rounds than bytes change nothing. -/
theorem foldF_more : ∀ (f g : Nat) (l : List UInt8) (first : Nat), 1 ≤ first → l.length ≤ f → l.length ≤ g → foldF f l first = foldF g l first := by
  intro f
  induction f with
  | zero =>
    intro g l first _ h1 _
    have : l = [] := List.eq_nil_of_length_eq_zero (by omega)
    subst this
    cases g <;> rfl
  | succ f ih =>
    intro g l first hf h1 h2
    cases g with
    | zero =>
      have : l = [] := List.eq_nil_of_length_eq_zero (by omega)
      subst this
      rfl
    | succ g =>
      unfold foldF
      split
      · cases hb : brk l first with
        | none => rfl
        | some k =>
          have hk : 1 ≤ k := by
            by_cases hlt : first ≤ l.length - 1
            · have := (brk_in hlt hb).1
              omega
            · rw [brk_far (by omega)] at hb
              cases hb
          show _ :: _ = _ :: _
          rw [ih g (l.drop k) 2 (by omega) (by rw [List.length_drop]; omega) (by rw [List.length_drop]; omega)]
      · rfl

/-- A field's name. -/
def letB (c : UInt8) : Prop := (97 ≤ c.toNat ∧ c.toNat ≤ 122) ∨ (65 ≤ c.toNat ∧ c.toNat ≤ 90)
def namB (c : UInt8) : Prop := letB c ∨ (48 ≤ c.toNat ∧ c.toNat ≤ 57) ∨ c.toNat = 45
instance (c : UInt8) : Decidable (letB c) := by unfold letB; exact inferInstance
instance (c : UInt8) : Decidable (namB c) := by unfold namB; exact inferInstance
def nameOK (n : List UInt8) : Prop := 1 ≤ n.length ∧ n.length ≤ 30 ∧ letB (n.getD 0 0) ∧ ∀ c ∈ n, namB c
instance (n : List UInt8) : Decidable (nameOK n) := by unfold nameOK; exact inferInstance
theorem namB_ne {c : UInt8} (h : namB c) : c ≠ 58 ∧ c ≠ 32 := by
  constructor
  · rintro rfl
    revert h
    decide
  · rintro rfl
    revert h
    decide
/-- A field's line. -/
def lineF (n v : List UInt8) : List UInt8 := n ++ [58] ++ (if v = [] then [] else [32] ++ v)
theorem lineF_len (n v : List UInt8) : (lineF n v).length ≤ n.length + v.length + 2 := by
  unfold lineF
  split <;> simp <;> omega
theorem lineF_head {n v : List UInt8} (h : nameOK n) : ∃ c, (lineF n v).head? = some c ∧ c ≠ 32 := by
  obtain ⟨h1, _, _, h4⟩ := h
  cases n with
  | nil => simp at h1
  | cons c r => exact ⟨c, rfl, (namB_ne (h4 c (by simp))).2⟩
theorem indexB_skip (c : UInt8) (r : List UInt8) : ∀ n : List UInt8, (∀ x ∈ n, x ≠ c) → Lib.indexByte (n ++ c :: r) c = (n.length : Int) := by
  intro n
  induction n with
  | nil =>
    intro _
    show (if (c == c) = true then (0 : Int) else _) = _
    rw [if_pos (by simp)]
    rfl
  | cons b t ih =>
    intro h
    have hb : (b == c) = false := beq_eq_false_iff_ne.2 (h b (by simp))
    have hi := ih (fun x hx => h x (by simp [hx]))
    show (if (b == c) = true then (0 : Int) else if (Lib.indexByte (t ++ c :: r) c == -1) = true then -1 else Lib.indexByte (t ++ c :: r) c + 1) = _
    rw [hb, if_neg (by decide), hi, if_neg (by rw [beq_iff_eq]; omega)]
    simp
theorem cut_at (c : UInt8) (n r : List UInt8) (h : ∀ x ∈ n, x ≠ c) : Lib.cut (n ++ c :: r) [c] = (n, r, true) := by
  unfold Lib.cut
  rw [Lib.index_one, indexB_skip c r n h, if_pos (by omega), Int.toNat_natCast]
  have e1 : (n ++ c :: r).take n.length = n := List.take_left' rfl
  have e2 : (n ++ c :: r).drop (n.length + [c].length) = r := by
    have : n ++ c :: r = (n ++ [c]) ++ r := by simp
    rw [this]
    exact List.drop_left' (by simp)
  rw [e1, e2]
/-- Spaces around a text that has none at its ends are trimmed. -/
theorem trimB_pad (v : List UInt8) (a b : Nat) (h : Lib.trimB v 32 = v) : Lib.trimB (List.replicate a 32 ++ v ++ List.replicate b 32) 32 = v := by
  have e : ∀ s : List UInt8, Lib.trimB s 32 = ((s.reverse.dropWhile (· == 32)).reverse).dropWhile (· == 32) := fun _ => rfl
  have rep : ∀ (m : Nat) (s : List UInt8), (List.replicate m (32 : UInt8) ++ s).dropWhile (· == 32) = s.dropWhile (· == 32) := by
    intro m
    induction m with
    | zero => intro s; rfl
    | succ m ih => intro s; rw [List.replicate_succ, List.cons_append, List.dropWhile_cons, if_pos (by decide), ih]
  rw [e] at h ⊢
  rw [List.reverse_append, List.reverse_append, List.reverse_replicate, List.reverse_replicate, rep]
  have hlen : ∀ s : List UInt8, (s.dropWhile (· == 32)).length ≤ s.length := by
    intro s
    exact (List.dropWhile_suffix _).length_le
  have h1 : v.reverse.dropWhile (· == 32) = v.reverse := by
    refine (List.dropWhile_suffix _).eq_of_length (Nat.le_antisymm (hlen _) ?_)
    have a1 := hlen (v.reverse.dropWhile (· == 32)).reverse
    rw [h, List.length_reverse] at a1
    rw [List.length_reverse]
    exact a1
  rw [h1, List.reverse_reverse] at h
  by_cases hv : v = []
  · subst hv
    have z : (([] : List UInt8).reverse ++ List.replicate a 32).dropWhile (· == 32) = [] := by
      have := rep a []
      rw [List.append_nil] at this
      rw [List.reverse_nil, List.nil_append, this]
      rfl
    rw [z]
    rfl
  · have h2 : (v.reverse ++ List.replicate a 32).dropWhile (· == 32) = v.reverse ++ List.replicate a 32 := by
      cases hr : v.reverse with
      | nil => exact absurd (List.reverse_eq_nil_iff.1 hr) hv
      | cons c t =>
        rw [hr, List.dropWhile_cons] at h1
        rw [List.cons_append, List.dropWhile_cons]
        by_cases hc : (c == 32) = true
        · rw [if_pos hc] at h1
          have := hlen t
          rw [h1] at this
          simp at this
          omega
        · rw [if_neg hc]
    rw [h2, List.reverse_append, List.reverse_reverse, List.reverse_replicate, rep]
    exact h

end Go.Proofs.YthmdblcgiljhpaaDoor.M
