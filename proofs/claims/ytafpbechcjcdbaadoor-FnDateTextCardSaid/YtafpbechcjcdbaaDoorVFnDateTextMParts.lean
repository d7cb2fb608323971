/- Plain mathematics of texts that are divided at each place of a byte; no program in sight. No conditions. -/
import Derived.Lib.SplitLaws
import Derived.Test.YtafpbechcjcdbaaDoorVFnDateTextMQuot
namespace Go.Proofs.YtafpbechcjcdbaaDoor.M
open Go.RowKit Go.Proofs.YtafpbechcjcdbaaDoorW.PrintWords
def parts (c : UInt8) : List UInt8 → List (List UInt8)
  | [] => [[]]
  | b :: r => if b = c then [] :: parts c r else match parts c r with
    | [] => [[b]]
    | h :: t => (b :: h) :: t
theorem parts_ne (c : UInt8) (s : List UInt8) : parts c s ≠ [] := by
  cases s with
  | nil => simp [parts]
  | cons b r =>
    unfold parts
    split
    · simp
    · split <;> simp
theorem parts_none {c : UInt8} : ∀ {xs : List UInt8}, (∀ x ∈ xs, x ≠ c) → parts c xs = [xs] := by
  intro xs
  induction xs with
  | nil => intro _; rfl
  | cons b r ih =>
    intro h
    rw [parts, if_neg (h b (by simp)), ih (fun x hx => h x (by simp [hx]))]
theorem parts_cut {c : UInt8} (r : List UInt8) : ∀ {xs : List UInt8}, (∀ x ∈ xs, x ≠ c) → parts c (xs ++ c :: r) = xs :: parts c r := by
  intro xs
  induction xs with
  | nil => intro _; rw [List.nil_append, parts, if_pos rfl]
  | cons b t ih =>
    intro h
    rw [List.cons_append, parts, if_neg (h b (by simp)), ih (fun x hx => h x (by simp [hx]))]
theorem splitK_parts (c : UInt8) (s : List UInt8) : Lib.splitK [c] 0 (s.count c) s = parts c s := by
  induction s with
  | nil => rfl
  | cons b r ih =>
    by_cases hb : b = c
    · subst hb
      have hx : Lib.index (b :: r) [b] = 0 := by unfold Lib.index; simp
      have hn : ¬ (Lib.index (b :: r) [b] == -1) = true := by rw [hx]; decide
      rw [List.count_cons_self, Lib.splitK, if_neg hn, hx, parts, if_pos rfl]
      show [] :: Lib.splitK [b] 0 (r.count b) r = _
      rw [ih]
    · have hp : ([c].isPrefixOf (b :: r)) = false := by
        have : (c == b) = false := beq_eq_false_iff_ne.2 (fun q => hb q.symm)
        show (c == b && _) = false
        rw [this, Bool.false_and]
      rw [List.count_cons_of_ne hb, parts, if_neg hb, ← ih]
      cases hk : r.count c with
      | zero => rfl
      | succ k =>
        obtain ⟨i, hi⟩ : ∃ i : Nat, Lib.index r [c] = (i : Int) := by
          by_cases hm : Lib.index r [c] = -1
          · have := Lib.count_miss hm
            rw [Lib.count_one] at this
            omega
          · have h0 := Lib.indexByte_ge r c
            rw [← Lib.index_one] at h0
            exact ⟨(Lib.index r [c]).toNat, by omega⟩
        have hn : ¬ (Lib.index r [c] == -1) = true := by rw [hi, beq_iff_eq]; omega
        have hx : Lib.index (b :: r) [c] = ((i + 1 : Nat) : Int) := by
          rw [Lib.index, if_neg (by rw [hp]; decide), if_neg hn, hi]
          omega
        have hn2 : ¬ (Lib.index (b :: r) [c] == -1) = true := by rw [hx, beq_iff_eq]; omega
        rw [Lib.splitK, if_neg hn2, Lib.splitK, if_neg hn, hx, hi]
        rfl
theorem splitB_parts (c : UInt8) (s : List UInt8) : Lib.splitB ⟨#[c]⟩ 0 (Lib.countB (S s) ⟨#[c]⟩) (S s) = SL (parts c s) := by
  have h := Lib.splitB_data ⟨#[c]⟩ 0 (Lib.countB (S s) ⟨#[c]⟩) (S s)
  have hc : Lib.countB (S s) ⟨#[c]⟩ = s.count c := Lib.count_one c s
  have hd : (⟨#[c]⟩ : ByteArray).data.toList = [c] := rfl
  rw [hc, hd, data_S, splitK_parts] at h
  rw [hc, ← h]
  unfold SL
  rw [List.map_map]
  have : (S ∘ fun s : ByteArray => s.data.toList) = id := by
    funext s
    exact S_eta s
  rw [this, List.map_id]
theorem parts_length (c : UInt8) (s : List UInt8) : (parts c s).length ≤ s.length + 1 := by
  induction s with
  | nil => simp [parts]
  | cons b r ih =>
    unfold parts
    split
    · simp
      omega
    · split
      · simp
      · rename_i h t e
        rw [e] at ih
        simp at ih ⊢
        omega
theorem parts_each (c : UInt8) (s : List UInt8) : ∀ p ∈ parts c s, p.length ≤ s.length ∧ ∀ x ∈ p, x ∈ s ∧ x ≠ c := by
  induction s with
  | nil =>
    intro p hp
    simp [parts] at hp
    subst hp
    simp
  | cons b r ih =>
    intro p hp
    unfold parts at hp
    split at hp
    · rcases List.mem_cons.1 hp with rfl | hp
      · simp
      · obtain ⟨h1, h2⟩ := ih p hp
        refine ⟨by simp; omega, fun x hx => ?_⟩
        obtain ⟨h3, h4⟩ := h2 x hx
        exact ⟨by simp [h3], h4⟩
    · rename_i hb
      split at hp
      · simp only [List.mem_singleton] at hp
        subst hp
        refine ⟨by simp, fun x hx => ?_⟩
        simp only [List.mem_singleton] at hx
        subst hx
        exact ⟨by simp, hb⟩
      · rename_i h t e
        rw [e] at ih
        rcases List.mem_cons.1 hp with rfl | hp
        · obtain ⟨h1, h2⟩ := ih h (by simp)
          refine ⟨by simp; omega, fun x hx => ?_⟩
          rcases List.mem_cons.1 hx with rfl | hx
          · exact ⟨by simp, hb⟩
          · obtain ⟨h3, h4⟩ := h2 x hx
            exact ⟨by simp [h3], h4⟩
        · obtain ⟨h1, h2⟩ := ih p (by simp [hp])
          refine ⟨by simp; omega, fun x hx => ?_⟩
          obtain ⟨h3, h4⟩ := h2 x hx
          exact ⟨by simp [h3], h4⟩
end Go.Proofs.YtafpbechcjcdbaaDoor.M
