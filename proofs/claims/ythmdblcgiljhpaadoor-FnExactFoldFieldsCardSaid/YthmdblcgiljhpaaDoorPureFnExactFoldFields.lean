/- The law FnExactFoldFields holds of the printed functions: both programs write the same lines for all fields. No conditions. -/
import Derived.Test.YthmdblcgiljhpaaDoorPFnExactFoldFieldsx8
import Derived.Test.YthmdblcgiljhpaaDoorMBase
import Derived.Test.YthmdblcgiljhpaaDoorMStr
import Derived.Test.YthmdblcgiljhpaaDoorMQuot
import Derived.Test.YthmdblcgiljhpaaDoorMCode
import Derived.Test.YthmdblcgiljhpaaDoorMDecQ
import Derived.Test.YthmdblcgiljhpaaDoorMRead
import Derived.Test.YthmdblcgiljhpaaDoorMParts
import Derived.Test.YthmdblcgiljhpaaDoorMName
import Derived.Test.YthmdblcgiljhpaaDoorMEnc
import Derived.Test.YthmdblcgiljhpaaDoorMFold
namespace Go.Proofs.YthmdblcgiljhpaaDoor.PLFnExactFoldFields
open Go.RowKit Go.Proofs.YthmdblcgiljhpaaDoor.PFnExactFoldFields Go.Proofs.YthmdblcgiljhpaaDoorW.PrintWords Go.Proofs.YthmdblcgiljhpaaDoorW.PrintLast Go.Proofs.YthmdblcgiljhpaaDoorW.PrintMore Go.Proofs.YthmdblcgiljhpaaDoor.M

theorem impl_text (s : List UInt8) (hl : s.length ≤ 1000000000000) : Ev (fun k => impl_TextValid.f k (S s)) (decide (textOK s)) := by
  simp only [impl_TextValid.f, size_S]
  have loop : ∀ (e i : Nat), i + e = s.length → (∀ j (h : j < s.length), j < i → 32 ≤ s[j].toNat ∧ s[j].toNat ≤ 126) → Ev (fun k => impl_TextValid.l0 k (S s) (s.length : Int) (i : Int)) (decide (textOK s)) := by
    intro e
    induction e with
    | zero =>
      intro i hi hp
      have e1 : decide ((s.length : Int) ≤ 200) = decide (textOK s) := by
        rw [decide_eq_decide]
        constructor
        · intro q
          refine ⟨by omega, fun c hc => ?_⟩
          obtain ⟨j, hj, rfl⟩ := List.mem_iff_getElem.1 hc
          exact hp j hj (by omega)
        · intro q
          have := q.1
          omega
      refine Ev.step (fun k => by rw [impl_TextValid.l0]) ?_
      rw [size_S, e1]
      exact ev_neg (by omega) (Ev.now _)
    | succ e ih =>
      intro i hi hp
      have hlt : i < s.length := by omega
      have hg : s.getD i 0 = s[i] := by rw [List.getD_eq_getElem?_getD, List.getElem?_eq_getElem hlt]; rfl
      have w : wrap64 ((i : Int) + 1) = ((i + 1 : Nat) : Int) := by rw [w64 (by omega) (by omega)]; omega
      refine Ev.step (fun k => by rw [impl_TextValid.l0]) ?_
      simp only [size_S, bt_S, Int.toNat_natCast, hg, w]
      refine ev_pos (by omega) (ev_pos (by omega) (ev_pos (by omega) ?_))
      by_cases hc : 32 ≤ s[i].toNat ∧ s[i].toNat ≤ 126
      · refine ev_neg (by omega) (ev_neg (by omega) (ih (i + 1) (by omega) ?_))
        intro j hj hji
        by_cases q : j = i
        · subst q
          exact hc
        · exact hp j hj (by omega)
      · have e1 : decide (textOK s) = false := decide_eq_false (fun q => hc (q.2 s[i] (List.getElem_mem hlt)))
        rw [e1]
        by_cases h3 : (s[i].toNat : Int) < 32
        · exact ev_pos h3 (Ev.now _)
        · exact ev_neg h3 (ev_pos (by omega) (Ev.now _))
  exact loop s.length 0 (by omega) (fun j _ h => by omega)

theorem spec_text (s : List UInt8) (hl : s.length ≤ 1000000000000) : Ev (fun k => spec_TextValid.f k (S s)) (decide (textOK s)) := by
  simp only [spec_TextValid.f]
  have loop : ∀ (e i : Nat), i + e = s.length → i ≤ 201 → (∀ j (h : j < s.length), j < i → 32 ≤ s[j].toNat ∧ s[j].toNat ≤ 126) → Ev (fun k => spec_TextValid.l0 k (S s) (i : Int)) (decide (textOK s)) := by
    intro e
    induction e with
    | zero =>
      intro i hi h2 hp
      have e1 : decide ((s.length : Int) ≤ 200) = decide (textOK s) := by
        rw [decide_eq_decide]
        constructor
        · intro q
          refine ⟨by omega, fun c hc => ?_⟩
          obtain ⟨j, hj, rfl⟩ := List.mem_iff_getElem.1 hc
          exact hp j hj (by omega)
        · intro q
          have := q.1
          omega
      refine Ev.step (fun k => by rw [spec_TextValid.l0]) ?_
      rw [size_S]
      refine ev_neg (by omega) ?_
      refine Ev.step (fun k => by rw [spec_TextValid.j1]) ?_
      rw [size_S, e1]
      exact ev_neg (by decide) (Ev.now _)
    | succ e ih =>
      intro i hi h2 hp
      have hlt : i < s.length := by omega
      have hg : s.getD i 0 = s[i] := by rw [List.getD_eq_getElem?_getD, List.getElem?_eq_getElem hlt]; rfl
      have w : wrap64 ((i : Int) + 1) = ((i + 1 : Nat) : Int) := by rw [w64 (by omega) (by omega)]; omega
      refine Ev.step (fun k => by rw [spec_TextValid.l0]) ?_
      rw [size_S]
      refine ev_pos (by omega) ?_
      by_cases h200 : i ≤ 200
      · rw [decide_eq_true (show (i : Int) ≤ 200 by omega)]
        refine Ev.step (fun k => by rw [spec_TextValid.j1]) ?_
        simp only [size_S, bt_S, Int.toNat_natCast, hg, w]
        refine ev_pos trivial (ev_pos (by omega) (ev_pos (by omega) ?_))
        by_cases hc : 32 ≤ s[i].toNat ∧ s[i].toNat ≤ 126
        · refine ev_neg (by omega) (ev_neg (by omega) (ih (i + 1) (by omega) (by omega) ?_))
          intro j hj hji
          by_cases q : j = i
          · subst q
            exact hc
          · exact hp j hj (by omega)
        · have e1 : decide (textOK s) = false := decide_eq_false (fun q => hc (q.2 s[i] (List.getElem_mem hlt)))
          rw [e1]
          by_cases h3 : (s[i].toNat : Int) < 32
          · exact ev_pos h3 (Ev.now _)
          · exact ev_neg h3 (ev_pos (by omega) (Ev.now _))
      · rw [decide_eq_false (show ¬ (i : Int) ≤ 200 by omega)]
        have e1 : decide (textOK s) = false := decide_eq_false (fun q => by have := q.1; omega)
        refine Ev.step (fun k => by rw [spec_TextValid.j1]) ?_
        rw [size_S, e1]
        refine ev_neg (by decide) (ev_is ?_)
        rw [decide_eq_false (by omega)]
  exact loop s.length 0 (by omega) (by omega) (fun j _ h => by omega)

theorem spec_trimR (n : Nat) : ∀ s : List UInt8, s.length ≤ n → s.length ≤ 1000000000000 → Ev (fun k => spec_l2Trim.l1 k (S s)) (S (trimR s)) := by
  induction n with
  | zero =>
    intro s h _
    have : s = [] := List.eq_nil_of_length_eq_zero (by omega)
    subst this
    refine Ev.step (fun k => by rw [spec_l2Trim.l1]) ?_
    exact ev_neg (by decide) (Ev.now _)
  | succ n ih =>
    intro s h hl
    rcases List.eq_nil_or_concat s with rfl | ⟨t, c, rfl⟩
    · refine Ev.step (fun k => by rw [spec_l2Trim.l1]) ?_
      exact ev_neg (by decide) (Ev.now _)
    · rw [List.concat_eq_append] at h hl ⊢
      rw [List.length_append] at h hl
      simp only [List.length_cons, List.length_nil] at h hl
      have w : wrap64 (((t.length + 1 : Nat) : Int) - 1) = (t.length : Int) := by rw [w64 (by omega) (by omega)]; omega
      have hg : (t ++ [c]).getD t.length 0 = c := by simp
      have hx : ((t ++ [c]).drop 0).take (t.length - 0) = t := by simp
      refine Ev.step (fun k => by rw [spec_l2Trim.l1]) ?_
      simp only [size_S, List.length_append, List.length_cons, List.length_nil, Nat.zero_add, w, bt_S, Int.toNat_natCast, hg, extract_S, hx]
      rw [trimR_snoc]
      refine ev_pos (by omega) (ev_pos (by omega) (ev_pos (by omega) ?_))
      by_cases hc : (c.toNat : Int) = 32
      · rw [if_pos (show c = 32 from (u8_is (n := 32) (by omega)).1 hc)]
        exact ev_pos hc (ev_pos (by omega) (ih t (by omega) (by omega)))
      · rw [if_neg (fun q => hc (by rw [q]; rfl))]
        exact ev_neg hc (Ev.now _)
theorem spec_trim (s : List UInt8) (hl : s.length ≤ 1000000000000) : Ev (fun k => spec_l2Trim.f k (S s)) (S (trim s)) := by
  simp only [spec_l2Trim.f]
  have j : ∀ t : List UInt8, t.length ≤ 1000000000000 → Ev (fun k => spec_l2Trim.j1 k (S t)) (S (trimR t)) := by
    intro t ht
    refine Ev.step (fun k => by rw [spec_l2Trim.j1]) ?_
    exact spec_trimR t.length t (Nat.le_refl _) ht
  have loop : ∀ (n : Nat) (s : List UInt8), s.length ≤ n → s.length ≤ 1000000000000 → Ev (fun k => spec_l2Trim.l0 k (S s)) (S (trim s)) := by
    intro n
    induction n with
    | zero =>
      intro s h h2
      have : s = [] := List.eq_nil_of_length_eq_zero (by omega)
      subst this
      refine Ev.step (fun k => by rw [spec_l2Trim.l0]) ?_
      exact ev_neg (by decide) (j [] h2)
    | succ n ih =>
      intro s h h2
      cases s with
      | nil =>
        refine Ev.step (fun k => by rw [spec_l2Trim.l0]) ?_
        exact ev_neg (by decide) (j [] h2)
      | cons c r =>
        simp only [List.length_cons] at h h2
        have hg : bt (S (c :: r)) 0 = (c.toNat : Int) := by rw [bt_S]; rfl
        have hx : ((c :: r).drop 1).take (r.length + 1 - 1) = r := by simp
        refine Ev.step (fun k => by rw [spec_l2Trim.l0]) ?_
        simp only [size_S, List.length_cons, hg, extract_S, hx]
        refine ev_pos (by omega) (ev_pos (by omega) ?_)
        have hd : trim (c :: r) = if c = 32 then trim r else trimR (c :: r) := by
          unfold trim trimL
          rw [List.dropWhile_cons]
          by_cases q : c = 32
          · rw [if_pos q, if_pos (by simp [q])]
          · rw [if_neg q, if_neg (by simp [q])]
        rw [hd]
        by_cases hc : (c.toNat : Int) = 32
        · rw [if_pos (show c = 32 from (u8_is (n := 32) (by omega)).1 hc)]
          exact ev_pos hc (ev_pos (by omega) (ih r (by omega) (by omega)))
        · rw [if_neg (fun q => hc (by rw [q]; rfl))]
          exact ev_neg hc (j (c :: r) (by simp; omega))
  exact loop s.length s (Nat.le_refl _) hl

theorem trimL_full {s : List UInt8} (h : s.length ≤ (trimL s).length) : trimL s = s := (List.dropWhile_suffix _).eq_of_length (Nat.le_antisymm (trimL_len s) h)
theorem trimR_full {s : List UInt8} (h : s.length ≤ (trimR s).length) : trimR s = s := by
  have h1 : (s.reverse.dropWhile (· == 32)) = s.reverse := by
    refine (List.dropWhile_suffix _).eq_of_length (Nat.le_antisymm (dropWhile_len _ _) ?_)
    unfold trimR at h
    simpa using h
  unfold trimR
  rw [h1, List.reverse_reverse]
theorem trimB_trim (s : List UInt8) : Lib.trimB s 32 = s ↔ trim s = s := by
  have e : Lib.trimB s 32 = trimL (trimR s) := rfl
  have l1 := trimL_len (trimR s)
  have l2 := trimR_len s
  have l3 := trimR_len (trimL s)
  have l4 := trimL_len s
  rw [e]
  unfold trim
  constructor
  · intro h
    have hl := congrArg List.length h
    have r1 : trimR s = s := trimR_full (by omega)
    rw [r1] at h
    rw [h, r1]
  · intro h
    have hl := congrArg List.length h
    have r1 : trimL s = s := trimL_full (by omega)
    rw [r1] at h
    rw [h, r1]
theorem dw_nil (s : List UInt8) : s.dropWhile (· == 32) = [] ↔ ∀ x ∈ s, (x == 32) = true := by
  induction s with
  | nil => exact ⟨fun _ x hx => (by cases hx), fun _ => rfl⟩
  | cons c r ih =>
    rw [List.dropWhile_cons]
    by_cases hc : (c == 32) = true
    · rw [if_pos hc, ih]
      exact ⟨fun h x hx => by
        rcases List.mem_cons.1 hx with rfl | hx
        · exact hc
        · exact h x hx, fun h x hx => h x (by simp [hx])⟩
    · rw [if_neg hc]
      exact ⟨fun h => (by cases h), fun h => absurd (h c (by simp)) hc⟩
theorem trim_trimB (s : List UInt8) : trim s = Lib.trimB s 32 := by
  have e : Lib.trimB s 32 = trimL (trimR s) := rfl
  rw [e]
  unfold trim
  have split : ∀ s : List UInt8, trimR (trimL s) = trimL (trimR s) := by
    intro s
    induction s with
    | nil => rfl
    | cons c r ih =>
      by_cases hc : (c == 32) = true
      · have h1 : trimL (c :: r) = trimL r := by unfold trimL; rw [List.dropWhile_cons, if_pos hc]
        rw [h1, ih]
        by_cases hr : ∀ x ∈ r, (x == 32) = true
        · have a1 : trimR r = [] := by
            unfold trimR
            rw [List.reverse_eq_nil_iff, dw_nil]
            intro x hx
            exact hr x (List.mem_reverse.1 hx)
          have a2 : trimR (c :: r) = [] := by
            unfold trimR
            rw [List.reverse_eq_nil_iff, dw_nil]
            intro x hx
            rcases List.mem_cons.1 (List.mem_reverse.1 hx) with rfl | hx
            · exact hc
            · exact hr x hx
          rw [a1, a2]
        · have a3 : trimR (c :: r) = c :: trimR r := by
            unfold trimR
            have hne : r.reverse.dropWhile (· == 32) ≠ [] := by
              intro q
              rw [dw_nil] at q
              exact hr (fun x hx => q x (List.mem_reverse.2 hx))
            rw [List.reverse_cons, List.dropWhile_append, if_neg (by simpa using hne)]
            simp
          rw [a3]
          show trimL (trimR r) = trimL (c :: trimR r)
          unfold trimL
          rw [List.dropWhile_cons, if_pos hc]
      · have h1 : trimL (c :: r) = c :: r := by unfold trimL; rw [List.dropWhile_cons, if_neg hc]
        rw [h1]
        obtain ⟨t, ht⟩ : ∃ t, trimR (c :: r) = c :: t := by
          unfold trimR
          rw [List.reverse_cons]
          by_cases hne : r.reverse.dropWhile (· == 32) = []
          · refine ⟨[], ?_⟩
            rw [List.dropWhile_append, if_pos (by rw [hne]; rfl), List.dropWhile_cons, if_neg hc]
            rfl
          · refine ⟨(r.reverse.dropWhile (· == 32)).reverse, ?_⟩
            rw [List.dropWhile_append, if_neg (by simpa using hne)]
            simp
        rw [ht]
        unfold trimL
        rw [List.dropWhile_cons, if_neg hc]
  exact split s

/-- A field's value; a field. -/
def valOK (v : List UInt8) : Prop := textOK v ∧ v.length ≤ 150 ∧ Lib.trimB v 32 = v
instance (v : List UInt8) : Decidable (valOK v) := by unfold valOK; exact inferInstance
def fieldOK (n v : List UInt8) : Prop := nameOK n ∧ valOK v
instance (n v : List UInt8) : Decidable (fieldOK n v) := by unfold fieldOK; exact inferInstance
theorem letB_iff (c : UInt8) : letB c ↔ (97 ≤ c.toNat ∧ c.toNat ≤ 122) ∨ (65 ≤ c.toNat ∧ c.toNat ≤ 90) := Iff.rfl
theorem namB_iff (c : UInt8) : namB c ↔ letB c ∨ (48 ≤ c.toNat ∧ c.toNat ≤ 57) ∨ c.toNat = 45 := Iff.rfl
theorem isLetter_is (c : UInt8) : impl_isLetter.f (c.toNat : Int) = some (decide (letB c)) := by
  unfold impl_isLetter.f
  by_cases h1 : (c.toNat : Int) ≥ 97
  · rw [if_pos h1]
    by_cases h2 : (c.toNat : Int) ≤ 122
    · rw [if_pos h2, decide_eq_true (show letB c by rw [letB_iff]; omega)]
    · rw [if_neg h2, if_pos (by omega)]
      refine congrArg some (decide_eq_decide.2 ?_)
      rw [letB_iff]
      omega
  · rw [if_neg h1]
    by_cases h2 : (c.toNat : Int) ≥ 65
    · rw [if_pos h2]
      refine congrArg some (decide_eq_decide.2 ?_)
      rw [letB_iff]
      omega
    · rw [if_neg h2, decide_eq_false (show ¬ letB c by rw [letB_iff]; omega)]
theorem isDigit_is (c : UInt8) : impl_isDigit.f (c.toNat : Int) = some (decide (48 ≤ c.toNat ∧ c.toNat ≤ 57)) := by
  unfold impl_isDigit.f
  by_cases h1 : (c.toNat : Int) ≥ 48
  · rw [if_pos h1]
    refine congrArg some ?_
    rw [decide_eq_decide]
    omega
  · rw [if_neg h1, decide_eq_false (by omega)]
theorem isName1_is (c : UInt8) : impl_isName_1.f (c.toNat : Int) = some (decide (namB c)) := by
  unfold impl_isName_1.f
  rw [isLetter_is, isDigit_is, Option.bind_some, Option.bind_some]
  by_cases h1 : letB c
  · rw [if_pos (decide_eq_true h1), decide_eq_true (show namB c from Or.inl h1)]
  · rw [if_neg (by simpa using h1)]
    by_cases h2 : 48 ≤ c.toNat ∧ c.toNat ≤ 57
    · rw [if_pos (decide_eq_true h2), decide_eq_true (show namB c from Or.inr (Or.inl h2))]
    · rw [if_neg (by simpa using h2)]
      refine congrArg some ?_
      rw [Bool.eq_iff_iff, beq_iff_eq, decide_eq_true_eq]
      constructor
      · intro q
        exact Or.inr (Or.inr (by omega))
      · rintro (q | q | q)
        · exact absurd q h1
        · exact absurd q h2
        · omega
theorem allB_ev (s : List UInt8) (hl : s.length ≤ 1000000000) : Ev (fun k => impl_allBytes.f k (S s)) (decide (∀ c ∈ s, namB c)) := by
  simp only [impl_allBytes.f, size_S]
  have loop : ∀ (e i : Nat), i + e = s.length → (∀ j (h : j < s.length), j < i → namB s[j]) → Ev (fun k => impl_allBytes.l0 k (S s) (s.length : Int) (i : Int)) (decide (∀ c ∈ s, namB c)) := by
    intro e
    induction e with
    | zero =>
      intro i hi hp
      have e1 : decide (∀ c ∈ s, namB c) = true := decide_eq_true (fun c hc => by
        obtain ⟨j, hj, rfl⟩ := List.mem_iff_getElem.1 hc
        exact hp j hj (by omega))
      refine Ev.step (fun k => by rw [impl_allBytes.l0]) ?_
      rw [e1]
      exact ev_neg (by omega) (Ev.now _)
    | succ e ih =>
      intro i hi hp
      have hlt : i < s.length := by omega
      have hg : s.getD i 0 = s[i] := by rw [List.getD_eq_getElem?_getD, List.getElem?_eq_getElem hlt]; rfl
      have w : wrap64 ((i : Int) + 1) = ((i + 1 : Nat) : Int) := by rw [w64 (by omega) (by omega)]; omega
      refine Ev.step (fun k => by rw [impl_allBytes.l0]) ?_
      simp only [size_S, bt_S, Int.toNat_natCast, hg, w, isName1_is, Option.bind_some]
      clear w
      refine ev_pos (by omega) (ev_pos (by omega) (ev_pos (by omega) ?_))
      by_cases hc : namB s[i]
      · refine ev_pos (decide_eq_true hc) (ih (i + 1) (by omega) ?_)
        intro j hj hji
        by_cases q : j = i
        · subst q
          exact hc
        · exact hp j hj (by omega)
      · rw [decide_eq_false (fun q : ∀ c ∈ s, namB c => hc (q _ (List.getElem_mem hlt)))]
        exact ev_neg (by simpa using hc) (Ev.now _)
  exact loop s.length 0 (by omega) (fun j _ h => by omega)
theorem iname_ev (n : List UInt8) (hl : n.length ≤ 1000000000) : Ev (fun k => impl_isName.f k (S n)) (decide (nameOK n)) := by
  have b0 : bt (S n) 0 = ((n.getD 0 0).toNat : Int) := by rw [bt_S]; rfl
  simp only [impl_isName.f, size_S, b0, isLetter_is, Option.bind_some]
  by_cases h1 : (n.length : Int) ≥ 1
  · refine ev_pos h1 ?_
    by_cases h2 : (n.length : Int) ≤ 30
    · refine ev_pos h2 (ev_pos (by omega) ?_)
      by_cases h3 : letB (n.getD 0 0)
      · refine ev_pos (decide_eq_true h3) (Ev.bind (allB_ev n hl) (ev_is ?_))
        exact congrArg some (decide_eq_decide.2 ⟨fun q => ⟨by omega, by omega, h3, q⟩, fun q => q.2.2.2⟩)
      · rw [decide_eq_false (fun q : nameOK n => h3 q.2.2.1)]
        exact ev_neg (by simpa using h3) (Ev.now _)
    · rw [decide_eq_false (fun q : nameOK n => by have := q.2.1; omega)]
      exact ev_neg h2 (Ev.now _)
  · rw [decide_eq_false (fun q : nameOK n => by have := q.1; omega)]
    exact ev_neg h1 (Ev.now _)
theorem itrim_is (v : List UInt8) (hl : v.length ≤ 1000000000) : strings_Trim.f (S v) (⟨#[32]⟩ : ByteArray) = some (S (Lib.trimB v 32)) := by
  unfold strings_Trim.f
  rw [if_pos ⟨by rw [size_S]; omega, rfl, by decide⟩]
  rfl
theorem ivalid_ev (n v : List UInt8) (hn : n.length ≤ 1000000000) (hl : v.length ≤ 1000000000) : Ev (fun k => impl_FieldValid.f k (S n) (S v)) (decide (fieldOK n v)) := by
  simp only [impl_FieldValid.f, size_S, itrim_is v hl, toList_S]
  refine Ev.bind (iname_ev n hn) ?_
  by_cases h1 : nameOK n
  · refine ev_pos (decide_eq_true h1) (Ev.bind (impl_text v (by omega)) ?_)
    by_cases h2 : textOK v
    · refine ev_pos (decide_eq_true h2) ?_
      by_cases h3 : (v.length : Int) ≤ 150
      · refine ev_pos h3 (ev_is ?_)
        rw [Option.bind_some]
        refine congrArg some ?_
        rw [Bool.eq_iff_iff, beq_iff_eq, decide_eq_true_eq, toList_S]
        exact ⟨fun q => ⟨h1, h2, by omega, q⟩, fun q => q.2.2.2⟩
      · rw [decide_eq_false (fun q : fieldOK n v => by have := q.2.2.1; omega)]
        exact ev_neg h3 (Ev.now _)
    · rw [decide_eq_false (fun q : fieldOK n v => h2 q.2.1)]
      exact ev_neg (by simpa using h2) (Ev.now _)
  · rw [decide_eq_false (fun q : fieldOK n v => h1 q.1)]
    exact ev_neg (by simpa using h1) (Ev.now _)

def alnB (c : UInt8) : Prop := letB c ∨ (48 ≤ c.toNat ∧ c.toNat ≤ 57)
instance (c : UInt8) : Decidable (alnB c) := by unfold alnB; exact inferInstance
theorem alnB_iff (c : UInt8) : alnB c ↔ ((97 ≤ c.toNat ∧ c.toNat ≤ 122) ∨ (65 ≤ c.toNat ∧ c.toNat ≤ 90)) ∨ (48 ≤ c.toNat ∧ c.toNat ≤ 57) := Iff.rfl
theorem sletter_is (c : UInt8) : spec_l1Letter.f (c.toNat : Int) = some (decide (alnB c)) := by
  unfold spec_l1Letter.f
  by_cases h1 : (c.toNat : Int) ≥ 97
  · rw [if_pos h1]
    by_cases h2 : (c.toNat : Int) ≤ 122
    · rw [if_pos h2, decide_eq_true (show alnB c by rw [alnB_iff]; omega)]
    · rw [if_neg h2, if_pos (by omega), if_neg (by omega), if_pos (by omega)]
      refine congrArg some (decide_eq_decide.2 ?_)
      rw [alnB_iff]
      omega
  · rw [if_neg h1]
    by_cases h2 : (c.toNat : Int) ≥ 65
    · rw [if_pos h2]
      by_cases h3 : (c.toNat : Int) ≤ 90
      · rw [if_pos h3, decide_eq_true (show alnB c by rw [alnB_iff]; omega)]
      · rw [if_neg h3, if_pos (by omega)]
        refine congrArg some (decide_eq_decide.2 ?_)
        rw [alnB_iff]
        omega
    · rw [if_neg h2]
      by_cases h3 : (c.toNat : Int) ≥ 48
      · rw [if_pos h3]
        refine congrArg some (decide_eq_decide.2 ?_)
        rw [alnB_iff]
        omega
      · rw [if_neg h3, decide_eq_false (show ¬ alnB c by rw [alnB_iff]; omega)]
theorem sname_ev (n : List UInt8) (hl : n.length ≤ 1000000000) : Ev (fun k => spec_l3Name.f k (S n)) (decide (nameOK n)) := by
  simp only [spec_l3Name.f]
  have fin : (n.length ≤ 30 → ∀ c ∈ n, namB c) → (1 ≤ n.length → letB (n.getD 0 0)) → ∀ i : Nat, Ev (fun k => spec_l3Name.j1 k (S n) (i : Int) false) (decide (nameOK n)) := by
    intro hp h0 i
    refine Ev.step (fun k => by rw [spec_l3Name.j1]) ?_
    rw [size_S]
    refine ev_neg (by decide) ?_
    by_cases h1 : (n.length : Int) ≥ 1
    · refine ev_pos h1 (ev_is ?_)
      exact congrArg some (decide_eq_decide.2 ⟨fun q => ⟨by omega, by omega, h0 (by omega), hp (by omega)⟩, fun q => by have := q.2.1; omega⟩)
    · rw [decide_eq_false (fun q : nameOK n => by have := q.1; omega)]
      exact ev_neg h1 (Ev.now _)
  have no : ∀ i (h : i < n.length), ¬ namB n[i] ∨ (i = 0 ∧ ¬ letB n[i]) → decide (nameOK n) = false := by
    intro i h q
    refine decide_eq_false ?_
    rintro ⟨_, _, q3, q4⟩
    rcases q with q | ⟨rfl, q⟩
    · exact q (q4 _ (List.getElem_mem h))
    · apply q
      rwa [List.getD_eq_getElem?_getD, List.getElem?_eq_getElem h] at q3
  have loop : ∀ (e i : Nat), i + e = n.length → (∀ j (h : j < n.length), j < i → namB n[j]) → (1 ≤ i → letB (n.getD 0 0)) → i ≤ 31 → Ev (fun k => spec_l3Name.l0 k (S n) (i : Int)) (decide (nameOK n)) := by
    intro e
    induction e with
    | zero =>
      intro i hi hp h0 _
      refine Ev.step (fun k => by rw [spec_l3Name.l0]) ?_
      rw [size_S]
      refine ev_neg (by omega) (fin (fun _ c hc => ?_) (fun h => h0 (by omega)) i)
      obtain ⟨j, hj, rfl⟩ := List.mem_iff_getElem.1 hc
      exact hp j hj (by omega)
    | succ e ih =>
      intro i hi hp h0 h31
      have hlt : i < n.length := by omega
      have hg : n.getD i 0 = n[i] := by rw [List.getD_eq_getElem?_getD, List.getElem?_eq_getElem hlt]; rfl
      have w : wrap64 ((i : Int) + 1) = ((i + 1 : Nat) : Int) := by rw [w64 (by omega) (by omega)]; omega
      refine Ev.step (fun k => by rw [spec_l3Name.l0]) ?_
      rw [size_S]
      refine ev_pos (by omega) ?_
      by_cases h30 : i ≤ 30
      · rw [decide_eq_true (show (i : Int) ≤ 30 by omega)]
        refine Ev.step (fun k => by rw [spec_l3Name.j1]) ?_
        simp only [size_S, bt_S, Int.toNat_natCast, hg, w, sletter_is, Option.bind_some]
        clear w
        refine ev_pos trivial (ev_pos (by omega) (ev_pos (by omega) ?_))
        have next : namB n[i] → (i = 0 → letB n[i]) → Ev (fun k => spec_l3Name.l0 k (S n) ((i + 1 : Nat) : Int)) (decide (nameOK n)) := by
          intro q1 q2
          refine ih (i + 1) (by omega) ?_ ?_ (by omega)
          · intro j hj hji
            by_cases q : j = i
            · subst q
              exact q1
            · exact hp j hj (by omega)
          · intro _
            by_cases q : i = 0
            · have := q2 q
              subst q
              rwa [hg]
            · exact h0 (by omega)
        by_cases hc : alnB n[i]
        · have hnb : namB n[i] := by
            rcases hc with hc | hc
            · exact Or.inl hc
            · exact Or.inr (Or.inl hc)
          refine ev_pos (decide_eq_true hc) ?_
          by_cases hz : (i : Int) = 0
          · refine ev_pos hz ?_
            by_cases h57 : (n[i].toNat : Int) ≤ 57
            · rw [no i hlt (Or.inr ⟨by omega, fun q => by rw [letB_iff] at q; omega⟩)]
              exact ev_pos h57 (Ev.now _)
            · refine ev_neg h57 (next hnb (fun _ => ?_))
              rcases hc with hc | hc
              · exact hc
              · omega
          · exact ev_neg hz (next hnb (fun q => by omega))
        · refine ev_neg (by simpa using hc) ?_
          by_cases h45 : (n[i].toNat : Int) = 45
          · refine ev_pos h45 ?_
            by_cases hz : (i : Int) = 0
            · rw [no i hlt (Or.inr ⟨by omega, fun q => hc (Or.inl q)⟩)]
              exact ev_pos hz (ev_pos (by omega) (Ev.now _))
            · exact ev_neg hz (next (Or.inr (Or.inr (by omega))) (fun q => by omega))
          · rw [no i hlt (Or.inl (fun q => by
              rcases q with q | q | q
              · exact hc (Or.inl q)
              · exact hc (Or.inr q)
              · omega))]
            exact ev_neg h45 (Ev.now _)
      · rw [decide_eq_false (show ¬ (i : Int) ≤ 30 by omega)]
        exact fin (fun h => by omega) (fun _ => h0 (by omega)) i
  exact loop n.length 0 (by omega) (fun j _ h => by omega) (fun h => by omega) (by omega)
theorem svalid2_ev (n v : List UInt8) (hn : n.length ≤ 1000000000) (hl : v.length ≤ 1000000000) : Ev (fun k => spec_FieldValid.f k (S n) (S v)) (decide (fieldOK n v)) := by
  simp only [spec_FieldValid.f, size_S, toList_S]
  refine Ev.bind (sname_ev n hn) ?_
  by_cases h1 : nameOK n
  · refine ev_pos (decide_eq_true h1) (Ev.bind (spec_text v (by omega)) ?_)
    by_cases h2 : textOK v
    · refine ev_pos (decide_eq_true h2) ?_
      by_cases h3 : (v.length : Int) ≤ 150
      · refine ev_pos h3 (Ev.bind (spec_trim v (by omega)) (ev_is ?_))
        refine congrArg some ?_
        rw [Bool.eq_iff_iff, beq_iff_eq, decide_eq_true_eq, toList_S]
        exact ⟨fun q => ⟨h1, h2, by omega, (trimB_trim v).2 q⟩, fun q => (trimB_trim v).1 q.2.2.2⟩
      · rw [decide_eq_false (fun q : fieldOK n v => by have := q.2.2.1; omega)]
        exact ev_neg h3 (Ev.now _)
    · rw [decide_eq_false (fun q : fieldOK n v => h2 q.2.1)]
      exact ev_neg (by simpa using h2) (Ev.now _)
  · rw [decide_eq_false (fun q : fieldOK n v => h1 q.1)]
    exact ev_neg (by simpa using h1) (Ev.now _)

/-- A place, as a number; none is -1. -/
def oi : Option Nat → Int
  | none => -1
  | some k => (k : Int)
theorem oi_neg (b : Option Nat) : oi b < 0 ↔ b = none := by
  cases b with
  | none => exact ⟨fun _ => rfl, fun _ => by decide⟩
  | some k => exact ⟨fun h => by have h2 : (k : Int) < 0 := h; omega, fun h => by cases h⟩
theorem u32 (c : UInt8) : (c.toNat : Int) = 32 ↔ c = 32 := by
  constructor
  · intro h
    exact UInt8.toNat_inj.1 (by show c.toNat = 32; omega)
  · rintro rfl
    rfl
theorem iscan {l : List UInt8} {outs : List (List UInt8)} {R : List ByteArray} (hl : l.length ≤ 100000) : ∀ (e i : Nat) (b : Option Nat), i + e + 1 = l.length → 1 ≤ i → Ev (fun k => impl_foldField.l1 k (S l) (SL outs) (oi (scanB l e i b)) ((i + e : Nat) : Int)) R →
    Ev (fun k => impl_foldField.l1 k (S l) (SL outs) (oi b) (i : Int)) R := by
  intro e
  induction e with
  | zero => intro i b _ _ H; exact H
  | succ e ih =>
    intro i b hi h1 H
    obtain ⟨w, w2⟩ : wrap64 ((i : Int) + 1) = ((i + 1 : Nat) : Int) ∧ wrap64 ((i : Int) - 1) = ((i - 1 : Nat) : Int) := ⟨by rw [w64 (by omega) (by omega)]; omega, by rw [w64 (by omega) (by omega)]; omega⟩
    have hn : ∀ b', b' = (if sp1 l i ∧ (b = none ∨ i ≤ 40) then some i else b) → Ev (fun k => impl_foldField.l1 k (S l) (SL outs) (oi b') ((i + 1 : Nat) : Int)) R := by
      rintro b' rfl
      refine ih (i + 1) _ (by omega) (by omega) ?_
      have e1 : i + 1 + e = i + (e + 1) := by omega
      rw [e1]
      exact H
    refine Ev.step (fun k => by rw [impl_foldField.l1]) ?_
    simp only [size_S, bt_S, Int.toNat_natCast, w, w2, u32, oi_neg]
    clear w w2
    refine ev_pos (by omega) (ev_pos (by omega) (ev_pos (by omega) ?_))
    by_cases c1 : l.getD i 0 = 32
    · refine ev_pos c1 (ev_pos (by omega) (ev_pos (by omega) ?_))
      by_cases c2 : l.getD (i - 1) 0 = 32
      · exact ev_pos c2 (hn b (by rw [if_neg (fun q => q.1.2.1 c2)]))
      · refine ev_neg c2 (ev_pos (by omega) ?_)
        by_cases c3 : l.getD (i + 1) 0 = 32
        · exact ev_pos c3 (hn b (by rw [if_neg (fun q => q.1.2.2 c3)]))
        · refine ev_neg c3 ?_
          by_cases c4 : b = none
          · exact ev_pos c4 (hn (some i) (by rw [if_pos ⟨⟨c1, c2, c3⟩, Or.inl c4⟩]))
          · refine ev_neg c4 ?_
            by_cases c5 : (i : Int) ≤ 40
            · exact ev_pos c5 (hn (some i) (by rw [if_pos ⟨⟨c1, c2, c3⟩, Or.inr (by omega)⟩]))
            · exact ev_neg c5 (hn b (by rw [if_neg (fun q => q.2.elim c4 (fun z => c5 (by omega)))]))
    · exact ev_neg c1 (hn b (by rw [if_neg (fun q => c1 q.1.1)]))
theorem ifold_l0 : ∀ (f : Nat) (l : List UInt8) (first : Nat) (outs : List (List UInt8)), l.length ≤ f → f ≤ 1000 → 1 ≤ first → first ≤ 35 → outs.length + f ≤ 2000 →
    Ev (fun k => impl_foldField.l0 k (S l) (first : Int) (SL outs)) (SL (outs ++ foldF f l first)) := by
  intro f
  induction f with
  | zero =>
    intro l first outs h1 _ _ _ h5
    have : l = [] := List.eq_nil_of_length_eq_zero (by omega)
    subst this
    refine Ev.step (fun k => by rw [impl_foldField.l0]) ?_
    simp only [size_S, SL_length, SL_one, SL_append]
    exact ev_neg (by simp) (ev_pos (by omega) (Ev.now _))
  | succ f ih =>
    intro l first outs h1 h2 h3 h4 h5
    refine Ev.step (fun k => by rw [impl_foldField.l0]) ?_
    simp only [size_S, SL_length, SL_one, SL_append]
    by_cases h40 : l.length > 40
    · refine ev_pos (by omega) ?_
      have hs := iscan (l := l) (outs := outs) (R := SL (outs ++ foldF (f + 1) l first)) (by omega) (l.length - 1 - first) first none (by omega) h3
      refine hs ?_
      have e1 : scanB l (l.length - 1 - first) first none = brk l first := rfl
      have e2 : first + (l.length - 1 - first) = l.length - 1 := by omega
      rw [e1, e2]
      have w : wrap64 (((l.length - 1 : Nat) : Int) + 1) = (l.length : Int) := by rw [w64 (by omega) (by omega)]; omega
      refine Ev.step (fun k => by rw [impl_foldField.l1]) ?_
      simp only [size_S, SL_length, w, oi_neg]
      clear w
      refine ev_neg (by omega) ?_
      cases hb : brk l first with
      | none =>
        have er : foldF (f + 1) l first = [l] := by rw [foldF, if_pos h40, hb]
        rw [er]
        simp only [SL_one, SL_append]
        exact ev_pos trivial (ev_pos (by omega) (Ev.now _))
      | some k =>
        have er : foldF (f + 1) l first = l.take k :: foldF f (l.drop k) 2 := by rw [foldF, if_pos h40, hb]
        obtain ⟨k1, k2, _⟩ := brk_in (by omega) hb
        rw [er]
        have ek : oi (some k) = (k : Int) := rfl
        rw [ek]
        simp only [Int.toNat_natCast, extract_S, List.drop_zero, Nat.sub_zero, SL_one, SL_append]
        have e3 : (l.drop k).take (l.length - k) = l.drop k := List.take_of_length_le (by rw [List.length_drop]; exact Nat.le_refl _)
        have := ih (l.drop k) 2 (outs ++ [l.take k]) (by rw [List.length_drop]; omega) (by omega) (by omega) (by omega) (by rw [List.length_append]; simp; omega)
        rw [List.append_assoc] at this
        rw [e3]
        exact ev_neg (by simp) (ev_pos (by omega) (ev_pos (by omega) (ev_pos (by omega) this)))
    · have er : foldF (f + 1) l first = [l] := by rw [foldF, if_neg h40]
      rw [er]
      exact ev_neg (by omega) (ev_pos (by omega) (Ev.now _))
theorem foldF_short {f : Nat} {l : List UInt8} (h : l.length ≤ 40) (a b : Nat) : foldF f l a = foldF f l b := by
  cases f with
  | zero => rfl
  | succ f => rw [foldF, foldF, if_neg (by omega), if_neg (by omega)]
/-- The lines of a field. -/
def foldL (n v : List UInt8) : List (List UInt8) := foldF 200 (lineF n v) (n.length + 3)
theorem e58 : (⟨#[58]⟩ : ByteArray) = S [58] := rfl
theorem e32 : (⟨#[32]⟩ : ByteArray) = S [32] := rfl
theorem fitsN {n : Nat} (h : n ≤ 1000) : n ≤ 9223372036854775807 := by omega
theorem ifold_ev {n v : List UInt8} (h : fieldOK n v) : Ev (fun k => impl_foldField.f k (S n) (S v)) (SL (foldL n v)) := by
  have h1 := h.1.2.1
  have h2 := h.2.2.1
  have hll := lineF_len n v
  have w : wrap64 ((n.length : Int) + 3) = ((n.length + 3 : Nat) : Int) := by rw [w64 (by omega) (by omega)]; omega
  simp only [impl_foldField.f, size_S, e58, e32, append_S, toList_S, w]
  clear w
  refine ev_pos (fitsN (by omega)) ?_
  have go : ∀ s, s = lineF n v → Ev (fun k => impl_foldField.j0 k (S s) ((n.length + 3 : Nat) : Int)) (SL (foldL n v)) := by
    rintro s rfl
    refine Ev.step (fun k => by rw [impl_foldField.j0]) ?_
    have := ifold_l0 200 (lineF n v) (n.length + 3) [] (by omega) (by omega) (by omega) (by omega) (by simp)
    exact this
  by_cases hv : v = []
  · refine ev_pos hv (go _ ?_)
    unfold lineF
    rw [if_pos hv, List.append_nil]
  · refine ev_neg hv (ev_pos (fitsN (by omega)) (ev_pos (fitsN (by simp; omega)) (go _ ?_)))
    unfold lineF
    rw [if_neg hv]
theorem sscan {l : List UInt8} (hl : l.length ≤ 100000) : ∀ (e i : Nat) (b : Option Nat), i + e + 1 = l.length → 1 ≤ i → Ev (fun k => spec_l3Break.l0 k (S l) (oi b) (i : Int)) (oi (scanB l e i b)) := by
  intro e
  induction e with
  | zero =>
    intro i b hi h1
    have w : wrap64 ((i : Int) + 1) = ((i + 1 : Nat) : Int) := by rw [w64 (by omega) (by omega)]; omega
    refine Ev.step (fun k => by rw [spec_l3Break.l0]) ?_
    rw [size_S, w]
    exact ev_neg (by omega) (Ev.now _)
  | succ e ih =>
    intro i b hi h1
    obtain ⟨w, w2⟩ : wrap64 ((i : Int) + 1) = ((i + 1 : Nat) : Int) ∧ wrap64 ((i : Int) - 1) = ((i - 1 : Nat) : Int) := ⟨by rw [w64 (by omega) (by omega)]; omega, by rw [w64 (by omega) (by omega)]; omega⟩
    have hn : ∀ b', b' = (if sp1 l i ∧ (b = none ∨ i ≤ 40) then some i else b) → Ev (fun k => spec_l3Break.l0 k (S l) (oi b') ((i + 1 : Nat) : Int)) (oi (scanB l (e + 1) i b)) := by
      rintro b' rfl
      exact ih (i + 1) _ (by omega) (by omega)
    have skip : ¬ sp1 l i → Ev (fun k => spec_l3Break.j1 k (S l) (oi b) (i : Int) true) (oi (scanB l (e + 1) i b)) := by
      intro q
      refine Ev.step (fun k => by rw [spec_l3Break.j1]) ?_
      rw [w]
      exact ev_pos rfl (hn b (by rw [if_neg (fun z => q z.1)]))
    have eb : bt (S l) ((i + 1 : Nat) : Int) = ((l.getD (i + 1) 0).toNat : Int) := by rw [bt_S, Int.toNat_natCast]
    refine Ev.step (fun k => by rw [spec_l3Break.l0]) ?_
    simp only [size_S, w, w2, eb]
    simp only [bt_S, Int.toNat_natCast, u32]
    refine ev_pos (by clear w w2 eb; omega) (ev_pos (by clear w w2 eb; omega) (ev_pos (by clear w w2 eb; omega) ?_))
    by_cases c1 : l.getD i 0 = 32
    · refine ev_pos c1 (ev_pos (by clear w w2 eb; omega) (ev_pos (by clear w w2 eb; omega) ?_))
      by_cases c2 : l.getD (i - 1) 0 = 32
      · exact ev_pos c2 (skip (fun q => q.2.1 c2))
      · refine ev_neg c2 (ev_pos (by clear w w2 eb; omega) ?_)
        by_cases c3 : l.getD (i + 1) 0 = 32
        · rw [beq_iff_eq.2 ((u32 _).2 c3)]
          exact skip (fun q => q.2.2 c3)
        · rw [beq_eq_false_iff_ne.2 (fun q => c3 ((u32 _).1 q))]
          refine Ev.step (fun k => by rw [spec_l3Break.j1]) ?_
          simp only [w, oi_neg]
          refine ev_neg (by decide) ?_
          by_cases c5 : (i : Int) ≤ 40
          · exact ev_pos c5 (hn (some i) (by rw [if_pos ⟨⟨c1, c2, c3⟩, Or.inr (by clear w w2 eb; omega)⟩]))
          · refine ev_neg c5 ?_
            by_cases c4 : b = none
            · exact ev_pos c4 (hn (some i) (by rw [if_pos ⟨⟨c1, c2, c3⟩, Or.inl c4⟩]))
            · exact ev_neg c4 (hn b (by rw [if_neg (fun q => q.2.elim c4 (fun z => c5 (by clear w w2 eb; omega)))]))
    · exact ev_neg c1 (skip (fun q => c1 q.1))
theorem sfold_l0 : ∀ (f : Nat) (l : List UInt8) (from_ : Nat) (outs : List (List UInt8)), l.length ≤ f → f ≤ 1000 → 1 ≤ from_ → from_ ≤ 35 → outs.length + f ≤ 2000 →
    Ev (fun k => spec_FoldField.l0 k (SL outs) (S l) (from_ : Int)) (SL (outs ++ foldF f l (from_ + 1))) := by
  intro f
  induction f with
  | zero =>
    intro l first outs h1 _ _ _ h5
    have : l = [] := List.eq_nil_of_length_eq_zero (by omega)
    subst this
    refine Ev.step (fun k => by rw [spec_FoldField.l0]) ?_
    simp only [size_S, SL_length, SL_one, SL_append]
    exact ev_neg (by simp) (ev_pos (by omega) (Ev.now _))
  | succ f ih =>
    intro l first outs h1 h2 h3 h4 h5
    refine Ev.step (fun k => by rw [spec_FoldField.l0]) ?_
    simp only [size_S, SL_length, SL_one, SL_append]
    by_cases h40 : l.length > 40
    · refine ev_pos (by omega) ?_
      have hb0 : Ev (fun k => spec_l3Break.f k (S l) (first : Int)) (oi (brk l (first + 1))) := by
        have w : wrap64 ((first : Int) + 1) = ((first + 1 : Nat) : Int) := by rw [w64 (by omega) (by omega)]; omega
        simp only [spec_l3Break.f, w]
        clear w
        exact sscan (by omega) (l.length - 1 - (first + 1)) (first + 1) none (by omega) (by omega)
      refine Ev.bind hb0 ?_
      simp only [oi_neg]
      cases hb : brk l (first + 1) with
      | none =>
        have er : foldF (f + 1) l (first + 1) = [l] := by rw [foldF, if_pos h40, hb]
        rw [er]
        exact ev_pos rfl (ev_pos (by omega) (Ev.now _))
      | some k =>
        have er : foldF (f + 1) l (first + 1) = l.take k :: foldF f (l.drop k) 2 := by rw [foldF, if_pos h40, hb]
        obtain ⟨k1, k2, _⟩ := brk_in (by omega) hb
        rw [er]
        have ek : oi (some k) = (k : Int) := rfl
        rw [ek]
        simp only [Int.toNat_natCast, extract_S, List.drop_zero, Nat.sub_zero, SL_one, SL_append]
        have e3 : (l.drop k).take (l.length - k) = l.drop k := List.take_of_length_le (by rw [List.length_drop]; exact Nat.le_refl _)
        have := ih (l.drop k) 1 (outs ++ [l.take k]) (by rw [List.length_drop]; omega) (by omega) (by omega) (by omega) (by rw [List.length_append]; simp; omega)
        rw [List.append_assoc] at this
        rw [e3]
        exact ev_neg (by simp) (ev_pos (by omega) (ev_pos (by omega) (ev_pos (by omega) this)))
    · have er : foldF (f + 1) l (first + 1) = [l] := by rw [foldF, if_neg h40]
      rw [er]
      exact ev_neg (by omega) (ev_pos (by omega) (Ev.now _))
theorem sFold_ev (n v : List UInt8) (hn : n.length ≤ 1000000000) (hv : v.length ≤ 1000000000) : Ev (fun k => spec_FoldField.f k (S n) (S v)) (SL (if fieldOK n v then foldL n v else [])) := by
  simp only [spec_FoldField.f, Option.bind_some]
  refine Ev.bind (svalid2_ev n v hn hv) ?_
  by_cases h : fieldOK n v
  · rw [if_pos h]
    refine ev_pos (decide_eq_true h) ?_
    have h1 := h.1.2.1
    have h2 := h.2.2.1
    have hll := lineF_len n v
    simp only [size_S, e58, e32, append_S, toList_S]
    have hl58 : (n ++ [58]).length = n.length + 1 := by simp
    refine ev_pos (fitsN (by omega)) ?_
    by_cases hv0 : v = []
    · refine ev_pos hv0 ?_
      have el : n ++ [58] = lineF n v := by unfold lineF; rw [if_pos hv0, List.append_nil]
      refine Ev.step (fun k => by rw [spec_FoldField.j0]) ?_
      have := sfold_l0 200 (lineF n v) (n.length + 1) [] (by omega) (by omega) (by omega) (by omega) (by simp)
      have e2 : foldF 200 (lineF n v) (n.length + 1 + 1) = foldL n v := foldF_short (by rw [← el, hl58]; omega) _ _
      rw [List.nil_append, e2] at this
      rw [hl58, el]
      exact this
    · have el : n ++ [58] ++ [32] ++ v = lineF n v := by unfold lineF; rw [if_neg hv0]; simp
      have w : wrap64 (((n ++ [58]).length : Int) + 1) = ((n.length + 2 : Nat) : Int) := by rw [hl58, w64 (by omega) (by omega)]; omega
      rw [w]
      clear w
      refine ev_neg hv0 (ev_pos (fitsN (by omega)) (ev_pos (fitsN (by simp; omega)) ?_))
      refine Ev.step (fun k => by rw [spec_FoldField.j0]) ?_
      have := sfold_l0 200 (lineF n v) (n.length + 2) [] (by omega) (by omega) (by omega) (by omega) (by simp)
      rw [el]
      exact this
  · rw [if_neg h]
    exact ev_neg (by simpa using h) (Ev.now _)

/-- Fields, as the program has them. -/
def SF (F : List (List UInt8 × List UInt8)) : List S36 := F.map fun p => ⟨S p.1, S p.2⟩
theorem SF_length (F : List (List UInt8 × List UInt8)) : (SF F).length = F.length := by unfold SF; simp
theorem rd_SF (F : List (List UInt8 × List UInt8)) (i : Nat) (h : i < F.length) : rd_T36 (SF F) (i : Int) = ⟨S F[i].1, S F[i].2⟩ := by
  unfold rd_T36 SF
  rw [Int.toNat_natCast, List.getD_eq_getElem?_getD]
  simp [h]
def Fine (F : List (List UInt8 × List UInt8)) : Prop := F.length ≤ 20 ∧ ∀ p ∈ F, fieldOK p.1 p.2
instance (F : List (List UInt8 × List UInt8)) : Decidable (Fine F) := by unfold Fine; exact inferInstance
def Small (F : List (List UInt8 × List UInt8)) : Prop := F.length ≤ 1000000000 ∧ ∀ p ∈ F, p.1.length ≤ 1000000000 ∧ p.2.length ≤ 1000000000
theorem iidx_ev (F : List (List UInt8 × List UInt8)) (hF : Small F) : Ev (fun k => impl_Field_53.f k (SF F)) (decide (∃ p ∈ F, ¬ fieldOK p.1 p.2)) := by
  have loop : ∀ (e i : Nat), i + e = F.length → (∀ j (h : j < F.length), j < i → fieldOK F[j].1 F[j].2) → ∃ r : Int, Ev (fun k => impl_Field_73.l0 k (SF F) (F.length : Int) (i : Int)) r ∧ (r ≥ 0 ↔ ∃ p ∈ F, ¬ fieldOK p.1 p.2) := by
    intro e
    induction e with
    | zero =>
      intro i hi hp
      refine ⟨-1, ?_, fun q => by omega, ?_⟩
      · refine Ev.step (fun k => by rw [impl_Field_73.l0]) ?_
        exact ev_neg (by omega) (Ev.now _)
      · rintro ⟨p, hm, hq⟩
        obtain ⟨j, hj, rfl⟩ := List.mem_iff_getElem.1 hm
        exact absurd (hp j hj (by omega)) hq
    | succ e ih =>
      intro i hi hp
      have hlt : i < F.length := by omega
      have w : wrap64 ((i : Int) + 1) = ((i + 1 : Nat) : Int) := by
        have := hF.1
        rw [w64 (by omega) (by omega)]
        omega
      have hs := hF.2 F[i] (List.getElem_mem hlt)
      have hv := ivalid_ev F[i].1 F[i].2 hs.1 hs.2
      by_cases hc : fieldOK F[i].1 F[i].2
      · obtain ⟨r, hr, hq⟩ := ih (i + 1) (by omega) (fun j hj hji => by
          by_cases q : j = i
          · subst q
            exact hc
          · exact hp j hj (by omega))
        refine ⟨r, ?_, hq⟩
        refine Ev.step (fun k => by rw [impl_Field_73.l0]) ?_
        simp only [SF_length, rd_SF F i hlt, w, impl_fieldsValid_1.f]
        clear w
        rw [decide_eq_true hc] at hv
        refine ev_pos (by omega) (ev_pos (by omega) (ev_pos (by omega) (Ev.bind (Ev.bind hv (Ev.now _)) (ev_neg (by decide) hr))))
      · refine ⟨(i : Int), ?_, fun _ => ⟨F[i], List.getElem_mem hlt, hc⟩, fun _ => by omega⟩
        refine Ev.step (fun k => by rw [impl_Field_73.l0]) ?_
        simp only [SF_length, rd_SF F i hlt, w, impl_fieldsValid_1.f]
        clear w
        rw [decide_eq_false hc] at hv
        exact ev_pos (by omega) (ev_pos (by omega) (ev_pos (by omega) (Ev.bind (Ev.bind hv (Ev.now _)) (ev_pos rfl (Ev.now _)))))
  obtain ⟨r, hr, hq⟩ := loop F.length 0 (by omega) (fun j _ h => by omega)
  simp only [impl_Field_53.f, impl_Field_73.f, SF_length]
  refine Ev.bind hr (ev_is ?_)
  rw [decide_eq_decide.2 hq]
theorem ivalids_ev (F : List (List UInt8 × List UInt8)) (hF : Small F) : Ev (fun k => impl_fieldsValid.f k (SF F)) (decide (Fine F)) := by
  simp only [impl_fieldsValid.f, SF_length]
  by_cases h : (F.length : Int) ≤ 20
  · refine ev_pos h (Ev.bind (iidx_ev F hF) (ev_is ?_))
    refine congrArg some ?_
    rw [Bool.eq_iff_iff, Bool.not_eq_true', decide_eq_false_iff_not, decide_eq_true_eq]
    constructor
    · intro q
      exact ⟨by omega, fun p hp => Decidable.byContradiction fun z => q ⟨p, hp, z⟩⟩
    · rintro q ⟨p, hp, z⟩
      exact z (q.2 p hp)
  · rw [decide_eq_false (fun q : Fine F => by have := q.1; omega)]
    exact ev_neg h (Ev.now _)

def foldAll (F : List (List UInt8 × List UInt8)) : List (List UInt8) := (F.map fun p => foldL p.1 p.2).flatten
theorem foldAll_cons (p : List UInt8 × List UInt8) (F : List (List UInt8 × List UInt8)) : foldAll (p :: F) = foldL p.1 p.2 ++ foldAll F := rfl
theorem foldL_len (n v : List UInt8) : (foldL n v).length ≤ 201 := foldF_len _ _ _
theorem foldAll_len (F : List (List UInt8 × List UInt8)) : (foldAll F).length ≤ 201 * F.length := by
  induction F with
  | nil => exact Nat.zero_le _
  | cons p F ih =>
    have := foldL_len p.1 p.2
    rw [foldAll_cons, List.length_append, List.length_cons]
    omega
theorem foldAll_flat (F : List (List UInt8 × List UInt8)) (h : ∀ p ∈ F, fieldOK p.1 p.2) : (foldAll F).flatten.length ≤ 200 * F.length := by
  induction F with
  | nil => exact Nat.zero_le _
  | cons p F ih =>
    have h1 := ih (fun q hq => h q (by simp [hq]))
    have h2 := h p (by simp)
    have h3 : (foldL p.1 p.2).flatten = lineF p.1 p.2 := foldF_flat _ _ _
    have h4 := lineF_len p.1 p.2
    have h5 := h2.1.2.1
    have h6 := h2.2.2.1
    rw [foldAll_cons, List.flatten_append, List.length_append, h3, List.length_cons]
    omega
theorem foldL_heads {n v : List UInt8} (h : nameOK n) : ∃ a t, foldL n v = a :: t ∧ a.head? ≠ some 32 ∧ ∀ x ∈ t, x.head? = some 32 := by
  obtain ⟨a, t, he, hha, hht⟩ := foldF_heads 200 (lineF n v) (n.length + 3) (by omega)
  obtain ⟨c, hc, hc2⟩ := lineF_head (v := v) h
  refine ⟨a, t, he, ?_, hht⟩
  rw [hha, hc]
  exact fun q => hc2 (Option.some.inj q)
theorem iffs_ev {F : List (List UInt8 × List UInt8)} (hF : Small F) : Ev (fun k => impl_FoldFields.f k (SF F)) (if Fine F then (SL (foldAll F), true) else ([], false)) := by
  simp only [impl_FoldFields.f, SF_length]
  refine Ev.bind (ivalids_ev F hF) ?_
  by_cases h : Fine F
  · rw [if_pos h]
    refine ev_pos (decide_eq_true h) ?_
    have hl := h.1
    have loop : ∀ (e i : Nat), i + e = F.length → Ev (fun k => impl_FoldFields.l0 k (SL (foldAll (F.take i))) (SF F) (F.length : Int) (i : Int)) (SL (foldAll F), true) := by
      intro e
      induction e with
      | zero =>
        intro i hi
        rw [List.take_of_length_le (by omega)]
        refine Ev.step (fun k => by rw [impl_FoldFields.l0]) ?_
        exact ev_neg (by omega) (Ev.now _)
      | succ e ih =>
        intro i hi
        have hlt : i < F.length := by omega
        have w : wrap64 ((i : Int) + 1) = ((i + 1 : Nat) : Int) := by rw [w64 (by omega) (by omega)]; omega
        have hx := ifold_ev (h.2 F[i] (List.getElem_mem hlt))
        have e1 : foldAll (F.take (i + 1)) = foldAll (F.take i) ++ foldL F[i].1 F[i].2 := by
          unfold foldAll
          rw [List.take_succ_eq_append_getElem hlt, List.map_append, List.flatten_append]
          simp
        have l1 := foldAll_len (F.take i)
        have l2 := foldL_len F[i].1 F[i].2
        rw [List.length_take] at l1
        have hih := ih (i + 1) (by omega)
        rw [e1] at hih
        refine Ev.step (fun k => by rw [impl_FoldFields.l0]) ?_
        simp only [SF_length, rd_SF F i hlt, w]
        clear w
        refine ev_pos (by omega) (ev_pos (by omega) (ev_pos (by omega) (Ev.bind hx ?_)))
        simp only [SL_length, SL_append]
        exact ev_pos (by omega) hih
    exact loop F.length 0 (by omega)
  · rw [if_neg h]
    exact ev_neg (by simpa using h) (Ev.now _)
theorem svalids_ev {F : List (List UInt8 × List UInt8)} (hF : Small F) : Ev (fun k => spec_l3Valid.f k (SF F)) (decide (Fine F)) := by
  simp only [spec_l3Valid.f]
  have hl := hF.1
  have fin : (F.length ≤ 20 → ∀ p ∈ F, fieldOK p.1 p.2) → ∀ i : Nat, Ev (fun k => spec_l3Valid.j1 k (SF F) (i : Int) false) (decide (Fine F)) := by
    intro h i
    refine Ev.step (fun k => by rw [spec_l3Valid.j1]) ?_
    rw [SF_length]
    refine ev_neg (by decide) (ev_is ?_)
    exact congrArg some (decide_eq_decide.2 ⟨fun q => ⟨by omega, h (by omega)⟩, fun q => by have := q.1; omega⟩)
  have loop : ∀ (e i : Nat), i + e = F.length → i ≤ 21 → (∀ j (h : j < F.length), j < i → fieldOK F[j].1 F[j].2) → Ev (fun k => spec_l3Valid.l0 k (SF F) (i : Int)) (decide (Fine F)) := by
    intro e
    induction e with
    | zero =>
      intro i hi _ hp
      refine Ev.step (fun k => by rw [spec_l3Valid.l0]) ?_
      rw [SF_length]
      refine ev_neg (by omega) (fin (fun _ p hm => ?_) i)
      obtain ⟨j, hj, rfl⟩ := List.mem_iff_getElem.1 hm
      exact hp j hj (by omega)
    | succ e ih =>
      intro i hi h21 hp
      have hlt : i < F.length := by omega
      have w : wrap64 ((i : Int) + 1) = ((i + 1 : Nat) : Int) := by rw [w64 (by omega) (by omega)]; omega
      have hs := hF.2 F[i] (List.getElem_mem hlt)
      have hv := svalid2_ev F[i].1 F[i].2 hs.1 hs.2
      refine Ev.step (fun k => by rw [spec_l3Valid.l0]) ?_
      rw [SF_length]
      refine ev_pos (by omega) ?_
      by_cases h20 : i ≤ 20
      · rw [decide_eq_true (show (i : Int) ≤ 20 by omega)]
        refine Ev.step (fun k => by rw [spec_l3Valid.j1]) ?_
        simp only [SF_length, rd_SF F i hlt, w]
        clear w
        refine ev_pos trivial (ev_pos (by omega) (ev_pos (by omega) (Ev.bind hv ?_)))
        by_cases hc : fieldOK F[i].1 F[i].2
        · refine ev_pos (decide_eq_true hc) (ih (i + 1) (by omega) (by omega) (fun j hj hji => ?_))
          by_cases q : j = i
          · subst q
            exact hc
          · exact hp j hj (by omega)
        · rw [decide_eq_false (fun q : Fine F => hc (q.2 _ (List.getElem_mem hlt)))]
          exact ev_neg (by simpa using hc) (Ev.now _)
      · rw [decide_eq_false (show ¬ (i : Int) ≤ 20 by omega)]
        exact fin (fun h => by omega) i
  exact loop F.length 0 (by omega) (by omega) (fun j _ h => by omega)
theorem sffs_ev {F : List (List UInt8 × List UInt8)} (hF : Small F) : Ev (fun k => spec_FoldFields.f k (SF F)) (if Fine F then (SL (foldAll F), true) else ([], false)) := by
  simp only [spec_FoldFields.f, Option.bind_some]
  refine Ev.bind (svalids_ev hF) ?_
  by_cases h : Fine F
  · rw [if_pos h]
    refine ev_pos (decide_eq_true h) ?_
    have hl := h.1
    have loop : ∀ (e i : Nat), i + e = F.length → Ev (fun k => spec_FoldFields.l0 k (SF F) (SL (foldAll (F.take i))) (i : Int)) (SL (foldAll F), true) := by
      intro e
      induction e with
      | zero =>
        intro i hi
        rw [List.take_of_length_le (by omega)]
        refine Ev.step (fun k => by rw [spec_FoldFields.l0]) ?_
        rw [SF_length]
        exact ev_neg (by omega) (Ev.now _)
      | succ e ih =>
        intro i hi
        have hlt : i < F.length := by omega
        have w : wrap64 ((i : Int) + 1) = ((i + 1 : Nat) : Int) := by rw [w64 (by omega) (by omega)]; omega
        have hs := hF.2 F[i] (List.getElem_mem hlt)
        have hx := sFold_ev F[i].1 F[i].2 hs.1 hs.2
        rw [if_pos (h.2 F[i] (List.getElem_mem hlt))] at hx
        have e1 : foldAll (F.take (i + 1)) = foldAll (F.take i) ++ foldL F[i].1 F[i].2 := by
          unfold foldAll
          rw [List.take_succ_eq_append_getElem hlt, List.map_append, List.flatten_append]
          simp
        have l1 := foldAll_len (F.take i)
        have l2 := foldL_len F[i].1 F[i].2
        rw [List.length_take] at l1
        have hih := ih (i + 1) (by omega)
        rw [e1] at hih
        refine Ev.step (fun k => by rw [spec_FoldFields.l0]) ?_
        simp only [SF_length, rd_SF F i hlt, w]
        clear w
        refine ev_pos (by omega) (ev_pos (by omega) (Ev.bind hx ?_))
        simp only [SL_length, SL_append]
        exact ev_pos (by omega) hih
    exact loop F.length 0 (by omega)
  · rw [if_neg h]
    exact ev_neg (by simpa using h) (Ev.now _)

theorem rd49 (l : List S49) (i : Nat) (h : i < l.length) : rd_T49 l (i : Int) = l[i] := by
  unfold rd_T49
  rw [Int.toNat_natCast, List.getD_eq_getElem?_getD]
  simp [h]
theorem szf (l : List S49) (hn : l.length ≤ maxLen) (hz : ∀ s ∈ l, s.f0.size ≤ maxLen ∧ s.f1.size ≤ maxLen) :
    ∃ r, Ev (fun k => laws_szFieldS.f k l 1048576) r ∧ (r < 0 ∨ (l.length ≤ 1048576 ∧ ∀ s ∈ l, s.f0.size ≤ 1048576 ∧ s.f1.size ≤ 1048576)) := by
  have hm : maxLen = 9223372036854775807 := rfl
  rw [hm] at hn
  have loop : ∀ (e i : Nat) (x1 : Int), i + e = l.length → l.length ≤ 1048576 → 0 ≤ x1 → x1 ≤ 1048576 → ∃ r, Ev (fun k => laws_szFieldS.l0 k l x1 (i : Int)) r ∧ (r < 0 ∨ ∀ j (h : j < l.length), i ≤ j → l[j].f0.size ≤ 1048576 ∧ l[j].f1.size ≤ 1048576) := by
    intro e
    induction e with
    | zero =>
      intro i x1 hi _ h0 h1
      refine ⟨x1, Ev.step (fun k => by rw [laws_szFieldS.l0]) (ev_neg (by omega) (Ev.now _)), Or.inr fun j h hij => by omega⟩
    | succ e ih =>
      intro i x1 hi hc h0 h1
      have hlt : i < l.length := by omega
      have hs := hz l[i] (List.getElem_mem hlt)
      rw [hm] at hs
      have w1 : wrap64 ((i : Int) + 1) = ((i + 1 : Nat) : Int) := by rw [w64 (by omega) (by omega)]; omega
      have w2 : wrap64 (x1 - (l[i].f0.size : Int)) = x1 - (l[i].f0.size : Int) := w64 (by omega) (by omega)
      by_cases hneg : x1 - (l[i].f0.size : Int) < 0
      · refine ⟨-1, Ev.step (fun k => by rw [laws_szFieldS.l0]) ?_, Or.inl (by omega)⟩
        simp only [rd49 l i hlt, laws_szField.f, w2]
        rw [if_pos hneg]
        clear w1 w2
        exact ev_pos (by omega) (ev_pos (by omega) (Ev.bind (Ev.now _) (ev_pos (by decide) (Ev.now _))))
      · have w3 : wrap64 (x1 - (l[i].f0.size : Int) - (l[i].f1.size : Int)) = x1 - (l[i].f0.size : Int) - (l[i].f1.size : Int) := by
          clear w1 w2
          exact w64 (by omega) (by omega)
        by_cases hneg2 : x1 - (l[i].f0.size : Int) - (l[i].f1.size : Int) < 0
        · refine ⟨-1, Ev.step (fun k => by rw [laws_szFieldS.l0]) ?_, Or.inl (by omega)⟩
          simp only [rd49 l i hlt, laws_szField.f, w2, w3]
          rw [if_neg hneg, if_pos hneg2]
          clear w1 w2 w3
          exact ev_pos (by omega) (ev_pos (by omega) (Ev.bind (Ev.now _) (ev_pos (by decide) (Ev.now _))))
        · obtain ⟨r, hev, hp⟩ := ih (i + 1) (x1 - (l[i].f0.size : Int) - (l[i].f1.size : Int)) (by omega) hc (by clear w1 w2 w3; omega) (by clear w1 w2 w3; omega)
          refine ⟨r, Ev.step (fun k => by rw [laws_szFieldS.l0]) ?_, ?_⟩
          · simp only [rd49 l i hlt, laws_szField.f, w2, w3, w1]
            rw [if_neg hneg, if_neg hneg2]
            clear w1 w2 w3
            exact ev_pos (by omega) (ev_pos (by omega) (Ev.bind (Ev.now _) (ev_neg hneg2 hev)))
          · rcases hp with hp | hp
            · exact Or.inl hp
            · refine Or.inr fun j hj hij => ?_
              by_cases hji : j = i
              · subst hji
                clear w1 w2 w3
                omega
              · exact hp j hj (by omega)
  simp only [laws_szFieldS.f]
  have w : wrap64 (1048576 - (l.length : Int)) = 1048576 - (l.length : Int) := w64 (by omega) (by omega)
  rw [w]
  clear w
  by_cases h : (1048576 - (l.length : Int)) < 0
  · exact ⟨-1, ev_pos h (Ev.now _), Or.inl (by omega)⟩
  · obtain ⟨r, hev, hp⟩ := loop l.length 0 (1048576 - (l.length : Int)) (by omega) (by omega) (by omega) (by omega)
    refine ⟨r, ev_neg h hev, ?_⟩
    rcases hp with hp | hp
    · exact Or.inl hp
    · refine Or.inr ⟨by omega, fun s hs => ?_⟩
      obtain ⟨j, hj, rfl⟩ := List.mem_iff_getElem.1 hs
      exact hp j hj (Nat.zero_le _)
/-- The law's fields, as the program's. -/
def pairsOf (l : List S49) : List (List UInt8 × List UInt8) := l.map fun s => (s.f0.data.toList, s.f1.data.toList)
theorem pairs_length (l : List S49) : (pairsOf l).length = l.length := by unfold pairsOf; simp
theorem pairs_at (l : List S49) (i : Nat) (h : i < l.length) : SF (pairsOf l) = SF (pairsOf l) ∧ (SF (pairsOf l))[i]? = some (⟨l[i].f0, l[i].f1⟩ : S36) := by
  refine ⟨rfl, ?_⟩
  unfold SF pairsOf
  rw [List.map_map, List.getElem?_map, List.getElem?_eq_getElem h]
  show some (⟨S l[i].f0.data.toList, S l[i].f1.data.toList⟩ : S36) = _
  rw [S_eta, S_eta]
theorem tof_ev (l : List S49) (hn : l.length ≤ 1048576) : Ev (fun k => laws_toFieldS.f k l) (SF (pairsOf l)) := by
  have loop : ∀ (e i : Nat), i + e = l.length → Ev (fun k => laws_toFieldS.l0 k l ((SF (pairsOf l)).take i ++ List.replicate e z36) (i : Int)) (SF (pairsOf l)) := by
    intro e
    induction e with
    | zero =>
      intro i hi
      refine Ev.step (fun k => by rw [laws_toFieldS.l0]) ?_
      rw [List.take_of_length_le (by rw [SF_length, pairs_length]; omega), List.replicate_zero, List.append_nil]
      exact ev_neg (by omega) (Ev.now _)
    | succ e ih =>
      intro i hi
      have hlt : i < l.length := by omega
      have w : wrap64 ((i : Int) + 1) = ((i + 1 : Nat) : Int) := by rw [w64 (by omega) (by omega)]; omega
      have hlt2 : i < (SF (pairsOf l)).length := by rw [SF_length, pairs_length]; omega
      have htk : ((SF (pairsOf l)).take i).length = i := by rw [List.length_take]; omega
      have hlen : ((SF (pairsOf l)).take i ++ List.replicate (e + 1) z36).length = l.length := by rw [List.length_append, htk, List.length_replicate]; omega
      have hset : ((SF (pairsOf l)).take i ++ List.replicate (e + 1) z36).set i (⟨l[i].f0, l[i].f1⟩ : S36) = (SF (pairsOf l)).take (i + 1) ++ List.replicate e z36 := by
        rw [List.set_append_right _ _ (by omega), htk, Nat.sub_self, List.replicate_succ, List.set_cons_zero, List.take_succ_eq_append_getElem hlt2]
        have := (pairs_at l i hlt).2
        rw [List.getElem?_eq_getElem hlt2] at this
        rw [Option.some.inj this]
        simp
      refine Ev.step (fun k => by rw [laws_toFieldS.l0]) ?_
      simp only [rd49 l i hlt, laws_toField.f, Option.bind_some, Int.toNat_natCast, hlen, hset, w]
      clear w
      exact ev_pos (by omega) (ev_pos (by omega) (ev_pos (by omega) (ih (i + 1) (by omega))))
  simp only [laws_toFieldS.f, Int.toNat_natCast]
  have := loop l.length 0 (by omega)
  rw [List.take_zero, List.nil_append] at this
  exact ev_pos (by omega) (ev_pos (by omega) this)

theorem eqs_self (l : List ByteArray) (hl : l.length ≤ 1048576) : Ev (fun k => laws_eqStringS.f k l l) true := by
  simp only [laws_eqStringS.f]
  refine ev_pos trivial ?_
  have : ∀ (e i : Nat), i + e = l.length → Ev (fun k => laws_eqStringS.l0 k l l (i : Int)) true := by
    intro e
    induction e with
    | zero =>
      intro i hi
      refine Ev.step (fun k => by rw [laws_eqStringS.l0]) ?_
      exact ev_neg (by omega) (Ev.now _)
    | succ e ih =>
      intro i hi
      have w : wrap64 ((i : Int) + 1) = ((i + 1 : Nat) : Int) := by rw [w64 (by omega) (by omega)]; omega
      refine Ev.step (fun k => by rw [laws_eqStringS.l0]) ?_
      refine ev_pos (by omega) (ev_pos (by omega) (ev_pos (by omega) (ev_pos rfl ?_)))
      rw [w]
      exact ih (i + 1) (by omega)
  exact this l.length 0 (by omega)

theorem marktext_loop : ∀ (d : Nat) (n : Int) (s : ByteArray), 0 ≤ n → n < 10 ^ d → n ≤ 4000000 → s.size + d ≤ 100 → ∃ t, Ev (fun k => laws_markText.l0 k n s) t := by
  intro d
  induction d with
  | zero =>
    intro n s h0 h1 hd hs
    have h1' : n < 1 := by simpa using h1
    have : n = 0 := by omega
    subst this
    refine ⟨(⟨#[109]⟩ : ByteArray) ++ s, ?_⟩
    refine Ev.step (fun k => by rw [laws_markText.l0]) ?_
    exact ev_neg (by omega) (ev_pos (by omega) (Ev.now _))
  | succ d ih =>
    intro n s h0 h1 hd hs
    by_cases hn : n > 0
    · have hp : (10 : Int) ^ (d + 1) = 10 ^ d * 10 := Int.pow_succ 10 d
      have hlt : n / 10 < 10 ^ d := by omega
      obtain ⟨t, ht⟩ := ih (n / 10) (strOfNums [wrap64 (48 + Int.tmod n 10) % 256] ++ s) (by omega) hlt (by omega) (by rw [ByteArray.size_append, strOfNums_size]; simp; omega)
      refine ⟨t, ?_⟩
      have w : wrap64 (Int.tdiv n 10) = n / 10 := by
        rw [Int.tdiv_eq_ediv_of_nonneg h0]
        exact w64 (by omega) (by omega)
      refine Ev.step (fun k => by rw [laws_markText.l0]) ?_
      refine ev_pos hn ?_
      refine ev_bind0 rfl ?_
      refine ev_pos (by rw [strOfNums_size]; simp; omega) ?_
      rw [w]
      exact ht
    · refine ⟨(⟨#[109]⟩ : ByteArray) ++ s, ?_⟩
      refine Ev.step (fun k => by rw [laws_markText.l0]) ?_
      exact ev_neg hn (ev_pos (by omega) (Ev.now _))

theorem marktext_ex (n : Int) (h0 : 1 ≤ n) (h1 : n ≤ 4000000) : ∃ t, Ev (fun k => laws_markText.f k n) t := by
  obtain ⟨t, ht⟩ := marktext_loop 18 n (⟨#[]⟩ : ByteArray) (by omega) (by omega) (by omega) (by show 0 + 18 ≤ 100; omega)
  refine ⟨t, ?_⟩
  simp only [laws_markText.f]
  exact ev_neg (by omega) ht

open Classical in
noncomputable def mtx (n : Int) : ByteArray := if h : ∃ t, Ev (fun k => laws_markText.f k n) t then h.choose else ByteArray.empty
theorem mtx_ev (n : Int) (h0 : 1 ≤ n) (h1 : n ≤ 4000000) : Ev (fun k => laws_markText.f k n) (mtx n) := by
  unfold mtx
  have h := marktext_ex n h0 h1
  rw [dif_pos h]
  exact h.choose_spec

noncomputable def marks (n : Nat) : List ByteArray := (List.range n).map fun i : Nat => mtx (1 + (i : Int))
theorem marks_length (n : Nat) : (marks n).length = n := by unfold marks; simp
theorem marks_succ (n : Nat) : marks (n + 1) = marks n ++ [mtx (1 + (n : Int))] := by unfold marks; rw [List.range_succ]; simp

theorem mark_ev (l : List ByteArray) (hl : l.length ≤ 1048576) : Ev (fun k => laws_markStringS.f k l 1) (1 + (l.length : Int), marks l.length) := by
  simp only [laws_markStringS.f]
  have : ∀ (e i : Nat), i + e = l.length → Ev (fun k => laws_markStringS.l0 k (marks i ++ l.drop i) (1 + (i : Int)) (i : Int)) (1 + (l.length : Int), marks l.length) := by
    intro e
    induction e with
    | zero =>
      intro i hi
      have hi' : i = l.length := by omega
      subst hi'
      refine Ev.step (fun k => by rw [laws_markStringS.l0]) ?_
      rw [List.drop_of_length_le (Nat.le_refl _), List.append_nil]
      refine ev_neg ?_ (Ev.now _)
      rw [marks_length]
      omega
    | succ e ih =>
      intro i hi
      obtain ⟨w, w2⟩ : wrap64 ((i : Int) + 1) = ((i + 1 : Nat) : Int) ∧ wrap64 (1 + (i : Int) + 1) = 1 + ((i + 1 : Nat) : Int) :=
        ⟨by rw [w64 (by omega) (by omega)]; omega, by rw [w64 (by omega) (by omega)]; omega⟩
      have hm := mtx_ev (1 + (i : Int)) (by omega) (by omega)
      have hlen : ((marks i ++ l.drop i).length : Int) = (l.length : Int) := by
        rw [List.length_append, marks_length, List.length_drop]
        omega
      have hset : (marks i ++ l.drop i).set i (mtx (1 + (i : Int))) = marks (i + 1) ++ l.drop (i + 1) := by
        rw [List.set_append_right _ _ (by rw [marks_length]; omega), marks_length, marks_succ, List.drop_eq_getElem_cons (by omega : i < l.length), Nat.sub_self, List.set_cons_zero, List.append_assoc]
        rfl
      refine Ev.step (fun k => by rw [laws_markStringS.l0]) ?_
      refine ev_pos (by rw [hlen]; omega) ?_
      refine Ev.bind hm ?_
      refine ev_pos (by omega) ?_
      rw [Int.toNat_natCast, hset, w, w2]
      exact ih (i + 1) (by omega)
  exact this l.length 0 (by omega)

theorem held_ev (n : Nat) (hn : n ≤ 1048576) : Ev (fun k => laws_heldStringS.f k (marks n) 1) (1 + (n : Int)) := by
  simp only [laws_heldStringS.f]
  have : ∀ (e i : Nat), i + e = n → Ev (fun k => laws_heldStringS.l0 k (marks n) (1 + (i : Int)) (i : Int)) (1 + (n : Int)) := by
    intro e
    induction e with
    | zero =>
      intro i hi
      have hi' : i = n := by omega
      subst hi'
      refine Ev.step (fun k => by rw [laws_heldStringS.l0]) ?_
      refine ev_neg ?_ (Ev.now _)
      rw [marks_length]
      omega
    | succ e ih =>
      intro i hi
      obtain ⟨w, w2⟩ : wrap64 ((i : Int) + 1) = ((i + 1 : Nat) : Int) ∧ wrap64 (1 + (i : Int) + 1) = 1 + ((i + 1 : Nat) : Int) :=
        ⟨by rw [w64 (by omega) (by omega)]; omega, by rw [w64 (by omega) (by omega)]; omega⟩
      have hm := mtx_ev (1 + (i : Int)) (by omega) (by omega)
      have hr : rdOf ByteArray.empty (marks n) (i : Int) = mtx (1 + (i : Int)) := by
        unfold rdOf marks
        rw [Int.toNat_natCast, List.getD_eq_getElem?_getD, List.getElem?_map, List.getElem?_range (by omega)]
        rfl
      refine Ev.step (fun k => by rw [laws_heldStringS.l0]) ?_
      refine ev_pos (by rw [marks_length]; omega) (ev_pos (by omega) ?_)
      refine Ev.bind hm ?_
      rw [hr, w, w2]
      refine ev_pos rfl ?_
      exact ih (i + 1) (by omega)
  exact this n 0 (by omega)

theorem eqf_self (l : List S36) (hl : l.length ≤ 1048576) : Ev (fun k => laws_eqFieldS.f k l l) true := by
  simp only [laws_eqFieldS.f]
  refine ev_pos trivial ?_
  have : ∀ (e i : Nat), i + e = l.length → Ev (fun k => laws_eqFieldS.l0 k l l (i : Int)) true := by
    intro e
    induction e with
    | zero =>
      intro i hi
      refine Ev.step (fun k => by rw [laws_eqFieldS.l0]) ?_
      exact ev_neg (by omega) (Ev.now _)
    | succ e ih =>
      intro i hi
      have w : wrap64 ((i : Int) + 1) = ((i + 1 : Nat) : Int) := by rw [w64 (by omega) (by omega)]; omega
      have he : ∀ a b : ByteArray, laws_eqField.f a b a b = some true := by
        intro a b
        unfold laws_eqField.f
        rw [if_pos rfl, if_pos rfl]
      refine Ev.step (fun k => by rw [laws_eqFieldS.l0]) ?_
      simp only [he, Option.bind_some, w]
      exact ev_pos (by omega) (ev_pos (by omega) (ev_pos (by omega) (ev_pos trivial (ih (i + 1) (by omega)))))
  exact this l.length 0 (by omega)
noncomputable def marksF (n : Nat) : List S36 := (List.range n).map fun i : Nat => ⟨mtx (1 + 2 * (i : Int)), mtx (2 + 2 * (i : Int))⟩
theorem marksF_length (n : Nat) : (marksF n).length = n := by unfold marksF; simp
theorem marksF_succ (n : Nat) : marksF (n + 1) = marksF n ++ [(⟨mtx (1 + 2 * (n : Int)), mtx (2 + 2 * (n : Int))⟩ : S36)] := by unfold marksF; rw [List.range_succ]; simp
theorem rdT_at (l : List S36) (i : Nat) (h : i < l.length) : rd_T36 l (i : Int) = l[i] := by
  unfold rd_T36
  rw [Int.toNat_natCast, List.getD_eq_getElem?_getD]
  simp [h]
theorem markf_ev (l : List S36) (hl : l.length ≤ 1048576) : Ev (fun k => laws_markFieldS.f k l 1) (1 + 2 * (l.length : Int), marksF l.length) := by
  simp only [laws_markFieldS.f]
  have : ∀ (e i : Nat), i + e = l.length → Ev (fun k => laws_markFieldS.l0 k (marksF i ++ l.drop i) (1 + 2 * (i : Int)) (i : Int)) (1 + 2 * (l.length : Int), marksF l.length) := by
    intro e
    induction e with
    | zero =>
      intro i hi
      have hi' : i = l.length := by omega
      subst hi'
      refine Ev.step (fun k => by rw [laws_markFieldS.l0]) ?_
      rw [List.drop_of_length_le (Nat.le_refl _), List.append_nil]
      refine ev_neg ?_ (Ev.now _)
      rw [marksF_length]
      omega
    | succ e ih =>
      intro i hi
      have hlt : i < l.length := by omega
      obtain ⟨w, w2, w3⟩ : wrap64 ((i : Int) + 1) = ((i + 1 : Nat) : Int) ∧ wrap64 (1 + 2 * (i : Int) + 1) = 2 + 2 * (i : Int) ∧ wrap64 (2 + 2 * (i : Int) + 1) = 1 + 2 * ((i + 1 : Nat) : Int) :=
        ⟨by rw [w64 (by omega) (by omega)]; omega, by rw [w64 (by omega) (by omega)]; omega, by rw [w64 (by omega) (by omega)]; omega⟩
      have hm := mtx_ev (1 + 2 * (i : Int)) (by omega) (by omega)
      have hm2 := mtx_ev (2 + 2 * (i : Int)) (by omega) (by omega)
      have hlen : ((marksF i ++ l.drop i).length : Int) = (l.length : Int) := by
        rw [List.length_append, marksF_length, List.length_drop]
        omega
      have hset : ∀ x : S36, (marksF i ++ l.drop i).set i x = marksF i ++ x :: l.drop (i + 1) := by
        intro x
        rw [List.set_append_right _ _ (by rw [marksF_length]; omega), marksF_length, List.drop_eq_getElem_cons hlt, Nat.sub_self, List.set_cons_zero]
      have hset2 : ∀ x y : S36, (marksF i ++ x :: l.drop (i + 1)).set i y = marksF i ++ y :: l.drop (i + 1) := by
        intro x y
        rw [List.set_append_right _ _ (by rw [marksF_length]; omega), marksF_length, Nat.sub_self, List.set_cons_zero]
      have hrd : ∀ x : S36, rd_T36 (marksF i ++ x :: l.drop (i + 1)) (i : Int) = x := by
        intro x
        rw [rdT_at _ i (by rw [List.length_append, marksF_length]; simp)]
        rw [List.getElem_append_right (by rw [marksF_length]; omega)]
        simp [marksF_length]
      have hfin : marksF i ++ (⟨mtx (1 + 2 * (i : Int)), mtx (2 + 2 * (i : Int))⟩ : S36) :: l.drop (i + 1) = marksF (i + 1) ++ l.drop (i + 1) := by
        rw [marksF_succ]
        simp
      refine Ev.step (fun k => by rw [laws_markFieldS.l0]) ?_
      refine ev_pos (by rw [hlen]; omega) (Ev.bind hm (ev_pos (by omega) ?_))
      simp only [Int.toNat_natCast, Option.bind_some, hset, w2]
      refine Ev.bind hm2 ?_
      simp only [hrd, hset2, w3, w, hfin]
      exact ih (i + 1) (by omega)
  exact this l.length 0 (by omega)

theorem FnExactFoldFields : laws_FnExactFoldFields.Pure := by
  intro l0 hn hz
  refine Ev.rounds ?_
  simp only [laws_FnExactFoldFields.f]
  obtain ⟨r, hr, hp⟩ := szf l0 hn hz
  refine Ev.bind hr ?_
  by_cases hneg : r < 0
  · exact ev_pos hneg (Ev.now _)
  obtain ⟨h1, h2⟩ := hp.resolve_left hneg
  have ht := tof_ev l0 h1
  have hsm : Small (pairsOf l0) := ⟨by rw [pairs_length]; omega, fun p hp => by
    unfold pairsOf at hp
    obtain ⟨s, hs, rfl⟩ := List.mem_map.1 hp
    obtain ⟨a, b⟩ := h2 s hs
    exact ⟨by show s.f0.data.toList.length ≤ _; rw [data_length]; omega, by show s.f1.data.toList.length ≤ _; rw [data_length]; omega⟩⟩
  have hF : (SF (pairsOf l0)).length ≤ 1048576 := by rw [SF_length, pairs_length]; exact h1
  generalize pairsOf l0 = F at ht hsm hF
  have hs := sffs_ev hsm
  have hi := iffs_ev hsm
  obtain ⟨R, hR, hRl⟩ : ∃ R : List ByteArray × Bool, (if Fine F then (SL (foldAll F), true) else ([], false)) = R ∧ R.1.length ≤ 100000 := by
    by_cases q : Fine F
    · refine ⟨_, if_pos q, ?_⟩
      have := foldAll_len F
      have := q.1
      show (SL (foldAll F)).length ≤ 100000
      rw [SL_length]
      omega
    · exact ⟨_, if_neg q, by simp⟩
  rw [hR] at hs hi
  refine ev_neg hneg (Ev.bind ht (Ev.bind hs (Ev.bind ht (Ev.bind hi (Ev.bind (eqs_self R.1 (by omega)) (ev_pos rfl ?_))))))
  rw [bne_self_eq_false]
  refine Ev.step (fun k => by rw [laws_FnExactFoldFields.j0]) ?_
  refine ev_neg (by decide) (Ev.bind ht (Ev.bind (eqf_self (SF F) hF) (ev_pos rfl (Ev.bind (markf_ev (SF F) hF) (ev_neg (by omega) (Ev.bind (eqs_self R.1 (by omega)) (ev_pos rfl ?_)))))))
  rw [bne_self_eq_false]
  refine Ev.step (fun k => by rw [laws_FnExactFoldFields.j1]) ?_
  refine ev_neg (by decide) (Ev.bind (mark_ev R.1 (by omega)) (Ev.bind (held_ev R.1.length (by omega)) (ev_neg (by omega) (ev_pos rfl (Ev.bind ht (Ev.bind hi (Ev.bind (eqs_self R.1 (by omega)) (ev_pos rfl ?_))))))))
  rw [bne_self_eq_false]
  refine Ev.step (fun k => by rw [laws_FnExactFoldFields.j2]) ?_
  exact ev_neg (by decide) (Ev.bind (held_ev R.1.length (by omega)) (ev_neg (by omega) (ev_pos rfl (Ev.now _))))

end Go.Proofs.YthmdblcgiljhpaaDoor.PLFnExactFoldFields
namespace Go.Proofs.YthmdblcgiljhpaaDoor.Pure
open Go.Proofs.YthmdblcgiljhpaaDoor.PFnExactFoldFields
theorem FnExactFoldFields : laws_FnExactFoldFields.Pure := PLFnExactFoldFields.FnExactFoldFields
end Go.Proofs.YthmdblcgiljhpaaDoor.Pure
