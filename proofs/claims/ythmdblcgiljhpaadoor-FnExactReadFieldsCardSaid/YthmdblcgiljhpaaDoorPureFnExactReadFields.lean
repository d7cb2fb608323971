/- The law FnExactReadFields holds of the printed functions: both programs read the same fields out of all lines. No conditions. -/
import Derived.Test.YthmdblcgiljhpaaDoorPFnExactReadFieldsx8
import Derived.Test.YthmdblcgiljhpaaDoorMBase
import Derived.Test.YthmdblcgiljhpaaDoorMStr
import Derived.Test.YthmdblcgiljhpaaDoorMQuot
import Derived.Test.YthmdblcgiljhpaaDoorMCode
import Derived.Test.YthmdblcgiljhpaaDoorMDecQ
import Derived.Test.YthmdblcgiljhpaaDoorMRead
import Derived.Test.YthmdblcgiljhpaaDoorMParts
import Derived.Test.YthmdblcgiljhpaaDoorMName
import Derived.Test.YthmdblcgiljhpaaDoorMEnc
import Derived.Test.YthmdblcgiljhpaaDoorMFold
namespace Go.Proofs.YthmdblcgiljhpaaDoor.PLFnExactReadFields
open Go.RowKit Go.Proofs.YthmdblcgiljhpaaDoor.PFnExactReadFields Go.Proofs.YthmdblcgiljhpaaDoorW.PrintWords Go.Proofs.YthmdblcgiljhpaaDoorW.PrintLast Go.Proofs.YthmdblcgiljhpaaDoorW.PrintMore Go.Proofs.YthmdblcgiljhpaaDoor.M

theorem impl_text (s : List UInt8) (hl : s.length ≤ 1000000000000) : Ev (fun k => impl_TextValid.f k (S s)) (decide (textOK s)) := by
  simp only [impl_TextValid.f, size_S]
  have loop : ∀ (e i : Nat), i + e = s.length → (∀ j (h : j < s.length), j < i → 32 ≤ s[j].toNat ∧ s[j].toNat ≤ 126) → Ev (fun k => impl_TextValid.l0 k (S s) (s.length : Int) (i : Int)) (decide (textOK s)) := by
    intro e
    induction e with
    | zero =>
      intro i hi hp
      have e1 : decide ((s.length : Int) ≤ 200) = decide (textOK s) := by
        rw [decide_eq_decide]
        constructor
        · intro q
          refine ⟨by omega, fun c hc => ?_⟩
          obtain ⟨j, hj, rfl⟩ := List.mem_iff_getElem.1 hc
          exact hp j hj (by omega)
        · intro q
          have := q.1
          omega
      refine Ev.step (fun k => by rw [impl_TextValid.l0]) ?_
      rw [size_S, e1]
      exact ev_neg (by omega) (Ev.now _)
    | succ e ih =>
      intro i hi hp
      have hlt : i < s.length := by omega
      have hg : s.getD i 0 = s[i] := by rw [List.getD_eq_getElem?_getD, List.getElem?_eq_getElem hlt]; rfl
      have w : wrap64 ((i : Int) + 1) = ((i + 1 : Nat) : Int) := by rw [w64 (by omega) (by omega)]; omega
      refine Ev.step (fun k => by rw [impl_TextValid.l0]) ?_
      simp only [size_S, bt_S, Int.toNat_natCast, hg, w]
      refine ev_pos (by omega) (ev_pos (by omega) (ev_pos (by omega) ?_))
      by_cases hc : 32 ≤ s[i].toNat ∧ s[i].toNat ≤ 126
      · refine ev_neg (by omega) (ev_neg (by omega) (ih (i + 1) (by omega) ?_))
        intro j hj hji
        by_cases q : j = i
        · subst q
          exact hc
        · exact hp j hj (by omega)
      · have e1 : decide (textOK s) = false := decide_eq_false (fun q => hc (q.2 s[i] (List.getElem_mem hlt)))
        rw [e1]
        by_cases h3 : (s[i].toNat : Int) < 32
        · exact ev_pos h3 (Ev.now _)
        · exact ev_neg h3 (ev_pos (by omega) (Ev.now _))
  exact loop s.length 0 (by omega) (fun j _ h => by omega)

theorem spec_text (s : List UInt8) (hl : s.length ≤ 1000000000000) : Ev (fun k => spec_TextValid.f k (S s)) (decide (textOK s)) := by
  simp only [spec_TextValid.f]
  have loop : ∀ (e i : Nat), i + e = s.length → i ≤ 201 → (∀ j (h : j < s.length), j < i → 32 ≤ s[j].toNat ∧ s[j].toNat ≤ 126) → Ev (fun k => spec_TextValid.l0 k (S s) (i : Int)) (decide (textOK s)) := by
    intro e
    induction e with
    | zero =>
      intro i hi h2 hp
      have e1 : decide ((s.length : Int) ≤ 200) = decide (textOK s) := by
        rw [decide_eq_decide]
        constructor
        · intro q
          refine ⟨by omega, fun c hc => ?_⟩
          obtain ⟨j, hj, rfl⟩ := List.mem_iff_getElem.1 hc
          exact hp j hj (by omega)
        · intro q
          have := q.1
          omega
      refine Ev.step (fun k => by rw [spec_TextValid.l0]) ?_
      rw [size_S]
      refine ev_neg (by omega) ?_
      refine Ev.step (fun k => by rw [spec_TextValid.j1]) ?_
      rw [size_S, e1]
      exact ev_neg (by decide) (Ev.now _)
    | succ e ih =>
      intro i hi h2 hp
      have hlt : i < s.length := by omega
      have hg : s.getD i 0 = s[i] := by rw [List.getD_eq_getElem?_getD, List.getElem?_eq_getElem hlt]; rfl
      have w : wrap64 ((i : Int) + 1) = ((i + 1 : Nat) : Int) := by rw [w64 (by omega) (by omega)]; omega
      refine Ev.step (fun k => by rw [spec_TextValid.l0]) ?_
      rw [size_S]
      refine ev_pos (by omega) ?_
      by_cases h200 : i ≤ 200
      · rw [decide_eq_true (show (i : Int) ≤ 200 by omega)]
        refine Ev.step (fun k => by rw [spec_TextValid.j1]) ?_
        simp only [size_S, bt_S, Int.toNat_natCast, hg, w]
        refine ev_pos trivial (ev_pos (by omega) (ev_pos (by omega) ?_))
        by_cases hc : 32 ≤ s[i].toNat ∧ s[i].toNat ≤ 126
        · refine ev_neg (by omega) (ev_neg (by omega) (ih (i + 1) (by omega) (by omega) ?_))
          intro j hj hji
          by_cases q : j = i
          · subst q
            exact hc
          · exact hp j hj (by omega)
        · have e1 : decide (textOK s) = false := decide_eq_false (fun q => hc (q.2 s[i] (List.getElem_mem hlt)))
          rw [e1]
          by_cases h3 : (s[i].toNat : Int) < 32
          · exact ev_pos h3 (Ev.now _)
          · exact ev_neg h3 (ev_pos (by omega) (Ev.now _))
      · rw [decide_eq_false (show ¬ (i : Int) ≤ 200 by omega)]
        have e1 : decide (textOK s) = false := decide_eq_false (fun q => by have := q.1; omega)
        refine Ev.step (fun k => by rw [spec_TextValid.j1]) ?_
        rw [size_S, e1]
        refine ev_neg (by decide) (ev_is ?_)
        rw [decide_eq_false (by omega)]
  exact loop s.length 0 (by omega) (by omega) (fun j _ h => by omega)

theorem spec_trimR (n : Nat) : ∀ s : List UInt8, s.length ≤ n → s.length ≤ 1000000000000 → Ev (fun k => spec_l2Trim.l1 k (S s)) (S (trimR s)) := by
  induction n with
  | zero =>
    intro s h _
    have : s = [] := List.eq_nil_of_length_eq_zero (by omega)
    subst this
    refine Ev.step (fun k => by rw [spec_l2Trim.l1]) ?_
    exact ev_neg (by decide) (Ev.now _)
  | succ n ih =>
    intro s h hl
    rcases List.eq_nil_or_concat s with rfl | ⟨t, c, rfl⟩
    · refine Ev.step (fun k => by rw [spec_l2Trim.l1]) ?_
      exact ev_neg (by decide) (Ev.now _)
    · rw [List.concat_eq_append] at h hl ⊢
      rw [List.length_append] at h hl
      simp only [List.length_cons, List.length_nil] at h hl
      have w : wrap64 (((t.length + 1 : Nat) : Int) - 1) = (t.length : Int) := by rw [w64 (by omega) (by omega)]; omega
      have hg : (t ++ [c]).getD t.length 0 = c := by simp
      have hx : ((t ++ [c]).drop 0).take (t.length - 0) = t := by simp
      refine Ev.step (fun k => by rw [spec_l2Trim.l1]) ?_
      simp only [size_S, List.length_append, List.length_cons, List.length_nil, Nat.zero_add, w, bt_S, Int.toNat_natCast, hg, extract_S, hx]
      rw [trimR_snoc]
      refine ev_pos (by omega) (ev_pos (by omega) (ev_pos (by omega) ?_))
      by_cases hc : (c.toNat : Int) = 32
      · rw [if_pos (show c = 32 from (u8_is (n := 32) (by omega)).1 hc)]
        exact ev_pos hc (ev_pos (by omega) (ih t (by omega) (by omega)))
      · rw [if_neg (fun q => hc (by rw [q]; rfl))]
        exact ev_neg hc (Ev.now _)
theorem spec_trim (s : List UInt8) (hl : s.length ≤ 1000000000000) : Ev (fun k => spec_l2Trim.f k (S s)) (S (trim s)) := by
  simp only [spec_l2Trim.f]
  have j : ∀ t : List UInt8, t.length ≤ 1000000000000 → Ev (fun k => spec_l2Trim.j1 k (S t)) (S (trimR t)) := by
    intro t ht
    refine Ev.step (fun k => by rw [spec_l2Trim.j1]) ?_
    exact spec_trimR t.length t (Nat.le_refl _) ht
  have loop : ∀ (n : Nat) (s : List UInt8), s.length ≤ n → s.length ≤ 1000000000000 → Ev (fun k => spec_l2Trim.l0 k (S s)) (S (trim s)) := by
    intro n
    induction n with
    | zero =>
      intro s h h2
      have : s = [] := List.eq_nil_of_length_eq_zero (by omega)
      subst this
      refine Ev.step (fun k => by rw [spec_l2Trim.l0]) ?_
      exact ev_neg (by decide) (j [] h2)
    | succ n ih =>
      intro s h h2
      cases s with
      | nil =>
        refine Ev.step (fun k => by rw [spec_l2Trim.l0]) ?_
        exact ev_neg (by decide) (j [] h2)
      | cons c r =>
        simp only [List.length_cons] at h h2
        have hg : bt (S (c :: r)) 0 = (c.toNat : Int) := by rw [bt_S]; rfl
        have hx : ((c :: r).drop 1).take (r.length + 1 - 1) = r := by simp
        refine Ev.step (fun k => by rw [spec_l2Trim.l0]) ?_
        simp only [size_S, List.length_cons, hg, extract_S, hx]
        refine ev_pos (by omega) (ev_pos (by omega) ?_)
        have hd : trim (c :: r) = if c = 32 then trim r else trimR (c :: r) := by
          unfold trim trimL
          rw [List.dropWhile_cons]
          by_cases q : c = 32
          · rw [if_pos q, if_pos (by simp [q])]
          · rw [if_neg q, if_neg (by simp [q])]
        rw [hd]
        by_cases hc : (c.toNat : Int) = 32
        · rw [if_pos (show c = 32 from (u8_is (n := 32) (by omega)).1 hc)]
          exact ev_pos hc (ev_pos (by omega) (ih r (by omega) (by omega)))
        · rw [if_neg (fun q => hc (by rw [q]; rfl))]
          exact ev_neg hc (j (c :: r) (by simp; omega))
  exact loop s.length s (Nat.le_refl _) hl

theorem trimL_full {s : List UInt8} (h : s.length ≤ (trimL s).length) : trimL s = s := (List.dropWhile_suffix _).eq_of_length (Nat.le_antisymm (trimL_len s) h)
theorem trimR_full {s : List UInt8} (h : s.length ≤ (trimR s).length) : trimR s = s := by
  have h1 : (s.reverse.dropWhile (· == 32)) = s.reverse := by
    refine (List.dropWhile_suffix _).eq_of_length (Nat.le_antisymm (dropWhile_len _ _) ?_)
    unfold trimR at h
    simpa using h
  unfold trimR
  rw [h1, List.reverse_reverse]
theorem trimB_trim (s : List UInt8) : Lib.trimB s 32 = s ↔ trim s = s := by
  have e : Lib.trimB s 32 = trimL (trimR s) := rfl
  have l1 := trimL_len (trimR s)
  have l2 := trimR_len s
  have l3 := trimR_len (trimL s)
  have l4 := trimL_len s
  rw [e]
  unfold trim
  constructor
  · intro h
    have hl := congrArg List.length h
    have r1 : trimR s = s := trimR_full (by omega)
    rw [r1] at h
    rw [h, r1]
  · intro h
    have hl := congrArg List.length h
    have r1 : trimL s = s := trimL_full (by omega)
    rw [r1] at h
    rw [h, r1]
theorem dw_nil (s : List UInt8) : s.dropWhile (· == 32) = [] ↔ ∀ x ∈ s, (x == 32) = true := by
  induction s with
  | nil => exact ⟨fun _ x hx => (by cases hx), fun _ => rfl⟩
  | cons c r ih =>
    rw [List.dropWhile_cons]
    by_cases hc : (c == 32) = true
    · rw [if_pos hc, ih]
      exact ⟨fun h x hx => by
        rcases List.mem_cons.1 hx with rfl | hx
        · exact hc
        · exact h x hx, fun h x hx => h x (by simp [hx])⟩
    · rw [if_neg hc]
      exact ⟨fun h => (by cases h), fun h => absurd (h c (by simp)) hc⟩
theorem trim_trimB (s : List UInt8) : trim s = Lib.trimB s 32 := by
  have e : Lib.trimB s 32 = trimL (trimR s) := rfl
  rw [e]
  unfold trim
  have split : ∀ s : List UInt8, trimR (trimL s) = trimL (trimR s) := by
    intro s
    induction s with
    | nil => rfl
    | cons c r ih =>
      by_cases hc : (c == 32) = true
      · have h1 : trimL (c :: r) = trimL r := by unfold trimL; rw [List.dropWhile_cons, if_pos hc]
        rw [h1, ih]
        by_cases hr : ∀ x ∈ r, (x == 32) = true
        · have a1 : trimR r = [] := by
            unfold trimR
            rw [List.reverse_eq_nil_iff, dw_nil]
            intro x hx
            exact hr x (List.mem_reverse.1 hx)
          have a2 : trimR (c :: r) = [] := by
            unfold trimR
            rw [List.reverse_eq_nil_iff, dw_nil]
            intro x hx
            rcases List.mem_cons.1 (List.mem_reverse.1 hx) with rfl | hx
            · exact hc
            · exact hr x hx
          rw [a1, a2]
        · have a3 : trimR (c :: r) = c :: trimR r := by
            unfold trimR
            have hne : r.reverse.dropWhile (· == 32) ≠ [] := by
              intro q
              rw [dw_nil] at q
              exact hr (fun x hx => q x (List.mem_reverse.2 hx))
            rw [List.reverse_cons, List.dropWhile_append, if_neg (by simpa using hne)]
            simp
          rw [a3]
          show trimL (trimR r) = trimL (c :: trimR r)
          unfold trimL
          rw [List.dropWhile_cons, if_pos hc]
      · have h1 : trimL (c :: r) = c :: r := by unfold trimL; rw [List.dropWhile_cons, if_neg hc]
        rw [h1]
        obtain ⟨t, ht⟩ : ∃ t, trimR (c :: r) = c :: t := by
          unfold trimR
          rw [List.reverse_cons]
          by_cases hne : r.reverse.dropWhile (· == 32) = []
          · refine ⟨[], ?_⟩
            rw [List.dropWhile_append, if_pos (by rw [hne]; rfl), List.dropWhile_cons, if_neg hc]
            rfl
          · refine ⟨(r.reverse.dropWhile (· == 32)).reverse, ?_⟩
            rw [List.dropWhile_append, if_neg (by simpa using hne)]
            simp
        rw [ht]
        unfold trimL
        rw [List.dropWhile_cons, if_neg hc]
  exact split s

/-- A field's value; a field. -/
def valOK (v : List UInt8) : Prop := textOK v ∧ v.length ≤ 150 ∧ Lib.trimB v 32 = v
instance (v : List UInt8) : Decidable (valOK v) := by unfold valOK; exact inferInstance
def fieldOK (n v : List UInt8) : Prop := nameOK n ∧ valOK v
instance (n v : List UInt8) : Decidable (fieldOK n v) := by unfold fieldOK; exact inferInstance
theorem letB_iff (c : UInt8) : letB c ↔ (97 ≤ c.toNat ∧ c.toNat ≤ 122) ∨ (65 ≤ c.toNat ∧ c.toNat ≤ 90) := Iff.rfl
theorem namB_iff (c : UInt8) : namB c ↔ letB c ∨ (48 ≤ c.toNat ∧ c.toNat ≤ 57) ∨ c.toNat = 45 := Iff.rfl
theorem isLetter_is (c : UInt8) : impl_isLetter.f (c.toNat : Int) = some (decide (letB c)) := by
  unfold impl_isLetter.f
  by_cases h1 : (c.toNat : Int) ≥ 97
  · rw [if_pos h1]
    by_cases h2 : (c.toNat : Int) ≤ 122
    · rw [if_pos h2, decide_eq_true (show letB c by rw [letB_iff]; omega)]
    · rw [if_neg h2, if_pos (by omega)]
      refine congrArg some (decide_eq_decide.2 ?_)
      rw [letB_iff]
      omega
  · rw [if_neg h1]
    by_cases h2 : (c.toNat : Int) ≥ 65
    · rw [if_pos h2]
      refine congrArg some (decide_eq_decide.2 ?_)
      rw [letB_iff]
      omega
    · rw [if_neg h2, decide_eq_false (show ¬ letB c by rw [letB_iff]; omega)]
theorem isDigit_is (c : UInt8) : impl_isDigit.f (c.toNat : Int) = some (decide (48 ≤ c.toNat ∧ c.toNat ≤ 57)) := by
  unfold impl_isDigit.f
  by_cases h1 : (c.toNat : Int) ≥ 48
  · rw [if_pos h1]
    refine congrArg some ?_
    rw [decide_eq_decide]
    omega
  · rw [if_neg h1, decide_eq_false (by omega)]
theorem isName1_is (c : UInt8) : impl_isName_1.f (c.toNat : Int) = some (decide (namB c)) := by
  unfold impl_isName_1.f
  rw [isLetter_is, isDigit_is, Option.bind_some, Option.bind_some]
  by_cases h1 : letB c
  · rw [if_pos (decide_eq_true h1), decide_eq_true (show namB c from Or.inl h1)]
  · rw [if_neg (by simpa using h1)]
    by_cases h2 : 48 ≤ c.toNat ∧ c.toNat ≤ 57
    · rw [if_pos (decide_eq_true h2), decide_eq_true (show namB c from Or.inr (Or.inl h2))]
    · rw [if_neg (by simpa using h2)]
      refine congrArg some ?_
      rw [Bool.eq_iff_iff, beq_iff_eq, decide_eq_true_eq]
      constructor
      · intro q
        exact Or.inr (Or.inr (by omega))
      · rintro (q | q | q)
        · exact absurd q h1
        · exact absurd q h2
        · omega
theorem allB_ev (s : List UInt8) (hl : s.length ≤ 1000000000) : Ev (fun k => impl_allBytes.f k (S s)) (decide (∀ c ∈ s, namB c)) := by
  simp only [impl_allBytes.f, size_S]
  have loop : ∀ (e i : Nat), i + e = s.length → (∀ j (h : j < s.length), j < i → namB s[j]) → Ev (fun k => impl_allBytes.l0 k (S s) (s.length : Int) (i : Int)) (decide (∀ c ∈ s, namB c)) := by
    intro e
    induction e with
    | zero =>
      intro i hi hp
      have e1 : decide (∀ c ∈ s, namB c) = true := decide_eq_true (fun c hc => by
        obtain ⟨j, hj, rfl⟩ := List.mem_iff_getElem.1 hc
        exact hp j hj (by omega))
      refine Ev.step (fun k => by rw [impl_allBytes.l0]) ?_
      rw [e1]
      exact ev_neg (by omega) (Ev.now _)
    | succ e ih =>
      intro i hi hp
      have hlt : i < s.length := by omega
      have hg : s.getD i 0 = s[i] := by rw [List.getD_eq_getElem?_getD, List.getElem?_eq_getElem hlt]; rfl
      have w : wrap64 ((i : Int) + 1) = ((i + 1 : Nat) : Int) := by rw [w64 (by omega) (by omega)]; omega
      refine Ev.step (fun k => by rw [impl_allBytes.l0]) ?_
      simp only [size_S, bt_S, Int.toNat_natCast, hg, w, isName1_is, Option.bind_some]
      clear w
      refine ev_pos (by omega) (ev_pos (by omega) (ev_pos (by omega) ?_))
      by_cases hc : namB s[i]
      · refine ev_pos (decide_eq_true hc) (ih (i + 1) (by omega) ?_)
        intro j hj hji
        by_cases q : j = i
        · subst q
          exact hc
        · exact hp j hj (by omega)
      · rw [decide_eq_false (fun q : ∀ c ∈ s, namB c => hc (q _ (List.getElem_mem hlt)))]
        exact ev_neg (by simpa using hc) (Ev.now _)
  exact loop s.length 0 (by omega) (fun j _ h => by omega)
theorem iname_ev (n : List UInt8) (hl : n.length ≤ 1000000000) : Ev (fun k => impl_isName.f k (S n)) (decide (nameOK n)) := by
  have b0 : bt (S n) 0 = ((n.getD 0 0).toNat : Int) := by rw [bt_S]; rfl
  simp only [impl_isName.f, size_S, b0, isLetter_is, Option.bind_some]
  by_cases h1 : (n.length : Int) ≥ 1
  · refine ev_pos h1 ?_
    by_cases h2 : (n.length : Int) ≤ 30
    · refine ev_pos h2 (ev_pos (by omega) ?_)
      by_cases h3 : letB (n.getD 0 0)
      · refine ev_pos (decide_eq_true h3) (Ev.bind (allB_ev n hl) (ev_is ?_))
        exact congrArg some (decide_eq_decide.2 ⟨fun q => ⟨by omega, by omega, h3, q⟩, fun q => q.2.2.2⟩)
      · rw [decide_eq_false (fun q : nameOK n => h3 q.2.2.1)]
        exact ev_neg (by simpa using h3) (Ev.now _)
    · rw [decide_eq_false (fun q : nameOK n => by have := q.2.1; omega)]
      exact ev_neg h2 (Ev.now _)
  · rw [decide_eq_false (fun q : nameOK n => by have := q.1; omega)]
    exact ev_neg h1 (Ev.now _)
theorem itrim_is (v : List UInt8) (hl : v.length ≤ 1000000000) : strings_Trim.f (S v) (⟨#[32]⟩ : ByteArray) = some (S (Lib.trimB v 32)) := by
  unfold strings_Trim.f
  rw [if_pos ⟨by rw [size_S]; omega, rfl, by decide⟩]
  rfl
theorem ivalid_ev (n v : List UInt8) (hn : n.length ≤ 1000000000) (hl : v.length ≤ 1000000000) : Ev (fun k => impl_FieldValid.f k (S n) (S v)) (decide (fieldOK n v)) := by
  simp only [impl_FieldValid.f, size_S, itrim_is v hl, toList_S]
  refine Ev.bind (iname_ev n hn) ?_
  by_cases h1 : nameOK n
  · refine ev_pos (decide_eq_true h1) (Ev.bind (impl_text v (by omega)) ?_)
    by_cases h2 : textOK v
    · refine ev_pos (decide_eq_true h2) ?_
      by_cases h3 : (v.length : Int) ≤ 150
      · refine ev_pos h3 (ev_is ?_)
        rw [Option.bind_some]
        refine congrArg some ?_
        rw [Bool.eq_iff_iff, beq_iff_eq, decide_eq_true_eq, toList_S]
        exact ⟨fun q => ⟨h1, h2, by omega, q⟩, fun q => q.2.2.2⟩
      · rw [decide_eq_false (fun q : fieldOK n v => by have := q.2.2.1; omega)]
        exact ev_neg h3 (Ev.now _)
    · rw [decide_eq_false (fun q : fieldOK n v => h2 q.2.1)]
      exact ev_neg (by simpa using h2) (Ev.now _)
  · rw [decide_eq_false (fun q : fieldOK n v => h1 q.1)]
    exact ev_neg (by simpa using h1) (Ev.now _)

def alnB (c : UInt8) : Prop := letB c ∨ (48 ≤ c.toNat ∧ c.toNat ≤ 57)
instance (c : UInt8) : Decidable (alnB c) := by unfold alnB; exact inferInstance
theorem alnB_iff (c : UInt8) : alnB c ↔ ((97 ≤ c.toNat ∧ c.toNat ≤ 122) ∨ (65 ≤ c.toNat ∧ c.toNat ≤ 90)) ∨ (48 ≤ c.toNat ∧ c.toNat ≤ 57) := Iff.rfl
theorem sletter_is (c : UInt8) : spec_l1Letter.f (c.toNat : Int) = some (decide (alnB c)) := by
  unfold spec_l1Letter.f
  by_cases h1 : (c.toNat : Int) ≥ 97
  · rw [if_pos h1]
    by_cases h2 : (c.toNat : Int) ≤ 122
    · rw [if_pos h2, decide_eq_true (show alnB c by rw [alnB_iff]; omega)]
    · rw [if_neg h2, if_pos (by omega), if_neg (by omega), if_pos (by omega)]
      refine congrArg some (decide_eq_decide.2 ?_)
      rw [alnB_iff]
      omega
  · rw [if_neg h1]
    by_cases h2 : (c.toNat : Int) ≥ 65
    · rw [if_pos h2]
      by_cases h3 : (c.toNat : Int) ≤ 90
      · rw [if_pos h3, decide_eq_true (show alnB c by rw [alnB_iff]; omega)]
      · rw [if_neg h3, if_pos (by omega)]
        refine congrArg some (decide_eq_decide.2 ?_)
        rw [alnB_iff]
        omega
    · rw [if_neg h2]
      by_cases h3 : (c.toNat : Int) ≥ 48
      · rw [if_pos h3]
        refine congrArg some (decide_eq_decide.2 ?_)
        rw [alnB_iff]
        omega
      · rw [if_neg h3, decide_eq_false (show ¬ alnB c by rw [alnB_iff]; omega)]
theorem sname_ev (n : List UInt8) (hl : n.length ≤ 1000000000) : Ev (fun k => spec_l3Name.f k (S n)) (decide (nameOK n)) := by
  simp only [spec_l3Name.f]
  have fin : (n.length ≤ 30 → ∀ c ∈ n, namB c) → (1 ≤ n.length → letB (n.getD 0 0)) → ∀ i : Nat, Ev (fun k => spec_l3Name.j1 k (S n) (i : Int) false) (decide (nameOK n)) := by
    intro hp h0 i
    refine Ev.step (fun k => by rw [spec_l3Name.j1]) ?_
    rw [size_S]
    refine ev_neg (by decide) ?_
    by_cases h1 : (n.length : Int) ≥ 1
    · refine ev_pos h1 (ev_is ?_)
      exact congrArg some (decide_eq_decide.2 ⟨fun q => ⟨by omega, by omega, h0 (by omega), hp (by omega)⟩, fun q => by have := q.2.1; omega⟩)
    · rw [decide_eq_false (fun q : nameOK n => by have := q.1; omega)]
      exact ev_neg h1 (Ev.now _)
  have no : ∀ i (h : i < n.length), ¬ namB n[i] ∨ (i = 0 ∧ ¬ letB n[i]) → decide (nameOK n) = false := by
    intro i h q
    refine decide_eq_false ?_
    rintro ⟨_, _, q3, q4⟩
    rcases q with q | ⟨rfl, q⟩
    · exact q (q4 _ (List.getElem_mem h))
    · apply q
      rwa [List.getD_eq_getElem?_getD, List.getElem?_eq_getElem h] at q3
  have loop : ∀ (e i : Nat), i + e = n.length → (∀ j (h : j < n.length), j < i → namB n[j]) → (1 ≤ i → letB (n.getD 0 0)) → i ≤ 31 → Ev (fun k => spec_l3Name.l0 k (S n) (i : Int)) (decide (nameOK n)) := by
    intro e
    induction e with
    | zero =>
      intro i hi hp h0 _
      refine Ev.step (fun k => by rw [spec_l3Name.l0]) ?_
      rw [size_S]
      refine ev_neg (by omega) (fin (fun _ c hc => ?_) (fun h => h0 (by omega)) i)
      obtain ⟨j, hj, rfl⟩ := List.mem_iff_getElem.1 hc
      exact hp j hj (by omega)
    | succ e ih =>
      intro i hi hp h0 h31
      have hlt : i < n.length := by omega
      have hg : n.getD i 0 = n[i] := by rw [List.getD_eq_getElem?_getD, List.getElem?_eq_getElem hlt]; rfl
      have w : wrap64 ((i : Int) + 1) = ((i + 1 : Nat) : Int) := by rw [w64 (by omega) (by omega)]; omega
      refine Ev.step (fun k => by rw [spec_l3Name.l0]) ?_
      rw [size_S]
      refine ev_pos (by omega) ?_
      by_cases h30 : i ≤ 30
      · rw [decide_eq_true (show (i : Int) ≤ 30 by omega)]
        refine Ev.step (fun k => by rw [spec_l3Name.j1]) ?_
        simp only [size_S, bt_S, Int.toNat_natCast, hg, w, sletter_is, Option.bind_some]
        clear w
        refine ev_pos trivial (ev_pos (by omega) (ev_pos (by omega) ?_))
        have next : namB n[i] → (i = 0 → letB n[i]) → Ev (fun k => spec_l3Name.l0 k (S n) ((i + 1 : Nat) : Int)) (decide (nameOK n)) := by
          intro q1 q2
          refine ih (i + 1) (by omega) ?_ ?_ (by omega)
          · intro j hj hji
            by_cases q : j = i
            · subst q
              exact q1
            · exact hp j hj (by omega)
          · intro _
            by_cases q : i = 0
            · have := q2 q
              subst q
              rwa [hg]
            · exact h0 (by omega)
        by_cases hc : alnB n[i]
        · have hnb : namB n[i] := by
            rcases hc with hc | hc
            · exact Or.inl hc
            · exact Or.inr (Or.inl hc)
          refine ev_pos (decide_eq_true hc) ?_
          by_cases hz : (i : Int) = 0
          · refine ev_pos hz ?_
            by_cases h57 : (n[i].toNat : Int) ≤ 57
            · rw [no i hlt (Or.inr ⟨by omega, fun q => by rw [letB_iff] at q; omega⟩)]
              exact ev_pos h57 (Ev.now _)
            · refine ev_neg h57 (next hnb (fun _ => ?_))
              rcases hc with hc | hc
              · exact hc
              · omega
          · exact ev_neg hz (next hnb (fun q => by omega))
        · refine ev_neg (by simpa using hc) ?_
          by_cases h45 : (n[i].toNat : Int) = 45
          · refine ev_pos h45 ?_
            by_cases hz : (i : Int) = 0
            · rw [no i hlt (Or.inr ⟨by omega, fun q => hc (Or.inl q)⟩)]
              exact ev_pos hz (ev_pos (by omega) (Ev.now _))
            · exact ev_neg hz (next (Or.inr (Or.inr (by omega))) (fun q => by omega))
          · rw [no i hlt (Or.inl (fun q => by
              rcases q with q | q | q
              · exact hc (Or.inl q)
              · exact hc (Or.inr q)
              · omega))]
            exact ev_neg h45 (Ev.now _)
      · rw [decide_eq_false (show ¬ (i : Int) ≤ 30 by omega)]
        exact fin (fun h => by omega) (fun _ => h0 (by omega)) i
  exact loop n.length 0 (by omega) (fun j _ h => by omega) (fun h => by omega) (by omega)
theorem svalid2_ev (n v : List UInt8) (hn : n.length ≤ 1000000000) (hl : v.length ≤ 1000000000) : Ev (fun k => spec_FieldValid.f k (S n) (S v)) (decide (fieldOK n v)) := by
  simp only [spec_FieldValid.f, size_S, toList_S]
  refine Ev.bind (sname_ev n hn) ?_
  by_cases h1 : nameOK n
  · refine ev_pos (decide_eq_true h1) (Ev.bind (spec_text v (by omega)) ?_)
    by_cases h2 : textOK v
    · refine ev_pos (decide_eq_true h2) ?_
      by_cases h3 : (v.length : Int) ≤ 150
      · refine ev_pos h3 (Ev.bind (spec_trim v (by omega)) (ev_is ?_))
        refine congrArg some ?_
        rw [Bool.eq_iff_iff, beq_iff_eq, decide_eq_true_eq, toList_S]
        exact ⟨fun q => ⟨h1, h2, by omega, (trimB_trim v).2 q⟩, fun q => (trimB_trim v).1 q.2.2.2⟩
      · rw [decide_eq_false (fun q : fieldOK n v => by have := q.2.2.1; omega)]
        exact ev_neg h3 (Ev.now _)
    · rw [decide_eq_false (fun q : fieldOK n v => h2 q.2.1)]
      exact ev_neg (by simpa using h2) (Ev.now _)
  · rw [decide_eq_false (fun q : fieldOK n v => h1 q.1)]
    exact ev_neg (by simpa using h1) (Ev.now _)

theorem u32 (c : UInt8) : (c.toNat : Int) = 32 ↔ c = 32 := by
  constructor
  · intro h
    exact UInt8.toNat_inj.1 (by show c.toNat = 32; omega)
  · rintro rfl
    rfl

/-- Fields, as the program has them. -/
def SF (F : List (List UInt8 × List UInt8)) : List S36 := F.map fun p => ⟨S p.1, S p.2⟩
theorem SF_length (F : List (List UInt8 × List UInt8)) : (SF F).length = F.length := by unfold SF; simp
theorem rd_SF (F : List (List UInt8 × List UInt8)) (i : Nat) (h : i < F.length) : rd_T36 (SF F) (i : Int) = ⟨S F[i].1, S F[i].2⟩ := by
  unfold rd_T36 SF
  rw [Int.toNat_natCast, List.getD_eq_getElem?_getD]
  simp [h]
def Fine (F : List (List UInt8 × List UInt8)) : Prop := F.length ≤ 20 ∧ ∀ p ∈ F, fieldOK p.1 p.2
instance (F : List (List UInt8 × List UInt8)) : Decidable (Fine F) := by unfold Fine; exact inferInstance
def Small (F : List (List UInt8 × List UInt8)) : Prop := F.length ≤ 1000000000 ∧ ∀ p ∈ F, p.1.length ≤ 1000000000 ∧ p.2.length ≤ 1000000000
theorem iidx_ev (F : List (List UInt8 × List UInt8)) (hF : Small F) : Ev (fun k => impl_Field_53.f k (SF F)) (decide (∃ p ∈ F, ¬ fieldOK p.1 p.2)) := by
  have loop : ∀ (e i : Nat), i + e = F.length → (∀ j (h : j < F.length), j < i → fieldOK F[j].1 F[j].2) → ∃ r : Int, Ev (fun k => impl_Field_73.l0 k (SF F) (F.length : Int) (i : Int)) r ∧ (r ≥ 0 ↔ ∃ p ∈ F, ¬ fieldOK p.1 p.2) := by
    intro e
    induction e with
    | zero =>
      intro i hi hp
      refine ⟨-1, ?_, fun q => by omega, ?_⟩
      · refine Ev.step (fun k => by rw [impl_Field_73.l0]) ?_
        exact ev_neg (by omega) (Ev.now _)
      · rintro ⟨p, hm, hq⟩
        obtain ⟨j, hj, rfl⟩ := List.mem_iff_getElem.1 hm
        exact absurd (hp j hj (by omega)) hq
    | succ e ih =>
      intro i hi hp
      have hlt : i < F.length := by omega
      have w : wrap64 ((i : Int) + 1) = ((i + 1 : Nat) : Int) := by
        have := hF.1
        rw [w64 (by omega) (by omega)]
        omega
      have hs := hF.2 F[i] (List.getElem_mem hlt)
      have hv := ivalid_ev F[i].1 F[i].2 hs.1 hs.2
      by_cases hc : fieldOK F[i].1 F[i].2
      · obtain ⟨r, hr, hq⟩ := ih (i + 1) (by omega) (fun j hj hji => by
          by_cases q : j = i
          · subst q
            exact hc
          · exact hp j hj (by omega))
        refine ⟨r, ?_, hq⟩
        refine Ev.step (fun k => by rw [impl_Field_73.l0]) ?_
        simp only [SF_length, rd_SF F i hlt, w, impl_fieldsValid_1.f]
        clear w
        rw [decide_eq_true hc] at hv
        refine ev_pos (by omega) (ev_pos (by omega) (ev_pos (by omega) (Ev.bind (Ev.bind hv (Ev.now _)) (ev_neg (by decide) hr))))
      · refine ⟨(i : Int), ?_, fun _ => ⟨F[i], List.getElem_mem hlt, hc⟩, fun _ => by omega⟩
        refine Ev.step (fun k => by rw [impl_Field_73.l0]) ?_
        simp only [SF_length, rd_SF F i hlt, w, impl_fieldsValid_1.f]
        clear w
        rw [decide_eq_false hc] at hv
        exact ev_pos (by omega) (ev_pos (by omega) (ev_pos (by omega) (Ev.bind (Ev.bind hv (Ev.now _)) (ev_pos rfl (Ev.now _)))))
  obtain ⟨r, hr, hq⟩ := loop F.length 0 (by omega) (fun j _ h => by omega)
  simp only [impl_Field_53.f, impl_Field_73.f, SF_length]
  refine Ev.bind hr (ev_is ?_)
  rw [decide_eq_decide.2 hq]
theorem ivalids_ev (F : List (List UInt8 × List UInt8)) (hF : Small F) : Ev (fun k => impl_fieldsValid.f k (SF F)) (decide (Fine F)) := by
  simp only [impl_fieldsValid.f, SF_length]
  by_cases h : (F.length : Int) ≤ 20
  · refine ev_pos h (Ev.bind (iidx_ev F hF) (ev_is ?_))
    refine congrArg some ?_
    rw [Bool.eq_iff_iff, Bool.not_eq_true', decide_eq_false_iff_not, decide_eq_true_eq]
    constructor
    · intro q
      exact ⟨by omega, fun p hp => Decidable.byContradiction fun z => q ⟨p, hp, z⟩⟩
    · rintro q ⟨p, hp, z⟩
      exact z (q.2 p hp)
  · rw [decide_eq_false (fun q : Fine F => by have := q.1; omega)]
    exact ev_neg h (Ev.now _)
theorem hasp_is (s : List UInt8) (hs : s.length ≤ 1000000000) : strings_HasPrefix.f (S s) (⟨#[32]⟩ : ByteArray) = some (decide (s.head? = some 32)) := by
  unfold strings_HasPrefix.f stringslite_HasPrefix.f
  have e1 : ((⟨#[32]⟩ : ByteArray).size : Int) = 1 := rfl
  rw [e1, size_S]
  cases s with
  | nil => rfl
  | cons c r =>
    have h1 : ((c :: r).length : Int) ≥ 1 := by simp only [List.length_cons]; omega
    rw [if_pos h1, if_pos (by omega), if_pos h1, Option.bind_some]
    refine congrArg some ?_
    have e2 : (S (c :: r)).extract 0 ((1 : Int)).toNat = S [c] := by rw [extract_S]; rfl
    have e3 : (⟨#[32]⟩ : ByteArray).toList = [32] := toList_S [32]
    rw [e2, toList_S, e3, Bool.eq_iff_iff, beq_iff_eq, decide_eq_true_eq]
    simp

/-- Lines, those that begin with a space behind the one ahead of them. -/
def grpA : List UInt8 → List (List UInt8) → List (List UInt8)
  | cur, [] => [cur]
  | cur, l :: r => if l.head? = some 32 then grpA (cur ++ l) r else cur :: grpA l r
def groups : List (List UInt8) → List (List UInt8)
  | [] => []
  | l :: r => grpA l r
theorem grpA_sum : ∀ (r : List (List UInt8)) (cur : List UInt8), (grpA cur r).flatten = cur ++ r.flatten ∧ (grpA cur r).length ≤ r.length + 1 := by
  intro r
  induction r with
  | nil => intro cur; exact ⟨by simp [grpA], by simp [grpA]⟩
  | cons l r ih =>
    intro cur
    unfold grpA
    split
    · obtain ⟨h1, h2⟩ := ih (cur ++ l)
      exact ⟨by rw [h1]; simp, by simp only [List.length_cons]; omega⟩
    · obtain ⟨h1, h2⟩ := ih l
      exact ⟨by rw [List.flatten_cons, h1]; simp, by simp only [List.length_cons]; omega⟩
/-- A line parted at its first colon. -/
def one (l : List UInt8) : Option (List UInt8 × List UInt8) := if 0 ≤ Lib.indexByte l 58 then some (l.take (Lib.indexByte l 58).toNat, Lib.trimB (l.drop ((Lib.indexByte l 58).toNat + 1)) 32) else none
theorem one_len {l : List UInt8} {p : List UInt8 × List UInt8} (h : one l = some p) : p.1.length ≤ l.length ∧ p.2.length ≤ l.length := by
  unfold one at h
  split at h
  · obtain rfl := Option.some.inj h
    have e : Lib.trimB (l.drop ((Lib.indexByte l 58).toNat + 1)) 32 = trimL (trimR (l.drop ((Lib.indexByte l 58).toNat + 1))) := rfl
    have h1 := trimL_len (trimR (l.drop ((Lib.indexByte l 58).toNat + 1)))
    have h2 := trimR_len (l.drop ((Lib.indexByte l 58).toNat + 1))
    refine ⟨by rw [List.length_take]; omega, ?_⟩
    rw [List.length_drop] at h2
    show (Lib.trimB (l.drop ((Lib.indexByte l 58).toNat + 1)) 32).length ≤ l.length
    rw [e]
    omega
  · cases h
theorem one_cut (l : List UInt8) (hl : l.length ≤ 1000000000) : strings_Cut.f (S l) (⟨#[58]⟩ : ByteArray) = some (S (Lib.cut l [58]).1, S (Lib.cut l [58]).2.1, (Lib.cut l [58]).2.2) := by
  unfold strings_Cut.f
  rw [if_pos (by rw [size_S]; omega)]
  rfl
def specR : List (List UInt8) → List (List UInt8 × List UInt8) → List S36 × Bool
  | [], F => (SF F, true)
  | g :: gs, F => match one g with
    | some p => if fieldOK p.1 p.2 ∧ F.length ≠ 20 then specR gs (F ++ [p]) else ([], false)
    | none => ([], false)
def implR : List (List UInt8) → List (List UInt8 × List UInt8) → List S36 × Bool
  | [], F => if Fine F then (SF F, true) else ([], false)
  | g :: gs, F => match one g with
    | some p => implR gs (F ++ [p])
    | none => ([], false)
theorem implR_bad : ∀ (gs : List (List UInt8)) (F : List (List UInt8 × List UInt8)), ¬ Fine F → implR gs F = ([], false) := by
  intro gs
  induction gs with
  | nil => intro F h; exact if_neg h
  | cons g gs ih =>
    intro F h
    unfold implR
    cases one g with
    | none => rfl
    | some p =>
      refine ih _ (fun q => h ⟨?_, fun x hx => q.2 x (by simp [hx])⟩)
      have := q.1
      rw [List.length_append] at this
      omega
theorem specR_implR : ∀ (gs : List (List UInt8)) (F : List (List UInt8 × List UInt8)), Fine F → specR gs F = implR gs F := by
  intro gs
  induction gs with
  | nil => intro F h; exact (if_pos h).symm
  | cons g gs ih =>
    intro F h
    unfold specR implR
    cases one g with
    | none => rfl
    | some p =>
      show (if fieldOK p.1 p.2 ∧ F.length ≠ 20 then specR gs (F ++ [p]) else ([], false)) = implR gs (F ++ [p])
      by_cases q : fieldOK p.1 p.2 ∧ F.length ≠ 20
      · rw [if_pos q]
        have := h.1
        refine ih _ ⟨by rw [List.length_append]; simp; omega, fun x hx => ?_⟩
        rcases List.mem_append.1 hx with hx | hx
        · exact h.2 x hx
        · simp only [List.mem_singleton] at hx
          subst hx
          exact q.1
      · rw [if_neg q, implR_bad]
        intro z
        apply q
        refine ⟨z.2 p (by simp), ?_⟩
        have := z.1
        rw [List.length_append] at this
        simp at this
        omega
theorem specR_len : ∀ (gs : List (List UInt8)) (F : List (List UInt8 × List UInt8)), F.length ≤ 20 → (specR gs F).1.length ≤ 20 := by
  intro gs
  induction gs with
  | nil => intro F h; unfold specR; rw [SF_length]; exact h
  | cons g gs ih =>
    intro F h
    unfold specR
    cases one g with
    | none => exact Nat.zero_le _
    | some p =>
      show (if fieldOK p.1 p.2 ∧ F.length ≠ 20 then specR gs (F ++ [p]) else ([], false)).1.length ≤ 20
      by_cases q : fieldOK p.1 p.2 ∧ F.length ≠ 20
      · rw [if_pos q]
        exact ih _ (by rw [List.length_append]; simp; omega)
      · rw [if_neg q]
        exact Nat.zero_le _
def readR (ls : List (List UInt8)) : List S36 × Bool := specR (groups ls) []
theorem SF_append (F G : List (List UInt8 × List UInt8)) : SF F ++ SF G = SF (F ++ G) := by unfold SF; simp
theorem sone_loop (l : List UInt8) (hl : l.length ≤ 1000000000) : ∀ (e i : Nat), i + e = l.length → (∀ j (h : j < l.length), j < i → l[j] ≠ 58) →
    ∃ a b c, Ev (fun k => spec_l3One.l0 k (S l) (i : Int)) (a, b, c) ∧ ((c = true ∧ ∃ p, one l = some p ∧ fieldOK p.1 p.2 ∧ a = S p.1 ∧ b = S p.2) ∨ (c = false ∧ (one l = none ∨ ∃ p, one l = some p ∧ ¬ fieldOK p.1 p.2))) := by
  intro e
  induction e with
  | zero =>
    intro i hi hp
    refine ⟨_, _, _, Ev.step (fun k => by rw [spec_l3One.l0]) (ev_neg (by rw [size_S]; omega) (Ev.now _)), Or.inr ⟨rfl, Or.inl ?_⟩⟩
    unfold one
    refine if_neg (fun q => ?_)
    obtain ⟨o, ho⟩ := Int.eq_ofNat_of_zero_le q
    obtain ⟨h1, _⟩ := Lib.indexByte_some ho
    obtain ⟨h2, h3⟩ := List.getElem?_eq_some_iff.1 h1
    exact hp o h2 (by omega) h3
  | succ e ih =>
    intro i hi hp
    have hlt : i < l.length := by omega
    have hg : l.getD i 0 = l[i] := by rw [List.getD_eq_getElem?_getD, List.getElem?_eq_getElem hlt]; rfl
    have w : wrap64 ((i : Int) + 1) = ((i + 1 : Nat) : Int) := by rw [w64 (by omega) (by omega)]; omega
    by_cases hc : l[i] = 58
    · have hx : Lib.indexByte l 58 = (i : Int) := by
        have e1 : l = l.take i ++ 58 :: l.drop (i + 1) := by rw [← hc, ← drop_cons hlt, List.take_append_drop]
        have e2 := indexB_skip 58 (l.drop (i + 1)) (l.take i) (fun x hx => by
          obtain ⟨j, hj, rfl⟩ := List.mem_iff_getElem.1 hx
          rw [List.length_take] at hj
          rw [List.getElem_take]
          exact hp j (by omega) (by omega))
        rw [← e1, List.length_take] at e2
        rw [e2]
        omega
      have ho : one l = some (l.take i, Lib.trimB (l.drop (i + 1)) 32) := by
        unfold one
        rw [hx, if_pos (by omega), Int.toNat_natCast]
      have ex : (S l).extract (i + 1) l.length = S (l.drop (i + 1)) := by
        rw [extract_S, List.take_of_length_le (by rw [List.length_drop]; exact Nat.le_refl _)]
      have ex0 : (S l).extract 0 i = S (l.take i) := by rw [extract_S, List.drop_zero, Nat.sub_zero]
      have ht := spec_trim (l.drop (i + 1)) (by rw [List.length_drop]; omega)
      have tl := trim_len (l.drop (i + 1))
      rw [List.length_drop] at tl
      have hv := svalid2_ev (l.take i) (trim (l.drop (i + 1))) (by rw [List.length_take]; omega) (by omega)
      have c58 : (l[i].toNat : Int) = 58 := by rw [hc]; rfl
      have te : trim (l.drop (i + 1)) = Lib.trimB (l.drop (i + 1)) 32 := trim_trimB _
      rw [te] at ht hv
      have go : ∀ c, Ev (fun k => spec_FieldValid.f k (S (l.take i)) (S (Lib.trimB (l.drop (i + 1)) 32))) c → Ev (fun k => spec_l3One.l0 k (S l) (i : Int)) (S (l.take i), S (Lib.trimB (l.drop (i + 1)) 32), c) := by
        intro c hcv
        refine Ev.step (fun k => by rw [spec_l3One.l0]) ?_
        simp only [size_S, bt_S, Int.toNat_natCast, hg, w, ex, ex0]
        clear w
        exact ev_pos (by omega) (ev_pos (by omega) (ev_pos c58 (ev_pos (by omega) (ev_pos (by omega) (ev_pos (by omega) (Ev.bind ht (Ev.bind hcv (Ev.now _))))))))
      refine ⟨_, _, _, go _ hv, ?_⟩
      by_cases q : fieldOK (l.take i) (Lib.trimB (l.drop (i + 1)) 32)
      · exact Or.inl ⟨decide_eq_true q, _, ho, q, rfl, rfl⟩
      · exact Or.inr ⟨decide_eq_false q, Or.inr ⟨_, ho, q⟩⟩
    · obtain ⟨a, b, c, h1, h2⟩ := ih (i + 1) (by omega) (fun j hj hji => by
        by_cases q : j = i
        · subst q
          exact hc
        · exact hp j hj (by omega))
      refine ⟨a, b, c, Ev.step (fun k => by rw [spec_l3One.l0]) ?_, h2⟩
      simp only [size_S, bt_S, Int.toNat_natCast, hg, w]
      clear w
      exact ev_pos (by omega) (ev_pos (by omega) (ev_neg (fun q => hc (UInt8.toNat_inj.1 (by show l[i].toNat = 58; omega))) h1))
/-- One line's field and the rest of the lines. -/
theorem sone_then {l : List UInt8} {gs : List (List UInt8)} {F : List (List UInt8 × List UInt8)} {x0 : List ByteArray} {x5 : Int} (hl : l.length ≤ 1000000000) (hF : F.length ≤ 20)
    (H : ∀ p, one l = some p → fieldOK p.1 p.2 → F.length ≠ 20 → Ev (fun k => spec_ReadFields.l0 k x0 (SF (F ++ [p])) x5) (specR gs (F ++ [p]))) :
    Ev (fun k => (spec_l3One.f k (S l)).bind fun bt => (if bt.2.2 = true then (if ((SF F).length : Int) = 20 then (some ((([] : List (S36))), false)) else (if (SF F).length < 4398046511104 then (spec_ReadFields.l0 k x0 (SF F ++ [(⟨bt.1, bt.2.1⟩ : S36)]) x5) else (none))) else (some ((([] : List (S36))), false)))) (specR (l :: gs) F) := by
  obtain ⟨a, b, c, h1, h2⟩ := sone_loop l hl l.length 0 (by omega) (fun j _ h => by omega)
  have h1' : Ev (fun k => spec_l3One.f k (S l)) (a, b, c) := h1
  refine Ev.bind h1' ?_
  rw [SF_length]
  rcases h2 with ⟨rfl, p, ho, hok, rfl, rfl⟩ | ⟨rfl, h2⟩
  · have e : specR (l :: gs) F = if fieldOK p.1 p.2 ∧ F.length ≠ 20 then specR gs (F ++ [p]) else ([], false) := by
      show (match one l with | some p => (if fieldOK p.1 p.2 ∧ F.length ≠ 20 then specR gs (F ++ [p]) else ([], false)) | none => ([], false)) = _
      rw [ho]
    rw [e]
    refine ev_pos rfl ?_
    by_cases q : (F.length : Int) = 20
    · rw [if_neg (fun z => z.2 (by omega))]
      exact ev_pos q (Ev.now _)
    · rw [if_pos ⟨hok, by omega⟩]
      have e2 : SF F ++ [(⟨S p.1, S p.2⟩ : S36)] = SF (F ++ [p]) := SF_append F [p]
      rw [e2]
      exact ev_neg q (ev_pos (by omega) (H p ho hok (by omega)))
  · have e : specR (l :: gs) F = ([], false) := by
      show (match one l with | some p => (if fieldOK p.1 p.2 ∧ F.length ≠ 20 then specR gs (F ++ [p]) else ([], false)) | none => ([], false)) = _
      rcases h2 with h2 | ⟨p, h2, h3⟩
      · rw [h2]
      · rw [h2]
        exact if_neg (fun z => h3 z.1)
    rw [e]
    exact ev_neg (by simp) (Ev.now _)
theorem sread_l1 (ls : List (List UInt8)) (hn : ls.length ≤ 1048576) : ∀ (e i : Nat) (cur : List UInt8) (F : List (List UInt8 × List UInt8)), i + e = ls.length → cur.length + (ls.drop i).flatten.length ≤ 1048576 → F.length ≤ 20 →
    Ev (fun k => spec_ReadFields.l1 k (SL ls) (SF F) (i : Int) (S cur)) (specR (grpA cur (ls.drop i)) F) := by
  intro e
  induction e with
  | zero =>
    intro i cur F hi hc hF
    rw [List.drop_of_length_le (by omega)] at hc ⊢
    refine Ev.step (fun k => by rw [spec_ReadFields.l1]) ?_
    rw [SL_length]
    refine ev_neg (by omega) (sone_then (by simp at hc; omega) hF (fun p _ _ _ => ?_))
    refine Ev.step (fun k => by rw [spec_ReadFields.l0]) ?_
    rw [SL_length]
    exact ev_neg (by omega) (Ev.now _)
  | succ e ih =>
    intro i cur F hi hc hF
    have hlt : i < ls.length := by omega
    have w : wrap64 ((i : Int) + 1) = ((i + 1 : Nat) : Int) := by rw [w64 (by omega) (by omega)]; omega
    have hd : ls.drop i = ls[i] :: ls.drop (i + 1) := List.drop_eq_getElem_cons hlt
    rw [hd] at hc ⊢
    rw [List.flatten_cons, List.length_append] at hc
    have next : Ev (fun k => spec_ReadFields.l1 k (SL ls) (SF F) ((i + 1 : Nat) : Int) (S (cur ++ ls[i]))) (specR (grpA (cur ++ ls[i]) (ls.drop (i + 1))) F) := ih (i + 1) (cur ++ ls[i]) F (by omega) (by rw [List.length_append]; omega) hF
    have other : ls[i].head? ≠ some 32 → Ev (fun k => (spec_l3One.f k (S cur)).bind fun bt => (if bt.2.2 = true then (if ((SF F).length : Int) = 20 then (some ((([] : List (S36))), false)) else (if (SF F).length < 4398046511104 then (spec_ReadFields.l0 k (SL ls) (SF F ++ [(⟨bt.1, bt.2.1⟩ : S36)]) (i : Int)) else (none))) else (some ((([] : List (S36))), false)))) (specR (grpA cur (ls[i] :: ls.drop (i + 1))) F) := by
      intro hh
      have eg : grpA cur (ls[i] :: ls.drop (i + 1)) = cur :: grpA ls[i] (ls.drop (i + 1)) := by rw [grpA, if_neg hh]
      rw [eg]
      refine sone_then (by omega) hF (fun p _ _ hne => ?_)
      refine Ev.step (fun k => by rw [spec_ReadFields.l0]) ?_
      simp only [SL_length, rdOf_SL _ ls i hlt, w]
      refine ev_pos (by clear w; omega) (ev_pos (by clear w; omega) ?_)
      exact ih (i + 1) ls[i] (F ++ [p]) (by omega) (by omega) (by rw [List.length_append]; simp; omega)
    have b0 : bt (S ls[i]) 0 = ((ls[i].getD 0 0).toNat : Int) := by rw [bt_S]; rfl
    refine Ev.step (fun k => by rw [spec_ReadFields.l1]) ?_
    simp only [SL_length, rdOf_SL _ ls i hlt, w, append_S]
    clear w
    simp only [size_S, b0, u32]
    refine ev_pos (by omega) (ev_pos (by omega) ?_)
    by_cases h1 : (ls[i].length : Int) > 0
    · refine ev_pos h1 (ev_pos (by omega) ?_)
      have hhd : ls[i].head? = some (ls[i].getD 0 0) := by
        cases hq : ls[i] with
        | nil => rw [hq] at h1; simp at h1
        | cons c r => rfl
      by_cases h2 : ls[i].getD 0 0 = 32
      · have eg : grpA cur (ls[i] :: ls.drop (i + 1)) = grpA (cur ++ ls[i]) (ls.drop (i + 1)) := by rw [grpA, if_pos (by rw [hhd, h2])]
        rw [eg]
        exact ev_pos h2 (ev_pos (by omega) next)
      · exact ev_neg h2 (other (fun q => h2 (by rw [hhd] at q; exact Option.some.inj q)))
    · refine ev_neg h1 (other (fun q => ?_))
      cases hq : ls[i] with
      | nil => rw [hq] at q; cases q
      | cons c r => rw [hq] at h1; simp only [List.length_cons] at h1; omega
theorem sread_ev (ls : List (List UInt8)) (hn : ls.length ≤ 1048576) (hs : ls.flatten.length ≤ 1048576) : Ev (fun k => spec_ReadFields.f k (SL ls)) (readR ls) := by
  simp only [spec_ReadFields.f]
  cases ls with
  | nil =>
    refine Ev.step (fun k => by rw [spec_ReadFields.l0]) ?_
    exact ev_neg (by decide) (Ev.now _)
  | cons l r =>
    have hpos : (0 : Int) < ((l :: r).length : Int) := by simp only [List.length_cons]; omega
    have w : wrap64 ((0 : Int) + 1) = ((1 : Nat) : Int) := by rw [w64 (by omega) (by omega)]; rfl
    have r0 : rdOf ByteArray.empty (SL (l :: r)) (0 : Int) = S l := rfl
    have := sread_l1 (l :: r) hn r.length 1 l [] (by simp; omega) (by simpa using hs) (by simp)
    refine Ev.step (fun k => by rw [spec_ReadFields.l0]) ?_
    rw [SL_length, r0, w]
    exact ev_pos hpos (ev_pos (by decide) this)
theorem iread_l1 (gs : List (List UInt8)) (hn : gs.length ≤ 2000000) (hs : ∀ g ∈ gs, g.length ≤ 1048576) : ∀ (e i : Nat) (F : List (List UInt8 × List UInt8)), i + e = gs.length → F.length ≤ i → (∀ p ∈ F, p.1.length ≤ 1000000000 ∧ p.2.length ≤ 1000000000) →
    Ev (fun k => impl_ReadFields.l1 k (SF F) (SL gs) (gs.length : Int) (i : Int)) (implR (gs.drop i) F) := by
  intro e
  induction e with
  | zero =>
    intro i F hi hF hp
    rw [List.drop_of_length_le (by omega)]
    refine Ev.step (fun k => by rw [impl_ReadFields.l1]) ?_
    refine ev_neg (by omega) (Ev.bind (ivalids_ev F ⟨by omega, hp⟩) ?_)
    unfold implR
    by_cases q : Fine F
    · rw [if_pos q]
      exact ev_pos (decide_eq_true q) (Ev.now _)
    · rw [if_neg q]
      exact ev_neg (by simpa using q) (Ev.now _)
  | succ e ih =>
    intro i F hi hF hp
    have hlt : i < gs.length := by omega
    have w : wrap64 ((i : Int) + 1) = ((i + 1 : Nat) : Int) := by rw [w64 (by omega) (by omega)]; omega
    have hg := hs gs[i] (List.getElem_mem hlt)
    rw [List.drop_eq_getElem_cons hlt]
    have ec : Lib.cut gs[i] [58] = if 0 ≤ Lib.indexByte gs[i] 58 then (gs[i].take (Lib.indexByte gs[i] 58).toNat, gs[i].drop ((Lib.indexByte gs[i] 58).toNat + 1), true) else (gs[i], [], false) := by
      unfold Lib.cut
      rw [Lib.index_one]
      rfl
    refine Ev.step (fun k => by rw [impl_ReadFields.l1]) ?_
    simp only [SL_length, rdOf_SL _ gs i hlt, one_cut gs[i] (by omega), Option.bind_some, w]
    clear w
    refine ev_pos (by omega) (ev_pos (by omega) (ev_pos (by omega) ?_))
    by_cases h : 0 ≤ Lib.indexByte gs[i] 58
    · rw [if_pos h] at ec
      have ho : one gs[i] = some (gs[i].take (Lib.indexByte gs[i] 58).toNat, Lib.trimB (gs[i].drop ((Lib.indexByte gs[i] 58).toNat + 1)) 32) := by unfold one; rw [if_pos h]
      have hl := one_len ho
      have e1 : implR (gs[i] :: gs.drop (i + 1)) F = implR (gs.drop (i + 1)) (F ++ [(gs[i].take (Lib.indexByte gs[i] 58).toNat, Lib.trimB (gs[i].drop ((Lib.indexByte gs[i] 58).toNat + 1)) 32)]) := by
        show (match one gs[i] with | some p => implR (gs.drop (i + 1)) (F ++ [p]) | none => ([], false)) = _
        rw [ho]
      have ht := itrim_is (gs[i].drop ((Lib.indexByte gs[i] 58).toNat + 1)) (by rw [List.length_drop]; omega)
      rw [ec, e1]
      simp only [ht, Option.bind_some, SF_length]
      have e2 : SF F ++ [(⟨S (gs[i].take (Lib.indexByte gs[i] 58).toNat), S (Lib.trimB (gs[i].drop ((Lib.indexByte gs[i] 58).toNat + 1)) 32)⟩ : S36)] = SF (F ++ [(gs[i].take (Lib.indexByte gs[i] 58).toNat, Lib.trimB (gs[i].drop ((Lib.indexByte gs[i] 58).toNat + 1)) 32)]) := by rw [← SF_append]; rfl
      rw [e2]
      refine ev_pos trivial (ev_pos (by omega) (ih (i + 1) _ (by omega) (by rw [List.length_append]; simp; omega) (fun p hp2 => ?_)))
      rcases List.mem_append.1 hp2 with hp2 | hp2
      · exact hp p hp2
      · simp only [List.mem_singleton] at hp2
        subst hp2
        exact ⟨by have := hl.1; omega, by have := hl.2; omega⟩
    · rw [if_neg h] at ec
      have ho : one gs[i] = none := by unfold one; rw [if_neg h]
      have e1 : implR (gs[i] :: gs.drop (i + 1)) F = ([], false) := by
        show (match one gs[i] with | some p => implR (gs.drop (i + 1)) (F ++ [p]) | none => ([], false)) = _
        rw [ho]
      rw [ec, e1]
      exact ev_neg (by simp) (Ev.now _)
theorem iread_l0 (ls : List (List UInt8)) (hn : ls.length ≤ 1048576) (hb : ∀ l ∈ ls, l.length ≤ 1048576) : ∀ (e i : Nat) (ws : List (List UInt8)) (cur : List UInt8), i + e = ls.length → ws.length + 1 ≤ i → cur.length + (ls.drop i).flatten.length ≤ 1048576 → (∀ g ∈ ws, g.length ≤ 1048576) →
    Ev (fun k => impl_ReadFields.l0 k (SL (ws ++ [cur])) (SL ls) (ls.length : Int) (i : Int)) (implR (ws ++ grpA cur (ls.drop i)) []) := by
  intro e
  induction e with
  | zero =>
    intro i ws cur hi hw hc hws
    rw [List.drop_of_length_le (by omega)] at hc ⊢
    refine Ev.step (fun k => by rw [impl_ReadFields.l0]) ?_
    rw [SL_length]
    refine ev_neg (by omega) ?_
    have := iread_l1 (ws ++ [cur]) (by rw [List.length_append]; simp; omega) (fun g hg => by
      rcases List.mem_append.1 hg with hg | hg
      · exact hws g hg
      · simp only [List.mem_singleton] at hg
        subst hg
        simp at hc
        omega) (ws ++ [cur]).length 0 [] (by omega) (by simp) (fun p hp => by cases hp)
    have e0 : ((ws ++ [cur]).length : Int) = ((SL (ws ++ [cur])).length : Int) := by rw [SL_length]
    rw [List.drop_zero, e0] at this
    exact this
  | succ e ih =>
    intro i ws cur hi hw hc hws
    have hlt : i < ls.length := by omega
    have w : wrap64 ((i : Int) + 1) = ((i + 1 : Nat) : Int) := by rw [w64 (by omega) (by omega)]; omega
    have hd : ls.drop i = ls[i] :: ls.drop (i + 1) := List.drop_eq_getElem_cons hlt
    rw [hd] at hc ⊢
    rw [List.flatten_cons, List.length_append] at hc
    have hx := hb ls[i] (List.getElem_mem hlt)
    have hp := hasp_is ls[i] (by omega)
    have hwl : (ws ++ [cur]).length = ws.length + 1 := by simp
    have w2 : wrap64 (((ws ++ [cur]).length : Int) - 1) = (ws.length : Int) := by rw [hwl, w64 (by omega) (by omega)]; omega
    refine Ev.step (fun k => by rw [impl_ReadFields.l0]) ?_
    simp only [SL_length, rdOf_SL _ ls i hlt, hp, Option.bind_some, w, w2]
    clear w w2
    refine ev_pos (by omega) (ev_pos (by omega) (ev_pos (by omega) ?_))
    by_cases hh : ls[i].head? = some 32
    · have eg : grpA cur (ls[i] :: ls.drop (i + 1)) = grpA (cur ++ ls[i]) (ls.drop (i + 1)) := by rw [grpA, if_pos hh]
      rw [eg]
      have hlast : (ws ++ [cur])[ws.length]'(by rw [hwl]; omega) = cur := by simp
      have hr : rdOf ByteArray.empty (SL (ws ++ [cur])) (ws.length : Int) = S cur := by rw [rdOf_SL _ (ws ++ [cur]) ws.length (by rw [hwl]; omega), hlast]
      have eset : (SL (ws ++ [cur])).set ws.length (S (cur ++ ls[i])) = SL (ws ++ [cur ++ ls[i]]) := by
        unfold SL
        rw [← List.map_set]
        congr 1
        rw [List.set_append_right _ _ (Nat.le_refl _), Nat.sub_self]
        rfl
      simp only [hr, append_S, Int.toNat_natCast, eset]
      simp only [size_S]
      refine ev_pos (decide_eq_true hh) (ev_neg (by omega) (ev_pos (by omega) (ev_pos (by rw [hwl]; omega) (ev_pos (by omega) ?_))))
      exact ih (i + 1) ws (cur ++ ls[i]) (by omega) (by omega) (by rw [List.length_append]; omega) hws
    · have eg : grpA cur (ls[i] :: ls.drop (i + 1)) = cur :: grpA ls[i] (ls.drop (i + 1)) := by rw [grpA, if_neg hh]
      have ea : ws ++ cur :: grpA ls[i] (ls.drop (i + 1)) = (ws ++ [cur]) ++ grpA ls[i] (ls.drop (i + 1)) := by simp
      rw [eg, ea]
      simp only [SL_one, SL_append]
      refine ev_neg (by simpa using hh) (ev_pos (by rw [hwl]; omega) ?_)
      refine ih (i + 1) (ws ++ [cur]) ls[i] (by omega) (by rw [hwl]; omega) (by omega) (fun g hg => ?_)
      rcases List.mem_append.1 hg with hg | hg
      · exact hws g hg
      · simp only [List.mem_singleton] at hg
        subst hg
        omega
theorem readR_space {l : List UInt8} {r : List (List UInt8)} (h : l.head? = some 32) : readR (l :: r) = ([], false) := by
  obtain ⟨c, t, he⟩ : ∃ c t, grpA l r = c :: t ∧ c.head? = some 32 := by
    have : ∀ (r : List (List UInt8)) (l : List UInt8), l.head? = some 32 → ∃ c t, grpA l r = c :: t ∧ c.head? = some 32 := by
      intro r
      induction r with
      | nil => intro l h; exact ⟨l, [], rfl, h⟩
      | cons x r ih =>
        intro l h
        unfold grpA
        split
        · refine ih (l ++ x) ?_
          cases l with
          | nil => cases h
          | cons d s => exact h
        · exact ⟨l, _, rfl, h⟩
    exact this r l h
  have e : readR (l :: r) = specR (c :: t) [] := by
    show specR (grpA l r) [] = _
    rw [he.1]
  rw [e]
  show (match one c with | some p => (if fieldOK p.1 p.2 ∧ ([] : List (List UInt8 × List UInt8)).length ≠ 20 then specR t ([] ++ [p]) else ([], false)) | none => ([], false)) = _
  cases ho : one c with
  | none => rfl
  | some p =>
    refine if_neg (fun z => ?_)
    unfold one at ho
    split at ho
    · rename_i hi
      obtain rfl := Option.some.inj ho
      have h0 := z.1.1.1
      have hc := he.2
      cases c with
      | nil => cases hc
      | cons d s =>
        obtain rfl : d = 32 := Option.some.inj hc
        have hn := z.1.1.2.2.2 32 (by
          cases hk : (Lib.indexByte (32 :: s) 58).toNat with
          | zero => rw [hk] at h0; simp at h0
          | succ j => simp)
        exact (namB_ne hn).2 rfl
    · cases ho
theorem iread_ev (ls : List (List UInt8)) (hn : ls.length ≤ 1048576) (hs : ls.flatten.length ≤ 1048576) : Ev (fun k => impl_ReadFields.f k (SL ls)) (readR ls) := by
  have hb : ∀ l ∈ ls, l.length ≤ 1048576 := by
    intro x hx
    have := (List.sublist_flatten_of_mem hx).length_le
    omega
  have hF0 : Fine [] := ⟨by simp, fun p hp => by cases hp⟩
  simp only [impl_ReadFields.f, SL_length]
  cases ls with
  | nil =>
    have e : readR [] = implR [] [] := specR_implR [] [] hF0
    rw [e]
    refine Ev.step (fun k => by rw [impl_ReadFields.l0]) ?_
    refine ev_neg (by decide) ?_
    exact iread_l1 [] (by simp) (fun g hg => by cases hg) 0 0 [] rfl (by simp) (fun p hp => by cases hp)
  | cons l r =>
    have hpos : (0 : Int) < ((l :: r).length : Int) := by simp only [List.length_cons]; omega
    have w : wrap64 ((0 : Int) + 1) = ((1 : Nat) : Int) := by rw [w64 (by omega) (by omega)]; rfl
    have w2 : wrap64 ((([] : List ByteArray).length : Int) - 1) = -1 := by rw [w64 (by simp) (by simp)]; rfl
    have r0 : rdOf ByteArray.empty (SL (l :: r)) (0 : Int) = S l := rfl
    have hp := hasp_is l (by have := hb l (by simp); omega)
    refine Ev.step (fun k => by rw [impl_ReadFields.l0]) ?_
    simp only [SL_length, r0, hp, Option.bind_some, w, w2]
    clear w w2
    refine ev_pos hpos (ev_pos (by decide) (ev_pos hpos ?_))
    by_cases hh : l.head? = some 32
    · rw [readR_space hh]
      exact ev_pos (decide_eq_true hh) (ev_pos (by decide) (Ev.now _))
    · have e : readR (l :: r) = implR (grpA l r) [] := specR_implR (grpA l r) [] hF0
      rw [e]
      refine ev_neg (by simpa using hh) (ev_pos (by decide) ?_)
      have := iread_l0 (l :: r) hn hb r.length 1 [] l (by simp; omega) (by simp) (by simpa using hs) (fun g hg => by cases hg)
      exact this

theorem szs_loop (ls : List ByteArray) (hn : ls.length ≤ 1048576) (hz : ∀ s ∈ ls, s.size ≤ maxLen) : ∀ (e i : Nat) (x1 : Int), i + e = ls.length → 0 ≤ x1 → x1 ≤ 1048576 →
    ∃ r, Ev (fun k => laws_szStringS.l0 k ls x1 (i : Int)) r ∧ (r < 0 ∨ ∀ j, (h : j < ls.length) → i ≤ j → ls[j].size ≤ 1048576) := by
  intro e
  induction e with
  | zero =>
    intro i x1 hi h0 h1
    refine ⟨x1, Ev.step (fun k => by rw [laws_szStringS.l0]) (ev_neg (by omega) (Ev.now _)), Or.inr ?_⟩
    intro j h1 h2
    omega
  | succ e ih =>
    intro i x1 hi h0 h1
    have hlt : i < ls.length := by omega
    have hm : maxLen = 9223372036854775807 := rfl
    have hs := hz ls[i] (List.getElem_mem hlt)
    rw [hm] at hs
    have hr : rdOf ByteArray.empty ls (i : Int) = ls[i] := by
      unfold rdOf
      rw [List.getD_eq_getElem?_getD]
      simp [hlt]
    have w1 : wrap64 ((i : Int) + 1) = ((i + 1 : Nat) : Int) := by rw [w64 (by omega) (by omega)]; omega
    have w2 : wrap64 (x1 - (ls[i].size : Int)) = x1 - (ls[i].size : Int) := w64 (by omega) (by omega)
    by_cases hneg : x1 - (ls[i].size : Int) < 0
    · refine ⟨-1, Ev.step (fun k => by rw [laws_szStringS.l0]) ?_, Or.inl (by omega)⟩
      simp only [hr, w2]
      exact ev_pos (by omega) (ev_pos (by omega) (ev_pos hneg (Ev.now _)))
    · obtain ⟨r, hev, hp⟩ := ih (i + 1) (x1 - (ls[i].size : Int)) (by omega) (by omega) (by omega)
      refine ⟨r, Ev.step (fun k => by rw [laws_szStringS.l0]) ?_, ?_⟩
      · simp only [hr, w2, w1]
        exact ev_pos (by omega) (ev_pos (by omega) (ev_neg hneg hev))
      · rcases hp with hp | hp
        · exact Or.inl hp
        · refine Or.inr fun j hj hij => ?_
          by_cases hji : j = i
          · subst hji
            omega
          · exact hp j hj (by omega)

theorem szs (ls : List ByteArray) (hn : ls.length ≤ maxLen) (hz : ∀ s ∈ ls, s.size ≤ maxLen) :
    ∃ r, Ev (fun k => laws_szStringS.f k ls 1048576) r ∧ (r < 0 ∨ (ls.length ≤ 1048576 ∧ ∀ s ∈ ls, s.size ≤ 1048576)) := by
  simp only [laws_szStringS.f]
  have hm : maxLen = 9223372036854775807 := rfl
  rw [hm] at hn
  have w : wrap64 (1048576 - (ls.length : Int)) = 1048576 - (ls.length : Int) := w64 (by omega) (by omega)
  rw [w]
  by_cases h : (1048576 - (ls.length : Int)) < 0
  · exact ⟨-1, ev_pos h (Ev.now _), Or.inl (by omega)⟩
  · obtain ⟨r, hev, hp⟩ := szs_loop ls (by omega) hz ls.length 0 (1048576 - (ls.length : Int)) (by omega) (by omega) (by omega)
    refine ⟨r, ev_neg h hev, ?_⟩
    rcases hp with hp | hp
    · exact Or.inl hp
    · refine Or.inr ⟨by omega, fun s hs => ?_⟩
      obtain ⟨j, hj, rfl⟩ := List.mem_iff_getElem.1 hs
      exact hp j hj (Nat.zero_le _)

theorem tos_loop (ls : List ByteArray) (hn : ls.length ≤ 1048576) (z : ByteArray) : ∀ (e i : Nat), i + e = ls.length →
    Ev (fun k => laws_toStringS.l0 k ls (ls.take i ++ List.replicate e z) (i : Int)) ls := by
  intro e
  induction e with
  | zero =>
    intro i hi
    refine Ev.step (fun k => by rw [laws_toStringS.l0]) ?_
    refine ev_neg (by omega) (ev_is ?_)
    rw [List.take_of_length_le (by omega)]
    simp
  | succ e ih =>
    intro i hi
    have hlt : i < ls.length := by omega
    have hr : rdOf ByteArray.empty ls (i : Int) = ls[i] := by
      unfold rdOf
      rw [List.getD_eq_getElem?_getD]
      simp [hlt]
    have w1 : wrap64 ((i : Int) + 1) = ((i + 1 : Nat) : Int) := by rw [w64 (by omega) (by omega)]; omega
    have hlen : (ls.take i).length = i := by rw [List.length_take]; omega
    have hset : (ls.take i ++ List.replicate (e + 1) z).set i ls[i] = ls.take (i + 1) ++ List.replicate e z := by
      rw [List.set_append_right _ _ (by omega), hlen, Nat.sub_self, List.replicate_succ, List.set_cons_zero, List.take_succ_eq_append_getElem hlt, List.append_assoc]
      rfl
    refine Ev.step (fun k => by rw [laws_toStringS.l0]) ?_
    simp only [hr, w1, Int.toNat_natCast, hset]
    refine ev_pos (by omega) (ev_pos (by omega) (ev_pos ?_ (ih (i + 1) (by omega))))
    rw [List.length_append, hlen, List.length_replicate]
    omega
theorem tos (ls : List ByteArray) (hn : ls.length ≤ 1048576) : Ev (fun k => laws_toStringS.f k ls) ls := by
  simp only [laws_toStringS.f, Int.toNat_natCast]
  have := tos_loop ls hn (⟨#[]⟩ : ByteArray) ls.length 0 (by omega)
  rw [List.take_zero, List.nil_append] at this
  exact ev_pos (by omega) (ev_pos (by omega) this)

theorem eqss_loop (ls : List ByteArray) (hn : ls.length ≤ 1048576) : ∀ (e i : Nat), i + e = ls.length → Ev (fun k => laws_eqStringS.l0 k ls ls (i : Int)) true := by
  intro e
  induction e with
  | zero =>
    intro i hi
    refine Ev.step (fun k => by rw [laws_eqStringS.l0]) ?_
    exact ev_neg (by omega) (Ev.now _)
  | succ e ih =>
    intro i hi
    have w1 : wrap64 ((i : Int) + 1) = ((i + 1 : Nat) : Int) := by rw [w64 (by omega) (by omega)]; omega
    refine Ev.step (fun k => by rw [laws_eqStringS.l0]) ?_
    simp only [w1]
    exact ev_pos (by omega) (ev_pos (by omega) (ev_pos (by omega) (ev_pos trivial (ih (i + 1) (by omega)))))
theorem eqss (ls : List ByteArray) (hn : ls.length ≤ 1048576) : Ev (fun k => laws_eqStringS.f k ls ls) true := by
  simp only [laws_eqStringS.f]
  exact ev_pos trivial (eqss_loop ls hn ls.length 0 (by omega))

theorem szs2 (ls : List (List UInt8)) (hn : ls.length ≤ maxLen) (hz : ∀ l ∈ ls, l.length ≤ maxLen) :
    ∃ r, Ev (fun k => laws_szStringS.f k (SL ls) 1048576) r ∧ (r < 0 ∨ (ls.length ≤ 1048576 ∧ ls.flatten.length ≤ 1048576)) := by
  have hm : maxLen = 9223372036854775807 := rfl
  rw [hm] at hn
  have loop : ∀ (e i : Nat) (x1 : Int), i + e = ls.length → ls.length ≤ 1048576 → 0 ≤ x1 → x1 ≤ 1048576 → ∃ r, Ev (fun k => laws_szStringS.l0 k (SL ls) x1 (i : Int)) r ∧ (r < 0 ∨ ((ls.drop i).flatten.length : Int) ≤ x1) := by
    intro e
    induction e with
    | zero =>
      intro i x1 hi _ h0 h1
      refine ⟨x1, Ev.step (fun k => by rw [laws_szStringS.l0]) (ev_neg (by rw [SL_length]; omega) (Ev.now _)), Or.inr ?_⟩
      rw [List.drop_of_length_le (by omega)]
      simpa using h0
    | succ e ih =>
      intro i x1 hi hc h0 h1
      have hlt : i < ls.length := by omega
      have hs := hz ls[i] (List.getElem_mem hlt)
      rw [hm] at hs
      have w1 : wrap64 ((i : Int) + 1) = ((i + 1 : Nat) : Int) := by rw [w64 (by omega) (by omega)]; omega
      have w2 : wrap64 (x1 - (ls[i].length : Int)) = x1 - (ls[i].length : Int) := w64 (by omega) (by omega)
      have hd : ls.drop i = ls[i] :: ls.drop (i + 1) := List.drop_eq_getElem_cons hlt
      by_cases hneg : x1 - (ls[i].length : Int) < 0
      · refine ⟨-1, Ev.step (fun k => by rw [laws_szStringS.l0]) ?_, Or.inl (by omega)⟩
        simp only [SL_length, rdOf_SL _ ls i hlt, size_S, w2]
        clear w1 w2
        exact ev_pos (by omega) (ev_pos (by omega) (ev_pos hneg (Ev.now _)))
      · obtain ⟨r, hev, hp⟩ := ih (i + 1) (x1 - (ls[i].length : Int)) (by omega) hc (by clear w1 w2; omega) (by clear w1 w2; omega)
        refine ⟨r, Ev.step (fun k => by rw [laws_szStringS.l0]) ?_, ?_⟩
        · simp only [SL_length, rdOf_SL _ ls i hlt, size_S, w2, w1]
          clear w1 w2
          exact ev_pos (by omega) (ev_pos (by omega) (ev_neg hneg hev))
        · rcases hp with hp | hp
          · exact Or.inl hp
          · refine Or.inr ?_
            rw [hd, List.flatten_cons, List.length_append]
            clear w1 w2
            omega
  simp only [laws_szStringS.f, SL_length]
  have w : wrap64 (1048576 - (ls.length : Int)) = 1048576 - (ls.length : Int) := w64 (by omega) (by omega)
  rw [w]
  clear w
  by_cases h : (1048576 - (ls.length : Int)) < 0
  · exact ⟨-1, ev_pos h (Ev.now _), Or.inl (by omega)⟩
  · obtain ⟨r, hev, hp⟩ := loop ls.length 0 (1048576 - (ls.length : Int)) (by omega) (by omega) (by omega) (by omega)
    refine ⟨r, ev_neg h hev, ?_⟩
    rcases hp with hp | hp
    · exact Or.inl hp
    · rw [List.drop_zero] at hp
      exact Or.inr ⟨by omega, by omega⟩

theorem eqs_self (l : List ByteArray) (hl : l.length ≤ 1048576) : Ev (fun k => laws_eqStringS.f k l l) true := by
  simp only [laws_eqStringS.f]
  refine ev_pos trivial ?_
  have : ∀ (e i : Nat), i + e = l.length → Ev (fun k => laws_eqStringS.l0 k l l (i : Int)) true := by
    intro e
    induction e with
    | zero =>
      intro i hi
      refine Ev.step (fun k => by rw [laws_eqStringS.l0]) ?_
      exact ev_neg (by omega) (Ev.now _)
    | succ e ih =>
      intro i hi
      have w : wrap64 ((i : Int) + 1) = ((i + 1 : Nat) : Int) := by rw [w64 (by omega) (by omega)]; omega
      refine Ev.step (fun k => by rw [laws_eqStringS.l0]) ?_
      refine ev_pos (by omega) (ev_pos (by omega) (ev_pos (by omega) (ev_pos rfl ?_)))
      rw [w]
      exact ih (i + 1) (by omega)
  exact this l.length 0 (by omega)

theorem marktext_loop : ∀ (d : Nat) (n : Int) (s : ByteArray), 0 ≤ n → n < 10 ^ d → n ≤ 2000000 → s.size + d ≤ 100 → ∃ t, Ev (fun k => laws_markText.l0 k n s) t := by
  intro d
  induction d with
  | zero =>
    intro n s h0 h1 hd hs
    have h1' : n < 1 := by simpa using h1
    have : n = 0 := by omega
    subst this
    refine ⟨(⟨#[109]⟩ : ByteArray) ++ s, ?_⟩
    refine Ev.step (fun k => by rw [laws_markText.l0]) ?_
    exact ev_neg (by omega) (ev_pos (by omega) (Ev.now _))
  | succ d ih =>
    intro n s h0 h1 hd hs
    by_cases hn : n > 0
    · have hp : (10 : Int) ^ (d + 1) = 10 ^ d * 10 := Int.pow_succ 10 d
      have hlt : n / 10 < 10 ^ d := by omega
      obtain ⟨t, ht⟩ := ih (n / 10) (strOfNums [wrap64 (48 + Int.tmod n 10) % 256] ++ s) (by omega) hlt (by omega) (by rw [ByteArray.size_append, strOfNums_size]; simp; omega)
      refine ⟨t, ?_⟩
      have w : wrap64 (Int.tdiv n 10) = n / 10 := by
        rw [Int.tdiv_eq_ediv_of_nonneg h0]
        exact w64 (by omega) (by omega)
      refine Ev.step (fun k => by rw [laws_markText.l0]) ?_
      refine ev_pos hn ?_
      refine ev_bind0 rfl ?_
      refine ev_pos (by rw [strOfNums_size]; simp; omega) ?_
      rw [w]
      exact ht
    · refine ⟨(⟨#[109]⟩ : ByteArray) ++ s, ?_⟩
      refine Ev.step (fun k => by rw [laws_markText.l0]) ?_
      exact ev_neg hn (ev_pos (by omega) (Ev.now _))

theorem marktext_ex (n : Int) (h0 : 1 ≤ n) (h1 : n ≤ 2000000) : ∃ t, Ev (fun k => laws_markText.f k n) t := by
  obtain ⟨t, ht⟩ := marktext_loop 18 n (⟨#[]⟩ : ByteArray) (by omega) (by omega) (by omega) (by show 0 + 18 ≤ 100; omega)
  refine ⟨t, ?_⟩
  simp only [laws_markText.f]
  exact ev_neg (by omega) ht

open Classical in
noncomputable def mtx (n : Int) : ByteArray := if h : ∃ t, Ev (fun k => laws_markText.f k n) t then h.choose else ByteArray.empty
theorem mtx_ev (n : Int) (h0 : 1 ≤ n) (h1 : n ≤ 2000000) : Ev (fun k => laws_markText.f k n) (mtx n) := by
  unfold mtx
  have h := marktext_ex n h0 h1
  rw [dif_pos h]
  exact h.choose_spec

noncomputable def marks (n : Nat) : List ByteArray := (List.range n).map fun i : Nat => mtx (1 + (i : Int))
theorem marks_length (n : Nat) : (marks n).length = n := by unfold marks; simp
theorem marks_succ (n : Nat) : marks (n + 1) = marks n ++ [mtx (1 + (n : Int))] := by unfold marks; rw [List.range_succ]; simp

theorem mark_ev (l : List ByteArray) (hl : l.length ≤ 1048576) : Ev (fun k => laws_markStringS.f k l 1) (1 + (l.length : Int), marks l.length) := by
  simp only [laws_markStringS.f]
  have : ∀ (e i : Nat), i + e = l.length → Ev (fun k => laws_markStringS.l0 k (marks i ++ l.drop i) (1 + (i : Int)) (i : Int)) (1 + (l.length : Int), marks l.length) := by
    intro e
    induction e with
    | zero =>
      intro i hi
      have hi' : i = l.length := by omega
      subst hi'
      refine Ev.step (fun k => by rw [laws_markStringS.l0]) ?_
      rw [List.drop_of_length_le (Nat.le_refl _), List.append_nil]
      refine ev_neg ?_ (Ev.now _)
      rw [marks_length]
      omega
    | succ e ih =>
      intro i hi
      obtain ⟨w, w2⟩ : wrap64 ((i : Int) + 1) = ((i + 1 : Nat) : Int) ∧ wrap64 (1 + (i : Int) + 1) = 1 + ((i + 1 : Nat) : Int) :=
        ⟨by rw [w64 (by omega) (by omega)]; omega, by rw [w64 (by omega) (by omega)]; omega⟩
      have hm := mtx_ev (1 + (i : Int)) (by omega) (by omega)
      have hlen : ((marks i ++ l.drop i).length : Int) = (l.length : Int) := by
        rw [List.length_append, marks_length, List.length_drop]
        omega
      have hset : (marks i ++ l.drop i).set i (mtx (1 + (i : Int))) = marks (i + 1) ++ l.drop (i + 1) := by
        rw [List.set_append_right _ _ (by rw [marks_length]; omega), marks_length, marks_succ, List.drop_eq_getElem_cons (by omega : i < l.length), Nat.sub_self, List.set_cons_zero, List.append_assoc]
        rfl
      refine Ev.step (fun k => by rw [laws_markStringS.l0]) ?_
      refine ev_pos (by rw [hlen]; omega) ?_
      refine Ev.bind hm ?_
      refine ev_pos (by omega) ?_
      rw [Int.toNat_natCast, hset, w, w2]
      exact ih (i + 1) (by omega)
  exact this l.length 0 (by omega)


theorem eqf_self (l : List S36) (hl : l.length ≤ 1000000) : Ev (fun k => laws_eqFieldS.f k l l) true := by
  simp only [laws_eqFieldS.f]
  refine ev_pos trivial ?_
  have : ∀ (e i : Nat), i + e = l.length → Ev (fun k => laws_eqFieldS.l0 k l l (i : Int)) true := by
    intro e
    induction e with
    | zero =>
      intro i hi
      refine Ev.step (fun k => by rw [laws_eqFieldS.l0]) ?_
      exact ev_neg (by omega) (Ev.now _)
    | succ e ih =>
      intro i hi
      have w : wrap64 ((i : Int) + 1) = ((i + 1 : Nat) : Int) := by rw [w64 (by omega) (by omega)]; omega
      have he : ∀ a b : ByteArray, laws_eqField.f a b a b = some true := by
        intro a b
        unfold laws_eqField.f
        rw [if_pos rfl, if_pos rfl]
      refine Ev.step (fun k => by rw [laws_eqFieldS.l0]) ?_
      simp only [he, Option.bind_some, w]
      exact ev_pos (by omega) (ev_pos (by omega) (ev_pos (by omega) (ev_pos trivial (ih (i + 1) (by omega)))))
  exact this l.length 0 (by omega)
noncomputable def marksF (n : Nat) : List S36 := (List.range n).map fun i : Nat => ⟨mtx (1 + 2 * (i : Int)), mtx (2 + 2 * (i : Int))⟩
theorem marksF_length (n : Nat) : (marksF n).length = n := by unfold marksF; simp
theorem marksF_succ (n : Nat) : marksF (n + 1) = marksF n ++ [(⟨mtx (1 + 2 * (n : Int)), mtx (2 + 2 * (n : Int))⟩ : S36)] := by unfold marksF; rw [List.range_succ]; simp
theorem rdT_at (l : List S36) (i : Nat) (h : i < l.length) : rd_T36 l (i : Int) = l[i] := by
  unfold rd_T36
  rw [Int.toNat_natCast, List.getD_eq_getElem?_getD]
  simp [h]
theorem markf_ev (l : List S36) (hl : l.length ≤ 100000) : Ev (fun k => laws_markFieldS.f k l 1) (1 + 2 * (l.length : Int), marksF l.length) := by
  simp only [laws_markFieldS.f]
  have : ∀ (e i : Nat), i + e = l.length → Ev (fun k => laws_markFieldS.l0 k (marksF i ++ l.drop i) (1 + 2 * (i : Int)) (i : Int)) (1 + 2 * (l.length : Int), marksF l.length) := by
    intro e
    induction e with
    | zero =>
      intro i hi
      have hi' : i = l.length := by omega
      subst hi'
      refine Ev.step (fun k => by rw [laws_markFieldS.l0]) ?_
      rw [List.drop_of_length_le (Nat.le_refl _), List.append_nil]
      refine ev_neg ?_ (Ev.now _)
      rw [marksF_length]
      omega
    | succ e ih =>
      intro i hi
      have hlt : i < l.length := by omega
      obtain ⟨w, w2, w3⟩ : wrap64 ((i : Int) + 1) = ((i + 1 : Nat) : Int) ∧ wrap64 (1 + 2 * (i : Int) + 1) = 2 + 2 * (i : Int) ∧ wrap64 (2 + 2 * (i : Int) + 1) = 1 + 2 * ((i + 1 : Nat) : Int) :=
        ⟨by rw [w64 (by omega) (by omega)]; omega, by rw [w64 (by omega) (by omega)]; omega, by rw [w64 (by omega) (by omega)]; omega⟩
      have hm := mtx_ev (1 + 2 * (i : Int)) (by omega) (by omega)
      have hm2 := mtx_ev (2 + 2 * (i : Int)) (by omega) (by omega)
      have hlen : ((marksF i ++ l.drop i).length : Int) = (l.length : Int) := by
        rw [List.length_append, marksF_length, List.length_drop]
        omega
      have hset : ∀ x : S36, (marksF i ++ l.drop i).set i x = marksF i ++ x :: l.drop (i + 1) := by
        intro x
        rw [List.set_append_right _ _ (by rw [marksF_length]; omega), marksF_length, List.drop_eq_getElem_cons hlt, Nat.sub_self, List.set_cons_zero]
      have hset2 : ∀ x y : S36, (marksF i ++ x :: l.drop (i + 1)).set i y = marksF i ++ y :: l.drop (i + 1) := by
        intro x y
        rw [List.set_append_right _ _ (by rw [marksF_length]; omega), marksF_length, Nat.sub_self, List.set_cons_zero]
      have hrd : ∀ x : S36, rd_T36 (marksF i ++ x :: l.drop (i + 1)) (i : Int) = x := by
        intro x
        rw [rdT_at _ i (by rw [List.length_append, marksF_length]; simp)]
        rw [List.getElem_append_right (by rw [marksF_length]; omega)]
        simp [marksF_length]
      have hfin : marksF i ++ (⟨mtx (1 + 2 * (i : Int)), mtx (2 + 2 * (i : Int))⟩ : S36) :: l.drop (i + 1) = marksF (i + 1) ++ l.drop (i + 1) := by
        rw [marksF_succ]
        simp
      refine Ev.step (fun k => by rw [laws_markFieldS.l0]) ?_
      refine ev_pos (by rw [hlen]; omega) (Ev.bind hm (ev_pos (by omega) ?_))
      simp only [Int.toNat_natCast, Option.bind_some, hset, w2]
      refine Ev.bind hm2 ?_
      simp only [hrd, hset2, w3, w, hfin]
      exact ih (i + 1) (by omega)
  exact this l.length 0 (by omega)
theorem heldf_ev (n : Nat) (hn : n ≤ 100000) : Ev (fun k => laws_heldFieldS.f k (marksF n) 1) (1 + 2 * (n : Int)) := by
  simp only [laws_heldFieldS.f]
  have : ∀ (e i : Nat), i + e = n → Ev (fun k => laws_heldFieldS.l0 k (marksF n) (1 + 2 * (i : Int)) (i : Int)) (1 + 2 * (n : Int)) := by
    intro e
    induction e with
    | zero =>
      intro i hi
      have hi' : i = n := by omega
      subst hi'
      refine Ev.step (fun k => by rw [laws_heldFieldS.l0]) ?_
      refine ev_neg ?_ (Ev.now _)
      rw [marksF_length]
      omega
    | succ e ih =>
      intro i hi
      obtain ⟨w, w2, w3⟩ : wrap64 ((i : Int) + 1) = ((i + 1 : Nat) : Int) ∧ wrap64 (1 + 2 * (i : Int) + 1) = 2 + 2 * (i : Int) ∧ wrap64 (2 + 2 * (i : Int) + 1) = 1 + 2 * ((i + 1 : Nat) : Int) :=
        ⟨by rw [w64 (by omega) (by omega)]; omega, by rw [w64 (by omega) (by omega)]; omega, by rw [w64 (by omega) (by omega)]; omega⟩
      have hm := mtx_ev (1 + 2 * (i : Int)) (by omega) (by omega)
      have hm2 := mtx_ev (2 + 2 * (i : Int)) (by omega) (by omega)
      have hrd : rd_T36 (marksF n) (i : Int) = ⟨mtx (1 + 2 * (i : Int)), mtx (2 + 2 * (i : Int))⟩ := by
        rw [rdT_at _ i (by rw [marksF_length]; omega)]
        simp [marksF]
      refine Ev.step (fun k => by rw [laws_heldFieldS.l0]) ?_
      simp only [hrd, w2, w3, w]
      exact ev_pos (by rw [marksF_length]; omega) (ev_pos (by omega) (Ev.bind hm (ev_pos rfl (Ev.bind hm2 (ev_pos rfl (ih (i + 1) (by omega)))))))
  exact this n 0 (by omega)

theorem FnExactReadFields : laws_FnExactReadFields.Pure := by
  intro l0 hn hz
  refine Ev.rounds ?_
  simp only [laws_FnExactReadFields.f]
  obtain ⟨ls, rfl⟩ := ex_SL l0
  rw [SL_length] at hn
  obtain ⟨r, hr, hp⟩ := szs2 ls hn (fun l hl => by
    have := hz (S l) (List.mem_map_of_mem hl)
    rwa [size_S] at this)
  refine Ev.bind hr ?_
  by_cases hneg : r < 0
  · exact ev_pos hneg (Ev.now _)
  obtain ⟨h1, h2⟩ := hp.resolve_left hneg
  have ht := tos (SL ls) (by rw [SL_length]; omega)
  have hs := sread_ev ls h1 h2
  have hi := iread_ev ls h1 h2
  have hl : (readR ls).1.length ≤ 20 := specR_len _ _ (by simp)
  refine ev_neg hneg (Ev.bind ht (Ev.bind hs (Ev.bind ht (Ev.bind hi (Ev.bind (eqf_self (readR ls).1 (by omega)) (ev_pos rfl ?_))))))
  rw [bne_self_eq_false]
  refine Ev.step (fun k => by rw [laws_FnExactReadFields.j0]) ?_
  refine ev_neg (by decide) (Ev.bind ht (Ev.bind (eqs_self (SL ls) (by rw [SL_length]; omega)) (ev_pos rfl (Ev.bind (mark_ev (SL ls) (by rw [SL_length]; omega)) (ev_neg (by rw [SL_length]; omega) (Ev.bind (eqf_self (readR ls).1 (by omega)) (ev_pos rfl ?_)))))))
  rw [bne_self_eq_false]
  refine Ev.step (fun k => by rw [laws_FnExactReadFields.j1]) ?_
  refine ev_neg (by decide) (Ev.bind (markf_ev (readR ls).1 (by omega)) (Ev.bind (heldf_ev (readR ls).1.length (by omega)) (ev_neg (by omega) (ev_pos rfl (Ev.bind ht (Ev.bind hi (Ev.bind (eqf_self (readR ls).1 (by omega)) (ev_pos rfl ?_))))))))
  rw [bne_self_eq_false]
  refine Ev.step (fun k => by rw [laws_FnExactReadFields.j2]) ?_
  exact ev_neg (by decide) (Ev.bind (heldf_ev (readR ls).1.length (by omega)) (ev_neg (by omega) (ev_pos rfl (Ev.now _))))

end Go.Proofs.YthmdblcgiljhpaaDoor.PLFnExactReadFields
namespace Go.Proofs.YthmdblcgiljhpaaDoor.Pure
open Go.Proofs.YthmdblcgiljhpaaDoor.PFnExactReadFields
theorem FnExactReadFields : laws_FnExactReadFields.Pure := PLFnExactReadFields.FnExactReadFields
end Go.Proofs.YthmdblcgiljhpaaDoor.Pure
