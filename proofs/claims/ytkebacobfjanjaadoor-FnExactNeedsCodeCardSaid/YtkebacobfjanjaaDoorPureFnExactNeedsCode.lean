/- The law FnExactNeedsCode holds of the printed functions: both programs need code for the same names. No conditions. -/
import Derived.Test.YtkebacobfjanjaaDoorPFnExactNeedsCodex2
import Derived.Test.YtkebacobfjanjaaDoorMBase
import Derived.Test.YtkebacobfjanjaaDoorMStr
import Derived.Test.YtkebacobfjanjaaDoorMQuot
import Derived.Test.YtkebacobfjanjaaDoorMCode
import Derived.Test.YtkebacobfjanjaaDoorMDecQ
import Derived.Test.YtkebacobfjanjaaDoorMRead
import Derived.Test.YtkebacobfjanjaaDoorMParts
import Derived.Test.YtkebacobfjanjaaDoorMName
import Derived.Test.YtkebacobfjanjaaDoorMEnc
namespace Go.Proofs.YtkebacobfjanjaaDoor.PLFnExactNeedsCode
open Go.RowKit Go.Proofs.YtkebacobfjanjaaDoor.PFnExactNeedsCode Go.Proofs.YtkebacobfjanjaaDoorW.PrintWords Go.Proofs.YtkebacobfjanjaaDoorW.PrintLast Go.Proofs.YtkebacobfjanjaaDoorW.PrintMore Go.Proofs.YtkebacobfjanjaaDoor.M

theorem spec_text (s : List UInt8) (hl : s.length ≤ 1000000000000) : Ev (fun k => spec_TextValid.f k (S s)) (decide (textOK s)) := by
  simp only [spec_TextValid.f]
  have loop : ∀ (e i : Nat), i + e = s.length → i ≤ 201 → (∀ j (h : j < s.length), j < i → 32 ≤ s[j].toNat ∧ s[j].toNat ≤ 126) → Ev (fun k => spec_TextValid.l0 k (S s) (i : Int)) (decide (textOK s)) := by
    intro e
    induction e with
    | zero =>
      intro i hi h2 hp
      have e1 : decide ((s.length : Int) ≤ 200) = decide (textOK s) := by
        rw [decide_eq_decide]
        constructor
        · intro q
          refine ⟨by omega, fun c hc => ?_⟩
          obtain ⟨j, hj, rfl⟩ := List.mem_iff_getElem.1 hc
          exact hp j hj (by omega)
        · intro q
          have := q.1
          omega
      refine Ev.step (fun k => by rw [spec_TextValid.l0]) ?_
      rw [size_S]
      refine ev_neg (by omega) ?_
      refine Ev.step (fun k => by rw [spec_TextValid.j1]) ?_
      rw [size_S, e1]
      exact ev_neg (by decide) (Ev.now _)
    | succ e ih =>
      intro i hi h2 hp
      have hlt : i < s.length := by omega
      have hg : s.getD i 0 = s[i] := by rw [List.getD_eq_getElem?_getD, List.getElem?_eq_getElem hlt]; rfl
      have w : wrap64 ((i : Int) + 1) = ((i + 1 : Nat) : Int) := by rw [w64 (by omega) (by omega)]; omega
      refine Ev.step (fun k => by rw [spec_TextValid.l0]) ?_
      rw [size_S]
      refine ev_pos (by omega) ?_
      by_cases h200 : i ≤ 200
      · rw [decide_eq_true (show (i : Int) ≤ 200 by omega)]
        refine Ev.step (fun k => by rw [spec_TextValid.j1]) ?_
        simp only [size_S, bt_S, Int.toNat_natCast, hg, w]
        refine ev_pos trivial (ev_pos (by omega) (ev_pos (by omega) ?_))
        by_cases hc : 32 ≤ s[i].toNat ∧ s[i].toNat ≤ 126
        · refine ev_neg (by omega) (ev_neg (by omega) (ih (i + 1) (by omega) (by omega) ?_))
          intro j hj hji
          by_cases q : j = i
          · subst q
            exact hc
          · exact hp j hj (by omega)
        · have e1 : decide (textOK s) = false := decide_eq_false (fun q => hc (q.2 s[i] (List.getElem_mem hlt)))
          rw [e1]
          by_cases h3 : (s[i].toNat : Int) < 32
          · exact ev_pos h3 (Ev.now _)
          · exact ev_neg h3 (ev_pos (by omega) (Ev.now _))
      · rw [decide_eq_false (show ¬ (i : Int) ≤ 200 by omega)]
        have e1 : decide (textOK s) = false := decide_eq_false (fun q => by have := q.1; omega)
        refine Ev.step (fun k => by rw [spec_TextValid.j1]) ?_
        rw [size_S, e1]
        refine ev_neg (by decide) (ev_is ?_)
        rw [decide_eq_false (by omega)]
  exact loop s.length 0 (by omega) (by omega) (fun j _ h => by omega)

theorem spec_trimR (n : Nat) : ∀ s : List UInt8, s.length ≤ n → s.length ≤ 1000000000000 → Ev (fun k => spec_l2Trim.l1 k (S s)) (S (trimR s)) := by
  induction n with
  | zero =>
    intro s h _
    have : s = [] := List.eq_nil_of_length_eq_zero (by omega)
    subst this
    refine Ev.step (fun k => by rw [spec_l2Trim.l1]) ?_
    exact ev_neg (by decide) (Ev.now _)
  | succ n ih =>
    intro s h hl
    rcases List.eq_nil_or_concat s with rfl | ⟨t, c, rfl⟩
    · refine Ev.step (fun k => by rw [spec_l2Trim.l1]) ?_
      exact ev_neg (by decide) (Ev.now _)
    · rw [List.concat_eq_append] at h hl ⊢
      rw [List.length_append] at h hl
      simp only [List.length_cons, List.length_nil] at h hl
      have w : wrap64 (((t.length + 1 : Nat) : Int) - 1) = (t.length : Int) := by rw [w64 (by omega) (by omega)]; omega
      have hg : (t ++ [c]).getD t.length 0 = c := by simp
      have hx : ((t ++ [c]).drop 0).take (t.length - 0) = t := by simp
      refine Ev.step (fun k => by rw [spec_l2Trim.l1]) ?_
      simp only [size_S, List.length_append, List.length_cons, List.length_nil, Nat.zero_add, w, bt_S, Int.toNat_natCast, hg, extract_S, hx]
      rw [trimR_snoc]
      refine ev_pos (by omega) (ev_pos (by omega) (ev_pos (by omega) ?_))
      by_cases hc : (c.toNat : Int) = 32
      · rw [if_pos (show c = 32 from (u8_is (n := 32) (by omega)).1 hc)]
        exact ev_pos hc (ev_pos (by omega) (ih t (by omega) (by omega)))
      · rw [if_neg (fun q => hc (by rw [q]; rfl))]
        exact ev_neg hc (Ev.now _)
theorem spec_trim (s : List UInt8) (hl : s.length ≤ 1000000000000) : Ev (fun k => spec_l2Trim.f k (S s)) (S (trim s)) := by
  simp only [spec_l2Trim.f]
  have j : ∀ t : List UInt8, t.length ≤ 1000000000000 → Ev (fun k => spec_l2Trim.j1 k (S t)) (S (trimR t)) := by
    intro t ht
    refine Ev.step (fun k => by rw [spec_l2Trim.j1]) ?_
    exact spec_trimR t.length t (Nat.le_refl _) ht
  have loop : ∀ (n : Nat) (s : List UInt8), s.length ≤ n → s.length ≤ 1000000000000 → Ev (fun k => spec_l2Trim.l0 k (S s)) (S (trim s)) := by
    intro n
    induction n with
    | zero =>
      intro s h h2
      have : s = [] := List.eq_nil_of_length_eq_zero (by omega)
      subst this
      refine Ev.step (fun k => by rw [spec_l2Trim.l0]) ?_
      exact ev_neg (by decide) (j [] h2)
    | succ n ih =>
      intro s h h2
      cases s with
      | nil =>
        refine Ev.step (fun k => by rw [spec_l2Trim.l0]) ?_
        exact ev_neg (by decide) (j [] h2)
      | cons c r =>
        simp only [List.length_cons] at h h2
        have hg : bt (S (c :: r)) 0 = (c.toNat : Int) := by rw [bt_S]; rfl
        have hx : ((c :: r).drop 1).take (r.length + 1 - 1) = r := by simp
        refine Ev.step (fun k => by rw [spec_l2Trim.l0]) ?_
        simp only [size_S, List.length_cons, hg, extract_S, hx]
        refine ev_pos (by omega) (ev_pos (by omega) ?_)
        have hd : trim (c :: r) = if c = 32 then trim r else trimR (c :: r) := by
          unfold trim trimL
          rw [List.dropWhile_cons]
          by_cases q : c = 32
          · rw [if_pos q, if_pos (by simp [q])]
          · rw [if_neg q, if_neg (by simp [q])]
        rw [hd]
        by_cases hc : (c.toNat : Int) = 32
        · rw [if_pos (show c = 32 from (u8_is (n := 32) (by omega)).1 hc)]
          exact ev_pos hc (ev_pos (by omega) (ih r (by omega) (by omega)))
        · rw [if_neg (fun q => hc (by rw [q]; rfl))]
          exact ev_neg hc (j (c :: r) (by simp; omega))
  exact loop s.length s (Nat.le_refl _) hl

theorem spec_needs (b : List UInt8) (hl : b.length ≤ 1000000000000) : Ev (fun k => spec_NeedsCode.f k (S b)) (needC b) := by
  simp only [spec_NeedsCode.f]
  have fin : hasQ b = false → Ev (fun k => (spec_TextValid.f k (S b)).bind fun t => (if t = true then ((spec_l2Trim.f k (S b)).bind fun u => (if u.toList = (S b).toList then (some (decide (((S b).size : Int) > 120))) else (some true))) else (some true))) (needC b) := by
    intro h
    refine Ev.bind (spec_text b hl) ?_
    unfold needC
    rw [h, Bool.false_or]
    by_cases ht : textOK b
    · rw [decide_eq_true ht]
      refine ev_pos rfl (Ev.bind (spec_trim b hl) ?_)
      rw [toList_S, toList_S, size_S]
      by_cases hr : trim b = b
      · refine ev_pos hr (ev_is ?_)
        have e : decide ((b.length : Int) > 120) = decide (b.length > 120) := by
          rw [decide_eq_decide]
          omega
        rw [decide_eq_true hr, e]
        simp
      · refine ev_neg hr (ev_is ?_)
        rw [decide_eq_false hr]
        simp
    · rw [decide_eq_false ht]
      refine ev_neg (by decide) (ev_is ?_)
      simp
  have loop : ∀ (e i : Nat), i + e = b.length → hasQ b = hasQ (b.drop i) → Ev (fun k => spec_NeedsCode.l0 k (S b) (i : Int)) (needC b) := by
    intro e
    induction e with
    | zero =>
      intro i hi hq
      rw [List.drop_of_length_le (by omega)] at hq
      have w : wrap64 ((i : Int) + 1) = ((i + 1 : Nat) : Int) := by rw [w64 (by omega) (by omega)]; omega
      refine Ev.step (fun k => by rw [spec_NeedsCode.l0]) ?_
      rw [w]
      exact ev_neg (by rw [size_S]; omega) (fin hq)
    | succ e ih =>
      intro i hi hq
      have w : wrap64 ((i : Int) + 1) = ((i + 1 : Nat) : Int) := by rw [w64 (by omega) (by omega)]; omega
      have hlt : i < b.length := by omega
      refine Ev.step (fun k => by rw [spec_NeedsCode.l0]) ?_
      rw [w]
      by_cases h1 : i + 1 < b.length
      · have g0 : b.getD i 0 = b[i] := by rw [List.getD_eq_getElem?_getD, List.getElem?_eq_getElem hlt]; rfl
        have g1 : b.getD (i + 1) 0 = b[i + 1] := by rw [List.getD_eq_getElem?_getD, List.getElem?_eq_getElem h1]; rfl
        rw [drop_cons hlt, drop_cons h1, hasQ] at hq
        have hih : (b[i] == 61 && b[i + 1] == 63) = false → Ev (fun k => spec_NeedsCode.l0 k (S b) ((i + 1 : Nat) : Int)) (needC b) := by
          intro q
          refine ih (i + 1) (by omega) ?_
          rw [q, Bool.false_or] at hq
          rw [drop_cons h1]
          exact hq
        simp only [size_S, bt_S, Int.toNat_natCast, g0, g1]
        refine ev_pos (by omega) (ev_pos (by omega) (ev_pos (by omega) ?_))
        by_cases c1 : (b[i].toNat : Int) = 61
        · have c1' : b[i] = 61 := (u8_is (n := 61) (by omega)).1 c1
          refine ev_pos c1 (ev_pos (by omega) ?_)
          by_cases c2 : (b[i + 1].toNat : Int) = 63
          · have c2' : b[i + 1] = 63 := (u8_is (n := 63) (by omega)).1 c2
            rw [c1', c2'] at hq
            refine ev_pos c2 (ev_is ?_)
            unfold needC
            rw [hq]
            rfl
          · refine ev_neg c2 (hih ?_)
            have : (b[i + 1] == 63) = false := beq_eq_false_iff_ne.2 (fun q => c2 (by rw [q]; rfl))
            rw [this, Bool.and_false]
        · refine ev_neg c1 (hih ?_)
          have : (b[i] == 61) = false := beq_eq_false_iff_ne.2 (fun q => c1 (by rw [q]; rfl))
          rw [this, Bool.false_and]
      · rw [drop_cons hlt, List.drop_of_length_le (by omega)] at hq
        exact ev_neg (by rw [size_S]; omega) (fin hq)
  exact loop b.length 0 (by omega) (by rw [List.drop_zero])

theorem impl_text (s : List UInt8) (hl : s.length ≤ 1000000000000) : Ev (fun k => impl_TextValid.f k (S s)) (decide (textOK s)) := by
  simp only [impl_TextValid.f, size_S]
  have loop : ∀ (e i : Nat), i + e = s.length → (∀ j (h : j < s.length), j < i → 32 ≤ s[j].toNat ∧ s[j].toNat ≤ 126) → Ev (fun k => impl_TextValid.l0 k (S s) (s.length : Int) (i : Int)) (decide (textOK s)) := by
    intro e
    induction e with
    | zero =>
      intro i hi hp
      have e1 : decide ((s.length : Int) ≤ 200) = decide (textOK s) := by
        rw [decide_eq_decide]
        constructor
        · intro q
          refine ⟨by omega, fun c hc => ?_⟩
          obtain ⟨j, hj, rfl⟩ := List.mem_iff_getElem.1 hc
          exact hp j hj (by omega)
        · intro q
          have := q.1
          omega
      refine Ev.step (fun k => by rw [impl_TextValid.l0]) ?_
      rw [size_S, e1]
      exact ev_neg (by omega) (Ev.now _)
    | succ e ih =>
      intro i hi hp
      have hlt : i < s.length := by omega
      have hg : s.getD i 0 = s[i] := by rw [List.getD_eq_getElem?_getD, List.getElem?_eq_getElem hlt]; rfl
      have w : wrap64 ((i : Int) + 1) = ((i + 1 : Nat) : Int) := by rw [w64 (by omega) (by omega)]; omega
      refine Ev.step (fun k => by rw [impl_TextValid.l0]) ?_
      simp only [size_S, bt_S, Int.toNat_natCast, hg, w]
      refine ev_pos (by omega) (ev_pos (by omega) (ev_pos (by omega) ?_))
      by_cases hc : 32 ≤ s[i].toNat ∧ s[i].toNat ≤ 126
      · refine ev_neg (by omega) (ev_neg (by omega) (ih (i + 1) (by omega) ?_))
        intro j hj hji
        by_cases q : j = i
        · subst q
          exact hc
        · exact hp j hj (by omega)
      · have e1 : decide (textOK s) = false := decide_eq_false (fun q => hc (q.2 s[i] (List.getElem_mem hlt)))
        rw [e1]
        by_cases h3 : (s[i].toNat : Int) < 32
        · exact ev_pos h3 (Ev.now _)
        · exact ev_neg h3 (ev_pos (by omega) (Ev.now _))
  exact loop s.length 0 (by omega) (fun j _ h => by omega)
theorem trimL_full {s : List UInt8} (h : s.length ≤ (trimL s).length) : trimL s = s := (List.dropWhile_suffix _).eq_of_length (Nat.le_antisymm (trimL_len s) h)
theorem trimR_full {s : List UInt8} (h : s.length ≤ (trimR s).length) : trimR s = s := by
  have h1 : (s.reverse.dropWhile (· == 32)) = s.reverse := by
    refine (List.dropWhile_suffix _).eq_of_length (Nat.le_antisymm (dropWhile_len _ _) ?_)
    unfold trimR at h
    simpa using h
  unfold trimR
  rw [h1, List.reverse_reverse]
theorem trimB_trim (s : List UInt8) : Lib.trimB s 32 = s ↔ trim s = s := by
  have e : Lib.trimB s 32 = trimL (trimR s) := rfl
  have l1 := trimL_len (trimR s)
  have l2 := trimR_len s
  have l3 := trimR_len (trimL s)
  have l4 := trimL_len s
  rw [e]
  unfold trim
  constructor
  · intro h
    have hl := congrArg List.length h
    have r1 : trimR s = s := trimR_full (by omega)
    rw [r1] at h
    rw [h, r1]
  · intro h
    have hl := congrArg List.length h
    have r1 : trimL s = s := trimL_full (by omega)
    rw [r1] at h
    rw [h, r1]
theorem index_ge0 : ∀ s : List UInt8, decide (0 ≤ Lib.index s [61, 63]) = hasQ s
  | [] => rfl
  | [a] => by
    have : ([61, 63] : List UInt8).isPrefixOf [a] = false := by simp [List.isPrefixOf]
    rw [Lib.index, this]
    rfl
  | a :: b :: r => by
    have ih := index_ge0 (b :: r)
    have hge := Lib.index_ge (b :: r) [61, 63]
    have e : ([61, 63] : List UInt8).isPrefixOf (a :: b :: r) = (a == 61 && b == 63) := by
      simp only [List.isPrefixOf, Bool.and_true]
      rw [Bool.beq_comm (a := 61), Bool.beq_comm (a := 63)]
    rw [Lib.index, e, hasQ, ← ih]
    cases (a == 61 && b == 63) with
    | true => rfl
    | false =>
      rw [if_neg (by decide), Bool.false_or, decide_eq_decide]
      by_cases q : Lib.index (b :: r) [61, 63] = -1
      · rw [if_pos (by simp [q]), q]
      · rw [if_neg (by simp [q])]
        omega
theorem impl_needs (b : List UInt8) (hl : b.length ≤ 2000000000) : Ev (fun k => impl_NeedsCode.f k (S b)) (needC b) := by
  simp only [impl_NeedsCode.f]
  refine Ev.bind (impl_text b (by omega)) ?_
  have hc : strings_Contains.f (S b) (⟨#[61, 63]⟩ : ByteArray) = some (hasQ b) := by
    unfold strings_Contains.f
    rw [if_pos (by rw [size_S]; omega)]
    exact congrArg some (index_ge0 b)
  have ht : strings_Trim.f (S b) (⟨#[32]⟩ : ByteArray) = some (S (Lib.trimB b 32)) := by
    unfold strings_Trim.f
    rw [if_pos ⟨by rw [size_S]; omega, rfl, by decide⟩]
    rfl
  rw [ht, hc]
  unfold needC
  by_cases h1 : textOK b
  · rw [decide_eq_true h1]
    refine ev_pos rfl ?_
    simp only [Option.bind_some, toList_S, size_S]
    by_cases h2 : trim b = b
    · rw [decide_eq_true h2]
      refine ev_pos ((trimB_trim b).2 h2) ?_
      have e : decide ((b.length : Int) > 120) = decide (b.length > 120) := by
        rw [decide_eq_decide]
        omega
      cases h3 : hasQ b with
      | true => exact ev_pos rfl (Ev.now _)
      | false => exact ev_neg (by decide) (ev_is (by rw [e]; simp))
    · rw [decide_eq_false h2]
      refine ev_neg (fun q => h2 ((trimB_trim b).1 q)) (ev_is ?_)
      simp
  · rw [decide_eq_false h1]
    refine ev_neg (by decide) (ev_is ?_)
    simp

theorem FnExactNeedsCode : laws_FnExactNeedsCode.Pure := by
  intro a0 _
  obtain ⟨s, rfl⟩ := ex_S a0
  refine Ev.rounds ?_
  simp only [laws_FnExactNeedsCode.f]
  by_cases hl : ((S s).size : Int) > 1048576
  · exact ev_pos hl (Ev.now _)
  have hs : s.length ≤ 1048576 := by rw [size_S] at hl; omega
  refine ev_neg hl ?_
  refine Ev.bind (spec_needs s (by omega)) ?_
  refine Ev.bind (impl_needs s (by omega)) ?_
  exact ev_neg (by simp) (Ev.now _)

end Go.Proofs.YtkebacobfjanjaaDoor.PLFnExactNeedsCode
namespace Go.Proofs.YtkebacobfjanjaaDoor.Pure
open Go.Proofs.YtkebacobfjanjaaDoor.PFnExactNeedsCode
theorem FnExactNeedsCode : laws_FnExactNeedsCode.Pure := PLFnExactNeedsCode.FnExactNeedsCode
end Go.Proofs.YtkebacobfjanjaaDoor.Pure
