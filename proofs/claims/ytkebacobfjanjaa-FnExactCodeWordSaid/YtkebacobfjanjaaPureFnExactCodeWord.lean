/- The law FnExactCodeWord holds of the printed functions: both programs' coded words agree for all bytes. No conditions. -/
import Derived.Test.YtkebacobfjanjaaPFnExactCodeWordx2
import Derived.Test.YtkebacobfjanjaaMBase
import Derived.Test.YtkebacobfjanjaaMStr
import Derived.Test.YtkebacobfjanjaaMQuot
import Derived.Test.YtkebacobfjanjaaMCode
namespace Go.Proofs.Ytkebacobfjanjaa.PLFnExactCodeWord
open Go.RowKit Go.Proofs.Ytkebacobfjanjaa.PFnExactCodeWord Go.Proofs.YtkebacobfjanjaaW.PrintWords Go.Proofs.YtkebacobfjanjaaW.PrintLast Go.Proofs.YtkebacobfjanjaaW.PrintMore Go.Proofs.Ytkebacobfjanjaa.M

theorem spec_hex (c : UInt8) : spec_l5Hex.f (c.toNat : Int) = some (S (hex3 c)) := by
  have hc := c.toNat_lt
  unfold spec_l5Hex.f
  have a : bits .and .u8 (c.toNat : Int) 15 = ((c.toNat % 16 : Nat) : Int) := by
    rw [u8_and15 _ (by omega) (by omega)]
    omega
  have b : ((c.toNat : Int) / 16) = ((c.toNat / 16 : Nat) : Int) := by omega
  have e1 : ((((c.toNat / 16 : Nat) : Int) + 1) % 256) = (((c.toNat / 16) + 1 : Nat) : Int) := by omega
  have e2 : ((((c.toNat % 16 : Nat) : Int) + 1) % 256) = (((c.toNat % 16) + 1 : Nat) : Int) := by omega
  have x1 := extract_digit (c.toNat / 16) (by omega)
  have x2 := extract_digit (c.toNat % 16) (by omega)
  simp only [a, b, e1, e2, Int.toNat_natCast, x1, x2, mk_S, append_S, size_S]
  rw [if_pos (by omega), if_pos (by omega), if_pos (by omega), if_pos (by simp), if_pos (by omega), if_pos (by omega), if_pos (by omega), if_pos (by simp)]
  rfl


theorem spec_letter (n : Int) : spec_l1Letter.f n = some (isAlpha n || isNum n) := by
  unfold spec_l1Letter.f isAlpha isNum
  by_cases a : n ≥ 97
  · rw [if_pos a]
    by_cases b : n ≤ 122
    · rw [if_pos b]
      have : (97 ≤ n ∧ n ≤ 122) := ⟨a, b⟩
      simp [this]
    · rw [if_neg b, if_pos (by omega), if_neg (by omega), if_pos (by omega)]
      have h1 : ¬ ((97 ≤ n ∧ n ≤ 122) ∨ (65 ≤ n ∧ n ≤ 90)) := by omega
      have h3 : ¬ n ≤ 57 := by omega
      simp [h1, h3]
  · rw [if_neg a]
    by_cases c : n ≥ 65
    · rw [if_pos c]
      by_cases d : n ≤ 90
      · rw [if_pos d]
        have : (97 ≤ n ∧ n ≤ 122) ∨ (65 ≤ n ∧ n ≤ 90) := .inr ⟨c, d⟩
        simp [this]
      · rw [if_neg d, if_pos (by omega)]
        have h1 : ¬ ((97 ≤ n ∧ n ≤ 122) ∨ (65 ≤ n ∧ n ≤ 90)) := by omega
        have h3 : ¬ n ≤ 57 := by omega
        simp [h1, h3]
    · rw [if_neg c]
      have h1 : ¬ ((97 ≤ n ∧ n ≤ 122) ∨ (65 ≤ n ∧ n ≤ 90)) := by omega
      by_cases d : n ≥ 48
      · rw [if_pos d]
        have : 48 ≤ n := d
        simp [h1, this]
      · rw [if_neg d]
        have : ¬ (48 ≤ n ∧ n ≤ 57) := by omega
        simp [h1, this]

theorem self_str (c : UInt8) : strOfNums ([(c.toNat : Int)] : List Int) = S [c] := by
  rw [strOfNums_S]
  simp

theorem spec_codeB (c : UInt8) : spec_l6Byte.f (c.toNat : Int) = some (S (codeB c)) := by
  unfold spec_l6Byte.f
  simp only [spec_letter, spec_hex, self_str, Option.bind_some]
  unfold codeB
  by_cases h32 : (c.toNat : Int) = 32
  · rw [if_pos h32]
    have hn : c.toNat = 32 := by omega
    have hs : selfC (c.toNat : Int) = false := by rw [h32]; rfl
    rw [hs, if_neg Bool.false_ne_true, if_pos hn]
    rfl
  · rw [if_neg h32]
    by_cases ha : (isAlpha (c.toNat : Int) || isNum (c.toNat : Int)) = true
    · rw [if_pos ha]
      have hs : selfC (c.toNat : Int) = true := by unfold selfC; simp [ha]
      rw [if_pos hs]
    · rw [if_neg ha]
      by_cases h45 : (c.toNat : Int) = 45
      · rw [if_pos h45]
        have hs : selfC (c.toNat : Int) = true := by unfold selfC; simp [h45]
        rw [if_pos hs]
      · rw [if_neg h45]
        by_cases h46 : (c.toNat : Int) = 46
        · rw [if_pos h46]
          have hs : selfC (c.toNat : Int) = true := by unfold selfC; simp [h46]
          rw [if_pos hs]
        · rw [if_neg h46]
          have hs : ¬ selfC (c.toNat : Int) = true := by
            unfold selfC
            have ha' : (isAlpha (c.toNat : Int) || isNum (c.toNat : Int)) = false := by simpa using ha
            rw [ha', decide_eq_false h45, decide_eq_false h46]
            simp
          rw [if_neg hs, if_neg (by omega)]

theorem spec_codeL (b : List UInt8) (hb : b.length ≤ 100000) : Ev (fun k => spec_l6Code.f k (S b)) (S (codeL b)) := by
  simp only [spec_l6Code.f]
  have : ∀ (e i : Nat), i + e = b.length → Ev (fun k => spec_l6Code.l0 k (S b) (S (codeL (b.take i))) (i : Int)) (S (codeL b)) := by
    intro e
    induction e with
    | zero =>
      intro i hi
      rw [List.take_of_length_le (by omega)]
      refine Ev.step (fun k => by rw [spec_l6Code.l0]) ?_
      rw [size_S]
      exact ev_neg (by omega) (Ev.now _)
    | succ e ih =>
      intro i hi
      have hlt : i < b.length := by omega
      have hg : b.getD i 0 = b[i] := by rw [List.getD_eq_getElem?_getD, List.getElem?_eq_getElem hlt]; rfl
      have hih := ih (i + 1) (by omega)
      have hx := (codeL_length (b.take i)).2
      have hq := codeB_length b[i]
      rw [List.length_take] at hx
      rw [List.take_succ_eq_append_getElem hlt, codeL_snoc] at hih
      have w : wrap64 ((i : Int) + 1) = ((i + 1 : Nat) : Int) := by rw [w64 (by omega) (by omega)]; omega
      refine Ev.step (fun k => by rw [spec_l6Code.l0]) ?_
      simp only [size_S, bt_S, Int.toNat_natCast, hg, w]
      clear w
      refine ev_pos (by omega) (ev_pos (by omega) ?_)
      refine ev_bind0 (spec_codeB b[i]) ?_
      simp only [size_S, append_S]
      exact ev_pos (by omega) hih
  exact this b.length 0 (by omega)

theorem spec_codeR (b : List UInt8) : Ev (fun k => spec_CodeWord.f k (S b)) (codeR b) := by
  simp only [spec_CodeWord.f, size_S]
  have hT : ¬ codeOK b → Ev (fun k => spec_CodeWord.j0 k (S b) true) (codeR b) := by
    intro h
    unfold codeR
    rw [if_neg h]
    refine Ev.step (fun k => by rw [spec_CodeWord.j0]) ?_
    exact ev_pos rfl (Ev.now _)
  by_cases c1 : (b.length : Int) < 1
  · refine ev_pos c1 (hT (fun h => ?_))
    have := h.1
    omega
  refine ev_neg c1 ?_
  by_cases c2 : (b.length : Int) > 40
  · rw [decide_eq_true c2]
    refine hT (fun h => ?_)
    have := h.2.1
    omega
  rw [decide_eq_false c2]
  have hl := codeL_length b
  have hw := codeW_length b
  refine Ev.step (fun k => by rw [spec_CodeWord.j0]) ?_
  refine ev_neg (by simp) ?_
  refine Ev.bind (spec_codeL b (by omega)) ?_
  have e1 : (⟨#[61, 63, 117, 116, 102, 45, 56, 63, 113, 63]⟩ : ByteArray) ++ S (codeL b) ++ (⟨#[63, 61]⟩ : ByteArray) = S (codeW b) := by
    show S codePre ++ S (codeL b) ++ S [63, 61] = _
    rw [append_S, append_S]
    rfl
  have e2 : ((⟨#[61, 63, 117, 116, 102, 45, 56, 63, 113, 63]⟩ : ByteArray) ++ S (codeL b)).size = 10 + (codeL b).length := by
    show (S codePre ++ S (codeL b)).size = _
    rw [append_S, size_S, List.length_append]
    rfl
  simp only [e1, e2, size_S]
  refine ev_pos (by omega) (ev_pos (by omega) ?_)
  unfold codeR
  by_cases c3 : ((codeW b).length : Int) > 40
  · rw [if_neg (fun h : codeOK b => by have := h.2.2; omega)]
    exact ev_pos c3 (Ev.now _)
  · rw [if_pos (show codeOK b from ⟨by omega, by omega, by omega⟩)]
    exact ev_neg c3 (Ev.now _)

theorem impl_hex (c : UInt8) : impl_hexByte.f (c.toNat : Int) = some (S (hex3 c)) := by
  have hc := c.toNat_lt
  unfold impl_hexByte.f
  have a : bits .and .u8 (c.toNat : Int) 15 = ((c.toNat % 16 : Nat) : Int) := by
    rw [u8_and15 _ (by omega) (by omega)]
    omega
  have b : ((c.toNat : Int) / 16) = ((c.toNat / 16 : Nat) : Int) := by omega
  have e1 : ((((c.toNat / 16 : Nat) : Int) + 1) % 256) = (((c.toNat / 16) + 1 : Nat) : Int) := by omega
  have e2 : ((((c.toNat % 16 : Nat) : Int) + 1) % 256) = (((c.toNat % 16) + 1 : Nat) : Int) := by omega
  have x1 := extract_digit (c.toNat / 16) (by omega)
  have x2 := extract_digit (c.toNat % 16) (by omega)
  simp only [a, b, e1, e2, Int.toNat_natCast, x1, x2, mk_S, append_S, size_S]
  rw [if_pos (by omega), if_pos (by omega), if_pos (by omega), if_pos (by simp), if_pos (by omega), if_pos (by omega), if_pos (by omega), if_pos (by simp)]
  rfl


theorem impl_alpha (n : Int) : impl_isLetter.f n = some (isAlpha n) := by
  unfold impl_isLetter.f isAlpha
  by_cases a : n ≥ 97
  · rw [if_pos a]
    by_cases b : n ≤ 122
    · rw [if_pos b]
      have : (97 ≤ n ∧ n ≤ 122) := ⟨a, b⟩
      simp [this]
    · rw [if_neg b, if_pos (by omega)]
      congr 1
      rw [decide_eq_decide]
      omega
  · rw [if_neg a]
    by_cases c : n ≥ 65
    · rw [if_pos c]
      congr 1
      rw [decide_eq_decide]
      omega
    · rw [if_neg c]
      have h1 : ¬ ((97 ≤ n ∧ n ≤ 122) ∨ (65 ≤ n ∧ n ≤ 90)) := by omega
      simp [h1]

theorem impl_num (n : Int) : impl_isDigit.f n = some (isNum n) := by
  unfold impl_isDigit.f isNum
  by_cases a : n ≥ 48
  · rw [if_pos a]
    congr 1
    rw [decide_eq_decide]
    omega
  · rw [if_neg a]
    have : ¬ (48 ≤ n ∧ n ≤ 57) := by omega
    simp [this]

theorem impl_codeB (c : UInt8) : Ev (fun k => impl_codeByte.f k (c.toNat : Int)) (S (codeB c)) := by
  simp only [impl_codeByte.f, impl_alpha, impl_num, Option.bind_some]
  have hj : ∀ s : Bool, s = selfC (c.toNat : Int) → Ev (fun k => impl_codeByte.j0 k (c.toNat : Int) s) (S (codeB c)) := by
    intro s hs
    refine Ev.step (fun k => by rw [impl_codeByte.j0]) ?_
    rw [self_str]
    unfold codeB
    rw [← hs]
    cases s with
    | true => exact ev_pos rfl (ev_is (by rw [if_pos rfl]))
    | false =>
      refine ev_neg (by simp) ?_
      rw [if_neg Bool.false_ne_true]
      by_cases h32 : (c.toNat : Int) = 32
      · refine ev_pos h32 (ev_is ?_)
        rw [if_pos (by omega)]
        rfl
      · refine ev_neg h32 ?_
        refine ev_bind0 (impl_hex c) (ev_is ?_)
        rw [if_neg (by omega)]
  by_cases h1 : isAlpha (c.toNat : Int) = true
  · refine ev_pos h1 (hj true ?_)
    unfold selfC
    simp [h1]
  refine ev_neg h1 ?_
  by_cases h2 : isNum (c.toNat : Int) = true
  · refine ev_pos h2 (hj true ?_)
    unfold selfC
    simp [h2]
  refine ev_neg h2 ?_
  have h1' : isAlpha (c.toNat : Int) = false := by simpa using h1
  have h2' : isNum (c.toNat : Int) = false := by simpa using h2
  by_cases h45 : (c.toNat : Int) = 45
  · refine ev_pos h45 (hj true ?_)
    unfold selfC
    rw [decide_eq_true h45]
    simp
  refine ev_neg h45 (hj _ ?_)
  unfold selfC
  rw [h1', h2', decide_eq_false h45]
  rw [Bool.eq_iff_iff]
  simp

theorem impl_codeW (b : List UInt8) (hb : b.length ≤ 100000) : Ev (fun k => impl_codeWord.f k (S b)) (S (codeW b)) := by
  simp only [impl_codeWord.f, size_S]
  have : ∀ (e i : Nat), i + e = b.length → Ev (fun k => impl_codeWord.l0 k (S b) (S (codePre ++ codeL (b.take i))) (b.length : Int) (i : Int)) (S (codeW b)) := by
    intro e
    induction e with
    | zero =>
      intro i hi
      rw [List.take_of_length_le (by omega)]
      have hx := (codeL_length b).2
      refine Ev.step (fun k => by rw [impl_codeWord.l0]) ?_
      have hpl : codePre.length = 10 := rfl
      simp only [size_S, mk_S, append_S, List.length_append]
      exact ev_neg (by omega) (ev_pos (by omega) (Ev.now _))
    | succ e ih =>
      intro i hi
      have hlt : i < b.length := by omega
      have hg : b.getD i 0 = b[i] := by rw [List.getD_eq_getElem?_getD, List.getElem?_eq_getElem hlt]; rfl
      have hih := ih (i + 1) (by omega)
      have hx := (codeL_length (b.take i)).2
      have hq := codeB_length b[i]
      rw [List.length_take] at hx
      rw [List.take_succ_eq_append_getElem hlt, codeL_snoc, ← List.append_assoc] at hih
      have w : wrap64 ((i : Int) + 1) = ((i + 1 : Nat) : Int) := by rw [w64 (by omega) (by omega)]; omega
      have hpl : codePre.length = 10 := rfl
      refine Ev.step (fun k => by rw [impl_codeWord.l0]) ?_
      simp only [size_S, bt_S, Int.toNat_natCast, hg, w]
      clear w
      refine ev_pos (by omega) (ev_pos (by omega) (ev_pos (by omega) ?_))
      refine Ev.bind (impl_codeB b[i]) ?_
      simp only [size_S, append_S, List.length_append]
      exact ev_pos (by omega) hih
  exact this b.length 0 (by omega)

theorem impl_codeR (b : List UInt8) : Ev (fun k => impl_CodeWord.f k (S b)) (codeR b) := by
  simp only [impl_CodeWord.f, size_S]
  unfold codeR
  by_cases c1 : (b.length : Int) = 0
  · rw [if_neg (fun h : codeOK b => by have := h.1; omega)]
    exact ev_pos c1 (Ev.now _)
  refine ev_neg c1 ?_
  by_cases c2 : (b.length : Int) > 40
  · rw [if_neg (fun h : codeOK b => by have := h.2.1; omega)]
    exact ev_pos c2 (Ev.now _)
  refine ev_neg c2 ?_
  refine Ev.bind (impl_codeW b (by omega)) ?_
  simp only [size_S]
  by_cases c3 : ((codeW b).length : Int) > 40
  · rw [if_neg (fun h : codeOK b => by have := h.2.2; omega)]
    exact ev_pos c3 (Ev.now _)
  · rw [if_pos (show codeOK b from ⟨by omega, by omega, by omega⟩)]
    refine ev_neg c3 ?_
    refine Ev.bind (impl_codeW b (by omega)) ?_
    exact Ev.now _

theorem FnExactCodeWord : laws_FnExactCodeWord.Pure := by
  intro a0 _
  obtain ⟨b, rfl⟩ := ex_S a0
  refine Ev.rounds ?_
  simp only [laws_FnExactCodeWord.f]
  by_cases hl : ((S b).size : Int) > 1048576
  · exact ev_pos hl (Ev.now _)
  refine ev_neg hl ?_
  refine Ev.bind (spec_codeR b) ?_
  refine Ev.bind (impl_codeR b) ?_
  exact ev_pos rfl (ev_neg (by simp) (Ev.now _))

end Go.Proofs.Ytkebacobfjanjaa.PLFnExactCodeWord
namespace Go.Proofs.Ytkebacobfjanjaa.Pure
open Go.Proofs.Ytkebacobfjanjaa.PFnExactCodeWord
theorem FnExactCodeWord : laws_FnExactCodeWord.Pure := PLFnExactCodeWord.FnExactCodeWord
end Go.Proofs.Ytkebacobfjanjaa.Pure
