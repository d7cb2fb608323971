/- The law FnExactEncodeQuoted holds of the printed functions: both programs' quoted lines agree for all bytes. No conditions. -/
import Derived.Test.YtenplenjpliciaaPFnExactEncodeQuotedx5
import Derived.Test.YtenplenjpliciaaMBase
import Derived.Test.YtenplenjpliciaaMStr
import Derived.Test.YtenplenjpliciaaMQuot
namespace Go.Proofs.Ytenplenjpliciaa.PLFnExactEncodeQuoted
open Go.RowKit Go.Proofs.Ytenplenjpliciaa.PFnExactEncodeQuoted Go.Proofs.YtenplenjpliciaaW.PrintWords Go.Proofs.YtenplenjpliciaaW.PrintLast Go.Proofs.YtenplenjpliciaaW.PrintMore Go.Proofs.Ytenplenjpliciaa.M

theorem spec_hex (c : UInt8) : spec_l5Hex.f (c.toNat : Int) = some (S (hex3 c)) := by
  have hc := c.toNat_lt
  unfold spec_l5Hex.f
  have a : bits .and .u8 (c.toNat : Int) 15 = ((c.toNat % 16 : Nat) : Int) := by
    rw [u8_and15 _ (by omega) (by omega)]
    omega
  have b : ((c.toNat : Int) / 16) = ((c.toNat / 16 : Nat) : Int) := by omega
  have e1 : ((((c.toNat / 16 : Nat) : Int) + 1) % 256) = (((c.toNat / 16) + 1 : Nat) : Int) := by omega
  have e2 : ((((c.toNat % 16 : Nat) : Int) + 1) % 256) = (((c.toNat % 16) + 1 : Nat) : Int) := by omega
  have x1 := extract_digit (c.toNat / 16) (by omega)
  have x2 := extract_digit (c.toNat % 16) (by omega)
  simp only [a, b, e1, e2, Int.toNat_natCast, x1, x2, mk_S, append_S, size_S]
  rw [if_pos (by omega), if_pos (by omega), if_pos (by omega), if_pos (by simp), if_pos (by omega), if_pos (by omega), if_pos (by omega), if_pos (by simp)]
  rfl

theorem spec_byte (c : UInt8) (last : Bool) : spec_l5Byte.f (c.toNat : Int) last = some (S (quoteB c last)) := by
  have hc := c.toNat_lt
  have hself : strOfNums ([(c.toNat : Int)] : List Int) = S [c] := by
    rw [strOfNums_S]
    simp
  unfold spec_l5Byte.f quoteB plainQ
  simp only [spec_hex, hself, Option.bind_some]
  by_cases h1 : (c.toNat : Int) ≥ 33
  · rw [if_pos h1]
    by_cases h2 : (c.toNat : Int) ≤ 126
    · rw [if_pos h2]
      by_cases h3 : (c.toNat : Int) = 61
      · rw [if_pos h3, if_neg (by omega)]
        have h3' : c.toNat = 61 := by omega
        simp [h3']
      · rw [if_neg h3]
        have : 33 ≤ c.toNat ∧ c.toNat ≤ 126 ∧ c.toNat ≠ 61 := by omega
        simp [this]
    · rw [if_neg h2, if_neg (by omega)]
      have a : ¬ (33 ≤ c.toNat ∧ c.toNat ≤ 126 ∧ c.toNat ≠ 61) := by omega
      have b : ¬ c.toNat = 32 := by omega
      simp [a, b]
  · rw [if_neg h1]
    have a : ¬ (33 ≤ c.toNat ∧ c.toNat ≤ 126 ∧ c.toNat ≠ 61) := by omega
    by_cases h3 : (c.toNat : Int) = 32
    · rw [if_pos h3]
      have h3' : c.toNat = 32 := by omega
      cases last <;> simp [h3']
    · rw [if_neg h3]
      have b : ¬ c.toNat = 32 := by omega
      simp [a, b]

theorem spec_quot_loop (b : List UInt8) (hb : b.length ≤ 300) : ∀ (e i : Nat) (outs : List (List UInt8)) (line : List UInt8), i + e = b.length → outs.length ≤ i → line.length ≤ 42 →
    Ev (fun k => spec_EncodeQuoted.l0 k (S b) (SL outs) (S line) (i : Int)) (SL (outs ++ encQ (b.drop i) line), true) := by
  intro e
  induction e with
  | zero =>
    intro i outs line hi ho hl
    refine Ev.step (fun k => by rw [spec_EncodeQuoted.l0]) ?_
    simp only [size_S, SL_length]
    refine ev_neg (by omega) (ev_pos (by omega) ?_)
    rw [List.drop_of_length_le (by omega), SL_one, SL_append]
    exact Ev.now _
  | succ e ih =>
    intro i outs line hi ho hl
    have hlt : i < b.length := by omega
    have w : wrap64 ((i : Int) + 1) = ((i + 1 : Nat) : Int) := by rw [w64 (by omega) (by omega)]; omega
    refine Ev.step (fun k => by rw [spec_EncodeQuoted.l0]) ?_
    simp only [size_S, SL_length, w, bt_S, Int.toNat_natCast, mk_S, append_S, SL_one, SL_append]
    have hg : b.getD i 0 = b[i] := by rw [List.getD_eq_getElem?_getD, List.getElem?_eq_getElem hlt]; rfl
    rw [drop_cons hlt]
    simp only [hg]
    refine ev_pos (by omega) (ev_pos (by omega) ?_)
    by_cases c10 : ((b[i]).toNat : Int) = 10
    · refine ev_pos c10 (ev_pos (by omega) ?_)
      have := ih (i + 1) (outs ++ [line]) [] (by omega) (by simp; omega) (by simp)
      have e1 : encQ (b[i] :: b.drop (i + 1)) line = line :: encQ (b.drop (i + 1)) [] := by
        rw [encQ, if_pos (by omega)]
      rw [e1]
      simpa using this
    refine ev_neg c10 ?_
    -- what stands for the byte, whether it is the last of its line or not
    have step : ∀ last, last = lastQ (b.drop (i + 1)) →
        Ev (fun k => if wrap64 ((line.length : Int) + ((quoteB b[i] last).length : Int)) > 39 then
            (if line.length + 1 ≤ 9223372036854775807 then (if outs.length < 8796093022208 then (if 0 + (quoteB b[i] last).length ≤ 9223372036854775807 then
              spec_EncodeQuoted.l0 k (S b) (SL (outs ++ [line ++ [61]])) (S ([] ++ quoteB b[i] last)) ((i + 1 : Nat) : Int) else none) else none) else none)
            else (if line.length + (quoteB b[i] last).length ≤ 9223372036854775807 then spec_EncodeQuoted.l0 k (S b) (SL outs) (S (line ++ quoteB b[i] last)) ((i + 1 : Nat) : Int) else none))
          (SL (outs ++ encQ (b[i] :: b.drop (i + 1)) line), true) := by
      intro last hlast
      obtain ⟨q1, q2⟩ := quoteB_length b[i] last
      have w2 : wrap64 ((line.length : Int) + ((quoteB b[i] last).length : Int)) = ((line.length + (quoteB b[i] last).length : Nat) : Int) := by rw [w64 (by omega) (by omega)]; omega
      rw [w2]
      by_cases c39 : line.length + (quoteB b[i] last).length > 39
      · refine ev_pos (by omega) (ev_pos (by omega) (ev_pos (by omega) (ev_pos (by omega) ?_)))
        have := ih (i + 1) (outs ++ [line ++ [61]]) (quoteB b[i] last) (by omega) (by simp; omega) (by omega)
        have e1 : encQ (b[i] :: b.drop (i + 1)) line = (line ++ [61]) :: encQ (b.drop (i + 1)) (quoteB b[i] last) := by
          rw [encQ, if_neg (by omega), ← hlast, if_pos c39]
        rw [e1]
        simpa using this
      · refine ev_neg (by omega) (ev_pos (by omega) ?_)
        have := ih (i + 1) outs (line ++ quoteB b[i] last) (by omega) (by omega) (by simp; omega)
        have e1 : encQ (b[i] :: b.drop (i + 1)) line = encQ (b.drop (i + 1)) (line ++ quoteB b[i] last) := by
          rw [encQ, if_neg (by omega), ← hlast, if_neg c39]
        rw [e1]
        exact this
    by_cases hend : ((i + 1 : Nat) : Int) = (b.length : Int)
    · refine ev_pos hend ?_
      refine ev_bind0 (spec_byte b[i] true) ?_
      simp only [size_S, append_S]
      exact step true (by rw [List.drop_of_length_le (by omega)]; rfl)
    · refine ev_neg hend (ev_pos (by omega) (ev_pos (by omega) ?_))
      have hlt2 : i + 1 < b.length := by omega
      have hg2 : b.getD (i + 1) 0 = b[i + 1] := by rw [List.getD_eq_getElem?_getD, List.getElem?_eq_getElem hlt2]; rfl
      rw [hg2]
      refine ev_bind0 (spec_byte b[i] _) ?_
      simp only [size_S, append_S]
      refine step _ ?_
      rw [drop_cons hlt2]
      show _ = decide _
      rw [Bool.eq_iff_iff]
      simp
      omega

theorem spec_quot (b : List UInt8) : Ev (fun k => spec_EncodeQuoted.f k (S b)) (quotR b) := by
  simp only [spec_EncodeQuoted.f, size_S]
  unfold quotR
  by_cases h : b.length > 300
  · rw [if_pos h]
    exact ev_pos (by omega) (Ev.now _)
  · rw [if_neg h]
    refine ev_neg (by omega) ?_
    have := spec_quot_loop b (by omega) b.length 0 [] [] (by omega) (by simp) (by simp)
    rw [List.drop_zero, List.nil_append] at this
    exact this

theorem impl_hex (c : UInt8) : impl_hexByte.f (c.toNat : Int) = some (S (hex3 c)) := by
  have hc := c.toNat_lt
  unfold impl_hexByte.f
  have a : bits .and .u8 (c.toNat : Int) 15 = ((c.toNat % 16 : Nat) : Int) := by
    rw [u8_and15 _ (by omega) (by omega)]
    omega
  have b : ((c.toNat : Int) / 16) = ((c.toNat / 16 : Nat) : Int) := by omega
  have e1 : ((((c.toNat / 16 : Nat) : Int) + 1) % 256) = (((c.toNat / 16) + 1 : Nat) : Int) := by omega
  have e2 : ((((c.toNat % 16 : Nat) : Int) + 1) % 256) = (((c.toNat % 16) + 1 : Nat) : Int) := by omega
  have x1 := extract_digit (c.toNat / 16) (by omega)
  have x2 := extract_digit (c.toNat % 16) (by omega)
  simp only [a, b, e1, e2, Int.toNat_natCast, x1, x2, mk_S, append_S, size_S]
  rw [if_pos (by omega), if_pos (by omega), if_pos (by omega), if_pos (by simp), if_pos (by omega), if_pos (by omega), if_pos (by omega), if_pos (by simp)]
  rfl

theorem impl_quot_loop (b : List UInt8) (hb : b.length ≤ 300) : ∀ (e i : Nat) (outs : List (List UInt8)) (line : List UInt8), i + e = b.length → outs.length ≤ i → line.length ≤ 42 →
    Ev (fun k => impl_EncodeQuoted.l0 k (S b) (SL outs) (S line) (b.length : Int) (i : Int)) (SL (outs ++ encQ (b.drop i) line), true) := by
  intro e
  induction e with
  | zero =>
    intro i outs line hi ho hl
    refine Ev.step (fun k => by rw [impl_EncodeQuoted.l0]) ?_
    simp only [size_S, SL_length]
    refine ev_neg (by omega) (ev_pos (by omega) ?_)
    rw [List.drop_of_length_le (by omega), SL_one, SL_append]
    exact Ev.now _
  | succ e ih =>
    intro i outs line hi ho hl
    have hlt : i < b.length := by omega
    have w : wrap64 ((i : Int) + 1) = ((i + 1 : Nat) : Int) := by rw [w64 (by omega) (by omega)]; omega
    have hg : b.getD i 0 = b[i] := by rw [List.getD_eq_getElem?_getD, List.getElem?_eq_getElem hlt]; rfl
    have hone : (S b).extract i (i + 1) = S [b[i]] := by
      rw [extract_S, Nat.add_sub_cancel_left, take_one hlt]
    -- the byte's own text, and what follows
    have step : ∀ (last : Bool) (own : List UInt8), last = lastQ (b.drop (i + 1)) → own = quoteB b[i] last →
        Ev (fun k => if wrap64 ((line.length : Int) + (own.length : Int)) > 39 then
            (if line.length + 1 ≤ 9223372036854775807 then (if outs.length < 8796093022208 then (if 0 + own.length ≤ 9223372036854775807 then
              impl_EncodeQuoted.l0 k (S b) (SL (outs ++ [line ++ [61]])) (S ([] ++ own)) (b.length : Int) ((i + 1 : Nat) : Int) else none) else none) else none)
            else (if line.length + own.length ≤ 9223372036854775807 then impl_EncodeQuoted.l0 k (S b) (SL outs) (S (line ++ own)) (b.length : Int) ((i + 1 : Nat) : Int) else none))
          (SL (outs ++ encQ (b[i] :: b.drop (i + 1)) line), true) ∨ b[i].toNat = 10 := by
      intro last own hlast hown
      by_cases c10 : b[i].toNat = 10
      · exact .inr c10
      left
      obtain ⟨q1, q2⟩ := quoteB_length b[i] last
      rw [← hown] at q1 q2
      have w2 : wrap64 ((line.length : Int) + (own.length : Int)) = ((line.length + own.length : Nat) : Int) := by rw [w64 (by omega) (by omega)]; omega
      rw [w2]
      by_cases c39 : line.length + own.length > 39
      · refine ev_pos (by omega) (ev_pos (by omega) (ev_pos (by omega) (ev_pos (by omega) ?_)))
        have := ih (i + 1) (outs ++ [line ++ [61]]) own (by omega) (by simp; omega) (by omega)
        have e1 : encQ (b[i] :: b.drop (i + 1)) line = (line ++ [61]) :: encQ (b.drop (i + 1)) own := by
          rw [encQ, if_neg (by omega), ← hlast, ← hown, if_pos c39]
        rw [e1]
        simpa using this
      · refine ev_neg (by omega) (ev_pos (by omega) ?_)
        have := ih (i + 1) outs (line ++ own) (by omega) (by omega) (by simp; omega)
        have e1 : encQ (b[i] :: b.drop (i + 1)) line = encQ (b.drop (i + 1)) (line ++ own) := by
          rw [encQ, if_neg (by omega), ← hlast, ← hown, if_neg c39]
        rw [e1]
        exact this
    refine Ev.step (fun k => by rw [impl_EncodeQuoted.l0]) ?_
    simp only [size_S, SL_length, w, bt_S, Int.toNat_natCast, mk_S, SL_one, SL_append, hg]
    refine ev_pos (by omega) (ev_pos (by omega) (ev_pos (by omega) ?_))
    rw [drop_cons hlt]
    by_cases c10 : ((b[i]).toNat : Int) = 10
    · refine ev_pos c10 (ev_pos (by omega) ?_)
      have := ih (i + 1) (outs ++ [line]) [] (by omega) (by simp; omega) (by simp)
      have e1 : encQ (b[i] :: b.drop (i + 1)) line = line :: encQ (b.drop (i + 1)) [] := by
        rw [encQ, if_pos (by omega)]
      rw [e1]
      simpa using this
    refine ev_neg c10 ?_
    have hj2 : ∀ (last c : Bool), last = lastQ (b.drop (i + 1)) → c = plainQ b[i] last →
        Ev (fun k => impl_EncodeQuoted.j2 k (S b) (SL outs) (S line) (i : Int) (S (hex3 b[i])) (b.length : Int) (i : Int) c) (SL (outs ++ encQ (b[i] :: b.drop (i + 1)) line), true) := by
      intro last c hlast hc
      refine Ev.step (fun k => by rw [impl_EncodeQuoted.j2]) ?_
      simp only [size_S, SL_length, w, Int.toNat_natCast, mk_S, SL_one, SL_append, append_S, hone]
      have hq : (if c = true then [b[i]] else hex3 b[i]) = quoteB b[i] last := by unfold quoteB; rw [hc]
      cases c with
      | true =>
        refine ev_pos rfl (ev_pos (by omega) (ev_pos (by omega) (ev_pos (by omega) ?_)))
        exact (step last [b[i]] hlast hq).resolve_right (by omega)
      | false =>
        refine ev_neg (by simp) ?_
        exact (step last (hex3 b[i]) hlast hq).resolve_right (by omega)
    have hj1 : ∀ (last : Bool), last = lastQ (b.drop (i + 1)) →
        Ev (fun k => impl_EncodeQuoted.j1 k (S b) (SL outs) (S line) (i : Int) (S (hex3 b[i])) last (b.length : Int) (i : Int)) (SL (outs ++ encQ (b[i] :: b.drop (i + 1)) line), true) := by
      intro last hlast
      refine Ev.step (fun k => by rw [impl_EncodeQuoted.j1]) ?_
      simp only [size_S, bt_S, Int.toNat_natCast, hg]
      refine ev_pos (by omega) (ev_pos (by omega) ?_)
      by_cases h1 : (b[i].toNat : Int) ≥ 33
      · refine ev_pos h1 ?_
        by_cases h2 : (b[i].toNat : Int) ≤ 126
        · refine ev_pos h2 ?_
          by_cases h3 : (b[i].toNat : Int) = 61
          · refine ev_pos h3 (ev_neg (by omega) (hj2 last false hlast ?_))
            have : b[i].toNat = 61 := by omega
            unfold plainQ
            simp [this]
          · refine ev_neg h3 (hj2 last true hlast ?_)
            have : 33 ≤ b[i].toNat ∧ b[i].toNat ≤ 126 ∧ b[i].toNat ≠ 61 := by omega
            unfold plainQ
            simp [this]
        · refine ev_neg h2 (ev_neg (by omega) (hj2 last false hlast ?_))
          have a : ¬ (33 ≤ b[i].toNat ∧ b[i].toNat ≤ 126 ∧ b[i].toNat ≠ 61) := by omega
          have c : ¬ b[i].toNat = 32 := by omega
          unfold plainQ
          simp [a, c]
      · refine ev_neg h1 ?_
        have a : ¬ (33 ≤ b[i].toNat ∧ b[i].toNat ≤ 126 ∧ b[i].toNat ≠ 61) := by omega
        by_cases h3 : (b[i].toNat : Int) = 32
        · refine ev_pos h3 (hj2 last (!last) hlast ?_)
          have : b[i].toNat = 32 := by omega
          unfold plainQ
          cases last <;> simp [this]
        · refine ev_neg h3 (hj2 last false hlast ?_)
          have c : ¬ b[i].toNat = 32 := by omega
          unfold plainQ
          simp [a, c]
    refine ev_bind0 (impl_hex b[i]) ?_
    by_cases hend : ((i + 1 : Nat) : Int) = (b.length : Int)
    · refine ev_pos hend ?_
      exact hj1 true (by rw [List.drop_of_length_le (by omega)]; rfl)
    · refine ev_neg hend (ev_pos (by omega) (ev_pos (by omega) ?_))
      have hlt2 : i + 1 < b.length := by omega
      have hg2 : b.getD (i + 1) 0 = b[i + 1] := by rw [List.getD_eq_getElem?_getD, List.getElem?_eq_getElem hlt2]; rfl
      rw [hg2]
      refine hj1 _ ?_
      rw [drop_cons hlt2]
      show _ = decide _
      rw [Bool.eq_iff_iff]
      simp
      omega

theorem impl_quot (b : List UInt8) : Ev (fun k => impl_EncodeQuoted.f k (S b)) (quotR b) := by
  simp only [impl_EncodeQuoted.f, size_S]
  unfold quotR
  by_cases h : b.length > 300
  · rw [if_pos h]
    exact ev_pos (by omega) (Ev.now _)
  · rw [if_neg h]
    refine ev_neg (by omega) ?_
    have := impl_quot_loop b (by omega) b.length 0 [] [] (by omega) (by simp) (by simp)
    rw [List.drop_zero, List.nil_append] at this
    exact this

theorem eqs_self (l : List ByteArray) (hl : l.length ≤ 1000000) : Ev (fun k => laws_eqStringS.f k l l) true := by
  simp only [laws_eqStringS.f]
  refine ev_pos trivial ?_
  have : ∀ (e i : Nat), i + e = l.length → Ev (fun k => laws_eqStringS.l0 k l l (i : Int)) true := by
    intro e
    induction e with
    | zero =>
      intro i hi
      refine Ev.step (fun k => by rw [laws_eqStringS.l0]) ?_
      exact ev_neg (by omega) (Ev.now _)
    | succ e ih =>
      intro i hi
      have w : wrap64 ((i : Int) + 1) = ((i + 1 : Nat) : Int) := by rw [w64 (by omega) (by omega)]; omega
      refine Ev.step (fun k => by rw [laws_eqStringS.l0]) ?_
      refine ev_pos (by omega) (ev_pos (by omega) (ev_pos (by omega) (ev_pos rfl ?_)))
      rw [w]
      exact ih (i + 1) (by omega)
  exact this l.length 0 (by omega)

theorem marktext_loop : ∀ (d : Nat) (n : Int) (s : ByteArray), 0 ≤ n → n < 10 ^ d → n ≤ 2000000 → s.size + d ≤ 100 → ∃ t, Ev (fun k => laws_markText.l0 k n s) t := by
  intro d
  induction d with
  | zero =>
    intro n s h0 h1 hd hs
    have h1' : n < 1 := by simpa using h1
    have : n = 0 := by omega
    subst this
    refine ⟨(⟨#[109]⟩ : ByteArray) ++ s, ?_⟩
    refine Ev.step (fun k => by rw [laws_markText.l0]) ?_
    exact ev_neg (by omega) (ev_pos (by omega) (Ev.now _))
  | succ d ih =>
    intro n s h0 h1 hd hs
    by_cases hn : n > 0
    · have hp : (10 : Int) ^ (d + 1) = 10 ^ d * 10 := Int.pow_succ 10 d
      have hlt : n / 10 < 10 ^ d := by omega
      obtain ⟨t, ht⟩ := ih (n / 10) (strOfNums [wrap64 (48 + Int.tmod n 10) % 256] ++ s) (by omega) hlt (by omega) (by rw [ByteArray.size_append, strOfNums_size]; simp; omega)
      refine ⟨t, ?_⟩
      have w : wrap64 (Int.tdiv n 10) = n / 10 := by
        rw [Int.tdiv_eq_ediv_of_nonneg h0]
        exact w64 (by omega) (by omega)
      refine Ev.step (fun k => by rw [laws_markText.l0]) ?_
      refine ev_pos hn ?_
      refine ev_bind0 rfl ?_
      refine ev_pos (by rw [strOfNums_size]; simp; omega) ?_
      rw [w]
      exact ht
    · refine ⟨(⟨#[109]⟩ : ByteArray) ++ s, ?_⟩
      refine Ev.step (fun k => by rw [laws_markText.l0]) ?_
      exact ev_neg hn (ev_pos (by omega) (Ev.now _))

theorem marktext_ex (n : Int) (h0 : 1 ≤ n) (h1 : n ≤ 2000000) : ∃ t, Ev (fun k => laws_markText.f k n) t := by
  obtain ⟨t, ht⟩ := marktext_loop 18 n (⟨#[]⟩ : ByteArray) (by omega) (by omega) (by omega) (by show 0 + 18 ≤ 100; omega)
  refine ⟨t, ?_⟩
  simp only [laws_markText.f]
  exact ev_neg (by omega) ht

open Classical in
noncomputable def mtx (n : Int) : ByteArray := if h : ∃ t, Ev (fun k => laws_markText.f k n) t then h.choose else ByteArray.empty
theorem mtx_ev (n : Int) (h0 : 1 ≤ n) (h1 : n ≤ 2000000) : Ev (fun k => laws_markText.f k n) (mtx n) := by
  unfold mtx
  have h := marktext_ex n h0 h1
  rw [dif_pos h]
  exact h.choose_spec

noncomputable def marks (n : Nat) : List ByteArray := (List.range n).map fun i : Nat => mtx (1 + (i : Int))
theorem marks_length (n : Nat) : (marks n).length = n := by unfold marks; simp
theorem marks_succ (n : Nat) : marks (n + 1) = marks n ++ [mtx (1 + (n : Int))] := by unfold marks; rw [List.range_succ]; simp

theorem mark_ev (l : List ByteArray) (hl : l.length ≤ 1000000) : Ev (fun k => laws_markStringS.f k l 1) (1 + (l.length : Int), marks l.length) := by
  simp only [laws_markStringS.f]
  have : ∀ (e i : Nat), i + e = l.length → Ev (fun k => laws_markStringS.l0 k (marks i ++ l.drop i) (1 + (i : Int)) (i : Int)) (1 + (l.length : Int), marks l.length) := by
    intro e
    induction e with
    | zero =>
      intro i hi
      have hi' : i = l.length := by omega
      subst hi'
      refine Ev.step (fun k => by rw [laws_markStringS.l0]) ?_
      rw [List.drop_of_length_le (Nat.le_refl _), List.append_nil]
      refine ev_neg ?_ (Ev.now _)
      rw [marks_length]
      omega
    | succ e ih =>
      intro i hi
      obtain ⟨w, w2⟩ : wrap64 ((i : Int) + 1) = ((i + 1 : Nat) : Int) ∧ wrap64 (1 + (i : Int) + 1) = 1 + ((i + 1 : Nat) : Int) :=
        ⟨by rw [w64 (by omega) (by omega)]; omega, by rw [w64 (by omega) (by omega)]; omega⟩
      have hm := mtx_ev (1 + (i : Int)) (by omega) (by omega)
      have hlen : ((marks i ++ l.drop i).length : Int) = (l.length : Int) := by
        rw [List.length_append, marks_length, List.length_drop]
        omega
      have hset : (marks i ++ l.drop i).set i (mtx (1 + (i : Int))) = marks (i + 1) ++ l.drop (i + 1) := by
        rw [List.set_append_right _ _ (by rw [marks_length]; omega), marks_length, marks_succ, List.drop_eq_getElem_cons (by omega : i < l.length), Nat.sub_self, List.set_cons_zero, List.append_assoc]
        rfl
      refine Ev.step (fun k => by rw [laws_markStringS.l0]) ?_
      refine ev_pos (by rw [hlen]; omega) ?_
      refine Ev.bind hm ?_
      refine ev_pos (by omega) ?_
      rw [Int.toNat_natCast, hset, w, w2]
      exact ih (i + 1) (by omega)
  exact this l.length 0 (by omega)

theorem held_ev (n : Nat) (hn : n ≤ 1000000) : Ev (fun k => laws_heldStringS.f k (marks n) 1) (1 + (n : Int)) := by
  simp only [laws_heldStringS.f]
  have : ∀ (e i : Nat), i + e = n → Ev (fun k => laws_heldStringS.l0 k (marks n) (1 + (i : Int)) (i : Int)) (1 + (n : Int)) := by
    intro e
    induction e with
    | zero =>
      intro i hi
      have hi' : i = n := by omega
      subst hi'
      refine Ev.step (fun k => by rw [laws_heldStringS.l0]) ?_
      refine ev_neg ?_ (Ev.now _)
      rw [marks_length]
      omega
    | succ e ih =>
      intro i hi
      obtain ⟨w, w2⟩ : wrap64 ((i : Int) + 1) = ((i + 1 : Nat) : Int) ∧ wrap64 (1 + (i : Int) + 1) = 1 + ((i + 1 : Nat) : Int) :=
        ⟨by rw [w64 (by omega) (by omega)]; omega, by rw [w64 (by omega) (by omega)]; omega⟩
      have hm := mtx_ev (1 + (i : Int)) (by omega) (by omega)
      have hr : rdOf ByteArray.empty (marks n) (i : Int) = mtx (1 + (i : Int)) := by
        unfold rdOf marks
        rw [Int.toNat_natCast, List.getD_eq_getElem?_getD, List.getElem?_map, List.getElem?_range (by omega)]
        rfl
      refine Ev.step (fun k => by rw [laws_heldStringS.l0]) ?_
      refine ev_pos (by rw [marks_length]; omega) (ev_pos (by omega) ?_)
      refine Ev.bind hm ?_
      rw [hr, w, w2]
      refine ev_pos rfl ?_
      exact ih (i + 1) (by omega)
  exact this n 0 (by omega)

theorem FnExactEncodeQuoted : laws_FnExactEncodeQuoted.Pure := by
  intro a0 _
  obtain ⟨b, rfl⟩ := ex_S a0
  refine Ev.rounds ?_
  simp only [laws_FnExactEncodeQuoted.f]
  by_cases hl : ((S b).size : Int) > 1048576
  · exact ev_pos hl (Ev.now _)
  refine ev_neg hl ?_
  have hlen := quotR_length b
  refine Ev.bind (spec_quot b) ?_
  refine Ev.bind (impl_quot b) ?_
  refine Ev.bind (eqs_self (quotR b).1 (by omega)) ?_
  refine ev_pos rfl ?_
  simp only [bne_self_eq_false]
  refine Ev.step (fun k => by rw [laws_FnExactEncodeQuoted.j0]) ?_
  refine ev_neg (by simp) ?_
  refine Ev.bind (mark_ev (quotR b).1 (by omega)) ?_
  refine Ev.bind (held_ev (quotR b).1.length (by omega)) ?_
  refine ev_neg (by omega) (ev_pos rfl ?_)
  refine Ev.bind (impl_quot b) ?_
  refine Ev.bind (eqs_self (quotR b).1 (by omega)) ?_
  refine ev_pos rfl ?_
  simp only [bne_self_eq_false]
  refine Ev.step (fun k => by rw [laws_FnExactEncodeQuoted.j1]) ?_
  refine ev_neg (by simp) ?_
  refine Ev.bind (held_ev (quotR b).1.length (by omega)) ?_
  exact ev_neg (by omega) (ev_pos rfl (Ev.now _))

end Go.Proofs.Ytenplenjpliciaa.PLFnExactEncodeQuoted
namespace Go.Proofs.Ytenplenjpliciaa.Pure
open Go.Proofs.Ytenplenjpliciaa.PFnExactEncodeQuoted
theorem FnExactEncodeQuoted : laws_FnExactEncodeQuoted.Pure := PLFnExactEncodeQuoted.FnExactEncodeQuoted
end Go.Proofs.Ytenplenjpliciaa.Pure
