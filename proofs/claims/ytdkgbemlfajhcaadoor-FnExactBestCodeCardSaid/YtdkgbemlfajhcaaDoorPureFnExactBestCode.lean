/- The law FnExactBestCode holds of the printed functions: both programs choose the same way. No conditions. -/
import Derived.Test.YtdkgbemlfajhcaaDoorPFnExactBestCodex6
import Derived.Test.YtdkgbemlfajhcaaDoorMBase
import Derived.Test.YtdkgbemlfajhcaaDoorMStr
import Derived.Test.YtdkgbemlfajhcaaDoorMQuot
import Derived.Test.YtdkgbemlfajhcaaDoorMB64
import Derived.Test.YtdkgbemlfajhcaaDoorMDecQ
import Derived.Test.YtdkgbemlfajhcaaDoorMCode
import Derived.Test.YtdkgbemlfajhcaaDoorMRead
import Derived.Test.YtdkgbemlfajhcaaDoorMParts
import Derived.Test.YtdkgbemlfajhcaaDoorMName
import Derived.Test.YtdkgbemlfajhcaaDoorMEnc
namespace Go.Proofs.YtdkgbemlfajhcaaDoor.PLFnExactBestCode
open Go.RowKit Go.Proofs.YtdkgbemlfajhcaaDoor.PFnExactBestCode Go.Proofs.YtdkgbemlfajhcaaDoorW.PrintWords Go.Proofs.YtdkgbemlfajhcaaDoorW.PrintLast Go.Proofs.YtdkgbemlfajhcaaDoorW.PrintMore Go.Proofs.YtdkgbemlfajhcaaDoor.M

/-- Lines that need no code. -/
def okL (l : List UInt8) : Prop := textOK l ∧ l.length ≤ 40
instance (l : List UInt8) : Decidable (okL l) := by unfold okL; exact inferInstance
def tailL (r : List (List UInt8)) : List UInt8 := (r.map ([10] ++ ·)).flatten
theorem tailL_cons (x : List UInt8) (r : List (List UInt8)) : tailL (x :: r) = [10] ++ (x ++ tailL r) := by simp [tailL]
def plainR (ls : List (List UInt8)) : ByteArray × Bool := if ls ≠ [] ∧ (∀ l ∈ ls, okL l) ∧ (Lib.join ls [10]).length ≤ 300 then (S (Lib.join ls [10]), true) else (S [], false)
def resL (c : Int) (acc : List UInt8) (r : List (List UInt8)) : ByteArray × Bool := if (∀ l ∈ r, okL l) ∧ (acc ++ tailL r).length ≤ 300 then (if c = 0 then (S (acc ++ tailL r), true) else (S [], false)) else (S [], false)
theorem resL_bad {c : Int} {acc x : List UInt8} {r : List (List UInt8)} (h : ¬ okL x ∨ (acc ++ [10] ++ x).length > 300) : resL c acc (x :: r) = (S [], false) := by
  unfold resL
  rw [if_neg]
  rintro ⟨h1, h2⟩
  rcases h with h | h
  · exact h (h1 x (by simp))
  · rw [tailL_cons] at h2
    simp only [List.length_append] at h h2
    omega
theorem resL_next {c : Int} {acc x : List UInt8} {r : List (List UInt8)} (h : okL x) : resL c acc (x :: r) = resL c (acc ++ [10] ++ x) r := by
  have e : acc ++ tailL (x :: r) = acc ++ [10] ++ x ++ tailL r := by rw [tailL_cons]; simp only [List.append_assoc]
  unfold resL
  rw [e]
  by_cases q : (∀ l ∈ r, okL l) ∧ (acc ++ [10] ++ x ++ tailL r).length ≤ 300
  · rw [if_pos q, if_pos ⟨fun l hl => by
      rcases List.mem_cons.1 hl with hl | hl
      · rw [hl]; exact h
      · exact q.1 l hl, q.2⟩]
  · rw [if_neg q, if_neg (fun z => q ⟨fun l hl => z.1 l (by simp [hl]), z.2⟩)]
theorem plainR_first (x : List UInt8) (r : List (List UInt8)) : plainR (x :: r) = if okL x ∧ x.length ≤ 300 then resL 0 x r else (S [], false) := by
  have e : Lib.join (x :: r) [10] = x ++ tailL r := Lib.join_cons x r [10]
  unfold plainR resL
  rw [e]
  by_cases h : okL x
  · have c0 : okL x ∧ x.length ≤ 300 := ⟨h, by have := h.2; omega⟩
    rw [if_pos c0]
    by_cases q : (∀ l ∈ r, okL l) ∧ (x ++ tailL r).length ≤ 300
    · have c1 : x :: r ≠ [] ∧ (∀ l ∈ x :: r, okL l) ∧ (x ++ tailL r).length ≤ 300 := ⟨by simp, fun l hl => by
        rcases List.mem_cons.1 hl with hl | hl
        · rw [hl]; exact h
        · exact q.1 l hl, q.2⟩
      rw [if_pos q, if_pos c1, if_pos rfl]
    · have c1 : ¬ (x :: r ≠ [] ∧ (∀ l ∈ x :: r, okL l) ∧ (x ++ tailL r).length ≤ 300) := fun z => q ⟨fun l hl => z.2.1 l (by simp [hl]), z.2.2⟩
      rw [if_neg q, if_neg c1]
  · have c0 : ¬ (okL x ∧ x.length ≤ 300) := fun z => h z.1
    have c1 : ¬ (x :: r ≠ [] ∧ (∀ l ∈ x :: r, okL l) ∧ (x ++ tailL r).length ≤ 300) := fun z => h (z.2.1 x (by simp))
    rw [if_neg c0, if_neg c1]

/-- Bytes that need no code. -/
def encP (b : List UInt8) : List ByteArray × Bool := if (∀ l ∈ parts 10 b, okL l) ∧ b.length ≤ 300 then (SL (parts 10 b), true) else ([], false)

/-- The bytes of lines, one more for each line, as a machine counts. -/
def wsum : List ByteArray → Int → Int
  | [], x => x
  | s :: r, x => wsum r (wrap64 (x + (s.size : Int) + 1))
theorem wrap_a (x y : Int) : wrap64 (wrap64 (x + y) + 1) = wrap64 (x + y + 1) := by unfold wrap64; omega
theorem wrap_b (x y : Int) : wrap64 (x + wrap64 (y + 1)) = wrap64 (x + y + 1) := by unfold wrap64; omega
theorem rd_at (ls : List ByteArray) (i : Nat) (h : i < ls.length) : rdOf ByteArray.empty ls (i : Int) = ls[i] := by
  unfold rdOf
  rw [List.getD_eq_getElem?_getD]
  simp [h]
theorem spec_size (ls : List ByteArray) (hn : ls.length ≤ 100000000) : Ev (fun k => spec_l5Size.f k ls) (wsum ls 0) := by
  simp only [spec_l5Size.f]
  have loop : ∀ (e i : Nat) (x : Int), i + e = ls.length → Ev (fun k => spec_l5Size.l0 k ls x (i : Int)) (wsum (ls.drop i) x) := by
    intro e
    induction e with
    | zero =>
      intro i x hi
      rw [List.drop_of_length_le (by omega)]
      refine Ev.step (fun k => by rw [spec_l5Size.l0]) ?_
      exact ev_neg (by omega) (Ev.now _)
    | succ e ih =>
      intro i x hi
      have hlt : i < ls.length := by omega
      have w : wrap64 ((i : Int) + 1) = ((i + 1 : Nat) : Int) := by rw [w64 (by omega) (by omega)]; omega
      rw [List.drop_eq_getElem_cons hlt]
      refine Ev.step (fun k => by rw [spec_l5Size.l0]) ?_
      simp only [rd_at ls i hlt, w, wrap_a]
      exact ev_pos (by omega) (ev_pos (by omega) (ih (i + 1) _ (by omega)))
  exact loop ls.length 0 0 (by omega)
theorem impl_size (ls : List ByteArray) (hn : ls.length ≤ 100000000) : Ev (fun k => impl_weight.f k ls) (wsum ls 0) := by
  simp only [impl_weight.f]
  have loop : ∀ (e i : Nat) (x : Int), i + e = ls.length → Ev (fun k => impl_weight.l0 k x ls (ls.length : Int) (i : Int)) (wsum (ls.drop i) x) := by
    intro e
    induction e with
    | zero =>
      intro i x hi
      rw [List.drop_of_length_le (by omega)]
      refine Ev.step (fun k => by rw [impl_weight.l0]) ?_
      exact ev_neg (by omega) (Ev.now _)
    | succ e ih =>
      intro i x hi
      have hlt : i < ls.length := by omega
      have w : wrap64 ((i : Int) + 1) = ((i + 1 : Nat) : Int) := by rw [w64 (by omega) (by omega)]; omega
      rw [List.drop_eq_getElem_cons hlt]
      refine Ev.step (fun k => by rw [impl_weight.l0]) ?_
      simp only [rd_at ls i hlt, w, wrap_b]
      exact ev_pos (by omega) (ev_pos (by omega) (ev_pos (by omega) (ih (i + 1) _ (by omega))))
  exact loop ls.length 0 0 (by omega)

theorem spec_hex (c : UInt8) : spec_l5Hex.f (c.toNat : Int) = some (S (hex3 c)) := by
  have hc := c.toNat_lt
  unfold spec_l5Hex.f
  have a : bits .and .u8 (c.toNat : Int) 15 = ((c.toNat % 16 : Nat) : Int) := by
    rw [u8_and15 _ (by omega) (by omega)]
    omega
  have b : ((c.toNat : Int) / 16) = ((c.toNat / 16 : Nat) : Int) := by omega
  have e1 : ((((c.toNat / 16 : Nat) : Int) + 1) % 256) = (((c.toNat / 16) + 1 : Nat) : Int) := by omega
  have e2 : ((((c.toNat % 16 : Nat) : Int) + 1) % 256) = (((c.toNat % 16) + 1 : Nat) : Int) := by omega
  have x1 := extract_digit (c.toNat / 16) (by omega)
  have x2 := extract_digit (c.toNat % 16) (by omega)
  simp only [a, b, e1, e2, Int.toNat_natCast, x1, x2, mk_S, append_S, size_S]
  rw [if_pos (by omega), if_pos (by omega), if_pos (by omega), if_pos (by simp), if_pos (by omega), if_pos (by omega), if_pos (by omega), if_pos (by simp)]
  rfl


theorem spec_byte (c : UInt8) (last : Bool) : spec_l5Byte.f (c.toNat : Int) last = some (S (quoteB c last)) := by
  have hc := c.toNat_lt
  have hself : strOfNums ([(c.toNat : Int)] : List Int) = S [c] := by
    rw [strOfNums_S]
    simp
  unfold spec_l5Byte.f quoteB plainQ
  simp only [spec_hex, hself, Option.bind_some]
  by_cases h1 : (c.toNat : Int) ≥ 33
  · rw [if_pos h1]
    by_cases h2 : (c.toNat : Int) ≤ 126
    · rw [if_pos h2]
      by_cases h3 : (c.toNat : Int) = 61
      · rw [if_pos h3, if_neg (by omega)]
        have h3' : c.toNat = 61 := by omega
        simp [h3']
      · rw [if_neg h3]
        have : 33 ≤ c.toNat ∧ c.toNat ≤ 126 ∧ c.toNat ≠ 61 := by omega
        simp [this]
    · rw [if_neg h2, if_neg (by omega)]
      have a : ¬ (33 ≤ c.toNat ∧ c.toNat ≤ 126 ∧ c.toNat ≠ 61) := by omega
      have b : ¬ c.toNat = 32 := by omega
      simp [a, b]
  · rw [if_neg h1]
    have a : ¬ (33 ≤ c.toNat ∧ c.toNat ≤ 126 ∧ c.toNat ≠ 61) := by omega
    by_cases h3 : (c.toNat : Int) = 32
    · rw [if_pos h3]
      have h3' : c.toNat = 32 := by omega
      cases last <;> simp [h3']
    · rw [if_neg h3]
      have b : ¬ c.toNat = 32 := by omega
      simp [a, b]

theorem spec_quot_loop (b : List UInt8) (hb : b.length ≤ 300) : ∀ (e i : Nat) (outs : List (List UInt8)) (line : List UInt8), i + e = b.length → outs.length ≤ i → line.length ≤ 42 →
    Ev (fun k => spec_EncodeQuoted.l0 k (S b) (SL outs) (S line) (i : Int)) (SL (outs ++ encQ (b.drop i) line), true) := by
  intro e
  induction e with
  | zero =>
    intro i outs line hi ho hl
    refine Ev.step (fun k => by rw [spec_EncodeQuoted.l0]) ?_
    simp only [size_S, SL_length]
    refine ev_neg (by omega) (ev_pos (by omega) ?_)
    rw [List.drop_of_length_le (by omega), SL_one, SL_append]
    exact Ev.now _
  | succ e ih =>
    intro i outs line hi ho hl
    have hlt : i < b.length := by omega
    have w : wrap64 ((i : Int) + 1) = ((i + 1 : Nat) : Int) := by rw [w64 (by omega) (by omega)]; omega
    refine Ev.step (fun k => by rw [spec_EncodeQuoted.l0]) ?_
    simp only [size_S, SL_length, w, bt_S, Int.toNat_natCast, mk_S, append_S, SL_one, SL_append]
    have hg : b.getD i 0 = b[i] := by rw [List.getD_eq_getElem?_getD, List.getElem?_eq_getElem hlt]; rfl
    rw [drop_cons hlt]
    simp only [hg]
    refine ev_pos (by omega) (ev_pos (by omega) ?_)
    by_cases c10 : ((b[i]).toNat : Int) = 10
    · refine ev_pos c10 (ev_pos (by omega) ?_)
      have := ih (i + 1) (outs ++ [line]) [] (by omega) (by simp; omega) (by simp)
      have e1 : encQ (b[i] :: b.drop (i + 1)) line = line :: encQ (b.drop (i + 1)) [] := by
        rw [encQ, if_pos (by omega)]
      rw [e1]
      simpa using this
    refine ev_neg c10 ?_
    -- what stands for the byte, whether it is the last of its line or not
    have step : ∀ last, last = lastQ (b.drop (i + 1)) →
        Ev (fun k => if wrap64 ((line.length : Int) + ((quoteB b[i] last).length : Int)) > 39 then
            (if line.length + 1 ≤ 9223372036854775807 then (if outs.length < 8796093022208 then (if 0 + (quoteB b[i] last).length ≤ 9223372036854775807 then
              spec_EncodeQuoted.l0 k (S b) (SL (outs ++ [line ++ [61]])) (S ([] ++ quoteB b[i] last)) ((i + 1 : Nat) : Int) else none) else none) else none)
            else (if line.length + (quoteB b[i] last).length ≤ 9223372036854775807 then spec_EncodeQuoted.l0 k (S b) (SL outs) (S (line ++ quoteB b[i] last)) ((i + 1 : Nat) : Int) else none))
          (SL (outs ++ encQ (b[i] :: b.drop (i + 1)) line), true) := by
      intro last hlast
      obtain ⟨q1, q2⟩ := quoteB_length b[i] last
      have w2 : wrap64 ((line.length : Int) + ((quoteB b[i] last).length : Int)) = ((line.length + (quoteB b[i] last).length : Nat) : Int) := by rw [w64 (by omega) (by omega)]; omega
      rw [w2]
      by_cases c39 : line.length + (quoteB b[i] last).length > 39
      · refine ev_pos (by omega) (ev_pos (by omega) (ev_pos (by omega) (ev_pos (by omega) ?_)))
        have := ih (i + 1) (outs ++ [line ++ [61]]) (quoteB b[i] last) (by omega) (by simp; omega) (by omega)
        have e1 : encQ (b[i] :: b.drop (i + 1)) line = (line ++ [61]) :: encQ (b.drop (i + 1)) (quoteB b[i] last) := by
          rw [encQ, if_neg (by omega), ← hlast, if_pos c39]
        rw [e1]
        simpa using this
      · refine ev_neg (by omega) (ev_pos (by omega) ?_)
        have := ih (i + 1) outs (line ++ quoteB b[i] last) (by omega) (by omega) (by simp; omega)
        have e1 : encQ (b[i] :: b.drop (i + 1)) line = encQ (b.drop (i + 1)) (line ++ quoteB b[i] last) := by
          rw [encQ, if_neg (by omega), ← hlast, if_neg c39]
        rw [e1]
        exact this
    by_cases hend : ((i + 1 : Nat) : Int) = (b.length : Int)
    · refine ev_pos hend ?_
      refine ev_bind0 (spec_byte b[i] true) ?_
      simp only [size_S, append_S]
      exact step true (by rw [List.drop_of_length_le (by omega)]; rfl)
    · refine ev_neg hend (ev_pos (by omega) (ev_pos (by omega) ?_))
      have hlt2 : i + 1 < b.length := by omega
      have hg2 : b.getD (i + 1) 0 = b[i + 1] := by rw [List.getD_eq_getElem?_getD, List.getElem?_eq_getElem hlt2]; rfl
      rw [hg2]
      refine ev_bind0 (spec_byte b[i] _) ?_
      simp only [size_S, append_S]
      refine step _ ?_
      rw [drop_cons hlt2]
      show _ = decide _
      rw [Bool.eq_iff_iff]
      simp
      omega

theorem spec_quot (b : List UInt8) : Ev (fun k => spec_EncodeQuoted.f k (S b)) (quotR b) := by
  simp only [spec_EncodeQuoted.f, size_S]
  unfold quotR
  by_cases h : b.length > 300
  · rw [if_pos h]
    exact ev_pos (by omega) (Ev.now _)
  · rw [if_neg h]
    refine ev_neg (by omega) ?_
    have := spec_quot_loop b (by omega) b.length 0 [] [] (by omega) (by simp) (by simp)
    rw [List.drop_zero, List.nil_append] at this
    exact this

theorem spec_letters : spec_l5Letters.f = some (S b64) := rfl

theorem shr_is (n : Int) (j : Nat) (hj : j < 4) (v : Int) (e : v = n / 2 ^ (18 - 6 * j)) : shr .i64 n (wrap64 (18 - (wrap64 (6 * (j : Int))))) = v := by
  have w1 : wrap64 (6 * (j : Int)) = 6 * (j : Int) := w64 (by omega) (by omega)
  have w2 : wrap64 (18 - 6 * (j : Int)) = 18 - 6 * (j : Int) := w64 (by omega) (by omega)
  rw [w1, w2, e]
  unfold shr
  have : min (18 - 6 * (j : Int)).toNat IntKind.i64.bits = 18 - 6 * j := by
    show min (18 - 6 * (j : Int)).toNat 64 = _
    omega
  rw [this]

theorem spec_base_letter {b out : List UInt8} {i j : Nat} {n m : Nat} {R : ByteArray} (hj : j < 4) (hi : i + j ≤ b.length) (hb : b.length ≤ 500) (ho : out.length ≤ 2000) (hn : n < 16777216)
    (hm : m = n / 2 ^ (18 - 6 * j) % 64)
    (H : Ev (fun k => spec_l5Base.l1 k (S b) (S (out ++ [let6 m])) (i : Int) (n : Int) ((j + 1 : Nat) : Int)) R) :
    Ev (fun k => spec_l5Base.l1 k (S b) (S out) (i : Int) (n : Int) (j : Int)) R := by
  have w : wrap64 ((i : Int) + (j : Int)) = ((i + j : Nat) : Int) := by rw [w64 (by omega) (by omega)]; omega
  have w2 : wrap64 ((j : Int) + 1) = ((j + 1 : Nat) : Int) := by rw [w64 (by omega) (by omega)]; omega
  have hp : (2 : Int) ^ (18 - 6 * j) = ((2 ^ (18 - 6 * j) : Nat) : Int) := by simp
  have hq : ((n / 2 ^ (18 - 6 * j) : Nat) : Int) = (n : Int) / 2 ^ (18 - 6 * j) := by rw [hp, Int.natCast_ediv]
  have hs := shr_is (n : Int) j hj ((n / 2 ^ (18 - 6 * j) : Nat) : Int) hq
  have hle : n / 2 ^ (18 - 6 * j) ≤ n := Nat.div_le_self _ _
  have ha : bits .and .i64 ((n / 2 ^ (18 - 6 * j) : Nat) : Int) 63 = (m : Int) := by
    rw [and63 (Int.natCast_nonneg _) (by omega), hm]
    exact (Int.natCast_emod _ 64).symm
  have hm64 : m < 64 := by omega
  have w3 : wrap64 ((m : Int) + 1) = ((m + 1 : Nat) : Int) := by rw [w64 (by omega) (by omega)]; omega
  have w4 : 0 ≤ wrap64 (18 - wrap64 (6 * (j : Int))) := by
    rw [w64 (n := 6 * (j : Int)) (by omega) (by omega), w64 (by omega) (by omega)]
    omega
  have hx : (S b64).extract m (m + 1) = S [let6 m] := extract_one b64 m (by rw [b64_length]; exact hm64)
  refine Ev.step (fun k => by rw [spec_l5Base.l1]) ?_
  simp only [w, w2, hs, ha, w3, size_S, spec_letters, Int.toNat_natCast]
  clear hp hq hs hle ha hm w w2 w3
  refine ev_pos (by omega) (ev_neg (by omega) (ev_pos w4 ?_))
  clear w4
  refine ev_bind0 rfl ?_
  simp only [size_S, hx, b64_length, append_S]
  clear hx
  refine ev_pos (by omega) (ev_pos (by omega) (ev_pos (by omega) (ev_pos (by simp; omega) ?_)))
  exact H

theorem spec_base_pad {b out : List UInt8} {i j : Nat} {n : Int} {R : ByteArray} (hj : j < 4) (hi : b.length < i + j) (hi2 : i ≤ b.length) (hb : b.length ≤ 500) (ho : out.length ≤ 2000)
    (H : Ev (fun k => spec_l5Base.l1 k (S b) (S (out ++ [61])) (i : Int) n ((j + 1 : Nat) : Int)) R) :
    Ev (fun k => spec_l5Base.l1 k (S b) (S out) (i : Int) n (j : Int)) R := by
  have w : wrap64 ((i : Int) + (j : Int)) = ((i + j : Nat) : Int) := by rw [w64 (by omega) (by omega)]; omega
  have w2 : wrap64 ((j : Int) + 1) = ((j + 1 : Nat) : Int) := by rw [w64 (by omega) (by omega)]; omega
  refine Ev.step (fun k => by rw [spec_l5Base.l1]) ?_
  simp only [w, w2, size_S, mk_S, append_S]
  refine ev_pos (by omega) (ev_pos (by omega) (ev_pos (by omega) ?_))
  exact H

theorem spec_base_end {b out : List UInt8} {i : Nat} {n : Int} {R : ByteArray} (hb : i ≤ 600) (H : Ev (fun k => spec_l5Base.l0 k (S b) (S out) ((i + 3 : Nat) : Int)) R) :
    Ev (fun k => spec_l5Base.l1 k (S b) (S out) (i : Int) n ((4 : Nat) : Int)) R := by
  have w : wrap64 ((i : Int) + 3) = ((i + 3 : Nat) : Int) := by rw [w64 (by omega) (by omega)]; omega
  refine Ev.step (fun k => by rw [spec_l5Base.l1]) ?_
  rw [w]
  exact ev_neg (by omega) H

theorem getD_at {l : List UInt8} {i : Nat} (h : i < l.length) : l.getD i 0 = l[i] := by rw [List.getD_eq_getElem?_getD, List.getElem?_eq_getElem h]; rfl

set_option maxHeartbeats 1000000 in
theorem spec_base_loop (b : List UInt8) (hb : b.length ≤ 500) : ∀ (e i : Nat) (out : List UInt8), b.length ≤ i + 3 * e → i ≤ b.length + 2 → out.length ≤ 2 * i →
    Ev (fun k => spec_l5Base.l0 k (S b) (S out) (i : Int)) (S (out ++ base (b.drop i))) := by
  intro e
  induction e with
  | zero =>
    intro i out hi hi2 ho
    refine Ev.step (fun k => by rw [spec_l5Base.l0]) ?_
    rw [size_S, List.drop_of_length_le (by omega)]
    refine ev_neg (by omega) ?_
    rw [base, List.append_nil]
    exact Ev.now _
  | succ e ih =>
    intro i out hi hi2 ho
    refine Ev.step (fun k => by rw [spec_l5Base.l0]) ?_
    rw [size_S]
    by_cases c0 : b.length ≤ i
    · rw [List.drop_of_length_le c0]
      refine ev_neg (by omega) ?_
      rw [base, List.append_nil]
      exact Ev.now _
    have h0 : i < b.length := by omega
    have x0 := b[i].toNat_lt
    obtain ⟨w1, w2⟩ : wrap64 ((i : Int) + 1) = ((i + 1 : Nat) : Int) ∧ wrap64 ((i : Int) + 2) = ((i + 2 : Nat) : Int) :=
      ⟨by rw [w64 (by omega) (by omega)]; omega, by rw [w64 (by omega) (by omega)]; omega⟩
    have wa : wrap64 (b[i].toNat : Int) = (b[i].toNat : Int) := w64 (by omega) (by omega)
    have wb : wrap64 ((b[i].toNat : Int) * 65536) = ((b[i].toNat * 65536 : Nat) : Int) := by rw [w64 (by omega) (by omega)]; omega
    simp only [bt_S, w1, Int.toNat_natCast, getD_at h0, wa, wb]
    clear wa wb w1
    refine ev_pos (by omega) (ev_pos (by omega) ?_)
    by_cases c1 : b.length ≤ i + 1
    · -- one byte is left
      refine ev_neg (by omega) ?_
      have hd : b.drop i = [b[i]] := by rw [drop_cons h0, List.drop_of_length_le (by omega)]
      refine Ev.step (fun k => by rw [spec_l5Base.j1]) ?_
      rw [size_S, w2]
      clear w2
      refine ev_neg (by omega) ?_
      refine Ev.step (fun k => by rw [spec_l5Base.j2]) ?_
      refine spec_base_letter (j := 0) (m := b[i].toNat / 4) (by omega) (by omega) hb (by omega) (by omega) (six0a (u8_lt _) rfl) ?_
      refine spec_base_letter (j := 1) (m := b[i].toNat % 4 * 16) (by omega) (by omega) hb (by simp; omega) (by omega) (six1' rfl) ?_
      refine spec_base_pad (j := 2) (by omega) (by omega) (by omega) hb (by simp; omega) ?_
      refine spec_base_pad (j := 3) (by omega) (by omega) (by omega) hb (by simp; omega) ?_
      refine spec_base_end (by omega) ?_
      have := ih (i + 3) ((((out ++ [let6 (b[i].toNat / 4)]) ++ [let6 (b[i].toNat % 4 * 16)]) ++ [61]) ++ [61]) (by omega) (by omega) (by simp; omega)
      rw [List.drop_of_length_le (by omega : b.length ≤ i + 3), base, List.append_nil] at this
      rw [hd, base]
      simpa using this
    have h1 : i + 1 < b.length := by omega
    have x1 := b[i + 1].toNat_lt
    have wc : wrap64 (b[i + 1].toNat : Int) = (b[i + 1].toNat : Int) := w64 (by omega) (by omega)
    have wd : wrap64 ((b[i + 1].toNat : Int) * 256) = ((b[i + 1].toNat * 256 : Nat) : Int) := by rw [w64 (by omega) (by omega)]; omega
    have we : wrap64 (((b[i].toNat * 65536 : Nat) : Int) + ((b[i + 1].toNat * 256 : Nat) : Int)) = ((b[i].toNat * 65536 + b[i + 1].toNat * 256 : Nat) : Int) := by rw [w64 (by omega) (by omega)]; omega
    simp only [getD_at h1, wc, wd, we]
    clear wc wd we
    refine ev_pos (by omega) (ev_pos (by omega) ?_)
    refine Ev.step (fun k => by rw [spec_l5Base.j1]) ?_
    rw [size_S, w2]
    clear w2
    by_cases c2 : b.length ≤ i + 2
    · -- two bytes are left
      refine ev_neg (by omega) ?_
      have hd : b.drop i = [b[i], b[i + 1]] := by rw [drop_cons h0, drop_cons h1, List.drop_of_length_le (by omega)]
      refine Ev.step (fun k => by rw [spec_l5Base.j2]) ?_
      refine spec_base_letter (j := 0) (m := b[i].toNat / 4) (by omega) (by omega) hb (by omega) (by omega) (six0b (u8_lt _) (u8_lt b[i + 1]) rfl) ?_
      refine spec_base_letter (j := 1) (m := b[i].toNat % 4 * 16 + b[i + 1].toNat / 16) (by omega) (by omega) hb (by simp; omega) (by omega) (six1b (u8_lt _) rfl) ?_
      refine spec_base_letter (j := 2) (m := b[i + 1].toNat % 16 * 4) (by omega) (by omega) hb (by simp; omega) (by omega) (six2' rfl) ?_
      refine spec_base_pad (j := 3) (by omega) (by omega) (by omega) hb (by simp; omega) ?_
      refine spec_base_end (by omega) ?_
      have := ih (i + 3) ((((out ++ [let6 (b[i].toNat / 4)]) ++ [let6 (b[i].toNat % 4 * 16 + b[i + 1].toNat / 16)]) ++ [let6 (b[i + 1].toNat % 16 * 4)]) ++ [61]) (by omega) (by omega) (by simp; omega)
      rw [List.drop_of_length_le (by omega : b.length ≤ i + 3), base, List.append_nil] at this
      rw [hd, base]
      simpa using this
    -- three bytes and more
    have h2 : i + 2 < b.length := by omega
    have x2 := b[i + 2].toNat_lt
    have wf : wrap64 (b[i + 2].toNat : Int) = (b[i + 2].toNat : Int) := w64 (by omega) (by omega)
    have wg : wrap64 (((b[i].toNat * 65536 + b[i + 1].toNat * 256 : Nat) : Int) + (b[i + 2].toNat : Int)) = ((b[i].toNat * 65536 + b[i + 1].toNat * 256 + b[i + 2].toNat : Nat) : Int) := by rw [w64 (by omega) (by omega)]; omega
    have hd : b.drop i = b[i] :: b[i + 1] :: b[i + 2] :: b.drop (i + 3) := by rw [drop_cons h0, drop_cons h1, drop_cons h2]
    simp only [bt_S, Int.toNat_natCast, getD_at h2, wf, wg]
    clear wf wg
    refine ev_pos (by omega) (ev_pos (by omega) ?_)
    refine Ev.step (fun k => by rw [spec_l5Base.j2]) ?_
    refine spec_base_letter (j := 0) (m := b[i].toNat / 4) (by omega) (by omega) hb (by omega) (by omega) (six0 (u8_lt _) (u8_lt b[i + 1]) (u8_lt b[i + 2]) rfl) ?_
    refine spec_base_letter (j := 1) (m := b[i].toNat % 4 * 16 + b[i + 1].toNat / 16) (by omega) (by omega) hb (by simp; omega) (by omega) (six1 (u8_lt _) (u8_lt b[i + 2]) rfl) ?_
    refine spec_base_letter (j := 2) (m := b[i + 1].toNat % 16 * 4 + b[i + 2].toNat / 64) (by omega) (by omega) hb (by simp; omega) (by omega) (six2 (u8_lt _) rfl) ?_
    refine spec_base_letter (j := 3) (m := b[i + 2].toNat % 64) (by omega) (by omega) hb (by simp; omega) (by omega) (six3 rfl) ?_
    refine spec_base_end (by omega) ?_
    have := ih (i + 3) ((((out ++ [let6 (b[i].toNat / 4)]) ++ [let6 (b[i].toNat % 4 * 16 + b[i + 1].toNat / 16)]) ++ [let6 (b[i + 1].toNat % 16 * 4 + b[i + 2].toNat / 64)]) ++ [let6 (b[i + 2].toNat % 64)]) (by omega) (by omega) (by simp; omega)
    rw [hd, base]
    simpa using this

theorem spec_base (b : List UInt8) (hb : b.length ≤ 500) : Ev (fun k => spec_l5Base.f k (S b)) (S (base b)) := by
  simp only [spec_l5Base.f]
  have := spec_base_loop b hb 170 0 [] (by omega) (by omega) (by simp)
  rw [List.drop_zero, List.nil_append] at this
  exact this


theorem spec_lines_loop : ∀ (n : Nat) (s : List UInt8) (outs : List (List UInt8)), s.length ≤ 40 * n → s.length ≤ 100000 → outs.length + n ≤ 100000 →
    Ev (fun k => spec_l5Lines.l0 k (S s) 40 (SL outs)) (SL (outs ++ lines40 n s)) := by
  intro n
  induction n with
  | zero =>
    intro s outs hs hs2 ho
    refine Ev.step (fun k => by rw [spec_l5Lines.l0]) ?_
    rw [size_S, SL_length, SL_one, SL_append]
    refine ev_neg (by omega) (ev_pos (by omega) (Ev.now _))
  | succ n ih =>
    intro s outs hs hs2 ho
    refine Ev.step (fun k => by rw [spec_l5Lines.l0]) ?_
    simp only [size_S, SL_length, extract_S, SL_one, SL_append]
    by_cases c : s.length > 40
    · refine ev_pos (by omega) (ev_pos (by omega) (ev_pos (by omega) (ev_pos (by omega) ?_)))
      have e1 : ((s.drop ((40 : Int)).toNat).take (s.length - ((40 : Int)).toNat)) = s.drop 40 := by
        show (s.drop 40).take (s.length - 40) = s.drop 40
        rw [List.take_of_length_le (by rw [List.length_drop]; omega)]
      have e2 : ((s.drop 0).take (((40 : Int)).toNat - 0)) = s.take 40 := rfl
      rw [e1, e2]
      have := ih (s.drop 40) (outs ++ [s.take 40]) (by rw [List.length_drop]; omega) (by rw [List.length_drop]; omega) (by simp; omega)
      rw [lines40, if_pos c]
      simpa using this
    · refine ev_neg (by omega) (ev_pos (by omega) ?_)
      rw [lines40, if_neg c]
      exact Ev.now _

theorem spec_baseR (b : List UInt8) : Ev (fun k => spec_EncodeBase.f k (S b)) (baseR b) := by
  simp only [spec_EncodeBase.f, size_S]
  unfold baseR
  by_cases h : b.length > 300
  · rw [if_pos h]
    exact ev_pos (by omega) (Ev.now _)
  · rw [if_neg h]
    refine ev_neg (by omega) ?_
    refine Ev.bind (spec_base b (by omega)) ?_
    have hbl := base_length b
    have := spec_lines_loop 20 (base b) [] (by omega) (by omega) (by simp)
    rw [List.nil_append] at this
    refine Ev.bind (show Ev (fun k => spec_l5Lines.f k (S (base b)) 40) (SL (lines40 20 (base b))) from this) ?_
    exact Ev.now _

theorem spec_text (s : List UInt8) (hl : s.length ≤ 1000000000000) : Ev (fun k => spec_TextValid.f k (S s)) (decide (textOK s)) := by
  simp only [spec_TextValid.f]
  have loop : ∀ (e i : Nat), i + e = s.length → i ≤ 201 → (∀ j (h : j < s.length), j < i → 32 ≤ s[j].toNat ∧ s[j].toNat ≤ 126) → Ev (fun k => spec_TextValid.l0 k (S s) (i : Int)) (decide (textOK s)) := by
    intro e
    induction e with
    | zero =>
      intro i hi h2 hp
      have e1 : decide ((s.length : Int) ≤ 200) = decide (textOK s) := by
        rw [decide_eq_decide]
        constructor
        · intro q
          refine ⟨by omega, fun c hc => ?_⟩
          obtain ⟨j, hj, rfl⟩ := List.mem_iff_getElem.1 hc
          exact hp j hj (by omega)
        · intro q
          have := q.1
          omega
      refine Ev.step (fun k => by rw [spec_TextValid.l0]) ?_
      rw [size_S]
      refine ev_neg (by omega) ?_
      refine Ev.step (fun k => by rw [spec_TextValid.j1]) ?_
      rw [size_S, e1]
      exact ev_neg (by decide) (Ev.now _)
    | succ e ih =>
      intro i hi h2 hp
      have hlt : i < s.length := by omega
      have hg : s.getD i 0 = s[i] := by rw [List.getD_eq_getElem?_getD, List.getElem?_eq_getElem hlt]; rfl
      have w : wrap64 ((i : Int) + 1) = ((i + 1 : Nat) : Int) := by rw [w64 (by omega) (by omega)]; omega
      refine Ev.step (fun k => by rw [spec_TextValid.l0]) ?_
      rw [size_S]
      refine ev_pos (by omega) ?_
      by_cases h200 : i ≤ 200
      · rw [decide_eq_true (show (i : Int) ≤ 200 by omega)]
        refine Ev.step (fun k => by rw [spec_TextValid.j1]) ?_
        simp only [size_S, bt_S, Int.toNat_natCast, hg, w]
        refine ev_pos trivial (ev_pos (by omega) (ev_pos (by omega) ?_))
        by_cases hc : 32 ≤ s[i].toNat ∧ s[i].toNat ≤ 126
        · refine ev_neg (by omega) (ev_neg (by omega) (ih (i + 1) (by omega) (by omega) ?_))
          intro j hj hji
          by_cases q : j = i
          · subst q
            exact hc
          · exact hp j hj (by omega)
        · have e1 : decide (textOK s) = false := decide_eq_false (fun q => hc (q.2 s[i] (List.getElem_mem hlt)))
          rw [e1]
          by_cases h3 : (s[i].toNat : Int) < 32
          · exact ev_pos h3 (Ev.now _)
          · exact ev_neg h3 (ev_pos (by omega) (Ev.now _))
      · rw [decide_eq_false (show ¬ (i : Int) ≤ 200 by omega)]
        have e1 : decide (textOK s) = false := decide_eq_false (fun q => by have := q.1; omega)
        refine Ev.step (fun k => by rw [spec_TextValid.j1]) ?_
        rw [size_S, e1]
        refine ev_neg (by decide) (ev_is ?_)
        rw [decide_eq_false (by omega)]
  exact loop s.length 0 (by omega) (by omega) (fun j _ h => by omega)

theorem l2parts_loop (c : UInt8) (s : List UInt8) (hl : s.length ≤ 2000000) : ∀ (e i st : Nat) (outs : List (List UInt8)), i + e = s.length → st ≤ i → outs.length ≤ st → (∀ x ∈ (s.drop st).take (i - st), x ≠ c) →
    Ev (fun k => spec_l2Parts.l0 k (S s) (c.toNat : Int) (SL outs) (st : Int) (i : Int)) (SL (outs ++ parts c (s.drop st))) := by
  intro e
  induction e with
  | zero =>
    intro i st outs hi hst ho hn
    rw [List.take_of_length_le (by rw [List.length_drop]; omega)] at hn
    refine Ev.step (fun k => by rw [spec_l2Parts.l0]) ?_
    simp only [size_S, SL_length, Int.toNat_natCast, extract_S]
    have e1 : SL outs ++ [S ((s.drop st).take (s.length - st))] = SL (outs ++ parts c (s.drop st)) := by
      rw [List.take_of_length_le (by rw [List.length_drop]; omega), parts_none hn, SL_one, SL_append]
    rw [e1]
    exact ev_neg (by omega) (ev_pos (by omega) (ev_pos (by omega) (ev_pos (by omega) (Ev.now _))))
  | succ e ih =>
    intro i st outs hi hst ho hn
    have hlt : i < s.length := by omega
    have hg : s.getD i 0 = s[i] := by rw [List.getD_eq_getElem?_getD, List.getElem?_eq_getElem hlt]; rfl
    have w : wrap64 ((i : Int) + 1) = ((i + 1 : Nat) : Int) := by rw [w64 (by omega) (by omega)]; omega
    refine Ev.step (fun k => by rw [spec_l2Parts.l0]) ?_
    simp only [size_S, SL_length, bt_S, Int.toNat_natCast, hg, w, extract_S]
    refine ev_pos (by omega) (ev_pos (by omega) ?_)
    by_cases hc : s[i] = c
    · have h := ih (i + 1) (i + 1) (outs ++ [(s.drop st).take (i - st)]) (by omega) (by omega) (by simp; omega) (by rw [Nat.sub_self]; simp)
      have sh : s.drop st = (s.drop st).take (i - st) ++ c :: s.drop (i + 1) := by
        have h1 : (s.drop st).drop (i - st) = s[i] :: s.drop (i + 1) := by rw [List.drop_drop, show st + (i - st) = i by omega]; exact drop_cons hlt
        rw [← hc, ← h1, List.take_append_drop]
      have hp : parts c (s.drop st) = (s.drop st).take (i - st) :: parts c (s.drop (i + 1)) := by
        have := parts_cut (s.drop (i + 1)) hn
        rw [← sh] at this
        exact this
      rw [SL_one, SL_append, hp]
      rw [List.append_assoc] at h
      exact ev_pos (by rw [hc]) (ev_pos (by omega) (ev_pos (by omega) (ev_pos (by omega) (ev_pos (by omega) h))))
    · refine ev_neg (fun q => hc (u8_eq.1 q)) (ih (i + 1) st outs (by omega) (by omega) ho ?_)
      intro x hx
      have e1 : (s.drop st).take (i + 1 - st) = (s.drop st).take (i - st) ++ [s[i]] := by
        rw [show i + 1 - st = i - st + 1 by omega, List.take_succ_eq_append_getElem (by rw [List.length_drop]; omega)]
        simp [List.getElem_drop, show st + (i - st) = i by omega]
      rw [e1] at hx
      rcases List.mem_append.1 hx with hx | hx
      · exact hn x hx
      · simp only [List.mem_singleton] at hx
        rw [hx]
        exact hc
theorem l2parts (c : UInt8) (s : List UInt8) (hl : s.length ≤ 2000000) : Ev (fun k => spec_l2Parts.f k (S s) (c.toNat : Int)) (SL (parts c s)) := by
  simp only [spec_l2Parts.f, SL_nil]
  have := l2parts_loop c s hl s.length 0 0 [] (by omega) (by omega) (by simp) (by simp)
  rwa [List.drop_zero, List.nil_append] at this

theorem spec_plain (b : List UInt8) (hl : b.length ≤ 1048576) : Ev (fun k => spec_l5Plain.f k (S b)) (if ∀ l ∈ parts 10 b, okL l then (SL (parts 10 b), decide (b.length ≤ 300)) else ([], false)) := by
  have hp := l2parts 10 b (by omega)
  have hpl := parts_length 10 b
  have e10 : (((10 : UInt8).toNat : Nat) : Int) = 10 := rfl
  rw [e10] at hp
  simp only [spec_l5Plain.f]
  refine Ev.bind hp ?_
  have he := parts_each 10 b
  generalize parts 10 b = ls at he hpl ⊢
  have loop : ∀ (e i : Nat), i + e = ls.length → (∀ j (h : j < ls.length), j < i → okL ls[j]) → Ev (fun k => spec_l5Plain.l0 k (S b) (SL ls) (i : Int)) (if ∀ l ∈ ls, okL l then (SL ls, decide (b.length ≤ 300)) else ([], false)) := by
    intro e
    induction e with
    | zero =>
      intro i hi hj
      have c1 : ∀ l ∈ ls, okL l := fun l hm => by
        obtain ⟨j, h, rfl⟩ := List.mem_iff_getElem.1 hm
        exact hj j h (by omega)
      rw [if_pos c1]
      refine Ev.step (fun k => by rw [spec_l5Plain.l0]) ?_
      rw [SL_length, size_S]
      refine ev_neg (by omega) (ev_is ?_)
      have : decide ((b.length : Int) ≤ 300) = decide (b.length ≤ 300) := by
        rw [decide_eq_decide]
        omega
      rw [this]
    | succ e ih =>
      intro i hi hj
      have hlt : i < ls.length := by omega
      have w : wrap64 ((i : Int) + 1) = ((i + 1 : Nat) : Int) := by rw [w64 (by omega) (by omega)]; omega
      have hle := (he ls[i] (List.getElem_mem hlt)).1
      have ht := spec_text ls[i] (by omega)
      refine Ev.step (fun k => by rw [spec_l5Plain.l0]) ?_
      simp only [SL_length, rdOf_SL _ ls i hlt, w, size_S]
      by_cases h40 : ls[i].length ≤ 40
      · by_cases hx : textOK ls[i]
        · rw [decide_eq_true hx] at ht
          refine ev_pos (by omega) (ev_pos (by omega) (ev_neg (by omega) (Ev.bind ht (ev_pos rfl (ih (i + 1) (by omega) ?_)))))
          intro j h hji
          by_cases q : j = i
          · subst q
            exact ⟨hx, h40⟩
          · exact hj j h (by omega)
        · have c1 : ¬ ∀ l ∈ ls, okL l := fun z => hx (z _ (List.getElem_mem hlt)).1
          rw [decide_eq_false hx] at ht
          rw [if_neg c1]
          exact ev_pos (by omega) (ev_pos (by omega) (ev_neg (by omega) (Ev.bind ht (ev_neg (by decide) (Ev.now _)))))
      · have c1 : ¬ ∀ l ∈ ls, okL l := fun z => h40 (z _ (List.getElem_mem hlt)).2
        rw [if_neg c1]
        exact ev_pos (by omega) (ev_pos (by omega) (ev_pos (by omega) (Ev.now _)))
  exact loop ls.length 0 (by omega) (fun j _ h => by omega)

theorem impl_hex (c : UInt8) : impl_hexByte.f (c.toNat : Int) = some (S (hex3 c)) := by
  have hc := c.toNat_lt
  unfold impl_hexByte.f
  have a : bits .and .u8 (c.toNat : Int) 15 = ((c.toNat % 16 : Nat) : Int) := by
    rw [u8_and15 _ (by omega) (by omega)]
    omega
  have b : ((c.toNat : Int) / 16) = ((c.toNat / 16 : Nat) : Int) := by omega
  have e1 : ((((c.toNat / 16 : Nat) : Int) + 1) % 256) = (((c.toNat / 16) + 1 : Nat) : Int) := by omega
  have e2 : ((((c.toNat % 16 : Nat) : Int) + 1) % 256) = (((c.toNat % 16) + 1 : Nat) : Int) := by omega
  have x1 := extract_digit (c.toNat / 16) (by omega)
  have x2 := extract_digit (c.toNat % 16) (by omega)
  simp only [a, b, e1, e2, Int.toNat_natCast, x1, x2, mk_S, append_S, size_S]
  rw [if_pos (by omega), if_pos (by omega), if_pos (by omega), if_pos (by simp), if_pos (by omega), if_pos (by omega), if_pos (by omega), if_pos (by simp)]
  rfl


theorem impl_quot_loop (b : List UInt8) (hb : b.length ≤ 300) : ∀ (e i : Nat) (outs : List (List UInt8)) (line : List UInt8), i + e = b.length → outs.length ≤ i → line.length ≤ 42 →
    Ev (fun k => impl_EncodeQuoted.l0 k (S b) (SL outs) (S line) (b.length : Int) (i : Int)) (SL (outs ++ encQ (b.drop i) line), true) := by
  intro e
  induction e with
  | zero =>
    intro i outs line hi ho hl
    refine Ev.step (fun k => by rw [impl_EncodeQuoted.l0]) ?_
    simp only [size_S, SL_length]
    refine ev_neg (by omega) (ev_pos (by omega) ?_)
    rw [List.drop_of_length_le (by omega), SL_one, SL_append]
    exact Ev.now _
  | succ e ih =>
    intro i outs line hi ho hl
    have hlt : i < b.length := by omega
    have w : wrap64 ((i : Int) + 1) = ((i + 1 : Nat) : Int) := by rw [w64 (by omega) (by omega)]; omega
    have hg : b.getD i 0 = b[i] := by rw [List.getD_eq_getElem?_getD, List.getElem?_eq_getElem hlt]; rfl
    have hone : (S b).extract i (i + 1) = S [b[i]] := by
      rw [extract_S, Nat.add_sub_cancel_left, take_one hlt]
    -- the byte's own text, and what follows
    have step : ∀ (last : Bool) (own : List UInt8), last = lastQ (b.drop (i + 1)) → own = quoteB b[i] last →
        Ev (fun k => if wrap64 ((line.length : Int) + (own.length : Int)) > 39 then
            (if line.length + 1 ≤ 9223372036854775807 then (if outs.length < 8796093022208 then (if 0 + own.length ≤ 9223372036854775807 then
              impl_EncodeQuoted.l0 k (S b) (SL (outs ++ [line ++ [61]])) (S ([] ++ own)) (b.length : Int) ((i + 1 : Nat) : Int) else none) else none) else none)
            else (if line.length + own.length ≤ 9223372036854775807 then impl_EncodeQuoted.l0 k (S b) (SL outs) (S (line ++ own)) (b.length : Int) ((i + 1 : Nat) : Int) else none))
          (SL (outs ++ encQ (b[i] :: b.drop (i + 1)) line), true) ∨ b[i].toNat = 10 := by
      intro last own hlast hown
      by_cases c10 : b[i].toNat = 10
      · exact .inr c10
      left
      obtain ⟨q1, q2⟩ := quoteB_length b[i] last
      rw [← hown] at q1 q2
      have w2 : wrap64 ((line.length : Int) + (own.length : Int)) = ((line.length + own.length : Nat) : Int) := by rw [w64 (by omega) (by omega)]; omega
      rw [w2]
      by_cases c39 : line.length + own.length > 39
      · refine ev_pos (by omega) (ev_pos (by omega) (ev_pos (by omega) (ev_pos (by omega) ?_)))
        have := ih (i + 1) (outs ++ [line ++ [61]]) own (by omega) (by simp; omega) (by omega)
        have e1 : encQ (b[i] :: b.drop (i + 1)) line = (line ++ [61]) :: encQ (b.drop (i + 1)) own := by
          rw [encQ, if_neg (by omega), ← hlast, ← hown, if_pos c39]
        rw [e1]
        simpa using this
      · refine ev_neg (by omega) (ev_pos (by omega) ?_)
        have := ih (i + 1) outs (line ++ own) (by omega) (by omega) (by simp; omega)
        have e1 : encQ (b[i] :: b.drop (i + 1)) line = encQ (b.drop (i + 1)) (line ++ own) := by
          rw [encQ, if_neg (by omega), ← hlast, ← hown, if_neg c39]
        rw [e1]
        exact this
    refine Ev.step (fun k => by rw [impl_EncodeQuoted.l0]) ?_
    simp only [size_S, SL_length, w, bt_S, Int.toNat_natCast, mk_S, SL_one, SL_append, hg]
    refine ev_pos (by omega) (ev_pos (by omega) (ev_pos (by omega) ?_))
    rw [drop_cons hlt]
    by_cases c10 : ((b[i]).toNat : Int) = 10
    · refine ev_pos c10 (ev_pos (by omega) ?_)
      have := ih (i + 1) (outs ++ [line]) [] (by omega) (by simp; omega) (by simp)
      have e1 : encQ (b[i] :: b.drop (i + 1)) line = line :: encQ (b.drop (i + 1)) [] := by
        rw [encQ, if_pos (by omega)]
      rw [e1]
      simpa using this
    refine ev_neg c10 ?_
    have hj2 : ∀ (last c : Bool), last = lastQ (b.drop (i + 1)) → c = plainQ b[i] last →
        Ev (fun k => impl_EncodeQuoted.j2 k (S b) (SL outs) (S line) (i : Int) (S (hex3 b[i])) (b.length : Int) (i : Int) c) (SL (outs ++ encQ (b[i] :: b.drop (i + 1)) line), true) := by
      intro last c hlast hc
      refine Ev.step (fun k => by rw [impl_EncodeQuoted.j2]) ?_
      simp only [size_S, SL_length, w, Int.toNat_natCast, mk_S, SL_one, SL_append, append_S, hone]
      have hq : (if c = true then [b[i]] else hex3 b[i]) = quoteB b[i] last := by unfold quoteB; rw [hc]
      cases c with
      | true =>
        refine ev_pos rfl (ev_pos (by omega) (ev_pos (by omega) (ev_pos (by omega) ?_)))
        exact (step last [b[i]] hlast hq).resolve_right (by omega)
      | false =>
        refine ev_neg (by simp) ?_
        exact (step last (hex3 b[i]) hlast hq).resolve_right (by omega)
    have hj1 : ∀ (last : Bool), last = lastQ (b.drop (i + 1)) →
        Ev (fun k => impl_EncodeQuoted.j1 k (S b) (SL outs) (S line) (i : Int) (S (hex3 b[i])) last (b.length : Int) (i : Int)) (SL (outs ++ encQ (b[i] :: b.drop (i + 1)) line), true) := by
      intro last hlast
      refine Ev.step (fun k => by rw [impl_EncodeQuoted.j1]) ?_
      simp only [size_S, bt_S, Int.toNat_natCast, hg]
      refine ev_pos (by omega) (ev_pos (by omega) ?_)
      by_cases h1 : (b[i].toNat : Int) ≥ 33
      · refine ev_pos h1 ?_
        by_cases h2 : (b[i].toNat : Int) ≤ 126
        · refine ev_pos h2 ?_
          by_cases h3 : (b[i].toNat : Int) = 61
          · refine ev_pos h3 (ev_neg (by omega) (hj2 last false hlast ?_))
            have : b[i].toNat = 61 := by omega
            unfold plainQ
            simp [this]
          · refine ev_neg h3 (hj2 last true hlast ?_)
            have : 33 ≤ b[i].toNat ∧ b[i].toNat ≤ 126 ∧ b[i].toNat ≠ 61 := by omega
            unfold plainQ
            simp [this]
        · refine ev_neg h2 (ev_neg (by omega) (hj2 last false hlast ?_))
          have a : ¬ (33 ≤ b[i].toNat ∧ b[i].toNat ≤ 126 ∧ b[i].toNat ≠ 61) := by omega
          have c : ¬ b[i].toNat = 32 := by omega
          unfold plainQ
          simp [a, c]
      · refine ev_neg h1 ?_
        have a : ¬ (33 ≤ b[i].toNat ∧ b[i].toNat ≤ 126 ∧ b[i].toNat ≠ 61) := by omega
        by_cases h3 : (b[i].toNat : Int) = 32
        · refine ev_pos h3 (hj2 last (!last) hlast ?_)
          have : b[i].toNat = 32 := by omega
          unfold plainQ
          cases last <;> simp [this]
        · refine ev_neg h3 (hj2 last false hlast ?_)
          have c : ¬ b[i].toNat = 32 := by omega
          unfold plainQ
          simp [a, c]
    refine ev_bind0 (impl_hex b[i]) ?_
    by_cases hend : ((i + 1 : Nat) : Int) = (b.length : Int)
    · refine ev_pos hend ?_
      exact hj1 true (by rw [List.drop_of_length_le (by omega)]; rfl)
    · refine ev_neg hend (ev_pos (by omega) (ev_pos (by omega) ?_))
      have hlt2 : i + 1 < b.length := by omega
      have hg2 : b.getD (i + 1) 0 = b[i + 1] := by rw [List.getD_eq_getElem?_getD, List.getElem?_eq_getElem hlt2]; rfl
      rw [hg2]
      refine hj1 _ ?_
      rw [drop_cons hlt2]
      show _ = decide _
      rw [Bool.eq_iff_iff]
      simp
      omega

theorem impl_quot (b : List UInt8) : Ev (fun k => impl_EncodeQuoted.f k (S b)) (quotR b) := by
  simp only [impl_EncodeQuoted.f, size_S]
  unfold quotR
  by_cases h : b.length > 300
  · rw [if_pos h]
    exact ev_pos (by omega) (Ev.now _)
  · rw [if_neg h]
    refine ev_neg (by omega) ?_
    have := impl_quot_loop b (by omega) b.length 0 [] [] (by omega) (by simp) (by simp)
    rw [List.drop_zero, List.nil_append] at this
    exact this

theorem impl_digits {b out : List UInt8} {i many n : Nat} {R : ByteArray} (hn : n < 16777216) (hm : many ≤ 3)
    (H : Ev (fun k => impl_letters.l2 k (S b) (NI out) (i : Int) (NI [let6 (n / 262144), let6 (n / 4096 % 64), let6 (n / 64 % 64), let6 (n % 64)]) ((many + 1 : Nat) : Int)) R) :
    Ev (fun k => impl_letters.l1 k (S b) (NI out) (i : Int) (many : Int) (n : Int) ((3 : Nat) : Int)) R := by
  have w : wrap64 ((many : Int) + 1) = ((many + 1 : Nat) : Int) := by rw [w64 (by omega) (by omega)]; omega
  have e0 : (n : Int) / 262144 = ((n / 262144 : Nat) : Int) := by omega
  have e1 : bits .and .i64 ((n : Int) / 4096) 63 = ((n / 4096 % 64 : Nat) : Int) := by rw [and63 (by omega) (by omega)]; omega
  have e2 : bits .and .i64 ((n : Int) / 64) 63 = ((n / 64 % 64 : Nat) : Int) := by rw [and63 (by omega) (by omega)]; omega
  have e3 : bits .and .i64 (n : Int) 63 = ((n % 64 : Nat) : Int) := by rw [and63 (by omega) (by omega)]; omega
  have el : ∀ x : Nat, bt (⟨#[65, 66, 67, 68, 69, 70, 71, 72, 73, 74, 75, 76, 77, 78, 79, 80, 81, 82, 83, 84, 85, 86, 87, 88, 89, 90, 97, 98, 99, 100, 101, 102, 103, 104, 105, 106, 107, 108, 109, 110, 111, 112, 113, 114, 115, 116, 117, 118, 119, 120, 121, 122, 48, 49, 50, 51, 52, 53, 54, 55, 56, 57, 43, 47]⟩ : ByteArray) (x : Int) = ((let6 x).toNat : Int) := by
    intro x
    exact bt_S b64 (x : Int)
  have hl : ([((let6 (n / 262144)).toNat : Int), ((let6 (n / 4096 % 64)).toNat : Int), ((let6 (n / 64 % 64)).toNat : Int), ((let6 (n % 64)).toNat : Int)] : List Int) = NI [let6 (n / 262144), let6 (n / 4096 % 64), let6 (n / 64 % 64), let6 (n % 64)] := rfl
  refine Ev.step (fun k => by rw [impl_letters.l1]) ?_
  simp only [w, e0, e1, e2, e3, el, hl]
  clear w e0 e1 e2 e3 el hl
  refine ev_neg (by omega) (ev_pos (by omega) (ev_pos (by omega) (ev_pos (by omega) (ev_pos (by omega) (ev_pos (by omega) (ev_pos (by omega) (ev_pos (by omega) (ev_pos (by omega) ?_))))))))
  exact H

theorem impl_take {b out : List UInt8} {i many j n : Nat} {R : ByteArray} (c : UInt8) (hc : b.getD (i + j) 0 = c) (hj : j < 3) (hjm : j < many) (hi : i + j < b.length) (hb : b.length ≤ 300) (hn : n < 65536)
    (H : Ev (fun k => impl_letters.l1 k (S b) (NI out) (i : Int) (many : Int) ((n * 256 + c.toNat : Nat) : Int) ((j + 1 : Nat) : Int)) R) :
    Ev (fun k => impl_letters.l1 k (S b) (NI out) (i : Int) (many : Int) (n : Int) (j : Int)) R := by
  have x0 := c.toNat_lt
  obtain ⟨w, w2⟩ : wrap64 ((i : Int) + (j : Int)) = ((i + j : Nat) : Int) ∧ wrap64 ((j : Int) + 1) = ((j + 1 : Nat) : Int) := ⟨by rw [w64 (by omega) (by omega)]; omega, by rw [w64 (by omega) (by omega)]; omega⟩
  have w3 : wrap64 ((c.toNat : Nat) : Int) = ((c.toNat : Nat) : Int) := w64 (by omega) (by omega)
  have w4 : wrap64 ((n : Int) * 256) = ((n * 256 : Nat) : Int) := by rw [w64 (by omega) (by omega)]; omega
  have w5 : wrap64 (((n * 256 : Nat) : Int) + ((c.toNat : Nat) : Int)) = ((n * 256 + c.toNat : Nat) : Int) := by rw [w64 (by omega) (by omega)]; omega
  refine Ev.step (fun k => by rw [impl_letters.l1]) ?_
  simp only [w, w2, size_S, bt_S, Int.toNat_natCast, hc, w3, w4, w5]
  clear w w2 w3 w4 w5
  refine ev_pos (by omega) (ev_pos (by omega) (ev_pos (by omega) (ev_pos (by omega) ?_)))
  exact H

theorem impl_skip {b out : List UInt8} {i many j n : Nat} {R : ByteArray} (hj : j < 3) (hjm : many ≤ j) (hn : n < 65536)
    (H : Ev (fun k => impl_letters.l1 k (S b) (NI out) (i : Int) (many : Int) ((n * 256 : Nat) : Int) ((j + 1 : Nat) : Int)) R) :
    Ev (fun k => impl_letters.l1 k (S b) (NI out) (i : Int) (many : Int) (n : Int) (j : Int)) R := by
  have w2 : wrap64 ((j : Int) + 1) = ((j + 1 : Nat) : Int) := by rw [w64 (by omega) (by omega)]; omega
  have w4 : wrap64 ((n : Int) * 256) = ((n * 256 : Nat) : Int) := by rw [w64 (by omega) (by omega)]; omega
  refine Ev.step (fun k => by rw [impl_letters.l1]) ?_
  rw [w2, w4]
  clear w2 w4
  refine ev_pos (by omega) (ev_neg (by omega) ?_)
  exact H

theorem impl_pad {b out l : List UInt8} {i j : Nat} {R : ByteArray} (hl : l.length = 4) (hj : j < 4)
    (H : Ev (fun k => impl_letters.l2 k (S b) (NI out) (i : Int) (NI (l.set j 61)) ((j + 1 : Nat) : Int)) R) :
    Ev (fun k => impl_letters.l2 k (S b) (NI out) (i : Int) (NI l) (j : Int)) R := by
  have w2 : wrap64 ((j : Int) + 1) = ((j + 1 : Nat) : Int) := by rw [w64 (by omega) (by omega)]; omega
  have hs : (NI l).set j 61 = NI (l.set j 61) := by
    unfold NI
    rw [List.map_set]
    rfl
  refine Ev.step (fun k => by rw [impl_letters.l2]) ?_
  rw [w2, NI_length, Int.toNat_natCast, hs]
  refine ev_pos (by omega) (ev_pos (by omega) (ev_pos (by omega) ?_))
  exact H

theorem impl_group {b out l : List UInt8} {i : Nat} {R : ByteArray} (hl : l.length = 4) (ho : out.length ≤ 1000) (hi : i ≤ 400)
    (H : Ev (fun k => impl_letters.l0 k (S b) (NI (out ++ l)) ((i + 3 : Nat) : Int)) R) :
    Ev (fun k => impl_letters.l2 k (S b) (NI out) (i : Int) (NI l) ((4 : Nat) : Int)) R := by
  have w2 : wrap64 ((i : Int) + 3) = ((i + 3 : Nat) : Int) := by rw [w64 (by omega) (by omega)]; omega
  refine Ev.step (fun k => by rw [impl_letters.l2]) ?_
  rw [w2, NI_length, NI_length, NI_append]
  refine ev_neg (by omega) (ev_pos (by omega) ?_)
  exact H

theorem mn3 {x : Int} {m : Nat} (h : (m : Int) = if 3 < x then 3 else x) : mn x 3 = (m : Int) := by
  unfold mn
  rw [h]

theorem impl_one {b out : List UInt8} {i : Nat} {R : ByteArray} (a : UInt8) (ha : b.getD (i + 0) 0 = a) (h0 : i + 0 < b.length) (hb : b.length ≤ 300) (ho : out.length ≤ 1000)
    (H : Ev (fun k => impl_letters.l0 k (S b) (NI (out ++ [let6 (a.toNat / 4), let6 (a.toNat % 4 * 16), 61, 61])) ((i + 3 : Nat) : Int)) R) :
    Ev (fun k => impl_letters.l1 k (S b) (NI out) (i : Int) ((1 : Nat) : Int) ((0 : Nat) : Int) ((0 : Nat) : Int)) R := by
  obtain ⟨q1, q2, q3, e0, e1⟩ := nA (u8_lt a)
  refine impl_take (j := 0) (n := 0) a ha (by omega) (by omega) h0 hb (by decide) ?_
  refine impl_skip (j := 1) (n := 0 * 256 + a.toNat) (by omega) (by omega) q1 ?_
  refine impl_skip (j := 2) (n := (0 * 256 + a.toNat) * 256) (by omega) (by omega) q2 ?_
  refine impl_digits (n := (0 * 256 + a.toNat) * 256 * 256) q3 (by omega) ?_
  refine impl_pad (j := 2) rfl (by omega) ?_
  refine impl_pad (j := 3) rfl (by omega) ?_
  refine impl_group rfl (by omega) (by omega) ?_
  show Ev (fun k => impl_letters.l0 k (S b) (NI (out ++ [let6 ((0 * 256 + a.toNat) * 256 * 256 / 262144), let6 ((0 * 256 + a.toNat) * 256 * 256 / 4096 % 64), 61, 61])) ((i + 3 : Nat) : Int)) _
  rw [e0, e1]
  exact H

theorem impl_two {b out : List UInt8} {i : Nat} {R : ByteArray} (a c : UInt8) (ha : b.getD (i + 0) 0 = a) (hc : b.getD (i + 1) 0 = c) (h1 : i + 1 < b.length) (hb : b.length ≤ 300) (ho : out.length ≤ 1000)
    (H : Ev (fun k => impl_letters.l0 k (S b) (NI (out ++ [let6 (a.toNat / 4), let6 (a.toNat % 4 * 16 + c.toNat / 16), let6 (c.toNat % 16 * 4), 61])) ((i + 3 : Nat) : Int)) R) :
    Ev (fun k => impl_letters.l1 k (S b) (NI out) (i : Int) ((2 : Nat) : Int) ((0 : Nat) : Int) ((0 : Nat) : Int)) R := by
  have g0 : i + 0 < b.length := by omega
  obtain ⟨q1, _, _, _, _⟩ := nA (u8_lt a)
  obtain ⟨q2, q3, e0, e1, e2⟩ := nB (u8_lt a) (u8_lt c)
  refine impl_take (j := 0) (n := 0) a ha (by omega) (by omega) g0 hb (by decide) ?_
  refine impl_take (j := 1) (n := 0 * 256 + a.toNat) c hc (by omega) (by omega) h1 hb q1 ?_
  refine impl_skip (j := 2) (n := (0 * 256 + a.toNat) * 256 + c.toNat) (by omega) (by omega) q2 ?_
  refine impl_digits (n := ((0 * 256 + a.toNat) * 256 + c.toNat) * 256) q3 (by omega) ?_
  refine impl_pad (j := 3) rfl (by omega) ?_
  refine impl_group rfl (by omega) (by omega) ?_
  show Ev (fun k => impl_letters.l0 k (S b) (NI (out ++ [let6 (((0 * 256 + a.toNat) * 256 + c.toNat) * 256 / 262144), let6 (((0 * 256 + a.toNat) * 256 + c.toNat) * 256 / 4096 % 64), let6 (((0 * 256 + a.toNat) * 256 + c.toNat) * 256 / 64 % 64), 61])) ((i + 3 : Nat) : Int)) _
  rw [e0, e1, e2]
  exact H

theorem impl_three {b out : List UInt8} {i : Nat} {R : ByteArray} (a c d : UInt8) (ha : b.getD (i + 0) 0 = a) (hc : b.getD (i + 1) 0 = c) (hd : b.getD (i + 2) 0 = d) (h2 : i + 2 < b.length) (hb : b.length ≤ 300) (ho : out.length ≤ 1000)
    (H : Ev (fun k => impl_letters.l0 k (S b) (NI (out ++ [let6 (a.toNat / 4), let6 (a.toNat % 4 * 16 + c.toNat / 16), let6 (c.toNat % 16 * 4 + d.toNat / 64), let6 (d.toNat % 64)])) ((i + 3 : Nat) : Int)) R) :
    Ev (fun k => impl_letters.l1 k (S b) (NI out) (i : Int) ((3 : Nat) : Int) ((0 : Nat) : Int) ((0 : Nat) : Int)) R := by
  have g0 : i + 0 < b.length := by omega
  have g1 : i + 1 < b.length := by omega
  obtain ⟨q1, _, _, _, _⟩ := nA (u8_lt a)
  obtain ⟨q2, _, _, _, _⟩ := nB (u8_lt a) (u8_lt c)
  obtain ⟨q3, e0, e1, e2, e3⟩ := nC (u8_lt a) (u8_lt c) (u8_lt d)
  refine impl_take (j := 0) (n := 0) a ha (by omega) (by omega) g0 hb (by decide) ?_
  refine impl_take (j := 1) (n := 0 * 256 + a.toNat) c hc (by omega) (by omega) g1 hb q1 ?_
  refine impl_take (j := 2) (n := (0 * 256 + a.toNat) * 256 + c.toNat) d hd (by omega) (by omega) h2 hb q2 ?_
  refine impl_digits (n := ((0 * 256 + a.toNat) * 256 + c.toNat) * 256 + d.toNat) q3 (by omega) ?_
  refine impl_group rfl (by omega) (by omega) ?_
  rw [e0, e1, e2, e3]
  exact H

theorem impl_letters_loop (b : List UInt8) (hb : b.length ≤ 300) : ∀ (e i : Nat) (out : List UInt8), b.length ≤ i + 3 * e → i ≤ b.length + 2 → out.length ≤ 2 * i →
    Ev (fun k => impl_letters.l0 k (S b) (NI out) (i : Int)) (S (out ++ base (b.drop i))) := by
  intro e
  induction e with
  | zero =>
    intro i out hi hi2 ho
    refine Ev.step (fun k => by rw [impl_letters.l0]) ?_
    rw [size_S, List.drop_of_length_le (by omega), strOfNums_NI]
    refine ev_neg (by omega) ?_
    rw [base, List.append_nil]
    exact Ev.now _
  | succ e ih =>
    intro i out hi hi2 ho
    refine Ev.step (fun k => by rw [impl_letters.l0]) ?_
    rw [size_S]
    by_cases c0 : b.length ≤ i
    · rw [List.drop_of_length_le c0, strOfNums_NI]
      refine ev_neg (by omega) ?_
      rw [base, List.append_nil]
      exact Ev.now _
    have h0 : i < b.length := by omega
    refine ev_pos (by omega) ?_
    have w0 : wrap64 ((b.length : Int) - (i : Int)) = ((b.length - i : Nat) : Int) := by rw [w64 (by omega) (by omega)]; omega
    rw [w0]
    clear w0
    by_cases c1 : b.length ≤ i + 1
    · have hd : b.drop i = [b[i]] := by rw [drop_cons h0, List.drop_of_length_le (by omega)]
      rw [mn3 (m := 1) (by omega)]
      refine impl_one b[i] (getD_at h0) h0 hb (by omega) ?_
      have := ih (i + 3) (out ++ [let6 (b[i].toNat / 4), let6 (b[i].toNat % 4 * 16), 61, 61]) (by omega) (by omega) (by rw [List.length_append]; show out.length + 4 ≤ 2 * (i + 3); omega)
      rw [List.drop_of_length_le (by omega : b.length ≤ i + 3), base, List.append_nil] at this
      rw [hd, base]
      exact this
    have h1 : i + 1 < b.length := by omega
    by_cases c2 : b.length ≤ i + 2
    · have hd : b.drop i = [b[i], b[i + 1]] := by rw [drop_cons h0, drop_cons h1, List.drop_of_length_le (by omega)]
      rw [mn3 (m := 2) (by omega)]
      refine impl_two b[i] b[i + 1] (getD_at h0) (getD_at h1) h1 hb (by omega) ?_
      have := ih (i + 3) (out ++ [let6 (b[i].toNat / 4), let6 (b[i].toNat % 4 * 16 + b[i + 1].toNat / 16), let6 (b[i + 1].toNat % 16 * 4), 61]) (by omega) (by omega) (by rw [List.length_append]; show out.length + 4 ≤ 2 * (i + 3); omega)
      rw [List.drop_of_length_le (by omega : b.length ≤ i + 3), base, List.append_nil] at this
      rw [hd, base]
      exact this
    have h2 : i + 2 < b.length := by omega
    have hd : b.drop i = b[i] :: b[i + 1] :: b[i + 2] :: b.drop (i + 3) := by rw [drop_cons h0, drop_cons h1, drop_cons h2]
    rw [mn3 (m := 3) (by omega)]
    refine impl_three b[i] b[i + 1] b[i + 2] (getD_at h0) (getD_at h1) (getD_at h2) h2 hb (by omega) ?_
    have := ih (i + 3) (out ++ [let6 (b[i].toNat / 4), let6 (b[i].toNat % 4 * 16 + b[i + 1].toNat / 16), let6 (b[i + 1].toNat % 16 * 4 + b[i + 2].toNat / 64), let6 (b[i + 2].toNat % 64)]) (by omega) (by omega) (by rw [List.length_append]; show out.length + 4 ≤ 2 * (i + 3); omega)
    rw [hd, base]
    rw [List.append_assoc] at this
    exact this

theorem impl_letters_ev (b : List UInt8) (hb : b.length ≤ 300) : Ev (fun k => impl_letters.f k (S b)) (S (base b)) := by
  simp only [impl_letters.f]
  have := impl_letters_loop b hb 100 0 [] (by omega) (by omega) (by simp)
  rw [List.drop_zero, List.nil_append] at this
  exact this


theorem impl_lines_loop : ∀ (n : Nat) (s : List UInt8) (outs : List (List UInt8)), s.length ≤ 40 * n → s.length ≤ 100000 → outs.length + n ≤ 100000 →
    Ev (fun k => impl_EncodeBase.l0 k (SL outs) (S s)) (SL (outs ++ lines40 n s), true) := by
  intro n
  induction n with
  | zero =>
    intro s outs hs hs2 ho
    refine Ev.step (fun k => by rw [impl_EncodeBase.l0]) ?_
    rw [size_S, SL_length, SL_one, SL_append]
    refine ev_neg (by omega) (ev_pos (by omega) (Ev.now _))
  | succ n ih =>
    intro s outs hs hs2 ho
    refine Ev.step (fun k => by rw [impl_EncodeBase.l0]) ?_
    simp only [size_S, SL_length, extract_S, SL_one, SL_append]
    by_cases c : s.length > 40
    · refine ev_pos (by omega) (ev_pos (by omega) (ev_pos (by omega) (ev_pos (by omega) ?_)))
      have e1 : ((s.drop 40).take (s.length - 40)) = s.drop 40 := List.take_of_length_le (by rw [List.length_drop]; omega)
      have e2 : ((s.drop 0).take (40 - 0)) = s.take 40 := rfl
      rw [e1, e2]
      have := ih (s.drop 40) (outs ++ [s.take 40]) (by rw [List.length_drop]; omega) (by rw [List.length_drop]; omega) (by simp; omega)
      rw [lines40, if_pos c]
      simpa using this
    · refine ev_neg (by omega) (ev_pos (by omega) ?_)
      rw [lines40, if_neg c]
      exact Ev.now _

theorem impl_baseR (b : List UInt8) : Ev (fun k => impl_EncodeBase.f k (S b)) (baseR b) := by
  simp only [impl_EncodeBase.f, size_S]
  unfold baseR
  by_cases h : b.length > 300
  · rw [if_pos h]
    exact ev_pos (by omega) (Ev.now _)
  · rw [if_neg h]
    refine ev_neg (by omega) ?_
    refine Ev.bind (impl_letters_ev b (by omega)) ?_
    have hbl := base_length b
    have := impl_lines_loop 20 (base b) [] (by omega) (by omega) (by simp)
    rw [List.nil_append] at this
    exact this

theorem impl_text (s : List UInt8) (hl : s.length ≤ 1000000000000) : Ev (fun k => impl_TextValid.f k (S s)) (decide (textOK s)) := by
  simp only [impl_TextValid.f, size_S]
  have loop : ∀ (e i : Nat), i + e = s.length → (∀ j (h : j < s.length), j < i → 32 ≤ s[j].toNat ∧ s[j].toNat ≤ 126) → Ev (fun k => impl_TextValid.l0 k (S s) (s.length : Int) (i : Int)) (decide (textOK s)) := by
    intro e
    induction e with
    | zero =>
      intro i hi hp
      have e1 : decide ((s.length : Int) ≤ 200) = decide (textOK s) := by
        rw [decide_eq_decide]
        constructor
        · intro q
          refine ⟨by omega, fun c hc => ?_⟩
          obtain ⟨j, hj, rfl⟩ := List.mem_iff_getElem.1 hc
          exact hp j hj (by omega)
        · intro q
          have := q.1
          omega
      refine Ev.step (fun k => by rw [impl_TextValid.l0]) ?_
      rw [size_S, e1]
      exact ev_neg (by omega) (Ev.now _)
    | succ e ih =>
      intro i hi hp
      have hlt : i < s.length := by omega
      have hg : s.getD i 0 = s[i] := by rw [List.getD_eq_getElem?_getD, List.getElem?_eq_getElem hlt]; rfl
      have w : wrap64 ((i : Int) + 1) = ((i + 1 : Nat) : Int) := by rw [w64 (by omega) (by omega)]; omega
      refine Ev.step (fun k => by rw [impl_TextValid.l0]) ?_
      simp only [size_S, bt_S, Int.toNat_natCast, hg, w]
      refine ev_pos (by omega) (ev_pos (by omega) (ev_pos (by omega) ?_))
      by_cases hc : 32 ≤ s[i].toNat ∧ s[i].toNat ≤ 126
      · refine ev_neg (by omega) (ev_neg (by omega) (ih (i + 1) (by omega) ?_))
        intro j hj hji
        by_cases q : j = i
        · subst q
          exact hc
        · exact hp j hj (by omega)
      · have e1 : decide (textOK s) = false := decide_eq_false (fun q => hc (q.2 s[i] (List.getElem_mem hlt)))
        rw [e1]
        by_cases h3 : (s[i].toNat : Int) < 32
        · exact ev_pos h3 (Ev.now _)
        · exact ev_neg h3 (ev_pos (by omega) (Ev.now _))
  exact loop s.length 0 (by omega) (fun j _ h => by omega)

theorem impl_plain (ls : List (List UInt8)) (hn : ls.length ≤ 1048576) (hb : ∀ l ∈ ls, l.length ≤ 1048576) : Ev (fun k => impl_arePlain.f k (SL ls)) (decide (ls ≠ [] ∧ ∀ l ∈ ls, okL l)) := by
  have hk : ∀ ms : List (List UInt8), (∀ l ∈ ms, l.length ≤ 1048576) → ∃ k, ∀ l ∈ ms, ∀ j, k ≤ j → impl_TextValid.f j (S l) = some (decide (textOK l)) := by
    intro ms
    induction ms with
    | nil => intro _; exact ⟨0, fun l hl => by cases hl⟩
    | cons x r ih =>
      intro h
      obtain ⟨k1, h1⟩ := ih (fun l hl => h l (by simp [hl]))
      obtain ⟨k2, h2⟩ := impl_text x (by have := h x (by simp); omega)
      refine ⟨max k1 k2, fun l hl j hj => ?_⟩
      rcases List.mem_cons.1 hl with hl | hl
      · rw [hl]; exact h2 j (by omega)
      · exact h1 l hl j (by omega)
  obtain ⟨k, hk⟩ := hk ls hb
  refine ⟨k, fun j hj => ?_⟩
  have hv : ∀ x ∈ SL ls, ∃ l ∈ ls, x = S l ∧ impl_TextValid.f j x = some (decide (textOK l)) := by
    intro x hx
    obtain ⟨l, hl, rfl⟩ := List.mem_map.1 hx
    exact ⟨l, hl, rfl, hk l hl j hj⟩
  show impl_arePlain.f j (SL ls) = some _
  unfold impl_arePlain.f
  rw [if_pos ⟨fun x hx => by obtain ⟨l, _, _, h⟩ := hv x hx; rw [h]; rfl, by rw [SL_length]; omega⟩]
  refine congrArg some ?_
  rw [SL_length, Bool.eq_iff_iff]
  simp only [Bool.and_eq_true, decide_eq_true_eq, Bool.not_eq_true', List.any_eq_false]
  constructor
  · rintro ⟨h1, h2⟩
    refine ⟨fun q => by rw [q] at h1; exact absurd h1 (by simp), fun l hl => ?_⟩
    have h3 := h2 (S l) (List.mem_map_of_mem hl)
    unfold impl_arePlain.p at h3
    rw [hk l hl j hj, Option.getD_some, size_S] at h3
    simp only [Bool.or_eq_true, Bool.not_eq_true', decide_eq_false_iff_not, decide_eq_true_eq, not_or, Decidable.not_not] at h3
    exact ⟨h3.1, by omega⟩
  · rintro ⟨h1, h2⟩
    refine ⟨List.length_pos_iff.2 h1, fun x hx => ?_⟩
    obtain ⟨l, hl, rfl, h⟩ := hv x hx
    have h3 := h2 l hl
    unfold impl_arePlain.p
    rw [h, Option.getD_some, size_S]
    simp only [Bool.or_eq_true, Bool.not_eq_true', decide_eq_false_iff_not, decide_eq_true_eq, not_or, Decidable.not_not]
    exact ⟨h3.1, by have := h3.2; omega⟩

theorem split1 (c : UInt8) (s : List UInt8) (hs : s.length < 4294967281) : strings_Split.f (S s) (⟨#[c]⟩ : ByteArray) = some (SL (parts c s)) := by
  unfold strings_Split.f
  have h : (⟨#[c]⟩ : ByteArray).size = 1 := rfl
  rw [if_pos ⟨by rw [size_S]; exact hs, h⟩, splitB_parts]

def bestR (b : List UInt8) : Int × Bool := if b.length > 300 then (0, false) else if ∀ l ∈ parts 10 b, okL l then (0, true) else if wsum (quotR b).1 0 ≤ wsum (baseR b).1 0 then (1, true) else (2, true)
theorem spec_best (b : List UInt8) (hl : b.length ≤ 1048576) : Ev (fun k => spec_BestCode.f k (S b)) (bestR b) := by
  simp only [spec_BestCode.f, size_S]
  have q1 := quotR_length b
  have q2 := baseR_length b
  by_cases h3 : b.length > 300
  · have e : bestR b = (0, false) := by unfold bestR; rw [if_pos h3]
    rw [e]
    exact ev_pos (by omega) (Ev.now _)
  · have hp := spec_plain b hl
    by_cases h4 : ∀ l ∈ parts 10 b, okL l
    · have e : bestR b = (0, true) := by unfold bestR; rw [if_neg h3, if_pos h4]
      rw [if_pos h4, decide_eq_true (show b.length ≤ 300 by omega)] at hp
      rw [e]
      exact ev_neg (by omega) (Ev.bind hp (ev_pos rfl (Ev.now _)))
    · rw [if_neg h4] at hp
      have e : bestR b = if wsum (quotR b).1 0 ≤ wsum (baseR b).1 0 then (1, true) else (2, true) := by unfold bestR; rw [if_neg h3, if_neg h4]
      refine ev_neg (by omega) (Ev.bind hp (ev_neg (by decide) (Ev.bind (spec_quot b) (Ev.bind (spec_baseR b) (Ev.bind (spec_size _ (by omega)) (Ev.bind (spec_size _ (by omega)) ?_))))))
      by_cases h5 : wsum (quotR b).1 0 ≤ wsum (baseR b).1 0
      · rw [if_pos h5] at e
        rw [e]
        exact ev_pos h5 (Ev.now _)
      · rw [if_neg h5] at e
        rw [e]
        exact ev_neg h5 (Ev.now _)
theorem impl_best (b : List UInt8) (hl : b.length ≤ 1048576) : Ev (fun k => impl_BestCode.f k (S b)) (bestR b) := by
  simp only [impl_BestCode.f]
  have q1 := quotR_length b
  have q2 := baseR_length b
  have q3 : (quotR b).2 = !decide (b.length > 300) := by
    unfold quotR
    by_cases h3 : b.length > 300
    · rw [if_pos h3, decide_eq_true h3]; rfl
    · rw [if_neg h3, decide_eq_false h3]; rfl
  have e10 : strings_Split.f (S b) (⟨#[10]⟩ : ByteArray) = some (SL (parts 10 b)) := split1 10 b (by omega)
  refine Ev.bind (impl_quot b) (Ev.bind (impl_baseR b) ?_)
  rw [e10, q3]
  by_cases h3 : b.length > 300
  · have e : bestR b = (0, false) := by unfold bestR; rw [if_pos h3]
    rw [e, decide_eq_true h3]
    exact ev_neg (by decide) (Ev.now _)
  · rw [decide_eq_false h3]
    have hpl := parts_length 10 b
    have he := parts_each 10 b
    have hp := impl_plain (parts 10 b) (by omega) (fun l hm => by have := (he l hm).1; omega)
    have hne := parts_ne 10 b
    by_cases h4 : ∀ l ∈ parts 10 b, okL l
    · have e : bestR b = (0, true) := by unfold bestR; rw [if_neg h3, if_pos h4]
      have h5 : parts 10 b ≠ [] ∧ ∀ l ∈ parts 10 b, okL l := ⟨hne, h4⟩
      rw [decide_eq_true h5] at hp
      rw [e]
      exact ev_pos rfl (Ev.bind (Ev.now _) (Ev.bind hp (ev_pos rfl (Ev.now _))))
    · have e : bestR b = if wsum (quotR b).1 0 ≤ wsum (baseR b).1 0 then (1, true) else (2, true) := by unfold bestR; rw [if_neg h3, if_neg h4]
      have h5 : ¬ (parts 10 b ≠ [] ∧ ∀ l ∈ parts 10 b, okL l) := fun z => h4 z.2
      rw [decide_eq_false h5] at hp
      refine ev_pos rfl (Ev.bind (Ev.now _) (Ev.bind hp (ev_neg (by decide) (Ev.bind (impl_size _ (by omega)) (Ev.bind (impl_size _ (by omega)) ?_)))))
      by_cases h6 : wsum (quotR b).1 0 ≤ wsum (baseR b).1 0
      · rw [if_pos h6] at e
        rw [e]
        exact ev_neg (by omega) (Ev.now _)
      · rw [if_neg h6] at e
        rw [e]
        exact ev_pos (by omega) (Ev.now _)

theorem FnExactBestCode : laws_FnExactBestCode.Pure := by
  intro a0 _
  obtain ⟨b, rfl⟩ := ex_S a0
  refine Ev.rounds ?_
  simp only [laws_FnExactBestCode.f]
  by_cases hl : ((S b).size : Int) > 1048576
  · exact ev_pos hl (Ev.now _)
  have hb : b.length ≤ 1048576 := by rw [size_S] at hl; omega
  refine ev_neg hl (Ev.bind (spec_best b hb) (Ev.bind (impl_best b hb) ?_))
  exact ev_pos rfl (ev_neg (by simp) (Ev.now _))

end Go.Proofs.YtdkgbemlfajhcaaDoor.PLFnExactBestCode
namespace Go.Proofs.YtdkgbemlfajhcaaDoor.Pure
open Go.Proofs.YtdkgbemlfajhcaaDoor.PFnExactBestCode
theorem FnExactBestCode : laws_FnExactBestCode.Pure := PLFnExactBestCode.FnExactBestCode
end Go.Proofs.YtdkgbemlfajhcaaDoor.Pure
