/- The law FnNameWide holds of the printed functions: coded words are as wide as can be. No conditions. -/
import Derived.Test.YtdkgbemlfajhcaaDoorPFnNameWidex6
import Derived.Test.YtdkgbemlfajhcaaDoorMBase
import Derived.Test.YtdkgbemlfajhcaaDoorMStr
import Derived.Test.YtdkgbemlfajhcaaDoorMQuot
import Derived.Test.YtdkgbemlfajhcaaDoorMCode
import Derived.Test.YtdkgbemlfajhcaaDoorMDecQ
import Derived.Test.YtdkgbemlfajhcaaDoorMRead
import Derived.Test.YtdkgbemlfajhcaaDoorMParts
import Derived.Test.YtdkgbemlfajhcaaDoorMName
import Derived.Test.YtdkgbemlfajhcaaDoorMEnc
import Derived.Test.YtdkgbemlfajhcaaDoorMWord
namespace Go.Proofs.YtdkgbemlfajhcaaDoor.PLFnNameWide
open Go.RowKit Go.Proofs.YtdkgbemlfajhcaaDoor.PFnNameWide Go.Proofs.YtdkgbemlfajhcaaDoorW.PrintWords Go.Proofs.YtdkgbemlfajhcaaDoorW.PrintLast Go.Proofs.YtdkgbemlfajhcaaDoorW.PrintMore Go.Proofs.YtdkgbemlfajhcaaDoor.M

theorem open_ex (l : List Int) (h : Bytes l) : ∃ b, spec_l13Open.f l = some (b, 0) ∧ Bytes b ∧ b.length ≤ 2000 := by
  unfold spec_l13Open.f
  by_cases e : (l.length : Int) > 2000
  · rw [if_pos e, if_pos (by omega)]
    exact ⟨_, rfl, bytes_take h _, by rw [List.length_take]; omega⟩
  · rw [if_neg e]
    exact ⟨_, rfl, h, by omega⟩

theorem pick_ev (b : List Int) (p n : Int) (hb : Bytes b) (hl : b.length ≤ 2000) (hp : 0 ≤ p) (hp1 : p ≤ 1000000) (hn : 1 ≤ n) :
    ∃ r, 0 ≤ r ∧ r < n ∧ Ev (fun k => spec_l13Rd_pick.f k b p n) (r, p + 1) := by
  have w1 : wrap64 (p + 1) = p + 1 := w64 (by omega) (by omega)
  have w2 : wrap64 (p + 1 - 1) = p := by
    rw [w64 (by omega) (by omega)]
    omega
  by_cases e0 : (b.length : Int) = 0
  · refine ⟨0, by omega, by omega, ?_⟩
    simp only [spec_l13Rd_pick.f]
    refine ev_neg (by omega) ?_
    rw [w1]
    refine Ev.step (fun k => by rw [spec_l13Rd_pick.j0]) ?_
    refine ev_pos (by simp [e0]) ?_
    exact Ev.now _
  · have f0 : ((b.length : Int) == 0) = false := beq_eq_false_iff_ne.mpr e0
    by_cases e1 : p < (b.length : Int)
    · obtain ⟨r0, r1⟩ := rd_bytes hb p
      have w3 : wrap64 (rd b p) = rd b p := w64 (by omega) (by omega)
      refine ⟨rd b p % n, Int.emod_nonneg _ (by omega), Int.emod_lt_of_pos _ (by omega), ?_⟩
      simp only [spec_l13Rd_pick.f]
      refine ev_neg (by omega) ?_
      rw [w1, f0]
      refine Ev.step (fun k => by rw [spec_l13Rd_pick.j0]) ?_
      simp only [w2, w3]
      refine ev_neg (by simp) (ev_pos e1 (ev_pos hp (ev_neg (by omega) ?_)))
      rw [Int.tmod_eq_emod_of_nonneg r0]
      exact Ev.now _
    · have hL : (0 : Int) < (b.length : Int) := by omega
      have t1 : Int.tmod p (b.length : Int) = p % (b.length : Int) := Int.tmod_eq_emod_of_nonneg hp
      have w4 : wrap64 (p * 7) = p * 7 := w64 (by omega) (by omega)
      have w5 : wrap64 (p * 7 + 3) = p * 7 + 3 := w64 (by omega) (by omega)
      have t2 : Int.tmod (p * 7 + 3) (b.length : Int) = (p * 7 + 3) % (b.length : Int) := Int.tmod_eq_emod_of_nonneg (by omega)
      have a0 := Int.emod_nonneg p (b := (b.length : Int)) (by omega)
      have a1 := Int.emod_lt_of_pos p hL
      have c0 := Int.emod_nonneg (p * 7 + 3) (b := (b.length : Int)) (by omega)
      have c1 := Int.emod_lt_of_pos (p * 7 + 3) hL
      obtain ⟨x0, x1⟩ := rd_bytes hb (p % (b.length : Int))
      obtain ⟨y0, y1⟩ := rd_bytes hb ((p * 7 + 3) % (b.length : Int))
      have d1 : Int.tdiv p (b.length : Int) = p / (b.length : Int) := Int.tdiv_eq_ediv_of_nonneg hp
      have d2 : 0 ≤ p / (b.length : Int) := Int.ediv_nonneg hp (by omega)
      have d3 : p / (b.length : Int) ≤ p := Int.ediv_le_self _ hp
      have ew1 : wrap64 (rd b (p % (b.length : Int))) = rd b (p % (b.length : Int)) := w64 (by omega) (by omega)
      have ew2 : wrap64 (rd b ((p * 7 + 3) % (b.length : Int))) = rd b ((p * 7 + 3) % (b.length : Int)) := w64 (by omega) (by omega)
      have ew3 : wrap64 (p / (b.length : Int)) = p / (b.length : Int) := w64 (by omega) (by omega)
      have hz : ∀ x y q : Int, 0 ≤ x → x < 256 → 0 ≤ y → y < 256 → 0 ≤ q → q ≤ p →
          wrap64 ((wrap64 ((wrap64 ((wrap64 (x * 131)) + (wrap64 (y * 1117)))) + (wrap64 (p * 29)))) + (wrap64 (q * 53))) = x * 131 + y * 1117 + p * 29 + q * 53 := by
        intro x y q hx hx1 hy hy1 hq hq1
        rw [w64 (n := x * 131) (by omega) (by omega), w64 (n := y * 1117) (by omega) (by omega), w64 (n := p * 29) (by omega) (by omega), w64 (n := q * 53) (by omega) (by omega),
          w64 (n := x * 131 + y * 1117) (by omega) (by omega), w64 (n := x * 131 + y * 1117 + p * 29) (by omega) (by omega), w64 (by omega) (by omega)]
      have hz' := hz _ _ _ x0 x1 y0 y1 d2 d3
      obtain ⟨S, hS⟩ : ∃ S, S = rd b (p % (b.length : Int)) * 131 + rd b ((p * 7 + 3) % (b.length : Int)) * 1117 + p * 29 + p / (b.length : Int) * 53 := ⟨_, rfl⟩
      rw [← hS] at hz'
      have s0 : 0 ≤ S ∧ S < 1000000000 := by omega
      have s1 : Int.tdiv S 64 = S / 64 := Int.tdiv_eq_ediv_of_nonneg s0.1
      have s2 : wrap64 (S / 64) = S / 64 := w64 (by omega) (by omega)
      have hx := xor_nonneg (x := S) (y := S / 64) (by omega) (by omega) (by omega) (by omega)
      refine ⟨bits .xor .i64 S (S / 64) % n, Int.emod_nonneg _ (by omega), Int.emod_lt_of_pos _ (by omega), ?_⟩
      simp only [spec_l13Rd_pick.f]
      refine ev_neg (by omega) ?_
      rw [w1, f0]
      refine Ev.step (fun k => by rw [spec_l13Rd_pick.j0]) ?_
      simp only [w2, t1, w4, w5, t2, d1, ew1, ew2, ew3, hz', s1, s2]
      refine ev_neg (by simp) (ev_neg e1 (ev_neg e0 (ev_pos a0 (ev_pos a1 (ev_pos c0 (ev_pos c1 (ev_neg (by omega) ?_)))))))
      rw [Int.tmod_eq_emod_of_nonneg hx]
      exact Ev.now _

theorem num_ev (b : List Int) (p : Int) (l : List Int) (hb : Bytes b) (hl : b.length ≤ 2000) (hp : 0 ≤ p) (hp1 : p ≤ 1000000) (hn : 1 ≤ l.length) :
    ∃ r, 0 ≤ r ∧ r < (l.length : Int) ∧ Ev (fun k => spec_l13Rd_num.f k b p l) (rd l r, p + 1) := by
  obtain ⟨r, h0, h1, h⟩ := pick_ev b p (l.length : Int) hb hl hp hp1 (by omega)
  refine ⟨r, h0, h1, ?_⟩
  simp only [spec_l13Rd_num.f]
  refine Ev.bind h ?_
  exact ev_pos h0 (ev_pos h1 (Ev.now _))

theorem of_ev (b : List Int) (p : Int) (l : List ByteArray) (hb : Bytes b) (hl : b.length ≤ 2000) (hp : 0 ≤ p) (hp1 : p ≤ 1000000) (hn : 1 ≤ l.length) :
    ∃ x ∈ l, Ev (fun k => spec_l13Rd_of.f k b p l) (x, p + 1) := by
  obtain ⟨r, h0, h1, h⟩ := pick_ev b p (l.length : Int) hb hl hp hp1 (by omega)
  have hr : r.toNat < l.length := by omega
  refine ⟨l[r.toNat], List.getElem_mem hr, ?_⟩
  have e : rdOf ByteArray.empty l r = l[r.toNat] := by
    unfold rdOf
    rw [List.getD_eq_getElem?_getD, List.getElem?_eq_getElem hr]
    rfl
  simp only [spec_l13Rd_of.f]
  refine Ev.bind h ?_
  refine ev_pos h0 (ev_pos h1 ?_)
  rw [e]
  exact Ev.now _

theorem l6loop_ex (b : List Int) (hb : Bytes b) (hl : b.length ≤ 2000) : ∀ (n : Nat) (s : ByteArray) (p : Int), n ≤ 8 → 0 ≤ p → p + n ≤ 1000 → s.size + 50 * n ≤ 1000 →
    ∃ t q, t.size ≤ 1000 ∧ 0 ≤ q ∧ q ≤ 1000 ∧ Ev (fun k => spec_l6Draw.l0 k s (n : Int) b p) (t, q) := by
  intro n
  induction n with
  | zero =>
    intro s p h8 hp hp1 hs
    refine ⟨s, p, by omega, by omega, by omega, ?_⟩
    refine Ev.step (fun k => by rw [spec_l6Draw.l0]) ?_
    exact ev_neg (by omega) (Ev.now _)
  | succ n ih =>
    intro s p h8 hp hp1 hs
    obtain ⟨x, hx, h⟩ := of_ev b p ([(⟨#[90, 111, 195, 171]⟩ : ByteArray), (⟨#[32]⟩ : ByteArray), (⟨#[65, 110, 110, 32, 76, 101, 101]⟩ : ByteArray), (⟨#[61, 63]⟩ : ByteArray), (⟨#[97]⟩ : ByteArray), (⟨#[95]⟩ : ByteArray), (⟨#[97, 32, 108, 111, 110, 103, 101, 114, 32, 110, 97, 109, 101, 32, 111, 102, 32, 109, 97, 110, 121, 32, 119, 111, 114, 100, 115]⟩ : ByteArray), (⟨#[255]⟩ : ByteArray), (⟨#[61, 63, 117, 116, 102, 45, 56, 63, 113, 63, 120, 63, 61]⟩ : ByteArray), (⟨#[32, 32]⟩ : ByteArray)] : List ByteArray) hb hl hp (by omega) (by simp)
    have hxs : x.size ≤ 50 := by
      simp only [List.mem_cons, List.not_mem_nil, or_false] at hx
      rcases hx with rfl | rfl | rfl | rfl | rfl | rfl | rfl | rfl | rfl | rfl <;> decide
    obtain ⟨t, q, ht, hq0, hq1, h2⟩ := ih (s ++ x) (p + 1) (by omega) (by omega) (by omega) (by rw [ByteArray.size_append]; omega)
    refine ⟨t, q, ht, hq0, hq1, ?_⟩
    have w : wrap64 (((n + 1 : Nat) : Int) - 1) = (n : Int) := by rw [w64 (by omega) (by omega)]; omega
    refine Ev.step (fun k => by rw [spec_l6Draw.l0]) ?_
    refine ev_pos (by omega) ?_
    refine Ev.bind h ?_
    refine ev_pos (show s.size + x.size ≤ 9223372036854775807 by omega) ?_
    rw [w]
    exact h2

theorem l6draw_ex (b : List Int) (p : Int) (hb : Bytes b) (hl : b.length ≤ 2000) (hp : 0 ≤ p) (hp1 : p ≤ 100) :
    ∃ t q, t.size ≤ 1000 ∧ 0 ≤ q ∧ q ≤ 1000 ∧ Ev (fun k => spec_l6Draw.f k b p) (t, q) := by
  obtain ⟨r, h0, h1, h⟩ := num_ev b p [2, 1, 3, 0, 6] hb hl hp (by omega) (by simp)
  simp only [List.length_cons, List.length_nil] at h1
  have hr : ∃ n : Nat, n ≤ 8 ∧ rd [2, 1, 3, 0, 6] r = (n : Int) := by
    have : r = 0 ∨ r = 1 ∨ r = 2 ∨ r = 3 ∨ r = 4 := by omega
    rcases this with rfl | rfl | rfl | rfl | rfl
    · exact ⟨2, by omega, rfl⟩
    · exact ⟨1, by omega, rfl⟩
    · exact ⟨3, by omega, rfl⟩
    · exact ⟨0, by omega, rfl⟩
    · exact ⟨6, by omega, rfl⟩
  obtain ⟨n, hn, e⟩ := hr
  rw [e] at h
  obtain ⟨t, q, ht, hq0, hq1, h2⟩ := l6loop_ex b hb hl n (⟨#[]⟩ : ByteArray) (p + 1) hn (by omega) (by omega) (by show 0 + 50 * n ≤ 1000; omega)
  refine ⟨t, q, ht, hq0, hq1, ?_⟩
  simp only [spec_l6Draw.f]
  refine Ev.bind h ?_
  exact h2

theorem drawenc_ex (l : List Int) (h : Bytes l) : ∃ t, t.size ≤ 1000 ∧ Ev (fun k => spec_DrawEncodeName.f k l) t := by
  obtain ⟨b, hb, h1, h2⟩ := open_ex l h
  obtain ⟨t, q, ht, hq0, hq1, h3⟩ := l6draw_ex b 0 h1 h2 (by omega) (by omega)
  refine ⟨t, ht, ?_⟩
  simp only [spec_DrawEncodeName.f, hb, Option.bind_some]
  exact Ev.bind h3 (Ev.now _)

theorem spec_hex (c : UInt8) : spec_l5Hex.f (c.toNat : Int) = some (S (hex3 c)) := by
  have hc := c.toNat_lt
  unfold spec_l5Hex.f
  have a : bits .and .u8 (c.toNat : Int) 15 = ((c.toNat % 16 : Nat) : Int) := by
    rw [u8_and15 _ (by omega) (by omega)]
    omega
  have b : ((c.toNat : Int) / 16) = ((c.toNat / 16 : Nat) : Int) := by omega
  have e1 : ((((c.toNat / 16 : Nat) : Int) + 1) % 256) = (((c.toNat / 16) + 1 : Nat) : Int) := by omega
  have e2 : ((((c.toNat % 16 : Nat) : Int) + 1) % 256) = (((c.toNat % 16) + 1 : Nat) : Int) := by omega
  have x1 := extract_digit (c.toNat / 16) (by omega)
  have x2 := extract_digit (c.toNat % 16) (by omega)
  simp only [a, b, e1, e2, Int.toNat_natCast, x1, x2, mk_S, append_S, size_S]
  rw [if_pos (by omega), if_pos (by omega), if_pos (by omega), if_pos (by simp), if_pos (by omega), if_pos (by omega), if_pos (by omega), if_pos (by simp)]
  rfl


theorem spec_letter (n : Int) : spec_l1Letter.f n = some (isAlpha n || isNum n) := by
  unfold spec_l1Letter.f isAlpha isNum
  by_cases a : n ≥ 97
  · rw [if_pos a]
    by_cases b : n ≤ 122
    · rw [if_pos b]
      have : (97 ≤ n ∧ n ≤ 122) := ⟨a, b⟩
      simp [this]
    · rw [if_neg b, if_pos (by omega), if_neg (by omega), if_pos (by omega)]
      have h1 : ¬ ((97 ≤ n ∧ n ≤ 122) ∨ (65 ≤ n ∧ n ≤ 90)) := by omega
      have h3 : ¬ n ≤ 57 := by omega
      simp [h1, h3]
  · rw [if_neg a]
    by_cases c : n ≥ 65
    · rw [if_pos c]
      by_cases d : n ≤ 90
      · rw [if_pos d]
        have : (97 ≤ n ∧ n ≤ 122) ∨ (65 ≤ n ∧ n ≤ 90) := .inr ⟨c, d⟩
        simp [this]
      · rw [if_neg d, if_pos (by omega)]
        have h1 : ¬ ((97 ≤ n ∧ n ≤ 122) ∨ (65 ≤ n ∧ n ≤ 90)) := by omega
        have h3 : ¬ n ≤ 57 := by omega
        simp [h1, h3]
    · rw [if_neg c]
      have h1 : ¬ ((97 ≤ n ∧ n ≤ 122) ∨ (65 ≤ n ∧ n ≤ 90)) := by omega
      by_cases d : n ≥ 48
      · rw [if_pos d]
        have : 48 ≤ n := d
        simp [h1, this]
      · rw [if_neg d]
        have : ¬ (48 ≤ n ∧ n ≤ 57) := by omega
        simp [h1, this]

theorem self_str (c : UInt8) : strOfNums ([(c.toNat : Int)] : List Int) = S [c] := by
  rw [strOfNums_S]
  simp

theorem spec_codeB (c : UInt8) : spec_l6Byte.f (c.toNat : Int) = some (S (codeB c)) := by
  unfold spec_l6Byte.f
  simp only [spec_letter, spec_hex, self_str, Option.bind_some]
  unfold codeB
  by_cases h32 : (c.toNat : Int) = 32
  · rw [if_pos h32]
    have hn : c.toNat = 32 := by omega
    have hs : selfC (c.toNat : Int) = false := by rw [h32]; rfl
    rw [hs, if_neg Bool.false_ne_true, if_pos hn]
    rfl
  · rw [if_neg h32]
    by_cases ha : (isAlpha (c.toNat : Int) || isNum (c.toNat : Int)) = true
    · rw [if_pos ha]
      have hs : selfC (c.toNat : Int) = true := by unfold selfC; simp [ha]
      rw [if_pos hs]
    · rw [if_neg ha]
      by_cases h45 : (c.toNat : Int) = 45
      · rw [if_pos h45]
        have hs : selfC (c.toNat : Int) = true := by unfold selfC; simp [h45]
        rw [if_pos hs]
      · rw [if_neg h45]
        by_cases h46 : (c.toNat : Int) = 46
        · rw [if_pos h46]
          have hs : selfC (c.toNat : Int) = true := by unfold selfC; simp [h46]
          rw [if_pos hs]
        · rw [if_neg h46]
          have hs : ¬ selfC (c.toNat : Int) = true := by
            unfold selfC
            have ha' : (isAlpha (c.toNat : Int) || isNum (c.toNat : Int)) = false := by simpa using ha
            rw [ha', decide_eq_false h45, decide_eq_false h46]
            simp
          rw [if_neg hs, if_neg (by omega)]

theorem spec_codeL (b : List UInt8) (hb : b.length ≤ 100000) : Ev (fun k => spec_l6Code.f k (S b)) (S (codeL b)) := by
  simp only [spec_l6Code.f]
  have : ∀ (e i : Nat), i + e = b.length → Ev (fun k => spec_l6Code.l0 k (S b) (S (codeL (b.take i))) (i : Int)) (S (codeL b)) := by
    intro e
    induction e with
    | zero =>
      intro i hi
      rw [List.take_of_length_le (by omega)]
      refine Ev.step (fun k => by rw [spec_l6Code.l0]) ?_
      rw [size_S]
      exact ev_neg (by omega) (Ev.now _)
    | succ e ih =>
      intro i hi
      have hlt : i < b.length := by omega
      have hg : b.getD i 0 = b[i] := by rw [List.getD_eq_getElem?_getD, List.getElem?_eq_getElem hlt]; rfl
      have hih := ih (i + 1) (by omega)
      have hx := (codeL_length (b.take i)).2
      have hq := codeB_length b[i]
      rw [List.length_take] at hx
      rw [List.take_succ_eq_append_getElem hlt, codeL_snoc] at hih
      have w : wrap64 ((i : Int) + 1) = ((i + 1 : Nat) : Int) := by rw [w64 (by omega) (by omega)]; omega
      refine Ev.step (fun k => by rw [spec_l6Code.l0]) ?_
      simp only [size_S, bt_S, Int.toNat_natCast, hg, w]
      clear w
      refine ev_pos (by omega) (ev_pos (by omega) ?_)
      refine ev_bind0 (spec_codeB b[i]) ?_
      simp only [size_S, append_S]
      exact ev_pos (by omega) hih
  exact this b.length 0 (by omega)

theorem spec_codeR (b : List UInt8) : Ev (fun k => spec_CodeWord.f k (S b)) (codeR b) := by
  simp only [spec_CodeWord.f, size_S]
  have hT : ¬ codeOK b → Ev (fun k => spec_CodeWord.j0 k (S b) true) (codeR b) := by
    intro h
    unfold codeR
    rw [if_neg h]
    refine Ev.step (fun k => by rw [spec_CodeWord.j0]) ?_
    exact ev_pos rfl (Ev.now _)
  by_cases c1 : (b.length : Int) < 1
  · refine ev_pos c1 (hT (fun h => ?_))
    have := h.1
    omega
  refine ev_neg c1 ?_
  by_cases c2 : (b.length : Int) > 40
  · rw [decide_eq_true c2]
    refine hT (fun h => ?_)
    have := h.2.1
    omega
  rw [decide_eq_false c2]
  have hl := codeL_length b
  have hw := codeW_length b
  refine Ev.step (fun k => by rw [spec_CodeWord.j0]) ?_
  refine ev_neg (by simp) ?_
  refine Ev.bind (spec_codeL b (by omega)) ?_
  have e1 : (⟨#[61, 63, 117, 116, 102, 45, 56, 63, 113, 63]⟩ : ByteArray) ++ S (codeL b) ++ (⟨#[63, 61]⟩ : ByteArray) = S (codeW b) := by
    show S codePre ++ S (codeL b) ++ S [63, 61] = _
    rw [append_S, append_S]
    rfl
  have e2 : ((⟨#[61, 63, 117, 116, 102, 45, 56, 63, 113, 63]⟩ : ByteArray) ++ S (codeL b)).size = 10 + (codeL b).length := by
    show (S codePre ++ S (codeL b)).size = _
    rw [append_S, size_S, List.length_append]
    rfl
  simp only [e1, e2, size_S]
  refine ev_pos (by omega) (ev_pos (by omega) ?_)
  unfold codeR
  by_cases c3 : ((codeW b).length : Int) > 40
  · rw [if_neg (fun h : codeOK b => by have := h.2.2; omega)]
    exact ev_pos c3 (Ev.now _)
  · rw [if_pos (show codeOK b from ⟨by omega, by omega, by omega⟩)]
    exact ev_neg c3 (Ev.now _)

theorem spec_text (s : List UInt8) (hl : s.length ≤ 1000000000000) : Ev (fun k => spec_TextValid.f k (S s)) (decide (textOK s)) := by
  simp only [spec_TextValid.f]
  have loop : ∀ (e i : Nat), i + e = s.length → i ≤ 201 → (∀ j (h : j < s.length), j < i → 32 ≤ s[j].toNat ∧ s[j].toNat ≤ 126) → Ev (fun k => spec_TextValid.l0 k (S s) (i : Int)) (decide (textOK s)) := by
    intro e
    induction e with
    | zero =>
      intro i hi h2 hp
      have e1 : decide ((s.length : Int) ≤ 200) = decide (textOK s) := by
        rw [decide_eq_decide]
        constructor
        · intro q
          refine ⟨by omega, fun c hc => ?_⟩
          obtain ⟨j, hj, rfl⟩ := List.mem_iff_getElem.1 hc
          exact hp j hj (by omega)
        · intro q
          have := q.1
          omega
      refine Ev.step (fun k => by rw [spec_TextValid.l0]) ?_
      rw [size_S]
      refine ev_neg (by omega) ?_
      refine Ev.step (fun k => by rw [spec_TextValid.j1]) ?_
      rw [size_S, e1]
      exact ev_neg (by decide) (Ev.now _)
    | succ e ih =>
      intro i hi h2 hp
      have hlt : i < s.length := by omega
      have hg : s.getD i 0 = s[i] := by rw [List.getD_eq_getElem?_getD, List.getElem?_eq_getElem hlt]; rfl
      have w : wrap64 ((i : Int) + 1) = ((i + 1 : Nat) : Int) := by rw [w64 (by omega) (by omega)]; omega
      refine Ev.step (fun k => by rw [spec_TextValid.l0]) ?_
      rw [size_S]
      refine ev_pos (by omega) ?_
      by_cases h200 : i ≤ 200
      · rw [decide_eq_true (show (i : Int) ≤ 200 by omega)]
        refine Ev.step (fun k => by rw [spec_TextValid.j1]) ?_
        simp only [size_S, bt_S, Int.toNat_natCast, hg, w]
        refine ev_pos trivial (ev_pos (by omega) (ev_pos (by omega) ?_))
        by_cases hc : 32 ≤ s[i].toNat ∧ s[i].toNat ≤ 126
        · refine ev_neg (by omega) (ev_neg (by omega) (ih (i + 1) (by omega) (by omega) ?_))
          intro j hj hji
          by_cases q : j = i
          · subst q
            exact hc
          · exact hp j hj (by omega)
        · have e1 : decide (textOK s) = false := decide_eq_false (fun q => hc (q.2 s[i] (List.getElem_mem hlt)))
          rw [e1]
          by_cases h3 : (s[i].toNat : Int) < 32
          · exact ev_pos h3 (Ev.now _)
          · exact ev_neg h3 (ev_pos (by omega) (Ev.now _))
      · rw [decide_eq_false (show ¬ (i : Int) ≤ 200 by omega)]
        have e1 : decide (textOK s) = false := decide_eq_false (fun q => by have := q.1; omega)
        refine Ev.step (fun k => by rw [spec_TextValid.j1]) ?_
        rw [size_S, e1]
        refine ev_neg (by decide) (ev_is ?_)
        rw [decide_eq_false (by omega)]
  exact loop s.length 0 (by omega) (by omega) (fun j _ h => by omega)

theorem spec_trimR (n : Nat) : ∀ s : List UInt8, s.length ≤ n → s.length ≤ 1000000000000 → Ev (fun k => spec_l2Trim.l1 k (S s)) (S (trimR s)) := by
  induction n with
  | zero =>
    intro s h _
    have : s = [] := List.eq_nil_of_length_eq_zero (by omega)
    subst this
    refine Ev.step (fun k => by rw [spec_l2Trim.l1]) ?_
    exact ev_neg (by decide) (Ev.now _)
  | succ n ih =>
    intro s h hl
    rcases List.eq_nil_or_concat s with rfl | ⟨t, c, rfl⟩
    · refine Ev.step (fun k => by rw [spec_l2Trim.l1]) ?_
      exact ev_neg (by decide) (Ev.now _)
    · rw [List.concat_eq_append] at h hl ⊢
      rw [List.length_append] at h hl
      simp only [List.length_cons, List.length_nil] at h hl
      have w : wrap64 (((t.length + 1 : Nat) : Int) - 1) = (t.length : Int) := by rw [w64 (by omega) (by omega)]; omega
      have hg : (t ++ [c]).getD t.length 0 = c := by simp
      have hx : ((t ++ [c]).drop 0).take (t.length - 0) = t := by simp
      refine Ev.step (fun k => by rw [spec_l2Trim.l1]) ?_
      simp only [size_S, List.length_append, List.length_cons, List.length_nil, Nat.zero_add, w, bt_S, Int.toNat_natCast, hg, extract_S, hx]
      rw [trimR_snoc]
      refine ev_pos (by omega) (ev_pos (by omega) (ev_pos (by omega) ?_))
      by_cases hc : (c.toNat : Int) = 32
      · rw [if_pos (show c = 32 from (u8_is (n := 32) (by omega)).1 hc)]
        exact ev_pos hc (ev_pos (by omega) (ih t (by omega) (by omega)))
      · rw [if_neg (fun q => hc (by rw [q]; rfl))]
        exact ev_neg hc (Ev.now _)
theorem spec_trim (s : List UInt8) (hl : s.length ≤ 1000000000000) : Ev (fun k => spec_l2Trim.f k (S s)) (S (trim s)) := by
  simp only [spec_l2Trim.f]
  have j : ∀ t : List UInt8, t.length ≤ 1000000000000 → Ev (fun k => spec_l2Trim.j1 k (S t)) (S (trimR t)) := by
    intro t ht
    refine Ev.step (fun k => by rw [spec_l2Trim.j1]) ?_
    exact spec_trimR t.length t (Nat.le_refl _) ht
  have loop : ∀ (n : Nat) (s : List UInt8), s.length ≤ n → s.length ≤ 1000000000000 → Ev (fun k => spec_l2Trim.l0 k (S s)) (S (trim s)) := by
    intro n
    induction n with
    | zero =>
      intro s h h2
      have : s = [] := List.eq_nil_of_length_eq_zero (by omega)
      subst this
      refine Ev.step (fun k => by rw [spec_l2Trim.l0]) ?_
      exact ev_neg (by decide) (j [] h2)
    | succ n ih =>
      intro s h h2
      cases s with
      | nil =>
        refine Ev.step (fun k => by rw [spec_l2Trim.l0]) ?_
        exact ev_neg (by decide) (j [] h2)
      | cons c r =>
        simp only [List.length_cons] at h h2
        have hg : bt (S (c :: r)) 0 = (c.toNat : Int) := by rw [bt_S]; rfl
        have hx : ((c :: r).drop 1).take (r.length + 1 - 1) = r := by simp
        refine Ev.step (fun k => by rw [spec_l2Trim.l0]) ?_
        simp only [size_S, List.length_cons, hg, extract_S, hx]
        refine ev_pos (by omega) (ev_pos (by omega) ?_)
        have hd : trim (c :: r) = if c = 32 then trim r else trimR (c :: r) := by
          unfold trim trimL
          rw [List.dropWhile_cons]
          by_cases q : c = 32
          · rw [if_pos q, if_pos (by simp [q])]
          · rw [if_neg q, if_neg (by simp [q])]
        rw [hd]
        by_cases hc : (c.toNat : Int) = 32
        · rw [if_pos (show c = 32 from (u8_is (n := 32) (by omega)).1 hc)]
          exact ev_pos hc (ev_pos (by omega) (ih r (by omega) (by omega)))
        · rw [if_neg (fun q => hc (by rw [q]; rfl))]
          exact ev_neg hc (j (c :: r) (by simp; omega))
  exact loop s.length s (Nat.le_refl _) hl

theorem spec_needs (b : List UInt8) (hl : b.length ≤ 1000000000000) : Ev (fun k => spec_NeedsCode.f k (S b)) (needC b) := by
  simp only [spec_NeedsCode.f]
  have fin : hasQ b = false → Ev (fun k => (spec_TextValid.f k (S b)).bind fun t => (if t = true then ((spec_l2Trim.f k (S b)).bind fun u => (if u.toList = (S b).toList then (some (decide (((S b).size : Int) > 120))) else (some true))) else (some true))) (needC b) := by
    intro h
    refine Ev.bind (spec_text b hl) ?_
    unfold needC
    rw [h, Bool.false_or]
    by_cases ht : textOK b
    · rw [decide_eq_true ht]
      refine ev_pos rfl (Ev.bind (spec_trim b hl) ?_)
      rw [toList_S, toList_S, size_S]
      by_cases hr : trim b = b
      · refine ev_pos hr (ev_is ?_)
        have e : decide ((b.length : Int) > 120) = decide (b.length > 120) := by
          rw [decide_eq_decide]
          omega
        rw [decide_eq_true hr, e]
        simp
      · refine ev_neg hr (ev_is ?_)
        rw [decide_eq_false hr]
        simp
    · rw [decide_eq_false ht]
      refine ev_neg (by decide) (ev_is ?_)
      simp
  have loop : ∀ (e i : Nat), i + e = b.length → hasQ b = hasQ (b.drop i) → Ev (fun k => spec_NeedsCode.l0 k (S b) (i : Int)) (needC b) := by
    intro e
    induction e with
    | zero =>
      intro i hi hq
      rw [List.drop_of_length_le (by omega)] at hq
      have w : wrap64 ((i : Int) + 1) = ((i + 1 : Nat) : Int) := by rw [w64 (by omega) (by omega)]; omega
      refine Ev.step (fun k => by rw [spec_NeedsCode.l0]) ?_
      rw [w]
      exact ev_neg (by rw [size_S]; omega) (fin hq)
    | succ e ih =>
      intro i hi hq
      have w : wrap64 ((i : Int) + 1) = ((i + 1 : Nat) : Int) := by rw [w64 (by omega) (by omega)]; omega
      have hlt : i < b.length := by omega
      refine Ev.step (fun k => by rw [spec_NeedsCode.l0]) ?_
      rw [w]
      by_cases h1 : i + 1 < b.length
      · have g0 : b.getD i 0 = b[i] := by rw [List.getD_eq_getElem?_getD, List.getElem?_eq_getElem hlt]; rfl
        have g1 : b.getD (i + 1) 0 = b[i + 1] := by rw [List.getD_eq_getElem?_getD, List.getElem?_eq_getElem h1]; rfl
        rw [drop_cons hlt, drop_cons h1, hasQ] at hq
        have hih : (b[i] == 61 && b[i + 1] == 63) = false → Ev (fun k => spec_NeedsCode.l0 k (S b) ((i + 1 : Nat) : Int)) (needC b) := by
          intro q
          refine ih (i + 1) (by omega) ?_
          rw [q, Bool.false_or] at hq
          rw [drop_cons h1]
          exact hq
        simp only [size_S, bt_S, Int.toNat_natCast, g0, g1]
        refine ev_pos (by omega) (ev_pos (by omega) (ev_pos (by omega) ?_))
        by_cases c1 : (b[i].toNat : Int) = 61
        · have c1' : b[i] = 61 := (u8_is (n := 61) (by omega)).1 c1
          refine ev_pos c1 (ev_pos (by omega) ?_)
          by_cases c2 : (b[i + 1].toNat : Int) = 63
          · have c2' : b[i + 1] = 63 := (u8_is (n := 63) (by omega)).1 c2
            rw [c1', c2'] at hq
            refine ev_pos c2 (ev_is ?_)
            unfold needC
            rw [hq]
            rfl
          · refine ev_neg c2 (hih ?_)
            have : (b[i + 1] == 63) = false := beq_eq_false_iff_ne.2 (fun q => c2 (by rw [q]; rfl))
            rw [this, Bool.and_false]
        · refine ev_neg c1 (hih ?_)
          have : (b[i] == 61) = false := beq_eq_false_iff_ne.2 (fun q => c1 (by rw [q]; rfl))
          rw [this, Bool.false_and]
      · rw [drop_cons hlt, List.drop_of_length_le (by omega)] at hq
        exact ev_neg (by rw [size_S]; omega) (fin hq)
  exact loop b.length 0 (by omega) (by rw [List.drop_zero])

theorem drop_take (b : List UInt8) (i n : Nat) : ((b.drop i).take n).length = min n (b.length - i) := by rw [List.length_take, List.length_drop]
theorem enc_write {b acc w : List UInt8} {i e : Nat} {R : ByteArray × Bool} (hw : codeOK w) (hx : (b.drop i).take (e - i) = w) (hie : i ≤ e) (he : e ≤ b.length) (ha : acc.length ≤ 6000)
    (H : Ev (fun k => spec_EncodeName.l0 k (S b) (S (acc ++ (if i = 0 then [] else [32]) ++ codeW w)) (e : Int)) R) :
    Ev (fun k => if (i : Int) ≤ (e : Int) then (if (e : Int) ≤ ((S b).size : Int) then ((spec_CodeWord.f k ((S b).extract ((i : Int)).toNat ((e : Int)).toNat)).bind fun t => (if (i : Int) > 0 then (if (S acc).size + 1 ≤ 9223372036854775807 then (if ((S acc) ++ (⟨#[32]⟩ : ByteArray)).size + t.1.size ≤ 9223372036854775807 then (spec_EncodeName.l0 k (S b) (((S acc) ++ (⟨#[32]⟩ : ByteArray)) ++ t.1) (e : Int)) else (none)) else (none)) else (if (S acc).size + t.1.size ≤ 9223372036854775807 then (spec_EncodeName.l0 k (S b) ((S acc) ++ t.1) (e : Int)) else (none)))) else (none)) else (none)) R := by
  have e32 : (⟨#[32]⟩ : ByteArray) = S [32] := rfl
  have l1 : ([32] : List UInt8).length = 1 := rfl
  have hcw := hw.2.2
  have ex : (S b).extract ((i : Int)).toNat ((e : Int)).toNat = S w := by
    rw [Int.toNat_natCast, Int.toNat_natCast, extract_S, hx]
  have er : codeR w = (S (codeW w), true) := by unfold codeR; rw [if_pos hw]
  have hc := spec_codeR w
  rw [er] at hc
  rw [ex]
  obtain ⟨f1, f2, f3⟩ := fits (a := acc.length) (w := (codeW w).length) ha hcw
  refine ev_pos (by omega) (ev_pos (by rw [size_S]; omega) (Ev.bind hc ?_))
  simp only [e32, append_S, size_S, List.length_append, l1]
  clear hc
  by_cases h0 : i = 0
  · rw [if_pos h0, List.append_nil] at H
    exact ev_neg (by omega) (ev_pos f1 H)
  · rw [if_neg h0] at H
    exact ev_pos (by omega) (ev_pos f2 (ev_pos f3 H))
theorem enc_seek {b acc : List UInt8} {i c : Nat} {R : ByteArray × Bool} (hl : b.length ≤ 120)
    (W : ∀ e : Nat, e = i + c → Ev (fun k => if (i : Int) ≤ (e : Int) then (if (e : Int) ≤ ((S b).size : Int) then ((spec_CodeWord.f k ((S b).extract ((i : Int)).toNat ((e : Int)).toNat)).bind fun t => (if (i : Int) > 0 then (if (S acc).size + 1 ≤ 9223372036854775807 then (if ((S acc) ++ (⟨#[32]⟩ : ByteArray)).size + t.1.size ≤ 9223372036854775807 then (spec_EncodeName.l0 k (S b) (((S acc) ++ (⟨#[32]⟩ : ByteArray)) ++ t.1) (e : Int)) else (none)) else (none)) else (if (S acc).size + t.1.size ≤ 9223372036854775807 then (spec_EncodeName.l0 k (S b) ((S acc) ++ t.1) (e : Int)) else (none)))) else (none)) else (none)) R) :
    ∀ (f n : Nat), (b.length - i) ≤ n + f → 1 ≤ n → n ≤ b.length - i → grow f (b.drop i) n = c → Ev (fun k => spec_EncodeName.l1 k (S b) (S acc) (i : Int) ((i + n : Nat) : Int)) R := by
  intro f
  induction f with
  | zero =>
    intro n g1 g2 g3 hg
    have he : i + n = i + c := by rw [← hg]; rfl
    have hW := W (i + n) he
    refine Ev.step (fun k => by rw [spec_EncodeName.l1]) ?_
    exact ev_neg (by rw [size_S]; omega) (ev_pos (by omega) hW)
  | succ f ihf =>
    intro n g1 g2 g3 hg
    rw [grow] at hg
    have w : wrap64 (((i + n : Nat) : Int) + 1) = ((i + n + 1 : Nat) : Int) := by rw [w64 (by omega) (by omega)]; omega
    refine Ev.step (fun k => by rw [spec_EncodeName.l1]) ?_
    rw [w]
    by_cases hn : i + n < b.length
    · have ex : (S b).extract ((i : Int)).toNat (((i + n + 1 : Nat) : Int)).toNat = S ((b.drop i).take (n + 1)) := by
        have : i + n + 1 - i = n + 1 := by omega
        rw [Int.toNat_natCast, Int.toNat_natCast, extract_S, this]
      have hlen : ((b.drop i).take (n + 1)).length ≤ 100000 := by rw [drop_take]; omega
      have hdl : n < (b.drop i).length := by rw [List.length_drop]; omega
      have hcl := spec_codeL _ hlen
      rw [ex]
      by_cases h28 : (codeL ((b.drop i).take (n + 1))).length ≤ 28
      · rw [if_pos ⟨hdl, h28⟩] at hg
        have hx := ihf (n + 1) (by omega) (by omega) (by omega) hg
        refine ev_pos (by rw [size_S]; omega) (ev_pos (by omega) (ev_pos (by omega) (ev_pos (by rw [size_S]; omega) (Ev.bind hcl ?_))))
        rw [size_S]
        exact ev_pos (by omega) hx
      · rw [if_neg (fun q => h28 q.2)] at hg
        have hW := W (i + n) (by rw [hg])
        refine ev_pos (by rw [size_S]; omega) (ev_pos (by omega) (ev_pos (by omega) (ev_pos (by rw [size_S]; omega) (Ev.bind hcl ?_))))
        rw [size_S]
        exact ev_neg (by omega) hW
    · rw [if_neg (fun q => by have := q.1; rw [List.length_drop] at this; omega)] at hg
      have hW := W (i + n) (by rw [hg])
      exact ev_neg (by rw [size_S]; omega) (ev_pos (by omega) hW)
theorem enc_next (b acc : List UInt8) (i c : Nat) (hne : b.drop i ≠ []) (hc : cutW (b.drop i) = c) (h1 : 1 ≤ c) :
    acc ++ (if i = 0 then [] else [32]) ++ codeW ((b.drop i).take c) ++ (if i + c = 0 ∨ (b.drop i).drop c = [] then [] else [32]) ++ spaced (words ((b.drop i).drop c))
      = acc ++ (if i = 0 ∨ b.drop i = [] then [] else [32]) ++ spaced (words (b.drop i)) := by
  rw [words_cons hne, hc]
  have e0 : (if i = 0 ∨ b.drop i = [] then ([] : List UInt8) else [32]) = if i = 0 then [] else [32] := by
    by_cases q : i = 0
    · rw [if_pos q, if_pos (Or.inl q)]
    · rw [if_neg q, if_neg (fun z => Or.elim z q hne)]
  rw [e0]
  by_cases hr : (b.drop i).drop c = []
  · rw [hr, words_nil, spaced_nil, spaced_one, if_pos (Or.inr rfl), List.append_nil, List.append_nil]
  · have hw : words ((b.drop i).drop c) ≠ [] := by
      rw [words_cons hr]
      simp
    rw [spaced_cons _ hw, if_neg (fun z => Or.elim z (fun q2 => by omega) hr)]
    simp only [List.append_assoc]
theorem spec_enc_loop (b : List UInt8) (hl : b.length ≤ 120) : ∀ (m i : Nat) (acc : List UInt8), b.length ≤ i + m → i ≤ b.length → acc.length ≤ 50 * i →
    Ev (fun k => spec_EncodeName.l0 k (S b) (S acc) (i : Int)) (S (acc ++ (if i = 0 ∨ b.drop i = [] then [] else [32]) ++ spaced (words (b.drop i))), true) := by
  intro m
  induction m with
  | zero =>
    intro i acc h1 h2 _
    have hn : b.drop i = [] := List.drop_of_length_le (by omega)
    rw [hn, words_nil, spaced_nil, if_pos (Or.inr rfl), List.append_nil, List.append_nil]
    refine Ev.step (fun k => by rw [spec_EncodeName.l0]) ?_
    rw [size_S]
    exact ev_neg (by omega) (Ev.now _)
  | succ m ih =>
    intro i acc h1 h2 ha
    by_cases hlt : i < b.length
    · have hne : b.drop i ≠ [] := by
        intro q
        have := congrArg List.length q
        rw [List.length_drop] at this
        simp at this
        omega
      obtain ⟨c1, c2, _⟩ := cutW_bd hne
      have ok := word_ok hne
      obtain ⟨c, hc⟩ : ∃ c, cutW (b.drop i) = c := ⟨_, rfl⟩
      rw [List.length_drop] at c2
      rw [hc] at c1 c2 ok
      have hx := ih (i + c) (acc ++ (if i = 0 then [] else [32]) ++ codeW ((b.drop i).take c)) (by omega) (by omega) (by
        have := ok.2.2
        have : (if i = 0 then ([] : List UInt8) else [32]).length ≤ 1 := by split <;> simp
        rw [List.length_append, List.length_append]
        omega)
      have ed : b.drop (i + c) = (b.drop i).drop c := by rw [List.drop_drop]
      rw [ed, enc_next b acc i c hne hc c1] at hx
      have hw := enc_write (b := b) (acc := acc) (i := i) (e := i + c) ok (by rw [Nat.add_sub_cancel_left]) (by omega) (by omega) (by omega) hx
      have hs := enc_seek (b := b) (acc := acc) (i := i) (c := c) hl (fun e he => by rw [he]; exact hw) (b.drop i).length 1 (by rw [List.length_drop]; omega) (by omega) (by omega) hc
      have w : wrap64 ((i : Int) + 1) = ((i + 1 : Nat) : Int) := by rw [w64 (by omega) (by omega)]; omega
      refine Ev.step (fun k => by rw [spec_EncodeName.l0]) ?_
      rw [w]
      exact ev_pos (by rw [size_S]; omega) hs
    · have hn : b.drop i = [] := List.drop_of_length_le (by omega)
      rw [hn, words_nil, spaced_nil, if_pos (Or.inr rfl), List.append_nil, List.append_nil]
      refine Ev.step (fun k => by rw [spec_EncodeName.l0]) ?_
      rw [size_S]
      exact ev_neg (by omega) (Ev.now _)
theorem spec_enc (b : List UInt8) : Ev (fun k => spec_EncodeName.f k (S b)) (encR b) := by
  simp only [spec_EncodeName.f, size_S]
  unfold encR
  by_cases h : b.length > 120
  · rw [if_pos h]
    exact ev_pos (by omega) (Ev.now _)
  · rw [if_neg h]
    refine ev_neg (by omega) (Ev.bind (spec_needs b (by omega)) ?_)
    cases hn : needC b with
    | false =>
      rw [if_neg (by decide)]
      exact ev_neg (by decide) (Ev.now _)
    | true =>
      rw [if_pos rfl]
      have := spec_enc_loop b (by omega) b.length 0 [] (by omega) (by omega) (by simp)
      rw [List.drop_zero, if_pos (Or.inl rfl), List.nil_append, List.nil_append] at this
      exact ev_pos rfl this

theorem impl_hex (c : UInt8) : impl_hexByte.f (c.toNat : Int) = some (S (hex3 c)) := by
  have hc := c.toNat_lt
  unfold impl_hexByte.f
  have a : bits .and .u8 (c.toNat : Int) 15 = ((c.toNat % 16 : Nat) : Int) := by
    rw [u8_and15 _ (by omega) (by omega)]
    omega
  have b : ((c.toNat : Int) / 16) = ((c.toNat / 16 : Nat) : Int) := by omega
  have e1 : ((((c.toNat / 16 : Nat) : Int) + 1) % 256) = (((c.toNat / 16) + 1 : Nat) : Int) := by omega
  have e2 : ((((c.toNat % 16 : Nat) : Int) + 1) % 256) = (((c.toNat % 16) + 1 : Nat) : Int) := by omega
  have x1 := extract_digit (c.toNat / 16) (by omega)
  have x2 := extract_digit (c.toNat % 16) (by omega)
  simp only [a, b, e1, e2, Int.toNat_natCast, x1, x2, mk_S, append_S, size_S]
  rw [if_pos (by omega), if_pos (by omega), if_pos (by omega), if_pos (by simp), if_pos (by omega), if_pos (by omega), if_pos (by omega), if_pos (by simp)]
  rfl


theorem impl_alpha (n : Int) : impl_isLetter.f n = some (isAlpha n) := by
  unfold impl_isLetter.f isAlpha
  by_cases a : n ≥ 97
  · rw [if_pos a]
    by_cases b : n ≤ 122
    · rw [if_pos b]
      have : (97 ≤ n ∧ n ≤ 122) := ⟨a, b⟩
      simp [this]
    · rw [if_neg b, if_pos (by omega)]
      congr 1
      rw [decide_eq_decide]
      omega
  · rw [if_neg a]
    by_cases c : n ≥ 65
    · rw [if_pos c]
      congr 1
      rw [decide_eq_decide]
      omega
    · rw [if_neg c]
      have h1 : ¬ ((97 ≤ n ∧ n ≤ 122) ∨ (65 ≤ n ∧ n ≤ 90)) := by omega
      simp [h1]

theorem impl_num (n : Int) : impl_isDigit.f n = some (isNum n) := by
  unfold impl_isDigit.f isNum
  by_cases a : n ≥ 48
  · rw [if_pos a]
    congr 1
    rw [decide_eq_decide]
    omega
  · rw [if_neg a]
    have : ¬ (48 ≤ n ∧ n ≤ 57) := by omega
    simp [this]

theorem impl_codeB (c : UInt8) : Ev (fun k => impl_codeByte.f k (c.toNat : Int)) (S (codeB c)) := by
  simp only [impl_codeByte.f, impl_alpha, impl_num, Option.bind_some]
  have hj : ∀ s : Bool, s = selfC (c.toNat : Int) → Ev (fun k => impl_codeByte.j0 k (c.toNat : Int) s) (S (codeB c)) := by
    intro s hs
    refine Ev.step (fun k => by rw [impl_codeByte.j0]) ?_
    rw [self_str]
    unfold codeB
    rw [← hs]
    cases s with
    | true => exact ev_pos rfl (ev_is (by rw [if_pos rfl]))
    | false =>
      refine ev_neg (by simp) ?_
      rw [if_neg Bool.false_ne_true]
      by_cases h32 : (c.toNat : Int) = 32
      · refine ev_pos h32 (ev_is ?_)
        rw [if_pos (by omega)]
        rfl
      · refine ev_neg h32 ?_
        refine ev_bind0 (impl_hex c) (ev_is ?_)
        rw [if_neg (by omega)]
  by_cases h1 : isAlpha (c.toNat : Int) = true
  · refine ev_pos h1 (hj true ?_)
    unfold selfC
    simp [h1]
  refine ev_neg h1 ?_
  by_cases h2 : isNum (c.toNat : Int) = true
  · refine ev_pos h2 (hj true ?_)
    unfold selfC
    simp [h2]
  refine ev_neg h2 ?_
  have h1' : isAlpha (c.toNat : Int) = false := by simpa using h1
  have h2' : isNum (c.toNat : Int) = false := by simpa using h2
  by_cases h45 : (c.toNat : Int) = 45
  · refine ev_pos h45 (hj true ?_)
    unfold selfC
    rw [decide_eq_true h45]
    simp
  refine ev_neg h45 (hj _ ?_)
  unfold selfC
  rw [h1', h2', decide_eq_false h45]
  rw [Bool.eq_iff_iff]
  simp

theorem impl_codeW (b : List UInt8) (hb : b.length ≤ 100000) : Ev (fun k => impl_codeWord.f k (S b)) (S (codeW b)) := by
  simp only [impl_codeWord.f, size_S]
  have : ∀ (e i : Nat), i + e = b.length → Ev (fun k => impl_codeWord.l0 k (S b) (S (codePre ++ codeL (b.take i))) (b.length : Int) (i : Int)) (S (codeW b)) := by
    intro e
    induction e with
    | zero =>
      intro i hi
      rw [List.take_of_length_le (by omega)]
      have hx := (codeL_length b).2
      refine Ev.step (fun k => by rw [impl_codeWord.l0]) ?_
      have hpl : codePre.length = 10 := rfl
      simp only [size_S, mk_S, append_S, List.length_append]
      exact ev_neg (by omega) (ev_pos (by omega) (Ev.now _))
    | succ e ih =>
      intro i hi
      have hlt : i < b.length := by omega
      have hg : b.getD i 0 = b[i] := by rw [List.getD_eq_getElem?_getD, List.getElem?_eq_getElem hlt]; rfl
      have hih := ih (i + 1) (by omega)
      have hx := (codeL_length (b.take i)).2
      have hq := codeB_length b[i]
      rw [List.length_take] at hx
      rw [List.take_succ_eq_append_getElem hlt, codeL_snoc, ← List.append_assoc] at hih
      have w : wrap64 ((i : Int) + 1) = ((i + 1 : Nat) : Int) := by rw [w64 (by omega) (by omega)]; omega
      have hpl : codePre.length = 10 := rfl
      refine Ev.step (fun k => by rw [impl_codeWord.l0]) ?_
      simp only [size_S, bt_S, Int.toNat_natCast, hg, w]
      clear w
      refine ev_pos (by omega) (ev_pos (by omega) (ev_pos (by omega) ?_))
      refine Ev.bind (impl_codeB b[i]) ?_
      simp only [size_S, append_S, List.length_append]
      exact ev_pos (by omega) hih
  exact this b.length 0 (by omega)

theorem impl_codeR (b : List UInt8) : Ev (fun k => impl_CodeWord.f k (S b)) (codeR b) := by
  simp only [impl_CodeWord.f, size_S]
  unfold codeR
  by_cases c1 : (b.length : Int) = 0
  · rw [if_neg (fun h : codeOK b => by have := h.1; omega)]
    exact ev_pos c1 (Ev.now _)
  refine ev_neg c1 ?_
  by_cases c2 : (b.length : Int) > 40
  · rw [if_neg (fun h : codeOK b => by have := h.2.1; omega)]
    exact ev_pos c2 (Ev.now _)
  refine ev_neg c2 ?_
  refine Ev.bind (impl_codeW b (by omega)) ?_
  simp only [size_S]
  by_cases c3 : ((codeW b).length : Int) > 40
  · rw [if_neg (fun h : codeOK b => by have := h.2.2; omega)]
    exact ev_pos c3 (Ev.now _)
  · rw [if_pos (show codeOK b from ⟨by omega, by omega, by omega⟩)]
    refine ev_neg c3 ?_
    refine Ev.bind (impl_codeW b (by omega)) ?_
    exact Ev.now _

theorem impl_text (s : List UInt8) (hl : s.length ≤ 1000000000000) : Ev (fun k => impl_TextValid.f k (S s)) (decide (textOK s)) := by
  simp only [impl_TextValid.f, size_S]
  have loop : ∀ (e i : Nat), i + e = s.length → (∀ j (h : j < s.length), j < i → 32 ≤ s[j].toNat ∧ s[j].toNat ≤ 126) → Ev (fun k => impl_TextValid.l0 k (S s) (s.length : Int) (i : Int)) (decide (textOK s)) := by
    intro e
    induction e with
    | zero =>
      intro i hi hp
      have e1 : decide ((s.length : Int) ≤ 200) = decide (textOK s) := by
        rw [decide_eq_decide]
        constructor
        · intro q
          refine ⟨by omega, fun c hc => ?_⟩
          obtain ⟨j, hj, rfl⟩ := List.mem_iff_getElem.1 hc
          exact hp j hj (by omega)
        · intro q
          have := q.1
          omega
      refine Ev.step (fun k => by rw [impl_TextValid.l0]) ?_
      rw [size_S, e1]
      exact ev_neg (by omega) (Ev.now _)
    | succ e ih =>
      intro i hi hp
      have hlt : i < s.length := by omega
      have hg : s.getD i 0 = s[i] := by rw [List.getD_eq_getElem?_getD, List.getElem?_eq_getElem hlt]; rfl
      have w : wrap64 ((i : Int) + 1) = ((i + 1 : Nat) : Int) := by rw [w64 (by omega) (by omega)]; omega
      refine Ev.step (fun k => by rw [impl_TextValid.l0]) ?_
      simp only [size_S, bt_S, Int.toNat_natCast, hg, w]
      refine ev_pos (by omega) (ev_pos (by omega) (ev_pos (by omega) ?_))
      by_cases hc : 32 ≤ s[i].toNat ∧ s[i].toNat ≤ 126
      · refine ev_neg (by omega) (ev_neg (by omega) (ih (i + 1) (by omega) ?_))
        intro j hj hji
        by_cases q : j = i
        · subst q
          exact hc
        · exact hp j hj (by omega)
      · have e1 : decide (textOK s) = false := decide_eq_false (fun q => hc (q.2 s[i] (List.getElem_mem hlt)))
        rw [e1]
        by_cases h3 : (s[i].toNat : Int) < 32
        · exact ev_pos h3 (Ev.now _)
        · exact ev_neg h3 (ev_pos (by omega) (Ev.now _))
  exact loop s.length 0 (by omega) (fun j _ h => by omega)
theorem trimL_full {s : List UInt8} (h : s.length ≤ (trimL s).length) : trimL s = s := (List.dropWhile_suffix _).eq_of_length (Nat.le_antisymm (trimL_len s) h)
theorem trimR_full {s : List UInt8} (h : s.length ≤ (trimR s).length) : trimR s = s := by
  have h1 : (s.reverse.dropWhile (· == 32)) = s.reverse := by
    refine (List.dropWhile_suffix _).eq_of_length (Nat.le_antisymm (dropWhile_len _ _) ?_)
    unfold trimR at h
    simpa using h
  unfold trimR
  rw [h1, List.reverse_reverse]
theorem trimB_trim (s : List UInt8) : Lib.trimB s 32 = s ↔ trim s = s := by
  have e : Lib.trimB s 32 = trimL (trimR s) := rfl
  have l1 := trimL_len (trimR s)
  have l2 := trimR_len s
  have l3 := trimR_len (trimL s)
  have l4 := trimL_len s
  rw [e]
  unfold trim
  constructor
  · intro h
    have hl := congrArg List.length h
    have r1 : trimR s = s := trimR_full (by omega)
    rw [r1] at h
    rw [h, r1]
  · intro h
    have hl := congrArg List.length h
    have r1 : trimL s = s := trimL_full (by omega)
    rw [r1] at h
    rw [h, r1]
theorem index_ge0 : ∀ s : List UInt8, decide (0 ≤ Lib.index s [61, 63]) = hasQ s
  | [] => rfl
  | [a] => by
    have : ([61, 63] : List UInt8).isPrefixOf [a] = false := by simp [List.isPrefixOf]
    rw [Lib.index, this]
    rfl
  | a :: b :: r => by
    have ih := index_ge0 (b :: r)
    have hge := Lib.index_ge (b :: r) [61, 63]
    have e : ([61, 63] : List UInt8).isPrefixOf (a :: b :: r) = (a == 61 && b == 63) := by
      simp only [List.isPrefixOf, Bool.and_true]
      rw [Bool.beq_comm (a := 61), Bool.beq_comm (a := 63)]
    rw [Lib.index, e, hasQ, ← ih]
    cases (a == 61 && b == 63) with
    | true => rfl
    | false =>
      rw [if_neg (by decide), Bool.false_or, decide_eq_decide]
      by_cases q : Lib.index (b :: r) [61, 63] = -1
      · rw [if_pos (by simp [q]), q]
      · rw [if_neg (by simp [q])]
        omega
theorem impl_needs (b : List UInt8) (hl : b.length ≤ 2000000000) : Ev (fun k => impl_NeedsCode.f k (S b)) (needC b) := by
  simp only [impl_NeedsCode.f]
  refine Ev.bind (impl_text b (by omega)) ?_
  have hc : strings_Contains.f (S b) (⟨#[61, 63]⟩ : ByteArray) = some (hasQ b) := by
    unfold strings_Contains.f
    rw [if_pos (by rw [size_S]; omega)]
    exact congrArg some (index_ge0 b)
  have ht : strings_Trim.f (S b) (⟨#[32]⟩ : ByteArray) = some (S (Lib.trimB b 32)) := by
    unfold strings_Trim.f
    rw [if_pos ⟨by rw [size_S]; omega, rfl, by decide⟩]
    rfl
  rw [ht, hc]
  unfold needC
  by_cases h1 : textOK b
  · rw [decide_eq_true h1]
    refine ev_pos rfl ?_
    simp only [Option.bind_some, toList_S, size_S]
    by_cases h2 : trim b = b
    · rw [decide_eq_true h2]
      refine ev_pos ((trimB_trim b).2 h2) ?_
      have e : decide ((b.length : Int) > 120) = decide (b.length > 120) := by
        rw [decide_eq_decide]
        omega
      cases h3 : hasQ b with
      | true => exact ev_pos rfl (Ev.now _)
      | false => exact ev_neg (by decide) (ev_is (by rw [e]; simp))
    · rw [decide_eq_false h2]
      refine ev_neg (fun q => h2 ((trimB_trim b).1 q)) (ev_is ?_)
      simp
  · rw [decide_eq_false h1]
    refine ev_neg (by decide) (ev_is ?_)
    simp

theorem impl_seek {b : List UInt8} {ws : List ByteArray} {c : Nat} {R : ByteArray × Bool} (hl : b.length ≤ 120) (hws : ws.length ≤ 120)
    (H : Ev (fun k => impl_EncodeName.l0 k (S (b.drop c)) (ws ++ [S (codeW (b.take c))])) R) :
    ∀ (f n : Nat), b.length ≤ n + f → 1 ≤ n → n ≤ b.length → grow f b n = c → Ev (fun k => impl_EncodeName.l1 k (S b) ws (n : Int)) R := by
  have fin : ∀ n : Nat, n = c → n ≤ b.length → Ev (fun k => if 0 ≤ (n : Int) then (if (n : Int) ≤ ((S b).size : Int) then ((impl_codeWord.f k ((S b).extract 0 ((n : Int)).toNat)).bind fun t => (if ws.length < 8796093022208 then (impl_EncodeName.l0 k ((S b).extract ((n : Int)).toNat (S b).size) (ws ++ [t])) else (none))) else (none)) else (none)) R := by
    intro n hn hnb
    subst hn
    have e1 : (S b).extract 0 ((n : Int)).toNat = S (b.take n) := by rw [Int.toNat_natCast, extract_S]; rfl
    have e2 : (S b).extract ((n : Int)).toNat (S b).size = S (b.drop n) := by rw [Int.toNat_natCast, extract_S, size_S, List.take_of_length_le (by rw [List.length_drop]; exact Nat.le_refl _)]
    rw [e1, e2]
    have hc := impl_codeW (b.take n) (by rw [List.length_take]; omega)
    exact ev_pos (by omega) (ev_pos (by rw [size_S]; omega) (Ev.bind hc (ev_pos (by omega) H)))
  intro f
  induction f with
  | zero =>
    intro n g1 g2 g3 hg
    have hF := fin n hg g3
    refine Ev.step (fun k => by rw [impl_EncodeName.l1]) ?_
    exact ev_neg (by rw [size_S]; omega) hF
  | succ f ihf =>
    intro n g1 g2 g3 hg
    rw [grow] at hg
    have w : wrap64 ((n : Int) + 1) = ((n + 1 : Nat) : Int) := by rw [w64 (by omega) (by omega)]; omega
    refine Ev.step (fun k => by rw [impl_EncodeName.l1]) ?_
    rw [w]
    by_cases hn : n < b.length
    · have e1 : (S b).extract 0 (((n + 1 : Nat) : Int)).toNat = S (b.take (n + 1)) := by rw [Int.toNat_natCast, extract_S]; rfl
      have hlen : (b.take (n + 1)).length ≤ 100000 := by rw [List.length_take]; omega
      have hcl := impl_codeW _ hlen
      have hcw := codeW_length (b.take (n + 1))
      rw [e1]
      by_cases h28 : (codeL (b.take (n + 1))).length ≤ 28
      · rw [if_pos ⟨hn, h28⟩] at hg
        have hx := ihf (n + 1) (by omega) (by omega) (by omega) hg
        refine ev_pos (by rw [size_S]; omega) (ev_pos (by omega) (ev_pos (by rw [size_S]; omega) (Ev.bind hcl ?_)))
        rw [size_S]
        exact ev_pos (by omega) hx
      · rw [if_neg (fun q => h28 q.2)] at hg
        have hF := fin n hg g3
        refine ev_pos (by rw [size_S]; omega) (ev_pos (by omega) (ev_pos (by rw [size_S]; omega) (Ev.bind hcl ?_)))
        rw [size_S]
        exact ev_neg (by omega) hF
    · rw [if_neg (fun q => hn q.1)] at hg
      have hF := fin n hg g3
      exact ev_neg (by rw [size_S]; omega) hF
theorem impl_spaced (pre : List (List UInt8)) (hp : ∀ w ∈ pre, codeOK w) (hl : pre.length ≤ 120) : strings_Join.f (pre.map fun w => S (codeW w)) (⟨#[32]⟩ : ByteArray) = some (S (spaced pre)) := by
  have e : ((pre.map fun w => S (codeW w)).map (·.data.toList)) = pre.map codeW := by
    rw [List.map_map]
    rfl
  have hs := spaced_len pre hp
  unfold strings_Join.f
  rw [e]
  have e2 : Lib.join (pre.map codeW) (⟨#[32]⟩ : ByteArray).data.toList = spaced pre := rfl
  rw [e2, if_pos ⟨by rw [List.length_map]; omega, by omega⟩]
  rfl
theorem impl_enc_loop : ∀ (m : Nat) (b : List UInt8) (pre : List (List UInt8)), b.length ≤ m → pre.length + b.length ≤ 120 → (∀ w ∈ pre, codeOK w) →
    Ev (fun k => impl_EncodeName.l0 k (S b) (pre.map fun w => S (codeW w))) (S (spaced (pre ++ words b)), true) := by
  intro m
  induction m with
  | zero =>
    intro b pre h1 h2 hp
    have : b = [] := List.eq_nil_of_length_eq_zero (by omega)
    subst this
    refine Ev.step (fun k => by rw [impl_EncodeName.l0]) ?_
    rw [words_nil, List.append_nil, impl_spaced pre hp (by omega)]
    exact ev_neg (by decide) (Ev.now _)
  | succ m ih =>
    intro b pre h1 h2 hp
    by_cases hb : b = []
    · subst hb
      refine Ev.step (fun k => by rw [impl_EncodeName.l0]) ?_
      rw [words_nil, List.append_nil, impl_spaced pre hp (by omega)]
      exact ev_neg (by decide) (Ev.now _)
    · have hlb := List.length_pos_iff.2 hb
      obtain ⟨c1, c2, _⟩ := cutW_bd hb
      have ok := word_ok hb
      obtain ⟨c, hc⟩ : ∃ c, cutW b = c := ⟨_, rfl⟩
      have hx := ih (b.drop c) (pre ++ [b.take c]) (by rw [List.length_drop]; omega) (by simp only [List.length_append, List.length_drop, List.length_cons, List.length_nil]; omega) (by
        intro w hw
        rcases List.mem_append.1 hw with hw | hw
        · exact hp w hw
        · rw [List.mem_singleton.1 hw, ← hc]
          exact ok)
      rw [List.map_append, List.append_assoc, List.map_cons, List.map_nil] at hx
      have e : [b.take c] ++ words (b.drop c) = words b := by
        rw [words_cons hb, hc]
        rfl
      rw [e] at hx
      have hs := impl_seek (b := b) (ws := pre.map fun w => S (codeW w)) (c := c) (by omega) (by rw [List.length_map]; omega) hx b.length 1 (by omega) (by omega) (by omega) hc
      refine Ev.step (fun k => by rw [impl_EncodeName.l0]) ?_
      exact ev_pos (by rw [size_S]; omega) hs
theorem impl_enc (b : List UInt8) : Ev (fun k => impl_EncodeName.f k (S b)) (encR b) := by
  simp only [impl_EncodeName.f, size_S]
  unfold encR
  by_cases h : b.length > 120
  · rw [if_pos h]
    exact ev_pos (by omega) (Ev.now _)
  · rw [if_neg h]
    refine ev_neg (by omega) (Ev.bind (impl_needs b (by omega)) ?_)
    cases hn : needC b with
    | false =>
      rw [if_neg (by decide)]
      exact ev_neg (by decide) (Ev.now _)
    | true =>
      rw [if_pos rfl]
      have := impl_enc_loop b.length b [] (Nat.le_refl _) (by simp only [List.length_nil]; omega) (by simp)
      rw [List.nil_append] at this
      exact ev_pos rfl this

theorem codeR_ok {b : List UInt8} (h : codeOK b) : codeR b = (S (codeW b), true) := by unfold codeR; rw [if_pos h]
theorem codeR_no {b : List UInt8} (h : ¬ codeOK b) : codeR b = (S [], false) := by unfold codeR; rw [if_neg h]
theorem take_ok {b : List UInt8} {n : Nat} (h1 : 1 ≤ n) (h2 : n ≤ b.length) : codeOK (b.take n) ↔ (codeL (b.take n)).length ≤ 28 := by
  have h3 := codeW_length (b.take n)
  have h4 := (codeL_length (b.take n)).1
  have h5 : (b.take n).length = n := by rw [List.length_take]; omega
  unfold codeOK
  constructor
  · intro h
    omega
  · intro h
    exact ⟨by omega, by omega, by omega⟩
theorem take_le (b : List UInt8) {m c : Nat} (h : m ≤ c) : (codeL (b.take m)).length ≤ (codeL (b.take c)).length := by
  have e : b.take m = (b.take c).take m := by rw [List.take_take, Nat.min_eq_left h]
  have e2 : b.take c = (b.take c).take m ++ (b.take c).drop m := (List.take_append_drop m _).symm
  rw [e]
  conv => rhs; rw [e2, codeL_append, List.length_append]
  omega
theorem wide_loop {b s r : List UInt8} {c : Nat} (hl : b.length ≤ 120) (hs : s = codeW (b.take c) ++ r) (hsl : s.length ≤ 5000) (hc1 : 1 ≤ c) (hcb : c ≤ b.length) (hok : codeOK (b.take c))
    (hr0 : c = b.length → r = []) (hr1 : c < b.length → 1 ≤ r.length) : ∀ (f n : Nat), b.length ≤ n + f → 1 ≤ n → n ≤ b.length → grow f b n = c → Ev (fun k => laws_FnNameWide.l0 k (S b) (S s) (n : Int)) true := by
  have fin : ∀ n : Nat, n = c → Ev (fun k => if 0 ≤ (n : Int) then (if (n : Int) ≤ ((S b).size : Int) then ((impl_CodeWord.f k ((S b).extract 0 ((n : Int)).toNat)).bind fun t => (if t.2 = true then (if 0 ≤ (t.1.size : Int) then (if (t.1.size : Int) ≤ ((S s).size : Int) then (if ((S s).extract 0 ((t.1.size : Int) : Int).toNat).toList = t.1.toList then (some (((n : Int) == ((S b).size : Int)) == (((S s).size : Int) == (t.1.size : Int)))) else (some false)) else (none)) else (none)) else (some false))) else (none)) else (none)) true := by
    intro n hn
    subst hn
    have e1 : (S b).extract 0 ((n : Int)).toNat = S (b.take n) := by rw [Int.toNat_natCast, extract_S]; rfl
    have hc := impl_codeR (b.take n)
    rw [codeR_ok hok] at hc
    have e2 : ((S s).extract 0 (((S (codeW (b.take n))).size : Int)).toNat).toList = (S (codeW (b.take n))).toList := by
      rw [Int.toNat_natCast, extract_S, toList_S, toList_S, size_S, hs]
      simp
    have hsl2 : s.length = (codeW (b.take n)).length + r.length := by rw [hs, List.length_append]
    rw [e1]
    refine ev_pos (by omega) (ev_pos (by rw [size_S]; omega) (Ev.bind hc (ev_pos rfl (ev_pos (by omega) (ev_pos (by rw [size_S, size_S]; omega) (ev_pos e2 (ev_is ?_)))))))
    rw [size_S, size_S, size_S]
    by_cases q : n = b.length
    · have hr := hr0 q
      rw [hr, List.length_nil] at hsl2
      have a1 : ((n : Int) == (b.length : Int)) = true := beq_iff_eq.2 (by omega)
      have a2 : ((s.length : Int) == ((codeW (b.take n)).length : Int)) = true := beq_iff_eq.2 (by omega)
      rw [a1, a2]
      rfl
    · have hr := hr1 (by omega)
      have a1 : ((n : Int) == (b.length : Int)) = false := beq_eq_false_iff_ne.2 (by omega)
      have a2 : ((s.length : Int) == ((codeW (b.take n)).length : Int)) = false := beq_eq_false_iff_ne.2 (by omega)
      rw [a1, a2]
      rfl
  intro f
  induction f with
  | zero =>
    intro n g1 g2 g3 hg
    have hF := fin n hg
    refine Ev.step (fun k => by rw [laws_FnNameWide.l0]) ?_
    exact ev_neg (by rw [size_S]; omega) hF
  | succ f ihf =>
    intro n g1 g2 g3 hg
    rw [grow] at hg
    have w : wrap64 ((n : Int) + 1) = ((n + 1 : Nat) : Int) := by rw [w64 (by omega) (by omega)]; omega
    refine Ev.step (fun k => by rw [laws_FnNameWide.l0]) ?_
    rw [w]
    by_cases hn : n < b.length
    · have e1 : (S b).extract 0 (((n + 1 : Nat) : Int)).toNat = S (b.take (n + 1)) := by rw [Int.toNat_natCast, extract_S]; rfl
      have hc := impl_codeR (b.take (n + 1))
      rw [e1]
      by_cases h28 : (codeL (b.take (n + 1))).length ≤ 28
      · rw [if_pos ⟨hn, h28⟩] at hg
        have hx := ihf (n + 1) (by omega) (by omega) (by omega) hg
        rw [codeR_ok ((take_ok (by omega) (by omega)).2 h28)] at hc
        have hge := (grow_ge f b (n + 1)).1
        rw [hg] at hge
        have hle := take_le b hge
        have l1 := codeW_length (b.take (n + 1))
        have l2 := codeW_length (b.take c)
        have hsl2 : s.length = (codeW (b.take c)).length + r.length := by rw [hs, List.length_append]
        obtain ⟨q, hq⟩ := codeW_head (b.take c)
        have e2 : ((S s).extract 0 2).toList = ([61, 63] : List UInt8) := by rw [extract_S, toList_S, hs, hq]; rfl
        exact ev_pos (by rw [size_S]; omega) (ev_pos (by omega) (ev_pos (by rw [size_S]; omega) (Ev.bind hc (ev_pos rfl (ev_neg (by rw [size_S, size_S]; omega) (ev_pos (by omega) (ev_pos (by rw [size_S]; omega) (ev_pos e2 hx))))))))
      · rw [if_neg (fun q => h28 q.2)] at hg
        have hF := fin n hg
        rw [codeR_no (fun q => h28 ((take_ok (by omega) (by omega)).1 q))] at hc
        exact ev_pos (by rw [size_S]; omega) (ev_pos (by omega) (ev_pos (by rw [size_S]; omega) (Ev.bind hc (ev_neg (by decide) hF))))
    · rw [if_neg (fun q => hn q.1)] at hg
      have hF := fin n hg
      exact ev_neg (by rw [size_S]; omega) hF

theorem FnNameWide : laws_FnNameWide.Pure := by
  intro l0 _ _ hw
  refine Ev.rounds ?_
  simp only [laws_FnNameWide.f]
  by_cases hl : (l0.length : Int) > 1048576
  · exact ev_pos hl (Ev.now _)
  refine ev_neg hl ?_
  obtain ⟨t, ht, hd⟩ := drawenc_ex l0 (bytes_wf hw)
  obtain ⟨b, rfl⟩ := ex_S t
  rw [size_S] at ht
  have hi := impl_enc b
  have hs := spec_enc b
  have hn := impl_needs b (by omega)
  by_cases h1 : b.length > 120
  · rw [encR_long h1] at hi hs
    refine Ev.bind hd (Ev.bind hi (Ev.bind hs (ev_pos rfl (ev_neg (by simp) (ev_neg (by decide) ?_)))))
    refine Ev.step (fun k => by rw [laws_FnNameWide.j0]) ?_
    exact ev_pos rfl (ev_pos rfl (ev_is (by simp)))
  · cases h2 : needC b with
    | false =>
      rw [encR_own h2] at hi hs
      rw [h2] at hn
      refine Ev.bind hd (Ev.bind hi (Ev.bind hs (ev_pos rfl (ev_neg (by simp) (ev_pos rfl (Ev.bind hn ?_))))))
      refine Ev.step (fun k => by rw [laws_FnNameWide.j0]) ?_
      exact ev_pos rfl (ev_pos rfl (ev_is (by simp)))
    | true =>
      have hlen : (spaced (words b)).length ≤ 5000 := by
        have := encR_len b
        rw [encR_code h1 h2] at this
        rw [size_S] at this
        exact this
      rw [encR_code h1 h2] at hi hs
      rw [h2] at hn
      refine Ev.bind hd (Ev.bind hi (Ev.bind hs (ev_pos rfl (ev_neg (by simp) (ev_pos rfl (Ev.bind hn ?_))))))
      refine Ev.step (fun k => by rw [laws_FnNameWide.j0]) ?_
      refine ev_neg (by decide) ?_
      have hb := needC_ne h2
      have hbl := List.length_pos_iff.2 hb
      obtain ⟨d1, d2, d3⟩ := cutW_bd hb
      have hok := word_ok hb
      obtain ⟨r, hr, hr0, hr1⟩ := spaced_pre (b.take (cutW b)) (words (b.drop (cutW b)))
      rw [← words_cons hb] at hr
      have hL := wide_loop (b := b) (s := spaced (words b)) (r := r) (c := cutW b) (by omega) hr hlen d1 d2 hok
        (fun q => hr0 (by rw [List.drop_of_length_le (by omega)]; rfl))
        (fun q => hr1 (words_ne (fun z => by have := congrArg List.length z; rw [List.length_drop] at this; simp only [List.length_nil] at this; omega)))
        b.length 1 (by omega) (by omega) (by omega) rfl
      have h1ok : codeOK (b.take 1) := (take_ok (by omega) (by omega)).2 (by have := (codeL_length (b.take 1)).2; rw [List.length_take] at this; omega)
      have hc := impl_codeR (b.take 1)
      rw [codeR_ok h1ok] at hc
      have hle := take_le b d1
      have l1 := codeW_length (b.take 1)
      have l2 := codeW_length (b.take (cutW b))
      have hsl2 : (spaced (words b)).length = (codeW (b.take (cutW b))).length + r.length := by rw [hr, List.length_append]
      obtain ⟨q, hq⟩ := codeW_head (b.take (cutW b))
      have e2 : ((S (spaced (words b))).extract 0 2).toList = ([61, 63] : List UInt8) := by rw [extract_S, toList_S, hr, hq]; rfl
      have w : wrap64 ((0 : Int) + 1) = ((1 : Nat) : Int) := by rw [w64 (by omega) (by omega)]; rfl
      refine Ev.step (fun k => by rw [laws_FnNameWide.l0]) ?_
      rw [w]
      have e1 : (S b).extract 0 (((1 : Nat) : Int)).toNat = S (b.take 1) := by rw [Int.toNat_natCast, extract_S]; rfl
      rw [e1]
      exact ev_pos (by rw [size_S]; omega) (ev_pos (by omega) (ev_pos (by rw [size_S]; omega) (Ev.bind hc (ev_pos rfl (ev_neg (by rw [size_S, size_S]; omega) (ev_pos (by omega) (ev_pos (by rw [size_S]; omega) (ev_pos e2 hL))))))))

end Go.Proofs.YtdkgbemlfajhcaaDoor.PLFnNameWide
namespace Go.Proofs.YtdkgbemlfajhcaaDoor.Pure
open Go.Proofs.YtdkgbemlfajhcaaDoor.PFnNameWide
theorem FnNameWide : laws_FnNameWide.Pure := PLFnNameWide.FnNameWide
end Go.Proofs.YtdkgbemlfajhcaaDoor.Pure
