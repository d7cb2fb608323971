/- The law FnCodeSize holds of the printed functions: coded words are bounded. No conditions. -/
import Derived.Test.YtkebacobfjanjaaPFnCodeSizex3
import Derived.Test.YtkebacobfjanjaaMBase
import Derived.Test.YtkebacobfjanjaaMStr
import Derived.Test.YtkebacobfjanjaaMQuot
import Derived.Test.YtkebacobfjanjaaMCode
namespace Go.Proofs.Ytkebacobfjanjaa.PLFnCodeSize
open Go.RowKit Go.Proofs.Ytkebacobfjanjaa.PFnCodeSize Go.Proofs.YtkebacobfjanjaaW.PrintWords Go.Proofs.YtkebacobfjanjaaW.PrintLast Go.Proofs.YtkebacobfjanjaaW.PrintMore Go.Proofs.Ytkebacobfjanjaa.M

theorem open_ex (l : List Int) (h : Bytes l) : ∃ b, spec_l13Open.f l = some (b, 0) ∧ Bytes b ∧ b.length ≤ 2000 := by
  unfold spec_l13Open.f
  by_cases e : (l.length : Int) > 2000
  · rw [if_pos e, if_pos (by omega)]
    exact ⟨_, rfl, bytes_take h _, by rw [List.length_take]; omega⟩
  · rw [if_neg e]
    exact ⟨_, rfl, h, by omega⟩

theorem pick_ev (b : List Int) (p n : Int) (hb : Bytes b) (hl : b.length ≤ 2000) (hp : 0 ≤ p) (hp1 : p ≤ 1000000) (hn : 1 ≤ n) :
    ∃ r, 0 ≤ r ∧ r < n ∧ Ev (fun k => spec_l13Rd_pick.f k b p n) (r, p + 1) := by
  have w1 : wrap64 (p + 1) = p + 1 := w64 (by omega) (by omega)
  have w2 : wrap64 (p + 1 - 1) = p := by
    rw [w64 (by omega) (by omega)]
    omega
  by_cases e0 : (b.length : Int) = 0
  · refine ⟨0, by omega, by omega, ?_⟩
    simp only [spec_l13Rd_pick.f]
    refine ev_neg (by omega) ?_
    rw [w1]
    refine Ev.step (fun k => by rw [spec_l13Rd_pick.j0]) ?_
    refine ev_pos (by simp [e0]) ?_
    exact Ev.now _
  · have f0 : ((b.length : Int) == 0) = false := beq_eq_false_iff_ne.mpr e0
    by_cases e1 : p < (b.length : Int)
    · obtain ⟨r0, r1⟩ := rd_bytes hb p
      have w3 : wrap64 (rd b p) = rd b p := w64 (by omega) (by omega)
      refine ⟨rd b p % n, Int.emod_nonneg _ (by omega), Int.emod_lt_of_pos _ (by omega), ?_⟩
      simp only [spec_l13Rd_pick.f]
      refine ev_neg (by omega) ?_
      rw [w1, f0]
      refine Ev.step (fun k => by rw [spec_l13Rd_pick.j0]) ?_
      simp only [w2, w3]
      refine ev_neg (by simp) (ev_pos e1 (ev_pos hp (ev_neg (by omega) ?_)))
      rw [Int.tmod_eq_emod_of_nonneg r0]
      exact Ev.now _
    · have hL : (0 : Int) < (b.length : Int) := by omega
      have t1 : Int.tmod p (b.length : Int) = p % (b.length : Int) := Int.tmod_eq_emod_of_nonneg hp
      have w4 : wrap64 (p * 7) = p * 7 := w64 (by omega) (by omega)
      have w5 : wrap64 (p * 7 + 3) = p * 7 + 3 := w64 (by omega) (by omega)
      have t2 : Int.tmod (p * 7 + 3) (b.length : Int) = (p * 7 + 3) % (b.length : Int) := Int.tmod_eq_emod_of_nonneg (by omega)
      have a0 := Int.emod_nonneg p (b := (b.length : Int)) (by omega)
      have a1 := Int.emod_lt_of_pos p hL
      have c0 := Int.emod_nonneg (p * 7 + 3) (b := (b.length : Int)) (by omega)
      have c1 := Int.emod_lt_of_pos (p * 7 + 3) hL
      obtain ⟨x0, x1⟩ := rd_bytes hb (p % (b.length : Int))
      obtain ⟨y0, y1⟩ := rd_bytes hb ((p * 7 + 3) % (b.length : Int))
      have d1 : Int.tdiv p (b.length : Int) = p / (b.length : Int) := Int.tdiv_eq_ediv_of_nonneg hp
      have d2 : 0 ≤ p / (b.length : Int) := Int.ediv_nonneg hp (by omega)
      have d3 : p / (b.length : Int) ≤ p := Int.ediv_le_self _ hp
      have ew1 : wrap64 (rd b (p % (b.length : Int))) = rd b (p % (b.length : Int)) := w64 (by omega) (by omega)
      have ew2 : wrap64 (rd b ((p * 7 + 3) % (b.length : Int))) = rd b ((p * 7 + 3) % (b.length : Int)) := w64 (by omega) (by omega)
      have ew3 : wrap64 (p / (b.length : Int)) = p / (b.length : Int) := w64 (by omega) (by omega)
      have hz : ∀ x y q : Int, 0 ≤ x → x < 256 → 0 ≤ y → y < 256 → 0 ≤ q → q ≤ p →
          wrap64 ((wrap64 ((wrap64 ((wrap64 (x * 131)) + (wrap64 (y * 1117)))) + (wrap64 (p * 29)))) + (wrap64 (q * 53))) = x * 131 + y * 1117 + p * 29 + q * 53 := by
        intro x y q hx hx1 hy hy1 hq hq1
        rw [w64 (n := x * 131) (by omega) (by omega), w64 (n := y * 1117) (by omega) (by omega), w64 (n := p * 29) (by omega) (by omega), w64 (n := q * 53) (by omega) (by omega),
          w64 (n := x * 131 + y * 1117) (by omega) (by omega), w64 (n := x * 131 + y * 1117 + p * 29) (by omega) (by omega), w64 (by omega) (by omega)]
      have hz' := hz _ _ _ x0 x1 y0 y1 d2 d3
      obtain ⟨S, hS⟩ : ∃ S, S = rd b (p % (b.length : Int)) * 131 + rd b ((p * 7 + 3) % (b.length : Int)) * 1117 + p * 29 + p / (b.length : Int) * 53 := ⟨_, rfl⟩
      rw [← hS] at hz'
      have s0 : 0 ≤ S ∧ S < 1000000000 := by omega
      have s1 : Int.tdiv S 64 = S / 64 := Int.tdiv_eq_ediv_of_nonneg s0.1
      have s2 : wrap64 (S / 64) = S / 64 := w64 (by omega) (by omega)
      have hx := xor_nonneg (x := S) (y := S / 64) (by omega) (by omega) (by omega) (by omega)
      refine ⟨bits .xor .i64 S (S / 64) % n, Int.emod_nonneg _ (by omega), Int.emod_lt_of_pos _ (by omega), ?_⟩
      simp only [spec_l13Rd_pick.f]
      refine ev_neg (by omega) ?_
      rw [w1, f0]
      refine Ev.step (fun k => by rw [spec_l13Rd_pick.j0]) ?_
      simp only [w2, t1, w4, w5, t2, d1, ew1, ew2, ew3, hz', s1, s2]
      refine ev_neg (by simp) (ev_neg e1 (ev_neg e0 (ev_pos a0 (ev_pos a1 (ev_pos c0 (ev_pos c1 (ev_neg (by omega) ?_)))))))
      rw [Int.tmod_eq_emod_of_nonneg hx]
      exact Ev.now _

theorem num_ev (b : List Int) (p : Int) (l : List Int) (hb : Bytes b) (hl : b.length ≤ 2000) (hp : 0 ≤ p) (hp1 : p ≤ 1000000) (hn : 1 ≤ l.length) :
    ∃ r, 0 ≤ r ∧ r < (l.length : Int) ∧ Ev (fun k => spec_l13Rd_num.f k b p l) (rd l r, p + 1) := by
  obtain ⟨r, h0, h1, h⟩ := pick_ev b p (l.length : Int) hb hl hp hp1 (by omega)
  refine ⟨r, h0, h1, ?_⟩
  simp only [spec_l13Rd_num.f]
  refine Ev.bind h ?_
  exact ev_pos h0 (ev_pos h1 (Ev.now _))

theorem of_ev (b : List Int) (p : Int) (l : List ByteArray) (hb : Bytes b) (hl : b.length ≤ 2000) (hp : 0 ≤ p) (hp1 : p ≤ 1000000) (hn : 1 ≤ l.length) :
    ∃ x ∈ l, Ev (fun k => spec_l13Rd_of.f k b p l) (x, p + 1) := by
  obtain ⟨r, h0, h1, h⟩ := pick_ev b p (l.length : Int) hb hl hp hp1 (by omega)
  have hr : r.toNat < l.length := by omega
  refine ⟨l[r.toNat], List.getElem_mem hr, ?_⟩
  have e : rdOf ByteArray.empty l r = l[r.toNat] := by
    unfold rdOf
    rw [List.getD_eq_getElem?_getD, List.getElem?_eq_getElem hr]
    rfl
  simp only [spec_l13Rd_of.f]
  refine Ev.bind h ?_
  refine ev_pos h0 (ev_pos h1 ?_)
  rw [e]
  exact Ev.now _

theorem l6loop_ex (b : List Int) (hb : Bytes b) (hl : b.length ≤ 2000) : ∀ (n : Nat) (s : ByteArray) (p : Int), n ≤ 8 → 0 ≤ p → p + n ≤ 1000 → s.size + 50 * n ≤ 1000 →
    ∃ t q, t.size ≤ 1000 ∧ 0 ≤ q ∧ q ≤ 1000 ∧ Ev (fun k => spec_l6Draw.l0 k s (n : Int) b p) (t, q) := by
  intro n
  induction n with
  | zero =>
    intro s p h8 hp hp1 hs
    refine ⟨s, p, by omega, by omega, by omega, ?_⟩
    refine Ev.step (fun k => by rw [spec_l6Draw.l0]) ?_
    exact ev_neg (by omega) (Ev.now _)
  | succ n ih =>
    intro s p h8 hp hp1 hs
    obtain ⟨x, hx, h⟩ := of_ev b p ([(⟨#[90, 111, 195, 171]⟩ : ByteArray), (⟨#[32]⟩ : ByteArray), (⟨#[65, 110, 110, 32, 76, 101, 101]⟩ : ByteArray), (⟨#[61, 63]⟩ : ByteArray), (⟨#[97]⟩ : ByteArray), (⟨#[95]⟩ : ByteArray), (⟨#[97, 32, 108, 111, 110, 103, 101, 114, 32, 110, 97, 109, 101, 32, 111, 102, 32, 109, 97, 110, 121, 32, 119, 111, 114, 100, 115]⟩ : ByteArray), (⟨#[255]⟩ : ByteArray), (⟨#[61, 63, 117, 116, 102, 45, 56, 63, 113, 63, 120, 63, 61]⟩ : ByteArray), (⟨#[32, 32]⟩ : ByteArray)] : List ByteArray) hb hl hp (by omega) (by simp)
    have hxs : x.size ≤ 50 := by
      simp only [List.mem_cons, List.not_mem_nil, or_false] at hx
      rcases hx with rfl | rfl | rfl | rfl | rfl | rfl | rfl | rfl | rfl | rfl <;> decide
    obtain ⟨t, q, ht, hq0, hq1, h2⟩ := ih (s ++ x) (p + 1) (by omega) (by omega) (by omega) (by rw [ByteArray.size_append]; omega)
    refine ⟨t, q, ht, hq0, hq1, ?_⟩
    have w : wrap64 (((n + 1 : Nat) : Int) - 1) = (n : Int) := by rw [w64 (by omega) (by omega)]; omega
    refine Ev.step (fun k => by rw [spec_l6Draw.l0]) ?_
    refine ev_pos (by omega) ?_
    refine Ev.bind h ?_
    refine ev_pos (show s.size + x.size ≤ 9223372036854775807 by omega) ?_
    rw [w]
    exact h2

theorem l6draw_ex (b : List Int) (p : Int) (hb : Bytes b) (hl : b.length ≤ 2000) (hp : 0 ≤ p) (hp1 : p ≤ 100) :
    ∃ t q, t.size ≤ 1000 ∧ 0 ≤ q ∧ q ≤ 1000 ∧ Ev (fun k => spec_l6Draw.f k b p) (t, q) := by
  obtain ⟨r, h0, h1, h⟩ := num_ev b p [2, 1, 3, 0, 6] hb hl hp (by omega) (by simp)
  simp only [List.length_cons, List.length_nil] at h1
  have hr : ∃ n : Nat, n ≤ 8 ∧ rd [2, 1, 3, 0, 6] r = (n : Int) := by
    have : r = 0 ∨ r = 1 ∨ r = 2 ∨ r = 3 ∨ r = 4 := by omega
    rcases this with rfl | rfl | rfl | rfl | rfl
    · exact ⟨2, by omega, rfl⟩
    · exact ⟨1, by omega, rfl⟩
    · exact ⟨3, by omega, rfl⟩
    · exact ⟨0, by omega, rfl⟩
    · exact ⟨6, by omega, rfl⟩
  obtain ⟨n, hn, e⟩ := hr
  rw [e] at h
  obtain ⟨t, q, ht, hq0, hq1, h2⟩ := l6loop_ex b hb hl n (⟨#[]⟩ : ByteArray) (p + 1) hn (by omega) (by omega) (by show 0 + 50 * n ≤ 1000; omega)
  refine ⟨t, q, ht, hq0, hq1, ?_⟩
  simp only [spec_l6Draw.f]
  refine Ev.bind h ?_
  exact h2

theorem drawcode_ex (l : List Int) (h : Bytes l) : ∃ t, t.size ≤ 1000 ∧ Ev (fun k => spec_DrawCodeWord.f k l) t := by
  obtain ⟨b, hb, h1, h2⟩ := open_ex l h
  obtain ⟨t, q, ht, hq0, hq1, h3⟩ := l6draw_ex b 0 h1 h2 (by omega) (by omega)
  by_cases c : (t.size : Int) > 9
  · obtain ⟨r, _, _, h4⟩ := pick_ev b q 3 h1 h2 hq0 (by omega) (by omega)
    by_cases c2 : r > 0
    · refine ⟨t.extract 0 9, by rw [ByteArray.size_extract]; omega, ?_⟩
      simp only [spec_DrawCodeWord.f, hb, Option.bind_some]
      refine Ev.bind h3 ?_
      refine ev_pos c ?_
      refine Ev.bind h4 ?_
      exact ev_pos c2 (ev_pos (by omega) (ev_pos (show (9 : Int) ≤ (t.size : Int) by omega) (Ev.now _)))
    · refine ⟨t, ht, ?_⟩
      simp only [spec_DrawCodeWord.f, hb, Option.bind_some]
      refine Ev.bind h3 ?_
      refine ev_pos c ?_
      refine Ev.bind h4 ?_
      exact ev_neg c2 (Ev.now _)
  · refine ⟨t, ht, ?_⟩
    simp only [spec_DrawCodeWord.f, hb, Option.bind_some]
    refine Ev.bind h3 ?_
    exact ev_neg c (Ev.now _)

theorem spec_hex (c : UInt8) : spec_l5Hex.f (c.toNat : Int) = some (S (hex3 c)) := by
  have hc := c.toNat_lt
  unfold spec_l5Hex.f
  have a : bits .and .u8 (c.toNat : Int) 15 = ((c.toNat % 16 : Nat) : Int) := by
    rw [u8_and15 _ (by omega) (by omega)]
    omega
  have b : ((c.toNat : Int) / 16) = ((c.toNat / 16 : Nat) : Int) := by omega
  have e1 : ((((c.toNat / 16 : Nat) : Int) + 1) % 256) = (((c.toNat / 16) + 1 : Nat) : Int) := by omega
  have e2 : ((((c.toNat % 16 : Nat) : Int) + 1) % 256) = (((c.toNat % 16) + 1 : Nat) : Int) := by omega
  have x1 := extract_digit (c.toNat / 16) (by omega)
  have x2 := extract_digit (c.toNat % 16) (by omega)
  simp only [a, b, e1, e2, Int.toNat_natCast, x1, x2, mk_S, append_S, size_S]
  rw [if_pos (by omega), if_pos (by omega), if_pos (by omega), if_pos (by simp), if_pos (by omega), if_pos (by omega), if_pos (by omega), if_pos (by simp)]
  rfl


theorem spec_letter (n : Int) : spec_l1Letter.f n = some (isAlpha n || isNum n) := by
  unfold spec_l1Letter.f isAlpha isNum
  by_cases a : n ≥ 97
  · rw [if_pos a]
    by_cases b : n ≤ 122
    · rw [if_pos b]
      have : (97 ≤ n ∧ n ≤ 122) := ⟨a, b⟩
      simp [this]
    · rw [if_neg b, if_pos (by omega), if_neg (by omega), if_pos (by omega)]
      have h1 : ¬ ((97 ≤ n ∧ n ≤ 122) ∨ (65 ≤ n ∧ n ≤ 90)) := by omega
      have h3 : ¬ n ≤ 57 := by omega
      simp [h1, h3]
  · rw [if_neg a]
    by_cases c : n ≥ 65
    · rw [if_pos c]
      by_cases d : n ≤ 90
      · rw [if_pos d]
        have : (97 ≤ n ∧ n ≤ 122) ∨ (65 ≤ n ∧ n ≤ 90) := .inr ⟨c, d⟩
        simp [this]
      · rw [if_neg d, if_pos (by omega)]
        have h1 : ¬ ((97 ≤ n ∧ n ≤ 122) ∨ (65 ≤ n ∧ n ≤ 90)) := by omega
        have h3 : ¬ n ≤ 57 := by omega
        simp [h1, h3]
    · rw [if_neg c]
      have h1 : ¬ ((97 ≤ n ∧ n ≤ 122) ∨ (65 ≤ n ∧ n ≤ 90)) := by omega
      by_cases d : n ≥ 48
      · rw [if_pos d]
        have : 48 ≤ n := d
        simp [h1, this]
      · rw [if_neg d]
        have : ¬ (48 ≤ n ∧ n ≤ 57) := by omega
        simp [h1, this]

theorem self_str (c : UInt8) : strOfNums ([(c.toNat : Int)] : List Int) = S [c] := by
  rw [strOfNums_S]
  simp

theorem spec_codeB (c : UInt8) : spec_l6Byte.f (c.toNat : Int) = some (S (codeB c)) := by
  unfold spec_l6Byte.f
  simp only [spec_letter, spec_hex, self_str, Option.bind_some]
  unfold codeB
  by_cases h32 : (c.toNat : Int) = 32
  · rw [if_pos h32]
    have hn : c.toNat = 32 := by omega
    have hs : selfC (c.toNat : Int) = false := by rw [h32]; rfl
    rw [hs, if_neg Bool.false_ne_true, if_pos hn]
    rfl
  · rw [if_neg h32]
    by_cases ha : (isAlpha (c.toNat : Int) || isNum (c.toNat : Int)) = true
    · rw [if_pos ha]
      have hs : selfC (c.toNat : Int) = true := by unfold selfC; simp [ha]
      rw [if_pos hs]
    · rw [if_neg ha]
      by_cases h45 : (c.toNat : Int) = 45
      · rw [if_pos h45]
        have hs : selfC (c.toNat : Int) = true := by unfold selfC; simp [h45]
        rw [if_pos hs]
      · rw [if_neg h45]
        by_cases h46 : (c.toNat : Int) = 46
        · rw [if_pos h46]
          have hs : selfC (c.toNat : Int) = true := by unfold selfC; simp [h46]
          rw [if_pos hs]
        · rw [if_neg h46]
          have hs : ¬ selfC (c.toNat : Int) = true := by
            unfold selfC
            have ha' : (isAlpha (c.toNat : Int) || isNum (c.toNat : Int)) = false := by simpa using ha
            rw [ha', decide_eq_false h45, decide_eq_false h46]
            simp
          rw [if_neg hs, if_neg (by omega)]

theorem spec_codeL (b : List UInt8) (hb : b.length ≤ 100000) : Ev (fun k => spec_l6Code.f k (S b)) (S (codeL b)) := by
  simp only [spec_l6Code.f]
  have : ∀ (e i : Nat), i + e = b.length → Ev (fun k => spec_l6Code.l0 k (S b) (S (codeL (b.take i))) (i : Int)) (S (codeL b)) := by
    intro e
    induction e with
    | zero =>
      intro i hi
      rw [List.take_of_length_le (by omega)]
      refine Ev.step (fun k => by rw [spec_l6Code.l0]) ?_
      rw [size_S]
      exact ev_neg (by omega) (Ev.now _)
    | succ e ih =>
      intro i hi
      have hlt : i < b.length := by omega
      have hg : b.getD i 0 = b[i] := by rw [List.getD_eq_getElem?_getD, List.getElem?_eq_getElem hlt]; rfl
      have hih := ih (i + 1) (by omega)
      have hx := (codeL_length (b.take i)).2
      have hq := codeB_length b[i]
      rw [List.length_take] at hx
      rw [List.take_succ_eq_append_getElem hlt, codeL_snoc] at hih
      have w : wrap64 ((i : Int) + 1) = ((i + 1 : Nat) : Int) := by rw [w64 (by omega) (by omega)]; omega
      refine Ev.step (fun k => by rw [spec_l6Code.l0]) ?_
      simp only [size_S, bt_S, Int.toNat_natCast, hg, w]
      clear w
      refine ev_pos (by omega) (ev_pos (by omega) ?_)
      refine ev_bind0 (spec_codeB b[i]) ?_
      simp only [size_S, append_S]
      exact ev_pos (by omega) hih
  exact this b.length 0 (by omega)

theorem spec_codeR (b : List UInt8) : Ev (fun k => spec_CodeWord.f k (S b)) (codeR b) := by
  simp only [spec_CodeWord.f, size_S]
  have hT : ¬ codeOK b → Ev (fun k => spec_CodeWord.j0 k (S b) true) (codeR b) := by
    intro h
    unfold codeR
    rw [if_neg h]
    refine Ev.step (fun k => by rw [spec_CodeWord.j0]) ?_
    exact ev_pos rfl (Ev.now _)
  by_cases c1 : (b.length : Int) < 1
  · refine ev_pos c1 (hT (fun h => ?_))
    have := h.1
    omega
  refine ev_neg c1 ?_
  by_cases c2 : (b.length : Int) > 40
  · rw [decide_eq_true c2]
    refine hT (fun h => ?_)
    have := h.2.1
    omega
  rw [decide_eq_false c2]
  have hl := codeL_length b
  have hw := codeW_length b
  refine Ev.step (fun k => by rw [spec_CodeWord.j0]) ?_
  refine ev_neg (by simp) ?_
  refine Ev.bind (spec_codeL b (by omega)) ?_
  have e1 : (⟨#[61, 63, 117, 116, 102, 45, 56, 63, 113, 63]⟩ : ByteArray) ++ S (codeL b) ++ (⟨#[63, 61]⟩ : ByteArray) = S (codeW b) := by
    show S codePre ++ S (codeL b) ++ S [63, 61] = _
    rw [append_S, append_S]
    rfl
  have e2 : ((⟨#[61, 63, 117, 116, 102, 45, 56, 63, 113, 63]⟩ : ByteArray) ++ S (codeL b)).size = 10 + (codeL b).length := by
    show (S codePre ++ S (codeL b)).size = _
    rw [append_S, size_S, List.length_append]
    rfl
  simp only [e1, e2, size_S]
  refine ev_pos (by omega) (ev_pos (by omega) ?_)
  unfold codeR
  by_cases c3 : ((codeW b).length : Int) > 40
  · rw [if_neg (fun h : codeOK b => by have := h.2.2; omega)]
    exact ev_pos c3 (Ev.now _)
  · rw [if_pos (show codeOK b from ⟨by omega, by omega, by omega⟩)]
    exact ev_neg c3 (Ev.now _)

theorem impl_hex (c : UInt8) : impl_hexByte.f (c.toNat : Int) = some (S (hex3 c)) := by
  have hc := c.toNat_lt
  unfold impl_hexByte.f
  have a : bits .and .u8 (c.toNat : Int) 15 = ((c.toNat % 16 : Nat) : Int) := by
    rw [u8_and15 _ (by omega) (by omega)]
    omega
  have b : ((c.toNat : Int) / 16) = ((c.toNat / 16 : Nat) : Int) := by omega
  have e1 : ((((c.toNat / 16 : Nat) : Int) + 1) % 256) = (((c.toNat / 16) + 1 : Nat) : Int) := by omega
  have e2 : ((((c.toNat % 16 : Nat) : Int) + 1) % 256) = (((c.toNat % 16) + 1 : Nat) : Int) := by omega
  have x1 := extract_digit (c.toNat / 16) (by omega)
  have x2 := extract_digit (c.toNat % 16) (by omega)
  simp only [a, b, e1, e2, Int.toNat_natCast, x1, x2, mk_S, append_S, size_S]
  rw [if_pos (by omega), if_pos (by omega), if_pos (by omega), if_pos (by simp), if_pos (by omega), if_pos (by omega), if_pos (by omega), if_pos (by simp)]
  rfl


theorem impl_alpha (n : Int) : impl_isLetter.f n = some (isAlpha n) := by
  unfold impl_isLetter.f isAlpha
  by_cases a : n ≥ 97
  · rw [if_pos a]
    by_cases b : n ≤ 122
    · rw [if_pos b]
      have : (97 ≤ n ∧ n ≤ 122) := ⟨a, b⟩
      simp [this]
    · rw [if_neg b, if_pos (by omega)]
      congr 1
      rw [decide_eq_decide]
      omega
  · rw [if_neg a]
    by_cases c : n ≥ 65
    · rw [if_pos c]
      congr 1
      rw [decide_eq_decide]
      omega
    · rw [if_neg c]
      have h1 : ¬ ((97 ≤ n ∧ n ≤ 122) ∨ (65 ≤ n ∧ n ≤ 90)) := by omega
      simp [h1]

theorem impl_num (n : Int) : impl_isDigit.f n = some (isNum n) := by
  unfold impl_isDigit.f isNum
  by_cases a : n ≥ 48
  · rw [if_pos a]
    congr 1
    rw [decide_eq_decide]
    omega
  · rw [if_neg a]
    have : ¬ (48 ≤ n ∧ n ≤ 57) := by omega
    simp [this]

theorem impl_codeB (c : UInt8) : Ev (fun k => impl_codeByte.f k (c.toNat : Int)) (S (codeB c)) := by
  simp only [impl_codeByte.f, impl_alpha, impl_num, Option.bind_some]
  have hj : ∀ s : Bool, s = selfC (c.toNat : Int) → Ev (fun k => impl_codeByte.j0 k (c.toNat : Int) s) (S (codeB c)) := by
    intro s hs
    refine Ev.step (fun k => by rw [impl_codeByte.j0]) ?_
    rw [self_str]
    unfold codeB
    rw [← hs]
    cases s with
    | true => exact ev_pos rfl (ev_is (by rw [if_pos rfl]))
    | false =>
      refine ev_neg (by simp) ?_
      rw [if_neg Bool.false_ne_true]
      by_cases h32 : (c.toNat : Int) = 32
      · refine ev_pos h32 (ev_is ?_)
        rw [if_pos (by omega)]
        rfl
      · refine ev_neg h32 ?_
        refine ev_bind0 (impl_hex c) (ev_is ?_)
        rw [if_neg (by omega)]
  by_cases h1 : isAlpha (c.toNat : Int) = true
  · refine ev_pos h1 (hj true ?_)
    unfold selfC
    simp [h1]
  refine ev_neg h1 ?_
  by_cases h2 : isNum (c.toNat : Int) = true
  · refine ev_pos h2 (hj true ?_)
    unfold selfC
    simp [h2]
  refine ev_neg h2 ?_
  have h1' : isAlpha (c.toNat : Int) = false := by simpa using h1
  have h2' : isNum (c.toNat : Int) = false := by simpa using h2
  by_cases h45 : (c.toNat : Int) = 45
  · refine ev_pos h45 (hj true ?_)
    unfold selfC
    rw [decide_eq_true h45]
    simp
  refine ev_neg h45 (hj _ ?_)
  unfold selfC
  rw [h1', h2', decide_eq_false h45]
  rw [Bool.eq_iff_iff]
  simp

theorem impl_codeW (b : List UInt8) (hb : b.length ≤ 100000) : Ev (fun k => impl_codeWord.f k (S b)) (S (codeW b)) := by
  simp only [impl_codeWord.f, size_S]
  have : ∀ (e i : Nat), i + e = b.length → Ev (fun k => impl_codeWord.l0 k (S b) (S (codePre ++ codeL (b.take i))) (b.length : Int) (i : Int)) (S (codeW b)) := by
    intro e
    induction e with
    | zero =>
      intro i hi
      rw [List.take_of_length_le (by omega)]
      have hx := (codeL_length b).2
      refine Ev.step (fun k => by rw [impl_codeWord.l0]) ?_
      have hpl : codePre.length = 10 := rfl
      simp only [size_S, mk_S, append_S, List.length_append]
      exact ev_neg (by omega) (ev_pos (by omega) (Ev.now _))
    | succ e ih =>
      intro i hi
      have hlt : i < b.length := by omega
      have hg : b.getD i 0 = b[i] := by rw [List.getD_eq_getElem?_getD, List.getElem?_eq_getElem hlt]; rfl
      have hih := ih (i + 1) (by omega)
      have hx := (codeL_length (b.take i)).2
      have hq := codeB_length b[i]
      rw [List.length_take] at hx
      rw [List.take_succ_eq_append_getElem hlt, codeL_snoc, ← List.append_assoc] at hih
      have w : wrap64 ((i : Int) + 1) = ((i + 1 : Nat) : Int) := by rw [w64 (by omega) (by omega)]; omega
      have hpl : codePre.length = 10 := rfl
      refine Ev.step (fun k => by rw [impl_codeWord.l0]) ?_
      simp only [size_S, bt_S, Int.toNat_natCast, hg, w]
      clear w
      refine ev_pos (by omega) (ev_pos (by omega) (ev_pos (by omega) ?_))
      refine Ev.bind (impl_codeB b[i]) ?_
      simp only [size_S, append_S, List.length_append]
      exact ev_pos (by omega) hih
  exact this b.length 0 (by omega)

theorem impl_codeR (b : List UInt8) : Ev (fun k => impl_CodeWord.f k (S b)) (codeR b) := by
  simp only [impl_CodeWord.f, size_S]
  unfold codeR
  by_cases c1 : (b.length : Int) = 0
  · rw [if_neg (fun h : codeOK b => by have := h.1; omega)]
    exact ev_pos c1 (Ev.now _)
  refine ev_neg c1 ?_
  by_cases c2 : (b.length : Int) > 40
  · rw [if_neg (fun h : codeOK b => by have := h.2.1; omega)]
    exact ev_pos c2 (Ev.now _)
  refine ev_neg c2 ?_
  refine Ev.bind (impl_codeW b (by omega)) ?_
  simp only [size_S]
  by_cases c3 : ((codeW b).length : Int) > 40
  · rw [if_neg (fun h : codeOK b => by have := h.2.2; omega)]
    exact ev_pos c3 (Ev.now _)
  · rw [if_pos (show codeOK b from ⟨by omega, by omega, by omega⟩)]
    refine ev_neg c3 ?_
    refine Ev.bind (impl_codeW b (by omega)) ?_
    exact Ev.now _

/-- A text: printable bytes, at most 200. -/
theorem impl_text_ok (s : List UInt8) (hl : s.length ≤ 200) (h : ∀ c ∈ s, 32 ≤ c.toNat ∧ c.toNat ≤ 126) : Ev (fun k => impl_TextValid.f k (S s)) true := by
  simp only [impl_TextValid.f, size_S]
  have : ∀ (e i : Nat), i + e = s.length → Ev (fun k => impl_TextValid.l0 k (S s) (s.length : Int) (i : Int)) true := by
    intro e
    induction e with
    | zero =>
      intro i hi
      refine Ev.step (fun k => by rw [impl_TextValid.l0]) ?_
      rw [size_S]
      refine ev_neg (by omega) (ev_is ?_)
      rw [decide_eq_true (by omega)]
    | succ e ih =>
      intro i hi
      have hlt : i < s.length := by omega
      have hg : s.getD i 0 = s[i] := by rw [List.getD_eq_getElem?_getD, List.getElem?_eq_getElem hlt]; rfl
      have hc := h s[i] (List.getElem_mem hlt)
      have hih := ih (i + 1) (by omega)
      have w : wrap64 ((i : Int) + 1) = ((i + 1 : Nat) : Int) := by rw [w64 (by omega) (by omega)]; omega
      refine Ev.step (fun k => by rw [impl_TextValid.l0]) ?_
      simp only [size_S, bt_S, Int.toNat_natCast, hg, w]
      clear w hg
      obtain ⟨x, hx⟩ : ∃ x : Nat, x = s[i].toNat := ⟨_, rfl⟩
      rw [← hx] at hc
      simp only [← hx]
      clear hx
      exact ev_pos (by omega) (ev_pos (by omega) (ev_pos (by omega) (ev_neg (by omega) (ev_neg (by omega) hih))))
  exact this s.length 0 (by omega)

theorem FnCodeSize : laws_FnCodeSize.Pure := by
  intro l0 _ _ hw
  refine Ev.rounds ?_
  simp only [laws_FnCodeSize.f]
  by_cases hl : (l0.length : Int) > 1048576
  · exact ev_pos hl (Ev.now _)
  refine ev_neg hl ?_
  obtain ⟨t, _, hd⟩ := drawcode_ex l0 (bytes_wf hw)
  obtain ⟨b, rfl⟩ := ex_S t
  refine Ev.bind hd ?_
  refine Ev.bind (impl_codeR b) ?_
  refine Ev.bind (spec_codeR b) ?_
  refine ev_pos rfl (ev_neg (by simp) ?_)
  by_cases ok : codeOK b
  · have e : codeR b = (S (codeW b), true) := by unfold codeR; rw [if_pos ok]
    obtain ⟨o1, o2, o3⟩ := ok
    have hx := codeL_length b
    have hy := codeW_length b
    simp only [e, size_S]
    obtain ⟨w1, w2⟩ : wrap64 (wrap64 (3 * (b.length : Int)) + 12) = 3 * (b.length : Int) + 12 ∧ wrap64 ((b.length : Int) + 12) = (b.length : Int) + 12 :=
      ⟨by rw [w64 (n := 3 * (b.length : Int)) (by omega) (by omega), w64 (by omega) (by omega)], w64 (by omega) (by omega)⟩
    rw [w1, w2]
    clear w1 w2
    refine ev_pos trivial (ev_pos (by omega) (ev_pos (by omega) ?_))
    refine Ev.bind (impl_text_ok (codeW b) (by omega) (fun c hc => by have := codeW_print b c hc; omega)) ?_
    exact Ev.now _
  · have e : codeR b = (S [], false) := by unfold codeR; rw [if_neg ok]
    simp only [e]
    exact ev_neg (by simp) (ev_is (by simp))

end Go.Proofs.Ytkebacobfjanjaa.PLFnCodeSize
namespace Go.Proofs.Ytkebacobfjanjaa.Pure
open Go.Proofs.Ytkebacobfjanjaa.PFnCodeSize
theorem FnCodeSize : laws_FnCodeSize.Pure := PLFnCodeSize.FnCodeSize
end Go.Proofs.Ytkebacobfjanjaa.Pure
