/- The law FnQuotedPlain holds of the printed functions: most bytes are themselves. No conditions. -/
import Derived.Test.YtenplenjpliciaaPFnQuotedPlainx5
import Derived.Test.YtenplenjpliciaaMBase
import Derived.Test.YtenplenjpliciaaMStr
import Derived.Test.YtenplenjpliciaaMQuot
namespace Go.Proofs.Ytenplenjpliciaa.PLFnQuotedPlain
open Go.RowKit Go.Proofs.Ytenplenjpliciaa.PFnQuotedPlain Go.Proofs.YtenplenjpliciaaW.PrintWords Go.Proofs.YtenplenjpliciaaW.PrintLast Go.Proofs.YtenplenjpliciaaW.PrintMore Go.Proofs.Ytenplenjpliciaa.M

theorem open_ex (l : List Int) (h : Bytes l) : ∃ b, spec_l13Open.f l = some (b, 0) ∧ Bytes b ∧ b.length ≤ 2000 := by
  unfold spec_l13Open.f
  by_cases e : (l.length : Int) > 2000
  · rw [if_pos e, if_pos (by omega)]
    exact ⟨_, rfl, bytes_take h _, by rw [List.length_take]; omega⟩
  · rw [if_neg e]
    exact ⟨_, rfl, h, by omega⟩

theorem pick_ev (b : List Int) (p n : Int) (hb : Bytes b) (hl : b.length ≤ 2000) (hp : 0 ≤ p) (hp1 : p ≤ 1000000) (hn : 1 ≤ n) :
    ∃ r, 0 ≤ r ∧ r < n ∧ Ev (fun k => spec_l13Rd_pick.f k b p n) (r, p + 1) := by
  have w1 : wrap64 (p + 1) = p + 1 := w64 (by omega) (by omega)
  have w2 : wrap64 (p + 1 - 1) = p := by
    rw [w64 (by omega) (by omega)]
    omega
  by_cases e0 : (b.length : Int) = 0
  · refine ⟨0, by omega, by omega, ?_⟩
    simp only [spec_l13Rd_pick.f]
    refine ev_neg (by omega) ?_
    rw [w1]
    refine Ev.step (fun k => by rw [spec_l13Rd_pick.j0]) ?_
    refine ev_pos (by simp [e0]) ?_
    exact Ev.now _
  · have f0 : ((b.length : Int) == 0) = false := beq_eq_false_iff_ne.mpr e0
    by_cases e1 : p < (b.length : Int)
    · obtain ⟨r0, r1⟩ := rd_bytes hb p
      have w3 : wrap64 (rd b p) = rd b p := w64 (by omega) (by omega)
      refine ⟨rd b p % n, Int.emod_nonneg _ (by omega), Int.emod_lt_of_pos _ (by omega), ?_⟩
      simp only [spec_l13Rd_pick.f]
      refine ev_neg (by omega) ?_
      rw [w1, f0]
      refine Ev.step (fun k => by rw [spec_l13Rd_pick.j0]) ?_
      simp only [w2, w3]
      refine ev_neg (by simp) (ev_pos e1 (ev_pos hp (ev_neg (by omega) ?_)))
      rw [Int.tmod_eq_emod_of_nonneg r0]
      exact Ev.now _
    · have hL : (0 : Int) < (b.length : Int) := by omega
      have t1 : Int.tmod p (b.length : Int) = p % (b.length : Int) := Int.tmod_eq_emod_of_nonneg hp
      have w4 : wrap64 (p * 7) = p * 7 := w64 (by omega) (by omega)
      have w5 : wrap64 (p * 7 + 3) = p * 7 + 3 := w64 (by omega) (by omega)
      have t2 : Int.tmod (p * 7 + 3) (b.length : Int) = (p * 7 + 3) % (b.length : Int) := Int.tmod_eq_emod_of_nonneg (by omega)
      have a0 := Int.emod_nonneg p (b := (b.length : Int)) (by omega)
      have a1 := Int.emod_lt_of_pos p hL
      have c0 := Int.emod_nonneg (p * 7 + 3) (b := (b.length : Int)) (by omega)
      have c1 := Int.emod_lt_of_pos (p * 7 + 3) hL
      obtain ⟨x0, x1⟩ := rd_bytes hb (p % (b.length : Int))
      obtain ⟨y0, y1⟩ := rd_bytes hb ((p * 7 + 3) % (b.length : Int))
      have d1 : Int.tdiv p (b.length : Int) = p / (b.length : Int) := Int.tdiv_eq_ediv_of_nonneg hp
      have d2 : 0 ≤ p / (b.length : Int) := Int.ediv_nonneg hp (by omega)
      have d3 : p / (b.length : Int) ≤ p := Int.ediv_le_self _ hp
      have ew1 : wrap64 (rd b (p % (b.length : Int))) = rd b (p % (b.length : Int)) := w64 (by omega) (by omega)
      have ew2 : wrap64 (rd b ((p * 7 + 3) % (b.length : Int))) = rd b ((p * 7 + 3) % (b.length : Int)) := w64 (by omega) (by omega)
      have ew3 : wrap64 (p / (b.length : Int)) = p / (b.length : Int) := w64 (by omega) (by omega)
      have hz : ∀ x y q : Int, 0 ≤ x → x < 256 → 0 ≤ y → y < 256 → 0 ≤ q → q ≤ p →
          wrap64 ((wrap64 ((wrap64 ((wrap64 (x * 131)) + (wrap64 (y * 1117)))) + (wrap64 (p * 29)))) + (wrap64 (q * 53))) = x * 131 + y * 1117 + p * 29 + q * 53 := by
        intro x y q hx hx1 hy hy1 hq hq1
        rw [w64 (n := x * 131) (by omega) (by omega), w64 (n := y * 1117) (by omega) (by omega), w64 (n := p * 29) (by omega) (by omega), w64 (n := q * 53) (by omega) (by omega),
          w64 (n := x * 131 + y * 1117) (by omega) (by omega), w64 (n := x * 131 + y * 1117 + p * 29) (by omega) (by omega), w64 (by omega) (by omega)]
      have hz' := hz _ _ _ x0 x1 y0 y1 d2 d3
      obtain ⟨S, hS⟩ : ∃ S, S = rd b (p % (b.length : Int)) * 131 + rd b ((p * 7 + 3) % (b.length : Int)) * 1117 + p * 29 + p / (b.length : Int) * 53 := ⟨_, rfl⟩
      rw [← hS] at hz'
      have s0 : 0 ≤ S ∧ S < 1000000000 := by omega
      have s1 : Int.tdiv S 64 = S / 64 := Int.tdiv_eq_ediv_of_nonneg s0.1
      have s2 : wrap64 (S / 64) = S / 64 := w64 (by omega) (by omega)
      have hx := xor_nonneg (x := S) (y := S / 64) (by omega) (by omega) (by omega) (by omega)
      refine ⟨bits .xor .i64 S (S / 64) % n, Int.emod_nonneg _ (by omega), Int.emod_lt_of_pos _ (by omega), ?_⟩
      simp only [spec_l13Rd_pick.f]
      refine ev_neg (by omega) ?_
      rw [w1, f0]
      refine Ev.step (fun k => by rw [spec_l13Rd_pick.j0]) ?_
      simp only [w2, t1, w4, w5, t2, d1, ew1, ew2, ew3, hz', s1, s2]
      refine ev_neg (by simp) (ev_neg e1 (ev_neg e0 (ev_pos a0 (ev_pos a1 (ev_pos c0 (ev_pos c1 (ev_neg (by omega) ?_)))))))
      rw [Int.tmod_eq_emod_of_nonneg hx]
      exact Ev.now _

theorem num_ev (b : List Int) (p : Int) (l : List Int) (hb : Bytes b) (hl : b.length ≤ 2000) (hp : 0 ≤ p) (hp1 : p ≤ 1000000) (hn : 1 ≤ l.length) :
    ∃ r, 0 ≤ r ∧ r < (l.length : Int) ∧ Ev (fun k => spec_l13Rd_num.f k b p l) (rd l r, p + 1) := by
  obtain ⟨r, h0, h1, h⟩ := pick_ev b p (l.length : Int) hb hl hp hp1 (by omega)
  refine ⟨r, h0, h1, ?_⟩
  simp only [spec_l13Rd_num.f]
  refine Ev.bind h ?_
  exact ev_pos h0 (ev_pos h1 (Ev.now _))

theorem of_ev (b : List Int) (p : Int) (l : List ByteArray) (hb : Bytes b) (hl : b.length ≤ 2000) (hp : 0 ≤ p) (hp1 : p ≤ 1000000) (hn : 1 ≤ l.length) :
    ∃ x ∈ l, Ev (fun k => spec_l13Rd_of.f k b p l) (x, p + 1) := by
  obtain ⟨r, h0, h1, h⟩ := pick_ev b p (l.length : Int) hb hl hp hp1 (by omega)
  have hr : r.toNat < l.length := by omega
  refine ⟨l[r.toNat], List.getElem_mem hr, ?_⟩
  have e : rdOf ByteArray.empty l r = l[r.toNat] := by
    unfold rdOf
    rw [List.getD_eq_getElem?_getD, List.getElem?_eq_getElem hr]
    rfl
  simp only [spec_l13Rd_of.f]
  refine Ev.bind h ?_
  refine ev_pos h0 (ev_pos h1 ?_)
  rw [e]
  exact Ev.now _

/-- Long strings grow past the limit. -/
theorem l5long_ex (b : List Int) (p : Int) : ∀ (d : Nat) (s : ByteArray), s.size ≤ 100000 → 301 - s.size ≤ d → ∃ t, t.size ≤ 100000 ∧ Ev (fun k => spec_l5Draw.l1 k s b p) (t, p) := by
  intro d
  induction d with
  | zero =>
    intro s hs hd
    refine ⟨s, hs, ?_⟩
    refine Ev.step (fun k => by rw [spec_l5Draw.l1]) ?_
    exact ev_neg (by omega) (Ev.now _)
  | succ d ih =>
    intro s hs hd
    by_cases c : (s.size : Int) ≤ 300
    · have hz : (s ++ (⟨#[48, 49, 50, 51, 52, 53, 54, 55, 56, 57]⟩ : ByteArray)).size = s.size + 10 := by rw [ByteArray.size_append]; rfl
      obtain ⟨t, ht, h⟩ := ih (s ++ (⟨#[48, 49, 50, 51, 52, 53, 54, 55, 56, 57]⟩ : ByteArray)) (by omega) (by omega)
      refine ⟨t, ht, ?_⟩
      refine Ev.step (fun k => by rw [spec_l5Draw.l1]) ?_
      exact ev_pos c (ev_pos (by omega) h)
    · refine ⟨s, hs, ?_⟩
      refine Ev.step (fun k => by rw [spec_l5Draw.l1]) ?_
      exact ev_neg c (Ev.now _)

theorem l5loop_ex (b : List Int) (hb : Bytes b) (hl : b.length ≤ 2000) : ∀ (n : Nat) (s : ByteArray) (p : Int), n ≤ 8 → 0 ≤ p → p + n ≤ 1000 → s.size + 50 * n ≤ 1000 →
    ∃ t q, t.size ≤ 100000 ∧ 0 ≤ q ∧ q ≤ 2000 ∧ Ev (fun k => spec_l5Draw.l0 k s (n : Int) b p) (t, q) := by
  intro n
  induction n with
  | zero =>
    intro s p h8 hp hp1 hs
    obtain ⟨r, h0, h1, h⟩ := pick_ev b p 40 hb hl hp (by omega) (by omega)
    by_cases c : r = 0
    · obtain ⟨t, ht, h2⟩ := l5long_ex b (p + 1) 301 s (by omega) (by omega)
      refine ⟨t, p + 1, ht, by omega, by omega, ?_⟩
      refine Ev.step (fun k => by rw [spec_l5Draw.l0]) ?_
      refine ev_neg (by omega) ?_
      refine Ev.bind h ?_
      exact ev_pos c h2
    · refine ⟨s, p + 1, by omega, by omega, by omega, ?_⟩
      refine Ev.step (fun k => by rw [spec_l5Draw.l0]) ?_
      refine ev_neg (by omega) ?_
      refine Ev.bind h ?_
      exact ev_neg c (Ev.now _)
  | succ n ih =>
    intro s p h8 hp hp1 hs
    obtain ⟨x, hx, h⟩ := of_ev b p ([(⟨#[104, 101, 108, 108, 111]⟩ : ByteArray), (⟨#[32]⟩ : ByteArray), (⟨#[61]⟩ : ByteArray), (⟨#[10]⟩ : ByteArray), (⟨#[255, 0]⟩ : ByteArray), (⟨#[99, 97, 102, 195, 169]⟩ : ByteArray), (⟨#[97, 32, 108, 111, 110, 103, 101, 114, 32, 114, 111, 119, 32, 111, 102, 32, 119, 111, 114, 100, 115, 32, 116, 104, 97, 116, 32, 105, 115, 32, 98, 114, 111, 107, 101, 110, 32, 104, 101, 114, 101]⟩ : ByteArray), (⟨#[120]⟩ : ByteArray), (⟨#[46]⟩ : ByteArray), (⟨#[9]⟩ : ByteArray)] : List ByteArray) hb hl hp (by omega) (by simp)
    have hxs : x.size ≤ 50 := by
      simp only [List.mem_cons, List.not_mem_nil, or_false] at hx
      rcases hx with rfl | rfl | rfl | rfl | rfl | rfl | rfl | rfl | rfl | rfl <;> decide
    obtain ⟨t, q, ht, hq0, hq1, h2⟩ := ih (s ++ x) (p + 1) (by omega) (by omega) (by omega) (by rw [ByteArray.size_append]; omega)
    refine ⟨t, q, ht, hq0, hq1, ?_⟩
    have w : wrap64 (((n + 1 : Nat) : Int) - 1) = (n : Int) := by rw [w64 (by omega) (by omega)]; omega
    refine Ev.step (fun k => by rw [spec_l5Draw.l0]) ?_
    refine ev_pos (by omega) ?_
    refine Ev.bind h ?_
    refine ev_pos (show s.size + x.size ≤ 9223372036854775807 by omega) ?_
    rw [w]
    exact h2

theorem l5draw_ex (b : List Int) (p : Int) (hb : Bytes b) (hl : b.length ≤ 2000) (hp : 0 ≤ p) (hp1 : p ≤ 100) :
    ∃ t q, t.size ≤ 100000 ∧ 0 ≤ q ∧ q ≤ 2000 ∧ Ev (fun k => spec_l5Draw.f k b p) (t, q) := by
  obtain ⟨r, h0, h1, h⟩ := num_ev b p [3, 2, 5, 1, 0, 8] hb hl hp (by omega) (by simp)
  simp only [List.length_cons, List.length_nil] at h1
  have hr : ∃ n : Nat, n ≤ 8 ∧ rd [3, 2, 5, 1, 0, 8] r = (n : Int) := by
    have : r = 0 ∨ r = 1 ∨ r = 2 ∨ r = 3 ∨ r = 4 ∨ r = 5 := by omega
    rcases this with rfl | rfl | rfl | rfl | rfl | rfl
    · exact ⟨3, by omega, rfl⟩
    · exact ⟨2, by omega, rfl⟩
    · exact ⟨5, by omega, rfl⟩
    · exact ⟨1, by omega, rfl⟩
    · exact ⟨0, by omega, rfl⟩
    · exact ⟨8, by omega, rfl⟩
  obtain ⟨n, hn, e⟩ := hr
  rw [e] at h
  obtain ⟨t, q, ht, hq0, hq1, h2⟩ := l5loop_ex b hb hl n (⟨#[]⟩ : ByteArray) (p + 1) hn (by omega) (by omega) (by show 0 + 50 * n ≤ 1000; omega)
  refine ⟨t, q, ht, hq0, hq1, ?_⟩
  simp only [spec_l5Draw.f]
  refine Ev.bind h ?_
  exact h2

theorem drawquot_ex (l : List Int) (h : Bytes l) : ∃ t, Ev (fun k => spec_DrawEncodeQuoted.f k l) t := by
  obtain ⟨b, hb, h1, h2⟩ := open_ex l h
  obtain ⟨t, q, _, _, _, h3⟩ := l5draw_ex b 0 h1 h2 (by omega) (by omega)
  refine ⟨t, ?_⟩
  simp only [spec_DrawEncodeQuoted.f, hb, Option.bind_some]
  refine Ev.bind h3 ?_
  exact Ev.now _

theorem spec_hex (c : UInt8) : spec_l5Hex.f (c.toNat : Int) = some (S (hex3 c)) := by
  have hc := c.toNat_lt
  unfold spec_l5Hex.f
  have a : bits .and .u8 (c.toNat : Int) 15 = ((c.toNat % 16 : Nat) : Int) := by
    rw [u8_and15 _ (by omega) (by omega)]
    omega
  have b : ((c.toNat : Int) / 16) = ((c.toNat / 16 : Nat) : Int) := by omega
  have e1 : ((((c.toNat / 16 : Nat) : Int) + 1) % 256) = (((c.toNat / 16) + 1 : Nat) : Int) := by omega
  have e2 : ((((c.toNat % 16 : Nat) : Int) + 1) % 256) = (((c.toNat % 16) + 1 : Nat) : Int) := by omega
  have x1 := extract_digit (c.toNat / 16) (by omega)
  have x2 := extract_digit (c.toNat % 16) (by omega)
  simp only [a, b, e1, e2, Int.toNat_natCast, x1, x2, mk_S, append_S, size_S]
  rw [if_pos (by omega), if_pos (by omega), if_pos (by omega), if_pos (by simp), if_pos (by omega), if_pos (by omega), if_pos (by omega), if_pos (by simp)]
  rfl

theorem spec_byte (c : UInt8) (last : Bool) : spec_l5Byte.f (c.toNat : Int) last = some (S (quoteB c last)) := by
  have hc := c.toNat_lt
  have hself : strOfNums ([(c.toNat : Int)] : List Int) = S [c] := by
    rw [strOfNums_S]
    simp
  unfold spec_l5Byte.f quoteB plainQ
  simp only [spec_hex, hself, Option.bind_some]
  by_cases h1 : (c.toNat : Int) ≥ 33
  · rw [if_pos h1]
    by_cases h2 : (c.toNat : Int) ≤ 126
    · rw [if_pos h2]
      by_cases h3 : (c.toNat : Int) = 61
      · rw [if_pos h3, if_neg (by omega)]
        have h3' : c.toNat = 61 := by omega
        simp [h3']
      · rw [if_neg h3]
        have : 33 ≤ c.toNat ∧ c.toNat ≤ 126 ∧ c.toNat ≠ 61 := by omega
        simp [this]
    · rw [if_neg h2, if_neg (by omega)]
      have a : ¬ (33 ≤ c.toNat ∧ c.toNat ≤ 126 ∧ c.toNat ≠ 61) := by omega
      have b : ¬ c.toNat = 32 := by omega
      simp [a, b]
  · rw [if_neg h1]
    have a : ¬ (33 ≤ c.toNat ∧ c.toNat ≤ 126 ∧ c.toNat ≠ 61) := by omega
    by_cases h3 : (c.toNat : Int) = 32
    · rw [if_pos h3]
      have h3' : c.toNat = 32 := by omega
      cases last <;> simp [h3']
    · rw [if_neg h3]
      have b : ¬ c.toNat = 32 := by omega
      simp [a, b]

theorem spec_quot_loop (b : List UInt8) (hb : b.length ≤ 300) : ∀ (e i : Nat) (outs : List (List UInt8)) (line : List UInt8), i + e = b.length → outs.length ≤ i → line.length ≤ 42 →
    Ev (fun k => spec_EncodeQuoted.l0 k (S b) (SL outs) (S line) (i : Int)) (SL (outs ++ encQ (b.drop i) line), true) := by
  intro e
  induction e with
  | zero =>
    intro i outs line hi ho hl
    refine Ev.step (fun k => by rw [spec_EncodeQuoted.l0]) ?_
    simp only [size_S, SL_length]
    refine ev_neg (by omega) (ev_pos (by omega) ?_)
    rw [List.drop_of_length_le (by omega), SL_one, SL_append]
    exact Ev.now _
  | succ e ih =>
    intro i outs line hi ho hl
    have hlt : i < b.length := by omega
    have w : wrap64 ((i : Int) + 1) = ((i + 1 : Nat) : Int) := by rw [w64 (by omega) (by omega)]; omega
    refine Ev.step (fun k => by rw [spec_EncodeQuoted.l0]) ?_
    simp only [size_S, SL_length, w, bt_S, Int.toNat_natCast, mk_S, append_S, SL_one, SL_append]
    have hg : b.getD i 0 = b[i] := by rw [List.getD_eq_getElem?_getD, List.getElem?_eq_getElem hlt]; rfl
    rw [drop_cons hlt]
    simp only [hg]
    refine ev_pos (by omega) (ev_pos (by omega) ?_)
    by_cases c10 : ((b[i]).toNat : Int) = 10
    · refine ev_pos c10 (ev_pos (by omega) ?_)
      have := ih (i + 1) (outs ++ [line]) [] (by omega) (by simp; omega) (by simp)
      have e1 : encQ (b[i] :: b.drop (i + 1)) line = line :: encQ (b.drop (i + 1)) [] := by
        rw [encQ, if_pos (by omega)]
      rw [e1]
      simpa using this
    refine ev_neg c10 ?_
    -- what stands for the byte, whether it is the last of its line or not
    have step : ∀ last, last = lastQ (b.drop (i + 1)) →
        Ev (fun k => if wrap64 ((line.length : Int) + ((quoteB b[i] last).length : Int)) > 39 then
            (if line.length + 1 ≤ 9223372036854775807 then (if outs.length < 8796093022208 then (if 0 + (quoteB b[i] last).length ≤ 9223372036854775807 then
              spec_EncodeQuoted.l0 k (S b) (SL (outs ++ [line ++ [61]])) (S ([] ++ quoteB b[i] last)) ((i + 1 : Nat) : Int) else none) else none) else none)
            else (if line.length + (quoteB b[i] last).length ≤ 9223372036854775807 then spec_EncodeQuoted.l0 k (S b) (SL outs) (S (line ++ quoteB b[i] last)) ((i + 1 : Nat) : Int) else none))
          (SL (outs ++ encQ (b[i] :: b.drop (i + 1)) line), true) := by
      intro last hlast
      obtain ⟨q1, q2⟩ := quoteB_length b[i] last
      have w2 : wrap64 ((line.length : Int) + ((quoteB b[i] last).length : Int)) = ((line.length + (quoteB b[i] last).length : Nat) : Int) := by rw [w64 (by omega) (by omega)]; omega
      rw [w2]
      by_cases c39 : line.length + (quoteB b[i] last).length > 39
      · refine ev_pos (by omega) (ev_pos (by omega) (ev_pos (by omega) (ev_pos (by omega) ?_)))
        have := ih (i + 1) (outs ++ [line ++ [61]]) (quoteB b[i] last) (by omega) (by simp; omega) (by omega)
        have e1 : encQ (b[i] :: b.drop (i + 1)) line = (line ++ [61]) :: encQ (b.drop (i + 1)) (quoteB b[i] last) := by
          rw [encQ, if_neg (by omega), ← hlast, if_pos c39]
        rw [e1]
        simpa using this
      · refine ev_neg (by omega) (ev_pos (by omega) ?_)
        have := ih (i + 1) outs (line ++ quoteB b[i] last) (by omega) (by omega) (by simp; omega)
        have e1 : encQ (b[i] :: b.drop (i + 1)) line = encQ (b.drop (i + 1)) (line ++ quoteB b[i] last) := by
          rw [encQ, if_neg (by omega), ← hlast, if_neg c39]
        rw [e1]
        exact this
    by_cases hend : ((i + 1 : Nat) : Int) = (b.length : Int)
    · refine ev_pos hend ?_
      refine ev_bind0 (spec_byte b[i] true) ?_
      simp only [size_S, append_S]
      exact step true (by rw [List.drop_of_length_le (by omega)]; rfl)
    · refine ev_neg hend (ev_pos (by omega) (ev_pos (by omega) ?_))
      have hlt2 : i + 1 < b.length := by omega
      have hg2 : b.getD (i + 1) 0 = b[i + 1] := by rw [List.getD_eq_getElem?_getD, List.getElem?_eq_getElem hlt2]; rfl
      rw [hg2]
      refine ev_bind0 (spec_byte b[i] _) ?_
      simp only [size_S, append_S]
      refine step _ ?_
      rw [drop_cons hlt2]
      show _ = decide _
      rw [Bool.eq_iff_iff]
      simp
      omega

theorem spec_quot (b : List UInt8) : Ev (fun k => spec_EncodeQuoted.f k (S b)) (quotR b) := by
  simp only [spec_EncodeQuoted.f, size_S]
  unfold quotR
  by_cases h : b.length > 300
  · rw [if_pos h]
    exact ev_pos (by omega) (Ev.now _)
  · rw [if_neg h]
    refine ev_neg (by omega) ?_
    have := spec_quot_loop b (by omega) b.length 0 [] [] (by omega) (by simp) (by simp)
    rw [List.drop_zero, List.nil_append] at this
    exact this

theorem impl_hex (c : UInt8) : impl_hexByte.f (c.toNat : Int) = some (S (hex3 c)) := by
  have hc := c.toNat_lt
  unfold impl_hexByte.f
  have a : bits .and .u8 (c.toNat : Int) 15 = ((c.toNat % 16 : Nat) : Int) := by
    rw [u8_and15 _ (by omega) (by omega)]
    omega
  have b : ((c.toNat : Int) / 16) = ((c.toNat / 16 : Nat) : Int) := by omega
  have e1 : ((((c.toNat / 16 : Nat) : Int) + 1) % 256) = (((c.toNat / 16) + 1 : Nat) : Int) := by omega
  have e2 : ((((c.toNat % 16 : Nat) : Int) + 1) % 256) = (((c.toNat % 16) + 1 : Nat) : Int) := by omega
  have x1 := extract_digit (c.toNat / 16) (by omega)
  have x2 := extract_digit (c.toNat % 16) (by omega)
  simp only [a, b, e1, e2, Int.toNat_natCast, x1, x2, mk_S, append_S, size_S]
  rw [if_pos (by omega), if_pos (by omega), if_pos (by omega), if_pos (by simp), if_pos (by omega), if_pos (by omega), if_pos (by omega), if_pos (by simp)]
  rfl

theorem impl_quot_loop (b : List UInt8) (hb : b.length ≤ 300) : ∀ (e i : Nat) (outs : List (List UInt8)) (line : List UInt8), i + e = b.length → outs.length ≤ i → line.length ≤ 42 →
    Ev (fun k => impl_EncodeQuoted.l0 k (S b) (SL outs) (S line) (b.length : Int) (i : Int)) (SL (outs ++ encQ (b.drop i) line), true) := by
  intro e
  induction e with
  | zero =>
    intro i outs line hi ho hl
    refine Ev.step (fun k => by rw [impl_EncodeQuoted.l0]) ?_
    simp only [size_S, SL_length]
    refine ev_neg (by omega) (ev_pos (by omega) ?_)
    rw [List.drop_of_length_le (by omega), SL_one, SL_append]
    exact Ev.now _
  | succ e ih =>
    intro i outs line hi ho hl
    have hlt : i < b.length := by omega
    have w : wrap64 ((i : Int) + 1) = ((i + 1 : Nat) : Int) := by rw [w64 (by omega) (by omega)]; omega
    have hg : b.getD i 0 = b[i] := by rw [List.getD_eq_getElem?_getD, List.getElem?_eq_getElem hlt]; rfl
    have hone : (S b).extract i (i + 1) = S [b[i]] := by
      rw [extract_S, Nat.add_sub_cancel_left, take_one hlt]
    -- the byte's own text, and what follows
    have step : ∀ (last : Bool) (own : List UInt8), last = lastQ (b.drop (i + 1)) → own = quoteB b[i] last →
        Ev (fun k => if wrap64 ((line.length : Int) + (own.length : Int)) > 39 then
            (if line.length + 1 ≤ 9223372036854775807 then (if outs.length < 8796093022208 then (if 0 + own.length ≤ 9223372036854775807 then
              impl_EncodeQuoted.l0 k (S b) (SL (outs ++ [line ++ [61]])) (S ([] ++ own)) (b.length : Int) ((i + 1 : Nat) : Int) else none) else none) else none)
            else (if line.length + own.length ≤ 9223372036854775807 then impl_EncodeQuoted.l0 k (S b) (SL outs) (S (line ++ own)) (b.length : Int) ((i + 1 : Nat) : Int) else none))
          (SL (outs ++ encQ (b[i] :: b.drop (i + 1)) line), true) ∨ b[i].toNat = 10 := by
      intro last own hlast hown
      by_cases c10 : b[i].toNat = 10
      · exact .inr c10
      left
      obtain ⟨q1, q2⟩ := quoteB_length b[i] last
      rw [← hown] at q1 q2
      have w2 : wrap64 ((line.length : Int) + (own.length : Int)) = ((line.length + own.length : Nat) : Int) := by rw [w64 (by omega) (by omega)]; omega
      rw [w2]
      by_cases c39 : line.length + own.length > 39
      · refine ev_pos (by omega) (ev_pos (by omega) (ev_pos (by omega) (ev_pos (by omega) ?_)))
        have := ih (i + 1) (outs ++ [line ++ [61]]) own (by omega) (by simp; omega) (by omega)
        have e1 : encQ (b[i] :: b.drop (i + 1)) line = (line ++ [61]) :: encQ (b.drop (i + 1)) own := by
          rw [encQ, if_neg (by omega), ← hlast, ← hown, if_pos c39]
        rw [e1]
        simpa using this
      · refine ev_neg (by omega) (ev_pos (by omega) ?_)
        have := ih (i + 1) outs (line ++ own) (by omega) (by omega) (by simp; omega)
        have e1 : encQ (b[i] :: b.drop (i + 1)) line = encQ (b.drop (i + 1)) (line ++ own) := by
          rw [encQ, if_neg (by omega), ← hlast, ← hown, if_neg c39]
        rw [e1]
        exact this
    refine Ev.step (fun k => by rw [impl_EncodeQuoted.l0]) ?_
    simp only [size_S, SL_length, w, bt_S, Int.toNat_natCast, mk_S, SL_one, SL_append, hg]
    refine ev_pos (by omega) (ev_pos (by omega) (ev_pos (by omega) ?_))
    rw [drop_cons hlt]
    by_cases c10 : ((b[i]).toNat : Int) = 10
    · refine ev_pos c10 (ev_pos (by omega) ?_)
      have := ih (i + 1) (outs ++ [line]) [] (by omega) (by simp; omega) (by simp)
      have e1 : encQ (b[i] :: b.drop (i + 1)) line = line :: encQ (b.drop (i + 1)) [] := by
        rw [encQ, if_pos (by omega)]
      rw [e1]
      simpa using this
    refine ev_neg c10 ?_
    have hj2 : ∀ (last c : Bool), last = lastQ (b.drop (i + 1)) → c = plainQ b[i] last →
        Ev (fun k => impl_EncodeQuoted.j2 k (S b) (SL outs) (S line) (i : Int) (S (hex3 b[i])) (b.length : Int) (i : Int) c) (SL (outs ++ encQ (b[i] :: b.drop (i + 1)) line), true) := by
      intro last c hlast hc
      refine Ev.step (fun k => by rw [impl_EncodeQuoted.j2]) ?_
      simp only [size_S, SL_length, w, Int.toNat_natCast, mk_S, SL_one, SL_append, append_S, hone]
      have hq : (if c = true then [b[i]] else hex3 b[i]) = quoteB b[i] last := by unfold quoteB; rw [hc]
      cases c with
      | true =>
        refine ev_pos rfl (ev_pos (by omega) (ev_pos (by omega) (ev_pos (by omega) ?_)))
        exact (step last [b[i]] hlast hq).resolve_right (by omega)
      | false =>
        refine ev_neg (by simp) ?_
        exact (step last (hex3 b[i]) hlast hq).resolve_right (by omega)
    have hj1 : ∀ (last : Bool), last = lastQ (b.drop (i + 1)) →
        Ev (fun k => impl_EncodeQuoted.j1 k (S b) (SL outs) (S line) (i : Int) (S (hex3 b[i])) last (b.length : Int) (i : Int)) (SL (outs ++ encQ (b[i] :: b.drop (i + 1)) line), true) := by
      intro last hlast
      refine Ev.step (fun k => by rw [impl_EncodeQuoted.j1]) ?_
      simp only [size_S, bt_S, Int.toNat_natCast, hg]
      refine ev_pos (by omega) (ev_pos (by omega) ?_)
      by_cases h1 : (b[i].toNat : Int) ≥ 33
      · refine ev_pos h1 ?_
        by_cases h2 : (b[i].toNat : Int) ≤ 126
        · refine ev_pos h2 ?_
          by_cases h3 : (b[i].toNat : Int) = 61
          · refine ev_pos h3 (ev_neg (by omega) (hj2 last false hlast ?_))
            have : b[i].toNat = 61 := by omega
            unfold plainQ
            simp [this]
          · refine ev_neg h3 (hj2 last true hlast ?_)
            have : 33 ≤ b[i].toNat ∧ b[i].toNat ≤ 126 ∧ b[i].toNat ≠ 61 := by omega
            unfold plainQ
            simp [this]
        · refine ev_neg h2 (ev_neg (by omega) (hj2 last false hlast ?_))
          have a : ¬ (33 ≤ b[i].toNat ∧ b[i].toNat ≤ 126 ∧ b[i].toNat ≠ 61) := by omega
          have c : ¬ b[i].toNat = 32 := by omega
          unfold plainQ
          simp [a, c]
      · refine ev_neg h1 ?_
        have a : ¬ (33 ≤ b[i].toNat ∧ b[i].toNat ≤ 126 ∧ b[i].toNat ≠ 61) := by omega
        by_cases h3 : (b[i].toNat : Int) = 32
        · refine ev_pos h3 (hj2 last (!last) hlast ?_)
          have : b[i].toNat = 32 := by omega
          unfold plainQ
          cases last <;> simp [this]
        · refine ev_neg h3 (hj2 last false hlast ?_)
          have c : ¬ b[i].toNat = 32 := by omega
          unfold plainQ
          simp [a, c]
    refine ev_bind0 (impl_hex b[i]) ?_
    by_cases hend : ((i + 1 : Nat) : Int) = (b.length : Int)
    · refine ev_pos hend ?_
      exact hj1 true (by rw [List.drop_of_length_le (by omega)]; rfl)
    · refine ev_neg hend (ev_pos (by omega) (ev_pos (by omega) ?_))
      have hlt2 : i + 1 < b.length := by omega
      have hg2 : b.getD (i + 1) 0 = b[i + 1] := by rw [List.getD_eq_getElem?_getD, List.getElem?_eq_getElem hlt2]; rfl
      rw [hg2]
      refine hj1 _ ?_
      rw [drop_cons hlt2]
      show _ = decide _
      rw [Bool.eq_iff_iff]
      simp
      omega

theorem impl_quot (b : List UInt8) : Ev (fun k => impl_EncodeQuoted.f k (S b)) (quotR b) := by
  simp only [impl_EncodeQuoted.f, size_S]
  unfold quotR
  by_cases h : b.length > 300
  · rw [if_pos h]
    exact ev_pos (by omega) (Ev.now _)
  · rw [if_neg h]
    refine ev_neg (by omega) ?_
    have := impl_quot_loop b (by omega) b.length 0 [] [] (by omega) (by simp) (by simp)
    rw [List.drop_zero, List.nil_append] at this
    exact this

theorem texts_self (l : List ByteArray) (hl : l.length ≤ 1000000) : Ev (fun k => laws_mwTexts.f k l l) true := by
  simp only [laws_mwTexts.f]
  refine ev_pos trivial ?_
  have : ∀ (e i : Nat), i + e = l.length → Ev (fun k => laws_mwTexts.l0 k l l (i : Int)) true := by
    intro e
    induction e with
    | zero =>
      intro i hi
      refine Ev.step (fun k => by rw [laws_mwTexts.l0]) ?_
      exact ev_neg (by omega) (Ev.now _)
    | succ e ih =>
      intro i hi
      have w : wrap64 ((i : Int) + 1) = ((i + 1 : Nat) : Int) := by rw [w64 (by omega) (by omega)]; omega
      refine Ev.step (fun k => by rw [laws_mwTexts.l0]) ?_
      refine ev_pos (by omega) (ev_pos (by omega) (ev_pos (by omega) (ev_pos rfl ?_)))
      rw [w]
      exact ih (i + 1) (by omega)
  exact this l.length 0 (by omega)

theorem plain_loop (b : List UInt8) (hl : b.length ≤ 39) : ∀ (e i : Nat), i + e = b.length → (∀ c ∈ b.take i, 33 ≤ c.toNat ∧ c.toNat ≤ 126 ∧ c.toNat ≠ 61) →
    Ev (fun k => laws_FnQuotedPlain.l0 k (S b) (SL (encQ b [])) (i : Int)) true := by
  intro e
  induction e with
  | zero =>
    intro i hi h
    refine Ev.step (fun k => by rw [laws_FnQuotedPlain.l0]) ?_
    rw [List.take_of_length_le (by omega)] at h
    rw [encQ_plain b [] h (by simp; omega), List.nil_append, size_S]
    refine ev_neg (by omega) (ev_pos rfl (ev_pos (by rw [SL_length]; simp) (ev_is ?_)))
    have : rdOf ByteArray.empty (SL [b]) 0 = S b := rfl
    rw [this]
    simp
  | succ e ih =>
    intro i hi h
    have hlt : i < b.length := by omega
    have hg : b.getD i 0 = b[i] := by rw [List.getD_eq_getElem?_getD, List.getElem?_eq_getElem hlt]; rfl
    have w : wrap64 ((i : Int) + 1) = ((i + 1 : Nat) : Int) := by rw [w64 (by omega) (by omega)]; omega
    refine Ev.step (fun k => by rw [laws_FnQuotedPlain.l0]) ?_
    simp only [size_S, bt_S, Int.toNat_natCast, hg, w]
    refine ev_pos (by omega) (ev_pos (by omega) ?_)
    by_cases c1 : (b[i].toNat : Int) < 33
    · exact ev_pos c1 (Ev.now _)
    by_cases c2 : (b[i].toNat : Int) > 126
    · exact ev_neg c1 (ev_pos c2 (Ev.now _))
    by_cases c3 : (b[i].toNat : Int) = 61
    · exact ev_neg c1 (ev_neg c2 (ev_pos c3 (Ev.now _)))
    refine ev_neg c1 (ev_neg c2 (ev_neg c3 (ih (i + 1) (by omega) ?_)))
    intro c hc
    rw [List.take_succ_eq_append_getElem hlt] at hc
    rcases List.mem_append.1 hc with hc | hc
    · exact h c hc
    · simp only [List.mem_singleton] at hc
      rw [hc]
      omega

theorem FnQuotedPlain : laws_FnQuotedPlain.Pure := by
  intro l0 _ _ hw
  refine Ev.rounds ?_
  simp only [laws_FnQuotedPlain.f]
  by_cases hl : (l0.length : Int) > 1048576
  · exact ev_pos hl (Ev.now _)
  refine ev_neg hl ?_
  obtain ⟨t, hd⟩ := drawquot_ex l0 (bytes_wf hw)
  obtain ⟨b, rfl⟩ := ex_S t
  have hlen := quotR_length b
  refine Ev.bind hd ?_
  refine Ev.bind (impl_quot b) ?_
  refine Ev.bind (spec_quot b) ?_
  refine Ev.bind (texts_self (quotR b).1 (by omega)) ?_
  refine ev_pos rfl (ev_neg (by simp) ?_)
  have hT : Ev (fun k => laws_FnQuotedPlain.j0 k (S b) (quotR b).1 (quotR b).2 (quotR b).1 (quotR b).2 true) true := by
    refine Ev.step (fun k => by rw [laws_FnQuotedPlain.j0]) ?_
    refine ev_pos rfl ?_
    refine Ev.bind (texts_self (quotR b).1 (by omega)) ?_
    exact ev_pos rfl (ev_is (by simp))
  by_cases ok : b.length > 300
  · have e : (quotR b).2 = false := by unfold quotR; rw [if_pos ok]
    refine ev_neg (by rw [e]; simp) ?_
    exact hT
  · have e : (quotR b).2 = true := by unfold quotR; rw [if_neg ok]
    refine ev_pos e ?_
    rw [size_S]
    by_cases big : (b.length : Int) > 39
    · rw [decide_eq_true big]
      exact hT
    · rw [decide_eq_false big]
      refine Ev.step (fun k => by rw [laws_FnQuotedPlain.j0]) ?_
      refine ev_neg (by simp) ?_
      have e1 : (quotR b).1 = SL (encQ b []) := by unfold quotR; rw [if_neg ok]
      rw [e1]
      exact plain_loop b (by omega) b.length 0 (by omega) (by simp)

end Go.Proofs.Ytenplenjpliciaa.PLFnQuotedPlain
namespace Go.Proofs.Ytenplenjpliciaa.Pure
open Go.Proofs.Ytenplenjpliciaa.PFnQuotedPlain
theorem FnQuotedPlain : laws_FnQuotedPlain.Pure := PLFnQuotedPlain.FnQuotedPlain
end Go.Proofs.Ytenplenjpliciaa.Pure
