/- The law FnQuotedBytes holds of the printed functions: quoted lines are bytes. No conditions. -/
import Derived.Test.YtenplenjpliciaaPFnQuotedBytesx9
import Derived.Test.YtenplenjpliciaaMBase
import Derived.Test.YtenplenjpliciaaMStr
import Derived.Test.YtenplenjpliciaaMQuot
import Derived.Test.YtenplenjpliciaaMDecQ
import Derived.Test.YtenplenjpliciaaMSoft
namespace Go.Proofs.Ytenplenjpliciaa.PLFnQuotedBytes
open Go.RowKit Go.Proofs.Ytenplenjpliciaa.PFnQuotedBytes Go.Proofs.YtenplenjpliciaaW.PrintWords Go.Proofs.YtenplenjpliciaaW.PrintLast Go.Proofs.YtenplenjpliciaaW.PrintMore Go.Proofs.Ytenplenjpliciaa.M

theorem open_ex (l : List Int) (h : Bytes l) : ∃ b, spec_l13Open.f l = some (b, 0) ∧ Bytes b ∧ b.length ≤ 2000 := by
  unfold spec_l13Open.f
  by_cases e : (l.length : Int) > 2000
  · rw [if_pos e, if_pos (by omega)]
    exact ⟨_, rfl, bytes_take h _, by rw [List.length_take]; omega⟩
  · rw [if_neg e]
    exact ⟨_, rfl, h, by omega⟩

theorem pick_ev (b : List Int) (p n : Int) (hb : Bytes b) (hl : b.length ≤ 2000) (hp : 0 ≤ p) (hp1 : p ≤ 1000000) (hn : 1 ≤ n) :
    ∃ r, 0 ≤ r ∧ r < n ∧ Ev (fun k => spec_l13Rd_pick.f k b p n) (r, p + 1) := by
  have w1 : wrap64 (p + 1) = p + 1 := w64 (by omega) (by omega)
  have w2 : wrap64 (p + 1 - 1) = p := by
    rw [w64 (by omega) (by omega)]
    omega
  by_cases e0 : (b.length : Int) = 0
  · refine ⟨0, by omega, by omega, ?_⟩
    simp only [spec_l13Rd_pick.f]
    refine ev_neg (by omega) ?_
    rw [w1]
    refine Ev.step (fun k => by rw [spec_l13Rd_pick.j0]) ?_
    refine ev_pos (by simp [e0]) ?_
    exact Ev.now _
  · have f0 : ((b.length : Int) == 0) = false := beq_eq_false_iff_ne.mpr e0
    by_cases e1 : p < (b.length : Int)
    · obtain ⟨r0, r1⟩ := rd_bytes hb p
      have w3 : wrap64 (rd b p) = rd b p := w64 (by omega) (by omega)
      refine ⟨rd b p % n, Int.emod_nonneg _ (by omega), Int.emod_lt_of_pos _ (by omega), ?_⟩
      simp only [spec_l13Rd_pick.f]
      refine ev_neg (by omega) ?_
      rw [w1, f0]
      refine Ev.step (fun k => by rw [spec_l13Rd_pick.j0]) ?_
      simp only [w2, w3]
      refine ev_neg (by simp) (ev_pos e1 (ev_pos hp (ev_neg (by omega) ?_)))
      rw [Int.tmod_eq_emod_of_nonneg r0]
      exact Ev.now _
    · have hL : (0 : Int) < (b.length : Int) := by omega
      have t1 : Int.tmod p (b.length : Int) = p % (b.length : Int) := Int.tmod_eq_emod_of_nonneg hp
      have w4 : wrap64 (p * 7) = p * 7 := w64 (by omega) (by omega)
      have w5 : wrap64 (p * 7 + 3) = p * 7 + 3 := w64 (by omega) (by omega)
      have t2 : Int.tmod (p * 7 + 3) (b.length : Int) = (p * 7 + 3) % (b.length : Int) := Int.tmod_eq_emod_of_nonneg (by omega)
      have a0 := Int.emod_nonneg p (b := (b.length : Int)) (by omega)
      have a1 := Int.emod_lt_of_pos p hL
      have c0 := Int.emod_nonneg (p * 7 + 3) (b := (b.length : Int)) (by omega)
      have c1 := Int.emod_lt_of_pos (p * 7 + 3) hL
      obtain ⟨x0, x1⟩ := rd_bytes hb (p % (b.length : Int))
      obtain ⟨y0, y1⟩ := rd_bytes hb ((p * 7 + 3) % (b.length : Int))
      have d1 : Int.tdiv p (b.length : Int) = p / (b.length : Int) := Int.tdiv_eq_ediv_of_nonneg hp
      have d2 : 0 ≤ p / (b.length : Int) := Int.ediv_nonneg hp (by omega)
      have d3 : p / (b.length : Int) ≤ p := Int.ediv_le_self _ hp
      have ew1 : wrap64 (rd b (p % (b.length : Int))) = rd b (p % (b.length : Int)) := w64 (by omega) (by omega)
      have ew2 : wrap64 (rd b ((p * 7 + 3) % (b.length : Int))) = rd b ((p * 7 + 3) % (b.length : Int)) := w64 (by omega) (by omega)
      have ew3 : wrap64 (p / (b.length : Int)) = p / (b.length : Int) := w64 (by omega) (by omega)
      have hz : ∀ x y q : Int, 0 ≤ x → x < 256 → 0 ≤ y → y < 256 → 0 ≤ q → q ≤ p →
          wrap64 ((wrap64 ((wrap64 ((wrap64 (x * 131)) + (wrap64 (y * 1117)))) + (wrap64 (p * 29)))) + (wrap64 (q * 53))) = x * 131 + y * 1117 + p * 29 + q * 53 := by
        intro x y q hx hx1 hy hy1 hq hq1
        rw [w64 (n := x * 131) (by omega) (by omega), w64 (n := y * 1117) (by omega) (by omega), w64 (n := p * 29) (by omega) (by omega), w64 (n := q * 53) (by omega) (by omega),
          w64 (n := x * 131 + y * 1117) (by omega) (by omega), w64 (n := x * 131 + y * 1117 + p * 29) (by omega) (by omega), w64 (by omega) (by omega)]
      have hz' := hz _ _ _ x0 x1 y0 y1 d2 d3
      obtain ⟨S, hS⟩ : ∃ S, S = rd b (p % (b.length : Int)) * 131 + rd b ((p * 7 + 3) % (b.length : Int)) * 1117 + p * 29 + p / (b.length : Int) * 53 := ⟨_, rfl⟩
      rw [← hS] at hz'
      have s0 : 0 ≤ S ∧ S < 1000000000 := by omega
      have s1 : Int.tdiv S 64 = S / 64 := Int.tdiv_eq_ediv_of_nonneg s0.1
      have s2 : wrap64 (S / 64) = S / 64 := w64 (by omega) (by omega)
      have hx := xor_nonneg (x := S) (y := S / 64) (by omega) (by omega) (by omega) (by omega)
      refine ⟨bits .xor .i64 S (S / 64) % n, Int.emod_nonneg _ (by omega), Int.emod_lt_of_pos _ (by omega), ?_⟩
      simp only [spec_l13Rd_pick.f]
      refine ev_neg (by omega) ?_
      rw [w1, f0]
      refine Ev.step (fun k => by rw [spec_l13Rd_pick.j0]) ?_
      simp only [w2, t1, w4, w5, t2, d1, ew1, ew2, ew3, hz', s1, s2]
      refine ev_neg (by simp) (ev_neg e1 (ev_neg e0 (ev_pos a0 (ev_pos a1 (ev_pos c0 (ev_pos c1 (ev_neg (by omega) ?_)))))))
      rw [Int.tmod_eq_emod_of_nonneg hx]
      exact Ev.now _

theorem num_ev (b : List Int) (p : Int) (l : List Int) (hb : Bytes b) (hl : b.length ≤ 2000) (hp : 0 ≤ p) (hp1 : p ≤ 1000000) (hn : 1 ≤ l.length) :
    ∃ r, 0 ≤ r ∧ r < (l.length : Int) ∧ Ev (fun k => spec_l13Rd_num.f k b p l) (rd l r, p + 1) := by
  obtain ⟨r, h0, h1, h⟩ := pick_ev b p (l.length : Int) hb hl hp hp1 (by omega)
  refine ⟨r, h0, h1, ?_⟩
  simp only [spec_l13Rd_num.f]
  refine Ev.bind h ?_
  exact ev_pos h0 (ev_pos h1 (Ev.now _))

theorem of_ev (b : List Int) (p : Int) (l : List ByteArray) (hb : Bytes b) (hl : b.length ≤ 2000) (hp : 0 ≤ p) (hp1 : p ≤ 1000000) (hn : 1 ≤ l.length) :
    ∃ x ∈ l, Ev (fun k => spec_l13Rd_of.f k b p l) (x, p + 1) := by
  obtain ⟨r, h0, h1, h⟩ := pick_ev b p (l.length : Int) hb hl hp hp1 (by omega)
  have hr : r.toNat < l.length := by omega
  refine ⟨l[r.toNat], List.getElem_mem hr, ?_⟩
  have e : rdOf ByteArray.empty l r = l[r.toNat] := by
    unfold rdOf
    rw [List.getD_eq_getElem?_getD, List.getElem?_eq_getElem hr]
    rfl
  simp only [spec_l13Rd_of.f]
  refine Ev.bind h ?_
  refine ev_pos h0 (ev_pos h1 ?_)
  rw [e]
  exact Ev.now _

/-- Long strings grow past the limit. -/
theorem l5long_ex (b : List Int) (p : Int) : ∀ (d : Nat) (s : ByteArray), s.size ≤ 100000 → 301 - s.size ≤ d → ∃ t, t.size ≤ 100000 ∧ Ev (fun k => spec_l5Draw.l1 k s b p) (t, p) := by
  intro d
  induction d with
  | zero =>
    intro s hs hd
    refine ⟨s, hs, ?_⟩
    refine Ev.step (fun k => by rw [spec_l5Draw.l1]) ?_
    exact ev_neg (by omega) (Ev.now _)
  | succ d ih =>
    intro s hs hd
    by_cases c : (s.size : Int) ≤ 300
    · have hz : (s ++ (⟨#[48, 49, 50, 51, 52, 53, 54, 55, 56, 57]⟩ : ByteArray)).size = s.size + 10 := by rw [ByteArray.size_append]; rfl
      obtain ⟨t, ht, h⟩ := ih (s ++ (⟨#[48, 49, 50, 51, 52, 53, 54, 55, 56, 57]⟩ : ByteArray)) (by omega) (by omega)
      refine ⟨t, ht, ?_⟩
      refine Ev.step (fun k => by rw [spec_l5Draw.l1]) ?_
      exact ev_pos c (ev_pos (by omega) h)
    · refine ⟨s, hs, ?_⟩
      refine Ev.step (fun k => by rw [spec_l5Draw.l1]) ?_
      exact ev_neg c (Ev.now _)

theorem l5loop_ex (b : List Int) (hb : Bytes b) (hl : b.length ≤ 2000) : ∀ (n : Nat) (s : ByteArray) (p : Int), n ≤ 8 → 0 ≤ p → p + n ≤ 1000 → s.size + 50 * n ≤ 1000 →
    ∃ t q, t.size ≤ 100000 ∧ 0 ≤ q ∧ q ≤ 2000 ∧ Ev (fun k => spec_l5Draw.l0 k s (n : Int) b p) (t, q) := by
  intro n
  induction n with
  | zero =>
    intro s p h8 hp hp1 hs
    obtain ⟨r, h0, h1, h⟩ := pick_ev b p 40 hb hl hp (by omega) (by omega)
    by_cases c : r = 0
    · obtain ⟨t, ht, h2⟩ := l5long_ex b (p + 1) 301 s (by omega) (by omega)
      refine ⟨t, p + 1, ht, by omega, by omega, ?_⟩
      refine Ev.step (fun k => by rw [spec_l5Draw.l0]) ?_
      refine ev_neg (by omega) ?_
      refine Ev.bind h ?_
      exact ev_pos c h2
    · refine ⟨s, p + 1, by omega, by omega, by omega, ?_⟩
      refine Ev.step (fun k => by rw [spec_l5Draw.l0]) ?_
      refine ev_neg (by omega) ?_
      refine Ev.bind h ?_
      exact ev_neg c (Ev.now _)
  | succ n ih =>
    intro s p h8 hp hp1 hs
    obtain ⟨x, hx, h⟩ := of_ev b p ([(⟨#[104, 101, 108, 108, 111]⟩ : ByteArray), (⟨#[32]⟩ : ByteArray), (⟨#[61]⟩ : ByteArray), (⟨#[10]⟩ : ByteArray), (⟨#[255, 0]⟩ : ByteArray), (⟨#[99, 97, 102, 195, 169]⟩ : ByteArray), (⟨#[97, 32, 108, 111, 110, 103, 101, 114, 32, 114, 111, 119, 32, 111, 102, 32, 119, 111, 114, 100, 115, 32, 116, 104, 97, 116, 32, 105, 115, 32, 98, 114, 111, 107, 101, 110, 32, 104, 101, 114, 101]⟩ : ByteArray), (⟨#[120]⟩ : ByteArray), (⟨#[46]⟩ : ByteArray), (⟨#[9]⟩ : ByteArray)] : List ByteArray) hb hl hp (by omega) (by simp)
    have hxs : x.size ≤ 50 := by
      simp only [List.mem_cons, List.not_mem_nil, or_false] at hx
      rcases hx with rfl | rfl | rfl | rfl | rfl | rfl | rfl | rfl | rfl | rfl <;> decide
    obtain ⟨t, q, ht, hq0, hq1, h2⟩ := ih (s ++ x) (p + 1) (by omega) (by omega) (by omega) (by rw [ByteArray.size_append]; omega)
    refine ⟨t, q, ht, hq0, hq1, ?_⟩
    have w : wrap64 (((n + 1 : Nat) : Int) - 1) = (n : Int) := by rw [w64 (by omega) (by omega)]; omega
    refine Ev.step (fun k => by rw [spec_l5Draw.l0]) ?_
    refine ev_pos (by omega) ?_
    refine Ev.bind h ?_
    refine ev_pos (show s.size + x.size ≤ 9223372036854775807 by omega) ?_
    rw [w]
    exact h2

theorem l5draw_ex (b : List Int) (p : Int) (hb : Bytes b) (hl : b.length ≤ 2000) (hp : 0 ≤ p) (hp1 : p ≤ 100) :
    ∃ t q, t.size ≤ 100000 ∧ 0 ≤ q ∧ q ≤ 2000 ∧ Ev (fun k => spec_l5Draw.f k b p) (t, q) := by
  obtain ⟨r, h0, h1, h⟩ := num_ev b p [3, 2, 5, 1, 0, 8] hb hl hp (by omega) (by simp)
  simp only [List.length_cons, List.length_nil] at h1
  have hr : ∃ n : Nat, n ≤ 8 ∧ rd [3, 2, 5, 1, 0, 8] r = (n : Int) := by
    have : r = 0 ∨ r = 1 ∨ r = 2 ∨ r = 3 ∨ r = 4 ∨ r = 5 := by omega
    rcases this with rfl | rfl | rfl | rfl | rfl | rfl
    · exact ⟨3, by omega, rfl⟩
    · exact ⟨2, by omega, rfl⟩
    · exact ⟨5, by omega, rfl⟩
    · exact ⟨1, by omega, rfl⟩
    · exact ⟨0, by omega, rfl⟩
    · exact ⟨8, by omega, rfl⟩
  obtain ⟨n, hn, e⟩ := hr
  rw [e] at h
  obtain ⟨t, q, ht, hq0, hq1, h2⟩ := l5loop_ex b hb hl n (⟨#[]⟩ : ByteArray) (p + 1) hn (by omega) (by omega) (by show 0 + 50 * n ≤ 1000; omega)
  refine ⟨t, q, ht, hq0, hq1, ?_⟩
  simp only [spec_l5Draw.f]
  refine Ev.bind h ?_
  exact h2

theorem drawquot_ex (l : List Int) (h : Bytes l) : ∃ t, Ev (fun k => spec_DrawEncodeQuoted.f k l) t := by
  obtain ⟨b, hb, h1, h2⟩ := open_ex l h
  obtain ⟨t, q, _, _, _, h3⟩ := l5draw_ex b 0 h1 h2 (by omega) (by omega)
  refine ⟨t, ?_⟩
  simp only [spec_DrawEncodeQuoted.f, hb, Option.bind_some]
  refine Ev.bind h3 ?_
  exact Ev.now _

theorem bend_ex (b : List Int) (p : Int) (s : ByteArray) (bits : List ByteArray) (hb : Bytes b) (hl : b.length ≤ 2000) (hp : 0 ≤ p) (hp1 : p ≤ 100000) (hn : 1 ≤ bits.length) (hz : ∀ x ∈ bits, x.size ≤ 50) (hs : s.size ≤ 1000000) :
    ∃ t q, t.size ≤ s.size + 50 ∧ 0 ≤ q ∧ q ≤ p + 4 ∧ Ev (fun k => spec_l1Bend.f k b p s bits) (t, q) := by
  by_cases h0 : (s.size : Int) = 0
  · refine ⟨s, p, by omega, hp, by omega, ?_⟩
    simp only [spec_l1Bend.f]
    refine ev_pos h0 ?_
    refine Ev.step (fun k => by rw [spec_l1Bend.j0]) ?_
    exact ev_pos rfl (Ev.now _)
  obtain ⟨r, r0, r1, e1⟩ := pick_ev b p 2 hb hl hp (by omega) (by omega)
  by_cases hr : r = 0
  · refine ⟨s, p + 1, by omega, by omega, by omega, ?_⟩
    simp only [spec_l1Bend.f]
    refine ev_neg h0 (Ev.bind e1 ?_)
    refine Ev.step (fun k => by rw [spec_l1Bend.j0]) ?_
    exact ev_pos (by rw [hr]; rfl) (Ev.now _)
  obtain ⟨u, u0, u1, e2⟩ := pick_ev b (p + 1) (s.size : Int) hb hl (by omega) (by omega) (by omega)
  obtain ⟨x, hx, e3⟩ := of_ev b (p + 1 + 1) bits hb hl (by omega) (by omega) hn
  obtain ⟨v, v0, v1, e4⟩ := pick_ev b (p + 1 + 1 + 1) 2 hb hl (by omega) (by omega) (by omega)
  have hxs := hz x hx
  have w : wrap64 (u + v) = u + v := w64 (by omega) (by omega)
  have z1 : (s.extract 0 u.toNat).size ≤ s.size := by rw [ByteArray.size_extract]; omega
  have z2 : (s.extract (u + v).toNat s.size).size ≤ s.size := by rw [ByteArray.size_extract]; omega
  have z3 : ((s.extract 0 u.toNat) ++ x).size = (s.extract 0 u.toNat).size + x.size := ByteArray.size_append
  have z4 : (((s.extract 0 u.toNat) ++ x) ++ s.extract (u + v).toNat s.size).size = ((s.extract 0 u.toNat) ++ x).size + (s.extract (u + v).toNat s.size).size := ByteArray.size_append
  have z5 : (s.extract 0 u.toNat).size + (s.extract (u + v).toNat s.size).size ≤ s.size := by rw [ByteArray.size_extract, ByteArray.size_extract]; omega
  have g1 : (s.extract 0 u.toNat).size + x.size ≤ 9223372036854775807 := by omega
  have g2 : ((s.extract 0 u.toNat) ++ x).size + (s.extract (u + v).toNat s.size).size ≤ 9223372036854775807 := by omega
  refine ⟨(s.extract 0 u.toNat ++ x) ++ s.extract (u + v).toNat s.size, p + 1 + 1 + 1 + 1, by omega, by omega, by omega, ?_⟩
  simp only [spec_l1Bend.f]
  refine ev_neg h0 (Ev.bind e1 ?_)
  refine Ev.step (fun k => by rw [spec_l1Bend.j0]) ?_
  refine ev_neg (by simpa using hr) (Ev.bind e2 (ev_pos u0 (ev_pos (by omega) (Ev.bind e3 (ev_pos g1 (Ev.bind e4 ?_))))))
  simp only [w]
  exact ev_pos (by omega) (ev_pos (by omega) (ev_pos g2 (Ev.now _)))

theorem spec_hex (c : UInt8) : spec_l5Hex.f (c.toNat : Int) = some (S (hex3 c)) := by
  have hc := c.toNat_lt
  unfold spec_l5Hex.f
  have a : bits .and .u8 (c.toNat : Int) 15 = ((c.toNat % 16 : Nat) : Int) := by
    rw [u8_and15 _ (by omega) (by omega)]
    omega
  have b : ((c.toNat : Int) / 16) = ((c.toNat / 16 : Nat) : Int) := by omega
  have e1 : ((((c.toNat / 16 : Nat) : Int) + 1) % 256) = (((c.toNat / 16) + 1 : Nat) : Int) := by omega
  have e2 : ((((c.toNat % 16 : Nat) : Int) + 1) % 256) = (((c.toNat % 16) + 1 : Nat) : Int) := by omega
  have x1 := extract_digit (c.toNat / 16) (by omega)
  have x2 := extract_digit (c.toNat % 16) (by omega)
  simp only [a, b, e1, e2, Int.toNat_natCast, x1, x2, mk_S, append_S, size_S]
  rw [if_pos (by omega), if_pos (by omega), if_pos (by omega), if_pos (by simp), if_pos (by omega), if_pos (by omega), if_pos (by omega), if_pos (by simp)]
  rfl


theorem spec_byte (c : UInt8) (last : Bool) : spec_l5Byte.f (c.toNat : Int) last = some (S (quoteB c last)) := by
  have hc := c.toNat_lt
  have hself : strOfNums ([(c.toNat : Int)] : List Int) = S [c] := by
    rw [strOfNums_S]
    simp
  unfold spec_l5Byte.f quoteB plainQ
  simp only [spec_hex, hself, Option.bind_some]
  by_cases h1 : (c.toNat : Int) ≥ 33
  · rw [if_pos h1]
    by_cases h2 : (c.toNat : Int) ≤ 126
    · rw [if_pos h2]
      by_cases h3 : (c.toNat : Int) = 61
      · rw [if_pos h3, if_neg (by omega)]
        have h3' : c.toNat = 61 := by omega
        simp [h3']
      · rw [if_neg h3]
        have : 33 ≤ c.toNat ∧ c.toNat ≤ 126 ∧ c.toNat ≠ 61 := by omega
        simp [this]
    · rw [if_neg h2, if_neg (by omega)]
      have a : ¬ (33 ≤ c.toNat ∧ c.toNat ≤ 126 ∧ c.toNat ≠ 61) := by omega
      have b : ¬ c.toNat = 32 := by omega
      simp [a, b]
  · rw [if_neg h1]
    have a : ¬ (33 ≤ c.toNat ∧ c.toNat ≤ 126 ∧ c.toNat ≠ 61) := by omega
    by_cases h3 : (c.toNat : Int) = 32
    · rw [if_pos h3]
      have h3' : c.toNat = 32 := by omega
      cases last <;> simp [h3']
    · rw [if_neg h3]
      have b : ¬ c.toNat = 32 := by omega
      simp [a, b]

theorem spec_quot_loop (b : List UInt8) (hb : b.length ≤ 300) : ∀ (e i : Nat) (outs : List (List UInt8)) (line : List UInt8), i + e = b.length → outs.length ≤ i → line.length ≤ 42 →
    Ev (fun k => spec_EncodeQuoted.l0 k (S b) (SL outs) (S line) (i : Int)) (SL (outs ++ encQ (b.drop i) line), true) := by
  intro e
  induction e with
  | zero =>
    intro i outs line hi ho hl
    refine Ev.step (fun k => by rw [spec_EncodeQuoted.l0]) ?_
    simp only [size_S, SL_length]
    refine ev_neg (by omega) (ev_pos (by omega) ?_)
    rw [List.drop_of_length_le (by omega), SL_one, SL_append]
    exact Ev.now _
  | succ e ih =>
    intro i outs line hi ho hl
    have hlt : i < b.length := by omega
    have w : wrap64 ((i : Int) + 1) = ((i + 1 : Nat) : Int) := by rw [w64 (by omega) (by omega)]; omega
    refine Ev.step (fun k => by rw [spec_EncodeQuoted.l0]) ?_
    simp only [size_S, SL_length, w, bt_S, Int.toNat_natCast, mk_S, append_S, SL_one, SL_append]
    have hg : b.getD i 0 = b[i] := by rw [List.getD_eq_getElem?_getD, List.getElem?_eq_getElem hlt]; rfl
    rw [drop_cons hlt]
    simp only [hg]
    refine ev_pos (by omega) (ev_pos (by omega) ?_)
    by_cases c10 : ((b[i]).toNat : Int) = 10
    · refine ev_pos c10 (ev_pos (by omega) ?_)
      have := ih (i + 1) (outs ++ [line]) [] (by omega) (by simp; omega) (by simp)
      have e1 : encQ (b[i] :: b.drop (i + 1)) line = line :: encQ (b.drop (i + 1)) [] := by
        rw [encQ, if_pos (by omega)]
      rw [e1]
      simpa using this
    refine ev_neg c10 ?_
    -- what stands for the byte, whether it is the last of its line or not
    have step : ∀ last, last = lastQ (b.drop (i + 1)) →
        Ev (fun k => if wrap64 ((line.length : Int) + ((quoteB b[i] last).length : Int)) > 39 then
            (if line.length + 1 ≤ 9223372036854775807 then (if outs.length < 8796093022208 then (if 0 + (quoteB b[i] last).length ≤ 9223372036854775807 then
              spec_EncodeQuoted.l0 k (S b) (SL (outs ++ [line ++ [61]])) (S ([] ++ quoteB b[i] last)) ((i + 1 : Nat) : Int) else none) else none) else none)
            else (if line.length + (quoteB b[i] last).length ≤ 9223372036854775807 then spec_EncodeQuoted.l0 k (S b) (SL outs) (S (line ++ quoteB b[i] last)) ((i + 1 : Nat) : Int) else none))
          (SL (outs ++ encQ (b[i] :: b.drop (i + 1)) line), true) := by
      intro last hlast
      obtain ⟨q1, q2⟩ := quoteB_length b[i] last
      have w2 : wrap64 ((line.length : Int) + ((quoteB b[i] last).length : Int)) = ((line.length + (quoteB b[i] last).length : Nat) : Int) := by rw [w64 (by omega) (by omega)]; omega
      rw [w2]
      by_cases c39 : line.length + (quoteB b[i] last).length > 39
      · refine ev_pos (by omega) (ev_pos (by omega) (ev_pos (by omega) (ev_pos (by omega) ?_)))
        have := ih (i + 1) (outs ++ [line ++ [61]]) (quoteB b[i] last) (by omega) (by simp; omega) (by omega)
        have e1 : encQ (b[i] :: b.drop (i + 1)) line = (line ++ [61]) :: encQ (b.drop (i + 1)) (quoteB b[i] last) := by
          rw [encQ, if_neg (by omega), ← hlast, if_pos c39]
        rw [e1]
        simpa using this
      · refine ev_neg (by omega) (ev_pos (by omega) ?_)
        have := ih (i + 1) outs (line ++ quoteB b[i] last) (by omega) (by omega) (by simp; omega)
        have e1 : encQ (b[i] :: b.drop (i + 1)) line = encQ (b.drop (i + 1)) (line ++ quoteB b[i] last) := by
          rw [encQ, if_neg (by omega), ← hlast, if_neg c39]
        rw [e1]
        exact this
    by_cases hend : ((i + 1 : Nat) : Int) = (b.length : Int)
    · refine ev_pos hend ?_
      refine ev_bind0 (spec_byte b[i] true) ?_
      simp only [size_S, append_S]
      exact step true (by rw [List.drop_of_length_le (by omega)]; rfl)
    · refine ev_neg hend (ev_pos (by omega) (ev_pos (by omega) ?_))
      have hlt2 : i + 1 < b.length := by omega
      have hg2 : b.getD (i + 1) 0 = b[i + 1] := by rw [List.getD_eq_getElem?_getD, List.getElem?_eq_getElem hlt2]; rfl
      rw [hg2]
      refine ev_bind0 (spec_byte b[i] _) ?_
      simp only [size_S, append_S]
      refine step _ ?_
      rw [drop_cons hlt2]
      show _ = decide _
      rw [Bool.eq_iff_iff]
      simp
      omega

theorem spec_quot (b : List UInt8) : Ev (fun k => spec_EncodeQuoted.f k (S b)) (quotR b) := by
  simp only [spec_EncodeQuoted.f, size_S]
  unfold quotR
  by_cases h : b.length > 300
  · rw [if_pos h]
    exact ev_pos (by omega) (Ev.now _)
  · rw [if_neg h]
    refine ev_neg (by omega) ?_
    have := spec_quot_loop b (by omega) b.length 0 [] [] (by omega) (by simp) (by simp)
    rw [List.drop_zero, List.nil_append] at this
    exact this

theorem impl_hex (c : UInt8) : impl_hexByte.f (c.toNat : Int) = some (S (hex3 c)) := by
  have hc := c.toNat_lt
  unfold impl_hexByte.f
  have a : bits .and .u8 (c.toNat : Int) 15 = ((c.toNat % 16 : Nat) : Int) := by
    rw [u8_and15 _ (by omega) (by omega)]
    omega
  have b : ((c.toNat : Int) / 16) = ((c.toNat / 16 : Nat) : Int) := by omega
  have e1 : ((((c.toNat / 16 : Nat) : Int) + 1) % 256) = (((c.toNat / 16) + 1 : Nat) : Int) := by omega
  have e2 : ((((c.toNat % 16 : Nat) : Int) + 1) % 256) = (((c.toNat % 16) + 1 : Nat) : Int) := by omega
  have x1 := extract_digit (c.toNat / 16) (by omega)
  have x2 := extract_digit (c.toNat % 16) (by omega)
  simp only [a, b, e1, e2, Int.toNat_natCast, x1, x2, mk_S, append_S, size_S]
  rw [if_pos (by omega), if_pos (by omega), if_pos (by omega), if_pos (by simp), if_pos (by omega), if_pos (by omega), if_pos (by omega), if_pos (by simp)]
  rfl


theorem impl_quot_loop (b : List UInt8) (hb : b.length ≤ 300) : ∀ (e i : Nat) (outs : List (List UInt8)) (line : List UInt8), i + e = b.length → outs.length ≤ i → line.length ≤ 42 →
    Ev (fun k => impl_EncodeQuoted.l0 k (S b) (SL outs) (S line) (b.length : Int) (i : Int)) (SL (outs ++ encQ (b.drop i) line), true) := by
  intro e
  induction e with
  | zero =>
    intro i outs line hi ho hl
    refine Ev.step (fun k => by rw [impl_EncodeQuoted.l0]) ?_
    simp only [size_S, SL_length]
    refine ev_neg (by omega) (ev_pos (by omega) ?_)
    rw [List.drop_of_length_le (by omega), SL_one, SL_append]
    exact Ev.now _
  | succ e ih =>
    intro i outs line hi ho hl
    have hlt : i < b.length := by omega
    have w : wrap64 ((i : Int) + 1) = ((i + 1 : Nat) : Int) := by rw [w64 (by omega) (by omega)]; omega
    have hg : b.getD i 0 = b[i] := by rw [List.getD_eq_getElem?_getD, List.getElem?_eq_getElem hlt]; rfl
    have hone : (S b).extract i (i + 1) = S [b[i]] := by
      rw [extract_S, Nat.add_sub_cancel_left, take_one hlt]
    -- the byte's own text, and what follows
    have step : ∀ (last : Bool) (own : List UInt8), last = lastQ (b.drop (i + 1)) → own = quoteB b[i] last →
        Ev (fun k => if wrap64 ((line.length : Int) + (own.length : Int)) > 39 then
            (if line.length + 1 ≤ 9223372036854775807 then (if outs.length < 8796093022208 then (if 0 + own.length ≤ 9223372036854775807 then
              impl_EncodeQuoted.l0 k (S b) (SL (outs ++ [line ++ [61]])) (S ([] ++ own)) (b.length : Int) ((i + 1 : Nat) : Int) else none) else none) else none)
            else (if line.length + own.length ≤ 9223372036854775807 then impl_EncodeQuoted.l0 k (S b) (SL outs) (S (line ++ own)) (b.length : Int) ((i + 1 : Nat) : Int) else none))
          (SL (outs ++ encQ (b[i] :: b.drop (i + 1)) line), true) ∨ b[i].toNat = 10 := by
      intro last own hlast hown
      by_cases c10 : b[i].toNat = 10
      · exact .inr c10
      left
      obtain ⟨q1, q2⟩ := quoteB_length b[i] last
      rw [← hown] at q1 q2
      have w2 : wrap64 ((line.length : Int) + (own.length : Int)) = ((line.length + own.length : Nat) : Int) := by rw [w64 (by omega) (by omega)]; omega
      rw [w2]
      by_cases c39 : line.length + own.length > 39
      · refine ev_pos (by omega) (ev_pos (by omega) (ev_pos (by omega) (ev_pos (by omega) ?_)))
        have := ih (i + 1) (outs ++ [line ++ [61]]) own (by omega) (by simp; omega) (by omega)
        have e1 : encQ (b[i] :: b.drop (i + 1)) line = (line ++ [61]) :: encQ (b.drop (i + 1)) own := by
          rw [encQ, if_neg (by omega), ← hlast, ← hown, if_pos c39]
        rw [e1]
        simpa using this
      · refine ev_neg (by omega) (ev_pos (by omega) ?_)
        have := ih (i + 1) outs (line ++ own) (by omega) (by omega) (by simp; omega)
        have e1 : encQ (b[i] :: b.drop (i + 1)) line = encQ (b.drop (i + 1)) (line ++ own) := by
          rw [encQ, if_neg (by omega), ← hlast, ← hown, if_neg c39]
        rw [e1]
        exact this
    refine Ev.step (fun k => by rw [impl_EncodeQuoted.l0]) ?_
    simp only [size_S, SL_length, w, bt_S, Int.toNat_natCast, mk_S, SL_one, SL_append, hg]
    refine ev_pos (by omega) (ev_pos (by omega) (ev_pos (by omega) ?_))
    rw [drop_cons hlt]
    by_cases c10 : ((b[i]).toNat : Int) = 10
    · refine ev_pos c10 (ev_pos (by omega) ?_)
      have := ih (i + 1) (outs ++ [line]) [] (by omega) (by simp; omega) (by simp)
      have e1 : encQ (b[i] :: b.drop (i + 1)) line = line :: encQ (b.drop (i + 1)) [] := by
        rw [encQ, if_pos (by omega)]
      rw [e1]
      simpa using this
    refine ev_neg c10 ?_
    have hj2 : ∀ (last c : Bool), last = lastQ (b.drop (i + 1)) → c = plainQ b[i] last →
        Ev (fun k => impl_EncodeQuoted.j2 k (S b) (SL outs) (S line) (i : Int) (S (hex3 b[i])) (b.length : Int) (i : Int) c) (SL (outs ++ encQ (b[i] :: b.drop (i + 1)) line), true) := by
      intro last c hlast hc
      refine Ev.step (fun k => by rw [impl_EncodeQuoted.j2]) ?_
      simp only [size_S, SL_length, w, Int.toNat_natCast, mk_S, SL_one, SL_append, append_S, hone]
      have hq : (if c = true then [b[i]] else hex3 b[i]) = quoteB b[i] last := by unfold quoteB; rw [hc]
      cases c with
      | true =>
        refine ev_pos rfl (ev_pos (by omega) (ev_pos (by omega) (ev_pos (by omega) ?_)))
        exact (step last [b[i]] hlast hq).resolve_right (by omega)
      | false =>
        refine ev_neg (by simp) ?_
        exact (step last (hex3 b[i]) hlast hq).resolve_right (by omega)
    have hj1 : ∀ (last : Bool), last = lastQ (b.drop (i + 1)) →
        Ev (fun k => impl_EncodeQuoted.j1 k (S b) (SL outs) (S line) (i : Int) (S (hex3 b[i])) last (b.length : Int) (i : Int)) (SL (outs ++ encQ (b[i] :: b.drop (i + 1)) line), true) := by
      intro last hlast
      refine Ev.step (fun k => by rw [impl_EncodeQuoted.j1]) ?_
      simp only [size_S, bt_S, Int.toNat_natCast, hg]
      refine ev_pos (by omega) (ev_pos (by omega) ?_)
      by_cases h1 : (b[i].toNat : Int) ≥ 33
      · refine ev_pos h1 ?_
        by_cases h2 : (b[i].toNat : Int) ≤ 126
        · refine ev_pos h2 ?_
          by_cases h3 : (b[i].toNat : Int) = 61
          · refine ev_pos h3 (ev_neg (by omega) (hj2 last false hlast ?_))
            have : b[i].toNat = 61 := by omega
            unfold plainQ
            simp [this]
          · refine ev_neg h3 (hj2 last true hlast ?_)
            have : 33 ≤ b[i].toNat ∧ b[i].toNat ≤ 126 ∧ b[i].toNat ≠ 61 := by omega
            unfold plainQ
            simp [this]
        · refine ev_neg h2 (ev_neg (by omega) (hj2 last false hlast ?_))
          have a : ¬ (33 ≤ b[i].toNat ∧ b[i].toNat ≤ 126 ∧ b[i].toNat ≠ 61) := by omega
          have c : ¬ b[i].toNat = 32 := by omega
          unfold plainQ
          simp [a, c]
      · refine ev_neg h1 ?_
        have a : ¬ (33 ≤ b[i].toNat ∧ b[i].toNat ≤ 126 ∧ b[i].toNat ≠ 61) := by omega
        by_cases h3 : (b[i].toNat : Int) = 32
        · refine ev_pos h3 (hj2 last (!last) hlast ?_)
          have : b[i].toNat = 32 := by omega
          unfold plainQ
          cases last <;> simp [this]
        · refine ev_neg h3 (hj2 last false hlast ?_)
          have c : ¬ b[i].toNat = 32 := by omega
          unfold plainQ
          simp [a, c]
    refine ev_bind0 (impl_hex b[i]) ?_
    by_cases hend : ((i + 1 : Nat) : Int) = (b.length : Int)
    · refine ev_pos hend ?_
      exact hj1 true (by rw [List.drop_of_length_le (by omega)]; rfl)
    · refine ev_neg hend (ev_pos (by omega) (ev_pos (by omega) ?_))
      have hlt2 : i + 1 < b.length := by omega
      have hg2 : b.getD (i + 1) 0 = b[i + 1] := by rw [List.getD_eq_getElem?_getD, List.getElem?_eq_getElem hlt2]; rfl
      rw [hg2]
      refine hj1 _ ?_
      rw [drop_cons hlt2]
      show _ = decide _
      rw [Bool.eq_iff_iff]
      simp
      omega

theorem impl_quot (b : List UInt8) : Ev (fun k => impl_EncodeQuoted.f k (S b)) (quotR b) := by
  simp only [impl_EncodeQuoted.f, size_S]
  unfold quotR
  by_cases h : b.length > 300
  · rw [if_pos h]
    exact ev_pos (by omega) (Ev.now _)
  · rw [if_neg h]
    refine ev_neg (by omega) ?_
    have := impl_quot_loop b (by omega) b.length 0 [] [] (by omega) (by simp) (by simp)
    rw [List.drop_zero, List.nil_append] at this
    exact this

theorem texts_self (l : List ByteArray) (hl : l.length ≤ 1000000) : Ev (fun k => laws_mwTexts.f k l l) true := by
  simp only [laws_mwTexts.f]
  refine ev_pos trivial ?_
  have : ∀ (e i : Nat), i + e = l.length → Ev (fun k => laws_mwTexts.l0 k l l (i : Int)) true := by
    intro e
    induction e with
    | zero =>
      intro i hi
      refine Ev.step (fun k => by rw [laws_mwTexts.l0]) ?_
      exact ev_neg (by omega) (Ev.now _)
    | succ e ih =>
      intro i hi
      have w : wrap64 ((i : Int) + 1) = ((i + 1 : Nat) : Int) := by rw [w64 (by omega) (by omega)]; omega
      refine Ev.step (fun k => by rw [laws_mwTexts.l0]) ?_
      refine ev_pos (by omega) (ev_pos (by omega) (ev_pos (by omega) (ev_pos rfl ?_)))
      rw [w]
      exact ih (i + 1) (by omega)
  exact this l.length 0 (by omega)

/-- A text: printable bytes, at most 200. -/
theorem impl_text_ok (s : List UInt8) (hl : s.length ≤ 200) (h : ∀ c ∈ s, 32 ≤ c.toNat ∧ c.toNat ≤ 126) : Ev (fun k => impl_TextValid.f k (S s)) true := by
  simp only [impl_TextValid.f, size_S]
  have : ∀ (e i : Nat), i + e = s.length → Ev (fun k => impl_TextValid.l0 k (S s) (s.length : Int) (i : Int)) true := by
    intro e
    induction e with
    | zero =>
      intro i hi
      refine Ev.step (fun k => by rw [impl_TextValid.l0]) ?_
      rw [size_S]
      refine ev_neg (by omega) (ev_is ?_)
      rw [decide_eq_true (by omega)]
    | succ e ih =>
      intro i hi
      have hlt : i < s.length := by omega
      have hg : s.getD i 0 = s[i] := by rw [List.getD_eq_getElem?_getD, List.getElem?_eq_getElem hlt]; rfl
      have hc := h s[i] (List.getElem_mem hlt)
      have hih := ih (i + 1) (by omega)
      have w : wrap64 ((i : Int) + 1) = ((i + 1 : Nat) : Int) := by rw [w64 (by omega) (by omega)]; omega
      refine Ev.step (fun k => by rw [impl_TextValid.l0]) ?_
      simp only [size_S, bt_S, Int.toNat_natCast, hg, w]
      clear w hg
      obtain ⟨x, hx⟩ : ∃ x : Nat, x = s[i].toNat := ⟨_, rfl⟩
      rw [← hx] at hc
      simp only [← hx]
      clear hx
      exact ev_pos (by omega) (ev_pos (by omega) (ev_pos (by omega) (ev_neg (by omega) (ev_neg (by omega) hih))))
  exact this s.length 0 (by omega)

theorem spec_value (c : UInt8) : Ev (fun k => spec_l5Value.f k (c.toNat : Int)) (hv c) := by
  have hc := c.toNat_lt
  simp only [spec_l5Value.f]
  have j : ∀ b, b = decide (48 ≤ c.toNat ∧ c.toNat ≤ 57) → Ev (fun k => spec_l5Value.j0 k (c.toNat : Int) b) (hv c) := by
    intro b hb
    refine Ev.step (fun k => by rw [spec_l5Value.j0]) ?_
    by_cases h : 48 ≤ c.toNat ∧ c.toNat ≤ 57
    · have e : hexv c = some (c.toNat - 48) := by unfold hexv; rw [if_pos h]
      rw [hv_some e]
      refine ev_pos (by rw [hb]; simp [h]) (ev_is (congrArg some ?_))
      omega
    · refine ev_neg (by rw [hb]; simp; omega) ?_
      by_cases h2 : 65 ≤ c.toNat ∧ c.toNat ≤ 70
      · have e : hexv c = some (c.toNat - 55) := by unfold hexv; rw [if_neg h, if_pos h2]
        rw [hv_some e]
        refine ev_pos (by omega) (ev_pos (by omega) (ev_is (congrArg some ?_)))
        omega
      · have e : hexv c = none := by unfold hexv; rw [if_neg h, if_neg h2]
        rw [hv_none e]
        by_cases h3 : 65 ≤ c.toNat
        · exact ev_pos (by omega) (ev_neg (by omega) (Ev.now _))
        · exact ev_neg (by omega) (Ev.now _)
  by_cases h : 48 ≤ c.toNat
  · refine ev_pos (by omega) (j _ ?_)
    rw [decide_eq_decide]
    omega
  · refine ev_neg (by omega) (j _ ?_)
    symm
    rw [decide_eq_false_iff_not]
    omega

/-- Bytes as numbers. -/
def NB (l : List UInt8) : List Int := l.map fun c => (c.toNat : Int)
theorem NB_length (l : List UInt8) : (NB l).length = l.length := by unfold NB; simp
theorem NB_str (l : List UInt8) : strOfNums (NB l) = S l := by
  rw [strOfNums_S]
  unfold NB
  rw [List.map_map]
  have : ((fun n : Int => UInt8.ofNat n.toNat) ∘ fun c : UInt8 => (c.toNat : Int)) = id := by
    funext c
    exact u8_of c
  rw [this]
  simp
theorem NB_snoc (l : List UInt8) (c : UInt8) : NB l ++ [(c.toNat : Int)] = NB (l ++ [c]) := by unfold NB; simp
theorem NB_nil : ([] : List Int) = NB [] := rfl

theorem hex_val {x y : Nat} (hx : x < 16) (hy : y < 16) : (wrap64 ((wrap64 (16 * (x : Int))) + (y : Int))) % 256 = ((UInt8.ofNat (16 * x + y)).toNat : Int) := by
  have w : wrap64 (16 * (x : Int)) = 16 * (x : Int) := w64 (by omega) (by omega)
  rw [w, w64 (by omega) (by omega), UInt8.toNat_ofNat']
  omega


def unqR (acc : List UInt8) (o : Option (List UInt8 × Bool)) : ByteArray × Bool × Bool := match o with | some p => (S (acc ++ p.1), p.2, true) | none => (S [], false, false)
theorem unqR_cons (acc : List UInt8) (c : UInt8) (o : Option (List UInt8 × Bool)) : unqR (acc ++ [c]) o = unqR acc (o.map fun p => (c :: p.1, p.2)) := by
  cases o with
  | none => rfl
  | some p => show (S _, _, _) = (S _, _, _); simp

theorem spec_unq_loop (l : List UInt8) (hl : l.length ≤ 1048576) : ∀ (e i : Nat) (acc : List UInt8), l.length ≤ i + e → i ≤ l.length → acc.length ≤ i →
    Ev (fun k => spec_l5Unquote.l0 k (S l) (NB acc) (i : Int)) (unqR acc (unq (l.drop i))) := by
  intro e
  induction e with
  | zero =>
    intro i acc hi hi2 _
    refine Ev.step (fun k => by rw [spec_l5Unquote.l0]) ?_
    simp only [size_S, NB_str]
    refine ev_neg (by omega) ?_
    rw [List.drop_of_length_le (by omega)]
    refine ev_is ?_
    show _ = some (S (acc ++ []), false, true)
    simp
  | succ e ih =>
    intro i acc hi hi2 ha
    refine Ev.step (fun k => by rw [spec_l5Unquote.l0]) ?_
    simp only [size_S, NB_str, NB_length, mk_S]
    by_cases hlt : i < l.length
    · have w1 : wrap64 ((i : Int) + 1) = ((i + 1 : Nat) : Int) := by rw [w64 (by omega) (by omega)]; omega
      have w2 : wrap64 ((i : Int) + 2) = ((i + 2 : Nat) : Int) := by rw [w64 (by omega) (by omega)]; omega
      have w3 : wrap64 (((i + 2 : Nat) : Int) + 1) = ((i + 3 : Nat) : Int) := by rw [w64 (by omega) (by omega)]; omega
      have hg : l.getD i 0 = l[i] := by rw [List.getD_eq_getElem?_getD, List.getElem?_eq_getElem hlt]; rfl
      simp only [w1, w2, bt_S, Int.toNat_natCast, hg]
      refine ev_pos (by omega) (ev_pos (by omega) ?_)
      by_cases c61 : (l[i].toNat : Int) = 61
      · refine ev_pos c61 ?_
        have c61' : l[i] = 61 := (u8_is (n := 61) (by omega)).1 c61
        by_cases h1 : ((i + 1 : Nat) : Int) = (l.length : Int)
        · refine ev_pos h1 ?_
          rw [drop_cons hlt, List.drop_of_length_le (by omega), c61']
          refine ev_is ?_
          show _ = some (S (acc ++ []), true, true)
          simp
        refine ev_neg h1 ?_
        have h1' : i + 1 < l.length := by omega
        by_cases h2 : ((i + 2 : Nat) : Int) ≥ (l.length : Int)
        · refine ev_pos h2 ?_
          rw [drop_cons hlt, drop_cons h1', List.drop_of_length_le (by omega), c61']
          refine Ev.step (fun k => by rw [spec_l5Unquote.j1]) ?_
          exact ev_pos rfl (Ev.now _)
        refine ev_neg h2 (ev_pos (by omega) (ev_pos (by omega) ?_))
        have h2' : i + 2 < l.length := by omega
        have hg1 : l.getD (i + 1) 0 = l[i + 1] := by rw [List.getD_eq_getElem?_getD, List.getElem?_eq_getElem h1']; rfl
        have hg2 : l.getD (i + 2) 0 = l[i + 2] := by rw [List.getD_eq_getElem?_getD, List.getElem?_eq_getElem h2']; rfl
        have bad : unq (l.drop i) = none → Ev (fun k => spec_l5Unquote.j1 k (S l) (NB acc) (i : Int) true) (unqR acc (unq (l.drop i))) := by
          intro h
          rw [h]
          refine Ev.step (fun k => by rw [spec_l5Unquote.j1]) ?_
          exact ev_pos rfl (Ev.now _)
        have shape : l.drop i = 61 :: l[i + 1] :: l[i + 2] :: l.drop (i + 3) := by rw [drop_cons hlt, drop_cons h1', drop_cons h2', c61']
        simp only [hg1, hg2]
        refine Ev.bind (spec_value l[i + 1]) ?_
        cases hx : hexv l[i + 1] with
        | none =>
          refine ev_pos (by rw [hv_none hx]; omega) (bad ?_)
          rw [shape, unq, if_pos (by decide), hx]
        | some x =>
          have hx' := hexv_lt hx
          refine ev_neg (by rw [hv_some hx]; omega) (ev_pos (by omega) (ev_pos (by omega) ?_))
          refine Ev.bind (spec_value l[i + 2]) ?_
          cases hy : hexv l[i + 2] with
          | none =>
            have : decide (hv l[i + 2] < 0) = true := by rw [hv_none hy]; rfl
            rw [this]
            refine bad ?_
            rw [shape, unq, if_pos (by decide), hx, hy]
          | some y =>
            have hy' := hexv_lt hy
            have : decide (hv l[i + 2] < 0) = false := by rw [hv_some hy, decide_eq_false_iff_not]; omega
            rw [this]
            refine Ev.step (fun k => by rw [spec_l5Unquote.j1]) ?_
            simp only [size_S, w1, w2, w3, bt_S, Int.toNat_natCast, hg1, hg2, NB_length]
            refine ev_neg (by decide) (ev_pos (by omega) (ev_pos (by omega) ?_))
            refine Ev.bind (spec_value l[i + 1]) (ev_pos (by omega) (ev_pos (by omega) ?_))
            refine Ev.bind (spec_value l[i + 2]) (ev_pos (by omega) ?_)
            rw [hv_some hx, hv_some hy, hex_val hx' hy', NB_snoc, shape, unq_hex hx hy, ← unqR_cons]
            exact ih (i + 3) _ (by omega) (by omega) (by simp; omega)
      · refine ev_neg c61 ?_
        by_cases hp : 32 ≤ l[i].toNat ∧ l[i].toNat ≤ 126
        · refine ev_neg (by omega) (ev_neg (by omega) (ev_pos (by omega) ?_))
          rw [NB_snoc, drop_cons hlt, unq_plain (by omega) hp.1 hp.2, ← unqR_cons]
          exact ih (i + 1) _ (by omega) (by omega) (by simp; omega)
        · rw [drop_cons hlt, unq_bad (by omega) hp]
          by_cases h3 : (l[i].toNat : Int) < 32
          · exact ev_pos h3 (Ev.now _)
          · exact ev_neg h3 (ev_pos (by omega) (Ev.now _))
    · refine ev_neg (by omega) ?_
      rw [List.drop_of_length_le (by omega)]
      refine ev_is ?_
      show _ = some (S (acc ++ []), false, true)
      simp

theorem spec_unq (l : List UInt8) (hl : l.length ≤ 1048576) : Ev (fun k => spec_l5Unquote.f k (S l)) (unqR [] (unq l)) := by
  simp only [spec_l5Unquote.f, NB_nil]
  have := spec_unq_loop l hl l.length 0 [] (by omega) (by omega) (by simp)
  rwa [List.drop_zero] at this

/-- What comes of bytes that are there and bytes to come. -/
def finR (acc : List UInt8) (o : Option (List UInt8)) : ByteArray × Bool := match o with
  | some t => if (acc ++ t).length ≤ 300 then (S (acc ++ t), true) else (S [], false)
  | none => (S [], false)
theorem finR_dec (ls : List (List UInt8)) : finR [] (decL ls true) = decR ls := rfl
theorem finR_app (acc s : List UInt8) (o : Option (List UInt8)) : finR (acc ++ s) o = finR acc (o.map fun t => s ++ t) := by
  cases o with
  | none => rfl
  | some t =>
    unfold finR
    simp only [Option.map_some, List.append_assoc]
theorem finR_long (acc : List UInt8) (o : Option (List UInt8)) (h : acc.length > 300) : finR acc o = (S [], false) := by
  cases o with
  | none => rfl
  | some t =>
    unfold finR
    exact if_neg (by rw [List.length_append]; omega)
theorem decL_none {l : List UInt8} {ls : List (List UInt8)} {b : Bool} (h : unq l = none) : decL (l :: ls) b = none := by
  unfold decL
  rw [h]
theorem decL_some {l s : List UInt8} {g : Bool} {ls : List (List UInt8)} (h : unq l = some (s, g)) : decL (l :: ls) true = (decL ls g).map fun t => s ++ t := by
  rw [decL, h]
  rfl
theorem unq_length : ∀ (n : Nat) (l s : List UInt8) (g : Bool), l.length ≤ n → unq l = some (s, g) → s.length ≤ l.length := by
  intro n
  induction n with
  | zero =>
    intro l s g hl h
    match l, hl with
    | [], _ =>
      have h1 : [] = s := congrArg Prod.fst (Option.some.inj h)
      rw [← h1]
      exact Nat.le_refl _
  | succ n ih =>
    intro l s g hl h
    have out : ∀ (c : UInt8) (r : List UInt8), r.length ≤ n → (unq r).map (fun p => (c :: p.1, p.2)) = some (s, g) → s.length ≤ r.length + 1 := by
      intro c r hr h
      cases hq : unq r with
      | none => rw [hq] at h; cases h
      | some p =>
        rw [hq] at h
        have h1 : c :: p.1 = s := congrArg Prod.fst (Option.some.inj h)
        have := ih r p.1 p.2 hr hq
        rw [← h1]
        show p.1.length + 1 ≤ _
        omega
    match l, hl with
    | [], _ =>
      have h1 : [] = s := congrArg Prod.fst (Option.some.inj h)
      rw [← h1]
      exact Nat.le_refl _
    | [c], hl =>
      by_cases c61 : c.toNat = 61
      · rw [unq, if_pos c61] at h
        have h1 : [] = s := congrArg Prod.fst (Option.some.inj h)
        rw [← h1]
        exact Nat.zero_le _
      · by_cases hp : 32 ≤ c.toNat ∧ c.toNat ≤ 126
        · rw [unq_plain c61 hp.1 hp.2] at h
          exact out c [] (Nat.zero_le _) h
        · rw [unq_bad c61 hp] at h
          cases h
    | [c, d], hl =>
      by_cases c61 : c.toNat = 61
      · rw [unq, if_pos c61] at h
        cases h
      · by_cases hp : 32 ≤ c.toNat ∧ c.toNat ≤ 126
        · rw [unq_plain c61 hp.1 hp.2] at h
          exact out c [d] (by simp at hl ⊢; omega) h
        · rw [unq_bad c61 hp] at h
          cases h
    | c :: d :: e :: r, hl =>
      by_cases c61 : c.toNat = 61
      · rw [unq, if_pos c61] at h
        cases hx : hexv d with
        | none => rw [hx] at h; cases h
        | some x =>
          cases hy : hexv e with
          | none => rw [hx, hy] at h; cases h
          | some y =>
            rw [hx, hy] at h
            have := out _ r (by simp at hl; omega) h
            simp
            omega
      · by_cases hp : 32 ≤ c.toNat ∧ c.toNat ≤ 126
        · rw [unq_plain c61 hp.1 hp.2] at h
          exact out c (d :: e :: r) (by simp at hl ⊢; omega) h
        · rw [unq_bad c61 hp] at h
          cases h
theorem S10 : (⟨#[10]⟩ : ByteArray) = S [10] := rfl
theorem S0 : (⟨#[]⟩ : ByteArray) = S [] := rfl

theorem spec_decq_loop (ls : List (List UInt8)) (hn : ls.length ≤ 1048576) (hb : ∀ l ∈ ls, l.length ≤ 1048576) : ∀ (e i : Nat) (acc : List UInt8), ls.length ≤ i + e → i < ls.length → acc.length ≤ 300 →
    Ev (fun k => spec_DecodeQuoted.l0 k (SL ls) (S acc) (i : Int)) (finR acc (decL (ls.drop i) true)) := by
  intro e
  induction e with
  | zero => intro i acc h1 h2; omega
  | succ e ih =>
    intro i acc hi hlt ha
    have hli := hb ls[i] (List.getElem_mem hlt)
    have w1 : wrap64 ((i : Int) + 1) = ((i + 1 : Nat) : Int) := by rw [w64 (by omega) (by omega)]; omega
    refine Ev.step (fun k => by rw [spec_DecodeQuoted.l0]) ?_
    simp only [SL_length, rdOf_SL _ ls i hlt, w1]
    refine ev_pos (by omega) (ev_pos (by omega) (Ev.bind (spec_unq ls[i] hli) ?_))
    rw [List.drop_eq_getElem_cons hlt]
    cases hq : unq ls[i] with
    | none =>
      rw [decL_none hq]
      refine ev_neg (by simp [unqR]) ?_
      refine Ev.step (fun k => by rw [spec_DecodeQuoted.j1]) ?_
      exact ev_pos rfl (Ev.now _)
    | some p =>
      obtain ⟨s, g⟩ := p
      have hs := unq_length _ _ _ _ (Nat.le_refl _) hq
      rw [decL_some hq, ← finR_app]
      have e1 : unqR [] (some (s, g)) = (S s, g, true) := rfl
      simp only [e1]
      refine ev_pos trivial ?_
      have body : Ev (fun k => spec_DecodeQuoted.j1 k (SL ls) (S acc) (i : Int) (S s) g (((i + 1 : Nat) : Int) == (ls.length : Int)) (g && (((i + 1 : Nat) : Int) == (ls.length : Int)))) (finR (acc ++ s) (decL (ls.drop (i + 1)) g)) := by
        refine Ev.step (fun k => by rw [spec_DecodeQuoted.j1]) ?_
        simp only [size_S, append_S, S0]
        by_cases hlast : i + 1 = ls.length
        · have hz : (((i + 1 : Nat) : Int) == (ls.length : Int)) = true := by rw [hlast]; simp
          rw [hz, List.drop_of_length_le (by omega)]
          cases g with
          | true => exact ev_pos rfl (Ev.now _)
          | false =>
            refine ev_neg (by decide) (ev_pos (by omega) (ev_neg (by decide) ?_))
            refine Ev.step (fun k => by rw [spec_DecodeQuoted.j2]) ?_
            simp only [size_S, S0, w1]
            refine ev_neg (by decide) ?_
            by_cases h3 : (acc ++ s).length ≤ 300
            · refine ev_neg (by omega) ?_
              refine Ev.step (fun k => by rw [spec_DecodeQuoted.l0]) ?_
              simp only [SL_length]
              refine ev_neg (by omega) (ev_is ?_)
              have : finR (acc ++ s) (decL [] false) = (S (acc ++ s), true) := by
                show finR (acc ++ s) (some []) = _
                unfold finR
                simp only [List.append_nil]
                exact if_pos h3
              rw [this, decide_eq_true (by omega)]
            · refine ev_pos (by omega) (ev_eq (finR_long _ _ (by omega)) (Ev.now _))
        · have hz : (((i + 1 : Nat) : Int) == (ls.length : Int)) = false := by
            rw [beq_eq_false_iff_ne]
            omega
          have hlt1 : i + 1 < ls.length := by omega
          rw [hz]
          cases g with
          | true =>
            refine ev_neg (by decide) (ev_pos (by omega) (ev_pos rfl ?_))
            refine Ev.step (fun k => by rw [spec_DecodeQuoted.j2]) ?_
            simp only [size_S, S0, w1]
            refine ev_neg (by decide) ?_
            by_cases h3 : (acc ++ s).length ≤ 300
            · refine ev_neg (by omega) ?_
              exact ih (i + 1) (acc ++ s) (by omega) hlt1 h3
            · refine ev_pos (by omega) (ev_eq (finR_long _ _ (by omega)) (Ev.now _))
          | false =>
            refine ev_neg (by decide) (ev_pos (by omega) (ev_neg (by decide) ?_))
            have e2 : finR (acc ++ s) (decL (ls.drop (i + 1)) false) = finR (acc ++ s ++ [10]) (decL (ls.drop (i + 1)) true) := by
              rw [finR_app (acc ++ s), List.drop_eq_getElem_cons hlt1, decL_hard]
            rw [e2]
            refine Ev.step (fun k => by rw [spec_DecodeQuoted.j2]) ?_
            simp only [size_S, S0, S10, append_S, w1]
            refine ev_pos rfl (ev_pos (by simp; omega) ?_)
            by_cases h3 : (acc ++ s ++ [10]).length ≤ 300
            · refine ev_neg (by omega) ?_
              exact ih (i + 1) _ (by omega) hlt1 h3
            · refine ev_pos (by omega) (ev_eq (finR_long _ _ (by omega)) (Ev.now _))
      cases g with
      | true => exact ev_pos rfl body
      | false => exact ev_neg (by decide) body

theorem spec_decq (ls : List (List UInt8)) (hn : ls.length ≤ 1048576) (hb : ∀ l ∈ ls, l.length ≤ 1048576) : Ev (fun k => spec_DecodeQuoted.f k (SL ls)) (decR ls) := by
  simp only [spec_DecodeQuoted.f, S0]
  by_cases h : ls.length = 0
  · have : ls = [] := List.eq_nil_of_length_eq_zero h
    rw [this]
    refine Ev.step (fun k => by rw [spec_DecodeQuoted.l0]) ?_
    exact ev_neg (by decide) (Ev.now _)
  · have := spec_decq_loop ls hn hb ls.length 0 [] (by omega) (by omega) (by simp)
    rwa [List.drop_zero] at this

def hexs : List UInt8 := [48, 49, 50, 51, 52, 53, 54, 55, 56, 57, 65, 66, 67, 68, 69, 70]
theorem hexs_S : (⟨#[48, 49, 50, 51, 52, 53, 54, 55, 56, 57, 65, 66, 67, 68, 69, 70]⟩ : ByteArray) = S hexs := rfl
theorem hexs_index (c : UInt8) : Lib.indexByte hexs c = hv c := by
  have h : ∀ n : Fin 256, Lib.indexByte hexs (UInt8.ofNat n.val) = hv (UInt8.ofNat n.val) := by decide +kernel
  have := h ⟨c.toNat, c.toNat_lt⟩
  have e : UInt8.ofNat c.toNat = c := by simp
  rw [e] at this
  exact this
theorem index_hex (c : UInt8) : strings_IndexByte.f (S hexs) (c.toNat : Int) = some (hv c) := by
  unfold strings_IndexByte.f
  have e : ((c.toNat : Int)).toNat.toUInt8 = c := by simp
  rw [data_S, e, hexs_index]

/-- What the program has of an escape at the head of bytes. -/
def hexO (l : List UInt8) : Option (UInt8 × List UInt8) := match l with
  | c :: d :: e :: r => if c.toNat = 61 then (match hexv d, hexv e with | some x, some y => some (UInt8.ofNat (16 * x + y), r) | _, _ => none) else none
  | _ => none
theorem impl_hexof (l : List UInt8) : ∃ n ok, Ev (fun k => impl_hexOf.f k (S l)) (n, ok) ∧ (∀ b r, hexO l = some (b, r) → ok = true ∧ n = (b.toNat : Int)) ∧ (hexO l = none → ok = false) := by
  simp only [impl_hexOf.f, size_S]
  have j0 : ∀ l, Ev (fun k => impl_hexOf.j0 k (S l) true) (0, false) := by
    intro l
    refine Ev.step (fun k => by rw [impl_hexOf.j0]) ?_
    exact ev_pos rfl (Ev.now _)
  match l with
  | [] => exact ⟨0, false, ev_pos (by decide) (j0 _), fun b r h => (by cases h), fun _ => rfl⟩
  | [c] => exact ⟨0, false, ev_pos (by simp) (j0 _), fun b r h => (by cases h), fun _ => rfl⟩
  | [c, d] => exact ⟨0, false, ev_pos (by simp) (j0 _), fun b r h => (by cases h), fun _ => rfl⟩
  | c :: d :: e :: r =>
    have hc : bt (S (c :: d :: e :: r)) 0 = (c.toNat : Int) := by rw [bt_S]; rfl
    have hd : bt (S (c :: d :: e :: r)) 1 = (d.toNat : Int) := by rw [bt_S]; rfl
    have he : bt (S (c :: d :: e :: r)) 2 = (e.toNat : Int) := by rw [bt_S]; rfl
    have hlen : ((c :: d :: e :: r).length : Int) = r.length + 3 := by simp; omega
    simp only [hc, hlen]
    by_cases c61 : c.toNat = 61
    · have hz : ((c.toNat : Int) != 61) = false := by rw [c61]; rfl
      rw [hz]
      have body : ∀ v ok, v = (wrap64 ((wrap64 (16 * hv d)) + hv e)) % 256 → ok = (decide (0 ≤ hv d) && decide (0 ≤ hv e)) → Ev (fun k => impl_hexOf.j0 k (S (c :: d :: e :: r)) false) (v, ok) := by
        intro v ok hv' hok
        refine Ev.step (fun k => by rw [impl_hexOf.j0]) ?_
        simp only [size_S, hexs_S, hd, he, hlen]
        refine ev_neg (by decide) (ev_pos (by omega) ?_)
        refine ev_bind0 (index_hex d) (ev_pos (by omega) ?_)
        refine ev_bind0 (index_hex e) ?_
        rw [hv', hok]
        by_cases h : hv d ≥ 0
        · refine ev_pos h (ev_is ?_)
          rw [decide_eq_true (show 0 ≤ hv d from h), Bool.true_and]
        · refine ev_neg h (ev_is ?_)
          rw [decide_eq_false (show ¬ 0 ≤ hv d from h), Bool.false_and]
      refine ⟨_, _, ev_neg (by omega) (ev_pos (by omega) (body _ _ rfl rfl)), ?_, ?_⟩
      · intro b r' h
        rw [hexO, if_pos c61] at h
        cases hx : hexv d with
        | none => rw [hx] at h; cases h
        | some x =>
          cases hy : hexv e with
          | none => rw [hx, hy] at h; cases h
          | some y =>
            rw [hx, hy] at h
            have h1 : UInt8.ofNat (16 * x + y) = b := congrArg Prod.fst (Option.some.inj h)
            rw [hv_some hx, hv_some hy, ← h1, hex_val (hexv_lt hx) (hexv_lt hy)]
            exact ⟨by simp, rfl⟩
      · intro h
        rw [hexO, if_pos c61] at h
        cases hx : hexv d with
        | none => rw [hv_none hx]; rfl
        | some x =>
          cases hy : hexv e with
          | none => rw [hv_none hy]; simp
          | some y => rw [hx, hy] at h; cases h
    · have hz : ((c.toNat : Int) != 61) = true := by
        rw [bne_iff_ne]
        omega
      rw [hz]
      refine ⟨0, false, ev_neg (by omega) (ev_pos (by omega) (j0 _)), ?_, fun _ => rfl⟩
      intro b r' h
      rw [hexO, if_neg c61] at h
      cases h


theorem unq_hexO {l : List UInt8} (h61 : l.head? = some 61) (h2 : 2 ≤ l.length) : unq l = match hexO l with
    | some (b, r) => (unq r).map fun p => (b :: p.1, p.2)
    | none => none := by
  match l, h61, h2 with
  | [c, d], h, _ =>
    have : c = 61 := Option.some.inj h
    subst this
    rfl
  | c :: d :: e :: r, h, _ =>
    have : c = 61 := Option.some.inj h
    subst this
    rw [unq, if_pos (by decide), hexO, if_pos (by decide)]
    cases hexv d with
    | none => rfl
    | some x => cases hexv e <;> rfl
theorem hexO_drop {l r : List UInt8} {b : UInt8} (h : hexO l = some (b, r)) : 3 ≤ l.length ∧ r = l.drop 3 := by
  match l with
  | [] => cases h
  | [_] => cases h
  | [_, _] => cases h
  | c :: d :: e :: t =>
    refine ⟨by simp, ?_⟩
    by_cases c61 : c.toNat = 61
    · rw [hexO, if_pos c61] at h
      cases hx : hexv d with
      | none => rw [hx] at h; cases h
      | some x =>
        cases hy : hexv e with
        | none => rw [hx, hy] at h; cases h
        | some y =>
          rw [hx, hy] at h
          have h1 : t = r := congrArg Prod.snd (Option.some.inj h)
          exact h1.symm
    · rw [hexO, if_neg c61] at h
      cases h

theorem impl_line (l : List UInt8) (L : List ByteArray) (n i : Int) (R : ByteArray × Bool) (hl : l.length ≤ 1048576) : ∀ (e j : Nat) (acc : List UInt8), l.length ≤ j + e → j ≤ l.length → acc.length ≤ 2000000000000 + j →
    (∀ s g, unq (l.drop j) = some (s, g) → Ev (fun k => impl_DecodeQuoted.l0 k (NB (acc ++ s)) g L n (wrap64 (i + 1))) R) → (unq (l.drop j) = none → R = (S [], false)) →
    Ev (fun k => impl_DecodeQuoted.l1 k (NB acc) false (S l) (j : Int) L n i) R := by
  intro e
  induction e with
  | zero =>
    intro j acc hj hj2 _ h1 h2
    refine Ev.step (fun k => by rw [impl_DecodeQuoted.l1]) ?_
    simp only [size_S]
    refine ev_neg (by omega) ?_
    rw [List.drop_of_length_le (by omega)] at h1
    have := h1 [] false rfl
    rwa [List.append_nil] at this
  | succ e ih =>
    intro j acc hj hj2 ha h1 h2
    by_cases hlt : j < l.length
    · have hg : l.getD j 0 = l[j] := by rw [List.getD_eq_getElem?_getD, List.getElem?_eq_getElem hlt]; rfl
      have w1 : wrap64 ((j : Int) + 1) = ((j + 1 : Nat) : Int) := by rw [w64 (by omega) (by omega)]; omega
      have w2 : wrap64 ((j : Int) + 2) = ((j + 2 : Nat) : Int) := by rw [w64 (by omega) (by omega)]; omega
      have w3 : wrap64 (((j + 2 : Nat) : Int) + 1) = ((j + 3 : Nat) : Int) := by rw [w64 (by omega) (by omega)]; omega
      refine Ev.step (fun k => by rw [impl_DecodeQuoted.l1]) ?_
      simp only [size_S, w1, bt_S, Int.toNat_natCast, hg]
      refine ev_pos (by omega) (ev_pos (by omega) ?_)
      by_cases c61 : (l[j].toNat : Int) = 61
      · refine ev_pos c61 ?_
        have c61' : l[j] = 61 := (u8_is (n := 61) (by omega)).1 c61
        refine Ev.step (fun k => by rw [impl_DecodeQuoted.j3]) ?_
        by_cases hend : j + 1 = l.length
        · have hz : (((j + 1 : Nat) : Int) == (l.length : Int)) = true := by rw [hend]; simp
          rw [hz]
          refine ev_pos rfl ?_
          simp only [w1]
          refine Ev.step (fun k => by rw [impl_DecodeQuoted.l1]) ?_
          simp only [size_S]
          refine ev_neg (by omega) ?_
          rw [drop_cons hlt, List.drop_of_length_le (by omega), c61'] at h1
          have := h1 [] true rfl
          rwa [List.append_nil] at this
        · have hz : (((j + 1 : Nat) : Int) == (l.length : Int)) = false := by
            rw [beq_eq_false_iff_ne]
            omega
          rw [hz]
          simp only [size_S, bt_S, Int.toNat_natCast, hg, w1, w2, w3, extract_S, NB_length, S0]
          refine ev_neg (by decide) (ev_pos (by omega) (ev_pos (by omega) (ev_pos c61 (ev_pos (by omega) ?_))))
          have hx : (l.drop j).take (l.length - j) = l.drop j := List.take_of_length_le (by rw [List.length_drop]; omega)
          rw [hx]
          have hu := unq_hexO (l := l.drop j) (by rw [drop_cons hlt, c61']; rfl) (by rw [List.length_drop]; omega)
          obtain ⟨v, ok, hev, hs, hno⟩ := impl_hexof (l.drop j)
          refine Ev.bind hev ?_
          cases ho : hexO (l.drop j) with
          | none =>
            rw [ho] at hu
            rw [hno ho]
            exact ev_neg (by simp) (ev_is (by rw [h2 hu]))
          | some p =>
            obtain ⟨b, r⟩ := p
            rw [ho] at hu
            obtain ⟨k1, k2⟩ := hs b r ho
            obtain ⟨k3, k4⟩ := hexO_drop ho
            rw [List.length_drop] at k3
            rw [List.drop_drop] at k4
            rw [k1, k2, NB_snoc]
            simp only at hu
            refine ev_pos rfl (ev_pos (by omega) ?_)
            refine ih (j + 3) (acc ++ [b]) (by omega) (by omega) (by simp; omega) ?_ ?_
            · intro s g hsg
              rw [k4, hsg] at hu
              have := h1 (b :: s) g hu
              simpa using this
            · intro hno'
              rw [k4, hno'] at hu
              exact h2 hu
      · refine ev_neg c61 ?_
        refine Ev.step (fun k => by rw [impl_DecodeQuoted.j3]) ?_
        simp only [size_S, bt_S, Int.toNat_natCast, hg, w1, NB_length, S0]
        refine ev_neg (by decide) (ev_pos (by omega) (ev_pos (by omega) (ev_neg c61 ?_)))
        by_cases hp : 32 ≤ l[j].toNat ∧ l[j].toNat ≤ 126
        · have hu := unq_plain (c := l[j]) (r := l.drop (j + 1)) (by omega) hp.1 hp.2
          rw [← drop_cons hlt] at hu
          refine ev_pos (by omega) (ev_pos (by omega) (ev_pos (by omega) ?_))
          rw [NB_snoc]
          refine ih (j + 1) (acc ++ [l[j]]) (by omega) (by omega) (by simp; omega) ?_ ?_
          · intro s g hsg
            rw [hsg] at hu
            have := h1 (l[j] :: s) g hu
            simpa using this
          · intro hno'
            rw [hno'] at hu
            exact h2 hu
        · have hu := unq_bad (c := l[j]) (r := l.drop (j + 1)) (by omega) hp
          rw [← drop_cons hlt] at hu
          rw [h2 hu]
          by_cases h3 : (l[j].toNat : Int) ≥ 32
          · exact ev_pos h3 (ev_neg (by omega) (Ev.now _))
          · exact ev_neg h3 (Ev.now _)
    · refine Ev.step (fun k => by rw [impl_DecodeQuoted.l1]) ?_
      simp only [size_S]
      refine ev_neg (by omega) ?_
      rw [List.drop_of_length_le (by omega)] at h1
      have := h1 [] false rfl
      rwa [List.append_nil] at this

theorem big (a i n : Nat) (h : a ≤ i * 1048577 + 1) (h1 : i < n) (h2 : n ≤ 1048576) : a ≤ 2000000000000 + 0 := by omega
theorem impl_decq_loop (ls : List (List UInt8)) (hn : ls.length ≤ 1048576) (hb : ∀ l ∈ ls, l.length ≤ 1048576) : ∀ (e i : Nat) (acc : List UInt8) (goes : Bool), i + e = ls.length → acc.length ≤ i * 1048577 →
    Ev (fun k => impl_DecodeQuoted.l0 k (NB acc) goes (SL ls) (ls.length : Int) (i : Int)) (finR acc (decL (ls.drop i) goes)) := by
  intro e
  induction e with
  | zero =>
    intro i acc goes hi ha
    refine Ev.step (fun k => by rw [impl_DecodeQuoted.l0]) ?_
    simp only [NB_length, NB_str, S0]
    rw [List.drop_of_length_le (by omega)]
    refine ev_neg (by omega) ?_
    cases goes with
    | true => exact ev_pos rfl (Ev.now _)
    | false =>
      refine ev_neg (by decide) ?_
      by_cases h3 : acc.length ≤ 300
      · refine ev_neg (by omega) (ev_is ?_)
        show _ = some (finR acc (some []))
        unfold finR
        simp only [List.append_nil]
        rw [if_pos h3]
      · exact ev_pos (by omega) (ev_eq (finR_long _ _ (by omega)) (Ev.now _))
  | succ e ih =>
    intro i acc goes hi ha
    have hlt : i < ls.length := by omega
    have hli := hb ls[i] (List.getElem_mem hlt)
    have w1 : wrap64 ((i : Int) + 1) = ((i + 1 : Nat) : Int) := by rw [w64 (by omega) (by omega)]; omega
    have line : ∀ acc' : List UInt8, acc'.length ≤ i * 1048577 + 1 → Ev (fun k => impl_DecodeQuoted.j1 k (NB acc') (S ls[i]) (SL ls) (ls.length : Int) (i : Int)) (finR acc' (decL (ls.drop i) true)) := by
      intro acc' ha'
      refine Ev.step (fun k => by rw [impl_DecodeQuoted.j1]) ?_
      rw [List.drop_eq_getElem_cons hlt]
      refine impl_line ls[i] (SL ls) (ls.length : Int) (i : Int) _ hli ls[i].length 0 acc' (by omega) (by omega) (big _ _ _ ha' hlt hn) ?_ ?_
      · intro s g h
        rw [List.drop_zero] at h
        have := unq_length _ _ _ _ (Nat.le_refl _) h
        rw [decL_some h, ← finR_app, w1]
        exact ih (i + 1) (acc' ++ s) g (by omega) (by rw [List.length_append]; omega)
      · intro h
        rw [List.drop_zero] at h
        rw [decL_none h]
        rfl
    refine Ev.step (fun k => by rw [impl_DecodeQuoted.l0]) ?_
    simp only [SL_length, rdOf_SL _ ls i hlt, NB_length]
    refine ev_pos (by omega) (ev_pos (by omega) (ev_pos (by omega) ?_))
    cases goes with
    | true => exact ev_pos rfl (line acc (Nat.le_succ_of_le ha))
    | false =>
      refine ev_neg (by decide) (ev_pos (by omega) ?_)
      have e1 : NB acc ++ [10] = NB (acc ++ [10]) := NB_snoc acc 10
      have e2 : finR acc (decL (ls.drop i) false) = finR (acc ++ [10]) (decL (ls.drop i) true) := by
        rw [finR_app acc, List.drop_eq_getElem_cons hlt, decL_hard]
      rw [e1, e2]
      exact line _ (by rw [List.length_append]; exact Nat.succ_le_succ ha)

theorem impl_decq (ls : List (List UInt8)) (hn : ls.length ≤ 1048576) (hb : ∀ l ∈ ls, l.length ≤ 1048576) : Ev (fun k => impl_DecodeQuoted.f k (SL ls)) (decR ls) := by
  simp only [impl_DecodeQuoted.f, NB_nil, SL_length]
  have := impl_decq_loop ls hn hb ls.length 0 [] true (by omega) (by simp)
  rwa [List.drop_zero] at this

theorem drawdecq_ex (l : List Int) (h : Bytes l) : ∃ ls, ls.length ≤ 301 ∧ (∀ l ∈ ls, l.length ≤ 1000) ∧ Ev (fun k => spec_DrawDecodeQuoted.f k l) (SL ls) := by
  obtain ⟨b, hb, h1, h2⟩ := open_ex l h
  obtain ⟨t, q, _, hq0, hq1, h3⟩ := l5draw_ex b 0 h1 h2 (by omega) (by omega)
  obtain ⟨c, rfl⟩ := ex_S t
  have hQ := spec_quot c
  obtain ⟨ls, e, hn, hw⟩ := quotR_width c
  by_cases h0 : ls.length = 0
  · refine ⟨ls, hn, fun l hl => by have := hw l hl; omega, ?_⟩
    simp only [spec_DrawDecodeQuoted.f, hb, Option.bind_some]
    refine Ev.bind h3 (Ev.bind hQ ?_)
    rw [e, SL_length]
    exact ev_neg (by omega) (Ev.now _)
  · obtain ⟨r, r0, r1, e2⟩ := pick_ev b q (ls.length : Int) h1 h2 hq0 (by omega) (by omega)
    obtain ⟨i, rfl⟩ := Int.eq_ofNat_of_zero_le r0
    have hi : i < ls.length := by omega
    have hwi := hw ls[i] (List.getElem_mem hi)
    obtain ⟨t, q2, ht, _, _, e3⟩ := bend_ex b (q + 1) (S ls[i]) ([(⟨#[]⟩ : ByteArray), (⟨#[61]⟩ : ByteArray), (⟨#[61, 52]⟩ : ByteArray), (⟨#[61, 52, 49]⟩ : ByteArray), (⟨#[97]⟩ : ByteArray), (⟨#[1]⟩ : ByteArray)] : List ByteArray) h1 h2 (by omega) (by omega) (by simp) (by
      intro x hx
      simp only [List.mem_cons, List.not_mem_nil, or_false] at hx
      rcases hx with rfl | rfl | rfl | rfl | rfl | rfl <;> decide) (by rw [size_S]; omega)
    obtain ⟨u, rfl⟩ := ex_S t
    rw [size_S, size_S] at ht
    refine ⟨ls.set i u, by rw [List.length_set]; exact hn, ?_, ?_⟩
    · intro l hl
      rcases List.mem_or_eq_of_mem_set hl with hl | rfl
      · have := hw l hl
        omega
      · omega
    · simp only [spec_DrawDecodeQuoted.f, hb, Option.bind_some]
      refine Ev.bind h3 (Ev.bind hQ ?_)
      rw [e, SL_length]
      refine ev_pos (by omega) (Ev.bind e2 ?_)
      refine ev_pos (by omega) (ev_pos (by omega) ?_)
      rw [rdOf_SL _ ls i hi]
      refine Ev.bind e3 (ev_is ?_)
      rw [Int.toNat_natCast, SL_set]

theorem qb_end (l1 : List Int) (hw : Bytes l1) : Ev (fun k => (spec_DrawDecodeQuoted.f k l1).bind fun t => ((impl_DecodeQuoted.f k t).bind fun x => ((spec_DecodeQuoted.f k t).bind fun y => (if x.1.toList = y.1.toList then (some (x.2 == y.2)) else (some false))))) true := by
  obtain ⟨ls, hn, hb, hd⟩ := drawdecq_ex l1 hw
  have b1 : ∀ l ∈ ls, l.length ≤ 1048576 := fun l hl => by have := hb l hl; omega
  refine Ev.bind hd (Ev.bind (impl_decq ls (by omega) b1) (Ev.bind (spec_decq ls (by omega) b1) (ev_pos rfl (ev_is (by simp)))))

theorem qb_lines (l1 : List Int) (b : ByteArray) (ok : Bool) (ls : List (List UInt8)) (hn : ls.length ≤ 301) (hw : ∀ l ∈ ls, l.length ≤ 40) (hp : ∀ l ∈ ls, ∀ d ∈ l, 32 ≤ d.toNat ∧ d.toNat ≤ 126)
    (H : Ev (fun k => if ok = true then ((impl_DecodeQuoted.f k (SL ls)).bind fun x => (if x.2 = true then (laws_FnQuotedBytes.j3 k l1 (x.1.toList != b.toList)) else (laws_FnQuotedBytes.j3 k l1 true))) else ((spec_DrawDecodeQuoted.f k l1).bind fun t => ((impl_DecodeQuoted.f k t).bind fun x => ((spec_DecodeQuoted.f k t).bind fun y => (if x.1.toList = y.1.toList then (some (x.2 == y.2)) else (some false)))))) true) :
    ∀ e i : Nat, i + e = ls.length → Ev (fun k => laws_FnQuotedBytes.l0 k l1 b (SL ls) ok (i : Int)) true := by
  intro e
  induction e with
  | zero =>
    intro i hi
    refine Ev.step (fun k => by rw [laws_FnQuotedBytes.l0]) ?_
    rw [SL_length]
    exact ev_neg (by omega) H
  | succ e ih =>
    intro i hi
    have hlt : i < ls.length := by omega
    have w1 : wrap64 ((i : Int) + 1) = ((i + 1 : Nat) : Int) := by rw [w64 (by omega) (by omega)]; omega
    have h1 := hw ls[i] (List.getElem_mem hlt)
    have h2 := hp ls[i] (List.getElem_mem hlt)
    refine Ev.step (fun k => by rw [laws_FnQuotedBytes.l0]) ?_
    rw [SL_length, rdOf_SL _ ls i hlt, size_S, w1]
    refine ev_pos (by omega) (ev_pos (by omega) (ev_neg (by omega) (Ev.bind (impl_text_ok ls[i] (by omega) h2) (ev_pos rfl (ih (i + 1) (by omega))))))

theorem FnQuotedBytes : laws_FnQuotedBytes.Pure := by
  intro l0 l1 _ _ hw0 _ _ hw1
  refine Ev.rounds ?_
  simp only [laws_FnQuotedBytes.f]
  have hT : Ev (fun k => laws_FnQuotedBytes.j0 k l0 l1 true) true := by
    refine Ev.step (fun k => by rw [laws_FnQuotedBytes.j0]) ?_
    exact ev_pos rfl (Ev.now _)
  by_cases hl : (l0.length : Int) > 1048576
  · exact ev_pos hl hT
  refine ev_neg hl ?_
  by_cases hl1 : (l1.length : Int) > 1048576
  · rw [decide_eq_true hl1]
    exact hT
  rw [decide_eq_false hl1]
  refine Ev.step (fun k => by rw [laws_FnQuotedBytes.j0]) ?_
  refine ev_neg (by decide) ?_
  obtain ⟨t, hd⟩ := drawquot_ex l0 (bytes_wf hw0)
  obtain ⟨b, rfl⟩ := ex_S t
  have hlen := quotR_length b
  refine Ev.bind hd (Ev.bind (impl_quot b) (Ev.bind (spec_quot b) (Ev.bind (texts_self (quotR b).1 (by omega)) (ev_pos rfl ?_))))
  have e0 : ((quotR b).2 != (quotR b).2) = false := by simp
  rw [e0]
  refine Ev.step (fun k => by rw [laws_FnQuotedBytes.j1]) ?_
  refine ev_neg (by decide) ?_
  by_cases ok : b.length > 300
  · have e : quotR b = (SL [], false) := by unfold quotR; rw [if_pos ok]; rfl
    rw [e]
    refine qb_lines l1 (S b) false [] (by simp) (by simp) (by simp) ?_ 0 0 rfl
    exact ev_neg (by decide) (qb_end l1 (bytes_wf hw1))
  · have e : quotR b = (SL (encQ b []), true) := by unfold quotR; rw [if_neg ok]
    have hw := encQ_width b [] (by simp)
    have hL := encQ_length b []
    have hD := impl_decq (encQ b []) (by omega) (fun l hl => by have := hw l hl; omega)
    rw [decR_some (decL_quot b) (by omega)] at hD
    rw [e]
    refine qb_lines l1 (S b) true (encQ b []) (by omega) hw (encQ_print b [] (by simp)) ?_ (encQ b []).length 0 (by omega)
    refine ev_pos rfl (Ev.bind hD (ev_pos rfl ?_))
    have e1 : ((S b).toList != (S b).toList) = false := by simp
    rw [e1]
    refine Ev.step (fun k => by rw [laws_FnQuotedBytes.j3]) ?_
    exact ev_neg (by decide) (qb_end l1 (bytes_wf hw1))

end Go.Proofs.Ytenplenjpliciaa.PLFnQuotedBytes
namespace Go.Proofs.Ytenplenjpliciaa.Pure
open Go.Proofs.Ytenplenjpliciaa.PFnQuotedBytes
theorem FnQuotedBytes : laws_FnQuotedBytes.Pure := PLFnQuotedBytes.FnQuotedBytes
end Go.Proofs.Ytenplenjpliciaa.Pure
