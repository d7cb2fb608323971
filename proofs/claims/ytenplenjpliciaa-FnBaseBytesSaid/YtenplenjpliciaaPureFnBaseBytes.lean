/- The law FnBaseBytes holds of the printed functions: letters are bytes. No conditions. -/
import Derived.Test.YtenplenjpliciaaPFnBaseBytesx6
import Derived.Test.YtenplenjpliciaaMBase
import Derived.Test.YtenplenjpliciaaMStr
import Derived.Test.YtenplenjpliciaaMQuot
import Derived.Test.YtenplenjpliciaaMB64
import Derived.Test.YtenplenjpliciaaMDeb
namespace Go.Proofs.Ytenplenjpliciaa.PLFnBaseBytes
open Go.RowKit Go.Proofs.Ytenplenjpliciaa.PFnBaseBytes Go.Proofs.YtenplenjpliciaaW.PrintWords Go.Proofs.YtenplenjpliciaaW.PrintLast Go.Proofs.YtenplenjpliciaaW.PrintMore Go.Proofs.Ytenplenjpliciaa.M

theorem open_ex (l : List Int) (h : Bytes l) : ∃ b, spec_l13Open.f l = some (b, 0) ∧ Bytes b ∧ b.length ≤ 2000 := by
  unfold spec_l13Open.f
  by_cases e : (l.length : Int) > 2000
  · rw [if_pos e, if_pos (by omega)]
    exact ⟨_, rfl, bytes_take h _, by rw [List.length_take]; omega⟩
  · rw [if_neg e]
    exact ⟨_, rfl, h, by omega⟩

theorem pick_ev (b : List Int) (p n : Int) (hb : Bytes b) (hl : b.length ≤ 2000) (hp : 0 ≤ p) (hp1 : p ≤ 1000000) (hn : 1 ≤ n) :
    ∃ r, 0 ≤ r ∧ r < n ∧ Ev (fun k => spec_l13Rd_pick.f k b p n) (r, p + 1) := by
  have w1 : wrap64 (p + 1) = p + 1 := w64 (by omega) (by omega)
  have w2 : wrap64 (p + 1 - 1) = p := by
    rw [w64 (by omega) (by omega)]
    omega
  by_cases e0 : (b.length : Int) = 0
  · refine ⟨0, by omega, by omega, ?_⟩
    simp only [spec_l13Rd_pick.f]
    refine ev_neg (by omega) ?_
    rw [w1]
    refine Ev.step (fun k => by rw [spec_l13Rd_pick.j0]) ?_
    refine ev_pos (by simp [e0]) ?_
    exact Ev.now _
  · have f0 : ((b.length : Int) == 0) = false := beq_eq_false_iff_ne.mpr e0
    by_cases e1 : p < (b.length : Int)
    · obtain ⟨r0, r1⟩ := rd_bytes hb p
      have w3 : wrap64 (rd b p) = rd b p := w64 (by omega) (by omega)
      refine ⟨rd b p % n, Int.emod_nonneg _ (by omega), Int.emod_lt_of_pos _ (by omega), ?_⟩
      simp only [spec_l13Rd_pick.f]
      refine ev_neg (by omega) ?_
      rw [w1, f0]
      refine Ev.step (fun k => by rw [spec_l13Rd_pick.j0]) ?_
      simp only [w2, w3]
      refine ev_neg (by simp) (ev_pos e1 (ev_pos hp (ev_neg (by omega) ?_)))
      rw [Int.tmod_eq_emod_of_nonneg r0]
      exact Ev.now _
    · have hL : (0 : Int) < (b.length : Int) := by omega
      have t1 : Int.tmod p (b.length : Int) = p % (b.length : Int) := Int.tmod_eq_emod_of_nonneg hp
      have w4 : wrap64 (p * 7) = p * 7 := w64 (by omega) (by omega)
      have w5 : wrap64 (p * 7 + 3) = p * 7 + 3 := w64 (by omega) (by omega)
      have t2 : Int.tmod (p * 7 + 3) (b.length : Int) = (p * 7 + 3) % (b.length : Int) := Int.tmod_eq_emod_of_nonneg (by omega)
      have a0 := Int.emod_nonneg p (b := (b.length : Int)) (by omega)
      have a1 := Int.emod_lt_of_pos p hL
      have c0 := Int.emod_nonneg (p * 7 + 3) (b := (b.length : Int)) (by omega)
      have c1 := Int.emod_lt_of_pos (p * 7 + 3) hL
      obtain ⟨x0, x1⟩ := rd_bytes hb (p % (b.length : Int))
      obtain ⟨y0, y1⟩ := rd_bytes hb ((p * 7 + 3) % (b.length : Int))
      have d1 : Int.tdiv p (b.length : Int) = p / (b.length : Int) := Int.tdiv_eq_ediv_of_nonneg hp
      have d2 : 0 ≤ p / (b.length : Int) := Int.ediv_nonneg hp (by omega)
      have d3 : p / (b.length : Int) ≤ p := Int.ediv_le_self _ hp
      have ew1 : wrap64 (rd b (p % (b.length : Int))) = rd b (p % (b.length : Int)) := w64 (by omega) (by omega)
      have ew2 : wrap64 (rd b ((p * 7 + 3) % (b.length : Int))) = rd b ((p * 7 + 3) % (b.length : Int)) := w64 (by omega) (by omega)
      have ew3 : wrap64 (p / (b.length : Int)) = p / (b.length : Int) := w64 (by omega) (by omega)
      have hz : ∀ x y q : Int, 0 ≤ x → x < 256 → 0 ≤ y → y < 256 → 0 ≤ q → q ≤ p →
          wrap64 ((wrap64 ((wrap64 ((wrap64 (x * 131)) + (wrap64 (y * 1117)))) + (wrap64 (p * 29)))) + (wrap64 (q * 53))) = x * 131 + y * 1117 + p * 29 + q * 53 := by
        intro x y q hx hx1 hy hy1 hq hq1
        rw [w64 (n := x * 131) (by omega) (by omega), w64 (n := y * 1117) (by omega) (by omega), w64 (n := p * 29) (by omega) (by omega), w64 (n := q * 53) (by omega) (by omega),
          w64 (n := x * 131 + y * 1117) (by omega) (by omega), w64 (n := x * 131 + y * 1117 + p * 29) (by omega) (by omega), w64 (by omega) (by omega)]
      have hz' := hz _ _ _ x0 x1 y0 y1 d2 d3
      obtain ⟨S, hS⟩ : ∃ S, S = rd b (p % (b.length : Int)) * 131 + rd b ((p * 7 + 3) % (b.length : Int)) * 1117 + p * 29 + p / (b.length : Int) * 53 := ⟨_, rfl⟩
      rw [← hS] at hz'
      have s0 : 0 ≤ S ∧ S < 1000000000 := by omega
      have s1 : Int.tdiv S 64 = S / 64 := Int.tdiv_eq_ediv_of_nonneg s0.1
      have s2 : wrap64 (S / 64) = S / 64 := w64 (by omega) (by omega)
      have hx := xor_nonneg (x := S) (y := S / 64) (by omega) (by omega) (by omega) (by omega)
      refine ⟨bits .xor .i64 S (S / 64) % n, Int.emod_nonneg _ (by omega), Int.emod_lt_of_pos _ (by omega), ?_⟩
      simp only [spec_l13Rd_pick.f]
      refine ev_neg (by omega) ?_
      rw [w1, f0]
      refine Ev.step (fun k => by rw [spec_l13Rd_pick.j0]) ?_
      simp only [w2, t1, w4, w5, t2, d1, ew1, ew2, ew3, hz', s1, s2]
      refine ev_neg (by simp) (ev_neg e1 (ev_neg e0 (ev_pos a0 (ev_pos a1 (ev_pos c0 (ev_pos c1 (ev_neg (by omega) ?_)))))))
      rw [Int.tmod_eq_emod_of_nonneg hx]
      exact Ev.now _

theorem num_ev (b : List Int) (p : Int) (l : List Int) (hb : Bytes b) (hl : b.length ≤ 2000) (hp : 0 ≤ p) (hp1 : p ≤ 1000000) (hn : 1 ≤ l.length) :
    ∃ r, 0 ≤ r ∧ r < (l.length : Int) ∧ Ev (fun k => spec_l13Rd_num.f k b p l) (rd l r, p + 1) := by
  obtain ⟨r, h0, h1, h⟩ := pick_ev b p (l.length : Int) hb hl hp hp1 (by omega)
  refine ⟨r, h0, h1, ?_⟩
  simp only [spec_l13Rd_num.f]
  refine Ev.bind h ?_
  exact ev_pos h0 (ev_pos h1 (Ev.now _))

theorem of_ev (b : List Int) (p : Int) (l : List ByteArray) (hb : Bytes b) (hl : b.length ≤ 2000) (hp : 0 ≤ p) (hp1 : p ≤ 1000000) (hn : 1 ≤ l.length) :
    ∃ x ∈ l, Ev (fun k => spec_l13Rd_of.f k b p l) (x, p + 1) := by
  obtain ⟨r, h0, h1, h⟩ := pick_ev b p (l.length : Int) hb hl hp hp1 (by omega)
  have hr : r.toNat < l.length := by omega
  refine ⟨l[r.toNat], List.getElem_mem hr, ?_⟩
  have e : rdOf ByteArray.empty l r = l[r.toNat] := by
    unfold rdOf
    rw [List.getD_eq_getElem?_getD, List.getElem?_eq_getElem hr]
    rfl
  simp only [spec_l13Rd_of.f]
  refine Ev.bind h ?_
  refine ev_pos h0 (ev_pos h1 ?_)
  rw [e]
  exact Ev.now _

/-- Long strings grow past the limit. -/
theorem l5long_ex (b : List Int) (p : Int) : ∀ (d : Nat) (s : ByteArray), s.size ≤ 100000 → 301 - s.size ≤ d → ∃ t, t.size ≤ 100000 ∧ Ev (fun k => spec_l5Draw.l1 k s b p) (t, p) := by
  intro d
  induction d with
  | zero =>
    intro s hs hd
    refine ⟨s, hs, ?_⟩
    refine Ev.step (fun k => by rw [spec_l5Draw.l1]) ?_
    exact ev_neg (by omega) (Ev.now _)
  | succ d ih =>
    intro s hs hd
    by_cases c : (s.size : Int) ≤ 300
    · have hz : (s ++ (⟨#[48, 49, 50, 51, 52, 53, 54, 55, 56, 57]⟩ : ByteArray)).size = s.size + 10 := by rw [ByteArray.size_append]; rfl
      obtain ⟨t, ht, h⟩ := ih (s ++ (⟨#[48, 49, 50, 51, 52, 53, 54, 55, 56, 57]⟩ : ByteArray)) (by omega) (by omega)
      refine ⟨t, ht, ?_⟩
      refine Ev.step (fun k => by rw [spec_l5Draw.l1]) ?_
      exact ev_pos c (ev_pos (by omega) h)
    · refine ⟨s, hs, ?_⟩
      refine Ev.step (fun k => by rw [spec_l5Draw.l1]) ?_
      exact ev_neg c (Ev.now _)

theorem l5loop_ex (b : List Int) (hb : Bytes b) (hl : b.length ≤ 2000) : ∀ (n : Nat) (s : ByteArray) (p : Int), n ≤ 8 → 0 ≤ p → p + n ≤ 1000 → s.size + 50 * n ≤ 1000 →
    ∃ t q, t.size ≤ 100000 ∧ 0 ≤ q ∧ q ≤ 2000 ∧ Ev (fun k => spec_l5Draw.l0 k s (n : Int) b p) (t, q) := by
  intro n
  induction n with
  | zero =>
    intro s p h8 hp hp1 hs
    obtain ⟨r, h0, h1, h⟩ := pick_ev b p 40 hb hl hp (by omega) (by omega)
    by_cases c : r = 0
    · obtain ⟨t, ht, h2⟩ := l5long_ex b (p + 1) 301 s (by omega) (by omega)
      refine ⟨t, p + 1, ht, by omega, by omega, ?_⟩
      refine Ev.step (fun k => by rw [spec_l5Draw.l0]) ?_
      refine ev_neg (by omega) ?_
      refine Ev.bind h ?_
      exact ev_pos c h2
    · refine ⟨s, p + 1, by omega, by omega, by omega, ?_⟩
      refine Ev.step (fun k => by rw [spec_l5Draw.l0]) ?_
      refine ev_neg (by omega) ?_
      refine Ev.bind h ?_
      exact ev_neg c (Ev.now _)
  | succ n ih =>
    intro s p h8 hp hp1 hs
    obtain ⟨x, hx, h⟩ := of_ev b p ([(⟨#[104, 101, 108, 108, 111]⟩ : ByteArray), (⟨#[32]⟩ : ByteArray), (⟨#[61]⟩ : ByteArray), (⟨#[10]⟩ : ByteArray), (⟨#[255, 0]⟩ : ByteArray), (⟨#[99, 97, 102, 195, 169]⟩ : ByteArray), (⟨#[97, 32, 108, 111, 110, 103, 101, 114, 32, 114, 111, 119, 32, 111, 102, 32, 119, 111, 114, 100, 115, 32, 116, 104, 97, 116, 32, 105, 115, 32, 98, 114, 111, 107, 101, 110, 32, 104, 101, 114, 101]⟩ : ByteArray), (⟨#[120]⟩ : ByteArray), (⟨#[46]⟩ : ByteArray), (⟨#[9]⟩ : ByteArray)] : List ByteArray) hb hl hp (by omega) (by simp)
    have hxs : x.size ≤ 50 := by
      simp only [List.mem_cons, List.not_mem_nil, or_false] at hx
      rcases hx with rfl | rfl | rfl | rfl | rfl | rfl | rfl | rfl | rfl | rfl <;> decide
    obtain ⟨t, q, ht, hq0, hq1, h2⟩ := ih (s ++ x) (p + 1) (by omega) (by omega) (by omega) (by rw [ByteArray.size_append]; omega)
    refine ⟨t, q, ht, hq0, hq1, ?_⟩
    have w : wrap64 (((n + 1 : Nat) : Int) - 1) = (n : Int) := by rw [w64 (by omega) (by omega)]; omega
    refine Ev.step (fun k => by rw [spec_l5Draw.l0]) ?_
    refine ev_pos (by omega) ?_
    refine Ev.bind h ?_
    refine ev_pos (show s.size + x.size ≤ 9223372036854775807 by omega) ?_
    rw [w]
    exact h2

theorem l5draw_ex (b : List Int) (p : Int) (hb : Bytes b) (hl : b.length ≤ 2000) (hp : 0 ≤ p) (hp1 : p ≤ 100) :
    ∃ t q, t.size ≤ 100000 ∧ 0 ≤ q ∧ q ≤ 2000 ∧ Ev (fun k => spec_l5Draw.f k b p) (t, q) := by
  obtain ⟨r, h0, h1, h⟩ := num_ev b p [3, 2, 5, 1, 0, 8] hb hl hp (by omega) (by simp)
  simp only [List.length_cons, List.length_nil] at h1
  have hr : ∃ n : Nat, n ≤ 8 ∧ rd [3, 2, 5, 1, 0, 8] r = (n : Int) := by
    have : r = 0 ∨ r = 1 ∨ r = 2 ∨ r = 3 ∨ r = 4 ∨ r = 5 := by omega
    rcases this with rfl | rfl | rfl | rfl | rfl | rfl
    · exact ⟨3, by omega, rfl⟩
    · exact ⟨2, by omega, rfl⟩
    · exact ⟨5, by omega, rfl⟩
    · exact ⟨1, by omega, rfl⟩
    · exact ⟨0, by omega, rfl⟩
    · exact ⟨8, by omega, rfl⟩
  obtain ⟨n, hn, e⟩ := hr
  rw [e] at h
  obtain ⟨t, q, ht, hq0, hq1, h2⟩ := l5loop_ex b hb hl n (⟨#[]⟩ : ByteArray) (p + 1) hn (by omega) (by omega) (by show 0 + 50 * n ≤ 1000; omega)
  refine ⟨t, q, ht, hq0, hq1, ?_⟩
  simp only [spec_l5Draw.f]
  refine Ev.bind h ?_
  exact h2

theorem drawbase_ex (l : List Int) (h : Bytes l) : ∃ t, Ev (fun k => spec_DrawEncodeBase.f k l) t := by
  obtain ⟨b, hb, h1, h2⟩ := open_ex l h
  obtain ⟨t, q, _, _, _, h3⟩ := l5draw_ex b 0 h1 h2 (by omega) (by omega)
  refine ⟨t, ?_⟩
  simp only [spec_DrawEncodeBase.f, hb, Option.bind_some]
  refine Ev.bind h3 ?_
  exact Ev.now _

theorem bend_ex (b : List Int) (p : Int) (s : ByteArray) (bits : List ByteArray) (hb : Bytes b) (hl : b.length ≤ 2000) (hp : 0 ≤ p) (hp1 : p ≤ 100000) (hn : 1 ≤ bits.length) (hz : ∀ x ∈ bits, x.size ≤ 50) (hs : s.size ≤ 1000000) :
    ∃ t q, t.size ≤ s.size + 50 ∧ 0 ≤ q ∧ q ≤ p + 4 ∧ Ev (fun k => spec_l1Bend.f k b p s bits) (t, q) := by
  by_cases h0 : (s.size : Int) = 0
  · refine ⟨s, p, by omega, hp, by omega, ?_⟩
    simp only [spec_l1Bend.f]
    refine ev_pos h0 ?_
    refine Ev.step (fun k => by rw [spec_l1Bend.j0]) ?_
    exact ev_pos rfl (Ev.now _)
  obtain ⟨r, r0, r1, e1⟩ := pick_ev b p 2 hb hl hp (by omega) (by omega)
  by_cases hr : r = 0
  · refine ⟨s, p + 1, by omega, by omega, by omega, ?_⟩
    simp only [spec_l1Bend.f]
    refine ev_neg h0 (Ev.bind e1 ?_)
    refine Ev.step (fun k => by rw [spec_l1Bend.j0]) ?_
    exact ev_pos (by rw [hr]; rfl) (Ev.now _)
  obtain ⟨u, u0, u1, e2⟩ := pick_ev b (p + 1) (s.size : Int) hb hl (by omega) (by omega) (by omega)
  obtain ⟨x, hx, e3⟩ := of_ev b (p + 1 + 1) bits hb hl (by omega) (by omega) hn
  obtain ⟨v, v0, v1, e4⟩ := pick_ev b (p + 1 + 1 + 1) 2 hb hl (by omega) (by omega) (by omega)
  have hxs := hz x hx
  have w : wrap64 (u + v) = u + v := w64 (by omega) (by omega)
  have z1 : (s.extract 0 u.toNat).size ≤ s.size := by rw [ByteArray.size_extract]; omega
  have z2 : (s.extract (u + v).toNat s.size).size ≤ s.size := by rw [ByteArray.size_extract]; omega
  have z3 : ((s.extract 0 u.toNat) ++ x).size = (s.extract 0 u.toNat).size + x.size := ByteArray.size_append
  have z4 : (((s.extract 0 u.toNat) ++ x) ++ s.extract (u + v).toNat s.size).size = ((s.extract 0 u.toNat) ++ x).size + (s.extract (u + v).toNat s.size).size := ByteArray.size_append
  have z5 : (s.extract 0 u.toNat).size + (s.extract (u + v).toNat s.size).size ≤ s.size := by rw [ByteArray.size_extract, ByteArray.size_extract]; omega
  have g1 : (s.extract 0 u.toNat).size + x.size ≤ 9223372036854775807 := by omega
  have g2 : ((s.extract 0 u.toNat) ++ x).size + (s.extract (u + v).toNat s.size).size ≤ 9223372036854775807 := by omega
  refine ⟨(s.extract 0 u.toNat ++ x) ++ s.extract (u + v).toNat s.size, p + 1 + 1 + 1 + 1, by omega, by omega, by omega, ?_⟩
  simp only [spec_l1Bend.f]
  refine ev_neg h0 (Ev.bind e1 ?_)
  refine Ev.step (fun k => by rw [spec_l1Bend.j0]) ?_
  refine ev_neg (by simpa using hr) (Ev.bind e2 (ev_pos u0 (ev_pos (by omega) (Ev.bind e3 (ev_pos g1 (Ev.bind e4 ?_))))))
  simp only [w]
  exact ev_pos (by omega) (ev_pos (by omega) (ev_pos g2 (Ev.now _)))

theorem spec_letters : spec_l5Letters.f = some (S b64) := rfl

theorem shr_is (n : Int) (j : Nat) (hj : j < 4) (v : Int) (e : v = n / 2 ^ (18 - 6 * j)) : shr .i64 n (wrap64 (18 - (wrap64 (6 * (j : Int))))) = v := by
  have w1 : wrap64 (6 * (j : Int)) = 6 * (j : Int) := w64 (by omega) (by omega)
  have w2 : wrap64 (18 - 6 * (j : Int)) = 18 - 6 * (j : Int) := w64 (by omega) (by omega)
  rw [w1, w2, e]
  unfold shr
  have : min (18 - 6 * (j : Int)).toNat IntKind.i64.bits = 18 - 6 * j := by
    show min (18 - 6 * (j : Int)).toNat 64 = _
    omega
  rw [this]

theorem spec_base_letter {b out : List UInt8} {i j : Nat} {n m : Nat} {R : ByteArray} (hj : j < 4) (hi : i + j ≤ b.length) (hb : b.length ≤ 500) (ho : out.length ≤ 2000) (hn : n < 16777216)
    (hm : m = n / 2 ^ (18 - 6 * j) % 64)
    (H : Ev (fun k => spec_l5Base.l1 k (S b) (S (out ++ [let6 m])) (i : Int) (n : Int) ((j + 1 : Nat) : Int)) R) :
    Ev (fun k => spec_l5Base.l1 k (S b) (S out) (i : Int) (n : Int) (j : Int)) R := by
  have w : wrap64 ((i : Int) + (j : Int)) = ((i + j : Nat) : Int) := by rw [w64 (by omega) (by omega)]; omega
  have w2 : wrap64 ((j : Int) + 1) = ((j + 1 : Nat) : Int) := by rw [w64 (by omega) (by omega)]; omega
  have hp : (2 : Int) ^ (18 - 6 * j) = ((2 ^ (18 - 6 * j) : Nat) : Int) := by simp
  have hq : ((n / 2 ^ (18 - 6 * j) : Nat) : Int) = (n : Int) / 2 ^ (18 - 6 * j) := by rw [hp, Int.natCast_ediv]
  have hs := shr_is (n : Int) j hj ((n / 2 ^ (18 - 6 * j) : Nat) : Int) hq
  have hle : n / 2 ^ (18 - 6 * j) ≤ n := Nat.div_le_self _ _
  have ha : bits .and .i64 ((n / 2 ^ (18 - 6 * j) : Nat) : Int) 63 = (m : Int) := by
    rw [and63 (Int.natCast_nonneg _) (by omega), hm]
    exact (Int.natCast_emod _ 64).symm
  have hm64 : m < 64 := by omega
  have w3 : wrap64 ((m : Int) + 1) = ((m + 1 : Nat) : Int) := by rw [w64 (by omega) (by omega)]; omega
  have w4 : 0 ≤ wrap64 (18 - wrap64 (6 * (j : Int))) := by
    rw [w64 (n := 6 * (j : Int)) (by omega) (by omega), w64 (by omega) (by omega)]
    omega
  have hx : (S b64).extract m (m + 1) = S [let6 m] := extract_one b64 m (by rw [b64_length]; exact hm64)
  refine Ev.step (fun k => by rw [spec_l5Base.l1]) ?_
  simp only [w, w2, hs, ha, w3, size_S, spec_letters, Int.toNat_natCast]
  clear hp hq hs hle ha hm w w2 w3
  refine ev_pos (by omega) (ev_neg (by omega) (ev_pos w4 ?_))
  clear w4
  refine ev_bind0 rfl ?_
  simp only [size_S, hx, b64_length, append_S]
  clear hx
  refine ev_pos (by omega) (ev_pos (by omega) (ev_pos (by omega) (ev_pos (by simp; omega) ?_)))
  exact H

theorem spec_base_pad {b out : List UInt8} {i j : Nat} {n : Int} {R : ByteArray} (hj : j < 4) (hi : b.length < i + j) (hi2 : i ≤ b.length) (hb : b.length ≤ 500) (ho : out.length ≤ 2000)
    (H : Ev (fun k => spec_l5Base.l1 k (S b) (S (out ++ [61])) (i : Int) n ((j + 1 : Nat) : Int)) R) :
    Ev (fun k => spec_l5Base.l1 k (S b) (S out) (i : Int) n (j : Int)) R := by
  have w : wrap64 ((i : Int) + (j : Int)) = ((i + j : Nat) : Int) := by rw [w64 (by omega) (by omega)]; omega
  have w2 : wrap64 ((j : Int) + 1) = ((j + 1 : Nat) : Int) := by rw [w64 (by omega) (by omega)]; omega
  refine Ev.step (fun k => by rw [spec_l5Base.l1]) ?_
  simp only [w, w2, size_S, mk_S, append_S]
  refine ev_pos (by omega) (ev_pos (by omega) (ev_pos (by omega) ?_))
  exact H

theorem spec_base_end {b out : List UInt8} {i : Nat} {n : Int} {R : ByteArray} (hb : i ≤ 600) (H : Ev (fun k => spec_l5Base.l0 k (S b) (S out) ((i + 3 : Nat) : Int)) R) :
    Ev (fun k => spec_l5Base.l1 k (S b) (S out) (i : Int) n ((4 : Nat) : Int)) R := by
  have w : wrap64 ((i : Int) + 3) = ((i + 3 : Nat) : Int) := by rw [w64 (by omega) (by omega)]; omega
  refine Ev.step (fun k => by rw [spec_l5Base.l1]) ?_
  rw [w]
  exact ev_neg (by omega) H

theorem getD_at {l : List UInt8} {i : Nat} (h : i < l.length) : l.getD i 0 = l[i] := by rw [List.getD_eq_getElem?_getD, List.getElem?_eq_getElem h]; rfl

set_option maxHeartbeats 1000000 in
theorem spec_base_loop (b : List UInt8) (hb : b.length ≤ 500) : ∀ (e i : Nat) (out : List UInt8), b.length ≤ i + 3 * e → i ≤ b.length + 2 → out.length ≤ 2 * i →
    Ev (fun k => spec_l5Base.l0 k (S b) (S out) (i : Int)) (S (out ++ base (b.drop i))) := by
  intro e
  induction e with
  | zero =>
    intro i out hi hi2 ho
    refine Ev.step (fun k => by rw [spec_l5Base.l0]) ?_
    rw [size_S, List.drop_of_length_le (by omega)]
    refine ev_neg (by omega) ?_
    rw [base, List.append_nil]
    exact Ev.now _
  | succ e ih =>
    intro i out hi hi2 ho
    refine Ev.step (fun k => by rw [spec_l5Base.l0]) ?_
    rw [size_S]
    by_cases c0 : b.length ≤ i
    · rw [List.drop_of_length_le c0]
      refine ev_neg (by omega) ?_
      rw [base, List.append_nil]
      exact Ev.now _
    have h0 : i < b.length := by omega
    have x0 := b[i].toNat_lt
    obtain ⟨w1, w2⟩ : wrap64 ((i : Int) + 1) = ((i + 1 : Nat) : Int) ∧ wrap64 ((i : Int) + 2) = ((i + 2 : Nat) : Int) :=
      ⟨by rw [w64 (by omega) (by omega)]; omega, by rw [w64 (by omega) (by omega)]; omega⟩
    have wa : wrap64 (b[i].toNat : Int) = (b[i].toNat : Int) := w64 (by omega) (by omega)
    have wb : wrap64 ((b[i].toNat : Int) * 65536) = ((b[i].toNat * 65536 : Nat) : Int) := by rw [w64 (by omega) (by omega)]; omega
    simp only [bt_S, w1, Int.toNat_natCast, getD_at h0, wa, wb]
    clear wa wb w1
    refine ev_pos (by omega) (ev_pos (by omega) ?_)
    by_cases c1 : b.length ≤ i + 1
    · -- one byte is left
      refine ev_neg (by omega) ?_
      have hd : b.drop i = [b[i]] := by rw [drop_cons h0, List.drop_of_length_le (by omega)]
      refine Ev.step (fun k => by rw [spec_l5Base.j1]) ?_
      rw [size_S, w2]
      clear w2
      refine ev_neg (by omega) ?_
      refine Ev.step (fun k => by rw [spec_l5Base.j2]) ?_
      refine spec_base_letter (j := 0) (m := b[i].toNat / 4) (by omega) (by omega) hb (by omega) (by omega) (six0a (u8_lt _) rfl) ?_
      refine spec_base_letter (j := 1) (m := b[i].toNat % 4 * 16) (by omega) (by omega) hb (by simp; omega) (by omega) (six1' rfl) ?_
      refine spec_base_pad (j := 2) (by omega) (by omega) (by omega) hb (by simp; omega) ?_
      refine spec_base_pad (j := 3) (by omega) (by omega) (by omega) hb (by simp; omega) ?_
      refine spec_base_end (by omega) ?_
      have := ih (i + 3) ((((out ++ [let6 (b[i].toNat / 4)]) ++ [let6 (b[i].toNat % 4 * 16)]) ++ [61]) ++ [61]) (by omega) (by omega) (by simp; omega)
      rw [List.drop_of_length_le (by omega : b.length ≤ i + 3), base, List.append_nil] at this
      rw [hd, base]
      simpa using this
    have h1 : i + 1 < b.length := by omega
    have x1 := b[i + 1].toNat_lt
    have wc : wrap64 (b[i + 1].toNat : Int) = (b[i + 1].toNat : Int) := w64 (by omega) (by omega)
    have wd : wrap64 ((b[i + 1].toNat : Int) * 256) = ((b[i + 1].toNat * 256 : Nat) : Int) := by rw [w64 (by omega) (by omega)]; omega
    have we : wrap64 (((b[i].toNat * 65536 : Nat) : Int) + ((b[i + 1].toNat * 256 : Nat) : Int)) = ((b[i].toNat * 65536 + b[i + 1].toNat * 256 : Nat) : Int) := by rw [w64 (by omega) (by omega)]; omega
    simp only [getD_at h1, wc, wd, we]
    clear wc wd we
    refine ev_pos (by omega) (ev_pos (by omega) ?_)
    refine Ev.step (fun k => by rw [spec_l5Base.j1]) ?_
    rw [size_S, w2]
    clear w2
    by_cases c2 : b.length ≤ i + 2
    · -- two bytes are left
      refine ev_neg (by omega) ?_
      have hd : b.drop i = [b[i], b[i + 1]] := by rw [drop_cons h0, drop_cons h1, List.drop_of_length_le (by omega)]
      refine Ev.step (fun k => by rw [spec_l5Base.j2]) ?_
      refine spec_base_letter (j := 0) (m := b[i].toNat / 4) (by omega) (by omega) hb (by omega) (by omega) (six0b (u8_lt _) (u8_lt b[i + 1]) rfl) ?_
      refine spec_base_letter (j := 1) (m := b[i].toNat % 4 * 16 + b[i + 1].toNat / 16) (by omega) (by omega) hb (by simp; omega) (by omega) (six1b (u8_lt _) rfl) ?_
      refine spec_base_letter (j := 2) (m := b[i + 1].toNat % 16 * 4) (by omega) (by omega) hb (by simp; omega) (by omega) (six2' rfl) ?_
      refine spec_base_pad (j := 3) (by omega) (by omega) (by omega) hb (by simp; omega) ?_
      refine spec_base_end (by omega) ?_
      have := ih (i + 3) ((((out ++ [let6 (b[i].toNat / 4)]) ++ [let6 (b[i].toNat % 4 * 16 + b[i + 1].toNat / 16)]) ++ [let6 (b[i + 1].toNat % 16 * 4)]) ++ [61]) (by omega) (by omega) (by simp; omega)
      rw [List.drop_of_length_le (by omega : b.length ≤ i + 3), base, List.append_nil] at this
      rw [hd, base]
      simpa using this
    -- three bytes and more
    have h2 : i + 2 < b.length := by omega
    have x2 := b[i + 2].toNat_lt
    have wf : wrap64 (b[i + 2].toNat : Int) = (b[i + 2].toNat : Int) := w64 (by omega) (by omega)
    have wg : wrap64 (((b[i].toNat * 65536 + b[i + 1].toNat * 256 : Nat) : Int) + (b[i + 2].toNat : Int)) = ((b[i].toNat * 65536 + b[i + 1].toNat * 256 + b[i + 2].toNat : Nat) : Int) := by rw [w64 (by omega) (by omega)]; omega
    have hd : b.drop i = b[i] :: b[i + 1] :: b[i + 2] :: b.drop (i + 3) := by rw [drop_cons h0, drop_cons h1, drop_cons h2]
    simp only [bt_S, Int.toNat_natCast, getD_at h2, wf, wg]
    clear wf wg
    refine ev_pos (by omega) (ev_pos (by omega) ?_)
    refine Ev.step (fun k => by rw [spec_l5Base.j2]) ?_
    refine spec_base_letter (j := 0) (m := b[i].toNat / 4) (by omega) (by omega) hb (by omega) (by omega) (six0 (u8_lt _) (u8_lt b[i + 1]) (u8_lt b[i + 2]) rfl) ?_
    refine spec_base_letter (j := 1) (m := b[i].toNat % 4 * 16 + b[i + 1].toNat / 16) (by omega) (by omega) hb (by simp; omega) (by omega) (six1 (u8_lt _) (u8_lt b[i + 2]) rfl) ?_
    refine spec_base_letter (j := 2) (m := b[i + 1].toNat % 16 * 4 + b[i + 2].toNat / 64) (by omega) (by omega) hb (by simp; omega) (by omega) (six2 (u8_lt _) rfl) ?_
    refine spec_base_letter (j := 3) (m := b[i + 2].toNat % 64) (by omega) (by omega) hb (by simp; omega) (by omega) (six3 rfl) ?_
    refine spec_base_end (by omega) ?_
    have := ih (i + 3) ((((out ++ [let6 (b[i].toNat / 4)]) ++ [let6 (b[i].toNat % 4 * 16 + b[i + 1].toNat / 16)]) ++ [let6 (b[i + 1].toNat % 16 * 4 + b[i + 2].toNat / 64)]) ++ [let6 (b[i + 2].toNat % 64)]) (by omega) (by omega) (by simp; omega)
    rw [hd, base]
    simpa using this

theorem spec_base (b : List UInt8) (hb : b.length ≤ 500) : Ev (fun k => spec_l5Base.f k (S b)) (S (base b)) := by
  simp only [spec_l5Base.f]
  have := spec_base_loop b hb 170 0 [] (by omega) (by omega) (by simp)
  rw [List.drop_zero, List.nil_append] at this
  exact this


theorem spec_lines_loop : ∀ (n : Nat) (s : List UInt8) (outs : List (List UInt8)), s.length ≤ 40 * n → s.length ≤ 100000 → outs.length + n ≤ 100000 →
    Ev (fun k => spec_l5Lines.l0 k (S s) 40 (SL outs)) (SL (outs ++ lines40 n s)) := by
  intro n
  induction n with
  | zero =>
    intro s outs hs hs2 ho
    refine Ev.step (fun k => by rw [spec_l5Lines.l0]) ?_
    rw [size_S, SL_length, SL_one, SL_append]
    refine ev_neg (by omega) (ev_pos (by omega) (Ev.now _))
  | succ n ih =>
    intro s outs hs hs2 ho
    refine Ev.step (fun k => by rw [spec_l5Lines.l0]) ?_
    simp only [size_S, SL_length, extract_S, SL_one, SL_append]
    by_cases c : s.length > 40
    · refine ev_pos (by omega) (ev_pos (by omega) (ev_pos (by omega) (ev_pos (by omega) ?_)))
      have e1 : ((s.drop ((40 : Int)).toNat).take (s.length - ((40 : Int)).toNat)) = s.drop 40 := by
        show (s.drop 40).take (s.length - 40) = s.drop 40
        rw [List.take_of_length_le (by rw [List.length_drop]; omega)]
      have e2 : ((s.drop 0).take (((40 : Int)).toNat - 0)) = s.take 40 := rfl
      rw [e1, e2]
      have := ih (s.drop 40) (outs ++ [s.take 40]) (by rw [List.length_drop]; omega) (by rw [List.length_drop]; omega) (by simp; omega)
      rw [lines40, if_pos c]
      simpa using this
    · refine ev_neg (by omega) (ev_pos (by omega) ?_)
      rw [lines40, if_neg c]
      exact Ev.now _

theorem spec_baseR (b : List UInt8) : Ev (fun k => spec_EncodeBase.f k (S b)) (baseR b) := by
  simp only [spec_EncodeBase.f, size_S]
  unfold baseR
  by_cases h : b.length > 300
  · rw [if_pos h]
    exact ev_pos (by omega) (Ev.now _)
  · rw [if_neg h]
    refine ev_neg (by omega) ?_
    refine Ev.bind (spec_base b (by omega)) ?_
    have hbl := base_length b
    have := spec_lines_loop 20 (base b) [] (by omega) (by omega) (by simp)
    rw [List.nil_append] at this
    refine Ev.bind (show Ev (fun k => spec_l5Lines.f k (S (base b)) 40) (SL (lines40 20 (base b))) from this) ?_
    exact Ev.now _

theorem impl_digits {b out : List UInt8} {i many n : Nat} {R : ByteArray} (hn : n < 16777216) (hm : many ≤ 3)
    (H : Ev (fun k => impl_letters.l2 k (S b) (NI out) (i : Int) (NI [let6 (n / 262144), let6 (n / 4096 % 64), let6 (n / 64 % 64), let6 (n % 64)]) ((many + 1 : Nat) : Int)) R) :
    Ev (fun k => impl_letters.l1 k (S b) (NI out) (i : Int) (many : Int) (n : Int) ((3 : Nat) : Int)) R := by
  have w : wrap64 ((many : Int) + 1) = ((many + 1 : Nat) : Int) := by rw [w64 (by omega) (by omega)]; omega
  have e0 : (n : Int) / 262144 = ((n / 262144 : Nat) : Int) := by omega
  have e1 : bits .and .i64 ((n : Int) / 4096) 63 = ((n / 4096 % 64 : Nat) : Int) := by rw [and63 (by omega) (by omega)]; omega
  have e2 : bits .and .i64 ((n : Int) / 64) 63 = ((n / 64 % 64 : Nat) : Int) := by rw [and63 (by omega) (by omega)]; omega
  have e3 : bits .and .i64 (n : Int) 63 = ((n % 64 : Nat) : Int) := by rw [and63 (by omega) (by omega)]; omega
  have el : ∀ x : Nat, bt (⟨#[65, 66, 67, 68, 69, 70, 71, 72, 73, 74, 75, 76, 77, 78, 79, 80, 81, 82, 83, 84, 85, 86, 87, 88, 89, 90, 97, 98, 99, 100, 101, 102, 103, 104, 105, 106, 107, 108, 109, 110, 111, 112, 113, 114, 115, 116, 117, 118, 119, 120, 121, 122, 48, 49, 50, 51, 52, 53, 54, 55, 56, 57, 43, 47]⟩ : ByteArray) (x : Int) = ((let6 x).toNat : Int) := by
    intro x
    exact bt_S b64 (x : Int)
  have hl : ([((let6 (n / 262144)).toNat : Int), ((let6 (n / 4096 % 64)).toNat : Int), ((let6 (n / 64 % 64)).toNat : Int), ((let6 (n % 64)).toNat : Int)] : List Int) = NI [let6 (n / 262144), let6 (n / 4096 % 64), let6 (n / 64 % 64), let6 (n % 64)] := rfl
  refine Ev.step (fun k => by rw [impl_letters.l1]) ?_
  simp only [w, e0, e1, e2, e3, el, hl]
  clear w e0 e1 e2 e3 el hl
  refine ev_neg (by omega) (ev_pos (by omega) (ev_pos (by omega) (ev_pos (by omega) (ev_pos (by omega) (ev_pos (by omega) (ev_pos (by omega) (ev_pos (by omega) (ev_pos (by omega) ?_))))))))
  exact H

theorem impl_take {b out : List UInt8} {i many j n : Nat} {R : ByteArray} (c : UInt8) (hc : b.getD (i + j) 0 = c) (hj : j < 3) (hjm : j < many) (hi : i + j < b.length) (hb : b.length ≤ 300) (hn : n < 65536)
    (H : Ev (fun k => impl_letters.l1 k (S b) (NI out) (i : Int) (many : Int) ((n * 256 + c.toNat : Nat) : Int) ((j + 1 : Nat) : Int)) R) :
    Ev (fun k => impl_letters.l1 k (S b) (NI out) (i : Int) (many : Int) (n : Int) (j : Int)) R := by
  have x0 := c.toNat_lt
  obtain ⟨w, w2⟩ : wrap64 ((i : Int) + (j : Int)) = ((i + j : Nat) : Int) ∧ wrap64 ((j : Int) + 1) = ((j + 1 : Nat) : Int) := ⟨by rw [w64 (by omega) (by omega)]; omega, by rw [w64 (by omega) (by omega)]; omega⟩
  have w3 : wrap64 ((c.toNat : Nat) : Int) = ((c.toNat : Nat) : Int) := w64 (by omega) (by omega)
  have w4 : wrap64 ((n : Int) * 256) = ((n * 256 : Nat) : Int) := by rw [w64 (by omega) (by omega)]; omega
  have w5 : wrap64 (((n * 256 : Nat) : Int) + ((c.toNat : Nat) : Int)) = ((n * 256 + c.toNat : Nat) : Int) := by rw [w64 (by omega) (by omega)]; omega
  refine Ev.step (fun k => by rw [impl_letters.l1]) ?_
  simp only [w, w2, size_S, bt_S, Int.toNat_natCast, hc, w3, w4, w5]
  clear w w2 w3 w4 w5
  refine ev_pos (by omega) (ev_pos (by omega) (ev_pos (by omega) (ev_pos (by omega) ?_)))
  exact H

theorem impl_skip {b out : List UInt8} {i many j n : Nat} {R : ByteArray} (hj : j < 3) (hjm : many ≤ j) (hn : n < 65536)
    (H : Ev (fun k => impl_letters.l1 k (S b) (NI out) (i : Int) (many : Int) ((n * 256 : Nat) : Int) ((j + 1 : Nat) : Int)) R) :
    Ev (fun k => impl_letters.l1 k (S b) (NI out) (i : Int) (many : Int) (n : Int) (j : Int)) R := by
  have w2 : wrap64 ((j : Int) + 1) = ((j + 1 : Nat) : Int) := by rw [w64 (by omega) (by omega)]; omega
  have w4 : wrap64 ((n : Int) * 256) = ((n * 256 : Nat) : Int) := by rw [w64 (by omega) (by omega)]; omega
  refine Ev.step (fun k => by rw [impl_letters.l1]) ?_
  rw [w2, w4]
  clear w2 w4
  refine ev_pos (by omega) (ev_neg (by omega) ?_)
  exact H

theorem impl_pad {b out l : List UInt8} {i j : Nat} {R : ByteArray} (hl : l.length = 4) (hj : j < 4)
    (H : Ev (fun k => impl_letters.l2 k (S b) (NI out) (i : Int) (NI (l.set j 61)) ((j + 1 : Nat) : Int)) R) :
    Ev (fun k => impl_letters.l2 k (S b) (NI out) (i : Int) (NI l) (j : Int)) R := by
  have w2 : wrap64 ((j : Int) + 1) = ((j + 1 : Nat) : Int) := by rw [w64 (by omega) (by omega)]; omega
  have hs : (NI l).set j 61 = NI (l.set j 61) := by
    unfold NI
    rw [List.map_set]
    rfl
  refine Ev.step (fun k => by rw [impl_letters.l2]) ?_
  rw [w2, NI_length, Int.toNat_natCast, hs]
  refine ev_pos (by omega) (ev_pos (by omega) (ev_pos (by omega) ?_))
  exact H

theorem impl_group {b out l : List UInt8} {i : Nat} {R : ByteArray} (hl : l.length = 4) (ho : out.length ≤ 1000) (hi : i ≤ 400)
    (H : Ev (fun k => impl_letters.l0 k (S b) (NI (out ++ l)) ((i + 3 : Nat) : Int)) R) :
    Ev (fun k => impl_letters.l2 k (S b) (NI out) (i : Int) (NI l) ((4 : Nat) : Int)) R := by
  have w2 : wrap64 ((i : Int) + 3) = ((i + 3 : Nat) : Int) := by rw [w64 (by omega) (by omega)]; omega
  refine Ev.step (fun k => by rw [impl_letters.l2]) ?_
  rw [w2, NI_length, NI_length, NI_append]
  refine ev_neg (by omega) (ev_pos (by omega) ?_)
  exact H

theorem mn3 {x : Int} {m : Nat} (h : (m : Int) = if 3 < x then 3 else x) : mn x 3 = (m : Int) := by
  unfold mn
  rw [h]

theorem impl_one {b out : List UInt8} {i : Nat} {R : ByteArray} (a : UInt8) (ha : b.getD (i + 0) 0 = a) (h0 : i + 0 < b.length) (hb : b.length ≤ 300) (ho : out.length ≤ 1000)
    (H : Ev (fun k => impl_letters.l0 k (S b) (NI (out ++ [let6 (a.toNat / 4), let6 (a.toNat % 4 * 16), 61, 61])) ((i + 3 : Nat) : Int)) R) :
    Ev (fun k => impl_letters.l1 k (S b) (NI out) (i : Int) ((1 : Nat) : Int) ((0 : Nat) : Int) ((0 : Nat) : Int)) R := by
  obtain ⟨q1, q2, q3, e0, e1⟩ := nA (u8_lt a)
  refine impl_take (j := 0) (n := 0) a ha (by omega) (by omega) h0 hb (by decide) ?_
  refine impl_skip (j := 1) (n := 0 * 256 + a.toNat) (by omega) (by omega) q1 ?_
  refine impl_skip (j := 2) (n := (0 * 256 + a.toNat) * 256) (by omega) (by omega) q2 ?_
  refine impl_digits (n := (0 * 256 + a.toNat) * 256 * 256) q3 (by omega) ?_
  refine impl_pad (j := 2) rfl (by omega) ?_
  refine impl_pad (j := 3) rfl (by omega) ?_
  refine impl_group rfl (by omega) (by omega) ?_
  show Ev (fun k => impl_letters.l0 k (S b) (NI (out ++ [let6 ((0 * 256 + a.toNat) * 256 * 256 / 262144), let6 ((0 * 256 + a.toNat) * 256 * 256 / 4096 % 64), 61, 61])) ((i + 3 : Nat) : Int)) _
  rw [e0, e1]
  exact H

theorem impl_two {b out : List UInt8} {i : Nat} {R : ByteArray} (a c : UInt8) (ha : b.getD (i + 0) 0 = a) (hc : b.getD (i + 1) 0 = c) (h1 : i + 1 < b.length) (hb : b.length ≤ 300) (ho : out.length ≤ 1000)
    (H : Ev (fun k => impl_letters.l0 k (S b) (NI (out ++ [let6 (a.toNat / 4), let6 (a.toNat % 4 * 16 + c.toNat / 16), let6 (c.toNat % 16 * 4), 61])) ((i + 3 : Nat) : Int)) R) :
    Ev (fun k => impl_letters.l1 k (S b) (NI out) (i : Int) ((2 : Nat) : Int) ((0 : Nat) : Int) ((0 : Nat) : Int)) R := by
  have g0 : i + 0 < b.length := by omega
  obtain ⟨q1, _, _, _, _⟩ := nA (u8_lt a)
  obtain ⟨q2, q3, e0, e1, e2⟩ := nB (u8_lt a) (u8_lt c)
  refine impl_take (j := 0) (n := 0) a ha (by omega) (by omega) g0 hb (by decide) ?_
  refine impl_take (j := 1) (n := 0 * 256 + a.toNat) c hc (by omega) (by omega) h1 hb q1 ?_
  refine impl_skip (j := 2) (n := (0 * 256 + a.toNat) * 256 + c.toNat) (by omega) (by omega) q2 ?_
  refine impl_digits (n := ((0 * 256 + a.toNat) * 256 + c.toNat) * 256) q3 (by omega) ?_
  refine impl_pad (j := 3) rfl (by omega) ?_
  refine impl_group rfl (by omega) (by omega) ?_
  show Ev (fun k => impl_letters.l0 k (S b) (NI (out ++ [let6 (((0 * 256 + a.toNat) * 256 + c.toNat) * 256 / 262144), let6 (((0 * 256 + a.toNat) * 256 + c.toNat) * 256 / 4096 % 64), let6 (((0 * 256 + a.toNat) * 256 + c.toNat) * 256 / 64 % 64), 61])) ((i + 3 : Nat) : Int)) _
  rw [e0, e1, e2]
  exact H

theorem impl_three {b out : List UInt8} {i : Nat} {R : ByteArray} (a c d : UInt8) (ha : b.getD (i + 0) 0 = a) (hc : b.getD (i + 1) 0 = c) (hd : b.getD (i + 2) 0 = d) (h2 : i + 2 < b.length) (hb : b.length ≤ 300) (ho : out.length ≤ 1000)
    (H : Ev (fun k => impl_letters.l0 k (S b) (NI (out ++ [let6 (a.toNat / 4), let6 (a.toNat % 4 * 16 + c.toNat / 16), let6 (c.toNat % 16 * 4 + d.toNat / 64), let6 (d.toNat % 64)])) ((i + 3 : Nat) : Int)) R) :
    Ev (fun k => impl_letters.l1 k (S b) (NI out) (i : Int) ((3 : Nat) : Int) ((0 : Nat) : Int) ((0 : Nat) : Int)) R := by
  have g0 : i + 0 < b.length := by omega
  have g1 : i + 1 < b.length := by omega
  obtain ⟨q1, _, _, _, _⟩ := nA (u8_lt a)
  obtain ⟨q2, _, _, _, _⟩ := nB (u8_lt a) (u8_lt c)
  obtain ⟨q3, e0, e1, e2, e3⟩ := nC (u8_lt a) (u8_lt c) (u8_lt d)
  refine impl_take (j := 0) (n := 0) a ha (by omega) (by omega) g0 hb (by decide) ?_
  refine impl_take (j := 1) (n := 0 * 256 + a.toNat) c hc (by omega) (by omega) g1 hb q1 ?_
  refine impl_take (j := 2) (n := (0 * 256 + a.toNat) * 256 + c.toNat) d hd (by omega) (by omega) h2 hb q2 ?_
  refine impl_digits (n := ((0 * 256 + a.toNat) * 256 + c.toNat) * 256 + d.toNat) q3 (by omega) ?_
  refine impl_group rfl (by omega) (by omega) ?_
  rw [e0, e1, e2, e3]
  exact H

theorem impl_letters_loop (b : List UInt8) (hb : b.length ≤ 300) : ∀ (e i : Nat) (out : List UInt8), b.length ≤ i + 3 * e → i ≤ b.length + 2 → out.length ≤ 2 * i →
    Ev (fun k => impl_letters.l0 k (S b) (NI out) (i : Int)) (S (out ++ base (b.drop i))) := by
  intro e
  induction e with
  | zero =>
    intro i out hi hi2 ho
    refine Ev.step (fun k => by rw [impl_letters.l0]) ?_
    rw [size_S, List.drop_of_length_le (by omega), strOfNums_NI]
    refine ev_neg (by omega) ?_
    rw [base, List.append_nil]
    exact Ev.now _
  | succ e ih =>
    intro i out hi hi2 ho
    refine Ev.step (fun k => by rw [impl_letters.l0]) ?_
    rw [size_S]
    by_cases c0 : b.length ≤ i
    · rw [List.drop_of_length_le c0, strOfNums_NI]
      refine ev_neg (by omega) ?_
      rw [base, List.append_nil]
      exact Ev.now _
    have h0 : i < b.length := by omega
    refine ev_pos (by omega) ?_
    have w0 : wrap64 ((b.length : Int) - (i : Int)) = ((b.length - i : Nat) : Int) := by rw [w64 (by omega) (by omega)]; omega
    rw [w0]
    clear w0
    by_cases c1 : b.length ≤ i + 1
    · have hd : b.drop i = [b[i]] := by rw [drop_cons h0, List.drop_of_length_le (by omega)]
      rw [mn3 (m := 1) (by omega)]
      refine impl_one b[i] (getD_at h0) h0 hb (by omega) ?_
      have := ih (i + 3) (out ++ [let6 (b[i].toNat / 4), let6 (b[i].toNat % 4 * 16), 61, 61]) (by omega) (by omega) (by rw [List.length_append]; show out.length + 4 ≤ 2 * (i + 3); omega)
      rw [List.drop_of_length_le (by omega : b.length ≤ i + 3), base, List.append_nil] at this
      rw [hd, base]
      exact this
    have h1 : i + 1 < b.length := by omega
    by_cases c2 : b.length ≤ i + 2
    · have hd : b.drop i = [b[i], b[i + 1]] := by rw [drop_cons h0, drop_cons h1, List.drop_of_length_le (by omega)]
      rw [mn3 (m := 2) (by omega)]
      refine impl_two b[i] b[i + 1] (getD_at h0) (getD_at h1) h1 hb (by omega) ?_
      have := ih (i + 3) (out ++ [let6 (b[i].toNat / 4), let6 (b[i].toNat % 4 * 16 + b[i + 1].toNat / 16), let6 (b[i + 1].toNat % 16 * 4), 61]) (by omega) (by omega) (by rw [List.length_append]; show out.length + 4 ≤ 2 * (i + 3); omega)
      rw [List.drop_of_length_le (by omega : b.length ≤ i + 3), base, List.append_nil] at this
      rw [hd, base]
      exact this
    have h2 : i + 2 < b.length := by omega
    have hd : b.drop i = b[i] :: b[i + 1] :: b[i + 2] :: b.drop (i + 3) := by rw [drop_cons h0, drop_cons h1, drop_cons h2]
    rw [mn3 (m := 3) (by omega)]
    refine impl_three b[i] b[i + 1] b[i + 2] (getD_at h0) (getD_at h1) (getD_at h2) h2 hb (by omega) ?_
    have := ih (i + 3) (out ++ [let6 (b[i].toNat / 4), let6 (b[i].toNat % 4 * 16 + b[i + 1].toNat / 16), let6 (b[i + 1].toNat % 16 * 4 + b[i + 2].toNat / 64), let6 (b[i + 2].toNat % 64)]) (by omega) (by omega) (by rw [List.length_append]; show out.length + 4 ≤ 2 * (i + 3); omega)
    rw [hd, base]
    rw [List.append_assoc] at this
    exact this

theorem impl_letters_ev (b : List UInt8) (hb : b.length ≤ 300) : Ev (fun k => impl_letters.f k (S b)) (S (base b)) := by
  simp only [impl_letters.f]
  have := impl_letters_loop b hb 100 0 [] (by omega) (by omega) (by simp)
  rw [List.drop_zero, List.nil_append] at this
  exact this


theorem impl_lines_loop : ∀ (n : Nat) (s : List UInt8) (outs : List (List UInt8)), s.length ≤ 40 * n → s.length ≤ 100000 → outs.length + n ≤ 100000 →
    Ev (fun k => impl_EncodeBase.l0 k (SL outs) (S s)) (SL (outs ++ lines40 n s), true) := by
  intro n
  induction n with
  | zero =>
    intro s outs hs hs2 ho
    refine Ev.step (fun k => by rw [impl_EncodeBase.l0]) ?_
    rw [size_S, SL_length, SL_one, SL_append]
    refine ev_neg (by omega) (ev_pos (by omega) (Ev.now _))
  | succ n ih =>
    intro s outs hs hs2 ho
    refine Ev.step (fun k => by rw [impl_EncodeBase.l0]) ?_
    simp only [size_S, SL_length, extract_S, SL_one, SL_append]
    by_cases c : s.length > 40
    · refine ev_pos (by omega) (ev_pos (by omega) (ev_pos (by omega) (ev_pos (by omega) ?_)))
      have e1 : ((s.drop 40).take (s.length - 40)) = s.drop 40 := List.take_of_length_le (by rw [List.length_drop]; omega)
      have e2 : ((s.drop 0).take (40 - 0)) = s.take 40 := rfl
      rw [e1, e2]
      have := ih (s.drop 40) (outs ++ [s.take 40]) (by rw [List.length_drop]; omega) (by rw [List.length_drop]; omega) (by simp; omega)
      rw [lines40, if_pos c]
      simpa using this
    · refine ev_neg (by omega) (ev_pos (by omega) ?_)
      rw [lines40, if_neg c]
      exact Ev.now _

theorem impl_baseR (b : List UInt8) : Ev (fun k => impl_EncodeBase.f k (S b)) (baseR b) := by
  simp only [impl_EncodeBase.f, size_S]
  unfold baseR
  by_cases h : b.length > 300
  · rw [if_pos h]
    exact ev_pos (by omega) (Ev.now _)
  · rw [if_neg h]
    refine ev_neg (by omega) ?_
    refine Ev.bind (impl_letters_ev b (by omega)) ?_
    have hbl := base_length b
    have := impl_lines_loop 20 (base b) [] (by omega) (by omega) (by simp)
    rw [List.nil_append] at this
    exact this

theorem texts_self (l : List ByteArray) (hl : l.length ≤ 1000000) : Ev (fun k => laws_mwTexts.f k l l) true := by
  simp only [laws_mwTexts.f]
  refine ev_pos trivial ?_
  have : ∀ (e i : Nat), i + e = l.length → Ev (fun k => laws_mwTexts.l0 k l l (i : Int)) true := by
    intro e
    induction e with
    | zero =>
      intro i hi
      refine Ev.step (fun k => by rw [laws_mwTexts.l0]) ?_
      exact ev_neg (by omega) (Ev.now _)
    | succ e ih =>
      intro i hi
      have w : wrap64 ((i : Int) + 1) = ((i + 1 : Nat) : Int) := by rw [w64 (by omega) (by omega)]; omega
      refine Ev.step (fun k => by rw [laws_mwTexts.l0]) ?_
      refine ev_pos (by omega) (ev_pos (by omega) (ev_pos (by omega) (ev_pos rfl ?_)))
      rw [w]
      exact ih (i + 1) (by omega)
  exact this l.length 0 (by omega)

theorem join_ev (ls : List (List UInt8)) (hl : ls.length ≤ 100000) (hs : ls.flatten.length ≤ 100000000) : Ev (fun k => laws_mwJoin.f k (SL ls)) (S ls.flatten) := by
  simp only [laws_mwJoin.f]
  have : ∀ (e i : Nat), i + e = ls.length → Ev (fun k => laws_mwJoin.l0 k (SL ls) (S (ls.take i).flatten) (i : Int)) (S ls.flatten) := by
    intro e
    induction e with
    | zero =>
      intro i hi
      refine Ev.step (fun k => by rw [laws_mwJoin.l0]) ?_
      rw [SL_length, List.take_of_length_le (by omega)]
      exact ev_neg (by omega) (Ev.now _)
    | succ e ih =>
      intro i hi
      have hlt : i < ls.length := by omega
      have hr := rdOf_SL ByteArray.empty ls i hlt
      have hfl : (ls.take (i + 1)).flatten = (ls.take i).flatten ++ ls[i] := by rw [List.take_succ_eq_append_getElem hlt, List.flatten_append]; simp
      have hle : (ls.take (i + 1)).flatten.length ≤ ls.flatten.length := by
        have : ls.flatten = (ls.take (i + 1)).flatten ++ (ls.drop (i + 1)).flatten := by rw [← List.flatten_append, List.take_append_drop]
        rw [this, List.length_append]
        omega
      rw [hfl, List.length_append] at hle
      have w : wrap64 ((i : Int) + 1) = ((i + 1 : Nat) : Int) := by rw [w64 (by omega) (by omega)]; omega
      have hih := ih (i + 1) (by omega)
      rw [hfl] at hih
      refine Ev.step (fun k => by rw [laws_mwJoin.l0]) ?_
      simp only [SL_length, hr, size_S, append_S, w]
      exact ev_pos (by omega) (ev_pos (by omega) (ev_pos (by omega) hih))
  exact this ls.length 0 (by omega)

theorem b64_S : (⟨#[65, 66, 67, 68, 69, 70, 71, 72, 73, 74, 75, 76, 77, 78, 79, 80, 81, 82, 83, 84, 85, 86, 87, 88, 89, 90, 97, 98, 99, 100, 101, 102, 103, 104, 105, 106, 107, 108, 109, 110, 111, 112, 113, 114, 115, 116, 117, 118, 119, 120, 121, 122, 48, 49, 50, 51, 52, 53, 54, 55, 56, 57, 43, 47]⟩ : ByteArray) = S b64 := rfl
theorem index_b64 (c : UInt8) : strings_IndexByte.f (S b64) (c.toNat : Int) = some (bx c) := by
  unfold strings_IndexByte.f
  have e : ((c.toNat : Int)).toNat.toUInt8 = c := by simp
  rw [data_S, e]
  rfl
theorem mx_bv (c : UInt8) : mx (bx c) 0 = (bv c : Int) := by
  have := bx_bd c
  unfold mx bv
  split <;> omega
theorem mx_sub (a b : Nat) (h : a ≤ 2000000000000) (h2 : b ≤ 2000000000000) : mx (wrap64 ((a : Int) - (b : Int))) 0 = ((a - b : Nat) : Int) := by
  rw [w64 (by omega) (by omega)]
  unfold mx
  split <;> omega
theorem count_eq (s : List UInt8) : strings_Count.f (S s) (⟨#[61]⟩ : ByteArray) = some ((s.count 61 : Nat) : Int) := by
  unfold strings_Count.f
  have h : (⟨#[61]⟩ : ByteArray).size = 1 := rfl
  rw [if_pos h]
  rfl

theorem deb_step {s out : List UInt8} {i j n : Nat} {R : ByteArray × Bool} (c : UInt8) (hc : s.getD (i + j) 0 = c) (hj : j < 4) (hi : i + j < s.length) (hs : s.length ≤ 2000000000000) (hn : n < 262144)
    (H : Ev (fun k => impl_DecodeBase.l1 k (S s) (NI out) (i : Int) ((n * 64 + bv c : Nat) : Int) ((j + 1 : Nat) : Int)) R) : Ev (fun k => impl_DecodeBase.l1 k (S s) (NI out) (i : Int) (n : Int) (j : Int)) R := by
  have hv := bv_lt c
  obtain ⟨w1, w2, w3⟩ : wrap64 ((i : Int) + (j : Int)) = ((i + j : Nat) : Int) ∧ wrap64 (wrap64 (64 * (n : Int)) + (bv c : Int)) = ((n * 64 + bv c : Nat) : Int) ∧ wrap64 ((j : Int) + 1) = ((j + 1 : Nat) : Int) :=
    ⟨by rw [w64 (by omega) (by omega)]; omega, by rw [w64 (n := 64 * (n : Int)) (by omega) (by omega), w64 (by omega) (by omega)]; omega, by rw [w64 (by omega) (by omega)]; omega⟩
  refine Ev.step (fun k => by rw [impl_DecodeBase.l1]) ?_
  simp only [w1, size_S, bt_S, Int.toNat_natCast, hc, b64_S]
  refine ev_pos (by omega) (ev_pos (by omega) (ev_pos (by omega) (ev_bind0 (index_b64 c) ?_)))
  rw [mx_bv, w2, w3]
  exact H
theorem div3 {n : Nat} : (n : Int) / 65536 % 256 = ((UInt8.ofNat (n / 65536)).toNat : Int) ∧ (n : Int) / 256 % 256 = ((UInt8.ofNat (n / 256)).toNat : Int) ∧ (n : Int) % 256 = ((UInt8.ofNat n).toNat : Int) := by
  rw [UInt8.toNat_ofNat', UInt8.toNat_ofNat', UInt8.toNat_ofNat']
  refine ⟨?_, ?_, ?_⟩ <;> omega
theorem deb_group {s out : List UInt8} {i n : Nat} {R : ByteArray × Bool} (hi : i ≤ 2000000000000) (ho : out.length ≤ 2000000000000)
    (H : Ev (fun k => impl_DecodeBase.l0 k (S s) (NI (out ++ three n)) ((i + 4 : Nat) : Int)) R) : Ev (fun k => impl_DecodeBase.l1 k (S s) (NI out) (i : Int) (n : Int) ((4 : Nat) : Int)) R := by
  have w1 : wrap64 ((i : Int) + 4) = ((i + 4 : Nat) : Int) := by rw [w64 (by omega) (by omega)]; omega
  obtain ⟨d1, d2, d3⟩ := div3 (n := n)
  refine Ev.step (fun k => by rw [impl_DecodeBase.l1]) ?_
  have e : ([(n : Int) / 65536 % 256, (n : Int) / 256 % 256, (n : Int) % 256] : List Int) = NI (three n) := by rw [d1, d2, d3]; rfl
  rw [e, w1]
  refine ev_neg (by decide) (ev_bind0 rfl ?_)
  rw [NI_length, NI_length, NI_append]
  exact ev_pos (by show out.length + 3 < _; omega) H

theorem deb_end (s : List UInt8) (n : Nat) (hs : s.length = 4 * n) (hl : s.length ≤ 2000000000000) :
    Ev (fun k => (strings_Count.f (S s) (⟨#[61]⟩ : ByteArray)).bind fun t => (if 0 ≤ (mx (wrap64 (((NI (decB s)).length : Int) - t)) 0) then (if (mx (wrap64 (((NI (decB s)).length : Int) - t)) 0) ≤ ((NI (decB s)).length : Int) then ((some ((NI (decB s)).take ((mx (wrap64 (((NI (decB s)).length : Int) - t)) 0) : Int).toNat : List Int)).bind fun y => (if ((strOfNums y).size : Int) > 300 then (some ((⟨#[]⟩ : ByteArray), false)) else ((impl_letters.f k (strOfNums y)).bind fun t2 => (if t2.toList = (S s).toList then (some (strOfNums y, true)) else (some ((⟨#[]⟩ : ByteArray), false)))))) else (none)) else (none))) (debR s) := by
  have hd := decB_length n s hs
  have hc : s.count 61 ≤ s.length := List.count_le_length
  refine ev_bind0 (count_eq s) ?_
  rw [NI_length, mx_sub _ _ (by omega) (by omega)]
  refine ev_pos (by omega) (ev_pos (by omega) (ev_bind0 rfl ?_))
  have e : (NI (decB s)).take (((decB s).length - s.count 61 : Nat) : Int).toNat = NI (cutB s) := by
    rw [Int.toNat_natCast]
    unfold cutB NI
    rw [List.map_take]
  rw [e, strOfNums_NI, size_S]
  by_cases h3 : (cutB s).length > 300
  · have : debR s = (S [], false) := debR_neg (by
      rintro ⟨b, h1, h2⟩
      rw [← h2, cutB_base] at h3
      omega)
    rw [this]
    exact ev_pos (by omega) (Ev.now _)
  · refine ev_neg (by omega) (Ev.bind (impl_letters_ev (cutB s) (by omega)) ?_)
    by_cases h4 : base (cutB s) = s
    · rw [debR_pos (by omega) h4]
      exact ev_pos (by rw [h4]) (Ev.now _)
    · have : debR s = (S [], false) := debR_neg (by
        rintro ⟨b, h1, h2⟩
        apply h4
        rw [← h2, cutB_base])
      rw [this]
      exact ev_neg (by rw [toList_S, toList_S]; exact h4) (Ev.now _)

theorem deb_loop (s : List UInt8) (n : Nat) (hs : s.length = 4 * n) (hl : s.length ≤ 2000000000000) : ∀ (e i : Nat) (out : List UInt8), i + e = n → out.length = 3 * i → decB s = out ++ decB (s.drop (4 * i)) →
    Ev (fun k => impl_DecodeBase.l0 k (S s) (NI out) ((4 * i : Nat) : Int)) (debR s) := by
  intro e
  induction e with
  | zero =>
    intro i out hi ho hd
    rw [List.drop_of_length_le (by omega)] at hd
    have e0 : decB [] = [] := rfl
    rw [e0, List.append_nil] at hd
    refine Ev.step (fun k => by rw [impl_DecodeBase.l0]) ?_
    rw [size_S, ← hd]
    exact ev_neg (by omega) (deb_end s n hs hl)
  | succ e ih =>
    intro i out hi ho hd
    have h0 : 4 * i < s.length := by omega
    have h1 : 4 * i + 1 < s.length := by omega
    have h2 : 4 * i + 2 < s.length := by omega
    have h3 : 4 * i + 3 < s.length := by omega
    have g0 : s.getD (4 * i + 0) 0 = s[4 * i] := by rw [List.getD_eq_getElem?_getD, Nat.add_zero, List.getElem?_eq_getElem h0]; rfl
    have g1 : s.getD (4 * i + 1) 0 = s[4 * i + 1] := by rw [List.getD_eq_getElem?_getD, List.getElem?_eq_getElem h1]; rfl
    have g2 : s.getD (4 * i + 2) 0 = s[4 * i + 2] := by rw [List.getD_eq_getElem?_getD, List.getElem?_eq_getElem h2]; rfl
    have g3 : s.getD (4 * i + 3) 0 = s[4 * i + 3] := by rw [List.getD_eq_getElem?_getD, List.getElem?_eq_getElem h3]; rfl
    have sh : s.drop (4 * i) = s[4 * i] :: s[4 * i + 1] :: s[4 * i + 2] :: s[4 * i + 3] :: s.drop (4 * (i + 1)) := by
      have e43 : 4 * (i + 1) = 4 * i + 3 + 1 := by omega
      rw [e43, drop_cons h0, drop_cons h1, drop_cons h2, drop_cons h3]
    have v0 := bv_lt s[4 * i]
    have v1 := bv_lt s[4 * i + 1]
    have v2 := bv_lt s[4 * i + 2]
    have h4 := ih (i + 1) (out ++ three (num4 s[4 * i] s[4 * i + 1] s[4 * i + 2] s[4 * i + 3])) (by omega) (by rw [List.length_append, ho]; show 3 * i + 3 = _; omega) (by rw [hd, sh, decB, List.append_assoc])
    have e4 : 4 * (i + 1) = 4 * i + 4 := by omega
    rw [e4] at h4
    refine Ev.step (fun k => by rw [impl_DecodeBase.l0]) ?_
    rw [size_S]
    refine ev_pos (by omega) ?_
    refine deb_step (j := 0) (n := 0) _ g0 (by omega) (by omega) hl (by omega) ?_
    rw [Nat.zero_mul, Nat.zero_add]
    refine deb_step (j := 1) _ g1 (by omega) (by omega) hl (by omega) ?_
    refine deb_step (j := 2) _ g2 (by omega) (by omega) hl (by omega) ?_
    refine deb_step (j := 3) _ g3 (by omega) (by omega) hl (by omega) ?_
    exact deb_group (by omega) (by omega) h4

theorem impl_deb (ls : List (List UInt8)) (hn : ls.length ≤ 1048576) (hf : ls.flatten.length ≤ 2000000000000) : Ev (fun k => impl_DecodeBase.f k (SL ls)) (debR ls.flatten) := by
  simp only [impl_DecodeBase.f]
  have hj : strings_Join.f (SL ls) (⟨#[]⟩ : ByteArray) = some (S ls.flatten) := by
    unfold strings_Join.f
    have e : (⟨#[]⟩ : ByteArray).data.toList = [] := rfl
    rw [e, SL_lists, join_flat, SL_length, if_pos ⟨by omega, by omega⟩]
    rfl
  refine ev_bind0 hj ?_
  rw [size_S]
  by_cases h4 : (ls.flatten.length : Int) % 4 = 0
  · have := deb_loop ls.flatten (ls.flatten.length / 4) (by omega) hf (ls.flatten.length / 4) 0 [] (by omega) (by simp) (by simp)
    exact ev_pos h4 this
  · have : debR ls.flatten = (S [], false) := debR_neg (by
      rintro ⟨b, h1, h2⟩
      have := debR_len h1 h2
      omega)
    rw [this]
    exact ev_neg h4 (Ev.now _)

theorem spec_dig (c : UInt8) : Ev (fun k => spec_l5Digit.f k (c.toNat : Int)) (bx c) := by
  simp only [spec_l5Digit.f]
  refine ev_bind0 spec_letters ?_
  have hidx : ∀ (l : List UInt8) (p : Nat), (Lib.indexByte l c = -1 ∧ ∀ j (h : j < l.length), l[j] ≠ c) ∨ ∃ j, ∃ h : j < l.length, Lib.indexByte l c = (j : Int) ∧ l[j] = c ∧ ∀ i (h2 : i < j), l[i] ≠ c := by
    intro l _
    induction l with
    | nil => exact Or.inl ⟨rfl, fun j h => by simp at h⟩
    | cons b l ih =>
      by_cases hb : b = c
      · refine Or.inr ⟨0, by simp, ?_, hb, fun i h => by omega⟩
        unfold Lib.indexByte
        simp [hb]
      · rcases ih with ⟨h1, h2⟩ | ⟨j, hj, h1, h2, h3⟩
        · refine Or.inl ⟨?_, ?_⟩
          · unfold Lib.indexByte
            simp [hb, h1]
          · intro j hj
            cases j with
            | zero => exact hb
            | succ j => exact h2 j (by simpa using hj)
        · refine Or.inr ⟨j + 1, by simpa using hj, ?_, by simpa using h2, ?_⟩
          · unfold Lib.indexByte
            have : ¬ ((j : Int) = -1) := by omega
            simp [hb, h1, this]
          · intro i hi
            cases i with
            | zero => exact hb
            | succ i => exact h3 i (by omega)
  have loop : ∀ (e i : Nat), i + e = b64.length → (∀ j, j < i → ∀ h : j < b64.length, b64[j] ≠ c) → Ev (fun k => spec_l5Digit.l0 k (c.toNat : Int) (S b64) (i : Int)) (bx c) := by
    intro e
    induction e with
    | zero =>
      intro i hi hne
      refine Ev.step (fun k => by rw [spec_l5Digit.l0]) ?_
      rw [size_S]
      have : bx c = -1 := by
        rcases hidx b64 0 with ⟨h1, _⟩ | ⟨j, hj, _, h2, _⟩
        · exact h1
        · exact absurd h2 (hne j (by omega) hj)
      rw [this]
      exact ev_neg (by omega) (Ev.now _)
    | succ e ih =>
      intro i hi hne
      have hlt : i < b64.length := by omega
      have hg : b64.getD i 0 = b64[i] := by rw [List.getD_eq_getElem?_getD, List.getElem?_eq_getElem hlt]; rfl
      have h64 : b64.length = 64 := rfl
      have w : wrap64 ((i : Int) + 1) = ((i + 1 : Nat) : Int) := by rw [w64 (by omega) (by omega)]; omega
      refine Ev.step (fun k => by rw [spec_l5Digit.l0]) ?_
      simp only [size_S, bt_S, Int.toNat_natCast, hg, w]
      refine ev_pos (by omega) (ev_pos (by omega) ?_)
      by_cases h : b64[i] = c
      · have : bx c = (i : Int) := by
          rcases hidx b64 0 with ⟨_, h2⟩ | ⟨j, hj, h1, h2, h3⟩
          · exact absurd h (h2 i hlt)
          · have : j = i := by
              by_cases q : j < i
              · exact absurd h2 (hne j q hj)
              · by_cases q2 : i < j
                · exact absurd h (h3 i q2)
                · omega
            rw [this] at h1
            exact h1
        rw [this]
        exact ev_pos (by rw [h]) (Ev.now _)
      · refine ev_neg (fun q => h (u8_eq.1 q)) (ih (i + 1) (by omega) ?_)
        intro j hj hj2
        by_cases q : j < i
        · exact hne j q hj2
        · have : j = i := by omega
          subst this
          exact h
  exact loop b64.length 0 (by omega) (fun j h => by omega)

theorem sdeb_step {s out : List UInt8} {i j n f : Nat} {R : ByteArray × Bool} (c : UInt8) (hc : s.getD (i + j) 0 = c) (hj : j < 4) (hi : i + j < s.length) (hs : s.length ≤ 1000)
    (H : Ev (fun k => spec_l5Debase.j2 k (S s) (NI out) (i : Int) (n : Int) (f : Int) (j : Int) (bx c) (decide (c = 61 ∧ 2 ≤ j ∧ i + 4 = s.length))) R) :
    Ev (fun k => spec_l5Debase.l1 k (S s) (NI out) (i : Int) (n : Int) (f : Int) (j : Int)) R := by
  obtain ⟨w1, w2⟩ : wrap64 ((i : Int) + (j : Int)) = ((i + j : Nat) : Int) ∧ wrap64 ((i : Int) + 4) = ((i + 4 : Nat) : Int) := ⟨by rw [w64 (by omega) (by omega)]; omega, by rw [w64 (by omega) (by omega)]; omega⟩
  refine Ev.step (fun k => by rw [spec_l5Debase.l1]) ?_
  simp only [w1, w2, size_S, bt_S, Int.toNat_natCast, hc]
  refine ev_pos (by omega) (ev_pos (by omega) (ev_pos (by omega) (Ev.bind (spec_dig c) ?_)))
  by_cases h61 : c = 61
  · refine ev_pos (by rw [h61]; rfl) ?_
    by_cases h2 : 2 ≤ j
    · refine ev_pos (by omega) ?_
      have e : decide (c = 61 ∧ 2 ≤ j ∧ i + 4 = s.length) = (((i + 4 : Nat) : Int) == (s.length : Int)) := by
        rw [Bool.eq_iff_iff, decide_eq_true_iff, beq_iff_eq]
        exact ⟨fun q => by omega, fun q => ⟨h61, h2, by omega⟩⟩
      rw [← e]
      exact H
    · refine ev_neg (by omega) ?_
      rw [decide_eq_false (fun q => h2 q.2.1)] at H
      exact H
  · refine ev_neg (fun q => h61 ((u8_is (n := 61) (by omega)).1 q)) ?_
    rw [decide_eq_false (fun q => h61 q.1)] at H
    exact H
theorem sdeb_fill {s out : List UInt8} {i j n f : Nat} {R : ByteArray × Bool} {x : Int} (hj : j < 4) (hn : n < 262144) (hf : f ≤ 3)
    (H : Ev (fun k => spec_l5Debase.l1 k (S s) (NI out) (i : Int) ((n * 64 + 0 : Nat) : Int) ((f + 1 : Nat) : Int) ((j + 1 : Nat) : Int)) R) :
    Ev (fun k => spec_l5Debase.j2 k (S s) (NI out) (i : Int) (n : Int) (f : Int) (j : Int) x true) R := by
  obtain ⟨w1, w2, w3⟩ : wrap64 (wrap64 ((n : Int) * 64) + 0) = ((n * 64 + 0 : Nat) : Int) ∧ wrap64 ((f : Int) + 1) = ((f + 1 : Nat) : Int) ∧ wrap64 ((j : Int) + 1) = ((j + 1 : Nat) : Int) :=
    ⟨by rw [w64 (n := (n : Int) * 64) (by omega) (by omega), w64 (by omega) (by omega)]; omega, by rw [w64 (by omega) (by omega)]; omega, by rw [w64 (by omega) (by omega)]; omega⟩
  refine Ev.step (fun k => by rw [spec_l5Debase.j2]) ?_
  rw [w1, w2, w3]
  exact ev_pos rfl (ev_neg (by decide) H)
theorem sdeb_bad {s out : List UInt8} {i j n f : Nat} {x : Int} (h : 0 < f ∨ x < 0) : Ev (fun k => spec_l5Debase.j2 k (S s) (NI out) (i : Int) (n : Int) (f : Int) (j : Int) x false) (S [], false) := by
  refine Ev.step (fun k => by rw [spec_l5Debase.j2]) ?_
  refine ev_neg (by decide) ?_
  by_cases hf : 0 < f
  · exact ev_pos (by omega) (Ev.now _)
  · exact ev_neg (by omega) (ev_pos (by omega) (Ev.now _))
theorem sdeb_letter {s out : List UInt8} {i j n : Nat} {R : ByteArray × Bool} {c : UInt8} (hj : j < 4) (hn : n < 262144) (h0 : ¬ bx c < 0)
    (H : Ev (fun k => spec_l5Debase.l1 k (S s) (NI out) (i : Int) ((n * 64 + bv c : Nat) : Int) 0 ((j + 1 : Nat) : Int)) R) :
    Ev (fun k => spec_l5Debase.j2 k (S s) (NI out) (i : Int) (n : Int) ((0 : Nat) : Int) (j : Int) (bx c) false) R := by
  have hb := bv_lt c
  have e : bx c = (bv c : Int) := by unfold bv; omega
  obtain ⟨w1, w3⟩ : wrap64 (wrap64 ((n : Int) * 64) + bx c) = ((n * 64 + bv c : Nat) : Int) ∧ wrap64 ((j : Int) + 1) = ((j + 1 : Nat) : Int) :=
    ⟨by rw [e, w64 (n := (n : Int) * 64) (by omega) (by omega), w64 (by omega) (by omega)]; omega, by rw [w64 (by omega) (by omega)]; omega⟩
  refine Ev.step (fun k => by rw [spec_l5Debase.j2]) ?_
  rw [w1, w3]
  exact ev_neg (by decide) (ev_neg (by decide) (ev_neg h0 H))
theorem and255 {x : Int} (h0 : 0 ≤ x) (h1 : x < 16777216) : bits .and .i64 x 255 = x % 256 := bits_mask .i64 62 (by decide) wraps_i64 8 (by decide) x h0 (by omega)
theorem sdeb_group {s out : List UInt8} {i n f : Nat} {R : ByteArray × Bool} (hi : i ≤ 1000) (ho : out.length ≤ 1000) (hn : n < 16777216) (hf : f ≤ 2)
    (H : Ev (fun k => spec_l5Debase.l0 k (S s) (NI (out ++ (three n).take (3 - f))) ((i + 4 : Nat) : Int)) R) : Ev (fun k => spec_l5Debase.l1 k (S s) (NI out) (i : Int) (n : Int) (f : Int) ((4 : Nat) : Int)) R := by
  obtain ⟨w1, w2⟩ : wrap64 ((i : Int) + 4) = ((i + 4 : Nat) : Int) ∧ wrap64 (3 - (f : Int)) = ((3 - f : Nat) : Int) := ⟨by rw [w64 (by omega) (by omega)]; omega, by rw [w64 (by omega) (by omega)]; omega⟩
  obtain ⟨d1, d2, d3⟩ := div3 (n := n)
  refine Ev.step (fun k => by rw [spec_l5Debase.l1]) ?_
  have a1 : bits .and .i64 ((n : Int) / 256) 255 = (n : Int) / 256 % 256 := and255 (by omega) (by omega)
  have a2 : bits .and .i64 (n : Int) 255 = (n : Int) % 256 := and255 (by omega) (by omega)
  have e : ([(n : Int) / 65536 % 256, (bits .and .i64 ((n : Int) / 256) 255) % 256, (bits .and .i64 (n : Int) 255) % 256] : List Int) = NI (three n) := by
    rw [a1, a2, Int.emod_emod_of_dvd _ (Int.dvd_refl 256), Int.emod_emod_of_dvd _ (Int.dvd_refl 256), d1, d2, d3]
    rfl
  have e2 : (NI (three n)).take (3 - f) = NI ((three n).take (3 - f)) := by unfold NI; rw [List.map_take]
  have hl : (three n).length = 3 := rfl
  rw [e, w1, w2]
  refine ev_neg (by decide) (ev_bind0 rfl ?_)
  rw [NI_length, hl]
  refine ev_pos (by omega) (ev_pos (by omega) (ev_bind0 rfl ?_))
  rw [Int.toNat_natCast, e2, NI_length, NI_length, NI_append, List.length_take, hl]
  exact ev_pos (by omega) H

/-- What the reference has of letters: the bytes that they stand for, and whether these have them as letters. -/
def debE (s : List UInt8) (o : Option (List UInt8)) : ByteArray × Bool := match o with | none => (S [], false) | some t => (S t, decide (base t = s))
theorem sdeb_loop (s : List UInt8) (n : Nat) (hs : s.length = 4 * n) (hl : s.length ≤ 600) : ∀ (e i : Nat) (out : List UInt8), i + e = n → out.length ≤ 3 * i →
    Ev (fun k => spec_l5Debase.l0 k (S s) (NI out) ((4 * i : Nat) : Int)) (debE s ((debS (s.drop (4 * i))).map fun t => out ++ t)) := by
  intro e
  induction e with
  | zero =>
    intro i out hi ho
    rw [List.drop_of_length_le (by omega)]
    refine Ev.step (fun k => by rw [spec_l5Debase.l0]) ?_
    rw [size_S, strOfNums_NI]
    refine ev_neg (by omega) (Ev.bind (spec_base out (by omega)) (ev_is ?_))
    show _ = some (debE s (some (out ++ [])))
    rw [List.append_nil]
    unfold debE
    simp only [toList_S]
    have eb : (base out == s) = decide (base out = s) := by rw [Bool.eq_iff_iff]; simp
    rw [eb]
  | succ e ih =>
    intro i out hi ho
    have h0 : 4 * i < s.length := by omega
    have h1 : 4 * i + 1 < s.length := by omega
    have h2 : 4 * i + 2 < s.length := by omega
    have h3 : 4 * i + 3 < s.length := by omega
    have g0 : s.getD (4 * i + 0) 0 = s[4 * i] := by rw [List.getD_eq_getElem?_getD, Nat.add_zero, List.getElem?_eq_getElem h0]; rfl
    have g1 : s.getD (4 * i + 1) 0 = s[4 * i + 1] := by rw [List.getD_eq_getElem?_getD, List.getElem?_eq_getElem h1]; rfl
    have g2 : s.getD (4 * i + 2) 0 = s[4 * i + 2] := by rw [List.getD_eq_getElem?_getD, List.getElem?_eq_getElem h2]; rfl
    have g3 : s.getD (4 * i + 3) 0 = s[4 * i + 3] := by rw [List.getD_eq_getElem?_getD, List.getElem?_eq_getElem h3]; rfl
    have sh : s.drop (4 * i) = s[4 * i] :: s[4 * i + 1] :: s[4 * i + 2] :: s[4 * i + 3] :: s.drop (4 * (i + 1)) := by
      have e43 : 4 * (i + 1) = 4 * i + 3 + 1 := by omega
      rw [e43, drop_cons h0, drop_cons h1, drop_cons h2, drop_cons h3]
    have hemp : (s.drop (4 * (i + 1))).isEmpty = decide (4 * i + 4 = s.length) := by
      rw [Bool.eq_iff_iff, List.isEmpty_iff, List.drop_eq_nil_iff, decide_eq_true_iff]
      omega
    have v0 := bv_lt s[4 * i]
    have v1 := bv_lt s[4 * i + 1]
    have v2 := bv_lt s[4 * i + 2]
    have e4 : 4 * (i + 1) = 4 * i + 4 := by omega
    have none_of : grp s[4 * i] s[4 * i + 1] s[4 * i + 2] s[4 * i + 3] (s.drop (4 * (i + 1))).isEmpty = none → (debE s ((debS (s.drop (4 * i))).map fun t => out ++ t)) = (S [], false) := by
      intro h
      rw [sh, debS, h]
      rfl
    have some_of : ∀ g : List UInt8, grp s[4 * i] s[4 * i + 1] s[4 * i + 2] s[4 * i + 3] (s.drop (4 * (i + 1))).isEmpty = some g → g.length ≤ 3 →
        Ev (fun k => spec_l5Debase.l0 k (S s) (NI (out ++ g)) ((4 * i + 4 : Nat) : Int)) (debE s ((debS (s.drop (4 * i))).map fun t => out ++ t)) := by
      intro g h hg
      have := ih (i + 1) (out ++ g) (by omega) (by rw [List.length_append]; omega)
      rw [e4] at this
      rw [sh, debS, h, e4]
      simp only [Option.map_map]
      have ef : ((fun t => out ++ t) ∘ fun t => g ++ t) = fun t : List UInt8 => out ++ g ++ t := by funext t; simp
      rw [ef]
      exact this
    rw [hemp] at none_of some_of
    refine Ev.step (fun k => by rw [spec_l5Debase.l0]) ?_
    rw [size_S]
    refine ev_pos (by omega) ?_
    obtain ⟨a, ea⟩ : ∃ a, s[4 * i] = a := ⟨_, rfl⟩
    obtain ⟨b, eb⟩ : ∃ b, s[4 * i + 1] = b := ⟨_, rfl⟩
    obtain ⟨c, ec⟩ : ∃ c, s[4 * i + 2] = c := ⟨_, rfl⟩
    obtain ⟨d, ed⟩ : ∃ d, s[4 * i + 3] = d := ⟨_, rfl⟩
    rw [ea] at g0 v0 none_of some_of
    rw [eb] at g1 v1 none_of some_of
    rw [ec] at g2 v2 none_of some_of
    rw [ed] at g3 none_of some_of
    clear sh ea eb ec ed ih
    have n1 : 0 * 64 + bv a < 262144 := by omega
    have n2 : (0 * 64 + bv a) * 64 + bv b < 262144 := by omega
    have n3 : ((0 * 64 + bv a) * 64 + bv b) * 64 + bv c < 262144 := by omega
    have n3' : ((0 * 64 + bv a) * 64 + bv b) * 64 + 0 < 262144 := by omega
    have n4 := num4_lt a b c d
    have en : (((0 * 64 + bv a) * 64 + bv b) * 64 + bv c) * 64 + bv d = num4 a b c d := by unfold num4; rw [Nat.zero_mul, Nat.zero_add]
    refine sdeb_step (j := 0) (n := 0) (f := 0) _ g0 (by omega) (by omega) (by omega) ?_
    rw [decide_eq_false (fun q => by omega)]
    by_cases ha : bx a < 0
    · rw [none_of (by unfold grp; rw [if_pos (Or.inl ha)])]
      exact sdeb_bad (Or.inr ha)
    refine sdeb_letter (by omega) (by omega) ha ?_
    refine sdeb_step (j := 1) (f := 0) _ g1 (by omega) (by omega) (by omega) ?_
    rw [decide_eq_false (fun q => by omega)]
    by_cases hb : bx b < 0
    · rw [none_of (by unfold grp; rw [if_pos (Or.inr hb)])]
      exact sdeb_bad (Or.inr hb)
    refine sdeb_letter (by omega) n1 hb ?_
    have hab : ¬ (bx a < 0 ∨ bx b < 0) := by omega
    refine sdeb_step (j := 2) (f := 0) _ g2 (by omega) (by omega) (by omega) ?_
    by_cases h2e : c = 61 ∧ 4 * i + 4 = s.length
    · rw [decide_eq_true (show c = 61 ∧ 2 ≤ 2 ∧ 4 * i + 4 = s.length from ⟨h2e.1, by omega, h2e.2⟩)]
      have hlast : decide (4 * i + 4 = s.length) = true := decide_eq_true h2e.2
      refine sdeb_fill (by omega) n2 (by omega) ?_
      refine sdeb_step (j := 3) (f := 1) _ g3 (by omega) (by omega) (by omega) ?_
      by_cases hd : d = 61
      · rw [decide_eq_true (show d = 61 ∧ 2 ≤ 3 ∧ 4 * i + 4 = s.length from ⟨hd, by omega, h2e.2⟩)]
        refine sdeb_fill (by omega) n3' (by omega) ?_
        have ez : (((0 * 64 + bv a) * 64 + bv b) * 64 + 0) * 64 + 0 = num4 a b c d := by rw [← en, h2e.1, hd, bv_eq]
        rw [ez]
        refine sdeb_group (f := 2) (by omega) (by omega) n4 (by omega) ?_
        exact some_of _ (by unfold grp; rw [if_neg hab, if_pos ⟨h2e.1, hlast⟩, if_pos hd]; rfl) (by simp [three])
      · rw [decide_eq_false (fun q => hd q.1)]
        rw [none_of (by unfold grp; rw [if_neg hab, if_pos ⟨h2e.1, hlast⟩, if_neg hd])]
        exact sdeb_bad (Or.inl (by omega))
    · rw [decide_eq_false (fun q => h2e ⟨q.1, q.2.2⟩)]
      have h2e' : ¬ (c = 61 ∧ decide (4 * i + 4 = s.length) = true) := by
        rw [decide_eq_true_iff]
        exact h2e
      by_cases hc : bx c < 0
      · rw [none_of (by unfold grp; rw [if_neg hab, if_neg h2e', if_pos hc])]
        exact sdeb_bad (Or.inr hc)
      refine sdeb_letter (by omega) n2 hc ?_
      refine sdeb_step (j := 3) (f := 0) _ g3 (by omega) (by omega) (by omega) ?_
      by_cases h3e : d = 61 ∧ 4 * i + 4 = s.length
      · rw [decide_eq_true (show d = 61 ∧ 2 ≤ 3 ∧ 4 * i + 4 = s.length from ⟨h3e.1, by omega, h3e.2⟩)]
        refine sdeb_fill (by omega) n3 (by omega) ?_
        have ez : (((0 * 64 + bv a) * 64 + bv b) * 64 + bv c) * 64 + 0 = num4 a b c d := by rw [← en, h3e.1, bv_eq]
        rw [ez]
        refine sdeb_group (f := 1) (by omega) (by omega) n4 (by omega) ?_
        exact some_of _ (by unfold grp; rw [if_neg hab, if_neg h2e', if_neg hc, if_pos ⟨h3e.1, decide_eq_true h3e.2⟩]; rfl) (by simp [three])
      · rw [decide_eq_false (fun q => h3e ⟨q.1, q.2.2⟩)]
        have h3e' : ¬ (d = 61 ∧ decide (4 * i + 4 = s.length) = true) := by
          rw [decide_eq_true_iff]
          exact h3e
        by_cases hd : bx d < 0
        · rw [none_of (by unfold grp; rw [if_neg hab, if_neg h2e', if_neg hc, if_neg h3e', if_pos hd])]
          exact sdeb_bad (Or.inr hd)
        refine sdeb_letter (by omega) n3 hd ?_
        rw [en]
        refine sdeb_group (f := 0) (by omega) (by omega) n4 (by omega) ?_
        exact some_of _ (by unfold grp; rw [if_neg hab, if_neg h2e', if_neg hc, if_neg h3e', if_neg hd]; rfl) (by simp [three])

theorem spec_debase (s : List UInt8) (hl : s.length ≤ 600) : ∃ o b, Ev (fun k => spec_l5Debase.f k (S s)) (S o, b) ∧ ((if b = true then (if o.length > 300 then (S [], false) else (S o, true)) else (S [], false)) = debR s) := by
  by_cases h4 : (s.length : Int) % 4 = 0
  · have h := sdeb_loop s (s.length / 4) (by omega) hl (s.length / 4) 0 [] (by omega) (by simp)
    rw [Nat.mul_zero, List.drop_zero] at h
    have em : (debS s).map (fun t => [] ++ t) = debS s := by cases debS s <;> rfl
    rw [em] at h
    cases hd : debS s with
    | none =>
      rw [hd] at h
      refine ⟨[], false, ?_, ?_⟩
      · simp only [spec_l5Debase.f, size_S]
        exact ev_pos h4 h
      · rw [if_neg (by decide), debR_neg]
        rintro ⟨b, h1, h2⟩
        rw [← h2, debS_base] at hd
        cases hd
    | some o =>
      rw [hd] at h
      refine ⟨o, decide (base o = s), ?_, ?_⟩
      · simp only [spec_l5Debase.f, size_S]
        exact ev_pos h4 h
      · have one : ∀ b, base b = s → b = o := by
          intro b hb
          rw [← hb, debS_base] at hd
          exact Option.some.inj hd
        by_cases hb : base o = s
        · rw [if_pos (decide_eq_true hb)]
          by_cases h3 : o.length > 300
          · rw [if_pos h3, debR_neg]
            rintro ⟨b, h1, h2⟩
            rw [one b h2] at h1
            omega
          · rw [if_neg h3, debR_pos (by omega) hb]
        · rw [if_neg (by simpa using hb), debR_neg]
          rintro ⟨b, h1, h2⟩
          rw [one b h2] at h2
          exact hb h2
  · refine ⟨[], false, ?_, ?_⟩
    · simp only [spec_l5Debase.f, size_S]
      exact ev_neg h4 (Ev.now _)
    · rw [if_neg (by decide), debR_neg]
      rintro ⟨b, h1, h2⟩
      have := debR_len h1 h2
      omega

theorem spec_deb_loop (ls : List (List UInt8)) (hn : ls.length ≤ 1048576) (hb : ∀ l ∈ ls, l.length ≤ 1048576) : ∀ (e i : Nat), i + e = ls.length → ((ls.take i).flatten).length ≤ 600 →
    Ev (fun k => spec_DecodeBase.l0 k (SL ls) (S (ls.take i).flatten) (i : Int)) (debR ls.flatten) := by
  intro e
  induction e with
  | zero =>
    intro i hi h6
    rw [List.take_of_length_le (by omega)] at h6 ⊢
    obtain ⟨o, b, h1, h2⟩ := spec_debase ls.flatten h6
    refine Ev.step (fun k => by rw [spec_DecodeBase.l0]) ?_
    rw [SL_length]
    refine ev_neg (by omega) (Ev.bind h1 ?_)
    rw [← h2]
    cases b with
    | false => exact ev_neg (by simp) (Ev.now _)
    | true =>
      refine ev_pos rfl ?_
      rw [size_S]
      by_cases h3 : o.length > 300
      · rw [if_pos rfl, if_pos h3]
        exact ev_pos (by omega) (Ev.now _)
      · rw [if_pos rfl, if_neg h3]
        exact ev_neg (by omega) (Ev.now _)
  | succ e ih =>
    intro i hi h6
    have hlt : i < ls.length := by omega
    have hli := hb ls[i] (List.getElem_mem hlt)
    have hfl : (ls.take (i + 1)).flatten = (ls.take i).flatten ++ ls[i] := by rw [List.take_succ_eq_append_getElem hlt, List.flatten_append]; simp
    have w : wrap64 ((i : Int) + 1) = ((i + 1 : Nat) : Int) := by rw [w64 (by omega) (by omega)]; omega
    have hle : (ls.take (i + 1)).flatten.length ≤ ls.flatten.length := by
      have : ls.flatten = (ls.take (i + 1)).flatten ++ (ls.drop (i + 1)).flatten := by rw [← List.flatten_append, List.take_append_drop]
      rw [this, List.length_append]
      omega
    have hih := ih (i + 1) (by omega)
    rw [hfl] at hih hle
    refine Ev.step (fun k => by rw [spec_DecodeBase.l0]) ?_
    simp only [SL_length, rdOf_SL _ ls i hlt, size_S, append_S, w]
    refine ev_pos (by omega) (ev_pos (by omega) (ev_pos (by omega) ?_))
    by_cases h7 : ((ls.take i).flatten ++ ls[i]).length > 600
    · have : debR ls.flatten = (S [], false) := debR_neg (by
        rintro ⟨b, h1, h2⟩
        have := debR_len h1 h2
        omega)
      rw [this]
      exact ev_pos (by omega) (Ev.now _)
    · exact ev_neg (by omega) (hih (by omega))
theorem spec_deb (ls : List (List UInt8)) (hn : ls.length ≤ 1048576) (hb : ∀ l ∈ ls, l.length ≤ 1048576) : Ev (fun k => spec_DecodeBase.f k (SL ls)) (debR ls.flatten) := by
  simp only [spec_DecodeBase.f]
  exact spec_deb_loop ls hn hb ls.length 0 (by omega) (by simp)

theorem baseR_width (b : List UInt8) : ∃ ls, (baseR b).1 = SL ls ∧ ls.length ≤ 21 ∧ ∀ l ∈ ls, l.length ≤ 500 := by
  unfold baseR
  split
  · exact ⟨[], rfl, by simp, by simp⟩
  · rename_i h
    refine ⟨_, rfl, (lines40_length 20 (base b)).1, ?_⟩
    intro l hl
    have h1 : l.length ≤ (lines40 20 (base b)).flatten.length := by
      obtain ⟨i, hi, rfl⟩ := List.mem_iff_getElem.1 hl
      have e : (lines40 20 (base b)).flatten = ((lines40 20 (base b)).take i).flatten ++ ((lines40 20 (base b))[i] ++ ((lines40 20 (base b)).drop (i + 1)).flatten) := by
        rw [← List.flatten_cons, ← List.drop_eq_getElem_cons hi, ← List.flatten_append, List.take_append_drop]
      rw [e, List.length_append, List.length_append]
      omega
    rw [lines40_join, base_length] at h1
    omega
theorem drawdeb_ex (l : List Int) (h : Bytes l) : ∃ ls, ls.length ≤ 21 ∧ (∀ l ∈ ls, l.length ≤ 1000) ∧ Ev (fun k => spec_DrawDecodeBase.f k l) (SL ls) := by
  obtain ⟨b, hb, h1, h2⟩ := open_ex l h
  obtain ⟨t, q, _, hq0, hq1, h3⟩ := l5draw_ex b 0 h1 h2 (by omega) (by omega)
  obtain ⟨c, rfl⟩ := ex_S t
  have hQ := spec_baseR c
  obtain ⟨ls, e, hn, hw⟩ := baseR_width c
  by_cases h0 : ls.length = 0
  · refine ⟨ls, hn, fun l hl => by have := hw l hl; omega, ?_⟩
    simp only [spec_DrawDecodeBase.f, hb, Option.bind_some]
    refine Ev.bind h3 (Ev.bind hQ ?_)
    rw [e, SL_length]
    exact ev_neg (by omega) (Ev.now _)
  · obtain ⟨r, r0, r1, e2⟩ := pick_ev b q (ls.length : Int) h1 h2 hq0 (by omega) (by omega)
    obtain ⟨i, rfl⟩ := Int.eq_ofNat_of_zero_le r0
    have hi : i < ls.length := by omega
    have hwi := hw ls[i] (List.getElem_mem hi)
    obtain ⟨t, q2, ht, _, _, e3⟩ := bend_ex b (q + 1) (S ls[i]) ([(⟨#[]⟩ : ByteArray), (⟨#[61]⟩ : ByteArray), (⟨#[65]⟩ : ByteArray), (⟨#[122]⟩ : ByteArray), (⟨#[45]⟩ : ByteArray)] : List ByteArray) h1 h2 (by omega) (by omega) (by simp) (by
      intro x hx
      simp only [List.mem_cons, List.not_mem_nil, or_false] at hx
      rcases hx with rfl | rfl | rfl | rfl | rfl <;> decide) (by rw [size_S]; omega)
    obtain ⟨u, rfl⟩ := ex_S t
    rw [size_S, size_S] at ht
    refine ⟨ls.set i u, by rw [List.length_set]; exact hn, ?_, ?_⟩
    · intro l hl
      rcases List.mem_or_eq_of_mem_set hl with hl | rfl
      · have := hw l hl
        omega
      · omega
    · simp only [spec_DrawDecodeBase.f, hb, Option.bind_some]
      refine Ev.bind h3 (Ev.bind hQ ?_)
      rw [e, SL_length]
      refine ev_pos (by omega) (Ev.bind e2 ?_)
      refine ev_pos (by omega) (ev_pos (by omega) ?_)
      rw [rdOf_SL _ ls i hi]
      refine Ev.bind e3 (ev_is ?_)
      rw [Int.toNat_natCast]
      unfold SL
      rw [List.map_set]

theorem FnBaseBytes : laws_FnBaseBytes.Pure := by
  intro l0 l1 _ _ hw0 _ _ hw1
  refine Ev.rounds ?_
  simp only [laws_FnBaseBytes.f]
  have hT : Ev (fun k => laws_FnBaseBytes.j0 k l0 l1 true) true := by
    refine Ev.step (fun k => by rw [laws_FnBaseBytes.j0]) ?_
    exact ev_pos rfl (Ev.now _)
  have j2 : Ev (fun k => laws_FnBaseBytes.j2 k l1) true := by
    refine Ev.step (fun k => by rw [laws_FnBaseBytes.j2]) ?_
    obtain ⟨ls, hn, hb, hd⟩ := drawdeb_ex l1 (bytes_wf hw1)
    have hf : ls.flatten.length ≤ 21000 := by
      have h := flat_len ls 1000 hb
      have : ls.length * 1000 ≤ 21 * 1000 := Nat.mul_le_mul_right _ hn
      omega
    refine Ev.bind hd (Ev.bind (impl_deb ls (by omega) (by omega)) (Ev.bind (spec_deb ls (by omega) (fun l hl => by have := hb l hl; omega)) (ev_pos rfl (ev_neg (by simp) ?_))))
    by_cases h : ∃ b, b.length ≤ 300 ∧ base b = ls.flatten
    · obtain ⟨b, h1, h2⟩ := h
      have e : baseR b = (SL (lines40 20 (base b)), true) := by unfold baseR; rw [if_neg (by omega)]
      have hbl := base_length b
      rw [debR_pos h1 h2]
      refine Ev.step (fun k => by rw [laws_FnBaseBytes.j3]) ?_
      refine ev_neg (by simp) (Ev.bind (impl_baseR b) ?_)
      have hj := join_ev (lines40 20 (base b)) (by have := (lines40_length 20 (base b)).1; omega) (by rw [lines40_join]; omega)
      rw [lines40_join] at hj
      rw [e]
      refine ev_pos rfl (Ev.bind hj (Ev.bind (join_ev ls (by omega) (by omega)) (ev_is ?_)))
      rw [h2, beq_self_eq_true]
    · rw [debR_neg h]
      refine Ev.step (fun k => by rw [laws_FnBaseBytes.j3]) ?_
      exact ev_pos (by simp) (ev_pos rfl (ev_is (by simp)))
  by_cases hl : (l0.length : Int) > 1048576
  · exact ev_pos hl hT
  refine ev_neg hl ?_
  by_cases hl1 : (l1.length : Int) > 1048576
  · rw [decide_eq_true hl1]
    exact hT
  rw [decide_eq_false hl1]
  refine Ev.step (fun k => by rw [laws_FnBaseBytes.j0]) ?_
  refine ev_neg (by decide) ?_
  obtain ⟨t, hd⟩ := drawbase_ex l0 (bytes_wf hw0)
  obtain ⟨b, rfl⟩ := ex_S t
  have hlen := baseR_length b
  refine Ev.bind hd (Ev.bind (impl_baseR b) (Ev.bind (spec_baseR b) (Ev.bind (texts_self (baseR b).1 (by omega)) (ev_pos rfl ?_))))
  have e0 : ((baseR b).2 != (baseR b).2) = false := by simp
  rw [e0]
  refine Ev.step (fun k => by rw [laws_FnBaseBytes.j1]) ?_
  refine ev_neg (by decide) ?_
  by_cases ok : b.length > 300
  · have e : (baseR b).2 = false := by unfold baseR; rw [if_pos ok]
    rw [e]
    exact ev_neg (by decide) j2
  · have e : baseR b = (SL (lines40 20 (base b)), true) := by unfold baseR; rw [if_neg ok]
    have hbl := base_length b
    have h21 := (lines40_length 20 (base b)).1
    rw [e]
    have hdb := impl_deb (lines40 20 (base b)) (by omega) (by rw [lines40_join]; omega)
    rw [lines40_join, debR_pos (by omega) rfl] at hdb
    exact ev_pos rfl (Ev.bind hdb (ev_pos rfl (ev_pos rfl j2)))

end Go.Proofs.Ytenplenjpliciaa.PLFnBaseBytes
namespace Go.Proofs.Ytenplenjpliciaa.Pure
open Go.Proofs.Ytenplenjpliciaa.PFnBaseBytes
theorem FnBaseBytes : laws_FnBaseBytes.Pure := PLFnBaseBytes.FnBaseBytes
end Go.Proofs.Ytenplenjpliciaa.Pure
