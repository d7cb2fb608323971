/- The law FnBaseLines holds of the printed functions: divisions do not matter. No conditions. -/
import Derived.Test.YtenplenjpliciaaPFnBaseLinesx5
import Derived.Test.YtenplenjpliciaaMBase
import Derived.Test.YtenplenjpliciaaMStr
import Derived.Test.YtenplenjpliciaaMQuot
import Derived.Test.YtenplenjpliciaaMB64
import Derived.Test.YtenplenjpliciaaMDeb
namespace Go.Proofs.Ytenplenjpliciaa.PLFnBaseLines
open Go.RowKit Go.Proofs.Ytenplenjpliciaa.PFnBaseLines Go.Proofs.YtenplenjpliciaaW.PrintWords Go.Proofs.YtenplenjpliciaaW.PrintLast Go.Proofs.YtenplenjpliciaaW.PrintMore Go.Proofs.Ytenplenjpliciaa.M

theorem open_ex (l : List Int) (h : Bytes l) : ∃ b, spec_l13Open.f l = some (b, 0) ∧ Bytes b ∧ b.length ≤ 2000 := by
  unfold spec_l13Open.f
  by_cases e : (l.length : Int) > 2000
  · rw [if_pos e, if_pos (by omega)]
    exact ⟨_, rfl, bytes_take h _, by rw [List.length_take]; omega⟩
  · rw [if_neg e]
    exact ⟨_, rfl, h, by omega⟩

theorem pick_ev (b : List Int) (p n : Int) (hb : Bytes b) (hl : b.length ≤ 2000) (hp : 0 ≤ p) (hp1 : p ≤ 1000000) (hn : 1 ≤ n) :
    ∃ r, 0 ≤ r ∧ r < n ∧ Ev (fun k => spec_l13Rd_pick.f k b p n) (r, p + 1) := by
  have w1 : wrap64 (p + 1) = p + 1 := w64 (by omega) (by omega)
  have w2 : wrap64 (p + 1 - 1) = p := by
    rw [w64 (by omega) (by omega)]
    omega
  by_cases e0 : (b.length : Int) = 0
  · refine ⟨0, by omega, by omega, ?_⟩
    simp only [spec_l13Rd_pick.f]
    refine ev_neg (by omega) ?_
    rw [w1]
    refine Ev.step (fun k => by rw [spec_l13Rd_pick.j0]) ?_
    refine ev_pos (by simp [e0]) ?_
    exact Ev.now _
  · have f0 : ((b.length : Int) == 0) = false := beq_eq_false_iff_ne.mpr e0
    by_cases e1 : p < (b.length : Int)
    · obtain ⟨r0, r1⟩ := rd_bytes hb p
      have w3 : wrap64 (rd b p) = rd b p := w64 (by omega) (by omega)
      refine ⟨rd b p % n, Int.emod_nonneg _ (by omega), Int.emod_lt_of_pos _ (by omega), ?_⟩
      simp only [spec_l13Rd_pick.f]
      refine ev_neg (by omega) ?_
      rw [w1, f0]
      refine Ev.step (fun k => by rw [spec_l13Rd_pick.j0]) ?_
      simp only [w2, w3]
      refine ev_neg (by simp) (ev_pos e1 (ev_pos hp (ev_neg (by omega) ?_)))
      rw [Int.tmod_eq_emod_of_nonneg r0]
      exact Ev.now _
    · have hL : (0 : Int) < (b.length : Int) := by omega
      have t1 : Int.tmod p (b.length : Int) = p % (b.length : Int) := Int.tmod_eq_emod_of_nonneg hp
      have w4 : wrap64 (p * 7) = p * 7 := w64 (by omega) (by omega)
      have w5 : wrap64 (p * 7 + 3) = p * 7 + 3 := w64 (by omega) (by omega)
      have t2 : Int.tmod (p * 7 + 3) (b.length : Int) = (p * 7 + 3) % (b.length : Int) := Int.tmod_eq_emod_of_nonneg (by omega)
      have a0 := Int.emod_nonneg p (b := (b.length : Int)) (by omega)
      have a1 := Int.emod_lt_of_pos p hL
      have c0 := Int.emod_nonneg (p * 7 + 3) (b := (b.length : Int)) (by omega)
      have c1 := Int.emod_lt_of_pos (p * 7 + 3) hL
      obtain ⟨x0, x1⟩ := rd_bytes hb (p % (b.length : Int))
      obtain ⟨y0, y1⟩ := rd_bytes hb ((p * 7 + 3) % (b.length : Int))
      have d1 : Int.tdiv p (b.length : Int) = p / (b.length : Int) := Int.tdiv_eq_ediv_of_nonneg hp
      have d2 : 0 ≤ p / (b.length : Int) := Int.ediv_nonneg hp (by omega)
      have d3 : p / (b.length : Int) ≤ p := Int.ediv_le_self _ hp
      have ew1 : wrap64 (rd b (p % (b.length : Int))) = rd b (p % (b.length : Int)) := w64 (by omega) (by omega)
      have ew2 : wrap64 (rd b ((p * 7 + 3) % (b.length : Int))) = rd b ((p * 7 + 3) % (b.length : Int)) := w64 (by omega) (by omega)
      have ew3 : wrap64 (p / (b.length : Int)) = p / (b.length : Int) := w64 (by omega) (by omega)
      have hz : ∀ x y q : Int, 0 ≤ x → x < 256 → 0 ≤ y → y < 256 → 0 ≤ q → q ≤ p →
          wrap64 ((wrap64 ((wrap64 ((wrap64 (x * 131)) + (wrap64 (y * 1117)))) + (wrap64 (p * 29)))) + (wrap64 (q * 53))) = x * 131 + y * 1117 + p * 29 + q * 53 := by
        intro x y q hx hx1 hy hy1 hq hq1
        rw [w64 (n := x * 131) (by omega) (by omega), w64 (n := y * 1117) (by omega) (by omega), w64 (n := p * 29) (by omega) (by omega), w64 (n := q * 53) (by omega) (by omega),
          w64 (n := x * 131 + y * 1117) (by omega) (by omega), w64 (n := x * 131 + y * 1117 + p * 29) (by omega) (by omega), w64 (by omega) (by omega)]
      have hz' := hz _ _ _ x0 x1 y0 y1 d2 d3
      obtain ⟨S, hS⟩ : ∃ S, S = rd b (p % (b.length : Int)) * 131 + rd b ((p * 7 + 3) % (b.length : Int)) * 1117 + p * 29 + p / (b.length : Int) * 53 := ⟨_, rfl⟩
      rw [← hS] at hz'
      have s0 : 0 ≤ S ∧ S < 1000000000 := by omega
      have s1 : Int.tdiv S 64 = S / 64 := Int.tdiv_eq_ediv_of_nonneg s0.1
      have s2 : wrap64 (S / 64) = S / 64 := w64 (by omega) (by omega)
      have hx := xor_nonneg (x := S) (y := S / 64) (by omega) (by omega) (by omega) (by omega)
      refine ⟨bits .xor .i64 S (S / 64) % n, Int.emod_nonneg _ (by omega), Int.emod_lt_of_pos _ (by omega), ?_⟩
      simp only [spec_l13Rd_pick.f]
      refine ev_neg (by omega) ?_
      rw [w1, f0]
      refine Ev.step (fun k => by rw [spec_l13Rd_pick.j0]) ?_
      simp only [w2, t1, w4, w5, t2, d1, ew1, ew2, ew3, hz', s1, s2]
      refine ev_neg (by simp) (ev_neg e1 (ev_neg e0 (ev_pos a0 (ev_pos a1 (ev_pos c0 (ev_pos c1 (ev_neg (by omega) ?_)))))))
      rw [Int.tmod_eq_emod_of_nonneg hx]
      exact Ev.now _

theorem num_ev (b : List Int) (p : Int) (l : List Int) (hb : Bytes b) (hl : b.length ≤ 2000) (hp : 0 ≤ p) (hp1 : p ≤ 1000000) (hn : 1 ≤ l.length) :
    ∃ r, 0 ≤ r ∧ r < (l.length : Int) ∧ Ev (fun k => spec_l13Rd_num.f k b p l) (rd l r, p + 1) := by
  obtain ⟨r, h0, h1, h⟩ := pick_ev b p (l.length : Int) hb hl hp hp1 (by omega)
  refine ⟨r, h0, h1, ?_⟩
  simp only [spec_l13Rd_num.f]
  refine Ev.bind h ?_
  exact ev_pos h0 (ev_pos h1 (Ev.now _))

theorem of_ev (b : List Int) (p : Int) (l : List ByteArray) (hb : Bytes b) (hl : b.length ≤ 2000) (hp : 0 ≤ p) (hp1 : p ≤ 1000000) (hn : 1 ≤ l.length) :
    ∃ x ∈ l, Ev (fun k => spec_l13Rd_of.f k b p l) (x, p + 1) := by
  obtain ⟨r, h0, h1, h⟩ := pick_ev b p (l.length : Int) hb hl hp hp1 (by omega)
  have hr : r.toNat < l.length := by omega
  refine ⟨l[r.toNat], List.getElem_mem hr, ?_⟩
  have e : rdOf ByteArray.empty l r = l[r.toNat] := by
    unfold rdOf
    rw [List.getD_eq_getElem?_getD, List.getElem?_eq_getElem hr]
    rfl
  simp only [spec_l13Rd_of.f]
  refine Ev.bind h ?_
  refine ev_pos h0 (ev_pos h1 ?_)
  rw [e]
  exact Ev.now _

/-- Long strings grow past the limit. -/
theorem l5long_ex (b : List Int) (p : Int) : ∀ (d : Nat) (s : ByteArray), s.size ≤ 100000 → 301 - s.size ≤ d → ∃ t, t.size ≤ 100000 ∧ Ev (fun k => spec_l5Draw.l1 k s b p) (t, p) := by
  intro d
  induction d with
  | zero =>
    intro s hs hd
    refine ⟨s, hs, ?_⟩
    refine Ev.step (fun k => by rw [spec_l5Draw.l1]) ?_
    exact ev_neg (by omega) (Ev.now _)
  | succ d ih =>
    intro s hs hd
    by_cases c : (s.size : Int) ≤ 300
    · have hz : (s ++ (⟨#[48, 49, 50, 51, 52, 53, 54, 55, 56, 57]⟩ : ByteArray)).size = s.size + 10 := by rw [ByteArray.size_append]; rfl
      obtain ⟨t, ht, h⟩ := ih (s ++ (⟨#[48, 49, 50, 51, 52, 53, 54, 55, 56, 57]⟩ : ByteArray)) (by omega) (by omega)
      refine ⟨t, ht, ?_⟩
      refine Ev.step (fun k => by rw [spec_l5Draw.l1]) ?_
      exact ev_pos c (ev_pos (by omega) h)
    · refine ⟨s, hs, ?_⟩
      refine Ev.step (fun k => by rw [spec_l5Draw.l1]) ?_
      exact ev_neg c (Ev.now _)

theorem l5loop_ex (b : List Int) (hb : Bytes b) (hl : b.length ≤ 2000) : ∀ (n : Nat) (s : ByteArray) (p : Int), n ≤ 8 → 0 ≤ p → p + n ≤ 1000 → s.size + 50 * n ≤ 1000 →
    ∃ t q, t.size ≤ 100000 ∧ 0 ≤ q ∧ q ≤ 2000 ∧ Ev (fun k => spec_l5Draw.l0 k s (n : Int) b p) (t, q) := by
  intro n
  induction n with
  | zero =>
    intro s p h8 hp hp1 hs
    obtain ⟨r, h0, h1, h⟩ := pick_ev b p 40 hb hl hp (by omega) (by omega)
    by_cases c : r = 0
    · obtain ⟨t, ht, h2⟩ := l5long_ex b (p + 1) 301 s (by omega) (by omega)
      refine ⟨t, p + 1, ht, by omega, by omega, ?_⟩
      refine Ev.step (fun k => by rw [spec_l5Draw.l0]) ?_
      refine ev_neg (by omega) ?_
      refine Ev.bind h ?_
      exact ev_pos c h2
    · refine ⟨s, p + 1, by omega, by omega, by omega, ?_⟩
      refine Ev.step (fun k => by rw [spec_l5Draw.l0]) ?_
      refine ev_neg (by omega) ?_
      refine Ev.bind h ?_
      exact ev_neg c (Ev.now _)
  | succ n ih =>
    intro s p h8 hp hp1 hs
    obtain ⟨x, hx, h⟩ := of_ev b p ([(⟨#[104, 101, 108, 108, 111]⟩ : ByteArray), (⟨#[32]⟩ : ByteArray), (⟨#[61]⟩ : ByteArray), (⟨#[10]⟩ : ByteArray), (⟨#[255, 0]⟩ : ByteArray), (⟨#[99, 97, 102, 195, 169]⟩ : ByteArray), (⟨#[97, 32, 108, 111, 110, 103, 101, 114, 32, 114, 111, 119, 32, 111, 102, 32, 119, 111, 114, 100, 115, 32, 116, 104, 97, 116, 32, 105, 115, 32, 98, 114, 111, 107, 101, 110, 32, 104, 101, 114, 101]⟩ : ByteArray), (⟨#[120]⟩ : ByteArray), (⟨#[46]⟩ : ByteArray), (⟨#[9]⟩ : ByteArray)] : List ByteArray) hb hl hp (by omega) (by simp)
    have hxs : x.size ≤ 50 := by
      simp only [List.mem_cons, List.not_mem_nil, or_false] at hx
      rcases hx with rfl | rfl | rfl | rfl | rfl | rfl | rfl | rfl | rfl | rfl <;> decide
    obtain ⟨t, q, ht, hq0, hq1, h2⟩ := ih (s ++ x) (p + 1) (by omega) (by omega) (by omega) (by rw [ByteArray.size_append]; omega)
    refine ⟨t, q, ht, hq0, hq1, ?_⟩
    have w : wrap64 (((n + 1 : Nat) : Int) - 1) = (n : Int) := by rw [w64 (by omega) (by omega)]; omega
    refine Ev.step (fun k => by rw [spec_l5Draw.l0]) ?_
    refine ev_pos (by omega) ?_
    refine Ev.bind h ?_
    refine ev_pos (show s.size + x.size ≤ 9223372036854775807 by omega) ?_
    rw [w]
    exact h2

theorem l5draw_ex (b : List Int) (p : Int) (hb : Bytes b) (hl : b.length ≤ 2000) (hp : 0 ≤ p) (hp1 : p ≤ 100) :
    ∃ t q, t.size ≤ 100000 ∧ 0 ≤ q ∧ q ≤ 2000 ∧ Ev (fun k => spec_l5Draw.f k b p) (t, q) := by
  obtain ⟨r, h0, h1, h⟩ := num_ev b p [3, 2, 5, 1, 0, 8] hb hl hp (by omega) (by simp)
  simp only [List.length_cons, List.length_nil] at h1
  have hr : ∃ n : Nat, n ≤ 8 ∧ rd [3, 2, 5, 1, 0, 8] r = (n : Int) := by
    have : r = 0 ∨ r = 1 ∨ r = 2 ∨ r = 3 ∨ r = 4 ∨ r = 5 := by omega
    rcases this with rfl | rfl | rfl | rfl | rfl | rfl
    · exact ⟨3, by omega, rfl⟩
    · exact ⟨2, by omega, rfl⟩
    · exact ⟨5, by omega, rfl⟩
    · exact ⟨1, by omega, rfl⟩
    · exact ⟨0, by omega, rfl⟩
    · exact ⟨8, by omega, rfl⟩
  obtain ⟨n, hn, e⟩ := hr
  rw [e] at h
  obtain ⟨t, q, ht, hq0, hq1, h2⟩ := l5loop_ex b hb hl n (⟨#[]⟩ : ByteArray) (p + 1) hn (by omega) (by omega) (by show 0 + 50 * n ≤ 1000; omega)
  refine ⟨t, q, ht, hq0, hq1, ?_⟩
  simp only [spec_l5Draw.f]
  refine Ev.bind h ?_
  exact h2

theorem drawbase_ex (l : List Int) (h : Bytes l) : ∃ t, Ev (fun k => spec_DrawEncodeBase.f k l) t := by
  obtain ⟨b, hb, h1, h2⟩ := open_ex l h
  obtain ⟨t, q, _, _, _, h3⟩ := l5draw_ex b 0 h1 h2 (by omega) (by omega)
  refine ⟨t, ?_⟩
  simp only [spec_DrawEncodeBase.f, hb, Option.bind_some]
  refine Ev.bind h3 ?_
  exact Ev.now _

theorem spec_letters : spec_l5Letters.f = some (S b64) := rfl

theorem shr_is (n : Int) (j : Nat) (hj : j < 4) (v : Int) (e : v = n / 2 ^ (18 - 6 * j)) : shr .i64 n (wrap64 (18 - (wrap64 (6 * (j : Int))))) = v := by
  have w1 : wrap64 (6 * (j : Int)) = 6 * (j : Int) := w64 (by omega) (by omega)
  have w2 : wrap64 (18 - 6 * (j : Int)) = 18 - 6 * (j : Int) := w64 (by omega) (by omega)
  rw [w1, w2, e]
  unfold shr
  have : min (18 - 6 * (j : Int)).toNat IntKind.i64.bits = 18 - 6 * j := by
    show min (18 - 6 * (j : Int)).toNat 64 = _
    omega
  rw [this]

theorem spec_base_letter {b out : List UInt8} {i j : Nat} {n m : Nat} {R : ByteArray} (hj : j < 4) (hi : i + j ≤ b.length) (hb : b.length ≤ 500) (ho : out.length ≤ 2000) (hn : n < 16777216)
    (hm : m = n / 2 ^ (18 - 6 * j) % 64)
    (H : Ev (fun k => spec_l5Base.l1 k (S b) (S (out ++ [let6 m])) (i : Int) (n : Int) ((j + 1 : Nat) : Int)) R) :
    Ev (fun k => spec_l5Base.l1 k (S b) (S out) (i : Int) (n : Int) (j : Int)) R := by
  have w : wrap64 ((i : Int) + (j : Int)) = ((i + j : Nat) : Int) := by rw [w64 (by omega) (by omega)]; omega
  have w2 : wrap64 ((j : Int) + 1) = ((j + 1 : Nat) : Int) := by rw [w64 (by omega) (by omega)]; omega
  have hp : (2 : Int) ^ (18 - 6 * j) = ((2 ^ (18 - 6 * j) : Nat) : Int) := by simp
  have hq : ((n / 2 ^ (18 - 6 * j) : Nat) : Int) = (n : Int) / 2 ^ (18 - 6 * j) := by rw [hp, Int.natCast_ediv]
  have hs := shr_is (n : Int) j hj ((n / 2 ^ (18 - 6 * j) : Nat) : Int) hq
  have hle : n / 2 ^ (18 - 6 * j) ≤ n := Nat.div_le_self _ _
  have ha : bits .and .i64 ((n / 2 ^ (18 - 6 * j) : Nat) : Int) 63 = (m : Int) := by
    rw [and63 (Int.natCast_nonneg _) (by omega), hm]
    exact (Int.natCast_emod _ 64).symm
  have hm64 : m < 64 := by omega
  have w3 : wrap64 ((m : Int) + 1) = ((m + 1 : Nat) : Int) := by rw [w64 (by omega) (by omega)]; omega
  have w4 : 0 ≤ wrap64 (18 - wrap64 (6 * (j : Int))) := by
    rw [w64 (n := 6 * (j : Int)) (by omega) (by omega), w64 (by omega) (by omega)]
    omega
  have hx : (S b64).extract m (m + 1) = S [let6 m] := extract_one b64 m (by rw [b64_length]; exact hm64)
  refine Ev.step (fun k => by rw [spec_l5Base.l1]) ?_
  simp only [w, w2, hs, ha, w3, size_S, spec_letters, Int.toNat_natCast]
  clear hp hq hs hle ha hm w w2 w3
  refine ev_pos (by omega) (ev_neg (by omega) (ev_pos w4 ?_))
  clear w4
  refine ev_bind0 rfl ?_
  simp only [size_S, hx, b64_length, append_S]
  clear hx
  refine ev_pos (by omega) (ev_pos (by omega) (ev_pos (by omega) (ev_pos (by simp; omega) ?_)))
  exact H

theorem spec_base_pad {b out : List UInt8} {i j : Nat} {n : Int} {R : ByteArray} (hj : j < 4) (hi : b.length < i + j) (hi2 : i ≤ b.length) (hb : b.length ≤ 500) (ho : out.length ≤ 2000)
    (H : Ev (fun k => spec_l5Base.l1 k (S b) (S (out ++ [61])) (i : Int) n ((j + 1 : Nat) : Int)) R) :
    Ev (fun k => spec_l5Base.l1 k (S b) (S out) (i : Int) n (j : Int)) R := by
  have w : wrap64 ((i : Int) + (j : Int)) = ((i + j : Nat) : Int) := by rw [w64 (by omega) (by omega)]; omega
  have w2 : wrap64 ((j : Int) + 1) = ((j + 1 : Nat) : Int) := by rw [w64 (by omega) (by omega)]; omega
  refine Ev.step (fun k => by rw [spec_l5Base.l1]) ?_
  simp only [w, w2, size_S, mk_S, append_S]
  refine ev_pos (by omega) (ev_pos (by omega) (ev_pos (by omega) ?_))
  exact H

theorem spec_base_end {b out : List UInt8} {i : Nat} {n : Int} {R : ByteArray} (hb : i ≤ 600) (H : Ev (fun k => spec_l5Base.l0 k (S b) (S out) ((i + 3 : Nat) : Int)) R) :
    Ev (fun k => spec_l5Base.l1 k (S b) (S out) (i : Int) n ((4 : Nat) : Int)) R := by
  have w : wrap64 ((i : Int) + 3) = ((i + 3 : Nat) : Int) := by rw [w64 (by omega) (by omega)]; omega
  refine Ev.step (fun k => by rw [spec_l5Base.l1]) ?_
  rw [w]
  exact ev_neg (by omega) H

theorem getD_at {l : List UInt8} {i : Nat} (h : i < l.length) : l.getD i 0 = l[i] := by rw [List.getD_eq_getElem?_getD, List.getElem?_eq_getElem h]; rfl

set_option maxHeartbeats 1000000 in
theorem spec_base_loop (b : List UInt8) (hb : b.length ≤ 500) : ∀ (e i : Nat) (out : List UInt8), b.length ≤ i + 3 * e → i ≤ b.length + 2 → out.length ≤ 2 * i →
    Ev (fun k => spec_l5Base.l0 k (S b) (S out) (i : Int)) (S (out ++ base (b.drop i))) := by
  intro e
  induction e with
  | zero =>
    intro i out hi hi2 ho
    refine Ev.step (fun k => by rw [spec_l5Base.l0]) ?_
    rw [size_S, List.drop_of_length_le (by omega)]
    refine ev_neg (by omega) ?_
    rw [base, List.append_nil]
    exact Ev.now _
  | succ e ih =>
    intro i out hi hi2 ho
    refine Ev.step (fun k => by rw [spec_l5Base.l0]) ?_
    rw [size_S]
    by_cases c0 : b.length ≤ i
    · rw [List.drop_of_length_le c0]
      refine ev_neg (by omega) ?_
      rw [base, List.append_nil]
      exact Ev.now _
    have h0 : i < b.length := by omega
    have x0 := b[i].toNat_lt
    obtain ⟨w1, w2⟩ : wrap64 ((i : Int) + 1) = ((i + 1 : Nat) : Int) ∧ wrap64 ((i : Int) + 2) = ((i + 2 : Nat) : Int) :=
      ⟨by rw [w64 (by omega) (by omega)]; omega, by rw [w64 (by omega) (by omega)]; omega⟩
    have wa : wrap64 (b[i].toNat : Int) = (b[i].toNat : Int) := w64 (by omega) (by omega)
    have wb : wrap64 ((b[i].toNat : Int) * 65536) = ((b[i].toNat * 65536 : Nat) : Int) := by rw [w64 (by omega) (by omega)]; omega
    simp only [bt_S, w1, Int.toNat_natCast, getD_at h0, wa, wb]
    clear wa wb w1
    refine ev_pos (by omega) (ev_pos (by omega) ?_)
    by_cases c1 : b.length ≤ i + 1
    · -- one byte is left
      refine ev_neg (by omega) ?_
      have hd : b.drop i = [b[i]] := by rw [drop_cons h0, List.drop_of_length_le (by omega)]
      refine Ev.step (fun k => by rw [spec_l5Base.j1]) ?_
      rw [size_S, w2]
      clear w2
      refine ev_neg (by omega) ?_
      refine Ev.step (fun k => by rw [spec_l5Base.j2]) ?_
      refine spec_base_letter (j := 0) (m := b[i].toNat / 4) (by omega) (by omega) hb (by omega) (by omega) (six0a (u8_lt _) rfl) ?_
      refine spec_base_letter (j := 1) (m := b[i].toNat % 4 * 16) (by omega) (by omega) hb (by simp; omega) (by omega) (six1' rfl) ?_
      refine spec_base_pad (j := 2) (by omega) (by omega) (by omega) hb (by simp; omega) ?_
      refine spec_base_pad (j := 3) (by omega) (by omega) (by omega) hb (by simp; omega) ?_
      refine spec_base_end (by omega) ?_
      have := ih (i + 3) ((((out ++ [let6 (b[i].toNat / 4)]) ++ [let6 (b[i].toNat % 4 * 16)]) ++ [61]) ++ [61]) (by omega) (by omega) (by simp; omega)
      rw [List.drop_of_length_le (by omega : b.length ≤ i + 3), base, List.append_nil] at this
      rw [hd, base]
      simpa using this
    have h1 : i + 1 < b.length := by omega
    have x1 := b[i + 1].toNat_lt
    have wc : wrap64 (b[i + 1].toNat : Int) = (b[i + 1].toNat : Int) := w64 (by omega) (by omega)
    have wd : wrap64 ((b[i + 1].toNat : Int) * 256) = ((b[i + 1].toNat * 256 : Nat) : Int) := by rw [w64 (by omega) (by omega)]; omega
    have we : wrap64 (((b[i].toNat * 65536 : Nat) : Int) + ((b[i + 1].toNat * 256 : Nat) : Int)) = ((b[i].toNat * 65536 + b[i + 1].toNat * 256 : Nat) : Int) := by rw [w64 (by omega) (by omega)]; omega
    simp only [getD_at h1, wc, wd, we]
    clear wc wd we
    refine ev_pos (by omega) (ev_pos (by omega) ?_)
    refine Ev.step (fun k => by rw [spec_l5Base.j1]) ?_
    rw [size_S, w2]
    clear w2
    by_cases c2 : b.length ≤ i + 2
    · -- two bytes are left
      refine ev_neg (by omega) ?_
      have hd : b.drop i = [b[i], b[i + 1]] := by rw [drop_cons h0, drop_cons h1, List.drop_of_length_le (by omega)]
      refine Ev.step (fun k => by rw [spec_l5Base.j2]) ?_
      refine spec_base_letter (j := 0) (m := b[i].toNat / 4) (by omega) (by omega) hb (by omega) (by omega) (six0b (u8_lt _) (u8_lt b[i + 1]) rfl) ?_
      refine spec_base_letter (j := 1) (m := b[i].toNat % 4 * 16 + b[i + 1].toNat / 16) (by omega) (by omega) hb (by simp; omega) (by omega) (six1b (u8_lt _) rfl) ?_
      refine spec_base_letter (j := 2) (m := b[i + 1].toNat % 16 * 4) (by omega) (by omega) hb (by simp; omega) (by omega) (six2' rfl) ?_
      refine spec_base_pad (j := 3) (by omega) (by omega) (by omega) hb (by simp; omega) ?_
      refine spec_base_end (by omega) ?_
      have := ih (i + 3) ((((out ++ [let6 (b[i].toNat / 4)]) ++ [let6 (b[i].toNat % 4 * 16 + b[i + 1].toNat / 16)]) ++ [let6 (b[i + 1].toNat % 16 * 4)]) ++ [61]) (by omega) (by omega) (by simp; omega)
      rw [List.drop_of_length_le (by omega : b.length ≤ i + 3), base, List.append_nil] at this
      rw [hd, base]
      simpa using this
    -- three bytes and more
    have h2 : i + 2 < b.length := by omega
    have x2 := b[i + 2].toNat_lt
    have wf : wrap64 (b[i + 2].toNat : Int) = (b[i + 2].toNat : Int) := w64 (by omega) (by omega)
    have wg : wrap64 (((b[i].toNat * 65536 + b[i + 1].toNat * 256 : Nat) : Int) + (b[i + 2].toNat : Int)) = ((b[i].toNat * 65536 + b[i + 1].toNat * 256 + b[i + 2].toNat : Nat) : Int) := by rw [w64 (by omega) (by omega)]; omega
    have hd : b.drop i = b[i] :: b[i + 1] :: b[i + 2] :: b.drop (i + 3) := by rw [drop_cons h0, drop_cons h1, drop_cons h2]
    simp only [bt_S, Int.toNat_natCast, getD_at h2, wf, wg]
    clear wf wg
    refine ev_pos (by omega) (ev_pos (by omega) ?_)
    refine Ev.step (fun k => by rw [spec_l5Base.j2]) ?_
    refine spec_base_letter (j := 0) (m := b[i].toNat / 4) (by omega) (by omega) hb (by omega) (by omega) (six0 (u8_lt _) (u8_lt b[i + 1]) (u8_lt b[i + 2]) rfl) ?_
    refine spec_base_letter (j := 1) (m := b[i].toNat % 4 * 16 + b[i + 1].toNat / 16) (by omega) (by omega) hb (by simp; omega) (by omega) (six1 (u8_lt _) (u8_lt b[i + 2]) rfl) ?_
    refine spec_base_letter (j := 2) (m := b[i + 1].toNat % 16 * 4 + b[i + 2].toNat / 64) (by omega) (by omega) hb (by simp; omega) (by omega) (six2 (u8_lt _) rfl) ?_
    refine spec_base_letter (j := 3) (m := b[i + 2].toNat % 64) (by omega) (by omega) hb (by simp; omega) (by omega) (six3 rfl) ?_
    refine spec_base_end (by omega) ?_
    have := ih (i + 3) ((((out ++ [let6 (b[i].toNat / 4)]) ++ [let6 (b[i].toNat % 4 * 16 + b[i + 1].toNat / 16)]) ++ [let6 (b[i + 1].toNat % 16 * 4 + b[i + 2].toNat / 64)]) ++ [let6 (b[i + 2].toNat % 64)]) (by omega) (by omega) (by simp; omega)
    rw [hd, base]
    simpa using this

theorem spec_base (b : List UInt8) (hb : b.length ≤ 500) : Ev (fun k => spec_l5Base.f k (S b)) (S (base b)) := by
  simp only [spec_l5Base.f]
  have := spec_base_loop b hb 170 0 [] (by omega) (by omega) (by simp)
  rw [List.drop_zero, List.nil_append] at this
  exact this


theorem spec_lines_loop : ∀ (n : Nat) (s : List UInt8) (outs : List (List UInt8)), s.length ≤ 40 * n → s.length ≤ 100000 → outs.length + n ≤ 100000 →
    Ev (fun k => spec_l5Lines.l0 k (S s) 40 (SL outs)) (SL (outs ++ lines40 n s)) := by
  intro n
  induction n with
  | zero =>
    intro s outs hs hs2 ho
    refine Ev.step (fun k => by rw [spec_l5Lines.l0]) ?_
    rw [size_S, SL_length, SL_one, SL_append]
    refine ev_neg (by omega) (ev_pos (by omega) (Ev.now _))
  | succ n ih =>
    intro s outs hs hs2 ho
    refine Ev.step (fun k => by rw [spec_l5Lines.l0]) ?_
    simp only [size_S, SL_length, extract_S, SL_one, SL_append]
    by_cases c : s.length > 40
    · refine ev_pos (by omega) (ev_pos (by omega) (ev_pos (by omega) (ev_pos (by omega) ?_)))
      have e1 : ((s.drop ((40 : Int)).toNat).take (s.length - ((40 : Int)).toNat)) = s.drop 40 := by
        show (s.drop 40).take (s.length - 40) = s.drop 40
        rw [List.take_of_length_le (by rw [List.length_drop]; omega)]
      have e2 : ((s.drop 0).take (((40 : Int)).toNat - 0)) = s.take 40 := rfl
      rw [e1, e2]
      have := ih (s.drop 40) (outs ++ [s.take 40]) (by rw [List.length_drop]; omega) (by rw [List.length_drop]; omega) (by simp; omega)
      rw [lines40, if_pos c]
      simpa using this
    · refine ev_neg (by omega) (ev_pos (by omega) ?_)
      rw [lines40, if_neg c]
      exact Ev.now _

theorem spec_baseR (b : List UInt8) : Ev (fun k => spec_EncodeBase.f k (S b)) (baseR b) := by
  simp only [spec_EncodeBase.f, size_S]
  unfold baseR
  by_cases h : b.length > 300
  · rw [if_pos h]
    exact ev_pos (by omega) (Ev.now _)
  · rw [if_neg h]
    refine ev_neg (by omega) ?_
    refine Ev.bind (spec_base b (by omega)) ?_
    have hbl := base_length b
    have := spec_lines_loop 20 (base b) [] (by omega) (by omega) (by simp)
    rw [List.nil_append] at this
    refine Ev.bind (show Ev (fun k => spec_l5Lines.f k (S (base b)) 40) (SL (lines40 20 (base b))) from this) ?_
    exact Ev.now _

theorem impl_digits {b out : List UInt8} {i many n : Nat} {R : ByteArray} (hn : n < 16777216) (hm : many ≤ 3)
    (H : Ev (fun k => impl_letters.l2 k (S b) (NI out) (i : Int) (NI [let6 (n / 262144), let6 (n / 4096 % 64), let6 (n / 64 % 64), let6 (n % 64)]) ((many + 1 : Nat) : Int)) R) :
    Ev (fun k => impl_letters.l1 k (S b) (NI out) (i : Int) (many : Int) (n : Int) ((3 : Nat) : Int)) R := by
  have w : wrap64 ((many : Int) + 1) = ((many + 1 : Nat) : Int) := by rw [w64 (by omega) (by omega)]; omega
  have e0 : (n : Int) / 262144 = ((n / 262144 : Nat) : Int) := by omega
  have e1 : bits .and .i64 ((n : Int) / 4096) 63 = ((n / 4096 % 64 : Nat) : Int) := by rw [and63 (by omega) (by omega)]; omega
  have e2 : bits .and .i64 ((n : Int) / 64) 63 = ((n / 64 % 64 : Nat) : Int) := by rw [and63 (by omega) (by omega)]; omega
  have e3 : bits .and .i64 (n : Int) 63 = ((n % 64 : Nat) : Int) := by rw [and63 (by omega) (by omega)]; omega
  have el : ∀ x : Nat, bt (⟨#[65, 66, 67, 68, 69, 70, 71, 72, 73, 74, 75, 76, 77, 78, 79, 80, 81, 82, 83, 84, 85, 86, 87, 88, 89, 90, 97, 98, 99, 100, 101, 102, 103, 104, 105, 106, 107, 108, 109, 110, 111, 112, 113, 114, 115, 116, 117, 118, 119, 120, 121, 122, 48, 49, 50, 51, 52, 53, 54, 55, 56, 57, 43, 47]⟩ : ByteArray) (x : Int) = ((let6 x).toNat : Int) := by
    intro x
    exact bt_S b64 (x : Int)
  have hl : ([((let6 (n / 262144)).toNat : Int), ((let6 (n / 4096 % 64)).toNat : Int), ((let6 (n / 64 % 64)).toNat : Int), ((let6 (n % 64)).toNat : Int)] : List Int) = NI [let6 (n / 262144), let6 (n / 4096 % 64), let6 (n / 64 % 64), let6 (n % 64)] := rfl
  refine Ev.step (fun k => by rw [impl_letters.l1]) ?_
  simp only [w, e0, e1, e2, e3, el, hl]
  clear w e0 e1 e2 e3 el hl
  refine ev_neg (by omega) (ev_pos (by omega) (ev_pos (by omega) (ev_pos (by omega) (ev_pos (by omega) (ev_pos (by omega) (ev_pos (by omega) (ev_pos (by omega) (ev_pos (by omega) ?_))))))))
  exact H

theorem impl_take {b out : List UInt8} {i many j n : Nat} {R : ByteArray} (c : UInt8) (hc : b.getD (i + j) 0 = c) (hj : j < 3) (hjm : j < many) (hi : i + j < b.length) (hb : b.length ≤ 300) (hn : n < 65536)
    (H : Ev (fun k => impl_letters.l1 k (S b) (NI out) (i : Int) (many : Int) ((n * 256 + c.toNat : Nat) : Int) ((j + 1 : Nat) : Int)) R) :
    Ev (fun k => impl_letters.l1 k (S b) (NI out) (i : Int) (many : Int) (n : Int) (j : Int)) R := by
  have x0 := c.toNat_lt
  obtain ⟨w, w2⟩ : wrap64 ((i : Int) + (j : Int)) = ((i + j : Nat) : Int) ∧ wrap64 ((j : Int) + 1) = ((j + 1 : Nat) : Int) := ⟨by rw [w64 (by omega) (by omega)]; omega, by rw [w64 (by omega) (by omega)]; omega⟩
  have w3 : wrap64 ((c.toNat : Nat) : Int) = ((c.toNat : Nat) : Int) := w64 (by omega) (by omega)
  have w4 : wrap64 ((n : Int) * 256) = ((n * 256 : Nat) : Int) := by rw [w64 (by omega) (by omega)]; omega
  have w5 : wrap64 (((n * 256 : Nat) : Int) + ((c.toNat : Nat) : Int)) = ((n * 256 + c.toNat : Nat) : Int) := by rw [w64 (by omega) (by omega)]; omega
  refine Ev.step (fun k => by rw [impl_letters.l1]) ?_
  simp only [w, w2, size_S, bt_S, Int.toNat_natCast, hc, w3, w4, w5]
  clear w w2 w3 w4 w5
  refine ev_pos (by omega) (ev_pos (by omega) (ev_pos (by omega) (ev_pos (by omega) ?_)))
  exact H

theorem impl_skip {b out : List UInt8} {i many j n : Nat} {R : ByteArray} (hj : j < 3) (hjm : many ≤ j) (hn : n < 65536)
    (H : Ev (fun k => impl_letters.l1 k (S b) (NI out) (i : Int) (many : Int) ((n * 256 : Nat) : Int) ((j + 1 : Nat) : Int)) R) :
    Ev (fun k => impl_letters.l1 k (S b) (NI out) (i : Int) (many : Int) (n : Int) (j : Int)) R := by
  have w2 : wrap64 ((j : Int) + 1) = ((j + 1 : Nat) : Int) := by rw [w64 (by omega) (by omega)]; omega
  have w4 : wrap64 ((n : Int) * 256) = ((n * 256 : Nat) : Int) := by rw [w64 (by omega) (by omega)]; omega
  refine Ev.step (fun k => by rw [impl_letters.l1]) ?_
  rw [w2, w4]
  clear w2 w4
  refine ev_pos (by omega) (ev_neg (by omega) ?_)
  exact H

theorem impl_pad {b out l : List UInt8} {i j : Nat} {R : ByteArray} (hl : l.length = 4) (hj : j < 4)
    (H : Ev (fun k => impl_letters.l2 k (S b) (NI out) (i : Int) (NI (l.set j 61)) ((j + 1 : Nat) : Int)) R) :
    Ev (fun k => impl_letters.l2 k (S b) (NI out) (i : Int) (NI l) (j : Int)) R := by
  have w2 : wrap64 ((j : Int) + 1) = ((j + 1 : Nat) : Int) := by rw [w64 (by omega) (by omega)]; omega
  have hs : (NI l).set j 61 = NI (l.set j 61) := by
    unfold NI
    rw [List.map_set]
    rfl
  refine Ev.step (fun k => by rw [impl_letters.l2]) ?_
  rw [w2, NI_length, Int.toNat_natCast, hs]
  refine ev_pos (by omega) (ev_pos (by omega) (ev_pos (by omega) ?_))
  exact H

theorem impl_group {b out l : List UInt8} {i : Nat} {R : ByteArray} (hl : l.length = 4) (ho : out.length ≤ 1000) (hi : i ≤ 400)
    (H : Ev (fun k => impl_letters.l0 k (S b) (NI (out ++ l)) ((i + 3 : Nat) : Int)) R) :
    Ev (fun k => impl_letters.l2 k (S b) (NI out) (i : Int) (NI l) ((4 : Nat) : Int)) R := by
  have w2 : wrap64 ((i : Int) + 3) = ((i + 3 : Nat) : Int) := by rw [w64 (by omega) (by omega)]; omega
  refine Ev.step (fun k => by rw [impl_letters.l2]) ?_
  rw [w2, NI_length, NI_length, NI_append]
  refine ev_neg (by omega) (ev_pos (by omega) ?_)
  exact H

theorem mn3 {x : Int} {m : Nat} (h : (m : Int) = if 3 < x then 3 else x) : mn x 3 = (m : Int) := by
  unfold mn
  rw [h]

theorem impl_one {b out : List UInt8} {i : Nat} {R : ByteArray} (a : UInt8) (ha : b.getD (i + 0) 0 = a) (h0 : i + 0 < b.length) (hb : b.length ≤ 300) (ho : out.length ≤ 1000)
    (H : Ev (fun k => impl_letters.l0 k (S b) (NI (out ++ [let6 (a.toNat / 4), let6 (a.toNat % 4 * 16), 61, 61])) ((i + 3 : Nat) : Int)) R) :
    Ev (fun k => impl_letters.l1 k (S b) (NI out) (i : Int) ((1 : Nat) : Int) ((0 : Nat) : Int) ((0 : Nat) : Int)) R := by
  obtain ⟨q1, q2, q3, e0, e1⟩ := nA (u8_lt a)
  refine impl_take (j := 0) (n := 0) a ha (by omega) (by omega) h0 hb (by decide) ?_
  refine impl_skip (j := 1) (n := 0 * 256 + a.toNat) (by omega) (by omega) q1 ?_
  refine impl_skip (j := 2) (n := (0 * 256 + a.toNat) * 256) (by omega) (by omega) q2 ?_
  refine impl_digits (n := (0 * 256 + a.toNat) * 256 * 256) q3 (by omega) ?_
  refine impl_pad (j := 2) rfl (by omega) ?_
  refine impl_pad (j := 3) rfl (by omega) ?_
  refine impl_group rfl (by omega) (by omega) ?_
  show Ev (fun k => impl_letters.l0 k (S b) (NI (out ++ [let6 ((0 * 256 + a.toNat) * 256 * 256 / 262144), let6 ((0 * 256 + a.toNat) * 256 * 256 / 4096 % 64), 61, 61])) ((i + 3 : Nat) : Int)) _
  rw [e0, e1]
  exact H

theorem impl_two {b out : List UInt8} {i : Nat} {R : ByteArray} (a c : UInt8) (ha : b.getD (i + 0) 0 = a) (hc : b.getD (i + 1) 0 = c) (h1 : i + 1 < b.length) (hb : b.length ≤ 300) (ho : out.length ≤ 1000)
    (H : Ev (fun k => impl_letters.l0 k (S b) (NI (out ++ [let6 (a.toNat / 4), let6 (a.toNat % 4 * 16 + c.toNat / 16), let6 (c.toNat % 16 * 4), 61])) ((i + 3 : Nat) : Int)) R) :
    Ev (fun k => impl_letters.l1 k (S b) (NI out) (i : Int) ((2 : Nat) : Int) ((0 : Nat) : Int) ((0 : Nat) : Int)) R := by
  have g0 : i + 0 < b.length := by omega
  obtain ⟨q1, _, _, _, _⟩ := nA (u8_lt a)
  obtain ⟨q2, q3, e0, e1, e2⟩ := nB (u8_lt a) (u8_lt c)
  refine impl_take (j := 0) (n := 0) a ha (by omega) (by omega) g0 hb (by decide) ?_
  refine impl_take (j := 1) (n := 0 * 256 + a.toNat) c hc (by omega) (by omega) h1 hb q1 ?_
  refine impl_skip (j := 2) (n := (0 * 256 + a.toNat) * 256 + c.toNat) (by omega) (by omega) q2 ?_
  refine impl_digits (n := ((0 * 256 + a.toNat) * 256 + c.toNat) * 256) q3 (by omega) ?_
  refine impl_pad (j := 3) rfl (by omega) ?_
  refine impl_group rfl (by omega) (by omega) ?_
  show Ev (fun k => impl_letters.l0 k (S b) (NI (out ++ [let6 (((0 * 256 + a.toNat) * 256 + c.toNat) * 256 / 262144), let6 (((0 * 256 + a.toNat) * 256 + c.toNat) * 256 / 4096 % 64), let6 (((0 * 256 + a.toNat) * 256 + c.toNat) * 256 / 64 % 64), 61])) ((i + 3 : Nat) : Int)) _
  rw [e0, e1, e2]
  exact H

theorem impl_three {b out : List UInt8} {i : Nat} {R : ByteArray} (a c d : UInt8) (ha : b.getD (i + 0) 0 = a) (hc : b.getD (i + 1) 0 = c) (hd : b.getD (i + 2) 0 = d) (h2 : i + 2 < b.length) (hb : b.length ≤ 300) (ho : out.length ≤ 1000)
    (H : Ev (fun k => impl_letters.l0 k (S b) (NI (out ++ [let6 (a.toNat / 4), let6 (a.toNat % 4 * 16 + c.toNat / 16), let6 (c.toNat % 16 * 4 + d.toNat / 64), let6 (d.toNat % 64)])) ((i + 3 : Nat) : Int)) R) :
    Ev (fun k => impl_letters.l1 k (S b) (NI out) (i : Int) ((3 : Nat) : Int) ((0 : Nat) : Int) ((0 : Nat) : Int)) R := by
  have g0 : i + 0 < b.length := by omega
  have g1 : i + 1 < b.length := by omega
  obtain ⟨q1, _, _, _, _⟩ := nA (u8_lt a)
  obtain ⟨q2, _, _, _, _⟩ := nB (u8_lt a) (u8_lt c)
  obtain ⟨q3, e0, e1, e2, e3⟩ := nC (u8_lt a) (u8_lt c) (u8_lt d)
  refine impl_take (j := 0) (n := 0) a ha (by omega) (by omega) g0 hb (by decide) ?_
  refine impl_take (j := 1) (n := 0 * 256 + a.toNat) c hc (by omega) (by omega) g1 hb q1 ?_
  refine impl_take (j := 2) (n := (0 * 256 + a.toNat) * 256 + c.toNat) d hd (by omega) (by omega) h2 hb q2 ?_
  refine impl_digits (n := ((0 * 256 + a.toNat) * 256 + c.toNat) * 256 + d.toNat) q3 (by omega) ?_
  refine impl_group rfl (by omega) (by omega) ?_
  rw [e0, e1, e2, e3]
  exact H

theorem impl_letters_loop (b : List UInt8) (hb : b.length ≤ 300) : ∀ (e i : Nat) (out : List UInt8), b.length ≤ i + 3 * e → i ≤ b.length + 2 → out.length ≤ 2 * i →
    Ev (fun k => impl_letters.l0 k (S b) (NI out) (i : Int)) (S (out ++ base (b.drop i))) := by
  intro e
  induction e with
  | zero =>
    intro i out hi hi2 ho
    refine Ev.step (fun k => by rw [impl_letters.l0]) ?_
    rw [size_S, List.drop_of_length_le (by omega), strOfNums_NI]
    refine ev_neg (by omega) ?_
    rw [base, List.append_nil]
    exact Ev.now _
  | succ e ih =>
    intro i out hi hi2 ho
    refine Ev.step (fun k => by rw [impl_letters.l0]) ?_
    rw [size_S]
    by_cases c0 : b.length ≤ i
    · rw [List.drop_of_length_le c0, strOfNums_NI]
      refine ev_neg (by omega) ?_
      rw [base, List.append_nil]
      exact Ev.now _
    have h0 : i < b.length := by omega
    refine ev_pos (by omega) ?_
    have w0 : wrap64 ((b.length : Int) - (i : Int)) = ((b.length - i : Nat) : Int) := by rw [w64 (by omega) (by omega)]; omega
    rw [w0]
    clear w0
    by_cases c1 : b.length ≤ i + 1
    · have hd : b.drop i = [b[i]] := by rw [drop_cons h0, List.drop_of_length_le (by omega)]
      rw [mn3 (m := 1) (by omega)]
      refine impl_one b[i] (getD_at h0) h0 hb (by omega) ?_
      have := ih (i + 3) (out ++ [let6 (b[i].toNat / 4), let6 (b[i].toNat % 4 * 16), 61, 61]) (by omega) (by omega) (by rw [List.length_append]; show out.length + 4 ≤ 2 * (i + 3); omega)
      rw [List.drop_of_length_le (by omega : b.length ≤ i + 3), base, List.append_nil] at this
      rw [hd, base]
      exact this
    have h1 : i + 1 < b.length := by omega
    by_cases c2 : b.length ≤ i + 2
    · have hd : b.drop i = [b[i], b[i + 1]] := by rw [drop_cons h0, drop_cons h1, List.drop_of_length_le (by omega)]
      rw [mn3 (m := 2) (by omega)]
      refine impl_two b[i] b[i + 1] (getD_at h0) (getD_at h1) h1 hb (by omega) ?_
      have := ih (i + 3) (out ++ [let6 (b[i].toNat / 4), let6 (b[i].toNat % 4 * 16 + b[i + 1].toNat / 16), let6 (b[i + 1].toNat % 16 * 4), 61]) (by omega) (by omega) (by rw [List.length_append]; show out.length + 4 ≤ 2 * (i + 3); omega)
      rw [List.drop_of_length_le (by omega : b.length ≤ i + 3), base, List.append_nil] at this
      rw [hd, base]
      exact this
    have h2 : i + 2 < b.length := by omega
    have hd : b.drop i = b[i] :: b[i + 1] :: b[i + 2] :: b.drop (i + 3) := by rw [drop_cons h0, drop_cons h1, drop_cons h2]
    rw [mn3 (m := 3) (by omega)]
    refine impl_three b[i] b[i + 1] b[i + 2] (getD_at h0) (getD_at h1) (getD_at h2) h2 hb (by omega) ?_
    have := ih (i + 3) (out ++ [let6 (b[i].toNat / 4), let6 (b[i].toNat % 4 * 16 + b[i + 1].toNat / 16), let6 (b[i + 1].toNat % 16 * 4 + b[i + 2].toNat / 64), let6 (b[i + 2].toNat % 64)]) (by omega) (by omega) (by rw [List.length_append]; show out.length + 4 ≤ 2 * (i + 3); omega)
    rw [hd, base]
    rw [List.append_assoc] at this
    exact this

theorem impl_letters_ev (b : List UInt8) (hb : b.length ≤ 300) : Ev (fun k => impl_letters.f k (S b)) (S (base b)) := by
  simp only [impl_letters.f]
  have := impl_letters_loop b hb 100 0 [] (by omega) (by omega) (by simp)
  rw [List.drop_zero, List.nil_append] at this
  exact this


theorem impl_lines_loop : ∀ (n : Nat) (s : List UInt8) (outs : List (List UInt8)), s.length ≤ 40 * n → s.length ≤ 100000 → outs.length + n ≤ 100000 →
    Ev (fun k => impl_EncodeBase.l0 k (SL outs) (S s)) (SL (outs ++ lines40 n s), true) := by
  intro n
  induction n with
  | zero =>
    intro s outs hs hs2 ho
    refine Ev.step (fun k => by rw [impl_EncodeBase.l0]) ?_
    rw [size_S, SL_length, SL_one, SL_append]
    refine ev_neg (by omega) (ev_pos (by omega) (Ev.now _))
  | succ n ih =>
    intro s outs hs hs2 ho
    refine Ev.step (fun k => by rw [impl_EncodeBase.l0]) ?_
    simp only [size_S, SL_length, extract_S, SL_one, SL_append]
    by_cases c : s.length > 40
    · refine ev_pos (by omega) (ev_pos (by omega) (ev_pos (by omega) (ev_pos (by omega) ?_)))
      have e1 : ((s.drop 40).take (s.length - 40)) = s.drop 40 := List.take_of_length_le (by rw [List.length_drop]; omega)
      have e2 : ((s.drop 0).take (40 - 0)) = s.take 40 := rfl
      rw [e1, e2]
      have := ih (s.drop 40) (outs ++ [s.take 40]) (by rw [List.length_drop]; omega) (by rw [List.length_drop]; omega) (by simp; omega)
      rw [lines40, if_pos c]
      simpa using this
    · refine ev_neg (by omega) (ev_pos (by omega) ?_)
      rw [lines40, if_neg c]
      exact Ev.now _

theorem impl_baseR (b : List UInt8) : Ev (fun k => impl_EncodeBase.f k (S b)) (baseR b) := by
  simp only [impl_EncodeBase.f, size_S]
  unfold baseR
  by_cases h : b.length > 300
  · rw [if_pos h]
    exact ev_pos (by omega) (Ev.now _)
  · rw [if_neg h]
    refine ev_neg (by omega) ?_
    refine Ev.bind (impl_letters_ev b (by omega)) ?_
    have hbl := base_length b
    have := impl_lines_loop 20 (base b) [] (by omega) (by omega) (by simp)
    rw [List.nil_append] at this
    exact this

theorem texts_self (l : List ByteArray) (hl : l.length ≤ 1000000) : Ev (fun k => laws_mwTexts.f k l l) true := by
  simp only [laws_mwTexts.f]
  refine ev_pos trivial ?_
  have : ∀ (e i : Nat), i + e = l.length → Ev (fun k => laws_mwTexts.l0 k l l (i : Int)) true := by
    intro e
    induction e with
    | zero =>
      intro i hi
      refine Ev.step (fun k => by rw [laws_mwTexts.l0]) ?_
      exact ev_neg (by omega) (Ev.now _)
    | succ e ih =>
      intro i hi
      have w : wrap64 ((i : Int) + 1) = ((i + 1 : Nat) : Int) := by rw [w64 (by omega) (by omega)]; omega
      refine Ev.step (fun k => by rw [laws_mwTexts.l0]) ?_
      refine ev_pos (by omega) (ev_pos (by omega) (ev_pos (by omega) (ev_pos rfl ?_)))
      rw [w]
      exact ih (i + 1) (by omega)
  exact this l.length 0 (by omega)

theorem join_ev (ls : List (List UInt8)) (hl : ls.length ≤ 100000) (hs : ls.flatten.length ≤ 100000000) : Ev (fun k => laws_mwJoin.f k (SL ls)) (S ls.flatten) := by
  simp only [laws_mwJoin.f]
  have : ∀ (e i : Nat), i + e = ls.length → Ev (fun k => laws_mwJoin.l0 k (SL ls) (S (ls.take i).flatten) (i : Int)) (S ls.flatten) := by
    intro e
    induction e with
    | zero =>
      intro i hi
      refine Ev.step (fun k => by rw [laws_mwJoin.l0]) ?_
      rw [SL_length, List.take_of_length_le (by omega)]
      exact ev_neg (by omega) (Ev.now _)
    | succ e ih =>
      intro i hi
      have hlt : i < ls.length := by omega
      have hr := rdOf_SL ByteArray.empty ls i hlt
      have hfl : (ls.take (i + 1)).flatten = (ls.take i).flatten ++ ls[i] := by rw [List.take_succ_eq_append_getElem hlt, List.flatten_append]; simp
      have hle : (ls.take (i + 1)).flatten.length ≤ ls.flatten.length := by
        have : ls.flatten = (ls.take (i + 1)).flatten ++ (ls.drop (i + 1)).flatten := by rw [← List.flatten_append, List.take_append_drop]
        rw [this, List.length_append]
        omega
      rw [hfl, List.length_append] at hle
      have w : wrap64 ((i : Int) + 1) = ((i + 1 : Nat) : Int) := by rw [w64 (by omega) (by omega)]; omega
      have hih := ih (i + 1) (by omega)
      rw [hfl] at hih
      refine Ev.step (fun k => by rw [laws_mwJoin.l0]) ?_
      simp only [SL_length, hr, size_S, append_S, w]
      exact ev_pos (by omega) (ev_pos (by omega) (ev_pos (by omega) hih))
  exact this ls.length 0 (by omega)

theorem b64_S : (⟨#[65, 66, 67, 68, 69, 70, 71, 72, 73, 74, 75, 76, 77, 78, 79, 80, 81, 82, 83, 84, 85, 86, 87, 88, 89, 90, 97, 98, 99, 100, 101, 102, 103, 104, 105, 106, 107, 108, 109, 110, 111, 112, 113, 114, 115, 116, 117, 118, 119, 120, 121, 122, 48, 49, 50, 51, 52, 53, 54, 55, 56, 57, 43, 47]⟩ : ByteArray) = S b64 := rfl
theorem index_b64 (c : UInt8) : strings_IndexByte.f (S b64) (c.toNat : Int) = some (bx c) := by
  unfold strings_IndexByte.f
  have e : ((c.toNat : Int)).toNat.toUInt8 = c := by simp
  rw [data_S, e]
  rfl
theorem mx_bv (c : UInt8) : mx (bx c) 0 = (bv c : Int) := by
  have := bx_bd c
  unfold mx bv
  split <;> omega
theorem mx_sub (a b : Nat) (h : a ≤ 2000000000000) (h2 : b ≤ 2000000000000) : mx (wrap64 ((a : Int) - (b : Int))) 0 = ((a - b : Nat) : Int) := by
  rw [w64 (by omega) (by omega)]
  unfold mx
  split <;> omega
theorem count_eq (s : List UInt8) : strings_Count.f (S s) (⟨#[61]⟩ : ByteArray) = some ((s.count 61 : Nat) : Int) := by
  unfold strings_Count.f
  have h : (⟨#[61]⟩ : ByteArray).size = 1 := rfl
  rw [if_pos h]
  rfl

theorem deb_step {s out : List UInt8} {i j n : Nat} {R : ByteArray × Bool} (c : UInt8) (hc : s.getD (i + j) 0 = c) (hj : j < 4) (hi : i + j < s.length) (hs : s.length ≤ 2000000000000) (hn : n < 262144)
    (H : Ev (fun k => impl_DecodeBase.l1 k (S s) (NI out) (i : Int) ((n * 64 + bv c : Nat) : Int) ((j + 1 : Nat) : Int)) R) : Ev (fun k => impl_DecodeBase.l1 k (S s) (NI out) (i : Int) (n : Int) (j : Int)) R := by
  have hv := bv_lt c
  obtain ⟨w1, w2, w3⟩ : wrap64 ((i : Int) + (j : Int)) = ((i + j : Nat) : Int) ∧ wrap64 (wrap64 (64 * (n : Int)) + (bv c : Int)) = ((n * 64 + bv c : Nat) : Int) ∧ wrap64 ((j : Int) + 1) = ((j + 1 : Nat) : Int) :=
    ⟨by rw [w64 (by omega) (by omega)]; omega, by rw [w64 (n := 64 * (n : Int)) (by omega) (by omega), w64 (by omega) (by omega)]; omega, by rw [w64 (by omega) (by omega)]; omega⟩
  refine Ev.step (fun k => by rw [impl_DecodeBase.l1]) ?_
  simp only [w1, size_S, bt_S, Int.toNat_natCast, hc, b64_S]
  refine ev_pos (by omega) (ev_pos (by omega) (ev_pos (by omega) (ev_bind0 (index_b64 c) ?_)))
  rw [mx_bv, w2, w3]
  exact H
theorem div3 {n : Nat} : (n : Int) / 65536 % 256 = ((UInt8.ofNat (n / 65536)).toNat : Int) ∧ (n : Int) / 256 % 256 = ((UInt8.ofNat (n / 256)).toNat : Int) ∧ (n : Int) % 256 = ((UInt8.ofNat n).toNat : Int) := by
  rw [UInt8.toNat_ofNat', UInt8.toNat_ofNat', UInt8.toNat_ofNat']
  refine ⟨?_, ?_, ?_⟩ <;> omega
theorem deb_group {s out : List UInt8} {i n : Nat} {R : ByteArray × Bool} (hi : i ≤ 2000000000000) (ho : out.length ≤ 2000000000000)
    (H : Ev (fun k => impl_DecodeBase.l0 k (S s) (NI (out ++ three n)) ((i + 4 : Nat) : Int)) R) : Ev (fun k => impl_DecodeBase.l1 k (S s) (NI out) (i : Int) (n : Int) ((4 : Nat) : Int)) R := by
  have w1 : wrap64 ((i : Int) + 4) = ((i + 4 : Nat) : Int) := by rw [w64 (by omega) (by omega)]; omega
  obtain ⟨d1, d2, d3⟩ := div3 (n := n)
  refine Ev.step (fun k => by rw [impl_DecodeBase.l1]) ?_
  have e : ([(n : Int) / 65536 % 256, (n : Int) / 256 % 256, (n : Int) % 256] : List Int) = NI (three n) := by rw [d1, d2, d3]; rfl
  rw [e, w1]
  refine ev_neg (by decide) (ev_bind0 rfl ?_)
  rw [NI_length, NI_length, NI_append]
  exact ev_pos (by show out.length + 3 < _; omega) H

theorem deb_end (s : List UInt8) (n : Nat) (hs : s.length = 4 * n) (hl : s.length ≤ 2000000000000) :
    Ev (fun k => (strings_Count.f (S s) (⟨#[61]⟩ : ByteArray)).bind fun t => (if 0 ≤ (mx (wrap64 (((NI (decB s)).length : Int) - t)) 0) then (if (mx (wrap64 (((NI (decB s)).length : Int) - t)) 0) ≤ ((NI (decB s)).length : Int) then ((some ((NI (decB s)).take ((mx (wrap64 (((NI (decB s)).length : Int) - t)) 0) : Int).toNat : List Int)).bind fun y => (if ((strOfNums y).size : Int) > 300 then (some ((⟨#[]⟩ : ByteArray), false)) else ((impl_letters.f k (strOfNums y)).bind fun t2 => (if t2.toList = (S s).toList then (some (strOfNums y, true)) else (some ((⟨#[]⟩ : ByteArray), false)))))) else (none)) else (none))) (debR s) := by
  have hd := decB_length n s hs
  have hc : s.count 61 ≤ s.length := List.count_le_length
  refine ev_bind0 (count_eq s) ?_
  rw [NI_length, mx_sub _ _ (by omega) (by omega)]
  refine ev_pos (by omega) (ev_pos (by omega) (ev_bind0 rfl ?_))
  have e : (NI (decB s)).take (((decB s).length - s.count 61 : Nat) : Int).toNat = NI (cutB s) := by
    rw [Int.toNat_natCast]
    unfold cutB NI
    rw [List.map_take]
  rw [e, strOfNums_NI, size_S]
  by_cases h3 : (cutB s).length > 300
  · have : debR s = (S [], false) := debR_neg (by
      rintro ⟨b, h1, h2⟩
      rw [← h2, cutB_base] at h3
      omega)
    rw [this]
    exact ev_pos (by omega) (Ev.now _)
  · refine ev_neg (by omega) (Ev.bind (impl_letters_ev (cutB s) (by omega)) ?_)
    by_cases h4 : base (cutB s) = s
    · rw [debR_pos (by omega) h4]
      exact ev_pos (by rw [h4]) (Ev.now _)
    · have : debR s = (S [], false) := debR_neg (by
        rintro ⟨b, h1, h2⟩
        apply h4
        rw [← h2, cutB_base])
      rw [this]
      exact ev_neg (by rw [toList_S, toList_S]; exact h4) (Ev.now _)

theorem deb_loop (s : List UInt8) (n : Nat) (hs : s.length = 4 * n) (hl : s.length ≤ 2000000000000) : ∀ (e i : Nat) (out : List UInt8), i + e = n → out.length = 3 * i → decB s = out ++ decB (s.drop (4 * i)) →
    Ev (fun k => impl_DecodeBase.l0 k (S s) (NI out) ((4 * i : Nat) : Int)) (debR s) := by
  intro e
  induction e with
  | zero =>
    intro i out hi ho hd
    rw [List.drop_of_length_le (by omega)] at hd
    have e0 : decB [] = [] := rfl
    rw [e0, List.append_nil] at hd
    refine Ev.step (fun k => by rw [impl_DecodeBase.l0]) ?_
    rw [size_S, ← hd]
    exact ev_neg (by omega) (deb_end s n hs hl)
  | succ e ih =>
    intro i out hi ho hd
    have h0 : 4 * i < s.length := by omega
    have h1 : 4 * i + 1 < s.length := by omega
    have h2 : 4 * i + 2 < s.length := by omega
    have h3 : 4 * i + 3 < s.length := by omega
    have g0 : s.getD (4 * i + 0) 0 = s[4 * i] := by rw [List.getD_eq_getElem?_getD, Nat.add_zero, List.getElem?_eq_getElem h0]; rfl
    have g1 : s.getD (4 * i + 1) 0 = s[4 * i + 1] := by rw [List.getD_eq_getElem?_getD, List.getElem?_eq_getElem h1]; rfl
    have g2 : s.getD (4 * i + 2) 0 = s[4 * i + 2] := by rw [List.getD_eq_getElem?_getD, List.getElem?_eq_getElem h2]; rfl
    have g3 : s.getD (4 * i + 3) 0 = s[4 * i + 3] := by rw [List.getD_eq_getElem?_getD, List.getElem?_eq_getElem h3]; rfl
    have sh : s.drop (4 * i) = s[4 * i] :: s[4 * i + 1] :: s[4 * i + 2] :: s[4 * i + 3] :: s.drop (4 * (i + 1)) := by
      have e43 : 4 * (i + 1) = 4 * i + 3 + 1 := by omega
      rw [e43, drop_cons h0, drop_cons h1, drop_cons h2, drop_cons h3]
    have v0 := bv_lt s[4 * i]
    have v1 := bv_lt s[4 * i + 1]
    have v2 := bv_lt s[4 * i + 2]
    have h4 := ih (i + 1) (out ++ three (num4 s[4 * i] s[4 * i + 1] s[4 * i + 2] s[4 * i + 3])) (by omega) (by rw [List.length_append, ho]; show 3 * i + 3 = _; omega) (by rw [hd, sh, decB, List.append_assoc])
    have e4 : 4 * (i + 1) = 4 * i + 4 := by omega
    rw [e4] at h4
    refine Ev.step (fun k => by rw [impl_DecodeBase.l0]) ?_
    rw [size_S]
    refine ev_pos (by omega) ?_
    refine deb_step (j := 0) (n := 0) _ g0 (by omega) (by omega) hl (by omega) ?_
    rw [Nat.zero_mul, Nat.zero_add]
    refine deb_step (j := 1) _ g1 (by omega) (by omega) hl (by omega) ?_
    refine deb_step (j := 2) _ g2 (by omega) (by omega) hl (by omega) ?_
    refine deb_step (j := 3) _ g3 (by omega) (by omega) hl (by omega) ?_
    exact deb_group (by omega) (by omega) h4

theorem impl_deb (ls : List (List UInt8)) (hn : ls.length ≤ 1048576) (hf : ls.flatten.length ≤ 2000000000000) : Ev (fun k => impl_DecodeBase.f k (SL ls)) (debR ls.flatten) := by
  simp only [impl_DecodeBase.f]
  have hj : strings_Join.f (SL ls) (⟨#[]⟩ : ByteArray) = some (S ls.flatten) := by
    unfold strings_Join.f
    have e : (⟨#[]⟩ : ByteArray).data.toList = [] := rfl
    rw [e, SL_lists, join_flat, SL_length, if_pos ⟨by omega, by omega⟩]
    rfl
  refine ev_bind0 hj ?_
  rw [size_S]
  by_cases h4 : (ls.flatten.length : Int) % 4 = 0
  · have := deb_loop ls.flatten (ls.flatten.length / 4) (by omega) hf (ls.flatten.length / 4) 0 [] (by omega) (by simp) (by simp)
    exact ev_pos h4 this
  · have : debR ls.flatten = (S [], false) := debR_neg (by
      rintro ⟨b, h1, h2⟩
      have := debR_len h1 h2
      omega)
    rw [this]
    exact ev_neg h4 (Ev.now _)

theorem FnBaseLines : laws_FnBaseLines.Pure := by
  intro l0 _ _ hw
  refine Ev.rounds ?_
  simp only [laws_FnBaseLines.f]
  by_cases hl : (l0.length : Int) > 1048576
  · exact ev_pos hl (Ev.now _)
  refine ev_neg hl ?_
  obtain ⟨t, hd⟩ := drawbase_ex l0 (bytes_wf hw)
  obtain ⟨b, rfl⟩ := ex_S t
  have hlen := baseR_length b
  refine Ev.bind hd ?_
  refine Ev.bind (impl_baseR b) ?_
  refine Ev.bind (spec_baseR b) ?_
  refine Ev.bind (texts_self (baseR b).1 (by omega)) ?_
  refine ev_pos rfl (ev_neg (by simp) ?_)
  by_cases ok : b.length > 300
  · have e : (baseR b).2 = false := by unfold baseR; rw [if_pos ok]
    rw [e]
    refine Ev.step (fun k => by rw [laws_FnBaseLines.j0]) ?_
    refine ev_pos rfl ?_
    refine Ev.bind (texts_self (baseR b).1 (by omega)) ?_
    exact ev_pos rfl (ev_is (by simp))
  · have e : (baseR b).2 = true := by unfold baseR; rw [if_neg ok]
    have e1 : (baseR b).1 = SL (lines40 20 (base b)) := by unfold baseR; rw [if_neg ok]
    rw [e, e1]
    refine Ev.step (fun k => by rw [laws_FnBaseLines.j0]) ?_
    refine ev_neg (by simp) ?_
    have hbl := base_length b
    have hj := join_ev (lines40 20 (base b)) (by have := (lines40_length 20 (base b)).1; omega) (by rw [lines40_join]; omega)
    rw [lines40_join] at hj
    refine Ev.bind hj ?_
    have w : wrap64 (((base b).length : Int) / 3) = (((base b).length / 3 : Nat) : Int) := by rw [w64 (by omega) (by omega)]; omega
    rw [size_S, w]
    refine ev_pos (by omega) (ev_pos (by omega) ?_)
    have e2 : ([(S (base b)).extract 0 (((base b).length / 3 : Nat) : Int).toNat, (⟨#[]⟩ : ByteArray), (S (base b)).extract (((base b).length / 3 : Nat) : Int).toNat (base b).length] : List ByteArray)
        = SL [(base b).take ((base b).length / 3), [], (base b).drop ((base b).length / 3)] := by
      rw [Int.toNat_natCast, extract_S, extract_S, List.drop_zero, Nat.sub_zero]
      rw [List.take_of_length_le (l := (base b).drop _) (by rw [List.length_drop]; exact Nat.le_refl _)]
      rfl
    rw [e2]
    have hf : ([(base b).take ((base b).length / 3), [], (base b).drop ((base b).length / 3)] : List (List UInt8)).flatten = base b := by simp
    have hdb := impl_deb [(base b).take ((base b).length / 3), [], (base b).drop ((base b).length / 3)] (by simp) (by rw [hf]; omega)
    rw [hf, debR_pos (by omega) rfl] at hdb
    refine Ev.bind hdb (ev_pos rfl (ev_is ?_))
    rw [beq_self_eq_true]

end Go.Proofs.Ytenplenjpliciaa.PLFnBaseLines
namespace Go.Proofs.Ytenplenjpliciaa.Pure
open Go.Proofs.Ytenplenjpliciaa.PFnBaseLines
theorem FnBaseLines : laws_FnBaseLines.Pure := PLFnBaseLines.FnBaseLines
end Go.Proofs.Ytenplenjpliciaa.Pure
