/- The law FnFoldFields holds of the printed functions: fields are read back. No conditions. -/
import Derived.Test.YthmdblcgiljhpaaDoorPFnFoldFieldsx12
import Derived.Test.YthmdblcgiljhpaaDoorVFnFoldFieldsMBase
import Derived.Test.YthmdblcgiljhpaaDoorVFnFoldFieldsMStr
import Derived.Test.YthmdblcgiljhpaaDoorVFnFoldFieldsMQuot
import Derived.Test.YthmdblcgiljhpaaDoorVFnFoldFieldsMCode
import Derived.Test.YthmdblcgiljhpaaDoorVFnFoldFieldsMDecQ
import Derived.Test.YthmdblcgiljhpaaDoorVFnFoldFieldsMRead
import Derived.Test.YthmdblcgiljhpaaDoorVFnFoldFieldsMParts
import Derived.Test.YthmdblcgiljhpaaDoorVFnFoldFieldsMName
import Derived.Test.YthmdblcgiljhpaaDoorVFnFoldFieldsMEnc
import Derived.Test.YthmdblcgiljhpaaDoorVFnFoldFieldsMFold
namespace Go.Proofs.YthmdblcgiljhpaaDoor.PLFnFoldFields
open Go.RowKit Go.Proofs.YthmdblcgiljhpaaDoor.PFnFoldFields Go.Proofs.YthmdblcgiljhpaaDoorW.PrintWords Go.Proofs.YthmdblcgiljhpaaDoorW.PrintLast Go.Proofs.YthmdblcgiljhpaaDoorW.PrintMore Go.Proofs.YthmdblcgiljhpaaDoor.M

theorem open_ex (l : List Int) (h : Bytes l) : ∃ b, spec_l13Open.f l = some (b, 0) ∧ Bytes b ∧ b.length ≤ 2000 := by
  unfold spec_l13Open.f
  by_cases e : (l.length : Int) > 2000
  · rw [if_pos e, if_pos (by omega)]
    exact ⟨_, rfl, bytes_take h _, by rw [List.length_take]; omega⟩
  · rw [if_neg e]
    exact ⟨_, rfl, h, by omega⟩

theorem pick_ev (b : List Int) (p n : Int) (hb : Bytes b) (hl : b.length ≤ 2000) (hp : 0 ≤ p) (hp1 : p ≤ 1000000) (hn : 1 ≤ n) :
    ∃ r, 0 ≤ r ∧ r < n ∧ Ev (fun k => spec_l13Rd_pick.f k b p n) (r, p + 1) := by
  have w1 : wrap64 (p + 1) = p + 1 := w64 (by omega) (by omega)
  have w2 : wrap64 (p + 1 - 1) = p := by
    rw [w64 (by omega) (by omega)]
    omega
  by_cases e0 : (b.length : Int) = 0
  · refine ⟨0, by omega, by omega, ?_⟩
    simp only [spec_l13Rd_pick.f]
    refine ev_neg (by omega) ?_
    rw [w1]
    refine Ev.step (fun k => by rw [spec_l13Rd_pick.j0]) ?_
    refine ev_pos (by simp [e0]) ?_
    exact Ev.now _
  · have f0 : ((b.length : Int) == 0) = false := beq_eq_false_iff_ne.mpr e0
    by_cases e1 : p < (b.length : Int)
    · obtain ⟨r0, r1⟩ := rd_bytes hb p
      have w3 : wrap64 (rd b p) = rd b p := w64 (by omega) (by omega)
      refine ⟨rd b p % n, Int.emod_nonneg _ (by omega), Int.emod_lt_of_pos _ (by omega), ?_⟩
      simp only [spec_l13Rd_pick.f]
      refine ev_neg (by omega) ?_
      rw [w1, f0]
      refine Ev.step (fun k => by rw [spec_l13Rd_pick.j0]) ?_
      simp only [w2, w3]
      refine ev_neg (by simp) (ev_pos e1 (ev_pos hp (ev_neg (by omega) ?_)))
      rw [Int.tmod_eq_emod_of_nonneg r0]
      exact Ev.now _
    · have hL : (0 : Int) < (b.length : Int) := by omega
      have t1 : Int.tmod p (b.length : Int) = p % (b.length : Int) := Int.tmod_eq_emod_of_nonneg hp
      have w4 : wrap64 (p * 7) = p * 7 := w64 (by omega) (by omega)
      have w5 : wrap64 (p * 7 + 3) = p * 7 + 3 := w64 (by omega) (by omega)
      have t2 : Int.tmod (p * 7 + 3) (b.length : Int) = (p * 7 + 3) % (b.length : Int) := Int.tmod_eq_emod_of_nonneg (by omega)
      have a0 := Int.emod_nonneg p (b := (b.length : Int)) (by omega)
      have a1 := Int.emod_lt_of_pos p hL
      have c0 := Int.emod_nonneg (p * 7 + 3) (b := (b.length : Int)) (by omega)
      have c1 := Int.emod_lt_of_pos (p * 7 + 3) hL
      obtain ⟨x0, x1⟩ := rd_bytes hb (p % (b.length : Int))
      obtain ⟨y0, y1⟩ := rd_bytes hb ((p * 7 + 3) % (b.length : Int))
      have d1 : Int.tdiv p (b.length : Int) = p / (b.length : Int) := Int.tdiv_eq_ediv_of_nonneg hp
      have d2 : 0 ≤ p / (b.length : Int) := Int.ediv_nonneg hp (by omega)
      have d3 : p / (b.length : Int) ≤ p := Int.ediv_le_self _ hp
      have ew1 : wrap64 (rd b (p % (b.length : Int))) = rd b (p % (b.length : Int)) := w64 (by omega) (by omega)
      have ew2 : wrap64 (rd b ((p * 7 + 3) % (b.length : Int))) = rd b ((p * 7 + 3) % (b.length : Int)) := w64 (by omega) (by omega)
      have ew3 : wrap64 (p / (b.length : Int)) = p / (b.length : Int) := w64 (by omega) (by omega)
      have hz : ∀ x y q : Int, 0 ≤ x → x < 256 → 0 ≤ y → y < 256 → 0 ≤ q → q ≤ p →
          wrap64 ((wrap64 ((wrap64 ((wrap64 (x * 131)) + (wrap64 (y * 1117)))) + (wrap64 (p * 29)))) + (wrap64 (q * 53))) = x * 131 + y * 1117 + p * 29 + q * 53 := by
        intro x y q hx hx1 hy hy1 hq hq1
        rw [w64 (n := x * 131) (by omega) (by omega), w64 (n := y * 1117) (by omega) (by omega), w64 (n := p * 29) (by omega) (by omega), w64 (n := q * 53) (by omega) (by omega),
          w64 (n := x * 131 + y * 1117) (by omega) (by omega), w64 (n := x * 131 + y * 1117 + p * 29) (by omega) (by omega), w64 (by omega) (by omega)]
      have hz' := hz _ _ _ x0 x1 y0 y1 d2 d3
      obtain ⟨S, hS⟩ : ∃ S, S = rd b (p % (b.length : Int)) * 131 + rd b ((p * 7 + 3) % (b.length : Int)) * 1117 + p * 29 + p / (b.length : Int) * 53 := ⟨_, rfl⟩
      rw [← hS] at hz'
      have s0 : 0 ≤ S ∧ S < 1000000000 := by omega
      have s1 : Int.tdiv S 64 = S / 64 := Int.tdiv_eq_ediv_of_nonneg s0.1
      have s2 : wrap64 (S / 64) = S / 64 := w64 (by omega) (by omega)
      have hx := xor_nonneg (x := S) (y := S / 64) (by omega) (by omega) (by omega) (by omega)
      refine ⟨bits .xor .i64 S (S / 64) % n, Int.emod_nonneg _ (by omega), Int.emod_lt_of_pos _ (by omega), ?_⟩
      simp only [spec_l13Rd_pick.f]
      refine ev_neg (by omega) ?_
      rw [w1, f0]
      refine Ev.step (fun k => by rw [spec_l13Rd_pick.j0]) ?_
      simp only [w2, t1, w4, w5, t2, d1, ew1, ew2, ew3, hz', s1, s2]
      refine ev_neg (by simp) (ev_neg e1 (ev_neg e0 (ev_pos a0 (ev_pos a1 (ev_pos c0 (ev_pos c1 (ev_neg (by omega) ?_)))))))
      rw [Int.tmod_eq_emod_of_nonneg hx]
      exact Ev.now _

theorem num_ev (b : List Int) (p : Int) (l : List Int) (hb : Bytes b) (hl : b.length ≤ 2000) (hp : 0 ≤ p) (hp1 : p ≤ 1000000) (hn : 1 ≤ l.length) :
    ∃ r, 0 ≤ r ∧ r < (l.length : Int) ∧ Ev (fun k => spec_l13Rd_num.f k b p l) (rd l r, p + 1) := by
  obtain ⟨r, h0, h1, h⟩ := pick_ev b p (l.length : Int) hb hl hp hp1 (by omega)
  refine ⟨r, h0, h1, ?_⟩
  simp only [spec_l13Rd_num.f]
  refine Ev.bind h ?_
  exact ev_pos h0 (ev_pos h1 (Ev.now _))

theorem of_ev (b : List Int) (p : Int) (l : List ByteArray) (hb : Bytes b) (hl : b.length ≤ 2000) (hp : 0 ≤ p) (hp1 : p ≤ 1000000) (hn : 1 ≤ l.length) :
    ∃ x ∈ l, Ev (fun k => spec_l13Rd_of.f k b p l) (x, p + 1) := by
  obtain ⟨r, h0, h1, h⟩ := pick_ev b p (l.length : Int) hb hl hp hp1 (by omega)
  have hr : r.toNat < l.length := by omega
  refine ⟨l[r.toNat], List.getElem_mem hr, ?_⟩
  have e : rdOf ByteArray.empty l r = l[r.toNat] := by
    unfold rdOf
    rw [List.getD_eq_getElem?_getD, List.getElem?_eq_getElem hr]
    rfl
  simp only [spec_l13Rd_of.f]
  refine Ev.bind h ?_
  refine ev_pos h0 (ev_pos h1 ?_)
  rw [e]
  exact Ev.now _

theorem bend_ex (b : List Int) (p : Int) (s : ByteArray) (bits : List ByteArray) (hb : Bytes b) (hl : b.length ≤ 2000) (hp : 0 ≤ p) (hp1 : p ≤ 100000) (hn : 1 ≤ bits.length) (hz : ∀ x ∈ bits, x.size ≤ 50) (hs : s.size ≤ 1000000) :
    ∃ t q, t.size ≤ s.size + 50 ∧ 0 ≤ q ∧ q ≤ p + 4 ∧ Ev (fun k => spec_l1Bend.f k b p s bits) (t, q) := by
  by_cases h0 : (s.size : Int) = 0
  · refine ⟨s, p, by omega, hp, by omega, ?_⟩
    simp only [spec_l1Bend.f]
    refine ev_pos h0 ?_
    refine Ev.step (fun k => by rw [spec_l1Bend.j0]) ?_
    exact ev_pos rfl (Ev.now _)
  obtain ⟨r, r0, r1, e1⟩ := pick_ev b p 2 hb hl hp (by omega) (by omega)
  by_cases hr : r = 0
  · refine ⟨s, p + 1, by omega, by omega, by omega, ?_⟩
    simp only [spec_l1Bend.f]
    refine ev_neg h0 (Ev.bind e1 ?_)
    refine Ev.step (fun k => by rw [spec_l1Bend.j0]) ?_
    exact ev_pos (by rw [hr]; rfl) (Ev.now _)
  obtain ⟨u, u0, u1, e2⟩ := pick_ev b (p + 1) (s.size : Int) hb hl (by omega) (by omega) (by omega)
  obtain ⟨x, hx, e3⟩ := of_ev b (p + 1 + 1) bits hb hl (by omega) (by omega) hn
  obtain ⟨v, v0, v1, e4⟩ := pick_ev b (p + 1 + 1 + 1) 2 hb hl (by omega) (by omega) (by omega)
  have hxs := hz x hx
  have w : wrap64 (u + v) = u + v := w64 (by omega) (by omega)
  have z1 : (s.extract 0 u.toNat).size ≤ s.size := by rw [ByteArray.size_extract]; omega
  have z2 : (s.extract (u + v).toNat s.size).size ≤ s.size := by rw [ByteArray.size_extract]; omega
  have z3 : ((s.extract 0 u.toNat) ++ x).size = (s.extract 0 u.toNat).size + x.size := ByteArray.size_append
  have z4 : (((s.extract 0 u.toNat) ++ x) ++ s.extract (u + v).toNat s.size).size = ((s.extract 0 u.toNat) ++ x).size + (s.extract (u + v).toNat s.size).size := ByteArray.size_append
  have z5 : (s.extract 0 u.toNat).size + (s.extract (u + v).toNat s.size).size ≤ s.size := by rw [ByteArray.size_extract, ByteArray.size_extract]; omega
  have g1 : (s.extract 0 u.toNat).size + x.size ≤ 9223372036854775807 := by omega
  have g2 : ((s.extract 0 u.toNat) ++ x).size + (s.extract (u + v).toNat s.size).size ≤ 9223372036854775807 := by omega
  refine ⟨(s.extract 0 u.toNat ++ x) ++ s.extract (u + v).toNat s.size, p + 1 + 1 + 1 + 1, by omega, by omega, by omega, ?_⟩
  simp only [spec_l1Bend.f]
  refine ev_neg h0 (Ev.bind e1 ?_)
  refine Ev.step (fun k => by rw [spec_l1Bend.j0]) ?_
  refine ev_neg (by simpa using hr) (Ev.bind e2 (ev_pos u0 (ev_pos (by omega) (Ev.bind e3 (ev_pos g1 (Ev.bind e4 ?_))))))
  simp only [w]
  exact ev_pos (by omega) (ev_pos (by omega) (ev_pos g2 (Ev.now _)))

theorem impl_text (s : List UInt8) (hl : s.length ≤ 1000000000000) : Ev (fun k => impl_TextValid.f k (S s)) (decide (textOK s)) := by
  simp only [impl_TextValid.f, size_S]
  have loop : ∀ (e i : Nat), i + e = s.length → (∀ j (h : j < s.length), j < i → 32 ≤ s[j].toNat ∧ s[j].toNat ≤ 126) → Ev (fun k => impl_TextValid.l0 k (S s) (s.length : Int) (i : Int)) (decide (textOK s)) := by
    intro e
    induction e with
    | zero =>
      intro i hi hp
      have e1 : decide ((s.length : Int) ≤ 200) = decide (textOK s) := by
        rw [decide_eq_decide]
        constructor
        · intro q
          refine ⟨by omega, fun c hc => ?_⟩
          obtain ⟨j, hj, rfl⟩ := List.mem_iff_getElem.1 hc
          exact hp j hj (by omega)
        · intro q
          have := q.1
          omega
      refine Ev.step (fun k => by rw [impl_TextValid.l0]) ?_
      rw [size_S, e1]
      exact ev_neg (by omega) (Ev.now _)
    | succ e ih =>
      intro i hi hp
      have hlt : i < s.length := by omega
      have hg : s.getD i 0 = s[i] := by rw [List.getD_eq_getElem?_getD, List.getElem?_eq_getElem hlt]; rfl
      have w : wrap64 ((i : Int) + 1) = ((i + 1 : Nat) : Int) := by rw [w64 (by omega) (by omega)]; omega
      refine Ev.step (fun k => by rw [impl_TextValid.l0]) ?_
      simp only [size_S, bt_S, Int.toNat_natCast, hg, w]
      refine ev_pos (by omega) (ev_pos (by omega) (ev_pos (by omega) ?_))
      by_cases hc : 32 ≤ s[i].toNat ∧ s[i].toNat ≤ 126
      · refine ev_neg (by omega) (ev_neg (by omega) (ih (i + 1) (by omega) ?_))
        intro j hj hji
        by_cases q : j = i
        · subst q
          exact hc
        · exact hp j hj (by omega)
      · have e1 : decide (textOK s) = false := decide_eq_false (fun q => hc (q.2 s[i] (List.getElem_mem hlt)))
        rw [e1]
        by_cases h3 : (s[i].toNat : Int) < 32
        · exact ev_pos h3 (Ev.now _)
        · exact ev_neg h3 (ev_pos (by omega) (Ev.now _))
  exact loop s.length 0 (by omega) (fun j _ h => by omega)

theorem spec_text (s : List UInt8) (hl : s.length ≤ 1000000000000) : Ev (fun k => spec_TextValid.f k (S s)) (decide (textOK s)) := by
  simp only [spec_TextValid.f]
  have loop : ∀ (e i : Nat), i + e = s.length → i ≤ 201 → (∀ j (h : j < s.length), j < i → 32 ≤ s[j].toNat ∧ s[j].toNat ≤ 126) → Ev (fun k => spec_TextValid.l0 k (S s) (i : Int)) (decide (textOK s)) := by
    intro e
    induction e with
    | zero =>
      intro i hi h2 hp
      have e1 : decide ((s.length : Int) ≤ 200) = decide (textOK s) := by
        rw [decide_eq_decide]
        constructor
        · intro q
          refine ⟨by omega, fun c hc => ?_⟩
          obtain ⟨j, hj, rfl⟩ := List.mem_iff_getElem.1 hc
          exact hp j hj (by omega)
        · intro q
          have := q.1
          omega
      refine Ev.step (fun k => by rw [spec_TextValid.l0]) ?_
      rw [size_S]
      refine ev_neg (by omega) ?_
      refine Ev.step (fun k => by rw [spec_TextValid.j1]) ?_
      rw [size_S, e1]
      exact ev_neg (by decide) (Ev.now _)
    | succ e ih =>
      intro i hi h2 hp
      have hlt : i < s.length := by omega
      have hg : s.getD i 0 = s[i] := by rw [List.getD_eq_getElem?_getD, List.getElem?_eq_getElem hlt]; rfl
      have w : wrap64 ((i : Int) + 1) = ((i + 1 : Nat) : Int) := by rw [w64 (by omega) (by omega)]; omega
      refine Ev.step (fun k => by rw [spec_TextValid.l0]) ?_
      rw [size_S]
      refine ev_pos (by omega) ?_
      by_cases h200 : i ≤ 200
      · rw [decide_eq_true (show (i : Int) ≤ 200 by omega)]
        refine Ev.step (fun k => by rw [spec_TextValid.j1]) ?_
        simp only [size_S, bt_S, Int.toNat_natCast, hg, w]
        refine ev_pos trivial (ev_pos (by omega) (ev_pos (by omega) ?_))
        by_cases hc : 32 ≤ s[i].toNat ∧ s[i].toNat ≤ 126
        · refine ev_neg (by omega) (ev_neg (by omega) (ih (i + 1) (by omega) (by omega) ?_))
          intro j hj hji
          by_cases q : j = i
          · subst q
            exact hc
          · exact hp j hj (by omega)
        · have e1 : decide (textOK s) = false := decide_eq_false (fun q => hc (q.2 s[i] (List.getElem_mem hlt)))
          rw [e1]
          by_cases h3 : (s[i].toNat : Int) < 32
          · exact ev_pos h3 (Ev.now _)
          · exact ev_neg h3 (ev_pos (by omega) (Ev.now _))
      · rw [decide_eq_false (show ¬ (i : Int) ≤ 200 by omega)]
        have e1 : decide (textOK s) = false := decide_eq_false (fun q => by have := q.1; omega)
        refine Ev.step (fun k => by rw [spec_TextValid.j1]) ?_
        rw [size_S, e1]
        refine ev_neg (by decide) (ev_is ?_)
        rw [decide_eq_false (by omega)]
  exact loop s.length 0 (by omega) (by omega) (fun j _ h => by omega)

theorem spec_trimR (n : Nat) : ∀ s : List UInt8, s.length ≤ n → s.length ≤ 1000000000000 → Ev (fun k => spec_l2Trim.l1 k (S s)) (S (trimR s)) := by
  induction n with
  | zero =>
    intro s h _
    have : s = [] := List.eq_nil_of_length_eq_zero (by omega)
    subst this
    refine Ev.step (fun k => by rw [spec_l2Trim.l1]) ?_
    exact ev_neg (by decide) (Ev.now _)
  | succ n ih =>
    intro s h hl
    rcases List.eq_nil_or_concat s with rfl | ⟨t, c, rfl⟩
    · refine Ev.step (fun k => by rw [spec_l2Trim.l1]) ?_
      exact ev_neg (by decide) (Ev.now _)
    · rw [List.concat_eq_append] at h hl ⊢
      rw [List.length_append] at h hl
      simp only [List.length_cons, List.length_nil] at h hl
      have w : wrap64 (((t.length + 1 : Nat) : Int) - 1) = (t.length : Int) := by rw [w64 (by omega) (by omega)]; omega
      have hg : (t ++ [c]).getD t.length 0 = c := by simp
      have hx : ((t ++ [c]).drop 0).take (t.length - 0) = t := by simp
      refine Ev.step (fun k => by rw [spec_l2Trim.l1]) ?_
      simp only [size_S, List.length_append, List.length_cons, List.length_nil, Nat.zero_add, w, bt_S, Int.toNat_natCast, hg, extract_S, hx]
      rw [trimR_snoc]
      refine ev_pos (by omega) (ev_pos (by omega) (ev_pos (by omega) ?_))
      by_cases hc : (c.toNat : Int) = 32
      · rw [if_pos (show c = 32 from (u8_is (n := 32) (by omega)).1 hc)]
        exact ev_pos hc (ev_pos (by omega) (ih t (by omega) (by omega)))
      · rw [if_neg (fun q => hc (by rw [q]; rfl))]
        exact ev_neg hc (Ev.now _)
theorem spec_trim (s : List UInt8) (hl : s.length ≤ 1000000000000) : Ev (fun k => spec_l2Trim.f k (S s)) (S (trim s)) := by
  simp only [spec_l2Trim.f]
  have j : ∀ t : List UInt8, t.length ≤ 1000000000000 → Ev (fun k => spec_l2Trim.j1 k (S t)) (S (trimR t)) := by
    intro t ht
    refine Ev.step (fun k => by rw [spec_l2Trim.j1]) ?_
    exact spec_trimR t.length t (Nat.le_refl _) ht
  have loop : ∀ (n : Nat) (s : List UInt8), s.length ≤ n → s.length ≤ 1000000000000 → Ev (fun k => spec_l2Trim.l0 k (S s)) (S (trim s)) := by
    intro n
    induction n with
    | zero =>
      intro s h h2
      have : s = [] := List.eq_nil_of_length_eq_zero (by omega)
      subst this
      refine Ev.step (fun k => by rw [spec_l2Trim.l0]) ?_
      exact ev_neg (by decide) (j [] h2)
    | succ n ih =>
      intro s h h2
      cases s with
      | nil =>
        refine Ev.step (fun k => by rw [spec_l2Trim.l0]) ?_
        exact ev_neg (by decide) (j [] h2)
      | cons c r =>
        simp only [List.length_cons] at h h2
        have hg : bt (S (c :: r)) 0 = (c.toNat : Int) := by rw [bt_S]; rfl
        have hx : ((c :: r).drop 1).take (r.length + 1 - 1) = r := by simp
        refine Ev.step (fun k => by rw [spec_l2Trim.l0]) ?_
        simp only [size_S, List.length_cons, hg, extract_S, hx]
        refine ev_pos (by omega) (ev_pos (by omega) ?_)
        have hd : trim (c :: r) = if c = 32 then trim r else trimR (c :: r) := by
          unfold trim trimL
          rw [List.dropWhile_cons]
          by_cases q : c = 32
          · rw [if_pos q, if_pos (by simp [q])]
          · rw [if_neg q, if_neg (by simp [q])]
        rw [hd]
        by_cases hc : (c.toNat : Int) = 32
        · rw [if_pos (show c = 32 from (u8_is (n := 32) (by omega)).1 hc)]
          exact ev_pos hc (ev_pos (by omega) (ih r (by omega) (by omega)))
        · rw [if_neg (fun q => hc (by rw [q]; rfl))]
          exact ev_neg hc (j (c :: r) (by simp; omega))
  exact loop s.length s (Nat.le_refl _) hl

theorem trimL_full {s : List UInt8} (h : s.length ≤ (trimL s).length) : trimL s = s := (List.dropWhile_suffix _).eq_of_length (Nat.le_antisymm (trimL_len s) h)
theorem trimR_full {s : List UInt8} (h : s.length ≤ (trimR s).length) : trimR s = s := by
  have h1 : (s.reverse.dropWhile (· == 32)) = s.reverse := by
    refine (List.dropWhile_suffix _).eq_of_length (Nat.le_antisymm (dropWhile_len _ _) ?_)
    unfold trimR at h
    simpa using h
  unfold trimR
  rw [h1, List.reverse_reverse]
theorem trimB_trim (s : List UInt8) : Lib.trimB s 32 = s ↔ trim s = s := by
  have e : Lib.trimB s 32 = trimL (trimR s) := rfl
  have l1 := trimL_len (trimR s)
  have l2 := trimR_len s
  have l3 := trimR_len (trimL s)
  have l4 := trimL_len s
  rw [e]
  unfold trim
  constructor
  · intro h
    have hl := congrArg List.length h
    have r1 : trimR s = s := trimR_full (by omega)
    rw [r1] at h
    rw [h, r1]
  · intro h
    have hl := congrArg List.length h
    have r1 : trimL s = s := trimL_full (by omega)
    rw [r1] at h
    rw [h, r1]
theorem dw_nil (s : List UInt8) : s.dropWhile (· == 32) = [] ↔ ∀ x ∈ s, (x == 32) = true := by
  induction s with
  | nil => exact ⟨fun _ x hx => (by cases hx), fun _ => rfl⟩
  | cons c r ih =>
    rw [List.dropWhile_cons]
    by_cases hc : (c == 32) = true
    · rw [if_pos hc, ih]
      exact ⟨fun h x hx => by
        rcases List.mem_cons.1 hx with rfl | hx
        · exact hc
        · exact h x hx, fun h x hx => h x (by simp [hx])⟩
    · rw [if_neg hc]
      exact ⟨fun h => (by cases h), fun h => absurd (h c (by simp)) hc⟩
theorem trim_trimB (s : List UInt8) : trim s = Lib.trimB s 32 := by
  have e : Lib.trimB s 32 = trimL (trimR s) := rfl
  rw [e]
  unfold trim
  have split : ∀ s : List UInt8, trimR (trimL s) = trimL (trimR s) := by
    intro s
    induction s with
    | nil => rfl
    | cons c r ih =>
      by_cases hc : (c == 32) = true
      · have h1 : trimL (c :: r) = trimL r := by unfold trimL; rw [List.dropWhile_cons, if_pos hc]
        rw [h1, ih]
        by_cases hr : ∀ x ∈ r, (x == 32) = true
        · have a1 : trimR r = [] := by
            unfold trimR
            rw [List.reverse_eq_nil_iff, dw_nil]
            intro x hx
            exact hr x (List.mem_reverse.1 hx)
          have a2 : trimR (c :: r) = [] := by
            unfold trimR
            rw [List.reverse_eq_nil_iff, dw_nil]
            intro x hx
            rcases List.mem_cons.1 (List.mem_reverse.1 hx) with rfl | hx
            · exact hc
            · exact hr x hx
          rw [a1, a2]
        · have a3 : trimR (c :: r) = c :: trimR r := by
            unfold trimR
            have hne : r.reverse.dropWhile (· == 32) ≠ [] := by
              intro q
              rw [dw_nil] at q
              exact hr (fun x hx => q x (List.mem_reverse.2 hx))
            rw [List.reverse_cons, List.dropWhile_append, if_neg (by simpa using hne)]
            simp
          rw [a3]
          show trimL (trimR r) = trimL (c :: trimR r)
          unfold trimL
          rw [List.dropWhile_cons, if_pos hc]
      · have h1 : trimL (c :: r) = c :: r := by unfold trimL; rw [List.dropWhile_cons, if_neg hc]
        rw [h1]
        obtain ⟨t, ht⟩ : ∃ t, trimR (c :: r) = c :: t := by
          unfold trimR
          rw [List.reverse_cons]
          by_cases hne : r.reverse.dropWhile (· == 32) = []
          · refine ⟨[], ?_⟩
            rw [List.dropWhile_append, if_pos (by rw [hne]; rfl), List.dropWhile_cons, if_neg hc]
            rfl
          · refine ⟨(r.reverse.dropWhile (· == 32)).reverse, ?_⟩
            rw [List.dropWhile_append, if_neg (by simpa using hne)]
            simp
        rw [ht]
        unfold trimL
        rw [List.dropWhile_cons, if_neg hc]
  exact split s

/-- A field's value; a field. -/
def valOK (v : List UInt8) : Prop := textOK v ∧ v.length ≤ 150 ∧ Lib.trimB v 32 = v
instance (v : List UInt8) : Decidable (valOK v) := by unfold valOK; exact inferInstance
def fieldOK (n v : List UInt8) : Prop := nameOK n ∧ valOK v
instance (n v : List UInt8) : Decidable (fieldOK n v) := by unfold fieldOK; exact inferInstance
theorem letB_iff (c : UInt8) : letB c ↔ (97 ≤ c.toNat ∧ c.toNat ≤ 122) ∨ (65 ≤ c.toNat ∧ c.toNat ≤ 90) := Iff.rfl
theorem namB_iff (c : UInt8) : namB c ↔ letB c ∨ (48 ≤ c.toNat ∧ c.toNat ≤ 57) ∨ c.toNat = 45 := Iff.rfl
theorem isLetter_is (c : UInt8) : impl_isLetter.f (c.toNat : Int) = some (decide (letB c)) := by
  unfold impl_isLetter.f
  by_cases h1 : (c.toNat : Int) ≥ 97
  · rw [if_pos h1]
    by_cases h2 : (c.toNat : Int) ≤ 122
    · rw [if_pos h2, decide_eq_true (show letB c by rw [letB_iff]; omega)]
    · rw [if_neg h2, if_pos (by omega)]
      refine congrArg some (decide_eq_decide.2 ?_)
      rw [letB_iff]
      omega
  · rw [if_neg h1]
    by_cases h2 : (c.toNat : Int) ≥ 65
    · rw [if_pos h2]
      refine congrArg some (decide_eq_decide.2 ?_)
      rw [letB_iff]
      omega
    · rw [if_neg h2, decide_eq_false (show ¬ letB c by rw [letB_iff]; omega)]
theorem isDigit_is (c : UInt8) : impl_isDigit.f (c.toNat : Int) = some (decide (48 ≤ c.toNat ∧ c.toNat ≤ 57)) := by
  unfold impl_isDigit.f
  by_cases h1 : (c.toNat : Int) ≥ 48
  · rw [if_pos h1]
    refine congrArg some ?_
    rw [decide_eq_decide]
    omega
  · rw [if_neg h1, decide_eq_false (by omega)]
theorem isName1_is (c : UInt8) : impl_isName_1.f (c.toNat : Int) = some (decide (namB c)) := by
  unfold impl_isName_1.f
  rw [isLetter_is, isDigit_is, Option.bind_some, Option.bind_some]
  by_cases h1 : letB c
  · rw [if_pos (decide_eq_true h1), decide_eq_true (show namB c from Or.inl h1)]
  · rw [if_neg (by simpa using h1)]
    by_cases h2 : 48 ≤ c.toNat ∧ c.toNat ≤ 57
    · rw [if_pos (decide_eq_true h2), decide_eq_true (show namB c from Or.inr (Or.inl h2))]
    · rw [if_neg (by simpa using h2)]
      refine congrArg some ?_
      rw [Bool.eq_iff_iff, beq_iff_eq, decide_eq_true_eq]
      constructor
      · intro q
        exact Or.inr (Or.inr (by omega))
      · rintro (q | q | q)
        · exact absurd q h1
        · exact absurd q h2
        · omega
theorem allB_ev (s : List UInt8) (hl : s.length ≤ 1000000000) : Ev (fun k => impl_allBytes.f k (S s)) (decide (∀ c ∈ s, namB c)) := by
  simp only [impl_allBytes.f, size_S]
  have loop : ∀ (e i : Nat), i + e = s.length → (∀ j (h : j < s.length), j < i → namB s[j]) → Ev (fun k => impl_allBytes.l0 k (S s) (s.length : Int) (i : Int)) (decide (∀ c ∈ s, namB c)) := by
    intro e
    induction e with
    | zero =>
      intro i hi hp
      have e1 : decide (∀ c ∈ s, namB c) = true := decide_eq_true (fun c hc => by
        obtain ⟨j, hj, rfl⟩ := List.mem_iff_getElem.1 hc
        exact hp j hj (by omega))
      refine Ev.step (fun k => by rw [impl_allBytes.l0]) ?_
      rw [e1]
      exact ev_neg (by omega) (Ev.now _)
    | succ e ih =>
      intro i hi hp
      have hlt : i < s.length := by omega
      have hg : s.getD i 0 = s[i] := by rw [List.getD_eq_getElem?_getD, List.getElem?_eq_getElem hlt]; rfl
      have w : wrap64 ((i : Int) + 1) = ((i + 1 : Nat) : Int) := by rw [w64 (by omega) (by omega)]; omega
      refine Ev.step (fun k => by rw [impl_allBytes.l0]) ?_
      simp only [size_S, bt_S, Int.toNat_natCast, hg, w, isName1_is, Option.bind_some]
      clear w
      refine ev_pos (by omega) (ev_pos (by omega) (ev_pos (by omega) ?_))
      by_cases hc : namB s[i]
      · refine ev_pos (decide_eq_true hc) (ih (i + 1) (by omega) ?_)
        intro j hj hji
        by_cases q : j = i
        · subst q
          exact hc
        · exact hp j hj (by omega)
      · rw [decide_eq_false (fun q : ∀ c ∈ s, namB c => hc (q _ (List.getElem_mem hlt)))]
        exact ev_neg (by simpa using hc) (Ev.now _)
  exact loop s.length 0 (by omega) (fun j _ h => by omega)
theorem iname_ev (n : List UInt8) (hl : n.length ≤ 1000000000) : Ev (fun k => impl_isName.f k (S n)) (decide (nameOK n)) := by
  have b0 : bt (S n) 0 = ((n.getD 0 0).toNat : Int) := by rw [bt_S]; rfl
  simp only [impl_isName.f, size_S, b0, isLetter_is, Option.bind_some]
  by_cases h1 : (n.length : Int) ≥ 1
  · refine ev_pos h1 ?_
    by_cases h2 : (n.length : Int) ≤ 30
    · refine ev_pos h2 (ev_pos (by omega) ?_)
      by_cases h3 : letB (n.getD 0 0)
      · refine ev_pos (decide_eq_true h3) (Ev.bind (allB_ev n hl) (ev_is ?_))
        exact congrArg some (decide_eq_decide.2 ⟨fun q => ⟨by omega, by omega, h3, q⟩, fun q => q.2.2.2⟩)
      · rw [decide_eq_false (fun q : nameOK n => h3 q.2.2.1)]
        exact ev_neg (by simpa using h3) (Ev.now _)
    · rw [decide_eq_false (fun q : nameOK n => by have := q.2.1; omega)]
      exact ev_neg h2 (Ev.now _)
  · rw [decide_eq_false (fun q : nameOK n => by have := q.1; omega)]
    exact ev_neg h1 (Ev.now _)
theorem itrim_is (v : List UInt8) (hl : v.length ≤ 1000000000) : strings_Trim.f (S v) (⟨#[32]⟩ : ByteArray) = some (S (Lib.trimB v 32)) := by
  unfold strings_Trim.f
  rw [if_pos ⟨by rw [size_S]; omega, rfl, by decide⟩]
  rfl
theorem ivalid_ev (n v : List UInt8) (hn : n.length ≤ 1000000000) (hl : v.length ≤ 1000000000) : Ev (fun k => impl_FieldValid.f k (S n) (S v)) (decide (fieldOK n v)) := by
  simp only [impl_FieldValid.f, size_S, itrim_is v hl, toList_S]
  refine Ev.bind (iname_ev n hn) ?_
  by_cases h1 : nameOK n
  · refine ev_pos (decide_eq_true h1) (Ev.bind (impl_text v (by omega)) ?_)
    by_cases h2 : textOK v
    · refine ev_pos (decide_eq_true h2) ?_
      by_cases h3 : (v.length : Int) ≤ 150
      · refine ev_pos h3 (ev_is ?_)
        rw [Option.bind_some]
        refine congrArg some ?_
        rw [Bool.eq_iff_iff, beq_iff_eq, decide_eq_true_eq, toList_S]
        exact ⟨fun q => ⟨h1, h2, by omega, q⟩, fun q => q.2.2.2⟩
      · rw [decide_eq_false (fun q : fieldOK n v => by have := q.2.2.1; omega)]
        exact ev_neg h3 (Ev.now _)
    · rw [decide_eq_false (fun q : fieldOK n v => h2 q.2.1)]
      exact ev_neg (by simpa using h2) (Ev.now _)
  · rw [decide_eq_false (fun q : fieldOK n v => h1 q.1)]
    exact ev_neg (by simpa using h1) (Ev.now _)

def alnB (c : UInt8) : Prop := letB c ∨ (48 ≤ c.toNat ∧ c.toNat ≤ 57)
instance (c : UInt8) : Decidable (alnB c) := by unfold alnB; exact inferInstance
theorem alnB_iff (c : UInt8) : alnB c ↔ ((97 ≤ c.toNat ∧ c.toNat ≤ 122) ∨ (65 ≤ c.toNat ∧ c.toNat ≤ 90)) ∨ (48 ≤ c.toNat ∧ c.toNat ≤ 57) := Iff.rfl
theorem sletter_is (c : UInt8) : spec_l1Letter.f (c.toNat : Int) = some (decide (alnB c)) := by
  unfold spec_l1Letter.f
  by_cases h1 : (c.toNat : Int) ≥ 97
  · rw [if_pos h1]
    by_cases h2 : (c.toNat : Int) ≤ 122
    · rw [if_pos h2, decide_eq_true (show alnB c by rw [alnB_iff]; omega)]
    · rw [if_neg h2, if_pos (by omega), if_neg (by omega), if_pos (by omega)]
      refine congrArg some (decide_eq_decide.2 ?_)
      rw [alnB_iff]
      omega
  · rw [if_neg h1]
    by_cases h2 : (c.toNat : Int) ≥ 65
    · rw [if_pos h2]
      by_cases h3 : (c.toNat : Int) ≤ 90
      · rw [if_pos h3, decide_eq_true (show alnB c by rw [alnB_iff]; omega)]
      · rw [if_neg h3, if_pos (by omega)]
        refine congrArg some (decide_eq_decide.2 ?_)
        rw [alnB_iff]
        omega
    · rw [if_neg h2]
      by_cases h3 : (c.toNat : Int) ≥ 48
      · rw [if_pos h3]
        refine congrArg some (decide_eq_decide.2 ?_)
        rw [alnB_iff]
        omega
      · rw [if_neg h3, decide_eq_false (show ¬ alnB c by rw [alnB_iff]; omega)]
theorem sname_ev (n : List UInt8) (hl : n.length ≤ 1000000000) : Ev (fun k => spec_l3Name.f k (S n)) (decide (nameOK n)) := by
  simp only [spec_l3Name.f]
  have fin : (n.length ≤ 30 → ∀ c ∈ n, namB c) → (1 ≤ n.length → letB (n.getD 0 0)) → ∀ i : Nat, Ev (fun k => spec_l3Name.j1 k (S n) (i : Int) false) (decide (nameOK n)) := by
    intro hp h0 i
    refine Ev.step (fun k => by rw [spec_l3Name.j1]) ?_
    rw [size_S]
    refine ev_neg (by decide) ?_
    by_cases h1 : (n.length : Int) ≥ 1
    · refine ev_pos h1 (ev_is ?_)
      exact congrArg some (decide_eq_decide.2 ⟨fun q => ⟨by omega, by omega, h0 (by omega), hp (by omega)⟩, fun q => by have := q.2.1; omega⟩)
    · rw [decide_eq_false (fun q : nameOK n => by have := q.1; omega)]
      exact ev_neg h1 (Ev.now _)
  have no : ∀ i (h : i < n.length), ¬ namB n[i] ∨ (i = 0 ∧ ¬ letB n[i]) → decide (nameOK n) = false := by
    intro i h q
    refine decide_eq_false ?_
    rintro ⟨_, _, q3, q4⟩
    rcases q with q | ⟨rfl, q⟩
    · exact q (q4 _ (List.getElem_mem h))
    · apply q
      rwa [List.getD_eq_getElem?_getD, List.getElem?_eq_getElem h] at q3
  have loop : ∀ (e i : Nat), i + e = n.length → (∀ j (h : j < n.length), j < i → namB n[j]) → (1 ≤ i → letB (n.getD 0 0)) → i ≤ 31 → Ev (fun k => spec_l3Name.l0 k (S n) (i : Int)) (decide (nameOK n)) := by
    intro e
    induction e with
    | zero =>
      intro i hi hp h0 _
      refine Ev.step (fun k => by rw [spec_l3Name.l0]) ?_
      rw [size_S]
      refine ev_neg (by omega) (fin (fun _ c hc => ?_) (fun h => h0 (by omega)) i)
      obtain ⟨j, hj, rfl⟩ := List.mem_iff_getElem.1 hc
      exact hp j hj (by omega)
    | succ e ih =>
      intro i hi hp h0 h31
      have hlt : i < n.length := by omega
      have hg : n.getD i 0 = n[i] := by rw [List.getD_eq_getElem?_getD, List.getElem?_eq_getElem hlt]; rfl
      have w : wrap64 ((i : Int) + 1) = ((i + 1 : Nat) : Int) := by rw [w64 (by omega) (by omega)]; omega
      refine Ev.step (fun k => by rw [spec_l3Name.l0]) ?_
      rw [size_S]
      refine ev_pos (by omega) ?_
      by_cases h30 : i ≤ 30
      · rw [decide_eq_true (show (i : Int) ≤ 30 by omega)]
        refine Ev.step (fun k => by rw [spec_l3Name.j1]) ?_
        simp only [size_S, bt_S, Int.toNat_natCast, hg, w, sletter_is, Option.bind_some]
        clear w
        refine ev_pos trivial (ev_pos (by omega) (ev_pos (by omega) ?_))
        have next : namB n[i] → (i = 0 → letB n[i]) → Ev (fun k => spec_l3Name.l0 k (S n) ((i + 1 : Nat) : Int)) (decide (nameOK n)) := by
          intro q1 q2
          refine ih (i + 1) (by omega) ?_ ?_ (by omega)
          · intro j hj hji
            by_cases q : j = i
            · subst q
              exact q1
            · exact hp j hj (by omega)
          · intro _
            by_cases q : i = 0
            · have := q2 q
              subst q
              rwa [hg]
            · exact h0 (by omega)
        by_cases hc : alnB n[i]
        · have hnb : namB n[i] := by
            rcases hc with hc | hc
            · exact Or.inl hc
            · exact Or.inr (Or.inl hc)
          refine ev_pos (decide_eq_true hc) ?_
          by_cases hz : (i : Int) = 0
          · refine ev_pos hz ?_
            by_cases h57 : (n[i].toNat : Int) ≤ 57
            · rw [no i hlt (Or.inr ⟨by omega, fun q => by rw [letB_iff] at q; omega⟩)]
              exact ev_pos h57 (Ev.now _)
            · refine ev_neg h57 (next hnb (fun _ => ?_))
              rcases hc with hc | hc
              · exact hc
              · omega
          · exact ev_neg hz (next hnb (fun q => by omega))
        · refine ev_neg (by simpa using hc) ?_
          by_cases h45 : (n[i].toNat : Int) = 45
          · refine ev_pos h45 ?_
            by_cases hz : (i : Int) = 0
            · rw [no i hlt (Or.inr ⟨by omega, fun q => hc (Or.inl q)⟩)]
              exact ev_pos hz (ev_pos (by omega) (Ev.now _))
            · exact ev_neg hz (next (Or.inr (Or.inr (by omega))) (fun q => by omega))
          · rw [no i hlt (Or.inl (fun q => by
              rcases q with q | q | q
              · exact hc (Or.inl q)
              · exact hc (Or.inr q)
              · omega))]
            exact ev_neg h45 (Ev.now _)
      · rw [decide_eq_false (show ¬ (i : Int) ≤ 30 by omega)]
        exact fin (fun h => by omega) (fun _ => h0 (by omega)) i
  exact loop n.length 0 (by omega) (fun j _ h => by omega) (fun h => by omega) (by omega)
theorem svalid2_ev (n v : List UInt8) (hn : n.length ≤ 1000000000) (hl : v.length ≤ 1000000000) : Ev (fun k => spec_FieldValid.f k (S n) (S v)) (decide (fieldOK n v)) := by
  simp only [spec_FieldValid.f, size_S, toList_S]
  refine Ev.bind (sname_ev n hn) ?_
  by_cases h1 : nameOK n
  · refine ev_pos (decide_eq_true h1) (Ev.bind (spec_text v (by omega)) ?_)
    by_cases h2 : textOK v
    · refine ev_pos (decide_eq_true h2) ?_
      by_cases h3 : (v.length : Int) ≤ 150
      · refine ev_pos h3 (Ev.bind (spec_trim v (by omega)) (ev_is ?_))
        refine congrArg some ?_
        rw [Bool.eq_iff_iff, beq_iff_eq, decide_eq_true_eq, toList_S]
        exact ⟨fun q => ⟨h1, h2, by omega, (trimB_trim v).2 q⟩, fun q => (trimB_trim v).1 q.2.2.2⟩
      · rw [decide_eq_false (fun q : fieldOK n v => by have := q.2.2.1; omega)]
        exact ev_neg h3 (Ev.now _)
    · rw [decide_eq_false (fun q : fieldOK n v => h2 q.2.1)]
      exact ev_neg (by simpa using h2) (Ev.now _)
  · rw [decide_eq_false (fun q : fieldOK n v => h1 q.1)]
    exact ev_neg (by simpa using h1) (Ev.now _)

/-- A place, as a number; none is -1. -/
def oi : Option Nat → Int
  | none => -1
  | some k => (k : Int)
theorem oi_neg (b : Option Nat) : oi b < 0 ↔ b = none := by
  cases b with
  | none => exact ⟨fun _ => rfl, fun _ => by decide⟩
  | some k => exact ⟨fun h => by have h2 : (k : Int) < 0 := h; omega, fun h => by cases h⟩
theorem u32 (c : UInt8) : (c.toNat : Int) = 32 ↔ c = 32 := by
  constructor
  · intro h
    exact UInt8.toNat_inj.1 (by show c.toNat = 32; omega)
  · rintro rfl
    rfl
theorem iscan {l : List UInt8} {outs : List (List UInt8)} {R : List ByteArray} (hl : l.length ≤ 100000) : ∀ (e i : Nat) (b : Option Nat), i + e + 1 = l.length → 1 ≤ i → Ev (fun k => impl_foldField.l1 k (S l) (SL outs) (oi (scanB l e i b)) ((i + e : Nat) : Int)) R →
    Ev (fun k => impl_foldField.l1 k (S l) (SL outs) (oi b) (i : Int)) R := by
  intro e
  induction e with
  | zero => intro i b _ _ H; exact H
  | succ e ih =>
    intro i b hi h1 H
    obtain ⟨w, w2⟩ : wrap64 ((i : Int) + 1) = ((i + 1 : Nat) : Int) ∧ wrap64 ((i : Int) - 1) = ((i - 1 : Nat) : Int) := ⟨by rw [w64 (by omega) (by omega)]; omega, by rw [w64 (by omega) (by omega)]; omega⟩
    have hn : ∀ b', b' = (if sp1 l i ∧ (b = none ∨ i ≤ 40) then some i else b) → Ev (fun k => impl_foldField.l1 k (S l) (SL outs) (oi b') ((i + 1 : Nat) : Int)) R := by
      rintro b' rfl
      refine ih (i + 1) _ (by omega) (by omega) ?_
      have e1 : i + 1 + e = i + (e + 1) := by omega
      rw [e1]
      exact H
    refine Ev.step (fun k => by rw [impl_foldField.l1]) ?_
    simp only [size_S, bt_S, Int.toNat_natCast, w, w2, u32, oi_neg]
    clear w w2
    refine ev_pos (by omega) (ev_pos (by omega) (ev_pos (by omega) ?_))
    by_cases c1 : l.getD i 0 = 32
    · refine ev_pos c1 (ev_pos (by omega) (ev_pos (by omega) ?_))
      by_cases c2 : l.getD (i - 1) 0 = 32
      · exact ev_pos c2 (hn b (by rw [if_neg (fun q => q.1.2.1 c2)]))
      · refine ev_neg c2 (ev_pos (by omega) ?_)
        by_cases c3 : l.getD (i + 1) 0 = 32
        · exact ev_pos c3 (hn b (by rw [if_neg (fun q => q.1.2.2 c3)]))
        · refine ev_neg c3 ?_
          by_cases c4 : b = none
          · exact ev_pos c4 (hn (some i) (by rw [if_pos ⟨⟨c1, c2, c3⟩, Or.inl c4⟩]))
          · refine ev_neg c4 ?_
            by_cases c5 : (i : Int) ≤ 40
            · exact ev_pos c5 (hn (some i) (by rw [if_pos ⟨⟨c1, c2, c3⟩, Or.inr (by omega)⟩]))
            · exact ev_neg c5 (hn b (by rw [if_neg (fun q => q.2.elim c4 (fun z => c5 (by omega)))]))
    · exact ev_neg c1 (hn b (by rw [if_neg (fun q => c1 q.1.1)]))
theorem ifold_l0 : ∀ (f : Nat) (l : List UInt8) (first : Nat) (outs : List (List UInt8)), l.length ≤ f → f ≤ 1000 → 1 ≤ first → first ≤ 35 → outs.length + f ≤ 2000 →
    Ev (fun k => impl_foldField.l0 k (S l) (first : Int) (SL outs)) (SL (outs ++ foldF f l first)) := by
  intro f
  induction f with
  | zero =>
    intro l first outs h1 _ _ _ h5
    have : l = [] := List.eq_nil_of_length_eq_zero (by omega)
    subst this
    refine Ev.step (fun k => by rw [impl_foldField.l0]) ?_
    simp only [size_S, SL_length, SL_one, SL_append]
    exact ev_neg (by simp) (ev_pos (by omega) (Ev.now _))
  | succ f ih =>
    intro l first outs h1 h2 h3 h4 h5
    refine Ev.step (fun k => by rw [impl_foldField.l0]) ?_
    simp only [size_S, SL_length, SL_one, SL_append]
    by_cases h40 : l.length > 40
    · refine ev_pos (by omega) ?_
      have hs := iscan (l := l) (outs := outs) (R := SL (outs ++ foldF (f + 1) l first)) (by omega) (l.length - 1 - first) first none (by omega) h3
      refine hs ?_
      have e1 : scanB l (l.length - 1 - first) first none = brk l first := rfl
      have e2 : first + (l.length - 1 - first) = l.length - 1 := by omega
      rw [e1, e2]
      have w : wrap64 (((l.length - 1 : Nat) : Int) + 1) = (l.length : Int) := by rw [w64 (by omega) (by omega)]; omega
      refine Ev.step (fun k => by rw [impl_foldField.l1]) ?_
      simp only [size_S, SL_length, w, oi_neg]
      clear w
      refine ev_neg (by omega) ?_
      cases hb : brk l first with
      | none =>
        have er : foldF (f + 1) l first = [l] := by rw [foldF, if_pos h40, hb]
        rw [er]
        simp only [SL_one, SL_append]
        exact ev_pos trivial (ev_pos (by omega) (Ev.now _))
      | some k =>
        have er : foldF (f + 1) l first = l.take k :: foldF f (l.drop k) 2 := by rw [foldF, if_pos h40, hb]
        obtain ⟨k1, k2, _⟩ := brk_in (by omega) hb
        rw [er]
        have ek : oi (some k) = (k : Int) := rfl
        rw [ek]
        simp only [Int.toNat_natCast, extract_S, List.drop_zero, Nat.sub_zero, SL_one, SL_append]
        have e3 : (l.drop k).take (l.length - k) = l.drop k := List.take_of_length_le (by rw [List.length_drop]; exact Nat.le_refl _)
        have := ih (l.drop k) 2 (outs ++ [l.take k]) (by rw [List.length_drop]; omega) (by omega) (by omega) (by omega) (by rw [List.length_append]; simp; omega)
        rw [List.append_assoc] at this
        rw [e3]
        exact ev_neg (by simp) (ev_pos (by omega) (ev_pos (by omega) (ev_pos (by omega) this)))
    · have er : foldF (f + 1) l first = [l] := by rw [foldF, if_neg h40]
      rw [er]
      exact ev_neg (by omega) (ev_pos (by omega) (Ev.now _))
theorem foldF_short {f : Nat} {l : List UInt8} (h : l.length ≤ 40) (a b : Nat) : foldF f l a = foldF f l b := by
  cases f with
  | zero => rfl
  | succ f => rw [foldF, foldF, if_neg (by omega), if_neg (by omega)]
/-- The lines of a field. -/
def foldL (n v : List UInt8) : List (List UInt8) := foldF 200 (lineF n v) (n.length + 3)
theorem e58 : (⟨#[58]⟩ : ByteArray) = S [58] := rfl
theorem e32 : (⟨#[32]⟩ : ByteArray) = S [32] := rfl
theorem fitsN {n : Nat} (h : n ≤ 1000) : n ≤ 9223372036854775807 := by omega
theorem ifold_ev {n v : List UInt8} (h : fieldOK n v) : Ev (fun k => impl_foldField.f k (S n) (S v)) (SL (foldL n v)) := by
  have h1 := h.1.2.1
  have h2 := h.2.2.1
  have hll := lineF_len n v
  have w : wrap64 ((n.length : Int) + 3) = ((n.length + 3 : Nat) : Int) := by rw [w64 (by omega) (by omega)]; omega
  simp only [impl_foldField.f, size_S, e58, e32, append_S, toList_S, w]
  clear w
  refine ev_pos (fitsN (by omega)) ?_
  have go : ∀ s, s = lineF n v → Ev (fun k => impl_foldField.j0 k (S s) ((n.length + 3 : Nat) : Int)) (SL (foldL n v)) := by
    rintro s rfl
    refine Ev.step (fun k => by rw [impl_foldField.j0]) ?_
    have := ifold_l0 200 (lineF n v) (n.length + 3) [] (by omega) (by omega) (by omega) (by omega) (by simp)
    exact this
  by_cases hv : v = []
  · refine ev_pos hv (go _ ?_)
    unfold lineF
    rw [if_pos hv, List.append_nil]
  · refine ev_neg hv (ev_pos (fitsN (by omega)) (ev_pos (fitsN (by simp; omega)) (go _ ?_)))
    unfold lineF
    rw [if_neg hv]
theorem sscan {l : List UInt8} (hl : l.length ≤ 100000) : ∀ (e i : Nat) (b : Option Nat), i + e + 1 = l.length → 1 ≤ i → Ev (fun k => spec_l3Break.l0 k (S l) (oi b) (i : Int)) (oi (scanB l e i b)) := by
  intro e
  induction e with
  | zero =>
    intro i b hi h1
    have w : wrap64 ((i : Int) + 1) = ((i + 1 : Nat) : Int) := by rw [w64 (by omega) (by omega)]; omega
    refine Ev.step (fun k => by rw [spec_l3Break.l0]) ?_
    rw [size_S, w]
    exact ev_neg (by omega) (Ev.now _)
  | succ e ih =>
    intro i b hi h1
    obtain ⟨w, w2⟩ : wrap64 ((i : Int) + 1) = ((i + 1 : Nat) : Int) ∧ wrap64 ((i : Int) - 1) = ((i - 1 : Nat) : Int) := ⟨by rw [w64 (by omega) (by omega)]; omega, by rw [w64 (by omega) (by omega)]; omega⟩
    have hn : ∀ b', b' = (if sp1 l i ∧ (b = none ∨ i ≤ 40) then some i else b) → Ev (fun k => spec_l3Break.l0 k (S l) (oi b') ((i + 1 : Nat) : Int)) (oi (scanB l (e + 1) i b)) := by
      rintro b' rfl
      exact ih (i + 1) _ (by omega) (by omega)
    have skip : ¬ sp1 l i → Ev (fun k => spec_l3Break.j1 k (S l) (oi b) (i : Int) true) (oi (scanB l (e + 1) i b)) := by
      intro q
      refine Ev.step (fun k => by rw [spec_l3Break.j1]) ?_
      rw [w]
      exact ev_pos rfl (hn b (by rw [if_neg (fun z => q z.1)]))
    have eb : bt (S l) ((i + 1 : Nat) : Int) = ((l.getD (i + 1) 0).toNat : Int) := by rw [bt_S, Int.toNat_natCast]
    refine Ev.step (fun k => by rw [spec_l3Break.l0]) ?_
    simp only [size_S, w, w2, eb]
    simp only [bt_S, Int.toNat_natCast, u32]
    refine ev_pos (by clear w w2 eb; omega) (ev_pos (by clear w w2 eb; omega) (ev_pos (by clear w w2 eb; omega) ?_))
    by_cases c1 : l.getD i 0 = 32
    · refine ev_pos c1 (ev_pos (by clear w w2 eb; omega) (ev_pos (by clear w w2 eb; omega) ?_))
      by_cases c2 : l.getD (i - 1) 0 = 32
      · exact ev_pos c2 (skip (fun q => q.2.1 c2))
      · refine ev_neg c2 (ev_pos (by clear w w2 eb; omega) ?_)
        by_cases c3 : l.getD (i + 1) 0 = 32
        · rw [beq_iff_eq.2 ((u32 _).2 c3)]
          exact skip (fun q => q.2.2 c3)
        · rw [beq_eq_false_iff_ne.2 (fun q => c3 ((u32 _).1 q))]
          refine Ev.step (fun k => by rw [spec_l3Break.j1]) ?_
          simp only [w, oi_neg]
          refine ev_neg (by decide) ?_
          by_cases c5 : (i : Int) ≤ 40
          · exact ev_pos c5 (hn (some i) (by rw [if_pos ⟨⟨c1, c2, c3⟩, Or.inr (by clear w w2 eb; omega)⟩]))
          · refine ev_neg c5 ?_
            by_cases c4 : b = none
            · exact ev_pos c4 (hn (some i) (by rw [if_pos ⟨⟨c1, c2, c3⟩, Or.inl c4⟩]))
            · exact ev_neg c4 (hn b (by rw [if_neg (fun q => q.2.elim c4 (fun z => c5 (by clear w w2 eb; omega)))]))
    · exact ev_neg c1 (skip (fun q => c1 q.1))
theorem sfold_l0 : ∀ (f : Nat) (l : List UInt8) (from_ : Nat) (outs : List (List UInt8)), l.length ≤ f → f ≤ 1000 → 1 ≤ from_ → from_ ≤ 35 → outs.length + f ≤ 2000 →
    Ev (fun k => spec_FoldField.l0 k (SL outs) (S l) (from_ : Int)) (SL (outs ++ foldF f l (from_ + 1))) := by
  intro f
  induction f with
  | zero =>
    intro l first outs h1 _ _ _ h5
    have : l = [] := List.eq_nil_of_length_eq_zero (by omega)
    subst this
    refine Ev.step (fun k => by rw [spec_FoldField.l0]) ?_
    simp only [size_S, SL_length, SL_one, SL_append]
    exact ev_neg (by simp) (ev_pos (by omega) (Ev.now _))
  | succ f ih =>
    intro l first outs h1 h2 h3 h4 h5
    refine Ev.step (fun k => by rw [spec_FoldField.l0]) ?_
    simp only [size_S, SL_length, SL_one, SL_append]
    by_cases h40 : l.length > 40
    · refine ev_pos (by omega) ?_
      have hb0 : Ev (fun k => spec_l3Break.f k (S l) (first : Int)) (oi (brk l (first + 1))) := by
        have w : wrap64 ((first : Int) + 1) = ((first + 1 : Nat) : Int) := by rw [w64 (by omega) (by omega)]; omega
        simp only [spec_l3Break.f, w]
        clear w
        exact sscan (by omega) (l.length - 1 - (first + 1)) (first + 1) none (by omega) (by omega)
      refine Ev.bind hb0 ?_
      simp only [oi_neg]
      cases hb : brk l (first + 1) with
      | none =>
        have er : foldF (f + 1) l (first + 1) = [l] := by rw [foldF, if_pos h40, hb]
        rw [er]
        exact ev_pos rfl (ev_pos (by omega) (Ev.now _))
      | some k =>
        have er : foldF (f + 1) l (first + 1) = l.take k :: foldF f (l.drop k) 2 := by rw [foldF, if_pos h40, hb]
        obtain ⟨k1, k2, _⟩ := brk_in (by omega) hb
        rw [er]
        have ek : oi (some k) = (k : Int) := rfl
        rw [ek]
        simp only [Int.toNat_natCast, extract_S, List.drop_zero, Nat.sub_zero, SL_one, SL_append]
        have e3 : (l.drop k).take (l.length - k) = l.drop k := List.take_of_length_le (by rw [List.length_drop]; exact Nat.le_refl _)
        have := ih (l.drop k) 1 (outs ++ [l.take k]) (by rw [List.length_drop]; omega) (by omega) (by omega) (by omega) (by rw [List.length_append]; simp; omega)
        rw [List.append_assoc] at this
        rw [e3]
        exact ev_neg (by simp) (ev_pos (by omega) (ev_pos (by omega) (ev_pos (by omega) this)))
    · have er : foldF (f + 1) l (first + 1) = [l] := by rw [foldF, if_neg h40]
      rw [er]
      exact ev_neg (by omega) (ev_pos (by omega) (Ev.now _))
theorem sFold_ev (n v : List UInt8) (hn : n.length ≤ 1000000000) (hv : v.length ≤ 1000000000) : Ev (fun k => spec_FoldField.f k (S n) (S v)) (SL (if fieldOK n v then foldL n v else [])) := by
  simp only [spec_FoldField.f, Option.bind_some]
  refine Ev.bind (svalid2_ev n v hn hv) ?_
  by_cases h : fieldOK n v
  · rw [if_pos h]
    refine ev_pos (decide_eq_true h) ?_
    have h1 := h.1.2.1
    have h2 := h.2.2.1
    have hll := lineF_len n v
    simp only [size_S, e58, e32, append_S, toList_S]
    have hl58 : (n ++ [58]).length = n.length + 1 := by simp
    refine ev_pos (fitsN (by omega)) ?_
    by_cases hv0 : v = []
    · refine ev_pos hv0 ?_
      have el : n ++ [58] = lineF n v := by unfold lineF; rw [if_pos hv0, List.append_nil]
      refine Ev.step (fun k => by rw [spec_FoldField.j0]) ?_
      have := sfold_l0 200 (lineF n v) (n.length + 1) [] (by omega) (by omega) (by omega) (by omega) (by simp)
      have e2 : foldF 200 (lineF n v) (n.length + 1 + 1) = foldL n v := foldF_short (by rw [← el, hl58]; omega) _ _
      rw [List.nil_append, e2] at this
      rw [hl58, el]
      exact this
    · have el : n ++ [58] ++ [32] ++ v = lineF n v := by unfold lineF; rw [if_neg hv0]; simp
      have w : wrap64 (((n ++ [58]).length : Int) + 1) = ((n.length + 2 : Nat) : Int) := by rw [hl58, w64 (by omega) (by omega)]; omega
      rw [w]
      clear w
      refine ev_neg hv0 (ev_pos (fitsN (by omega)) (ev_pos (fitsN (by simp; omega)) ?_))
      refine Ev.step (fun k => by rw [spec_FoldField.j0]) ?_
      have := sfold_l0 200 (lineF n v) (n.length + 2) [] (by omega) (by omega) (by omega) (by omega) (by simp)
      rw [el]
      exact this
  · rw [if_neg h]
    exact ev_neg (by simpa using h) (Ev.now _)

/-- Fields, as the program has them. -/
def SF (F : List (List UInt8 × List UInt8)) : List S36 := F.map fun p => ⟨S p.1, S p.2⟩
theorem SF_length (F : List (List UInt8 × List UInt8)) : (SF F).length = F.length := by unfold SF; simp
theorem rd_SF (F : List (List UInt8 × List UInt8)) (i : Nat) (h : i < F.length) : rd_T36 (SF F) (i : Int) = ⟨S F[i].1, S F[i].2⟩ := by
  unfold rd_T36 SF
  rw [Int.toNat_natCast, List.getD_eq_getElem?_getD]
  simp [h]
def Fine (F : List (List UInt8 × List UInt8)) : Prop := F.length ≤ 20 ∧ ∀ p ∈ F, fieldOK p.1 p.2
instance (F : List (List UInt8 × List UInt8)) : Decidable (Fine F) := by unfold Fine; exact inferInstance
def Small (F : List (List UInt8 × List UInt8)) : Prop := F.length ≤ 1000000000 ∧ ∀ p ∈ F, p.1.length ≤ 1000000000 ∧ p.2.length ≤ 1000000000
theorem iidx_ev (F : List (List UInt8 × List UInt8)) (hF : Small F) : Ev (fun k => impl_Field_53.f k (SF F)) (decide (∃ p ∈ F, ¬ fieldOK p.1 p.2)) := by
  have loop : ∀ (e i : Nat), i + e = F.length → (∀ j (h : j < F.length), j < i → fieldOK F[j].1 F[j].2) → ∃ r : Int, Ev (fun k => impl_Field_73.l0 k (SF F) (F.length : Int) (i : Int)) r ∧ (r ≥ 0 ↔ ∃ p ∈ F, ¬ fieldOK p.1 p.2) := by
    intro e
    induction e with
    | zero =>
      intro i hi hp
      refine ⟨-1, ?_, fun q => by omega, ?_⟩
      · refine Ev.step (fun k => by rw [impl_Field_73.l0]) ?_
        exact ev_neg (by omega) (Ev.now _)
      · rintro ⟨p, hm, hq⟩
        obtain ⟨j, hj, rfl⟩ := List.mem_iff_getElem.1 hm
        exact absurd (hp j hj (by omega)) hq
    | succ e ih =>
      intro i hi hp
      have hlt : i < F.length := by omega
      have w : wrap64 ((i : Int) + 1) = ((i + 1 : Nat) : Int) := by
        have := hF.1
        rw [w64 (by omega) (by omega)]
        omega
      have hs := hF.2 F[i] (List.getElem_mem hlt)
      have hv := ivalid_ev F[i].1 F[i].2 hs.1 hs.2
      by_cases hc : fieldOK F[i].1 F[i].2
      · obtain ⟨r, hr, hq⟩ := ih (i + 1) (by omega) (fun j hj hji => by
          by_cases q : j = i
          · subst q
            exact hc
          · exact hp j hj (by omega))
        refine ⟨r, ?_, hq⟩
        refine Ev.step (fun k => by rw [impl_Field_73.l0]) ?_
        simp only [SF_length, rd_SF F i hlt, w, impl_fieldsValid_1.f]
        clear w
        rw [decide_eq_true hc] at hv
        refine ev_pos (by omega) (ev_pos (by omega) (ev_pos (by omega) (Ev.bind (Ev.bind hv (Ev.now _)) (ev_neg (by decide) hr))))
      · refine ⟨(i : Int), ?_, fun _ => ⟨F[i], List.getElem_mem hlt, hc⟩, fun _ => by omega⟩
        refine Ev.step (fun k => by rw [impl_Field_73.l0]) ?_
        simp only [SF_length, rd_SF F i hlt, w, impl_fieldsValid_1.f]
        clear w
        rw [decide_eq_false hc] at hv
        exact ev_pos (by omega) (ev_pos (by omega) (ev_pos (by omega) (Ev.bind (Ev.bind hv (Ev.now _)) (ev_pos rfl (Ev.now _)))))
  obtain ⟨r, hr, hq⟩ := loop F.length 0 (by omega) (fun j _ h => by omega)
  simp only [impl_Field_53.f, impl_Field_73.f, SF_length]
  refine Ev.bind hr (ev_is ?_)
  rw [decide_eq_decide.2 hq]
theorem ivalids_ev (F : List (List UInt8 × List UInt8)) (hF : Small F) : Ev (fun k => impl_fieldsValid.f k (SF F)) (decide (Fine F)) := by
  simp only [impl_fieldsValid.f, SF_length]
  by_cases h : (F.length : Int) ≤ 20
  · refine ev_pos h (Ev.bind (iidx_ev F hF) (ev_is ?_))
    refine congrArg some ?_
    rw [Bool.eq_iff_iff, Bool.not_eq_true', decide_eq_false_iff_not, decide_eq_true_eq]
    constructor
    · intro q
      exact ⟨by omega, fun p hp => Decidable.byContradiction fun z => q ⟨p, hp, z⟩⟩
    · rintro q ⟨p, hp, z⟩
      exact z (q.2 p hp)
  · rw [decide_eq_false (fun q : Fine F => by have := q.1; omega)]
    exact ev_neg h (Ev.now _)
theorem hasp_is (s : List UInt8) (hs : s.length ≤ 1000000000) : strings_HasPrefix.f (S s) (⟨#[32]⟩ : ByteArray) = some (decide (s.head? = some 32)) := by
  unfold strings_HasPrefix.f stringslite_HasPrefix.f
  have e1 : ((⟨#[32]⟩ : ByteArray).size : Int) = 1 := rfl
  rw [e1, size_S]
  cases s with
  | nil => rfl
  | cons c r =>
    have h1 : ((c :: r).length : Int) ≥ 1 := by simp only [List.length_cons]; omega
    rw [if_pos h1, if_pos (by omega), if_pos h1, Option.bind_some]
    refine congrArg some ?_
    have e2 : (S (c :: r)).extract 0 ((1 : Int)).toNat = S [c] := by rw [extract_S]; rfl
    have e3 : (⟨#[32]⟩ : ByteArray).toList = [32] := toList_S [32]
    rw [e2, toList_S, e3, Bool.eq_iff_iff, beq_iff_eq, decide_eq_true_eq]
    simp

/-- Lines, those that begin with a space behind the one ahead of them. -/
def grpA : List UInt8 → List (List UInt8) → List (List UInt8)
  | cur, [] => [cur]
  | cur, l :: r => if l.head? = some 32 then grpA (cur ++ l) r else cur :: grpA l r
def groups : List (List UInt8) → List (List UInt8)
  | [] => []
  | l :: r => grpA l r
theorem grpA_sum : ∀ (r : List (List UInt8)) (cur : List UInt8), (grpA cur r).flatten = cur ++ r.flatten ∧ (grpA cur r).length ≤ r.length + 1 := by
  intro r
  induction r with
  | nil => intro cur; exact ⟨by simp [grpA], by simp [grpA]⟩
  | cons l r ih =>
    intro cur
    unfold grpA
    split
    · obtain ⟨h1, h2⟩ := ih (cur ++ l)
      exact ⟨by rw [h1]; simp, by simp only [List.length_cons]; omega⟩
    · obtain ⟨h1, h2⟩ := ih l
      exact ⟨by rw [List.flatten_cons, h1]; simp, by simp only [List.length_cons]; omega⟩
/-- A line parted at its first colon. -/
def one (l : List UInt8) : Option (List UInt8 × List UInt8) := if 0 ≤ Lib.indexByte l 58 then some (l.take (Lib.indexByte l 58).toNat, Lib.trimB (l.drop ((Lib.indexByte l 58).toNat + 1)) 32) else none
theorem one_len {l : List UInt8} {p : List UInt8 × List UInt8} (h : one l = some p) : p.1.length ≤ l.length ∧ p.2.length ≤ l.length := by
  unfold one at h
  split at h
  · obtain rfl := Option.some.inj h
    have e : Lib.trimB (l.drop ((Lib.indexByte l 58).toNat + 1)) 32 = trimL (trimR (l.drop ((Lib.indexByte l 58).toNat + 1))) := rfl
    have h1 := trimL_len (trimR (l.drop ((Lib.indexByte l 58).toNat + 1)))
    have h2 := trimR_len (l.drop ((Lib.indexByte l 58).toNat + 1))
    refine ⟨by rw [List.length_take]; omega, ?_⟩
    rw [List.length_drop] at h2
    show (Lib.trimB (l.drop ((Lib.indexByte l 58).toNat + 1)) 32).length ≤ l.length
    rw [e]
    omega
  · cases h
theorem one_cut (l : List UInt8) (hl : l.length ≤ 1000000000) : strings_Cut.f (S l) (⟨#[58]⟩ : ByteArray) = some (S (Lib.cut l [58]).1, S (Lib.cut l [58]).2.1, (Lib.cut l [58]).2.2) := by
  unfold strings_Cut.f
  rw [if_pos (by rw [size_S]; omega)]
  rfl
def specR : List (List UInt8) → List (List UInt8 × List UInt8) → List S36 × Bool
  | [], F => (SF F, true)
  | g :: gs, F => match one g with
    | some p => if fieldOK p.1 p.2 ∧ F.length ≠ 20 then specR gs (F ++ [p]) else ([], false)
    | none => ([], false)
def implR : List (List UInt8) → List (List UInt8 × List UInt8) → List S36 × Bool
  | [], F => if Fine F then (SF F, true) else ([], false)
  | g :: gs, F => match one g with
    | some p => implR gs (F ++ [p])
    | none => ([], false)
theorem implR_bad : ∀ (gs : List (List UInt8)) (F : List (List UInt8 × List UInt8)), ¬ Fine F → implR gs F = ([], false) := by
  intro gs
  induction gs with
  | nil => intro F h; exact if_neg h
  | cons g gs ih =>
    intro F h
    unfold implR
    cases one g with
    | none => rfl
    | some p =>
      refine ih _ (fun q => h ⟨?_, fun x hx => q.2 x (by simp [hx])⟩)
      have := q.1
      rw [List.length_append] at this
      omega
theorem specR_implR : ∀ (gs : List (List UInt8)) (F : List (List UInt8 × List UInt8)), Fine F → specR gs F = implR gs F := by
  intro gs
  induction gs with
  | nil => intro F h; exact (if_pos h).symm
  | cons g gs ih =>
    intro F h
    unfold specR implR
    cases one g with
    | none => rfl
    | some p =>
      show (if fieldOK p.1 p.2 ∧ F.length ≠ 20 then specR gs (F ++ [p]) else ([], false)) = implR gs (F ++ [p])
      by_cases q : fieldOK p.1 p.2 ∧ F.length ≠ 20
      · rw [if_pos q]
        have := h.1
        refine ih _ ⟨by rw [List.length_append]; simp; omega, fun x hx => ?_⟩
        rcases List.mem_append.1 hx with hx | hx
        · exact h.2 x hx
        · simp only [List.mem_singleton] at hx
          subst hx
          exact q.1
      · rw [if_neg q, implR_bad]
        intro z
        apply q
        refine ⟨z.2 p (by simp), ?_⟩
        have := z.1
        rw [List.length_append] at this
        simp at this
        omega
theorem specR_len : ∀ (gs : List (List UInt8)) (F : List (List UInt8 × List UInt8)), F.length ≤ 20 → (specR gs F).1.length ≤ 20 := by
  intro gs
  induction gs with
  | nil => intro F h; unfold specR; rw [SF_length]; exact h
  | cons g gs ih =>
    intro F h
    unfold specR
    cases one g with
    | none => exact Nat.zero_le _
    | some p =>
      show (if fieldOK p.1 p.2 ∧ F.length ≠ 20 then specR gs (F ++ [p]) else ([], false)).1.length ≤ 20
      by_cases q : fieldOK p.1 p.2 ∧ F.length ≠ 20
      · rw [if_pos q]
        exact ih _ (by rw [List.length_append]; simp; omega)
      · rw [if_neg q]
        exact Nat.zero_le _
def readR (ls : List (List UInt8)) : List S36 × Bool := specR (groups ls) []
theorem SF_append (F G : List (List UInt8 × List UInt8)) : SF F ++ SF G = SF (F ++ G) := by unfold SF; simp
theorem sone_loop (l : List UInt8) (hl : l.length ≤ 1000000000) : ∀ (e i : Nat), i + e = l.length → (∀ j (h : j < l.length), j < i → l[j] ≠ 58) →
    ∃ a b c, Ev (fun k => spec_l3One.l0 k (S l) (i : Int)) (a, b, c) ∧ ((c = true ∧ ∃ p, one l = some p ∧ fieldOK p.1 p.2 ∧ a = S p.1 ∧ b = S p.2) ∨ (c = false ∧ (one l = none ∨ ∃ p, one l = some p ∧ ¬ fieldOK p.1 p.2))) := by
  intro e
  induction e with
  | zero =>
    intro i hi hp
    refine ⟨_, _, _, Ev.step (fun k => by rw [spec_l3One.l0]) (ev_neg (by rw [size_S]; omega) (Ev.now _)), Or.inr ⟨rfl, Or.inl ?_⟩⟩
    unfold one
    refine if_neg (fun q => ?_)
    obtain ⟨o, ho⟩ := Int.eq_ofNat_of_zero_le q
    obtain ⟨h1, _⟩ := Lib.indexByte_some ho
    obtain ⟨h2, h3⟩ := List.getElem?_eq_some_iff.1 h1
    exact hp o h2 (by omega) h3
  | succ e ih =>
    intro i hi hp
    have hlt : i < l.length := by omega
    have hg : l.getD i 0 = l[i] := by rw [List.getD_eq_getElem?_getD, List.getElem?_eq_getElem hlt]; rfl
    have w : wrap64 ((i : Int) + 1) = ((i + 1 : Nat) : Int) := by rw [w64 (by omega) (by omega)]; omega
    by_cases hc : l[i] = 58
    · have hx : Lib.indexByte l 58 = (i : Int) := by
        have e1 : l = l.take i ++ 58 :: l.drop (i + 1) := by rw [← hc, ← drop_cons hlt, List.take_append_drop]
        have e2 := indexB_skip 58 (l.drop (i + 1)) (l.take i) (fun x hx => by
          obtain ⟨j, hj, rfl⟩ := List.mem_iff_getElem.1 hx
          rw [List.length_take] at hj
          rw [List.getElem_take]
          exact hp j (by omega) (by omega))
        rw [← e1, List.length_take] at e2
        rw [e2]
        omega
      have ho : one l = some (l.take i, Lib.trimB (l.drop (i + 1)) 32) := by
        unfold one
        rw [hx, if_pos (by omega), Int.toNat_natCast]
      have ex : (S l).extract (i + 1) l.length = S (l.drop (i + 1)) := by
        rw [extract_S, List.take_of_length_le (by rw [List.length_drop]; exact Nat.le_refl _)]
      have ex0 : (S l).extract 0 i = S (l.take i) := by rw [extract_S, List.drop_zero, Nat.sub_zero]
      have ht := spec_trim (l.drop (i + 1)) (by rw [List.length_drop]; omega)
      have tl := trim_len (l.drop (i + 1))
      rw [List.length_drop] at tl
      have hv := svalid2_ev (l.take i) (trim (l.drop (i + 1))) (by rw [List.length_take]; omega) (by omega)
      have c58 : (l[i].toNat : Int) = 58 := by rw [hc]; rfl
      have te : trim (l.drop (i + 1)) = Lib.trimB (l.drop (i + 1)) 32 := trim_trimB _
      rw [te] at ht hv
      have go : ∀ c, Ev (fun k => spec_FieldValid.f k (S (l.take i)) (S (Lib.trimB (l.drop (i + 1)) 32))) c → Ev (fun k => spec_l3One.l0 k (S l) (i : Int)) (S (l.take i), S (Lib.trimB (l.drop (i + 1)) 32), c) := by
        intro c hcv
        refine Ev.step (fun k => by rw [spec_l3One.l0]) ?_
        simp only [size_S, bt_S, Int.toNat_natCast, hg, w, ex, ex0]
        clear w
        exact ev_pos (by omega) (ev_pos (by omega) (ev_pos c58 (ev_pos (by omega) (ev_pos (by omega) (ev_pos (by omega) (Ev.bind ht (Ev.bind hcv (Ev.now _))))))))
      refine ⟨_, _, _, go _ hv, ?_⟩
      by_cases q : fieldOK (l.take i) (Lib.trimB (l.drop (i + 1)) 32)
      · exact Or.inl ⟨decide_eq_true q, _, ho, q, rfl, rfl⟩
      · exact Or.inr ⟨decide_eq_false q, Or.inr ⟨_, ho, q⟩⟩
    · obtain ⟨a, b, c, h1, h2⟩ := ih (i + 1) (by omega) (fun j hj hji => by
        by_cases q : j = i
        · subst q
          exact hc
        · exact hp j hj (by omega))
      refine ⟨a, b, c, Ev.step (fun k => by rw [spec_l3One.l0]) ?_, h2⟩
      simp only [size_S, bt_S, Int.toNat_natCast, hg, w]
      clear w
      exact ev_pos (by omega) (ev_pos (by omega) (ev_neg (fun q => hc (UInt8.toNat_inj.1 (by show l[i].toNat = 58; omega))) h1))
/-- One line's field and the rest of the lines. -/
theorem sone_then {l : List UInt8} {gs : List (List UInt8)} {F : List (List UInt8 × List UInt8)} {x0 : List ByteArray} {x5 : Int} (hl : l.length ≤ 1000000000) (hF : F.length ≤ 20)
    (H : ∀ p, one l = some p → fieldOK p.1 p.2 → F.length ≠ 20 → Ev (fun k => spec_ReadFields.l0 k x0 (SF (F ++ [p])) x5) (specR gs (F ++ [p]))) :
    Ev (fun k => (spec_l3One.f k (S l)).bind fun bt => (if bt.2.2 = true then (if ((SF F).length : Int) = 20 then (some ((([] : List (S36))), false)) else (if (SF F).length < 4398046511104 then (spec_ReadFields.l0 k x0 (SF F ++ [(⟨bt.1, bt.2.1⟩ : S36)]) x5) else (none))) else (some ((([] : List (S36))), false)))) (specR (l :: gs) F) := by
  obtain ⟨a, b, c, h1, h2⟩ := sone_loop l hl l.length 0 (by omega) (fun j _ h => by omega)
  have h1' : Ev (fun k => spec_l3One.f k (S l)) (a, b, c) := h1
  refine Ev.bind h1' ?_
  rw [SF_length]
  rcases h2 with ⟨rfl, p, ho, hok, rfl, rfl⟩ | ⟨rfl, h2⟩
  · have e : specR (l :: gs) F = if fieldOK p.1 p.2 ∧ F.length ≠ 20 then specR gs (F ++ [p]) else ([], false) := by
      show (match one l with | some p => (if fieldOK p.1 p.2 ∧ F.length ≠ 20 then specR gs (F ++ [p]) else ([], false)) | none => ([], false)) = _
      rw [ho]
    rw [e]
    refine ev_pos rfl ?_
    by_cases q : (F.length : Int) = 20
    · rw [if_neg (fun z => z.2 (by omega))]
      exact ev_pos q (Ev.now _)
    · rw [if_pos ⟨hok, by omega⟩]
      have e2 : SF F ++ [(⟨S p.1, S p.2⟩ : S36)] = SF (F ++ [p]) := SF_append F [p]
      rw [e2]
      exact ev_neg q (ev_pos (by omega) (H p ho hok (by omega)))
  · have e : specR (l :: gs) F = ([], false) := by
      show (match one l with | some p => (if fieldOK p.1 p.2 ∧ F.length ≠ 20 then specR gs (F ++ [p]) else ([], false)) | none => ([], false)) = _
      rcases h2 with h2 | ⟨p, h2, h3⟩
      · rw [h2]
      · rw [h2]
        exact if_neg (fun z => h3 z.1)
    rw [e]
    exact ev_neg (by simp) (Ev.now _)
theorem sread_l1 (ls : List (List UInt8)) (hn : ls.length ≤ 1048576) : ∀ (e i : Nat) (cur : List UInt8) (F : List (List UInt8 × List UInt8)), i + e = ls.length → cur.length + (ls.drop i).flatten.length ≤ 1048576 → F.length ≤ 20 →
    Ev (fun k => spec_ReadFields.l1 k (SL ls) (SF F) (i : Int) (S cur)) (specR (grpA cur (ls.drop i)) F) := by
  intro e
  induction e with
  | zero =>
    intro i cur F hi hc hF
    rw [List.drop_of_length_le (by omega)] at hc ⊢
    refine Ev.step (fun k => by rw [spec_ReadFields.l1]) ?_
    rw [SL_length]
    refine ev_neg (by omega) (sone_then (by simp at hc; omega) hF (fun p _ _ _ => ?_))
    refine Ev.step (fun k => by rw [spec_ReadFields.l0]) ?_
    rw [SL_length]
    exact ev_neg (by omega) (Ev.now _)
  | succ e ih =>
    intro i cur F hi hc hF
    have hlt : i < ls.length := by omega
    have w : wrap64 ((i : Int) + 1) = ((i + 1 : Nat) : Int) := by rw [w64 (by omega) (by omega)]; omega
    have hd : ls.drop i = ls[i] :: ls.drop (i + 1) := List.drop_eq_getElem_cons hlt
    rw [hd] at hc ⊢
    rw [List.flatten_cons, List.length_append] at hc
    have next : Ev (fun k => spec_ReadFields.l1 k (SL ls) (SF F) ((i + 1 : Nat) : Int) (S (cur ++ ls[i]))) (specR (grpA (cur ++ ls[i]) (ls.drop (i + 1))) F) := ih (i + 1) (cur ++ ls[i]) F (by omega) (by rw [List.length_append]; omega) hF
    have other : ls[i].head? ≠ some 32 → Ev (fun k => (spec_l3One.f k (S cur)).bind fun bt => (if bt.2.2 = true then (if ((SF F).length : Int) = 20 then (some ((([] : List (S36))), false)) else (if (SF F).length < 4398046511104 then (spec_ReadFields.l0 k (SL ls) (SF F ++ [(⟨bt.1, bt.2.1⟩ : S36)]) (i : Int)) else (none))) else (some ((([] : List (S36))), false)))) (specR (grpA cur (ls[i] :: ls.drop (i + 1))) F) := by
      intro hh
      have eg : grpA cur (ls[i] :: ls.drop (i + 1)) = cur :: grpA ls[i] (ls.drop (i + 1)) := by rw [grpA, if_neg hh]
      rw [eg]
      refine sone_then (by omega) hF (fun p _ _ hne => ?_)
      refine Ev.step (fun k => by rw [spec_ReadFields.l0]) ?_
      simp only [SL_length, rdOf_SL _ ls i hlt, w]
      refine ev_pos (by clear w; omega) (ev_pos (by clear w; omega) ?_)
      exact ih (i + 1) ls[i] (F ++ [p]) (by omega) (by omega) (by rw [List.length_append]; simp; omega)
    have b0 : bt (S ls[i]) 0 = ((ls[i].getD 0 0).toNat : Int) := by rw [bt_S]; rfl
    refine Ev.step (fun k => by rw [spec_ReadFields.l1]) ?_
    simp only [SL_length, rdOf_SL _ ls i hlt, w, append_S]
    clear w
    simp only [size_S, b0, u32]
    refine ev_pos (by omega) (ev_pos (by omega) ?_)
    by_cases h1 : (ls[i].length : Int) > 0
    · refine ev_pos h1 (ev_pos (by omega) ?_)
      have hhd : ls[i].head? = some (ls[i].getD 0 0) := by
        cases hq : ls[i] with
        | nil => rw [hq] at h1; simp at h1
        | cons c r => rfl
      by_cases h2 : ls[i].getD 0 0 = 32
      · have eg : grpA cur (ls[i] :: ls.drop (i + 1)) = grpA (cur ++ ls[i]) (ls.drop (i + 1)) := by rw [grpA, if_pos (by rw [hhd, h2])]
        rw [eg]
        exact ev_pos h2 (ev_pos (by omega) next)
      · exact ev_neg h2 (other (fun q => h2 (by rw [hhd] at q; exact Option.some.inj q)))
    · refine ev_neg h1 (other (fun q => ?_))
      cases hq : ls[i] with
      | nil => rw [hq] at q; cases q
      | cons c r => rw [hq] at h1; simp only [List.length_cons] at h1; omega
theorem sread_ev (ls : List (List UInt8)) (hn : ls.length ≤ 1048576) (hs : ls.flatten.length ≤ 1048576) : Ev (fun k => spec_ReadFields.f k (SL ls)) (readR ls) := by
  simp only [spec_ReadFields.f]
  cases ls with
  | nil =>
    refine Ev.step (fun k => by rw [spec_ReadFields.l0]) ?_
    exact ev_neg (by decide) (Ev.now _)
  | cons l r =>
    have hpos : (0 : Int) < ((l :: r).length : Int) := by simp only [List.length_cons]; omega
    have w : wrap64 ((0 : Int) + 1) = ((1 : Nat) : Int) := by rw [w64 (by omega) (by omega)]; rfl
    have r0 : rdOf ByteArray.empty (SL (l :: r)) (0 : Int) = S l := rfl
    have := sread_l1 (l :: r) hn r.length 1 l [] (by simp; omega) (by simpa using hs) (by simp)
    refine Ev.step (fun k => by rw [spec_ReadFields.l0]) ?_
    rw [SL_length, r0, w]
    exact ev_pos hpos (ev_pos (by decide) this)
theorem iread_l1 (gs : List (List UInt8)) (hn : gs.length ≤ 2000000) (hs : ∀ g ∈ gs, g.length ≤ 1048576) : ∀ (e i : Nat) (F : List (List UInt8 × List UInt8)), i + e = gs.length → F.length ≤ i → (∀ p ∈ F, p.1.length ≤ 1000000000 ∧ p.2.length ≤ 1000000000) →
    Ev (fun k => impl_ReadFields.l1 k (SF F) (SL gs) (gs.length : Int) (i : Int)) (implR (gs.drop i) F) := by
  intro e
  induction e with
  | zero =>
    intro i F hi hF hp
    rw [List.drop_of_length_le (by omega)]
    refine Ev.step (fun k => by rw [impl_ReadFields.l1]) ?_
    refine ev_neg (by omega) (Ev.bind (ivalids_ev F ⟨by omega, hp⟩) ?_)
    unfold implR
    by_cases q : Fine F
    · rw [if_pos q]
      exact ev_pos (decide_eq_true q) (Ev.now _)
    · rw [if_neg q]
      exact ev_neg (by simpa using q) (Ev.now _)
  | succ e ih =>
    intro i F hi hF hp
    have hlt : i < gs.length := by omega
    have w : wrap64 ((i : Int) + 1) = ((i + 1 : Nat) : Int) := by rw [w64 (by omega) (by omega)]; omega
    have hg := hs gs[i] (List.getElem_mem hlt)
    rw [List.drop_eq_getElem_cons hlt]
    have ec : Lib.cut gs[i] [58] = if 0 ≤ Lib.indexByte gs[i] 58 then (gs[i].take (Lib.indexByte gs[i] 58).toNat, gs[i].drop ((Lib.indexByte gs[i] 58).toNat + 1), true) else (gs[i], [], false) := by
      unfold Lib.cut
      rw [Lib.index_one]
      rfl
    refine Ev.step (fun k => by rw [impl_ReadFields.l1]) ?_
    simp only [SL_length, rdOf_SL _ gs i hlt, one_cut gs[i] (by omega), Option.bind_some, w]
    clear w
    refine ev_pos (by omega) (ev_pos (by omega) (ev_pos (by omega) ?_))
    by_cases h : 0 ≤ Lib.indexByte gs[i] 58
    · rw [if_pos h] at ec
      have ho : one gs[i] = some (gs[i].take (Lib.indexByte gs[i] 58).toNat, Lib.trimB (gs[i].drop ((Lib.indexByte gs[i] 58).toNat + 1)) 32) := by unfold one; rw [if_pos h]
      have hl := one_len ho
      have e1 : implR (gs[i] :: gs.drop (i + 1)) F = implR (gs.drop (i + 1)) (F ++ [(gs[i].take (Lib.indexByte gs[i] 58).toNat, Lib.trimB (gs[i].drop ((Lib.indexByte gs[i] 58).toNat + 1)) 32)]) := by
        show (match one gs[i] with | some p => implR (gs.drop (i + 1)) (F ++ [p]) | none => ([], false)) = _
        rw [ho]
      have ht := itrim_is (gs[i].drop ((Lib.indexByte gs[i] 58).toNat + 1)) (by rw [List.length_drop]; omega)
      rw [ec, e1]
      simp only [ht, Option.bind_some, SF_length]
      have e2 : SF F ++ [(⟨S (gs[i].take (Lib.indexByte gs[i] 58).toNat), S (Lib.trimB (gs[i].drop ((Lib.indexByte gs[i] 58).toNat + 1)) 32)⟩ : S36)] = SF (F ++ [(gs[i].take (Lib.indexByte gs[i] 58).toNat, Lib.trimB (gs[i].drop ((Lib.indexByte gs[i] 58).toNat + 1)) 32)]) := by rw [← SF_append]; rfl
      rw [e2]
      refine ev_pos trivial (ev_pos (by omega) (ih (i + 1) _ (by omega) (by rw [List.length_append]; simp; omega) (fun p hp2 => ?_)))
      rcases List.mem_append.1 hp2 with hp2 | hp2
      · exact hp p hp2
      · simp only [List.mem_singleton] at hp2
        subst hp2
        exact ⟨by have := hl.1; omega, by have := hl.2; omega⟩
    · rw [if_neg h] at ec
      have ho : one gs[i] = none := by unfold one; rw [if_neg h]
      have e1 : implR (gs[i] :: gs.drop (i + 1)) F = ([], false) := by
        show (match one gs[i] with | some p => implR (gs.drop (i + 1)) (F ++ [p]) | none => ([], false)) = _
        rw [ho]
      rw [ec, e1]
      exact ev_neg (by simp) (Ev.now _)
theorem iread_l0 (ls : List (List UInt8)) (hn : ls.length ≤ 1048576) (hb : ∀ l ∈ ls, l.length ≤ 1048576) : ∀ (e i : Nat) (ws : List (List UInt8)) (cur : List UInt8), i + e = ls.length → ws.length + 1 ≤ i → cur.length + (ls.drop i).flatten.length ≤ 1048576 → (∀ g ∈ ws, g.length ≤ 1048576) →
    Ev (fun k => impl_ReadFields.l0 k (SL (ws ++ [cur])) (SL ls) (ls.length : Int) (i : Int)) (implR (ws ++ grpA cur (ls.drop i)) []) := by
  intro e
  induction e with
  | zero =>
    intro i ws cur hi hw hc hws
    rw [List.drop_of_length_le (by omega)] at hc ⊢
    refine Ev.step (fun k => by rw [impl_ReadFields.l0]) ?_
    rw [SL_length]
    refine ev_neg (by omega) ?_
    have := iread_l1 (ws ++ [cur]) (by rw [List.length_append]; simp; omega) (fun g hg => by
      rcases List.mem_append.1 hg with hg | hg
      · exact hws g hg
      · simp only [List.mem_singleton] at hg
        subst hg
        simp at hc
        omega) (ws ++ [cur]).length 0 [] (by omega) (by simp) (fun p hp => by cases hp)
    have e0 : ((ws ++ [cur]).length : Int) = ((SL (ws ++ [cur])).length : Int) := by rw [SL_length]
    rw [List.drop_zero, e0] at this
    exact this
  | succ e ih =>
    intro i ws cur hi hw hc hws
    have hlt : i < ls.length := by omega
    have w : wrap64 ((i : Int) + 1) = ((i + 1 : Nat) : Int) := by rw [w64 (by omega) (by omega)]; omega
    have hd : ls.drop i = ls[i] :: ls.drop (i + 1) := List.drop_eq_getElem_cons hlt
    rw [hd] at hc ⊢
    rw [List.flatten_cons, List.length_append] at hc
    have hx := hb ls[i] (List.getElem_mem hlt)
    have hp := hasp_is ls[i] (by omega)
    have hwl : (ws ++ [cur]).length = ws.length + 1 := by simp
    have w2 : wrap64 (((ws ++ [cur]).length : Int) - 1) = (ws.length : Int) := by rw [hwl, w64 (by omega) (by omega)]; omega
    refine Ev.step (fun k => by rw [impl_ReadFields.l0]) ?_
    simp only [SL_length, rdOf_SL _ ls i hlt, hp, Option.bind_some, w, w2]
    clear w w2
    refine ev_pos (by omega) (ev_pos (by omega) (ev_pos (by omega) ?_))
    by_cases hh : ls[i].head? = some 32
    · have eg : grpA cur (ls[i] :: ls.drop (i + 1)) = grpA (cur ++ ls[i]) (ls.drop (i + 1)) := by rw [grpA, if_pos hh]
      rw [eg]
      have hlast : (ws ++ [cur])[ws.length]'(by rw [hwl]; omega) = cur := by simp
      have hr : rdOf ByteArray.empty (SL (ws ++ [cur])) (ws.length : Int) = S cur := by rw [rdOf_SL _ (ws ++ [cur]) ws.length (by rw [hwl]; omega), hlast]
      have eset : (SL (ws ++ [cur])).set ws.length (S (cur ++ ls[i])) = SL (ws ++ [cur ++ ls[i]]) := by
        unfold SL
        rw [← List.map_set]
        congr 1
        rw [List.set_append_right _ _ (Nat.le_refl _), Nat.sub_self]
        rfl
      simp only [hr, append_S, Int.toNat_natCast, eset]
      simp only [size_S]
      refine ev_pos (decide_eq_true hh) (ev_neg (by omega) (ev_pos (by omega) (ev_pos (by rw [hwl]; omega) (ev_pos (by omega) ?_))))
      exact ih (i + 1) ws (cur ++ ls[i]) (by omega) (by omega) (by rw [List.length_append]; omega) hws
    · have eg : grpA cur (ls[i] :: ls.drop (i + 1)) = cur :: grpA ls[i] (ls.drop (i + 1)) := by rw [grpA, if_neg hh]
      have ea : ws ++ cur :: grpA ls[i] (ls.drop (i + 1)) = (ws ++ [cur]) ++ grpA ls[i] (ls.drop (i + 1)) := by simp
      rw [eg, ea]
      simp only [SL_one, SL_append]
      refine ev_neg (by simpa using hh) (ev_pos (by rw [hwl]; omega) ?_)
      refine ih (i + 1) (ws ++ [cur]) ls[i] (by omega) (by rw [hwl]; omega) (by omega) (fun g hg => ?_)
      rcases List.mem_append.1 hg with hg | hg
      · exact hws g hg
      · simp only [List.mem_singleton] at hg
        subst hg
        omega
theorem readR_space {l : List UInt8} {r : List (List UInt8)} (h : l.head? = some 32) : readR (l :: r) = ([], false) := by
  obtain ⟨c, t, he⟩ : ∃ c t, grpA l r = c :: t ∧ c.head? = some 32 := by
    have : ∀ (r : List (List UInt8)) (l : List UInt8), l.head? = some 32 → ∃ c t, grpA l r = c :: t ∧ c.head? = some 32 := by
      intro r
      induction r with
      | nil => intro l h; exact ⟨l, [], rfl, h⟩
      | cons x r ih =>
        intro l h
        unfold grpA
        split
        · refine ih (l ++ x) ?_
          cases l with
          | nil => cases h
          | cons d s => exact h
        · exact ⟨l, _, rfl, h⟩
    exact this r l h
  have e : readR (l :: r) = specR (c :: t) [] := by
    show specR (grpA l r) [] = _
    rw [he.1]
  rw [e]
  show (match one c with | some p => (if fieldOK p.1 p.2 ∧ ([] : List (List UInt8 × List UInt8)).length ≠ 20 then specR t ([] ++ [p]) else ([], false)) | none => ([], false)) = _
  cases ho : one c with
  | none => rfl
  | some p =>
    refine if_neg (fun z => ?_)
    unfold one at ho
    split at ho
    · rename_i hi
      obtain rfl := Option.some.inj ho
      have h0 := z.1.1.1
      have hc := he.2
      cases c with
      | nil => cases hc
      | cons d s =>
        obtain rfl : d = 32 := Option.some.inj hc
        have hn := z.1.1.2.2.2 32 (by
          cases hk : (Lib.indexByte (32 :: s) 58).toNat with
          | zero => rw [hk] at h0; simp at h0
          | succ j => simp)
        exact (namB_ne hn).2 rfl
    · cases ho
theorem iread_ev (ls : List (List UInt8)) (hn : ls.length ≤ 1048576) (hs : ls.flatten.length ≤ 1048576) : Ev (fun k => impl_ReadFields.f k (SL ls)) (readR ls) := by
  have hb : ∀ l ∈ ls, l.length ≤ 1048576 := by
    intro x hx
    have := (List.sublist_flatten_of_mem hx).length_le
    omega
  have hF0 : Fine [] := ⟨by simp, fun p hp => by cases hp⟩
  simp only [impl_ReadFields.f, SL_length]
  cases ls with
  | nil =>
    have e : readR [] = implR [] [] := specR_implR [] [] hF0
    rw [e]
    refine Ev.step (fun k => by rw [impl_ReadFields.l0]) ?_
    refine ev_neg (by decide) ?_
    exact iread_l1 [] (by simp) (fun g hg => by cases hg) 0 0 [] rfl (by simp) (fun p hp => by cases hp)
  | cons l r =>
    have hpos : (0 : Int) < ((l :: r).length : Int) := by simp only [List.length_cons]; omega
    have w : wrap64 ((0 : Int) + 1) = ((1 : Nat) : Int) := by rw [w64 (by omega) (by omega)]; rfl
    have w2 : wrap64 ((([] : List ByteArray).length : Int) - 1) = -1 := by rw [w64 (by simp) (by simp)]; rfl
    have r0 : rdOf ByteArray.empty (SL (l :: r)) (0 : Int) = S l := rfl
    have hp := hasp_is l (by have := hb l (by simp); omega)
    refine Ev.step (fun k => by rw [impl_ReadFields.l0]) ?_
    simp only [SL_length, r0, hp, Option.bind_some, w, w2]
    clear w w2
    refine ev_pos hpos (ev_pos (by decide) (ev_pos hpos ?_))
    by_cases hh : l.head? = some 32
    · rw [readR_space hh]
      exact ev_pos (decide_eq_true hh) (ev_pos (by decide) (Ev.now _))
    · have e : readR (l :: r) = implR (grpA l r) [] := specR_implR (grpA l r) [] hF0
      rw [e]
      refine ev_neg (by simpa using hh) (ev_pos (by decide) ?_)
      have := iread_l0 (l :: r) hn hb r.length 1 [] l (by simp; omega) (by simp) (by simpa using hs) (fun g hg => by cases hg)
      exact this

theorem l3draw_ex (b : List Int) (p : Int) (h1 : Bytes b) (h2 : b.length ≤ 2000) (hp : 0 ≤ p) (hp1 : p ≤ 1000) : ∃ n v, n.size ≤ 100 ∧ v.size ≤ 100 ∧ Ev (fun k => spec_l3Draw.f k b p) (n, v, p + 1 + 1) := by
  simp only [spec_l3Draw.f]
  obtain ⟨x, hx, e1⟩ := of_ev b p _ h1 h2 (by omega) (by omega) (show 1 ≤ (([(⟨#[84, 111]⟩ : ByteArray), (⟨#[70, 114, 111, 109]⟩ : ByteArray), (⟨#[83, 117, 98, 106, 101, 99, 116]⟩ : ByteArray), (⟨#[88, 45, 89]⟩ : ByteArray), (⟨#[82, 101, 99, 101, 105, 118, 101, 100]⟩ : ByteArray), (⟨#[116, 111]⟩ : ByteArray), (⟨#[68, 97, 116, 101]⟩ : ByteArray)] : List ByteArray)).length by decide)
  obtain ⟨y, hy, e2⟩ := of_ev b (p + 1) _ h1 h2 (by omega) (by omega) (show 1 ≤ (([(⟨#[]⟩ : ByteArray), (⟨#[120]⟩ : ByteArray), (⟨#[97, 32, 98]⟩ : ByteArray), (⟨#[104, 101, 108, 108, 111, 32, 116, 104, 101, 114, 101, 44, 32, 116, 104, 105, 115, 32, 105, 115, 32, 97, 32, 108, 111, 110, 103, 101, 114, 32, 118, 97, 108, 117, 101, 32, 116, 104, 97, 116, 32, 105, 115, 32, 98, 114, 111, 107, 101, 110]⟩ : ByteArray), (⟨#[97, 97, 97, 97, 97, 97, 97, 97, 97, 97, 97, 97, 97, 97, 97, 97, 97, 97, 97, 97, 97, 97, 97, 97, 97, 97, 97, 97, 97, 97, 97, 97, 97, 97, 97, 97, 97, 97, 97, 97, 97, 97, 97, 97, 97, 97, 97, 97, 97, 97, 97, 32, 98]⟩ : ByteArray), (⟨#[116, 119, 111, 32, 32, 115, 112, 97, 99, 101, 115, 32, 115, 116, 97, 121, 32, 32, 116, 111, 103, 101, 116, 104, 101, 114, 32, 105, 110, 32, 104, 101, 114, 101, 44, 32, 97, 110, 100, 32, 115, 111, 32, 100, 111, 32, 116, 104, 101, 115, 101, 32, 32, 111, 110, 101, 115]⟩ : ByteArray), (⟨#[97, 58, 98]⟩ : ByteArray), (⟨#[111, 110, 101, 32, 116, 119, 111, 32, 116, 104, 114, 101, 101, 32, 102, 111, 117, 114, 32, 102, 105, 118, 101, 32, 115, 105, 120, 32, 115, 101, 118, 101, 110, 32, 101, 105, 103, 104, 116, 32, 110, 105, 110, 101, 32, 116, 101, 110, 32, 101, 108, 101, 118, 101, 110]⟩ : ByteArray)] : List ByteArray)).length by decide)
  refine ⟨x, y, ?_, ?_, Ev.bind e1 (Ev.bind e2 (Ev.now _))⟩
  · simp only [List.mem_cons, List.not_mem_nil, or_false] at hx
    rcases hx with rfl | rfl | rfl | rfl | rfl | rfl | rfl <;> decide
  · simp only [List.mem_cons, List.not_mem_nil, or_false] at hy
    rcases hy with rfl | rfl | rfl | rfl | rfl | rfl | rfl | rfl <;> decide
theorem l3wrong_ex (b : List Int) (p : Int) (n v : ByteArray) (h1 : Bytes b) (h2 : b.length ≤ 2000) (p0 : 0 ≤ p) (hp1 : p ≤ 1000) (hn : n.size ≤ 100) (hv : v.size ≤ 100) : ∃ n' v' p', n'.size ≤ 100 ∧ v'.size ≤ 100 ∧ Ev (fun k => spec_l3Wrong.f k b p n v) (n', v', p') := by
  simp only [spec_l3Wrong.f]
  obtain ⟨r, r0, r1, e2⟩ := pick_ev b p 20 h1 h2 p0 (by omega) (by omega)
  by_cases c0 : r = 0
  · obtain ⟨x, hx, e3⟩ := of_ev b (p + 1) _ h1 h2 (by omega) (by omega) (show 1 ≤ (([(⟨#[]⟩ : ByteArray), (⟨#[45, 97]⟩ : ByteArray), (⟨#[49, 97]⟩ : ByteArray), (⟨#[97, 32, 98]⟩ : ByteArray), (⟨#[97, 95, 98]⟩ : ByteArray), (⟨#[97, 97, 97, 97, 97, 97, 97, 97, 97, 97, 97, 97, 97, 97, 97, 97, 97, 97, 97, 97, 97, 97, 97, 97, 97, 97, 97, 97, 97, 97, 97]⟩ : ByteArray)] : List ByteArray)).length by decide)
    refine ⟨x, v, p + 1 + 1, ?_, hv, Ev.bind e2 (ev_pos c0 (Ev.bind e3 (Ev.now _)))⟩
    simp only [List.mem_cons, List.not_mem_nil, or_false] at hx
    rcases hx with rfl | rfl | rfl | rfl | rfl | rfl <;> decide
  · by_cases c1 : r = 1
    · obtain ⟨x, hx, e3⟩ := of_ev b (p + 1) _ h1 h2 (by omega) (by omega) (show 1 ≤ (([(⟨#[32, 97]⟩ : ByteArray), (⟨#[97, 32]⟩ : ByteArray), (⟨#[10]⟩ : ByteArray)] : List ByteArray)).length by decide)
      refine ⟨n, x, p + 1 + 1, hn, ?_, Ev.bind e2 (ev_neg c0 (ev_pos c1 (Ev.bind e3 (Ev.now _))))⟩
      simp only [List.mem_cons, List.not_mem_nil, or_false] at hx
      rcases hx with rfl | rfl | rfl <;> decide
    · exact ⟨n, v, p + 1, hn, hv, Ev.bind e2 (ev_neg c0 (ev_neg c1 (Ev.now _)))⟩
/-- Few fields, and short ones. -/
def Short (F : List (List UInt8 × List UInt8)) : Prop := F.length ≤ 4 ∧ ∀ p ∈ F, p.1.length ≤ 100 ∧ p.2.length ≤ 100
theorem l3list_ex (b : List Int) (p : Int) (h1 : Bytes b) (h2 : b.length ≤ 2000) (hp : 0 ≤ p) (hp1 : p ≤ 100) : ∃ F q, Short F ∧ 0 ≤ q ∧ q ≤ 200 ∧ Ev (fun k => spec_l3List.f k b p) (SF F, q) := by
  obtain ⟨r, h0, hr, h⟩ := num_ev b p [2, 3, 1, 0, 4] h1 h2 hp (by omega) (by simp)
  simp only [List.length_cons, List.length_nil] at hr
  have hrn : ∃ n : Nat, n ≤ 4 ∧ rd [2, 3, 1, 0, 4] r = (n : Int) := by
    have : r = 0 ∨ r = 1 ∨ r = 2 ∨ r = 3 ∨ r = 4 := by omega
    rcases this with rfl | rfl | rfl | rfl | rfl
    · exact ⟨2, by omega, rfl⟩
    · exact ⟨3, by omega, rfl⟩
    · exact ⟨1, by omega, rfl⟩
    · exact ⟨0, by omega, rfl⟩
    · exact ⟨4, by omega, rfl⟩
  obtain ⟨n, hn, e⟩ := hrn
  rw [e] at h
  have loop : ∀ (m : Nat) (F : List (List UInt8 × List UInt8)) (q : Int), F.length + m ≤ 4 → (∀ p ∈ F, p.1.length ≤ 100 ∧ p.2.length ≤ 100) → 0 ≤ q → q + 2 * m ≤ 200 → ∃ G q', Short G ∧ 0 ≤ q' ∧ q' ≤ 200 ∧ Ev (fun k => spec_l3List.l0 k (SF F) (m : Int) b q) (SF G, q') := by
    intro m
    induction m with
    | zero =>
      intro F q hF hs hq hq1
      refine ⟨F, q, ⟨by omega, hs⟩, hq, by omega, ?_⟩
      refine Ev.step (fun k => by rw [spec_l3List.l0]) ?_
      exact ev_neg (by omega) (Ev.now _)
    | succ m ih =>
      intro F q hF hs hq hq1
      obtain ⟨x, y, hx, hy, e1⟩ := l3draw_ex b q h1 h2 hq (by omega)
      obtain ⟨x, rfl⟩ := ex_S x
      obtain ⟨y, rfl⟩ := ex_S y
      rw [size_S] at hx hy
      obtain ⟨G, q', hG, a1, a2, e2⟩ := ih (F ++ [(x, y)]) (q + 1 + 1) (by rw [List.length_append]; simp; omega) (fun p hp => by
        rcases List.mem_append.1 hp with hp | hp
        · exact hs p hp
        · simp only [List.mem_singleton] at hp
          subst hp
          exact ⟨hx, hy⟩) (by omega) (by omega)
      refine ⟨G, q', hG, a1, a2, ?_⟩
      have w : wrap64 (((m + 1 : Nat) : Int) - 1) = (m : Int) := by rw [w64 (by omega) (by omega)]; omega
      have e3 : SF F ++ [(⟨S x, S y⟩ : S36)] = SF (F ++ [(x, y)]) := by rw [← SF_append]; rfl
      refine Ev.step (fun k => by rw [spec_l3List.l0]) ?_
      rw [w]
      clear w
      refine ev_pos (by omega) (Ev.bind e1 (ev_pos (by rw [SF_length]; omega) ?_))
      rw [e3]
      exact e2
  obtain ⟨G, q', hG, a1, a2, e2⟩ := loop n [] (p + 1) (by simpa using hn) (fun p hp => by cases hp) (by omega) (by omega)
  refine ⟨G, q', hG, a1, a2, ?_⟩
  simp only [spec_l3List.f]
  exact Ev.bind h e2
theorem drawff_ex (l : List Int) (h : Bytes l) : ∃ F, Short F ∧ Ev (fun k => spec_DrawFoldFields.f k l) (SF F) := by
  obtain ⟨b, hb, h1, h2⟩ := open_ex l h
  obtain ⟨F, q, hF, q0, q1, e1⟩ := l3list_ex b 0 h1 h2 (by omega) (by omega)
  have some_ : ∃ G q', Short G ∧ Ev (fun k => spec_l3Some.f k b 0) (SF G, q') := by
    simp only [spec_l3Some.f]
    have hl := hF.1
    by_cases c : ((SF F).length : Int) > 0
    · rw [SF_length] at c
      obtain ⟨r, r0, r1, e2⟩ := pick_ev b q (F.length : Int) h1 h2 q0 (by omega) (by omega)
      obtain ⟨i, rfl⟩ := Int.eq_ofNat_of_zero_le r0
      have hi : i < F.length := by omega
      have hs := hF.2 F[i] (List.getElem_mem hi)
      obtain ⟨x, y, q2, hx, hy, e3⟩ := l3wrong_ex b (q + 1) (S F[i].1) (S F[i].2) h1 h2 (by omega) (by omega) (by rw [size_S]; exact hs.1) (by rw [size_S]; exact hs.2)
      obtain ⟨x, rfl⟩ := ex_S x
      obtain ⟨y, rfl⟩ := ex_S y
      rw [size_S] at hx hy
      have e4 : (SF F).set i (⟨S x, S y⟩ : S36) = SF (F.set i (x, y)) := by
        unfold SF
        rw [List.map_set]
      refine ⟨F.set i (x, y), q2, ⟨by rw [List.length_set]; exact hl, fun p hp => ?_⟩, ?_⟩
      · rcases List.mem_or_eq_of_mem_set hp with hp | hp
        · exact hF.2 p hp
        · subst hp
          exact ⟨hx, hy⟩
      · refine Ev.bind e1 (ev_pos (by rw [SF_length]; omega) ?_)
        rw [SF_length]
        refine Ev.bind e2 ?_
        simp only [rd_SF F i hi, Int.toNat_natCast]
        refine ev_pos (by omega) (ev_pos (by omega) (Ev.bind e3 ?_))
        simp only [e4]
        exact Ev.now _
    · exact ⟨F, q, hF, Ev.bind e1 (ev_neg c (Ev.now _))⟩
  obtain ⟨G, q', hG, e2⟩ := some_
  refine ⟨G, hG, ?_⟩
  simp only [spec_DrawFoldFields.f, hb, Option.bind_some]
  exact Ev.bind e2 (Ev.now _)

def foldAll (F : List (List UInt8 × List UInt8)) : List (List UInt8) := (F.map fun p => foldL p.1 p.2).flatten
theorem foldAll_cons (p : List UInt8 × List UInt8) (F : List (List UInt8 × List UInt8)) : foldAll (p :: F) = foldL p.1 p.2 ++ foldAll F := rfl
theorem foldL_len (n v : List UInt8) : (foldL n v).length ≤ 201 := foldF_len _ _ _
theorem foldAll_len (F : List (List UInt8 × List UInt8)) : (foldAll F).length ≤ 201 * F.length := by
  induction F with
  | nil => exact Nat.zero_le _
  | cons p F ih =>
    have := foldL_len p.1 p.2
    rw [foldAll_cons, List.length_append, List.length_cons]
    omega
theorem foldAll_flat (F : List (List UInt8 × List UInt8)) (h : ∀ p ∈ F, fieldOK p.1 p.2) : (foldAll F).flatten.length ≤ 200 * F.length := by
  induction F with
  | nil => exact Nat.zero_le _
  | cons p F ih =>
    have h1 := ih (fun q hq => h q (by simp [hq]))
    have h2 := h p (by simp)
    have h3 : (foldL p.1 p.2).flatten = lineF p.1 p.2 := foldF_flat _ _ _
    have h4 := lineF_len p.1 p.2
    have h5 := h2.1.2.1
    have h6 := h2.2.2.1
    rw [foldAll_cons, List.flatten_append, List.length_append, h3, List.length_cons]
    omega
theorem foldL_heads {n v : List UInt8} (h : nameOK n) : ∃ a t, foldL n v = a :: t ∧ a.head? ≠ some 32 ∧ ∀ x ∈ t, x.head? = some 32 := by
  obtain ⟨a, t, he, hha, hht⟩ := foldF_heads 200 (lineF n v) (n.length + 3) (by omega)
  obtain ⟨c, hc, hc2⟩ := lineF_head (v := v) h
  refine ⟨a, t, he, ?_, hht⟩
  rw [hha, hc]
  exact fun q => hc2 (Option.some.inj q)
theorem grpA_run : ∀ (t : List (List UInt8)) (cur : List UInt8) (R : List (List UInt8)), (∀ x ∈ t, x.head? = some 32) → (∀ x r, R = x :: r → x.head? ≠ some 32) → grpA cur (t ++ R) = (cur ++ t.flatten) :: groups R := by
  intro t
  induction t with
  | nil =>
    intro cur R _ hR
    rw [List.nil_append, List.flatten_nil, List.append_nil]
    cases R with
    | nil => rfl
    | cons x r => rw [grpA, if_neg (hR x r rfl)]; rfl
  | cons x t ih =>
    intro cur R ht hR
    rw [List.cons_append, grpA, if_pos (ht x (by simp)), ih _ R (fun y hy => ht y (by simp [hy])) hR, List.flatten_cons, List.append_assoc]
theorem foldAll_head (F : List (List UInt8 × List UInt8)) (h : ∀ p ∈ F, fieldOK p.1 p.2) : ∀ x r, foldAll F = x :: r → x.head? ≠ some 32 := by
  cases F with
  | nil => intro x r q; cases q
  | cons p F =>
    intro x r q
    obtain ⟨a, t, he, ha, _⟩ := foldL_heads (v := p.2) (h p (by simp)).1
    rw [foldAll_cons, he, List.cons_append] at q
    obtain rfl := (List.cons.inj q).1
    exact ha
theorem groups_foldAll : ∀ F : List (List UInt8 × List UInt8), (∀ p ∈ F, fieldOK p.1 p.2) → groups (foldAll F) = F.map fun p : List UInt8 × List UInt8 => lineF p.1 p.2 := by
  intro F
  induction F with
  | nil => intro _; rfl
  | cons p F ih =>
    intro h
    have hF : ∀ q ∈ F, fieldOK q.1 q.2 := fun q hq => h q (by simp [hq])
    obtain ⟨a, t, he, ha, ht⟩ := foldL_heads (v := p.2) (h p (by simp)).1
    have h3 : (foldL p.1 p.2).flatten = lineF p.1 p.2 := foldF_flat _ _ _
    rw [he, List.flatten_cons] at h3
    rw [foldAll_cons, he, List.cons_append]
    show grpA a (t ++ foldAll F) = _
    rw [grpA_run t a (foldAll F) ht (foldAll_head F hF), h3, ih hF]
    rfl
theorem one_line {n v : List UInt8} (h : fieldOK n v) : one (lineF n v) = some (n, v) := by
  have e : lineF n v = n ++ 58 :: (if v = [] then [] else [32] ++ v) := by unfold lineF; simp
  have hx := indexB_skip 58 (if v = [] then [] else [32] ++ v) n (fun x hx => (namB_ne (h.1.2.2.2 x hx)).1)
  have ht : Lib.trimB (if v = [] then [] else [32] ++ v) 32 = v := by
    by_cases hv0 : v = []
    · rw [if_pos hv0, hv0]
      rfl
    · rw [if_neg hv0]
      have := trimB_pad v 1 0 h.2.2.2
      simpa [List.replicate] using this
  unfold one
  rw [e, hx, if_pos (by omega), Int.toNat_natCast]
  have e1 : (n ++ 58 :: (if v = [] then [] else [32] ++ v)).take n.length = n := List.take_left' rfl
  have e2 : (n ++ 58 :: (if v = [] then [] else [32] ++ v)).drop (n.length + 1) = (if v = [] then [] else [32] ++ v) := by
    have : n ++ 58 :: (if v = [] then [] else [32] ++ v) = (n ++ [58]) ++ (if v = [] then [] else [32] ++ v) := by simp
    rw [this]
    exact List.drop_left' (by simp)
  rw [e1, e2, ht]
theorem specR_lines : ∀ (F A : List (List UInt8 × List UInt8)), (∀ p ∈ F, fieldOK p.1 p.2) → A.length + F.length ≤ 20 → specR (F.map fun p : List UInt8 × List UInt8 => lineF p.1 p.2) A = (SF (A ++ F), true) := by
  intro F
  induction F with
  | nil => intro A _ _; rw [List.append_nil]; rfl
  | cons p F ih =>
    intro A h hl
    rw [List.length_cons] at hl
    have hp := h p (by simp)
    rw [List.map_cons]
    show (match one (lineF p.1 p.2) with | some q => (if fieldOK q.1 q.2 ∧ A.length ≠ 20 then specR (F.map fun p : List UInt8 × List UInt8 => lineF p.1 p.2) (A ++ [q]) else ([], false)) | none => ([], false)) = _
    rw [one_line hp]
    show (if fieldOK p.1 p.2 ∧ A.length ≠ 20 then specR (F.map fun p : List UInt8 × List UInt8 => lineF p.1 p.2) (A ++ [p]) else ([], false)) = _
    rw [if_pos ⟨hp, by omega⟩, ih (A ++ [p]) (fun q hq => h q (by simp [hq])) (by rw [List.length_append]; simp; omega)]
    simp
theorem read_back {F : List (List UInt8 × List UInt8)} (h : Fine F) : readR (foldAll F) = (SF F, true) := by
  unfold readR
  rw [groups_foldAll F h.2, specR_lines F [] h.2 (by have := h.1; simpa using this), List.nil_append]
theorem readR_fine : ∀ (gs : List (List UInt8)) (A : List (List UInt8 × List UInt8)), Fine A → specR gs A = ([], false) ∨ ∃ F, Fine F ∧ specR gs A = (SF F, true) := by
  intro gs
  induction gs with
  | nil => intro A h; exact Or.inr ⟨A, h, rfl⟩
  | cons g gs ih =>
    intro A h
    unfold specR
    cases one g with
    | none => exact Or.inl rfl
    | some p =>
      show (if fieldOK p.1 p.2 ∧ A.length ≠ 20 then specR gs (A ++ [p]) else ([], false)) = _ ∨ ∃ F, Fine F ∧ (if fieldOK p.1 p.2 ∧ A.length ≠ 20 then specR gs (A ++ [p]) else ([], false)) = _
      by_cases q : fieldOK p.1 p.2 ∧ A.length ≠ 20
      · rw [if_pos q]
        have := h.1
        refine ih _ ⟨by rw [List.length_append]; simp; omega, fun x hx => ?_⟩
        rcases List.mem_append.1 hx with hx | hx
        · exact h.2 x hx
        · simp only [List.mem_singleton] at hx
          subst hx
          exact q.1
      · rw [if_neg q]
        exact Or.inl rfl
theorem iffs_ev {F : List (List UInt8 × List UInt8)} (hF : Small F) : Ev (fun k => impl_FoldFields.f k (SF F)) (if Fine F then (SL (foldAll F), true) else ([], false)) := by
  simp only [impl_FoldFields.f, SF_length]
  refine Ev.bind (ivalids_ev F hF) ?_
  by_cases h : Fine F
  · rw [if_pos h]
    refine ev_pos (decide_eq_true h) ?_
    have hl := h.1
    have loop : ∀ (e i : Nat), i + e = F.length → Ev (fun k => impl_FoldFields.l0 k (SL (foldAll (F.take i))) (SF F) (F.length : Int) (i : Int)) (SL (foldAll F), true) := by
      intro e
      induction e with
      | zero =>
        intro i hi
        rw [List.take_of_length_le (by omega)]
        refine Ev.step (fun k => by rw [impl_FoldFields.l0]) ?_
        exact ev_neg (by omega) (Ev.now _)
      | succ e ih =>
        intro i hi
        have hlt : i < F.length := by omega
        have w : wrap64 ((i : Int) + 1) = ((i + 1 : Nat) : Int) := by rw [w64 (by omega) (by omega)]; omega
        have hx := ifold_ev (h.2 F[i] (List.getElem_mem hlt))
        have e1 : foldAll (F.take (i + 1)) = foldAll (F.take i) ++ foldL F[i].1 F[i].2 := by
          unfold foldAll
          rw [List.take_succ_eq_append_getElem hlt, List.map_append, List.flatten_append]
          simp
        have l1 := foldAll_len (F.take i)
        have l2 := foldL_len F[i].1 F[i].2
        rw [List.length_take] at l1
        have hih := ih (i + 1) (by omega)
        rw [e1] at hih
        refine Ev.step (fun k => by rw [impl_FoldFields.l0]) ?_
        simp only [SF_length, rd_SF F i hlt, w]
        clear w
        refine ev_pos (by omega) (ev_pos (by omega) (ev_pos (by omega) (Ev.bind hx ?_)))
        simp only [SL_length, SL_append]
        exact ev_pos (by omega) hih
    exact loop F.length 0 (by omega)
  · rw [if_neg h]
    exact ev_neg (by simpa using h) (Ev.now _)
theorem svalids_ev {F : List (List UInt8 × List UInt8)} (hF : Small F) (hl : F.length ≤ 20) : Ev (fun k => spec_l3Valid.f k (SF F)) (decide (Fine F)) := by
  simp only [spec_l3Valid.f]
  have fin : (∀ p ∈ F, fieldOK p.1 p.2) → ∀ i : Nat, Ev (fun k => spec_l3Valid.j1 k (SF F) (i : Int) false) (decide (Fine F)) := by
    intro h i
    refine Ev.step (fun k => by rw [spec_l3Valid.j1]) ?_
    rw [SF_length]
    refine ev_neg (by decide) (ev_is ?_)
    have hf : Fine F := ⟨hl, h⟩
    rw [decide_eq_true hf, decide_eq_true (by omega)]
  have loop : ∀ (e i : Nat), i + e = F.length → (∀ j (h : j < F.length), j < i → fieldOK F[j].1 F[j].2) → Ev (fun k => spec_l3Valid.l0 k (SF F) (i : Int)) (decide (Fine F)) := by
    intro e
    induction e with
    | zero =>
      intro i hi hp
      refine Ev.step (fun k => by rw [spec_l3Valid.l0]) ?_
      rw [SF_length]
      refine ev_neg (by omega) (fin (fun p hm => ?_) i)
      obtain ⟨j, hj, rfl⟩ := List.mem_iff_getElem.1 hm
      exact hp j hj (by omega)
    | succ e ih =>
      intro i hi hp
      have hlt : i < F.length := by omega
      have w : wrap64 ((i : Int) + 1) = ((i + 1 : Nat) : Int) := by rw [w64 (by omega) (by omega)]; omega
      have hs := hF.2 F[i] (List.getElem_mem hlt)
      have hv := svalid2_ev F[i].1 F[i].2 hs.1 hs.2
      refine Ev.step (fun k => by rw [spec_l3Valid.l0]) ?_
      rw [SF_length]
      refine ev_pos (by omega) ?_
      rw [decide_eq_true (show (i : Int) ≤ 20 by omega)]
      refine Ev.step (fun k => by rw [spec_l3Valid.j1]) ?_
      simp only [SF_length, rd_SF F i hlt, w]
      clear w
      refine ev_pos trivial (ev_pos (by omega) (ev_pos (by omega) (Ev.bind hv ?_)))
      by_cases hc : fieldOK F[i].1 F[i].2
      · refine ev_pos (decide_eq_true hc) (ih (i + 1) (by omega) (fun j hj hji => ?_))
        by_cases q : j = i
        · subst q
          exact hc
        · exact hp j hj (by omega)
      · rw [decide_eq_false (fun q : Fine F => hc (q.2 _ (List.getElem_mem hlt)))]
        exact ev_neg (by simpa using hc) (Ev.now _)
  exact loop F.length 0 (by omega) (fun j _ h => by omega)
theorem sffs_ev {F : List (List UInt8 × List UInt8)} (hF : Small F) (hl : F.length ≤ 20) : Ev (fun k => spec_FoldFields.f k (SF F)) (if Fine F then (SL (foldAll F), true) else ([], false)) := by
  simp only [spec_FoldFields.f, Option.bind_some]
  refine Ev.bind (svalids_ev hF hl) ?_
  by_cases h : Fine F
  · rw [if_pos h]
    refine ev_pos (decide_eq_true h) ?_
    have loop : ∀ (e i : Nat), i + e = F.length → Ev (fun k => spec_FoldFields.l0 k (SF F) (SL (foldAll (F.take i))) (i : Int)) (SL (foldAll F), true) := by
      intro e
      induction e with
      | zero =>
        intro i hi
        rw [List.take_of_length_le (by omega)]
        refine Ev.step (fun k => by rw [spec_FoldFields.l0]) ?_
        rw [SF_length]
        exact ev_neg (by omega) (Ev.now _)
      | succ e ih =>
        intro i hi
        have hlt : i < F.length := by omega
        have w : wrap64 ((i : Int) + 1) = ((i + 1 : Nat) : Int) := by rw [w64 (by omega) (by omega)]; omega
        have hs := hF.2 F[i] (List.getElem_mem hlt)
        have hx := sFold_ev F[i].1 F[i].2 hs.1 hs.2
        rw [if_pos (h.2 F[i] (List.getElem_mem hlt))] at hx
        have e1 : foldAll (F.take (i + 1)) = foldAll (F.take i) ++ foldL F[i].1 F[i].2 := by
          unfold foldAll
          rw [List.take_succ_eq_append_getElem hlt, List.map_append, List.flatten_append]
          simp
        have l1 := foldAll_len (F.take i)
        have l2 := foldL_len F[i].1 F[i].2
        rw [List.length_take] at l1
        have hih := ih (i + 1) (by omega)
        rw [e1] at hih
        refine Ev.step (fun k => by rw [spec_FoldFields.l0]) ?_
        simp only [SF_length, rd_SF F i hlt, w]
        clear w
        refine ev_pos (by omega) (ev_pos (by omega) (Ev.bind hx ?_))
        simp only [SL_length, SL_append]
        exact ev_pos (by omega) hih
    exact loop F.length 0 (by omega)
  · rw [if_neg h]
    exact ev_neg (by simpa using h) (Ev.now _)

theorem texts_self (l : List ByteArray) (hl : l.length ≤ 1000000) : Ev (fun k => laws_mwTexts.f k l l) true := by
  simp only [laws_mwTexts.f]
  refine ev_pos trivial ?_
  have : ∀ (e i : Nat), i + e = l.length → Ev (fun k => laws_mwTexts.l0 k l l (i : Int)) true := by
    intro e
    induction e with
    | zero =>
      intro i hi
      refine Ev.step (fun k => by rw [laws_mwTexts.l0]) ?_
      exact ev_neg (by omega) (Ev.now _)
    | succ e ih =>
      intro i hi
      have w : wrap64 ((i : Int) + 1) = ((i + 1 : Nat) : Int) := by rw [w64 (by omega) (by omega)]; omega
      refine Ev.step (fun k => by rw [laws_mwTexts.l0]) ?_
      refine ev_pos (by omega) (ev_pos (by omega) (ev_pos (by omega) (ev_pos rfl ?_)))
      rw [w]
      exact ih (i + 1) (by omega)
  exact this l.length 0 (by omega)

theorem same_self (l : List S36) (hl : l.length ≤ 1000000) : Ev (fun k => impl_FieldsSame.f k l l) true := by
  simp only [impl_FieldsSame.f, impl_Field_49.f]
  have : ∀ (e i : Nat), i + e = l.length → Ev (fun k => impl_Field_49.l0 k l l (l.length : Int) (i : Int)) true := by
    intro e
    induction e with
    | zero =>
      intro i hi
      refine Ev.step (fun k => by rw [impl_Field_49.l0]) ?_
      exact ev_neg (by omega) (Ev.now _)
    | succ e ih =>
      intro i hi
      have w : wrap64 ((i : Int) + 1) = ((i + 1 : Nat) : Int) := by rw [w64 (by omega) (by omega)]; omega
      refine Ev.step (fun k => by rw [impl_Field_49.l0]) ?_
      rw [w]
      clear w
      exact ev_pos (by omega) (ev_pos (by omega) (ev_pos (by omega) (ev_pos (by omega) (ev_neg (by simp) (ih (i + 1) (by omega))))))
  have h := this l.length 0 (by omega)
  exact Ev.bind (ev_pos trivial h) (Ev.now _)
theorem short_small {F : List (List UInt8 × List UInt8)} (h : Short F) : Small F := ⟨by have := h.1; omega, fun p hp => by have := h.2 p hp; omega⟩
theorem fine_small {F : List (List UInt8 × List UInt8)} (h : Fine F) : Small F := ⟨by have := h.1; omega, fun p hp => by
  have h1 := (h.2 p hp).1.2.1
  have h2 := (h.2 p hp).2.2.1
  omega⟩
theorem fa_bounds {F : List (List UInt8 × List UInt8)} (h : Fine F) : (foldAll F).length ≤ 4020 ∧ (foldAll F).flatten.length ≤ 4000 := by
  have h1 := foldAll_len F
  have h2 := foldAll_flat F h.2
  have := h.1
  omega
theorem flat_set (x : List UInt8) : ∀ (ls : List (List UInt8)) (i : Nat), (ls.set i x).flatten.length ≤ ls.flatten.length + x.length := by
  intro ls
  induction ls with
  | nil => intro i; simp
  | cons l r ih =>
    intro i
    cases i with
    | zero => simp; omega
    | succ i =>
      have := ih i
      simp only [List.set_cons_succ, List.flatten_cons, List.length_append]
      omega
theorem drawrf_ex (l : List Int) (h : Bytes l) : ∃ ls, ls.length ≤ 1048576 ∧ ls.flatten.length ≤ 1048576 ∧ Ev (fun k => spec_DrawReadFields.f k l) (SL ls) := by
  obtain ⟨b, hb, h1, h2⟩ := open_ex l h
  obtain ⟨F, q, hF, q0, q1, e1⟩ := l3list_ex b 0 h1 h2 (by omega) (by omega)
  have e2 := sffs_ev (short_small hF) (by have := hF.1; omega)
  obtain ⟨ls, ok, hls, hl1, hl2⟩ : ∃ ls ok, (if Fine F then (SL (foldAll F), true) else (([], false) : List ByteArray × Bool)) = (SL ls, ok) ∧ ls.length ≤ 4020 ∧ ls.flatten.length ≤ 4000 := by
    by_cases q : Fine F
    · rw [if_pos q]
      obtain ⟨a, b⟩ := fa_bounds q
      exact ⟨_, _, rfl, a, b⟩
    · rw [if_neg q]
      exact ⟨[], false, rfl, by simp, by simp⟩
  rw [hls] at e2
  have stay : ∀ p, Ev (fun k => spec_DrawReadFields.j0 k (SL ls) false b p) (SL ls) := by
    intro p
    refine Ev.step (fun k => by rw [spec_DrawReadFields.j0]) ?_
    exact ev_neg (by decide) (Ev.now _)
  by_cases c : ((SL ls).length : Int) > 0
  · obtain ⟨r, r0, r1, e3⟩ := pick_ev b q 2 h1 h2 q0 (by omega) (by omega)
    by_cases cr : r = 0
    · rw [SL_length] at c
      obtain ⟨u, u0, u1, e4⟩ := pick_ev b (q + 1) (ls.length : Int) h1 h2 (by omega) (by omega) (by omega)
      obtain ⟨i, rfl⟩ := Int.eq_ofNat_of_zero_le u0
      have hi : i < ls.length := by omega
      have hx : ls[i].length ≤ 4000 := by
        have := (List.sublist_flatten_of_mem (List.getElem_mem hi)).length_le
        omega
      obtain ⟨t, q2, ht, _, _, e5⟩ := bend_ex b (q + 1 + 1) (S ls[i]) ([(⟨#[]⟩ : ByteArray), (⟨#[32]⟩ : ByteArray), (⟨#[58]⟩ : ByteArray), (⟨#[120]⟩ : ByteArray), (⟨#[32, 32]⟩ : ByteArray)] : List ByteArray) h1 h2 (by omega) (by omega) (by simp) (fun x hx => by
        simp only [List.mem_cons, List.not_mem_nil, or_false] at hx
        rcases hx with rfl | rfl | rfl | rfl | rfl <;> decide) (by rw [size_S]; omega)
      obtain ⟨t, rfl⟩ := ex_S t
      rw [size_S, size_S] at ht
      have eset : (SL ls).set i (S t) = SL (ls.set i t) := by unfold SL; rw [List.map_set]
      have hfs := flat_set t ls i
      refine ⟨ls.set i t, by rw [List.length_set]; omega, by omega, ?_⟩
      simp only [spec_DrawReadFields.f, hb, Option.bind_some]
      refine Ev.bind e1 (Ev.bind e2 (ev_pos (by rw [SL_length]; omega) (Ev.bind e3 ?_)))
      have er : (r == 0) = true := by rw [cr]; rfl
      rw [er]
      refine Ev.step (fun k => by rw [spec_DrawReadFields.j0]) ?_
      rw [SL_length]
      refine ev_pos rfl (Ev.bind e4 ?_)
      simp only [rdOf_SL _ ls i hi, Int.toNat_natCast]
      refine ev_pos (by omega) (ev_pos (by omega) (Ev.bind e5 ?_))
      simp only [eset]
      exact Ev.now _
    · refine ⟨ls, by omega, by omega, ?_⟩
      simp only [spec_DrawReadFields.f, hb, Option.bind_some]
      refine Ev.bind e1 (Ev.bind e2 (ev_pos c (Ev.bind e3 ?_)))
      have er : (r == 0) = false := beq_eq_false_iff_ne.2 cr
      rw [er]
      exact stay _
  · refine ⟨ls, by omega, by omega, ?_⟩
    simp only [spec_DrawReadFields.f, hb, Option.bind_some]
    exact Ev.bind e1 (Ev.bind e2 (ev_neg c (stay _)))

theorem FnFoldFields : laws_FnFoldFields.Pure := by
  intro l0 l1 _ _ hw0 _ _ hw1
  refine Ev.rounds ?_
  simp only [laws_FnFoldFields.f]
  have hT : Ev (fun k => laws_FnFoldFields.j0 k l0 l1 true) true := by
    refine Ev.step (fun k => by rw [laws_FnFoldFields.j0]) ?_
    exact ev_pos rfl (Ev.now _)
  have j2 : Ev (fun k => laws_FnFoldFields.j2 k l1) true := by
    obtain ⟨ls, h1, h2, hd⟩ := drawrf_ex l1 (bytes_wf hw1)
    have hi := iread_ev ls h1 h2
    have hs := sread_ev ls h1 h2
    have hl : (readR ls).1.length ≤ 20 := specR_len _ _ (by simp)
    have hsame := same_self (readR ls).1 (by omega)
    refine Ev.step (fun k => by rw [laws_FnFoldFields.j2]) ?_
    refine Ev.bind hd (Ev.bind hi (Ev.bind hs (Ev.bind hsame (ev_pos rfl (ev_neg (by simp) ?_)))))
    rcases readR_fine (groups ls) [] ⟨by simp, fun p hp => by cases hp⟩ with hr | ⟨F, hF, hr⟩
    · have e : readR ls = ([], false) := hr
      rw [e] at hsame ⊢
      refine Ev.step (fun k => by rw [laws_FnFoldFields.j3]) ?_
      exact ev_pos rfl (Ev.bind hsame (ev_pos rfl (ev_is (by simp))))
    · have e : readR ls = (SF F, true) := hr
      rw [e] at hsame ⊢
      obtain ⟨b1, b2⟩ := fa_bounds hF
      have hf := iffs_ev (fine_small hF)
      rw [if_pos hF] at hf
      have hb := iread_ev (foldAll F) (by omega) (by omega)
      rw [read_back hF] at hb
      refine Ev.step (fun k => by rw [laws_FnFoldFields.j3]) ?_
      exact ev_neg (by simp) (Ev.bind hf (Ev.bind hb (ev_pos rfl (ev_pos rfl (Ev.bind hsame (Ev.now _))))))
  by_cases hl : (l0.length : Int) > 1048576
  · exact ev_pos hl hT
  refine ev_neg hl ?_
  by_cases hl1 : (l1.length : Int) > 1048576
  · rw [decide_eq_true hl1]
    exact hT
  rw [decide_eq_false hl1]
  refine Ev.step (fun k => by rw [laws_FnFoldFields.j0]) ?_
  refine ev_neg (by decide) ?_
  obtain ⟨F, hF, hd⟩ := drawff_ex l0 (bytes_wf hw0)
  have hi := iffs_ev (short_small hF)
  have hs := sffs_ev (short_small hF) (by have := hF.1; omega)
  by_cases q : Fine F
  · rw [if_pos q] at hi hs
    obtain ⟨b1, b2⟩ := fa_bounds q
    have hb := iread_ev (foldAll F) (by omega) (by omega)
    rw [read_back q] at hb
    refine Ev.bind hd (Ev.bind hi (Ev.bind hs (Ev.bind (texts_self (SL (foldAll F)) (by rw [SL_length]; omega)) (ev_pos rfl ?_))))
    rw [bne_self_eq_false]
    refine Ev.step (fun k => by rw [laws_FnFoldFields.j1]) ?_
    exact ev_neg (by decide) (ev_pos rfl (Ev.bind hb (ev_pos rfl (Ev.bind (same_self (SF F) (by rw [SF_length]; have := hF.1; omega)) (ev_pos rfl j2)))))
  · rw [if_neg q] at hi hs
    refine Ev.bind hd (Ev.bind hi (Ev.bind hs (Ev.bind (texts_self [] (by simp)) (ev_pos rfl ?_))))
    rw [bne_self_eq_false]
    refine Ev.step (fun k => by rw [laws_FnFoldFields.j1]) ?_
    exact ev_neg (by decide) (ev_neg (by decide) j2)

end Go.Proofs.YthmdblcgiljhpaaDoor.PLFnFoldFields
namespace Go.Proofs.YthmdblcgiljhpaaDoor.Pure
open Go.Proofs.YthmdblcgiljhpaaDoor.PFnFoldFields
theorem FnFoldFields : laws_FnFoldFields.Pure := PLFnFoldFields.FnFoldFields
end Go.Proofs.YthmdblcgiljhpaaDoor.Pure
