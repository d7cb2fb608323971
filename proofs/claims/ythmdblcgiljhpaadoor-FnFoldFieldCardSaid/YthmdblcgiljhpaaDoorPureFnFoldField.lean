/- The law FnFoldField holds of the printed functions: folding is undone. No conditions. -/
import Derived.Test.YthmdblcgiljhpaaDoorPFnFoldFieldx9
import Derived.Test.YthmdblcgiljhpaaDoorMBase
import Derived.Test.YthmdblcgiljhpaaDoorMStr
import Derived.Test.YthmdblcgiljhpaaDoorMQuot
import Derived.Test.YthmdblcgiljhpaaDoorMCode
import Derived.Test.YthmdblcgiljhpaaDoorMDecQ
import Derived.Test.YthmdblcgiljhpaaDoorMRead
import Derived.Test.YthmdblcgiljhpaaDoorMParts
import Derived.Test.YthmdblcgiljhpaaDoorMName
import Derived.Test.YthmdblcgiljhpaaDoorMEnc
import Derived.Test.YthmdblcgiljhpaaDoorMFold
namespace Go.Proofs.YthmdblcgiljhpaaDoor.PLFnFoldField
open Go.RowKit Go.Proofs.YthmdblcgiljhpaaDoor.PFnFoldField Go.Proofs.YthmdblcgiljhpaaDoorW.PrintWords Go.Proofs.YthmdblcgiljhpaaDoorW.PrintLast Go.Proofs.YthmdblcgiljhpaaDoorW.PrintMore Go.Proofs.YthmdblcgiljhpaaDoor.M

theorem open_ex (l : List Int) (h : Bytes l) : ∃ b, spec_l13Open.f l = some (b, 0) ∧ Bytes b ∧ b.length ≤ 2000 := by
  unfold spec_l13Open.f
  by_cases e : (l.length : Int) > 2000
  · rw [if_pos e, if_pos (by omega)]
    exact ⟨_, rfl, bytes_take h _, by rw [List.length_take]; omega⟩
  · rw [if_neg e]
    exact ⟨_, rfl, h, by omega⟩

theorem pick_ev (b : List Int) (p n : Int) (hb : Bytes b) (hl : b.length ≤ 2000) (hp : 0 ≤ p) (hp1 : p ≤ 1000000) (hn : 1 ≤ n) :
    ∃ r, 0 ≤ r ∧ r < n ∧ Ev (fun k => spec_l13Rd_pick.f k b p n) (r, p + 1) := by
  have w1 : wrap64 (p + 1) = p + 1 := w64 (by omega) (by omega)
  have w2 : wrap64 (p + 1 - 1) = p := by
    rw [w64 (by omega) (by omega)]
    omega
  by_cases e0 : (b.length : Int) = 0
  · refine ⟨0, by omega, by omega, ?_⟩
    simp only [spec_l13Rd_pick.f]
    refine ev_neg (by omega) ?_
    rw [w1]
    refine Ev.step (fun k => by rw [spec_l13Rd_pick.j0]) ?_
    refine ev_pos (by simp [e0]) ?_
    exact Ev.now _
  · have f0 : ((b.length : Int) == 0) = false := beq_eq_false_iff_ne.mpr e0
    by_cases e1 : p < (b.length : Int)
    · obtain ⟨r0, r1⟩ := rd_bytes hb p
      have w3 : wrap64 (rd b p) = rd b p := w64 (by omega) (by omega)
      refine ⟨rd b p % n, Int.emod_nonneg _ (by omega), Int.emod_lt_of_pos _ (by omega), ?_⟩
      simp only [spec_l13Rd_pick.f]
      refine ev_neg (by omega) ?_
      rw [w1, f0]
      refine Ev.step (fun k => by rw [spec_l13Rd_pick.j0]) ?_
      simp only [w2, w3]
      refine ev_neg (by simp) (ev_pos e1 (ev_pos hp (ev_neg (by omega) ?_)))
      rw [Int.tmod_eq_emod_of_nonneg r0]
      exact Ev.now _
    · have hL : (0 : Int) < (b.length : Int) := by omega
      have t1 : Int.tmod p (b.length : Int) = p % (b.length : Int) := Int.tmod_eq_emod_of_nonneg hp
      have w4 : wrap64 (p * 7) = p * 7 := w64 (by omega) (by omega)
      have w5 : wrap64 (p * 7 + 3) = p * 7 + 3 := w64 (by omega) (by omega)
      have t2 : Int.tmod (p * 7 + 3) (b.length : Int) = (p * 7 + 3) % (b.length : Int) := Int.tmod_eq_emod_of_nonneg (by omega)
      have a0 := Int.emod_nonneg p (b := (b.length : Int)) (by omega)
      have a1 := Int.emod_lt_of_pos p hL
      have c0 := Int.emod_nonneg (p * 7 + 3) (b := (b.length : Int)) (by omega)
      have c1 := Int.emod_lt_of_pos (p * 7 + 3) hL
      obtain ⟨x0, x1⟩ := rd_bytes hb (p % (b.length : Int))
      obtain ⟨y0, y1⟩ := rd_bytes hb ((p * 7 + 3) % (b.length : Int))
      have d1 : Int.tdiv p (b.length : Int) = p / (b.length : Int) := Int.tdiv_eq_ediv_of_nonneg hp
      have d2 : 0 ≤ p / (b.length : Int) := Int.ediv_nonneg hp (by omega)
      have d3 : p / (b.length : Int) ≤ p := Int.ediv_le_self _ hp
      have ew1 : wrap64 (rd b (p % (b.length : Int))) = rd b (p % (b.length : Int)) := w64 (by omega) (by omega)
      have ew2 : wrap64 (rd b ((p * 7 + 3) % (b.length : Int))) = rd b ((p * 7 + 3) % (b.length : Int)) := w64 (by omega) (by omega)
      have ew3 : wrap64 (p / (b.length : Int)) = p / (b.length : Int) := w64 (by omega) (by omega)
      have hz : ∀ x y q : Int, 0 ≤ x → x < 256 → 0 ≤ y → y < 256 → 0 ≤ q → q ≤ p →
          wrap64 ((wrap64 ((wrap64 ((wrap64 (x * 131)) + (wrap64 (y * 1117)))) + (wrap64 (p * 29)))) + (wrap64 (q * 53))) = x * 131 + y * 1117 + p * 29 + q * 53 := by
        intro x y q hx hx1 hy hy1 hq hq1
        rw [w64 (n := x * 131) (by omega) (by omega), w64 (n := y * 1117) (by omega) (by omega), w64 (n := p * 29) (by omega) (by omega), w64 (n := q * 53) (by omega) (by omega),
          w64 (n := x * 131 + y * 1117) (by omega) (by omega), w64 (n := x * 131 + y * 1117 + p * 29) (by omega) (by omega), w64 (by omega) (by omega)]
      have hz' := hz _ _ _ x0 x1 y0 y1 d2 d3
      obtain ⟨S, hS⟩ : ∃ S, S = rd b (p % (b.length : Int)) * 131 + rd b ((p * 7 + 3) % (b.length : Int)) * 1117 + p * 29 + p / (b.length : Int) * 53 := ⟨_, rfl⟩
      rw [← hS] at hz'
      have s0 : 0 ≤ S ∧ S < 1000000000 := by omega
      have s1 : Int.tdiv S 64 = S / 64 := Int.tdiv_eq_ediv_of_nonneg s0.1
      have s2 : wrap64 (S / 64) = S / 64 := w64 (by omega) (by omega)
      have hx := xor_nonneg (x := S) (y := S / 64) (by omega) (by omega) (by omega) (by omega)
      refine ⟨bits .xor .i64 S (S / 64) % n, Int.emod_nonneg _ (by omega), Int.emod_lt_of_pos _ (by omega), ?_⟩
      simp only [spec_l13Rd_pick.f]
      refine ev_neg (by omega) ?_
      rw [w1, f0]
      refine Ev.step (fun k => by rw [spec_l13Rd_pick.j0]) ?_
      simp only [w2, t1, w4, w5, t2, d1, ew1, ew2, ew3, hz', s1, s2]
      refine ev_neg (by simp) (ev_neg e1 (ev_neg e0 (ev_pos a0 (ev_pos a1 (ev_pos c0 (ev_pos c1 (ev_neg (by omega) ?_)))))))
      rw [Int.tmod_eq_emod_of_nonneg hx]
      exact Ev.now _

theorem of_ev (b : List Int) (p : Int) (l : List ByteArray) (hb : Bytes b) (hl : b.length ≤ 2000) (hp : 0 ≤ p) (hp1 : p ≤ 1000000) (hn : 1 ≤ l.length) :
    ∃ x ∈ l, Ev (fun k => spec_l13Rd_of.f k b p l) (x, p + 1) := by
  obtain ⟨r, h0, h1, h⟩ := pick_ev b p (l.length : Int) hb hl hp hp1 (by omega)
  have hr : r.toNat < l.length := by omega
  refine ⟨l[r.toNat], List.getElem_mem hr, ?_⟩
  have e : rdOf ByteArray.empty l r = l[r.toNat] := by
    unfold rdOf
    rw [List.getD_eq_getElem?_getD, List.getElem?_eq_getElem hr]
    rfl
  simp only [spec_l13Rd_of.f]
  refine Ev.bind h ?_
  refine ev_pos h0 (ev_pos h1 ?_)
  rw [e]
  exact Ev.now _

theorem drawfold_ex (l : List Int) (h : Bytes l) : ∃ n v, n.size ≤ 1000 ∧ v.size ≤ 1000 ∧ Ev (fun k => spec_DrawFoldField.f k l) (n, v) := by
  obtain ⟨b, hb, h1, h2⟩ := open_ex l h
  have l3 : ∃ n v p, n.size ≤ 1000 ∧ v.size ≤ 1000 ∧ 0 ≤ p ∧ p ≤ 100 ∧ Ev (fun k => spec_l3Draw.f k b 0) (n, v, p) := by
    simp only [spec_l3Draw.f]
    obtain ⟨x, hx, e1⟩ := of_ev b 0 _ h1 h2 (by omega) (by omega) (show 1 ≤ (([(⟨#[84, 111]⟩ : ByteArray), (⟨#[70, 114, 111, 109]⟩ : ByteArray), (⟨#[83, 117, 98, 106, 101, 99, 116]⟩ : ByteArray), (⟨#[88, 45, 89]⟩ : ByteArray), (⟨#[82, 101, 99, 101, 105, 118, 101, 100]⟩ : ByteArray), (⟨#[116, 111]⟩ : ByteArray), (⟨#[68, 97, 116, 101]⟩ : ByteArray)] : List ByteArray)).length by decide)
    obtain ⟨y, hy, e2⟩ := of_ev b (0 + 1) _ h1 h2 (by omega) (by omega) (show 1 ≤ (([(⟨#[]⟩ : ByteArray), (⟨#[120]⟩ : ByteArray), (⟨#[97, 32, 98]⟩ : ByteArray), (⟨#[104, 101, 108, 108, 111, 32, 116, 104, 101, 114, 101, 44, 32, 116, 104, 105, 115, 32, 105, 115, 32, 97, 32, 108, 111, 110, 103, 101, 114, 32, 118, 97, 108, 117, 101, 32, 116, 104, 97, 116, 32, 105, 115, 32, 98, 114, 111, 107, 101, 110]⟩ : ByteArray), (⟨#[97, 97, 97, 97, 97, 97, 97, 97, 97, 97, 97, 97, 97, 97, 97, 97, 97, 97, 97, 97, 97, 97, 97, 97, 97, 97, 97, 97, 97, 97, 97, 97, 97, 97, 97, 97, 97, 97, 97, 97, 97, 97, 97, 97, 97, 97, 97, 97, 97, 97, 97, 32, 98]⟩ : ByteArray), (⟨#[116, 119, 111, 32, 32, 115, 112, 97, 99, 101, 115, 32, 115, 116, 97, 121, 32, 32, 116, 111, 103, 101, 116, 104, 101, 114, 32, 105, 110, 32, 104, 101, 114, 101, 44, 32, 97, 110, 100, 32, 115, 111, 32, 100, 111, 32, 116, 104, 101, 115, 101, 32, 32, 111, 110, 101, 115]⟩ : ByteArray), (⟨#[97, 58, 98]⟩ : ByteArray), (⟨#[111, 110, 101, 32, 116, 119, 111, 32, 116, 104, 114, 101, 101, 32, 102, 111, 117, 114, 32, 102, 105, 118, 101, 32, 115, 105, 120, 32, 115, 101, 118, 101, 110, 32, 101, 105, 103, 104, 116, 32, 110, 105, 110, 101, 32, 116, 101, 110, 32, 101, 108, 101, 118, 101, 110]⟩ : ByteArray)] : List ByteArray)).length by decide)
    refine ⟨x, y, 0 + 1 + 1, ?_, ?_, by omega, by omega, Ev.bind e1 (Ev.bind e2 (Ev.now _))⟩
    · simp only [List.mem_cons, List.not_mem_nil, or_false] at hx
      rcases hx with rfl | rfl | rfl | rfl | rfl | rfl | rfl <;> decide
    · simp only [List.mem_cons, List.not_mem_nil, or_false] at hy
      rcases hy with rfl | rfl | rfl | rfl | rfl | rfl | rfl | rfl <;> decide
  obtain ⟨n, v, p, hn, hv, p0, p1, e1⟩ := l3
  have l4 : ∃ n' v' p', n'.size ≤ 1000 ∧ v'.size ≤ 1000 ∧ Ev (fun k => spec_l3Wrong.f k b p n v) (n', v', p') := by
    simp only [spec_l3Wrong.f]
    obtain ⟨r, r0, r1, e2⟩ := pick_ev b p 20 h1 h2 p0 (by omega) (by omega)
    by_cases c0 : r = 0
    · obtain ⟨x, hx, e3⟩ := of_ev b (p + 1) _ h1 h2 (by omega) (by omega) (show 1 ≤ (([(⟨#[]⟩ : ByteArray), (⟨#[45, 97]⟩ : ByteArray), (⟨#[49, 97]⟩ : ByteArray), (⟨#[97, 32, 98]⟩ : ByteArray), (⟨#[97, 95, 98]⟩ : ByteArray), (⟨#[97, 97, 97, 97, 97, 97, 97, 97, 97, 97, 97, 97, 97, 97, 97, 97, 97, 97, 97, 97, 97, 97, 97, 97, 97, 97, 97, 97, 97, 97, 97]⟩ : ByteArray)] : List ByteArray)).length by decide)
      refine ⟨x, v, p + 1 + 1, ?_, hv, Ev.bind e2 (ev_pos c0 (Ev.bind e3 (Ev.now _)))⟩
      simp only [List.mem_cons, List.not_mem_nil, or_false] at hx
      rcases hx with rfl | rfl | rfl | rfl | rfl | rfl <;> decide
    · by_cases c1 : r = 1
      · obtain ⟨x, hx, e3⟩ := of_ev b (p + 1) _ h1 h2 (by omega) (by omega) (show 1 ≤ (([(⟨#[32, 97]⟩ : ByteArray), (⟨#[97, 32]⟩ : ByteArray), (⟨#[10]⟩ : ByteArray)] : List ByteArray)).length by decide)
        refine ⟨n, x, p + 1 + 1, hn, ?_, Ev.bind e2 (ev_neg c0 (ev_pos c1 (Ev.bind e3 (Ev.now _))))⟩
        simp only [List.mem_cons, List.not_mem_nil, or_false] at hx
        rcases hx with rfl | rfl | rfl <;> decide
      · exact ⟨n, v, p + 1, hn, hv, Ev.bind e2 (ev_neg c0 (ev_neg c1 (Ev.now _)))⟩
  obtain ⟨n', v', p', hn', hv', e2⟩ := l4
  refine ⟨n', v', hn', hv', ?_⟩
  simp only [spec_DrawFoldField.f, hb, Option.bind_some]
  exact Ev.bind e1 (Ev.bind e2 (Ev.now _))

theorem impl_text (s : List UInt8) (hl : s.length ≤ 1000000000000) : Ev (fun k => impl_TextValid.f k (S s)) (decide (textOK s)) := by
  simp only [impl_TextValid.f, size_S]
  have loop : ∀ (e i : Nat), i + e = s.length → (∀ j (h : j < s.length), j < i → 32 ≤ s[j].toNat ∧ s[j].toNat ≤ 126) → Ev (fun k => impl_TextValid.l0 k (S s) (s.length : Int) (i : Int)) (decide (textOK s)) := by
    intro e
    induction e with
    | zero =>
      intro i hi hp
      have e1 : decide ((s.length : Int) ≤ 200) = decide (textOK s) := by
        rw [decide_eq_decide]
        constructor
        · intro q
          refine ⟨by omega, fun c hc => ?_⟩
          obtain ⟨j, hj, rfl⟩ := List.mem_iff_getElem.1 hc
          exact hp j hj (by omega)
        · intro q
          have := q.1
          omega
      refine Ev.step (fun k => by rw [impl_TextValid.l0]) ?_
      rw [size_S, e1]
      exact ev_neg (by omega) (Ev.now _)
    | succ e ih =>
      intro i hi hp
      have hlt : i < s.length := by omega
      have hg : s.getD i 0 = s[i] := by rw [List.getD_eq_getElem?_getD, List.getElem?_eq_getElem hlt]; rfl
      have w : wrap64 ((i : Int) + 1) = ((i + 1 : Nat) : Int) := by rw [w64 (by omega) (by omega)]; omega
      refine Ev.step (fun k => by rw [impl_TextValid.l0]) ?_
      simp only [size_S, bt_S, Int.toNat_natCast, hg, w]
      refine ev_pos (by omega) (ev_pos (by omega) (ev_pos (by omega) ?_))
      by_cases hc : 32 ≤ s[i].toNat ∧ s[i].toNat ≤ 126
      · refine ev_neg (by omega) (ev_neg (by omega) (ih (i + 1) (by omega) ?_))
        intro j hj hji
        by_cases q : j = i
        · subst q
          exact hc
        · exact hp j hj (by omega)
      · have e1 : decide (textOK s) = false := decide_eq_false (fun q => hc (q.2 s[i] (List.getElem_mem hlt)))
        rw [e1]
        by_cases h3 : (s[i].toNat : Int) < 32
        · exact ev_pos h3 (Ev.now _)
        · exact ev_neg h3 (ev_pos (by omega) (Ev.now _))
  exact loop s.length 0 (by omega) (fun j _ h => by omega)

theorem spec_text (s : List UInt8) (hl : s.length ≤ 1000000000000) : Ev (fun k => spec_TextValid.f k (S s)) (decide (textOK s)) := by
  simp only [spec_TextValid.f]
  have loop : ∀ (e i : Nat), i + e = s.length → i ≤ 201 → (∀ j (h : j < s.length), j < i → 32 ≤ s[j].toNat ∧ s[j].toNat ≤ 126) → Ev (fun k => spec_TextValid.l0 k (S s) (i : Int)) (decide (textOK s)) := by
    intro e
    induction e with
    | zero =>
      intro i hi h2 hp
      have e1 : decide ((s.length : Int) ≤ 200) = decide (textOK s) := by
        rw [decide_eq_decide]
        constructor
        · intro q
          refine ⟨by omega, fun c hc => ?_⟩
          obtain ⟨j, hj, rfl⟩ := List.mem_iff_getElem.1 hc
          exact hp j hj (by omega)
        · intro q
          have := q.1
          omega
      refine Ev.step (fun k => by rw [spec_TextValid.l0]) ?_
      rw [size_S]
      refine ev_neg (by omega) ?_
      refine Ev.step (fun k => by rw [spec_TextValid.j1]) ?_
      rw [size_S, e1]
      exact ev_neg (by decide) (Ev.now _)
    | succ e ih =>
      intro i hi h2 hp
      have hlt : i < s.length := by omega
      have hg : s.getD i 0 = s[i] := by rw [List.getD_eq_getElem?_getD, List.getElem?_eq_getElem hlt]; rfl
      have w : wrap64 ((i : Int) + 1) = ((i + 1 : Nat) : Int) := by rw [w64 (by omega) (by omega)]; omega
      refine Ev.step (fun k => by rw [spec_TextValid.l0]) ?_
      rw [size_S]
      refine ev_pos (by omega) ?_
      by_cases h200 : i ≤ 200
      · rw [decide_eq_true (show (i : Int) ≤ 200 by omega)]
        refine Ev.step (fun k => by rw [spec_TextValid.j1]) ?_
        simp only [size_S, bt_S, Int.toNat_natCast, hg, w]
        refine ev_pos trivial (ev_pos (by omega) (ev_pos (by omega) ?_))
        by_cases hc : 32 ≤ s[i].toNat ∧ s[i].toNat ≤ 126
        · refine ev_neg (by omega) (ev_neg (by omega) (ih (i + 1) (by omega) (by omega) ?_))
          intro j hj hji
          by_cases q : j = i
          · subst q
            exact hc
          · exact hp j hj (by omega)
        · have e1 : decide (textOK s) = false := decide_eq_false (fun q => hc (q.2 s[i] (List.getElem_mem hlt)))
          rw [e1]
          by_cases h3 : (s[i].toNat : Int) < 32
          · exact ev_pos h3 (Ev.now _)
          · exact ev_neg h3 (ev_pos (by omega) (Ev.now _))
      · rw [decide_eq_false (show ¬ (i : Int) ≤ 200 by omega)]
        have e1 : decide (textOK s) = false := decide_eq_false (fun q => by have := q.1; omega)
        refine Ev.step (fun k => by rw [spec_TextValid.j1]) ?_
        rw [size_S, e1]
        refine ev_neg (by decide) (ev_is ?_)
        rw [decide_eq_false (by omega)]
  exact loop s.length 0 (by omega) (by omega) (fun j _ h => by omega)

theorem spec_trimR (n : Nat) : ∀ s : List UInt8, s.length ≤ n → s.length ≤ 1000000000000 → Ev (fun k => spec_l2Trim.l1 k (S s)) (S (trimR s)) := by
  induction n with
  | zero =>
    intro s h _
    have : s = [] := List.eq_nil_of_length_eq_zero (by omega)
    subst this
    refine Ev.step (fun k => by rw [spec_l2Trim.l1]) ?_
    exact ev_neg (by decide) (Ev.now _)
  | succ n ih =>
    intro s h hl
    rcases List.eq_nil_or_concat s with rfl | ⟨t, c, rfl⟩
    · refine Ev.step (fun k => by rw [spec_l2Trim.l1]) ?_
      exact ev_neg (by decide) (Ev.now _)
    · rw [List.concat_eq_append] at h hl ⊢
      rw [List.length_append] at h hl
      simp only [List.length_cons, List.length_nil] at h hl
      have w : wrap64 (((t.length + 1 : Nat) : Int) - 1) = (t.length : Int) := by rw [w64 (by omega) (by omega)]; omega
      have hg : (t ++ [c]).getD t.length 0 = c := by simp
      have hx : ((t ++ [c]).drop 0).take (t.length - 0) = t := by simp
      refine Ev.step (fun k => by rw [spec_l2Trim.l1]) ?_
      simp only [size_S, List.length_append, List.length_cons, List.length_nil, Nat.zero_add, w, bt_S, Int.toNat_natCast, hg, extract_S, hx]
      rw [trimR_snoc]
      refine ev_pos (by omega) (ev_pos (by omega) (ev_pos (by omega) ?_))
      by_cases hc : (c.toNat : Int) = 32
      · rw [if_pos (show c = 32 from (u8_is (n := 32) (by omega)).1 hc)]
        exact ev_pos hc (ev_pos (by omega) (ih t (by omega) (by omega)))
      · rw [if_neg (fun q => hc (by rw [q]; rfl))]
        exact ev_neg hc (Ev.now _)
theorem spec_trim (s : List UInt8) (hl : s.length ≤ 1000000000000) : Ev (fun k => spec_l2Trim.f k (S s)) (S (trim s)) := by
  simp only [spec_l2Trim.f]
  have j : ∀ t : List UInt8, t.length ≤ 1000000000000 → Ev (fun k => spec_l2Trim.j1 k (S t)) (S (trimR t)) := by
    intro t ht
    refine Ev.step (fun k => by rw [spec_l2Trim.j1]) ?_
    exact spec_trimR t.length t (Nat.le_refl _) ht
  have loop : ∀ (n : Nat) (s : List UInt8), s.length ≤ n → s.length ≤ 1000000000000 → Ev (fun k => spec_l2Trim.l0 k (S s)) (S (trim s)) := by
    intro n
    induction n with
    | zero =>
      intro s h h2
      have : s = [] := List.eq_nil_of_length_eq_zero (by omega)
      subst this
      refine Ev.step (fun k => by rw [spec_l2Trim.l0]) ?_
      exact ev_neg (by decide) (j [] h2)
    | succ n ih =>
      intro s h h2
      cases s with
      | nil =>
        refine Ev.step (fun k => by rw [spec_l2Trim.l0]) ?_
        exact ev_neg (by decide) (j [] h2)
      | cons c r =>
        simp only [List.length_cons] at h h2
        have hg : bt (S (c :: r)) 0 = (c.toNat : Int) := by rw [bt_S]; rfl
        have hx : ((c :: r).drop 1).take (r.length + 1 - 1) = r := by simp
        refine Ev.step (fun k => by rw [spec_l2Trim.l0]) ?_
        simp only [size_S, List.length_cons, hg, extract_S, hx]
        refine ev_pos (by omega) (ev_pos (by omega) ?_)
        have hd : trim (c :: r) = if c = 32 then trim r else trimR (c :: r) := by
          unfold trim trimL
          rw [List.dropWhile_cons]
          by_cases q : c = 32
          · rw [if_pos q, if_pos (by simp [q])]
          · rw [if_neg q, if_neg (by simp [q])]
        rw [hd]
        by_cases hc : (c.toNat : Int) = 32
        · rw [if_pos (show c = 32 from (u8_is (n := 32) (by omega)).1 hc)]
          exact ev_pos hc (ev_pos (by omega) (ih r (by omega) (by omega)))
        · rw [if_neg (fun q => hc (by rw [q]; rfl))]
          exact ev_neg hc (j (c :: r) (by simp; omega))
  exact loop s.length s (Nat.le_refl _) hl

theorem trimL_full {s : List UInt8} (h : s.length ≤ (trimL s).length) : trimL s = s := (List.dropWhile_suffix _).eq_of_length (Nat.le_antisymm (trimL_len s) h)
theorem trimR_full {s : List UInt8} (h : s.length ≤ (trimR s).length) : trimR s = s := by
  have h1 : (s.reverse.dropWhile (· == 32)) = s.reverse := by
    refine (List.dropWhile_suffix _).eq_of_length (Nat.le_antisymm (dropWhile_len _ _) ?_)
    unfold trimR at h
    simpa using h
  unfold trimR
  rw [h1, List.reverse_reverse]
theorem trimB_trim (s : List UInt8) : Lib.trimB s 32 = s ↔ trim s = s := by
  have e : Lib.trimB s 32 = trimL (trimR s) := rfl
  have l1 := trimL_len (trimR s)
  have l2 := trimR_len s
  have l3 := trimR_len (trimL s)
  have l4 := trimL_len s
  rw [e]
  unfold trim
  constructor
  · intro h
    have hl := congrArg List.length h
    have r1 : trimR s = s := trimR_full (by omega)
    rw [r1] at h
    rw [h, r1]
  · intro h
    have hl := congrArg List.length h
    have r1 : trimL s = s := trimL_full (by omega)
    rw [r1] at h
    rw [h, r1]
theorem dw_nil (s : List UInt8) : s.dropWhile (· == 32) = [] ↔ ∀ x ∈ s, (x == 32) = true := by
  induction s with
  | nil => exact ⟨fun _ x hx => (by cases hx), fun _ => rfl⟩
  | cons c r ih =>
    rw [List.dropWhile_cons]
    by_cases hc : (c == 32) = true
    · rw [if_pos hc, ih]
      exact ⟨fun h x hx => by
        rcases List.mem_cons.1 hx with rfl | hx
        · exact hc
        · exact h x hx, fun h x hx => h x (by simp [hx])⟩
    · rw [if_neg hc]
      exact ⟨fun h => (by cases h), fun h => absurd (h c (by simp)) hc⟩
theorem trim_trimB (s : List UInt8) : trim s = Lib.trimB s 32 := by
  have e : Lib.trimB s 32 = trimL (trimR s) := rfl
  rw [e]
  unfold trim
  have split : ∀ s : List UInt8, trimR (trimL s) = trimL (trimR s) := by
    intro s
    induction s with
    | nil => rfl
    | cons c r ih =>
      by_cases hc : (c == 32) = true
      · have h1 : trimL (c :: r) = trimL r := by unfold trimL; rw [List.dropWhile_cons, if_pos hc]
        rw [h1, ih]
        by_cases hr : ∀ x ∈ r, (x == 32) = true
        · have a1 : trimR r = [] := by
            unfold trimR
            rw [List.reverse_eq_nil_iff, dw_nil]
            intro x hx
            exact hr x (List.mem_reverse.1 hx)
          have a2 : trimR (c :: r) = [] := by
            unfold trimR
            rw [List.reverse_eq_nil_iff, dw_nil]
            intro x hx
            rcases List.mem_cons.1 (List.mem_reverse.1 hx) with rfl | hx
            · exact hc
            · exact hr x hx
          rw [a1, a2]
        · have a3 : trimR (c :: r) = c :: trimR r := by
            unfold trimR
            have hne : r.reverse.dropWhile (· == 32) ≠ [] := by
              intro q
              rw [dw_nil] at q
              exact hr (fun x hx => q x (List.mem_reverse.2 hx))
            rw [List.reverse_cons, List.dropWhile_append, if_neg (by simpa using hne)]
            simp
          rw [a3]
          show trimL (trimR r) = trimL (c :: trimR r)
          unfold trimL
          rw [List.dropWhile_cons, if_pos hc]
      · have h1 : trimL (c :: r) = c :: r := by unfold trimL; rw [List.dropWhile_cons, if_neg hc]
        rw [h1]
        obtain ⟨t, ht⟩ : ∃ t, trimR (c :: r) = c :: t := by
          unfold trimR
          rw [List.reverse_cons]
          by_cases hne : r.reverse.dropWhile (· == 32) = []
          · refine ⟨[], ?_⟩
            rw [List.dropWhile_append, if_pos (by rw [hne]; rfl), List.dropWhile_cons, if_neg hc]
            rfl
          · refine ⟨(r.reverse.dropWhile (· == 32)).reverse, ?_⟩
            rw [List.dropWhile_append, if_neg (by simpa using hne)]
            simp
        rw [ht]
        unfold trimL
        rw [List.dropWhile_cons, if_neg hc]
  exact split s

/-- A field's value; a field. -/
def valOK (v : List UInt8) : Prop := textOK v ∧ v.length ≤ 150 ∧ Lib.trimB v 32 = v
instance (v : List UInt8) : Decidable (valOK v) := by unfold valOK; exact inferInstance
def fieldOK (n v : List UInt8) : Prop := nameOK n ∧ valOK v
instance (n v : List UInt8) : Decidable (fieldOK n v) := by unfold fieldOK; exact inferInstance
theorem letB_iff (c : UInt8) : letB c ↔ (97 ≤ c.toNat ∧ c.toNat ≤ 122) ∨ (65 ≤ c.toNat ∧ c.toNat ≤ 90) := Iff.rfl
theorem namB_iff (c : UInt8) : namB c ↔ letB c ∨ (48 ≤ c.toNat ∧ c.toNat ≤ 57) ∨ c.toNat = 45 := Iff.rfl
theorem isLetter_is (c : UInt8) : impl_isLetter.f (c.toNat : Int) = some (decide (letB c)) := by
  unfold impl_isLetter.f
  by_cases h1 : (c.toNat : Int) ≥ 97
  · rw [if_pos h1]
    by_cases h2 : (c.toNat : Int) ≤ 122
    · rw [if_pos h2, decide_eq_true (show letB c by rw [letB_iff]; omega)]
    · rw [if_neg h2, if_pos (by omega)]
      refine congrArg some (decide_eq_decide.2 ?_)
      rw [letB_iff]
      omega
  · rw [if_neg h1]
    by_cases h2 : (c.toNat : Int) ≥ 65
    · rw [if_pos h2]
      refine congrArg some (decide_eq_decide.2 ?_)
      rw [letB_iff]
      omega
    · rw [if_neg h2, decide_eq_false (show ¬ letB c by rw [letB_iff]; omega)]
theorem isDigit_is (c : UInt8) : impl_isDigit.f (c.toNat : Int) = some (decide (48 ≤ c.toNat ∧ c.toNat ≤ 57)) := by
  unfold impl_isDigit.f
  by_cases h1 : (c.toNat : Int) ≥ 48
  · rw [if_pos h1]
    refine congrArg some ?_
    rw [decide_eq_decide]
    omega
  · rw [if_neg h1, decide_eq_false (by omega)]
theorem isName1_is (c : UInt8) : impl_isName_1.f (c.toNat : Int) = some (decide (namB c)) := by
  unfold impl_isName_1.f
  rw [isLetter_is, isDigit_is, Option.bind_some, Option.bind_some]
  by_cases h1 : letB c
  · rw [if_pos (decide_eq_true h1), decide_eq_true (show namB c from Or.inl h1)]
  · rw [if_neg (by simpa using h1)]
    by_cases h2 : 48 ≤ c.toNat ∧ c.toNat ≤ 57
    · rw [if_pos (decide_eq_true h2), decide_eq_true (show namB c from Or.inr (Or.inl h2))]
    · rw [if_neg (by simpa using h2)]
      refine congrArg some ?_
      rw [Bool.eq_iff_iff, beq_iff_eq, decide_eq_true_eq]
      constructor
      · intro q
        exact Or.inr (Or.inr (by omega))
      · rintro (q | q | q)
        · exact absurd q h1
        · exact absurd q h2
        · omega
theorem allB_ev (s : List UInt8) (hl : s.length ≤ 1000000000) : Ev (fun k => impl_allBytes.f k (S s)) (decide (∀ c ∈ s, namB c)) := by
  simp only [impl_allBytes.f, size_S]
  have loop : ∀ (e i : Nat), i + e = s.length → (∀ j (h : j < s.length), j < i → namB s[j]) → Ev (fun k => impl_allBytes.l0 k (S s) (s.length : Int) (i : Int)) (decide (∀ c ∈ s, namB c)) := by
    intro e
    induction e with
    | zero =>
      intro i hi hp
      have e1 : decide (∀ c ∈ s, namB c) = true := decide_eq_true (fun c hc => by
        obtain ⟨j, hj, rfl⟩ := List.mem_iff_getElem.1 hc
        exact hp j hj (by omega))
      refine Ev.step (fun k => by rw [impl_allBytes.l0]) ?_
      rw [e1]
      exact ev_neg (by omega) (Ev.now _)
    | succ e ih =>
      intro i hi hp
      have hlt : i < s.length := by omega
      have hg : s.getD i 0 = s[i] := by rw [List.getD_eq_getElem?_getD, List.getElem?_eq_getElem hlt]; rfl
      have w : wrap64 ((i : Int) + 1) = ((i + 1 : Nat) : Int) := by rw [w64 (by omega) (by omega)]; omega
      refine Ev.step (fun k => by rw [impl_allBytes.l0]) ?_
      simp only [size_S, bt_S, Int.toNat_natCast, hg, w, isName1_is, Option.bind_some]
      clear w
      refine ev_pos (by omega) (ev_pos (by omega) (ev_pos (by omega) ?_))
      by_cases hc : namB s[i]
      · refine ev_pos (decide_eq_true hc) (ih (i + 1) (by omega) ?_)
        intro j hj hji
        by_cases q : j = i
        · subst q
          exact hc
        · exact hp j hj (by omega)
      · rw [decide_eq_false (fun q : ∀ c ∈ s, namB c => hc (q _ (List.getElem_mem hlt)))]
        exact ev_neg (by simpa using hc) (Ev.now _)
  exact loop s.length 0 (by omega) (fun j _ h => by omega)
theorem iname_ev (n : List UInt8) (hl : n.length ≤ 1000000000) : Ev (fun k => impl_isName.f k (S n)) (decide (nameOK n)) := by
  have b0 : bt (S n) 0 = ((n.getD 0 0).toNat : Int) := by rw [bt_S]; rfl
  simp only [impl_isName.f, size_S, b0, isLetter_is, Option.bind_some]
  by_cases h1 : (n.length : Int) ≥ 1
  · refine ev_pos h1 ?_
    by_cases h2 : (n.length : Int) ≤ 30
    · refine ev_pos h2 (ev_pos (by omega) ?_)
      by_cases h3 : letB (n.getD 0 0)
      · refine ev_pos (decide_eq_true h3) (Ev.bind (allB_ev n hl) (ev_is ?_))
        exact congrArg some (decide_eq_decide.2 ⟨fun q => ⟨by omega, by omega, h3, q⟩, fun q => q.2.2.2⟩)
      · rw [decide_eq_false (fun q : nameOK n => h3 q.2.2.1)]
        exact ev_neg (by simpa using h3) (Ev.now _)
    · rw [decide_eq_false (fun q : nameOK n => by have := q.2.1; omega)]
      exact ev_neg h2 (Ev.now _)
  · rw [decide_eq_false (fun q : nameOK n => by have := q.1; omega)]
    exact ev_neg h1 (Ev.now _)
theorem itrim_is (v : List UInt8) (hl : v.length ≤ 1000000000) : strings_Trim.f (S v) (⟨#[32]⟩ : ByteArray) = some (S (Lib.trimB v 32)) := by
  unfold strings_Trim.f
  rw [if_pos ⟨by rw [size_S]; omega, rfl, by decide⟩]
  rfl
theorem ivalid_ev (n v : List UInt8) (hn : n.length ≤ 1000000000) (hl : v.length ≤ 1000000000) : Ev (fun k => impl_FieldValid.f k (S n) (S v)) (decide (fieldOK n v)) := by
  simp only [impl_FieldValid.f, size_S, itrim_is v hl, toList_S]
  refine Ev.bind (iname_ev n hn) ?_
  by_cases h1 : nameOK n
  · refine ev_pos (decide_eq_true h1) (Ev.bind (impl_text v (by omega)) ?_)
    by_cases h2 : textOK v
    · refine ev_pos (decide_eq_true h2) ?_
      by_cases h3 : (v.length : Int) ≤ 150
      · refine ev_pos h3 (ev_is ?_)
        rw [Option.bind_some]
        refine congrArg some ?_
        rw [Bool.eq_iff_iff, beq_iff_eq, decide_eq_true_eq, toList_S]
        exact ⟨fun q => ⟨h1, h2, by omega, q⟩, fun q => q.2.2.2⟩
      · rw [decide_eq_false (fun q : fieldOK n v => by have := q.2.2.1; omega)]
        exact ev_neg h3 (Ev.now _)
    · rw [decide_eq_false (fun q : fieldOK n v => h2 q.2.1)]
      exact ev_neg (by simpa using h2) (Ev.now _)
  · rw [decide_eq_false (fun q : fieldOK n v => h1 q.1)]
    exact ev_neg (by simpa using h1) (Ev.now _)

def alnB (c : UInt8) : Prop := letB c ∨ (48 ≤ c.toNat ∧ c.toNat ≤ 57)
instance (c : UInt8) : Decidable (alnB c) := by unfold alnB; exact inferInstance
theorem alnB_iff (c : UInt8) : alnB c ↔ ((97 ≤ c.toNat ∧ c.toNat ≤ 122) ∨ (65 ≤ c.toNat ∧ c.toNat ≤ 90)) ∨ (48 ≤ c.toNat ∧ c.toNat ≤ 57) := Iff.rfl
theorem sletter_is (c : UInt8) : spec_l1Letter.f (c.toNat : Int) = some (decide (alnB c)) := by
  unfold spec_l1Letter.f
  by_cases h1 : (c.toNat : Int) ≥ 97
  · rw [if_pos h1]
    by_cases h2 : (c.toNat : Int) ≤ 122
    · rw [if_pos h2, decide_eq_true (show alnB c by rw [alnB_iff]; omega)]
    · rw [if_neg h2, if_pos (by omega), if_neg (by omega), if_pos (by omega)]
      refine congrArg some (decide_eq_decide.2 ?_)
      rw [alnB_iff]
      omega
  · rw [if_neg h1]
    by_cases h2 : (c.toNat : Int) ≥ 65
    · rw [if_pos h2]
      by_cases h3 : (c.toNat : Int) ≤ 90
      · rw [if_pos h3, decide_eq_true (show alnB c by rw [alnB_iff]; omega)]
      · rw [if_neg h3, if_pos (by omega)]
        refine congrArg some (decide_eq_decide.2 ?_)
        rw [alnB_iff]
        omega
    · rw [if_neg h2]
      by_cases h3 : (c.toNat : Int) ≥ 48
      · rw [if_pos h3]
        refine congrArg some (decide_eq_decide.2 ?_)
        rw [alnB_iff]
        omega
      · rw [if_neg h3, decide_eq_false (show ¬ alnB c by rw [alnB_iff]; omega)]
theorem sname_ev (n : List UInt8) (hl : n.length ≤ 1000000000) : Ev (fun k => spec_l3Name.f k (S n)) (decide (nameOK n)) := by
  simp only [spec_l3Name.f]
  have fin : (n.length ≤ 30 → ∀ c ∈ n, namB c) → (1 ≤ n.length → letB (n.getD 0 0)) → ∀ i : Nat, Ev (fun k => spec_l3Name.j1 k (S n) (i : Int) false) (decide (nameOK n)) := by
    intro hp h0 i
    refine Ev.step (fun k => by rw [spec_l3Name.j1]) ?_
    rw [size_S]
    refine ev_neg (by decide) ?_
    by_cases h1 : (n.length : Int) ≥ 1
    · refine ev_pos h1 (ev_is ?_)
      exact congrArg some (decide_eq_decide.2 ⟨fun q => ⟨by omega, by omega, h0 (by omega), hp (by omega)⟩, fun q => by have := q.2.1; omega⟩)
    · rw [decide_eq_false (fun q : nameOK n => by have := q.1; omega)]
      exact ev_neg h1 (Ev.now _)
  have no : ∀ i (h : i < n.length), ¬ namB n[i] ∨ (i = 0 ∧ ¬ letB n[i]) → decide (nameOK n) = false := by
    intro i h q
    refine decide_eq_false ?_
    rintro ⟨_, _, q3, q4⟩
    rcases q with q | ⟨rfl, q⟩
    · exact q (q4 _ (List.getElem_mem h))
    · apply q
      rwa [List.getD_eq_getElem?_getD, List.getElem?_eq_getElem h] at q3
  have loop : ∀ (e i : Nat), i + e = n.length → (∀ j (h : j < n.length), j < i → namB n[j]) → (1 ≤ i → letB (n.getD 0 0)) → i ≤ 31 → Ev (fun k => spec_l3Name.l0 k (S n) (i : Int)) (decide (nameOK n)) := by
    intro e
    induction e with
    | zero =>
      intro i hi hp h0 _
      refine Ev.step (fun k => by rw [spec_l3Name.l0]) ?_
      rw [size_S]
      refine ev_neg (by omega) (fin (fun _ c hc => ?_) (fun h => h0 (by omega)) i)
      obtain ⟨j, hj, rfl⟩ := List.mem_iff_getElem.1 hc
      exact hp j hj (by omega)
    | succ e ih =>
      intro i hi hp h0 h31
      have hlt : i < n.length := by omega
      have hg : n.getD i 0 = n[i] := by rw [List.getD_eq_getElem?_getD, List.getElem?_eq_getElem hlt]; rfl
      have w : wrap64 ((i : Int) + 1) = ((i + 1 : Nat) : Int) := by rw [w64 (by omega) (by omega)]; omega
      refine Ev.step (fun k => by rw [spec_l3Name.l0]) ?_
      rw [size_S]
      refine ev_pos (by omega) ?_
      by_cases h30 : i ≤ 30
      · rw [decide_eq_true (show (i : Int) ≤ 30 by omega)]
        refine Ev.step (fun k => by rw [spec_l3Name.j1]) ?_
        simp only [size_S, bt_S, Int.toNat_natCast, hg, w, sletter_is, Option.bind_some]
        clear w
        refine ev_pos trivial (ev_pos (by omega) (ev_pos (by omega) ?_))
        have next : namB n[i] → (i = 0 → letB n[i]) → Ev (fun k => spec_l3Name.l0 k (S n) ((i + 1 : Nat) : Int)) (decide (nameOK n)) := by
          intro q1 q2
          refine ih (i + 1) (by omega) ?_ ?_ (by omega)
          · intro j hj hji
            by_cases q : j = i
            · subst q
              exact q1
            · exact hp j hj (by omega)
          · intro _
            by_cases q : i = 0
            · have := q2 q
              subst q
              rwa [hg]
            · exact h0 (by omega)
        by_cases hc : alnB n[i]
        · have hnb : namB n[i] := by
            rcases hc with hc | hc
            · exact Or.inl hc
            · exact Or.inr (Or.inl hc)
          refine ev_pos (decide_eq_true hc) ?_
          by_cases hz : (i : Int) = 0
          · refine ev_pos hz ?_
            by_cases h57 : (n[i].toNat : Int) ≤ 57
            · rw [no i hlt (Or.inr ⟨by omega, fun q => by rw [letB_iff] at q; omega⟩)]
              exact ev_pos h57 (Ev.now _)
            · refine ev_neg h57 (next hnb (fun _ => ?_))
              rcases hc with hc | hc
              · exact hc
              · omega
          · exact ev_neg hz (next hnb (fun q => by omega))
        · refine ev_neg (by simpa using hc) ?_
          by_cases h45 : (n[i].toNat : Int) = 45
          · refine ev_pos h45 ?_
            by_cases hz : (i : Int) = 0
            · rw [no i hlt (Or.inr ⟨by omega, fun q => hc (Or.inl q)⟩)]
              exact ev_pos hz (ev_pos (by omega) (Ev.now _))
            · exact ev_neg hz (next (Or.inr (Or.inr (by omega))) (fun q => by omega))
          · rw [no i hlt (Or.inl (fun q => by
              rcases q with q | q | q
              · exact hc (Or.inl q)
              · exact hc (Or.inr q)
              · omega))]
            exact ev_neg h45 (Ev.now _)
      · rw [decide_eq_false (show ¬ (i : Int) ≤ 30 by omega)]
        exact fin (fun h => by omega) (fun _ => h0 (by omega)) i
  exact loop n.length 0 (by omega) (fun j _ h => by omega) (fun h => by omega) (by omega)
theorem svalid2_ev (n v : List UInt8) (hn : n.length ≤ 1000000000) (hl : v.length ≤ 1000000000) : Ev (fun k => spec_FieldValid.f k (S n) (S v)) (decide (fieldOK n v)) := by
  simp only [spec_FieldValid.f, size_S, toList_S]
  refine Ev.bind (sname_ev n hn) ?_
  by_cases h1 : nameOK n
  · refine ev_pos (decide_eq_true h1) (Ev.bind (spec_text v (by omega)) ?_)
    by_cases h2 : textOK v
    · refine ev_pos (decide_eq_true h2) ?_
      by_cases h3 : (v.length : Int) ≤ 150
      · refine ev_pos h3 (Ev.bind (spec_trim v (by omega)) (ev_is ?_))
        refine congrArg some ?_
        rw [Bool.eq_iff_iff, beq_iff_eq, decide_eq_true_eq, toList_S]
        exact ⟨fun q => ⟨h1, h2, by omega, (trimB_trim v).2 q⟩, fun q => (trimB_trim v).1 q.2.2.2⟩
      · rw [decide_eq_false (fun q : fieldOK n v => by have := q.2.2.1; omega)]
        exact ev_neg h3 (Ev.now _)
    · rw [decide_eq_false (fun q : fieldOK n v => h2 q.2.1)]
      exact ev_neg (by simpa using h2) (Ev.now _)
  · rw [decide_eq_false (fun q : fieldOK n v => h1 q.1)]
    exact ev_neg (by simpa using h1) (Ev.now _)

/-- A place, as a number; none is -1. -/
def oi : Option Nat → Int
  | none => -1
  | some k => (k : Int)
theorem oi_neg (b : Option Nat) : oi b < 0 ↔ b = none := by
  cases b with
  | none => exact ⟨fun _ => rfl, fun _ => by decide⟩
  | some k => exact ⟨fun h => by have h2 : (k : Int) < 0 := h; omega, fun h => by cases h⟩
theorem u32 (c : UInt8) : (c.toNat : Int) = 32 ↔ c = 32 := by
  constructor
  · intro h
    exact UInt8.toNat_inj.1 (by show c.toNat = 32; omega)
  · rintro rfl
    rfl
theorem iscan {l : List UInt8} {outs : List (List UInt8)} {R : List ByteArray} (hl : l.length ≤ 100000) : ∀ (e i : Nat) (b : Option Nat), i + e + 1 = l.length → 1 ≤ i → Ev (fun k => impl_foldField.l1 k (S l) (SL outs) (oi (scanB l e i b)) ((i + e : Nat) : Int)) R →
    Ev (fun k => impl_foldField.l1 k (S l) (SL outs) (oi b) (i : Int)) R := by
  intro e
  induction e with
  | zero => intro i b _ _ H; exact H
  | succ e ih =>
    intro i b hi h1 H
    obtain ⟨w, w2⟩ : wrap64 ((i : Int) + 1) = ((i + 1 : Nat) : Int) ∧ wrap64 ((i : Int) - 1) = ((i - 1 : Nat) : Int) := ⟨by rw [w64 (by omega) (by omega)]; omega, by rw [w64 (by omega) (by omega)]; omega⟩
    have hn : ∀ b', b' = (if sp1 l i ∧ (b = none ∨ i ≤ 40) then some i else b) → Ev (fun k => impl_foldField.l1 k (S l) (SL outs) (oi b') ((i + 1 : Nat) : Int)) R := by
      rintro b' rfl
      refine ih (i + 1) _ (by omega) (by omega) ?_
      have e1 : i + 1 + e = i + (e + 1) := by omega
      rw [e1]
      exact H
    refine Ev.step (fun k => by rw [impl_foldField.l1]) ?_
    simp only [size_S, bt_S, Int.toNat_natCast, w, w2, u32, oi_neg]
    clear w w2
    refine ev_pos (by omega) (ev_pos (by omega) (ev_pos (by omega) ?_))
    by_cases c1 : l.getD i 0 = 32
    · refine ev_pos c1 (ev_pos (by omega) (ev_pos (by omega) ?_))
      by_cases c2 : l.getD (i - 1) 0 = 32
      · exact ev_pos c2 (hn b (by rw [if_neg (fun q => q.1.2.1 c2)]))
      · refine ev_neg c2 (ev_pos (by omega) ?_)
        by_cases c3 : l.getD (i + 1) 0 = 32
        · exact ev_pos c3 (hn b (by rw [if_neg (fun q => q.1.2.2 c3)]))
        · refine ev_neg c3 ?_
          by_cases c4 : b = none
          · exact ev_pos c4 (hn (some i) (by rw [if_pos ⟨⟨c1, c2, c3⟩, Or.inl c4⟩]))
          · refine ev_neg c4 ?_
            by_cases c5 : (i : Int) ≤ 40
            · exact ev_pos c5 (hn (some i) (by rw [if_pos ⟨⟨c1, c2, c3⟩, Or.inr (by omega)⟩]))
            · exact ev_neg c5 (hn b (by rw [if_neg (fun q => q.2.elim c4 (fun z => c5 (by omega)))]))
    · exact ev_neg c1 (hn b (by rw [if_neg (fun q => c1 q.1.1)]))
theorem ifold_l0 : ∀ (f : Nat) (l : List UInt8) (first : Nat) (outs : List (List UInt8)), l.length ≤ f → f ≤ 1000 → 1 ≤ first → first ≤ 35 → outs.length + f ≤ 2000 →
    Ev (fun k => impl_foldField.l0 k (S l) (first : Int) (SL outs)) (SL (outs ++ foldF f l first)) := by
  intro f
  induction f with
  | zero =>
    intro l first outs h1 _ _ _ h5
    have : l = [] := List.eq_nil_of_length_eq_zero (by omega)
    subst this
    refine Ev.step (fun k => by rw [impl_foldField.l0]) ?_
    simp only [size_S, SL_length, SL_one, SL_append]
    exact ev_neg (by simp) (ev_pos (by omega) (Ev.now _))
  | succ f ih =>
    intro l first outs h1 h2 h3 h4 h5
    refine Ev.step (fun k => by rw [impl_foldField.l0]) ?_
    simp only [size_S, SL_length, SL_one, SL_append]
    by_cases h40 : l.length > 40
    · refine ev_pos (by omega) ?_
      have hs := iscan (l := l) (outs := outs) (R := SL (outs ++ foldF (f + 1) l first)) (by omega) (l.length - 1 - first) first none (by omega) h3
      refine hs ?_
      have e1 : scanB l (l.length - 1 - first) first none = brk l first := rfl
      have e2 : first + (l.length - 1 - first) = l.length - 1 := by omega
      rw [e1, e2]
      have w : wrap64 (((l.length - 1 : Nat) : Int) + 1) = (l.length : Int) := by rw [w64 (by omega) (by omega)]; omega
      refine Ev.step (fun k => by rw [impl_foldField.l1]) ?_
      simp only [size_S, SL_length, w, oi_neg]
      clear w
      refine ev_neg (by omega) ?_
      cases hb : brk l first with
      | none =>
        have er : foldF (f + 1) l first = [l] := by rw [foldF, if_pos h40, hb]
        rw [er]
        simp only [SL_one, SL_append]
        exact ev_pos trivial (ev_pos (by omega) (Ev.now _))
      | some k =>
        have er : foldF (f + 1) l first = l.take k :: foldF f (l.drop k) 2 := by rw [foldF, if_pos h40, hb]
        obtain ⟨k1, k2, _⟩ := brk_in (by omega) hb
        rw [er]
        have ek : oi (some k) = (k : Int) := rfl
        rw [ek]
        simp only [Int.toNat_natCast, extract_S, List.drop_zero, Nat.sub_zero, SL_one, SL_append]
        have e3 : (l.drop k).take (l.length - k) = l.drop k := List.take_of_length_le (by rw [List.length_drop]; exact Nat.le_refl _)
        have := ih (l.drop k) 2 (outs ++ [l.take k]) (by rw [List.length_drop]; omega) (by omega) (by omega) (by omega) (by rw [List.length_append]; simp; omega)
        rw [List.append_assoc] at this
        rw [e3]
        exact ev_neg (by simp) (ev_pos (by omega) (ev_pos (by omega) (ev_pos (by omega) this)))
    · have er : foldF (f + 1) l first = [l] := by rw [foldF, if_neg h40]
      rw [er]
      exact ev_neg (by omega) (ev_pos (by omega) (Ev.now _))
theorem foldF_short {f : Nat} {l : List UInt8} (h : l.length ≤ 40) (a b : Nat) : foldF f l a = foldF f l b := by
  cases f with
  | zero => rfl
  | succ f => rw [foldF, foldF, if_neg (by omega), if_neg (by omega)]
/-- The lines of a field. -/
def foldL (n v : List UInt8) : List (List UInt8) := foldF 200 (lineF n v) (n.length + 3)
theorem e58 : (⟨#[58]⟩ : ByteArray) = S [58] := rfl
theorem e32 : (⟨#[32]⟩ : ByteArray) = S [32] := rfl
theorem fitsN {n : Nat} (h : n ≤ 1000) : n ≤ 9223372036854775807 := by omega
theorem ifold_ev {n v : List UInt8} (h : fieldOK n v) : Ev (fun k => impl_foldField.f k (S n) (S v)) (SL (foldL n v)) := by
  have h1 := h.1.2.1
  have h2 := h.2.2.1
  have hll := lineF_len n v
  have w : wrap64 ((n.length : Int) + 3) = ((n.length + 3 : Nat) : Int) := by rw [w64 (by omega) (by omega)]; omega
  simp only [impl_foldField.f, size_S, e58, e32, append_S, toList_S, w]
  clear w
  refine ev_pos (fitsN (by omega)) ?_
  have go : ∀ s, s = lineF n v → Ev (fun k => impl_foldField.j0 k (S s) ((n.length + 3 : Nat) : Int)) (SL (foldL n v)) := by
    rintro s rfl
    refine Ev.step (fun k => by rw [impl_foldField.j0]) ?_
    have := ifold_l0 200 (lineF n v) (n.length + 3) [] (by omega) (by omega) (by omega) (by omega) (by simp)
    exact this
  by_cases hv : v = []
  · refine ev_pos hv (go _ ?_)
    unfold lineF
    rw [if_pos hv, List.append_nil]
  · refine ev_neg hv (ev_pos (fitsN (by omega)) (ev_pos (fitsN (by simp; omega)) (go _ ?_)))
    unfold lineF
    rw [if_neg hv]
theorem iFold_ev (n v : List UInt8) (hn : n.length ≤ 1000000000) (hv : v.length ≤ 1000000000) : Ev (fun k => impl_FoldField.f k (S n) (S v)) (SL (if fieldOK n v then foldL n v else [])) := by
  simp only [impl_FoldField.f]
  refine Ev.bind (ivalid_ev n v hn hv) ?_
  by_cases h : fieldOK n v
  · rw [if_pos h]
    exact ev_pos (decide_eq_true h) (Ev.bind (ifold_ev h) (Ev.now _))
  · rw [if_neg h]
    exact ev_neg (by simpa using h) (Ev.now _)
theorem sscan {l : List UInt8} (hl : l.length ≤ 100000) : ∀ (e i : Nat) (b : Option Nat), i + e + 1 = l.length → 1 ≤ i → Ev (fun k => spec_l3Break.l0 k (S l) (oi b) (i : Int)) (oi (scanB l e i b)) := by
  intro e
  induction e with
  | zero =>
    intro i b hi h1
    have w : wrap64 ((i : Int) + 1) = ((i + 1 : Nat) : Int) := by rw [w64 (by omega) (by omega)]; omega
    refine Ev.step (fun k => by rw [spec_l3Break.l0]) ?_
    rw [size_S, w]
    exact ev_neg (by omega) (Ev.now _)
  | succ e ih =>
    intro i b hi h1
    obtain ⟨w, w2⟩ : wrap64 ((i : Int) + 1) = ((i + 1 : Nat) : Int) ∧ wrap64 ((i : Int) - 1) = ((i - 1 : Nat) : Int) := ⟨by rw [w64 (by omega) (by omega)]; omega, by rw [w64 (by omega) (by omega)]; omega⟩
    have hn : ∀ b', b' = (if sp1 l i ∧ (b = none ∨ i ≤ 40) then some i else b) → Ev (fun k => spec_l3Break.l0 k (S l) (oi b') ((i + 1 : Nat) : Int)) (oi (scanB l (e + 1) i b)) := by
      rintro b' rfl
      exact ih (i + 1) _ (by omega) (by omega)
    have skip : ¬ sp1 l i → Ev (fun k => spec_l3Break.j1 k (S l) (oi b) (i : Int) true) (oi (scanB l (e + 1) i b)) := by
      intro q
      refine Ev.step (fun k => by rw [spec_l3Break.j1]) ?_
      rw [w]
      exact ev_pos rfl (hn b (by rw [if_neg (fun z => q z.1)]))
    have eb : bt (S l) ((i + 1 : Nat) : Int) = ((l.getD (i + 1) 0).toNat : Int) := by rw [bt_S, Int.toNat_natCast]
    refine Ev.step (fun k => by rw [spec_l3Break.l0]) ?_
    simp only [size_S, w, w2, eb]
    simp only [bt_S, Int.toNat_natCast, u32]
    refine ev_pos (by clear w w2 eb; omega) (ev_pos (by clear w w2 eb; omega) (ev_pos (by clear w w2 eb; omega) ?_))
    by_cases c1 : l.getD i 0 = 32
    · refine ev_pos c1 (ev_pos (by clear w w2 eb; omega) (ev_pos (by clear w w2 eb; omega) ?_))
      by_cases c2 : l.getD (i - 1) 0 = 32
      · exact ev_pos c2 (skip (fun q => q.2.1 c2))
      · refine ev_neg c2 (ev_pos (by clear w w2 eb; omega) ?_)
        by_cases c3 : l.getD (i + 1) 0 = 32
        · rw [beq_iff_eq.2 ((u32 _).2 c3)]
          exact skip (fun q => q.2.2 c3)
        · rw [beq_eq_false_iff_ne.2 (fun q => c3 ((u32 _).1 q))]
          refine Ev.step (fun k => by rw [spec_l3Break.j1]) ?_
          simp only [w, oi_neg]
          refine ev_neg (by decide) ?_
          by_cases c5 : (i : Int) ≤ 40
          · exact ev_pos c5 (hn (some i) (by rw [if_pos ⟨⟨c1, c2, c3⟩, Or.inr (by clear w w2 eb; omega)⟩]))
          · refine ev_neg c5 ?_
            by_cases c4 : b = none
            · exact ev_pos c4 (hn (some i) (by rw [if_pos ⟨⟨c1, c2, c3⟩, Or.inl c4⟩]))
            · exact ev_neg c4 (hn b (by rw [if_neg (fun q => q.2.elim c4 (fun z => c5 (by clear w w2 eb; omega)))]))
    · exact ev_neg c1 (skip (fun q => c1 q.1))
theorem sfold_l0 : ∀ (f : Nat) (l : List UInt8) (from_ : Nat) (outs : List (List UInt8)), l.length ≤ f → f ≤ 1000 → 1 ≤ from_ → from_ ≤ 35 → outs.length + f ≤ 2000 →
    Ev (fun k => spec_FoldField.l0 k (SL outs) (S l) (from_ : Int)) (SL (outs ++ foldF f l (from_ + 1))) := by
  intro f
  induction f with
  | zero =>
    intro l first outs h1 _ _ _ h5
    have : l = [] := List.eq_nil_of_length_eq_zero (by omega)
    subst this
    refine Ev.step (fun k => by rw [spec_FoldField.l0]) ?_
    simp only [size_S, SL_length, SL_one, SL_append]
    exact ev_neg (by simp) (ev_pos (by omega) (Ev.now _))
  | succ f ih =>
    intro l first outs h1 h2 h3 h4 h5
    refine Ev.step (fun k => by rw [spec_FoldField.l0]) ?_
    simp only [size_S, SL_length, SL_one, SL_append]
    by_cases h40 : l.length > 40
    · refine ev_pos (by omega) ?_
      have hb0 : Ev (fun k => spec_l3Break.f k (S l) (first : Int)) (oi (brk l (first + 1))) := by
        have w : wrap64 ((first : Int) + 1) = ((first + 1 : Nat) : Int) := by rw [w64 (by omega) (by omega)]; omega
        simp only [spec_l3Break.f, w]
        clear w
        exact sscan (by omega) (l.length - 1 - (first + 1)) (first + 1) none (by omega) (by omega)
      refine Ev.bind hb0 ?_
      simp only [oi_neg]
      cases hb : brk l (first + 1) with
      | none =>
        have er : foldF (f + 1) l (first + 1) = [l] := by rw [foldF, if_pos h40, hb]
        rw [er]
        exact ev_pos rfl (ev_pos (by omega) (Ev.now _))
      | some k =>
        have er : foldF (f + 1) l (first + 1) = l.take k :: foldF f (l.drop k) 2 := by rw [foldF, if_pos h40, hb]
        obtain ⟨k1, k2, _⟩ := brk_in (by omega) hb
        rw [er]
        have ek : oi (some k) = (k : Int) := rfl
        rw [ek]
        simp only [Int.toNat_natCast, extract_S, List.drop_zero, Nat.sub_zero, SL_one, SL_append]
        have e3 : (l.drop k).take (l.length - k) = l.drop k := List.take_of_length_le (by rw [List.length_drop]; exact Nat.le_refl _)
        have := ih (l.drop k) 1 (outs ++ [l.take k]) (by rw [List.length_drop]; omega) (by omega) (by omega) (by omega) (by rw [List.length_append]; simp; omega)
        rw [List.append_assoc] at this
        rw [e3]
        exact ev_neg (by simp) (ev_pos (by omega) (ev_pos (by omega) (ev_pos (by omega) this)))
    · have er : foldF (f + 1) l (first + 1) = [l] := by rw [foldF, if_neg h40]
      rw [er]
      exact ev_neg (by omega) (ev_pos (by omega) (Ev.now _))
theorem sFold_ev (n v : List UInt8) (hn : n.length ≤ 1000000000) (hv : v.length ≤ 1000000000) : Ev (fun k => spec_FoldField.f k (S n) (S v)) (SL (if fieldOK n v then foldL n v else [])) := by
  simp only [spec_FoldField.f, Option.bind_some]
  refine Ev.bind (svalid2_ev n v hn hv) ?_
  by_cases h : fieldOK n v
  · rw [if_pos h]
    refine ev_pos (decide_eq_true h) ?_
    have h1 := h.1.2.1
    have h2 := h.2.2.1
    have hll := lineF_len n v
    simp only [size_S, e58, e32, append_S, toList_S]
    have hl58 : (n ++ [58]).length = n.length + 1 := by simp
    refine ev_pos (fitsN (by omega)) ?_
    by_cases hv0 : v = []
    · refine ev_pos hv0 ?_
      have el : n ++ [58] = lineF n v := by unfold lineF; rw [if_pos hv0, List.append_nil]
      refine Ev.step (fun k => by rw [spec_FoldField.j0]) ?_
      have := sfold_l0 200 (lineF n v) (n.length + 1) [] (by omega) (by omega) (by omega) (by omega) (by simp)
      have e2 : foldF 200 (lineF n v) (n.length + 1 + 1) = foldL n v := foldF_short (by rw [← el, hl58]; omega) _ _
      rw [List.nil_append, e2] at this
      rw [hl58, el]
      exact this
    · have el : n ++ [58] ++ [32] ++ v = lineF n v := by unfold lineF; rw [if_neg hv0]; simp
      have w : wrap64 (((n ++ [58]).length : Int) + 1) = ((n.length + 2 : Nat) : Int) := by rw [hl58, w64 (by omega) (by omega)]; omega
      rw [w]
      clear w
      refine ev_neg hv0 (ev_pos (fitsN (by omega)) (ev_pos (fitsN (by simp; omega)) ?_))
      refine Ev.step (fun k => by rw [spec_FoldField.j0]) ?_
      have := sfold_l0 200 (lineF n v) (n.length + 2) [] (by omega) (by omega) (by omega) (by omega) (by simp)
      rw [el]
      exact this
  · rw [if_neg h]
    exact ev_neg (by simpa using h) (Ev.now _)

/-- Fields, as the program has them. -/
def SF (F : List (List UInt8 × List UInt8)) : List S36 := F.map fun p => ⟨S p.1, S p.2⟩
theorem SF_length (F : List (List UInt8 × List UInt8)) : (SF F).length = F.length := by unfold SF; simp
theorem rd_SF (F : List (List UInt8 × List UInt8)) (i : Nat) (h : i < F.length) : rd_T36 (SF F) (i : Int) = ⟨S F[i].1, S F[i].2⟩ := by
  unfold rd_T36 SF
  rw [Int.toNat_natCast, List.getD_eq_getElem?_getD]
  simp [h]
def Fine (F : List (List UInt8 × List UInt8)) : Prop := F.length ≤ 20 ∧ ∀ p ∈ F, fieldOK p.1 p.2
instance (F : List (List UInt8 × List UInt8)) : Decidable (Fine F) := by unfold Fine; exact inferInstance
def Small (F : List (List UInt8 × List UInt8)) : Prop := F.length ≤ 1000000000 ∧ ∀ p ∈ F, p.1.length ≤ 1000000000 ∧ p.2.length ≤ 1000000000
theorem iidx_ev (F : List (List UInt8 × List UInt8)) (hF : Small F) : Ev (fun k => impl_Field_53.f k (SF F)) (decide (∃ p ∈ F, ¬ fieldOK p.1 p.2)) := by
  have loop : ∀ (e i : Nat), i + e = F.length → (∀ j (h : j < F.length), j < i → fieldOK F[j].1 F[j].2) → ∃ r : Int, Ev (fun k => impl_Field_73.l0 k (SF F) (F.length : Int) (i : Int)) r ∧ (r ≥ 0 ↔ ∃ p ∈ F, ¬ fieldOK p.1 p.2) := by
    intro e
    induction e with
    | zero =>
      intro i hi hp
      refine ⟨-1, ?_, fun q => by omega, ?_⟩
      · refine Ev.step (fun k => by rw [impl_Field_73.l0]) ?_
        exact ev_neg (by omega) (Ev.now _)
      · rintro ⟨p, hm, hq⟩
        obtain ⟨j, hj, rfl⟩ := List.mem_iff_getElem.1 hm
        exact absurd (hp j hj (by omega)) hq
    | succ e ih =>
      intro i hi hp
      have hlt : i < F.length := by omega
      have w : wrap64 ((i : Int) + 1) = ((i + 1 : Nat) : Int) := by
        have := hF.1
        rw [w64 (by omega) (by omega)]
        omega
      have hs := hF.2 F[i] (List.getElem_mem hlt)
      have hv := ivalid_ev F[i].1 F[i].2 hs.1 hs.2
      by_cases hc : fieldOK F[i].1 F[i].2
      · obtain ⟨r, hr, hq⟩ := ih (i + 1) (by omega) (fun j hj hji => by
          by_cases q : j = i
          · subst q
            exact hc
          · exact hp j hj (by omega))
        refine ⟨r, ?_, hq⟩
        refine Ev.step (fun k => by rw [impl_Field_73.l0]) ?_
        simp only [SF_length, rd_SF F i hlt, w, impl_fieldsValid_1.f]
        clear w
        rw [decide_eq_true hc] at hv
        refine ev_pos (by omega) (ev_pos (by omega) (ev_pos (by omega) (Ev.bind (Ev.bind hv (Ev.now _)) (ev_neg (by decide) hr))))
      · refine ⟨(i : Int), ?_, fun _ => ⟨F[i], List.getElem_mem hlt, hc⟩, fun _ => by omega⟩
        refine Ev.step (fun k => by rw [impl_Field_73.l0]) ?_
        simp only [SF_length, rd_SF F i hlt, w, impl_fieldsValid_1.f]
        clear w
        rw [decide_eq_false hc] at hv
        exact ev_pos (by omega) (ev_pos (by omega) (ev_pos (by omega) (Ev.bind (Ev.bind hv (Ev.now _)) (ev_pos rfl (Ev.now _)))))
  obtain ⟨r, hr, hq⟩ := loop F.length 0 (by omega) (fun j _ h => by omega)
  simp only [impl_Field_53.f, impl_Field_73.f, SF_length]
  refine Ev.bind hr (ev_is ?_)
  rw [decide_eq_decide.2 hq]
theorem ivalids_ev (F : List (List UInt8 × List UInt8)) (hF : Small F) : Ev (fun k => impl_fieldsValid.f k (SF F)) (decide (Fine F)) := by
  simp only [impl_fieldsValid.f, SF_length]
  by_cases h : (F.length : Int) ≤ 20
  · refine ev_pos h (Ev.bind (iidx_ev F hF) (ev_is ?_))
    refine congrArg some ?_
    rw [Bool.eq_iff_iff, Bool.not_eq_true', decide_eq_false_iff_not, decide_eq_true_eq]
    constructor
    · intro q
      exact ⟨by omega, fun p hp => Decidable.byContradiction fun z => q ⟨p, hp, z⟩⟩
    · rintro q ⟨p, hp, z⟩
      exact z (q.2 p hp)
  · rw [decide_eq_false (fun q : Fine F => by have := q.1; omega)]
    exact ev_neg h (Ev.now _)
theorem hasp_is (s : List UInt8) (hs : s.length ≤ 1000000000) : strings_HasPrefix.f (S s) (⟨#[32]⟩ : ByteArray) = some (decide (s.head? = some 32)) := by
  unfold strings_HasPrefix.f stringslite_HasPrefix.f
  have e1 : ((⟨#[32]⟩ : ByteArray).size : Int) = 1 := rfl
  rw [e1, size_S]
  cases s with
  | nil => rfl
  | cons c r =>
    have h1 : ((c :: r).length : Int) ≥ 1 := by simp only [List.length_cons]; omega
    rw [if_pos h1, if_pos (by omega), if_pos h1, Option.bind_some]
    refine congrArg some ?_
    have e2 : (S (c :: r)).extract 0 ((1 : Int)).toNat = S [c] := by rw [extract_S]; rfl
    have e3 : (⟨#[32]⟩ : ByteArray).toList = [32] := toList_S [32]
    rw [e2, toList_S, e3, Bool.eq_iff_iff, beq_iff_eq, decide_eq_true_eq]
    simp
/-- Lines that are one field's are read as one. -/
theorem iread_one {h : List UInt8} {t : List (List UInt8)} {n rest : List UInt8} (hh : h.head? ≠ some 32) (ht : ∀ x ∈ t, x.head? = some 32) (hn : t.length ≤ 1000) (hs : (h :: t).flatten.length ≤ 100000)
    (hf : (h :: t).flatten = n ++ 58 :: rest) (hc : ∀ x ∈ n, x ≠ 58) :
    Ev (fun k => impl_ReadFields.f k (SL (h :: t))) (if fieldOK n (Lib.trimB rest 32) then (SF [(n, Lib.trimB rest 32)], true) else ([], false)) := by
  have hlen : ∀ x ∈ h :: t, x.length ≤ 100000 := by
    intro x hx
    have := (List.sublist_flatten_of_mem hx).length_le
    omega
  have hnr : n.length + rest.length + 1 ≤ 100000 := by
    rw [hf] at hs
    simp at hs
    omega
  have last : Ev (fun k => impl_ReadFields.l1 k (([] : List S36)) (SL [(h :: t).flatten]) ((SL [(h :: t).flatten]).length : Int) 0) (if fieldOK n (Lib.trimB rest 32) then (SF [(n, Lib.trimB rest 32)], true) else ([], false)) := by
    have ec : strings_Cut.f (S (h :: t).flatten) (⟨#[58]⟩ : ByteArray) = some (S n, S rest, true) := by
      unfold strings_Cut.f
      rw [if_pos (by rw [size_S]; omega), data_S, hf]
      have e58' : (⟨#[58]⟩ : ByteArray).data.toList = [58] := rfl
      rw [e58', cut_at 58 n rest hc]
      rfl
    have r0 : rdOf ByteArray.empty (SL [(h :: t).flatten]) (0 : Int) = S (h :: t).flatten := rfl
    have w : wrap64 ((0 : Int) + 1) = 1 := by rw [w64 (by omega) (by omega)]; rfl
    refine Ev.step (fun k => by rw [impl_ReadFields.l1]) ?_
    simp only [SL_length, List.length_cons, List.length_nil, r0, ec, Option.bind_some, itrim_is rest (by omega), w]
    refine ev_pos (by decide) (ev_pos (by decide) (ev_pos (by decide) (ev_pos (by decide) (ev_pos (by decide) ?_))))
    refine Ev.step (fun k => by rw [impl_ReadFields.l1]) ?_
    refine ev_neg (by decide) ?_
    have tl : (Lib.trimB rest 32).length ≤ rest.length := by
      have e : Lib.trimB rest 32 = trimL (trimR rest) := rfl
      rw [e]
      exact Nat.le_trans (trimL_len _) (trimR_len _)
    have hv := ivalids_ev [(n, Lib.trimB rest 32)] ⟨by simp, fun p hp => by
      simp only [List.mem_singleton] at hp
      subst hp
      exact ⟨by show n.length ≤ _; omega, by show (Lib.trimB rest 32).length ≤ _; omega⟩⟩
    have e1 : ([] : List S36) ++ [(⟨S n, S (Lib.trimB rest 32)⟩ : S36)] = SF [(n, Lib.trimB rest 32)] := rfl
    rw [e1]
    by_cases q : fieldOK n (Lib.trimB rest 32)
    · have hF : Fine [(n, Lib.trimB rest 32)] := ⟨by simp, fun p hp => by
        simp only [List.mem_singleton] at hp
        subst hp
        exact q⟩
      rw [decide_eq_true hF] at hv
      rw [if_pos q]
      exact Ev.bind hv (ev_pos rfl (Ev.now _))
    · have hF : ¬ Fine [(n, Lib.trimB rest 32)] := fun z => q (z.2 (n, Lib.trimB rest 32) (by simp))
      rw [decide_eq_false hF] at hv
      rw [if_neg q]
      exact Ev.bind hv (ev_neg (by decide) (Ev.now _))
  have loop : ∀ (e i : Nat), i + e = (h :: t).length → 1 ≤ i → Ev (fun k => impl_ReadFields.l0 k (SL [((h :: t).take i).flatten]) (SL (h :: t)) ((h :: t).length : Int) (i : Int)) (if fieldOK n (Lib.trimB rest 32) then (SF [(n, Lib.trimB rest 32)], true) else ([], false)) := by
    intro e
    induction e with
    | zero =>
      intro i hi h1
      rw [List.take_of_length_le (by omega)]
      refine Ev.step (fun k => by rw [impl_ReadFields.l0]) ?_
      exact ev_neg (by omega) last
    | succ e ih =>
      intro i hi h1
      have hlt : i < (h :: t).length := by omega
      have hl2 : (h :: t).length ≤ 1001 := by simp; omega
      have w : wrap64 ((i : Int) + 1) = ((i + 1 : Nat) : Int) := by rw [w64 (by omega) (by omega)]; omega
      have w2 : wrap64 (((1 : Nat) : Int) - 1) = 0 := by rw [w64 (by omega) (by omega)]; rfl
      have hx := hlen (h :: t)[i] (List.getElem_mem hlt)
      have hhd : (h :: t)[i].head? = some 32 := by
        have : (h :: t)[i] ∈ t := by
          obtain ⟨j, rfl⟩ : ∃ j, i = j + 1 := ⟨i - 1, by omega⟩
          rw [List.getElem_cons_succ]
          exact List.getElem_mem _
        exact ht _ this
      have hp := hasp_is (h :: t)[i] (by omega)
      rw [decide_eq_true hhd] at hp
      have r0 : rdOf ByteArray.empty (SL [((h :: t).take i).flatten]) (0 : Int) = S ((h :: t).take i).flatten := rfl
      have hfl : ((h :: t).take (i + 1)).flatten = ((h :: t).take i).flatten ++ (h :: t)[i] := by rw [List.take_succ_eq_append_getElem hlt, List.flatten_append]; simp
      have hle : ((h :: t).take (i + 1)).flatten.length ≤ (h :: t).flatten.length := by
        have : (h :: t).flatten = ((h :: t).take (i + 1)).flatten ++ ((h :: t).drop (i + 1)).flatten := by rw [← List.flatten_append, List.take_append_drop]
        rw [this, List.length_append]
        omega
      rw [hfl, List.length_append] at hle
      have eset : (SL [((h :: t).take i).flatten]).set (0 : Int).toNat (S ((h :: t).take i).flatten ++ S (h :: t)[i]) = SL [((h :: t).take (i + 1)).flatten] := by
        rw [append_S, hfl]
        rfl
      have el : (SL [((h :: t).take i).flatten]).length = 1 := rfl
      refine Ev.step (fun k => by rw [impl_ReadFields.l0]) ?_
      simp only [SL_length, rdOf_SL _ (h :: t) i hlt, hp, Option.bind_some, el, w2, r0, w, eset]
      clear w w2
      simp only [size_S]
      refine ev_pos (by omega) (ev_pos (by omega) (ev_pos (by omega) (ev_pos trivial (ev_neg (by decide) (ev_pos (by decide) (ev_pos (by decide) (ev_pos (by omega) (ih (i + 1) (by omega) (by omega)))))))))
  simp only [impl_ReadFields.f, SL_length]
  have h0 := hlen h (by simp)
  have hp := hasp_is h (by omega)
  rw [decide_eq_false hh] at hp
  have hl2 : (h :: t).length ≤ 1001 := by simp; omega
  have hpos : (0 : Int) < ((h :: t).length : Int) := by simp only [List.length_cons]; omega
  have r0 : rdOf ByteArray.empty (SL (h :: t)) (0 : Int) = S h := rfl
  have w : wrap64 ((0 : Int) + 1) = ((1 : Nat) : Int) := by rw [w64 (by omega) (by omega)]; rfl
  have e1 : ([] : List ByteArray) ++ [S h] = SL [((h :: t).take 1).flatten] := by
    have : ((h :: t).take 1).flatten = h := by simp
    rw [this]
    rfl
  refine Ev.step (fun k => by rw [impl_ReadFields.l0]) ?_
  simp only [SL_length, r0, hp, Option.bind_some, w, e1]
  clear w
  exact ev_pos hpos (ev_pos (by decide) (ev_pos hpos (ev_neg (by decide) (ev_pos (by decide) (loop t.length 1 (by simp; omega) (by omega))))))

theorem texts_self (l : List ByteArray) (hl : l.length ≤ 1000000) : Ev (fun k => laws_mwTexts.f k l l) true := by
  simp only [laws_mwTexts.f]
  refine ev_pos trivial ?_
  have : ∀ (e i : Nat), i + e = l.length → Ev (fun k => laws_mwTexts.l0 k l l (i : Int)) true := by
    intro e
    induction e with
    | zero =>
      intro i hi
      refine Ev.step (fun k => by rw [laws_mwTexts.l0]) ?_
      exact ev_neg (by omega) (Ev.now _)
    | succ e ih =>
      intro i hi
      have w : wrap64 ((i : Int) + 1) = ((i + 1 : Nat) : Int) := by rw [w64 (by omega) (by omega)]; omega
      refine Ev.step (fun k => by rw [laws_mwTexts.l0]) ?_
      refine ev_pos (by omega) (ev_pos (by omega) (ev_pos (by omega) (ev_pos rfl ?_)))
      rw [w]
      exact ih (i + 1) (by omega)
  exact this l.length 0 (by omega)

theorem ff_lines {n v : List UInt8} {h : List UInt8} {t : List (List UInt8)} (hh : h ≠ [] ∧ h.head? ≠ some 32) (ht : ∀ x ∈ t, x.head? = some 32) (hn : t.length ≤ 1000) :
    ∀ (e i : Nat), i + e = (h :: t).length → Ev (fun k => laws_FnFoldField.l0 k (SL (h :: t)) (SF [(n, v)]) true (i : Int) (S n) (S v)) true := by
  have r0 : rd_T36 (SF [(n, v)]) 0 = ⟨S n, S v⟩ := rfl
  intro e
  induction e with
  | zero =>
    intro i hi
    refine Ev.step (fun k => by rw [laws_FnFoldField.l0]) ?_
    rw [SL_length, r0]
    refine ev_neg (by omega) (ev_pos rfl (ev_pos rfl (ev_pos (show (0 : Int) < 1 by decide) (ev_is ?_))))
    simp
  | succ e ih =>
    intro i hi
    have hlt : i < (h :: t).length := by omega
    have hl2 : (h :: t).length ≤ 1001 := by simp; omega
    have w : wrap64 ((i : Int) + 1) = ((i + 1 : Nat) : Int) := by rw [w64 (by omega) (by omega)]; omega
    refine Ev.step (fun k => by rw [laws_FnFoldField.l0]) ?_
    simp only [SL_length, rdOf_SL _ (h :: t) i hlt, size_S, w]
    clear w
    have b0 : bt (S (h :: t)[i]) 0 = (((h :: t)[i].getD 0 0).toNat : Int) := by rw [bt_S]; rfl
    rw [b0]
    by_cases hz : i = 0
    · subst hz
      have hp : 0 < h.length := List.length_pos_iff.2 hh.1
      have hb : (((h.getD 0 0).toNat : Int) == 32) = false := by
        rw [beq_eq_false_iff_ne]
        intro q
        apply hh.2
        have q2 := (u32 _).1 q
        cases h with
        | nil => simp at hp
        | cons c r => exact congrArg some q2
      rw [List.getElem_cons_zero, hb]
      exact ev_pos (by omega) (ev_pos (by omega) (ev_pos (by omega) (ev_neg (by decide) (ih (0 + 1) (by omega)))))
    · have hhd : (h :: t)[i].head? = some 32 := by
        have : (h :: t)[i] ∈ t := by
          obtain ⟨j, rfl⟩ : ∃ j, i = j + 1 := ⟨i - 1, by omega⟩
          rw [List.getElem_cons_succ]
          exact List.getElem_mem _
        exact ht _ this
      generalize (h :: t)[i] = x at hhd ⊢
      cases x with
      | nil => cases hhd
      | cons c r =>
        obtain rfl : c = 32 := Option.some.inj hhd
        have hb : (((((32 : UInt8) :: r).getD 0 0).toNat : Int) == 32) = true := rfl
        rw [hb, decide_eq_true (show (i : Int) > 0 by omega)]
        exact ev_pos (by omega) (ev_pos (by omega) (ev_pos (by simp only [List.length_cons]; omega) (ev_neg (by decide) (ih (i + 1) (by omega)))))

theorem FnFoldField : laws_FnFoldField.Pure := by
  intro l0 _ _ hw
  refine Ev.rounds ?_
  simp only [laws_FnFoldField.f]
  by_cases hl : (l0.length : Int) > 1048576
  · exact ev_pos hl (Ev.now _)
  refine ev_neg hl ?_
  obtain ⟨n, v, hn, hv, hd⟩ := drawfold_ex l0 (bytes_wf hw)
  obtain ⟨n, rfl⟩ := ex_S n
  obtain ⟨v, rfl⟩ := ex_S v
  rw [size_S] at hn hv
  have hi := iFold_ev n v (by omega) (by omega)
  have hs := sFold_ev n v (by omega) (by omega)
  have hx := ivalid_ev n v (by omega) (by omega)
  by_cases H : fieldOK n v
  · rw [if_pos H] at hi hs
    rw [decide_eq_true H] at hx
    have hL : (foldL n v).length ≤ 201 := foldF_len _ _ _
    obtain ⟨a, t, he, hha, hht⟩ := foldF_heads 200 (lineF n v) (n.length + 3) (by omega)
    have hfl : (foldL n v).flatten = lineF n v := foldF_flat _ _ _
    have he2 : foldL n v = a :: t := he
    rw [he2] at hi hs hL hfl
    obtain ⟨c, hc, hc2⟩ := lineF_head (v := v) H.1
    have ha : a ≠ [] ∧ a.head? ≠ some 32 := by
      rw [hha, hc]
      refine ⟨?_, fun q => hc2 (Option.some.inj q)⟩
      rintro rfl
      rw [hc] at hha
      cases hha
    have hll := lineF_len n v
    have hq1 := H.1.2.1
    have hq2 := H.2.2.1
    have hr := iread_one (h := a) (t := t) (n := n) (rest := if v = [] then [] else [32] ++ v) ha.2 hht (by simp at hL; omega) (by rw [hfl]; omega) (by rw [hfl]; unfold lineF; simp) (fun x hx => (namB_ne (H.1.2.2.2 x hx)).1)
    have ht : Lib.trimB (if v = [] then [] else [32] ++ v) 32 = v := by
      by_cases hv0 : v = []
      · rw [if_pos hv0, hv0]
        rfl
      · rw [if_neg hv0]
        have := trimB_pad v 1 0 H.2.2.2
        simpa [List.replicate] using this
    rw [ht, if_pos H] at hr
    have e1 : decide (((SL (a :: t)).length : Int) > 0) = true := decide_eq_true (by rw [SL_length]; simp only [List.length_cons]; omega)
    have e2 : (((SL (a :: t)).length : Int) == 0) = false := by
      rw [beq_eq_false_iff_ne, SL_length]
      simp only [List.length_cons]
      omega
    refine Ev.bind hd (Ev.bind hi (Ev.bind hs (Ev.bind (texts_self (SL (a :: t)) (by rw [SL_length]; omega)) (ev_pos rfl (Ev.bind hx ?_)))))
    rw [e1, e2]
    refine ev_neg (by decide) ?_
    refine Ev.step (fun k => by rw [laws_FnFoldField.j0]) ?_
    exact ev_neg (by decide) (Ev.bind hr (ff_lines ha hht (by simp at hL; omega) (a :: t).length 0 (by omega)))
  · rw [if_neg H] at hi hs
    rw [decide_eq_false H] at hx
    have hn0 : SL ([] : List (List UInt8)) = [] := rfl
    rw [hn0] at hi hs
    refine Ev.bind hd (Ev.bind hi (Ev.bind hs (Ev.bind (texts_self [] (by simp)) (ev_pos rfl (Ev.bind hx (ev_neg (by decide) ?_))))))
    refine Ev.step (fun k => by rw [laws_FnFoldField.j0]) ?_
    exact ev_pos rfl (Ev.bind hs (Ev.bind (texts_self [] (by simp)) (ev_pos rfl (Ev.bind hx (ev_is (by simp))))))

end Go.Proofs.YthmdblcgiljhpaaDoor.PLFnFoldField
namespace Go.Proofs.YthmdblcgiljhpaaDoor.Pure
open Go.Proofs.YthmdblcgiljhpaaDoor.PFnFoldField
theorem FnFoldField : laws_FnFoldField.Pure := PLFnFoldField.FnFoldField
end Go.Proofs.YthmdblcgiljhpaaDoor.Pure
