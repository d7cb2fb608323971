/- The law FnNeedsSpace holds of the printed functions: spaces need code. No conditions. -/
import Derived.Test.YtkebacobfjanjaaDoorPFnNeedsSpacex2
import Derived.Test.YtkebacobfjanjaaDoorMBase
import Derived.Test.YtkebacobfjanjaaDoorMStr
import Derived.Test.YtkebacobfjanjaaDoorMQuot
import Derived.Test.YtkebacobfjanjaaDoorMCode
import Derived.Test.YtkebacobfjanjaaDoorMDecQ
import Derived.Test.YtkebacobfjanjaaDoorMRead
import Derived.Test.YtkebacobfjanjaaDoorMParts
import Derived.Test.YtkebacobfjanjaaDoorMName
import Derived.Test.YtkebacobfjanjaaDoorMEnc
namespace Go.Proofs.YtkebacobfjanjaaDoor.PLFnNeedsSpace
open Go.RowKit Go.Proofs.YtkebacobfjanjaaDoor.PFnNeedsSpace Go.Proofs.YtkebacobfjanjaaDoorW.PrintWords Go.Proofs.YtkebacobfjanjaaDoorW.PrintLast Go.Proofs.YtkebacobfjanjaaDoorW.PrintMore Go.Proofs.YtkebacobfjanjaaDoor.M

theorem open_ex (l : List Int) (h : Bytes l) : ∃ b, spec_l13Open.f l = some (b, 0) ∧ Bytes b ∧ b.length ≤ 2000 := by
  unfold spec_l13Open.f
  by_cases e : (l.length : Int) > 2000
  · rw [if_pos e, if_pos (by omega)]
    exact ⟨_, rfl, bytes_take h _, by rw [List.length_take]; omega⟩
  · rw [if_neg e]
    exact ⟨_, rfl, h, by omega⟩

theorem pick_ev (b : List Int) (p n : Int) (hb : Bytes b) (hl : b.length ≤ 2000) (hp : 0 ≤ p) (hp1 : p ≤ 1000000) (hn : 1 ≤ n) :
    ∃ r, 0 ≤ r ∧ r < n ∧ Ev (fun k => spec_l13Rd_pick.f k b p n) (r, p + 1) := by
  have w1 : wrap64 (p + 1) = p + 1 := w64 (by omega) (by omega)
  have w2 : wrap64 (p + 1 - 1) = p := by
    rw [w64 (by omega) (by omega)]
    omega
  by_cases e0 : (b.length : Int) = 0
  · refine ⟨0, by omega, by omega, ?_⟩
    simp only [spec_l13Rd_pick.f]
    refine ev_neg (by omega) ?_
    rw [w1]
    refine Ev.step (fun k => by rw [spec_l13Rd_pick.j0]) ?_
    refine ev_pos (by simp [e0]) ?_
    exact Ev.now _
  · have f0 : ((b.length : Int) == 0) = false := beq_eq_false_iff_ne.mpr e0
    by_cases e1 : p < (b.length : Int)
    · obtain ⟨r0, r1⟩ := rd_bytes hb p
      have w3 : wrap64 (rd b p) = rd b p := w64 (by omega) (by omega)
      refine ⟨rd b p % n, Int.emod_nonneg _ (by omega), Int.emod_lt_of_pos _ (by omega), ?_⟩
      simp only [spec_l13Rd_pick.f]
      refine ev_neg (by omega) ?_
      rw [w1, f0]
      refine Ev.step (fun k => by rw [spec_l13Rd_pick.j0]) ?_
      simp only [w2, w3]
      refine ev_neg (by simp) (ev_pos e1 (ev_pos hp (ev_neg (by omega) ?_)))
      rw [Int.tmod_eq_emod_of_nonneg r0]
      exact Ev.now _
    · have hL : (0 : Int) < (b.length : Int) := by omega
      have t1 : Int.tmod p (b.length : Int) = p % (b.length : Int) := Int.tmod_eq_emod_of_nonneg hp
      have w4 : wrap64 (p * 7) = p * 7 := w64 (by omega) (by omega)
      have w5 : wrap64 (p * 7 + 3) = p * 7 + 3 := w64 (by omega) (by omega)
      have t2 : Int.tmod (p * 7 + 3) (b.length : Int) = (p * 7 + 3) % (b.length : Int) := Int.tmod_eq_emod_of_nonneg (by omega)
      have a0 := Int.emod_nonneg p (b := (b.length : Int)) (by omega)
      have a1 := Int.emod_lt_of_pos p hL
      have c0 := Int.emod_nonneg (p * 7 + 3) (b := (b.length : Int)) (by omega)
      have c1 := Int.emod_lt_of_pos (p * 7 + 3) hL
      obtain ⟨x0, x1⟩ := rd_bytes hb (p % (b.length : Int))
      obtain ⟨y0, y1⟩ := rd_bytes hb ((p * 7 + 3) % (b.length : Int))
      have d1 : Int.tdiv p (b.length : Int) = p / (b.length : Int) := Int.tdiv_eq_ediv_of_nonneg hp
      have d2 : 0 ≤ p / (b.length : Int) := Int.ediv_nonneg hp (by omega)
      have d3 : p / (b.length : Int) ≤ p := Int.ediv_le_self _ hp
      have ew1 : wrap64 (rd b (p % (b.length : Int))) = rd b (p % (b.length : Int)) := w64 (by omega) (by omega)
      have ew2 : wrap64 (rd b ((p * 7 + 3) % (b.length : Int))) = rd b ((p * 7 + 3) % (b.length : Int)) := w64 (by omega) (by omega)
      have ew3 : wrap64 (p / (b.length : Int)) = p / (b.length : Int) := w64 (by omega) (by omega)
      have hz : ∀ x y q : Int, 0 ≤ x → x < 256 → 0 ≤ y → y < 256 → 0 ≤ q → q ≤ p →
          wrap64 ((wrap64 ((wrap64 ((wrap64 (x * 131)) + (wrap64 (y * 1117)))) + (wrap64 (p * 29)))) + (wrap64 (q * 53))) = x * 131 + y * 1117 + p * 29 + q * 53 := by
        intro x y q hx hx1 hy hy1 hq hq1
        rw [w64 (n := x * 131) (by omega) (by omega), w64 (n := y * 1117) (by omega) (by omega), w64 (n := p * 29) (by omega) (by omega), w64 (n := q * 53) (by omega) (by omega),
          w64 (n := x * 131 + y * 1117) (by omega) (by omega), w64 (n := x * 131 + y * 1117 + p * 29) (by omega) (by omega), w64 (by omega) (by omega)]
      have hz' := hz _ _ _ x0 x1 y0 y1 d2 d3
      obtain ⟨S, hS⟩ : ∃ S, S = rd b (p % (b.length : Int)) * 131 + rd b ((p * 7 + 3) % (b.length : Int)) * 1117 + p * 29 + p / (b.length : Int) * 53 := ⟨_, rfl⟩
      rw [← hS] at hz'
      have s0 : 0 ≤ S ∧ S < 1000000000 := by omega
      have s1 : Int.tdiv S 64 = S / 64 := Int.tdiv_eq_ediv_of_nonneg s0.1
      have s2 : wrap64 (S / 64) = S / 64 := w64 (by omega) (by omega)
      have hx := xor_nonneg (x := S) (y := S / 64) (by omega) (by omega) (by omega) (by omega)
      refine ⟨bits .xor .i64 S (S / 64) % n, Int.emod_nonneg _ (by omega), Int.emod_lt_of_pos _ (by omega), ?_⟩
      simp only [spec_l13Rd_pick.f]
      refine ev_neg (by omega) ?_
      rw [w1, f0]
      refine Ev.step (fun k => by rw [spec_l13Rd_pick.j0]) ?_
      simp only [w2, t1, w4, w5, t2, d1, ew1, ew2, ew3, hz', s1, s2]
      refine ev_neg (by simp) (ev_neg e1 (ev_neg e0 (ev_pos a0 (ev_pos a1 (ev_pos c0 (ev_pos c1 (ev_neg (by omega) ?_)))))))
      rw [Int.tmod_eq_emod_of_nonneg hx]
      exact Ev.now _

theorem num_ev (b : List Int) (p : Int) (l : List Int) (hb : Bytes b) (hl : b.length ≤ 2000) (hp : 0 ≤ p) (hp1 : p ≤ 1000000) (hn : 1 ≤ l.length) :
    ∃ r, 0 ≤ r ∧ r < (l.length : Int) ∧ Ev (fun k => spec_l13Rd_num.f k b p l) (rd l r, p + 1) := by
  obtain ⟨r, h0, h1, h⟩ := pick_ev b p (l.length : Int) hb hl hp hp1 (by omega)
  refine ⟨r, h0, h1, ?_⟩
  simp only [spec_l13Rd_num.f]
  refine Ev.bind h ?_
  exact ev_pos h0 (ev_pos h1 (Ev.now _))

theorem of_ev (b : List Int) (p : Int) (l : List ByteArray) (hb : Bytes b) (hl : b.length ≤ 2000) (hp : 0 ≤ p) (hp1 : p ≤ 1000000) (hn : 1 ≤ l.length) :
    ∃ x ∈ l, Ev (fun k => spec_l13Rd_of.f k b p l) (x, p + 1) := by
  obtain ⟨r, h0, h1, h⟩ := pick_ev b p (l.length : Int) hb hl hp hp1 (by omega)
  have hr : r.toNat < l.length := by omega
  refine ⟨l[r.toNat], List.getElem_mem hr, ?_⟩
  have e : rdOf ByteArray.empty l r = l[r.toNat] := by
    unfold rdOf
    rw [List.getD_eq_getElem?_getD, List.getElem?_eq_getElem hr]
    rfl
  simp only [spec_l13Rd_of.f]
  refine Ev.bind h ?_
  refine ev_pos h0 (ev_pos h1 ?_)
  rw [e]
  exact Ev.now _

theorem l6loop_ex (b : List Int) (hb : Bytes b) (hl : b.length ≤ 2000) : ∀ (n : Nat) (s : ByteArray) (p : Int), n ≤ 8 → 0 ≤ p → p + n ≤ 1000 → s.size + 50 * n ≤ 1000 →
    ∃ t q, t.size ≤ 1000 ∧ 0 ≤ q ∧ q ≤ 1000 ∧ Ev (fun k => spec_l6Draw.l0 k s (n : Int) b p) (t, q) := by
  intro n
  induction n with
  | zero =>
    intro s p h8 hp hp1 hs
    refine ⟨s, p, by omega, by omega, by omega, ?_⟩
    refine Ev.step (fun k => by rw [spec_l6Draw.l0]) ?_
    exact ev_neg (by omega) (Ev.now _)
  | succ n ih =>
    intro s p h8 hp hp1 hs
    obtain ⟨x, hx, h⟩ := of_ev b p ([(⟨#[90, 111, 195, 171]⟩ : ByteArray), (⟨#[32]⟩ : ByteArray), (⟨#[65, 110, 110, 32, 76, 101, 101]⟩ : ByteArray), (⟨#[61, 63]⟩ : ByteArray), (⟨#[97]⟩ : ByteArray), (⟨#[95]⟩ : ByteArray), (⟨#[97, 32, 108, 111, 110, 103, 101, 114, 32, 110, 97, 109, 101, 32, 111, 102, 32, 109, 97, 110, 121, 32, 119, 111, 114, 100, 115]⟩ : ByteArray), (⟨#[255]⟩ : ByteArray), (⟨#[61, 63, 117, 116, 102, 45, 56, 63, 113, 63, 120, 63, 61]⟩ : ByteArray), (⟨#[32, 32]⟩ : ByteArray)] : List ByteArray) hb hl hp (by omega) (by simp)
    have hxs : x.size ≤ 50 := by
      simp only [List.mem_cons, List.not_mem_nil, or_false] at hx
      rcases hx with rfl | rfl | rfl | rfl | rfl | rfl | rfl | rfl | rfl | rfl <;> decide
    obtain ⟨t, q, ht, hq0, hq1, h2⟩ := ih (s ++ x) (p + 1) (by omega) (by omega) (by omega) (by rw [ByteArray.size_append]; omega)
    refine ⟨t, q, ht, hq0, hq1, ?_⟩
    have w : wrap64 (((n + 1 : Nat) : Int) - 1) = (n : Int) := by rw [w64 (by omega) (by omega)]; omega
    refine Ev.step (fun k => by rw [spec_l6Draw.l0]) ?_
    refine ev_pos (by omega) ?_
    refine Ev.bind h ?_
    refine ev_pos (show s.size + x.size ≤ 9223372036854775807 by omega) ?_
    rw [w]
    exact h2

theorem l6draw_ex (b : List Int) (p : Int) (hb : Bytes b) (hl : b.length ≤ 2000) (hp : 0 ≤ p) (hp1 : p ≤ 100) :
    ∃ t q, t.size ≤ 1000 ∧ 0 ≤ q ∧ q ≤ 1000 ∧ Ev (fun k => spec_l6Draw.f k b p) (t, q) := by
  obtain ⟨r, h0, h1, h⟩ := num_ev b p [2, 1, 3, 0, 6] hb hl hp (by omega) (by simp)
  simp only [List.length_cons, List.length_nil] at h1
  have hr : ∃ n : Nat, n ≤ 8 ∧ rd [2, 1, 3, 0, 6] r = (n : Int) := by
    have : r = 0 ∨ r = 1 ∨ r = 2 ∨ r = 3 ∨ r = 4 := by omega
    rcases this with rfl | rfl | rfl | rfl | rfl
    · exact ⟨2, by omega, rfl⟩
    · exact ⟨1, by omega, rfl⟩
    · exact ⟨3, by omega, rfl⟩
    · exact ⟨0, by omega, rfl⟩
    · exact ⟨6, by omega, rfl⟩
  obtain ⟨n, hn, e⟩ := hr
  rw [e] at h
  obtain ⟨t, q, ht, hq0, hq1, h2⟩ := l6loop_ex b hb hl n (⟨#[]⟩ : ByteArray) (p + 1) hn (by omega) (by omega) (by show 0 + 50 * n ≤ 1000; omega)
  refine ⟨t, q, ht, hq0, hq1, ?_⟩
  simp only [spec_l6Draw.f]
  refine Ev.bind h ?_
  exact h2

theorem drawneeds_ex (l : List Int) (h : Bytes l) : ∃ t, t.size ≤ 1000 ∧ Ev (fun k => spec_DrawNeedsCode.f k l) t := by
  obtain ⟨b, hb, h1, h2⟩ := open_ex l h
  obtain ⟨t, q, ht, hq0, hq1, h3⟩ := l6draw_ex b 0 h1 h2 (by omega) (by omega)
  refine ⟨t, ht, ?_⟩
  simp only [spec_DrawNeedsCode.f, hb, Option.bind_some]
  exact Ev.bind h3 (Ev.now _)

theorem spec_text (s : List UInt8) (hl : s.length ≤ 1000000000000) : Ev (fun k => spec_TextValid.f k (S s)) (decide (textOK s)) := by
  simp only [spec_TextValid.f]
  have loop : ∀ (e i : Nat), i + e = s.length → i ≤ 201 → (∀ j (h : j < s.length), j < i → 32 ≤ s[j].toNat ∧ s[j].toNat ≤ 126) → Ev (fun k => spec_TextValid.l0 k (S s) (i : Int)) (decide (textOK s)) := by
    intro e
    induction e with
    | zero =>
      intro i hi h2 hp
      have e1 : decide ((s.length : Int) ≤ 200) = decide (textOK s) := by
        rw [decide_eq_decide]
        constructor
        · intro q
          refine ⟨by omega, fun c hc => ?_⟩
          obtain ⟨j, hj, rfl⟩ := List.mem_iff_getElem.1 hc
          exact hp j hj (by omega)
        · intro q
          have := q.1
          omega
      refine Ev.step (fun k => by rw [spec_TextValid.l0]) ?_
      rw [size_S]
      refine ev_neg (by omega) ?_
      refine Ev.step (fun k => by rw [spec_TextValid.j1]) ?_
      rw [size_S, e1]
      exact ev_neg (by decide) (Ev.now _)
    | succ e ih =>
      intro i hi h2 hp
      have hlt : i < s.length := by omega
      have hg : s.getD i 0 = s[i] := by rw [List.getD_eq_getElem?_getD, List.getElem?_eq_getElem hlt]; rfl
      have w : wrap64 ((i : Int) + 1) = ((i + 1 : Nat) : Int) := by rw [w64 (by omega) (by omega)]; omega
      refine Ev.step (fun k => by rw [spec_TextValid.l0]) ?_
      rw [size_S]
      refine ev_pos (by omega) ?_
      by_cases h200 : i ≤ 200
      · rw [decide_eq_true (show (i : Int) ≤ 200 by omega)]
        refine Ev.step (fun k => by rw [spec_TextValid.j1]) ?_
        simp only [size_S, bt_S, Int.toNat_natCast, hg, w]
        refine ev_pos trivial (ev_pos (by omega) (ev_pos (by omega) ?_))
        by_cases hc : 32 ≤ s[i].toNat ∧ s[i].toNat ≤ 126
        · refine ev_neg (by omega) (ev_neg (by omega) (ih (i + 1) (by omega) (by omega) ?_))
          intro j hj hji
          by_cases q : j = i
          · subst q
            exact hc
          · exact hp j hj (by omega)
        · have e1 : decide (textOK s) = false := decide_eq_false (fun q => hc (q.2 s[i] (List.getElem_mem hlt)))
          rw [e1]
          by_cases h3 : (s[i].toNat : Int) < 32
          · exact ev_pos h3 (Ev.now _)
          · exact ev_neg h3 (ev_pos (by omega) (Ev.now _))
      · rw [decide_eq_false (show ¬ (i : Int) ≤ 200 by omega)]
        have e1 : decide (textOK s) = false := decide_eq_false (fun q => by have := q.1; omega)
        refine Ev.step (fun k => by rw [spec_TextValid.j1]) ?_
        rw [size_S, e1]
        refine ev_neg (by decide) (ev_is ?_)
        rw [decide_eq_false (by omega)]
  exact loop s.length 0 (by omega) (by omega) (fun j _ h => by omega)

theorem spec_trimR (n : Nat) : ∀ s : List UInt8, s.length ≤ n → s.length ≤ 1000000000000 → Ev (fun k => spec_l2Trim.l1 k (S s)) (S (trimR s)) := by
  induction n with
  | zero =>
    intro s h _
    have : s = [] := List.eq_nil_of_length_eq_zero (by omega)
    subst this
    refine Ev.step (fun k => by rw [spec_l2Trim.l1]) ?_
    exact ev_neg (by decide) (Ev.now _)
  | succ n ih =>
    intro s h hl
    rcases List.eq_nil_or_concat s with rfl | ⟨t, c, rfl⟩
    · refine Ev.step (fun k => by rw [spec_l2Trim.l1]) ?_
      exact ev_neg (by decide) (Ev.now _)
    · rw [List.concat_eq_append] at h hl ⊢
      rw [List.length_append] at h hl
      simp only [List.length_cons, List.length_nil] at h hl
      have w : wrap64 (((t.length + 1 : Nat) : Int) - 1) = (t.length : Int) := by rw [w64 (by omega) (by omega)]; omega
      have hg : (t ++ [c]).getD t.length 0 = c := by simp
      have hx : ((t ++ [c]).drop 0).take (t.length - 0) = t := by simp
      refine Ev.step (fun k => by rw [spec_l2Trim.l1]) ?_
      simp only [size_S, List.length_append, List.length_cons, List.length_nil, Nat.zero_add, w, bt_S, Int.toNat_natCast, hg, extract_S, hx]
      rw [trimR_snoc]
      refine ev_pos (by omega) (ev_pos (by omega) (ev_pos (by omega) ?_))
      by_cases hc : (c.toNat : Int) = 32
      · rw [if_pos (show c = 32 from (u8_is (n := 32) (by omega)).1 hc)]
        exact ev_pos hc (ev_pos (by omega) (ih t (by omega) (by omega)))
      · rw [if_neg (fun q => hc (by rw [q]; rfl))]
        exact ev_neg hc (Ev.now _)
theorem spec_trim (s : List UInt8) (hl : s.length ≤ 1000000000000) : Ev (fun k => spec_l2Trim.f k (S s)) (S (trim s)) := by
  simp only [spec_l2Trim.f]
  have j : ∀ t : List UInt8, t.length ≤ 1000000000000 → Ev (fun k => spec_l2Trim.j1 k (S t)) (S (trimR t)) := by
    intro t ht
    refine Ev.step (fun k => by rw [spec_l2Trim.j1]) ?_
    exact spec_trimR t.length t (Nat.le_refl _) ht
  have loop : ∀ (n : Nat) (s : List UInt8), s.length ≤ n → s.length ≤ 1000000000000 → Ev (fun k => spec_l2Trim.l0 k (S s)) (S (trim s)) := by
    intro n
    induction n with
    | zero =>
      intro s h h2
      have : s = [] := List.eq_nil_of_length_eq_zero (by omega)
      subst this
      refine Ev.step (fun k => by rw [spec_l2Trim.l0]) ?_
      exact ev_neg (by decide) (j [] h2)
    | succ n ih =>
      intro s h h2
      cases s with
      | nil =>
        refine Ev.step (fun k => by rw [spec_l2Trim.l0]) ?_
        exact ev_neg (by decide) (j [] h2)
      | cons c r =>
        simp only [List.length_cons] at h h2
        have hg : bt (S (c :: r)) 0 = (c.toNat : Int) := by rw [bt_S]; rfl
        have hx : ((c :: r).drop 1).take (r.length + 1 - 1) = r := by simp
        refine Ev.step (fun k => by rw [spec_l2Trim.l0]) ?_
        simp only [size_S, List.length_cons, hg, extract_S, hx]
        refine ev_pos (by omega) (ev_pos (by omega) ?_)
        have hd : trim (c :: r) = if c = 32 then trim r else trimR (c :: r) := by
          unfold trim trimL
          rw [List.dropWhile_cons]
          by_cases q : c = 32
          · rw [if_pos q, if_pos (by simp [q])]
          · rw [if_neg q, if_neg (by simp [q])]
        rw [hd]
        by_cases hc : (c.toNat : Int) = 32
        · rw [if_pos (show c = 32 from (u8_is (n := 32) (by omega)).1 hc)]
          exact ev_pos hc (ev_pos (by omega) (ih r (by omega) (by omega)))
        · rw [if_neg (fun q => hc (by rw [q]; rfl))]
          exact ev_neg hc (j (c :: r) (by simp; omega))
  exact loop s.length s (Nat.le_refl _) hl

theorem spec_needs (b : List UInt8) (hl : b.length ≤ 1000000000000) : Ev (fun k => spec_NeedsCode.f k (S b)) (needC b) := by
  simp only [spec_NeedsCode.f]
  have fin : hasQ b = false → Ev (fun k => (spec_TextValid.f k (S b)).bind fun t => (if t = true then ((spec_l2Trim.f k (S b)).bind fun u => (if u.toList = (S b).toList then (some (decide (((S b).size : Int) > 120))) else (some true))) else (some true))) (needC b) := by
    intro h
    refine Ev.bind (spec_text b hl) ?_
    unfold needC
    rw [h, Bool.false_or]
    by_cases ht : textOK b
    · rw [decide_eq_true ht]
      refine ev_pos rfl (Ev.bind (spec_trim b hl) ?_)
      rw [toList_S, toList_S, size_S]
      by_cases hr : trim b = b
      · refine ev_pos hr (ev_is ?_)
        have e : decide ((b.length : Int) > 120) = decide (b.length > 120) := by
          rw [decide_eq_decide]
          omega
        rw [decide_eq_true hr, e]
        simp
      · refine ev_neg hr (ev_is ?_)
        rw [decide_eq_false hr]
        simp
    · rw [decide_eq_false ht]
      refine ev_neg (by decide) (ev_is ?_)
      simp
  have loop : ∀ (e i : Nat), i + e = b.length → hasQ b = hasQ (b.drop i) → Ev (fun k => spec_NeedsCode.l0 k (S b) (i : Int)) (needC b) := by
    intro e
    induction e with
    | zero =>
      intro i hi hq
      rw [List.drop_of_length_le (by omega)] at hq
      have w : wrap64 ((i : Int) + 1) = ((i + 1 : Nat) : Int) := by rw [w64 (by omega) (by omega)]; omega
      refine Ev.step (fun k => by rw [spec_NeedsCode.l0]) ?_
      rw [w]
      exact ev_neg (by rw [size_S]; omega) (fin hq)
    | succ e ih =>
      intro i hi hq
      have w : wrap64 ((i : Int) + 1) = ((i + 1 : Nat) : Int) := by rw [w64 (by omega) (by omega)]; omega
      have hlt : i < b.length := by omega
      refine Ev.step (fun k => by rw [spec_NeedsCode.l0]) ?_
      rw [w]
      by_cases h1 : i + 1 < b.length
      · have g0 : b.getD i 0 = b[i] := by rw [List.getD_eq_getElem?_getD, List.getElem?_eq_getElem hlt]; rfl
        have g1 : b.getD (i + 1) 0 = b[i + 1] := by rw [List.getD_eq_getElem?_getD, List.getElem?_eq_getElem h1]; rfl
        rw [drop_cons hlt, drop_cons h1, hasQ] at hq
        have hih : (b[i] == 61 && b[i + 1] == 63) = false → Ev (fun k => spec_NeedsCode.l0 k (S b) ((i + 1 : Nat) : Int)) (needC b) := by
          intro q
          refine ih (i + 1) (by omega) ?_
          rw [q, Bool.false_or] at hq
          rw [drop_cons h1]
          exact hq
        simp only [size_S, bt_S, Int.toNat_natCast, g0, g1]
        refine ev_pos (by omega) (ev_pos (by omega) (ev_pos (by omega) ?_))
        by_cases c1 : (b[i].toNat : Int) = 61
        · have c1' : b[i] = 61 := (u8_is (n := 61) (by omega)).1 c1
          refine ev_pos c1 (ev_pos (by omega) ?_)
          by_cases c2 : (b[i + 1].toNat : Int) = 63
          · have c2' : b[i + 1] = 63 := (u8_is (n := 63) (by omega)).1 c2
            rw [c1', c2'] at hq
            refine ev_pos c2 (ev_is ?_)
            unfold needC
            rw [hq]
            rfl
          · refine ev_neg c2 (hih ?_)
            have : (b[i + 1] == 63) = false := beq_eq_false_iff_ne.2 (fun q => c2 (by rw [q]; rfl))
            rw [this, Bool.and_false]
        · refine ev_neg c1 (hih ?_)
          have : (b[i] == 61) = false := beq_eq_false_iff_ne.2 (fun q => c1 (by rw [q]; rfl))
          rw [this, Bool.false_and]
      · rw [drop_cons hlt, List.drop_of_length_le (by omega)] at hq
        exact ev_neg (by rw [size_S]; omega) (fin hq)
  exact loop b.length 0 (by omega) (by rw [List.drop_zero])

theorem impl_text (s : List UInt8) (hl : s.length ≤ 1000000000000) : Ev (fun k => impl_TextValid.f k (S s)) (decide (textOK s)) := by
  simp only [impl_TextValid.f, size_S]
  have loop : ∀ (e i : Nat), i + e = s.length → (∀ j (h : j < s.length), j < i → 32 ≤ s[j].toNat ∧ s[j].toNat ≤ 126) → Ev (fun k => impl_TextValid.l0 k (S s) (s.length : Int) (i : Int)) (decide (textOK s)) := by
    intro e
    induction e with
    | zero =>
      intro i hi hp
      have e1 : decide ((s.length : Int) ≤ 200) = decide (textOK s) := by
        rw [decide_eq_decide]
        constructor
        · intro q
          refine ⟨by omega, fun c hc => ?_⟩
          obtain ⟨j, hj, rfl⟩ := List.mem_iff_getElem.1 hc
          exact hp j hj (by omega)
        · intro q
          have := q.1
          omega
      refine Ev.step (fun k => by rw [impl_TextValid.l0]) ?_
      rw [size_S, e1]
      exact ev_neg (by omega) (Ev.now _)
    | succ e ih =>
      intro i hi hp
      have hlt : i < s.length := by omega
      have hg : s.getD i 0 = s[i] := by rw [List.getD_eq_getElem?_getD, List.getElem?_eq_getElem hlt]; rfl
      have w : wrap64 ((i : Int) + 1) = ((i + 1 : Nat) : Int) := by rw [w64 (by omega) (by omega)]; omega
      refine Ev.step (fun k => by rw [impl_TextValid.l0]) ?_
      simp only [size_S, bt_S, Int.toNat_natCast, hg, w]
      refine ev_pos (by omega) (ev_pos (by omega) (ev_pos (by omega) ?_))
      by_cases hc : 32 ≤ s[i].toNat ∧ s[i].toNat ≤ 126
      · refine ev_neg (by omega) (ev_neg (by omega) (ih (i + 1) (by omega) ?_))
        intro j hj hji
        by_cases q : j = i
        · subst q
          exact hc
        · exact hp j hj (by omega)
      · have e1 : decide (textOK s) = false := decide_eq_false (fun q => hc (q.2 s[i] (List.getElem_mem hlt)))
        rw [e1]
        by_cases h3 : (s[i].toNat : Int) < 32
        · exact ev_pos h3 (Ev.now _)
        · exact ev_neg h3 (ev_pos (by omega) (Ev.now _))
  exact loop s.length 0 (by omega) (fun j _ h => by omega)
theorem trimL_full {s : List UInt8} (h : s.length ≤ (trimL s).length) : trimL s = s := (List.dropWhile_suffix _).eq_of_length (Nat.le_antisymm (trimL_len s) h)
theorem trimR_full {s : List UInt8} (h : s.length ≤ (trimR s).length) : trimR s = s := by
  have h1 : (s.reverse.dropWhile (· == 32)) = s.reverse := by
    refine (List.dropWhile_suffix _).eq_of_length (Nat.le_antisymm (dropWhile_len _ _) ?_)
    unfold trimR at h
    simpa using h
  unfold trimR
  rw [h1, List.reverse_reverse]
theorem trimB_trim (s : List UInt8) : Lib.trimB s 32 = s ↔ trim s = s := by
  have e : Lib.trimB s 32 = trimL (trimR s) := rfl
  have l1 := trimL_len (trimR s)
  have l2 := trimR_len s
  have l3 := trimR_len (trimL s)
  have l4 := trimL_len s
  rw [e]
  unfold trim
  constructor
  · intro h
    have hl := congrArg List.length h
    have r1 : trimR s = s := trimR_full (by omega)
    rw [r1] at h
    rw [h, r1]
  · intro h
    have hl := congrArg List.length h
    have r1 : trimL s = s := trimL_full (by omega)
    rw [r1] at h
    rw [h, r1]
theorem index_ge0 : ∀ s : List UInt8, decide (0 ≤ Lib.index s [61, 63]) = hasQ s
  | [] => rfl
  | [a] => by
    have : ([61, 63] : List UInt8).isPrefixOf [a] = false := by simp [List.isPrefixOf]
    rw [Lib.index, this]
    rfl
  | a :: b :: r => by
    have ih := index_ge0 (b :: r)
    have hge := Lib.index_ge (b :: r) [61, 63]
    have e : ([61, 63] : List UInt8).isPrefixOf (a :: b :: r) = (a == 61 && b == 63) := by
      simp only [List.isPrefixOf, Bool.and_true]
      rw [Bool.beq_comm (a := 61), Bool.beq_comm (a := 63)]
    rw [Lib.index, e, hasQ, ← ih]
    cases (a == 61 && b == 63) with
    | true => rfl
    | false =>
      rw [if_neg (by decide), Bool.false_or, decide_eq_decide]
      by_cases q : Lib.index (b :: r) [61, 63] = -1
      · rw [if_pos (by simp [q]), q]
      · rw [if_neg (by simp [q])]
        omega
theorem impl_needs (b : List UInt8) (hl : b.length ≤ 2000000000) : Ev (fun k => impl_NeedsCode.f k (S b)) (needC b) := by
  simp only [impl_NeedsCode.f]
  refine Ev.bind (impl_text b (by omega)) ?_
  have hc : strings_Contains.f (S b) (⟨#[61, 63]⟩ : ByteArray) = some (hasQ b) := by
    unfold strings_Contains.f
    rw [if_pos (by rw [size_S]; omega)]
    exact congrArg some (index_ge0 b)
  have ht : strings_Trim.f (S b) (⟨#[32]⟩ : ByteArray) = some (S (Lib.trimB b 32)) := by
    unfold strings_Trim.f
    rw [if_pos ⟨by rw [size_S]; omega, rfl, by decide⟩]
    rfl
  rw [ht, hc]
  unfold needC
  by_cases h1 : textOK b
  · rw [decide_eq_true h1]
    refine ev_pos rfl ?_
    simp only [Option.bind_some, toList_S, size_S]
    by_cases h2 : trim b = b
    · rw [decide_eq_true h2]
      refine ev_pos ((trimB_trim b).2 h2) ?_
      have e : decide ((b.length : Int) > 120) = decide (b.length > 120) := by
        rw [decide_eq_decide]
        omega
      cases h3 : hasQ b with
      | true => exact ev_pos rfl (Ev.now _)
      | false => exact ev_neg (by decide) (ev_is (by rw [e]; simp))
    · rw [decide_eq_false h2]
      refine ev_neg (fun q => h2 ((trimB_trim b).1 q)) (ev_is ?_)
      simp
  · rw [decide_eq_false h1]
    refine ev_neg (by decide) (ev_is ?_)
    simp

theorem needs_space (b : List UInt8) : needC ([32] ++ b) = true := by
  have e : trim (32 :: b) ≠ 32 :: b := by
    intro h
    have h1 : trim (32 :: b) = trim b := by
      unfold trim trimL
      rw [List.dropWhile_cons, if_pos (by decide)]
    have h2 := trim_len b
    have h3 := congrArg List.length h
    rw [h1, List.length_cons] at h3
    omega
  unfold needC
  rw [List.singleton_append, decide_eq_false e]
  simp
theorem hasQ_end : ∀ b : List UInt8, hasQ (b ++ [61, 63]) = true
  | [] => rfl
  | [a] => by
    show hasQ (a :: 61 :: [63]) = true
    rw [hasQ]
    simp [hasQ]
  | a :: c :: r => by
    have := hasQ_end (c :: r)
    show hasQ (a :: c :: (r ++ [61, 63])) = true
    rw [hasQ]
    have e : hasQ (c :: (r ++ [61, 63])) = true := this
    rw [e, Bool.or_true]
theorem needs_begin (b : List UInt8) : needC (b ++ [61, 63]) = true := by
  unfold needC
  rw [hasQ_end]
  rfl
theorem needs_zero (b : List UInt8) : needC (b ++ [0]) = true := by
  have e : ¬ textOK (b ++ [0]) := by
    intro h
    have := (h.2 0 (by simp)).1
    exact absurd this (by decide)
  unfold needC
  rw [decide_eq_false e]
  simp

theorem FnNeedsSpace : laws_FnNeedsSpace.Pure := by
  intro l0 _ _ hw
  refine Ev.rounds ?_
  simp only [laws_FnNeedsSpace.f]
  by_cases hl : (l0.length : Int) > 1048576
  · exact ev_pos hl (Ev.now _)
  refine ev_neg hl ?_
  obtain ⟨t, ht, hd⟩ := drawneeds_ex l0 (bytes_wf hw)
  obtain ⟨b, rfl⟩ := ex_S t
  rw [size_S] at ht
  refine Ev.bind hd (Ev.bind (impl_needs b (by omega)) (Ev.bind (spec_needs b (by omega)) (ev_neg (by simp) ?_)))
  have n1 := impl_needs ([32] ++ b) (by simp; omega)
  have n2 := impl_needs (b ++ [61, 63]) (by simp; omega)
  have n3 := impl_needs (b ++ [0]) (by simp; omega)
  rw [needs_space] at n1
  rw [needs_begin] at n2
  rw [needs_zero] at n3
  have e1 : (⟨#[32]⟩ : ByteArray) = S [32] := rfl
  have e2 : (⟨#[61, 63]⟩ : ByteArray) = S [61, 63] := rfl
  have e3 : (⟨#[0]⟩ : ByteArray) = S [0] := rfl
  rw [e1, e2, e3, append_S, append_S, append_S, size_S]
  exact ev_pos (by omega) (Ev.bind n1 (ev_pos rfl (ev_pos (by omega) (Ev.bind n2 (ev_pos rfl (ev_pos (by omega) (Ev.bind n3 (Ev.now _))))))))

end Go.Proofs.YtkebacobfjanjaaDoor.PLFnNeedsSpace
namespace Go.Proofs.YtkebacobfjanjaaDoor.Pure
open Go.Proofs.YtkebacobfjanjaaDoor.PFnNeedsSpace
theorem FnNeedsSpace : laws_FnNeedsSpace.Pure := PLFnNeedsSpace.FnNeedsSpace
end Go.Proofs.YtkebacobfjanjaaDoor.Pure
