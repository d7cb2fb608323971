/- The law FnNeedsCode holds of the printed functions: plain names are plain. No conditions. -/
import Derived.Test.YtkebacobfjanjaaDoorPFnNeedsCodex4
import Derived.Test.YtkebacobfjanjaaDoorMBase
import Derived.Test.YtkebacobfjanjaaDoorMStr
import Derived.Test.YtkebacobfjanjaaDoorMQuot
import Derived.Test.YtkebacobfjanjaaDoorMCode
import Derived.Test.YtkebacobfjanjaaDoorMDecQ
import Derived.Test.YtkebacobfjanjaaDoorMRead
import Derived.Test.YtkebacobfjanjaaDoorMParts
import Derived.Test.YtkebacobfjanjaaDoorMName
import Derived.Test.YtkebacobfjanjaaDoorMEnc
namespace Go.Proofs.YtkebacobfjanjaaDoor.PLFnNeedsCode
open Go.RowKit Go.Proofs.YtkebacobfjanjaaDoor.PFnNeedsCode Go.Proofs.YtkebacobfjanjaaDoorW.PrintWords Go.Proofs.YtkebacobfjanjaaDoorW.PrintLast Go.Proofs.YtkebacobfjanjaaDoorW.PrintMore Go.Proofs.YtkebacobfjanjaaDoor.M

theorem open_ex (l : List Int) (h : Bytes l) : ∃ b, spec_l13Open.f l = some (b, 0) ∧ Bytes b ∧ b.length ≤ 2000 := by
  unfold spec_l13Open.f
  by_cases e : (l.length : Int) > 2000
  · rw [if_pos e, if_pos (by omega)]
    exact ⟨_, rfl, bytes_take h _, by rw [List.length_take]; omega⟩
  · rw [if_neg e]
    exact ⟨_, rfl, h, by omega⟩

theorem pick_ev (b : List Int) (p n : Int) (hb : Bytes b) (hl : b.length ≤ 2000) (hp : 0 ≤ p) (hp1 : p ≤ 1000000) (hn : 1 ≤ n) :
    ∃ r, 0 ≤ r ∧ r < n ∧ Ev (fun k => spec_l13Rd_pick.f k b p n) (r, p + 1) := by
  have w1 : wrap64 (p + 1) = p + 1 := w64 (by omega) (by omega)
  have w2 : wrap64 (p + 1 - 1) = p := by
    rw [w64 (by omega) (by omega)]
    omega
  by_cases e0 : (b.length : Int) = 0
  · refine ⟨0, by omega, by omega, ?_⟩
    simp only [spec_l13Rd_pick.f]
    refine ev_neg (by omega) ?_
    rw [w1]
    refine Ev.step (fun k => by rw [spec_l13Rd_pick.j0]) ?_
    refine ev_pos (by simp [e0]) ?_
    exact Ev.now _
  · have f0 : ((b.length : Int) == 0) = false := beq_eq_false_iff_ne.mpr e0
    by_cases e1 : p < (b.length : Int)
    · obtain ⟨r0, r1⟩ := rd_bytes hb p
      have w3 : wrap64 (rd b p) = rd b p := w64 (by omega) (by omega)
      refine ⟨rd b p % n, Int.emod_nonneg _ (by omega), Int.emod_lt_of_pos _ (by omega), ?_⟩
      simp only [spec_l13Rd_pick.f]
      refine ev_neg (by omega) ?_
      rw [w1, f0]
      refine Ev.step (fun k => by rw [spec_l13Rd_pick.j0]) ?_
      simp only [w2, w3]
      refine ev_neg (by simp) (ev_pos e1 (ev_pos hp (ev_neg (by omega) ?_)))
      rw [Int.tmod_eq_emod_of_nonneg r0]
      exact Ev.now _
    · have hL : (0 : Int) < (b.length : Int) := by omega
      have t1 : Int.tmod p (b.length : Int) = p % (b.length : Int) := Int.tmod_eq_emod_of_nonneg hp
      have w4 : wrap64 (p * 7) = p * 7 := w64 (by omega) (by omega)
      have w5 : wrap64 (p * 7 + 3) = p * 7 + 3 := w64 (by omega) (by omega)
      have t2 : Int.tmod (p * 7 + 3) (b.length : Int) = (p * 7 + 3) % (b.length : Int) := Int.tmod_eq_emod_of_nonneg (by omega)
      have a0 := Int.emod_nonneg p (b := (b.length : Int)) (by omega)
      have a1 := Int.emod_lt_of_pos p hL
      have c0 := Int.emod_nonneg (p * 7 + 3) (b := (b.length : Int)) (by omega)
      have c1 := Int.emod_lt_of_pos (p * 7 + 3) hL
      obtain ⟨x0, x1⟩ := rd_bytes hb (p % (b.length : Int))
      obtain ⟨y0, y1⟩ := rd_bytes hb ((p * 7 + 3) % (b.length : Int))
      have d1 : Int.tdiv p (b.length : Int) = p / (b.length : Int) := Int.tdiv_eq_ediv_of_nonneg hp
      have d2 : 0 ≤ p / (b.length : Int) := Int.ediv_nonneg hp (by omega)
      have d3 : p / (b.length : Int) ≤ p := Int.ediv_le_self _ hp
      have ew1 : wrap64 (rd b (p % (b.length : Int))) = rd b (p % (b.length : Int)) := w64 (by omega) (by omega)
      have ew2 : wrap64 (rd b ((p * 7 + 3) % (b.length : Int))) = rd b ((p * 7 + 3) % (b.length : Int)) := w64 (by omega) (by omega)
      have ew3 : wrap64 (p / (b.length : Int)) = p / (b.length : Int) := w64 (by omega) (by omega)
      have hz : ∀ x y q : Int, 0 ≤ x → x < 256 → 0 ≤ y → y < 256 → 0 ≤ q → q ≤ p →
          wrap64 ((wrap64 ((wrap64 ((wrap64 (x * 131)) + (wrap64 (y * 1117)))) + (wrap64 (p * 29)))) + (wrap64 (q * 53))) = x * 131 + y * 1117 + p * 29 + q * 53 := by
        intro x y q hx hx1 hy hy1 hq hq1
        rw [w64 (n := x * 131) (by omega) (by omega), w64 (n := y * 1117) (by omega) (by omega), w64 (n := p * 29) (by omega) (by omega), w64 (n := q * 53) (by omega) (by omega),
          w64 (n := x * 131 + y * 1117) (by omega) (by omega), w64 (n := x * 131 + y * 1117 + p * 29) (by omega) (by omega), w64 (by omega) (by omega)]
      have hz' := hz _ _ _ x0 x1 y0 y1 d2 d3
      obtain ⟨S, hS⟩ : ∃ S, S = rd b (p % (b.length : Int)) * 131 + rd b ((p * 7 + 3) % (b.length : Int)) * 1117 + p * 29 + p / (b.length : Int) * 53 := ⟨_, rfl⟩
      rw [← hS] at hz'
      have s0 : 0 ≤ S ∧ S < 1000000000 := by omega
      have s1 : Int.tdiv S 64 = S / 64 := Int.tdiv_eq_ediv_of_nonneg s0.1
      have s2 : wrap64 (S / 64) = S / 64 := w64 (by omega) (by omega)
      have hx := xor_nonneg (x := S) (y := S / 64) (by omega) (by omega) (by omega) (by omega)
      refine ⟨bits .xor .i64 S (S / 64) % n, Int.emod_nonneg _ (by omega), Int.emod_lt_of_pos _ (by omega), ?_⟩
      simp only [spec_l13Rd_pick.f]
      refine ev_neg (by omega) ?_
      rw [w1, f0]
      refine Ev.step (fun k => by rw [spec_l13Rd_pick.j0]) ?_
      simp only [w2, t1, w4, w5, t2, d1, ew1, ew2, ew3, hz', s1, s2]
      refine ev_neg (by simp) (ev_neg e1 (ev_neg e0 (ev_pos a0 (ev_pos a1 (ev_pos c0 (ev_pos c1 (ev_neg (by omega) ?_)))))))
      rw [Int.tmod_eq_emod_of_nonneg hx]
      exact Ev.now _

theorem num_ev (b : List Int) (p : Int) (l : List Int) (hb : Bytes b) (hl : b.length ≤ 2000) (hp : 0 ≤ p) (hp1 : p ≤ 1000000) (hn : 1 ≤ l.length) :
    ∃ r, 0 ≤ r ∧ r < (l.length : Int) ∧ Ev (fun k => spec_l13Rd_num.f k b p l) (rd l r, p + 1) := by
  obtain ⟨r, h0, h1, h⟩ := pick_ev b p (l.length : Int) hb hl hp hp1 (by omega)
  refine ⟨r, h0, h1, ?_⟩
  simp only [spec_l13Rd_num.f]
  refine Ev.bind h ?_
  exact ev_pos h0 (ev_pos h1 (Ev.now _))

theorem of_ev (b : List Int) (p : Int) (l : List ByteArray) (hb : Bytes b) (hl : b.length ≤ 2000) (hp : 0 ≤ p) (hp1 : p ≤ 1000000) (hn : 1 ≤ l.length) :
    ∃ x ∈ l, Ev (fun k => spec_l13Rd_of.f k b p l) (x, p + 1) := by
  obtain ⟨r, h0, h1, h⟩ := pick_ev b p (l.length : Int) hb hl hp hp1 (by omega)
  have hr : r.toNat < l.length := by omega
  refine ⟨l[r.toNat], List.getElem_mem hr, ?_⟩
  have e : rdOf ByteArray.empty l r = l[r.toNat] := by
    unfold rdOf
    rw [List.getD_eq_getElem?_getD, List.getElem?_eq_getElem hr]
    rfl
  simp only [spec_l13Rd_of.f]
  refine Ev.bind h ?_
  refine ev_pos h0 (ev_pos h1 ?_)
  rw [e]
  exact Ev.now _

theorem l6loop_ex (b : List Int) (hb : Bytes b) (hl : b.length ≤ 2000) : ∀ (n : Nat) (s : ByteArray) (p : Int), n ≤ 8 → 0 ≤ p → p + n ≤ 1000 → s.size + 50 * n ≤ 1000 →
    ∃ t q, t.size ≤ 1000 ∧ 0 ≤ q ∧ q ≤ 1000 ∧ Ev (fun k => spec_l6Draw.l0 k s (n : Int) b p) (t, q) := by
  intro n
  induction n with
  | zero =>
    intro s p h8 hp hp1 hs
    refine ⟨s, p, by omega, by omega, by omega, ?_⟩
    refine Ev.step (fun k => by rw [spec_l6Draw.l0]) ?_
    exact ev_neg (by omega) (Ev.now _)
  | succ n ih =>
    intro s p h8 hp hp1 hs
    obtain ⟨x, hx, h⟩ := of_ev b p ([(⟨#[90, 111, 195, 171]⟩ : ByteArray), (⟨#[32]⟩ : ByteArray), (⟨#[65, 110, 110, 32, 76, 101, 101]⟩ : ByteArray), (⟨#[61, 63]⟩ : ByteArray), (⟨#[97]⟩ : ByteArray), (⟨#[95]⟩ : ByteArray), (⟨#[97, 32, 108, 111, 110, 103, 101, 114, 32, 110, 97, 109, 101, 32, 111, 102, 32, 109, 97, 110, 121, 32, 119, 111, 114, 100, 115]⟩ : ByteArray), (⟨#[255]⟩ : ByteArray), (⟨#[61, 63, 117, 116, 102, 45, 56, 63, 113, 63, 120, 63, 61]⟩ : ByteArray), (⟨#[32, 32]⟩ : ByteArray)] : List ByteArray) hb hl hp (by omega) (by simp)
    have hxs : x.size ≤ 50 := by
      simp only [List.mem_cons, List.not_mem_nil, or_false] at hx
      rcases hx with rfl | rfl | rfl | rfl | rfl | rfl | rfl | rfl | rfl | rfl <;> decide
    obtain ⟨t, q, ht, hq0, hq1, h2⟩ := ih (s ++ x) (p + 1) (by omega) (by omega) (by omega) (by rw [ByteArray.size_append]; omega)
    refine ⟨t, q, ht, hq0, hq1, ?_⟩
    have w : wrap64 (((n + 1 : Nat) : Int) - 1) = (n : Int) := by rw [w64 (by omega) (by omega)]; omega
    refine Ev.step (fun k => by rw [spec_l6Draw.l0]) ?_
    refine ev_pos (by omega) ?_
    refine Ev.bind h ?_
    refine ev_pos (show s.size + x.size ≤ 9223372036854775807 by omega) ?_
    rw [w]
    exact h2

theorem l6draw_ex (b : List Int) (p : Int) (hb : Bytes b) (hl : b.length ≤ 2000) (hp : 0 ≤ p) (hp1 : p ≤ 100) :
    ∃ t q, t.size ≤ 1000 ∧ 0 ≤ q ∧ q ≤ 1000 ∧ Ev (fun k => spec_l6Draw.f k b p) (t, q) := by
  obtain ⟨r, h0, h1, h⟩ := num_ev b p [2, 1, 3, 0, 6] hb hl hp (by omega) (by simp)
  simp only [List.length_cons, List.length_nil] at h1
  have hr : ∃ n : Nat, n ≤ 8 ∧ rd [2, 1, 3, 0, 6] r = (n : Int) := by
    have : r = 0 ∨ r = 1 ∨ r = 2 ∨ r = 3 ∨ r = 4 := by omega
    rcases this with rfl | rfl | rfl | rfl | rfl
    · exact ⟨2, by omega, rfl⟩
    · exact ⟨1, by omega, rfl⟩
    · exact ⟨3, by omega, rfl⟩
    · exact ⟨0, by omega, rfl⟩
    · exact ⟨6, by omega, rfl⟩
  obtain ⟨n, hn, e⟩ := hr
  rw [e] at h
  obtain ⟨t, q, ht, hq0, hq1, h2⟩ := l6loop_ex b hb hl n (⟨#[]⟩ : ByteArray) (p + 1) hn (by omega) (by omega) (by show 0 + 50 * n ≤ 1000; omega)
  refine ⟨t, q, ht, hq0, hq1, ?_⟩
  simp only [spec_l6Draw.f]
  refine Ev.bind h ?_
  exact h2

theorem drawneeds_ex (l : List Int) (h : Bytes l) : ∃ t, t.size ≤ 1000 ∧ Ev (fun k => spec_DrawNeedsCode.f k l) t := by
  obtain ⟨b, hb, h1, h2⟩ := open_ex l h
  obtain ⟨t, q, ht, hq0, hq1, h3⟩ := l6draw_ex b 0 h1 h2 (by omega) (by omega)
  refine ⟨t, ht, ?_⟩
  simp only [spec_DrawNeedsCode.f, hb, Option.bind_some]
  exact Ev.bind h3 (Ev.now _)

theorem spec_text (s : List UInt8) (hl : s.length ≤ 1000000000000) : Ev (fun k => spec_TextValid.f k (S s)) (decide (textOK s)) := by
  simp only [spec_TextValid.f]
  have loop : ∀ (e i : Nat), i + e = s.length → i ≤ 201 → (∀ j (h : j < s.length), j < i → 32 ≤ s[j].toNat ∧ s[j].toNat ≤ 126) → Ev (fun k => spec_TextValid.l0 k (S s) (i : Int)) (decide (textOK s)) := by
    intro e
    induction e with
    | zero =>
      intro i hi h2 hp
      have e1 : decide ((s.length : Int) ≤ 200) = decide (textOK s) := by
        rw [decide_eq_decide]
        constructor
        · intro q
          refine ⟨by omega, fun c hc => ?_⟩
          obtain ⟨j, hj, rfl⟩ := List.mem_iff_getElem.1 hc
          exact hp j hj (by omega)
        · intro q
          have := q.1
          omega
      refine Ev.step (fun k => by rw [spec_TextValid.l0]) ?_
      rw [size_S]
      refine ev_neg (by omega) ?_
      refine Ev.step (fun k => by rw [spec_TextValid.j1]) ?_
      rw [size_S, e1]
      exact ev_neg (by decide) (Ev.now _)
    | succ e ih =>
      intro i hi h2 hp
      have hlt : i < s.length := by omega
      have hg : s.getD i 0 = s[i] := by rw [List.getD_eq_getElem?_getD, List.getElem?_eq_getElem hlt]; rfl
      have w : wrap64 ((i : Int) + 1) = ((i + 1 : Nat) : Int) := by rw [w64 (by omega) (by omega)]; omega
      refine Ev.step (fun k => by rw [spec_TextValid.l0]) ?_
      rw [size_S]
      refine ev_pos (by omega) ?_
      by_cases h200 : i ≤ 200
      · rw [decide_eq_true (show (i : Int) ≤ 200 by omega)]
        refine Ev.step (fun k => by rw [spec_TextValid.j1]) ?_
        simp only [size_S, bt_S, Int.toNat_natCast, hg, w]
        refine ev_pos trivial (ev_pos (by omega) (ev_pos (by omega) ?_))
        by_cases hc : 32 ≤ s[i].toNat ∧ s[i].toNat ≤ 126
        · refine ev_neg (by omega) (ev_neg (by omega) (ih (i + 1) (by omega) (by omega) ?_))
          intro j hj hji
          by_cases q : j = i
          · subst q
            exact hc
          · exact hp j hj (by omega)
        · have e1 : decide (textOK s) = false := decide_eq_false (fun q => hc (q.2 s[i] (List.getElem_mem hlt)))
          rw [e1]
          by_cases h3 : (s[i].toNat : Int) < 32
          · exact ev_pos h3 (Ev.now _)
          · exact ev_neg h3 (ev_pos (by omega) (Ev.now _))
      · rw [decide_eq_false (show ¬ (i : Int) ≤ 200 by omega)]
        have e1 : decide (textOK s) = false := decide_eq_false (fun q => by have := q.1; omega)
        refine Ev.step (fun k => by rw [spec_TextValid.j1]) ?_
        rw [size_S, e1]
        refine ev_neg (by decide) (ev_is ?_)
        rw [decide_eq_false (by omega)]
  exact loop s.length 0 (by omega) (by omega) (fun j _ h => by omega)

theorem spec_trimR (n : Nat) : ∀ s : List UInt8, s.length ≤ n → s.length ≤ 1000000000000 → Ev (fun k => spec_l2Trim.l1 k (S s)) (S (trimR s)) := by
  induction n with
  | zero =>
    intro s h _
    have : s = [] := List.eq_nil_of_length_eq_zero (by omega)
    subst this
    refine Ev.step (fun k => by rw [spec_l2Trim.l1]) ?_
    exact ev_neg (by decide) (Ev.now _)
  | succ n ih =>
    intro s h hl
    rcases List.eq_nil_or_concat s with rfl | ⟨t, c, rfl⟩
    · refine Ev.step (fun k => by rw [spec_l2Trim.l1]) ?_
      exact ev_neg (by decide) (Ev.now _)
    · rw [List.concat_eq_append] at h hl ⊢
      rw [List.length_append] at h hl
      simp only [List.length_cons, List.length_nil] at h hl
      have w : wrap64 (((t.length + 1 : Nat) : Int) - 1) = (t.length : Int) := by rw [w64 (by omega) (by omega)]; omega
      have hg : (t ++ [c]).getD t.length 0 = c := by simp
      have hx : ((t ++ [c]).drop 0).take (t.length - 0) = t := by simp
      refine Ev.step (fun k => by rw [spec_l2Trim.l1]) ?_
      simp only [size_S, List.length_append, List.length_cons, List.length_nil, Nat.zero_add, w, bt_S, Int.toNat_natCast, hg, extract_S, hx]
      rw [trimR_snoc]
      refine ev_pos (by omega) (ev_pos (by omega) (ev_pos (by omega) ?_))
      by_cases hc : (c.toNat : Int) = 32
      · rw [if_pos (show c = 32 from (u8_is (n := 32) (by omega)).1 hc)]
        exact ev_pos hc (ev_pos (by omega) (ih t (by omega) (by omega)))
      · rw [if_neg (fun q => hc (by rw [q]; rfl))]
        exact ev_neg hc (Ev.now _)
theorem spec_trim (s : List UInt8) (hl : s.length ≤ 1000000000000) : Ev (fun k => spec_l2Trim.f k (S s)) (S (trim s)) := by
  simp only [spec_l2Trim.f]
  have j : ∀ t : List UInt8, t.length ≤ 1000000000000 → Ev (fun k => spec_l2Trim.j1 k (S t)) (S (trimR t)) := by
    intro t ht
    refine Ev.step (fun k => by rw [spec_l2Trim.j1]) ?_
    exact spec_trimR t.length t (Nat.le_refl _) ht
  have loop : ∀ (n : Nat) (s : List UInt8), s.length ≤ n → s.length ≤ 1000000000000 → Ev (fun k => spec_l2Trim.l0 k (S s)) (S (trim s)) := by
    intro n
    induction n with
    | zero =>
      intro s h h2
      have : s = [] := List.eq_nil_of_length_eq_zero (by omega)
      subst this
      refine Ev.step (fun k => by rw [spec_l2Trim.l0]) ?_
      exact ev_neg (by decide) (j [] h2)
    | succ n ih =>
      intro s h h2
      cases s with
      | nil =>
        refine Ev.step (fun k => by rw [spec_l2Trim.l0]) ?_
        exact ev_neg (by decide) (j [] h2)
      | cons c r =>
        simp only [List.length_cons] at h h2
        have hg : bt (S (c :: r)) 0 = (c.toNat : Int) := by rw [bt_S]; rfl
        have hx : ((c :: r).drop 1).take (r.length + 1 - 1) = r := by simp
        refine Ev.step (fun k => by rw [spec_l2Trim.l0]) ?_
        simp only [size_S, List.length_cons, hg, extract_S, hx]
        refine ev_pos (by omega) (ev_pos (by omega) ?_)
        have hd : trim (c :: r) = if c = 32 then trim r else trimR (c :: r) := by
          unfold trim trimL
          rw [List.dropWhile_cons]
          by_cases q : c = 32
          · rw [if_pos q, if_pos (by simp [q])]
          · rw [if_neg q, if_neg (by simp [q])]
        rw [hd]
        by_cases hc : (c.toNat : Int) = 32
        · rw [if_pos (show c = 32 from (u8_is (n := 32) (by omega)).1 hc)]
          exact ev_pos hc (ev_pos (by omega) (ih r (by omega) (by omega)))
        · rw [if_neg (fun q => hc (by rw [q]; rfl))]
          exact ev_neg hc (j (c :: r) (by simp; omega))
  exact loop s.length s (Nat.le_refl _) hl

theorem spec_needs (b : List UInt8) (hl : b.length ≤ 1000000000000) : Ev (fun k => spec_NeedsCode.f k (S b)) (needC b) := by
  simp only [spec_NeedsCode.f]
  have fin : hasQ b = false → Ev (fun k => (spec_TextValid.f k (S b)).bind fun t => (if t = true then ((spec_l2Trim.f k (S b)).bind fun u => (if u.toList = (S b).toList then (some (decide (((S b).size : Int) > 120))) else (some true))) else (some true))) (needC b) := by
    intro h
    refine Ev.bind (spec_text b hl) ?_
    unfold needC
    rw [h, Bool.false_or]
    by_cases ht : textOK b
    · rw [decide_eq_true ht]
      refine ev_pos rfl (Ev.bind (spec_trim b hl) ?_)
      rw [toList_S, toList_S, size_S]
      by_cases hr : trim b = b
      · refine ev_pos hr (ev_is ?_)
        have e : decide ((b.length : Int) > 120) = decide (b.length > 120) := by
          rw [decide_eq_decide]
          omega
        rw [decide_eq_true hr, e]
        simp
      · refine ev_neg hr (ev_is ?_)
        rw [decide_eq_false hr]
        simp
    · rw [decide_eq_false ht]
      refine ev_neg (by decide) (ev_is ?_)
      simp
  have loop : ∀ (e i : Nat), i + e = b.length → hasQ b = hasQ (b.drop i) → Ev (fun k => spec_NeedsCode.l0 k (S b) (i : Int)) (needC b) := by
    intro e
    induction e with
    | zero =>
      intro i hi hq
      rw [List.drop_of_length_le (by omega)] at hq
      have w : wrap64 ((i : Int) + 1) = ((i + 1 : Nat) : Int) := by rw [w64 (by omega) (by omega)]; omega
      refine Ev.step (fun k => by rw [spec_NeedsCode.l0]) ?_
      rw [w]
      exact ev_neg (by rw [size_S]; omega) (fin hq)
    | succ e ih =>
      intro i hi hq
      have w : wrap64 ((i : Int) + 1) = ((i + 1 : Nat) : Int) := by rw [w64 (by omega) (by omega)]; omega
      have hlt : i < b.length := by omega
      refine Ev.step (fun k => by rw [spec_NeedsCode.l0]) ?_
      rw [w]
      by_cases h1 : i + 1 < b.length
      · have g0 : b.getD i 0 = b[i] := by rw [List.getD_eq_getElem?_getD, List.getElem?_eq_getElem hlt]; rfl
        have g1 : b.getD (i + 1) 0 = b[i + 1] := by rw [List.getD_eq_getElem?_getD, List.getElem?_eq_getElem h1]; rfl
        rw [drop_cons hlt, drop_cons h1, hasQ] at hq
        have hih : (b[i] == 61 && b[i + 1] == 63) = false → Ev (fun k => spec_NeedsCode.l0 k (S b) ((i + 1 : Nat) : Int)) (needC b) := by
          intro q
          refine ih (i + 1) (by omega) ?_
          rw [q, Bool.false_or] at hq
          rw [drop_cons h1]
          exact hq
        simp only [size_S, bt_S, Int.toNat_natCast, g0, g1]
        refine ev_pos (by omega) (ev_pos (by omega) (ev_pos (by omega) ?_))
        by_cases c1 : (b[i].toNat : Int) = 61
        · have c1' : b[i] = 61 := (u8_is (n := 61) (by omega)).1 c1
          refine ev_pos c1 (ev_pos (by omega) ?_)
          by_cases c2 : (b[i + 1].toNat : Int) = 63
          · have c2' : b[i + 1] = 63 := (u8_is (n := 63) (by omega)).1 c2
            rw [c1', c2'] at hq
            refine ev_pos c2 (ev_is ?_)
            unfold needC
            rw [hq]
            rfl
          · refine ev_neg c2 (hih ?_)
            have : (b[i + 1] == 63) = false := beq_eq_false_iff_ne.2 (fun q => c2 (by rw [q]; rfl))
            rw [this, Bool.and_false]
        · refine ev_neg c1 (hih ?_)
          have : (b[i] == 61) = false := beq_eq_false_iff_ne.2 (fun q => c1 (by rw [q]; rfl))
          rw [this, Bool.false_and]
      · rw [drop_cons hlt, List.drop_of_length_le (by omega)] at hq
        exact ev_neg (by rw [size_S]; omega) (fin hq)
  exact loop b.length 0 (by omega) (by rw [List.drop_zero])

theorem self_str (c : UInt8) : strOfNums ([(c.toNat : Int)] : List Int) = S [c] := by
  rw [strOfNums_S]
  simp

theorem impl_hex (c : UInt8) : impl_hexByte.f (c.toNat : Int) = some (S (hex3 c)) := by
  have hc := c.toNat_lt
  unfold impl_hexByte.f
  have a : bits .and .u8 (c.toNat : Int) 15 = ((c.toNat % 16 : Nat) : Int) := by
    rw [u8_and15 _ (by omega) (by omega)]
    omega
  have b : ((c.toNat : Int) / 16) = ((c.toNat / 16 : Nat) : Int) := by omega
  have e1 : ((((c.toNat / 16 : Nat) : Int) + 1) % 256) = (((c.toNat / 16) + 1 : Nat) : Int) := by omega
  have e2 : ((((c.toNat % 16 : Nat) : Int) + 1) % 256) = (((c.toNat % 16) + 1 : Nat) : Int) := by omega
  have x1 := extract_digit (c.toNat / 16) (by omega)
  have x2 := extract_digit (c.toNat % 16) (by omega)
  simp only [a, b, e1, e2, Int.toNat_natCast, x1, x2, mk_S, append_S, size_S]
  rw [if_pos (by omega), if_pos (by omega), if_pos (by omega), if_pos (by simp), if_pos (by omega), if_pos (by omega), if_pos (by omega), if_pos (by simp)]
  rfl


theorem impl_alpha (n : Int) : impl_isLetter.f n = some (isAlpha n) := by
  unfold impl_isLetter.f isAlpha
  by_cases a : n ≥ 97
  · rw [if_pos a]
    by_cases b : n ≤ 122
    · rw [if_pos b]
      have : (97 ≤ n ∧ n ≤ 122) := ⟨a, b⟩
      simp [this]
    · rw [if_neg b, if_pos (by omega)]
      congr 1
      rw [decide_eq_decide]
      omega
  · rw [if_neg a]
    by_cases c : n ≥ 65
    · rw [if_pos c]
      congr 1
      rw [decide_eq_decide]
      omega
    · rw [if_neg c]
      have h1 : ¬ ((97 ≤ n ∧ n ≤ 122) ∨ (65 ≤ n ∧ n ≤ 90)) := by omega
      simp [h1]

theorem impl_num (n : Int) : impl_isDigit.f n = some (isNum n) := by
  unfold impl_isDigit.f isNum
  by_cases a : n ≥ 48
  · rw [if_pos a]
    congr 1
    rw [decide_eq_decide]
    omega
  · rw [if_neg a]
    have : ¬ (48 ≤ n ∧ n ≤ 57) := by omega
    simp [this]

theorem impl_codeB (c : UInt8) : Ev (fun k => impl_codeByte.f k (c.toNat : Int)) (S (codeB c)) := by
  simp only [impl_codeByte.f, impl_alpha, impl_num, Option.bind_some]
  have hj : ∀ s : Bool, s = selfC (c.toNat : Int) → Ev (fun k => impl_codeByte.j0 k (c.toNat : Int) s) (S (codeB c)) := by
    intro s hs
    refine Ev.step (fun k => by rw [impl_codeByte.j0]) ?_
    rw [self_str]
    unfold codeB
    rw [← hs]
    cases s with
    | true => exact ev_pos rfl (ev_is (by rw [if_pos rfl]))
    | false =>
      refine ev_neg (by simp) ?_
      rw [if_neg Bool.false_ne_true]
      by_cases h32 : (c.toNat : Int) = 32
      · refine ev_pos h32 (ev_is ?_)
        rw [if_pos (by omega)]
        rfl
      · refine ev_neg h32 ?_
        refine ev_bind0 (impl_hex c) (ev_is ?_)
        rw [if_neg (by omega)]
  by_cases h1 : isAlpha (c.toNat : Int) = true
  · refine ev_pos h1 (hj true ?_)
    unfold selfC
    simp [h1]
  refine ev_neg h1 ?_
  by_cases h2 : isNum (c.toNat : Int) = true
  · refine ev_pos h2 (hj true ?_)
    unfold selfC
    simp [h2]
  refine ev_neg h2 ?_
  have h1' : isAlpha (c.toNat : Int) = false := by simpa using h1
  have h2' : isNum (c.toNat : Int) = false := by simpa using h2
  by_cases h45 : (c.toNat : Int) = 45
  · refine ev_pos h45 (hj true ?_)
    unfold selfC
    rw [decide_eq_true h45]
    simp
  refine ev_neg h45 (hj _ ?_)
  unfold selfC
  rw [h1', h2', decide_eq_false h45]
  rw [Bool.eq_iff_iff]
  simp

theorem impl_codeW (b : List UInt8) (hb : b.length ≤ 100000) : Ev (fun k => impl_codeWord.f k (S b)) (S (codeW b)) := by
  simp only [impl_codeWord.f, size_S]
  have : ∀ (e i : Nat), i + e = b.length → Ev (fun k => impl_codeWord.l0 k (S b) (S (codePre ++ codeL (b.take i))) (b.length : Int) (i : Int)) (S (codeW b)) := by
    intro e
    induction e with
    | zero =>
      intro i hi
      rw [List.take_of_length_le (by omega)]
      have hx := (codeL_length b).2
      refine Ev.step (fun k => by rw [impl_codeWord.l0]) ?_
      have hpl : codePre.length = 10 := rfl
      simp only [size_S, mk_S, append_S, List.length_append]
      exact ev_neg (by omega) (ev_pos (by omega) (Ev.now _))
    | succ e ih =>
      intro i hi
      have hlt : i < b.length := by omega
      have hg : b.getD i 0 = b[i] := by rw [List.getD_eq_getElem?_getD, List.getElem?_eq_getElem hlt]; rfl
      have hih := ih (i + 1) (by omega)
      have hx := (codeL_length (b.take i)).2
      have hq := codeB_length b[i]
      rw [List.length_take] at hx
      rw [List.take_succ_eq_append_getElem hlt, codeL_snoc, ← List.append_assoc] at hih
      have w : wrap64 ((i : Int) + 1) = ((i + 1 : Nat) : Int) := by rw [w64 (by omega) (by omega)]; omega
      have hpl : codePre.length = 10 := rfl
      refine Ev.step (fun k => by rw [impl_codeWord.l0]) ?_
      simp only [size_S, bt_S, Int.toNat_natCast, hg, w]
      clear w
      refine ev_pos (by omega) (ev_pos (by omega) (ev_pos (by omega) ?_))
      refine Ev.bind (impl_codeB b[i]) ?_
      simp only [size_S, append_S, List.length_append]
      exact ev_pos (by omega) hih
  exact this b.length 0 (by omega)


theorem impl_text (s : List UInt8) (hl : s.length ≤ 1000000000000) : Ev (fun k => impl_TextValid.f k (S s)) (decide (textOK s)) := by
  simp only [impl_TextValid.f, size_S]
  have loop : ∀ (e i : Nat), i + e = s.length → (∀ j (h : j < s.length), j < i → 32 ≤ s[j].toNat ∧ s[j].toNat ≤ 126) → Ev (fun k => impl_TextValid.l0 k (S s) (s.length : Int) (i : Int)) (decide (textOK s)) := by
    intro e
    induction e with
    | zero =>
      intro i hi hp
      have e1 : decide ((s.length : Int) ≤ 200) = decide (textOK s) := by
        rw [decide_eq_decide]
        constructor
        · intro q
          refine ⟨by omega, fun c hc => ?_⟩
          obtain ⟨j, hj, rfl⟩ := List.mem_iff_getElem.1 hc
          exact hp j hj (by omega)
        · intro q
          have := q.1
          omega
      refine Ev.step (fun k => by rw [impl_TextValid.l0]) ?_
      rw [size_S, e1]
      exact ev_neg (by omega) (Ev.now _)
    | succ e ih =>
      intro i hi hp
      have hlt : i < s.length := by omega
      have hg : s.getD i 0 = s[i] := by rw [List.getD_eq_getElem?_getD, List.getElem?_eq_getElem hlt]; rfl
      have w : wrap64 ((i : Int) + 1) = ((i + 1 : Nat) : Int) := by rw [w64 (by omega) (by omega)]; omega
      refine Ev.step (fun k => by rw [impl_TextValid.l0]) ?_
      simp only [size_S, bt_S, Int.toNat_natCast, hg, w]
      refine ev_pos (by omega) (ev_pos (by omega) (ev_pos (by omega) ?_))
      by_cases hc : 32 ≤ s[i].toNat ∧ s[i].toNat ≤ 126
      · refine ev_neg (by omega) (ev_neg (by omega) (ih (i + 1) (by omega) ?_))
        intro j hj hji
        by_cases q : j = i
        · subst q
          exact hc
        · exact hp j hj (by omega)
      · have e1 : decide (textOK s) = false := decide_eq_false (fun q => hc (q.2 s[i] (List.getElem_mem hlt)))
        rw [e1]
        by_cases h3 : (s[i].toNat : Int) < 32
        · exact ev_pos h3 (Ev.now _)
        · exact ev_neg h3 (ev_pos (by omega) (Ev.now _))
  exact loop s.length 0 (by omega) (fun j _ h => by omega)
theorem trimL_full {s : List UInt8} (h : s.length ≤ (trimL s).length) : trimL s = s := (List.dropWhile_suffix _).eq_of_length (Nat.le_antisymm (trimL_len s) h)
theorem trimR_full {s : List UInt8} (h : s.length ≤ (trimR s).length) : trimR s = s := by
  have h1 : (s.reverse.dropWhile (· == 32)) = s.reverse := by
    refine (List.dropWhile_suffix _).eq_of_length (Nat.le_antisymm (dropWhile_len _ _) ?_)
    unfold trimR at h
    simpa using h
  unfold trimR
  rw [h1, List.reverse_reverse]
theorem trimB_trim (s : List UInt8) : Lib.trimB s 32 = s ↔ trim s = s := by
  have e : Lib.trimB s 32 = trimL (trimR s) := rfl
  have l1 := trimL_len (trimR s)
  have l2 := trimR_len s
  have l3 := trimR_len (trimL s)
  have l4 := trimL_len s
  rw [e]
  unfold trim
  constructor
  · intro h
    have hl := congrArg List.length h
    have r1 : trimR s = s := trimR_full (by omega)
    rw [r1] at h
    rw [h, r1]
  · intro h
    have hl := congrArg List.length h
    have r1 : trimL s = s := trimL_full (by omega)
    rw [r1] at h
    rw [h, r1]
theorem index_ge0 : ∀ s : List UInt8, decide (0 ≤ Lib.index s [61, 63]) = hasQ s
  | [] => rfl
  | [a] => by
    have : ([61, 63] : List UInt8).isPrefixOf [a] = false := by simp [List.isPrefixOf]
    rw [Lib.index, this]
    rfl
  | a :: b :: r => by
    have ih := index_ge0 (b :: r)
    have hge := Lib.index_ge (b :: r) [61, 63]
    have e : ([61, 63] : List UInt8).isPrefixOf (a :: b :: r) = (a == 61 && b == 63) := by
      simp only [List.isPrefixOf, Bool.and_true]
      rw [Bool.beq_comm (a := 61), Bool.beq_comm (a := 63)]
    rw [Lib.index, e, hasQ, ← ih]
    cases (a == 61 && b == 63) with
    | true => rfl
    | false =>
      rw [if_neg (by decide), Bool.false_or, decide_eq_decide]
      by_cases q : Lib.index (b :: r) [61, 63] = -1
      · rw [if_pos (by simp [q]), q]
      · rw [if_neg (by simp [q])]
        omega
theorem impl_needs (b : List UInt8) (hl : b.length ≤ 2000000000) : Ev (fun k => impl_NeedsCode.f k (S b)) (needC b) := by
  simp only [impl_NeedsCode.f]
  refine Ev.bind (impl_text b (by omega)) ?_
  have hc : strings_Contains.f (S b) (⟨#[61, 63]⟩ : ByteArray) = some (hasQ b) := by
    unfold strings_Contains.f
    rw [if_pos (by rw [size_S]; omega)]
    exact congrArg some (index_ge0 b)
  have ht : strings_Trim.f (S b) (⟨#[32]⟩ : ByteArray) = some (S (Lib.trimB b 32)) := by
    unfold strings_Trim.f
    rw [if_pos ⟨by rw [size_S]; omega, rfl, by decide⟩]
    rfl
  rw [ht, hc]
  unfold needC
  by_cases h1 : textOK b
  · rw [decide_eq_true h1]
    refine ev_pos rfl ?_
    simp only [Option.bind_some, toList_S, size_S]
    by_cases h2 : trim b = b
    · rw [decide_eq_true h2]
      refine ev_pos ((trimB_trim b).2 h2) ?_
      have e : decide ((b.length : Int) > 120) = decide (b.length > 120) := by
        rw [decide_eq_decide]
        omega
      cases h3 : hasQ b with
      | true => exact ev_pos rfl (Ev.now _)
      | false => exact ev_neg (by decide) (ev_is (by rw [e]; simp))
    · rw [decide_eq_false h2]
      refine ev_neg (fun q => h2 ((trimB_trim b).1 q)) (ev_is ?_)
      simp
  · rw [decide_eq_false h1]
    refine ev_neg (by decide) (ev_is ?_)
    simp

theorem impl_seek {b : List UInt8} {ws : List ByteArray} {c : Nat} {R : ByteArray × Bool} (hl : b.length ≤ 120) (hws : ws.length ≤ 120)
    (H : Ev (fun k => impl_EncodeName.l0 k (S (b.drop c)) (ws ++ [S (codeW (b.take c))])) R) :
    ∀ (f n : Nat), b.length ≤ n + f → 1 ≤ n → n ≤ b.length → grow f b n = c → Ev (fun k => impl_EncodeName.l1 k (S b) ws (n : Int)) R := by
  have fin : ∀ n : Nat, n = c → n ≤ b.length → Ev (fun k => if 0 ≤ (n : Int) then (if (n : Int) ≤ ((S b).size : Int) then ((impl_codeWord.f k ((S b).extract 0 ((n : Int)).toNat)).bind fun t => (if ws.length < 8796093022208 then (impl_EncodeName.l0 k ((S b).extract ((n : Int)).toNat (S b).size) (ws ++ [t])) else (none))) else (none)) else (none)) R := by
    intro n hn hnb
    subst hn
    have e1 : (S b).extract 0 ((n : Int)).toNat = S (b.take n) := by rw [Int.toNat_natCast, extract_S]; rfl
    have e2 : (S b).extract ((n : Int)).toNat (S b).size = S (b.drop n) := by rw [Int.toNat_natCast, extract_S, size_S, List.take_of_length_le (by rw [List.length_drop]; exact Nat.le_refl _)]
    rw [e1, e2]
    have hc := impl_codeW (b.take n) (by rw [List.length_take]; omega)
    exact ev_pos (by omega) (ev_pos (by rw [size_S]; omega) (Ev.bind hc (ev_pos (by omega) H)))
  intro f
  induction f with
  | zero =>
    intro n g1 g2 g3 hg
    have hF := fin n hg g3
    refine Ev.step (fun k => by rw [impl_EncodeName.l1]) ?_
    exact ev_neg (by rw [size_S]; omega) hF
  | succ f ihf =>
    intro n g1 g2 g3 hg
    rw [grow] at hg
    have w : wrap64 ((n : Int) + 1) = ((n + 1 : Nat) : Int) := by rw [w64 (by omega) (by omega)]; omega
    refine Ev.step (fun k => by rw [impl_EncodeName.l1]) ?_
    rw [w]
    by_cases hn : n < b.length
    · have e1 : (S b).extract 0 (((n + 1 : Nat) : Int)).toNat = S (b.take (n + 1)) := by rw [Int.toNat_natCast, extract_S]; rfl
      have hlen : (b.take (n + 1)).length ≤ 100000 := by rw [List.length_take]; omega
      have hcl := impl_codeW _ hlen
      have hcw := codeW_length (b.take (n + 1))
      rw [e1]
      by_cases h28 : (codeL (b.take (n + 1))).length ≤ 28
      · rw [if_pos ⟨hn, h28⟩] at hg
        have hx := ihf (n + 1) (by omega) (by omega) (by omega) hg
        refine ev_pos (by rw [size_S]; omega) (ev_pos (by omega) (ev_pos (by rw [size_S]; omega) (Ev.bind hcl ?_)))
        rw [size_S]
        exact ev_pos (by omega) hx
      · rw [if_neg (fun q => h28 q.2)] at hg
        have hF := fin n hg g3
        refine ev_pos (by rw [size_S]; omega) (ev_pos (by omega) (ev_pos (by rw [size_S]; omega) (Ev.bind hcl ?_)))
        rw [size_S]
        exact ev_neg (by omega) hF
    · rw [if_neg (fun q => hn q.1)] at hg
      have hF := fin n hg g3
      exact ev_neg (by rw [size_S]; omega) hF
theorem impl_spaced (pre : List (List UInt8)) (hp : ∀ w ∈ pre, codeOK w) (hl : pre.length ≤ 120) : strings_Join.f (pre.map fun w => S (codeW w)) (⟨#[32]⟩ : ByteArray) = some (S (spaced pre)) := by
  have e : ((pre.map fun w => S (codeW w)).map (·.data.toList)) = pre.map codeW := by
    rw [List.map_map]
    rfl
  have hs := spaced_len pre hp
  unfold strings_Join.f
  rw [e]
  have e2 : Lib.join (pre.map codeW) (⟨#[32]⟩ : ByteArray).data.toList = spaced pre := rfl
  rw [e2, if_pos ⟨by rw [List.length_map]; omega, by omega⟩]
  rfl
theorem impl_enc_loop : ∀ (m : Nat) (b : List UInt8) (pre : List (List UInt8)), b.length ≤ m → pre.length + b.length ≤ 120 → (∀ w ∈ pre, codeOK w) →
    Ev (fun k => impl_EncodeName.l0 k (S b) (pre.map fun w => S (codeW w))) (S (spaced (pre ++ words b)), true) := by
  intro m
  induction m with
  | zero =>
    intro b pre h1 h2 hp
    have : b = [] := List.eq_nil_of_length_eq_zero (by omega)
    subst this
    refine Ev.step (fun k => by rw [impl_EncodeName.l0]) ?_
    rw [words_nil, List.append_nil, impl_spaced pre hp (by omega)]
    exact ev_neg (by decide) (Ev.now _)
  | succ m ih =>
    intro b pre h1 h2 hp
    by_cases hb : b = []
    · subst hb
      refine Ev.step (fun k => by rw [impl_EncodeName.l0]) ?_
      rw [words_nil, List.append_nil, impl_spaced pre hp (by omega)]
      exact ev_neg (by decide) (Ev.now _)
    · have hlb := List.length_pos_iff.2 hb
      obtain ⟨c1, c2, _⟩ := cutW_bd hb
      have ok := word_ok hb
      obtain ⟨c, hc⟩ : ∃ c, cutW b = c := ⟨_, rfl⟩
      have hx := ih (b.drop c) (pre ++ [b.take c]) (by rw [List.length_drop]; omega) (by simp only [List.length_append, List.length_drop, List.length_cons, List.length_nil]; omega) (by
        intro w hw
        rcases List.mem_append.1 hw with hw | hw
        · exact hp w hw
        · rw [List.mem_singleton.1 hw, ← hc]
          exact ok)
      rw [List.map_append, List.append_assoc, List.map_cons, List.map_nil] at hx
      have e : [b.take c] ++ words (b.drop c) = words b := by
        rw [words_cons hb, hc]
        rfl
      rw [e] at hx
      have hs := impl_seek (b := b) (ws := pre.map fun w => S (codeW w)) (c := c) (by omega) (by rw [List.length_map]; omega) hx b.length 1 (by omega) (by omega) (by omega) hc
      refine Ev.step (fun k => by rw [impl_EncodeName.l0]) ?_
      exact ev_pos (by rw [size_S]; omega) hs
theorem impl_enc (b : List UInt8) : Ev (fun k => impl_EncodeName.f k (S b)) (encR b) := by
  simp only [impl_EncodeName.f, size_S]
  unfold encR
  by_cases h : b.length > 120
  · rw [if_pos h]
    exact ev_pos (by omega) (Ev.now _)
  · rw [if_neg h]
    refine ev_neg (by omega) (Ev.bind (impl_needs b (by omega)) ?_)
    cases hn : needC b with
    | false =>
      rw [if_neg (by decide)]
      exact ev_neg (by decide) (Ev.now _)
    | true =>
      rw [if_pos rfl]
      have := impl_enc_loop b.length b [] (Nat.le_refl _) (by simp only [List.length_nil]; omega) (by simp)
      rw [List.nil_append] at this
      exact ev_pos rfl this

theorem needC_no {b : List UInt8} (h : needC b = false) : textOK b ∧ trim b = b ∧ b.length ≤ 120 := by
  unfold needC at h
  simp only [Bool.or_eq_false_iff, Bool.not_eq_false', decide_eq_true_eq, decide_eq_false_iff_not] at h
  exact ⟨h.1.1.2, h.1.2, by omega⟩
theorem trim_head {c : UInt8} {r : List UInt8} (h : trim (c :: r) = c :: r) : c ≠ 32 := by
  intro q
  subst q
  have h1 : trim (32 :: r) = trim r := by
    unfold trim trimL
    rw [List.dropWhile_cons, if_pos (by decide)]
  have h2 := trim_len r
  have h3 := congrArg List.length h
  rw [h1, List.length_cons] at h3
  omega
theorem trim_last {r : List UInt8} {c : UInt8} (h : trim (r ++ [c]) = r ++ [c]) : c ≠ 32 := by
  intro q
  subst q
  have h0 := trimR_len (trimL (r ++ [32]))
  have h3 := congrArg List.length h
  unfold trim at h h3
  have e : trimL (r ++ [32]) = r ++ [32] := trimL_full (by omega)
  rw [e, trimR_snoc, if_pos rfl] at h3
  have h4 := trimR_len r
  rw [List.length_append, List.length_cons, List.length_nil] at h3
  omega

theorem FnNeedsCode : laws_FnNeedsCode.Pure := by
  intro l0 _ _ hw
  refine Ev.rounds ?_
  simp only [laws_FnNeedsCode.f]
  by_cases hl : (l0.length : Int) > 1048576
  · exact ev_pos hl (Ev.now _)
  refine ev_neg hl ?_
  obtain ⟨t, ht, hd⟩ := drawneeds_ex l0 (bytes_wf hw)
  obtain ⟨b, rfl⟩ := ex_S t
  rw [size_S] at ht
  refine Ev.bind hd (Ev.bind (impl_needs b (by omega)) (Ev.bind (spec_needs b (by omega)) (ev_neg (by simp) ?_)))
  refine Ev.step (fun k => by rw [laws_FnNeedsCode.j0]) ?_
  cases hn : needC b with
  | true =>
    have h2 := spec_needs b (by omega)
    rw [hn] at h2
    exact ev_pos rfl (Ev.bind h2 (Ev.now _))
  | false =>
    obtain ⟨h1, h2, h3⟩ := needC_no hn
    have he := impl_enc b
    have e : encR b = (S b, true) := by
      unfold encR
      rw [if_neg (by omega), hn, if_neg (by decide)]
    rw [e] at he
    have hx := impl_text b (by omega)
    rw [decide_eq_true h1] at hx
    refine ev_neg (by decide) (Ev.bind he (ev_pos rfl (ev_pos rfl (Ev.bind hx (ev_pos rfl ?_)))))
    rw [toList_S, size_S]
    rcases List.eq_nil_or_concat b with q | ⟨r, c, q⟩
    · exact ev_pos q (Ev.now _)
    · rw [List.concat_eq_append] at q
      have hc : c ≠ 32 := trim_last (r := r) (by rw [← q]; exact h2)
      have hlen : b.length = r.length + 1 := by rw [q]; simp
      have w : wrap64 ((b.length : Int) - 1) = (r.length : Int) := by rw [w64 (by omega) (by omega)]; omega
      have h0 : (bt (S b) 0) ≠ 32 := by
        rw [bt_S]
        cases hb : b with
        | nil => rw [hb] at hlen; simp at hlen
        | cons x y =>
          have hx0 : x ≠ 32 := trim_head (r := y) (by rw [← hb]; exact h2)
          intro z
          exact hx0 ((u8_is (n := 32) (by omega)).1 z)
      have hz : bt (S b) (r.length : Int) = (c.toNat : Int) := by
        rw [bt_S, q]
        simp
      rw [w, hz]
      refine ev_neg (by rw [q]; simp) (ev_pos (by omega) (ev_neg h0 (ev_pos (by omega) (ev_pos (by omega) (ev_is ?_)))))
      have : (c.toNat : Int) ≠ 32 := fun z => hc ((u8_is (n := 32) (by omega)).1 z)
      exact congrArg some (bne_iff_ne.2 this)

end Go.Proofs.YtkebacobfjanjaaDoor.PLFnNeedsCode
namespace Go.Proofs.YtkebacobfjanjaaDoor.Pure
open Go.Proofs.YtkebacobfjanjaaDoor.PFnNeedsCode
theorem FnNeedsCode : laws_FnNeedsCode.Pure := PLFnNeedsCode.FnNeedsCode
end Go.Proofs.YtkebacobfjanjaaDoor.Pure
