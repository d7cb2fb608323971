/- The law FnBestCode holds of the printed functions: the best way is short. No conditions. -/
import Derived.Test.YtdkgbemlfajhcaaDoorPFnBestCodex9
import Derived.Test.YtdkgbemlfajhcaaDoorMBase
import Derived.Test.YtdkgbemlfajhcaaDoorMStr
import Derived.Test.YtdkgbemlfajhcaaDoorMQuot
import Derived.Test.YtdkgbemlfajhcaaDoorMDecQ
import Derived.Test.YtdkgbemlfajhcaaDoorMSoft
import Derived.Test.YtdkgbemlfajhcaaDoorMB64
import Derived.Test.YtdkgbemlfajhcaaDoorMDeb
import Derived.Test.YtdkgbemlfajhcaaDoorMCode
import Derived.Test.YtdkgbemlfajhcaaDoorMRead
import Derived.Test.YtdkgbemlfajhcaaDoorMParts
import Derived.Test.YtdkgbemlfajhcaaDoorMName
import Derived.Test.YtdkgbemlfajhcaaDoorMEnc
namespace Go.Proofs.YtdkgbemlfajhcaaDoor.PLFnBestCode
open Go.RowKit Go.Proofs.YtdkgbemlfajhcaaDoor.PFnBestCode Go.Proofs.YtdkgbemlfajhcaaDoorW.PrintWords Go.Proofs.YtdkgbemlfajhcaaDoorW.PrintLast Go.Proofs.YtdkgbemlfajhcaaDoorW.PrintMore Go.Proofs.YtdkgbemlfajhcaaDoor.M

theorem open_ex (l : List Int) (h : Bytes l) : ∃ b, spec_l13Open.f l = some (b, 0) ∧ Bytes b ∧ b.length ≤ 2000 := by
  unfold spec_l13Open.f
  by_cases e : (l.length : Int) > 2000
  · rw [if_pos e, if_pos (by omega)]
    exact ⟨_, rfl, bytes_take h _, by rw [List.length_take]; omega⟩
  · rw [if_neg e]
    exact ⟨_, rfl, h, by omega⟩

theorem pick_ev (b : List Int) (p n : Int) (hb : Bytes b) (hl : b.length ≤ 2000) (hp : 0 ≤ p) (hp1 : p ≤ 1000000) (hn : 1 ≤ n) :
    ∃ r, 0 ≤ r ∧ r < n ∧ Ev (fun k => spec_l13Rd_pick.f k b p n) (r, p + 1) := by
  have w1 : wrap64 (p + 1) = p + 1 := w64 (by omega) (by omega)
  have w2 : wrap64 (p + 1 - 1) = p := by
    rw [w64 (by omega) (by omega)]
    omega
  by_cases e0 : (b.length : Int) = 0
  · refine ⟨0, by omega, by omega, ?_⟩
    simp only [spec_l13Rd_pick.f]
    refine ev_neg (by omega) ?_
    rw [w1]
    refine Ev.step (fun k => by rw [spec_l13Rd_pick.j0]) ?_
    refine ev_pos (by simp [e0]) ?_
    exact Ev.now _
  · have f0 : ((b.length : Int) == 0) = false := beq_eq_false_iff_ne.mpr e0
    by_cases e1 : p < (b.length : Int)
    · obtain ⟨r0, r1⟩ := rd_bytes hb p
      have w3 : wrap64 (rd b p) = rd b p := w64 (by omega) (by omega)
      refine ⟨rd b p % n, Int.emod_nonneg _ (by omega), Int.emod_lt_of_pos _ (by omega), ?_⟩
      simp only [spec_l13Rd_pick.f]
      refine ev_neg (by omega) ?_
      rw [w1, f0]
      refine Ev.step (fun k => by rw [spec_l13Rd_pick.j0]) ?_
      simp only [w2, w3]
      refine ev_neg (by simp) (ev_pos e1 (ev_pos hp (ev_neg (by omega) ?_)))
      rw [Int.tmod_eq_emod_of_nonneg r0]
      exact Ev.now _
    · have hL : (0 : Int) < (b.length : Int) := by omega
      have t1 : Int.tmod p (b.length : Int) = p % (b.length : Int) := Int.tmod_eq_emod_of_nonneg hp
      have w4 : wrap64 (p * 7) = p * 7 := w64 (by omega) (by omega)
      have w5 : wrap64 (p * 7 + 3) = p * 7 + 3 := w64 (by omega) (by omega)
      have t2 : Int.tmod (p * 7 + 3) (b.length : Int) = (p * 7 + 3) % (b.length : Int) := Int.tmod_eq_emod_of_nonneg (by omega)
      have a0 := Int.emod_nonneg p (b := (b.length : Int)) (by omega)
      have a1 := Int.emod_lt_of_pos p hL
      have c0 := Int.emod_nonneg (p * 7 + 3) (b := (b.length : Int)) (by omega)
      have c1 := Int.emod_lt_of_pos (p * 7 + 3) hL
      obtain ⟨x0, x1⟩ := rd_bytes hb (p % (b.length : Int))
      obtain ⟨y0, y1⟩ := rd_bytes hb ((p * 7 + 3) % (b.length : Int))
      have d1 : Int.tdiv p (b.length : Int) = p / (b.length : Int) := Int.tdiv_eq_ediv_of_nonneg hp
      have d2 : 0 ≤ p / (b.length : Int) := Int.ediv_nonneg hp (by omega)
      have d3 : p / (b.length : Int) ≤ p := Int.ediv_le_self _ hp
      have ew1 : wrap64 (rd b (p % (b.length : Int))) = rd b (p % (b.length : Int)) := w64 (by omega) (by omega)
      have ew2 : wrap64 (rd b ((p * 7 + 3) % (b.length : Int))) = rd b ((p * 7 + 3) % (b.length : Int)) := w64 (by omega) (by omega)
      have ew3 : wrap64 (p / (b.length : Int)) = p / (b.length : Int) := w64 (by omega) (by omega)
      have hz : ∀ x y q : Int, 0 ≤ x → x < 256 → 0 ≤ y → y < 256 → 0 ≤ q → q ≤ p →
          wrap64 ((wrap64 ((wrap64 ((wrap64 (x * 131)) + (wrap64 (y * 1117)))) + (wrap64 (p * 29)))) + (wrap64 (q * 53))) = x * 131 + y * 1117 + p * 29 + q * 53 := by
        intro x y q hx hx1 hy hy1 hq hq1
        rw [w64 (n := x * 131) (by omega) (by omega), w64 (n := y * 1117) (by omega) (by omega), w64 (n := p * 29) (by omega) (by omega), w64 (n := q * 53) (by omega) (by omega),
          w64 (n := x * 131 + y * 1117) (by omega) (by omega), w64 (n := x * 131 + y * 1117 + p * 29) (by omega) (by omega), w64 (by omega) (by omega)]
      have hz' := hz _ _ _ x0 x1 y0 y1 d2 d3
      obtain ⟨S, hS⟩ : ∃ S, S = rd b (p % (b.length : Int)) * 131 + rd b ((p * 7 + 3) % (b.length : Int)) * 1117 + p * 29 + p / (b.length : Int) * 53 := ⟨_, rfl⟩
      rw [← hS] at hz'
      have s0 : 0 ≤ S ∧ S < 1000000000 := by omega
      have s1 : Int.tdiv S 64 = S / 64 := Int.tdiv_eq_ediv_of_nonneg s0.1
      have s2 : wrap64 (S / 64) = S / 64 := w64 (by omega) (by omega)
      have hx := xor_nonneg (x := S) (y := S / 64) (by omega) (by omega) (by omega) (by omega)
      refine ⟨bits .xor .i64 S (S / 64) % n, Int.emod_nonneg _ (by omega), Int.emod_lt_of_pos _ (by omega), ?_⟩
      simp only [spec_l13Rd_pick.f]
      refine ev_neg (by omega) ?_
      rw [w1, f0]
      refine Ev.step (fun k => by rw [spec_l13Rd_pick.j0]) ?_
      simp only [w2, t1, w4, w5, t2, d1, ew1, ew2, ew3, hz', s1, s2]
      refine ev_neg (by simp) (ev_neg e1 (ev_neg e0 (ev_pos a0 (ev_pos a1 (ev_pos c0 (ev_pos c1 (ev_neg (by omega) ?_)))))))
      rw [Int.tmod_eq_emod_of_nonneg hx]
      exact Ev.now _

theorem num_ev (b : List Int) (p : Int) (l : List Int) (hb : Bytes b) (hl : b.length ≤ 2000) (hp : 0 ≤ p) (hp1 : p ≤ 1000000) (hn : 1 ≤ l.length) :
    ∃ r, 0 ≤ r ∧ r < (l.length : Int) ∧ Ev (fun k => spec_l13Rd_num.f k b p l) (rd l r, p + 1) := by
  obtain ⟨r, h0, h1, h⟩ := pick_ev b p (l.length : Int) hb hl hp hp1 (by omega)
  refine ⟨r, h0, h1, ?_⟩
  simp only [spec_l13Rd_num.f]
  refine Ev.bind h ?_
  exact ev_pos h0 (ev_pos h1 (Ev.now _))

theorem of_ev (b : List Int) (p : Int) (l : List ByteArray) (hb : Bytes b) (hl : b.length ≤ 2000) (hp : 0 ≤ p) (hp1 : p ≤ 1000000) (hn : 1 ≤ l.length) :
    ∃ x ∈ l, Ev (fun k => spec_l13Rd_of.f k b p l) (x, p + 1) := by
  obtain ⟨r, h0, h1, h⟩ := pick_ev b p (l.length : Int) hb hl hp hp1 (by omega)
  have hr : r.toNat < l.length := by omega
  refine ⟨l[r.toNat], List.getElem_mem hr, ?_⟩
  have e : rdOf ByteArray.empty l r = l[r.toNat] := by
    unfold rdOf
    rw [List.getD_eq_getElem?_getD, List.getElem?_eq_getElem hr]
    rfl
  simp only [spec_l13Rd_of.f]
  refine Ev.bind h ?_
  refine ev_pos h0 (ev_pos h1 ?_)
  rw [e]
  exact Ev.now _

/-- Long strings grow past the limit. -/
theorem l5long_ex (b : List Int) (p : Int) : ∀ (d : Nat) (s : ByteArray), s.size ≤ 100000 → 301 - s.size ≤ d → ∃ t, t.size ≤ 100000 ∧ Ev (fun k => spec_l5Draw.l1 k s b p) (t, p) := by
  intro d
  induction d with
  | zero =>
    intro s hs hd
    refine ⟨s, hs, ?_⟩
    refine Ev.step (fun k => by rw [spec_l5Draw.l1]) ?_
    exact ev_neg (by omega) (Ev.now _)
  | succ d ih =>
    intro s hs hd
    by_cases c : (s.size : Int) ≤ 300
    · have hz : (s ++ (⟨#[48, 49, 50, 51, 52, 53, 54, 55, 56, 57]⟩ : ByteArray)).size = s.size + 10 := by rw [ByteArray.size_append]; rfl
      obtain ⟨t, ht, h⟩ := ih (s ++ (⟨#[48, 49, 50, 51, 52, 53, 54, 55, 56, 57]⟩ : ByteArray)) (by omega) (by omega)
      refine ⟨t, ht, ?_⟩
      refine Ev.step (fun k => by rw [spec_l5Draw.l1]) ?_
      exact ev_pos c (ev_pos (by omega) h)
    · refine ⟨s, hs, ?_⟩
      refine Ev.step (fun k => by rw [spec_l5Draw.l1]) ?_
      exact ev_neg c (Ev.now _)

theorem l5loop_ex (b : List Int) (hb : Bytes b) (hl : b.length ≤ 2000) : ∀ (n : Nat) (s : ByteArray) (p : Int), n ≤ 8 → 0 ≤ p → p + n ≤ 1000 → s.size + 50 * n ≤ 1000 →
    ∃ t q, t.size ≤ 100000 ∧ 0 ≤ q ∧ q ≤ 2000 ∧ Ev (fun k => spec_l5Draw.l0 k s (n : Int) b p) (t, q) := by
  intro n
  induction n with
  | zero =>
    intro s p h8 hp hp1 hs
    obtain ⟨r, h0, h1, h⟩ := pick_ev b p 40 hb hl hp (by omega) (by omega)
    by_cases c : r = 0
    · obtain ⟨t, ht, h2⟩ := l5long_ex b (p + 1) 301 s (by omega) (by omega)
      refine ⟨t, p + 1, ht, by omega, by omega, ?_⟩
      refine Ev.step (fun k => by rw [spec_l5Draw.l0]) ?_
      refine ev_neg (by omega) ?_
      refine Ev.bind h ?_
      exact ev_pos c h2
    · refine ⟨s, p + 1, by omega, by omega, by omega, ?_⟩
      refine Ev.step (fun k => by rw [spec_l5Draw.l0]) ?_
      refine ev_neg (by omega) ?_
      refine Ev.bind h ?_
      exact ev_neg c (Ev.now _)
  | succ n ih =>
    intro s p h8 hp hp1 hs
    obtain ⟨x, hx, h⟩ := of_ev b p ([(⟨#[104, 101, 108, 108, 111]⟩ : ByteArray), (⟨#[32]⟩ : ByteArray), (⟨#[61]⟩ : ByteArray), (⟨#[10]⟩ : ByteArray), (⟨#[255, 0]⟩ : ByteArray), (⟨#[99, 97, 102, 195, 169]⟩ : ByteArray), (⟨#[97, 32, 108, 111, 110, 103, 101, 114, 32, 114, 111, 119, 32, 111, 102, 32, 119, 111, 114, 100, 115, 32, 116, 104, 97, 116, 32, 105, 115, 32, 98, 114, 111, 107, 101, 110, 32, 104, 101, 114, 101]⟩ : ByteArray), (⟨#[120]⟩ : ByteArray), (⟨#[46]⟩ : ByteArray), (⟨#[9]⟩ : ByteArray)] : List ByteArray) hb hl hp (by omega) (by simp)
    have hxs : x.size ≤ 50 := by
      simp only [List.mem_cons, List.not_mem_nil, or_false] at hx
      rcases hx with rfl | rfl | rfl | rfl | rfl | rfl | rfl | rfl | rfl | rfl <;> decide
    obtain ⟨t, q, ht, hq0, hq1, h2⟩ := ih (s ++ x) (p + 1) (by omega) (by omega) (by omega) (by rw [ByteArray.size_append]; omega)
    refine ⟨t, q, ht, hq0, hq1, ?_⟩
    have w : wrap64 (((n + 1 : Nat) : Int) - 1) = (n : Int) := by rw [w64 (by omega) (by omega)]; omega
    refine Ev.step (fun k => by rw [spec_l5Draw.l0]) ?_
    refine ev_pos (by omega) ?_
    refine Ev.bind h ?_
    refine ev_pos (show s.size + x.size ≤ 9223372036854775807 by omega) ?_
    rw [w]
    exact h2

theorem l5draw_ex (b : List Int) (p : Int) (hb : Bytes b) (hl : b.length ≤ 2000) (hp : 0 ≤ p) (hp1 : p ≤ 100) :
    ∃ t q, t.size ≤ 100000 ∧ 0 ≤ q ∧ q ≤ 2000 ∧ Ev (fun k => spec_l5Draw.f k b p) (t, q) := by
  obtain ⟨r, h0, h1, h⟩ := num_ev b p [3, 2, 5, 1, 0, 8] hb hl hp (by omega) (by simp)
  simp only [List.length_cons, List.length_nil] at h1
  have hr : ∃ n : Nat, n ≤ 8 ∧ rd [3, 2, 5, 1, 0, 8] r = (n : Int) := by
    have : r = 0 ∨ r = 1 ∨ r = 2 ∨ r = 3 ∨ r = 4 ∨ r = 5 := by omega
    rcases this with rfl | rfl | rfl | rfl | rfl | rfl
    · exact ⟨3, by omega, rfl⟩
    · exact ⟨2, by omega, rfl⟩
    · exact ⟨5, by omega, rfl⟩
    · exact ⟨1, by omega, rfl⟩
    · exact ⟨0, by omega, rfl⟩
    · exact ⟨8, by omega, rfl⟩
  obtain ⟨n, hn, e⟩ := hr
  rw [e] at h
  obtain ⟨t, q, ht, hq0, hq1, h2⟩ := l5loop_ex b hb hl n (⟨#[]⟩ : ByteArray) (p + 1) hn (by omega) (by omega) (by show 0 + 50 * n ≤ 1000; omega)
  refine ⟨t, q, ht, hq0, hq1, ?_⟩
  simp only [spec_l5Draw.f]
  refine Ev.bind h ?_
  exact h2

theorem drawbest_ex (l : List Int) (h : Bytes l) : ∃ t, t.size ≤ 100000 ∧ Ev (fun k => spec_DrawBestCode.f k l) t := by
  obtain ⟨b, hb, h1, h2⟩ := open_ex l h
  obtain ⟨t, q, ht, _, _, h3⟩ := l5draw_ex b 0 h1 h2 (by omega) (by omega)
  refine ⟨t, ht, ?_⟩
  simp only [spec_DrawBestCode.f, hb, Option.bind_some]
  exact Ev.bind h3 (Ev.now _)

/-- Lines that need no code. -/
def okL (l : List UInt8) : Prop := textOK l ∧ l.length ≤ 40
instance (l : List UInt8) : Decidable (okL l) := by unfold okL; exact inferInstance
def tailL (r : List (List UInt8)) : List UInt8 := (r.map ([10] ++ ·)).flatten
theorem tailL_cons (x : List UInt8) (r : List (List UInt8)) : tailL (x :: r) = [10] ++ (x ++ tailL r) := by simp [tailL]
def plainR (ls : List (List UInt8)) : ByteArray × Bool := if ls ≠ [] ∧ (∀ l ∈ ls, okL l) ∧ (Lib.join ls [10]).length ≤ 300 then (S (Lib.join ls [10]), true) else (S [], false)
def resL (c : Int) (acc : List UInt8) (r : List (List UInt8)) : ByteArray × Bool := if (∀ l ∈ r, okL l) ∧ (acc ++ tailL r).length ≤ 300 then (if c = 0 then (S (acc ++ tailL r), true) else (S [], false)) else (S [], false)
theorem resL_bad {c : Int} {acc x : List UInt8} {r : List (List UInt8)} (h : ¬ okL x ∨ (acc ++ [10] ++ x).length > 300) : resL c acc (x :: r) = (S [], false) := by
  unfold resL
  rw [if_neg]
  rintro ⟨h1, h2⟩
  rcases h with h | h
  · exact h (h1 x (by simp))
  · rw [tailL_cons] at h2
    simp only [List.length_append] at h h2
    omega
theorem resL_next {c : Int} {acc x : List UInt8} {r : List (List UInt8)} (h : okL x) : resL c acc (x :: r) = resL c (acc ++ [10] ++ x) r := by
  have e : acc ++ tailL (x :: r) = acc ++ [10] ++ x ++ tailL r := by rw [tailL_cons]; simp only [List.append_assoc]
  unfold resL
  rw [e]
  by_cases q : (∀ l ∈ r, okL l) ∧ (acc ++ [10] ++ x ++ tailL r).length ≤ 300
  · rw [if_pos q, if_pos ⟨fun l hl => by
      rcases List.mem_cons.1 hl with hl | hl
      · rw [hl]; exact h
      · exact q.1 l hl, q.2⟩]
  · rw [if_neg q, if_neg (fun z => q ⟨fun l hl => z.1 l (by simp [hl]), z.2⟩)]
theorem plainR_first (x : List UInt8) (r : List (List UInt8)) : plainR (x :: r) = if okL x ∧ x.length ≤ 300 then resL 0 x r else (S [], false) := by
  have e : Lib.join (x :: r) [10] = x ++ tailL r := Lib.join_cons x r [10]
  unfold plainR resL
  rw [e]
  by_cases h : okL x
  · have c0 : okL x ∧ x.length ≤ 300 := ⟨h, by have := h.2; omega⟩
    rw [if_pos c0]
    by_cases q : (∀ l ∈ r, okL l) ∧ (x ++ tailL r).length ≤ 300
    · have c1 : x :: r ≠ [] ∧ (∀ l ∈ x :: r, okL l) ∧ (x ++ tailL r).length ≤ 300 := ⟨by simp, fun l hl => by
        rcases List.mem_cons.1 hl with hl | hl
        · rw [hl]; exact h
        · exact q.1 l hl, q.2⟩
      rw [if_pos q, if_pos c1, if_pos rfl]
    · have c1 : ¬ (x :: r ≠ [] ∧ (∀ l ∈ x :: r, okL l) ∧ (x ++ tailL r).length ≤ 300) := fun z => q ⟨fun l hl => z.2.1 l (by simp [hl]), z.2.2⟩
      rw [if_neg q, if_neg c1]
  · have c0 : ¬ (okL x ∧ x.length ≤ 300) := fun z => h z.1
    have c1 : ¬ (x :: r ≠ [] ∧ (∀ l ∈ x :: r, okL l) ∧ (x ++ tailL r).length ≤ 300) := fun z => h (z.2.1 x (by simp))
    rw [if_neg c0, if_neg c1]
/-- What DecodeBytes returns. -/
noncomputable def decB3 (ls : List (List UInt8)) (c : Int) : ByteArray × Bool := if c = 1 then decR ls else if c = 2 then debR ls.flatten else if c = 0 then plainR ls else (S [], false)

/-- Bytes that need no code. -/
def encP (b : List UInt8) : List ByteArray × Bool := if (∀ l ∈ parts 10 b, okL l) ∧ b.length ≤ 300 then (SL (parts 10 b), true) else ([], false)

/-- The bytes of lines, one more for each line, as a machine counts. -/
def wsum : List ByteArray → Int → Int
  | [], x => x
  | s :: r, x => wsum r (wrap64 (x + (s.size : Int) + 1))
theorem wrap_a (x y : Int) : wrap64 (wrap64 (x + y) + 1) = wrap64 (x + y + 1) := by unfold wrap64; omega
theorem wrap_b (x y : Int) : wrap64 (x + wrap64 (y + 1)) = wrap64 (x + y + 1) := by unfold wrap64; omega
theorem rd_at (ls : List ByteArray) (i : Nat) (h : i < ls.length) : rdOf ByteArray.empty ls (i : Int) = ls[i] := by
  unfold rdOf
  rw [List.getD_eq_getElem?_getD]
  simp [h]
theorem spec_size (ls : List ByteArray) (hn : ls.length ≤ 100000000) : Ev (fun k => spec_l5Size.f k ls) (wsum ls 0) := by
  simp only [spec_l5Size.f]
  have loop : ∀ (e i : Nat) (x : Int), i + e = ls.length → Ev (fun k => spec_l5Size.l0 k ls x (i : Int)) (wsum (ls.drop i) x) := by
    intro e
    induction e with
    | zero =>
      intro i x hi
      rw [List.drop_of_length_le (by omega)]
      refine Ev.step (fun k => by rw [spec_l5Size.l0]) ?_
      exact ev_neg (by omega) (Ev.now _)
    | succ e ih =>
      intro i x hi
      have hlt : i < ls.length := by omega
      have w : wrap64 ((i : Int) + 1) = ((i + 1 : Nat) : Int) := by rw [w64 (by omega) (by omega)]; omega
      rw [List.drop_eq_getElem_cons hlt]
      refine Ev.step (fun k => by rw [spec_l5Size.l0]) ?_
      simp only [rd_at ls i hlt, w, wrap_a]
      exact ev_pos (by omega) (ev_pos (by omega) (ih (i + 1) _ (by omega)))
  exact loop ls.length 0 0 (by omega)
theorem impl_size (ls : List ByteArray) (hn : ls.length ≤ 100000000) : Ev (fun k => impl_weight.f k ls) (wsum ls 0) := by
  simp only [impl_weight.f]
  have loop : ∀ (e i : Nat) (x : Int), i + e = ls.length → Ev (fun k => impl_weight.l0 k x ls (ls.length : Int) (i : Int)) (wsum (ls.drop i) x) := by
    intro e
    induction e with
    | zero =>
      intro i x hi
      rw [List.drop_of_length_le (by omega)]
      refine Ev.step (fun k => by rw [impl_weight.l0]) ?_
      exact ev_neg (by omega) (Ev.now _)
    | succ e ih =>
      intro i x hi
      have hlt : i < ls.length := by omega
      have w : wrap64 ((i : Int) + 1) = ((i + 1 : Nat) : Int) := by rw [w64 (by omega) (by omega)]; omega
      rw [List.drop_eq_getElem_cons hlt]
      refine Ev.step (fun k => by rw [impl_weight.l0]) ?_
      simp only [rd_at ls i hlt, w, wrap_b]
      exact ev_pos (by omega) (ev_pos (by omega) (ev_pos (by omega) (ih (i + 1) _ (by omega))))
  exact loop ls.length 0 0 (by omega)

theorem spec_hex (c : UInt8) : spec_l5Hex.f (c.toNat : Int) = some (S (hex3 c)) := by
  have hc := c.toNat_lt
  unfold spec_l5Hex.f
  have a : bits .and .u8 (c.toNat : Int) 15 = ((c.toNat % 16 : Nat) : Int) := by
    rw [u8_and15 _ (by omega) (by omega)]
    omega
  have b : ((c.toNat : Int) / 16) = ((c.toNat / 16 : Nat) : Int) := by omega
  have e1 : ((((c.toNat / 16 : Nat) : Int) + 1) % 256) = (((c.toNat / 16) + 1 : Nat) : Int) := by omega
  have e2 : ((((c.toNat % 16 : Nat) : Int) + 1) % 256) = (((c.toNat % 16) + 1 : Nat) : Int) := by omega
  have x1 := extract_digit (c.toNat / 16) (by omega)
  have x2 := extract_digit (c.toNat % 16) (by omega)
  simp only [a, b, e1, e2, Int.toNat_natCast, x1, x2, mk_S, append_S, size_S]
  rw [if_pos (by omega), if_pos (by omega), if_pos (by omega), if_pos (by simp), if_pos (by omega), if_pos (by omega), if_pos (by omega), if_pos (by simp)]
  rfl


theorem spec_byte (c : UInt8) (last : Bool) : spec_l5Byte.f (c.toNat : Int) last = some (S (quoteB c last)) := by
  have hc := c.toNat_lt
  have hself : strOfNums ([(c.toNat : Int)] : List Int) = S [c] := by
    rw [strOfNums_S]
    simp
  unfold spec_l5Byte.f quoteB plainQ
  simp only [spec_hex, hself, Option.bind_some]
  by_cases h1 : (c.toNat : Int) ≥ 33
  · rw [if_pos h1]
    by_cases h2 : (c.toNat : Int) ≤ 126
    · rw [if_pos h2]
      by_cases h3 : (c.toNat : Int) = 61
      · rw [if_pos h3, if_neg (by omega)]
        have h3' : c.toNat = 61 := by omega
        simp [h3']
      · rw [if_neg h3]
        have : 33 ≤ c.toNat ∧ c.toNat ≤ 126 ∧ c.toNat ≠ 61 := by omega
        simp [this]
    · rw [if_neg h2, if_neg (by omega)]
      have a : ¬ (33 ≤ c.toNat ∧ c.toNat ≤ 126 ∧ c.toNat ≠ 61) := by omega
      have b : ¬ c.toNat = 32 := by omega
      simp [a, b]
  · rw [if_neg h1]
    have a : ¬ (33 ≤ c.toNat ∧ c.toNat ≤ 126 ∧ c.toNat ≠ 61) := by omega
    by_cases h3 : (c.toNat : Int) = 32
    · rw [if_pos h3]
      have h3' : c.toNat = 32 := by omega
      cases last <;> simp [h3']
    · rw [if_neg h3]
      have b : ¬ c.toNat = 32 := by omega
      simp [a, b]

theorem spec_quot_loop (b : List UInt8) (hb : b.length ≤ 300) : ∀ (e i : Nat) (outs : List (List UInt8)) (line : List UInt8), i + e = b.length → outs.length ≤ i → line.length ≤ 42 →
    Ev (fun k => spec_EncodeQuoted.l0 k (S b) (SL outs) (S line) (i : Int)) (SL (outs ++ encQ (b.drop i) line), true) := by
  intro e
  induction e with
  | zero =>
    intro i outs line hi ho hl
    refine Ev.step (fun k => by rw [spec_EncodeQuoted.l0]) ?_
    simp only [size_S, SL_length]
    refine ev_neg (by omega) (ev_pos (by omega) ?_)
    rw [List.drop_of_length_le (by omega), SL_one, SL_append]
    exact Ev.now _
  | succ e ih =>
    intro i outs line hi ho hl
    have hlt : i < b.length := by omega
    have w : wrap64 ((i : Int) + 1) = ((i + 1 : Nat) : Int) := by rw [w64 (by omega) (by omega)]; omega
    refine Ev.step (fun k => by rw [spec_EncodeQuoted.l0]) ?_
    simp only [size_S, SL_length, w, bt_S, Int.toNat_natCast, mk_S, append_S, SL_one, SL_append]
    have hg : b.getD i 0 = b[i] := by rw [List.getD_eq_getElem?_getD, List.getElem?_eq_getElem hlt]; rfl
    rw [drop_cons hlt]
    simp only [hg]
    refine ev_pos (by omega) (ev_pos (by omega) ?_)
    by_cases c10 : ((b[i]).toNat : Int) = 10
    · refine ev_pos c10 (ev_pos (by omega) ?_)
      have := ih (i + 1) (outs ++ [line]) [] (by omega) (by simp; omega) (by simp)
      have e1 : encQ (b[i] :: b.drop (i + 1)) line = line :: encQ (b.drop (i + 1)) [] := by
        rw [encQ, if_pos (by omega)]
      rw [e1]
      simpa using this
    refine ev_neg c10 ?_
    -- what stands for the byte, whether it is the last of its line or not
    have step : ∀ last, last = lastQ (b.drop (i + 1)) →
        Ev (fun k => if wrap64 ((line.length : Int) + ((quoteB b[i] last).length : Int)) > 39 then
            (if line.length + 1 ≤ 9223372036854775807 then (if outs.length < 8796093022208 then (if 0 + (quoteB b[i] last).length ≤ 9223372036854775807 then
              spec_EncodeQuoted.l0 k (S b) (SL (outs ++ [line ++ [61]])) (S ([] ++ quoteB b[i] last)) ((i + 1 : Nat) : Int) else none) else none) else none)
            else (if line.length + (quoteB b[i] last).length ≤ 9223372036854775807 then spec_EncodeQuoted.l0 k (S b) (SL outs) (S (line ++ quoteB b[i] last)) ((i + 1 : Nat) : Int) else none))
          (SL (outs ++ encQ (b[i] :: b.drop (i + 1)) line), true) := by
      intro last hlast
      obtain ⟨q1, q2⟩ := quoteB_length b[i] last
      have w2 : wrap64 ((line.length : Int) + ((quoteB b[i] last).length : Int)) = ((line.length + (quoteB b[i] last).length : Nat) : Int) := by rw [w64 (by omega) (by omega)]; omega
      rw [w2]
      by_cases c39 : line.length + (quoteB b[i] last).length > 39
      · refine ev_pos (by omega) (ev_pos (by omega) (ev_pos (by omega) (ev_pos (by omega) ?_)))
        have := ih (i + 1) (outs ++ [line ++ [61]]) (quoteB b[i] last) (by omega) (by simp; omega) (by omega)
        have e1 : encQ (b[i] :: b.drop (i + 1)) line = (line ++ [61]) :: encQ (b.drop (i + 1)) (quoteB b[i] last) := by
          rw [encQ, if_neg (by omega), ← hlast, if_pos c39]
        rw [e1]
        simpa using this
      · refine ev_neg (by omega) (ev_pos (by omega) ?_)
        have := ih (i + 1) outs (line ++ quoteB b[i] last) (by omega) (by omega) (by simp; omega)
        have e1 : encQ (b[i] :: b.drop (i + 1)) line = encQ (b.drop (i + 1)) (line ++ quoteB b[i] last) := by
          rw [encQ, if_neg (by omega), ← hlast, if_neg c39]
        rw [e1]
        exact this
    by_cases hend : ((i + 1 : Nat) : Int) = (b.length : Int)
    · refine ev_pos hend ?_
      refine ev_bind0 (spec_byte b[i] true) ?_
      simp only [size_S, append_S]
      exact step true (by rw [List.drop_of_length_le (by omega)]; rfl)
    · refine ev_neg hend (ev_pos (by omega) (ev_pos (by omega) ?_))
      have hlt2 : i + 1 < b.length := by omega
      have hg2 : b.getD (i + 1) 0 = b[i + 1] := by rw [List.getD_eq_getElem?_getD, List.getElem?_eq_getElem hlt2]; rfl
      rw [hg2]
      refine ev_bind0 (spec_byte b[i] _) ?_
      simp only [size_S, append_S]
      refine step _ ?_
      rw [drop_cons hlt2]
      show _ = decide _
      rw [Bool.eq_iff_iff]
      simp
      omega

theorem spec_quot (b : List UInt8) : Ev (fun k => spec_EncodeQuoted.f k (S b)) (quotR b) := by
  simp only [spec_EncodeQuoted.f, size_S]
  unfold quotR
  by_cases h : b.length > 300
  · rw [if_pos h]
    exact ev_pos (by omega) (Ev.now _)
  · rw [if_neg h]
    refine ev_neg (by omega) ?_
    have := spec_quot_loop b (by omega) b.length 0 [] [] (by omega) (by simp) (by simp)
    rw [List.drop_zero, List.nil_append] at this
    exact this

theorem spec_letters : spec_l5Letters.f = some (S b64) := rfl

theorem shr_is (n : Int) (j : Nat) (hj : j < 4) (v : Int) (e : v = n / 2 ^ (18 - 6 * j)) : shr .i64 n (wrap64 (18 - (wrap64 (6 * (j : Int))))) = v := by
  have w1 : wrap64 (6 * (j : Int)) = 6 * (j : Int) := w64 (by omega) (by omega)
  have w2 : wrap64 (18 - 6 * (j : Int)) = 18 - 6 * (j : Int) := w64 (by omega) (by omega)
  rw [w1, w2, e]
  unfold shr
  have : min (18 - 6 * (j : Int)).toNat IntKind.i64.bits = 18 - 6 * j := by
    show min (18 - 6 * (j : Int)).toNat 64 = _
    omega
  rw [this]

theorem spec_base_letter {b out : List UInt8} {i j : Nat} {n m : Nat} {R : ByteArray} (hj : j < 4) (hi : i + j ≤ b.length) (hb : b.length ≤ 500) (ho : out.length ≤ 2000) (hn : n < 16777216)
    (hm : m = n / 2 ^ (18 - 6 * j) % 64)
    (H : Ev (fun k => spec_l5Base.l1 k (S b) (S (out ++ [let6 m])) (i : Int) (n : Int) ((j + 1 : Nat) : Int)) R) :
    Ev (fun k => spec_l5Base.l1 k (S b) (S out) (i : Int) (n : Int) (j : Int)) R := by
  have w : wrap64 ((i : Int) + (j : Int)) = ((i + j : Nat) : Int) := by rw [w64 (by omega) (by omega)]; omega
  have w2 : wrap64 ((j : Int) + 1) = ((j + 1 : Nat) : Int) := by rw [w64 (by omega) (by omega)]; omega
  have hp : (2 : Int) ^ (18 - 6 * j) = ((2 ^ (18 - 6 * j) : Nat) : Int) := by simp
  have hq : ((n / 2 ^ (18 - 6 * j) : Nat) : Int) = (n : Int) / 2 ^ (18 - 6 * j) := by rw [hp, Int.natCast_ediv]
  have hs := shr_is (n : Int) j hj ((n / 2 ^ (18 - 6 * j) : Nat) : Int) hq
  have hle : n / 2 ^ (18 - 6 * j) ≤ n := Nat.div_le_self _ _
  have ha : bits .and .i64 ((n / 2 ^ (18 - 6 * j) : Nat) : Int) 63 = (m : Int) := by
    rw [and63 (Int.natCast_nonneg _) (by omega), hm]
    exact (Int.natCast_emod _ 64).symm
  have hm64 : m < 64 := by omega
  have w3 : wrap64 ((m : Int) + 1) = ((m + 1 : Nat) : Int) := by rw [w64 (by omega) (by omega)]; omega
  have w4 : 0 ≤ wrap64 (18 - wrap64 (6 * (j : Int))) := by
    rw [w64 (n := 6 * (j : Int)) (by omega) (by omega), w64 (by omega) (by omega)]
    omega
  have hx : (S b64).extract m (m + 1) = S [let6 m] := extract_one b64 m (by rw [b64_length]; exact hm64)
  refine Ev.step (fun k => by rw [spec_l5Base.l1]) ?_
  simp only [w, w2, hs, ha, w3, size_S, spec_letters, Int.toNat_natCast]
  clear hp hq hs hle ha hm w w2 w3
  refine ev_pos (by omega) (ev_neg (by omega) (ev_pos w4 ?_))
  clear w4
  refine ev_bind0 rfl ?_
  simp only [size_S, hx, b64_length, append_S]
  clear hx
  refine ev_pos (by omega) (ev_pos (by omega) (ev_pos (by omega) (ev_pos (by simp; omega) ?_)))
  exact H

theorem spec_base_pad {b out : List UInt8} {i j : Nat} {n : Int} {R : ByteArray} (hj : j < 4) (hi : b.length < i + j) (hi2 : i ≤ b.length) (hb : b.length ≤ 500) (ho : out.length ≤ 2000)
    (H : Ev (fun k => spec_l5Base.l1 k (S b) (S (out ++ [61])) (i : Int) n ((j + 1 : Nat) : Int)) R) :
    Ev (fun k => spec_l5Base.l1 k (S b) (S out) (i : Int) n (j : Int)) R := by
  have w : wrap64 ((i : Int) + (j : Int)) = ((i + j : Nat) : Int) := by rw [w64 (by omega) (by omega)]; omega
  have w2 : wrap64 ((j : Int) + 1) = ((j + 1 : Nat) : Int) := by rw [w64 (by omega) (by omega)]; omega
  refine Ev.step (fun k => by rw [spec_l5Base.l1]) ?_
  simp only [w, w2, size_S, mk_S, append_S]
  refine ev_pos (by omega) (ev_pos (by omega) (ev_pos (by omega) ?_))
  exact H

theorem spec_base_end {b out : List UInt8} {i : Nat} {n : Int} {R : ByteArray} (hb : i ≤ 600) (H : Ev (fun k => spec_l5Base.l0 k (S b) (S out) ((i + 3 : Nat) : Int)) R) :
    Ev (fun k => spec_l5Base.l1 k (S b) (S out) (i : Int) n ((4 : Nat) : Int)) R := by
  have w : wrap64 ((i : Int) + 3) = ((i + 3 : Nat) : Int) := by rw [w64 (by omega) (by omega)]; omega
  refine Ev.step (fun k => by rw [spec_l5Base.l1]) ?_
  rw [w]
  exact ev_neg (by omega) H

theorem getD_at {l : List UInt8} {i : Nat} (h : i < l.length) : l.getD i 0 = l[i] := by rw [List.getD_eq_getElem?_getD, List.getElem?_eq_getElem h]; rfl

set_option maxHeartbeats 1000000 in
theorem spec_base_loop (b : List UInt8) (hb : b.length ≤ 500) : ∀ (e i : Nat) (out : List UInt8), b.length ≤ i + 3 * e → i ≤ b.length + 2 → out.length ≤ 2 * i →
    Ev (fun k => spec_l5Base.l0 k (S b) (S out) (i : Int)) (S (out ++ base (b.drop i))) := by
  intro e
  induction e with
  | zero =>
    intro i out hi hi2 ho
    refine Ev.step (fun k => by rw [spec_l5Base.l0]) ?_
    rw [size_S, List.drop_of_length_le (by omega)]
    refine ev_neg (by omega) ?_
    rw [base, List.append_nil]
    exact Ev.now _
  | succ e ih =>
    intro i out hi hi2 ho
    refine Ev.step (fun k => by rw [spec_l5Base.l0]) ?_
    rw [size_S]
    by_cases c0 : b.length ≤ i
    · rw [List.drop_of_length_le c0]
      refine ev_neg (by omega) ?_
      rw [base, List.append_nil]
      exact Ev.now _
    have h0 : i < b.length := by omega
    have x0 := b[i].toNat_lt
    obtain ⟨w1, w2⟩ : wrap64 ((i : Int) + 1) = ((i + 1 : Nat) : Int) ∧ wrap64 ((i : Int) + 2) = ((i + 2 : Nat) : Int) :=
      ⟨by rw [w64 (by omega) (by omega)]; omega, by rw [w64 (by omega) (by omega)]; omega⟩
    have wa : wrap64 (b[i].toNat : Int) = (b[i].toNat : Int) := w64 (by omega) (by omega)
    have wb : wrap64 ((b[i].toNat : Int) * 65536) = ((b[i].toNat * 65536 : Nat) : Int) := by rw [w64 (by omega) (by omega)]; omega
    simp only [bt_S, w1, Int.toNat_natCast, getD_at h0, wa, wb]
    clear wa wb w1
    refine ev_pos (by omega) (ev_pos (by omega) ?_)
    by_cases c1 : b.length ≤ i + 1
    · -- one byte is left
      refine ev_neg (by omega) ?_
      have hd : b.drop i = [b[i]] := by rw [drop_cons h0, List.drop_of_length_le (by omega)]
      refine Ev.step (fun k => by rw [spec_l5Base.j1]) ?_
      rw [size_S, w2]
      clear w2
      refine ev_neg (by omega) ?_
      refine Ev.step (fun k => by rw [spec_l5Base.j2]) ?_
      refine spec_base_letter (j := 0) (m := b[i].toNat / 4) (by omega) (by omega) hb (by omega) (by omega) (six0a (u8_lt _) rfl) ?_
      refine spec_base_letter (j := 1) (m := b[i].toNat % 4 * 16) (by omega) (by omega) hb (by simp; omega) (by omega) (six1' rfl) ?_
      refine spec_base_pad (j := 2) (by omega) (by omega) (by omega) hb (by simp; omega) ?_
      refine spec_base_pad (j := 3) (by omega) (by omega) (by omega) hb (by simp; omega) ?_
      refine spec_base_end (by omega) ?_
      have := ih (i + 3) ((((out ++ [let6 (b[i].toNat / 4)]) ++ [let6 (b[i].toNat % 4 * 16)]) ++ [61]) ++ [61]) (by omega) (by omega) (by simp; omega)
      rw [List.drop_of_length_le (by omega : b.length ≤ i + 3), base, List.append_nil] at this
      rw [hd, base]
      simpa using this
    have h1 : i + 1 < b.length := by omega
    have x1 := b[i + 1].toNat_lt
    have wc : wrap64 (b[i + 1].toNat : Int) = (b[i + 1].toNat : Int) := w64 (by omega) (by omega)
    have wd : wrap64 ((b[i + 1].toNat : Int) * 256) = ((b[i + 1].toNat * 256 : Nat) : Int) := by rw [w64 (by omega) (by omega)]; omega
    have we : wrap64 (((b[i].toNat * 65536 : Nat) : Int) + ((b[i + 1].toNat * 256 : Nat) : Int)) = ((b[i].toNat * 65536 + b[i + 1].toNat * 256 : Nat) : Int) := by rw [w64 (by omega) (by omega)]; omega
    simp only [getD_at h1, wc, wd, we]
    clear wc wd we
    refine ev_pos (by omega) (ev_pos (by omega) ?_)
    refine Ev.step (fun k => by rw [spec_l5Base.j1]) ?_
    rw [size_S, w2]
    clear w2
    by_cases c2 : b.length ≤ i + 2
    · -- two bytes are left
      refine ev_neg (by omega) ?_
      have hd : b.drop i = [b[i], b[i + 1]] := by rw [drop_cons h0, drop_cons h1, List.drop_of_length_le (by omega)]
      refine Ev.step (fun k => by rw [spec_l5Base.j2]) ?_
      refine spec_base_letter (j := 0) (m := b[i].toNat / 4) (by omega) (by omega) hb (by omega) (by omega) (six0b (u8_lt _) (u8_lt b[i + 1]) rfl) ?_
      refine spec_base_letter (j := 1) (m := b[i].toNat % 4 * 16 + b[i + 1].toNat / 16) (by omega) (by omega) hb (by simp; omega) (by omega) (six1b (u8_lt _) rfl) ?_
      refine spec_base_letter (j := 2) (m := b[i + 1].toNat % 16 * 4) (by omega) (by omega) hb (by simp; omega) (by omega) (six2' rfl) ?_
      refine spec_base_pad (j := 3) (by omega) (by omega) (by omega) hb (by simp; omega) ?_
      refine spec_base_end (by omega) ?_
      have := ih (i + 3) ((((out ++ [let6 (b[i].toNat / 4)]) ++ [let6 (b[i].toNat % 4 * 16 + b[i + 1].toNat / 16)]) ++ [let6 (b[i + 1].toNat % 16 * 4)]) ++ [61]) (by omega) (by omega) (by simp; omega)
      rw [List.drop_of_length_le (by omega : b.length ≤ i + 3), base, List.append_nil] at this
      rw [hd, base]
      simpa using this
    -- three bytes and more
    have h2 : i + 2 < b.length := by omega
    have x2 := b[i + 2].toNat_lt
    have wf : wrap64 (b[i + 2].toNat : Int) = (b[i + 2].toNat : Int) := w64 (by omega) (by omega)
    have wg : wrap64 (((b[i].toNat * 65536 + b[i + 1].toNat * 256 : Nat) : Int) + (b[i + 2].toNat : Int)) = ((b[i].toNat * 65536 + b[i + 1].toNat * 256 + b[i + 2].toNat : Nat) : Int) := by rw [w64 (by omega) (by omega)]; omega
    have hd : b.drop i = b[i] :: b[i + 1] :: b[i + 2] :: b.drop (i + 3) := by rw [drop_cons h0, drop_cons h1, drop_cons h2]
    simp only [bt_S, Int.toNat_natCast, getD_at h2, wf, wg]
    clear wf wg
    refine ev_pos (by omega) (ev_pos (by omega) ?_)
    refine Ev.step (fun k => by rw [spec_l5Base.j2]) ?_
    refine spec_base_letter (j := 0) (m := b[i].toNat / 4) (by omega) (by omega) hb (by omega) (by omega) (six0 (u8_lt _) (u8_lt b[i + 1]) (u8_lt b[i + 2]) rfl) ?_
    refine spec_base_letter (j := 1) (m := b[i].toNat % 4 * 16 + b[i + 1].toNat / 16) (by omega) (by omega) hb (by simp; omega) (by omega) (six1 (u8_lt _) (u8_lt b[i + 2]) rfl) ?_
    refine spec_base_letter (j := 2) (m := b[i + 1].toNat % 16 * 4 + b[i + 2].toNat / 64) (by omega) (by omega) hb (by simp; omega) (by omega) (six2 (u8_lt _) rfl) ?_
    refine spec_base_letter (j := 3) (m := b[i + 2].toNat % 64) (by omega) (by omega) hb (by simp; omega) (by omega) (six3 rfl) ?_
    refine spec_base_end (by omega) ?_
    have := ih (i + 3) ((((out ++ [let6 (b[i].toNat / 4)]) ++ [let6 (b[i].toNat % 4 * 16 + b[i + 1].toNat / 16)]) ++ [let6 (b[i + 1].toNat % 16 * 4 + b[i + 2].toNat / 64)]) ++ [let6 (b[i + 2].toNat % 64)]) (by omega) (by omega) (by simp; omega)
    rw [hd, base]
    simpa using this

theorem spec_base (b : List UInt8) (hb : b.length ≤ 500) : Ev (fun k => spec_l5Base.f k (S b)) (S (base b)) := by
  simp only [spec_l5Base.f]
  have := spec_base_loop b hb 170 0 [] (by omega) (by omega) (by simp)
  rw [List.drop_zero, List.nil_append] at this
  exact this


theorem spec_lines_loop : ∀ (n : Nat) (s : List UInt8) (outs : List (List UInt8)), s.length ≤ 40 * n → s.length ≤ 100000 → outs.length + n ≤ 100000 →
    Ev (fun k => spec_l5Lines.l0 k (S s) 40 (SL outs)) (SL (outs ++ lines40 n s)) := by
  intro n
  induction n with
  | zero =>
    intro s outs hs hs2 ho
    refine Ev.step (fun k => by rw [spec_l5Lines.l0]) ?_
    rw [size_S, SL_length, SL_one, SL_append]
    refine ev_neg (by omega) (ev_pos (by omega) (Ev.now _))
  | succ n ih =>
    intro s outs hs hs2 ho
    refine Ev.step (fun k => by rw [spec_l5Lines.l0]) ?_
    simp only [size_S, SL_length, extract_S, SL_one, SL_append]
    by_cases c : s.length > 40
    · refine ev_pos (by omega) (ev_pos (by omega) (ev_pos (by omega) (ev_pos (by omega) ?_)))
      have e1 : ((s.drop ((40 : Int)).toNat).take (s.length - ((40 : Int)).toNat)) = s.drop 40 := by
        show (s.drop 40).take (s.length - 40) = s.drop 40
        rw [List.take_of_length_le (by rw [List.length_drop]; omega)]
      have e2 : ((s.drop 0).take (((40 : Int)).toNat - 0)) = s.take 40 := rfl
      rw [e1, e2]
      have := ih (s.drop 40) (outs ++ [s.take 40]) (by rw [List.length_drop]; omega) (by rw [List.length_drop]; omega) (by simp; omega)
      rw [lines40, if_pos c]
      simpa using this
    · refine ev_neg (by omega) (ev_pos (by omega) ?_)
      rw [lines40, if_neg c]
      exact Ev.now _

theorem spec_baseR (b : List UInt8) : Ev (fun k => spec_EncodeBase.f k (S b)) (baseR b) := by
  simp only [spec_EncodeBase.f, size_S]
  unfold baseR
  by_cases h : b.length > 300
  · rw [if_pos h]
    exact ev_pos (by omega) (Ev.now _)
  · rw [if_neg h]
    refine ev_neg (by omega) ?_
    refine Ev.bind (spec_base b (by omega)) ?_
    have hbl := base_length b
    have := spec_lines_loop 20 (base b) [] (by omega) (by omega) (by simp)
    rw [List.nil_append] at this
    refine Ev.bind (show Ev (fun k => spec_l5Lines.f k (S (base b)) 40) (SL (lines40 20 (base b))) from this) ?_
    exact Ev.now _

theorem spec_text (s : List UInt8) (hl : s.length ≤ 1000000000000) : Ev (fun k => spec_TextValid.f k (S s)) (decide (textOK s)) := by
  simp only [spec_TextValid.f]
  have loop : ∀ (e i : Nat), i + e = s.length → i ≤ 201 → (∀ j (h : j < s.length), j < i → 32 ≤ s[j].toNat ∧ s[j].toNat ≤ 126) → Ev (fun k => spec_TextValid.l0 k (S s) (i : Int)) (decide (textOK s)) := by
    intro e
    induction e with
    | zero =>
      intro i hi h2 hp
      have e1 : decide ((s.length : Int) ≤ 200) = decide (textOK s) := by
        rw [decide_eq_decide]
        constructor
        · intro q
          refine ⟨by omega, fun c hc => ?_⟩
          obtain ⟨j, hj, rfl⟩ := List.mem_iff_getElem.1 hc
          exact hp j hj (by omega)
        · intro q
          have := q.1
          omega
      refine Ev.step (fun k => by rw [spec_TextValid.l0]) ?_
      rw [size_S]
      refine ev_neg (by omega) ?_
      refine Ev.step (fun k => by rw [spec_TextValid.j1]) ?_
      rw [size_S, e1]
      exact ev_neg (by decide) (Ev.now _)
    | succ e ih =>
      intro i hi h2 hp
      have hlt : i < s.length := by omega
      have hg : s.getD i 0 = s[i] := by rw [List.getD_eq_getElem?_getD, List.getElem?_eq_getElem hlt]; rfl
      have w : wrap64 ((i : Int) + 1) = ((i + 1 : Nat) : Int) := by rw [w64 (by omega) (by omega)]; omega
      refine Ev.step (fun k => by rw [spec_TextValid.l0]) ?_
      rw [size_S]
      refine ev_pos (by omega) ?_
      by_cases h200 : i ≤ 200
      · rw [decide_eq_true (show (i : Int) ≤ 200 by omega)]
        refine Ev.step (fun k => by rw [spec_TextValid.j1]) ?_
        simp only [size_S, bt_S, Int.toNat_natCast, hg, w]
        refine ev_pos trivial (ev_pos (by omega) (ev_pos (by omega) ?_))
        by_cases hc : 32 ≤ s[i].toNat ∧ s[i].toNat ≤ 126
        · refine ev_neg (by omega) (ev_neg (by omega) (ih (i + 1) (by omega) (by omega) ?_))
          intro j hj hji
          by_cases q : j = i
          · subst q
            exact hc
          · exact hp j hj (by omega)
        · have e1 : decide (textOK s) = false := decide_eq_false (fun q => hc (q.2 s[i] (List.getElem_mem hlt)))
          rw [e1]
          by_cases h3 : (s[i].toNat : Int) < 32
          · exact ev_pos h3 (Ev.now _)
          · exact ev_neg h3 (ev_pos (by omega) (Ev.now _))
      · rw [decide_eq_false (show ¬ (i : Int) ≤ 200 by omega)]
        have e1 : decide (textOK s) = false := decide_eq_false (fun q => by have := q.1; omega)
        refine Ev.step (fun k => by rw [spec_TextValid.j1]) ?_
        rw [size_S, e1]
        refine ev_neg (by decide) (ev_is ?_)
        rw [decide_eq_false (by omega)]
  exact loop s.length 0 (by omega) (by omega) (fun j _ h => by omega)

theorem l2parts_loop (c : UInt8) (s : List UInt8) (hl : s.length ≤ 2000000) : ∀ (e i st : Nat) (outs : List (List UInt8)), i + e = s.length → st ≤ i → outs.length ≤ st → (∀ x ∈ (s.drop st).take (i - st), x ≠ c) →
    Ev (fun k => spec_l2Parts.l0 k (S s) (c.toNat : Int) (SL outs) (st : Int) (i : Int)) (SL (outs ++ parts c (s.drop st))) := by
  intro e
  induction e with
  | zero =>
    intro i st outs hi hst ho hn
    rw [List.take_of_length_le (by rw [List.length_drop]; omega)] at hn
    refine Ev.step (fun k => by rw [spec_l2Parts.l0]) ?_
    simp only [size_S, SL_length, Int.toNat_natCast, extract_S]
    have e1 : SL outs ++ [S ((s.drop st).take (s.length - st))] = SL (outs ++ parts c (s.drop st)) := by
      rw [List.take_of_length_le (by rw [List.length_drop]; omega), parts_none hn, SL_one, SL_append]
    rw [e1]
    exact ev_neg (by omega) (ev_pos (by omega) (ev_pos (by omega) (ev_pos (by omega) (Ev.now _))))
  | succ e ih =>
    intro i st outs hi hst ho hn
    have hlt : i < s.length := by omega
    have hg : s.getD i 0 = s[i] := by rw [List.getD_eq_getElem?_getD, List.getElem?_eq_getElem hlt]; rfl
    have w : wrap64 ((i : Int) + 1) = ((i + 1 : Nat) : Int) := by rw [w64 (by omega) (by omega)]; omega
    refine Ev.step (fun k => by rw [spec_l2Parts.l0]) ?_
    simp only [size_S, SL_length, bt_S, Int.toNat_natCast, hg, w, extract_S]
    refine ev_pos (by omega) (ev_pos (by omega) ?_)
    by_cases hc : s[i] = c
    · have h := ih (i + 1) (i + 1) (outs ++ [(s.drop st).take (i - st)]) (by omega) (by omega) (by simp; omega) (by rw [Nat.sub_self]; simp)
      have sh : s.drop st = (s.drop st).take (i - st) ++ c :: s.drop (i + 1) := by
        have h1 : (s.drop st).drop (i - st) = s[i] :: s.drop (i + 1) := by rw [List.drop_drop, show st + (i - st) = i by omega]; exact drop_cons hlt
        rw [← hc, ← h1, List.take_append_drop]
      have hp : parts c (s.drop st) = (s.drop st).take (i - st) :: parts c (s.drop (i + 1)) := by
        have := parts_cut (s.drop (i + 1)) hn
        rw [← sh] at this
        exact this
      rw [SL_one, SL_append, hp]
      rw [List.append_assoc] at h
      exact ev_pos (by rw [hc]) (ev_pos (by omega) (ev_pos (by omega) (ev_pos (by omega) (ev_pos (by omega) h))))
    · refine ev_neg (fun q => hc (u8_eq.1 q)) (ih (i + 1) st outs (by omega) (by omega) ho ?_)
      intro x hx
      have e1 : (s.drop st).take (i + 1 - st) = (s.drop st).take (i - st) ++ [s[i]] := by
        rw [show i + 1 - st = i - st + 1 by omega, List.take_succ_eq_append_getElem (by rw [List.length_drop]; omega)]
        simp [List.getElem_drop, show st + (i - st) = i by omega]
      rw [e1] at hx
      rcases List.mem_append.1 hx with hx | hx
      · exact hn x hx
      · simp only [List.mem_singleton] at hx
        rw [hx]
        exact hc
theorem l2parts (c : UInt8) (s : List UInt8) (hl : s.length ≤ 2000000) : Ev (fun k => spec_l2Parts.f k (S s) (c.toNat : Int)) (SL (parts c s)) := by
  simp only [spec_l2Parts.f, SL_nil]
  have := l2parts_loop c s hl s.length 0 0 [] (by omega) (by omega) (by simp) (by simp)
  rwa [List.drop_zero, List.nil_append] at this

theorem spec_plain (b : List UInt8) (hl : b.length ≤ 1048576) : Ev (fun k => spec_l5Plain.f k (S b)) (if ∀ l ∈ parts 10 b, okL l then (SL (parts 10 b), decide (b.length ≤ 300)) else ([], false)) := by
  have hp := l2parts 10 b (by omega)
  have hpl := parts_length 10 b
  have e10 : (((10 : UInt8).toNat : Nat) : Int) = 10 := rfl
  rw [e10] at hp
  simp only [spec_l5Plain.f]
  refine Ev.bind hp ?_
  have he := parts_each 10 b
  generalize parts 10 b = ls at he hpl ⊢
  have loop : ∀ (e i : Nat), i + e = ls.length → (∀ j (h : j < ls.length), j < i → okL ls[j]) → Ev (fun k => spec_l5Plain.l0 k (S b) (SL ls) (i : Int)) (if ∀ l ∈ ls, okL l then (SL ls, decide (b.length ≤ 300)) else ([], false)) := by
    intro e
    induction e with
    | zero =>
      intro i hi hj
      have c1 : ∀ l ∈ ls, okL l := fun l hm => by
        obtain ⟨j, h, rfl⟩ := List.mem_iff_getElem.1 hm
        exact hj j h (by omega)
      rw [if_pos c1]
      refine Ev.step (fun k => by rw [spec_l5Plain.l0]) ?_
      rw [SL_length, size_S]
      refine ev_neg (by omega) (ev_is ?_)
      have : decide ((b.length : Int) ≤ 300) = decide (b.length ≤ 300) := by
        rw [decide_eq_decide]
        omega
      rw [this]
    | succ e ih =>
      intro i hi hj
      have hlt : i < ls.length := by omega
      have w : wrap64 ((i : Int) + 1) = ((i + 1 : Nat) : Int) := by rw [w64 (by omega) (by omega)]; omega
      have hle := (he ls[i] (List.getElem_mem hlt)).1
      have ht := spec_text ls[i] (by omega)
      refine Ev.step (fun k => by rw [spec_l5Plain.l0]) ?_
      simp only [SL_length, rdOf_SL _ ls i hlt, w, size_S]
      by_cases h40 : ls[i].length ≤ 40
      · by_cases hx : textOK ls[i]
        · rw [decide_eq_true hx] at ht
          refine ev_pos (by omega) (ev_pos (by omega) (ev_neg (by omega) (Ev.bind ht (ev_pos rfl (ih (i + 1) (by omega) ?_)))))
          intro j h hji
          by_cases q : j = i
          · subst q
            exact ⟨hx, h40⟩
          · exact hj j h (by omega)
        · have c1 : ¬ ∀ l ∈ ls, okL l := fun z => hx (z _ (List.getElem_mem hlt)).1
          rw [decide_eq_false hx] at ht
          rw [if_neg c1]
          exact ev_pos (by omega) (ev_pos (by omega) (ev_neg (by omega) (Ev.bind ht (ev_neg (by decide) (Ev.now _)))))
      · have c1 : ¬ ∀ l ∈ ls, okL l := fun z => h40 (z _ (List.getElem_mem hlt)).2
        rw [if_neg c1]
        exact ev_pos (by omega) (ev_pos (by omega) (ev_pos (by omega) (Ev.now _)))
  exact loop ls.length 0 (by omega) (fun j _ h => by omega)

theorem impl_hex (c : UInt8) : impl_hexByte.f (c.toNat : Int) = some (S (hex3 c)) := by
  have hc := c.toNat_lt
  unfold impl_hexByte.f
  have a : bits .and .u8 (c.toNat : Int) 15 = ((c.toNat % 16 : Nat) : Int) := by
    rw [u8_and15 _ (by omega) (by omega)]
    omega
  have b : ((c.toNat : Int) / 16) = ((c.toNat / 16 : Nat) : Int) := by omega
  have e1 : ((((c.toNat / 16 : Nat) : Int) + 1) % 256) = (((c.toNat / 16) + 1 : Nat) : Int) := by omega
  have e2 : ((((c.toNat % 16 : Nat) : Int) + 1) % 256) = (((c.toNat % 16) + 1 : Nat) : Int) := by omega
  have x1 := extract_digit (c.toNat / 16) (by omega)
  have x2 := extract_digit (c.toNat % 16) (by omega)
  simp only [a, b, e1, e2, Int.toNat_natCast, x1, x2, mk_S, append_S, size_S]
  rw [if_pos (by omega), if_pos (by omega), if_pos (by omega), if_pos (by simp), if_pos (by omega), if_pos (by omega), if_pos (by omega), if_pos (by simp)]
  rfl


theorem impl_quot_loop (b : List UInt8) (hb : b.length ≤ 300) : ∀ (e i : Nat) (outs : List (List UInt8)) (line : List UInt8), i + e = b.length → outs.length ≤ i → line.length ≤ 42 →
    Ev (fun k => impl_EncodeQuoted.l0 k (S b) (SL outs) (S line) (b.length : Int) (i : Int)) (SL (outs ++ encQ (b.drop i) line), true) := by
  intro e
  induction e with
  | zero =>
    intro i outs line hi ho hl
    refine Ev.step (fun k => by rw [impl_EncodeQuoted.l0]) ?_
    simp only [size_S, SL_length]
    refine ev_neg (by omega) (ev_pos (by omega) ?_)
    rw [List.drop_of_length_le (by omega), SL_one, SL_append]
    exact Ev.now _
  | succ e ih =>
    intro i outs line hi ho hl
    have hlt : i < b.length := by omega
    have w : wrap64 ((i : Int) + 1) = ((i + 1 : Nat) : Int) := by rw [w64 (by omega) (by omega)]; omega
    have hg : b.getD i 0 = b[i] := by rw [List.getD_eq_getElem?_getD, List.getElem?_eq_getElem hlt]; rfl
    have hone : (S b).extract i (i + 1) = S [b[i]] := by
      rw [extract_S, Nat.add_sub_cancel_left, take_one hlt]
    -- the byte's own text, and what follows
    have step : ∀ (last : Bool) (own : List UInt8), last = lastQ (b.drop (i + 1)) → own = quoteB b[i] last →
        Ev (fun k => if wrap64 ((line.length : Int) + (own.length : Int)) > 39 then
            (if line.length + 1 ≤ 9223372036854775807 then (if outs.length < 8796093022208 then (if 0 + own.length ≤ 9223372036854775807 then
              impl_EncodeQuoted.l0 k (S b) (SL (outs ++ [line ++ [61]])) (S ([] ++ own)) (b.length : Int) ((i + 1 : Nat) : Int) else none) else none) else none)
            else (if line.length + own.length ≤ 9223372036854775807 then impl_EncodeQuoted.l0 k (S b) (SL outs) (S (line ++ own)) (b.length : Int) ((i + 1 : Nat) : Int) else none))
          (SL (outs ++ encQ (b[i] :: b.drop (i + 1)) line), true) ∨ b[i].toNat = 10 := by
      intro last own hlast hown
      by_cases c10 : b[i].toNat = 10
      · exact .inr c10
      left
      obtain ⟨q1, q2⟩ := quoteB_length b[i] last
      rw [← hown] at q1 q2
      have w2 : wrap64 ((line.length : Int) + (own.length : Int)) = ((line.length + own.length : Nat) : Int) := by rw [w64 (by omega) (by omega)]; omega
      rw [w2]
      by_cases c39 : line.length + own.length > 39
      · refine ev_pos (by omega) (ev_pos (by omega) (ev_pos (by omega) (ev_pos (by omega) ?_)))
        have := ih (i + 1) (outs ++ [line ++ [61]]) own (by omega) (by simp; omega) (by omega)
        have e1 : encQ (b[i] :: b.drop (i + 1)) line = (line ++ [61]) :: encQ (b.drop (i + 1)) own := by
          rw [encQ, if_neg (by omega), ← hlast, ← hown, if_pos c39]
        rw [e1]
        simpa using this
      · refine ev_neg (by omega) (ev_pos (by omega) ?_)
        have := ih (i + 1) outs (line ++ own) (by omega) (by omega) (by simp; omega)
        have e1 : encQ (b[i] :: b.drop (i + 1)) line = encQ (b.drop (i + 1)) (line ++ own) := by
          rw [encQ, if_neg (by omega), ← hlast, ← hown, if_neg c39]
        rw [e1]
        exact this
    refine Ev.step (fun k => by rw [impl_EncodeQuoted.l0]) ?_
    simp only [size_S, SL_length, w, bt_S, Int.toNat_natCast, mk_S, SL_one, SL_append, hg]
    refine ev_pos (by omega) (ev_pos (by omega) (ev_pos (by omega) ?_))
    rw [drop_cons hlt]
    by_cases c10 : ((b[i]).toNat : Int) = 10
    · refine ev_pos c10 (ev_pos (by omega) ?_)
      have := ih (i + 1) (outs ++ [line]) [] (by omega) (by simp; omega) (by simp)
      have e1 : encQ (b[i] :: b.drop (i + 1)) line = line :: encQ (b.drop (i + 1)) [] := by
        rw [encQ, if_pos (by omega)]
      rw [e1]
      simpa using this
    refine ev_neg c10 ?_
    have hj2 : ∀ (last c : Bool), last = lastQ (b.drop (i + 1)) → c = plainQ b[i] last →
        Ev (fun k => impl_EncodeQuoted.j2 k (S b) (SL outs) (S line) (i : Int) (S (hex3 b[i])) (b.length : Int) (i : Int) c) (SL (outs ++ encQ (b[i] :: b.drop (i + 1)) line), true) := by
      intro last c hlast hc
      refine Ev.step (fun k => by rw [impl_EncodeQuoted.j2]) ?_
      simp only [size_S, SL_length, w, Int.toNat_natCast, mk_S, SL_one, SL_append, append_S, hone]
      have hq : (if c = true then [b[i]] else hex3 b[i]) = quoteB b[i] last := by unfold quoteB; rw [hc]
      cases c with
      | true =>
        refine ev_pos rfl (ev_pos (by omega) (ev_pos (by omega) (ev_pos (by omega) ?_)))
        exact (step last [b[i]] hlast hq).resolve_right (by omega)
      | false =>
        refine ev_neg (by simp) ?_
        exact (step last (hex3 b[i]) hlast hq).resolve_right (by omega)
    have hj1 : ∀ (last : Bool), last = lastQ (b.drop (i + 1)) →
        Ev (fun k => impl_EncodeQuoted.j1 k (S b) (SL outs) (S line) (i : Int) (S (hex3 b[i])) last (b.length : Int) (i : Int)) (SL (outs ++ encQ (b[i] :: b.drop (i + 1)) line), true) := by
      intro last hlast
      refine Ev.step (fun k => by rw [impl_EncodeQuoted.j1]) ?_
      simp only [size_S, bt_S, Int.toNat_natCast, hg]
      refine ev_pos (by omega) (ev_pos (by omega) ?_)
      by_cases h1 : (b[i].toNat : Int) ≥ 33
      · refine ev_pos h1 ?_
        by_cases h2 : (b[i].toNat : Int) ≤ 126
        · refine ev_pos h2 ?_
          by_cases h3 : (b[i].toNat : Int) = 61
          · refine ev_pos h3 (ev_neg (by omega) (hj2 last false hlast ?_))
            have : b[i].toNat = 61 := by omega
            unfold plainQ
            simp [this]
          · refine ev_neg h3 (hj2 last true hlast ?_)
            have : 33 ≤ b[i].toNat ∧ b[i].toNat ≤ 126 ∧ b[i].toNat ≠ 61 := by omega
            unfold plainQ
            simp [this]
        · refine ev_neg h2 (ev_neg (by omega) (hj2 last false hlast ?_))
          have a : ¬ (33 ≤ b[i].toNat ∧ b[i].toNat ≤ 126 ∧ b[i].toNat ≠ 61) := by omega
          have c : ¬ b[i].toNat = 32 := by omega
          unfold plainQ
          simp [a, c]
      · refine ev_neg h1 ?_
        have a : ¬ (33 ≤ b[i].toNat ∧ b[i].toNat ≤ 126 ∧ b[i].toNat ≠ 61) := by omega
        by_cases h3 : (b[i].toNat : Int) = 32
        · refine ev_pos h3 (hj2 last (!last) hlast ?_)
          have : b[i].toNat = 32 := by omega
          unfold plainQ
          cases last <;> simp [this]
        · refine ev_neg h3 (hj2 last false hlast ?_)
          have c : ¬ b[i].toNat = 32 := by omega
          unfold plainQ
          simp [a, c]
    refine ev_bind0 (impl_hex b[i]) ?_
    by_cases hend : ((i + 1 : Nat) : Int) = (b.length : Int)
    · refine ev_pos hend ?_
      exact hj1 true (by rw [List.drop_of_length_le (by omega)]; rfl)
    · refine ev_neg hend (ev_pos (by omega) (ev_pos (by omega) ?_))
      have hlt2 : i + 1 < b.length := by omega
      have hg2 : b.getD (i + 1) 0 = b[i + 1] := by rw [List.getD_eq_getElem?_getD, List.getElem?_eq_getElem hlt2]; rfl
      rw [hg2]
      refine hj1 _ ?_
      rw [drop_cons hlt2]
      show _ = decide _
      rw [Bool.eq_iff_iff]
      simp
      omega

theorem impl_quot (b : List UInt8) : Ev (fun k => impl_EncodeQuoted.f k (S b)) (quotR b) := by
  simp only [impl_EncodeQuoted.f, size_S]
  unfold quotR
  by_cases h : b.length > 300
  · rw [if_pos h]
    exact ev_pos (by omega) (Ev.now _)
  · rw [if_neg h]
    refine ev_neg (by omega) ?_
    have := impl_quot_loop b (by omega) b.length 0 [] [] (by omega) (by simp) (by simp)
    rw [List.drop_zero, List.nil_append] at this
    exact this

theorem impl_digits {b out : List UInt8} {i many n : Nat} {R : ByteArray} (hn : n < 16777216) (hm : many ≤ 3)
    (H : Ev (fun k => impl_letters.l2 k (S b) (NI out) (i : Int) (NI [let6 (n / 262144), let6 (n / 4096 % 64), let6 (n / 64 % 64), let6 (n % 64)]) ((many + 1 : Nat) : Int)) R) :
    Ev (fun k => impl_letters.l1 k (S b) (NI out) (i : Int) (many : Int) (n : Int) ((3 : Nat) : Int)) R := by
  have w : wrap64 ((many : Int) + 1) = ((many + 1 : Nat) : Int) := by rw [w64 (by omega) (by omega)]; omega
  have e0 : (n : Int) / 262144 = ((n / 262144 : Nat) : Int) := by omega
  have e1 : bits .and .i64 ((n : Int) / 4096) 63 = ((n / 4096 % 64 : Nat) : Int) := by rw [and63 (by omega) (by omega)]; omega
  have e2 : bits .and .i64 ((n : Int) / 64) 63 = ((n / 64 % 64 : Nat) : Int) := by rw [and63 (by omega) (by omega)]; omega
  have e3 : bits .and .i64 (n : Int) 63 = ((n % 64 : Nat) : Int) := by rw [and63 (by omega) (by omega)]; omega
  have el : ∀ x : Nat, bt (⟨#[65, 66, 67, 68, 69, 70, 71, 72, 73, 74, 75, 76, 77, 78, 79, 80, 81, 82, 83, 84, 85, 86, 87, 88, 89, 90, 97, 98, 99, 100, 101, 102, 103, 104, 105, 106, 107, 108, 109, 110, 111, 112, 113, 114, 115, 116, 117, 118, 119, 120, 121, 122, 48, 49, 50, 51, 52, 53, 54, 55, 56, 57, 43, 47]⟩ : ByteArray) (x : Int) = ((let6 x).toNat : Int) := by
    intro x
    exact bt_S b64 (x : Int)
  have hl : ([((let6 (n / 262144)).toNat : Int), ((let6 (n / 4096 % 64)).toNat : Int), ((let6 (n / 64 % 64)).toNat : Int), ((let6 (n % 64)).toNat : Int)] : List Int) = NI [let6 (n / 262144), let6 (n / 4096 % 64), let6 (n / 64 % 64), let6 (n % 64)] := rfl
  refine Ev.step (fun k => by rw [impl_letters.l1]) ?_
  simp only [w, e0, e1, e2, e3, el, hl]
  clear w e0 e1 e2 e3 el hl
  refine ev_neg (by omega) (ev_pos (by omega) (ev_pos (by omega) (ev_pos (by omega) (ev_pos (by omega) (ev_pos (by omega) (ev_pos (by omega) (ev_pos (by omega) (ev_pos (by omega) ?_))))))))
  exact H

theorem impl_take {b out : List UInt8} {i many j n : Nat} {R : ByteArray} (c : UInt8) (hc : b.getD (i + j) 0 = c) (hj : j < 3) (hjm : j < many) (hi : i + j < b.length) (hb : b.length ≤ 300) (hn : n < 65536)
    (H : Ev (fun k => impl_letters.l1 k (S b) (NI out) (i : Int) (many : Int) ((n * 256 + c.toNat : Nat) : Int) ((j + 1 : Nat) : Int)) R) :
    Ev (fun k => impl_letters.l1 k (S b) (NI out) (i : Int) (many : Int) (n : Int) (j : Int)) R := by
  have x0 := c.toNat_lt
  obtain ⟨w, w2⟩ : wrap64 ((i : Int) + (j : Int)) = ((i + j : Nat) : Int) ∧ wrap64 ((j : Int) + 1) = ((j + 1 : Nat) : Int) := ⟨by rw [w64 (by omega) (by omega)]; omega, by rw [w64 (by omega) (by omega)]; omega⟩
  have w3 : wrap64 ((c.toNat : Nat) : Int) = ((c.toNat : Nat) : Int) := w64 (by omega) (by omega)
  have w4 : wrap64 ((n : Int) * 256) = ((n * 256 : Nat) : Int) := by rw [w64 (by omega) (by omega)]; omega
  have w5 : wrap64 (((n * 256 : Nat) : Int) + ((c.toNat : Nat) : Int)) = ((n * 256 + c.toNat : Nat) : Int) := by rw [w64 (by omega) (by omega)]; omega
  refine Ev.step (fun k => by rw [impl_letters.l1]) ?_
  simp only [w, w2, size_S, bt_S, Int.toNat_natCast, hc, w3, w4, w5]
  clear w w2 w3 w4 w5
  refine ev_pos (by omega) (ev_pos (by omega) (ev_pos (by omega) (ev_pos (by omega) ?_)))
  exact H

theorem impl_skip {b out : List UInt8} {i many j n : Nat} {R : ByteArray} (hj : j < 3) (hjm : many ≤ j) (hn : n < 65536)
    (H : Ev (fun k => impl_letters.l1 k (S b) (NI out) (i : Int) (many : Int) ((n * 256 : Nat) : Int) ((j + 1 : Nat) : Int)) R) :
    Ev (fun k => impl_letters.l1 k (S b) (NI out) (i : Int) (many : Int) (n : Int) (j : Int)) R := by
  have w2 : wrap64 ((j : Int) + 1) = ((j + 1 : Nat) : Int) := by rw [w64 (by omega) (by omega)]; omega
  have w4 : wrap64 ((n : Int) * 256) = ((n * 256 : Nat) : Int) := by rw [w64 (by omega) (by omega)]; omega
  refine Ev.step (fun k => by rw [impl_letters.l1]) ?_
  rw [w2, w4]
  clear w2 w4
  refine ev_pos (by omega) (ev_neg (by omega) ?_)
  exact H

theorem impl_pad {b out l : List UInt8} {i j : Nat} {R : ByteArray} (hl : l.length = 4) (hj : j < 4)
    (H : Ev (fun k => impl_letters.l2 k (S b) (NI out) (i : Int) (NI (l.set j 61)) ((j + 1 : Nat) : Int)) R) :
    Ev (fun k => impl_letters.l2 k (S b) (NI out) (i : Int) (NI l) (j : Int)) R := by
  have w2 : wrap64 ((j : Int) + 1) = ((j + 1 : Nat) : Int) := by rw [w64 (by omega) (by omega)]; omega
  have hs : (NI l).set j 61 = NI (l.set j 61) := by
    unfold NI
    rw [List.map_set]
    rfl
  refine Ev.step (fun k => by rw [impl_letters.l2]) ?_
  rw [w2, NI_length, Int.toNat_natCast, hs]
  refine ev_pos (by omega) (ev_pos (by omega) (ev_pos (by omega) ?_))
  exact H

theorem impl_group {b out l : List UInt8} {i : Nat} {R : ByteArray} (hl : l.length = 4) (ho : out.length ≤ 1000) (hi : i ≤ 400)
    (H : Ev (fun k => impl_letters.l0 k (S b) (NI (out ++ l)) ((i + 3 : Nat) : Int)) R) :
    Ev (fun k => impl_letters.l2 k (S b) (NI out) (i : Int) (NI l) ((4 : Nat) : Int)) R := by
  have w2 : wrap64 ((i : Int) + 3) = ((i + 3 : Nat) : Int) := by rw [w64 (by omega) (by omega)]; omega
  refine Ev.step (fun k => by rw [impl_letters.l2]) ?_
  rw [w2, NI_length, NI_length, NI_append]
  refine ev_neg (by omega) (ev_pos (by omega) ?_)
  exact H

theorem mn3 {x : Int} {m : Nat} (h : (m : Int) = if 3 < x then 3 else x) : mn x 3 = (m : Int) := by
  unfold mn
  rw [h]

theorem impl_one {b out : List UInt8} {i : Nat} {R : ByteArray} (a : UInt8) (ha : b.getD (i + 0) 0 = a) (h0 : i + 0 < b.length) (hb : b.length ≤ 300) (ho : out.length ≤ 1000)
    (H : Ev (fun k => impl_letters.l0 k (S b) (NI (out ++ [let6 (a.toNat / 4), let6 (a.toNat % 4 * 16), 61, 61])) ((i + 3 : Nat) : Int)) R) :
    Ev (fun k => impl_letters.l1 k (S b) (NI out) (i : Int) ((1 : Nat) : Int) ((0 : Nat) : Int) ((0 : Nat) : Int)) R := by
  obtain ⟨q1, q2, q3, e0, e1⟩ := nA (u8_lt a)
  refine impl_take (j := 0) (n := 0) a ha (by omega) (by omega) h0 hb (by decide) ?_
  refine impl_skip (j := 1) (n := 0 * 256 + a.toNat) (by omega) (by omega) q1 ?_
  refine impl_skip (j := 2) (n := (0 * 256 + a.toNat) * 256) (by omega) (by omega) q2 ?_
  refine impl_digits (n := (0 * 256 + a.toNat) * 256 * 256) q3 (by omega) ?_
  refine impl_pad (j := 2) rfl (by omega) ?_
  refine impl_pad (j := 3) rfl (by omega) ?_
  refine impl_group rfl (by omega) (by omega) ?_
  show Ev (fun k => impl_letters.l0 k (S b) (NI (out ++ [let6 ((0 * 256 + a.toNat) * 256 * 256 / 262144), let6 ((0 * 256 + a.toNat) * 256 * 256 / 4096 % 64), 61, 61])) ((i + 3 : Nat) : Int)) _
  rw [e0, e1]
  exact H

theorem impl_two {b out : List UInt8} {i : Nat} {R : ByteArray} (a c : UInt8) (ha : b.getD (i + 0) 0 = a) (hc : b.getD (i + 1) 0 = c) (h1 : i + 1 < b.length) (hb : b.length ≤ 300) (ho : out.length ≤ 1000)
    (H : Ev (fun k => impl_letters.l0 k (S b) (NI (out ++ [let6 (a.toNat / 4), let6 (a.toNat % 4 * 16 + c.toNat / 16), let6 (c.toNat % 16 * 4), 61])) ((i + 3 : Nat) : Int)) R) :
    Ev (fun k => impl_letters.l1 k (S b) (NI out) (i : Int) ((2 : Nat) : Int) ((0 : Nat) : Int) ((0 : Nat) : Int)) R := by
  have g0 : i + 0 < b.length := by omega
  obtain ⟨q1, _, _, _, _⟩ := nA (u8_lt a)
  obtain ⟨q2, q3, e0, e1, e2⟩ := nB (u8_lt a) (u8_lt c)
  refine impl_take (j := 0) (n := 0) a ha (by omega) (by omega) g0 hb (by decide) ?_
  refine impl_take (j := 1) (n := 0 * 256 + a.toNat) c hc (by omega) (by omega) h1 hb q1 ?_
  refine impl_skip (j := 2) (n := (0 * 256 + a.toNat) * 256 + c.toNat) (by omega) (by omega) q2 ?_
  refine impl_digits (n := ((0 * 256 + a.toNat) * 256 + c.toNat) * 256) q3 (by omega) ?_
  refine impl_pad (j := 3) rfl (by omega) ?_
  refine impl_group rfl (by omega) (by omega) ?_
  show Ev (fun k => impl_letters.l0 k (S b) (NI (out ++ [let6 (((0 * 256 + a.toNat) * 256 + c.toNat) * 256 / 262144), let6 (((0 * 256 + a.toNat) * 256 + c.toNat) * 256 / 4096 % 64), let6 (((0 * 256 + a.toNat) * 256 + c.toNat) * 256 / 64 % 64), 61])) ((i + 3 : Nat) : Int)) _
  rw [e0, e1, e2]
  exact H

theorem impl_three {b out : List UInt8} {i : Nat} {R : ByteArray} (a c d : UInt8) (ha : b.getD (i + 0) 0 = a) (hc : b.getD (i + 1) 0 = c) (hd : b.getD (i + 2) 0 = d) (h2 : i + 2 < b.length) (hb : b.length ≤ 300) (ho : out.length ≤ 1000)
    (H : Ev (fun k => impl_letters.l0 k (S b) (NI (out ++ [let6 (a.toNat / 4), let6 (a.toNat % 4 * 16 + c.toNat / 16), let6 (c.toNat % 16 * 4 + d.toNat / 64), let6 (d.toNat % 64)])) ((i + 3 : Nat) : Int)) R) :
    Ev (fun k => impl_letters.l1 k (S b) (NI out) (i : Int) ((3 : Nat) : Int) ((0 : Nat) : Int) ((0 : Nat) : Int)) R := by
  have g0 : i + 0 < b.length := by omega
  have g1 : i + 1 < b.length := by omega
  obtain ⟨q1, _, _, _, _⟩ := nA (u8_lt a)
  obtain ⟨q2, _, _, _, _⟩ := nB (u8_lt a) (u8_lt c)
  obtain ⟨q3, e0, e1, e2, e3⟩ := nC (u8_lt a) (u8_lt c) (u8_lt d)
  refine impl_take (j := 0) (n := 0) a ha (by omega) (by omega) g0 hb (by decide) ?_
  refine impl_take (j := 1) (n := 0 * 256 + a.toNat) c hc (by omega) (by omega) g1 hb q1 ?_
  refine impl_take (j := 2) (n := (0 * 256 + a.toNat) * 256 + c.toNat) d hd (by omega) (by omega) h2 hb q2 ?_
  refine impl_digits (n := ((0 * 256 + a.toNat) * 256 + c.toNat) * 256 + d.toNat) q3 (by omega) ?_
  refine impl_group rfl (by omega) (by omega) ?_
  rw [e0, e1, e2, e3]
  exact H

theorem impl_letters_loop (b : List UInt8) (hb : b.length ≤ 300) : ∀ (e i : Nat) (out : List UInt8), b.length ≤ i + 3 * e → i ≤ b.length + 2 → out.length ≤ 2 * i →
    Ev (fun k => impl_letters.l0 k (S b) (NI out) (i : Int)) (S (out ++ base (b.drop i))) := by
  intro e
  induction e with
  | zero =>
    intro i out hi hi2 ho
    refine Ev.step (fun k => by rw [impl_letters.l0]) ?_
    rw [size_S, List.drop_of_length_le (by omega), strOfNums_NI]
    refine ev_neg (by omega) ?_
    rw [base, List.append_nil]
    exact Ev.now _
  | succ e ih =>
    intro i out hi hi2 ho
    refine Ev.step (fun k => by rw [impl_letters.l0]) ?_
    rw [size_S]
    by_cases c0 : b.length ≤ i
    · rw [List.drop_of_length_le c0, strOfNums_NI]
      refine ev_neg (by omega) ?_
      rw [base, List.append_nil]
      exact Ev.now _
    have h0 : i < b.length := by omega
    refine ev_pos (by omega) ?_
    have w0 : wrap64 ((b.length : Int) - (i : Int)) = ((b.length - i : Nat) : Int) := by rw [w64 (by omega) (by omega)]; omega
    rw [w0]
    clear w0
    by_cases c1 : b.length ≤ i + 1
    · have hd : b.drop i = [b[i]] := by rw [drop_cons h0, List.drop_of_length_le (by omega)]
      rw [mn3 (m := 1) (by omega)]
      refine impl_one b[i] (getD_at h0) h0 hb (by omega) ?_
      have := ih (i + 3) (out ++ [let6 (b[i].toNat / 4), let6 (b[i].toNat % 4 * 16), 61, 61]) (by omega) (by omega) (by rw [List.length_append]; show out.length + 4 ≤ 2 * (i + 3); omega)
      rw [List.drop_of_length_le (by omega : b.length ≤ i + 3), base, List.append_nil] at this
      rw [hd, base]
      exact this
    have h1 : i + 1 < b.length := by omega
    by_cases c2 : b.length ≤ i + 2
    · have hd : b.drop i = [b[i], b[i + 1]] := by rw [drop_cons h0, drop_cons h1, List.drop_of_length_le (by omega)]
      rw [mn3 (m := 2) (by omega)]
      refine impl_two b[i] b[i + 1] (getD_at h0) (getD_at h1) h1 hb (by omega) ?_
      have := ih (i + 3) (out ++ [let6 (b[i].toNat / 4), let6 (b[i].toNat % 4 * 16 + b[i + 1].toNat / 16), let6 (b[i + 1].toNat % 16 * 4), 61]) (by omega) (by omega) (by rw [List.length_append]; show out.length + 4 ≤ 2 * (i + 3); omega)
      rw [List.drop_of_length_le (by omega : b.length ≤ i + 3), base, List.append_nil] at this
      rw [hd, base]
      exact this
    have h2 : i + 2 < b.length := by omega
    have hd : b.drop i = b[i] :: b[i + 1] :: b[i + 2] :: b.drop (i + 3) := by rw [drop_cons h0, drop_cons h1, drop_cons h2]
    rw [mn3 (m := 3) (by omega)]
    refine impl_three b[i] b[i + 1] b[i + 2] (getD_at h0) (getD_at h1) (getD_at h2) h2 hb (by omega) ?_
    have := ih (i + 3) (out ++ [let6 (b[i].toNat / 4), let6 (b[i].toNat % 4 * 16 + b[i + 1].toNat / 16), let6 (b[i + 1].toNat % 16 * 4 + b[i + 2].toNat / 64), let6 (b[i + 2].toNat % 64)]) (by omega) (by omega) (by rw [List.length_append]; show out.length + 4 ≤ 2 * (i + 3); omega)
    rw [hd, base]
    rw [List.append_assoc] at this
    exact this

theorem impl_letters_ev (b : List UInt8) (hb : b.length ≤ 300) : Ev (fun k => impl_letters.f k (S b)) (S (base b)) := by
  simp only [impl_letters.f]
  have := impl_letters_loop b hb 100 0 [] (by omega) (by omega) (by simp)
  rw [List.drop_zero, List.nil_append] at this
  exact this


theorem impl_lines_loop : ∀ (n : Nat) (s : List UInt8) (outs : List (List UInt8)), s.length ≤ 40 * n → s.length ≤ 100000 → outs.length + n ≤ 100000 →
    Ev (fun k => impl_EncodeBase.l0 k (SL outs) (S s)) (SL (outs ++ lines40 n s), true) := by
  intro n
  induction n with
  | zero =>
    intro s outs hs hs2 ho
    refine Ev.step (fun k => by rw [impl_EncodeBase.l0]) ?_
    rw [size_S, SL_length, SL_one, SL_append]
    refine ev_neg (by omega) (ev_pos (by omega) (Ev.now _))
  | succ n ih =>
    intro s outs hs hs2 ho
    refine Ev.step (fun k => by rw [impl_EncodeBase.l0]) ?_
    simp only [size_S, SL_length, extract_S, SL_one, SL_append]
    by_cases c : s.length > 40
    · refine ev_pos (by omega) (ev_pos (by omega) (ev_pos (by omega) (ev_pos (by omega) ?_)))
      have e1 : ((s.drop 40).take (s.length - 40)) = s.drop 40 := List.take_of_length_le (by rw [List.length_drop]; omega)
      have e2 : ((s.drop 0).take (40 - 0)) = s.take 40 := rfl
      rw [e1, e2]
      have := ih (s.drop 40) (outs ++ [s.take 40]) (by rw [List.length_drop]; omega) (by rw [List.length_drop]; omega) (by simp; omega)
      rw [lines40, if_pos c]
      simpa using this
    · refine ev_neg (by omega) (ev_pos (by omega) ?_)
      rw [lines40, if_neg c]
      exact Ev.now _

theorem impl_baseR (b : List UInt8) : Ev (fun k => impl_EncodeBase.f k (S b)) (baseR b) := by
  simp only [impl_EncodeBase.f, size_S]
  unfold baseR
  by_cases h : b.length > 300
  · rw [if_pos h]
    exact ev_pos (by omega) (Ev.now _)
  · rw [if_neg h]
    refine ev_neg (by omega) ?_
    refine Ev.bind (impl_letters_ev b (by omega)) ?_
    have hbl := base_length b
    have := impl_lines_loop 20 (base b) [] (by omega) (by omega) (by simp)
    rw [List.nil_append] at this
    exact this

theorem impl_text (s : List UInt8) (hl : s.length ≤ 1000000000000) : Ev (fun k => impl_TextValid.f k (S s)) (decide (textOK s)) := by
  simp only [impl_TextValid.f, size_S]
  have loop : ∀ (e i : Nat), i + e = s.length → (∀ j (h : j < s.length), j < i → 32 ≤ s[j].toNat ∧ s[j].toNat ≤ 126) → Ev (fun k => impl_TextValid.l0 k (S s) (s.length : Int) (i : Int)) (decide (textOK s)) := by
    intro e
    induction e with
    | zero =>
      intro i hi hp
      have e1 : decide ((s.length : Int) ≤ 200) = decide (textOK s) := by
        rw [decide_eq_decide]
        constructor
        · intro q
          refine ⟨by omega, fun c hc => ?_⟩
          obtain ⟨j, hj, rfl⟩ := List.mem_iff_getElem.1 hc
          exact hp j hj (by omega)
        · intro q
          have := q.1
          omega
      refine Ev.step (fun k => by rw [impl_TextValid.l0]) ?_
      rw [size_S, e1]
      exact ev_neg (by omega) (Ev.now _)
    | succ e ih =>
      intro i hi hp
      have hlt : i < s.length := by omega
      have hg : s.getD i 0 = s[i] := by rw [List.getD_eq_getElem?_getD, List.getElem?_eq_getElem hlt]; rfl
      have w : wrap64 ((i : Int) + 1) = ((i + 1 : Nat) : Int) := by rw [w64 (by omega) (by omega)]; omega
      refine Ev.step (fun k => by rw [impl_TextValid.l0]) ?_
      simp only [size_S, bt_S, Int.toNat_natCast, hg, w]
      refine ev_pos (by omega) (ev_pos (by omega) (ev_pos (by omega) ?_))
      by_cases hc : 32 ≤ s[i].toNat ∧ s[i].toNat ≤ 126
      · refine ev_neg (by omega) (ev_neg (by omega) (ih (i + 1) (by omega) ?_))
        intro j hj hji
        by_cases q : j = i
        · subst q
          exact hc
        · exact hp j hj (by omega)
      · have e1 : decide (textOK s) = false := decide_eq_false (fun q => hc (q.2 s[i] (List.getElem_mem hlt)))
        rw [e1]
        by_cases h3 : (s[i].toNat : Int) < 32
        · exact ev_pos h3 (Ev.now _)
        · exact ev_neg h3 (ev_pos (by omega) (Ev.now _))
  exact loop s.length 0 (by omega) (fun j _ h => by omega)

def NB (l : List UInt8) : List Int := l.map fun c => (c.toNat : Int)
theorem NB_length (l : List UInt8) : (NB l).length = l.length := by unfold NB; simp
theorem NB_str (l : List UInt8) : strOfNums (NB l) = S l := by
  rw [strOfNums_S]
  unfold NB
  rw [List.map_map]
  have : ((fun n : Int => UInt8.ofNat n.toNat) ∘ fun c : UInt8 => (c.toNat : Int)) = id := by
    funext c
    exact u8_of c
  rw [this]
  simp
theorem NB_snoc (l : List UInt8) (c : UInt8) : NB l ++ [(c.toNat : Int)] = NB (l ++ [c]) := by unfold NB; simp
theorem NB_nil : ([] : List Int) = NB [] := rfl

theorem hex_val {x y : Nat} (hx : x < 16) (hy : y < 16) : (wrap64 ((wrap64 (16 * (x : Int))) + (y : Int))) % 256 = ((UInt8.ofNat (16 * x + y)).toNat : Int) := by
  have w : wrap64 (16 * (x : Int)) = 16 * (x : Int) := w64 (by omega) (by omega)
  rw [w, w64 (by omega) (by omega), UInt8.toNat_ofNat']
  omega


/-- What comes of bytes that are there and bytes to come. -/
def finR (acc : List UInt8) (o : Option (List UInt8)) : ByteArray × Bool := match o with
  | some t => if (acc ++ t).length ≤ 300 then (S (acc ++ t), true) else (S [], false)
  | none => (S [], false)
theorem finR_dec (ls : List (List UInt8)) : finR [] (decL ls true) = decR ls := rfl
theorem finR_app (acc s : List UInt8) (o : Option (List UInt8)) : finR (acc ++ s) o = finR acc (o.map fun t => s ++ t) := by
  cases o with
  | none => rfl
  | some t =>
    unfold finR
    simp only [Option.map_some, List.append_assoc]
theorem finR_long (acc : List UInt8) (o : Option (List UInt8)) (h : acc.length > 300) : finR acc o = (S [], false) := by
  cases o with
  | none => rfl
  | some t =>
    unfold finR
    exact if_neg (by rw [List.length_append]; omega)
theorem decL_none {l : List UInt8} {ls : List (List UInt8)} {b : Bool} (h : unq l = none) : decL (l :: ls) b = none := by
  unfold decL
  rw [h]
theorem decL_some {l s : List UInt8} {g : Bool} {ls : List (List UInt8)} (h : unq l = some (s, g)) : decL (l :: ls) true = (decL ls g).map fun t => s ++ t := by
  rw [decL, h]
  rfl
theorem unq_length : ∀ (n : Nat) (l s : List UInt8) (g : Bool), l.length ≤ n → unq l = some (s, g) → s.length ≤ l.length := by
  intro n
  induction n with
  | zero =>
    intro l s g hl h
    match l, hl with
    | [], _ =>
      have h1 : [] = s := congrArg Prod.fst (Option.some.inj h)
      rw [← h1]
      exact Nat.le_refl _
  | succ n ih =>
    intro l s g hl h
    have out : ∀ (c : UInt8) (r : List UInt8), r.length ≤ n → (unq r).map (fun p => (c :: p.1, p.2)) = some (s, g) → s.length ≤ r.length + 1 := by
      intro c r hr h
      cases hq : unq r with
      | none => rw [hq] at h; cases h
      | some p =>
        rw [hq] at h
        have h1 : c :: p.1 = s := congrArg Prod.fst (Option.some.inj h)
        have := ih r p.1 p.2 hr hq
        rw [← h1]
        show p.1.length + 1 ≤ _
        omega
    match l, hl with
    | [], _ =>
      have h1 : [] = s := congrArg Prod.fst (Option.some.inj h)
      rw [← h1]
      exact Nat.le_refl _
    | [c], hl =>
      by_cases c61 : c.toNat = 61
      · rw [unq, if_pos c61] at h
        have h1 : [] = s := congrArg Prod.fst (Option.some.inj h)
        rw [← h1]
        exact Nat.zero_le _
      · by_cases hp : 32 ≤ c.toNat ∧ c.toNat ≤ 126
        · rw [unq_plain c61 hp.1 hp.2] at h
          exact out c [] (Nat.zero_le _) h
        · rw [unq_bad c61 hp] at h
          cases h
    | [c, d], hl =>
      by_cases c61 : c.toNat = 61
      · rw [unq, if_pos c61] at h
        cases h
      · by_cases hp : 32 ≤ c.toNat ∧ c.toNat ≤ 126
        · rw [unq_plain c61 hp.1 hp.2] at h
          exact out c [d] (by simp at hl ⊢; omega) h
        · rw [unq_bad c61 hp] at h
          cases h
    | c :: d :: e :: r, hl =>
      by_cases c61 : c.toNat = 61
      · rw [unq, if_pos c61] at h
        cases hx : hexv d with
        | none => rw [hx] at h; cases h
        | some x =>
          cases hy : hexv e with
          | none => rw [hx, hy] at h; cases h
          | some y =>
            rw [hx, hy] at h
            have := out _ r (by simp at hl; omega) h
            simp
            omega
      · by_cases hp : 32 ≤ c.toNat ∧ c.toNat ≤ 126
        · rw [unq_plain c61 hp.1 hp.2] at h
          exact out c (d :: e :: r) (by simp at hl ⊢; omega) h
        · rw [unq_bad c61 hp] at h
          cases h
theorem S10 : (⟨#[10]⟩ : ByteArray) = S [10] := rfl
theorem S0 : (⟨#[]⟩ : ByteArray) = S [] := rfl


def hexs : List UInt8 := [48, 49, 50, 51, 52, 53, 54, 55, 56, 57, 65, 66, 67, 68, 69, 70]
theorem hexs_S : (⟨#[48, 49, 50, 51, 52, 53, 54, 55, 56, 57, 65, 66, 67, 68, 69, 70]⟩ : ByteArray) = S hexs := rfl
theorem hexs_index (c : UInt8) : Lib.indexByte hexs c = hv c := by
  have h : ∀ n : Fin 256, Lib.indexByte hexs (UInt8.ofNat n.val) = hv (UInt8.ofNat n.val) := by decide +kernel
  have := h ⟨c.toNat, c.toNat_lt⟩
  have e : UInt8.ofNat c.toNat = c := by simp
  rw [e] at this
  exact this
theorem index_hex (c : UInt8) : strings_IndexByte.f (S hexs) (c.toNat : Int) = some (hv c) := by
  unfold strings_IndexByte.f
  have e : ((c.toNat : Int)).toNat.toUInt8 = c := by simp
  rw [data_S, e, hexs_index]

/-- What the program has of an escape at the head of bytes. -/
def hexO (l : List UInt8) : Option (UInt8 × List UInt8) := match l with
  | c :: d :: e :: r => if c.toNat = 61 then (match hexv d, hexv e with | some x, some y => some (UInt8.ofNat (16 * x + y), r) | _, _ => none) else none
  | _ => none
theorem impl_hexof (l : List UInt8) : ∃ n ok, Ev (fun k => impl_hexOf.f k (S l)) (n, ok) ∧ (∀ b r, hexO l = some (b, r) → ok = true ∧ n = (b.toNat : Int)) ∧ (hexO l = none → ok = false) := by
  simp only [impl_hexOf.f, size_S]
  have j0 : ∀ l, Ev (fun k => impl_hexOf.j0 k (S l) true) (0, false) := by
    intro l
    refine Ev.step (fun k => by rw [impl_hexOf.j0]) ?_
    exact ev_pos rfl (Ev.now _)
  match l with
  | [] => exact ⟨0, false, ev_pos (by decide) (j0 _), fun b r h => (by cases h), fun _ => rfl⟩
  | [c] => exact ⟨0, false, ev_pos (by simp) (j0 _), fun b r h => (by cases h), fun _ => rfl⟩
  | [c, d] => exact ⟨0, false, ev_pos (by simp) (j0 _), fun b r h => (by cases h), fun _ => rfl⟩
  | c :: d :: e :: r =>
    have hc : bt (S (c :: d :: e :: r)) 0 = (c.toNat : Int) := by rw [bt_S]; rfl
    have hd : bt (S (c :: d :: e :: r)) 1 = (d.toNat : Int) := by rw [bt_S]; rfl
    have he : bt (S (c :: d :: e :: r)) 2 = (e.toNat : Int) := by rw [bt_S]; rfl
    have hlen : ((c :: d :: e :: r).length : Int) = r.length + 3 := by simp; omega
    simp only [hc, hlen]
    by_cases c61 : c.toNat = 61
    · have hz : ((c.toNat : Int) != 61) = false := by rw [c61]; rfl
      rw [hz]
      have body : ∀ v ok, v = (wrap64 ((wrap64 (16 * hv d)) + hv e)) % 256 → ok = (decide (0 ≤ hv d) && decide (0 ≤ hv e)) → Ev (fun k => impl_hexOf.j0 k (S (c :: d :: e :: r)) false) (v, ok) := by
        intro v ok hv' hok
        refine Ev.step (fun k => by rw [impl_hexOf.j0]) ?_
        simp only [size_S, hexs_S, hd, he, hlen]
        refine ev_neg (by decide) (ev_pos (by omega) ?_)
        refine ev_bind0 (index_hex d) (ev_pos (by omega) ?_)
        refine ev_bind0 (index_hex e) ?_
        rw [hv', hok]
        by_cases h : hv d ≥ 0
        · refine ev_pos h (ev_is ?_)
          rw [decide_eq_true (show 0 ≤ hv d from h), Bool.true_and]
        · refine ev_neg h (ev_is ?_)
          rw [decide_eq_false (show ¬ 0 ≤ hv d from h), Bool.false_and]
      refine ⟨_, _, ev_neg (by omega) (ev_pos (by omega) (body _ _ rfl rfl)), ?_, ?_⟩
      · intro b r' h
        rw [hexO, if_pos c61] at h
        cases hx : hexv d with
        | none => rw [hx] at h; cases h
        | some x =>
          cases hy : hexv e with
          | none => rw [hx, hy] at h; cases h
          | some y =>
            rw [hx, hy] at h
            have h1 : UInt8.ofNat (16 * x + y) = b := congrArg Prod.fst (Option.some.inj h)
            rw [hv_some hx, hv_some hy, ← h1, hex_val (hexv_lt hx) (hexv_lt hy)]
            exact ⟨by simp, rfl⟩
      · intro h
        rw [hexO, if_pos c61] at h
        cases hx : hexv d with
        | none => rw [hv_none hx]; rfl
        | some x =>
          cases hy : hexv e with
          | none => rw [hv_none hy]; simp
          | some y => rw [hx, hy] at h; cases h
    · have hz : ((c.toNat : Int) != 61) = true := by
        rw [bne_iff_ne]
        omega
      rw [hz]
      refine ⟨0, false, ev_neg (by omega) (ev_pos (by omega) (j0 _)), ?_, fun _ => rfl⟩
      intro b r' h
      rw [hexO, if_neg c61] at h
      cases h


theorem unq_hexO {l : List UInt8} (h61 : l.head? = some 61) (h2 : 2 ≤ l.length) : unq l = match hexO l with
    | some (b, r) => (unq r).map fun p => (b :: p.1, p.2)
    | none => none := by
  match l, h61, h2 with
  | [c, d], h, _ =>
    have : c = 61 := Option.some.inj h
    subst this
    rfl
  | c :: d :: e :: r, h, _ =>
    have : c = 61 := Option.some.inj h
    subst this
    rw [unq, if_pos (by decide), hexO, if_pos (by decide)]
    cases hexv d with
    | none => rfl
    | some x => cases hexv e <;> rfl
theorem hexO_drop {l r : List UInt8} {b : UInt8} (h : hexO l = some (b, r)) : 3 ≤ l.length ∧ r = l.drop 3 := by
  match l with
  | [] => cases h
  | [_] => cases h
  | [_, _] => cases h
  | c :: d :: e :: t =>
    refine ⟨by simp, ?_⟩
    by_cases c61 : c.toNat = 61
    · rw [hexO, if_pos c61] at h
      cases hx : hexv d with
      | none => rw [hx] at h; cases h
      | some x =>
        cases hy : hexv e with
        | none => rw [hx, hy] at h; cases h
        | some y =>
          rw [hx, hy] at h
          have h1 : t = r := congrArg Prod.snd (Option.some.inj h)
          exact h1.symm
    · rw [hexO, if_neg c61] at h
      cases h

theorem impl_line (l : List UInt8) (L : List ByteArray) (n i : Int) (R : ByteArray × Bool) (hl : l.length ≤ 1048576) : ∀ (e j : Nat) (acc : List UInt8), l.length ≤ j + e → j ≤ l.length → acc.length ≤ 2000000000000 + j →
    (∀ s g, unq (l.drop j) = some (s, g) → Ev (fun k => impl_DecodeQuoted.l0 k (NB (acc ++ s)) g L n (wrap64 (i + 1))) R) → (unq (l.drop j) = none → R = (S [], false)) →
    Ev (fun k => impl_DecodeQuoted.l1 k (NB acc) false (S l) (j : Int) L n i) R := by
  intro e
  induction e with
  | zero =>
    intro j acc hj hj2 _ h1 h2
    refine Ev.step (fun k => by rw [impl_DecodeQuoted.l1]) ?_
    simp only [size_S]
    refine ev_neg (by omega) ?_
    rw [List.drop_of_length_le (by omega)] at h1
    have := h1 [] false rfl
    rwa [List.append_nil] at this
  | succ e ih =>
    intro j acc hj hj2 ha h1 h2
    by_cases hlt : j < l.length
    · have hg : l.getD j 0 = l[j] := by rw [List.getD_eq_getElem?_getD, List.getElem?_eq_getElem hlt]; rfl
      have w1 : wrap64 ((j : Int) + 1) = ((j + 1 : Nat) : Int) := by rw [w64 (by omega) (by omega)]; omega
      have w2 : wrap64 ((j : Int) + 2) = ((j + 2 : Nat) : Int) := by rw [w64 (by omega) (by omega)]; omega
      have w3 : wrap64 (((j + 2 : Nat) : Int) + 1) = ((j + 3 : Nat) : Int) := by rw [w64 (by omega) (by omega)]; omega
      refine Ev.step (fun k => by rw [impl_DecodeQuoted.l1]) ?_
      simp only [size_S, w1, bt_S, Int.toNat_natCast, hg]
      refine ev_pos (by omega) (ev_pos (by omega) ?_)
      by_cases c61 : (l[j].toNat : Int) = 61
      · refine ev_pos c61 ?_
        have c61' : l[j] = 61 := (u8_is (n := 61) (by omega)).1 c61
        refine Ev.step (fun k => by rw [impl_DecodeQuoted.j3]) ?_
        by_cases hend : j + 1 = l.length
        · have hz : (((j + 1 : Nat) : Int) == (l.length : Int)) = true := by rw [hend]; simp
          rw [hz]
          refine ev_pos rfl ?_
          simp only [w1]
          refine Ev.step (fun k => by rw [impl_DecodeQuoted.l1]) ?_
          simp only [size_S]
          refine ev_neg (by omega) ?_
          rw [drop_cons hlt, List.drop_of_length_le (by omega), c61'] at h1
          have := h1 [] true rfl
          rwa [List.append_nil] at this
        · have hz : (((j + 1 : Nat) : Int) == (l.length : Int)) = false := by
            rw [beq_eq_false_iff_ne]
            omega
          rw [hz]
          simp only [size_S, bt_S, Int.toNat_natCast, hg, w1, w2, w3, extract_S, NB_length, S0]
          refine ev_neg (by decide) (ev_pos (by omega) (ev_pos (by omega) (ev_pos c61 (ev_pos (by omega) ?_))))
          have hx : (l.drop j).take (l.length - j) = l.drop j := List.take_of_length_le (by rw [List.length_drop]; omega)
          rw [hx]
          have hu := unq_hexO (l := l.drop j) (by rw [drop_cons hlt, c61']; rfl) (by rw [List.length_drop]; omega)
          obtain ⟨v, ok, hev, hs, hno⟩ := impl_hexof (l.drop j)
          refine Ev.bind hev ?_
          cases ho : hexO (l.drop j) with
          | none =>
            rw [ho] at hu
            rw [hno ho]
            exact ev_neg (by simp) (ev_is (by rw [h2 hu]))
          | some p =>
            obtain ⟨b, r⟩ := p
            rw [ho] at hu
            obtain ⟨k1, k2⟩ := hs b r ho
            obtain ⟨k3, k4⟩ := hexO_drop ho
            rw [List.length_drop] at k3
            rw [List.drop_drop] at k4
            rw [k1, k2, NB_snoc]
            simp only at hu
            refine ev_pos rfl (ev_pos (by omega) ?_)
            refine ih (j + 3) (acc ++ [b]) (by omega) (by omega) (by simp; omega) ?_ ?_
            · intro s g hsg
              rw [k4, hsg] at hu
              have := h1 (b :: s) g hu
              simpa using this
            · intro hno'
              rw [k4, hno'] at hu
              exact h2 hu
      · refine ev_neg c61 ?_
        refine Ev.step (fun k => by rw [impl_DecodeQuoted.j3]) ?_
        simp only [size_S, bt_S, Int.toNat_natCast, hg, w1, NB_length, S0]
        refine ev_neg (by decide) (ev_pos (by omega) (ev_pos (by omega) (ev_neg c61 ?_)))
        by_cases hp : 32 ≤ l[j].toNat ∧ l[j].toNat ≤ 126
        · have hu := unq_plain (c := l[j]) (r := l.drop (j + 1)) (by omega) hp.1 hp.2
          rw [← drop_cons hlt] at hu
          refine ev_pos (by omega) (ev_pos (by omega) (ev_pos (by omega) ?_))
          rw [NB_snoc]
          refine ih (j + 1) (acc ++ [l[j]]) (by omega) (by omega) (by simp; omega) ?_ ?_
          · intro s g hsg
            rw [hsg] at hu
            have := h1 (l[j] :: s) g hu
            simpa using this
          · intro hno'
            rw [hno'] at hu
            exact h2 hu
        · have hu := unq_bad (c := l[j]) (r := l.drop (j + 1)) (by omega) hp
          rw [← drop_cons hlt] at hu
          rw [h2 hu]
          by_cases h3 : (l[j].toNat : Int) ≥ 32
          · exact ev_pos h3 (ev_neg (by omega) (Ev.now _))
          · exact ev_neg h3 (Ev.now _)
    · refine Ev.step (fun k => by rw [impl_DecodeQuoted.l1]) ?_
      simp only [size_S]
      refine ev_neg (by omega) ?_
      rw [List.drop_of_length_le (by omega)] at h1
      have := h1 [] false rfl
      rwa [List.append_nil] at this

theorem big (a i n : Nat) (h : a ≤ i * 1048577 + 1) (h1 : i < n) (h2 : n ≤ 1048576) : a ≤ 2000000000000 + 0 := by omega
theorem impl_decq_loop (ls : List (List UInt8)) (hn : ls.length ≤ 1048576) (hb : ∀ l ∈ ls, l.length ≤ 1048576) : ∀ (e i : Nat) (acc : List UInt8) (goes : Bool), i + e = ls.length → acc.length ≤ i * 1048577 →
    Ev (fun k => impl_DecodeQuoted.l0 k (NB acc) goes (SL ls) (ls.length : Int) (i : Int)) (finR acc (decL (ls.drop i) goes)) := by
  intro e
  induction e with
  | zero =>
    intro i acc goes hi ha
    refine Ev.step (fun k => by rw [impl_DecodeQuoted.l0]) ?_
    simp only [NB_length, NB_str, S0]
    rw [List.drop_of_length_le (by omega)]
    refine ev_neg (by omega) ?_
    cases goes with
    | true => exact ev_pos rfl (Ev.now _)
    | false =>
      refine ev_neg (by decide) ?_
      by_cases h3 : acc.length ≤ 300
      · refine ev_neg (by omega) (ev_is ?_)
        show _ = some (finR acc (some []))
        unfold finR
        simp only [List.append_nil]
        rw [if_pos h3]
      · exact ev_pos (by omega) (ev_eq (finR_long _ _ (by omega)) (Ev.now _))
  | succ e ih =>
    intro i acc goes hi ha
    have hlt : i < ls.length := by omega
    have hli := hb ls[i] (List.getElem_mem hlt)
    have w1 : wrap64 ((i : Int) + 1) = ((i + 1 : Nat) : Int) := by rw [w64 (by omega) (by omega)]; omega
    have line : ∀ acc' : List UInt8, acc'.length ≤ i * 1048577 + 1 → Ev (fun k => impl_DecodeQuoted.j1 k (NB acc') (S ls[i]) (SL ls) (ls.length : Int) (i : Int)) (finR acc' (decL (ls.drop i) true)) := by
      intro acc' ha'
      refine Ev.step (fun k => by rw [impl_DecodeQuoted.j1]) ?_
      rw [List.drop_eq_getElem_cons hlt]
      refine impl_line ls[i] (SL ls) (ls.length : Int) (i : Int) _ hli ls[i].length 0 acc' (by omega) (by omega) (big _ _ _ ha' hlt hn) ?_ ?_
      · intro s g h
        rw [List.drop_zero] at h
        have := unq_length _ _ _ _ (Nat.le_refl _) h
        rw [decL_some h, ← finR_app, w1]
        exact ih (i + 1) (acc' ++ s) g (by omega) (by rw [List.length_append]; omega)
      · intro h
        rw [List.drop_zero] at h
        rw [decL_none h]
        rfl
    refine Ev.step (fun k => by rw [impl_DecodeQuoted.l0]) ?_
    simp only [SL_length, rdOf_SL _ ls i hlt, NB_length]
    refine ev_pos (by omega) (ev_pos (by omega) (ev_pos (by omega) ?_))
    cases goes with
    | true => exact ev_pos rfl (line acc (Nat.le_succ_of_le ha))
    | false =>
      refine ev_neg (by decide) (ev_pos (by omega) ?_)
      have e1 : NB acc ++ [10] = NB (acc ++ [10]) := NB_snoc acc 10
      have e2 : finR acc (decL (ls.drop i) false) = finR (acc ++ [10]) (decL (ls.drop i) true) := by
        rw [finR_app acc, List.drop_eq_getElem_cons hlt, decL_hard]
      rw [e1, e2]
      exact line _ (by rw [List.length_append]; exact Nat.succ_le_succ ha)

theorem impl_decq (ls : List (List UInt8)) (hn : ls.length ≤ 1048576) (hb : ∀ l ∈ ls, l.length ≤ 1048576) : Ev (fun k => impl_DecodeQuoted.f k (SL ls)) (decR ls) := by
  simp only [impl_DecodeQuoted.f, NB_nil, SL_length]
  have := impl_decq_loop ls hn hb ls.length 0 [] true (by omega) (by simp)
  rwa [List.drop_zero] at this

theorem b64_S : (⟨#[65, 66, 67, 68, 69, 70, 71, 72, 73, 74, 75, 76, 77, 78, 79, 80, 81, 82, 83, 84, 85, 86, 87, 88, 89, 90, 97, 98, 99, 100, 101, 102, 103, 104, 105, 106, 107, 108, 109, 110, 111, 112, 113, 114, 115, 116, 117, 118, 119, 120, 121, 122, 48, 49, 50, 51, 52, 53, 54, 55, 56, 57, 43, 47]⟩ : ByteArray) = S b64 := rfl
theorem index_b64 (c : UInt8) : strings_IndexByte.f (S b64) (c.toNat : Int) = some (bx c) := by
  unfold strings_IndexByte.f
  have e : ((c.toNat : Int)).toNat.toUInt8 = c := by simp
  rw [data_S, e]
  rfl
theorem mx_bv (c : UInt8) : mx (bx c) 0 = (bv c : Int) := by
  have := bx_bd c
  unfold mx bv
  split <;> omega
theorem mx_sub (a b : Nat) (h : a ≤ 2000000000000) (h2 : b ≤ 2000000000000) : mx (wrap64 ((a : Int) - (b : Int))) 0 = ((a - b : Nat) : Int) := by
  rw [w64 (by omega) (by omega)]
  unfold mx
  split <;> omega
theorem count_eq (s : List UInt8) : strings_Count.f (S s) (⟨#[61]⟩ : ByteArray) = some ((s.count 61 : Nat) : Int) := by
  unfold strings_Count.f
  have h : (⟨#[61]⟩ : ByteArray).size = 1 := rfl
  rw [if_pos h]
  rfl

theorem deb_step {s out : List UInt8} {i j n : Nat} {R : ByteArray × Bool} (c : UInt8) (hc : s.getD (i + j) 0 = c) (hj : j < 4) (hi : i + j < s.length) (hs : s.length ≤ 2000000000000) (hn : n < 262144)
    (H : Ev (fun k => impl_DecodeBase.l1 k (S s) (NI out) (i : Int) ((n * 64 + bv c : Nat) : Int) ((j + 1 : Nat) : Int)) R) : Ev (fun k => impl_DecodeBase.l1 k (S s) (NI out) (i : Int) (n : Int) (j : Int)) R := by
  have hv := bv_lt c
  obtain ⟨w1, w2, w3⟩ : wrap64 ((i : Int) + (j : Int)) = ((i + j : Nat) : Int) ∧ wrap64 (wrap64 (64 * (n : Int)) + (bv c : Int)) = ((n * 64 + bv c : Nat) : Int) ∧ wrap64 ((j : Int) + 1) = ((j + 1 : Nat) : Int) :=
    ⟨by rw [w64 (by omega) (by omega)]; omega, by rw [w64 (n := 64 * (n : Int)) (by omega) (by omega), w64 (by omega) (by omega)]; omega, by rw [w64 (by omega) (by omega)]; omega⟩
  refine Ev.step (fun k => by rw [impl_DecodeBase.l1]) ?_
  simp only [w1, size_S, bt_S, Int.toNat_natCast, hc, b64_S]
  refine ev_pos (by omega) (ev_pos (by omega) (ev_pos (by omega) (ev_bind0 (index_b64 c) ?_)))
  rw [mx_bv, w2, w3]
  exact H
theorem div3 {n : Nat} : (n : Int) / 65536 % 256 = ((UInt8.ofNat (n / 65536)).toNat : Int) ∧ (n : Int) / 256 % 256 = ((UInt8.ofNat (n / 256)).toNat : Int) ∧ (n : Int) % 256 = ((UInt8.ofNat n).toNat : Int) := by
  rw [UInt8.toNat_ofNat', UInt8.toNat_ofNat', UInt8.toNat_ofNat']
  refine ⟨?_, ?_, ?_⟩ <;> omega
theorem deb_group {s out : List UInt8} {i n : Nat} {R : ByteArray × Bool} (hi : i ≤ 2000000000000) (ho : out.length ≤ 2000000000000)
    (H : Ev (fun k => impl_DecodeBase.l0 k (S s) (NI (out ++ three n)) ((i + 4 : Nat) : Int)) R) : Ev (fun k => impl_DecodeBase.l1 k (S s) (NI out) (i : Int) (n : Int) ((4 : Nat) : Int)) R := by
  have w1 : wrap64 ((i : Int) + 4) = ((i + 4 : Nat) : Int) := by rw [w64 (by omega) (by omega)]; omega
  obtain ⟨d1, d2, d3⟩ := div3 (n := n)
  refine Ev.step (fun k => by rw [impl_DecodeBase.l1]) ?_
  have e : ([(n : Int) / 65536 % 256, (n : Int) / 256 % 256, (n : Int) % 256] : List Int) = NI (three n) := by rw [d1, d2, d3]; rfl
  rw [e, w1]
  refine ev_neg (by decide) (ev_bind0 rfl ?_)
  rw [NI_length, NI_length, NI_append]
  exact ev_pos (by show out.length + 3 < _; omega) H

theorem deb_end (s : List UInt8) (n : Nat) (hs : s.length = 4 * n) (hl : s.length ≤ 2000000000000) :
    Ev (fun k => (strings_Count.f (S s) (⟨#[61]⟩ : ByteArray)).bind fun t => (if 0 ≤ (mx (wrap64 (((NI (decB s)).length : Int) - t)) 0) then (if (mx (wrap64 (((NI (decB s)).length : Int) - t)) 0) ≤ ((NI (decB s)).length : Int) then ((some ((NI (decB s)).take ((mx (wrap64 (((NI (decB s)).length : Int) - t)) 0) : Int).toNat : List Int)).bind fun y => (if ((strOfNums y).size : Int) > 300 then (some ((⟨#[]⟩ : ByteArray), false)) else ((impl_letters.f k (strOfNums y)).bind fun t2 => (if t2.toList = (S s).toList then (some (strOfNums y, true)) else (some ((⟨#[]⟩ : ByteArray), false)))))) else (none)) else (none))) (debR s) := by
  have hd := decB_length n s hs
  have hc : s.count 61 ≤ s.length := List.count_le_length
  refine ev_bind0 (count_eq s) ?_
  rw [NI_length, mx_sub _ _ (by omega) (by omega)]
  refine ev_pos (by omega) (ev_pos (by omega) (ev_bind0 rfl ?_))
  have e : (NI (decB s)).take (((decB s).length - s.count 61 : Nat) : Int).toNat = NI (cutB s) := by
    rw [Int.toNat_natCast]
    unfold cutB NI
    rw [List.map_take]
  rw [e, strOfNums_NI, size_S]
  by_cases h3 : (cutB s).length > 300
  · have : debR s = (S [], false) := debR_neg (by
      rintro ⟨b, h1, h2⟩
      rw [← h2, cutB_base] at h3
      omega)
    rw [this]
    exact ev_pos (by omega) (Ev.now _)
  · refine ev_neg (by omega) (Ev.bind (impl_letters_ev (cutB s) (by omega)) ?_)
    by_cases h4 : base (cutB s) = s
    · rw [debR_pos (by omega) h4]
      exact ev_pos (by rw [h4]) (Ev.now _)
    · have : debR s = (S [], false) := debR_neg (by
        rintro ⟨b, h1, h2⟩
        apply h4
        rw [← h2, cutB_base])
      rw [this]
      exact ev_neg (by rw [toList_S, toList_S]; exact h4) (Ev.now _)

theorem deb_loop (s : List UInt8) (n : Nat) (hs : s.length = 4 * n) (hl : s.length ≤ 2000000000000) : ∀ (e i : Nat) (out : List UInt8), i + e = n → out.length = 3 * i → decB s = out ++ decB (s.drop (4 * i)) →
    Ev (fun k => impl_DecodeBase.l0 k (S s) (NI out) ((4 * i : Nat) : Int)) (debR s) := by
  intro e
  induction e with
  | zero =>
    intro i out hi ho hd
    rw [List.drop_of_length_le (by omega)] at hd
    have e0 : decB [] = [] := rfl
    rw [e0, List.append_nil] at hd
    refine Ev.step (fun k => by rw [impl_DecodeBase.l0]) ?_
    rw [size_S, ← hd]
    exact ev_neg (by omega) (deb_end s n hs hl)
  | succ e ih =>
    intro i out hi ho hd
    have h0 : 4 * i < s.length := by omega
    have h1 : 4 * i + 1 < s.length := by omega
    have h2 : 4 * i + 2 < s.length := by omega
    have h3 : 4 * i + 3 < s.length := by omega
    have g0 : s.getD (4 * i + 0) 0 = s[4 * i] := by rw [List.getD_eq_getElem?_getD, Nat.add_zero, List.getElem?_eq_getElem h0]; rfl
    have g1 : s.getD (4 * i + 1) 0 = s[4 * i + 1] := by rw [List.getD_eq_getElem?_getD, List.getElem?_eq_getElem h1]; rfl
    have g2 : s.getD (4 * i + 2) 0 = s[4 * i + 2] := by rw [List.getD_eq_getElem?_getD, List.getElem?_eq_getElem h2]; rfl
    have g3 : s.getD (4 * i + 3) 0 = s[4 * i + 3] := by rw [List.getD_eq_getElem?_getD, List.getElem?_eq_getElem h3]; rfl
    have sh : s.drop (4 * i) = s[4 * i] :: s[4 * i + 1] :: s[4 * i + 2] :: s[4 * i + 3] :: s.drop (4 * (i + 1)) := by
      have e43 : 4 * (i + 1) = 4 * i + 3 + 1 := by omega
      rw [e43, drop_cons h0, drop_cons h1, drop_cons h2, drop_cons h3]
    have v0 := bv_lt s[4 * i]
    have v1 := bv_lt s[4 * i + 1]
    have v2 := bv_lt s[4 * i + 2]
    have h4 := ih (i + 1) (out ++ three (num4 s[4 * i] s[4 * i + 1] s[4 * i + 2] s[4 * i + 3])) (by omega) (by rw [List.length_append, ho]; show 3 * i + 3 = _; omega) (by rw [hd, sh, decB, List.append_assoc])
    have e4 : 4 * (i + 1) = 4 * i + 4 := by omega
    rw [e4] at h4
    refine Ev.step (fun k => by rw [impl_DecodeBase.l0]) ?_
    rw [size_S]
    refine ev_pos (by omega) ?_
    refine deb_step (j := 0) (n := 0) _ g0 (by omega) (by omega) hl (by omega) ?_
    rw [Nat.zero_mul, Nat.zero_add]
    refine deb_step (j := 1) _ g1 (by omega) (by omega) hl (by omega) ?_
    refine deb_step (j := 2) _ g2 (by omega) (by omega) hl (by omega) ?_
    refine deb_step (j := 3) _ g3 (by omega) (by omega) hl (by omega) ?_
    exact deb_group (by omega) (by omega) h4

theorem impl_deb (ls : List (List UInt8)) (hn : ls.length ≤ 1048576) (hf : ls.flatten.length ≤ 2000000000000) : Ev (fun k => impl_DecodeBase.f k (SL ls)) (debR ls.flatten) := by
  simp only [impl_DecodeBase.f]
  have hj : strings_Join.f (SL ls) (⟨#[]⟩ : ByteArray) = some (S ls.flatten) := by
    unfold strings_Join.f
    have e : (⟨#[]⟩ : ByteArray).data.toList = [] := rfl
    rw [e, SL_lists, join_flat, SL_length, if_pos ⟨by omega, by omega⟩]
    rfl
  refine ev_bind0 hj ?_
  rw [size_S]
  by_cases h4 : (ls.flatten.length : Int) % 4 = 0
  · have := deb_loop ls.flatten (ls.flatten.length / 4) (by omega) hf (ls.flatten.length / 4) 0 [] (by omega) (by simp) (by simp)
    exact ev_pos h4 this
  · have : debR ls.flatten = (S [], false) := debR_neg (by
      rintro ⟨b, h1, h2⟩
      have := debR_len h1 h2
      omega)
    rw [this]
    exact ev_neg h4 (Ev.now _)

theorem impl_plain (ls : List (List UInt8)) (hn : ls.length ≤ 1048576) (hb : ∀ l ∈ ls, l.length ≤ 1048576) : Ev (fun k => impl_arePlain.f k (SL ls)) (decide (ls ≠ [] ∧ ∀ l ∈ ls, okL l)) := by
  have hk : ∀ ms : List (List UInt8), (∀ l ∈ ms, l.length ≤ 1048576) → ∃ k, ∀ l ∈ ms, ∀ j, k ≤ j → impl_TextValid.f j (S l) = some (decide (textOK l)) := by
    intro ms
    induction ms with
    | nil => intro _; exact ⟨0, fun l hl => by cases hl⟩
    | cons x r ih =>
      intro h
      obtain ⟨k1, h1⟩ := ih (fun l hl => h l (by simp [hl]))
      obtain ⟨k2, h2⟩ := impl_text x (by have := h x (by simp); omega)
      refine ⟨max k1 k2, fun l hl j hj => ?_⟩
      rcases List.mem_cons.1 hl with hl | hl
      · rw [hl]; exact h2 j (by omega)
      · exact h1 l hl j (by omega)
  obtain ⟨k, hk⟩ := hk ls hb
  refine ⟨k, fun j hj => ?_⟩
  have hv : ∀ x ∈ SL ls, ∃ l ∈ ls, x = S l ∧ impl_TextValid.f j x = some (decide (textOK l)) := by
    intro x hx
    obtain ⟨l, hl, rfl⟩ := List.mem_map.1 hx
    exact ⟨l, hl, rfl, hk l hl j hj⟩
  show impl_arePlain.f j (SL ls) = some _
  unfold impl_arePlain.f
  rw [if_pos ⟨fun x hx => by obtain ⟨l, _, _, h⟩ := hv x hx; rw [h]; rfl, by rw [SL_length]; omega⟩]
  refine congrArg some ?_
  rw [SL_length, Bool.eq_iff_iff]
  simp only [Bool.and_eq_true, decide_eq_true_eq, Bool.not_eq_true', List.any_eq_false]
  constructor
  · rintro ⟨h1, h2⟩
    refine ⟨fun q => by rw [q] at h1; exact absurd h1 (by simp), fun l hl => ?_⟩
    have h3 := h2 (S l) (List.mem_map_of_mem hl)
    unfold impl_arePlain.p at h3
    rw [hk l hl j hj, Option.getD_some, size_S] at h3
    simp only [Bool.or_eq_true, Bool.not_eq_true', decide_eq_false_iff_not, decide_eq_true_eq, not_or, Decidable.not_not] at h3
    exact ⟨h3.1, by omega⟩
  · rintro ⟨h1, h2⟩
    refine ⟨List.length_pos_iff.2 h1, fun x hx => ?_⟩
    obtain ⟨l, hl, rfl, h⟩ := hv x hx
    have h3 := h2 l hl
    unfold impl_arePlain.p
    rw [h, Option.getD_some, size_S]
    simp only [Bool.or_eq_true, Bool.not_eq_true', decide_eq_false_iff_not, decide_eq_true_eq, not_or, Decidable.not_not]
    exact ⟨h3.1, by have := h3.2; omega⟩
theorem join_len (ls : List (List UInt8)) (hn : ls.length ≤ 1048576) (hb : ∀ l ∈ ls, l.length ≤ 1048576) : (Lib.join ls [10]).length ≤ 140737488355328 := by
  cases ls with
  | nil => simp [Lib.join_nil]
  | cons x r =>
    have e : Lib.join (x :: r) [10] = x ++ tailL r := Lib.join_cons x r [10]
    have ht : ∀ m : List (List UInt8), (∀ l ∈ m, l.length ≤ 1048576) → (tailL m).length ≤ 1048577 * m.length := by
      intro m
      induction m with
      | nil => intro _; simp [tailL]
      | cons y t ih =>
        intro h
        have h1 := ih (fun l hl => h l (by simp [hl]))
        have h2 := h y (by simp)
        rw [tailL_cons]
        simp only [List.length_append, List.length_cons, List.length_nil]
        omega
    have h1 := ht r (fun l hl => hb l (by simp [hl]))
    have h2 := hb x (by simp)
    simp only [List.length_cons] at hn
    rw [e, List.length_append]
    omega
theorem impl_bytes3 (ls : List (List UInt8)) (c : Int) (hn : ls.length ≤ 1048576) (hb : ∀ l ∈ ls, l.length ≤ 1048576) (hf : ls.flatten.length ≤ 2000000000000) : Ev (fun k => impl_DecodeBytes.f k (SL ls) c) (decB3 ls c) := by
  have e0 : (⟨#[]⟩ : ByteArray) = S [] := rfl
  simp only [impl_DecodeBytes.f, e0]
  unfold decB3
  by_cases hc : c = 0
  · have hj : strings_Join.f (SL ls) (⟨#[10]⟩ : ByteArray) = some (S (Lib.join ls [10])) := by
      have em : (SL ls).map (·.data.toList) = ls := by
        unfold SL
        rw [List.map_map]
        exact List.map_id ls
      unfold strings_Join.f
      rw [em]
      have e10 : (⟨#[10]⟩ : ByteArray).data.toList = [10] := rfl
      rw [e10, if_pos ⟨by rw [SL_length]; omega, join_len ls hn hb⟩]
      rfl
    rw [if_neg (by omega), if_neg (by omega), if_pos hc, hj]
    refine ev_pos hc ?_
    simp only [Option.bind_some, size_S]
    by_cases h3 : (Lib.join ls [10]).length ≤ 300
    · by_cases h4 : ls ≠ [] ∧ ∀ l ∈ ls, okL l
      · have c1 : ls ≠ [] ∧ (∀ l ∈ ls, okL l) ∧ (Lib.join ls [10]).length ≤ 300 := ⟨h4.1, h4.2, h3⟩
        have er : plainR ls = (S (Lib.join ls [10]), true) := by unfold plainR; rw [if_pos c1]
        have hp := impl_plain ls hn hb
        rw [decide_eq_true h4] at hp
        rw [er]
        exact ev_neg (by omega) (Ev.bind hp (ev_pos rfl (Ev.now _)))
      · have c1 : ¬ (ls ≠ [] ∧ (∀ l ∈ ls, okL l) ∧ (Lib.join ls [10]).length ≤ 300) := fun z => h4 ⟨z.1, z.2.1⟩
        have er : plainR ls = (S [], false) := by unfold plainR; rw [if_neg c1]
        have hp := impl_plain ls hn hb
        rw [decide_eq_false h4] at hp
        rw [er]
        exact ev_neg (by omega) (Ev.bind hp (ev_neg (by decide) (Ev.now _)))
    · have c1 : ¬ (ls ≠ [] ∧ (∀ l ∈ ls, okL l) ∧ (Lib.join ls [10]).length ≤ 300) := fun z => h3 z.2.2
      have er : plainR ls = (S [], false) := by unfold plainR; rw [if_neg c1]
      rw [er]
      exact ev_pos (by omega) (Ev.now _)
  · refine ev_neg hc ?_
    by_cases h1 : c = 1
    · rw [if_pos h1]
      exact ev_pos h1 (Ev.bind (impl_decq ls hn hb) (Ev.now _))
    rw [if_neg h1]
    refine ev_neg h1 ?_
    by_cases h2 : c = 2
    · rw [if_pos h2]
      exact ev_pos h2 (Ev.bind (impl_deb ls hn hf) (Ev.now _))
    rw [if_neg h2, if_neg hc]
    exact ev_neg h2 (Ev.now _)

theorem split1 (c : UInt8) (s : List UInt8) (hs : s.length < 4294967281) : strings_Split.f (S s) (⟨#[c]⟩ : ByteArray) = some (SL (parts c s)) := by
  unfold strings_Split.f
  have h : (⟨#[c]⟩ : ByteArray).size = 1 := rfl
  rw [if_pos ⟨by rw [size_S]; exact hs, h⟩, splitB_parts]

def bestR (b : List UInt8) : Int × Bool := if b.length > 300 then (0, false) else if ∀ l ∈ parts 10 b, okL l then (0, true) else if wsum (quotR b).1 0 ≤ wsum (baseR b).1 0 then (1, true) else (2, true)
theorem spec_best (b : List UInt8) (hl : b.length ≤ 1048576) : Ev (fun k => spec_BestCode.f k (S b)) (bestR b) := by
  simp only [spec_BestCode.f, size_S]
  have q1 := quotR_length b
  have q2 := baseR_length b
  by_cases h3 : b.length > 300
  · have e : bestR b = (0, false) := by unfold bestR; rw [if_pos h3]
    rw [e]
    exact ev_pos (by omega) (Ev.now _)
  · have hp := spec_plain b hl
    by_cases h4 : ∀ l ∈ parts 10 b, okL l
    · have e : bestR b = (0, true) := by unfold bestR; rw [if_neg h3, if_pos h4]
      rw [if_pos h4, decide_eq_true (show b.length ≤ 300 by omega)] at hp
      rw [e]
      exact ev_neg (by omega) (Ev.bind hp (ev_pos rfl (Ev.now _)))
    · rw [if_neg h4] at hp
      have e : bestR b = if wsum (quotR b).1 0 ≤ wsum (baseR b).1 0 then (1, true) else (2, true) := by unfold bestR; rw [if_neg h3, if_neg h4]
      refine ev_neg (by omega) (Ev.bind hp (ev_neg (by decide) (Ev.bind (spec_quot b) (Ev.bind (spec_baseR b) (Ev.bind (spec_size _ (by omega)) (Ev.bind (spec_size _ (by omega)) ?_))))))
      by_cases h5 : wsum (quotR b).1 0 ≤ wsum (baseR b).1 0
      · rw [if_pos h5] at e
        rw [e]
        exact ev_pos h5 (Ev.now _)
      · rw [if_neg h5] at e
        rw [e]
        exact ev_neg h5 (Ev.now _)
theorem impl_best (b : List UInt8) (hl : b.length ≤ 1048576) : Ev (fun k => impl_BestCode.f k (S b)) (bestR b) := by
  simp only [impl_BestCode.f]
  have q1 := quotR_length b
  have q2 := baseR_length b
  have q3 : (quotR b).2 = !decide (b.length > 300) := by
    unfold quotR
    by_cases h3 : b.length > 300
    · rw [if_pos h3, decide_eq_true h3]; rfl
    · rw [if_neg h3, decide_eq_false h3]; rfl
  have e10 : strings_Split.f (S b) (⟨#[10]⟩ : ByteArray) = some (SL (parts 10 b)) := split1 10 b (by omega)
  refine Ev.bind (impl_quot b) (Ev.bind (impl_baseR b) ?_)
  rw [e10, q3]
  by_cases h3 : b.length > 300
  · have e : bestR b = (0, false) := by unfold bestR; rw [if_pos h3]
    rw [e, decide_eq_true h3]
    exact ev_neg (by decide) (Ev.now _)
  · rw [decide_eq_false h3]
    have hpl := parts_length 10 b
    have he := parts_each 10 b
    have hp := impl_plain (parts 10 b) (by omega) (fun l hm => by have := (he l hm).1; omega)
    have hne := parts_ne 10 b
    by_cases h4 : ∀ l ∈ parts 10 b, okL l
    · have e : bestR b = (0, true) := by unfold bestR; rw [if_neg h3, if_pos h4]
      have h5 : parts 10 b ≠ [] ∧ ∀ l ∈ parts 10 b, okL l := ⟨hne, h4⟩
      rw [decide_eq_true h5] at hp
      rw [e]
      exact ev_pos rfl (Ev.bind (Ev.now _) (Ev.bind hp (ev_pos rfl (Ev.now _))))
    · have e : bestR b = if wsum (quotR b).1 0 ≤ wsum (baseR b).1 0 then (1, true) else (2, true) := by unfold bestR; rw [if_neg h3, if_neg h4]
      have h5 : ¬ (parts 10 b ≠ [] ∧ ∀ l ∈ parts 10 b, okL l) := fun z => h4 z.2
      rw [decide_eq_false h5] at hp
      refine ev_pos rfl (Ev.bind (Ev.now _) (Ev.bind hp (ev_neg (by decide) (Ev.bind (impl_size _ (by omega)) (Ev.bind (impl_size _ (by omega)) ?_)))))
      by_cases h6 : wsum (quotR b).1 0 ≤ wsum (baseR b).1 0
      · rw [if_pos h6] at e
        rw [e]
        exact ev_neg (by omega) (Ev.now _)
      · rw [if_neg h6] at e
        rw [e]
        exact ev_pos (by omega) (Ev.now _)

/-- What EncodeBytes returns. -/
def encB3 (b : List UInt8) (c : Int) : List ByteArray × Bool := if c = 0 then encP b else if c = 1 then quotR b else if c = 2 then baseR b else ([], false)
theorem encB3_length (b : List UInt8) (c : Int) (_ : b.length ≤ 1048576) : (encB3 b c).1.length ≤ 1000 := by
  have q1 := quotR_length b
  have q2 := baseR_length b
  have q3 := parts_length 10 b
  unfold encB3 encP
  split
  · split
    · rename_i h
      have := h.2
      rw [SL_length]
      omega
    · exact Nat.zero_le _
  · split
    · omega
    · split
      · omega
      · exact Nat.zero_le _
theorem impl_encb (b : List UInt8) (c : Int) (hl : b.length ≤ 1048576) : Ev (fun k => impl_EncodeBytes.f k (S b) c) (encB3 b c) := by
  have e10 : strings_Split.f (S b) (⟨#[10]⟩ : ByteArray) = some (SL (parts 10 b)) := split1 10 b (by omega)
  simp only [impl_EncodeBytes.f, e10, size_S]
  by_cases h0 : c = 0
  · have e : encB3 b c = encP b := by unfold encB3; rw [if_pos h0]
    rw [e]
    unfold encP
    by_cases h3 : b.length ≤ 300
    · have hpl := parts_length 10 b
      have he := parts_each 10 b
      have hp := impl_plain (parts 10 b) (by omega) (fun l hm => by have := (he l hm).1; omega)
      by_cases h4 : ∀ l ∈ parts 10 b, okL l
      · have c1 : (∀ l ∈ parts 10 b, okL l) ∧ b.length ≤ 300 := ⟨h4, h3⟩
        have h5 : parts 10 b ≠ [] ∧ ∀ l ∈ parts 10 b, okL l := ⟨parts_ne 10 b, h4⟩
        rw [decide_eq_true h5] at hp
        rw [if_pos c1]
        exact ev_pos h0 (Ev.bind (Ev.now _) (ev_neg (by omega) (Ev.bind hp (ev_pos rfl (Ev.now _)))))
      · have c1 : ¬ ((∀ l ∈ parts 10 b, okL l) ∧ b.length ≤ 300) := fun z => h4 z.1
        have h5 : ¬ (parts 10 b ≠ [] ∧ ∀ l ∈ parts 10 b, okL l) := fun z => h4 z.2
        rw [decide_eq_false h5] at hp
        rw [if_neg c1]
        exact ev_pos h0 (Ev.bind (Ev.now _) (ev_neg (by omega) (Ev.bind hp (ev_neg (by simp) (Ev.now _)))))
    · have c1 : ¬ ((∀ l ∈ parts 10 b, okL l) ∧ b.length ≤ 300) := fun z => h3 z.2
      rw [if_neg c1]
      exact ev_pos h0 (Ev.bind (Ev.now _) (ev_pos (by omega) (Ev.now _)))
  by_cases h1 : c = 1
  · have e : encB3 b c = quotR b := by unfold encB3; rw [if_neg h0, if_pos h1]
    rw [e]
    exact ev_neg h0 (ev_pos h1 (Ev.bind (impl_quot b) (Ev.now _)))
  by_cases h2 : c = 2
  · have e : encB3 b c = baseR b := by unfold encB3; rw [if_neg h0, if_neg h1, if_pos h2]
    rw [e]
    exact ev_neg h0 (ev_neg h1 (ev_pos h2 (Ev.bind (impl_baseR b) (Ev.now _))))
  have e : encB3 b c = ([], false) := by unfold encB3; rw [if_neg h0, if_neg h1, if_neg h2]
  rw [e]
  exact ev_neg h0 (ev_neg h1 (ev_neg h2 (Ev.now _)))

theorem encB3_0 (b : List UInt8) : encB3 b 0 = encP b := by unfold encB3; rw [if_pos rfl]
theorem encB3_1 (b : List UInt8) : encB3 b 1 = quotR b := by unfold encB3; rw [if_neg (by decide), if_pos rfl]
theorem encB3_2 (b : List UInt8) : encB3 b 2 = baseR b := by unfold encB3; rw [if_neg (by decide), if_neg (by decide), if_pos rfl]
theorem encB3_none (b : List UInt8) {c : Int} (h0 : c ≠ 0) (h1 : c ≠ 1) (h2 : c ≠ 2) : encB3 b c = ([], false) := by unfold encB3; rw [if_neg h0, if_neg h1, if_neg h2]
theorem decB3_0 (ls : List (List UInt8)) : decB3 ls 0 = plainR ls := by unfold decB3; rw [if_neg (by decide), if_neg (by decide), if_pos rfl]
theorem decB3_1 (ls : List (List UInt8)) : decB3 ls 1 = decR ls := by unfold decB3; rw [if_pos rfl]
theorem decB3_2 (ls : List (List UInt8)) : decB3 ls 2 = debR ls.flatten := by unfold decB3; rw [if_neg (by decide), if_pos rfl]
/-- What is written in one of the ways is lines of at most forty bytes, and is read back. -/
def Back (b : List UInt8) (c : Int) (ls : List (List UInt8)) : Prop :=
  encB3 b c = (SL ls, true) ∧ 1 ≤ ls.length ∧ ls.length ≤ 301 ∧ (∀ l ∈ ls, l.length ≤ 40) ∧ decB3 ls c = (S b, true) ∧ b.length ≤ 300
theorem back_0 {b : List UInt8} (h : (∀ l ∈ parts 10 b, okL l) ∧ b.length ≤ 300) : Back b 0 (parts 10 b) := by
  have hj : Lib.join (parts 10 b) [10] = b := parts_join 10 b
  have hn := parts_ne 10 b
  have hl := parts_length 10 b
  refine ⟨?_, List.length_pos_iff.2 hn, by have := h.2; omega, fun l hm => (h.1 l hm).2, ?_, h.2⟩
  · rw [encB3_0]
    unfold encP
    exact if_pos h
  · rw [decB3_0]
    unfold plainR
    rw [hj]
    exact if_pos ⟨hn, h.1, h.2⟩
theorem back_1 {b : List UInt8} (h : b.length ≤ 300) : Back b 1 (encQ b []) := by
  have hl := encQ_length b []
  obtain ⟨l, r, he⟩ := encQ_cons b []
  refine ⟨?_, by rw [he]; simp, by omega, encQ_width b [] (by simp), ?_, h⟩
  · rw [encB3_1]
    unfold quotR
    exact if_neg (by omega)
  · rw [decB3_1]
    exact decR_some (decL_quot b) h
theorem lines40_each (s : List UInt8) (h : s.length ≤ 800) : ∀ l ∈ lines40 20 s, l.length ≤ 40 := by
  obtain ⟨i1, i2, _⟩ := lines40_width 20 s (by omega)
  intro l hm
  obtain ⟨i, hi, rfl⟩ := List.mem_iff_getElem.1 hm
  by_cases q : i + 1 < (lines40 20 s).length
  · rw [i1 i hi q]
    omega
  · have hne : lines40 20 s ≠ [] := List.ne_nil_of_mem hm
    have e : (lines40 20 s).getLastD [] = (lines40 20 s)[i] := by
      have e2 : (lines40 20 s).length - 1 = i := by omega
      rw [List.getLastD_eq_getLast?, List.getLast?_eq_getElem?, e2, List.getElem?_eq_getElem hi]
      rfl
    rw [e] at i2
    exact i2
theorem back_2 {b : List UInt8} (h : b.length ≤ 300) : Back b 2 (lines40 20 (base b)) := by
  have hb := base_length b
  obtain ⟨l1, l2⟩ := lines40_length 20 (base b)
  refine ⟨?_, l2, by omega, lines40_each _ (by omega), ?_, h⟩
  · rw [encB3_2]
    unfold baseR
    exact if_neg (by omega)
  · rw [decB3_2, lines40_join]
    exact debR_pos h rfl
/-- Either a way fails, and nothing is written, or what is written is read back. -/
theorem ways (b : List UInt8) (c : Int) : encB3 b c = ([], false) ∨ ∃ ls, Back b c ls := by
  by_cases h0 : c = 0
  · subst h0
    by_cases h : (∀ l ∈ parts 10 b, okL l) ∧ b.length ≤ 300
    · exact Or.inr ⟨_, back_0 h⟩
    · refine Or.inl ?_
      rw [encB3_0]
      unfold encP
      exact if_neg h
  by_cases h1 : c = 1
  · subst h1
    by_cases h : b.length ≤ 300
    · exact Or.inr ⟨_, back_1 h⟩
    · refine Or.inl ?_
      rw [encB3_1]
      unfold quotR
      exact if_pos (by omega)
  by_cases h2 : c = 2
  · subst h2
    by_cases h : b.length ≤ 300
    · exact Or.inr ⟨_, back_2 h⟩
    · refine Or.inl ?_
      rw [encB3_2]
      unfold baseR
      exact if_pos (by omega)
  exact Or.inl (encB3_none b h0 h1 h2)
theorem back_flat {b : List UInt8} {c : Int} {ls : List (List UInt8)} (h : Back b c ls) : ls.flatten.length ≤ 12040 := by
  obtain ⟨_, _, h1, h2, _⟩ := h
  have h3 := flat_len ls 40 h2
  have : ls.length * 40 ≤ 301 * 40 := Nat.mul_le_mul_right _ h1
  omega

theorem join_ev (ls : List (List UInt8)) (hl : ls.length ≤ 100000) (hs : ls.flatten.length ≤ 100000000) : Ev (fun k => laws_mwJoin.f k (SL ls)) (S ls.flatten) := by
  simp only [laws_mwJoin.f]
  have : ∀ (e i : Nat), i + e = ls.length → Ev (fun k => laws_mwJoin.l0 k (SL ls) (S (ls.take i).flatten) (i : Int)) (S ls.flatten) := by
    intro e
    induction e with
    | zero =>
      intro i hi
      refine Ev.step (fun k => by rw [laws_mwJoin.l0]) ?_
      rw [SL_length, List.take_of_length_le (by omega)]
      exact ev_neg (by omega) (Ev.now _)
    | succ e ih =>
      intro i hi
      have hlt : i < ls.length := by omega
      have hr := rdOf_SL ByteArray.empty ls i hlt
      have hfl : (ls.take (i + 1)).flatten = (ls.take i).flatten ++ ls[i] := by rw [List.take_succ_eq_append_getElem hlt, List.flatten_append]; simp
      have hle : (ls.take (i + 1)).flatten.length ≤ ls.flatten.length := by
        have : ls.flatten = (ls.take (i + 1)).flatten ++ (ls.drop (i + 1)).flatten := by rw [← List.flatten_append, List.take_append_drop]
        rw [this, List.length_append]
        omega
      rw [hfl, List.length_append] at hle
      have w : wrap64 ((i : Int) + 1) = ((i + 1 : Nat) : Int) := by rw [w64 (by omega) (by omega)]; omega
      have hih := ih (i + 1) (by omega)
      rw [hfl] at hih
      refine Ev.step (fun k => by rw [laws_mwJoin.l0]) ?_
      simp only [SL_length, hr, size_S, append_S, w]
      exact ev_pos (by omega) (ev_pos (by omega) (ev_pos (by omega) hih))
  exact this ls.length 0 (by omega)

theorem wsum_SL (ls : List (List UInt8)) : ∀ x : Nat, x + ls.flatten.length + ls.length ≤ 1000000 → wsum (SL ls) (x : Int) = ((x + ls.flatten.length + ls.length : Nat) : Int) := by
  induction ls with
  | nil => intro x _; simp [SL, wsum]
  | cons s r ih =>
    intro x h
    simp only [List.flatten_cons, List.length_append, List.length_cons] at h ⊢
    have e : SL (s :: r) = S s :: SL r := rfl
    have w : wrap64 ((x : Int) + (s.length : Int) + 1) = ((x + s.length + 1 : Nat) : Int) := by rw [w64 (by omega) (by omega)]; omega
    rw [e, wsum, size_S, w, ih (x + s.length + 1) (by omega)]
    omega

theorem bc_end {b : List UInt8} {c : Int} {p : Bool} (hb : b.length ≤ 300) (h : p = true ∨ (p = false ∧ c = if wsum (quotR b).1 0 ≤ wsum (baseR b).1 0 then 1 else 2)) :
    Ev (fun k => laws_FnBestCode.j1 k (S b) c p false) true := by
  refine Ev.step (fun k => by rw [laws_FnBestCode.j1]) ?_
  refine ev_neg (by simp) (Ev.bind (impl_quot b) (Ev.bind (impl_baseR b) ?_))
  rcases h with h | ⟨h, hc⟩
  · exact ev_pos h (Ev.now _)
  · have f1 := back_flat (back_1 (b := b) hb)
    have f2 := back_flat (back_2 (b := b) hb)
    have eq : (quotR b).1 = SL (encQ b []) := by unfold quotR; rw [if_neg (by omega)]
    have eb : (baseR b).1 = SL (lines40 20 (base b)) := by unfold baseR; rw [if_neg (by omega)]
    obtain ⟨_, _, n1, _⟩ := back_1 (b := b) hb
    obtain ⟨_, _, n2, _⟩ := back_2 (b := b) hb
    have s1 := wsum_SL (encQ b []) 0 (by omega)
    have s2 := wsum_SL (lines40 20 (base b)) 0 (by omega)
    have j1 := join_ev (encQ b []) (by omega) (by omega)
    have j2 := join_ev (lines40 20 (base b)) (by omega) (by omega)
    rw [eq, eb] at hc ⊢
    have s1' : wsum (SL (encQ b [])) 0 = _ := s1
    have s2' : wsum (SL (lines40 20 (base b))) 0 = _ := s2
    rw [s1', s2'] at hc
    clear s1 s2 s1' s2' eq eb
    refine ev_neg (by rw [h]; simp) (Ev.bind j2 (Ev.bind j1 (ev_is ?_)))
    simp only [size_S, SL_length]
    generalize (encQ b []).flatten.length = x at *
    generalize (lines40 20 (base b)).flatten.length = y at *
    generalize (encQ b []).length = n at *
    generalize (lines40 20 (base b)).length = m at *
    have w1 : wrap64 ((y : Int) + (m : Int)) = (y : Int) + (m : Int) := w64 (by omega) (by omega)
    have w2 : wrap64 ((x : Int) + (n : Int)) = (x : Int) + (n : Int) := w64 (by omega) (by omega)
    rw [w1, w2]
    clear w1 w2
    refine congrArg some ?_
    by_cases q : x + n ≤ y + m
    · rw [if_pos (by omega)] at hc
      rw [hc, decide_eq_false (by omega)]
      rfl
    · rw [if_neg (by omega)] at hc
      rw [hc, decide_eq_true (by omega)]
      rfl

theorem bc_way {b : List UInt8} {c : Int} {ls : List (List UInt8)} (hb : b.length ≤ 300) (h : Back b c ls) (hp : (encB3 b 0).2 = (c == 0))
    (hc : (encB3 b 0).2 = true ∨ ((encB3 b 0).2 = false ∧ c = if wsum (quotR b).1 0 ≤ wsum (baseR b).1 0 then 1 else 2)) :
    Ev (fun k => laws_FnBestCode.j0 k (S b) c true c true false) true := by
  have hf := back_flat h
  obtain ⟨h1, h2, h3, h4, h5, h6⟩ := h
  have hi := impl_encb b c (by omega)
  have h0 := impl_encb b 0 (by omega)
  rw [h1] at hi
  have hx := impl_bytes3 ls c (by omega) (fun l hm => by have := h4 l hm; omega) (by omega)
  rw [h5] at hx
  refine Ev.step (fun k => by rw [laws_FnBestCode.j0]) ?_
  refine ev_neg (by simp) (Ev.bind hi (Ev.bind hx (Ev.bind h0 (ev_pos rfl (ev_pos rfl (ev_pos rfl ?_))))))
  rw [← hp, bne_self_eq_false]
  exact bc_end hb hc

theorem FnBestCode : laws_FnBestCode.Pure := by
  intro l0 _ _ hw
  refine Ev.rounds ?_
  simp only [laws_FnBestCode.f]
  by_cases hl : (l0.length : Int) > 1048576
  · exact ev_pos hl (Ev.now _)
  refine ev_neg hl ?_
  obtain ⟨t, ht, hd⟩ := drawbest_ex l0 (bytes_wf hw)
  obtain ⟨b, rfl⟩ := ex_S t
  rw [size_S] at ht
  refine Ev.bind hd (Ev.bind (impl_best b (by omega)) (Ev.bind (spec_best b (by omega)) (ev_pos rfl (ev_neg (by simp) ?_))))
  by_cases h3 : b.length > 300
  · have e : bestR b = (0, false) := by unfold bestR; rw [if_pos h3]
    rw [e]
    refine Ev.step (fun k => by rw [laws_FnBestCode.j0]) ?_
    exact ev_pos rfl (ev_pos rfl (ev_is (by simp)))
  · by_cases h4 : ∀ l ∈ parts 10 b, okL l
    · have e : bestR b = (0, true) := by unfold bestR; rw [if_neg h3, if_pos h4]
      have hk := back_0 (b := b) ⟨h4, by omega⟩
      have e2 : (encB3 b 0).2 = true := by rw [hk.1]
      rw [e]
      exact bc_way (by omega) hk (by rw [e2]; rfl) (Or.inl e2)
    · have e2 : (encB3 b 0).2 = false := by
        rw [encB3_0]
        unfold encP
        rw [if_neg (fun z => h4 z.1)]
      by_cases h5 : wsum (quotR b).1 0 ≤ wsum (baseR b).1 0
      · have e : bestR b = (1, true) := by unfold bestR; rw [if_neg h3, if_neg h4, if_pos h5]
        rw [e]
        exact bc_way (by omega) (back_1 (by omega)) (by rw [e2]; rfl) (Or.inr ⟨e2, by rw [if_pos h5]⟩)
      · have e : bestR b = (2, true) := by unfold bestR; rw [if_neg h3, if_neg h4, if_neg h5]
        rw [e]
        exact bc_way (by omega) (back_2 (by omega)) (by rw [e2]; rfl) (Or.inr ⟨e2, by rw [if_neg h5]⟩)

end Go.Proofs.YtdkgbemlfajhcaaDoor.PLFnBestCode
namespace Go.Proofs.YtdkgbemlfajhcaaDoor.Pure
open Go.Proofs.YtdkgbemlfajhcaaDoor.PFnBestCode
theorem FnBestCode : laws_FnBestCode.Pure := PLFnBestCode.FnBestCode
end Go.Proofs.YtdkgbemlfajhcaaDoor.Pure
