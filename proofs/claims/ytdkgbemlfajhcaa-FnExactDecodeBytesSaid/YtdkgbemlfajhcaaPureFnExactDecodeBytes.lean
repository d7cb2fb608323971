/- The law FnExactDecodeBytes holds of the printed functions: both programs read lines alike, in each way. No conditions. -/
import Derived.Test.YtdkgbemlfajhcaaPFnExactDecodeBytesx8
import Derived.Test.YtdkgbemlfajhcaaMBase
import Derived.Test.YtdkgbemlfajhcaaMStr
import Derived.Test.YtdkgbemlfajhcaaMQuot
import Derived.Test.YtdkgbemlfajhcaaMDecQ
import Derived.Test.YtdkgbemlfajhcaaMB64
import Derived.Test.YtdkgbemlfajhcaaMDeb
import Derived.Test.YtdkgbemlfajhcaaMCode
import Derived.Test.YtdkgbemlfajhcaaMRead
import Derived.Test.YtdkgbemlfajhcaaMParts
import Derived.Test.YtdkgbemlfajhcaaMName
import Derived.Test.YtdkgbemlfajhcaaMEnc
namespace Go.Proofs.Ytdkgbemlfajhcaa.PLFnExactDecodeBytes
open Go.RowKit Go.Proofs.Ytdkgbemlfajhcaa.PFnExactDecodeBytes Go.Proofs.YtdkgbemlfajhcaaW.PrintWords Go.Proofs.YtdkgbemlfajhcaaW.PrintLast Go.Proofs.YtdkgbemlfajhcaaW.PrintMore Go.Proofs.Ytdkgbemlfajhcaa.M

/-- Lines that need no code. -/
def okL (l : List UInt8) : Prop := textOK l ∧ l.length ≤ 40
instance (l : List UInt8) : Decidable (okL l) := by unfold okL; exact inferInstance
def tailL (r : List (List UInt8)) : List UInt8 := (r.map ([10] ++ ·)).flatten
theorem tailL_cons (x : List UInt8) (r : List (List UInt8)) : tailL (x :: r) = [10] ++ (x ++ tailL r) := by simp [tailL]
def plainR (ls : List (List UInt8)) : ByteArray × Bool := if ls ≠ [] ∧ (∀ l ∈ ls, okL l) ∧ (Lib.join ls [10]).length ≤ 300 then (S (Lib.join ls [10]), true) else (S [], false)
def resL (c : Int) (acc : List UInt8) (r : List (List UInt8)) : ByteArray × Bool := if (∀ l ∈ r, okL l) ∧ (acc ++ tailL r).length ≤ 300 then (if c = 0 then (S (acc ++ tailL r), true) else (S [], false)) else (S [], false)
theorem resL_bad {c : Int} {acc x : List UInt8} {r : List (List UInt8)} (h : ¬ okL x ∨ (acc ++ [10] ++ x).length > 300) : resL c acc (x :: r) = (S [], false) := by
  unfold resL
  rw [if_neg]
  rintro ⟨h1, h2⟩
  rcases h with h | h
  · exact h (h1 x (by simp))
  · rw [tailL_cons] at h2
    simp only [List.length_append] at h h2
    omega
theorem resL_next {c : Int} {acc x : List UInt8} {r : List (List UInt8)} (h : okL x) : resL c acc (x :: r) = resL c (acc ++ [10] ++ x) r := by
  have e : acc ++ tailL (x :: r) = acc ++ [10] ++ x ++ tailL r := by rw [tailL_cons]; simp only [List.append_assoc]
  unfold resL
  rw [e]
  by_cases q : (∀ l ∈ r, okL l) ∧ (acc ++ [10] ++ x ++ tailL r).length ≤ 300
  · rw [if_pos q, if_pos ⟨fun l hl => by
      rcases List.mem_cons.1 hl with hl | hl
      · rw [hl]; exact h
      · exact q.1 l hl, q.2⟩]
  · rw [if_neg q, if_neg (fun z => q ⟨fun l hl => z.1 l (by simp [hl]), z.2⟩)]
theorem plainR_first (x : List UInt8) (r : List (List UInt8)) : plainR (x :: r) = if okL x ∧ x.length ≤ 300 then resL 0 x r else (S [], false) := by
  have e : Lib.join (x :: r) [10] = x ++ tailL r := Lib.join_cons x r [10]
  unfold plainR resL
  rw [e]
  by_cases h : okL x
  · have c0 : okL x ∧ x.length ≤ 300 := ⟨h, by have := h.2; omega⟩
    rw [if_pos c0]
    by_cases q : (∀ l ∈ r, okL l) ∧ (x ++ tailL r).length ≤ 300
    · have c1 : x :: r ≠ [] ∧ (∀ l ∈ x :: r, okL l) ∧ (x ++ tailL r).length ≤ 300 := ⟨by simp, fun l hl => by
        rcases List.mem_cons.1 hl with hl | hl
        · rw [hl]; exact h
        · exact q.1 l hl, q.2⟩
      rw [if_pos q, if_pos c1, if_pos rfl]
    · have c1 : ¬ (x :: r ≠ [] ∧ (∀ l ∈ x :: r, okL l) ∧ (x ++ tailL r).length ≤ 300) := fun z => q ⟨fun l hl => z.2.1 l (by simp [hl]), z.2.2⟩
      rw [if_neg q, if_neg c1]
  · have c0 : ¬ (okL x ∧ x.length ≤ 300) := fun z => h z.1
    have c1 : ¬ (x :: r ≠ [] ∧ (∀ l ∈ x :: r, okL l) ∧ (x ++ tailL r).length ≤ 300) := fun z => h (z.2.1 x (by simp))
    rw [if_neg c0, if_neg c1]
/-- What DecodeBytes returns. -/
noncomputable def decB3 (ls : List (List UInt8)) (c : Int) : ByteArray × Bool := if c = 1 then decR ls else if c = 2 then debR ls.flatten else if c = 0 then plainR ls else (S [], false)

theorem spec_value (c : UInt8) : Ev (fun k => spec_l5Value.f k (c.toNat : Int)) (hv c) := by
  have hc := c.toNat_lt
  simp only [spec_l5Value.f]
  have j : ∀ b, b = decide (48 ≤ c.toNat ∧ c.toNat ≤ 57) → Ev (fun k => spec_l5Value.j0 k (c.toNat : Int) b) (hv c) := by
    intro b hb
    refine Ev.step (fun k => by rw [spec_l5Value.j0]) ?_
    by_cases h : 48 ≤ c.toNat ∧ c.toNat ≤ 57
    · have e : hexv c = some (c.toNat - 48) := by unfold hexv; rw [if_pos h]
      rw [hv_some e]
      refine ev_pos (by rw [hb]; simp [h]) (ev_is (congrArg some ?_))
      omega
    · refine ev_neg (by rw [hb]; simp; omega) ?_
      by_cases h2 : 65 ≤ c.toNat ∧ c.toNat ≤ 70
      · have e : hexv c = some (c.toNat - 55) := by unfold hexv; rw [if_neg h, if_pos h2]
        rw [hv_some e]
        refine ev_pos (by omega) (ev_pos (by omega) (ev_is (congrArg some ?_)))
        omega
      · have e : hexv c = none := by unfold hexv; rw [if_neg h, if_neg h2]
        rw [hv_none e]
        by_cases h3 : 65 ≤ c.toNat
        · exact ev_pos (by omega) (ev_neg (by omega) (Ev.now _))
        · exact ev_neg (by omega) (Ev.now _)
  by_cases h : 48 ≤ c.toNat
  · refine ev_pos (by omega) (j _ ?_)
    rw [decide_eq_decide]
    omega
  · refine ev_neg (by omega) (j _ ?_)
    symm
    rw [decide_eq_false_iff_not]
    omega

/-- Bytes as numbers. -/
def NB (l : List UInt8) : List Int := l.map fun c => (c.toNat : Int)
theorem NB_length (l : List UInt8) : (NB l).length = l.length := by unfold NB; simp
theorem NB_str (l : List UInt8) : strOfNums (NB l) = S l := by
  rw [strOfNums_S]
  unfold NB
  rw [List.map_map]
  have : ((fun n : Int => UInt8.ofNat n.toNat) ∘ fun c : UInt8 => (c.toNat : Int)) = id := by
    funext c
    exact u8_of c
  rw [this]
  simp
theorem NB_snoc (l : List UInt8) (c : UInt8) : NB l ++ [(c.toNat : Int)] = NB (l ++ [c]) := by unfold NB; simp
theorem NB_nil : ([] : List Int) = NB [] := rfl

theorem hex_val {x y : Nat} (hx : x < 16) (hy : y < 16) : (wrap64 ((wrap64 (16 * (x : Int))) + (y : Int))) % 256 = ((UInt8.ofNat (16 * x + y)).toNat : Int) := by
  have w : wrap64 (16 * (x : Int)) = 16 * (x : Int) := w64 (by omega) (by omega)
  rw [w, w64 (by omega) (by omega), UInt8.toNat_ofNat']
  omega


def unqR (acc : List UInt8) (o : Option (List UInt8 × Bool)) : ByteArray × Bool × Bool := match o with | some p => (S (acc ++ p.1), p.2, true) | none => (S [], false, false)
theorem unqR_cons (acc : List UInt8) (c : UInt8) (o : Option (List UInt8 × Bool)) : unqR (acc ++ [c]) o = unqR acc (o.map fun p => (c :: p.1, p.2)) := by
  cases o with
  | none => rfl
  | some p => show (S _, _, _) = (S _, _, _); simp

theorem spec_unq_loop (l : List UInt8) (hl : l.length ≤ 1048576) : ∀ (e i : Nat) (acc : List UInt8), l.length ≤ i + e → i ≤ l.length → acc.length ≤ i →
    Ev (fun k => spec_l5Unquote.l0 k (S l) (NB acc) (i : Int)) (unqR acc (unq (l.drop i))) := by
  intro e
  induction e with
  | zero =>
    intro i acc hi hi2 _
    refine Ev.step (fun k => by rw [spec_l5Unquote.l0]) ?_
    simp only [size_S, NB_str]
    refine ev_neg (by omega) ?_
    rw [List.drop_of_length_le (by omega)]
    refine ev_is ?_
    show _ = some (S (acc ++ []), false, true)
    simp
  | succ e ih =>
    intro i acc hi hi2 ha
    refine Ev.step (fun k => by rw [spec_l5Unquote.l0]) ?_
    simp only [size_S, NB_str, NB_length, mk_S]
    by_cases hlt : i < l.length
    · have w1 : wrap64 ((i : Int) + 1) = ((i + 1 : Nat) : Int) := by rw [w64 (by omega) (by omega)]; omega
      have w2 : wrap64 ((i : Int) + 2) = ((i + 2 : Nat) : Int) := by rw [w64 (by omega) (by omega)]; omega
      have w3 : wrap64 (((i + 2 : Nat) : Int) + 1) = ((i + 3 : Nat) : Int) := by rw [w64 (by omega) (by omega)]; omega
      have hg : l.getD i 0 = l[i] := by rw [List.getD_eq_getElem?_getD, List.getElem?_eq_getElem hlt]; rfl
      simp only [w1, w2, bt_S, Int.toNat_natCast, hg]
      refine ev_pos (by omega) (ev_pos (by omega) ?_)
      by_cases c61 : (l[i].toNat : Int) = 61
      · refine ev_pos c61 ?_
        have c61' : l[i] = 61 := (u8_is (n := 61) (by omega)).1 c61
        by_cases h1 : ((i + 1 : Nat) : Int) = (l.length : Int)
        · refine ev_pos h1 ?_
          rw [drop_cons hlt, List.drop_of_length_le (by omega), c61']
          refine ev_is ?_
          show _ = some (S (acc ++ []), true, true)
          simp
        refine ev_neg h1 ?_
        have h1' : i + 1 < l.length := by omega
        by_cases h2 : ((i + 2 : Nat) : Int) ≥ (l.length : Int)
        · refine ev_pos h2 ?_
          rw [drop_cons hlt, drop_cons h1', List.drop_of_length_le (by omega), c61']
          refine Ev.step (fun k => by rw [spec_l5Unquote.j1]) ?_
          exact ev_pos rfl (Ev.now _)
        refine ev_neg h2 (ev_pos (by omega) (ev_pos (by omega) ?_))
        have h2' : i + 2 < l.length := by omega
        have hg1 : l.getD (i + 1) 0 = l[i + 1] := by rw [List.getD_eq_getElem?_getD, List.getElem?_eq_getElem h1']; rfl
        have hg2 : l.getD (i + 2) 0 = l[i + 2] := by rw [List.getD_eq_getElem?_getD, List.getElem?_eq_getElem h2']; rfl
        have bad : unq (l.drop i) = none → Ev (fun k => spec_l5Unquote.j1 k (S l) (NB acc) (i : Int) true) (unqR acc (unq (l.drop i))) := by
          intro h
          rw [h]
          refine Ev.step (fun k => by rw [spec_l5Unquote.j1]) ?_
          exact ev_pos rfl (Ev.now _)
        have shape : l.drop i = 61 :: l[i + 1] :: l[i + 2] :: l.drop (i + 3) := by rw [drop_cons hlt, drop_cons h1', drop_cons h2', c61']
        simp only [hg1, hg2]
        refine Ev.bind (spec_value l[i + 1]) ?_
        cases hx : hexv l[i + 1] with
        | none =>
          refine ev_pos (by rw [hv_none hx]; omega) (bad ?_)
          rw [shape, unq, if_pos (by decide), hx]
        | some x =>
          have hx' := hexv_lt hx
          refine ev_neg (by rw [hv_some hx]; omega) (ev_pos (by omega) (ev_pos (by omega) ?_))
          refine Ev.bind (spec_value l[i + 2]) ?_
          cases hy : hexv l[i + 2] with
          | none =>
            have : decide (hv l[i + 2] < 0) = true := by rw [hv_none hy]; rfl
            rw [this]
            refine bad ?_
            rw [shape, unq, if_pos (by decide), hx, hy]
          | some y =>
            have hy' := hexv_lt hy
            have : decide (hv l[i + 2] < 0) = false := by rw [hv_some hy, decide_eq_false_iff_not]; omega
            rw [this]
            refine Ev.step (fun k => by rw [spec_l5Unquote.j1]) ?_
            simp only [size_S, w1, w2, w3, bt_S, Int.toNat_natCast, hg1, hg2, NB_length]
            refine ev_neg (by decide) (ev_pos (by omega) (ev_pos (by omega) ?_))
            refine Ev.bind (spec_value l[i + 1]) (ev_pos (by omega) (ev_pos (by omega) ?_))
            refine Ev.bind (spec_value l[i + 2]) (ev_pos (by omega) ?_)
            rw [hv_some hx, hv_some hy, hex_val hx' hy', NB_snoc, shape, unq_hex hx hy, ← unqR_cons]
            exact ih (i + 3) _ (by omega) (by omega) (by simp; omega)
      · refine ev_neg c61 ?_
        by_cases hp : 32 ≤ l[i].toNat ∧ l[i].toNat ≤ 126
        · refine ev_neg (by omega) (ev_neg (by omega) (ev_pos (by omega) ?_))
          rw [NB_snoc, drop_cons hlt, unq_plain (by omega) hp.1 hp.2, ← unqR_cons]
          exact ih (i + 1) _ (by omega) (by omega) (by simp; omega)
        · rw [drop_cons hlt, unq_bad (by omega) hp]
          by_cases h3 : (l[i].toNat : Int) < 32
          · exact ev_pos h3 (Ev.now _)
          · exact ev_neg h3 (ev_pos (by omega) (Ev.now _))
    · refine ev_neg (by omega) ?_
      rw [List.drop_of_length_le (by omega)]
      refine ev_is ?_
      show _ = some (S (acc ++ []), false, true)
      simp

theorem spec_unq (l : List UInt8) (hl : l.length ≤ 1048576) : Ev (fun k => spec_l5Unquote.f k (S l)) (unqR [] (unq l)) := by
  simp only [spec_l5Unquote.f, NB_nil]
  have := spec_unq_loop l hl l.length 0 [] (by omega) (by omega) (by simp)
  rwa [List.drop_zero] at this

/-- What comes of bytes that are there and bytes to come. -/
def finR (acc : List UInt8) (o : Option (List UInt8)) : ByteArray × Bool := match o with
  | some t => if (acc ++ t).length ≤ 300 then (S (acc ++ t), true) else (S [], false)
  | none => (S [], false)
theorem finR_dec (ls : List (List UInt8)) : finR [] (decL ls true) = decR ls := rfl
theorem finR_app (acc s : List UInt8) (o : Option (List UInt8)) : finR (acc ++ s) o = finR acc (o.map fun t => s ++ t) := by
  cases o with
  | none => rfl
  | some t =>
    unfold finR
    simp only [Option.map_some, List.append_assoc]
theorem finR_long (acc : List UInt8) (o : Option (List UInt8)) (h : acc.length > 300) : finR acc o = (S [], false) := by
  cases o with
  | none => rfl
  | some t =>
    unfold finR
    exact if_neg (by rw [List.length_append]; omega)
theorem decL_none {l : List UInt8} {ls : List (List UInt8)} {b : Bool} (h : unq l = none) : decL (l :: ls) b = none := by
  unfold decL
  rw [h]
theorem decL_some {l s : List UInt8} {g : Bool} {ls : List (List UInt8)} (h : unq l = some (s, g)) : decL (l :: ls) true = (decL ls g).map fun t => s ++ t := by
  rw [decL, h]
  rfl
theorem unq_length : ∀ (n : Nat) (l s : List UInt8) (g : Bool), l.length ≤ n → unq l = some (s, g) → s.length ≤ l.length := by
  intro n
  induction n with
  | zero =>
    intro l s g hl h
    match l, hl with
    | [], _ =>
      have h1 : [] = s := congrArg Prod.fst (Option.some.inj h)
      rw [← h1]
      exact Nat.le_refl _
  | succ n ih =>
    intro l s g hl h
    have out : ∀ (c : UInt8) (r : List UInt8), r.length ≤ n → (unq r).map (fun p => (c :: p.1, p.2)) = some (s, g) → s.length ≤ r.length + 1 := by
      intro c r hr h
      cases hq : unq r with
      | none => rw [hq] at h; cases h
      | some p =>
        rw [hq] at h
        have h1 : c :: p.1 = s := congrArg Prod.fst (Option.some.inj h)
        have := ih r p.1 p.2 hr hq
        rw [← h1]
        show p.1.length + 1 ≤ _
        omega
    match l, hl with
    | [], _ =>
      have h1 : [] = s := congrArg Prod.fst (Option.some.inj h)
      rw [← h1]
      exact Nat.le_refl _
    | [c], hl =>
      by_cases c61 : c.toNat = 61
      · rw [unq, if_pos c61] at h
        have h1 : [] = s := congrArg Prod.fst (Option.some.inj h)
        rw [← h1]
        exact Nat.zero_le _
      · by_cases hp : 32 ≤ c.toNat ∧ c.toNat ≤ 126
        · rw [unq_plain c61 hp.1 hp.2] at h
          exact out c [] (Nat.zero_le _) h
        · rw [unq_bad c61 hp] at h
          cases h
    | [c, d], hl =>
      by_cases c61 : c.toNat = 61
      · rw [unq, if_pos c61] at h
        cases h
      · by_cases hp : 32 ≤ c.toNat ∧ c.toNat ≤ 126
        · rw [unq_plain c61 hp.1 hp.2] at h
          exact out c [d] (by simp at hl ⊢; omega) h
        · rw [unq_bad c61 hp] at h
          cases h
    | c :: d :: e :: r, hl =>
      by_cases c61 : c.toNat = 61
      · rw [unq, if_pos c61] at h
        cases hx : hexv d with
        | none => rw [hx] at h; cases h
        | some x =>
          cases hy : hexv e with
          | none => rw [hx, hy] at h; cases h
          | some y =>
            rw [hx, hy] at h
            have := out _ r (by simp at hl; omega) h
            simp
            omega
      · by_cases hp : 32 ≤ c.toNat ∧ c.toNat ≤ 126
        · rw [unq_plain c61 hp.1 hp.2] at h
          exact out c (d :: e :: r) (by simp at hl ⊢; omega) h
        · rw [unq_bad c61 hp] at h
          cases h
theorem S10 : (⟨#[10]⟩ : ByteArray) = S [10] := rfl
theorem S0 : (⟨#[]⟩ : ByteArray) = S [] := rfl

theorem spec_decq_loop (ls : List (List UInt8)) (hn : ls.length ≤ 1048576) (hb : ∀ l ∈ ls, l.length ≤ 1048576) : ∀ (e i : Nat) (acc : List UInt8), ls.length ≤ i + e → i < ls.length → acc.length ≤ 300 →
    Ev (fun k => spec_DecodeQuoted.l0 k (SL ls) (S acc) (i : Int)) (finR acc (decL (ls.drop i) true)) := by
  intro e
  induction e with
  | zero => intro i acc h1 h2; omega
  | succ e ih =>
    intro i acc hi hlt ha
    have hli := hb ls[i] (List.getElem_mem hlt)
    have w1 : wrap64 ((i : Int) + 1) = ((i + 1 : Nat) : Int) := by rw [w64 (by omega) (by omega)]; omega
    refine Ev.step (fun k => by rw [spec_DecodeQuoted.l0]) ?_
    simp only [SL_length, rdOf_SL _ ls i hlt, w1]
    refine ev_pos (by omega) (ev_pos (by omega) (Ev.bind (spec_unq ls[i] hli) ?_))
    rw [List.drop_eq_getElem_cons hlt]
    cases hq : unq ls[i] with
    | none =>
      rw [decL_none hq]
      refine ev_neg (by simp [unqR]) ?_
      refine Ev.step (fun k => by rw [spec_DecodeQuoted.j1]) ?_
      exact ev_pos rfl (Ev.now _)
    | some p =>
      obtain ⟨s, g⟩ := p
      have hs := unq_length _ _ _ _ (Nat.le_refl _) hq
      rw [decL_some hq, ← finR_app]
      have e1 : unqR [] (some (s, g)) = (S s, g, true) := rfl
      simp only [e1]
      refine ev_pos trivial ?_
      have body : Ev (fun k => spec_DecodeQuoted.j1 k (SL ls) (S acc) (i : Int) (S s) g (((i + 1 : Nat) : Int) == (ls.length : Int)) (g && (((i + 1 : Nat) : Int) == (ls.length : Int)))) (finR (acc ++ s) (decL (ls.drop (i + 1)) g)) := by
        refine Ev.step (fun k => by rw [spec_DecodeQuoted.j1]) ?_
        simp only [size_S, append_S, S0]
        by_cases hlast : i + 1 = ls.length
        · have hz : (((i + 1 : Nat) : Int) == (ls.length : Int)) = true := by rw [hlast]; simp
          rw [hz, List.drop_of_length_le (by omega)]
          cases g with
          | true => exact ev_pos rfl (Ev.now _)
          | false =>
            refine ev_neg (by decide) (ev_pos (by omega) (ev_neg (by decide) ?_))
            refine Ev.step (fun k => by rw [spec_DecodeQuoted.j2]) ?_
            simp only [size_S, S0, w1]
            refine ev_neg (by decide) ?_
            by_cases h3 : (acc ++ s).length ≤ 300
            · refine ev_neg (by omega) ?_
              refine Ev.step (fun k => by rw [spec_DecodeQuoted.l0]) ?_
              simp only [SL_length]
              refine ev_neg (by omega) (ev_is ?_)
              have : finR (acc ++ s) (decL [] false) = (S (acc ++ s), true) := by
                show finR (acc ++ s) (some []) = _
                unfold finR
                simp only [List.append_nil]
                exact if_pos h3
              rw [this, decide_eq_true (by omega)]
            · refine ev_pos (by omega) (ev_eq (finR_long _ _ (by omega)) (Ev.now _))
        · have hz : (((i + 1 : Nat) : Int) == (ls.length : Int)) = false := by
            rw [beq_eq_false_iff_ne]
            omega
          have hlt1 : i + 1 < ls.length := by omega
          rw [hz]
          cases g with
          | true =>
            refine ev_neg (by decide) (ev_pos (by omega) (ev_pos rfl ?_))
            refine Ev.step (fun k => by rw [spec_DecodeQuoted.j2]) ?_
            simp only [size_S, S0, w1]
            refine ev_neg (by decide) ?_
            by_cases h3 : (acc ++ s).length ≤ 300
            · refine ev_neg (by omega) ?_
              exact ih (i + 1) (acc ++ s) (by omega) hlt1 h3
            · refine ev_pos (by omega) (ev_eq (finR_long _ _ (by omega)) (Ev.now _))
          | false =>
            refine ev_neg (by decide) (ev_pos (by omega) (ev_neg (by decide) ?_))
            have e2 : finR (acc ++ s) (decL (ls.drop (i + 1)) false) = finR (acc ++ s ++ [10]) (decL (ls.drop (i + 1)) true) := by
              rw [finR_app (acc ++ s), List.drop_eq_getElem_cons hlt1, decL_hard]
            rw [e2]
            refine Ev.step (fun k => by rw [spec_DecodeQuoted.j2]) ?_
            simp only [size_S, S0, S10, append_S, w1]
            refine ev_pos rfl (ev_pos (by simp; omega) ?_)
            by_cases h3 : (acc ++ s ++ [10]).length ≤ 300
            · refine ev_neg (by omega) ?_
              exact ih (i + 1) _ (by omega) hlt1 h3
            · refine ev_pos (by omega) (ev_eq (finR_long _ _ (by omega)) (Ev.now _))
      cases g with
      | true => exact ev_pos rfl body
      | false => exact ev_neg (by decide) body

theorem spec_decq (ls : List (List UInt8)) (hn : ls.length ≤ 1048576) (hb : ∀ l ∈ ls, l.length ≤ 1048576) : Ev (fun k => spec_DecodeQuoted.f k (SL ls)) (decR ls) := by
  simp only [spec_DecodeQuoted.f, S0]
  by_cases h : ls.length = 0
  · have : ls = [] := List.eq_nil_of_length_eq_zero h
    rw [this]
    refine Ev.step (fun k => by rw [spec_DecodeQuoted.l0]) ?_
    exact ev_neg (by decide) (Ev.now _)
  · have := spec_decq_loop ls hn hb ls.length 0 [] (by omega) (by omega) (by simp)
    rwa [List.drop_zero] at this

theorem spec_letters : spec_l5Letters.f = some (S b64) := rfl

theorem shr_is (n : Int) (j : Nat) (hj : j < 4) (v : Int) (e : v = n / 2 ^ (18 - 6 * j)) : shr .i64 n (wrap64 (18 - (wrap64 (6 * (j : Int))))) = v := by
  have w1 : wrap64 (6 * (j : Int)) = 6 * (j : Int) := w64 (by omega) (by omega)
  have w2 : wrap64 (18 - 6 * (j : Int)) = 18 - 6 * (j : Int) := w64 (by omega) (by omega)
  rw [w1, w2, e]
  unfold shr
  have : min (18 - 6 * (j : Int)).toNat IntKind.i64.bits = 18 - 6 * j := by
    show min (18 - 6 * (j : Int)).toNat 64 = _
    omega
  rw [this]

theorem spec_base_letter {b out : List UInt8} {i j : Nat} {n m : Nat} {R : ByteArray} (hj : j < 4) (hi : i + j ≤ b.length) (hb : b.length ≤ 500) (ho : out.length ≤ 2000) (hn : n < 16777216)
    (hm : m = n / 2 ^ (18 - 6 * j) % 64)
    (H : Ev (fun k => spec_l5Base.l1 k (S b) (S (out ++ [let6 m])) (i : Int) (n : Int) ((j + 1 : Nat) : Int)) R) :
    Ev (fun k => spec_l5Base.l1 k (S b) (S out) (i : Int) (n : Int) (j : Int)) R := by
  have w : wrap64 ((i : Int) + (j : Int)) = ((i + j : Nat) : Int) := by rw [w64 (by omega) (by omega)]; omega
  have w2 : wrap64 ((j : Int) + 1) = ((j + 1 : Nat) : Int) := by rw [w64 (by omega) (by omega)]; omega
  have hp : (2 : Int) ^ (18 - 6 * j) = ((2 ^ (18 - 6 * j) : Nat) : Int) := by simp
  have hq : ((n / 2 ^ (18 - 6 * j) : Nat) : Int) = (n : Int) / 2 ^ (18 - 6 * j) := by rw [hp, Int.natCast_ediv]
  have hs := shr_is (n : Int) j hj ((n / 2 ^ (18 - 6 * j) : Nat) : Int) hq
  have hle : n / 2 ^ (18 - 6 * j) ≤ n := Nat.div_le_self _ _
  have ha : bits .and .i64 ((n / 2 ^ (18 - 6 * j) : Nat) : Int) 63 = (m : Int) := by
    rw [and63 (Int.natCast_nonneg _) (by omega), hm]
    exact (Int.natCast_emod _ 64).symm
  have hm64 : m < 64 := by omega
  have w3 : wrap64 ((m : Int) + 1) = ((m + 1 : Nat) : Int) := by rw [w64 (by omega) (by omega)]; omega
  have w4 : 0 ≤ wrap64 (18 - wrap64 (6 * (j : Int))) := by
    rw [w64 (n := 6 * (j : Int)) (by omega) (by omega), w64 (by omega) (by omega)]
    omega
  have hx : (S b64).extract m (m + 1) = S [let6 m] := extract_one b64 m (by rw [b64_length]; exact hm64)
  refine Ev.step (fun k => by rw [spec_l5Base.l1]) ?_
  simp only [w, w2, hs, ha, w3, size_S, spec_letters, Int.toNat_natCast]
  clear hp hq hs hle ha hm w w2 w3
  refine ev_pos (by omega) (ev_neg (by omega) (ev_pos w4 ?_))
  clear w4
  refine ev_bind0 rfl ?_
  simp only [size_S, hx, b64_length, append_S]
  clear hx
  refine ev_pos (by omega) (ev_pos (by omega) (ev_pos (by omega) (ev_pos (by simp; omega) ?_)))
  exact H

theorem spec_base_pad {b out : List UInt8} {i j : Nat} {n : Int} {R : ByteArray} (hj : j < 4) (hi : b.length < i + j) (hi2 : i ≤ b.length) (hb : b.length ≤ 500) (ho : out.length ≤ 2000)
    (H : Ev (fun k => spec_l5Base.l1 k (S b) (S (out ++ [61])) (i : Int) n ((j + 1 : Nat) : Int)) R) :
    Ev (fun k => spec_l5Base.l1 k (S b) (S out) (i : Int) n (j : Int)) R := by
  have w : wrap64 ((i : Int) + (j : Int)) = ((i + j : Nat) : Int) := by rw [w64 (by omega) (by omega)]; omega
  have w2 : wrap64 ((j : Int) + 1) = ((j + 1 : Nat) : Int) := by rw [w64 (by omega) (by omega)]; omega
  refine Ev.step (fun k => by rw [spec_l5Base.l1]) ?_
  simp only [w, w2, size_S, mk_S, append_S]
  refine ev_pos (by omega) (ev_pos (by omega) (ev_pos (by omega) ?_))
  exact H

theorem spec_base_end {b out : List UInt8} {i : Nat} {n : Int} {R : ByteArray} (hb : i ≤ 600) (H : Ev (fun k => spec_l5Base.l0 k (S b) (S out) ((i + 3 : Nat) : Int)) R) :
    Ev (fun k => spec_l5Base.l1 k (S b) (S out) (i : Int) n ((4 : Nat) : Int)) R := by
  have w : wrap64 ((i : Int) + 3) = ((i + 3 : Nat) : Int) := by rw [w64 (by omega) (by omega)]; omega
  refine Ev.step (fun k => by rw [spec_l5Base.l1]) ?_
  rw [w]
  exact ev_neg (by omega) H

theorem getD_at {l : List UInt8} {i : Nat} (h : i < l.length) : l.getD i 0 = l[i] := by rw [List.getD_eq_getElem?_getD, List.getElem?_eq_getElem h]; rfl

set_option maxHeartbeats 1000000 in
theorem spec_base_loop (b : List UInt8) (hb : b.length ≤ 500) : ∀ (e i : Nat) (out : List UInt8), b.length ≤ i + 3 * e → i ≤ b.length + 2 → out.length ≤ 2 * i →
    Ev (fun k => spec_l5Base.l0 k (S b) (S out) (i : Int)) (S (out ++ base (b.drop i))) := by
  intro e
  induction e with
  | zero =>
    intro i out hi hi2 ho
    refine Ev.step (fun k => by rw [spec_l5Base.l0]) ?_
    rw [size_S, List.drop_of_length_le (by omega)]
    refine ev_neg (by omega) ?_
    rw [base, List.append_nil]
    exact Ev.now _
  | succ e ih =>
    intro i out hi hi2 ho
    refine Ev.step (fun k => by rw [spec_l5Base.l0]) ?_
    rw [size_S]
    by_cases c0 : b.length ≤ i
    · rw [List.drop_of_length_le c0]
      refine ev_neg (by omega) ?_
      rw [base, List.append_nil]
      exact Ev.now _
    have h0 : i < b.length := by omega
    have x0 := b[i].toNat_lt
    obtain ⟨w1, w2⟩ : wrap64 ((i : Int) + 1) = ((i + 1 : Nat) : Int) ∧ wrap64 ((i : Int) + 2) = ((i + 2 : Nat) : Int) :=
      ⟨by rw [w64 (by omega) (by omega)]; omega, by rw [w64 (by omega) (by omega)]; omega⟩
    have wa : wrap64 (b[i].toNat : Int) = (b[i].toNat : Int) := w64 (by omega) (by omega)
    have wb : wrap64 ((b[i].toNat : Int) * 65536) = ((b[i].toNat * 65536 : Nat) : Int) := by rw [w64 (by omega) (by omega)]; omega
    simp only [bt_S, w1, Int.toNat_natCast, getD_at h0, wa, wb]
    clear wa wb w1
    refine ev_pos (by omega) (ev_pos (by omega) ?_)
    by_cases c1 : b.length ≤ i + 1
    · -- one byte is left
      refine ev_neg (by omega) ?_
      have hd : b.drop i = [b[i]] := by rw [drop_cons h0, List.drop_of_length_le (by omega)]
      refine Ev.step (fun k => by rw [spec_l5Base.j1]) ?_
      rw [size_S, w2]
      clear w2
      refine ev_neg (by omega) ?_
      refine Ev.step (fun k => by rw [spec_l5Base.j2]) ?_
      refine spec_base_letter (j := 0) (m := b[i].toNat / 4) (by omega) (by omega) hb (by omega) (by omega) (six0a (u8_lt _) rfl) ?_
      refine spec_base_letter (j := 1) (m := b[i].toNat % 4 * 16) (by omega) (by omega) hb (by simp; omega) (by omega) (six1' rfl) ?_
      refine spec_base_pad (j := 2) (by omega) (by omega) (by omega) hb (by simp; omega) ?_
      refine spec_base_pad (j := 3) (by omega) (by omega) (by omega) hb (by simp; omega) ?_
      refine spec_base_end (by omega) ?_
      have := ih (i + 3) ((((out ++ [let6 (b[i].toNat / 4)]) ++ [let6 (b[i].toNat % 4 * 16)]) ++ [61]) ++ [61]) (by omega) (by omega) (by simp; omega)
      rw [List.drop_of_length_le (by omega : b.length ≤ i + 3), base, List.append_nil] at this
      rw [hd, base]
      simpa using this
    have h1 : i + 1 < b.length := by omega
    have x1 := b[i + 1].toNat_lt
    have wc : wrap64 (b[i + 1].toNat : Int) = (b[i + 1].toNat : Int) := w64 (by omega) (by omega)
    have wd : wrap64 ((b[i + 1].toNat : Int) * 256) = ((b[i + 1].toNat * 256 : Nat) : Int) := by rw [w64 (by omega) (by omega)]; omega
    have we : wrap64 (((b[i].toNat * 65536 : Nat) : Int) + ((b[i + 1].toNat * 256 : Nat) : Int)) = ((b[i].toNat * 65536 + b[i + 1].toNat * 256 : Nat) : Int) := by rw [w64 (by omega) (by omega)]; omega
    simp only [getD_at h1, wc, wd, we]
    clear wc wd we
    refine ev_pos (by omega) (ev_pos (by omega) ?_)
    refine Ev.step (fun k => by rw [spec_l5Base.j1]) ?_
    rw [size_S, w2]
    clear w2
    by_cases c2 : b.length ≤ i + 2
    · -- two bytes are left
      refine ev_neg (by omega) ?_
      have hd : b.drop i = [b[i], b[i + 1]] := by rw [drop_cons h0, drop_cons h1, List.drop_of_length_le (by omega)]
      refine Ev.step (fun k => by rw [spec_l5Base.j2]) ?_
      refine spec_base_letter (j := 0) (m := b[i].toNat / 4) (by omega) (by omega) hb (by omega) (by omega) (six0b (u8_lt _) (u8_lt b[i + 1]) rfl) ?_
      refine spec_base_letter (j := 1) (m := b[i].toNat % 4 * 16 + b[i + 1].toNat / 16) (by omega) (by omega) hb (by simp; omega) (by omega) (six1b (u8_lt _) rfl) ?_
      refine spec_base_letter (j := 2) (m := b[i + 1].toNat % 16 * 4) (by omega) (by omega) hb (by simp; omega) (by omega) (six2' rfl) ?_
      refine spec_base_pad (j := 3) (by omega) (by omega) (by omega) hb (by simp; omega) ?_
      refine spec_base_end (by omega) ?_
      have := ih (i + 3) ((((out ++ [let6 (b[i].toNat / 4)]) ++ [let6 (b[i].toNat % 4 * 16 + b[i + 1].toNat / 16)]) ++ [let6 (b[i + 1].toNat % 16 * 4)]) ++ [61]) (by omega) (by omega) (by simp; omega)
      rw [List.drop_of_length_le (by omega : b.length ≤ i + 3), base, List.append_nil] at this
      rw [hd, base]
      simpa using this
    -- three bytes and more
    have h2 : i + 2 < b.length := by omega
    have x2 := b[i + 2].toNat_lt
    have wf : wrap64 (b[i + 2].toNat : Int) = (b[i + 2].toNat : Int) := w64 (by omega) (by omega)
    have wg : wrap64 (((b[i].toNat * 65536 + b[i + 1].toNat * 256 : Nat) : Int) + (b[i + 2].toNat : Int)) = ((b[i].toNat * 65536 + b[i + 1].toNat * 256 + b[i + 2].toNat : Nat) : Int) := by rw [w64 (by omega) (by omega)]; omega
    have hd : b.drop i = b[i] :: b[i + 1] :: b[i + 2] :: b.drop (i + 3) := by rw [drop_cons h0, drop_cons h1, drop_cons h2]
    simp only [bt_S, Int.toNat_natCast, getD_at h2, wf, wg]
    clear wf wg
    refine ev_pos (by omega) (ev_pos (by omega) ?_)
    refine Ev.step (fun k => by rw [spec_l5Base.j2]) ?_
    refine spec_base_letter (j := 0) (m := b[i].toNat / 4) (by omega) (by omega) hb (by omega) (by omega) (six0 (u8_lt _) (u8_lt b[i + 1]) (u8_lt b[i + 2]) rfl) ?_
    refine spec_base_letter (j := 1) (m := b[i].toNat % 4 * 16 + b[i + 1].toNat / 16) (by omega) (by omega) hb (by simp; omega) (by omega) (six1 (u8_lt _) (u8_lt b[i + 2]) rfl) ?_
    refine spec_base_letter (j := 2) (m := b[i + 1].toNat % 16 * 4 + b[i + 2].toNat / 64) (by omega) (by omega) hb (by simp; omega) (by omega) (six2 (u8_lt _) rfl) ?_
    refine spec_base_letter (j := 3) (m := b[i + 2].toNat % 64) (by omega) (by omega) hb (by simp; omega) (by omega) (six3 rfl) ?_
    refine spec_base_end (by omega) ?_
    have := ih (i + 3) ((((out ++ [let6 (b[i].toNat / 4)]) ++ [let6 (b[i].toNat % 4 * 16 + b[i + 1].toNat / 16)]) ++ [let6 (b[i + 1].toNat % 16 * 4 + b[i + 2].toNat / 64)]) ++ [let6 (b[i + 2].toNat % 64)]) (by omega) (by omega) (by simp; omega)
    rw [hd, base]
    simpa using this

theorem spec_base (b : List UInt8) (hb : b.length ≤ 500) : Ev (fun k => spec_l5Base.f k (S b)) (S (base b)) := by
  simp only [spec_l5Base.f]
  have := spec_base_loop b hb 170 0 [] (by omega) (by omega) (by simp)
  rw [List.drop_zero, List.nil_append] at this
  exact this


theorem impl_digits {b out : List UInt8} {i many n : Nat} {R : ByteArray} (hn : n < 16777216) (hm : many ≤ 3)
    (H : Ev (fun k => impl_letters.l2 k (S b) (NI out) (i : Int) (NI [let6 (n / 262144), let6 (n / 4096 % 64), let6 (n / 64 % 64), let6 (n % 64)]) ((many + 1 : Nat) : Int)) R) :
    Ev (fun k => impl_letters.l1 k (S b) (NI out) (i : Int) (many : Int) (n : Int) ((3 : Nat) : Int)) R := by
  have w : wrap64 ((many : Int) + 1) = ((many + 1 : Nat) : Int) := by rw [w64 (by omega) (by omega)]; omega
  have e0 : (n : Int) / 262144 = ((n / 262144 : Nat) : Int) := by omega
  have e1 : bits .and .i64 ((n : Int) / 4096) 63 = ((n / 4096 % 64 : Nat) : Int) := by rw [and63 (by omega) (by omega)]; omega
  have e2 : bits .and .i64 ((n : Int) / 64) 63 = ((n / 64 % 64 : Nat) : Int) := by rw [and63 (by omega) (by omega)]; omega
  have e3 : bits .and .i64 (n : Int) 63 = ((n % 64 : Nat) : Int) := by rw [and63 (by omega) (by omega)]; omega
  have el : ∀ x : Nat, bt (⟨#[65, 66, 67, 68, 69, 70, 71, 72, 73, 74, 75, 76, 77, 78, 79, 80, 81, 82, 83, 84, 85, 86, 87, 88, 89, 90, 97, 98, 99, 100, 101, 102, 103, 104, 105, 106, 107, 108, 109, 110, 111, 112, 113, 114, 115, 116, 117, 118, 119, 120, 121, 122, 48, 49, 50, 51, 52, 53, 54, 55, 56, 57, 43, 47]⟩ : ByteArray) (x : Int) = ((let6 x).toNat : Int) := by
    intro x
    exact bt_S b64 (x : Int)
  have hl : ([((let6 (n / 262144)).toNat : Int), ((let6 (n / 4096 % 64)).toNat : Int), ((let6 (n / 64 % 64)).toNat : Int), ((let6 (n % 64)).toNat : Int)] : List Int) = NI [let6 (n / 262144), let6 (n / 4096 % 64), let6 (n / 64 % 64), let6 (n % 64)] := rfl
  refine Ev.step (fun k => by rw [impl_letters.l1]) ?_
  simp only [w, e0, e1, e2, e3, el, hl]
  clear w e0 e1 e2 e3 el hl
  refine ev_neg (by omega) (ev_pos (by omega) (ev_pos (by omega) (ev_pos (by omega) (ev_pos (by omega) (ev_pos (by omega) (ev_pos (by omega) (ev_pos (by omega) (ev_pos (by omega) ?_))))))))
  exact H

theorem impl_take {b out : List UInt8} {i many j n : Nat} {R : ByteArray} (c : UInt8) (hc : b.getD (i + j) 0 = c) (hj : j < 3) (hjm : j < many) (hi : i + j < b.length) (hb : b.length ≤ 300) (hn : n < 65536)
    (H : Ev (fun k => impl_letters.l1 k (S b) (NI out) (i : Int) (many : Int) ((n * 256 + c.toNat : Nat) : Int) ((j + 1 : Nat) : Int)) R) :
    Ev (fun k => impl_letters.l1 k (S b) (NI out) (i : Int) (many : Int) (n : Int) (j : Int)) R := by
  have x0 := c.toNat_lt
  obtain ⟨w, w2⟩ : wrap64 ((i : Int) + (j : Int)) = ((i + j : Nat) : Int) ∧ wrap64 ((j : Int) + 1) = ((j + 1 : Nat) : Int) := ⟨by rw [w64 (by omega) (by omega)]; omega, by rw [w64 (by omega) (by omega)]; omega⟩
  have w3 : wrap64 ((c.toNat : Nat) : Int) = ((c.toNat : Nat) : Int) := w64 (by omega) (by omega)
  have w4 : wrap64 ((n : Int) * 256) = ((n * 256 : Nat) : Int) := by rw [w64 (by omega) (by omega)]; omega
  have w5 : wrap64 (((n * 256 : Nat) : Int) + ((c.toNat : Nat) : Int)) = ((n * 256 + c.toNat : Nat) : Int) := by rw [w64 (by omega) (by omega)]; omega
  refine Ev.step (fun k => by rw [impl_letters.l1]) ?_
  simp only [w, w2, size_S, bt_S, Int.toNat_natCast, hc, w3, w4, w5]
  clear w w2 w3 w4 w5
  refine ev_pos (by omega) (ev_pos (by omega) (ev_pos (by omega) (ev_pos (by omega) ?_)))
  exact H

theorem impl_skip {b out : List UInt8} {i many j n : Nat} {R : ByteArray} (hj : j < 3) (hjm : many ≤ j) (hn : n < 65536)
    (H : Ev (fun k => impl_letters.l1 k (S b) (NI out) (i : Int) (many : Int) ((n * 256 : Nat) : Int) ((j + 1 : Nat) : Int)) R) :
    Ev (fun k => impl_letters.l1 k (S b) (NI out) (i : Int) (many : Int) (n : Int) (j : Int)) R := by
  have w2 : wrap64 ((j : Int) + 1) = ((j + 1 : Nat) : Int) := by rw [w64 (by omega) (by omega)]; omega
  have w4 : wrap64 ((n : Int) * 256) = ((n * 256 : Nat) : Int) := by rw [w64 (by omega) (by omega)]; omega
  refine Ev.step (fun k => by rw [impl_letters.l1]) ?_
  rw [w2, w4]
  clear w2 w4
  refine ev_pos (by omega) (ev_neg (by omega) ?_)
  exact H

theorem impl_pad {b out l : List UInt8} {i j : Nat} {R : ByteArray} (hl : l.length = 4) (hj : j < 4)
    (H : Ev (fun k => impl_letters.l2 k (S b) (NI out) (i : Int) (NI (l.set j 61)) ((j + 1 : Nat) : Int)) R) :
    Ev (fun k => impl_letters.l2 k (S b) (NI out) (i : Int) (NI l) (j : Int)) R := by
  have w2 : wrap64 ((j : Int) + 1) = ((j + 1 : Nat) : Int) := by rw [w64 (by omega) (by omega)]; omega
  have hs : (NI l).set j 61 = NI (l.set j 61) := by
    unfold NI
    rw [List.map_set]
    rfl
  refine Ev.step (fun k => by rw [impl_letters.l2]) ?_
  rw [w2, NI_length, Int.toNat_natCast, hs]
  refine ev_pos (by omega) (ev_pos (by omega) (ev_pos (by omega) ?_))
  exact H

theorem impl_group {b out l : List UInt8} {i : Nat} {R : ByteArray} (hl : l.length = 4) (ho : out.length ≤ 1000) (hi : i ≤ 400)
    (H : Ev (fun k => impl_letters.l0 k (S b) (NI (out ++ l)) ((i + 3 : Nat) : Int)) R) :
    Ev (fun k => impl_letters.l2 k (S b) (NI out) (i : Int) (NI l) ((4 : Nat) : Int)) R := by
  have w2 : wrap64 ((i : Int) + 3) = ((i + 3 : Nat) : Int) := by rw [w64 (by omega) (by omega)]; omega
  refine Ev.step (fun k => by rw [impl_letters.l2]) ?_
  rw [w2, NI_length, NI_length, NI_append]
  refine ev_neg (by omega) (ev_pos (by omega) ?_)
  exact H

theorem mn3 {x : Int} {m : Nat} (h : (m : Int) = if 3 < x then 3 else x) : mn x 3 = (m : Int) := by
  unfold mn
  rw [h]

theorem impl_one {b out : List UInt8} {i : Nat} {R : ByteArray} (a : UInt8) (ha : b.getD (i + 0) 0 = a) (h0 : i + 0 < b.length) (hb : b.length ≤ 300) (ho : out.length ≤ 1000)
    (H : Ev (fun k => impl_letters.l0 k (S b) (NI (out ++ [let6 (a.toNat / 4), let6 (a.toNat % 4 * 16), 61, 61])) ((i + 3 : Nat) : Int)) R) :
    Ev (fun k => impl_letters.l1 k (S b) (NI out) (i : Int) ((1 : Nat) : Int) ((0 : Nat) : Int) ((0 : Nat) : Int)) R := by
  obtain ⟨q1, q2, q3, e0, e1⟩ := nA (u8_lt a)
  refine impl_take (j := 0) (n := 0) a ha (by omega) (by omega) h0 hb (by decide) ?_
  refine impl_skip (j := 1) (n := 0 * 256 + a.toNat) (by omega) (by omega) q1 ?_
  refine impl_skip (j := 2) (n := (0 * 256 + a.toNat) * 256) (by omega) (by omega) q2 ?_
  refine impl_digits (n := (0 * 256 + a.toNat) * 256 * 256) q3 (by omega) ?_
  refine impl_pad (j := 2) rfl (by omega) ?_
  refine impl_pad (j := 3) rfl (by omega) ?_
  refine impl_group rfl (by omega) (by omega) ?_
  show Ev (fun k => impl_letters.l0 k (S b) (NI (out ++ [let6 ((0 * 256 + a.toNat) * 256 * 256 / 262144), let6 ((0 * 256 + a.toNat) * 256 * 256 / 4096 % 64), 61, 61])) ((i + 3 : Nat) : Int)) _
  rw [e0, e1]
  exact H

theorem impl_two {b out : List UInt8} {i : Nat} {R : ByteArray} (a c : UInt8) (ha : b.getD (i + 0) 0 = a) (hc : b.getD (i + 1) 0 = c) (h1 : i + 1 < b.length) (hb : b.length ≤ 300) (ho : out.length ≤ 1000)
    (H : Ev (fun k => impl_letters.l0 k (S b) (NI (out ++ [let6 (a.toNat / 4), let6 (a.toNat % 4 * 16 + c.toNat / 16), let6 (c.toNat % 16 * 4), 61])) ((i + 3 : Nat) : Int)) R) :
    Ev (fun k => impl_letters.l1 k (S b) (NI out) (i : Int) ((2 : Nat) : Int) ((0 : Nat) : Int) ((0 : Nat) : Int)) R := by
  have g0 : i + 0 < b.length := by omega
  obtain ⟨q1, _, _, _, _⟩ := nA (u8_lt a)
  obtain ⟨q2, q3, e0, e1, e2⟩ := nB (u8_lt a) (u8_lt c)
  refine impl_take (j := 0) (n := 0) a ha (by omega) (by omega) g0 hb (by decide) ?_
  refine impl_take (j := 1) (n := 0 * 256 + a.toNat) c hc (by omega) (by omega) h1 hb q1 ?_
  refine impl_skip (j := 2) (n := (0 * 256 + a.toNat) * 256 + c.toNat) (by omega) (by omega) q2 ?_
  refine impl_digits (n := ((0 * 256 + a.toNat) * 256 + c.toNat) * 256) q3 (by omega) ?_
  refine impl_pad (j := 3) rfl (by omega) ?_
  refine impl_group rfl (by omega) (by omega) ?_
  show Ev (fun k => impl_letters.l0 k (S b) (NI (out ++ [let6 (((0 * 256 + a.toNat) * 256 + c.toNat) * 256 / 262144), let6 (((0 * 256 + a.toNat) * 256 + c.toNat) * 256 / 4096 % 64), let6 (((0 * 256 + a.toNat) * 256 + c.toNat) * 256 / 64 % 64), 61])) ((i + 3 : Nat) : Int)) _
  rw [e0, e1, e2]
  exact H

theorem impl_three {b out : List UInt8} {i : Nat} {R : ByteArray} (a c d : UInt8) (ha : b.getD (i + 0) 0 = a) (hc : b.getD (i + 1) 0 = c) (hd : b.getD (i + 2) 0 = d) (h2 : i + 2 < b.length) (hb : b.length ≤ 300) (ho : out.length ≤ 1000)
    (H : Ev (fun k => impl_letters.l0 k (S b) (NI (out ++ [let6 (a.toNat / 4), let6 (a.toNat % 4 * 16 + c.toNat / 16), let6 (c.toNat % 16 * 4 + d.toNat / 64), let6 (d.toNat % 64)])) ((i + 3 : Nat) : Int)) R) :
    Ev (fun k => impl_letters.l1 k (S b) (NI out) (i : Int) ((3 : Nat) : Int) ((0 : Nat) : Int) ((0 : Nat) : Int)) R := by
  have g0 : i + 0 < b.length := by omega
  have g1 : i + 1 < b.length := by omega
  obtain ⟨q1, _, _, _, _⟩ := nA (u8_lt a)
  obtain ⟨q2, _, _, _, _⟩ := nB (u8_lt a) (u8_lt c)
  obtain ⟨q3, e0, e1, e2, e3⟩ := nC (u8_lt a) (u8_lt c) (u8_lt d)
  refine impl_take (j := 0) (n := 0) a ha (by omega) (by omega) g0 hb (by decide) ?_
  refine impl_take (j := 1) (n := 0 * 256 + a.toNat) c hc (by omega) (by omega) g1 hb q1 ?_
  refine impl_take (j := 2) (n := (0 * 256 + a.toNat) * 256 + c.toNat) d hd (by omega) (by omega) h2 hb q2 ?_
  refine impl_digits (n := ((0 * 256 + a.toNat) * 256 + c.toNat) * 256 + d.toNat) q3 (by omega) ?_
  refine impl_group rfl (by omega) (by omega) ?_
  rw [e0, e1, e2, e3]
  exact H

theorem impl_letters_loop (b : List UInt8) (hb : b.length ≤ 300) : ∀ (e i : Nat) (out : List UInt8), b.length ≤ i + 3 * e → i ≤ b.length + 2 → out.length ≤ 2 * i →
    Ev (fun k => impl_letters.l0 k (S b) (NI out) (i : Int)) (S (out ++ base (b.drop i))) := by
  intro e
  induction e with
  | zero =>
    intro i out hi hi2 ho
    refine Ev.step (fun k => by rw [impl_letters.l0]) ?_
    rw [size_S, List.drop_of_length_le (by omega), strOfNums_NI]
    refine ev_neg (by omega) ?_
    rw [base, List.append_nil]
    exact Ev.now _
  | succ e ih =>
    intro i out hi hi2 ho
    refine Ev.step (fun k => by rw [impl_letters.l0]) ?_
    rw [size_S]
    by_cases c0 : b.length ≤ i
    · rw [List.drop_of_length_le c0, strOfNums_NI]
      refine ev_neg (by omega) ?_
      rw [base, List.append_nil]
      exact Ev.now _
    have h0 : i < b.length := by omega
    refine ev_pos (by omega) ?_
    have w0 : wrap64 ((b.length : Int) - (i : Int)) = ((b.length - i : Nat) : Int) := by rw [w64 (by omega) (by omega)]; omega
    rw [w0]
    clear w0
    by_cases c1 : b.length ≤ i + 1
    · have hd : b.drop i = [b[i]] := by rw [drop_cons h0, List.drop_of_length_le (by omega)]
      rw [mn3 (m := 1) (by omega)]
      refine impl_one b[i] (getD_at h0) h0 hb (by omega) ?_
      have := ih (i + 3) (out ++ [let6 (b[i].toNat / 4), let6 (b[i].toNat % 4 * 16), 61, 61]) (by omega) (by omega) (by rw [List.length_append]; show out.length + 4 ≤ 2 * (i + 3); omega)
      rw [List.drop_of_length_le (by omega : b.length ≤ i + 3), base, List.append_nil] at this
      rw [hd, base]
      exact this
    have h1 : i + 1 < b.length := by omega
    by_cases c2 : b.length ≤ i + 2
    · have hd : b.drop i = [b[i], b[i + 1]] := by rw [drop_cons h0, drop_cons h1, List.drop_of_length_le (by omega)]
      rw [mn3 (m := 2) (by omega)]
      refine impl_two b[i] b[i + 1] (getD_at h0) (getD_at h1) h1 hb (by omega) ?_
      have := ih (i + 3) (out ++ [let6 (b[i].toNat / 4), let6 (b[i].toNat % 4 * 16 + b[i + 1].toNat / 16), let6 (b[i + 1].toNat % 16 * 4), 61]) (by omega) (by omega) (by rw [List.length_append]; show out.length + 4 ≤ 2 * (i + 3); omega)
      rw [List.drop_of_length_le (by omega : b.length ≤ i + 3), base, List.append_nil] at this
      rw [hd, base]
      exact this
    have h2 : i + 2 < b.length := by omega
    have hd : b.drop i = b[i] :: b[i + 1] :: b[i + 2] :: b.drop (i + 3) := by rw [drop_cons h0, drop_cons h1, drop_cons h2]
    rw [mn3 (m := 3) (by omega)]
    refine impl_three b[i] b[i + 1] b[i + 2] (getD_at h0) (getD_at h1) (getD_at h2) h2 hb (by omega) ?_
    have := ih (i + 3) (out ++ [let6 (b[i].toNat / 4), let6 (b[i].toNat % 4 * 16 + b[i + 1].toNat / 16), let6 (b[i + 1].toNat % 16 * 4 + b[i + 2].toNat / 64), let6 (b[i + 2].toNat % 64)]) (by omega) (by omega) (by rw [List.length_append]; show out.length + 4 ≤ 2 * (i + 3); omega)
    rw [hd, base]
    rw [List.append_assoc] at this
    exact this

theorem impl_letters_ev (b : List UInt8) (hb : b.length ≤ 300) : Ev (fun k => impl_letters.f k (S b)) (S (base b)) := by
  simp only [impl_letters.f]
  have := impl_letters_loop b hb 100 0 [] (by omega) (by omega) (by simp)
  rw [List.drop_zero, List.nil_append] at this
  exact this


theorem b64_S : (⟨#[65, 66, 67, 68, 69, 70, 71, 72, 73, 74, 75, 76, 77, 78, 79, 80, 81, 82, 83, 84, 85, 86, 87, 88, 89, 90, 97, 98, 99, 100, 101, 102, 103, 104, 105, 106, 107, 108, 109, 110, 111, 112, 113, 114, 115, 116, 117, 118, 119, 120, 121, 122, 48, 49, 50, 51, 52, 53, 54, 55, 56, 57, 43, 47]⟩ : ByteArray) = S b64 := rfl
theorem index_b64 (c : UInt8) : strings_IndexByte.f (S b64) (c.toNat : Int) = some (bx c) := by
  unfold strings_IndexByte.f
  have e : ((c.toNat : Int)).toNat.toUInt8 = c := by simp
  rw [data_S, e]
  rfl
theorem mx_bv (c : UInt8) : mx (bx c) 0 = (bv c : Int) := by
  have := bx_bd c
  unfold mx bv
  split <;> omega
theorem mx_sub (a b : Nat) (h : a ≤ 2000000000000) (h2 : b ≤ 2000000000000) : mx (wrap64 ((a : Int) - (b : Int))) 0 = ((a - b : Nat) : Int) := by
  rw [w64 (by omega) (by omega)]
  unfold mx
  split <;> omega
theorem count_eq (s : List UInt8) : strings_Count.f (S s) (⟨#[61]⟩ : ByteArray) = some ((s.count 61 : Nat) : Int) := by
  unfold strings_Count.f
  have h : (⟨#[61]⟩ : ByteArray).size = 1 := rfl
  rw [if_pos h]
  rfl

theorem deb_step {s out : List UInt8} {i j n : Nat} {R : ByteArray × Bool} (c : UInt8) (hc : s.getD (i + j) 0 = c) (hj : j < 4) (hi : i + j < s.length) (hs : s.length ≤ 2000000000000) (hn : n < 262144)
    (H : Ev (fun k => impl_DecodeBase.l1 k (S s) (NI out) (i : Int) ((n * 64 + bv c : Nat) : Int) ((j + 1 : Nat) : Int)) R) : Ev (fun k => impl_DecodeBase.l1 k (S s) (NI out) (i : Int) (n : Int) (j : Int)) R := by
  have hv := bv_lt c
  obtain ⟨w1, w2, w3⟩ : wrap64 ((i : Int) + (j : Int)) = ((i + j : Nat) : Int) ∧ wrap64 (wrap64 (64 * (n : Int)) + (bv c : Int)) = ((n * 64 + bv c : Nat) : Int) ∧ wrap64 ((j : Int) + 1) = ((j + 1 : Nat) : Int) :=
    ⟨by rw [w64 (by omega) (by omega)]; omega, by rw [w64 (n := 64 * (n : Int)) (by omega) (by omega), w64 (by omega) (by omega)]; omega, by rw [w64 (by omega) (by omega)]; omega⟩
  refine Ev.step (fun k => by rw [impl_DecodeBase.l1]) ?_
  simp only [w1, size_S, bt_S, Int.toNat_natCast, hc, b64_S]
  refine ev_pos (by omega) (ev_pos (by omega) (ev_pos (by omega) (ev_bind0 (index_b64 c) ?_)))
  rw [mx_bv, w2, w3]
  exact H
theorem div3 {n : Nat} : (n : Int) / 65536 % 256 = ((UInt8.ofNat (n / 65536)).toNat : Int) ∧ (n : Int) / 256 % 256 = ((UInt8.ofNat (n / 256)).toNat : Int) ∧ (n : Int) % 256 = ((UInt8.ofNat n).toNat : Int) := by
  rw [UInt8.toNat_ofNat', UInt8.toNat_ofNat', UInt8.toNat_ofNat']
  refine ⟨?_, ?_, ?_⟩ <;> omega
theorem deb_group {s out : List UInt8} {i n : Nat} {R : ByteArray × Bool} (hi : i ≤ 2000000000000) (ho : out.length ≤ 2000000000000)
    (H : Ev (fun k => impl_DecodeBase.l0 k (S s) (NI (out ++ three n)) ((i + 4 : Nat) : Int)) R) : Ev (fun k => impl_DecodeBase.l1 k (S s) (NI out) (i : Int) (n : Int) ((4 : Nat) : Int)) R := by
  have w1 : wrap64 ((i : Int) + 4) = ((i + 4 : Nat) : Int) := by rw [w64 (by omega) (by omega)]; omega
  obtain ⟨d1, d2, d3⟩ := div3 (n := n)
  refine Ev.step (fun k => by rw [impl_DecodeBase.l1]) ?_
  have e : ([(n : Int) / 65536 % 256, (n : Int) / 256 % 256, (n : Int) % 256] : List Int) = NI (three n) := by rw [d1, d2, d3]; rfl
  rw [e, w1]
  refine ev_neg (by decide) (ev_bind0 rfl ?_)
  rw [NI_length, NI_length, NI_append]
  exact ev_pos (by show out.length + 3 < _; omega) H

theorem deb_end (s : List UInt8) (n : Nat) (hs : s.length = 4 * n) (hl : s.length ≤ 2000000000000) :
    Ev (fun k => (strings_Count.f (S s) (⟨#[61]⟩ : ByteArray)).bind fun t => (if 0 ≤ (mx (wrap64 (((NI (decB s)).length : Int) - t)) 0) then (if (mx (wrap64 (((NI (decB s)).length : Int) - t)) 0) ≤ ((NI (decB s)).length : Int) then ((some ((NI (decB s)).take ((mx (wrap64 (((NI (decB s)).length : Int) - t)) 0) : Int).toNat : List Int)).bind fun y => (if ((strOfNums y).size : Int) > 300 then (some ((⟨#[]⟩ : ByteArray), false)) else ((impl_letters.f k (strOfNums y)).bind fun t2 => (if t2.toList = (S s).toList then (some (strOfNums y, true)) else (some ((⟨#[]⟩ : ByteArray), false)))))) else (none)) else (none))) (debR s) := by
  have hd := decB_length n s hs
  have hc : s.count 61 ≤ s.length := List.count_le_length
  refine ev_bind0 (count_eq s) ?_
  rw [NI_length, mx_sub _ _ (by omega) (by omega)]
  refine ev_pos (by omega) (ev_pos (by omega) (ev_bind0 rfl ?_))
  have e : (NI (decB s)).take (((decB s).length - s.count 61 : Nat) : Int).toNat = NI (cutB s) := by
    rw [Int.toNat_natCast]
    unfold cutB NI
    rw [List.map_take]
  rw [e, strOfNums_NI, size_S]
  by_cases h3 : (cutB s).length > 300
  · have : debR s = (S [], false) := debR_neg (by
      rintro ⟨b, h1, h2⟩
      rw [← h2, cutB_base] at h3
      omega)
    rw [this]
    exact ev_pos (by omega) (Ev.now _)
  · refine ev_neg (by omega) (Ev.bind (impl_letters_ev (cutB s) (by omega)) ?_)
    by_cases h4 : base (cutB s) = s
    · rw [debR_pos (by omega) h4]
      exact ev_pos (by rw [h4]) (Ev.now _)
    · have : debR s = (S [], false) := debR_neg (by
        rintro ⟨b, h1, h2⟩
        apply h4
        rw [← h2, cutB_base])
      rw [this]
      exact ev_neg (by rw [toList_S, toList_S]; exact h4) (Ev.now _)

theorem deb_loop (s : List UInt8) (n : Nat) (hs : s.length = 4 * n) (hl : s.length ≤ 2000000000000) : ∀ (e i : Nat) (out : List UInt8), i + e = n → out.length = 3 * i → decB s = out ++ decB (s.drop (4 * i)) →
    Ev (fun k => impl_DecodeBase.l0 k (S s) (NI out) ((4 * i : Nat) : Int)) (debR s) := by
  intro e
  induction e with
  | zero =>
    intro i out hi ho hd
    rw [List.drop_of_length_le (by omega)] at hd
    have e0 : decB [] = [] := rfl
    rw [e0, List.append_nil] at hd
    refine Ev.step (fun k => by rw [impl_DecodeBase.l0]) ?_
    rw [size_S, ← hd]
    exact ev_neg (by omega) (deb_end s n hs hl)
  | succ e ih =>
    intro i out hi ho hd
    have h0 : 4 * i < s.length := by omega
    have h1 : 4 * i + 1 < s.length := by omega
    have h2 : 4 * i + 2 < s.length := by omega
    have h3 : 4 * i + 3 < s.length := by omega
    have g0 : s.getD (4 * i + 0) 0 = s[4 * i] := by rw [List.getD_eq_getElem?_getD, Nat.add_zero, List.getElem?_eq_getElem h0]; rfl
    have g1 : s.getD (4 * i + 1) 0 = s[4 * i + 1] := by rw [List.getD_eq_getElem?_getD, List.getElem?_eq_getElem h1]; rfl
    have g2 : s.getD (4 * i + 2) 0 = s[4 * i + 2] := by rw [List.getD_eq_getElem?_getD, List.getElem?_eq_getElem h2]; rfl
    have g3 : s.getD (4 * i + 3) 0 = s[4 * i + 3] := by rw [List.getD_eq_getElem?_getD, List.getElem?_eq_getElem h3]; rfl
    have sh : s.drop (4 * i) = s[4 * i] :: s[4 * i + 1] :: s[4 * i + 2] :: s[4 * i + 3] :: s.drop (4 * (i + 1)) := by
      have e43 : 4 * (i + 1) = 4 * i + 3 + 1 := by omega
      rw [e43, drop_cons h0, drop_cons h1, drop_cons h2, drop_cons h3]
    have v0 := bv_lt s[4 * i]
    have v1 := bv_lt s[4 * i + 1]
    have v2 := bv_lt s[4 * i + 2]
    have h4 := ih (i + 1) (out ++ three (num4 s[4 * i] s[4 * i + 1] s[4 * i + 2] s[4 * i + 3])) (by omega) (by rw [List.length_append, ho]; show 3 * i + 3 = _; omega) (by rw [hd, sh, decB, List.append_assoc])
    have e4 : 4 * (i + 1) = 4 * i + 4 := by omega
    rw [e4] at h4
    refine Ev.step (fun k => by rw [impl_DecodeBase.l0]) ?_
    rw [size_S]
    refine ev_pos (by omega) ?_
    refine deb_step (j := 0) (n := 0) _ g0 (by omega) (by omega) hl (by omega) ?_
    rw [Nat.zero_mul, Nat.zero_add]
    refine deb_step (j := 1) _ g1 (by omega) (by omega) hl (by omega) ?_
    refine deb_step (j := 2) _ g2 (by omega) (by omega) hl (by omega) ?_
    refine deb_step (j := 3) _ g3 (by omega) (by omega) hl (by omega) ?_
    exact deb_group (by omega) (by omega) h4

theorem impl_deb (ls : List (List UInt8)) (hn : ls.length ≤ 1048576) (hf : ls.flatten.length ≤ 2000000000000) : Ev (fun k => impl_DecodeBase.f k (SL ls)) (debR ls.flatten) := by
  simp only [impl_DecodeBase.f]
  have hj : strings_Join.f (SL ls) (⟨#[]⟩ : ByteArray) = some (S ls.flatten) := by
    unfold strings_Join.f
    have e : (⟨#[]⟩ : ByteArray).data.toList = [] := rfl
    rw [e, SL_lists, join_flat, SL_length, if_pos ⟨by omega, by omega⟩]
    rfl
  refine ev_bind0 hj ?_
  rw [size_S]
  by_cases h4 : (ls.flatten.length : Int) % 4 = 0
  · have := deb_loop ls.flatten (ls.flatten.length / 4) (by omega) hf (ls.flatten.length / 4) 0 [] (by omega) (by simp) (by simp)
    exact ev_pos h4 this
  · have : debR ls.flatten = (S [], false) := debR_neg (by
      rintro ⟨b, h1, h2⟩
      have := debR_len h1 h2
      omega)
    rw [this]
    exact ev_neg h4 (Ev.now _)

theorem spec_dig (c : UInt8) : Ev (fun k => spec_l5Digit.f k (c.toNat : Int)) (bx c) := by
  simp only [spec_l5Digit.f]
  refine ev_bind0 spec_letters ?_
  have hidx : ∀ (l : List UInt8) (p : Nat), (Lib.indexByte l c = -1 ∧ ∀ j (h : j < l.length), l[j] ≠ c) ∨ ∃ j, ∃ h : j < l.length, Lib.indexByte l c = (j : Int) ∧ l[j] = c ∧ ∀ i (h2 : i < j), l[i] ≠ c := by
    intro l _
    induction l with
    | nil => exact Or.inl ⟨rfl, fun j h => by simp at h⟩
    | cons b l ih =>
      by_cases hb : b = c
      · refine Or.inr ⟨0, by simp, ?_, hb, fun i h => by omega⟩
        unfold Lib.indexByte
        simp [hb]
      · rcases ih with ⟨h1, h2⟩ | ⟨j, hj, h1, h2, h3⟩
        · refine Or.inl ⟨?_, ?_⟩
          · unfold Lib.indexByte
            simp [hb, h1]
          · intro j hj
            cases j with
            | zero => exact hb
            | succ j => exact h2 j (by simpa using hj)
        · refine Or.inr ⟨j + 1, by simpa using hj, ?_, by simpa using h2, ?_⟩
          · unfold Lib.indexByte
            have : ¬ ((j : Int) = -1) := by omega
            simp [hb, h1, this]
          · intro i hi
            cases i with
            | zero => exact hb
            | succ i => exact h3 i (by omega)
  have loop : ∀ (e i : Nat), i + e = b64.length → (∀ j, j < i → ∀ h : j < b64.length, b64[j] ≠ c) → Ev (fun k => spec_l5Digit.l0 k (c.toNat : Int) (S b64) (i : Int)) (bx c) := by
    intro e
    induction e with
    | zero =>
      intro i hi hne
      refine Ev.step (fun k => by rw [spec_l5Digit.l0]) ?_
      rw [size_S]
      have : bx c = -1 := by
        rcases hidx b64 0 with ⟨h1, _⟩ | ⟨j, hj, _, h2, _⟩
        · exact h1
        · exact absurd h2 (hne j (by omega) hj)
      rw [this]
      exact ev_neg (by omega) (Ev.now _)
    | succ e ih =>
      intro i hi hne
      have hlt : i < b64.length := by omega
      have hg : b64.getD i 0 = b64[i] := by rw [List.getD_eq_getElem?_getD, List.getElem?_eq_getElem hlt]; rfl
      have h64 : b64.length = 64 := rfl
      have w : wrap64 ((i : Int) + 1) = ((i + 1 : Nat) : Int) := by rw [w64 (by omega) (by omega)]; omega
      refine Ev.step (fun k => by rw [spec_l5Digit.l0]) ?_
      simp only [size_S, bt_S, Int.toNat_natCast, hg, w]
      refine ev_pos (by omega) (ev_pos (by omega) ?_)
      by_cases h : b64[i] = c
      · have : bx c = (i : Int) := by
          rcases hidx b64 0 with ⟨_, h2⟩ | ⟨j, hj, h1, h2, h3⟩
          · exact absurd h (h2 i hlt)
          · have : j = i := by
              by_cases q : j < i
              · exact absurd h2 (hne j q hj)
              · by_cases q2 : i < j
                · exact absurd h (h3 i q2)
                · omega
            rw [this] at h1
            exact h1
        rw [this]
        exact ev_pos (by rw [h]) (Ev.now _)
      · refine ev_neg (fun q => h (u8_eq.1 q)) (ih (i + 1) (by omega) ?_)
        intro j hj hj2
        by_cases q : j < i
        · exact hne j q hj2
        · have : j = i := by omega
          subst this
          exact h
  exact loop b64.length 0 (by omega) (fun j h => by omega)

theorem sdeb_step {s out : List UInt8} {i j n f : Nat} {R : ByteArray × Bool} (c : UInt8) (hc : s.getD (i + j) 0 = c) (hj : j < 4) (hi : i + j < s.length) (hs : s.length ≤ 1000)
    (H : Ev (fun k => spec_l5Debase.j2 k (S s) (NI out) (i : Int) (n : Int) (f : Int) (j : Int) (bx c) (decide (c = 61 ∧ 2 ≤ j ∧ i + 4 = s.length))) R) :
    Ev (fun k => spec_l5Debase.l1 k (S s) (NI out) (i : Int) (n : Int) (f : Int) (j : Int)) R := by
  obtain ⟨w1, w2⟩ : wrap64 ((i : Int) + (j : Int)) = ((i + j : Nat) : Int) ∧ wrap64 ((i : Int) + 4) = ((i + 4 : Nat) : Int) := ⟨by rw [w64 (by omega) (by omega)]; omega, by rw [w64 (by omega) (by omega)]; omega⟩
  refine Ev.step (fun k => by rw [spec_l5Debase.l1]) ?_
  simp only [w1, w2, size_S, bt_S, Int.toNat_natCast, hc]
  refine ev_pos (by omega) (ev_pos (by omega) (ev_pos (by omega) (Ev.bind (spec_dig c) ?_)))
  by_cases h61 : c = 61
  · refine ev_pos (by rw [h61]; rfl) ?_
    by_cases h2 : 2 ≤ j
    · refine ev_pos (by omega) ?_
      have e : decide (c = 61 ∧ 2 ≤ j ∧ i + 4 = s.length) = (((i + 4 : Nat) : Int) == (s.length : Int)) := by
        rw [Bool.eq_iff_iff, decide_eq_true_iff, beq_iff_eq]
        exact ⟨fun q => by omega, fun q => ⟨h61, h2, by omega⟩⟩
      rw [← e]
      exact H
    · refine ev_neg (by omega) ?_
      rw [decide_eq_false (fun q => h2 q.2.1)] at H
      exact H
  · refine ev_neg (fun q => h61 ((u8_is (n := 61) (by omega)).1 q)) ?_
    rw [decide_eq_false (fun q => h61 q.1)] at H
    exact H
theorem sdeb_fill {s out : List UInt8} {i j n f : Nat} {R : ByteArray × Bool} {x : Int} (hj : j < 4) (hn : n < 262144) (hf : f ≤ 3)
    (H : Ev (fun k => spec_l5Debase.l1 k (S s) (NI out) (i : Int) ((n * 64 + 0 : Nat) : Int) ((f + 1 : Nat) : Int) ((j + 1 : Nat) : Int)) R) :
    Ev (fun k => spec_l5Debase.j2 k (S s) (NI out) (i : Int) (n : Int) (f : Int) (j : Int) x true) R := by
  obtain ⟨w1, w2, w3⟩ : wrap64 (wrap64 ((n : Int) * 64) + 0) = ((n * 64 + 0 : Nat) : Int) ∧ wrap64 ((f : Int) + 1) = ((f + 1 : Nat) : Int) ∧ wrap64 ((j : Int) + 1) = ((j + 1 : Nat) : Int) :=
    ⟨by rw [w64 (n := (n : Int) * 64) (by omega) (by omega), w64 (by omega) (by omega)]; omega, by rw [w64 (by omega) (by omega)]; omega, by rw [w64 (by omega) (by omega)]; omega⟩
  refine Ev.step (fun k => by rw [spec_l5Debase.j2]) ?_
  rw [w1, w2, w3]
  exact ev_pos rfl (ev_neg (by decide) H)
theorem sdeb_bad {s out : List UInt8} {i j n f : Nat} {x : Int} (h : 0 < f ∨ x < 0) : Ev (fun k => spec_l5Debase.j2 k (S s) (NI out) (i : Int) (n : Int) (f : Int) (j : Int) x false) (S [], false) := by
  refine Ev.step (fun k => by rw [spec_l5Debase.j2]) ?_
  refine ev_neg (by decide) ?_
  by_cases hf : 0 < f
  · exact ev_pos (by omega) (Ev.now _)
  · exact ev_neg (by omega) (ev_pos (by omega) (Ev.now _))
theorem sdeb_letter {s out : List UInt8} {i j n : Nat} {R : ByteArray × Bool} {c : UInt8} (hj : j < 4) (hn : n < 262144) (h0 : ¬ bx c < 0)
    (H : Ev (fun k => spec_l5Debase.l1 k (S s) (NI out) (i : Int) ((n * 64 + bv c : Nat) : Int) 0 ((j + 1 : Nat) : Int)) R) :
    Ev (fun k => spec_l5Debase.j2 k (S s) (NI out) (i : Int) (n : Int) ((0 : Nat) : Int) (j : Int) (bx c) false) R := by
  have hb := bv_lt c
  have e : bx c = (bv c : Int) := by unfold bv; omega
  obtain ⟨w1, w3⟩ : wrap64 (wrap64 ((n : Int) * 64) + bx c) = ((n * 64 + bv c : Nat) : Int) ∧ wrap64 ((j : Int) + 1) = ((j + 1 : Nat) : Int) :=
    ⟨by rw [e, w64 (n := (n : Int) * 64) (by omega) (by omega), w64 (by omega) (by omega)]; omega, by rw [w64 (by omega) (by omega)]; omega⟩
  refine Ev.step (fun k => by rw [spec_l5Debase.j2]) ?_
  rw [w1, w3]
  exact ev_neg (by decide) (ev_neg (by decide) (ev_neg h0 H))
theorem and255 {x : Int} (h0 : 0 ≤ x) (h1 : x < 16777216) : bits .and .i64 x 255 = x % 256 := bits_mask .i64 62 (by decide) wraps_i64 8 (by decide) x h0 (by omega)
theorem sdeb_group {s out : List UInt8} {i n f : Nat} {R : ByteArray × Bool} (hi : i ≤ 1000) (ho : out.length ≤ 1000) (hn : n < 16777216) (hf : f ≤ 2)
    (H : Ev (fun k => spec_l5Debase.l0 k (S s) (NI (out ++ (three n).take (3 - f))) ((i + 4 : Nat) : Int)) R) : Ev (fun k => spec_l5Debase.l1 k (S s) (NI out) (i : Int) (n : Int) (f : Int) ((4 : Nat) : Int)) R := by
  obtain ⟨w1, w2⟩ : wrap64 ((i : Int) + 4) = ((i + 4 : Nat) : Int) ∧ wrap64 (3 - (f : Int)) = ((3 - f : Nat) : Int) := ⟨by rw [w64 (by omega) (by omega)]; omega, by rw [w64 (by omega) (by omega)]; omega⟩
  obtain ⟨d1, d2, d3⟩ := div3 (n := n)
  refine Ev.step (fun k => by rw [spec_l5Debase.l1]) ?_
  have a1 : bits .and .i64 ((n : Int) / 256) 255 = (n : Int) / 256 % 256 := and255 (by omega) (by omega)
  have a2 : bits .and .i64 (n : Int) 255 = (n : Int) % 256 := and255 (by omega) (by omega)
  have e : ([(n : Int) / 65536 % 256, (bits .and .i64 ((n : Int) / 256) 255) % 256, (bits .and .i64 (n : Int) 255) % 256] : List Int) = NI (three n) := by
    rw [a1, a2, Int.emod_emod_of_dvd _ (Int.dvd_refl 256), Int.emod_emod_of_dvd _ (Int.dvd_refl 256), d1, d2, d3]
    rfl
  have e2 : (NI (three n)).take (3 - f) = NI ((three n).take (3 - f)) := by unfold NI; rw [List.map_take]
  have hl : (three n).length = 3 := rfl
  rw [e, w1, w2]
  refine ev_neg (by decide) (ev_bind0 rfl ?_)
  rw [NI_length, hl]
  refine ev_pos (by omega) (ev_pos (by omega) (ev_bind0 rfl ?_))
  rw [Int.toNat_natCast, e2, NI_length, NI_length, NI_append, List.length_take, hl]
  exact ev_pos (by omega) H

/-- What the reference has of letters: the bytes that they stand for, and whether these have them as letters. -/
def debE (s : List UInt8) (o : Option (List UInt8)) : ByteArray × Bool := match o with | none => (S [], false) | some t => (S t, decide (base t = s))
theorem sdeb_loop (s : List UInt8) (n : Nat) (hs : s.length = 4 * n) (hl : s.length ≤ 600) : ∀ (e i : Nat) (out : List UInt8), i + e = n → out.length ≤ 3 * i →
    Ev (fun k => spec_l5Debase.l0 k (S s) (NI out) ((4 * i : Nat) : Int)) (debE s ((debS (s.drop (4 * i))).map fun t => out ++ t)) := by
  intro e
  induction e with
  | zero =>
    intro i out hi ho
    rw [List.drop_of_length_le (by omega)]
    refine Ev.step (fun k => by rw [spec_l5Debase.l0]) ?_
    rw [size_S, strOfNums_NI]
    refine ev_neg (by omega) (Ev.bind (spec_base out (by omega)) (ev_is ?_))
    show _ = some (debE s (some (out ++ [])))
    rw [List.append_nil]
    unfold debE
    simp only [toList_S]
    have eb : (base out == s) = decide (base out = s) := by rw [Bool.eq_iff_iff]; simp
    rw [eb]
  | succ e ih =>
    intro i out hi ho
    have h0 : 4 * i < s.length := by omega
    have h1 : 4 * i + 1 < s.length := by omega
    have h2 : 4 * i + 2 < s.length := by omega
    have h3 : 4 * i + 3 < s.length := by omega
    have g0 : s.getD (4 * i + 0) 0 = s[4 * i] := by rw [List.getD_eq_getElem?_getD, Nat.add_zero, List.getElem?_eq_getElem h0]; rfl
    have g1 : s.getD (4 * i + 1) 0 = s[4 * i + 1] := by rw [List.getD_eq_getElem?_getD, List.getElem?_eq_getElem h1]; rfl
    have g2 : s.getD (4 * i + 2) 0 = s[4 * i + 2] := by rw [List.getD_eq_getElem?_getD, List.getElem?_eq_getElem h2]; rfl
    have g3 : s.getD (4 * i + 3) 0 = s[4 * i + 3] := by rw [List.getD_eq_getElem?_getD, List.getElem?_eq_getElem h3]; rfl
    have sh : s.drop (4 * i) = s[4 * i] :: s[4 * i + 1] :: s[4 * i + 2] :: s[4 * i + 3] :: s.drop (4 * (i + 1)) := by
      have e43 : 4 * (i + 1) = 4 * i + 3 + 1 := by omega
      rw [e43, drop_cons h0, drop_cons h1, drop_cons h2, drop_cons h3]
    have hemp : (s.drop (4 * (i + 1))).isEmpty = decide (4 * i + 4 = s.length) := by
      rw [Bool.eq_iff_iff, List.isEmpty_iff, List.drop_eq_nil_iff, decide_eq_true_iff]
      omega
    have v0 := bv_lt s[4 * i]
    have v1 := bv_lt s[4 * i + 1]
    have v2 := bv_lt s[4 * i + 2]
    have e4 : 4 * (i + 1) = 4 * i + 4 := by omega
    have none_of : grp s[4 * i] s[4 * i + 1] s[4 * i + 2] s[4 * i + 3] (s.drop (4 * (i + 1))).isEmpty = none → (debE s ((debS (s.drop (4 * i))).map fun t => out ++ t)) = (S [], false) := by
      intro h
      rw [sh, debS, h]
      rfl
    have some_of : ∀ g : List UInt8, grp s[4 * i] s[4 * i + 1] s[4 * i + 2] s[4 * i + 3] (s.drop (4 * (i + 1))).isEmpty = some g → g.length ≤ 3 →
        Ev (fun k => spec_l5Debase.l0 k (S s) (NI (out ++ g)) ((4 * i + 4 : Nat) : Int)) (debE s ((debS (s.drop (4 * i))).map fun t => out ++ t)) := by
      intro g h hg
      have := ih (i + 1) (out ++ g) (by omega) (by rw [List.length_append]; omega)
      rw [e4] at this
      rw [sh, debS, h, e4]
      simp only [Option.map_map]
      have ef : ((fun t => out ++ t) ∘ fun t => g ++ t) = fun t : List UInt8 => out ++ g ++ t := by funext t; simp
      rw [ef]
      exact this
    rw [hemp] at none_of some_of
    refine Ev.step (fun k => by rw [spec_l5Debase.l0]) ?_
    rw [size_S]
    refine ev_pos (by omega) ?_
    obtain ⟨a, ea⟩ : ∃ a, s[4 * i] = a := ⟨_, rfl⟩
    obtain ⟨b, eb⟩ : ∃ b, s[4 * i + 1] = b := ⟨_, rfl⟩
    obtain ⟨c, ec⟩ : ∃ c, s[4 * i + 2] = c := ⟨_, rfl⟩
    obtain ⟨d, ed⟩ : ∃ d, s[4 * i + 3] = d := ⟨_, rfl⟩
    rw [ea] at g0 v0 none_of some_of
    rw [eb] at g1 v1 none_of some_of
    rw [ec] at g2 v2 none_of some_of
    rw [ed] at g3 none_of some_of
    clear sh ea eb ec ed ih
    have n1 : 0 * 64 + bv a < 262144 := by omega
    have n2 : (0 * 64 + bv a) * 64 + bv b < 262144 := by omega
    have n3 : ((0 * 64 + bv a) * 64 + bv b) * 64 + bv c < 262144 := by omega
    have n3' : ((0 * 64 + bv a) * 64 + bv b) * 64 + 0 < 262144 := by omega
    have n4 := num4_lt a b c d
    have en : (((0 * 64 + bv a) * 64 + bv b) * 64 + bv c) * 64 + bv d = num4 a b c d := by unfold num4; rw [Nat.zero_mul, Nat.zero_add]
    refine sdeb_step (j := 0) (n := 0) (f := 0) _ g0 (by omega) (by omega) (by omega) ?_
    rw [decide_eq_false (fun q => by omega)]
    by_cases ha : bx a < 0
    · rw [none_of (by unfold grp; rw [if_pos (Or.inl ha)])]
      exact sdeb_bad (Or.inr ha)
    refine sdeb_letter (by omega) (by omega) ha ?_
    refine sdeb_step (j := 1) (f := 0) _ g1 (by omega) (by omega) (by omega) ?_
    rw [decide_eq_false (fun q => by omega)]
    by_cases hb : bx b < 0
    · rw [none_of (by unfold grp; rw [if_pos (Or.inr hb)])]
      exact sdeb_bad (Or.inr hb)
    refine sdeb_letter (by omega) n1 hb ?_
    have hab : ¬ (bx a < 0 ∨ bx b < 0) := by omega
    refine sdeb_step (j := 2) (f := 0) _ g2 (by omega) (by omega) (by omega) ?_
    by_cases h2e : c = 61 ∧ 4 * i + 4 = s.length
    · rw [decide_eq_true (show c = 61 ∧ 2 ≤ 2 ∧ 4 * i + 4 = s.length from ⟨h2e.1, by omega, h2e.2⟩)]
      have hlast : decide (4 * i + 4 = s.length) = true := decide_eq_true h2e.2
      refine sdeb_fill (by omega) n2 (by omega) ?_
      refine sdeb_step (j := 3) (f := 1) _ g3 (by omega) (by omega) (by omega) ?_
      by_cases hd : d = 61
      · rw [decide_eq_true (show d = 61 ∧ 2 ≤ 3 ∧ 4 * i + 4 = s.length from ⟨hd, by omega, h2e.2⟩)]
        refine sdeb_fill (by omega) n3' (by omega) ?_
        have ez : (((0 * 64 + bv a) * 64 + bv b) * 64 + 0) * 64 + 0 = num4 a b c d := by rw [← en, h2e.1, hd, bv_eq]
        rw [ez]
        refine sdeb_group (f := 2) (by omega) (by omega) n4 (by omega) ?_
        exact some_of _ (by unfold grp; rw [if_neg hab, if_pos ⟨h2e.1, hlast⟩, if_pos hd]; rfl) (by simp [three])
      · rw [decide_eq_false (fun q => hd q.1)]
        rw [none_of (by unfold grp; rw [if_neg hab, if_pos ⟨h2e.1, hlast⟩, if_neg hd])]
        exact sdeb_bad (Or.inl (by omega))
    · rw [decide_eq_false (fun q => h2e ⟨q.1, q.2.2⟩)]
      have h2e' : ¬ (c = 61 ∧ decide (4 * i + 4 = s.length) = true) := by
        rw [decide_eq_true_iff]
        exact h2e
      by_cases hc : bx c < 0
      · rw [none_of (by unfold grp; rw [if_neg hab, if_neg h2e', if_pos hc])]
        exact sdeb_bad (Or.inr hc)
      refine sdeb_letter (by omega) n2 hc ?_
      refine sdeb_step (j := 3) (f := 0) _ g3 (by omega) (by omega) (by omega) ?_
      by_cases h3e : d = 61 ∧ 4 * i + 4 = s.length
      · rw [decide_eq_true (show d = 61 ∧ 2 ≤ 3 ∧ 4 * i + 4 = s.length from ⟨h3e.1, by omega, h3e.2⟩)]
        refine sdeb_fill (by omega) n3 (by omega) ?_
        have ez : (((0 * 64 + bv a) * 64 + bv b) * 64 + bv c) * 64 + 0 = num4 a b c d := by rw [← en, h3e.1, bv_eq]
        rw [ez]
        refine sdeb_group (f := 1) (by omega) (by omega) n4 (by omega) ?_
        exact some_of _ (by unfold grp; rw [if_neg hab, if_neg h2e', if_neg hc, if_pos ⟨h3e.1, decide_eq_true h3e.2⟩]; rfl) (by simp [three])
      · rw [decide_eq_false (fun q => h3e ⟨q.1, q.2.2⟩)]
        have h3e' : ¬ (d = 61 ∧ decide (4 * i + 4 = s.length) = true) := by
          rw [decide_eq_true_iff]
          exact h3e
        by_cases hd : bx d < 0
        · rw [none_of (by unfold grp; rw [if_neg hab, if_neg h2e', if_neg hc, if_neg h3e', if_pos hd])]
          exact sdeb_bad (Or.inr hd)
        refine sdeb_letter (by omega) n3 hd ?_
        rw [en]
        refine sdeb_group (f := 0) (by omega) (by omega) n4 (by omega) ?_
        exact some_of _ (by unfold grp; rw [if_neg hab, if_neg h2e', if_neg hc, if_neg h3e', if_neg hd]; rfl) (by simp [three])

theorem spec_debase (s : List UInt8) (hl : s.length ≤ 600) : ∃ o b, Ev (fun k => spec_l5Debase.f k (S s)) (S o, b) ∧ ((if b = true then (if o.length > 300 then (S [], false) else (S o, true)) else (S [], false)) = debR s) := by
  by_cases h4 : (s.length : Int) % 4 = 0
  · have h := sdeb_loop s (s.length / 4) (by omega) hl (s.length / 4) 0 [] (by omega) (by simp)
    rw [Nat.mul_zero, List.drop_zero] at h
    have em : (debS s).map (fun t => [] ++ t) = debS s := by cases debS s <;> rfl
    rw [em] at h
    cases hd : debS s with
    | none =>
      rw [hd] at h
      refine ⟨[], false, ?_, ?_⟩
      · simp only [spec_l5Debase.f, size_S]
        exact ev_pos h4 h
      · rw [if_neg (by decide), debR_neg]
        rintro ⟨b, h1, h2⟩
        rw [← h2, debS_base] at hd
        cases hd
    | some o =>
      rw [hd] at h
      refine ⟨o, decide (base o = s), ?_, ?_⟩
      · simp only [spec_l5Debase.f, size_S]
        exact ev_pos h4 h
      · have one : ∀ b, base b = s → b = o := by
          intro b hb
          rw [← hb, debS_base] at hd
          exact Option.some.inj hd
        by_cases hb : base o = s
        · rw [if_pos (decide_eq_true hb)]
          by_cases h3 : o.length > 300
          · rw [if_pos h3, debR_neg]
            rintro ⟨b, h1, h2⟩
            rw [one b h2] at h1
            omega
          · rw [if_neg h3, debR_pos (by omega) hb]
        · rw [if_neg (by simpa using hb), debR_neg]
          rintro ⟨b, h1, h2⟩
          rw [one b h2] at h2
          exact hb h2
  · refine ⟨[], false, ?_, ?_⟩
    · simp only [spec_l5Debase.f, size_S]
      exact ev_neg h4 (Ev.now _)
    · rw [if_neg (by decide), debR_neg]
      rintro ⟨b, h1, h2⟩
      have := debR_len h1 h2
      omega

theorem spec_deb_loop (ls : List (List UInt8)) (hn : ls.length ≤ 1048576) (hb : ∀ l ∈ ls, l.length ≤ 1048576) : ∀ (e i : Nat), i + e = ls.length → ((ls.take i).flatten).length ≤ 600 →
    Ev (fun k => spec_DecodeBase.l0 k (SL ls) (S (ls.take i).flatten) (i : Int)) (debR ls.flatten) := by
  intro e
  induction e with
  | zero =>
    intro i hi h6
    rw [List.take_of_length_le (by omega)] at h6 ⊢
    obtain ⟨o, b, h1, h2⟩ := spec_debase ls.flatten h6
    refine Ev.step (fun k => by rw [spec_DecodeBase.l0]) ?_
    rw [SL_length]
    refine ev_neg (by omega) (Ev.bind h1 ?_)
    rw [← h2]
    cases b with
    | false => exact ev_neg (by simp) (Ev.now _)
    | true =>
      refine ev_pos rfl ?_
      rw [size_S]
      by_cases h3 : o.length > 300
      · rw [if_pos rfl, if_pos h3]
        exact ev_pos (by omega) (Ev.now _)
      · rw [if_pos rfl, if_neg h3]
        exact ev_neg (by omega) (Ev.now _)
  | succ e ih =>
    intro i hi h6
    have hlt : i < ls.length := by omega
    have hli := hb ls[i] (List.getElem_mem hlt)
    have hfl : (ls.take (i + 1)).flatten = (ls.take i).flatten ++ ls[i] := by rw [List.take_succ_eq_append_getElem hlt, List.flatten_append]; simp
    have w : wrap64 ((i : Int) + 1) = ((i + 1 : Nat) : Int) := by rw [w64 (by omega) (by omega)]; omega
    have hle : (ls.take (i + 1)).flatten.length ≤ ls.flatten.length := by
      have : ls.flatten = (ls.take (i + 1)).flatten ++ (ls.drop (i + 1)).flatten := by rw [← List.flatten_append, List.take_append_drop]
      rw [this, List.length_append]
      omega
    have hih := ih (i + 1) (by omega)
    rw [hfl] at hih hle
    refine Ev.step (fun k => by rw [spec_DecodeBase.l0]) ?_
    simp only [SL_length, rdOf_SL _ ls i hlt, size_S, append_S, w]
    refine ev_pos (by omega) (ev_pos (by omega) (ev_pos (by omega) ?_))
    by_cases h7 : ((ls.take i).flatten ++ ls[i]).length > 600
    · have : debR ls.flatten = (S [], false) := debR_neg (by
        rintro ⟨b, h1, h2⟩
        have := debR_len h1 h2
        omega)
      rw [this]
      exact ev_pos (by omega) (Ev.now _)
    · exact ev_neg (by omega) (hih (by omega))
theorem spec_deb (ls : List (List UInt8)) (hn : ls.length ≤ 1048576) (hb : ∀ l ∈ ls, l.length ≤ 1048576) : Ev (fun k => spec_DecodeBase.f k (SL ls)) (debR ls.flatten) := by
  simp only [spec_DecodeBase.f]
  exact spec_deb_loop ls hn hb ls.length 0 (by omega) (by simp)

theorem spec_text (s : List UInt8) (hl : s.length ≤ 1000000000000) : Ev (fun k => spec_TextValid.f k (S s)) (decide (textOK s)) := by
  simp only [spec_TextValid.f]
  have loop : ∀ (e i : Nat), i + e = s.length → i ≤ 201 → (∀ j (h : j < s.length), j < i → 32 ≤ s[j].toNat ∧ s[j].toNat ≤ 126) → Ev (fun k => spec_TextValid.l0 k (S s) (i : Int)) (decide (textOK s)) := by
    intro e
    induction e with
    | zero =>
      intro i hi h2 hp
      have e1 : decide ((s.length : Int) ≤ 200) = decide (textOK s) := by
        rw [decide_eq_decide]
        constructor
        · intro q
          refine ⟨by omega, fun c hc => ?_⟩
          obtain ⟨j, hj, rfl⟩ := List.mem_iff_getElem.1 hc
          exact hp j hj (by omega)
        · intro q
          have := q.1
          omega
      refine Ev.step (fun k => by rw [spec_TextValid.l0]) ?_
      rw [size_S]
      refine ev_neg (by omega) ?_
      refine Ev.step (fun k => by rw [spec_TextValid.j1]) ?_
      rw [size_S, e1]
      exact ev_neg (by decide) (Ev.now _)
    | succ e ih =>
      intro i hi h2 hp
      have hlt : i < s.length := by omega
      have hg : s.getD i 0 = s[i] := by rw [List.getD_eq_getElem?_getD, List.getElem?_eq_getElem hlt]; rfl
      have w : wrap64 ((i : Int) + 1) = ((i + 1 : Nat) : Int) := by rw [w64 (by omega) (by omega)]; omega
      refine Ev.step (fun k => by rw [spec_TextValid.l0]) ?_
      rw [size_S]
      refine ev_pos (by omega) ?_
      by_cases h200 : i ≤ 200
      · rw [decide_eq_true (show (i : Int) ≤ 200 by omega)]
        refine Ev.step (fun k => by rw [spec_TextValid.j1]) ?_
        simp only [size_S, bt_S, Int.toNat_natCast, hg, w]
        refine ev_pos trivial (ev_pos (by omega) (ev_pos (by omega) ?_))
        by_cases hc : 32 ≤ s[i].toNat ∧ s[i].toNat ≤ 126
        · refine ev_neg (by omega) (ev_neg (by omega) (ih (i + 1) (by omega) (by omega) ?_))
          intro j hj hji
          by_cases q : j = i
          · subst q
            exact hc
          · exact hp j hj (by omega)
        · have e1 : decide (textOK s) = false := decide_eq_false (fun q => hc (q.2 s[i] (List.getElem_mem hlt)))
          rw [e1]
          by_cases h3 : (s[i].toNat : Int) < 32
          · exact ev_pos h3 (Ev.now _)
          · exact ev_neg h3 (ev_pos (by omega) (Ev.now _))
      · rw [decide_eq_false (show ¬ (i : Int) ≤ 200 by omega)]
        have e1 : decide (textOK s) = false := decide_eq_false (fun q => by have := q.1; omega)
        refine Ev.step (fun k => by rw [spec_TextValid.j1]) ?_
        rw [size_S, e1]
        refine ev_neg (by decide) (ev_is ?_)
        rw [decide_eq_false (by omega)]
  exact loop s.length 0 (by omega) (by omega) (fun j _ h => by omega)

theorem spec_line {ls : List (List UInt8)} {c : Int} {i : Nat} {o x : List UInt8} {R : ByteArray × Bool} (hx : x.length ≤ 1048576) (h1 : ¬ okL x → R = (S [], false)) (h2 : (o ++ x).length > 300 → R = (S [], false))
    (h3 : okL x → (o ++ x).length ≤ 300 → Ev (fun k => spec_DecodeBytes.l0 k (SL ls) c (S (o ++ x)) ((i + 1 : Nat) : Int)) R) :
    Ev (fun k => (spec_TextValid.f k (S x)).bind fun t => (if t = true then (if ((S x).size : Int) > 40 then (some (S [], false)) else (if ((S (o ++ x)).size : Int) > 300 then (some (S [], false)) else (spec_DecodeBytes.l0 k (SL ls) c (S (o ++ x)) ((i + 1 : Nat) : Int)))) else (some (S [], false)))) R := by
  refine Ev.bind (spec_text x (by omega)) ?_
  by_cases ht : textOK x
  · rw [decide_eq_true ht]
    refine ev_pos rfl ?_
    rw [size_S, size_S]
    by_cases h40 : x.length ≤ 40
    · refine ev_neg (by omega) ?_
      by_cases h300 : (o ++ x).length ≤ 300
      · exact ev_neg (by omega) (h3 ⟨ht, h40⟩ h300)
      · rw [h2 (by omega)]
        exact ev_pos (by omega) (Ev.now _)
    · rw [h1 (fun q => h40 q.2)]
      exact ev_pos (by omega) (Ev.now _)
  · rw [decide_eq_false ht, h1 (fun q => ht q.1)]
    exact ev_neg (by decide) (Ev.now _)
theorem spec_dlines_loop (ls : List (List UInt8)) (c : Int) (hn : ls.length ≤ 1048576) (hb : ∀ l ∈ ls, l.length ≤ 1048576) : ∀ (e i : Nat) (acc : List UInt8), i + e = ls.length → 1 ≤ i → acc.length ≤ 300 →
    Ev (fun k => spec_DecodeBytes.l0 k (SL ls) c (S acc) (i : Int)) (resL c acc (ls.drop i)) := by
  intro e
  induction e with
  | zero =>
    intro i acc hi h1 ha
    rw [List.drop_of_length_le (by omega)]
    have e0 : acc ++ tailL [] = acc := by simp [tailL]
    have c1 : (∀ l ∈ ([] : List (List UInt8)), okL l) ∧ acc.length ≤ 300 := ⟨fun l hl => (by cases hl), ha⟩
    have er : resL c acc [] = if c = 0 then (S acc, true) else (S [], false) := by
      unfold resL
      rw [e0, if_pos c1]
    by_cases hc : c = 0
    · rw [if_pos hc] at er
      rw [er]
      refine Ev.step (fun k => by rw [spec_DecodeBytes.l0]) ?_
      rw [SL_length]
      exact ev_neg (by omega) (ev_pos hc (ev_neg (by omega) (Ev.now _)))
    · rw [if_neg hc] at er
      rw [er]
      refine Ev.step (fun k => by rw [spec_DecodeBytes.l0]) ?_
      rw [SL_length]
      exact ev_neg (by omega) (ev_neg hc (Ev.now _))
  | succ e ih =>
    intro i acc hi h1 ha
    have hlt : i < ls.length := by omega
    have w : wrap64 ((i : Int) + 1) = ((i + 1 : Nat) : Int) := by rw [w64 (by omega) (by omega)]; omega
    have hx := hb ls[i] (List.getElem_mem hlt)
    have e10 : (⟨#[10]⟩ : ByteArray) = S [10] := rfl
    have e0 : (⟨#[]⟩ : ByteArray) = S [] := rfl
    have hd : ls.drop i = ls[i] :: ls.drop (i + 1) := List.drop_eq_getElem_cons hlt
    rw [hd]
    refine Ev.step (fun k => by rw [spec_DecodeBytes.l0]) ?_
    simp only [SL_length, rdOf_SL _ ls i hlt, w, e10, e0, append_S]
    have hL := spec_line (ls := ls) (c := c) (i := i) (o := acc ++ [10]) (x := ls[i]) (R := resL c acc (ls[i] :: ls.drop (i + 1))) hx (fun q => resL_bad (Or.inl q)) (fun q => resL_bad (Or.inr q))
      (fun q1 q2 => by rw [resL_next q1]; exact ih (i + 1) (acc ++ [10] ++ ls[i]) (by omega) (by omega) q2)
    refine ev_pos (by omega) (ev_pos (by omega) (ev_pos ?_ (ev_pos (by omega) (ev_pos ?_ hL))))
    · rw [size_S]; omega
    · rw [size_S, size_S, List.length_append]
      simp only [List.length_cons, List.length_nil]
      omega
theorem spec_bytes3 (ls : List (List UInt8)) (c : Int) (hn : ls.length ≤ 1048576) (hb : ∀ l ∈ ls, l.length ≤ 1048576) : Ev (fun k => spec_DecodeBytes.f k (SL ls) c) (decB3 ls c) := by
  simp only [spec_DecodeBytes.f]
  unfold decB3
  by_cases h1 : c = 1
  · rw [if_pos h1]
    exact ev_pos h1 (Ev.bind (spec_decq ls hn hb) (Ev.now _))
  rw [if_neg h1]
  refine ev_neg h1 ?_
  by_cases h2 : c = 2
  · rw [if_pos h2]
    exact ev_pos h2 (Ev.bind (spec_deb ls hn hb) (Ev.now _))
  rw [if_neg h2]
  refine ev_neg h2 ?_
  have e0 : (⟨#[]⟩ : ByteArray) = S [] := rfl
  rw [e0]
  cases ls with
  | nil =>
    have er : (if c = 0 then plainR [] else (S [], false)) = (S [], false) := by
      have e1 : plainR [] = (S [], false) := by
        unfold plainR
        exact if_neg (fun z => z.1 rfl)
      rw [e1]
      split <;> rfl
    rw [er]
    refine Ev.step (fun k => by rw [spec_DecodeBytes.l0]) ?_
    refine ev_neg (by decide) ?_
    by_cases hc : c = 0
    · exact ev_pos hc (ev_pos rfl (Ev.now _))
    · exact ev_neg hc (Ev.now _)
  | cons x r =>
    have hx := hb x (by simp)
    have w : wrap64 (((0 : Nat) : Int) + 1) = ((0 + 1 : Nat) : Int) := by rw [w64 (by omega) (by omega)]; rfl
    have hlt : 0 < (x :: r).length := by simp
    have hr := rdOf_SL ByteArray.empty (x :: r) 0 hlt
    have hg : (x :: r)[0] = x := rfl
    rw [hg] at hr
    have er : (if c = 0 then plainR (x :: r) else (S [], false)) = if okL x ∧ x.length ≤ 300 then resL c x r else (S [], false) := by
      by_cases hc : c = 0
      · rw [if_pos hc, plainR_first, hc]
      · rw [if_neg hc]
        unfold resL
        rw [if_neg hc]
        split <;> (try split) <;> rfl
    rw [er]
    have hL := spec_line (ls := x :: r) (c := c) (i := 0) (o := []) (x := x) (R := if okL x ∧ x.length ≤ 300 then resL c x r else (S [], false)) hx (fun q => if_neg (fun z => q z.1)) (fun q => if_neg (fun z => by rw [List.nil_append] at q; omega))
      (fun q1 q2 => by
        rw [if_pos ⟨q1, by rw [List.nil_append] at q2; exact q2⟩]
        exact spec_dlines_loop (x :: r) c hn hb r.length 1 ([] ++ x) (by simp; omega) (by omega) q2)
    refine Ev.step (fun k => by rw [spec_DecodeBytes.l0]) ?_
    have w' : wrap64 ((0 : Int) + 1) = ((0 + 1 : Nat) : Int) := w
    have hr' : rdOf ByteArray.empty (SL (x :: r)) (0 : Int) = S x := hr
    simp only [SL_length, hr', w', e0, append_S]
    refine ev_pos (by first | (simp; done) | (simp; omega)) (ev_neg (by omega) (ev_pos (by omega) (ev_pos ?_ hL)))
    rw [size_S, size_S]
    first | (simp; done) | (simp; omega)

def hexs : List UInt8 := [48, 49, 50, 51, 52, 53, 54, 55, 56, 57, 65, 66, 67, 68, 69, 70]
theorem hexs_S : (⟨#[48, 49, 50, 51, 52, 53, 54, 55, 56, 57, 65, 66, 67, 68, 69, 70]⟩ : ByteArray) = S hexs := rfl
theorem hexs_index (c : UInt8) : Lib.indexByte hexs c = hv c := by
  have h : ∀ n : Fin 256, Lib.indexByte hexs (UInt8.ofNat n.val) = hv (UInt8.ofNat n.val) := by decide +kernel
  have := h ⟨c.toNat, c.toNat_lt⟩
  have e : UInt8.ofNat c.toNat = c := by simp
  rw [e] at this
  exact this
theorem index_hex (c : UInt8) : strings_IndexByte.f (S hexs) (c.toNat : Int) = some (hv c) := by
  unfold strings_IndexByte.f
  have e : ((c.toNat : Int)).toNat.toUInt8 = c := by simp
  rw [data_S, e, hexs_index]

/-- What the program has of an escape at the head of bytes. -/
def hexO (l : List UInt8) : Option (UInt8 × List UInt8) := match l with
  | c :: d :: e :: r => if c.toNat = 61 then (match hexv d, hexv e with | some x, some y => some (UInt8.ofNat (16 * x + y), r) | _, _ => none) else none
  | _ => none
theorem impl_hexof (l : List UInt8) : ∃ n ok, Ev (fun k => impl_hexOf.f k (S l)) (n, ok) ∧ (∀ b r, hexO l = some (b, r) → ok = true ∧ n = (b.toNat : Int)) ∧ (hexO l = none → ok = false) := by
  simp only [impl_hexOf.f, size_S]
  have j0 : ∀ l, Ev (fun k => impl_hexOf.j0 k (S l) true) (0, false) := by
    intro l
    refine Ev.step (fun k => by rw [impl_hexOf.j0]) ?_
    exact ev_pos rfl (Ev.now _)
  match l with
  | [] => exact ⟨0, false, ev_pos (by decide) (j0 _), fun b r h => (by cases h), fun _ => rfl⟩
  | [c] => exact ⟨0, false, ev_pos (by simp) (j0 _), fun b r h => (by cases h), fun _ => rfl⟩
  | [c, d] => exact ⟨0, false, ev_pos (by simp) (j0 _), fun b r h => (by cases h), fun _ => rfl⟩
  | c :: d :: e :: r =>
    have hc : bt (S (c :: d :: e :: r)) 0 = (c.toNat : Int) := by rw [bt_S]; rfl
    have hd : bt (S (c :: d :: e :: r)) 1 = (d.toNat : Int) := by rw [bt_S]; rfl
    have he : bt (S (c :: d :: e :: r)) 2 = (e.toNat : Int) := by rw [bt_S]; rfl
    have hlen : ((c :: d :: e :: r).length : Int) = r.length + 3 := by simp; omega
    simp only [hc, hlen]
    by_cases c61 : c.toNat = 61
    · have hz : ((c.toNat : Int) != 61) = false := by rw [c61]; rfl
      rw [hz]
      have body : ∀ v ok, v = (wrap64 ((wrap64 (16 * hv d)) + hv e)) % 256 → ok = (decide (0 ≤ hv d) && decide (0 ≤ hv e)) → Ev (fun k => impl_hexOf.j0 k (S (c :: d :: e :: r)) false) (v, ok) := by
        intro v ok hv' hok
        refine Ev.step (fun k => by rw [impl_hexOf.j0]) ?_
        simp only [size_S, hexs_S, hd, he, hlen]
        refine ev_neg (by decide) (ev_pos (by omega) ?_)
        refine ev_bind0 (index_hex d) (ev_pos (by omega) ?_)
        refine ev_bind0 (index_hex e) ?_
        rw [hv', hok]
        by_cases h : hv d ≥ 0
        · refine ev_pos h (ev_is ?_)
          rw [decide_eq_true (show 0 ≤ hv d from h), Bool.true_and]
        · refine ev_neg h (ev_is ?_)
          rw [decide_eq_false (show ¬ 0 ≤ hv d from h), Bool.false_and]
      refine ⟨_, _, ev_neg (by omega) (ev_pos (by omega) (body _ _ rfl rfl)), ?_, ?_⟩
      · intro b r' h
        rw [hexO, if_pos c61] at h
        cases hx : hexv d with
        | none => rw [hx] at h; cases h
        | some x =>
          cases hy : hexv e with
          | none => rw [hx, hy] at h; cases h
          | some y =>
            rw [hx, hy] at h
            have h1 : UInt8.ofNat (16 * x + y) = b := congrArg Prod.fst (Option.some.inj h)
            rw [hv_some hx, hv_some hy, ← h1, hex_val (hexv_lt hx) (hexv_lt hy)]
            exact ⟨by simp, rfl⟩
      · intro h
        rw [hexO, if_pos c61] at h
        cases hx : hexv d with
        | none => rw [hv_none hx]; rfl
        | some x =>
          cases hy : hexv e with
          | none => rw [hv_none hy]; simp
          | some y => rw [hx, hy] at h; cases h
    · have hz : ((c.toNat : Int) != 61) = true := by
        rw [bne_iff_ne]
        omega
      rw [hz]
      refine ⟨0, false, ev_neg (by omega) (ev_pos (by omega) (j0 _)), ?_, fun _ => rfl⟩
      intro b r' h
      rw [hexO, if_neg c61] at h
      cases h


theorem unq_hexO {l : List UInt8} (h61 : l.head? = some 61) (h2 : 2 ≤ l.length) : unq l = match hexO l with
    | some (b, r) => (unq r).map fun p => (b :: p.1, p.2)
    | none => none := by
  match l, h61, h2 with
  | [c, d], h, _ =>
    have : c = 61 := Option.some.inj h
    subst this
    rfl
  | c :: d :: e :: r, h, _ =>
    have : c = 61 := Option.some.inj h
    subst this
    rw [unq, if_pos (by decide), hexO, if_pos (by decide)]
    cases hexv d with
    | none => rfl
    | some x => cases hexv e <;> rfl
theorem hexO_drop {l r : List UInt8} {b : UInt8} (h : hexO l = some (b, r)) : 3 ≤ l.length ∧ r = l.drop 3 := by
  match l with
  | [] => cases h
  | [_] => cases h
  | [_, _] => cases h
  | c :: d :: e :: t =>
    refine ⟨by simp, ?_⟩
    by_cases c61 : c.toNat = 61
    · rw [hexO, if_pos c61] at h
      cases hx : hexv d with
      | none => rw [hx] at h; cases h
      | some x =>
        cases hy : hexv e with
        | none => rw [hx, hy] at h; cases h
        | some y =>
          rw [hx, hy] at h
          have h1 : t = r := congrArg Prod.snd (Option.some.inj h)
          exact h1.symm
    · rw [hexO, if_neg c61] at h
      cases h

theorem impl_line (l : List UInt8) (L : List ByteArray) (n i : Int) (R : ByteArray × Bool) (hl : l.length ≤ 1048576) : ∀ (e j : Nat) (acc : List UInt8), l.length ≤ j + e → j ≤ l.length → acc.length ≤ 2000000000000 + j →
    (∀ s g, unq (l.drop j) = some (s, g) → Ev (fun k => impl_DecodeQuoted.l0 k (NB (acc ++ s)) g L n (wrap64 (i + 1))) R) → (unq (l.drop j) = none → R = (S [], false)) →
    Ev (fun k => impl_DecodeQuoted.l1 k (NB acc) false (S l) (j : Int) L n i) R := by
  intro e
  induction e with
  | zero =>
    intro j acc hj hj2 _ h1 h2
    refine Ev.step (fun k => by rw [impl_DecodeQuoted.l1]) ?_
    simp only [size_S]
    refine ev_neg (by omega) ?_
    rw [List.drop_of_length_le (by omega)] at h1
    have := h1 [] false rfl
    rwa [List.append_nil] at this
  | succ e ih =>
    intro j acc hj hj2 ha h1 h2
    by_cases hlt : j < l.length
    · have hg : l.getD j 0 = l[j] := by rw [List.getD_eq_getElem?_getD, List.getElem?_eq_getElem hlt]; rfl
      have w1 : wrap64 ((j : Int) + 1) = ((j + 1 : Nat) : Int) := by rw [w64 (by omega) (by omega)]; omega
      have w2 : wrap64 ((j : Int) + 2) = ((j + 2 : Nat) : Int) := by rw [w64 (by omega) (by omega)]; omega
      have w3 : wrap64 (((j + 2 : Nat) : Int) + 1) = ((j + 3 : Nat) : Int) := by rw [w64 (by omega) (by omega)]; omega
      refine Ev.step (fun k => by rw [impl_DecodeQuoted.l1]) ?_
      simp only [size_S, w1, bt_S, Int.toNat_natCast, hg]
      refine ev_pos (by omega) (ev_pos (by omega) ?_)
      by_cases c61 : (l[j].toNat : Int) = 61
      · refine ev_pos c61 ?_
        have c61' : l[j] = 61 := (u8_is (n := 61) (by omega)).1 c61
        refine Ev.step (fun k => by rw [impl_DecodeQuoted.j3]) ?_
        by_cases hend : j + 1 = l.length
        · have hz : (((j + 1 : Nat) : Int) == (l.length : Int)) = true := by rw [hend]; simp
          rw [hz]
          refine ev_pos rfl ?_
          simp only [w1]
          refine Ev.step (fun k => by rw [impl_DecodeQuoted.l1]) ?_
          simp only [size_S]
          refine ev_neg (by omega) ?_
          rw [drop_cons hlt, List.drop_of_length_le (by omega), c61'] at h1
          have := h1 [] true rfl
          rwa [List.append_nil] at this
        · have hz : (((j + 1 : Nat) : Int) == (l.length : Int)) = false := by
            rw [beq_eq_false_iff_ne]
            omega
          rw [hz]
          simp only [size_S, bt_S, Int.toNat_natCast, hg, w1, w2, w3, extract_S, NB_length, S0]
          refine ev_neg (by decide) (ev_pos (by omega) (ev_pos (by omega) (ev_pos c61 (ev_pos (by omega) ?_))))
          have hx : (l.drop j).take (l.length - j) = l.drop j := List.take_of_length_le (by rw [List.length_drop]; omega)
          rw [hx]
          have hu := unq_hexO (l := l.drop j) (by rw [drop_cons hlt, c61']; rfl) (by rw [List.length_drop]; omega)
          obtain ⟨v, ok, hev, hs, hno⟩ := impl_hexof (l.drop j)
          refine Ev.bind hev ?_
          cases ho : hexO (l.drop j) with
          | none =>
            rw [ho] at hu
            rw [hno ho]
            exact ev_neg (by simp) (ev_is (by rw [h2 hu]))
          | some p =>
            obtain ⟨b, r⟩ := p
            rw [ho] at hu
            obtain ⟨k1, k2⟩ := hs b r ho
            obtain ⟨k3, k4⟩ := hexO_drop ho
            rw [List.length_drop] at k3
            rw [List.drop_drop] at k4
            rw [k1, k2, NB_snoc]
            simp only at hu
            refine ev_pos rfl (ev_pos (by omega) ?_)
            refine ih (j + 3) (acc ++ [b]) (by omega) (by omega) (by simp; omega) ?_ ?_
            · intro s g hsg
              rw [k4, hsg] at hu
              have := h1 (b :: s) g hu
              simpa using this
            · intro hno'
              rw [k4, hno'] at hu
              exact h2 hu
      · refine ev_neg c61 ?_
        refine Ev.step (fun k => by rw [impl_DecodeQuoted.j3]) ?_
        simp only [size_S, bt_S, Int.toNat_natCast, hg, w1, NB_length, S0]
        refine ev_neg (by decide) (ev_pos (by omega) (ev_pos (by omega) (ev_neg c61 ?_)))
        by_cases hp : 32 ≤ l[j].toNat ∧ l[j].toNat ≤ 126
        · have hu := unq_plain (c := l[j]) (r := l.drop (j + 1)) (by omega) hp.1 hp.2
          rw [← drop_cons hlt] at hu
          refine ev_pos (by omega) (ev_pos (by omega) (ev_pos (by omega) ?_))
          rw [NB_snoc]
          refine ih (j + 1) (acc ++ [l[j]]) (by omega) (by omega) (by simp; omega) ?_ ?_
          · intro s g hsg
            rw [hsg] at hu
            have := h1 (l[j] :: s) g hu
            simpa using this
          · intro hno'
            rw [hno'] at hu
            exact h2 hu
        · have hu := unq_bad (c := l[j]) (r := l.drop (j + 1)) (by omega) hp
          rw [← drop_cons hlt] at hu
          rw [h2 hu]
          by_cases h3 : (l[j].toNat : Int) ≥ 32
          · exact ev_pos h3 (ev_neg (by omega) (Ev.now _))
          · exact ev_neg h3 (Ev.now _)
    · refine Ev.step (fun k => by rw [impl_DecodeQuoted.l1]) ?_
      simp only [size_S]
      refine ev_neg (by omega) ?_
      rw [List.drop_of_length_le (by omega)] at h1
      have := h1 [] false rfl
      rwa [List.append_nil] at this

theorem big (a i n : Nat) (h : a ≤ i * 1048577 + 1) (h1 : i < n) (h2 : n ≤ 1048576) : a ≤ 2000000000000 + 0 := by omega
theorem impl_decq_loop (ls : List (List UInt8)) (hn : ls.length ≤ 1048576) (hb : ∀ l ∈ ls, l.length ≤ 1048576) : ∀ (e i : Nat) (acc : List UInt8) (goes : Bool), i + e = ls.length → acc.length ≤ i * 1048577 →
    Ev (fun k => impl_DecodeQuoted.l0 k (NB acc) goes (SL ls) (ls.length : Int) (i : Int)) (finR acc (decL (ls.drop i) goes)) := by
  intro e
  induction e with
  | zero =>
    intro i acc goes hi ha
    refine Ev.step (fun k => by rw [impl_DecodeQuoted.l0]) ?_
    simp only [NB_length, NB_str, S0]
    rw [List.drop_of_length_le (by omega)]
    refine ev_neg (by omega) ?_
    cases goes with
    | true => exact ev_pos rfl (Ev.now _)
    | false =>
      refine ev_neg (by decide) ?_
      by_cases h3 : acc.length ≤ 300
      · refine ev_neg (by omega) (ev_is ?_)
        show _ = some (finR acc (some []))
        unfold finR
        simp only [List.append_nil]
        rw [if_pos h3]
      · exact ev_pos (by omega) (ev_eq (finR_long _ _ (by omega)) (Ev.now _))
  | succ e ih =>
    intro i acc goes hi ha
    have hlt : i < ls.length := by omega
    have hli := hb ls[i] (List.getElem_mem hlt)
    have w1 : wrap64 ((i : Int) + 1) = ((i + 1 : Nat) : Int) := by rw [w64 (by omega) (by omega)]; omega
    have line : ∀ acc' : List UInt8, acc'.length ≤ i * 1048577 + 1 → Ev (fun k => impl_DecodeQuoted.j1 k (NB acc') (S ls[i]) (SL ls) (ls.length : Int) (i : Int)) (finR acc' (decL (ls.drop i) true)) := by
      intro acc' ha'
      refine Ev.step (fun k => by rw [impl_DecodeQuoted.j1]) ?_
      rw [List.drop_eq_getElem_cons hlt]
      refine impl_line ls[i] (SL ls) (ls.length : Int) (i : Int) _ hli ls[i].length 0 acc' (by omega) (by omega) (big _ _ _ ha' hlt hn) ?_ ?_
      · intro s g h
        rw [List.drop_zero] at h
        have := unq_length _ _ _ _ (Nat.le_refl _) h
        rw [decL_some h, ← finR_app, w1]
        exact ih (i + 1) (acc' ++ s) g (by omega) (by rw [List.length_append]; omega)
      · intro h
        rw [List.drop_zero] at h
        rw [decL_none h]
        rfl
    refine Ev.step (fun k => by rw [impl_DecodeQuoted.l0]) ?_
    simp only [SL_length, rdOf_SL _ ls i hlt, NB_length]
    refine ev_pos (by omega) (ev_pos (by omega) (ev_pos (by omega) ?_))
    cases goes with
    | true => exact ev_pos rfl (line acc (Nat.le_succ_of_le ha))
    | false =>
      refine ev_neg (by decide) (ev_pos (by omega) ?_)
      have e1 : NB acc ++ [10] = NB (acc ++ [10]) := NB_snoc acc 10
      have e2 : finR acc (decL (ls.drop i) false) = finR (acc ++ [10]) (decL (ls.drop i) true) := by
        rw [finR_app acc, List.drop_eq_getElem_cons hlt, decL_hard]
      rw [e1, e2]
      exact line _ (by rw [List.length_append]; exact Nat.succ_le_succ ha)

theorem impl_decq (ls : List (List UInt8)) (hn : ls.length ≤ 1048576) (hb : ∀ l ∈ ls, l.length ≤ 1048576) : Ev (fun k => impl_DecodeQuoted.f k (SL ls)) (decR ls) := by
  simp only [impl_DecodeQuoted.f, NB_nil, SL_length]
  have := impl_decq_loop ls hn hb ls.length 0 [] true (by omega) (by simp)
  rwa [List.drop_zero] at this

theorem impl_text (s : List UInt8) (hl : s.length ≤ 1000000000000) : Ev (fun k => impl_TextValid.f k (S s)) (decide (textOK s)) := by
  simp only [impl_TextValid.f, size_S]
  have loop : ∀ (e i : Nat), i + e = s.length → (∀ j (h : j < s.length), j < i → 32 ≤ s[j].toNat ∧ s[j].toNat ≤ 126) → Ev (fun k => impl_TextValid.l0 k (S s) (s.length : Int) (i : Int)) (decide (textOK s)) := by
    intro e
    induction e with
    | zero =>
      intro i hi hp
      have e1 : decide ((s.length : Int) ≤ 200) = decide (textOK s) := by
        rw [decide_eq_decide]
        constructor
        · intro q
          refine ⟨by omega, fun c hc => ?_⟩
          obtain ⟨j, hj, rfl⟩ := List.mem_iff_getElem.1 hc
          exact hp j hj (by omega)
        · intro q
          have := q.1
          omega
      refine Ev.step (fun k => by rw [impl_TextValid.l0]) ?_
      rw [size_S, e1]
      exact ev_neg (by omega) (Ev.now _)
    | succ e ih =>
      intro i hi hp
      have hlt : i < s.length := by omega
      have hg : s.getD i 0 = s[i] := by rw [List.getD_eq_getElem?_getD, List.getElem?_eq_getElem hlt]; rfl
      have w : wrap64 ((i : Int) + 1) = ((i + 1 : Nat) : Int) := by rw [w64 (by omega) (by omega)]; omega
      refine Ev.step (fun k => by rw [impl_TextValid.l0]) ?_
      simp only [size_S, bt_S, Int.toNat_natCast, hg, w]
      refine ev_pos (by omega) (ev_pos (by omega) (ev_pos (by omega) ?_))
      by_cases hc : 32 ≤ s[i].toNat ∧ s[i].toNat ≤ 126
      · refine ev_neg (by omega) (ev_neg (by omega) (ih (i + 1) (by omega) ?_))
        intro j hj hji
        by_cases q : j = i
        · subst q
          exact hc
        · exact hp j hj (by omega)
      · have e1 : decide (textOK s) = false := decide_eq_false (fun q => hc (q.2 s[i] (List.getElem_mem hlt)))
        rw [e1]
        by_cases h3 : (s[i].toNat : Int) < 32
        · exact ev_pos h3 (Ev.now _)
        · exact ev_neg h3 (ev_pos (by omega) (Ev.now _))
  exact loop s.length 0 (by omega) (fun j _ h => by omega)

theorem impl_plain (ls : List (List UInt8)) (hn : ls.length ≤ 1048576) (hb : ∀ l ∈ ls, l.length ≤ 1048576) : Ev (fun k => impl_arePlain.f k (SL ls)) (decide (ls ≠ [] ∧ ∀ l ∈ ls, okL l)) := by
  have hk : ∀ ms : List (List UInt8), (∀ l ∈ ms, l.length ≤ 1048576) → ∃ k, ∀ l ∈ ms, ∀ j, k ≤ j → impl_TextValid.f j (S l) = some (decide (textOK l)) := by
    intro ms
    induction ms with
    | nil => intro _; exact ⟨0, fun l hl => by cases hl⟩
    | cons x r ih =>
      intro h
      obtain ⟨k1, h1⟩ := ih (fun l hl => h l (by simp [hl]))
      obtain ⟨k2, h2⟩ := impl_text x (by have := h x (by simp); omega)
      refine ⟨max k1 k2, fun l hl j hj => ?_⟩
      rcases List.mem_cons.1 hl with hl | hl
      · rw [hl]; exact h2 j (by omega)
      · exact h1 l hl j (by omega)
  obtain ⟨k, hk⟩ := hk ls hb
  refine ⟨k, fun j hj => ?_⟩
  have hv : ∀ x ∈ SL ls, ∃ l ∈ ls, x = S l ∧ impl_TextValid.f j x = some (decide (textOK l)) := by
    intro x hx
    obtain ⟨l, hl, rfl⟩ := List.mem_map.1 hx
    exact ⟨l, hl, rfl, hk l hl j hj⟩
  show impl_arePlain.f j (SL ls) = some _
  unfold impl_arePlain.f
  rw [if_pos ⟨fun x hx => by obtain ⟨l, _, _, h⟩ := hv x hx; rw [h]; rfl, by rw [SL_length]; omega⟩]
  refine congrArg some ?_
  rw [SL_length, Bool.eq_iff_iff]
  simp only [Bool.and_eq_true, decide_eq_true_eq, Bool.not_eq_true', List.any_eq_false]
  constructor
  · rintro ⟨h1, h2⟩
    refine ⟨fun q => by rw [q] at h1; exact absurd h1 (by simp), fun l hl => ?_⟩
    have h3 := h2 (S l) (List.mem_map_of_mem hl)
    unfold impl_arePlain.p at h3
    rw [hk l hl j hj, Option.getD_some, size_S] at h3
    simp only [Bool.or_eq_true, Bool.not_eq_true', decide_eq_false_iff_not, decide_eq_true_eq, not_or, Decidable.not_not] at h3
    exact ⟨h3.1, by omega⟩
  · rintro ⟨h1, h2⟩
    refine ⟨List.length_pos_iff.2 h1, fun x hx => ?_⟩
    obtain ⟨l, hl, rfl, h⟩ := hv x hx
    have h3 := h2 l hl
    unfold impl_arePlain.p
    rw [h, Option.getD_some, size_S]
    simp only [Bool.or_eq_true, Bool.not_eq_true', decide_eq_false_iff_not, decide_eq_true_eq, not_or, Decidable.not_not]
    exact ⟨h3.1, by have := h3.2; omega⟩
theorem join_len (ls : List (List UInt8)) (hn : ls.length ≤ 1048576) (hb : ∀ l ∈ ls, l.length ≤ 1048576) : (Lib.join ls [10]).length ≤ 140737488355328 := by
  cases ls with
  | nil => simp [Lib.join_nil]
  | cons x r =>
    have e : Lib.join (x :: r) [10] = x ++ tailL r := Lib.join_cons x r [10]
    have ht : ∀ m : List (List UInt8), (∀ l ∈ m, l.length ≤ 1048576) → (tailL m).length ≤ 1048577 * m.length := by
      intro m
      induction m with
      | nil => intro _; simp [tailL]
      | cons y t ih =>
        intro h
        have h1 := ih (fun l hl => h l (by simp [hl]))
        have h2 := h y (by simp)
        rw [tailL_cons]
        simp only [List.length_append, List.length_cons, List.length_nil]
        omega
    have h1 := ht r (fun l hl => hb l (by simp [hl]))
    have h2 := hb x (by simp)
    simp only [List.length_cons] at hn
    rw [e, List.length_append]
    omega
theorem impl_bytes3 (ls : List (List UInt8)) (c : Int) (hn : ls.length ≤ 1048576) (hb : ∀ l ∈ ls, l.length ≤ 1048576) (hf : ls.flatten.length ≤ 2000000000000) : Ev (fun k => impl_DecodeBytes.f k (SL ls) c) (decB3 ls c) := by
  have e0 : (⟨#[]⟩ : ByteArray) = S [] := rfl
  simp only [impl_DecodeBytes.f, e0]
  unfold decB3
  by_cases hc : c = 0
  · have hj : strings_Join.f (SL ls) (⟨#[10]⟩ : ByteArray) = some (S (Lib.join ls [10])) := by
      have em : (SL ls).map (·.data.toList) = ls := by
        unfold SL
        rw [List.map_map]
        exact List.map_id ls
      unfold strings_Join.f
      rw [em]
      have e10 : (⟨#[10]⟩ : ByteArray).data.toList = [10] := rfl
      rw [e10, if_pos ⟨by rw [SL_length]; omega, join_len ls hn hb⟩]
      rfl
    rw [if_neg (by omega), if_neg (by omega), if_pos hc, hj]
    refine ev_pos hc ?_
    simp only [Option.bind_some, size_S]
    by_cases h3 : (Lib.join ls [10]).length ≤ 300
    · by_cases h4 : ls ≠ [] ∧ ∀ l ∈ ls, okL l
      · have c1 : ls ≠ [] ∧ (∀ l ∈ ls, okL l) ∧ (Lib.join ls [10]).length ≤ 300 := ⟨h4.1, h4.2, h3⟩
        have er : plainR ls = (S (Lib.join ls [10]), true) := by unfold plainR; rw [if_pos c1]
        have hp := impl_plain ls hn hb
        rw [decide_eq_true h4] at hp
        rw [er]
        exact ev_neg (by omega) (Ev.bind hp (ev_pos rfl (Ev.now _)))
      · have c1 : ¬ (ls ≠ [] ∧ (∀ l ∈ ls, okL l) ∧ (Lib.join ls [10]).length ≤ 300) := fun z => h4 ⟨z.1, z.2.1⟩
        have er : plainR ls = (S [], false) := by unfold plainR; rw [if_neg c1]
        have hp := impl_plain ls hn hb
        rw [decide_eq_false h4] at hp
        rw [er]
        exact ev_neg (by omega) (Ev.bind hp (ev_neg (by decide) (Ev.now _)))
    · have c1 : ¬ (ls ≠ [] ∧ (∀ l ∈ ls, okL l) ∧ (Lib.join ls [10]).length ≤ 300) := fun z => h3 z.2.2
      have er : plainR ls = (S [], false) := by unfold plainR; rw [if_neg c1]
      rw [er]
      exact ev_pos (by omega) (Ev.now _)
  · refine ev_neg hc ?_
    by_cases h1 : c = 1
    · rw [if_pos h1]
      exact ev_pos h1 (Ev.bind (impl_decq ls hn hb) (Ev.now _))
    rw [if_neg h1]
    refine ev_neg h1 ?_
    by_cases h2 : c = 2
    · rw [if_pos h2]
      exact ev_pos h2 (Ev.bind (impl_deb ls hn hf) (Ev.now _))
    rw [if_neg h2, if_neg hc]
    exact ev_neg h2 (Ev.now _)

theorem szs_loop (ls : List ByteArray) (hn : ls.length ≤ 1048576) (hz : ∀ s ∈ ls, s.size ≤ maxLen) : ∀ (e i : Nat) (x1 : Int), i + e = ls.length → 0 ≤ x1 → x1 ≤ 1048576 →
    ∃ r, Ev (fun k => laws_szStringS.l0 k ls x1 (i : Int)) r ∧ (r < 0 ∨ ∀ j, (h : j < ls.length) → i ≤ j → ls[j].size ≤ 1048576) := by
  intro e
  induction e with
  | zero =>
    intro i x1 hi h0 h1
    refine ⟨x1, Ev.step (fun k => by rw [laws_szStringS.l0]) (ev_neg (by omega) (Ev.now _)), Or.inr ?_⟩
    intro j h1 h2
    omega
  | succ e ih =>
    intro i x1 hi h0 h1
    have hlt : i < ls.length := by omega
    have hm : maxLen = 9223372036854775807 := rfl
    have hs := hz ls[i] (List.getElem_mem hlt)
    rw [hm] at hs
    have hr : rdOf ByteArray.empty ls (i : Int) = ls[i] := by
      unfold rdOf
      rw [List.getD_eq_getElem?_getD]
      simp [hlt]
    have w1 : wrap64 ((i : Int) + 1) = ((i + 1 : Nat) : Int) := by rw [w64 (by omega) (by omega)]; omega
    have w2 : wrap64 (x1 - (ls[i].size : Int)) = x1 - (ls[i].size : Int) := w64 (by omega) (by omega)
    by_cases hneg : x1 - (ls[i].size : Int) < 0
    · refine ⟨-1, Ev.step (fun k => by rw [laws_szStringS.l0]) ?_, Or.inl (by omega)⟩
      simp only [hr, w2]
      exact ev_pos (by omega) (ev_pos (by omega) (ev_pos hneg (Ev.now _)))
    · obtain ⟨r, hev, hp⟩ := ih (i + 1) (x1 - (ls[i].size : Int)) (by omega) (by omega) (by omega)
      refine ⟨r, Ev.step (fun k => by rw [laws_szStringS.l0]) ?_, ?_⟩
      · simp only [hr, w2, w1]
        exact ev_pos (by omega) (ev_pos (by omega) (ev_neg hneg hev))
      · rcases hp with hp | hp
        · exact Or.inl hp
        · refine Or.inr fun j hj hij => ?_
          by_cases hji : j = i
          · subst hji
            omega
          · exact hp j hj (by omega)

theorem szs (ls : List ByteArray) (hn : ls.length ≤ maxLen) (hz : ∀ s ∈ ls, s.size ≤ maxLen) :
    ∃ r, Ev (fun k => laws_szStringS.f k ls 1048576) r ∧ (r < 0 ∨ (ls.length ≤ 1048576 ∧ ∀ s ∈ ls, s.size ≤ 1048576)) := by
  simp only [laws_szStringS.f]
  have hm : maxLen = 9223372036854775807 := rfl
  rw [hm] at hn
  have w : wrap64 (1048576 - (ls.length : Int)) = 1048576 - (ls.length : Int) := w64 (by omega) (by omega)
  rw [w]
  by_cases h : (1048576 - (ls.length : Int)) < 0
  · exact ⟨-1, ev_pos h (Ev.now _), Or.inl (by omega)⟩
  · obtain ⟨r, hev, hp⟩ := szs_loop ls (by omega) hz ls.length 0 (1048576 - (ls.length : Int)) (by omega) (by omega) (by omega)
    refine ⟨r, ev_neg h hev, ?_⟩
    rcases hp with hp | hp
    · exact Or.inl hp
    · refine Or.inr ⟨by omega, fun s hs => ?_⟩
      obtain ⟨j, hj, rfl⟩ := List.mem_iff_getElem.1 hs
      exact hp j hj (Nat.zero_le _)

theorem tos_loop (ls : List ByteArray) (hn : ls.length ≤ 1048576) (z : ByteArray) : ∀ (e i : Nat), i + e = ls.length →
    Ev (fun k => laws_toStringS.l0 k ls (ls.take i ++ List.replicate e z) (i : Int)) ls := by
  intro e
  induction e with
  | zero =>
    intro i hi
    refine Ev.step (fun k => by rw [laws_toStringS.l0]) ?_
    refine ev_neg (by omega) (ev_is ?_)
    rw [List.take_of_length_le (by omega)]
    simp
  | succ e ih =>
    intro i hi
    have hlt : i < ls.length := by omega
    have hr : rdOf ByteArray.empty ls (i : Int) = ls[i] := by
      unfold rdOf
      rw [List.getD_eq_getElem?_getD]
      simp [hlt]
    have w1 : wrap64 ((i : Int) + 1) = ((i + 1 : Nat) : Int) := by rw [w64 (by omega) (by omega)]; omega
    have hlen : (ls.take i).length = i := by rw [List.length_take]; omega
    have hset : (ls.take i ++ List.replicate (e + 1) z).set i ls[i] = ls.take (i + 1) ++ List.replicate e z := by
      rw [List.set_append_right _ _ (by omega), hlen, Nat.sub_self, List.replicate_succ, List.set_cons_zero, List.take_succ_eq_append_getElem hlt, List.append_assoc]
      rfl
    refine Ev.step (fun k => by rw [laws_toStringS.l0]) ?_
    simp only [hr, w1, Int.toNat_natCast, hset]
    refine ev_pos (by omega) (ev_pos (by omega) (ev_pos ?_ (ih (i + 1) (by omega))))
    rw [List.length_append, hlen, List.length_replicate]
    omega
theorem tos (ls : List ByteArray) (hn : ls.length ≤ 1048576) : Ev (fun k => laws_toStringS.f k ls) ls := by
  simp only [laws_toStringS.f, Int.toNat_natCast]
  have := tos_loop ls hn (⟨#[]⟩ : ByteArray) ls.length 0 (by omega)
  rw [List.take_zero, List.nil_append] at this
  exact ev_pos (by omega) (ev_pos (by omega) this)

theorem eqss_loop (ls : List ByteArray) (hn : ls.length ≤ 1048576) : ∀ (e i : Nat), i + e = ls.length → Ev (fun k => laws_eqStringS.l0 k ls ls (i : Int)) true := by
  intro e
  induction e with
  | zero =>
    intro i hi
    refine Ev.step (fun k => by rw [laws_eqStringS.l0]) ?_
    exact ev_neg (by omega) (Ev.now _)
  | succ e ih =>
    intro i hi
    have w1 : wrap64 ((i : Int) + 1) = ((i + 1 : Nat) : Int) := by rw [w64 (by omega) (by omega)]; omega
    refine Ev.step (fun k => by rw [laws_eqStringS.l0]) ?_
    simp only [w1]
    exact ev_pos (by omega) (ev_pos (by omega) (ev_pos (by omega) (ev_pos trivial (ih (i + 1) (by omega)))))
theorem eqss (ls : List ByteArray) (hn : ls.length ≤ 1048576) : Ev (fun k => laws_eqStringS.f k ls ls) true := by
  simp only [laws_eqStringS.f]
  exact ev_pos trivial (eqss_loop ls hn ls.length 0 (by omega))

theorem FnExactDecodeBytes : laws_FnExactDecodeBytes.Pure := by
  intro l0 a1 hn hz _
  refine Ev.rounds ?_
  simp only [laws_FnExactDecodeBytes.f]
  obtain ⟨r, hr, hp⟩ := szs l0 hn hz
  refine Ev.bind hr ?_
  rcases hp with hp | ⟨h1, h2⟩
  · exact ev_pos hp (Ev.now _)
  obtain ⟨ls, rfl⟩ := ex_SL l0
  have h1' : ls.length ≤ 1048576 := by rw [SL_length] at h1; exact h1
  have h2' : ∀ l ∈ ls, l.length ≤ 1048576 := by
    intro l hl
    have := h2 (S l) (List.mem_map_of_mem hl)
    rwa [size_S] at this
  have hf : ls.flatten.length ≤ 2000000000000 := by
    have h := flat_len ls 1048576 h2'
    have : ls.length * 1048576 ≤ 1048576 * 1048576 := Nat.mul_le_mul_right _ h1'
    omega
  by_cases hneg : r < 0
  · exact ev_pos hneg (Ev.now _)
  refine ev_neg hneg (Ev.bind (tos _ h1) ?_)
  refine Ev.bind (spec_bytes3 ls a1 h1' h2') ?_
  refine Ev.bind (tos _ h1) (Ev.bind (impl_bytes3 ls a1 h1' h2' hf) ?_)
  refine ev_pos rfl ?_
  have e : ((decB3 ls a1).2 != (decB3 ls a1).2) = false := by simp
  rw [e]
  refine Ev.step (fun k => by rw [laws_FnExactDecodeBytes.j0]) ?_
  refine ev_neg (by decide) (Ev.bind (tos _ h1) (Ev.bind (eqss _ h1) ?_))
  exact ev_pos rfl (Ev.now _)

end Go.Proofs.Ytdkgbemlfajhcaa.PLFnExactDecodeBytes
namespace Go.Proofs.Ytdkgbemlfajhcaa.Pure
open Go.Proofs.Ytdkgbemlfajhcaa.PFnExactDecodeBytes
theorem FnExactDecodeBytes : laws_FnExactDecodeBytes.Pure := PLFnExactDecodeBytes.FnExactDecodeBytes
end Go.Proofs.Ytdkgbemlfajhcaa.Pure
