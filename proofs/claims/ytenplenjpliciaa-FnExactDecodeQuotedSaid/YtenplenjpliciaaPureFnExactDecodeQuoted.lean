/- The law FnExactDecodeQuoted holds of the printed functions: quoted lines are read as told. No conditions. -/
import Derived.Test.YtenplenjpliciaaPFnExactDecodeQuotedx4
import Derived.Test.YtenplenjpliciaaMBase
import Derived.Test.YtenplenjpliciaaMStr
import Derived.Test.YtenplenjpliciaaMQuot
import Derived.Test.YtenplenjpliciaaMDecQ
namespace Go.Proofs.Ytenplenjpliciaa.PLFnExactDecodeQuoted
open Go.RowKit Go.Proofs.Ytenplenjpliciaa.PFnExactDecodeQuoted Go.Proofs.YtenplenjpliciaaW.PrintWords Go.Proofs.YtenplenjpliciaaW.PrintLast Go.Proofs.YtenplenjpliciaaW.PrintMore Go.Proofs.Ytenplenjpliciaa.M

/-- A digit's number as the program has it. -/
def hv (c : UInt8) : Int := match hexv c with | some n => (n : Int) | none => -1
theorem hv_some {c : UInt8} {n : Nat} (h : hexv c = some n) : hv c = (n : Int) := by unfold hv; rw [h]
theorem hv_none {c : UInt8} (h : hexv c = none) : hv c = -1 := by unfold hv; rw [h]
theorem spec_value (c : UInt8) : Ev (fun k => spec_l5Value.f k (c.toNat : Int)) (hv c) := by
  have hc := c.toNat_lt
  simp only [spec_l5Value.f]
  have j : ∀ b, b = decide (48 ≤ c.toNat ∧ c.toNat ≤ 57) → Ev (fun k => spec_l5Value.j0 k (c.toNat : Int) b) (hv c) := by
    intro b hb
    refine Ev.step (fun k => by rw [spec_l5Value.j0]) ?_
    by_cases h : 48 ≤ c.toNat ∧ c.toNat ≤ 57
    · have e : hexv c = some (c.toNat - 48) := by unfold hexv; rw [if_pos h]
      rw [hv_some e]
      refine ev_pos (by rw [hb]; simp [h]) (ev_is (congrArg some ?_))
      omega
    · refine ev_neg (by rw [hb]; simp; omega) ?_
      by_cases h2 : 65 ≤ c.toNat ∧ c.toNat ≤ 70
      · have e : hexv c = some (c.toNat - 55) := by unfold hexv; rw [if_neg h, if_pos h2]
        rw [hv_some e]
        refine ev_pos (by omega) (ev_pos (by omega) (ev_is (congrArg some ?_)))
        omega
      · have e : hexv c = none := by unfold hexv; rw [if_neg h, if_neg h2]
        rw [hv_none e]
        by_cases h3 : 65 ≤ c.toNat
        · exact ev_pos (by omega) (ev_neg (by omega) (Ev.now _))
        · exact ev_neg (by omega) (Ev.now _)
  by_cases h : 48 ≤ c.toNat
  · refine ev_pos (by omega) (j _ ?_)
    rw [decide_eq_decide]
    omega
  · refine ev_neg (by omega) (j _ ?_)
    symm
    rw [decide_eq_false_iff_not]
    omega

/-- Bytes as numbers. -/
def NB (l : List UInt8) : List Int := l.map fun c => (c.toNat : Int)
theorem NB_length (l : List UInt8) : (NB l).length = l.length := by unfold NB; simp
theorem NB_str (l : List UInt8) : strOfNums (NB l) = S l := by
  rw [strOfNums_S]
  unfold NB
  rw [List.map_map]
  have : ((fun n : Int => UInt8.ofNat n.toNat) ∘ fun c : UInt8 => (c.toNat : Int)) = id := by
    funext c
    exact u8_of c
  rw [this]
  simp
theorem NB_snoc (l : List UInt8) (c : UInt8) : NB l ++ [(c.toNat : Int)] = NB (l ++ [c]) := by unfold NB; simp
theorem NB_nil : ([] : List Int) = NB [] := rfl

def unqR (acc : List UInt8) (o : Option (List UInt8 × Bool)) : ByteArray × Bool × Bool := match o with | some p => (S (acc ++ p.1), p.2, true) | none => (S [], false, false)
theorem unqR_cons (acc : List UInt8) (c : UInt8) (o : Option (List UInt8 × Bool)) : unqR (acc ++ [c]) o = unqR acc (o.map fun p => (c :: p.1, p.2)) := by
  cases o with
  | none => rfl
  | some p => show (S _, _, _) = (S _, _, _); simp

theorem hex_val {x y : Nat} (hx : x < 16) (hy : y < 16) : (wrap64 ((wrap64 (16 * (x : Int))) + (y : Int))) % 256 = ((UInt8.ofNat (16 * x + y)).toNat : Int) := by
  have w : wrap64 (16 * (x : Int)) = 16 * (x : Int) := w64 (by omega) (by omega)
  rw [w, w64 (by omega) (by omega), UInt8.toNat_ofNat']
  omega

theorem spec_unq_loop (l : List UInt8) (hl : l.length ≤ 1048576) : ∀ (e i : Nat) (acc : List UInt8), l.length ≤ i + e → i ≤ l.length → acc.length ≤ i →
    Ev (fun k => spec_l5Unquote.l0 k (S l) (NB acc) (i : Int)) (unqR acc (unq (l.drop i))) := by
  intro e
  induction e with
  | zero =>
    intro i acc hi hi2 _
    refine Ev.step (fun k => by rw [spec_l5Unquote.l0]) ?_
    simp only [size_S, NB_str]
    refine ev_neg (by omega) ?_
    rw [List.drop_of_length_le (by omega)]
    refine ev_is ?_
    show _ = some (S (acc ++ []), false, true)
    simp
  | succ e ih =>
    intro i acc hi hi2 ha
    refine Ev.step (fun k => by rw [spec_l5Unquote.l0]) ?_
    simp only [size_S, NB_str, NB_length, mk_S]
    by_cases hlt : i < l.length
    · have w1 : wrap64 ((i : Int) + 1) = ((i + 1 : Nat) : Int) := by rw [w64 (by omega) (by omega)]; omega
      have w2 : wrap64 ((i : Int) + 2) = ((i + 2 : Nat) : Int) := by rw [w64 (by omega) (by omega)]; omega
      have w3 : wrap64 (((i + 2 : Nat) : Int) + 1) = ((i + 3 : Nat) : Int) := by rw [w64 (by omega) (by omega)]; omega
      have hg : l.getD i 0 = l[i] := by rw [List.getD_eq_getElem?_getD, List.getElem?_eq_getElem hlt]; rfl
      simp only [w1, w2, bt_S, Int.toNat_natCast, hg]
      refine ev_pos (by omega) (ev_pos (by omega) ?_)
      by_cases c61 : (l[i].toNat : Int) = 61
      · refine ev_pos c61 ?_
        have c61' : l[i] = 61 := (u8_is (n := 61) (by omega)).1 c61
        by_cases h1 : ((i + 1 : Nat) : Int) = (l.length : Int)
        · refine ev_pos h1 ?_
          rw [drop_cons hlt, List.drop_of_length_le (by omega), c61']
          refine ev_is ?_
          show _ = some (S (acc ++ []), true, true)
          simp
        refine ev_neg h1 ?_
        have h1' : i + 1 < l.length := by omega
        by_cases h2 : ((i + 2 : Nat) : Int) ≥ (l.length : Int)
        · refine ev_pos h2 ?_
          rw [drop_cons hlt, drop_cons h1', List.drop_of_length_le (by omega), c61']
          refine Ev.step (fun k => by rw [spec_l5Unquote.j1]) ?_
          exact ev_pos rfl (Ev.now _)
        refine ev_neg h2 (ev_pos (by omega) (ev_pos (by omega) ?_))
        have h2' : i + 2 < l.length := by omega
        have hg1 : l.getD (i + 1) 0 = l[i + 1] := by rw [List.getD_eq_getElem?_getD, List.getElem?_eq_getElem h1']; rfl
        have hg2 : l.getD (i + 2) 0 = l[i + 2] := by rw [List.getD_eq_getElem?_getD, List.getElem?_eq_getElem h2']; rfl
        have bad : unq (l.drop i) = none → Ev (fun k => spec_l5Unquote.j1 k (S l) (NB acc) (i : Int) true) (unqR acc (unq (l.drop i))) := by
          intro h
          rw [h]
          refine Ev.step (fun k => by rw [spec_l5Unquote.j1]) ?_
          exact ev_pos rfl (Ev.now _)
        have shape : l.drop i = 61 :: l[i + 1] :: l[i + 2] :: l.drop (i + 3) := by rw [drop_cons hlt, drop_cons h1', drop_cons h2', c61']
        simp only [hg1, hg2]
        refine Ev.bind (spec_value l[i + 1]) ?_
        cases hx : hexv l[i + 1] with
        | none =>
          refine ev_pos (by rw [hv_none hx]; omega) (bad ?_)
          rw [shape, unq, if_pos (by decide), hx]
        | some x =>
          have hx' := hexv_lt hx
          refine ev_neg (by rw [hv_some hx]; omega) (ev_pos (by omega) (ev_pos (by omega) ?_))
          refine Ev.bind (spec_value l[i + 2]) ?_
          cases hy : hexv l[i + 2] with
          | none =>
            have : decide (hv l[i + 2] < 0) = true := by rw [hv_none hy]; rfl
            rw [this]
            refine bad ?_
            rw [shape, unq, if_pos (by decide), hx, hy]
          | some y =>
            have hy' := hexv_lt hy
            have : decide (hv l[i + 2] < 0) = false := by rw [hv_some hy, decide_eq_false_iff_not]; omega
            rw [this]
            refine Ev.step (fun k => by rw [spec_l5Unquote.j1]) ?_
            simp only [size_S, w1, w2, w3, bt_S, Int.toNat_natCast, hg1, hg2, NB_length]
            refine ev_neg (by decide) (ev_pos (by omega) (ev_pos (by omega) ?_))
            refine Ev.bind (spec_value l[i + 1]) (ev_pos (by omega) (ev_pos (by omega) ?_))
            refine Ev.bind (spec_value l[i + 2]) (ev_pos (by omega) ?_)
            rw [hv_some hx, hv_some hy, hex_val hx' hy', NB_snoc, shape, unq_hex hx hy, ← unqR_cons]
            exact ih (i + 3) _ (by omega) (by omega) (by simp; omega)
      · refine ev_neg c61 ?_
        by_cases hp : 32 ≤ l[i].toNat ∧ l[i].toNat ≤ 126
        · refine ev_neg (by omega) (ev_neg (by omega) (ev_pos (by omega) ?_))
          rw [NB_snoc, drop_cons hlt, unq_plain (by omega) hp.1 hp.2, ← unqR_cons]
          exact ih (i + 1) _ (by omega) (by omega) (by simp; omega)
        · rw [drop_cons hlt, unq_bad (by omega) hp]
          by_cases h3 : (l[i].toNat : Int) < 32
          · exact ev_pos h3 (Ev.now _)
          · exact ev_neg h3 (ev_pos (by omega) (Ev.now _))
    · refine ev_neg (by omega) ?_
      rw [List.drop_of_length_le (by omega)]
      refine ev_is ?_
      show _ = some (S (acc ++ []), false, true)
      simp

theorem spec_unq (l : List UInt8) (hl : l.length ≤ 1048576) : Ev (fun k => spec_l5Unquote.f k (S l)) (unqR [] (unq l)) := by
  simp only [spec_l5Unquote.f, NB_nil]
  have := spec_unq_loop l hl l.length 0 [] (by omega) (by omega) (by simp)
  rwa [List.drop_zero] at this

/-- What comes of bytes that are there and bytes to come. -/
def finR (acc : List UInt8) (o : Option (List UInt8)) : ByteArray × Bool := match o with
  | some t => if (acc ++ t).length ≤ 300 then (S (acc ++ t), true) else (S [], false)
  | none => (S [], false)
theorem finR_dec (ls : List (List UInt8)) : finR [] (decL ls true) = decR ls := rfl
theorem finR_app (acc s : List UInt8) (o : Option (List UInt8)) : finR (acc ++ s) o = finR acc (o.map fun t => s ++ t) := by
  cases o with
  | none => rfl
  | some t =>
    unfold finR
    simp only [Option.map_some, List.append_assoc]
theorem finR_long (acc : List UInt8) (o : Option (List UInt8)) (h : acc.length > 300) : finR acc o = (S [], false) := by
  cases o with
  | none => rfl
  | some t =>
    unfold finR
    exact if_neg (by rw [List.length_append]; omega)
theorem decL_hard (l : List UInt8) (ls : List (List UInt8)) : decL (l :: ls) false = (decL (l :: ls) true).map fun t => [10] ++ t := by
  unfold decL
  cases unq l with
  | none => rfl
  | some p => cases h : decL ls p.2 <;> simp [h]
theorem decL_none {l : List UInt8} {ls : List (List UInt8)} {b : Bool} (h : unq l = none) : decL (l :: ls) b = none := by
  unfold decL
  rw [h]
theorem decL_some {l s : List UInt8} {g : Bool} {ls : List (List UInt8)} (h : unq l = some (s, g)) : decL (l :: ls) true = (decL ls g).map fun t => s ++ t := by
  rw [decL, h]
  rfl
theorem unq_length : ∀ (n : Nat) (l s : List UInt8) (g : Bool), l.length ≤ n → unq l = some (s, g) → s.length ≤ l.length := by
  intro n
  induction n with
  | zero =>
    intro l s g hl h
    match l, hl with
    | [], _ =>
      have h1 : [] = s := congrArg Prod.fst (Option.some.inj h)
      rw [← h1]
      exact Nat.le_refl _
  | succ n ih =>
    intro l s g hl h
    have out : ∀ (c : UInt8) (r : List UInt8), r.length ≤ n → (unq r).map (fun p => (c :: p.1, p.2)) = some (s, g) → s.length ≤ r.length + 1 := by
      intro c r hr h
      cases hq : unq r with
      | none => rw [hq] at h; cases h
      | some p =>
        rw [hq] at h
        have h1 : c :: p.1 = s := congrArg Prod.fst (Option.some.inj h)
        have := ih r p.1 p.2 hr hq
        rw [← h1]
        show p.1.length + 1 ≤ _
        omega
    match l, hl with
    | [], _ =>
      have h1 : [] = s := congrArg Prod.fst (Option.some.inj h)
      rw [← h1]
      exact Nat.le_refl _
    | [c], hl =>
      by_cases c61 : c.toNat = 61
      · rw [unq, if_pos c61] at h
        have h1 : [] = s := congrArg Prod.fst (Option.some.inj h)
        rw [← h1]
        exact Nat.zero_le _
      · by_cases hp : 32 ≤ c.toNat ∧ c.toNat ≤ 126
        · rw [unq_plain c61 hp.1 hp.2] at h
          exact out c [] (Nat.zero_le _) h
        · rw [unq_bad c61 hp] at h
          cases h
    | [c, d], hl =>
      by_cases c61 : c.toNat = 61
      · rw [unq, if_pos c61] at h
        cases h
      · by_cases hp : 32 ≤ c.toNat ∧ c.toNat ≤ 126
        · rw [unq_plain c61 hp.1 hp.2] at h
          exact out c [d] (by simp at hl ⊢; omega) h
        · rw [unq_bad c61 hp] at h
          cases h
    | c :: d :: e :: r, hl =>
      by_cases c61 : c.toNat = 61
      · rw [unq, if_pos c61] at h
        cases hx : hexv d with
        | none => rw [hx] at h; cases h
        | some x =>
          cases hy : hexv e with
          | none => rw [hx, hy] at h; cases h
          | some y =>
            rw [hx, hy] at h
            have := out _ r (by simp at hl; omega) h
            simp
            omega
      · by_cases hp : 32 ≤ c.toNat ∧ c.toNat ≤ 126
        · rw [unq_plain c61 hp.1 hp.2] at h
          exact out c (d :: e :: r) (by simp at hl ⊢; omega) h
        · rw [unq_bad c61 hp] at h
          cases h
theorem S10 : (⟨#[10]⟩ : ByteArray) = S [10] := rfl
theorem S0 : (⟨#[]⟩ : ByteArray) = S [] := rfl

theorem spec_decq_loop (ls : List (List UInt8)) (hn : ls.length ≤ 1048576) (hb : ∀ l ∈ ls, l.length ≤ 1048576) : ∀ (e i : Nat) (acc : List UInt8), ls.length ≤ i + e → i < ls.length → acc.length ≤ 300 →
    Ev (fun k => spec_DecodeQuoted.l0 k (SL ls) (S acc) (i : Int)) (finR acc (decL (ls.drop i) true)) := by
  intro e
  induction e with
  | zero => intro i acc h1 h2; omega
  | succ e ih =>
    intro i acc hi hlt ha
    have hli := hb ls[i] (List.getElem_mem hlt)
    have w1 : wrap64 ((i : Int) + 1) = ((i + 1 : Nat) : Int) := by rw [w64 (by omega) (by omega)]; omega
    refine Ev.step (fun k => by rw [spec_DecodeQuoted.l0]) ?_
    simp only [SL_length, rdOf_SL _ ls i hlt, w1]
    refine ev_pos (by omega) (ev_pos (by omega) (Ev.bind (spec_unq ls[i] hli) ?_))
    rw [List.drop_eq_getElem_cons hlt]
    cases hq : unq ls[i] with
    | none =>
      rw [decL_none hq]
      refine ev_neg (by simp [unqR]) ?_
      refine Ev.step (fun k => by rw [spec_DecodeQuoted.j1]) ?_
      exact ev_pos rfl (Ev.now _)
    | some p =>
      obtain ⟨s, g⟩ := p
      have hs := unq_length _ _ _ _ (Nat.le_refl _) hq
      rw [decL_some hq, ← finR_app]
      have e1 : unqR [] (some (s, g)) = (S s, g, true) := rfl
      simp only [e1]
      refine ev_pos trivial ?_
      have body : Ev (fun k => spec_DecodeQuoted.j1 k (SL ls) (S acc) (i : Int) (S s) g (((i + 1 : Nat) : Int) == (ls.length : Int)) (g && (((i + 1 : Nat) : Int) == (ls.length : Int)))) (finR (acc ++ s) (decL (ls.drop (i + 1)) g)) := by
        refine Ev.step (fun k => by rw [spec_DecodeQuoted.j1]) ?_
        simp only [size_S, append_S, S0]
        by_cases hlast : i + 1 = ls.length
        · have hz : (((i + 1 : Nat) : Int) == (ls.length : Int)) = true := by rw [hlast]; simp
          rw [hz, List.drop_of_length_le (by omega)]
          cases g with
          | true => exact ev_pos rfl (Ev.now _)
          | false =>
            refine ev_neg (by decide) (ev_pos (by omega) (ev_neg (by decide) ?_))
            refine Ev.step (fun k => by rw [spec_DecodeQuoted.j2]) ?_
            simp only [size_S, S0, w1]
            refine ev_neg (by decide) ?_
            by_cases h3 : (acc ++ s).length ≤ 300
            · refine ev_neg (by omega) ?_
              refine Ev.step (fun k => by rw [spec_DecodeQuoted.l0]) ?_
              simp only [SL_length]
              refine ev_neg (by omega) (ev_is ?_)
              have : finR (acc ++ s) (decL [] false) = (S (acc ++ s), true) := by
                show finR (acc ++ s) (some []) = _
                unfold finR
                simp only [List.append_nil]
                exact if_pos h3
              rw [this, decide_eq_true (by omega)]
            · refine ev_pos (by omega) (ev_eq (finR_long _ _ (by omega)) (Ev.now _))
        · have hz : (((i + 1 : Nat) : Int) == (ls.length : Int)) = false := by
            rw [beq_eq_false_iff_ne]
            omega
          have hlt1 : i + 1 < ls.length := by omega
          rw [hz]
          cases g with
          | true =>
            refine ev_neg (by decide) (ev_pos (by omega) (ev_pos rfl ?_))
            refine Ev.step (fun k => by rw [spec_DecodeQuoted.j2]) ?_
            simp only [size_S, S0, w1]
            refine ev_neg (by decide) ?_
            by_cases h3 : (acc ++ s).length ≤ 300
            · refine ev_neg (by omega) ?_
              exact ih (i + 1) (acc ++ s) (by omega) hlt1 h3
            · refine ev_pos (by omega) (ev_eq (finR_long _ _ (by omega)) (Ev.now _))
          | false =>
            refine ev_neg (by decide) (ev_pos (by omega) (ev_neg (by decide) ?_))
            have e2 : finR (acc ++ s) (decL (ls.drop (i + 1)) false) = finR (acc ++ s ++ [10]) (decL (ls.drop (i + 1)) true) := by
              rw [finR_app (acc ++ s), List.drop_eq_getElem_cons hlt1, decL_hard]
            rw [e2]
            refine Ev.step (fun k => by rw [spec_DecodeQuoted.j2]) ?_
            simp only [size_S, S0, S10, append_S, w1]
            refine ev_pos rfl (ev_pos (by simp; omega) ?_)
            by_cases h3 : (acc ++ s ++ [10]).length ≤ 300
            · refine ev_neg (by omega) ?_
              exact ih (i + 1) _ (by omega) hlt1 h3
            · refine ev_pos (by omega) (ev_eq (finR_long _ _ (by omega)) (Ev.now _))
      cases g with
      | true => exact ev_pos rfl body
      | false => exact ev_neg (by decide) body

theorem spec_decq (ls : List (List UInt8)) (hn : ls.length ≤ 1048576) (hb : ∀ l ∈ ls, l.length ≤ 1048576) : Ev (fun k => spec_DecodeQuoted.f k (SL ls)) (decR ls) := by
  simp only [spec_DecodeQuoted.f, S0]
  by_cases h : ls.length = 0
  · have : ls = [] := List.eq_nil_of_length_eq_zero h
    rw [this]
    refine Ev.step (fun k => by rw [spec_DecodeQuoted.l0]) ?_
    exact ev_neg (by decide) (Ev.now _)
  · have := spec_decq_loop ls hn hb ls.length 0 [] (by omega) (by omega) (by simp)
    rwa [List.drop_zero] at this

def hexs : List UInt8 := [48, 49, 50, 51, 52, 53, 54, 55, 56, 57, 65, 66, 67, 68, 69, 70]
theorem hexs_S : (⟨#[48, 49, 50, 51, 52, 53, 54, 55, 56, 57, 65, 66, 67, 68, 69, 70]⟩ : ByteArray) = S hexs := rfl
theorem hexs_index (c : UInt8) : Lib.indexByte hexs c = hv c := by
  have h : ∀ n : Fin 256, Lib.indexByte hexs (UInt8.ofNat n.val) = hv (UInt8.ofNat n.val) := by decide +kernel
  have := h ⟨c.toNat, c.toNat_lt⟩
  have e : UInt8.ofNat c.toNat = c := by simp
  rw [e] at this
  exact this
theorem index_hex (c : UInt8) : strings_IndexByte.f (S hexs) (c.toNat : Int) = some (hv c) := by
  unfold strings_IndexByte.f
  have e : ((c.toNat : Int)).toNat.toUInt8 = c := by simp
  rw [data_S, e, hexs_index]

/-- What the program has of an escape at the head of bytes. -/
def hexO (l : List UInt8) : Option (UInt8 × List UInt8) := match l with
  | c :: d :: e :: r => if c.toNat = 61 then (match hexv d, hexv e with | some x, some y => some (UInt8.ofNat (16 * x + y), r) | _, _ => none) else none
  | _ => none
theorem impl_hexof (l : List UInt8) : ∃ n ok, Ev (fun k => impl_hexOf.f k (S l)) (n, ok) ∧ (∀ b r, hexO l = some (b, r) → ok = true ∧ n = (b.toNat : Int)) ∧ (hexO l = none → ok = false) := by
  simp only [impl_hexOf.f, size_S]
  have j0 : ∀ l, Ev (fun k => impl_hexOf.j0 k (S l) true) (0, false) := by
    intro l
    refine Ev.step (fun k => by rw [impl_hexOf.j0]) ?_
    exact ev_pos rfl (Ev.now _)
  match l with
  | [] => exact ⟨0, false, ev_pos (by decide) (j0 _), fun b r h => (by cases h), fun _ => rfl⟩
  | [c] => exact ⟨0, false, ev_pos (by simp) (j0 _), fun b r h => (by cases h), fun _ => rfl⟩
  | [c, d] => exact ⟨0, false, ev_pos (by simp) (j0 _), fun b r h => (by cases h), fun _ => rfl⟩
  | c :: d :: e :: r =>
    have hc : bt (S (c :: d :: e :: r)) 0 = (c.toNat : Int) := by rw [bt_S]; rfl
    have hd : bt (S (c :: d :: e :: r)) 1 = (d.toNat : Int) := by rw [bt_S]; rfl
    have he : bt (S (c :: d :: e :: r)) 2 = (e.toNat : Int) := by rw [bt_S]; rfl
    have hlen : ((c :: d :: e :: r).length : Int) = r.length + 3 := by simp; omega
    simp only [hc, hlen]
    by_cases c61 : c.toNat = 61
    · have hz : ((c.toNat : Int) != 61) = false := by rw [c61]; rfl
      rw [hz]
      have body : ∀ v ok, v = (wrap64 ((wrap64 (16 * hv d)) + hv e)) % 256 → ok = (decide (0 ≤ hv d) && decide (0 ≤ hv e)) → Ev (fun k => impl_hexOf.j0 k (S (c :: d :: e :: r)) false) (v, ok) := by
        intro v ok hv' hok
        refine Ev.step (fun k => by rw [impl_hexOf.j0]) ?_
        simp only [size_S, hexs_S, hd, he, hlen]
        refine ev_neg (by decide) (ev_pos (by omega) ?_)
        refine ev_bind0 (index_hex d) (ev_pos (by omega) ?_)
        refine ev_bind0 (index_hex e) ?_
        rw [hv', hok]
        by_cases h : hv d ≥ 0
        · refine ev_pos h (ev_is ?_)
          rw [decide_eq_true (show 0 ≤ hv d from h), Bool.true_and]
        · refine ev_neg h (ev_is ?_)
          rw [decide_eq_false (show ¬ 0 ≤ hv d from h), Bool.false_and]
      refine ⟨_, _, ev_neg (by omega) (ev_pos (by omega) (body _ _ rfl rfl)), ?_, ?_⟩
      · intro b r' h
        rw [hexO, if_pos c61] at h
        cases hx : hexv d with
        | none => rw [hx] at h; cases h
        | some x =>
          cases hy : hexv e with
          | none => rw [hx, hy] at h; cases h
          | some y =>
            rw [hx, hy] at h
            have h1 : UInt8.ofNat (16 * x + y) = b := congrArg Prod.fst (Option.some.inj h)
            rw [hv_some hx, hv_some hy, ← h1, hex_val (hexv_lt hx) (hexv_lt hy)]
            exact ⟨by simp, rfl⟩
      · intro h
        rw [hexO, if_pos c61] at h
        cases hx : hexv d with
        | none => rw [hv_none hx]; rfl
        | some x =>
          cases hy : hexv e with
          | none => rw [hv_none hy]; simp
          | some y => rw [hx, hy] at h; cases h
    · have hz : ((c.toNat : Int) != 61) = true := by
        rw [bne_iff_ne]
        omega
      rw [hz]
      refine ⟨0, false, ev_neg (by omega) (ev_pos (by omega) (j0 _)), ?_, fun _ => rfl⟩
      intro b r' h
      rw [hexO, if_neg c61] at h
      cases h

theorem unq_hexO {l : List UInt8} (h61 : l.head? = some 61) (h2 : 2 ≤ l.length) : unq l = match hexO l with
    | some (b, r) => (unq r).map fun p => (b :: p.1, p.2)
    | none => none := by
  match l, h61, h2 with
  | [c, d], h, _ =>
    have : c = 61 := Option.some.inj h
    subst this
    rfl
  | c :: d :: e :: r, h, _ =>
    have : c = 61 := Option.some.inj h
    subst this
    rw [unq, if_pos (by decide), hexO, if_pos (by decide)]
    cases hexv d with
    | none => rfl
    | some x => cases hexv e <;> rfl
theorem hexO_drop {l r : List UInt8} {b : UInt8} (h : hexO l = some (b, r)) : 3 ≤ l.length ∧ r = l.drop 3 := by
  match l with
  | [] => cases h
  | [_] => cases h
  | [_, _] => cases h
  | c :: d :: e :: t =>
    refine ⟨by simp, ?_⟩
    by_cases c61 : c.toNat = 61
    · rw [hexO, if_pos c61] at h
      cases hx : hexv d with
      | none => rw [hx] at h; cases h
      | some x =>
        cases hy : hexv e with
        | none => rw [hx, hy] at h; cases h
        | some y =>
          rw [hx, hy] at h
          have h1 : t = r := congrArg Prod.snd (Option.some.inj h)
          exact h1.symm
    · rw [hexO, if_neg c61] at h
      cases h

theorem impl_line (l : List UInt8) (L : List ByteArray) (n i : Int) (R : ByteArray × Bool) (hl : l.length ≤ 1048576) : ∀ (e j : Nat) (acc : List UInt8), l.length ≤ j + e → j ≤ l.length → acc.length ≤ 2000000000000 + j →
    (∀ s g, unq (l.drop j) = some (s, g) → Ev (fun k => impl_DecodeQuoted.l0 k (NB (acc ++ s)) g L n (wrap64 (i + 1))) R) → (unq (l.drop j) = none → R = (S [], false)) →
    Ev (fun k => impl_DecodeQuoted.l1 k (NB acc) false (S l) (j : Int) L n i) R := by
  intro e
  induction e with
  | zero =>
    intro j acc hj hj2 _ h1 h2
    refine Ev.step (fun k => by rw [impl_DecodeQuoted.l1]) ?_
    simp only [size_S]
    refine ev_neg (by omega) ?_
    rw [List.drop_of_length_le (by omega)] at h1
    have := h1 [] false rfl
    rwa [List.append_nil] at this
  | succ e ih =>
    intro j acc hj hj2 ha h1 h2
    by_cases hlt : j < l.length
    · have hg : l.getD j 0 = l[j] := by rw [List.getD_eq_getElem?_getD, List.getElem?_eq_getElem hlt]; rfl
      have w1 : wrap64 ((j : Int) + 1) = ((j + 1 : Nat) : Int) := by rw [w64 (by omega) (by omega)]; omega
      have w2 : wrap64 ((j : Int) + 2) = ((j + 2 : Nat) : Int) := by rw [w64 (by omega) (by omega)]; omega
      have w3 : wrap64 (((j + 2 : Nat) : Int) + 1) = ((j + 3 : Nat) : Int) := by rw [w64 (by omega) (by omega)]; omega
      refine Ev.step (fun k => by rw [impl_DecodeQuoted.l1]) ?_
      simp only [size_S, w1, bt_S, Int.toNat_natCast, hg]
      refine ev_pos (by omega) (ev_pos (by omega) ?_)
      by_cases c61 : (l[j].toNat : Int) = 61
      · refine ev_pos c61 ?_
        have c61' : l[j] = 61 := (u8_is (n := 61) (by omega)).1 c61
        refine Ev.step (fun k => by rw [impl_DecodeQuoted.j3]) ?_
        by_cases hend : j + 1 = l.length
        · have hz : (((j + 1 : Nat) : Int) == (l.length : Int)) = true := by rw [hend]; simp
          rw [hz]
          refine ev_pos rfl ?_
          simp only [w1]
          refine Ev.step (fun k => by rw [impl_DecodeQuoted.l1]) ?_
          simp only [size_S]
          refine ev_neg (by omega) ?_
          rw [drop_cons hlt, List.drop_of_length_le (by omega), c61'] at h1
          have := h1 [] true rfl
          rwa [List.append_nil] at this
        · have hz : (((j + 1 : Nat) : Int) == (l.length : Int)) = false := by
            rw [beq_eq_false_iff_ne]
            omega
          rw [hz]
          simp only [size_S, bt_S, Int.toNat_natCast, hg, w1, w2, w3, extract_S, NB_length, S0]
          refine ev_neg (by decide) (ev_pos (by omega) (ev_pos (by omega) (ev_pos c61 (ev_pos (by omega) ?_))))
          have hx : (l.drop j).take (l.length - j) = l.drop j := List.take_of_length_le (by rw [List.length_drop]; omega)
          rw [hx]
          have hu := unq_hexO (l := l.drop j) (by rw [drop_cons hlt, c61']; rfl) (by rw [List.length_drop]; omega)
          obtain ⟨v, ok, hev, hs, hno⟩ := impl_hexof (l.drop j)
          refine Ev.bind hev ?_
          cases ho : hexO (l.drop j) with
          | none =>
            rw [ho] at hu
            rw [hno ho]
            exact ev_neg (by simp) (ev_is (by rw [h2 hu]))
          | some p =>
            obtain ⟨b, r⟩ := p
            rw [ho] at hu
            obtain ⟨k1, k2⟩ := hs b r ho
            obtain ⟨k3, k4⟩ := hexO_drop ho
            rw [List.length_drop] at k3
            rw [List.drop_drop] at k4
            rw [k1, k2, NB_snoc]
            simp only at hu
            refine ev_pos rfl (ev_pos (by omega) ?_)
            refine ih (j + 3) (acc ++ [b]) (by omega) (by omega) (by simp; omega) ?_ ?_
            · intro s g hsg
              rw [k4, hsg] at hu
              have := h1 (b :: s) g hu
              simpa using this
            · intro hno'
              rw [k4, hno'] at hu
              exact h2 hu
      · refine ev_neg c61 ?_
        refine Ev.step (fun k => by rw [impl_DecodeQuoted.j3]) ?_
        simp only [size_S, bt_S, Int.toNat_natCast, hg, w1, NB_length, S0]
        refine ev_neg (by decide) (ev_pos (by omega) (ev_pos (by omega) (ev_neg c61 ?_)))
        by_cases hp : 32 ≤ l[j].toNat ∧ l[j].toNat ≤ 126
        · have hu := unq_plain (c := l[j]) (r := l.drop (j + 1)) (by omega) hp.1 hp.2
          rw [← drop_cons hlt] at hu
          refine ev_pos (by omega) (ev_pos (by omega) (ev_pos (by omega) ?_))
          rw [NB_snoc]
          refine ih (j + 1) (acc ++ [l[j]]) (by omega) (by omega) (by simp; omega) ?_ ?_
          · intro s g hsg
            rw [hsg] at hu
            have := h1 (l[j] :: s) g hu
            simpa using this
          · intro hno'
            rw [hno'] at hu
            exact h2 hu
        · have hu := unq_bad (c := l[j]) (r := l.drop (j + 1)) (by omega) hp
          rw [← drop_cons hlt] at hu
          rw [h2 hu]
          by_cases h3 : (l[j].toNat : Int) ≥ 32
          · exact ev_pos h3 (ev_neg (by omega) (Ev.now _))
          · exact ev_neg h3 (Ev.now _)
    · refine Ev.step (fun k => by rw [impl_DecodeQuoted.l1]) ?_
      simp only [size_S]
      refine ev_neg (by omega) ?_
      rw [List.drop_of_length_le (by omega)] at h1
      have := h1 [] false rfl
      rwa [List.append_nil] at this

theorem big (a i n : Nat) (h : a ≤ i * 1048577 + 1) (h1 : i < n) (h2 : n ≤ 1048576) : a ≤ 2000000000000 + 0 := by omega
theorem impl_decq_loop (ls : List (List UInt8)) (hn : ls.length ≤ 1048576) (hb : ∀ l ∈ ls, l.length ≤ 1048576) : ∀ (e i : Nat) (acc : List UInt8) (goes : Bool), i + e = ls.length → acc.length ≤ i * 1048577 →
    Ev (fun k => impl_DecodeQuoted.l0 k (NB acc) goes (SL ls) (ls.length : Int) (i : Int)) (finR acc (decL (ls.drop i) goes)) := by
  intro e
  induction e with
  | zero =>
    intro i acc goes hi ha
    refine Ev.step (fun k => by rw [impl_DecodeQuoted.l0]) ?_
    simp only [NB_length, NB_str, S0]
    rw [List.drop_of_length_le (by omega)]
    refine ev_neg (by omega) ?_
    cases goes with
    | true => exact ev_pos rfl (Ev.now _)
    | false =>
      refine ev_neg (by decide) ?_
      by_cases h3 : acc.length ≤ 300
      · refine ev_neg (by omega) (ev_is ?_)
        show _ = some (finR acc (some []))
        unfold finR
        simp only [List.append_nil]
        rw [if_pos h3]
      · exact ev_pos (by omega) (ev_eq (finR_long _ _ (by omega)) (Ev.now _))
  | succ e ih =>
    intro i acc goes hi ha
    have hlt : i < ls.length := by omega
    have hli := hb ls[i] (List.getElem_mem hlt)
    have w1 : wrap64 ((i : Int) + 1) = ((i + 1 : Nat) : Int) := by rw [w64 (by omega) (by omega)]; omega
    have line : ∀ acc' : List UInt8, acc'.length ≤ i * 1048577 + 1 → Ev (fun k => impl_DecodeQuoted.j1 k (NB acc') (S ls[i]) (SL ls) (ls.length : Int) (i : Int)) (finR acc' (decL (ls.drop i) true)) := by
      intro acc' ha'
      refine Ev.step (fun k => by rw [impl_DecodeQuoted.j1]) ?_
      rw [List.drop_eq_getElem_cons hlt]
      refine impl_line ls[i] (SL ls) (ls.length : Int) (i : Int) _ hli ls[i].length 0 acc' (by omega) (by omega) (big _ _ _ ha' hlt hn) ?_ ?_
      · intro s g h
        rw [List.drop_zero] at h
        have := unq_length _ _ _ _ (Nat.le_refl _) h
        rw [decL_some h, ← finR_app, w1]
        exact ih (i + 1) (acc' ++ s) g (by omega) (by rw [List.length_append]; omega)
      · intro h
        rw [List.drop_zero] at h
        rw [decL_none h]
        rfl
    refine Ev.step (fun k => by rw [impl_DecodeQuoted.l0]) ?_
    simp only [SL_length, rdOf_SL _ ls i hlt, NB_length]
    refine ev_pos (by omega) (ev_pos (by omega) (ev_pos (by omega) ?_))
    cases goes with
    | true => exact ev_pos rfl (line acc (Nat.le_succ_of_le ha))
    | false =>
      refine ev_neg (by decide) (ev_pos (by omega) ?_)
      have e1 : NB acc ++ [10] = NB (acc ++ [10]) := NB_snoc acc 10
      have e2 : finR acc (decL (ls.drop i) false) = finR (acc ++ [10]) (decL (ls.drop i) true) := by
        rw [finR_app acc, List.drop_eq_getElem_cons hlt, decL_hard]
      rw [e1, e2]
      exact line _ (by rw [List.length_append]; exact Nat.succ_le_succ ha)

theorem impl_decq (ls : List (List UInt8)) (hn : ls.length ≤ 1048576) (hb : ∀ l ∈ ls, l.length ≤ 1048576) : Ev (fun k => impl_DecodeQuoted.f k (SL ls)) (decR ls) := by
  simp only [impl_DecodeQuoted.f, NB_nil, SL_length]
  have := impl_decq_loop ls hn hb ls.length 0 [] true (by omega) (by simp)
  rwa [List.drop_zero] at this

theorem szs_loop (ls : List ByteArray) (hn : ls.length ≤ 1048576) (hz : ∀ s ∈ ls, s.size ≤ maxLen) : ∀ (e i : Nat) (x1 : Int), i + e = ls.length → 0 ≤ x1 → x1 ≤ 1048576 →
    ∃ r, Ev (fun k => laws_szStringS.l0 k ls x1 (i : Int)) r ∧ (r < 0 ∨ ∀ j, (h : j < ls.length) → i ≤ j → ls[j].size ≤ 1048576) := by
  intro e
  induction e with
  | zero =>
    intro i x1 hi h0 h1
    refine ⟨x1, Ev.step (fun k => by rw [laws_szStringS.l0]) (ev_neg (by omega) (Ev.now _)), Or.inr ?_⟩
    intro j h1 h2
    omega
  | succ e ih =>
    intro i x1 hi h0 h1
    have hlt : i < ls.length := by omega
    have hm : maxLen = 9223372036854775807 := rfl
    have hs := hz ls[i] (List.getElem_mem hlt)
    rw [hm] at hs
    have hr : rdOf ByteArray.empty ls (i : Int) = ls[i] := by
      unfold rdOf
      rw [List.getD_eq_getElem?_getD]
      simp [hlt]
    have w1 : wrap64 ((i : Int) + 1) = ((i + 1 : Nat) : Int) := by rw [w64 (by omega) (by omega)]; omega
    have w2 : wrap64 (x1 - (ls[i].size : Int)) = x1 - (ls[i].size : Int) := w64 (by omega) (by omega)
    by_cases hneg : x1 - (ls[i].size : Int) < 0
    · refine ⟨-1, Ev.step (fun k => by rw [laws_szStringS.l0]) ?_, Or.inl (by omega)⟩
      simp only [hr, w2]
      exact ev_pos (by omega) (ev_pos (by omega) (ev_pos hneg (Ev.now _)))
    · obtain ⟨r, hev, hp⟩ := ih (i + 1) (x1 - (ls[i].size : Int)) (by omega) (by omega) (by omega)
      refine ⟨r, Ev.step (fun k => by rw [laws_szStringS.l0]) ?_, ?_⟩
      · simp only [hr, w2, w1]
        exact ev_pos (by omega) (ev_pos (by omega) (ev_neg hneg hev))
      · rcases hp with hp | hp
        · exact Or.inl hp
        · refine Or.inr fun j hj hij => ?_
          by_cases hji : j = i
          · subst hji
            omega
          · exact hp j hj (by omega)

theorem szs (ls : List ByteArray) (hn : ls.length ≤ maxLen) (hz : ∀ s ∈ ls, s.size ≤ maxLen) :
    ∃ r, Ev (fun k => laws_szStringS.f k ls 1048576) r ∧ (r < 0 ∨ (ls.length ≤ 1048576 ∧ ∀ s ∈ ls, s.size ≤ 1048576)) := by
  simp only [laws_szStringS.f]
  have hm : maxLen = 9223372036854775807 := rfl
  rw [hm] at hn
  have w : wrap64 (1048576 - (ls.length : Int)) = 1048576 - (ls.length : Int) := w64 (by omega) (by omega)
  rw [w]
  by_cases h : (1048576 - (ls.length : Int)) < 0
  · exact ⟨-1, ev_pos h (Ev.now _), Or.inl (by omega)⟩
  · obtain ⟨r, hev, hp⟩ := szs_loop ls (by omega) hz ls.length 0 (1048576 - (ls.length : Int)) (by omega) (by omega) (by omega)
    refine ⟨r, ev_neg h hev, ?_⟩
    rcases hp with hp | hp
    · exact Or.inl hp
    · refine Or.inr ⟨by omega, fun s hs => ?_⟩
      obtain ⟨j, hj, rfl⟩ := List.mem_iff_getElem.1 hs
      exact hp j hj (Nat.zero_le _)

theorem tos_loop (ls : List ByteArray) (hn : ls.length ≤ 1048576) (z : ByteArray) : ∀ (e i : Nat), i + e = ls.length →
    Ev (fun k => laws_toStringS.l0 k ls (ls.take i ++ List.replicate e z) (i : Int)) ls := by
  intro e
  induction e with
  | zero =>
    intro i hi
    refine Ev.step (fun k => by rw [laws_toStringS.l0]) ?_
    refine ev_neg (by omega) (ev_is ?_)
    rw [List.take_of_length_le (by omega)]
    simp
  | succ e ih =>
    intro i hi
    have hlt : i < ls.length := by omega
    have hr : rdOf ByteArray.empty ls (i : Int) = ls[i] := by
      unfold rdOf
      rw [List.getD_eq_getElem?_getD]
      simp [hlt]
    have w1 : wrap64 ((i : Int) + 1) = ((i + 1 : Nat) : Int) := by rw [w64 (by omega) (by omega)]; omega
    have hlen : (ls.take i).length = i := by rw [List.length_take]; omega
    have hset : (ls.take i ++ List.replicate (e + 1) z).set i ls[i] = ls.take (i + 1) ++ List.replicate e z := by
      rw [List.set_append_right _ _ (by omega), hlen, Nat.sub_self, List.replicate_succ, List.set_cons_zero, List.take_succ_eq_append_getElem hlt, List.append_assoc]
      rfl
    refine Ev.step (fun k => by rw [laws_toStringS.l0]) ?_
    simp only [hr, w1, Int.toNat_natCast, hset]
    refine ev_pos (by omega) (ev_pos (by omega) (ev_pos ?_ (ih (i + 1) (by omega))))
    rw [List.length_append, hlen, List.length_replicate]
    omega
theorem tos (ls : List ByteArray) (hn : ls.length ≤ 1048576) : Ev (fun k => laws_toStringS.f k ls) ls := by
  simp only [laws_toStringS.f, Int.toNat_natCast]
  have := tos_loop ls hn (⟨#[]⟩ : ByteArray) ls.length 0 (by omega)
  rw [List.take_zero, List.nil_append] at this
  exact ev_pos (by omega) (ev_pos (by omega) this)

theorem eqss_loop (ls : List ByteArray) (hn : ls.length ≤ 1048576) : ∀ (e i : Nat), i + e = ls.length → Ev (fun k => laws_eqStringS.l0 k ls ls (i : Int)) true := by
  intro e
  induction e with
  | zero =>
    intro i hi
    refine Ev.step (fun k => by rw [laws_eqStringS.l0]) ?_
    exact ev_neg (by omega) (Ev.now _)
  | succ e ih =>
    intro i hi
    have w1 : wrap64 ((i : Int) + 1) = ((i + 1 : Nat) : Int) := by rw [w64 (by omega) (by omega)]; omega
    refine Ev.step (fun k => by rw [laws_eqStringS.l0]) ?_
    simp only [w1]
    exact ev_pos (by omega) (ev_pos (by omega) (ev_pos (by omega) (ev_pos trivial (ih (i + 1) (by omega)))))
theorem eqss (ls : List ByteArray) (hn : ls.length ≤ 1048576) : Ev (fun k => laws_eqStringS.f k ls ls) true := by
  simp only [laws_eqStringS.f]
  exact ev_pos trivial (eqss_loop ls hn ls.length 0 (by omega))

theorem FnExactDecodeQuoted : laws_FnExactDecodeQuoted.Pure := by
  intro l0 hn hz
  refine Ev.rounds ?_
  simp only [laws_FnExactDecodeQuoted.f]
  obtain ⟨r, hr, hp⟩ := szs l0 hn hz
  refine Ev.bind hr ?_
  rcases hp with hp | ⟨h1, h2⟩
  · exact ev_pos hp (Ev.now _)
  obtain ⟨ls, rfl⟩ := ex_SL l0
  have h1' : ls.length ≤ 1048576 := by rw [SL_length] at h1; exact h1
  have h2' : ∀ l ∈ ls, l.length ≤ 1048576 := by
    intro l hl
    have := h2 (S l) (List.mem_map_of_mem hl)
    rwa [size_S] at this
  by_cases hneg : r < 0
  · exact ev_pos hneg (Ev.now _)
  refine ev_neg hneg (Ev.bind (tos _ h1) ?_)
  refine Ev.bind (spec_decq ls h1' h2') ?_
  refine Ev.bind (tos _ h1) (Ev.bind (impl_decq ls h1' h2') ?_)
  refine ev_pos rfl ?_
  have e : ((decR ls).2 != (decR ls).2) = false := by simp
  rw [e]
  refine Ev.step (fun k => by rw [laws_FnExactDecodeQuoted.j0]) ?_
  refine ev_neg (by decide) (Ev.bind (tos _ h1) (Ev.bind (eqss _ h1) ?_))
  exact ev_pos rfl (Ev.now _)

end Go.Proofs.Ytenplenjpliciaa.PLFnExactDecodeQuoted
namespace Go.Proofs.Ytenplenjpliciaa.Pure
open Go.Proofs.Ytenplenjpliciaa.PFnExactDecodeQuoted
theorem FnExactDecodeQuoted : laws_FnExactDecodeQuoted.Pure := PLFnExactDecodeQuoted.FnExactDecodeQuoted
end Go.Proofs.Ytenplenjpliciaa.Pure
