/- Plain mathematics of coded words, read: the bytes of a code, that what is written is read back, and nothing else; no program in sight. No conditions. -/
import Derived.Test.YthmdblcgiljhpaaDoorMDecQ
import Derived.Test.YthmdblcgiljhpaaDoorMCode
namespace Go.Proofs.YthmdblcgiljhpaaDoor.M
open Go.RowKit Go.Proofs.YthmdblcgiljhpaaDoorW.PrintWords

theorem hv_bd (c : UInt8) : -1 ≤ hv c ∧ hv c ≤ 15 := by
  cases h : hexv c with
  | none => rw [hv_none h]; omega
  | some n => have := hexv_lt h; rw [hv_some h]; omega
/-- The byte of two digits, whatever they are. -/
def hexN (d e : UInt8) : UInt8 := UInt8.ofNat ((16 * hv d + hv e) % 256).toNat
theorem hexN_val (d e : UInt8) : ((hexN d e).toNat : Int) = (16 * hv d + hv e) % 256 := by
  unfold hexN
  rw [UInt8.toNat_ofNat']
  omega
theorem hexN_wrap (d e : UInt8) : (wrap64 ((wrap64 (16 * hv d)) + hv e)) % 256 = ((hexN d e).toNat : Int) := by
  have h1 := hv_bd d
  have h2 := hv_bd e
  rw [hexN_val, w64 (n := 16 * hv d) (by omega) (by omega), w64 (by omega) (by omega)]
def ownC (c : UInt8) : UInt8 := if c.toNat = 95 then 32 else c
/-- The bytes of a code, as the program reads them. -/
def decC : List UInt8 → List UInt8
  | [] => []
  | [c] => if c.toNat = 61 then [0] else [ownC c]
  | [c, d] => if c.toNat = 61 then [0] else ownC c :: decC [d]
  | c :: d :: e :: r => if c.toNat = 61 then hexN d e :: decC r else ownC c :: decC (d :: e :: r)

theorem decC_own {c : UInt8} (r : List UInt8) (h : c.toNat ≠ 61) : decC (c :: r) = ownC c :: decC r := by
  match r with
  | [] => simp [decC, h]
  | [d] => simp [decC, h]
  | d :: e :: r => simp [decC, h]
theorem decC_hex {d e : UInt8} {r : List UInt8} : decC (61 :: d :: e :: r) = hexN d e :: decC r := by rw [decC, if_pos (by decide)]
theorem decC_code (c : UInt8) (r : List UInt8) : decC (codeB c ++ r) = c :: decC r := by
  unfold codeB
  split
  · rename_i h
    have h1 : c.toNat ≠ 61 ∧ c.toNat ≠ 95 := by
      unfold selfC isAlpha isNum at h
      simp at h
      omega
    show decC (c :: r) = _
    rw [decC_own r h1.1, ownC, if_neg h1.2]
  · split
    · rename_i h
      have : c = 32 := UInt8.toNat_inj.1 (by rw [h]; rfl)
      show decC (95 :: r) = _
      rw [decC_own r (by decide), this]
      rfl
    · have hlt := c.toNat_lt
      show decC (61 :: hexDig (c.toNat / 16) :: hexDig (c.toNat % 16) :: r) = _
      rw [decC_hex]
      have e : hexN (hexDig (c.toNat / 16)) (hexDig (c.toNat % 16)) = c := by
        unfold hexN
        rw [hv_some (hexv_dig (c.toNat / 16) (by omega)), hv_some (hexv_dig (c.toNat % 16) (by omega))]
        apply UInt8.toNat_inj.1
        rw [UInt8.toNat_ofNat']
        omega
      rw [e]
theorem decC_codeL (b : List UInt8) : decC (codeL b) = b := by
  induction b with
  | nil => rfl
  | cons c r ih => rw [codeL_cons, decC_code, ih]
theorem decC_length : ∀ (n : Nat) (l : List UInt8), l.length ≤ n → (decC l).length ≤ l.length := by
  intro n
  induction n with
  | zero =>
    intro l h
    match l, h with
    | [], _ => exact Nat.le_refl _
  | succ n ih =>
    intro l h
    match l, h with
    | [], _ => exact Nat.le_refl _
    | [c], _ =>
      unfold decC
      split <;> simp
    | [c, d], h =>
      unfold decC
      split
      · simp
      · have := ih [d] (by simp at h ⊢; omega)
        simp at this ⊢
        omega
    | c :: d :: e :: r, h =>
      unfold decC
      split
      · have := ih r (by simp at h; omega)
        simp
        omega
      · have := ih (d :: e :: r) (by simp at h ⊢; omega)
        simp at this ⊢
        omega
theorem codeL_inj {a b : List UInt8} (h : codeL a = codeL b) : a = b := by rw [← decC_codeL a, h, decC_codeL]
theorem codeW_inner {b s : List UInt8} (h : codeW b = s) : (s.drop 10).take (s.length - 2 - 10) = codeL b := by
  have hl := codeW_length b
  rw [← h, hl]
  unfold codeW
  rw [List.append_assoc, List.drop_left' (by rfl)]
  rw [List.take_left' (by omega)]
theorem codeW_inj {a b : List UInt8} (h : codeW a = codeW b) : a = b := by
  have h1 := codeW_inner (b := a) rfl
  have h2 := codeW_inner (b := b) rfl
  rw [h] at h1
  exact codeL_inj (h1.symm.trans h2)
theorem codeW_pre (b : List UInt8) : (codeW b).take 10 = codePre := by
  unfold codeW
  rw [List.append_assoc]
  exact List.take_left' rfl
theorem codeW_post (b : List UInt8) : (codeW b).drop ((codeW b).length - 2) = [63, 61] := by
  have hl := codeW_length b
  have : (codePre ++ codeL b).length = (codeW b).length - 2 := by
    rw [List.length_append, hl]
    have : codePre.length = 10 := rfl
    omega
  rw [← this]
  unfold codeW
  exact List.drop_left' rfl

open Classical in
/-- What ReadCodeWord returns. -/
noncomputable def readR (s : List UInt8) : ByteArray × Bool := if h : ∃ b, codeOK b ∧ codeW b = s then (S h.choose, true) else (S [], false)
theorem readR_pos {b s : List UInt8} (h : codeOK b) (e : codeW b = s) : readR s = (S b, true) := by
  unfold readR
  have H : ∃ b, codeOK b ∧ codeW b = s := ⟨b, h, e⟩
  rw [dif_pos H]
  have := codeW_inj (H.choose_spec.2.trans e.symm)
  rw [this]
theorem readR_neg {s : List UInt8} (h : ¬ ∃ b, codeOK b ∧ codeW b = s) : readR s = (S [], false) := by
  unfold readR
  rw [dif_neg h]
theorem readR_len {b s : List UInt8} (h : codeOK b) (e : codeW b = s) : 13 ≤ s.length ∧ s.length ≤ 40 := by
  have h1 := codeW_length b
  have h2 := codeL_length b
  obtain ⟨a, c, d⟩ := h
  rw [← e]
  omega

open Classical in
/-- What comes of bytes that are read for a text s. -/
noncomputable def finC (s out : List UInt8) : ByteArray × Bool := if codeOK out ∧ codeW out = s then (S out, true) else (S [], false)
theorem finC_read {s : List UInt8} : finC s (decC ((s.drop 10).take (s.length - 2 - 10))) = readR s := by
  by_cases h : ∃ b, codeOK b ∧ codeW b = s
  · obtain ⟨b, h1, h2⟩ := h
    rw [codeW_inner h2, decC_codeL, readR_pos h1 h2]
    unfold finC
    rw [if_pos ⟨h1, h2⟩]
  · rw [readR_neg h]
    unfold finC
    rw [if_neg (fun q => h ⟨_, q⟩)]

end Go.Proofs.YthmdblcgiljhpaaDoor.M
