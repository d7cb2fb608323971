/- Plain mathematics of letters, read: the bytes of letters, that what is written is read back, and nothing else; no program in sight. No conditions. -/
import Derived.Lib.Bytealg
import Derived.Lib.Join
import Derived.Test.YtdkgbemlfajhcaaMB64
namespace Go.Proofs.Ytdkgbemlfajhcaa.M
open Go.RowKit Go.Proofs.YtdkgbemlfajhcaaW.PrintWords Go.Proofs.YtdkgbemlfajhcaaW.PrintMore

/-- A letter's number, -1 where it is none. -/
def bx (c : UInt8) : Int := Lib.indexByte b64 c
def bv (c : UInt8) : Nat := (bx c).toNat
theorem bx_bd (c : UInt8) : -1 ≤ bx c ∧ bx c < 64 := by
  have h : ∀ n : Fin 256, -1 ≤ bx (UInt8.ofNat n.val) ∧ bx (UInt8.ofNat n.val) < 64 := by decide +kernel
  have := h ⟨c.toNat, c.toNat_lt⟩
  have e : UInt8.ofNat c.toNat = c := by simp
  rw [e] at this
  exact this
theorem bv_lt (c : UInt8) : bv c < 64 := by
  have := bx_bd c
  unfold bv
  omega
theorem bx_let (n : Nat) (h : n < 64) : bx (let6 n) = (n : Int) := by
  have h2 : ∀ n : Fin 64, bx (let6 n.val) = (n.val : Int) := by decide +kernel
  exact h2 ⟨n, h⟩
theorem let_ne (n : Nat) (h : n < 64) : let6 n ≠ 61 := by
  have h2 : ∀ n : Fin 64, let6 n.val ≠ 61 := by decide +kernel
  exact h2 ⟨n, h⟩
theorem bv_let (n : Nat) (h : n < 64) : bv (let6 n) = n := by
  unfold bv
  rw [bx_let n h]
  rfl
theorem bv_eq : bv 61 = 0 := by decide +kernel
theorem bx_eq : bx 61 = -1 := by decide +kernel

/-- The number of four letters. -/
def num4 (a b c d : UInt8) : Nat := ((bv a * 64 + bv b) * 64 + bv c) * 64 + bv d
theorem num4_lt (a b c d : UInt8) : num4 a b c d < 16777216 := by
  have h1 := bv_lt a
  have h2 := bv_lt b
  have h3 := bv_lt c
  have h4 := bv_lt d
  unfold num4
  omega
def three (n : Nat) : List UInt8 := [UInt8.ofNat (n / 65536), UInt8.ofNat (n / 256), UInt8.ofNat n]
/-- The bytes of letters, as the program has them. -/
def decB : List UInt8 → List UInt8
  | a :: b :: c :: d :: r => three (num4 a b c d) ++ decB r
  | _ => []

theorem ofNat_eq {n : Nat} {c : UInt8} (h : n % 256 = c.toNat) : UInt8.ofNat n = c := by
  apply UInt8.toNat_inj.1
  rw [UInt8.toNat_ofNat']
  exact h
theorem num_three {A C D : Nat} (_h : A < 256) (_h1 : C < 256) (_h2 : D < 256) : ((A / 4 * 64 + (A % 4 * 16 + C / 16)) * 64 + (C % 16 * 4 + D / 64)) * 64 + D % 64 = A * 65536 + C * 256 + D := by omega
theorem let_bds {A C D : Nat} (h : A < 256) (h1 : C < 256) (h2 : D < 256) : A / 4 < 64 ∧ A % 4 * 16 + C / 16 < 64 ∧ C % 16 * 4 + D / 64 < 64 ∧ D % 64 < 64 ∧ A % 4 * 16 < 64 ∧ C % 16 * 4 < 64 := by omega
theorem three_of {A C D n : Nat} (h : A < 256) (h1 : C < 256) (h2 : D < 256) (hn : n = A * 65536 + C * 256 + D) : n / 65536 % 256 = A ∧ n / 256 % 256 = C ∧ n % 256 = D := by omega
theorem three_val (a c d : UInt8) {n : Nat} (hn : n = a.toNat * 65536 + c.toNat * 256 + d.toNat) : three n = [a, c, d] := by
  obtain ⟨e1, e2, e3⟩ := three_of a.toNat_lt c.toNat_lt d.toNat_lt hn
  unfold three
  rw [ofNat_eq e1, ofNat_eq e2, ofNat_eq e3]

theorem decB_cons (a c d : UInt8) (r : List UInt8) : decB (let6 (a.toNat / 4) :: let6 (a.toNat % 4 * 16 + c.toNat / 16) :: let6 (c.toNat % 16 * 4 + d.toNat / 64) :: let6 (d.toNat % 64) :: r) = a :: c :: d :: decB r := by
  obtain ⟨b1, b2, b3, b4, b5, b6⟩ := let_bds a.toNat_lt c.toNat_lt d.toNat_lt
  rw [decB, three_val a c d]
  · rfl
  · unfold num4
    rw [bv_let _ b1, bv_let _ b2, bv_let _ b3, bv_let _ b4]
    exact num_three a.toNat_lt c.toNat_lt d.toNat_lt
theorem decB_one (a : UInt8) : decB [let6 (a.toNat / 4), let6 (a.toNat % 4 * 16), 61, 61] = [a, 0, 0] := by
  obtain ⟨b1, b2, b3, b4, b5, b6⟩ := let_bds a.toNat_lt (show 0 < 256 by omega) (show 0 < 256 by omega)
  rw [decB, three_val a 0 0]
  · rfl
  · unfold num4
    rw [bv_let _ b1, bv_let _ b5, bv_eq]
    have := num_three a.toNat_lt (show 0 < 256 by omega) (show 0 < 256 by omega)
    simpa using this
theorem decB_two (a c : UInt8) : decB [let6 (a.toNat / 4), let6 (a.toNat % 4 * 16 + c.toNat / 16), let6 (c.toNat % 16 * 4), 61] = [a, c, 0] := by
  obtain ⟨b1, b2, b3, b4, b5, b6⟩ := let_bds a.toNat_lt c.toNat_lt (show 0 < 256 by omega)
  rw [decB, three_val a c 0]
  · rfl
  · unfold num4
    rw [bv_let _ b1, bv_let _ b2, bv_let _ b6, bv_eq]
    have := num_three a.toNat_lt c.toNat_lt (show 0 < 256 by omega)
    simpa using this

theorem count_let (n : Nat) (h : n < 64) (r : List UInt8) : (let6 n :: r).count 61 = r.count 61 := List.count_cons_of_ne (let_ne n h)
/-- How many bytes of the last group are none. -/
def fills (b : List UInt8) : Nat := if b.length % 3 = 0 then 0 else 3 - b.length % 3
theorem base_count : ∀ b : List UInt8, (base b).count 61 = fills b
  | [] => rfl
  | [a] => by
    obtain ⟨b1, b2, b3, b4, b5, b6⟩ := let_bds a.toNat_lt (show 0 < 256 by omega) (show 0 < 256 by omega)
    rw [base, count_let _ b1, count_let _ b5]
    rfl
  | [a, c] => by
    obtain ⟨b1, b2, b3, b4, b5, b6⟩ := let_bds a.toNat_lt c.toNat_lt (show 0 < 256 by omega)
    rw [base, count_let _ b1, count_let _ b2, count_let _ b6]
    rfl
  | a :: c :: d :: r => by
    obtain ⟨b1, b2, b3, b4, b5, b6⟩ := let_bds a.toNat_lt c.toNat_lt d.toNat_lt
    rw [base, count_let _ b1, count_let _ b2, count_let _ b3, count_let _ b4, base_count r]
    unfold fills
    simp only [List.length_cons]
    have : (r.length + 1 + 1 + 1) % 3 = r.length % 3 := by omega
    rw [this]
theorem decB_base : ∀ b : List UInt8, decB (base b) = b ++ List.replicate (fills b) 0
  | [] => rfl
  | [a] => by rw [base, decB_one]; rfl
  | [a, c] => by rw [base, decB_two]; rfl
  | a :: c :: d :: r => by
    rw [base, decB_cons, decB_base r]
    have : fills (a :: c :: d :: r) = fills r := by
      unfold fills
      simp only [List.length_cons]
      have : (r.length + 1 + 1 + 1) % 3 = r.length % 3 := by omega
      rw [this]
    rw [this]
    rfl
theorem decB_length : ∀ (n : Nat) (s : List UInt8), s.length = 4 * n → (decB s).length = 3 * n := by
  intro n
  induction n with
  | zero =>
    intro s h
    have : s = [] := List.eq_nil_of_length_eq_zero (by omega)
    rw [this]
    rfl
  | succ n ih =>
    intro s h
    match s, h with
    | a :: b :: c :: d :: r, h =>
      simp only [List.length_cons] at h
      rw [decB, List.length_append, ih r (by omega)]
      show 3 + 3 * n = _
      omega
/-- What the program takes for the bytes of letters. -/
def cutB (s : List UInt8) : List UInt8 := (decB s).take ((decB s).length - s.count 61)
theorem cutB_base (b : List UInt8) : cutB (base b) = b := by
  unfold cutB
  rw [base_count, decB_base, List.length_append, List.length_replicate, Nat.add_sub_cancel, List.take_left' rfl]
theorem base_inj {a b : List UInt8} (h : base a = base b) : a = b := by rw [← cutB_base a, h, cutB_base]

open Classical in
/-- What DecodeBase returns of the letters of all lines. -/
noncomputable def debR (s : List UInt8) : ByteArray × Bool := if h : ∃ b, b.length ≤ 300 ∧ base b = s then (S h.choose, true) else (S [], false)
theorem debR_pos {b s : List UInt8} (h : b.length ≤ 300) (e : base b = s) : debR s = (S b, true) := by
  unfold debR
  have H : ∃ b, b.length ≤ 300 ∧ base b = s := ⟨b, h, e⟩
  rw [dif_pos H]
  have := base_inj (H.choose_spec.2.trans e.symm)
  rw [this]
theorem debR_neg {s : List UInt8} (h : ¬ ∃ b, b.length ≤ 300 ∧ base b = s) : debR s = (S [], false) := by
  unfold debR
  rw [dif_neg h]
theorem debR_len {b s : List UInt8} (h : b.length ≤ 300) (e : base b = s) : s.length ≤ 400 ∧ s.length % 4 = 0 := by
  rw [← e, base_length]
  omega

/-- A group of letters, as the reference has it. -/
def grp (a b c d : UInt8) (last : Bool) : Option (List UInt8) :=
  if bx a < 0 ∨ bx b < 0 then none
  else if c = 61 ∧ last = true then (if d = 61 then some [UInt8.ofNat (num4 a b c d / 65536)] else none)
  else if bx c < 0 then none
  else if d = 61 ∧ last = true then some [UInt8.ofNat (num4 a b c d / 65536), UInt8.ofNat (num4 a b c d / 256)]
  else if bx d < 0 then none
  else some (three (num4 a b c d))
def debS : List UInt8 → Option (List UInt8)
  | [] => some []
  | a :: b :: c :: d :: r => match grp a b c d r.isEmpty with
    | none => none
    | some g => (debS r).map fun t => g ++ t
  | _ => none
theorem debS_base : ∀ b : List UInt8, debS (base b) = some b
  | [] => rfl
  | [a] => by
    obtain ⟨b1, b2, b3, b4, b5, b6⟩ := let_bds a.toNat_lt (show 0 < 256 by omega) (show 0 < 256 by omega)
    have h := decB_one a
    rw [decB] at h
    have h0 : UInt8.ofNat (num4 (let6 (a.toNat / 4)) (let6 (a.toNat % 4 * 16)) 61 61 / 65536) = a := (List.cons.inj h).1
    rw [base, debS]
    have e : grp (let6 (a.toNat / 4)) (let6 (a.toNat % 4 * 16)) 61 61 ([] : List UInt8).isEmpty = some [a] := by
      unfold grp
      rw [if_neg (by rw [bx_let _ b1, bx_let _ b5]; omega), if_pos ⟨rfl, rfl⟩, if_pos rfl, h0]
    rw [e]
    rfl
  | [a, c] => by
    obtain ⟨b1, b2, b3, b4, b5, b6⟩ := let_bds a.toNat_lt c.toNat_lt (show 0 < 256 by omega)
    have h := decB_two a c
    rw [decB] at h
    have h0 : UInt8.ofNat (num4 (let6 (a.toNat / 4)) (let6 (a.toNat % 4 * 16 + c.toNat / 16)) (let6 (c.toNat % 16 * 4)) 61 / 65536) = a := (List.cons.inj h).1
    have h1 : UInt8.ofNat (num4 (let6 (a.toNat / 4)) (let6 (a.toNat % 4 * 16 + c.toNat / 16)) (let6 (c.toNat % 16 * 4)) 61 / 256) = c := (List.cons.inj (List.cons.inj h).2).1
    rw [base, debS]
    have e : grp (let6 (a.toNat / 4)) (let6 (a.toNat % 4 * 16 + c.toNat / 16)) (let6 (c.toNat % 16 * 4)) 61 ([] : List UInt8).isEmpty = some [a, c] := by
      unfold grp
      rw [if_neg (by rw [bx_let _ b1, bx_let _ b2]; omega), if_neg (fun q => let_ne _ b6 q.1), if_neg (by rw [bx_let _ b6]; omega), if_pos ⟨rfl, rfl⟩, h0, h1]
    rw [e]
    rfl
  | a :: c :: d :: r => by
    obtain ⟨b1, b2, b3, b4, b5, b6⟩ := let_bds a.toNat_lt c.toNat_lt d.toNat_lt
    have h := decB_cons a c d []
    rw [decB] at h
    rw [base, debS]
    have h2 : three (num4 (let6 (a.toNat / 4)) (let6 (a.toNat % 4 * 16 + c.toNat / 16)) (let6 (c.toNat % 16 * 4 + d.toNat / 64)) (let6 (d.toNat % 64))) = [a, c, d] := by
      have e0 : decB [] = [] := rfl
      rw [e0, List.append_nil] at h
      exact h
    have e : grp (let6 (a.toNat / 4)) (let6 (a.toNat % 4 * 16 + c.toNat / 16)) (let6 (c.toNat % 16 * 4 + d.toNat / 64)) (let6 (d.toNat % 64)) (base r).isEmpty = some [a, c, d] := by
      unfold grp
      rw [if_neg (by rw [bx_let _ b1, bx_let _ b2]; omega), if_neg (fun q => let_ne _ b3 q.1), if_neg (by rw [bx_let _ b3]; omega), if_neg (fun q => let_ne _ b4 q.1), if_neg (by rw [bx_let _ b4]; omega), h2]
    rw [e, debS_base r]
    rfl
theorem debS_length : ∀ (n : Nat) (s o : List UInt8), s.length ≤ n → debS s = some o → o.length ≤ s.length := by
  intro n
  induction n with
  | zero =>
    intro s o h1 h2
    have : s = [] := List.eq_nil_of_length_eq_zero (by omega)
    subst this
    have := Option.some.inj h2
    rw [← this]
    exact Nat.le_refl _
  | succ n ih =>
    intro s o h1 h2
    match s, h1 with
    | [], _ =>
      have := Option.some.inj h2
      rw [← this]
      exact Nat.le_refl _
    | [_], _ => cases h2
    | [_, _], _ => cases h2
    | [_, _, _], _ => cases h2
    | a :: b :: c :: d :: r, h1 =>
      rw [debS] at h2
      cases hg : grp a b c d r.isEmpty with
      | none => rw [hg] at h2; cases h2
      | some g =>
        rw [hg] at h2
        cases hd : debS r with
        | none => simp only [hd] at h2; cases h2
        | some t =>
          simp only [hd] at h2
          have e := Option.some.inj h2
          have ht := ih r t (by simp only [List.length_cons] at h1; omega) hd
          have hg3 : g.length ≤ 3 := by
            unfold grp at hg
            split at hg
            · cases hg
            · split at hg
              · split at hg
                · rw [← Option.some.inj hg]; simp
                · cases hg
              · split at hg
                · cases hg
                · split at hg
                  · rw [← Option.some.inj hg]; simp
                  · split at hg
                    · cases hg
                    · rw [← Option.some.inj hg]; simp [three]
          rw [← e, List.length_append]
          simp only [List.length_cons]
          omega

theorem join_flat (ls : List (List UInt8)) : Lib.join ls [] = ls.flatten := by
  cases ls with
  | nil => rfl
  | cons x r =>
    rw [Lib.join_cons, List.flatten_cons]
    unfold Lib.joinTail
    have : (fun y : List UInt8 => ([] : List UInt8) ++ y) = id := by funext y; rfl
    rw [this, List.map_id]
theorem SL_lists (ls : List (List UInt8)) : (SL ls).map (fun s => s.data.toList) = ls := by
  unfold SL
  rw [List.map_map]
  have : ((fun s : ByteArray => s.data.toList) ∘ S) = id := by funext l; exact data_S l
  rw [this, List.map_id]
theorem flat_len (ls : List (List UInt8)) (m : Nat) (h : ∀ l ∈ ls, l.length ≤ m) : ls.flatten.length ≤ ls.length * m := by
  induction ls with
  | nil => simp
  | cons l r ih =>
    have h1 := h l (by simp)
    have h2 := ih (fun x hx => h x (by simp [hx]))
    rw [List.flatten_cons, List.length_append, List.length_cons, Nat.succ_mul]
    omega

end Go.Proofs.Ytdkgbemlfajhcaa.M
