/- Plain mathematics of names that are written and read back; no program in sight. No conditions. -/
import Derived.Test.YtdkgbemlfajhcaaDoorMEnc
namespace Go.Proofs.YtdkgbemlfajhcaaDoor.M
open Go.RowKit Go.Proofs.YtdkgbemlfajhcaaDoorW.PrintWords

theorem codeW_head (w : List UInt8) : ∃ r, codeW w = 61 :: 63 :: r := ⟨[117, 116, 102, 45, 56, 63, 113, 63] ++ codeL w ++ [63, 61], rfl⟩
theorem spaced_pre (w : List UInt8) (ws : List (List UInt8)) : ∃ r, spaced (w :: ws) = codeW w ++ r ∧ (ws = [] → r = []) ∧ (ws ≠ [] → 1 ≤ r.length) := by
  by_cases h : ws = []
  · subst h
    exact ⟨[], by rw [spaced_one, List.append_nil], fun _ => rfl, fun q => absurd rfl q⟩
  · exact ⟨[32] ++ spaced ws, by rw [spaced_cons w h, List.append_assoc], fun q => absurd q h, fun _ => by simp⟩
theorem spaced_end : ∀ ws : List (List UInt8), ws ≠ [] → ∃ t, spaced ws = t ++ [63, 61]
  | [], h => absurd rfl h
  | [w], _ => ⟨codePre ++ codeL w, by rw [spaced_one]; rfl⟩
  | w :: v :: r, _ => by
    obtain ⟨t, ht⟩ := spaced_end (v :: r) (by simp)
    refine ⟨codeW w ++ [32] ++ t, ?_⟩
    rw [spaced_cons w (by simp), ht]
    simp only [List.append_assoc]
theorem spaced_print : ∀ ws : List (List UInt8), ∀ d ∈ spaced ws, 32 ≤ d.toNat ∧ d.toNat ≤ 126
  | [], d, h => by rw [spaced_nil] at h; cases h
  | [w], d, h => by
    rw [spaced_one] at h
    have := codeW_print w d h
    omega
  | w :: v :: r, d, h => by
    rw [spaced_cons w (by simp)] at h
    rcases List.mem_append.1 h with h | h
    · rcases List.mem_append.1 h with h | h
      · have := codeW_print w d h
        omega
      · rw [List.mem_singleton.1 h]
        decide
    · exact spaced_print (v :: r) d h
theorem needC_nil : needC [] = false := by
  have h1 : textOK [] := ⟨Nat.zero_le _, fun c h => by cases h⟩
  have h2 : trim [] = [] := rfl
  unfold needC
  rw [decide_eq_true h1, decide_eq_true h2]
  rfl
theorem needC_ne {b : List UInt8} (h : needC b = true) : b ≠ [] := by
  intro q
  rw [q, needC_nil] at h
  cases h
theorem no32 (w : List UInt8) : ∀ x ∈ codeW w, x ≠ 32 := by
  intro x hx q
  have := (codeW_print w x hx).1
  rw [q] at this
  exact absurd this (by decide)
theorem parts_spaced : ∀ ws : List (List UInt8), ws ≠ [] → parts 32 (spaced ws) = ws.map codeW
  | [], h => absurd rfl h
  | [w], _ => by rw [spaced_one, parts_none (no32 w)]; rfl
  | w :: v :: r, _ => by
    have ih := parts_spaced (v :: r) (by simp)
    rw [spaced_cons w (by simp), List.append_assoc, List.singleton_append, parts_cut _ (no32 w), ih]
    rfl
theorem isC_word {w : List UInt8} (h : codeOK w) : isC (codeW w) = true ∧ ownN (codeW w) = w := by
  have e : isC (codeW w) = true := by unfold isC; rw [readR_pos h rfl]
  exact ⟨e, by rw [ownN_is e, readR_pos h rfl, data_S]⟩
theorem dec_words : ∀ ws : List (List UInt8), (∀ w ∈ ws, codeOK w) → decN (ws.map codeW) false true = ws.flatten
  | [], _ => rfl
  | w :: r, h => by
    obtain ⟨h1, h2⟩ := isC_word (h w (by simp))
    rw [List.map_cons, decN_near _ (Or.inr ⟨rfl, h1⟩), h1, h2, dec_words r (fun x hx => h x (by simp [hx])), List.flatten_cons]
theorem dec_words_first {ws : List (List UInt8)} (hw : ∀ w ∈ ws, codeOK w) : decN (ws.map codeW) true false = ws.flatten := by
  cases ws with
  | nil => rfl
  | cons w r =>
    obtain ⟨h1, h2⟩ := isC_word (hw w (by simp))
    rw [List.map_cons, decN_near _ (Or.inl rfl), h1, h2, dec_words r (fun x hx => hw x (by simp [hx])), List.flatten_cons]
/-- A word that is not the last one is nearly full. -/
theorem grow_stop : ∀ (f : Nat) (b : List UInt8) (n : Nat), b.length ≤ n + f → grow f b n < b.length → 28 < (codeL (b.take (grow f b n + 1))).length := by
  intro f
  induction f with
  | zero =>
    intro b n h1 h2
    unfold grow at h2
    omega
  | succ f ih =>
    intro b n h1 h2
    unfold grow at h2 ⊢
    by_cases h : n < b.length ∧ (codeL (b.take (n + 1))).length ≤ 28
    · rw [if_pos h] at h2 ⊢
      exact ih b (n + 1) (by omega) h2
    · rw [if_neg h] at h2 ⊢
      exact Nat.lt_of_not_le (fun q => h ⟨h2, q⟩)
theorem cut_full {b : List UInt8} (h : cutW b < b.length) : 26 ≤ (codeL (b.take (cutW b))).length := by
  have h1 := grow_stop b.length b 1 (by omega) h
  have e : b.take (grow b.length b 1 + 1) = b.take (grow b.length b 1) ++ [b[grow b.length b 1]'h] := (List.take_append_getElem h).symm
  rw [e, codeL_snoc, List.length_append] at h1
  have := (codeB_length (b[grow b.length b 1]'h)).2
  unfold cutW
  omega
theorem words_few : ∀ (n : Nat) (b : List UInt8), b.length ≤ n → b ≠ [] → 26 * (words b).length ≤ (codeL b).length + 25 := by
  intro n
  induction n with
  | zero => intro b h hb; exact absurd (List.eq_nil_of_length_eq_zero (by omega)) hb
  | succ n ih =>
    intro b h hb
    obtain ⟨c1, c2, _⟩ := cutW_bd hb
    have hl := List.length_pos_iff.2 hb
    have hs : (codeL b).length = (codeL (b.take (cutW b))).length + (codeL (b.drop (cutW b))).length := by
      rw [← List.length_append, ← codeL_append, List.take_append_drop]
    rw [words_cons hb, List.length_cons]
    by_cases hd : b.drop (cutW b) = []
    · rw [hd, words_nil, List.length_nil]
      have := (codeL_length b).1
      omega
    · have hlt : cutW b < b.length := by
        apply Decidable.byContradiction
        intro q
        exact hd (List.drop_of_length_le (by omega))
      have hf := cut_full hlt
      have := ih (b.drop (cutW b)) (by rw [List.length_drop]; omega) hd
      omega
theorem spaced_size : ∀ ws : List (List UInt8), ws ≠ [] → (spaced ws).length + 1 = (codeL ws.flatten).length + 13 * ws.length
  | [], h => absurd rfl h
  | [w], _ => by
    rw [spaced_one, codeW_length]
    simp
  | w :: v :: r, _ => by
    have ih := spaced_size (v :: r) (by simp)
    rw [spaced_cons w (by simp), List.length_append, List.length_append, codeW_length, List.flatten_cons, codeL_append, List.length_append]
    simp only [List.length_cons, List.length_nil] at ih ⊢
    omega
theorem words_ne {b : List UInt8} (h : b ≠ []) : words b ≠ [] := by
  rw [words_cons h]
  simp
/-- A name that was coded is read back. -/
theorem name_spaced {b : List UInt8} (hb : b ≠ []) (hl : b.length ≤ 120) : nameR (spaced (words b)) = (S b, true) := by
  obtain ⟨h1, h2, _⟩ := words_ok b.length b (Nat.le_refl _)
  have hw := words_ne hb
  have hs := spaced_size _ hw
  have hf := words_few b.length b (Nat.le_refl _) hb
  have hc := (codeL_length b).2
  rw [h2] at hs
  unfold nameR
  rw [if_neg (by omega), parts_spaced _ hw, dec_words_first h1, h2, resN_short (by omega)]
theorem hasQ_left (b : List UInt8) : ∀ a : List UInt8, hasQ a = true → hasQ (a ++ b) = true
  | [], h => by cases h
  | [x], h => by cases h
  | x :: y :: r, h => by
    rw [hasQ, Bool.or_eq_true] at h
    show hasQ (x :: y :: (r ++ b)) = true
    rw [hasQ, Bool.or_eq_true]
    rcases h with h | h
    · exact Or.inl h
    · exact Or.inr (hasQ_left b (y :: r) h)
theorem hasQ_cons (x : UInt8) {b : List UInt8} (h : hasQ b = true) : hasQ (x :: b) = true := by
  cases b with
  | nil => cases h
  | cons y r => rw [hasQ, h, Bool.or_true]
theorem hasQ_right {b : List UInt8} (h : hasQ b = true) : ∀ a : List UInt8, hasQ (a ++ b) = true
  | [] => h
  | x :: r => hasQ_cons x (hasQ_right h r)
theorem inter_cons (p : List UInt8) {r : List (List UInt8)} (h : r ≠ []) : [32].intercalate (p :: r) = p ++ ([32] ++ [32].intercalate r) := by
  cases r with
  | nil => exact absurd rfl h
  | cons u v => simp [List.intercalate]
theorem inter_one (p : List UInt8) : [32].intercalate [p] = p := by simp [List.intercalate]
theorem hasQ_part : ∀ (ps : List (List UInt8)) (p : List UInt8), p ∈ ps → hasQ p = true → hasQ ([32].intercalate ps) = true
  | [], p, h, _ => by cases h
  | [q], p, h, hq => by
    rw [inter_one, ← List.mem_singleton.1 h]
    exact hq
  | q :: u :: r, p, h, hq => by
    rw [inter_cons q (by simp)]
    rcases List.mem_cons.1 h with h | h
    · rw [← h]
      exact hasQ_left _ p hq
    · exact hasQ_right (hasQ_right (hasQ_part (u :: r) p h hq) _) _
theorem isC_hasQ {p : List UInt8} (h : isC p = true) : hasQ p = true := by
  by_cases c : ∃ b, codeOK b ∧ codeW b = p
  · obtain ⟨b, _, h2⟩ := c
    obtain ⟨r, hr⟩ := codeW_head b
    rw [← h2, hr, hasQ]
    rfl
  · unfold isC at h
    rw [readR_neg c] at h
    cases h
theorem dec_plain : ∀ (ps : List (List UInt8)) (coded : Bool), (∀ p ∈ ps, isC p = false) → ps ≠ [] → decN ps true coded = [32].intercalate ps ∧ decN ps false false = [32] ++ [32].intercalate ps := by
  intro ps
  induction ps with
  | nil => intro _ _ h; exact absurd rfl h
  | cons p r ih =>
    intro coded h _
    have hc := h p (by simp)
    rw [decN_near _ (Or.inl rfl), decN_far _ (by simp), hc, ownN_not hc]
    by_cases hr : r = []
    · subst hr
      simp [decN, List.intercalate]
    · obtain ⟨_, h2⟩ := ih false (fun q hq => h q (by simp [hq])) hr
      rw [h2, inter_cons p hr]
      exact ⟨rfl, rfl⟩
/-- A name that needs no code is read as itself. -/
theorem name_plain {b : List UInt8} (hq : hasQ b = false) (hl : b.length ≤ 120) : nameR b = (S b, true) := by
  have h := (dec_plain (parts 32 b) false (fun p hp => by
    cases hc : isC p with
    | false => rfl
    | true =>
      have := hasQ_part (parts 32 b) p hp (isC_hasQ hc)
      rw [parts_join, hq] at this
      cases this) (parts_ne 32 b)).1
  rw [parts_join] at h
  unfold nameR
  rw [if_neg (by omega), h, resN_short (by omega)]
theorem needC_no {b : List UInt8} (h : needC b = false) : hasQ b = false ∧ b.length ≤ 120 := by
  unfold needC at h
  simp only [Bool.or_eq_false_iff, Bool.not_eq_false', decide_eq_true_eq, decide_eq_false_iff_not] at h
  exact ⟨h.1.1.1, by omega⟩

/-- What EncodeName returns, case by case. -/
theorem encR_long {b : List UInt8} (h : b.length > 120) : encR b = (S [], false) := by unfold encR; rw [if_pos h]
theorem encR_own {b : List UInt8} (h : needC b = false) : encR b = (S b, true) := by
  have := (needC_no h).2
  unfold encR
  rw [if_neg (by omega), h, if_neg (by decide)]
theorem encR_code {b : List UInt8} (h : ¬ b.length > 120) (hn : needC b = true) : encR b = (S (spaced (words b)), true) := by
  unfold encR
  rw [if_neg h, if_pos hn]

end Go.Proofs.YtdkgbemlfajhcaaDoor.M
