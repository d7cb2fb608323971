-- Written by a program of this session (wip/tool/myprint.py) out of the translation.
import Derived.Test.YthmdblcgiljhpaaDoorRows
import Derived.Test.YthmdblcgiljhpaaDoorCards
import Derived.Test.YthmdblcgiljhpaaDoorTie
import Derived.Test.YthmdblcgiljhpaaDoorPFnExactFoldFieldsx8
import Derived.Test.YthmdblcgiljhpaaDoorPureFnExactFoldFields
import Derived.WalkKit
import Derived.ProofKit
import Derived.DataReads
import Derived.OpenShut
import Derived.ShutString
import Derived.ChangeOld
import Derived.Below
import Derived.SizedLaws
import Derived.SliceStrings
import Derived.Lib.SmallJoins
import Derived.Deep.Slices
import Derived.Deep.Fields
import Derived.ChangeSame
import Derived.Handed
import Derived.HandedShaped
import Derived.LaidMore
import Derived.Lay
import Derived.SevenTiedAt
import Derived.Stop.Joined
namespace Go.Proofs.YthmdblcgiljhpaaDoor.fnExactFoldFields
open Go.ChangeShapes Go.WideShapes Go.ChangeAt Go.RowKit Go.Joins Go.Deep Go.Proofs.YthmdblcgiljhpaaDoorW.PrintWords
open Go.ChangeMaps (open_string shut_string)
set_option linter.unusedVariables false
theorem own : ownKnob Tryd.prog.godebug = none := by kernel_rfl
theorem laidOut : laidOutB Tryd.prog = true := by kernel_rfl
theorem open_pairs {H : Type} {enc : TypeId × Value → H} {P : Program} {w : World} {base : Nat} {spare : Nat → Bool} {held : Bool} {t e : TypeId} {f0 f1 : Field} {fuel : Nat} {cs : List Value} {x : DataW H × List MemPlace} (ht : P.underlying t = some (.slice e)) (hs : P.underlying e = some (.struct #[f0, f1]))
    (h0 : P.underlying f0.type = some .string) (h1 : P.underlying f1.type = some .string) (ho : (f0.offset = 0) = True ∧ (f1.offset = 1) = True) (hc : P.cellsOf e = 2) (hc1 : (P.cellsOf f0.type = 1) = True ∧ (P.cellsOf f1.type = 1) = True)
    (h : DataW.trod enc P w base spare held fuel t cs = some x) :
    cs = [.slice none 0 0] ∨ ∃ (a : Addr) (len cap : Nat) (ps : List (ByteArray × ByteArray)), cs = [.slice (some a) len cap] ∧ len ≤ cap ∧ cap ≤ maxLen ∧ ps.length = len ∧
      (∀ j p, ps[j]? = some p → w.cell? (a.add (j * 2 + 0)) = some (.string p.1) ∧ w.cell? (a.add (j * 2 + 1)) = some (.string p.2)) ∧ (∀ p ∈ ps, p.1.size ≤ maxLen ∧ p.2.size ≤ maxLen) := by
  rcases DataW.trod_slice ht h with h0_ | ⟨a, len, cap, elems, rest, n, _, rfl, rfl, hb, hl, hm, hlen, hel, _, _⟩
  · exact Or.inl h0_.1
  right
  have each : ∀ i, i < len → ∃ p : ByteArray × ByteArray, w.cell? (a.add (i * 2 + 0)) = some (.string p.1) ∧ w.cell? (a.add (i * 2 + 1)) = some (.string p.2) ∧ p.1.size ≤ maxLen ∧ p.2.size ≤ maxLen := by
    intro i hi
    obtain ⟨y, hy⟩ : ∃ y, elems[i]? = some y := ⟨elems[i]'(by omega), List.getElem?_eq_getElem (by omega)⟩
    have hb' := hel i hi
    rw [hy, hc, Option.bind_eq_some_iff] at hb'
    obtain ⟨cs', hcs, hy'⟩ := hb'
    obtain ⟨_, hn2, hcell⟩ := World.cells?_some hcs
    obtain ⟨y0, y1, m, _, _, t0, t1⟩ := Go.ChangeShapes.trod_struct2 hs hy'
    rw [of_eq_true ho.1, of_eq_true hc1.1] at t0
    rw [of_eq_true ho.2, of_eq_true hc1.2] at t1
    obtain ⟨s0, e0, _, z0⟩ := DataW.trod_string h0 t0
    obtain ⟨s1, e1, _, z1⟩ := DataW.trod_string h1 t1
    match cs', hn2, hcell, e0, e1 with
    | [u0, u1], _, hcell, e0, e1 =>
      have q0 : u0 = .string s0 := by simpa using e0
      have q1 : u1 = .string s1 := by simpa using e1
      have c0 := hcell 0 (by omega)
      have c1 := hcell 1 (by omega)
      have add2 : ∀ (b : Addr) (m n : Nat), (b.add m).add n = b.add (m + n) := fun b m n => by
        unfold Addr.add
        repeat' split
        all_goals first | rfl | (simp_all; done) | (simp_all; omega)
      rw [add2] at c0 c1
      exact ⟨(s0, s1), by rw [c0, q0]; rfl, by rw [c1, q1]; rfl, z0, z1⟩
  have build : ∀ n, n ≤ len → ∃ ps : List (ByteArray × ByteArray), ps.length = n ∧ (∀ j p, ps[j]? = some p → w.cell? (a.add (j * 2 + 0)) = some (.string p.1) ∧ w.cell? (a.add (j * 2 + 1)) = some (.string p.2)) ∧ (∀ p ∈ ps, p.1.size ≤ maxLen ∧ p.2.size ≤ maxLen) := by
    intro n
    induction n with
    | zero => intro _; exact ⟨[], rfl, fun j p hj => by simp at hj, fun p hp => by cases hp⟩
    | succ n ih =>
      intro hn
      obtain ⟨ps, p1, p2, p3⟩ := ih (by omega)
      obtain ⟨p, q1, q2, q3, q4⟩ := each n (by omega)
      refine ⟨ps ++ [p], by simp [p1], fun j r hj => ?_, fun r hr => ?_⟩
      · by_cases hjn : j < n
        · rw [List.getElem?_append_left (by omega)] at hj
          exact p2 j r hj
        · rw [List.getElem?_append_right (by omega)] at hj
          have hz : j - ps.length = 0 := by
            have := (List.getElem?_eq_some_iff.1 hj).1
            simp at this
            omega
          rw [hz] at hj
          obtain rfl : p = r := by simpa using hj
          obtain rfl : j = n := by omega
          exact ⟨q1, q2⟩
      · rcases List.mem_append.1 hr with hr | hr
        · exact p3 r hr
        · simp only [List.mem_singleton] at hr
          subst hr
          exact ⟨q3, q4⟩
  obtain ⟨ps, p1, p2, p3⟩ := build len (Nat.le_refl _)
  exact ⟨a, len, cap, ps, rfl, hl, hm, p1, p2, p3⟩
set_option maxRecDepth 100000 in
theorem lifted (os : Os) (started : os.Started) (H : Type) (enc : TypeId × Value → H) :
    ReturnsInHanded {} Tryd.checked os 3 .any (fun w args => (Rows.fnExactFoldFieldsSpec.pre enc Tryd.prog Tryd.f3 Rows.fnExactFoldFieldsRow.domain false w args ∧ laidMetH Tryd.prog Rows.fnExactFoldFieldsRow.laid w) ∧ sizedMet enc Tryd.prog Tryd.f3 (OpenSpec.ofChange Rows.fnExactFoldFieldsSpec) false w args) (Rows.fnExactFoldFieldsSpec.post enc Tryd.prog Tryd.f3 false true false false) := by
  refine returnsInHanded_of_change_and (C := Tryd.checked) (X := (fun w _ => laidMetH Tryd.prog Rows.fnExactFoldFieldsRow.laid w)) (fun _ _ _ hh h => h.of_heap hh) own started (by kernel_rfl) Tryd.func3
    (ChangeSpec.witness_shaped (enc := enc) (C := Tryd.checked) (os := os) (X := (fun w _ => laidMetH Tryd.prog Rows.fnExactFoldFieldsRow.laid w)) false (World.laidAll Tryd.prog os Rows.fnExactFoldFieldsRow.laid) #[.slice none 0 0] 8 (World.laidAll_os _ _ _)
      (World.shaped_of_ZipB (by kernel_rfl) (by kernel_rfl)) (by kernel_rfl) (by kernel_rfl) (by kernel_rfl) (by rw [MakeChecks.laidMetH_plain _ _ _ (by kernel_rfl)]; exact laidMet_laidAll _ (by kernel_rfl) (by kernel_rfl))) ?_
  intro W base args ds gs before hval0 hW hcnd hsz0 hL _
  have hsz : (DataW.weightsEach Tryd.prog (Tryd.f3.params.toList ++ Rows.fnExactFoldFieldsSpec.plain.varTypes Tryd.prog) (ds ++ gs)).all (· ≤ reachBytes) = true := hsz0
  have hval : ∀ (j : Nat) t v, Tryd.f3.params[j]? = some t → args[j]? = some v → Value.okWide Tryd.prog W .any base t v := hval0
  have hW' := hW
  obtain ⟨p, q, hA0, hV, rfl, hfz, hnd⟩ := hW
  have hA : DataW.TrodAll enc Tryd.prog W 0 (fun _ => true) true Tryd.f3.params.toList args.toList ds p := hA0
  rw [Tryd.params3] at hA hval hsz
  obtain ⟨v0, vs0, d0, ds0, p0, q0, hargs, rfl, rfl, h0, r0⟩ := trodAll_cons hA
  obtain ⟨rfl, rfl, rfl⟩ := trodAll_nil r0
  obtain rfl : args = #[v0] := by cases args; simp_all
  obtain ⟨rfl, rfl⟩ := trodVars_none hV
  have k0 := h0
  have lt0 : ∀ x ∈ p0, x.block < W.heap.size := by obtain ⟨m, hm⟩ := k0; exact DataW.trod_lt m _ _ _ hm
  obtain ⟨a0, len0, cap0, rfl⟩ := okWide_slice Tryd.underlying22 (hval 0 22 v0 rfl rfl)
  obtain ⟨l0, rfl, hr0, hc0, hm0, hs0⟩ : ∃ l : List PFnExactFoldFields.S49, len0 = l.length ∧ Kd.C PFnExactFoldFields.k49 W a0 l.length l ∧ l.length ≤ cap0 ∧ l.length ≤ maxLen ∧ ∀ s ∈ l, s.f0.size ≤ maxLen ∧ s.f1.size ≤ maxLen := by
    obtain ⟨fuel, hf⟩ := h0
    rcases open_pairs Tryd.underlying22 Tryd.underlying49 Tryd.underlying9 Tryd.underlying9 ⟨eq_true (by kernel_rfl), eq_true (by kernel_rfl)⟩ (by kernel_rfl) ⟨eq_true (by kernel_rfl), eq_true (by kernel_rfl)⟩ hf with hcs | ⟨x, l, c, ps, hcs, hl, hm, hz, hcell, hwz⟩
    · simp [Value.cells] at hcs
      obtain ⟨rfl, rfl, rfl⟩ := hcs
      exact ⟨[], rfl, ⟨rfl, by decide, fun h => absurd h (by decide)⟩, by simp, by simp, by simp⟩
    · simp [Value.cells] at hcs
      obtain ⟨rfl, rfl, rfl⟩ := hcs
      have hM : maxLen = 9223372036854775807 := rfl
      have hlen : (ps.map fun p : ByteArray × ByteArray => (⟨p.1, p.2⟩ : PFnExactFoldFields.S49)).length = len0 := by rw [List.length_map, hz]
      refine ⟨ps.map fun p => ⟨p.1, p.2⟩, hlen.symm, ⟨rfl, by omega, fun _ => ⟨x, rfl, fun j p hj => ?_⟩⟩, by omega, by omega, fun s hs => ?_⟩
      · rw [List.getElem?_map] at hj
        obtain ⟨y, hy, rfl⟩ := Option.map_eq_some_iff.1 hj
        obtain ⟨h1, h2⟩ := hcell j y hy
        refine ⟨[.string y.1, .string y.2], rfl, PFnExactFoldFields.k49_mk _ _, fun q u hu => ?_⟩
        match q, hu with
        | 0, hu => exact h1.trans hu
        | 1, hu => exact h2.trans hu
      · obtain ⟨y, hy, rfl⟩ := List.mem_map.1 hs
        exact hwz y hy
  clear hA0 hval0 hsz0 hsz
  obtain ⟨k, h⟩ := Pure.FnExactFoldFields l0 hm0 hs0
  refine (PFnExactFoldFields.laws_FnExactFoldFields.calls k _ _ l0 true W hr0 hc0 h).mono fun e W' ⟨he, hd⟩ => ?_
  have bel : Below W.heap.size W W' := hd
  subst he
  exact ⟨_, rfl, _, _, _, [], _, [], hW', trodAll_mk1 (shut_bool Tryd.underlying4 _), (trodAll_cons_mk (Below.trod laidOut (by kernel_rfl) (of_decide_eq_true (by kernel_rfl)) k0 bel lt0) trodAll_mk0), rfl, bel.frame _, fun h => by cases h⟩
theorem over : Rows.fnExactFoldFieldsRow.holds Tryd.pinned (OpenSpec.ofChange Rows.fnExactFoldFieldsSpec) :=
  OpenClaim.holds_of_wide 3 Tryd.f3 rfl rfl rfl rfl rfl rfl rfl ⟨rfl, rfl, rfl, rfl, rfl⟩ rfl rfl rfl rfl rfl (by kernel_rfl) Tryd.func3 (by kernel_rfl)
    (of_decide_eq_true (by kernel_rfl)) (by unfold Func.isWrapper; first | (rw [if_pos (by decide +kernel)]; kernel_rfl) | (rw [if_neg (by decide +kernel)]; exact ⟨rfl, rfl⟩))
    (fun os started H enc _ => lifted os started H enc)
theorem card : Rows.FnExactFoldFieldsCardSaid :=
  Claim7.holds_tied_plain_at .later [] [.data, .pinned] true (true, "f5c3f760cddd11ccf33a6cd959491ef9144b30ad1b3257402fe3394a41d7da7a") false over (fun _ h => by cases h) (by kernel_rfl) (fun _ h => by cases h) fnExactFoldFields_row_tie rfl ⟨rfl, rfl⟩ (by kernel_rfl) rfl
    (fun f fn hf hfn => by
      obtain rfl : f = 3 := Option.some.inj ((show Tryd.prog.funcNamed "loop.example/mailwire/laws.FnExactFoldFields" = some 3 by kernel_rfl).symm.trans hf) |>.symm
      obtain rfl : fn = Tryd.f3 := (Option.some.inj (Tryd.func3.symm.trans hfn)).symm
      exact ⟨by kernel_rfl, fun j t ht => by
        have hm : t ∈ Tryd.f3.params.toList := by simpa using Array.mem_of_getElem? ht
        have hall : (Tryd.f3.params.toList.all fun u => !Tryd.prog.wantsStandIn u) = true := by kernel_rfl
        exact (show Tryd.prog.wantsStandIn t = false by simpa using List.all_eq_true.1 hall t hm)⟩)
    (by kernel_rfl)
#print axioms card
end Go.Proofs.YthmdblcgiljhpaaDoor.fnExactFoldFields
namespace Go.Proofs.YthmdblcgiljhpaaDoor
/-- The row, under a short name, for the claim. -/
theorem fnExactFoldFields_holds : Rows.FnExactFoldFieldsCardSaid := fnExactFoldFields.card
end Go.Proofs.YthmdblcgiljhpaaDoor
