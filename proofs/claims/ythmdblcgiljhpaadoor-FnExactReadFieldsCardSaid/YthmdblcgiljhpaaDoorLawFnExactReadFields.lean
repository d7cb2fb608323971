-- Written by a program of this session (wip/tool/myprint.py) out of the translation.
import Derived.Test.YthmdblcgiljhpaaDoorRows
import Derived.Test.YthmdblcgiljhpaaDoorCards
import Derived.Test.YthmdblcgiljhpaaDoorTie
import Derived.Test.YthmdblcgiljhpaaDoorPFnExactReadFieldsx8
import Derived.Test.YthmdblcgiljhpaaDoorPureFnExactReadFields
import Derived.WalkKit
import Derived.ProofKit
import Derived.OpenShut
import Derived.ShutString
import Derived.ChangeOld
import Derived.Below
import Derived.SizedLaws
import Derived.SliceStrings
import Derived.Lib.SmallJoins
import Derived.Deep.Slices
import Derived.Deep.Fields
import Derived.ChangeSame
import Derived.Handed
import Derived.HandedShaped
import Derived.LaidMore
import Derived.Lay
import Derived.SevenTiedAt
import Derived.Stop.Joined
namespace Go.Proofs.YthmdblcgiljhpaaDoor.fnExactReadFields
open Go.ChangeShapes Go.WideShapes Go.ChangeAt Go.RowKit Go.Joins Go.Deep Go.Proofs.YthmdblcgiljhpaaDoorW.PrintWords
open Go.ChangeMaps (open_string shut_string)
set_option linter.unusedVariables false
theorem own : ownKnob Tryd.prog.godebug = none := by kernel_rfl
theorem laidOut : laidOutB Tryd.prog = true := by kernel_rfl
set_option maxRecDepth 100000 in
theorem lifted (os : Os) (started : os.Started) (H : Type) (enc : TypeId × Value → H) :
    ReturnsInHanded {} Tryd.checked os 6 .any (fun w args => (Rows.fnExactReadFieldsSpec.pre enc Tryd.prog Tryd.f6 Rows.fnExactReadFieldsRow.domain false w args ∧ laidMetH Tryd.prog Rows.fnExactReadFieldsRow.laid w) ∧ sizedMet enc Tryd.prog Tryd.f6 (OpenSpec.ofChange Rows.fnExactReadFieldsSpec) false w args) (Rows.fnExactReadFieldsSpec.post enc Tryd.prog Tryd.f6 false true false false) := by
  refine returnsInHanded_of_calls own started (by kernel_rfl)
    (ChangeSpec.witness_shaped (enc := enc) (C := Tryd.checked) (os := os) (X := (fun w _ => laidMetH Tryd.prog Rows.fnExactReadFieldsRow.laid w)) false (World.laidAll Tryd.prog os Rows.fnExactReadFieldsRow.laid) #[.slice none 0 0] 8 (World.laidAll_os _ _ _)
      (World.shaped_of_ZipB (by kernel_rfl) (by kernel_rfl)) (by kernel_rfl) (by kernel_rfl) (by kernel_rfl) (by rw [MakeChecks.laidMetH_plain _ _ _ (by kernel_rfl)]; exact laidMet_laidAll _ (by kernel_rfl) (by kernel_rfl))) ?_
  intro w00 tape i00 _ hsh00 _ hok00 hpre00 _
  obtain ⟨_, _, _, fn00, hfn00, _, _, _, _, hval00⟩ := hok00
  obtain rfl : fn00 = Tryd.f6 := Option.some.inj (hfn00.symm.trans Tryd.func6)
  obtain ⟨⟨⟨ds, gs, before, hw00, hcnd⟩, hl00⟩, hz00⟩ := hpre00
  have hW := DataW.Whole.of_heap (w' := w00.forCall tape i00) (by rfl) hw00
  refine (?_ : Calls Tryd.prog 6 i00.args (w00.forCall tape i00) fun e W' => ∃ v, e = .returned v ∧ Rows.fnExactReadFieldsSpec.post enc Tryd.prog Tryd.f6 false true false false (w00.forCall tape i00) i00.args v W').mono fun e W' ⟨v, he, hp⟩ => by
    subst he
    exact ChangeSpec.post_blind hp
  have hsz0 := hz00.weights hw00
  have hL := hl00.of_heap (w' := w00.forCall tape i00) (by rfl)
  have hval0 := hval00
  obtain ⟨base, eb⟩ : ∃ base, base = w00.heap.size := ⟨_, rfl⟩
  obtain ⟨W, eW⟩ : ∃ W, W = w00.forCall tape i00 := ⟨_, rfl⟩
  obtain ⟨args, ea⟩ : ∃ args, args = i00.args := ⟨_, rfl⟩
  rw [← eW] at hW hsh00 hval0 hL ⊢
  rw [← ea] at hW hval0 ⊢
  rw [← eb] at hval0
  clear hval00 hw00 hl00 hz00 eW ea eb
  have hsz : (DataW.weightsEach Tryd.prog (Tryd.f6.params.toList ++ Rows.fnExactReadFieldsSpec.plain.varTypes Tryd.prog) (ds ++ gs)).all (· ≤ reachBytes) = true := hsz0
  have hval : ∀ (j : Nat) t v, Tryd.f6.params[j]? = some t → args[j]? = some v → Value.okWide Tryd.prog W .any base t v := hval0
  have hW' := hW
  obtain ⟨p, q, hA0, hV, rfl, hfz, hnd⟩ := hW
  have hA : DataW.TrodAll enc Tryd.prog W 0 (fun _ => true) true Tryd.f6.params.toList args.toList ds p := hA0
  rw [Tryd.params6] at hA hval hsz
  obtain ⟨v0, vs0, d0, ds0, p0, q0, hargs, rfl, rfl, h0, r0⟩ := trodAll_cons hA
  obtain ⟨rfl, rfl, rfl⟩ := trodAll_nil r0
  obtain rfl : args = #[v0] := by cases args; simp_all
  obtain ⟨rfl, rfl⟩ := trodVars_none hV
  have k0 := h0
  have lt0 : ∀ x ∈ p0, x.block < W.heap.size := by obtain ⟨m, hm⟩ := k0; exact DataW.trod_lt m _ _ _ hm
  obtain ⟨a0, len0, cap0, rfl⟩ := okWide_slice Tryd.underlying24 (hval 0 24 v0 rfl rfl)
  obtain ⟨l0, rfl, hr0, hc0, hm0, hs0⟩ : ∃ l : List ByteArray, len0 = l.length ∧ Kd.C Kd.string W a0 l.length l ∧ l.length ≤ cap0 ∧ l.length ≤ maxLen ∧ ∀ s ∈ l, s.size ≤ maxLen := by
    obtain ⟨fuel, hf⟩ := h0
    rcases open_strings Tryd.underlying24 Tryd.underlying9 (by kernel_rfl) hf with ⟨hcs, _⟩ | ⟨x, l, c, ss, hcs, _, hl, hm, hz, _, hcell, hwz⟩
    · simp [Value.cells] at hcs
      obtain ⟨rfl, rfl, rfl⟩ := hcs
      exact ⟨[], rfl, Kd.C_of_reads (d := ByteArray.empty) (h1 := fun _ => rfl) ⟨rfl, by decide, fun h => absurd h (by decide)⟩, by simp, by simp, by simp⟩
    · simp [Value.cells] at hcs
      obtain ⟨rfl, rfl, rfl⟩ := hcs
      have hlen : (ss.take len0).length = len0 := by rw [List.length_take, hz]; simp; omega
      refine ⟨ss.take len0, hlen.symm, Kd.C_of_reads (d := ByteArray.empty) (h1 := fun _ => rfl) ⟨rfl, ?_, fun _ => ⟨x, rfl, fun j hj => ?_⟩⟩, by omega, by omega, fun s h => hwz s (List.mem_of_mem_take h)⟩
      · have : maxLen = 9223372036854775807 := rfl
        omega
      · rw [hlen] at hj
        have hz2 : ss.length = cap0 := by rw [hz]; simp
        rw [hcell j (by omega), List.getD_eq_getElem?_getD, List.getD_eq_getElem?_getD, List.getElem?_take_of_lt hj]
  clear hA0 hval0 hsz0 hsz
  obtain ⟨k, h⟩ := Pure.FnExactReadFields l0 hm0 hs0
  have hAmb : PFnExactReadFields.AmbM W := Go.Proofs.Tryd.laysM145.s1_3 W hsh00
  refine (PFnExactReadFields.laws_FnExactReadFields.calls k _ _ l0 true W hr0 hc0 h).mono fun e W' ⟨he, hd⟩ => ?_
  have bel : Below W.heap.size W W' := hd
  subst he
  exact ⟨_, rfl, _, _, _, [], _, [], hW', trodAll_mk1 (shut_bool Tryd.underlying4 _), (trodAll_cons_mk (Below.trod laidOut (by kernel_rfl) (of_decide_eq_true (by kernel_rfl)) k0 bel lt0) trodAll_mk0), rfl, bel.frame _, fun h => by cases h⟩
theorem over : Rows.fnExactReadFieldsRow.holds Tryd.pinned (OpenSpec.ofChange Rows.fnExactReadFieldsSpec) :=
  OpenClaim.holds_of_wide 6 Tryd.f6 rfl rfl rfl rfl rfl rfl rfl ⟨rfl, rfl, rfl, rfl, rfl⟩ rfl rfl rfl rfl rfl (by kernel_rfl) Tryd.func6 (by kernel_rfl)
    (of_decide_eq_true (by kernel_rfl)) (by unfold Func.isWrapper; first | (rw [if_pos (by decide +kernel)]; kernel_rfl) | (rw [if_neg (by decide +kernel)]; exact ⟨rfl, rfl⟩))
    (fun os started H enc _ => lifted os started H enc)
theorem card : Rows.FnExactReadFieldsCardSaid :=
  Claim7.holds_tied_plain_at .later [] [.data, .pinned] true (true, "f5c3f760cddd11ccf33a6cd959491ef9144b30ad1b3257402fe3394a41d7da7a") false over (fun _ h => by cases h) (by kernel_rfl) (fun _ h => by cases h) fnExactReadFields_row_tie rfl ⟨rfl, rfl⟩ (by kernel_rfl) rfl
    (fun f fn hf hfn => by
      obtain rfl : f = 6 := Option.some.inj ((show Tryd.prog.funcNamed "loop.example/mailwire/laws.FnExactReadFields" = some 6 by kernel_rfl).symm.trans hf) |>.symm
      obtain rfl : fn = Tryd.f6 := (Option.some.inj (Tryd.func6.symm.trans hfn)).symm
      exact ⟨by kernel_rfl, fun j t ht => by
        have hm : t ∈ Tryd.f6.params.toList := by simpa using Array.mem_of_getElem? ht
        have hall : (Tryd.f6.params.toList.all fun u => !Tryd.prog.wantsStandIn u) = true := by kernel_rfl
        exact (show Tryd.prog.wantsStandIn t = false by simpa using List.all_eq_true.1 hall t hm)⟩)
    (by kernel_rfl)
#print axioms card
end Go.Proofs.YthmdblcgiljhpaaDoor.fnExactReadFields
namespace Go.Proofs.YthmdblcgiljhpaaDoor
/-- The row, under a short name, for the claim. -/
theorem fnExactReadFields_holds : Rows.FnExactReadFieldsCardSaid := fnExactReadFields.card
end Go.Proofs.YthmdblcgiljhpaaDoor
