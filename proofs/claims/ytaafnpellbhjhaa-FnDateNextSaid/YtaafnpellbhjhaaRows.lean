/-
  No cell of these rows narrows 'for every input' (looked for: loops, veiled, ifaces, maps, wideKeys, modest, calm, conditions, laid).
  DERIVED. THE GIVEN ROWS OF THIS SEAT. 11 by the template 'for every input the law returns true; each argument reads behind the call as it read before'; 0 by the template 'total and deterministic' (their statements: YtaafnpellbhjhaaTotals.lean).
  GIVEN WITH THE SEED: the statements are not yours to turn. If you find one false, say at which input.
  Laid BY PROGRAM, IN A SANDBOX (cutbox-rows.mjs): the forced cells as the released guide's own fill.sh prints them over the translation fa363c5a80913210… (all of the seat's roots in one cut). By AI agents, Wed Nov 11 2026. No macro, syntax, notation, axiom, sorry.
-/
import Derived.Test.YtaafnpellbhjhaaChecked
import GoSem.Claim
import GoSem.ClaimJoined
import GoSem.ClaimMapViews
import Derived.JoinedTies
import Derived.KernelRfl
namespace Go.Proofs.Ytaafnpellbhjhaa
/- THE CELL 'sum', in the pinned program and in every row, IS THE sha256 OF THE DUMP (.gsa) THAT YtaafnpellbhjhaaProg.lean LOADS. Nothing in Lean hashes anything: it is a label: what it is worth is what the hold of that sum in a sandbox is worth. -/
noncomputable def Try.pinned : Pinned := { name := "ytaafnpellbhjhaa", sum := "fa363c5a8091321047f54358d7e7fc5a28288f1fa81644c8985be2da09fe45f8", checked := Try.checked }
namespace Rows
def none {H : Type} : Left H := { results := [], args := [] }

/-- 'laws.FnExactDaysOf': WHATEVER THE INPUT: true; the input reads as it did. -/
def fnExactDaysOfSpec : ChangeSpec := { name := "fnExactDaysOf", fn := fun _ => fun
  | [d1, d2] => { results := [.lit (.bool true)], args := [d1, d2] }
  | _ => none }
def fnExactDaysOfRow : OpenClaim := { program := "ytaafnpellbhjhaa", sum := "fa363c5a8091321047f54358d7e7fc5a28288f1fa81644c8985be2da09fe45f8", func := "loop.example/mailwire/laws.FnExactDaysOf", spec := "fnExactDaysOf", apart := false }
def FnExactDaysOfSaid : Prop := fnExactDaysOfRow.holds Try.pinned (OpenSpec.ofChange fnExactDaysOfSpec)

/-- ITS FALSE NEIGHBOUR: 'it returns false'. Refute it at one input. -/
def fnExactDaysOfWrong : ChangeSpec := { name := "fnExactDaysOf", fn := fun _ => fun
  | [d1, d2] => { results := [.lit (.bool false)], args := [d1, d2] }
  | _ => none }
def FnExactDaysOfWrongFalsely : Prop := fnExactDaysOfRow.holds Try.pinned (OpenSpec.ofChange fnExactDaysOfWrong)

/-- 'laws.FnDaysOf': WHATEVER THE INPUT: true; the input reads as it did. -/
def fnDaysOfSpec : ChangeSpec := { name := "fnDaysOf", fn := fun _ => fun
  | [d] => { results := [.lit (.bool true)], args := [d] }
  | _ => none }
def fnDaysOfRow : OpenClaim := { program := "ytaafnpellbhjhaa", sum := "fa363c5a8091321047f54358d7e7fc5a28288f1fa81644c8985be2da09fe45f8", func := "loop.example/mailwire/laws.FnDaysOf", spec := "fnDaysOf", apart := false }
def FnDaysOfSaid : Prop := fnDaysOfRow.holds Try.pinned (OpenSpec.ofChange fnDaysOfSpec)

/-- ITS FALSE NEIGHBOUR: 'it returns false'. Refute it at one input. -/
def fnDaysOfWrong : ChangeSpec := { name := "fnDaysOf", fn := fun _ => fun
  | [d] => { results := [.lit (.bool false)], args := [d] }
  | _ => none }
def FnDaysOfWrongFalsely : Prop := fnDaysOfRow.holds Try.pinned (OpenSpec.ofChange fnDaysOfWrong)

/-- 'laws.FnYearDays': WHATEVER THE INPUT: true; the input reads as it did. -/
def fnYearDaysSpec : ChangeSpec := { name := "fnYearDays", fn := fun _ => fun
  | [d] => { results := [.lit (.bool true)], args := [d] }
  | _ => none }
def fnYearDaysRow : OpenClaim := { program := "ytaafnpellbhjhaa", sum := "fa363c5a8091321047f54358d7e7fc5a28288f1fa81644c8985be2da09fe45f8", func := "loop.example/mailwire/laws.FnYearDays", spec := "fnYearDays", apart := false }
def FnYearDaysSaid : Prop := fnYearDaysRow.holds Try.pinned (OpenSpec.ofChange fnYearDaysSpec)

/-- ITS FALSE NEIGHBOUR: 'it returns false'. Refute it at one input. -/
def fnYearDaysWrong : ChangeSpec := { name := "fnYearDays", fn := fun _ => fun
  | [d] => { results := [.lit (.bool false)], args := [d] }
  | _ => none }
def FnYearDaysWrongFalsely : Prop := fnYearDaysRow.holds Try.pinned (OpenSpec.ofChange fnYearDaysWrong)

/-- 'laws.FnExactDateValid': WHATEVER THE INPUT: true; the input reads as it did. -/
def fnExactDateValidSpec : ChangeSpec := { name := "fnExactDateValid", fn := fun _ => fun
  | [d] => { results := [.lit (.bool true)], args := [d] }
  | _ => none }
def fnExactDateValidRow : OpenClaim := { program := "ytaafnpellbhjhaa", sum := "fa363c5a8091321047f54358d7e7fc5a28288f1fa81644c8985be2da09fe45f8", func := "loop.example/mailwire/laws.FnExactDateValid", spec := "fnExactDateValid", apart := false }
def FnExactDateValidSaid : Prop := fnExactDateValidRow.holds Try.pinned (OpenSpec.ofChange fnExactDateValidSpec)

/-- ITS FALSE NEIGHBOUR: 'it returns false'. Refute it at one input. -/
def fnExactDateValidWrong : ChangeSpec := { name := "fnExactDateValid", fn := fun _ => fun
  | [d] => { results := [.lit (.bool false)], args := [d] }
  | _ => none }
def FnExactDateValidWrongFalsely : Prop := fnExactDateValidRow.holds Try.pinned (OpenSpec.ofChange fnExactDateValidWrong)

/-- 'laws.FnExactSecondsOf': WHATEVER THE INPUT: true; the input reads as it did. -/
def fnExactSecondsOfSpec : ChangeSpec := { name := "fnExactSecondsOf", fn := fun _ => fun
  | [d] => { results := [.lit (.bool true)], args := [d] }
  | _ => none }
def fnExactSecondsOfRow : OpenClaim := { program := "ytaafnpellbhjhaa", sum := "fa363c5a8091321047f54358d7e7fc5a28288f1fa81644c8985be2da09fe45f8", func := "loop.example/mailwire/laws.FnExactSecondsOf", spec := "fnExactSecondsOf", apart := false }
def FnExactSecondsOfSaid : Prop := fnExactSecondsOfRow.holds Try.pinned (OpenSpec.ofChange fnExactSecondsOfSpec)

/-- ITS FALSE NEIGHBOUR: 'it returns false'. Refute it at one input. -/
def fnExactSecondsOfWrong : ChangeSpec := { name := "fnExactSecondsOf", fn := fun _ => fun
  | [d] => { results := [.lit (.bool false)], args := [d] }
  | _ => none }
def FnExactSecondsOfWrongFalsely : Prop := fnExactSecondsOfRow.holds Try.pinned (OpenSpec.ofChange fnExactSecondsOfWrong)

/-- 'laws.FnExactDateOf': WHATEVER THE INPUT: true; the input reads as it did. -/
def fnExactDateOfSpec : ChangeSpec := { name := "fnExactDateOf", fn := fun _ => fun
  | [d1, d2] => { results := [.lit (.bool true)], args := [d1, d2] }
  | _ => none }
def fnExactDateOfRow : OpenClaim := { program := "ytaafnpellbhjhaa", sum := "fa363c5a8091321047f54358d7e7fc5a28288f1fa81644c8985be2da09fe45f8", func := "loop.example/mailwire/laws.FnExactDateOf", spec := "fnExactDateOf", apart := false }
def FnExactDateOfSaid : Prop := fnExactDateOfRow.holds Try.pinned (OpenSpec.ofChange fnExactDateOfSpec)

/-- ITS FALSE NEIGHBOUR: 'it returns false'. Refute it at one input. -/
def fnExactDateOfWrong : ChangeSpec := { name := "fnExactDateOf", fn := fun _ => fun
  | [d1, d2] => { results := [.lit (.bool false)], args := [d1, d2] }
  | _ => none }
def FnExactDateOfWrongFalsely : Prop := fnExactDateOfRow.holds Try.pinned (OpenSpec.ofChange fnExactDateOfWrong)

/-- 'laws.FnDateOrder': WHATEVER THE INPUT: true; the input reads as it did. -/
def fnDateOrderSpec : ChangeSpec := { name := "fnDateOrder", fn := fun _ => fun
  | [d] => { results := [.lit (.bool true)], args := [d] }
  | _ => none }
def fnDateOrderRow : OpenClaim := { program := "ytaafnpellbhjhaa", sum := "fa363c5a8091321047f54358d7e7fc5a28288f1fa81644c8985be2da09fe45f8", func := "loop.example/mailwire/laws.FnDateOrder", spec := "fnDateOrder", apart := false }
def FnDateOrderSaid : Prop := fnDateOrderRow.holds Try.pinned (OpenSpec.ofChange fnDateOrderSpec)

/-- ITS FALSE NEIGHBOUR: 'it returns false'. Refute it at one input. -/
def fnDateOrderWrong : ChangeSpec := { name := "fnDateOrder", fn := fun _ => fun
  | [d] => { results := [.lit (.bool false)], args := [d] }
  | _ => none }
def FnDateOrderWrongFalsely : Prop := fnDateOrderRow.holds Try.pinned (OpenSpec.ofChange fnDateOrderWrong)

/-- 'laws.FnDateOf': WHATEVER THE INPUT: true; the input reads as it did. -/
def fnDateOfSpec : ChangeSpec := { name := "fnDateOf", fn := fun _ => fun
  | [d] => { results := [.lit (.bool true)], args := [d] }
  | _ => none }
def fnDateOfRow : OpenClaim := { program := "ytaafnpellbhjhaa", sum := "fa363c5a8091321047f54358d7e7fc5a28288f1fa81644c8985be2da09fe45f8", func := "loop.example/mailwire/laws.FnDateOf", spec := "fnDateOf", apart := false }
def FnDateOfSaid : Prop := fnDateOfRow.holds Try.pinned (OpenSpec.ofChange fnDateOfSpec)

/-- ITS FALSE NEIGHBOUR: 'it returns false'. Refute it at one input. -/
def fnDateOfWrong : ChangeSpec := { name := "fnDateOf", fn := fun _ => fun
  | [d] => { results := [.lit (.bool false)], args := [d] }
  | _ => none }
def FnDateOfWrongFalsely : Prop := fnDateOfRow.holds Try.pinned (OpenSpec.ofChange fnDateOfWrong)

/-- 'laws.FnDateNext': WHATEVER THE INPUT: true; the input reads as it did. -/
def fnDateNextSpec : ChangeSpec := { name := "fnDateNext", fn := fun _ => fun
  | [d] => { results := [.lit (.bool true)], args := [d] }
  | _ => none }
def fnDateNextRow : OpenClaim := { program := "ytaafnpellbhjhaa", sum := "fa363c5a8091321047f54358d7e7fc5a28288f1fa81644c8985be2da09fe45f8", func := "loop.example/mailwire/laws.FnDateNext", spec := "fnDateNext", apart := false }
def FnDateNextSaid : Prop := fnDateNextRow.holds Try.pinned (OpenSpec.ofChange fnDateNextSpec)

/-- ITS FALSE NEIGHBOUR: 'it returns false'. Refute it at one input. -/
def fnDateNextWrong : ChangeSpec := { name := "fnDateNext", fn := fun _ => fun
  | [d] => { results := [.lit (.bool false)], args := [d] }
  | _ => none }
def FnDateNextWrongFalsely : Prop := fnDateNextRow.holds Try.pinned (OpenSpec.ofChange fnDateNextWrong)

/-- 'laws.FnSecondsOf': WHATEVER THE INPUT: true; the input reads as it did. -/
def fnSecondsOfSpec : ChangeSpec := { name := "fnSecondsOf", fn := fun _ => fun
  | [d] => { results := [.lit (.bool true)], args := [d] }
  | _ => none }
def fnSecondsOfRow : OpenClaim := { program := "ytaafnpellbhjhaa", sum := "fa363c5a8091321047f54358d7e7fc5a28288f1fa81644c8985be2da09fe45f8", func := "loop.example/mailwire/laws.FnSecondsOf", spec := "fnSecondsOf", apart := false }
def FnSecondsOfSaid : Prop := fnSecondsOfRow.holds Try.pinned (OpenSpec.ofChange fnSecondsOfSpec)

/-- ITS FALSE NEIGHBOUR: 'it returns false'. Refute it at one input. -/
def fnSecondsOfWrong : ChangeSpec := { name := "fnSecondsOf", fn := fun _ => fun
  | [d] => { results := [.lit (.bool false)], args := [d] }
  | _ => none }
def FnSecondsOfWrongFalsely : Prop := fnSecondsOfRow.holds Try.pinned (OpenSpec.ofChange fnSecondsOfWrong)

/-- 'laws.FnExactInZone': WHATEVER THE INPUT: true; the input reads as it did. -/
def fnExactInZoneSpec : ChangeSpec := { name := "fnExactInZone", fn := fun _ => fun
  | [d1, d2] => { results := [.lit (.bool true)], args := [d1, d2] }
  | _ => none }
def fnExactInZoneRow : OpenClaim := { program := "ytaafnpellbhjhaa", sum := "fa363c5a8091321047f54358d7e7fc5a28288f1fa81644c8985be2da09fe45f8", func := "loop.example/mailwire/laws.FnExactInZone", spec := "fnExactInZone", apart := false }
def FnExactInZoneSaid : Prop := fnExactInZoneRow.holds Try.pinned (OpenSpec.ofChange fnExactInZoneSpec)

/-- ITS FALSE NEIGHBOUR: 'it returns false'. Refute it at one input. -/
def fnExactInZoneWrong : ChangeSpec := { name := "fnExactInZone", fn := fun _ => fun
  | [d1, d2] => { results := [.lit (.bool false)], args := [d1, d2] }
  | _ => none }
def FnExactInZoneWrongFalsely : Prop := fnExactInZoneRow.holds Try.pinned (OpenSpec.ofChange fnExactInZoneWrong)

/- THE SECOND FORM. 'bulk': how many values and letters a reading holds, each counted each time it is reached (what is shared counts as often as it is met; a slice's spare places count too). A statement '..UptoSaid' is the law's where the arguments, and the package variables that the reading takes, are together of bulk at most 1048576: NARROWER than '..Said'. Prove '..Said' where nothing that the law and all that it calls make is longer than what came in: it says more and counts as full. Else prove '..UptoSaid'. A law counts once. -/
mutual
def uptoBulk {H : Type} : DataW H → Nat
  | .lit (.string bytes) => bytes.length + 1
  | .lit _ => 1
  | .nil => 1
  | .ptr d => uptoBulk d + 1
  | .slice elems spare => uptoBulkAll elems + uptoBulkAll spare + 1
  | .agg parts => uptoBulkAll parts + 1
  | .iface _ d => uptoBulk d + 1
  | .map entries => uptoBulkEntries entries + 1
  | .held _ => 1
def uptoBulkAll {H : Type} : List (DataW H) → Nat
  | [] => 0
  | d :: r => uptoBulk d + uptoBulkAll r
def uptoBulkEntries {H : Type} : List (Lit × DataW H) → Nat
  | [] => 0
  | x :: r => uptoBulkEntry x + uptoBulkEntries r
def uptoBulkEntry {H : Type} : Lit × DataW H → Nat
  | (.string bytes, d) => bytes.length + uptoBulk d + 1
  | (_, d) => uptoBulk d + 1
 end
def uptoSmall : (H : Type) → List (DataW H) → Bool := fun _ ds => decide (uptoBulkAll ds ≤ 1048576)
def OpenSpec.upto (s : _root_.Go.ChangeSpec) : _root_.Go.OpenSpec := { _root_.Go.OpenSpec.ofChange s with cond := some uptoSmall }

/-- 'laws.FnExactDaysOf', WHERE WHAT IT READS IS OF BULK AT MOST 1048576: true; the input reads as it did. -/
def fnExactDaysOfUptoRow : OpenClaim := { program := "ytaafnpellbhjhaa", sum := "fa363c5a8091321047f54358d7e7fc5a28288f1fa81644c8985be2da09fe45f8", func := "loop.example/mailwire/laws.FnExactDaysOf", spec := "fnExactDaysOf", apart := false, narrowed := true }
def FnExactDaysOfUptoSaid : Prop := fnExactDaysOfUptoRow.holds Try.pinned (OpenSpec.upto fnExactDaysOfSpec)

/-- 'laws.FnDaysOf', WHERE WHAT IT READS IS OF BULK AT MOST 1048576: true; the input reads as it did. -/
def fnDaysOfUptoRow : OpenClaim := { program := "ytaafnpellbhjhaa", sum := "fa363c5a8091321047f54358d7e7fc5a28288f1fa81644c8985be2da09fe45f8", func := "loop.example/mailwire/laws.FnDaysOf", spec := "fnDaysOf", apart := false, narrowed := true }
def FnDaysOfUptoSaid : Prop := fnDaysOfUptoRow.holds Try.pinned (OpenSpec.upto fnDaysOfSpec)

/-- 'laws.FnYearDays', WHERE WHAT IT READS IS OF BULK AT MOST 1048576: true; the input reads as it did. -/
def fnYearDaysUptoRow : OpenClaim := { program := "ytaafnpellbhjhaa", sum := "fa363c5a8091321047f54358d7e7fc5a28288f1fa81644c8985be2da09fe45f8", func := "loop.example/mailwire/laws.FnYearDays", spec := "fnYearDays", apart := false, narrowed := true }
def FnYearDaysUptoSaid : Prop := fnYearDaysUptoRow.holds Try.pinned (OpenSpec.upto fnYearDaysSpec)

/-- 'laws.FnExactDateValid', WHERE WHAT IT READS IS OF BULK AT MOST 1048576: true; the input reads as it did. -/
def fnExactDateValidUptoRow : OpenClaim := { program := "ytaafnpellbhjhaa", sum := "fa363c5a8091321047f54358d7e7fc5a28288f1fa81644c8985be2da09fe45f8", func := "loop.example/mailwire/laws.FnExactDateValid", spec := "fnExactDateValid", apart := false, narrowed := true }
def FnExactDateValidUptoSaid : Prop := fnExactDateValidUptoRow.holds Try.pinned (OpenSpec.upto fnExactDateValidSpec)

/-- 'laws.FnExactSecondsOf', WHERE WHAT IT READS IS OF BULK AT MOST 1048576: true; the input reads as it did. -/
def fnExactSecondsOfUptoRow : OpenClaim := { program := "ytaafnpellbhjhaa", sum := "fa363c5a8091321047f54358d7e7fc5a28288f1fa81644c8985be2da09fe45f8", func := "loop.example/mailwire/laws.FnExactSecondsOf", spec := "fnExactSecondsOf", apart := false, narrowed := true }
def FnExactSecondsOfUptoSaid : Prop := fnExactSecondsOfUptoRow.holds Try.pinned (OpenSpec.upto fnExactSecondsOfSpec)

/-- 'laws.FnExactDateOf', WHERE WHAT IT READS IS OF BULK AT MOST 1048576: true; the input reads as it did. -/
def fnExactDateOfUptoRow : OpenClaim := { program := "ytaafnpellbhjhaa", sum := "fa363c5a8091321047f54358d7e7fc5a28288f1fa81644c8985be2da09fe45f8", func := "loop.example/mailwire/laws.FnExactDateOf", spec := "fnExactDateOf", apart := false, narrowed := true }
def FnExactDateOfUptoSaid : Prop := fnExactDateOfUptoRow.holds Try.pinned (OpenSpec.upto fnExactDateOfSpec)

/-- 'laws.FnDateOrder', WHERE WHAT IT READS IS OF BULK AT MOST 1048576: true; the input reads as it did. -/
def fnDateOrderUptoRow : OpenClaim := { program := "ytaafnpellbhjhaa", sum := "fa363c5a8091321047f54358d7e7fc5a28288f1fa81644c8985be2da09fe45f8", func := "loop.example/mailwire/laws.FnDateOrder", spec := "fnDateOrder", apart := false, narrowed := true }
def FnDateOrderUptoSaid : Prop := fnDateOrderUptoRow.holds Try.pinned (OpenSpec.upto fnDateOrderSpec)

/-- 'laws.FnDateOf', WHERE WHAT IT READS IS OF BULK AT MOST 1048576: true; the input reads as it did. -/
def fnDateOfUptoRow : OpenClaim := { program := "ytaafnpellbhjhaa", sum := "fa363c5a8091321047f54358d7e7fc5a28288f1fa81644c8985be2da09fe45f8", func := "loop.example/mailwire/laws.FnDateOf", spec := "fnDateOf", apart := false, narrowed := true }
def FnDateOfUptoSaid : Prop := fnDateOfUptoRow.holds Try.pinned (OpenSpec.upto fnDateOfSpec)

/-- 'laws.FnDateNext', WHERE WHAT IT READS IS OF BULK AT MOST 1048576: true; the input reads as it did. -/
def fnDateNextUptoRow : OpenClaim := { program := "ytaafnpellbhjhaa", sum := "fa363c5a8091321047f54358d7e7fc5a28288f1fa81644c8985be2da09fe45f8", func := "loop.example/mailwire/laws.FnDateNext", spec := "fnDateNext", apart := false, narrowed := true }
def FnDateNextUptoSaid : Prop := fnDateNextUptoRow.holds Try.pinned (OpenSpec.upto fnDateNextSpec)

/-- 'laws.FnSecondsOf', WHERE WHAT IT READS IS OF BULK AT MOST 1048576: true; the input reads as it did. -/
def fnSecondsOfUptoRow : OpenClaim := { program := "ytaafnpellbhjhaa", sum := "fa363c5a8091321047f54358d7e7fc5a28288f1fa81644c8985be2da09fe45f8", func := "loop.example/mailwire/laws.FnSecondsOf", spec := "fnSecondsOf", apart := false, narrowed := true }
def FnSecondsOfUptoSaid : Prop := fnSecondsOfUptoRow.holds Try.pinned (OpenSpec.upto fnSecondsOfSpec)

/-- 'laws.FnExactInZone', WHERE WHAT IT READS IS OF BULK AT MOST 1048576: true; the input reads as it did. -/
def fnExactInZoneUptoRow : OpenClaim := { program := "ytaafnpellbhjhaa", sum := "fa363c5a8091321047f54358d7e7fc5a28288f1fa81644c8985be2da09fe45f8", func := "loop.example/mailwire/laws.FnExactInZone", spec := "fnExactInZone", apart := false, narrowed := true }
def FnExactInZoneUptoSaid : Prop := fnExactInZoneUptoRow.holds Try.pinned (OpenSpec.upto fnExactInZoneSpec)

end Rows
end Go.Proofs.Ytaafnpellbhjhaa
