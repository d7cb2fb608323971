/-
  No cell of these rows narrows 'for every input' (looked for: loops, veiled, ifaces, maps, wideKeys, modest, calm, conditions, laid).
  DERIVED. THE GIVEN ROWS OF THIS SEAT. 5 by the template 'for every input the law returns true; each argument reads behind the call as it read before'; 0 by the template 'total and deterministic' (their statements: YtekkdpfpkoiggaaTotals.lean).
  GIVEN WITH THE SEED: the statements are not yours to turn. If you find one false, say at which input.
  Laid BY PROGRAM, IN A SANDBOX (cutbox-rows.mjs): the forced cells as the released guide's own fill.sh prints them over the translation 0c8ac4e3e1510771… (all of the seat's roots in one cut). By AI agents, Wed Nov 11 2026. No macro, syntax, notation, axiom, sorry.
-/
import Derived.Test.YtekkdpfpkoiggaaChecked
import GoSem.Claim
import GoSem.ClaimJoined
import GoSem.ClaimMapViews
import Derived.JoinedTies
import Derived.KernelRfl
namespace Go.Proofs.Ytekkdpfpkoiggaa
/- THE CELL 'sum', in the pinned program and in every row, IS THE sha256 OF THE DUMP (.gsa) THAT YtekkdpfpkoiggaaProg.lean LOADS. Nothing in Lean hashes anything: it is a label: what it is worth is what the hold of that sum in a sandbox is worth. -/
noncomputable def Try.pinned : Pinned := { name := "ytekkdpfpkoiggaa", sum := "0c8ac4e3e15107714d63c8cad36f869b92ba7c777927555ff0dbe7eb6fe24f55", checked := Try.checked }
namespace Rows
def none {H : Type} : Left H := { results := [], args := [] }

/-- 'laws.FnExactWeekdayOf': WHATEVER THE INPUT: true; the input reads as it did. -/
def fnExactWeekdayOfSpec : ChangeSpec := { name := "fnExactWeekdayOf", fn := fun _ => fun
  | [d] => { results := [.lit (.bool true)], args := [d] }
  | _ => none }
def fnExactWeekdayOfRow : OpenClaim := { program := "ytekkdpfpkoiggaa", sum := "0c8ac4e3e15107714d63c8cad36f869b92ba7c777927555ff0dbe7eb6fe24f55", func := "loop.example/mailwire/laws.FnExactWeekdayOf", spec := "fnExactWeekdayOf", apart := false }
def FnExactWeekdayOfSaid : Prop := fnExactWeekdayOfRow.holds Try.pinned (OpenSpec.ofChange fnExactWeekdayOfSpec)

/-- ITS FALSE NEIGHBOUR: 'it returns false'. Refute it at one input. -/
def fnExactWeekdayOfWrong : ChangeSpec := { name := "fnExactWeekdayOf", fn := fun _ => fun
  | [d] => { results := [.lit (.bool false)], args := [d] }
  | _ => none }
def FnExactWeekdayOfWrongFalsely : Prop := fnExactWeekdayOfRow.holds Try.pinned (OpenSpec.ofChange fnExactWeekdayOfWrong)

/-- 'laws.FnWeekdayNames': WHATEVER THE INPUT: true; the input reads as it did. -/
def fnWeekdayNamesSpec : ChangeSpec := { name := "fnWeekdayNames", fn := fun _ => fun
  | [d] => { results := [.lit (.bool true)], args := [d] }
  | _ => none }
def fnWeekdayNamesRow : OpenClaim := { program := "ytekkdpfpkoiggaa", sum := "0c8ac4e3e15107714d63c8cad36f869b92ba7c777927555ff0dbe7eb6fe24f55", func := "loop.example/mailwire/laws.FnWeekdayNames", spec := "fnWeekdayNames", apart := false }
def FnWeekdayNamesSaid : Prop := fnWeekdayNamesRow.holds Try.pinned (OpenSpec.ofChange fnWeekdayNamesSpec)

/-- ITS FALSE NEIGHBOUR: 'it returns false'. Refute it at one input. -/
def fnWeekdayNamesWrong : ChangeSpec := { name := "fnWeekdayNames", fn := fun _ => fun
  | [d] => { results := [.lit (.bool false)], args := [d] }
  | _ => none }
def FnWeekdayNamesWrongFalsely : Prop := fnWeekdayNamesRow.holds Try.pinned (OpenSpec.ofChange fnWeekdayNamesWrong)

/-- 'laws.FnWeekdayOf': WHATEVER THE INPUT: true; the input reads as it did. -/
def fnWeekdayOfSpec : ChangeSpec := { name := "fnWeekdayOf", fn := fun _ => fun
  | [d] => { results := [.lit (.bool true)], args := [d] }
  | _ => none }
def fnWeekdayOfRow : OpenClaim := { program := "ytekkdpfpkoiggaa", sum := "0c8ac4e3e15107714d63c8cad36f869b92ba7c777927555ff0dbe7eb6fe24f55", func := "loop.example/mailwire/laws.FnWeekdayOf", spec := "fnWeekdayOf", apart := false }
def FnWeekdayOfSaid : Prop := fnWeekdayOfRow.holds Try.pinned (OpenSpec.ofChange fnWeekdayOfSpec)

/-- ITS FALSE NEIGHBOUR: 'it returns false'. Refute it at one input. -/
def fnWeekdayOfWrong : ChangeSpec := { name := "fnWeekdayOf", fn := fun _ => fun
  | [d] => { results := [.lit (.bool false)], args := [d] }
  | _ => none }
def FnWeekdayOfWrongFalsely : Prop := fnWeekdayOfRow.holds Try.pinned (OpenSpec.ofChange fnWeekdayOfWrong)

/-- 'laws.FnInZone': WHATEVER THE INPUT: true; the input reads as it did. -/
def fnInZoneSpec : ChangeSpec := { name := "fnInZone", fn := fun _ => fun
  | [d] => { results := [.lit (.bool true)], args := [d] }
  | _ => none }
def fnInZoneRow : OpenClaim := { program := "ytekkdpfpkoiggaa", sum := "0c8ac4e3e15107714d63c8cad36f869b92ba7c777927555ff0dbe7eb6fe24f55", func := "loop.example/mailwire/laws.FnInZone", spec := "fnInZone", apart := false }
def FnInZoneSaid : Prop := fnInZoneRow.holds Try.pinned (OpenSpec.ofChange fnInZoneSpec)

/-- ITS FALSE NEIGHBOUR: 'it returns false'. Refute it at one input. -/
def fnInZoneWrong : ChangeSpec := { name := "fnInZone", fn := fun _ => fun
  | [d] => { results := [.lit (.bool false)], args := [d] }
  | _ => none }
def FnInZoneWrongFalsely : Prop := fnInZoneRow.holds Try.pinned (OpenSpec.ofChange fnInZoneWrong)

/-- 'laws.FnZoneShift': WHATEVER THE INPUT: true; the input reads as it did. -/
def fnZoneShiftSpec : ChangeSpec := { name := "fnZoneShift", fn := fun _ => fun
  | [d] => { results := [.lit (.bool true)], args := [d] }
  | _ => none }
def fnZoneShiftRow : OpenClaim := { program := "ytekkdpfpkoiggaa", sum := "0c8ac4e3e15107714d63c8cad36f869b92ba7c777927555ff0dbe7eb6fe24f55", func := "loop.example/mailwire/laws.FnZoneShift", spec := "fnZoneShift", apart := false }
def FnZoneShiftSaid : Prop := fnZoneShiftRow.holds Try.pinned (OpenSpec.ofChange fnZoneShiftSpec)

/-- ITS FALSE NEIGHBOUR: 'it returns false'. Refute it at one input. -/
def fnZoneShiftWrong : ChangeSpec := { name := "fnZoneShift", fn := fun _ => fun
  | [d] => { results := [.lit (.bool false)], args := [d] }
  | _ => none }
def FnZoneShiftWrongFalsely : Prop := fnZoneShiftRow.holds Try.pinned (OpenSpec.ofChange fnZoneShiftWrong)

/- THE SECOND FORM. 'bulk': how many values and letters a reading holds, each counted each time it is reached (what is shared counts as often as it is met; a slice's spare places count too). A statement '..UptoSaid' is the law's where the arguments, and the package variables that the reading takes, are together of bulk at most 1048576: NARROWER than '..Said'. Prove '..Said' where nothing that the law and all that it calls make is longer than what came in: it says more and counts as full. Else prove '..UptoSaid'. A law counts once. -/
mutual
def uptoBulk {H : Type} : DataW H → Nat
  | .lit (.string bytes) => bytes.length + 1
  | .lit _ => 1
  | .nil => 1
  | .ptr d => uptoBulk d + 1
  | .slice elems spare => uptoBulkAll elems + uptoBulkAll spare + 1
  | .agg parts => uptoBulkAll parts + 1
  | .iface _ d => uptoBulk d + 1
  | .map entries => uptoBulkEntries entries + 1
  | .held _ => 1
def uptoBulkAll {H : Type} : List (DataW H) → Nat
  | [] => 0
  | d :: r => uptoBulk d + uptoBulkAll r
def uptoBulkEntries {H : Type} : List (Lit × DataW H) → Nat
  | [] => 0
  | x :: r => uptoBulkEntry x + uptoBulkEntries r
def uptoBulkEntry {H : Type} : Lit × DataW H → Nat
  | (.string bytes, d) => bytes.length + uptoBulk d + 1
  | (_, d) => uptoBulk d + 1
 end
def uptoSmall : (H : Type) → List (DataW H) → Bool := fun _ ds => decide (uptoBulkAll ds ≤ 1048576)
def OpenSpec.upto (s : _root_.Go.ChangeSpec) : _root_.Go.OpenSpec := { _root_.Go.OpenSpec.ofChange s with cond := some uptoSmall }

/-- 'laws.FnExactWeekdayOf', WHERE WHAT IT READS IS OF BULK AT MOST 1048576: true; the input reads as it did. -/
def fnExactWeekdayOfUptoRow : OpenClaim := { program := "ytekkdpfpkoiggaa", sum := "0c8ac4e3e15107714d63c8cad36f869b92ba7c777927555ff0dbe7eb6fe24f55", func := "loop.example/mailwire/laws.FnExactWeekdayOf", spec := "fnExactWeekdayOf", apart := false, narrowed := true }
def FnExactWeekdayOfUptoSaid : Prop := fnExactWeekdayOfUptoRow.holds Try.pinned (OpenSpec.upto fnExactWeekdayOfSpec)

/-- 'laws.FnWeekdayNames', WHERE WHAT IT READS IS OF BULK AT MOST 1048576: true; the input reads as it did. -/
def fnWeekdayNamesUptoRow : OpenClaim := { program := "ytekkdpfpkoiggaa", sum := "0c8ac4e3e15107714d63c8cad36f869b92ba7c777927555ff0dbe7eb6fe24f55", func := "loop.example/mailwire/laws.FnWeekdayNames", spec := "fnWeekdayNames", apart := false, narrowed := true }
def FnWeekdayNamesUptoSaid : Prop := fnWeekdayNamesUptoRow.holds Try.pinned (OpenSpec.upto fnWeekdayNamesSpec)

/-- 'laws.FnWeekdayOf', WHERE WHAT IT READS IS OF BULK AT MOST 1048576: true; the input reads as it did. -/
def fnWeekdayOfUptoRow : OpenClaim := { program := "ytekkdpfpkoiggaa", sum := "0c8ac4e3e15107714d63c8cad36f869b92ba7c777927555ff0dbe7eb6fe24f55", func := "loop.example/mailwire/laws.FnWeekdayOf", spec := "fnWeekdayOf", apart := false, narrowed := true }
def FnWeekdayOfUptoSaid : Prop := fnWeekdayOfUptoRow.holds Try.pinned (OpenSpec.upto fnWeekdayOfSpec)

/-- 'laws.FnInZone', WHERE WHAT IT READS IS OF BULK AT MOST 1048576: true; the input reads as it did. -/
def fnInZoneUptoRow : OpenClaim := { program := "ytekkdpfpkoiggaa", sum := "0c8ac4e3e15107714d63c8cad36f869b92ba7c777927555ff0dbe7eb6fe24f55", func := "loop.example/mailwire/laws.FnInZone", spec := "fnInZone", apart := false, narrowed := true }
def FnInZoneUptoSaid : Prop := fnInZoneUptoRow.holds Try.pinned (OpenSpec.upto fnInZoneSpec)

/-- 'laws.FnZoneShift', WHERE WHAT IT READS IS OF BULK AT MOST 1048576: true; the input reads as it did. -/
def fnZoneShiftUptoRow : OpenClaim := { program := "ytekkdpfpkoiggaa", sum := "0c8ac4e3e15107714d63c8cad36f869b92ba7c777927555ff0dbe7eb6fe24f55", func := "loop.example/mailwire/laws.FnZoneShift", spec := "fnZoneShift", apart := false, narrowed := true }
def FnZoneShiftUptoSaid : Prop := fnZoneShiftUptoRow.holds Try.pinned (OpenSpec.upto fnZoneShiftSpec)

end Rows
end Go.Proofs.Ytekkdpfpkoiggaa
