/-
  NARROWER THAN 'FOR EVERY INPUT', by the rows' own cells (each row's printed sentence says how): FnExactFoldFields: laid · FnFoldField: laid · FnReadSpaces: laid · FnExactReadFields: laid · FnFoldFields: laid.
  DERIVED. THE GIVEN ROWS OF THIS SEAT. 5 by the template 'for every input the law returns true; each argument reads behind the call as it read before'; 0 by the template 'total and deterministic' (their statements: YthmdblcgiljhpaaDoorTotals.lean).
  GIVEN WITH THE SEED: the statements are not yours to turn. If you find one false, say at which input.
  Laid BY PROGRAM, IN A SANDBOX (cutbox-rows.mjs): the forced cells as the released guide's own fill.sh prints them over the translation 5c5242e6e0e1a578… (all of the seat's roots in one cut). By AI agents, Wed Nov 11 2026. No macro, syntax, notation, axiom, sorry.
-/
import Derived.Test.YthmdblcgiljhpaaDoorChecked
import GoSem.PinnedTables
import GoSem.Claim
import GoSem.ClaimJoined
import GoSem.ClaimMapViews
import Derived.JoinedTies
import Derived.KernelRfl
namespace Go.Proofs.YthmdblcgiljhpaaDoor
/- THE CELL 'sum', in the pinned program and in every row, IS THE sha256 OF THE DUMP (.gsa) THAT YthmdblcgiljhpaaDoorProg.lean LOADS. Nothing in Lean hashes anything: it is a label: what it is worth is what the hold of that sum in a sandbox is worth. -/
noncomputable def Tryd.pinned : Pinned := { name := "ythmdblcgiljhpaadoor", sum := "5c5242e6e0e1a578aa70319d9024cdc6b1fe8d96682fd850b6ecac44c8cfd417", checked := Tryd.checked }
namespace Rows
def none {H : Type} : Left H := { results := [], args := [] }

/- WHAT THE LISTED PACKAGE-LEVEL VARIABLES READ AS WHEN THE CALL BEGINS. Each datum BY PROGRAM (the guide's laid-datum.mjs) off the statement by which the dump's own 'gosem.cut.vars' lays the variable. In a bare row this is a premise. The card (YthmdblcgiljhpaaDoorCards.lean) ties it to the program's text. -/
def laid_unicode_utf8_acceptRanges {H : Type} : DataW H := .agg [.agg [.lit (.int .u8 128), .lit (.int .u8 191)], .agg [.lit (.int .u8 160), .lit (.int .u8 191)], .agg [.lit (.int .u8 128), .lit (.int .u8 159)], .agg [.lit (.int .u8 144), .lit (.int .u8 191)], .agg [.lit (.int .u8 128), .lit (.int .u8 143)], .agg [.lit (.int .u8 0), .lit (.int .u8 0)], .agg [.lit (.int .u8 0), .lit (.int .u8 0)], .agg [.lit (.int .u8 0), .lit (.int .u8 0)], .agg [.lit (.int .u8 0), .lit (.int .u8 0)], .agg [.lit (.int .u8 0), .lit (.int .u8 0)], .agg [.lit (.int .u8 0), .lit (.int .u8 0)], .agg [.lit (.int .u8 0), .lit (.int .u8 0)], .agg [.lit (.int .u8 0), .lit (.int .u8 0)], .agg [.lit (.int .u8 0), .lit (.int .u8 0)], .agg [.lit (.int .u8 0), .lit (.int .u8 0)], .agg [.lit (.int .u8 0), .lit (.int .u8 0)]]
/-- One of Go's own tables, pinned by name: the form's constant. -/
def laid_unicode_utf8_first : DataW Unit := Go.Pinned.utf8First

/-- 'laws.FnExactFoldFields': WHATEVER THE INPUT: true; the input reads as it did. -/
def fnExactFoldFieldsSpec : ChangeSpec := { name := "fnExactFoldFields", fn := fun _ => fun
  | [d] => { results := [.lit (.bool true)], args := [d] }
  | _ => none }
def fnExactFoldFieldsRow : OpenClaim := { program := "ythmdblcgiljhpaadoor", sum := "5c5242e6e0e1a578aa70319d9024cdc6b1fe8d96682fd850b6ecac44c8cfd417", func := "loop.example/mailwire/laws.FnExactFoldFields", spec := "fnExactFoldFields", inPlace := ["internal/bytealg.IndexByteString", "internal/bytealg.IndexString"], unfollowed := true, recurses := true, named := ["unicode/utf8.first", "unicode/utf8.acceptRanges", "internal/bytealg.MaxLen"], apart := false, laid := [("unicode/utf8.acceptRanges", laid_unicode_utf8_acceptRanges), ("unicode/utf8.first", laid_unicode_utf8_first)] }
def FnExactFoldFieldsSaid : Prop := fnExactFoldFieldsRow.holds Tryd.pinned (OpenSpec.ofChange fnExactFoldFieldsSpec)

/-- ITS FALSE NEIGHBOUR: 'it returns false'. Refute it at one input. -/
def fnExactFoldFieldsWrong : ChangeSpec := { name := "fnExactFoldFields", fn := fun _ => fun
  | [d] => { results := [.lit (.bool false)], args := [d] }
  | _ => none }
def FnExactFoldFieldsWrongFalsely : Prop := fnExactFoldFieldsRow.holds Tryd.pinned (OpenSpec.ofChange fnExactFoldFieldsWrong)

/-- 'laws.FnFoldField': WHATEVER THE INPUT: true; the input reads as it did. -/
def fnFoldFieldSpec : ChangeSpec := { name := "fnFoldField", fn := fun _ => fun
  | [d] => { results := [.lit (.bool true)], args := [d] }
  | _ => none }
def fnFoldFieldRow : OpenClaim := { program := "ythmdblcgiljhpaadoor", sum := "5c5242e6e0e1a578aa70319d9024cdc6b1fe8d96682fd850b6ecac44c8cfd417", func := "loop.example/mailwire/laws.FnFoldField", spec := "fnFoldField", inPlace := ["internal/bytealg.IndexByteString", "internal/bytealg.IndexString"], unfollowed := true, recurses := true, named := ["unicode/utf8.first", "unicode/utf8.acceptRanges", "internal/bytealg.MaxLen"], apart := false, laid := [("unicode/utf8.acceptRanges", laid_unicode_utf8_acceptRanges), ("unicode/utf8.first", laid_unicode_utf8_first)] }
def FnFoldFieldSaid : Prop := fnFoldFieldRow.holds Tryd.pinned (OpenSpec.ofChange fnFoldFieldSpec)

/-- ITS FALSE NEIGHBOUR: 'it returns false'. Refute it at one input. -/
def fnFoldFieldWrong : ChangeSpec := { name := "fnFoldField", fn := fun _ => fun
  | [d] => { results := [.lit (.bool false)], args := [d] }
  | _ => none }
def FnFoldFieldWrongFalsely : Prop := fnFoldFieldRow.holds Tryd.pinned (OpenSpec.ofChange fnFoldFieldWrong)

/-- 'laws.FnReadSpaces': WHATEVER THE INPUT: true; the input reads as it did. -/
def fnReadSpacesSpec : ChangeSpec := { name := "fnReadSpaces", fn := fun _ => fun
  | [d] => { results := [.lit (.bool true)], args := [d] }
  | _ => none }
def fnReadSpacesRow : OpenClaim := { program := "ythmdblcgiljhpaadoor", sum := "5c5242e6e0e1a578aa70319d9024cdc6b1fe8d96682fd850b6ecac44c8cfd417", func := "loop.example/mailwire/laws.FnReadSpaces", spec := "fnReadSpaces", inPlace := ["internal/bytealg.IndexByteString", "internal/bytealg.IndexString"], unfollowed := true, recurses := true, named := ["unicode/utf8.first", "unicode/utf8.acceptRanges", "internal/bytealg.MaxLen"], apart := false, laid := [("unicode/utf8.acceptRanges", laid_unicode_utf8_acceptRanges), ("unicode/utf8.first", laid_unicode_utf8_first)] }
def FnReadSpacesSaid : Prop := fnReadSpacesRow.holds Tryd.pinned (OpenSpec.ofChange fnReadSpacesSpec)

/-- ITS FALSE NEIGHBOUR: 'it returns false'. Refute it at one input. -/
def fnReadSpacesWrong : ChangeSpec := { name := "fnReadSpaces", fn := fun _ => fun
  | [d] => { results := [.lit (.bool false)], args := [d] }
  | _ => none }
def FnReadSpacesWrongFalsely : Prop := fnReadSpacesRow.holds Tryd.pinned (OpenSpec.ofChange fnReadSpacesWrong)

/-- 'laws.FnExactReadFields': WHATEVER THE INPUT: true; the input reads as it did. -/
def fnExactReadFieldsSpec : ChangeSpec := { name := "fnExactReadFields", fn := fun _ => fun
  | [d] => { results := [.lit (.bool true)], args := [d] }
  | _ => none }
def fnExactReadFieldsRow : OpenClaim := { program := "ythmdblcgiljhpaadoor", sum := "5c5242e6e0e1a578aa70319d9024cdc6b1fe8d96682fd850b6ecac44c8cfd417", func := "loop.example/mailwire/laws.FnExactReadFields", spec := "fnExactReadFields", inPlace := ["internal/bytealg.IndexByteString", "internal/bytealg.IndexString"], unfollowed := true, recurses := true, named := ["internal/bytealg.MaxLen", "unicode/utf8.first", "unicode/utf8.acceptRanges"], apart := false, laid := [("unicode/utf8.acceptRanges", laid_unicode_utf8_acceptRanges), ("unicode/utf8.first", laid_unicode_utf8_first)] }
def FnExactReadFieldsSaid : Prop := fnExactReadFieldsRow.holds Tryd.pinned (OpenSpec.ofChange fnExactReadFieldsSpec)

/-- ITS FALSE NEIGHBOUR: 'it returns false'. Refute it at one input. -/
def fnExactReadFieldsWrong : ChangeSpec := { name := "fnExactReadFields", fn := fun _ => fun
  | [d] => { results := [.lit (.bool false)], args := [d] }
  | _ => none }
def FnExactReadFieldsWrongFalsely : Prop := fnExactReadFieldsRow.holds Tryd.pinned (OpenSpec.ofChange fnExactReadFieldsWrong)

/-- 'laws.FnFoldFields': WHATEVER THE INPUT: true; the input reads as it did. -/
def fnFoldFieldsSpec : ChangeSpec := { name := "fnFoldFields", fn := fun _ => fun
  | [d1, d2] => { results := [.lit (.bool true)], args := [d1, d2] }
  | _ => none }
def fnFoldFieldsRow : OpenClaim := { program := "ythmdblcgiljhpaadoor", sum := "5c5242e6e0e1a578aa70319d9024cdc6b1fe8d96682fd850b6ecac44c8cfd417", func := "loop.example/mailwire/laws.FnFoldFields", spec := "fnFoldFields", inPlace := ["internal/bytealg.IndexByteString", "internal/bytealg.IndexString"], unfollowed := true, recurses := true, named := ["unicode/utf8.first", "unicode/utf8.acceptRanges", "internal/bytealg.MaxLen"], apart := false, laid := [("unicode/utf8.acceptRanges", laid_unicode_utf8_acceptRanges), ("unicode/utf8.first", laid_unicode_utf8_first)] }
def FnFoldFieldsSaid : Prop := fnFoldFieldsRow.holds Tryd.pinned (OpenSpec.ofChange fnFoldFieldsSpec)

/-- ITS FALSE NEIGHBOUR: 'it returns false'. Refute it at one input. -/
def fnFoldFieldsWrong : ChangeSpec := { name := "fnFoldFields", fn := fun _ => fun
  | [d1, d2] => { results := [.lit (.bool false)], args := [d1, d2] }
  | _ => none }
def FnFoldFieldsWrongFalsely : Prop := fnFoldFieldsRow.holds Tryd.pinned (OpenSpec.ofChange fnFoldFieldsWrong)

/- THE SECOND FORM. 'bulk': how many values and letters a reading holds, each counted each time it is reached (what is shared counts as often as it is met; a slice's spare places count too). A statement '..UptoSaid' is the law's where the arguments, and the package variables that the reading takes, are together of bulk at most 1048576: NARROWER than '..Said'. Prove '..Said' where nothing that the law and all that it calls make is longer than what came in: it says more and counts as full. Else prove '..UptoSaid'. A law counts once. -/
mutual
def uptoBulk {H : Type} : DataW H → Nat
  | .lit (.string bytes) => bytes.length + 1
  | .lit _ => 1
  | .nil => 1
  | .ptr d => uptoBulk d + 1
  | .slice elems spare => uptoBulkAll elems + uptoBulkAll spare + 1
  | .agg parts => uptoBulkAll parts + 1
  | .iface _ d => uptoBulk d + 1
  | .map entries => uptoBulkEntries entries + 1
  | .held _ => 1
def uptoBulkAll {H : Type} : List (DataW H) → Nat
  | [] => 0
  | d :: r => uptoBulk d + uptoBulkAll r
def uptoBulkEntries {H : Type} : List (Lit × DataW H) → Nat
  | [] => 0
  | x :: r => uptoBulkEntry x + uptoBulkEntries r
def uptoBulkEntry {H : Type} : Lit × DataW H → Nat
  | (.string bytes, d) => bytes.length + uptoBulk d + 1
  | (_, d) => uptoBulk d + 1
 end
def uptoSmall : (H : Type) → List (DataW H) → Bool := fun _ ds => decide (uptoBulkAll ds ≤ 1048576)
def OpenSpec.upto (s : _root_.Go.ChangeSpec) : _root_.Go.OpenSpec := { _root_.Go.OpenSpec.ofChange s with cond := some uptoSmall }

/-- 'laws.FnExactFoldFields', WHERE WHAT IT READS IS OF BULK AT MOST 1048576: true; the input reads as it did. -/
def fnExactFoldFieldsUptoRow : OpenClaim := { program := "ythmdblcgiljhpaadoor", sum := "5c5242e6e0e1a578aa70319d9024cdc6b1fe8d96682fd850b6ecac44c8cfd417", func := "loop.example/mailwire/laws.FnExactFoldFields", spec := "fnExactFoldFields", inPlace := ["internal/bytealg.IndexByteString", "internal/bytealg.IndexString"], unfollowed := true, recurses := true, named := ["unicode/utf8.first", "unicode/utf8.acceptRanges", "internal/bytealg.MaxLen"], apart := false, laid := [("unicode/utf8.acceptRanges", laid_unicode_utf8_acceptRanges), ("unicode/utf8.first", laid_unicode_utf8_first)], narrowed := true }
def FnExactFoldFieldsUptoSaid : Prop := fnExactFoldFieldsUptoRow.holds Tryd.pinned (OpenSpec.upto fnExactFoldFieldsSpec)

/-- 'laws.FnFoldField', WHERE WHAT IT READS IS OF BULK AT MOST 1048576: true; the input reads as it did. -/
def fnFoldFieldUptoRow : OpenClaim := { program := "ythmdblcgiljhpaadoor", sum := "5c5242e6e0e1a578aa70319d9024cdc6b1fe8d96682fd850b6ecac44c8cfd417", func := "loop.example/mailwire/laws.FnFoldField", spec := "fnFoldField", inPlace := ["internal/bytealg.IndexByteString", "internal/bytealg.IndexString"], unfollowed := true, recurses := true, named := ["unicode/utf8.first", "unicode/utf8.acceptRanges", "internal/bytealg.MaxLen"], apart := false, laid := [("unicode/utf8.acceptRanges", laid_unicode_utf8_acceptRanges), ("unicode/utf8.first", laid_unicode_utf8_first)], narrowed := true }
def FnFoldFieldUptoSaid : Prop := fnFoldFieldUptoRow.holds Tryd.pinned (OpenSpec.upto fnFoldFieldSpec)

/-- 'laws.FnReadSpaces', WHERE WHAT IT READS IS OF BULK AT MOST 1048576: true; the input reads as it did. -/
def fnReadSpacesUptoRow : OpenClaim := { program := "ythmdblcgiljhpaadoor", sum := "5c5242e6e0e1a578aa70319d9024cdc6b1fe8d96682fd850b6ecac44c8cfd417", func := "loop.example/mailwire/laws.FnReadSpaces", spec := "fnReadSpaces", inPlace := ["internal/bytealg.IndexByteString", "internal/bytealg.IndexString"], unfollowed := true, recurses := true, named := ["unicode/utf8.first", "unicode/utf8.acceptRanges", "internal/bytealg.MaxLen"], apart := false, laid := [("unicode/utf8.acceptRanges", laid_unicode_utf8_acceptRanges), ("unicode/utf8.first", laid_unicode_utf8_first)], narrowed := true }
def FnReadSpacesUptoSaid : Prop := fnReadSpacesUptoRow.holds Tryd.pinned (OpenSpec.upto fnReadSpacesSpec)

/-- 'laws.FnExactReadFields', WHERE WHAT IT READS IS OF BULK AT MOST 1048576: true; the input reads as it did. -/
def fnExactReadFieldsUptoRow : OpenClaim := { program := "ythmdblcgiljhpaadoor", sum := "5c5242e6e0e1a578aa70319d9024cdc6b1fe8d96682fd850b6ecac44c8cfd417", func := "loop.example/mailwire/laws.FnExactReadFields", spec := "fnExactReadFields", inPlace := ["internal/bytealg.IndexByteString", "internal/bytealg.IndexString"], unfollowed := true, recurses := true, named := ["internal/bytealg.MaxLen", "unicode/utf8.first", "unicode/utf8.acceptRanges"], apart := false, laid := [("unicode/utf8.acceptRanges", laid_unicode_utf8_acceptRanges), ("unicode/utf8.first", laid_unicode_utf8_first)], narrowed := true }
def FnExactReadFieldsUptoSaid : Prop := fnExactReadFieldsUptoRow.holds Tryd.pinned (OpenSpec.upto fnExactReadFieldsSpec)

/-- 'laws.FnFoldFields', WHERE WHAT IT READS IS OF BULK AT MOST 1048576: true; the input reads as it did. -/
def fnFoldFieldsUptoRow : OpenClaim := { program := "ythmdblcgiljhpaadoor", sum := "5c5242e6e0e1a578aa70319d9024cdc6b1fe8d96682fd850b6ecac44c8cfd417", func := "loop.example/mailwire/laws.FnFoldFields", spec := "fnFoldFields", inPlace := ["internal/bytealg.IndexByteString", "internal/bytealg.IndexString"], unfollowed := true, recurses := true, named := ["unicode/utf8.first", "unicode/utf8.acceptRanges", "internal/bytealg.MaxLen"], apart := false, laid := [("unicode/utf8.acceptRanges", laid_unicode_utf8_acceptRanges), ("unicode/utf8.first", laid_unicode_utf8_first)], narrowed := true }
def FnFoldFieldsUptoSaid : Prop := fnFoldFieldsUptoRow.holds Tryd.pinned (OpenSpec.upto fnFoldFieldsSpec)

end Rows
end Go.Proofs.YthmdblcgiljhpaaDoor
