/-
  NARROWER THAN 'FOR EVERY INPUT', by the rows' own cells (each row's printed sentence says how): FnDateWeekday: laid · FnExactParseDate: laid · FnExactFormatDate: laid · FnDateText: laid · FnDateValid: laid · FnZoneText: laid.
  DERIVED. THE GIVEN ROWS OF THIS SEAT. 6 by the template 'for every input the law returns true; each argument reads behind the call as it read before'; 0 by the template 'total and deterministic' (their statements: YtafpbechcjcdbaaDoorTotals.lean).
  GIVEN WITH THE SEED: the statements are not yours to turn. If you find one false, say at which input.
  Laid BY PROGRAM, IN A SANDBOX (cutbox-rows.mjs): the forced cells as the released guide's own fill.sh prints them over the translation 9e4a3cf3c3b0a588… (all of the seat's roots in one cut). By AI agents, Wed Nov 11 2026. No macro, syntax, notation, axiom, sorry.
-/
import Derived.Test.YtafpbechcjcdbaaDoorChecked
import GoSem.PinnedTables
import GoSem.Claim
import GoSem.ClaimJoined
import GoSem.ClaimMapViews
import Derived.JoinedTies
import Derived.KernelRfl
namespace Go.Proofs.YtafpbechcjcdbaaDoor
/- THE CELL 'sum', in the pinned program and in every row, IS THE sha256 OF THE DUMP (.gsa) THAT YtafpbechcjcdbaaDoorProg.lean LOADS. Nothing in Lean hashes anything: it is a label: what it is worth is what the hold of that sum in a sandbox is worth. -/
noncomputable def Tryd.pinned : Pinned := { name := "ytafpbechcjcdbaadoor", sum := "9e4a3cf3c3b0a5889f2a9bf440da5b4f4ee3feb1548a1241a2eb26c3d5083ed1", checked := Tryd.checked }
namespace Rows
def none {H : Type} : Left H := { results := [], args := [] }

/- WHAT THE LISTED PACKAGE-LEVEL VARIABLES READ AS WHEN THE CALL BEGINS. Each datum BY PROGRAM (the guide's laid-datum.mjs) off the statement by which the dump's own 'gosem.cut.vars' lays the variable. In a bare row this is a premise. The card (YtafpbechcjcdbaaDoorCards.lean) ties it to the program's text. -/
def laid_unicode_utf8_acceptRanges {H : Type} : DataW H := .agg [.agg [.lit (.int .u8 128), .lit (.int .u8 191)], .agg [.lit (.int .u8 160), .lit (.int .u8 191)], .agg [.lit (.int .u8 128), .lit (.int .u8 159)], .agg [.lit (.int .u8 144), .lit (.int .u8 191)], .agg [.lit (.int .u8 128), .lit (.int .u8 143)], .agg [.lit (.int .u8 0), .lit (.int .u8 0)], .agg [.lit (.int .u8 0), .lit (.int .u8 0)], .agg [.lit (.int .u8 0), .lit (.int .u8 0)], .agg [.lit (.int .u8 0), .lit (.int .u8 0)], .agg [.lit (.int .u8 0), .lit (.int .u8 0)], .agg [.lit (.int .u8 0), .lit (.int .u8 0)], .agg [.lit (.int .u8 0), .lit (.int .u8 0)], .agg [.lit (.int .u8 0), .lit (.int .u8 0)], .agg [.lit (.int .u8 0), .lit (.int .u8 0)], .agg [.lit (.int .u8 0), .lit (.int .u8 0)], .agg [.lit (.int .u8 0), .lit (.int .u8 0)]]
def laid_loop_example_mailwire_impl_monthNames {H : Type} : DataW H := .agg [.lit (.string [74, 97, 110]), .lit (.string [70, 101, 98]), .lit (.string [77, 97, 114]), .lit (.string [65, 112, 114]), .lit (.string [77, 97, 121]), .lit (.string [74, 117, 110]), .lit (.string [74, 117, 108]), .lit (.string [65, 117, 103]), .lit (.string [83, 101, 112]), .lit (.string [79, 99, 116]), .lit (.string [78, 111, 118]), .lit (.string [68, 101, 99])]
/-- One of Go's own tables, pinned by name: the form's constant. -/
def laid_unicode_utf8_first : DataW Unit := Go.Pinned.utf8First

/-- 'laws.FnDateWeekday': WHATEVER THE INPUT: true; the input reads as it did. -/
def fnDateWeekdaySpec : ChangeSpec := { name := "fnDateWeekday", vars := ["loop.example/mailwire/impl.monthNames"], fn := fun _ => fun
  | [d, g1] => { results := [.lit (.bool true)], args := [d], vars := [g1] }
  | _ => none }
def fnDateWeekdayRow : OpenClaim := { program := "ytafpbechcjcdbaadoor", sum := "9e4a3cf3c3b0a5889f2a9bf440da5b4f4ee3feb1548a1241a2eb26c3d5083ed1", func := "loop.example/mailwire/laws.FnDateWeekday", spec := "fnDateWeekday", inPlace := ["internal/bytealg.IndexByteString", "internal/bytealg.IndexString", "internal/bytealg.CountString"], unfollowed := true, recurses := true, named := ["loop.example/mailwire/impl.monthNames", "internal/bytealg.MaxLen", "unicode/utf8.first", "unicode/utf8.acceptRanges"], apart := false, laid := [("unicode/utf8.acceptRanges", laid_unicode_utf8_acceptRanges), ("loop.example/mailwire/impl.monthNames", laid_loop_example_mailwire_impl_monthNames), ("unicode/utf8.first", laid_unicode_utf8_first)] }
def FnDateWeekdaySaid : Prop := fnDateWeekdayRow.holds Tryd.pinned (OpenSpec.ofChange fnDateWeekdaySpec)

/-- ITS FALSE NEIGHBOUR: 'it returns false'. Refute it at one input. -/
def fnDateWeekdayWrong : ChangeSpec := { name := "fnDateWeekday", vars := ["loop.example/mailwire/impl.monthNames"], fn := fun _ => fun
  | [d, g1] => { results := [.lit (.bool false)], args := [d], vars := [g1] }
  | _ => none }
def FnDateWeekdayWrongFalsely : Prop := fnDateWeekdayRow.holds Tryd.pinned (OpenSpec.ofChange fnDateWeekdayWrong)

/-- 'laws.FnExactParseDate': WHATEVER THE INPUT: true; the input reads as it did. -/
def fnExactParseDateSpec : ChangeSpec := { name := "fnExactParseDate", vars := ["loop.example/mailwire/impl.monthNames"], fn := fun _ => fun
  | [d, g1] => { results := [.lit (.bool true)], args := [d], vars := [g1] }
  | _ => none }
def fnExactParseDateRow : OpenClaim := { program := "ytafpbechcjcdbaadoor", sum := "9e4a3cf3c3b0a5889f2a9bf440da5b4f4ee3feb1548a1241a2eb26c3d5083ed1", func := "loop.example/mailwire/laws.FnExactParseDate", spec := "fnExactParseDate", inPlace := ["internal/bytealg.IndexByteString", "internal/bytealg.IndexString", "internal/bytealg.CountString"], unfollowed := true, recurses := true, named := ["loop.example/mailwire/impl.monthNames", "internal/bytealg.MaxLen", "unicode/utf8.first", "unicode/utf8.acceptRanges"], apart := false, laid := [("unicode/utf8.acceptRanges", laid_unicode_utf8_acceptRanges), ("loop.example/mailwire/impl.monthNames", laid_loop_example_mailwire_impl_monthNames), ("unicode/utf8.first", laid_unicode_utf8_first)] }
def FnExactParseDateSaid : Prop := fnExactParseDateRow.holds Tryd.pinned (OpenSpec.ofChange fnExactParseDateSpec)

/-- ITS FALSE NEIGHBOUR: 'it returns false'. Refute it at one input. -/
def fnExactParseDateWrong : ChangeSpec := { name := "fnExactParseDate", vars := ["loop.example/mailwire/impl.monthNames"], fn := fun _ => fun
  | [d, g1] => { results := [.lit (.bool false)], args := [d], vars := [g1] }
  | _ => none }
def FnExactParseDateWrongFalsely : Prop := fnExactParseDateRow.holds Tryd.pinned (OpenSpec.ofChange fnExactParseDateWrong)

/-- 'laws.FnExactFormatDate': WHATEVER THE INPUT: true; the input reads as it did. -/
def fnExactFormatDateSpec : ChangeSpec := { name := "fnExactFormatDate", vars := ["loop.example/mailwire/impl.monthNames"], fn := fun _ => fun
  | [d, g1] => { results := [.lit (.bool true)], args := [d], vars := [g1] }
  | _ => none }
def fnExactFormatDateRow : OpenClaim := { program := "ytafpbechcjcdbaadoor", sum := "9e4a3cf3c3b0a5889f2a9bf440da5b4f4ee3feb1548a1241a2eb26c3d5083ed1", func := "loop.example/mailwire/laws.FnExactFormatDate", spec := "fnExactFormatDate", recurses := true, named := ["loop.example/mailwire/impl.monthNames"], apart := false, laid := [("loop.example/mailwire/impl.monthNames", laid_loop_example_mailwire_impl_monthNames)] }
def FnExactFormatDateSaid : Prop := fnExactFormatDateRow.holds Tryd.pinned (OpenSpec.ofChange fnExactFormatDateSpec)

/-- ITS FALSE NEIGHBOUR: 'it returns false'. Refute it at one input. -/
def fnExactFormatDateWrong : ChangeSpec := { name := "fnExactFormatDate", vars := ["loop.example/mailwire/impl.monthNames"], fn := fun _ => fun
  | [d, g1] => { results := [.lit (.bool false)], args := [d], vars := [g1] }
  | _ => none }
def FnExactFormatDateWrongFalsely : Prop := fnExactFormatDateRow.holds Tryd.pinned (OpenSpec.ofChange fnExactFormatDateWrong)

/-- 'laws.FnDateText': WHATEVER THE INPUT: true; the input reads as it did. -/
def fnDateTextSpec : ChangeSpec := { name := "fnDateText", vars := ["loop.example/mailwire/impl.monthNames"], fn := fun _ => fun
  | [d1, d2, g1] => { results := [.lit (.bool true)], args := [d1, d2], vars := [g1] }
  | _ => none }
def fnDateTextRow : OpenClaim := { program := "ytafpbechcjcdbaadoor", sum := "9e4a3cf3c3b0a5889f2a9bf440da5b4f4ee3feb1548a1241a2eb26c3d5083ed1", func := "loop.example/mailwire/laws.FnDateText", spec := "fnDateText", inPlace := ["internal/bytealg.IndexByteString", "internal/bytealg.IndexString", "internal/bytealg.CountString"], unfollowed := true, recurses := true, named := ["loop.example/mailwire/impl.monthNames", "internal/bytealg.MaxLen", "unicode/utf8.first", "unicode/utf8.acceptRanges"], apart := false, laid := [("unicode/utf8.acceptRanges", laid_unicode_utf8_acceptRanges), ("loop.example/mailwire/impl.monthNames", laid_loop_example_mailwire_impl_monthNames), ("unicode/utf8.first", laid_unicode_utf8_first)] }
def FnDateTextSaid : Prop := fnDateTextRow.holds Tryd.pinned (OpenSpec.ofChange fnDateTextSpec)

/-- ITS FALSE NEIGHBOUR: 'it returns false'. Refute it at one input. -/
def fnDateTextWrong : ChangeSpec := { name := "fnDateText", vars := ["loop.example/mailwire/impl.monthNames"], fn := fun _ => fun
  | [d1, d2, g1] => { results := [.lit (.bool false)], args := [d1, d2], vars := [g1] }
  | _ => none }
def FnDateTextWrongFalsely : Prop := fnDateTextRow.holds Tryd.pinned (OpenSpec.ofChange fnDateTextWrong)

/-- 'laws.FnDateValid': WHATEVER THE INPUT: true; the input reads as it did. -/
def fnDateValidSpec : ChangeSpec := { name := "fnDateValid", vars := ["loop.example/mailwire/impl.monthNames"], fn := fun _ => fun
  | [d, g1] => { results := [.lit (.bool true)], args := [d], vars := [g1] }
  | _ => none }
def fnDateValidRow : OpenClaim := { program := "ytafpbechcjcdbaadoor", sum := "9e4a3cf3c3b0a5889f2a9bf440da5b4f4ee3feb1548a1241a2eb26c3d5083ed1", func := "loop.example/mailwire/laws.FnDateValid", spec := "fnDateValid", named := ["loop.example/mailwire/impl.monthNames"], apart := false, laid := [("loop.example/mailwire/impl.monthNames", laid_loop_example_mailwire_impl_monthNames)] }
def FnDateValidSaid : Prop := fnDateValidRow.holds Tryd.pinned (OpenSpec.ofChange fnDateValidSpec)

/-- ITS FALSE NEIGHBOUR: 'it returns false'. Refute it at one input. -/
def fnDateValidWrong : ChangeSpec := { name := "fnDateValid", vars := ["loop.example/mailwire/impl.monthNames"], fn := fun _ => fun
  | [d, g1] => { results := [.lit (.bool false)], args := [d], vars := [g1] }
  | _ => none }
def FnDateValidWrongFalsely : Prop := fnDateValidRow.holds Tryd.pinned (OpenSpec.ofChange fnDateValidWrong)

/-- 'laws.FnZoneText': WHATEVER THE INPUT: true; the input reads as it did. -/
def fnZoneTextSpec : ChangeSpec := { name := "fnZoneText", vars := ["loop.example/mailwire/impl.monthNames"], fn := fun _ => fun
  | [d, g1] => { results := [.lit (.bool true)], args := [d], vars := [g1] }
  | _ => none }
def fnZoneTextRow : OpenClaim := { program := "ytafpbechcjcdbaadoor", sum := "9e4a3cf3c3b0a5889f2a9bf440da5b4f4ee3feb1548a1241a2eb26c3d5083ed1", func := "loop.example/mailwire/laws.FnZoneText", spec := "fnZoneText", recurses := true, named := ["loop.example/mailwire/impl.monthNames"], apart := false, laid := [("loop.example/mailwire/impl.monthNames", laid_loop_example_mailwire_impl_monthNames)] }
def FnZoneTextSaid : Prop := fnZoneTextRow.holds Tryd.pinned (OpenSpec.ofChange fnZoneTextSpec)

/-- ITS FALSE NEIGHBOUR: 'it returns false'. Refute it at one input. -/
def fnZoneTextWrong : ChangeSpec := { name := "fnZoneText", vars := ["loop.example/mailwire/impl.monthNames"], fn := fun _ => fun
  | [d, g1] => { results := [.lit (.bool false)], args := [d], vars := [g1] }
  | _ => none }
def FnZoneTextWrongFalsely : Prop := fnZoneTextRow.holds Tryd.pinned (OpenSpec.ofChange fnZoneTextWrong)

/- THE SECOND FORM. 'bulk': how many values and letters a reading holds, each counted each time it is reached (what is shared counts as often as it is met; a slice's spare places count too). A statement '..UptoSaid' is the law's where the arguments, and the package variables that the reading takes, are together of bulk at most 1048576: NARROWER than '..Said'. Prove '..Said' where nothing that the law and all that it calls make is longer than what came in: it says more and counts as full. Else prove '..UptoSaid'. A law counts once. -/
mutual
def uptoBulk {H : Type} : DataW H → Nat
  | .lit (.string bytes) => bytes.length + 1
  | .lit _ => 1
  | .nil => 1
  | .ptr d => uptoBulk d + 1
  | .slice elems spare => uptoBulkAll elems + uptoBulkAll spare + 1
  | .agg parts => uptoBulkAll parts + 1
  | .iface _ d => uptoBulk d + 1
  | .map entries => uptoBulkEntries entries + 1
  | .held _ => 1
def uptoBulkAll {H : Type} : List (DataW H) → Nat
  | [] => 0
  | d :: r => uptoBulk d + uptoBulkAll r
def uptoBulkEntries {H : Type} : List (Lit × DataW H) → Nat
  | [] => 0
  | x :: r => uptoBulkEntry x + uptoBulkEntries r
def uptoBulkEntry {H : Type} : Lit × DataW H → Nat
  | (.string bytes, d) => bytes.length + uptoBulk d + 1
  | (_, d) => uptoBulk d + 1
 end
def uptoSmall : (H : Type) → List (DataW H) → Bool := fun _ ds => decide (uptoBulkAll ds ≤ 1048576)
def OpenSpec.upto (s : _root_.Go.ChangeSpec) : _root_.Go.OpenSpec := { _root_.Go.OpenSpec.ofChange s with cond := some uptoSmall }

/-- 'laws.FnDateWeekday', WHERE WHAT IT READS IS OF BULK AT MOST 1048576: true; the input reads as it did. -/
def fnDateWeekdayUptoRow : OpenClaim := { program := "ytafpbechcjcdbaadoor", sum := "9e4a3cf3c3b0a5889f2a9bf440da5b4f4ee3feb1548a1241a2eb26c3d5083ed1", func := "loop.example/mailwire/laws.FnDateWeekday", spec := "fnDateWeekday", inPlace := ["internal/bytealg.IndexByteString", "internal/bytealg.IndexString", "internal/bytealg.CountString"], unfollowed := true, recurses := true, named := ["loop.example/mailwire/impl.monthNames", "internal/bytealg.MaxLen", "unicode/utf8.first", "unicode/utf8.acceptRanges"], apart := false, laid := [("unicode/utf8.acceptRanges", laid_unicode_utf8_acceptRanges), ("loop.example/mailwire/impl.monthNames", laid_loop_example_mailwire_impl_monthNames), ("unicode/utf8.first", laid_unicode_utf8_first)], narrowed := true }
def FnDateWeekdayUptoSaid : Prop := fnDateWeekdayUptoRow.holds Tryd.pinned (OpenSpec.upto fnDateWeekdaySpec)

/-- 'laws.FnExactParseDate', WHERE WHAT IT READS IS OF BULK AT MOST 1048576: true; the input reads as it did. -/
def fnExactParseDateUptoRow : OpenClaim := { program := "ytafpbechcjcdbaadoor", sum := "9e4a3cf3c3b0a5889f2a9bf440da5b4f4ee3feb1548a1241a2eb26c3d5083ed1", func := "loop.example/mailwire/laws.FnExactParseDate", spec := "fnExactParseDate", inPlace := ["internal/bytealg.IndexByteString", "internal/bytealg.IndexString", "internal/bytealg.CountString"], unfollowed := true, recurses := true, named := ["loop.example/mailwire/impl.monthNames", "internal/bytealg.MaxLen", "unicode/utf8.first", "unicode/utf8.acceptRanges"], apart := false, laid := [("unicode/utf8.acceptRanges", laid_unicode_utf8_acceptRanges), ("loop.example/mailwire/impl.monthNames", laid_loop_example_mailwire_impl_monthNames), ("unicode/utf8.first", laid_unicode_utf8_first)], narrowed := true }
def FnExactParseDateUptoSaid : Prop := fnExactParseDateUptoRow.holds Tryd.pinned (OpenSpec.upto fnExactParseDateSpec)

/-- 'laws.FnExactFormatDate', WHERE WHAT IT READS IS OF BULK AT MOST 1048576: true; the input reads as it did. -/
def fnExactFormatDateUptoRow : OpenClaim := { program := "ytafpbechcjcdbaadoor", sum := "9e4a3cf3c3b0a5889f2a9bf440da5b4f4ee3feb1548a1241a2eb26c3d5083ed1", func := "loop.example/mailwire/laws.FnExactFormatDate", spec := "fnExactFormatDate", recurses := true, named := ["loop.example/mailwire/impl.monthNames"], apart := false, laid := [("loop.example/mailwire/impl.monthNames", laid_loop_example_mailwire_impl_monthNames)], narrowed := true }
def FnExactFormatDateUptoSaid : Prop := fnExactFormatDateUptoRow.holds Tryd.pinned (OpenSpec.upto fnExactFormatDateSpec)

/-- 'laws.FnDateText', WHERE WHAT IT READS IS OF BULK AT MOST 1048576: true; the input reads as it did. -/
def fnDateTextUptoRow : OpenClaim := { program := "ytafpbechcjcdbaadoor", sum := "9e4a3cf3c3b0a5889f2a9bf440da5b4f4ee3feb1548a1241a2eb26c3d5083ed1", func := "loop.example/mailwire/laws.FnDateText", spec := "fnDateText", inPlace := ["internal/bytealg.IndexByteString", "internal/bytealg.IndexString", "internal/bytealg.CountString"], unfollowed := true, recurses := true, named := ["loop.example/mailwire/impl.monthNames", "internal/bytealg.MaxLen", "unicode/utf8.first", "unicode/utf8.acceptRanges"], apart := false, laid := [("unicode/utf8.acceptRanges", laid_unicode_utf8_acceptRanges), ("loop.example/mailwire/impl.monthNames", laid_loop_example_mailwire_impl_monthNames), ("unicode/utf8.first", laid_unicode_utf8_first)], narrowed := true }
def FnDateTextUptoSaid : Prop := fnDateTextUptoRow.holds Tryd.pinned (OpenSpec.upto fnDateTextSpec)

/-- 'laws.FnDateValid', WHERE WHAT IT READS IS OF BULK AT MOST 1048576: true; the input reads as it did. -/
def fnDateValidUptoRow : OpenClaim := { program := "ytafpbechcjcdbaadoor", sum := "9e4a3cf3c3b0a5889f2a9bf440da5b4f4ee3feb1548a1241a2eb26c3d5083ed1", func := "loop.example/mailwire/laws.FnDateValid", spec := "fnDateValid", named := ["loop.example/mailwire/impl.monthNames"], apart := false, laid := [("loop.example/mailwire/impl.monthNames", laid_loop_example_mailwire_impl_monthNames)], narrowed := true }
def FnDateValidUptoSaid : Prop := fnDateValidUptoRow.holds Tryd.pinned (OpenSpec.upto fnDateValidSpec)

/-- 'laws.FnZoneText', WHERE WHAT IT READS IS OF BULK AT MOST 1048576: true; the input reads as it did. -/
def fnZoneTextUptoRow : OpenClaim := { program := "ytafpbechcjcdbaadoor", sum := "9e4a3cf3c3b0a5889f2a9bf440da5b4f4ee3feb1548a1241a2eb26c3d5083ed1", func := "loop.example/mailwire/laws.FnZoneText", spec := "fnZoneText", recurses := true, named := ["loop.example/mailwire/impl.monthNames"], apart := false, laid := [("loop.example/mailwire/impl.monthNames", laid_loop_example_mailwire_impl_monthNames)], narrowed := true }
def FnZoneTextUptoSaid : Prop := fnZoneTextUptoRow.holds Tryd.pinned (OpenSpec.upto fnZoneTextSpec)

end Rows
end Go.Proofs.YtafpbechcjcdbaaDoor
