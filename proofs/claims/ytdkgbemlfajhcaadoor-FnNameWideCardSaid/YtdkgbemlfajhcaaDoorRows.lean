/-
  NARROWER THAN 'FOR EVERY INPUT', by the rows' own cells (each row's printed sentence says how): FnExactBestCode: laid · FnExactEncodeBytes: laid · FnPlainLines: laid · FnNameText: laid · FnNameWide: laid · FnEncodeBytes: laid · FnNameWords: laid · FnBestAll: laid · FnBestCode: laid · FnEncodeName: laid · FnDecodeBytes: laid.
  DERIVED. THE GIVEN ROWS OF THIS SEAT. 11 by the template 'for every input the law returns true; each argument reads behind the call as it read before'; 0 by the template 'total and deterministic' (their statements: YtdkgbemlfajhcaaDoorTotals.lean).
  GIVEN WITH THE SEED: the statements are not yours to turn. If you find one false, say at which input.
  Laid BY PROGRAM, IN A SANDBOX (cutbox-rows.mjs): the forced cells as the released guide's own fill.sh prints them over the translation 5554a6eaef8b6e44… (all of the seat's roots in one cut). By AI agents, Wed Nov 11 2026. No macro, syntax, notation, axiom, sorry.
-/
import Derived.Test.YtdkgbemlfajhcaaDoorChecked
import GoSem.PinnedTables
import GoSem.Claim
import GoSem.ClaimJoined
import GoSem.ClaimMapViews
import Derived.JoinedTies
import Derived.KernelRfl
namespace Go.Proofs.YtdkgbemlfajhcaaDoor
/- THE CELL 'sum', in the pinned program and in every row, IS THE sha256 OF THE DUMP (.gsa) THAT YtdkgbemlfajhcaaDoorProg.lean LOADS. Nothing in Lean hashes anything: it is a label: what it is worth is what the hold of that sum in a sandbox is worth. -/
noncomputable def Tryd.pinned : Pinned := { name := "ytdkgbemlfajhcaadoor", sum := "5554a6eaef8b6e44930e24ac489b13e990324a9de8c016a9faba3a984071a172", checked := Tryd.checked }
namespace Rows
def none {H : Type} : Left H := { results := [], args := [] }

/- WHAT THE LISTED PACKAGE-LEVEL VARIABLES READ AS WHEN THE CALL BEGINS. Each datum BY PROGRAM (the guide's laid-datum.mjs) off the statement by which the dump's own 'gosem.cut.vars' lays the variable. In a bare row this is a premise. The card (YtdkgbemlfajhcaaDoorCards.lean) ties it to the program's text. -/
def laid_unicode_utf8_acceptRanges {H : Type} : DataW H := .agg [.agg [.lit (.int .u8 128), .lit (.int .u8 191)], .agg [.lit (.int .u8 160), .lit (.int .u8 191)], .agg [.lit (.int .u8 128), .lit (.int .u8 159)], .agg [.lit (.int .u8 144), .lit (.int .u8 191)], .agg [.lit (.int .u8 128), .lit (.int .u8 143)], .agg [.lit (.int .u8 0), .lit (.int .u8 0)], .agg [.lit (.int .u8 0), .lit (.int .u8 0)], .agg [.lit (.int .u8 0), .lit (.int .u8 0)], .agg [.lit (.int .u8 0), .lit (.int .u8 0)], .agg [.lit (.int .u8 0), .lit (.int .u8 0)], .agg [.lit (.int .u8 0), .lit (.int .u8 0)], .agg [.lit (.int .u8 0), .lit (.int .u8 0)], .agg [.lit (.int .u8 0), .lit (.int .u8 0)], .agg [.lit (.int .u8 0), .lit (.int .u8 0)], .agg [.lit (.int .u8 0), .lit (.int .u8 0)], .agg [.lit (.int .u8 0), .lit (.int .u8 0)]]
/-- One of Go's own tables, pinned by name: the form's constant. -/
def laid_unicode_utf8_first : DataW Unit := Go.Pinned.utf8First

/-- 'laws.FnExactBestCode': WHATEVER THE INPUT: true; the input reads as it did. -/
def fnExactBestCodeSpec : ChangeSpec := { name := "fnExactBestCode", fn := fun _ => fun
  | [d] => { results := [.lit (.bool true)], args := [d] }
  | _ => none }
def fnExactBestCodeRow : OpenClaim := { program := "ytdkgbemlfajhcaadoor", sum := "5554a6eaef8b6e44930e24ac489b13e990324a9de8c016a9faba3a984071a172", func := "loop.example/mailwire/laws.FnExactBestCode", spec := "fnExactBestCode", inPlace := ["internal/bytealg.CountString", "internal/bytealg.IndexByteString", "internal/bytealg.IndexString"], unfollowed := true, recurses := true, named := ["unicode/utf8.first", "unicode/utf8.acceptRanges", "internal/bytealg.MaxLen"], apart := false, laid := [("unicode/utf8.acceptRanges", laid_unicode_utf8_acceptRanges), ("unicode/utf8.first", laid_unicode_utf8_first)] }
def FnExactBestCodeSaid : Prop := fnExactBestCodeRow.holds Tryd.pinned (OpenSpec.ofChange fnExactBestCodeSpec)

/-- ITS FALSE NEIGHBOUR: 'it returns false'. Refute it at one input. -/
def fnExactBestCodeWrong : ChangeSpec := { name := "fnExactBestCode", fn := fun _ => fun
  | [d] => { results := [.lit (.bool false)], args := [d] }
  | _ => none }
def FnExactBestCodeWrongFalsely : Prop := fnExactBestCodeRow.holds Tryd.pinned (OpenSpec.ofChange fnExactBestCodeWrong)

/-- 'laws.FnExactEncodeBytes': WHATEVER THE INPUT: true; the input reads as it did. -/
def fnExactEncodeBytesSpec : ChangeSpec := { name := "fnExactEncodeBytes", fn := fun _ => fun
  | [d1, d2] => { results := [.lit (.bool true)], args := [d1, d2] }
  | _ => none }
def fnExactEncodeBytesRow : OpenClaim := { program := "ytdkgbemlfajhcaadoor", sum := "5554a6eaef8b6e44930e24ac489b13e990324a9de8c016a9faba3a984071a172", func := "loop.example/mailwire/laws.FnExactEncodeBytes", spec := "fnExactEncodeBytes", inPlace := ["internal/bytealg.CountString", "internal/bytealg.IndexByteString", "internal/bytealg.IndexString"], unfollowed := true, recurses := true, named := ["unicode/utf8.first", "unicode/utf8.acceptRanges", "internal/bytealg.MaxLen"], apart := false, laid := [("unicode/utf8.acceptRanges", laid_unicode_utf8_acceptRanges), ("unicode/utf8.first", laid_unicode_utf8_first)] }
def FnExactEncodeBytesSaid : Prop := fnExactEncodeBytesRow.holds Tryd.pinned (OpenSpec.ofChange fnExactEncodeBytesSpec)

/-- ITS FALSE NEIGHBOUR: 'it returns false'. Refute it at one input. -/
def fnExactEncodeBytesWrong : ChangeSpec := { name := "fnExactEncodeBytes", fn := fun _ => fun
  | [d1, d2] => { results := [.lit (.bool false)], args := [d1, d2] }
  | _ => none }
def FnExactEncodeBytesWrongFalsely : Prop := fnExactEncodeBytesRow.holds Tryd.pinned (OpenSpec.ofChange fnExactEncodeBytesWrong)

/-- 'laws.FnPlainLines': WHATEVER THE INPUT: true; the input reads as it did. -/
def fnPlainLinesSpec : ChangeSpec := { name := "fnPlainLines", fn := fun _ => fun
  | [d] => { results := [.lit (.bool true)], args := [d] }
  | _ => none }
def fnPlainLinesRow : OpenClaim := { program := "ytdkgbemlfajhcaadoor", sum := "5554a6eaef8b6e44930e24ac489b13e990324a9de8c016a9faba3a984071a172", func := "loop.example/mailwire/laws.FnPlainLines", spec := "fnPlainLines", inPlace := ["internal/bytealg.CountString", "internal/bytealg.IndexByteString", "internal/bytealg.IndexString"], unfollowed := true, recurses := true, named := ["unicode/utf8.first", "unicode/utf8.acceptRanges", "internal/bytealg.MaxLen"], apart := false, laid := [("unicode/utf8.acceptRanges", laid_unicode_utf8_acceptRanges), ("unicode/utf8.first", laid_unicode_utf8_first)] }
def FnPlainLinesSaid : Prop := fnPlainLinesRow.holds Tryd.pinned (OpenSpec.ofChange fnPlainLinesSpec)

/-- ITS FALSE NEIGHBOUR: 'it returns false'. Refute it at one input. -/
def fnPlainLinesWrong : ChangeSpec := { name := "fnPlainLines", fn := fun _ => fun
  | [d] => { results := [.lit (.bool false)], args := [d] }
  | _ => none }
def FnPlainLinesWrongFalsely : Prop := fnPlainLinesRow.holds Tryd.pinned (OpenSpec.ofChange fnPlainLinesWrong)

/-- 'laws.FnNameText': WHATEVER THE INPUT: true; the input reads as it did. -/
def fnNameTextSpec : ChangeSpec := { name := "fnNameText", fn := fun _ => fun
  | [d] => { results := [.lit (.bool true)], args := [d] }
  | _ => none }
def fnNameTextRow : OpenClaim := { program := "ytdkgbemlfajhcaadoor", sum := "5554a6eaef8b6e44930e24ac489b13e990324a9de8c016a9faba3a984071a172", func := "loop.example/mailwire/laws.FnNameText", spec := "fnNameText", inPlace := ["internal/bytealg.IndexByteString", "internal/bytealg.IndexString", "internal/abi.NoEscape", "internal/bytealg.MakeNoZero"], named := ["unicode/utf8.first", "unicode/utf8.acceptRanges", "internal/bytealg.MaxLen"], apart := false, laid := [("unicode/utf8.acceptRanges", laid_unicode_utf8_acceptRanges), ("unicode/utf8.first", laid_unicode_utf8_first)] }
def FnNameTextSaid : Prop := fnNameTextRow.holds Tryd.pinned (OpenSpec.ofChange fnNameTextSpec)

/-- ITS FALSE NEIGHBOUR: 'it returns false'. Refute it at one input. -/
def fnNameTextWrong : ChangeSpec := { name := "fnNameText", fn := fun _ => fun
  | [d] => { results := [.lit (.bool false)], args := [d] }
  | _ => none }
def FnNameTextWrongFalsely : Prop := fnNameTextRow.holds Tryd.pinned (OpenSpec.ofChange fnNameTextWrong)

/-- 'laws.FnNameWide': WHATEVER THE INPUT: true; the input reads as it did. -/
def fnNameWideSpec : ChangeSpec := { name := "fnNameWide", fn := fun _ => fun
  | [d] => { results := [.lit (.bool true)], args := [d] }
  | _ => none }
def fnNameWideRow : OpenClaim := { program := "ytdkgbemlfajhcaadoor", sum := "5554a6eaef8b6e44930e24ac489b13e990324a9de8c016a9faba3a984071a172", func := "loop.example/mailwire/laws.FnNameWide", spec := "fnNameWide", inPlace := ["internal/bytealg.IndexByteString", "internal/bytealg.IndexString", "internal/abi.NoEscape", "internal/bytealg.MakeNoZero"], named := ["unicode/utf8.first", "unicode/utf8.acceptRanges", "internal/bytealg.MaxLen"], apart := false, laid := [("unicode/utf8.acceptRanges", laid_unicode_utf8_acceptRanges), ("unicode/utf8.first", laid_unicode_utf8_first)] }
def FnNameWideSaid : Prop := fnNameWideRow.holds Tryd.pinned (OpenSpec.ofChange fnNameWideSpec)

/-- ITS FALSE NEIGHBOUR: 'it returns false'. Refute it at one input. -/
def fnNameWideWrong : ChangeSpec := { name := "fnNameWide", fn := fun _ => fun
  | [d] => { results := [.lit (.bool false)], args := [d] }
  | _ => none }
def FnNameWideWrongFalsely : Prop := fnNameWideRow.holds Tryd.pinned (OpenSpec.ofChange fnNameWideWrong)

/-- 'laws.FnEncodeBytes': WHATEVER THE INPUT: true; the input reads as it did. -/
def fnEncodeBytesSpec : ChangeSpec := { name := "fnEncodeBytes", fn := fun _ => fun
  | [d] => { results := [.lit (.bool true)], args := [d] }
  | _ => none }
def fnEncodeBytesRow : OpenClaim := { program := "ytdkgbemlfajhcaadoor", sum := "5554a6eaef8b6e44930e24ac489b13e990324a9de8c016a9faba3a984071a172", func := "loop.example/mailwire/laws.FnEncodeBytes", spec := "fnEncodeBytes", inPlace := ["internal/bytealg.CountString", "internal/bytealg.IndexByteString", "internal/bytealg.IndexString", "internal/abi.NoEscape", "internal/bytealg.MakeNoZero"], unfollowed := true, recurses := true, named := ["unicode/utf8.first", "unicode/utf8.acceptRanges", "internal/bytealg.MaxLen"], apart := false, laid := [("unicode/utf8.acceptRanges", laid_unicode_utf8_acceptRanges), ("unicode/utf8.first", laid_unicode_utf8_first)] }
def FnEncodeBytesSaid : Prop := fnEncodeBytesRow.holds Tryd.pinned (OpenSpec.ofChange fnEncodeBytesSpec)

/-- ITS FALSE NEIGHBOUR: 'it returns false'. Refute it at one input. -/
def fnEncodeBytesWrong : ChangeSpec := { name := "fnEncodeBytes", fn := fun _ => fun
  | [d] => { results := [.lit (.bool false)], args := [d] }
  | _ => none }
def FnEncodeBytesWrongFalsely : Prop := fnEncodeBytesRow.holds Tryd.pinned (OpenSpec.ofChange fnEncodeBytesWrong)

/-- 'laws.FnNameWords': WHATEVER THE INPUT: true; the input reads as it did. -/
def fnNameWordsSpec : ChangeSpec := { name := "fnNameWords", fn := fun _ => fun
  | [d] => { results := [.lit (.bool true)], args := [d] }
  | _ => none }
def fnNameWordsRow : OpenClaim := { program := "ytdkgbemlfajhcaadoor", sum := "5554a6eaef8b6e44930e24ac489b13e990324a9de8c016a9faba3a984071a172", func := "loop.example/mailwire/laws.FnNameWords", spec := "fnNameWords", inPlace := ["internal/bytealg.IndexByteString", "internal/bytealg.IndexString", "internal/abi.NoEscape", "internal/bytealg.MakeNoZero"], named := ["unicode/utf8.first", "unicode/utf8.acceptRanges", "internal/bytealg.MaxLen"], apart := false, laid := [("unicode/utf8.acceptRanges", laid_unicode_utf8_acceptRanges), ("unicode/utf8.first", laid_unicode_utf8_first)] }
def FnNameWordsSaid : Prop := fnNameWordsRow.holds Tryd.pinned (OpenSpec.ofChange fnNameWordsSpec)

/-- ITS FALSE NEIGHBOUR: 'it returns false'. Refute it at one input. -/
def fnNameWordsWrong : ChangeSpec := { name := "fnNameWords", fn := fun _ => fun
  | [d] => { results := [.lit (.bool false)], args := [d] }
  | _ => none }
def FnNameWordsWrongFalsely : Prop := fnNameWordsRow.holds Tryd.pinned (OpenSpec.ofChange fnNameWordsWrong)

/-- 'laws.FnBestAll': WHATEVER THE INPUT: true; the input reads as it did. -/
def fnBestAllSpec : ChangeSpec := { name := "fnBestAll", fn := fun _ => fun
  | [d] => { results := [.lit (.bool true)], args := [d] }
  | _ => none }
def fnBestAllRow : OpenClaim := { program := "ytdkgbemlfajhcaadoor", sum := "5554a6eaef8b6e44930e24ac489b13e990324a9de8c016a9faba3a984071a172", func := "loop.example/mailwire/laws.FnBestAll", spec := "fnBestAll", inPlace := ["internal/bytealg.CountString", "internal/bytealg.IndexByteString", "internal/bytealg.IndexString", "internal/abi.NoEscape", "internal/bytealg.MakeNoZero"], unfollowed := true, recurses := true, named := ["unicode/utf8.first", "unicode/utf8.acceptRanges", "internal/bytealg.MaxLen"], apart := false, laid := [("unicode/utf8.acceptRanges", laid_unicode_utf8_acceptRanges), ("unicode/utf8.first", laid_unicode_utf8_first)] }
def FnBestAllSaid : Prop := fnBestAllRow.holds Tryd.pinned (OpenSpec.ofChange fnBestAllSpec)

/-- ITS FALSE NEIGHBOUR: 'it returns false'. Refute it at one input. -/
def fnBestAllWrong : ChangeSpec := { name := "fnBestAll", fn := fun _ => fun
  | [d] => { results := [.lit (.bool false)], args := [d] }
  | _ => none }
def FnBestAllWrongFalsely : Prop := fnBestAllRow.holds Tryd.pinned (OpenSpec.ofChange fnBestAllWrong)

/-- 'laws.FnBestCode': WHATEVER THE INPUT: true; the input reads as it did. -/
def fnBestCodeSpec : ChangeSpec := { name := "fnBestCode", fn := fun _ => fun
  | [d] => { results := [.lit (.bool true)], args := [d] }
  | _ => none }
def fnBestCodeRow : OpenClaim := { program := "ytdkgbemlfajhcaadoor", sum := "5554a6eaef8b6e44930e24ac489b13e990324a9de8c016a9faba3a984071a172", func := "loop.example/mailwire/laws.FnBestCode", spec := "fnBestCode", inPlace := ["internal/bytealg.CountString", "internal/bytealg.IndexByteString", "internal/bytealg.IndexString", "internal/abi.NoEscape", "internal/bytealg.MakeNoZero"], unfollowed := true, recurses := true, named := ["unicode/utf8.first", "unicode/utf8.acceptRanges", "internal/bytealg.MaxLen"], apart := false, laid := [("unicode/utf8.acceptRanges", laid_unicode_utf8_acceptRanges), ("unicode/utf8.first", laid_unicode_utf8_first)] }
def FnBestCodeSaid : Prop := fnBestCodeRow.holds Tryd.pinned (OpenSpec.ofChange fnBestCodeSpec)

/-- ITS FALSE NEIGHBOUR: 'it returns false'. Refute it at one input. -/
def fnBestCodeWrong : ChangeSpec := { name := "fnBestCode", fn := fun _ => fun
  | [d] => { results := [.lit (.bool false)], args := [d] }
  | _ => none }
def FnBestCodeWrongFalsely : Prop := fnBestCodeRow.holds Tryd.pinned (OpenSpec.ofChange fnBestCodeWrong)

/-- 'laws.FnEncodeName': WHATEVER THE INPUT: true; the input reads as it did. -/
def fnEncodeNameSpec : ChangeSpec := { name := "fnEncodeName", fn := fun _ => fun
  | [d] => { results := [.lit (.bool true)], args := [d] }
  | _ => none }
def fnEncodeNameRow : OpenClaim := { program := "ytdkgbemlfajhcaadoor", sum := "5554a6eaef8b6e44930e24ac489b13e990324a9de8c016a9faba3a984071a172", func := "loop.example/mailwire/laws.FnEncodeName", spec := "fnEncodeName", inPlace := ["internal/bytealg.IndexByteString", "internal/bytealg.IndexString", "internal/abi.NoEscape", "internal/bytealg.MakeNoZero", "internal/bytealg.CountString"], named := ["unicode/utf8.first", "unicode/utf8.acceptRanges", "internal/bytealg.MaxLen"], apart := false, laid := [("unicode/utf8.acceptRanges", laid_unicode_utf8_acceptRanges), ("unicode/utf8.first", laid_unicode_utf8_first)] }
def FnEncodeNameSaid : Prop := fnEncodeNameRow.holds Tryd.pinned (OpenSpec.ofChange fnEncodeNameSpec)

/-- ITS FALSE NEIGHBOUR: 'it returns false'. Refute it at one input. -/
def fnEncodeNameWrong : ChangeSpec := { name := "fnEncodeName", fn := fun _ => fun
  | [d] => { results := [.lit (.bool false)], args := [d] }
  | _ => none }
def FnEncodeNameWrongFalsely : Prop := fnEncodeNameRow.holds Tryd.pinned (OpenSpec.ofChange fnEncodeNameWrong)

/-- 'laws.FnDecodeBytes': WHATEVER THE INPUT: true; the input reads as it did. -/
def fnDecodeBytesSpec : ChangeSpec := { name := "fnDecodeBytes", fn := fun _ => fun
  | [d] => { results := [.lit (.bool true)], args := [d] }
  | _ => none }
def fnDecodeBytesRow : OpenClaim := { program := "ytdkgbemlfajhcaadoor", sum := "5554a6eaef8b6e44930e24ac489b13e990324a9de8c016a9faba3a984071a172", func := "loop.example/mailwire/laws.FnDecodeBytes", spec := "fnDecodeBytes", inPlace := ["internal/abi.NoEscape", "internal/bytealg.MakeNoZero", "internal/bytealg.IndexByteString", "internal/bytealg.CountString", "internal/bytealg.IndexString"], unfollowed := true, recurses := true, named := ["internal/bytealg.MaxLen", "unicode/utf8.first", "unicode/utf8.acceptRanges"], apart := false, laid := [("unicode/utf8.acceptRanges", laid_unicode_utf8_acceptRanges), ("unicode/utf8.first", laid_unicode_utf8_first)] }
def FnDecodeBytesSaid : Prop := fnDecodeBytesRow.holds Tryd.pinned (OpenSpec.ofChange fnDecodeBytesSpec)

/-- ITS FALSE NEIGHBOUR: 'it returns false'. Refute it at one input. -/
def fnDecodeBytesWrong : ChangeSpec := { name := "fnDecodeBytes", fn := fun _ => fun
  | [d] => { results := [.lit (.bool false)], args := [d] }
  | _ => none }
def FnDecodeBytesWrongFalsely : Prop := fnDecodeBytesRow.holds Tryd.pinned (OpenSpec.ofChange fnDecodeBytesWrong)

/- THE SECOND FORM. 'bulk': how many values and letters a reading holds, each counted each time it is reached (what is shared counts as often as it is met; a slice's spare places count too). A statement '..UptoSaid' is the law's where the arguments, and the package variables that the reading takes, are together of bulk at most 1048576: NARROWER than '..Said'. Prove '..Said' where nothing that the law and all that it calls make is longer than what came in: it says more and counts as full. Else prove '..UptoSaid'. A law counts once. -/
mutual
def uptoBulk {H : Type} : DataW H → Nat
  | .lit (.string bytes) => bytes.length + 1
  | .lit _ => 1
  | .nil => 1
  | .ptr d => uptoBulk d + 1
  | .slice elems spare => uptoBulkAll elems + uptoBulkAll spare + 1
  | .agg parts => uptoBulkAll parts + 1
  | .iface _ d => uptoBulk d + 1
  | .map entries => uptoBulkEntries entries + 1
  | .held _ => 1
def uptoBulkAll {H : Type} : List (DataW H) → Nat
  | [] => 0
  | d :: r => uptoBulk d + uptoBulkAll r
def uptoBulkEntries {H : Type} : List (Lit × DataW H) → Nat
  | [] => 0
  | x :: r => uptoBulkEntry x + uptoBulkEntries r
def uptoBulkEntry {H : Type} : Lit × DataW H → Nat
  | (.string bytes, d) => bytes.length + uptoBulk d + 1
  | (_, d) => uptoBulk d + 1
 end
def uptoSmall : (H : Type) → List (DataW H) → Bool := fun _ ds => decide (uptoBulkAll ds ≤ 1048576)
def OpenSpec.upto (s : _root_.Go.ChangeSpec) : _root_.Go.OpenSpec := { _root_.Go.OpenSpec.ofChange s with cond := some uptoSmall }

/-- 'laws.FnExactBestCode', WHERE WHAT IT READS IS OF BULK AT MOST 1048576: true; the input reads as it did. -/
def fnExactBestCodeUptoRow : OpenClaim := { program := "ytdkgbemlfajhcaadoor", sum := "5554a6eaef8b6e44930e24ac489b13e990324a9de8c016a9faba3a984071a172", func := "loop.example/mailwire/laws.FnExactBestCode", spec := "fnExactBestCode", inPlace := ["internal/bytealg.CountString", "internal/bytealg.IndexByteString", "internal/bytealg.IndexString"], unfollowed := true, recurses := true, named := ["unicode/utf8.first", "unicode/utf8.acceptRanges", "internal/bytealg.MaxLen"], apart := false, laid := [("unicode/utf8.acceptRanges", laid_unicode_utf8_acceptRanges), ("unicode/utf8.first", laid_unicode_utf8_first)], narrowed := true }
def FnExactBestCodeUptoSaid : Prop := fnExactBestCodeUptoRow.holds Tryd.pinned (OpenSpec.upto fnExactBestCodeSpec)

/-- 'laws.FnExactEncodeBytes', WHERE WHAT IT READS IS OF BULK AT MOST 1048576: true; the input reads as it did. -/
def fnExactEncodeBytesUptoRow : OpenClaim := { program := "ytdkgbemlfajhcaadoor", sum := "5554a6eaef8b6e44930e24ac489b13e990324a9de8c016a9faba3a984071a172", func := "loop.example/mailwire/laws.FnExactEncodeBytes", spec := "fnExactEncodeBytes", inPlace := ["internal/bytealg.CountString", "internal/bytealg.IndexByteString", "internal/bytealg.IndexString"], unfollowed := true, recurses := true, named := ["unicode/utf8.first", "unicode/utf8.acceptRanges", "internal/bytealg.MaxLen"], apart := false, laid := [("unicode/utf8.acceptRanges", laid_unicode_utf8_acceptRanges), ("unicode/utf8.first", laid_unicode_utf8_first)], narrowed := true }
def FnExactEncodeBytesUptoSaid : Prop := fnExactEncodeBytesUptoRow.holds Tryd.pinned (OpenSpec.upto fnExactEncodeBytesSpec)

/-- 'laws.FnPlainLines', WHERE WHAT IT READS IS OF BULK AT MOST 1048576: true; the input reads as it did. -/
def fnPlainLinesUptoRow : OpenClaim := { program := "ytdkgbemlfajhcaadoor", sum := "5554a6eaef8b6e44930e24ac489b13e990324a9de8c016a9faba3a984071a172", func := "loop.example/mailwire/laws.FnPlainLines", spec := "fnPlainLines", inPlace := ["internal/bytealg.CountString", "internal/bytealg.IndexByteString", "internal/bytealg.IndexString"], unfollowed := true, recurses := true, named := ["unicode/utf8.first", "unicode/utf8.acceptRanges", "internal/bytealg.MaxLen"], apart := false, laid := [("unicode/utf8.acceptRanges", laid_unicode_utf8_acceptRanges), ("unicode/utf8.first", laid_unicode_utf8_first)], narrowed := true }
def FnPlainLinesUptoSaid : Prop := fnPlainLinesUptoRow.holds Tryd.pinned (OpenSpec.upto fnPlainLinesSpec)

/-- 'laws.FnNameText', WHERE WHAT IT READS IS OF BULK AT MOST 1048576: true; the input reads as it did. -/
def fnNameTextUptoRow : OpenClaim := { program := "ytdkgbemlfajhcaadoor", sum := "5554a6eaef8b6e44930e24ac489b13e990324a9de8c016a9faba3a984071a172", func := "loop.example/mailwire/laws.FnNameText", spec := "fnNameText", inPlace := ["internal/bytealg.IndexByteString", "internal/bytealg.IndexString", "internal/abi.NoEscape", "internal/bytealg.MakeNoZero"], named := ["unicode/utf8.first", "unicode/utf8.acceptRanges", "internal/bytealg.MaxLen"], apart := false, laid := [("unicode/utf8.acceptRanges", laid_unicode_utf8_acceptRanges), ("unicode/utf8.first", laid_unicode_utf8_first)], narrowed := true }
def FnNameTextUptoSaid : Prop := fnNameTextUptoRow.holds Tryd.pinned (OpenSpec.upto fnNameTextSpec)

/-- 'laws.FnNameWide', WHERE WHAT IT READS IS OF BULK AT MOST 1048576: true; the input reads as it did. -/
def fnNameWideUptoRow : OpenClaim := { program := "ytdkgbemlfajhcaadoor", sum := "5554a6eaef8b6e44930e24ac489b13e990324a9de8c016a9faba3a984071a172", func := "loop.example/mailwire/laws.FnNameWide", spec := "fnNameWide", inPlace := ["internal/bytealg.IndexByteString", "internal/bytealg.IndexString", "internal/abi.NoEscape", "internal/bytealg.MakeNoZero"], named := ["unicode/utf8.first", "unicode/utf8.acceptRanges", "internal/bytealg.MaxLen"], apart := false, laid := [("unicode/utf8.acceptRanges", laid_unicode_utf8_acceptRanges), ("unicode/utf8.first", laid_unicode_utf8_first)], narrowed := true }
def FnNameWideUptoSaid : Prop := fnNameWideUptoRow.holds Tryd.pinned (OpenSpec.upto fnNameWideSpec)

/-- 'laws.FnEncodeBytes', WHERE WHAT IT READS IS OF BULK AT MOST 1048576: true; the input reads as it did. -/
def fnEncodeBytesUptoRow : OpenClaim := { program := "ytdkgbemlfajhcaadoor", sum := "5554a6eaef8b6e44930e24ac489b13e990324a9de8c016a9faba3a984071a172", func := "loop.example/mailwire/laws.FnEncodeBytes", spec := "fnEncodeBytes", inPlace := ["internal/bytealg.CountString", "internal/bytealg.IndexByteString", "internal/bytealg.IndexString", "internal/abi.NoEscape", "internal/bytealg.MakeNoZero"], unfollowed := true, recurses := true, named := ["unicode/utf8.first", "unicode/utf8.acceptRanges", "internal/bytealg.MaxLen"], apart := false, laid := [("unicode/utf8.acceptRanges", laid_unicode_utf8_acceptRanges), ("unicode/utf8.first", laid_unicode_utf8_first)], narrowed := true }
def FnEncodeBytesUptoSaid : Prop := fnEncodeBytesUptoRow.holds Tryd.pinned (OpenSpec.upto fnEncodeBytesSpec)

/-- 'laws.FnNameWords', WHERE WHAT IT READS IS OF BULK AT MOST 1048576: true; the input reads as it did. -/
def fnNameWordsUptoRow : OpenClaim := { program := "ytdkgbemlfajhcaadoor", sum := "5554a6eaef8b6e44930e24ac489b13e990324a9de8c016a9faba3a984071a172", func := "loop.example/mailwire/laws.FnNameWords", spec := "fnNameWords", inPlace := ["internal/bytealg.IndexByteString", "internal/bytealg.IndexString", "internal/abi.NoEscape", "internal/bytealg.MakeNoZero"], named := ["unicode/utf8.first", "unicode/utf8.acceptRanges", "internal/bytealg.MaxLen"], apart := false, laid := [("unicode/utf8.acceptRanges", laid_unicode_utf8_acceptRanges), ("unicode/utf8.first", laid_unicode_utf8_first)], narrowed := true }
def FnNameWordsUptoSaid : Prop := fnNameWordsUptoRow.holds Tryd.pinned (OpenSpec.upto fnNameWordsSpec)

/-- 'laws.FnBestAll', WHERE WHAT IT READS IS OF BULK AT MOST 1048576: true; the input reads as it did. -/
def fnBestAllUptoRow : OpenClaim := { program := "ytdkgbemlfajhcaadoor", sum := "5554a6eaef8b6e44930e24ac489b13e990324a9de8c016a9faba3a984071a172", func := "loop.example/mailwire/laws.FnBestAll", spec := "fnBestAll", inPlace := ["internal/bytealg.CountString", "internal/bytealg.IndexByteString", "internal/bytealg.IndexString", "internal/abi.NoEscape", "internal/bytealg.MakeNoZero"], unfollowed := true, recurses := true, named := ["unicode/utf8.first", "unicode/utf8.acceptRanges", "internal/bytealg.MaxLen"], apart := false, laid := [("unicode/utf8.acceptRanges", laid_unicode_utf8_acceptRanges), ("unicode/utf8.first", laid_unicode_utf8_first)], narrowed := true }
def FnBestAllUptoSaid : Prop := fnBestAllUptoRow.holds Tryd.pinned (OpenSpec.upto fnBestAllSpec)

/-- 'laws.FnBestCode', WHERE WHAT IT READS IS OF BULK AT MOST 1048576: true; the input reads as it did. -/
def fnBestCodeUptoRow : OpenClaim := { program := "ytdkgbemlfajhcaadoor", sum := "5554a6eaef8b6e44930e24ac489b13e990324a9de8c016a9faba3a984071a172", func := "loop.example/mailwire/laws.FnBestCode", spec := "fnBestCode", inPlace := ["internal/bytealg.CountString", "internal/bytealg.IndexByteString", "internal/bytealg.IndexString", "internal/abi.NoEscape", "internal/bytealg.MakeNoZero"], unfollowed := true, recurses := true, named := ["unicode/utf8.first", "unicode/utf8.acceptRanges", "internal/bytealg.MaxLen"], apart := false, laid := [("unicode/utf8.acceptRanges", laid_unicode_utf8_acceptRanges), ("unicode/utf8.first", laid_unicode_utf8_first)], narrowed := true }
def FnBestCodeUptoSaid : Prop := fnBestCodeUptoRow.holds Tryd.pinned (OpenSpec.upto fnBestCodeSpec)

/-- 'laws.FnEncodeName', WHERE WHAT IT READS IS OF BULK AT MOST 1048576: true; the input reads as it did. -/
def fnEncodeNameUptoRow : OpenClaim := { program := "ytdkgbemlfajhcaadoor", sum := "5554a6eaef8b6e44930e24ac489b13e990324a9de8c016a9faba3a984071a172", func := "loop.example/mailwire/laws.FnEncodeName", spec := "fnEncodeName", inPlace := ["internal/bytealg.IndexByteString", "internal/bytealg.IndexString", "internal/abi.NoEscape", "internal/bytealg.MakeNoZero", "internal/bytealg.CountString"], named := ["unicode/utf8.first", "unicode/utf8.acceptRanges", "internal/bytealg.MaxLen"], apart := false, laid := [("unicode/utf8.acceptRanges", laid_unicode_utf8_acceptRanges), ("unicode/utf8.first", laid_unicode_utf8_first)], narrowed := true }
def FnEncodeNameUptoSaid : Prop := fnEncodeNameUptoRow.holds Tryd.pinned (OpenSpec.upto fnEncodeNameSpec)

/-- 'laws.FnDecodeBytes', WHERE WHAT IT READS IS OF BULK AT MOST 1048576: true; the input reads as it did. -/
def fnDecodeBytesUptoRow : OpenClaim := { program := "ytdkgbemlfajhcaadoor", sum := "5554a6eaef8b6e44930e24ac489b13e990324a9de8c016a9faba3a984071a172", func := "loop.example/mailwire/laws.FnDecodeBytes", spec := "fnDecodeBytes", inPlace := ["internal/abi.NoEscape", "internal/bytealg.MakeNoZero", "internal/bytealg.IndexByteString", "internal/bytealg.CountString", "internal/bytealg.IndexString"], unfollowed := true, recurses := true, named := ["internal/bytealg.MaxLen", "unicode/utf8.first", "unicode/utf8.acceptRanges"], apart := false, laid := [("unicode/utf8.acceptRanges", laid_unicode_utf8_acceptRanges), ("unicode/utf8.first", laid_unicode_utf8_first)], narrowed := true }
def FnDecodeBytesUptoSaid : Prop := fnDecodeBytesUptoRow.holds Tryd.pinned (OpenSpec.upto fnDecodeBytesSpec)

end Rows
end Go.Proofs.YtdkgbemlfajhcaaDoor
