/-
  NARROWER THAN 'FOR EVERY INPUT', by the rows' own cells (each row's printed sentence says how): FnExactNeedsCode: laid · FnExactDecodeName: laid · FnReadWord: laid · FnNeedsSpace: laid · FnDecodePlain: laid · FnNeedsCode: laid · FnExactEncodeName: laid.
  DERIVED. THE GIVEN ROWS OF THIS SEAT. 7 by the template 'for every input the law returns true; each argument reads behind the call as it read before'; 0 by the template 'total and deterministic' (their statements: YtkebacobfjanjaaDoorTotals.lean).
  GIVEN WITH THE SEED: the statements are not yours to turn. If you find one false, say at which input.
  Laid BY PROGRAM, IN A SANDBOX (cutbox-rows.mjs): the forced cells as the released guide's own fill.sh prints them over the translation 922f6b7f8b5863a9… (all of the seat's roots in one cut). By AI agents, Wed Nov 11 2026. No macro, syntax, notation, axiom, sorry.
-/
import Derived.Test.YtkebacobfjanjaaDoorChecked
import GoSem.PinnedTables
import GoSem.Claim
import GoSem.ClaimJoined
import GoSem.ClaimMapViews
import Derived.JoinedTies
import Derived.KernelRfl
namespace Go.Proofs.YtkebacobfjanjaaDoor
/- THE CELL 'sum', in the pinned program and in every row, IS THE sha256 OF THE DUMP (.gsa) THAT YtkebacobfjanjaaDoorProg.lean LOADS. Nothing in Lean hashes anything: it is a label: what it is worth is what the hold of that sum in a sandbox is worth. -/
noncomputable def Tryd.pinned : Pinned := { name := "ytkebacobfjanjaadoor", sum := "922f6b7f8b5863a9bd89c3c2ccb7c725a716154b7423800dee6bea303fd444cd", checked := Tryd.checked }
namespace Rows
def none {H : Type} : Left H := { results := [], args := [] }

/- WHAT THE LISTED PACKAGE-LEVEL VARIABLES READ AS WHEN THE CALL BEGINS. Each datum BY PROGRAM (the guide's laid-datum.mjs) off the statement by which the dump's own 'gosem.cut.vars' lays the variable. In a bare row this is a premise. The card (YtkebacobfjanjaaDoorCards.lean) ties it to the program's text. -/
def laid_unicode_utf8_acceptRanges {H : Type} : DataW H := .agg [.agg [.lit (.int .u8 128), .lit (.int .u8 191)], .agg [.lit (.int .u8 160), .lit (.int .u8 191)], .agg [.lit (.int .u8 128), .lit (.int .u8 159)], .agg [.lit (.int .u8 144), .lit (.int .u8 191)], .agg [.lit (.int .u8 128), .lit (.int .u8 143)], .agg [.lit (.int .u8 0), .lit (.int .u8 0)], .agg [.lit (.int .u8 0), .lit (.int .u8 0)], .agg [.lit (.int .u8 0), .lit (.int .u8 0)], .agg [.lit (.int .u8 0), .lit (.int .u8 0)], .agg [.lit (.int .u8 0), .lit (.int .u8 0)], .agg [.lit (.int .u8 0), .lit (.int .u8 0)], .agg [.lit (.int .u8 0), .lit (.int .u8 0)], .agg [.lit (.int .u8 0), .lit (.int .u8 0)], .agg [.lit (.int .u8 0), .lit (.int .u8 0)], .agg [.lit (.int .u8 0), .lit (.int .u8 0)], .agg [.lit (.int .u8 0), .lit (.int .u8 0)]]
/-- One of Go's own tables, pinned by name: the form's constant. -/
def laid_unicode_utf8_first : DataW Unit := Go.Pinned.utf8First

/-- 'laws.FnExactNeedsCode': WHATEVER THE INPUT: true; the input reads as it did. -/
def fnExactNeedsCodeSpec : ChangeSpec := { name := "fnExactNeedsCode", fn := fun _ => fun
  | [d] => { results := [.lit (.bool true)], args := [d] }
  | _ => none }
def fnExactNeedsCodeRow : OpenClaim := { program := "ytkebacobfjanjaadoor", sum := "922f6b7f8b5863a9bd89c3c2ccb7c725a716154b7423800dee6bea303fd444cd", func := "loop.example/mailwire/laws.FnExactNeedsCode", spec := "fnExactNeedsCode", inPlace := ["internal/bytealg.IndexByteString", "internal/bytealg.IndexString"], named := ["unicode/utf8.first", "unicode/utf8.acceptRanges", "internal/bytealg.MaxLen"], apart := false, laid := [("unicode/utf8.acceptRanges", laid_unicode_utf8_acceptRanges), ("unicode/utf8.first", laid_unicode_utf8_first)] }
def FnExactNeedsCodeSaid : Prop := fnExactNeedsCodeRow.holds Tryd.pinned (OpenSpec.ofChange fnExactNeedsCodeSpec)

/-- ITS FALSE NEIGHBOUR: 'it returns false'. Refute it at one input. -/
def fnExactNeedsCodeWrong : ChangeSpec := { name := "fnExactNeedsCode", fn := fun _ => fun
  | [d] => { results := [.lit (.bool false)], args := [d] }
  | _ => none }
def FnExactNeedsCodeWrongFalsely : Prop := fnExactNeedsCodeRow.holds Tryd.pinned (OpenSpec.ofChange fnExactNeedsCodeWrong)

/-- 'laws.FnExactDecodeName': WHATEVER THE INPUT: true; the input reads as it did. -/
def fnExactDecodeNameSpec : ChangeSpec := { name := "fnExactDecodeName", fn := fun _ => fun
  | [d] => { results := [.lit (.bool true)], args := [d] }
  | _ => none }
def fnExactDecodeNameRow : OpenClaim := { program := "ytkebacobfjanjaadoor", sum := "922f6b7f8b5863a9bd89c3c2ccb7c725a716154b7423800dee6bea303fd444cd", func := "loop.example/mailwire/laws.FnExactDecodeName", spec := "fnExactDecodeName", inPlace := ["internal/bytealg.CountString", "internal/bytealg.IndexByteString", "internal/bytealg.IndexString"], named := ["unicode/utf8.first", "unicode/utf8.acceptRanges", "internal/bytealg.MaxLen"], apart := false, laid := [("unicode/utf8.acceptRanges", laid_unicode_utf8_acceptRanges), ("unicode/utf8.first", laid_unicode_utf8_first)] }
def FnExactDecodeNameSaid : Prop := fnExactDecodeNameRow.holds Tryd.pinned (OpenSpec.ofChange fnExactDecodeNameSpec)

/-- ITS FALSE NEIGHBOUR: 'it returns false'. Refute it at one input. -/
def fnExactDecodeNameWrong : ChangeSpec := { name := "fnExactDecodeName", fn := fun _ => fun
  | [d] => { results := [.lit (.bool false)], args := [d] }
  | _ => none }
def FnExactDecodeNameWrongFalsely : Prop := fnExactDecodeNameRow.holds Tryd.pinned (OpenSpec.ofChange fnExactDecodeNameWrong)

/-- 'laws.FnReadWord': WHATEVER THE INPUT: true; the input reads as it did. -/
def fnReadWordSpec : ChangeSpec := { name := "fnReadWord", fn := fun _ => fun
  | [d] => { results := [.lit (.bool true)], args := [d] }
  | _ => none }
def fnReadWordRow : OpenClaim := { program := "ytkebacobfjanjaadoor", sum := "922f6b7f8b5863a9bd89c3c2ccb7c725a716154b7423800dee6bea303fd444cd", func := "loop.example/mailwire/laws.FnReadWord", spec := "fnReadWord", inPlace := ["internal/bytealg.IndexByteString", "internal/bytealg.CountString", "internal/bytealg.IndexString"], named := ["unicode/utf8.first", "unicode/utf8.acceptRanges", "internal/bytealg.MaxLen"], apart := false, laid := [("unicode/utf8.acceptRanges", laid_unicode_utf8_acceptRanges), ("unicode/utf8.first", laid_unicode_utf8_first)] }
def FnReadWordSaid : Prop := fnReadWordRow.holds Tryd.pinned (OpenSpec.ofChange fnReadWordSpec)

/-- ITS FALSE NEIGHBOUR: 'it returns false'. Refute it at one input. -/
def fnReadWordWrong : ChangeSpec := { name := "fnReadWord", fn := fun _ => fun
  | [d] => { results := [.lit (.bool false)], args := [d] }
  | _ => none }
def FnReadWordWrongFalsely : Prop := fnReadWordRow.holds Tryd.pinned (OpenSpec.ofChange fnReadWordWrong)

/-- 'laws.FnNeedsSpace': WHATEVER THE INPUT: true; the input reads as it did. -/
def fnNeedsSpaceSpec : ChangeSpec := { name := "fnNeedsSpace", fn := fun _ => fun
  | [d] => { results := [.lit (.bool true)], args := [d] }
  | _ => none }
def fnNeedsSpaceRow : OpenClaim := { program := "ytkebacobfjanjaadoor", sum := "922f6b7f8b5863a9bd89c3c2ccb7c725a716154b7423800dee6bea303fd444cd", func := "loop.example/mailwire/laws.FnNeedsSpace", spec := "fnNeedsSpace", inPlace := ["internal/bytealg.IndexByteString", "internal/bytealg.IndexString"], named := ["unicode/utf8.first", "unicode/utf8.acceptRanges", "internal/bytealg.MaxLen"], apart := false, laid := [("unicode/utf8.acceptRanges", laid_unicode_utf8_acceptRanges), ("unicode/utf8.first", laid_unicode_utf8_first)] }
def FnNeedsSpaceSaid : Prop := fnNeedsSpaceRow.holds Tryd.pinned (OpenSpec.ofChange fnNeedsSpaceSpec)

/-- ITS FALSE NEIGHBOUR: 'it returns false'. Refute it at one input. -/
def fnNeedsSpaceWrong : ChangeSpec := { name := "fnNeedsSpace", fn := fun _ => fun
  | [d] => { results := [.lit (.bool false)], args := [d] }
  | _ => none }
def FnNeedsSpaceWrongFalsely : Prop := fnNeedsSpaceRow.holds Tryd.pinned (OpenSpec.ofChange fnNeedsSpaceWrong)

/-- 'laws.FnDecodePlain': WHATEVER THE INPUT: true; the input reads as it did. -/
def fnDecodePlainSpec : ChangeSpec := { name := "fnDecodePlain", fn := fun _ => fun
  | [d] => { results := [.lit (.bool true)], args := [d] }
  | _ => none }
def fnDecodePlainRow : OpenClaim := { program := "ytkebacobfjanjaadoor", sum := "922f6b7f8b5863a9bd89c3c2ccb7c725a716154b7423800dee6bea303fd444cd", func := "loop.example/mailwire/laws.FnDecodePlain", spec := "fnDecodePlain", inPlace := ["internal/bytealg.CountString", "internal/bytealg.IndexByteString", "internal/bytealg.IndexString"], named := ["unicode/utf8.first", "unicode/utf8.acceptRanges", "internal/bytealg.MaxLen"], apart := false, laid := [("unicode/utf8.acceptRanges", laid_unicode_utf8_acceptRanges), ("unicode/utf8.first", laid_unicode_utf8_first)] }
def FnDecodePlainSaid : Prop := fnDecodePlainRow.holds Tryd.pinned (OpenSpec.ofChange fnDecodePlainSpec)

/-- ITS FALSE NEIGHBOUR: 'it returns false'. Refute it at one input. -/
def fnDecodePlainWrong : ChangeSpec := { name := "fnDecodePlain", fn := fun _ => fun
  | [d] => { results := [.lit (.bool false)], args := [d] }
  | _ => none }
def FnDecodePlainWrongFalsely : Prop := fnDecodePlainRow.holds Tryd.pinned (OpenSpec.ofChange fnDecodePlainWrong)

/-- 'laws.FnNeedsCode': WHATEVER THE INPUT: true; the input reads as it did. -/
def fnNeedsCodeSpec : ChangeSpec := { name := "fnNeedsCode", fn := fun _ => fun
  | [d] => { results := [.lit (.bool true)], args := [d] }
  | _ => none }
def fnNeedsCodeRow : OpenClaim := { program := "ytkebacobfjanjaadoor", sum := "922f6b7f8b5863a9bd89c3c2ccb7c725a716154b7423800dee6bea303fd444cd", func := "loop.example/mailwire/laws.FnNeedsCode", spec := "fnNeedsCode", inPlace := ["internal/bytealg.IndexByteString", "internal/bytealg.IndexString", "internal/abi.NoEscape", "internal/bytealg.MakeNoZero"], named := ["unicode/utf8.first", "unicode/utf8.acceptRanges", "internal/bytealg.MaxLen"], apart := false, laid := [("unicode/utf8.acceptRanges", laid_unicode_utf8_acceptRanges), ("unicode/utf8.first", laid_unicode_utf8_first)] }
def FnNeedsCodeSaid : Prop := fnNeedsCodeRow.holds Tryd.pinned (OpenSpec.ofChange fnNeedsCodeSpec)

/-- ITS FALSE NEIGHBOUR: 'it returns false'. Refute it at one input. -/
def fnNeedsCodeWrong : ChangeSpec := { name := "fnNeedsCode", fn := fun _ => fun
  | [d] => { results := [.lit (.bool false)], args := [d] }
  | _ => none }
def FnNeedsCodeWrongFalsely : Prop := fnNeedsCodeRow.holds Tryd.pinned (OpenSpec.ofChange fnNeedsCodeWrong)

/-- 'laws.FnExactEncodeName': WHATEVER THE INPUT: true; the input reads as it did. -/
def fnExactEncodeNameSpec : ChangeSpec := { name := "fnExactEncodeName", fn := fun _ => fun
  | [d] => { results := [.lit (.bool true)], args := [d] }
  | _ => none }
def fnExactEncodeNameRow : OpenClaim := { program := "ytkebacobfjanjaadoor", sum := "922f6b7f8b5863a9bd89c3c2ccb7c725a716154b7423800dee6bea303fd444cd", func := "loop.example/mailwire/laws.FnExactEncodeName", spec := "fnExactEncodeName", inPlace := ["internal/bytealg.IndexByteString", "internal/bytealg.IndexString", "internal/abi.NoEscape", "internal/bytealg.MakeNoZero"], named := ["unicode/utf8.first", "unicode/utf8.acceptRanges", "internal/bytealg.MaxLen"], apart := false, laid := [("unicode/utf8.acceptRanges", laid_unicode_utf8_acceptRanges), ("unicode/utf8.first", laid_unicode_utf8_first)] }
def FnExactEncodeNameSaid : Prop := fnExactEncodeNameRow.holds Tryd.pinned (OpenSpec.ofChange fnExactEncodeNameSpec)

/-- ITS FALSE NEIGHBOUR: 'it returns false'. Refute it at one input. -/
def fnExactEncodeNameWrong : ChangeSpec := { name := "fnExactEncodeName", fn := fun _ => fun
  | [d] => { results := [.lit (.bool false)], args := [d] }
  | _ => none }
def FnExactEncodeNameWrongFalsely : Prop := fnExactEncodeNameRow.holds Tryd.pinned (OpenSpec.ofChange fnExactEncodeNameWrong)

/- THE SECOND FORM. 'bulk': how many values and letters a reading holds, each counted each time it is reached (what is shared counts as often as it is met; a slice's spare places count too). A statement '..UptoSaid' is the law's where the arguments, and the package variables that the reading takes, are together of bulk at most 1048576: NARROWER than '..Said'. Prove '..Said' where nothing that the law and all that it calls make is longer than what came in: it says more and counts as full. Else prove '..UptoSaid'. A law counts once. -/
mutual
def uptoBulk {H : Type} : DataW H → Nat
  | .lit (.string bytes) => bytes.length + 1
  | .lit _ => 1
  | .nil => 1
  | .ptr d => uptoBulk d + 1
  | .slice elems spare => uptoBulkAll elems + uptoBulkAll spare + 1
  | .agg parts => uptoBulkAll parts + 1
  | .iface _ d => uptoBulk d + 1
  | .map entries => uptoBulkEntries entries + 1
  | .held _ => 1
def uptoBulkAll {H : Type} : List (DataW H) → Nat
  | [] => 0
  | d :: r => uptoBulk d + uptoBulkAll r
def uptoBulkEntries {H : Type} : List (Lit × DataW H) → Nat
  | [] => 0
  | x :: r => uptoBulkEntry x + uptoBulkEntries r
def uptoBulkEntry {H : Type} : Lit × DataW H → Nat
  | (.string bytes, d) => bytes.length + uptoBulk d + 1
  | (_, d) => uptoBulk d + 1
 end
def uptoSmall : (H : Type) → List (DataW H) → Bool := fun _ ds => decide (uptoBulkAll ds ≤ 1048576)
def OpenSpec.upto (s : _root_.Go.ChangeSpec) : _root_.Go.OpenSpec := { _root_.Go.OpenSpec.ofChange s with cond := some uptoSmall }

/-- 'laws.FnExactNeedsCode', WHERE WHAT IT READS IS OF BULK AT MOST 1048576: true; the input reads as it did. -/
def fnExactNeedsCodeUptoRow : OpenClaim := { program := "ytkebacobfjanjaadoor", sum := "922f6b7f8b5863a9bd89c3c2ccb7c725a716154b7423800dee6bea303fd444cd", func := "loop.example/mailwire/laws.FnExactNeedsCode", spec := "fnExactNeedsCode", inPlace := ["internal/bytealg.IndexByteString", "internal/bytealg.IndexString"], named := ["unicode/utf8.first", "unicode/utf8.acceptRanges", "internal/bytealg.MaxLen"], apart := false, laid := [("unicode/utf8.acceptRanges", laid_unicode_utf8_acceptRanges), ("unicode/utf8.first", laid_unicode_utf8_first)], narrowed := true }
def FnExactNeedsCodeUptoSaid : Prop := fnExactNeedsCodeUptoRow.holds Tryd.pinned (OpenSpec.upto fnExactNeedsCodeSpec)

/-- 'laws.FnExactDecodeName', WHERE WHAT IT READS IS OF BULK AT MOST 1048576: true; the input reads as it did. -/
def fnExactDecodeNameUptoRow : OpenClaim := { program := "ytkebacobfjanjaadoor", sum := "922f6b7f8b5863a9bd89c3c2ccb7c725a716154b7423800dee6bea303fd444cd", func := "loop.example/mailwire/laws.FnExactDecodeName", spec := "fnExactDecodeName", inPlace := ["internal/bytealg.CountString", "internal/bytealg.IndexByteString", "internal/bytealg.IndexString"], named := ["unicode/utf8.first", "unicode/utf8.acceptRanges", "internal/bytealg.MaxLen"], apart := false, laid := [("unicode/utf8.acceptRanges", laid_unicode_utf8_acceptRanges), ("unicode/utf8.first", laid_unicode_utf8_first)], narrowed := true }
def FnExactDecodeNameUptoSaid : Prop := fnExactDecodeNameUptoRow.holds Tryd.pinned (OpenSpec.upto fnExactDecodeNameSpec)

/-- 'laws.FnReadWord', WHERE WHAT IT READS IS OF BULK AT MOST 1048576: true; the input reads as it did. -/
def fnReadWordUptoRow : OpenClaim := { program := "ytkebacobfjanjaadoor", sum := "922f6b7f8b5863a9bd89c3c2ccb7c725a716154b7423800dee6bea303fd444cd", func := "loop.example/mailwire/laws.FnReadWord", spec := "fnReadWord", inPlace := ["internal/bytealg.IndexByteString", "internal/bytealg.CountString", "internal/bytealg.IndexString"], named := ["unicode/utf8.first", "unicode/utf8.acceptRanges", "internal/bytealg.MaxLen"], apart := false, laid := [("unicode/utf8.acceptRanges", laid_unicode_utf8_acceptRanges), ("unicode/utf8.first", laid_unicode_utf8_first)], narrowed := true }
def FnReadWordUptoSaid : Prop := fnReadWordUptoRow.holds Tryd.pinned (OpenSpec.upto fnReadWordSpec)

/-- 'laws.FnNeedsSpace', WHERE WHAT IT READS IS OF BULK AT MOST 1048576: true; the input reads as it did. -/
def fnNeedsSpaceUptoRow : OpenClaim := { program := "ytkebacobfjanjaadoor", sum := "922f6b7f8b5863a9bd89c3c2ccb7c725a716154b7423800dee6bea303fd444cd", func := "loop.example/mailwire/laws.FnNeedsSpace", spec := "fnNeedsSpace", inPlace := ["internal/bytealg.IndexByteString", "internal/bytealg.IndexString"], named := ["unicode/utf8.first", "unicode/utf8.acceptRanges", "internal/bytealg.MaxLen"], apart := false, laid := [("unicode/utf8.acceptRanges", laid_unicode_utf8_acceptRanges), ("unicode/utf8.first", laid_unicode_utf8_first)], narrowed := true }
def FnNeedsSpaceUptoSaid : Prop := fnNeedsSpaceUptoRow.holds Tryd.pinned (OpenSpec.upto fnNeedsSpaceSpec)

/-- 'laws.FnDecodePlain', WHERE WHAT IT READS IS OF BULK AT MOST 1048576: true; the input reads as it did. -/
def fnDecodePlainUptoRow : OpenClaim := { program := "ytkebacobfjanjaadoor", sum := "922f6b7f8b5863a9bd89c3c2ccb7c725a716154b7423800dee6bea303fd444cd", func := "loop.example/mailwire/laws.FnDecodePlain", spec := "fnDecodePlain", inPlace := ["internal/bytealg.CountString", "internal/bytealg.IndexByteString", "internal/bytealg.IndexString"], named := ["unicode/utf8.first", "unicode/utf8.acceptRanges", "internal/bytealg.MaxLen"], apart := false, laid := [("unicode/utf8.acceptRanges", laid_unicode_utf8_acceptRanges), ("unicode/utf8.first", laid_unicode_utf8_first)], narrowed := true }
def FnDecodePlainUptoSaid : Prop := fnDecodePlainUptoRow.holds Tryd.pinned (OpenSpec.upto fnDecodePlainSpec)

/-- 'laws.FnNeedsCode', WHERE WHAT IT READS IS OF BULK AT MOST 1048576: true; the input reads as it did. -/
def fnNeedsCodeUptoRow : OpenClaim := { program := "ytkebacobfjanjaadoor", sum := "922f6b7f8b5863a9bd89c3c2ccb7c725a716154b7423800dee6bea303fd444cd", func := "loop.example/mailwire/laws.FnNeedsCode", spec := "fnNeedsCode", inPlace := ["internal/bytealg.IndexByteString", "internal/bytealg.IndexString", "internal/abi.NoEscape", "internal/bytealg.MakeNoZero"], named := ["unicode/utf8.first", "unicode/utf8.acceptRanges", "internal/bytealg.MaxLen"], apart := false, laid := [("unicode/utf8.acceptRanges", laid_unicode_utf8_acceptRanges), ("unicode/utf8.first", laid_unicode_utf8_first)], narrowed := true }
def FnNeedsCodeUptoSaid : Prop := fnNeedsCodeUptoRow.holds Tryd.pinned (OpenSpec.upto fnNeedsCodeSpec)

/-- 'laws.FnExactEncodeName', WHERE WHAT IT READS IS OF BULK AT MOST 1048576: true; the input reads as it did. -/
def fnExactEncodeNameUptoRow : OpenClaim := { program := "ytkebacobfjanjaadoor", sum := "922f6b7f8b5863a9bd89c3c2ccb7c725a716154b7423800dee6bea303fd444cd", func := "loop.example/mailwire/laws.FnExactEncodeName", spec := "fnExactEncodeName", inPlace := ["internal/bytealg.IndexByteString", "internal/bytealg.IndexString", "internal/abi.NoEscape", "internal/bytealg.MakeNoZero"], named := ["unicode/utf8.first", "unicode/utf8.acceptRanges", "internal/bytealg.MaxLen"], apart := false, laid := [("unicode/utf8.acceptRanges", laid_unicode_utf8_acceptRanges), ("unicode/utf8.first", laid_unicode_utf8_first)], narrowed := true }
def FnExactEncodeNameUptoSaid : Prop := fnExactEncodeNameUptoRow.holds Tryd.pinned (OpenSpec.upto fnExactEncodeNameSpec)

end Rows
end Go.Proofs.YtkebacobfjanjaaDoor
