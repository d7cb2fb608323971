/-
  No cell of these rows narrows 'for every input' (looked for: loops, veiled, ifaces, maps, wideKeys, modest, calm, conditions, laid).
  DERIVED. THE GIVEN ROWS OF THIS SEAT. 12 by the template 'for every input the law returns true; each argument reads behind the call as it read before'; 0 by the template 'total and deterministic' (their statements: YtenplenjpliciaaTotals.lean).
  GIVEN WITH THE SEED: the statements are not yours to turn. If you find one false, say at which input.
  Laid BY PROGRAM, IN A SANDBOX (cutbox-rows.mjs): the forced cells as the released guide's own fill.sh prints them over the translation 94fa4a2078b25ee1… (all of the seat's roots in one cut). By AI agents, Wed Nov 11 2026. No macro, syntax, notation, axiom, sorry.
-/
import Derived.Test.YtenplenjpliciaaChecked
import GoSem.Claim
import GoSem.ClaimJoined
import GoSem.ClaimMapViews
import Derived.JoinedTies
import Derived.KernelRfl
namespace Go.Proofs.Ytenplenjpliciaa
/- THE CELL 'sum', in the pinned program and in every row, IS THE sha256 OF THE DUMP (.gsa) THAT YtenplenjpliciaaProg.lean LOADS. Nothing in Lean hashes anything: it is a label: what it is worth is what the hold of that sum in a sandbox is worth. -/
noncomputable def Try.pinned : Pinned := { name := "ytenplenjpliciaa", sum := "94fa4a2078b25ee18b15c3391b55ceab19232b78ce4eef5a226627713a5805d0", checked := Try.checked }
namespace Rows
def none {H : Type} : Left H := { results := [], args := [] }

/-- 'laws.FnExactEncodeQuoted': WHATEVER THE INPUT: true; the input reads as it did. -/
def fnExactEncodeQuotedSpec : ChangeSpec := { name := "fnExactEncodeQuoted", fn := fun _ => fun
  | [d] => { results := [.lit (.bool true)], args := [d] }
  | _ => none }
def fnExactEncodeQuotedRow : OpenClaim := { program := "ytenplenjpliciaa", sum := "94fa4a2078b25ee18b15c3391b55ceab19232b78ce4eef5a226627713a5805d0", func := "loop.example/mailwire/laws.FnExactEncodeQuoted", spec := "fnExactEncodeQuoted", apart := false }
def FnExactEncodeQuotedSaid : Prop := fnExactEncodeQuotedRow.holds Try.pinned (OpenSpec.ofChange fnExactEncodeQuotedSpec)

/-- ITS FALSE NEIGHBOUR: 'it returns false'. Refute it at one input. -/
def fnExactEncodeQuotedWrong : ChangeSpec := { name := "fnExactEncodeQuoted", fn := fun _ => fun
  | [d] => { results := [.lit (.bool false)], args := [d] }
  | _ => none }
def FnExactEncodeQuotedWrongFalsely : Prop := fnExactEncodeQuotedRow.holds Try.pinned (OpenSpec.ofChange fnExactEncodeQuotedWrong)

/-- 'laws.FnExactEncodeBase': WHATEVER THE INPUT: true; the input reads as it did. -/
def fnExactEncodeBaseSpec : ChangeSpec := { name := "fnExactEncodeBase", fn := fun _ => fun
  | [d] => { results := [.lit (.bool true)], args := [d] }
  | _ => none }
def fnExactEncodeBaseRow : OpenClaim := { program := "ytenplenjpliciaa", sum := "94fa4a2078b25ee18b15c3391b55ceab19232b78ce4eef5a226627713a5805d0", func := "loop.example/mailwire/laws.FnExactEncodeBase", spec := "fnExactEncodeBase", apart := false }
def FnExactEncodeBaseSaid : Prop := fnExactEncodeBaseRow.holds Try.pinned (OpenSpec.ofChange fnExactEncodeBaseSpec)

/-- ITS FALSE NEIGHBOUR: 'it returns false'. Refute it at one input. -/
def fnExactEncodeBaseWrong : ChangeSpec := { name := "fnExactEncodeBase", fn := fun _ => fun
  | [d] => { results := [.lit (.bool false)], args := [d] }
  | _ => none }
def FnExactEncodeBaseWrongFalsely : Prop := fnExactEncodeBaseRow.holds Try.pinned (OpenSpec.ofChange fnExactEncodeBaseWrong)

/-- 'laws.FnQuotedNewlines': WHATEVER THE INPUT: true; the input reads as it did. -/
def fnQuotedNewlinesSpec : ChangeSpec := { name := "fnQuotedNewlines", fn := fun _ => fun
  | [d] => { results := [.lit (.bool true)], args := [d] }
  | _ => none }
def fnQuotedNewlinesRow : OpenClaim := { program := "ytenplenjpliciaa", sum := "94fa4a2078b25ee18b15c3391b55ceab19232b78ce4eef5a226627713a5805d0", func := "loop.example/mailwire/laws.FnQuotedNewlines", spec := "fnQuotedNewlines", apart := false }
def FnQuotedNewlinesSaid : Prop := fnQuotedNewlinesRow.holds Try.pinned (OpenSpec.ofChange fnQuotedNewlinesSpec)

/-- ITS FALSE NEIGHBOUR: 'it returns false'. Refute it at one input. -/
def fnQuotedNewlinesWrong : ChangeSpec := { name := "fnQuotedNewlines", fn := fun _ => fun
  | [d] => { results := [.lit (.bool false)], args := [d] }
  | _ => none }
def FnQuotedNewlinesWrongFalsely : Prop := fnQuotedNewlinesRow.holds Try.pinned (OpenSpec.ofChange fnQuotedNewlinesWrong)

/-- 'laws.FnQuotedPlain': WHATEVER THE INPUT: true; the input reads as it did. -/
def fnQuotedPlainSpec : ChangeSpec := { name := "fnQuotedPlain", fn := fun _ => fun
  | [d] => { results := [.lit (.bool true)], args := [d] }
  | _ => none }
def fnQuotedPlainRow : OpenClaim := { program := "ytenplenjpliciaa", sum := "94fa4a2078b25ee18b15c3391b55ceab19232b78ce4eef5a226627713a5805d0", func := "loop.example/mailwire/laws.FnQuotedPlain", spec := "fnQuotedPlain", apart := false }
def FnQuotedPlainSaid : Prop := fnQuotedPlainRow.holds Try.pinned (OpenSpec.ofChange fnQuotedPlainSpec)

/-- ITS FALSE NEIGHBOUR: 'it returns false'. Refute it at one input. -/
def fnQuotedPlainWrong : ChangeSpec := { name := "fnQuotedPlain", fn := fun _ => fun
  | [d] => { results := [.lit (.bool false)], args := [d] }
  | _ => none }
def FnQuotedPlainWrongFalsely : Prop := fnQuotedPlainRow.holds Try.pinned (OpenSpec.ofChange fnQuotedPlainWrong)

/-- 'laws.FnBaseWidth': WHATEVER THE INPUT: true; the input reads as it did. -/
def fnBaseWidthSpec : ChangeSpec := { name := "fnBaseWidth", fn := fun _ => fun
  | [d] => { results := [.lit (.bool true)], args := [d] }
  | _ => none }
def fnBaseWidthRow : OpenClaim := { program := "ytenplenjpliciaa", sum := "94fa4a2078b25ee18b15c3391b55ceab19232b78ce4eef5a226627713a5805d0", func := "loop.example/mailwire/laws.FnBaseWidth", spec := "fnBaseWidth", apart := false }
def FnBaseWidthSaid : Prop := fnBaseWidthRow.holds Try.pinned (OpenSpec.ofChange fnBaseWidthSpec)

/-- ITS FALSE NEIGHBOUR: 'it returns false'. Refute it at one input. -/
def fnBaseWidthWrong : ChangeSpec := { name := "fnBaseWidth", fn := fun _ => fun
  | [d] => { results := [.lit (.bool false)], args := [d] }
  | _ => none }
def FnBaseWidthWrongFalsely : Prop := fnBaseWidthRow.holds Try.pinned (OpenSpec.ofChange fnBaseWidthWrong)

/-- 'laws.FnBaseSize': WHATEVER THE INPUT: true; the input reads as it did. -/
def fnBaseSizeSpec : ChangeSpec := { name := "fnBaseSize", fn := fun _ => fun
  | [d] => { results := [.lit (.bool true)], args := [d] }
  | _ => none }
def fnBaseSizeRow : OpenClaim := { program := "ytenplenjpliciaa", sum := "94fa4a2078b25ee18b15c3391b55ceab19232b78ce4eef5a226627713a5805d0", func := "loop.example/mailwire/laws.FnBaseSize", spec := "fnBaseSize", apart := false }
def FnBaseSizeSaid : Prop := fnBaseSizeRow.holds Try.pinned (OpenSpec.ofChange fnBaseSizeSpec)

/-- ITS FALSE NEIGHBOUR: 'it returns false'. Refute it at one input. -/
def fnBaseSizeWrong : ChangeSpec := { name := "fnBaseSize", fn := fun _ => fun
  | [d] => { results := [.lit (.bool false)], args := [d] }
  | _ => none }
def FnBaseSizeWrongFalsely : Prop := fnBaseSizeRow.holds Try.pinned (OpenSpec.ofChange fnBaseSizeWrong)

/-- 'laws.FnExactDecodeQuoted': WHATEVER THE INPUT: true; the input reads as it did. -/
def fnExactDecodeQuotedSpec : ChangeSpec := { name := "fnExactDecodeQuoted", fn := fun _ => fun
  | [d] => { results := [.lit (.bool true)], args := [d] }
  | _ => none }
def fnExactDecodeQuotedRow : OpenClaim := { program := "ytenplenjpliciaa", sum := "94fa4a2078b25ee18b15c3391b55ceab19232b78ce4eef5a226627713a5805d0", func := "loop.example/mailwire/laws.FnExactDecodeQuoted", spec := "fnExactDecodeQuoted", inPlace := ["internal/bytealg.IndexByteString"], apart := false }
def FnExactDecodeQuotedSaid : Prop := fnExactDecodeQuotedRow.holds Try.pinned (OpenSpec.ofChange fnExactDecodeQuotedSpec)

/-- ITS FALSE NEIGHBOUR: 'it returns false'. Refute it at one input. -/
def fnExactDecodeQuotedWrong : ChangeSpec := { name := "fnExactDecodeQuoted", fn := fun _ => fun
  | [d] => { results := [.lit (.bool false)], args := [d] }
  | _ => none }
def FnExactDecodeQuotedWrongFalsely : Prop := fnExactDecodeQuotedRow.holds Try.pinned (OpenSpec.ofChange fnExactDecodeQuotedWrong)

/-- 'laws.FnQuotedSoft': WHATEVER THE INPUT: true; the input reads as it did. -/
def fnQuotedSoftSpec : ChangeSpec := { name := "fnQuotedSoft", fn := fun _ => fun
  | [d] => { results := [.lit (.bool true)], args := [d] }
  | _ => none }
def fnQuotedSoftRow : OpenClaim := { program := "ytenplenjpliciaa", sum := "94fa4a2078b25ee18b15c3391b55ceab19232b78ce4eef5a226627713a5805d0", func := "loop.example/mailwire/laws.FnQuotedSoft", spec := "fnQuotedSoft", inPlace := ["internal/bytealg.IndexByteString"], apart := false }
def FnQuotedSoftSaid : Prop := fnQuotedSoftRow.holds Try.pinned (OpenSpec.ofChange fnQuotedSoftSpec)

/-- ITS FALSE NEIGHBOUR: 'it returns false'. Refute it at one input. -/
def fnQuotedSoftWrong : ChangeSpec := { name := "fnQuotedSoft", fn := fun _ => fun
  | [d] => { results := [.lit (.bool false)], args := [d] }
  | _ => none }
def FnQuotedSoftWrongFalsely : Prop := fnQuotedSoftRow.holds Try.pinned (OpenSpec.ofChange fnQuotedSoftWrong)

/-- 'laws.FnQuotedBytes': WHATEVER THE INPUT: true; the input reads as it did. -/
def fnQuotedBytesSpec : ChangeSpec := { name := "fnQuotedBytes", fn := fun _ => fun
  | [d1, d2] => { results := [.lit (.bool true)], args := [d1, d2] }
  | _ => none }
def fnQuotedBytesRow : OpenClaim := { program := "ytenplenjpliciaa", sum := "94fa4a2078b25ee18b15c3391b55ceab19232b78ce4eef5a226627713a5805d0", func := "loop.example/mailwire/laws.FnQuotedBytes", spec := "fnQuotedBytes", inPlace := ["internal/bytealg.IndexByteString"], apart := false }
def FnQuotedBytesSaid : Prop := fnQuotedBytesRow.holds Try.pinned (OpenSpec.ofChange fnQuotedBytesSpec)

/-- ITS FALSE NEIGHBOUR: 'it returns false'. Refute it at one input. -/
def fnQuotedBytesWrong : ChangeSpec := { name := "fnQuotedBytes", fn := fun _ => fun
  | [d1, d2] => { results := [.lit (.bool false)], args := [d1, d2] }
  | _ => none }
def FnQuotedBytesWrongFalsely : Prop := fnQuotedBytesRow.holds Try.pinned (OpenSpec.ofChange fnQuotedBytesWrong)

/-- 'laws.FnExactDecodeBase': WHATEVER THE INPUT: true; the input reads as it did. -/
def fnExactDecodeBaseSpec : ChangeSpec := { name := "fnExactDecodeBase", fn := fun _ => fun
  | [d] => { results := [.lit (.bool true)], args := [d] }
  | _ => none }
def fnExactDecodeBaseRow : OpenClaim := { program := "ytenplenjpliciaa", sum := "94fa4a2078b25ee18b15c3391b55ceab19232b78ce4eef5a226627713a5805d0", func := "loop.example/mailwire/laws.FnExactDecodeBase", spec := "fnExactDecodeBase", inPlace := ["internal/abi.NoEscape", "internal/bytealg.MakeNoZero", "internal/bytealg.IndexByteString", "internal/bytealg.CountString", "internal/bytealg.IndexString"], named := ["internal/bytealg.MaxLen"], apart := false }
def FnExactDecodeBaseSaid : Prop := fnExactDecodeBaseRow.holds Try.pinned (OpenSpec.ofChange fnExactDecodeBaseSpec)

/-- ITS FALSE NEIGHBOUR: 'it returns false'. Refute it at one input. -/
def fnExactDecodeBaseWrong : ChangeSpec := { name := "fnExactDecodeBase", fn := fun _ => fun
  | [d] => { results := [.lit (.bool false)], args := [d] }
  | _ => none }
def FnExactDecodeBaseWrongFalsely : Prop := fnExactDecodeBaseRow.holds Try.pinned (OpenSpec.ofChange fnExactDecodeBaseWrong)

/-- 'laws.FnBaseLines': WHATEVER THE INPUT: true; the input reads as it did. -/
def fnBaseLinesSpec : ChangeSpec := { name := "fnBaseLines", fn := fun _ => fun
  | [d] => { results := [.lit (.bool true)], args := [d] }
  | _ => none }
def fnBaseLinesRow : OpenClaim := { program := "ytenplenjpliciaa", sum := "94fa4a2078b25ee18b15c3391b55ceab19232b78ce4eef5a226627713a5805d0", func := "loop.example/mailwire/laws.FnBaseLines", spec := "fnBaseLines", inPlace := ["internal/abi.NoEscape", "internal/bytealg.MakeNoZero", "internal/bytealg.IndexByteString", "internal/bytealg.CountString", "internal/bytealg.IndexString"], named := ["internal/bytealg.MaxLen"], apart := false }
def FnBaseLinesSaid : Prop := fnBaseLinesRow.holds Try.pinned (OpenSpec.ofChange fnBaseLinesSpec)

/-- ITS FALSE NEIGHBOUR: 'it returns false'. Refute it at one input. -/
def fnBaseLinesWrong : ChangeSpec := { name := "fnBaseLines", fn := fun _ => fun
  | [d] => { results := [.lit (.bool false)], args := [d] }
  | _ => none }
def FnBaseLinesWrongFalsely : Prop := fnBaseLinesRow.holds Try.pinned (OpenSpec.ofChange fnBaseLinesWrong)

/-- 'laws.FnBaseBytes': WHATEVER THE INPUT: true; the input reads as it did. -/
def fnBaseBytesSpec : ChangeSpec := { name := "fnBaseBytes", fn := fun _ => fun
  | [d1, d2] => { results := [.lit (.bool true)], args := [d1, d2] }
  | _ => none }
def fnBaseBytesRow : OpenClaim := { program := "ytenplenjpliciaa", sum := "94fa4a2078b25ee18b15c3391b55ceab19232b78ce4eef5a226627713a5805d0", func := "loop.example/mailwire/laws.FnBaseBytes", spec := "fnBaseBytes", inPlace := ["internal/abi.NoEscape", "internal/bytealg.MakeNoZero", "internal/bytealg.IndexByteString", "internal/bytealg.CountString", "internal/bytealg.IndexString"], named := ["internal/bytealg.MaxLen"], apart := false }
def FnBaseBytesSaid : Prop := fnBaseBytesRow.holds Try.pinned (OpenSpec.ofChange fnBaseBytesSpec)

/-- ITS FALSE NEIGHBOUR: 'it returns false'. Refute it at one input. -/
def fnBaseBytesWrong : ChangeSpec := { name := "fnBaseBytes", fn := fun _ => fun
  | [d1, d2] => { results := [.lit (.bool false)], args := [d1, d2] }
  | _ => none }
def FnBaseBytesWrongFalsely : Prop := fnBaseBytesRow.holds Try.pinned (OpenSpec.ofChange fnBaseBytesWrong)

/- THE SECOND FORM. 'bulk': how many values and letters a reading holds, each counted each time it is reached (what is shared counts as often as it is met; a slice's spare places count too). A statement '..UptoSaid' is the law's where the arguments, and the package variables that the reading takes, are together of bulk at most 1048576: NARROWER than '..Said'. Prove '..Said' where nothing that the law and all that it calls make is longer than what came in: it says more and counts as full. Else prove '..UptoSaid'. A law counts once. -/
mutual
def uptoBulk {H : Type} : DataW H → Nat
  | .lit (.string bytes) => bytes.length + 1
  | .lit _ => 1
  | .nil => 1
  | .ptr d => uptoBulk d + 1
  | .slice elems spare => uptoBulkAll elems + uptoBulkAll spare + 1
  | .agg parts => uptoBulkAll parts + 1
  | .iface _ d => uptoBulk d + 1
  | .map entries => uptoBulkEntries entries + 1
  | .held _ => 1
def uptoBulkAll {H : Type} : List (DataW H) → Nat
  | [] => 0
  | d :: r => uptoBulk d + uptoBulkAll r
def uptoBulkEntries {H : Type} : List (Lit × DataW H) → Nat
  | [] => 0
  | x :: r => uptoBulkEntry x + uptoBulkEntries r
def uptoBulkEntry {H : Type} : Lit × DataW H → Nat
  | (.string bytes, d) => bytes.length + uptoBulk d + 1
  | (_, d) => uptoBulk d + 1
 end
def uptoSmall : (H : Type) → List (DataW H) → Bool := fun _ ds => decide (uptoBulkAll ds ≤ 1048576)
def OpenSpec.upto (s : _root_.Go.ChangeSpec) : _root_.Go.OpenSpec := { _root_.Go.OpenSpec.ofChange s with cond := some uptoSmall }

/-- 'laws.FnExactEncodeQuoted', WHERE WHAT IT READS IS OF BULK AT MOST 1048576: true; the input reads as it did. -/
def fnExactEncodeQuotedUptoRow : OpenClaim := { program := "ytenplenjpliciaa", sum := "94fa4a2078b25ee18b15c3391b55ceab19232b78ce4eef5a226627713a5805d0", func := "loop.example/mailwire/laws.FnExactEncodeQuoted", spec := "fnExactEncodeQuoted", apart := false, narrowed := true }
def FnExactEncodeQuotedUptoSaid : Prop := fnExactEncodeQuotedUptoRow.holds Try.pinned (OpenSpec.upto fnExactEncodeQuotedSpec)

/-- 'laws.FnExactEncodeBase', WHERE WHAT IT READS IS OF BULK AT MOST 1048576: true; the input reads as it did. -/
def fnExactEncodeBaseUptoRow : OpenClaim := { program := "ytenplenjpliciaa", sum := "94fa4a2078b25ee18b15c3391b55ceab19232b78ce4eef5a226627713a5805d0", func := "loop.example/mailwire/laws.FnExactEncodeBase", spec := "fnExactEncodeBase", apart := false, narrowed := true }
def FnExactEncodeBaseUptoSaid : Prop := fnExactEncodeBaseUptoRow.holds Try.pinned (OpenSpec.upto fnExactEncodeBaseSpec)

/-- 'laws.FnQuotedNewlines', WHERE WHAT IT READS IS OF BULK AT MOST 1048576: true; the input reads as it did. -/
def fnQuotedNewlinesUptoRow : OpenClaim := { program := "ytenplenjpliciaa", sum := "94fa4a2078b25ee18b15c3391b55ceab19232b78ce4eef5a226627713a5805d0", func := "loop.example/mailwire/laws.FnQuotedNewlines", spec := "fnQuotedNewlines", apart := false, narrowed := true }
def FnQuotedNewlinesUptoSaid : Prop := fnQuotedNewlinesUptoRow.holds Try.pinned (OpenSpec.upto fnQuotedNewlinesSpec)

/-- 'laws.FnQuotedPlain', WHERE WHAT IT READS IS OF BULK AT MOST 1048576: true; the input reads as it did. -/
def fnQuotedPlainUptoRow : OpenClaim := { program := "ytenplenjpliciaa", sum := "94fa4a2078b25ee18b15c3391b55ceab19232b78ce4eef5a226627713a5805d0", func := "loop.example/mailwire/laws.FnQuotedPlain", spec := "fnQuotedPlain", apart := false, narrowed := true }
def FnQuotedPlainUptoSaid : Prop := fnQuotedPlainUptoRow.holds Try.pinned (OpenSpec.upto fnQuotedPlainSpec)

/-- 'laws.FnBaseWidth', WHERE WHAT IT READS IS OF BULK AT MOST 1048576: true; the input reads as it did. -/
def fnBaseWidthUptoRow : OpenClaim := { program := "ytenplenjpliciaa", sum := "94fa4a2078b25ee18b15c3391b55ceab19232b78ce4eef5a226627713a5805d0", func := "loop.example/mailwire/laws.FnBaseWidth", spec := "fnBaseWidth", apart := false, narrowed := true }
def FnBaseWidthUptoSaid : Prop := fnBaseWidthUptoRow.holds Try.pinned (OpenSpec.upto fnBaseWidthSpec)

/-- 'laws.FnBaseSize', WHERE WHAT IT READS IS OF BULK AT MOST 1048576: true; the input reads as it did. -/
def fnBaseSizeUptoRow : OpenClaim := { program := "ytenplenjpliciaa", sum := "94fa4a2078b25ee18b15c3391b55ceab19232b78ce4eef5a226627713a5805d0", func := "loop.example/mailwire/laws.FnBaseSize", spec := "fnBaseSize", apart := false, narrowed := true }
def FnBaseSizeUptoSaid : Prop := fnBaseSizeUptoRow.holds Try.pinned (OpenSpec.upto fnBaseSizeSpec)

/-- 'laws.FnExactDecodeQuoted', WHERE WHAT IT READS IS OF BULK AT MOST 1048576: true; the input reads as it did. -/
def fnExactDecodeQuotedUptoRow : OpenClaim := { program := "ytenplenjpliciaa", sum := "94fa4a2078b25ee18b15c3391b55ceab19232b78ce4eef5a226627713a5805d0", func := "loop.example/mailwire/laws.FnExactDecodeQuoted", spec := "fnExactDecodeQuoted", inPlace := ["internal/bytealg.IndexByteString"], apart := false, narrowed := true }
def FnExactDecodeQuotedUptoSaid : Prop := fnExactDecodeQuotedUptoRow.holds Try.pinned (OpenSpec.upto fnExactDecodeQuotedSpec)

/-- 'laws.FnQuotedSoft', WHERE WHAT IT READS IS OF BULK AT MOST 1048576: true; the input reads as it did. -/
def fnQuotedSoftUptoRow : OpenClaim := { program := "ytenplenjpliciaa", sum := "94fa4a2078b25ee18b15c3391b55ceab19232b78ce4eef5a226627713a5805d0", func := "loop.example/mailwire/laws.FnQuotedSoft", spec := "fnQuotedSoft", inPlace := ["internal/bytealg.IndexByteString"], apart := false, narrowed := true }
def FnQuotedSoftUptoSaid : Prop := fnQuotedSoftUptoRow.holds Try.pinned (OpenSpec.upto fnQuotedSoftSpec)

/-- 'laws.FnQuotedBytes', WHERE WHAT IT READS IS OF BULK AT MOST 1048576: true; the input reads as it did. -/
def fnQuotedBytesUptoRow : OpenClaim := { program := "ytenplenjpliciaa", sum := "94fa4a2078b25ee18b15c3391b55ceab19232b78ce4eef5a226627713a5805d0", func := "loop.example/mailwire/laws.FnQuotedBytes", spec := "fnQuotedBytes", inPlace := ["internal/bytealg.IndexByteString"], apart := false, narrowed := true }
def FnQuotedBytesUptoSaid : Prop := fnQuotedBytesUptoRow.holds Try.pinned (OpenSpec.upto fnQuotedBytesSpec)

/-- 'laws.FnExactDecodeBase', WHERE WHAT IT READS IS OF BULK AT MOST 1048576: true; the input reads as it did. -/
def fnExactDecodeBaseUptoRow : OpenClaim := { program := "ytenplenjpliciaa", sum := "94fa4a2078b25ee18b15c3391b55ceab19232b78ce4eef5a226627713a5805d0", func := "loop.example/mailwire/laws.FnExactDecodeBase", spec := "fnExactDecodeBase", inPlace := ["internal/abi.NoEscape", "internal/bytealg.MakeNoZero", "internal/bytealg.IndexByteString", "internal/bytealg.CountString", "internal/bytealg.IndexString"], named := ["internal/bytealg.MaxLen"], apart := false, narrowed := true }
def FnExactDecodeBaseUptoSaid : Prop := fnExactDecodeBaseUptoRow.holds Try.pinned (OpenSpec.upto fnExactDecodeBaseSpec)

/-- 'laws.FnBaseLines', WHERE WHAT IT READS IS OF BULK AT MOST 1048576: true; the input reads as it did. -/
def fnBaseLinesUptoRow : OpenClaim := { program := "ytenplenjpliciaa", sum := "94fa4a2078b25ee18b15c3391b55ceab19232b78ce4eef5a226627713a5805d0", func := "loop.example/mailwire/laws.FnBaseLines", spec := "fnBaseLines", inPlace := ["internal/abi.NoEscape", "internal/bytealg.MakeNoZero", "internal/bytealg.IndexByteString", "internal/bytealg.CountString", "internal/bytealg.IndexString"], named := ["internal/bytealg.MaxLen"], apart := false, narrowed := true }
def FnBaseLinesUptoSaid : Prop := fnBaseLinesUptoRow.holds Try.pinned (OpenSpec.upto fnBaseLinesSpec)

/-- 'laws.FnBaseBytes', WHERE WHAT IT READS IS OF BULK AT MOST 1048576: true; the input reads as it did. -/
def fnBaseBytesUptoRow : OpenClaim := { program := "ytenplenjpliciaa", sum := "94fa4a2078b25ee18b15c3391b55ceab19232b78ce4eef5a226627713a5805d0", func := "loop.example/mailwire/laws.FnBaseBytes", spec := "fnBaseBytes", inPlace := ["internal/abi.NoEscape", "internal/bytealg.MakeNoZero", "internal/bytealg.IndexByteString", "internal/bytealg.CountString", "internal/bytealg.IndexString"], named := ["internal/bytealg.MaxLen"], apart := false, narrowed := true }
def FnBaseBytesUptoSaid : Prop := fnBaseBytesUptoRow.holds Try.pinned (OpenSpec.upto fnBaseBytesSpec)

end Rows
end Go.Proofs.Ytenplenjpliciaa
