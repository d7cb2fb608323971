/-
  No cell of these rows narrows 'for every input' (looked for: loops, veiled, ifaces, maps, wideKeys, modest, calm, conditions, laid).
  DERIVED. THE GIVEN ROWS OF THIS SEAT. 5 by the template 'for every input the law returns true; each argument reads behind the call as it read before'; 0 by the template 'total and deterministic' (their statements: YtkebacobfjanjaaTotals.lean).
  GIVEN WITH THE SEED: the statements are not yours to turn. If you find one false, say at which input.
  Laid BY PROGRAM, IN A SANDBOX (cutbox-rows.mjs): the forced cells as the released guide's own fill.sh prints them over the translation 4c01085899051ae2… (all of the seat's roots in one cut). By AI agents, Wed Nov 11 2026. No macro, syntax, notation, axiom, sorry.
-/
import Derived.Test.YtkebacobfjanjaaChecked
import GoSem.Claim
import GoSem.ClaimJoined
import GoSem.ClaimMapViews
import Derived.JoinedTies
import Derived.KernelRfl
namespace Go.Proofs.Ytkebacobfjanjaa
/- THE CELL 'sum', in the pinned program and in every row, IS THE sha256 OF THE DUMP (.gsa) THAT YtkebacobfjanjaaProg.lean LOADS. Nothing in Lean hashes anything: it is a label: what it is worth is what the hold of that sum in a sandbox is worth. -/
noncomputable def Try.pinned : Pinned := { name := "ytkebacobfjanjaa", sum := "4c01085899051ae257807880fa0780d93bcc84472d68797dd358779b275c5bc0", checked := Try.checked }
namespace Rows
def none {H : Type} : Left H := { results := [], args := [] }

/-- 'laws.FnExactCodeWord': WHATEVER THE INPUT: true; the input reads as it did. -/
def fnExactCodeWordSpec : ChangeSpec := { name := "fnExactCodeWord", fn := fun _ => fun
  | [d] => { results := [.lit (.bool true)], args := [d] }
  | _ => none }
def fnExactCodeWordRow : OpenClaim := { program := "ytkebacobfjanjaa", sum := "4c01085899051ae257807880fa0780d93bcc84472d68797dd358779b275c5bc0", func := "loop.example/mailwire/laws.FnExactCodeWord", spec := "fnExactCodeWord", apart := false }
def FnExactCodeWordSaid : Prop := fnExactCodeWordRow.holds Try.pinned (OpenSpec.ofChange fnExactCodeWordSpec)

/-- ITS FALSE NEIGHBOUR: 'it returns false'. Refute it at one input. -/
def fnExactCodeWordWrong : ChangeSpec := { name := "fnExactCodeWord", fn := fun _ => fun
  | [d] => { results := [.lit (.bool false)], args := [d] }
  | _ => none }
def FnExactCodeWordWrongFalsely : Prop := fnExactCodeWordRow.holds Try.pinned (OpenSpec.ofChange fnExactCodeWordWrong)

/-- 'laws.FnCodePart': WHATEVER THE INPUT: true; the input reads as it did. -/
def fnCodePartSpec : ChangeSpec := { name := "fnCodePart", fn := fun _ => fun
  | [d] => { results := [.lit (.bool true)], args := [d] }
  | _ => none }
def fnCodePartRow : OpenClaim := { program := "ytkebacobfjanjaa", sum := "4c01085899051ae257807880fa0780d93bcc84472d68797dd358779b275c5bc0", func := "loop.example/mailwire/laws.FnCodePart", spec := "fnCodePart", apart := false }
def FnCodePartSaid : Prop := fnCodePartRow.holds Try.pinned (OpenSpec.ofChange fnCodePartSpec)

/-- ITS FALSE NEIGHBOUR: 'it returns false'. Refute it at one input. -/
def fnCodePartWrong : ChangeSpec := { name := "fnCodePart", fn := fun _ => fun
  | [d] => { results := [.lit (.bool false)], args := [d] }
  | _ => none }
def FnCodePartWrongFalsely : Prop := fnCodePartRow.holds Try.pinned (OpenSpec.ofChange fnCodePartWrong)

/-- 'laws.FnCodeSize': WHATEVER THE INPUT: true; the input reads as it did. -/
def fnCodeSizeSpec : ChangeSpec := { name := "fnCodeSize", fn := fun _ => fun
  | [d] => { results := [.lit (.bool true)], args := [d] }
  | _ => none }
def fnCodeSizeRow : OpenClaim := { program := "ytkebacobfjanjaa", sum := "4c01085899051ae257807880fa0780d93bcc84472d68797dd358779b275c5bc0", func := "loop.example/mailwire/laws.FnCodeSize", spec := "fnCodeSize", apart := false }
def FnCodeSizeSaid : Prop := fnCodeSizeRow.holds Try.pinned (OpenSpec.ofChange fnCodeSizeSpec)

/-- ITS FALSE NEIGHBOUR: 'it returns false'. Refute it at one input. -/
def fnCodeSizeWrong : ChangeSpec := { name := "fnCodeSize", fn := fun _ => fun
  | [d] => { results := [.lit (.bool false)], args := [d] }
  | _ => none }
def FnCodeSizeWrongFalsely : Prop := fnCodeSizeRow.holds Try.pinned (OpenSpec.ofChange fnCodeSizeWrong)

/-- 'laws.FnExactReadCodeWord': WHATEVER THE INPUT: true; the input reads as it did. -/
def fnExactReadCodeWordSpec : ChangeSpec := { name := "fnExactReadCodeWord", fn := fun _ => fun
  | [d] => { results := [.lit (.bool true)], args := [d] }
  | _ => none }
def fnExactReadCodeWordRow : OpenClaim := { program := "ytkebacobfjanjaa", sum := "4c01085899051ae257807880fa0780d93bcc84472d68797dd358779b275c5bc0", func := "loop.example/mailwire/laws.FnExactReadCodeWord", spec := "fnExactReadCodeWord", inPlace := ["internal/bytealg.IndexByteString"], apart := false }
def FnExactReadCodeWordSaid : Prop := fnExactReadCodeWordRow.holds Try.pinned (OpenSpec.ofChange fnExactReadCodeWordSpec)

/-- ITS FALSE NEIGHBOUR: 'it returns false'. Refute it at one input. -/
def fnExactReadCodeWordWrong : ChangeSpec := { name := "fnExactReadCodeWord", fn := fun _ => fun
  | [d] => { results := [.lit (.bool false)], args := [d] }
  | _ => none }
def FnExactReadCodeWordWrongFalsely : Prop := fnExactReadCodeWordRow.holds Try.pinned (OpenSpec.ofChange fnExactReadCodeWordWrong)

/-- 'laws.FnCodeWord': WHATEVER THE INPUT: true; the input reads as it did. -/
def fnCodeWordSpec : ChangeSpec := { name := "fnCodeWord", fn := fun _ => fun
  | [d1, d2] => { results := [.lit (.bool true)], args := [d1, d2] }
  | _ => none }
def fnCodeWordRow : OpenClaim := { program := "ytkebacobfjanjaa", sum := "4c01085899051ae257807880fa0780d93bcc84472d68797dd358779b275c5bc0", func := "loop.example/mailwire/laws.FnCodeWord", spec := "fnCodeWord", inPlace := ["internal/bytealg.IndexByteString"], apart := false }
def FnCodeWordSaid : Prop := fnCodeWordRow.holds Try.pinned (OpenSpec.ofChange fnCodeWordSpec)

/-- ITS FALSE NEIGHBOUR: 'it returns false'. Refute it at one input. -/
def fnCodeWordWrong : ChangeSpec := { name := "fnCodeWord", fn := fun _ => fun
  | [d1, d2] => { results := [.lit (.bool false)], args := [d1, d2] }
  | _ => none }
def FnCodeWordWrongFalsely : Prop := fnCodeWordRow.holds Try.pinned (OpenSpec.ofChange fnCodeWordWrong)

/- THE SECOND FORM. 'bulk': how many values and letters a reading holds, each counted each time it is reached (what is shared counts as often as it is met; a slice's spare places count too). A statement '..UptoSaid' is the law's where the arguments, and the package variables that the reading takes, are together of bulk at most 1048576: NARROWER than '..Said'. Prove '..Said' where nothing that the law and all that it calls make is longer than what came in: it says more and counts as full. Else prove '..UptoSaid'. A law counts once. -/
mutual
def uptoBulk {H : Type} : DataW H → Nat
  | .lit (.string bytes) => bytes.length + 1
  | .lit _ => 1
  | .nil => 1
  | .ptr d => uptoBulk d + 1
  | .slice elems spare => uptoBulkAll elems + uptoBulkAll spare + 1
  | .agg parts => uptoBulkAll parts + 1
  | .iface _ d => uptoBulk d + 1
  | .map entries => uptoBulkEntries entries + 1
  | .held _ => 1
def uptoBulkAll {H : Type} : List (DataW H) → Nat
  | [] => 0
  | d :: r => uptoBulk d + uptoBulkAll r
def uptoBulkEntries {H : Type} : List (Lit × DataW H) → Nat
  | [] => 0
  | x :: r => uptoBulkEntry x + uptoBulkEntries r
def uptoBulkEntry {H : Type} : Lit × DataW H → Nat
  | (.string bytes, d) => bytes.length + uptoBulk d + 1
  | (_, d) => uptoBulk d + 1
 end
def uptoSmall : (H : Type) → List (DataW H) → Bool := fun _ ds => decide (uptoBulkAll ds ≤ 1048576)
def OpenSpec.upto (s : _root_.Go.ChangeSpec) : _root_.Go.OpenSpec := { _root_.Go.OpenSpec.ofChange s with cond := some uptoSmall }

/-- 'laws.FnExactCodeWord', WHERE WHAT IT READS IS OF BULK AT MOST 1048576: true; the input reads as it did. -/
def fnExactCodeWordUptoRow : OpenClaim := { program := "ytkebacobfjanjaa", sum := "4c01085899051ae257807880fa0780d93bcc84472d68797dd358779b275c5bc0", func := "loop.example/mailwire/laws.FnExactCodeWord", spec := "fnExactCodeWord", apart := false, narrowed := true }
def FnExactCodeWordUptoSaid : Prop := fnExactCodeWordUptoRow.holds Try.pinned (OpenSpec.upto fnExactCodeWordSpec)

/-- 'laws.FnCodePart', WHERE WHAT IT READS IS OF BULK AT MOST 1048576: true; the input reads as it did. -/
def fnCodePartUptoRow : OpenClaim := { program := "ytkebacobfjanjaa", sum := "4c01085899051ae257807880fa0780d93bcc84472d68797dd358779b275c5bc0", func := "loop.example/mailwire/laws.FnCodePart", spec := "fnCodePart", apart := false, narrowed := true }
def FnCodePartUptoSaid : Prop := fnCodePartUptoRow.holds Try.pinned (OpenSpec.upto fnCodePartSpec)

/-- 'laws.FnCodeSize', WHERE WHAT IT READS IS OF BULK AT MOST 1048576: true; the input reads as it did. -/
def fnCodeSizeUptoRow : OpenClaim := { program := "ytkebacobfjanjaa", sum := "4c01085899051ae257807880fa0780d93bcc84472d68797dd358779b275c5bc0", func := "loop.example/mailwire/laws.FnCodeSize", spec := "fnCodeSize", apart := false, narrowed := true }
def FnCodeSizeUptoSaid : Prop := fnCodeSizeUptoRow.holds Try.pinned (OpenSpec.upto fnCodeSizeSpec)

/-- 'laws.FnExactReadCodeWord', WHERE WHAT IT READS IS OF BULK AT MOST 1048576: true; the input reads as it did. -/
def fnExactReadCodeWordUptoRow : OpenClaim := { program := "ytkebacobfjanjaa", sum := "4c01085899051ae257807880fa0780d93bcc84472d68797dd358779b275c5bc0", func := "loop.example/mailwire/laws.FnExactReadCodeWord", spec := "fnExactReadCodeWord", inPlace := ["internal/bytealg.IndexByteString"], apart := false, narrowed := true }
def FnExactReadCodeWordUptoSaid : Prop := fnExactReadCodeWordUptoRow.holds Try.pinned (OpenSpec.upto fnExactReadCodeWordSpec)

/-- 'laws.FnCodeWord', WHERE WHAT IT READS IS OF BULK AT MOST 1048576: true; the input reads as it did. -/
def fnCodeWordUptoRow : OpenClaim := { program := "ytkebacobfjanjaa", sum := "4c01085899051ae257807880fa0780d93bcc84472d68797dd358779b275c5bc0", func := "loop.example/mailwire/laws.FnCodeWord", spec := "fnCodeWord", inPlace := ["internal/bytealg.IndexByteString"], apart := false, narrowed := true }
def FnCodeWordUptoSaid : Prop := fnCodeWordUptoRow.holds Try.pinned (OpenSpec.upto fnCodeWordSpec)

end Rows
end Go.Proofs.Ytkebacobfjanjaa
