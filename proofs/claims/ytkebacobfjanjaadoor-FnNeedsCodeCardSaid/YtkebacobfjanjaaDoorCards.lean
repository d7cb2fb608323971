/-
  DERIVED. GIVEN WITH THE SEED: THE CARDS: each row of YtkebacobfjanjaaDoorRows.lean that lists a variable, with what it lists TIED to the program's text (the seventh form; the later family's looks); each row that meets fmt, with fmt's text TOLD by the authors' own Lean function (tested against real Go, not proved from fmt's source: count such statements apart). THE CARD IS WHAT COUNTS. Prove the row's statement (the work); the ties are given (YtkebacobfjanjaaDoorTie.lean); close each card by the builder's one call (the guide's Derived/Test/ToyasCard.lean, 'card_holds'). Laid BY PROGRAM, IN A SANDBOX (cutbox-door.mjs). By AI agents, Wed Nov 11 2026. No macro, syntax, notation, axiom, sorry.
-/
import Derived.Test.YtkebacobfjanjaaDoorRows
import GoSem.ClaimSeven
namespace Go.Proofs.YtkebacobfjanjaaDoor
namespace Rows

/-- THE TIED CARD OF 'laws.FnExactNeedsCode'. -/
def fnExactNeedsCodeCard : Claim7 := { stood := { row := fnExactNeedsCodeRow, standIns := [], harness := (true, "acfd57ea6b7210e9457ec001a6bed081f5cc75fc290146ba217d2463cb3b6e23"), looks := false }, kinds := [], alts := [], laidByText := true, laidKinds := [.data, .pinned], laidTests := true, laidLooks := .later }
def FnExactNeedsCodeCardSaid : Prop := Claim7.holds Tryd.pinned (.plain (OpenSpec.ofChange fnExactNeedsCodeSpec)) fnExactNeedsCodeCard

/-- THE TIED CARD OF 'laws.FnExactDecodeName'. -/
def fnExactDecodeNameCard : Claim7 := { stood := { row := fnExactDecodeNameRow, standIns := [], harness := (true, "acfd57ea6b7210e9457ec001a6bed081f5cc75fc290146ba217d2463cb3b6e23"), looks := false }, kinds := [], alts := [], laidByText := true, laidKinds := [.data, .pinned], laidTests := true, laidLooks := .later }
def FnExactDecodeNameCardSaid : Prop := Claim7.holds Tryd.pinned (.plain (OpenSpec.ofChange fnExactDecodeNameSpec)) fnExactDecodeNameCard

/-- THE TIED CARD OF 'laws.FnReadWord'. -/
def fnReadWordCard : Claim7 := { stood := { row := fnReadWordRow, standIns := [], harness := (true, "acfd57ea6b7210e9457ec001a6bed081f5cc75fc290146ba217d2463cb3b6e23"), looks := false }, kinds := [], alts := [], laidByText := true, laidKinds := [.data, .pinned], laidTests := true, laidLooks := .later }
def FnReadWordCardSaid : Prop := Claim7.holds Tryd.pinned (.plain (OpenSpec.ofChange fnReadWordSpec)) fnReadWordCard

/-- THE TIED CARD OF 'laws.FnNeedsSpace'. -/
def fnNeedsSpaceCard : Claim7 := { stood := { row := fnNeedsSpaceRow, standIns := [], harness := (true, "acfd57ea6b7210e9457ec001a6bed081f5cc75fc290146ba217d2463cb3b6e23"), looks := false }, kinds := [], alts := [], laidByText := true, laidKinds := [.data, .pinned], laidTests := true, laidLooks := .later }
def FnNeedsSpaceCardSaid : Prop := Claim7.holds Tryd.pinned (.plain (OpenSpec.ofChange fnNeedsSpaceSpec)) fnNeedsSpaceCard

/-- THE TIED CARD OF 'laws.FnDecodePlain'. -/
def fnDecodePlainCard : Claim7 := { stood := { row := fnDecodePlainRow, standIns := [], harness := (true, "acfd57ea6b7210e9457ec001a6bed081f5cc75fc290146ba217d2463cb3b6e23"), looks := false }, kinds := [], alts := [], laidByText := true, laidKinds := [.data, .pinned], laidTests := true, laidLooks := .later }
def FnDecodePlainCardSaid : Prop := Claim7.holds Tryd.pinned (.plain (OpenSpec.ofChange fnDecodePlainSpec)) fnDecodePlainCard

/-- THE TIED CARD OF 'laws.FnNeedsCode'. -/
def fnNeedsCodeCard : Claim7 := { stood := { row := fnNeedsCodeRow, standIns := [], harness := (true, "acfd57ea6b7210e9457ec001a6bed081f5cc75fc290146ba217d2463cb3b6e23"), looks := false }, kinds := [], alts := [], laidByText := true, laidKinds := [.data, .pinned], laidTests := true, laidLooks := .later }
def FnNeedsCodeCardSaid : Prop := Claim7.holds Tryd.pinned (.plain (OpenSpec.ofChange fnNeedsCodeSpec)) fnNeedsCodeCard

/-- THE TIED CARD OF 'laws.FnExactEncodeName'. -/
def fnExactEncodeNameCard : Claim7 := { stood := { row := fnExactEncodeNameRow, standIns := [], harness := (true, "acfd57ea6b7210e9457ec001a6bed081f5cc75fc290146ba217d2463cb3b6e23"), looks := false }, kinds := [], alts := [], laidByText := true, laidKinds := [.data, .pinned], laidTests := true, laidLooks := .later }
def FnExactEncodeNameCardSaid : Prop := Claim7.holds Tryd.pinned (.plain (OpenSpec.ofChange fnExactEncodeNameSpec)) fnExactEncodeNameCard

/-- THE SECOND FORM's CARD OF 'laws.FnExactNeedsCode'. -/
def fnExactNeedsCodeUptoCard : Claim7 := { stood := { row := fnExactNeedsCodeUptoRow, standIns := [], harness := (true, "acfd57ea6b7210e9457ec001a6bed081f5cc75fc290146ba217d2463cb3b6e23"), looks := false }, kinds := [], alts := [], laidByText := true, laidKinds := [.data, .pinned], laidTests := true, laidLooks := .later }
def FnExactNeedsCodeUptoCardSaid : Prop := Claim7.holds Tryd.pinned (.plain (OpenSpec.upto fnExactNeedsCodeSpec)) fnExactNeedsCodeUptoCard

/-- THE SECOND FORM's CARD OF 'laws.FnExactDecodeName'. -/
def fnExactDecodeNameUptoCard : Claim7 := { stood := { row := fnExactDecodeNameUptoRow, standIns := [], harness := (true, "acfd57ea6b7210e9457ec001a6bed081f5cc75fc290146ba217d2463cb3b6e23"), looks := false }, kinds := [], alts := [], laidByText := true, laidKinds := [.data, .pinned], laidTests := true, laidLooks := .later }
def FnExactDecodeNameUptoCardSaid : Prop := Claim7.holds Tryd.pinned (.plain (OpenSpec.upto fnExactDecodeNameSpec)) fnExactDecodeNameUptoCard

/-- THE SECOND FORM's CARD OF 'laws.FnReadWord'. -/
def fnReadWordUptoCard : Claim7 := { stood := { row := fnReadWordUptoRow, standIns := [], harness := (true, "acfd57ea6b7210e9457ec001a6bed081f5cc75fc290146ba217d2463cb3b6e23"), looks := false }, kinds := [], alts := [], laidByText := true, laidKinds := [.data, .pinned], laidTests := true, laidLooks := .later }
def FnReadWordUptoCardSaid : Prop := Claim7.holds Tryd.pinned (.plain (OpenSpec.upto fnReadWordSpec)) fnReadWordUptoCard

/-- THE SECOND FORM's CARD OF 'laws.FnNeedsSpace'. -/
def fnNeedsSpaceUptoCard : Claim7 := { stood := { row := fnNeedsSpaceUptoRow, standIns := [], harness := (true, "acfd57ea6b7210e9457ec001a6bed081f5cc75fc290146ba217d2463cb3b6e23"), looks := false }, kinds := [], alts := [], laidByText := true, laidKinds := [.data, .pinned], laidTests := true, laidLooks := .later }
def FnNeedsSpaceUptoCardSaid : Prop := Claim7.holds Tryd.pinned (.plain (OpenSpec.upto fnNeedsSpaceSpec)) fnNeedsSpaceUptoCard

/-- THE SECOND FORM's CARD OF 'laws.FnDecodePlain'. -/
def fnDecodePlainUptoCard : Claim7 := { stood := { row := fnDecodePlainUptoRow, standIns := [], harness := (true, "acfd57ea6b7210e9457ec001a6bed081f5cc75fc290146ba217d2463cb3b6e23"), looks := false }, kinds := [], alts := [], laidByText := true, laidKinds := [.data, .pinned], laidTests := true, laidLooks := .later }
def FnDecodePlainUptoCardSaid : Prop := Claim7.holds Tryd.pinned (.plain (OpenSpec.upto fnDecodePlainSpec)) fnDecodePlainUptoCard

/-- THE SECOND FORM's CARD OF 'laws.FnNeedsCode'. -/
def fnNeedsCodeUptoCard : Claim7 := { stood := { row := fnNeedsCodeUptoRow, standIns := [], harness := (true, "acfd57ea6b7210e9457ec001a6bed081f5cc75fc290146ba217d2463cb3b6e23"), looks := false }, kinds := [], alts := [], laidByText := true, laidKinds := [.data, .pinned], laidTests := true, laidLooks := .later }
def FnNeedsCodeUptoCardSaid : Prop := Claim7.holds Tryd.pinned (.plain (OpenSpec.upto fnNeedsCodeSpec)) fnNeedsCodeUptoCard

/-- THE SECOND FORM's CARD OF 'laws.FnExactEncodeName'. -/
def fnExactEncodeNameUptoCard : Claim7 := { stood := { row := fnExactEncodeNameUptoRow, standIns := [], harness := (true, "acfd57ea6b7210e9457ec001a6bed081f5cc75fc290146ba217d2463cb3b6e23"), looks := false }, kinds := [], alts := [], laidByText := true, laidKinds := [.data, .pinned], laidTests := true, laidLooks := .later }
def FnExactEncodeNameUptoCardSaid : Prop := Claim7.holds Tryd.pinned (.plain (OpenSpec.upto fnExactEncodeNameSpec)) fnExactEncodeNameUptoCard
end Rows
end Go.Proofs.YtkebacobfjanjaaDoor
