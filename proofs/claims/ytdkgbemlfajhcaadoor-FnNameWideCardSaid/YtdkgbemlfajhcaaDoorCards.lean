/-
  DERIVED. GIVEN WITH THE SEED: THE CARDS: each row of YtdkgbemlfajhcaaDoorRows.lean that lists a variable, with what it lists TIED to the program's text (the seventh form; the later family's looks); each row that meets fmt, with fmt's text TOLD by the authors' own Lean function (tested against real Go, not proved from fmt's source: count such statements apart). THE CARD IS WHAT COUNTS. Prove the row's statement (the work); the ties are given (YtdkgbemlfajhcaaDoorTie.lean); close each card by the builder's one call (the guide's Derived/Test/ToyasCard.lean, 'card_holds'). Laid BY PROGRAM, IN A SANDBOX (cutbox-door.mjs). By AI agents, Wed Nov 11 2026. No macro, syntax, notation, axiom, sorry.
-/
import Derived.Test.YtdkgbemlfajhcaaDoorRows
import GoSem.ClaimSeven
namespace Go.Proofs.YtdkgbemlfajhcaaDoor
namespace Rows

/-- THE TIED CARD OF 'laws.FnExactBestCode'. -/
def fnExactBestCodeCard : Claim7 := { stood := { row := fnExactBestCodeRow, standIns := [], harness := (true, "f037e1bafef9b4a6b8223ec3a868ed2a09cdb899cafab24c44634e9a68e8d254"), looks := false }, kinds := [], alts := [], laidByText := true, laidKinds := [.data, .pinned], laidTests := true, laidLooks := .later }
def FnExactBestCodeCardSaid : Prop := Claim7.holds Tryd.pinned (.plain (OpenSpec.ofChange fnExactBestCodeSpec)) fnExactBestCodeCard

/-- THE TIED CARD OF 'laws.FnExactEncodeBytes'. -/
def fnExactEncodeBytesCard : Claim7 := { stood := { row := fnExactEncodeBytesRow, standIns := [], harness := (true, "f037e1bafef9b4a6b8223ec3a868ed2a09cdb899cafab24c44634e9a68e8d254"), looks := false }, kinds := [], alts := [], laidByText := true, laidKinds := [.data, .pinned], laidTests := true, laidLooks := .later }
def FnExactEncodeBytesCardSaid : Prop := Claim7.holds Tryd.pinned (.plain (OpenSpec.ofChange fnExactEncodeBytesSpec)) fnExactEncodeBytesCard

/-- THE TIED CARD OF 'laws.FnPlainLines'. -/
def fnPlainLinesCard : Claim7 := { stood := { row := fnPlainLinesRow, standIns := [], harness := (true, "f037e1bafef9b4a6b8223ec3a868ed2a09cdb899cafab24c44634e9a68e8d254"), looks := false }, kinds := [], alts := [], laidByText := true, laidKinds := [.data, .pinned], laidTests := true, laidLooks := .later }
def FnPlainLinesCardSaid : Prop := Claim7.holds Tryd.pinned (.plain (OpenSpec.ofChange fnPlainLinesSpec)) fnPlainLinesCard

/-- THE TIED CARD OF 'laws.FnNameText'. -/
def fnNameTextCard : Claim7 := { stood := { row := fnNameTextRow, standIns := [], harness := (true, "f037e1bafef9b4a6b8223ec3a868ed2a09cdb899cafab24c44634e9a68e8d254"), looks := false }, kinds := [], alts := [], laidByText := true, laidKinds := [.data, .pinned], laidTests := true, laidLooks := .later }
def FnNameTextCardSaid : Prop := Claim7.holds Tryd.pinned (.plain (OpenSpec.ofChange fnNameTextSpec)) fnNameTextCard

/-- THE TIED CARD OF 'laws.FnNameWide'. -/
def fnNameWideCard : Claim7 := { stood := { row := fnNameWideRow, standIns := [], harness := (true, "f037e1bafef9b4a6b8223ec3a868ed2a09cdb899cafab24c44634e9a68e8d254"), looks := false }, kinds := [], alts := [], laidByText := true, laidKinds := [.data, .pinned], laidTests := true, laidLooks := .later }
def FnNameWideCardSaid : Prop := Claim7.holds Tryd.pinned (.plain (OpenSpec.ofChange fnNameWideSpec)) fnNameWideCard

/-- THE TIED CARD OF 'laws.FnEncodeBytes'. -/
def fnEncodeBytesCard : Claim7 := { stood := { row := fnEncodeBytesRow, standIns := [], harness := (true, "f037e1bafef9b4a6b8223ec3a868ed2a09cdb899cafab24c44634e9a68e8d254"), looks := false }, kinds := [], alts := [], laidByText := true, laidKinds := [.data, .pinned], laidTests := true, laidLooks := .later }
def FnEncodeBytesCardSaid : Prop := Claim7.holds Tryd.pinned (.plain (OpenSpec.ofChange fnEncodeBytesSpec)) fnEncodeBytesCard

/-- THE TIED CARD OF 'laws.FnNameWords'. -/
def fnNameWordsCard : Claim7 := { stood := { row := fnNameWordsRow, standIns := [], harness := (true, "f037e1bafef9b4a6b8223ec3a868ed2a09cdb899cafab24c44634e9a68e8d254"), looks := false }, kinds := [], alts := [], laidByText := true, laidKinds := [.data, .pinned], laidTests := true, laidLooks := .later }
def FnNameWordsCardSaid : Prop := Claim7.holds Tryd.pinned (.plain (OpenSpec.ofChange fnNameWordsSpec)) fnNameWordsCard

/-- THE TIED CARD OF 'laws.FnBestAll'. -/
def fnBestAllCard : Claim7 := { stood := { row := fnBestAllRow, standIns := [], harness := (true, "f037e1bafef9b4a6b8223ec3a868ed2a09cdb899cafab24c44634e9a68e8d254"), looks := false }, kinds := [], alts := [], laidByText := true, laidKinds := [.data, .pinned], laidTests := true, laidLooks := .later }
def FnBestAllCardSaid : Prop := Claim7.holds Tryd.pinned (.plain (OpenSpec.ofChange fnBestAllSpec)) fnBestAllCard

/-- THE TIED CARD OF 'laws.FnBestCode'. -/
def fnBestCodeCard : Claim7 := { stood := { row := fnBestCodeRow, standIns := [], harness := (true, "f037e1bafef9b4a6b8223ec3a868ed2a09cdb899cafab24c44634e9a68e8d254"), looks := false }, kinds := [], alts := [], laidByText := true, laidKinds := [.data, .pinned], laidTests := true, laidLooks := .later }
def FnBestCodeCardSaid : Prop := Claim7.holds Tryd.pinned (.plain (OpenSpec.ofChange fnBestCodeSpec)) fnBestCodeCard

/-- THE TIED CARD OF 'laws.FnEncodeName'. -/
def fnEncodeNameCard : Claim7 := { stood := { row := fnEncodeNameRow, standIns := [], harness := (true, "f037e1bafef9b4a6b8223ec3a868ed2a09cdb899cafab24c44634e9a68e8d254"), looks := false }, kinds := [], alts := [], laidByText := true, laidKinds := [.data, .pinned], laidTests := true, laidLooks := .later }
def FnEncodeNameCardSaid : Prop := Claim7.holds Tryd.pinned (.plain (OpenSpec.ofChange fnEncodeNameSpec)) fnEncodeNameCard

/-- THE TIED CARD OF 'laws.FnDecodeBytes'. -/
def fnDecodeBytesCard : Claim7 := { stood := { row := fnDecodeBytesRow, standIns := [], harness := (true, "f037e1bafef9b4a6b8223ec3a868ed2a09cdb899cafab24c44634e9a68e8d254"), looks := false }, kinds := [], alts := [], laidByText := true, laidKinds := [.data, .pinned], laidTests := true, laidLooks := .later }
def FnDecodeBytesCardSaid : Prop := Claim7.holds Tryd.pinned (.plain (OpenSpec.ofChange fnDecodeBytesSpec)) fnDecodeBytesCard

/-- THE SECOND FORM's CARD OF 'laws.FnExactBestCode'. -/
def fnExactBestCodeUptoCard : Claim7 := { stood := { row := fnExactBestCodeUptoRow, standIns := [], harness := (true, "f037e1bafef9b4a6b8223ec3a868ed2a09cdb899cafab24c44634e9a68e8d254"), looks := false }, kinds := [], alts := [], laidByText := true, laidKinds := [.data, .pinned], laidTests := true, laidLooks := .later }
def FnExactBestCodeUptoCardSaid : Prop := Claim7.holds Tryd.pinned (.plain (OpenSpec.upto fnExactBestCodeSpec)) fnExactBestCodeUptoCard

/-- THE SECOND FORM's CARD OF 'laws.FnExactEncodeBytes'. -/
def fnExactEncodeBytesUptoCard : Claim7 := { stood := { row := fnExactEncodeBytesUptoRow, standIns := [], harness := (true, "f037e1bafef9b4a6b8223ec3a868ed2a09cdb899cafab24c44634e9a68e8d254"), looks := false }, kinds := [], alts := [], laidByText := true, laidKinds := [.data, .pinned], laidTests := true, laidLooks := .later }
def FnExactEncodeBytesUptoCardSaid : Prop := Claim7.holds Tryd.pinned (.plain (OpenSpec.upto fnExactEncodeBytesSpec)) fnExactEncodeBytesUptoCard

/-- THE SECOND FORM's CARD OF 'laws.FnPlainLines'. -/
def fnPlainLinesUptoCard : Claim7 := { stood := { row := fnPlainLinesUptoRow, standIns := [], harness := (true, "f037e1bafef9b4a6b8223ec3a868ed2a09cdb899cafab24c44634e9a68e8d254"), looks := false }, kinds := [], alts := [], laidByText := true, laidKinds := [.data, .pinned], laidTests := true, laidLooks := .later }
def FnPlainLinesUptoCardSaid : Prop := Claim7.holds Tryd.pinned (.plain (OpenSpec.upto fnPlainLinesSpec)) fnPlainLinesUptoCard

/-- THE SECOND FORM's CARD OF 'laws.FnNameText'. -/
def fnNameTextUptoCard : Claim7 := { stood := { row := fnNameTextUptoRow, standIns := [], harness := (true, "f037e1bafef9b4a6b8223ec3a868ed2a09cdb899cafab24c44634e9a68e8d254"), looks := false }, kinds := [], alts := [], laidByText := true, laidKinds := [.data, .pinned], laidTests := true, laidLooks := .later }
def FnNameTextUptoCardSaid : Prop := Claim7.holds Tryd.pinned (.plain (OpenSpec.upto fnNameTextSpec)) fnNameTextUptoCard

/-- THE SECOND FORM's CARD OF 'laws.FnNameWide'. -/
def fnNameWideUptoCard : Claim7 := { stood := { row := fnNameWideUptoRow, standIns := [], harness := (true, "f037e1bafef9b4a6b8223ec3a868ed2a09cdb899cafab24c44634e9a68e8d254"), looks := false }, kinds := [], alts := [], laidByText := true, laidKinds := [.data, .pinned], laidTests := true, laidLooks := .later }
def FnNameWideUptoCardSaid : Prop := Claim7.holds Tryd.pinned (.plain (OpenSpec.upto fnNameWideSpec)) fnNameWideUptoCard

/-- THE SECOND FORM's CARD OF 'laws.FnEncodeBytes'. -/
def fnEncodeBytesUptoCard : Claim7 := { stood := { row := fnEncodeBytesUptoRow, standIns := [], harness := (true, "f037e1bafef9b4a6b8223ec3a868ed2a09cdb899cafab24c44634e9a68e8d254"), looks := false }, kinds := [], alts := [], laidByText := true, laidKinds := [.data, .pinned], laidTests := true, laidLooks := .later }
def FnEncodeBytesUptoCardSaid : Prop := Claim7.holds Tryd.pinned (.plain (OpenSpec.upto fnEncodeBytesSpec)) fnEncodeBytesUptoCard

/-- THE SECOND FORM's CARD OF 'laws.FnNameWords'. -/
def fnNameWordsUptoCard : Claim7 := { stood := { row := fnNameWordsUptoRow, standIns := [], harness := (true, "f037e1bafef9b4a6b8223ec3a868ed2a09cdb899cafab24c44634e9a68e8d254"), looks := false }, kinds := [], alts := [], laidByText := true, laidKinds := [.data, .pinned], laidTests := true, laidLooks := .later }
def FnNameWordsUptoCardSaid : Prop := Claim7.holds Tryd.pinned (.plain (OpenSpec.upto fnNameWordsSpec)) fnNameWordsUptoCard

/-- THE SECOND FORM's CARD OF 'laws.FnBestAll'. -/
def fnBestAllUptoCard : Claim7 := { stood := { row := fnBestAllUptoRow, standIns := [], harness := (true, "f037e1bafef9b4a6b8223ec3a868ed2a09cdb899cafab24c44634e9a68e8d254"), looks := false }, kinds := [], alts := [], laidByText := true, laidKinds := [.data, .pinned], laidTests := true, laidLooks := .later }
def FnBestAllUptoCardSaid : Prop := Claim7.holds Tryd.pinned (.plain (OpenSpec.upto fnBestAllSpec)) fnBestAllUptoCard

/-- THE SECOND FORM's CARD OF 'laws.FnBestCode'. -/
def fnBestCodeUptoCard : Claim7 := { stood := { row := fnBestCodeUptoRow, standIns := [], harness := (true, "f037e1bafef9b4a6b8223ec3a868ed2a09cdb899cafab24c44634e9a68e8d254"), looks := false }, kinds := [], alts := [], laidByText := true, laidKinds := [.data, .pinned], laidTests := true, laidLooks := .later }
def FnBestCodeUptoCardSaid : Prop := Claim7.holds Tryd.pinned (.plain (OpenSpec.upto fnBestCodeSpec)) fnBestCodeUptoCard

/-- THE SECOND FORM's CARD OF 'laws.FnEncodeName'. -/
def fnEncodeNameUptoCard : Claim7 := { stood := { row := fnEncodeNameUptoRow, standIns := [], harness := (true, "f037e1bafef9b4a6b8223ec3a868ed2a09cdb899cafab24c44634e9a68e8d254"), looks := false }, kinds := [], alts := [], laidByText := true, laidKinds := [.data, .pinned], laidTests := true, laidLooks := .later }
def FnEncodeNameUptoCardSaid : Prop := Claim7.holds Tryd.pinned (.plain (OpenSpec.upto fnEncodeNameSpec)) fnEncodeNameUptoCard

/-- THE SECOND FORM's CARD OF 'laws.FnDecodeBytes'. -/
def fnDecodeBytesUptoCard : Claim7 := { stood := { row := fnDecodeBytesUptoRow, standIns := [], harness := (true, "f037e1bafef9b4a6b8223ec3a868ed2a09cdb899cafab24c44634e9a68e8d254"), looks := false }, kinds := [], alts := [], laidByText := true, laidKinds := [.data, .pinned], laidTests := true, laidLooks := .later }
def FnDecodeBytesUptoCardSaid : Prop := Claim7.holds Tryd.pinned (.plain (OpenSpec.upto fnDecodeBytesSpec)) fnDecodeBytesUptoCard
end Rows
end Go.Proofs.YtdkgbemlfajhcaaDoor
