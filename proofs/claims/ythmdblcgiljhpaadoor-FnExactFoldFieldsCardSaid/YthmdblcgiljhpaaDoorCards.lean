/-
  DERIVED. GIVEN WITH THE SEED: THE CARDS: each row of YthmdblcgiljhpaaDoorRows.lean that lists a variable, with what it lists TIED to the program's text (the seventh form; the later family's looks); each row that meets fmt, with fmt's text TOLD by the authors' own Lean function (tested against real Go, not proved from fmt's source: count such statements apart). THE CARD IS WHAT COUNTS. Prove the row's statement (the work); the ties are given (YthmdblcgiljhpaaDoorTie.lean); close each card by the builder's one call (the guide's Derived/Test/ToyasCard.lean, 'card_holds'). Laid BY PROGRAM, IN A SANDBOX (cutbox-door.mjs). By AI agents, Wed Nov 11 2026. No macro, syntax, notation, axiom, sorry.
-/
import Derived.Test.YthmdblcgiljhpaaDoorRows
import GoSem.ClaimSeven
namespace Go.Proofs.YthmdblcgiljhpaaDoor
namespace Rows

/-- THE TIED CARD OF 'laws.FnExactFoldFields'. -/
def fnExactFoldFieldsCard : Claim7 := { stood := { row := fnExactFoldFieldsRow, standIns := [], harness := (true, "f5c3f760cddd11ccf33a6cd959491ef9144b30ad1b3257402fe3394a41d7da7a"), looks := false }, kinds := [], alts := [], laidByText := true, laidKinds := [.data, .pinned], laidTests := true, laidLooks := .later }
def FnExactFoldFieldsCardSaid : Prop := Claim7.holds Tryd.pinned (.plain (OpenSpec.ofChange fnExactFoldFieldsSpec)) fnExactFoldFieldsCard

/-- THE TIED CARD OF 'laws.FnFoldField'. -/
def fnFoldFieldCard : Claim7 := { stood := { row := fnFoldFieldRow, standIns := [], harness := (true, "f5c3f760cddd11ccf33a6cd959491ef9144b30ad1b3257402fe3394a41d7da7a"), looks := false }, kinds := [], alts := [], laidByText := true, laidKinds := [.data, .pinned], laidTests := true, laidLooks := .later }
def FnFoldFieldCardSaid : Prop := Claim7.holds Tryd.pinned (.plain (OpenSpec.ofChange fnFoldFieldSpec)) fnFoldFieldCard

/-- THE TIED CARD OF 'laws.FnReadSpaces'. -/
def fnReadSpacesCard : Claim7 := { stood := { row := fnReadSpacesRow, standIns := [], harness := (true, "f5c3f760cddd11ccf33a6cd959491ef9144b30ad1b3257402fe3394a41d7da7a"), looks := false }, kinds := [], alts := [], laidByText := true, laidKinds := [.data, .pinned], laidTests := true, laidLooks := .later }
def FnReadSpacesCardSaid : Prop := Claim7.holds Tryd.pinned (.plain (OpenSpec.ofChange fnReadSpacesSpec)) fnReadSpacesCard

/-- THE TIED CARD OF 'laws.FnExactReadFields'. -/
def fnExactReadFieldsCard : Claim7 := { stood := { row := fnExactReadFieldsRow, standIns := [], harness := (true, "f5c3f760cddd11ccf33a6cd959491ef9144b30ad1b3257402fe3394a41d7da7a"), looks := false }, kinds := [], alts := [], laidByText := true, laidKinds := [.data, .pinned], laidTests := true, laidLooks := .later }
def FnExactReadFieldsCardSaid : Prop := Claim7.holds Tryd.pinned (.plain (OpenSpec.ofChange fnExactReadFieldsSpec)) fnExactReadFieldsCard

/-- THE TIED CARD OF 'laws.FnFoldFields'. -/
def fnFoldFieldsCard : Claim7 := { stood := { row := fnFoldFieldsRow, standIns := [], harness := (true, "f5c3f760cddd11ccf33a6cd959491ef9144b30ad1b3257402fe3394a41d7da7a"), looks := false }, kinds := [], alts := [], laidByText := true, laidKinds := [.data, .pinned], laidTests := true, laidLooks := .later }
def FnFoldFieldsCardSaid : Prop := Claim7.holds Tryd.pinned (.plain (OpenSpec.ofChange fnFoldFieldsSpec)) fnFoldFieldsCard

/-- THE SECOND FORM's CARD OF 'laws.FnExactFoldFields'. -/
def fnExactFoldFieldsUptoCard : Claim7 := { stood := { row := fnExactFoldFieldsUptoRow, standIns := [], harness := (true, "f5c3f760cddd11ccf33a6cd959491ef9144b30ad1b3257402fe3394a41d7da7a"), looks := false }, kinds := [], alts := [], laidByText := true, laidKinds := [.data, .pinned], laidTests := true, laidLooks := .later }
def FnExactFoldFieldsUptoCardSaid : Prop := Claim7.holds Tryd.pinned (.plain (OpenSpec.upto fnExactFoldFieldsSpec)) fnExactFoldFieldsUptoCard

/-- THE SECOND FORM's CARD OF 'laws.FnFoldField'. -/
def fnFoldFieldUptoCard : Claim7 := { stood := { row := fnFoldFieldUptoRow, standIns := [], harness := (true, "f5c3f760cddd11ccf33a6cd959491ef9144b30ad1b3257402fe3394a41d7da7a"), looks := false }, kinds := [], alts := [], laidByText := true, laidKinds := [.data, .pinned], laidTests := true, laidLooks := .later }
def FnFoldFieldUptoCardSaid : Prop := Claim7.holds Tryd.pinned (.plain (OpenSpec.upto fnFoldFieldSpec)) fnFoldFieldUptoCard

/-- THE SECOND FORM's CARD OF 'laws.FnReadSpaces'. -/
def fnReadSpacesUptoCard : Claim7 := { stood := { row := fnReadSpacesUptoRow, standIns := [], harness := (true, "f5c3f760cddd11ccf33a6cd959491ef9144b30ad1b3257402fe3394a41d7da7a"), looks := false }, kinds := [], alts := [], laidByText := true, laidKinds := [.data, .pinned], laidTests := true, laidLooks := .later }
def FnReadSpacesUptoCardSaid : Prop := Claim7.holds Tryd.pinned (.plain (OpenSpec.upto fnReadSpacesSpec)) fnReadSpacesUptoCard

/-- THE SECOND FORM's CARD OF 'laws.FnExactReadFields'. -/
def fnExactReadFieldsUptoCard : Claim7 := { stood := { row := fnExactReadFieldsUptoRow, standIns := [], harness := (true, "f5c3f760cddd11ccf33a6cd959491ef9144b30ad1b3257402fe3394a41d7da7a"), looks := false }, kinds := [], alts := [], laidByText := true, laidKinds := [.data, .pinned], laidTests := true, laidLooks := .later }
def FnExactReadFieldsUptoCardSaid : Prop := Claim7.holds Tryd.pinned (.plain (OpenSpec.upto fnExactReadFieldsSpec)) fnExactReadFieldsUptoCard

/-- THE SECOND FORM's CARD OF 'laws.FnFoldFields'. -/
def fnFoldFieldsUptoCard : Claim7 := { stood := { row := fnFoldFieldsUptoRow, standIns := [], harness := (true, "f5c3f760cddd11ccf33a6cd959491ef9144b30ad1b3257402fe3394a41d7da7a"), looks := false }, kinds := [], alts := [], laidByText := true, laidKinds := [.data, .pinned], laidTests := true, laidLooks := .later }
def FnFoldFieldsUptoCardSaid : Prop := Claim7.holds Tryd.pinned (.plain (OpenSpec.upto fnFoldFieldsSpec)) fnFoldFieldsUptoCard
end Rows
end Go.Proofs.YthmdblcgiljhpaaDoor
