/-
  DERIVED. GIVEN WITH THE SEED: THE CARDS: each row of YtafpbechcjcdbaaDoorRows.lean that lists a variable, with what it lists TIED to the program's text (the seventh form; the later family's looks); each row that meets fmt, with fmt's text TOLD by the authors' own Lean function (tested against real Go, not proved from fmt's source: count such statements apart). THE CARD IS WHAT COUNTS. Prove the row's statement (the work); the ties are given (YtafpbechcjcdbaaDoorTie.lean); close each card by the builder's one call (the guide's Derived/Test/ToyasCard.lean, 'card_holds'). Laid BY PROGRAM, IN A SANDBOX (cutbox-door.mjs). By AI agents, Wed Nov 11 2026. No macro, syntax, notation, axiom, sorry.
-/
import Derived.Test.YtafpbechcjcdbaaDoorRows
import GoSem.ClaimSeven
namespace Go.Proofs.YtafpbechcjcdbaaDoor
namespace Rows

/-- THE TIED CARD OF 'laws.FnDateWeekday'. -/
def fnDateWeekdayCard : Claim7 := { stood := { row := fnDateWeekdayRow, standIns := [], harness := (true, "773c3a8f8cca2046a79f1d188d5505f28ff1e554c09bca77eac83bf8c5287cad"), looks := false }, kinds := [], alts := [], laidByText := true, laidKinds := [.data, .widerDeep, .pinned], laidTests := true, laidLooks := .later }
def FnDateWeekdayCardSaid : Prop := Claim7.holds Tryd.pinned (.plain (OpenSpec.ofChange fnDateWeekdaySpec)) fnDateWeekdayCard

/-- THE TIED CARD OF 'laws.FnExactParseDate'. -/
def fnExactParseDateCard : Claim7 := { stood := { row := fnExactParseDateRow, standIns := [], harness := (true, "773c3a8f8cca2046a79f1d188d5505f28ff1e554c09bca77eac83bf8c5287cad"), looks := false }, kinds := [], alts := [], laidByText := true, laidKinds := [.data, .widerDeep, .pinned], laidTests := true, laidLooks := .later }
def FnExactParseDateCardSaid : Prop := Claim7.holds Tryd.pinned (.plain (OpenSpec.ofChange fnExactParseDateSpec)) fnExactParseDateCard

/-- THE TIED CARD OF 'laws.FnExactFormatDate'. -/
def fnExactFormatDateCard : Claim7 := { stood := { row := fnExactFormatDateRow, standIns := [], harness := (true, "773c3a8f8cca2046a79f1d188d5505f28ff1e554c09bca77eac83bf8c5287cad"), looks := false }, kinds := [], alts := [], laidByText := true, laidKinds := [.widerDeep], laidTests := true, laidLooks := .later }
def FnExactFormatDateCardSaid : Prop := Claim7.holds Tryd.pinned (.plain (OpenSpec.ofChange fnExactFormatDateSpec)) fnExactFormatDateCard

/-- THE TIED CARD OF 'laws.FnDateText'. -/
def fnDateTextCard : Claim7 := { stood := { row := fnDateTextRow, standIns := [], harness := (true, "773c3a8f8cca2046a79f1d188d5505f28ff1e554c09bca77eac83bf8c5287cad"), looks := false }, kinds := [], alts := [], laidByText := true, laidKinds := [.data, .widerDeep, .pinned], laidTests := true, laidLooks := .later }
def FnDateTextCardSaid : Prop := Claim7.holds Tryd.pinned (.plain (OpenSpec.ofChange fnDateTextSpec)) fnDateTextCard

/-- THE TIED CARD OF 'laws.FnDateValid'. -/
def fnDateValidCard : Claim7 := { stood := { row := fnDateValidRow, standIns := [], harness := (true, "773c3a8f8cca2046a79f1d188d5505f28ff1e554c09bca77eac83bf8c5287cad"), looks := false }, kinds := [], alts := [], laidByText := true, laidKinds := [.widerDeep], laidTests := true, laidLooks := .later }
def FnDateValidCardSaid : Prop := Claim7.holds Tryd.pinned (.plain (OpenSpec.ofChange fnDateValidSpec)) fnDateValidCard

/-- THE TIED CARD OF 'laws.FnZoneText'. -/
def fnZoneTextCard : Claim7 := { stood := { row := fnZoneTextRow, standIns := [], harness := (true, "773c3a8f8cca2046a79f1d188d5505f28ff1e554c09bca77eac83bf8c5287cad"), looks := false }, kinds := [], alts := [], laidByText := true, laidKinds := [.widerDeep], laidTests := true, laidLooks := .later }
def FnZoneTextCardSaid : Prop := Claim7.holds Tryd.pinned (.plain (OpenSpec.ofChange fnZoneTextSpec)) fnZoneTextCard

/-- THE SECOND FORM's CARD OF 'laws.FnDateWeekday'. -/
def fnDateWeekdayUptoCard : Claim7 := { stood := { row := fnDateWeekdayUptoRow, standIns := [], harness := (true, "773c3a8f8cca2046a79f1d188d5505f28ff1e554c09bca77eac83bf8c5287cad"), looks := false }, kinds := [], alts := [], laidByText := true, laidKinds := [.data, .widerDeep, .pinned], laidTests := true, laidLooks := .later }
def FnDateWeekdayUptoCardSaid : Prop := Claim7.holds Tryd.pinned (.plain (OpenSpec.upto fnDateWeekdaySpec)) fnDateWeekdayUptoCard

/-- THE SECOND FORM's CARD OF 'laws.FnExactParseDate'. -/
def fnExactParseDateUptoCard : Claim7 := { stood := { row := fnExactParseDateUptoRow, standIns := [], harness := (true, "773c3a8f8cca2046a79f1d188d5505f28ff1e554c09bca77eac83bf8c5287cad"), looks := false }, kinds := [], alts := [], laidByText := true, laidKinds := [.data, .widerDeep, .pinned], laidTests := true, laidLooks := .later }
def FnExactParseDateUptoCardSaid : Prop := Claim7.holds Tryd.pinned (.plain (OpenSpec.upto fnExactParseDateSpec)) fnExactParseDateUptoCard

/-- THE SECOND FORM's CARD OF 'laws.FnExactFormatDate'. -/
def fnExactFormatDateUptoCard : Claim7 := { stood := { row := fnExactFormatDateUptoRow, standIns := [], harness := (true, "773c3a8f8cca2046a79f1d188d5505f28ff1e554c09bca77eac83bf8c5287cad"), looks := false }, kinds := [], alts := [], laidByText := true, laidKinds := [.widerDeep], laidTests := true, laidLooks := .later }
def FnExactFormatDateUptoCardSaid : Prop := Claim7.holds Tryd.pinned (.plain (OpenSpec.upto fnExactFormatDateSpec)) fnExactFormatDateUptoCard

/-- THE SECOND FORM's CARD OF 'laws.FnDateText'. -/
def fnDateTextUptoCard : Claim7 := { stood := { row := fnDateTextUptoRow, standIns := [], harness := (true, "773c3a8f8cca2046a79f1d188d5505f28ff1e554c09bca77eac83bf8c5287cad"), looks := false }, kinds := [], alts := [], laidByText := true, laidKinds := [.data, .widerDeep, .pinned], laidTests := true, laidLooks := .later }
def FnDateTextUptoCardSaid : Prop := Claim7.holds Tryd.pinned (.plain (OpenSpec.upto fnDateTextSpec)) fnDateTextUptoCard

/-- THE SECOND FORM's CARD OF 'laws.FnDateValid'. -/
def fnDateValidUptoCard : Claim7 := { stood := { row := fnDateValidUptoRow, standIns := [], harness := (true, "773c3a8f8cca2046a79f1d188d5505f28ff1e554c09bca77eac83bf8c5287cad"), looks := false }, kinds := [], alts := [], laidByText := true, laidKinds := [.widerDeep], laidTests := true, laidLooks := .later }
def FnDateValidUptoCardSaid : Prop := Claim7.holds Tryd.pinned (.plain (OpenSpec.upto fnDateValidSpec)) fnDateValidUptoCard

/-- THE SECOND FORM's CARD OF 'laws.FnZoneText'. -/
def fnZoneTextUptoCard : Claim7 := { stood := { row := fnZoneTextUptoRow, standIns := [], harness := (true, "773c3a8f8cca2046a79f1d188d5505f28ff1e554c09bca77eac83bf8c5287cad"), looks := false }, kinds := [], alts := [], laidByText := true, laidKinds := [.widerDeep], laidTests := true, laidLooks := .later }
def FnZoneTextUptoCardSaid : Prop := Claim7.holds Tryd.pinned (.plain (OpenSpec.upto fnZoneTextSpec)) fnZoneTextUptoCard
end Rows
end Go.Proofs.YtafpbechcjcdbaaDoor
