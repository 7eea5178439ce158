/-
  DERIVED. GIVEN WITH THE SEED: THE CARDS: each row of YtnmeelkfpmodgaaDoorRows.lean that lists a variable, with what it lists TIED to the program's text (the seventh form; the later family's looks); each row that meets fmt, with fmt's text TOLD by the authors' own Lean function (tested against real Go, not proved from fmt's source: count such statements apart). THE CARD IS WHAT COUNTS. Prove the row's statement (the work); the ties are given (YtnmeelkfpmodgaaDoorTie.lean); close each card by the builder's one call (the guide's Derived/Test/ToyasCard.lean, 'card_holds'). Laid BY PROGRAM, IN A SANDBOX (cutbox-door.mjs). By AI agents, Wed Nov 11 2026. No macro, syntax, notation, axiom, sorry.
-/
import Derived.Test.YtnmeelkfpmodgaaDoorRows
import GoSem.ClaimSeven
namespace Go.Proofs.YtnmeelkfpmodgaaDoor
namespace Rows

/-- THE TIED CARD OF 'chatelainelaw42.ShowTexts'. -/
def showTextsCard : Claim7 := { stood := { row := showTextsRow, standIns := [], harness := (true, "8421887a44578ac11fa0e2a3a48d4a88a51f3b4d3f31db4981c38b4aac86b501"), looks := false }, kinds := [], alts := [], laidByText := true, laidKinds := [.data, .data, .data], laidTests := true, laidLooks := .later }
def ShowTextsCardSaid : Prop := Claim7.holds Tryd.pinned (.plain (OpenSpec.ofChange showTextsSpec)) showTextsCard

/-- THE TIED CARD OF 'chatelainelaw42.ShowTables'. -/
def showTablesCard : Claim7 := { stood := { row := showTablesRow, standIns := [], harness := (true, "8421887a44578ac11fa0e2a3a48d4a88a51f3b4d3f31db4981c38b4aac86b501"), looks := false }, kinds := [], alts := [], laidByText := true, laidKinds := [.data, .data, .data], laidTests := true, laidLooks := .later }
def ShowTablesCardSaid : Prop := Claim7.holds Tryd.pinned (.plain (OpenSpec.ofChange showTablesSpec)) showTablesCard

/-- THE TIED CARD OF 'chatelainelaw42.ShowParses'. -/
def showParsesCard : Claim7 := { stood := { row := showParsesRow, standIns := [], harness := (true, "8421887a44578ac11fa0e2a3a48d4a88a51f3b4d3f31db4981c38b4aac86b501"), looks := false }, kinds := [], alts := [], laidByText := true, laidKinds := [.data, .data, .data, .data, .pinned], laidTests := true, laidLooks := .later }
def ShowParsesCardSaid : Prop := Claim7.holds Tryd.pinned (.plain (OpenSpec.ofChange showParsesSpec)) showParsesCard

/-- THE SECOND FORM's CARD OF 'chatelainelaw42.ShowTexts'. -/
def showTextsUptoCard : Claim7 := { stood := { row := showTextsUptoRow, standIns := [], harness := (true, "8421887a44578ac11fa0e2a3a48d4a88a51f3b4d3f31db4981c38b4aac86b501"), looks := false }, kinds := [], alts := [], laidByText := true, laidKinds := [.data, .data, .data], laidTests := true, laidLooks := .later }
def ShowTextsUptoCardSaid : Prop := Claim7.holds Tryd.pinned (.plain (OpenSpec.upto showTextsSpec)) showTextsUptoCard

/-- THE SECOND FORM's CARD OF 'chatelainelaw42.ShowTables'. -/
def showTablesUptoCard : Claim7 := { stood := { row := showTablesUptoRow, standIns := [], harness := (true, "8421887a44578ac11fa0e2a3a48d4a88a51f3b4d3f31db4981c38b4aac86b501"), looks := false }, kinds := [], alts := [], laidByText := true, laidKinds := [.data, .data, .data], laidTests := true, laidLooks := .later }
def ShowTablesUptoCardSaid : Prop := Claim7.holds Tryd.pinned (.plain (OpenSpec.upto showTablesSpec)) showTablesUptoCard

/-- THE SECOND FORM's CARD OF 'chatelainelaw42.ShowParses'. -/
def showParsesUptoCard : Claim7 := { stood := { row := showParsesUptoRow, standIns := [], harness := (true, "8421887a44578ac11fa0e2a3a48d4a88a51f3b4d3f31db4981c38b4aac86b501"), looks := false }, kinds := [], alts := [], laidByText := true, laidKinds := [.data, .data, .data, .data, .pinned], laidTests := true, laidLooks := .later }
def ShowParsesUptoCardSaid : Prop := Claim7.holds Tryd.pinned (.plain (OpenSpec.upto showParsesSpec)) showParsesUptoCard
end Rows
end Go.Proofs.YtnmeelkfpmodgaaDoor
