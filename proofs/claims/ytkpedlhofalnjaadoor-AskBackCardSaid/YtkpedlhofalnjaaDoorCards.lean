/-
  DERIVED. GIVEN WITH THE SEED: THE CARDS: each row of YtkpedlhofalnjaaDoorRows.lean that lists a variable, with what it lists TIED to the program's text (the seventh form; the later family's looks); each row that meets fmt, with fmt's text TOLD by the authors' own Lean function (tested against real Go, not proved from fmt's source: count such statements apart). THE CARD IS WHAT COUNTS. Prove the row's statement (the work); the ties are given (YtkpedlhofalnjaaDoorTie.lean); close each card by the builder's one call (the guide's Derived/Test/ToyasCard.lean, 'card_holds'). Laid BY PROGRAM, IN A SANDBOX (cutbox-door.mjs). By AI agents, Wed Nov 11 2026. No macro, syntax, notation, axiom, sorry.
-/
import Derived.Test.YtkpedlhofalnjaaDoorRows
import GoSem.ClaimSeven
namespace Go.Proofs.YtkpedlhofalnjaaDoor
namespace Rows

/-- THE TIED CARD OF 'storemanlaw03.CodeTexts'. -/
def codeTextsCard : Claim7 := { stood := { row := codeTextsRow, standIns := [], harness := (true, "fbc7071576979a637073bf08fdd4e3784f136e534275eb4ffa068d6a58e78d5a"), looks := true }, kinds := [], alts := [], laidByText := true, laidKinds := [.data, .data, .data, .sentinel, .sentinel], laidTests := true, laidLooks := .later }
def CodeTextsCardSaid : Prop := Claim7.holds Tryd.pinned (.plain (OpenSpec.ofChange codeTextsSpec)) codeTextsCard

/-- THE TIED CARD OF 'storemanlaw03.CodeBack'. -/
def codeBackCard : Claim7 := { stood := { row := codeBackRow, standIns := [], harness := (true, "fbc7071576979a637073bf08fdd4e3784f136e534275eb4ffa068d6a58e78d5a"), looks := true }, kinds := [], alts := [], laidByText := true, laidKinds := [.data, .data, .data, .sentinel, .sentinel], laidTests := true, laidLooks := .later }
def CodeBackCardSaid : Prop := Claim7.holds Tryd.pinned (.plain (OpenSpec.ofChange codeBackSpec)) codeBackCard

/-- THE TIED CARD OF 'storemanlaw03.CodeWithin'. -/
def codeWithinCard : Claim7 := { stood := { row := codeWithinRow, standIns := [], harness := (true, "fbc7071576979a637073bf08fdd4e3784f136e534275eb4ffa068d6a58e78d5a"), looks := true }, kinds := [], alts := [], laidByText := true, laidKinds := [.data, .data, .data, .sentinel, .sentinel], laidTests := true, laidLooks := .later }
def CodeWithinCardSaid : Prop := Claim7.holds Tryd.pinned (.plain (OpenSpec.ofChange codeWithinSpec)) codeWithinCard

/-- THE TIED CARD OF 'storemanlaw13.AskBack'. -/
def askBackCard : Claim7 := { stood := { row := askBackRow, standIns := [], harness := (true, "fbc7071576979a637073bf08fdd4e3784f136e534275eb4ffa068d6a58e78d5a"), looks := true }, kinds := [], alts := [], laidByText := true, laidKinds := [.data, .data, .pinned], laidTests := true, laidLooks := .later }
def AskBackCardSaid : Prop := Claim7.holds Tryd.pinned (.plain (OpenSpec.ofChange askBackSpec)) askBackCard

/-- THE TIED CARD OF 'storemanlaw13.AskWhole'. -/
def askWholeCard : Claim7 := { stood := { row := askWholeRow, standIns := [], harness := (true, "fbc7071576979a637073bf08fdd4e3784f136e534275eb4ffa068d6a58e78d5a"), looks := true }, kinds := [], alts := [], laidByText := true, laidKinds := [.data, .data, .pinned], laidTests := true, laidLooks := .later }
def AskWholeCardSaid : Prop := Claim7.holds Tryd.pinned (.plain (OpenSpec.ofChange askWholeSpec)) askWholeCard

/-- THE SECOND FORM's CARD OF 'storemanlaw03.CodeTexts'. -/
def codeTextsUptoCard : Claim7 := { stood := { row := codeTextsUptoRow, standIns := [], harness := (true, "fbc7071576979a637073bf08fdd4e3784f136e534275eb4ffa068d6a58e78d5a"), looks := true }, kinds := [], alts := [], laidByText := true, laidKinds := [.data, .data, .data, .sentinel, .sentinel], laidTests := true, laidLooks := .later }
def CodeTextsUptoCardSaid : Prop := Claim7.holds Tryd.pinned (.plain (OpenSpec.upto codeTextsSpec)) codeTextsUptoCard

/-- THE SECOND FORM's CARD OF 'storemanlaw03.CodeBack'. -/
def codeBackUptoCard : Claim7 := { stood := { row := codeBackUptoRow, standIns := [], harness := (true, "fbc7071576979a637073bf08fdd4e3784f136e534275eb4ffa068d6a58e78d5a"), looks := true }, kinds := [], alts := [], laidByText := true, laidKinds := [.data, .data, .data, .sentinel, .sentinel], laidTests := true, laidLooks := .later }
def CodeBackUptoCardSaid : Prop := Claim7.holds Tryd.pinned (.plain (OpenSpec.upto codeBackSpec)) codeBackUptoCard

/-- THE SECOND FORM's CARD OF 'storemanlaw03.CodeWithin'. -/
def codeWithinUptoCard : Claim7 := { stood := { row := codeWithinUptoRow, standIns := [], harness := (true, "fbc7071576979a637073bf08fdd4e3784f136e534275eb4ffa068d6a58e78d5a"), looks := true }, kinds := [], alts := [], laidByText := true, laidKinds := [.data, .data, .data, .sentinel, .sentinel], laidTests := true, laidLooks := .later }
def CodeWithinUptoCardSaid : Prop := Claim7.holds Tryd.pinned (.plain (OpenSpec.upto codeWithinSpec)) codeWithinUptoCard

/-- THE SECOND FORM's CARD OF 'storemanlaw13.AskBack'. -/
def askBackUptoCard : Claim7 := { stood := { row := askBackUptoRow, standIns := [], harness := (true, "fbc7071576979a637073bf08fdd4e3784f136e534275eb4ffa068d6a58e78d5a"), looks := true }, kinds := [], alts := [], laidByText := true, laidKinds := [.data, .data, .pinned], laidTests := true, laidLooks := .later }
def AskBackUptoCardSaid : Prop := Claim7.holds Tryd.pinned (.plain (OpenSpec.upto askBackSpec)) askBackUptoCard

/-- THE SECOND FORM's CARD OF 'storemanlaw13.AskWhole'. -/
def askWholeUptoCard : Claim7 := { stood := { row := askWholeUptoRow, standIns := [], harness := (true, "fbc7071576979a637073bf08fdd4e3784f136e534275eb4ffa068d6a58e78d5a"), looks := true }, kinds := [], alts := [], laidByText := true, laidKinds := [.data, .data, .pinned], laidTests := true, laidLooks := .later }
def AskWholeUptoCardSaid : Prop := Claim7.holds Tryd.pinned (.plain (OpenSpec.upto askWholeSpec)) askWholeUptoCard
end Rows
end Go.Proofs.YtkpedlhofalnjaaDoor
