/-
  DERIVED. GIVEN WITH THE SEED: THE CARDS: each row of YtkpedlhofalnjaaGreatDoorRows.lean that lists a variable, with what it lists TIED to the program's text (the seventh form; the later family's looks); each row that meets fmt, with fmt's text TOLD by the authors' own Lean function (tested against real Go, not proved from fmt's source: count such statements apart). THE CARD IS WHAT COUNTS. Prove the row's statement (the work); the ties are given (YtkpedlhofalnjaaGreatDoorTie.lean); close each card by the builder's one call (the guide's Derived/Test/ToyasCard.lean, 'card_holds'). Laid BY PROGRAM, IN A SANDBOX (cutbox-door.mjs). By AI agents, Wed Nov 11 2026. No macro, syntax, notation, axiom, sorry.
-/
import Derived.Test.YtkpedlhofalnjaaGreatDoorRows
import GoSem.ClaimSeven
namespace Go.Proofs.YtkpedlhofalnjaaGreatDoor
namespace Rows

/-- THE TIED CARD OF 'storemanlaw03.CodeBytes'. -/
def codeBytesCard : Claim7 := { stood := { row := codeBytesRow, standIns := [], harness := (true, "4850cdcd193a139e4d0ad25484d12e490a06de14ef0f6b4d862dd3aa6e617169"), looks := true }, kinds := [], alts := [], laidByText := true, laidKinds := [.data, .data, .data, .sentinel, .sentinel], laidTests := true, laidLooks := .later }
def CodeBytesCardSaid : Prop := Claim7.holds Tryz.pinned (.plain (OpenSpec.ofChange codeBytesSpec)) codeBytesCard

/-- THE TIED CARD OF 'storemanlaw31.LinesBlanks'. -/
def linesBlanksCard : Claim7 := { stood := { row := linesBlanksRow, standIns := [], harness := (true, "4850cdcd193a139e4d0ad25484d12e490a06de14ef0f6b4d862dd3aa6e617169"), looks := true }, kinds := [], alts := [], laidByText := true, laidKinds := [.data, .data, .data, .data, .sentinel, .sentinel, .data, .data, .pinned], laidTests := true, laidLooks := .later }
def LinesBlanksCardSaid : Prop := Claim7.holds Tryz.pinned (.plain (OpenSpec.ofChange linesBlanksSpec)) linesBlanksCard

/-- THE TIED CARD OF 'storemanlaw31.LinesNumbers'. -/
def linesNumbersCard : Claim7 := { stood := { row := linesNumbersRow, standIns := [], harness := (true, "4850cdcd193a139e4d0ad25484d12e490a06de14ef0f6b4d862dd3aa6e617169"), looks := true }, kinds := [], alts := [], laidByText := true, laidKinds := [.data, .data, .data, .data, .sentinel, .sentinel, .listed, .data, .data, .data, .pinned], laidTests := true, laidLooks := .later }
def LinesNumbersCardSaid : Prop := Claim7.holds Tryz.pinned (.plain (OpenSpec.ofChange linesNumbersSpec)) linesNumbersCard

/-- THE TIED CARD OF 'storemanlaw13.AskPuts'. -/
def askPutsCard : Claim7 := { stood := { row := askPutsRow, standIns := [], harness := (true, "4850cdcd193a139e4d0ad25484d12e490a06de14ef0f6b4d862dd3aa6e617169"), looks := true }, kinds := [], alts := [], laidByText := true, laidKinds := [.data, .data, .pinned], laidTests := true, laidLooks := .later }
def AskPutsCardSaid : Prop := Claim7.holds Tryz.pinned (.plain (OpenSpec.ofChange askPutsSpec)) askPutsCard

/-- THE TIED CARD OF 'storemanlaw13.AskGets'. -/
def askGetsCard : Claim7 := { stood := { row := askGetsRow, standIns := [], harness := (true, "4850cdcd193a139e4d0ad25484d12e490a06de14ef0f6b4d862dd3aa6e617169"), looks := true }, kinds := [], alts := [], laidByText := true, laidKinds := [.data, .data, .pinned], laidTests := true, laidLooks := .later }
def AskGetsCardSaid : Prop := Claim7.holds Tryz.pinned (.plain (OpenSpec.ofChange askGetsSpec)) askGetsCard

/-- THE TIED CARD OF 'storemanlaw13.AskNumbers'. -/
def askNumbersCard : Claim7 := { stood := { row := askNumbersRow, standIns := [], harness := (true, "4850cdcd193a139e4d0ad25484d12e490a06de14ef0f6b4d862dd3aa6e617169"), looks := true }, kinds := [], alts := [], laidByText := true, laidKinds := [.data, .data, .pinned], laidTests := true, laidLooks := .later }
def AskNumbersCardSaid : Prop := Claim7.holds Tryz.pinned (.plain (OpenSpec.ofChange askNumbersSpec)) askNumbersCard

/-- THE TIED CARD OF 'storemanlaw03.CodeNumbers'. -/
def codeNumbersCard : Claim7 := { stood := { row := codeNumbersRow, standIns := [], harness := (true, "4850cdcd193a139e4d0ad25484d12e490a06de14ef0f6b4d862dd3aa6e617169"), looks := true }, kinds := [], alts := [], laidByText := true, laidKinds := [.data, .data, .data, .sentinel, .sentinel], laidTests := true, laidLooks := .later }
def CodeNumbersCardSaid : Prop := Claim7.holds Tryz.pinned (.plain (OpenSpec.ofChange codeNumbersSpec)) codeNumbersCard

/-- THE TIED CARD OF 'storemanlaw31.LinesSteps'. -/
def linesStepsCard : Claim7 := { stood := { row := linesStepsRow, standIns := [], harness := (true, "4850cdcd193a139e4d0ad25484d12e490a06de14ef0f6b4d862dd3aa6e617169"), looks := true }, kinds := [], alts := [], laidByText := true, laidKinds := [.data, .data, .data, .data, .sentinel, .sentinel, .data, .data, .pinned], laidTests := true, laidLooks := .later }
def LinesStepsCardSaid : Prop := Claim7.holds Tryz.pinned (.plain (OpenSpec.ofChange linesStepsSpec)) linesStepsCard

/-- THE TIED CARD OF 'storemanlaw31.LinesTales'. -/
def linesTalesCard : Claim7 := { stood := { row := linesTalesRow, standIns := [], harness := (true, "4850cdcd193a139e4d0ad25484d12e490a06de14ef0f6b4d862dd3aa6e617169"), looks := true }, kinds := [], alts := [], laidByText := true, laidKinds := [.data, .data, .data, .data, .sentinel, .sentinel, .data, .data, .pinned], laidTests := true, laidLooks := .later }
def LinesTalesCardSaid : Prop := Claim7.holds Tryz.pinned (.plain (OpenSpec.ofChange linesTalesSpec)) linesTalesCard

/-- THE TIED CARD OF 'storemanlaw31.LinesBack'. -/
def linesBackCard : Claim7 := { stood := { row := linesBackRow, standIns := [], harness := (true, "4850cdcd193a139e4d0ad25484d12e490a06de14ef0f6b4d862dd3aa6e617169"), looks := true }, kinds := [], alts := [], laidByText := true, laidKinds := [.data, .data, .data, .data, .sentinel, .sentinel, .data, .data, .pinned], laidTests := true, laidLooks := .later }
def LinesBackCardSaid : Prop := Claim7.holds Tryz.pinned (.plain (OpenSpec.ofChange linesBackSpec)) linesBackCard

/-- THE SECOND FORM's CARD OF 'storemanlaw03.CodeBytes'. -/
def codeBytesUptoCard : Claim7 := { stood := { row := codeBytesUptoRow, standIns := [], harness := (true, "4850cdcd193a139e4d0ad25484d12e490a06de14ef0f6b4d862dd3aa6e617169"), looks := true }, kinds := [], alts := [], laidByText := true, laidKinds := [.data, .data, .data, .sentinel, .sentinel], laidTests := true, laidLooks := .later }
def CodeBytesUptoCardSaid : Prop := Claim7.holds Tryz.pinned (.plain (OpenSpec.upto codeBytesSpec)) codeBytesUptoCard

/-- THE SECOND FORM's CARD OF 'storemanlaw31.LinesBlanks'. -/
def linesBlanksUptoCard : Claim7 := { stood := { row := linesBlanksUptoRow, standIns := [], harness := (true, "4850cdcd193a139e4d0ad25484d12e490a06de14ef0f6b4d862dd3aa6e617169"), looks := true }, kinds := [], alts := [], laidByText := true, laidKinds := [.data, .data, .data, .data, .sentinel, .sentinel, .data, .data, .pinned], laidTests := true, laidLooks := .later }
def LinesBlanksUptoCardSaid : Prop := Claim7.holds Tryz.pinned (.plain (OpenSpec.upto linesBlanksSpec)) linesBlanksUptoCard

/-- THE SECOND FORM's CARD OF 'storemanlaw31.LinesNumbers'. -/
def linesNumbersUptoCard : Claim7 := { stood := { row := linesNumbersUptoRow, standIns := [], harness := (true, "4850cdcd193a139e4d0ad25484d12e490a06de14ef0f6b4d862dd3aa6e617169"), looks := true }, kinds := [], alts := [], laidByText := true, laidKinds := [.data, .data, .data, .data, .sentinel, .sentinel, .listed, .data, .data, .data, .pinned], laidTests := true, laidLooks := .later }
def LinesNumbersUptoCardSaid : Prop := Claim7.holds Tryz.pinned (.plain (OpenSpec.upto linesNumbersSpec)) linesNumbersUptoCard

/-- THE SECOND FORM's CARD OF 'storemanlaw13.AskPuts'. -/
def askPutsUptoCard : Claim7 := { stood := { row := askPutsUptoRow, standIns := [], harness := (true, "4850cdcd193a139e4d0ad25484d12e490a06de14ef0f6b4d862dd3aa6e617169"), looks := true }, kinds := [], alts := [], laidByText := true, laidKinds := [.data, .data, .pinned], laidTests := true, laidLooks := .later }
def AskPutsUptoCardSaid : Prop := Claim7.holds Tryz.pinned (.plain (OpenSpec.upto askPutsSpec)) askPutsUptoCard

/-- THE SECOND FORM's CARD OF 'storemanlaw13.AskGets'. -/
def askGetsUptoCard : Claim7 := { stood := { row := askGetsUptoRow, standIns := [], harness := (true, "4850cdcd193a139e4d0ad25484d12e490a06de14ef0f6b4d862dd3aa6e617169"), looks := true }, kinds := [], alts := [], laidByText := true, laidKinds := [.data, .data, .pinned], laidTests := true, laidLooks := .later }
def AskGetsUptoCardSaid : Prop := Claim7.holds Tryz.pinned (.plain (OpenSpec.upto askGetsSpec)) askGetsUptoCard

/-- THE SECOND FORM's CARD OF 'storemanlaw13.AskNumbers'. -/
def askNumbersUptoCard : Claim7 := { stood := { row := askNumbersUptoRow, standIns := [], harness := (true, "4850cdcd193a139e4d0ad25484d12e490a06de14ef0f6b4d862dd3aa6e617169"), looks := true }, kinds := [], alts := [], laidByText := true, laidKinds := [.data, .data, .pinned], laidTests := true, laidLooks := .later }
def AskNumbersUptoCardSaid : Prop := Claim7.holds Tryz.pinned (.plain (OpenSpec.upto askNumbersSpec)) askNumbersUptoCard

/-- THE SECOND FORM's CARD OF 'storemanlaw03.CodeNumbers'. -/
def codeNumbersUptoCard : Claim7 := { stood := { row := codeNumbersUptoRow, standIns := [], harness := (true, "4850cdcd193a139e4d0ad25484d12e490a06de14ef0f6b4d862dd3aa6e617169"), looks := true }, kinds := [], alts := [], laidByText := true, laidKinds := [.data, .data, .data, .sentinel, .sentinel], laidTests := true, laidLooks := .later }
def CodeNumbersUptoCardSaid : Prop := Claim7.holds Tryz.pinned (.plain (OpenSpec.upto codeNumbersSpec)) codeNumbersUptoCard

/-- THE SECOND FORM's CARD OF 'storemanlaw31.LinesSteps'. -/
def linesStepsUptoCard : Claim7 := { stood := { row := linesStepsUptoRow, standIns := [], harness := (true, "4850cdcd193a139e4d0ad25484d12e490a06de14ef0f6b4d862dd3aa6e617169"), looks := true }, kinds := [], alts := [], laidByText := true, laidKinds := [.data, .data, .data, .data, .sentinel, .sentinel, .data, .data, .pinned], laidTests := true, laidLooks := .later }
def LinesStepsUptoCardSaid : Prop := Claim7.holds Tryz.pinned (.plain (OpenSpec.upto linesStepsSpec)) linesStepsUptoCard

/-- THE SECOND FORM's CARD OF 'storemanlaw31.LinesTales'. -/
def linesTalesUptoCard : Claim7 := { stood := { row := linesTalesUptoRow, standIns := [], harness := (true, "4850cdcd193a139e4d0ad25484d12e490a06de14ef0f6b4d862dd3aa6e617169"), looks := true }, kinds := [], alts := [], laidByText := true, laidKinds := [.data, .data, .data, .data, .sentinel, .sentinel, .data, .data, .pinned], laidTests := true, laidLooks := .later }
def LinesTalesUptoCardSaid : Prop := Claim7.holds Tryz.pinned (.plain (OpenSpec.upto linesTalesSpec)) linesTalesUptoCard

/-- THE SECOND FORM's CARD OF 'storemanlaw31.LinesBack'. -/
def linesBackUptoCard : Claim7 := { stood := { row := linesBackUptoRow, standIns := [], harness := (true, "4850cdcd193a139e4d0ad25484d12e490a06de14ef0f6b4d862dd3aa6e617169"), looks := true }, kinds := [], alts := [], laidByText := true, laidKinds := [.data, .data, .data, .data, .sentinel, .sentinel, .data, .data, .pinned], laidTests := true, laidLooks := .later }
def LinesBackUptoCardSaid : Prop := Claim7.holds Tryz.pinned (.plain (OpenSpec.upto linesBackSpec)) linesBackUptoCard
end Rows
end Go.Proofs.YtkpedlhofalnjaaGreatDoor
