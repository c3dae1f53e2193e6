/-
  DERIVED. GIVEN WITH THE SEED: THE CARDS: each row of YtglafkgakcfahaaGreatDoorRows.lean that lists a variable, with what it lists TIED to the program's text (the seventh form; the later family's looks); each row that meets fmt, with fmt's text TOLD by the authors' own Lean function (tested against real Go, not proved from fmt's source: count such statements apart). THE CARD IS WHAT COUNTS. Prove the row's statement (the work); the ties are given (YtglafkgakcfahaaGreatDoorTie.lean); close each card by the builder's one call (the guide's Derived/Test/ToyasCard.lean, 'card_holds'). Laid BY PROGRAM, IN A SANDBOX (cutbox-door.mjs). By AI agents, Wed Nov 11 2026. No macro, syntax, notation, axiom, sorry.
-/
import Derived.Test.YtglafkgakcfahaaGreatDoorRows
import GoSem.ClaimSeven
namespace Go.Proofs.YtglafkgakcfahaaGreatDoor
namespace Rows

/-- THE TIED CARD OF 'termsearchkeep.Found'. -/
def foundCard : Claim7 := { stood := { row := foundRow, standIns := [], harness := (true, "b08ed308b043d8ecd3144456f7bb71342b249bdc46c13179205edaa6565df02d"), looks := true }, kinds := [], alts := [], laidByText := true, laidKinds := [.data, .data, .handle, .pinned], laidTests := true, laidLooks := .later }
def FoundCardSaid : Prop := Claim7.holds Tryz.pinned (.plain (OpenSpec.ofChange foundSpec)) foundCard

/-- THE TIED CARD OF 'termsearchkeep.Alike'. -/
def alikeCard : Claim7 := { stood := { row := alikeRow, standIns := [], harness := (true, "b08ed308b043d8ecd3144456f7bb71342b249bdc46c13179205edaa6565df02d"), looks := true }, kinds := [], alts := [], laidByText := true, laidKinds := [.data, .data, .handle, .pinned], laidTests := true, laidLooks := .later }
def AlikeCardSaid : Prop := Claim7.holds Tryz.pinned (.plain (OpenSpec.ofChange alikeSpec)) alikeCard

/-- THE TIED CARD OF 'termsearchkeep.Either'. -/
def eitherCard : Claim7 := { stood := { row := eitherRow, standIns := [], harness := (true, "b08ed308b043d8ecd3144456f7bb71342b249bdc46c13179205edaa6565df02d"), looks := true }, kinds := [], alts := [], laidByText := true, laidKinds := [.data, .data, .handle, .pinned], laidTests := true, laidLooks := .later }
def EitherCardSaid : Prop := Claim7.holds Tryz.pinned (.plain (OpenSpec.ofChange eitherSpec)) eitherCard

/-- THE TIED CARD OF 'termsearchkeep.Wider'. -/
def widerCard : Claim7 := { stood := { row := widerRow, standIns := [], harness := (true, "b08ed308b043d8ecd3144456f7bb71342b249bdc46c13179205edaa6565df02d"), looks := true }, kinds := [], alts := [], laidByText := true, laidKinds := [.data, .data, .handle, .pinned], laidTests := true, laidLooks := .later }
def WiderCardSaid : Prop := Claim7.holds Tryz.pinned (.plain (OpenSpec.ofChange widerSpec)) widerCard

/-- THE TIED CARD OF 'termsearchkeep.Changed'. -/
def changedCard : Claim7 := { stood := { row := changedRow, standIns := [], harness := (true, "b08ed308b043d8ecd3144456f7bb71342b249bdc46c13179205edaa6565df02d"), looks := true }, kinds := [], alts := [], laidByText := true, laidKinds := [.data, .data, .handle, .pinned], laidTests := true, laidLooks := .later }
def ChangedCardSaid : Prop := Claim7.holds Tryz.pinned (.plain (OpenSpec.ofChange changedSpec)) changedCard

/-- THE TIED CARD OF 'termsearchkeep.Smallest'. -/
def smallestCard : Claim7 := { stood := { row := smallestRow, standIns := [], harness := (true, "b08ed308b043d8ecd3144456f7bb71342b249bdc46c13179205edaa6565df02d"), looks := true }, kinds := [], alts := [], laidByText := true, laidKinds := [.data, .data, .handle, .pinned], laidTests := true, laidLooks := .later }
def SmallestCardSaid : Prop := Claim7.holds Tryz.pinned (.plain (OpenSpec.ofChange smallestSpec)) smallestCard

/-- THE TIED CARD OF 'termsearchkeep.Walked'. -/
def walkedCard : Claim7 := { stood := { row := walkedRow, standIns := [], harness := (true, "b08ed308b043d8ecd3144456f7bb71342b249bdc46c13179205edaa6565df02d"), looks := true }, kinds := [], alts := [], laidByText := true, laidKinds := [.data, .data, .handle, .pinned], laidTests := true, laidLooks := .later }
def WalkedCardSaid : Prop := Claim7.holds Tryz.pinned (.plain (OpenSpec.ofChange walkedSpec)) walkedCard

/-- THE TIED CARD OF 'termsearchkeep.Sorted'. -/
def sortedCard : Claim7 := { stood := { row := sortedRow, standIns := [], harness := (true, "b08ed308b043d8ecd3144456f7bb71342b249bdc46c13179205edaa6565df02d"), looks := true }, kinds := [], alts := [], laidByText := true, laidKinds := [.data, .data, .handle, .pinned], laidTests := true, laidLooks := .later }
def SortedCardSaid : Prop := Claim7.holds Tryz.pinned (.plain (OpenSpec.ofChange sortedSpec)) sortedCard

/-- THE TIED CARD OF 'termsearchkeep.Loads'. -/
def loadsCard : Claim7 := { stood := { row := loadsRow, standIns := [], harness := (true, "b08ed308b043d8ecd3144456f7bb71342b249bdc46c13179205edaa6565df02d"), looks := true }, kinds := [], alts := [], laidByText := true, laidKinds := [.data, .data, .handle, .sentinel, .pinned], laidTests := true, laidLooks := .later }
def LoadsCardSaid : Prop := Claim7.holds Tryz.pinned (.plain (OpenSpec.ofChange loadsSpec)) loadsCard

/-- THE SECOND FORM's CARD OF 'termsearchkeep.Found'. -/
def foundUptoCard : Claim7 := { stood := { row := foundUptoRow, standIns := [], harness := (true, "b08ed308b043d8ecd3144456f7bb71342b249bdc46c13179205edaa6565df02d"), looks := true }, kinds := [], alts := [], laidByText := true, laidKinds := [.data, .data, .handle, .pinned], laidTests := true, laidLooks := .later }
def FoundUptoCardSaid : Prop := Claim7.holds Tryz.pinned (.plain (OpenSpec.upto foundSpec)) foundUptoCard

/-- THE SECOND FORM's CARD OF 'termsearchkeep.Alike'. -/
def alikeUptoCard : Claim7 := { stood := { row := alikeUptoRow, standIns := [], harness := (true, "b08ed308b043d8ecd3144456f7bb71342b249bdc46c13179205edaa6565df02d"), looks := true }, kinds := [], alts := [], laidByText := true, laidKinds := [.data, .data, .handle, .pinned], laidTests := true, laidLooks := .later }
def AlikeUptoCardSaid : Prop := Claim7.holds Tryz.pinned (.plain (OpenSpec.upto alikeSpec)) alikeUptoCard

/-- THE SECOND FORM's CARD OF 'termsearchkeep.Either'. -/
def eitherUptoCard : Claim7 := { stood := { row := eitherUptoRow, standIns := [], harness := (true, "b08ed308b043d8ecd3144456f7bb71342b249bdc46c13179205edaa6565df02d"), looks := true }, kinds := [], alts := [], laidByText := true, laidKinds := [.data, .data, .handle, .pinned], laidTests := true, laidLooks := .later }
def EitherUptoCardSaid : Prop := Claim7.holds Tryz.pinned (.plain (OpenSpec.upto eitherSpec)) eitherUptoCard

/-- THE SECOND FORM's CARD OF 'termsearchkeep.Wider'. -/
def widerUptoCard : Claim7 := { stood := { row := widerUptoRow, standIns := [], harness := (true, "b08ed308b043d8ecd3144456f7bb71342b249bdc46c13179205edaa6565df02d"), looks := true }, kinds := [], alts := [], laidByText := true, laidKinds := [.data, .data, .handle, .pinned], laidTests := true, laidLooks := .later }
def WiderUptoCardSaid : Prop := Claim7.holds Tryz.pinned (.plain (OpenSpec.upto widerSpec)) widerUptoCard

/-- THE SECOND FORM's CARD OF 'termsearchkeep.Changed'. -/
def changedUptoCard : Claim7 := { stood := { row := changedUptoRow, standIns := [], harness := (true, "b08ed308b043d8ecd3144456f7bb71342b249bdc46c13179205edaa6565df02d"), looks := true }, kinds := [], alts := [], laidByText := true, laidKinds := [.data, .data, .handle, .pinned], laidTests := true, laidLooks := .later }
def ChangedUptoCardSaid : Prop := Claim7.holds Tryz.pinned (.plain (OpenSpec.upto changedSpec)) changedUptoCard

/-- THE SECOND FORM's CARD OF 'termsearchkeep.Smallest'. -/
def smallestUptoCard : Claim7 := { stood := { row := smallestUptoRow, standIns := [], harness := (true, "b08ed308b043d8ecd3144456f7bb71342b249bdc46c13179205edaa6565df02d"), looks := true }, kinds := [], alts := [], laidByText := true, laidKinds := [.data, .data, .handle, .pinned], laidTests := true, laidLooks := .later }
def SmallestUptoCardSaid : Prop := Claim7.holds Tryz.pinned (.plain (OpenSpec.upto smallestSpec)) smallestUptoCard

/-- THE SECOND FORM's CARD OF 'termsearchkeep.Walked'. -/
def walkedUptoCard : Claim7 := { stood := { row := walkedUptoRow, standIns := [], harness := (true, "b08ed308b043d8ecd3144456f7bb71342b249bdc46c13179205edaa6565df02d"), looks := true }, kinds := [], alts := [], laidByText := true, laidKinds := [.data, .data, .handle, .pinned], laidTests := true, laidLooks := .later }
def WalkedUptoCardSaid : Prop := Claim7.holds Tryz.pinned (.plain (OpenSpec.upto walkedSpec)) walkedUptoCard

/-- THE SECOND FORM's CARD OF 'termsearchkeep.Sorted'. -/
def sortedUptoCard : Claim7 := { stood := { row := sortedUptoRow, standIns := [], harness := (true, "b08ed308b043d8ecd3144456f7bb71342b249bdc46c13179205edaa6565df02d"), looks := true }, kinds := [], alts := [], laidByText := true, laidKinds := [.data, .data, .handle, .pinned], laidTests := true, laidLooks := .later }
def SortedUptoCardSaid : Prop := Claim7.holds Tryz.pinned (.plain (OpenSpec.upto sortedSpec)) sortedUptoCard

/-- THE SECOND FORM's CARD OF 'termsearchkeep.Loads'. -/
def loadsUptoCard : Claim7 := { stood := { row := loadsUptoRow, standIns := [], harness := (true, "b08ed308b043d8ecd3144456f7bb71342b249bdc46c13179205edaa6565df02d"), looks := true }, kinds := [], alts := [], laidByText := true, laidKinds := [.data, .data, .handle, .sentinel, .pinned], laidTests := true, laidLooks := .later }
def LoadsUptoCardSaid : Prop := Claim7.holds Tryz.pinned (.plain (OpenSpec.upto loadsSpec)) loadsUptoCard
end Rows
end Go.Proofs.YtglafkgakcfahaaGreatDoor
