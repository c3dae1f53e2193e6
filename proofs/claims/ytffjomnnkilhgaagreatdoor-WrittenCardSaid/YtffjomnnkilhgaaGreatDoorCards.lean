/-
  DERIVED. GIVEN WITH THE SEED: THE CARDS: each row of YtffjomnnkilhgaaGreatDoorRows.lean that lists a variable, with what it lists TIED to the program's text (the seventh form; the later family's looks); each row that meets fmt, with fmt's text TOLD by the authors' own Lean function (tested against real Go, not proved from fmt's source: count such statements apart). THE CARD IS WHAT COUNTS. Prove the row's statement (the work); the ties are given (YtffjomnnkilhgaaGreatDoorTie.lean); close each card by the builder's one call (the guide's Derived/Test/ToyasCard.lean, 'card_holds'). Laid BY PROGRAM, IN A SANDBOX (cutbox-door.mjs). By AI agents, Wed Nov 11 2026. No macro, syntax, notation, axiom, sorry.
-/
import Derived.Test.YtffjomnnkilhgaaGreatDoorRows
import GoSem.ClaimSeven
namespace Go.Proofs.YtffjomnnkilhgaaGreatDoor
namespace Rows

/-- THE TIED CARD OF 'termsearchlaw.Ranked'. -/
def rankedCard : Claim7 := { stood := { row := rankedRow, standIns := [], harness := (true, "0bd75585481208c3c04f7b920b97847d249b4b0eb3594ea03f94d1449d90b4a3"), looks := true }, kinds := [], alts := [], laidByText := true, laidKinds := [.data, .data, .handle, .sentinel, .pinned], laidTests := true, laidLooks := .later }
def RankedCardSaid : Prop := Claim7.holds Tryz.pinned (.plain (OpenSpec.ofChange rankedSpec)) rankedCard

/-- THE TIED CARD OF 'termsearchlaw.All'. -/
def allCard : Claim7 := { stood := { row := allRow, standIns := [], harness := (true, "0bd75585481208c3c04f7b920b97847d249b4b0eb3594ea03f94d1449d90b4a3"), looks := true }, kinds := [], alts := [], laidByText := true, laidKinds := [.data, .data, .handle, .sentinel, .pinned], laidTests := true, laidLooks := .later }
def AllCardSaid : Prop := Claim7.holds Tryz.pinned (.plain (OpenSpec.ofChange allSpec)) allCard

/-- THE TIED CARD OF 'termsearchlaw.Written'. -/
def writtenCard : Claim7 := { stood := { row := writtenRow, standIns := [], harness := (true, "0bd75585481208c3c04f7b920b97847d249b4b0eb3594ea03f94d1449d90b4a3"), looks := true }, kinds := [], alts := [], laidByText := true, laidKinds := [.data, .data, .handle, .sentinel, .pinned], laidTests := true, laidLooks := .later }
def WrittenCardSaid : Prop := Claim7.holds Tryz.pinned (.plain (OpenSpec.ofChange writtenSpec)) writtenCard

/-- THE TIED CARD OF 'termsearchlaw.Loaded'. -/
def loadedCard : Claim7 := { stood := { row := loadedRow, standIns := [], harness := (true, "0bd75585481208c3c04f7b920b97847d249b4b0eb3594ea03f94d1449d90b4a3"), looks := true }, kinds := [], alts := [], laidByText := true, laidKinds := [.data, .data, .handle, .sentinel, .pinned], laidTests := true, laidLooks := .later }
def LoadedCardSaid : Prop := Claim7.holds Tryz.pinned (.plain (OpenSpec.ofChange loadedSpec)) loadedCard

/-- THE TIED CARD OF 'termsearchlaw.Simple'. -/
def simpleCard : Claim7 := { stood := { row := simpleRow, standIns := [], harness := (true, "0bd75585481208c3c04f7b920b97847d249b4b0eb3594ea03f94d1449d90b4a3"), looks := true }, kinds := [], alts := [], laidByText := true, laidKinds := [.data, .data, .handle, .sentinel, .pinned], laidTests := true, laidLooks := .later }
def SimpleCardSaid : Prop := Claim7.holds Tryz.pinned (.plain (OpenSpec.ofChange simpleSpec)) simpleCard

/-- THE TIED CARD OF 'termsearchlaw.Patterns'. -/
def patternsCard : Claim7 := { stood := { row := patternsRow, standIns := [], harness := (true, "0bd75585481208c3c04f7b920b97847d249b4b0eb3594ea03f94d1449d90b4a3"), looks := true }, kinds := [], alts := [], laidByText := true, laidKinds := [.data, .data, .handle, .sentinel, .pinned], laidTests := true, laidLooks := .later }
def PatternsCardSaid : Prop := Claim7.holds Tryz.pinned (.plain (OpenSpec.ofChange patternsSpec)) patternsCard

/-- THE TIED CARD OF 'termsearchlaw.Least'. -/
def leastCard : Claim7 := { stood := { row := leastRow, standIns := [], harness := (true, "0bd75585481208c3c04f7b920b97847d249b4b0eb3594ea03f94d1449d90b4a3"), looks := true }, kinds := [], alts := [], laidByText := true, laidKinds := [.data, .data, .handle, .sentinel, .pinned], laidTests := true, laidLooks := .later }
def LeastCardSaid : Prop := Claim7.holds Tryz.pinned (.plain (OpenSpec.ofChange leastSpec)) leastCard

/-- THE TIED CARD OF 'termsearchlaw.Near'. -/
def nearCard : Claim7 := { stood := { row := nearRow, standIns := [], harness := (true, "0bd75585481208c3c04f7b920b97847d249b4b0eb3594ea03f94d1449d90b4a3"), looks := true }, kinds := [], alts := [], laidByText := true, laidKinds := [.data, .data, .handle, .sentinel, .pinned], laidTests := true, laidLooks := .later }
def NearCardSaid : Prop := Claim7.holds Tryz.pinned (.plain (OpenSpec.ofChange nearSpec)) nearCard

/-- THE SECOND FORM's CARD OF 'termsearchlaw.Ranked'. -/
def rankedUptoCard : Claim7 := { stood := { row := rankedUptoRow, standIns := [], harness := (true, "0bd75585481208c3c04f7b920b97847d249b4b0eb3594ea03f94d1449d90b4a3"), looks := true }, kinds := [], alts := [], laidByText := true, laidKinds := [.data, .data, .handle, .sentinel, .pinned], laidTests := true, laidLooks := .later }
def RankedUptoCardSaid : Prop := Claim7.holds Tryz.pinned (.plain (OpenSpec.upto rankedSpec)) rankedUptoCard

/-- THE SECOND FORM's CARD OF 'termsearchlaw.All'. -/
def allUptoCard : Claim7 := { stood := { row := allUptoRow, standIns := [], harness := (true, "0bd75585481208c3c04f7b920b97847d249b4b0eb3594ea03f94d1449d90b4a3"), looks := true }, kinds := [], alts := [], laidByText := true, laidKinds := [.data, .data, .handle, .sentinel, .pinned], laidTests := true, laidLooks := .later }
def AllUptoCardSaid : Prop := Claim7.holds Tryz.pinned (.plain (OpenSpec.upto allSpec)) allUptoCard

/-- THE SECOND FORM's CARD OF 'termsearchlaw.Written'. -/
def writtenUptoCard : Claim7 := { stood := { row := writtenUptoRow, standIns := [], harness := (true, "0bd75585481208c3c04f7b920b97847d249b4b0eb3594ea03f94d1449d90b4a3"), looks := true }, kinds := [], alts := [], laidByText := true, laidKinds := [.data, .data, .handle, .sentinel, .pinned], laidTests := true, laidLooks := .later }
def WrittenUptoCardSaid : Prop := Claim7.holds Tryz.pinned (.plain (OpenSpec.upto writtenSpec)) writtenUptoCard

/-- THE SECOND FORM's CARD OF 'termsearchlaw.Loaded'. -/
def loadedUptoCard : Claim7 := { stood := { row := loadedUptoRow, standIns := [], harness := (true, "0bd75585481208c3c04f7b920b97847d249b4b0eb3594ea03f94d1449d90b4a3"), looks := true }, kinds := [], alts := [], laidByText := true, laidKinds := [.data, .data, .handle, .sentinel, .pinned], laidTests := true, laidLooks := .later }
def LoadedUptoCardSaid : Prop := Claim7.holds Tryz.pinned (.plain (OpenSpec.upto loadedSpec)) loadedUptoCard

/-- THE SECOND FORM's CARD OF 'termsearchlaw.Simple'. -/
def simpleUptoCard : Claim7 := { stood := { row := simpleUptoRow, standIns := [], harness := (true, "0bd75585481208c3c04f7b920b97847d249b4b0eb3594ea03f94d1449d90b4a3"), looks := true }, kinds := [], alts := [], laidByText := true, laidKinds := [.data, .data, .handle, .sentinel, .pinned], laidTests := true, laidLooks := .later }
def SimpleUptoCardSaid : Prop := Claim7.holds Tryz.pinned (.plain (OpenSpec.upto simpleSpec)) simpleUptoCard

/-- THE SECOND FORM's CARD OF 'termsearchlaw.Patterns'. -/
def patternsUptoCard : Claim7 := { stood := { row := patternsUptoRow, standIns := [], harness := (true, "0bd75585481208c3c04f7b920b97847d249b4b0eb3594ea03f94d1449d90b4a3"), looks := true }, kinds := [], alts := [], laidByText := true, laidKinds := [.data, .data, .handle, .sentinel, .pinned], laidTests := true, laidLooks := .later }
def PatternsUptoCardSaid : Prop := Claim7.holds Tryz.pinned (.plain (OpenSpec.upto patternsSpec)) patternsUptoCard

/-- THE SECOND FORM's CARD OF 'termsearchlaw.Least'. -/
def leastUptoCard : Claim7 := { stood := { row := leastUptoRow, standIns := [], harness := (true, "0bd75585481208c3c04f7b920b97847d249b4b0eb3594ea03f94d1449d90b4a3"), looks := true }, kinds := [], alts := [], laidByText := true, laidKinds := [.data, .data, .handle, .sentinel, .pinned], laidTests := true, laidLooks := .later }
def LeastUptoCardSaid : Prop := Claim7.holds Tryz.pinned (.plain (OpenSpec.upto leastSpec)) leastUptoCard

/-- THE SECOND FORM's CARD OF 'termsearchlaw.Near'. -/
def nearUptoCard : Claim7 := { stood := { row := nearUptoRow, standIns := [], harness := (true, "0bd75585481208c3c04f7b920b97847d249b4b0eb3594ea03f94d1449d90b4a3"), looks := true }, kinds := [], alts := [], laidByText := true, laidKinds := [.data, .data, .handle, .sentinel, .pinned], laidTests := true, laidLooks := .later }
def NearUptoCardSaid : Prop := Claim7.holds Tryz.pinned (.plain (OpenSpec.upto nearSpec)) nearUptoCard
end Rows
end Go.Proofs.YtffjomnnkilhgaaGreatDoor
