/-
  DERIVED. GIVEN WITH THE SEED: THE CARDS: each row of YtjhnaeomaigimaaGreatDoorRows.lean that lists a variable, with what it lists TIED to the program's text (the seventh form; the later family's looks); each row that meets fmt, with fmt's text TOLD by the authors' own Lean function (tested against real Go, not proved from fmt's source: count such statements apart). THE CARD IS WHAT COUNTS. Prove the row's statement (the work); the ties are given (YtjhnaeomaigimaaGreatDoorTie.lean); close each card by the builder's one call (the guide's Derived/Test/ToyasCard.lean, 'card_holds'). Laid BY PROGRAM, IN A SANDBOX (cutbox-door.mjs). By AI agents, Wed Nov 11 2026. No macro, syntax, notation, axiom, sorry.
-/
import Derived.Test.YtjhnaeomaigimaaGreatDoorRows
import GoSem.ClaimSeven
namespace Go.Proofs.YtjhnaeomaigimaaGreatDoor
namespace Rows

/-- THE TIED CARD OF 'cofferdamlaw10.RootSets'. -/
def rootSetsCard : Claim7 := { stood := { row := rootSetsRow, standIns := [], harness := (true, "6b9e7ce7de9a16d9785a7455bb3b5bc5435f0f7736f535da66369f5655d9ce2b"), looks := false }, kinds := [], alts := [], laidByText := true, laidKinds := [.data, .pinned], laidTests := true, laidLooks := .later }
def RootSetsCardSaid : Prop := Claim7.holds Tryz.pinned (.plain (OpenSpec.ofChange rootSetsSpec)) rootSetsCard

/-- THE TIED CARD OF 'cofferdamlaw10.RootApart'. -/
def rootApartCard : Claim7 := { stood := { row := rootApartRow, standIns := [], harness := (true, "6b9e7ce7de9a16d9785a7455bb3b5bc5435f0f7736f535da66369f5655d9ce2b"), looks := false }, kinds := [], alts := [], laidByText := true, laidKinds := [.data, .pinned], laidTests := true, laidLooks := .later }
def RootApartCardSaid : Prop := Claim7.holds Tryz.pinned (.plain (OpenSpec.ofChange rootApartSpec)) rootApartCard

/-- THE TIED CARD OF 'cofferdamlaw10.RootGets'. -/
def rootGetsCard : Claim7 := { stood := { row := rootGetsRow, standIns := [], harness := (true, "6b9e7ce7de9a16d9785a7455bb3b5bc5435f0f7736f535da66369f5655d9ce2b"), looks := false }, kinds := [], alts := [], laidByText := true, laidKinds := [.data, .pinned], laidTests := true, laidLooks := .later }
def RootGetsCardSaid : Prop := Claim7.holds Tryz.pinned (.plain (OpenSpec.ofChange rootGetsSpec)) rootGetsCard

/-- THE TIED CARD OF 'cofferdamlaw10.RootBack'. -/
def rootBackCard : Claim7 := { stood := { row := rootBackRow, standIns := [], harness := (true, "6b9e7ce7de9a16d9785a7455bb3b5bc5435f0f7736f535da66369f5655d9ce2b"), looks := false }, kinds := [], alts := [], laidByText := true, laidKinds := [.data, .pinned], laidTests := true, laidLooks := .later }
def RootBackCardSaid : Prop := Claim7.holds Tryz.pinned (.plain (OpenSpec.ofChange rootBackSpec)) rootBackCard

/-- THE TIED CARD OF 'cofferdamlaw17.BitmClears'. -/
def bitmClearsCard : Claim7 := { stood := { row := bitmClearsRow, standIns := [], harness := (true, "6b9e7ce7de9a16d9785a7455bb3b5bc5435f0f7736f535da66369f5655d9ce2b"), looks := false }, kinds := [], alts := [], laidByText := true, laidKinds := [.data, .pinned], laidTests := true, laidLooks := .later }
def BitmClearsCardSaid : Prop := Claim7.holds Tryz.pinned (.plain (OpenSpec.ofChange bitmClearsSpec)) bitmClearsCard

/-- THE TIED CARD OF 'cofferdamlaw17.BitmDoes'. -/
def bitmDoesCard : Claim7 := { stood := { row := bitmDoesRow, standIns := [], harness := (true, "6b9e7ce7de9a16d9785a7455bb3b5bc5435f0f7736f535da66369f5655d9ce2b"), looks := false }, kinds := [], alts := [], laidByText := true, laidKinds := [.data, .pinned], laidTests := true, laidLooks := .later }
def BitmDoesCardSaid : Prop := Claim7.holds Tryz.pinned (.plain (OpenSpec.ofChange bitmDoesSpec)) bitmDoesCard

/-- THE SECOND FORM's CARD OF 'cofferdamlaw10.RootSets'. -/
def rootSetsUptoCard : Claim7 := { stood := { row := rootSetsUptoRow, standIns := [], harness := (true, "6b9e7ce7de9a16d9785a7455bb3b5bc5435f0f7736f535da66369f5655d9ce2b"), looks := false }, kinds := [], alts := [], laidByText := true, laidKinds := [.data, .pinned], laidTests := true, laidLooks := .later }
def RootSetsUptoCardSaid : Prop := Claim7.holds Tryz.pinned (.plain (OpenSpec.upto rootSetsSpec)) rootSetsUptoCard

/-- THE SECOND FORM's CARD OF 'cofferdamlaw10.RootApart'. -/
def rootApartUptoCard : Claim7 := { stood := { row := rootApartUptoRow, standIns := [], harness := (true, "6b9e7ce7de9a16d9785a7455bb3b5bc5435f0f7736f535da66369f5655d9ce2b"), looks := false }, kinds := [], alts := [], laidByText := true, laidKinds := [.data, .pinned], laidTests := true, laidLooks := .later }
def RootApartUptoCardSaid : Prop := Claim7.holds Tryz.pinned (.plain (OpenSpec.upto rootApartSpec)) rootApartUptoCard

/-- THE SECOND FORM's CARD OF 'cofferdamlaw10.RootGets'. -/
def rootGetsUptoCard : Claim7 := { stood := { row := rootGetsUptoRow, standIns := [], harness := (true, "6b9e7ce7de9a16d9785a7455bb3b5bc5435f0f7736f535da66369f5655d9ce2b"), looks := false }, kinds := [], alts := [], laidByText := true, laidKinds := [.data, .pinned], laidTests := true, laidLooks := .later }
def RootGetsUptoCardSaid : Prop := Claim7.holds Tryz.pinned (.plain (OpenSpec.upto rootGetsSpec)) rootGetsUptoCard

/-- THE SECOND FORM's CARD OF 'cofferdamlaw10.RootBack'. -/
def rootBackUptoCard : Claim7 := { stood := { row := rootBackUptoRow, standIns := [], harness := (true, "6b9e7ce7de9a16d9785a7455bb3b5bc5435f0f7736f535da66369f5655d9ce2b"), looks := false }, kinds := [], alts := [], laidByText := true, laidKinds := [.data, .pinned], laidTests := true, laidLooks := .later }
def RootBackUptoCardSaid : Prop := Claim7.holds Tryz.pinned (.plain (OpenSpec.upto rootBackSpec)) rootBackUptoCard

/-- THE SECOND FORM's CARD OF 'cofferdamlaw17.BitmClears'. -/
def bitmClearsUptoCard : Claim7 := { stood := { row := bitmClearsUptoRow, standIns := [], harness := (true, "6b9e7ce7de9a16d9785a7455bb3b5bc5435f0f7736f535da66369f5655d9ce2b"), looks := false }, kinds := [], alts := [], laidByText := true, laidKinds := [.data, .pinned], laidTests := true, laidLooks := .later }
def BitmClearsUptoCardSaid : Prop := Claim7.holds Tryz.pinned (.plain (OpenSpec.upto bitmClearsSpec)) bitmClearsUptoCard

/-- THE SECOND FORM's CARD OF 'cofferdamlaw17.BitmDoes'. -/
def bitmDoesUptoCard : Claim7 := { stood := { row := bitmDoesUptoRow, standIns := [], harness := (true, "6b9e7ce7de9a16d9785a7455bb3b5bc5435f0f7736f535da66369f5655d9ce2b"), looks := false }, kinds := [], alts := [], laidByText := true, laidKinds := [.data, .pinned], laidTests := true, laidLooks := .later }
def BitmDoesUptoCardSaid : Prop := Claim7.holds Tryz.pinned (.plain (OpenSpec.upto bitmDoesSpec)) bitmDoesUptoCard
end Rows
end Go.Proofs.YtjhnaeomaigimaaGreatDoor
