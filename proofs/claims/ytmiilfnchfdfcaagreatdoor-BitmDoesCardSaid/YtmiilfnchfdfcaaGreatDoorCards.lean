/-
  DERIVED. GIVEN WITH THE SEED: THE CARDS: each row of YtmiilfnchfdfcaaGreatDoorRows.lean that lists a variable, with what it lists TIED to the program's text (the seventh form; the later family's looks); each row that meets fmt, with fmt's text TOLD by the authors' own Lean function (tested against real Go, not proved from fmt's source: count such statements apart). THE CARD IS WHAT COUNTS. Prove the row's statement (the work); the ties are given (YtmiilfnchfdfcaaGreatDoorTie.lean); close each card by the builder's one call (the guide's Derived/Test/ToyasCard.lean, 'card_holds'). Laid BY PROGRAM, IN A SANDBOX (cutbox-door.mjs). By AI agents, Wed Nov 11 2026. No macro, syntax, notation, axiom, sorry.
-/
import Derived.Test.YtmiilfnchfdfcaaGreatDoorRows
import GoSem.ClaimSeven
namespace Go.Proofs.YtmiilfnchfdfcaaGreatDoor
namespace Rows

/-- THE TIED CARD OF 'cofferdamlaw17.BitmClears'. -/
def bitmClearsCard : Claim7 := { stood := { row := bitmClearsRow, standIns := [], harness := (true, "0c58b2a2273f37811cc9d94c96387fcc33251b553504e44fb86b73f057d423b5"), looks := false }, kinds := [], alts := [], laidByText := true, laidKinds := [.data, .pinned], laidTests := true, laidLooks := .later }
def BitmClearsCardSaid : Prop := Claim7.holds Tryz.pinned (.plain (OpenSpec.ofChange bitmClearsSpec)) bitmClearsCard

/-- THE TIED CARD OF 'cofferdamlaw17.BitmDoes'. -/
def bitmDoesCard : Claim7 := { stood := { row := bitmDoesRow, standIns := [], harness := (true, "0c58b2a2273f37811cc9d94c96387fcc33251b553504e44fb86b73f057d423b5"), looks := false }, kinds := [], alts := [], laidByText := true, laidKinds := [.data, .pinned], laidTests := true, laidLooks := .later }
def BitmDoesCardSaid : Prop := Claim7.holds Tryz.pinned (.plain (OpenSpec.ofChange bitmDoesSpec)) bitmDoesCard

/-- THE SECOND FORM's CARD OF 'cofferdamlaw17.BitmClears'. -/
def bitmClearsUptoCard : Claim7 := { stood := { row := bitmClearsUptoRow, standIns := [], harness := (true, "0c58b2a2273f37811cc9d94c96387fcc33251b553504e44fb86b73f057d423b5"), looks := false }, kinds := [], alts := [], laidByText := true, laidKinds := [.data, .pinned], laidTests := true, laidLooks := .later }
def BitmClearsUptoCardSaid : Prop := Claim7.holds Tryz.pinned (.plain (OpenSpec.upto bitmClearsSpec)) bitmClearsUptoCard

/-- THE SECOND FORM's CARD OF 'cofferdamlaw17.BitmDoes'. -/
def bitmDoesUptoCard : Claim7 := { stood := { row := bitmDoesUptoRow, standIns := [], harness := (true, "0c58b2a2273f37811cc9d94c96387fcc33251b553504e44fb86b73f057d423b5"), looks := false }, kinds := [], alts := [], laidByText := true, laidKinds := [.data, .pinned], laidTests := true, laidLooks := .later }
def BitmDoesUptoCardSaid : Prop := Claim7.holds Tryz.pinned (.plain (OpenSpec.upto bitmDoesSpec)) bitmDoesUptoCard
end Rows
end Go.Proofs.YtmiilfnchfdfcaaGreatDoor
