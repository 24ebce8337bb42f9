/-
  DERIVED. GIVEN WITH THE SEED: THE CARDS: each row of YtkiokdphjfkocaaDoorRows.lean that lists a variable, with what it lists TIED to the program's text (the seventh form; the later family's looks); each row that meets fmt, with fmt's text TOLD by the authors' own Lean function (tested against real Go, not proved from fmt's source: count such statements apart). THE CARD IS WHAT COUNTS. Prove the row's statement (the work); the ties are given (YtkiokdphjfkocaaDoorTie.lean); close each card by the builder's one call (the guide's Derived/Test/ToyasCard.lean, 'card_holds'). Laid BY PROGRAM, IN A SANDBOX (cutbox-door.mjs). By AI agents, Wed Nov 11 2026. No macro, syntax, notation, axiom, sorry.
-/
import Derived.Test.YtkiokdphjfkocaaDoorRows
import GoSem.ClaimSeven
namespace Go.Proofs.YtkiokdphjfkocaaDoor
namespace Rows

/-- THE TIED CARD OF 'cofferdamlaw04.SuperSizes'. -/
def superSizesCard : Claim7 := { stood := { row := superSizesRow, standIns := [], harness := (true, "b795209f8e7f0a9d5cc7c2730c89a80d3d8e1f435cbe53d2da0227eaffed61d6"), looks := false }, kinds := [], alts := [], laidByText := true, laidKinds := [.data, .pinned], laidTests := true, laidLooks := .later }
def SuperSizesCardSaid : Prop := Claim7.holds Tryd.pinned (.plain (OpenSpec.ofChange superSizesSpec)) superSizesCard

/-- THE TIED CARD OF 'cofferdamlaw04.SuperPlaces'. -/
def superPlacesCard : Claim7 := { stood := { row := superPlacesRow, standIns := [], harness := (true, "b795209f8e7f0a9d5cc7c2730c89a80d3d8e1f435cbe53d2da0227eaffed61d6"), looks := false }, kinds := [], alts := [], laidByText := true, laidKinds := [.data, .pinned], laidTests := true, laidLooks := .later }
def SuperPlacesCardSaid : Prop := Claim7.holds Tryd.pinned (.plain (OpenSpec.ofChange superPlacesSpec)) superPlacesCard

/-- THE TIED CARD OF 'cofferdamlaw04.SuperReads'. -/
def superReadsCard : Claim7 := { stood := { row := superReadsRow, standIns := [], harness := (true, "b795209f8e7f0a9d5cc7c2730c89a80d3d8e1f435cbe53d2da0227eaffed61d6"), looks := false }, kinds := [], alts := [], laidByText := true, laidKinds := [.data, .pinned], laidTests := true, laidLooks := .later }
def SuperReadsCardSaid : Prop := Claim7.holds Tryd.pinned (.plain (OpenSpec.ofChange superReadsSpec)) superReadsCard

/-- THE TIED CARD OF 'cofferdamlaw04.SuperBack'. -/
def superBackCard : Claim7 := { stood := { row := superBackRow, standIns := [], harness := (true, "b795209f8e7f0a9d5cc7c2730c89a80d3d8e1f435cbe53d2da0227eaffed61d6"), looks := false }, kinds := [], alts := [], laidByText := true, laidKinds := [.data, .pinned], laidTests := true, laidLooks := .later }
def SuperBackCardSaid : Prop := Claim7.holds Tryd.pinned (.plain (OpenSpec.ofChange superBackSpec)) superBackCard

/-- THE TIED CARD OF 'cofferdamlaw04.SuperByte'. -/
def superByteCard : Claim7 := { stood := { row := superByteRow, standIns := [], harness := (true, "b795209f8e7f0a9d5cc7c2730c89a80d3d8e1f435cbe53d2da0227eaffed61d6"), looks := false }, kinds := [], alts := [], laidByText := true, laidKinds := [.data, .pinned], laidTests := true, laidLooks := .later }
def SuperByteCardSaid : Prop := Claim7.holds Tryd.pinned (.plain (OpenSpec.ofChange superByteSpec)) superByteCard

/-- THE SECOND FORM's CARD OF 'cofferdamlaw04.SuperSizes'. -/
def superSizesUptoCard : Claim7 := { stood := { row := superSizesUptoRow, standIns := [], harness := (true, "b795209f8e7f0a9d5cc7c2730c89a80d3d8e1f435cbe53d2da0227eaffed61d6"), looks := false }, kinds := [], alts := [], laidByText := true, laidKinds := [.data, .pinned], laidTests := true, laidLooks := .later }
def SuperSizesUptoCardSaid : Prop := Claim7.holds Tryd.pinned (.plain (OpenSpec.upto superSizesSpec)) superSizesUptoCard

/-- THE SECOND FORM's CARD OF 'cofferdamlaw04.SuperPlaces'. -/
def superPlacesUptoCard : Claim7 := { stood := { row := superPlacesUptoRow, standIns := [], harness := (true, "b795209f8e7f0a9d5cc7c2730c89a80d3d8e1f435cbe53d2da0227eaffed61d6"), looks := false }, kinds := [], alts := [], laidByText := true, laidKinds := [.data, .pinned], laidTests := true, laidLooks := .later }
def SuperPlacesUptoCardSaid : Prop := Claim7.holds Tryd.pinned (.plain (OpenSpec.upto superPlacesSpec)) superPlacesUptoCard

/-- THE SECOND FORM's CARD OF 'cofferdamlaw04.SuperReads'. -/
def superReadsUptoCard : Claim7 := { stood := { row := superReadsUptoRow, standIns := [], harness := (true, "b795209f8e7f0a9d5cc7c2730c89a80d3d8e1f435cbe53d2da0227eaffed61d6"), looks := false }, kinds := [], alts := [], laidByText := true, laidKinds := [.data, .pinned], laidTests := true, laidLooks := .later }
def SuperReadsUptoCardSaid : Prop := Claim7.holds Tryd.pinned (.plain (OpenSpec.upto superReadsSpec)) superReadsUptoCard

/-- THE SECOND FORM's CARD OF 'cofferdamlaw04.SuperBack'. -/
def superBackUptoCard : Claim7 := { stood := { row := superBackUptoRow, standIns := [], harness := (true, "b795209f8e7f0a9d5cc7c2730c89a80d3d8e1f435cbe53d2da0227eaffed61d6"), looks := false }, kinds := [], alts := [], laidByText := true, laidKinds := [.data, .pinned], laidTests := true, laidLooks := .later }
def SuperBackUptoCardSaid : Prop := Claim7.holds Tryd.pinned (.plain (OpenSpec.upto superBackSpec)) superBackUptoCard

/-- THE SECOND FORM's CARD OF 'cofferdamlaw04.SuperByte'. -/
def superByteUptoCard : Claim7 := { stood := { row := superByteUptoRow, standIns := [], harness := (true, "b795209f8e7f0a9d5cc7c2730c89a80d3d8e1f435cbe53d2da0227eaffed61d6"), looks := false }, kinds := [], alts := [], laidByText := true, laidKinds := [.data, .pinned], laidTests := true, laidLooks := .later }
def SuperByteUptoCardSaid : Prop := Claim7.holds Tryd.pinned (.plain (OpenSpec.upto superByteSpec)) superByteUptoCard
end Rows
end Go.Proofs.YtkiokdphjfkocaaDoor
