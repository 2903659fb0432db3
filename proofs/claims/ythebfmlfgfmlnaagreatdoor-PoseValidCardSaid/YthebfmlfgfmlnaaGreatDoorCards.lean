/-
  DERIVED. GIVEN WITH THE SEED: THE CARDS: each row of YthebfmlfgfmlnaaGreatDoorRows.lean that lists a variable, with what it lists TIED to the program's text (the seventh form; the later family's looks); each row that meets fmt, with fmt's text TOLD by the authors' own Lean function (tested against real Go, not proved from fmt's source: count such statements apart). THE CARD IS WHAT COUNTS. Prove the row's statement (the work); the ties are given (YthebfmlfgfmlnaaGreatDoorTie.lean); close each card by the builder's one call (the guide's Derived/Test/ToyasCard.lean, 'card_holds'). Laid BY PROGRAM, IN A SANDBOX (cutbox-door.mjs). By AI agents, Wed Nov 11 2026. No macro, syntax, notation, axiom, sorry.
-/
import Derived.Test.YthebfmlfgfmlnaaGreatDoorRows
import GoSem.ClaimSeven
namespace Go.Proofs.YthebfmlfgfmlnaaGreatDoor
namespace Rows

/-- THE TIED CARD OF 'roboticslaw26.PoseValid'. -/
def poseValidCard : Claim7 := { stood := { row := poseValidRow, standIns := [], harness := (true, "51e41ef4474dfba00ffe8f07f93b43c130637c6b4feb89c0f4a6643888cab12d"), looks := false }, kinds := [], alts := [], laidByText := true, laidKinds := [.data, .pinned], laidTests := true, laidLooks := .later }
def PoseValidCardSaid : Prop := Claim7.holds Tryz.pinned (.plain (OpenSpec.ofChange poseValidSpec)) poseValidCard

/-- THE TIED CARD OF 'roboticslaw26.PoseRoundTrip'. -/
def poseRoundTripCard : Claim7 := { stood := { row := poseRoundTripRow, standIns := [], harness := (true, "51e41ef4474dfba00ffe8f07f93b43c130637c6b4feb89c0f4a6643888cab12d"), looks := false }, kinds := [], alts := [], laidByText := true, laidKinds := [.data, .pinned], laidTests := true, laidLooks := .later }
def PoseRoundTripCardSaid : Prop := Claim7.holds Tryz.pinned (.plain (OpenSpec.ofChange poseRoundTripSpec)) poseRoundTripCard

/-- THE TIED CARD OF 'roboticslaw26.PoseDecodes'. -/
def poseDecodesCard : Claim7 := { stood := { row := poseDecodesRow, standIns := [], harness := (true, "51e41ef4474dfba00ffe8f07f93b43c130637c6b4feb89c0f4a6643888cab12d"), looks := false }, kinds := [], alts := [], laidByText := true, laidKinds := [.data, .pinned], laidTests := true, laidLooks := .later }
def PoseDecodesCardSaid : Prop := Claim7.holds Tryz.pinned (.plain (OpenSpec.ofChange poseDecodesSpec)) poseDecodesCard

/-- THE TIED CARD OF 'roboticslaw26.PoseRigid'. -/
def poseRigidCard : Claim7 := { stood := { row := poseRigidRow, standIns := [], harness := (true, "51e41ef4474dfba00ffe8f07f93b43c130637c6b4feb89c0f4a6643888cab12d"), looks := false }, kinds := [], alts := [], laidByText := true, laidKinds := [.data, .pinned], laidTests := true, laidLooks := .later }
def PoseRigidCardSaid : Prop := Claim7.holds Tryz.pinned (.plain (OpenSpec.ofChange poseRigidSpec)) poseRigidCard

/-- THE TIED CARD OF 'roboticslaw26.PoseGroup'. -/
def poseGroupCard : Claim7 := { stood := { row := poseGroupRow, standIns := [], harness := (true, "51e41ef4474dfba00ffe8f07f93b43c130637c6b4feb89c0f4a6643888cab12d"), looks := false }, kinds := [], alts := [], laidByText := true, laidKinds := [.data, .pinned], laidTests := true, laidLooks := .later }
def PoseGroupCardSaid : Prop := Claim7.holds Tryz.pinned (.plain (OpenSpec.ofChange poseGroupSpec)) poseGroupCard

/-- THE TIED CARD OF 'roboticslaw26.PoseTells'. -/
def poseTellsCard : Claim7 := { stood := { row := poseTellsRow, standIns := [], harness := (true, "51e41ef4474dfba00ffe8f07f93b43c130637c6b4feb89c0f4a6643888cab12d"), looks := false }, kinds := [], alts := [], laidByText := true, laidKinds := [.data, .pinned], laidTests := true, laidLooks := .later }
def PoseTellsCardSaid : Prop := Claim7.holds Tryz.pinned (.plain (OpenSpec.ofChange poseTellsSpec)) poseTellsCard

/-- THE TIED CARD OF 'roboticslaw26.PoseBetween'. -/
def poseBetweenCard : Claim7 := { stood := { row := poseBetweenRow, standIns := [], harness := (true, "51e41ef4474dfba00ffe8f07f93b43c130637c6b4feb89c0f4a6643888cab12d"), looks := false }, kinds := [], alts := [], laidByText := true, laidKinds := [.data, .pinned], laidTests := true, laidLooks := .later }
def PoseBetweenCardSaid : Prop := Claim7.holds Tryz.pinned (.plain (OpenSpec.ofChange poseBetweenSpec)) poseBetweenCard

/-- THE SECOND FORM's CARD OF 'roboticslaw26.PoseValid'. -/
def poseValidUptoCard : Claim7 := { stood := { row := poseValidUptoRow, standIns := [], harness := (true, "51e41ef4474dfba00ffe8f07f93b43c130637c6b4feb89c0f4a6643888cab12d"), looks := false }, kinds := [], alts := [], laidByText := true, laidKinds := [.data, .pinned], laidTests := true, laidLooks := .later }
def PoseValidUptoCardSaid : Prop := Claim7.holds Tryz.pinned (.plain (OpenSpec.upto poseValidSpec)) poseValidUptoCard

/-- THE SECOND FORM's CARD OF 'roboticslaw26.PoseRoundTrip'. -/
def poseRoundTripUptoCard : Claim7 := { stood := { row := poseRoundTripUptoRow, standIns := [], harness := (true, "51e41ef4474dfba00ffe8f07f93b43c130637c6b4feb89c0f4a6643888cab12d"), looks := false }, kinds := [], alts := [], laidByText := true, laidKinds := [.data, .pinned], laidTests := true, laidLooks := .later }
def PoseRoundTripUptoCardSaid : Prop := Claim7.holds Tryz.pinned (.plain (OpenSpec.upto poseRoundTripSpec)) poseRoundTripUptoCard

/-- THE SECOND FORM's CARD OF 'roboticslaw26.PoseDecodes'. -/
def poseDecodesUptoCard : Claim7 := { stood := { row := poseDecodesUptoRow, standIns := [], harness := (true, "51e41ef4474dfba00ffe8f07f93b43c130637c6b4feb89c0f4a6643888cab12d"), looks := false }, kinds := [], alts := [], laidByText := true, laidKinds := [.data, .pinned], laidTests := true, laidLooks := .later }
def PoseDecodesUptoCardSaid : Prop := Claim7.holds Tryz.pinned (.plain (OpenSpec.upto poseDecodesSpec)) poseDecodesUptoCard

/-- THE SECOND FORM's CARD OF 'roboticslaw26.PoseRigid'. -/
def poseRigidUptoCard : Claim7 := { stood := { row := poseRigidUptoRow, standIns := [], harness := (true, "51e41ef4474dfba00ffe8f07f93b43c130637c6b4feb89c0f4a6643888cab12d"), looks := false }, kinds := [], alts := [], laidByText := true, laidKinds := [.data, .pinned], laidTests := true, laidLooks := .later }
def PoseRigidUptoCardSaid : Prop := Claim7.holds Tryz.pinned (.plain (OpenSpec.upto poseRigidSpec)) poseRigidUptoCard

/-- THE SECOND FORM's CARD OF 'roboticslaw26.PoseGroup'. -/
def poseGroupUptoCard : Claim7 := { stood := { row := poseGroupUptoRow, standIns := [], harness := (true, "51e41ef4474dfba00ffe8f07f93b43c130637c6b4feb89c0f4a6643888cab12d"), looks := false }, kinds := [], alts := [], laidByText := true, laidKinds := [.data, .pinned], laidTests := true, laidLooks := .later }
def PoseGroupUptoCardSaid : Prop := Claim7.holds Tryz.pinned (.plain (OpenSpec.upto poseGroupSpec)) poseGroupUptoCard

/-- THE SECOND FORM's CARD OF 'roboticslaw26.PoseTells'. -/
def poseTellsUptoCard : Claim7 := { stood := { row := poseTellsUptoRow, standIns := [], harness := (true, "51e41ef4474dfba00ffe8f07f93b43c130637c6b4feb89c0f4a6643888cab12d"), looks := false }, kinds := [], alts := [], laidByText := true, laidKinds := [.data, .pinned], laidTests := true, laidLooks := .later }
def PoseTellsUptoCardSaid : Prop := Claim7.holds Tryz.pinned (.plain (OpenSpec.upto poseTellsSpec)) poseTellsUptoCard

/-- THE SECOND FORM's CARD OF 'roboticslaw26.PoseBetween'. -/
def poseBetweenUptoCard : Claim7 := { stood := { row := poseBetweenUptoRow, standIns := [], harness := (true, "51e41ef4474dfba00ffe8f07f93b43c130637c6b4feb89c0f4a6643888cab12d"), looks := false }, kinds := [], alts := [], laidByText := true, laidKinds := [.data, .pinned], laidTests := true, laidLooks := .later }
def PoseBetweenUptoCardSaid : Prop := Claim7.holds Tryz.pinned (.plain (OpenSpec.upto poseBetweenSpec)) poseBetweenUptoCard
end Rows
end Go.Proofs.YthebfmlfgfmlnaaGreatDoor
