/-
  DERIVED. GIVEN WITH THE SEED: THE CARDS: each row of YtfhinmdhjlmikaaGreatDoorRows.lean that lists a variable, with what it lists TIED to the program's text (the seventh form; the later family's looks); each row that meets fmt, with fmt's text TOLD by the authors' own Lean function (tested against real Go, not proved from fmt's source: count such statements apart). THE CARD IS WHAT COUNTS. Prove the row's statement (the work); the ties are given (YtfhinmdhjlmikaaGreatDoorTie.lean); close each card by the builder's one call (the guide's Derived/Test/ToyasCard.lean, 'card_holds'). Laid BY PROGRAM, IN A SANDBOX (cutbox-door.mjs). By AI agents, Wed Nov 11 2026. No macro, syntax, notation, axiom, sorry.
-/
import Derived.Test.YtfhinmdhjlmikaaGreatDoorRows
import GoSem.ClaimSeven
namespace Go.Proofs.YtfhinmdhjlmikaaGreatDoor
namespace Rows

/-- THE TIED CARD OF 'roboticslaw24.VectorComputes'. -/
def vectorComputesCard : Claim7 := { stood := { row := vectorComputesRow, standIns := [], harness := (true, "8ef2009b9ecce344a62e964bd1361232fa006b907e271f22afc29785c0fbeb58"), looks := false }, kinds := [], alts := [], laidByText := true, laidKinds := [.data, .pinned], laidTests := true, laidLooks := .later }
def VectorComputesCardSaid : Prop := Claim7.holds Tryz.pinned (.plain (OpenSpec.ofChange vectorComputesSpec)) vectorComputesCard

/-- THE SECOND FORM's CARD OF 'roboticslaw24.VectorComputes'. -/
def vectorComputesUptoCard : Claim7 := { stood := { row := vectorComputesUptoRow, standIns := [], harness := (true, "8ef2009b9ecce344a62e964bd1361232fa006b907e271f22afc29785c0fbeb58"), looks := false }, kinds := [], alts := [], laidByText := true, laidKinds := [.data, .pinned], laidTests := true, laidLooks := .later }
def VectorComputesUptoCardSaid : Prop := Claim7.holds Tryz.pinned (.plain (OpenSpec.upto vectorComputesSpec)) vectorComputesUptoCard
end Rows
end Go.Proofs.YtfhinmdhjlmikaaGreatDoor
