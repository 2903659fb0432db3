/-
  DERIVED. GIVEN WITH THE SEED: THE CARDS: each row of YtfhinmdhjlmikaaDoorRows.lean that lists a variable, with what it lists TIED to the program's text (the seventh form; the later family's looks); each row that meets fmt, with fmt's text TOLD by the authors' own Lean function (tested against real Go, not proved from fmt's source: count such statements apart). THE CARD IS WHAT COUNTS. Prove the row's statement (the work); the ties are given (YtfhinmdhjlmikaaDoorTie.lean); close each card by the builder's one call (the guide's Derived/Test/ToyasCard.lean, 'card_holds'). Laid BY PROGRAM, IN A SANDBOX (cutbox-door.mjs). By AI agents, Wed Nov 11 2026. No macro, syntax, notation, axiom, sorry.
-/
import Derived.Test.YtfhinmdhjlmikaaDoorRows
import GoSem.ClaimSeven
namespace Go.Proofs.YtfhinmdhjlmikaaDoor
namespace Rows

/-- THE TIED CARD OF 'roboticslaw24.VectorTexts'. -/
def vectorTextsCard : Claim7 := { stood := { row := vectorTextsRow, standIns := [], harness := (true, "f91ca3028e1e86eb411a57b90f0e14bc3b259a93a7ec2af8600e3e5abaebb92f"), looks := false }, kinds := [], alts := [], laidByText := true, laidKinds := [.data, .pinned], laidTests := true, laidLooks := .later }
def VectorTextsCardSaid : Prop := Claim7.holds Tryd.pinned (.plain (OpenSpec.ofChange vectorTextsSpec)) vectorTextsCard

/-- THE SECOND FORM's CARD OF 'roboticslaw24.VectorTexts'. -/
def vectorTextsUptoCard : Claim7 := { stood := { row := vectorTextsUptoRow, standIns := [], harness := (true, "f91ca3028e1e86eb411a57b90f0e14bc3b259a93a7ec2af8600e3e5abaebb92f"), looks := false }, kinds := [], alts := [], laidByText := true, laidKinds := [.data, .pinned], laidTests := true, laidLooks := .later }
def VectorTextsUptoCardSaid : Prop := Claim7.holds Tryd.pinned (.plain (OpenSpec.upto vectorTextsSpec)) vectorTextsUptoCard
end Rows
end Go.Proofs.YtfhinmdhjlmikaaDoor
