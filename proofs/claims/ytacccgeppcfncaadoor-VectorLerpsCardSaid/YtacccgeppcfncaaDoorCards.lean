/-
  DERIVED. GIVEN WITH THE SEED: THE CARDS: each row of YtacccgeppcfncaaDoorRows.lean that lists a variable, with what it lists TIED to the program's text (the seventh form; the later family's looks); each row that meets fmt, with fmt's text TOLD by the authors' own Lean function (tested against real Go, not proved from fmt's source: count such statements apart). THE CARD IS WHAT COUNTS. Prove the row's statement (the work); the ties are given (YtacccgeppcfncaaDoorTie.lean); close each card by the builder's one call (the guide's Derived/Test/ToyasCard.lean, 'card_holds'). Laid BY PROGRAM, IN A SANDBOX (cutbox-door.mjs). By AI agents, Wed Nov 11 2026. No macro, syntax, notation, axiom, sorry.
-/
import Derived.Test.YtacccgeppcfncaaDoorRows
import GoSem.ClaimSeven
namespace Go.Proofs.YtacccgeppcfncaaDoor
namespace Rows

/-- THE TIED CARD OF 'roboticslaw24.VectorTexts'. -/
def vectorTextsCard : Claim7 := { stood := { row := vectorTextsRow, standIns := [], harness := (true, "799857d986c6758d22590aa61c77d151ec64231f21d31eeb9bcfc3f71570f231"), looks := false }, kinds := [], alts := [], laidByText := true, laidKinds := [.data, .pinned], laidTests := true, laidLooks := .later }
def VectorTextsCardSaid : Prop := Claim7.holds Tryd.pinned (.plain (OpenSpec.ofChange vectorTextsSpec)) vectorTextsCard

/-- THE TIED CARD OF 'roboticslaw24.VectorProducts'. -/
def vectorProductsCard : Claim7 := { stood := { row := vectorProductsRow, standIns := [], harness := (true, "799857d986c6758d22590aa61c77d151ec64231f21d31eeb9bcfc3f71570f231"), looks := false }, kinds := [], alts := [], laidByText := true, laidKinds := [.data, .pinned], laidTests := true, laidLooks := .later }
def VectorProductsCardSaid : Prop := Claim7.holds Tryd.pinned (.plain (OpenSpec.ofChange vectorProductsSpec)) vectorProductsCard

/-- THE TIED CARD OF 'roboticslaw24.VectorSpace'. -/
def vectorSpaceCard : Claim7 := { stood := { row := vectorSpaceRow, standIns := [], harness := (true, "799857d986c6758d22590aa61c77d151ec64231f21d31eeb9bcfc3f71570f231"), looks := false }, kinds := [], alts := [], laidByText := true, laidKinds := [.data, .pinned], laidTests := true, laidLooks := .later }
def VectorSpaceCardSaid : Prop := Claim7.holds Tryd.pinned (.plain (OpenSpec.ofChange vectorSpaceSpec)) vectorSpaceCard

/-- THE TIED CARD OF 'roboticslaw24.VectorLinear'. -/
def vectorLinearCard : Claim7 := { stood := { row := vectorLinearRow, standIns := [], harness := (true, "799857d986c6758d22590aa61c77d151ec64231f21d31eeb9bcfc3f71570f231"), looks := false }, kinds := [], alts := [], laidByText := true, laidKinds := [.data, .pinned], laidTests := true, laidLooks := .later }
def VectorLinearCardSaid : Prop := Claim7.holds Tryd.pinned (.plain (OpenSpec.ofChange vectorLinearSpec)) vectorLinearCard

/-- THE TIED CARD OF 'roboticslaw24.VectorLerps'. -/
def vectorLerpsCard : Claim7 := { stood := { row := vectorLerpsRow, standIns := [], harness := (true, "799857d986c6758d22590aa61c77d151ec64231f21d31eeb9bcfc3f71570f231"), looks := false }, kinds := [], alts := [], laidByText := true, laidKinds := [.data, .pinned], laidTests := true, laidLooks := .later }
def VectorLerpsCardSaid : Prop := Claim7.holds Tryd.pinned (.plain (OpenSpec.ofChange vectorLerpsSpec)) vectorLerpsCard

/-- THE SECOND FORM's CARD OF 'roboticslaw24.VectorTexts'. -/
def vectorTextsUptoCard : Claim7 := { stood := { row := vectorTextsUptoRow, standIns := [], harness := (true, "799857d986c6758d22590aa61c77d151ec64231f21d31eeb9bcfc3f71570f231"), looks := false }, kinds := [], alts := [], laidByText := true, laidKinds := [.data, .pinned], laidTests := true, laidLooks := .later }
def VectorTextsUptoCardSaid : Prop := Claim7.holds Tryd.pinned (.plain (OpenSpec.upto vectorTextsSpec)) vectorTextsUptoCard

/-- THE SECOND FORM's CARD OF 'roboticslaw24.VectorProducts'. -/
def vectorProductsUptoCard : Claim7 := { stood := { row := vectorProductsUptoRow, standIns := [], harness := (true, "799857d986c6758d22590aa61c77d151ec64231f21d31eeb9bcfc3f71570f231"), looks := false }, kinds := [], alts := [], laidByText := true, laidKinds := [.data, .pinned], laidTests := true, laidLooks := .later }
def VectorProductsUptoCardSaid : Prop := Claim7.holds Tryd.pinned (.plain (OpenSpec.upto vectorProductsSpec)) vectorProductsUptoCard

/-- THE SECOND FORM's CARD OF 'roboticslaw24.VectorSpace'. -/
def vectorSpaceUptoCard : Claim7 := { stood := { row := vectorSpaceUptoRow, standIns := [], harness := (true, "799857d986c6758d22590aa61c77d151ec64231f21d31eeb9bcfc3f71570f231"), looks := false }, kinds := [], alts := [], laidByText := true, laidKinds := [.data, .pinned], laidTests := true, laidLooks := .later }
def VectorSpaceUptoCardSaid : Prop := Claim7.holds Tryd.pinned (.plain (OpenSpec.upto vectorSpaceSpec)) vectorSpaceUptoCard

/-- THE SECOND FORM's CARD OF 'roboticslaw24.VectorLinear'. -/
def vectorLinearUptoCard : Claim7 := { stood := { row := vectorLinearUptoRow, standIns := [], harness := (true, "799857d986c6758d22590aa61c77d151ec64231f21d31eeb9bcfc3f71570f231"), looks := false }, kinds := [], alts := [], laidByText := true, laidKinds := [.data, .pinned], laidTests := true, laidLooks := .later }
def VectorLinearUptoCardSaid : Prop := Claim7.holds Tryd.pinned (.plain (OpenSpec.upto vectorLinearSpec)) vectorLinearUptoCard

/-- THE SECOND FORM's CARD OF 'roboticslaw24.VectorLerps'. -/
def vectorLerpsUptoCard : Claim7 := { stood := { row := vectorLerpsUptoRow, standIns := [], harness := (true, "799857d986c6758d22590aa61c77d151ec64231f21d31eeb9bcfc3f71570f231"), looks := false }, kinds := [], alts := [], laidByText := true, laidKinds := [.data, .pinned], laidTests := true, laidLooks := .later }
def VectorLerpsUptoCardSaid : Prop := Claim7.holds Tryd.pinned (.plain (OpenSpec.upto vectorLerpsSpec)) vectorLerpsUptoCard
end Rows
end Go.Proofs.YtacccgeppcfncaaDoor
