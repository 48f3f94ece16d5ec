/-
  DERIVED. GIVEN WITH THE SEED: THE CARDS: each row of YtgdgkgeoigljcaaDoorRows.lean that lists a variable, with what it lists TIED to the program's text (the seventh form; the later family's looks); each row that meets fmt, with fmt's text TOLD by the authors' own Lean function (tested against real Go, not proved from fmt's source: count such statements apart). THE CARD IS WHAT COUNTS. Prove the row's statement (the work); the ties are given (YtgdgkgeoigljcaaDoorTie.lean); close each card by the builder's one call (the guide's Derived/Test/ToyasCard.lean, 'card_holds'). Laid BY PROGRAM, IN A SANDBOX (cutbox-door.mjs). By AI agents, Wed Nov 11 2026. No macro, syntax, notation, axiom, sorry.
-/
import Derived.Test.YtgdgkgeoigljcaaDoorRows
import GoSem.ClaimSeven
namespace Go.Proofs.YtgdgkgeoigljcaaDoor
namespace Rows

/-- THE TIED CARD OF 'solsticelaw40.FooterTells'. -/
def footerTellsCard : Claim7 := { stood := { row := footerTellsRow, standIns := [], harness := (true, "6e1c7dabad86ae6a9435f303c81587b834471234d9dbb15f2d886f5d58481d57"), looks := false }, kinds := [], alts := [], laidByText := true, laidKinds := [.data, .data, .data, .data], laidTests := true, laidLooks := .later }
def FooterTellsCardSaid : Prop := Claim7.holds Tryd.pinned (.plain (OpenSpec.ofChange footerTellsSpec)) footerTellsCard

/-- THE TIED CARD OF 'solsticelaw40.FooterBack'. -/
def footerBackCard : Claim7 := { stood := { row := footerBackRow, standIns := [], harness := (true, "6e1c7dabad86ae6a9435f303c81587b834471234d9dbb15f2d886f5d58481d57"), looks := false }, kinds := [], alts := [], laidByText := true, laidKinds := [.data, .data, .data, .data], laidTests := true, laidLooks := .later }
def FooterBackCardSaid : Prop := Claim7.holds Tryd.pinned (.plain (OpenSpec.ofChange footerBackSpec)) footerBackCard

/-- THE SECOND FORM's CARD OF 'solsticelaw40.FooterTells'. -/
def footerTellsUptoCard : Claim7 := { stood := { row := footerTellsUptoRow, standIns := [], harness := (true, "6e1c7dabad86ae6a9435f303c81587b834471234d9dbb15f2d886f5d58481d57"), looks := false }, kinds := [], alts := [], laidByText := true, laidKinds := [.data, .data, .data, .data], laidTests := true, laidLooks := .later }
def FooterTellsUptoCardSaid : Prop := Claim7.holds Tryd.pinned (.plain (OpenSpec.upto footerTellsSpec)) footerTellsUptoCard

/-- THE SECOND FORM's CARD OF 'solsticelaw40.FooterBack'. -/
def footerBackUptoCard : Claim7 := { stood := { row := footerBackUptoRow, standIns := [], harness := (true, "6e1c7dabad86ae6a9435f303c81587b834471234d9dbb15f2d886f5d58481d57"), looks := false }, kinds := [], alts := [], laidByText := true, laidKinds := [.data, .data, .data, .data], laidTests := true, laidLooks := .later }
def FooterBackUptoCardSaid : Prop := Claim7.holds Tryd.pinned (.plain (OpenSpec.upto footerBackSpec)) footerBackUptoCard
end Rows
end Go.Proofs.YtgdgkgeoigljcaaDoor
