/-
  DERIVED. GIVEN WITH THE SEED: THE CARDS: each row of YtmhchkhinjiebaaDoorRows.lean that lists a variable, with what it lists TIED to the program's text (the seventh form; the later family's looks); each row that meets fmt, with fmt's text TOLD by the authors' own Lean function (tested against real Go, not proved from fmt's source: count such statements apart). THE CARD IS WHAT COUNTS. Prove the row's statement (the work); the ties are given (YtmhchkhinjiebaaDoorTie.lean); close each card by the builder's one call (the guide's Derived/Test/ToyasCard.lean, 'card_holds'). Laid BY PROGRAM, IN A SANDBOX (cutbox-door.mjs). By AI agents, Wed Nov 11 2026. No macro, syntax, notation, axiom, sorry.
-/
import Derived.Test.YtmhchkhinjiebaaDoorRows
import GoSem.ClaimSeven
namespace Go.Proofs.YtmhchkhinjiebaaDoor
namespace Rows

/-- THE TIED CARD OF 'solsticelaw01.CivilTells'. -/
def civilTellsCard : Claim7 := { stood := { row := civilTellsRow, standIns := [], harness := (true, "b2f615262ffd07ff1a66e762db29b78a665bc09412b3cf93cf5fcb7daa407938"), looks := false }, kinds := [], alts := [], laidByText := true, laidKinds := [.data], laidTests := true, laidLooks := .later }
def CivilTellsCardSaid : Prop := Claim7.holds Tryd.pinned (.plain (OpenSpec.ofChange civilTellsSpec)) civilTellsCard

/-- THE TIED CARD OF 'solsticelaw01.CivilBack'. -/
def civilBackCard : Claim7 := { stood := { row := civilBackRow, standIns := [], harness := (true, "b2f615262ffd07ff1a66e762db29b78a665bc09412b3cf93cf5fcb7daa407938"), looks := false }, kinds := [], alts := [], laidByText := true, laidKinds := [.data], laidTests := true, laidLooks := .later }
def CivilBackCardSaid : Prop := Claim7.holds Tryd.pinned (.plain (OpenSpec.ofChange civilBackSpec)) civilBackCard

/-- THE TIED CARD OF 'solsticelaw01.CivilYears'. -/
def civilYearsCard : Claim7 := { stood := { row := civilYearsRow, standIns := [], harness := (true, "b2f615262ffd07ff1a66e762db29b78a665bc09412b3cf93cf5fcb7daa407938"), looks := false }, kinds := [], alts := [], laidByText := true, laidKinds := [.data], laidTests := true, laidLooks := .later }
def CivilYearsCardSaid : Prop := Claim7.holds Tryd.pinned (.plain (OpenSpec.ofChange civilYearsSpec)) civilYearsCard

/-- THE SECOND FORM's CARD OF 'solsticelaw01.CivilTells'. -/
def civilTellsUptoCard : Claim7 := { stood := { row := civilTellsUptoRow, standIns := [], harness := (true, "b2f615262ffd07ff1a66e762db29b78a665bc09412b3cf93cf5fcb7daa407938"), looks := false }, kinds := [], alts := [], laidByText := true, laidKinds := [.data], laidTests := true, laidLooks := .later }
def CivilTellsUptoCardSaid : Prop := Claim7.holds Tryd.pinned (.plain (OpenSpec.upto civilTellsSpec)) civilTellsUptoCard

/-- THE SECOND FORM's CARD OF 'solsticelaw01.CivilBack'. -/
def civilBackUptoCard : Claim7 := { stood := { row := civilBackUptoRow, standIns := [], harness := (true, "b2f615262ffd07ff1a66e762db29b78a665bc09412b3cf93cf5fcb7daa407938"), looks := false }, kinds := [], alts := [], laidByText := true, laidKinds := [.data], laidTests := true, laidLooks := .later }
def CivilBackUptoCardSaid : Prop := Claim7.holds Tryd.pinned (.plain (OpenSpec.upto civilBackSpec)) civilBackUptoCard

/-- THE SECOND FORM's CARD OF 'solsticelaw01.CivilYears'. -/
def civilYearsUptoCard : Claim7 := { stood := { row := civilYearsUptoRow, standIns := [], harness := (true, "b2f615262ffd07ff1a66e762db29b78a665bc09412b3cf93cf5fcb7daa407938"), looks := false }, kinds := [], alts := [], laidByText := true, laidKinds := [.data], laidTests := true, laidLooks := .later }
def CivilYearsUptoCardSaid : Prop := Claim7.holds Tryd.pinned (.plain (OpenSpec.upto civilYearsSpec)) civilYearsUptoCard
end Rows
end Go.Proofs.YtmhchkhinjiebaaDoor
