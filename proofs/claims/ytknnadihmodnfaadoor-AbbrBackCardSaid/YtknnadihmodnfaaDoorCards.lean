/-
  DERIVED. GIVEN WITH THE SEED: THE CARDS: each row of YtknnadihmodnfaaDoorRows.lean that lists a variable, with what it lists TIED to the program's text (the seventh form; the later family's looks); each row that meets fmt, with fmt's text TOLD by the authors' own Lean function (tested against real Go, not proved from fmt's source: count such statements apart). THE CARD IS WHAT COUNTS. Prove the row's statement (the work); the ties are given (YtknnadihmodnfaaDoorTie.lean); close each card by the builder's one call (the guide's Derived/Test/ToyasCard.lean, 'card_holds'). Laid BY PROGRAM, IN A SANDBOX (cutbox-door.mjs). By AI agents, Wed Nov 11 2026. No macro, syntax, notation, axiom, sorry.
-/
import Derived.Test.YtknnadihmodnfaaDoorRows
import GoSem.ClaimSeven
namespace Go.Proofs.YtknnadihmodnfaaDoor
namespace Rows

/-- THE TIED CARD OF 'solsticelaw08.AbbrBack'. -/
def abbrBackCard : Claim7 := { stood := { row := abbrBackRow, standIns := [], harness := (true, "6241f344b1b4ed10364ea58ab5d07fe7918edd346acbd5f614204b7d03c6efdf"), looks := false }, kinds := [], alts := [], laidByText := true, laidKinds := [.data], laidTests := true, laidLooks := .later }
def AbbrBackCardSaid : Prop := Claim7.holds Tryd.pinned (.plain (OpenSpec.ofChange abbrBackSpec)) abbrBackCard

/-- THE TIED CARD OF 'solsticetop.TopNamed'. -/
def topNamedCard : Claim7 := { stood := { row := topNamedRow, standIns := [], harness := (true, "6241f344b1b4ed10364ea58ab5d07fe7918edd346acbd5f614204b7d03c6efdf"), looks := false }, kinds := [], alts := [], laidByText := true, laidKinds := [.data], laidTests := true, laidLooks := .later }
def TopNamedCardSaid : Prop := Claim7.holds Tryd.pinned (.plain (OpenSpec.ofChange topNamedSpec)) topNamedCard

/-- THE SECOND FORM's CARD OF 'solsticelaw08.AbbrBack'. -/
def abbrBackUptoCard : Claim7 := { stood := { row := abbrBackUptoRow, standIns := [], harness := (true, "6241f344b1b4ed10364ea58ab5d07fe7918edd346acbd5f614204b7d03c6efdf"), looks := false }, kinds := [], alts := [], laidByText := true, laidKinds := [.data], laidTests := true, laidLooks := .later }
def AbbrBackUptoCardSaid : Prop := Claim7.holds Tryd.pinned (.plain (OpenSpec.upto abbrBackSpec)) abbrBackUptoCard

/-- THE SECOND FORM's CARD OF 'solsticetop.TopNamed'. -/
def topNamedUptoCard : Claim7 := { stood := { row := topNamedUptoRow, standIns := [], harness := (true, "6241f344b1b4ed10364ea58ab5d07fe7918edd346acbd5f614204b7d03c6efdf"), looks := false }, kinds := [], alts := [], laidByText := true, laidKinds := [.data], laidTests := true, laidLooks := .later }
def TopNamedUptoCardSaid : Prop := Claim7.holds Tryd.pinned (.plain (OpenSpec.upto topNamedSpec)) topNamedUptoCard
end Rows
end Go.Proofs.YtknnadihmodnfaaDoor
