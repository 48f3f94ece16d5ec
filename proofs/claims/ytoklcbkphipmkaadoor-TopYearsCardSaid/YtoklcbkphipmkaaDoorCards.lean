/-
  DERIVED. GIVEN WITH THE SEED: THE CARDS: each row of YtoklcbkphipmkaaDoorRows.lean that lists a variable, with what it lists TIED to the program's text (the seventh form; the later family's looks); each row that meets fmt, with fmt's text TOLD by the authors' own Lean function (tested against real Go, not proved from fmt's source: count such statements apart). THE CARD IS WHAT COUNTS. Prove the row's statement (the work); the ties are given (YtoklcbkphipmkaaDoorTie.lean); close each card by the builder's one call (the guide's Derived/Test/ToyasCard.lean, 'card_holds'). Laid BY PROGRAM, IN A SANDBOX (cutbox-door.mjs). By AI agents, Wed Nov 11 2026. No macro, syntax, notation, axiom, sorry.
-/
import Derived.Test.YtoklcbkphipmkaaDoorRows
import GoSem.ClaimSeven
namespace Go.Proofs.YtoklcbkphipmkaaDoor
namespace Rows

/-- THE TIED CARD OF 'solsticetop.TopSaved'. -/
def topSavedCard : Claim7 := { stood := { row := topSavedRow, standIns := [], harness := (true, "41dd781224047eb72b2f0b49af8cb3fdfa0b71406e9628e8a775483d910b35b6"), looks := false }, kinds := [], alts := [], laidByText := true, laidKinds := [.data], laidTests := true, laidLooks := .later }
def TopSavedCardSaid : Prop := Claim7.holds Tryd.pinned (.plain (OpenSpec.ofChange topSavedSpec)) topSavedCard

/-- THE TIED CARD OF 'solsticetop.TopYears'. -/
def topYearsCard : Claim7 := { stood := { row := topYearsRow, standIns := [], harness := (true, "41dd781224047eb72b2f0b49af8cb3fdfa0b71406e9628e8a775483d910b35b6"), looks := false }, kinds := [], alts := [], laidByText := true, laidKinds := [.data], laidTests := true, laidLooks := .later }
def TopYearsCardSaid : Prop := Claim7.holds Tryd.pinned (.plain (OpenSpec.ofChange topYearsSpec)) topYearsCard

/-- THE SECOND FORM's CARD OF 'solsticetop.TopSaved'. -/
def topSavedUptoCard : Claim7 := { stood := { row := topSavedUptoRow, standIns := [], harness := (true, "41dd781224047eb72b2f0b49af8cb3fdfa0b71406e9628e8a775483d910b35b6"), looks := false }, kinds := [], alts := [], laidByText := true, laidKinds := [.data], laidTests := true, laidLooks := .later }
def TopSavedUptoCardSaid : Prop := Claim7.holds Tryd.pinned (.plain (OpenSpec.upto topSavedSpec)) topSavedUptoCard

/-- THE SECOND FORM's CARD OF 'solsticetop.TopYears'. -/
def topYearsUptoCard : Claim7 := { stood := { row := topYearsUptoRow, standIns := [], harness := (true, "41dd781224047eb72b2f0b49af8cb3fdfa0b71406e9628e8a775483d910b35b6"), looks := false }, kinds := [], alts := [], laidByText := true, laidKinds := [.data], laidTests := true, laidLooks := .later }
def TopYearsUptoCardSaid : Prop := Claim7.holds Tryd.pinned (.plain (OpenSpec.upto topYearsSpec)) topYearsUptoCard
end Rows
end Go.Proofs.YtoklcbkphipmkaaDoor
