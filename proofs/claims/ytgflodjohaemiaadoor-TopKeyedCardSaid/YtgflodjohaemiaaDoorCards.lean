/-
  DERIVED. GIVEN WITH THE SEED: THE CARDS: each row of YtgflodjohaemiaaDoorRows.lean that lists a variable, with what it lists TIED to the program's text (the seventh form; the later family's looks); each row that meets fmt, with fmt's text TOLD by the authors' own Lean function (tested against real Go, not proved from fmt's source: count such statements apart). THE CARD IS WHAT COUNTS. Prove the row's statement (the work); the ties are given (YtgflodjohaemiaaDoorTie.lean); close each card by the builder's one call (the guide's Derived/Test/ToyasCard.lean, 'card_holds'). Laid BY PROGRAM, IN A SANDBOX (cutbox-door.mjs). By AI agents, Wed Nov 11 2026. No macro, syntax, notation, axiom, sorry.
-/
import Derived.Test.YtgflodjohaemiaaDoorRows
import GoSem.ClaimSeven
namespace Go.Proofs.YtgflodjohaemiaaDoor
namespace Rows

/-- THE TIED CARD OF 'solsticetop.TopKeyed'. -/
def topKeyedCard : Claim7 := { stood := { row := topKeyedRow, standIns := [], harness := (true, "01db3e094783b252d71bbe2489228aa4b44c78f756164f1904d076a61efedab4"), looks := false }, kinds := [], alts := [], laidByText := true, laidKinds := [.data, .pinned], laidTests := true, laidLooks := .later }
def TopKeyedCardSaid : Prop := Claim7.holds Tryd.pinned (.plain (OpenSpec.ofChange topKeyedSpec)) topKeyedCard

/-- THE SECOND FORM's CARD OF 'solsticetop.TopKeyed'. -/
def topKeyedUptoCard : Claim7 := { stood := { row := topKeyedUptoRow, standIns := [], harness := (true, "01db3e094783b252d71bbe2489228aa4b44c78f756164f1904d076a61efedab4"), looks := false }, kinds := [], alts := [], laidByText := true, laidKinds := [.data, .pinned], laidTests := true, laidLooks := .later }
def TopKeyedUptoCardSaid : Prop := Claim7.holds Tryd.pinned (.plain (OpenSpec.upto topKeyedSpec)) topKeyedUptoCard
end Rows
end Go.Proofs.YtgflodjohaemiaaDoor
