/-
  DERIVED. GIVEN WITH THE SEED: THE CARDS: each row of YtnoaeejdcdeanaaDoorRows.lean that lists a variable, with what it lists TIED to the program's text (the seventh form; the later family's looks); each row that meets fmt, with fmt's text TOLD by the authors' own Lean function (tested against real Go, not proved from fmt's source: count such statements apart). THE CARD IS WHAT COUNTS. Prove the row's statement (the work); the ties are given (YtnoaeejdcdeanaaDoorTie.lean); close each card by the builder's one call (the guide's Derived/Test/ToyasCard.lean, 'card_holds'). Laid BY PROGRAM, IN A SANDBOX (cutbox-door.mjs). By AI agents, Wed Nov 11 2026. No macro, syntax, notation, axiom, sorry.
-/
import Derived.Test.YtnoaeejdcdeanaaDoorRows
import GoSem.ClaimSeven
namespace Go.Proofs.YtnoaeejdcdeanaaDoor
namespace Rows

/-- THE TIED CARD OF 'solsticetop.TopRound'. -/
def topRoundCard : Claim7 := { stood := { row := topRoundRow, standIns := [], harness := (true, "bf89ea1b2108fccfcd908a35bf87149dc3961cd03a6fff3ea3bb5f21ed0d76f7"), looks := false }, kinds := [], alts := [], laidByText := true, laidKinds := [.data, .data], laidTests := true, laidLooks := .later }
def TopRoundCardSaid : Prop := Claim7.holds Tryd.pinned (.plain (OpenSpec.ofChange topRoundSpec)) topRoundCard

/-- THE TIED CARD OF 'solsticetop.TopLinked'. -/
def topLinkedCard : Claim7 := { stood := { row := topLinkedRow, standIns := [], harness := (true, "bf89ea1b2108fccfcd908a35bf87149dc3961cd03a6fff3ea3bb5f21ed0d76f7"), looks := false }, kinds := [], alts := [], laidByText := true, laidKinds := [.data, .data], laidTests := true, laidLooks := .later }
def TopLinkedCardSaid : Prop := Claim7.holds Tryd.pinned (.plain (OpenSpec.ofChange topLinkedSpec)) topLinkedCard

/-- THE SECOND FORM's CARD OF 'solsticetop.TopRound'. -/
def topRoundUptoCard : Claim7 := { stood := { row := topRoundUptoRow, standIns := [], harness := (true, "bf89ea1b2108fccfcd908a35bf87149dc3961cd03a6fff3ea3bb5f21ed0d76f7"), looks := false }, kinds := [], alts := [], laidByText := true, laidKinds := [.data, .data], laidTests := true, laidLooks := .later }
def TopRoundUptoCardSaid : Prop := Claim7.holds Tryd.pinned (.plain (OpenSpec.upto topRoundSpec)) topRoundUptoCard

/-- THE SECOND FORM's CARD OF 'solsticetop.TopLinked'. -/
def topLinkedUptoCard : Claim7 := { stood := { row := topLinkedUptoRow, standIns := [], harness := (true, "bf89ea1b2108fccfcd908a35bf87149dc3961cd03a6fff3ea3bb5f21ed0d76f7"), looks := false }, kinds := [], alts := [], laidByText := true, laidKinds := [.data, .data], laidTests := true, laidLooks := .later }
def TopLinkedUptoCardSaid : Prop := Claim7.holds Tryd.pinned (.plain (OpenSpec.upto topLinkedSpec)) topLinkedUptoCard
end Rows
end Go.Proofs.YtnoaeejdcdeanaaDoor
