/-
  DERIVED. GIVEN WITH THE SEED: THE CARDS: each row of YtefcjccapekjdaaDoorRows.lean that lists a variable, with what it lists TIED to the program's text (the seventh form; the later family's looks); each row that meets fmt, with fmt's text TOLD by the authors' own Lean function (tested against real Go, not proved from fmt's source: count such statements apart). THE CARD IS WHAT COUNTS. Prove the row's statement (the work); the ties are given (YtefcjccapekjdaaDoorTie.lean); close each card by the builder's one call (the guide's Derived/Test/ToyasCard.lean, 'card_holds'). Laid BY PROGRAM, IN A SANDBOX (cutbox-door.mjs). By AI agents, Wed Nov 11 2026. No macro, syntax, notation, axiom, sorry.
-/
import Derived.Test.YtefcjccapekjdaaDoorRows
import GoSem.ClaimSeven
namespace Go.Proofs.YtefcjccapekjdaaDoor
namespace Rows

/-- THE TIED CARD OF 'solsticelaw21.RecordTells'. -/
def recordTellsCard : Claim7 := { stood := { row := recordTellsRow, standIns := [], harness := (true, "ce91e8f8edec63697ab5c8545ed229f3f9f779295861f112078377176dd94141"), looks := false }, kinds := [], alts := [], laidByText := true, laidKinds := [.data], laidTests := true, laidLooks := .later }
def RecordTellsCardSaid : Prop := Claim7.holds Tryd.pinned (.plain (OpenSpec.ofChange recordTellsSpec)) recordTellsCard

/-- THE TIED CARD OF 'solsticelaw24.LocalTells'. -/
def localTellsCard : Claim7 := { stood := { row := localTellsRow, standIns := [], harness := (true, "ce91e8f8edec63697ab5c8545ed229f3f9f779295861f112078377176dd94141"), looks := false }, kinds := [], alts := [], laidByText := true, laidKinds := [.data], laidTests := true, laidLooks := .later }
def LocalTellsCardSaid : Prop := Claim7.holds Tryd.pinned (.plain (OpenSpec.ofChange localTellsSpec)) localTellsCard

/-- THE TIED CARD OF 'solsticelaw24.LocalBack'. -/
def localBackCard : Claim7 := { stood := { row := localBackRow, standIns := [], harness := (true, "ce91e8f8edec63697ab5c8545ed229f3f9f779295861f112078377176dd94141"), looks := false }, kinds := [], alts := [], laidByText := true, laidKinds := [.data], laidTests := true, laidLooks := .later }
def LocalBackCardSaid : Prop := Claim7.holds Tryd.pinned (.plain (OpenSpec.ofChange localBackSpec)) localBackCard

/-- THE TIED CARD OF 'solsticelaw24.LocalGap'. -/
def localGapCard : Claim7 := { stood := { row := localGapRow, standIns := [], harness := (true, "ce91e8f8edec63697ab5c8545ed229f3f9f779295861f112078377176dd94141"), looks := false }, kinds := [], alts := [], laidByText := true, laidKinds := [.data], laidTests := true, laidLooks := .later }
def LocalGapCardSaid : Prop := Claim7.holds Tryd.pinned (.plain (OpenSpec.ofChange localGapSpec)) localGapCard

/-- THE TIED CARD OF 'solsticelaw23.TableTells'. -/
def tableTellsCard : Claim7 := { stood := { row := tableTellsRow, standIns := [], harness := (true, "ce91e8f8edec63697ab5c8545ed229f3f9f779295861f112078377176dd94141"), looks := false }, kinds := [], alts := [], laidByText := true, laidKinds := [.data], laidTests := true, laidLooks := .later }
def TableTellsCardSaid : Prop := Claim7.holds Tryd.pinned (.plain (OpenSpec.ofChange tableTellsSpec)) tableTellsCard

/-- THE TIED CARD OF 'solsticelaw23.TableYear'. -/
def tableYearCard : Claim7 := { stood := { row := tableYearRow, standIns := [], harness := (true, "ce91e8f8edec63697ab5c8545ed229f3f9f779295861f112078377176dd94141"), looks := false }, kinds := [], alts := [], laidByText := true, laidKinds := [.data], laidTests := true, laidLooks := .later }
def TableYearCardSaid : Prop := Claim7.holds Tryd.pinned (.plain (OpenSpec.ofChange tableYearSpec)) tableYearCard

/-- THE TIED CARD OF 'solsticetop.TopHands'. -/
def topHandsCard : Claim7 := { stood := { row := topHandsRow, standIns := [], harness := (true, "ce91e8f8edec63697ab5c8545ed229f3f9f779295861f112078377176dd94141"), looks := false }, kinds := [], alts := [], laidByText := true, laidKinds := [.data], laidTests := true, laidLooks := .later }
def TopHandsCardSaid : Prop := Claim7.holds Tryd.pinned (.plain (OpenSpec.ofChange topHandsSpec)) topHandsCard

/-- THE TIED CARD OF 'solsticetop.TopFour'. -/
def topFourCard : Claim7 := { stood := { row := topFourRow, standIns := [], harness := (true, "ce91e8f8edec63697ab5c8545ed229f3f9f779295861f112078377176dd94141"), looks := false }, kinds := [], alts := [], laidByText := true, laidKinds := [.data], laidTests := true, laidLooks := .later }
def TopFourCardSaid : Prop := Claim7.holds Tryd.pinned (.plain (OpenSpec.ofChange topFourSpec)) topFourCard

/-- THE TIED CARD OF 'solsticelaw28.SqueezeTells'. -/
def squeezeTellsCard : Claim7 := { stood := { row := squeezeTellsRow, standIns := [], harness := (true, "ce91e8f8edec63697ab5c8545ed229f3f9f779295861f112078377176dd94141"), looks := false }, kinds := [], alts := [], laidByText := true, laidKinds := [.data], laidTests := true, laidLooks := .later }
def SqueezeTellsCardSaid : Prop := Claim7.holds Tryd.pinned (.plain (OpenSpec.ofChange squeezeTellsSpec)) squeezeTellsCard

/-- THE TIED CARD OF 'solsticelaw28.SqueezeShort'. -/
def squeezeShortCard : Claim7 := { stood := { row := squeezeShortRow, standIns := [], harness := (true, "ce91e8f8edec63697ab5c8545ed229f3f9f779295861f112078377176dd94141"), looks := false }, kinds := [], alts := [], laidByText := true, laidKinds := [.data], laidTests := true, laidLooks := .later }
def SqueezeShortCardSaid : Prop := Claim7.holds Tryd.pinned (.plain (OpenSpec.ofChange squeezeShortSpec)) squeezeShortCard

/-- THE TIED CARD OF 'solsticelaw26.ShapeTells'. -/
def shapeTellsCard : Claim7 := { stood := { row := shapeTellsRow, standIns := [], harness := (true, "ce91e8f8edec63697ab5c8545ed229f3f9f779295861f112078377176dd94141"), looks := false }, kinds := [], alts := [], laidByText := true, laidKinds := [.data], laidTests := true, laidLooks := .later }
def ShapeTellsCardSaid : Prop := Claim7.holds Tryd.pinned (.plain (OpenSpec.ofChange shapeTellsSpec)) shapeTellsCard

/-- THE TIED CARD OF 'solsticelaw26.ShapeOne'. -/
def shapeOneCard : Claim7 := { stood := { row := shapeOneRow, standIns := [], harness := (true, "ce91e8f8edec63697ab5c8545ed229f3f9f779295861f112078377176dd94141"), looks := false }, kinds := [], alts := [], laidByText := true, laidKinds := [.data], laidTests := true, laidLooks := .later }
def ShapeOneCardSaid : Prop := Claim7.holds Tryd.pinned (.plain (OpenSpec.ofChange shapeOneSpec)) shapeOneCard

/-- THE SECOND FORM's CARD OF 'solsticelaw21.RecordTells'. -/
def recordTellsUptoCard : Claim7 := { stood := { row := recordTellsUptoRow, standIns := [], harness := (true, "ce91e8f8edec63697ab5c8545ed229f3f9f779295861f112078377176dd94141"), looks := false }, kinds := [], alts := [], laidByText := true, laidKinds := [.data], laidTests := true, laidLooks := .later }
def RecordTellsUptoCardSaid : Prop := Claim7.holds Tryd.pinned (.plain (OpenSpec.upto recordTellsSpec)) recordTellsUptoCard

/-- THE SECOND FORM's CARD OF 'solsticelaw24.LocalTells'. -/
def localTellsUptoCard : Claim7 := { stood := { row := localTellsUptoRow, standIns := [], harness := (true, "ce91e8f8edec63697ab5c8545ed229f3f9f779295861f112078377176dd94141"), looks := false }, kinds := [], alts := [], laidByText := true, laidKinds := [.data], laidTests := true, laidLooks := .later }
def LocalTellsUptoCardSaid : Prop := Claim7.holds Tryd.pinned (.plain (OpenSpec.upto localTellsSpec)) localTellsUptoCard

/-- THE SECOND FORM's CARD OF 'solsticelaw24.LocalBack'. -/
def localBackUptoCard : Claim7 := { stood := { row := localBackUptoRow, standIns := [], harness := (true, "ce91e8f8edec63697ab5c8545ed229f3f9f779295861f112078377176dd94141"), looks := false }, kinds := [], alts := [], laidByText := true, laidKinds := [.data], laidTests := true, laidLooks := .later }
def LocalBackUptoCardSaid : Prop := Claim7.holds Tryd.pinned (.plain (OpenSpec.upto localBackSpec)) localBackUptoCard

/-- THE SECOND FORM's CARD OF 'solsticelaw24.LocalGap'. -/
def localGapUptoCard : Claim7 := { stood := { row := localGapUptoRow, standIns := [], harness := (true, "ce91e8f8edec63697ab5c8545ed229f3f9f779295861f112078377176dd94141"), looks := false }, kinds := [], alts := [], laidByText := true, laidKinds := [.data], laidTests := true, laidLooks := .later }
def LocalGapUptoCardSaid : Prop := Claim7.holds Tryd.pinned (.plain (OpenSpec.upto localGapSpec)) localGapUptoCard

/-- THE SECOND FORM's CARD OF 'solsticelaw23.TableTells'. -/
def tableTellsUptoCard : Claim7 := { stood := { row := tableTellsUptoRow, standIns := [], harness := (true, "ce91e8f8edec63697ab5c8545ed229f3f9f779295861f112078377176dd94141"), looks := false }, kinds := [], alts := [], laidByText := true, laidKinds := [.data], laidTests := true, laidLooks := .later }
def TableTellsUptoCardSaid : Prop := Claim7.holds Tryd.pinned (.plain (OpenSpec.upto tableTellsSpec)) tableTellsUptoCard

/-- THE SECOND FORM's CARD OF 'solsticelaw23.TableYear'. -/
def tableYearUptoCard : Claim7 := { stood := { row := tableYearUptoRow, standIns := [], harness := (true, "ce91e8f8edec63697ab5c8545ed229f3f9f779295861f112078377176dd94141"), looks := false }, kinds := [], alts := [], laidByText := true, laidKinds := [.data], laidTests := true, laidLooks := .later }
def TableYearUptoCardSaid : Prop := Claim7.holds Tryd.pinned (.plain (OpenSpec.upto tableYearSpec)) tableYearUptoCard

/-- THE SECOND FORM's CARD OF 'solsticetop.TopHands'. -/
def topHandsUptoCard : Claim7 := { stood := { row := topHandsUptoRow, standIns := [], harness := (true, "ce91e8f8edec63697ab5c8545ed229f3f9f779295861f112078377176dd94141"), looks := false }, kinds := [], alts := [], laidByText := true, laidKinds := [.data], laidTests := true, laidLooks := .later }
def TopHandsUptoCardSaid : Prop := Claim7.holds Tryd.pinned (.plain (OpenSpec.upto topHandsSpec)) topHandsUptoCard

/-- THE SECOND FORM's CARD OF 'solsticetop.TopFour'. -/
def topFourUptoCard : Claim7 := { stood := { row := topFourUptoRow, standIns := [], harness := (true, "ce91e8f8edec63697ab5c8545ed229f3f9f779295861f112078377176dd94141"), looks := false }, kinds := [], alts := [], laidByText := true, laidKinds := [.data], laidTests := true, laidLooks := .later }
def TopFourUptoCardSaid : Prop := Claim7.holds Tryd.pinned (.plain (OpenSpec.upto topFourSpec)) topFourUptoCard

/-- THE SECOND FORM's CARD OF 'solsticelaw28.SqueezeTells'. -/
def squeezeTellsUptoCard : Claim7 := { stood := { row := squeezeTellsUptoRow, standIns := [], harness := (true, "ce91e8f8edec63697ab5c8545ed229f3f9f779295861f112078377176dd94141"), looks := false }, kinds := [], alts := [], laidByText := true, laidKinds := [.data], laidTests := true, laidLooks := .later }
def SqueezeTellsUptoCardSaid : Prop := Claim7.holds Tryd.pinned (.plain (OpenSpec.upto squeezeTellsSpec)) squeezeTellsUptoCard

/-- THE SECOND FORM's CARD OF 'solsticelaw28.SqueezeShort'. -/
def squeezeShortUptoCard : Claim7 := { stood := { row := squeezeShortUptoRow, standIns := [], harness := (true, "ce91e8f8edec63697ab5c8545ed229f3f9f779295861f112078377176dd94141"), looks := false }, kinds := [], alts := [], laidByText := true, laidKinds := [.data], laidTests := true, laidLooks := .later }
def SqueezeShortUptoCardSaid : Prop := Claim7.holds Tryd.pinned (.plain (OpenSpec.upto squeezeShortSpec)) squeezeShortUptoCard

/-- THE SECOND FORM's CARD OF 'solsticelaw26.ShapeTells'. -/
def shapeTellsUptoCard : Claim7 := { stood := { row := shapeTellsUptoRow, standIns := [], harness := (true, "ce91e8f8edec63697ab5c8545ed229f3f9f779295861f112078377176dd94141"), looks := false }, kinds := [], alts := [], laidByText := true, laidKinds := [.data], laidTests := true, laidLooks := .later }
def ShapeTellsUptoCardSaid : Prop := Claim7.holds Tryd.pinned (.plain (OpenSpec.upto shapeTellsSpec)) shapeTellsUptoCard

/-- THE SECOND FORM's CARD OF 'solsticelaw26.ShapeOne'. -/
def shapeOneUptoCard : Claim7 := { stood := { row := shapeOneUptoRow, standIns := [], harness := (true, "ce91e8f8edec63697ab5c8545ed229f3f9f779295861f112078377176dd94141"), looks := false }, kinds := [], alts := [], laidByText := true, laidKinds := [.data], laidTests := true, laidLooks := .later }
def ShapeOneUptoCardSaid : Prop := Claim7.holds Tryd.pinned (.plain (OpenSpec.upto shapeOneSpec)) shapeOneUptoCard
end Rows
end Go.Proofs.YtefcjccapekjdaaDoor
