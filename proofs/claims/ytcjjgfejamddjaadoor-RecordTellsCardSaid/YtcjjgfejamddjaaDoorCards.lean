/-
  DERIVED. GIVEN WITH THE SEED: THE CARDS: each row of YtcjjgfejamddjaaDoorRows.lean that lists a variable, with what it lists TIED to the program's text (the seventh form; the later family's looks); each row that meets fmt, with fmt's text TOLD by the authors' own Lean function (tested against real Go, not proved from fmt's source: count such statements apart). THE CARD IS WHAT COUNTS. Prove the row's statement (the work); the ties are given (YtcjjgfejamddjaaDoorTie.lean); close each card by the builder's one call (the guide's Derived/Test/ToyasCard.lean, 'card_holds'). Laid BY PROGRAM, IN A SANDBOX (cutbox-door.mjs). By AI agents, Wed Nov 11 2026. No macro, syntax, notation, axiom, sorry.
-/
import Derived.Test.YtcjjgfejamddjaaDoorRows
import GoSem.ClaimSeven
namespace Go.Proofs.YtcjjgfejamddjaaDoor
namespace Rows

/-- THE TIED CARD OF 'solsticetop.TopDays'. -/
def topDaysCard : Claim7 := { stood := { row := topDaysRow, standIns := [], harness := (true, "506a69980ca75595648b04930370ffedcb1e905e6acef7f365423e3a1ccd0762"), looks := false }, kinds := [], alts := [], laidByText := true, laidKinds := [.data], laidTests := true, laidLooks := .later }
def TopDaysCardSaid : Prop := Claim7.holds Tryd.pinned (.plain (OpenSpec.ofChange topDaysSpec)) topDaysCard

/-- THE TIED CARD OF 'solsticetop.TopYear'. -/
def topYearCard : Claim7 := { stood := { row := topYearRow, standIns := [], harness := (true, "506a69980ca75595648b04930370ffedcb1e905e6acef7f365423e3a1ccd0762"), looks := false }, kinds := [], alts := [], laidByText := true, laidKinds := [.data], laidTests := true, laidLooks := .later }
def TopYearCardSaid : Prop := Claim7.holds Tryd.pinned (.plain (OpenSpec.ofChange topYearSpec)) topYearCard

/-- THE TIED CARD OF 'solsticelaw20.StampBack'. -/
def stampBackCard : Claim7 := { stood := { row := stampBackRow, standIns := [], harness := (true, "506a69980ca75595648b04930370ffedcb1e905e6acef7f365423e3a1ccd0762"), looks := false }, kinds := [], alts := [], laidByText := true, laidKinds := [.data], laidTests := true, laidLooks := .later }
def StampBackCardSaid : Prop := Claim7.holds Tryd.pinned (.plain (OpenSpec.ofChange stampBackSpec)) stampBackCard

/-- THE TIED CARD OF 'solsticelaw20.StampWhich'. -/
def stampWhichCard : Claim7 := { stood := { row := stampWhichRow, standIns := [], harness := (true, "506a69980ca75595648b04930370ffedcb1e905e6acef7f365423e3a1ccd0762"), looks := false }, kinds := [], alts := [], laidByText := true, laidKinds := [.data], laidTests := true, laidLooks := .later }
def StampWhichCardSaid : Prop := Claim7.holds Tryd.pinned (.plain (OpenSpec.ofChange stampWhichSpec)) stampWhichCard

/-- THE TIED CARD OF 'solsticelaw21.RecordTells'. -/
def recordTellsCard : Claim7 := { stood := { row := recordTellsRow, standIns := [], harness := (true, "506a69980ca75595648b04930370ffedcb1e905e6acef7f365423e3a1ccd0762"), looks := false }, kinds := [], alts := [], laidByText := true, laidKinds := [.data], laidTests := true, laidLooks := .later }
def RecordTellsCardSaid : Prop := Claim7.holds Tryd.pinned (.plain (OpenSpec.ofChange recordTellsSpec)) recordTellsCard

/-- THE TIED CARD OF 'solsticelaw21.RecordBack'. -/
def recordBackCard : Claim7 := { stood := { row := recordBackRow, standIns := [], harness := (true, "506a69980ca75595648b04930370ffedcb1e905e6acef7f365423e3a1ccd0762"), looks := false }, kinds := [], alts := [], laidByText := true, laidKinds := [.data], laidTests := true, laidLooks := .later }
def RecordBackCardSaid : Prop := Claim7.holds Tryd.pinned (.plain (OpenSpec.ofChange recordBackSpec)) recordBackCard

/-- THE TIED CARD OF 'solsticelaw26.ShapeTells'. -/
def shapeTellsCard : Claim7 := { stood := { row := shapeTellsRow, standIns := [], harness := (true, "506a69980ca75595648b04930370ffedcb1e905e6acef7f365423e3a1ccd0762"), looks := false }, kinds := [], alts := [], laidByText := true, laidKinds := [.data], laidTests := true, laidLooks := .later }
def ShapeTellsCardSaid : Prop := Claim7.holds Tryd.pinned (.plain (OpenSpec.ofChange shapeTellsSpec)) shapeTellsCard

/-- THE TIED CARD OF 'solsticelaw26.ShapeOne'. -/
def shapeOneCard : Claim7 := { stood := { row := shapeOneRow, standIns := [], harness := (true, "506a69980ca75595648b04930370ffedcb1e905e6acef7f365423e3a1ccd0762"), looks := false }, kinds := [], alts := [], laidByText := true, laidKinds := [.data], laidTests := true, laidLooks := .later }
def ShapeOneCardSaid : Prop := Claim7.holds Tryd.pinned (.plain (OpenSpec.ofChange shapeOneSpec)) shapeOneCard

/-- THE SECOND FORM's CARD OF 'solsticetop.TopDays'. -/
def topDaysUptoCard : Claim7 := { stood := { row := topDaysUptoRow, standIns := [], harness := (true, "506a69980ca75595648b04930370ffedcb1e905e6acef7f365423e3a1ccd0762"), looks := false }, kinds := [], alts := [], laidByText := true, laidKinds := [.data], laidTests := true, laidLooks := .later }
def TopDaysUptoCardSaid : Prop := Claim7.holds Tryd.pinned (.plain (OpenSpec.upto topDaysSpec)) topDaysUptoCard

/-- THE SECOND FORM's CARD OF 'solsticetop.TopYear'. -/
def topYearUptoCard : Claim7 := { stood := { row := topYearUptoRow, standIns := [], harness := (true, "506a69980ca75595648b04930370ffedcb1e905e6acef7f365423e3a1ccd0762"), looks := false }, kinds := [], alts := [], laidByText := true, laidKinds := [.data], laidTests := true, laidLooks := .later }
def TopYearUptoCardSaid : Prop := Claim7.holds Tryd.pinned (.plain (OpenSpec.upto topYearSpec)) topYearUptoCard

/-- THE SECOND FORM's CARD OF 'solsticelaw20.StampBack'. -/
def stampBackUptoCard : Claim7 := { stood := { row := stampBackUptoRow, standIns := [], harness := (true, "506a69980ca75595648b04930370ffedcb1e905e6acef7f365423e3a1ccd0762"), looks := false }, kinds := [], alts := [], laidByText := true, laidKinds := [.data], laidTests := true, laidLooks := .later }
def StampBackUptoCardSaid : Prop := Claim7.holds Tryd.pinned (.plain (OpenSpec.upto stampBackSpec)) stampBackUptoCard

/-- THE SECOND FORM's CARD OF 'solsticelaw20.StampWhich'. -/
def stampWhichUptoCard : Claim7 := { stood := { row := stampWhichUptoRow, standIns := [], harness := (true, "506a69980ca75595648b04930370ffedcb1e905e6acef7f365423e3a1ccd0762"), looks := false }, kinds := [], alts := [], laidByText := true, laidKinds := [.data], laidTests := true, laidLooks := .later }
def StampWhichUptoCardSaid : Prop := Claim7.holds Tryd.pinned (.plain (OpenSpec.upto stampWhichSpec)) stampWhichUptoCard

/-- THE SECOND FORM's CARD OF 'solsticelaw21.RecordTells'. -/
def recordTellsUptoCard : Claim7 := { stood := { row := recordTellsUptoRow, standIns := [], harness := (true, "506a69980ca75595648b04930370ffedcb1e905e6acef7f365423e3a1ccd0762"), looks := false }, kinds := [], alts := [], laidByText := true, laidKinds := [.data], laidTests := true, laidLooks := .later }
def RecordTellsUptoCardSaid : Prop := Claim7.holds Tryd.pinned (.plain (OpenSpec.upto recordTellsSpec)) recordTellsUptoCard

/-- THE SECOND FORM's CARD OF 'solsticelaw21.RecordBack'. -/
def recordBackUptoCard : Claim7 := { stood := { row := recordBackUptoRow, standIns := [], harness := (true, "506a69980ca75595648b04930370ffedcb1e905e6acef7f365423e3a1ccd0762"), looks := false }, kinds := [], alts := [], laidByText := true, laidKinds := [.data], laidTests := true, laidLooks := .later }
def RecordBackUptoCardSaid : Prop := Claim7.holds Tryd.pinned (.plain (OpenSpec.upto recordBackSpec)) recordBackUptoCard

/-- THE SECOND FORM's CARD OF 'solsticelaw26.ShapeTells'. -/
def shapeTellsUptoCard : Claim7 := { stood := { row := shapeTellsUptoRow, standIns := [], harness := (true, "506a69980ca75595648b04930370ffedcb1e905e6acef7f365423e3a1ccd0762"), looks := false }, kinds := [], alts := [], laidByText := true, laidKinds := [.data], laidTests := true, laidLooks := .later }
def ShapeTellsUptoCardSaid : Prop := Claim7.holds Tryd.pinned (.plain (OpenSpec.upto shapeTellsSpec)) shapeTellsUptoCard

/-- THE SECOND FORM's CARD OF 'solsticelaw26.ShapeOne'. -/
def shapeOneUptoCard : Claim7 := { stood := { row := shapeOneUptoRow, standIns := [], harness := (true, "506a69980ca75595648b04930370ffedcb1e905e6acef7f365423e3a1ccd0762"), looks := false }, kinds := [], alts := [], laidByText := true, laidKinds := [.data], laidTests := true, laidLooks := .later }
def ShapeOneUptoCardSaid : Prop := Claim7.holds Tryd.pinned (.plain (OpenSpec.upto shapeOneSpec)) shapeOneUptoCard
end Rows
end Go.Proofs.YtcjjgfejamddjaaDoor
