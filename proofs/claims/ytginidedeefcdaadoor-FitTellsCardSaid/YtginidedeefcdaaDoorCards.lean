/-
  DERIVED. GIVEN WITH THE SEED: THE CARDS: each row of YtginidedeefcdaaDoorRows.lean that lists a variable, with what it lists TIED to the program's text (the seventh form; the later family's looks); each row that meets fmt, with fmt's text TOLD by the authors' own Lean function (tested against real Go, not proved from fmt's source: count such statements apart). THE CARD IS WHAT COUNTS. Prove the row's statement (the work); the ties are given (YtginidedeefcdaaDoorTie.lean); close each card by the builder's one call (the guide's Derived/Test/ToyasCard.lean, 'card_holds'). Laid BY PROGRAM, IN A SANDBOX (cutbox-door.mjs). By AI agents, Wed Nov 11 2026. No macro, syntax, notation, axiom, sorry.
-/
import Derived.Test.YtginidedeefcdaaDoorRows
import GoSem.ClaimSeven
namespace Go.Proofs.YtginidedeefcdaaDoor
namespace Rows

/-- THE TIED CARD OF 'solsticelaw25.FitTells'. -/
def fitTellsCard : Claim7 := { stood := { row := fitTellsRow, standIns := [], harness := (true, "7e18b66db32e668125a6408eff2ea7dbd9c3535f67b192d2f3fc873cac4b2e77"), looks := false }, kinds := [], alts := [], laidByText := true, laidKinds := [.data], laidTests := true, laidLooks := .later }
def FitTellsCardSaid : Prop := Claim7.holds Tryd.pinned (.plain (OpenSpec.ofChange fitTellsSpec)) fitTellsCard

/-- THE TIED CARD OF 'solsticelaw25.FitWhy'. -/
def fitWhyCard : Claim7 := { stood := { row := fitWhyRow, standIns := [], harness := (true, "7e18b66db32e668125a6408eff2ea7dbd9c3535f67b192d2f3fc873cac4b2e77"), looks := false }, kinds := [], alts := [], laidByText := true, laidKinds := [.data], laidTests := true, laidLooks := .later }
def FitWhyCardSaid : Prop := Claim7.holds Tryd.pinned (.plain (OpenSpec.ofChange fitWhySpec)) fitWhyCard

/-- THE TIED CARD OF 'solsticelaw25.FitHolds'. -/
def fitHoldsCard : Claim7 := { stood := { row := fitHoldsRow, standIns := [], harness := (true, "7e18b66db32e668125a6408eff2ea7dbd9c3535f67b192d2f3fc873cac4b2e77"), looks := false }, kinds := [], alts := [], laidByText := true, laidKinds := [.data], laidTests := true, laidLooks := .later }
def FitHoldsCardSaid : Prop := Claim7.holds Tryd.pinned (.plain (OpenSpec.ofChange fitHoldsSpec)) fitHoldsCard

/-- THE TIED CARD OF 'solsticelaw25.FitAll'. -/
def fitAllCard : Claim7 := { stood := { row := fitAllRow, standIns := [], harness := (true, "7e18b66db32e668125a6408eff2ea7dbd9c3535f67b192d2f3fc873cac4b2e77"), looks := false }, kinds := [], alts := [], laidByText := true, laidKinds := [.data], laidTests := true, laidLooks := .later }
def FitAllCardSaid : Prop := Claim7.holds Tryd.pinned (.plain (OpenSpec.ofChange fitAllSpec)) fitAllCard

/-- THE TIED CARD OF 'solsticetop.TopLast'. -/
def topLastCard : Claim7 := { stood := { row := topLastRow, standIns := [], harness := (true, "7e18b66db32e668125a6408eff2ea7dbd9c3535f67b192d2f3fc873cac4b2e77"), looks := false }, kinds := [], alts := [], laidByText := true, laidKinds := [.data], laidTests := true, laidLooks := .later }
def TopLastCardSaid : Prop := Claim7.holds Tryd.pinned (.plain (OpenSpec.ofChange topLastSpec)) topLastCard

/-- THE TIED CARD OF 'solsticetop.TopClocks'. -/
def topClocksCard : Claim7 := { stood := { row := topClocksRow, standIns := [], harness := (true, "7e18b66db32e668125a6408eff2ea7dbd9c3535f67b192d2f3fc873cac4b2e77"), looks := false }, kinds := [], alts := [], laidByText := true, laidKinds := [.data, .data, .data, .data, .data], laidTests := true, laidLooks := .later }
def TopClocksCardSaid : Prop := Claim7.holds Tryd.pinned (.plain (OpenSpec.ofChange topClocksSpec)) topClocksCard

/-- THE TIED CARD OF 'solsticetop.TopForms'. -/
def topFormsCard : Claim7 := { stood := { row := topFormsRow, standIns := [], harness := (true, "7e18b66db32e668125a6408eff2ea7dbd9c3535f67b192d2f3fc873cac4b2e77"), looks := false }, kinds := [], alts := [], laidByText := true, laidKinds := [.data], laidTests := true, laidLooks := .later }
def TopFormsCardSaid : Prop := Claim7.holds Tryd.pinned (.plain (OpenSpec.ofChange topFormsSpec)) topFormsCard

/-- THE TIED CARD OF 'solsticetop.TopAgain'. -/
def topAgainCard : Claim7 := { stood := { row := topAgainRow, standIns := [], harness := (true, "7e18b66db32e668125a6408eff2ea7dbd9c3535f67b192d2f3fc873cac4b2e77"), looks := false }, kinds := [], alts := [], laidByText := true, laidKinds := [.data], laidTests := true, laidLooks := .later }
def TopAgainCardSaid : Prop := Claim7.holds Tryd.pinned (.plain (OpenSpec.ofChange topAgainSpec)) topAgainCard

/-- THE TIED CARD OF 'solsticetop.TopAround'. -/
def topAroundCard : Claim7 := { stood := { row := topAroundRow, standIns := [], harness := (true, "7e18b66db32e668125a6408eff2ea7dbd9c3535f67b192d2f3fc873cac4b2e77"), looks := false }, kinds := [], alts := [], laidByText := true, laidKinds := [.data, .data, .data, .data], laidTests := true, laidLooks := .later }
def TopAroundCardSaid : Prop := Claim7.holds Tryd.pinned (.plain (OpenSpec.ofChange topAroundSpec)) topAroundCard

/-- THE SECOND FORM's CARD OF 'solsticelaw25.FitTells'. -/
def fitTellsUptoCard : Claim7 := { stood := { row := fitTellsUptoRow, standIns := [], harness := (true, "7e18b66db32e668125a6408eff2ea7dbd9c3535f67b192d2f3fc873cac4b2e77"), looks := false }, kinds := [], alts := [], laidByText := true, laidKinds := [.data], laidTests := true, laidLooks := .later }
def FitTellsUptoCardSaid : Prop := Claim7.holds Tryd.pinned (.plain (OpenSpec.upto fitTellsSpec)) fitTellsUptoCard

/-- THE SECOND FORM's CARD OF 'solsticelaw25.FitWhy'. -/
def fitWhyUptoCard : Claim7 := { stood := { row := fitWhyUptoRow, standIns := [], harness := (true, "7e18b66db32e668125a6408eff2ea7dbd9c3535f67b192d2f3fc873cac4b2e77"), looks := false }, kinds := [], alts := [], laidByText := true, laidKinds := [.data], laidTests := true, laidLooks := .later }
def FitWhyUptoCardSaid : Prop := Claim7.holds Tryd.pinned (.plain (OpenSpec.upto fitWhySpec)) fitWhyUptoCard

/-- THE SECOND FORM's CARD OF 'solsticelaw25.FitHolds'. -/
def fitHoldsUptoCard : Claim7 := { stood := { row := fitHoldsUptoRow, standIns := [], harness := (true, "7e18b66db32e668125a6408eff2ea7dbd9c3535f67b192d2f3fc873cac4b2e77"), looks := false }, kinds := [], alts := [], laidByText := true, laidKinds := [.data], laidTests := true, laidLooks := .later }
def FitHoldsUptoCardSaid : Prop := Claim7.holds Tryd.pinned (.plain (OpenSpec.upto fitHoldsSpec)) fitHoldsUptoCard

/-- THE SECOND FORM's CARD OF 'solsticelaw25.FitAll'. -/
def fitAllUptoCard : Claim7 := { stood := { row := fitAllUptoRow, standIns := [], harness := (true, "7e18b66db32e668125a6408eff2ea7dbd9c3535f67b192d2f3fc873cac4b2e77"), looks := false }, kinds := [], alts := [], laidByText := true, laidKinds := [.data], laidTests := true, laidLooks := .later }
def FitAllUptoCardSaid : Prop := Claim7.holds Tryd.pinned (.plain (OpenSpec.upto fitAllSpec)) fitAllUptoCard

/-- THE SECOND FORM's CARD OF 'solsticetop.TopLast'. -/
def topLastUptoCard : Claim7 := { stood := { row := topLastUptoRow, standIns := [], harness := (true, "7e18b66db32e668125a6408eff2ea7dbd9c3535f67b192d2f3fc873cac4b2e77"), looks := false }, kinds := [], alts := [], laidByText := true, laidKinds := [.data], laidTests := true, laidLooks := .later }
def TopLastUptoCardSaid : Prop := Claim7.holds Tryd.pinned (.plain (OpenSpec.upto topLastSpec)) topLastUptoCard

/-- THE SECOND FORM's CARD OF 'solsticetop.TopClocks'. -/
def topClocksUptoCard : Claim7 := { stood := { row := topClocksUptoRow, standIns := [], harness := (true, "7e18b66db32e668125a6408eff2ea7dbd9c3535f67b192d2f3fc873cac4b2e77"), looks := false }, kinds := [], alts := [], laidByText := true, laidKinds := [.data, .data, .data, .data, .data], laidTests := true, laidLooks := .later }
def TopClocksUptoCardSaid : Prop := Claim7.holds Tryd.pinned (.plain (OpenSpec.upto topClocksSpec)) topClocksUptoCard

/-- THE SECOND FORM's CARD OF 'solsticetop.TopForms'. -/
def topFormsUptoCard : Claim7 := { stood := { row := topFormsUptoRow, standIns := [], harness := (true, "7e18b66db32e668125a6408eff2ea7dbd9c3535f67b192d2f3fc873cac4b2e77"), looks := false }, kinds := [], alts := [], laidByText := true, laidKinds := [.data], laidTests := true, laidLooks := .later }
def TopFormsUptoCardSaid : Prop := Claim7.holds Tryd.pinned (.plain (OpenSpec.upto topFormsSpec)) topFormsUptoCard

/-- THE SECOND FORM's CARD OF 'solsticetop.TopAgain'. -/
def topAgainUptoCard : Claim7 := { stood := { row := topAgainUptoRow, standIns := [], harness := (true, "7e18b66db32e668125a6408eff2ea7dbd9c3535f67b192d2f3fc873cac4b2e77"), looks := false }, kinds := [], alts := [], laidByText := true, laidKinds := [.data], laidTests := true, laidLooks := .later }
def TopAgainUptoCardSaid : Prop := Claim7.holds Tryd.pinned (.plain (OpenSpec.upto topAgainSpec)) topAgainUptoCard

/-- THE SECOND FORM's CARD OF 'solsticetop.TopAround'. -/
def topAroundUptoCard : Claim7 := { stood := { row := topAroundUptoRow, standIns := [], harness := (true, "7e18b66db32e668125a6408eff2ea7dbd9c3535f67b192d2f3fc873cac4b2e77"), looks := false }, kinds := [], alts := [], laidByText := true, laidKinds := [.data, .data, .data, .data], laidTests := true, laidLooks := .later }
def TopAroundUptoCardSaid : Prop := Claim7.holds Tryd.pinned (.plain (OpenSpec.upto topAroundSpec)) topAroundUptoCard
end Rows
end Go.Proofs.YtginidedeefcdaaDoor
