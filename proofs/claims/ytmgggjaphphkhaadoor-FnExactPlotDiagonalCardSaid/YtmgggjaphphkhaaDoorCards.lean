/-
  DERIVED. GIVEN WITH THE SEED: THE CARDS: each row of YtmgggjaphphkhaaDoorRows.lean that lists a variable, with what it lists TIED to the program's text (the seventh form; the later family's looks); each row that meets fmt, with fmt's text TOLD by the authors' own Lean function (tested against real Go, not proved from fmt's source: count such statements apart). THE CARD IS WHAT COUNTS. Prove the row's statement (the work); the ties are given (YtmgggjaphphkhaaDoorTie.lean); close each card by the builder's one call (the guide's Derived/Test/ToyasCard.lean, 'card_holds'). Laid BY PROGRAM, IN A SANDBOX (cutbox-door.mjs). By AI agents, Wed Nov 11 2026. No macro, syntax, notation, axiom, sorry.
-/
import Derived.Test.YtmgggjaphphkhaaDoorRows
import GoSem.ClaimSeven
namespace Go.Proofs.YtmgggjaphphkhaaDoor
namespace Rows

/-- THE TIED CARD OF 'laws.FnExactIsPlot'. -/
def fnExactIsPlotCard : Claim7 := { stood := { row := fnExactIsPlotRow, standIns := [], harness := (true, "1ecf6a2cdb401afcc74b5777a51e5ccc96668df2120a0abdac84a3300770f252"), looks := false }, kinds := [], alts := [], laidByText := true, laidKinds := [.data, .pinned], laidTests := true, laidLooks := .later }
def FnExactIsPlotCardSaid : Prop := Claim7.holds Tryd.pinned (.plain (OpenSpec.ofChange fnExactIsPlotSpec)) fnExactIsPlotCard

/-- THE TIED CARD OF 'laws.FnExactStudyText'. -/
def fnExactStudyTextCard : Claim7 := { stood := { row := fnExactStudyTextRow, standIns := [], harness := (true, "1ecf6a2cdb401afcc74b5777a51e5ccc96668df2120a0abdac84a3300770f252"), looks := false }, kinds := [], alts := [], laidByText := true, laidKinds := [.data, .data, .data], laidTests := true, laidLooks := .later }
def FnExactStudyTextCardSaid : Prop := Claim7.holds Tryd.pinned (.plain (OpenSpec.ofChange fnExactStudyTextSpec)) fnExactStudyTextCard

/-- THE TIED CARD OF 'laws.FnExactPlotDiagonal'. -/
def fnExactPlotDiagonalCard : Claim7 := { stood := { row := fnExactPlotDiagonalRow, standIns := [], harness := (true, "1ecf6a2cdb401afcc74b5777a51e5ccc96668df2120a0abdac84a3300770f252"), looks := false }, kinds := [], alts := [], laidByText := true, laidKinds := [.data, .pinned], laidTests := true, laidLooks := .later }
def FnExactPlotDiagonalCardSaid : Prop := Claim7.holds Tryd.pinned (.plain (OpenSpec.ofChange fnExactPlotDiagonalSpec)) fnExactPlotDiagonalCard

/-- THE SECOND FORM's CARD OF 'laws.FnExactIsPlot'. -/
def fnExactIsPlotUptoCard : Claim7 := { stood := { row := fnExactIsPlotUptoRow, standIns := [], harness := (true, "1ecf6a2cdb401afcc74b5777a51e5ccc96668df2120a0abdac84a3300770f252"), looks := false }, kinds := [], alts := [], laidByText := true, laidKinds := [.data, .pinned], laidTests := true, laidLooks := .later }
def FnExactIsPlotUptoCardSaid : Prop := Claim7.holds Tryd.pinned (.plain (OpenSpec.upto fnExactIsPlotSpec)) fnExactIsPlotUptoCard

/-- THE SECOND FORM's CARD OF 'laws.FnExactStudyText'. -/
def fnExactStudyTextUptoCard : Claim7 := { stood := { row := fnExactStudyTextUptoRow, standIns := [], harness := (true, "1ecf6a2cdb401afcc74b5777a51e5ccc96668df2120a0abdac84a3300770f252"), looks := false }, kinds := [], alts := [], laidByText := true, laidKinds := [.data, .data, .data], laidTests := true, laidLooks := .later }
def FnExactStudyTextUptoCardSaid : Prop := Claim7.holds Tryd.pinned (.plain (OpenSpec.upto fnExactStudyTextSpec)) fnExactStudyTextUptoCard

/-- THE SECOND FORM's CARD OF 'laws.FnExactPlotDiagonal'. -/
def fnExactPlotDiagonalUptoCard : Claim7 := { stood := { row := fnExactPlotDiagonalUptoRow, standIns := [], harness := (true, "1ecf6a2cdb401afcc74b5777a51e5ccc96668df2120a0abdac84a3300770f252"), looks := false }, kinds := [], alts := [], laidByText := true, laidKinds := [.data, .pinned], laidTests := true, laidLooks := .later }
def FnExactPlotDiagonalUptoCardSaid : Prop := Claim7.holds Tryd.pinned (.plain (OpenSpec.upto fnExactPlotDiagonalSpec)) fnExactPlotDiagonalUptoCard
end Rows
end Go.Proofs.YtmgggjaphphkhaaDoor
