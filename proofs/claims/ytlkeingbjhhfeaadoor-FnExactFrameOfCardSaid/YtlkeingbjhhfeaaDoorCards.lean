/-
  DERIVED. GIVEN WITH THE SEED: THE CARDS: each row of YtlkeingbjhhfeaaDoorRows.lean that lists a variable, with what it lists TIED to the program's text (the seventh form; the later family's looks); each row that meets fmt, with fmt's text TOLD by the authors' own Lean function (tested against real Go, not proved from fmt's source: count such statements apart). THE CARD IS WHAT COUNTS. Prove the row's statement (the work); the ties are given (YtlkeingbjhhfeaaDoorTie.lean); close each card by the builder's one call (the guide's Derived/Test/ToyasCard.lean, 'card_holds'). Laid BY PROGRAM, IN A SANDBOX (cutbox-door.mjs). By AI agents, Wed Nov 11 2026. No macro, syntax, notation, axiom, sorry.
-/
import Derived.Test.YtlkeingbjhhfeaaDoorRows
import GoSem.ClaimSeven
namespace Go.Proofs.YtlkeingbjhhfeaaDoor
namespace Rows

/-- THE TIED CARD OF 'laws.FnExactFrameOf'. -/
def fnExactFrameOfCard : Claim7 := { stood := { row := fnExactFrameOfRow, standIns := [], harness := (true, "84aefc76f9e3aec824887b26cbf561c09fd9447a0a08b712479ef9080b596c36"), looks := false }, kinds := [], alts := [], laidByText := true, laidKinds := [.data, .pinned], laidTests := true, laidLooks := .later }
def FnExactFrameOfCardSaid : Prop := Claim7.holds Tryd.pinned (.plain (OpenSpec.ofChange fnExactFrameOfSpec)) fnExactFrameOfCard

/-- THE SECOND FORM's CARD OF 'laws.FnExactFrameOf'. -/
def fnExactFrameOfUptoCard : Claim7 := { stood := { row := fnExactFrameOfUptoRow, standIns := [], harness := (true, "84aefc76f9e3aec824887b26cbf561c09fd9447a0a08b712479ef9080b596c36"), looks := false }, kinds := [], alts := [], laidByText := true, laidKinds := [.data, .pinned], laidTests := true, laidLooks := .later }
def FnExactFrameOfUptoCardSaid : Prop := Claim7.holds Tryd.pinned (.plain (OpenSpec.upto fnExactFrameOfSpec)) fnExactFrameOfUptoCard
end Rows
end Go.Proofs.YtlkeingbjhhfeaaDoor
