/-
  No cell of these rows narrows 'for every input' (looked for: loops, veiled, ifaces, maps, wideKeys, modest, calm, conditions, laid).
  DERIVED. THE GIVEN ROWS OF THIS SEAT. 9 by the template 'for every input the law returns true; each argument reads behind the call as it read before'; 0 by the template 'total and deterministic' (their statements: YtmgggjaphphkhaaTotals.lean).
  GIVEN WITH THE SEED: the statements are not yours to turn. If you find one false, say at which input.
  Laid BY PROGRAM, IN A SANDBOX (cutbox-rows.mjs): the forced cells as the released guide's own fill.sh prints them over the translation 313cd4235d208650… (all of the seat's roots in one cut). By AI agents, Wed Nov 11 2026. No macro, syntax, notation, axiom, sorry.
-/
import Derived.Test.YtmgggjaphphkhaaChecked
import GoSem.Claim
import GoSem.ClaimJoined
import GoSem.ClaimMapViews
import Derived.JoinedTies
import Derived.KernelRfl
namespace Go.Proofs.Ytmgggjaphphkhaa
/- THE CELL 'sum', in the pinned program and in every row, IS THE sha256 OF THE DUMP (.gsa) THAT YtmgggjaphphkhaaProg.lean LOADS. Nothing in Lean hashes anything: it is a label: what it is worth is what the hold of that sum in a sandbox is worth. -/
noncomputable def Try.pinned : Pinned := { name := "ytmgggjaphphkhaa", sum := "313cd4235d2086501333fd32051ede077c2baa589c70e33f3743c36bf240bfd7", checked := Try.checked }
namespace Rows
def none {H : Type} : Left H := { results := [], args := [] }

/-- 'laws.FnExactCellOf': WHATEVER THE INPUT: true; the input reads as it did. -/
def fnExactCellOfSpec : ChangeSpec := { name := "fnExactCellOf", fn := fun _ => fun
  | [d1, d2] => { results := [.lit (.bool true)], args := [d1, d2] }
  | _ => none }
def fnExactCellOfRow : OpenClaim := { program := "ytmgggjaphphkhaa", sum := "313cd4235d2086501333fd32051ede077c2baa589c70e33f3743c36bf240bfd7", func := "loop.example/g01003/laws.FnExactCellOf", spec := "fnExactCellOf", apart := false }
def FnExactCellOfSaid : Prop := fnExactCellOfRow.holds Try.pinned (OpenSpec.ofChange fnExactCellOfSpec)

/-- ITS FALSE NEIGHBOUR: 'it returns false'. Refute it at one input. -/
def fnExactCellOfWrong : ChangeSpec := { name := "fnExactCellOf", fn := fun _ => fun
  | [d1, d2] => { results := [.lit (.bool false)], args := [d1, d2] }
  | _ => none }
def FnExactCellOfWrongFalsely : Prop := fnExactCellOfRow.holds Try.pinned (OpenSpec.ofChange fnExactCellOfWrong)

/-- 'laws.FnExactTentHeights': WHATEVER THE INPUT: true; the input reads as it did. -/
def fnExactTentHeightsSpec : ChangeSpec := { name := "fnExactTentHeights", fn := fun _ => fun
  | [d] => { results := [.lit (.bool true)], args := [d] }
  | _ => none }
def fnExactTentHeightsRow : OpenClaim := { program := "ytmgggjaphphkhaa", sum := "313cd4235d2086501333fd32051ede077c2baa589c70e33f3743c36bf240bfd7", func := "loop.example/g01003/laws.FnExactTentHeights", spec := "fnExactTentHeights", apart := false }
def FnExactTentHeightsSaid : Prop := fnExactTentHeightsRow.holds Try.pinned (OpenSpec.ofChange fnExactTentHeightsSpec)

/-- ITS FALSE NEIGHBOUR: 'it returns false'. Refute it at one input. -/
def fnExactTentHeightsWrong : ChangeSpec := { name := "fnExactTentHeights", fn := fun _ => fun
  | [d] => { results := [.lit (.bool false)], args := [d] }
  | _ => none }
def FnExactTentHeightsWrongFalsely : Prop := fnExactTentHeightsRow.holds Try.pinned (OpenSpec.ofChange fnExactTentHeightsWrong)

/-- 'laws.FnExactHistogramOf': WHATEVER THE INPUT: true; the input reads as it did. -/
def fnExactHistogramOfSpec : ChangeSpec := { name := "fnExactHistogramOf", fn := fun _ => fun
  | [d1, d2] => { results := [.lit (.bool true)], args := [d1, d2] }
  | _ => none }
def fnExactHistogramOfRow : OpenClaim := { program := "ytmgggjaphphkhaa", sum := "313cd4235d2086501333fd32051ede077c2baa589c70e33f3743c36bf240bfd7", func := "loop.example/g01003/laws.FnExactHistogramOf", spec := "fnExactHistogramOf", unfollowed := true, recurses := true, apart := false }
def FnExactHistogramOfSaid : Prop := fnExactHistogramOfRow.holds Try.pinned (OpenSpec.ofChange fnExactHistogramOfSpec)

/-- ITS FALSE NEIGHBOUR: 'it returns false'. Refute it at one input. -/
def fnExactHistogramOfWrong : ChangeSpec := { name := "fnExactHistogramOf", fn := fun _ => fun
  | [d1, d2] => { results := [.lit (.bool false)], args := [d1, d2] }
  | _ => none }
def FnExactHistogramOfWrongFalsely : Prop := fnExactHistogramOfRow.holds Try.pinned (OpenSpec.ofChange fnExactHistogramOfWrong)

/-- 'laws.FnExactJoinScripts': WHATEVER THE INPUT: true; the input reads as it did. -/
def fnExactJoinScriptsSpec : ChangeSpec := { name := "fnExactJoinScripts", fn := fun _ => fun
  | [d1, d2] => { results := [.lit (.bool true)], args := [d1, d2] }
  | _ => none }
def fnExactJoinScriptsRow : OpenClaim := { program := "ytmgggjaphphkhaa", sum := "313cd4235d2086501333fd32051ede077c2baa589c70e33f3743c36bf240bfd7", func := "loop.example/g01003/laws.FnExactJoinScripts", spec := "fnExactJoinScripts", inPlace := ["internal/bytealg.CountString", "internal/bytealg.IndexByteString", "internal/bytealg.IndexString"], named := ["internal/bytealg.MaxLen"], apart := false }
def FnExactJoinScriptsSaid : Prop := fnExactJoinScriptsRow.holds Try.pinned (OpenSpec.ofChange fnExactJoinScriptsSpec)

/-- ITS FALSE NEIGHBOUR: 'it returns false'. Refute it at one input. -/
def fnExactJoinScriptsWrong : ChangeSpec := { name := "fnExactJoinScripts", fn := fun _ => fun
  | [d1, d2] => { results := [.lit (.bool false)], args := [d1, d2] }
  | _ => none }
def FnExactJoinScriptsWrongFalsely : Prop := fnExactJoinScriptsRow.holds Try.pinned (OpenSpec.ofChange fnExactJoinScriptsWrong)

/-- 'laws.FnExactHistogramText': WHATEVER THE INPUT: true; the input reads as it did. -/
def fnExactHistogramTextSpec : ChangeSpec := { name := "fnExactHistogramText", fn := fun _ => fun
  | [d] => { results := [.lit (.bool true)], args := [d] }
  | _ => none }
def fnExactHistogramTextRow : OpenClaim := { program := "ytmgggjaphphkhaa", sum := "313cd4235d2086501333fd32051ede077c2baa589c70e33f3743c36bf240bfd7", func := "loop.example/g01003/laws.FnExactHistogramText", spec := "fnExactHistogramText", inPlace := ["internal/abi.NoEscape", "internal/bytealg.MakeNoZero"], unfollowed := true, recurses := true, apart := false }
def FnExactHistogramTextSaid : Prop := fnExactHistogramTextRow.holds Try.pinned (OpenSpec.ofChange fnExactHistogramTextSpec)

/-- ITS FALSE NEIGHBOUR: 'it returns false'. Refute it at one input. -/
def fnExactHistogramTextWrong : ChangeSpec := { name := "fnExactHistogramText", fn := fun _ => fun
  | [d] => { results := [.lit (.bool false)], args := [d] }
  | _ => none }
def FnExactHistogramTextWrongFalsely : Prop := fnExactHistogramTextRow.holds Try.pinned (OpenSpec.ofChange fnExactHistogramTextWrong)

/-- 'laws.FnExactPlotPoints': WHATEVER THE INPUT: true; the input reads as it did. -/
def fnExactPlotPointsSpec : ChangeSpec := { name := "fnExactPlotPoints", fn := fun _ => fun
  | [d1, d2, d3] => { results := [.lit (.bool true)], args := [d1, d2, d3] }
  | _ => none }
def fnExactPlotPointsRow : OpenClaim := { program := "ytmgggjaphphkhaa", sum := "313cd4235d2086501333fd32051ede077c2baa589c70e33f3743c36bf240bfd7", func := "loop.example/g01003/laws.FnExactPlotPoints", spec := "fnExactPlotPoints", unfollowed := true, recurses := true, apart := false }
def FnExactPlotPointsSaid : Prop := fnExactPlotPointsRow.holds Try.pinned (OpenSpec.ofChange fnExactPlotPointsSpec)

/-- ITS FALSE NEIGHBOUR: 'it returns false'. Refute it at one input. -/
def fnExactPlotPointsWrong : ChangeSpec := { name := "fnExactPlotPoints", fn := fun _ => fun
  | [d1, d2, d3] => { results := [.lit (.bool false)], args := [d1, d2, d3] }
  | _ => none }
def FnExactPlotPointsWrongFalsely : Prop := fnExactPlotPointsRow.holds Try.pinned (OpenSpec.ofChange fnExactPlotPointsWrong)

/-- 'laws.FnExactCobwebOf': WHATEVER THE INPUT: true; the input reads as it did. -/
def fnExactCobwebOfSpec : ChangeSpec := { name := "fnExactCobwebOf", fn := fun _ => fun
  | [d1, d2, d3] => { results := [.lit (.bool true)], args := [d1, d2, d3] }
  | _ => none }
def fnExactCobwebOfRow : OpenClaim := { program := "ytmgggjaphphkhaa", sum := "313cd4235d2086501333fd32051ede077c2baa589c70e33f3743c36bf240bfd7", func := "loop.example/g01003/laws.FnExactCobwebOf", spec := "fnExactCobwebOf", unfollowed := true, recurses := true, apart := false }
def FnExactCobwebOfSaid : Prop := fnExactCobwebOfRow.holds Try.pinned (OpenSpec.ofChange fnExactCobwebOfSpec)

/-- ITS FALSE NEIGHBOUR: 'it returns false'. Refute it at one input. -/
def fnExactCobwebOfWrong : ChangeSpec := { name := "fnExactCobwebOf", fn := fun _ => fun
  | [d1, d2, d3] => { results := [.lit (.bool false)], args := [d1, d2, d3] }
  | _ => none }
def FnExactCobwebOfWrongFalsely : Prop := fnExactCobwebOfRow.holds Try.pinned (OpenSpec.ofChange fnExactCobwebOfWrong)

/-- 'laws.FnExactPlotOrbit': WHATEVER THE INPUT: true; the input reads as it did. -/
def fnExactPlotOrbitSpec : ChangeSpec := { name := "fnExactPlotOrbit", fn := fun _ => fun
  | [d1, d2, d3, d4] => { results := [.lit (.bool true)], args := [d1, d2, d3, d4] }
  | _ => none }
def fnExactPlotOrbitRow : OpenClaim := { program := "ytmgggjaphphkhaa", sum := "313cd4235d2086501333fd32051ede077c2baa589c70e33f3743c36bf240bfd7", func := "loop.example/g01003/laws.FnExactPlotOrbit", spec := "fnExactPlotOrbit", unfollowed := true, recurses := true, apart := false }
def FnExactPlotOrbitSaid : Prop := fnExactPlotOrbitRow.holds Try.pinned (OpenSpec.ofChange fnExactPlotOrbitSpec)

/-- ITS FALSE NEIGHBOUR: 'it returns false'. Refute it at one input. -/
def fnExactPlotOrbitWrong : ChangeSpec := { name := "fnExactPlotOrbit", fn := fun _ => fun
  | [d1, d2, d3, d4] => { results := [.lit (.bool false)], args := [d1, d2, d3, d4] }
  | _ => none }
def FnExactPlotOrbitWrongFalsely : Prop := fnExactPlotOrbitRow.holds Try.pinned (OpenSpec.ofChange fnExactPlotOrbitWrong)

/-- 'laws.FnExactPlotMap': WHATEVER THE INPUT: true; the input reads as it did. -/
def fnExactPlotMapSpec : ChangeSpec := { name := "fnExactPlotMap", fn := fun _ => fun
  | [d1, d2, d3] => { results := [.lit (.bool true)], args := [d1, d2, d3] }
  | _ => none }
def fnExactPlotMapRow : OpenClaim := { program := "ytmgggjaphphkhaa", sum := "313cd4235d2086501333fd32051ede077c2baa589c70e33f3743c36bf240bfd7", func := "loop.example/g01003/laws.FnExactPlotMap", spec := "fnExactPlotMap", unfollowed := true, recurses := true, apart := false }
def FnExactPlotMapSaid : Prop := fnExactPlotMapRow.holds Try.pinned (OpenSpec.ofChange fnExactPlotMapSpec)

/-- ITS FALSE NEIGHBOUR: 'it returns false'. Refute it at one input. -/
def fnExactPlotMapWrong : ChangeSpec := { name := "fnExactPlotMap", fn := fun _ => fun
  | [d1, d2, d3] => { results := [.lit (.bool false)], args := [d1, d2, d3] }
  | _ => none }
def FnExactPlotMapWrongFalsely : Prop := fnExactPlotMapRow.holds Try.pinned (OpenSpec.ofChange fnExactPlotMapWrong)

/- THE SECOND FORM. 'bulk': how many values and letters a reading holds, each counted each time it is reached (what is shared counts as often as it is met; a slice's spare places count too). A statement '..UptoSaid' is the law's where the arguments, and the package variables that the reading takes, are together of bulk at most 1048576: NARROWER than '..Said'. Prove '..Said' where nothing that the law and all that it calls make is longer than what came in: it says more and counts as full. Else prove '..UptoSaid'. A law counts once. -/
mutual
def uptoBulk {H : Type} : DataW H → Nat
  | .lit (.string bytes) => bytes.length + 1
  | .lit _ => 1
  | .nil => 1
  | .ptr d => uptoBulk d + 1
  | .slice elems spare => uptoBulkAll elems + uptoBulkAll spare + 1
  | .agg parts => uptoBulkAll parts + 1
  | .iface _ d => uptoBulk d + 1
  | .map entries => uptoBulkEntries entries + 1
  | .held _ => 1
def uptoBulkAll {H : Type} : List (DataW H) → Nat
  | [] => 0
  | d :: r => uptoBulk d + uptoBulkAll r
def uptoBulkEntries {H : Type} : List (Lit × DataW H) → Nat
  | [] => 0
  | x :: r => uptoBulkEntry x + uptoBulkEntries r
def uptoBulkEntry {H : Type} : Lit × DataW H → Nat
  | (.string bytes, d) => bytes.length + uptoBulk d + 1
  | (_, d) => uptoBulk d + 1
 end
def uptoSmall : (H : Type) → List (DataW H) → Bool := fun _ ds => decide (uptoBulkAll ds ≤ 1048576)
def OpenSpec.upto (s : _root_.Go.ChangeSpec) : _root_.Go.OpenSpec := { _root_.Go.OpenSpec.ofChange s with cond := some uptoSmall }

/-- 'laws.FnExactCellOf', WHERE WHAT IT READS IS OF BULK AT MOST 1048576: true; the input reads as it did. -/
def fnExactCellOfUptoRow : OpenClaim := { program := "ytmgggjaphphkhaa", sum := "313cd4235d2086501333fd32051ede077c2baa589c70e33f3743c36bf240bfd7", func := "loop.example/g01003/laws.FnExactCellOf", spec := "fnExactCellOf", apart := false, narrowed := true }
def FnExactCellOfUptoSaid : Prop := fnExactCellOfUptoRow.holds Try.pinned (OpenSpec.upto fnExactCellOfSpec)

/-- 'laws.FnExactTentHeights', WHERE WHAT IT READS IS OF BULK AT MOST 1048576: true; the input reads as it did. -/
def fnExactTentHeightsUptoRow : OpenClaim := { program := "ytmgggjaphphkhaa", sum := "313cd4235d2086501333fd32051ede077c2baa589c70e33f3743c36bf240bfd7", func := "loop.example/g01003/laws.FnExactTentHeights", spec := "fnExactTentHeights", apart := false, narrowed := true }
def FnExactTentHeightsUptoSaid : Prop := fnExactTentHeightsUptoRow.holds Try.pinned (OpenSpec.upto fnExactTentHeightsSpec)

/-- 'laws.FnExactHistogramOf', WHERE WHAT IT READS IS OF BULK AT MOST 1048576: true; the input reads as it did. -/
def fnExactHistogramOfUptoRow : OpenClaim := { program := "ytmgggjaphphkhaa", sum := "313cd4235d2086501333fd32051ede077c2baa589c70e33f3743c36bf240bfd7", func := "loop.example/g01003/laws.FnExactHistogramOf", spec := "fnExactHistogramOf", unfollowed := true, recurses := true, apart := false, narrowed := true }
def FnExactHistogramOfUptoSaid : Prop := fnExactHistogramOfUptoRow.holds Try.pinned (OpenSpec.upto fnExactHistogramOfSpec)

/-- 'laws.FnExactJoinScripts', WHERE WHAT IT READS IS OF BULK AT MOST 1048576: true; the input reads as it did. -/
def fnExactJoinScriptsUptoRow : OpenClaim := { program := "ytmgggjaphphkhaa", sum := "313cd4235d2086501333fd32051ede077c2baa589c70e33f3743c36bf240bfd7", func := "loop.example/g01003/laws.FnExactJoinScripts", spec := "fnExactJoinScripts", inPlace := ["internal/bytealg.CountString", "internal/bytealg.IndexByteString", "internal/bytealg.IndexString"], named := ["internal/bytealg.MaxLen"], apart := false, narrowed := true }
def FnExactJoinScriptsUptoSaid : Prop := fnExactJoinScriptsUptoRow.holds Try.pinned (OpenSpec.upto fnExactJoinScriptsSpec)

/-- 'laws.FnExactHistogramText', WHERE WHAT IT READS IS OF BULK AT MOST 1048576: true; the input reads as it did. -/
def fnExactHistogramTextUptoRow : OpenClaim := { program := "ytmgggjaphphkhaa", sum := "313cd4235d2086501333fd32051ede077c2baa589c70e33f3743c36bf240bfd7", func := "loop.example/g01003/laws.FnExactHistogramText", spec := "fnExactHistogramText", inPlace := ["internal/abi.NoEscape", "internal/bytealg.MakeNoZero"], unfollowed := true, recurses := true, apart := false, narrowed := true }
def FnExactHistogramTextUptoSaid : Prop := fnExactHistogramTextUptoRow.holds Try.pinned (OpenSpec.upto fnExactHistogramTextSpec)

/-- 'laws.FnExactPlotPoints', WHERE WHAT IT READS IS OF BULK AT MOST 1048576: true; the input reads as it did. -/
def fnExactPlotPointsUptoRow : OpenClaim := { program := "ytmgggjaphphkhaa", sum := "313cd4235d2086501333fd32051ede077c2baa589c70e33f3743c36bf240bfd7", func := "loop.example/g01003/laws.FnExactPlotPoints", spec := "fnExactPlotPoints", unfollowed := true, recurses := true, apart := false, narrowed := true }
def FnExactPlotPointsUptoSaid : Prop := fnExactPlotPointsUptoRow.holds Try.pinned (OpenSpec.upto fnExactPlotPointsSpec)

/-- 'laws.FnExactCobwebOf', WHERE WHAT IT READS IS OF BULK AT MOST 1048576: true; the input reads as it did. -/
def fnExactCobwebOfUptoRow : OpenClaim := { program := "ytmgggjaphphkhaa", sum := "313cd4235d2086501333fd32051ede077c2baa589c70e33f3743c36bf240bfd7", func := "loop.example/g01003/laws.FnExactCobwebOf", spec := "fnExactCobwebOf", unfollowed := true, recurses := true, apart := false, narrowed := true }
def FnExactCobwebOfUptoSaid : Prop := fnExactCobwebOfUptoRow.holds Try.pinned (OpenSpec.upto fnExactCobwebOfSpec)

/-- 'laws.FnExactPlotOrbit', WHERE WHAT IT READS IS OF BULK AT MOST 1048576: true; the input reads as it did. -/
def fnExactPlotOrbitUptoRow : OpenClaim := { program := "ytmgggjaphphkhaa", sum := "313cd4235d2086501333fd32051ede077c2baa589c70e33f3743c36bf240bfd7", func := "loop.example/g01003/laws.FnExactPlotOrbit", spec := "fnExactPlotOrbit", unfollowed := true, recurses := true, apart := false, narrowed := true }
def FnExactPlotOrbitUptoSaid : Prop := fnExactPlotOrbitUptoRow.holds Try.pinned (OpenSpec.upto fnExactPlotOrbitSpec)

/-- 'laws.FnExactPlotMap', WHERE WHAT IT READS IS OF BULK AT MOST 1048576: true; the input reads as it did. -/
def fnExactPlotMapUptoRow : OpenClaim := { program := "ytmgggjaphphkhaa", sum := "313cd4235d2086501333fd32051ede077c2baa589c70e33f3743c36bf240bfd7", func := "loop.example/g01003/laws.FnExactPlotMap", spec := "fnExactPlotMap", unfollowed := true, recurses := true, apart := false, narrowed := true }
def FnExactPlotMapUptoSaid : Prop := fnExactPlotMapUptoRow.holds Try.pinned (OpenSpec.upto fnExactPlotMapSpec)

end Rows
end Go.Proofs.Ytmgggjaphphkhaa
