/- The law FnExactPlotPoints returns true for every list of points and every two numbers, and leaves its arguments as they were. No condition. -/
import Derived.Test.YtmgggjaphphkhaaRows
import Derived.Test.YtmgggjaphphkhaaAbC
import Derived.Test.YtmgggjaphphkhaaC1
set_option linter.unusedVariables false
set_option linter.unusedSimpArgs false
namespace Go.Proofs.Ytmgggjaphphkhaa
open Go.ChangeShapes Go.WideShapes Go.ChangeAt Go.RowKit Go.Joins Go.Ab
open Go.ChangeMaps (open_string shut_string)
namespace LawPlotPoints
theorem own : ownKnob Try.prog.godebug = none := by kernel_rfl
theorem laidOut : laidOutB Try.prog = true := by kernel_rfl
set_option maxRecDepth 100000 in
theorem lifted (os : Os) (started : os.Started) (H : Type) (enc : TypeId × Value → H) :
    ReturnsInHanded {} Try.checked os 8 .any (Rows.fnExactPlotPointsSpec.pre6 enc Try.prog Try.f8 Rows.fnExactPlotPointsRow.domain false) (Rows.fnExactPlotPointsSpec.post enc Try.prog Try.f8 false true false false) := by
  refine returnsInHanded_of_change_sized (C := Try.checked) own started (by kernel_rfl) Try.func8
    (ChangeSpec.witness6 (enc := enc) (C := Try.checked) false ⟨#[], #[.slice none 0 0, .int .i64 0, .int .i64 0], []⟩ 8 (by kernel_rfl) (by kernel_rfl) (by kernel_rfl) (by kernel_rfl)) ?_
  intro W base args ds gs before hval0 hW hcnd hsz0 _
  have hval : ∀ (j : Nat) t v, Try.f8.params[j]? = some t → args[j]? = some v → Value.okWide Try.prog W .any base t v := hval0
  have hW' := hW
  have hlt := hW'.lt
  obtain ⟨p, q, hA0, hV, rfl, hfz, hnd⟩ := hW
  have hA : DataW.TrodAll enc Try.prog W 0 (fun _ => true) true Try.f8.params.toList args.toList ds p := hA0
  obtain ⟨rfl, rfl⟩ := trodVars_none hV
  have hback : ∀ W', Below W.heap.size W W' → DataW.TrodAll enc Try.prog W' 0 (fun b => decide (b < W.heap.size)) true Try.f8.params.toList args.toList ds p :=
    fun W' bel => trodAll_below laidOut bel (by rw [Try.params8]; decide +kernel) hA fun x hx => by simpa using hlt x (by simpa using hx)
  have hA1 := hA
  rw [Try.params8] at hA1 hval
  obtain ⟨v0, vs0, d0, ds0, p0, q0, hargs, rfl, rfl, h0, r0⟩ := trodAll_cons hA1
  obtain ⟨v1, vs1, d1, ds1, p1, q1, rfl, rfl, rfl, h1, r1⟩ := trodAll_cons r0
  obtain ⟨v2, vs2, d2, ds2, p2, q2, rfl, rfl, rfl, h2, r2⟩ := trodAll_cons r1
  obtain ⟨rfl, rfl, rfl⟩ := trodAll_nil r2
  obtain rfl : args = #[v0, v1, v2] := by cases args; simp_all
  have hcall : Calls Try.prog 8 #[v0, v1, v2] W fun e w' => e = .returned (.bool true) ∧ Below W.heap.size W w' := by
    obtain ⟨x0, z0, y0⟩ := (RdA.slice Try.underlying50 (k := 4) (by kernel_rfl) (by decide) (fun _ => rfl) (RdT.two Try.underlying94 (RdT.two Try.underlying23 (RdT.int Try.underlying3) (RdT.int Try.underlying3) rfl (by kernel_rfl) (by kernel_rfl)) (RdT.two Try.underlying23 (RdT.int Try.underlying3) (RdT.int Try.underlying3) rfl (by kernel_rfl) (by kernel_rfl)) rfl (by kernel_rfl) (by kernel_rfl))) enc W _ _ _ _ _ (hval 0 50 v0 rfl rfl) h0
    obtain ⟨x1, z1, y1⟩ := (RdA.int Try.underlying3) enc W _ _ _ _ _ (hval 1 3 v1 rfl rfl) h1
    obtain ⟨x2, z2, y2⟩ := (RdA.int Try.underlying3) enc W _ _ _ _ _ (hval 2 3 v2 rfl rfl) h2
    exact (law_PlotPoints x0 x1 x2 []).law (.cons y0 (.cons y1 (.cons y2 .nil)))
  refine hcall.mono fun e W' ⟨he, bel⟩ => ?_
  subst he
  exact ⟨_, rfl, _, _, _, [], _, [], hW', trodAll_mk1 (shut_bool Try.underlying4 _), hback W' bel, rfl, bel.frame _, fun h => by cases h⟩
theorem over : Rows.fnExactPlotPointsRow.holds Try.pinned (OpenSpec.ofChange Rows.fnExactPlotPointsSpec) :=
  OpenClaim.holds_of_wide 8 Try.f8 rfl rfl rfl rfl rfl rfl rfl ⟨rfl, rfl, rfl, rfl, rfl⟩ rfl rfl rfl rfl rfl (by kernel_rfl) Try.func8 (by kernel_rfl)
    (of_decide_eq_true (by kernel_rfl)) (by unfold Func.isWrapper; first | (rw [if_pos (by decide +kernel)]; kernel_rfl) | (rw [if_neg (by decide +kernel)]; exact ⟨rfl, rfl⟩))
    (fun os started H enc _ => lifted os started H enc)
end LawPlotPoints
theorem fnExactPlotPoints_holds : Rows.FnExactPlotPointsSaid := LawPlotPoints.over
end Go.Proofs.Ytmgggjaphphkhaa
