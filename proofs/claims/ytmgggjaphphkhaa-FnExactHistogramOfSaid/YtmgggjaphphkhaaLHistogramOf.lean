/- The law FnExactHistogramOf returns true for every list of fractions and every number, and leaves its arguments as they were. No condition. -/
import Derived.Test.YtmgggjaphphkhaaRows
import Derived.Test.YtmgggjaphphkhaaAbC
import Derived.Test.YtmgggjaphphkhaaC1
set_option linter.unusedVariables false
set_option linter.unusedSimpArgs false
namespace Go.Proofs.Ytmgggjaphphkhaa
open Go.ChangeShapes Go.WideShapes Go.ChangeAt Go.RowKit Go.Joins Go.Ab
open Go.ChangeMaps (open_string shut_string)
namespace LawHistogramOf
theorem own : ownKnob Try.prog.godebug = none := by kernel_rfl
theorem laidOut : laidOutB Try.prog = true := by kernel_rfl
set_option maxRecDepth 100000 in
theorem lifted (os : Os) (started : os.Started) (H : Type) (enc : TypeId × Value → H) :
    ReturnsInHanded {} Try.checked os 5 .any (Rows.fnExactHistogramOfSpec.pre6 enc Try.prog Try.f5 Rows.fnExactHistogramOfRow.domain false) (Rows.fnExactHistogramOfSpec.post enc Try.prog Try.f5 false true false false) := by
  refine returnsInHanded_of_change_sized (C := Try.checked) own started (by kernel_rfl) Try.func5
    (ChangeSpec.witness6 (enc := enc) (C := Try.checked) false ⟨#[], #[.slice none 0 0, .int .i64 0], []⟩ 8 (by kernel_rfl) (by kernel_rfl) (by kernel_rfl) (by kernel_rfl)) ?_
  intro W base args ds gs before hval0 hW hcnd hsz0 _
  have hval : ∀ (j : Nat) t v, Try.f5.params[j]? = some t → args[j]? = some v → Value.okWide Try.prog W .any base t v := hval0
  have hW' := hW
  have hlt := hW'.lt
  obtain ⟨p, q, hA0, hV, rfl, hfz, hnd⟩ := hW
  have hA : DataW.TrodAll enc Try.prog W 0 (fun _ => true) true Try.f5.params.toList args.toList ds p := hA0
  obtain ⟨rfl, rfl⟩ := trodVars_none hV
  have hback : ∀ W', Below W.heap.size W W' → DataW.TrodAll enc Try.prog W' 0 (fun b => decide (b < W.heap.size)) true Try.f5.params.toList args.toList ds p :=
    fun W' bel => trodAll_below laidOut bel (by rw [Try.params5]; decide +kernel) hA fun x hx => by simpa using hlt x (by simpa using hx)
  have hA1 := hA
  rw [Try.params5] at hA1 hval
  obtain ⟨v0, vs0, d0, ds0, p0, q0, hargs, rfl, rfl, h0, r0⟩ := trodAll_cons hA1
  obtain ⟨v1, vs1, d1, ds1, p1, q1, rfl, rfl, rfl, h1, r1⟩ := trodAll_cons r0
  obtain ⟨rfl, rfl, rfl⟩ := trodAll_nil r1
  obtain rfl : args = #[v0, v1] := by cases args; simp_all
  have hcall : Calls Try.prog 5 #[v0, v1] W fun e w' => e = .returned (.bool true) ∧ Below W.heap.size W w' := by
    obtain ⟨x0, z0, y0⟩ := (RdA.slice Try.underlying35 (k := 2) (by kernel_rfl) (by decide) (fun _ => rfl) (RdT.two Try.underlying23 (RdT.int Try.underlying3) (RdT.int Try.underlying3) rfl (by kernel_rfl) (by kernel_rfl))) enc W _ _ _ _ _ (hval 0 35 v0 rfl rfl) h0
    obtain ⟨x1, z1, y1⟩ := (RdA.int Try.underlying3) enc W _ _ _ _ _ (hval 1 3 v1 rfl rfl) h1
    exact (law_HistogramOf x0 x1 []).law (.cons y0 (.cons y1 .nil))
  refine hcall.mono fun e W' ⟨he, bel⟩ => ?_
  subst he
  exact ⟨_, rfl, _, _, _, [], _, [], hW', trodAll_mk1 (shut_bool Try.underlying4 _), hback W' bel, rfl, bel.frame _, fun h => by cases h⟩
theorem over : Rows.fnExactHistogramOfRow.holds Try.pinned (OpenSpec.ofChange Rows.fnExactHistogramOfSpec) :=
  OpenClaim.holds_of_wide 5 Try.f5 rfl rfl rfl rfl rfl rfl rfl ⟨rfl, rfl, rfl, rfl, rfl⟩ rfl rfl rfl rfl rfl (by kernel_rfl) Try.func5 (by kernel_rfl)
    (of_decide_eq_true (by kernel_rfl)) (by unfold Func.isWrapper; first | (rw [if_pos (by decide +kernel)]; kernel_rfl) | (rw [if_neg (by decide +kernel)]; exact ⟨rfl, rfl⟩))
    (fun os started H enc _ => lifted os started H enc)
end LawHistogramOf
theorem fnExactHistogramOf_holds : Rows.FnExactHistogramOfSaid := LawHistogramOf.over
end Go.Proofs.Ytmgggjaphphkhaa
