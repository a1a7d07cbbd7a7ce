/- The abstract machine: from a contract to what a law's row asks. -/
import Derived.Test.YtmgggjaphphkhaaAbB
import Derived.WalkKit
import Derived.ProofKit
import Derived.OpenShut
import Derived.ShutString
import Derived.ChangeOld
import Derived.Below
import Derived.SizedLaws
import Derived.Carry
import Derived.Lib.SmallJoins
set_option linter.unusedVariables false
set_option linter.unusedSimpArgs false
namespace Go.Ab
open Go.ChangeShapes Go.WideShapes Go.ChangeAt Go.RowKit

/-- No block may be written. -/
def NoOwn (H : AHeap) : Prop := ∀ A, some A ∈ H → A.own = false
theorem AC.law {P : Program} {f : FuncId} {avs : List AV} {H : AHeap} {m : MMap} {w : World} {vs : List Value} (h : AC P f avs H fun v H' => v = .bool true ∧ H' = H) (hn : NoOwn H) (hH : HRel m H w) (hvs : RelL m avs vs) :
    Calls P f vs.toArray w fun e w' => e = .returned (.bool true) ∧ Below w.heap.size w w' :=
  (h.2 m w vs hH hvs).mono fun e w' ⟨v, r, m', H', he, h1, h2, h3, h4, h5⟩ => by
    subst h4
    rw [h2.bool_inv] at he
    refine ⟨he, h3.os, h3.tape, h3.output, h3.size, fun k hk => h3.block k hk ?_⟩
    rintro ⟨b, A, B, k1, k2, k3, _⟩
    rw [hn A (List.mem_of_getElem? k1)] at k3
    simp at k3

theorem trodAll_below {H : Type} {enc : TypeId × Value → H} {P : Program} (hl : laidOutB P = true) {W W' : World} (hb : Below W.heap.size W W') : ∀ {ts : List TypeId} {vs : List Value} {ds : List (DataW H)} {ps : List MemPlace},
    (∀ t ∈ ts, P.readableRec t = true ∧ t < P.types.size) → DataW.TrodAll enc P W 0 (fun _ => true) true ts vs ds ps → (∀ x ∈ ps, x.block < W.heap.size) → DataW.TrodAll enc P W' 0 (fun b => decide (b < W.heap.size)) true ts vs ds ps
  | [], vs, ds, ps, _, h, _ => by
    obtain ⟨rfl, rfl, rfl⟩ := trodAll_nil h
    exact trodAll_mk0
  | t :: ts, vs, ds, ps, hr, h, hlt => by
    obtain ⟨v0, vs0, d0, ds0, p0, q0, rfl, rfl, rfl, h0, r0⟩ := trodAll_cons h
    exact trodAll_cons_mk (Below.trod hl (hr t (by simp)).1 (hr t (by simp)).2 h0 hb fun x hx => hlt x (by simp [hx])) (trodAll_below hl hb (fun t ht => hr t (by simp [ht])) r0 fun x hx => hlt x (by simp [hx]))

theorem hrel0 (w : World) : HRel [] [] w := ⟨rfl, fun b A h => by simp at h, fun b b' A A' B B' _ h => by simp at h⟩
theorem noOwn0 : NoOwn [] := fun A h => by simp at h
end Go.Ab
