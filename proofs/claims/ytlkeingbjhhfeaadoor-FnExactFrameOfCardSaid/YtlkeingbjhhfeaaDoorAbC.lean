/- The abstract machine: from a contract to what a law's row asks. -/
import Derived.Test.YtlkeingbjhhfeaaDoorAbB
import Derived.WalkKit
import Derived.ProofKit
import Derived.OpenShut
import Derived.ShutString
import Derived.ChangeOld
import Derived.Below
import Derived.SizedLaws
import Derived.Carry
import Derived.Lib.SmallJoins
import Derived.Deep.Slices
set_option linter.unusedVariables false
set_option linter.unusedSimpArgs false
namespace Go.Ab
open Go.ChangeShapes Go.WideShapes Go.ChangeAt Go.RowKit Go.Deep

theorem AC.law {P : Program} {f : FuncId} {avs : List AV} {w : World} {vs : List Value} (h : AC P f avs [] fun v H' => v = .bool true ∧ H' = []) (hvs : RelL ⟨[], zAll w⟩ avs vs) :
    Calls P f vs.toArray w fun e w' => e = .returned (.bool true) ∧ Below w.heap.size w w' :=
  (h.2 _ w vs (hrelAll w) hvs).mono fun e w' ⟨v, r, m', H', he, h1, h2, h3, h4, h5⟩ => by
    subst h4
    rw [h2.bool_inv] at he
    exact ⟨he, h3.os, h3.tape, h3.output, h3.size, fun k hk => h3.block k hk img_nil⟩

theorem trodAll_below {H : Type} {enc : TypeId × Value → H} {P : Program} (hl : laidOutB P = true) {W W' : World} (hb : Below W.heap.size W W') : ∀ {ts : List TypeId} {vs : List Value} {ds : List (DataW H)} {ps : List MemPlace},
    (∀ t ∈ ts, P.readableRec t = true ∧ t < P.types.size) → DataW.TrodAll enc P W 0 (fun _ => true) true ts vs ds ps → (∀ x ∈ ps, x.block < W.heap.size) → DataW.TrodAll enc P W' 0 (fun b => decide (b < W.heap.size)) true ts vs ds ps
  | [], vs, ds, ps, _, h, _ => by
    obtain ⟨rfl, rfl, rfl⟩ := trodAll_nil h
    exact trodAll_mk0
  | t :: ts, vs, ds, ps, hr, h, hlt => by
    obtain ⟨v0, vs0, d0, ds0, p0, q0, rfl, rfl, rfl, h0, r0⟩ := trodAll_cons h
    exact trodAll_cons_mk (Below.trod hl (hr t (by simp)).1 (hr t (by simp)).2 h0 hb fun x hx => hlt x (by simp [hx])) (trodAll_below hl hb (fun t ht => hr t (by simp [ht])) r0 fun x hx => hlt x (by simp [hx]))

/-! ### Reading a law's arguments -/
def RdT (P : Program) (t : TypeId) {α : Type} (f : α → List AV) (p : α → Prop) : Prop :=
  ∀ {H : Type} (enc : TypeId × Value → H) (w : World) (fuel : Nat) (cs : List Value) (x : DataW H × List MemPlace), DataW.trod enc P w 0 (fun _ => true) true fuel t cs = some x → ∃ a : α, p a ∧ RelL ⟨[], zAll w⟩ (f a) cs ∧ onesA (f a)
theorem RelL.one {m : MMap} {v : AV} {r : Value} (h : Rel m v r) : RelL m [v] [r] := .cons h .nil
theorem RdT.int {P : Program} {t : TypeId} {k : IntKind} (ht : P.underlying t = some (.int k)) : RdT P t (fun n : Int => [AV.int k n]) (fun n => (Lit.int k n).wf = true) := fun enc w fuel cs x h => by
  obtain ⟨n, rfl, _, hw⟩ := DataW.trod_int ht h
  exact ⟨n, hw, .one (.int k n), by simp [onesA, AV.one]⟩
theorem RdT.bool {P : Program} {t : TypeId} (ht : P.underlying t = some .bool) : RdT P t (fun b : Bool => [AV.bool b]) (fun _ => True) := fun enc w fuel cs x h => by
  obtain ⟨b, rfl, _⟩ := DataW.trod_bool ht h
  exact ⟨b, trivial, .one (.bool b), by simp [onesA, AV.one]⟩
theorem RdT.str {P : Program} {t : TypeId} (ht : P.underlying t = some .string) : RdT P t (fun s : List UInt8 => [AV.str s]) (fun s => s.length ≤ maxLen) := fun enc w fuel cs x h => by
  obtain ⟨s, rfl, _, hs⟩ := DataW.trod_string ht h
  refine ⟨s.data.toList, by show s.data.toList.length ≤ maxLen; rw [Array.length_toList]; exact hs, .one ?_, by simp [onesA, AV.one]⟩
  have := Rel.str (m := ⟨[], zAll w⟩) s.data.toList
  simpa using this
theorem upto_list {α : Type} {Q : Nat → α → Prop} : ∀ n, (∀ i, i < n → ∃ a, Q i a) → ∃ xs : List α, xs.length = n ∧ ∀ i a, xs[i]? = some a → Q i a
  | 0, _ => ⟨[], rfl, fun i a h => by simp at h⟩
  | n + 1, h => by
    obtain ⟨xs, h1, h2⟩ := upto_list n fun i hi => h i (by omega)
    obtain ⟨a, ha⟩ := h n (by omega)
    refine ⟨xs ++ [a], by simp [h1], fun i b hb => ?_⟩
    rw [List.getElem?_append] at hb
    split at hb
    · exact h2 i b hb
    · have hi : i = n := by
        have := (List.getElem?_eq_some_iff.1 hb).1
        simp at this; omega
      subst hi
      rw [h1] at hb
      simp at hb; subst hb; exact ha
theorem RdT.slice {P : Program} {t e k : Nat} {α : Type} {f : α → List AV} {p : α → Prop} (ht : P.underlying t = some (.slice e)) (hk : P.cellsOf e = k) (hk0 : 0 < k) (hl : ∀ a, (f a).length = k) (he : RdT P e f p) :
    RdT P t (fun xs : List α => [AV.lst k (xs.map f)]) (fun xs => xs.length ≤ maxLen ∧ ∀ x ∈ xs, p x) := fun enc w fuel cs x h => by
  have ones : ∀ rows : List (List AV), onesA [AV.lst k rows] := fun rows v hv => by simp at hv; subst hv; rfl
  rcases open_slice ht h with ⟨rfl, h2⟩ | ⟨a, len, cap, m, n, D, Pl, rfl, h2, h3, h4, h5, h6, h7⟩
  · exact ⟨[], by simp, .one .lst0, ones _⟩
  · simp at h5
    subst h5
    rcases Nat.eq_zero_or_pos m with h0 | hpos
    · subst h0
      have : len = 0 := by omega
      subst this
      exact ⟨[], by simp, .one .lst0, ones _⟩
    · have hcell : ∀ i, i < m → ∃ a' : α, p a' ∧ onesA (f a') ∧ ∀ j v, (f a')[j]? = some v → ∃ r, w.cell? (a.add (i * k + j)) = some r ∧ Rel ⟨[], zAll w⟩ v r := fun i hi => by
        obtain ⟨cs', g1, g2⟩ := h7 i hi
        obtain ⟨a', b1, b2, b3⟩ := he enc w _ _ _ g2
        rw [hk] at g1
        obtain ⟨_, q2, q3⟩ := World.cells?_some g1
        refine ⟨a', b1, b3, fun j v hj => ?_⟩
        obtain ⟨r, r1, r2⟩ := b2.get hj
        have hjk : j < k := by rw [← q2]; exact (List.getElem?_eq_some_iff.1 r1).1
        refine ⟨r, ?_, r2⟩
        rw [← Addr.add_add, q3 j hjk]; exact r1
      obtain ⟨xs, x1, x2⟩ := upto_list len fun i hi => hcell i (by omega)
      obtain ⟨a0, _, _, c0⟩ := hcell 0 hpos
      obtain ⟨r0, c0, _⟩ := c0 0 _ (List.getElem?_eq_getElem (by rw [hl]; exact hk0))
      have e0 : a.add (0 * k + 0) = a := by simp [Addr.add]
      rw [e0] at c0
      obtain ⟨ab, ao, as'⟩ := a
      unfold World.cell? at c0
      split at c0
      · rename_i c e' fr hblk
        split at c0
        · simp at c0
        · rename_i hsp
          have hsp' : as' = none := by simpa using hsp
          subst hsp'
          have hz : zAll w ab = some c := by simp only at hblk; simp [zAll, hblk]
          have hget : ∀ (o : Nat) r, w.cell? ((⟨ab, ao, none⟩ : Addr).add o) = some r → c[ao + o]? = some r := fun o r hr => by
            rw [add_lit] at hr
            simp only at hblk
            simpa [World.cell?, hblk] using hr
          have hrow : ∀ (i : Nat) row, (xs.map f)[i]? = some row → ∃ a', xs[i]? = some a' ∧ row = f a' := fun i row hi => by
            rw [List.getElem?_map] at hi
            cases hx : xs[i]? with
            | none => rw [hx] at hi; simp at hi
            | some a' => rw [hx] at hi; simp at hi; exact ⟨a', rfl, hi.symm⟩
          have hall : ∀ (i j : Nat) row v r, (xs.map f)[i]? = some row → row[j]? = some v → c[ao + i * k + j]? = some r → r.oneCell' = true ∧ Rel ⟨[], zAll w⟩ v r := fun i j row v r b1 b2 b3 => by
            obtain ⟨a', hx, rfl⟩ := hrow i row b1
            obtain ⟨_, y2, y3⟩ := x2 i a' hx
            obtain ⟨r', z1, z2⟩ := y3 j v b2
            have := hget _ r' z1
            rw [← Nat.add_assoc, b3] at this
            injection this with this; subst this
            exact ⟨(z2.one (y2 v (List.mem_of_getElem? b2))).2, z2⟩
          refine ⟨xs, ⟨by omega, fun x hx => ?_⟩, .one (.lst (off := ao) hz (by simpa using x1) h3 ?_ (by omega) (fun i row hi => ?_) (fun i j row v r b1 b2 b3 => (hall i j row v r b1 b2 b3).1) (fun i j row v r b1 b2 b3 => (hall i j row v r b1 b2 b3).2)), ones _⟩
          · obtain ⟨i, hi⟩ := List.getElem?_of_mem hx
            exact (x2 i x hi).1
          · obtain ⟨a1, _, _, d1⟩ := hcell (m - 1) (by omega)
            obtain ⟨r1, d1, _⟩ := d1 (k - 1) _ (List.getElem?_eq_getElem (by rw [hl]; omega))
            have d2 := (Array.getElem?_eq_some_iff.1 (hget _ _ d1)).1
            have d3 : (m - 1) * k + k = m * k := by rw [← Nat.succ_mul]; congr 1; omega
            omega
          · obtain ⟨a', hx, rfl⟩ := hrow i row hi
            exact hl a'
      · simp at c0
theorem RelL.cut {m : MMap} {l : List AV} {cs : List Value} {k : Nat} {l1 : List AV} (h : RelL m l (cs.take k)) (h1 : RelL m l1 (cs.drop k)) : RelL m (l ++ l1) cs := by
  have := h.append h1
  rwa [List.take_append_drop] at this
/-- A struct of two fields. -/
theorem RdT.two {P : Program} {t : TypeId} {f0 f1 : Field} {α β : Type} {g0 : α → List AV} {g1 : β → List AV} {p0 : α → Prop} {p1 : β → Prop} (ht : P.underlying t = some (.struct #[f0, f1])) (h0 : RdT P f0.type g0 p0) (h1 : RdT P f1.type g1 p1)
    (o0 : f0.offset = 0) (o1 : f1.offset = P.cellsOf f0.type) (hn : P.cellsOf t = P.cellsOf f0.type + P.cellsOf f1.type) : RdT P t (fun x : α × β => g0 x.1 ++ g1 x.2) (fun x => p0 x.1 ∧ p1 x.2) := fun enc w fuel cs x h => by
  obtain ⟨xs, n, _, _, hl, hlen, hf⟩ := DataW.trod_struct ht h
  have e0 := hf 0 f0 rfl
  have e1 := hf 1 f1 rfl
  simp at hlen
  rw [List.getElem?_eq_getElem (by omega)] at e0 e1
  rw [o0, List.drop_zero] at e0
  rw [o1, List.take_of_length_le (by simp; omega)] at e1
  obtain ⟨a, a1, a2, a3⟩ := h0 enc w _ _ _ e0
  obtain ⟨b, b1, b2, b3⟩ := h1 enc w _ _ _ e1
  refine ⟨(a, b), ⟨a1, b1⟩, .cut a2 b2, fun v hv => ?_⟩
  rcases List.mem_append.1 hv with q | q
  · exact a3 v q
  · exact b3 v q
/-- A struct of one field. -/
theorem RdT.one {P : Program} {t : TypeId} {f0 : Field} {α : Type} {g0 : α → List AV} {p0 : α → Prop} (ht : P.underlying t = some (.struct #[f0])) (h0 : RdT P f0.type g0 p0)
    (o0 : f0.offset = 0) (hn : P.cellsOf t = P.cellsOf f0.type) : RdT P t g0 p0 := fun enc w fuel cs x h => by
  obtain ⟨xs, n, _, _, hl, hlen, hf⟩ := DataW.trod_struct ht h
  have e0 := hf 0 f0 rfl
  simp at hlen
  rw [List.getElem?_eq_getElem (by omega)] at e0
  rw [o0, List.drop_zero, List.take_of_length_le (by omega)] at e0
  exact h0 enc w _ _ _ e0

def RdA (P : Program) (t : TypeId) {α : Type} (g : α → AV) (p : α → Prop) : Prop :=
  ∀ {H : Type} (enc : TypeId × Value → H) (w : World) (r : Reach) (b0 : Nat) (v : Value) (d : DataW H) (ps : List MemPlace), Value.okWide P w r b0 t v → DataW.Trod enc P w 0 (fun _ => true) true t v d ps → ∃ a : α, p a ∧ Rel ⟨[], zAll w⟩ (g a) v
theorem RdA.of1 {P : Program} {t : TypeId} {α : Type} {g : α → AV} {p : α → Prop} (h : RdT P t (fun a => [g a]) p) (hc : ∀ (w : World) (r : Reach) (b0 : Nat) (v : Value), Value.okWide P w r b0 t v → v.cells.toList = [v]) : RdA P t g p := fun enc w r b0 v d ps hv ⟨fuel, hf⟩ => by
  obtain ⟨a, h1, h2, _⟩ := h enc w fuel _ _ hf
  rw [hc w r b0 v hv] at h2
  exact ⟨a, h1, h2.2 0 _ _ rfl rfl⟩
theorem RdA.int {P : Program} {t : TypeId} {k : IntKind} (ht : P.underlying t = some (.int k)) : RdA P t (fun n : Int => AV.int k n) (fun n => (Lit.int k n).wf = true) := RdA.of1 (RdT.int ht) fun w r b0 v hv => by
  obtain ⟨n, rfl⟩ := okWide_int ht hv; rfl
theorem RdA.bool {P : Program} {t : TypeId} (ht : P.underlying t = some .bool) : RdA P t (fun b : Bool => AV.bool b) (fun _ => True) := RdA.of1 (RdT.bool ht) fun w r b0 v hv => by
  obtain ⟨n, rfl⟩ := okWide_bool ht hv; rfl
theorem RdA.str {P : Program} {t : TypeId} (ht : P.underlying t = some .string) : RdA P t (fun s : List UInt8 => AV.str s) (fun s => s.length ≤ maxLen) := RdA.of1 (RdT.str ht) fun w r b0 v hv => by
  obtain ⟨n, rfl⟩ := okWide_string ht hv; rfl
theorem RdA.slice {P : Program} {t e k : Nat} {α : Type} {f : α → List AV} {p : α → Prop} (ht : P.underlying t = some (.slice e)) (hk : P.cellsOf e = k) (hk0 : 0 < k) (hl : ∀ a, (f a).length = k) (he : RdT P e f p) :
    RdA P t (fun xs : List α => AV.lst k (xs.map f)) (fun xs => xs.length ≤ maxLen ∧ ∀ x ∈ xs, p x) := RdA.of1 (RdT.slice ht hk hk0 hl he) fun w r b0 v hv => by
  obtain ⟨a, l, c, rfl⟩ := okWide_slice ht hv; rfl
theorem RdA.struct {P : Program} {t : TypeId} {fs : Array Field} {α : Type} {f : α → List AV} {p : α → Prop} (ht : P.underlying t = some (.struct fs)) (h : RdT P t f p) : RdA P t (fun a => AV.agg (f a)) p := fun enc w r b0 v d ps hv ⟨fuel, hf⟩ => by
  obtain ⟨cs, rfl, _⟩ := okWide_struct ht hv
  obtain ⟨a, h1, h2, _⟩ := h enc w fuel _ _ hf
  refine ⟨a, h1, ?_⟩
  have := Rel.agg h2.1 h2.2
  simpa [Value.cells] using this
end Go.Ab
/- The abstract machine: contracts of whole functions. -/
set_option linter.unusedVariables false
set_option linter.unusedSimpArgs false
namespace Go.Ab

theorem BelL_nil (N : Nat) : BelL N [] = True := eq_true .nil
theorem BelL_cons (N : Nat) (v : AV) (l : List AV) : BelL N (v :: l) = (Bel N v ∧ BelL N l) := by
  apply propext; constructor
  · intro h; exact ⟨h v (by simp), fun u hu => h u (by simp [hu])⟩
  · rintro ⟨h1, h2⟩; exact .cons h1 h2
theorem RV_fn (f : Nat → Nat) (N : Nat) (g g' : FuncId) (l l' : List AV) : RV f N (.fn g l) (.fn g' l') = (g = g' ∧ rvv f N l l') := by
  apply propext; rw [rvv_iff]; constructor
  · intro h; cases h with | fn hl h => exact ⟨rfl, hl, h⟩
  · rintro ⟨rfl, h1, h2⟩; exact .fn h1 h2
section
variable (H : AHeap)
theorem OVi (k : IntKind) (n m : Int) : OV H (.int k n) (.int k m) = (n = m) := by
  apply propext; exact ⟨fun h => by cases h; rfl, OV_int H k n m⟩
theorem OVb (n m : Bool) : OV H (.bool n) (.bool m) = (n = m) := by
  apply propext; exact ⟨fun h => by cases h; rfl, OV_bool H n m⟩
theorem OVs (n m : List UInt8) : OV H (.str n) (.str m) = (n = m) := by
  apply propext; exact ⟨fun h => by cases h; rfl, OV_str H n m⟩
theorem OVl (sz : Nat) (n m : List (List AV)) : OV H (.lst sz n) (.lst sz m) = (n = m) := by
  apply propext; exact ⟨fun h => by cases h; rfl, OV_lst H sz n m⟩
theorem OVn (sz : Nat) (m : List (List AV)) : OV H .nil (.lst sz m) = (m = []) := by
  apply propext; exact ⟨fun h => by cases h; rfl, OV_nil H sz m⟩
theorem ovv_nil : ovv H [] [] = True := _root_.id rfl
theorem ovv_cons (v v' : AV) (l l' : List AV) : ovv H (v :: l) (v' :: l') = (OV H v v' ∧ ovv H l l') := _root_.id rfl
theorem ovv_refl {N : Nat} (hN : N = 0) : ∀ {l : List AV}, BelL N l → ovv H l l
  | [], _ => trivial
  | v :: l, h => by subst hN; exact ⟨.clo (h v (by simp)), ovv_refl rfl fun u hu => h u (by simp [hu])⟩
theorem bel_of_tup {N : Nat} {l : List AV} (h : Bel N (.tup l)) : BelL N l := fun v hv => by
  cases h with | tup hl h =>
  obtain ⟨i, hi⟩ := List.getElem?_of_mem hv
  exact h i v v hi hi
theorem bel_of_agg {N : Nat} {l : List AV} (h : Bel N (.agg l)) : BelL N l := fun v hv => by
  cases h with | agg hl h =>
  obtain ⟨i, hi⟩ := List.getElem?_of_mem hv
  exact h i v v hi hi
theorem ovv_of : ∀ {l l' : List AV}, l'.length = l.length → (∀ (i : Nat) v' v, l'[i]? = some v' → l[i]? = some v → OV H v' v) → ovv H l' l
  | [], [], _, _ => trivial
  | [], _ :: _, h, _ => by simp at h
  | _ :: _, [], h, _ => by simp at h
  | v :: l, v' :: l', h, k => ⟨k 0 _ _ rfl rfl, ovv_of (by simpa using h) fun i a b ha hb => k (i + 1) a b (by simpa using ha) (by simpa using hb)⟩
theorem OVt (l l' : List AV) : OV H (.tup l) (.tup l') = ovv H l l' := by
  apply propext
  refine ⟨fun h => ?_, OV_tup H⟩
  cases h with
  | clo h => exact ovv_refl H rfl (bel_of_tup h)
  | tup hl h => exact ovv_of H hl h
theorem OVa (l l' : List AV) : OV H (.agg l) (.agg l') = ovv H l l' := by
  apply propext
  refine ⟨fun h => ?_, OV_agg H⟩
  cases h with
  | clo h => exact ovv_refl H rfl (bel_of_agg h)
  | agg hl h => exact ovv_of H hl h
end
/-- A fresh slice comes back, one's own. -/
def Own1 (sz : Nat) (rows : List (List AV)) (v0 : AV) (v' : AV) (H' : AHeap) : Prop := ∃ b, (hget H' b = some ⟨true, sz, rows⟩ ∨ (rows = [] ∧ b = H'.length)) ∧ RV (kf [b]) 1 v0 v'
theorem AC.own {P : Program} {f : FuncId} {args : List AV} {sz : Nat} {rows : List (List AV)} {v0 : AV} (hc : Clo rows) (h : AC P f args [] (Own1 sz rows v0)) : AC P f args [] fun v' H' => v' = v0 ∧ H' = [some ⟨true, sz, rows⟩] :=
  h.retell fun _ v' H' ⟨b, hb, hv⟩ => by
    refine ⟨v0, [some ⟨true, sz, rows⟩], ?_, rfl, rfl⟩
    have hk : keepF 0 [b] = kf [b] := by funext c; simp [keepF, kf]
    have main : ∀ szs : List Nat, hget (H' ++ virts szs) b = some ⟨true, sz, rows⟩ → Retell 0 H' (fun _ => v') [some ⟨true, sz, rows⟩] (fun _ => v0) := fun szs hb => by
      have hlt := hget_lt hb
      have hd : (H' ++ virts szs).getD b none = some ⟨true, sz, rows⟩ := hb
      have := HRen.keep (H0 := []) (H1 := []) (J := H' ++ virts szs) (J' := [some ⟨true, sz, rows⟩]) [b] rfl (fun _ _ h => h) (by simpa using hlt) (by simp) (by simp only [List.map_cons, List.map_nil, hd]) (fun A h => by simp at h) (fun A hA => by simp at hA; subst hA; exact hc)
      exact Retell.ren (f := kf [b]) szs (by simpa [hk] using this) fun _ => hv
    rcases hb with hb | ⟨rfl, rfl⟩
    · exact main [] (by simpa [virts] using hb)
    · exact main [sz] (by simp [virts, hget])
/-- What one's own contract tells of frozen results. -/
theorem AC.thaw {P : Program} {f : FuncId} {args : List AV} {J : AHeap} {v0 v : AV} (hb : BelL 0 args) (h : AC P f args [] fun v' H' => v' = v0 ∧ H' = J) (hv : OV J v0 v) (H : AHeap) : AC P f args H fun v' H' => v' = v ∧ H' = H :=
  AC.pure hb (h.mono fun v' H' ⟨h1, h2⟩ => by rw [h1, h2]; exact hv) H
/-- Lent slices, and a result that shares nothing. -/
theorem AC.lend0 {P : Program} {f : FuncId} {args args0 : List AV} {v0 v : AV} {H : AHeap} (hargs : LendL H args args0) (h : AC P f args0 [] fun v' H' => v' = v0 ∧ H' = []) (hv : ShZ H.length v0 v) : AC P f args H fun v' H' => v' = v ∧ H' = H := by
  have := AC.lend (J := []) hargs h hv trivial
  simpa using this
theorem Lend.sl0 {H : AHeap} {b n sz : Nat} {own : Bool} {rows : List (List AV)} (hb : hget H b = some ⟨own, sz, rows⟩) (hn : n = rows.length) (hc : Clo rows) : Lend H (.sl b 0 n) (.lst sz rows) := by
  subst hn
  exact .sl hb (by simp) hc rfl (by simp)
theorem Lend.int {H : AHeap} {k : IntKind} {n : Int} : Lend H (.int k n) (.int k n) := .id .i
theorem Lend.bool {H : AHeap} {n : Bool} : Lend H (.bool n) (.bool n) := .id .b
theorem Lend.str {H : AHeap} {n : List UInt8} : Lend H (.str n) (.str n) := .id .s
theorem Lend.lst {H : AHeap} {sz : Nat} {rows : List (List AV)} : Lend H (.lst sz rows) (.lst sz rows) := .id (.lst _ _)
def shvv (N : Nat) : List AV → List AV → Prop
  | [], [] => True
  | v :: l, v' :: l' => ShZ N v v' ∧ shvv N l l'
  | _, _ => False
theorem shvv_get {N : Nat} : ∀ {l l' : List AV}, shvv N l l' → l'.length = l.length ∧ ∀ (i : Nat) v v', l[i]? = some v → l'[i]? = some v' → ShZ N v v'
  | [], [], _ => ⟨rfl, fun i v v' h => by simp at h⟩
  | [], _ :: _, h => h.elim
  | _ :: _, [], h => h.elim
  | v :: l, v' :: l', h => by
    obtain ⟨h1, h2⟩ := shvv_get h.2
    refine ⟨by simp [h1], fun i a b ha hb => ?_⟩
    cases i with
    | zero => simp at ha hb; subst ha; subst hb; exact h.1
    | succ i => simp at ha hb; exact h2 i a b ha hb
theorem ShZ.tupl {N : Nat} {l l' : List AV} (h : shvv N l l') : ShZ N (.tup l) (.tup l') := .tup (shvv_get h).1 (shvv_get h).2
theorem ShZ.aggl {N : Nat} {l l' : List AV} (h : shvv N l l') : ShZ N (.agg l) (.agg l') := .agg (shvv_get h).1 (shvv_get h).2
/-- Cells that name nothing and nothing frozen. -/
def Raw (rows : List (List AV)) : Prop := ∀ N, ∀ row ∈ rows, ∀ v ∈ row, ShZ N v v
theorem Raw.map {α : Type} {f : α → List AV} (h : ∀ N x, ∀ v ∈ f x, ShZ N v v) (xs : List α) : Raw (xs.map f) := fun N r hr v hv => by
  obtain ⟨x, _, rfl⟩ := List.mem_map.1 hr
  exact h N x v hv
theorem ShB.raw {N sz : Nat} {own : Bool} {rows : List (List AV)} (h : Raw rows) : ShB N ⟨own, sz, rows⟩ ⟨own, sz, rows⟩ := ⟨rfl, rfl, rfl, fun i row row0 h1 h2 => by
  rw [h1] at h2; injection h2 with h2; subst h2
  exact ⟨rfl, fun j v v0 h3 h4 => by
    rw [h3] at h4; injection h4 with h4; subst h4
    exact h N row (List.mem_of_getElem? h1) v (List.mem_of_getElem? h3)⟩⟩
theorem LendL.n {H : AHeap} : LendL H [] [] := trivial
theorem LendL.c {H : AHeap} {v v' : AV} {l l' : List AV} (h : Lend H v v') (t : LendL H l l') : LendL H (v :: l) (v' :: l') := ⟨h, t⟩
theorem shvv.n {N : Nat} : shvv N [] [] := trivial
theorem shvv.c {N : Nat} {v v' : AV} {l l' : List AV} (h : ShZ N v v') (t : shvv N l l') : shvv N (v :: l) (v' :: l') := ⟨h, t⟩
theorem ShH.n {N : Nat} : ShH N [] [] := trivial
theorem ShH.c {N : Nat} {A A' : Blk} {l l' : AHeap} (h : ShB N A A') (t : ShH N l l') : ShH N (some A :: l) (some A' :: l') := ⟨h, t⟩
theorem ShH.raw {N sz : Nat} {own : Bool} {rows : List (List AV)} (h : Raw rows) : ShH N [some ⟨own, sz, rows⟩] [some ⟨own, sz, rows⟩] := .c (.raw h) .n
theorem shz1 {N : Nat} {v : AV} (h : ShZ N v v) : ∀ u ∈ [v], ShZ N u u := fun u hu => by simp at hu; subst hu; exact h

/-! ### Lists of elements -/
def rI (n : Int) : List AV := [.i n]
def rS (s : List UInt8) : List AV := [.str s]
def rR (x : Int × Int) : List AV := [.i x.1, .i x.2]
def rP (p : (Int × Int) × (Int × Int)) : List AV := [.i p.1.1, .i p.1.2, .i p.2.1, .i p.2.2]
theorem rI_eq (n : Int) : rI n = [.i n] := _root_.id rfl
theorem rS_eq (n : List UInt8) : rS n = [.str n] := _root_.id rfl
theorem rR_eq (x : Int × Int) : rR x = [.i x.1, .i x.2] := _root_.id rfl
theorem rP_eq (p : (Int × Int) × (Int × Int)) : rP p = [.i p.1.1, .i p.1.2, .i p.2.1, .i p.2.2] := _root_.id rfl
abbrev lI (xs : List Int) : AV := .lst 1 (xs.map rI)
abbrev lS (xs : List (List UInt8)) : AV := .lst 1 (xs.map rS)
abbrev lR (xs : List (Int × Int)) : AV := .lst 2 (xs.map rR)
abbrev lP (xs : List ((Int × Int) × (Int × Int))) : AV := .lst 4 (xs.map rP)
abbrev rat (x : Int × Int) : AV := .agg [.i x.1, .i x.2]
abbrev pnt (p : (Int × Int) × (Int × Int)) : AV := .agg [.i p.1.1, .i p.1.2, .i p.2.1, .i p.2.2]
theorem bel_rI (n : Int) : BelL 0 (rI n) := .cons .i .nil
theorem bel_rS (n : List UInt8) : BelL 0 (rS n) := .cons .s .nil
theorem bel_rR (x : Int × Int) : BelL 0 (rR x) := .cons .i (.cons .i .nil)
theorem bel_rP (x : (Int × Int) × (Int × Int)) : BelL 0 (rP x) := .cons .i (.cons .i (.cons .i (.cons .i .nil)))
theorem raw_rI (N : Nat) (n : Int) : ∀ v ∈ rI n, ShZ N v v := fun v hv => by simp [rI] at hv; subst hv; exact .int _ _ _
theorem raw_rS (N : Nat) (n : List UInt8) : ∀ v ∈ rS n, ShZ N v v := fun v hv => by simp [rS] at hv; subst hv; exact .str _ _
theorem raw_rR (N : Nat) (x : Int × Int) : ∀ v ∈ rR x, ShZ N v v := fun v hv => by
  simp [rR] at hv; rcases hv with rfl | rfl <;> exact .int _ _ _
theorem raw_rP (N : Nat) (x : (Int × Int) × (Int × Int)) : ∀ v ∈ rP x, ShZ N v v := fun v hv => by
  simp [rP] at hv; rcases hv with rfl | rfl | rfl | rfl <;> exact .int _ _ _
theorem rl_rI (xs : List Int) : rowsLen 1 (xs.map rI) = True := rowsLen_map (f := rI) (fun _ => rfl) xs
theorem rl_rS (xs : List (List UInt8)) : rowsLen 1 (xs.map rS) = True := rowsLen_map (f := rS) (fun _ => rfl) xs
theorem rl_rR (xs : List (Int × Int)) : rowsLen 2 (xs.map rR) = True := rowsLen_map (f := rR) (fun _ => rfl) xs
theorem rl_rP (xs : List ((Int × Int) × (Int × Int))) : rowsLen 4 (xs.map rP) = True := rowsLen_map (f := rP) (fun _ => rfl) xs
theorem getD_map {α : Type} (f : α → List AV) {xs : List α} {i : Nat} (h : i < xs.length) : (xs.map f).getD i [] = f xs[i] := by
  rw [List.getD_eq_getElem?_getD, List.getElem?_map, List.getElem?_eq_getElem h]; rfl
theorem get_map {α : Type} (f : α → List AV) {xs : List α} {i : Nat} (h : i < xs.length) : (xs.map f)[i]? = some (f xs[i]) := by
  rw [List.getElem?_map, List.getElem?_eq_getElem h]; rfl
theorem drop_map {α : Type} (f : α → List AV) (xs : List α) (i : Nat) : (xs.map f).drop i = (xs.drop i).map f := by rw [List.map_drop]
theorem take_map {α : Type} (f : α → List AV) (xs : List α) (i : Nat) : (xs.map f).take i = (xs.take i).map f := by rw [List.map_take]
theorem w64 (n : Int) (h0 : -9223372036854775808 ≤ n) (h1 : n < 9223372036854775808) : IntKind.i64.wrap n = n := by
  simp [IntKind.wrap, IntKind.bits, IntKind.signed]; omega
theorem w64s (k : Nat) (h : k < 9223372036854775807) : IntKind.i64.wrap ((k : Int) + 1) = ((k + 1 : Nat) : Int) := by rw [w64 _ (by omega) (by omega)]; rfl
theorem nat_lt {a b : Nat} : ((a : Int) < (b : Int)) = (a < b) := by apply propext; omega
theorem n0 : ((0 : Nat) : Int) = 0 := _root_.id rfl
theorem n1 : ((1 : Nat) : Int) = 1 := _root_.id rfl
theorem n2 : ((2 : Nat) : Int) = 2 := _root_.id rfl
theorem n3 : ((3 : Nat) : Int) = 3 := _root_.id rfl
theorem n4 : ((4 : Nat) : Int) = 4 := _root_.id rfl
theorem nat_neg (n : Nat) : ((n : Int) < 0) = False := eq_false (by omega)
theorem max_eq : maxLen = 9223372036854775807 := rfl

/-- The lengths of the lists among the arguments are those that a slice can have. -/
theorem AC.len {P : Program} {f : FuncId} {args : List AV} {H : AHeap} {Q : AV → AHeap → Prop} (i : Nat) {sz : Nat} {rows : List (List AV)} (ha : args[i]? = some (.lst sz rows)) (h : rows.length ≤ 9223372036854775807 → AC P f args H Q) (hcall : Callable P f) : AC P f args H Q :=
  ⟨hcall, fun m w vs hm hv => by
    obtain ⟨r, h1, h2⟩ := hv.get ha
    have : rows.length ≤ 9223372036854775807 := by
      cases h2 with
      | lst a1 a2 a3 a4 a5 a6 a7 a8 => rw [← max_eq]; omega
      | lst0 => simp
    exact (h this).2 m w vs hm hv⟩
attribute [go_sem] BelL_nil BelL_cons RV_fn OVi OVb OVs OVl OVn ovv_nil ovv_cons OVt OVa rl_rI rl_rS rl_rR rl_rP rI_eq rS_eq rR_eq rP_eq eq_self drop_map take_map nat_lt n0 n1 n2 n3 n4 nat_neg beq_self_eq_true
end Go.Ab
/- The abstract machine: contracts of the library's. -/
set_option linter.unusedVariables false
set_option linter.unusedSimpArgs false
namespace Go.Ab
/-- A contract of the model's own, of a function that shares no memory. -/
theorem AC.ext {P : Program} {f : FuncId} {avs : List AV} {v : AV} (hc : Callable P f)
    (h : ∀ (m : MMap) (w : World) (vs : List Value), RelL m avs vs → Calls P f vs.toArray w fun e w' => ∃ r, e = .returned r ∧ Rel ⟨[], fun _ => none⟩ v r ∧ RowKit.Below w.heap.size w w') (H : AHeap) : AC P f avs H fun v' H' => v' = v ∧ H' = H :=
  ⟨hc, fun m w vs hm hv => (h m w vs hv).mono fun e w' ⟨r, he, hr, hb⟩ => by
    have hold : ∀ r, r < w.heap.size → w'.heap[r]? = w.heap[r]? := fun r hr => hb.block r hr
    exact ⟨v, r, m, H, he, hm.world hold, hr.mono ⟨fun b B h => by simp at h, fun r c h => by simp at h⟩, Stp.world hb.os hb.tape hb.output hb.size hold, rfl, rfl⟩⟩
theorem Below.rfl0 (w : World) : RowKit.Below w.heap.size w w := ⟨rfl, rfl, rfl, Nat.le_refl _, fun _ _ => rfl⟩
theorem rel_str1 {m : MMap} {s : List UInt8} {vs : List Value} (h : RelL m [.str s] vs) : vs = [.string ⟨s.toArray⟩] := by
  obtain ⟨h1, h2⟩ := h
  match vs, h1 with
  | [r], _ => rw [(h2 0 _ r rfl rfl).str_inv]
theorem rel_str2 {m : MMap} {s t : List UInt8} {vs : List Value} (h : RelL m [.str s, .str t] vs) : vs = [.string ⟨s.toArray⟩, .string ⟨t.toArray⟩] := by
  obtain ⟨h1, h2⟩ := h
  match vs, h1 with
  | [r, q], _ => rw [(h2 0 _ r rfl rfl).str_inv, (h2 1 _ q rfl rfl).str_inv]
theorem rel_str_int {m : MMap} {s : List UInt8} {k : IntKind} {n : Int} {vs : List Value} (h : RelL m [.str s, .int k n] vs) : vs = [.string ⟨s.toArray⟩, .int k n] := by
  obtain ⟨h1, h2⟩ := h
  match vs, h1 with
  | [r, q], _ => rw [(h2 0 _ r rfl rfl).str_inv, (h2 1 _ q rfl rfl).int_inv]
end Go.Ab
