import Derived.Test.YtlkeingbjhhfeaaDoorAbC
import Derived.Test.YtlkeingbjhhfeaaDoorTy
import Derived.Lib.Builder
import Derived.WalkKit
import Derived.Laws.Externs
import Derived.Shelf.Strings.Builder1
import Derived.Shelf.Strings.Builder2
import Derived.Shelf.Strings.Trim
import Derived.Shelf.Small.Utf8
import Derived.Shelf.Small.Strs
import Derived.Shelf.Strings.BuilderF
import Derived.Shelf.Strings.BuilderK
import Derived.Shelf.Strings.Builder2Cap
import Derived.Shelf.Strings.Search1
import Derived.Shelf.Strings.Prefix
import Derived.Shelf.Unicode.Decode
import Derived.Shelf.Strings.Runes
import Derived.Shelf.Strings.AsciiSet
import Derived.Shelf.Bits.Mul64
import Derived.Shelf.Strings.Repeat
import Derived.Shelf.Unicode.DecodeSlow
import Derived.Shelf.Unicode.DecodeAny
import Derived.Shelf.Unicode.DecodeLast
import Derived.Shelf.Strings.BuilderCap
import Derived.Test.YtlkeingbjhhfeaaDoorProg
import Derived.Lib.Repeat
import Derived.Shelf.Strings.SlTrimAscii
import Derived.Lib.SmallJoins
import Derived.KernelRfl
set_option linter.unusedVariables false
set_option linter.unusedSimpArgs false
namespace Go.Ab
open Go.Proofs
abbrev Str := List UInt8
theorem avi {a b : Int} (h : a = b) : AV.i a = AV.i b := congrArg AV.i h
theorem impl_within (n lo hi : Int) : ∀ H, AC Tryd.prog 16 [.i n, .i lo, .i hi] H (fun v H' => v = .bool (decide (lo ≤ n) && decide (n ≤ hi)) ∧ H' = H) := by
  refine AC.pure (by simp only [go_sem]) (AC.enter (tbl0) (by kernel_rfl) Tryd.func16 rfl (by kernel_rfl) (by kernel_rfl) (by simp [Tryd.ntmps16]) Tryd.results16 ?_)
  simp only [go_sem]
  refine ⟨fun h => ?_, fun h => ?_⟩ <;> simp [h]
theorem spec_l1In (n lo hi : Int) : ∀ H, AC Tryd.prog 15 [.i n, .i lo, .i hi] H (fun v H' => v = .bool (decide (lo ≤ n) && decide (n ≤ hi)) ∧ H' = H) := by
  refine AC.pure (by simp only [go_sem]) (AC.enter (tbl0) (by kernel_rfl) Tryd.func15 rfl (by kernel_rfl) (by kernel_rfl) (by simp [Tryd.ntmps15]) Tryd.results15 ?_)
  simp only [go_sem]
  refine ⟨fun h => ?_, fun h => ?_⟩ <;> simp [h]
theorem gcd_step (x n : Nat) : Nat.gcd n (x % n) = Nat.gcd x n := by rw [Nat.gcd_comm x n, Nat.gcd_rec n x, Nat.gcd_comm]
end Go.Ab
set_option linter.unusedVariables false
set_option linter.unusedSimpArgs false
namespace Go.Ab
open Go.Proofs
abbrev Rt := Int × Int
def goodR (x : Rt) : Bool := (decide (1 ≤ x.2) && decide (x.2 ≤ 1000000000)) && (decide (-1000000000 ≤ x.1) && decide (x.1 ≤ 1000000000)) && decide (Int.gcd x.1 x.2 = 1)
def unitR (x : Rt) : Bool := goodR x && (decide (0 ≤ x.1) && decide (x.1 ≤ x.2))
theorem goodR_b {x : Rt} (h : goodR x = true) : 1 ≤ x.2 ∧ x.2 ≤ 1000000000 ∧ -1000000000 ≤ x.1 ∧ x.1 ≤ 1000000000 := by
  simp [goodR] at h; omega
theorem unitR_b {x : Rt} (h : unitR x = true) : 0 ≤ x.1 ∧ x.1 ≤ x.2 ∧ 1 ≤ x.2 ∧ x.2 ≤ 1000000000 := by
  simp [unitR, goodR] at h; omega
/-- The cell of a fraction. -/
def cellN (x : Rt) (w : Int) : Int := min ((x.1 * w).tdiv x.2) (w - 1)
theorem mul_b {n w : Int} (h0 : 0 ≤ n) (h1 : n ≤ 1000000000) (hw : 1 ≤ w) (hw' : w ≤ 1000) : 0 ≤ n * w ∧ n * w ≤ 1000000000000 :=
  ⟨Int.mul_nonneg h0 (by omega), by
    have := Int.mul_le_mul h1 hw' (by omega) (by omega : (0 : Int) ≤ 1000000000)
    omega⟩
theorem tdiv_b {a b M : Int} (h0 : 0 ≤ a) (h1 : a ≤ M) (hb : 1 ≤ b) : 0 ≤ a.tdiv b ∧ a.tdiv b ≤ M := by
  rw [Int.tdiv_eq_ediv_of_nonneg h0]
  exact ⟨Int.ediv_nonneg h0 (by omega), Int.le_trans (Int.ediv_le_self b h0) h1⟩
theorem cellN_b {x : Rt} {w : Int} (h : unitR x = true) (hw : 1 ≤ w) : 0 ≤ cellN x w ∧ cellN x w < w := by
  obtain ⟨h1, h2, h3, h4⟩ := unitR_b h
  have : 0 ≤ (x.1 * w).tdiv x.2 := by
    rw [Int.tdiv_eq_ediv_of_nonneg (Int.mul_nonneg h1 (by omega))]
    exact Int.ediv_nonneg (Int.mul_nonneg h1 (by omega)) (by omega)
  unfold cellN
  omega
/-- What CellOf returns. -/
def cellB (x : Rt) (w : Int) : Bool := unitR x && (decide (1 ≤ w) && decide (w ≤ 1000))
def cellV (x : Rt) (w : Int) : Int := if cellB x w then cellN x w else 0
end Go.Ab
set_option linter.unusedVariables false
set_option linter.unusedSimpArgs false
namespace Go.Ab
open Go.Proofs
def idxF {α : Type} (p : α → Bool) (xs : List α) : Int := match xs.findIdx? p with | some i => (i : Int) | none => -1
theorem take_none {α : Type} {p : α → Bool} {xs : List α} {i : Nat} (h : i < xs.length) (hf : (xs.take i).findIdx? p = none) (hn : p xs[i] = false) : (xs.take (i + 1)).findIdx? p = none := by
  rw [List.findIdx?_eq_none_iff] at hf ⊢
  intro x hx
  rw [List.take_succ_eq_append_getElem h] at hx
  rcases List.mem_append.1 hx with q | q
  · exact hf x q
  · simp at q; subst q; exact hn
theorem idxF_at {α : Type} {p : α → Bool} {xs : List α} {i : Nat} (h : i < xs.length) (hf : (xs.take i).findIdx? p = none) (ht : p xs[i] = true) : idxF p xs = i := by
  have e : xs = xs.take i ++ xs[i] :: xs.drop (i + 1) := by rw [← List.drop_eq_getElem_cons h, List.take_append_drop]
  have hl : (xs.take i).length = i := by simp; omega
  unfold idxF
  rw [e, List.findIdx?_append, hf, List.findIdx?_cons, ht]
  simp; omega
theorem idxF_any {α : Type} (p : α → Bool) (xs : List α) : decide (0 ≤ idxF p xs) = xs.any p := by
  unfold idxF
  cases h : xs.findIdx? p with
  | none =>
    rw [List.findIdx?_eq_none_iff] at h
    have : xs.any p = false := by rw [List.any_eq_false]; intro x hx; simp [h x hx]
    rw [this]; rfl
  | some i =>
    obtain ⟨hi, ht, _⟩ := List.findIdx?_eq_some_iff_getElem.1 h
    have : xs.any p = true := List.any_eq_true.2 ⟨xs[i], List.getElem_mem _, ht⟩
    rw [this]; simp
theorem rvv_self {N : Nat} : ∀ {l : List AV}, BelL N l → rvv (fun b => b) N l l = True
  | [], _ => rfl
  | v :: l, h => by
    rw [rvv_cons, rvv_self (l := l) fun u hu => h u (by simp [hu])]
    simp only [and_true]
    exact eq_true (h v (by simp))
end Go.Ab
set_option linter.unusedVariables false
set_option linter.unusedSimpArgs false
namespace Go.Proofs
set_option maxHeartbeats 1000000 in
set_option maxRecDepth 100000 in
theorem copyCheck_used (b : Nat) (w : World) (h0 : w.cell? ⟨b, 0, none⟩ = some (.pointer (some ⟨b, 0, none⟩))) :
    Calls Tryd.prog 37 #[.pointer (some ⟨b, 0, none⟩)] w fun e w' => e = .returned (.tuple #[]) ∧ w' = w := by
  have hX : (Tryd.prog.info? 42).map (·.size) = some 2 := by kernel_rfl
  obtain ⟨j, hj, _⟩ := Option.map_eq_some_iff.1 hX
  go_enter Tryd.func37, Tryd.ntmps37
  go_wp2
  rw [Lib.run_neq_ptr_same w _ Tryd.underlying39 hj]
  go_wp2
  go_end0
  exact ⟨rfl, rfl⟩
set_option maxHeartbeats 1000000 in
set_option maxRecDepth 100000 in
theorem copyCheck_fresh (b : Nat) (w : World) (h0 : w.cell? ⟨b, 0, none⟩ = some (.pointer none)) (hsh : w.shape? b = some (42, 2)) (hfz : w.frozen? ⟨b, 0, none⟩ = false) :
    Calls Tryd.prog 37 #[.pointer (some ⟨b, 0, none⟩)] w fun e w' => e = .returned (.tuple #[]) ∧ w' = w.setCell ⟨b, 0, none⟩ (.pointer (some ⟨b, 0, none⟩)) := by
  have hX : (Tryd.prog.info? 42).map (·.size) = some 2 := by kernel_rfl
  obtain ⟨j, hj, hjs⟩ := Option.map_eq_some_iff.1 hX
  have hL : liesAt Tryd.prog Tryd.prog.depth 42 (2 / Tryd.prog.cellsOf 42) 0 42 1 = true := by kernel_rfl
  go_enter Tryd.func37, Tryd.ntmps37
  go_wp2
  rw [Lib.run_to_unsafe w ⟨b, 0, none⟩ Tryd.underlying39 Tryd.underlying69 hj (by rw [hjs]; decide) hsh (Nat.zero_lt_succ 1)]
  simp only [Result.andThen]
  rw [Oper.upon_value]
  go_wp2
  rw [run_callFunc_extern Tryd.func43 (by kernel_rfl) (by kernel_rfl) (by kernel_rfl) (e := Extern.AbiNoEscape.same) (by kernel_rfl)]
  rw [Lib.run_noEscape]
  simp only [Result.andThen]
  rw [Oper.upon_value]
  go_wp2
  rw [Lib.run_from_unsafe w ⟨b, 0, none⟩ Tryd.underlying69 Tryd.underlying39 hj hsh hL]
  simp only [Result.andThen]
  rw [Oper.upon_value]
  go_wp2
  go_end0
  exact ⟨rfl, rfl⟩
end Go.Proofs
set_option linter.unusedVariables false
set_option linter.unusedSimpArgs false
namespace Go.Ab
open Go.Proofs Go.Proofs.YtlkeingbjhhfeaaDoor
abbrev bT : Nat := 42
theorem bptr_inv {m : MMap} {H : AHeap} {w : World} (hm : HRel m H w) {b : Nat} {r : Value} {row : List AV} (hr : Rel m (.bptr bT b) r) (hb : hget H b = some ⟨true, 2, [row]⟩) :
    ∃ (B : MB) (c : Array Value) (fr : Nat × Nat), m.l[b]? = some B ∧ B.virt = false ∧ B.base = 0 ∧ B.sz = 2 ∧ r = .pointer (some ⟨B.blk, 0, none⟩) ∧ w.heap[B.blk]? = some (.cells c bT fr) ∧ c.size = 2 ∧
      (∀ (j : Nat) v, row[j]? = some v → ∃ q, c[j]? = some q ∧ Rel m v q) ∧ w.frozen? ⟨B.blk, 0, none⟩ = false := by
  cases hr with
  | bptr hB hv ht hb0 hN hs =>
    rename_i B
    obtain ⟨B', hB', hR⟩ := hm.blk b _ (hget_eq.1 hb)
    rw [hB] at hB'; injection hB' with e; subst e
    obtain ⟨c, fr, hw⟩ := hR.ty hv _ ht
    obtain ⟨c2, e2, fr2, g1, g2, g3, g4, g5⟩ := hR.real hv
    rw [hw] at g1; injection g1 with g1; injection g1 with q1 q2 q3; subst q1; subst q2; subst q3
    refine ⟨B, c, fr, hB, hv, hb0, hs, rfl, hw, by omega, fun j v hj => ?_, ?_⟩
    · obtain ⟨q, q1, q2, _⟩ := (g4 0 row rfl).2 j v hj
      rw [hb0, hs] at q1
      exact ⟨q, by simpa using q1, q2⟩
    · have := g5 rfl 0 (by omega)
      simp only [World.frozen?, hw]
      cases hd : (decide (fr.1 ≤ 0) && decide (0 < fr.2)) with
      | false => rfl
      | true => exact absurd (by simpa using hd) this
theorem bld_check0 {H : AHeap} {b : Nat} {x : AV} (hb : hget H b = some ⟨true, 2, [[.nilp, x]]⟩) :
    AC Tryd.prog 37 [.bptr bT b] H fun v H' => v = .tup [] ∧ H' = H.set b (some ⟨true, 2, [[.bptr bT b, x]]⟩) := by
  refine ⟨⟨_, Tryd.func37, rfl, by kernel_rfl⟩, fun m w vs hm hv => ?_⟩
  obtain ⟨h1, h2⟩ := hv
  match vs, h1 with
  | [r], _ =>
    have hr := h2 0 _ r rfl rfl
    obtain ⟨B, c, fr, hB, hv, hb0, hs, rfl, hw, hc, hcell, hfz⟩ := bptr_inv hm hr hb
    obtain ⟨q, q1, q2⟩ := hcell 0 _ rfl
    have hq : q = .pointer none := by cases q2; rfl
    subst hq
    refine (copyCheck_fresh B.blk w (by simp [World.cell?, hw, q1]) (by simp [World.shape?, hw, hc]) hfz).mono ?_
    rintro e w' ⟨rfl, rfl⟩
    obtain ⟨_, g2, g3⟩ := hm.store (i := 0) (j := 0) (row := [.nilp, x]) (vs := [.bptr bT b]) (cs := [.pointer (some ⟨B.blk, 0, none⟩)]) hb rfl rfl hB hv (.cons hr .nil) (by simp [Value.oneCell']) (by simp)
    have e1 : w.setCells B.blk (B.base + 0 * B.sz + 0) [Value.pointer (some ⟨B.blk, 0, none⟩)] = w.setCell ⟨B.blk, 0, none⟩ (.pointer (some ⟨B.blk, 0, none⟩)) := by simp [World.setCells, hb0]
    rw [e1] at g2 g3
    exact ⟨_, _, m, _, rfl, g2, .tup (cs := []) rfl (fun i v r h => by simp at h), g3, rfl, by simp [splice]⟩
theorem bld_check1 {H : AHeap} {b : Nat} {x : AV} (hb : hget H b = some ⟨true, 2, [[.bptr bT b, x]]⟩) :
    AC Tryd.prog 37 [.bptr bT b] H fun v H' => v = .tup [] ∧ H' = H := by
  refine ⟨⟨_, Tryd.func37, rfl, by kernel_rfl⟩, fun m w vs hm hv => ?_⟩
  obtain ⟨h1, h2⟩ := hv
  match vs, h1 with
  | [r], _ =>
    have hr := h2 0 _ r rfl rfl
    obtain ⟨B, c, fr, hB, hv, hb0, hs, rfl, hw, hc, hcell, hfz⟩ := bptr_inv hm hr hb
    obtain ⟨q, q1, q2⟩ := hcell 0 _ rfl
    have hq : q = .pointer (some ⟨B.blk, 0, none⟩) := by
      cases q2 with
      | bptr hB2 _ _ _ _ _ => rw [hB] at hB2; injection hB2 with e; subst e; rfl
    subst hq
    refine (copyCheck_used B.blk w (by simp [World.cell?, hw, q1])).mono ?_
    rintro e w' ⟨rfl, rfl⟩
    exact ⟨_, _, m, H, rfl, hm, .tup (cs := []) rfl (fun i v r h => by simp at h), .refl _ _ _, rfl, rfl⟩
theorem byteRows_app (a b : List UInt8) : byteRows a ++ byteRows b = byteRows (a ++ b) := by simp [byteRows]
theorem set_app {H : AHeap} {b : Nat} (h : b < H.length) (l : AHeap) (x : Option Blk) : (H ++ l).set b x = H.set b x ++ l := List.set_append_left _ _ h
theorem hget_app {H : AHeap} {b : Nat} (h : b < H.length) (l : AHeap) : hget (H ++ l) b = hget H b := hget_append_left h
theorem len_set (H : AHeap) (b : Nat) (x : Option Blk) : (List.set H b x).length = H.length := List.length_set
/-- The first bytes. -/
theorem bld_WriteString0 {H : AHeap} {b : Nat} (s : List UInt8) (h0 : s ≠ []) (hs : s.length ≤ 1073741824) (hb : hget H b = some ⟨true, 2, [[.nilp, .nil]]⟩) :
    AC Tryd.prog 23 [.bptr bT b, .str s] H fun v H' => v = .tup [.i s.length, .nili] ∧ H' = H.set b (some ⟨true, 2, [[.bptr bT b, .bf 5 H.length s.length]]⟩) ++ [some ⟨true, 1, byteRows s⟩] := by
  have hlt := hget_lt hb
  have hset := fun X => hget_set hb (some X)
  refine AC.enter (tbl0) (by kernel_rfl) Tryd.func23 rfl (by kernel_rfl) (by kernel_rfl) (by simp [Tryd.ntmps23]) Tryd.results23 ?_
  simp only [go_sem]
  refine AC.call (bld_check0 hb) ?_
  simp only [go_sem, hset]
  refine appS_do (isStr_9) ?_
  simp only [go_sem]
  refine ⟨by omega, by simp only [maxLen]; omega, fun h => absurd h h0, fun _ => ?_⟩
  have hlt' : b < (H.set b (some (⟨true, 2, [[.bptr bT b, .nil]]⟩ : Blk))).length := by simpa using hlt
  simp only [go_sem, len_set, hget_app hlt', set_app hlt', hset]
/-- More bytes. -/
theorem bld_WriteString1 {H : AHeap} {b k : Nat} (l s : List UInt8) (hs : l.length + s.length ≤ 1073741824) (hbk : b ≠ k) (hb : hget H b = some ⟨true, 2, [[.bptr bT b, .bf 5 k l.length]]⟩) (hk : hget H k = some ⟨true, 1, byteRows l⟩) :
    AC Tryd.prog 23 [.bptr bT b, .str s] H fun v H' => v = .tup [.i s.length, .nili] ∧ H' = (H.set k none).set b (some ⟨true, 2, [[.bptr bT b, .bf 5 H.length (l ++ s).length]]⟩) ++ [some ⟨true, 1, byteRows (l ++ s)⟩] := by
  have hlt := hget_lt hb
  refine AC.enter (tbl0) (by kernel_rfl) Tryd.func23 rfl (by kernel_rfl) (by kernel_rfl) (by simp [Tryd.ntmps23]) Tryd.results23 ?_
  simp only [go_sem]
  refine AC.call (bld_check1 hb) ?_
  simp only [go_sem, hb]
  refine appS_do (isStr_9) ?_
  simp only [go_sem, hk]
  refine ⟨by omega, by simp only [maxLen]; omega, ?_⟩
  have hlt' : b < (H.set k none).length := by simpa using hlt
  have hb2 : hget (H.set k none) b = some ⟨true, 2, [[.bptr bT b, .bf 5 k l.length]]⟩ := by rw [hget_set_ne (Ne.symm hbk)]; exact hb
  simp only [go_sem, len_set, hget_app hlt', set_app hlt', hb2, byteRows_app, List.length_append]
theorem bld_String0 {H : AHeap} {b : Nat} {a : AV} (hb : hget H b = some ⟨true, 2, [[a, .nil]]⟩) :
    AC Tryd.prog 25 [.bptr bT b] H fun v H' => v = .str [] ∧ H' = H := by
  refine AC.enter (fun | 1 => some ([0,1,2,3,5,6,7,8,9,4,10,11], []) | _ => none) (by kernel_rfl) Tryd.func25 rfl (by kernel_rfl) (by kernel_rfl) (by simp [Tryd.ntmps25]) Tryd.results25 ?_
  simp only [go_sem, hb]
theorem bld_String1 {H : AHeap} {b k : Nat} {a : AV} (l : List UInt8) (h0 : l ≠ []) (hbk : k ≠ b) (hb : hget H b = some ⟨true, 2, [[a, .bf 5 k l.length]]⟩) (hk : hget H k = some ⟨true, 1, byteRows l⟩) :
    AC Tryd.prog 25 [.bptr bT b] H fun v H' => v = .str l ∧ H' = H.set k none := by
  refine AC.enter (fun | 1 => some ([0,1,2,3,5,6,7,8,9,4,10,11], []) | _ => none) (by kernel_rfl) Tryd.func25 rfl (by kernel_rfl) (by kernel_rfl) (by simp [Tryd.ntmps25]) Tryd.results25 ?_
  simp only [go_sem, hb]
  refine usK_do Tryd.underlying64 (by kernel_rfl) hk h0 rfl ?_
  simp only [go_sem, hget_set_ne hbk, and_self]
end Go.Ab
set_option linter.unusedVariables false
set_option linter.unusedSimpArgs false
namespace Go.Ab
open Go.Proofs Go.Proofs.YtlkeingbjhhfeaaDoor
/-- The heap of one builder. -/
def bldH (l : List UInt8) : AHeap := if l = [] then [some ⟨true, 2, [[.nilp, .nil]]⟩] else [some ⟨true, 2, [[.bptr bT 0, .bf 5 1 l.length]]⟩, some ⟨true, 1, byteRows l⟩]
theorem bldH_nil : bldH [] = [some ⟨true, 2, [[.nilp, .nil]]⟩] := rfl
theorem bldH_ne {l : List UInt8} (h : l ≠ []) : bldH l = [some ⟨true, 2, [[.bptr bT 0, .bf 5 1 l.length]]⟩, some ⟨true, 1, byteRows l⟩] := if_neg h
theorem Retell.bld {H' : AHeap} {e : Env} {S : List AV} {l : List UInt8} {k : Nat} (h0 : hget H' 0 = some ⟨true, 2, [[.bptr bT 0, .bf 5 k l.length]]⟩) (hk : hget H' k = some ⟨true, 1, byteRows l⟩) (hk0 : k ≠ 0) (hl : l ≠ []) (hr : rvL (fun b => b) 1 e 0 S) :
    Retell 0 H' e (bldH l) (envU S) := by
  rw [bldH_ne hl]
  have hf0 : kf [0, k] 0 = 0 := rfl
  have hf1 : kf [0, k] 1 = k := rfl
  refine Retell.ren (f := kf [0, k]) [] ?_ fun t => ?_
  · have hv : H' ++ virts [] = H' := by simp [virts]
    rw [hv]
    refine ⟨Nat.zero_le _, fun b hb => by omega, fun b hb => ?_, fun b c hb hc he => ?_, fun b A' hb => ?_⟩
    · have hb : b < 2 := hb
      match b, hb with
      | 0, _ => exact hget_lt h0
      | 1, _ => exact hget_lt hk
    · have hb : b < 2 := hb
      have hc : c < 2 := hc
      match b, c, hb, hc with
      | 0, 0, _, _ => rfl
      | 1, 1, _, _ => rfl
      | 0, 1, _, _ => exact absurd he.symm hk0
      | 1, 0, _, _ => exact absurd he hk0
    · have hb2 : b < 2 := (List.getElem?_eq_some_iff.1 hb).1
      match b, hb2 with
      | 0, _ =>
        simp at hb; subst hb
        refine ⟨_, hget_eq.1 h0, rfl, rfl, rfl, fun i row' row h1 h2 => ?_⟩
        cases i with
        | succ i => simp at h1
        | zero =>
          simp at h1 h2; subst h1; subst h2
          refine ⟨rfl, fun j v' v h3 h4 => ?_⟩
          match j with
          | 0 => simp at h3 h4; subst h3; subst h4; exact .bptr (by simp)
          | 1 => simp at h3 h4; subst h3; subst h4; exact .bf (f := kf [0, k]) (b := 1) (by simp)
          | j + 2 => simp at h3
      | 1, _ =>
        simp at hb; subst hb
        refine ⟨_, hget_eq.1 hk, rfl, rfl, rfl, fun i row' row h1 h2 => ?_⟩
        rw [h1] at h2; injection h2 with h2; subst h2
        refine ⟨rfl, fun j v' v h3 h4 => ?_⟩
        rw [h3] at h4; injection h4 with h4; subst h4
        obtain ⟨c, _, rfl⟩ := List.mem_map.1 (List.mem_of_getElem? h1)
        match j with
        | 0 => simp at h3; subst h3; exact .int _ _
        | j + 1 => simp at h3
  · have := rvL_at hr t
    rw [Nat.zero_add] at this
    exact this.mono fun b hb => by
      have : b = 0 := by omega
      subst this; exact ⟨rfl, by simp⟩
/-- Bytes are written, whatever was there; the heap behind it is that of the longer text. -/
def bldW (l s : List UInt8) (G : AHeap) : AHeap := if l = [] then [some ⟨true, 2, [[.bptr bT 0, .bf 5 (G.length + 1) s.length]]⟩] ++ G ++ [some ⟨true, 1, byteRows s⟩] else [some ⟨true, 2, [[.bptr bT 0, .bf 5 (G.length + 2) (l ++ s).length]]⟩, none] ++ G ++ [some ⟨true, 1, byteRows (l ++ s)⟩]
theorem bld_W (l s : List UInt8) (G : AHeap) (h0 : s ≠ []) (hs : l.length + s.length ≤ 1073741824) :
    AC Tryd.prog 23 [.bptr bT 0, .str s] (bldH l ++ G) fun v H' => v = .tup [.i s.length, .nili] ∧ H' = bldW l s G := by
  by_cases hl : l = []
  · subst hl
    have := bld_WriteString0 (H := bldH [] ++ G) (b := 0) s h0 (by simpa using hs) rfl
    refine this.mono ?_
    rintro v H' ⟨h1, h2⟩
    refine ⟨h1, ?_⟩
    rw [h2, bldW, if_pos rfl, bldH_nil]
    simp [Nat.add_comm]
  · have := bld_WriteString1 (H := bldH l ++ G) (b := 0) (k := 1) l s hs (by simp) (by rw [bldH_ne hl]; rfl) (by rw [bldH_ne hl]; rfl)
    refine this.mono ?_
    rintro v H' ⟨h1, h2⟩
    refine ⟨h1, ?_⟩
    rw [h2, bldW, if_neg hl, bldH_ne hl]
    simp
theorem Retell.bldW {e : Env} {S : List AV} {l s : List UInt8} {G : AHeap} (h0 : s ≠ []) (hr : rvL (fun b => b) 1 e 0 S) : Retell 0 (bldW l s G) e (bldH (l ++ s)) (envU S) := by
  have hne : l ++ s ≠ [] := by simp [h0]
  by_cases hl : l = []
  · subst hl
    rw [Go.Ab.bldW, if_pos rfl, List.nil_append]
    refine Retell.bld (k := G.length + 1) rfl ?_ (by omega) h0 hr
    exact hget_append_right (H := some ⟨true, 2, [[.bptr bT 0, .bf 5 (G.length + 1) s.length]]⟩ :: G) (K := [some ⟨true, 1, byteRows s⟩]) 0
  · rw [Go.Ab.bldW, if_neg hl]
    refine Retell.bld (k := G.length + 2) rfl ?_ (by omega) hne hr
    exact hget_append_right (H := some ⟨true, 2, [[.bptr bT 0, .bf 5 (G.length + 2) (l ++ s).length]]⟩ :: none :: G) (K := [some ⟨true, 1, byteRows (l ++ s)⟩]) 0
theorem bld_S (l : List UInt8) : AC Tryd.prog 25 [.bptr bT 0] (bldH l) fun v H' => v = .str l ∧ H' = (bldH l).set 1 none := by
  by_cases hl : l = []
  · subst hl
    have := bld_String0 (H := bldH []) (b := 0) (a := .nilp) rfl
    refine this.mono ?_
    rintro v H' ⟨h1, h2⟩
    exact ⟨h1, by rw [h2]; rfl⟩
  · exact bld_String1 (H := bldH l) (b := 0) (k := 1) l hl (by simp) (by rw [bldH_ne hl]; rfl) (by rw [bldH_ne hl]; rfl)
end Go.Ab
set_option linter.unusedVariables false
set_option linter.unusedSimpArgs false
namespace Go.Ab
open Go.Proofs
/-! ### The laws' own helpers -/
theorem fill_get {α : Type} (r : α → List AV) (z : List AV) (xs : List α) {i : Nat} (h : i < xs.length) : ((xs.take i).map r ++ List.replicate (xs.length - i) z)[i]? = some z := by
  have : ((xs.take i).map r).length = i := by simp; omega
  rw [List.getElem?_append_right (by omega), this, Nat.sub_self, List.getElem?_replicate, if_pos (by omega)]
theorem fill_set {α : Type} (r : α → List AV) (z : List AV) (xs : List α) {i : Nat} (h : i < xs.length) : ((xs.take i).map r ++ List.replicate (xs.length - i) z).set i (r xs[i]) = (xs.take (i + 1)).map r ++ List.replicate (xs.length - (i + 1)) z := by
  have : ((xs.take i).map r).length = i := by simp; omega
  rw [List.set_append_right _ _ (by omega), this, Nat.sub_self, List.take_succ_eq_append_getElem h, show xs.length - i = (xs.length - (i + 1)) + 1 by omega, List.replicate_succ, List.map_append, List.append_assoc]
  rfl
theorem fill_len {α : Type} (r : α → List AV) (z : List AV) (xs : List α) {i : Nat} (h : i ≤ xs.length) : ((xs.take i).map r ++ List.replicate (xs.length - i) z).length = xs.length := by simp; omega
theorem map_range_get {α : Type} (f : Nat → α) {n i : Nat} (h : i < n) (h' : i < ((List.range n).map f).length) : ((List.range n).map f)[i] = f i := by simp
theorem laws_eqStringS (xs : List (List UInt8)) : ∀ H, AC Tryd.prog 8 [lS xs, lS xs] H (fun v H' => v = .bool true ∧ H' = H) := by
  refine AC.pure (by simp only [go_sem]) (AC.len 0 rfl (fun hl => ?_) ⟨_, Tryd.func8, rfl, by kernel_rfl⟩)
  rw [List.length_map] at hl
  refine AC.enter (tbl0) (by kernel_rfl) Tryd.func8 rfl (by kernel_rfl) (by kernel_rfl) (by simp [Tryd.ntmps8]) Tryd.results8 ?_
  simp only [go_sem, decide_true]
  refine ALoop.go (fun i => xs.length - i) (fun i => i ≤ xs.length) (fun i => [lS xs, lS xs, .un, .un, .un, .i (i : Nat)]) (fun _ => []) 0 (Nat.zero_le _) (fun _ => .same (by simp only [go_sem])) ?_
  intro i hi
  rcases Nat.lt_or_ge i xs.length with hlt | hge
  · simp only [go_sem, getD_map rS hlt, hlt, decide_true]
    skip
    exact loopK.go (i + 1) (by omega) (by omega) (fun _ => .same (by simp only [go_sem, w64s i (by omega)]))
  · have : ¬ i < xs.length := by omega
    simp only [go_sem, this]
/-- What is marked. -/
def mkI (k : Nat) (i : Nat) : Int := ((k + 1 * i : Nat) : Int)
def mkR (k : Nat) (i : Nat) : Rt := (((k + 2 * i : Nat) : Int), ((k + 2 * i + 1 : Nat) : Int))
def mkP (k : Nat) (i : Nat) : Rt × Rt := ((((k + 4 * i : Nat) : Int), ((k + 4 * i + 1 : Nat) : Int)), (((k + 4 * i + 2 : Nat) : Int), ((k + 4 * i + 3 : Nat) : Int)))
def marks {α : Type} (m : Nat → α) (n : Nat) : List α := (List.range n).map m
theorem marks_len {α : Type} (m : Nat → α) (n : Nat) : (marks m n).length = n := by simp [marks]
theorem marks_get {α : Type} (m : Nat → α) {n i : Nat} (h : i < (marks m n).length) : (marks m n)[i] = m i := by simp [marks]
theorem marks_succ {α : Type} (m : Nat → α) (n : Nat) : marks m (n + 1) = marks m n ++ [m n] := by simp [marks, List.range_succ]
theorem mk_get {α : Type} (r : α → List AV) (m : Nat → α) (xs : List α) {i : Nat} (h : i < xs.length) : ((marks m i).map r ++ (xs.drop i).map r)[i]? = some (r xs[i]) := by
  rw [List.getElem?_append_right (by simp [marks]), List.length_map, marks_len, Nat.sub_self, List.drop_eq_getElem_cons h]
  rfl
theorem mk_set {α : Type} (r : α → List AV) (m : Nat → α) (xs : List α) {i : Nat} (h : i < xs.length) (row : List AV) (hrow : r (m i) = row) : ((marks m i).map r ++ (xs.drop i).map r).set i row = (marks m (i + 1)).map r ++ (xs.drop (i + 1)).map r := by
  rw [List.set_append_right _ _ (by simp [marks]), List.length_map, marks_len, Nat.sub_self, List.drop_eq_getElem_cons h, marks_succ, List.map_append, List.append_assoc, ← hrow]
  rfl
theorem mk_len {α : Type} (r : α → List AV) (m : Nat → α) (xs : List α) {i : Nat} (h : i ≤ xs.length) : ((marks m i).map r ++ (xs.drop i).map r).length = xs.length := by simp [marks]; omega
theorem mk_end {α : Type} (r : α → List AV) (m : Nat → α) (xs : List α) : (marks m xs.length).map r ++ (xs.drop xs.length).map r = (marks m xs.length).map r := by simp
theorem mk_0 {α : Type} (r : α → List AV) (m : Nat → α) (xs : List α) : (marks m 0).map r ++ (xs.drop 0).map r = xs.map r := by simp [marks]
theorem set_set_at {α : Type} (l : List α) (i : Nat) (a b : α) : (l.set i a).set i b = l.set i b := List.set_set ..
theorem get_set_at {α : Type} {l : List α} {i : Nat} {b : α} (h : l[i]? = some b) (a : α) : (l.set i a)[i]? = some a := by
  rw [List.getElem?_set_self (List.getElem?_eq_some_iff.1 h).1]
end Go.Ab
/- The library's contracts at this seat's numbers: out of the kit's own laying, in plain words. -/
namespace Go.Proofs
open Go.Shelf Go.RowKit Go.Lib
def Tryd.lays160_ren : Go.Shelf.Ren := ⟨fun | 160 => 19 | 232 => 28 | 231 => 27 | 227 => 29 | 234 => 31 | 233 => 30 | 236 => 33 | 235 => 32 | 228 => 39 | 271 => 42 | 151 => 41 | 197 => 40 | 120 => 47 | 152 => 46 | 260 => 45 | 137 => 48 | 119 => 49 | 224 => 50 | 225 => 51 | 217 => 52 | 266 => 53 | n => n, fun | 9 => 9 | 4 => 4 | 3 => 3 | 5 => 5 | 117 => 54 | 116 => 53 | 0 => 0 | 124 => 57 | 21 => 21 | 105 => 66 | 46 => 35 | 119 => 73 | 139 => 76 | 138 => 75 | n => n, fun | 3 => 1 | 4 => 2 | n => n⟩
theorem Tryd.lays160 : Go.Proofs.Lays.n160 Tryd.prog Tryd.lays160_ren := {
  mixed := by kernel_rfl
  f119 := Tryd.func49.trans (congrArg some (by kernel_rfl))
  f120 := Tryd.func47.trans (congrArg some (by kernel_rfl))
  f137 := Tryd.func48.trans (congrArg some (by kernel_rfl))
  f151 := Tryd.func41.trans (congrArg some (by kernel_rfl))
  f152 := Tryd.func46.trans (congrArg some (by kernel_rfl))
  f160 := Tryd.func19.trans (congrArg some (by kernel_rfl))
  f197 := Tryd.func40.trans (congrArg some (by kernel_rfl))
  f217 := Tryd.func52.trans (congrArg some (by kernel_rfl))
  f224 := Tryd.func50.trans (congrArg some (by kernel_rfl))
  f225 := Tryd.func51.trans (congrArg some (by kernel_rfl))
  f227 := Tryd.func29.trans (congrArg some (by kernel_rfl))
  f228 := Tryd.func39.trans (congrArg some (by kernel_rfl))
  f231 := Tryd.func27.trans (congrArg some (by kernel_rfl))
  f232 := Tryd.func28.trans (congrArg some (by kernel_rfl))
  f233 := Tryd.func30.trans (congrArg some (by kernel_rfl))
  f234 := Tryd.func31.trans (congrArg some (by kernel_rfl))
  f235 := Tryd.func32.trans (congrArg some (by kernel_rfl))
  f236 := Tryd.func33.trans (congrArg some (by kernel_rfl))
  f260 := Tryd.func45.trans (congrArg some (by kernel_rfl))
  f266 := Tryd.func53.trans (congrArg some (by kernel_rfl))
  f271 := Tryd.func42.trans (congrArg some (by kernel_rfl))
  t0 := Tryd.underlying0
  a0 := Tryd.isAgg0
  z0 := Tryd.sizeOf0
  v0 := Tryd.zeroValue0
  t3 := Tryd.underlying3
  a3 := Tryd.isAgg3
  z3 := Tryd.sizeOf3
  v3 := Tryd.zeroValue3
  t4 := Tryd.underlying4
  a4 := Tryd.isAgg4
  z4 := Tryd.sizeOf4
  v4 := Tryd.zeroValue4
  t5 := Tryd.underlying5
  a5 := Tryd.isAgg5
  z5 := Tryd.sizeOf5
  v5 := Tryd.zeroValue5
  t9 := Tryd.underlying9
  a9 := Tryd.isAgg9
  z9 := Tryd.sizeOf9
  v9 := Tryd.zeroValue9
  t21 := Tryd.underlying21
  a21 := Tryd.isAgg21
  z21 := Tryd.sizeOf21
  v21 := Tryd.zeroValue21
  t46 := Tryd.underlying35
  a46 := Tryd.isAgg35
  z46 := Tryd.sizeOf35
  v46 := Tryd.zeroValue35
  t105 := Tryd.underlying66
  a105 := Tryd.isAgg66
  z105 := Tryd.sizeOf66
  v105 := Tryd.zeroValue66
  t116 := Tryd.underlying53
  a116 := Tryd.isAgg53
  z116 := Tryd.sizeOf53
  t117 := Tryd.underlying54
  a117 := Tryd.isAgg54
  z117 := Tryd.sizeOf54
  v117 := Tryd.zeroValue54
  t119 := Tryd.underlying73
  a119 := Tryd.isAgg73
  z119 := Tryd.sizeOf73
  t124 := Tryd.underlying57
  a124 := Tryd.isAgg57
  z124 := Tryd.sizeOf57
  v124 := Tryd.zeroValue57
  t138 := Tryd.underlying75
  a138 := Tryd.isAgg75
  z138 := Tryd.sizeOf75
  v138 := Tryd.zeroValue75
  t139 := Tryd.underlying76
  a139 := Tryd.isAgg76
  z139 := Tryd.sizeOf76
  v139 := Tryd.zeroValue76
  g3 := by kernel_rfl
  g4 := by kernel_rfl }
def Tryd.lays212_ren : Go.Shelf.Ren := ⟨fun | 212 => 20 | 263 => 34 | 264 => 35 | n => n, fun | 46 => 35 | 51 => 58 | 146 => 59 | 53 => 61 | 148 => 62 | n => n, fun | n => n⟩
theorem Tryd.lays212 : Go.Proofs.Lays.n212 Tryd.prog Tryd.lays212_ren := {
  mixed := by kernel_rfl
  f212 := Tryd.func20.trans (congrArg some (by kernel_rfl))
  f263 := Tryd.func34.trans (congrArg some (by kernel_rfl))
  f264 := Tryd.func35.trans (congrArg some (by kernel_rfl))
  t46 := Tryd.underlying35
  a46 := Tryd.isAgg35
  z46 := Tryd.sizeOf35
  v46 := Tryd.zeroValue35
  t51 := Tryd.underlying58
  a51 := Tryd.isAgg58
  z51 := Tryd.sizeOf58
  v51 := Tryd.zeroValue58
  t53 := Tryd.underlying61
  a53 := Tryd.isAgg61
  z53 := Tryd.sizeOf61
  v53 := Tryd.zeroValue61
  t146 := Tryd.underlying59
  a146 := Tryd.isAgg59
  z146 := Tryd.sizeOf59
  v146 := Tryd.zeroValue59
  t148 := Tryd.underlying62
  a148 := Tryd.isAgg62
  z148 := Tryd.sizeOf62
  v148 := Tryd.zeroValue62 }
theorem Tryd.bits_Mul (x y : Nat) (hx : x < 18446744073709551616) (hy : y < 18446744073709551616) (w : World) :
    Calls Tryd.prog 20 #[.int .u64 x, .int .u64 y] w fun e w' => e = .returned (.tuple #[.int .u64 ((x * y / 18446744073709551616 : Nat) : Int), .int .u64 ((x * y % 18446744073709551616 : Nat) : Int)]) ∧ w' = w := Any.bits_Mul Tryd.lays212 x y hx hy w
def Tryd.lays105_ren : Go.Shelf.Ren := ⟨fun | 105 => 13 | 212 => 20 | 99 => 21 | 165 => 22 | 166 => 23 | 170 => 24 | 169 => 25 | 263 => 34 | 264 => 35 | 206 => 36 | 240 => 37 | 241 => 38 | 276 => 43 | 277 => 44 | n => n, fun | 9 => 9 | 3 => 3 | 4 => 4 | 20 => 20 | 0 => 0 | 46 => 35 | 109 => 36 | 5 => 5 | 72 => 42 | 76 => 46 | 51 => 58 | 146 => 59 | 53 => 61 | 148 => 62 | 70 => 39 | 37 => 40 | 75 => 45 | 127 => 64 | 164 => 69 | 80 => 49 | n => n, fun | n => n⟩
theorem Tryd.lays105 : Go.Proofs.Lays.n105 Tryd.prog Tryd.lays105_ren := {
  mixed := by kernel_rfl
  f99 := Tryd.func21.trans (congrArg some (by kernel_rfl))
  f105 := Tryd.func13.trans (congrArg some (by kernel_rfl))
  f165 := Tryd.func22.trans (congrArg some (by kernel_rfl))
  f166 := Tryd.func23.trans (congrArg some (by kernel_rfl))
  f169 := Tryd.func25.trans (congrArg some (by kernel_rfl))
  f170 := Tryd.func24.trans (congrArg some (by kernel_rfl))
  f206 := Tryd.func36.trans (congrArg some (by kernel_rfl))
  f212 := Tryd.func20.trans (congrArg some (by kernel_rfl))
  f240 := Tryd.func37.trans (congrArg some (by kernel_rfl))
  f241 := Tryd.func38.trans (congrArg some (by kernel_rfl))
  f263 := Tryd.func34.trans (congrArg some (by kernel_rfl))
  f264 := Tryd.func35.trans (congrArg some (by kernel_rfl))
  f276 := Tryd.func43.trans (congrArg some (by kernel_rfl))
  f277 := Tryd.func44.trans (congrArg some (by kernel_rfl))
  t0 := Tryd.underlying0
  a0 := Tryd.isAgg0
  z0 := Tryd.sizeOf0
  v0 := Tryd.zeroValue0
  t3 := Tryd.underlying3
  a3 := Tryd.isAgg3
  z3 := Tryd.sizeOf3
  v3 := Tryd.zeroValue3
  t4 := Tryd.underlying4
  a4 := Tryd.isAgg4
  z4 := Tryd.sizeOf4
  v4 := Tryd.zeroValue4
  t5 := Tryd.underlying5
  a5 := Tryd.isAgg5
  z5 := Tryd.sizeOf5
  v5 := Tryd.zeroValue5
  t9 := Tryd.underlying9
  a9 := Tryd.isAgg9
  z9 := Tryd.sizeOf9
  v9 := Tryd.zeroValue9
  t20 := Tryd.underlying20
  a20 := Tryd.isAgg20
  z20 := Tryd.sizeOf20
  v20 := Tryd.zeroValue20
  t37 := Tryd.underlying40
  a37 := Tryd.isAgg40
  z37 := Tryd.sizeOf40
  v37 := Tryd.zeroValue40
  t46 := Tryd.underlying35
  a46 := Tryd.isAgg35
  z46 := Tryd.sizeOf35
  v46 := Tryd.zeroValue35
  t51 := Tryd.underlying58
  a51 := Tryd.isAgg58
  z51 := Tryd.sizeOf58
  v51 := Tryd.zeroValue58
  t53 := Tryd.underlying61
  a53 := Tryd.isAgg61
  z53 := Tryd.sizeOf61
  v53 := Tryd.zeroValue61
  t70 := Tryd.underlying39
  a70 := Tryd.isAgg39
  z70 := Tryd.sizeOf39
  v70 := Tryd.zeroValue39
  t72 := Tryd.underlying42
  a72 := Tryd.isAgg42
  z72 := Tryd.sizeOf42
  v72 := Tryd.zeroValue42
  t75 := Tryd.underlying45
  a75 := Tryd.isAgg45
  z75 := Tryd.sizeOf45
  v75 := Tryd.zeroValue45
  t76 := Tryd.underlying46
  a76 := Tryd.isAgg46
  z76 := Tryd.sizeOf46
  v76 := Tryd.zeroValue46
  t109 := Tryd.underlying36
  a109 := Tryd.isAgg36
  z109 := Tryd.sizeOf36
  v109 := Tryd.zeroValue36
  t127 := Tryd.underlying64
  a127 := Tryd.isAgg64
  z127 := Tryd.sizeOf64
  v127 := Tryd.zeroValue64
  t146 := Tryd.underlying59
  a146 := Tryd.isAgg59
  z146 := Tryd.sizeOf59
  v146 := Tryd.zeroValue59
  t148 := Tryd.underlying62
  a148 := Tryd.isAgg62
  z148 := Tryd.sizeOf62
  v148 := Tryd.zeroValue62
  t164 := Tryd.underlying69
  a164 := Tryd.isAgg69
  z164 := Tryd.sizeOf69
  v164 := Tryd.zeroValue69 }
theorem Tryd.Builder_Extra_105 : Builder.Extra Tryd.prog Tryd.lays105_ren := {
  sizeBuilder := by kernel_rfl
  liesBuilder := by kernel_rfl
  t5 := Tryd.underlying5
  a5 := Tryd.isAgg5
  z5 := Tryd.sizeOf5
  v5 := Tryd.zeroValue5
  infoByte := by kernel_rfl
  cellsByte := by kernel_rfl
  sizeByte := by kernel_rfl
  neB5 := by decide }
theorem Tryd.strings_Repeat (s : ByteArray) (c : Nat) (w : World) (hc : c ≤ 9223372036854775807) (hlen : s.size * c ≤ 140737488355328) :
    Calls Tryd.prog 13 #[.string s, .int .i64 c] w fun e w' => e = .returned (.string ⟨(Lib.repeatL s.data.toList c).toArray⟩) ∧ Below w.heap.size w w' := Any.strings_Repeat Tryd.lays105 Tryd.Builder_Extra_105 s c w hc hlen
end Go.Proofs
set_option linter.unusedVariables false
set_option linter.unusedSimpArgs false
namespace Go.Ab
open Go.Proofs
theorem repeat1 (x : UInt8) : ∀ n, Lib.repeatL [x] n = List.replicate n x := by
  intro n
  induction n with
  | zero => rfl
  | succ n ih => simp [Lib.repeatL, List.replicate_succ] at ih ⊢; try exact ih
theorem strings_Repeat1 (x : UInt8) (n : Nat) (hn : n ≤ 1048576) : ∀ H, AC Tryd.prog 13 [.str [x], .i n] H (fun v H' => v = .str (List.replicate n x) ∧ H' = H) := by
  refine AC.ext ⟨_, Tryd.func13, rfl, by kernel_rfl⟩ fun m w vs hv => ?_
  rw [rel_str_int hv]
  refine (Tryd.strings_Repeat ⟨#[x]⟩ n w (by omega) (by show 1 * n ≤ _; omega)).mono ?_
  rintro e w' ⟨rfl, hb⟩
  refine ⟨_, rfl, ?_, hb⟩
  have : (⟨#[x]⟩ : ByteArray).data.toList = [x] := rfl
  rw [this, repeat1]
  exact .str _
def inI (lo hi n : Int) : Bool := decide (lo ≤ n) && decide (n ≤ hi)
/-! ### Histograms' texts -/
def histT (xs : List Int) : Str := xs.flatMap fun n => List.replicate n.toNat 35 ++ [10]
def histTB (xs : List Int) : Bool := decide (xs.length ≤ 60) && xs.all (inI 0 100)
theorem histT_take {xs : List Int} {i : Nat} (h : i < xs.length) : histT (xs.take (i + 1)) = histT (xs.take i) ++ (List.replicate xs[i].toNat 35 ++ [10]) := by
  rw [histT, List.take_succ_eq_append_getElem h, List.flatMap_append]; simp [histT]
theorem histT_len {xs : List Int} (h : xs.all (inI 0 100) = true) : (histT xs).length ≤ 101 * xs.length := by
  induction xs with
  | nil => simp [histT]
  | cons x r ih =>
    simp only [List.all_cons, Bool.and_eq_true] at h
    have := ih h.2
    have h1 := h.1
    simp [inI] at h1
    simp [histT] at this ⊢
    omega
theorem take_all {α : Type} {p : α → Bool} {xs : List α} (h : xs.all p = true) (i : Nat) : (xs.take i).all p = true := by
  rw [List.all_eq_true] at h ⊢
  exact fun x hx => h x (List.mem_of_mem_take hx)
end Go.Ab
set_option linter.unusedVariables false
set_option linter.unusedSimpArgs false
namespace Go.Ab
open Go.Proofs Go.Proofs.YtlkeingbjhhfeaaDoor
/-! ### Plots -/
def sizeI (n : Int) : Bool := decide (2 ≤ n) && decide (n ≤ 60)
theorem bits_Mul1 (b : Nat) (hb : b < 9223372036854775808) : ∀ H, AC Tryd.prog 20 [.int .u64 1, .int .u64 b] H (fun v H' => v = .tup [.int .u64 0, .int .u64 b] ∧ H' = H) := by
  refine AC.ext ⟨_, Tryd.func20, rfl, by kernel_rfl⟩ fun m w vs hv => ?_
  have : vs = [.int .u64 1, .int .u64 b] := by
    obtain ⟨h1, h2⟩ := hv
    match vs, h1 with
    | [r, q], _ => rw [(h2 0 _ r rfl rfl).int_inv, (h2 1 _ q rfl rfl).int_inv]
  rw [this]
  refine (Tryd.bits_Mul 1 b (by omega) (by omega) w).mono ?_
  rintro e w' ⟨rfl, rfl⟩
  refine ⟨_, rfl, ?_, Below.rfl0 w'⟩
  have h1 : 1 * b / 18446744073709551616 = 0 := by rw [Nat.one_mul]; exact Nat.div_eq_of_lt (by omega)
  have h2 : 1 * b % 18446744073709551616 = b := by rw [Nat.one_mul]; exact Nat.mod_eq_of_lt (by omega)
  rw [h1, h2]
  exact .tup rfl fun i v r hv hr => by
    match i with
    | 0 => simp at hv hr; subst hv; subst hr; exact .int _ _
    | 1 => simp at hv hr; subst hv; subst hr; exact .int _ _
    | i + 2 => simp at hv
theorem wu64 (n : Nat) (h : n < 18446744073709551616) : IntKind.u64.wrap (n : Int) = n := by
  simp [IntKind.wrap, IntKind.bits, IntKind.signed]; omega
def fillR (c : UInt8) (k n : Nat) : List (List AV) := byteRows (List.replicate k c) ++ List.replicate (n - k) [AV.int .u8 0]
theorem fillR_len (c : UInt8) {k n : Nat} (h : k ≤ n) : (fillR c k n).length = n := by simp [fillR, byteRows]; omega
theorem fillR_0 (c : UInt8) (n : Nat) : fillR c 0 n = List.replicate n [AV.int .u8 0] := by simp [fillR, byteRows]
theorem fillR_n (c : UInt8) (n : Nat) : fillR c n n = byteRows (List.replicate n c) := by simp [fillR]
theorem fillR_take (c : UInt8) {k n : Nat} (h : k ≤ n) : (fillR c k n).take k = byteRows (List.replicate k c) := by
  have : (byteRows (List.replicate k c)).length = k := by simp [byteRows]
  rw [fillR, List.take_append_of_le_length (by omega), List.take_of_length_le (by omega)]
theorem fillR_over (c : UInt8) {k n j : Nat} (h : k + j ≤ n) : overR (fillR c k n) k (byteRows (List.replicate j c)) = fillR c (k + j) n := by
  have hk : (byteRows (List.replicate k c)).length = k := by simp [byteRows]
  have hj : (byteRows (List.replicate j c)).length = j := by simp [byteRows]
  rw [overR, fillR_take c (by omega), hj, fillR, List.drop_append, List.drop_of_length_le (by omega), hk, fillR, byteRows_app]
  simp only [List.nil_append, List.drop_replicate, List.replicate_append_replicate]
  congr 2
  omega
theorem bel_byteRows (l : List UInt8) : Clo (byteRows l) := fun row hr => by
  obtain ⟨c, _, rfl⟩ := List.mem_map.1 hr
  exact .cons .i .nil
theorem raw_byteRows (l : List UInt8) : Raw (byteRows l) := fun N row hr v hv => by
  obtain ⟨c, _, rfl⟩ := List.mem_map.1 hr
  simp at hv; subst hv; exact .int _ _ _
end Go.Ab
set_option linter.unusedVariables false
set_option linter.unusedSimpArgs false
namespace Go.Ab
open Go.Proofs Go.Proofs.YtlkeingbjhhfeaaDoor
/-- The rows of a plot. -/
def plRows (w n : Nat) : List (List AV) := (List.range n).map fun k => [AV.sl (1 + k) 0 w]
/-- The heap of a plot. -/
def plH (w : Nat) (g : List Str) : AHeap := some ⟨true, 1, plRows w g.length⟩ :: g.map fun l => some ⟨true, 1, byteRows l⟩
theorem plH_len (w : Nat) (g : List Str) : (plH w g).length = 1 + g.length := by simp [plH]; omega
theorem plRows_len (w n : Nat) : (plRows w n).length = n := by simp [plRows]
theorem plRows_app (w n : Nat) : plRows w (n + 1) = plRows w n ++ [[AV.sl (1 + n) 0 w]] := by simp [plRows, List.range_succ]
theorem plRows_get (w : Nat) {n i : Nat} (h : i < n) : (plRows w n)[i]? = some [AV.sl (1 + i) 0 w] := by simp [plRows, h]
theorem plH_0 (w : Nat) (g : List Str) (X : AHeap) : hget (plH w g ++ X) 0 = some ⟨true, 1, plRows w g.length⟩ := rfl
theorem plH_s (w : Nat) (g : List Str) (X : AHeap) {i : Nat} (h : i < g.length) : hget (plH w g ++ X) (1 + i) = some ⟨true, 1, byteRows g[i]⟩ := by
  rw [Nat.add_comm, hget_eq.2]
  simp [plH, h, List.getElem?_append]
theorem hget_end (H : AHeap) (A : Blk) : hget (H ++ [some A]) H.length = some A := by rw [hget_eq.2]; simp
/-- A plot that has been given a line. -/
theorem Retell.plot {w : Nat} {g : List Str} {l : Str} {H : AHeap} {o q : Nat} {e : Env} {S : List AV}
    (ho : hget H o = some ⟨true, 1, plRows w g.length ++ [[.sl q 0 w]]⟩) (hq : hget H q = some ⟨true, 1, byteRows l⟩)
    (hk : ∀ k (h : k < g.length), hget H (1 + k) = some ⟨true, 1, byteRows g[k]⟩) (ho1 : 1 + g.length ≤ o) (hq1 : 1 + g.length ≤ q) (hoq : o ≠ q)
    (hr : rvL (fun _ => o) 1 e 0 S) : Retell 0 H e (plH w (g ++ [l])) (envU S) := by
  have hlen := plH_len w (g ++ [l])
  rw [List.length_append, List.length_singleton] at hlen
  generalize hfd : (fun b => if b = 0 then o else if b ≤ g.length then b else q) = f
  have f0 : f 0 = o := by subst hfd; rfl
  have f1 : ∀ b, b ≠ 0 → b ≤ g.length → f b = b := fun b h1 h2 => by subst hfd; simp only [h1, if_false, h2, if_true]
  have f2 : f (1 + g.length) = q := by subst hfd; simp only [show ¬ (1 + g.length = 0) by omega, if_false, show ¬ (1 + g.length ≤ g.length) by omega]
  have hol := hget_lt ho
  have hql := hget_lt hq
  refine Retell.ren (f := f) [] ?_ fun t => ?_
  · have hv : H ++ virts [] = H := by simp [virts]
    rw [hv]
    have cases3 : ∀ b, b < (plH w (g ++ [l])).length → b = 0 ∨ (b ≠ 0 ∧ b ≤ g.length) ∨ b = 1 + g.length := fun b hb => by omega
    refine ⟨Nat.zero_le _, fun b hb => by omega, fun b hb => ?_, fun b c hb hc he => ?_, fun b A' hb => ?_⟩
    · rcases cases3 b hb with h | ⟨h1, h2⟩ | h
      · subst h; rw [f0]; exact hol
      · rw [f1 b h1 h2]
        have := hget_lt (hk (b - 1) (by omega))
        omega
      · subst h; rw [f2]; exact hql
    · rcases cases3 b hb with h | ⟨h1, h2⟩ | h <;> rcases cases3 c hc with h' | ⟨h1', h2'⟩ | h'
      · omega
      · subst h; rw [f0, f1 c h1' h2'] at he; omega
      · subst h; subst h'; rw [f0, f2] at he; exact absurd he hoq
      · subst h'; rw [f0, f1 b h1 h2] at he; omega
      · rw [f1 b h1 h2, f1 c h1' h2'] at he; exact he
      · subst h'; rw [f2, f1 b h1 h2] at he; omega
      · subst h; subst h'; rw [f0, f2] at he; exact absurd he.symm hoq
      · subst h; rw [f2, f1 c h1' h2'] at he; omega
      · omega
    · have hb2 := (List.getElem?_eq_some_iff.1 hb).1
      have bytes : ∀ (s : Str) (i : Nat) row' row, (byteRows s)[i]? = some row' → (byteRows s)[i]? = some row → row'.length = row.length ∧ ∀ (j : Nat) v' v, row'[j]? = some v' → row[j]? = some v → RV f (plH w (g ++ [l])).length v' v := fun s i row' row h1 h2 => by
        rw [h1] at h2; injection h2 with h2; subst h2
        refine ⟨rfl, fun j v' v h3 h4 => ?_⟩
        rw [h3] at h4; injection h4 with h4; subst h4
        obtain ⟨c, _, rfl⟩ := List.mem_map.1 (List.mem_of_getElem? h1)
        match j with
        | 0 => simp at h3; subst h3; exact .int _ _
        | j + 1 => simp at h3
      rcases cases3 b hb2 with h | ⟨h1, h2⟩ | h
      · subst h
        have : A' = ⟨true, 1, plRows w (g ++ [l]).length⟩ := by simp [plH] at hb ⊢; exact hb.symm
        subst this
        refine ⟨⟨true, 1, plRows w g.length ++ [[.sl q 0 w]]⟩, hget_eq.1 (by rw [f0]; exact ho), rfl, rfl, by simp [plRows], fun i row' row h1 h2 => ?_⟩
        have hi := (List.getElem?_eq_some_iff.1 h1).1
        simp only [plRows_len, List.length_append, List.length_singleton] at hi
        simp only [List.length_append, List.length_singleton] at h1
        rw [plRows_get w hi] at h1
        injection h1 with h1; subst h1
        rcases Nat.lt_or_ge i g.length with hlt | hge
        · simp only [List.getElem?_append, plRows_len, hlt, if_true, plRows_get w hlt] at h2
          injection h2 with h2
          subst h2
          refine ⟨rfl, fun j v' v h3 h4 => ?_⟩
          match j with
          | 0 =>
            simp at h3 h4; subst h3; subst h4
            have := RV.sl (f := f) (N := (plH w (g ++ [l])).length) (b := 1 + i) (i := 0) (n := w) (by omega)
            rwa [f1 _ (by omega) (by omega)] at this
          | j + 1 => simp at h3
        · have hi' : i = g.length := by omega
          subst hi'
          simp only [List.getElem?_append, plRows_len, Nat.lt_irrefl, if_false, Nat.sub_self] at h2
          simp at h2; subst h2
          refine ⟨rfl, fun j v' v h3 h4 => ?_⟩
          match j with
          | 0 =>
            simp at h3 h4; subst h3; subst h4
            have := RV.sl (f := f) (N := (plH w (g ++ [l])).length) (b := 1 + g.length) (i := 0) (n := w) (by omega)
            rwa [f2] at this
          | j + 1 => simp at h3
      · obtain ⟨k, rfl⟩ : ∃ k, b = 1 + k := ⟨b - 1, by omega⟩
        have hkl : k < g.length := by omega
        have : A' = ⟨true, 1, byteRows g[k]⟩ := by
          rw [Nat.add_comm] at hb
          simp [plH, hkl] at hb
          rw [List.getElem?_append_left (by simp; omega), List.getElem?_map, List.getElem?_eq_getElem hkl] at hb
          simp at hb
          exact hb.symm
        subst this
        refine ⟨_, hget_eq.1 (by rw [f1 _ h1 h2]; exact hk k hkl), rfl, rfl, rfl, bytes _⟩
      · subst h
        have : A' = ⟨true, 1, byteRows l⟩ := by
          rw [Nat.add_comm] at hb
          simp [plH] at hb
          exact hb.symm
        subst this
        exact ⟨_, hget_eq.1 (by rw [f2]; exact hq), rfl, rfl, rfl, bytes _⟩
  · have := rvL_at hr t
    rw [Nat.zero_add] at this
    exact this.mono fun b hb => by
      have : b = 0 := by omega
      subst this; exact ⟨f0, by omega⟩
theorem emptyL (n : Nat) (s : Str) : List.replicate (n + 1) s = List.replicate n s ++ [s] := by rw [← List.replicate_append_replicate]; rfl
theorem Retell.ksN {N0 : Nat} {H0 H H' J H2 : AHeap} {e : Env} {l : List AV} (hc : Closed H0) (hN : N0 = H0.length) (hH : H = H0 ++ J) (hH' : H' = H0 ++ H2) (szs ks : List Nat) (h1 : ks.all (fun k => decide (k < (J ++ virts szs).length)) = true) (h2 : ks.Nodup) (h3 : H2 = pickH (J ++ virts szs) ks) (h4 : CloH H2)
    (h5 : rvL (keepF H0.length ks) (H0.length + ks.length) e 0 l) : Retell N0 H e H' (envU l) := by
  subst hH; subst hH'; subst hN
  have hlen : H2.length = ks.length := by rw [h3, pickH_eq]; simp
  have := HRen.keep (H0 := H0) (H1 := H0) (J := J ++ virts szs) (J' := H2) ks rfl (fun _ _ h => h) (fun k hk => by have := List.all_eq_true.1 h1 k hk; simpa using this) h2 (by rw [h3, pickH_eq]) hc (fun A hA row hr v hv => RV.mono (h4.mem A hA row hr v hv) (fun b hb => by omega))
  refine Retell.ren (f := keepF H0.length ks) szs (by rw [List.append_assoc]; exact this) fun t => ?_
  have := rvL_at h5 t
  rw [Nat.zero_add] at this
  rw [List.length_append, hlen]; exact this
theorem plH_closed (w : Nat) (g : List Str) : Closed (plH w g) := fun A hA row hr v hv => by
  rw [plH_len]
  rcases List.mem_cons.1 hA with h | h
  · injection h with h; subst h
    obtain ⟨k, hk, rfl⟩ := List.mem_map.1 hr
    rw [List.mem_range] at hk
    simp at hv; subst hv
    exact .sl (by omega)
  · obtain ⟨l, _, h⟩ := List.mem_map.1 h
    injection h with h; subst h
    obtain ⟨c, _, rfl⟩ := List.mem_map.1 hr
    simp at hv; subst hv
    exact .int _ _
/-! ### The points -/
def unitP (p : Rt × Rt) : Bool := unitR p.1 && unitR p.2
/-- One mark. -/
def plSetL (g : List Str) (x y : Nat) (c : UInt8) : List Str := g.set (g.length - 1 - y) ((g.getD (g.length - 1 - y) []).set x c)
def ptStep (w h : Int) (g : List Str) (p : Rt × Rt) : List Str := plSetL g (cellN p.1 w).toNat (cellN p.2 h).toNat 35
def ptsRun (w h : Int) (xs : List (Rt × Rt)) : List Str := xs.foldl (ptStep w h) (List.replicate h.toNat (List.replicate w.toNat 46))
def ptsB (w h : Int) (xs : List (Rt × Rt)) : Bool := decide (xs.length ≤ 100) && (sizeI w && (sizeI h && xs.all unitP))
def ptsV (w h : Int) (xs : List (Rt × Rt)) : List Str := if ptsB w h xs then ptsRun w h xs else []
theorem Retell.drop {N0 : Nat} {H2 G : AHeap} {e : Env} {l : List AV} (hN : N0 ≤ H2.length) (hc : Closed H2) (h5 : rvL (fun b => b) H2.length e 0 l) : Retell N0 (H2 ++ G) e H2 (envU l) := by
  refine Retell.ren (f := fun b => b) [] ?_ fun t => ?_
  · have hv : (H2 ++ G) ++ virts [] = H2 ++ G := by simp [virts]
    rw [hv]
    have hr := HRen.refl hc
    refine ⟨hN, fun _ _ => rfl, fun b hb => by rw [List.length_append]; omega, fun b c _ _ h => h, fun b A' hb => ?_⟩
    obtain ⟨A, h1, h2⟩ := hr.blk b A' hb
    exact ⟨A, by rw [List.getElem?_append_left (List.getElem?_eq_some_iff.1 h1).1]; exact h1, h2⟩
  · have := rvL_at h5 t
    rw [Nat.zero_add] at this
    exact this
theorem plH_set (w : Nat) (g : List Str) (X : AHeap) {r : Nat} (h : r < g.length) (l : Str) : (plH w g ++ X).set (1 + r) (some ⟨true, 1, byteRows l⟩) = plH w (g.set r l) ++ X := by
  rw [List.set_append_left _ _ (by rw [plH_len]; omega)]
  congr 1
  rw [Nat.add_comm]
  simp [plH, List.map_set]
theorem byteRows_set (l : Str) (x : Nat) (c : UInt8) : (byteRows l).set x [AV.int .u8 c.toNat] = byteRows (l.set x c) := by simp [byteRows, List.map_set]
theorem byteRows_get {l : Str} {x : Nat} (h : x < l.length) : (byteRows l)[x]? = some [AV.int .u8 l[x].toNat] := by simp [byteRows, h]
theorem sizeI_b {n : Int} (h : sizeI n = true) : 2 ≤ n ∧ n ≤ 60 := by simpa [sizeI] using h
theorem plSetL_len (g : List Str) (x y : Nat) (c : UInt8) : (plSetL g x y c).length = g.length := by simp [plSetL]
theorem plSetL_w {g : List Str} {w : Nat} (x y : Nat) (c : UInt8) (h : ∀ l ∈ g, l.length = w) : ∀ l ∈ plSetL g x y c, l.length = w := fun l hl => by
  rcases Nat.eq_zero_or_pos g.length with h0 | h0
  · have := List.eq_nil_of_length_eq_zero h0
    subst this; simp [plSetL] at hl
  rcases List.mem_or_eq_of_mem_set hl with h1 | h1
  · exact h l h1
  · subst h1
    have hr : g.length - 1 - y < g.length := by omega
    rw [List.length_set, List.getD_eq_getElem?_getD, List.getElem?_eq_getElem hr]
    exact h _ (List.getElem_mem _)
theorem ptsRun_len (W T : Nat) (xs : List (Rt × Rt)) : (ptsRun W T xs).length = T := by
  unfold ptsRun
  have : ∀ (xs : List (Rt × Rt)) (g : List Str), (xs.foldl (ptStep W T) g).length = g.length := by
    intro xs
    induction xs with
    | nil => intro g; rfl
    | cons p xs ih => intro g; rw [List.foldl_cons, ih, ptStep, plSetL_len]
  rw [this]; simp
theorem ptsRun_w (W T : Nat) (xs : List (Rt × Rt)) : ∀ l ∈ ptsRun W T xs, l.length = W := by
  unfold ptsRun
  have : ∀ (xs : List (Rt × Rt)) (g : List Str), (∀ l ∈ g, l.length = W) → ∀ l ∈ xs.foldl (ptStep W T) g, l.length = W := by
    intro xs
    induction xs with
    | nil => intro g hg; exact hg
    | cons p xs ih =>
      intro g hg
      rw [List.foldl_cons]
      refine ih _ ?_
      intro l hl
      exact plSetL_w _ _ _ hg l hl
  refine this _ _ fun l hl => ?_
  rw [(List.mem_replicate.1 hl).2]; simp
theorem ptsRun_take {w h : Int} {xs : List (Rt × Rt)} {i : Nat} (hi : i < xs.length) : ptsRun w h (xs.take (i + 1)) = ptStep w h (ptsRun w h (xs.take i)) xs[i] := by
  rw [List.take_succ_eq_append_getElem hi, ptsRun, ptsRun, List.foldl_append]; rfl
end Go.Ab
set_option linter.unusedVariables false
set_option linter.unusedSimpArgs false
namespace Go.Ab
open Go.Proofs Go.Proofs.YtlkeingbjhhfeaaDoor
theorem rep1 (n : Nat) (c : UInt8) : List.replicate n c ++ [c] = List.replicate (n + 1) c := by rw [← List.replicate_append_replicate]; rfl
/-- Bytes put into a line. -/
def plPut (l : Str) (x : Nat) (s : Str) : Str := l.take x ++ s ++ l.drop (x + 1)
def plSetS (g : List Str) (x y : Nat) (s : Str) : List Str := g.set (g.length - 1 - y) (plPut (g.getD (g.length - 1 - y) []) x s)
theorem plSetS_eq {g : List Str} {x y : Nat} (c : UInt8) (hy : y < g.length) (hw : ∀ l ∈ g, x < l.length) : plSetS g x y [c] = plSetL g x y c := by
  have hr : g.length - 1 - y < g.length := by omega
  have hx := hw _ (List.getElem_mem hr)
  rw [plSetS, plSetL, List.getD_eq_getElem?_getD, List.getElem?_eq_getElem hr]
  congr 1
  show plPut g[g.length - 1 - y] x [c] = g[g.length - 1 - y].set x c
  rw [List.set_eq_take_append_cons_drop, if_pos hx, plPut, List.append_assoc]; rfl
/-! ### The law's helpers -/
def digT (n : Nat) (acc : Str) : Str := if h : n = 0 then acc else digT (n / 10) (UInt8.ofNat (48 + n % 10) :: acc)
termination_by n
decreasing_by omega
theorem digT_0 (acc : Str) : digT 0 acc = acc := by unfold digT; simp
theorem digT_s {n : Nat} (h : n ≠ 0) (acc : Str) : digT n acc = digT (n / 10) (UInt8.ofNat (48 + n % 10) :: acc) := by rw [digT, dif_neg h]
def markT (k : Nat) : Str := if k = 0 then [109, 48] else 109 :: digT k []
theorem digT_len (n : Nat) (acc : Str) : (digT n acc).length ≤ n + acc.length := by
  induction n using Nat.strongRecOn generalizing acc with
  | ind n ih =>
    rcases Nat.eq_zero_or_pos n with h | h
    · subst h; rw [digT_0]; omega
    · rw [digT_s (by omega)]
      have := ih (n / 10) (by omega) (UInt8.ofNat (48 + n % 10) :: acc)
      rw [List.length_cons] at this
      omega
theorem rowBytes1 {x : Nat} (h : x < 256) : rowBytes [[AV.int .u8 x]] = some [UInt8.ofNat x] := by
  have := rowBytes_byteRows [UInt8.ofNat x]
  have e : (UInt8.ofNat x).toNat = x := by simp; omega
  simpa [byteRows, e] using this
set_option maxRecDepth 100000 in
theorem laws_markText (k : Nat) (hk : k ≤ 9999999) : ∀ H, AC Tryd.prog 14 [.i k] H (fun v H' => v = .str (markT k) ∧ H' = H) := by
  refine AC.pure (by simp only [go_sem]) (AC.enter (tbl0) (by kernel_rfl) Tryd.func14 rfl (by kernel_rfl) (by kernel_rfl) (by simp [Tryd.ntmps14]) Tryd.results14 ?_)
  simp only [go_sem]
  refine ⟨fun h => ?_, fun h => ?_⟩
  · have : k = 0 := by omega
    subst this
    rfl
  have hk0 : k ≠ 0 := by omega
  refine ALoop.go (fun s : Nat × Str => s.1) (fun s => s.1 + s.2.length ≤ k ∧ digT s.1 s.2 = digT k []) (fun s => [.i s.1, .un, .un, .str s.2]) (fun _ => []) (k, []) ⟨by simp, rfl⟩ (fun _ => .same (by simp only [go_sem])) ?_
  rintro ⟨n, acc⟩ ⟨hn, hd⟩
  simp only at hn hd ⊢
  rcases Nat.eq_zero_or_pos n with h0 | h0
  · subst h0
    rw [digT_0] at hd
    subst hd
    have hl := digT_len k []
    simp only [go_sem, Int.lt_irrefl]
    exact ⟨by rw [List.length_nil] at hl; omega, by rw [markT, if_neg hk0]⟩
  · have hp : (0 : Int) < n := by omega
    have e1 : (n : Int).tmod 10 = ((n % 10 : Nat) : Int) := by rw [Int.tmod_eq_emod_of_nonneg (by omega)]; omega
    have e2 : (n : Int).tdiv 10 = ((n / 10 : Nat) : Int) := by rw [Int.tdiv_eq_ediv_of_nonneg (by omega)]; omega
    have e3 : IntKind.i64.wrap (48 + ((n % 10 : Nat) : Int)) = ((48 + n % 10 : Nat) : Int) := by rw [w64 _ (by omega) (by omega)]; omega
    have e4 : IntKind.u8.wrap ((48 + n % 10 : Nat) : Int) = ((48 + n % 10 : Nat) : Int) := by simp [IntKind.wrap, IntKind.bits, IntKind.signed]; omega
    have e5 := rowBytes1 (x := 48 + n % 10) (by omega)
    have e6 : IntKind.i64.wrap ((n / 10 : Nat) : Int) = ((n / 10 : Nat) : Int) := w64 _ (by omega) (by omega)
    simp only [go_sem, hp, decide_true, e1, e2, e3]
    refine ⟨by omega, ?_⟩
    simp only [go_sem, e1, e2, e3]
    refine x_cv_do ?_
    simp only [go_sem, e3, e4]
    refine x_cv_do ?_
    simp only [go_sem, e5]
    have hl : (UInt8.ofNat (48 + n % 10) :: acc).length = acc.length + 1 := List.length_cons
    refine ⟨by omega, by omega, loopK.go (n / 10, UInt8.ofNat (48 + n % 10) :: acc) (by show n / 10 < n; omega) ⟨by show n / 10 + (UInt8.ofNat (48 + n % 10) :: acc).length ≤ k; omega, by rw [← hd]; exact (digT_s (by omega) acc).symm⟩ (fun _ => .ks [] [] rfl (by simp) rfl trivial (by simp only [go_sem, e1, e2, e6]))⟩
def mkS (k i : Nat) : Str := markT (k + 1 * i)
theorem laws_markStringS (xs : List Str) (k : Nat) (hx : xs.length ≤ 1048576) (hk : k ≤ 1048576) (b : Nat) (H : AHeap) (hb : hget H b = some ⟨true, 1, xs.map rS⟩) :
    AC Tryd.prog 9 [.sl b 0 xs.length, .i k] H (fun v H' => v = .i (k + 1 * xs.length : Nat) ∧ H' = H.set b (some ⟨true, 1, (marks (mkS k) xs.length).map rS⟩)) := by
  have hbl := hget_lt hb
  have hw := fun (j : Nat) (hj : j ≤ 9999999) => w64s j (by omega)
  refine AC.enter (tbl0) (by kernel_rfl) Tryd.func9 rfl (by kernel_rfl) (by kernel_rfl) (by simp [Tryd.ntmps9]) Tryd.results9 ?_
  simp only [go_sem]
  refine ALoop.go (fun i => xs.length - i) (fun i => i ≤ xs.length) (fun i => [.sl b 0 xs.length, .i (k + 1 * i : Nat), .un, .un, .un, .i (i : Nat)]) (fun i => H.set b (some ⟨true, 1, (marks (mkS k) i).map rS ++ (xs.drop i).map rS⟩)) 0 (Nat.zero_le _) (fun _ => ?_) ?_
  · simp only [mk_0, set_self hb]
    refine .same ?_
    simp only [go_sem, Nat.mul_zero, hbl]
  intro i hi
  rcases Nat.lt_or_ge i xs.length with hlt | hge
  · have hg := mk_get rS (mkS k) xs hlt
    rw [rS_eq] at hg
    have hs := mk_set rS (mkS k) xs hlt [.str (markT (k + 1 * i))] rfl
    have hgs := fun X => hget_set hb (some X)
    have hml := mk_len rS (mkS k) xs hi
    simp only [go_sem, hlt, decide_true]
    refine AC.call (laws_markText (k + 1 * i) (by omega) _) ?_
    simp only [go_sem, hgs, hg, hs, hml]
    refine ⟨hlt, ?_⟩
    refine loopK.go (i + 1) (by omega) (by omega) (fun _ => .same ?_)
    simp only [go_sem, List.length_set, hbl, w64s i (by omega), w64s (k + 1 * i) (by omega)]
    omega
  · have h1 : ¬ i < xs.length := by omega
    have : i = xs.length := by omega
    subst this
    simp only [go_sem, h1, mk_end]
theorem laws_heldStringS (n k : Nat) (hx : n ≤ 1048576) (hk : k ≤ 1048576) : ∀ H, AC Tryd.prog 10 [lS (marks (mkS k) n), .i k] H (fun v H' => v = .i (k + 1 * n : Nat) ∧ H' = H) := by
  have hw := fun (j : Nat) (hj : j ≤ 9999999) => w64s j (by omega)
  have hn := marks_len (mkS k) n
  refine AC.pure (by simp only [go_sem]) (AC.enter (tbl0) (by kernel_rfl) Tryd.func10 rfl (by kernel_rfl) (by kernel_rfl) (by simp [Tryd.ntmps10]) Tryd.results10 ?_)
  simp only [go_sem]
  refine ALoop.go (fun i => n - i) (fun i => i ≤ n) (fun i => [lS (marks (mkS k) n), .i (k + 1 * i : Nat), .un, .un, .un, .i (i : Nat)]) (fun i => []) 0 (Nat.zero_le _) (fun _ => .same (by simp only [go_sem, Nat.mul_zero])) ?_
  intro i hi
  rcases Nat.lt_or_ge i n with hlt | hge
  · have hlt2 : i < (marks (mkS k) n).length := by rw [hn]; exact hlt
    have hm : (marks (mkS k) n)[i] = markT (k + 1 * i) := marks_get (mkS k) hlt2
    simp only [go_sem, getD_map rS hlt2, hm, hn, hlt, decide_true]
    refine AC.call (laws_markText (k + 1 * i) (by omega) _) ?_
    simp only [go_sem, bne_self_eq_false, decide_true]
    refine loopK.go (i + 1) (by omega) (by omega) (fun _ => .same ?_)
    simp only [go_sem, w64s i (by omega), w64s (k + 1 * i) (by omega)]
    omega
  · have h1 : ¬ i < n := by omega
    have : i = n := by omega
    subst this
    simp only [go_sem, hn, h1]
end Go.Ab
set_option linter.unusedVariables false
set_option linter.unusedSimpArgs false
namespace Go.Ab
open Go.Proofs
/-! ### Splitting at a byte -/
def splitB (c : UInt8) : Str → List Str
  | [] => [[]]
  | x :: s => if x = c then [] :: splitB c s else match splitB c s with | [] => [[x]] | p :: r => (x :: p) :: r
theorem splitB_ne (c : UInt8) : ∀ s, splitB c s ≠ []
  | [] => by simp [splitB]
  | x :: s => by
    unfold splitB
    split
    · simp
    · split <;> simp
theorem splitB_none {c : UInt8} : ∀ {p : Str}, c ∉ p → splitB c p = [p]
  | [], _ => rfl
  | x :: p, h => by
    have h1 : x ≠ c := fun e => h (by simp [e])
    have h2 : c ∉ p := fun e => h (by simp [e])
    rw [splitB, if_neg h1, splitB_none h2]
theorem splitB_at {c : UInt8} (r : Str) : ∀ {p : Str}, c ∉ p → splitB c (p ++ c :: r) = p :: splitB c r
  | [], _ => by simp [splitB]
  | x :: p, h => by
    have h1 : x ≠ c := fun e => h (by simp [e])
    have h2 : c ∉ p := fun e => h (by simp [e])
    rw [List.cons_append, splitB, if_neg h1, splitB_at r h2]
theorem splitB_len (c : UInt8) : ∀ s, (splitB c s).length = s.count c + 1
  | [] => rfl
  | x :: s => by
    have ih := splitB_len c s
    unfold splitB
    split
    · rename_i h; subst h; simp [ih]
    · rename_i h
      rw [List.count_cons_of_ne h]
      split
      · rename_i e; exact absurd e (splitB_ne c s)
      · rename_i p r e; rw [e] at ih; simpa using ih
theorem u8_dec (a b : UInt8) : decide ((a.toNat : Int) = (b.toNat : Int)) = decide (a = b) := by
  rw [decide_eq_decide]
  constructor
  · intro h; exact UInt8.toNat_inj.1 (by omega)
  · intro h; rw [h]
theorem getD_at {s : Str} {i : Nat} (h : i < s.length) : s.getD i 0 = s[i] := by rw [List.getD_eq_getElem?_getD, List.getElem?_eq_getElem h]; rfl
theorem split_step {c : UInt8} {s : Str} {i f : Nat} (hi : i < s.length) (hf : f ≤ i) (hn : c ∉ (s.drop f).take (i - f)) (he : s[i] = c) : splitB c (s.drop f) = (s.drop f).take (i - f) :: splitB c (s.drop (i + 1)) := by
  have : s.drop f = (s.drop f).take (i - f) ++ c :: s.drop (i + 1) := by
    have h1 : (s.drop f).drop (i - f) = s.drop i := by rw [List.drop_drop]; congr 1; omega
    rw [← he, ← List.drop_eq_getElem_cons hi, ← h1, List.take_append_drop]
  conv => lhs; rw [this]
  exact splitB_at _ hn
theorem cut_eq (s : Str) (f i : Nat) : (s.take i).drop f = (s.drop f).take (i - f) := by rw [List.drop_take]
end Go.Ab
set_option linter.unusedVariables false
set_option linter.unusedSimpArgs false
namespace Go.Ab
open Go.Proofs Go.Proofs.YtlkeingbjhhfeaaDoor
/-! ### What a plot is -/
def plMarks : Str := [46, 42, 47, 35, 124, 45, 43]
def hasM (k : Nat) (c : UInt8) : Bool := (plMarks.take k).any fun m => decide (c = m)
theorem hasM_0 (c : UInt8) : hasM 0 c = false := rfl
theorem hasM_s {k : Nat} (h : k < plMarks.length) (c : UInt8) : hasM (k + 1) c = (hasM k c || decide (c = plMarks[k])) := by
  rw [hasM, List.take_succ_eq_append_getElem h, List.any_append, List.any_cons, List.any_nil, Bool.or_false, hasM]
def lineG (n : Nat) (s : Str) : Bool := decide (s.length = n) && s.all (hasM 7)
def len0 (xs : List Str) : Nat := (xs.getD 0 []).length
def plotG (xs : List Str) : Bool := inI 1 60 xs.length && (inI 1 60 (len0 xs) && xs.all (lineG (len0 xs)))
theorem plotG_b {xs : List Str} (h : plotG xs = true) : 1 ≤ xs.length ∧ xs.length ≤ 60 ∧ 1 ≤ len0 xs ∧ len0 xs ≤ 60 ∧ ∀ l ∈ xs, l.length = len0 xs := by
  simp only [plotG, inI, Bool.and_eq_true, decide_eq_true_eq, List.all_eq_true] at h
  obtain ⟨⟨h1, h2⟩, ⟨h3, h4⟩, h5⟩ := h
  refine ⟨by omega, by omega, by omega, by omega, fun l hl => ?_⟩
  have := h5 l hl
  simp only [lineG, Bool.and_eq_true, decide_eq_true_eq] at this
  exact this.1
theorem len0_at {xs : List Str} (h : 0 < xs.length) : xs[0].length = len0 xs := by
  rw [len0, List.getD_eq_getElem?_getD, List.getElem?_eq_getElem h]; rfl
theorem spec_plGood (xs : List Str) (hstr : ∀ s ∈ xs, s.length ≤ 9223372036854775807) : ∀ H, AC Tryd.prog 11 [lS xs] H (fun v H' => v = .bool (plotG xs) ∧ H' = H) := by
  refine AC.pure (by simp only [go_sem]) (AC.len 0 rfl (fun hl => ?_) ⟨_, Tryd.func11, rfl, by kernel_rfl⟩)
  rw [List.length_map] at hl
  refine AC.enter (tbl0) (by kernel_rfl) Tryd.func11 rfl (by kernel_rfl) (by kernel_rfl) (by simp [Tryd.ntmps11]) Tryd.results11 ?_
  simp only [go_sem]
  refine ALoop.go (fun i => xs.length - i) (fun i => i ≤ xs.length ∧ (xs.take i).all (lineG (len0 xs)) = true) (fun i => [lS xs, .un, .un, .str plMarks, .un, .un, .un, .un, .un, lS xs, .i xs.length, .i (i : Nat)]) (fun _ => []) 0 ⟨Nat.zero_le _, rfl⟩ (fun _ => .same (by simp only [go_sem]; rfl)) ?_
  intro i ⟨hi, hall⟩
  rcases Nat.lt_or_ge i xs.length with hlt | hge
  · have h0 : 0 < xs.length := by omega
    have bad : lineG (len0 xs) xs[i] = false → plotG xs = false := fun hu => by
      have hf : xs.all (lineG (len0 xs)) = false := List.all_eq_false.2 ⟨xs[i], List.getElem_mem _, by simp [hu]⟩
      simp only [plotG, hf]; simp
    simp only [go_sem, getD_map rS hlt, getD_map rS h0, hlt, h0, decide_true, len0_at h0]
    refine ⟨by omega, fun hn => (bad (by simp only [lineG]; rw [decide_eq_false (by omega)]; rfl)).symm, fun hn => ?_⟩
    have hn : xs[i].length = len0 xs := by omega
    have hsl : xs[i].length ≤ 9223372036854775807 := hstr _ (List.getElem_mem hlt)
    refine ALoop.go (fun j => xs[i].length - j) (fun j => j ≤ xs[i].length ∧ (xs[i].take j).all (hasM 7) = true) (fun j => [lS xs, .un, .un, .str plMarks, .un, .str xs[i], .i (j : Nat), .un, .un, lS xs, .i xs.length, .i (i : Nat)]) (fun _ => []) 0 ⟨Nat.zero_le _, rfl⟩ (fun _ => .same (by simp only [go_sem])) ?_
    intro j ⟨hj, hjall⟩
    rcases Nat.lt_or_ge j xs[i].length with jlt | jge
    · have hgd := getD_at jlt
      simp only [go_sem, jlt, decide_true]
      refine ALoop.go (fun k => 7 - k) (fun k => k ≤ 7) (fun k => [lS xs, .un, .un, .str plMarks, .un, .str xs[i], .i (j : Nat), .bool (hasM k xs[i][j]), .i (k : Nat), lS xs, .i xs.length, .i (i : Nat)]) (fun _ => []) 0 (Nat.zero_le _) (fun _ => .same (by simp only [go_sem, hasM_0])) ?_
      intro k hk
      have hml : plMarks.length = 7 := rfl
      rcases Nat.lt_or_ge k 7 with klt | kge
      · have hkm : k < plMarks.length := klt
        have hgk := getD_at hkm
        have klt' : (k : Int) < 7 := by omega
        simp only [go_sem, hml, klt', klt, decide_true, hgd, hgk, u8_dec]
        refine ⟨fun hf => ?_, fun hf => ?_⟩
        · exact ⟨jlt, loopK.go (k + 1) (by omega) (by omega) (fun _ => .same (by simp only [go_sem, hasM_s hkm, hf, Bool.false_or, w64s k (by omega)]))⟩
        · exact loopK.go (k + 1) (by omega) (by omega) (fun _ => .same (by simp only [go_sem, hasM_s hkm, hf, Bool.true_or, w64s k (by omega)]))
      · have h1 : ¬ k < 7 := by omega
        have h1' : ¬ (k : Int) < 7 := by omega
        have : k = 7 := by omega
        subst this
        simp only [go_sem, hml, h1, h1']
        refine ⟨fun hf => ?_, fun hf => ?_⟩
        · have : xs[i].all (hasM 7) = false := List.all_eq_false.2 ⟨xs[i][j], List.getElem_mem _, by simp [hf]⟩
          rw [bad (by simp only [lineG, this]; simp)]
        · exact loopK.go (j + 1) (by omega) ⟨by omega, by rw [List.take_succ_eq_append_getElem jlt, List.all_append, hjall]; simp [hf]⟩ (fun _ => .same (by simp only [go_sem, w64s j (by omega)]))
    · have h1 : ¬ j < xs[i].length := by omega
      have : j = xs[i].length := by omega
      rw [this, List.take_length] at hjall
      have hok : lineG (len0 xs) xs[i] = true := by simp only [lineG, hjall, hn]; simp
      simp only [go_sem, h1]
      exact loopK.go (i + 1) (by omega) ⟨by omega, by rw [List.take_succ_eq_append_getElem hlt, List.all_append, hall]; simp [hok]⟩ (fun _ => .same (by simp only [go_sem, w64s i (by omega)]))
  · have h1 : ¬ i < xs.length := by omega
    have : i = xs.length := by omega
    subst this
    rw [List.take_length] at hall
    simp only [go_sem, h1]
    refine AC.call (spec_l1In _ _ _ _) ?_
    simp only [go_sem]
    refine ⟨fun h2 => ?_, fun h2 => by simp only [plotG, inI, h2]; rfl⟩
    have h0 : 0 < xs.length := by simp at h2; omega
    simp only [go_sem, getD_map rS h0, h0, len0_at h0]
    refine ⟨by omega, ?_⟩
    refine AC.call (spec_l1In _ _ _ _) ?_
    simp only [go_sem]
    simp only [plotG, inI, h2, hall]
    simp
end Go.Ab
set_option linter.unusedVariables false
set_option linter.unusedSimpArgs false
namespace Go.Ab
open Go.Proofs Go.Proofs.YtlkeingbjhhfeaaDoor
set_option maxRecDepth 1000000 in
theorem strings_TrimM (s : Str) (h0 : 0 < s.length) (hs : s.length ≤ 9223372036854775807) : ∀ H, AC Tryd.prog 19 [.str s, .str [46, 42, 47, 35, 124, 45, 43]] H (fun v H' => v = .str (Lib.trimS s plMarks) ∧ H' = H) := by
  refine AC.ext ⟨_, Tryd.func19, rfl, by kernel_rfl⟩ fun m w vs hv => ?_
  rw [rel_str2 hv]
  have key : ∀ b ∈ plMarks, b.toNat < 128 := by decide
  refine (Any.strings_Trim_set Tryd.lays160 (fun w => by kernel_rfl) (by kernel_rfl) ⟨s.toArray⟩ ⟨plMarks.toArray⟩ w (by decide) (by simpa [ByteArray.size] using h0) (by simpa [ByteArray.size] using hs) (by decide) (fun j b hb => ?_)).mono ?_
  · have : b ∈ plMarks := List.mem_of_getElem? (by simpa using hb)
    exact key b this
  rintro e w' ⟨rfl, q, rfl⟩
  refine ⟨_, rfl, .str _, ?_⟩
  have hb := Go.Joins.below_alloc2 w (.cells (Lib.setCells plMarks) (Tryd.lays160_ren.t 116)) (.cells (Lib.setCells plMarks) (Tryd.lays160_ren.t 116))
  exact ⟨hb.os, hb.tape, hb.output, hb.size, hb.block⟩
theorem hasM_c (c : UInt8) : plMarks.contains c = hasM 7 c := by
  have : plMarks.take 7 = plMarks := rfl
  rw [hasM, this, List.contains_eq_any_beq]
  congr 1
theorem dropWhile_nil {α : Type} (p : α → Bool) : ∀ l : List α, l.dropWhile p = [] ↔ l.all p = true
  | [] => by simp
  | x :: l => by
    rw [List.dropWhile_cons, List.all_cons]
    cases h : p x <;> simp [dropWhile_nil p l]
theorem trim_nil (s : Str) : Lib.trimS s plMarks = [] ↔ s.all (hasM 7) = true := by
  have e : (fun x => plMarks.contains x) = hasM 7 := funext hasM_c
  rw [Lib.trimS, Lib.trimLeftS, dropWhile_nil, Lib.trimRightS, e, List.all_reverse]
  constructor
  · intro h
    cases hd : s.reverse.dropWhile (hasM 7) with
    | nil => rw [dropWhile_nil, List.all_reverse] at hd; exact hd
    | cons x l =>
      have h1 := List.head_dropWhile_not (hasM 7) (l := s.reverse) (by rw [hd]; simp)
      simp only [hd, List.head_cons] at h1
      rw [hd, List.all_cons, h1] at h
      simp at h
  · intro h
    rw [← List.all_reverse] at h
    rw [(dropWhile_nil (hasM 7) s.reverse).2 h]; rfl
theorem slices_IndexFunc_String (xs : List (List UInt8)) (g : Nat) (cap : List AV) (p : List UInt8 → Bool) (H : AHeap) (hc : BelL H.length cap) (hp : ∀ x, AC Tryd.prog g (AV.str x :: cap) H (fun v H' => v = .bool (p x) ∧ H' = H)) :
    AC Tryd.prog 26 [lS xs, .fn g cap] H (fun v H' => v = .i (idxF p xs) ∧ H' = H) := by
  refine AC.len 0 rfl (fun hl => ?_) ⟨_, Tryd.func26, rfl, by kernel_rfl⟩
  rw [List.length_map] at hl
  refine AC.enter (tbl0) (by kernel_rfl) Tryd.func26 rfl (by kernel_rfl) (by kernel_rfl) (by simp [Tryd.ntmps26]) Tryd.results26 ?_
  simp only [go_sem]
  refine ALoop.go (fun i => xs.length - i) (fun i => i ≤ xs.length ∧ (xs.take i).findIdx? p = none) (fun i => [lS xs, .fn g cap, .un, .un, .un, .un, .un, .i xs.length, .i (i : Nat)]) (fun _ => H) 0 ⟨Nat.zero_le _, rfl⟩ (fun _ => .same (by simp only [go_sem, rvv_self hc])) ?_
  intro i ⟨hi, hf⟩
  rcases Nat.lt_or_ge i xs.length with hlt | hge
  · simp only [go_sem, getD_map rS hlt, hlt, decide_true]
    refine AC.call (hp xs[i]) ?_
    simp only [go_sem]
    refine ⟨fun ht => by rw [idxF_at hlt hf ht], fun hn => ?_⟩
    exact loopK.go (i + 1) (by omega) ⟨by omega, take_none hlt hf hn⟩ (fun _ => .same (by simp only [go_sem, w64s i (by omega), rvv_self hc]))
  · have h1 : ¬ i < xs.length := by omega
    have : i = xs.length := by omega
    subst this
    simp only [go_sem, h1]
    rw [List.take_length] at hf
    simp [idxF, hf]
theorem slices_ContainsFunc_String (xs : List (List UInt8)) (g : Nat) (cap : List AV) (p : List UInt8 → Bool) (H : AHeap) (hc : BelL H.length cap) (hp : ∀ x, AC Tryd.prog g (AV.str x :: cap) H (fun v H' => v = .bool (p x) ∧ H' = H)) :
    AC Tryd.prog 17 [lS xs, .fn g cap] H (fun v H' => v = .bool (xs.any p) ∧ H' = H) := by
  refine AC.enter (tbl0) (by kernel_rfl) Tryd.func17 rfl (by kernel_rfl) (by kernel_rfl) (by simp [Tryd.ntmps17]) Tryd.results17 ?_
  simp only [go_sem]
  refine AC.call (slices_IndexFunc_String xs g cap p H hc hp) ?_
  simp only [go_sem]
  rw [idxF_any p xs]
theorem impl_isPlot_1 (xs : List Str) (hx : 0 < xs.length) (hx0 : 1 ≤ len0 xs ∧ len0 xs ≤ 60) (s : Str) : AC Tryd.prog 18 [.str s, .ptr 0 0 0] [some ⟨true, 1, [[lS xs]]⟩] (fun v H' => v = .bool (!lineG (len0 xs) s) ∧ H' = [some ⟨true, 1, [[lS xs]]⟩]) := by
  refine AC.enter (tbl0) (by kernel_rfl) Tryd.func18 rfl (by kernel_rfl) (by kernel_rfl) (by simp [Tryd.ntmps18]) Tryd.results18 ?_
  have hg0 := getD_map rS hx
  simp only [go_sem, hg0, len0_at hx]
  refine ⟨by omega, fun h => ?_, fun h => ?_⟩
  · have h' : s.length = len0 xs := by omega
    refine AC.call (strings_TrimM s (by omega) (by omega) _) ?_
    simp only [go_sem]
    cases h2 : s.all (hasM 7)
    · have : ¬ Lib.trimS s plMarks = [] := fun e => by rw [trim_nil, h2] at e; exact absurd e (by simp)
      simp [lineG, h2, this]
    · have := (trim_nil s).2 h2
      simp [lineG, h2, this, h']
  · have h' : ¬ s.length = len0 xs := by omega
    simp [lineG, h']
theorem impl_isPlot (xs : List Str) : ∀ H, AC Tryd.prog 12 [lS xs] H (fun v H' => v = .bool (plotG xs) ∧ H' = H) := by
  refine AC.pure (by simp only [go_sem]) (AC.len 0 rfl (fun hl => ?_) ⟨_, Tryd.func12, rfl, by kernel_rfl⟩)
  rw [List.length_map] at hl
  refine AC.enter (tbl0) (by kernel_rfl) Tryd.func12 rfl (by kernel_rfl) (by kernel_rfl) (by simp [Tryd.ntmps12]) Tryd.results12 ?_
  simp only [go_sem]
  refine AC.call (impl_within _ _ _ _) ?_
  simp only [go_sem]
  refine ⟨fun h1 => ?_, fun h1 => by simp only [plotG, inI, h1]; rfl⟩
  have h0 : 0 < xs.length := by simp at h1; omega
  simp only [go_sem, getD_map rS h0, h0, len0_at h0]
  refine ⟨by omega, ?_⟩
  refine AC.call (impl_within _ _ _ _) ?_
  simp only [go_sem]
  refine ⟨fun h2 => ?_, fun h2 => by simp only [plotG, inI, h1, h2]; rfl⟩
  have hb : 1 ≤ len0 xs ∧ len0 xs ≤ 60 := by simp at h2; omega
  refine AC.call (slices_ContainsFunc_String xs _ [.ptr 0 0 0] (fun s => !lineG (len0 xs) s) [some ⟨true, 1, [[lS xs]]⟩] (.cons (.ptr (show 0 < 1 by decide)) .nil) fun x => impl_isPlot_1 xs h0 hb x) ?_
  simp only [go_sem]
  have e : (!xs.any fun s => !lineG (len0 xs) s) = xs.all (lineG (len0 xs)) := by
    rw [List.any_eq_not_all_not]; simp
  rw [e]
  simp only [plotG, inI, h1, h2]
  simp
/-! ### Strings in the laws -/
def szL (c : Int) : List Str → Int
  | [] => c
  | s :: r => if c - s.length < 0 then -1 else szL (c - s.length) r
def szSV (c : Int) (xs : List Str) : Int := if c - xs.length < 0 then -1 else szL (c - xs.length) xs
theorem szL_ok {c : Int} : ∀ {xs : List Str}, 0 ≤ szL c xs → ∀ s ∈ xs, (s.length : Int) ≤ c
  | [], _, s, hs => by simp at hs
  | t :: r, h, s, hs => by
    rw [szL] at h
    split at h
    · omega
    · rename_i hc
      rcases List.mem_cons.1 hs with e | e
      · subst e; omega
      · have := szL_ok h s e
        omega
theorem szSV_ok {c : Int} {xs : List Str} (h : ¬ szSV c xs < 0) : (xs.length : Int) ≤ c ∧ ∀ s ∈ xs, (s.length : Int) ≤ c := by
  rw [szSV] at h
  split at h
  · omega
  · refine ⟨by omega, fun s hs => ?_⟩
    have := szL_ok (c := c - xs.length) (by omega) s hs
    omega
theorem laws_szStringS (xs : List Str) (c : Int) (hc0 : 0 ≤ c) (hc : c ≤ 1048576) (hstr : ∀ s ∈ xs, s.length ≤ 9223372036854775807) : ∀ H, AC Tryd.prog 4 [lS xs, .i c] H (fun v H' => v = .i (szSV c xs) ∧ H' = H) := by
  refine AC.pure (by simp only [go_sem]) (AC.len 0 rfl (fun hl => ?_) ⟨_, Tryd.func4, rfl, by kernel_rfl⟩)
  rw [List.length_map] at hl
  refine AC.enter (tbl0) (by kernel_rfl) Tryd.func4 rfl (by kernel_rfl) (by kernel_rfl) (by simp [Tryd.ntmps4]) Tryd.results4 ?_
  have hw := w64 (c - xs.length) (by omega) (by omega)
  simp only [go_sem, hw]
  refine ⟨fun h => by rw [szSV, if_pos h], fun h => ?_⟩
  refine ALoop.go (fun s : Nat × Int => xs.length - s.1) (fun s => s.1 ≤ xs.length ∧ 0 ≤ s.2 ∧ s.2 ≤ c ∧ szL s.2 (xs.drop s.1) = szSV c xs) (fun s => [lS xs, .i s.2, .un, .un, .un, .i (s.1 : Nat)]) (fun _ => []) (0, c - xs.length) ⟨Nat.zero_le _, by simp only; omega, by simp only; omega, by simp only [List.drop_zero]; rw [szSV, if_neg h]⟩ (fun _ => .same (by simp only [go_sem])) ?_
  rintro ⟨i, d⟩ ⟨hi, hd0, hd, he⟩
  simp only at hi hd0 hd he
  rcases Nat.lt_or_ge i xs.length with hlt | hge
  · simp only [go_sem, getD_map rS hlt, hlt, decide_true]
    have hsl := hstr _ (List.getElem_mem hlt)
    have hw1 := w64 (d - xs[i].length) (by omega) (by omega)
    have hst : szL d (xs.drop i) = if d - xs[i].length < 0 then -1 else szL (d - xs[i].length) (xs.drop (i + 1)) := by
      rw [List.drop_eq_getElem_cons hlt, szL]
    rw [hw1]
    refine ⟨fun hn => by rw [← he, hst, if_pos hn], fun hn => ?_⟩
    rw [hst, if_neg hn] at he
    refine loopK.go (i + 1, d - xs[i].length) (by simp only; omega) ⟨by simp only; omega, by simp only; omega, by simp only; omega, he⟩ (fun _ => .same ?_)
    simp only [go_sem, w64s i (by omega), hw1]
  · have h1 : ¬ i < xs.length := by omega
    rw [List.drop_of_length_le hge] at he
    simp only [go_sem, h1]
    exact he
theorem laws_toStringS (xs : List (List UInt8)) (hx : xs.length ≤ 1048576) : AC Tryd.prog 6 [lS xs] [] (fun v H' => v = .sl 0 0 xs.length ∧ H' = [some ⟨true, 1, xs.map rS⟩]) := by
  refine AC.own (.map bel_rS _) (AC.enter (tbl0) (by kernel_rfl) Tryd.func6 rfl (by kernel_rfl) (by kernel_rfl) (by simp [Tryd.ntmps6]) Tryd.results6 ?_)
  simp only [go_sem]
  refine ⟨by omega, by omega, ?_⟩
  refine ALoop.go (fun i => xs.length - i) (fun i => i ≤ xs.length) (fun i => [lS xs, .un, .un, .sl 0 0 xs.length, .i (i : Nat)]) (fun i => [some ⟨true, 1, (xs.take i).map rS ++ List.replicate (xs.length - i) [AV.str []]⟩]) 0 (Nat.zero_le _) (fun _ => .same (by simp only [go_sem])) ?_
  intro i hi
  rcases Nat.lt_or_ge i xs.length with hlt | hge
  · have hfs := fill_set rS [AV.str []] xs hlt
    rw [rS_eq] at hfs
    simp only [go_sem, getD_map rS hlt, hlt, decide_true, fill_get rS _ _ hlt, hfs]
    skip
    refine loopK.go (i + 1) (by omega) (by omega) (fun _ => .same ?_)
    simp only [go_sem, w64s i (by omega)]
  · have : ¬ i < xs.length := by omega
    simp only [go_sem, this]
    have : i = xs.length := by omega
    subst this
    exact ⟨0, .inl (by simp [hget]), by simp only [go_sem]⟩
end Go.Ab
set_option linter.unusedVariables false
set_option linter.unusedSimpArgs false
namespace Go.Ab
open Go.Proofs Go.Proofs.YtlkeingbjhhfeaaDoor
/-! ### Frames -/
def edgeS (w : Nat) : Str := 43 :: (List.replicate w 45 ++ [43])
def sideS (l : Str) : Str := 124 :: (l ++ [124])
def frameS (xs : List Str) : List Str := edgeS (len0 xs) :: (xs.map sideS ++ [edgeS (len0 xs)])
def frB (xs : List Str) : Bool := plotG xs && plotG (frameS xs)
def frV (xs : List Str) : List Str := if frB xs then frameS xs else []
theorem edgeS_len (w : Nat) : (edgeS w).length = w + 2 := by simp [edgeS]
theorem sideS_len (l : Str) : (sideS l).length = l.length + 2 := by simp [sideS]
theorem frameS_len (xs : List Str) : (frameS xs).length = xs.length + 2 := by simp [frameS]
theorem frameS_str {xs : List Str} (h : plotG xs = true) : ∀ s ∈ frameS xs, s.length ≤ 9223372036854775807 := fun s hs => by
  obtain ⟨p1, p2, p3, p4, p5⟩ := plotG_b h
  simp only [frameS, List.mem_cons, List.mem_append, List.mem_map, List.mem_nil_iff, or_false] at hs
  rcases hs with h1 | ⟨l, hl, h1⟩ | h1
  · rw [h1, edgeS_len]; omega
  · rw [← h1, sideS_len, p5 l hl]; omega
  · rw [h1, edgeS_len]; omega
theorem frV_len (xs : List Str) : (frV xs).length ≤ 62 := by
  unfold frV
  split
  · rename_i h
    simp only [frB, Bool.and_eq_true] at h
    rw [frameS_len]; have := (plotG_b h.1).2.1; omega
  · simp
theorem side_step (W : Nat) {xs : List Str} {i : Nat} (hi : i < xs.length) : (edgeS W :: (xs.take (i + 1)).map sideS).map rS = [AV.str (edgeS W)] :: (((xs.take i).map sideS).map rS ++ [[AV.str (124 :: (xs[i] ++ [124]))]]) := by
  rw [List.take_succ_eq_append_getElem hi, List.map_cons, List.map_append, List.map_append]; rfl
theorem impl_FrameOf (xs : List Str) : AC Tryd.prog 7 [lS xs] [] (fun v H' => v = .tup [.sl 0 0 (frV xs).length, .bool (frB xs)] ∧ H' = [some ⟨true, 1, (frV xs).map rS⟩]) := by
  refine AC.own (.map bel_rS _) (AC.enter (tbl0) (by kernel_rfl) Tryd.func7 rfl (by kernel_rfl) (by kernel_rfl) (by simp [Tryd.ntmps7]) Tryd.results7 ?_)
  have no : ∀ H, frB xs = false → Own1 1 ((frV xs).map rS) (.tup [.sl 0 0 (frV xs).length, .bool (frB xs)]) (.tup [.nil, .bool false]) H := fun H h => by
    simp only [frV, h]; exact ⟨_, .inr ⟨rfl, rfl⟩, by simp only [go_sem]⟩
  simp only [go_sem]
  refine AC.call (impl_isPlot xs _) ?_
  simp only [go_sem]
  refine ⟨fun h => no _ (by simp only [frB, h]; rfl), fun h => ?_⟩
  obtain ⟨p1, p2, p3, p4, p5⟩ := plotG_b h
  have h0 : 0 < xs.length := by omega
  have hl0 := len0_at h0
  simp only [go_sem, getD_map rS h0, h0, hl0]
  refine ⟨by omega, ?_⟩
  generalize hW : len0 xs = W at p3 p4 p5 hl0
  have hfr : frameS xs = edgeS W :: (xs.map sideS ++ [edgeS W]) := by rw [frameS, hW]
  have hrl : (List.replicate W (45 : UInt8)).length = W := List.length_replicate
  refine AC.call (strings_Repeat1 45 W (by omega) _) ?_
  simp only [go_sem, hrl]
  refine ⟨by omega, by omega, ?_⟩
  refine ALoop.go (fun i => xs.length - i) (fun i => i ≤ xs.length) (fun i => [.un, .un, .un, .un, .str (edgeS W), .sl 0 0 (i + 1), .un, .un, .un, .un, .un, .un, .un, .un, .un, .un, .un, .un, .un, .un, lS xs, .i xs.length, .i (i : Nat)]) (fun i => [some ⟨true, 1, (edgeS W :: (xs.take i).map sideS).map rS⟩]) 0 (Nat.zero_le _) (fun _ => .ks [] [0] rfl (by simp) rfl ⟨.map bel_rS _, trivial⟩ (by simp only [go_sem, edgeS])) ?_
  intro i hi
  have hti : (xs.take i).length = i := by simp; omega
  rcases Nat.lt_or_ge i xs.length with hlt | hge
  · have hwl := p5 _ (List.getElem_mem hlt)
    simp only [go_sem, getD_map rS hlt, hlt, decide_true]
    refine ⟨by omega, by omega, hti.symm, by omega, by simp only [maxLen]; omega, loopK.go (i + 1) (by omega) (by omega) (fun _ => .ks [] [2] rfl (by simp) (by show [some (⟨true, 1, (edgeS W :: (xs.take (i + 1)).map sideS).map rS⟩ : Blk)] = _; rw [side_step W hlt]; rfl) ⟨.map bel_rS _, trivial⟩ (by simp only [go_sem, w64s i (by omega), hti]))⟩
  · have h1 : ¬ i < xs.length := by omega
    have : i = xs.length := by omega
    subst this
    rw [List.take_length]
    simp only [go_sem, h1]
    refine ⟨by omega, by simp only [maxLen]; omega, ?_⟩
    have hrows : [AV.str (edgeS W)] :: ((xs.map sideS).map rS ++ [[AV.str (edgeS W)]]) = (frameS xs).map rS := by rw [hfr, List.map_cons, List.map_append]; rfl
    have hfl : xs.length + 1 + 1 = (frameS xs).length := (frameS_len xs).symm
    simp only [go_sem, hrows, hfl]
    refine AC.call (AC.lend0 (.c (.sl0 rfl (by simp) (.map bel_rS _)) .n) (impl_isPlot (frameS xs) []) (.bool _ _)) ?_
    simp only [go_sem]
    refine ⟨fun h2 => no _ (by simp only [frB, h2]; simp), fun h2 => ?_⟩
    have hB : frB xs = true := by simp only [frB, h, h2]; rfl
    have hV : frV xs = frameS xs := by rw [frV, if_pos hB]
    rw [hB, hV]
    exact ⟨2, .inl rfl, by simp only [go_sem]; exact hfl.symm⟩
theorem spec_FrameOf (xs : List Str) (hstr : ∀ s ∈ xs, s.length ≤ 9223372036854775807) : AC Tryd.prog 5 [lS xs] [] (fun v H' => v = .tup [.sl 0 0 (frV xs).length, .bool (frB xs)] ∧ H' = [some ⟨true, 1, (frV xs).map rS⟩]) := by
  refine AC.own (.map bel_rS _) (AC.enter (tbl0) (by kernel_rfl) Tryd.func5 rfl (by kernel_rfl) (by kernel_rfl) (by simp [Tryd.ntmps5]) Tryd.results5 ?_)
  have no : ∀ H, frB xs = false → Own1 1 ((frV xs).map rS) (.tup [.sl 0 0 (frV xs).length, .bool (frB xs)]) (.tup [.nil, .bool false]) H := fun H h => by
    simp only [frV, h]; exact ⟨_, .inr ⟨rfl, rfl⟩, by simp only [go_sem]⟩
  simp only [go_sem]
  refine AC.call (spec_plGood xs hstr _) ?_
  simp only [go_sem]
  refine ⟨fun h => no _ (by simp only [frB, h]; rfl), fun h => ?_⟩
  obtain ⟨p1, p2, p3, p4, p5⟩ := plotG_b h
  have h0 : 0 < xs.length := by omega
  have hl0 := len0_at h0
  generalize hW : len0 xs = W at p3 p4 p5 hl0
  have hfr : frameS xs = edgeS W :: (xs.map sideS ++ [edgeS W]) := by rw [frameS, hW]
  simp only [go_sem]
  refine ALoop.go (fun k => W - k) (fun k => k ≤ W) (fun k => [lS xs, .un, .un, .un, .str (43 :: List.replicate k 45)]) (fun _ => []) 0 (Nat.zero_le _) (fun _ => .same (by simp only [go_sem, List.replicate_zero])) ?_
  intro k hk
  have hrl : (List.replicate k (45 : UInt8)).length = k := List.length_replicate
  rcases Nat.lt_or_ge k W with klt | kge
  · have c1 : (k : Int) + 1 ≤ W := by omega
    simp only [go_sem, getD_map rS h0, h0, hl0, hrl, klt, c1, decide_true]
    exact ⟨by omega, fun hc => ⟨by omega, loopK.go (k + 1) (by omega) (by omega) (fun _ => .same (by simp only [go_sem, rep1]))⟩, fun hc => by omega⟩
  · have : k = W := by omega
    subst this
    simp only [go_sem, getD_map rS h0, h0, hl0, hrl]
    refine ⟨by omega, fun hc => by omega, fun hc => ⟨by omega, ?_⟩⟩
    refine ALoop.go (fun i => xs.length - i) (fun i => i ≤ xs.length) (fun i => [.un, .un, .un, .un, .str (edgeS k), .sl 0 0 (i + 1), .un, .un, .un, .un, .un, .un, .un, .un, .un, .un, .un, .un, .un, .un, .un, .un, .un, .un, lS xs, .i xs.length, .i (i : Nat)]) (fun i => [some ⟨true, 1, (edgeS k :: (xs.take i).map sideS).map rS⟩]) 0 (Nat.zero_le _) (fun _ => .ks [] [0] rfl (by simp) rfl ⟨.map bel_rS _, trivial⟩ (by simp only [go_sem, edgeS])) ?_
    intro i hi
    have hti : (xs.take i).length = i := by simp; omega
    rcases Nat.lt_or_ge i xs.length with hlt | hge
    · have hwl := p5 _ (List.getElem_mem hlt)
      simp only [go_sem, getD_map rS hlt, hlt, decide_true]
      refine ⟨by omega, by omega, hti.symm, by omega, by simp only [maxLen]; omega, loopK.go (i + 1) (by omega) (by omega) (fun _ => .ks [] [2] rfl (by simp) (by show [some (⟨true, 1, (edgeS k :: (xs.take (i + 1)).map sideS).map rS⟩ : Blk)] = _; rw [side_step k hlt]; rfl) ⟨.map bel_rS _, trivial⟩ (by simp only [go_sem, w64s i (by omega), hti]))⟩
    · have h1 : ¬ i < xs.length := by omega
      have : i = xs.length := by omega
      subst this
      rw [List.take_length]
      simp only [go_sem, h1]
      refine ⟨by omega, by simp only [maxLen]; omega, ?_⟩
      have hrows : [AV.str (edgeS k)] :: ((xs.map sideS).map rS ++ [[AV.str (edgeS k)]]) = (frameS xs).map rS := by rw [hfr, List.map_cons, List.map_append]; rfl
      have hfl : xs.length + 1 + 1 = (frameS xs).length := (frameS_len xs).symm
      simp only [go_sem, hrows, hfl]
      refine AC.call (AC.lend0 (.c (.sl0 rfl (by simp) (.map bel_rS _)) .n) (spec_plGood (frameS xs) (frameS_str h) []) (.bool _ _)) ?_
      simp only [go_sem]
      refine ⟨fun h2 => no _ (by simp only [frB, h2]; simp), fun h2 => ?_⟩
      have hB : frB xs = true := by simp only [frB, h, h2]; rfl
      have hV : frV xs = frameS xs := by rw [frV, if_pos hB]
      rw [hB, hV]
      exact ⟨2, .inl rfl, by simp only [go_sem]; exact hfl.symm⟩
end Go.Ab
set_option linter.unusedVariables false
set_option linter.unusedSimpArgs false
namespace Go.Ab
open Go.Proofs
theorem law_FrameOf (xs : List Str) (hstr : ∀ s ∈ xs, s.length ≤ 9223372036854775807) : ∀ H, AC Tryd.prog 3 [lS xs] H (fun v H' => v = .bool true ∧ H' = H) := by
  refine AC.pure (by simp only [go_sem]) (AC.enter (tbl0) (by kernel_rfl) Tryd.func3 rfl (by kernel_rfl) (by kernel_rfl) (by simp [Tryd.ntmps3]) Tryd.results3 ?_)
  simp only [go_sem]
  refine AC.call (laws_szStringS xs 1048576 (by omega) (by omega) hstr _) ?_
  simp only [go_sem]
  refine ⟨fun hz => trivial, fun hz => ?_⟩
  have hx : xs.length ≤ 1048576 := by have := (szSV_ok hz).1; omega
  have hV := frV_len xs
  refine AC.call (laws_toStringS xs hx) ?_
  simp only [go_sem]
  refine AC.call (AC.lend (.c (.sl0 rfl (by simp) (.map bel_rS _)) .n) (spec_FrameOf xs hstr) (.tupl (.c (.sl _ _ _ _) (.c (.bool _ _) .n))) (.raw (.map raw_rS _))) ?_
  simp only [go_sem]
  refine AC.call (AC.lend (.c .lst .n) (laws_toStringS xs hx) (.sl _ _ _ _) (.raw (.map raw_rS _))) ?_
  simp only [go_sem]
  refine AC.call (AC.lend (.c (.sl0 rfl (by simp) (.map bel_rS _)) .n) (impl_FrameOf xs) (.tupl (.c (.sl _ _ _ _) (.c (.bool _ _) .n))) (.raw (.map raw_rS _))) ?_
  simp only [go_sem]
  refine AC.call (AC.lend0 (.c (.sl0 rfl (by simp) (.map bel_rS _)) (.c (.sl0 rfl (by simp) (.map bel_rS _)) .n)) (laws_eqStringS (frV xs) []) (.bool _ _)) ?_
  simp only [go_sem, beq_self_eq_true]
  refine AC.call (AC.lend (.c .lst .n) (laws_toStringS xs hx) (.sl _ _ _ _) (.raw (.map raw_rS _))) ?_
  simp only [go_sem]
  refine AC.call (AC.lend0 (.c (.sl0 rfl (by simp) (.map bel_rS _)) (.c (.sl0 rfl (by simp) (.map bel_rS _)) .n)) (laws_eqStringS xs []) (.bool _ _)) ?_
  simp only [go_sem]
  refine AC.call (laws_markStringS xs 1 hx (by omega) _ _ rfl) ?_
  simp only [go_sem]
  refine AC.call (AC.lend0 (.c (.sl0 rfl (by simp) (.map bel_rS _)) (.c (.sl0 rfl (by simp) (.map bel_rS _)) .n)) (laws_eqStringS (frV xs) []) (.bool _ _)) ?_
  simp only [go_sem, beq_self_eq_true]
  refine AC.call (laws_markStringS (frV xs) 1 (by omega) (by omega) _ _ rfl) ?_
  simp only [go_sem]
  refine AC.call (AC.lend0 (.c (.sl0 rfl (by simp [marks]) (.map bel_rS _)) (.c .int .n)) (laws_heldStringS (frV xs).length 1 (by omega) (by omega) []) (.int _ _ _)) ?_
  simp only [go_sem, decide_true]
  refine AC.call (AC.lend (.c .lst .n) (laws_toStringS xs hx) (.sl _ _ _ _) (.raw (.map raw_rS _))) ?_
  simp only [go_sem]
  refine AC.call (AC.lend (.c (.sl0 rfl (by simp) (.map bel_rS _)) .n) (impl_FrameOf xs) (.tupl (.c (.sl _ _ _ _) (.c (.bool _ _) .n))) (.raw (.map raw_rS _))) ?_
  simp only [go_sem]
  refine AC.call (AC.lend0 (.c (.sl0 rfl (by simp) (.map bel_rS _)) (.c (.sl0 rfl (by simp) (.map bel_rS _)) .n)) (laws_eqStringS (frV xs) []) (.bool _ _)) ?_
  simp only [go_sem, beq_self_eq_true]
  refine AC.call (AC.lend0 (.c (.sl0 rfl (by simp [marks]) (.map bel_rS _)) (.c .int .n)) (laws_heldStringS (frV xs).length 1 (by omega) (by omega) []) (.int _ _ _)) ?_
  simp only [go_sem, decide_true]
end Go.Ab
