import Derived.Test.YtmgggjaphphkhaaAbC
import Derived.Test.YtmgggjaphphkhaaTy
import Derived.Lib.Builder
import Derived.WalkKit
import Derived.Laws.Externs
import Derived.Shelf.Strings.Builder1
import Derived.Shelf.Strings.Builder2
import Derived.Shelf.Strings.BuilderF
import Derived.Shelf.Strings.BuilderK
import Derived.Shelf.Utf8.RuneCount
import Derived.Shelf.Strings.Builder2Cap
import Derived.Shelf.Strings.Search1
import Derived.Shelf.Strings.Search2
import Derived.Shelf.Strings.Search3
import Derived.Shelf.Strings.Count
import Derived.Shelf.LaysM
import Derived.Shelf.Strings.Shaped
import Derived.Shelf.Strings.Prefix
import Derived.Shelf.Strings.Split
import Derived.Shelf.Strings.RuneCount
import Derived.Shelf.Bits.Mul64
import Derived.Shelf.Strings.Repeat
import Derived.Shelf.Strings.BuilderCap
import Derived.Test.YtmgggjaphphkhaaProg
import Derived.Lib.Repeat
set_option linter.unusedVariables false
set_option linter.unusedSimpArgs false
namespace Go.Ab
open Go.Proofs
abbrev Str := List UInt8
theorem avi {a b : Int} (h : a = b) : AV.i a = AV.i b := congrArg AV.i h
theorem impl_within (n lo hi : Int) : ∀ H, AC Try.prog 52 [.i n, .i lo, .i hi] H (fun v H' => v = .bool (decide (lo ≤ n) && decide (n ≤ hi)) ∧ H' = H) := by
  refine AC.pure (by simp only [go_sem]) (AC.enter (tbl0) (by kernel_rfl) Try.func52 rfl (by kernel_rfl) (by kernel_rfl) (by simp [Try.ntmps52]) Try.results52 ?_)
  simp only [go_sem]
  refine ⟨fun h => ?_, fun h => ?_⟩ <;> simp [h]
theorem spec_l1In (n lo hi : Int) : ∀ H, AC Try.prog 49 [.i n, .i lo, .i hi] H (fun v H' => v = .bool (decide (lo ≤ n) && decide (n ≤ hi)) ∧ H' = H) := by
  refine AC.pure (by simp only [go_sem]) (AC.enter (tbl0) (by kernel_rfl) Try.func49 rfl (by kernel_rfl) (by kernel_rfl) (by simp [Try.ntmps49]) Try.results49 ?_)
  simp only [go_sem]
  refine ⟨fun h => ?_, fun h => ?_⟩ <;> simp [h]
theorem impl_abs (n : Int) (hn : -9223372036854775808 < n) (hn' : n < 9223372036854775808) : ∀ H, AC Try.prog 123 [.i n] H (fun v H' => v = .i n.natAbs ∧ H' = H) := by
  refine AC.pure (by simp only [go_sem]) (AC.enter (tbl0) (by kernel_rfl) Try.func123 rfl (by kernel_rfl) (by kernel_rfl) (by simp [Try.ntmps123]) Try.results123 ?_)
  simp only [go_sem]
  refine ⟨fun h => ?_, fun h => ?_⟩
  · rw [w64 _ (by omega) (by omega)]; omega
  · omega
theorem spec_l1Most (a b : Int) : ∀ H, AC Try.prog 122 [.i a, .i b] H (fun v H' => v = .i (max a b) ∧ H' = H) := by
  refine AC.pure (by simp only [go_sem]) (AC.enter (tbl0) (by kernel_rfl) Try.func122 rfl (by kernel_rfl) (by kernel_rfl) (by simp [Try.ntmps122]) Try.results122 ?_)
  simp only [go_sem]
  exact ⟨fun h => by omega, fun h => by omega⟩
theorem spec_l1Least (a b : Int) : ∀ H, AC Try.prog 88 [.i a, .i b] H (fun v H' => v = .i (min a b) ∧ H' = H) := by
  refine AC.pure (by simp only [go_sem]) (AC.enter (tbl0) (by kernel_rfl) Try.func88 rfl (by kernel_rfl) (by kernel_rfl) (by simp [Try.ntmps88]) Try.results88 ?_)
  simp only [go_sem]
  exact ⟨fun h => by omega, fun h => by omega⟩
theorem spec_l1Abs (n : Int) (hn : -9223372036854775808 < n) (hn' : n < 9223372036854775808) : ∀ H, AC Try.prog 91 [.i n] H (fun v H' => v = .i n.natAbs ∧ H' = H) := by
  refine AC.pure (by simp only [go_sem]) (AC.enter (tbl0) (by kernel_rfl) Try.func91 rfl (by kernel_rfl) (by kernel_rfl) (by simp [Try.ntmps91]) Try.results91 ?_)
  simp only [go_sem]
  refine AC.call (spec_l1Most _ _ _) ?_
  simp only [go_sem]
  rw [w64 _ (by omega) (by omega)]; omega
theorem gcd_step (x n : Nat) : Nat.gcd n (x % n) = Nat.gcd x n := by rw [Nat.gcd_comm x n, Nat.gcd_rec n x, Nat.gcd_comm]
theorem impl_greatestDivisor (a b : Int) (ha : -9223372036854775808 < a) (ha' : a < 9223372036854775808) (hb : -9223372036854775808 < b) (hb' : b < 9223372036854775808) :
    ∀ H, AC Try.prog 92 [.i a, .i b] H (fun v H' => v = .i (Int.gcd a b : Nat) ∧ H' = H) := by
  refine AC.pure (by simp only [go_sem]) (AC.enter (tbl0) (by kernel_rfl) Try.func92 rfl (by kernel_rfl) (by kernel_rfl) (by simp [Try.ntmps92]) Try.results92 ?_)
  simp only [go_sem]
  refine AC.call (impl_abs _ ha ha' _) ?_
  simp only [go_sem]
  refine AC.call (impl_abs _ hb hb' _) ?_
  simp only [go_sem]
  refine ALoop.go (fun s : Nat × Nat => s.2) (fun s => Nat.gcd s.1 s.2 = Int.gcd a b) (fun s => [.i s.1, .i s.2]) (fun _ => []) (a.natAbs, b.natAbs) rfl (fun _ => .same (by simp only [go_sem])) ?_
  rintro ⟨x, n⟩ hg
  simp only [go_sem]
  refine ⟨fun h => ⟨h, ?_⟩, fun h => ?_⟩
  · refine loopK.go (n, x % n) (Nat.mod_lt _ (by omega)) (by rw [gcd_step]; exact hg) (fun _ => .same (by simp only [go_sem]; rfl))
  · have : n = 0 := by omega
    subst this
    simp at hg; omega
end Go.Ab
set_option linter.unusedVariables false
set_option linter.unusedSimpArgs false
namespace Go.Ab
open Go.Proofs
theorem spec_raCommon (x0 y0 : Nat) : ∀ H, AC Try.prog 90 [.i x0, .i y0] H (fun v H' => v = .i (Nat.gcd x0 y0) ∧ H' = H) := by
  refine AC.pure (by simp only [go_sem]) (AC.enter (tbl0) (by kernel_rfl) Try.func90 rfl (by kernel_rfl) (by kernel_rfl) (by simp [Try.ntmps90]) Try.results90 ?_)
  simp only [go_sem]
  refine ALoop.go (fun s : Nat × Nat => s.2) (fun s => Nat.gcd s.1 s.2 = Nat.gcd x0 y0) (fun s => [.i s.1, .i s.2]) (fun _ => []) (x0, y0) rfl (fun _ => .same (by simp only [go_sem])) ?_
  rintro ⟨x, n⟩ hg
  simp only [go_sem]
  refine ⟨fun h => ⟨by omega, ?_⟩, fun h => ?_⟩
  · refine loopK.go (n, x % n) (Nat.mod_lt _ (by omega)) (by rw [gcd_step]; exact hg) (fun _ => .same (by simp only [go_sem]; rfl))
  · have : n = 0 := by omega
    subst this
    simp at hg; omega
abbrev Rt := Int × Int
def goodR (x : Rt) : Bool := (decide (1 ≤ x.2) && decide (x.2 ≤ 1000000000)) && (decide (-1000000000 ≤ x.1) && decide (x.1 ≤ 1000000000)) && decide (Int.gcd x.1 x.2 = 1)
def unitR (x : Rt) : Bool := goodR x && (decide (0 ≤ x.1) && decide (x.1 ≤ x.2))
theorem goodR_b {x : Rt} (h : goodR x = true) : 1 ≤ x.2 ∧ x.2 ≤ 1000000000 ∧ -1000000000 ≤ x.1 ∧ x.1 ≤ 1000000000 := by
  simp [goodR] at h; omega
theorem unitR_b {x : Rt} (h : unitR x = true) : 0 ≤ x.1 ∧ x.1 ≤ x.2 ∧ 1 ≤ x.2 ∧ x.2 ≤ 1000000000 := by
  simp [unitR, goodR] at h; omega
theorem impl_isRat (x : Rt) : ∀ H, AC Try.prog 89 [rat x] H (fun v H' => v = .bool (goodR x) ∧ H' = H) := by
  refine AC.pure (by simp only [go_sem]) (AC.enter (tbl0) (by kernel_rfl) Try.func89 rfl (by kernel_rfl) (by kernel_rfl) (by simp [Try.ntmps89]) Try.results89 ?_)
  simp only [go_sem]
  refine AC.call (impl_within _ _ _ _) ?_
  simp only [go_sem]
  refine ⟨fun h => ?_, fun h => by simp [goodR, h]⟩
  refine AC.call (impl_within _ _ _ _) ?_
  simp only [go_sem]
  refine ⟨fun h' => ?_, fun h' => by simp [goodR, h, h']⟩
  simp at h h'
  refine AC.call (impl_greatestDivisor _ _ (by omega) (by omega) (by omega) (by omega) _) ?_
  simp only [go_sem]
  simp [goodR, h, h']; omega
theorem spec_raGood (x : Rt) : ∀ H, AC Try.prog 87 [rat x] H (fun v H' => v = .bool (goodR x) ∧ H' = H) := by
  refine AC.pure (by simp only [go_sem]) (AC.enter (fun | 1 => some ([0,1,2,3,4,5,6,7,8,9,10,12,13,11,14,15,16,17], []) | _ => none) (by kernel_rfl) Try.func87 rfl (by kernel_rfl) (by kernel_rfl) (by simp [Try.ntmps87]) Try.results87 ?_)
  simp only [go_sem]
  refine AC.call (spec_l1In _ _ _ _) ?_
  simp only [go_sem]
  refine ⟨fun h => ?_, fun h => by simp [goodR, h]⟩
  refine AC.call (spec_l1In _ _ _ _) ?_
  simp only [go_sem]
  refine ⟨fun h' => ?_, fun h' => by simp [goodR, h, h']⟩
  simp at h h'
  refine AC.call (spec_l1Abs _ (by omega) (by omega) _) ?_
  simp only [go_sem]
  obtain ⟨k, hk⟩ : ∃ k : Nat, x.2 = k := ⟨x.2.toNat, by omega⟩
  rw [hk]
  refine AC.call (spec_raCommon _ _ _) ?_
  simp only [go_sem]
  have hg : Int.gcd x.1 x.2 = Nat.gcd x.1.natAbs k := by rw [Int.gcd, hk]; rfl
  have e : goodR x = decide (Int.gcd x.1 x.2 = 1) := by simp [goodR, h, h']
  rw [e, hg, decide_eq_decide]
  omega
theorem impl_isUnit (x : Rt) : ∀ H, AC Try.prog 51 [rat x] H (fun v H' => v = .bool (unitR x) ∧ H' = H) := by
  refine AC.pure (by simp only [go_sem]) (AC.enter (tbl0) (by kernel_rfl) Try.func51 rfl (by kernel_rfl) (by kernel_rfl) (by simp [Try.ntmps51]) Try.results51 ?_)
  simp only [go_sem]
  refine AC.call (impl_isRat _ _) ?_
  simp only [go_sem]
  refine ⟨fun h => ⟨fun h1 => ?_, fun h1 => ?_⟩, fun h => ?_⟩
  · simp [unitR, h]; omega
  · simp [unitR, h]; omega
  · simp [unitR, h]
theorem spec_raUnit (x : Rt) : ∀ H, AC Try.prog 48 [rat x] H (fun v H' => v = .bool (unitR x) ∧ H' = H) := by
  refine AC.pure (by simp only [go_sem]) (AC.enter (tbl0) (by kernel_rfl) Try.func48 rfl (by kernel_rfl) (by kernel_rfl) (by simp [Try.ntmps48]) Try.results48 ?_)
  simp only [go_sem]
  refine AC.call (spec_raGood _ _) ?_
  simp only [go_sem]
  refine ⟨fun h => ?_, fun h => by simp [unitR, h]⟩
  refine AC.call (spec_l1In _ _ _ _) ?_
  simp only [go_sem]
  simp [unitR, h]
/-- The cell of a fraction. -/
def cellN (x : Rt) (w : Int) : Int := min ((x.1 * w).tdiv x.2) (w - 1)
theorem mul_b {n w : Int} (h0 : 0 ≤ n) (h1 : n ≤ 1000000000) (hw : 1 ≤ w) (hw' : w ≤ 1000) : 0 ≤ n * w ∧ n * w ≤ 1000000000000 :=
  ⟨Int.mul_nonneg h0 (by omega), by
    have := Int.mul_le_mul h1 hw' (by omega) (by omega : (0 : Int) ≤ 1000000000)
    omega⟩
theorem tdiv_b {a b M : Int} (h0 : 0 ≤ a) (h1 : a ≤ M) (hb : 1 ≤ b) : 0 ≤ a.tdiv b ∧ a.tdiv b ≤ M := by
  rw [Int.tdiv_eq_ediv_of_nonneg h0]
  exact ⟨Int.ediv_nonneg h0 (by omega), Int.le_trans (Int.ediv_le_self b h0) h1⟩
theorem cellN_b {x : Rt} {w : Int} (h : unitR x = true) (hw : 1 ≤ w) : 0 ≤ cellN x w ∧ cellN x w < w := by
  obtain ⟨h1, h2, h3, h4⟩ := unitR_b h
  have : 0 ≤ (x.1 * w).tdiv x.2 := by
    rw [Int.tdiv_eq_ediv_of_nonneg (Int.mul_nonneg h1 (by omega))]
    exact Int.ediv_nonneg (Int.mul_nonneg h1 (by omega)) (by omega)
  unfold cellN
  omega
theorem impl_cell (x : Rt) (w : Int) (h : unitR x = true) (hw : 1 ≤ w) (hw' : w ≤ 1000) : ∀ H, AC Try.prog 53 [rat x, .i w] H (fun v H' => v = .i (cellN x w) ∧ H' = H) := by
  obtain ⟨h1, h2, h3, h4⟩ := unitR_b h
  obtain ⟨h5, h6⟩ := mul_b h1 (by omega) hw hw'
  obtain ⟨h7, h8⟩ := tdiv_b h5 h6 h3
  refine AC.pure (by simp only [go_sem]) (AC.enter (tbl0) (by kernel_rfl) Try.func53 rfl (by kernel_rfl) (by kernel_rfl) (by simp [Try.ntmps53]) Try.results53 ?_)
  simp only [go_sem]
  refine ⟨by omega, ?_⟩
  rw [w64 (x.1 * w) (by omega) (by omega), w64 _ (by omega) (by omega), w64 _ (by omega) (by omega)]
  rfl
theorem spec_plCell (x : Rt) (w : Int) (h : unitR x = true) (hw : 1 ≤ w) (hw' : w ≤ 1000) : ∀ H, AC Try.prog 50 [rat x, .i w] H (fun v H' => v = .i (cellN x w) ∧ H' = H) := by
  obtain ⟨h1, h2, h3, h4⟩ := unitR_b h
  obtain ⟨h5, h6⟩ := mul_b h1 (by omega) hw hw'
  obtain ⟨h7, h8⟩ := tdiv_b h5 h6 h3
  refine AC.pure (by simp only [go_sem]) (AC.enter (tbl0) (by kernel_rfl) Try.func50 rfl (by kernel_rfl) (by kernel_rfl) (by simp [Try.ntmps50]) Try.results50 ?_)
  simp only [go_sem]
  refine ⟨by omega, ?_⟩
  refine AC.call (spec_l1Least _ _ _) ?_
  simp only [go_sem]
  rw [w64 (x.1 * w) (by omega) (by omega), w64 _ (by omega) (by omega), w64 _ (by omega) (by omega)]
  exact Int.min_comm _ _
/-- What CellOf returns. -/
def cellB (x : Rt) (w : Int) : Bool := unitR x && (decide (1 ≤ w) && decide (w ≤ 1000))
def cellV (x : Rt) (w : Int) : Int := if cellB x w then cellN x w else 0
theorem impl_CellOf (x : Rt) (w : Int) : ∀ H, AC Try.prog 14 [rat x, .i w] H (fun v H' => v = .tup [.i (cellV x w), .bool (cellB x w)] ∧ H' = H) := by
  refine AC.pure (by simp only [go_sem]) (AC.enter (tbl0) (by kernel_rfl) Try.func14 rfl (by kernel_rfl) (by kernel_rfl) (by simp [Try.ntmps14]) Try.results14 ?_)
  simp only [go_sem]
  refine AC.call (impl_isUnit _ _) ?_
  simp only [go_sem]
  refine ⟨fun h => ?_, fun h => by simp [cellV, cellB, h]⟩
  refine AC.call (impl_within _ _ _ _) ?_
  simp only [go_sem]
  refine ⟨fun h1 => ?_, fun h1 => ?_⟩
  · simp [cellV, cellB, h, h1]
  · have h2 := h1
    simp at h1
    refine AC.call (impl_cell _ _ h h1.1 h1.2 _) ?_
    simp only [go_sem]
    simp [cellV, cellB, h, h1]
theorem spec_CellOf (x : Rt) (w : Int) : ∀ H, AC Try.prog 12 [rat x, .i w] H (fun v H' => v = .tup [.i (cellV x w), .bool (cellB x w)] ∧ H' = H) := by
  refine AC.pure (by simp only [go_sem]) (AC.enter (tbl0) (by kernel_rfl) Try.func12 rfl (by kernel_rfl) (by kernel_rfl) (by simp [Try.ntmps12]) Try.results12 ?_)
  simp only [go_sem]
  refine AC.call (spec_raUnit _ _) ?_
  simp only [go_sem]
  refine ⟨fun h => ?_, fun h => by simp [cellV, cellB, h]⟩
  refine AC.call (spec_l1In _ _ _ _) ?_
  simp only [go_sem]
  refine ⟨fun h1 => ?_, fun h1 => ?_⟩
  · simp [cellV, cellB, h, h1]
  · simp at h1
    refine AC.call (spec_plCell _ _ h h1.1 h1.2 _) ?_
    simp only [go_sem]
    simp [cellV, cellB, h, h1]
theorem laws_toRat (x : Rt) : ∀ H, AC Try.prog 13 [rat x] H (fun v H' => v = rat x ∧ H' = H) := by
  refine AC.pure (by simp only [go_sem]) (AC.enter (tbl0) (by kernel_rfl) Try.func13 rfl (by kernel_rfl) (by kernel_rfl) (by simp [Try.ntmps13]) Try.results13 ?_)
  simp only [go_sem]
end Go.Ab
set_option linter.unusedVariables false
set_option linter.unusedSimpArgs false
namespace Go.Ab
open Go.Proofs
def idxF {α : Type} (p : α → Bool) (xs : List α) : Int := match xs.findIdx? p with | some i => (i : Int) | none => -1
theorem take_none {α : Type} {p : α → Bool} {xs : List α} {i : Nat} (h : i < xs.length) (hf : (xs.take i).findIdx? p = none) (hn : p xs[i] = false) : (xs.take (i + 1)).findIdx? p = none := by
  rw [List.findIdx?_eq_none_iff] at hf ⊢
  intro x hx
  rw [List.take_succ_eq_append_getElem h] at hx
  rcases List.mem_append.1 hx with q | q
  · exact hf x q
  · simp at q; subst q; exact hn
theorem idxF_at {α : Type} {p : α → Bool} {xs : List α} {i : Nat} (h : i < xs.length) (hf : (xs.take i).findIdx? p = none) (ht : p xs[i] = true) : idxF p xs = i := by
  have e : xs = xs.take i ++ xs[i] :: xs.drop (i + 1) := by rw [← List.drop_eq_getElem_cons h, List.take_append_drop]
  have hl : (xs.take i).length = i := by simp; omega
  unfold idxF
  rw [e, List.findIdx?_append, hf, List.findIdx?_cons, ht]
  simp; omega
theorem idxF_any {α : Type} (p : α → Bool) (xs : List α) : decide (0 ≤ idxF p xs) = xs.any p := by
  unfold idxF
  cases h : xs.findIdx? p with
  | none =>
    rw [List.findIdx?_eq_none_iff] at h
    have : xs.any p = false := by rw [List.any_eq_false]; intro x hx; simp [h x hx]
    rw [this]; rfl
  | some i =>
    obtain ⟨hi, ht, _⟩ := List.findIdx?_eq_some_iff_getElem.1 h
    have : xs.any p = true := List.any_eq_true.2 ⟨xs[i], List.getElem_mem _, ht⟩
    rw [this]; simp
theorem rvv_self {N : Nat} : ∀ {l : List AV}, BelL N l → rvv (fun b => b) N l l = True
  | [], _ => rfl
  | v :: l, h => by
    rw [rvv_cons, rvv_self (l := l) fun u hu => h u (by simp [hu])]
    simp only [and_true]
    exact eq_true (h v (by simp))
theorem slices_IndexFunc_Rat (xs : List (Rt)) (g : Nat) (cap : List AV) (p : Rt → Bool) (H : AHeap) (hc : BelL H.length cap) (hp : ∀ x, AC Try.prog g (rat x :: cap) H (fun v H' => v = .bool (p x) ∧ H' = H)) :
    AC Try.prog 124 [lR xs, .fn g cap] H (fun v H' => v = .i (idxF p xs) ∧ H' = H) := by
  refine AC.len 0 rfl (fun hl => ?_) ⟨_, Try.func124, rfl, by kernel_rfl⟩
  rw [List.length_map] at hl
  refine AC.enter (tbl0) (by kernel_rfl) Try.func124 rfl (by kernel_rfl) (by kernel_rfl) (by simp [Try.ntmps124]) Try.results124 ?_
  simp only [go_sem]
  refine ALoop.go (fun i => xs.length - i) (fun i => i ≤ xs.length ∧ (xs.take i).findIdx? p = none) (fun i => [lR xs, .fn g cap, .un, .un, .un, .un, .un, .i xs.length, .i (i : Nat)]) (fun _ => H) 0 ⟨Nat.zero_le _, rfl⟩ (fun _ => .same (by simp only [go_sem, rvv_self hc])) ?_
  intro i ⟨hi, hf⟩
  rcases Nat.lt_or_ge i xs.length with hlt | hge
  · simp only [go_sem, getD_map rR hlt, hlt, decide_true]
    refine AC.call (hp xs[i]) ?_
    simp only [go_sem]
    refine ⟨fun ht => by rw [idxF_at hlt hf ht], fun hn => ?_⟩
    exact loopK.go (i + 1) (by omega) ⟨by omega, take_none hlt hf hn⟩ (fun _ => .same (by simp only [go_sem, w64s i (by omega), rvv_self hc]))
  · have h1 : ¬ i < xs.length := by omega
    have : i = xs.length := by omega
    subst this
    simp only [go_sem, h1]
    rw [List.take_length] at hf
    simp [idxF, hf]
theorem slices_ContainsFunc_Rat (xs : List (Rt)) (g : Nat) (cap : List AV) (p : Rt → Bool) (H : AHeap) (hc : BelL H.length cap) (hp : ∀ x, AC Try.prog g (rat x :: cap) H (fun v H' => v = .bool (p x) ∧ H' = H)) :
    AC Try.prog 93 [lR xs, .fn g cap] H (fun v H' => v = .bool (xs.any p) ∧ H' = H) := by
  refine AC.enter (tbl0) (by kernel_rfl) Try.func93 rfl (by kernel_rfl) (by kernel_rfl) (by simp [Try.ntmps93]) Try.results93 ?_
  simp only [go_sem]
  refine AC.call (slices_IndexFunc_Rat xs g cap p H hc hp) ?_
  simp only [go_sem]
  rw [idxF_any p xs]
theorem impl_areUnits_1 (x : Rt) : ∀ H, AC Try.prog 94 [rat x] H (fun v H' => v = .bool (!unitR x) ∧ H' = H) := by
  refine AC.pure (by simp only [go_sem]) (AC.enter (tbl0) (by kernel_rfl) Try.func94 rfl (by kernel_rfl) (by kernel_rfl) (by simp [Try.ntmps94]) Try.results94 ?_)
  simp only [go_sem]
  refine AC.call (impl_isUnit x _) ?_
  simp only [go_sem]
theorem impl_areUnits (xs : List Rt) : ∀ H, AC Try.prog 57 [lR xs] H (fun v H' => v = .bool (xs.all unitR) ∧ H' = H) := by
  refine AC.pure (by simp only [go_sem]) (AC.enter (tbl0) (by kernel_rfl) Try.func57 rfl (by kernel_rfl) (by kernel_rfl) (by simp [Try.ntmps57]) Try.results57 ?_)
  simp only [go_sem]
  refine AC.call (slices_ContainsFunc_Rat xs _ [] (fun x => !unitR x) _ .nil fun x => impl_areUnits_1 x _) ?_
  simp only [go_sem]
  simp [List.all_eq_not_any_not]
end Go.Ab
set_option linter.unusedVariables false
set_option linter.unusedSimpArgs false
namespace Go.Proofs
set_option maxHeartbeats 1000000 in
set_option maxRecDepth 100000 in
theorem copyCheck_used (b : Nat) (w : World) (h0 : w.cell? ⟨b, 0, none⟩ = some (.pointer (some ⟨b, 0, none⟩))) :
    Calls Try.prog 99 #[.pointer (some ⟨b, 0, none⟩)] w fun e w' => e = .returned (.tuple #[]) ∧ w' = w := by
  have hX : (Try.prog.info? 81).map (·.size) = some 2 := by kernel_rfl
  obtain ⟨j, hj, _⟩ := Option.map_eq_some_iff.1 hX
  go_enter Try.func99, Try.ntmps99
  go_wp2
  rw [Lib.run_neq_ptr_same w _ Try.underlying78 hj]
  go_wp2
  go_end0
  exact ⟨rfl, rfl⟩
set_option maxHeartbeats 1000000 in
set_option maxRecDepth 100000 in
theorem copyCheck_fresh (b : Nat) (w : World) (h0 : w.cell? ⟨b, 0, none⟩ = some (.pointer none)) (hsh : w.shape? b = some (81, 2)) (hfz : w.frozen? ⟨b, 0, none⟩ = false) :
    Calls Try.prog 99 #[.pointer (some ⟨b, 0, none⟩)] w fun e w' => e = .returned (.tuple #[]) ∧ w' = w.setCell ⟨b, 0, none⟩ (.pointer (some ⟨b, 0, none⟩)) := by
  have hX : (Try.prog.info? 81).map (·.size) = some 2 := by kernel_rfl
  obtain ⟨j, hj, hjs⟩ := Option.map_eq_some_iff.1 hX
  have hL : liesAt Try.prog Try.prog.depth 81 (2 / Try.prog.cellsOf 81) 0 81 1 = true := by kernel_rfl
  go_enter Try.func99, Try.ntmps99
  go_wp2
  rw [Lib.run_to_unsafe w ⟨b, 0, none⟩ Try.underlying78 Try.underlying140 hj (by rw [hjs]; decide) hsh (Nat.zero_lt_succ 1)]
  simp only [Result.andThen]
  rw [Oper.upon_value]
  go_wp2
  rw [run_callFunc_extern Try.func129 (by kernel_rfl) (by kernel_rfl) (by kernel_rfl) (e := Extern.AbiNoEscape.same) (by kernel_rfl)]
  rw [Lib.run_noEscape]
  simp only [Result.andThen]
  rw [Oper.upon_value]
  go_wp2
  rw [Lib.run_from_unsafe w ⟨b, 0, none⟩ Try.underlying140 Try.underlying78 hj hsh hL]
  simp only [Result.andThen]
  rw [Oper.upon_value]
  go_wp2
  go_end0
  exact ⟨rfl, rfl⟩
end Go.Proofs
set_option linter.unusedVariables false
set_option linter.unusedSimpArgs false
namespace Go.Ab
open Go.Proofs Go.Proofs.Ytmgggjaphphkhaa
abbrev bT : Nat := 81
theorem bptr_inv {m : MMap} {H : AHeap} {w : World} (hm : HRel m H w) {b : Nat} {r : Value} {row : List AV} (hr : Rel m (.bptr bT b) r) (hb : hget H b = some ⟨true, 2, [row]⟩) :
    ∃ (B : MB) (c : Array Value) (fr : Nat × Nat), m.l[b]? = some B ∧ B.virt = false ∧ B.base = 0 ∧ B.sz = 2 ∧ r = .pointer (some ⟨B.blk, 0, none⟩) ∧ w.heap[B.blk]? = some (.cells c bT fr) ∧ c.size = 2 ∧
      (∀ (j : Nat) v, row[j]? = some v → ∃ q, c[j]? = some q ∧ Rel m v q) ∧ w.frozen? ⟨B.blk, 0, none⟩ = false := by
  cases hr with
  | bptr hB hv ht hb0 hN hs =>
    rename_i B
    obtain ⟨B', hB', hR⟩ := hm.blk b _ (hget_eq.1 hb)
    rw [hB] at hB'; injection hB' with e; subst e
    obtain ⟨c, fr, hw⟩ := hR.ty hv _ ht
    obtain ⟨c2, e2, fr2, g1, g2, g3, g4, g5⟩ := hR.real hv
    rw [hw] at g1; injection g1 with g1; injection g1 with q1 q2 q3; subst q1; subst q2; subst q3
    refine ⟨B, c, fr, hB, hv, hb0, hs, rfl, hw, by omega, fun j v hj => ?_, ?_⟩
    · obtain ⟨q, q1, q2, _⟩ := (g4 0 row rfl).2 j v hj
      rw [hb0, hs] at q1
      exact ⟨q, by simpa using q1, q2⟩
    · have := g5 rfl 0 (by omega)
      simp only [World.frozen?, hw]
      cases hd : (decide (fr.1 ≤ 0) && decide (0 < fr.2)) with
      | false => rfl
      | true => exact absurd (by simpa using hd) this
theorem bld_check0 {H : AHeap} {b : Nat} {x : AV} (hb : hget H b = some ⟨true, 2, [[.nilp, x]]⟩) :
    AC Try.prog 99 [.bptr bT b] H fun v H' => v = .tup [] ∧ H' = H.set b (some ⟨true, 2, [[.bptr bT b, x]]⟩) := by
  refine ⟨⟨_, Try.func99, rfl, by kernel_rfl⟩, fun m w vs hm hv => ?_⟩
  obtain ⟨h1, h2⟩ := hv
  match vs, h1 with
  | [r], _ =>
    have hr := h2 0 _ r rfl rfl
    obtain ⟨B, c, fr, hB, hv, hb0, hs, rfl, hw, hc, hcell, hfz⟩ := bptr_inv hm hr hb
    obtain ⟨q, q1, q2⟩ := hcell 0 _ rfl
    have hq : q = .pointer none := by cases q2; rfl
    subst hq
    refine (copyCheck_fresh B.blk w (by simp [World.cell?, hw, q1]) (by simp [World.shape?, hw, hc]) hfz).mono ?_
    rintro e w' ⟨rfl, rfl⟩
    obtain ⟨_, g2, g3⟩ := hm.store (i := 0) (j := 0) (row := [.nilp, x]) (vs := [.bptr bT b]) (cs := [.pointer (some ⟨B.blk, 0, none⟩)]) hb rfl rfl hB hv (.cons hr .nil) (by simp [Value.oneCell']) (by simp)
    have e1 : w.setCells B.blk (B.base + 0 * B.sz + 0) [Value.pointer (some ⟨B.blk, 0, none⟩)] = w.setCell ⟨B.blk, 0, none⟩ (.pointer (some ⟨B.blk, 0, none⟩)) := by simp [World.setCells, hb0]
    rw [e1] at g2 g3
    exact ⟨_, _, m, _, rfl, g2, .tup (cs := []) rfl (fun i v r h => by simp at h), g3, rfl, by simp [splice]⟩
theorem bld_check1 {H : AHeap} {b : Nat} {x : AV} (hb : hget H b = some ⟨true, 2, [[.bptr bT b, x]]⟩) :
    AC Try.prog 99 [.bptr bT b] H fun v H' => v = .tup [] ∧ H' = H := by
  refine ⟨⟨_, Try.func99, rfl, by kernel_rfl⟩, fun m w vs hm hv => ?_⟩
  obtain ⟨h1, h2⟩ := hv
  match vs, h1 with
  | [r], _ =>
    have hr := h2 0 _ r rfl rfl
    obtain ⟨B, c, fr, hB, hv, hb0, hs, rfl, hw, hc, hcell, hfz⟩ := bptr_inv hm hr hb
    obtain ⟨q, q1, q2⟩ := hcell 0 _ rfl
    have hq : q = .pointer (some ⟨B.blk, 0, none⟩) := by
      cases q2 with
      | bptr hB2 _ _ _ _ _ => rw [hB] at hB2; injection hB2 with e; subst e; rfl
    subst hq
    refine (copyCheck_used B.blk w (by simp [World.cell?, hw, q1])).mono ?_
    rintro e w' ⟨rfl, rfl⟩
    exact ⟨_, _, m, H, rfl, hm, .tup (cs := []) rfl (fun i v r h => by simp at h), .refl _ _ _, rfl, rfl⟩
theorem byteRows_app (a b : List UInt8) : byteRows a ++ byteRows b = byteRows (a ++ b) := by simp [byteRows]
theorem set_app {H : AHeap} {b : Nat} (h : b < H.length) (l : AHeap) (x : Option Blk) : (H ++ l).set b x = H.set b x ++ l := List.set_append_left _ _ h
theorem hget_app {H : AHeap} {b : Nat} (h : b < H.length) (l : AHeap) : hget (H ++ l) b = hget H b := hget_append_left h
theorem len_set (H : AHeap) (b : Nat) (x : Option Blk) : (List.set H b x).length = H.length := List.length_set
/-- The first bytes. -/
theorem bld_WriteString0 {H : AHeap} {b : Nat} (s : List UInt8) (h0 : s ≠ []) (hs : s.length ≤ 1073741824) (hb : hget H b = some ⟨true, 2, [[.nilp, .nil]]⟩) :
    AC Try.prog 63 [.bptr bT b, .str s] H fun v H' => v = .tup [.i s.length, .nili] ∧ H' = H.set b (some ⟨true, 2, [[.bptr bT b, .bf 5 H.length s.length]]⟩) ++ [some ⟨true, 1, byteRows s⟩] := by
  have hlt := hget_lt hb
  have hset := fun X => hget_set hb (some X)
  refine AC.enter (tbl0) (by kernel_rfl) Try.func63 rfl (by kernel_rfl) (by kernel_rfl) (by simp [Try.ntmps63]) Try.results63 ?_
  simp only [go_sem]
  refine AC.call (bld_check0 hb) ?_
  simp only [go_sem, hset]
  refine appS_do (isStr_9) ?_
  simp only [go_sem]
  refine ⟨by omega, by simp only [maxLen]; omega, fun h => absurd h h0, fun _ => ?_⟩
  have hlt' : b < (H.set b (some (⟨true, 2, [[.bptr bT b, .nil]]⟩ : Blk))).length := by simpa using hlt
  simp only [go_sem, len_set, hget_app hlt', set_app hlt', hset]
/-- More bytes. -/
theorem bld_WriteString1 {H : AHeap} {b k : Nat} (l s : List UInt8) (hs : l.length + s.length ≤ 1073741824) (hbk : b ≠ k) (hb : hget H b = some ⟨true, 2, [[.bptr bT b, .bf 5 k l.length]]⟩) (hk : hget H k = some ⟨true, 1, byteRows l⟩) :
    AC Try.prog 63 [.bptr bT b, .str s] H fun v H' => v = .tup [.i s.length, .nili] ∧ H' = (H.set k none).set b (some ⟨true, 2, [[.bptr bT b, .bf 5 H.length (l ++ s).length]]⟩) ++ [some ⟨true, 1, byteRows (l ++ s)⟩] := by
  have hlt := hget_lt hb
  refine AC.enter (tbl0) (by kernel_rfl) Try.func63 rfl (by kernel_rfl) (by kernel_rfl) (by simp [Try.ntmps63]) Try.results63 ?_
  simp only [go_sem]
  refine AC.call (bld_check1 hb) ?_
  simp only [go_sem, hb]
  refine appS_do (isStr_9) ?_
  simp only [go_sem, hk]
  refine ⟨by omega, by simp only [maxLen]; omega, ?_⟩
  have hlt' : b < (H.set k none).length := by simpa using hlt
  have hb2 : hget (H.set k none) b = some ⟨true, 2, [[.bptr bT b, .bf 5 k l.length]]⟩ := by rw [hget_set_ne (Ne.symm hbk)]; exact hb
  simp only [go_sem, len_set, hget_app hlt', set_app hlt', hb2, byteRows_app, List.length_append]
theorem bld_String0 {H : AHeap} {b : Nat} {a : AV} (hb : hget H b = some ⟨true, 2, [[a, .nil]]⟩) :
    AC Try.prog 65 [.bptr bT b] H fun v H' => v = .str [] ∧ H' = H := by
  refine AC.enter (fun | 1 => some ([0,1,2,3,5,6,7,8,9,4,10,11], []) | _ => none) (by kernel_rfl) Try.func65 rfl (by kernel_rfl) (by kernel_rfl) (by simp [Try.ntmps65]) Try.results65 ?_
  simp only [go_sem, hb]
theorem bld_String1 {H : AHeap} {b k : Nat} {a : AV} (l : List UInt8) (h0 : l ≠ []) (hbk : k ≠ b) (hb : hget H b = some ⟨true, 2, [[a, .bf 5 k l.length]]⟩) (hk : hget H k = some ⟨true, 1, byteRows l⟩) :
    AC Try.prog 65 [.bptr bT b] H fun v H' => v = .str l ∧ H' = H.set k none := by
  refine AC.enter (fun | 1 => some ([0,1,2,3,5,6,7,8,9,4,10,11], []) | _ => none) (by kernel_rfl) Try.func65 rfl (by kernel_rfl) (by kernel_rfl) (by simp [Try.ntmps65]) Try.results65 ?_
  simp only [go_sem, hb]
  refine usK_do Try.underlying100 (by kernel_rfl) hk h0 rfl ?_
  simp only [go_sem, hget_set_ne hbk, and_self]
end Go.Ab
set_option linter.unusedVariables false
set_option linter.unusedSimpArgs false
namespace Go.Ab
open Go.Proofs Go.Proofs.Ytmgggjaphphkhaa
/-- The heap of one builder. -/
def bldH (l : List UInt8) : AHeap := if l = [] then [some ⟨true, 2, [[.nilp, .nil]]⟩] else [some ⟨true, 2, [[.bptr bT 0, .bf 5 1 l.length]]⟩, some ⟨true, 1, byteRows l⟩]
theorem bldH_nil : bldH [] = [some ⟨true, 2, [[.nilp, .nil]]⟩] := rfl
theorem bldH_ne {l : List UInt8} (h : l ≠ []) : bldH l = [some ⟨true, 2, [[.bptr bT 0, .bf 5 1 l.length]]⟩, some ⟨true, 1, byteRows l⟩] := if_neg h
theorem Retell.bld {H' : AHeap} {e : Env} {S : List AV} {l : List UInt8} {k : Nat} (h0 : hget H' 0 = some ⟨true, 2, [[.bptr bT 0, .bf 5 k l.length]]⟩) (hk : hget H' k = some ⟨true, 1, byteRows l⟩) (hk0 : k ≠ 0) (hl : l ≠ []) (hr : rvL (fun b => b) 1 e 0 S) :
    Retell 0 H' e (bldH l) (envU S) := by
  rw [bldH_ne hl]
  have hf0 : kf [0, k] 0 = 0 := rfl
  have hf1 : kf [0, k] 1 = k := rfl
  refine Retell.ren (f := kf [0, k]) [] ?_ fun t => ?_
  · have hv : H' ++ virts [] = H' := by simp [virts]
    rw [hv]
    refine ⟨Nat.zero_le _, fun b hb => by omega, fun b hb => ?_, fun b c hb hc he => ?_, fun b A' hb => ?_⟩
    · have hb : b < 2 := hb
      match b, hb with
      | 0, _ => exact hget_lt h0
      | 1, _ => exact hget_lt hk
    · have hb : b < 2 := hb
      have hc : c < 2 := hc
      match b, c, hb, hc with
      | 0, 0, _, _ => rfl
      | 1, 1, _, _ => rfl
      | 0, 1, _, _ => exact absurd he.symm hk0
      | 1, 0, _, _ => exact absurd he hk0
    · have hb2 : b < 2 := (List.getElem?_eq_some_iff.1 hb).1
      match b, hb2 with
      | 0, _ =>
        simp at hb; subst hb
        refine ⟨_, hget_eq.1 h0, rfl, rfl, rfl, fun i row' row h1 h2 => ?_⟩
        cases i with
        | succ i => simp at h1
        | zero =>
          simp at h1 h2; subst h1; subst h2
          refine ⟨rfl, fun j v' v h3 h4 => ?_⟩
          match j with
          | 0 => simp at h3 h4; subst h3; subst h4; exact .bptr (by simp)
          | 1 => simp at h3 h4; subst h3; subst h4; exact .bf (f := kf [0, k]) (b := 1) (by simp)
          | j + 2 => simp at h3
      | 1, _ =>
        simp at hb; subst hb
        refine ⟨_, hget_eq.1 hk, rfl, rfl, rfl, fun i row' row h1 h2 => ?_⟩
        rw [h1] at h2; injection h2 with h2; subst h2
        refine ⟨rfl, fun j v' v h3 h4 => ?_⟩
        rw [h3] at h4; injection h4 with h4; subst h4
        obtain ⟨c, _, rfl⟩ := List.mem_map.1 (List.mem_of_getElem? h1)
        match j with
        | 0 => simp at h3; subst h3; exact .int _ _
        | j + 1 => simp at h3
  · have := rvL_at hr t
    rw [Nat.zero_add] at this
    exact this.mono fun b hb => by
      have : b = 0 := by omega
      subst this; exact ⟨rfl, by simp⟩
/-- Bytes are written, whatever was there; the heap behind it is that of the longer text. -/
def bldW (l s : List UInt8) (G : AHeap) : AHeap := if l = [] then [some ⟨true, 2, [[.bptr bT 0, .bf 5 (G.length + 1) s.length]]⟩] ++ G ++ [some ⟨true, 1, byteRows s⟩] else [some ⟨true, 2, [[.bptr bT 0, .bf 5 (G.length + 2) (l ++ s).length]]⟩, none] ++ G ++ [some ⟨true, 1, byteRows (l ++ s)⟩]
theorem bld_W (l s : List UInt8) (G : AHeap) (h0 : s ≠ []) (hs : l.length + s.length ≤ 1073741824) :
    AC Try.prog 63 [.bptr bT 0, .str s] (bldH l ++ G) fun v H' => v = .tup [.i s.length, .nili] ∧ H' = bldW l s G := by
  by_cases hl : l = []
  · subst hl
    have := bld_WriteString0 (H := bldH [] ++ G) (b := 0) s h0 (by simpa using hs) rfl
    refine this.mono ?_
    rintro v H' ⟨h1, h2⟩
    refine ⟨h1, ?_⟩
    rw [h2, bldW, if_pos rfl, bldH_nil]
    simp [Nat.add_comm]
  · have := bld_WriteString1 (H := bldH l ++ G) (b := 0) (k := 1) l s hs (by simp) (by rw [bldH_ne hl]; rfl) (by rw [bldH_ne hl]; rfl)
    refine this.mono ?_
    rintro v H' ⟨h1, h2⟩
    refine ⟨h1, ?_⟩
    rw [h2, bldW, if_neg hl, bldH_ne hl]
    simp
theorem Retell.bldW {e : Env} {S : List AV} {l s : List UInt8} {G : AHeap} (h0 : s ≠ []) (hr : rvL (fun b => b) 1 e 0 S) : Retell 0 (bldW l s G) e (bldH (l ++ s)) (envU S) := by
  have hne : l ++ s ≠ [] := by simp [h0]
  by_cases hl : l = []
  · subst hl
    rw [Go.Ab.bldW, if_pos rfl, List.nil_append]
    refine Retell.bld (k := G.length + 1) rfl ?_ (by omega) h0 hr
    exact hget_append_right (H := some ⟨true, 2, [[.bptr bT 0, .bf 5 (G.length + 1) s.length]]⟩ :: G) (K := [some ⟨true, 1, byteRows s⟩]) 0
  · rw [Go.Ab.bldW, if_neg hl]
    refine Retell.bld (k := G.length + 2) rfl ?_ (by omega) hne hr
    exact hget_append_right (H := some ⟨true, 2, [[.bptr bT 0, .bf 5 (G.length + 2) (l ++ s).length]]⟩ :: none :: G) (K := [some ⟨true, 1, byteRows (l ++ s)⟩]) 0
theorem bld_S (l : List UInt8) : AC Try.prog 65 [.bptr bT 0] (bldH l) fun v H' => v = .str l ∧ H' = (bldH l).set 1 none := by
  by_cases hl : l = []
  · subst hl
    have := bld_String0 (H := bldH []) (b := 0) (a := .nilp) rfl
    refine this.mono ?_
    rintro v H' ⟨h1, h2⟩
    exact ⟨h1, by rw [h2]; rfl⟩
  · exact bld_String1 (H := bldH l) (b := 0) (k := 1) l hl (by simp) (by rw [bldH_ne hl]; rfl) (by rw [bldH_ne hl]; rfl)
end Go.Ab
set_option linter.unusedVariables false
set_option linter.unusedSimpArgs false
namespace Go.Ab
open Go.Proofs
/-! ### The laws' own helpers -/
theorem fill_get {α : Type} (r : α → List AV) (z : List AV) (xs : List α) {i : Nat} (h : i < xs.length) : ((xs.take i).map r ++ List.replicate (xs.length - i) z)[i]? = some z := by
  have : ((xs.take i).map r).length = i := by simp; omega
  rw [List.getElem?_append_right (by omega), this, Nat.sub_self, List.getElem?_replicate, if_pos (by omega)]
theorem fill_set {α : Type} (r : α → List AV) (z : List AV) (xs : List α) {i : Nat} (h : i < xs.length) : ((xs.take i).map r ++ List.replicate (xs.length - i) z).set i (r xs[i]) = (xs.take (i + 1)).map r ++ List.replicate (xs.length - (i + 1)) z := by
  have : ((xs.take i).map r).length = i := by simp; omega
  rw [List.set_append_right _ _ (by omega), this, Nat.sub_self, List.take_succ_eq_append_getElem h, show xs.length - i = (xs.length - (i + 1)) + 1 by omega, List.replicate_succ, List.map_append, List.append_assoc]
  rfl
theorem fill_len {α : Type} (r : α → List AV) (z : List AV) (xs : List α) {i : Nat} (h : i ≤ xs.length) : ((xs.take i).map r ++ List.replicate (xs.length - i) z).length = xs.length := by simp; omega
theorem map_range_get {α : Type} (f : Nat → α) {n i : Nat} (h : i < n) (h' : i < ((List.range n).map f).length) : ((List.range n).map f)[i] = f i := by simp
theorem laws_eqRat (x : Rt) : ∀ H, AC Try.prog 56 [rat x, rat x] H (fun v H' => v = .bool true ∧ H' = H) := by
  refine AC.pure (by simp only [go_sem]) (AC.enter (tbl0) (by kernel_rfl) Try.func56 rfl (by kernel_rfl) (by kernel_rfl) (by simp [Try.ntmps56]) Try.results56 ?_)
  simp only [go_sem, decide_true]
theorem laws_eqPoint (p : Rt × Rt) : ∀ H, AC Try.prog 76 [pnt p, pnt p] H (fun v H' => v = .bool true ∧ H' = H) := by
  refine AC.pure (by simp only [go_sem]) (AC.enter (tbl0) (by kernel_rfl) Try.func76 rfl (by kernel_rfl) (by kernel_rfl) (by simp [Try.ntmps76]) Try.results76 ?_)
  simp only [go_sem]
  refine AC.call (laws_eqRat p.1 _) ?_
  simp only [go_sem]
  refine AC.call (laws_eqRat p.2 _) ?_
  simp only [go_sem]
theorem laws_eqIntS (xs : List (Int)) : ∀ H, AC Try.prog 24 [lI xs, lI xs] H (fun v H' => v = .bool true ∧ H' = H) := by
  refine AC.pure (by simp only [go_sem]) (AC.len 0 rfl (fun hl => ?_) ⟨_, Try.func24, rfl, by kernel_rfl⟩)
  rw [List.length_map] at hl
  refine AC.enter (tbl0) (by kernel_rfl) Try.func24 rfl (by kernel_rfl) (by kernel_rfl) (by simp [Try.ntmps24]) Try.results24 ?_
  simp only [go_sem, decide_true]
  refine ALoop.go (fun i => xs.length - i) (fun i => i ≤ xs.length) (fun i => [lI xs, lI xs, .un, .un, .un, .i (i : Nat)]) (fun _ => []) 0 (Nat.zero_le _) (fun _ => .same (by simp only [go_sem])) ?_
  intro i hi
  rcases Nat.lt_or_ge i xs.length with hlt | hge
  · simp only [go_sem, getD_map rI hlt, hlt, decide_true]
    skip
    exact loopK.go (i + 1) (by omega) (by omega) (fun _ => .same (by simp only [go_sem, w64s i (by omega)]))
  · have : ¬ i < xs.length := by omega
    simp only [go_sem, this]
theorem laws_eqStringS (xs : List (List UInt8)) : ∀ H, AC Try.prog 36 [lS xs, lS xs] H (fun v H' => v = .bool true ∧ H' = H) := by
  refine AC.pure (by simp only [go_sem]) (AC.len 0 rfl (fun hl => ?_) ⟨_, Try.func36, rfl, by kernel_rfl⟩)
  rw [List.length_map] at hl
  refine AC.enter (tbl0) (by kernel_rfl) Try.func36 rfl (by kernel_rfl) (by kernel_rfl) (by simp [Try.ntmps36]) Try.results36 ?_
  simp only [go_sem, decide_true]
  refine ALoop.go (fun i => xs.length - i) (fun i => i ≤ xs.length) (fun i => [lS xs, lS xs, .un, .un, .un, .i (i : Nat)]) (fun _ => []) 0 (Nat.zero_le _) (fun _ => .same (by simp only [go_sem])) ?_
  intro i hi
  rcases Nat.lt_or_ge i xs.length with hlt | hge
  · simp only [go_sem, getD_map rS hlt, hlt, decide_true]
    skip
    exact loopK.go (i + 1) (by omega) (by omega) (fun _ => .same (by simp only [go_sem, w64s i (by omega)]))
  · have : ¬ i < xs.length := by omega
    simp only [go_sem, this]
theorem laws_eqRatS (xs : List (Rt)) : ∀ H, AC Try.prog 17 [lR xs, lR xs] H (fun v H' => v = .bool true ∧ H' = H) := by
  refine AC.pure (by simp only [go_sem]) (AC.len 0 rfl (fun hl => ?_) ⟨_, Try.func17, rfl, by kernel_rfl⟩)
  rw [List.length_map] at hl
  refine AC.enter (tbl0) (by kernel_rfl) Try.func17 rfl (by kernel_rfl) (by kernel_rfl) (by simp [Try.ntmps17]) Try.results17 ?_
  simp only [go_sem, decide_true]
  refine ALoop.go (fun i => xs.length - i) (fun i => i ≤ xs.length) (fun i => [lR xs, lR xs, .un, .un, .un, .i (i : Nat)]) (fun _ => []) 0 (Nat.zero_le _) (fun _ => .same (by simp only [go_sem])) ?_
  intro i hi
  rcases Nat.lt_or_ge i xs.length with hlt | hge
  · simp only [go_sem, getD_map rR hlt, hlt, decide_true]
    refine AC.call (laws_eqRat xs[i] _) ?_; simp only [go_sem]
    exact loopK.go (i + 1) (by omega) (by omega) (fun _ => .same (by simp only [go_sem, w64s i (by omega)]))
  · have : ¬ i < xs.length := by omega
    simp only [go_sem, this]
theorem laws_eqPointS (xs : List (Rt × Rt)) : ∀ H, AC Try.prog 37 [lP xs, lP xs] H (fun v H' => v = .bool true ∧ H' = H) := by
  refine AC.pure (by simp only [go_sem]) (AC.len 0 rfl (fun hl => ?_) ⟨_, Try.func37, rfl, by kernel_rfl⟩)
  rw [List.length_map] at hl
  refine AC.enter (tbl0) (by kernel_rfl) Try.func37 rfl (by kernel_rfl) (by kernel_rfl) (by simp [Try.ntmps37]) Try.results37 ?_
  simp only [go_sem, decide_true]
  refine ALoop.go (fun i => xs.length - i) (fun i => i ≤ xs.length) (fun i => [lP xs, lP xs, .un, .un, .un, .i (i : Nat)]) (fun _ => []) 0 (Nat.zero_le _) (fun _ => .same (by simp only [go_sem])) ?_
  intro i hi
  rcases Nat.lt_or_ge i xs.length with hlt | hge
  · simp only [go_sem, getD_map rP hlt, hlt, decide_true]
    refine AC.call (laws_eqPoint xs[i] _) ?_; simp only [go_sem]
    exact loopK.go (i + 1) (by omega) (by omega) (fun _ => .same (by simp only [go_sem, w64s i (by omega)]))
  · have : ¬ i < xs.length := by omega
    simp only [go_sem, this]
theorem laws_szRatS (xs : List (Rt)) (k : Int) (hk : 0 ≤ k) (hk' : k ≤ 1048576) : ∀ H, AC Try.prog 20 [lR xs, .i k] H (fun v H' => v = .i (if k < xs.length then -1 else k - xs.length) ∧ H' = H) := by
  refine AC.pure (by simp only [go_sem]) (AC.len 0 rfl (fun hl => ?_) ⟨_, Try.func20, rfl, by kernel_rfl⟩)
  rw [List.length_map] at hl
  have hw : IntKind.i64.wrap (k - (xs.length : Int)) = k - xs.length := w64 _ (by omega) (by omega)
  refine AC.enter (tbl0) (by kernel_rfl) Try.func20 rfl (by kernel_rfl) (by kernel_rfl) (by simp [Try.ntmps20]) Try.results20 ?_
  simp only [go_sem, hw]
  refine ⟨fun h => ?_, fun h => ?_⟩
  · rw [if_pos (by omega)]
  · rw [if_neg (by omega)]
theorem laws_szPointS (xs : List (Rt × Rt)) (k : Int) (hk : 0 ≤ k) (hk' : k ≤ 1048576) : ∀ H, AC Try.prog 32 [lP xs, .i k] H (fun v H' => v = .i (if k < xs.length then -1 else k - xs.length) ∧ H' = H) := by
  refine AC.pure (by simp only [go_sem]) (AC.len 0 rfl (fun hl => ?_) ⟨_, Try.func32, rfl, by kernel_rfl⟩)
  rw [List.length_map] at hl
  have hw : IntKind.i64.wrap (k - (xs.length : Int)) = k - xs.length := w64 _ (by omega) (by omega)
  refine AC.enter (tbl0) (by kernel_rfl) Try.func32 rfl (by kernel_rfl) (by kernel_rfl) (by simp [Try.ntmps32]) Try.results32 ?_
  simp only [go_sem, hw]
  refine ⟨fun h => ?_, fun h => ?_⟩
  · rw [if_pos (by omega)]
  · rw [if_neg (by omega)]
theorem laws_toPoint (p : Rt × Rt) : ∀ H, AC Try.prog 69 [pnt p] H (fun v H' => v = pnt p ∧ H' = H) := by
  refine AC.pure (by simp only [go_sem]) (AC.enter (tbl0) (by kernel_rfl) Try.func69 rfl (by kernel_rfl) (by kernel_rfl) (by simp [Try.ntmps69]) Try.results69 ?_)
  simp only [go_sem]
  refine AC.call (laws_toRat p.1 _) ?_
  simp only [go_sem]
  refine AC.call (laws_toRat p.2 _) ?_
  simp only [go_sem]
theorem laws_toIntS (xs : List (Int)) (hx : xs.length ≤ 1048576) : AC Try.prog 30 [lI xs] [] (fun v H' => v = .sl 0 0 xs.length ∧ H' = [some ⟨true, 1, xs.map rI⟩]) := by
  refine AC.own (.map bel_rI _) (AC.enter (tbl0) (by kernel_rfl) Try.func30 rfl (by kernel_rfl) (by kernel_rfl) (by simp [Try.ntmps30]) Try.results30 ?_)
  simp only [go_sem]
  refine ⟨by omega, by omega, ?_⟩
  refine ALoop.go (fun i => xs.length - i) (fun i => i ≤ xs.length) (fun i => [lI xs, .un, .un, .sl 0 0 xs.length, .i (i : Nat)]) (fun i => [some ⟨true, 1, (xs.take i).map rI ++ List.replicate (xs.length - i) [AV.i 0]⟩]) 0 (Nat.zero_le _) (fun _ => .same (by simp only [go_sem])) ?_
  intro i hi
  rcases Nat.lt_or_ge i xs.length with hlt | hge
  · have hfs := fill_set rI [AV.i 0] xs hlt
    rw [rI_eq] at hfs
    simp only [go_sem, getD_map rI hlt, hlt, decide_true, fill_get rI _ _ hlt, hfs]
    skip
    refine loopK.go (i + 1) (by omega) (by omega) (fun _ => .same ?_)
    simp only [go_sem, w64s i (by omega)]
  · have : ¬ i < xs.length := by omega
    simp only [go_sem, this]
    have : i = xs.length := by omega
    subst this
    exact ⟨0, .inl (by simp [hget]), by simp only [go_sem]⟩
theorem laws_toRatS (xs : List (Rt)) (hx : xs.length ≤ 1048576) : AC Try.prog 22 [lR xs] [] (fun v H' => v = .sl 0 0 xs.length ∧ H' = [some ⟨true, 2, xs.map rR⟩]) := by
  refine AC.own (.map bel_rR _) (AC.enter (tbl0) (by kernel_rfl) Try.func22 rfl (by kernel_rfl) (by kernel_rfl) (by simp [Try.ntmps22]) Try.results22 ?_)
  simp only [go_sem]
  refine ⟨by omega, by omega, ?_⟩
  refine ALoop.go (fun i => xs.length - i) (fun i => i ≤ xs.length) (fun i => [lR xs, .un, .un, .sl 0 0 xs.length, .i (i : Nat)]) (fun i => [some ⟨true, 2, (xs.take i).map rR ++ List.replicate (xs.length - i) [AV.i 0, AV.i 0]⟩]) 0 (Nat.zero_le _) (fun _ => .same (by simp only [go_sem])) ?_
  intro i hi
  rcases Nat.lt_or_ge i xs.length with hlt | hge
  · have hfs := fill_set rR [AV.i 0, AV.i 0] xs hlt
    rw [rR_eq] at hfs
    simp only [go_sem, getD_map rR hlt, hlt, decide_true, fill_get rR _ _ hlt, hfs]
    refine AC.call (laws_toRat xs[i] _) ?_; simp only [go_sem, hlt, fill_get rR _ _ hlt, hfs]
    refine loopK.go (i + 1) (by omega) (by omega) (fun _ => .same ?_)
    simp only [go_sem, w64s i (by omega)]
  · have : ¬ i < xs.length := by omega
    simp only [go_sem, this]
    have : i = xs.length := by omega
    subst this
    exact ⟨0, .inl (by simp [hget]), by simp only [go_sem]⟩
theorem laws_toPointS (xs : List (Rt × Rt)) (hx : xs.length ≤ 1048576) : AC Try.prog 34 [lP xs] [] (fun v H' => v = .sl 0 0 xs.length ∧ H' = [some ⟨true, 4, xs.map rP⟩]) := by
  refine AC.own (.map bel_rP _) (AC.enter (tbl0) (by kernel_rfl) Try.func34 rfl (by kernel_rfl) (by kernel_rfl) (by simp [Try.ntmps34]) Try.results34 ?_)
  simp only [go_sem]
  refine ⟨by omega, by omega, ?_⟩
  refine ALoop.go (fun i => xs.length - i) (fun i => i ≤ xs.length) (fun i => [lP xs, .un, .un, .sl 0 0 xs.length, .i (i : Nat)]) (fun i => [some ⟨true, 4, (xs.take i).map rP ++ List.replicate (xs.length - i) [AV.i 0, AV.i 0, AV.i 0, AV.i 0]⟩]) 0 (Nat.zero_le _) (fun _ => .same (by simp only [go_sem])) ?_
  intro i hi
  rcases Nat.lt_or_ge i xs.length with hlt | hge
  · have hfs := fill_set rP [AV.i 0, AV.i 0, AV.i 0, AV.i 0] xs hlt
    rw [rP_eq] at hfs
    simp only [go_sem, getD_map rP hlt, hlt, decide_true, fill_get rP _ _ hlt, hfs]
    refine AC.call (laws_toPoint xs[i] _) ?_; simp only [go_sem, hlt, fill_get rP _ _ hlt, hfs]
    refine loopK.go (i + 1) (by omega) (by omega) (fun _ => .same ?_)
    simp only [go_sem, w64s i (by omega)]
  · have : ¬ i < xs.length := by omega
    simp only [go_sem, this]
    have : i = xs.length := by omega
    subst this
    exact ⟨0, .inl (by simp [hget]), by simp only [go_sem]⟩
/-- What is marked. -/
def mkI (k : Nat) (i : Nat) : Int := ((k + 1 * i : Nat) : Int)
def mkR (k : Nat) (i : Nat) : Rt := (((k + 2 * i : Nat) : Int), ((k + 2 * i + 1 : Nat) : Int))
def mkP (k : Nat) (i : Nat) : Rt × Rt := ((((k + 4 * i : Nat) : Int), ((k + 4 * i + 1 : Nat) : Int)), (((k + 4 * i + 2 : Nat) : Int), ((k + 4 * i + 3 : Nat) : Int)))
def marks {α : Type} (m : Nat → α) (n : Nat) : List α := (List.range n).map m
theorem marks_len {α : Type} (m : Nat → α) (n : Nat) : (marks m n).length = n := by simp [marks]
theorem marks_get {α : Type} (m : Nat → α) {n i : Nat} (h : i < (marks m n).length) : (marks m n)[i] = m i := by simp [marks]
theorem marks_succ {α : Type} (m : Nat → α) (n : Nat) : marks m (n + 1) = marks m n ++ [m n] := by simp [marks, List.range_succ]
theorem mk_get {α : Type} (r : α → List AV) (m : Nat → α) (xs : List α) {i : Nat} (h : i < xs.length) : ((marks m i).map r ++ (xs.drop i).map r)[i]? = some (r xs[i]) := by
  rw [List.getElem?_append_right (by simp [marks]), List.length_map, marks_len, Nat.sub_self, List.drop_eq_getElem_cons h]
  rfl
theorem mk_set {α : Type} (r : α → List AV) (m : Nat → α) (xs : List α) {i : Nat} (h : i < xs.length) (row : List AV) (hrow : r (m i) = row) : ((marks m i).map r ++ (xs.drop i).map r).set i row = (marks m (i + 1)).map r ++ (xs.drop (i + 1)).map r := by
  rw [List.set_append_right _ _ (by simp [marks]), List.length_map, marks_len, Nat.sub_self, List.drop_eq_getElem_cons h, marks_succ, List.map_append, List.append_assoc, ← hrow]
  rfl
theorem mk_len {α : Type} (r : α → List AV) (m : Nat → α) (xs : List α) {i : Nat} (h : i ≤ xs.length) : ((marks m i).map r ++ (xs.drop i).map r).length = xs.length := by simp [marks]; omega
theorem mk_end {α : Type} (r : α → List AV) (m : Nat → α) (xs : List α) : (marks m xs.length).map r ++ (xs.drop xs.length).map r = (marks m xs.length).map r := by simp
theorem mk_0 {α : Type} (r : α → List AV) (m : Nat → α) (xs : List α) : (marks m 0).map r ++ (xs.drop 0).map r = xs.map r := by simp [marks]
theorem laws_markIntS (xs : List (Int)) (k : Nat) (hx : xs.length ≤ 1048576) (hk : k ≤ 1048576) (b : Nat) (H : AHeap) (hb : hget H b = some ⟨true, 1, xs.map rI⟩) :
    AC Try.prog 25 [.sl b 0 xs.length, .i k] H (fun v H' => v = .i (k + 1 * xs.length : Nat) ∧ H' = H.set b (some ⟨true, 1, (marks (mkI k) xs.length).map rI⟩)) := by
  have hbl := hget_lt hb
  have hw := fun (j : Nat) (hj : j ≤ 9999999) => w64s j (by omega)
  refine AC.enter (tbl0) (by kernel_rfl) Try.func25 rfl (by kernel_rfl) (by kernel_rfl) (by simp [Try.ntmps25]) Try.results25 ?_
  simp only [go_sem]
  refine ALoop.go (fun i => xs.length - i) (fun i => i ≤ xs.length) (fun i => [.sl b 0 xs.length, .i (k + 1 * i : Nat), .un, .un, .un, .i (i : Nat)]) (fun i => H.set b (some ⟨true, 1, (marks (mkI k) i).map rI ++ (xs.drop i).map rI⟩)) 0 (Nat.zero_le _) (fun _ => ?_) ?_
  · simp only [mk_0, set_self hb]
    refine .same ?_
    simp only [go_sem, Nat.mul_zero, hbl]
  intro i hi
  rcases Nat.lt_or_ge i xs.length with hlt | hge
  · have hg := mk_get rI (mkI k) xs hlt
    rw [rI_eq] at hg
    have hs := mk_set rI (mkI k) xs hlt [.i (k + 1 * i : Nat)] rfl
    have hgs := fun X => hget_set hb (some X)
    simp only [go_sem, hgs, hlt, hg, decide_true, hs, hw (k + 1 * i) (by omega)]
    refine loopK.go (i + 1) (by omega) (by omega) (fun _ => .same ?_)
    simp only [go_sem, List.length_set, hbl, w64s i (by omega)]
    omega
  · have h1 : ¬ i < xs.length := by omega
    have : i = xs.length := by omega
    subst this
    simp only [go_sem, h1, mk_end]
theorem set_set_at {α : Type} (l : List α) (i : Nat) (a b : α) : (l.set i a).set i b = l.set i b := List.set_set ..
theorem get_set_at {α : Type} {l : List α} {i : Nat} {b : α} (h : l[i]? = some b) (a : α) : (l.set i a)[i]? = some a := by
  rw [List.getElem?_set_self (List.getElem?_eq_some_iff.1 h).1]
theorem laws_markRatS (xs : List (Rt)) (k : Nat) (hx : xs.length ≤ 1048576) (hk : k ≤ 1048576) (b : Nat) (H : AHeap) (hb : hget H b = some ⟨true, 2, xs.map rR⟩) :
    AC Try.prog 18 [.sl b 0 xs.length, .i k] H (fun v H' => v = .i (k + 2 * xs.length : Nat) ∧ H' = H.set b (some ⟨true, 2, (marks (mkR k) xs.length).map rR⟩)) := by
  have hbl := hget_lt hb
  have hw := fun (j : Nat) (hj : j ≤ 9999999) => w64s j (by omega)
  refine AC.enter (tbl0) (by kernel_rfl) Try.func18 rfl (by kernel_rfl) (by kernel_rfl) (by simp [Try.ntmps18]) Try.results18 ?_
  simp only [go_sem]
  refine ALoop.go (fun i => xs.length - i) (fun i => i ≤ xs.length) (fun i => [.sl b 0 xs.length, .i (k + 2 * i : Nat), .un, .un, .un, .i (i : Nat)]) (fun i => H.set b (some ⟨true, 2, (marks (mkR k) i).map rR ++ (xs.drop i).map rR⟩)) 0 (Nat.zero_le _) (fun _ => ?_) ?_
  · simp only [mk_0, set_self hb]
    refine .same ?_
    simp only [go_sem, Nat.mul_zero, hbl]
  intro i hi
  rcases Nat.lt_or_ge i xs.length with hlt | hge
  · have hg := mk_get rR (mkR k) xs hlt
    rw [rR_eq] at hg
    have hs := mk_set rR (mkR k) xs hlt [.i (k + 2 * i : Nat), .i (k + 2 * i + 1 : Nat)] rfl
    have hgs := fun X => hget_set hb (some X)
    simp only [go_sem, hgs, hlt, hg, decide_true, hs, get_set_at hg, mk_len rR (mkR k) xs hi, List.length_set, hw (k + 2 * i) (by omega), hw (k + 2 * i + 1) (by omega)]
    refine loopK.go (i + 1) (by omega) (by omega) (fun _ => .same ?_)
    simp only [go_sem, List.length_set, hbl, w64s i (by omega)]
    omega
  · have h1 : ¬ i < xs.length := by omega
    have : i = xs.length := by omega
    subst this
    simp only [go_sem, h1, mk_end]
theorem laws_markPointS (xs : List (Rt × Rt)) (k : Nat) (hx : xs.length ≤ 1048576) (hk : k ≤ 1048576) (b : Nat) (H : AHeap) (hb : hget H b = some ⟨true, 4, xs.map rP⟩) :
    AC Try.prog 38 [.sl b 0 xs.length, .i k] H (fun v H' => v = .i (k + 4 * xs.length : Nat) ∧ H' = H.set b (some ⟨true, 4, (marks (mkP k) xs.length).map rP⟩)) := by
  have hbl := hget_lt hb
  have hw := fun (j : Nat) (hj : j ≤ 9999999) => w64s j (by omega)
  refine AC.enter (tbl0) (by kernel_rfl) Try.func38 rfl (by kernel_rfl) (by kernel_rfl) (by simp [Try.ntmps38]) Try.results38 ?_
  simp only [go_sem]
  refine ALoop.go (fun i => xs.length - i) (fun i => i ≤ xs.length) (fun i => [.sl b 0 xs.length, .i (k + 4 * i : Nat), .un, .un, .un, .i (i : Nat)]) (fun i => H.set b (some ⟨true, 4, (marks (mkP k) i).map rP ++ (xs.drop i).map rP⟩)) 0 (Nat.zero_le _) (fun _ => ?_) ?_
  · simp only [mk_0, set_self hb]
    refine .same ?_
    simp only [go_sem, Nat.mul_zero, hbl]
  intro i hi
  rcases Nat.lt_or_ge i xs.length with hlt | hge
  · have hg := mk_get rP (mkP k) xs hlt
    rw [rP_eq] at hg
    have hs := mk_set rP (mkP k) xs hlt [.i (k + 4 * i : Nat), .i (k + 4 * i + 1 : Nat), .i (k + 4 * i + 2 : Nat), .i (k + 4 * i + 3 : Nat)] rfl
    have hgs := fun X => hget_set hb (some X)
    simp only [go_sem, hgs, hlt, hg, decide_true, hs, get_set_at hg, mk_len rP (mkP k) xs hi, List.length_set, hw (k + 4 * i) (by omega), hw (k + 4 * i + 1) (by omega), hw (k + 4 * i + 2) (by omega), hw (k + 4 * i + 3) (by omega)]
    refine loopK.go (i + 1) (by omega) (by omega) (fun _ => .same ?_)
    simp only [go_sem, List.length_set, hbl, w64s i (by omega)]
    omega
  · have h1 : ¬ i < xs.length := by omega
    have : i = xs.length := by omega
    subst this
    simp only [go_sem, h1, mk_end]
theorem laws_heldIntS (n k : Nat) (hx : n ≤ 1048576) (hk : k ≤ 1048576) : ∀ H, AC Try.prog 26 [lI (marks (mkI k) n), .i k] H (fun v H' => v = .i (k + 1 * n : Nat) ∧ H' = H) := by
  have hw := fun (j : Nat) (hj : j ≤ 9999999) => w64s j (by omega)
  have hn := marks_len (mkI k) n
  refine AC.pure (by simp only [go_sem]) (AC.enter (tbl0) (by kernel_rfl) Try.func26 rfl (by kernel_rfl) (by kernel_rfl) (by simp [Try.ntmps26]) Try.results26 ?_)
  simp only [go_sem]
  refine ALoop.go (fun i => n - i) (fun i => i ≤ n) (fun i => [lI (marks (mkI k) n), .i (k + 1 * i : Nat), .un, .un, .un, .i (i : Nat)]) (fun i => []) 0 (Nat.zero_le _) (fun _ => .same (by simp only [go_sem, Nat.mul_zero])) ?_
  intro i hi
  rcases Nat.lt_or_ge i n with hlt | hge
  · have hlt2 : i < (marks (mkI k) n).length := by rw [hn]; exact hlt
    have hm := marks_get (mkI k) hlt2
    simp only [go_sem, getD_map rI hlt2, hm, hn, hlt, decide_true, mkI, hw (k + 1 * i) (by omega)]
    refine loopK.go (i + 1) (by omega) (by omega) (fun _ => .same ?_)
    simp only [go_sem, w64s i (by omega)]
    omega
  · have h1 : ¬ i < n := by omega
    have : i = n := by omega
    subst this
    simp only [go_sem, hn, h1]
theorem laws_heldRatS (n k : Nat) (hx : n ≤ 1048576) (hk : k ≤ 1048576) : ∀ H, AC Try.prog 19 [lR (marks (mkR k) n), .i k] H (fun v H' => v = .i (k + 2 * n : Nat) ∧ H' = H) := by
  have hw := fun (j : Nat) (hj : j ≤ 9999999) => w64s j (by omega)
  have hn := marks_len (mkR k) n
  refine AC.pure (by simp only [go_sem]) (AC.enter (tbl0) (by kernel_rfl) Try.func19 rfl (by kernel_rfl) (by kernel_rfl) (by simp [Try.ntmps19]) Try.results19 ?_)
  simp only [go_sem]
  refine ALoop.go (fun i => n - i) (fun i => i ≤ n) (fun i => [lR (marks (mkR k) n), .i (k + 2 * i : Nat), .un, .un, .un, .i (i : Nat)]) (fun i => []) 0 (Nat.zero_le _) (fun _ => .same (by simp only [go_sem, Nat.mul_zero])) ?_
  intro i hi
  rcases Nat.lt_or_ge i n with hlt | hge
  · have hlt2 : i < (marks (mkR k) n).length := by rw [hn]; exact hlt
    have hm := marks_get (mkR k) hlt2
    simp only [go_sem, getD_map rR hlt2, hm, hn, hlt, decide_true, mkR, hw (k + 2 * i) (by omega), hw (k + 2 * i + 1) (by omega)]
    refine loopK.go (i + 1) (by omega) (by omega) (fun _ => .same ?_)
    simp only [go_sem, w64s i (by omega)]
    omega
  · have h1 : ¬ i < n := by omega
    have : i = n := by omega
    subst this
    simp only [go_sem, hn, h1]
theorem laws_heldPointS (n k : Nat) (hx : n ≤ 1048576) (hk : k ≤ 1048576) : ∀ H, AC Try.prog 43 [lP (marks (mkP k) n), .i k] H (fun v H' => v = .i (k + 4 * n : Nat) ∧ H' = H) := by
  have hw := fun (j : Nat) (hj : j ≤ 9999999) => w64s j (by omega)
  have hn := marks_len (mkP k) n
  refine AC.pure (by simp only [go_sem]) (AC.enter (tbl0) (by kernel_rfl) Try.func43 rfl (by kernel_rfl) (by kernel_rfl) (by simp [Try.ntmps43]) Try.results43 ?_)
  simp only [go_sem]
  refine ALoop.go (fun i => n - i) (fun i => i ≤ n) (fun i => [lP (marks (mkP k) n), .i (k + 4 * i : Nat), .un, .un, .un, .i (i : Nat)]) (fun i => []) 0 (Nat.zero_le _) (fun _ => .same (by simp only [go_sem, Nat.mul_zero])) ?_
  intro i hi
  rcases Nat.lt_or_ge i n with hlt | hge
  · have hlt2 : i < (marks (mkP k) n).length := by rw [hn]; exact hlt
    have hm := marks_get (mkP k) hlt2
    simp only [go_sem, getD_map rP hlt2, hm, hn, hlt, decide_true, mkP, hw (k + 4 * i) (by omega), hw (k + 4 * i + 1) (by omega), hw (k + 4 * i + 2) (by omega), hw (k + 4 * i + 3) (by omega)]
    refine loopK.go (i + 1) (by omega) (by omega) (fun _ => .same ?_)
    simp only [go_sem, w64s i (by omega)]
    omega
  · have h1 : ¬ i < n := by omega
    have : i = n := by omega
    subst this
    simp only [go_sem, hn, h1]
end Go.Ab
/- The library's contracts at this seat's numbers: out of the kit's own laying, in plain words. -/
namespace Go.Proofs
open Go.Shelf Go.RowKit Go.Lib
def Try.lays138_ren : Go.Shelf.Ren := ⟨fun | 138 => 96 | 195 => 125 | 218 => 126 | 143 => 127 | 219 => 145 | 217 => 153 | 225 => 154 | 224 => 155 | 267 => 156 | 266 => 159 | 314 => 160 | n => n, fun | 9 => 9 | 3 => 3 | 4 => 4 | 5 => 5 | 0 => 0 | 46 => 120 | 146 => 143 | 51 => 142 | n => n, fun | 1 => 0 | n => n⟩
theorem Try.lays138 : Go.Proofs.Lays.n138 Try.prog Try.lays138_ren := {
  mixed := by kernel_rfl
  f138 := Try.func96.trans (congrArg some (by kernel_rfl))
  f143 := Try.func127.trans (congrArg some (by kernel_rfl))
  f195 := Try.func125.trans (congrArg some (by kernel_rfl))
  f217 := Try.func153.trans (congrArg some (by kernel_rfl))
  f218 := Try.func126.trans (congrArg some (by kernel_rfl))
  f219 := Try.func145.trans (congrArg some (by kernel_rfl))
  f224 := Try.func155.trans (congrArg some (by kernel_rfl))
  f225 := Try.func154.trans (congrArg some (by kernel_rfl))
  f266 := Try.func159.trans (congrArg some (by kernel_rfl))
  f267 := Try.func156.trans (congrArg some (by kernel_rfl))
  f314 := Try.func160.trans (congrArg some (by kernel_rfl))
  t0 := Try.underlying0
  a0 := Try.isAgg0
  z0 := Try.sizeOf0
  v0 := Try.zeroValue0
  t3 := Try.underlying3
  a3 := Try.isAgg3
  z3 := Try.sizeOf3
  v3 := Try.zeroValue3
  t4 := Try.underlying4
  a4 := Try.isAgg4
  z4 := Try.sizeOf4
  v4 := Try.zeroValue4
  t5 := Try.underlying5
  a5 := Try.isAgg5
  z5 := Try.sizeOf5
  v5 := Try.zeroValue5
  t9 := Try.underlying9
  a9 := Try.isAgg9
  z9 := Try.sizeOf9
  v9 := Try.zeroValue9
  t46 := Try.underlying120
  a46 := Try.isAgg120
  z46 := Try.sizeOf120
  v46 := Try.zeroValue120
  t51 := Try.underlying142
  a51 := Try.isAgg142
  z51 := Try.sizeOf142
  v51 := Try.zeroValue142
  t146 := Try.underlying143
  a146 := Try.isAgg143
  z146 := Try.sizeOf143
  v146 := Try.zeroValue143
  g1 := by kernel_rfl }
theorem Try.strings_Count_one (s : ByteArray) (c : UInt8) (w : World) :
    Calls Try.prog 96 #[.string s, .string ⟨#[c]⟩] w fun e w' => e = .returned (.int .i64 (Lib.countByte s.data.toList c)) ∧ w' = w := Any.strings_Count_one Try.lays138 s c w
def Try.lays212_ren : Go.Shelf.Ren := ⟨fun | 212 => 100 | 263 => 130 | 264 => 131 | n => n, fun | 46 => 120 | 51 => 142 | 146 => 143 | 53 => 145 | 148 => 146 | n => n, fun | n => n⟩
theorem Try.lays212 : Go.Proofs.Lays.n212 Try.prog Try.lays212_ren := {
  mixed := by kernel_rfl
  f212 := Try.func100.trans (congrArg some (by kernel_rfl))
  f263 := Try.func130.trans (congrArg some (by kernel_rfl))
  f264 := Try.func131.trans (congrArg some (by kernel_rfl))
  t46 := Try.underlying120
  a46 := Try.isAgg120
  z46 := Try.sizeOf120
  v46 := Try.zeroValue120
  t51 := Try.underlying142
  a51 := Try.isAgg142
  z51 := Try.sizeOf142
  v51 := Try.zeroValue142
  t53 := Try.underlying145
  a53 := Try.isAgg145
  z53 := Try.sizeOf145
  v53 := Try.zeroValue145
  t146 := Try.underlying143
  a146 := Try.isAgg143
  z146 := Try.sizeOf143
  v146 := Try.zeroValue143
  t148 := Try.underlying146
  a148 := Try.isAgg146
  z148 := Try.sizeOf146
  v148 := Try.zeroValue146 }
theorem Try.bits_Mul (x y : Nat) (hx : x < 18446744073709551616) (hy : y < 18446744073709551616) (w : World) :
    Calls Try.prog 100 #[.int .u64 x, .int .u64 y] w fun e w' => e = .returned (.tuple #[.int .u64 ((x * y / 18446744073709551616 : Nat) : Int), .int .u64 ((x * y % 18446744073709551616 : Nat) : Int)]) ∧ w' = w := Any.bits_Mul Try.lays212 x y hx hy w
def Try.lays105_ren : Go.Shelf.Ren := ⟨fun | 105 => 64 | 212 => 100 | 99 => 101 | 165 => 102 | 166 => 63 | 170 => 103 | 169 => 65 | 263 => 130 | 264 => 131 | 206 => 132 | 240 => 99 | 241 => 133 | 276 => 129 | 277 => 146 | n => n, fun | 9 => 9 | 3 => 3 | 4 => 4 | 20 => 20 | 0 => 0 | 46 => 120 | 109 => 121 | 5 => 5 | 72 => 81 | 76 => 84 | 51 => 142 | 146 => 143 | 53 => 145 | 148 => 146 | 70 => 78 | 37 => 79 | 75 => 83 | 127 => 100 | 164 => 140 | 80 => 87 | n => n, fun | n => n⟩
theorem Try.lays105 : Go.Proofs.Lays.n105 Try.prog Try.lays105_ren := {
  mixed := by kernel_rfl
  f99 := Try.func101.trans (congrArg some (by kernel_rfl))
  f105 := Try.func64.trans (congrArg some (by kernel_rfl))
  f165 := Try.func102.trans (congrArg some (by kernel_rfl))
  f166 := Try.func63.trans (congrArg some (by kernel_rfl))
  f169 := Try.func65.trans (congrArg some (by kernel_rfl))
  f170 := Try.func103.trans (congrArg some (by kernel_rfl))
  f206 := Try.func132.trans (congrArg some (by kernel_rfl))
  f212 := Try.func100.trans (congrArg some (by kernel_rfl))
  f240 := Try.func99.trans (congrArg some (by kernel_rfl))
  f241 := Try.func133.trans (congrArg some (by kernel_rfl))
  f263 := Try.func130.trans (congrArg some (by kernel_rfl))
  f264 := Try.func131.trans (congrArg some (by kernel_rfl))
  f276 := Try.func129.trans (congrArg some (by kernel_rfl))
  f277 := Try.func146.trans (congrArg some (by kernel_rfl))
  t0 := Try.underlying0
  a0 := Try.isAgg0
  z0 := Try.sizeOf0
  v0 := Try.zeroValue0
  t3 := Try.underlying3
  a3 := Try.isAgg3
  z3 := Try.sizeOf3
  v3 := Try.zeroValue3
  t4 := Try.underlying4
  a4 := Try.isAgg4
  z4 := Try.sizeOf4
  v4 := Try.zeroValue4
  t5 := Try.underlying5
  a5 := Try.isAgg5
  z5 := Try.sizeOf5
  v5 := Try.zeroValue5
  t9 := Try.underlying9
  a9 := Try.isAgg9
  z9 := Try.sizeOf9
  v9 := Try.zeroValue9
  t20 := Try.underlying20
  a20 := Try.isAgg20
  z20 := Try.sizeOf20
  v20 := Try.zeroValue20
  t37 := Try.underlying79
  a37 := Try.isAgg79
  z37 := Try.sizeOf79
  v37 := Try.zeroValue79
  t46 := Try.underlying120
  a46 := Try.isAgg120
  z46 := Try.sizeOf120
  v46 := Try.zeroValue120
  t51 := Try.underlying142
  a51 := Try.isAgg142
  z51 := Try.sizeOf142
  v51 := Try.zeroValue142
  t53 := Try.underlying145
  a53 := Try.isAgg145
  z53 := Try.sizeOf145
  v53 := Try.zeroValue145
  t70 := Try.underlying78
  a70 := Try.isAgg78
  z70 := Try.sizeOf78
  v70 := Try.zeroValue78
  t72 := Try.underlying81
  a72 := Try.isAgg81
  z72 := Try.sizeOf81
  v72 := Try.zeroValue81
  t75 := Try.underlying83
  a75 := Try.isAgg83
  z75 := Try.sizeOf83
  v75 := Try.zeroValue83
  t76 := Try.underlying84
  a76 := Try.isAgg84
  z76 := Try.sizeOf84
  v76 := Try.zeroValue84
  t109 := Try.underlying121
  a109 := Try.isAgg121
  z109 := Try.sizeOf121
  v109 := Try.zeroValue121
  t127 := Try.underlying100
  a127 := Try.isAgg100
  z127 := Try.sizeOf100
  v127 := Try.zeroValue100
  t146 := Try.underlying143
  a146 := Try.isAgg143
  z146 := Try.sizeOf143
  v146 := Try.zeroValue143
  t148 := Try.underlying146
  a148 := Try.isAgg146
  z148 := Try.sizeOf146
  v148 := Try.zeroValue146
  t164 := Try.underlying140
  a164 := Try.isAgg140
  z164 := Try.sizeOf140
  v164 := Try.zeroValue140 }
theorem Try.Builder_Extra_105 : Builder.Extra Try.prog Try.lays105_ren := {
  sizeBuilder := by kernel_rfl
  liesBuilder := by kernel_rfl
  t5 := Try.underlying5
  a5 := Try.isAgg5
  z5 := Try.sizeOf5
  v5 := Try.zeroValue5
  infoByte := by kernel_rfl
  cellsByte := by kernel_rfl
  sizeByte := by kernel_rfl
  neB5 := by decide }
theorem Try.strings_Repeat (s : ByteArray) (c : Nat) (w : World) (hc : c ≤ 9223372036854775807) (hlen : s.size * c ≤ 140737488355328) :
    Calls Try.prog 64 #[.string s, .int .i64 c] w fun e w' => e = .returned (.string ⟨(Lib.repeatL s.data.toList c).toArray⟩) ∧ Below w.heap.size w w' := Any.strings_Repeat Try.lays105 Try.Builder_Extra_105 s c w hc hlen
end Go.Proofs
set_option linter.unusedVariables false
set_option linter.unusedSimpArgs false
namespace Go.Ab
open Go.Proofs
theorem repeat1 (x : UInt8) : ∀ n, Lib.repeatL [x] n = List.replicate n x := by
  intro n
  induction n with
  | zero => rfl
  | succ n ih => simp [Lib.repeatL, List.replicate_succ] at ih ⊢; try exact ih
theorem strings_Repeat1 (x : UInt8) (n : Nat) (hn : n ≤ 1048576) : ∀ H, AC Try.prog 64 [.str [x], .i n] H (fun v H' => v = .str (List.replicate n x) ∧ H' = H) := by
  refine AC.ext ⟨_, Try.func64, rfl, by kernel_rfl⟩ fun m w vs hv => ?_
  rw [rel_str_int hv]
  refine (Try.strings_Repeat ⟨#[x]⟩ n w (by omega) (by show 1 * n ≤ _; omega)).mono ?_
  rintro e w' ⟨rfl, hb⟩
  refine ⟨_, rfl, ?_, hb⟩
  have : (⟨#[x]⟩ : ByteArray).data.toList = [x] := rfl
  rw [this, repeat1]
  exact .str _
theorem slices_IndexFunc_Int (xs : List (Int)) (g : Nat) (cap : List AV) (p : Int → Bool) (H : AHeap) (hc : BelL H.length cap) (hp : ∀ x, AC Try.prog g (AV.i x :: cap) H (fun v H' => v = .bool (p x) ∧ H' = H)) :
    AC Try.prog 98 [lI xs, .fn g cap] H (fun v H' => v = .i (idxF p xs) ∧ H' = H) := by
  refine AC.len 0 rfl (fun hl => ?_) ⟨_, Try.func98, rfl, by kernel_rfl⟩
  rw [List.length_map] at hl
  refine AC.enter (tbl0) (by kernel_rfl) Try.func98 rfl (by kernel_rfl) (by kernel_rfl) (by simp [Try.ntmps98]) Try.results98 ?_
  simp only [go_sem]
  refine ALoop.go (fun i => xs.length - i) (fun i => i ≤ xs.length ∧ (xs.take i).findIdx? p = none) (fun i => [lI xs, .fn g cap, .un, .un, .un, .un, .un, .i xs.length, .i (i : Nat)]) (fun _ => H) 0 ⟨Nat.zero_le _, rfl⟩ (fun _ => .same (by simp only [go_sem, rvv_self hc])) ?_
  intro i ⟨hi, hf⟩
  rcases Nat.lt_or_ge i xs.length with hlt | hge
  · simp only [go_sem, getD_map rI hlt, hlt, decide_true]
    refine AC.call (hp xs[i]) ?_
    simp only [go_sem]
    refine ⟨fun ht => by rw [idxF_at hlt hf ht], fun hn => ?_⟩
    exact loopK.go (i + 1) (by omega) ⟨by omega, take_none hlt hf hn⟩ (fun _ => .same (by simp only [go_sem, w64s i (by omega), rvv_self hc]))
  · have h1 : ¬ i < xs.length := by omega
    have : i = xs.length := by omega
    subst this
    simp only [go_sem, h1]
    rw [List.take_length] at hf
    simp [idxF, hf]
theorem slices_ContainsFunc_Int (xs : List (Int)) (g : Nat) (cap : List AV) (p : Int → Bool) (H : AHeap) (hc : BelL H.length cap) (hp : ∀ x, AC Try.prog g (AV.i x :: cap) H (fun v H' => v = .bool (p x) ∧ H' = H)) :
    AC Try.prog 61 [lI xs, .fn g cap] H (fun v H' => v = .bool (xs.any p) ∧ H' = H) := by
  refine AC.enter (tbl0) (by kernel_rfl) Try.func61 rfl (by kernel_rfl) (by kernel_rfl) (by simp [Try.ntmps61]) Try.results61 ?_
  simp only [go_sem]
  refine AC.call (slices_IndexFunc_Int xs g cap p H hc hp) ?_
  simp only [go_sem]
  rw [idxF_any p xs]
def inI (lo hi n : Int) : Bool := decide (lo ≤ n) && decide (n ≤ hi)
theorem spec_l1All (xs : List Int) (lo hi : Int) : ∀ H, AC Try.prog 60 [lI xs, .i lo, .i hi] H (fun v H' => v = .bool (xs.all (inI lo hi)) ∧ H' = H) := by
  refine AC.pure (by simp only [go_sem]) (AC.len 0 rfl (fun hl => ?_) ⟨_, Try.func60, rfl, by kernel_rfl⟩)
  rw [List.length_map] at hl
  refine AC.enter (tbl0) (by kernel_rfl) Try.func60 rfl (by kernel_rfl) (by kernel_rfl) (by simp [Try.ntmps60]) Try.results60 ?_
  simp only [go_sem]
  refine ALoop.go (fun i => xs.length - i) (fun i => i ≤ xs.length ∧ (xs.take i).all (inI lo hi) = true) (fun i => [.un, .i lo, .i hi, .un, .un, .un, .un, .un, .un, lI xs, .i xs.length, .i (i : Nat)]) (fun _ => []) 0 ⟨Nat.zero_le _, rfl⟩ (fun _ => .same (by simp only [go_sem])) ?_
  intro i ⟨hi', hf⟩
  rcases Nat.lt_or_ge i xs.length with hlt | hge
  · simp only [go_sem, getD_map rI hlt, hlt, decide_true]
    refine AC.call (spec_l1In _ _ _ _) ?_
    simp only [go_sem]
    refine ⟨fun h => ?_, fun h => ?_⟩
    · have : xs.all (inI lo hi) = false := List.all_eq_false.2 ⟨xs[i], List.getElem_mem _, by simp only [inI, h]; simp⟩
      rw [this]
    · exact loopK.go (i + 1) (by omega) ⟨by omega, by rw [List.take_succ_eq_append_getElem hlt, List.all_append, hf]; simp only [inI, List.all_cons, List.all_nil, h]; rfl⟩ (fun _ => .same (by simp only [go_sem, w64s i (by omega)]))
  · have h1 : ¬ i < xs.length := by omega
    have : i = xs.length := by omega
    subst this
    simp only [go_sem, h1]
    rw [List.take_length] at hf
    exact hf.symm
/-! ### Histograms' texts -/
def histT (xs : List Int) : Str := xs.flatMap fun n => List.replicate n.toNat 35 ++ [10]
def histTB (xs : List Int) : Bool := decide (xs.length ≤ 60) && xs.all (inI 0 100)
theorem histT_take {xs : List Int} {i : Nat} (h : i < xs.length) : histT (xs.take (i + 1)) = histT (xs.take i) ++ (List.replicate xs[i].toNat 35 ++ [10]) := by
  rw [histT, List.take_succ_eq_append_getElem h, List.flatMap_append]; simp [histT]
theorem histT_len {xs : List Int} (h : xs.all (inI 0 100) = true) : (histT xs).length ≤ 101 * xs.length := by
  induction xs with
  | nil => simp [histT]
  | cons x r ih =>
    simp only [List.all_cons, Bool.and_eq_true] at h
    have := ih h.2
    have h1 := h.1
    simp [inI] at h1
    simp [histT] at this ⊢
    omega
theorem take_all {α : Type} {p : α → Bool} {xs : List α} (h : xs.all p = true) (i : Nat) : (xs.take i).all p = true := by
  rw [List.all_eq_true] at h ⊢
  exact fun x hx => h x (List.mem_of_mem_take hx)
theorem impl_HistogramText_1 (n : Int) : ∀ H, AC Try.prog 62 [.i n] H (fun v H' => v = .bool (!inI 0 100 n) ∧ H' = H) := by
  refine AC.pure (by simp only [go_sem]) (AC.enter (tbl0) (by kernel_rfl) Try.func62 rfl (by kernel_rfl) (by kernel_rfl) (by simp [Try.ntmps62]) Try.results62 ?_)
  simp only [go_sem]
  refine AC.call (impl_within _ _ _ _) ?_
  simp only [go_sem]
  rfl
theorem impl_HistogramText (xs : List Int) : ∀ H, AC Try.prog 31 [lI xs] H (fun v H' => v = .tup [.str (if histTB xs then histT xs else []), .bool (histTB xs)] ∧ H' = H) := by
  refine AC.pure (by simp only [go_sem]) (AC.enter (tbl0) (by kernel_rfl) Try.func31 rfl (by kernel_rfl) (by kernel_rfl) (by simp [Try.ntmps31]) Try.results31 ?_)
  simp only [go_sem]
  refine ⟨fun h => ?_, fun h => ?_⟩
  · refine AC.call (slices_ContainsFunc_Int xs _ [] (fun n => !inI 0 100 n) _ .nil fun x => impl_HistogramText_1 x _) ?_
    simp only [go_sem]
    refine ⟨fun h1 => ?_, fun h1 => ?_⟩
    · have : xs.all (inI 0 100) = false := by rw [List.all_eq_not_any_not, h1]; rfl
      simp [histTB, this]
    · have ha : xs.all (inI 0 100) = true := by rw [List.all_eq_not_any_not, h1]; rfl
      have hB : histTB xs = true := by simp [histTB, ha]; omega
      have hlen := histT_len ha
      refine ALoop.go (fun i => xs.length - i) (fun i => i ≤ xs.length) (fun i => [.un, .un, .un, .un, .bptr bT 0, .un, .un, .un, .un, .un, .un, .un, .un, .un, lI xs, .i xs.length, .i (i : Nat)]) (fun i => bldH (histT (xs.take i))) 0 (Nat.zero_le _) (fun _ => .same (by simp only [go_sem])) ?_
      intro i hi
      rcases Nat.lt_or_ge i xs.length with hlt | hge
      · have hx := List.all_eq_true.1 ha xs[i] (List.getElem_mem _)
        simp [inI] at hx
        have hli := histT_len (take_all ha i)
        have hti : (xs.take i).length ≤ xs.length := by simp; omega
        have hr := strings_Repeat1 35 xs[i].toNat (by omega)
        rw [Int.toNat_of_nonneg hx.1] at hr
        simp only [go_sem, getD_map rI hlt, hlt, decide_true]
        refine AC.call (hr _) ?_
        simp only [go_sem]
        refine ⟨by simp; omega, ?_⟩
        have hW := bld_W (histT (xs.take i)) (List.replicate xs[i].toNat 35 ++ [10]) [] (by simp) (by simp; omega)
        rw [List.append_nil] at hW
        refine AC.call (hW) ?_
        simp only [go_sem]
        refine loopK.go (i + 1) (by omega) (by omega) (fun _ => ?_)
        rw [histT_take hlt]
        refine .bldW (by simp) ?_
        simp only [go_sem, w64s i (by omega)]
      · have h3 : ¬ i < xs.length := by omega
        have : i = xs.length := by omega
        subst this
        simp only [go_sem, h3]
        refine AC.call (bld_S _) ?_
        simp only [go_sem]
        simp [hB]
  · have : ¬ xs.length ≤ 60 := by omega
    simp [histTB, this]
theorem spec_HistogramText (xs : List Int) : ∀ H, AC Try.prog 29 [lI xs] H (fun v H' => v = .tup [.str (if histTB xs then histT xs else []), .bool (histTB xs)] ∧ H' = H) := by
  refine AC.pure (by simp only [go_sem]) (AC.enter (tbl0) (by kernel_rfl) Try.func29 rfl (by kernel_rfl) (by kernel_rfl) (by simp [Try.ntmps29]) Try.results29 ?_)
  simp only [go_sem]
  refine ⟨fun h => ?_, fun h => ?_⟩
  · refine AC.call (spec_l1All xs _ _ _) ?_
    simp only [go_sem]
    refine ⟨fun h1 => by simp [histTB, h1], fun ha => ?_⟩
    have hB : histTB xs = true := by simp [histTB, ha]; omega
    have hlen := histT_len ha
    refine ALoop.go (fun i => xs.length - i) (fun i => i ≤ xs.length) (fun i => [.un, .un, .un, .un, .str (histT (xs.take i)), .un, .un, .un, .un, .un, .un, .un, .un, .un, .un, lI xs, .i xs.length, .i (i : Nat)]) (fun i => []) 0 (Nat.zero_le _) (fun _ => .same (by simp only [go_sem]; rfl)) ?_
    intro i hi
    rcases Nat.lt_or_ge i xs.length with hlt | hge
    · have hx := List.all_eq_true.1 ha xs[i] (List.getElem_mem _)
      simp [inI] at hx
      have hli := histT_len (take_all ha i)
      have hti : (xs.take i).length ≤ xs.length := by simp; omega
      simp only [go_sem, getD_map rI hlt, hlt, decide_true]
      refine ALoop.go (fun k : Nat => k) (fun k => k ≤ xs[i].toNat) (fun k => [.un, .un, .un, .un, .str (histT (xs.take i) ++ List.replicate (xs[i].toNat - k) 35), .un, .i (k : Nat), .un, .un, .un, .un, .un, .un, .un, .un, lI xs, .i xs.length, .i (i : Nat)]) (fun _ => []) xs[i].toNat (Nat.le_refl _) (fun _ => .same (by simp only [go_sem]; simp; omega)) ?_
      intro k hk
      simp only [go_sem]
      refine ⟨fun h4 => ⟨by simp; omega, ?_⟩, fun h4 => ⟨by simp; omega, ?_⟩⟩
      · refine loopK.go (k - 1) (by omega) (by omega) (fun _ => .same ?_)
        simp only [go_sem]
        refine ⟨?_, ?_⟩
        · rw [show xs[i].toNat - (k - 1) = (xs[i].toNat - k) + 1 by omega, List.replicate_succ']
        · rw [w64 _ (by omega) (by omega)]; omega
      · have : k = 0 := by omega
        subst this
        refine loopK.go (i + 1) (by omega) (by omega) (fun _ => .same ?_)
        simp only [go_sem, w64s i (by omega), histT_take hlt, Nat.sub_zero]
    · have h3 : ¬ i < xs.length := by omega
      have : i = xs.length := by omega
      subst this
      simp only [go_sem, h3]
      simp [hB]
  · have : ¬ xs.length ≤ 60 := by omega
    simp [histTB, this]
theorem law_HistogramText (xs : List Int) : ∀ H, AC Try.prog 7 [lI xs] H (fun v H' => v = .bool true ∧ H' = H) := by
  refine AC.pure (by simp only [go_sem]) (AC.enter (tbl0) (by kernel_rfl) Try.func7 rfl (by kernel_rfl) (by kernel_rfl) (by simp [Try.ntmps7]) Try.results7 ?_)
  simp only [go_sem]
  refine ⟨fun h => trivial, fun h => ?_⟩
  have hx : xs.length ≤ 1048576 := by omega
  refine AC.call (laws_toIntS xs hx) ?_
  simp only [go_sem]
  refine AC.call (AC.lend0 (.c (.sl0 rfl (by simp) (.map bel_rI _)) .n) (spec_HistogramText xs []) (.tupl (.c (.str _ _) (.c (.bool _ _) .n)))) ?_
  simp only [go_sem]
  refine AC.call (AC.lend (.c .lst .n) (laws_toIntS xs hx) (.sl _ _ _ _) (.raw (.map raw_rI _))) ?_
  simp only [go_sem]
  refine AC.call (AC.lend0 (.c (.sl0 rfl (by simp) (.map bel_rI _)) .n) (impl_HistogramText xs []) (.tupl (.c (.str _ _) (.c (.bool _ _) .n)))) ?_
  simp only [go_sem, decide_true]
  refine AC.call (AC.lend (.c .lst .n) (laws_toIntS xs hx) (.sl _ _ _ _) (.raw (.map raw_rI _))) ?_
  simp only [go_sem]
  refine AC.call (AC.lend0 (.c (.sl0 rfl (by simp) (.map bel_rI _)) (.c (.sl0 rfl (by simp) (.map bel_rI _)) .n)) (laws_eqIntS xs []) (.bool _ _)) ?_
  simp only [go_sem]
end Go.Ab
set_option linter.unusedVariables false
set_option linter.unusedSimpArgs false
namespace Go.Ab
open Go.Proofs Go.Proofs.Ytmgggjaphphkhaa
/-! ### Plots -/
def sizeI (n : Int) : Bool := decide (2 ≤ n) && decide (n ≤ 60)
theorem impl_isSize (n : Int) : ∀ H, AC Try.prog 70 [.i n] H (fun v H' => v = .bool (sizeI n) ∧ H' = H) := by
  refine AC.pure (by simp only [go_sem]) (AC.enter (tbl0) (by kernel_rfl) Try.func70 rfl (by kernel_rfl) (by kernel_rfl) (by simp [Try.ntmps70]) Try.results70 ?_)
  simp only [go_sem]
  refine AC.call (impl_within _ _ _ _) ?_
  simp only [go_sem]
  rfl
theorem spec_plSize (n : Int) : ∀ H, AC Try.prog 66 [.i n] H (fun v H' => v = .bool (sizeI n) ∧ H' = H) := by
  refine AC.pure (by simp only [go_sem]) (AC.enter (tbl0) (by kernel_rfl) Try.func66 rfl (by kernel_rfl) (by kernel_rfl) (by simp [Try.ntmps66]) Try.results66 ?_)
  simp only [go_sem]
  refine AC.call (spec_l1In _ _ _ _) ?_
  simp only [go_sem]
  rfl
theorem bits_Mul1 (b : Nat) (hb : b < 9223372036854775808) : ∀ H, AC Try.prog 100 [.int .u64 1, .int .u64 b] H (fun v H' => v = .tup [.int .u64 0, .int .u64 b] ∧ H' = H) := by
  refine AC.ext ⟨_, Try.func100, rfl, by kernel_rfl⟩ fun m w vs hv => ?_
  have : vs = [.int .u64 1, .int .u64 b] := by
    obtain ⟨h1, h2⟩ := hv
    match vs, h1 with
    | [r, q], _ => rw [(h2 0 _ r rfl rfl).int_inv, (h2 1 _ q rfl rfl).int_inv]
  rw [this]
  refine (Try.bits_Mul 1 b (by omega) (by omega) w).mono ?_
  rintro e w' ⟨rfl, rfl⟩
  refine ⟨_, rfl, ?_, Below.rfl0 w'⟩
  have h1 : 1 * b / 18446744073709551616 = 0 := by rw [Nat.one_mul]; exact Nat.div_eq_of_lt (by omega)
  have h2 : 1 * b % 18446744073709551616 = b := by rw [Nat.one_mul]; exact Nat.mod_eq_of_lt (by omega)
  rw [h1, h2]
  exact .tup rfl fun i v r hv hr => by
    match i with
    | 0 => simp at hv hr; subst hv; subst hr; exact .int _ _
    | 1 => simp at hv hr; subst hv; subst hr; exact .int _ _
    | i + 2 => simp at hv
theorem wu64 (n : Nat) (h : n < 18446744073709551616) : IntKind.u64.wrap (n : Int) = n := by
  simp [IntKind.wrap, IntKind.bits, IntKind.signed]; omega
def fillR (c : UInt8) (k n : Nat) : List (List AV) := byteRows (List.replicate k c) ++ List.replicate (n - k) [AV.int .u8 0]
theorem fillR_len (c : UInt8) {k n : Nat} (h : k ≤ n) : (fillR c k n).length = n := by simp [fillR, byteRows]; omega
theorem fillR_0 (c : UInt8) (n : Nat) : fillR c 0 n = List.replicate n [AV.int .u8 0] := by simp [fillR, byteRows]
theorem fillR_n (c : UInt8) (n : Nat) : fillR c n n = byteRows (List.replicate n c) := by simp [fillR]
theorem fillR_take (c : UInt8) {k n : Nat} (h : k ≤ n) : (fillR c k n).take k = byteRows (List.replicate k c) := by
  have : (byteRows (List.replicate k c)).length = k := by simp [byteRows]
  rw [fillR, List.take_append_of_le_length (by omega), List.take_of_length_le (by omega)]
theorem fillR_over (c : UInt8) {k n j : Nat} (h : k + j ≤ n) : overR (fillR c k n) k (byteRows (List.replicate j c)) = fillR c (k + j) n := by
  have hk : (byteRows (List.replicate k c)).length = k := by simp [byteRows]
  have hj : (byteRows (List.replicate j c)).length = j := by simp [byteRows]
  rw [overR, fillR_take c (by omega), hj, fillR, List.drop_append, List.drop_of_length_le (by omega), hk, fillR, byteRows_app]
  simp only [List.nil_append, List.drop_replicate, List.replicate_append_replicate]
  congr 2
  omega
theorem bel_byteRows (l : List UInt8) : Clo (byteRows l) := fun row hr => by
  obtain ⟨c, _, rfl⟩ := List.mem_map.1 hr
  exact .cons .i .nil
theorem raw_byteRows (l : List UInt8) : Raw (byteRows l) := fun N row hr v hv => by
  obtain ⟨c, _, rfl⟩ := List.mem_map.1 hr
  simp at hv; subst hv; exact .int _ _ _
set_option maxRecDepth 100000 in
theorem slices_Repeat_byte (c : UInt8) (n : Nat) (hn1 : 1 ≤ n) (hn : n ≤ 1000) : AC Try.prog 105 [.lst 1 [[.int .u8 c.toNat]], .i n] [] (fun v H' => v = .sl 0 0 n ∧ H' = [some ⟨true, 1, byteRows (List.replicate n c)⟩]) := by
  refine AC.own (bel_byteRows _) (AC.enter (tbl0) (by kernel_rfl) Try.func105 rfl (by kernel_rfl) (by kernel_rfl) (by simp [Try.ntmps105]) Try.results105 ?_)
  have hw1 := wu64 1 (by omega)
  have hwn := wu64 n (by omega)
  have h0 : (0 : Int) ≤ n := by omega
  simp only [n1] at hw1
  simp only [go_sem, hw1, hwn, h0]
  refine x_cv_do ?_
  simp only [go_sem, hw1, hwn, h0]
  refine x_cv_do ?_
  simp only [go_sem, hw1, hwn, h0]
  refine AC.call (bits_Mul1 n (by omega) _) ?_
  simp only [go_sem]
  have hs : ¬ (9223372036854775807 < (n : Int)) := by omega
  have hw2 : IntKind.i64.wrap (n : Int) = n := w64 _ (by omega) (by omega)
  simp only [go_sem, hs, hw2, Int.lt_irrefl, decide_false]
  simp only [go_sem, hs, hw2, Int.lt_irrefl, decide_false, false_imp_iff, true_imp_iff, true_and, not_false_eq_true]
  refine x_cv_do ?_
  simp only [go_sem, hw2]
  refine ⟨by omega, by omega, ?_⟩
  simp only [go_sem]
  refine copy_do (A := ⟨true, 1, List.replicate n [AV.int .u8 0]⟩) (news := byteRows [c]) elem_79 szO_5 rfl rfl rfl (by simp) .lst (by simp [byteRows]) ?_
  have e1 : min (byteRows [c]).length n = 1 := by simp [byteRows]; omega
  have e2 : (byteRows [c]).take n = byteRows (List.replicate 1 c) := by rw [List.take_of_length_le (by simp [byteRows]; omega)]; rfl
  have e3 : overR (List.replicate n [AV.int .u8 0]) 0 (byteRows (List.replicate 1 c)) = fillR c 1 n := by
    rw [← fillR_0 c n, fillR_over c (k := 0) (by omega)]
  rw [e1, e2, e3]
  simp only [go_sem]
  refine ALoop.go (fun k => n - k) (fun k => 1 ≤ k ∧ k ≤ n) (fun k => [.un, .un, .un, .un, .un, .un, .un, .sl 0 0 n, .i (k : Nat)]) (fun k => [some ⟨true, 1, fillR c k n⟩]) 1 ⟨by omega, hn1⟩ (fun _ => .same (by simp only [go_sem])) ?_
  intro k ⟨hk1, hk⟩
  rcases Nat.lt_or_ge k n with hlt | hge
  · simp only [go_sem, hlt, decide_true]
    refine ⟨by omega, by omega, ?_⟩
    have hl := fillR_len c hk
    refine copy_do (A := ⟨true, 1, fillR c k n⟩) (news := byteRows (List.replicate k c)) elem_79 szO_5 rfl rfl rfl (by show k + (n - k) ≤ (fillR c k n).length; omega) ?_ (by simp [byteRows]) ?_
    · rw [← fillR_take c hk]
      exact .sl (A := ⟨true, 1, fillR c k n⟩) rfl (by show 0 + k ≤ (fillR c k n).length; omega)
    have e4 : min (byteRows (List.replicate k c)).length (n - k) = min k (n - k) := by simp [byteRows]
    have e5 : (byteRows (List.replicate k c)).take (n - k) = byteRows (List.replicate (min k (n - k)) c) := by rw [byteRows_take, List.take_replicate, Nat.min_comm]
    rw [e4, e5]
    simp only [fillR_over c (show k + min k (n - k) ≤ n by omega)]
    simp only [go_sem]
    have hm := w64 ((k : Int) + (min k (n - k) : Nat)) (by omega) (by omega)
    simp only [go_sem, hm]
    refine loopK.go (k + min k (n - k)) (by omega) ⟨by omega, by omega⟩ (fun _ => .same ?_)
    simp only [go_sem]
    omega
  · have h1 : ¬ k < n := by omega
    have : k = n := by omega
    subst this
    simp only [go_sem, h1, fillR_n]
    exact ⟨0, .inl rfl, by simp only [go_sem]⟩
end Go.Ab
set_option linter.unusedVariables false
set_option linter.unusedSimpArgs false
namespace Go.Ab
open Go.Proofs Go.Proofs.Ytmgggjaphphkhaa
/-- The rows of a plot. -/
def plRows (w n : Nat) : List (List AV) := (List.range n).map fun k => [AV.sl (1 + k) 0 w]
/-- The heap of a plot. -/
def plH (w : Nat) (g : List Str) : AHeap := some ⟨true, 1, plRows w g.length⟩ :: g.map fun l => some ⟨true, 1, byteRows l⟩
theorem plH_len (w : Nat) (g : List Str) : (plH w g).length = 1 + g.length := by simp [plH]; omega
theorem plRows_len (w n : Nat) : (plRows w n).length = n := by simp [plRows]
theorem plRows_app (w n : Nat) : plRows w (n + 1) = plRows w n ++ [[AV.sl (1 + n) 0 w]] := by simp [plRows, List.range_succ]
theorem plRows_get (w : Nat) {n i : Nat} (h : i < n) : (plRows w n)[i]? = some [AV.sl (1 + i) 0 w] := by simp [plRows, h]
theorem plH_0 (w : Nat) (g : List Str) (X : AHeap) : hget (plH w g ++ X) 0 = some ⟨true, 1, plRows w g.length⟩ := rfl
theorem plH_s (w : Nat) (g : List Str) (X : AHeap) {i : Nat} (h : i < g.length) : hget (plH w g ++ X) (1 + i) = some ⟨true, 1, byteRows g[i]⟩ := by
  rw [Nat.add_comm, hget_eq.2]
  simp [plH, h, List.getElem?_append]
theorem hget_end (H : AHeap) (A : Blk) : hget (H ++ [some A]) H.length = some A := by rw [hget_eq.2]; simp
/-- A plot that has been given a line. -/
theorem Retell.plot {w : Nat} {g : List Str} {l : Str} {H : AHeap} {o q : Nat} {e : Env} {S : List AV}
    (ho : hget H o = some ⟨true, 1, plRows w g.length ++ [[.sl q 0 w]]⟩) (hq : hget H q = some ⟨true, 1, byteRows l⟩)
    (hk : ∀ k (h : k < g.length), hget H (1 + k) = some ⟨true, 1, byteRows g[k]⟩) (ho1 : 1 + g.length ≤ o) (hq1 : 1 + g.length ≤ q) (hoq : o ≠ q)
    (hr : rvL (fun _ => o) 1 e 0 S) : Retell 0 H e (plH w (g ++ [l])) (envU S) := by
  have hlen := plH_len w (g ++ [l])
  rw [List.length_append, List.length_singleton] at hlen
  generalize hfd : (fun b => if b = 0 then o else if b ≤ g.length then b else q) = f
  have f0 : f 0 = o := by subst hfd; rfl
  have f1 : ∀ b, b ≠ 0 → b ≤ g.length → f b = b := fun b h1 h2 => by subst hfd; simp only [h1, if_false, h2, if_true]
  have f2 : f (1 + g.length) = q := by subst hfd; simp only [show ¬ (1 + g.length = 0) by omega, if_false, show ¬ (1 + g.length ≤ g.length) by omega]
  have hol := hget_lt ho
  have hql := hget_lt hq
  refine Retell.ren (f := f) [] ?_ fun t => ?_
  · have hv : H ++ virts [] = H := by simp [virts]
    rw [hv]
    have cases3 : ∀ b, b < (plH w (g ++ [l])).length → b = 0 ∨ (b ≠ 0 ∧ b ≤ g.length) ∨ b = 1 + g.length := fun b hb => by omega
    refine ⟨Nat.zero_le _, fun b hb => by omega, fun b hb => ?_, fun b c hb hc he => ?_, fun b A' hb => ?_⟩
    · rcases cases3 b hb with h | ⟨h1, h2⟩ | h
      · subst h; rw [f0]; exact hol
      · rw [f1 b h1 h2]
        have := hget_lt (hk (b - 1) (by omega))
        omega
      · subst h; rw [f2]; exact hql
    · rcases cases3 b hb with h | ⟨h1, h2⟩ | h <;> rcases cases3 c hc with h' | ⟨h1', h2'⟩ | h'
      · omega
      · subst h; rw [f0, f1 c h1' h2'] at he; omega
      · subst h; subst h'; rw [f0, f2] at he; exact absurd he hoq
      · subst h'; rw [f0, f1 b h1 h2] at he; omega
      · rw [f1 b h1 h2, f1 c h1' h2'] at he; exact he
      · subst h'; rw [f2, f1 b h1 h2] at he; omega
      · subst h; subst h'; rw [f0, f2] at he; exact absurd he.symm hoq
      · subst h; rw [f2, f1 c h1' h2'] at he; omega
      · omega
    · have hb2 := (List.getElem?_eq_some_iff.1 hb).1
      have bytes : ∀ (s : Str) (i : Nat) row' row, (byteRows s)[i]? = some row' → (byteRows s)[i]? = some row → row'.length = row.length ∧ ∀ (j : Nat) v' v, row'[j]? = some v' → row[j]? = some v → RV f (plH w (g ++ [l])).length v' v := fun s i row' row h1 h2 => by
        rw [h1] at h2; injection h2 with h2; subst h2
        refine ⟨rfl, fun j v' v h3 h4 => ?_⟩
        rw [h3] at h4; injection h4 with h4; subst h4
        obtain ⟨c, _, rfl⟩ := List.mem_map.1 (List.mem_of_getElem? h1)
        match j with
        | 0 => simp at h3; subst h3; exact .int _ _
        | j + 1 => simp at h3
      rcases cases3 b hb2 with h | ⟨h1, h2⟩ | h
      · subst h
        have : A' = ⟨true, 1, plRows w (g ++ [l]).length⟩ := by simp [plH] at hb ⊢; exact hb.symm
        subst this
        refine ⟨⟨true, 1, plRows w g.length ++ [[.sl q 0 w]]⟩, hget_eq.1 (by rw [f0]; exact ho), rfl, rfl, by simp [plRows], fun i row' row h1 h2 => ?_⟩
        have hi := (List.getElem?_eq_some_iff.1 h1).1
        simp only [plRows_len, List.length_append, List.length_singleton] at hi
        simp only [List.length_append, List.length_singleton] at h1
        rw [plRows_get w hi] at h1
        injection h1 with h1; subst h1
        rcases Nat.lt_or_ge i g.length with hlt | hge
        · simp only [List.getElem?_append, plRows_len, hlt, if_true, plRows_get w hlt] at h2
          injection h2 with h2
          subst h2
          refine ⟨rfl, fun j v' v h3 h4 => ?_⟩
          match j with
          | 0 =>
            simp at h3 h4; subst h3; subst h4
            have := RV.sl (f := f) (N := (plH w (g ++ [l])).length) (b := 1 + i) (i := 0) (n := w) (by omega)
            rwa [f1 _ (by omega) (by omega)] at this
          | j + 1 => simp at h3
        · have hi' : i = g.length := by omega
          subst hi'
          simp only [List.getElem?_append, plRows_len, Nat.lt_irrefl, if_false, Nat.sub_self] at h2
          simp at h2; subst h2
          refine ⟨rfl, fun j v' v h3 h4 => ?_⟩
          match j with
          | 0 =>
            simp at h3 h4; subst h3; subst h4
            have := RV.sl (f := f) (N := (plH w (g ++ [l])).length) (b := 1 + g.length) (i := 0) (n := w) (by omega)
            rwa [f2] at this
          | j + 1 => simp at h3
      · obtain ⟨k, rfl⟩ : ∃ k, b = 1 + k := ⟨b - 1, by omega⟩
        have hkl : k < g.length := by omega
        have : A' = ⟨true, 1, byteRows g[k]⟩ := by
          rw [Nat.add_comm] at hb
          simp [plH, hkl] at hb
          rw [List.getElem?_append_left (by simp; omega), List.getElem?_map, List.getElem?_eq_getElem hkl] at hb
          simp at hb
          exact hb.symm
        subst this
        refine ⟨_, hget_eq.1 (by rw [f1 _ h1 h2]; exact hk k hkl), rfl, rfl, rfl, bytes _⟩
      · subst h
        have : A' = ⟨true, 1, byteRows l⟩ := by
          rw [Nat.add_comm] at hb
          simp [plH] at hb
          exact hb.symm
        subst this
        exact ⟨_, hget_eq.1 (by rw [f2]; exact hq), rfl, rfl, rfl, bytes _⟩
  · have := rvL_at hr t
    rw [Nat.zero_add] at this
    exact this.mono fun b hb => by
      have : b = 0 := by omega
      subst this; exact ⟨f0, by omega⟩
theorem emptyL (n : Nat) (s : Str) : List.replicate (n + 1) s = List.replicate n s ++ [s] := by rw [← List.replicate_append_replicate]; rfl
theorem impl_newPlot (w h : Nat) (hw1 : 1 ≤ w) (hw : w ≤ 60) (hh1 : 1 ≤ h) (hh : h ≤ 60) : AC Try.prog 73 [.i w, .i h] [] (fun v H' => v = .sl 0 0 h ∧ H' = plH w (List.replicate h (List.replicate w 46))) := by
  refine AC.enter (tbl0) (by kernel_rfl) Try.func73 rfl (by kernel_rfl) (by kernel_rfl) (by simp [Try.ntmps73]) Try.results73 ?_
  simp only [go_sem]
  refine ALoop.go (fun i => h - i) (fun i => i ≤ h) (fun i => [.i w, .un, .un, .un, .un, .sl 0 0 i, .i h, .i (i : Nat)]) (fun i => plH w (List.replicate i (List.replicate w 46))) 0 (by omega) (fun _ => .ks [1] [0] rfl (by simp) rfl ⟨fun _ h => by simp [plRows] at h, trivial⟩ (by simp only [go_sem])) ?_
  intro i hi
  rcases Nat.lt_or_ge i h with hlt | hge
  · simp only [go_sem, hlt, decide_true]
    refine AC.call (AC.lend (.c (.sl0 (rows := byteRows [46]) (hget_end _ _) rfl (bel_byteRows _)) (.c .int .n)) (slices_Repeat_byte 46 w hw1 (by omega)) (.sl _ _ _ _) (.raw (raw_byteRows _))) ?_
    simp only [go_sem]
    have hp0 := plH_0 w (List.replicate i (List.replicate w 46))
    rw [List.length_replicate] at hp0
    simp only [go_sem, hp0, plRows_len, List.drop_zero]
    refine ⟨by omega, by simp only [maxLen]; omega, ?_⟩
    refine loopK.go (i + 1) (by omega) (by omega) (fun _ => ?_)
    have hgl : (List.replicate i (List.replicate w (46 : UInt8))).length = i := List.length_replicate
    have hpl : (plH w (List.replicate i (List.replicate w 46))).length = 1 + i := by rw [plH_len, hgl]
    show Retell 0 _ _ (plH w (List.replicate (i + 1) (List.replicate w 46))) _
    rw [emptyL]
    refine Retell.plot (w := w) (o := 1 + i + 3) (q := 1 + i + 1) ?_ ?_ ?_ ?_ ?_ (by omega) ?_
    · rw [hget_eq, hpl, hgl]
      simp [List.getElem?_append, List.getElem?_set, hpl]
    · rw [hget_eq]
      simp [List.getElem?_append, List.getElem?_set, hpl]
    · intro k hk
      have hk' : k < i := by omega
      have := plH_s w (List.replicate i (List.replicate w 46)) [] hk
      rw [List.append_nil, hget_eq] at this
      rw [hget_eq]
      have hlt2 : 1 + k < (plH w (List.replicate i (List.replicate w 46))).length := by omega
      rw [List.getElem?_append_left (by simp; omega), List.getElem?_set_ne (by omega), List.getElem?_append_left hlt2, this]
    · rw [hgl]; omega
    · rw [hgl]; omega
    · simp only [go_sem, hpl, w64s i (by omega)]
  · have h1 : ¬ i < h := by omega
    have : i = h := by omega
    subst this
    simp only [go_sem, h1]
theorem Retell.ksN {N0 : Nat} {H0 H H' J H2 : AHeap} {e : Env} {l : List AV} (hc : Closed H0) (hN : N0 = H0.length) (hH : H = H0 ++ J) (hH' : H' = H0 ++ H2) (szs ks : List Nat) (h1 : ks.all (fun k => decide (k < (J ++ virts szs).length)) = true) (h2 : ks.Nodup) (h3 : H2 = pickH (J ++ virts szs) ks) (h4 : CloH H2)
    (h5 : rvL (keepF H0.length ks) (H0.length + ks.length) e 0 l) : Retell N0 H e H' (envU l) := by
  subst hH; subst hH'; subst hN
  have hlen : H2.length = ks.length := by rw [h3, pickH_eq]; simp
  have := HRen.keep (H0 := H0) (H1 := H0) (J := J ++ virts szs) (J' := H2) ks rfl (fun _ _ h => h) (fun k hk => by have := List.all_eq_true.1 h1 k hk; simpa using this) h2 (by rw [h3, pickH_eq]) hc (fun A hA row hr v hv => RV.mono (h4.mem A hA row hr v hv) (fun b hb => by omega))
  refine Retell.ren (f := keepF H0.length ks) szs (by rw [List.append_assoc]; exact this) fun t => ?_
  have := rvL_at h5 t
  rw [Nat.zero_add] at this
  rw [List.length_append, hlen]; exact this
theorem plH_closed (w : Nat) (g : List Str) : Closed (plH w g) := fun A hA row hr v hv => by
  rw [plH_len]
  rcases List.mem_cons.1 hA with h | h
  · injection h with h; subst h
    obtain ⟨k, hk, rfl⟩ := List.mem_map.1 hr
    rw [List.mem_range] at hk
    simp at hv; subst hv
    exact .sl (by omega)
  · obtain ⟨l, _, h⟩ := List.mem_map.1 h
    injection h with h; subst h
    obtain ⟨c, _, rfl⟩ := List.mem_map.1 hr
    simp at hv; subst hv
    exact .int _ _
theorem impl_at (w h x y : Nat) (g : List Str) (X : AHeap) (hg : g.length = h) (hh : h ≤ 60) (hx : x < w) (hy : y < h) : AC Try.prog 74 [.sl 0 0 h, .i x, .i y] (plH w g ++ X) (fun v H' => v = .ptr (1 + (h - 1 - y)) x 0 ∧ H' = plH w g ++ X) := by
  have hp0 := plH_0 w g X
  rw [hg] at hp0
  have hr := plRows_get w (show h - 1 - y < h by omega)
  have w1 : IntKind.i64.wrap ((h : Int) - 1) = ((h - 1 : Nat) : Int) := by rw [w64 _ (by omega) (by omega)]; omega
  have w2 : IntKind.i64.wrap (((h - 1 : Nat) : Int) - y) = ((h - 1 - y : Nat) : Int) := by rw [w64 _ (by omega) (by omega)]; omega
  have hs := plH_s w g X (show h - 1 - y < g.length by omega)
  refine AC.enter (tbl0) (by kernel_rfl) Try.func74 rfl (by kernel_rfl) (by kernel_rfl) (by simp [Try.ntmps74]) Try.results74 ?_
  simp only [go_sem, hp0, hr, w1, w2]
  refine ⟨by omega, hx, ?_⟩
  simp only [go_sem, hs]
theorem impl_lines (w : Nat) (g : List Str) (hh : g.length ≤ 60) (hw : ∀ l ∈ g, l.length = w) : AC Try.prog 75 [.sl 0 0 g.length] (plH w g) (fun v H' => v = .sl (plH w g).length 0 g.length ∧ H' = plH w g ++ [some ⟨true, 1, g.map rS⟩]) := by
  have hp0 := plH_0 w g
  have hpl := plH_len w g
  have hk0 : ∀ ks, keepF (plH w g).length ks 0 = 0 := fun ks => keepF_lt (by omega)
  have hkN : ∀ k, keepF (plH w g).length [k] (plH w g).length = (plH w g).length + k := fun k => by have := keepF_new (N0 := (plH w g).length) (ks := [k]) 0; simpa using this
  refine AC.enter (tbl0) (by kernel_rfl) Try.func75 rfl (by kernel_rfl) (by kernel_rfl) (by simp [Try.ntmps75]) Try.results75 ?_
  simp only [go_sem, hp0]
  refine ALoop.go (fun i => g.length - i) (fun i => i ≤ g.length) (fun i => [.un, .un, .un, .sl (plH w g).length 0 i, .un, .un, .sl 0 0 g.length, .i g.length, .i (i : Nat)]) (fun i => plH w g ++ [some ⟨true, 1, (g.take i).map rS⟩]) 0 (by omega) (fun hc => .ksN hc rfl (J := []) (by simp) rfl [1] [0] rfl (by simp) rfl ⟨Clo_nil, trivial⟩ (by simp only [go_sem, hk0, hkN, Nat.add_zero]; omega)) ?_
  intro i hi
  rcases Nat.lt_or_ge i g.length with hlt | hge
  · have hs := fun X => plH_s w g X hlt
    have hwl : g[i].length = w := hw _ (List.getElem_mem hlt)
    have hrow := plRows_get w hlt
    simp only [go_sem, hlt, decide_true, hp0, hrow]
    refine x_cv_do ?_
    have hbl := byteRows_len g[i]
    rw [hwl] at hbl
    have htk : (byteRows g[i]).take w = byteRows g[i] := List.take_of_length_le (by omega)
    simp only [go_sem, hs, hbl, htk]
    have hle : (g.take i).length = i := by simp; omega
    refine ⟨Nat.le_refl _, hle.symm, by omega, by simp only [maxLen]; omega, ?_⟩
    refine loopK.go (i + 1) (by omega) (by omega) (fun _ => .ksN (plH_closed w g) rfl rfl rfl [] [2] rfl (by simp) (by rw [List.take_succ_eq_append_getElem hlt, List.map_append]; rfl) ⟨.map bel_rS _, trivial⟩ (by simp only [go_sem, hk0, hkN, Nat.add_zero, w64s i (by omega)]; omega))
  · have h1 : ¬ i < g.length := by omega
    have : i = g.length := by omega
    subst this
    simp only [go_sem, h1]
    rw [List.take_length]
/-! ### The points -/
def unitP (p : Rt × Rt) : Bool := unitR p.1 && unitR p.2
/-- One mark. -/
def plSetL (g : List Str) (x y : Nat) (c : UInt8) : List Str := g.set (g.length - 1 - y) ((g.getD (g.length - 1 - y) []).set x c)
def ptStep (w h : Int) (g : List Str) (p : Rt × Rt) : List Str := plSetL g (cellN p.1 w).toNat (cellN p.2 h).toNat 35
def ptsRun (w h : Int) (xs : List (Rt × Rt)) : List Str := xs.foldl (ptStep w h) (List.replicate h.toNat (List.replicate w.toNat 46))
def ptsB (w h : Int) (xs : List (Rt × Rt)) : Bool := decide (xs.length ≤ 100) && (sizeI w && (sizeI h && xs.all unitP))
def ptsV (w h : Int) (xs : List (Rt × Rt)) : List Str := if ptsB w h xs then ptsRun w h xs else []
theorem impl_PlotPoints_1 (p : Rt × Rt) : ∀ H, AC Try.prog 72 [pnt p] H (fun v H' => v = .bool (!unitP p) ∧ H' = H) := by
  refine AC.pure (by simp only [go_sem]) (AC.enter (tbl0) (by kernel_rfl) Try.func72 rfl (by kernel_rfl) (by kernel_rfl) (by simp [Try.ntmps72]) Try.results72 ?_)
  simp only [go_sem]
  refine AC.call (AC.lend0 (.c (.sl0 rfl (by simp) (.map bel_rR [p.1, p.2])) .n) (impl_areUnits [p.1, p.2] []) (.bool _ _)) ?_
  simp only [go_sem]
  simp [unitP]
theorem slices_IndexFunc_Point (xs : List (Rt × Rt)) (g : Nat) (cap : List AV) (p : Rt × Rt → Bool) (H : AHeap) (hc : BelL H.length cap) (hp : ∀ x, AC Try.prog g (pnt x :: cap) H (fun v H' => v = .bool (p x) ∧ H' = H)) :
    AC Try.prog 104 [lP xs, .fn g cap] H (fun v H' => v = .i (idxF p xs) ∧ H' = H) := by
  refine AC.len 0 rfl (fun hl => ?_) ⟨_, Try.func104, rfl, by kernel_rfl⟩
  rw [List.length_map] at hl
  refine AC.enter (tbl0) (by kernel_rfl) Try.func104 rfl (by kernel_rfl) (by kernel_rfl) (by simp [Try.ntmps104]) Try.results104 ?_
  simp only [go_sem]
  refine ALoop.go (fun i => xs.length - i) (fun i => i ≤ xs.length ∧ (xs.take i).findIdx? p = none) (fun i => [lP xs, .fn g cap, .un, .un, .un, .un, .un, .i xs.length, .i (i : Nat)]) (fun _ => H) 0 ⟨Nat.zero_le _, rfl⟩ (fun _ => .same (by simp only [go_sem, rvv_self hc])) ?_
  intro i ⟨hi, hf⟩
  rcases Nat.lt_or_ge i xs.length with hlt | hge
  · simp only [go_sem, getD_map rP hlt, hlt, decide_true]
    refine AC.call (hp xs[i]) ?_
    simp only [go_sem]
    refine ⟨fun ht => by rw [idxF_at hlt hf ht], fun hn => ?_⟩
    exact loopK.go (i + 1) (by omega) ⟨by omega, take_none hlt hf hn⟩ (fun _ => .same (by simp only [go_sem, w64s i (by omega), rvv_self hc]))
  · have h1 : ¬ i < xs.length := by omega
    have : i = xs.length := by omega
    subst this
    simp only [go_sem, h1]
    rw [List.take_length] at hf
    simp [idxF, hf]
theorem slices_ContainsFunc_Point (xs : List (Rt × Rt)) (g : Nat) (cap : List AV) (p : Rt × Rt → Bool) (H : AHeap) (hc : BelL H.length cap) (hp : ∀ x, AC Try.prog g (pnt x :: cap) H (fun v H' => v = .bool (p x) ∧ H' = H)) :
    AC Try.prog 71 [lP xs, .fn g cap] H (fun v H' => v = .bool (xs.any p) ∧ H' = H) := by
  refine AC.enter (tbl0) (by kernel_rfl) Try.func71 rfl (by kernel_rfl) (by kernel_rfl) (by simp [Try.ntmps71]) Try.results71 ?_
  simp only [go_sem]
  refine AC.call (slices_IndexFunc_Point xs g cap p H hc hp) ?_
  simp only [go_sem]
  rw [idxF_any p xs]
theorem Retell.drop {N0 : Nat} {H2 G : AHeap} {e : Env} {l : List AV} (hN : N0 ≤ H2.length) (hc : Closed H2) (h5 : rvL (fun b => b) H2.length e 0 l) : Retell N0 (H2 ++ G) e H2 (envU l) := by
  refine Retell.ren (f := fun b => b) [] ?_ fun t => ?_
  · have hv : (H2 ++ G) ++ virts [] = H2 ++ G := by simp [virts]
    rw [hv]
    have hr := HRen.refl hc
    refine ⟨hN, fun _ _ => rfl, fun b hb => by rw [List.length_append]; omega, fun b c _ _ h => h, fun b A' hb => ?_⟩
    obtain ⟨A, h1, h2⟩ := hr.blk b A' hb
    exact ⟨A, by rw [List.getElem?_append_left (List.getElem?_eq_some_iff.1 h1).1]; exact h1, h2⟩
  · have := rvL_at h5 t
    rw [Nat.zero_add] at this
    exact this
theorem plH_set (w : Nat) (g : List Str) (X : AHeap) {r : Nat} (h : r < g.length) (l : Str) : (plH w g ++ X).set (1 + r) (some ⟨true, 1, byteRows l⟩) = plH w (g.set r l) ++ X := by
  rw [List.set_append_left _ _ (by rw [plH_len]; omega)]
  congr 1
  rw [Nat.add_comm]
  simp [plH, List.map_set]
theorem byteRows_set (l : Str) (x : Nat) (c : UInt8) : (byteRows l).set x [AV.int .u8 c.toNat] = byteRows (l.set x c) := by simp [byteRows, List.map_set]
theorem byteRows_get {l : Str} {x : Nat} (h : x < l.length) : (byteRows l)[x]? = some [AV.int .u8 l[x].toNat] := by simp [byteRows, h]
theorem sizeI_b {n : Int} (h : sizeI n = true) : 2 ≤ n ∧ n ≤ 60 := by simpa [sizeI] using h
theorem plSetL_len (g : List Str) (x y : Nat) (c : UInt8) : (plSetL g x y c).length = g.length := by simp [plSetL]
theorem plSetL_w {g : List Str} {w : Nat} (x y : Nat) (c : UInt8) (h : ∀ l ∈ g, l.length = w) : ∀ l ∈ plSetL g x y c, l.length = w := fun l hl => by
  rcases Nat.eq_zero_or_pos g.length with h0 | h0
  · have := List.eq_nil_of_length_eq_zero h0
    subst this; simp [plSetL] at hl
  rcases List.mem_or_eq_of_mem_set hl with h1 | h1
  · exact h l h1
  · subst h1
    have hr : g.length - 1 - y < g.length := by omega
    rw [List.length_set, List.getD_eq_getElem?_getD, List.getElem?_eq_getElem hr]
    exact h _ (List.getElem_mem _)
theorem ptsRun_len (W T : Nat) (xs : List (Rt × Rt)) : (ptsRun W T xs).length = T := by
  unfold ptsRun
  have : ∀ (xs : List (Rt × Rt)) (g : List Str), (xs.foldl (ptStep W T) g).length = g.length := by
    intro xs
    induction xs with
    | nil => intro g; rfl
    | cons p xs ih => intro g; rw [List.foldl_cons, ih, ptStep, plSetL_len]
  rw [this]; simp
theorem ptsRun_w (W T : Nat) (xs : List (Rt × Rt)) : ∀ l ∈ ptsRun W T xs, l.length = W := by
  unfold ptsRun
  have : ∀ (xs : List (Rt × Rt)) (g : List Str), (∀ l ∈ g, l.length = W) → ∀ l ∈ xs.foldl (ptStep W T) g, l.length = W := by
    intro xs
    induction xs with
    | nil => intro g hg; exact hg
    | cons p xs ih =>
      intro g hg
      rw [List.foldl_cons]
      refine ih _ ?_
      intro l hl
      exact plSetL_w _ _ _ hg l hl
  refine this _ _ fun l hl => ?_
  rw [(List.mem_replicate.1 hl).2]; simp
theorem ptsRun_take {w h : Int} {xs : List (Rt × Rt)} {i : Nat} (hi : i < xs.length) : ptsRun w h (xs.take (i + 1)) = ptStep w h (ptsRun w h (xs.take i)) xs[i] := by
  rw [List.take_succ_eq_append_getElem hi, ptsRun, ptsRun, List.foldl_append]; rfl
theorem impl_PlotPoints (xs : List (Rt × Rt)) (w h : Int) : AC Try.prog 35 [lP xs, .i w, .i h] [] (fun v H' => v = .tup [.sl 0 0 (ptsV w h xs).length, .bool (ptsB w h xs)] ∧ H' = [some ⟨true, 1, (ptsV w h xs).map rS⟩]) := by
  refine AC.own (.map bel_rS _) (AC.enter (fun | 7 => some ([0,1,2,3,5,6,7,4,8,9,10,11], []) | _ => none) (by kernel_rfl) Try.func35 rfl (by kernel_rfl) (by kernel_rfl) (by simp [Try.ntmps35]) Try.results35 ?_)
  have no : ∀ H, ptsB w h xs = false → Own1 1 ((ptsV w h xs).map rS) (.tup [.sl 0 0 (ptsV w h xs).length, .bool (ptsB w h xs)]) (.tup [.nil, .bool false]) H := fun H h => by
    simp only [ptsV, h]; exact ⟨_, .inr ⟨rfl, rfl⟩, by simp only [go_sem]⟩
  simp only [go_sem]
  refine ⟨fun hx => ?_, fun hx => no _ (by simp only [ptsB]; simp; omega)⟩
  refine AC.call (impl_isSize w _) ?_
  simp only [go_sem]
  refine ⟨fun h1 => ?_, fun h1 => no _ (by simp only [ptsB, h1]; simp)⟩
  refine AC.call (impl_isSize h _) ?_
  simp only [go_sem]
  refine ⟨fun h2 => ?_, fun h2 => no _ (by simp only [ptsB, h2]; simp)⟩
  refine AC.call (slices_ContainsFunc_Point xs _ [] (fun p => !unitP p) [] .nil fun x => impl_PlotPoints_1 x []) ?_
  simp only [go_sem]
  refine ⟨fun h3 => no _ ?_, fun h3 => ?_⟩
  · have : xs.all unitP = false := by
      obtain ⟨p, hp, hq⟩ := List.any_eq_true.1 h3
      exact List.all_eq_false.2 ⟨p, hp, by simpa using hq⟩
    simp only [ptsB, this]; simp
  have hall : xs.all unitP = true := by
    rw [List.all_eq_true]
    intro p hp
    have := List.any_eq_false.1 h3 p hp
    simpa using this
  have hB : ptsB w h xs = true := by simp only [ptsB, h1, h2, hall]; simp; omega
  have hV : ptsV w h xs = ptsRun w h xs := by rw [ptsV, if_pos hB]
  rw [hB, hV]
  have b1 := sizeI_b h1
  have b2 := sizeI_b h2
  clear no hB hV h1 h2 h3
  obtain ⟨W, rfl⟩ : ∃ W : Nat, w = W := ⟨w.toNat, by omega⟩
  obtain ⟨T, rfl⟩ : ∃ T : Nat, h = T := ⟨h.toNat, by omega⟩
  refine AC.call (impl_newPlot W T (by omega) (by omega) (by omega) (by omega)) ?_
  simp only [go_sem]
  refine ALoop.go (fun i => xs.length - i) (fun i => i ≤ xs.length) (fun i => [.un, .i W, .i T, .un, .un, .un, .un, .un, .sl 0 0 T, .un, .un, .un, .un, .un, .un, .un, .un, .un, .un, .un, .un, .un, .un, .un, .un, .un, .un, .un, .un, .un, .un, lP xs, .i xs.length, .i (i : Nat)]) (fun i => plH W (ptsRun W T (xs.take i))) 0 (Nat.zero_le _) (fun _ => .same (by simp only [go_sem, plH_len]; omega)) ?_
  intro i hi
  have hgl := ptsRun_len W T (xs.take i)
  have hgw := ptsRun_w W T (xs.take i)
  rcases Nat.lt_or_ge i xs.length with hlt | hge
  · simp only [go_sem, getD_map rP hlt, hlt, decide_true]
    have hu : unitP xs[i] = true := List.all_eq_true.1 hall xs[i] (List.getElem_mem _)
    simp only [unitP, Bool.and_eq_true] at hu
    have hc1 := cellN_b hu.1 (show (1 : Int) ≤ W by omega)
    have hc2 := cellN_b hu.2 (show (1 : Int) ≤ T by omega)
    refine AC.call (impl_cell _ _ hu.1 (by omega) (by omega) _) ?_
    simp only [go_sem, rowsSame_refl]
    refine AC.call (impl_cell _ _ hu.2 (by omega) (by omega) _) ?_
    simp only [go_sem, rowsSame_refl]
    obtain ⟨x, hx1⟩ : ∃ x : Nat, cellN xs[i].1 W = x := ⟨(cellN xs[i].1 W).toNat, by omega⟩
    obtain ⟨y, hy1⟩ : ∃ y : Nat, cellN xs[i].2 T = y := ⟨(cellN xs[i].2 T).toNat, by omega⟩
    rw [hx1] at hc1
    rw [hy1] at hc2
    rw [hx1, hy1]
    have hr : T - 1 - y < (ptsRun W T (xs.take i)).length := by omega
    have hs := fun X => plH_s W (ptsRun W T (xs.take i)) X hr
    have hxl : x < (ptsRun W T (xs.take i))[T - 1 - y].length := by rw [hgw _ (List.getElem_mem _)]; omega
    have hrx := byteRows_get hxl
    have hst : (ptsRun W T (xs.take i)).set (T - 1 - y) ((ptsRun W T (xs.take i))[T - 1 - y].set x 35) = ptsRun W T (xs.take (i + 1)) := by
      rw [ptsRun_take hlt, ptStep, plSetL, hx1, hy1, hgl, List.getD_eq_getElem?_getD, Int.toNat_natCast, Int.toNat_natCast, List.getElem?_eq_getElem hr]
      rfl
    have hset : ∀ X, (plH W (ptsRun W T (xs.take i)) ++ X).set (1 + (T - 1 - y)) (some ⟨true, 1, (byteRows (ptsRun W T (xs.take i))[T - 1 - y]).set x [AV.int .u8 35]⟩) = plH W (ptsRun W T (xs.take (i + 1))) ++ X := fun X => by
      have := byteRows_set (ptsRun W T (xs.take i))[T - 1 - y] x 35
      rw [← hst, ← plH_set W _ X hr, ← this]
      rfl
    have hgl' := ptsRun_len W T (xs.take (i + 1))
    have hnew : ∀ A : Option Blk, hget (plH W (ptsRun W T (xs.take (i + 1))) ++ [A]) (plH W (ptsRun W T (xs.take i))).length = A := fun A => by
      rw [show (plH W (ptsRun W T (xs.take i))).length = (plH W (ptsRun W T (xs.take (i + 1)))).length by rw [plH_len, plH_len, hgl, hgl'], hget_new0]; rfl
    refine AC.call (impl_at W T x y (ptsRun W T (xs.take i)) _ hgl (by omega) (by omega) (by omega)) ?_
    simp only [go_sem, rowsSame_refl, hs, hrx, hset, hnew, Option.bind_some]
    exact loopK.go (i + 1) (by omega) (by omega) (fun _ => .drop (Nat.zero_le _) (plH_closed _ _) (by simp only [go_sem, w64s i (by omega), plH_len]; omega))
  · have h3 : ¬ i < xs.length := by omega
    have : i = xs.length := by omega
    subst this
    rw [List.take_length] at hgl hgw
    simp only [go_sem, h3]
    rw [List.take_length]
    have hl := impl_lines W (ptsRun W T xs) (by omega) hgw
    rw [hgl] at hl
    have hg0 : hget (plH W (ptsRun W T xs) ++ [some ⟨true, 1, (ptsRun W T xs).map rS⟩]) (plH W (ptsRun W T xs)).length = some ⟨true, 1, (ptsRun W T xs).map rS⟩ := hget_end _ _
    refine AC.call (hl) ?_
    simp only [go_sem]
    exact ⟨(plH W (ptsRun W T xs)).length, .inl hg0, by simp only [go_sem, hgl]⟩
end Go.Ab
set_option linter.unusedVariables false
set_option linter.unusedSimpArgs false
namespace Go.Ab
open Go.Proofs Go.Proofs.Ytmgggjaphphkhaa
theorem rep1 (n : Nat) (c : UInt8) : List.replicate n c ++ [c] = List.replicate (n + 1) c := by rw [← List.replicate_append_replicate]; rfl
theorem spec_plEmpty (w h : Nat) (hw : w ≤ 60) (hh : h ≤ 60) : AC Try.prog 67 [.i w, .i h] [] (fun v H' => v = .sl 0 0 h ∧ H' = [some ⟨true, 1, (List.replicate h (List.replicate w (46 : UInt8))).map rS⟩]) := by
  refine AC.own (.map bel_rS _) (AC.enter (tbl0) (by kernel_rfl) Try.func67 rfl (by kernel_rfl) (by kernel_rfl) (by simp [Try.ntmps67]) Try.results67 ?_)
  simp only [go_sem]
  refine ALoop.go (fun i => w - i) (fun i => i ≤ w) (fun i => [.i w, .i h, .un, .un, .un, .nil, .str (List.replicate i 46)]) (fun i => []) 0 (Nat.zero_le _) (fun _ => .same (by simp only [go_sem, List.replicate_zero])) ?_
  intro i hi
  rcases Nat.lt_or_ge i w with hlt | hge
  · simp only [go_sem, List.length_replicate, hlt, decide_true]
    refine ⟨by omega, loopK.go (i + 1) (by omega) (by omega) (fun _ => .same (by simp only [go_sem, rep1]))⟩
  · have h1 : ¬ i < w := by omega
    have : i = w := by omega
    subst this
    simp only [go_sem, List.length_replicate, h1]
    refine ALoop.go (fun k => h - k) (fun k => k ≤ h) (fun k => [.un, .i h, .un, .un, .un, .sl 0 0 k, .str (List.replicate i 46)]) (fun k => [some ⟨true, 1, (List.replicate k (List.replicate i (46 : UInt8))).map rS⟩]) 0 (Nat.zero_le _) (fun _ => .ks [1] [0] rfl (by simp) rfl ⟨Clo_nil, trivial⟩ (by simp only [go_sem])) ?_
    intro k hk
    rcases Nat.lt_or_ge k h with hlt | hge
    · simp only [go_sem, List.length_replicate, hlt, decide_true]
      refine ⟨by omega, by simp only [maxLen]; omega, ?_⟩
      exact loopK.go (k + 1) (by omega) (by omega) (fun _ => .ks [] [2] rfl (by simp) (by simp only [pickH]; rw [emptyL, List.map_append]; rfl) ⟨.map bel_rS _, trivial⟩ (by simp only [go_sem, w64s k (by omega)]))
    · have h1 : ¬ k < h := by omega
      have : k = h := by omega
      subst this
      simp only [go_sem, List.length_replicate, h1]
      exact ⟨0, .inl rfl, by simp only [go_sem]⟩
/-- Bytes put into a line. -/
def plPut (l : Str) (x : Nat) (s : Str) : Str := l.take x ++ s ++ l.drop (x + 1)
theorem spec_plSet (g : List Str) (x y : Nat) (s : Str) (hl : g.length ≤ 60) (hy : y < g.length) (hw : ∀ l ∈ g, x < l.length ∧ l.length ≤ 60) (hs : s.length ≤ 60) : AC Try.prog 68 [lS g, .i x, .i y, .str s] [] (fun v H' => v = .sl 0 0 g.length ∧ H' = [some ⟨true, 1, (g.set (g.length - 1 - y) (plPut (g.getD (g.length - 1 - y) []) x s)).map rS⟩]) := by
  refine AC.own (.map bel_rS _) (AC.enter (tbl0) (by kernel_rfl) Try.func68 rfl (by kernel_rfl) (by kernel_rfl) (by simp [Try.ntmps68]) Try.results68 ?_)
  have hr : g.length - 1 - y < g.length := by omega
  have w1 : IntKind.i64.wrap ((g.length : Int) - 1) = ((g.length - 1 : Nat) : Int) := by rw [w64 _ (by omega) (by omega)]; omega
  have w2 : IntKind.i64.wrap (((g.length - 1 : Nat) : Int) - y) = ((g.length - 1 - y : Nat) : Int) := by rw [w64 _ (by omega) (by omega)]; omega
  have hrow : (g.map rS)[g.length - 1 - y]? = some [.str g[g.length - 1 - y]] := by simp [hr, rS]
  have hwg := hw _ (List.getElem_mem hr)
  simp only [go_sem, w1, w2, hrow]
  refine ⟨by omega, by simp only [maxLen]; omega, by omega, ?_⟩
  simp only [go_sem, w1, w2, hrow, w64s x (by omega)]
  have l1 := List.length_take (l := g[g.length - 1 - y]) (i := x)
  have l2 := List.length_drop (l := g[g.length - 1 - y]) (i := x + 1)
  have l3 : (g[g.length - 1 - y].take x ++ s).length = _ := List.length_append
  refine ⟨by omega, by omega, by omega, by omega, hr, 1, .inl ?_, by simp only [go_sem]⟩
  rw [List.getD_eq_getElem?_getD, List.getElem?_eq_getElem hr]
  simp [hget, plPut, List.map_set, rS]
def plSetS (g : List Str) (x y : Nat) (s : Str) : List Str := g.set (g.length - 1 - y) (plPut (g.getD (g.length - 1 - y) []) x s)
theorem plSetS_eq {g : List Str} {x y : Nat} (c : UInt8) (hy : y < g.length) (hw : ∀ l ∈ g, x < l.length) : plSetS g x y [c] = plSetL g x y c := by
  have hr : g.length - 1 - y < g.length := by omega
  have hx := hw _ (List.getElem_mem hr)
  rw [plSetS, plSetL, List.getD_eq_getElem?_getD, List.getElem?_eq_getElem hr]
  congr 1
  show plPut g[g.length - 1 - y] x [c] = g[g.length - 1 - y].set x c
  rw [List.set_eq_take_append_cons_drop, if_pos hx, plPut, List.append_assoc]; rfl
theorem spec_PlotPoints (xs : List (Rt × Rt)) (w h : Int) : AC Try.prog 33 [lP xs, .i w, .i h] [] (fun v H' => v = .tup [.sl 0 0 (ptsV w h xs).length, .bool (ptsB w h xs)] ∧ H' = [some ⟨true, 1, (ptsV w h xs).map rS⟩]) := by
  refine AC.own (.map bel_rS _) (AC.enter (fun | 9 => some ([0,1,2,3,5,6,7,4,8,9,10], []) | _ => none) (by kernel_rfl) Try.func33 rfl (by kernel_rfl) (by kernel_rfl) (by simp [Try.ntmps33]) Try.results33 ?_)
  have no : ∀ H, ptsB w h xs = false → Own1 1 ((ptsV w h xs).map rS) (.tup [.sl 0 0 (ptsV w h xs).length, .bool (ptsB w h xs)]) (.tup [.nil, .bool false]) H := fun H h => by
    simp only [ptsV, h]; exact ⟨_, .inr ⟨rfl, rfl⟩, by simp only [go_sem]⟩
  simp only [go_sem]
  refine ⟨fun hx => ?_, fun hx => no _ (by simp only [ptsB]; simp; omega)⟩
  refine AC.call (spec_plSize w _) ?_
  simp only [go_sem]
  refine ⟨fun h1 => ?_, fun h1 => no _ (by simp only [ptsB, h1]; simp)⟩
  refine AC.call (spec_plSize h _) ?_
  simp only [go_sem]
  refine ⟨fun h2 => no _ (by simp only [ptsB, h2]; simp), fun h2 => ?_⟩
  have b1 := sizeI_b h1
  have b2 := sizeI_b h2
  obtain ⟨W, rfl⟩ : ∃ W : Nat, w = W := ⟨w.toNat, by omega⟩
  obtain ⟨T, rfl⟩ : ∃ T : Nat, h = T := ⟨h.toNat, by omega⟩
  refine AC.call (spec_plEmpty W T (by omega) (by omega)) ?_
  simp only [go_sem]
  refine ALoop.go (fun i => xs.length - i) (fun i => i ≤ xs.length ∧ (xs.take i).all unitP = true) (fun i => [.un, .i W, .i T, .un, .un, .un, .un, .un, .sl 0 0 T, .un, .un, .un, .un, .un, .un, .un, .un, .un, .un, .un, .un, .un, .un, .un, .un, .un, .un, lP xs, .i xs.length, .i (i : Nat)]) (fun i => [some ⟨true, 1, (ptsRun W T (xs.take i)).map rS⟩]) 0 ⟨Nat.zero_le _, rfl⟩ (fun _ => .same (by simp only [go_sem])) ?_
  intro i ⟨hi, hall⟩
  have hgl := ptsRun_len W T (xs.take i)
  have hgw := ptsRun_w W T (xs.take i)
  rcases Nat.lt_or_ge i xs.length with hlt | hge
  · simp only [go_sem, getD_map rP hlt, hlt, decide_true]
    refine AC.call (spec_raUnit xs[i].1 _) ?_
    simp only [go_sem]
    have bad : unitP xs[i] = false → ptsB W T xs = false := fun hu => by
      have hf : xs.all unitP = false := List.all_eq_false.2 ⟨xs[i], List.getElem_mem _, by simp [hu]⟩
      simp only [ptsB, hf]; simp
    refine ⟨fun hu1 => ?_, fun hu1 => no _ (bad (by simp [unitP, hu1]))⟩
    refine AC.call (spec_raUnit xs[i].2 _) ?_
    simp only [go_sem]
    refine ⟨fun hu2 => no _ (bad (by simp [unitP, hu2])), fun hu2 => ?_⟩
    have hc1 := cellN_b hu1 (show (1 : Int) ≤ W by omega)
    have hc2 := cellN_b hu2 (show (1 : Int) ≤ T by omega)
    refine AC.call (spec_plCell _ _ hu1 (by omega) (by omega) _) ?_
    simp only [go_sem, rowsSame_refl]
    refine AC.call (spec_plCell _ _ hu2 (by omega) (by omega) _) ?_
    simp only [go_sem, rowsSame_refl]
    obtain ⟨x, hx1⟩ : ∃ x : Nat, cellN xs[i].1 W = x := ⟨(cellN xs[i].1 W).toNat, by omega⟩
    obtain ⟨y, hy1⟩ : ∃ y : Nat, cellN xs[i].2 T = y := ⟨(cellN xs[i].2 T).toNat, by omega⟩
    rw [hx1] at hc1
    rw [hy1] at hc2
    rw [hx1, hy1]
    have hst : plSetS (ptsRun W T (xs.take i)) x y [35] = ptsRun W T (xs.take (i + 1)) := by
      rw [ptsRun_take hlt, ptStep, hx1, hy1, Int.toNat_natCast, Int.toNat_natCast]
      exact plSetS_eq 35 (by omega) fun l hl => by have := hgw l hl; omega
    have hs := spec_plSet (ptsRun W T (xs.take i)) x y [35] (by omega) (by omega) (fun l hl => by have := hgw l hl; omega) (by simp)
    rw [← plSetS, hst, hgl] at hs
    refine AC.call (AC.lend (.c (.sl0 rfl (by simp; omega) (.map bel_rS _)) (.c .int (.c .int (.c .str .n)))) hs (.sl _ _ _ _) (.raw (.map raw_rS _))) ?_
    simp only [go_sem]
    exact loopK.go (i + 1) (by omega) ⟨by omega, by rw [List.take_succ_eq_append_getElem hlt, List.all_append, hall]; simp [unitP, hu1, hu2]⟩ (fun _ => .ks [] [2] rfl (by simp) rfl ⟨.map bel_rS _, trivial⟩ (by simp only [go_sem, w64s i (by omega)]))
  · have h3 : ¬ i < xs.length := by omega
    have : i = xs.length := by omega
    subst this
    rw [List.take_length] at hgl hgw hall
    have hB : ptsB W T xs = true := by simp only [ptsB, h1, h2, hall]; simp; omega
    have hV : ptsV W T xs = ptsRun W T xs := by rw [ptsV, if_pos hB]
    rw [hB, hV]
    simp only [go_sem, h3]
    exact ⟨0, .inl (by rw [List.take_length]; rfl), by simp only [go_sem, hgl]⟩
/-! ### The law's helpers -/
def digT (n : Nat) (acc : Str) : Str := if h : n = 0 then acc else digT (n / 10) (UInt8.ofNat (48 + n % 10) :: acc)
termination_by n
decreasing_by omega
theorem digT_0 (acc : Str) : digT 0 acc = acc := by unfold digT; simp
theorem digT_s {n : Nat} (h : n ≠ 0) (acc : Str) : digT n acc = digT (n / 10) (UInt8.ofNat (48 + n % 10) :: acc) := by rw [digT, dif_neg h]
def markT (k : Nat) : Str := if k = 0 then [109, 48] else 109 :: digT k []
theorem digT_len (n : Nat) (acc : Str) : (digT n acc).length ≤ n + acc.length := by
  induction n using Nat.strongRecOn generalizing acc with
  | ind n ih =>
    rcases Nat.eq_zero_or_pos n with h | h
    · subst h; rw [digT_0]; omega
    · rw [digT_s (by omega)]
      have := ih (n / 10) (by omega) (UInt8.ofNat (48 + n % 10) :: acc)
      rw [List.length_cons] at this
      omega
theorem rowBytes1 {x : Nat} (h : x < 256) : rowBytes [[AV.int .u8 x]] = some [UInt8.ofNat x] := by
  have := rowBytes_byteRows [UInt8.ofNat x]
  have e : (UInt8.ofNat x).toNat = x := by simp; omega
  simpa [byteRows, e] using this
set_option maxRecDepth 100000 in
theorem laws_markText (k : Nat) (hk : k ≤ 9999999) : ∀ H, AC Try.prog 77 [.i k] H (fun v H' => v = .str (markT k) ∧ H' = H) := by
  refine AC.pure (by simp only [go_sem]) (AC.enter (tbl0) (by kernel_rfl) Try.func77 rfl (by kernel_rfl) (by kernel_rfl) (by simp [Try.ntmps77]) Try.results77 ?_)
  simp only [go_sem]
  refine ⟨fun h => ?_, fun h => ?_⟩
  · have : k = 0 := by omega
    subst this
    rfl
  have hk0 : k ≠ 0 := by omega
  refine ALoop.go (fun s : Nat × Str => s.1) (fun s => s.1 + s.2.length ≤ k ∧ digT s.1 s.2 = digT k []) (fun s => [.i s.1, .un, .un, .str s.2]) (fun _ => []) (k, []) ⟨by simp, rfl⟩ (fun _ => .same (by simp only [go_sem])) ?_
  rintro ⟨n, acc⟩ ⟨hn, hd⟩
  simp only at hn hd ⊢
  rcases Nat.eq_zero_or_pos n with h0 | h0
  · subst h0
    rw [digT_0] at hd
    subst hd
    have hl := digT_len k []
    simp only [go_sem, Int.lt_irrefl]
    exact ⟨by rw [List.length_nil] at hl; omega, by rw [markT, if_neg hk0]⟩
  · have hp : (0 : Int) < n := by omega
    have e1 : (n : Int).tmod 10 = ((n % 10 : Nat) : Int) := by rw [Int.tmod_eq_emod_of_nonneg (by omega)]; omega
    have e2 : (n : Int).tdiv 10 = ((n / 10 : Nat) : Int) := by rw [Int.tdiv_eq_ediv_of_nonneg (by omega)]; omega
    have e3 : IntKind.i64.wrap (48 + ((n % 10 : Nat) : Int)) = ((48 + n % 10 : Nat) : Int) := by rw [w64 _ (by omega) (by omega)]; omega
    have e4 : IntKind.u8.wrap ((48 + n % 10 : Nat) : Int) = ((48 + n % 10 : Nat) : Int) := by simp [IntKind.wrap, IntKind.bits, IntKind.signed]; omega
    have e5 := rowBytes1 (x := 48 + n % 10) (by omega)
    have e6 : IntKind.i64.wrap ((n / 10 : Nat) : Int) = ((n / 10 : Nat) : Int) := w64 _ (by omega) (by omega)
    simp only [go_sem, hp, decide_true, e1, e2, e3]
    refine ⟨by omega, ?_⟩
    simp only [go_sem, e1, e2, e3]
    refine x_cv_do ?_
    simp only [go_sem, e3, e4]
    refine x_cv_do ?_
    simp only [go_sem, e5]
    have hl : (UInt8.ofNat (48 + n % 10) :: acc).length = acc.length + 1 := List.length_cons
    refine ⟨by omega, by omega, loopK.go (n / 10, UInt8.ofNat (48 + n % 10) :: acc) (by show n / 10 < n; omega) ⟨by show n / 10 + (UInt8.ofNat (48 + n % 10) :: acc).length ≤ k; omega, by rw [← hd]; exact (digT_s (by omega) acc).symm⟩ (fun _ => .ks [] [] rfl (by simp) rfl trivial (by simp only [go_sem, e1, e2, e6]))⟩
def mkS (k i : Nat) : Str := markT (k + 1 * i)
theorem laws_markStringS (xs : List Str) (k : Nat) (hx : xs.length ≤ 1048576) (hk : k ≤ 1048576) (b : Nat) (H : AHeap) (hb : hget H b = some ⟨true, 1, xs.map rS⟩) :
    AC Try.prog 39 [.sl b 0 xs.length, .i k] H (fun v H' => v = .i (k + 1 * xs.length : Nat) ∧ H' = H.set b (some ⟨true, 1, (marks (mkS k) xs.length).map rS⟩)) := by
  have hbl := hget_lt hb
  have hw := fun (j : Nat) (hj : j ≤ 9999999) => w64s j (by omega)
  refine AC.enter (tbl0) (by kernel_rfl) Try.func39 rfl (by kernel_rfl) (by kernel_rfl) (by simp [Try.ntmps39]) Try.results39 ?_
  simp only [go_sem]
  refine ALoop.go (fun i => xs.length - i) (fun i => i ≤ xs.length) (fun i => [.sl b 0 xs.length, .i (k + 1 * i : Nat), .un, .un, .un, .i (i : Nat)]) (fun i => H.set b (some ⟨true, 1, (marks (mkS k) i).map rS ++ (xs.drop i).map rS⟩)) 0 (Nat.zero_le _) (fun _ => ?_) ?_
  · simp only [mk_0, set_self hb]
    refine .same ?_
    simp only [go_sem, Nat.mul_zero, hbl]
  intro i hi
  rcases Nat.lt_or_ge i xs.length with hlt | hge
  · have hg := mk_get rS (mkS k) xs hlt
    rw [rS_eq] at hg
    have hs := mk_set rS (mkS k) xs hlt [.str (markT (k + 1 * i))] rfl
    have hgs := fun X => hget_set hb (some X)
    have hml := mk_len rS (mkS k) xs hi
    simp only [go_sem, hlt, decide_true]
    refine AC.call (laws_markText (k + 1 * i) (by omega) _) ?_
    simp only [go_sem, hgs, hg, hs, hml]
    refine ⟨hlt, ?_⟩
    refine loopK.go (i + 1) (by omega) (by omega) (fun _ => .same ?_)
    simp only [go_sem, List.length_set, hbl, w64s i (by omega), w64s (k + 1 * i) (by omega)]
    omega
  · have h1 : ¬ i < xs.length := by omega
    have : i = xs.length := by omega
    subst this
    simp only [go_sem, h1, mk_end]
theorem laws_heldStringS (n k : Nat) (hx : n ≤ 1048576) (hk : k ≤ 1048576) : ∀ H, AC Try.prog 40 [lS (marks (mkS k) n), .i k] H (fun v H' => v = .i (k + 1 * n : Nat) ∧ H' = H) := by
  have hw := fun (j : Nat) (hj : j ≤ 9999999) => w64s j (by omega)
  have hn := marks_len (mkS k) n
  refine AC.pure (by simp only [go_sem]) (AC.enter (tbl0) (by kernel_rfl) Try.func40 rfl (by kernel_rfl) (by kernel_rfl) (by simp [Try.ntmps40]) Try.results40 ?_)
  simp only [go_sem]
  refine ALoop.go (fun i => n - i) (fun i => i ≤ n) (fun i => [lS (marks (mkS k) n), .i (k + 1 * i : Nat), .un, .un, .un, .i (i : Nat)]) (fun i => []) 0 (Nat.zero_le _) (fun _ => .same (by simp only [go_sem, Nat.mul_zero])) ?_
  intro i hi
  rcases Nat.lt_or_ge i n with hlt | hge
  · have hlt2 : i < (marks (mkS k) n).length := by rw [hn]; exact hlt
    have hm : (marks (mkS k) n)[i] = markT (k + 1 * i) := marks_get (mkS k) hlt2
    simp only [go_sem, getD_map rS hlt2, hm, hn, hlt, decide_true]
    refine AC.call (laws_markText (k + 1 * i) (by omega) _) ?_
    simp only [go_sem, bne_self_eq_false, decide_true]
    refine loopK.go (i + 1) (by omega) (by omega) (fun _ => .same ?_)
    simp only [go_sem, w64s i (by omega), w64s (k + 1 * i) (by omega)]
    omega
  · have h1 : ¬ i < n := by omega
    have : i = n := by omega
    subst this
    simp only [go_sem, hn, h1]
end Go.Ab
set_option linter.unusedVariables false
set_option linter.unusedSimpArgs false
namespace Go.Ab
open Go.Proofs
theorem ptsV_len (w h : Int) (xs : List (Rt × Rt)) : (ptsV w h xs).length ≤ 60 := by
  unfold ptsV
  split
  · rename_i hb
    simp only [ptsB, Bool.and_eq_true] at hb
    have b1 := sizeI_b hb.2.1
    have b2 := sizeI_b hb.2.2.1
    have := ptsRun_len w.toNat h.toNat xs
    rw [show ((w.toNat : Nat) : Int) = w by omega, show ((h.toNat : Nat) : Int) = h by omega] at this
    omega
  · simp
theorem law_PlotPoints (xs : List (Rt × Rt)) (w h : Int) : ∀ H, AC Try.prog 8 [lP xs, .i w, .i h] H (fun v H' => v = .bool true ∧ H' = H) := by
  refine AC.pure (by simp only [go_sem]) (AC.enter (tbl0) (by kernel_rfl) Try.func8 rfl (by kernel_rfl) (by kernel_rfl) (by simp [Try.ntmps8]) Try.results8 ?_)
  simp only [go_sem]
  refine AC.call (laws_szPointS xs 1048576 (by omega) (by omega) _) ?_
  simp only [go_sem]
  refine ⟨fun hz => trivial, fun hz => ?_⟩
  have hx : xs.length ≤ 1048576 := by
    rcases Nat.lt_or_ge 1048576 xs.length with h1 | h1
    · rw [if_pos (by omega)] at hz; omega
    · exact h1
  have hV := ptsV_len w h xs
  refine AC.call (laws_toPointS xs hx) ?_
  simp only [go_sem]
  refine AC.call (AC.lend (.c (.sl0 rfl (by simp) (.map bel_rP _)) (.c .int (.c .int .n))) (spec_PlotPoints xs w h) (.tupl (.c (.sl _ _ _ _) (.c (.bool _ _) .n))) (.raw (.map raw_rS _))) ?_
  simp only [go_sem]
  refine AC.call (AC.lend (.c .lst .n) (laws_toPointS xs hx) (.sl _ _ _ _) (.raw (.map raw_rP _))) ?_
  simp only [go_sem]
  refine AC.call (AC.lend (.c (.sl0 rfl (by simp) (.map bel_rP _)) (.c .int (.c .int .n))) (impl_PlotPoints xs w h) (.tupl (.c (.sl _ _ _ _) (.c (.bool _ _) .n))) (.raw (.map raw_rS _))) ?_
  simp only [go_sem]
  refine AC.call (AC.lend0 (.c (.sl0 rfl (by simp) (.map bel_rS _)) (.c (.sl0 rfl (by simp) (.map bel_rS _)) .n)) (laws_eqStringS (ptsV w h xs) []) (.bool _ _)) ?_
  simp only [go_sem, beq_self_eq_true]
  refine AC.call (AC.lend (.c .lst .n) (laws_toPointS xs hx) (.sl _ _ _ _) (.raw (.map raw_rP _))) ?_
  simp only [go_sem]
  refine AC.call (AC.lend0 (.c (.sl0 rfl (by simp) (.map bel_rP _)) (.c (.sl0 rfl (by simp) (.map bel_rP _)) .n)) (laws_eqPointS xs []) (.bool _ _)) ?_
  simp only [go_sem]
  refine AC.call (laws_markPointS xs 1 hx (by omega) _ _ rfl) ?_
  simp only [go_sem]
  refine AC.call (AC.lend0 (.c (.sl0 rfl (by simp) (.map bel_rS _)) (.c (.sl0 rfl (by simp) (.map bel_rS _)) .n)) (laws_eqStringS (ptsV w h xs) []) (.bool _ _)) ?_
  simp only [go_sem, beq_self_eq_true]
  refine AC.call (laws_markStringS (ptsV w h xs) 1 (by omega) (by omega) _ _ rfl) ?_
  simp only [go_sem]
  refine AC.call (AC.lend0 (.c (.sl0 rfl (by simp [marks]) (.map bel_rS _)) (.c .int .n)) (laws_heldStringS (ptsV w h xs).length 1 (by omega) (by omega) []) (.int _ _ _)) ?_
  simp only [go_sem, decide_true]
  refine AC.call (AC.lend (.c .lst .n) (laws_toPointS xs hx) (.sl _ _ _ _) (.raw (.map raw_rP _))) ?_
  simp only [go_sem]
  refine AC.call (AC.lend (.c (.sl0 rfl (by simp) (.map bel_rP _)) (.c .int (.c .int .n))) (impl_PlotPoints xs w h) (.tupl (.c (.sl _ _ _ _) (.c (.bool _ _) .n))) (.raw (.map raw_rS _))) ?_
  simp only [go_sem]
  refine AC.call (AC.lend0 (.c (.sl0 rfl (by simp) (.map bel_rS _)) (.c (.sl0 rfl (by simp) (.map bel_rS _)) .n)) (laws_eqStringS (ptsV w h xs) []) (.bool _ _)) ?_
  simp only [go_sem, beq_self_eq_true]
  refine AC.call (AC.lend0 (.c (.sl0 rfl (by simp [marks]) (.map bel_rS _)) (.c .int .n)) (laws_heldStringS (ptsV w h xs).length 1 (by omega) (by omega) []) (.int _ _ _)) ?_
  simp only [go_sem, decide_true]
end Go.Ab
