import Derived.Test.YtmgggjaphphkhaaAbC
import Derived.Test.YtmgggjaphphkhaaTy
import Derived.Shelf.Strings.Builder1
import Derived.Shelf.Strings.Builder2
import Derived.Shelf.Utf8.RuneCount
import Derived.Shelf.Strings.Search1
import Derived.Shelf.Strings.Search2
import Derived.Shelf.Strings.Search3
import Derived.Shelf.Strings.Count
import Derived.Shelf.LaysM
import Derived.Shelf.Strings.Shaped
import Derived.Shelf.Strings.Split
import Derived.Shelf.Strings.RuneCount
import Derived.Shelf.Bits.Mul64
import Derived.Test.YtmgggjaphphkhaaProg
import Derived.Lib.Bytealg
set_option linter.unusedVariables false
set_option linter.unusedSimpArgs false
namespace Go.Ab
open Go.Proofs
theorem avi {a b : Int} (h : a = b) : AV.i a = AV.i b := congrArg AV.i h
theorem impl_within (n lo hi : Int) : ∀ H, AC Try.prog 52 [.i n, .i lo, .i hi] H (fun v H' => v = .bool (decide (lo ≤ n) && decide (n ≤ hi)) ∧ H' = H) := by
  refine AC.pure (by simp only [go_sem]) (AC.enter (tbl0) (by kernel_rfl) Try.func52 rfl (by kernel_rfl) (by kernel_rfl) (by simp [Try.ntmps52]) Try.results52 ?_)
  simp only [go_sem]
  refine ⟨fun h => ?_, fun h => ?_⟩ <;> simp [h]
theorem spec_l1In (n lo hi : Int) : ∀ H, AC Try.prog 49 [.i n, .i lo, .i hi] H (fun v H' => v = .bool (decide (lo ≤ n) && decide (n ≤ hi)) ∧ H' = H) := by
  refine AC.pure (by simp only [go_sem]) (AC.enter (tbl0) (by kernel_rfl) Try.func49 rfl (by kernel_rfl) (by kernel_rfl) (by simp [Try.ntmps49]) Try.results49 ?_)
  simp only [go_sem]
  refine ⟨fun h => ?_, fun h => ?_⟩ <;> simp [h]
theorem impl_abs (n : Int) (hn : -9223372036854775808 < n) (hn' : n < 9223372036854775808) : ∀ H, AC Try.prog 123 [.i n] H (fun v H' => v = .i n.natAbs ∧ H' = H) := by
  refine AC.pure (by simp only [go_sem]) (AC.enter (tbl0) (by kernel_rfl) Try.func123 rfl (by kernel_rfl) (by kernel_rfl) (by simp [Try.ntmps123]) Try.results123 ?_)
  simp only [go_sem]
  refine ⟨fun h => ?_, fun h => ?_⟩
  · rw [w64 _ (by omega) (by omega)]; omega
  · omega
theorem spec_l1Most (a b : Int) : ∀ H, AC Try.prog 122 [.i a, .i b] H (fun v H' => v = .i (max a b) ∧ H' = H) := by
  refine AC.pure (by simp only [go_sem]) (AC.enter (tbl0) (by kernel_rfl) Try.func122 rfl (by kernel_rfl) (by kernel_rfl) (by simp [Try.ntmps122]) Try.results122 ?_)
  simp only [go_sem]
  exact ⟨fun h => by omega, fun h => by omega⟩
theorem spec_l1Least (a b : Int) : ∀ H, AC Try.prog 88 [.i a, .i b] H (fun v H' => v = .i (min a b) ∧ H' = H) := by
  refine AC.pure (by simp only [go_sem]) (AC.enter (tbl0) (by kernel_rfl) Try.func88 rfl (by kernel_rfl) (by kernel_rfl) (by simp [Try.ntmps88]) Try.results88 ?_)
  simp only [go_sem]
  exact ⟨fun h => by omega, fun h => by omega⟩
theorem spec_l1Abs (n : Int) (hn : -9223372036854775808 < n) (hn' : n < 9223372036854775808) : ∀ H, AC Try.prog 91 [.i n] H (fun v H' => v = .i n.natAbs ∧ H' = H) := by
  refine AC.pure (by simp only [go_sem]) (AC.enter (tbl0) (by kernel_rfl) Try.func91 rfl (by kernel_rfl) (by kernel_rfl) (by simp [Try.ntmps91]) Try.results91 ?_)
  simp only [go_sem]
  refine AC.call (spec_l1Most _ _ _) ?_
  simp only [go_sem]
  rw [w64 _ (by omega) (by omega)]; omega
theorem gcd_step (x n : Nat) : Nat.gcd n (x % n) = Nat.gcd x n := by rw [Nat.gcd_comm x n, Nat.gcd_rec n x, Nat.gcd_comm]
theorem impl_greatestDivisor (a b : Int) (ha : -9223372036854775808 < a) (ha' : a < 9223372036854775808) (hb : -9223372036854775808 < b) (hb' : b < 9223372036854775808) :
    ∀ H, AC Try.prog 92 [.i a, .i b] H (fun v H' => v = .i (Int.gcd a b : Nat) ∧ H' = H) := by
  refine AC.pure (by simp only [go_sem]) (AC.enter (tbl0) (by kernel_rfl) Try.func92 rfl (by kernel_rfl) (by kernel_rfl) (by simp [Try.ntmps92]) Try.results92 ?_)
  simp only [go_sem]
  refine AC.call (impl_abs _ ha ha' _) ?_
  simp only [go_sem]
  refine AC.call (impl_abs _ hb hb' _) ?_
  simp only [go_sem]
  refine ALoop.go (fun s : Nat × Nat => s.2) (fun s => Nat.gcd s.1 s.2 = Int.gcd a b) (fun s => [.i s.1, .i s.2]) (fun _ => []) (a.natAbs, b.natAbs) rfl (fun _ => .same (by simp only [go_sem])) ?_
  rintro ⟨x, n⟩ hg
  simp only [go_sem]
  refine ⟨fun h => ⟨h, ?_⟩, fun h => ?_⟩
  · refine loopK.go (n, x % n) (Nat.mod_lt _ (by omega)) (by rw [gcd_step]; exact hg) (fun _ => .same (by simp only [go_sem]; rfl))
  · have : n = 0 := by omega
    subst this
    simp at hg; omega
end Go.Ab
set_option linter.unusedVariables false
set_option linter.unusedSimpArgs false
namespace Go.Ab
open Go.Proofs
theorem spec_raCommon (x0 y0 : Nat) : ∀ H, AC Try.prog 90 [.i x0, .i y0] H (fun v H' => v = .i (Nat.gcd x0 y0) ∧ H' = H) := by
  refine AC.pure (by simp only [go_sem]) (AC.enter (tbl0) (by kernel_rfl) Try.func90 rfl (by kernel_rfl) (by kernel_rfl) (by simp [Try.ntmps90]) Try.results90 ?_)
  simp only [go_sem]
  refine ALoop.go (fun s : Nat × Nat => s.2) (fun s => Nat.gcd s.1 s.2 = Nat.gcd x0 y0) (fun s => [.i s.1, .i s.2]) (fun _ => []) (x0, y0) rfl (fun _ => .same (by simp only [go_sem])) ?_
  rintro ⟨x, n⟩ hg
  simp only [go_sem]
  refine ⟨fun h => ⟨by omega, ?_⟩, fun h => ?_⟩
  · refine loopK.go (n, x % n) (Nat.mod_lt _ (by omega)) (by rw [gcd_step]; exact hg) (fun _ => .same (by simp only [go_sem]; rfl))
  · have : n = 0 := by omega
    subst this
    simp at hg; omega
abbrev Rt := Int × Int
def goodR (x : Rt) : Bool := (decide (1 ≤ x.2) && decide (x.2 ≤ 1000000000)) && (decide (-1000000000 ≤ x.1) && decide (x.1 ≤ 1000000000)) && decide (Int.gcd x.1 x.2 = 1)
def unitR (x : Rt) : Bool := goodR x && (decide (0 ≤ x.1) && decide (x.1 ≤ x.2))
theorem goodR_b {x : Rt} (h : goodR x = true) : 1 ≤ x.2 ∧ x.2 ≤ 1000000000 ∧ -1000000000 ≤ x.1 ∧ x.1 ≤ 1000000000 := by
  simp [goodR] at h; omega
theorem unitR_b {x : Rt} (h : unitR x = true) : 0 ≤ x.1 ∧ x.1 ≤ x.2 ∧ 1 ≤ x.2 ∧ x.2 ≤ 1000000000 := by
  simp [unitR, goodR] at h; omega
theorem impl_isRat (x : Rt) : ∀ H, AC Try.prog 89 [rat x] H (fun v H' => v = .bool (goodR x) ∧ H' = H) := by
  refine AC.pure (by simp only [go_sem]) (AC.enter (tbl0) (by kernel_rfl) Try.func89 rfl (by kernel_rfl) (by kernel_rfl) (by simp [Try.ntmps89]) Try.results89 ?_)
  simp only [go_sem]
  refine AC.call (impl_within _ _ _ _) ?_
  simp only [go_sem]
  refine ⟨fun h => ?_, fun h => by simp [goodR, h]⟩
  refine AC.call (impl_within _ _ _ _) ?_
  simp only [go_sem]
  refine ⟨fun h' => ?_, fun h' => by simp [goodR, h, h']⟩
  simp at h h'
  refine AC.call (impl_greatestDivisor _ _ (by omega) (by omega) (by omega) (by omega) _) ?_
  simp only [go_sem]
  simp [goodR, h, h']; omega
theorem spec_raGood (x : Rt) : ∀ H, AC Try.prog 87 [rat x] H (fun v H' => v = .bool (goodR x) ∧ H' = H) := by
  refine AC.pure (by simp only [go_sem]) (AC.enter (fun | 1 => some ([0,1,2,3,4,5,6,7,8,9,10,12,13,11,14,15,16,17], []) | _ => none) (by kernel_rfl) Try.func87 rfl (by kernel_rfl) (by kernel_rfl) (by simp [Try.ntmps87]) Try.results87 ?_)
  simp only [go_sem]
  refine AC.call (spec_l1In _ _ _ _) ?_
  simp only [go_sem]
  refine ⟨fun h => ?_, fun h => by simp [goodR, h]⟩
  refine AC.call (spec_l1In _ _ _ _) ?_
  simp only [go_sem]
  refine ⟨fun h' => ?_, fun h' => by simp [goodR, h, h']⟩
  simp at h h'
  refine AC.call (spec_l1Abs _ (by omega) (by omega) _) ?_
  simp only [go_sem]
  obtain ⟨k, hk⟩ : ∃ k : Nat, x.2 = k := ⟨x.2.toNat, by omega⟩
  rw [hk]
  refine AC.call (spec_raCommon _ _ _) ?_
  simp only [go_sem]
  have hg : Int.gcd x.1 x.2 = Nat.gcd x.1.natAbs k := by rw [Int.gcd, hk]; rfl
  have e : goodR x = decide (Int.gcd x.1 x.2 = 1) := by simp [goodR, h, h']
  rw [e, hg, decide_eq_decide]
  omega
theorem impl_isUnit (x : Rt) : ∀ H, AC Try.prog 51 [rat x] H (fun v H' => v = .bool (unitR x) ∧ H' = H) := by
  refine AC.pure (by simp only [go_sem]) (AC.enter (tbl0) (by kernel_rfl) Try.func51 rfl (by kernel_rfl) (by kernel_rfl) (by simp [Try.ntmps51]) Try.results51 ?_)
  simp only [go_sem]
  refine AC.call (impl_isRat _ _) ?_
  simp only [go_sem]
  refine ⟨fun h => ⟨fun h1 => ?_, fun h1 => ?_⟩, fun h => ?_⟩
  · simp [unitR, h]; omega
  · simp [unitR, h]; omega
  · simp [unitR, h]
theorem spec_raUnit (x : Rt) : ∀ H, AC Try.prog 48 [rat x] H (fun v H' => v = .bool (unitR x) ∧ H' = H) := by
  refine AC.pure (by simp only [go_sem]) (AC.enter (tbl0) (by kernel_rfl) Try.func48 rfl (by kernel_rfl) (by kernel_rfl) (by simp [Try.ntmps48]) Try.results48 ?_)
  simp only [go_sem]
  refine AC.call (spec_raGood _ _) ?_
  simp only [go_sem]
  refine ⟨fun h => ?_, fun h => by simp [unitR, h]⟩
  refine AC.call (spec_l1In _ _ _ _) ?_
  simp only [go_sem]
  simp [unitR, h]
/-- The cell of a fraction. -/
def cellN (x : Rt) (w : Int) : Int := min ((x.1 * w).tdiv x.2) (w - 1)
theorem mul_b {n w : Int} (h0 : 0 ≤ n) (h1 : n ≤ 1000000000) (hw : 1 ≤ w) (hw' : w ≤ 1000) : 0 ≤ n * w ∧ n * w ≤ 1000000000000 :=
  ⟨Int.mul_nonneg h0 (by omega), by
    have := Int.mul_le_mul h1 hw' (by omega) (by omega : (0 : Int) ≤ 1000000000)
    omega⟩
theorem tdiv_b {a b M : Int} (h0 : 0 ≤ a) (h1 : a ≤ M) (hb : 1 ≤ b) : 0 ≤ a.tdiv b ∧ a.tdiv b ≤ M := by
  rw [Int.tdiv_eq_ediv_of_nonneg h0]
  exact ⟨Int.ediv_nonneg h0 (by omega), Int.le_trans (Int.ediv_le_self b h0) h1⟩
theorem cellN_b {x : Rt} {w : Int} (h : unitR x = true) (hw : 1 ≤ w) : 0 ≤ cellN x w ∧ cellN x w < w := by
  obtain ⟨h1, h2, h3, h4⟩ := unitR_b h
  have : 0 ≤ (x.1 * w).tdiv x.2 := by
    rw [Int.tdiv_eq_ediv_of_nonneg (Int.mul_nonneg h1 (by omega))]
    exact Int.ediv_nonneg (Int.mul_nonneg h1 (by omega)) (by omega)
  unfold cellN
  omega
theorem impl_cell (x : Rt) (w : Int) (h : unitR x = true) (hw : 1 ≤ w) (hw' : w ≤ 1000) : ∀ H, AC Try.prog 53 [rat x, .i w] H (fun v H' => v = .i (cellN x w) ∧ H' = H) := by
  obtain ⟨h1, h2, h3, h4⟩ := unitR_b h
  obtain ⟨h5, h6⟩ := mul_b h1 (by omega) hw hw'
  obtain ⟨h7, h8⟩ := tdiv_b h5 h6 h3
  refine AC.pure (by simp only [go_sem]) (AC.enter (tbl0) (by kernel_rfl) Try.func53 rfl (by kernel_rfl) (by kernel_rfl) (by simp [Try.ntmps53]) Try.results53 ?_)
  simp only [go_sem]
  refine ⟨by omega, ?_⟩
  rw [w64 (x.1 * w) (by omega) (by omega), w64 _ (by omega) (by omega), w64 _ (by omega) (by omega)]
  rfl
theorem spec_plCell (x : Rt) (w : Int) (h : unitR x = true) (hw : 1 ≤ w) (hw' : w ≤ 1000) : ∀ H, AC Try.prog 50 [rat x, .i w] H (fun v H' => v = .i (cellN x w) ∧ H' = H) := by
  obtain ⟨h1, h2, h3, h4⟩ := unitR_b h
  obtain ⟨h5, h6⟩ := mul_b h1 (by omega) hw hw'
  obtain ⟨h7, h8⟩ := tdiv_b h5 h6 h3
  refine AC.pure (by simp only [go_sem]) (AC.enter (tbl0) (by kernel_rfl) Try.func50 rfl (by kernel_rfl) (by kernel_rfl) (by simp [Try.ntmps50]) Try.results50 ?_)
  simp only [go_sem]
  refine ⟨by omega, ?_⟩
  refine AC.call (spec_l1Least _ _ _) ?_
  simp only [go_sem]
  rw [w64 (x.1 * w) (by omega) (by omega), w64 _ (by omega) (by omega), w64 _ (by omega) (by omega)]
  exact Int.min_comm _ _
/-- What CellOf returns. -/
def cellB (x : Rt) (w : Int) : Bool := unitR x && (decide (1 ≤ w) && decide (w ≤ 1000))
def cellV (x : Rt) (w : Int) : Int := if cellB x w then cellN x w else 0
theorem impl_CellOf (x : Rt) (w : Int) : ∀ H, AC Try.prog 14 [rat x, .i w] H (fun v H' => v = .tup [.i (cellV x w), .bool (cellB x w)] ∧ H' = H) := by
  refine AC.pure (by simp only [go_sem]) (AC.enter (tbl0) (by kernel_rfl) Try.func14 rfl (by kernel_rfl) (by kernel_rfl) (by simp [Try.ntmps14]) Try.results14 ?_)
  simp only [go_sem]
  refine AC.call (impl_isUnit _ _) ?_
  simp only [go_sem]
  refine ⟨fun h => ?_, fun h => by simp [cellV, cellB, h]⟩
  refine AC.call (impl_within _ _ _ _) ?_
  simp only [go_sem]
  refine ⟨fun h1 => ?_, fun h1 => ?_⟩
  · simp [cellV, cellB, h, h1]
  · have h2 := h1
    simp at h1
    refine AC.call (impl_cell _ _ h h1.1 h1.2 _) ?_
    simp only [go_sem]
    simp [cellV, cellB, h, h1]
theorem spec_CellOf (x : Rt) (w : Int) : ∀ H, AC Try.prog 12 [rat x, .i w] H (fun v H' => v = .tup [.i (cellV x w), .bool (cellB x w)] ∧ H' = H) := by
  refine AC.pure (by simp only [go_sem]) (AC.enter (tbl0) (by kernel_rfl) Try.func12 rfl (by kernel_rfl) (by kernel_rfl) (by simp [Try.ntmps12]) Try.results12 ?_)
  simp only [go_sem]
  refine AC.call (spec_raUnit _ _) ?_
  simp only [go_sem]
  refine ⟨fun h => ?_, fun h => by simp [cellV, cellB, h]⟩
  refine AC.call (spec_l1In _ _ _ _) ?_
  simp only [go_sem]
  refine ⟨fun h1 => ?_, fun h1 => ?_⟩
  · simp [cellV, cellB, h, h1]
  · simp at h1
    refine AC.call (spec_plCell _ _ h h1.1 h1.2 _) ?_
    simp only [go_sem]
    simp [cellV, cellB, h, h1]
theorem laws_toRat (x : Rt) : ∀ H, AC Try.prog 13 [rat x] H (fun v H' => v = rat x ∧ H' = H) := by
  refine AC.pure (by simp only [go_sem]) (AC.enter (tbl0) (by kernel_rfl) Try.func13 rfl (by kernel_rfl) (by kernel_rfl) (by simp [Try.ntmps13]) Try.results13 ?_)
  simp only [go_sem]
end Go.Ab
set_option linter.unusedVariables false
set_option linter.unusedSimpArgs false
namespace Go.Ab
open Go.Proofs
def idxF {α : Type} (p : α → Bool) (xs : List α) : Int := match xs.findIdx? p with | some i => (i : Int) | none => -1
theorem take_none {α : Type} {p : α → Bool} {xs : List α} {i : Nat} (h : i < xs.length) (hf : (xs.take i).findIdx? p = none) (hn : p xs[i] = false) : (xs.take (i + 1)).findIdx? p = none := by
  rw [List.findIdx?_eq_none_iff] at hf ⊢
  intro x hx
  rw [List.take_succ_eq_append_getElem h] at hx
  rcases List.mem_append.1 hx with q | q
  · exact hf x q
  · simp at q; subst q; exact hn
theorem idxF_at {α : Type} {p : α → Bool} {xs : List α} {i : Nat} (h : i < xs.length) (hf : (xs.take i).findIdx? p = none) (ht : p xs[i] = true) : idxF p xs = i := by
  have e : xs = xs.take i ++ xs[i] :: xs.drop (i + 1) := by rw [← List.drop_eq_getElem_cons h, List.take_append_drop]
  have hl : (xs.take i).length = i := by simp; omega
  unfold idxF
  rw [e, List.findIdx?_append, hf, List.findIdx?_cons, ht]
  simp; omega
theorem idxF_any {α : Type} (p : α → Bool) (xs : List α) : decide (0 ≤ idxF p xs) = xs.any p := by
  unfold idxF
  cases h : xs.findIdx? p with
  | none =>
    rw [List.findIdx?_eq_none_iff] at h
    have : xs.any p = false := by rw [List.any_eq_false]; intro x hx; simp [h x hx]
    rw [this]; rfl
  | some i =>
    obtain ⟨hi, ht, _⟩ := List.findIdx?_eq_some_iff_getElem.1 h
    have : xs.any p = true := List.any_eq_true.2 ⟨xs[i], List.getElem_mem _, ht⟩
    rw [this]; simp
theorem rvv_self {N : Nat} : ∀ {l : List AV}, BelL N l → rvv (fun b => b) N l l = True
  | [], _ => rfl
  | v :: l, h => by
    rw [rvv_cons, rvv_self (l := l) fun u hu => h u (by simp [hu])]
    simp only [and_true]
    exact eq_true (h v (by simp))
theorem slices_IndexFunc_Rat (xs : List (Rt)) (g : Nat) (cap : List AV) (p : Rt → Bool) (H : AHeap) (hc : BelL H.length cap) (hp : ∀ x, AC Try.prog g (rat x :: cap) H (fun v H' => v = .bool (p x) ∧ H' = H)) :
    AC Try.prog 124 [lR xs, .fn g cap] H (fun v H' => v = .i (idxF p xs) ∧ H' = H) := by
  refine AC.len 0 rfl (fun hl => ?_) ⟨_, Try.func124, rfl, by kernel_rfl⟩
  rw [List.length_map] at hl
  refine AC.enter (tbl0) (by kernel_rfl) Try.func124 rfl (by kernel_rfl) (by kernel_rfl) (by simp [Try.ntmps124]) Try.results124 ?_
  simp only [go_sem]
  refine ALoop.go (fun i => xs.length - i) (fun i => i ≤ xs.length ∧ (xs.take i).findIdx? p = none) (fun i => [lR xs, .fn g cap, .un, .un, .un, .un, .un, .i xs.length, .i (i : Nat)]) (fun _ => H) 0 ⟨Nat.zero_le _, rfl⟩ (fun _ => .same (by simp only [go_sem, rvv_self hc])) ?_
  intro i ⟨hi, hf⟩
  rcases Nat.lt_or_ge i xs.length with hlt | hge
  · simp only [go_sem, getD_map rR hlt, hlt, decide_true]
    refine AC.call (hp xs[i]) ?_
    simp only [go_sem]
    refine ⟨fun ht => by rw [idxF_at hlt hf ht], fun hn => ?_⟩
    exact loopK.go (i + 1) (by omega) ⟨by omega, take_none hlt hf hn⟩ (fun _ => .same (by simp only [go_sem, w64s i (by omega), rvv_self hc]))
  · have h1 : ¬ i < xs.length := by omega
    have : i = xs.length := by omega
    subst this
    simp only [go_sem, h1]
    rw [List.take_length] at hf
    simp [idxF, hf]
theorem slices_ContainsFunc_Rat (xs : List (Rt)) (g : Nat) (cap : List AV) (p : Rt → Bool) (H : AHeap) (hc : BelL H.length cap) (hp : ∀ x, AC Try.prog g (rat x :: cap) H (fun v H' => v = .bool (p x) ∧ H' = H)) :
    AC Try.prog 93 [lR xs, .fn g cap] H (fun v H' => v = .bool (xs.any p) ∧ H' = H) := by
  refine AC.enter (tbl0) (by kernel_rfl) Try.func93 rfl (by kernel_rfl) (by kernel_rfl) (by simp [Try.ntmps93]) Try.results93 ?_
  simp only [go_sem]
  refine AC.call (slices_IndexFunc_Rat xs g cap p H hc hp) ?_
  simp only [go_sem]
  rw [idxF_any p xs]
theorem impl_areUnits_1 (x : Rt) : ∀ H, AC Try.prog 94 [rat x] H (fun v H' => v = .bool (!unitR x) ∧ H' = H) := by
  refine AC.pure (by simp only [go_sem]) (AC.enter (tbl0) (by kernel_rfl) Try.func94 rfl (by kernel_rfl) (by kernel_rfl) (by simp [Try.ntmps94]) Try.results94 ?_)
  simp only [go_sem]
  refine AC.call (impl_isUnit x _) ?_
  simp only [go_sem]
theorem impl_areUnits (xs : List Rt) : ∀ H, AC Try.prog 57 [lR xs] H (fun v H' => v = .bool (xs.all unitR) ∧ H' = H) := by
  refine AC.pure (by simp only [go_sem]) (AC.enter (tbl0) (by kernel_rfl) Try.func57 rfl (by kernel_rfl) (by kernel_rfl) (by simp [Try.ntmps57]) Try.results57 ?_)
  simp only [go_sem]
  refine AC.call (slices_ContainsFunc_Rat xs _ [] (fun x => !unitR x) _ .nil fun x => impl_areUnits_1 x _) ?_
  simp only [go_sem]
  simp [List.all_eq_not_any_not]
end Go.Ab
set_option linter.unusedVariables false
set_option linter.unusedSimpArgs false
namespace Go.Ab
open Go.Proofs
/-! ### Splitting at a byte -/
abbrev Str := List UInt8
def splitB (c : UInt8) : Str → List Str
  | [] => [[]]
  | x :: s => if x = c then [] :: splitB c s else match splitB c s with | [] => [[x]] | p :: r => (x :: p) :: r
theorem splitB_ne (c : UInt8) : ∀ s, splitB c s ≠ []
  | [] => by simp [splitB]
  | x :: s => by
    unfold splitB
    split
    · simp
    · split <;> simp
theorem splitB_none {c : UInt8} : ∀ {p : Str}, c ∉ p → splitB c p = [p]
  | [], _ => rfl
  | x :: p, h => by
    have h1 : x ≠ c := fun e => h (by simp [e])
    have h2 : c ∉ p := fun e => h (by simp [e])
    rw [splitB, if_neg h1, splitB_none h2]
theorem splitB_at {c : UInt8} (r : Str) : ∀ {p : Str}, c ∉ p → splitB c (p ++ c :: r) = p :: splitB c r
  | [], _ => by simp [splitB]
  | x :: p, h => by
    have h1 : x ≠ c := fun e => h (by simp [e])
    have h2 : c ∉ p := fun e => h (by simp [e])
    rw [List.cons_append, splitB, if_neg h1, splitB_at r h2]
theorem splitB_len (c : UInt8) : ∀ s, (splitB c s).length = s.count c + 1
  | [] => rfl
  | x :: s => by
    have ih := splitB_len c s
    unfold splitB
    split
    · rename_i h; subst h; simp [ih]
    · rename_i h
      rw [List.count_cons_of_ne h]
      split
      · rename_i e; exact absurd e (splitB_ne c s)
      · rename_i p r e; rw [e] at ih; simpa using ih
theorem u8_dec (a b : UInt8) : decide ((a.toNat : Int) = (b.toNat : Int)) = decide (a = b) := by
  rw [decide_eq_decide]
  constructor
  · intro h; exact UInt8.toNat_inj.1 (by omega)
  · intro h; rw [h]
theorem getD_at {s : Str} {i : Nat} (h : i < s.length) : s.getD i 0 = s[i] := by rw [List.getD_eq_getElem?_getD, List.getElem?_eq_getElem h]; rfl
theorem split_step {c : UInt8} {s : Str} {i f : Nat} (hi : i < s.length) (hf : f ≤ i) (hn : c ∉ (s.drop f).take (i - f)) (he : s[i] = c) : splitB c (s.drop f) = (s.drop f).take (i - f) :: splitB c (s.drop (i + 1)) := by
  have : s.drop f = (s.drop f).take (i - f) ++ c :: s.drop (i + 1) := by
    have h1 : (s.drop f).drop (i - f) = s.drop i := by rw [List.drop_drop]; congr 1; omega
    rw [← he, ← List.drop_eq_getElem_cons hi, ← h1, List.take_append_drop]
  conv => lhs; rw [this]
  exact splitB_at _ hn
theorem cut_eq (s : Str) (f i : Nat) : (s.take i).drop f = (s.drop f).take (i - f) := by rw [List.drop_take]
theorem spec_l1Split_own (s : Str) (c : UInt8) (hs : s.length ≤ 4194304) : AC Try.prog 95 [.str s, .int .u8 c.toNat] [] (fun v H' => v = .sl 0 0 (splitB c s).length ∧ H' = [some ⟨true, 1, (splitB c s).map rS⟩]) := by
  refine AC.own (.map bel_rS _) (AC.enter (tbl0) (by kernel_rfl) Try.func95 rfl (by kernel_rfl) (by kernel_rfl) (by simp [Try.ntmps95]) Try.results95 ?_)
  simp only [go_sem]
  refine ALoop.go (σ := Nat × List Str × Nat) (fun x => s.length - x.1) (fun x => x.1 ≤ s.length ∧ x.2.2 ≤ x.1 ∧ c ∉ (s.drop x.2.2).take (x.1 - x.2.2) ∧ x.2.1 ++ splitB c (s.drop x.2.2) = splitB c s ∧ x.2.1.length ≤ x.1)
    (fun x => [.str s, .int .u8 c.toNat, .un, .un, .un, .sl 0 0 x.2.1.length, .i x.2.2, .i x.1]) (fun x => [some ⟨true, 1, x.2.1.map rS⟩]) (0, [], 0) ⟨Nat.zero_le _, Nat.le_refl _, by simp, by simp, by simp⟩ (fun _ => .ks [1] [0] rfl (by simp) rfl ⟨Clo_nil, trivial⟩ (by simp only [go_sem])) ?_
  rintro ⟨i, out, f⟩ ⟨h1, h2, h3, h4, h5⟩
  simp only at h1 h2 h3 h4 h5
  rcases Nat.lt_or_ge i s.length with hlt | hge
  · have hgd := getD_at hlt
    simp only [go_sem, hlt, decide_true, hgd, u8_dec]
    refine ⟨fun he => ?_, fun he => ?_⟩
    · refine ⟨by omega, by omega, by simp only [maxLen]; omega, ?_⟩
      refine loopK.go (i + 1, out ++ [(s.drop f).take (i - f)], i + 1) (by simp only; omega) ⟨by simp only; omega, Nat.le_refl _, by simp, ?_, by simp; omega⟩ (fun _ => .ks [] [2] rfl (by simp) (by simp only [pickH]; rw [cut_eq]; simp [rS]) ⟨.map bel_rS _, trivial⟩ (by simp only [go_sem, w64s i (by omega), List.length_append]))
      rw [List.append_assoc, List.singleton_append, ← split_step hlt h2 h3 he]; exact h4
    · refine loopK.go (i + 1, out, f) (by simp only; omega) ⟨by simp only; omega, by simp only; omega, ?_, h4, by simp only; omega⟩ (fun _ => .same (by simp only [go_sem, w64s i (by omega)]))
      simp only
      rw [show i + 1 - f = (i - f) + 1 by omega, List.take_succ_eq_append_getElem (by simp; omega)]
      simp only [List.mem_append, not_or]
      refine ⟨h3, ?_⟩
      have e : f + (i - f) = i := by omega
      simp only [List.mem_singleton, List.getElem_drop, e]
      exact fun h => he h.symm
  · have hn : ¬ i < s.length := by omega
    have : i = s.length := by omega
    subst this
    simp only [go_sem, hn]
    have e : splitB c s = out ++ [s.drop f] := by
      rw [← h4, splitB_none]
      rwa [List.take_of_length_le (by simp)] at h3
    refine ⟨by omega, by omega, by simp only [maxLen]; omega, 2, .inl (by rw [e]; simp [hget, rS]), by rw [e]; simp only [go_sem, List.length_append]⟩
theorem spec_l1Split (s : Str) (c : UInt8) (hs : s.length ≤ 4194304) : ∀ H, AC Try.prog 95 [.str s, .int .u8 c.toNat] H (fun v H' => v = lS (splitB c s) ∧ H' = H) :=
  AC.thaw (by simp only [go_sem]) (spec_l1Split_own s c hs) (OV_sl _ rfl rfl rfl (by simp) (.map bel_rS _) rfl)
end Go.Ab
/- The abstract machine: contracts of the library's. -/
set_option linter.unusedVariables false
set_option linter.unusedSimpArgs false
namespace Go.Ab
/-- A contract of the model's own, of a function that shares no memory. -/
theorem AC.ext {P : Program} {f : FuncId} {avs : List AV} {v : AV} (hc : Callable P f)
    (h : ∀ (m : MMap) (w : World) (vs : List Value), RelL m avs vs → Calls P f vs.toArray w fun e w' => ∃ r, e = .returned r ∧ Rel ⟨[], fun _ => none⟩ v r ∧ RowKit.Below w.heap.size w w') (H : AHeap) : AC P f avs H fun v' H' => v' = v ∧ H' = H :=
  ⟨hc, fun m w vs hm hv => (h m w vs hv).mono fun e w' ⟨r, he, hr, hb⟩ => by
    have hold : ∀ r, r < w.heap.size → w'.heap[r]? = w.heap[r]? := fun r hr => hb.block r hr
    exact ⟨v, r, m, H, he, hm.world hold, hr.mono ⟨fun b B h => by simp at h, fun r c h => by simp at h⟩, Stp.world hb.os hb.tape hb.output hb.size hold, rfl, rfl⟩⟩
theorem Below.rfl0 (w : World) : RowKit.Below w.heap.size w w := ⟨rfl, rfl, rfl, Nat.le_refl _, fun _ _ => rfl⟩
theorem rel_str1 {m : MMap} {s : List UInt8} {vs : List Value} (h : RelL m [.str s] vs) : vs = [.string ⟨s.toArray⟩] := by
  obtain ⟨h1, h2⟩ := h
  match vs, h1 with
  | [r], _ => rw [(h2 0 _ r rfl rfl).str_inv]
theorem rel_str2 {m : MMap} {s t : List UInt8} {vs : List Value} (h : RelL m [.str s, .str t] vs) : vs = [.string ⟨s.toArray⟩, .string ⟨t.toArray⟩] := by
  obtain ⟨h1, h2⟩ := h
  match vs, h1 with
  | [r, q], _ => rw [(h2 0 _ r rfl rfl).str_inv, (h2 1 _ q rfl rfl).str_inv]
theorem rel_str_int {m : MMap} {s : List UInt8} {k : IntKind} {n : Int} {vs : List Value} (h : RelL m [.str s, .int k n] vs) : vs = [.string ⟨s.toArray⟩, .int k n] := by
  obtain ⟨h1, h2⟩ := h
  match vs, h1 with
  | [r, q], _ => rw [(h2 0 _ r rfl rfl).str_inv, (h2 1 _ q rfl rfl).int_inv]
end Go.Ab
/- The library's contracts at this seat's numbers: out of the kit's own laying, in plain words. -/
namespace Go.Proofs
open Go.Shelf
def Try.lays138_ren : Go.Shelf.Ren := ⟨fun | 138 => 96 | 195 => 125 | 218 => 126 | 143 => 127 | 219 => 145 | 217 => 153 | 225 => 154 | 224 => 155 | 267 => 156 | 266 => 159 | 314 => 160 | n => n, fun | 9 => 9 | 3 => 3 | 4 => 4 | 5 => 5 | 0 => 0 | 46 => 120 | 146 => 143 | 51 => 142 | n => n, fun | 1 => 0 | n => n⟩
theorem Try.lays138 : Go.Proofs.Lays.n138 Try.prog Try.lays138_ren := {
  mixed := by kernel_rfl
  f138 := Try.func96.trans (congrArg some (by kernel_rfl))
  f143 := Try.func127.trans (congrArg some (by kernel_rfl))
  f195 := Try.func125.trans (congrArg some (by kernel_rfl))
  f217 := Try.func153.trans (congrArg some (by kernel_rfl))
  f218 := Try.func126.trans (congrArg some (by kernel_rfl))
  f219 := Try.func145.trans (congrArg some (by kernel_rfl))
  f224 := Try.func155.trans (congrArg some (by kernel_rfl))
  f225 := Try.func154.trans (congrArg some (by kernel_rfl))
  f266 := Try.func159.trans (congrArg some (by kernel_rfl))
  f267 := Try.func156.trans (congrArg some (by kernel_rfl))
  f314 := Try.func160.trans (congrArg some (by kernel_rfl))
  t0 := Try.underlying0
  a0 := Try.isAgg0
  z0 := Try.sizeOf0
  v0 := Try.zeroValue0
  t3 := Try.underlying3
  a3 := Try.isAgg3
  z3 := Try.sizeOf3
  v3 := Try.zeroValue3
  t4 := Try.underlying4
  a4 := Try.isAgg4
  z4 := Try.sizeOf4
  v4 := Try.zeroValue4
  t5 := Try.underlying5
  a5 := Try.isAgg5
  z5 := Try.sizeOf5
  v5 := Try.zeroValue5
  t9 := Try.underlying9
  a9 := Try.isAgg9
  z9 := Try.sizeOf9
  v9 := Try.zeroValue9
  t46 := Try.underlying120
  a46 := Try.isAgg120
  z46 := Try.sizeOf120
  v46 := Try.zeroValue120
  t51 := Try.underlying142
  a51 := Try.isAgg142
  z51 := Try.sizeOf142
  v51 := Try.zeroValue142
  t146 := Try.underlying143
  a146 := Try.isAgg143
  z146 := Try.sizeOf143
  v146 := Try.zeroValue143
  g1 := by kernel_rfl }
theorem Try.strings_Count_one (s : ByteArray) (c : UInt8) (w : World) :
    Calls Try.prog 96 #[.string s, .string ⟨#[c]⟩] w fun e w' => e = .returned (.int .i64 (Lib.countByte s.data.toList c)) ∧ w' = w := Any.strings_Count_one Try.lays138 s c w
end Go.Proofs
set_option linter.unusedVariables false
set_option linter.unusedSimpArgs false
namespace Go.Ab
open Go.Proofs
theorem strings_Count1 (s : Str) (c : UInt8) : ∀ H, AC Try.prog 96 [.str s, .str [c]] H (fun v H' => v = .i (s.count c : Nat) ∧ H' = H) := by
  refine AC.ext ⟨_, Try.func96, rfl, by kernel_rfl⟩ fun m w vs hv => ?_
  rw [rel_str2 hv]
  refine (Try.strings_Count_one ⟨s.toArray⟩ c w).mono ?_
  rintro e w' ⟨rfl, rfl⟩
  refine ⟨_, rfl, ?_, Below.rfl0 w'⟩
  have : Lib.countByte s c = s.count c := by
    first | rfl | (unfold Lib.countByte; simp [List.count, List.countP_eq_length_filter])
  simp only [this]
  exact .int _ _
/-- The last byte, or 0. -/
def lastB (s : Str) : UInt8 := s.getD (s.length - 1) 0
theorem stringslite_HasSuffix1 (s : Str) (c : UInt8) (hs : s.length ≤ 9223372036854775807) : ∀ H, AC Try.prog 128 [.str s, .str [c]] H (fun v H' => v = .bool (decide (s ≠ []) && decide (lastB s = c)) ∧ H' = H) := by
  refine AC.pure (by simp only [go_sem]) (AC.enter (tbl0) (by kernel_rfl) Try.func128 rfl (by kernel_rfl) (by kernel_rfl) (by simp [Try.ntmps128]) Try.results128 ?_)
  simp only [go_sem]
  refine ⟨fun h => ?_, fun h => ?_⟩
  · have hw : IntKind.i64.wrap ((s.length : Int) - 1) = ((s.length - 1 : Nat) : Int) := by rw [w64 _ (by omega) (by omega)]; omega
    simp only [go_sem, hw]
    refine ⟨by omega, ?_⟩
    have hlt : s.length - 1 < s.length := by omega
    have e : s.drop (s.length - 1) = [lastB s] := by
      rw [List.drop_eq_getElem_cons hlt, List.drop_of_length_le (by omega), lastB, getD_at hlt]
    have h0 : s ≠ [] := by intro e; subst e; simp at h
    rw [e]; simp [h0]
  · have h0 : s = [] := List.eq_nil_of_length_eq_zero (by omega)
    simp [h0]
theorem strings_HasSuffix1 (s : Str) (c : UInt8) (hs : s.length ≤ 9223372036854775807) : ∀ H, AC Try.prog 97 [.str s, .str [c]] H (fun v H' => v = .bool (decide (s ≠ []) && decide (lastB s = c)) ∧ H' = H) := by
  refine AC.pure (by simp only [go_sem]) (AC.enter (tbl0) (by kernel_rfl) Try.func97 rfl (by kernel_rfl) (by kernel_rfl) (by simp [Try.ntmps97]) Try.results97 ?_)
  simp only [go_sem]
  refine AC.call (stringslite_HasSuffix1 s c hs _) ?_
  simp only [go_sem]
/-! ### Scripts -/
def scriptB (s : Str) : Bool := decide (s.length ≤ 2000) && (decide (s.count 10 ≤ 40) && (decide (s = []) || decide (lastB s = 10)))
theorem impl_isScript (s : Str) (hs : s.length ≤ 9223372036854775807) : ∀ H, AC Try.prog 59 [.str s] H (fun v H' => v = .bool (scriptB s) ∧ H' = H) := by
  refine AC.pure (by simp only [go_sem]) (AC.enter (tbl0) (by kernel_rfl) Try.func59 rfl (by kernel_rfl) (by kernel_rfl) (by simp [Try.ntmps59]) Try.results59 ?_)
  simp only [go_sem]
  refine ⟨fun h => ?_, fun h => ?_⟩
  · refine AC.call (strings_Count1 s 10 _) ?_
    simp only [go_sem]
    refine ⟨fun h1 => ⟨fun h2 => ?_, fun h2 => ?_⟩, fun h1 => ?_⟩
    · refine AC.call (strings_HasSuffix1 s 10 hs _) ?_
      simp only [go_sem]
      have h' : s.length ≤ 2000 := by omega
      have h1' : s.count 10 ≤ 40 := by omega
      simp [scriptB, h2, h', h1']
    · simp [scriptB, h2]; try omega
    · simp [scriptB]; omega
  · simp [scriptB]; omega
theorem impl_JoinScripts (a b : Str) (ha : a.length ≤ 1048576) (hb : b.length ≤ 1048576) : ∀ H, AC Try.prog 28 [.str a, .str b] H (fun v H' => v = .tup [.str (if scriptB a && scriptB b && scriptB (a ++ b) then a ++ b else []), .bool (scriptB a && scriptB b && scriptB (a ++ b))] ∧ H' = H) := by
  refine AC.pure (by simp only [go_sem]) (AC.enter (tbl0) (by kernel_rfl) Try.func28 rfl (by kernel_rfl) (by kernel_rfl) (by simp [Try.ntmps28]) Try.results28 ?_)
  have hab : (a ++ b).length ≤ 9223372036854775807 := by rw [List.length_append]; omega
  simp only [go_sem]
  refine AC.call (impl_isScript a (by omega) _) ?_
  simp only [go_sem]
  refine ⟨fun h1 => ?_, fun h1 => ?_⟩
  · refine AC.call (impl_isScript b (by omega) _) ?_
    simp only [go_sem]
    refine ⟨fun h2 => ⟨by omega, ?_⟩, fun h2 => by simp [h1, h2]⟩
    refine AC.call (impl_isScript (a ++ b) hab _) ?_
    simp only [go_sem]
    refine ⟨fun h3 => ?_, fun h3 => by simp [h1, h2, h3]; try omega⟩
    simp [h1, h2, h3]
    all_goals omega
  · simp [h1]
theorem spec_csLines (s : Str) (hs : s.length ≤ 4194304) : ∀ H, AC Try.prog 58 [.str s] H (fun v H' => v = .tup [lS (if scriptB s then (splitB 10 s).dropLast else []), .bool (scriptB s)] ∧ H' = H) := by
  refine AC.pure (by simp only [go_sem]) (AC.enter (tbl0) (by kernel_rfl) Try.func58 rfl (by kernel_rfl) (by kernel_rfl) (by simp [Try.ntmps58]) Try.results58 ?_)
  have hl := splitB_len 10 s
  have hcl := List.count_le_length (a := (10 : UInt8)) (l := s)
  have hd : (splitB 10 s).dropLast = (splitB 10 s).take ((splitB 10 s).length - 1) := List.dropLast_eq_take
  have tail : ∀ (b : Bool), b = decide (s.count 10 ≤ 40) → (s.length ≤ 2000 → (s = [] ∨ lastB s = 10) → scriptB s = b) := fun b hb h1 h2 => by
    subst hb
    simp only [scriptB]
    rcases h2 with h2 | h2 <;> simp [h1, h2]
  have hw : IntKind.i64.wrap (((splitB 10 s).length : Int) - 1) = ((splitB 10 s).length - 1 : Nat) := by rw [w64 _ (by omega) (by omega)]; omega
  have hm : min ((splitB 10 s).length - 1) (splitB 10 s).length = (splitB 10 s).length - 1 := by omega
  simp only [go_sem]
  refine ⟨fun h => ?_, fun h => ?_⟩
  · refine ⟨fun h0 => ?_, fun h0 => ?_⟩
    · have hpos : 0 < s.length := List.length_pos_iff.2 h0
      have hw1 : IntKind.i64.wrap ((s.length : Int) - 1) = ((s.length - 1 : Nat) : Int) := by rw [w64 _ (by omega) (by omega)]; omega
      have hlast : s.getD (s.length - 1) 0 = lastB s := rfl
      rw [hw1, Int.toNat_natCast, hlast]
      refine ⟨by omega, fun h1 => ?_, fun h1 => ?_⟩
      · have : lastB s ≠ 10 := fun e => h1 (by rw [e]; rfl)
        simp [scriptB, h0, this]
      · have h10 : lastB s = 10 := UInt8.toNat_inj.1 (by have : (10 : UInt8).toNat = 10 := rfl; omega)
        refine AC.call (spec_l1Split s 10 hs _) ?_
        simp only [go_sem, hw, List.length_take, hm]
        refine ⟨by omega, fun h2 => ?_, fun h2 => ?_⟩
        · have := tail false (by simp; omega) (by omega) (.inr h10)
          simp [this]
        · have := tail true (by simp; omega) (by omega) (.inr h10)
          simp [this, hd]
    · refine AC.call (spec_l1Split s 10 hs _) ?_
      simp only [go_sem, hw, List.length_take, hm]
      refine ⟨by omega, fun h2 => ?_, fun h2 => ?_⟩
      · have := tail false (by simp; omega) (by omega) (.inl h0)
        simp [this]
      · have := tail true (by simp; omega) (by omega) (.inl h0)
        simp [this, hd]
  · have : ¬ s.length ≤ 2000 := by omega
    simp [scriptB, this]
theorem spec_JoinScripts (a b : Str) (ha : a.length ≤ 1048576) (hb : b.length ≤ 1048576) : ∀ H, AC Try.prog 27 [.str a, .str b] H (fun v H' => v = .tup [.str (if scriptB a && scriptB b && scriptB (a ++ b) then a ++ b else []), .bool (scriptB a && scriptB b && scriptB (a ++ b))] ∧ H' = H) := by
  refine AC.pure (by simp only [go_sem]) (AC.enter (tbl0) (by kernel_rfl) Try.func27 rfl (by kernel_rfl) (by kernel_rfl) (by simp [Try.ntmps27]) Try.results27 ?_)
  have hab : (a ++ b).length ≤ 4194304 := by rw [List.length_append]; omega
  simp only [go_sem]
  refine AC.call (spec_csLines a (by omega) _) ?_
  simp only [go_sem]
  refine AC.call (spec_csLines b (by omega) _) ?_
  simp only [go_sem]
  refine ⟨by omega, ?_⟩
  refine AC.call (spec_csLines (a ++ b) hab _) ?_
  simp only [go_sem]
  refine ⟨fun h1 => ⟨fun h2 => ⟨fun h3 => ?_, fun h3 => ?_⟩, fun h2 => ?_⟩, fun h1 => ?_⟩ <;> simp [*]
  all_goals omega
theorem law_JoinScripts (a b : Str) : ∀ H, AC Try.prog 6 [.str a, .str b] H (fun v H' => v = .bool true ∧ H' = H) := by
  refine AC.pure (by simp only [go_sem]) (AC.enter (tbl0) (by kernel_rfl) Try.func6 rfl (by kernel_rfl) (by kernel_rfl) (by simp [Try.ntmps6]) Try.results6 ?_)
  simp only [go_sem]
  refine ⟨fun h => trivial, fun h => ⟨fun h1 => trivial, fun h1 => ?_⟩⟩
  refine AC.call (spec_JoinScripts a b (by omega) (by omega) _) ?_
  simp only [go_sem]
  refine AC.call (impl_JoinScripts a b (by omega) (by omega) _) ?_
  simp only [go_sem, decide_true]
end Go.Ab
