import Derived.Test.YtmgggjaphphkhaaAbC
import Derived.Test.YtmgggjaphphkhaaTy
set_option linter.unusedVariables false
set_option linter.unusedSimpArgs false
namespace Go.Ab
open Go.Proofs
theorem avi {a b : Int} (h : a = b) : AV.i a = AV.i b := congrArg AV.i h
theorem impl_within (n lo hi : Int) : ∀ H, AC Try.prog 52 [.i n, .i lo, .i hi] H (fun v H' => v = .bool (decide (lo ≤ n) && decide (n ≤ hi)) ∧ H' = H) := by
  refine AC.pure (by simp only [go_sem]) (AC.enter (tbl0) (by kernel_rfl) Try.func52 rfl (by kernel_rfl) (by kernel_rfl) (by simp [Try.ntmps52]) Try.results52 ?_)
  simp only [go_sem]
  refine ⟨fun h => ?_, fun h => ?_⟩ <;> simp [h]
theorem spec_l1In (n lo hi : Int) : ∀ H, AC Try.prog 49 [.i n, .i lo, .i hi] H (fun v H' => v = .bool (decide (lo ≤ n) && decide (n ≤ hi)) ∧ H' = H) := by
  refine AC.pure (by simp only [go_sem]) (AC.enter (tbl0) (by kernel_rfl) Try.func49 rfl (by kernel_rfl) (by kernel_rfl) (by simp [Try.ntmps49]) Try.results49 ?_)
  simp only [go_sem]
  refine ⟨fun h => ?_, fun h => ?_⟩ <;> simp [h]
theorem impl_abs (n : Int) (hn : -9223372036854775808 < n) (hn' : n < 9223372036854775808) : ∀ H, AC Try.prog 123 [.i n] H (fun v H' => v = .i n.natAbs ∧ H' = H) := by
  refine AC.pure (by simp only [go_sem]) (AC.enter (tbl0) (by kernel_rfl) Try.func123 rfl (by kernel_rfl) (by kernel_rfl) (by simp [Try.ntmps123]) Try.results123 ?_)
  simp only [go_sem]
  refine ⟨fun h => ?_, fun h => ?_⟩
  · rw [w64 _ (by omega) (by omega)]; omega
  · omega
theorem spec_l1Most (a b : Int) : ∀ H, AC Try.prog 122 [.i a, .i b] H (fun v H' => v = .i (max a b) ∧ H' = H) := by
  refine AC.pure (by simp only [go_sem]) (AC.enter (tbl0) (by kernel_rfl) Try.func122 rfl (by kernel_rfl) (by kernel_rfl) (by simp [Try.ntmps122]) Try.results122 ?_)
  simp only [go_sem]
  exact ⟨fun h => by omega, fun h => by omega⟩
theorem spec_l1Least (a b : Int) : ∀ H, AC Try.prog 88 [.i a, .i b] H (fun v H' => v = .i (min a b) ∧ H' = H) := by
  refine AC.pure (by simp only [go_sem]) (AC.enter (tbl0) (by kernel_rfl) Try.func88 rfl (by kernel_rfl) (by kernel_rfl) (by simp [Try.ntmps88]) Try.results88 ?_)
  simp only [go_sem]
  exact ⟨fun h => by omega, fun h => by omega⟩
theorem spec_l1Abs (n : Int) (hn : -9223372036854775808 < n) (hn' : n < 9223372036854775808) : ∀ H, AC Try.prog 91 [.i n] H (fun v H' => v = .i n.natAbs ∧ H' = H) := by
  refine AC.pure (by simp only [go_sem]) (AC.enter (tbl0) (by kernel_rfl) Try.func91 rfl (by kernel_rfl) (by kernel_rfl) (by simp [Try.ntmps91]) Try.results91 ?_)
  simp only [go_sem]
  refine AC.call (spec_l1Most _ _ _) ?_
  simp only [go_sem]
  rw [w64 _ (by omega) (by omega)]; omega
theorem gcd_step (x n : Nat) : Nat.gcd n (x % n) = Nat.gcd x n := by rw [Nat.gcd_comm x n, Nat.gcd_rec n x, Nat.gcd_comm]
theorem impl_greatestDivisor (a b : Int) (ha : -9223372036854775808 < a) (ha' : a < 9223372036854775808) (hb : -9223372036854775808 < b) (hb' : b < 9223372036854775808) :
    ∀ H, AC Try.prog 92 [.i a, .i b] H (fun v H' => v = .i (Int.gcd a b : Nat) ∧ H' = H) := by
  refine AC.pure (by simp only [go_sem]) (AC.enter (tbl0) (by kernel_rfl) Try.func92 rfl (by kernel_rfl) (by kernel_rfl) (by simp [Try.ntmps92]) Try.results92 ?_)
  simp only [go_sem]
  refine AC.call (impl_abs _ ha ha' _) ?_
  simp only [go_sem]
  refine AC.call (impl_abs _ hb hb' _) ?_
  simp only [go_sem]
  refine ALoop.go (fun s : Nat × Nat => s.2) (fun s => Nat.gcd s.1 s.2 = Int.gcd a b) (fun s => [.i s.1, .i s.2]) (fun _ => []) (a.natAbs, b.natAbs) rfl (fun _ => .same (by simp only [go_sem])) ?_
  rintro ⟨x, n⟩ hg
  simp only [go_sem]
  refine ⟨fun h => ⟨h, ?_⟩, fun h => ?_⟩
  · refine loopK.go (n, x % n) (Nat.mod_lt _ (by omega)) (by rw [gcd_step]; exact hg) (fun _ => .same (by simp only [go_sem]; rfl))
  · have : n = 0 := by omega
    subst this
    simp at hg; omega
end Go.Ab
set_option linter.unusedVariables false
set_option linter.unusedSimpArgs false
namespace Go.Ab
open Go.Proofs
theorem spec_raCommon (x0 y0 : Nat) : ∀ H, AC Try.prog 90 [.i x0, .i y0] H (fun v H' => v = .i (Nat.gcd x0 y0) ∧ H' = H) := by
  refine AC.pure (by simp only [go_sem]) (AC.enter (tbl0) (by kernel_rfl) Try.func90 rfl (by kernel_rfl) (by kernel_rfl) (by simp [Try.ntmps90]) Try.results90 ?_)
  simp only [go_sem]
  refine ALoop.go (fun s : Nat × Nat => s.2) (fun s => Nat.gcd s.1 s.2 = Nat.gcd x0 y0) (fun s => [.i s.1, .i s.2]) (fun _ => []) (x0, y0) rfl (fun _ => .same (by simp only [go_sem])) ?_
  rintro ⟨x, n⟩ hg
  simp only [go_sem]
  refine ⟨fun h => ⟨by omega, ?_⟩, fun h => ?_⟩
  · refine loopK.go (n, x % n) (Nat.mod_lt _ (by omega)) (by rw [gcd_step]; exact hg) (fun _ => .same (by simp only [go_sem]; rfl))
  · have : n = 0 := by omega
    subst this
    simp at hg; omega
abbrev Rt := Int × Int
def goodR (x : Rt) : Bool := (decide (1 ≤ x.2) && decide (x.2 ≤ 1000000000)) && (decide (-1000000000 ≤ x.1) && decide (x.1 ≤ 1000000000)) && decide (Int.gcd x.1 x.2 = 1)
def unitR (x : Rt) : Bool := goodR x && (decide (0 ≤ x.1) && decide (x.1 ≤ x.2))
theorem goodR_b {x : Rt} (h : goodR x = true) : 1 ≤ x.2 ∧ x.2 ≤ 1000000000 ∧ -1000000000 ≤ x.1 ∧ x.1 ≤ 1000000000 := by
  simp [goodR] at h; omega
theorem unitR_b {x : Rt} (h : unitR x = true) : 0 ≤ x.1 ∧ x.1 ≤ x.2 ∧ 1 ≤ x.2 ∧ x.2 ≤ 1000000000 := by
  simp [unitR, goodR] at h; omega
theorem impl_isRat (x : Rt) : ∀ H, AC Try.prog 89 [rat x] H (fun v H' => v = .bool (goodR x) ∧ H' = H) := by
  refine AC.pure (by simp only [go_sem]) (AC.enter (tbl0) (by kernel_rfl) Try.func89 rfl (by kernel_rfl) (by kernel_rfl) (by simp [Try.ntmps89]) Try.results89 ?_)
  simp only [go_sem]
  refine AC.call (impl_within _ _ _ _) ?_
  simp only [go_sem]
  refine ⟨fun h => ?_, fun h => by simp [goodR, h]⟩
  refine AC.call (impl_within _ _ _ _) ?_
  simp only [go_sem]
  refine ⟨fun h' => ?_, fun h' => by simp [goodR, h, h']⟩
  simp at h h'
  refine AC.call (impl_greatestDivisor _ _ (by omega) (by omega) (by omega) (by omega) _) ?_
  simp only [go_sem]
  simp [goodR, h, h']; omega
theorem spec_raGood (x : Rt) : ∀ H, AC Try.prog 87 [rat x] H (fun v H' => v = .bool (goodR x) ∧ H' = H) := by
  refine AC.pure (by simp only [go_sem]) (AC.enter (fun | 1 => some ([0,1,2,3,4,5,6,7,8,9,10,12,13,11,14,15,16,17], []) | _ => none) (by kernel_rfl) Try.func87 rfl (by kernel_rfl) (by kernel_rfl) (by simp [Try.ntmps87]) Try.results87 ?_)
  simp only [go_sem]
  refine AC.call (spec_l1In _ _ _ _) ?_
  simp only [go_sem]
  refine ⟨fun h => ?_, fun h => by simp [goodR, h]⟩
  refine AC.call (spec_l1In _ _ _ _) ?_
  simp only [go_sem]
  refine ⟨fun h' => ?_, fun h' => by simp [goodR, h, h']⟩
  simp at h h'
  refine AC.call (spec_l1Abs _ (by omega) (by omega) _) ?_
  simp only [go_sem]
  obtain ⟨k, hk⟩ : ∃ k : Nat, x.2 = k := ⟨x.2.toNat, by omega⟩
  rw [hk]
  refine AC.call (spec_raCommon _ _ _) ?_
  simp only [go_sem]
  have hg : Int.gcd x.1 x.2 = Nat.gcd x.1.natAbs k := by rw [Int.gcd, hk]; rfl
  have e : goodR x = decide (Int.gcd x.1 x.2 = 1) := by simp [goodR, h, h']
  rw [e, hg, decide_eq_decide]
  omega
theorem impl_isUnit (x : Rt) : ∀ H, AC Try.prog 51 [rat x] H (fun v H' => v = .bool (unitR x) ∧ H' = H) := by
  refine AC.pure (by simp only [go_sem]) (AC.enter (tbl0) (by kernel_rfl) Try.func51 rfl (by kernel_rfl) (by kernel_rfl) (by simp [Try.ntmps51]) Try.results51 ?_)
  simp only [go_sem]
  refine AC.call (impl_isRat _ _) ?_
  simp only [go_sem]
  refine ⟨fun h => ⟨fun h1 => ?_, fun h1 => ?_⟩, fun h => ?_⟩
  · simp [unitR, h]; omega
  · simp [unitR, h]; omega
  · simp [unitR, h]
theorem spec_raUnit (x : Rt) : ∀ H, AC Try.prog 48 [rat x] H (fun v H' => v = .bool (unitR x) ∧ H' = H) := by
  refine AC.pure (by simp only [go_sem]) (AC.enter (tbl0) (by kernel_rfl) Try.func48 rfl (by kernel_rfl) (by kernel_rfl) (by simp [Try.ntmps48]) Try.results48 ?_)
  simp only [go_sem]
  refine AC.call (spec_raGood _ _) ?_
  simp only [go_sem]
  refine ⟨fun h => ?_, fun h => by simp [unitR, h]⟩
  refine AC.call (spec_l1In _ _ _ _) ?_
  simp only [go_sem]
  simp [unitR, h]
/-- The cell of a fraction. -/
def cellN (x : Rt) (w : Int) : Int := min ((x.1 * w).tdiv x.2) (w - 1)
theorem mul_b {n w : Int} (h0 : 0 ≤ n) (h1 : n ≤ 1000000000) (hw : 1 ≤ w) (hw' : w ≤ 1000) : 0 ≤ n * w ∧ n * w ≤ 1000000000000 :=
  ⟨Int.mul_nonneg h0 (by omega), by
    have := Int.mul_le_mul h1 hw' (by omega) (by omega : (0 : Int) ≤ 1000000000)
    omega⟩
theorem tdiv_b {a b M : Int} (h0 : 0 ≤ a) (h1 : a ≤ M) (hb : 1 ≤ b) : 0 ≤ a.tdiv b ∧ a.tdiv b ≤ M := by
  rw [Int.tdiv_eq_ediv_of_nonneg h0]
  exact ⟨Int.ediv_nonneg h0 (by omega), Int.le_trans (Int.ediv_le_self b h0) h1⟩
theorem cellN_b {x : Rt} {w : Int} (h : unitR x = true) (hw : 1 ≤ w) : 0 ≤ cellN x w ∧ cellN x w < w := by
  obtain ⟨h1, h2, h3, h4⟩ := unitR_b h
  have : 0 ≤ (x.1 * w).tdiv x.2 := by
    rw [Int.tdiv_eq_ediv_of_nonneg (Int.mul_nonneg h1 (by omega))]
    exact Int.ediv_nonneg (Int.mul_nonneg h1 (by omega)) (by omega)
  unfold cellN
  omega
theorem impl_cell (x : Rt) (w : Int) (h : unitR x = true) (hw : 1 ≤ w) (hw' : w ≤ 1000) : ∀ H, AC Try.prog 53 [rat x, .i w] H (fun v H' => v = .i (cellN x w) ∧ H' = H) := by
  obtain ⟨h1, h2, h3, h4⟩ := unitR_b h
  obtain ⟨h5, h6⟩ := mul_b h1 (by omega) hw hw'
  obtain ⟨h7, h8⟩ := tdiv_b h5 h6 h3
  refine AC.pure (by simp only [go_sem]) (AC.enter (tbl0) (by kernel_rfl) Try.func53 rfl (by kernel_rfl) (by kernel_rfl) (by simp [Try.ntmps53]) Try.results53 ?_)
  simp only [go_sem]
  refine ⟨by omega, ?_⟩
  rw [w64 (x.1 * w) (by omega) (by omega), w64 _ (by omega) (by omega), w64 _ (by omega) (by omega)]
  rfl
theorem spec_plCell (x : Rt) (w : Int) (h : unitR x = true) (hw : 1 ≤ w) (hw' : w ≤ 1000) : ∀ H, AC Try.prog 50 [rat x, .i w] H (fun v H' => v = .i (cellN x w) ∧ H' = H) := by
  obtain ⟨h1, h2, h3, h4⟩ := unitR_b h
  obtain ⟨h5, h6⟩ := mul_b h1 (by omega) hw hw'
  obtain ⟨h7, h8⟩ := tdiv_b h5 h6 h3
  refine AC.pure (by simp only [go_sem]) (AC.enter (tbl0) (by kernel_rfl) Try.func50 rfl (by kernel_rfl) (by kernel_rfl) (by simp [Try.ntmps50]) Try.results50 ?_)
  simp only [go_sem]
  refine ⟨by omega, ?_⟩
  refine AC.call (spec_l1Least _ _ _) ?_
  simp only [go_sem]
  rw [w64 (x.1 * w) (by omega) (by omega), w64 _ (by omega) (by omega), w64 _ (by omega) (by omega)]
  exact Int.min_comm _ _
/-- What CellOf returns. -/
def cellB (x : Rt) (w : Int) : Bool := unitR x && (decide (1 ≤ w) && decide (w ≤ 1000))
def cellV (x : Rt) (w : Int) : Int := if cellB x w then cellN x w else 0
theorem impl_CellOf (x : Rt) (w : Int) : ∀ H, AC Try.prog 14 [rat x, .i w] H (fun v H' => v = .tup [.i (cellV x w), .bool (cellB x w)] ∧ H' = H) := by
  refine AC.pure (by simp only [go_sem]) (AC.enter (tbl0) (by kernel_rfl) Try.func14 rfl (by kernel_rfl) (by kernel_rfl) (by simp [Try.ntmps14]) Try.results14 ?_)
  simp only [go_sem]
  refine AC.call (impl_isUnit _ _) ?_
  simp only [go_sem]
  refine ⟨fun h => ?_, fun h => by simp [cellV, cellB, h]⟩
  refine AC.call (impl_within _ _ _ _) ?_
  simp only [go_sem]
  refine ⟨fun h1 => ?_, fun h1 => ?_⟩
  · simp [cellV, cellB, h, h1]
  · have h2 := h1
    simp at h1
    refine AC.call (impl_cell _ _ h h1.1 h1.2 _) ?_
    simp only [go_sem]
    simp [cellV, cellB, h, h1]
theorem spec_CellOf (x : Rt) (w : Int) : ∀ H, AC Try.prog 12 [rat x, .i w] H (fun v H' => v = .tup [.i (cellV x w), .bool (cellB x w)] ∧ H' = H) := by
  refine AC.pure (by simp only [go_sem]) (AC.enter (tbl0) (by kernel_rfl) Try.func12 rfl (by kernel_rfl) (by kernel_rfl) (by simp [Try.ntmps12]) Try.results12 ?_)
  simp only [go_sem]
  refine AC.call (spec_raUnit _ _) ?_
  simp only [go_sem]
  refine ⟨fun h => ?_, fun h => by simp [cellV, cellB, h]⟩
  refine AC.call (spec_l1In _ _ _ _) ?_
  simp only [go_sem]
  refine ⟨fun h1 => ?_, fun h1 => ?_⟩
  · simp [cellV, cellB, h, h1]
  · simp at h1
    refine AC.call (spec_plCell _ _ h h1.1 h1.2 _) ?_
    simp only [go_sem]
    simp [cellV, cellB, h, h1]
theorem laws_toRat (x : Rt) : ∀ H, AC Try.prog 13 [rat x] H (fun v H' => v = rat x ∧ H' = H) := by
  refine AC.pure (by simp only [go_sem]) (AC.enter (tbl0) (by kernel_rfl) Try.func13 rfl (by kernel_rfl) (by kernel_rfl) (by simp [Try.ntmps13]) Try.results13 ?_)
  simp only [go_sem]
end Go.Ab
set_option linter.unusedVariables false
set_option linter.unusedSimpArgs false
namespace Go.Ab
open Go.Proofs
def idxF {α : Type} (p : α → Bool) (xs : List α) : Int := match xs.findIdx? p with | some i => (i : Int) | none => -1
theorem take_none {α : Type} {p : α → Bool} {xs : List α} {i : Nat} (h : i < xs.length) (hf : (xs.take i).findIdx? p = none) (hn : p xs[i] = false) : (xs.take (i + 1)).findIdx? p = none := by
  rw [List.findIdx?_eq_none_iff] at hf ⊢
  intro x hx
  rw [List.take_succ_eq_append_getElem h] at hx
  rcases List.mem_append.1 hx with q | q
  · exact hf x q
  · simp at q; subst q; exact hn
theorem idxF_at {α : Type} {p : α → Bool} {xs : List α} {i : Nat} (h : i < xs.length) (hf : (xs.take i).findIdx? p = none) (ht : p xs[i] = true) : idxF p xs = i := by
  have e : xs = xs.take i ++ xs[i] :: xs.drop (i + 1) := by rw [← List.drop_eq_getElem_cons h, List.take_append_drop]
  have hl : (xs.take i).length = i := by simp; omega
  unfold idxF
  rw [e, List.findIdx?_append, hf, List.findIdx?_cons, ht]
  simp; omega
theorem idxF_any {α : Type} (p : α → Bool) (xs : List α) : decide (0 ≤ idxF p xs) = xs.any p := by
  unfold idxF
  cases h : xs.findIdx? p with
  | none =>
    rw [List.findIdx?_eq_none_iff] at h
    have : xs.any p = false := by rw [List.any_eq_false]; intro x hx; simp [h x hx]
    rw [this]; rfl
  | some i =>
    obtain ⟨hi, ht, _⟩ := List.findIdx?_eq_some_iff_getElem.1 h
    have : xs.any p = true := List.any_eq_true.2 ⟨xs[i], List.getElem_mem _, ht⟩
    rw [this]; simp
theorem rvv_self {N : Nat} : ∀ {l : List AV}, BelL N l → rvv (fun b => b) N l l = True
  | [], _ => rfl
  | v :: l, h => by
    rw [rvv_cons, rvv_self (l := l) fun u hu => h u (by simp [hu])]
    simp only [and_true]
    exact eq_true (h v (by simp))
theorem slices_IndexFunc_Rat (xs : List (Rt)) (g : Nat) (cap : List AV) (p : Rt → Bool) (H : AHeap) (hc : BelL H.length cap) (hp : ∀ x, AC Try.prog g (rat x :: cap) H (fun v H' => v = .bool (p x) ∧ H' = H)) :
    AC Try.prog 124 [lR xs, .fn g cap] H (fun v H' => v = .i (idxF p xs) ∧ H' = H) := by
  refine AC.len 0 rfl (fun hl => ?_) ⟨_, Try.func124, rfl, by kernel_rfl⟩
  rw [List.length_map] at hl
  refine AC.enter (tbl0) (by kernel_rfl) Try.func124 rfl (by kernel_rfl) (by kernel_rfl) (by simp [Try.ntmps124]) Try.results124 ?_
  simp only [go_sem]
  refine ALoop.go (fun i => xs.length - i) (fun i => i ≤ xs.length ∧ (xs.take i).findIdx? p = none) (fun i => [lR xs, .fn g cap, .un, .un, .un, .un, .un, .i xs.length, .i (i : Nat)]) (fun _ => H) 0 ⟨Nat.zero_le _, rfl⟩ (fun _ => .same (by simp only [go_sem, rvv_self hc])) ?_
  intro i ⟨hi, hf⟩
  rcases Nat.lt_or_ge i xs.length with hlt | hge
  · simp only [go_sem, getD_map rR hlt, hlt, decide_true]
    refine AC.call (hp xs[i]) ?_
    simp only [go_sem]
    refine ⟨fun ht => by rw [idxF_at hlt hf ht], fun hn => ?_⟩
    exact loopK.go (i + 1) (by omega) ⟨by omega, take_none hlt hf hn⟩ (fun _ => .same (by simp only [go_sem, w64s i (by omega), rvv_self hc]))
  · have h1 : ¬ i < xs.length := by omega
    have : i = xs.length := by omega
    subst this
    simp only [go_sem, h1]
    rw [List.take_length] at hf
    simp [idxF, hf]
theorem slices_ContainsFunc_Rat (xs : List (Rt)) (g : Nat) (cap : List AV) (p : Rt → Bool) (H : AHeap) (hc : BelL H.length cap) (hp : ∀ x, AC Try.prog g (rat x :: cap) H (fun v H' => v = .bool (p x) ∧ H' = H)) :
    AC Try.prog 93 [lR xs, .fn g cap] H (fun v H' => v = .bool (xs.any p) ∧ H' = H) := by
  refine AC.enter (tbl0) (by kernel_rfl) Try.func93 rfl (by kernel_rfl) (by kernel_rfl) (by simp [Try.ntmps93]) Try.results93 ?_
  simp only [go_sem]
  refine AC.call (slices_IndexFunc_Rat xs g cap p H hc hp) ?_
  simp only [go_sem]
  rw [idxF_any p xs]
theorem impl_areUnits_1 (x : Rt) : ∀ H, AC Try.prog 94 [rat x] H (fun v H' => v = .bool (!unitR x) ∧ H' = H) := by
  refine AC.pure (by simp only [go_sem]) (AC.enter (tbl0) (by kernel_rfl) Try.func94 rfl (by kernel_rfl) (by kernel_rfl) (by simp [Try.ntmps94]) Try.results94 ?_)
  simp only [go_sem]
  refine AC.call (impl_isUnit x _) ?_
  simp only [go_sem]
theorem impl_areUnits (xs : List Rt) : ∀ H, AC Try.prog 57 [lR xs] H (fun v H' => v = .bool (xs.all unitR) ∧ H' = H) := by
  refine AC.pure (by simp only [go_sem]) (AC.enter (tbl0) (by kernel_rfl) Try.func57 rfl (by kernel_rfl) (by kernel_rfl) (by simp [Try.ntmps57]) Try.results57 ?_)
  simp only [go_sem]
  refine AC.call (slices_ContainsFunc_Rat xs _ [] (fun x => !unitR x) _ .nil fun x => impl_areUnits_1 x _) ?_
  simp only [go_sem]
  simp [List.all_eq_not_any_not]
end Go.Ab
set_option linter.unusedVariables false
set_option linter.unusedSimpArgs false
namespace Go.Ab
open Go.Proofs
/-! ### Histograms -/
def hStep (w : Int) (acc : List Int) (x : Rt) : List Int := acc.set (cellN x w).toNat (acc.getD (cellN x w).toNat 0 + 1)
def hist (w : Int) (xs : List Rt) : List Int := xs.foldl (hStep w) (List.replicate w.toNat 0)
theorem hist_take {w : Int} {xs : List Rt} {i : Nat} (h : i < xs.length) : hist w (xs.take (i + 1)) = hStep w (hist w (xs.take i)) xs[i] := by
  rw [List.take_succ_eq_append_getElem h, hist, List.foldl_append]; rfl
theorem hStep_len (w : Int) (acc : List Int) (x : Rt) : (hStep w acc x).length = acc.length := by simp [hStep]
theorem hist_len (w : Int) (xs : List Rt) : (hist w xs).length = w.toNat := by
  unfold hist
  suffices h : ∀ (l : List Rt) (acc : List Int), (l.foldl (hStep w) acc).length = acc.length by rw [h]; simp
  intro l
  induction l with
  | nil => intro acc; rfl
  | cons x r ih => intro acc; rw [List.foldl_cons, ih, hStep_len]
theorem hist_b (w : Int) (xs : List Rt) : ∀ e ∈ hist w xs, 0 ≤ e ∧ e ≤ xs.length := by
  unfold hist
  suffices h : ∀ (l : List Rt) (acc : List Int) (m : Nat), (∀ e ∈ acc, 0 ≤ e ∧ e ≤ m) → ∀ e ∈ l.foldl (hStep w) acc, 0 ≤ e ∧ e ≤ (m + l.length : Nat) by
    intro e he
    have := h xs (List.replicate w.toNat 0) 0 (fun e he => by rw [(List.mem_replicate.1 he).2]; omega) e he
    omega
  intro l
  induction l with
  | nil => intro acc m h e he; have := h e he; simpa using this
  | cons x r ih =>
    intro acc m h e he
    rw [List.foldl_cons] at he
    have := ih (hStep w acc x) (m + 1) (fun e he => by
      rcases List.mem_or_eq_of_mem_set he with h1 | h1
      · have := h e h1; omega
      · subst h1
        rw [List.getD_eq_getElem?_getD]
        cases hg : acc[(cellN x w).toNat]? with
        | none => simp; omega
        | some v => have := h v (List.mem_of_getElem? hg); simp; omega) e he
    simp at this ⊢
    omega
def histB (w : Int) (xs : List Rt) : Bool := decide (xs.length ≤ 100) && xs.all unitR && (decide (1 ≤ w) && decide (w ≤ 60))
def histV (w : Int) (xs : List Rt) : List Int := if histB w xs then hist w xs else []
theorem hist_step {w : Int} {xs : List Rt} {i : Nat} (hlt : i < xs.length) (hl : xs.length ≤ 100) (hu : unitR xs[i] = true) (hw : 1 ≤ w ∧ w ≤ 60) :
    (0 ≤ cellN xs[i] w ∧ cellN xs[i] w < (w.toNat : Int)) ∧ ((hist w (xs.take i)).map rI)[(cellN xs[i] w).toNat]? = some [.i ((hist w (xs.take i)).getD (cellN xs[i] w).toNat 0)] ∧
    IntKind.i64.wrap ((hist w (xs.take i)).getD (cellN xs[i] w).toNat 0 + 1) = (hist w (xs.take i)).getD (cellN xs[i] w).toNat 0 + 1 ∧
    ((hist w (xs.take i)).map rI).set (cellN xs[i] w).toNat [.i ((hist w (xs.take i)).getD (cellN xs[i] w).toNat 0 + 1)] = (hist w (xs.take (i + 1))).map rI := by
  obtain ⟨c0, c1⟩ := cellN_b hu hw.1
  have hlen := hist_len w (xs.take i)
  have hcl2 : (cellN xs[i] w).toNat < (hist w (xs.take i)).length := by omega
  refine ⟨⟨c0, by omega⟩, ?_, ?_, ?_⟩
  · rw [get_map rI hcl2, List.getD_eq_getElem?_getD, List.getElem?_eq_getElem hcl2]; rfl
  · have := hist_b w (xs.take i) ((hist w (xs.take i)).getD (cellN xs[i] w).toNat 0) (by rw [List.getD_eq_getElem?_getD, List.getElem?_eq_getElem hcl2]; exact List.getElem_mem _)
    have htl : (xs.take i).length ≤ 100 := by simp; omega
    exact w64 _ (by omega) (by omega)
  · rw [hist_take hlt, hStep, List.map_set]; rfl
theorem histV_len (w : Int) (xs : List Rt) : (histV w xs).length ≤ 60 := by
  unfold histV
  split
  · rename_i h
    simp [histB] at h
    rw [hist_len]; omega
  · simp
theorem impl_HistogramOf (xs : List Rt) (w : Int) : AC Try.prog 23 [lR xs, .i w] [] (fun v H' => v = .tup [.sl 0 0 (histV w xs).length, .bool (histB w xs)] ∧ H' = [some ⟨true, 1, (histV w xs).map rI⟩]) := by
  refine AC.own (.map bel_rI _) (AC.enter (tbl0) (by kernel_rfl) Try.func23 rfl (by kernel_rfl) (by kernel_rfl) (by simp [Try.ntmps23]) Try.results23 ?_)
  have no : histB w xs = false → Own1 1 ((histV w xs).map rI) (.tup [.sl 0 0 (histV w xs).length, .bool (histB w xs)]) (.tup [.nil, .bool false]) [] := fun h => by
    simp only [histV, h]; exact ⟨0, .inr ⟨rfl, rfl⟩, by simp only [go_sem]⟩
  simp only [go_sem]
  refine ⟨fun h => ?_, fun h => no (by simp [histB]; omega)⟩
  refine AC.call (impl_areUnits xs _) ?_
  simp only [go_sem]
  refine ⟨fun h1 => ?_, fun h1 => no (by simp only [histB, h1]; simp)⟩
  refine AC.call (impl_within _ _ _ _) ?_
  simp only [go_sem]
  refine ⟨fun h2 => no (by simp only [histB, h2]; simp), fun h2 => ?_⟩
  have hB : histB w xs = true := by simp only [histB, h1, h2]; simp; omega
  have hV : histV w xs = hist w xs := by rw [histV, if_pos hB]
  simp at h2
  rw [hB, hV]
  refine ⟨by omega, by omega, by omega, ?_⟩
  have hz : List.replicate w.toNat [AV.int .i64 0] = (hist w (xs.take 0)).map rI := by simp [hist, rI]
  refine ALoop.go (fun i => xs.length - i) (fun i => i ≤ xs.length) (fun i => [lR xs, .i w, .un, .un, .un, .un, .sl 0 0 w.toNat, .un, .un, .un, .un, .un, .un, .un, .un, .un, .un, .un, .un, .un, .un, .un, .un, .un, lR xs, .i xs.length, .i (i : Nat)]) (fun i => [some ⟨true, 1, (hist w (xs.take i)).map rI⟩]) 0 (Nat.zero_le _) (fun _ => by rw [← hz]; exact .same (by simp only [go_sem])) ?_
  intro i hi
  rcases Nat.lt_or_ge i xs.length with hlt | hge
  · have hu : unitR xs[i] = true := List.all_eq_true.1 h1 xs[i] (List.getElem_mem _)
    obtain ⟨c0, c1, c2, c3⟩ := hist_step hlt (by omega) hu h2
    simp only [go_sem, getD_map rR hlt, hlt, decide_true]
    refine AC.call (impl_cell _ _ hu h2.1 (by omega) _) ?_
    simp only [go_sem, c0, c1, c2, c3]
    exact loopK.go (i + 1) (by omega) (by omega) (fun _ => .ks [] [0] rfl (by simp) rfl ⟨.map bel_rI _, trivial⟩ (by simp only [go_sem, w64s i (by omega)]))
  · have h3 : ¬ i < xs.length := by omega
    have : i = xs.length := by omega
    subst this
    simp only [go_sem, h3]
    exact ⟨0, .inl (by rw [List.take_length]; rfl), by simp only [go_sem, hist_len]⟩
theorem spec_HistogramOf (xs : List Rt) (w : Int) : AC Try.prog 21 [lR xs, .i w] [] (fun v H' => v = .tup [.sl 0 0 (histV w xs).length, .bool (histB w xs)] ∧ H' = [some ⟨true, 1, (histV w xs).map rI⟩]) := by
  refine AC.own (.map bel_rI _) (AC.enter (tbl0) (by kernel_rfl) Try.func21 rfl (by kernel_rfl) (by kernel_rfl) (by simp [Try.ntmps21]) Try.results21 ?_)
  have no : ∀ H, histB w xs = false → Own1 1 ((histV w xs).map rI) (.tup [.sl 0 0 (histV w xs).length, .bool (histB w xs)]) (.tup [.nil, .bool false]) H := fun H h => by
    simp only [histV, h]; exact ⟨_, .inr ⟨rfl, rfl⟩, by simp only [go_sem]⟩
  simp only [go_sem]
  refine ⟨fun h => ?_, fun h => no _ (by simp [histB]; omega)⟩
  refine AC.call (spec_l1In _ _ _ _) ?_
  simp only [go_sem]
  refine ⟨fun h2 => no _ (by simp only [histB, h2]; simp), fun h2 => ?_⟩
  have h2' := h2
  simp at h2
  refine ⟨by omega, by omega, by omega, ?_⟩
  have hz : List.replicate w.toNat [AV.int .i64 0] = (hist w (xs.take 0)).map rI := by simp [hist, rI]
  refine ALoop.go (fun i => xs.length - i) (fun i => i ≤ xs.length ∧ (xs.take i).all unitR = true) (fun i => [lR xs, .i w, .un, .un, .un, .un, .sl 0 0 w.toNat, .un, .un, .un, .un, .un, .un, .un, .un, .un, .un, .un, .un, lR xs, .i xs.length, .i (i : Nat)]) (fun i => [some ⟨true, 1, (hist w (xs.take i)).map rI⟩]) 0 ⟨Nat.zero_le _, rfl⟩ (fun _ => by rw [← hz]; exact .same (by simp only [go_sem])) ?_
  intro i ⟨hi, hall⟩
  rcases Nat.lt_or_ge i xs.length with hlt | hge
  · simp only [go_sem, getD_map rR hlt, hlt, decide_true]
    refine AC.call (spec_raUnit xs[i] _) ?_
    simp only [go_sem]
    refine ⟨fun hu => no _ ?_, fun hu => ?_⟩
    · have hf : xs.all unitR = false := List.all_eq_false.2 ⟨xs[i], List.getElem_mem _, by simp [hu]⟩
      simp only [histB, hf]; simp
    obtain ⟨c0, c1, c2, c3⟩ := hist_step hlt (by omega) hu h2
    refine AC.call (spec_plCell _ _ hu h2.1 (by omega) _) ?_
    simp only [go_sem, c0, c1, c2, c3]
    exact loopK.go (i + 1) (by omega) ⟨by omega, by rw [List.take_succ_eq_append_getElem hlt, List.all_append, hall]; simp [hu]⟩ (fun _ => .ks [] [0] rfl (by simp) rfl ⟨.map bel_rI _, trivial⟩ (by simp only [go_sem, w64s i (by omega)]))
  · have h3 : ¬ i < xs.length := by omega
    have : i = xs.length := by omega
    subst this
    rw [List.take_length] at hall
    have hB : histB w xs = true := by simp only [histB, h2', hall]; simp; omega
    have hV : histV w xs = hist w xs := by rw [histV, if_pos hB]
    rw [hB, hV]
    simp only [go_sem, h3]
    exact ⟨0, .inl (by rw [List.take_length]; rfl), by simp only [go_sem, hist_len]⟩
end Go.Ab
set_option linter.unusedVariables false
set_option linter.unusedSimpArgs false
namespace Go.Ab
open Go.Proofs
/-! ### The laws' own helpers -/
theorem fill_get {α : Type} (r : α → List AV) (z : List AV) (xs : List α) {i : Nat} (h : i < xs.length) : ((xs.take i).map r ++ List.replicate (xs.length - i) z)[i]? = some z := by
  have : ((xs.take i).map r).length = i := by simp; omega
  rw [List.getElem?_append_right (by omega), this, Nat.sub_self, List.getElem?_replicate, if_pos (by omega)]
theorem fill_set {α : Type} (r : α → List AV) (z : List AV) (xs : List α) {i : Nat} (h : i < xs.length) : ((xs.take i).map r ++ List.replicate (xs.length - i) z).set i (r xs[i]) = (xs.take (i + 1)).map r ++ List.replicate (xs.length - (i + 1)) z := by
  have : ((xs.take i).map r).length = i := by simp; omega
  rw [List.set_append_right _ _ (by omega), this, Nat.sub_self, List.take_succ_eq_append_getElem h, show xs.length - i = (xs.length - (i + 1)) + 1 by omega, List.replicate_succ, List.map_append, List.append_assoc]
  rfl
theorem fill_len {α : Type} (r : α → List AV) (z : List AV) (xs : List α) {i : Nat} (h : i ≤ xs.length) : ((xs.take i).map r ++ List.replicate (xs.length - i) z).length = xs.length := by simp; omega
theorem map_range_get {α : Type} (f : Nat → α) {n i : Nat} (h : i < n) (h' : i < ((List.range n).map f).length) : ((List.range n).map f)[i] = f i := by simp
theorem laws_eqRat (x : Rt) : ∀ H, AC Try.prog 56 [rat x, rat x] H (fun v H' => v = .bool true ∧ H' = H) := by
  refine AC.pure (by simp only [go_sem]) (AC.enter (tbl0) (by kernel_rfl) Try.func56 rfl (by kernel_rfl) (by kernel_rfl) (by simp [Try.ntmps56]) Try.results56 ?_)
  simp only [go_sem, decide_true]
theorem laws_eqPoint (p : Rt × Rt) : ∀ H, AC Try.prog 76 [pnt p, pnt p] H (fun v H' => v = .bool true ∧ H' = H) := by
  refine AC.pure (by simp only [go_sem]) (AC.enter (tbl0) (by kernel_rfl) Try.func76 rfl (by kernel_rfl) (by kernel_rfl) (by simp [Try.ntmps76]) Try.results76 ?_)
  simp only [go_sem]
  refine AC.call (laws_eqRat p.1 _) ?_
  simp only [go_sem]
  refine AC.call (laws_eqRat p.2 _) ?_
  simp only [go_sem]
theorem laws_eqIntS (xs : List (Int)) : ∀ H, AC Try.prog 24 [lI xs, lI xs] H (fun v H' => v = .bool true ∧ H' = H) := by
  refine AC.pure (by simp only [go_sem]) (AC.len 0 rfl (fun hl => ?_) ⟨_, Try.func24, rfl, by kernel_rfl⟩)
  rw [List.length_map] at hl
  refine AC.enter (tbl0) (by kernel_rfl) Try.func24 rfl (by kernel_rfl) (by kernel_rfl) (by simp [Try.ntmps24]) Try.results24 ?_
  simp only [go_sem, decide_true]
  refine ALoop.go (fun i => xs.length - i) (fun i => i ≤ xs.length) (fun i => [lI xs, lI xs, .un, .un, .un, .i (i : Nat)]) (fun _ => []) 0 (Nat.zero_le _) (fun _ => .same (by simp only [go_sem])) ?_
  intro i hi
  rcases Nat.lt_or_ge i xs.length with hlt | hge
  · simp only [go_sem, getD_map rI hlt, hlt, decide_true]
    skip
    exact loopK.go (i + 1) (by omega) (by omega) (fun _ => .same (by simp only [go_sem, w64s i (by omega)]))
  · have : ¬ i < xs.length := by omega
    simp only [go_sem, this]
theorem laws_eqStringS (xs : List (List UInt8)) : ∀ H, AC Try.prog 36 [lS xs, lS xs] H (fun v H' => v = .bool true ∧ H' = H) := by
  refine AC.pure (by simp only [go_sem]) (AC.len 0 rfl (fun hl => ?_) ⟨_, Try.func36, rfl, by kernel_rfl⟩)
  rw [List.length_map] at hl
  refine AC.enter (tbl0) (by kernel_rfl) Try.func36 rfl (by kernel_rfl) (by kernel_rfl) (by simp [Try.ntmps36]) Try.results36 ?_
  simp only [go_sem, decide_true]
  refine ALoop.go (fun i => xs.length - i) (fun i => i ≤ xs.length) (fun i => [lS xs, lS xs, .un, .un, .un, .i (i : Nat)]) (fun _ => []) 0 (Nat.zero_le _) (fun _ => .same (by simp only [go_sem])) ?_
  intro i hi
  rcases Nat.lt_or_ge i xs.length with hlt | hge
  · simp only [go_sem, getD_map rS hlt, hlt, decide_true]
    skip
    exact loopK.go (i + 1) (by omega) (by omega) (fun _ => .same (by simp only [go_sem, w64s i (by omega)]))
  · have : ¬ i < xs.length := by omega
    simp only [go_sem, this]
theorem laws_eqRatS (xs : List (Rt)) : ∀ H, AC Try.prog 17 [lR xs, lR xs] H (fun v H' => v = .bool true ∧ H' = H) := by
  refine AC.pure (by simp only [go_sem]) (AC.len 0 rfl (fun hl => ?_) ⟨_, Try.func17, rfl, by kernel_rfl⟩)
  rw [List.length_map] at hl
  refine AC.enter (tbl0) (by kernel_rfl) Try.func17 rfl (by kernel_rfl) (by kernel_rfl) (by simp [Try.ntmps17]) Try.results17 ?_
  simp only [go_sem, decide_true]
  refine ALoop.go (fun i => xs.length - i) (fun i => i ≤ xs.length) (fun i => [lR xs, lR xs, .un, .un, .un, .i (i : Nat)]) (fun _ => []) 0 (Nat.zero_le _) (fun _ => .same (by simp only [go_sem])) ?_
  intro i hi
  rcases Nat.lt_or_ge i xs.length with hlt | hge
  · simp only [go_sem, getD_map rR hlt, hlt, decide_true]
    refine AC.call (laws_eqRat xs[i] _) ?_; simp only [go_sem]
    exact loopK.go (i + 1) (by omega) (by omega) (fun _ => .same (by simp only [go_sem, w64s i (by omega)]))
  · have : ¬ i < xs.length := by omega
    simp only [go_sem, this]
theorem laws_eqPointS (xs : List (Rt × Rt)) : ∀ H, AC Try.prog 37 [lP xs, lP xs] H (fun v H' => v = .bool true ∧ H' = H) := by
  refine AC.pure (by simp only [go_sem]) (AC.len 0 rfl (fun hl => ?_) ⟨_, Try.func37, rfl, by kernel_rfl⟩)
  rw [List.length_map] at hl
  refine AC.enter (tbl0) (by kernel_rfl) Try.func37 rfl (by kernel_rfl) (by kernel_rfl) (by simp [Try.ntmps37]) Try.results37 ?_
  simp only [go_sem, decide_true]
  refine ALoop.go (fun i => xs.length - i) (fun i => i ≤ xs.length) (fun i => [lP xs, lP xs, .un, .un, .un, .i (i : Nat)]) (fun _ => []) 0 (Nat.zero_le _) (fun _ => .same (by simp only [go_sem])) ?_
  intro i hi
  rcases Nat.lt_or_ge i xs.length with hlt | hge
  · simp only [go_sem, getD_map rP hlt, hlt, decide_true]
    refine AC.call (laws_eqPoint xs[i] _) ?_; simp only [go_sem]
    exact loopK.go (i + 1) (by omega) (by omega) (fun _ => .same (by simp only [go_sem, w64s i (by omega)]))
  · have : ¬ i < xs.length := by omega
    simp only [go_sem, this]
theorem laws_szRatS (xs : List (Rt)) (k : Int) (hk : 0 ≤ k) (hk' : k ≤ 1048576) : ∀ H, AC Try.prog 20 [lR xs, .i k] H (fun v H' => v = .i (if k < xs.length then -1 else k - xs.length) ∧ H' = H) := by
  refine AC.pure (by simp only [go_sem]) (AC.len 0 rfl (fun hl => ?_) ⟨_, Try.func20, rfl, by kernel_rfl⟩)
  rw [List.length_map] at hl
  have hw : IntKind.i64.wrap (k - (xs.length : Int)) = k - xs.length := w64 _ (by omega) (by omega)
  refine AC.enter (tbl0) (by kernel_rfl) Try.func20 rfl (by kernel_rfl) (by kernel_rfl) (by simp [Try.ntmps20]) Try.results20 ?_
  simp only [go_sem, hw]
  refine ⟨fun h => ?_, fun h => ?_⟩
  · rw [if_pos (by omega)]
  · rw [if_neg (by omega)]
theorem laws_szPointS (xs : List (Rt × Rt)) (k : Int) (hk : 0 ≤ k) (hk' : k ≤ 1048576) : ∀ H, AC Try.prog 32 [lP xs, .i k] H (fun v H' => v = .i (if k < xs.length then -1 else k - xs.length) ∧ H' = H) := by
  refine AC.pure (by simp only [go_sem]) (AC.len 0 rfl (fun hl => ?_) ⟨_, Try.func32, rfl, by kernel_rfl⟩)
  rw [List.length_map] at hl
  have hw : IntKind.i64.wrap (k - (xs.length : Int)) = k - xs.length := w64 _ (by omega) (by omega)
  refine AC.enter (tbl0) (by kernel_rfl) Try.func32 rfl (by kernel_rfl) (by kernel_rfl) (by simp [Try.ntmps32]) Try.results32 ?_
  simp only [go_sem, hw]
  refine ⟨fun h => ?_, fun h => ?_⟩
  · rw [if_pos (by omega)]
  · rw [if_neg (by omega)]
theorem laws_toPoint (p : Rt × Rt) : ∀ H, AC Try.prog 69 [pnt p] H (fun v H' => v = pnt p ∧ H' = H) := by
  refine AC.pure (by simp only [go_sem]) (AC.enter (tbl0) (by kernel_rfl) Try.func69 rfl (by kernel_rfl) (by kernel_rfl) (by simp [Try.ntmps69]) Try.results69 ?_)
  simp only [go_sem]
  refine AC.call (laws_toRat p.1 _) ?_
  simp only [go_sem]
  refine AC.call (laws_toRat p.2 _) ?_
  simp only [go_sem]
theorem laws_toIntS (xs : List (Int)) (hx : xs.length ≤ 1048576) : AC Try.prog 30 [lI xs] [] (fun v H' => v = .sl 0 0 xs.length ∧ H' = [some ⟨true, 1, xs.map rI⟩]) := by
  refine AC.own (.map bel_rI _) (AC.enter (tbl0) (by kernel_rfl) Try.func30 rfl (by kernel_rfl) (by kernel_rfl) (by simp [Try.ntmps30]) Try.results30 ?_)
  simp only [go_sem]
  refine ⟨by omega, by omega, ?_⟩
  refine ALoop.go (fun i => xs.length - i) (fun i => i ≤ xs.length) (fun i => [lI xs, .un, .un, .sl 0 0 xs.length, .i (i : Nat)]) (fun i => [some ⟨true, 1, (xs.take i).map rI ++ List.replicate (xs.length - i) [AV.i 0]⟩]) 0 (Nat.zero_le _) (fun _ => .same (by simp only [go_sem])) ?_
  intro i hi
  rcases Nat.lt_or_ge i xs.length with hlt | hge
  · have hfs := fill_set rI [AV.i 0] xs hlt
    rw [rI_eq] at hfs
    simp only [go_sem, getD_map rI hlt, hlt, decide_true, fill_get rI _ _ hlt, hfs]
    skip
    refine loopK.go (i + 1) (by omega) (by omega) (fun _ => .same ?_)
    simp only [go_sem, w64s i (by omega)]
  · have : ¬ i < xs.length := by omega
    simp only [go_sem, this]
    have : i = xs.length := by omega
    subst this
    exact ⟨0, .inl (by simp [hget]), by simp only [go_sem]⟩
theorem laws_toRatS (xs : List (Rt)) (hx : xs.length ≤ 1048576) : AC Try.prog 22 [lR xs] [] (fun v H' => v = .sl 0 0 xs.length ∧ H' = [some ⟨true, 2, xs.map rR⟩]) := by
  refine AC.own (.map bel_rR _) (AC.enter (tbl0) (by kernel_rfl) Try.func22 rfl (by kernel_rfl) (by kernel_rfl) (by simp [Try.ntmps22]) Try.results22 ?_)
  simp only [go_sem]
  refine ⟨by omega, by omega, ?_⟩
  refine ALoop.go (fun i => xs.length - i) (fun i => i ≤ xs.length) (fun i => [lR xs, .un, .un, .sl 0 0 xs.length, .i (i : Nat)]) (fun i => [some ⟨true, 2, (xs.take i).map rR ++ List.replicate (xs.length - i) [AV.i 0, AV.i 0]⟩]) 0 (Nat.zero_le _) (fun _ => .same (by simp only [go_sem])) ?_
  intro i hi
  rcases Nat.lt_or_ge i xs.length with hlt | hge
  · have hfs := fill_set rR [AV.i 0, AV.i 0] xs hlt
    rw [rR_eq] at hfs
    simp only [go_sem, getD_map rR hlt, hlt, decide_true, fill_get rR _ _ hlt, hfs]
    refine AC.call (laws_toRat xs[i] _) ?_; simp only [go_sem, hlt, fill_get rR _ _ hlt, hfs]
    refine loopK.go (i + 1) (by omega) (by omega) (fun _ => .same ?_)
    simp only [go_sem, w64s i (by omega)]
  · have : ¬ i < xs.length := by omega
    simp only [go_sem, this]
    have : i = xs.length := by omega
    subst this
    exact ⟨0, .inl (by simp [hget]), by simp only [go_sem]⟩
theorem laws_toPointS (xs : List (Rt × Rt)) (hx : xs.length ≤ 1048576) : AC Try.prog 34 [lP xs] [] (fun v H' => v = .sl 0 0 xs.length ∧ H' = [some ⟨true, 4, xs.map rP⟩]) := by
  refine AC.own (.map bel_rP _) (AC.enter (tbl0) (by kernel_rfl) Try.func34 rfl (by kernel_rfl) (by kernel_rfl) (by simp [Try.ntmps34]) Try.results34 ?_)
  simp only [go_sem]
  refine ⟨by omega, by omega, ?_⟩
  refine ALoop.go (fun i => xs.length - i) (fun i => i ≤ xs.length) (fun i => [lP xs, .un, .un, .sl 0 0 xs.length, .i (i : Nat)]) (fun i => [some ⟨true, 4, (xs.take i).map rP ++ List.replicate (xs.length - i) [AV.i 0, AV.i 0, AV.i 0, AV.i 0]⟩]) 0 (Nat.zero_le _) (fun _ => .same (by simp only [go_sem])) ?_
  intro i hi
  rcases Nat.lt_or_ge i xs.length with hlt | hge
  · have hfs := fill_set rP [AV.i 0, AV.i 0, AV.i 0, AV.i 0] xs hlt
    rw [rP_eq] at hfs
    simp only [go_sem, getD_map rP hlt, hlt, decide_true, fill_get rP _ _ hlt, hfs]
    refine AC.call (laws_toPoint xs[i] _) ?_; simp only [go_sem, hlt, fill_get rP _ _ hlt, hfs]
    refine loopK.go (i + 1) (by omega) (by omega) (fun _ => .same ?_)
    simp only [go_sem, w64s i (by omega)]
  · have : ¬ i < xs.length := by omega
    simp only [go_sem, this]
    have : i = xs.length := by omega
    subst this
    exact ⟨0, .inl (by simp [hget]), by simp only [go_sem]⟩
/-- What is marked. -/
def mkI (k : Nat) (i : Nat) : Int := ((k + 1 * i : Nat) : Int)
def mkR (k : Nat) (i : Nat) : Rt := (((k + 2 * i : Nat) : Int), ((k + 2 * i + 1 : Nat) : Int))
def mkP (k : Nat) (i : Nat) : Rt × Rt := ((((k + 4 * i : Nat) : Int), ((k + 4 * i + 1 : Nat) : Int)), (((k + 4 * i + 2 : Nat) : Int), ((k + 4 * i + 3 : Nat) : Int)))
def marks {α : Type} (m : Nat → α) (n : Nat) : List α := (List.range n).map m
theorem marks_len {α : Type} (m : Nat → α) (n : Nat) : (marks m n).length = n := by simp [marks]
theorem marks_get {α : Type} (m : Nat → α) {n i : Nat} (h : i < (marks m n).length) : (marks m n)[i] = m i := by simp [marks]
theorem marks_succ {α : Type} (m : Nat → α) (n : Nat) : marks m (n + 1) = marks m n ++ [m n] := by simp [marks, List.range_succ]
theorem mk_get {α : Type} (r : α → List AV) (m : Nat → α) (xs : List α) {i : Nat} (h : i < xs.length) : ((marks m i).map r ++ (xs.drop i).map r)[i]? = some (r xs[i]) := by
  rw [List.getElem?_append_right (by simp [marks]), List.length_map, marks_len, Nat.sub_self, List.drop_eq_getElem_cons h]
  rfl
theorem mk_set {α : Type} (r : α → List AV) (m : Nat → α) (xs : List α) {i : Nat} (h : i < xs.length) (row : List AV) (hrow : r (m i) = row) : ((marks m i).map r ++ (xs.drop i).map r).set i row = (marks m (i + 1)).map r ++ (xs.drop (i + 1)).map r := by
  rw [List.set_append_right _ _ (by simp [marks]), List.length_map, marks_len, Nat.sub_self, List.drop_eq_getElem_cons h, marks_succ, List.map_append, List.append_assoc, ← hrow]
  rfl
theorem mk_len {α : Type} (r : α → List AV) (m : Nat → α) (xs : List α) {i : Nat} (h : i ≤ xs.length) : ((marks m i).map r ++ (xs.drop i).map r).length = xs.length := by simp [marks]; omega
theorem mk_end {α : Type} (r : α → List AV) (m : Nat → α) (xs : List α) : (marks m xs.length).map r ++ (xs.drop xs.length).map r = (marks m xs.length).map r := by simp
theorem mk_0 {α : Type} (r : α → List AV) (m : Nat → α) (xs : List α) : (marks m 0).map r ++ (xs.drop 0).map r = xs.map r := by simp [marks]
theorem laws_markIntS (xs : List (Int)) (k : Nat) (hx : xs.length ≤ 1048576) (hk : k ≤ 1048576) (b : Nat) (H : AHeap) (hb : hget H b = some ⟨true, 1, xs.map rI⟩) :
    AC Try.prog 25 [.sl b 0 xs.length, .i k] H (fun v H' => v = .i (k + 1 * xs.length : Nat) ∧ H' = H.set b (some ⟨true, 1, (marks (mkI k) xs.length).map rI⟩)) := by
  have hbl := hget_lt hb
  have hw := fun (j : Nat) (hj : j ≤ 9999999) => w64s j (by omega)
  refine AC.enter (tbl0) (by kernel_rfl) Try.func25 rfl (by kernel_rfl) (by kernel_rfl) (by simp [Try.ntmps25]) Try.results25 ?_
  simp only [go_sem]
  refine ALoop.go (fun i => xs.length - i) (fun i => i ≤ xs.length) (fun i => [.sl b 0 xs.length, .i (k + 1 * i : Nat), .un, .un, .un, .i (i : Nat)]) (fun i => H.set b (some ⟨true, 1, (marks (mkI k) i).map rI ++ (xs.drop i).map rI⟩)) 0 (Nat.zero_le _) (fun _ => ?_) ?_
  · simp only [mk_0, set_self hb]
    refine .same ?_
    simp only [go_sem, Nat.mul_zero, hbl]
  intro i hi
  rcases Nat.lt_or_ge i xs.length with hlt | hge
  · have hg := mk_get rI (mkI k) xs hlt
    rw [rI_eq] at hg
    have hs := mk_set rI (mkI k) xs hlt [.i (k + 1 * i : Nat)] rfl
    have hgs := fun X => hget_set hb (some X)
    simp only [go_sem, hgs, hlt, hg, decide_true, hs, hw (k + 1 * i) (by omega)]
    refine loopK.go (i + 1) (by omega) (by omega) (fun _ => .same ?_)
    simp only [go_sem, List.length_set, hbl, w64s i (by omega)]
    omega
  · have h1 : ¬ i < xs.length := by omega
    have : i = xs.length := by omega
    subst this
    simp only [go_sem, h1, mk_end]
theorem set_set_at {α : Type} (l : List α) (i : Nat) (a b : α) : (l.set i a).set i b = l.set i b := List.set_set ..
theorem get_set_at {α : Type} {l : List α} {i : Nat} {b : α} (h : l[i]? = some b) (a : α) : (l.set i a)[i]? = some a := by
  rw [List.getElem?_set_self (List.getElem?_eq_some_iff.1 h).1]
theorem laws_markRatS (xs : List (Rt)) (k : Nat) (hx : xs.length ≤ 1048576) (hk : k ≤ 1048576) (b : Nat) (H : AHeap) (hb : hget H b = some ⟨true, 2, xs.map rR⟩) :
    AC Try.prog 18 [.sl b 0 xs.length, .i k] H (fun v H' => v = .i (k + 2 * xs.length : Nat) ∧ H' = H.set b (some ⟨true, 2, (marks (mkR k) xs.length).map rR⟩)) := by
  have hbl := hget_lt hb
  have hw := fun (j : Nat) (hj : j ≤ 9999999) => w64s j (by omega)
  refine AC.enter (tbl0) (by kernel_rfl) Try.func18 rfl (by kernel_rfl) (by kernel_rfl) (by simp [Try.ntmps18]) Try.results18 ?_
  simp only [go_sem]
  refine ALoop.go (fun i => xs.length - i) (fun i => i ≤ xs.length) (fun i => [.sl b 0 xs.length, .i (k + 2 * i : Nat), .un, .un, .un, .i (i : Nat)]) (fun i => H.set b (some ⟨true, 2, (marks (mkR k) i).map rR ++ (xs.drop i).map rR⟩)) 0 (Nat.zero_le _) (fun _ => ?_) ?_
  · simp only [mk_0, set_self hb]
    refine .same ?_
    simp only [go_sem, Nat.mul_zero, hbl]
  intro i hi
  rcases Nat.lt_or_ge i xs.length with hlt | hge
  · have hg := mk_get rR (mkR k) xs hlt
    rw [rR_eq] at hg
    have hs := mk_set rR (mkR k) xs hlt [.i (k + 2 * i : Nat), .i (k + 2 * i + 1 : Nat)] rfl
    have hgs := fun X => hget_set hb (some X)
    simp only [go_sem, hgs, hlt, hg, decide_true, hs, get_set_at hg, mk_len rR (mkR k) xs hi, List.length_set, hw (k + 2 * i) (by omega), hw (k + 2 * i + 1) (by omega)]
    refine loopK.go (i + 1) (by omega) (by omega) (fun _ => .same ?_)
    simp only [go_sem, List.length_set, hbl, w64s i (by omega)]
    omega
  · have h1 : ¬ i < xs.length := by omega
    have : i = xs.length := by omega
    subst this
    simp only [go_sem, h1, mk_end]
theorem laws_markPointS (xs : List (Rt × Rt)) (k : Nat) (hx : xs.length ≤ 1048576) (hk : k ≤ 1048576) (b : Nat) (H : AHeap) (hb : hget H b = some ⟨true, 4, xs.map rP⟩) :
    AC Try.prog 38 [.sl b 0 xs.length, .i k] H (fun v H' => v = .i (k + 4 * xs.length : Nat) ∧ H' = H.set b (some ⟨true, 4, (marks (mkP k) xs.length).map rP⟩)) := by
  have hbl := hget_lt hb
  have hw := fun (j : Nat) (hj : j ≤ 9999999) => w64s j (by omega)
  refine AC.enter (tbl0) (by kernel_rfl) Try.func38 rfl (by kernel_rfl) (by kernel_rfl) (by simp [Try.ntmps38]) Try.results38 ?_
  simp only [go_sem]
  refine ALoop.go (fun i => xs.length - i) (fun i => i ≤ xs.length) (fun i => [.sl b 0 xs.length, .i (k + 4 * i : Nat), .un, .un, .un, .i (i : Nat)]) (fun i => H.set b (some ⟨true, 4, (marks (mkP k) i).map rP ++ (xs.drop i).map rP⟩)) 0 (Nat.zero_le _) (fun _ => ?_) ?_
  · simp only [mk_0, set_self hb]
    refine .same ?_
    simp only [go_sem, Nat.mul_zero, hbl]
  intro i hi
  rcases Nat.lt_or_ge i xs.length with hlt | hge
  · have hg := mk_get rP (mkP k) xs hlt
    rw [rP_eq] at hg
    have hs := mk_set rP (mkP k) xs hlt [.i (k + 4 * i : Nat), .i (k + 4 * i + 1 : Nat), .i (k + 4 * i + 2 : Nat), .i (k + 4 * i + 3 : Nat)] rfl
    have hgs := fun X => hget_set hb (some X)
    simp only [go_sem, hgs, hlt, hg, decide_true, hs, get_set_at hg, mk_len rP (mkP k) xs hi, List.length_set, hw (k + 4 * i) (by omega), hw (k + 4 * i + 1) (by omega), hw (k + 4 * i + 2) (by omega), hw (k + 4 * i + 3) (by omega)]
    refine loopK.go (i + 1) (by omega) (by omega) (fun _ => .same ?_)
    simp only [go_sem, List.length_set, hbl, w64s i (by omega)]
    omega
  · have h1 : ¬ i < xs.length := by omega
    have : i = xs.length := by omega
    subst this
    simp only [go_sem, h1, mk_end]
theorem laws_heldIntS (n k : Nat) (hx : n ≤ 1048576) (hk : k ≤ 1048576) : ∀ H, AC Try.prog 26 [lI (marks (mkI k) n), .i k] H (fun v H' => v = .i (k + 1 * n : Nat) ∧ H' = H) := by
  have hw := fun (j : Nat) (hj : j ≤ 9999999) => w64s j (by omega)
  have hn := marks_len (mkI k) n
  refine AC.pure (by simp only [go_sem]) (AC.enter (tbl0) (by kernel_rfl) Try.func26 rfl (by kernel_rfl) (by kernel_rfl) (by simp [Try.ntmps26]) Try.results26 ?_)
  simp only [go_sem]
  refine ALoop.go (fun i => n - i) (fun i => i ≤ n) (fun i => [lI (marks (mkI k) n), .i (k + 1 * i : Nat), .un, .un, .un, .i (i : Nat)]) (fun i => []) 0 (Nat.zero_le _) (fun _ => .same (by simp only [go_sem, Nat.mul_zero])) ?_
  intro i hi
  rcases Nat.lt_or_ge i n with hlt | hge
  · have hlt2 : i < (marks (mkI k) n).length := by rw [hn]; exact hlt
    have hm := marks_get (mkI k) hlt2
    simp only [go_sem, getD_map rI hlt2, hm, hn, hlt, decide_true, mkI, hw (k + 1 * i) (by omega)]
    refine loopK.go (i + 1) (by omega) (by omega) (fun _ => .same ?_)
    simp only [go_sem, w64s i (by omega)]
    omega
  · have h1 : ¬ i < n := by omega
    have : i = n := by omega
    subst this
    simp only [go_sem, hn, h1]
theorem laws_heldRatS (n k : Nat) (hx : n ≤ 1048576) (hk : k ≤ 1048576) : ∀ H, AC Try.prog 19 [lR (marks (mkR k) n), .i k] H (fun v H' => v = .i (k + 2 * n : Nat) ∧ H' = H) := by
  have hw := fun (j : Nat) (hj : j ≤ 9999999) => w64s j (by omega)
  have hn := marks_len (mkR k) n
  refine AC.pure (by simp only [go_sem]) (AC.enter (tbl0) (by kernel_rfl) Try.func19 rfl (by kernel_rfl) (by kernel_rfl) (by simp [Try.ntmps19]) Try.results19 ?_)
  simp only [go_sem]
  refine ALoop.go (fun i => n - i) (fun i => i ≤ n) (fun i => [lR (marks (mkR k) n), .i (k + 2 * i : Nat), .un, .un, .un, .i (i : Nat)]) (fun i => []) 0 (Nat.zero_le _) (fun _ => .same (by simp only [go_sem, Nat.mul_zero])) ?_
  intro i hi
  rcases Nat.lt_or_ge i n with hlt | hge
  · have hlt2 : i < (marks (mkR k) n).length := by rw [hn]; exact hlt
    have hm := marks_get (mkR k) hlt2
    simp only [go_sem, getD_map rR hlt2, hm, hn, hlt, decide_true, mkR, hw (k + 2 * i) (by omega), hw (k + 2 * i + 1) (by omega)]
    refine loopK.go (i + 1) (by omega) (by omega) (fun _ => .same ?_)
    simp only [go_sem, w64s i (by omega)]
    omega
  · have h1 : ¬ i < n := by omega
    have : i = n := by omega
    subst this
    simp only [go_sem, hn, h1]
theorem laws_heldPointS (n k : Nat) (hx : n ≤ 1048576) (hk : k ≤ 1048576) : ∀ H, AC Try.prog 43 [lP (marks (mkP k) n), .i k] H (fun v H' => v = .i (k + 4 * n : Nat) ∧ H' = H) := by
  have hw := fun (j : Nat) (hj : j ≤ 9999999) => w64s j (by omega)
  have hn := marks_len (mkP k) n
  refine AC.pure (by simp only [go_sem]) (AC.enter (tbl0) (by kernel_rfl) Try.func43 rfl (by kernel_rfl) (by kernel_rfl) (by simp [Try.ntmps43]) Try.results43 ?_)
  simp only [go_sem]
  refine ALoop.go (fun i => n - i) (fun i => i ≤ n) (fun i => [lP (marks (mkP k) n), .i (k + 4 * i : Nat), .un, .un, .un, .i (i : Nat)]) (fun i => []) 0 (Nat.zero_le _) (fun _ => .same (by simp only [go_sem, Nat.mul_zero])) ?_
  intro i hi
  rcases Nat.lt_or_ge i n with hlt | hge
  · have hlt2 : i < (marks (mkP k) n).length := by rw [hn]; exact hlt
    have hm := marks_get (mkP k) hlt2
    simp only [go_sem, getD_map rP hlt2, hm, hn, hlt, decide_true, mkP, hw (k + 4 * i) (by omega), hw (k + 4 * i + 1) (by omega), hw (k + 4 * i + 2) (by omega), hw (k + 4 * i + 3) (by omega)]
    refine loopK.go (i + 1) (by omega) (by omega) (fun _ => .same ?_)
    simp only [go_sem, w64s i (by omega)]
    omega
  · have h1 : ¬ i < n := by omega
    have : i = n := by omega
    subst this
    simp only [go_sem, hn, h1]
end Go.Ab
set_option linter.unusedVariables false
set_option linter.unusedSimpArgs false
namespace Go.Ab
open Go.Proofs
theorem law_HistogramOf (xs : List Rt) (w : Int) : ∀ H, AC Try.prog 5 [lR xs, .i w] H (fun v H' => v = .bool true ∧ H' = H) := by
  refine AC.pure (by simp only [go_sem]) (AC.enter (tbl0) (by kernel_rfl) Try.func5 rfl (by kernel_rfl) (by kernel_rfl) (by simp [Try.ntmps5]) Try.results5 ?_)
  simp only [go_sem]
  refine AC.call (laws_szRatS xs 1048576 (by omega) (by omega) _) ?_
  simp only [go_sem]
  refine ⟨fun h => trivial, fun h => ?_⟩
  have hx : xs.length ≤ 1048576 := by
    rcases Nat.lt_or_ge 1048576 xs.length with h1 | h1
    · rw [if_pos (by omega)] at h; omega
    · exact h1
  have hV := histV_len w xs
  refine AC.call (laws_toRatS xs hx) ?_
  simp only [go_sem]
  refine AC.call (AC.lend (.c (.sl0 rfl (by simp) (.map bel_rR _)) (.c .int .n)) (spec_HistogramOf xs w) (.tupl (.c (.sl _ _ _ _) (.c (.bool _ _) .n))) (.raw (.map raw_rI _))) ?_
  simp only [go_sem]
  refine AC.call (AC.lend (.c .lst .n) (laws_toRatS xs hx) (.sl _ _ _ _) (.raw (.map raw_rR _))) ?_
  simp only [go_sem]
  refine AC.call (AC.lend (.c (.sl0 rfl (by simp) (.map bel_rR _)) (.c .int .n)) (impl_HistogramOf xs w) (.tupl (.c (.sl _ _ _ _) (.c (.bool _ _) .n))) (.raw (.map raw_rI _))) ?_
  simp only [go_sem]
  refine AC.call (AC.lend0 (.c (.sl0 rfl (by simp) (.map bel_rI _)) (.c (.sl0 rfl (by simp) (.map bel_rI _)) .n)) (laws_eqIntS (histV w xs) []) (.bool _ _)) ?_
  simp only [go_sem, beq_self_eq_true]
  refine AC.call (AC.lend (.c .lst .n) (laws_toRatS xs hx) (.sl _ _ _ _) (.raw (.map raw_rR _))) ?_
  simp only [go_sem]
  refine AC.call (AC.lend0 (.c (.sl0 rfl (by simp) (.map bel_rR _)) (.c (.sl0 rfl (by simp) (.map bel_rR _)) .n)) (laws_eqRatS xs []) (.bool _ _)) ?_
  simp only [go_sem]
  refine AC.call (laws_markRatS xs 1 hx (by omega) _ _ rfl) ?_
  simp only [go_sem]
  refine AC.call (AC.lend0 (.c (.sl0 rfl (by simp) (.map bel_rI _)) (.c (.sl0 rfl (by simp) (.map bel_rI _)) .n)) (laws_eqIntS (histV w xs) []) (.bool _ _)) ?_
  simp only [go_sem]
  refine AC.call (laws_markIntS (histV w xs) 1 (by omega) (by omega) _ _ rfl) ?_
  simp only [go_sem]
  refine AC.call (AC.lend0 (.c (.sl0 rfl (by simp [marks]) (.map bel_rI _)) (.c .int .n)) (laws_heldIntS (histV w xs).length 1 (by omega) (by omega) []) (.int _ _ _)) ?_
  simp only [go_sem, decide_true]
  refine AC.call (AC.lend (.c .lst .n) (laws_toRatS xs hx) (.sl _ _ _ _) (.raw (.map raw_rR _))) ?_
  simp only [go_sem]
  refine AC.call (AC.lend (.c (.sl0 rfl (by simp) (.map bel_rR _)) (.c .int .n)) (impl_HistogramOf xs w) (.tupl (.c (.sl _ _ _ _) (.c (.bool _ _) .n))) (.raw (.map raw_rI _))) ?_
  simp only [go_sem]
  refine AC.call (AC.lend0 (.c (.sl0 rfl (by simp) (.map bel_rI _)) (.c (.sl0 rfl (by simp) (.map bel_rI _)) .n)) (laws_eqIntS (histV w xs) []) (.bool _ _)) ?_
  simp only [go_sem]
  refine AC.call (AC.lend0 (.c (.sl0 rfl (by simp [marks]) (.map bel_rI _)) (.c .int .n)) (laws_heldIntS (histV w xs).length 1 (by omega) (by omega) []) (.int _ _ _)) ?_
  simp only [go_sem, decide_true]
end Go.Ab
