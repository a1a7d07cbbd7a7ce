import Derived.Test.YtmgggjaphphkhaaAbB
import Derived.Test.YtmgggjaphphkhaaTy
set_option linter.unusedVariables false
set_option linter.unusedSimpArgs false
namespace Go.Ab
open Go.Proofs
theorem w64 (n : Int) (h0 : -9223372036854775808 ≤ n) (h1 : n < 9223372036854775808) : IntKind.i64.wrap n = n := by
  simp [IntKind.wrap, IntKind.bits, IntKind.signed]; omega
theorem avi {a b : Int} (h : a = b) : AV.i a = AV.i b := congrArg AV.i h

theorem ac52 (n lo hi : Int) (H : AHeap) : AC Try.prog 52 [.i n, .i lo, .i hi] H (fun v H' => v = .bool (decide (lo ≤ n) && decide (n ≤ hi)) ∧ H' = H) := by
  refine AC.enter (tbl0) (by kernel_rfl) Try.func52 rfl (by kernel_rfl) (by kernel_rfl) (by simp [Try.ntmps52]) Try.results52 ?_
  simp only [go_sem]
  refine ⟨fun h => ?_, fun h => ?_⟩ <;> simp [h]
theorem ac49 (n lo hi : Int) (H : AHeap) : AC Try.prog 49 [.i n, .i lo, .i hi] H (fun v H' => v = .bool (decide (lo ≤ n) && decide (n ≤ hi)) ∧ H' = H) := by
  refine AC.enter (tbl0) (by kernel_rfl) Try.func49 rfl (by kernel_rfl) (by kernel_rfl) (by simp [Try.ntmps49]) Try.results49 ?_
  simp only [go_sem]
  refine ⟨fun h => ?_, fun h => ?_⟩ <;> simp [h]
theorem ac123 (n : Int) (hn : -9223372036854775808 < n) (hn' : n < 9223372036854775808) (H : AHeap) : AC Try.prog 123 [.i n] H (fun v H' => v = .i n.natAbs ∧ H' = H) := by
  refine AC.enter (tbl0) (by kernel_rfl) Try.func123 rfl (by kernel_rfl) (by kernel_rfl) (by simp [Try.ntmps123]) Try.results123 ?_
  simp only [go_sem]
  refine ⟨fun h => ?_, fun h => ?_⟩
  · rw [w64 _ (by omega) (by omega)]; exact avi (by omega)
  · exact avi (by omega)
theorem ac122 (a b : Int) (H : AHeap) : AC Try.prog 122 [.i a, .i b] H (fun v H' => v = .i (max a b) ∧ H' = H) := by
  refine AC.enter (tbl0) (by kernel_rfl) Try.func122 rfl (by kernel_rfl) (by kernel_rfl) (by simp [Try.ntmps122]) Try.results122 ?_
  simp only [go_sem]
  exact ⟨fun h => avi (by omega), fun h => avi (by omega)⟩
theorem ac88 (a b : Int) (H : AHeap) : AC Try.prog 88 [.i a, .i b] H (fun v H' => v = .i (min a b) ∧ H' = H) := by
  refine AC.enter (tbl0) (by kernel_rfl) Try.func88 rfl (by kernel_rfl) (by kernel_rfl) (by simp [Try.ntmps88]) Try.results88 ?_
  simp only [go_sem]
  exact ⟨fun h => avi (by omega), fun h => avi (by omega)⟩
theorem ac91 (n : Int) (hn : -9223372036854775808 < n) (hn' : n < 9223372036854775808) (H : AHeap) : AC Try.prog 91 [.i n] H (fun v H' => v = .i n.natAbs ∧ H' = H) := by
  refine AC.enter (tbl0) (by kernel_rfl) Try.func91 rfl (by kernel_rfl) (by kernel_rfl) (by simp [Try.ntmps91]) Try.results91 ?_
  simp only [go_sem]
  refine AC.call (ac122 _ _ _) ?_
  simp only [go_sem]
  rw [w64 _ (by omega) (by omega)]; exact avi (by omega)
theorem gcd_step (x n : Nat) : Nat.gcd n (x % n) = Nat.gcd x n := by rw [Nat.gcd_comm x n, Nat.gcd_rec n x, Nat.gcd_comm]
theorem ac92 (a b : Int) (ha : -9223372036854775808 < a) (ha' : a < 9223372036854775808) (hb : -9223372036854775808 < b) (hb' : b < 9223372036854775808) (H : AHeap) : AC Try.prog 92 [.i a, .i b] H (fun v H' => v = .i (Int.gcd a b : Nat) ∧ H' = H) := by
  refine AC.enter (tbl0) (by kernel_rfl) Try.func92 rfl (by kernel_rfl) (by kernel_rfl) (by simp [Try.ntmps92]) Try.results92 ?_
  simp only [go_sem]
  refine AC.call (ac123 _ ha ha' _) ?_
  simp only [go_sem]
  refine AC.call (ac123 _ hb hb' _) ?_
  simp only [go_sem]
  refine ALoop.mk (fun n l H' => ∃ x y : Nat, n = y ∧ l = [.i x, .i y] ∧ Nat.gcd x y = Int.gcd a b ∧ H' = H) _ [.i a.natAbs, .i b.natAbs] ?_ ⟨_, _, rfl, rfl, rfl, rfl⟩ ?_
  · simp only [go_sem]
  · rintro hc n l H1 ⟨x, y, rfl, rfl, hg, rfl⟩
    simp only [go_sem]
    refine ⟨fun h => ⟨h, ?_⟩, fun h => ?_⟩
    · refine loopK.same hc (x % n) [.i n, .i (x % n : Nat)] (Nat.mod_lt _ (by omega)) ?_ ⟨n, x % n, rfl, rfl, by rw [gcd_step]; exact hg, rfl⟩
      simp only [go_sem]
      rfl
    · have : n = 0 := by omega
      subst this
      exact avi (by rw [← hg]; simp)
theorem ac90 (x0 y0 : Nat) (H : AHeap) : AC Try.prog 90 [.i x0, .i y0] H (fun v H' => v = .i (Nat.gcd x0 y0) ∧ H' = H) := by
  refine AC.enter (tbl0) (by kernel_rfl) Try.func90 rfl (by kernel_rfl) (by kernel_rfl) (by simp [Try.ntmps90]) Try.results90 ?_
  simp only [go_sem]
  refine ALoop.mk (fun n l H' => ∃ x y : Nat, n = y ∧ l = [.i x, .i y] ∧ Nat.gcd x y = Nat.gcd x0 y0 ∧ H' = H) _ [.i x0, .i y0] ?_ ⟨_, _, rfl, rfl, rfl, rfl⟩ ?_
  · simp only [go_sem]
  · rintro hc n l H1 ⟨x, y, rfl, rfl, hg, rfl⟩
    simp only [go_sem]
    refine ⟨fun h => ⟨by omega, ?_⟩, fun h => ?_⟩
    · refine loopK.same hc (x % n) [.i n, .i (x % n : Nat)] (Nat.mod_lt _ (by omega)) ?_ ⟨n, x % n, rfl, rfl, by rw [gcd_step]; exact hg, rfl⟩
      simp only [go_sem]
      rfl
    · have : n = 0 := by omega
      subst this
      exact avi (by rw [← hg]; simp)

def goodR (n d : Int) : Bool := (decide (1 ≤ d) && decide (d ≤ 1000000000)) && (decide (-1000000000 ≤ n) && decide (n ≤ 1000000000)) && decide (Int.gcd n d = 1)
def unitR (n d : Int) : Bool := goodR n d && (decide (0 ≤ n) && decide (n ≤ d))
abbrev rat (n d : Int) : AV := .agg [.i n, .i d]
theorem boolT {b c : Bool} (h : b = c) : AV.bool b = AV.bool c := congrArg AV.bool h

theorem ac89 (n d : Int) (H : AHeap) : AC Try.prog 89 [rat n d] H (fun v H' => v = .bool (goodR n d) ∧ H' = H) := by
  refine AC.gc' (AC.enter (tbl0) (by kernel_rfl) Try.func89 rfl (by kernel_rfl) (by kernel_rfl) (by simp [Try.ntmps89]) Try.results89 ?_)
  simp only [go_sem]
  refine AC.call (ac52 _ _ _ _) ?_
  simp only [go_sem]
  refine ⟨fun h => ?_, fun h => ?_⟩
  · refine AC.call (ac52 _ _ _ _) ?_
    simp only [go_sem]
    refine ⟨fun h' => ?_, fun h' => ?_⟩
    · simp at h h'
      refine AC.call (ac92 _ _ (by omega) (by omega) (by omega) (by omega) _) ?_
      simp only [go_sem]
      refine ⟨⟨_, rfl⟩, boolT ?_⟩
      simp [goodR, h, h']; omega
    · exact ⟨⟨_, rfl⟩, boolT (by simp [goodR, h, h'])⟩
  · exact ⟨⟨_, rfl⟩, boolT (by simp [goodR, h])⟩
theorem ac87 (n d : Int) (H : AHeap) : AC Try.prog 87 [rat n d] H (fun v H' => v = .bool (goodR n d) ∧ H' = H) := by
  refine AC.gc' (AC.enter (fun | 1 => some ([0,1,2,3,4,5,6,7,8,9,10,12,13,11,14,15,16,17], []) | _ => none) (by kernel_rfl) Try.func87 rfl (by kernel_rfl) (by kernel_rfl) (by simp [Try.ntmps87]) Try.results87 ?_)
  simp only [go_sem]
  refine AC.call (ac49 _ _ _ _) ?_
  simp only [go_sem]
  refine ⟨fun h => ?_, fun h => ?_⟩
  · refine AC.call (ac49 _ _ _ _) ?_
    simp only [go_sem]
    refine ⟨fun h' => ?_, fun h' => ?_⟩
    · simp at h h'
      refine AC.call (ac91 _ (by omega) (by omega) _) ?_
      simp only [go_sem]
      obtain ⟨k, rfl⟩ : ∃ k : Nat, d = k := ⟨d.toNat, by omega⟩
      refine AC.call (ac90 _ _ _) ?_
      simp only [go_sem]
      refine ⟨⟨_, rfl⟩, boolT ?_⟩
      simp [goodR, h, h', Int.gcd]
      exact decide_eq_decide.2 (by omega)
    · exact ⟨⟨_, rfl⟩, boolT (by simp [goodR, h, h'])⟩
  · exact ⟨⟨_, rfl⟩, boolT (by simp [goodR, h])⟩
theorem ac51 (n d : Int) (H : AHeap) : AC Try.prog 51 [rat n d] H (fun v H' => v = .bool (unitR n d) ∧ H' = H) := by
  refine AC.gc' (AC.enter (tbl0) (by kernel_rfl) Try.func51 rfl (by kernel_rfl) (by kernel_rfl) (by simp [Try.ntmps51]) Try.results51 ?_)
  simp only [go_sem]
  refine AC.call (ac89 _ _ _) ?_
  simp only [go_sem]
  refine ⟨fun h => ⟨fun h1 => ⟨⟨_, rfl⟩, boolT ?_⟩, fun h1 => ⟨⟨_, rfl⟩, boolT ?_⟩⟩, fun h => ⟨⟨_, rfl⟩, boolT ?_⟩⟩
  · simp [unitR, h, h1]
  · simp [unitR, h, h1]
  · simp [unitR, h]
theorem ac48 (n d : Int) (H : AHeap) : AC Try.prog 48 [rat n d] H (fun v H' => v = .bool (unitR n d) ∧ H' = H) := by
  refine AC.gc' (AC.enter (tbl0) (by kernel_rfl) Try.func48 rfl (by kernel_rfl) (by kernel_rfl) (by simp [Try.ntmps48]) Try.results48 ?_)
  simp only [go_sem]
  refine AC.call (ac87 _ _ _) ?_
  simp only [go_sem]
  refine ⟨fun h => ?_, fun h => ⟨⟨_, rfl⟩, boolT (by simp [unitR, h])⟩⟩
  refine AC.call (ac49 _ _ _ _) ?_
  simp only [go_sem]
  exact ⟨⟨_, rfl⟩, boolT (by simp [unitR, h])⟩
theorem unitR_b {n d : Int} (h : unitR n d = true) : 0 ≤ n ∧ n ≤ d ∧ 1 ≤ d ∧ d ≤ 1000000000 := by
  simp [unitR, goodR] at h; omega
/-- The cell of a fraction. -/
def cellN (n d w : Int) : Int := min ((n * w).tdiv d) (w - 1)
theorem mul_b {n w : Int} (h0 : 0 ≤ n) (h1 : n ≤ 1000000000) (hw : 1 ≤ w) (hw' : w ≤ 1000) : 0 ≤ n * w ∧ n * w ≤ 1000000000000 :=
  ⟨Int.mul_nonneg h0 (by omega), by
    have := Int.mul_le_mul h1 hw' (by omega) (by omega : (0 : Int) ≤ 1000000000)
    omega⟩
theorem tdiv_b {a b M : Int} (h0 : 0 ≤ a) (h1 : a ≤ M) (hb : 1 ≤ b) : 0 ≤ a.tdiv b ∧ a.tdiv b ≤ M := by
  rw [Int.tdiv_eq_ediv_of_nonneg h0]
  exact ⟨Int.ediv_nonneg h0 (by omega), Int.le_trans (Int.ediv_le_self b h0) h1⟩
theorem ac53 (n d w : Int) (h : unitR n d = true) (hw : 1 ≤ w) (hw' : w ≤ 1000) (H : AHeap) : AC Try.prog 53 [rat n d, .i w] H (fun v H' => v = .i (cellN n d w) ∧ H' = H) := by
  obtain ⟨h1, h2, h3, h4⟩ := unitR_b h
  obtain ⟨h5, h6⟩ := mul_b h1 (by omega) hw hw'
  obtain ⟨h7, h8⟩ := tdiv_b h5 h6 h3
  refine AC.gc' (AC.enter (tbl0) (by kernel_rfl) Try.func53 rfl (by kernel_rfl) (by kernel_rfl) (by simp [Try.ntmps53]) Try.results53 ?_)
  simp only [go_sem]
  refine ⟨by omega, ⟨_, rfl⟩, avi ?_⟩
  rw [w64 (n * w) (by omega) (by omega), w64 _ (by omega) (by omega), w64 _ (by omega) (by omega)]
  rfl
theorem ac50 (n d w : Int) (h : unitR n d = true) (hw : 1 ≤ w) (hw' : w ≤ 1000) (H : AHeap) : AC Try.prog 50 [rat n d, .i w] H (fun v H' => v = .i (cellN n d w) ∧ H' = H) := by
  obtain ⟨h1, h2, h3, h4⟩ := unitR_b h
  obtain ⟨h5, h6⟩ := mul_b h1 (by omega) hw hw'
  obtain ⟨h7, h8⟩ := tdiv_b h5 h6 h3
  refine AC.gc' (AC.enter (tbl0) (by kernel_rfl) Try.func50 rfl (by kernel_rfl) (by kernel_rfl) (by simp [Try.ntmps50]) Try.results50 ?_)
  simp only [go_sem]
  refine ⟨by omega, ?_⟩
  refine AC.call (ac88 _ _ _) ?_
  simp only [go_sem]
  refine ⟨⟨_, rfl⟩, avi ?_⟩
  rw [w64 (n * w) (by omega) (by omega), w64 _ (by omega) (by omega), w64 _ (by omega) (by omega)]
  exact Int.min_comm _ _
/-- What CellOf returns. -/
def cellB (n d w : Int) : Bool := unitR n d && (decide (1 ≤ w) && decide (w ≤ 1000))
def cellV (n d w : Int) : Int := if cellB n d w then cellN n d w else 0
theorem cellB_t {n d w : Int} (h : unitR n d = true) (h1 : 1 ≤ w) (h2 : w ≤ 1000) : cellB n d w = true := by simp [cellB, h, h1, h2]
theorem cell_no {n d w : Int} (h : cellB n d w = false) : AV.tup [.i 0, .bool false] = .tup [.i (cellV n d w), .bool (cellB n d w)] := by simp [cellV, h]
theorem cell_yes {n d w : Int} (h : cellB n d w = true) : AV.tup [.i (cellN n d w), .bool true] = .tup [.i (cellV n d w), .bool (cellB n d w)] := by simp [cellV, h]
abbrev cellOf (n d w : Int) : AV := .tup [.i (cellV n d w), .bool (cellB n d w)]
theorem ac14 (n d w : Int) (H : AHeap) : AC Try.prog 14 [rat n d, .i w] H (fun v H' => v = cellOf n d w ∧ H' = H) := by
  refine AC.gc' (AC.enter (tbl0) (by kernel_rfl) Try.func14 rfl (by kernel_rfl) (by kernel_rfl) (by simp [Try.ntmps14]) Try.results14 ?_)
  simp only [go_sem]
  refine AC.call (ac51 _ _ _) ?_
  simp only [go_sem]
  refine ⟨fun h => ?_, fun h => ⟨⟨_, rfl⟩, cell_no (by simp [cellB, h])⟩⟩
  refine AC.call (ac52 _ _ _ _) ?_
  simp only [go_sem]
  refine ⟨fun h1 => ⟨⟨_, rfl⟩, cell_no ?_⟩, fun h1 => ?_⟩
  · simp [cellB, h] at h1 ⊢
    omega
  · simp at h1
    refine AC.call (ac53 _ _ _ h h1.1 h1.2 _) ?_
    simp only [go_sem]
    exact ⟨⟨_, rfl⟩, cell_yes (cellB_t h h1.1 h1.2)⟩
theorem ac12 (n d w : Int) (H : AHeap) : AC Try.prog 12 [rat n d, .i w] H (fun v H' => v = cellOf n d w ∧ H' = H) := by
  refine AC.gc' (AC.enter (tbl0) (by kernel_rfl) Try.func12 rfl (by kernel_rfl) (by kernel_rfl) (by simp [Try.ntmps12]) Try.results12 ?_)
  simp only [go_sem]
  refine AC.call (ac48 _ _ _) ?_
  simp only [go_sem]
  refine ⟨fun h => ?_, fun h => ⟨⟨_, rfl⟩, cell_no (by simp [cellB, h])⟩⟩
  refine AC.call (ac49 _ _ _ _) ?_
  simp only [go_sem]
  refine ⟨fun h1 => ⟨⟨_, rfl⟩, cell_no ?_⟩, fun h1 => ?_⟩
  · simp [cellB, h] at h1 ⊢
    omega
  · simp at h1
    refine AC.call (ac50 _ _ _ h h1.1 h1.2 _) ?_
    simp only [go_sem]
    exact ⟨⟨_, rfl⟩, cell_yes (cellB_t h h1.1 h1.2)⟩
theorem ac13 (n d : Int) (H : AHeap) : AC Try.prog 13 [rat n d] H (fun v H' => v = rat n d ∧ H' = H) := by
  refine AC.gc' (AC.enter (tbl0) (by kernel_rfl) Try.func13 rfl (by kernel_rfl) (by kernel_rfl) (by simp [Try.ntmps13]) Try.results13 ?_)
  simp only [go_sem]
  exact ⟨_, rfl⟩
theorem ac3 (n d w : Int) (H : AHeap) : AC Try.prog 3 [rat n d, .i w] H (fun v H' => v = .bool true ∧ H' = H) := by
  refine AC.gc' (AC.enter (tbl0) (by kernel_rfl) Try.func3 rfl (by kernel_rfl) (by kernel_rfl) (by simp [Try.ntmps3]) Try.results3 ?_)
  simp only [go_sem]
  refine AC.call (ac13 _ _ _) ?_
  simp only [go_sem]
  refine AC.call (ac12 _ _ _ _) ?_
  simp only [go_sem]
  refine AC.call (ac13 _ _ _) ?_
  simp only [go_sem]
  refine AC.call (ac14 _ _ _ _) ?_
  simp only [go_sem]
  exact ⟨fun h => by simp at h, fun _ => ⟨_, rfl⟩⟩
end Go.Ab
