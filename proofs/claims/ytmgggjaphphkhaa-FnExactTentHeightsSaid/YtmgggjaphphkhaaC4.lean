import Derived.Test.YtmgggjaphphkhaaC3
set_option linter.unusedVariables false
set_option linter.unusedSimpArgs false
namespace Go.Ab
open Go.Proofs
def hPair (n i : Int) : Int × Int := (lowN i n, lowD i n)
def hPairs (n : Int) : List (Int × Int) := if 1 ≤ n ∧ n ≤ 20 then (List.range (n - n.tdiv 2).toNat).map fun j : Nat => hPair n (n.tdiv 2 + 1 + (j : Int)) else []
theorem hRes_eq (n : Int) : hRes n = ratRows (hPairs n) := by
  unfold hRes hPairs
  split
  · simp [hRows, ratRows, hRow, ratRow, hPair]
  · rfl
theorem hRes_len (n : Int) : (hRes n).length = (hPairs n).length := by rw [hRes_eq]; simp [ratRows]
theorem hPairs_len (n : Int) : (hPairs n).length < 100 := by
  unfold hPairs
  split
  · rename_i h
    have hm : 0 ≤ n.tdiv 2 ∧ n.tdiv 2 ≤ n := by rw [Int.tdiv_eq_ediv_of_nonneg (by omega)]; omega
    simp; omega
  · simp
theorem ac15' (n : Int) (H : AHeap) : AC Try.prog 15 [.i n] H (fun v H' => v = .tup [.sl H.length 0 (hPairs n).length, .bool (decide (1 ≤ n) && decide (n ≤ 20))] ∧ H' = H ++ [some ⟨true, 2, ratRows (hPairs n)⟩]) := by
  have := ac15 n H
  rwa [hRes_len, hRes_eq] at this
theorem ac16' (n : Int) (H : AHeap) : AC Try.prog 16 [.i n] H (fun v H' => v = .tup [.sl H.length 0 (hPairs n).length, .bool (decide (1 ≤ n) && decide (n ≤ 20))] ∧ H' = H ++ [some ⟨true, 2, ratRows (hPairs n)⟩]) := by
  have := ac16 n H
  rwa [hRes_len, hRes_eq] at this
theorem und_4 : (Try.prog).underlying 4 = some .bool := by kernel_rfl
theorem ac4 (n : Int) (H : AHeap) : AC Try.prog 4 [.i n] H (fun v H' => v = .bool true ∧ H' = H) := by
  have hl := hPairs_len n
  refine AC.gc' (AC.enter (tbl0) (by kernel_rfl) Try.func4 rfl (by kernel_rfl) (by kernel_rfl) (by simp [Try.ntmps4]) Try.results4 ?_)
  simp only [go_sem]
  refine AC.call (ac15' _ _) ?_
  simp only [go_sem]
  refine AC.call (ac16' _ _) ?_
  simp only [go_sem]
  refine AC.call (ac17 (hPairs n) (hPairs n) (by omega) _ _ _ _ _ (by simp only [go_sem]; rfl) (by simp only [go_sem]; rfl)) ?_
  simp only [go_sem, und_4, beq_self_eq_true]
  refine AC.call (ac18 (hPairs n) 1 (by omega) (by omega) _ _ (by simp only [go_sem])) ?_
  simp only [go_sem]
  refine AC.call (ac19 1 (hPairs n).length (by omega) (by omega) _ _ _ (by simp only [go_sem]; rfl)) ?_
  simp only [go_sem]
  refine ⟨fun h => by omega, fun _ => ?_⟩
  refine AC.call (ac16' _ _) ?_
  simp only [go_sem]
  refine AC.call (ac17 (hPairs n) (hPairs n) (by omega) _ _ _ _ _ (by simp only [go_sem]; rfl) (by simp only [go_sem]; rfl)) ?_
  simp only [go_sem, und_4, beq_self_eq_true]
  refine AC.call (ac19 1 (hPairs n).length (by omega) (by omega) _ _ _ (by simp only [go_sem]; rfl)) ?_
  simp only [go_sem]
  refine ⟨fun h => by omega, fun _ => ?_⟩
  exact ⟨_, rfl⟩
end Go.Ab
