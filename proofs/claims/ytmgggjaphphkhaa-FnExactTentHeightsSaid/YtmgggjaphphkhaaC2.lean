import Derived.Test.YtmgggjaphphkhaaC1
set_option linter.unusedVariables false
set_option linter.unusedSimpArgs false
namespace Go.Ab
open Go.Proofs
theorem stk_26 : structOk Try.prog 26 = true := by kernel_rfl
theorem eok_26 : elemOk Try.prog 26 = some (2, 16) := by kernel_rfl
attribute [go_sem] stk_26 eok_26
/-! ### Lowest terms -/
def lowG (n d : Int) : Int := if d < 0 then -(Int.gcd n d : Int) else (Int.gcd n d : Int)
def lowB (n d : Int) : Bool := goodR (n.tdiv (lowG n d)) (d.tdiv (lowG n d))
def lowN (n d : Int) : Int := if lowB n d then n.tdiv (lowG n d) else 0
def lowD (n d : Int) : Int := if lowB n d then d.tdiv (lowG n d) else 0
abbrev lowOf (n d : Int) : AV := .tup [rat (lowN n d) (lowD n d), .bool (lowB n d)]
theorem low_yes {n d : Int} (h : lowB n d = true) : AV.tup [rat (n.tdiv (lowG n d)) (d.tdiv (lowG n d)), .bool true] = lowOf n d := by simp [lowOf, lowN, lowD, h]
theorem low_no {n d : Int} (h : lowB n d = false) : AV.tup [rat 0 0, .bool false] = lowOf n d := by simp [lowOf, lowN, lowD, h]
theorem gcd_b {n d : Int} (hd0 : d ≠ 0) (hd : -9223372036854775808 < d) (hd' : d < 9223372036854775808) : 1 ≤ (Int.gcd n d : Int) ∧ (Int.gcd n d : Int) < 9223372036854775808 := by
  have h1 : 0 < Int.gcd n d := Int.gcd_pos_of_ne_zero_right n hd0
  have h2 : Int.gcd n d ≤ d.natAbs := Nat.le_of_dvd (by omega) (Nat.gcd_dvd_right _ _)
  omega
theorem tdiv_abs {a b : Int} (ha : -9223372036854775808 < a) (ha' : a < 9223372036854775808) : -9223372036854775808 ≤ a.tdiv b ∧ a.tdiv b < 9223372036854775808 := by
  have h := Int.natAbs_tdiv_le_natAbs a b
  omega
theorem ac55 (n d : Int) (hn : -9223372036854775808 < n) (hn' : n < 9223372036854775808) (hd0 : d ≠ 0) (hd : -9223372036854775808 < d) (hd' : d < 9223372036854775808) (H : AHeap) : AC Try.prog 55 [.i n, .i d] H (fun v H' => v = lowOf n d ∧ H' = H) := by
  obtain ⟨hg1, hg2⟩ := gcd_b (n := n) hd0 hd hd'
  have t1 := fun b => tdiv_abs (b := b) hn hn'
  have t2 := fun b => tdiv_abs (b := b) hd hd'
  refine AC.gc' (AC.enter (tbl0) (by kernel_rfl) Try.func55 rfl (by kernel_rfl) (by kernel_rfl) (by simp [Try.ntmps55]) Try.results55 ?_)
  simp only [go_sem]
  refine AC.call (ac92 _ _ hn hn' hd hd' _) ?_
  simp only [go_sem]
  refine ⟨fun h => ?_, fun h => ?_⟩
  · rw [w64 (0 - (Int.gcd n d : Int)) (by omega) (by omega)]
    have hgl : 0 - (Int.gcd n d : Int) = lowG n d := by simp [lowG, h]
    rw [hgl, w64 _ (t1 _).1 (t1 _).2, w64 _ (t2 _).1 (t2 _).2]
    refine ⟨by omega, by omega, ?_⟩
    refine AC.call (ac89 _ _ _) ?_
    simp only [go_sem]
    exact ⟨fun hb => ⟨⟨_, rfl⟩, low_no hb⟩, fun hb => ⟨⟨_, rfl⟩, low_yes hb⟩⟩
  · have hgl : (Int.gcd n d : Int) = lowG n d := by simp [lowG, h]
    rw [hgl, w64 _ (t1 _).1 (t1 _).2, w64 _ (t2 _).1 (t2 _).2]
    refine ⟨by omega, by omega, ?_⟩
    refine AC.call (ac89 _ _ _) ?_
    simp only [go_sem]
    exact ⟨fun hb => ⟨⟨_, rfl⟩, low_no hb⟩, fun hb => ⟨⟨_, rfl⟩, low_yes hb⟩⟩
theorem ac54 (n d : Int) (hn : -9223372036854775808 < n) (hn' : n < 9223372036854775808) (hd0 : d ≠ 0) (hd : -9223372036854775808 < d) (hd' : d < 9223372036854775808) (H : AHeap) : AC Try.prog 54 [.i n, .i d] H (fun v H' => v = lowOf n d ∧ H' = H) := by
  obtain ⟨hg1, hg2⟩ := gcd_b (n := n) hd0 hd hd'
  have t1 := fun b => tdiv_abs (b := b) hn hn'
  have t2 := fun b => tdiv_abs (b := b) hd hd'
  refine AC.gc' (AC.enter (tbl0) (by kernel_rfl) Try.func54 rfl (by kernel_rfl) (by kernel_rfl) (by simp [Try.ntmps54]) Try.results54 ?_)
  simp only [go_sem]
  refine ⟨fun h => absurd h hd0, fun _ => ?_⟩
  refine AC.call (ac91 _ hn hn' _) ?_
  simp only [go_sem]
  refine AC.call (ac91 _ hd hd' _) ?_
  simp only [go_sem]
  refine AC.call (ac90 _ _ _) ?_
  simp only [go_sem]
  have hgg : (Nat.gcd n.natAbs d.natAbs) = Int.gcd n d := rfl
  rw [hgg]
  refine ⟨fun h => ?_, fun h => ?_⟩
  · rw [w64 (0 - (Int.gcd n d : Int)) (by omega) (by omega)]
    have hgl : 0 - (Int.gcd n d : Int) = lowG n d := by simp [lowG, h]
    rw [hgl, w64 _ (t1 _).1 (t1 _).2, w64 _ (t2 _).1 (t2 _).2]
    refine ⟨by omega, by omega, ?_⟩
    refine AC.call (ac87 _ _ _) ?_
    simp only [go_sem]
    exact ⟨fun hb => ⟨⟨_, rfl⟩, low_no hb⟩, fun hb => ⟨⟨_, rfl⟩, low_yes hb⟩⟩
  · have hgl : (Int.gcd n d : Int) = lowG n d := by simp [lowG, h]
    rw [hgl, w64 _ (t1 _).1 (t1 _).2, w64 _ (t2 _).1 (t2 _).2]
    refine ⟨by omega, by omega, ?_⟩
    refine AC.call (ac87 _ _ _) ?_
    simp only [go_sem]
    exact ⟨fun hb => ⟨⟨_, rfl⟩, low_no hb⟩, fun hb => ⟨⟨_, rfl⟩, low_yes hb⟩⟩
/-! ### Heights -/
def hRow (n i : Int) : List AV := [.i (lowN i n), .i (lowD i n)]
def hRows (n : Int) (k : Nat) : List (List AV) := (List.range k).map fun j : Nat => hRow n (n.tdiv 2 + 1 + (j : Int))
theorem hRows_len (n : Int) (k : Nat) : (hRows n k).length = k := by simp [hRows]
theorem hRows_succ (n : Int) (k : Nat) : hRows n (k + 1) = hRows n k ++ [hRow n (n.tdiv 2 + 1 + k)] := by simp [hRows, List.range_succ]
def hRes (n : Int) : List (List AV) := if 1 ≤ n ∧ n ≤ 20 then hRows n (n - n.tdiv 2).toNat else []
theorem hRows_bel (n : Int) (k N : Nat) : ∀ row ∈ hRows n k, BelL N row := by
  intro row hr
  simp only [hRows, List.mem_map] at hr
  obtain ⟨j, _, rfl⟩ := hr
  exact .cons .i (.cons .i .nil)
theorem hRes_bel (n : Int) (N : Nat) : ∀ row ∈ hRes n, BelL N row := by
  intro row hr
  unfold hRes at hr
  split at hr
  · exact hRows_bel _ _ _ row hr
  · simp at hr
theorem ac16 (n : Int) (H : AHeap) : AC Try.prog 16 [.i n] H (fun v H' => v = .tup [.sl H.length 0 (hRes n).length, .bool (decide (1 ≤ n) && decide (n ≤ 20))] ∧ H' = H ++ [some ⟨true, 2, hRes n⟩]) := by
  refine AC.gcSlB (fun _ => BelB1 (hRes_bel n _)) (AC.enter (tbl0) (by kernel_rfl) Try.func16 rfl (by kernel_rfl) (by kernel_rfl) (by simp [Try.ntmps16]) Try.results16 ?_)
  simp only [go_sem]
  refine AC.call (ac52 _ _ _ _) ?_
  simp only [go_sem]
  refine ⟨fun h => ⟨[], by simp, .inl ?_⟩, fun h => ?_⟩
  · rw [h]; simp at h; exact ⟨rfl, if_neg (by omega)⟩
  simp at h
  have hm : 0 ≤ n.tdiv 2 ∧ n.tdiv 2 ≤ n := by rw [Int.tdiv_eq_ediv_of_nonneg (by omega)]; omega
  rw [w64 (n.tdiv 2) (by omega) (by omega), w64 _ (by omega) (by omega)]
  refine ⟨by omega, ?_⟩
  refine ALoop.mkV (fun m l H' => ∃ k, k ≤ (n - n.tdiv 2).toNat ∧ m = (n - n.tdiv 2).toNat - k ∧ l = [.i n, .un, .un, .un, .sl H.length 0 k, .i (n.tdiv 2 + 1 + k)] ∧ H' = H ++ [some ⟨true, 2, hRows n k⟩]) [2] _ [.i n, .un, .un, .un, .sl H.length 0 0, .i (n.tdiv 2 + 1)] ?_ ⟨0, by omega, rfl, by simp, by simp [virts, hRows]⟩ ?_
  · simp only [go_sem]
  rintro hc m l H1 ⟨k, hk, rfl, rfl, rfl⟩
  simp only [go_sem]
  refine ⟨fun h1 => ?_, fun h1 => ?_⟩
  · refine AC.call (ac55 _ _ (by omega) (by omega) (by omega) (by omega) (by omega) _) ?_
    simp only [go_sem]
    refine appK.own (by kernel_rfl) eok_26 (by simp only [go_sem]) (hRows_len n k).symm (by simp only [go_sem]; rfl) rfl (by simp) (by omega) (by simp only [maxLen]; omega) ?_
    simp only [go_sem]
    rw [w64 _ (by omega) (by omega)]
    have hs := hRows_succ n k
    rw [hRow] at hs
    rw [← hs]
    refine loopK.keep1 hc 3 (rows := hRows n (k + 1)) _ [.i n, .un, .un, .un, .sl H.length 0 (k + 1), .i (n.tdiv 2 + 1 + (k + 1 : Nat))] ?_ rfl (hRows_bel n _ _) ?_ ⟨k + 1, by omega, rfl, rfl, rfl⟩
    · omega
    · simp only [go_sem]
      omega
  · have hk' : k = (n - n.tdiv 2).toNat := by omega
    have hr : hRes n = hRows n k := by rw [hRes, if_pos h, hk']
    rw [hr]
    refine ⟨_, rfl, .inr ⟨0, ?_, rfl⟩⟩
    rw [hRows_len]
    simp [h]
theorem ac15 (n : Int) (H : AHeap) : AC Try.prog 15 [.i n] H (fun v H' => v = .tup [.sl H.length 0 (hRes n).length, .bool (decide (1 ≤ n) && decide (n ≤ 20))] ∧ H' = H ++ [some ⟨true, 2, hRes n⟩]) := by
  refine AC.gcSlB (fun _ => BelB1 (hRes_bel n _)) (AC.enter (tbl0) (by kernel_rfl) Try.func15 rfl (by kernel_rfl) (by kernel_rfl) (by simp [Try.ntmps15]) Try.results15 ?_)
  simp only [go_sem]
  refine AC.call (ac49 _ _ _ _) ?_
  simp only [go_sem]
  refine ⟨fun h => ⟨[], by simp, .inl ?_⟩, fun h => ?_⟩
  · rw [h]; simp at h; exact ⟨rfl, if_neg (by omega)⟩
  simp at h
  have hm : 0 ≤ n.tdiv 2 ∧ n.tdiv 2 ≤ n := by rw [Int.tdiv_eq_ediv_of_nonneg (by omega)]; omega
  rw [w64 (n.tdiv 2) (by omega) (by omega), w64 _ (by omega) (by omega)]
  refine ⟨by omega, ?_⟩
  refine ALoop.mkV (fun m l H' => ∃ k, k ≤ (n - n.tdiv 2).toNat ∧ m = (n - n.tdiv 2).toNat - k ∧ l = [.i n, .un, .un, .un, .sl H.length 0 k, .i (n.tdiv 2 + 1 + k)] ∧ H' = H ++ [some ⟨true, 2, hRows n k⟩]) [2] _ [.i n, .un, .un, .un, .sl H.length 0 0, .i (n.tdiv 2 + 1)] ?_ ⟨0, by omega, rfl, by simp, by simp [virts, hRows]⟩ ?_
  · simp only [go_sem]
  rintro hc m l H1 ⟨k, hk, rfl, rfl, rfl⟩
  simp only [go_sem]
  refine ⟨fun h1 => ?_, fun h1 => ?_⟩
  · refine AC.call (ac54 _ _ (by omega) (by omega) (by omega) (by omega) (by omega) _) ?_
    simp only [go_sem]
    refine appK.own (by kernel_rfl) eok_26 (by simp only [go_sem]) (hRows_len n k).symm (by simp only [go_sem]; rfl) rfl (by simp) (by omega) (by simp only [maxLen]; omega) ?_
    simp only [go_sem]
    rw [w64 _ (by omega) (by omega)]
    have hs := hRows_succ n k
    rw [hRow] at hs
    rw [← hs]
    refine loopK.keep1 hc 3 (rows := hRows n (k + 1)) _ [.i n, .un, .un, .un, .sl H.length 0 (k + 1), .i (n.tdiv 2 + 1 + (k + 1 : Nat))] ?_ rfl (hRows_bel n _ _) ?_ ⟨k + 1, by omega, rfl, rfl, rfl⟩
    · omega
    · simp only [go_sem]
      omega
  · have hk' : k = (n - n.tdiv 2).toNat := by omega
    have hr : hRes n = hRows n k := by rw [hRes, if_pos h, hk']
    rw [hr]
    refine ⟨_, rfl, .inr ⟨0, ?_, rfl⟩⟩
    rw [hRows_len]
    simp [h]
end Go.Ab
