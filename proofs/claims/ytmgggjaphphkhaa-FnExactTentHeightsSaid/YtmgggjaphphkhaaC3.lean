import Derived.Test.YtmgggjaphphkhaaC2
set_option linter.unusedVariables false
set_option linter.unusedSimpArgs false
namespace Go.Ab
open Go.Proofs
theorem ac56 (a b c d : Int) (H : AHeap) : AC Try.prog 56 [rat a b, rat c d] H (fun v H' => v = .bool (decide (a = c) && decide (b = d)) ∧ H' = H) := by
  refine AC.gc' (AC.enter (tbl0) (by kernel_rfl) Try.func56 rfl (by kernel_rfl) (by kernel_rfl) (by simp [Try.ntmps56]) Try.results56 ?_)
  simp only [go_sem]
  refine ⟨fun h => ⟨⟨_, rfl⟩, boolT (by simp [h])⟩, fun h => ⟨fun h' => ⟨⟨_, rfl⟩, boolT (by simp [h'])⟩, fun h' => ⟨⟨_, rfl⟩, boolT (by simp [h, h'])⟩⟩⟩
/-- Rows of fractions. -/
def ratRow (p : Int × Int) : List AV := [.i p.1, .i p.2]
def ratRows (l : List (Int × Int)) : List (List AV) := l.map ratRow
theorem ac17 (xs ys : List (Int × Int)) (hl : xs.length < 4611686018427387904) (b c : Nat) (o o' : Bool) (H : AHeap) (hb : hget H b = some ⟨o, 2, ratRows xs⟩) (hc : hget H c = some ⟨o', 2, ratRows ys⟩) : AC Try.prog 17 [.sl b 0 xs.length, .sl c 0 ys.length] H (fun v H' => v = .bool (decide (xs = ys)) ∧ H' = H) := by
  refine AC.enter (tbl0) (by kernel_rfl) Try.func17 rfl (by kernel_rfl) (by kernel_rfl) (by simp [Try.ntmps17]) Try.results17 ?_
  simp only [go_sem]
  refine ⟨fun h => boolT (Eq.symm (decide_eq_false fun e => h (by rw [e]))), fun h => ?_⟩
  have h0 : xs.length = ys.length := by omega
  refine ALoop.mk (fun m l H' => ∃ i, i ≤ xs.length ∧ m = xs.length - i ∧ xs.take i = ys.take i ∧ l = [.sl b 0 xs.length, .sl c 0 ys.length, .un, .un, .un, .i i] ∧ H' = H) _ [.sl b 0 xs.length, .sl c 0 ys.length, .un, .un, .un, .i 0] ?_ ⟨0, by omega, rfl, rfl, rfl, rfl⟩ ?_
  · simp only [go_sem]
  rintro hcl m l H1 ⟨i, hi, rfl, heq, rfl, rfl⟩
  rcases Nat.lt_or_ge i xs.length with hlt | hge
  · have hlt' : (i : Int) < xs.length := by omega
    have hlt2 : (i : Int) < ys.length := by omega
    have hx : (ratRows xs)[i]? = some [.i xs[i].1, .i xs[i].2] := by simp [ratRows, ratRow, hlt]
    have hy : (ratRows ys)[i]? = some [.i (ys[i]'(by omega)).1, .i (ys[i]'(by omega)).2] := by simp [ratRows, ratRow, h0 ▸ hlt]
    simp only [go_sem, hb, hc, hlt', hlt2, hx, hy]
    refine AC.call (ac56 _ _ _ _ _) ?_
    simp only [go_sem]
    refine ⟨fun hf => boolT (Eq.symm (decide_eq_false fun e => ?_)), fun ht => ?_⟩
    · subst e; simp at hf
    · simp at ht
      have hw : IntKind.i64.wrap ((i : Int) + 1) = ((i + 1 : Nat) : Int) := by rw [w64 _ (by omega) (by omega)]; rfl
      rw [hw]
      refine loopK.same hcl (xs.length - (i + 1)) [.sl b 0 xs.length, .sl c 0 ys.length, .un, .un, .un, .i (i + 1 : Nat)] (by omega) ?_ ⟨i + 1, by omega, rfl, ?_, rfl, rfl⟩
      · simp only [go_sem]
        exact ⟨hget_lt hb, hget_lt hc⟩
      · rw [List.take_succ_eq_append_getElem hlt, List.take_succ_eq_append_getElem (h0 ▸ hlt), heq, Prod.ext ht.1 ht.2]
  · have hge' : ¬ (i : Int) < xs.length := by omega
    simp only [go_sem, hge']
    refine boolT (Eq.symm (decide_eq_true ?_))
    have : i = xs.length := by omega
    subst this
    rw [List.take_length] at heq
    rw [heq, h0, List.take_length]
/-- The marks. -/
def markP (k : Int) (n : Nat) : List (Int × Int) := (List.range n).map fun i : Nat => (k + 2 * (i : Int), k + 2 * (i : Int) + 1)
theorem markP_len (k : Int) (n : Nat) : (markP k n).length = n := by simp [markP]
theorem markP_succ (k : Int) (n : Nat) : markP k (n + 1) = markP k n ++ [(k + 2 * (n : Int), k + 2 * (n : Int) + 1)] := by simp [markP, List.range_succ]
theorem ratRows_bel (l : List (Int × Int)) (N : Nat) : ∀ row ∈ ratRows l, BelL N row := by
  intro row hr
  simp only [ratRows, List.mem_map] at hr
  obtain ⟨p, _, rfl⟩ := hr
  exact .cons .i (.cons .i .nil)
theorem ratRows_set (ps ds : List (Int × Int)) (x y : Int × Int) : (ratRows (ps ++ x :: ds)).set ps.length (ratRow y) = ratRows (ps ++ [y] ++ ds) := by
  simp [ratRows, List.set_append]
theorem ac18 (xs : List (Int × Int)) (k : Int) (hk : 0 ≤ k) (hk' : k + 2 * xs.length < 9223372036854775807) (b : Nat) (H : AHeap) (hb : hget H b = some ⟨true, 2, ratRows xs⟩) : AC Try.prog 18 [.sl b 0 xs.length, .i k] H (fun v H' => v = .i (k + 2 * xs.length) ∧ H' = H.set b (some ⟨true, 2, ratRows (markP k xs.length)⟩)) := by
  refine AC.enter (tbl0) (by kernel_rfl) Try.func18 rfl (by kernel_rfl) (by kernel_rfl) (by simp [Try.ntmps18]) Try.results18 ?_
  simp only [go_sem]
  refine ALoop.mk (fun m l H' => ∃ i, i ≤ xs.length ∧ m = xs.length - i ∧ l = [.sl b 0 xs.length, .i (k + 2 * i), .un, .un, .un, .i i] ∧ H' = H.set b (some ⟨true, 2, ratRows (markP k i ++ xs.drop i)⟩)) _ [.sl b 0 xs.length, .i k, .un, .un, .un, .i 0] ?_ ⟨0, by omega, rfl, by simp, by simp [markP, set_self hb]⟩ ?_
  · simp only [go_sem]
  rintro hcl m l H1 ⟨i, hi, rfl, rfl, rfl⟩
  have hs := hget_set hb
  rcases Nat.lt_or_ge i xs.length with hlt | hge
  · have hlt' : (i : Int) < xs.length := by omega
    have hd : xs.drop i = xs[i] :: xs.drop (i + 1) := List.drop_eq_getElem_cons hlt
    have hlen : i < (ratRows (markP k i ++ xs.drop i)).length := by simp [ratRows, markP_len]; omega
    have hx : (ratRows (markP k i ++ xs.drop i))[i]? = some [.i xs[i].1, .i xs[i].2] := by
      rw [hd, ratRows, List.map_append, List.map_cons, List.getElem?_append_right (by simp [markP_len]), List.length_map, markP_len, Nat.sub_self]; rfl
    have hx2 : ∀ v, ((ratRows (markP k i ++ xs.drop i)).set i v)[i]? = some v := fun v => List.getElem?_set_self hlen
    have hw : IntKind.i64.wrap (k + 2 * (i : Int) + 1) = k + 2 * (i : Int) + 1 := w64 _ (by omega) (by omega)
    have hw2 : IntKind.i64.wrap (k + 2 * (i : Int) + 1 + 1) = k + 2 * ((i + 1 : Nat) : Int) := by rw [w64 _ (by omega) (by omega)]; omega
    have hw3 : IntKind.i64.wrap ((i : Int) + 1) = ((i + 1 : Nat) : Int) := by rw [w64 _ (by omega) (by omega)]; rfl
    have hfin : (ratRows (markP k i ++ xs.drop i)).set i [.i (k + 2 * i), .i (k + 2 * i + 1)] = ratRows (markP k (i + 1) ++ xs.drop (i + 1)) := by
      have := ratRows_set (markP k i) (xs.drop (i + 1)) xs[i] (k + 2 * i, k + 2 * i + 1)
      rw [markP_len, ← hd, ← markP_succ] at this
      exact this
    simp only [go_sem, hs, hlt', hx, hx2, hw, hw2, hw3, hfin]
    have hlH := hget_lt hb
    refine loopK.set hcl (xs.length - (i + 1)) [.sl b 0 xs.length, .i (k + 2 * (i + 1 : Nat)), .un, .un, .un, .i (i + 1 : Nat)] (by omega) (ratRows_bel _ _) ?_ ⟨i + 1, by omega, rfl, rfl, rfl⟩
    simp only [go_sem]
    exact hlH
  · have hge' : ¬ (i : Int) < xs.length := by omega
    simp only [go_sem, hge']
    have : i = xs.length := by omega
    subst this
    exact ⟨rfl, by simp⟩
theorem ac19 (k : Int) (n : Nat) (hk : 0 ≤ k) (hk' : k + 2 * n < 9223372036854775807) (b : Nat) (o : Bool) (H : AHeap) (hb : hget H b = some ⟨o, 2, ratRows (markP k n)⟩) : AC Try.prog 19 [.sl b 0 n, .i k] H (fun v H' => v = .i (k + 2 * n) ∧ H' = H) := by
  refine AC.enter (tbl0) (by kernel_rfl) Try.func19 rfl (by kernel_rfl) (by kernel_rfl) (by simp [Try.ntmps19]) Try.results19 ?_
  simp only [go_sem]
  refine ALoop.mk (fun m l H' => ∃ i, i ≤ n ∧ m = n - i ∧ l = [.sl b 0 n, .i (k + 2 * i), .un, .un, .un, .i i] ∧ H' = H) _ [.sl b 0 n, .i k, .un, .un, .un, .i 0] ?_ ⟨0, by omega, rfl, by simp, rfl⟩ ?_
  · simp only [go_sem]
  rintro hcl m l H1 ⟨i, hi, rfl, rfl, rfl⟩
  rcases Nat.lt_or_ge i n with hlt | hge
  · have hlt' : (i : Int) < n := by omega
    have hx : (ratRows (markP k n))[i]? = some [.i (k + 2 * i), .i (k + 2 * i + 1)] := by simp [ratRows, ratRow, markP, hlt]
    have hw : IntKind.i64.wrap (k + 2 * (i : Int) + 1) = k + 2 * (i : Int) + 1 := w64 _ (by omega) (by omega)
    have hw2 : IntKind.i64.wrap (k + 2 * (i : Int) + 1 + 1) = k + 2 * ((i + 1 : Nat) : Int) := by rw [w64 _ (by omega) (by omega)]; omega
    have hw3 : IntKind.i64.wrap ((i : Int) + 1) = ((i + 1 : Nat) : Int) := by rw [w64 _ (by omega) (by omega)]; rfl
    simp only [go_sem, hb, hlt', hx, hw, hw2, hw3]
    refine loopK.same hcl (n - (i + 1)) [.sl b 0 n, .i (k + 2 * (i + 1 : Nat)), .un, .un, .un, .i (i + 1 : Nat)] (by omega) ?_ ⟨i + 1, by omega, rfl, rfl, rfl⟩
    simp only [go_sem]
    exact hget_lt hb
  · have hge' : ¬ (i : Int) < n := by omega
    simp only [go_sem, hge']
    have : i = n := by omega
    subst this
    rfl
end Go.Ab
