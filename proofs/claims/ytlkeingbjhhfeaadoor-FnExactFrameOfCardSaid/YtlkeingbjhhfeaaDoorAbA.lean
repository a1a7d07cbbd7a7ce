/- The abstract machine: values, heaps, and how they stand for the model's. -/
import Derived.Calls
import Derived.Orders
import Derived.OwnWalk
import Derived.ArgAppend
import Derived.Laws.IdiomCopy
import Derived.KernelRfl
import Derived.Laws.AppendOwn
import Derived.Deep.AppendSrc
import Derived.Lib.UnsafeStr
import Derived.Laws.Slices
import Derived.Lib.ConvBytes
import Derived.Laws.Strings
import Derived.Laws.BytesArg
import Derived.IntWalk
set_option linter.unusedVariables false
set_option linter.unusedSimpArgs false
namespace Go.Ab

inductive AV where
  | un
  | int (k : IntKind) (n : Int)
  | bool (b : Bool)
  | str (s : List UInt8)
  | ptr (b i j : Nat)
  | nilp
  | nil
  | sl (b i n : Nat)
  | fn (f : FuncId) (cap : List AV)
  | nilf
  | ifc (t : TypeId) (v : AV)
  | nili
  | agg (l : List AV)
  | tup (l : List AV)
  | lst (sz : Nat) (rows : List (List AV))
  | cptr (row : List AV) (j : Nat)
  | bf (e : TypeId) (b n : Nat)
  | bfp (e : TypeId) (b : Nat)
  | bptr (e : TypeId) (b : Nat)

instance : Inhabited AV := ⟨.un⟩
abbrev AV.i (n : Int) : AV := .int .i64 n

structure MB where
  blk : Nat
  base : Nat
  sz : Nat
  N : Nat
  virt : Bool
  ty : Option TypeId

structure Blk where
  own : Bool
  sz : Nat
  rows : List (List AV)

abbrev AHeap := List (Option Blk)
structure MMap where
  l : List MB
  z : Nat → Option (Array Value)
def MMap.add (m : MMap) (B : MB) : MMap := ⟨m.l ++ [B], m.z⟩
theorem MMap.add_l (m : MMap) (B : MB) : (m.add B).l = m.l ++ [B] := rfl
theorem MMap.add_z (m : MMap) (B : MB) : (m.add B).z = m.z := rfl

inductive Rel : MMap → AV → Value → Prop
  | un {m : MMap} (r : Value) : Rel m .un r
  | int {m : MMap} (k : IntKind) (n : Int) : Rel m (.int k n) (.int k n)
  | bool {m : MMap} (b : Bool) : Rel m (.bool b) (.bool b)
  | str {m : MMap} (s : List UInt8) : Rel m (.str s) (.string ⟨s.toArray⟩)
  | ptr {m : MMap} {b i j : Nat} {B : MB} (h : m.l[b]? = some B) (hv : B.virt = false) : Rel m (.ptr b i j) (.pointer (some ⟨B.blk, B.base + i * B.sz + j, none⟩))
  | nilp {m : MMap} : Rel m .nilp (.pointer none)
  | nil {m : MMap} : Rel m .nil (.slice none 0 0)
  | sl {m : MMap} {b i n cap : Nat} {B : MB} (h : m.l[b]? = some B) (hv : B.virt = false) (hn : n ≤ cap) (hc : B.base + i * B.sz + cap * B.sz ≤ B.N) : Rel m (.sl b i n) (.slice (some ⟨B.blk, B.base + i * B.sz, none⟩) n cap)
  | sl0 {m : MMap} {b i : Nat} {B : MB} {a : Option Addr} (h : m.l[b]? = some B) : Rel m (.sl b i 0) (.slice a 0 0)
  | fn {m : MMap} {f : FuncId} {cap : List AV} {caps : List Value} (hl : cap.length = caps.length) (h : ∀ (i : Nat) v r, cap[i]? = some v → caps[i]? = some r → Rel m v r) : Rel m (.fn f cap) (.func (.func f) #[] caps.toArray)
  | nilf {m : MMap} : Rel m .nilf .nilFunc
  | ifc {m : MMap} {t : TypeId} {v : AV} {r : Value} (h : Rel m v r) : Rel m (.ifc t v) (.iface t r)
  | nili {m : MMap} : Rel m .nili .nilIface
  | agg {m : MMap} {l : List AV} {cs : List Value} (hl : l.length = cs.length) (h : ∀ (i : Nat) v r, l[i]? = some v → cs[i]? = some r → Rel m v r) : Rel m (.agg l) (.agg cs.toArray)
  | tup {m : MMap} {l : List AV} {cs : List Value} (hl : l.length = cs.length) (h : ∀ (i : Nat) v r, l[i]? = some v → cs[i]? = some r → Rel m v r) : Rel m (.tup l) (.tuple cs.toArray)
  | lst {m : MMap} {sz n cap off blk : Nat} {c : Array Value} {rows : List (List AV)} (hz : m.z blk = some c) (hl : rows.length = n) (hn : n ≤ cap) (hc : off + cap * sz ≤ c.size) (hm : n ≤ maxLen)
      (hs : ∀ (i : Nat) row, rows[i]? = some row → row.length = sz)
      (h1 : ∀ (i j : Nat) row v r, rows[i]? = some row → row[j]? = some v → c[off + i * sz + j]? = some r → r.oneCell' = true)
      (h : ∀ (i j : Nat) row v r, rows[i]? = some row → row[j]? = some v → c[off + i * sz + j]? = some r → Rel ⟨[], m.z⟩ v r) : Rel m (.lst sz rows) (.slice (some ⟨blk, off, none⟩) n cap)
  | lst0 {m : MMap} {sz : Nat} {a : Option Addr} : Rel m (.lst sz []) (.slice a 0 0)
  | cptr {m : MMap} {blk off j : Nat} {c : Array Value} {row : List AV} (hz : m.z blk = some c) (hc : off + row.length ≤ c.size)
      (h1 : ∀ (k : Nat) v r, row[k]? = some v → c[off + k]? = some r → r.oneCell' = true)
      (h : ∀ (k : Nat) v r, row[k]? = some v → c[off + k]? = some r → Rel ⟨[], m.z⟩ v r) : Rel m (.cptr row j) (.pointer (some ⟨blk, off + j, none⟩))
  | bf {m : MMap} {e : TypeId} {b n cap : Nat} {B : MB} (h : m.l[b]? = some B) (hv : B.virt = false) (ht : B.ty = some e) (hb : B.base = 0) (hs : B.sz = 1) (h0 : 0 < n) (hn : n ≤ cap) (hN : cap ≤ B.N) : Rel m (.bf e b n) (.slice (some ⟨B.blk, 0, none⟩) n cap)
  | bfp {m : MMap} {e : TypeId} {b : Nat} {B : MB} (h : m.l[b]? = some B) (hv : B.virt = false) (ht : B.ty = some e) (hb : B.base = 0) (hs : B.sz = 1) : Rel m (.bfp e b) (.pointer (some ⟨B.blk, 0, none⟩))
  | bptr {m : MMap} {e : TypeId} {b : Nat} {B : MB} (h : m.l[b]? = some B) (hv : B.virt = false) (ht : B.ty = some e) (hb : B.base = 0) (hN : B.N = 2) (hs : B.sz = 2) : Rel m (.bptr e b) (.pointer (some ⟨B.blk, 0, none⟩))

def RelL (m : MMap) (l : List AV) (cs : List Value) : Prop :=
  l.length = cs.length ∧ ∀ (i : Nat) v r, l[i]? = some v → cs[i]? = some r → Rel m v r

/-- m' knows what m knows. -/
structure MLe (m m' : MMap) : Prop where
  l : ∀ (b : Nat) (B : MB), m.l[b]? = some B → m'.l[b]? = some B
  z : ∀ (r : Nat) (c : Array Value), m.z r = some c → m'.z r = some c
theorem MLe.refl (m : MMap) : MLe m m := ⟨fun _ _ h => h, fun _ _ h => h⟩
theorem MLe.trans {a b c : MMap} (h : MLe a b) (k : MLe b c) : MLe a c := ⟨fun i B hi => k.l i B (h.l i B hi), fun i B hi => k.z i B (h.z i B hi)⟩
theorem MLe.append (m : MMap) (B : MB) : MLe m (m.add B) := ⟨fun b B' h => by
  rw [MMap.add_l, List.getElem?_append_left (List.getElem?_eq_some_iff.1 h).1]; exact h, fun _ _ h => h⟩

theorem MLe.z0 {m m' : MMap} (h : MLe m m') : MLe ⟨[], m.z⟩ ⟨[], m'.z⟩ := ⟨fun b B h => by simp at h, h.z⟩
theorem MLe.z1 (m : MMap) : MLe ⟨[], m.z⟩ m := ⟨fun b B h => by simp at h, fun _ _ h => h⟩
theorem Rel.mono {m m' : MMap} (hm : MLe m m') {v : AV} {r : Value} (h : Rel m v r) : Rel m' v r := by
  induction h generalizing m' with
  | un r => exact .un r
  | int k n => exact .int k n
  | bool b => exact .bool b
  | str s => exact .str s
  | ptr h hv => exact .ptr (hm.l _ _ h) hv
  | nilp => exact .nilp
  | nil => exact .nil
  | sl h hv hn hc => exact .sl (hm.l _ _ h) hv hn hc
  | sl0 h => exact .sl0 (hm.l _ _ h)
  | fn hl h ih => exact .fn hl fun i v r h1 h2 => ih i v r h1 h2 hm
  | nilf => exact .nilf
  | ifc h ih => exact .ifc (ih hm)
  | nili => exact .nili
  | agg hl h ih => exact .agg hl fun i v r h1 h2 => ih i v r h1 h2 hm
  | tup hl h ih => exact .tup hl fun i v r h1 h2 => ih i v r h1 h2 hm
  | lst hz hl hn hc hm' hs h1 h ih => exact .lst (hm.z _ _ hz) hl hn hc hm' hs h1 fun i j row v r a1 a2 a3 => ih i j row v r a1 a2 a3 hm.z0
  | lst0 => exact .lst0
  | cptr hz hc h1 h ih => exact .cptr (hm.z _ _ hz) hc h1 fun k v r a1 a2 => ih k v r a1 a2 hm.z0
  | bf h hv ht hb hs h0 hn hN => exact .bf (hm.l _ _ h) hv ht hb hs h0 hn hN
  | bfp h hv ht hb hs => exact .bfp (hm.l _ _ h) hv ht hb hs
  | bptr h hv ht hb hN hs => exact .bptr (hm.l _ _ h) hv ht hb hN hs
theorem RelL.mono {m m' : MMap} (hm : MLe m m') {v : List AV} {r : List Value} (h : RelL m v r) : RelL m' v r :=
  ⟨h.1, fun i a b ha hb => (h.2 i a b ha hb).mono hm⟩

theorem Rel.int_inv {m : MMap} {k : IntKind} {z : Int} {r : Value} (h : Rel m (.int k z) r) : r = .int k z := by cases h; rfl
theorem Rel.bool_inv {m : MMap} {b : Bool} {r : Value} (h : Rel m (.bool b) r) : r = .bool b := by cases h; rfl
theorem Rel.str_inv {m : MMap} {s : List UInt8} {r : Value} (h : Rel m (.str s) r) : r = .string ⟨s.toArray⟩ := by cases h; rfl
theorem Rel.ptr_inv {m : MMap} {b i j : Nat} {r : Value} (h : Rel m (.ptr b i j) r) : ∃ B, m.l[b]? = some B ∧ B.virt = false ∧ r = .pointer (some ⟨B.blk, B.base + i * B.sz + j, none⟩) := by
  cases h with | ptr h hv => exact ⟨_, h, hv, rfl⟩
theorem Rel.agg_inv {m : MMap} {l : List AV} {r : Value} (h : Rel m (.agg l) r) : ∃ cs, r = .agg cs.toArray ∧ RelL m l cs := by
  cases h with | agg hl h => exact ⟨_, rfl, hl, h⟩
theorem Rel.tup_inv {m : MMap} {l : List AV} {r : Value} (h : Rel m (.tup l) r) : ∃ cs, r = .tuple cs.toArray ∧ RelL m l cs := by
  cases h with | tup hl h => exact ⟨_, rfl, hl, h⟩
theorem Rel.fn_inv {m : MMap} {f : FuncId} {l : List AV} {r : Value} (h : Rel m (.fn f l) r) : ∃ cs, r = .func (.func f) #[] cs.toArray ∧ RelL m l cs := by
  cases h with | fn hl h => exact ⟨_, rfl, hl, h⟩
theorem RelL.nil {m : MMap} : RelL m [] [] := ⟨rfl, fun i v r h => by simp at h⟩
theorem RelL.cons {m : MMap} {v : AV} {r : Value} {vs : List AV} {rs : List Value} (h : Rel m v r) (t : RelL m vs rs) : RelL m (v :: vs) (r :: rs) :=
  ⟨by simp [t.1], fun i a b ha hb => by
    cases i with
    | zero => simp at ha hb; subst ha; subst hb; exact h
    | succ i => simp at ha hb; exact t.2 i a b ha hb⟩
theorem RelL.length {m : MMap} {v : List AV} {r : List Value} (h : RelL m v r) : v.length = r.length := h.1
theorem RelL.get {m : MMap} {vs : List AV} {rs : List Value} (h : RelL m vs rs) {i : Nat} {v : AV} (hv : vs[i]? = some v) : ∃ r, rs[i]? = some r ∧ Rel m v r := by
  have hi := (List.getElem?_eq_some_iff.1 hv).1
  rw [h.1] at hi
  exact ⟨rs[i], List.getElem?_eq_getElem hi, h.2 i v _ hv (List.getElem?_eq_getElem hi)⟩
theorem RelL.append {m : MMap} {a b : List AV} {r s : List Value} (h : RelL m a r) (k : RelL m b s) : RelL m (a ++ b) (r ++ s) := by
  refine ⟨by simp [h.1, k.1], fun i v u hv hu => ?_⟩
  by_cases hi : i < a.length
  · rw [List.getElem?_append_left hi] at hv
    rw [List.getElem?_append_left (h.1 ▸ hi)] at hu
    exact h.2 i v u hv hu
  · rw [List.getElem?_append_right (by omega)] at hv
    rw [List.getElem?_append_right (by rw [← h.1]; omega), ← h.1] at hu
    exact k.2 _ v u hv hu
theorem RelL.take {m : MMap} {a : List AV} {r : List Value} (n : Nat) (h : RelL m a r) : RelL m (a.take n) (r.take n) := by
  refine ⟨by simp [h.1], fun i v u hv hu => ?_⟩
  rw [List.getElem?_take] at hv hu
  split at hv <;> simp_all
  exact h.2 i v u hv hu
theorem RelL.drop {m : MMap} {a : List AV} {r : List Value} (n : Nat) (h : RelL m a r) : RelL m (a.drop n) (r.drop n) := by
  refine ⟨by simp [h.1], fun i v u hv hu => ?_⟩
  rw [List.getElem?_drop] at hv hu
  exact h.2 _ v u hv hu

/-- The cells of a value. -/
def AV.cells : AV → List AV
  | .agg l => l
  | v => [v]
theorem Rel.cells {m : MMap} {v : AV} {r : Value} (hv : v ≠ .un) (h : Rel m v r) : RelL m v.cells r.cells.toList := by
  cases h with
  | un r => exact absurd rfl hv
  | agg hl h => simpa [AV.cells, Value.cells] using ⟨hl, h⟩
  | int k n => exact .cons (.int k n) .nil
  | bool b => exact .cons (.bool b) .nil
  | str s => exact .cons (.str s) .nil
  | ptr h h2 => exact .cons (.ptr h h2) .nil
  | nilp => exact .cons .nilp .nil
  | nil => exact .cons .nil .nil
  | sl h h2 h3 h4 => exact .cons (.sl h h2 h3 h4) .nil
  | sl0 h => exact .cons (.sl0 h) .nil
  | fn hl h => exact .cons (.fn hl h) .nil
  | nilf => exact .cons .nilf .nil
  | ifc h => exact .cons (.ifc h) .nil
  | nili => exact .cons .nili .nil
  | tup hl h => exact .cons (.tup hl h) .nil
  | lst hz hl hn hc hm hs h1 h => exact .cons (.lst hz hl hn hc hm hs h1 h) .nil
  | lst0 => exact .cons .lst0 .nil
  | cptr hz hc h1 h => exact .cons (.cptr hz hc h1 h) .nil
  | bf h hv2 ht hb hs h0 hn hN => exact .cons (.bf h hv2 ht hb hs h0 hn hN) .nil
  | bfp h hv2 ht hb hs => exact .cons (.bfp h hv2 ht hb hs) .nil
  | bptr h hv2 ht hb hN hs => exact .cons (.bptr h hv2 ht hb hN hs) .nil

/-- A value that lies in one cell. -/
def RelC (m : MMap) (v : AV) (r : Value) : Prop := Rel m v r ∧ r.oneCell' = true
theorem RelC.mono {m m' : MMap} (hm : MLe m m') {v : AV} {r : Value} (h : RelC m v r) : RelC m' v r := ⟨h.1.mono hm, h.2⟩
def AV.one : AV → Bool
  | .un | .agg _ | .tup _ => false
  | _ => true
theorem Rel.one {m : MMap} {v : AV} {r : Value} (h : Rel m v r) (ho : v.one = true) : RelC m v r := ⟨h, by cases h <;> simp_all [AV.one, Value.oneCell']⟩

/-- One block. -/
structure BRel (m : MMap) (w : World) (B : MB) (A : Blk) : Prop where
  sz : A.sz = B.sz
  virt : B.virt = true → A.rows = []
  max : A.rows.length ≤ maxLen
  real : B.virt = false → ∃ c e fr, w.heap[B.blk]? = some (.cells c e fr) ∧ c.size = B.N ∧ B.base + A.rows.length * B.sz ≤ B.N ∧
    (∀ (i : Nat) (row : List AV), A.rows[i]? = some row → row.length = B.sz ∧ ∀ (j : Nat) (v : AV), row[j]? = some v → ∃ r, c[B.base + i * B.sz + j]? = some r ∧ RelC m v r) ∧
    (A.own = true → ∀ o, o < B.N → ¬ (fr.1 ≤ o ∧ o < fr.2))
  ty : B.virt = false → ∀ t, B.ty = some t → ∃ c fr, w.heap[B.blk]? = some (.cells c t fr)

structure HRel (m : MMap) (H : AHeap) (w : World) : Prop where
  len : m.l.length = H.length
  blk : ∀ (b : Nat) (A : Blk), H[b]? = some (some A) → ∃ B, m.l[b]? = some B ∧ BRel m w B A
  fz : ∀ (r : Nat) (c : Array Value), m.z r = some c → ∃ e fr, w.heap[r]? = some (.cells c e fr)
  fzA : ∀ (b : Nat) (A : Blk) (B : MB), H[b]? = some (some A) → m.l[b]? = some B → A.own = true → B.virt = false → m.z B.blk = none
  apart : ∀ (b b' : Nat) (A A' : Blk) (B B' : MB), b ≠ b' → H[b]? = some (some A) → H[b']? = some (some A') → m.l[b]? = some B → m.l[b']? = some B' →
    A.own = true → B.virt = false → B'.virt = false → B.blk ≠ B'.blk

/-- Which of the world's blocks may be written. -/
def Img (m : MMap) (H : AHeap) (r : Nat) : Prop := ∃ (b : Nat) (A : Blk) (B : MB), H[b]? = some (some A) ∧ m.l[b]? = some B ∧ A.own = true ∧ B.virt = false ∧ B.blk = r

structure Stp (m : MMap) (H : AHeap) (w : World) (m' : MMap) (H' : AHeap) (w' : World) : Prop where
  mle : MLe m m'
  os : w'.os = w.os
  tape : w'.tape = w.tape
  output : w'.output = w.output
  size : w.heap.size ≤ w'.heap.size
  img : ∀ r, Img m' H' r → Img m H r ∨ w.heap.size ≤ r
  new : ∀ (b : Nat) (B : MB), m'.l[b]? = some B → B.virt = false → m.l[b]? = some B ∨ Img m H B.blk ∨ w.heap.size ≤ B.blk
  newz : ∀ (r : Nat) (c : Array Value), m'.z r = some c → m.z r = some c ∨ Img m H r ∨ w.heap.size ≤ r
  dead : ∀ (b : Nat), H[b]? = some none → H'[b]? = some none
  block : ∀ r, r < w.heap.size → ¬ Img m H r → w'.heap[r]? = w.heap[r]?

theorem Stp.refl (m : MMap) (H : AHeap) (w : World) : Stp m H w m H w :=
  ⟨.refl _, rfl, rfl, rfl, Nat.le_refl _, fun _ h => .inl h, fun _ _ h _ => .inl h, fun _ _ h => .inl h, fun _ h => h, fun _ _ _ => rfl⟩
theorem Stp.trans {m m1 m2 : MMap} {H H1 H2 : AHeap} {w w1 w2 : World} (h : Stp m H w m1 H1 w1) (k : Stp m1 H1 w1 m2 H2 w2) : Stp m H w m2 H2 w2 where
  mle := h.mle.trans k.mle
  os := k.os.trans h.os
  tape := k.tape.trans h.tape
  output := k.output.trans h.output
  size := Nat.le_trans h.size k.size
  img r hr := by
    rcases k.img r hr with h1 | h1
    · exact h.img r h1
    · exact .inr (Nat.le_trans h.size h1)
  new b B hb hv := by
    rcases k.new b B hb hv with h1 | h1 | h1
    · exact h.new b B h1 hv
    · exact .inr (h.img _ h1)
    · exact .inr (.inr (Nat.le_trans h.size h1))
  newz r c hr := by
    rcases k.newz r c hr with h1 | h1 | h1
    · exact h.newz r c h1
    · exact .inr (h.img r h1)
    · exact .inr (.inr (Nat.le_trans h.size h1))
  dead b hb := k.dead b (h.dead b hb)
  block r hr hn := by
    rw [k.block r (Nat.lt_of_lt_of_le hr h.size) ?_, h.block r hr hn]
    intro hi
    rcases h.img r hi with h1 | h1
    · exact hn h1
    · omega

/-- A Go function with a body. -/
def Callable (P : Program) (f : FuncId) : Prop := ∃ fn, P.funcs[f]? = some fn ∧ fn.body.isNone = false ∧ (fn.name == "runtime.NumGoroutine") = false

/-- The promise of a call: from whatever stands for these arguments and this heap the function returns, and what it returns and leaves is told by Q. -/
def AC (P : Program) (f : FuncId) (args : List AV) (H : AHeap) (Q : AV → AHeap → Prop) : Prop :=
  Callable P f ∧ ∀ (m : MMap) (w : World) (vs : List Value), HRel m H w → RelL m args vs →
    Calls P f vs.toArray w fun e w' => ∃ v r m' H', e = .returned r ∧ HRel m' H' w' ∧ Rel m' v r ∧ Stp m H w m' H' w' ∧ Q v H'

theorem AC.mono {P : Program} {f : FuncId} {args : List AV} {H : AHeap} {Q Q' : AV → AHeap → Prop} (h : AC P f args H Q) (hq : ∀ v H', Q v H' → Q' v H') : AC P f args H Q' :=
  ⟨h.1, fun m w vs hm hv => (h.2 m w vs hm hv).mono fun e w' ⟨v, r, m', H', he, h1, h2, h3, h4⟩ => ⟨v, r, m', H', he, h1, h2, h3, hq v H' h4⟩⟩

end Go.Ab
/- The abstract machine: what the model's memory does, told of abstract heaps. -/
set_option linter.unusedVariables false
set_option linter.unusedSimpArgs false
namespace Go.Ab

def hget (H : AHeap) (b : Nat) : Option Blk := H.getD b none
def hrow (H : AHeap) (b i : Nat) : Option (List AV) := (hget H b).bind fun A => A.rows[i]?

theorem hget_eq {H : AHeap} {b : Nat} {A : Blk} : hget H b = some A ↔ H[b]? = some (some A) := by
  unfold hget
  rw [List.getD_eq_getElem?_getD]
  cases h : H[b]? with
  | none => simp
  | some x => simp
theorem hget_lt {H : AHeap} {b : Nat} {A : Blk} (h : hget H b = some A) : b < H.length := (List.getElem?_eq_some_iff.1 (hget_eq.1 h)).1
theorem hget_append_left {H K : AHeap} {b : Nat} (h : b < H.length) : hget (H ++ K) b = hget H b := by
  unfold hget; simp [List.getD_eq_getElem?_getD, List.getElem?_append_left h]
theorem hget_append_right {H K : AHeap} (k : Nat) : hget (H ++ K) (H.length + k) = hget K k := by
  unfold hget; simp [List.getD_eq_getElem?_getD, List.getElem?_append_right]
theorem hget_set_same {H : AHeap} {b : Nat} {x : Option Blk} (h : b < H.length) : hget (H.set b x) b = x := by
  unfold hget; simp [List.getD_eq_getElem?_getD, h]
theorem hget_set_ne {H : AHeap} {b c : Nat} {x : Option Blk} (h : b ≠ c) : hget (H.set b x) c = hget H c := by
  unfold hget; simp [List.getD_eq_getElem?_getD, List.getElem?_set_ne h]

theorem BRel.keep {m m' : MMap} {w w' : World} {B : MB} {A : Blk} (h : BRel m w B A) (hm : MLe m m') (hw : B.virt = false → w'.heap[B.blk]? = w.heap[B.blk]?) : BRel m' w' B A where
  sz := h.sz
  virt := h.virt
  max := h.max
  ty hv t ht := by
    obtain ⟨c, fr, h1⟩ := h.ty hv t ht
    exact ⟨c, fr, by rw [hw hv]; exact h1⟩
  real hv := by
    obtain ⟨c, e, fr, h1, h2, h3, h4, h5⟩ := h.real hv
    refine ⟨c, e, fr, by rw [hw hv]; exact h1, h2, h3, fun i row hr => ⟨(h4 i row hr).1, fun j v hj => ?_⟩, h5⟩
    obtain ⟨r, hr1, hr2⟩ := (h4 i row hr).2 j v hj
    exact ⟨r, hr1, hr2.mono hm⟩

theorem HRel.lt {m : MMap} {H : AHeap} {w : World} (h : HRel m H w) {b : Nat} {A : Blk} {B : MB} (hb : hget H b = some A) (hB : m.l[b]? = some B) (hv : B.virt = false) : B.blk < w.heap.size := by
  obtain ⟨B', hB', hr⟩ := h.blk b A (hget_eq.1 hb)
  rw [hB] at hB'; injection hB' with e; subst e
  obtain ⟨c, e, fr, h1, _⟩ := hr.real hv
  exact (Array.getElem?_eq_some_iff.1 h1).1

/-- A world in which the blocks that are told stand as they stood. -/
theorem HRel.world {m : MMap} {H : AHeap} {w w' : World} (h : HRel m H w) (hw : ∀ r, r < w.heap.size → w'.heap[r]? = w.heap[r]?) : HRel m H w' where
  len := h.len
  blk b A hb := by
    obtain ⟨B, hB, hr⟩ := h.blk b A hb
    exact ⟨B, hB, hr.keep (.refl _) fun hv => hw _ (h.lt (hget_eq.2 hb) hB hv)⟩
  fz r c hr := by
    obtain ⟨e, fr, h1⟩ := h.fz r c hr
    exact ⟨e, fr, by rw [hw r (Array.getElem?_eq_some_iff.1 h1).1]; exact h1⟩
  fzA := h.fzA
  apart := h.apart
theorem HRel.zlt {m : MMap} {H : AHeap} {w : World} (h : HRel m H w) {r : Nat} (hr : w.heap.size ≤ r) : m.z r = none := by
  cases hz : m.z r with
  | none => rfl
  | some c =>
    obtain ⟨e, fr, h1⟩ := h.fz r c hz
    have := (Array.getElem?_eq_some_iff.1 h1).1
    omega

/-- A block is forgotten. -/
theorem HRel.kill {m : MMap} {H : AHeap} {w : World} (h : HRel m H w) (b : Nat) : HRel m (H.set b none) w where
  len := by simp [h.len]
  blk c A hc := by
    by_cases e : b = c
    · subst e; rw [List.getElem?_set] at hc; simp at hc
    · rw [List.getElem?_set_ne e] at hc; exact h.blk c A hc
  fz := h.fz
  fzA c A B hc := by
    have k1 : b ≠ c := fun e => by subst e; rw [List.getElem?_set] at hc; simp at hc
    rw [List.getElem?_set_ne k1] at hc
    exact h.fzA c A B hc
  apart c c' A A' B B' hne hc hc' := by
    have k1 : b ≠ c := fun e => by subst e; rw [List.getElem?_set] at hc; simp at hc
    have k2 : b ≠ c' := fun e => by subst e; rw [List.getElem?_set] at hc'; simp at hc'
    rw [List.getElem?_set_ne k1] at hc
    rw [List.getElem?_set_ne k2] at hc'
    exact h.apart c c' A A' B B' hne hc hc'

theorem Img.kill {m : MMap} {H : AHeap} {b r : Nat} (h : Img m (H.set b none) r) : Img m H r := by
  obtain ⟨c, A, B, h1, h2⟩ := h
  have k1 : b ≠ c := fun e => by subst e; rw [List.getElem?_set] at h1; simp at h1
  rw [List.getElem?_set_ne k1] at h1
  exact ⟨c, A, B, h1, h2⟩

theorem dead_kill {H : AHeap} {b c : Nat} (h : H[c]? = some none) : (H.set b none)[c]? = some none := by
  by_cases e : b = c
  · subst e; rw [List.getElem?_set_self (List.getElem?_eq_some_iff.1 h).1]
  · rw [List.getElem?_set_ne e]; exact h
theorem dead_add {H K : AHeap} {c : Nat} (h : H[c]? = some none) : (H ++ K)[c]? = some none := by
  rw [List.getElem?_append_left (List.getElem?_eq_some_iff.1 h).1]; exact h
theorem Stp.world {m : MMap} {H : AHeap} {w w' : World} (os : w'.os = w.os) (tape : w'.tape = w.tape) (out : w'.output = w.output) (size : w.heap.size ≤ w'.heap.size)
    (hw : ∀ r, r < w.heap.size → w'.heap[r]? = w.heap[r]?) : Stp m H w m H w' :=
  ⟨.refl _, os, tape, out, size, fun _ h => .inl h, fun _ _ h _ => .inl h, fun _ _ h => .inl h, fun _ h => h, fun r hr _ => hw r hr⟩
theorem Stp.kill {m : MMap} {H : AHeap} {w : World} (b : Nat) : Stp m H w m (H.set b none) w :=
  ⟨.refl _, rfl, rfl, rfl, Nat.le_refl _, fun _ h => .inl h.kill, fun _ _ h _ => .inl h, fun _ _ h => .inl h, fun c h => dead_kill h, fun _ _ _ => rfl⟩

/-- A block is added: the real one stands there already, and nobody tells of it. -/
theorem HRel.add {m : MMap} {H : AHeap} {w : World} (h : HRel m H w) (B : MB) (A : Blk) (hr : BRel (m.add B) w B A)
    (hap : B.virt = false → ∀ (b : Nat) (A' : Blk) (B' : MB), hget H b = some A' → m.l[b]? = some B' → B'.virt = false → B'.blk ≠ B.blk) (hz : A.own = true → B.virt = false → m.z B.blk = none) :
    HRel (m.add B) (H ++ [some A]) w where
  len := by simp [MMap.add, h.len]
  fz := h.fz
  fzA b A' B' hb hB' := by
    simp only [MMap.add_l, MMap.add_z] at hB' ⊢
    by_cases hlt : b < H.length
    · rw [List.getElem?_append_left hlt] at hb
      rw [List.getElem?_append_left (by rw [h.len]; exact hlt)] at hB'
      exact h.fzA b A' B' hb hB'
    · rw [List.getElem?_append_right (by omega)] at hb
      have e : b = H.length := by
        have := (List.getElem?_eq_some_iff.1 hb).1; simp at this; omega
      subst e
      simp at hb; subst hb
      rw [← h.len] at hB'; simp at hB'; subst hB'
      exact hz
  blk b A' hb := by
    simp only [MMap.add_l]
    by_cases hlt : b < H.length
    · rw [List.getElem?_append_left hlt] at hb
      obtain ⟨B', hB', hr'⟩ := h.blk b A' hb
      exact ⟨B', by rw [List.getElem?_append_left (by rw [h.len]; exact hlt)]; exact hB', hr'.keep (.append _ _) fun _ => rfl⟩
    · rw [List.getElem?_append_right (by omega)] at hb
      have e : b = H.length := by
        have := (List.getElem?_eq_some_iff.1 hb).1; simp at this; omega
      subst e
      simp at hb; subst hb
      exact ⟨B, by rw [← h.len]; simp, hr⟩
  apart b b' A1 A2 B1 B2 hne hb hb' hB hB' ho hv hv' := by
    simp only [MMap.add_l] at hB hB'
    have new : ∀ (b : Nat) (A : Blk) (B' : MB), (H ++ [some A])[b]? = (H ++ [some A])[b]? → True := fun _ _ _ _ => trivial
    by_cases h1 : b < H.length
    · rw [List.getElem?_append_left h1] at hb
      rw [List.getElem?_append_left (by rw [h.len]; exact h1)] at hB
      by_cases h2 : b' < H.length
      · rw [List.getElem?_append_left h2] at hb'
        rw [List.getElem?_append_left (by rw [h.len]; exact h2)] at hB'
        exact h.apart b b' A1 A2 B1 B2 hne hb hb' hB hB' ho hv hv'
      · have e : b' = H.length := by
          have := (List.getElem?_eq_some_iff.1 hb').1; simp at this; omega
        subst e
        rw [← h.len] at hB'; simp at hB'; subst hB'
        exact hap hv' b A1 B1 (hget_eq.2 hb) hB hv
    · have e : b = H.length := by
        have := (List.getElem?_eq_some_iff.1 hb).1; simp at this; omega
      subst e
      rw [← h.len] at hB; simp at hB; subst hB
      have h2 : b' < H.length := by
        have := (List.getElem?_eq_some_iff.1 hb').1; simp at this; omega
      rw [List.getElem?_append_left h2] at hb'
      rw [List.getElem?_append_left (by rw [h.len]; exact h2)] at hB'
      exact (hap hv b' A2 B2 (hget_eq.2 hb') hB' hv').symm

theorem Img.add {m : MMap} {H : AHeap} {B : MB} {A : Blk} {r : Nat} (hl : m.l.length = H.length) (h : Img (m.add B) (H ++ [some A]) r) : Img m H r ∨ (A.own = true ∧ B.virt = false ∧ B.blk = r) := by
  obtain ⟨b, A', B', h1, h2, h3, h4, h5⟩ := h
  rw [MMap.add_l] at h2
  by_cases hlt : b < H.length
  · rw [List.getElem?_append_left hlt] at h1
    rw [List.getElem?_append_left (by rw [hl]; exact hlt)] at h2
    exact .inl ⟨b, A', B', h1, h2, h3, h4, h5⟩
  · have e : b = H.length := by
      have := (List.getElem?_eq_some_iff.1 h1).1; simp at this; omega
    subst e
    simp at h1; subst h1
    rw [← hl] at h2; simp at h2; subst h2
    exact .inr ⟨h3, h4, h5⟩

theorem add_new {m : MMap} {B : MB} {R : MB → Prop} (hR : R B) (b : Nat) (B' : MB) (h : (m.add B).l[b]? = some B') : m.l[b]? = some B' ∨ R B' := by
  rw [MMap.add_l] at h
  by_cases hlt : b < m.l.length
  · rw [List.getElem?_append_left hlt] at h; exact .inl h
  · rw [List.getElem?_append_right (by omega)] at h
    have : b - m.l.length = 0 := by have := (List.getElem?_eq_some_iff.1 h).1; simp at this; omega
    rw [this] at h; simp at h; subst h; exact .inr hR

/-- A new block of the world's. -/
theorem HRel.new {m : MMap} {H : AHeap} {w : World} (h : HRel m H w) (c : Array Value) (e : TypeId) (own : Bool) (sz : Nat) (rows : List (List AV)) (ty : Option TypeId) (hty : ty = none ∨ ty = some e) (hmax : rows.length ≤ maxLen)
    (hN : rows.length * sz ≤ c.size)
    (hr : ∀ (i : Nat) (row : List AV), rows[i]? = some row → row.length = sz ∧ ∀ (j : Nat) (v : AV), row[j]? = some v → ∃ r, c[i * sz + j]? = some r ∧ RelC m v r) :
    HRel (m.add ⟨w.heap.size, 0, sz, c.size, false, ty⟩) (H ++ [some ⟨own, sz, rows⟩]) (w.alloc (.cells c e)) ∧
    Stp m H w (m.add ⟨w.heap.size, 0, sz, c.size, false, ty⟩) (H ++ [some ⟨own, sz, rows⟩]) (w.alloc (.cells c e)) := by
  have hold : ∀ r, r < w.heap.size → (w.alloc (.cells c e)).heap[r]? = w.heap[r]? := fun r hr => heap_alloc_old w _ r hr
  refine ⟨(h.world hold).add _ _ ⟨rfl, fun hv => by simp at hv, hmax, fun _ => ⟨c, e, (0, 0), heap_alloc_new w _, rfl, by simpa using hN, fun i row hi => ⟨(hr i row hi).1, fun j v hj => ?_⟩, fun _ o _ => by simp⟩, fun _ t ht => by
      rcases hty with e1 | e1
      · subst e1; simp at ht
      · subst e1; simp at ht; subst ht; exact ⟨c, (0, 0), heap_alloc_new w _⟩⟩ ?_ (fun _ _ => h.zlt (Nat.le_refl _)), ?_⟩
  · obtain ⟨r, h1, h2⟩ := (hr i row hi).2 j v hj
    exact ⟨r, by simpa using h1, h2.mono (.append _ _)⟩
  · intro _ b A' B' hb hB hv hlt
    have := h.lt hb hB hv
    simp at hlt; omega
  · refine ⟨.append _ _, rfl, rfl, rfl, by simp, fun r hr => ?_, ?_, fun _ _ h => .inl h, fun _ h => dead_add h, fun r hr _ => hold r hr⟩
    rcases Img.add h.len hr with h1 | ⟨_, _, h1⟩
    · exact .inl h1
    · simp at h1; exact .inr (by omega)
    · exact fun b B hb hv => (add_new (R := fun B => w.heap.size ≤ B.blk) (Nat.le_refl _) b B hb).imp id .inr

/-- The cells at an address that is told. -/
theorem HRel.cells {m : MMap} {H : AHeap} {w : World} (h : HRel m H w) {b i : Nat} {row : List AV} {B : MB} (hr : hrow H b i = some row) (hB : m.l[b]? = some B) (hv : B.virt = false) :
    row.length = B.sz ∧ ∀ (j : Nat) (v : AV), row[j]? = some v → ∃ r, w.cell? ⟨B.blk, B.base + i * B.sz + j, none⟩ = some r ∧ RelC m v r := by
  unfold hrow at hr
  cases hb : hget H b with
  | none => rw [hb] at hr; simp at hr
  | some A =>
    rw [hb] at hr; simp at hr
    obtain ⟨B', hB', hR⟩ := h.blk b A (hget_eq.1 hb)
    rw [hB] at hB'; injection hB' with e; subst e
    obtain ⟨c, e, fr, h1, h2, h3, h4, h5⟩ := hR.real hv
    refine ⟨(h4 i row hr).1, fun j v hj => ?_⟩
    obtain ⟨r, hr1, hr2⟩ := (h4 i row hr).2 j v hj
    exact ⟨r, by simp [World.cell?, h1, hr1], hr2⟩

theorem hrow_virt {m : MMap} {H : AHeap} {w : World} (h : HRel m H w) {b i : Nat} {row : List AV} {B : MB} (hr : hrow H b i = some row) (hB : m.l[b]? = some B) : B.virt = false := by
  unfold hrow at hr
  cases hb : hget H b with
  | none => rw [hb] at hr; simp at hr
  | some A =>
    rw [hb] at hr; simp at hr
    obtain ⟨B', hB', hR⟩ := h.blk b A (hget_eq.1 hb)
    rw [hB] at hB'; injection hB' with e; subst e
    cases hv : B.virt with
    | false => rfl
    | true => rw [hR.virt hv] at hr; simp at hr

theorem setCells_block (b : Nat) : ∀ (vs : List Value) (o : Nat) (w : World) (c : Array Value) (e : TypeId) (fr : Nat × Nat), w.heap[b]? = some (.cells c e fr) → o + vs.length ≤ c.size →
    ∃ c', (w.setCells b o vs).heap[b]? = some (.cells c' e fr) ∧ c'.size = c.size ∧ (∀ k, o ≤ k → k < o + vs.length → c'[k]? = vs[k - o]?) ∧ (∀ k, k < o ∨ o + vs.length ≤ k → c'[k]? = c[k]?) := by
  intro vs
  induction vs with
  | nil => intro o w c e fr h _; exact ⟨c, h, rfl, fun k h1 h2 => by simp at h2; omega, fun _ _ => rfl⟩
  | cons v r ih =>
    intro o w c e fr h hs
    simp only [List.length_cons] at hs
    have h1 : (w.setCell ⟨b, o, none⟩ v).heap[b]? = some (.cells (c.setIfInBounds o v) e fr) := by
      simp [World.setCell, Array.getElem?_modify, h]
    obtain ⟨c', k1, k2, k3, k4⟩ := ih (o + 1) _ _ e fr h1 (by simp; omega)
    refine ⟨c', k1, by simpa using k2, fun k ha hb => ?_, fun k hk => ?_⟩
    · simp only [List.length_cons] at hb
      by_cases he : k = o
      · subst he
        rw [k4 _ (.inl (by omega))]
        have hsz : k < c.size := by omega
        simp [Array.getElem?_setIfInBounds, hsz]
      · rw [k3 k (by omega) (by omega), show k - o = (k - (o + 1)) + 1 by omega]
        simp
    · simp only [List.length_cons] at hk
      rw [k4 k (by omega), Array.getElem?_setIfInBounds_ne (by omega)]
theorem setCells_other (b : Nat) : ∀ (vs : List Value) (o : Nat) (w : World) (r : Nat), r ≠ b → (w.setCells b o vs).heap[r]? = w.heap[r]? := by
  intro vs
  induction vs with
  | nil => intro o w r _; rfl
  | cons v s ih =>
    intro o w r hr
    rw [World.setCells, ih _ _ _ hr]
    simp [World.setCell, Array.getElem?_modify, Ne.symm hr]
theorem setCells_rest (b : Nat) : ∀ (vs : List Value) (o : Nat) (w : World), (w.setCells b o vs).heap.size = w.heap.size ∧ (w.setCells b o vs).os = w.os ∧ (w.setCells b o vs).tape = w.tape ∧ (w.setCells b o vs).output = w.output := by
  intro vs
  induction vs with
  | nil => intro o w; exact ⟨rfl, rfl, rfl, rfl⟩
  | cons v s ih =>
    intro o w
    obtain ⟨h1, h2, h3, h4⟩ := ih (o + 1) (w.setCell ⟨b, o, none⟩ v)
    rw [World.setCells]
    exact ⟨h1.trans (by simp [World.setCell]), h2, h3, h4⟩

/-- One block is turned in place, the others stand. -/
theorem HRel.turn {m : MMap} {H : AHeap} {w w' : World} (h : HRel m H w) {b : Nat} {A A' : Blk} {B : MB} (hb : hget H b = some A) (hB : m.l[b]? = some B) (hv : B.virt = false) (ho : A.own = true)
    (ho' : A'.own = true) (hA' : BRel m w' B A') (hw : ∀ r, r ≠ B.blk → w'.heap[r]? = w.heap[r]?) (os : w'.os = w.os) (tape : w'.tape = w.tape) (out : w'.output = w.output) (size : w'.heap.size = w.heap.size) :
    HRel m (H.set b (some A')) w' ∧ Stp m H w m (H.set b (some A')) w' := by
  have hlt := hget_lt hb
  refine ⟨⟨by simp [h.len], fun c C hc => ?_, fun r c hr => ?_, fun c C D hc hD hown hDv => ?_, fun c c' C C' D D' hne hc hc' hD hD' hown hDv hDv' => ?_⟩, ⟨.refl _, os, tape, out, by omega, fun r hr => ?_, fun _ _ h _ => .inl h, fun _ _ h => .inl h, fun c hc => ?_, fun r hr hn => ?_⟩⟩
  · by_cases e : b = c
    · subst e; rw [List.getElem?_set_self hlt] at hc; simp at hc; subst hc; exact ⟨B, hB, hA'⟩
    · rw [List.getElem?_set_ne e] at hc
      obtain ⟨D, hD, hR⟩ := h.blk c C hc
      refine ⟨D, hD, hR.keep (.refl _) fun hDv => hw _ ?_⟩
      exact (h.apart b c A C B D e (hget_eq.1 hb) hc hB hD ho hv hDv).symm
  · obtain ⟨e, fr, h1⟩ := h.fz r c hr
    refine ⟨e, fr, ?_⟩
    rw [hw r ?_]; exact h1
    intro e'
    have := h.fzA b A B (hget_eq.1 hb) hB ho hv
    rw [← e', hr] at this
    simp at this
  · by_cases e : b = c
    · subst e; rw [hB] at hD; injection hD with e; subst e
      exact h.fzA b A B (hget_eq.1 hb) hB ho hv
    · rw [List.getElem?_set_ne e] at hc; exact h.fzA c C D hc hD hown hDv
  · have lift : ∀ (c : Nat) (C : Blk), (H.set b (some A'))[c]? = some (some C) → ∃ C0, H[c]? = some (some C0) ∧ (C.own = true → C0.own = true) := fun c C hc => by
      by_cases e : b = c
      · subst e; exact ⟨A, hget_eq.1 hb, fun _ => ho⟩
      · rw [List.getElem?_set_ne e] at hc; exact ⟨C, hc, id⟩
    obtain ⟨C0, h0, h1⟩ := lift c C hc
    obtain ⟨C0', h0', _⟩ := lift c' C' hc'
    exact h.apart c c' C0 C0' D D' hne h0 h0' hD hD' (h1 hown) hDv hDv'
  · obtain ⟨c, C, D, h1, h2, h3, h4, h5⟩ := hr
    by_cases e : b = c
    · subst e; rw [hB] at h2; injection h2 with e; subst e; exact .inl ⟨b, A, B, hget_eq.1 hb, hB, ho, hv, h5⟩
    · rw [List.getElem?_set_ne e] at h1; exact .inl ⟨c, C, D, h1, h2, h3, h4, h5⟩
  · have hne : b ≠ c := fun e => by subst e; rw [hget_eq.1 hb] at hc; simp at hc
    rw [List.getElem?_set_ne hne]; exact hc
  · exact hw r fun e => hn ⟨b, A, B, hget_eq.1 hb, hB, ho, hv, e.symm⟩

def splice (row : List AV) (j : Nat) (vs : List AV) : List AV := row.take j ++ vs ++ row.drop (j + vs.length)
theorem splice_length {row vs : List AV} {j : Nat} (h : j + vs.length ≤ row.length) : (splice row j vs).length = row.length := by
  simp [splice]; omega
theorem splice_get {row vs : List AV} {j k : Nat} (h : j + vs.length ≤ row.length) : (splice row j vs)[k]? = if j ≤ k ∧ k < j + vs.length then vs[k - j]? else row[k]? := by
  have hj : (row.take j).length = j := by simp; omega
  unfold splice
  split
  · rename_i hk
    rw [List.append_assoc, List.getElem?_append_right (by omega), hj, List.getElem?_append_left (by omega)]
  · rename_i hk
    by_cases h1 : k < j
    · rw [List.append_assoc, List.getElem?_append_left (by omega), List.getElem?_take]; simp [h1]
    · rw [List.getElem?_append_right (by simp; omega), List.getElem?_drop]
      congr 1
      simp
      omega

theorem HRel.store {m : MMap} {H : AHeap} {w : World} (h : HRel m H w) {b i j : Nat} {A : Blk} {B : MB} {row vs : List AV} {cs : List Value} (hb : hget H b = some A) (ho : A.own = true) (hr : A.rows[i]? = some row)
    (hB : m.l[b]? = some B) (hv : B.virt = false) (hvs : RelL m vs cs) (h1 : ∀ v ∈ cs, v.oneCell' = true) (hj : j + vs.length ≤ row.length) :
    (∀ k, k < cs.length → (w.cell? ⟨B.blk, B.base + i * B.sz + j + k, none⟩).isSome = true ∧ w.frozen? ⟨B.blk, B.base + i * B.sz + j + k, none⟩ = false) ∧
    HRel m (H.set b (some { A with rows := A.rows.set i (splice row j vs) })) (w.setCells B.blk (B.base + i * B.sz + j) cs) ∧
    Stp m H w m (H.set b (some { A with rows := A.rows.set i (splice row j vs) })) (w.setCells B.blk (B.base + i * B.sz + j) cs) := by
  obtain ⟨B', hB', hR⟩ := h.blk b A (hget_eq.1 hb)
  rw [hB] at hB'; injection hB' with e; subst e
  obtain ⟨c, e, fr, g1, g2, g3, g4, g5⟩ := hR.real hv
  have hi : i < A.rows.length := (List.getElem?_eq_some_iff.1 hr).1
  have hrl := (g4 i row hr).1
  have hmul : (i + 1) * B.sz ≤ A.rows.length * B.sz := Nat.mul_le_mul_right _ hi
  have hmul' : (i + 1) * B.sz = i * B.sz + B.sz := by rw [Nat.add_mul, Nat.one_mul]
  have hl := hvs.1
  obtain ⟨c', k1, k2, k3, k4⟩ := setCells_block B.blk cs (B.base + i * B.sz + j) w c e fr g1 (by omega)
  obtain ⟨r1, r2, r3, r4⟩ := setCells_rest B.blk cs (B.base + i * B.sz + j) w
  refine ⟨fun k hk => ⟨?_, ?_⟩, h.turn hb hB hv ho ho ⟨hR.sz, fun hx => by rw [hv] at hx; simp at hx, by simpa using hR.max, fun _ => ⟨c', e, fr, k1, by omega, by simpa using g3, fun i' row' hr' => ?_, g5⟩, fun hv' t ht => by
      obtain ⟨c0, fr0, q⟩ := hR.ty hv' t ht
      rw [g1] at q; injection q with q; injection q with q1 q2 q3; subst q2
      exact ⟨c', fr, k1⟩⟩
    (fun r hr => setCells_other _ _ _ _ _ hr) r2 r3 r4 r1⟩
  · simp [World.cell?, g1]; omega
  · have := g5 ho (B.base + i * B.sz + j + k) (by omega)
    simp only [World.frozen?, g1]
    cases hd : (decide (fr.1 ≤ B.base + i * B.sz + j + k) && decide (B.base + i * B.sz + j + k < fr.2)) with
    | false => rfl
    | true => exact absurd (by simpa using hd) this
  · simp only at hr'
    by_cases he : i = i'
    · subst he
      rw [List.getElem?_set_self hi] at hr'
      simp at hr'; subst hr'
      refine ⟨by rw [splice_length hj]; exact hrl, fun k v hk => ?_⟩
      rw [splice_get hj] at hk
      split at hk
      · rename_i hjk
        obtain ⟨r, hr1, hr2⟩ := hvs.get hk
        refine ⟨r, ?_, hr2, h1 r (List.mem_of_getElem? hr1)⟩
        rw [k3 _ (by omega) (by omega), show B.base + i * B.sz + k - (B.base + i * B.sz + j) = k - j by omega]
        exact hr1
      · rename_i hjk
        obtain ⟨r, hr1, hr2⟩ := (g4 i row hr).2 k v hk
        exact ⟨r, by rw [k4 _ (by omega)]; exact hr1, hr2⟩
    · rw [List.getElem?_set_ne he] at hr'
      refine ⟨(g4 i' row' hr').1, fun k v hk => ?_⟩
      obtain ⟨r, hr1, hr2⟩ := (g4 i' row' hr').2 k v hk
      refine ⟨r, ?_, hr2⟩
      have hkl : k < B.sz := by rw [← (g4 i' row' hr').1]; exact (List.getElem?_eq_some_iff.1 hk).1
      rw [k4 _ ?_]; exact hr1
      rcases Nat.lt_or_gt_of_ne he with hlt | hlt
      · right
        have : (i + 1) * B.sz ≤ i' * B.sz := Nat.mul_le_mul_right _ hlt
        omega
      · left
        have : (i' + 1) * B.sz ≤ i * B.sz := Nat.mul_le_mul_right _ hlt
        rw [Nat.add_mul, Nat.one_mul] at this
        omega

end Go.Ab
/- The abstract machine: append. -/
set_option linter.unusedVariables false
set_option linter.unusedSimpArgs false
namespace Go.Ab

/-- Rows that lie in cells, one behind the other. -/
def RowsAt (m : MMap) (sz : Nat) (c : Nat → Option Value) (rows : List (List AV)) : Prop :=
  ∀ (i : Nat) (row : List AV), rows[i]? = some row → row.length = sz ∧ ∀ (j : Nat) (v : AV), row[j]? = some v → ∃ r, c (i * sz + j) = some r ∧ RelC m v r

theorem flat_get (sz : Nat) : ∀ (rows : List (List AV)), (∀ row ∈ rows, row.length = sz) → ∀ (i j : Nat), j < sz → rows.flatten[i * sz + j]? = (rows[i]?).bind (·[j]?)
  | [], _, i, j, _ => by simp
  | row :: rest, h, 0, j, hj => by
    have hr := h row (by simp)
    simp only [List.flatten_cons, Nat.zero_mul, Nat.zero_add]
    rw [List.getElem?_append_left (by omega)]
    simp
  | row :: rest, h, i + 1, j, hj => by
    have hr := h row (by simp)
    have ih := flat_get sz rest (fun r hr' => h r (by simp [hr'])) i j hj
    simp only [List.flatten_cons]
    rw [List.getElem?_append_right (by rw [hr, Nat.add_mul]; omega), hr, show (i + 1) * sz + j - sz = i * sz + j by rw [Nat.add_mul]; omega, ih]
    simp
theorem flat_length (sz : Nat) : ∀ (rows : List (List AV)), (∀ row ∈ rows, row.length = sz) → rows.flatten.length = rows.length * sz
  | [], _ => by simp
  | row :: rest, h => by
    simp [flat_length sz rest (fun r hr => h r (by simp [hr])), h row (by simp), Nat.add_mul]; omega

/-- In place: the old block is forgotten, the new one begins where the slice begins. -/
theorem HRel.regrow {m : MMap} {H : AHeap} {w : World} (h : HRel m H w) {b i : Nat} {A : Blk} {B : MB} {new : List (List AV)} {news : List Value} (hb : hget H b = some A) (ho : A.own = true)
    (hB : m.l[b]? = some B) (hv : B.virt = false) (hi : i ≤ A.rows.length) (hnl : ∀ row ∈ new, row.length = B.sz) (hnew : RelL m new.flatten news) (h1 : ∀ v ∈ news, v.oneCell' = true)
    (hN : B.base + (A.rows.length + new.length) * B.sz ≤ B.N) (hmx : (A.rows.drop i ++ new).length ≤ maxLen) :
    (∀ k, k < news.length → (w.cell? ⟨B.blk, B.base + A.rows.length * B.sz + k, none⟩).isSome = true ∧ w.frozen? ⟨B.blk, B.base + A.rows.length * B.sz + k, none⟩ = false) ∧
    HRel (m.add ⟨B.blk, B.base + i * B.sz, B.sz, B.N, false, B.ty⟩) (H.set b none ++ [some ⟨true, B.sz, A.rows.drop i ++ new⟩]) (w.setCells B.blk (B.base + A.rows.length * B.sz) news) ∧
    Stp m H w (m.add ⟨B.blk, B.base + i * B.sz, B.sz, B.N, false, B.ty⟩) (H.set b none ++ [some ⟨true, B.sz, A.rows.drop i ++ new⟩]) (w.setCells B.blk (B.base + A.rows.length * B.sz) news) := by
  obtain ⟨B', hB', hR⟩ := h.blk b A (hget_eq.1 hb)
  rw [hB] at hB'; injection hB' with e; subst e
  obtain ⟨c, e, fr, g1, g2, g3, g4, g5⟩ := hR.real hv
  have hfl := flat_length B.sz new hnl
  have hnw : news.length = new.length * B.sz := by rw [← hnew.1, hfl]
  have hmul : (A.rows.length + new.length) * B.sz = A.rows.length * B.sz + new.length * B.sz := Nat.add_mul ..
  obtain ⟨c', k1, k2, k3, k4⟩ := setCells_block B.blk news (B.base + A.rows.length * B.sz) w c e fr g1 (by omega)
  obtain ⟨r1, r2, r3, r4⟩ := setCells_rest B.blk news (B.base + A.rows.length * B.sz) w
  have hlt := hget_lt hb
  have hkill : HRel m (H.set b none) (w.setCells B.blk (B.base + A.rows.length * B.sz) news) := by
    have hk := h.kill b
    refine ⟨hk.len, fun d D hd => ?_, fun r c hr => ?_, hk.fzA, hk.apart⟩
    rotate_left
    · obtain ⟨e', fr', h1'⟩ := h.fz r c hr
      refine ⟨e', fr', ?_⟩
      rw [setCells_other _ _ _ _ _ ?_]; exact h1'
      intro e''
      have := h.fzA b A B (hget_eq.1 hb) hB ho hv
      rw [← e'', hr] at this
      simp at this
    obtain ⟨E, hE, hRE⟩ := hk.blk d D hd
    refine ⟨E, hE, hRE.keep (.refl _) fun hEv => setCells_other _ _ _ _ _ ?_⟩
    have hne : b ≠ d := fun e => by subst e; rw [List.getElem?_set] at hd; simp at hd
    rw [List.getElem?_set_ne hne] at hd
    exact (h.apart b d A D B E hne (hget_eq.1 hb) hd hB hE ho hv hEv).symm
  have hrow : ∀ (k : Nat) (row : List AV), (A.rows.drop i ++ new)[k]? = some row → row.length = B.sz ∧ ∀ (j : Nat) (v : AV), row[j]? = some v → ∃ r, c'[B.base + i * B.sz + k * B.sz + j]? = some r ∧ RelC m v r := by
    intro k row hk
    by_cases hlt' : k < A.rows.length - i
    · rw [List.getElem?_append_left (by simpa using hlt'), List.getElem?_drop] at hk
      refine ⟨(g4 _ row hk).1, fun j v hj => ?_⟩
      obtain ⟨r, hr1, hr2⟩ := (g4 _ row hk).2 j v hj
      have hjs : j < B.sz := by rw [← (g4 _ row hk).1]; exact (List.getElem?_eq_some_iff.1 hj).1
      have e1 : (i + k) * B.sz = i * B.sz + k * B.sz := Nat.add_mul ..
      refine ⟨r, ?_, hr2⟩
      rw [k4 _ (.inl ?_), show B.base + i * B.sz + k * B.sz + j = B.base + (i + k) * B.sz + j by omega]; exact hr1
      have : (i + k + 1) * B.sz ≤ A.rows.length * B.sz := Nat.mul_le_mul_right _ (by omega)
      rw [Nat.add_mul, Nat.one_mul] at this
      omega
    · rw [List.getElem?_append_right (by simp; omega)] at hk
      simp only [List.length_drop] at hk
      have hmem := hnl row (List.mem_of_getElem? hk)
      have hkl : k - (A.rows.length - i) < new.length := (List.getElem?_eq_some_iff.1 hk).1
      refine ⟨hmem, fun j v hj => ?_⟩
      have hjs : j < B.sz := by rw [← hmem]; exact (List.getElem?_eq_some_iff.1 hj).1
      have hf : new.flatten[(k - (A.rows.length - i)) * B.sz + j]? = some v := by rw [flat_get B.sz new hnl _ _ hjs, hk]; simpa using hj
      obtain ⟨r, hr1, hr2⟩ := hnew.get hf
      refine ⟨r, ?_, hr2, h1 r (List.mem_of_getElem? hr1)⟩
      have e1 : i * B.sz + k * B.sz = A.rows.length * B.sz + (k - (A.rows.length - i)) * B.sz := by rw [← Nat.add_mul, ← Nat.add_mul]; congr 1; omega
      have e2 : (k - (A.rows.length - i) + 1) * B.sz ≤ new.length * B.sz := Nat.mul_le_mul_right _ hkl
      rw [Nat.add_mul, Nat.one_mul] at e2
      rw [k3 _ (by omega) (by omega), show B.base + i * B.sz + k * B.sz + j - (B.base + A.rows.length * B.sz) = (k - (A.rows.length - i)) * B.sz + j by omega]
      exact hr1
  refine ⟨fun k hk => ⟨?_, ?_⟩, hkill.add _ _ ⟨rfl, fun hx => by simp at hx, hmx, fun _ => ⟨c', e, fr, k1, by simp; omega, ?_, fun k row hk => ⟨(hrow k row hk).1, fun j v hj => ?_⟩, fun _ => g5 ho⟩, fun _ t ht => by
      obtain ⟨c0, fr0, q⟩ := hR.ty hv t ht
      rw [g1] at q; injection q with q; injection q with q1 q2 q3; subst q2
      exact ⟨c', fr, k1⟩⟩ ?_ (fun _ _ => h.fzA b A B (hget_eq.1 hb) hB ho hv), ?_⟩
  · simp [World.cell?, g1]; omega
  · have := g5 ho (B.base + A.rows.length * B.sz + k) (by omega)
    simp only [World.frozen?, g1]
    cases hd : (decide (fr.1 ≤ B.base + A.rows.length * B.sz + k) && decide (B.base + A.rows.length * B.sz + k < fr.2)) with
    | false => rfl
    | true => exact absurd (by simpa using hd) this
  · have e1 : (A.rows.length - i + new.length) * B.sz + i * B.sz = (A.rows.length + new.length) * B.sz := by rw [← Nat.add_mul]; congr 1; omega
    simp; omega
  · obtain ⟨r, h3, h4⟩ := (hrow k row hk).2 j v hj
    exact ⟨r, h3, h4.mono (.append _ _)⟩
  · intro _ d D E hd hE hEv
    have hd' := hget_eq.1 hd
    have hne : b ≠ d := fun e => by subst e; rw [List.getElem?_set] at hd'; simp at hd'
    rw [List.getElem?_set_ne hne] at hd'
    exact (h.apart b d A D B E hne (hget_eq.1 hb) hd' hB hE ho hv hEv).symm
  · refine ⟨.append _ _, r2, r3, r4, by omega, fun r hr => ?_, fun d D hd hDv => (add_new (B := ⟨B.blk, B.base + i * B.sz, B.sz, B.N, false, B.ty⟩) (R := fun D => Img m H D.blk) ⟨b, A, B, hget_eq.1 hb, hB, ho, hv, rfl⟩ d D hd).imp id .inl, fun _ _ h => .inl h, fun _ h => dead_add (dead_kill h), fun r hr hn => setCells_other _ _ _ _ _ fun e => hn ⟨b, A, B, hget_eq.1 hb, hB, ho, hv, e.symm⟩⟩
    rcases Img.add (by simp [h.len]) hr with h3 | ⟨_, _, h3⟩
    · exact .inl h3.kill
    · simp at h3; exact .inl ⟨b, A, B, hget_eq.1 hb, hB, ho, hv, h3⟩

/-- A place of which only the length is told. -/
theorem HRel.virt {m : MMap} {H : AHeap} {w : World} (h : HRel m H w) (own : Bool) (sz : Nat) :
    HRel (m.add ⟨0, 0, sz, 0, true, none⟩) (H ++ [some ⟨own, sz, []⟩]) w ∧ Stp m H w (m.add ⟨0, 0, sz, 0, true, none⟩) (H ++ [some ⟨own, sz, []⟩]) w := by
  refine ⟨h.add _ _ ⟨rfl, fun _ => rfl, by simp, fun hx => by simp at hx, fun hx => by simp at hx⟩ (fun hx => by simp at hx) (fun _ hx => by simp at hx), ⟨.append _ _, rfl, rfl, rfl, Nat.le_refl _, fun r hr => ?_, fun b B hb hv => (add_new (R := fun B => B.virt = true) rfl b B hb).imp id (fun h => by rw [hv] at h; simp at h), fun _ _ h => .inl h, fun _ h => dead_add h, fun _ _ _ => rfl⟩⟩
  rcases Img.add h.len hr with h1 | ⟨_, h2, _⟩
  · exact .inl h1
  · simp at h2

theorem Stp.kill_then {m m' : MMap} {H H' : AHeap} {w w' : World} {b : Nat} (h : Stp m (H.set b none) w m' H' w') : Stp m H w m' H' w' := (Stp.kill b).trans h

/-- What a type is to append and its kin. -/
structure ElemT (P : Program) (t e sz bytes : Nat) (z : Value) : Prop where
  under : P.underlying t = some (.slice e)
  info : ∃ i, P.info? e = some i ∧ i.size = sz ∧ i.bytes = bytes ∧ i.zero = some z
  zsize : z.cells.size = sz
  pos : 0 < sz

theorem run_append_zero {P : Program} {t e sz bytes : Nat} {z : Value} (ht : ElemT P t e sz bytes z) (ty : TypeId) (w : World) (a x : Option Addr) (n cap c : Nat) (hn : n ≤ cap) :
    (Builtin.append_ #[t, t] ty #[.slice a n cap, .slice x 0 c]).run P w = .ok (.slice a n cap) w := by
  obtain ⟨i, hi, _⟩ := ht.info
  have hf : (Builtin.firstCells i.size 0 (.slice x 0 c)).run P w = .ok #[] w := by
    cases x with
    | none => exact run_firstCells_none w _ _ _ _
    | some x => simpa using run_firstCells_some (P := P) w i.size 0 x 0 c [] (by simp) (by simp)
  have h0 : (Builtin.append_ #[t, t] ty #[.slice a n cap, .slice x 0 c]).run P w = .ok (.slice a (n + 0) cap) w := by
    cases a with
    | none => simp [Builtin.append_, run_underlying ht.under, sizeOf, typeInfo, hi, Builtin.lenOf, hn, hf]
    | some a => simp [Builtin.append_, run_underlying ht.under, sizeOf, typeInfo, hi, Builtin.lenOf, hn, hf, storeCells]
  simpa using h0

/-- Where the slice's own rows lie. -/
inductive OwnS (H : AHeap) (sz : Nat) : AV → List (List AV) → AHeap → Prop
  | nil : OwnS H sz .nil [] H
  | sl {b i n : Nat} {A : Blk} (hb : hget H b = some A) (ho : A.own = true) (hs : A.sz = sz) (hn : i + n = A.rows.length) : OwnS H sz (.sl b i n) (A.rows.drop i) (H.set b none)

theorem HRel.grown {m : MMap} {H : AHeap} {w : World} (h : HRel m H w) (e : TypeId) {sz : Nat} {rows : List (List AV)} {olds : List Value} {rest : Array Value}
    (hnl : ∀ row ∈ rows, row.length = sz) (hr : RelL m rows.flatten olds) (h1 : ∀ v ∈ olds, v.oneCell' = true) (hsz : 0 < sz) (hmx : rows.length ≤ maxLen) :
    HRel (m.add ⟨w.heap.size, 0, sz, (olds.toArray ++ rest).size, false, some e⟩) (H ++ [some ⟨true, sz, rows⟩]) (w.drew.alloc (.cells (olds.toArray ++ rest) e)) ∧
    Stp m H w (m.add ⟨w.heap.size, 0, sz, (olds.toArray ++ rest).size, false, some e⟩) (H ++ [some ⟨true, sz, rows⟩]) (w.drew.alloc (.cells (olds.toArray ++ rest) e)) := by
  have hl : olds.length = rows.length * sz := by rw [← hr.1]; exact flat_length sz rows hnl
  have hd : HRel m H w.drew := h.world fun r _ => rfl
  obtain ⟨k1, k2⟩ := hd.new (olds.toArray ++ rest) e true sz rows (some e) (.inr rfl) hmx (by simp; omega) (fun i row hi => ⟨hnl row (List.mem_of_getElem? hi), fun j v hj => by
    have hjs : j < sz := by rw [← hnl row (List.mem_of_getElem? hi)]; exact (List.getElem?_eq_some_iff.1 hj).1
    have hf : rows.flatten[i * sz + j]? = some v := by rw [flat_get sz rows hnl _ _ hjs, hi]; simpa using hj
    obtain ⟨r, hr1, hr2⟩ := hr.get hf
    have hlt := (List.getElem?_eq_some_iff.1 hr1).1
    exact ⟨r, by rw [Array.getElem?_append_left (by simpa using hlt)]; simpa using hr1, hr2, h1 r (List.mem_of_getElem? hr1)⟩⟩)
  exact ⟨k1, Stp.trans (w1 := w.drew) (Stp.world rfl rfl rfl (Nat.le_refl _) fun _ _ => rfl) k2⟩

/-- The cells of a told slice's rows. -/
theorem HRel.rowsAt {m : MMap} {H : AHeap} {w : World} (h : HRel m H w) {b i n : Nat} {A : Blk} {B : MB} (hb : hget H b = some A) (hB : m.l[b]? = some B) (hv : B.virt = false) (hn : i + n ≤ A.rows.length) :
    (∀ row ∈ (A.rows.drop i).take n, row.length = B.sz) ∧ ∃ cs : List Value, RelL m ((A.rows.drop i).take n).flatten cs ∧ (∀ v ∈ cs, v.oneCell' = true) ∧
      ∀ (j : Nat) (u : Value), cs[j]? = some u → w.cell? ⟨B.blk, B.base + i * B.sz + j, none⟩ = some u := by
  obtain ⟨B', hB', hR⟩ := h.blk b A (hget_eq.1 hb)
  rw [hB] at hB'; injection hB' with e; subst e
  obtain ⟨c, e, fr, g1, g2, g3, g4, g5⟩ := hR.real hv
  have hrl : ∀ row ∈ (A.rows.drop i).take n, row.length = B.sz := fun row hm => by
    obtain ⟨k, hk⟩ := List.getElem?_of_mem hm
    rw [List.getElem?_take] at hk
    split at hk
    · rw [List.getElem?_drop] at hk; exact (g4 _ row hk).1
    · simp at hk
  have hfl := flat_length B.sz _ hrl
  have hlen : ((A.rows.drop i).take n).length = n := by simp; omega
  have hmul : (i + n) * B.sz ≤ A.rows.length * B.sz := Nat.mul_le_mul_right _ hn
  rw [Nat.add_mul] at hmul
  refine ⟨hrl, (c.toList.drop (B.base + i * B.sz)).take (n * B.sz), ⟨?_, fun k v r hk hr => ?_⟩, fun v hv' => ?_, fun j u hj => ?_⟩
  · rw [hfl, hlen]; simp; omega
  · have hkl : k < n * B.sz := by have := (List.getElem?_eq_some_iff.1 hk).1; rw [hfl, hlen] at this; exact this
    have hs : 0 < B.sz := by
      rcases Nat.eq_zero_or_pos B.sz with h0 | h0
      · rw [h0] at hkl; simp at hkl
      · exact h0
    have e1 : k / B.sz * B.sz + k % B.sz = k := by rw [Nat.mul_comm]; exact Nat.div_add_mod k B.sz
    have hm := Nat.mod_lt k hs
    rw [← e1, flat_get B.sz _ hrl _ _ hm] at hk
    cases hrow : ((A.rows.drop i).take n)[k / B.sz]? with
    | none => rw [hrow] at hk; simp at hk
    | some row =>
      rw [hrow] at hk; simp at hk
      rw [List.getElem?_take] at hrow
      split at hrow
      · rw [List.getElem?_drop] at hrow
        obtain ⟨r', h1, h2⟩ := (g4 _ row hrow).2 _ v hk
        rw [List.getElem?_take] at hr
        split at hr
        · rw [List.getElem?_drop] at hr
          have e2 : B.base + (i + k / B.sz) * B.sz + k % B.sz = B.base + i * B.sz + k := by rw [Nat.add_mul]; omega
          rw [e2] at h1
          simp at hr
          have h1' : c[B.base + i * B.sz + k]? = some r' := h1
          simp [h1'] at hr
          subst hr; exact h2.1
        · omega
      · simp at hrow
  · obtain ⟨k, hk⟩ := List.getElem?_of_mem hv'
    rw [List.getElem?_take] at hk
    split at hk
    · rename_i hkl
      rw [List.getElem?_drop] at hk
      have hs : 0 < B.sz := by
        rcases Nat.eq_zero_or_pos B.sz with h0 | h0
        · rw [h0] at hkl; simp at hkl
        · exact h0
      have e1 : k / B.sz * B.sz + k % B.sz = k := by rw [Nat.mul_comm]; exact Nat.div_add_mod k B.sz
      have hm := Nat.mod_lt k hs
      have hd : k / B.sz < n := Nat.div_lt_of_lt_mul (by rw [Nat.mul_comm]; exact hkl)
      have hrow := List.getElem?_eq_getElem (l := A.rows) (i := i + k / B.sz) (by omega)
      have hl2 := (g4 _ _ hrow).1
      obtain ⟨r', h1, h2⟩ := (g4 _ _ hrow).2 (k % B.sz) _ (List.getElem?_eq_getElem (by rw [hl2]; exact hm))
      have e2 : B.base + (i + k / B.sz) * B.sz + k % B.sz = B.base + i * B.sz + k := by rw [Nat.add_mul]; omega
      rw [e2] at h1
      simp at hk
      have h1' : c[B.base + i * B.sz + k]? = some r' := h1
      simp [h1'] at hk
      subst hk; exact h2.2
    · simp at hk
  · rw [List.getElem?_take] at hj
    split at hj
    · rw [List.getElem?_drop] at hj
      simpa [World.cell?, g1] using hj
    · simp at hj

theorem add_lit (g o j : Nat) : (⟨g, o, none⟩ : Addr).add j = ⟨g, o + j, none⟩ := by unfold Addr.add; split <;> simp_all

theorem HRel.append {P : Program} {t e sz bytes : Nat} {z : Value} (ht : ElemT P t e sz bytes z) (ty : TypeId) {m : MMap} {H : AHeap} {w : World} (h : HRel m H w) {v : AV} {rv : Value} {olds : List (List AV)} {H1 : AHeap}
    (hrv : Rel m v rv) (hown : OwnS H sz v olds H1) {new : List (List AV)} {x : Option Addr} {c : Nat} {news : List Value}
    (hnl : ∀ row ∈ new, row.length = sz) (hnew : RelL m new.flatten news) (h1 : ∀ u ∈ news, u.oneCell' = true)
    (hx : new ≠ [] → ∃ ad, x = some ad ∧ ∀ (j : Nat) (u : Value), news[j]? = some u → w.cell? (ad.add j) = some u)
    (hbytes : (olds.length + new.length) * bytes ≤ 140737488355328) (hmax : olds.length + new.length ≤ maxLen) :
    ∃ r w' m', (Builtin.append_ #[t, t] ty #[rv, .slice x new.length c]).run P w = .ok r w' ∧ HRel m' (H1 ++ [some ⟨true, sz, olds ++ new⟩]) w' ∧
      Stp m H w m' (H1 ++ [some ⟨true, sz, olds ++ new⟩]) w' ∧ Rel m' (.sl H.length 0 (olds.length + new.length)) r := by
  obtain ⟨ti, hi, hsize, hby, hz⟩ := ht.info
  have hfl := flat_length sz new hnl
  have hnw : news.length = new.length * ti.size := by rw [hsize, ← hnew.1, hfl]
  have hm63 : ((olds.length + new.length : Nat) : Int) ≤ 9223372036854775807 := by simp only [maxLen] at hmax; omega
  have hlast : ∀ (K : AHeap) (m' : MMap) (B : MB), K.length = H.length → m'.l.length = H.length → (m'.add B).l[H.length]? = some B := fun K m' B _ e => by rw [MMap.add_l, ← e]; simp
  cases hown with
  | nil =>
    cases hrv
    simp only [List.nil_append, List.length_nil, Nat.zero_add] at *
    by_cases h0 : new = []
    · subst h0
      obtain ⟨k1, k2⟩ := h.virt true sz
      exact ⟨_, w, _, run_append_zero ht ty w none x 0 0 c (Nat.le_refl _), k1, k2, .sl0 (by rw [← h.len, MMap.add_l]; simp; rfl)⟩
    · obtain ⟨ad, rfl, hcells⟩ := hx h0
      have hpos : 0 < new.length := List.length_pos_iff.2 h0
      have hr := run_append_nil (P := P) w t ty e ti z ht.under hi hz ad new.length c news hnw hcells hpos (by omega) (by rw [hby]; omega)
      obtain ⟨k1, k2⟩ := h.grown e (rest := Builtin.zeroCells z.cells (grownCap w new.length 0 e - new.length)) hnl hnew h1 ht.pos (by omega)
      refine ⟨_, _, _, hr, k1, k2, ?_⟩
      have hge := grownCap_ge w new.length 0 e
      have := Rel.sl (m := m.add _) (b := H.length) (i := 0) (n := new.length) (cap := grownCap w new.length 0 e) (hlast H m ⟨w.heap.size, 0, sz, (news.toArray ++ Builtin.zeroCells z.cells (grownCap w new.length 0 e - new.length)).size, false, some e⟩ rfl h.len) rfl hge (by
        simp [size_zeroCells, ht.zsize, hnw, hsize, ← Nat.add_mul]
        exact Nat.mul_le_mul_right _ (by omega))
      simpa using this
  | sl hb ho hs hn =>
    rename_i b i n A
    subst hs
    have hlen : (A.rows.drop i).length = n := by simp; omega
    rw [hlen] at hbytes hmax hm63 ⊢
    have hlen1 : (H.set b none).length = H.length := by simp
    have zero : ∀ (a : Option Addr) (B : MB), m.l[b]? = some B → n = 0 → new = [] → ∃ r w' m', (Builtin.append_ #[t, t] ty #[.slice a n 0, .slice x new.length c]).run P w = .ok r w' ∧ HRel m' (H.set b none ++ [some ⟨true, A.sz, A.rows.drop i ++ new⟩]) w' ∧
        Stp m H w m' (H.set b none ++ [some ⟨true, A.sz, A.rows.drop i ++ new⟩]) w' ∧ Rel m' (.sl H.length 0 (n + new.length)) r := by
      intro a B hB h0 hnil
      subst h0; subst hnil
      have hd : A.rows.drop i = [] := List.eq_nil_of_length_eq_zero hlen
      rw [hd]
      obtain ⟨k1, k2⟩ := (h.kill b).virt true A.sz
      exact ⟨_, w, _, run_append_zero ht ty w a x 0 0 c (Nat.le_refl _), k1, k2.kill_then, .sl0 (hlast _ m _ rfl h.len)⟩
    have growN : ∀ (a : Option Addr), n = 0 → new ≠ [] → ∃ r w' m', (Builtin.append_ #[t, t] ty #[.slice a n 0, .slice x new.length c]).run P w = .ok r w' ∧ HRel m' (H.set b none ++ [some ⟨true, A.sz, A.rows.drop i ++ new⟩]) w' ∧
        Stp m H w m' (H.set b none ++ [some ⟨true, A.sz, A.rows.drop i ++ new⟩]) w' ∧ Rel m' (.sl H.length 0 (n + new.length)) r := by
      intro a h0 hne
      subst h0
      obtain ⟨ad, rfl, hcells⟩ := hx hne
      have hpos : 0 < new.length := List.length_pos_iff.2 hne
      have hd : A.rows.drop i = [] := List.eq_nil_of_length_eq_zero hlen
      rw [hd]
      simp only [List.nil_append, Nat.zero_add] at *
      obtain ⟨k1, k2⟩ := (h.kill b).grown e (rest := Builtin.zeroCells z.cells (grownCap w new.length 0 e - new.length)) hnl hnew h1 ht.pos (by omega)
      have hrel := Rel.sl (m := m.add _) (b := H.length) (i := 0) (n := new.length) (cap := grownCap w new.length 0 e) (hlast H m ⟨w.heap.size, 0, A.sz, (news.toArray ++ Builtin.zeroCells z.cells (grownCap w new.length 0 e - new.length)).size, false, some e⟩ rfl h.len) rfl (grownCap_ge w new.length 0 e) (by
        have hge := grownCap_ge w new.length 0 e
        simp [size_zeroCells, ht.zsize, hnw, hsize, ← Nat.add_mul]
        exact Nat.mul_le_mul_right _ (by omega))
      cases a with
      | none =>
        have hr := run_append_nil (P := P) w t ty e ti z ht.under hi hz ad new.length c news hnw hcells hpos (by omega) (by rw [hby]; omega)
        exact ⟨_, _, _, hr, k1, k2.kill_then, by simpa using hrel⟩
      | some a =>
        have hr := run_append_grow (P := P) w t ty e ti z ht.under hi hz a 0 0 [] (by simp) (by simp) ad new.length c news hnw hcells (by omega) (by simpa using hm63) (growslice_fits (by omega) (by rw [hby, Nat.zero_add]; omega))
        refine ⟨_, _, _, by simpa using hr, by simpa using k1, by simpa using k2.kill_then, by simpa using hrel⟩
    cases hrv with
    | sl0 hB =>
      by_cases h0 : new = []
      · exact zero _ _ hB rfl h0
      · exact growN _ rfl h0
    | sl hB hv hcap hN =>
      rename_i cap B
      obtain ⟨B', hB', hR⟩ := h.blk b A (hget_eq.1 hb)
      rw [hB] at hB'; injection hB' with e'; subst e'
      have hsz := hR.sz
      by_cases hfit : n + new.length ≤ cap
      · have hNN : B.base + (A.rows.length + new.length) * B.sz ≤ B.N := by
          have : (i + (n + new.length)) * B.sz ≤ (i + cap) * B.sz := Nat.mul_le_mul_right _ (by omega)
          rw [Nat.add_mul (i) cap] at this
          rw [← hn, Nat.add_assoc i n]; omega
        obtain ⟨g1, g2, g3⟩ := h.regrow (i := i) hb ho hB hv (by omega) (by rw [← hsz]; exact hnl) hnew h1 hNN (by simp at hlen ⊢; omega)
        have eoff : B.base + i * B.sz + n * ti.size = B.base + A.rows.length * B.sz := by rw [hsize, hsz, ← hn, Nat.add_mul]; omega
        by_cases h0 : new = []
        · subst h0
          have hnews : news = [] := List.eq_nil_of_length_eq_zero (by simpa using hnw)
          subst hnews
          rw [hsz]
          refine ⟨_, _, _, run_append_zero ht ty w _ x n cap c hcap, g2, g3, ?_⟩
          have := Rel.sl (m := m.add _) (b := H.length) (i := 0) (n := n) (cap := cap) (hlast H m ⟨B.blk, B.base + i * B.sz, B.sz, B.N, false, B.ty⟩ rfl h.len) rfl hcap (by simpa using hN)
          simpa using this
        · obtain ⟨ad, rfl, hcells⟩ := hx h0
          have hr := run_append_room_cells (P := P) w t ty e ti ht.under hi B.blk (B.base + i * B.sz) n cap ad new.length c news hnw hcells h1 hfit
            (fun j hj => by rw [eoff]; exact (g1 j hj).1) (fun j hj => by rw [eoff]; exact (g1 j hj).2)
          rw [eoff] at hr
          rw [hsz]
          refine ⟨_, _, _, hr, g2, g3, ?_⟩
          have := Rel.sl (m := m.add _) (b := H.length) (i := 0) (n := n + new.length) (cap := cap) (hlast H m ⟨B.blk, B.base + i * B.sz, B.sz, B.N, false, B.ty⟩ rfl h.len) rfl hfit (by simpa using hN)
          simpa using this
      · have hne : new ≠ [] := fun e => by subst e; simp at hfit; omega
        obtain ⟨ad, rfl, hcells⟩ := hx hne
        obtain ⟨hrl, cs, c1, c2, c3⟩ := h.rowsAt (i := i) (n := n) hb hB hv (by omega)
        rw [List.take_of_length_le (by omega)] at c1 hrl
        rw [← hsz] at hrl
        have hfl0 := flat_length A.sz _ hrl
        have hcl : cs.length = n * ti.size := by rw [← c1.1, hfl0, hlen, hsize]
        have hr := run_append_grow (P := P) w t ty e ti z ht.under hi hz ⟨B.blk, B.base + i * B.sz, none⟩ n cap cs hcl (fun j u hj => by rw [add_lit]; exact c3 j u hj) ad new.length c news hnw hcells (by omega) hm63 (growslice_fits (by omega) (by rw [hby]; omega))
        have hrows : ∀ row ∈ A.rows.drop i ++ new, row.length = A.sz := fun row hm => by
          rcases List.mem_append.1 hm with h3 | h3
          · exact hrl row h3
          · exact hnl row h3
        have hall : RelL m (A.rows.drop i ++ new).flatten (cs ++ news) := by rw [List.flatten_append]; exact c1.append hnew
        obtain ⟨k1, k2⟩ := (h.kill b).grown e (rest := Builtin.zeroCells z.cells (grownCap w (n + new.length) cap e - (n + new.length))) hrows hall (fun u hu => by
          rcases List.mem_append.1 hu with h3 | h3
          · exact c2 u h3
          · exact h1 u h3) ht.pos (by simp at hlen ⊢; omega)
        have hge := grownCap_ge w (n + new.length) cap e
        have hcat : cs.toArray ++ news.toArray = (cs ++ news).toArray := by simp
        rw [hcat] at hr
        refine ⟨_, _, _, hr, k1, k2.kill_then, ?_⟩
        have := Rel.sl (m := m.add _) (b := H.length) (i := 0) (n := n + new.length) (cap := grownCap w (n + new.length) cap e) (hlast H m ⟨w.heap.size, 0, A.sz, ((cs ++ news).toArray ++ Builtin.zeroCells z.cells (grownCap w (n + new.length) cap e - (n + new.length))).size, false, some e⟩ rfl h.len) rfl hge (by
          simp [size_zeroCells, ht.zsize, hnw, hcl, hsize, ← Nat.add_mul]
          exact Nat.mul_le_mul_right _ (by omega))
        simpa using this

end Go.Ab
/- The abstract machine: a string's bytes are appended to one's own bytes. -/
set_option linter.unusedVariables false
set_option linter.unusedSimpArgs false
namespace Go.Ab
def byteRows (s : List UInt8) : List (List AV) := s.map fun c => [AV.int .u8 c.toNat]
theorem byteRows_len (s : List UInt8) : (byteRows s).length = s.length := by simp [byteRows]
theorem byteRows_rel (m : MMap) (s : List UInt8) : RelL m (byteRows s).flatten (byteCells ⟨s.toArray⟩) := by
  have h : byteCells ⟨s.toArray⟩ = s.map fun c => Value.int .u8 c.toNat := rfl
  rw [h]
  induction s with
  | nil => exact .nil
  | cons c s ih => exact .cons (.int _ _) (ih rfl)
theorem strSize (s : List UInt8) : (⟨s.toArray⟩ : ByteArray).size = s.length := by simp [ByteArray.size]
theorem run_append_zero_str {P : Program} {t u e : TypeId} {i : TypeInfo} (w : World) (ht : P.underlying t = some (.slice e)) (hi : P.info? e = some i) (hu : P.underlying u = some .string) (ty : TypeId) (a : Option Addr) (n cap : Nat) (hn : n ≤ cap) :
    (Builtin.append_ #[t, u] ty #[.slice a n cap, .string ⟨#[]⟩]).run P w = .ok (.slice a n cap) w := by
  have hf : (Builtin.firstCells i.size 0 (.string ⟨#[]⟩)).run P w = .ok #[] w := by simp [Builtin.firstCells]
  have hz : (⟨#[]⟩ : ByteArray).size = 0 := rfl
  cases a with
  | none => simp [Builtin.append_, run_underlying ht, run_underlying hu, sizeOf, typeInfo, hi, Builtin.lenOf, hz, hn, hf]
  | some a => simp [Builtin.append_, run_underlying ht, run_underlying hu, sizeOf, typeInfo, hi, Builtin.lenOf, hz, hn, hf, storeCells]

theorem HRel.appendS {P : Program} {t u e bytes : Nat} {z : Value} (ht : ElemT P t e 1 bytes z) (hu : P.underlying u = some .string) (ty : TypeId) {m : MMap} {H : AHeap} {w : World} (h : HRel m H w) (s : List UInt8) {rv : Value} {b n : Nat} {A : Blk}
    (hrv : Rel m (.bf e b n) rv) (hb : hget H b = some A) (ho : A.own = true) (hn : n = A.rows.length) (hbytes : (n + s.length) * bytes ≤ 140737488355328) (hmax : n + s.length ≤ maxLen) :
    ∃ r w' m', (Builtin.append_ #[t, u] ty #[rv, .string ⟨s.toArray⟩]).run P w = .ok r w' ∧ HRel m' (H.set b none ++ [some ⟨true, 1, A.rows ++ byteRows s⟩]) w' ∧
      Stp m H w m' (H.set b none ++ [some ⟨true, 1, A.rows ++ byteRows s⟩]) w' ∧ Rel m' (.bf e H.length (n + s.length)) r := by
  obtain ⟨ti, hi, hsize, hby, hz⟩ := ht.info
  have hnl : ∀ row ∈ byteRows s, row.length = 1 := fun row hr => by obtain ⟨c, _, rfl⟩ := List.mem_map.1 hr; rfl
  have hm63 : ((n + s.length : Nat) : Int) ≤ 9223372036854775807 := by simp only [maxLen] at hmax; omega
  have hlast : ∀ (B : MB), (m.add B).l[H.length]? = some B := fun B => by rw [MMap.add_l, ← h.len]; simp
  have hsrc := Src.ofString (P := P) w hu ⟨s.toArray⟩
  rw [strSize] at hsrc
  have hone := hsrc.one
  cases hrv with
  | bf hB hv hty hbase hsz h0 hcap hN =>
    rename_i cap B
    obtain ⟨B', hB', hR⟩ := h.blk b A (hget_eq.1 hb)
    rw [hB] at hB'; injection hB' with e'; subst e'
    have hrs := hR.sz
    by_cases hfit : n + s.length ≤ cap
    · have hNN : B.base + (A.rows.length + (byteRows s).length) * B.sz ≤ B.N := by rw [byteRows_len, hbase, hsz]; omega
      obtain ⟨g1, g2, g3⟩ := h.regrow (i := 0) (new := byteRows s) (news := byteCells ⟨s.toArray⟩) hb ho hB hv (Nat.zero_le _) (by rw [hsz]; exact hnl) (byteRows_rel m s) hone hNN (by simp [byteRows_len]; omega)
      have eoff : 0 + n * ti.size = B.base + A.rows.length * B.sz := by rw [hsize, hsz, hbase, ← hn]
      have hr := run_append_room_src (P := P) w t u ty e ti ht.under hi B.blk 0 n cap (.string ⟨s.toArray⟩) s.length (byteCells ⟨s.toArray⟩) (by rw [hsize]; exact hsrc) hfit
        (fun j hj => by rw [eoff]; exact (g1 j hj).1) (fun j hj => by rw [eoff]; exact (g1 j hj).2)
      rw [eoff] at hr
      rw [List.drop_zero, hsz] at g2 g3
      rw [hsz] at hr
      refine ⟨_, _, _, hr, g2, g3, ?_⟩
      have := Rel.bf (m := m.add _) (e := e) (b := H.length) (n := n + s.length) (cap := cap) (hlast ⟨B.blk, B.base + 0 * 1, 1, B.N, false, B.ty⟩) rfl hty (by simp [hbase]) rfl (by omega) hfit hN
      exact this
    · obtain ⟨hrl, cs, c1, c2, c3⟩ := h.rowsAt (i := 0) (n := n) hb hB hv (by omega)
      rw [List.drop_zero, List.take_of_length_le (by omega)] at c1 hrl
      rw [hsz] at hrl
      have hfl0 := flat_length 1 _ hrl
      have hcl : cs.length = n * ti.size := by rw [← c1.1, hfl0, hsize, hn]
      have hold : (Builtin.firstCells ti.size n (.slice (some ⟨B.blk, 0, none⟩) n cap)).run P w.drew = .ok cs.toArray w.drew := run_firstCells_some w.drew ti.size n ⟨B.blk, 0, none⟩ n cap cs hcl fun j u hj => by
        have := c3 j u hj
        rw [add_lit]
        simpa [hbase] using this
      have hr := run_append_grow_src (P := P) w t u ty e ti z ht.under hi hz (some ⟨B.blk, 0, none⟩) n cap cs hold (.string ⟨s.toArray⟩) s.length (byteCells ⟨s.toArray⟩) (by rw [hsize]; exact hsrc) (by omega) hm63 (growslice_fits (by omega) (by rw [hby]; omega))
      have hrows : ∀ row ∈ A.rows ++ byteRows s, row.length = 1 := fun row hm => by
        rcases List.mem_append.1 hm with h3 | h3
        · exact hrl row h3
        · exact hnl row h3
      have hall : RelL m (A.rows ++ byteRows s).flatten (cs ++ byteCells ⟨s.toArray⟩) := by rw [List.flatten_append]; exact c1.append (byteRows_rel m s)
      obtain ⟨k1, k2⟩ := (h.kill b).grown e (rest := Builtin.zeroCells z.cells (grownCap w (n + s.length) cap e - (n + s.length))) hrows hall (fun u hu => by
        rcases List.mem_append.1 hu with h3 | h3
        · exact c2 u h3
        · exact hone u h3) ht.pos (by simp [byteRows_len]; omega)
      have hge := grownCap_ge w (n + s.length) cap e
      refine ⟨_, _, _, hr, k1, k2.kill_then, ?_⟩
      have hbl : (byteCells ⟨s.toArray⟩).length = s.length := by simp [byteCells]
      exact Rel.bf (m := m.add _) (e := e) (b := H.length) (n := n + s.length) (cap := grownCap w (n + s.length) cap e) (hlast _) rfl rfl rfl rfl (by omega) hge (by
        simp [size_zeroCells, ht.zsize, hcl, hsize, hbl]; omega)

theorem HRel.appendS0 {P : Program} {t u e bytes : Nat} {z : Value} (ht : ElemT P t e 1 bytes z) (hu : P.underlying u = some .string) (ty : TypeId) {m : MMap} {H : AHeap} {w : World} (h : HRel m H w) (s : List UInt8) (h0 : s ≠ [])
    (hbytes : s.length * bytes ≤ 140737488355328) (hmax : s.length ≤ maxLen) :
    ∃ r w' m', (Builtin.append_ #[t, u] ty #[.slice none 0 0, .string ⟨s.toArray⟩]).run P w = .ok r w' ∧ HRel m' (H ++ [some ⟨true, 1, byteRows s⟩]) w' ∧
      Stp m H w m' (H ++ [some ⟨true, 1, byteRows s⟩]) w' ∧ Rel m' (.bf e H.length s.length) r := by
  obtain ⟨ti, hi, hsize, hby, hz⟩ := ht.info
  have hpos : 0 < s.length := List.length_pos_iff.2 h0
  have hnl : ∀ row ∈ byteRows s, row.length = 1 := fun row hr => by obtain ⟨c, _, rfl⟩ := List.mem_map.1 hr; rfl
  have hm63 : ((0 + s.length : Nat) : Int) ≤ 9223372036854775807 := by simp only [maxLen] at hmax; omega
  have hlast : ∀ (B : MB), (m.add B).l[H.length]? = some B := fun B => by rw [MMap.add_l, ← h.len]; simp
  have hsrc := Src.ofString (P := P) w hu ⟨s.toArray⟩
  rw [strSize] at hsrc
  have hr := run_append_grow_src (P := P) w t u ty e ti z ht.under hi hz none 0 0 [] (run_firstCells_none w.drew ti.size 0 0 0) (.string ⟨s.toArray⟩) s.length (byteCells ⟨s.toArray⟩) (by rw [hsize]; exact hsrc) (by omega) hm63 (growslice_fits (by omega) (by rw [hby, Nat.zero_add]; omega))
  obtain ⟨k1, k2⟩ := h.grown e (rest := Builtin.zeroCells z.cells (grownCap w (0 + s.length) 0 e - (0 + s.length))) hnl (byteRows_rel m s) hsrc.one ht.pos (by simp [byteRows_len]; omega)
  have hge := grownCap_ge w (0 + s.length) 0 e
  have hbl : (byteCells ⟨s.toArray⟩).length = s.length := by simp [byteCells]
  simp only [List.nil_append] at hr
  refine ⟨_, _, _, hr, k1, k2, ?_⟩
  have := Rel.bf (m := m.add _) (e := e) (b := H.length) (n := 0 + s.length) (cap := grownCap w (0 + s.length) 0 e) (hlast ⟨w.heap.size, 0, 1, ((byteCells ⟨s.toArray⟩).toArray ++ Builtin.zeroCells z.cells (grownCap w (0 + s.length) 0 e - (0 + s.length))).size, false, some e⟩) rfl rfl rfl rfl (by omega) hge (by
    simp [size_zeroCells, ht.zsize, hbl]; omega)
  simpa using this

theorem freeze_other (w : World) (a : Addr) (n r : Nat) (h : r ≠ a.block) : (w.freeze a n).heap[r]? = w.heap[r]? := by
  unfold World.freeze
  split
  · rfl
  · simp [Array.getElem?_modify, Ne.symm h]
theorem freeze_rest (w : World) (a : Addr) (n : Nat) : (w.freeze a n).heap.size = w.heap.size ∧ (w.freeze a n).os = w.os ∧ (w.freeze a n).tape = w.tape ∧ (w.freeze a n).output = w.output := by
  unfold World.freeze
  split
  · exact ⟨rfl, rfl, rfl, rfl⟩
  · exact ⟨by simp, rfl, rfl, rfl⟩
/-- The bytes are made a string, and are never written again. -/
theorem HRel.freezeS {P : Program} {pt it ty e : TypeId} (hp : P.underlying pt = some (.pointer e)) (hc : P.cellsOf e = 1) {m : MMap} {H : AHeap} {w : World} (h : HRel m H w) {b : Nat} {l : List UInt8} {rv : Value}
    (hrv : Rel m (.bfp e b) rv) (hb : hget H b = some ⟨true, 1, byteRows l⟩) (h0 : l ≠ []) (hmax : l.length ≤ 9223372036854775807) :
    ∃ w', (Builtin.unsafeString_ #[pt, it] ty #[rv, .int .i64 l.length]).run P w = .ok (.string ⟨l.toArray⟩) w' ∧ HRel m (H.set b none) w' ∧ Stp m H w m (H.set b none) w' := by
  cases hrv with
  | bfp hB hv hty hbase hsz =>
    rename_i B
    obtain ⟨B', hB', hR⟩ := h.blk b _ (hget_eq.1 hb)
    rw [hB] at hB'; injection hB' with e'; subst e'
    obtain ⟨c, fr, hw⟩ := hR.ty hv e hty
    obtain ⟨c2, e2, fr2, g1, g2, g3, g4, g5⟩ := hR.real hv
    rw [hw] at g1; injection g1 with g1; injection g1 with q1 q2 q3; subst q1; subst q2; subst q3
    simp only [byteRows_len, hbase, hsz] at g3
    have hcell : ∀ j x, l[j]? = some x → w.cell? ((⟨B.blk, 0, none⟩ : Addr).add j) = some (.int .u8 x.toNat) := fun j x hj => by
      obtain ⟨_, k2⟩ := g4 j [AV.int .u8 x.toNat] (by simp [byteRows, hj])
      obtain ⟨r, r1, r2, _⟩ := k2 0 _ rfl
      rw [hbase, hsz] at r1
      rw [add_lit]
      simp only [World.cell?, hw]
      simp at r1
      simp [r1, r2.int_inv]
    have hrun := Lib.run_unsafeString_row (P := P) w pt it ty e hp hc B.blk c.size (by simp [World.shape?, hw]) l h0 (by omega) hmax hcell
    refine ⟨_, hrun, ?_, ?_⟩
    · have hk := h.kill b
      refine ⟨hk.len, fun d D hd => ?_, fun r c hr => ?_, hk.fzA, hk.apart⟩
      · obtain ⟨E, hE, hRE⟩ := hk.blk d D hd
        refine ⟨E, hE, hRE.keep (.refl _) fun hEv => freeze_other w _ _ _ ?_⟩
        have hne : b ≠ d := fun e => by subst e; rw [List.getElem?_set] at hd; simp at hd
        rw [List.getElem?_set_ne hne] at hd
        exact (h.apart b d _ D B E hne (hget_eq.1 hb) hd hB hE rfl hv hEv).symm
      · obtain ⟨e', fr', h1'⟩ := h.fz r c hr
        refine ⟨e', fr', ?_⟩
        rw [freeze_other w _ _ r ?_]; exact h1'
        intro e''
        have := h.fzA b _ B (hget_eq.1 hb) hB rfl hv
        simp only at e''
        rw [← e'', hr] at this
        simp at this
    · obtain ⟨r1, r2, r3, r4⟩ := freeze_rest w ⟨B.blk, 0, none⟩ l.length
      exact ⟨.refl _, r2, r3, r4, by omega, fun _ h => .inl h.kill, fun _ _ h _ => .inl h, fun _ _ h => .inl h, fun c h => dead_kill h, fun r hr hn => freeze_other w _ _ r fun e => hn ⟨b, _, B, hget_eq.1 hb, hB, rfl, hv, e.symm⟩⟩
end Go.Ab
/- The abstract machine: copy. -/
set_option linter.unusedVariables false
set_option linter.unusedSimpArgs false
namespace Go.Ab
/-- Rows of one's own block are written over. -/
def overR (rows : List (List AV)) (i : Nat) (vs : List (List AV)) : List (List AV) := rows.take i ++ vs ++ rows.drop (i + vs.length)
theorem overR_length {rows vs : List (List AV)} {i : Nat} (h : i + vs.length ≤ rows.length) : (overR rows i vs).length = rows.length := by
  simp [overR]; omega
theorem overR_get {rows vs : List (List AV)} {i k : Nat} (h : i + vs.length ≤ rows.length) : (overR rows i vs)[k]? = if i ≤ k ∧ k < i + vs.length then vs[k - i]? else rows[k]? := by
  have hj : (rows.take i).length = i := by simp; omega
  unfold overR
  split
  · rename_i hk
    rw [List.append_assoc, List.getElem?_append_right (by omega), hj, List.getElem?_append_left (by omega)]
  · rename_i hk
    by_cases h1 : k < i
    · rw [List.append_assoc, List.getElem?_append_left (by omega), List.getElem?_take]; simp [h1]
    · rw [List.getElem?_append_right (by simp; omega), List.getElem?_drop]
      congr 1
      simp
      omega
theorem HRel.storeRows {m : MMap} {H : AHeap} {w : World} (h : HRel m H w) {b i : Nat} {A : Blk} {B : MB} {vs : List (List AV)} {cs : List Value} (hb : hget H b = some A) (ho : A.own = true) (hB : m.l[b]? = some B) (hv : B.virt = false)
    (hi : i + vs.length ≤ A.rows.length) (hvl : ∀ row ∈ vs, row.length = B.sz) (hvs : RelL m vs.flatten cs) (h1 : ∀ v ∈ cs, v.oneCell' = true) :
    (∀ k, k < cs.length → (w.cell? ⟨B.blk, B.base + i * B.sz + k, none⟩).isSome = true ∧ w.frozen? ⟨B.blk, B.base + i * B.sz + k, none⟩ = false) ∧
    HRel m (H.set b (some ⟨true, A.sz, overR A.rows i vs⟩)) (w.setCells B.blk (B.base + i * B.sz) cs) ∧ Stp m H w m (H.set b (some ⟨true, A.sz, overR A.rows i vs⟩)) (w.setCells B.blk (B.base + i * B.sz) cs) := by
  obtain ⟨B', hB', hR⟩ := h.blk b A (hget_eq.1 hb)
  rw [hB] at hB'; injection hB' with e; subst e
  obtain ⟨c, e, fr, g1, g2, g3, g4, g5⟩ := hR.real hv
  have hfl := flat_length B.sz vs hvl
  have hl : cs.length = vs.length * B.sz := by rw [← hvs.1, hfl]
  have hmul : (i + vs.length) * B.sz ≤ A.rows.length * B.sz := Nat.mul_le_mul_right _ hi
  have hmul' : (i + vs.length) * B.sz = i * B.sz + vs.length * B.sz := Nat.add_mul ..
  obtain ⟨c', k1, k2, k3, k4⟩ := setCells_block B.blk cs (B.base + i * B.sz) w c e fr g1 (by omega)
  obtain ⟨r1, r2, r3, r4⟩ := setCells_rest B.blk cs (B.base + i * B.sz) w
  refine ⟨fun k hk => ⟨?_, ?_⟩, h.turn hb hB hv ho rfl ⟨hR.sz, fun hx => by rw [hv] at hx; simp at hx, by rw [overR_length hi]; exact hR.max, fun _ => ⟨c', e, fr, k1, by omega, by simp only [overR_length hi]; exact g3, fun t row ht => ?_, fun _ => g5 ho⟩, fun _ t ht => by
      obtain ⟨c0, fr0, q⟩ := hR.ty hv t ht
      rw [g1] at q; injection q with q; injection q with q1 q2 q3; subst q2
      exact ⟨c', fr, k1⟩⟩
    (fun r hr => setCells_other _ _ _ _ _ hr) r2 r3 r4 r1⟩
  · simp [World.cell?, g1]; omega
  · have := g5 ho (B.base + i * B.sz + k) (by omega)
    simp only [World.frozen?, g1]
    cases hd : (decide (fr.1 ≤ B.base + i * B.sz + k) && decide (B.base + i * B.sz + k < fr.2)) with
    | false => rfl
    | true => exact absurd (by simpa using hd) this
  · simp only at ht
    rw [overR_get hi] at ht
    split at ht
    · rename_i hk
      have hmem := hvl row (List.mem_of_getElem? ht)
      refine ⟨hmem, fun j v hj => ?_⟩
      have hjs : j < B.sz := by rw [← hmem]; exact (List.getElem?_eq_some_iff.1 hj).1
      have hf : vs.flatten[(t - i) * B.sz + j]? = some v := by rw [flat_get B.sz vs hvl _ _ hjs, ht]; simpa using hj
      obtain ⟨r, hr1, hr2⟩ := hvs.get hf
      refine ⟨r, ?_, hr2, h1 r (List.mem_of_getElem? hr1)⟩
      have e1 : t * B.sz = i * B.sz + (t - i) * B.sz := by rw [← Nat.add_mul]; congr 1; omega
      have e2 : (t - i + 1) * B.sz ≤ vs.length * B.sz := Nat.mul_le_mul_right _ (by omega)
      rw [Nat.add_mul, Nat.one_mul] at e2
      rw [k3 _ (by omega) (by omega), show B.base + t * B.sz + j - (B.base + i * B.sz) = (t - i) * B.sz + j by omega]
      exact hr1
    · rename_i hk
      refine ⟨(g4 t row ht).1, fun j v hj => ?_⟩
      obtain ⟨r, hr1, hr2⟩ := (g4 t row ht).2 j v hj
      have hjs : j < B.sz := by rw [← (g4 t row ht).1]; exact (List.getElem?_eq_some_iff.1 hj).1
      refine ⟨r, ?_, hr2⟩
      rw [k4 _ ?_]; exact hr1
      rcases Nat.lt_or_ge t i with hlt | hge
      · left
        have : (t + 1) * B.sz ≤ i * B.sz := Nat.mul_le_mul_right _ hlt
        rw [Nat.add_mul, Nat.one_mul] at this
        omega
      · right
        have : (i + vs.length) * B.sz ≤ t * B.sz := Nat.mul_le_mul_right _ (by omega)
        omega
theorem run_copy_gen {P : Program} (w : World) {dT sT ty e : TypeId} {i : TypeInfo} (hu : P.underlying dT = some (.slice e)) (hi : P.info? e = some i) (b o dLen dCap : Nat) (x : Option Addr) (sLen sCap : Nat) (cs : List Value)
    (hn : cs.length = Nat.min sLen dLen * i.size) (hsrc : cs ≠ [] → ∃ a, x = some a ∧ ∀ j v, cs[j]? = some v → w.cell? (a.add j) = some v) (hx : x = none → sLen = 0)
    (hc : ∀ j, j < cs.length → (w.cell? ⟨b, o + j, none⟩).isSome = true) (hf : ∀ j, j < cs.length → w.frozen? ⟨b, o + j, none⟩ = false) (h1 : ∀ v ∈ cs, v.oneCell' = true) :
    (Builtin.copy_ #[dT, sT] ty #[.slice (some ⟨b, o, none⟩) dLen dCap, .slice x sLen sCap]).run P w = .ok (goInt (Nat.min sLen dLen)) (w.setCells b o cs) := by
  have hst := run_storeCells_cells (P := P) b o cs 0 w (by simpa using hc) (by simpa using hf) h1
  simp only [Nat.add_zero] at hst
  have hfc : (Builtin.firstCells i.size (Nat.min sLen dLen) (.slice x sLen sCap)).run P w = .ok cs.toArray w := by
    by_cases h0 : cs = []
    · subst h0
      cases x with
      | none => exact run_firstCells_none w _ _ _ _
      | some a => exact run_firstCells_some w i.size _ a sLen sCap [] (by simpa using hn) (by simp)
    · obtain ⟨a, rfl, hs2⟩ := hsrc h0
      exact run_firstCells_some w i.size _ a sLen sCap cs hn hs2
  simp [Builtin.copy_, run_underlying hu, Builtin.lenOf, sizeOf, typeInfo, hi, hfc, hst]
theorem run_copy_void {P : Program} (w : World) {dT sT ty e : TypeId} {i : TypeInfo} (hu : P.underlying dT = some (.slice e)) (hi : P.info? e = some i) (d x : Option Addr) (dLen dCap sLen sCap : Nat) (hn : Nat.min sLen dLen = 0) :
    (Builtin.copy_ #[dT, sT] ty #[.slice d dLen dCap, .slice x sLen sCap]).run P w = .ok (goInt 0) w := by
  have hfc : (Builtin.firstCells i.size 0 (.slice x sLen sCap)).run P w = .ok #[] w := by
    cases x with
    | none => exact run_firstCells_none w _ _ _ _
    | some a => simpa using run_firstCells_some (P := P) w i.size 0 a sLen sCap [] (by simp) (by simp)
  cases d <;> simp [Builtin.copy_, run_underlying hu, Builtin.lenOf, sizeOf, typeInfo, hi, hn, hfc, storeCells]
end Go.Ab
/- The abstract machine: heaps told anew under other numbers. -/
set_option linter.unusedVariables false
set_option linter.unusedSimpArgs false
namespace Go.Ab

/-- v' tells of v under other numbers. -/
inductive RV (f : Nat → Nat) (N : Nat) : AV → AV → Prop
  | un (v : AV) : RV f N .un v
  | int (k : IntKind) (n : Int) : RV f N (.int k n) (.int k n)
  | bool (b : Bool) : RV f N (.bool b) (.bool b)
  | str (s : List UInt8) : RV f N (.str s) (.str s)
  | ptr {b i j : Nat} (h : b < N) : RV f N (.ptr b i j) (.ptr (f b) i j)
  | nilp : RV f N .nilp .nilp
  | nil : RV f N .nil .nil
  | sl {b i n : Nat} (h : b < N) : RV f N (.sl b i n) (.sl (f b) i n)
  | sl0 {b i : Nat} (h : b < N) : RV f N (.sl b i 0) .nil
  | fn {g : FuncId} {l l' : List AV} (hl : l'.length = l.length) (h : ∀ (i : Nat) v' v, l'[i]? = some v' → l[i]? = some v → RV f N v' v) : RV f N (.fn g l') (.fn g l)
  | nilf : RV f N .nilf .nilf
  | ifc {t : TypeId} {v' v : AV} (h : RV f N v' v) : RV f N (.ifc t v') (.ifc t v)
  | nili : RV f N .nili .nili
  | agg {l l' : List AV} (hl : l'.length = l.length) (h : ∀ (i : Nat) v' v, l'[i]? = some v' → l[i]? = some v → RV f N v' v) : RV f N (.agg l') (.agg l)
  | tup {l l' : List AV} (hl : l'.length = l.length) (h : ∀ (i : Nat) v' v, l'[i]? = some v' → l[i]? = some v → RV f N v' v) : RV f N (.tup l') (.tup l)
  | lst (sz : Nat) (rows : List (List AV)) : RV f N (.lst sz rows) (.lst sz rows)
  | lstN (sz : Nat) : RV f N (.lst sz []) .nil
  | cptr (row : List AV) (j : Nat) : RV f N (.cptr row j) (.cptr row j)
  | bf {e : TypeId} {b n : Nat} (h : b < N) : RV f N (.bf e b n) (.bf e (f b) n)
  | bfp {e : TypeId} {b : Nat} (h : b < N) : RV f N (.bfp e b) (.bfp e (f b))
  | bptr {e : TypeId} {b : Nat} (h : b < N) : RV f N (.bptr e b) (.bptr e (f b))

/-- A value that names only blocks below N. -/
abbrev Bel (N : Nat) (v : AV) : Prop := RV (fun b => b) N v v

theorem RV.mono {f g : Nat → Nat} {N M : Nat} {v' v : AV} (h : RV f N v' v) (hf : ∀ b, b < N → g b = f b ∧ b < M) : RV g M v' v := by
  induction h with
  | un v => exact .un v
  | int k n => exact .int k n
  | bool b => exact .bool b
  | str s => exact .str s
  | ptr h => rw [← (hf _ h).1]; exact .ptr (hf _ h).2
  | nilp => exact .nilp
  | nil => exact .nil
  | sl h => rw [← (hf _ h).1]; exact .sl (hf _ h).2
  | sl0 h => exact .sl0 (hf _ h).2
  | fn hl h ih => exact .fn hl ih
  | nilf => exact .nilf
  | ifc h ih => exact .ifc ih
  | nili => exact .nili
  | agg hl h ih => exact .agg hl ih
  | tup hl h ih => exact .tup hl ih
  | lst sz rows => exact .lst sz rows
  | lstN sz => exact .lstN sz
  | cptr row j => exact .cptr row j
  | bf h => rw [← (hf _ h).1]; exact .bf (hf _ h).2
  | bfp h => rw [← (hf _ h).1]; exact .bfp (hf _ h).2
  | bptr h => rw [← (hf _ h).1]; exact .bptr (hf _ h).2

theorem RV.rel {f : Nat → Nat} {N : Nat} {m m' : MMap} (hm : ∀ b B, b < N → m.l[f b]? = some B → m'.l[b]? = some B) (hN : N ≤ m'.l.length) (hz : ∀ r c, m.z r = some c → m'.z r = some c) {v' v : AV} (h : RV f N v' v) : ∀ {r : Value}, Rel m v r → Rel m' v' r := by
  induction h with
  | un v => intro r _; exact .un r
  | int k n => intro r h; rw [h.int_inv]; exact .int k n
  | bool b => intro r h; rw [h.bool_inv]; exact .bool b
  | str s => intro r h; rw [h.str_inv]; exact .str s
  | ptr hb => intro r h; cases h with | ptr h hv => exact .ptr (hm _ _ hb h) hv
  | nilp => intro r h; cases h; exact .nilp
  | nil => intro r h; cases h; exact .nil
  | sl hb =>
    intro r h
    cases h with
    | sl h hv h1 h2 => exact .sl (hm _ _ hb h) hv h1 h2
    | sl0 h => exact .sl0 (hm _ _ hb h)
  | sl0 hb =>
    intro r h
    cases h
    exact .sl0 (List.getElem?_eq_getElem (Nat.lt_of_lt_of_le hb hN))
  | fn hl h ih =>
    intro r hr
    cases hr with
    | fn hl' h' =>
      refine .fn (hl.trans hl') fun i v r hv hr => ?_
      have hi : i < _ := (List.getElem?_eq_some_iff.1 hv).1
      have e := List.getElem?_eq_getElem (hl ▸ hi)
      exact ih i v _ hv e (h' i _ r e hr)
  | nilf => intro r h; cases h; exact .nilf
  | ifc h ih => intro r h; cases h with | ifc h => exact .ifc (ih h)
  | nili => intro r h; cases h; exact .nili
  | agg hl h ih =>
    intro r hr
    cases hr with
    | agg hl' h' =>
      refine .agg (hl.trans hl') fun i v r hv hr => ?_
      have hi : i < _ := (List.getElem?_eq_some_iff.1 hv).1
      have e := List.getElem?_eq_getElem (hl ▸ hi)
      exact ih i v _ hv e (h' i _ r e hr)
  | tup hl h ih =>
    intro r hr
    cases hr with
    | tup hl' h' =>
      refine .tup (hl.trans hl') fun i v r hv hr => ?_
      have hi : i < _ := (List.getElem?_eq_some_iff.1 hv).1
      have e := List.getElem?_eq_getElem (hl ▸ hi)
      exact ih i v _ hv e (h' i _ r e hr)
  | lst sz rows =>
    intro r h
    cases h with
    | lst a1 a2 a3 a4 a5 a6 a7 a8 => exact .lst (hz _ _ a1) a2 a3 a4 a5 a6 a7 fun i j row v r b1 b2 b3 => Rel.mono (m := ⟨[], m.z⟩) (m' := ⟨[], m'.z⟩) ⟨fun b B h => by simp at h, hz⟩ (a8 i j row v r b1 b2 b3)
    | lst0 => exact .lst0
  | lstN sz => intro r h; cases h; exact .lst0
  | cptr row j =>
    intro r h
    cases h with
    | cptr a1 a2 a3 a4 => exact .cptr (hz _ _ a1) a2 a3 fun k v r b1 b2 => Rel.mono (m := ⟨[], m.z⟩) (m' := ⟨[], m'.z⟩) ⟨fun b B h => by simp at h, hz⟩ (a4 k v r b1 b2)
  | bf hb => intro r h; cases h with | bf h hv ht h2 h3 h4 h5 h6 => exact .bf (hm _ _ hb h) hv ht h2 h3 h4 h5 h6
  | bfp hb => intro r h; cases h with | bfp h hv ht h2 h3 => exact .bfp (hm _ _ hb h) hv ht h2 h3
  | bptr hb => intro r h; cases h with | bptr h hv ht h2 h3 h4 => exact .bptr (hm _ _ hb h) hv ht h2 h3 h4

/-- Blocks that no memory stands behind: for nil slices. -/
def virts (szs : List Nat) : AHeap := szs.map fun sz => some ⟨true, sz, []⟩
theorem HRel.virts {m : MMap} {w : World} : ∀ (szs : List Nat) {H : AHeap}, HRel m H w → ∃ m', HRel m' (H ++ virts szs) w ∧ MLe m m' ∧ Stp m H w m' (H ++ virts szs) w := fun szs => by
  induction szs generalizing m with
  | nil => intro H h; exact ⟨m, by simpa [Go.Ab.virts] using h, .refl _, by simpa [Go.Ab.virts] using Stp.refl m H w⟩
  | cons sz r ih =>
    intro H h
    obtain ⟨k1, k2⟩ := h.virt true sz
    obtain ⟨m', g1, g2, g3⟩ := ih k1
    have e : H ++ Go.Ab.virts (sz :: r) = (H ++ [some ⟨true, sz, []⟩]) ++ Go.Ab.virts r := by simp [Go.Ab.virts]
    rw [e]
    exact ⟨m', g1, k2.mle.trans g2, k2.trans g3⟩

/-- The heap H' tells of H under other numbers; those below N0 stand. -/
structure HRen (f : Nat → Nat) (N0 : Nat) (H H' : AHeap) : Prop where
  le : N0 ≤ H'.length
  id : ∀ b, b < N0 → f b = b
  lt : ∀ b, b < H'.length → f b < H.length
  inj : ∀ b c, b < H'.length → c < H'.length → f b = f c → b = c
  blk : ∀ b A', H'[b]? = some (some A') → ∃ A, H[f b]? = some (some A) ∧ A'.own = A.own ∧ A'.sz = A.sz ∧ A'.rows.length = A.rows.length ∧
    ∀ (i : Nat) row' row, A'.rows[i]? = some row' → A.rows[i]? = some row → row'.length = row.length ∧ ∀ (j : Nat) v' v, row'[j]? = some v' → row[j]? = some v → RV f H'.length v' v

theorem HRen.sound {f : Nat → Nat} {N0 : Nat} {H H' : AHeap} (h : HRen f N0 H H') {m : MMap} {w : World} (hH : HRel m H w) :
    ∃ m' : MMap, HRel m' H' w ∧ (∀ v' v r, RV f H'.length v' v → Rel m v r → Rel m' v' r) ∧
      ∀ (m0 : MMap) (H0 : AHeap) (w0 : World), H0.length = N0 → m0.l.length = N0 → Stp m0 H0 w0 m H w → Stp m0 H0 w0 m' H' w := by
  let m' : MMap := ⟨(List.range H'.length).map fun b => m.l.getD (f b) ⟨0, 0, 0, 0, false, none⟩, m.z⟩
  have hlen : m'.l.length = H'.length := by simp [m']
  have hget : ∀ b, b < H'.length → m'.l[b]? = m.l[f b]? := fun b hb => by
    have h1 : f b < m.l.length := by rw [hH.len]; exact h.lt b hb
    simp [m', List.getElem?_range hb, List.getElem?_eq_getElem h1]
  have hrel : ∀ v' v r, RV f H'.length v' v → Rel m v r → Rel m' v' r := fun v' v r hv hr => hv.rel (m := m) (m' := m') (fun b B hb hB => by rw [hget b hb]; exact hB) (by rw [hlen]; exact Nat.le_refl _) (fun _ _ h => h) hr
  have hgi : ∀ b B, m'.l[b]? = some B → b < H'.length ∧ m.l[f b]? = some B := fun b B hB => by
    have hb : b < H'.length := by rw [← hlen]; exact (List.getElem?_eq_some_iff.1 hB).1
    exact ⟨hb, by rw [← hget b hb]; exact hB⟩
  have himg : ∀ r, Img m' H' r → Img m H r := fun r ⟨b, A', B, h1, h2, h3, h4, h5⟩ => by
    obtain ⟨A, g1, g2, _⟩ := h.blk b A' h1
    exact ⟨f b, A, B, g1, (hgi b B h2).2, by rw [← g2]; exact h3, h4, h5⟩
  refine ⟨m', ⟨hlen, fun b A' hb => ?_, hH.fz, fun b A' B hb hB ho hv => ?_, fun b b' A A' B B' hne hb hb' hB hB' ho hv hv' => ?_⟩, hrel, fun m0 H0 w0 hH0 hm0 hs => ?_⟩
  · obtain ⟨A, g1, g2, g3, g4, g5⟩ := h.blk b A' hb
    have hlt : b < H'.length := (List.getElem?_eq_some_iff.1 hb).1
    obtain ⟨B, hB, hr⟩ := hH.blk _ _ g1
    refine ⟨B, by rw [hget b hlt]; exact hB, g3.trans hr.sz, fun hv => ?_, by rw [g4]; exact hr.max, fun hv => ?_, hr.ty⟩
    · have := hr.virt hv
      rw [this] at g4
      exact List.eq_nil_of_length_eq_zero g4
    · obtain ⟨c, e, fr, k1, k2, k3, k4, k5⟩ := hr.real hv
      refine ⟨c, e, fr, k1, k2, by rw [g4]; exact k3, fun i row' hi => ?_, fun ho => k5 (by rw [← g2]; exact ho)⟩
      have hi' : i < A.rows.length := by rw [← g4]; exact (List.getElem?_eq_some_iff.1 hi).1
      have e1 := List.getElem?_eq_getElem hi'
      obtain ⟨l1, l2⟩ := g5 i row' _ hi e1
      obtain ⟨l3, l4⟩ := k4 i _ e1
      refine ⟨l1.trans l3, fun j v' hj => ?_⟩
      have hj' : j < (A.rows[i]).length := by rw [← l1]; exact (List.getElem?_eq_some_iff.1 hj).1
      have e2 := List.getElem?_eq_getElem hj'
      obtain ⟨r, r1, r2⟩ := l4 j _ e2
      exact ⟨r, r1, hrel _ _ _ (l2 j v' _ hj e2) r2.1, r2.2⟩
  · obtain ⟨A, g1, g2, _⟩ := h.blk b A' hb
    exact hH.fzA (f b) A B g1 (hgi b B hB).2 (by rw [← g2]; exact ho) hv
  · obtain ⟨A1, g1, g2, _⟩ := h.blk b A hb
    obtain ⟨A2, k1, k2, _⟩ := h.blk b' A' hb'
    obtain ⟨l1, l2⟩ := hgi b B hB
    obtain ⟨l3, l4⟩ := hgi b' B' hB'
    exact hH.apart (f b) (f b') A1 A2 B B' (fun e => hne (h.inj b b' l1 l3 e)) g1 k1 l2 l4 (by rw [← g2]; exact ho) hv hv'
  · refine ⟨⟨fun b B hb => ?_, hs.mle.z⟩, hs.os, hs.tape, hs.output, hs.size, fun r hr => hs.img r (himg r hr), fun b B hb hv => ?_, hs.newz, fun b hb => ?_, hs.block⟩
    · have hlt : b < N0 := by rw [← hm0]; exact (List.getElem?_eq_some_iff.1 hb).1
      rw [hget b (Nat.lt_of_lt_of_le hlt h.le), h.id b hlt]
      exact hs.mle.l b B hb
    · obtain ⟨l1, l2⟩ := hgi b B hb
      rcases hs.new _ B l2 hv with k | k
      · left
        have hlt : f b < N0 := by rw [← hm0]; exact (List.getElem?_eq_some_iff.1 k).1
        have : f b = b := h.inj _ _ (Nat.lt_of_lt_of_le hlt h.le) l1 (h.id _ hlt)
        rw [← this]; exact k
      · exact .inr k
    · have hlt : b < N0 := by rw [← hH0]; exact (List.getElem?_eq_some_iff.1 hb).1
      have hl : b < H'.length := Nat.lt_of_lt_of_le hlt h.le
      have e := List.getElem?_eq_getElem hl
      cases hx : H'[b] with
      | none => rw [e, hx]
      | some A' =>
        rw [hx] at e
        obtain ⟨A, g1, _⟩ := h.blk b A' e
        rw [h.id b hlt, hs.dead b hb] at g1
        simp at g1

/-- Only blocks of the list ks are kept of those behind H0. -/
def keepF (N0 : Nat) (ks : List Nat) (b : Nat) : Nat := if b < N0 then b else N0 + ks.getD (b - N0) 0
theorem keepF_lt {N0 : Nat} {ks : List Nat} {b : Nat} (h : b < N0) : keepF N0 ks b = b := by simp [keepF, h]
theorem keepF_new {N0 : Nat} {ks : List Nat} (k : Nat) : keepF N0 ks (N0 + k) = N0 + ks.getD k 0 := by
  unfold keepF
  rw [if_neg (by omega), Nat.add_sub_cancel_left]

def BelB (N : Nat) (A : Blk) : Prop := ∀ row ∈ A.rows, ∀ v ∈ row, Bel N v

def Closed (H : AHeap) : Prop := ∀ A, some A ∈ H → BelB H.length A
theorem Rel.bel {m : MMap} {v : AV} {r : Value} (h : Rel m v r) : Bel m.l.length v := by
  induction h with
  | un r => exact .un _
  | int k n => exact .int k n
  | bool b => exact .bool b
  | str s => exact .str s
  | ptr h hv => exact .ptr (List.getElem?_eq_some_iff.1 h).1
  | nilp => exact .nilp
  | nil => exact .nil
  | sl h hv hn hc => exact .sl (List.getElem?_eq_some_iff.1 h).1
  | sl0 h => exact .sl (List.getElem?_eq_some_iff.1 h).1
  | fn hl h ih =>
    refine .fn rfl fun i v' v h1 h2 => ?_
    rw [h1] at h2; injection h2 with h2; subst h2
    have hi := (List.getElem?_eq_some_iff.1 h1).1
    exact ih i v' _ h1 (List.getElem?_eq_getElem (hl ▸ hi))
  | nilf => exact .nilf
  | ifc h ih => exact .ifc ih
  | nili => exact .nili
  | agg hl h ih =>
    refine .agg rfl fun i v' v h1 h2 => ?_
    rw [h1] at h2; injection h2 with h2; subst h2
    have hi := (List.getElem?_eq_some_iff.1 h1).1
    exact ih i v' _ h1 (List.getElem?_eq_getElem (hl ▸ hi))
  | tup hl h ih =>
    refine .tup rfl fun i v' v h1 h2 => ?_
    rw [h1] at h2; injection h2 with h2; subst h2
    have hi := (List.getElem?_eq_some_iff.1 h1).1
    exact ih i v' _ h1 (List.getElem?_eq_getElem (hl ▸ hi))
  | lst => exact .lst _ _
  | lst0 => exact .lst _ _
  | cptr => exact .cptr _ _
  | bf h => exact .bf (List.getElem?_eq_some_iff.1 h).1
  | bfp h => exact .bfp (List.getElem?_eq_some_iff.1 h).1
  | bptr h => exact .bptr (List.getElem?_eq_some_iff.1 h).1
theorem HRel.closed {m : MMap} {H : AHeap} {w : World} (h : HRel m H w) : Closed H := fun A hA row hr v hv => by
  obtain ⟨b, hb⟩ := List.getElem?_of_mem hA
  obtain ⟨B, hB, k⟩ := h.blk b A hb
  obtain ⟨i, hi⟩ := List.getElem?_of_mem hr
  obtain ⟨j, hj⟩ := List.getElem?_of_mem hv
  cases hvt : B.virt with
  | true => rw [k.virt hvt] at hi; simp at hi
  | false =>
    obtain ⟨c, e, fr, h1, h2, h3, h4, h5⟩ := k.real hvt
    obtain ⟨r, _, hr⟩ := (h4 i row hi).2 j v hj
    rw [← h.len]; exact hr.1.bel

theorem HRen.keep {H0 H1 J J' : AHeap} (ks : List Nat) (hl : H1.length = H0.length) (hs : ∀ (b : Nat) (A : Blk), H0[b]? = some (some A) → H1[b]? = some (some A)) (hk : ∀ k ∈ ks, k < J.length) (hn : ks.Nodup) (hJ : J' = ks.map fun k => J.getD k none)
    (h0 : Closed H0) (hb : ∀ A, some A ∈ J' → BelB H0.length A) : HRen (keepF H0.length ks) H0.length (H1 ++ J) (H0 ++ J') where
  le := by simp
  id b hb := keepF_lt hb
  lt b hb := by
    rcases Nat.lt_or_ge b H0.length with h | h
    · rw [keepF_lt h]; simp; omega
    · obtain ⟨k, rfl⟩ := Nat.exists_eq_add_of_le h
      rw [keepF_new]
      have hk' : k < ks.length := by simp [hJ] at hb; omega
      have := hk _ (List.getElem_mem hk')
      simp [List.getElem?_eq_getElem hk', hl]; omega
  inj b c hb hc e := by
    have key : ∀ k, H0.length + k < (H0 ++ J').length → k < ks.length := fun k h => by simp [hJ] at h; omega
    rcases Nat.lt_or_ge b H0.length with h | h <;> rcases Nat.lt_or_ge c H0.length with h' | h'
    · rwa [keepF_lt h, keepF_lt h'] at e
    · obtain ⟨k, rfl⟩ := Nat.exists_eq_add_of_le h'
      rw [keepF_lt h, keepF_new] at e; omega
    · obtain ⟨k, rfl⟩ := Nat.exists_eq_add_of_le h
      rw [keepF_lt h', keepF_new] at e; omega
    · obtain ⟨k, rfl⟩ := Nat.exists_eq_add_of_le h
      obtain ⟨k', rfl⟩ := Nat.exists_eq_add_of_le h'
      rw [keepF_new, keepF_new] at e
      have h1 := key k hb
      have h2 := key k' hc
      simp [List.getElem?_eq_getElem h1, List.getElem?_eq_getElem h2] at e
      have := (List.getElem_inj hn).1 e
      rw [this]
  blk b A' hb' := by
    have main : ∀ A : Blk, BelB H0.length A → ∀ (i : Nat) row' row, A.rows[i]? = some row' → A.rows[i]? = some row → row'.length = row.length ∧ ∀ (j : Nat) v' v, row'[j]? = some v' → row[j]? = some v → RV (keepF H0.length ks) (H0 ++ J').length v' v := fun A hA i row' row h1 h2 => by
      rw [h1] at h2; injection h2 with h2; subst h2
      refine ⟨rfl, fun j v' v h3 h4 => ?_⟩
      rw [h3] at h4; injection h4 with h4; subst h4
      exact (hA _ (List.mem_of_getElem? h1) _ (List.mem_of_getElem? h3)).mono fun b hb => ⟨keepF_lt hb, by simp; omega⟩
    rcases Nat.lt_or_ge b H0.length with h | h
    · rw [List.getElem?_append_left h] at hb'
      refine ⟨A', ?_, rfl, rfl, rfl, main A' (h0 A' (List.mem_of_getElem? hb'))⟩
      rw [keepF_lt h, List.getElem?_append_left (by omega)]; exact hs b A' hb'
    · obtain ⟨k, rfl⟩ := Nat.exists_eq_add_of_le h
      rw [List.getElem?_append_right (by omega)] at hb'
      simp only [Nat.add_sub_cancel_left] at hb'
      have hm := List.mem_of_getElem? hb'
      refine ⟨A', ?_, rfl, rfl, rfl, main A' (hb A' hm)⟩
      rw [keepF_new, ← hl, List.getElem?_append_right (by omega)]
      simp only [Nat.add_sub_cancel_left]
      subst hJ
      rw [List.getElem?_map] at hb'
      cases hk2 : ks[k]? with
      | none => rw [hk2] at hb'; simp at hb'
      | some q =>
        rw [hk2] at hb'
        have hq := hk q (List.mem_of_getElem? hk2)
        rw [List.getD_eq_getElem?_getD, hk2]
        simp only [Option.map_some, Option.some.injEq] at hb'
        simp only [Option.getD_some]
        rw [List.getD_eq_getElem?_getD, List.getElem?_eq_getElem hq] at hb'
        rw [List.getElem?_eq_getElem hq]
        simpa using hb'

/-- A contract told anew. -/
theorem AC.ren {P : Program} {g : FuncId} {args : List AV} {H : AHeap} {Q Q' : AV → AHeap → Prop} (h : AC P g args H Q)
    (hq : Closed H → ∀ v H1, Q v H1 → ∃ szs f v' H', HRen f H.length (H1 ++ virts szs) H' ∧ RV f H'.length v' v ∧ Q' v' H') : AC P g args H Q' :=
  ⟨h.1, fun m w vs hm hv => (h.2 m w vs hm hv).mono fun e w' ⟨v, r, m1, H1, he, h1, h2, h3, h4⟩ => by
    obtain ⟨szs, f, v', H', k1, k2, k3⟩ := hq hm.closed v H1 h4
    obtain ⟨m2, j1, j2, j3⟩ := h1.virts szs
    obtain ⟨m', g1, g2, g3⟩ := k1.sound j1
    exact ⟨v', r, m', H', he, g1, g2 _ _ _ k2 (h2.mono j2), g3 m H w rfl hm.len (h3.trans j3), k3⟩⟩

/-- The heap stands as it stood, and a value names nothing new. -/
theorem AC.gc {P : Program} {g : FuncId} {args : List AV} {H : AHeap} {Q : AV → Prop} (h : AC P g args H fun v H' => (∃ J, H' = H ++ J) ∧ Bel H.length v ∧ Q v) : AC P g args H fun v H' => Q v ∧ H' = H :=
  h.ren fun hc v H1 ⟨⟨J, hJ⟩, hb, hq⟩ => by
    subst hJ
    have := HRen.keep (H0 := H) (H1 := H) (J := J) (J' := []) [] rfl (fun _ _ h => h) (by simp) .nil rfl hc (by simp)
    rw [List.append_nil] at this
    exact ⟨[], _, v, H, by simpa [virts] using this, hb.mono fun b hb => ⟨keepF_lt hb, hb⟩, hq, rfl⟩
theorem AC.gc' {P : Program} {g : FuncId} {args : List AV} {H : AHeap} {v : AV} (h : AC P g args H fun v' H' => (∃ J, H' = H ++ J) ∧ Bel H.length v ∧ v' = v) : AC P g args H fun v' H' => v' = v ∧ H' = H :=
  (h.mono (Q' := fun v' H' => (∃ J, H' = H ++ J) ∧ Bel H.length v' ∧ v' = v) fun v' H' ⟨h1, h2, h3⟩ => ⟨h1, h3 ▸ h2, h3⟩).gc
/-- A fresh slice is returned, or nil. -/
theorem AC.gcSl {P : Program} {g : FuncId} {args : List AV} {H : AHeap} {sz : Nat} {rows : List (List AV)} (hb : Closed H → BelB H.length ⟨true, sz, rows⟩)
    (h : AC P g args H fun v H' => ∃ J, H' = H ++ J ∧ ((v = .nil ∧ rows = []) ∨ ∃ k, v = .sl (H.length + k) 0 rows.length ∧ J[k]? = some (some ⟨true, sz, rows⟩))) : AC P g args H fun v H' => v = .sl H.length 0 rows.length ∧ H' = H ++ [some ⟨true, sz, rows⟩] :=
  h.ren fun hc v H1 ⟨J, hJ, hv⟩ => by
    subst hJ
    have main : ∀ (J : AHeap) k, J[k]? = some (some ⟨true, sz, rows⟩) → HRen (keepF H.length [k]) H.length (H ++ J) (H ++ [some ⟨true, sz, rows⟩]) := fun J k hk =>
      HRen.keep (H0 := H) (H1 := H) (J := J) (J' := [some ⟨true, sz, rows⟩]) [k] rfl (fun _ _ h => h) (by simp; exact (List.getElem?_eq_some_iff.1 hk).1) (by simp) (by simp [hk]) hc (by intro A hA; simp at hA; subst hA; exact hb hc)
    have e : ∀ k, keepF H.length [k] H.length = H.length + k := fun k => by have := keepF_new (N0 := H.length) (ks := [k]) 0; simpa using this
    rcases hv with ⟨rfl, hr⟩ | ⟨k, rfl, hk⟩
    · refine ⟨[sz], keepF H.length [J.length], .sl H.length 0 rows.length, _, ?_, ?_, rfl, rfl⟩
      · have := main (J ++ virts [sz]) J.length (by simp [virts, hr])
        rwa [← List.append_assoc] at this
      · rw [hr]; exact .sl0 (by simp)
    · refine ⟨[], _, .sl H.length 0 rows.length, _, by simpa [virts] using main J k hk, ?_, rfl, rfl⟩
      rw [← e]; exact .sl (by simp)
/-- A fresh slice and a Bool. -/
theorem AC.gcSlB {P : Program} {g : FuncId} {args : List AV} {H : AHeap} {sz : Nat} {rows : List (List AV)} {ok : Bool} (hb : Closed H → BelB H.length ⟨true, sz, rows⟩)
    (h : AC P g args H fun v H' => ∃ J, H' = H ++ J ∧ ((v = .tup [.nil, .bool ok] ∧ rows = []) ∨ ∃ k, v = .tup [.sl (H.length + k) 0 rows.length, .bool ok] ∧ J[k]? = some (some ⟨true, sz, rows⟩))) : AC P g args H fun v H' => v = .tup [.sl H.length 0 rows.length, .bool ok] ∧ H' = H ++ [some ⟨true, sz, rows⟩] :=
  h.ren fun hc v H1 ⟨J, hJ, hv⟩ => by
    subst hJ
    have main : ∀ (J : AHeap) k, J[k]? = some (some ⟨true, sz, rows⟩) → HRen (keepF H.length [k]) H.length (H ++ J) (H ++ [some ⟨true, sz, rows⟩]) := fun J k hk =>
      HRen.keep (H0 := H) (H1 := H) (J := J) (J' := [some ⟨true, sz, rows⟩]) [k] rfl (fun _ _ h => h) (by simp; exact (List.getElem?_eq_some_iff.1 hk).1) (by simp) (by simp [hk]) hc (by intro A hA; simp at hA; subst hA; exact hb hc)
    have e : ∀ k, keepF H.length [k] H.length = H.length + k := fun k => by have := keepF_new (N0 := H.length) (ks := [k]) 0; simpa using this
    have two : ∀ (f : Nat → Nat) (N : Nat) (a b : AV), RV f N a b → RV f N (.tup [a, .bool ok]) (.tup [b, .bool ok]) := fun f N a b hab => .tup rfl fun i v' v h1 h2 => by
      match i with
      | 0 => simp at h1 h2; subst h1; subst h2; exact hab
      | 1 => simp at h1 h2; subst h1; subst h2; exact .bool ok
      | i + 2 => simp at h1
    rcases hv with ⟨rfl, hr⟩ | ⟨k, rfl, hk⟩
    · refine ⟨[sz], keepF H.length [J.length], .tup [.sl H.length 0 rows.length, .bool ok], _, ?_, two _ _ _ _ ?_, rfl, rfl⟩
      · have := main (J ++ virts [sz]) J.length (by simp [virts, hr])
        rwa [← List.append_assoc] at this
      · rw [hr]; exact .sl0 (by simp)
    · refine ⟨[], _, .tup [.sl H.length 0 rows.length, .bool ok], _, by simpa [virts] using main J k hk, two _ _ _ _ ?_, rfl, rfl⟩
      rw [← e]; exact .sl (by simp)

/-! ### Values that name nothing -/
theorem Bel.i {N : Nat} {k : IntKind} {n : Int} : Bel N (.int k n) := .int k n
theorem Bel.b {N : Nat} {b : Bool} : Bel N (.bool b) := .bool b
theorem Bel.s {N : Nat} {s : List UInt8} : Bel N (.str s) := .str s
def BelL (N : Nat) (l : List AV) : Prop := ∀ v ∈ l, Bel N v
theorem BelL.all {N : Nat} {l : List AV} (h : BelL N l) : ∀ (i : Nat) v' v, l[i]? = some v' → l[i]? = some v → Bel N v' ∧ v' = v := fun i v' v h1 h2 => by
  rw [h1] at h2; injection h2 with h2; subst h2; exact ⟨h _ (List.mem_of_getElem? h1), rfl⟩
theorem Bel.agg {N : Nat} {l : List AV} (h : BelL N l) : Bel N (.agg l) := RV.agg rfl fun i v' v h1 h2 => by obtain ⟨a, rfl⟩ := h.all i v' v h1 h2; exact a
theorem Bel.tup {N : Nat} {l : List AV} (h : BelL N l) : Bel N (.tup l) := RV.tup rfl fun i v' v h1 h2 => by obtain ⟨a, rfl⟩ := h.all i v' v h1 h2; exact a
theorem BelL.nil {N : Nat} : BelL N [] := fun v h => by simp at h
theorem BelL.cons {N : Nat} {v : AV} {l : List AV} (h : Bel N v) (t : BelL N l) : BelL N (v :: l) := fun u hu => by
  rcases List.mem_cons.1 hu with e | e
  · subst e; exact h
  · exact t u e

end Go.Ab
/- The abstract machine: telling anew, freezing, and contracts in greater heaps. -/
set_option linter.unusedVariables false
set_option linter.unusedSimpArgs false
namespace Go.Ab

/-- The heap H and the values V may be told as H2 and V2. -/
def Retell (N0 : Nat) (H : AHeap) (V : Nat → AV) (H2 : AHeap) (V2 : Nat → AV) : Prop :=
  ∀ (m : MMap) (w : World), HRel m H w → ∃ m' : MMap, HRel m' H2 w ∧ (∀ t r, Rel m (V t) r → Rel m' (V2 t) r) ∧
    ∀ (m0 : MMap) (H0 : AHeap) (w0 : World), H0.length = N0 → m0.l.length = N0 → Stp m0 H0 w0 m H w → Stp m0 H0 w0 m' H2 w

theorem Retell.refl (N0 : Nat) (H : AHeap) (V : Nat → AV) : Retell N0 H V H V := fun m w h => ⟨m, h, fun _ _ h => h, fun _ _ _ _ _ h => h⟩
theorem Retell.trans {N0 : Nat} {H H1 H2 : AHeap} {V V1 V2 : Nat → AV} (h : Retell N0 H V H1 V1) (k : Retell N0 H1 V1 H2 V2) : Retell N0 H V H2 V2 := fun m w hm => by
  obtain ⟨m1, a1, a2, a3⟩ := h m w hm
  obtain ⟨m2, b1, b2, b3⟩ := k m1 w a1
  exact ⟨m2, b1, fun t r hr => b2 t r (a2 t r hr), fun m0 H0 w0 e1 e2 hs => b3 m0 H0 w0 e1 e2 (a3 m0 H0 w0 e1 e2 hs)⟩
theorem Retell.vals {N0 : Nat} {H : AHeap} {V V2 : Nat → AV} (h : ∀ (m : MMap) (w : World), HRel m H w → ∀ t r, Rel m (V t) r → Rel m (V2 t) r) : Retell N0 H V H V2 := fun m w hm => ⟨m, hm, h m w hm, fun _ _ _ _ _ h => h⟩
theorem Retell.ren {N0 : Nat} {H H2 : AHeap} {V V2 : Nat → AV} {f : Nat → Nat} (szs : List Nat) (h : HRen f N0 (H ++ virts szs) H2) (hV : ∀ t, RV f H2.length (V2 t) (V t)) : Retell N0 H V H2 V2 := fun m w hm => by
  obtain ⟨m1, a1, a2, a3⟩ := hm.virts szs
  obtain ⟨m2, b1, b2, b3⟩ := h.sound a1
  exact ⟨m2, b1, fun t r hr => b2 _ _ _ (hV t) (hr.mono a2), fun m0 H0 w0 e1 e2 hs => b3 m0 H0 w0 e1 e2 (hs.trans a3)⟩

/-- v' tells of v, once the block b is frozen. -/
inductive FV (H : AHeap) (b : Nat) : AV → AV → Prop
  | id (v : AV) : FV H b v v
  | sl {i n : Nat} {A : Blk} {rows : List (List AV)} (hb : hget H b = some A) (hn : i + n ≤ A.rows.length) (hr : rows = (A.rows.drop i).take n) : FV H b (.lst A.sz rows) (.sl b i n)
  | agg {l l' : List AV} (hl : l'.length = l.length) (h : ∀ (i : Nat) v' v, l'[i]? = some v' → l[i]? = some v → FV H b v' v) : FV H b (.agg l') (.agg l)
  | tup {l l' : List AV} (hl : l'.length = l.length) (h : ∀ (i : Nat) v' v, l'[i]? = some v' → l[i]? = some v → FV H b v' v) : FV H b (.tup l') (.tup l)

/-- The heap H2 tells of H, once the block b is frozen. -/
structure HFz (b : Nat) (H H2 : AHeap) : Prop where
  len : H2.length = H.length
  blk : ∀ (c : Nat) (C2 : Blk), H2[c]? = some (some C2) → c ≠ b ∧ ∃ C, H[c]? = some (some C) ∧ C2.own = C.own ∧ C2.sz = C.sz ∧ C2.rows.length = C.rows.length ∧
    ∀ (i : Nat) row' row, C2.rows[i]? = some row' → C.rows[i]? = some row → row'.length = row.length ∧ ∀ (j : Nat) v' v, row'[j]? = some v' → row[j]? = some v → FV H b v' v ∧ (v.one = true → v'.one = true)

theorem Rel.zero {m : MMap} {z : Nat → Option (Array Value)} {v : AV} {r : Value} (hb : Bel 0 v) (hz : ∀ r c, m.z r = some c → z r = some c) (h : Rel m v r) : Rel ⟨[], z⟩ v r :=
  RV.rel (f := fun b => b) (N := 0) (m := m) (m' := ⟨[], z⟩) (fun b B hb => by omega) (Nat.zero_le _) hz hb h

theorem HFz.sound {b : Nat} {H H2 : AHeap} {A : Blk} (h : HFz b H H2) (hb : hget H b = some A) (ho : A.own = true) (hclo : ∀ row ∈ A.rows, BelL 0 row) {m : MMap} {w : World} (hm : HRel m H w) :
    ∃ m' : MMap, HRel m' H2 w ∧ (∀ v' v r, FV H b v' v → Rel m v r → Rel m' v' r) ∧
      ∀ (m0 : MMap) (H0 : AHeap) (w0 : World), Stp m0 H0 w0 m H w → Stp m0 H0 w0 m' H2 w := by
  obtain ⟨B, hB, hR⟩ := hm.blk b A (hget_eq.1 hb)
  obtain ⟨z', hz1, hz2, hz3⟩ : ∃ z' : Nat → Option (Array Value), (∀ r c, m.z r = some c → z' r = some c) ∧ (∀ r c, z' r = some c → m.z r = some c ∨ (r = B.blk ∧ B.virt = false ∧ ∃ e fr, w.heap[r]? = some (.cells c e fr))) ∧
      (B.virt = false → ∃ c e fr, z' B.blk = some c ∧ w.heap[B.blk]? = some (.cells c e fr)) := by
    cases hv : B.virt with
    | true => exact ⟨m.z, fun _ _ h => h, fun _ _ h => .inl h, fun h => by simp at h⟩
    | false =>
      obtain ⟨c, e, fr, g1, _⟩ := hR.real hv
      have hn := hm.fzA b A B (hget_eq.1 hb) hB ho hv
      refine ⟨fun r => if r = B.blk then some c else m.z r, fun r c' hr => ?_, fun r c' hr => ?_, fun _ => ⟨c, e, fr, by simp, g1⟩⟩
      · have : r ≠ B.blk := fun e => by subst e; rw [hn] at hr; simp at hr
        simp [this, hr]
      · by_cases e' : r = B.blk
        · subst e'; simp at hr; subst hr; exact .inr ⟨rfl, rfl, e, fr, g1⟩
        · simp [e'] at hr; exact .inl hr
  let m' : MMap := ⟨m.l, z'⟩
  have hle : MLe m m' := ⟨fun _ _ h => h, hz1⟩
  have hrel : ∀ v' v r, FV H b v' v → Rel m v r → Rel m' v' r := by
    intro v' v r hfv
    induction hfv generalizing r with
    | id v => exact fun h => h.mono hle
    | sl hb' hn hr =>
      rename_i i n A' rows
      rw [hb] at hb'; injection hb' with e; subst e
      subst hr
      intro h
      cases h with
      | sl0 h1 => simp; exact .lst0
      | sl h1 hv h2 h3 =>
        rw [hB] at h1; injection h1 with e; subst e
        obtain ⟨c, e, fr, k1, k2⟩ := hz3 hv
        obtain ⟨c', e', fr', g1, g2, g3, g4, g5⟩ := hR.real hv
        rw [k2] at g1; injection g1 with g1; injection g1 with q1 q2 q3; subst q1; subst q2; subst q3
        have hsz := hR.sz
        have hrow : ∀ (k : Nat) row, ((A.rows.drop i).take n)[k]? = some row → A.rows[i + k]? = some row := fun k row hk => by
          rw [List.getElem?_take] at hk
          split at hk
          · rwa [List.getElem?_drop] at hk
          · simp at hk
        have hcell : ∀ (k j : Nat) row v r, ((A.rows.drop i).take n)[k]? = some row → row[j]? = some v → c[B.base + i * B.sz + k * A.sz + j]? = some r → r.oneCell' = true ∧ Rel ⟨[], z'⟩ v r := fun k j row v r a1 a2 a3 => by
          have hk := hrow k row a1
          obtain ⟨r', b1, b2⟩ := (g4 _ row hk).2 j v a2
          have e1 : B.base + i * B.sz + k * A.sz + j = B.base + (i + k) * B.sz + j := by rw [hsz, Nat.add_mul]; omega
          rw [e1, b1] at a3; injection a3 with a3; subst a3
          exact ⟨b2.2, b2.1.zero (hclo row (List.mem_of_getElem? hk) v (List.mem_of_getElem? a2)) hz1⟩
        have hmax := hR.max
        refine .lst k1 (by simp; omega) h2 (by rw [hsz, g2]; exact h3) (by omega) (fun k row hk => by rw [hsz]; exact (g4 _ row (hrow k row hk)).1) (fun k j row v r a1 a2 a3 => (hcell k j row v r a1 a2 a3).1) (fun k j row v r a1 a2 a3 => (hcell k j row v r a1 a2 a3).2)
    | agg hl h ih =>
      intro hr
      cases hr with
      | agg hl' h' =>
        refine .agg (hl.trans hl') fun i v r hv hr => ?_
        have hi := (List.getElem?_eq_some_iff.1 hv).1
        have e := List.getElem?_eq_getElem (hl ▸ hi)
        exact ih i v _ hv e r (h' i _ r e hr)
    | tup hl h ih =>
      intro hr
      cases hr with
      | tup hl' h' =>
        refine .tup (hl.trans hl') fun i v r hv hr => ?_
        have hi := (List.getElem?_eq_some_iff.1 hv).1
        have e := List.getElem?_eq_getElem (hl ▸ hi)
        exact ih i v _ hv e r (h' i _ r e hr)
  have himg : ∀ r, Img m' H2 r → Img m H r := fun r ⟨c, C2, D, h1, h2, h3, h4, h5⟩ => by
    obtain ⟨_, C, g1, g2, _⟩ := h.blk c C2 h1
    exact ⟨c, C, D, g1, h2, by rw [← g2]; exact h3, h4, h5⟩
  refine ⟨m', ⟨hm.len.trans h.len.symm, fun c C2 hc => ?_, fun r c hr => ?_, fun c C2 D hc hD hown hv => ?_, fun c c' C2 C2' D D' hne hc hc' hD hD' hown hv hv' => ?_⟩, hrel, fun m0 H0 w0 hs => ?_⟩
  · obtain ⟨_, C, g1, g2, g3, g4, g5⟩ := h.blk c C2 hc
    obtain ⟨D, hD, hRD⟩ := hm.blk c C g1
    refine ⟨D, hD, g3.trans hRD.sz, fun hv => ?_, by rw [g4]; exact hRD.max, fun hv => ?_, hRD.ty⟩
    · have := hRD.virt hv
      rw [this] at g4
      exact List.eq_nil_of_length_eq_zero g4
    · obtain ⟨cc, e, fr, k1, k2, k3, k4, k5⟩ := hRD.real hv
      refine ⟨cc, e, fr, k1, k2, by rw [g4]; exact k3, fun i row' hi => ?_, fun ho' => k5 (by rw [← g2]; exact ho')⟩
      have hi' : i < C.rows.length := by rw [← g4]; exact (List.getElem?_eq_some_iff.1 hi).1
      have e1 := List.getElem?_eq_getElem hi'
      obtain ⟨l1, l2⟩ := g5 i row' _ hi e1
      obtain ⟨l3, l4⟩ := k4 i _ e1
      refine ⟨l1.trans l3, fun j v' hj => ?_⟩
      have hj' : j < (C.rows[i]).length := by rw [← l1]; exact (List.getElem?_eq_some_iff.1 hj).1
      have e2 := List.getElem?_eq_getElem hj'
      obtain ⟨r, r1, r2⟩ := l4 j _ e2
      exact ⟨r, r1, hrel _ _ _ (l2 j v' _ hj e2).1 r2.1, r2.2⟩
  · rcases hz2 r c hr with h1 | ⟨_, _, h1⟩
    · exact hm.fz r c h1
    · exact h1
  · obtain ⟨hcb, C, g1, g2, _⟩ := h.blk c C2 hc
    have hn := hm.fzA c C D g1 hD (by rw [← g2]; exact hown) hv
    cases hz : z' D.blk with
    | none => exact hz
    | some cc =>
      rcases hz2 _ _ hz with h1 | ⟨h1, h2, _⟩
      · rw [hn] at h1; simp at h1
      · exact absurd h1 (hm.apart c b C A D B hcb g1 (hget_eq.1 hb) hD hB (by rw [← g2]; exact hown) hv h2)
  · obtain ⟨_, C, g1, g2, _⟩ := h.blk c C2 hc
    obtain ⟨_, C', g1', _⟩ := h.blk c' C2' hc'
    exact hm.apart c c' C C' D D' hne g1 g1' hD hD' (by rw [← g2]; exact hown) hv hv'
  · refine ⟨hs.mle.trans hle, hs.os, hs.tape, hs.output, hs.size, fun r hr => hs.img r (himg r hr), hs.new, fun r c hr => ?_, fun c hc => ?_, hs.block⟩
    · rcases hz2 r c hr with h1 | ⟨rfl, h2, _⟩
      · exact hs.newz r c h1
      · exact .inr (hs.img _ ⟨b, A, B, hget_eq.1 hb, hB, ho, h2, rfl⟩)
    · have h1 := hs.dead c hc
      have hlt : c < H2.length := by rw [h.len]; exact (List.getElem?_eq_some_iff.1 h1).1
      have e := List.getElem?_eq_getElem hlt
      cases hx : H2[c] with
      | none => rw [e, hx]
      | some C2 =>
        rw [hx] at e
        obtain ⟨_, C, g1, _⟩ := h.blk c C2 e
        rw [h1] at g1; simp at g1

theorem Retell.fz {N0 b : Nat} {H H2 : AHeap} {V V2 : Nat → AV} {A : Blk} (hb : hget H b = some A) (ho : A.own = true) (hclo : ∀ row ∈ A.rows, BelL 0 row) (h : HFz b H H2) (hV : ∀ t, FV H b (V2 t) (V t)) : Retell N0 H V H2 V2 := fun m w hm => by
  obtain ⟨m', h1, h2, h3⟩ := h.sound hb ho hclo hm
  exact ⟨m', h1, fun t r hr => h2 _ _ _ (hV t) hr, fun m0 H0 w0 _ _ hs => h3 m0 H0 w0 hs⟩
theorem HFz.kill (H : AHeap) (b : Nat) : HFz b H (H.set b none) where
  len := by simp
  blk c C2 hc := by
    by_cases e : b = c
    · subst e; rw [List.getElem?_set] at hc; simp at hc
    · rw [List.getElem?_set_ne e] at hc
      refine ⟨fun e' => e e'.symm, C2, hc, rfl, rfl, rfl, fun i row' row h1 h2 => ?_⟩
      rw [h1] at h2; injection h2 with h2; subst h2
      refine ⟨rfl, fun j v' v h3 h4 => ?_⟩
      rw [h3] at h4; injection h4 with h4; subst h4
      exact ⟨.id _, id⟩

/-- A contract told anew. -/
theorem AC.retell {P : Program} {g : FuncId} {args : List AV} {H : AHeap} {Q Q' : AV → AHeap → Prop} (h : AC P g args H Q)
    (hq : Closed H → ∀ v H1, Q v H1 → ∃ v' H', Retell H.length H1 (fun _ => v) H' (fun _ => v') ∧ Q' v' H') : AC P g args H Q' :=
  ⟨h.1, fun m w vs hm hv => (h.2 m w vs hm hv).mono fun e w' ⟨v, r, m1, H1, he, h1, h2, h3, h4⟩ => by
    obtain ⟨v', H', k1, k2⟩ := hq hm.closed v H1 h4
    obtain ⟨m', g1, g2, g3⟩ := k1 m1 w' h1
    exact ⟨v', r, m', H', he, g1, g2 0 r h2, g3 m H w rfl hm.len h3, k2⟩⟩

/-! ### In a greater heap -/
/-- What every cell of the world holds. -/
def zAll (w : World) : Nat → Option (Array Value) := fun r => match w.heap[r]? with | some (.cells c _ _) => some c | _ => none
theorem hrelAll (w : World) : HRel ⟨[], zAll w⟩ [] w := ⟨rfl, fun b A h => by simp at h, fun r c h => by
  have h : zAll w r = some c := h
  unfold zAll at h
  split at h
  · rename_i c' e fr hw
    injection h with h; subst h; exact ⟨e, fr, hw⟩
  · simp at h, fun b A B h => by simp at h, fun b b' A A' B B' _ h => by simp at h⟩
theorem hrelZ {m : MMap} {H : AHeap} {w : World} (h : HRel m H w) : HRel ⟨[], m.z⟩ [] w := ⟨rfl, fun b A h => by simp at h, h.fz, fun b A B h => by simp at h, fun b b' A A' B B' _ h => by simp at h⟩
theorem hrel_le_all {m : MMap} {H : AHeap} {w : World} (h : HRel m H w) : ∀ r c, m.z r = some c → zAll w r = some c := fun r c hr => by
  obtain ⟨e, fr, h1⟩ := h.fz r c hr
  simp [zAll, h1]
theorem img_nil {l : List MB} {z : Nat → Option (Array Value)} {r : Nat} : ¬ Img ⟨l, z⟩ [] r := fun ⟨b, A, B, h, _⟩ => by simp at h

theorem AC.frame {P : Program} {f : FuncId} {args : List AV} {v : AV} (hb : BelL 0 args) (h : AC P f args [] fun v' H' => v' = v ∧ H' = []) (H : AHeap) : AC P f args H fun v' H' => v' = v ∧ H' = H := by
  refine ⟨h.1, fun m w vs hm hv => ?_⟩
  have hv0 : RelL ⟨[], m.z⟩ args vs := ⟨hv.1, fun i v r h1 h2 => (hv.2 i v r h1 h2).zero (hb v (List.mem_of_getElem? h1)) fun _ _ h => h⟩
  refine (h.2 _ w vs (hrelZ hm) hv0).mono fun e w' ⟨v1, r, m1, H1, he, k1, k2, k3, k4, k5⟩ => ?_
  subst k4; subst k5
  obtain ⟨l1, z1⟩ := m1
  have hl1 : l1 = [] := List.eq_nil_of_length_eq_zero k1.len
  subst hl1
  have hold : ∀ r, r < w.heap.size → w'.heap[r]? = w.heap[r]? := fun r hr => k3.block r hr img_nil
  have hle : MLe m ⟨m.l, z1⟩ := ⟨fun _ _ h => h, k3.mle.z⟩
  have hnz : ∀ r c, z1 r = some c → m.z r = some c ∨ w.heap.size ≤ r := fun r c hr => by
    rcases k3.newz r c hr with h1 | h1 | h1
    · exact .inl h1
    · exact absurd h1 img_nil
    · exact .inr h1
  refine ⟨v1, r, ⟨m.l, z1⟩, H, he, ⟨hm.len, fun b A hb => ?_, k1.fz, fun b A B hb hB ho hv => ?_, hm.apart⟩, Rel.mono (m := ⟨[], z1⟩) (m' := ⟨m.l, z1⟩) ⟨fun b B h => by simp at h, fun _ _ h => h⟩ k2, ⟨hle, k3.os, k3.tape, k3.output, k3.size, fun r hr => .inl hr, fun b B hb hv => .inl hb, fun r c hr => (hnz r c hr).imp id .inr, fun b hb => hb, fun r hr _ => hold r hr⟩, rfl, rfl⟩
  · obtain ⟨B, hB, hR⟩ := hm.blk b A hb
    exact ⟨B, hB, hR.keep hle fun hv => hold _ (hm.lt (hget_eq.2 hb) hB hv)⟩
  · cases hz : z1 B.blk with
    | none => exact hz
    | some c =>
      rcases hnz _ _ hz with h1 | h1
      · rw [hm.fzA b A B hb hB ho hv] at h1; simp at h1
      · have := hm.lt (hget_eq.2 hb) hB hv; omega

/-- One's own slices, lent. -/
inductive Lend (H : AHeap) : AV → AV → Prop
  | id {v : AV} (h : Bel 0 v) : Lend H v v
  | sl {b i n sz : Nat} {rows : List (List AV)} {A : Blk} (hb : hget H b = some A) (hn : i + n ≤ A.rows.length) (hclo : ∀ row ∈ A.rows, BelL 0 row) (hs : sz = A.sz) (hr : rows = (A.rows.drop i).take n) : Lend H (.sl b i n) (.lst sz rows)
theorem Lend.rel {m : MMap} {H : AHeap} {w : World} (hm : HRel m H w) {v v' : AV} {r : Value} (h : Lend H v v') (hr : Rel m v r) : Rel ⟨[], zAll w⟩ v' r := by
  cases h with
  | id h => exact hr.zero h (hrel_le_all hm)
  | sl hb hn hclo hs hr' =>
    rename_i b i n sz rows A
    subst hs; subst hr'
    obtain ⟨B, hB, hR⟩ := hm.blk b A (hget_eq.1 hb)
    cases hr with
    | sl0 h1 => simp; exact .lst0
    | sl h1 hv h2 h3 =>
      rw [hB] at h1; injection h1 with e; subst e
      obtain ⟨c, e, fr, g1, g2, g3, g4, g5⟩ := hR.real hv
      have hsz := hR.sz
      have hz : zAll w B.blk = some c := by simp [zAll, g1]
      have hrow : ∀ (k : Nat) row, ((A.rows.drop i).take n)[k]? = some row → A.rows[i + k]? = some row := fun k row hk => by
        rw [List.getElem?_take] at hk
        split at hk
        · rwa [List.getElem?_drop] at hk
        · simp at hk
      have hcell : ∀ (k j : Nat) row v r, ((A.rows.drop i).take n)[k]? = some row → row[j]? = some v → c[B.base + i * B.sz + k * A.sz + j]? = some r → r.oneCell' = true ∧ Rel ⟨[], zAll w⟩ v r := fun k j row v r a1 a2 a3 => by
        have hk := hrow k row a1
        obtain ⟨r', b1, b2⟩ := (g4 _ row hk).2 j v a2
        have e1 : B.base + i * B.sz + k * A.sz + j = B.base + (i + k) * B.sz + j := by rw [hsz, Nat.add_mul]; omega
        rw [e1, b1] at a3; injection a3 with a3; subst a3
        exact ⟨b2.2, b2.1.zero (hclo row (List.mem_of_getElem? hk) v (List.mem_of_getElem? a2)) (hrel_le_all hm)⟩
      have hmax := hR.max
      exact .lst hz (by simp; omega) h2 (by rw [hsz, g2]; exact h3) (by omega) (fun k row hk => by rw [hsz]; exact (g4 _ row (hrow k row hk)).1) (fun k j row v r a1 a2 a3 => (hcell k j row v r a1 a2 a3).1) (fun k j row v r a1 a2 a3 => (hcell k j row v r a1 a2 a3).2)

def LendL (H : AHeap) : List AV → List AV → Prop
  | [], [] => True
  | v :: l, v' :: l' => Lend H v v' ∧ LendL H l l'
  | _, _ => False
theorem LendL.rel {m : MMap} {H : AHeap} {w : World} (hm : HRel m H w) : ∀ {l l' : List AV} {rs : List Value}, LendL H l l' → RelL m l rs → RelL ⟨[], zAll w⟩ l' rs
  | [], [], rs, _, hr => ⟨hr.1, fun i v r h => by simp at h⟩
  | [], _ :: _, rs, h, _ => h.elim
  | _ :: _, [], rs, h, _ => h.elim
  | v :: l, v' :: l', rs, h, hr => by
    obtain ⟨h1, h2⟩ := hr
    match rs, h1 with
    | r :: rs, h1 =>
      exact .cons (h.1.rel hm (h2 0 v r rfl rfl)) (LendL.rel hm h.2 ⟨by simpa using h1, fun i a b ha hb => h2 (i + 1) a b (by simpa using ha) (by simpa using hb)⟩)

/-- v tells of v0 in any heap that has its blocks N places further on. -/
def ShZ (N : Nat) (v0 v : AV) : Prop := ∀ (l l' : List MB) (z z' : Nat → Option (Array Value)) (r : Value), (∀ (b : Nat) (B : MB), l[b]? = some B → l'[N + b]? = some B) → Rel ⟨l, z⟩ v0 r → Rel ⟨l', z'⟩ v r
theorem ShZ.int (N : Nat) (k : IntKind) (n : Int) : ShZ N (.int k n) (.int k n) := fun l l' z z' r _ h => by cases h; exact .int k n
theorem ShZ.bool (N : Nat) (b : Bool) : ShZ N (.bool b) (.bool b) := fun l l' z z' r _ h => by cases h; exact .bool b
theorem ShZ.str (N : Nat) (s : List UInt8) : ShZ N (.str s) (.str s) := fun l l' z z' r _ h => by cases h; exact .str s
theorem ShZ.nil (N : Nat) : ShZ N .nil .nil := fun l l' z z' r _ h => by cases h; exact .nil
theorem ShZ.sl (N b i n : Nat) : ShZ N (.sl b i n) (.sl (N + b) i n) := fun l l' z z' r hl h => by
  cases h with
  | sl h1 h2 h3 h4 => exact .sl (hl _ _ h1) h2 h3 h4
  | sl0 h1 => exact .sl0 (hl _ _ h1)
theorem ShZ.ptr (N b i n : Nat) : ShZ N (.ptr b i n) (.ptr (N + b) i n) := fun l l' z z' r hl h => by
  cases h with
  | ptr h1 h2 => exact .ptr (hl _ _ h1) h2
theorem ShZ.agg {N : Nat} {l0 l : List AV} (hl : l.length = l0.length) (h : ∀ (i : Nat) v0 v, l0[i]? = some v0 → l[i]? = some v → ShZ N v0 v) : ShZ N (.agg l0) (.agg l) := fun m m' z z' r hm hr => by
  cases hr with
  | agg hl' h' =>
    refine .agg (hl.trans hl') fun i v r hv hr => ?_
    have hi := (List.getElem?_eq_some_iff.1 hv).1
    have e := List.getElem?_eq_getElem (hl ▸ hi)
    exact h i _ v e hv m m' z z' r hm (h' i _ r e hr)
theorem ShZ.tup {N : Nat} {l0 l : List AV} (hl : l.length = l0.length) (h : ∀ (i : Nat) v0 v, l0[i]? = some v0 → l[i]? = some v → ShZ N v0 v) : ShZ N (.tup l0) (.tup l) := fun m m' z z' r hm hr => by
  cases hr with
  | tup hl' h' =>
    refine .tup (hl.trans hl') fun i v r hv hr => ?_
    have hi := (List.getElem?_eq_some_iff.1 hv).1
    have e := List.getElem?_eq_getElem (hl ▸ hi)
    exact h i _ v e hv m m' z z' r hm (h' i _ r e hr)

/-- Blocks N places further on. -/
structure ShB (N : Nat) (A0 A : Blk) : Prop where
  own : A.own = A0.own
  sz : A.sz = A0.sz
  len : A.rows.length = A0.rows.length
  rows : ∀ (i : Nat) row row0, A.rows[i]? = some row → A0.rows[i]? = some row0 → row.length = row0.length ∧ ∀ (j : Nat) v v0, row[j]? = some v → row0[j]? = some v0 → ShZ N v0 v
def ShH (N : Nat) : AHeap → AHeap → Prop
  | [], [] => True
  | none :: l, none :: l' => ShH N l l'
  | some A0 :: l, some A :: l' => ShB N A0 A ∧ ShH N l l'
  | _, _ => False
theorem ShH.len {N : Nat} : ∀ {l l' : AHeap}, ShH N l l' → l'.length = l.length
  | [], [], _ => rfl
  | none :: l, none :: l', h => by simp [ShH.len (l := l) (l' := l') h]
  | some A0 :: l, some A :: l', h => by simp [ShH.len (l := l) (l' := l') h.2]
  | [], _ :: _, h => h.elim
  | none :: _, [], h => h.elim
  | some _ :: _, [], h => h.elim
  | none :: _, some _ :: _, h => h.elim
  | some _ :: _, none :: _, h => h.elim
theorem ShH.get {N : Nat} : ∀ {l l' : AHeap}, ShH N l l' → ∀ (b : Nat) (A : Blk), l'[b]? = some (some A) → ∃ A0, l[b]? = some (some A0) ∧ ShB N A0 A
  | [], [], _, b, A, hb => by simp at hb
  | none :: l, none :: l', h, b, A, hb => by
    cases b with
    | zero => simp at hb
    | succ b => simpa using ShH.get (l := l) (l' := l') h b A (by simpa using hb)
  | some A0 :: l, some A1 :: l', h, b, A, hb => by
    cases b with
    | zero => simp at hb; subst hb; exact ⟨A0, by simp, h.1⟩
    | succ b => simpa using ShH.get (l := l) (l' := l') h.2 b A (by simpa using hb)
  | [], _ :: _, h, _, _, _ => h.elim
  | none :: _, [], h, _, _, _ => h.elim
  | some _ :: _, [], h, _, _, _ => h.elim
  | none :: _, some _ :: _, h, _, _, _ => h.elim
  | some _ :: _, none :: _, h, _, _, _ => h.elim

/-- A contract that leaves new blocks, in a greater heap; one's own slices may be lent. -/
theorem AC.lend {P : Program} {f : FuncId} {args args0 : List AV} {v0 v : AV} {J0 J : AHeap} {H : AHeap} (hargs : LendL H args args0) (h : AC P f args0 [] fun v' H' => v' = v0 ∧ H' = J0) (hv : ShZ H.length v0 v) (hJ : ShH H.length J0 J) :
    AC P f args H fun v' H' => v' = v ∧ H' = H ++ J := by
  refine ⟨h.1, fun m w vs hm hvs => ?_⟩
  refine (h.2 _ w vs (hrelAll w) (hargs.rel hm hvs)).mono fun e w' ⟨v1, r, m1, H1, he, k1, k2, k3, k4, k5⟩ => ?_
  subst k4; subst k5
  obtain ⟨l1, z1⟩ := m1
  have hold : ∀ r, r < w.heap.size → w'.heap[r]? = w.heap[r]? := fun r hr => k3.block r hr img_nil
  have hm' : HRel m H w' := hm.world hold
  have hnew : ∀ (b : Nat) (B : MB), l1[b]? = some B → B.virt = false → w.heap.size ≤ B.blk := fun b B hB hv => by
    rcases k3.new b B hB hv with q | q | q
    · simp at q
    · exact absurd q img_nil
    · exact q
  have hshift : ∀ (b : Nat) (B : MB), l1[b]? = some B → (m.l ++ l1)[H.length + b]? = some B := fun b B hB => by
    rw [List.getElem?_append_right (by rw [hm.len]; omega), hm.len]
    simpa using hB
  have hle : MLe m ⟨m.l ++ l1, m.z⟩ := ⟨fun b B h => by
    show (m.l ++ l1)[b]? = some B
    rw [List.getElem?_append_left (List.getElem?_eq_some_iff.1 h).1]; exact h, fun _ _ h => h⟩
  have hl1 : l1.length = J.length := by rw [hJ.len]; exact k1.len
  -- the two halves
  have hleft : ∀ (b : Nat) (A : Blk), b < H.length → (H ++ J)[b]? = some (some A) → H[b]? = some (some A) := fun b A hlt hb => by rwa [List.getElem?_append_left hlt] at hb
  have hleftm : ∀ (b : Nat) (B : MB), b < H.length → (m.l ++ l1)[b]? = some B → m.l[b]? = some B := fun b B hlt hb => by rwa [List.getElem?_append_left (by rw [hm.len]; exact hlt)] at hb
  have hright : ∀ (b : Nat) (A : Blk), H.length ≤ b → (H ++ J)[b]? = some (some A) → J[b - H.length]? = some (some A) := fun b A hle hb => by rwa [List.getElem?_append_right hle] at hb
  have hrightm : ∀ (b : Nat) (B : MB), H.length ≤ b → (m.l ++ l1)[b]? = some B → l1[b - H.length]? = some B := fun b B hle hb => by rwa [List.getElem?_append_right (by rw [hm.len]; exact hle), hm.len] at hb
  have himg : ∀ r, Img ⟨m.l ++ l1, m.z⟩ (H ++ J) r → Img m H r ∨ w.heap.size ≤ r := fun r ⟨b, A, B, h1, h2, h3, h4, h5⟩ => by
    rcases Nat.lt_or_ge b H.length with hlt | hge
    · exact .inl ⟨b, A, B, hleft b A hlt h1, hleftm b B hlt h2, h3, h4, h5⟩
    · right; rw [← h5]; exact hnew _ B (hrightm b B hge h2) h4
  refine ⟨v, r, ⟨m.l ++ l1, m.z⟩, H ++ J, he, ⟨by simp [hm.len, hl1], fun b A hb => ?_, hm'.fz, fun b A B hb hB ho hv => ?_, fun b b' A A' B B' hne hb hb' hB hB' ho hv hv' => ?_⟩, hv _ _ _ _ r hshift k2, ⟨hle, k3.os, k3.tape, k3.output, k3.size, himg, fun b B hb hv => ?_, fun r c hr => .inl hr, fun b hb => dead_add hb, fun r hr _ => hold r hr⟩, rfl, rfl⟩
  · rcases Nat.lt_or_ge b H.length with hlt | hge
    · obtain ⟨B, hB, hR⟩ := hm'.blk b A (hleft b A hlt hb)
      exact ⟨B, hle.l b B hB, hR.keep hle fun _ => rfl⟩
    · obtain ⟨A0, g1, g2⟩ := hJ.get _ A (hright b A hge hb)
      obtain ⟨B, hB, hR⟩ := k1.blk _ A0 g1
      have hB' := hshift _ B hB
      rw [show H.length + (b - H.length) = b by omega] at hB'
      refine ⟨B, hB', g2.sz.trans hR.sz, fun hv => ?_, by rw [g2.len]; exact hR.max, fun hv => ?_, hR.ty⟩
      · have := hR.virt hv
        have hl := g2.len
        rw [this] at hl
        exact List.eq_nil_of_length_eq_zero hl
      · obtain ⟨c, e, fr, q1, q2, q3, q4, q5⟩ := hR.real hv
        refine ⟨c, e, fr, q1, q2, by rw [g2.len]; exact q3, fun i row hi => ?_, fun ho => q5 (by rw [← g2.own]; exact ho)⟩
        have hi' : i < A0.rows.length := by rw [← g2.len]; exact (List.getElem?_eq_some_iff.1 hi).1
        have e1 := List.getElem?_eq_getElem hi'
        obtain ⟨l1', l2⟩ := g2.rows i row _ hi e1
        obtain ⟨l3, l4⟩ := q4 i _ e1
        refine ⟨l1'.trans l3, fun j v hj => ?_⟩
        have hj' : j < (A0.rows[i]).length := by rw [← l1']; exact (List.getElem?_eq_some_iff.1 hj).1
        have e2 := List.getElem?_eq_getElem hj'
        obtain ⟨r, r1, r2⟩ := l4 j _ e2
        exact ⟨r, r1, l2 j v _ hj e2 _ _ _ _ r hshift r2.1, r2.2⟩
  · rcases Nat.lt_or_ge b H.length with hlt | hge
    · exact hm.fzA b A B (hleft b A hlt hb) (hleftm b B hlt hB) ho hv
    · exact hm.zlt (hnew _ B (hrightm b B hge hB) hv)
  · rcases Nat.lt_or_ge b H.length with hlt | hge <;> rcases Nat.lt_or_ge b' H.length with hlt' | hge'
    · exact hm.apart b b' A A' B B' hne (hleft b A hlt hb) (hleft b' A' hlt' hb') (hleftm b B hlt hB) (hleftm b' B' hlt' hB') ho hv hv'
    · have h1 := hm.lt (hget_eq.2 (hleft b A hlt hb)) (hleftm b B hlt hB) hv
      have h2 := hnew _ B' (hrightm b' B' hge' hB') hv'
      omega
    · have h1 := hm.lt (hget_eq.2 (hleft b' A' hlt' hb')) (hleftm b' B' hlt' hB') hv'
      have h2 := hnew _ B (hrightm b B hge hB) hv
      omega
    · obtain ⟨A0, g1, g2⟩ := hJ.get _ A (hright b A hge hb)
      obtain ⟨A0', g1', g2'⟩ := hJ.get _ A' (hright b' A' hge' hb')
      exact k1.apart _ _ A0 A0' B B' (by omega) g1 g1' (hrightm b B hge hB) (hrightm b' B' hge' hB') (by rw [← g2.own]; exact ho) hv hv'
  · rcases Nat.lt_or_ge b H.length with hlt | hge
    · exact .inl (hleftm b B hlt hb)
    · exact .inr (.inr (hnew _ B (hrightm b B hge hb) hv))

end Go.Ab
/- The abstract machine: operations. -/
set_option linter.unusedVariables false
set_option linter.unusedSimpArgs false
namespace Go.Ab

def ofC : Value → AV
  | .bool b => .bool b
  | .int k n => .int k n
  | .string s => .str s.data.toList
  | .pointer none => .nilp
  | .slice none 0 0 => .nil
  | .nilFunc => .nilf
  | .nilIface => .nili
  | _ => .un
def ofV : Value → AV
  | .agg cs => .agg (cs.toList.map ofC)
  | .tuple cs => .tup (cs.toList.map ofC)
  | v => ofC v
theorem ofC_rel (m : MMap) (v : Value) : Rel m (ofC v) v := by
  unfold ofC
  split <;> first | exact .un _ | constructor
theorem ofV_rel (m : MMap) (v : Value) : Rel m (ofV v) v := by
  unfold ofV
  split
  · rename_i cs
    have := Rel.agg (m := m) (l := cs.toList.map ofC) (cs := cs.toList) (by simp) (fun i v r hv hr => by
      simp at hv; obtain ⟨u, hu, rfl⟩ := hv; rw [Array.getElem?_toList, hu] at hr; injection hr with hr; subst hr; exact ofC_rel m u)
    simpa using this
  · rename_i cs
    have := Rel.tup (m := m) (l := cs.toList.map ofC) (cs := cs.toList) (by simp) (fun i v r hv hr => by
      simp at hv; obtain ⟨u, hu, rfl⟩ := hv; rw [Array.getElem?_toList, hu] at hr; injection hr with hr; subst hr; exact ofC_rel m u)
    simpa using this
  · exact ofC_rel m _

abbrev Env := Nat → AV
def upd (e : Env) (d : Nat) (v : AV) : Env := fun t => if t = d then v else e t
def eo (e : Env) : Operand → AV
  | .tmp t => e t
  | .const v => ofV v
  | .global _ => .un
  | .func f => .fn f []
def ERel (m : MMap) (e : Env) (a : Act) : Prop := ∀ t, Rel m (e t) (a.tmps.getD t undef)
theorem eo_rel {m : MMap} {e : Env} {a : Act} (h : ERel m e a) (x : Operand) : Rel m (eo e x) (a.eval x) := by
  cases x with
  | tmp t => exact h t
  | const v => exact ofV_rel m v
  | global g => exact .un _
  | func f => 
    have := Rel.fn (m := m) (f := f) (cap := []) (caps := []) rfl (fun i v r h => by simp at h)
    simpa [eo, Act.eval] using this
theorem ERel.mono {m m' : MMap} (hm : MLe m m') {e : Env} {a : Act} (h : ERel m e a) : ERel m' e a := fun t => (h t).mono hm
theorem ERel.put {m : MMap} {e : Env} {a : Act} (h : ERel m e a) {d : Nat} (hd : d < a.tmps.size) {v : AV} {r : Value} (hv : Rel m v r) : ERel m (upd e d v) (a.put (some d) r) := by
  intro t
  simp only [Act.put, upd]
  split
  · rename_i he; subst he
    simpa [Array.getElem?_setIfInBounds, hd, Array.getD_eq_getD_getElem?] using hv
  · rename_i he
    have := h t
    rwa [Array.getD_eq_getD_getElem?, Array.getElem?_setIfInBounds_ne (Ne.symm he), ← Array.getD_eq_getD_getElem?]

/-! ### Types -/
def szO (P : Program) (T : TypeId) : Option Nat := (P.info? T).map (·.size)
def zeroO (P : Program) (T : TypeId) : Option AV := ((P.info? T).bind (·.zero)).map ofV
def isAggT (P : Program) (T : TypeId) : Option Bool := (P.underlying T).map fun | .struct _ | .array _ _ => true | _ => false
def elemT (P : Program) (T : TypeId) : Option TypeId := match P.underlying T with | some (.slice e) => some e | _ => none
def fieldT (P : Program) (S : TypeId) (f : Nat) : Option (TypeId × Nat) := match P.underlying S with | some (.struct fs) => (fs[f]?).map fun x => (x.type, x.offset) | _ => none
def isStrT (P : Program) (T : TypeId) : Bool := match P.underlying T with | some .string => true | _ => false

theorem run_sizeOf {P : Program} {T n : Nat} (h : szO P T = some n) (w : World) : (sizeOf T).run P w = .ok n w := by
  unfold szO at h
  cases hi : P.info? T with
  | none => rw [hi] at h; simp at h
  | some i => rw [hi] at h; simp at h; simp [sizeOf, typeInfo, hi, h]
theorem run_isAgg {P : Program} {T : Nat} {b : Bool} (h : isAggT P T = some b) (w : World) : (isAgg T).run P w = .ok b w := by
  unfold isAggT at h
  cases hi : P.underlying T with
  | none => rw [hi] at h; simp at h
  | some d => rw [hi] at h; simp at h; simp [isAgg, run_underlying hi]; cases d <;> simp_all
theorem elemT_under {P : Program} {T e : Nat} (h : elemT P T = some e) : P.underlying T = some (.slice e) := by
  unfold elemT at h
  split at h
  · rename_i d hd; injection h with h; subst h; exact hd
  · simp at h
theorem fieldT_under {P : Program} {S f : Nat} {x : TypeId × Nat} (h : fieldT P S f = some x) : ∃ fs F, P.underlying S = some (.struct fs) ∧ fs[f]? = some F ∧ F.type = x.1 ∧ F.offset = x.2 := by
  unfold fieldT at h
  split at h
  · rename_i fs hfs
    cases hf : fs[f]? with
    | none => rw [hf] at h; simp at h
    | some F => rw [hf] at h; simp at h; subst h; exact ⟨fs, F, hfs, hf, rfl, rfl⟩
  · simp at h

/-! ### Pure operations -/
def APart (P : Program) (T : TypeId) (l : List AV) (off : Nat) (K : AV → Prop) : Prop :=
  match isAggT P T, szO P T with
  | some true, some n => off + n ≤ l.length ∧ K (.agg ((l.drop off).take n))
  | some false, _ => match l[off]? with | some v => K v | none => False
  | _, _ => False

def acmp (op : BinOp) (a b : Int) : Option Bool :=
  match op with
  | .eql => some (a == b) | .neq => some (a != b) | .lss => some (decide (a < b)) | .leq => some (decide (a ≤ b)) | .gtr => some (decide (a > b)) | .geq => some (decide (a ≥ b))
  | _ => none
def aeq1 : AV → AV → Option Bool
  | .int k a, .int k' b => if k = k' then some (a == b) else none
  | .bool a, .bool b => some (a == b)
  | .str a, .str b => some (a == b)
  | _, _ => none
def aeqL : List AV → List AV → Option Bool
  | [], [] => some true
  | x :: xs, y :: ys => match aeq1 x y, aeqL xs ys with | some a, some b => some (a && b) | _, _ => none
  | _, _ => none
/-- The type is compared cell by cell. -/
def EqT (P : Program) (T : TypeId) : Prop :=
  P.eqGuardType P.depth T = false ∧ ∀ (m m' : MMap) (xs ys : List AV) (rs ss : List Value) (b : Bool) (w : World), aeqL xs ys = some b → RelL m xs rs → RelL m' ys ss → szO P T = some xs.length →
    (Op.equal T (.agg rs.toArray) (.agg ss.toArray)).run P w = .ok b w

def abin (P : Program) (op : BinOp) (T : TypeId) (x y : AV) (K : AV → Prop) : Prop :=
  match x, y with
  | .int k a, .int k' b => k = k' ∧
    match op with
    | .add => K (.int k (k.wrap (a + b)))
    | .sub => K (.int k (k.wrap (a - b)))
    | .mul => K (.int k (k.wrap (a * b)))
    | .quo => b ≠ 0 ∧ K (.int k (k.wrap (a.tdiv b)))
    | .rem => b ≠ 0 ∧ K (.int k (a.tmod b))
    | .eql => K (.bool (a == b))
    | .neq => K (.bool (a != b))
    | .lss => K (.bool (decide (a < b)))
    | .leq => K (.bool (decide (a ≤ b)))
    | .gtr => K (.bool (decide (a > b)))
    | .geq => K (.bool (decide (a ≥ b)))
    | _ => False
  | .str a, .str b =>
    match op with
    | .add => a.length + b.length ≤ 9223372036854775807 ∧ K (.str (a ++ b))
    | .eql => K (.bool (a == b))
    | .neq => K (.bool (!(a == b)))
    | .lss => K (.bool (Op.bytesLess a b))
    | .leq => K (.bool (Op.bytesLess a b || a == b))
    | .gtr => K (.bool !(Op.bytesLess a b || a == b))
    | .geq => K (.bool !(Op.bytesLess a b))
    | _ => False
  | .bool a, .bool b => P.underlying T = some .bool ∧
    match op with
    | .eql => K (.bool (a == b))
    | .neq => K (.bool (!(a == b)))
    | _ => False
  | .agg l, .agg l' => EqT P T ∧ szO P T = some l.length ∧
    match op, aeqL l l' with
    | .eql, some b => K (.bool b)
    | .neq, some b => K (.bool (!b))
    | _, _ => False
  | .ifc t v, .nili => (match P.underlying T with | some (.interface _) => True | _ => False) ∧ match op with
    | .eql => K (.bool false)
    | .neq => K (.bool true)
    | _ => False
  | .ptr b i j, .nilp => (match P.underlying T with | some (.pointer _) => True | _ => False) ∧ match op with
    | .eql => K (.bool false)
    | .neq => K (.bool true)
    | _ => False
  | .nilp, .nilp => (match P.underlying T with | some (.pointer _) => True | _ => False) ∧ match op with
    | .eql => K (.bool true)
    | .neq => K (.bool false)
    | _ => False
  | _, _ => False

def cst : Operand → Bool
  | .const _ => true
  | _ => false
/-- Two nil interfaces may be compared if one is the literal nil. -/
def abinO (P : Program) (op : BinOp) (T : TypeId) (c : Bool) (x y : AV) (K : AV → Prop) : Prop :=
  match x, y, c with
  | .nili, .nili, true => (match P.underlying T with | some (.interface _) => True | _ => False) ∧ match op with
    | .eql => K (.bool true)
    | .neq => K (.bool false)
    | _ => False
  | _, _, _ => abin P op T x y K

def aun (op : UnOp) (x : AV) (K : AV → Prop) : Prop :=
  match op, x with
  | .neg, .int k n => K (.int k (k.wrap (0 - n)))
  | .not, .bool b => K (.bool (!b))
  | _, _ => False

def alen : AV → Option Nat
  | .str s => some s.length
  | .nil => some 0
  | .sl _ _ n => some n
  | .lst _ rows => some rows.length
  | .bf _ _ n => some n
  | _ => none

def aminmax (mx : Bool) : List AV → (K : AV → Prop) → Prop
  | [.int k a, .int _ b], K => K (.int k (if mx then (if b > a then b else a) else (if b < a then b else a)))
  | [.int k a, .int _ b, .int _ c], K => K (.int k (if mx then (if c > (if b > a then b else a) then c else (if b > a then b else a)) else (if c < (if b < a then b else a) then c else (if b < a then b else a))))
  | _, _ => False

def aint : Option AV → Option Int
  | some (.int _ n) => some n
  | _ => none

/-- The rows of a block are of this size. -/
def szIs (P : Program) (H : AHeap) (b : Nat) (e : TypeId) : Prop := match hget H b with | some A => szO P e = some A.sz | none => False

def aslice (P : Program) (H : AHeap) (T : TypeId) (x : AV) (lo hi : Option AV) (K : AV → Prop) : Prop :=
  match x with
  | .str s => isStrT P T = true ∧
    match lo, hi with
    | some (.int _ l), some (.int _ h) => (0 ≤ l ∧ l ≤ h ∧ h ≤ s.length) ∧ K (.str ((s.take h.toNat).drop l.toNat))
    | none, some (.int _ h) => (0 ≤ h ∧ h ≤ s.length) ∧ K (.str (s.take h.toNat))
    | some (.int _ l), none => (0 ≤ l ∧ l ≤ s.length) ∧ K (.str (s.drop l.toNat))
    | _, _ => False
  | .sl b i n => match elemT P T with
    | none => False
    | some e => match lo, hi with
      | some (.int _ l), some (.int _ h) => (0 ≤ l ∧ l ≤ h ∧ h ≤ n) ∧ szIs P H b e ∧ K (.sl b (i + l.toNat) (h.toNat - l.toNat))
      | none, some (.int _ h) => (0 ≤ h ∧ h ≤ n) ∧ szIs P H b e ∧ K (.sl b i h.toNat)
      | some (.int _ l), none => (0 ≤ l ∧ l ≤ n) ∧ szIs P H b e ∧ K (.sl b (i + l.toNat) (n - l.toNat))
      | _, _ => False
  | .lst sz rows => match elemT P T with
    | none => False
    | some e => szO P e = some sz ∧ match lo, hi with
      | some (.int _ l), some (.int _ h) => (0 ≤ l ∧ l ≤ h ∧ h ≤ rows.length) ∧ K (.lst sz ((rows.take h.toNat).drop l.toNat))
      | none, some (.int _ h) => (0 ≤ h ∧ h ≤ rows.length) ∧ K (.lst sz (rows.take h.toNat))
      | some (.int _ l), none => (0 ≤ l ∧ l ≤ rows.length) ∧ K (.lst sz (rows.drop l.toNat))
      | _, _ => False
  | _ => False

def fillA (place : Nat → Option (Nat × Nat)) (cells : List AV) : List (Nat × AV) → Option (List AV)
  | [] => some cells
  | (i, v) :: rest => match place i with
    | none => none
    | some (off, size) => if v.cells.length ≠ size ∨ off + v.cells.length > cells.length then none else fillA place (splice cells off v.cells) rest

def APure (P : Program) (H : AHeap) (ev : Operand → AV) (op : Op) (K : AV → Prop) : Prop :=
  match op with
  | .move x | .assign x => K (ev x)
  | .pick c a b => match ev c with
    | .bool t => (t = true → K (ev a)) ∧ (t = false → K (ev b))
    | _ => False
  | .nilCheck x => match ev x with
    | .ptr b i j => K (.ptr b i j)
    | .cptr row j => K (.cptr row j)
    | .bptr e b => K (.bptr e b)
    | _ => False
  | .binOp op T x y _ => abinO P op T (cst x || cst y) (ev x) (ev y) K
  | .unOp op _ x => aun op (ev x) K
  | .convert s d x => match P.underlying s, P.underlying d, ev x with
    | some (.int _), some (.int k), .int _ n => K (.int k (k.wrap n))
    | some .string, some .string, .str s => K (.str s)
    | _, _, _ => False
  | .makeInterface T x => (match P.underlying T with | some (.interface _) => False | none => False | _ => True) ∧ K (.ifc T (ev x))
  | .makeFunc (.func f) first caps => first.size = 0 ∧ K (.fn f (caps.toList.map ev))
  | .slice T x lo hi none => aslice P H T (ev x) (lo.map ev) (hi.map ev) K
  | .fieldAddr S x f => match ev x, fieldT P S f with
    | .ptr b i j, some (t, off) => (match szO P t with | some n => n ≠ 0 | none => False) ∧ K (.ptr b i (j + off))
    | .cptr row j, some (t, off) => (match szO P t with | some n => n ≠ 0 | none => False) ∧ K (.cptr row (j + off))
    | .bptr e b, some (t, off) => (match szO P t with | some n => n ≠ 0 | none => False) ∧ K (.ptr b 0 off)
    | _, _ => False
  | .field S x f => match ev x, fieldT P S f with
    | .agg l, some (t, off) => APart P t l off K
    | _, _ => False
  | .indexAddr T x ix => match ev x, ev ix, elemT P T with
    | .sl b i n, .int _ z, some e => (0 ≤ z ∧ z < n) ∧ szIs P H b e ∧ K (.ptr b (i + z.toNat) 0)
    | .lst sz rows, .int _ z, some e => (0 ≤ z ∧ z < rows.length) ∧ szO P e = some sz ∧ K (.cptr (rows.getD z.toNat []) 0)
    | _, _, _ => False
  | .index T x ix => match ev x, ev ix with
    | .str s, .int _ z => isStrT P T = true ∧ (0 ≤ z ∧ z < s.length) ∧ K (.int .u8 (s.getD z.toNat 0).toNat)
    | _, _ => False
  | .extract x i => match ev x with
    | .tup l => match l[i]? with
      | some v => K v
      | none => False
    | _ => False
  | .build T parts => match zeroO P T, P.underlying T with
    | some (.agg z), some (.struct fs) => match (fs.toList.map fun f => szO P f.type).all (·.isSome), fillA (fun i => (fs[i]?).bind fun f => (szO P f.type).map fun n => (f.offset, n)) z (parts.toList.map fun p => (p.1, ev p.2)) with
      | true, some l => (∀ p ∈ parts.toList, ev p.2 ≠ .un) ∧ K (.agg l)
      | _, _ => False
    | _, _ => False
  | .call { callee := .builtin .len, args, argTypes } => match args.toList, argTypes.toList with
    | [x], [T] => (match P.underlying T, ev x with | some .string, .str _ => True | some (.slice _), .nil => True | some (.slice _), .sl _ _ _ => True | some (.slice _), .lst _ _ => True | some (.slice _), .bf _ _ _ => True | _, _ => False) ∧ match alen (ev x) with
      | some n => K (.int .i64 n)
      | none => False
    | _, _ => False
  | .call { callee := .builtin .min, args, .. } => aminmax false (args.toList.map ev) K
  | .call { callee := .builtin .max, args, .. } => aminmax true (args.toList.map ev) K
  | _ => False

end Go.Ab
/- The abstract machine: pure operations are what the model's are. -/
set_option linter.unusedVariables false
set_option linter.unusedSimpArgs false
namespace Go.Ab

theorem fold_set (off : Nat) : ∀ (cs : List Value) (k : Nat) (c : Array Value), off + k + cs.length ≤ c.size →
    ((cs.zipIdx k).foldl (fun (a : Array Value) (p : Value × Nat) => a.setIfInBounds (off + p.2) p.1) c).size = c.size ∧
    ∀ j, ((cs.zipIdx k).foldl (fun (a : Array Value) (p : Value × Nat) => a.setIfInBounds (off + p.2) p.1) c)[j]? = if off + k ≤ j ∧ j < off + k + cs.length then cs[j - (off + k)]? else c[j]?
  | [], k, c, h => ⟨rfl, fun j => by simp; intro h1 h2; omega⟩
  | v :: r, k, c, h => by
    simp only [List.length_cons] at h
    simp only [List.zipIdx_cons, List.foldl_cons]
    obtain ⟨h1, h2⟩ := fold_set off r (k + 1) (c.setIfInBounds (off + k) v) (by simp; omega)
    refine ⟨by rw [h1]; simp, fun j => ?_⟩
    rw [h2 j]
    simp only [List.length_cons]
    by_cases a1 : j = off + k
    · subst a1
      rw [if_neg (by omega), if_pos (by omega)]
      have hlt : off + k < c.size := by omega
      simp [Array.getElem?_setIfInBounds, hlt]
    · by_cases a2 : off + (k + 1) ≤ j ∧ j < off + (k + 1) + r.length
      · rw [if_pos a2, if_pos (by omega), show j - (off + k) = (j - (off + (k + 1))) + 1 by omega]
        simp
      · rw [if_neg a2, if_neg (by omega), Array.getElem?_setIfInBounds_ne (by omega)]

theorem spliceV_get {row vs : List Value} {j k : Nat} (h : j + vs.length ≤ row.length) : (row.take j ++ vs ++ row.drop (j + vs.length))[k]? = if j ≤ k ∧ k < j + vs.length then vs[k - j]? else row[k]? := by
  have hj : (row.take j).length = j := by simp; omega
  split
  · rename_i hk
    rw [List.append_assoc, List.getElem?_append_right (by omega), hj, List.getElem?_append_left (by omega)]
  · rename_i hk
    by_cases h1 : k < j
    · rw [List.append_assoc, List.getElem?_append_left (by omega), List.getElem?_take]; simp [h1]
    · rw [List.getElem?_append_right (by simp; omega), List.getElem?_drop]
      congr 1
      simp
      omega

theorem RelL.splice {m : MMap} {row vs : List AV} {cr cv : List Value} (h : RelL m row cr) (hv : RelL m vs cv) (j : Nat) : RelL m (splice row j vs) (cr.take j ++ cv ++ cr.drop (j + cv.length)) := by
  unfold Ab.splice
  rw [hv.1]
  exact ((h.take j).append hv).append (h.drop _)

theorem fill_rel {m : MMap} {place : Nat → Option (Nat × Nat)} : ∀ {parts : List (Nat × AV)} {rparts : List (Nat × Value)} {cells l : List AV} {rc : List Value}, (∀ (i : Nat) p q, parts[i]? = some p → rparts[i]? = some q → p.1 = q.1 ∧ p.2 ≠ .un ∧ Rel m p.2 q.2) → parts.length = rparts.length →
    RelL m cells rc → fillA place cells parts = some l → ∃ rl : List Value, Instr.fill place rc.toArray rparts = some rl.toArray ∧ RelL m l rl
  | [], [], cells, l, rc, _, _, hc, h => by simp [fillA] at h; subst h; exact ⟨rc, rfl, hc⟩
  | [], _ :: _, _, _, _, _, hl, _, _ => by simp at hl
  | _ :: _, [], _, _, _, _, hl, _, _ => by simp at hl
  | p :: ps, q :: qs, cells, l, rc, hp, hl, hc, h => by
    obtain ⟨h1, h2, h3⟩ := hp 0 p q rfl rfl
    obtain ⟨i, v⟩ := p
    obtain ⟨i', rv⟩ := q
    simp only at h1; subst h1
    simp only [fillA] at h
    cases hpl : place i with
    | none => rw [hpl] at h; simp at h
    | some x =>
      obtain ⟨off, size⟩ := x
      rw [hpl] at h; simp only at h
      split at h
      · simp at h
      · rename_i hcond
        have hcells := h3.cells h2
        have e1 : rv.cells.size = v.cells.length := by rw [hcells.1]; simp
        have e2 : rc.length = cells.length := hc.1.symm
        have hcond' : ¬ (rv.cells.size ≠ size ∨ off + rv.cells.size > rc.toArray.size) := by rw [e1]; simpa [e2] using hcond
        have hs := hc.splice hcells off
        obtain ⟨rl, hrl, hrel⟩ := fill_rel (m := m) (place := place) (parts := ps) (rparts := qs) (fun i p q hp' hq' => hp (i + 1) p q (by simpa using hp') (by simpa using hq')) (by simpa using hl) hs h
        refine ⟨rl, ?_, hrel⟩
        simp only [Instr.fill, hpl]
        have hif : (decide (rv.cells.size ≠ size) || decide (off + rv.cells.size > rc.toArray.size)) = false := by simpa using hcond'
        rw [hif]
        simp only [Bool.false_eq_true, if_false]
        rw [← hrl]
        congr 1
        have hle : off + 0 + rv.cells.toList.length ≤ rc.toArray.size := by have := hcond'; simp at this ⊢; omega
        obtain ⟨g1, g2⟩ := fold_set off rv.cells.toList 0 rc.toArray hle
        apply Array.ext'
        apply List.ext_getElem?
        intro j
        have e3 : Array.foldl (fun (cs : Array Value) (x : Value × Nat) => cs.setIfInBounds (off + x.snd) x.fst) rc.toArray rv.cells.zipIdx = (rv.cells.toList.zipIdx 0).foldl (fun (a : Array Value) (p : Value × Nat) => a.setIfInBounds (off + p.2) p.1) rc.toArray := by
          rw [← Array.foldl_toList]; simp
        rw [e3, Array.getElem?_toList, g2 j]
        simp only [Nat.add_zero, List.getElem?_toArray]
        rw [spliceV_get (by simpa using hle)]

theorem RelL.map {m : MMap} {α : Type} (l : List α) (f : α → AV) (g : α → Value) (h : ∀ x ∈ l, Rel m (f x) (g x)) : RelL m (l.map f) (l.map g) := by
  refine ⟨by simp, fun i v r hv hr => ?_⟩
  simp at hv hr
  obtain ⟨x, hx, rfl⟩ := hv
  obtain ⟨y, hy, rfl⟩ := hr
  rw [hx] at hy; injection hy with hy; subst hy
  exact h x (List.mem_of_getElem? hx)

theorem apart_sound {P : Program} {T off : Nat} {l : List AV} {K : AV → Prop} (h : APart P T l off K) : ∃ v, K v ∧ ∀ (m : MMap) (cs : List Value), RelL m l cs → ∃ r, Rel m v r ∧ ∀ w, (part T cs.toArray off).run P w = .ok r w := by
  unfold APart at h
  split at h
  · rename_i n h1 h2
    refine ⟨_, h.2, fun m cs hcs => ⟨.agg ((cs.drop off).take n).toArray, ?_, fun w => ?_⟩⟩
    · have := (hcs.drop off).take n
      exact .agg this.1 this.2
    · simp [part, run_isAgg h1, run_sizeOf h2]
  · rename_i n h1
    split at h
    · rename_i v hv
      refine ⟨v, h, fun m cs hcs => ?_⟩
      obtain ⟨r, hr1, hr2⟩ := hcs.get hv
      exact ⟨r, hr2, fun w => by simp [part, run_isAgg h1, hr1]⟩
    · exact h.elim
  · exact h.elim

theorem bytes_eq (a b : List UInt8) : ((⟨a.toArray⟩ : ByteArray).toList == (⟨b.toArray⟩ : ByteArray).toList) = (a == b) := by
  have h : ∀ l : List UInt8, (⟨l.toArray⟩ : ByteArray).toList = l := fun l => by
    rw [Go.ByteArray.toList_eq]
  rw [h, h]

theorem str_list (l : List UInt8) : (⟨l.toArray⟩ : ByteArray).toList = l := by rw [Go.ByteArray.toList_eq]
theorem str_size (l : List UInt8) : (⟨l.toArray⟩ : ByteArray).size = l.length := by simp [ByteArray.size]

/-- A value comes out, whatever the world. -/
def Yv (P : Program) (op : Op) (ρ : Operand → Value) (r : Value) : Prop := ∀ (o : Oper) (w : World), o.op = op → (execOp ρ o).run P w = .ok (.value r) w

theorem str_append (a b : List UInt8) : (⟨a.toArray⟩ : ByteArray) ++ (⟨b.toArray⟩ : ByteArray) = ⟨(a ++ b).toArray⟩ := by
  apply ByteArray.ext
  simp

theorem equal_bool {P : Program} {T : TypeId} (hu : P.underlying T = some .bool) (a b : Bool) (w : World) : (Op.equal T (.bool a) (.bool b)).run P w = .ok (a == b) w := by
  have h : ∀ d, (Op.equalIn (d + 1) T (.bool a) (.bool b)).run P w = .ok (a == b) w := fun d => by simp [Op.equalIn, run_underlying hu]
  exact h 9999
theorem equal_iface_nil {P : Program} {T : TypeId} {ms : Array (String × TypeId)} (hu : P.underlying T = some (.interface ms)) (t : TypeId) (v : Value) (w : World) : (Op.equal T (.iface t v) .nilIface).run P w = .ok false w := by
  have h : ∀ d, (Op.equalIn (d + 1) T (.iface t v) .nilIface).run P w = .ok false w := fun d => by simp [Op.equalIn, run_underlying hu]
  exact h 9999
theorem equal_nili {P : Program} {T : TypeId} {ms : Array (String × TypeId)} (hu : P.underlying T = some (.interface ms)) (w : World) : (Op.equal T .nilIface .nilIface).run P w = .ok true w := by
  have h : ∀ d, (Op.equalIn (d + 1) T .nilIface .nilIface).run P w = .ok true w := fun d => by simp [Op.equalIn, run_underlying hu]
  exact h 9999
theorem equal_ptr_nil {P : Program} {T e : TypeId} (hu : P.underlying T = some (.pointer e)) (a : Option Addr) (w : World) : (Op.equal T (.pointer a) (.pointer none)).run P w = .ok a.isNone w := by
  have h : ∀ d, (Op.equalIn (d + 1) T (.pointer a) (.pointer none)).run P w = .ok a.isNone w := fun d => by cases a <;> simp [Op.equalIn, run_underlying hu]
  exact h 9999

theorem abin_sound {P : Program} {op : BinOp} {T : TypeId} {x y : AV} {K : AV → Prop} (h : abin P op T x y K) : ∃ v, K v ∧ ∀ (m : MMap) (rx ry : Value), Rel m x rx → Rel m y ry →
    ∃ r, Rel m v r ∧ ∀ (xo yo : Operand) (w : World), (do eqGuard op T xo yo rx ry; binOp op T rx ry : Sem Value).run P w = .ok r w := by
  unfold abin at h
  split at h
  · rename_i k a k' b
    obtain ⟨rfl, h⟩ := h
    split at h
    all_goals first
      | exact h.elim
      | (obtain ⟨hb, h⟩ := h
         refine ⟨_, h, fun m rx ry hx hy => ?_⟩
         cases hx; cases hy
         exact ⟨_, .int _ _, fun xo yo w => by simp [eqGuard, binOp, Op.intDiv, hb]⟩)
      | (refine ⟨_, h, fun m rx ry hx hy => ?_⟩
         cases hx; cases hy
         first
           | exact ⟨_, .int _ _, fun xo yo w => by simp [eqGuard, binOp, Op.intArith]⟩
           | exact ⟨_, .bool _, fun xo yo w => by simp [eqGuard, binOp, Op.intCmp]⟩)
  · rename_i a b
    split at h
    all_goals first
      | exact h.elim
      | (obtain ⟨hb, h⟩ := h
         refine ⟨_, h, fun m rx ry hx hy => ?_⟩
         cases hx; cases hy
         refine ⟨.string ⟨(a ++ b).toArray⟩, .str _, fun xo yo w => ?_⟩
         have hn : ¬ ((((⟨a.toArray⟩ : ByteArray).size + (⟨b.toArray⟩ : ByteArray).size : Nat) : Int) > IntKind.i64.max) := by
           rw [str_size, str_size]; have : IntKind.i64.max = 9223372036854775807 := rfl; omega
         simp [eqGuard, binOp, Op.stringOp]
         rw [if_neg (by simpa using hn), str_append])
      | (refine ⟨_, h, fun m rx ry hx hy => ?_⟩
         cases hx; cases hy
         exact ⟨_, .bool _, fun xo yo w => by simp [eqGuard, binOp, Op.stringOp, str_list]⟩)
  · rename_i a b
    obtain ⟨hu, h⟩ := h
    split at h
    all_goals first
      | exact h.elim
      | (refine ⟨_, h, fun m rx ry hx hy => ?_⟩
         cases hx; cases hy
         exact ⟨_, .bool _, fun xo yo w => by simp [eqGuard, binOp, equal_bool hu]⟩)
  · rename_i l l'
    obtain ⟨⟨hg, he⟩, hs, h⟩ := h
    split at h
    · rename_i b hb
      refine ⟨_, h, fun m rx ry hx hy => ?_⟩
      cases hx with | agg hl h1 => ?_
      cases hy with | agg hl' h1' => ?_
      rename_i cs cs'
      exact ⟨_, .bool _, fun xo yo w => by simp [eqGuard, binOp, hg, he m m l l' cs cs' b w hb ⟨hl, h1⟩ ⟨hl', h1'⟩ hs]⟩
    · rename_i b hb
      refine ⟨_, h, fun m rx ry hx hy => ?_⟩
      cases hx with | agg hl h1 => ?_
      cases hy with | agg hl' h1' => ?_
      rename_i cs cs'
      exact ⟨_, .bool _, fun xo yo w => by simp [eqGuard, binOp, hg, he m m l l' cs cs' b w hb ⟨hl, h1⟩ ⟨hl', h1'⟩ hs]⟩
    · exact h.elim
  · rename_i t v
    obtain ⟨hu, h⟩ := h
    split at hu
    · rename_i d ms hd
      split at h
      all_goals first
        | exact h.elim
        | (refine ⟨_, h, fun m rx ry hx hy => ?_⟩
           cases hx; cases hy
           exact ⟨_, .bool _, fun xo yo w => by simp [eqGuard, binOp, equal_iface_nil hd]⟩)
    · exact hu.elim
  · obtain ⟨hu, h⟩ := h
    split at hu
    · rename_i d hd
      split at h
      all_goals first
        | exact h.elim
        | (refine ⟨_, h, fun m rx ry hx hy => ?_⟩
           cases hx; cases hy
           exact ⟨_, .bool _, fun xo yo w => by simp [eqGuard, binOp, equal_ptr_nil hd]⟩)
    · exact hu.elim
  · obtain ⟨hu, h⟩ := h
    split at hu
    · rename_i d hd
      split at h
      all_goals first
        | exact h.elim
        | (refine ⟨_, h, fun m rx ry hx hy => ?_⟩
           cases hx; cases hy
           exact ⟨_, .bool _, fun xo yo w => by simp [eqGuard, binOp, equal_ptr_nil hd]⟩)
    · exact hu.elim
  · exact h.elim

theorem abinO_sound {P : Program} {op : BinOp} {T : TypeId} {xo yo : Operand} {x y : AV} {K : AV → Prop} (h : abinO P op T (cst xo || cst yo) x y K) : ∃ v, K v ∧ ∀ (m : MMap) (rx ry : Value), Rel m x rx → Rel m y ry →
    ∃ r, Rel m v r ∧ ∀ (w : World), (do eqGuard op T xo yo rx ry; binOp op T rx ry : Sem Value).run P w = .ok r w := by
  unfold abinO at h
  split at h
  · rename_i hc
    have hc' : (∃ v, xo = .const v) ∨ ∃ v, yo = .const v := by
      cases xo <;> cases yo <;> simp_all [cst]
    obtain ⟨hu, h⟩ := h
    split at hu
    · rename_i d ms hd
      split at h
      all_goals first
        | exact h.elim
        | (refine ⟨_, h, fun m rx ry hx hy => ?_⟩
           cases hx; cases hy
           refine ⟨_, .bool _, fun w => ?_⟩
           rcases hc' with ⟨v, rfl⟩ | ⟨v, rfl⟩ <;> simp [eqGuard, binOp, equal_nili hd])
    · exact hu.elim
  · obtain ⟨v, h1, h2⟩ := abin_sound h
    refine ⟨v, h1, fun m rx ry hx hy => ?_⟩
    obtain ⟨r, h3, h4⟩ := h2 m rx ry hx hy
    exact ⟨r, h3, fun w => h4 xo yo w⟩

theorem aun_sound {op : UnOp} {x : AV} {K : AV → Prop} (h : aun op x K) : ∃ v, K v ∧ ∀ (m : MMap) (rx : Value), Rel m x rx → ∃ r, Rel m v r ∧ ∀ (P : Program) (w : World), (Op.unary op rx).run P w = .ok r w := by
  unfold aun at h
  split at h
  · exact ⟨_, h, fun m rx hx => by cases hx; exact ⟨_, .int _ _, fun P w => by simp [Op.unary, Op.intArith]⟩⟩
  · exact ⟨_, h, fun m rx hx => by cases hx; exact ⟨_, .bool _, fun P w => by simp [Op.unary]⟩⟩
  · exact h.elim

theorem aminmax_sound {mx : Bool} {l : List AV} {K : AV → Prop} (h : aminmax mx l K) : ∃ v, K v ∧ ∀ (m : MMap) (rs : List Value), RelL m l rs → ∃ r, Rel m v r ∧ ∀ (P : Program) (w : World) (at_ : Array TypeId) (ty : TypeId),
    (if mx then Builtin.max_ at_ ty rs.toArray else Builtin.min_ at_ ty rs.toArray).run P w = .ok r w := by
  unfold aminmax at h
  split at h
  · refine ⟨_, h, fun m rs hr => ?_⟩
    obtain ⟨hl, hr⟩ := hr
    match rs, hl with
    | [r0, r1], _ =>
      have h0 := hr 0 _ _ rfl rfl
      have h1 := hr 1 _ _ rfl rfl
      cases h0; cases h1
      refine ⟨_, .int _ _, fun P w at_ ty => ?_⟩
      cases mx <;> simp [Builtin.max_, Builtin.min_, Builtin.max2, Builtin.min2]
  · refine ⟨_, h, fun m rs hr => ?_⟩
    obtain ⟨hl, hr⟩ := hr
    match rs, hl with
    | [r0, r1, r2], _ =>
      have h0 := hr 0 _ _ rfl rfl
      have h1 := hr 1 _ _ rfl rfl
      have h2 := hr 2 _ _ rfl rfl
      cases h0; cases h1; cases h2
      refine ⟨_, .int _ _, fun P w at_ ty => ?_⟩
      cases mx <;> simp [Builtin.max_, Builtin.min_, Builtin.max2, Builtin.min2]
  · exact h.elim

theorem str_cut (s : List UInt8) (l h : Nat) (h1 : l ≤ h) (h2 : h ≤ s.length) : (⟨s.toArray⟩ : ByteArray).extract l h = ⟨((s.take h).drop l).toArray⟩ := by
  apply ByteArray.ext
  simp [ByteArray.data_extract, List.extract_eq_take_drop, List.drop_take]

theorem isStrT_under {P : Program} {T : TypeId} (h : isStrT P T = true) : P.underlying T = some .string := by
  unfold isStrT at h
  split at h
  · assumption
  · simp at h

theorem sl_cut {m : MMap} {b i n l h : Nat} {rv : Value} (hv : Rel m (.sl b i n) rv) (hl : l ≤ h) (hh : h ≤ n) : ∃ (a : Option Addr) (cap : Nat), rv = .slice a n cap ∧ n ≤ cap ∧ ∀ (P : Program) (e sz : Nat), szO P e = some sz → (∀ B : MB, m.l[b]? = some B → B.sz = sz) →
    Rel m (.sl b (i + l) (h - l)) (.slice (if cap = l then a else a.map (·.add (l * sz))) (h - l) (cap - l)) := by
  cases hv with
  | sl hB hvv hn hc =>
    rename_i cap B
    refine ⟨_, cap, rfl, hn, fun P e sz hs hB' => ?_⟩
    have hsz := hB' B hB
    by_cases he : cap = l
    · have h0 : h - l = 0 := by omega
      have h1 : cap - l = 0 := by omega
      rw [h0, h1]; exact .sl0 hB
    · rw [if_neg he]
      have := Rel.sl (m := m) (b := b) (i := i + l) (n := h - l) (cap := cap - l) hB hvv (by omega) (by
        have : (i + l) * B.sz + (cap - l) * B.sz = i * B.sz + cap * B.sz := by rw [← Nat.add_mul, ← Nat.add_mul]; congr 1; omega
        omega)
      simp only [Option.map_some, add_lit]
      rw [show B.base + i * B.sz + l * sz = B.base + (i + l) * B.sz by rw [← hsz, Nat.add_mul]; omega]
      exact this
  | sl0 hB =>
    rename_i B a
    have h0 : l = 0 := by omega
    have h1 : h = 0 := by omega
    subst h0; subst h1
    exact ⟨a, 0, rfl, Nat.le_refl _, fun P e sz hs hB' => by simp; exact .sl0 hB⟩

theorem lst_cut {m : MMap} {sz : Nat} {rows : List (List AV)} {l h : Nat} {rv : Value} (hv : Rel m (.lst sz rows) rv) (hl : l ≤ h) (hh : h ≤ rows.length) : ∃ (a : Option Addr) (cap : Nat), rv = .slice a rows.length cap ∧ rows.length ≤ cap ∧
    Rel m (.lst sz ((rows.take h).drop l)) (.slice (if cap = l then a else a.map (·.add (l * sz))) (h - l) (cap - l)) := by
  cases hv with
  | lst hz hl' hn hc hm hs h1 h2 =>
    rename_i n cap off blk c
    refine ⟨_, cap, by rw [hl'], by omega, ?_⟩
    by_cases he : cap = l
    · have h0 : h - l = 0 := by omega
      have h3 : cap - l = 0 := by omega
      have h4 : (rows.take h).drop l = [] := List.eq_nil_of_length_eq_zero (by simp; omega)
      rw [h0, h3, h4]; exact .lst0
    · rw [if_neg he]
      simp only [Option.map_some, add_lit]
      have hrow : ∀ (k : Nat) row, ((rows.take h).drop l)[k]? = some row → rows[l + k]? = some row := fun k row hk => by
        rw [List.getElem?_drop, List.getElem?_take] at hk
        split at hk
        · exact hk
        · simp at hk
      have e1 : ∀ k : Nat, off + l * sz + k * sz = off + (l + k) * sz := fun k => by rw [Nat.add_mul]; omega
      refine .lst hz (by simp; omega) (by omega) ?_ (by omega) (fun k row hk => hs _ row (hrow k row hk)) (fun k j row v r a1 a2 a3 => h1 (l + k) j row v r (hrow k row a1) a2 (by rw [← e1]; exact a3)) (fun k j row v r a1 a2 a3 => h2 (l + k) j row v r (hrow k row a1) a2 (by rw [← e1]; exact a3))
      rw [e1, show l + (cap - l) = cap by omega]; exact hc
  | lst0 =>
    rename_i a
    simp at hh
    subst hh
    have h0 : l = 0 := by omega
    subst h0
    exact ⟨a, 0, rfl, Nat.le_refl _, by simp; exact .lst0⟩

theorem zip_rel {m : MMap} {ev : Operand → AV} {ρ : Operand → Value} (l : List Operand) (h : ∀ x ∈ l, Rel m (ev x) (ρ x)) : RelL m (l.map ev) (l.map ρ) := RelL.map l ev ρ h

theorem szIs_at {P : Program} {m : MMap} {H : AHeap} {w : World} (hH : HRel m H w) {b e : Nat} (h : szIs P H b e) : ∃ sz, szO P e = some sz ∧ ∀ m' : MMap, MLe m m' → ∀ B : MB, m'.l[b]? = some B → B.sz = sz := by
  unfold szIs at h
  split at h
  · rename_i A hA
    obtain ⟨B, hB, hR⟩ := hH.blk b A (hget_eq.1 hA)
    refine ⟨A.sz, h, fun m' hm B' hB' => ?_⟩
    have := hm.l b B hB
    rw [hB'] at this; injection this with e; subst e
    exact hR.sz.symm
  · exact h.elim

/-- What a pure operation yields, whenever it is carried out. -/
def PureAt (P : Program) (m : MMap) (ev : Operand → AV) (op : Op) (v : AV) : Prop :=
  ∀ (m' : MMap) (ρ : Operand → Value), MLe m m' → (∀ x ∈ op.operands, Rel m' (ev x) (ρ x)) → ∃ r, Rel m' v r ∧ ∀ (o : Oper) (w : World), o.op = op → (execOp ρ o).run P w = .ok (.value r) w

theorem apure_slice {P : Program} {m : MMap} {H : AHeap} {w : World} (hH : HRel m H w) {ev : Operand → AV} {T : TypeId} {x : Operand} {lo hi : Option Operand} {K : AV → Prop} (h : aslice P H T (ev x) (lo.map ev) (hi.map ev) K) :
    ∃ v, K v ∧ PureAt P m ev (.slice T x lo hi none) v := by
  have bound : ∀ (m' : MMap) (ρ : Operand → Value) (y : Operand) (k : IntKind) (z : Int), Rel m' (ev y) (ρ y) → ev y = .int k z → ρ y = .int k z := fun m' ρ y k z hr he => by
    rw [he] at hr; exact hr.int_inv
  have sb : ∀ (k : IntKind) (z : Int) (y : Nat) (c : BoundsCode) (w : World), 0 ≤ z → z ≤ y → (Instr.sliceBound (.int k z) y c).run P w = .ok z.toNat w := fun k z y c w h0 h1 => by
    simp [Instr.sliceBound, asIntOf, h0, h1]
  unfold aslice at h
  split at h
  · rename_i s hs
    obtain ⟨hu, h⟩ := h
    have hu := isStrT_under hu
    split at h
    · rename_i k l k' hh hlo hhi
      obtain ⟨⟨h0, h1, h2⟩, h⟩ := h
      cases lo with | none => simp at hlo | some lo => ?_
      cases hi with | none => simp at hhi | some hi => ?_
      simp at hlo hhi
      refine ⟨_, h, fun m' ρ hm hr => ?_⟩
      have r0 := hr x (by simp [Op.operands])
      rw [hs] at r0
      have e1 := bound m' ρ lo _ _ (hr lo (by simp [Op.operands])) hlo
      have e2 := bound m' ρ hi _ _ (hr hi (by simp [Op.operands])) hhi
      have r0 := r0.str_inv
      refine ⟨_, .str _, fun o w ho => ?_⟩
      have b1 := sb k' hh s.length .sliceAlen w (by omega) h2
      have b2 := sb k l hh.toNat .sliceB w h0 (by omega)
      simp [execOp, ho, Instr.sliceAt, Instr.slice, Instr.sliceBounds, run_underlying hu, e1, e2, r0, str_size, b1, b2]
      rw [str_cut _ _ _ (by omega) (by omega)]; try simp
    · rename_i k hh hlo hhi
      obtain ⟨⟨h0, h2⟩, h⟩ := h
      cases lo with | some lo => simp at hlo | none => ?_
      cases hi with | none => simp at hhi | some hi => ?_
      simp at hhi
      refine ⟨_, h, fun m' ρ hm hr => ?_⟩
      have r0 := hr x (by simp [Op.operands])
      rw [hs] at r0
      have e2 := bound m' ρ hi _ _ (hr hi (by simp [Op.operands])) hhi
      have r0 := r0.str_inv
      refine ⟨_, .str _, fun o w ho => ?_⟩
      have b1 := sb k hh s.length .sliceAlen w (by omega) h2
      simp [execOp, ho, Instr.sliceAt, Instr.slice, Instr.sliceBounds, run_underlying hu, e2, r0, str_size, b1]
      rw [str_cut _ _ _ (by omega) (by omega)]; try simp
    · rename_i k l hlo hhi
      obtain ⟨⟨h0, h2⟩, h⟩ := h
      cases lo with | none => simp at hlo | some lo => ?_
      cases hi with | some hi => simp at hhi | none => ?_
      simp at hlo
      refine ⟨_, h, fun m' ρ hm hr => ?_⟩
      have r0 := hr x (by simp [Op.operands])
      rw [hs] at r0
      have e1 := bound m' ρ lo _ _ (hr lo (by simp [Op.operands])) hlo
      have r0 := r0.str_inv
      refine ⟨_, .str _, fun o w ho => ?_⟩
      have b2 := sb k l s.length .sliceB w h0 (by omega)
      simp [execOp, ho, Instr.sliceAt, Instr.slice, Instr.sliceBounds, run_underlying hu, e1, r0, str_size, b2]
      rw [str_cut _ _ _ (by omega) (by omega)]; try simp
    · exact h.elim
  · rename_i b i n hs
    split at h
    · exact h.elim
    · rename_i e he
      have hu := elemT_under he
      split at h
      · rename_i k l k' hh hlo hhi
        obtain ⟨⟨h0, h1, h2⟩, hsz, h⟩ := h
        obtain ⟨sz, hs1, hs2⟩ := szIs_at hH hsz
        cases lo with | none => simp at hlo | some lo => ?_
        cases hi with | none => simp at hhi | some hi => ?_
        simp at hlo hhi
        refine ⟨_, h, fun m' ρ hm hr => ?_⟩
        have r0 := hr x (by simp [Op.operands])
        rw [hs] at r0
        have e1 := bound m' ρ lo _ _ (hr lo (by simp [Op.operands])) hlo
        have e2 := bound m' ρ hi _ _ (hr hi (by simp [Op.operands])) hhi
        obtain ⟨a, cap, hx, hcap, hrel⟩ := sl_cut (l := l.toNat) (h := hh.toNat) r0 (by omega) (by omega)
        refine ⟨_, hrel P e sz hs1 (hs2 m' hm), fun o w ho => ?_⟩
        have b1 := sb k' hh cap .sliceAcap w (by omega) (by omega)
        have b2 := sb k l hh.toNat .sliceB w h0 (by omega)
        simp [execOp, ho, Instr.sliceAt, Instr.slice, Instr.sliceBounds, run_underlying hu, e1, e2, hx, b1, b2, run_sizeOf hs1]
      · rename_i k hh hlo hhi
        obtain ⟨⟨h0, h2⟩, hsz, h⟩ := h
        obtain ⟨sz, hs1, hs2⟩ := szIs_at hH hsz
        cases lo with | some lo => simp at hlo | none => ?_
        cases hi with | none => simp at hhi | some hi => ?_
        simp at hhi
        refine ⟨_, h, fun m' ρ hm hr => ?_⟩
        have r0 := hr x (by simp [Op.operands])
        rw [hs] at r0
        have e2 := bound m' ρ hi _ _ (hr hi (by simp [Op.operands])) hhi
        obtain ⟨a, cap, hx, hcap, hrel⟩ := sl_cut (l := 0) (h := hh.toNat) r0 (by omega) (by omega)
        have hrel := hrel P e sz hs1 (hs2 m' hm)
        refine ⟨_, by simpa using hrel, fun o w ho => ?_⟩
        have b1 := sb k hh cap .sliceAcap w (by omega) (by omega)
        simp [execOp, ho, Instr.sliceAt, Instr.slice, Instr.sliceBounds, run_underlying hu, e2, hx, b1, run_sizeOf hs1]
      · rename_i k l hlo hhi
        obtain ⟨⟨h0, h2⟩, hsz, h⟩ := h
        obtain ⟨sz, hs1, hs2⟩ := szIs_at hH hsz
        cases lo with | none => simp at hlo | some lo => ?_
        cases hi with | some hi => simp at hhi | none => ?_
        simp at hlo
        refine ⟨_, h, fun m' ρ hm hr => ?_⟩
        have r0 := hr x (by simp [Op.operands])
        rw [hs] at r0
        have e1 := bound m' ρ lo _ _ (hr lo (by simp [Op.operands])) hlo
        obtain ⟨a, cap, hx, hcap, hrel⟩ := sl_cut (l := l.toNat) (h := n) r0 (by omega) (by omega)
        refine ⟨_, hrel P e sz hs1 (hs2 m' hm), fun o w ho => ?_⟩
        have b2 := sb k l n .sliceB w h0 (by omega)
        simp [execOp, ho, Instr.sliceAt, Instr.slice, Instr.sliceBounds, run_underlying hu, e1, hx, b2, run_sizeOf hs1]
      · exact h.elim
  · rename_i sz rows hs
    split at h
    · exact h.elim
    · rename_i e he
      have hu := elemT_under he
      obtain ⟨hs1, h⟩ := h
      split at h
      · rename_i k l k' hh hlo hhi
        obtain ⟨⟨h0, h1, h2⟩, h⟩ := h
        cases lo with | none => simp at hlo | some lo => ?_
        cases hi with | none => simp at hhi | some hi => ?_
        simp at hlo hhi
        refine ⟨_, h, fun m' ρ hm hr => ?_⟩
        have r0 := hr x (by simp [Op.operands])
        rw [hs] at r0
        have e1 := bound m' ρ lo _ _ (hr lo (by simp [Op.operands])) hlo
        have e2 := bound m' ρ hi _ _ (hr hi (by simp [Op.operands])) hhi
        obtain ⟨a, cap, hx, hcap, hrel⟩ := lst_cut (l := l.toNat) (h := hh.toNat) r0 (by omega) (by omega)
        refine ⟨_, hrel, fun o w ho => ?_⟩
        have b1 := sb k' hh cap .sliceAcap w (by omega) (by omega)
        have b2 := sb k l hh.toNat .sliceB w h0 (by omega)
        simp [execOp, ho, Instr.sliceAt, Instr.slice, Instr.sliceBounds, run_underlying hu, e1, e2, hx, b1, b2, run_sizeOf hs1]
      · rename_i k hh hlo hhi
        obtain ⟨⟨h0, h2⟩, h⟩ := h
        cases lo with | some lo => simp at hlo | none => ?_
        cases hi with | none => simp at hhi | some hi => ?_
        simp at hhi
        refine ⟨_, h, fun m' ρ hm hr => ?_⟩
        have r0 := hr x (by simp [Op.operands])
        rw [hs] at r0
        have e2 := bound m' ρ hi _ _ (hr hi (by simp [Op.operands])) hhi
        obtain ⟨a, cap, hx, hcap, hrel⟩ := lst_cut (l := 0) (h := hh.toNat) r0 (by omega) (by omega)
        refine ⟨_, by simpa using hrel, fun o w ho => ?_⟩
        have b1 := sb k hh cap .sliceAcap w (by omega) (by omega)
        simp [execOp, ho, Instr.sliceAt, Instr.slice, Instr.sliceBounds, run_underlying hu, e2, hx, b1, run_sizeOf hs1]
      · rename_i k l hlo hhi
        obtain ⟨⟨h0, h2⟩, h⟩ := h
        cases lo with | none => simp at hlo | some lo => ?_
        cases hi with | some hi => simp at hhi | none => ?_
        simp at hlo
        refine ⟨_, h, fun m' ρ hm hr => ?_⟩
        have r0 := hr x (by simp [Op.operands])
        rw [hs] at r0
        have e1 := bound m' ρ lo _ _ (hr lo (by simp [Op.operands])) hlo
        obtain ⟨a, cap, hx, hcap, hrel⟩ := lst_cut (l := l.toNat) (h := rows.length) r0 (by omega) (by omega)
        rw [List.take_length] at hrel
        refine ⟨_, hrel, fun o w ho => ?_⟩
        have b2 := sb k l rows.length .sliceB w h0 (by omega)
        simp [execOp, ho, Instr.sliceAt, Instr.slice, Instr.sliceBounds, run_underlying hu, e1, hx, b2, run_sizeOf hs1]
      · exact h.elim
  · exact h.elim

theorem run_mapM {α β : Type} (P : Program) (w : World) (f : α → Sem β) (g : α → β) : ∀ (l : List α), (∀ x ∈ l, (f x).run P w = .ok (g x) w) → (l.mapM f).run P w = .ok (l.map g) w
  | [], _ => by simp
  | x :: r, h => by
    have ih := run_mapM P w f g r (fun y hy => h y (by simp [hy]))
    simp [List.mapM_cons, h x (by simp), ih]
theorem run_mapMA {α β : Type} (P : Program) (w : World) (f : α → Sem β) (g : α → β) (a : Array α) (h : ∀ x ∈ a.toList, (f x).run P w = .ok (g x) w) : (a.mapM f).run P w = .ok (a.map g) w := by
  rw [Array.mapM_eq_mapM_toList]
  simp [run_mapM P w f g a.toList h]
  apply Array.ext'
  simp

theorem apure_sound {P : Program} {m : MMap} {H : AHeap} {w : World} (hH : HRel m H w) {ev : Operand → AV} {op : Op} {K : AV → Prop} (h : APure P H ev op K) : ∃ v, K v ∧ PureAt P m ev op v := by
  unfold APure at h
  split at h
  · rename_i x
    exact ⟨_, h, fun m' ρ hm hr => ⟨ρ x, hr x (by simp [Op.operands]), fun o w ho => by simp [execOp, ho]⟩⟩
  · rename_i x
    exact ⟨_, h, fun m' ρ hm hr => ⟨ρ x, hr x (by simp [Op.operands]), fun o w ho => by simp [execOp, ho]⟩⟩
  · rename_i c a b
    split at h
    · rename_i t ht
      have hc : ∀ (m' : MMap) (ρ : Operand → Value), (∀ x ∈ (Op.pick c a b).operands, Rel m' (ev x) (ρ x)) → ρ c = .bool t := fun m' ρ hr => by
        have := hr c (by simp [Op.operands]); rw [ht] at this; exact this.bool_inv
      cases t with
      | true => exact ⟨_, h.1 rfl, fun m' ρ hm hr => ⟨ρ a, hr a (by simp [Op.operands]), fun o w ho => by simp [execOp, ho, hc m' ρ hr, asBool]⟩⟩
      | false => exact ⟨_, h.2 rfl, fun m' ρ hm hr => ⟨ρ b, hr b (by simp [Op.operands]), fun o w ho => by simp [execOp, ho, hc m' ρ hr, asBool]⟩⟩
    · exact h.elim
  · rename_i x
    split at h
    · rename_i b i j hx
      refine ⟨_, h, fun m' ρ hm hr => ?_⟩
      have hr0 := hr x (by simp [Op.operands])
      rw [hx] at hr0
      have hr1 := hr0
      obtain ⟨B, _, _, e⟩ := hr1.ptr_inv
      exact ⟨ρ x, hr0, fun o w ho => by simp [execOp, ho, e]⟩
    · rename_i row j hx
      refine ⟨_, h, fun m' ρ hm hr => ?_⟩
      have hr0 := hr x (by simp [Op.operands])
      rw [hx] at hr0
      have hr1 := hr0
      generalize hρ : ρ x = rx at hr1
      cases hr1
      exact ⟨ρ x, hr0, fun o w ho => by simp [execOp, ho, hρ]⟩
    · rename_i e b hx
      refine ⟨_, h, fun m' ρ hm hr => ?_⟩
      have hr0 := hr x (by simp [Op.operands])
      rw [hx] at hr0
      have hr1 := hr0
      generalize hρ : ρ x = rx at hr1
      cases hr1
      exact ⟨ρ x, hr0, fun o w ho => by simp [execOp, ho, hρ]⟩
    · exact h.elim
  · rename_i op T x y yT
    obtain ⟨v, hv, hs⟩ := abinO_sound h
    refine ⟨v, hv, fun m' ρ hm hr => ?_⟩
    obtain ⟨r, hr1, hr2⟩ := hs m' _ _ (hr x (by simp [Op.operands])) (hr y (by simp [Op.operands]))
    exact ⟨r, hr1, fun o w ho => by have := hr2 w; simp only [execOp, ho, Sem.run_bind] at *; simp [this]⟩
  · rename_i op T x
    obtain ⟨v, hv, hs⟩ := aun_sound h
    refine ⟨v, hv, fun m' ρ hm hr => ?_⟩
    obtain ⟨r, hr1, hr2⟩ := hs m' _ (hr x (by simp [Op.operands]))
    exact ⟨r, hr1, fun o w ho => by have := hr2 P w; simp [execOp, ho, this]⟩
  · rename_i s d x
    split at h
    · rename_i k k' z h1 h2 hx
      refine ⟨_, h, fun m' ρ hm hr => ?_⟩
      have hr0 := hr x (by simp [Op.operands])
      rw [hx] at hr0
      exact ⟨_, .int _ _, fun o w ho => by simp [execOp, ho, hr0.int_inv, convert, run_underlying h1, run_underlying h2, Conv.intToInt]⟩
    · rename_i z h1 h2 hx
      refine ⟨_, h, fun m' ρ hm hr => ?_⟩
      have hr0 := hr x (by simp [Op.operands])
      rw [hx] at hr0
      exact ⟨_, .str _, fun o w ho => by simp [execOp, ho, hr0.str_inv, convert, run_underlying h1, run_underlying h2]⟩
    · exact h.elim
  · rename_i T x
    obtain ⟨hu, h⟩ := h
    refine ⟨_, h, fun m' ρ hm hr => ⟨_, .ifc (hr x (by simp [Op.operands])), fun o w ho => ?_⟩⟩
    cases hd : P.underlying T with
    | none => rw [hd] at hu; exact hu.elim
    | some d => 
      cases d <;> first
        | (rw [hd] at hu; exact hu.elim)
        | simp [execOp, ho, Instr.makeInterface, run_underlying hd]
  · rename_i f first caps
    obtain ⟨hf, h⟩ := h
    refine ⟨_, h, fun m' ρ hm hr => ?_⟩
    have hl : RelL m' (caps.toList.map ev) (caps.toList.map ρ) := zip_rel _ fun x hx => hr x (by simp [Op.operands]; exact .inr (by simpa using hx))
    refine ⟨_, .fn hl.1 hl.2, fun o w ho => ?_⟩
    have h0 : first = #[] := Array.eq_empty_of_size_eq_zero hf
    simp [execOp, ho, Instr.makeFunc, h0]
    apply Array.ext'
    simp
  · rename_i T x lo hi
    exact apure_slice hH h
  · rename_i S x f
    split at h
    · rename_i b i j t off hx hf
      obtain ⟨hs, h⟩ := h
      obtain ⟨fs, F, hu, hF, ht, ho'⟩ := fieldT_under hf
      split at hs
      · rename_i n hn
        refine ⟨_, h, fun m' ρ hm hr => ?_⟩
        have hr0 := hr x (by simp [Op.operands])
        rw [hx] at hr0
        obtain ⟨B, hB, hv, e⟩ := hr0.ptr_inv
        refine ⟨_, .ptr hB hv, fun o w ho => ?_⟩
        have hsz : (sizeOf F.type).run P w = .ok n w := run_sizeOf (by rw [ht]; exact hn) w
        simp [execOp, ho, e, Instr.fieldAt, run_underlying hu, hF, Instr.sureAddr, fieldPlace, hsz, hs, add_lit, ho']
        omega
      · exact hs.elim
    · rename_i row j t off hx hf
      obtain ⟨hs, h⟩ := h
      obtain ⟨fs, F, hu, hF, ht, ho'⟩ := fieldT_under hf
      split at hs
      · rename_i n hn
        refine ⟨_, h, fun m' ρ hm hr => ?_⟩
        have hr0 := hr x (by simp [Op.operands])
        rw [hx] at hr0
        generalize hρ : ρ x = rx at hr0
        cases hr0 with
        | cptr hz hc h1 h2 =>
          rename_i blk ad c
          refine ⟨.pointer (some ⟨blk, ad + (j + off), none⟩), .cptr hz hc h1 h2, fun o w ho => ?_⟩
          have hsz : (sizeOf F.type).run P w = .ok n w := run_sizeOf (by rw [ht]; exact hn) w
          simp [execOp, ho, hρ, Instr.fieldAt, run_underlying hu, hF, Instr.sureAddr, fieldPlace, hsz, hs, add_lit, ho']
          omega
      · exact hs.elim
    · rename_i e b t off hx hf
      obtain ⟨hs, h⟩ := h
      obtain ⟨fs, F, hu, hF, ht, ho'⟩ := fieldT_under hf
      split at hs
      · rename_i n hn
        refine ⟨_, h, fun m' ρ hm hr => ?_⟩
        have hr0 := hr x (by simp [Op.operands])
        rw [hx] at hr0
        generalize hρ : ρ x = rx at hr0
        cases hr0 with
        | bptr hB hv hty hb hN hsB =>
          refine ⟨_, .ptr hB hv, fun o w ho => ?_⟩
          have hsz : (sizeOf F.type).run P w = .ok n w := run_sizeOf (by rw [ht]; exact hn) w
          simp [execOp, ho, hρ, Instr.fieldAt, run_underlying hu, hF, Instr.sureAddr, fieldPlace, hsz, hs, add_lit, ho', hb]
      · exact hs.elim
    · exact h.elim
  · rename_i S x f
    split at h
    · rename_i l t off hx hf
      obtain ⟨fs, F, hu, hF, ht, ho'⟩ := fieldT_under hf
      obtain ⟨v, hv, hs⟩ := apart_sound h
      refine ⟨v, hv, fun m' ρ hm hr => ?_⟩
      have hr0 := hr x (by simp [Op.operands])
      rw [hx] at hr0
      obtain ⟨cs, e, hl⟩ := hr0.agg_inv
      obtain ⟨r, hr1, hr2⟩ := hs m' cs hl
      refine ⟨r, hr1, fun o w ho => ?_⟩
      have := hr2 w
      simp [execOp, ho, e, Instr.field, run_underlying hu, hF, asAgg, ht, ho', this]
    · exact h.elim
  · rename_i T x ix
    split at h
    · rename_i b i n k z e hx hi he
      obtain ⟨⟨h0, h1⟩, hsz, h⟩ := h
      obtain ⟨sz, hs1, hs2⟩ := szIs_at hH hsz
      have hu := elemT_under he
      refine ⟨_, h, fun m' ρ hm hr => ?_⟩
      have r0 := hr x (by simp [Op.operands])
      have r1 := hr ix (by simp [Op.operands])
      rw [hx] at r0
      rw [hi] at r1
      have r1 := r1.int_inv
      generalize hρ : ρ x = rx at r0
      cases r0 with
      | sl0 hB => omega
      | sl hB hv hn hc =>
        rename_i cap B
        have hsB := hs2 m' hm B hB
        refine ⟨_, .ptr hB hv, fun o w ho => ?_⟩
        have hzl : z < (n : Int) := h1
        simp [execOp, ho, hρ, r1, Instr.indexAt, asIntOf, run_underlying hu, h0, hzl, run_sizeOf hs1, add_lit]
        rw [hsB, Nat.add_mul]; omega
    · rename_i sz rows k z e hx hi he
      obtain ⟨⟨h0, h1⟩, hs1, h⟩ := h
      have hu := elemT_under he
      refine ⟨_, h, fun m' ρ hm hr => ?_⟩
      have r0 := hr x (by simp [Op.operands])
      have r1 := hr ix (by simp [Op.operands])
      rw [hx] at r0
      rw [hi] at r1
      have r1 := r1.int_inv
      generalize hρ : ρ x = rx at r0
      cases r0 with
      | lst0 => simp at h1; omega
      | lst hz hl hn hc hm' hs g1 g2 =>
        rename_i n cap off blk c
        have hlt : z.toNat < rows.length := by omega
        have hrow : rows[z.toNat]? = some (rows.getD z.toNat []) := by rw [List.getD_eq_getElem?_getD, List.getElem?_eq_getElem hlt]; rfl
        have hrl := hs _ _ hrow
        have hmul : (z.toNat + 1) * sz ≤ cap * sz := Nat.mul_le_mul_right _ (by omega)
        rw [Nat.add_mul, Nat.one_mul] at hmul
        refine ⟨.pointer (some ⟨blk, off + z.toNat * sz + 0, none⟩), .cptr hz (by rw [hrl]; omega) (fun k v r a1 a2 => g1 _ k _ v r hrow a1 a2) (fun k v r a1 a2 => g2 _ k _ v r hrow a1 a2), fun o w ho => ?_⟩
        have hzl : z < (n : Int) := by omega
        simp [execOp, ho, hρ, r1, Instr.indexAt, asIntOf, run_underlying hu, h0, hzl, run_sizeOf hs1, add_lit]
    · exact h.elim
  · rename_i T x ix
    split at h
    · rename_i s k z hx hi
      obtain ⟨hu, ⟨h0, h1⟩, h⟩ := h
      have hu := isStrT_under hu
      refine ⟨_, h, fun m' ρ hm hr => ?_⟩
      have r0 := hr x (by simp [Op.operands])
      have r1 := hr ix (by simp [Op.operands])
      rw [hx] at r0
      rw [hi] at r1
      have r1 := r1.int_inv
      have r0 := r0.str_inv
      refine ⟨_, .int _ _, fun o w ho => ?_⟩
      have hlt : z.toNat < s.length := by omega
      have hg : (⟨s.toArray⟩ : ByteArray)[z.toNat]? = some (s.getD z.toNat 0) := by
        have : z.toNat < (⟨s.toArray⟩ : ByteArray).size := by rw [str_size]; exact hlt
        rw [getElem?_pos (⟨s.toArray⟩ : ByteArray) z.toNat this]
        simp [ByteArray.getElem_eq_getElem_data, hlt, List.getD_eq_getElem?_getD]
      simp [execOp, ho, r0, r1, Instr.index, asIntOf, run_underlying hu, h0, hg]
    · exact h.elim
  · rename_i x i
    split at h
    · rename_i l hx
      split at h
      · rename_i v hv
        refine ⟨v, h, fun m' ρ hm hr => ?_⟩
        have r0 := hr x (by simp [Op.operands])
        rw [hx] at r0
        obtain ⟨cs, e, hl⟩ := r0.tup_inv
        obtain ⟨r, hr1, hr2⟩ := hl.get hv
        exact ⟨r, hr2, fun o w ho => by simp [execOp, ho, e, Instr.extract, hr1]⟩
      · exact h.elim
    · exact h.elim
  · rename_i T parts
    split at h
    · rename_i z fs hz hu
      split at h
      · rename_i l hall hfill
        obtain ⟨hun, h⟩ := h
        refine ⟨_, h, fun m' ρ hm hr => ?_⟩
        unfold zeroO at hz
        cases hi : P.info? T with
        | none => rw [hi] at hz; simp at hz
        | some i =>
          rw [hi] at hz
          simp at hz
          obtain ⟨zv, hzv, hz⟩ := hz
          have hzr : Rel m' (ofV zv) zv := ofV_rel m' zv
          rw [hz] at hzr
          obtain ⟨zc, rfl, hc⟩ := hzr.agg_inv
          · have hp : ∀ (i : Nat) (p : Nat × AV) (q : Nat × Value), (parts.toList.map fun p => (p.1, ev p.2))[i]? = some p → (parts.toList.map fun p => (p.1, ρ p.2))[i]? = some q → p.1 = q.1 ∧ p.2 ≠ .un ∧ Rel m' p.2 q.2 := by
              intro i p q hp hq
              rw [List.getElem?_map] at hp hq
              cases hpi : parts.toList[i]? with
              | none => rw [hpi] at hp; simp at hp
              | some x =>
                rw [hpi] at hp hq
                simp at hp hq
                subst hp; subst hq
                have hmem := List.mem_of_getElem? hpi
                exact ⟨rfl, hun x hmem, hr x.2 (by simp [Op.operands]; exact ⟨x.1, by simpa using hmem⟩)⟩
            obtain ⟨rl, hrl, hrel⟩ := fill_rel hp (by simp) hc hfill
            refine ⟨_, .agg hrel.1 hrel.2, fun o w ho => ?_⟩
            have hmap := run_mapMA P w (fun (f : Field) => (do pure (f.offset, ← sizeOf f.type) : Sem (Nat × Nat))) (fun f => (f.offset, (szO P f.type).getD 0)) fs (fun f hf => by
              have := List.all_eq_true.1 hall (szO P f.type) (List.mem_map.2 ⟨f, hf, rfl⟩)
              cases hs : szO P f.type with
              | none => rw [hs] at this; simp at this
              | some n => simp [run_sizeOf hs])
            have hplace : (fun (i : Nat) => (fs.map fun (f : Field) => (f.offset, (szO P f.type).getD 0))[i]?) = fun (i : Nat) => (fs[i]?).bind fun (f : Field) => (szO P f.type).map fun n => (f.offset, n) := by
              funext i
              rw [Array.getElem?_map]
              cases hfi : fs[i]? with
              | none => rfl
              | some f =>
                have := List.all_eq_true.1 hall (szO P f.type) (List.mem_map.2 ⟨f, by have := Array.mem_of_getElem? hfi; simpa using this, rfl⟩)
                cases hs : szO P f.type with
                | none => rw [hs] at this; simp at this
                | some n => simp [hs]
            simp only [execOp, ho, Instr.build, Sem.run_bind, zeroValue, typeInfo, run_program, Result.andThen_ok, hi, Sem.run_pure, hzv, run_underlying hu]
            simp only [bind_pure_comp, Functor.map_map] at hmap ⊢
            simp only [Sem.run_bind, hmap, Result.andThen_ok]
            simp only [Array.toList_map, hplace]
            simp only [Value.cells, hrl]
            simp
      · exact h.elim
    · exact h.elim
  · rename_i args argTypes
    split at h
    · rename_i x T hargs hty
      obtain ⟨hu, h⟩ := h
      split at h
      · rename_i n hn
        refine ⟨_, h, fun m' ρ hm hr => ⟨_, .int _ _, fun o w ho => ?_⟩⟩
        have ha : args = #[x] := by apply Array.ext'; simpa using hargs
        have ht : argTypes = #[T] := by apply Array.ext'; simpa using hty
        subst ha; subst ht
        have r0 := hr x (by simp [Op.operands, Call.operands])
        split at hu
        · rename_i s hd hs
          rw [hs] at r0 hn
          simp [alen] at hn; subst hn
          simp [execOp, ho, resolve, invoke, builtin, r0.str_inv, Builtin.len_, run_underlying hd, goInt, str_size]
        · rename_i e hd hs
          rw [hs] at r0 hn
          simp [alen] at hn; subst hn
          generalize hρ : ρ x = rx at r0
          cases r0
          simp [execOp, ho, resolve, invoke, builtin, hρ, Builtin.len_, run_underlying hd, goInt]
        · rename_i e b i n' hd hs
          rw [hs] at r0 hn
          simp [alen] at hn; subst hn
          generalize hρ : ρ x = rx at r0
          cases r0 <;> simp [execOp, ho, resolve, invoke, builtin, hρ, Builtin.len_, run_underlying hd, goInt]
        · rename_i e sz rows hd hs
          rw [hs] at r0 hn
          simp [alen] at hn; subst hn
          generalize hρ : ρ x = rx at r0
          cases r0 with
          | lst0 => simp [execOp, ho, resolve, invoke, builtin, hρ, Builtin.len_, run_underlying hd, goInt]
          | lst hz hl hn hc hm' hs g1 g2 => simp [execOp, ho, resolve, invoke, builtin, hρ, Builtin.len_, run_underlying hd, goInt, hl]
        · rename_i e e2 b n' hd hs
          rw [hs] at r0 hn
          simp [alen] at hn; subst hn
          generalize hρ : ρ x = rx at r0
          cases r0
          simp [execOp, ho, resolve, invoke, builtin, hρ, Builtin.len_, run_underlying hd, goInt]
        · exact hu.elim
      · exact h.elim
    · exact h.elim
  · rename_i args argTypes
    obtain ⟨v, hv, hs⟩ := aminmax_sound h
    refine ⟨v, hv, fun m' ρ hm hr => ?_⟩
    obtain ⟨r, hr1, hr2⟩ := hs m' (args.toList.map ρ) (zip_rel _ fun x hx => hr x (by simp [Op.operands, Call.operands]; simpa using hx))
    refine ⟨r, hr1, fun o w ho => ?_⟩
    have := hr2 P w argTypes o.type
    have e : (args.toList.map ρ).toArray = args.map ρ := by apply Array.ext'; simp
    rw [e] at this
    simp at this
    simp [execOp, ho, resolve, invoke, builtin, this]
  · rename_i args argTypes
    obtain ⟨v, hv, hs⟩ := aminmax_sound h
    refine ⟨v, hv, fun m' ρ hm hr => ?_⟩
    obtain ⟨r, hr1, hr2⟩ := hs m' (args.toList.map ρ) (zip_rel _ fun x hx => hr x (by simp [Op.operands, Call.operands]; simpa using hx))
    refine ⟨r, hr1, fun o w ho => ?_⟩
    have := hr2 P w argTypes o.type
    have e : (args.toList.map ρ).toArray = args.map ρ := by apply Array.ext'; simp
    rw [e] at this
    simp at this
    simp [execOp, ho, resolve, invoke, builtin, this]
  · exact h.elim

end Go.Ab
/- The abstract machine: operations that read or change memory. -/
set_option linter.unusedVariables false
set_option linter.unusedSimpArgs false
namespace Go.Ab

def ALoad (P : Program) (H : AHeap) (ev : Operand → AV) (T : TypeId) (a : Operand) (K : AV → Prop) : Prop :=
  match ev a with
  | .ptr b i j => match hrow H b i with
    | some row => APart P T row j K
    | none => False
  | .cptr row j => APart P T row j K
  | _ => False

theorem cell_at {m : MMap} {H : AHeap} {w : World} (h : HRel m H w) {b i : Nat} {row : List AV} {B : MB} (hr : hrow H b i = some row) (hB : m.l[b]? = some B) (hv : B.virt = false) :
    ∃ cs : List Value, RelL m row cs ∧ (∀ v ∈ cs, v.oneCell' = true) ∧ ∀ (j : Nat) (u : Value), cs[j]? = some u → w.cell? ⟨B.blk, B.base + i * B.sz + j, none⟩ = some u := by
  obtain ⟨h1, h2⟩ := h.cells hr hB hv
  refine ⟨(List.range row.length).map fun j => (w.cell? ⟨B.blk, B.base + i * B.sz + j, none⟩).getD undef, ⟨by simp, fun j v r hv' hr' => ?_⟩, fun v hv' => ?_, fun j u hu => ?_⟩
  · obtain ⟨r', e1, e2⟩ := h2 j v hv'
    rw [List.getElem?_map] at hr'
    have hj := (List.getElem?_eq_some_iff.1 hv').1
    rw [List.getElem?_range hj] at hr'
    simp [e1] at hr'
    subst hr'; exact e2.1
  · obtain ⟨j, hj, rfl⟩ := List.mem_map.1 hv'
    have hjl := List.mem_range.1 hj
    obtain ⟨r', e1, e2⟩ := h2 j _ (List.getElem?_eq_getElem hjl)
    rw [e1]; exact e2.2
  · rw [List.getElem?_map] at hu
    by_cases hj : j < row.length
    · rw [List.getElem?_range hj] at hu
      obtain ⟨r', e1, e2⟩ := h2 j _ (List.getElem?_eq_getElem hj)
      simp [e1] at hu
      subst hu; exact e1
    · rw [List.getElem?_eq_none (by simpa using hj)] at hu; simp at hu

/-- What a load yields, whenever it is carried out, while the row that it reads stands. -/
def LoadAt (P : Program) (m : MMap) (H : AHeap) (ev : Operand → AV) (T : TypeId) (a : Operand) (v : AV) : Prop :=
  ∀ (m' : MMap) (H' : AHeap) (w' : World) (ρ : Operand → Value), MLe m m' → HRel m' H' w' → (∀ b i j, ev a = .ptr b i j → hrow H' b i = hrow H b i) → Rel m' (ev a) (ρ a) →
    ∃ r, Rel m' v r ∧ ∀ o : Oper, o.op = .load T a → (execOp ρ o).run P w' = .ok (.value r) w'

theorem apart_load {P : Program} {T j : Nat} {row : List AV} {K : AV → Prop} (h : APart P T row j K) : ∃ v, K v ∧ ∀ (m' : MMap) (cs : List Value), RelL m' row cs → ∃ r, Rel m' v r ∧ ∀ (w' : World) (ad : Addr), (∀ (j : Nat) (u : Value), cs[j]? = some u → w'.cell? (ad.add j) = some u) → (loadVar T (ad.add j)).run P w' = .ok r w' := by
  unfold APart at h
  split at h
  · rename_i n h1 h2
    refine ⟨_, h.2, fun m' cs hcs => ⟨.agg ((cs.drop j).take n).toArray, ?_, fun w' ad hc => ?_⟩⟩
    · have := (hcs.drop j).take n
      exact .agg this.1 this.2
    · have hl : ((cs.drop j).take n).length = n := by have := h.1; rw [hcs.1] at this; simp; omega
      have := run_loadCells_list (P := P) w' (ad.add j) ((cs.drop j).take n) (fun k u hk => by
        rw [List.getElem?_take] at hk
        split at hk
        · rw [List.getElem?_drop] at hk
          have := hc (j + k) u hk
          rw [← this]
          congr 1
          unfold Addr.add
          by_cases h0 : j = 0 <;> by_cases h1 : k = 0 <;> simp [h0, h1] <;> omega
        · simp at hk)
      rw [hl] at this
      simp [loadVar, run_isAgg h1, run_sizeOf h2, this]
  · rename_i h1
    split at h
    · rename_i v hv
      refine ⟨v, h, fun m' cs hcs => ?_⟩
      obtain ⟨r, hr1, hr2⟩ := hcs.get hv
      exact ⟨r, hr2, fun w' ad hc => by simp [loadVar, run_isAgg h1, hc j r hr1]⟩
    · exact h.elim
  · exact h.elim

/-- The cells of a frozen row. -/
theorem cptr_cells {m : MMap} {H : AHeap} {w : World} (hH : HRel m H w) {row : List AV} {j : Nat} {r : Value} (hr : Rel m (.cptr row j) r) :
    ∃ (ad : Addr) (cs : List Value), ad.spot = none ∧ r = .pointer (some (ad.add j)) ∧ RelL m row cs ∧ ∀ (k : Nat) (u : Value), cs[k]? = some u → w.cell? (ad.add k) = some u := by
  cases hr with
  | cptr hz hc h1 h =>
    rename_i blk off c
    obtain ⟨e, fr, hw⟩ := hH.fz _ _ hz
    refine ⟨⟨blk, off, none⟩, (c.toList.drop off).take row.length, rfl, by rw [add_lit], ⟨by simp; omega, fun i v r hv hr => ?_⟩, fun k u hu => ?_⟩
    · rw [List.getElem?_take] at hr
      split at hr
      · rw [List.getElem?_drop] at hr
        exact (h i v r hv (by simpa using hr)).mono (MLe.z1 m)
      · simp at hr
    · rw [List.getElem?_take] at hu
      split at hu
      · rw [List.getElem?_drop] at hu
        rw [add_lit]
        simp [World.cell?, hw]
        simpa using hu
      · simp at hu

theorem aload_sound {P : Program} {m : MMap} {H : AHeap} {w : World} (hH : HRel m H w) {ev : Operand → AV} {T : TypeId} {a : Operand} {K : AV → Prop} (h : ALoad P H ev T a K) : ∃ v, K v ∧ LoadAt P m H ev T a v := by
  unfold ALoad at h
  split at h
  · rename_i b i j ha
    split at h
    · rename_i row hrow'
      obtain ⟨v, hv, hs⟩ := apart_load h
      refine ⟨v, hv, fun m' H' w' ρ hm hH' he hr => ?_⟩
      rw [ha] at hr
      obtain ⟨B, hB, hvv, e⟩ := hr.ptr_inv
      obtain ⟨cs, c1, c2, c3⟩ := cell_at hH' ((he b i j ha).trans hrow') hB hvv
      obtain ⟨r, hr1, hr2⟩ := hs m' cs c1
      refine ⟨r, hr1, fun o ho => ?_⟩
      have := hr2 w' ⟨B.blk, B.base + i * B.sz, none⟩ (fun j u hj => by rw [add_lit]; exact c3 j u hj)
      rw [add_lit] at this
      simp [execOp, ho, Instr.loadAt, e, Instr.sureAddr, this]
    · exact h.elim
  · rename_i row j ha
    obtain ⟨v, hv, hs⟩ := apart_load h
    refine ⟨v, hv, fun m' H' w' ρ hm hH' he hr => ?_⟩
    rw [ha] at hr
    obtain ⟨ad, cs, c0, e, c1, c2⟩ := cptr_cells hH' hr
    obtain ⟨r, hr1, hr2⟩ := hs m' cs c1
    refine ⟨r, hr1, fun o ho => ?_⟩
    have := hr2 w' ad c2
    have hsp : (ad.add j).spot = none := by unfold Addr.add; split <;> simp [c0]
    simp [execOp, ho, Instr.loadAt, e, Instr.sureAddr, this]
  · exact h.elim

/-- The cells of a frozen slice. -/
theorem lst_cells {m : MMap} {H : AHeap} {w : World} (hH : HRel m H w) {sz : Nat} {rows : List (List AV)} {rv : Value} (hr : Rel m (.lst sz rows) rv) :
    ∃ (xa : Option Addr) (cap : Nat) (cs : List Value), rv = .slice xa rows.length cap ∧ RelL m rows.flatten cs ∧ (∀ u ∈ cs, u.oneCell' = true) ∧ (∀ row ∈ rows, row.length = sz) ∧
      (rows ≠ [] → ∃ ad, xa = some ad ∧ ∀ (j : Nat) (u : Value), cs[j]? = some u → w.cell? (ad.add j) = some u) := by
  cases hr with
  | lst0 => exact ⟨_, 0, [], rfl, by simpa using RelL.nil, by simp, by simp, fun h => absurd rfl h⟩
  | lst hz hl hn hc hm hs h1 h2 =>
    rename_i n cap off blk c
    obtain ⟨e, fr, hw⟩ := hH.fz _ _ hz
    have hrl : ∀ row ∈ rows, row.length = sz := fun row hr => by obtain ⟨i, hi⟩ := List.getElem?_of_mem hr; exact hs i row hi
    have hfl := flat_length sz rows hrl
    have hmul : rows.length * sz ≤ cap * sz := Nat.mul_le_mul_right _ (by omega)
    have key : ∀ (k : Nat) (v : AV), rows.flatten[k]? = some v → ∀ r, c[off + k]? = some r → r.oneCell' = true ∧ Rel ⟨[], m.z⟩ v r := fun k v hk r hr => by
      have hkl : k < rows.length * sz := by have := (List.getElem?_eq_some_iff.1 hk).1; rw [hfl] at this; exact this
      have hs0 : 0 < sz := by
        rcases Nat.eq_zero_or_pos sz with h0 | h0
        · rw [h0] at hkl; simp at hkl
        · exact h0
      have e1 : k / sz * sz + k % sz = k := by rw [Nat.mul_comm]; exact Nat.div_add_mod k sz
      have hm' := Nat.mod_lt k hs0
      rw [← e1, flat_get sz rows hrl _ _ hm'] at hk
      cases hrow : rows[k / sz]? with
      | none => rw [hrow] at hk; simp at hk
      | some row =>
        rw [hrow] at hk; simp at hk
        have e2 : off + k / sz * sz + k % sz = off + k := by omega
        exact ⟨h1 _ _ row v r hrow hk (by rw [e2]; exact hr), h2 _ _ row v r hrow hk (by rw [e2]; exact hr)⟩
    have hcs : ∀ (k : Nat) (u : Value), ((c.toList.drop off).take (rows.length * sz))[k]? = some u → k < rows.length * sz ∧ c[off + k]? = some u := fun k u hu => by
      rw [List.getElem?_take] at hu
      split at hu
      · rename_i hk
        rw [List.getElem?_drop] at hu
        exact ⟨hk, by simpa using hu⟩
      · simp at hu
    refine ⟨_, cap, (c.toList.drop off).take (rows.length * sz), by rw [hl], ⟨?_, fun k v r hk hr => ?_⟩, fun u hu => ?_, hrl, fun _ => ⟨_, rfl, fun j u hj => ?_⟩⟩
    · rw [hfl]; simp; omega
    · exact (key k v hk r (hcs k r hr).2).2.mono (MLe.z1 m)
    · obtain ⟨k, hk⟩ := List.getElem?_of_mem hu
      obtain ⟨a1, a2⟩ := hcs k u hk
      exact (key k _ (List.getElem?_eq_getElem (by rw [hfl]; exact a1)) u a2).1
    · rw [add_lit]
      simp [World.cell?, hw]
      exact (hcs j u hj).2

def bytesO (P : Program) (T : TypeId) : Option Nat := (P.info? T).map (·.bytes)

def onesA (l : List AV) : Prop := ∀ v ∈ l, v.one = true
theorem onesA_rel {m : MMap} {l : List AV} {cs : List Value} (h : onesA l) (hr : RelL m l cs) : ∀ v ∈ cs, v.oneCell' = true := fun u hu => by
  obtain ⟨i, hi⟩ := List.getElem?_of_mem hu
  have hlt := (List.getElem?_eq_some_iff.1 hi).1
  have hlt' : i < l.length := by rw [hr.1]; exact hlt
  have h1 := List.getElem?_eq_getElem hlt'
  exact ((hr.2 i _ u h1 hi).one (h _ (List.mem_of_getElem? h1))).2

/-- The row of bytes. -/
def rowBytes : List (List AV) → Option (List UInt8)
  | [] => some []
  | [.int .u8 n] :: r => if 0 ≤ n ∧ n < 256 then (rowBytes r).map (UInt8.ofNat n.toNat :: ·) else none
  | _ => none

/-- Which rows a slice (or a string) has, for what reads them. -/
inductive RowsOf (H : AHeap) : AV → List (List AV) → Prop
  | nil : RowsOf H .nil []
  | sl {b i n : Nat} {A : Blk} (hb : hget H b = some A) (hn : i + n ≤ A.rows.length) : RowsOf H (.sl b i n) ((A.rows.drop i).take n)
  | lst {sz : Nat} {rows : List (List AV)} : RowsOf H (.lst sz rows) rows

/-- The cells of what is read. -/
theorem rowsOf_cells {m : MMap} {H : AHeap} {w : World} (hH : HRel m H w) {v : AV} {news : List (List AV)} {rv : Value} (hrows : RowsOf H v news) (ry : Rel m v rv) :
    ∃ (xa : Option Addr) (c : Nat) (cs : List Value), rv = .slice xa news.length c ∧ RelL m news.flatten cs ∧ (∀ u ∈ cs, u.oneCell' = true) ∧ (news ≠ [] → ∃ ad, xa = some ad ∧ ∀ (j : Nat) (u : Value), cs[j]? = some u → w.cell? (ad.add j) = some u) := by
  cases hrows with
  | nil =>
    cases ry
    exact ⟨none, 0, [], rfl, by simpa using RelL.nil, by simp, fun h => absurd rfl h⟩
  | sl hA hn =>
    rename_i b i n A
    have hlen : ((A.rows.drop i).take n).length = n := by simp; omega
    rw [hlen]
    obtain ⟨B, hB, hR⟩ := hH.blk b A (hget_eq.1 hA)
    cases ry with
    | sl hB' hv hcap hN =>
      rw [hB] at hB'; injection hB' with e'; subst e'
      obtain ⟨_, cs, c1, c2, c3⟩ := hH.rowsAt (i := i) hA hB hv hn
      exact ⟨_, _, cs, rfl, c1, c2, fun _ => ⟨_, rfl, fun j u hj => by rw [add_lit]; exact c3 j u hj⟩⟩
    | sl0 hB' => exact ⟨_, _, [], rfl, by simpa using RelL.nil, by simp, fun h => by simp at h⟩
  | lst =>
    obtain ⟨xa, cap, cs, c0, c1, c2, _, c4⟩ := lst_cells hH ry
    exact ⟨xa, cap, cs, c0, c1, c2, c4⟩

/-- A new variable's address: of a type that looks like a builder it is told more. -/
def ptrOf (T : TypeId) (z : AV) (n : Nat) : AV := match z with
  | .agg [.nilp, .nil] => .bptr T n
  | _ => .ptr n 0 0
theorem ptrOf_rel {m : MMap} {T blk N n : Nat} {z : AV} (h : m.l[n]? = some ⟨blk, 0, z.cells.length, N, false, some T⟩) (hN : N = z.cells.length) : Rel m (ptrOf T z n) (.pointer (some ⟨blk, 0, none⟩)) := by
  have hp : Rel m (.ptr n 0 0) (.pointer (some ⟨blk, 0, none⟩)) := by
    have := Rel.ptr (m := m) (b := n) (i := 0) (j := 0) h rfl
    simpa using this
  unfold ptrOf
  split
  · exact .bptr h rfl rfl rfl hN rfl
  · exact hp

def AEff (P : Program) (H : AHeap) (ev : Operand → AV) (op : Op) (K : AV → AHeap → Prop) : Prop :=
  match op with
  | .alloc T => match zeroO P T with
    | some z => onesA z.cells ∧ K (ptrOf T z H.length) (H ++ [some ⟨true, z.cells.length, [z.cells]⟩])
    | none => False
  | .box T x => onesA (ev x).cells ∧ K (.ptr H.length 0 0) (H ++ [some ⟨true, (ev x).cells.length, [(ev x).cells]⟩])
  | .store T a x => match ev a with
    | .ptr b i j => match hget H b with
      | some A => A.own = true ∧ match A.rows[i]? with
        | some row => onesA (ev x).cells ∧ szO P T = some (ev x).cells.length ∧ j + (ev x).cells.length ≤ row.length ∧
            K (.tup []) (H.set b (some ⟨true, A.sz, A.rows.set i (splice row j (ev x).cells)⟩))
        | none => False
      | none => False
    | _ => False
  | .buildSlice T n parts => match elemT P T with
    | some e => match szO P e with
      | some sz => (parts.toList.map (·.1) = List.range n ∧ n * sz ≤ 16777216 ∧ n ≤ 16777216 ∧ (zeroO P e).isSome = true) ∧ (∀ p ∈ parts.toList, onesA (ev p.2).cells ∧ (ev p.2).cells.length = sz) ∧
          K (.sl H.length 0 n) (H ++ [some ⟨true, sz, parts.toList.map fun p => (ev p.2).cells⟩])
      | none => False
    | none => False
  | .makeSlice T n c => match ev n, ev c, elemT P T with
    | .int _ z, .int _ z', some e => match szO P e, bytesO P e, zeroO P e with
      | some sz, some bytes, some zv => z = z' ∧ 0 ≤ z ∧ z * bytes ≤ 140737488355328 ∧ z ≤ 9223372036854775807 ∧ onesA zv.cells ∧ zv.cells.length = sz ∧
          K (.sl H.length 0 z.toNat) (H ++ [some ⟨true, sz, List.replicate z.toNat zv.cells⟩])
      | _, _, _ => False
    | _, _, _ => False
  | .convert s d x => match P.underlying s, P.underlying d, ev x with
    | some .string, some (.slice e), .str l => P.underlying e = some (.int .u8) ∧ szO P e = some 1 ∧ l.length ≤ maxLen ∧
        K (.sl H.length 0 l.length) (H ++ [some ⟨true, 1, l.map fun c => [AV.int .u8 c.toNat]⟩])
    | some (.slice e), some .string, .nil => P.underlying e = some (.int .u8) ∧ K (.str []) H
    | some (.slice e), some .string, .sl b i n => P.underlying e = some (.int .u8) ∧ match hget H b with
      | some A => A.sz = 1 ∧ i + n ≤ A.rows.length ∧ match rowBytes ((A.rows.drop i).take n) with
        | some l => K (.str l) H
        | none => False
      | none => False
    | some (.slice e), some .string, .lst sz rows => P.underlying e = some (.int .u8) ∧ match rowBytes rows with
      | some l => K (.str l) H
      | none => False
    | _, _, _ => False
  | .call { callee := .builtin .append, args, argTypes } => match args.toList, argTypes.toList with
    | [x, y], [T, T'] => (T = T' ∧ ∃ e sz bytes z olds H1 news, ElemT P T e sz bytes z ∧ OwnS H sz (ev x) olds H1 ∧ RowsOf H (ev y) news ∧ (∀ row ∈ news, row.length = sz) ∧
        (olds.length + news.length) * bytes ≤ 140737488355328 ∧ olds.length + news.length ≤ maxLen ∧
        K (.sl H.length 0 (olds.length + news.length)) (H1 ++ [some ⟨true, sz, olds ++ news⟩])) ∨
      (isStrT P T' = true ∧ ∃ e bytes z s, ElemT P T e 1 bytes z ∧ ev y = .str s ∧
        ((ev x = .nil ∧ s.length * bytes ≤ 140737488355328 ∧ s.length ≤ maxLen ∧ (s = [] → K .nil H) ∧ (s ≠ [] → K (.bf e H.length s.length) (H ++ [some ⟨true, 1, byteRows s⟩]))) ∨
         ∃ b n A, ev x = .bf e b n ∧ hget H b = some A ∧ A.own = true ∧ n = A.rows.length ∧ (n + s.length) * bytes ≤ 140737488355328 ∧ n + s.length ≤ maxLen ∧
           K (.bf e H.length (n + s.length)) (H.set b none ++ [some ⟨true, 1, A.rows ++ byteRows s⟩])))
    | _, _ => False
  | .call { callee := .builtin .copy, args, argTypes } => match args.toList, argTypes.toList with
    | [d, s], [T, T'] => ∃ e b i n A news, elemT P T = some e ∧ szO P e = some A.sz ∧ ev d = .sl b i n ∧ hget H b = some A ∧ A.own = true ∧ i + n ≤ A.rows.length ∧ RowsOf H (ev s) news ∧ (∀ row ∈ news, row.length = A.sz) ∧
        K (.int .i64 (min news.length n : Nat)) (H.set b (some ⟨true, A.sz, overR A.rows i (news.take n)⟩))
    | _, _ => False
  | .call { callee := .builtin .unsafeSliceData, args, .. } => match args.toList with
    | [x] => match ev x with
      | .nil => K .nilp H
      | .bf e b n => K (.bfp e b) H
      | _ => False
    | _ => False
  | .call { callee := .builtin .unsafeString, args, argTypes } => match args.toList, argTypes.toList with
    | [p, n], [pt, it] => match ev p, ev n with
      | .nilp, .int .i64 z => z = 0 ∧ K (.str []) H
      | .bfp e b, .int .i64 z => P.underlying pt = some (.pointer e) ∧ P.cellsOf e = 1 ∧ ∃ l, hget H b = some ⟨true, 1, byteRows l⟩ ∧ l ≠ [] ∧ z = l.length ∧ K (.str l) (H.set b none)
      | _, _ => False
    | _, _ => False
  | .call { callee := .value f, args, .. } => match ev f with
    | .fn g cap => AC P g (args.toList.map ev ++ cap) H K
    | _ => False
  | _ => False

def Eff (P : Program) (m : MMap) (H : AHeap) (w : World) (ρ : Operand → Value) (op : Op) (K : AV → AHeap → Prop) : Prop :=
  (∃ v r m' H' w', K v H' ∧ HRel m' H' w' ∧ Stp m H w m' H' w' ∧ Rel m' v r ∧ ∀ o : Oper, o.op = op → ((execOp ρ o).run P w = .ok (.value r) w' ∨ ((execOp ρ o).run P w = .ok .skip w' ∧ r = undef))) ∨
  (∃ g avs vs, AC P g avs H K ∧ RelL m avs vs ∧ ∀ o : Oper, o.op = op → (execOp ρ o).run P w = .ok (.enter g vs.toArray) w)

theorem zeroO_at {P : Program} {T : TypeId} {z : AV} (h : zeroO P T = some z) : ∃ zv, (∀ w, (zeroValue T).run P w = .ok zv w) ∧ ∀ m, Rel m z zv := by
  unfold zeroO at h
  cases hi : P.info? T with
  | none => rw [hi] at h; simp at h
  | some i =>
    rw [hi] at h; simp at h
    obtain ⟨zv, hzv, rfl⟩ := h
    exact ⟨zv, fun w => by simp [zeroValue, typeInfo, hi, hzv], fun m => ofV_rel m zv⟩

theorem ones_ne_un {x : AV} (h : onesA x.cells) : x ≠ .un := fun e => by
  subst e; have := h .un (by simp [AV.cells]); simp [AV.one] at this

/-- A new block that holds one row. -/
theorem eff_new {P : Program} {m : MMap} {H : AHeap} {w : World} (hH : HRel m H w) (T : TypeId) {l : List AV} {c : Array Value} (ho : onesA l) (hl : RelL m l c.toList) :
    HRel (m.add ⟨w.heap.size, 0, l.length, c.size, false, some T⟩) (H ++ [some ⟨true, l.length, [l]⟩]) (w.alloc (.cells c T)) ∧
    Stp m H w (m.add ⟨w.heap.size, 0, l.length, c.size, false, some T⟩) (H ++ [some ⟨true, l.length, [l]⟩]) (w.alloc (.cells c T)) ∧
    Rel (m.add ⟨w.heap.size, 0, l.length, c.size, false, some T⟩) (.ptr H.length 0 0) (.pointer (some ⟨w.heap.size, 0, none⟩)) := by
  have hlen := hl.1
  simp at hlen
  obtain ⟨h1, h2⟩ := hH.new c T true l.length [l] (some T) (.inr rfl) (by simp [maxLen]) (by simp [hlen]) (fun i row hi => by
    cases i with
    | succ i => simp at hi
    | zero =>
      simp at hi; subst hi
      refine ⟨rfl, fun j v hj => ?_⟩
      obtain ⟨r, hr1, hr2⟩ := hl.get hj
      exact ⟨r, by simpa using hr1, hr2, onesA_rel ho hl r (List.mem_of_getElem? hr1)⟩)
  refine ⟨h1, h2, ?_⟩
  have := Rel.ptr (m := m.add ⟨w.heap.size, 0, l.length, c.size, false, some T⟩) (b := H.length) (i := 0) (j := 0) (B := ⟨w.heap.size, 0, l.length, c.size, false, some T⟩) (by rw [MMap.add_l, ← hH.len]; simp) rfl
  simpa using this

theorem fillA_seq (sz : Nat) : ∀ (parts : List (Nat × AV)) (k : Nat) (pre : List (List AV)) (tl : List AV), parts.map (·.1) = List.range' k parts.length → (∀ p ∈ parts, p.2.cells.length = sz) → pre.length = k → (∀ r ∈ pre, r.length = sz) → tl.length = parts.length * sz →
    fillA (fun i => some (i * sz, sz)) (pre.flatten ++ tl) parts = some (pre.flatten ++ (parts.map fun p => p.2.cells).flatten)
  | [], k, pre, tl, _, _, _, _, ht => by simp at ht; subst ht; simp [fillA]
  | (i, v) :: r, k, pre, tl, h1, h2, h3, h4, h5 => by
    simp only [List.map_cons, List.length_cons, List.range'_succ, List.cons.injEq] at h1
    obtain ⟨rfl, h1⟩ := h1
    have hv := h2 (i, v) (by simp)
    simp only at hv
    have hfl := flat_length sz pre h4
    simp only [List.length_cons, Nat.add_mul, Nat.one_mul] at h5
    have hn : ¬ (v.cells.length ≠ sz ∨ i * sz + v.cells.length > (pre.flatten ++ tl).length) := by
      rw [List.length_append, hfl, h3]; omega
    simp only [fillA]
    rw [if_neg hn]
    have hs : splice (pre.flatten ++ tl) (i * sz) v.cells = (pre ++ [v.cells]).flatten ++ tl.drop sz := by
      unfold splice
      rw [List.take_append_of_le_length (by rw [hfl, h3]; omega), List.take_of_length_le (by rw [hfl, h3]; omega), hv, List.drop_append]
      rw [List.drop_of_length_le (by rw [hfl, h3]; omega)]
      simp [hfl, h3]
    rw [hs, fillA_seq sz r (i + 1) (pre ++ [v.cells]) (tl.drop sz) h1 (fun p hp => h2 p (by simp [hp])) (by simp [h3]) (fun q hq => by
      rcases List.mem_append.1 hq with h | h
      · exact h4 q h
      · simp at h; subst h; exact hv) (by simp; omega)]
    simp

theorem rows_alloc {m : MMap} {H : AHeap} {w : World} (hH : HRel m H w) (T : TypeId) {rows : List (List AV)} {sz : Nat} {cs : List Value} (hrl : ∀ r ∈ rows, r.length = sz) (ho : ∀ r ∈ rows, onesA r) (hr : RelL m rows.flatten cs) (hmx : rows.length ≤ maxLen) :
    HRel (m.add ⟨w.heap.size, 0, sz, cs.toArray.size, false, none⟩) (H ++ [some ⟨true, sz, rows⟩]) (w.alloc (.cells cs.toArray T)) ∧
    Stp m H w (m.add ⟨w.heap.size, 0, sz, cs.toArray.size, false, none⟩) (H ++ [some ⟨true, sz, rows⟩]) (w.alloc (.cells cs.toArray T)) ∧
    Rel (m.add ⟨w.heap.size, 0, sz, cs.toArray.size, false, none⟩) (.sl H.length 0 rows.length) (.slice (some ⟨w.heap.size, 0, none⟩) rows.length rows.length) := by
  have hfl := flat_length sz rows hrl
  have hlen := hr.1
  have hones : ∀ u ∈ cs, u.oneCell' = true := onesA_rel (fun v hv => by
    obtain ⟨r, hr1, hr2⟩ := List.mem_flatten.1 hv; exact ho r hr1 v hr2) hr
  obtain ⟨h1, h2⟩ := hH.new cs.toArray T true sz rows none (.inl rfl) hmx (by simp; omega) (fun i row hi => by
    have hmem := List.mem_of_getElem? hi
    refine ⟨hrl row hmem, fun j v hj => ?_⟩
    have hjs : j < sz := by rw [← hrl row hmem]; exact (List.getElem?_eq_some_iff.1 hj).1
    have hf : rows.flatten[i * sz + j]? = some v := by rw [flat_get sz rows hrl _ _ hjs, hi]; simpa using hj
    obtain ⟨r, hr1, hr2⟩ := hr.get hf
    exact ⟨r, by simpa using hr1, hr2, hones r (List.mem_of_getElem? hr1)⟩)
  refine ⟨h1, h2, ?_⟩
  have := Rel.sl (m := m.add ⟨w.heap.size, 0, sz, cs.toArray.size, false, none⟩) (b := H.length) (i := 0) (n := rows.length) (cap := rows.length) (B := ⟨w.heap.size, 0, sz, cs.toArray.size, false, none⟩) (by rw [MMap.add_l, ← hH.len]; simp) rfl (Nat.le_refl _) (by simp; omega)
  simpa using this

theorem RelL.flatMap {m : MMap} {α : Type} : ∀ (l : List α) (f : α → List AV) (g : α → List Value), (∀ x ∈ l, RelL m (f x) (g x)) → RelL m (l.map f).flatten (l.flatMap g)
  | [], _, _, _ => by simpa using RelL.nil
  | x :: r, f, g, h => by
    simp only [List.map_cons, List.flatten_cons, List.flatMap_cons]
    exact (h x (by simp)).append (RelL.flatMap r f g fun y hy => h y (by simp [hy]))

theorem RelL.un (m : MMap) (cs : List Value) : RelL m (List.replicate cs.length .un) cs :=
  ⟨by simp, fun i v r hv hr => by
    have := List.mem_replicate.1 (List.mem_of_getElem? hv)
    rw [this.2]; exact .un r⟩

theorem rowBytes_spec : ∀ {rows : List (List AV)} {l : List UInt8}, rowBytes rows = some l → ∃ xs : List Int, rows = xs.map (fun x => [AV.int .u8 x]) ∧ l = xs.map fun n => UInt8.ofNat n.toNat
  | [], l, h => by simp [rowBytes] at h; subst h; exact ⟨[], rfl, rfl⟩
  | row :: r, l, h => by
    unfold rowBytes at h
    split at h
    · rename_i heq; simp at heq
    · rename_i n r' heq
      simp at heq
      obtain ⟨rfl, rfl⟩ := heq
      split at h
      · cases hr : rowBytes r with
        | none => rw [hr] at h; simp at h
        | some l' =>
          rw [hr] at h; simp at h
          obtain ⟨xs, h1, h2⟩ := rowBytes_spec hr
          exact ⟨n :: xs, by simp [h1], by simp [← h, h2]⟩
      · simp at h
    · simp at h

theorem flat_singles (xs : List Int) : (xs.map fun x => [AV.int .u8 x]).flatten = xs.map fun x => AV.int .u8 x := by
  induction xs with
  | nil => rfl
  | cons x r ih => simp [ih]
theorem rel_ints {m : MMap} : ∀ {xs : List Int} {cs : List Value}, RelL m (xs.map fun x => AV.int .u8 x) cs → cs = xs.map (Value.int .u8)
  | [], cs, h => by have := h.1; simp at this; simpa using this.symm
  | x :: r, [], h => by have := h.1; simp at this
  | x :: r, c :: cs, h => by
    have h0 := (h.2 0 _ _ rfl rfl).int_inv
    have ht : RelL m (r.map fun x => AV.int .u8 x) cs := ⟨by have := h.1; simpa using this, fun i v u hv hu => h.2 (i + 1) v u (by simpa using hv) (by simpa using hu)⟩
    rw [h0, rel_ints ht]
    rfl

theorem run_bytes_str {P : Program} (w : World) (s d e : TypeId) (hs : P.underlying s = some (.slice e)) (he : P.underlying e = some (.int .u8)) (hd : P.underlying d = some .string) (a : Addr) (n cap : Nat) (xs : List Int)
    (hl : (loadCells a n).run P w = .ok (xs.map (Value.int .u8)).toArray w) : (convert s d (.slice (some a) n cap)).run P w = .ok (.string ⟨(xs.map fun n => UInt8.ofNat n.toNat).toArray⟩) w := by
  rw [run_convert_bytes_string w s d e _ n cap hs he hd, run_bytesToString w _ n cap xs hl, foldl_push_bytes]
  simp [ByteArray.empty, ByteArray.emptyWithCapacity]
  rfl

theorem aeff_sound {P : Program} {m : MMap} {H : AHeap} {w : World} (hH : HRel m H w) {ev : Operand → AV} {ρ : Operand → Value} {op : Op} {K : AV → AHeap → Prop} (hr : ∀ x ∈ op.operands, Rel m (ev x) (ρ x)) (h : AEff P H ev op K) : Eff P m H w ρ op K := by
  unfold AEff at h
  split at h
  · rename_i T
    split at h
    · rename_i z hz
      obtain ⟨ho, h⟩ := h
      obtain ⟨zv, hz1, hz2⟩ := zeroO_at hz
      obtain ⟨g1, g2, g3⟩ := eff_new (P := P) hH T ho ((hz2 m).cells (ones_ne_un ho))
      have hzl := ((hz2 m).cells (ones_ne_un ho)).1
      have g4 := ptrOf_rel (m := m.add ⟨w.heap.size, 0, z.cells.length, zv.cells.size, false, some T⟩) (T := T) (z := z) (n := H.length) (by rw [MMap.add_l, ← hH.len]; simp; exact ⟨rfl, rfl⟩) (by simpa using hzl.symm)
      refine .inl ⟨_, _, _, _, _, h, g1, g2, g4, fun o e => .inl ?_⟩
      simp [execOp, e, Instr.alloc, hz1, newVar, newRow]
    · exact h.elim
  · rename_i T x
    obtain ⟨ho, h⟩ := h
    obtain ⟨g1, g2, g3⟩ := eff_new (P := P) hH T ho ((hr x (by simp [Op.operands])).cells (ones_ne_un ho))
    refine .inl ⟨_, _, _, _, _, h, g1, g2, g3, fun o e => .inl ?_⟩
    simp [execOp, e, Instr.box, newVar, newRow]
  · rename_i T a x
    split at h
    · rename_i b i j ha
      split at h
      · rename_i A hA
        obtain ⟨hown, h⟩ := h
        split at h
        · rename_i row hrow
          obtain ⟨ho, hsz, hj, h⟩ := h
          have ra := hr a (by simp [Op.operands])
          rw [ha] at ra
          obtain ⟨B, hB, hv, e⟩ := ra.ptr_inv
          have hc := (hr x (by simp [Op.operands])).cells (ones_ne_un ho)
          have h1 := onesA_rel ho hc
          obtain ⟨g1, g2, g3⟩ := hH.store hA hown hrow hB hv hc h1 hj
          have hst := run_storeCells_cells (P := P) B.blk (B.base + i * B.sz + j) (ρ x).cells.toList 0 w (fun k hk => by simpa using (g1 k hk).1) (fun k hk => by simpa using (g1 k hk).2) h1
          have hcl := hc.1
          rw [show ({ A with rows := A.rows.set i (splice row j (ev x).cells) } : Blk) = ⟨true, A.sz, A.rows.set i (splice row j (ev x).cells)⟩ by rw [← hown]] at g2 g3
          refine .inl ⟨_, undef, _, _, _, h, g2, g3, .tup (cs := []) rfl (fun i v r h => by simp at h), fun o eo => .inr ⟨?_, rfl⟩⟩
          have hn : ¬ ((ρ x).cells.size ≠ (ev x).cells.length) := by simp at hcl; omega
          simp only [Nat.add_zero] at hst
          simp [execOp, eo, Instr.storeAt, e, Instr.sureAddr, storeVar, run_sizeOf hsz, hst]
          simp at hcl; omega
        · exact h.elim
      · exact h.elim
    · exact h.elim
  · rename_i T n parts
    split at h
    · rename_i e he
      split at h
      · rename_i sz hsz
        obtain ⟨⟨hidx, hbig, hbig2, hz0⟩, hp, h⟩ := h
        obtain ⟨z, hz⟩ := Option.isSome_iff_exists.1 hz0
        obtain ⟨zv, hz1, hz2⟩ := zeroO_at hz
        have hplen : parts.toList.length = n := by have := congrArg List.length hidx; simpa using this
        have hmem : ∀ p ∈ parts.toList, Rel m (ev p.2) (ρ p.2) := fun p hp' => hr p.2 (by simp [Op.operands]; exact ⟨p.1, by simpa using hp'⟩)
        -- the cells
        have hfill := fillA_seq sz (parts.toList.map fun p => (p.1, ev p.2)) 0 [] (List.replicate (n * sz) .un) (by simp only [List.map_map, List.length_map, hplen, ← List.range_eq_range', ← hidx]; rfl)
          (fun p hp' => by obtain ⟨q, hq, rfl⟩ := List.mem_map.1 hp'; exact (hp q hq).2) rfl (by simp) (by simp [hplen])
        simp only [List.flatten_nil, List.nil_append, List.map_map] at hfill
        have hrl : ∀ r ∈ parts.toList.map (fun p => (ev p.2).cells), r.length = sz := fun r hr' => by obtain ⟨q, hq, rfl⟩ := List.mem_map.1 hr'; exact (hp q hq).2
        have hro : ∀ r ∈ parts.toList.map (fun p => (ev p.2).cells), onesA r := fun r hr' => by obtain ⟨q, hq, rfl⟩ := List.mem_map.1 hr'; exact (hp q hq).1
        have hu := elemT_under he
        -- the zero cells, whatever they are
        let c0 : Array Value := (Array.range (n * sz)).map ((if n * sz = 0 then #[] else zv.cells)[· % (if n * sz = 0 then #[] else zv.cells).size]!)
        have hc0 : RelL m (List.replicate (n * sz) .un) c0.toList := by
          have := RelL.un m c0.toList
          simpa [c0] using this
        have hpp : ∀ (i : Nat) (p : Nat × AV) (q : Nat × Value), (parts.toList.map fun p => (p.1, ev p.2))[i]? = some p → (parts.toList.map fun p => (p.1, ρ p.2))[i]? = some q → p.1 = q.1 ∧ p.2 ≠ .un ∧ Rel m p.2 q.2 := by
          intro i p q hp' hq'
          rw [List.getElem?_map] at hp' hq'
          cases hpi : parts.toList[i]? with
          | none => rw [hpi] at hp'; simp at hp'
          | some x =>
            rw [hpi] at hp' hq'
            simp at hp' hq'
            subst hp'; subst hq'
            have hx := List.mem_of_getElem? hpi
            exact ⟨rfl, ones_ne_un (hp x hx).1, hmem x hx⟩
        obtain ⟨rl, hrl1, hrl2⟩ := fill_rel hpp (by simp) hc0 hfill
        have hrl3 : RelL m (parts.toList.map (fun p => (ev p.2).cells)).flatten rl := hrl2
        obtain ⟨g1, g2, g3⟩ := rows_alloc hH e hrl hro hrl3 (by simp [hplen]; simp only [maxLen]; omega)
        have hlen : (parts.toList.map (fun p => (ev p.2).cells)).length = n := by simp [hplen]
        rw [hlen] at g3
        refine .inl ⟨_, _, _, _, _, h, g1, g2, g3, fun o eo => .inl ?_⟩
        have hbig' : ¬ (n * sz > 2 ^ 24) := by omega
        have hzc : ((if n * sz = 0 then pure #[] else do pure (← zeroValue e).cells : Sem (Array Value))).run P w = .ok (if n * sz = 0 then #[] else zv.cells) w := by
          split <;> simp [hz1]
        have hcc : c0.toList.toArray = c0 := by simp
        rw [hcc] at hrl1
        simp only [execOp, eo, Instr.buildSlice, Sem.run_bind, run_underlying hu, Result.andThen_ok, run_sizeOf hsz, if_neg hbig', Array.toList_map]
        by_cases hz' : n * sz = 0
        · have hc : c0 = (Array.range (n * sz)).map (fun x => (#[] : Array Value)[x % (#[] : Array Value).size]!) := by
            show Array.map _ _ = _
            rw [if_pos hz']
          rw [hc] at hrl1
          simp only [if_pos hz', Sem.run_bind, Sem.run_pure, Result.andThen_ok]
          rw [hrl1]
          simp [newRow]
        · have hc : c0 = (Array.range (n * sz)).map (fun x => zv.cells[x % zv.cells.size]!) := by
            show Array.map _ _ = _
            rw [if_neg hz']
          rw [hc] at hrl1
          simp only [if_neg hz', Sem.run_bind, Sem.run_pure, Result.andThen_ok, hz1]
          rw [hrl1]
          simp [newRow]
      · exact h.elim
    · exact h.elim
  · rename_i T n c
    split at h
    · rename_i k z k' z' e hn hc he
      split at h
      · rename_i sz bytes zv hsz hby hz
        obtain ⟨rfl, h0, hb, hmx, ho, hzl, h⟩ := h
        obtain ⟨rz, hz1, hz2⟩ := zeroO_at hz
        have rn := hr n (by simp [Op.operands])
        have rc := hr c (by simp [Op.operands])
        rw [hn] at rn
        rw [hc] at rc
        have rn := rn.int_inv
        have rc := rc.int_inv
        have hu := elemT_under he
        unfold bytesO at hby
        unfold szO at hsz
        cases hi : P.info? e with
        | none => rw [hi] at hby; simp at hby
        | some ti =>
          rw [hi] at hby hsz
          simp at hby hsz
          have hzc := (hz2 m).cells (ones_ne_un ho)
          have hzs : rz.cells.size = sz := by have := hzc.1; rw [hzl] at this; simpa using this.symm
          have hrl : ∀ r ∈ List.replicate z.toNat zv.cells, r.length = sz := fun r hr' => by rw [(List.mem_replicate.1 hr').2]; exact hzl
          have hro : ∀ r ∈ List.replicate z.toNat zv.cells, onesA r := fun r hr' => by rw [(List.mem_replicate.1 hr').2]; exact ho
          obtain ⟨zc, hzc0, hzc1⟩ : ∃ zc : Array Value, (z.toNat * sz = 0 → zc = #[]) ∧ (¬ z.toNat * sz = 0 → zc = rz.cells) := by
            by_cases h9 : z.toNat * sz = 0
            · exact ⟨#[], fun _ => rfl, fun h => absurd h9 h⟩
            · exact ⟨rz.cells, fun h => absurd h h9, fun _ => rfl⟩
          have hcells : RelL m (List.replicate z.toNat zv.cells).flatten ((List.range (z.toNat * sz)).map fun x => zc[x % zc.size]!) := by
            have hfl := flat_length sz _ hrl
            refine ⟨by rw [hfl]; simp, fun i v r hv hr' => ?_⟩
            have hil : i < z.toNat * sz := by have := (List.getElem?_eq_some_iff.1 hv).1; rw [hfl] at this; simpa using this
            have hne : ¬ (z.toNat * sz = 0) := by omega
            have hs : 0 < sz := by
              rcases Nat.eq_zero_or_pos sz with h9 | h9
              · rw [h9] at hil; simp at hil
              · exact h9
            have hm := Nat.mod_lt i hs
            have e1 : i / sz * sz + i % sz = i := by rw [Nat.mul_comm]; exact Nat.div_add_mod i sz
            rw [← e1, flat_get sz _ hrl _ _ hm, List.getElem?_replicate, if_pos (Nat.div_lt_of_lt_mul (by rw [Nat.mul_comm]; exact hil))] at hv
            simp at hv
            rw [List.getElem?_map, List.getElem?_range hil, hzc1 hne] at hr'
            simp only [Option.map_some, Option.some.injEq] at hr'
            subst hr'
            obtain ⟨r', h5, h6⟩ := hzc.get hv
            have : rz.cells[i % sz]? = some r' := by simpa using h5
            rw [hzs]
            have e2 : rz.cells[i % sz]! = r' := by rw [getElem!_def, this]
            rw [e2]; exact h6
          have hw1 : IntKind.i64.wrap z = z := IntWalk.i64_in z ⟨by omega, by omega⟩
          have hl2 : (List.replicate z.toNat zv.cells).length = z.toNat := by simp
          obtain ⟨g1, g2, g3⟩ := rows_alloc hH e hrl hro hcells (by simp only [maxLen]; simp; omega)
          rw [hl2] at g3
          refine .inl ⟨_, _, _, _, _, h, g1, g2, g3, fun o eo => .inl ?_⟩
          have hbi : (ti.bytes : Int) * z ≤ 281474976710656 := by rw [hby, Int.mul_comm]; omega
          have hneg : ¬ z < 0 := by omega
          have hca : ((List.range (z.toNat * sz)).map fun x => zc[x % zc.size]!).toArray = (Array.range (z.toNat * sz)).map fun x => zc[x % zc.size]! := by
            apply Array.ext'; simp
          rw [hca]
          by_cases hz' : z.toNat * sz = 0
          · rw [hzc0 hz']
            simp [execOp, eo, Instr.makeSlice, run_underlying hu, rn, rc, asInt, asIntOf, typeInfo, hi, hw1, hneg, h0, hbi, sizeOf, hsz, hz', newRow]
            intro h9; omega
          · rw [hzc1 hz']
            simp [execOp, eo, Instr.makeSlice, run_underlying hu, rn, rc, asInt, asIntOf, typeInfo, hi, hw1, hneg, h0, hbi, sizeOf, hsz, newRow, hz1]
            rw [if_neg (by omega), if_neg hz']
      · exact h.elim
    · exact h.elim
  · rename_i s d x
    split at h
    · rename_i e l hs hd hx
      obtain ⟨he, hsz, hmxl, h⟩ := h
      have rx := hr x (by simp [Op.operands])
      rw [hx] at rx
      have rx := rx.str_inv
      have hrun := Lib.run_convert_string_bytes (P := P) w s d e ⟨l.toArray⟩ hs hd he
      rw [str_size] at hrun
      have hge := grownCap_ge w l.length 0 e
      have hN : (Lib.bytesCells w e ⟨l.toArray⟩).size = grownCap w l.length 0 e := by
        have h5 : (Lib.bytesCells w e ⟨l.toArray⟩).size = l.length + (grownCap w (⟨l.toArray⟩ : ByteArray).size 0 e - (⟨l.toArray⟩ : ByteArray).size) := by simp [Lib.bytesCells]
        rw [h5, str_size]; omega
      have hw : ∀ r, r < w.heap.size → (Lib.bytesWorld w e ⟨l.toArray⟩).heap[r]? = w.heap[r]? := fun r hr => Lib.bytesWorld_at_old w e _ r hr
      have hH' := (hH.world hw).add ⟨w.heap.size, 0, 1, (Lib.bytesCells w e ⟨l.toArray⟩).size, false, none⟩ ⟨true, 1, l.map fun c => [AV.int .u8 c.toNat]⟩
        ⟨rfl, fun hv => by simp at hv, by simpa using hmxl, fun _ => ⟨_, _, _, Lib.bytesWorld_at_new w e _, rfl, by rw [hN]; simpa using hge, fun i row hi => by
          rw [List.getElem?_map] at hi
          cases hli : l[i]? with
          | none => rw [hli] at hi; simp at hi
          | some c =>
            rw [hli] at hi
            simp at hi
            subst hi
            refine ⟨rfl, fun j v hj => ?_⟩
            cases j with
            | succ j => simp at hj
            | zero =>
              simp at hj; subst hj
              have hil := (List.getElem?_eq_some_iff.1 hli)
              obtain ⟨hil, hc⟩ := hil
              refine ⟨.int .u8 c.toNat, ?_, .int _ _, rfl⟩
              simp [Lib.bytesCells, Array.getElem?_append, hil, hc], fun _ o ho hc => absurd hc.1 (Nat.not_le_of_lt ho)⟩, fun _ t ht => by simp at ht⟩
        (fun _ b A' B' hb hB hv hlt => by have := hH.lt hb hB hv; simp at hlt; omega) (fun _ _ => hH.zlt (Nat.le_refl _))
      refine .inl ⟨_, .slice (some ⟨w.heap.size, 0, none⟩) l.length (grownCap w l.length 0 e), _, _, _, h, hH', ⟨.append _ _, rfl, rfl, rfl, by rw [Lib.bytesWorld_size]; omega, fun r hr => ?_, fun b B hb hv => (add_new (R := fun B => w.heap.size ≤ B.blk) (Nat.le_refl _) b B hb).imp id .inr, fun _ _ h => .inl h, fun _ h => dead_add h, fun r hr _ => hw r hr⟩, ?_, fun o eo => .inl ?_⟩
      · rcases Img.add hH.len hr with h3 | ⟨_, _, h3⟩
        · exact .inl h3
        · simp at h3; exact .inr (by omega)
      · have := Rel.sl (m := m.add ⟨w.heap.size, 0, 1, (Lib.bytesCells w e ⟨l.toArray⟩).size, false, none⟩) (b := H.length) (i := 0) (n := l.length) (cap := grownCap w l.length 0 e) (B := ⟨w.heap.size, 0, 1, (Lib.bytesCells w e ⟨l.toArray⟩).size, false, none⟩) (by rw [MMap.add_l, ← hH.len]; simp) rfl hge (by simp [hN])
        simpa using this
      · simp [execOp, eo, rx, hrun]
    · rename_i e hs hd hx
      obtain ⟨he, h⟩ := h
      have rx := hr x (by simp [Op.operands])
      rw [hx] at rx
      generalize hρ : ρ x = rv at rx
      cases rx
      refine .inl ⟨_, _, m, H, w, h, hH, .refl _ _ _, .str [], fun o eo => .inl ?_⟩
      have := run_convert_bytes_nil (P := P) w s e hs he 0 0 d hd
      simp [execOp, eo, hρ, this]
      rfl
    · rename_i e b i n hs hd hx
      obtain ⟨he, h⟩ := h
      have rx := hr x (by simp [Op.operands])
      rw [hx] at rx
      split at h
      · rename_i A hA
        obtain ⟨hsz, hn, h⟩ := h
        split at h
        · rename_i l hl
          obtain ⟨xs, hx1, rfl⟩ := rowBytes_spec hl
          refine .inl ⟨_, _, m, H, w, h, hH, .refl _ _ _, .str _, fun o eo => .inl ?_⟩
          generalize hρ : ρ x = rv at rx
          cases rx with
          | sl hB hv hcap hN =>
            obtain ⟨_, cs, c1, c2, c3⟩ := hH.rowsAt (i := i) hA hB hv hn
            rw [hx1, flat_singles] at c1
            have hcs := rel_ints c1
            have hln : cs.length = n := by rw [hcs]; have := congrArg List.length hx1; simp at this; simp; omega
            have := run_loadCells_list (P := P) w _ cs (fun j u hj => by rw [add_lit]; exact c3 j u hj)
            rw [hln, hcs] at this
            simp [execOp, eo, hρ, run_bytes_str w s d e hs he hd _ n _ xs this]
          | sl0 hB =>
            have hx0 : xs = [] := by simpa using hx1
            subst hx0
            rename_i a
            cases a with
            | none =>
              have := run_convert_bytes_nil (P := P) w s e hs he 0 0 d hd
              simp [execOp, eo, hρ, this]
              rfl
            | some a =>
              have := run_bytes_str w s d e hs he hd a 0 0 [] (by simpa using run_loadCells_list (P := P) w a [] (by simp))
              simp [execOp, eo, hρ, this]
        · exact h.elim
      · exact h.elim
    · rename_i e sz rows hs hd hx
      obtain ⟨he, h⟩ := h
      have rx := hr x (by simp [Op.operands])
      rw [hx] at rx
      split at h
      · rename_i l hl
        obtain ⟨xs, hx1, rfl⟩ := rowBytes_spec hl
        refine .inl ⟨_, _, m, H, w, h, hH, .refl _ _ _, .str _, fun o eo => .inl ?_⟩
        obtain ⟨xa, cap, cs, e1, c1, c2, c3, c4⟩ := lst_cells hH rx
        subst hx1
        rw [flat_singles] at c1
        have hcs := rel_ints c1
        by_cases hx0 : xs = []
        · subst hx0
          cases xa with
          | none =>
            have := run_convert_bytes_nil (P := P) w s e hs he 0 cap d hd
            simp [execOp, eo, e1, this]
            rfl
          | some a =>
            have := run_bytes_str w s d e hs he hd a 0 cap [] (by simpa using run_loadCells_list (P := P) w a [] (by simp))
            simp [execOp, eo, e1, this]
        · obtain ⟨ad, rfl, c5⟩ := c4 (by simpa using hx0)
          have hln : cs.length = xs.length := by rw [hcs]; simp
          have := run_loadCells_list (P := P) w _ cs c5
          rw [hln, hcs] at this
          simp [execOp, eo, e1, run_bytes_str w s d e hs he hd _ xs.length _ xs this]
      · exact h.elim
    · exact h.elim
  · rename_i args argTypes
    split at h
    · rename_i x y T T' ha ht
      rcases h with h | ⟨hu, e, bytes, z, s, hT, hy, h⟩
      rotate_left
      · have ha : args = #[x, y] := by apply Array.ext'; simpa using ha
        have ht : argTypes = #[T, T'] := by apply Array.ext'; simpa using ht
        subst ha; subst ht
        have hu := isStrT_under hu
        have rx := hr x (by simp [Op.operands, Call.operands])
        have ry := hr y (by simp [Op.operands, Call.operands])
        rw [hy] at ry
        have ry := ry.str_inv
        rcases h with ⟨hx, hb, hmx, h1, h2⟩ | ⟨b, n, A, hx, hA, hown, hn, hb, hmx, h⟩
        · rw [hx] at rx
          generalize hρ : ρ x = rv at rx
          cases rx
          by_cases h0 : s = []
          · subst h0
            obtain ⟨ti, hi, _⟩ := hT.info
            have := run_append_zero_str (P := P) w hT.under hi hu
            refine .inl ⟨_, _, m, H, w, h1 rfl, hH, .refl _ _ _, .nil, fun o eo => .inl ?_⟩
            have := this o.type none 0 0 (Nat.le_refl _)
            simp [execOp, eo, resolve, invoke, builtin, hρ, ry, this]
          · obtain ⟨r, w', m', g1, g2, g3, g4⟩ := hH.appendS0 hT hu T s h0 hb hmx
            refine .inl ⟨_, _, _, _, _, h2 h0, g2, g3, g4, fun o eo => .inl ?_⟩
            have g1' : (Builtin.append_ #[T, T'] o.type #[.slice none 0 0, .string ⟨s.toArray⟩]).run P w = .ok r w' := g1
            simp [execOp, eo, resolve, invoke, builtin, hρ, ry, g1']
        · rw [hx] at rx
          obtain ⟨r, w', m', g1, g2, g3, g4⟩ := hH.appendS hT hu T s rx hA hown hn hb hmx
          refine .inl ⟨_, _, _, _, _, h, g2, g3, g4, fun o eo => .inl ?_⟩
          have g1' : (Builtin.append_ #[T, T'] o.type #[ρ x, .string ⟨s.toArray⟩]).run P w = .ok r w' := g1
          simp [execOp, eo, resolve, invoke, builtin, ry, g1']
      obtain ⟨rfl, e, sz, bytes, z, olds, H1, news, hT, hown, hrows, hnl, hb, hmx, h⟩ := h
      have ha : args = #[x, y] := by apply Array.ext'; simpa using ha
      have ht : argTypes = #[T, T] := by apply Array.ext'; simpa using ht
      subst ha; subst ht
      have rx := hr x (by simp [Op.operands, Call.operands])
      have ry := hr y (by simp [Op.operands, Call.operands])
      obtain ⟨xa, c, cs, hy, hcs, hc1, hcell⟩ := rowsOf_cells hH hrows ry
      obtain ⟨r, w', m', g1, g2, g3, g4⟩ := hH.append hT T rx hown (x := xa) (c := c) hnl hcs hc1 hcell hb hmx
      refine .inl ⟨_, _, _, _, _, h, g2, g3, g4, fun o eo => .inl ?_⟩
      have g1' : (Builtin.append_ #[T, T] o.type #[ρ x, .slice xa news.length c]).run P w = .ok r w' := g1
      simp [execOp, eo, resolve, invoke, builtin, hy, g1']
    · exact h.elim
  · rename_i args argTypes
    split at h
    · rename_i d s T T' ha ht
      have ha : args = #[d, s] := by apply Array.ext'; simpa using ha
      have ht : argTypes = #[T, T'] := by apply Array.ext'; simpa using ht
      subst ha; subst ht
      obtain ⟨e, b, i, n, A, news, he, hsz, hd, hA, hown, hn, hrows, hnl, h⟩ := h
      have rd := hr d (by simp [Op.operands, Call.operands])
      have rs := hr s (by simp [Op.operands, Call.operands])
      rw [hd] at rd
      obtain ⟨xa, c, cs, hy, hcs, hc1, hcell⟩ := rowsOf_cells hH hrows rs
      have hu := elemT_under he
      unfold szO at hsz
      cases hi : P.info? e with
      | none => rw [hi] at hsz; simp at hsz
      | some ti =>
        rw [hi] at hsz
        simp at hsz
        obtain ⟨B, hB, hR⟩ := hH.blk b A (hget_eq.1 hA)
        have hlt : (news.take n).length = min news.length n := by simp; omega
        generalize hρ : ρ d = rv at rd
        cases rd with
        | sl0 hB' =>
          have e0 : H.set b (some ⟨true, A.sz, overR A.rows i (news.take 0)⟩) = H := by
            have : (⟨true, A.sz, overR A.rows i (news.take 0)⟩ : Blk) = A := by
              obtain ⟨o, sz, rows⟩ := A
              simp only at hown
              subst hown
              simp [overR]
            rw [this]
            apply List.ext_getElem?
            intro t
            by_cases e1 : b = t
            · subst e1; rw [List.getElem?_set_self (hget_lt hA), hget_eq.1 hA]
            · rw [List.getElem?_set_ne e1]
          rw [e0] at h
          rename_i a0
          refine .inl ⟨_, _, m, H, w, h, hH, .refl _ _ _, .int _ _, fun o eo => .inl ?_⟩
          have := run_copy_void (P := P) w (sT := T') (ty := o.type) hu hi a0 xa 0 0 news.length c (by simp)
          have e2 : (min news.length 0 : Nat) = 0 := by omega
          simp [execOp, eo, resolve, invoke, builtin, hρ, hy, this, e2]
          rfl
        | sl hB' hv hcap hN =>
          rename_i cap B2
          rw [hB] at hB'; injection hB' with e'; subst e'
          have hs2 := hR.sz
          have hfl := flat_length A.sz news hnl
          have hnl2 : ∀ row ∈ news.take n, row.length = B.sz := fun row hm => by rw [← hs2]; exact hnl row (List.mem_of_mem_take hm)
          have hfl2 := flat_length B.sz _ hnl2
          have hpre : (news.take n).flatten = news.flatten.take ((news.take n).flatten.length) := by
            have : news.flatten = (news.take n).flatten ++ (news.drop n).flatten := by rw [← List.flatten_append, List.take_append_drop]
            rw [this, List.take_left']
            rfl
          have hcs2 : RelL m (news.take n).flatten (cs.take ((news.take n).flatten.length)) := by
            have := hcs.take ((news.take n).flatten.length)
            rwa [← hpre] at this
          have hc12 : ∀ u ∈ cs.take ((news.take n).flatten.length), u.oneCell' = true := fun u hu => hc1 u (List.mem_of_mem_take hu)
          obtain ⟨g0, g1, g2⟩ := hH.storeRows (i := i) (vs := news.take n) hA hown hB hv (by rw [hlt]; omega) hnl2 hcs2 hc12
          refine .inl ⟨_, _, m, _, _, h, g1, g2, .int _ _, fun o eo => .inl ?_⟩
          have hcl : (cs.take ((news.take n).flatten.length)).length = Nat.min news.length n * ti.size := by
            rw [← hcs2.1, hfl2, hlt, hsz, hs2]
          have := run_copy_gen (P := P) w (sT := T') (ty := o.type) hu hi B.blk (B.base + i * B.sz) n cap xa news.length c _ hcl (fun h0 => by
            have hne : news ≠ [] := fun e => by subst e; simp at h0
            obtain ⟨ad, h3, h4⟩ := hcell hne
            exact ⟨ad, h3, fun j v hj => h4 j v (by
              rw [List.getElem?_take] at hj
              split at hj
              · exact hj
              · simp at hj)⟩) (fun hx => by
            rcases Nat.eq_zero_or_pos news.length with h5 | h5
            · exact h5
            · obtain ⟨ad, h3, _⟩ := hcell (List.length_pos_iff.1 h5)
              rw [h3] at hx; simp at hx) (fun j hj => (g0 j hj).1) (fun j hj => (g0 j hj).2) hc12
          simp [execOp, eo, resolve, invoke, builtin, hρ, hy, this]
          rfl
    · exact h.elim
  · rename_i args _
    split at h
    · rename_i x ha
      have ha : args = #[x] := by apply Array.ext'; simpa using ha
      subst ha
      have rx := hr x (by simp [Op.operands, Call.operands])
      split at h
      · rename_i hx
        rw [hx] at rx
        generalize hρ : ρ x = rv at rx
        cases rx
        refine .inl ⟨_, _, m, H, w, h, hH, .refl _ _ _, .nilp, fun o eo => .inl ?_⟩
        simp [execOp, eo, resolve, invoke, builtin, hρ, Lib.run_unsafeSliceData_nil]
      · rename_i e b n hx
        rw [hx] at rx
        generalize hρ : ρ x = rv at rx
        cases rx with
        | bf hB hv hty hb hs h0 hn hN =>
          refine .inl ⟨_, _, m, H, w, h, hH, .refl _ _ _, .bfp hB hv hty hb hs, fun o eo => .inl ?_⟩
          simp [execOp, eo, resolve, invoke, builtin, hρ]
          rw [Lib.run_unsafeSliceData_row w _ _ _ _ _ (by omega)]
          simp
      · exact h.elim
    · exact h.elim
  · rename_i args argTypes
    split at h
    · rename_i p n pt it ha ht
      have ha : args = #[p, n] := by apply Array.ext'; simpa using ha
      have ht : argTypes = #[pt, it] := by apply Array.ext'; simpa using ht
      subst ha; subst ht
      have rp := hr p (by simp [Op.operands, Call.operands])
      have rn := hr n (by simp [Op.operands, Call.operands])
      split at h
      · rename_i z hp hn
        obtain ⟨rfl, h⟩ := h
        rw [hp] at rp
        rw [hn] at rn
        have rn := rn.int_inv
        generalize hρ : ρ p = rv at rp
        cases rp
        refine .inl ⟨_, _, m, H, w, h, hH, .refl _ _ _, .str [], fun o eo => .inl ?_⟩
        simp [execOp, eo, resolve, invoke, builtin, hρ, rn]
        rw [Lib.run_unsafeString_none]
        simp
        rfl
      · rename_i e b z hp hn
        obtain ⟨hpt, hc, l, hA, h0, rfl, h⟩ := h
        rw [hp] at rp
        rw [hn] at rn
        have rn := rn.int_inv
        obtain ⟨B, hB, hR⟩ := hH.blk b _ (hget_eq.1 hA)
        have hmx := hR.max
        simp only [byteRows_len, maxLen] at hmx
        have key := fun ty => hH.freezeS (P := P) (pt := pt) (it := it) (ty := ty) (rv := ρ p) hpt hc rp hA h0 (by omega)
        obtain ⟨w', g1, g2, g3⟩ := key pt
        refine .inl ⟨_, _, m, _, w', h, g2, g3, .str l, fun o eo => .inl ?_⟩
        have g1' : (Builtin.unsafeString_ #[pt, it] o.type #[ρ p, .int .i64 l.length]).run P w = .ok (.string ⟨l.toArray⟩) w' := g1
        simp [execOp, eo, resolve, invoke, builtin, rn, g1']
      · exact h.elim
    · exact h.elim
  · rename_i f args _
    split at h
    · rename_i g cap hg
      have rf := hr f (by simp [Op.operands, Call.operands])
      rw [hg] at rf
      obtain ⟨caps, e, hcap⟩ := rf.fn_inv
      obtain ⟨fn, hfn, hbody, hname⟩ := h.1
      refine .inr ⟨g, _, _, h, (zip_rel (m := m) (ρ := ρ) args.toList fun x hx => hr x (by simp [Op.operands, Call.operands]; exact .inr (by simpa using hx))).append hcap, fun o eo => ?_⟩
      have hb : ¬ fn.body = none := fun e => by rw [e] at hbody; simp at hbody
      have hn : ¬ fn.name = "runtime.NumGoroutine" := fun e => by rw [e] at hname; simp at hname
      simp [execOp, eo, resolve, e, Deferred.ofValue, invoke, callFunc, hfn, hn, hb]
    · exact h.elim
  · exact h.elim

end Go.Ab
