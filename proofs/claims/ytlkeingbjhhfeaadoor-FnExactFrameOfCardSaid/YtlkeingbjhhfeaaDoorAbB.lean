/- The abstract machine: regions, code, calls. -/
import Derived.Test.YtlkeingbjhhfeaaDoorAbA
set_option linter.unusedVariables false
set_option linter.unusedSimpArgs false
namespace Go.Ab

def pureConv (P : Program) (s d : TypeId) : Bool :=
  match P.underlying s, P.underlying d with
  | some (.int _), _ => true
  | some .string, some .string => true
  | _, _ => false

inductive Cls where
  | p | l | c
def cls (P : Program) : Op → Cls
  | .load _ _ => .l
  | .alloc _ | .box _ _ | .store _ _ _ | .buildSlice _ _ _ | .makeSlice _ _ _ => .c
  | .convert s d _ => if pureConv P s d then .p else .c
  | .call { callee := .builtin .len, .. } | .call { callee := .builtin .min, .. } | .call { callee := .builtin .max, .. } => .p
  | .call _ => .c
  | _ => .p

def AExec (P : Program) (H : AHeap) (ev : Operand → AV) (op : Op) (K : AV → AHeap → Prop) : Prop :=
  match cls P op with
  | .p => APure P H ev op fun v => K v H
  | .l => match op with
    | .load T a => ALoad P H ev T a fun v => K v H
    | _ => False
  | .c => AEff P H ev op K

theorem aexec_sound {P : Program} {m : MMap} {H : AHeap} {w : World} (hH : HRel m H w) {ev : Operand → AV} {ρ : Operand → Value} {op : Op} {K : AV → AHeap → Prop} (hr : ∀ x ∈ op.operands, Rel m (ev x) (ρ x)) (h : AExec P H ev op K) : Eff P m H w ρ op K := by
  unfold AExec at h
  split at h
  · obtain ⟨v, hv, hp⟩ := apure_sound hH h
    obtain ⟨r, h1, h2⟩ := hp m ρ (.refl _) hr
    exact .inl ⟨v, r, m, H, w, hv, hH, .refl _ _ _, h1, fun o ho => .inl (h2 o w ho)⟩
  · split at h
    · rename_i T a _
      obtain ⟨v, hv, hp⟩ := aload_sound hH h
      obtain ⟨r, h1, h2⟩ := hp m H w ρ (.refl _) hH (fun _ _ _ _ => rfl) (hr a (by simp [Op.operands]))
      exact .inl ⟨v, r, m, H, w, hv, hH, .refl _ _ _, h1, fun o ho => .inl (h2 o ho)⟩
    · exact h.elim
  · exact aeff_sound hH hr h

def putE (e : Env) : Option Nat → AV → Env
  | some d, v => upd e d v
  | none, _ => e

/-- Operations, one behind the other. -/
def aops (P : Program) (ops : Array Oper) : List Nat → Env → AHeap → (Env → AHeap → Prop) → Prop
  | [], e, H, K => K e H
  | i :: rest, e, H, K => match ops[i]? with
    | none => aops P ops rest e H K
    | some o => match o.guard with
      | none => AExec P H (eo e) o.op fun v H' => aops P ops rest (putE e o.dst v) H' K
      | some (j, want) => match (ops[j]?).bind (·.dst) with
        | none => aops P ops rest (putE e o.dst (.tup [])) H K
        | some d => match e d with
          | .bool b => (b = want → AExec P H (eo (upd e d (.bool want))) o.op fun v H' => aops P ops rest (putE (upd e d (.bool want)) o.dst v) H' K) ∧
              (b = (!want) → aops P ops rest (putE (upd e d (.bool (!want))) o.dst (.tup [])) H K)
          | .tup [] => aops P ops rest (putE e o.dst (.tup [])) H K
          | _ => False

def dstOk (n : Nat) (ops : Array Oper) : Bool := ops.all fun o => match o.dst with | some d => decide (d < n) | none => true
theorem dstOk_spec {n : Nat} {ops : Array Oper} (h : dstOk n ops = true) {i : Nat} {o : Oper} (ho : ops[i]? = some o) {d : Nat} (hd : o.dst = some d) : d < n := by
  have := Array.all_eq_true_iff_forall_mem.1 h o (Array.mem_of_getElem? ho)
  rw [hd] at this
  simpa using this

theorem rel_undef (m : MMap) : Rel m (.tup []) undef := .tup (cs := []) rfl fun i v r h => by simp at h

theorem ERel.putO {m : MMap} {e : Env} {a : Act} (h : ERel m e a) {dst : Option Nat} (hd : ∀ d, dst = some d → d < a.tmps.size) {v : AV} {r : Value} (hv : Rel m v r) : ERel m (putE e dst v) (a.put dst r) := by
  cases dst with
  | none => exact h
  | some d => exact h.put (hd d rfl) hv
theorem Act.put_size (a : Act) (dst : Option Nat) (r : Value) : (a.put dst r).tmps.size = a.tmps.size ∧ (a.put dst r).defers = a.defers := by
  cases dst <;> simp [Act.put]

theorem upd_same_rel {m : MMap} {e : Env} {a : Act} (h : ERel m e a) {d : Nat} {b : Bool} (he : e d = .bool b) : ERel m (upd e d (.bool b)) a := fun t => by
  unfold upd
  split
  · rename_i ht; subst ht; rw [← he]; exact h _
  · exact h t

/-- What is to follow. -/
def After (n : Nat) (m : MMap) (H : AHeap) (w : World) (a : Act) (K : Env → AHeap → Prop) (R : Act → World → Prop) : Prop :=
  ∀ (e' : Env) (H' : AHeap) (m' : MMap) (w' : World) (a' : Act), HRel m' H' w' → ERel m' e' a' → a'.tmps.size = n → a'.defers = a.defers → Stp m H w m' H' w' → K e' H' → R a' w'

theorem oper_sound {P : Program} {m : MMap} {H : AHeap} {w : World} {a : Act} {e : Env} {o : Oper} {K : AV → AHeap → Prop} {R : Act → World → Prop} {Q : Exit → Act → World → Prop} (hH : HRel m H w) (hE : ERel m e a) (h : AExec P H (eo e) o.op K)
    (hR : ∀ (v : AV) (r : Value) (m' : MMap) (H' : AHeap) (w' : World), HRel m' H' w' → Stp m H w m' H' w' → Rel m' v r → K v H' → R (a.put o.dst r) w') : o.wp P a w R Q := by
  unfold Oper.wp
  rcases aexec_sound (ρ := a.eval) hH (fun x _ => eo_rel hE x) h with ⟨v, r, m', H', w', hK, h1, h2, h3, h4⟩ | ⟨g, avs, vs, hac, hvs, hrun⟩
  · rcases h4 o rfl with h5 | ⟨h5, hu⟩
    · rw [h5]; exact hR v r m' H' w' h1 h2 h3 hK
    · rw [h5]; subst hu; exact hR v undef m' H' w' h1 h2 h3 hK
  · rw [hrun o rfl]
    exact (hac.2 m w vs hH hvs).mono fun e w' ⟨v, r, m', H', he, g1, g2, g3, g4⟩ => by
      subst he; exact hR v r m' H' w' g1 g3 g2 g4

theorem aops_sound {P : Program} {n : Nat} {ops : Array Oper} (hok : dstOk n ops = true) {Q : Exit → Act → World → Prop} : ∀ (l : List Nat) {m : MMap} {H : AHeap} {w : World} {a : Act} {e : Env} {K : Env → AHeap → Prop},
    aops P ops l e H K → HRel m H w → ERel m e a → a.tmps.size = n → After n m H w a K (Q .normal) → wpOps P ops Q l a w
  | [], m, H, w, a, e, K, h, hH, hE, hn, hA => hA e H m w a hH hE hn rfl (.refl _ _ _) h
  | i :: rest, m, H, w, a, e, K, h, hH, hE, hn, hA => by
    simp only [aops] at h
    simp only [wpOps]
    cases ho : ops[i]? with
    | none => rw [ho] at h; exact aops_sound hok rest h hH hE hn hA
    | some o =>
      rw [ho] at h
      simp only at h ⊢
      have hd : ∀ d, o.dst = some d → d < a.tmps.size := fun d hd => by rw [hn]; exact dstOk_spec hok ho hd
      have step : ∀ (e1 : Env), ERel m e1 a → AExec P H (eo e1) o.op (fun v H' => aops P ops rest (putE e1 o.dst v) H' K) → o.wp P a w (wpOps P ops Q rest) Q := fun e1 hE1 h1 => by
        refine oper_sound hH hE1 h1 fun v r m' H' w' k1 k2 k3 k4 => ?_
        obtain ⟨s1, s2⟩ := Act.put_size a o.dst r
        exact aops_sound hok rest k4 k1 ((hE1.mono k2.mle).putO hd k3) (s1.trans hn) fun e' H'' m'' w'' a' g1 g2 g3 g4 g5 g6 => hA e' H'' m'' w'' a' g1 g2 g3 (g4.trans s2) (k2.trans g5) g6
      have skip : ∀ (e1 : Env), ERel m e1 a → aops P ops rest (putE e1 o.dst (.tup [])) H K → wpOps P ops Q rest (a.put o.dst undef) w := fun e1 hE1 h1 => by
        obtain ⟨s1, s2⟩ := Act.put_size a o.dst undef
        exact aops_sound hok rest h1 hH (hE1.putO hd (rel_undef m)) (s1.trans hn) fun e' H'' m'' w'' a' g1 g2 g3 g4 g5 g6 => hA e' H'' m'' w'' a' g1 g2 g3 (g4.trans s2) g5 g6
      cases hg : o.guard with
      | none =>
        rw [hg] at h
        simp only [Region.wanted, hg, if_true]
        exact .inl (step e hE h)
      | some gw =>
        obtain ⟨j, want⟩ := gw
        rw [hg] at h
        simp only at h
        cases hdj : (ops[j]?).bind (·.dst) with
        | none =>
          rw [hdj] at h
          have hy : yielded ops a.tmps j = none := by simp [yielded, hdj]
          simp only [Region.wanted, hg, hy]
          exact skip e hE h
        | some d =>
          rw [hdj] at h
          simp only at h
          have hEd := hE d
          split at h
          · rename_i b hb
            rw [hb] at hEd
            have hv := hEd.bool_inv
            have hlt : d < a.tmps.size := by
              rcases Nat.lt_or_ge d a.tmps.size with h' | h'
              · exact h'
              · rw [Array.getD_eq_getD_getElem?, Array.getElem?_eq_none h'] at hv; simp [undef] at hv
            have hy : yielded ops a.tmps j = some b := by
              have : a.tmps[d]? = some (.bool b) := by rw [Array.getD_eq_getD_getElem?, Array.getElem?_eq_getElem hlt] at hv; rw [Array.getElem?_eq_getElem hlt]; simpa using hv
              simp [yielded, hdj, this]
            simp only [Region.wanted, hg, hy]
            by_cases hw : b = want
            · subst hw
              simp only [beq_self_eq_true, if_true]
              exact .inl (step _ (upd_same_rel hE hb) (h.1 rfl))
            · have hbw : b = !want := by cases b <;> cases want <;> simp_all
              have : (some b == some want) = false := by simpa using hw
              simp only [this, Bool.false_eq_true, if_false]
              refine skip _ ?_ (h.2 hbw)
              rw [← hbw]; exact upd_same_rel hE hb
          · rename_i hb
            rw [hb] at hEd
            obtain ⟨cs, hv, hcs⟩ := hEd.tup_inv
            have hy : yielded ops a.tmps j = none := by
              unfold yielded
              rw [hdj]
              simp only [Option.bind_some]
              rw [Array.getD_eq_getD_getElem?] at hv
              cases ht : a.tmps[d]? with
              | none => rfl
              | some u => rw [ht] at hv; simp at hv; subst hv; rfl
            simp only [Region.wanted, hg, hy]
            exact skip e hE h
          · exact h.elim

inductive AX where
  | normal
  | exit (id : Nat)
  | ret
def AX.real : AX → Exit
  | .normal => .normal
  | .exit id => .exit id
  | .ret => .ret

/-- What is to hold when the loop's body is at its end. -/
def loopK (I : Nat → Env → AHeap → Prop) (N0 n : Nat) (K : AX → Env → AHeap → Prop) : AX → Env → AHeap → Prop
  | .normal, e', H' => ∃ n' e2 H2, n' < n ∧ (Closed H' → Retell N0 H' e' H2 e2) ∧ I n' e2 H2
  | .exit id, e', H' => K (.exit id) e' H'
  | .ret, e', H' => K .ret e' H'
/-- A loop: what holds at its head, with a number that falls. -/
def ALoop (N0 : Nat) (F : Env → AHeap → (AX → Env → AHeap → Prop) → Prop) (e : Env) (H : AHeap) (K : AX → Env → AHeap → Prop) : Prop :=
  Closed H → ∃ I : Nat → Env → AHeap → Prop, (∃ n e0 H0, Retell N0 H e H0 e0 ∧ I n e0 H0) ∧ ∀ n e1 H1, I n e1 H1 → F e1 H1 (loopK I N0 n K)

def thenK (F : Env → AHeap → Prop) (K : AX → Env → AHeap → Prop) : AX → Env → AHeap → Prop
  | .normal, e, H => F e H
  | .exit id, e, H => K (.exit id) e H
  | .ret, e, H => K .ret e H
def blockK (id : Nat) (K : AX → Env → AHeap → Prop) : AX → Env → AHeap → Prop
  | .normal, e, H => K .normal e H
  | .exit i, e, H => if i = id then K .normal e H else K (.exit i) e H
  | .ret, e, H => K .ret e H

end Go.Ab
/- The abstract machine: a region whose order is open. -/
set_option linter.unusedVariables false
set_option linter.unusedSimpArgs false
namespace Go.Ab

/-- Must j have come up before i? -/
inductive Bef (ops : Array Oper) : Nat → Nat → Prop
  | edge {i j : Nat} {o : Oper} {e : Edge} (ho : ops[i]? = some o) (he : e ∈ o.after) (hb : Region.binds .any e = true) (hj : e.on = j) : Bef ops j i
  | step {i j k : Nat} {o : Oper} {e : Edge} (ho : ops[i]? = some o) (he : e ∈ o.after) (hb : Region.binds .any e = true) (hk : e.on = k) (h : Bef ops j k) : Bef ops j i

def befM (ops : Array Oper) : Array Nat := Region.before ops
def befB (M : Array Nat) (j i : Nat) : Bool := (M.getD i 0).testBit j

theorem befB_spec {ops : Array Oper} {j i : Nat} (h : befB (befM ops) j i = true) : Bef ops j i := by
  have key : ∀ (l pre : List Oper) (acc : Array Nat), ops.toList = pre ++ l → acc.size = pre.length → (∀ i j, (acc.getD i 0).testBit j = true → Bef ops j i) →
      ∀ i j, ((l.foldl (fun (acc : Array Nat) (o : Oper) => acc.push (o.after.foldl (fun s e => if Region.binds .any e then s ||| 2 ^ e.on ||| acc.getD e.on 0 else s) 0)) acc).getD i 0).testBit j = true → Bef ops j i := by
    intro l
    induction l with
    | nil => intro pre acc _ _ h i j hi; exact h i j hi
    | cons o l ih =>
      intro pre acc hp hs h
      simp only [List.foldl_cons]
      refine ih (pre ++ [o]) _ (by simp [hp]) (by simp [hs]) ?_
      intro i j hi
      have ho : ops[pre.length]? = some o := by rw [← Array.getElem?_toList, hp]; simp
      by_cases hlt : i < acc.size
      · refine h i j ?_
        rw [Array.getD_eq_getD_getElem?] at hi ⊢
        rwa [Array.getElem?_push_lt hlt, ← Array.getElem?_eq_getElem hlt] at hi
      · by_cases he : i = acc.size
        · subst he
          rw [Array.getD_eq_getD_getElem?, Array.getElem?_push_size] at hi
          simp only [Option.getD_some] at hi
          have inner : ∀ (es : List Edge) (s : Nat), (∀ e ∈ es, e ∈ o.after) → (s.testBit j = true → Bef ops j acc.size) →
              (es.foldl (fun s e => if Region.binds .any e then s ||| 2 ^ e.on ||| acc.getD e.on 0 else s) s).testBit j = true → Bef ops j acc.size := by
            intro es
            induction es with
            | nil => intro s _ hs' h'; exact hs' h'
            | cons e es ih2 =>
              intro s hm hs' h'
              simp only [List.foldl_cons] at h'
              refine ih2 _ (fun e he => hm e (by simp [he])) ?_ h'
              intro h3
              split at h3
              · rename_i hb
                rw [Nat.testBit_or, Nat.testBit_or, Bool.or_eq_true, Bool.or_eq_true] at h3
                rcases h3 with (h3 | h3) | h3
                · exact hs' h3
                · rw [Nat.testBit_two_pow] at h3
                  exact .edge (by rw [hs]; exact ho) (hm e (by simp)) hb (by simpa using h3)
                · exact .step (by rw [hs]; exact ho) (hm e (by simp)) hb rfl (h _ _ h3)
              · exact hs' h3
          rw [← Array.foldl_toList] at hi
          exact inner o.after.toList 0 (fun e he => by simpa using he) (by simp) hi
        · rw [Array.getD_eq_getD_getElem?, Array.getElem?_eq_none (by simp; omega)] at hi
          simp at hi
  have h' := h
  unfold befB befM Region.before at h'
  rw [← Array.foldl_toList] at h'
  exact key ops.toList [] #[] (by simp) (by simp) (fun i j h => by simp at h) i j h'

/-- Listed is closed under what must come before. -/
def Down (ops : Array Oper) (listed : Array Bool) : Prop :=
  ∀ (i : Nat) (o : Oper), listed.getD i false = true → ops[i]? = some o → ∀ e ∈ o.after, Region.binds .any e = true → listed.getD e.on false = true

theorem Bef.listed {ops : Array Oper} {listed : Array Bool} (hd : Down ops listed) {j i : Nat} (h : Bef ops j i) (hi : ∀ o, ops[i]? = some o → ∀ e ∈ o.after, Region.binds .any e = true → listed.getD e.on false = true) : listed.getD j false = true := by
  induction h with
  | edge ho he hb hj => subst hj; exact hi _ ho _ he hb
  | step ho he hb hk h ih =>
    subst hk
    have := hi _ ho _ he hb
    exact ih fun o ho' e he' hb' => hd _ o this ho' e he' hb'

/-! ### What is asked of a region -/
inductive Kd where
  | pl | a | c
def isAlloc (P : Program) : Op → Bool
  | .alloc T => (zeroO P T).isSome
  | _ => false
def kd (P : Program) (lz : List Nat) (ops : Array Oper) (i : Nat) : Kd :=
  match ops[i]? with
  | none => .c
  | some o => match o.op with
    | .assign _ => .c
    | op => match cls P op with
      | .p => .pl
      | .l => .pl
      | .c => if lz.contains i && isAlloc P op && o.guard.isNone && o.dst.isSome then .a else .c
def Kd.isPl : Kd → Bool | .pl => true | _ => false
def Kd.isA : Kd → Bool | .a => true | _ => false
def Kd.isC : Kd → Bool | .c => true | _ => false

/-- The temporaries that an operation reads. -/
def reads (ops : Array Oper) (o : Oper) : List Nat :=
  (o.op.operands.toList.filterMap fun | .tmp t => some t | _ => none) ++ (match o.guard with | some (g, _) => ((ops[g]?).bind (·.dst)).toList | none => [])

def chkOrd (k : Nat → Kd) (ops : Array Oper) (M : Array Nat) : List Nat → List Nat → Bool
  | _, [] => true
  | pre, i :: rest =>
    (match ops[i]? with
      | some o => o.after.all fun e => !Region.binds .any e || pre.contains e.on
      | none => false) &&
    (match k i with
      | .pl => match pre.find? fun j => !(k j).isPl with
        | none => true
        | some h => (k h).isC && befB M h i
      | .c => pre.all fun j => (k j).isPl || befB M j i
      | .a => true) &&
    chkOrd k ops M (i :: pre) rest

def chkTmp (k : Nat → Kd) (ops : Array Oper) (M : Array Nat) : Bool :=
  (List.range ops.size).all fun x => match ops[x]? with
    | none => true
    | some ox => match ox.dst with
      | none => true
      | some t => (List.range ops.size).all fun y => match ops[y]? with
        | none => true
        | some oy =>
          if x == y then (k x).isC || !(reads ops oy).contains t
          else !((reads ops oy).contains t || oy.dst == some t) || befB M x y || ((k x).isC && befB M y x)

def nodupB : List Nat → Bool
  | [] => true
  | x :: l => !l.contains x && nodupB l
theorem nodupB_spec : ∀ {l : List Nat}, nodupB l = true → l.Nodup
  | [], _ => List.nodup_nil
  | x :: l, h => by
    unfold nodupB at h
    simp only [Bool.and_eq_true, Bool.not_eq_true'] at h
    exact List.nodup_cons.2 ⟨by simpa using h.1, nodupB_spec h.2⟩

def chkReg (P : Program) (lz σ : List Nat) (ops : Array Oper) : Bool :=
  chkOrd (kd P lz ops) ops (befM ops) [] σ && chkTmp (kd P lz ops) ops (befM ops) &&
  (List.range ops.size).all (fun i => σ.contains i) && σ.all (fun i => decide (i < ops.size)) && nodupB σ &&
  (ops.toList.zipIdx.all fun (o, i) => o.after.all fun e => !Region.binds .any e || decide (e.on < i))

/-- What an operation loads. -/
def loads (e : Env) (op : Op) (T : List (Nat × Nat)) : List (Nat × Nat) :=
  match op with
  | .load _ a => match eo e a with
    | .ptr b i _ => (b, i) :: T
    | _ => T
  | _ => T

/-- The rows that were loaded stand as they stood. -/
def rowsSame : List (Nat × Nat) → AHeap → AHeap → Prop
  | [], _, _ => True
  | p :: r, H', H => hrow H' p.1 p.2 = hrow H p.1 p.2 ∧ rowsSame r H' H
theorem rowsSame_all : ∀ {T : List (Nat × Nat)} {H' H : AHeap}, rowsSame T H' H → ∀ p ∈ T, hrow H' p.1 p.2 = hrow H p.1 p.2
  | [], _, _, _, p, hp => by simp at hp
  | q :: r, _, _, h, p, hp => by
    rcases List.mem_cons.1 hp with e | e
    · subst e; exact h.1
    · exact rowsSame_all h.2 p e
theorem rowsSame_refl (H : AHeap) : ∀ (T : List (Nat × Nat)), rowsSame T H H = True
  | [] => rfl
  | p :: r => by simp only [rowsSame, rowsSame_refl H r, and_self]
/-- Operations in an order that tells all orders. -/
def aopsD (P : Program) (k : Nat → Kd) (ops : Array Oper) : List Nat → List (Nat × Nat) → Env → AHeap → (Env → AHeap → Prop) → Prop
  | [], _, e, H, K => K e H
  | i :: rest, T, e, H, K => match ops[i]? with
    | none => False
    | some o =>
      match o.guard with
      | none => AExec P H (eo e) o.op fun v H' => rowsSame T H' H ∧ aopsD P k ops rest (loads e o.op T) (putE e o.dst v) H' K
      | some (j, want) => match (ops[j]?).bind (·.dst) with
        | none => aopsD P k ops rest T (putE e o.dst (.tup [])) H K
        | some d => match e d with
          | .bool b => (b = want → AExec P H (eo (upd e d (.bool want))) o.op fun v H' => rowsSame T H' H ∧ aopsD P k ops rest (loads (upd e d (.bool want)) o.op T) (putE (upd e d (.bool want)) o.dst v) H' K) ∧
              (b = (!want) → aopsD P k ops rest T (putE (upd e d (.bool (!want))) o.dst (.tup [])) H K)
          | .tup [] => aopsD P k ops rest T (putE e o.dst (.tup [])) H K
          | _ => False

end Go.Ab
/- The abstract machine: whatever order is drawn, the region does what the told order does. -/
set_option linter.unusedVariables false
set_option linter.unusedSimpArgs false
namespace Go.Ab

theorem reads_ops {ops : Array Oper} {o : Oper} {t : Nat} (h : .tmp t ∈ o.op.operands) : t ∈ reads ops o :=
  List.mem_append_left _ (List.mem_filterMap.2 ⟨.tmp t, by simpa using h, rfl⟩)
theorem reads_guard {ops : Array Oper} {o : Oper} {j d : Nat} {want : Bool} (h : o.guard = some (j, want)) (hd : (ops[j]?).bind (·.dst) = some d) : d ∈ reads ops o := by
  refine List.mem_append_right _ ?_
  rw [h]
  simp [hd]

/-- Which operations an order has left. -/
def L (listed : Array Bool) (i : Nat) : Bool := listed.getD i false

/-- A pending operation's own word. -/
def XF (P : Program) (ops : Array Oper) (m : MMap) (H : AHeap) (T : List (Nat × Nat)) (e : Env) (o : Oper) : Prop :=
  (∃ j want, o.guard = some (j, want) ∧ ((ops[j]?).bind (·.dst) = none ∨ ∃ d, (ops[j]?).bind (·.dst) = some d ∧ (e d = .tup [] ∨ e d = .bool (!want))) ∧ ∀ t, o.dst = some t → e t = .tup []) ∨
  ((o.guard = none ∨ ∃ j want d, o.guard = some (j, want) ∧ (ops[j]?).bind (·.dst) = some d ∧ e d = .bool want) ∧ ∃ v, (∀ t, o.dst = some t → e t = v) ∧
    (PureAt P m (eo e) o.op v ∨ ∃ Ty ad, o.op = .load Ty ad ∧ (∀ b i j, eo e ad = .ptr b i j → (b, i) ∈ T) ∧
      ∀ (m' : MMap) (H' : AHeap) (w' : World) (ρ : Operand → Value), MLe m m' → HRel m' H' w' → (∀ b i j, eo e ad = .ptr b i j → hrow H' b i = hrow H b i) → Rel m' (eo e ad) (ρ ad) →
        ∃ r, Rel m' v r ∧ ∀ o : Oper, o.op = .load Ty ad → (execOp ρ o).run P w' = .ok (.value r) w'))

theorem PureAt.congr {P : Program} {m m' : MMap} {ev ev' : Operand → AV} {op : Op} {v : AV} (h : PureAt P m ev op v) (hm : MLe m m') (he : ∀ x ∈ op.operands, ev' x = ev x) : PureAt P m' ev' op v :=
  fun m2 ρ h2 hr => h m2 ρ (hm.trans h2) fun x hx => by rw [← he x hx]; exact hr x hx

theorem eo_congr {ops : Array Oper} {e e' : Env} {o : Oper} (he : ∀ t ∈ reads ops o, e' t = e t) {x : Operand} (hx : x ∈ o.op.operands) : eo e' x = eo e x := by
  cases x with
  | tmp t => exact he t (reads_ops hx)
  | _ => rfl

theorem XF.keep {P : Program} {ops : Array Oper} {m m' : MMap} {H H' : AHeap} {T T' : List (Nat × Nat)} {e e' : Env} {o : Oper} (h : XF P ops m H T e o) (hm : MLe m m') (hT : ∀ p ∈ T, p ∈ T') (hH : ∀ p ∈ T, hrow H' p.1 p.2 = hrow H p.1 p.2)
    (he : ∀ t ∈ reads ops o, e' t = e t) (hd : ∀ t, o.dst = some t → e' t = e t) : XF P ops m' H' T' e' o := by
  rcases h with ⟨j, want, hg, hj, ht⟩ | ⟨hg, v, hv, hp⟩
  · refine .inl ⟨j, want, hg, ?_, fun t hd' => by rw [hd t hd']; exact ht t hd'⟩
    rcases hj with hj | ⟨d, hj, hed⟩
    · exact .inl hj
    · exact .inr ⟨d, hj, by rw [he d (reads_guard hg hj)]; exact hed⟩
  · refine .inr ⟨?_, v, fun t ht => by rw [hd t ht]; exact hv t ht, ?_⟩
    · rcases hg with hg | ⟨j, want, d, hg, hj, hed⟩
      · exact .inl hg
      · exact .inr ⟨j, want, d, hg, hj, by rw [he d (reads_guard hg hj)]; exact hed⟩
    · rcases hp with hp | ⟨Ty, ad, ho, hmem, hp⟩
      · exact .inl (hp.congr hm fun x hx => eo_congr he hx)
      · have hea : eo e' ad = eo e ad := eo_congr (o := o) he (by rw [ho]; simp [Op.operands])
        refine .inr ⟨Ty, ad, ho, fun b i j ha => hT _ (hmem b i j (by rw [← hea]; exact ha)), fun m2 H2 w2 ρ h2 hH2 hr hrel => ?_⟩
        rw [hea] at hrel hr
        exact hp m2 H2 w2 ρ (hm.trans h2) hH2 (fun b i j ha => (hr b i j ha).trans (hH _ (hmem b i j ha))) hrel

theorem wanted_none {ops : Array Oper} {a : Act} {o : Oper} (h : o.guard = none) : Region.wanted o (yielded ops a.tmps) = true := by simp [Region.wanted, h]
theorem yielded_bool {m : MMap} {ops : Array Oper} {a : Act} {e : Env} {j d : Nat} {b : Bool} (hj : (ops[j]?).bind (·.dst) = some d) (he : e d = .bool b) (hr : Rel m (e d) (a.tmps.getD d undef)) : yielded ops a.tmps j = some b := by
  rw [he] at hr
  have hv := hr.bool_inv
  have hlt : d < a.tmps.size := by
    rcases Nat.lt_or_ge d a.tmps.size with h' | h'
    · exact h'
    · rw [Array.getD_eq_getD_getElem?, Array.getElem?_eq_none h'] at hv; simp [undef] at hv
  have : a.tmps[d]? = some (.bool b) := by rw [Array.getD_eq_getD_getElem?, Array.getElem?_eq_getElem hlt] at hv; rw [Array.getElem?_eq_getElem hlt]; simpa using hv
  simp [yielded, hj, this]
theorem yielded_tup {m : MMap} {ops : Array Oper} {a : Act} {e : Env} {j d : Nat} (hj : (ops[j]?).bind (·.dst) = some d) (he : e d = .tup []) (hr : Rel m (e d) (a.tmps.getD d undef)) : yielded ops a.tmps j = none := by
  rw [he] at hr
  obtain ⟨cs, hv, hcs⟩ := hr.tup_inv
  unfold yielded
  rw [hj]
  simp only [Option.bind_some]
  rw [Array.getD_eq_getD_getElem?] at hv
  cases ht : a.tmps[d]? with
  | none => rfl
  | some u => rw [ht] at hv; simp at hv; subst hv; rfl

/-- A pending operation is carried out. -/
theorem XF.run {P : Program} {ops : Array Oper} {m : MMap} {H : AHeap} {T : List (Nat × Nat)} {e : Env} {o : Oper} {i : Nat} {w : World} {a : Act} {Q : Exit → Act → World → Prop} {K : Act → World → Prop} (h : XF P ops m H T e o) (ho : ops[i]? = some o) (hH : HRel m H w)
    (hr : ∀ t ∈ reads ops o, Rel m (e t) (a.tmps.getD t undef)) (hK : ∀ r, (∀ t, o.dst = some t → Rel m (e t) r) → K (a.put o.dst r) w) : wpOp P ops Q i K a w := by
  have hops : ∀ x ∈ o.op.operands, Rel m (eo e x) (a.eval x) := fun x hx => by
    cases x with
    | tmp t => exact hr t (reads_ops hx)
    | const v => exact ofV_rel m v
    | global g => exact .un _
    | func f =>
      have := Rel.fn (m := m) (f := f) (cap := []) (caps := []) rfl (fun i v r h => by simp at h)
      simpa [eo, Act.eval] using this
  unfold wpOp
  simp only [ho]
  rcases h with ⟨j, want, hg, hj, ht⟩ | ⟨hg, v, hv, hp⟩
  · have hw : Region.wanted o (yielded ops a.tmps) = false := by
      simp only [Region.wanted, hg]
      rcases hj with hj | ⟨d, hj, hed | hed⟩
      · simp [yielded, hj]
      · rw [yielded_tup hj hed (hr d (reads_guard hg hj))]; rfl
      · rw [yielded_bool hj hed (hr d (reads_guard hg hj))]; cases want <;> rfl
    rw [hw]
    simp only [Bool.false_eq_true, if_false]
    exact hK undef fun t hd => by rw [ht t hd]; exact rel_undef m
  · have hw : Region.wanted o (yielded ops a.tmps) = true := by
      rcases hg with hg | ⟨j, want, d, hg, hj, hed⟩
      · exact wanted_none hg
      · simp only [Region.wanted, hg]
        rw [yielded_bool hj hed (hr d (reads_guard hg hj))]; simp
    rw [hw]
    simp only [if_true]
    refine .inl ?_
    rcases hp with hp | ⟨Ty, ad, hop, _, hp⟩
    · obtain ⟨r, h1, h2⟩ := hp m a.eval (.refl _) hops
      unfold Oper.wp
      rw [h2 o w rfl]
      exact hK r fun t hd => by rw [hv t hd]; exact h1
    · obtain ⟨r, h1, h2⟩ := hp m H w a.eval (.refl _) hH (fun _ _ _ _ => rfl) (hops ad (by rw [hop]; simp [Op.operands]))
      unfold Oper.wp
      rw [h2 o hop]
      exact hK r fun t hd => by rw [hv t hd]; exact h1

/-- An operation that was carried out ahead: a new variable. -/
def YF (P : Program) (m : MMap) (H : AHeap) (w0 w : World) (a : Act) (r : Nat) (o : Oper) : Prop :=
  ∃ Ty d zv, o.op = .alloc Ty ∧ o.guard = none ∧ o.dst = some d ∧ a.tmps.getD d undef = .pointer (some ⟨r, 0, none⟩) ∧ w.heap[r]? = some (.cells zv.cells Ty (0, 0)) ∧
    (∀ z, zeroO P Ty = some z → ∀ m, Rel m z zv) ∧ w0.heap.size ≤ r ∧ (∀ (b : Nat) (A : Blk) (B : MB), hget H b = some A → m.l[b]? = some B → B.virt = false → B.blk ≠ r) ∧ m.z r = none

structure SD (P : Program) (k : Nat → Kd) (ops : Array Oper) (n : Nat) (m0 : MMap) (H0 : AHeap) (w0 : World) (ds : List Deferred) (listed : Array Bool) (a : Act) (w : World)
    (pre rest : List Nat) (T : List (Nat × Nat)) (e : Env) (H : AHeap) (m : MMap) (rb : Nat → Nat) : Prop where
  hr : HRel m H w
  stp : Stp m0 H0 w0 m H w
  size : a.tmps.size = n
  defers : a.defers = ds
  down : Down ops listed
  lsize : listed.size = ops.size
  ord : chkOrd k ops (befM ops) pre rest = true
  all : ∀ i, i < ops.size → i ∈ pre ∨ i ∈ rest
  lt : ∀ i, i ∈ pre ∨ i ∈ rest → i < ops.size
  dis : ∀ i, i ∈ pre → i ∉ rest
  nodup : rest.Nodup
  preD : ∀ (i : Nat) (o : Oper), i ∈ pre → ops[i]? = some o → ∀ ed ∈ o.after, Region.binds .any ed = true → ed.on ∈ pre
  restL : ∀ i, i ∈ rest → L listed i = true → (k i).isA = true
  xk : ∀ i, i ∈ pre → L listed i = false → (k i).isPl = true
  slots : ∀ t, (∀ (i : Nat) (o : Oper), ops[i]? = some o → o.dst = some t → ¬ (i ∈ pre ∧ L listed i = false) ∧ ¬ (i ∈ rest ∧ L listed i = true)) → Rel m (e t) (a.tmps.getD t undef)
  x : ∀ (i : Nat) (o : Oper), i ∈ pre → L listed i = false → ops[i]? = some o → XF P ops m H T e o
  y : ∀ (i : Nat) (o : Oper), i ∈ rest → L listed i = true → ops[i]? = some o → YF P m H w0 w a (rb i) o
  yinj : ∀ i j, i ∈ rest → L listed i = true → j ∈ rest → L listed j = true → i ≠ j → rb i ≠ rb j
  tv : ∀ p ∈ T, p.1 < H.length

theorem tmp_spec {k : Nat → Kd} {ops : Array Oper} (h : chkTmp k ops (befM ops) = true) {x y : Nat} {ox oy : Oper} {t : Nat} (hx : ops[x]? = some ox) (hy : ops[y]? = some oy) (hd : ox.dst = some t) (hn : t ∈ reads ops oy ∨ oy.dst = some t) (hne : x ≠ y) :
    Bef ops x y ∨ ((k x).isC = true ∧ Bef ops y x) := by
  unfold chkTmp at h
  have h1 := List.all_eq_true.1 h x (List.mem_range.2 (Array.getElem?_eq_some_iff.1 hx).1)
  rw [hx] at h1
  simp only [hd] at h1
  have h2 := List.all_eq_true.1 h1 y (List.mem_range.2 (Array.getElem?_eq_some_iff.1 hy).1)
  rw [hy] at h2
  have hb : (x == y) = false := by simpa using hne
  simp only [hb, Bool.false_eq_true, if_false, Bool.or_eq_true, Bool.and_eq_true, Bool.not_eq_true', Bool.or_eq_false_iff] at h2
  rcases h2 with (h2 | h2) | h2
  · exfalso
    rcases hn with hn | hn
    · have := h2.1; simp at this; exact this hn
    · have := h2.2; rw [hn] at this; simp at this
  · exact .inl (befB_spec h2)
  · exact .inr ⟨h2.1, befB_spec h2.2⟩
theorem tmp_self {k : Nat → Kd} {ops : Array Oper} (h : chkTmp k ops (befM ops) = true) {x : Nat} {ox : Oper} {t : Nat} (hx : ops[x]? = some ox) (hd : ox.dst = some t) (hk : (k x).isC = false) : t ∉ reads ops ox := by
  unfold chkTmp at h
  have h1 := List.all_eq_true.1 h x (List.mem_range.2 (Array.getElem?_eq_some_iff.1 hx).1)
  rw [hx] at h1
  simp only [hd] at h1
  have h2 := List.all_eq_true.1 h1 x (List.mem_range.2 (Array.getElem?_eq_some_iff.1 hx).1)
  rw [hx] at h2
  simp only [beq_self_eq_true, if_true, hk, Bool.false_or, Bool.not_eq_true'] at h2
  simpa using h2

theorem Bef.pre {ops : Array Oper} {pre : List Nat} (hd : ∀ (i : Nat) (o : Oper), i ∈ pre → ops[i]? = some o → ∀ ed ∈ o.after, Region.binds .any ed = true → ed.on ∈ pre) {j i : Nat} (h : Bef ops j i) (hi : i ∈ pre) : j ∈ pre := by
  induction h with
  | edge ho he hb hj => subst hj; exact hd _ _ hi ho _ he hb
  | step ho he hb hk h ih => subst hk; exact ih (hd _ _ hi ho _ he hb)

theorem Bef.pre1 {ops : Array Oper} {pre : List Nat} (hd : ∀ (i : Nat) (o : Oper), i ∈ pre → ops[i]? = some o → ∀ ed ∈ o.after, Region.binds .any ed = true → ed.on ∈ pre) {j i : Nat} (h : Bef ops j i)
    (hi : ∀ o, ops[i]? = some o → ∀ ed ∈ o.after, Region.binds .any ed = true → ed.on ∈ pre) : j ∈ pre := by
  cases h with
  | edge ho he hb hj => subst hj; exact hi _ ho _ he hb
  | step ho he hb hk h => subst hk; exact h.pre hd (hi _ ho _ he hb)

end Go.Ab
/- The abstract machine: whatever order is drawn (2). -/
set_option linter.unusedVariables false
set_option linter.unusedSimpArgs false
namespace Go.Ab

/-- What the kinds say. -/
structure KOk (P : Program) (k : Nat → Kd) (ops : Array Oper) : Prop where
  pl : ∀ (i : Nat) (o : Oper), ops[i]? = some o → (k i).isPl = true → cls P o.op ≠ .c
  a : ∀ (i : Nat) (o : Oper), ops[i]? = some o → (k i).isA = true → ∃ Ty d, o.op = .alloc Ty ∧ o.guard = none ∧ o.dst = some d ∧ (zeroO P Ty).isSome = true
  ld : ∀ (i : Nat) (o : Oper), ops[i]? = some o → (k i).isPl = false → ∀ Ty ad, o.op ≠ .load Ty ad

theorem kd_ok (P : Program) (lz : List Nat) (ops : Array Oper) : KOk P (kd P lz ops) ops := by
  refine ⟨fun i o ho h => ?_, fun i o ho h => ?_, fun i o ho h Ty ad hop => ?_⟩
  · unfold kd at h
    rw [ho] at h
    simp only at h
    split at h
    · simp [Kd.isPl] at h
    · split at h
      · rename_i h1; rw [h1]; simp
      · rename_i h1; rw [h1]; simp
      · split at h <;> simp [Kd.isPl] at h
  · unfold kd at h
    rw [ho] at h
    simp only at h
    split at h
    · simp [Kd.isA] at h
    · split at h
      · simp [Kd.isA] at h
      · simp [Kd.isA] at h
      · split at h
        · rename_i hc
          simp only [Bool.and_eq_true] at hc
          obtain ⟨⟨⟨_, h1⟩, h2⟩, h3⟩ := hc
          cases hop : o.op <;> rw [hop] at h1 <;> simp only [isAlloc] at h1 <;> (first | (simp at h1; done) | skip)
          rename_i Ty
          obtain ⟨d, hd⟩ := Option.isSome_iff_exists.1 h3
          exact ⟨Ty, d, rfl, by simpa using h2, hd, h1⟩
        · simp [Kd.isA] at h
  · unfold kd at h
    rw [ho] at h
    simp [hop, cls, Kd.isPl] at h

theorem pl_exec {P : Program} {m : MMap} {H : AHeap} {w : World} (hH : HRel m H w) {e : Env} {op : Op} {K : AV → AHeap → Prop} (hc : cls P op ≠ .c) (h : AExec P H (eo e) op K) (T : List (Nat × Nat)) :
    ∃ v, K v H ∧ (∀ p ∈ loads e op T, p ∈ T ∨ p.1 < H.length) ∧ (PureAt P m (eo e) op v ∨ ∃ Ty ad, op = .load Ty ad ∧ (∀ b i j, eo e ad = .ptr b i j → (b, i) ∈ loads e op T) ∧
      ∀ (m' : MMap) (H' : AHeap) (w' : World) (ρ : Operand → Value), MLe m m' → HRel m' H' w' → (∀ b i j, eo e ad = .ptr b i j → hrow H' b i = hrow H b i) → Rel m' (eo e ad) (ρ ad) →
        ∃ r, Rel m' v r ∧ ∀ o : Oper, o.op = .load Ty ad → (execOp ρ o).run P w' = .ok (.value r) w') := by
  unfold AExec at h
  split at h
  · rename_i hp
    obtain ⟨v, hv, hpure⟩ := apure_sound hH h
    refine ⟨v, hv, fun p hp' => ?_, .inl hpure⟩
    unfold loads at hp'
    split at hp'
    · simp [cls] at hp
    · exact .inl hp'
  · split at h
    · rename_i Ty ad _
      have h0 := h
      obtain ⟨v, hv, hp⟩ := aload_sound hH h
      have hlt : ∀ b i j, eo e ad = .ptr b i j → b < H.length := fun b i j ha => by
        unfold ALoad at h0
        rw [ha] at h0
        simp only at h0
        cases hrow' : hrow H b i with
        | none => rw [hrow'] at h0; exact h0.elim
        | some row =>
          unfold hrow at hrow'
          cases hb : hget H b with
          | none => rw [hb] at hrow'; simp at hrow'
          | some A => exact hget_lt hb
      refine ⟨v, hv, fun p hp' => ?_, .inr ⟨Ty, ad, rfl, fun b i j ha => by simp [loads, ha], hp⟩⟩
      unfold loads at hp'
      simp only at hp'
      split at hp'
      · rename_i b i j ha
        rcases List.mem_cons.1 hp' with rfl | hp'
        · exact .inr (hlt b i j ha)
        · exact .inl hp'
      · exact .inl hp'
    · exact h.elim
  · rename_i hcc; exact absurd hcc hc

theorem upd_id {e : Env} {d : Nat} {v : AV} (h : e d = v) : upd e d v = e := by
  funext t; unfold upd; split
  · rename_i ht; subst ht; exact h.symm
  · rfl
theorem putE_other {e : Env} {dst : Option Nat} {v : AV} {t : Nat} (h : dst ≠ some t) : putE e dst v t = e t := by
  cases dst with
  | none => rfl
  | some d => show upd e d v t = e t; unfold upd; rw [if_neg]; intro e'; subst e'; exact h rfl
theorem putE_same {e : Env} {dst : Option Nat} {v : AV} {t : Nat} (h : dst = some t) : putE e dst v t = v := by
  subst h; simp [putE, upd]

theorem isPl_notA {k : Kd} (h : k.isPl = true) : k.isA = false ∧ k.isC = false := by cases k <;> simp_all [Kd.isPl, Kd.isA, Kd.isC]
theorem isA_notC {k : Kd} (h : k.isA = true) : k.isPl = false ∧ k.isC = false := by cases k <;> simp_all [Kd.isPl, Kd.isA, Kd.isC]
theorem isC_of {k : Kd} (h : k.isPl = false) (h' : k.isA = false) : k.isC = true := by cases k <;> simp_all [Kd.isPl, Kd.isA, Kd.isC]

section
variable {P : Program} {k : Nat → Kd} {ops : Array Oper} {n : Nat} {m0 : MMap} {H0 : AHeap} {w0 : World} {ds : List Deferred} {listed : Array Bool} {a : Act} {w : World}
variable {pre rest : List Nat} {T : List (Nat × Nat)} {e : Env} {H : AHeap} {m : MMap} {rb : Nat → Nat} {i : Nat}

theorem chk_head (h : chkOrd k ops (befM ops) pre (i :: rest) = true) : (∃ o, ops[i]? = some o ∧ ∀ ed ∈ o.after, Region.binds .any ed = true → ed.on ∈ pre) ∧ chkOrd k ops (befM ops) (i :: pre) rest = true := by
  unfold chkOrd at h
  simp only [Bool.and_eq_true] at h
  obtain ⟨⟨h1, _⟩, h3⟩ := h
  cases ho : ops[i]? with
  | none => rw [ho] at h1; simp at h1
  | some o =>
    rw [ho] at h1
    refine ⟨⟨o, rfl, fun ed hed hb => ?_⟩, h3⟩
    have := Array.all_eq_true_iff_forall_mem.1 h1 ed hed
    simp only [hb, Bool.not_true, Bool.false_or] at this
    simpa using this

/-- The bookkeeping when the head is told. -/
theorem SD.shift (s : SD P k ops n m0 H0 w0 ds listed a w pre (i :: rest) T e H m rb) :
    chkOrd k ops (befM ops) (i :: pre) rest = true ∧ (∀ j, j < ops.size → j ∈ i :: pre ∨ j ∈ rest) ∧ (∀ j, j ∈ i :: pre ∨ j ∈ rest → j < ops.size) ∧ (∀ j, j ∈ i :: pre → j ∉ rest) ∧ rest.Nodup ∧
    (∀ (j : Nat) (o : Oper), j ∈ i :: pre → ops[j]? = some o → ∀ ed ∈ o.after, Region.binds .any ed = true → ed.on ∈ i :: pre) ∧ i ∉ pre ∧ i ∉ rest := by
  obtain ⟨⟨o, ho, hdeps⟩, hord⟩ := chk_head s.ord
  have hnd := List.nodup_cons.1 s.nodup
  refine ⟨hord, fun j hj => ?_, fun j hj => ?_, fun j hj => ?_, hnd.2, fun j o' hj ho' ed hed hb => ?_, fun hi => s.dis i hi (by simp), hnd.1⟩
  · rcases s.all j hj with h | h
    · exact .inl (by simp [h])
    · rcases List.mem_cons.1 h with h | h
      · exact .inl (by simp [h])
      · exact .inr h
  · rcases hj with h | h
    · rcases List.mem_cons.1 h with h | h
      · exact s.lt j (.inr (by simp [h]))
      · exact s.lt j (.inl h)
    · exact s.lt j (.inr (by simp [h]))
  · rcases List.mem_cons.1 hj with h | h
    · subst h; exact hnd.1
    · intro hr; exact s.dis j h (by simp [hr])
  · rcases List.mem_cons.1 hj with h | h
    · subst h
      rw [ho] at ho'; injection ho' with e'; subst e'
      exact List.mem_cons_of_mem _ (hdeps ed hed hb)
    · exact List.mem_cons_of_mem _ (s.preD j o' h ho' ed hed hb)

/-- The head is pure: it is told ahead. -/
theorem SD.tellP (hk : KOk P k ops) (htmp : chkTmp k ops (befM ops) = true) (s : SD P k ops n m0 H0 w0 ds listed a w pre (i :: rest) T e H m rb) {o : Oper} (ho : ops[i]? = some o) (hp : (k i).isPl = true)
    {v : AV} {T' : List (Nat × Nat)} (hT : ∀ p ∈ T, p ∈ T') (hTv : ∀ p ∈ T', p ∈ T ∨ p.1 < H.length)
    (hx : XF P ops m H T' (putE e o.dst v) o) : SD P k ops n m0 H0 w0 ds listed a w (i :: pre) rest T' (putE e o.dst v) H m rb := by
  obtain ⟨h1, h2, h3, h4, h5, h6, hip, hir⟩ := s.shift
  have hL : L listed i = false := by
    cases hl : L listed i with
    | false => rfl
    | true => have := s.restL i (by simp) hl; rw [(isPl_notA hp).1] at this; simp at this
  refine ⟨s.hr, s.stp, s.size, s.defers, s.down, s.lsize, h1, h2, h3, h4, h5, h6, fun j hj hl => s.restL j (by simp [hj]) hl, fun j hj hl => ?_, fun t ht => ?_, fun j oj hj hl hoj => ?_, fun j oj hj hl hoj => s.y j oj (by simp [hj]) hl hoj,
    fun x y hx hlx hy hly hne => s.yinj x y (by simp [hx]) hlx (by simp [hy]) hly hne, fun p hp' => ?_⟩
  · rcases List.mem_cons.1 hj with h | h
    · subst h; exact hp
    · exact s.xk j h hl
  · have hdt : o.dst ≠ some t := fun hd => (ht i o ho hd).1 ⟨by simp, hL⟩
    rw [putE_other hdt]
    refine s.slots t fun j oj hoj hd => ⟨fun hj => (ht j oj hoj hd).1 ⟨by simp [hj.1], hj.2⟩, fun hj => ?_⟩
    rcases List.mem_cons.1 hj.1 with h | h
    · subst h; rw [hL] at hj; simp at hj
    · exact (ht j oj hoj hd).2 ⟨h, hj.2⟩
  · rcases List.mem_cons.1 hj with h | h
    · subst h; rw [ho] at hoj; injection hoj with e'; subst e'; exact hx
    · have hne : i ≠ j := fun e' => by subst e'; exact hip h
      have clear : ∀ t, (t ∈ reads ops oj ∨ oj.dst = some t) → o.dst ≠ some t := fun t hn hd => by
        rcases tmp_spec htmp ho hoj hd hn hne with hb | ⟨hc, _⟩
        · exact hip (hb.pre s.preD h)
        · rw [(isPl_notA hp).2] at hc; simp at hc
      exact (s.x j oj h hl hoj).keep (.refl _) hT (fun _ _ => rfl) (fun t ht => putE_other (clear t (.inl ht))) (fun t ht => putE_other (clear t (.inr ht)))
  · rcases hTv p hp' with h | h
    · exact s.tv p h
    · exact h

/-- The head has come up already: it is told now. -/
theorem SD.tellA (hk : KOk P k ops) (htmp : chkTmp k ops (befM ops) = true) (s : SD P k ops n m0 H0 w0 ds listed a w pre (i :: rest) T e H m rb) {o : Oper} (ho : ops[i]? = some o) (hl : L listed i = true) {Ty d : Nat} (hop : o.op = .alloc Ty) (hd : o.dst = some d) {z : AV} (hz : zeroO P Ty = some z) (hones : onesA z.cells) :
    ∃ m', SD P k ops n m0 H0 w0 ds listed a w (i :: pre) rest T (putE e o.dst (ptrOf Ty z H.length)) (H ++ [some ⟨true, z.cells.length, [z.cells]⟩]) m' rb := by
  obtain ⟨h1, h2, h3, h4, h5, h6, hip, hir⟩ := s.shift
  obtain ⟨Ty', d', zv, e1, e2, e3, e4, e5, e6, e7, e8, e9⟩ := s.y i o (by simp) hl ho
  rw [hop] at e1; injection e1 with e1; subst e1
  rw [hd] at e3; injection e3 with e3; subst e3
  have hA := s.restL i (by simp) hl
  have hzr := (e6 z hz m).cells (ones_ne_un hones)
  have hlen := hzr.1
  simp only [Array.length_toList] at hlen
  let B : MB := ⟨rb i, 0, z.cells.length, zv.cells.size, false, some Ty⟩
  have hnew : HRel (m.add B) (H ++ [some ⟨true, z.cells.length, [z.cells]⟩]) w := by
    refine s.hr.add B _ ⟨rfl, fun hv => by simp [B] at hv, by simp [maxLen], fun _ => ⟨zv.cells, Ty, (0, 0), e5, rfl, by simp [B]; omega, fun j row hj => ?_, fun _ o' _ => by simp⟩, fun _ t ht => by
      have ht : some Ty = some t := ht
      injection ht with ht; subst ht; exact ⟨_, _, e5⟩⟩ (fun _ b A' B' hb hB hv => e8 b A' B' hb hB hv) (fun _ _ => e9)
    cases j with
    | succ j => simp at hj
    | zero =>
      simp at hj; subst hj
      refine ⟨rfl, fun j v hj => ?_⟩
      obtain ⟨r, hr1, hr2⟩ := hzr.get hj
      exact ⟨r, by simpa [B] using hr1, hr2.mono (.append _ _), onesA_rel hones hzr r (List.mem_of_getElem? hr1)⟩
  have hptr : Rel (m.add B) (ptrOf Ty z H.length) (.pointer (some ⟨rb i, 0, none⟩)) :=
    ptrOf_rel (N := zv.cells.size) (by rw [MMap.add_l, ← s.hr.len]; simp [B]) hlen.symm
  refine ⟨m.add B, hnew, ⟨s.stp.mle.trans (.append _ _), s.stp.os, s.stp.tape, s.stp.output, s.stp.size, fun r hr => ?_, fun b B' hb hv => ?_, s.stp.newz, fun b hb => dead_add (s.stp.dead b hb), s.stp.block⟩, s.size, s.defers, s.down, s.lsize, h1, h2, h3, h4, h5, h6,
    fun j hj hl' => s.restL j (by simp [hj]) hl', fun j hj hl' => ?_, fun t ht => ?_, fun j oj hj hl' hoj => ?_, fun j oj hj hl' hoj => ?_, fun x y hx hlx hy hly hne => s.yinj x y (by simp [hx]) hlx (by simp [hy]) hly hne, fun p hp' => ?_⟩
  · rcases Img.add s.hr.len hr with h | ⟨_, _, h⟩
    · exact s.stp.img r h
    · subst h; exact .inr e7
  · rcases add_new (R := fun B => w0.heap.size ≤ B.blk) e7 b B' hb with h | h
    · exact s.stp.new b B' h hv
    · exact .inr (.inr h)
  · rcases List.mem_cons.1 hj with h | h
    · subst h; rw [hl] at hl'; simp at hl'
    · exact s.xk j h hl'
  · by_cases hdt : o.dst = some t
    · rw [putE_same hdt]
      rw [hd] at hdt; injection hdt with hdt; subst hdt
      rw [e4]; exact hptr
    · rw [putE_other hdt]
      refine (s.slots t fun j oj hoj hd' => ⟨fun hj => (ht j oj hoj hd').1 ⟨by simp [hj.1], hj.2⟩, fun hj => ?_⟩).mono (.append _ _)
      rcases List.mem_cons.1 hj.1 with h | h
      · subst h; rw [ho] at hoj; injection hoj with e'; subst e'; exact hdt hd'
      · exact (ht j oj hoj hd').2 ⟨h, hj.2⟩
  · rcases List.mem_cons.1 hj with h | h
    · subst h; rw [hl] at hl'; simp at hl'
    · have hne : i ≠ j := fun e' => by subst e'; exact hip h
      have clear : ∀ t, (t ∈ reads ops oj ∨ oj.dst = some t) → o.dst ≠ some t := fun t hn hd => by
        rcases tmp_spec htmp ho hoj hd hn hne with hb | ⟨hc, _⟩
        · exact hip (hb.pre s.preD h)
        · rw [(isA_notC hA).2] at hc; simp at hc
      refine (s.x j oj h hl' hoj).keep (.append _ _) (fun _ h => h) (fun p hp => ?_) (fun t ht => putE_other (clear t (.inl ht))) (fun t ht => putE_other (clear t (.inr ht)))
      unfold hrow; rw [hget_append_left (s.tv p hp)]
  · have hne : i ≠ j := fun e' => by subst e'; exact hir hj
    obtain ⟨Ty2, d2, zv2, f1, f2, f3, f4, f5, f6, f7, f8, f9⟩ := s.y j oj (by simp [hj]) hl' hoj
    refine ⟨Ty2, d2, zv2, f1, f2, f3, f4, f5, f6, f7, fun b A' B' hb hB hv => ?_, f9⟩
    by_cases hlt : b < H.length
    · rw [hget_append_left hlt] at hb
      rw [MMap.add_l, List.getElem?_append_left (by rw [s.hr.len]; exact hlt)] at hB
      exact f8 b A' B' hb hB hv
    · rcases add_new (R := fun B => B.blk = rb i) rfl b B' hB with h | h
      · exact absurd (List.getElem?_eq_some_iff.1 h).1 (by rw [s.hr.len]; exact hlt)
      · rw [h]; exact s.yinj i j (by simp) hl (by simp [hj]) hl' hne
  · have := s.tv p hp'; simp; omega

end
end Go.Ab
/- The abstract machine: whatever order is drawn (3). -/
set_option linter.unusedVariables false
set_option linter.unusedSimpArgs false
namespace Go.Ab

section
variable {P : Program} {k : Nat → Kd} {ops : Array Oper} {n : Nat} {m0 : MMap} {H0 : AHeap} {w0 : World} {ds : List Deferred} {K : Env → AHeap → Prop}

/-- All that can be told ahead is told. -/
theorem SD.adv (hk : KOk P k ops) (htmp : chkTmp k ops (befM ops) = true) : ∀ (rest : List Nat) {listed : Array Bool} {a : Act} {w : World} {pre : List Nat} {T : List (Nat × Nat)} {e : Env} {H : AHeap} {m : MMap} {rb : Nat → Nat},
    SD P k ops n m0 H0 w0 ds listed a w pre rest T e H m rb → aopsD P k ops rest T e H K →
    ∃ pre' rest' T' e' H' m', SD P k ops n m0 H0 w0 ds listed a w pre' rest' T' e' H' m' rb ∧ aopsD P k ops rest' T' e' H' K ∧ ∀ i r, rest' = i :: r → (k i).isPl = false ∧ L listed i = false := by
  intro rest
  induction rest with
  | nil => intro listed a w pre T e H m rb s h; exact ⟨pre, [], T, e, H, m, s, h, fun i r hr => by simp at hr⟩
  | cons i rest ih =>
    intro listed a w pre T e H m rb s h
    obtain ⟨⟨o, ho, hdeps⟩, _⟩ := chk_head s.ord
    have h' := h
    simp only [aopsD, ho] at h
    by_cases hp : (k i).isPl = true
    · have hself : ∀ t, o.dst = some t → t ∉ reads ops o := fun t ht => tmp_self htmp ho ht (isPl_notA hp).2
      have hne : ∀ (v : AV) (t : Nat), t ∈ reads ops o → putE e o.dst v t = e t := fun v t ht => putE_other fun hd => hself t hd ht
      have run : (o.guard = none ∨ ∃ j want d, o.guard = some (j, want) ∧ (ops[j]?).bind (·.dst) = some d ∧ e d = .bool want) →
          AExec P H (eo e) o.op (fun v H' => rowsSame T H' H ∧ aopsD P k ops rest (loads e o.op T) (putE e o.dst v) H' K) →
          ∃ pre' rest' T' e' H' m', SD P k ops n m0 H0 w0 ds listed a w pre' rest' T' e' H' m' rb ∧ aopsD P k ops rest' T' e' H' K ∧ ∀ i r, rest' = i :: r → (k i).isPl = false ∧ L listed i = false := by
        intro hg hx
        obtain ⟨v, ⟨_, hv⟩, hTv, hval⟩ := pl_exec s.hr (hk.pl i o ho hp) hx T
        refine ih (s.tellP hk htmp ho hp (T' := loads e o.op T) (v := v) (fun p hp' => ?_) hTv (.inr ⟨?_, v, fun t ht => putE_same ht, ?_⟩)) hv
        · unfold loads; split
          · split
            · exact List.mem_cons_of_mem _ hp'
            · exact hp'
          · exact hp'
        · rcases hg with hg | ⟨j, want, d, hg, hj, hed⟩
          · exact .inl hg
          · exact .inr ⟨j, want, d, hg, hj, by rw [hne v d (reads_guard hg hj)]; exact hed⟩
        · rcases hval with hval | ⟨Ty, ad, hop, hmem, hval⟩
          · exact .inl (hval.congr (.refl _) fun x hx => eo_congr (hne v) hx)
          · have hea : eo (putE e o.dst v) ad = eo e ad := eo_congr (hne v) (by rw [hop]; simp [Op.operands])
            exact .inr ⟨Ty, ad, hop, fun b i j ha => hmem b i j (by rw [← hea]; exact ha), fun m' H' w' ρ a1 a2 a3 a4 => hval m' H' w' ρ a1 a2 (by rw [hea] at a3; exact a3) (by rw [hea] at a4; exact a4)⟩
      have skip : (∃ j want, o.guard = some (j, want) ∧ ((ops[j]?).bind (·.dst) = none ∨ ∃ d, (ops[j]?).bind (·.dst) = some d ∧ (e d = .tup [] ∨ e d = .bool (!want)))) →
          aopsD P k ops rest T (putE e o.dst (.tup [])) H K →
          ∃ pre' rest' T' e' H' m', SD P k ops n m0 H0 w0 ds listed a w pre' rest' T' e' H' m' rb ∧ aopsD P k ops rest' T' e' H' K ∧ ∀ i r, rest' = i :: r → (k i).isPl = false ∧ L listed i = false := by
        intro hg hx
        obtain ⟨j, want, hg, hj⟩ := hg
        refine ih (s.tellP hk htmp ho hp (T' := T) (v := .tup []) (fun p hp' => hp') (fun p hp' => .inl hp') (.inl ⟨j, want, hg, ?_, fun t ht => putE_same ht⟩)) hx
        rcases hj with hj | ⟨d, hj, hed⟩
        · exact .inl hj
        · exact .inr ⟨d, hj, by rw [hne _ d (reads_guard hg hj)]; exact hed⟩
      cases hg : o.guard with
      | none => rw [hg] at h; exact run (.inl hg) h
      | some gw =>
        obtain ⟨j, want⟩ := gw
        rw [hg] at h
        simp only at h
        cases hj : (ops[j]?).bind (·.dst) with
        | none => rw [hj] at h; exact skip ⟨j, want, hg, .inl hj⟩ h
        | some d =>
          rw [hj] at h
          simp only at h
          split at h
          · rename_i b hb
            by_cases hw : b = want
            · have h1 := h.1 hw
              rw [upd_id (by rw [hb, hw])] at h1
              exact run (.inr ⟨j, want, d, hg, hj, by rw [hb, hw]⟩) h1
            · have hbw : b = !want := by cases b <;> cases want <;> simp_all
              have h1 := h.2 hbw
              rw [upd_id (by rw [hb, hbw])] at h1
              exact skip ⟨j, want, hg, .inr ⟨d, hj, .inr (by rw [hb, hbw])⟩⟩ h1
          · rename_i hb
            exact skip ⟨j, want, hg, .inr ⟨d, hj, .inl hb⟩⟩ h
          · exact h.elim
    · have hp : (k i).isPl = false := by simpa using hp
      cases hl : L listed i with
      | false => exact ⟨pre, i :: rest, T, e, H, m, s, h', fun i' r hr => by injection hr with h1 h2; subst h1; exact ⟨hp, hl⟩⟩
      | true =>
        obtain ⟨Ty, d, hop, hg, hd, _⟩ := hk.a i o ho (s.restL i (by simp) hl)
        rw [hg] at h
        simp only [AExec, hop, cls, AEff] at h
        cases hz : zeroO P Ty with
        | none => rw [hz] at h; exact h.elim
        | some z =>
          rw [hz] at h
          obtain ⟨hones, _, hv⟩ := h
          obtain ⟨m', s'⟩ := s.tellA hk htmp ho hl hop hd hz hones
          have hT : loads e (.alloc Ty) T = T := rfl
          rw [hT] at hv
          exact ih s' hv

theorem bef_lt (hlt : (ops.toList.zipIdx.all fun (o, i) => o.after.all fun e => !Region.binds .any e || decide (e.on < i)) = true) {j i : Nat} (h : Bef ops j i) : j < i := by
  have one : ∀ {i : Nat} {o : Oper} {e : Edge}, ops[i]? = some o → e ∈ o.after → Region.binds .any e = true → e.on < i := by
    intro i o e ho he hb
    have hm : (o, i) ∈ ops.toList.zipIdx := by
      rw [List.mem_iff_getElem?]
      exact ⟨i, by simp [List.getElem?_zipIdx, ho]⟩
    have := List.all_eq_true.1 hlt (o, i) hm
    have := Array.all_eq_true_iff_forall_mem.1 this e he
    simpa [hb] using this
  induction h with
  | edge ho he hb hj => subst hj; exact one ho he hb
  | step ho he hb hk h ih => subst hk; exact Nat.lt_trans ih (one ho he hb)

theorem L_set (listed : Array Bool) (i j : Nat) (hi : i < listed.size) : L (listed.setIfInBounds i true) j = if j = i then true else L listed j := by
  unfold L
  rw [Array.getD_eq_getD_getElem?, Array.getElem?_setIfInBounds]
  by_cases h : i = j
  · subst h; simp [hi]
  · have : ¬ j = i := fun e => h e.symm
    simp [h, this, Array.getD_eq_getD_getElem?]

theorem down_set {listed : Array Bool} {i : Nat} (hd : Down ops listed) (hi : i < listed.size) (hdeps : ∀ o, ops[i]? = some o → ∀ e ∈ o.after, Region.binds .any e = true → listed.getD e.on false = true) : Down ops (listed.setIfInBounds i true) := by
  intro j o hj ho e he hb
  have h1 := L_set listed i j hi
  have h2 := L_set listed i e.on hi
  unfold L at h1 h2
  rw [h1] at hj
  rw [h2]
  split
  · rfl
  · split at hj
    · rename_i hji; subst hji; exact hdeps o ho e he hb
    · exact hd j o hj ho e he hb

theorem chk_mid : ∀ (mid : List Nat) {i : Nat} {post pre : List Nat}, chkOrd k ops (befM ops) pre (mid ++ i :: post) = true → (∀ (h : (k i).isPl = true), (∃ x ∈ mid, (k x).isPl = false) → ∃ c ∈ mid, (k c).isC = true ∧ Bef ops c i) ∧
    ((k i).isC = true → ∀ x ∈ mid, (k x).isPl = false → Bef ops x i) := by
  intro mid
  have key : ∀ (mid pre : List Nat) (i : Nat) (post : List Nat), chkOrd k ops (befM ops) pre (mid ++ i :: post) = true → chkOrd k ops (befM ops) (mid.reverse ++ pre) (i :: post) = true := by
    intro mid
    induction mid with
    | nil => intro pre i post h; simpa using h
    | cons x mid ih =>
      intro pre i post h
      have := (chk_head (rest := mid ++ i :: post) h).2
      have := ih (x :: pre) i post this
      simpa using this
  intro i post pre h
  have h1 := key mid pre i post h
  unfold chkOrd at h1
  simp only [Bool.and_eq_true] at h1
  obtain ⟨⟨_, h2⟩, _⟩ := h1
  refine ⟨fun hp ⟨x, hx, hxp⟩ => ?_, fun hc x hx hxp => ?_⟩
  · cases hki : k i <;> rw [hki] at hp h2 <;> simp [Kd.isPl] at hp
    simp only at h2
    cases hf : (mid.reverse ++ pre).find? (fun j => !(k j).isPl) with
    | none =>
      have := List.find?_eq_none.1 hf x (by simp [hx])
      simp [hxp] at this
    | some c =>
      rw [hf] at h2
      simp only [Bool.and_eq_true] at h2
      have hc : c ∈ mid := by
        rw [List.find?_append] at hf
        cases hfm : mid.reverse.find? (fun j => !(k j).isPl) with
        | none => have := List.find?_eq_none.1 hfm x (by simp [hx]); simp [hxp] at this
        | some c' => rw [hfm] at hf; simp at hf; subst hf; have := List.mem_of_find?_eq_some hfm; simpa using this
      exact ⟨c, hc, h2.1, befB_spec h2.2⟩
  · cases hki : k i <;> rw [hki] at hc h2 <;> simp [Kd.isC] at hc
    simp only at h2
    have := List.all_eq_true.1 h2 x (by simp [hx])
    rw [hxp, Bool.false_or] at this
    exact befB_spec this

end
end Go.Ab
/- The abstract machine: whatever order is drawn (4). -/
set_option linter.unusedVariables false
set_option linter.unusedSimpArgs false
namespace Go.Ab

theorem put_at {a : Act} {t : Nat} {r : Value} (h : t < a.tmps.size) : (a.put (some t) r).tmps.getD t undef = r := by
  simp [Act.put, Array.getElem?_setIfInBounds, h, Array.getD_eq_getD_getElem?]
theorem put_ne {a : Act} {dst : Option Nat} {t : Nat} {r : Value} (h : dst ≠ some t) : (a.put dst r).tmps.getD t undef = a.tmps.getD t undef := by
  cases dst with
  | none => rfl
  | some d =>
    have : d ≠ t := fun e => h (by rw [e])
    simp only [Act.put]
    rw [Array.getD_eq_getD_getElem?, Array.getElem?_setIfInBounds_ne this, ← Array.getD_eq_getD_getElem?]

theorem mle_len {m m' : MMap} (h : MLe m m') : m.l.length ≤ m'.l.length := by
  rcases Nat.eq_zero_or_pos m.l.length with h0 | h0
  · omega
  · have h1 := h.l (m.l.length - 1) m.l[m.l.length - 1] (List.getElem?_eq_getElem (by omega))
    have := (List.getElem?_eq_some_iff.1 h1).1
    omega

section
variable {P : Program} {k : Nat → Kd} {ops : Array Oper} {n : Nat} {m0 : MMap} {H0 : AHeap} {w0 : World} {ds : List Deferred} {K : Env → AHeap → Prop}
variable {listed : Array Bool} {a : Act} {w : World} {pre rest : List Nat} {T : List (Nat × Nat)} {e : Env} {H : AHeap} {m : MMap} {rb : Nat → Nat} {i : Nat}

theorem SD.readX (htmp : chkTmp k ops (befM ops) = true) (s : SD P k ops n m0 H0 w0 ds listed a w pre rest T e H m rb) {o : Oper} (ho : ops[i]? = some o) (hi : i ∈ pre) (hl : L listed i = false)
    (hdeps : ∀ o, ops[i]? = some o → ∀ e ∈ o.after, Region.binds .any e = true → listed.getD e.on false = true) : ∀ t ∈ reads ops o, Rel m (e t) (a.tmps.getD t undef) := by
  intro t ht
  refine s.slots t fun x ox hox hd => ?_
  have hk := s.xk i hi hl
  by_cases hxi : x = i
  · subst hxi; rw [ho] at hox; injection hox with e'; subst e'
    exact absurd ht (tmp_self htmp ho hd (isPl_notA hk).2)
  · rcases tmp_spec htmp hox ho hd (.inl ht) hxi with hb | ⟨hc, hb⟩
    · have hL : L listed x = true := hb.listed s.down hdeps
      have hp : x ∈ pre := hb.pre s.preD hi
      exact ⟨fun h => by rw [hL] at h; simp at h, fun h => s.dis x hp h.1⟩
    · refine ⟨fun h => ?_, fun h => ?_⟩
      · have := s.xk x h.1 h.2; rw [(isPl_notA this).2] at hc; simp at hc
      · have := s.restL x h.1 h.2; rw [(isA_notC this).2] at hc; simp at hc

theorem SD.realX (hn : dstOk n ops = true) (htmp : chkTmp k ops (befM ops) = true) (s : SD P k ops n m0 H0 w0 ds listed a w pre rest T e H m rb) {o : Oper} (ho : ops[i]? = some o) (hi : i ∈ pre) (hl : L listed i = false)
    (hdeps : ∀ o, ops[i]? = some o → ∀ e ∈ o.after, Region.binds .any e = true → listed.getD e.on false = true) {r : Value} (hr : ∀ t, o.dst = some t → Rel m (e t) r) :
    SD P k ops n m0 H0 w0 ds (listed.setIfInBounds i true) (a.put o.dst r) w pre rest T e H m rb := by
  have hsz : i < listed.size := by rw [s.lsize]; exact s.lt i (.inl hi)
  have hLs := L_set listed i
  obtain ⟨s1, s2⟩ := Act.put_size a o.dst r
  refine ⟨s.hr, s.stp, s1.trans s.size, s2.trans s.defers, down_set s.down hsz hdeps, by simp [s.lsize], s.ord, s.all, s.lt, s.dis, s.nodup, s.preD, fun j hj hlj => ?_, fun j hj hlj => ?_, fun t ht => ?_, fun j oj hj hlj hoj => ?_, fun j oj hj hlj hoj => ?_,
    fun x y hx hlx hy hly hne => ?_, s.tv⟩
  · rw [hLs j hsz] at hlj
    split at hlj
    · rename_i e'; subst e'; exact absurd hj (s.dis _ hi)
    · exact s.restL j hj hlj
  · rw [hLs j hsz] at hlj
    split at hlj
    · simp at hlj
    · exact s.xk j hj hlj
  · by_cases hdt : o.dst = some t
    · have hlt : t < a.tmps.size := by rw [s.size]; exact dstOk_spec hn ho hdt
      rw [hdt, put_at hlt]
      exact hr t hdt
    · rw [put_ne hdt]
      refine s.slots t fun j oj hoj hd => ⟨fun h => ?_, fun h => ?_⟩
      · have hne : j ≠ i := fun e' => by subst e'; rw [ho] at hoj; injection hoj with e'; subst e'; exact hdt hd
        exact (ht j oj hoj hd).1 ⟨h.1, by rw [hLs j hsz, if_neg hne]; exact h.2⟩
      · have hne : j ≠ i := fun e' => by subst e'; exact s.dis _ hi h.1
        exact (ht j oj hoj hd).2 ⟨h.1, by rw [hLs j hsz, if_neg hne]; exact h.2⟩
  · rw [hLs j hsz] at hlj
    split at hlj
    · simp at hlj
    · exact s.x j oj hj hlj hoj
  · have hne : j ≠ i := fun e' => by subst e'; exact s.dis _ hi hj
    rw [hLs j hsz, if_neg hne] at hlj
    obtain ⟨Ty2, d2, zv2, f1, f2, f3, f4, f5, f6, f7, f8⟩ := s.y j oj hj hlj hoj
    refine ⟨Ty2, d2, zv2, f1, f2, f3, ?_, f5, f6, f7, f8⟩
    rw [put_ne fun hd => ?_]; exact f4
    rcases tmp_spec htmp hoj ho f3 (.inr hd) hne with hb | ⟨hc, _⟩
    · exact s.dis j (hb.pre s.preD hi) hj
    · rw [(isA_notC (s.restL j hj hlj)).2] at hc; simp at hc
  · have h1 : x ≠ i := fun e' => by subst e'; exact s.dis _ hi hx
    have h2 : y ≠ i := fun e' => by subst e'; exact s.dis _ hi hy
    rw [hLs x hsz, if_neg h1] at hlx
    rw [hLs y hsz, if_neg h2] at hly
    exact s.yinj x y hx hlx hy hly hne

theorem SD.realA (hlt : (ops.toList.zipIdx.all fun (o, i) => o.after.all fun e => !Region.binds .any e || decide (e.on < i)) = true) (htmp : chkTmp k ops (befM ops) = true)
    (s : SD P k ops n m0 H0 w0 ds listed a w pre rest T e H m rb) {o : Oper} (ho : ops[i]? = some o) (hi : i ∈ rest) (hl : L listed i = false) (hkA : (k i).isA = true)
    (hdeps : ∀ o, ops[i]? = some o → ∀ e ∈ o.after, Region.binds .any e = true → listed.getD e.on false = true) {Ty d : Nat} {zv : Value} (hop : o.op = .alloc Ty) (hg : o.guard = none) (hd : o.dst = some d) (hdn : d < n) (hz : ∀ z, zeroO P Ty = some z → ∀ m, Rel m z zv) :
    SD P k ops n m0 H0 w0 ds (listed.setIfInBounds i true) (a.put o.dst (.pointer (some ⟨w.heap.size, 0, none⟩))) (w.alloc (.cells zv.cells Ty)) pre rest T e H m (fun j => if j = i then w.heap.size else rb j) := by
  have hsz : i < listed.size := by rw [s.lsize]; exact s.lt i (.inr hi)
  have hLs := L_set listed i
  obtain ⟨s1, s2⟩ := Act.put_size a o.dst (.pointer (some ⟨w.heap.size, 0, none⟩))
  have hold : ∀ r, r < w.heap.size → (w.alloc (.cells zv.cells Ty)).heap[r]? = w.heap[r]? := fun r hr => heap_alloc_old w _ r hr
  have hip : i ∉ pre := fun h => s.dis i h hi
  refine ⟨s.hr.world hold, s.stp.trans (Stp.world rfl rfl rfl (by simp) hold), s1.trans s.size, s2.trans s.defers, down_set s.down hsz hdeps, by simp [s.lsize], s.ord, s.all, s.lt, s.dis, s.nodup, s.preD, fun j hj hlj => ?_, fun j hj hlj => ?_, fun t ht => ?_,
    fun j oj hj hlj hoj => ?_, fun j oj hj hlj hoj => ?_, fun x y hx hlx hy hly hne => ?_, s.tv⟩
  · rw [hLs j hsz] at hlj
    split at hlj
    · rename_i e'; subst e'; exact hkA
    · exact s.restL j hj hlj
  · have hne : j ≠ i := fun e' => by subst e'; exact hip hj
    rw [hLs j hsz, if_neg hne] at hlj
    exact s.xk j hj hlj
  · have hdt : o.dst ≠ some t := fun hdt => (ht i o ho hdt).2 ⟨hi, by rw [hLs i hsz]; simp⟩
    rw [put_ne hdt]
    refine s.slots t fun j oj hoj hd' => ⟨fun h => ?_, fun h => ?_⟩
    · have hne : j ≠ i := fun e' => by subst e'; exact hip h.1
      exact (ht j oj hoj hd').1 ⟨h.1, by rw [hLs j hsz, if_neg hne]; exact h.2⟩
    · refine (ht j oj hoj hd').2 ⟨h.1, ?_⟩
      rw [hLs j hsz]; split
      · rfl
      · exact h.2
  · have hne : j ≠ i := fun e' => by subst e'; exact hip hj
    rw [hLs j hsz, if_neg hne] at hlj
    exact s.x j oj hj hlj hoj
  · by_cases hne : j = i
    · subst hne
      rw [ho] at hoj; injection hoj with e'; subst e'
      refine ⟨Ty, d, zv, hop, hg, hd, ?_, ?_, hz, ?_, fun b A B hb hB hv he => ?_, ?_⟩
      · rw [hd, put_at (by rw [s.size]; exact hdn)]; simp
      · simp only [if_true]; exact heap_alloc_new w _
      · simp only [if_true]; exact s.stp.size
      · simp only [if_true] at he
        have := s.hr.lt hb hB hv; omega
      · simp only [if_true]; exact s.hr.zlt (Nat.le_refl _)
    · rw [hLs j hsz, if_neg hne] at hlj
      obtain ⟨Ty2, d2, zv2, f1, f2, f3, f4, f5, f6, f7, f8⟩ := s.y j oj hj hlj hoj
      simp only [if_neg hne]
      refine ⟨Ty2, d2, zv2, f1, f2, f3, ?_, ?_, f6, f7, f8⟩
      · rw [put_ne fun hdd => ?_]; exact f4
        have nc : ∀ x, (k x).isA = true → (k x).isC = true → False := fun x h1 h2 => by rw [(isA_notC h1).2] at h2; simp at h2
        rcases tmp_spec htmp hoj ho f3 (.inr hdd) hne with hb | ⟨hc, _⟩
        · rcases tmp_spec htmp ho hoj hdd (.inr f3) (Ne.symm hne) with hb' | ⟨hc, _⟩
          · have := bef_lt hlt hb; have := bef_lt hlt hb'; omega
          · exact nc i hkA hc
        · exact nc j (s.restL j hj hlj) hc
      · rw [hold _ (Array.getElem?_eq_some_iff.1 f5).1]; exact f5
  · by_cases h1 : x = i
    · subst h1
      have h2 : ¬ y = x := fun e' => hne e'.symm
      simp only [if_true, if_neg h2]
      rw [hLs y hsz, if_neg h2] at hly
      obtain ⟨oy, hoy⟩ : ∃ oy, ops[y]? = some oy := ⟨_, Array.getElem?_eq_getElem (s.lt y (.inr hy))⟩
      obtain ⟨_, _, _, _, _, _, _, f5, _⟩ := s.y y oy hy hly hoy
      have := (Array.getElem?_eq_some_iff.1 f5).1; omega
    · by_cases h2 : y = i
      · subst h2
        simp only [if_true, if_neg h1]
        rw [hLs x hsz, if_neg h1] at hlx
        obtain ⟨ox, hox⟩ : ∃ ox, ops[x]? = some ox := ⟨_, Array.getElem?_eq_getElem (s.lt x (.inr hx))⟩
        obtain ⟨_, _, _, _, _, _, _, f5, _⟩ := s.y x ox hx hlx hox
        have := (Array.getElem?_eq_some_iff.1 f5).1; omega
      · simp only [if_neg h1, if_neg h2]
        rw [hLs x hsz, if_neg h1] at hlx
        rw [hLs y hsz, if_neg h2] at hly
        exact s.yinj x y hx hlx hy hly hne

theorem SD.realC (hn : dstOk n ops = true) (htmp : chkTmp k ops (befM ops) = true) (s : SD P k ops n m0 H0 w0 ds listed a w pre (i :: rest) T e H m rb) {o : Oper} (ho : ops[i]? = some o) (hl : L listed i = false)
    (hdeps : ∀ o, ops[i]? = some o → ∀ e ∈ o.after, Region.binds .any e = true → listed.getD e.on false = true) {v : AV} {r : Value} {m' : MMap} {H' : AHeap} {w' : World} (g1 : HRel m' H' w') (g2 : Stp m H w m' H' w') (g3 : Rel m' v r)
    (hst : ∀ p ∈ T, hrow H' p.1 p.2 = hrow H p.1 p.2) : SD P k ops n m0 H0 w0 ds (listed.setIfInBounds i true) (a.put o.dst r) w' (i :: pre) rest T (putE e o.dst v) H' m' rb := by
  obtain ⟨h1, h2, h3, h4, h5, h6, hip, hir⟩ := s.shift
  have hsz : i < listed.size := by rw [s.lsize]; exact s.lt i (.inr (by simp))
  have hLs := L_set listed i
  obtain ⟨s1, s2⟩ := Act.put_size a o.dst r
  have hlenH : H.length ≤ H'.length := by rw [← s.hr.len, ← g1.len]; exact mle_len g2.mle
  refine ⟨g1, s.stp.trans g2, s1.trans s.size, s2.trans s.defers, down_set s.down hsz hdeps, by simp [s.lsize], h1, h2, h3, h4, h5, h6, fun j hj hlj => ?_, fun j hj hlj => ?_, fun t ht => ?_, fun j oj hj hlj hoj => ?_, fun j oj hj hlj hoj => ?_,
    fun x y hx hlx hy hly hne => ?_, fun p hp => Nat.lt_of_lt_of_le (s.tv p hp) hlenH⟩
  · have hne : j ≠ i := fun e' => by subst e'; exact hir hj
    rw [hLs j hsz, if_neg hne] at hlj
    exact s.restL j (by simp [hj]) hlj
  · rw [hLs j hsz] at hlj
    split at hlj
    · simp at hlj
    · rename_i hne
      rcases List.mem_cons.1 hj with h | h
      · exact absurd h hne
      · exact s.xk j h hlj
  · by_cases hdt : o.dst = some t
    · have hlt : t < a.tmps.size := by rw [s.size]; exact dstOk_spec hn ho hdt
      rw [putE_same hdt, hdt, put_at hlt]; exact g3
    · rw [putE_other hdt, put_ne hdt]
      refine (s.slots t fun j oj hoj hd => ?_).mono g2.mle
      have hne : j ≠ i := fun e' => by subst e'; rw [ho] at hoj; injection hoj with e'; subst e'; exact hdt hd
      refine ⟨fun h => (ht j oj hoj hd).1 ⟨by simp [h.1], by rw [hLs j hsz, if_neg hne]; exact h.2⟩, fun h => ?_⟩
      rcases List.mem_cons.1 h.1 with h' | h'
      · exact hne h'
      · exact (ht j oj hoj hd).2 ⟨h', by rw [hLs j hsz, if_neg hne]; exact h.2⟩
  · rw [hLs j hsz] at hlj
    split at hlj
    · simp at hlj
    · rename_i hne
      rcases List.mem_cons.1 hj with h | h
      · exact absurd h hne
      · have clear : ∀ t, (t ∈ reads ops oj ∨ oj.dst = some t) → o.dst ≠ some t := fun t hnm hd => by
          rcases tmp_spec htmp ho hoj hd hnm (Ne.symm hne) with hb | ⟨_, hb⟩
          · exact hip (hb.pre s.preD h)
          · have : L listed j = true := hb.listed s.down hdeps
            rw [hlj] at this; simp at this
        exact (s.x j oj h hlj hoj).keep g2.mle (fun _ h => h) hst (fun t ht => putE_other (clear t (.inl ht))) (fun t ht => putE_other (clear t (.inr ht)))
  · have hne : j ≠ i := fun e' => by subst e'; exact hir hj
    rw [hLs j hsz, if_neg hne] at hlj
    obtain ⟨Ty2, d2, zv2, f1, f2, f3, f4, f5, f6, f7, f8, f9⟩ := s.y j oj (by simp [hj]) hlj hoj
    have hrs : rb j < w.heap.size := (Array.getElem?_eq_some_iff.1 f5).1
    have hni : ¬ Img m H (rb j) := fun ⟨b, A, B, q1, q2, q3, q4, q5⟩ => f8 b A B (hget_eq.2 q1) q2 q4 q5
    refine ⟨Ty2, d2, zv2, f1, f2, f3, ?_, by rw [g2.block _ hrs hni]; exact f5, f6, f7, fun b A B hb hB hv he => ?_, ?_⟩
    · rw [put_ne fun hdd => ?_]; exact f4
      rcases tmp_spec htmp hoj ho f3 (.inr hdd) hne with hb | ⟨hc, _⟩
      · exact h4 j (hb.pre h6 (by simp)) hj
      · rw [(isA_notC (s.restL j (by simp [hj]) hlj)).2] at hc; simp at hc
    · rcases g2.new b B hB hv with q | q | q
      · have hbl : b < H.length := by rw [← s.hr.len]; exact (List.getElem?_eq_some_iff.1 q).1
        cases hx : H[b]? with
        | none => have := List.getElem?_eq_none_iff.1 hx; omega
        | some x =>
          cases x with
          | none => have := g2.dead b hx; rw [hget_eq.1 hb] at this; simp at this
          | some A0 => exact f8 b A0 B (hget_eq.2 hx) q hv he
      · rw [he] at q; exact hni q
      · omega
    · cases hz : m'.z (rb j) with
      | none => rfl
      | some c =>
        rcases g2.newz _ c hz with q | q | q
        · rw [f9] at q; simp at q
        · exact absurd q hni
        · omega
  · have n1 : x ≠ i := fun e' => by subst e'; exact hir hx
    have n2 : y ≠ i := fun e' => by subst e'; exact hir hy
    rw [hLs x hsz, if_neg n1] at hlx
    rw [hLs y hsz, if_neg n2] at hly
    exact s.yinj x y (by simp [hx]) hlx (by simp [hy]) hly hne

end
end Go.Ab
/- The abstract machine: whatever order is drawn (5); code; calls. -/
set_option linter.unusedVariables false
set_option linter.unusedSimpArgs false
namespace Go.Ab

def todo (ops : Array Oper) (listed : Array Bool) : Nat := (List.range ops.size).countP fun i => !L listed i

theorem countP_set (l : List Nat) (p q : Nat → Bool) (i : Nat) (hnd : l.Nodup) (hi : i ∈ l) (hp : p i = true) (hq : q i = false) (h : ∀ j, j ≠ i → q j = p j) : l.countP p = l.countP q + 1 := by
  induction l with
  | nil => simp at hi
  | cons x l ih =>
    have hnd' := List.nodup_cons.1 hnd
    by_cases hx : x = i
    · subst hx
      have : l.countP p = l.countP q := List.countP_congr fun y hy => by
        have : y ≠ x := fun e => by subst e; exact hnd'.1 hy
        rw [h y this]
      simp [List.countP_cons, hp, hq, this]
    · have := ih hnd'.2 (by rcases List.mem_cons.1 hi with h | h; exact absurd h.symm hx; exact h)
      rw [List.countP_cons, List.countP_cons, this, h x hx]
      omega

theorem todo_set {ops : Array Oper} {listed : Array Bool} {i : Nat} (hs : listed.size = ops.size) (hi : i < ops.size) (hl : L listed i = false) : todo ops listed = todo ops (listed.setIfInBounds i true) + 1 := by
  refine countP_set _ _ _ i List.nodup_range (List.mem_range.2 hi) (by simp [hl]) (by rw [L_set listed i i (by omega)]; simp) fun j hj => ?_
  rw [L_set listed i j (by omega), if_neg hj]

section
variable {P : Program} {k : Nat → Kd} {ops : Array Oper} {n : Nat} {m0 : MMap} {H0 : AHeap} {w0 : World} {ds : List Deferred} {K : Env → AHeap → Prop}

theorem any_sound (hk : KOk P k ops) (hn : dstOk n ops = true) (htmp : chkTmp k ops (befM ops) = true)
    (hlt : (ops.toList.zipIdx.all fun (o, i) => o.after.all fun e => !Region.binds .any e || decide (e.on < i)) = true) {Q : Exit → Act → World → Prop}
    (hA : ∀ (e' : Env) (H' : AHeap) (m' : MMap) (w' : World) (a' : Act), HRel m' H' w' → ERel m' e' a' → a'.tmps.size = n → a'.defers = ds → Stp m0 H0 w0 m' H' w' → K e' H' → Q .normal a' w') :
    ∀ (fuel : Nat) {listed : Array Bool} {a : Act} {w : World} {pre rest : List Nat} {T : List (Nat × Nat)} {e : Env} {H : AHeap} {m : MMap} {rb : Nat → Nat},
      SD P k ops n m0 H0 w0 ds listed a w pre rest T e H m rb → aopsD P k ops rest T e H K → todo ops listed = fuel → wpAny P .any ops Q fuel listed a w := by
  intro fuel
  have fin : ∀ {listed : Array Bool} {a : Act} {w : World} {pre rest : List Nat} {T : List (Nat × Nat)} {e : Env} {H : AHeap} {m : MMap} {rb : Nat → Nat},
      SD P k ops n m0 H0 w0 ds listed a w pre rest T e H m rb → aopsD P k ops rest T e H K → (∀ i r, rest = i :: r → (k i).isPl = false ∧ L listed i = false) → Region.ready .any ops listed = [] → Q .normal a w := by
    intro listed a w pre rest T e H m rb s h hhd hr
    have all : ∀ i, i < ops.size → L listed i = true := by
      intro i
      induction i using Nat.strongRecOn with
      | _ i ih =>
        intro hi
        cases hl : L listed i with
        | true => rfl
        | false =>
          exfalso
          have hmem : i ∈ Region.ready .any ops listed := by
            refine mem_ready.2 ⟨?_, ops[i], Array.getElem?_eq_getElem hi, fun ed hed hb => ?_⟩
            · unfold L at hl
              have : i < listed.size := by rw [s.lsize]; exact hi
              rw [Array.getD_eq_getD_getElem?, Array.getElem?_eq_getElem this] at hl ⊢
              simpa using hl
            · have hlt' := bef_lt hlt (Bef.edge (Array.getElem?_eq_getElem hi) hed hb rfl)
              exact ih _ hlt' (by omega)
          rw [hr] at hmem; simp at hmem
    cases rest with
    | cons i r =>
      have h1 := (hhd i r rfl).2
      have h2 := all i (s.lt i (.inr (by simp)))
      rw [h1] at h2; simp at h2
    | nil =>
      refine hA e H m w a s.hr (fun t => s.slots t fun i o ho hd => ⟨fun hx => ?_, fun hx => by simp at hx⟩) s.size s.defers s.stp h
      have := all i (s.lt i (.inl hx.1))
      rw [hx.2] at this; simp at this
  induction fuel with
  | zero =>
    intro listed a w pre rest T e H m rb s h hc
    obtain ⟨pre', rest', T', e', H', m', s', h', hhd⟩ := s.adv hk htmp rest h
    have hr : Region.ready .any ops listed = [] := by
      rw [List.eq_nil_iff_forall_not_mem]
      intro i hi
      obtain ⟨hl, o, ho, _⟩ := mem_ready.1 hi
      have hlt' := (Array.getElem?_eq_some_iff.1 ho).1
      have := List.countP_eq_zero.1 hc i (List.mem_range.2 hlt')
      have hs : i < listed.size := by rw [s.lsize]; exact hlt'
      unfold L at this
      rw [Array.getD_eq_getD_getElem?, Array.getElem?_eq_getElem hs] at hl this
      simp at hl this
      rw [hl] at this; simp at this
    exact ⟨hr, fin s' h' hhd hr⟩
  | succ fuel ih =>
    intro listed a w pre rest T e H m rb s h hc
    obtain ⟨pre', rest', T', e', H', m', s', h', hhd⟩ := s.adv hk htmp rest h
    clear h s
    refine ⟨fun hr => fin s' h' hhd hr, fun i hi => ?_⟩
    obtain ⟨hl0, o, ho, hdeps0⟩ := mem_ready.1 hi
    have hlt' := (Array.getElem?_eq_some_iff.1 ho).1
    have hs : i < listed.size := by rw [s'.lsize]; exact hlt'
    have hl : L listed i = false := by
      unfold L
      rw [Array.getD_eq_getD_getElem?, Array.getElem?_eq_getElem hs] at hl0 ⊢
      simpa using hl0
    have hdeps : ∀ o, ops[i]? = some o → ∀ e ∈ o.after, Region.binds .any e = true → listed.getD e.on false = true := fun o' ho' e he hb => by
      rw [ho] at ho'; injection ho' with e'; subst e'; exact hdeps0 e he hb
    have hcount : todo ops (listed.setIfInBounds i true) = fuel := by have := todo_set s'.lsize hlt' hl; omega
    rcases s'.all i hlt' with hpre | hrest
    · exact (s'.x i o hpre hl ho).run ho s'.hr (s'.readX htmp ho hpre hl hdeps) fun r hr => ih (s'.realX hn htmp ho hpre hl hdeps hr) h' hcount
    · by_cases hkA : (k i).isA = true
      · obtain ⟨Ty, d, hop, hg, hd, hz⟩ := hk.a i o ho hkA
        obtain ⟨z, hz⟩ := Option.isSome_iff_exists.1 hz
        obtain ⟨zv, hz1, hz2⟩ := zeroO_at hz
        unfold wpOp
        simp only [ho, wanted_none hg, if_true]
        refine .inl ?_
        unfold Oper.wp
        have hrun : (execOp a.eval o).run P w = .ok (.value (.pointer (some ⟨w.heap.size, 0, none⟩))) (w.alloc (.cells zv.cells Ty)) := by
          simp [execOp, hop, Instr.alloc, hz1, newVar, newRow]
        rw [hrun]
        exact ih (s'.realA hlt htmp ho hrest hl hkA hdeps hop hg hd (dstOk_spec hn ho hd) (fun z' hz' => by rw [hz] at hz'; injection hz' with e'; subst e'; exact hz2)) h' hcount
      · have hkA : (k i).isA = false := by simpa using hkA
        cases hrest' : rest' with
        | nil => rw [hrest'] at hrest; simp at hrest
        | cons hd r =>
          obtain ⟨hhp, hhl⟩ := hhd hd r hrest'
          have hbad : ∀ x, Bef ops x i → L listed x = true := fun x hb => hb.listed s'.down hdeps
          by_cases hieq : i = hd
          · subst hieq
            rw [hrest'] at s' h'
            simp only [aopsD, ho] at h'
            have hip : i ∉ pre' := fun h => s'.dis i h (by simp)
            have hC := isC_of hhp hkA
            -- what it reads
            have hreads : ∀ t ∈ reads ops o, Rel m' (e' t) (a.tmps.getD t undef) := fun t ht => by
              refine s'.slots t fun x ox hox hdx => ⟨fun hx => ?_, fun hx => ?_⟩
              · have hxp := s'.xk x hx.1 hx.2
                have hne : x ≠ i := fun e => by subst e; exact hip hx.1
                rcases tmp_spec htmp hox ho hdx (.inl ht) hne with hb | ⟨hc, _⟩
                · have := hbad x hb; rw [hx.2] at this; simp at this
                · rw [(isPl_notA hxp).2] at hc; simp at hc
              · have hne : x ≠ i := fun e => by subst e; rw [hl] at hx; simp at hx
                have hxA := s'.restL x hx.1 hx.2
                rcases tmp_spec htmp hox ho hdx (.inl ht) hne with hb | ⟨hc, _⟩
                · have hxp : x ∈ pre' := by
                    obtain ⟨⟨o', ho', hdd⟩, _⟩ := chk_head s'.ord
                    refine hb.pre1 s'.preD fun o2 ho2 => ?_
                    rw [ho'] at ho2; injection ho2 with e2; subst e2; exact hdd
                  exact s'.dis x hxp hx.1
                · rw [(isA_notC hxA).2] at hc; simp at hc
            have hops : ∀ x ∈ o.op.operands, Rel m' (eo e' x) (a.eval x) := fun x hx => by
              cases x with
              | tmp t => exact hreads t (reads_ops hx)
              | const v => exact ofV_rel m' v
              | global g => exact .un _
              | func f =>
                have := Rel.fn (m := m') (f := f) (cap := []) (caps := []) rfl (fun i v r h => by simp at h)
                simpa [eo, Act.eval] using this
            have hT : loads e' o.op T' = T' := by
              have := hk.ld i o ho hhp
              unfold loads
              split
              · rename_i Ty ad heq; exact absurd heq (this Ty ad)
              · rfl
            have run : AExec P H' (eo e') o.op (fun v H'' => rowsSame T' H'' H' ∧ aopsD P k ops r (loads e' o.op T') (putE e' o.dst v) H'' K) →
                o.wp P a w (wpAny P .any ops Q fuel (listed.setIfInBounds i true)) Q := by
              intro hx
              rw [hT] at hx
              unfold Oper.wp
              rcases aexec_sound (ρ := a.eval) s'.hr hops hx with ⟨v, rv, m2, H2, w2, ⟨hst, hK⟩, q1, q2, q3, q4⟩ | ⟨g, avs, vs, hac, hvs, hrun⟩
              · have nxt := ih (s'.realC hn htmp ho hl hdeps q1 q2 q3 (rowsSame_all hst)) hK hcount
                rcases q4 o rfl with q5 | ⟨q5, hu⟩
                · rw [q5]; exact nxt
                · rw [q5]; subst hu; exact nxt
              · rw [hrun o rfl]
                exact (hac.2 m' w vs s'.hr hvs).mono fun e2 w2 ⟨v, rv, m2, H2, he, q1, q3, q2, hst, hK⟩ => by
                  subst he; exact ih (s'.realC hn htmp ho hl hdeps q1 q2 q3 (rowsSame_all hst)) hK hcount
            have skip : aopsD P k ops r T' (putE e' o.dst (.tup [])) H' K → wpAny P .any ops Q fuel (listed.setIfInBounds i true) (a.put o.dst undef) w := fun hx =>
              ih (s'.realC hn htmp ho hl hdeps s'.hr (.refl _ _ _) (rel_undef m') (fun _ _ => rfl)) hx hcount
            unfold wpOp
            simp only [ho]
            cases hg : o.guard with
            | none =>
              rw [hg] at h'
              simp only [wanted_none hg, if_true]
              exact .inl (run h')
            | some gw =>
              obtain ⟨j, want⟩ := gw
              rw [hg] at h'
              simp only at h'
              cases hj : (ops[j]?).bind (·.dst) with
              | none =>
                rw [hj] at h'
                have hw : Region.wanted o (yielded ops a.tmps) = false := by simp [Region.wanted, hg, yielded, hj]
                simp only [hw, Bool.false_eq_true, if_false]
                exact skip h'
              | some d =>
                rw [hj] at h'
                simp only at h'
                have hgr := hreads d (reads_guard hg hj)
                split at h'
                · rename_i b hb
                  have hy := yielded_bool hj hb hgr
                  by_cases hw : b = want
                  · have h1 := h'.1 hw
                    rw [upd_id (by rw [hb, hw])] at h1
                    have hw' : Region.wanted o (yielded ops a.tmps) = true := by simp [Region.wanted, hg, hy, hw]
                    simp only [hw', if_true]
                    exact .inl (run h1)
                  · have hbw : b = !want := by cases b <;> cases want <;> simp_all
                    have h1 := h'.2 hbw
                    rw [upd_id (by rw [hb, hbw])] at h1
                    have hw' : Region.wanted o (yielded ops a.tmps) = false := by simp [Region.wanted, hg, hy, hw]
                    simp only [hw', Bool.false_eq_true, if_false]
                    exact skip h1
                · rename_i hb
                  have hy := yielded_tup hj hb hgr
                  have hw' : Region.wanted o (yielded ops a.tmps) = false := by simp [Region.wanted, hg, hy]
                  simp only [hw', Bool.false_eq_true, if_false]
                  exact skip h'
                · exact h'.elim
          · exfalso
            have hri : i ∈ r := by
              rw [hrest'] at hrest
              rcases List.mem_cons.1 hrest with h | h
              · exact absurd h hieq
              · exact h
            obtain ⟨mid, post, hsplit⟩ := List.append_of_mem hri
            have hord := s'.ord
            rw [hrest', hsplit] at hord
            obtain ⟨c1, c2⟩ := chk_mid (hd :: mid) (i := i) (post := post) hord
            by_cases hp : (k i).isPl = true
            · obtain ⟨c, hc, hcC, hb⟩ := c1 hp ⟨hd, by simp, hhp⟩
              have hL := hbad c hb
              have hcr : c ∈ rest' := by
                rw [hrest', hsplit]
                rcases List.mem_cons.1 hc with h | h
                · simp [h]
                · simp [h]
              have := s'.restL c hcr hL
              rw [(isA_notC this).2] at hcC; simp at hcC
            · have hC := isC_of (by simpa using hp) hkA
              have hb := c2 hC hd (by simp) hhp
              have := hbad hd hb
              rw [hhl] at this; simp at this

theorem region_sound {P : Program} {ops : Array Oper} {id n : Nat} {lz σ : List Nat} (hm : P.follows .mixedOrders = true) (hn : dstOk n ops = true) (hc : chkReg P lz σ ops = true) {Q : Exit → Act → World → Prop} {m : MMap} {H : AHeap} {w : World} {a : Act} {e : Env} {K : Env → AHeap → Prop}
    (h : aopsD P (kd P lz ops) ops σ [] e H K) (hH : HRel m H w) (hE : ERel m e a) (hs : a.tmps.size = n) (hA : After n m H w a K (Q .normal)) : (Code.region id ops true).wp P Q a w := by
  unfold chkReg at hc
  simp only [Bool.and_eq_true] at hc
  obtain ⟨⟨⟨⟨⟨c1, c2⟩, c3⟩, c4⟩, c5⟩, c6⟩ := hc
  have hperm : ∀ i, i < ops.size → i ∈ σ := fun i hi => by have := List.all_eq_true.1 c3 i (List.mem_range.2 hi); simpa using this
  have hlt : ∀ i, i ∈ σ → i < ops.size := fun i hi => by have := List.all_eq_true.1 c4 i hi; simpa using this
  have hnd := nodupB_spec c5
  refine wp_region_any hm ?_
  have hL : ∀ i, L (Array.replicate ops.size false) i = false := fun i => by
    unfold L
    rw [Array.getD_eq_getD_getElem?, Array.getElem?_replicate]
    split <;> rfl
  have hw : ∀ r, r < w.heap.size → ({ w with drawn := w.drawn + 1 } : World).heap[r]? = w.heap[r]? := fun _ _ => rfl
  refine any_sound (kd_ok P lz ops) hn c2 c6 (m0 := m) (H0 := H) (w0 := w) (ds := a.defers) (fun e' H' m' w' a' k1 k2 k3 k4 k5 k6 => hA e' H' m' w' a' k1 k2 k3 k4 k5 k6) ops.size (pre := []) (rest := σ) (T := []) (e := e) (H := H) (m := m) (rb := fun _ => 0) ?_ h ?_
  · refine ⟨hH.world hw, Stp.world rfl rfl rfl (Nat.le_refl _) hw, hs, rfl, fun i o hi => ?_, by simp, c1, fun i hi => .inr (hperm i hi), fun i hi => ?_, fun i hi => by simp at hi, hnd, fun i o hi => by simp at hi, fun i hi hl => ?_, fun i hi => by simp at hi,
      fun t _ => hE t, fun i o hi => by simp at hi, fun i o hi hl => ?_, fun i j hi hl => ?_, fun p hp => by simp at hp⟩
    · have := hL i; unfold L at this; rw [this] at hi; simp at hi
    · rcases hi with hi | hi
      · simp at hi
      · exact hlt i hi
    · rw [hL i] at hl; simp at hl
    · rw [hL i] at hl; simp at hl
    · rw [hL i] at hl; simp at hl
  · unfold todo
    rw [List.countP_eq_length.2]
    · simp
    · intro i _; simp [hL i]

end
end Go.Ab
/- The abstract machine: code and calls. -/
set_option linter.unusedVariables false
set_option linter.unusedSimpArgs false
namespace Go.Ab

abbrev Tbl := Nat → Option (List Nat × List Nat)
def tbl0 : Tbl := fun _ => none
def ordOf (tbl : Tbl) (id : Nat) (ops : Array Oper) : List Nat := match tbl id with | some (σ, _) => σ | none => List.range ops.size
def lzOf (tbl : Tbl) (id : Nat) : List Nat := match tbl id with | some (_, l) => l | none => []

def acode (P : Program) (tbl : Tbl) (N0 : Nat) : Code → Env → AHeap → (AX → Env → AHeap → Prop) → Prop
  | .skip, e, H, K => K .normal e H
  | .region id ops dr, e, H, K => match dr with
    | false => aops P ops (List.range ops.size) e H (K .normal)
    | true => aopsD P (kd P (lzOf tbl id) ops) ops (ordOf tbl id ops) [] e H (K .normal)
  | .seq a b, e, H, K => acode P tbl N0 a e H (thenK (fun e H => acode P tbl N0 b e H K) K)
  | .cond c t f, e, H, K => match eo e c with
    | .bool b => (b = true → acode P tbl N0 t e H K) ∧ (b = false → acode P tbl N0 f e H K)
    | _ => False
  | .block id body, e, H, K => acode P tbl N0 body e H (blockK id K)
  | .loop body, e, H, K => ALoop N0 (acode P tbl N0 body) e H K
  | .exit id, e, H, K => K (.exit id) e H
  | .ret, e, H, K => K .ret e H
  | _, _, _, _ => False

def chkCode (P : Program) (n : Nat) (tbl : Tbl) : Code → Bool
  | .region id ops dr => dstOk n ops && (match dr with | true => chkReg P (lzOf tbl id) (ordOf tbl id ops) ops | false => true)
  | .seq a b => chkCode P n tbl a && chkCode P n tbl b
  | .cond _ t f => chkCode P n tbl t && chkCode P n tbl f
  | .block _ b => chkCode P n tbl b
  | .loop b => chkCode P n tbl b
  | _ => true

/-- What is to follow, by the way out. -/
def AfterX (n : Nat) (m : MMap) (H : AHeap) (w : World) (ds : List Deferred) (K : AX → Env → AHeap → Prop) (Q : Exit → Act → World → Prop) : Prop :=
  ∀ (x : AX) (e' : Env) (H' : AHeap) (m' : MMap) (w' : World) (a' : Act), HRel m' H' w' → ERel m' e' a' → a'.tmps.size = n → a'.defers = ds → Stp m H w m' H' w' → K x e' H' → Q x.real a' w'

theorem least {p : Nat → Prop} (h : ∃ n, p n) : ∃ n, p n ∧ ∀ k, p k → n ≤ k := by
  obtain ⟨n, hn⟩ := h
  induction n using Nat.strongRecOn with
  | _ n ih =>
    by_cases hk : ∃ k, k < n ∧ p k
    · obtain ⟨k, hk, hp⟩ := hk; exact ih k hk hp
    · exact ⟨n, hn, fun k hp => by
        rcases Nat.lt_or_ge k n with h | h
        · exact absurd ⟨k, h, hp⟩ hk
        · exact h⟩

theorem acode_sound {P : Program} {n N0 : Nat} {tbl : Tbl} {mB : MMap} {HB : AHeap} {wB : World} (hN0 : HB.length = N0) (hmB : mB.l.length = N0) (hmix : P.follows .mixedOrders = true) : ∀ (c : Code) {e : Env} {H : AHeap} {K : AX → Env → AHeap → Prop} {m : MMap} {w : World} {a : Act} {Q : Exit → Act → World → Prop},
    chkCode P n tbl c = true → acode P tbl N0 c e H K → HRel m H w → ERel m e a → a.tmps.size = n → Stp mB HB wB m H w → AfterX n mB HB wB a.defers K Q → c.wp P Q a w := by
  intro c
  induction c with
  | skip =>
    intro e H K m w a Q hc h hH hE hs hB hA
    exact wp_skip (hA .normal e H m w a hH hE hs rfl hB h)
  | region id ops dr =>
    intro e H K m w a Q hc h hH hE hs hB hA
    unfold chkCode at hc
    simp only [Bool.and_eq_true] at hc
    cases dr with
    | false => exact wp_region (aops_sound hc.1 _ h hH hE hs fun e' H' m' w' a' k1 k2 k3 k4 k5 k6 => hA .normal e' H' m' w' a' k1 k2 k3 k4 (hB.trans k5) k6)
    | true => exact region_sound hmix hc.1 hc.2 h hH hE hs fun e' H' m' w' a' k1 k2 k3 k4 k5 k6 => hA .normal e' H' m' w' a' k1 k2 k3 k4 (hB.trans k5) k6
  | seq x y ih1 ih2 =>
    intro e H K m w a Q hc h hH hE hs hB hA
    unfold chkCode at hc
    simp only [Bool.and_eq_true] at hc
    refine wp_seq (ih1 hc.1 h hH hE hs hB fun ax e' H' m' w' a' k1 k2 k3 k4 k5 k6 => ?_)
    cases ax with
    | normal => exact ih2 hc.2 k6 k1 k2 k3 k5 fun x e'' H'' m'' w'' a'' g1 g2 g3 g4 g5 g6 => hA x e'' H'' m'' w'' a'' g1 g2 g3 (g4.trans k4) g5 g6
    | exit id => exact hA (.exit id) e' H' m' w' a' k1 k2 k3 k4 k5 k6
    | ret => exact hA .ret e' H' m' w' a' k1 k2 k3 k4 k5 k6
  | cond c t f ih1 ih2 =>
    intro e H K m w a Q hc h hH hE hs hB hA
    unfold chkCode at hc
    simp only [Bool.and_eq_true] at hc
    unfold acode at h
    split at h
    · rename_i b hb
      have hv := eo_rel hE c
      rw [hb] at hv
      have hv := hv.bool_inv
      cases b with
      | true => exact wp_cond_true hv (ih1 hc.1 (h.1 rfl) hH hE hs hB hA)
      | false => exact wp_cond_false hv (ih2 hc.2 (h.2 rfl) hH hE hs hB hA)
    · exact h.elim
  | block id b ih =>
    intro e H K m w a Q hc h hH hE hs hB hA
    refine wp_block (ih hc h hH hE hs hB fun ax e' H' m' w' a' k1 k2 k3 k4 k5 k6 => ?_)
    cases ax with
    | normal => exact hA .normal e' H' m' w' a' k1 k2 k3 k4 k5 k6
    | exit i =>
      simp only [AX.real, Exit.inBlock]
      simp only [blockK] at k6
      split
      · rename_i hi; rw [if_pos hi] at k6; exact hA .normal e' H' m' w' a' k1 k2 k3 k4 k5 k6
      · rename_i hi; rw [if_neg hi] at k6; exact hA (.exit i) e' H' m' w' a' k1 k2 k3 k4 k5 k6
    | ret => exact hA .ret e' H' m' w' a' k1 k2 k3 k4 k5 k6
  | loop b ih =>
    intro e H K m w a Q hc h hH hE hs hB hA
    unfold acode ALoop at h
    obtain ⟨I, ⟨n0, e0, H0, hret, h0⟩, hI⟩ := h hH.closed
    obtain ⟨m0, hm0, hme, hst0⟩ := hret m w hH
    have hst0 := hst0 mB HB wB hN0 hmB hB
    have hE0 : ERel m0 e0 a := fun t => hme t _ (hE t)
    let J : Nat → Act → World → Prop := fun k a' w' => ∃ (m' : MMap) (H' : AHeap) (e' : Env), HRel m' H' w' ∧ ERel m' e' a' ∧ a'.tmps.size = n ∧ a'.defers = a.defers ∧ Stp mB HB wB m' H' w' ∧ I k e' H'
    have hJ0 : J n0 a w := ⟨m0, H0, e0, hm0, hE0, hs, rfl, hst0, h0⟩
    let μ : Act → World → Nat := fun a' w' => open Classical in if h : ∃ k, J k a' w' then (least h).choose else 0
    have hμ : ∀ a' w', (∃ k, J k a' w') → J (μ a' w') a' w' ∧ ∀ k, J k a' w' → μ a' w' ≤ k := fun a' w' hk => by
      have := (least hk).choose_spec
      simp only [μ, dif_pos hk]
      exact this
    refine wp_loop (fun a' w' => ∃ k, J k a' w') μ ⟨n0, hJ0⟩ fun a' w' hk => ?_
    obtain ⟨⟨m', H', e', j1, j2, j3, j4, j5, j6⟩, _⟩ := hμ a' w' hk
    refine ih hc (hI _ e' H' j6) j1 j2 j3 j5 fun ax e'' H'' m'' w'' a'' k1 k2 k3 k4 k5 k6 => ?_
    cases ax with
    | normal =>
      obtain ⟨n', e2, H2, hn', hf, hI'⟩ := k6
      obtain ⟨m2, g1, g2, g3⟩ := hf k1.closed m'' w'' k1
      have hJ' : J n' a'' w'' := ⟨m2, H2, e2, g1, fun t => g2 t _ (k2 t), k3, k4.trans j4, g3 mB HB wB hN0 hmB k5, hI'⟩
      exact ⟨⟨n', hJ'⟩, Nat.lt_of_le_of_lt ((hμ a'' w'' ⟨n', hJ'⟩).2 n' hJ') hn'⟩
    | exit id => exact hA (.exit id) e'' H'' m'' w'' a'' k1 k2 k3 (k4.trans j4) k5 k6
    | ret => exact hA .ret e'' H'' m'' w'' a'' k1 k2 k3 (k4.trans j4) k5 k6
  | exit id =>
    intro e H K m w a Q hc h hH hE hs hB hA
    exact wp_exit (hA (.exit id) e H m w a hH hE hs rfl hB h)
  | ret =>
    intro e H K m w a Q hc h hH hE hs hB hA
    exact wp_ret (hA .ret e H m w a hH hE hs rfl hB h)
  | _ => intros; rename_i h _ _ _ _ _; exact h.elim

/-! ### Calls -/
def ares (P : Program) (H : AHeap) (e : Env) : List ResultVar → (List AV → Prop) → Prop
  | [], K => K []
  | .tmp t :: r, K => ares P H e r fun vs => K (e t :: vs)
  | .cell t T :: r, K => match e t with
    | .ptr b i j => match hrow H b i with
      | some row => APart P T row j fun v => ares P H e r fun vs => K (v :: vs)
      | none => False
    | _ => False
def resV : List AV → AV
  | [v] => v
  | vs => .tup vs

theorem loadVar_sound {P : Program} {m : MMap} {H : AHeap} {w : World} (hH : HRel m H w) {b i j T : Nat} {row : List AV} {B : MB} (hB : m.l[b]? = some B) (hv : B.virt = false) (hrow' : hrow H b i = some row) {K : AV → Prop} (h : APart P T row j K) :
    ∃ v r, K v ∧ Rel m v r ∧ (loadVar T ⟨B.blk, B.base + i * B.sz + j, none⟩).run P w = .ok r w := by
  have hal : ALoad P H (eo (fun _ => .ptr b i j)) T (.tmp 0) K := by simp only [ALoad, eo, hrow']; exact h
  obtain ⟨v, hk, hp⟩ := aload_sound hH hal
  obtain ⟨r, h1, h2⟩ := hp m H w (fun _ => .pointer (some ⟨B.blk, B.base + i * B.sz + j, none⟩)) (.refl _) hH (fun _ _ _ _ => rfl) (.ptr hB hv)
  refine ⟨v, r, hk, h1, ?_⟩
  have := h2 ⟨none, .load T (.tmp 0), 0, "", #[], none⟩ rfl
  simp [execOp, Instr.loadAt, Instr.sureAddr] at this
  cases hl : (loadVar T ⟨B.blk, B.base + i * B.sz + j, none⟩).run P w with
  | ok x w' => rw [hl] at this; simp at this; obtain ⟨rfl, rfl⟩ := this; rfl
  | halt x w' => rw [hl] at this; simp at this

def resOf (g : Nat → Value) : ResultVar → Sem Value
  | .tmp t => pure (g t)
  | .cell t T => do loadVar T (← asAddr (g t))

theorem ares_sound {P : Program} {m : MMap} {H : AHeap} {w : World} {e : Env} {g : Nat → Value} (hH : HRel m H w) (hE : ∀ t, Rel m (e t) (g t)) : ∀ (l : List ResultVar) {K : List AV → Prop}, ares P H e l K → ∃ vs rs, K vs ∧ RelL m vs rs ∧ (l.mapM (resOf g)).run P w = .ok rs w
  | [], K, h => ⟨[], [], h, .nil, by simp⟩
  | .tmp t :: l, K, h => by
    obtain ⟨vs, rs, h1, h2, h3⟩ := ares_sound hH hE l h
    exact ⟨_, g t :: rs, h1, .cons (hE t) h2, by simp [List.mapM_cons, h3, resOf]⟩
  | .cell t T :: l, K, h => by
    unfold ares at h
    split at h
    · rename_i b i j ht
      split at h
      · rename_i row hrow'
        have hr := hE t
        rw [ht] at hr
        obtain ⟨B, hB, hv, e1⟩ := hr.ptr_inv
        obtain ⟨v, r, hk, h1, h2⟩ := loadVar_sound hH hB hv hrow' h
        obtain ⟨vs, rs, k1, k2, k3⟩ := ares_sound hH hE l hk
        exact ⟨_, r :: rs, k1, .cons h1 k2, by simp [List.mapM_cons, resOf, e1, asAddr, h2, k3]⟩
      · exact h.elim
    · exact h.elim

def env0 (args : List AV) : Env := fun t => args.getD t (.tup [])

def retK (P : Program) (rl : List ResultVar) (Q : AV → AHeap → Prop) : AX → Env → AHeap → Prop
  | .exit _, _, _ => False
  | .normal, e, H => ares P H e rl fun vs => Q (resV vs) H
  | .ret, e, H => ares P H e rl fun vs => Q (resV vs) H
theorem AC.enter {P : Program} {f : FuncId} {fn : Func} {c : Code} {args : List AV} {H : AHeap} {Q : AV → AHeap → Prop} (tbl : Tbl) (hmix : P.follows .mixedOrders = true) (hf : P.funcs[f]? = some fn) (hb : fn.body = some c) (hname : (fn.name == "runtime.NumGoroutine") = false)
    (hc : chkCode P fn.ntmps tbl c = true) (hn : args.length ≤ fn.ntmps) {rl : List ResultVar} (hrl : fn.results = rl.toArray)
    (h : acode P tbl H.length c (env0 args) H (retK P rl Q)) : AC P f args H Q := by
  have hrl : rl = fn.results.toList := by rw [hrl]
  refine ⟨⟨fn, hf, by rw [hb]; rfl, hname⟩, fun m w vs hH hvs => calls_of_wp hf hb ?_⟩
  have hlen := hvs.1
  refine acode_sound rfl hH.len hmix c hc h hH (fun t => ?_) (by simp; omega) (.refl _ _ _) fun x e' H' m' w' a' k1 k2 k3 k4 k5 k6 => ?_
  · unfold env0
    rw [List.getD_eq_getElem?_getD, Array.getD_eq_getD_getElem?]
    by_cases ht : t < args.length
    · rw [List.getElem?_eq_getElem ht]
      obtain ⟨r, hr1, hr2⟩ := hvs.get (List.getElem?_eq_getElem ht)
      rw [Array.getElem?_append_left (by simp; omega)]
      simp [hr1, hr2]
    · rw [List.getElem?_eq_none (by omega)]
      have : ((vs.toArray ++ Array.replicate (fn.ntmps - vs.toArray.size) undef)[t]?).getD undef = undef := by
        rw [Array.getElem?_append_right (by simp; omega), Array.getElem?_replicate]
        split <;> rfl
      rw [this]
      exact rel_undef m
  · have fin : (ares P H' e' fn.results.toList fun vs => Q (resV vs) H') → a'.defers = [] ∧ ∃ v, (results fn a'.tmps).run P w' = .ok v w' ∧ ∃ v0 r m'' H'', Ending.returned v = .returned r ∧ HRel m'' H'' w' ∧ Rel m'' v0 r ∧ Stp m H w m'' H'' w' ∧ Q v0 H'' := by
      intro h6
      obtain ⟨vs', rs, h1, h2, h3⟩ := ares_sound k1 k2 _ h6
      have hres : (results fn a'.tmps).run P w' = .ok (if h : rs.toArray.size = 1 then rs.toArray[0] else .tuple rs.toArray) w' := by
        have hdef : results fn a'.tmps = (do let vs ← fn.results.mapM (resOf fun t => a'.tmps.getD t undef); pure (if h : vs.size = 1 then vs[0] else .tuple vs)) := by
          unfold results
          congr 1
        rw [hdef, Array.mapM_eq_mapM_toList]
        simp only [Sem.run_bind, Sem.run_map, h3]
        simp
      refine ⟨k4, _, hres, _, _, m', H', rfl, k1, ?_, k5, h1⟩
      have hl := h2.1
      match vs', rs, hl, h2 with
      | [v], [r], _, h2 => simpa [resV] using h2.2 0 v r rfl rfl
      | [], [], _, h2 => simpa [resV] using Rel.tup h2.1 h2.2
      | x :: y :: l, r :: s :: l', _, h2 => simpa [resV] using Rel.tup h2.1 h2.2
    subst hrl
    cases x with
    | normal => exact fin k6
    | ret => exact fin k6
    | exit id => exact k6.elim

end Go.Ab
/- The abstract machine: how it is run. -/
set_option linter.unusedVariables false
set_option linter.unusedSimpArgs false
namespace Go.Ab

/-- Operations of a text's order, by the text itself. -/
def aopsL (P : Program) (ops : Array Oper) : List Oper → Env → AHeap → (Env → AHeap → Prop) → Prop
  | [], e, H, K => K e H
  | o :: rest, e, H, K => match o.guard with
      | none => AExec P H (eo e) o.op fun v H' => aopsL P ops rest (putE e o.dst v) H' K
      | some (j, want) => match (ops[j]?).bind (·.dst) with
        | none => aopsL P ops rest (putE e o.dst (.tup [])) H K
        | some d => match e d with
          | .bool b => (b = want → AExec P H (eo (upd e d (.bool want))) o.op fun v H' => aopsL P ops rest (putE (upd e d (.bool want)) o.dst v) H' K) ∧
              (b = (!want) → aopsL P ops rest (putE (upd e d (.bool (!want))) o.dst (.tup [])) H K)
          | .tup [] => aopsL P ops rest (putE e o.dst (.tup [])) H K
          | _ => False

theorem aexec_mono {P : Program} {H : AHeap} {ev : Operand → AV} {op : Op} {K K' : AV → AHeap → Prop} (h : ∀ v H', K v H' → K' v H') (hx : K = K') : AExec P H ev op K → AExec P H ev op K' := by subst hx; exact id

theorem aopsL_eq (P : Program) (ops : Array Oper) (K : Env → AHeap → Prop) : ∀ (l : List Oper) (k : Nat), ops.toList.drop k = l → ∀ e H, aopsL P ops l e H K = aops P ops (List.range' k l.length) e H K
  | [], k, _, e, H => by simp [aopsL, aops]
  | o :: l, k, hk, e, H => by
    have ho : ops[k]? = some o := by
      have := congrArg (fun x => x[0]?) hk
      simp at this
      exact this
    have hl : ops.toList.drop (k + 1) = l := by
      have := congrArg List.tail hk
      simpa using this
    have ih := aopsL_eq P ops K l (k + 1) hl
    simp only [List.length_cons, List.range'_succ, aopsL, aops, ho]
    simp only [ih]
    try rfl

theorem aops_text {P : Program} {ops : Array Oper} {e : Env} {H : AHeap} {K : Env → AHeap → Prop} : aops P ops (List.range ops.size) e H K = aopsL P ops ops.toList e H K := by
  rw [aopsL_eq P ops K ops.toList 0 rfl, List.range_eq_range']
  simp

/-- A mark by which a congruence is always taken. -/
def kv {α : Sort _} (x : α) : α := x
theorem kv_eq {α : Sort _} (x : α) : kv x = x := (fun (h : kv x = x) => h) (Eq.refl x)
section
variable {P : Program} {ops : Array Oper} {H H' : AHeap} {e e' : Env}
theorem aopsL_c {l : List Oper} {K : Env → AHeap → Prop} (he : kv e = e') (hH : H = H') : aopsL P ops l e H K = aopsL P ops l e' H' K := by rw [kv_eq] at he; rw [he, hH]
theorem acode_c {tbl : Tbl} {N0 : Nat} {c : Code} {K : AX → Env → AHeap → Prop} (he : kv e = e') (hH : H = H') : acode P tbl N0 c e H K = acode P tbl N0 c e' H' K := by rw [kv_eq] at he; rw [he, hH]
theorem ALoop_c {N0 : Nat} {F : Env → AHeap → (AX → Env → AHeap → Prop) → Prop} {K : AX → Env → AHeap → Prop} (he : kv e = e') (hH : H = H') : ALoop N0 F e H K = ALoop N0 F e' H' K := by rw [kv_eq] at he; rw [he, hH]
theorem thenK_c {F : Env → AHeap → Prop} {K : AX → Env → AHeap → Prop} {x : AX} (he : kv e = e') (hH : H = H') : thenK F K x e H = thenK F K x e' H' := by rw [kv_eq] at he; rw [he, hH]
theorem blockK_c {id : Nat} {K : AX → Env → AHeap → Prop} {x : AX} (he : kv e = e') (hH : H = H') : blockK id K x e H = blockK id K x e' H' := by rw [kv_eq] at he; rw [he, hH]
theorem ares_c {l : List ResultVar} {K : List AV → Prop} (he : kv e = e') (hH : H = H') : ares P H e l K = ares P H' e' l K := by rw [kv_eq] at he; rw [he, hH]
theorem AExec_c {op : Op} {K : AV → AHeap → Prop} (he : kv e = e') (hH : H = H') : AExec P H (eo e) op K = AExec P H' (eo e') op K := by rw [kv_eq] at he; rw [he, hH]
theorem APure_c {op : Op} {K : AV → Prop} (he : kv e = e') (hH : H = H') : APure P H (eo e) op K = APure P H' (eo e') op K := by rw [kv_eq] at he; rw [he, hH]
theorem AEff_c {op : Op} {K : AV → AHeap → Prop} (he : kv e = e') (hH : H = H') : AEff P H (eo e) op K = AEff P H' (eo e') op K := by rw [kv_eq] at he; rw [he, hH]
theorem ALoad_c {T : TypeId} {a : Operand} {K : AV → Prop} (he : kv e = e') (hH : H = H') : ALoad P H (eo e) T a K = ALoad P H' (eo e') T a K := by rw [kv_eq] at he; rw [he, hH]
theorem abin_c {op : BinOp} {T : TypeId} {x x' y y' : AV} {K : AV → Prop} (hx : kv x = x') (hy : y = y') : abin P op T x y K = abin P op T x' y' K := by rw [kv_eq] at hx; rw [hx, hy]
theorem abinO_c {op : BinOp} {T : TypeId} {c c' : Bool} {x x' y y' : AV} {K : AV → Prop} (hc : kv c = c') (hx : x = x') (hy : y = y') : abinO P op T c x y K = abinO P op T c' x' y' K := by rw [kv_eq] at hc; rw [hx, hy, hc]
theorem aun_c {op : UnOp} {x x' : AV} {K : AV → Prop} (hx : kv x = x') : aun op x K = aun op x' K := by rw [kv_eq] at hx; rw [hx]
theorem APart_c {T : TypeId} {l l' : List AV} {off off' : Nat} {K : AV → Prop} (hl : kv l = l') (ho : off = off') : APart P T l off K = APart P T l' off' K := by rw [kv_eq] at hl; rw [hl, ho]
theorem aslice_c {T : TypeId} {x x' : AV} {lo lo' hi hi' : Option AV} {K : AV → Prop} (hx : kv x = x') (hl : lo = lo') (hh : hi = hi') (hH : H = H') : aslice P H T x lo hi K = aslice P H' T x' lo' hi' K := by rw [kv_eq] at hx; rw [hx, hl, hh, hH]
theorem aminmax_c {mx : Bool} {l l' : List AV} {K : AV → Prop} (hl : kv l = l') : aminmax mx l K = aminmax mx l' K := by rw [kv_eq] at hl; rw [hl]
theorem AC_c {f : FuncId} {args args' : List AV} {K : AV → AHeap → Prop} (ha : kv args = args') (hH : H = H') : AC P f args H K = AC P f args' H' K := by rw [kv_eq] at ha; rw [ha, hH]
end

theorem upd_at (e : Env) (d : Nat) (v : AV) (t : Nat) : upd e d v t = if t = d then v else e t := id rfl
theorem env0_at (l : List AV) (t : Nat) : env0 l t = l.getD t (.tup []) := id rfl

/-! ### One equation for each case -/
section
variable (P : Program) (ops : Array Oper) (H : AHeap) (e : Env) (tbl : Tbl) (T : TypeId)
theorem aopsL_nil (K : Env → AHeap → Prop) : aopsL P ops [] e H K = K e H := id rfl
theorem aopsL_plain (d : Option Nat) (op : Op) (ty : TypeId) (pos : String) (after : Array Edge) (l : List Oper) (K : Env → AHeap → Prop) :
    aopsL P ops (⟨d, op, ty, pos, after, none⟩ :: l) e H K = AExec P H (eo e) op fun v H' => aopsL P ops l (putE e d v) H' K := id rfl
/-- A guard that is still open, or known. -/
def guardK (x : AV) (want : Bool) (run skip : Prop) : Prop :=
  match x with
  | .bool b => (b = want → run) ∧ (b = (!want) → skip)
  | .tup [] => skip
  | _ => False
theorem guardK_c {x x' : AV} {want : Bool} {run skip : Prop} (hx : kv x = x') : guardK x want run skip = guardK x' want run skip := by rw [kv_eq] at hx; rw [hx]
theorem guardK_yes (b : Bool) (run skip : Prop) : guardK (.bool b) b run skip = run := by cases b <;> simp [guardK]
theorem guardK_tt (run skip : Prop) : guardK (.bool true) true run skip = run := guardK_yes _ _ _
theorem guardK_ff (run skip : Prop) : guardK (.bool false) false run skip = run := guardK_yes _ _ _
theorem guardK_tf (run skip : Prop) : guardK (.bool true) false run skip = skip := by simp [guardK]
theorem guardK_ft (run skip : Prop) : guardK (.bool false) true run skip = skip := by simp [guardK]
theorem guardK_un (want : Bool) (run skip : Prop) : guardK (.tup []) want run skip = skip := rfl
theorem aopsL_guard (d : Option Nat) (op : Op) (ty : TypeId) (pos : String) (after : Array Edge) (j : Nat) (want : Bool) (l : List Oper) (K : Env → AHeap → Prop) :
    aopsL P ops (⟨d, op, ty, pos, after, some (j, want)⟩ :: l) e H K = match (ops[j]?).bind (·.dst) with
      | none => aopsL P ops l (putE e d (.tup [])) H K
      | some g => guardK (e g) want (AExec P H (eo (upd e g (.bool want))) op fun v H' => aopsL P ops l (putE (upd e g (.bool want)) d v) H' K) (match e g with | .bool _ => aopsL P ops l (putE (upd e g (.bool (!want))) d (.tup [])) H K | _ => aopsL P ops l (putE e d (.tup [])) H K) := by
  simp only [aopsL]
  cases (ops[j]?).bind (·.dst) with
  | none => rfl
  | some g =>
    simp only
    generalize e g = x
    cases x <;> try rfl
    rename_i l; cases l <;> rfl
end

attribute [congr] aopsL_c acode_c ALoop_c thenK_c blockK_c ares_c AExec_c APure_c AEff_c ALoad_c abin_c abinO_c aun_c APart_c aslice_c aminmax_c AC_c

end Go.Ab
/- The abstract machine: one equation for each case. -/
set_option linter.unusedVariables false
set_option linter.unusedSimpArgs false
namespace Go.Ab

/-! ### What waits for a value -/
def optK {α : Type} (o : Option α) (K : α → Prop) : Prop := match o with | some v => K v | none => False
def ptrK (x : AV) (K : Nat → Nat → Nat → Prop) : Prop := match x with | .ptr b i j => K b i j | _ => False
def ptrQ (x : AV) (K : Nat → Nat → Nat → Prop) (KC : List AV → Nat → Prop) : Prop := match x with | .ptr b i j => K b i j | .cptr row j => KC row j | _ => False
def ptrB (x : AV) (K : Nat → Nat → Nat → Prop) (KC : List AV → Nat → Prop) (KB : TypeId → Nat → Prop) : Prop := match x with | .ptr b i j => K b i j | .cptr row j => KC row j | .bptr e b => KB e b | _ => False
def slQ (x : AV) (K : Nat → Nat → Nat → Prop) (KC : Nat → List (List AV) → Prop) : Prop := match x with | .sl b i n => K b i n | .lst sz rows => KC sz rows | _ => False
def slK (x : AV) (K : Nat → Nat → Nat → Prop) : Prop := match x with | .sl b i n => K b i n | _ => False
def intK (x : AV) (K : Int → Prop) : Prop := match x with | .int _ n => K n | _ => False
def boolK (x : AV) (X Y : Prop) : Prop := match x with | .bool b => (b = true → X) ∧ (b = false → Y) | _ => False
def strK (x : AV) (K : List UInt8 → Prop) : Prop := match x with | .str s => K s | _ => False
def aggK (x : AV) (K : List AV → Prop) : Prop := match x with | .agg l => K l | _ => False
def tupK (x : AV) (K : List AV → Prop) : Prop := match x with | .tup l => K l | _ => False
def fnK (x : AV) (K : FuncId → List AV → Prop) : Prop := match x with | .fn g l => K g l | _ => False
/-- A fact that the walk must find. -/
def fact (p : Prop) (K : Prop) : Prop := p ∧ K
theorem fact_true (K : Prop) : fact True K = K := by simp [fact]

section
variable {α : Type}
theorem optK_some (v : α) (K : α → Prop) : optK (some v) K = K v := _root_.id rfl
theorem ptrK_ptr (b i j : Nat) (K : Nat → Nat → Nat → Prop) : ptrK (.ptr b i j) K = K b i j := _root_.id rfl
theorem ptrQ_ptr (b i j : Nat) (K : Nat → Nat → Nat → Prop) (KC : List AV → Nat → Prop) : ptrQ (.ptr b i j) K KC = K b i j := _root_.id rfl
theorem ptrQ_cptr (row : List AV) (j : Nat) (K : Nat → Nat → Nat → Prop) (KC : List AV → Nat → Prop) : ptrQ (.cptr row j) K KC = KC row j := _root_.id rfl
theorem ptrB_ptr (b i j : Nat) (K : Nat → Nat → Nat → Prop) (KC : List AV → Nat → Prop) (KB : TypeId → Nat → Prop) : ptrB (.ptr b i j) K KC KB = K b i j := _root_.id rfl
theorem ptrB_cptr (row : List AV) (j : Nat) (K : Nat → Nat → Nat → Prop) (KC : List AV → Nat → Prop) (KB : TypeId → Nat → Prop) : ptrB (.cptr row j) K KC KB = KC row j := _root_.id rfl
theorem ptrB_bptr (e : TypeId) (b : Nat) (K : Nat → Nat → Nat → Prop) (KC : List AV → Nat → Prop) (KB : TypeId → Nat → Prop) : ptrB (.bptr e b) K KC KB = KB e b := _root_.id rfl
theorem slQ_sl (b i n : Nat) (K : Nat → Nat → Nat → Prop) (KC : Nat → List (List AV) → Prop) : slQ (.sl b i n) K KC = K b i n := _root_.id rfl
theorem slQ_lst (sz : Nat) (rows : List (List AV)) (K : Nat → Nat → Nat → Prop) (KC : Nat → List (List AV) → Prop) : slQ (.lst sz rows) K KC = KC sz rows := _root_.id rfl
theorem slK_sl (b i j : Nat) (K : Nat → Nat → Nat → Prop) : slK (.sl b i j) K = K b i j := _root_.id rfl
theorem intK_int (k : IntKind) (n : Int) (K : Int → Prop) : intK (.int k n) K = K n := _root_.id rfl
theorem strK_str (s : List UInt8) (K : List UInt8 → Prop) : strK (.str s) K = K s := _root_.id rfl
theorem aggK_agg (s : List AV) (K : List AV → Prop) : aggK (.agg s) K = K s := _root_.id rfl
theorem tupK_tup (s : List AV) (K : List AV → Prop) : tupK (.tup s) K = K s := _root_.id rfl
theorem fnK_fn (g : FuncId) (s : List AV) (K : FuncId → List AV → Prop) : fnK (.fn g s) K = K g s := _root_.id rfl
theorem boolK_b (b : Bool) (X Y : Prop) : boolK (.bool b) X Y = ((b = true → X) ∧ (b = false → Y)) := _root_.id rfl
theorem boolK_t (X Y : Prop) : boolK (.bool true) X Y = X := by simp [boolK]
theorem boolK_f (X Y : Prop) : boolK (.bool false) X Y = Y := by simp [boolK]
theorem optK_c {o o' : Option α} {K : α → Prop} (h : kv o = o') : optK o K = optK o' K := by rw [kv_eq] at h; rw [h]
theorem ptrK_c {x x' : AV} {K : Nat → Nat → Nat → Prop} (h : kv x = x') : ptrK x K = ptrK x' K := by rw [kv_eq] at h; rw [h]
theorem ptrQ_c {x x' : AV} {K : Nat → Nat → Nat → Prop} {KC : List AV → Nat → Prop} (h : kv x = x') : ptrQ x K KC = ptrQ x' K KC := by rw [kv_eq] at h; rw [h]
theorem ptrB_c {x x' : AV} {K : Nat → Nat → Nat → Prop} {KC : List AV → Nat → Prop} {KB : TypeId → Nat → Prop} (h : kv x = x') : ptrB x K KC KB = ptrB x' K KC KB := by rw [kv_eq] at h; rw [h]
theorem slQ_c {x x' : AV} {K : Nat → Nat → Nat → Prop} {KC : Nat → List (List AV) → Prop} (h : kv x = x') : slQ x K KC = slQ x' K KC := by rw [kv_eq] at h; rw [h]
theorem slK_c {x x' : AV} {K : Nat → Nat → Nat → Prop} (h : kv x = x') : slK x K = slK x' K := by rw [kv_eq] at h; rw [h]
theorem intK_c {x x' : AV} {K : Int → Prop} (h : kv x = x') : intK x K = intK x' K := by rw [kv_eq] at h; rw [h]
theorem boolK_c {x x' : AV} {X Y : Prop} (h : kv x = x') : boolK x X Y = boolK x' X Y := by rw [kv_eq] at h; rw [h]
theorem strK_c {x x' : AV} {K : List UInt8 → Prop} (h : kv x = x') : strK x K = strK x' K := by rw [kv_eq] at h; rw [h]
theorem aggK_c {x x' : AV} {K : List AV → Prop} (h : kv x = x') : aggK x K = aggK x' K := by rw [kv_eq] at h; rw [h]
theorem tupK_c {x x' : AV} {K : List AV → Prop} (h : kv x = x') : tupK x K = tupK x' K := by rw [kv_eq] at h; rw [h]
theorem fnK_c {x x' : AV} {K : FuncId → List AV → Prop} (h : kv x = x') : fnK x K = fnK x' K := by rw [kv_eq] at h; rw [h]
theorem fact_c {p p' : Prop} {K : Prop} (h : kv p = p') : fact p K = fact p' K := by rw [kv_eq] at h; rw [h]
end
attribute [congr] optK_c ptrK_c ptrQ_c ptrB_c slQ_c slK_c intK_c boolK_c strK_c aggK_c tupK_c fnK_c fact_c

def gK (o : Option Nat) (X : Prop) (Y : Nat → Prop) : Prop := match o with | some g => Y g | none => X
theorem gK_some (g : Nat) (X : Prop) (Y : Nat → Prop) : gK (some g) X Y = Y g := _root_.id rfl
theorem gK_c {o o' : Option Nat} {X : Prop} {Y : Nat → Prop} (h : kv o = o') : gK o X Y = gK o' X Y := by rw [kv_eq] at h; rw [h]
def guardG (x : AV) (want : Bool) (run skip un : Prop) : Prop :=
  match x with
  | .bool b => (b = want → run) ∧ (b = (!want) → skip)
  | .tup [] => un
  | _ => False
theorem guardG_c {x x' : AV} {want : Bool} {run skip un : Prop} (hx : kv x = x') : guardG x want run skip un = guardG x' want run skip un := by rw [kv_eq] at hx; rw [hx]
theorem guardG_tt (run skip un : Prop) : guardG (.bool true) true run skip un = run := by simp [guardG]
theorem guardG_ff (run skip un : Prop) : guardG (.bool false) false run skip un = run := by simp [guardG]
theorem guardG_tf (run skip un : Prop) : guardG (.bool true) false run skip un = skip := by simp [guardG]
theorem guardG_ft (run skip un : Prop) : guardG (.bool false) true run skip un = skip := by simp [guardG]
theorem guardG_un (want : Bool) (run skip un : Prop) : guardG (.tup []) want run skip un = un := _root_.id rfl
theorem guardG_bt (b : Bool) (run skip un : Prop) : guardG (.bool b) true run skip un = ((b = true → run) ∧ (b = false → skip)) := _root_.id rfl
theorem guardG_bf (b : Bool) (run skip un : Prop) : guardG (.bool b) false run skip un = ((b = false → run) ∧ (b = true → skip)) := _root_.id rfl
theorem aopsL_g (P : Program) (lo : List Oper) (e : Env) (H : AHeap) (d : Option Nat) (op : Op) (ty : TypeId) (pos : String) (after : Array Edge) (j : Nat) (want : Bool) (l : List Oper) (K : Env → AHeap → Prop) :
    aopsL P lo.toArray (⟨d, op, ty, pos, after, some (j, want)⟩ :: l) e H K = gK ((lo[j]?).bind (·.dst)) (aopsL P lo.toArray l (putE e d (.tup [])) H K) fun g =>
      guardG (e g) want (AExec P H (eo (upd e g (.bool want))) op fun v H' => aopsL P lo.toArray l (putE (upd e g (.bool want)) d v) H' K) (aopsL P lo.toArray l (putE (upd e g (.bool (!want))) d (.tup [])) H K) (aopsL P lo.toArray l (putE e d (.tup [])) H K) := by
  simp only [aopsL, gK, List.getElem?_toArray]
  cases (lo[j]?).bind (·.dst) with
  | none => rfl
  | some g =>
    simp only
    generalize e g = x
    cases x <;> rfl

theorem aopsD_nil (P : Program) (k : Nat → Kd) (ops : Array Oper) (T : List (Nat × Nat)) (e : Env) (H : AHeap) (K : Env → AHeap → Prop) : aopsD P k ops [] T e H K = K e H := _root_.id rfl
def opK (o : Option Oper) (Y : Option Nat → Op → Option (Nat × Bool) → Prop) : Prop := match o with | some o => Y o.dst o.op o.guard | none => False
theorem opK_some (d : Option Nat) (op : Op) (ty : TypeId) (pos : String) (after : Array Edge) (g : Option (Nat × Bool)) (Y : Option Nat → Op → Option (Nat × Bool) → Prop) : opK (some ⟨d, op, ty, pos, after, g⟩) Y = Y d op g := _root_.id rfl
theorem opK_c {o o' : Option Oper} {Y : Option Nat → Op → Option (Nat × Bool) → Prop} (h : kv o = o') : opK o Y = opK o' Y := by rw [kv_eq] at h; rw [h]
/-- One operation of a region in open order. -/
def stepD (P : Program) (lo : List Oper) (T : List (Nat × Nat)) (e : Env) (H : AHeap) (d : Option Nat) (op : Op) (g : Option (Nat × Bool)) (R : List (Nat × Nat) → Env → AHeap → Prop) : Prop :=
  match g with
  | none => AExec P H (eo e) op fun v H' => rowsSame T H' H ∧ R (loads e op T) (putE e d v) H'
  | some (j, want) => gK ((lo[j]?).bind (·.dst)) (R T (putE e d (.tup [])) H) fun g =>
      guardG (e g) want (AExec P H (eo (upd e g (.bool want))) op fun v H' => rowsSame T H' H ∧ R (loads (upd e g (.bool want)) op T) (putE (upd e g (.bool want)) d v) H') (R T (putE (upd e g (.bool (!want))) d (.tup [])) H) (R T (putE e d (.tup [])) H)
theorem aopsD_cons (P : Program) (k : Nat → Kd) (lo : List Oper) (i : Nat) (l : List Nat) (T : List (Nat × Nat)) (e : Env) (H : AHeap) (K : Env → AHeap → Prop) :
    aopsD P k lo.toArray (i :: l) T e H K = opK lo[i]? fun d op g => stepD P lo T e H d op g fun T e H => aopsD P k lo.toArray l T e H K := by
  simp only [aopsD, opK, stepD, List.getElem?_toArray]
  cases lo[i]? with
  | none => rfl
  | some o =>
    obtain ⟨d, op, ty, pos, after, g⟩ := o
    simp only
    cases g with
    | none => rfl
    | some jw =>
      obtain ⟨j, want⟩ := jw
      simp only [gK]
      cases (lo[j]?).bind (·.dst) with
      | none => rfl
      | some g =>
        simp only
        generalize e g = x
        cases x <;> rfl
theorem stepD_plain (P : Program) (lo : List Oper) (T : List (Nat × Nat)) (e : Env) (H : AHeap) (d : Option Nat) (op : Op) (R : List (Nat × Nat) → Env → AHeap → Prop) :
    stepD P lo T e H d op none R = AExec P H (eo e) op fun v H' => rowsSame T H' H ∧ R (loads e op T) (putE e d v) H' := _root_.id rfl
theorem stepD_g (P : Program) (lo : List Oper) (T : List (Nat × Nat)) (e : Env) (H : AHeap) (d : Option Nat) (op : Op) (j : Nat) (want : Bool) (R : List (Nat × Nat) → Env → AHeap → Prop) :
    stepD P lo T e H d op (some (j, want)) R = gK ((lo[j]?).bind (·.dst)) (R T (putE e d (.tup [])) H) fun g =>
      guardG (e g) want (AExec P H (eo (upd e g (.bool want))) op fun v H' => rowsSame T H' H ∧ R (loads (upd e g (.bool want)) op T) (putE (upd e g (.bool want)) d v) H') (R T (putE (upd e g (.bool (!want))) d (.tup [])) H) (R T (putE e d (.tup [])) H) := _root_.id rfl
theorem stepD_c {P : Program} {lo : List Oper} {T : List (Nat × Nat)} {e e' : Env} {H H' : AHeap} {d : Option Nat} {op : Op} {g : Option (Nat × Bool)} {R : List (Nat × Nat) → Env → AHeap → Prop} (he : kv e = e') (hH : H = H') : stepD P lo T e H d op g R = stepD P lo T e' H' d op g R := by rw [kv_eq] at he; rw [he, hH]
theorem rowsSame_nil (H' H : AHeap) : rowsSame [] H' H = True := _root_.id rfl
theorem rowsSame_cons (p : Nat × Nat) (T : List (Nat × Nat)) (H' H : AHeap) : rowsSame (p :: T) H' H = (hrow H' p.1 p.2 = hrow H p.1 p.2 ∧ rowsSame T H' H) := _root_.id rfl
def ldp (x : AV) (T : List (Nat × Nat)) : List (Nat × Nat) := match x with | .ptr b i _ => (b, i) :: T | _ => T
theorem ldp_cptr (row : List AV) (j : Nat) (T : List (Nat × Nat)) : ldp (.cptr row j) T = T := _root_.id rfl
theorem ldp_ptr (b i j : Nat) (T : List (Nat × Nat)) : ldp (.ptr b i j) T = (b, i) :: T := _root_.id rfl
theorem loads_load (e : Env) (t : TypeId) (a : Operand) (T : List (Nat × Nat)) : loads e (.load t a) T = ldp (eo e a) T := by
  simp only [loads, ldp]
  all_goals (cases eo e a <;> rfl)
section
variable (e : Env) (T : List (Nat × Nat))
theorem ld_move (x : Operand) : loads e (.move x) T = T := _root_.id rfl
theorem ld_assign (x : Operand) : loads e (.assign x) T = T := _root_.id rfl
theorem ld_pick (c a b : Operand) : loads e (.pick c a b) T = T := _root_.id rfl
theorem ld_nilCheck (x : Operand) : loads e (.nilCheck x) T = T := _root_.id rfl
theorem ld_binOp (o : BinOp) (t : TypeId) (x y : Operand) (u : TypeId) : loads e (.binOp o t x y u) T = T := _root_.id rfl
theorem ld_unOp (o : UnOp) (t : TypeId) (x : Operand) : loads e (.unOp o t x) T = T := _root_.id rfl
theorem ld_convert (t u : TypeId) (x : Operand) : loads e (.convert t u x) T = T := _root_.id rfl
theorem ld_slice (t : TypeId) (x : Operand) (lo hi mx : Option Operand) : loads e (.slice t x lo hi mx) T = T := _root_.id rfl
theorem ld_fieldAddr (t : TypeId) (x : Operand) (f : Nat) : loads e (.fieldAddr t x f) T = T := _root_.id rfl
theorem ld_field (t : TypeId) (x : Operand) (f : Nat) : loads e (.field t x f) T = T := _root_.id rfl
theorem ld_indexAddr (t : TypeId) (x y : Operand) : loads e (.indexAddr t x y) T = T := _root_.id rfl
theorem ld_index (t : TypeId) (x y : Operand) : loads e (.index t x y) T = T := _root_.id rfl
theorem ld_extract (x : Operand) (n : Nat) : loads e (.extract x n) T = T := _root_.id rfl
theorem ld_build (t : TypeId) (q : Array (Nat × Operand)) : loads e (.build t q) T = T := _root_.id rfl
theorem ld_call (c : _) : loads e (.call c) T = T := _root_.id rfl
theorem ld_alloc (t : TypeId) : loads e (.alloc t) T = T := _root_.id rfl
theorem ld_box (t : TypeId) (x : Operand) : loads e (.box t x) T = T := _root_.id rfl
theorem ld_store (t : TypeId) (x y : Operand) : loads e (.store t x y) T = T := _root_.id rfl
theorem ld_buildSlice (t : TypeId) (n : Nat) (q : Array (Nat × Operand)) : loads e (.buildSlice t n q) T = T := _root_.id rfl
theorem ld_makeSlice (t : TypeId) (x y : Operand) : loads e (.makeSlice t x y) T = T := _root_.id rfl
theorem ld_makeInterface (t : TypeId) (x : Operand) : loads e (.makeInterface t x) T = T := _root_.id rfl
end

/-! ### Operations -/
section
variable (P : Program) (H : AHeap) (ev : Operand → AV) (T : TypeId) (K : AV → AHeap → Prop) (KP : AV → Prop)
theorem x_move (x : Operand) : AExec P H ev (.move x) K = K (ev x) H := _root_.id rfl
theorem x_assign (x : Operand) : AExec P H ev (.assign x) K = K (ev x) H := _root_.id rfl
theorem x_pick (c a b : Operand) : AExec P H ev (.pick c a b) K = boolK (ev c) (K (ev a) H) (K (ev b) H) := by
  simp only [AExec, cls, APure, boolK]
  rfl
theorem x_nilCheck (x : Operand) : AExec P H ev (.nilCheck x) K = ptrB (ev x) (fun b i j => K (.ptr b i j) H) (fun row j => K (.cptr row j) H) fun e b => K (.bptr e b) H := _root_.id rfl
theorem x_bin (op : BinOp) (x y : Operand) (s : TypeId) : AExec P H ev (.binOp op T x y s) K = abinO P op T (cst x || cst y) (ev x) (ev y) fun v => K v H := _root_.id rfl
theorem x_un (op : UnOp) (t : TypeId) (x : Operand) : AExec P H ev (.unOp op t x) K = aun op (ev x) fun v => K v H := _root_.id rfl
theorem x_load (a : Operand) : AExec P H ev (.load T a) K = ptrQ (ev a) (fun b i j => optK (hrow H b i) fun row => APart P T row j fun v => K v H) fun row j => APart P T row j fun v => K v H := by
  simp only [AExec, cls, ALoad, ptrQ]
  cases hx : ev a <;> try rfl
  simp only [optK]
  rename_i b i j
  cases hrow H b i <;> rfl
theorem x_fieldAddr (x : Operand) (f : Nat) : AExec P H ev (.fieldAddr T x f) K = ptrB (ev x) (fun b i j => optK (fieldT P T f) fun q => optK (szO P q.1) fun n => n ≠ 0 ∧ K (.ptr b i (j + q.2)) H) (fun row j => optK (fieldT P T f) fun q => optK (szO P q.1) fun n => n ≠ 0 ∧ K (.cptr row (j + q.2)) H) fun _ b => optK (fieldT P T f) fun q => optK (szO P q.1) fun n => n ≠ 0 ∧ K (.ptr b 0 q.2) H := by
  simp only [AExec, cls, APure, ptrB]
  cases hx : ev x <;> try rfl
  all_goals
    simp only [optK]
    cases hf : fieldT P T f <;> simp
    rename_i q; cases hs : szO P q.1 <;> simp
theorem x_field (x : Operand) (f : Nat) : AExec P H ev (.field T x f) K = aggK (ev x) fun l => optK (fieldT P T f) fun q => APart P q.1 l q.2 fun v => K v H := by
  simp only [AExec, cls, APure, aggK]
  cases hx : ev x <;> try rfl
  simp only [optK]
  cases hf : fieldT P T f <;> simp
theorem x_alloc : AExec P H ev (.alloc T) K = optK (zeroO P T) fun z => onesA z.cells ∧ K (ptrOf T z H.length) (H ++ [some ⟨true, z.cells.length, [z.cells]⟩]) := by
  simp only [AExec, cls, AEff, optK]
  cases zeroO P T <;> rfl
theorem x_box (x : Operand) : AExec P H ev (.box T x) K = (onesA (ev x).cells ∧ K (.ptr H.length 0 0) (H ++ [some ⟨true, (ev x).cells.length, [(ev x).cells]⟩])) := _root_.id rfl
theorem x_store (a x : Operand) : AExec P H ev (.store T a x) K = ptrK (ev a) fun b i j => optK (hget H b) fun A => A.own = true ∧ optK A.rows[i]? fun row => onesA (ev x).cells ∧ szO P T = some (ev x).cells.length ∧ j + (ev x).cells.length ≤ row.length ∧ K (.tup []) (H.set b (some ⟨true, A.sz, A.rows.set i (splice row j (ev x).cells)⟩)) := by
  simp only [AExec, cls, AEff, ptrK]
  cases hx : ev a <;> try rfl
  simp only [optK]
  rename_i b i j
  cases hget H b <;> try rfl
  rename_i A
  simp only
  cases A.rows[i]? <;> rfl
theorem x_conv (s : TypeId) (x : Operand) (h : pureConv P s T = true) : AExec P H ev (.convert s T x) K = APure P H ev (.convert s T x) fun v => K v H := by
  simp only [AExec, cls, h, if_true]
theorem x_convS (s : TypeId) (x : Operand) (h : pureConv P s T = false) : AExec P H ev (.convert s T x) K = AEff P H ev (.convert s T x) K := by
  simp only [AExec, cls, h, Bool.false_eq_true, if_false]
theorem x_call (f : Operand) (args : Array Operand) (tys : Array TypeId) : AExec P H ev (.call { callee := .value f, args := args, argTypes := tys }) K = fnK (ev f) fun g cap => AC P g (args.toList.map ev ++ cap) H K := by
  simp only [AExec, cls, AEff, fnK]
  cases ev f <;> rfl
theorem x_len (x : Operand) (args : Array Operand) (tys : Array TypeId) : AExec P H ev (.call { callee := .builtin .len, args := args, argTypes := tys }) K = APure P H ev (.call { callee := .builtin .len, args := args, argTypes := tys }) fun v => K v H := _root_.id rfl
theorem x_min (args : Array Operand) (tys : Array TypeId) : AExec P H ev (.call { callee := .builtin .min, args := args, argTypes := tys }) K = aminmax false (args.toList.map ev) fun v => K v H := _root_.id rfl
theorem x_max (args : Array Operand) (tys : Array TypeId) : AExec P H ev (.call { callee := .builtin .max, args := args, argTypes := tys }) K = aminmax true (args.toList.map ev) fun v => K v H := _root_.id rfl
theorem x_extract (x : Operand) (i : Nat) : AExec P H ev (.extract x i) K = tupK (ev x) fun l => optK l[i]? fun v => K v H := by
  simp only [AExec, cls, APure, tupK]
  cases hx : ev x <;> try rfl
  rename_i l
  simp only [optK]
  cases l[i]? <;> rfl
theorem x_indexAddr (x ix : Operand) : AExec P H ev (.indexAddr T x ix) K = slQ (ev x) (fun b i n => intK (ev ix) fun z => optK (elemT P T) fun e => (0 ≤ z ∧ z < n) ∧ fact (szIs P H b e) (K (.ptr b (i + z.toNat) 0) H))
    fun sz rows => intK (ev ix) fun z => optK (elemT P T) fun e => (0 ≤ z ∧ z < rows.length) ∧ fact (szO P e = some sz) (K (.cptr (rows.getD z.toNat []) 0) H) := by
  simp only [AExec, cls, APure, slQ, fact]
  cases hx : ev x <;> try rfl
  all_goals
    cases hy : ev ix <;> try rfl
    simp only [intK, optK]
    cases he : elemT P T <;> rfl
theorem x_index (x ix : Operand) : AExec P H ev (.index T x ix) K = strK (ev x) fun s => intK (ev ix) fun z => fact (isStrT P T = true) ((0 ≤ z ∧ z < s.length) ∧ K (.int .u8 (s.getD z.toNat 0).toNat) H) := by
  simp only [AExec, cls, APure, strK, fact]
  cases hx : ev x <;> try rfl
  cases hy : ev ix <;> try rfl
theorem x_slice (x : Operand) (lo hi : Option Operand) : AExec P H ev (.slice T x lo hi none) K = aslice P H T (ev x) (lo.map ev) (hi.map ev) fun v => K v H := _root_.id rfl
theorem sl_b (b i n : Nat) (k k' : IntKind) (l h : Int) (KP : AV → Prop) : aslice P H T (.sl b i n) (some (.int k l)) (some (.int k' h)) KP = optK (elemT P T) fun e => (0 ≤ l ∧ l ≤ h ∧ h ≤ n) ∧ fact (szIs P H b e) (KP (.sl b (i + l.toNat) (h.toNat - l.toNat))) := by
  simp only [aslice, optK, fact]; cases elemT P T <;> rfl
theorem sl_h (b i n : Nat) (k' : IntKind) (h : Int) (KP : AV → Prop) : aslice P H T (.sl b i n) none (some (.int k' h)) KP = optK (elemT P T) fun e => (0 ≤ h ∧ h ≤ n) ∧ fact (szIs P H b e) (KP (.sl b i h.toNat)) := by
  simp only [aslice, optK, fact]; cases elemT P T <;> rfl
theorem sl_l (b i n : Nat) (k : IntKind) (l : Int) (KP : AV → Prop) : aslice P H T (.sl b i n) (some (.int k l)) none KP = optK (elemT P T) fun e => (0 ≤ l ∧ l ≤ n) ∧ fact (szIs P H b e) (KP (.sl b (i + l.toNat) (n - l.toNat))) := by
  simp only [aslice, optK, fact]; cases elemT P T <;> rfl
theorem ls_b (sz : Nat) (rows : List (List AV)) (k k' : IntKind) (l h : Int) (KP : AV → Prop) : aslice P H T (.lst sz rows) (some (.int k l)) (some (.int k' h)) KP = optK (elemT P T) fun e => fact (szO P e = some sz) ((0 ≤ l ∧ l ≤ h ∧ h ≤ rows.length) ∧ KP (.lst sz ((rows.take h.toNat).drop l.toNat))) := by
  simp only [aslice, optK, fact]; cases elemT P T <;> rfl
theorem ls_h (sz : Nat) (rows : List (List AV)) (k' : IntKind) (h : Int) (KP : AV → Prop) : aslice P H T (.lst sz rows) none (some (.int k' h)) KP = optK (elemT P T) fun e => fact (szO P e = some sz) ((0 ≤ h ∧ h ≤ rows.length) ∧ KP (.lst sz (rows.take h.toNat))) := by
  simp only [aslice, optK, fact]; cases elemT P T <;> rfl
theorem ls_l (sz : Nat) (rows : List (List AV)) (k : IntKind) (l : Int) (KP : AV → Prop) : aslice P H T (.lst sz rows) (some (.int k l)) none KP = optK (elemT P T) fun e => fact (szO P e = some sz) ((0 ≤ l ∧ l ≤ rows.length) ∧ KP (.lst sz (rows.drop l.toNat))) := by
  simp only [aslice, optK, fact]; cases elemT P T <;> rfl
theorem ss_b (s : List UInt8) (k k' : IntKind) (l h : Int) (KP : AV → Prop) : aslice P H T (.str s) (some (.int k l)) (some (.int k' h)) KP = fact (isStrT P T = true) ((0 ≤ l ∧ l ≤ h ∧ h ≤ s.length) ∧ KP (.str ((s.take h.toNat).drop l.toNat))) := _root_.id rfl
theorem ss_h (s : List UInt8) (k' : IntKind) (h : Int) (KP : AV → Prop) : aslice P H T (.str s) none (some (.int k' h)) KP = fact (isStrT P T = true) ((0 ≤ h ∧ h ≤ s.length) ∧ KP (.str (s.take h.toNat))) := _root_.id rfl
theorem ss_l (s : List UInt8) (k : IntKind) (l : Int) (KP : AV → Prop) : aslice P H T (.str s) (some (.int k l)) none KP = fact (isStrT P T = true) ((0 ≤ l ∧ l ≤ s.length) ∧ KP (.str (s.drop l.toNat))) := _root_.id rfl
theorem x_makeFunc (f : FuncId) (caps : Array Operand) : AExec P H ev (.makeFunc (.func f) #[] caps) K = K (.fn f (caps.toList.map ev)) H := by
  simp only [AExec, cls, APure]; simp
theorem x_build (parts : Array (Nat × Operand)) : AExec P H ev (.build T parts) K = APure P H ev (.build T parts) fun v => K v H := _root_.id rfl
theorem x_buildSlice (n : Nat) (parts : Array (Nat × Operand)) : AExec P H ev (.buildSlice T n parts) K = AEff P H ev (.buildSlice T n parts) K := _root_.id rfl
theorem x_makeSlice (n c : Operand) : AExec P H ev (.makeSlice T n c) K = AEff P H ev (.makeSlice T n c) K := _root_.id rfl
theorem x_append (args : Array Operand) (tys : Array TypeId) : AExec P H ev (.call { callee := .builtin .append, args := args, argTypes := tys }) K = AEff P H ev (.call { callee := .builtin .append, args := args, argTypes := tys }) K := _root_.id rfl
end

/-! ### Arithmetic -/
section
variable (P : Program) (T : TypeId) (k : IntKind) (a b : Int) (s t : List UInt8) (p q : Bool) (K : AV → Prop)
theorem bin_add : abin P .add T (.int k a) (.int k b) K = K (.int k (k.wrap (a + b))) := by simp [abin]
theorem bin_sub : abin P .sub T (.int k a) (.int k b) K = K (.int k (k.wrap (a - b))) := by simp [abin]
theorem bin_mul : abin P .mul T (.int k a) (.int k b) K = K (.int k (k.wrap (a * b))) := by simp [abin]
theorem bin_quo : abin P .quo T (.int k a) (.int k b) K = (b ≠ 0 ∧ K (.int k (k.wrap (a.tdiv b)))) := by simp [abin]
theorem bin_rem : abin P .rem T (.int k a) (.int k b) K = (b ≠ 0 ∧ K (.int k (a.tmod b))) := by simp [abin]
theorem bin_eql : abin P .eql T (.int k a) (.int k b) K = K (.bool (decide (a = b))) := by simp only [abin, true_and]; exact congrArg (fun z => K (.bool z)) (by rw [Bool.eq_iff_iff]; simp)
theorem bin_neq : abin P .neq T (.int k a) (.int k b) K = K (.bool (!decide (a = b))) := by simp only [abin, true_and]; exact congrArg (fun z => K (.bool z)) (by rw [Bool.eq_iff_iff]; simp)
theorem bin_lss : abin P .lss T (.int k a) (.int k b) K = K (.bool (decide (a < b))) := by simp [abin]
theorem bin_leq : abin P .leq T (.int k a) (.int k b) K = K (.bool (decide (a ≤ b))) := by simp [abin]
theorem bin_gtr : abin P .gtr T (.int k a) (.int k b) K = K (.bool (decide (b < a))) := by simp [abin]
theorem bin_geq : abin P .geq T (.int k a) (.int k b) K = K (.bool (decide (b ≤ a))) := by simp [abin]
theorem bin_sadd : abin P .add T (.str s) (.str t) K = (s.length + t.length ≤ 9223372036854775807 ∧ K (.str (s ++ t))) := _root_.id rfl
theorem bin_seql : abin P .eql T (.str s) (.str t) K = K (.bool (decide (s = t))) := by simp only [abin]; exact congrArg (fun z => K (.bool z)) (by rw [Bool.eq_iff_iff]; simp)
theorem bin_sneq : abin P .neq T (.str s) (.str t) K = K (.bool (!decide (s = t))) := by simp only [abin]; exact congrArg (fun z => K (.bool z)) (by rw [Bool.eq_iff_iff]; simp)
theorem bin_slss : abin P .lss T (.str s) (.str t) K = K (.bool (Op.bytesLess s t)) := _root_.id rfl
theorem bin_beql : abin P .eql T (.bool p) (.bool q) K = fact (P.underlying T = some .bool) (K (.bool (p == q))) := _root_.id rfl
theorem bin_bneq : abin P .neq T (.bool p) (.bool q) K = fact (P.underlying T = some .bool) (K (.bool (!(p == q)))) := _root_.id rfl
theorem bin_aeql (l l' : List AV) : abin P .eql T (.agg l) (.agg l') K = fact (EqT P T) (fact (szO P T = some l.length) (optK (aeqL l l') fun b => K (.bool b))) := by
  simp only [abin, fact, optK]
  cases aeqL l l' <;> rfl
theorem bin_aneq (l l' : List AV) : abin P .neq T (.agg l) (.agg l') K = fact (EqT P T) (fact (szO P T = some l.length) (optK (aeqL l l') fun b => K (.bool (!b)))) := by
  simp only [abin, fact, optK]
  cases aeqL l l' <;> rfl
theorem binO_i (op : BinOp) (c : Bool) (y : AV) : abinO P op T c (.int k a) y K = abin P op T (.int k a) y K := by cases c <;> rfl
theorem binO_s (op : BinOp) (c : Bool) (y : AV) : abinO P op T c (.str s) y K = abin P op T (.str s) y K := by cases c <;> rfl
theorem binO_b (op : BinOp) (c : Bool) (y : AV) : abinO P op T c (.bool p) y K = abin P op T (.bool p) y K := by cases c <;> rfl
theorem binO_a (op : BinOp) (c : Bool) (l : List AV) (y : AV) : abinO P op T c (.agg l) y K = abin P op T (.agg l) y K := by cases c <;> rfl
theorem binO_p (op : BinOp) (c : Bool) (b i j : Nat) (y : AV) : abinO P op T c (.ptr b i j) y K = abin P op T (.ptr b i j) y K := by cases c <;> rfl
theorem binO_np (op : BinOp) (c : Bool) (y : AV) : abinO P op T c .nilp y K = abin P op T .nilp y K := by cases c <;> rfl
theorem binO_f (op : BinOp) (c : Bool) (t : TypeId) (v y : AV) : abinO P op T c (.ifc t v) y K = abin P op T (.ifc t v) y K := by cases c <;> rfl
def isIf (P : Program) (T : TypeId) : Bool := match P.underlying T with | some (.interface _) => true | _ => false
theorem isIf_iff (Q : Prop) : ((match P.underlying T with | some (.interface _) => True | _ => False) ∧ Q) = fact (isIf P T = true) Q := by
  unfold isIf fact
  cases P.underlying T with
  | none => simp
  | some d => cases d <;> simp
theorem binO_nnE : abinO P .eql T true .nili .nili K = fact (isIf P T = true) (K (.bool true)) := by rw [← isIf_iff]; rfl
theorem binO_nnN : abinO P .neq T true .nili .nili K = fact (isIf P T = true) (K (.bool false)) := by rw [← isIf_iff]; rfl
theorem bin_fnE (t : TypeId) (v : AV) : abin P .eql T (.ifc t v) .nili K = fact (isIf P T = true) (K (.bool false)) := by rw [← isIf_iff]; rfl
theorem bin_fnN (t : TypeId) (v : AV) : abin P .neq T (.ifc t v) .nili K = fact (isIf P T = true) (K (.bool true)) := by rw [← isIf_iff]; rfl
theorem un_neg : aun .neg (.int k a) K = K (.int k (k.wrap (0 - a))) := _root_.id rfl
theorem un_not : aun .not (.bool p) K = K (.bool (!p)) := _root_.id rfl
theorem minmax2 (mx : Bool) : aminmax mx [.int k a, .int k b] K = K (.int k (if mx then max a b else min a b)) := by
  have h : (if mx then (if b > a then b else a) else (if b < a then b else a)) = (if mx then max a b else min a b) := by
    cases mx
    · simp only [Bool.false_eq_true, if_false]; split <;> omega
    · simp only [if_true]; split <;> omega
  simp only [aminmax]
  exact congrArg (fun z => K (.int k z)) h
theorem mn2 : aminmax false [.int k a, .int k b] K = K (.int k (min a b)) := by rw [minmax2]; rfl
theorem mx2 : aminmax true [.int k a, .int k b] K = K (.int k (max a b)) := by rw [minmax2]; rfl
end

/-! ### Parts and memory -/
theorem APart_eq (P : Program) (T : TypeId) (l : List AV) (off : Nat) (K : AV → Prop) : APart P T l off K = optK (isAggT P T) fun g => if g then optK (szO P T) fun n => off + n ≤ l.length ∧ K (.agg ((l.drop off).take n)) else optK l[off]? K := by
  unfold APart
  cases h : isAggT P T with
  | none => cases szO P T <;> simp [optK]
  | some g => cases g <;> cases szO P T <;> simp [optK] <;> cases l[off]? <;> simp
theorem hrow_eq (H : AHeap) (b i : Nat) : hrow H b i = (hget H b).bind fun A => A.rows[i]? := _root_.id rfl
section
variable (H l l' : AHeap) (x : Option Blk) (k : Nat)
theorem hget_new0 : hget (H ++ l) H.length = hget l 0 := by have := hget_append_right (H := H) (K := l) 0; simpa using this
theorem hget_newk : hget (H ++ l) (H.length + k) = hget l k := hget_append_right k
theorem hget_cons0 : hget (x :: l) 0 = x := by simp [hget]
theorem hget_conss : hget (x :: l) (k + 1) = hget l k := by simp [hget]
theorem set_new0 : (H ++ l).set H.length x = H ++ l.set 0 x := by simp [List.set_append]
theorem set_newk : (H ++ l).set (H.length + k) x = H ++ l.set k x := by simp [List.set_append]
theorem len_app : (H ++ l).length = H.length + l.length := List.length_append
theorem cons_set0 {α : Type} (a b : α) (l : List α) : (a :: l).set 0 b = b :: l := _root_.id rfl
theorem cons_sets {α : Type} (a b : α) (l : List α) (k : Nat) : (a :: l).set (k + 1) b = a :: l.set k b := _root_.id rfl
end
theorem hget_old {H : AHeap} {b : Nat} {A : Blk} (h : hget H b = some A) (l : AHeap) : hget (H ++ l) b = some A := by rw [hget_append_left (hget_lt h)]; exact h
theorem onesA_nil : onesA [] = True := by simp [onesA]
theorem onesA_cons (v : AV) (l : List AV) : onesA (v :: l) = (v.one = true ∧ onesA l) := by simp [onesA]
theorem cells_agg (l : List AV) : (AV.agg l).cells = l := _root_.id rfl
theorem cells_int (k : IntKind) (n : Int) : (AV.int k n).cells = [.int k n] := _root_.id rfl
theorem cells_bool (b : Bool) : (AV.bool b).cells = [.bool b] := _root_.id rfl
theorem cells_str (s : List UInt8) : (AV.str s).cells = [.str s] := _root_.id rfl
theorem cells_sl (b i n : Nat) : (AV.sl b i n).cells = [.sl b i n] := _root_.id rfl
theorem cells_nil : AV.nil.cells = [.nil] := _root_.id rfl
theorem cells_fn (f : FuncId) (l : List AV) : (AV.fn f l).cells = [.fn f l] := _root_.id rfl
theorem cells_ptr (b i n : Nat) : (AV.ptr b i n).cells = [.ptr b i n] := _root_.id rfl
theorem cells_nilp : AV.nilp.cells = [.nilp] := _root_.id rfl
theorem one_int (k : IntKind) (n : Int) : (AV.int k n).one = true := _root_.id rfl
theorem one_bool (b : Bool) : (AV.bool b).one = true := _root_.id rfl
theorem one_str (s : List UInt8) : (AV.str s).one = true := _root_.id rfl
theorem one_sl (b i n : Nat) : (AV.sl b i n).one = true := _root_.id rfl
theorem one_nil : AV.nil.one = true := _root_.id rfl
theorem one_fn (f : FuncId) (l : List AV) : (AV.fn f l).one = true := _root_.id rfl
theorem one_ptr (b i n : Nat) : (AV.ptr b i n).one = true := _root_.id rfl
theorem cells_lst (sz : Nat) (rows : List (List AV)) : (AV.lst sz rows).cells = [.lst sz rows] := _root_.id rfl
theorem one_lst (sz : Nat) (rows : List (List AV)) : (AV.lst sz rows).one = true := _root_.id rfl
theorem cells_bf (e : TypeId) (b n : Nat) : (AV.bf e b n).cells = [.bf e b n] := _root_.id rfl
theorem one_bf (e : TypeId) (b n : Nat) : (AV.bf e b n).one = true := _root_.id rfl
theorem cells_bptr (e : TypeId) (b : Nat) : (AV.bptr e b).cells = [.bptr e b] := _root_.id rfl
theorem one_bptr (e : TypeId) (b : Nat) : (AV.bptr e b).one = true := _root_.id rfl
theorem cells_nili : AV.nili.cells = [.nili] := _root_.id rfl
theorem one_nili : AV.nili.one = true := _root_.id rfl
theorem cells_ifc (t : TypeId) (v : AV) : (AV.ifc t v).cells = [.ifc t v] := _root_.id rfl
theorem one_ifc (t : TypeId) (v : AV) : (AV.ifc t v).one = true := _root_.id rfl
theorem one_nilp : AV.nilp.one = true := _root_.id rfl
theorem splice0 (l vs : List AV) : splice l 0 vs = vs ++ l.drop vs.length := by simp [splice]
theorem splices (x : AV) (l vs : List AV) (j : Nat) : splice (x :: l) (j + 1) vs = x :: splice l j vs := by
  simp [splice, Nat.add_right_comm]

/-! ### Code -/
def rangeFrom : Nat → Nat → List Nat
  | _, 0 => []
  | i, n + 1 => i :: rangeFrom (i + 1) n
theorem rangeFrom_eq : ∀ (i n : Nat), rangeFrom i n = List.range' i n
  | _, 0 => rfl
  | i, n + 1 => by rw [rangeFrom, rangeFrom_eq (i + 1) n, List.range'_succ]
theorem rangeFrom_nil (i : Nat) : rangeFrom i 0 = [] := _root_.id rfl
theorem rangeFrom_cons (i n : Nat) : rangeFrom i (n + 1) = i :: rangeFrom (i + 1) n := _root_.id rfl
section
variable (P : Program) (tbl : Tbl) (N0 : Nat) (e : Env) (H : AHeap) (K : AX → Env → AHeap → Prop)
theorem c_skip : acode P tbl N0 .skip e H K = K .normal e H := _root_.id rfl
theorem c_region (id : Nat) (l : List Oper) : acode P tbl N0 (.region id l.toArray false) e H K = aopsL P l.toArray l e H (K .normal) := by
  simp only [acode]; exact aops_text
theorem c_draw (id : Nat) (l : List Oper) : acode P tbl N0 (.region id l.toArray true) e H K = aopsD P (kd P (lzOf tbl id) l.toArray) l.toArray (ordOf tbl id l.toArray) [] e H (K .normal) := _root_.id rfl
theorem ord0 (id : Nat) (l : List Oper) : ordOf tbl0 id l.toArray = List.range l.length := by simp [ordOf, tbl0]
theorem range_lit (n : Nat) : List.range n = rangeFrom 0 n := by simp [rangeFrom_eq, List.range_eq_range']
theorem aopsD_c2 {k : Nat → Kd} {ops : Array Oper} {l l' : List Nat} {T T' : List (Nat × Nat)} {e' : Env} {H' : AHeap} {KE : Env → AHeap → Prop} (hl : kv l = l') (hT : T = T') (he : e = e') (hH : H = H') : aopsD P k ops l T e H KE = aopsD P k ops l' T' e' H' KE := by rw [kv_eq] at hl; rw [hl, hT, he, hH]
theorem c_seq (a b : Code) : acode P tbl N0 (.seq a b) e H K = acode P tbl N0 a e H (thenK (fun e H => acode P tbl N0 b e H K) K) := _root_.id rfl
theorem c_cond (c : Operand) (t f : Code) : acode P tbl N0 (.cond c t f) e H K = boolK (eo e c) (acode P tbl N0 t e H K) (acode P tbl N0 f e H K) := _root_.id rfl
theorem c_block (id : Nat) (b : Code) : acode P tbl N0 (.block id b) e H K = acode P tbl N0 b e H (blockK id K) := _root_.id rfl
theorem c_loop (b : Code) : acode P tbl N0 (.loop b) e H K = ALoop N0 (acode P tbl N0 b) e H K := _root_.id rfl
theorem c_exit (id : Nat) : acode P tbl N0 (.exit id) e H K = K (.exit id) e H := _root_.id rfl
theorem c_ret : acode P tbl N0 .ret e H K = K .ret e H := _root_.id rfl
theorem then_n (F : Env → AHeap → Prop) : thenK F K .normal e H = F e H := _root_.id rfl
theorem then_e (F : Env → AHeap → Prop) (id : Nat) : thenK F K (.exit id) e H = K (.exit id) e H := _root_.id rfl
theorem then_r (F : Env → AHeap → Prop) : thenK F K .ret e H = K .ret e H := _root_.id rfl
theorem block_n (id : Nat) : blockK id K .normal e H = K .normal e H := _root_.id rfl
theorem block_e (id : Nat) (i : Nat) : blockK id K (.exit i) e H = if i = id then K .normal e H else K (.exit i) e H := _root_.id rfl
theorem block_r (id : Nat) : blockK id K .ret e H = K .ret e H := _root_.id rfl
theorem loop_e (I : Nat → Env → AHeap → Prop) (N0 n : Nat) (id : Nat) : loopK I N0 n K (.exit id) e H = K (.exit id) e H := _root_.id rfl
theorem loop_r (I : Nat → Env → AHeap → Prop) (N0 n : Nat) : loopK I N0 n K .ret e H = K .ret e H := _root_.id rfl
theorem eo_tmp (t : Nat) : eo e (.tmp t) = e t := _root_.id rfl
theorem eo_fn (f : FuncId) : eo e (.func f) = .fn f [] := _root_.id rfl
theorem eo_const (v : Value) : eo e (.const v) = ofV v := _root_.id rfl
theorem put_some (d : Nat) (v : AV) : putE e (some d) v = upd e d v := _root_.id rfl
theorem put_none (v : AV) : putE e none v = e := _root_.id rfl
theorem upd_same (d : Nat) (v : AV) : upd e d v d = v := by simp [upd]
theorem res_nil (KL : List AV → Prop) : ares P H e [] KL = KL [] := _root_.id rfl
theorem res_tmp (t : Nat) (r : List ResultVar) (KL : List AV → Prop) : ares P H e (.tmp t :: r) KL = ares P H e r fun vs => KL (e t :: vs) := _root_.id rfl
theorem res_cell (t T : Nat) (r : List ResultVar) (KL : List AV → Prop) : ares P H e (.cell t T :: r) KL = ptrK (e t) fun b i j => optK (hrow H b i) fun row => APart P T row j fun v => ares P H e r fun vs => KL (v :: vs) := by
  simp only [ares, ptrK]
  cases e t <;> try rfl
  simp only [optK]
  rename_i b i j
  cases hrow H b i <;> rfl
theorem ret_n (rl : List ResultVar) (Q : AV → AHeap → Prop) : retK P rl Q .normal e H = ares P H e rl fun vs => Q (resV vs) H := _root_.id rfl
theorem ret_r (rl : List ResultVar) (Q : AV → AHeap → Prop) : retK P rl Q .ret e H = ares P H e rl fun vs => Q (resV vs) H := _root_.id rfl
theorem retK_c (rl : List ResultVar) (Q : AV → AHeap → Prop) {x : AX} {e' : Env} {H' : AHeap} (he : kv e = e') (hH : H = H') : retK P rl Q x e H = retK P rl Q x e' H' := by rw [kv_eq] at he; rw [he, hH]
theorem res1 (v : AV) : resV [v] = v := _root_.id rfl
theorem res2 (v u : AV) (l : List AV) : resV (v :: u :: l) = .tup (v :: u :: l) := _root_.id rfl
theorem loopK_c {I : Nat → Env → AHeap → Prop} {N0 n : Nat} {x : AX} {e' : Env} {H' : AHeap} (he : kv e = e') (hH : H = H') : loopK I N0 n K x e H = loopK I N0 n K x e' H' := by rw [kv_eq] at he; rw [he, hH]
end
attribute [congr] opK_c stepD_c aopsD_c2 retK_c loopK_c gK_c guardG_c

attribute [go_sem_proc] reduceCtorEq reduceIte Nat.reduceEqDiff Nat.reduceAdd Nat.reduceLeDiff Nat.reduceMul Nat.reduceSub Nat.reduceLT Int.reduceToNat
attribute [go_sem high] boolK_t boolK_f guardG_tt guardG_ff guardG_tf guardG_ft
attribute [go_sem] aopsD_nil opK_some aopsD_cons stepD_plain stepD_g rowsSame_refl rowsSame_nil rowsSame_cons ldp_ptr ldp_cptr loads_load ld_move ld_assign ld_pick ld_nilCheck ld_binOp ld_unOp ld_convert ld_slice ld_fieldAddr ld_field ld_indexAddr ld_index ld_extract ld_build ld_call ld_alloc ld_box ld_store ld_buildSlice ld_makeSlice ld_makeInterface c_draw ordOf tbl0 List.size_toArray range_lit rangeFrom_nil rangeFrom_cons
attribute [go_sem] kv_eq optK_some ptrK_ptr ptrQ_ptr ptrQ_cptr ptrB_ptr ptrB_cptr ptrB_bptr ptrOf slQ_sl slQ_lst slK_sl intK_int strK_str aggK_agg tupK_tup fnK_fn boolK_b fact_true gK_some guardG_un guardG_bt guardG_bf
  x_move x_assign x_pick x_nilCheck x_bin x_un x_load x_fieldAddr x_field x_alloc x_box x_store x_call x_min x_max x_extract x_indexAddr x_index x_slice x_makeFunc sl_b sl_h sl_l ls_b ls_h ls_l ss_b ss_h ss_l Option.map_none
  bin_add bin_sub bin_mul bin_quo bin_rem bin_eql bin_neq bin_lss bin_leq bin_gtr bin_geq bin_sadd bin_seql bin_sneq bin_slss bin_beql bin_bneq bin_aeql bin_aneq binO_i binO_s binO_b binO_a binO_p binO_np binO_f binO_nnE binO_nnN bin_fnE bin_fnN cst Bool.or_true Bool.true_or Bool.or_false Bool.false_or un_neg un_not mn2 mx2
  APart_eq hrow_eq hget_new0 hget_newk hget_cons0 hget_conss set_new0 set_newk len_app cons_set0 cons_sets onesA_nil onesA_cons
  cells_agg cells_int cells_bool cells_str cells_sl cells_nil cells_fn cells_ptr cells_nilp one_int one_bool one_str one_sl one_nil one_fn one_ptr one_nilp cells_lst one_lst cells_bf one_bf cells_bptr one_bptr cells_nili one_nili cells_ifc one_ifc splice0 splices
  c_skip c_region c_draw c_seq c_cond c_block c_loop c_exit c_ret then_n then_e then_r block_n block_e block_r loop_e loop_r eo_tmp eo_fn eo_const put_some put_none upd_at env0_at ret_n ret_r res_nil res_tmp res_cell res1 res2
  aopsL_nil aopsL_plain aopsL_g ofV ofC List.toList_toArray decide_eq_true_eq decide_eq_false_iff_not Bool.not_eq_true' Bool.not_eq_false' Bool.not_true Bool.not_false Bool.false_eq_true Bool.true_eq_false ne_eq
  List.getD_cons_succ List.getD_cons_zero List.getElem?_toArray List.getElem?_cons_succ List.getElem?_cons_zero Option.bind_some List.map_cons List.map_nil List.append_nil List.cons_append List.nil_append List.append_assoc
  List.length_cons List.length_nil List.drop_succ_cons List.drop_zero List.drop_nil List.take_succ_cons List.take_zero List.take_nil true_and and_true true_implies forall_const not_false_eq_true

theorem AC.call {P : Program} {f : FuncId} {args : List AV} {H H1 : AHeap} {r : AV} {K : AV → AHeap → Prop} (h : AC P f args H fun v H' => v = r ∧ H' = H1) (k : K r H1) : AC P f args H K :=
  h.mono fun _ _ ⟨h1, h2⟩ => by rw [h1, h2]; exact k

end Go.Ab
/- The abstract machine: loops. -/
set_option linter.unusedVariables false
set_option linter.unusedSimpArgs false
namespace Go.Ab

def envU (l : List AV) : Env := fun t => l.getD t .un
theorem envU_at (l : List AV) (t : Nat) : envU l t = l.getD t .un := _root_.id rfl

def rvL (f : Nat → Nat) (N : Nat) (e : Env) : Nat → List AV → Prop
  | _, [] => True
  | k, v :: l => RV f N v (e k) ∧ rvL f N e (k + 1) l
theorem rvL_at {f : Nat → Nat} {N : Nat} {e : Env} : ∀ {l : List AV} {k : Nat}, rvL f N e k l → ∀ t, RV f N (l.getD t .un) (e (k + t))
  | [], k, _, t => by simpa using RV.un _
  | v :: l, k, h, 0 => by simpa using h.1
  | v :: l, k, h, t + 1 => by
    have := rvL_at h.2 t
    simp only [List.getD_cons_succ]
    rw [Nat.add_assoc, Nat.add_comm 1 t] at this
    exact this
theorem rvL_nil (f : Nat → Nat) (N : Nat) (e : Env) (k : Nat) : rvL f N e k [] = True := _root_.id rfl
theorem rvL_cons (f : Nat → Nat) (N : Nat) (e : Env) (k : Nat) (v : AV) (l : List AV) : rvL f N e k (v :: l) = (RV f N v (e k) ∧ rvL f N e (k + 1) l) := _root_.id rfl
section
variable (f : Nat → Nat) (N : Nat)
theorem RV_un (v : AV) : RV f N .un v = True := eq_true (.un v)
theorem RV_int (k : IntKind) (n m : Int) : RV f N (.int k n) (.int k m) = (n = m) := by
  apply propext; constructor
  · intro h; cases h; rfl
  · intro h; subst h; exact .int k n
theorem RV_bool (b c : Bool) : RV f N (.bool b) (.bool c) = (b = c) := by
  apply propext; constructor
  · intro h; cases h; rfl
  · intro h; subst h; exact .bool b
theorem RV_str (s t : List UInt8) : RV f N (.str s) (.str t) = (s = t) := by
  apply propext; constructor
  · intro h; cases h; rfl
  · intro h; subst h; exact .str s
theorem RV_nil : RV f N .nil .nil = True := eq_true .nil
theorem RV_fn0 (g : FuncId) : RV f N (.fn g []) (.fn g []) = True := eq_true (.fn rfl fun i v' v h => by simp at h)
theorem RV_sl0 (b i n : Nat) : RV f N (.sl b i n) .nil = (b < N ∧ n = 0) := by
  apply propext; constructor
  · intro h; cases h with | sl0 h => exact ⟨h, rfl⟩
  · rintro ⟨h, rfl⟩; exact .sl0 h
theorem RV_sl (b c i j n m : Nat) : RV f N (.sl b i n) (.sl c j m) = (b < N ∧ f b = c ∧ i = j ∧ n = m) := by
  apply propext; constructor
  · intro h; cases h with | sl h => exact ⟨h, rfl, rfl, rfl⟩
  · rintro ⟨h, rfl, rfl, rfl⟩; exact .sl h
theorem RV_ptr (b c i j n m : Nat) : RV f N (.ptr b i n) (.ptr c j m) = (b < N ∧ f b = c ∧ i = j ∧ n = m) := by
  apply propext; constructor
  · intro h; cases h with | ptr h => exact ⟨h, rfl, rfl, rfl⟩
  · rintro ⟨h, rfl, rfl, rfl⟩; exact .ptr h
def rvv : List AV → List AV → Prop
  | [], [] => True
  | v :: l, v' :: l' => RV f N v v' ∧ rvv l l'
  | _, _ => False
theorem rvv_nil : rvv f N [] [] = True := _root_.id rfl
theorem rvv_cons (v v' : AV) (l l' : List AV) : rvv f N (v :: l) (v' :: l') = (RV f N v v' ∧ rvv f N l l') := _root_.id rfl
theorem rvv_iff : ∀ (l l' : List AV), rvv f N l l' ↔ (l.length = l'.length ∧ ∀ (i : Nat) v v', l[i]? = some v → l'[i]? = some v' → RV f N v v')
  | [], [] => by simp [rvv]
  | [], _ :: _ => by simp [rvv]
  | _ :: _, [] => by simp [rvv]
  | v :: l, v' :: l' => by
    rw [rvv_cons, rvv_iff l l']
    constructor
    · rintro ⟨h1, h2, h3⟩
      refine ⟨by simp [h2], fun i a b ha hb => ?_⟩
      cases i with
      | zero => simp at ha hb; subst ha; subst hb; exact h1
      | succ i => simp at ha hb; exact h3 i a b ha hb
    · rintro ⟨h1, h2⟩
      exact ⟨h2 0 v v' rfl rfl, by simpa using h1, fun i a b ha hb => h2 (i + 1) a b (by simpa using ha) (by simpa using hb)⟩
theorem RV_agg (l l' : List AV) : RV f N (.agg l) (.agg l') = rvv f N l l' := by
  apply propext; rw [rvv_iff]; constructor
  · intro h; cases h with | agg hl h => exact ⟨hl, h⟩
  · rintro ⟨h1, h2⟩; exact .agg h1 h2
theorem RV_tup (l l' : List AV) : RV f N (.tup l) (.tup l') = rvv f N l l' := by
  apply propext; rw [rvv_iff]; constructor
  · intro h; cases h with | tup hl h => exact ⟨hl, h⟩
  · rintro ⟨h1, h2⟩; exact .tup h1 h2
end
theorem Bel_int (N : Nat) (k : IntKind) (n : Int) : Bel N (.int k n) = True := eq_true (.int k n)
theorem Bel_bool (N : Nat) (n : Bool) : Bel N (.bool n) = True := eq_true (.bool n)

theorem HRen.refl {H : AHeap} (hc : Closed H) : HRen (fun b => b) H.length H H where
  le := Nat.le_refl _
  id _ _ := rfl
  lt _ h := h
  inj _ _ _ _ h := h
  blk b A hb := ⟨A, hb, rfl, rfl, rfl, fun i row' row h1 h2 => by
    rw [h1] at h2; injection h2 with h2; subst h2
    exact ⟨rfl, fun j v' v h3 h4 => by
      rw [h3] at h4; injection h4 with h4; subst h4
      exact hc A (List.mem_of_getElem? hb) _ (List.mem_of_getElem? h1) _ (List.mem_of_getElem? h3)⟩⟩

theorem RV_lst (f : Nat → Nat) (N sz sz' : Nat) (rows rows' : List (List AV)) : RV f N (.lst sz rows) (.lst sz' rows') = (sz = sz' ∧ rows = rows') := by
  apply propext; constructor
  · intro h; cases h; exact ⟨rfl, rfl⟩
  · rintro ⟨rfl, rfl⟩; exact .lst _ _
theorem RV_lstN (f : Nat → Nat) (N sz : Nat) (rows : List (List AV)) : RV f N (.lst sz rows) .nil = (rows = []) := by
  apply propext; constructor
  · intro h; cases h; rfl
  · rintro rfl; exact .lstN _
theorem RV_nilp (f : Nat → Nat) (N : Nat) : RV f N .nilp .nilp = True := eq_true .nilp
theorem RV_nili (f : Nat → Nat) (N : Nat) : RV f N .nili .nili = True := eq_true .nili
theorem RV_nilf (f : Nat → Nat) (N : Nat) : RV f N .nilf .nilf = True := eq_true .nilf
theorem RV_cptr (f : Nat → Nat) (N : Nat) (row row' : List AV) (j j' : Nat) : RV f N (.cptr row j) (.cptr row' j') = (row = row' ∧ j = j') := by
  apply propext; constructor
  · intro h; cases h; exact ⟨rfl, rfl⟩
  · rintro ⟨rfl, rfl⟩; exact .cptr _ _
theorem RV_bf (f : Nat → Nat) (N : Nat) (e e' : TypeId) (b b' n n' : Nat) : RV f N (.bf e b n) (.bf e' b' n') = (b < N ∧ e = e' ∧ f b = b' ∧ n = n') := by
  apply propext; constructor
  · intro h; cases h with | bf h => exact ⟨h, rfl, rfl, rfl⟩
  · rintro ⟨h, rfl, rfl, rfl⟩; exact .bf h
theorem RV_bptr (f : Nat → Nat) (N : Nat) (e e' : TypeId) (b b' : Nat) : RV f N (.bptr e b) (.bptr e' b') = (b < N ∧ e = e' ∧ f b = b') := by
  apply propext; constructor
  · intro h; cases h with | bptr h => exact ⟨h, rfl, rfl⟩
  · rintro ⟨h, rfl, rfl⟩; exact .bptr h
theorem RV_ifc (f : Nat → Nat) (N : Nat) (t t' : TypeId) (v v' : AV) : RV f N (.ifc t v) (.ifc t' v') = (t = t' ∧ RV f N v v') := by
  apply propext; constructor
  · intro h; cases h with | ifc h => exact ⟨rfl, h⟩
  · rintro ⟨rfl, h⟩; exact .ifc h

/-! ### Loops -/
def goI {σ : Type} (μ : σ → Nat) (G : σ → Prop) (S : σ → List AV) (J : σ → AHeap) : Nat → Env → AHeap → Prop := fun n e H => ∃ s, G s ∧ n = μ s ∧ e = envU (S s) ∧ H = J s
/-- A loop with its states told: of what holds, of the temporaries, of the heap. -/
theorem ALoop.go {N0 : Nat} {F : Env → AHeap → (AX → Env → AHeap → Prop) → Prop} {e : Env} {H : AHeap} {K : AX → Env → AHeap → Prop} {σ : Type} (μ : σ → Nat) (G : σ → Prop) (S : σ → List AV) (J : σ → AHeap) (s0 : σ) (h0 : G s0) (hr : Closed H → Retell N0 H e (J s0) (envU (S s0)))
    (h : ∀ s, G s → F (envU (S s)) (J s) (loopK (goI μ G S J) N0 (μ s) K)) : ALoop N0 F e H K :=
  fun hc => ⟨goI μ G S J, ⟨μ s0, envU (S s0), J s0, hr hc, s0, h0, rfl, rfl, rfl⟩, fun n e1 H1 ⟨s, h1, h2, h3, h4⟩ => by subst h2; subst h3; subst h4; exact h s h1⟩
theorem loopK.go {N0 n : Nat} {e : Env} {H : AHeap} {K : AX → Env → AHeap → Prop} {σ : Type} {μ : σ → Nat} {G : σ → Prop} {S : σ → List AV} {J : σ → AHeap} (s : σ) (hn : μ s < n) (hG : G s) (hr : Closed H → Retell N0 H e (J s) (envU (S s))) : loopK (goI μ G S J) N0 n K .normal e H :=
  ⟨μ s, envU (S s), J s, hn, hr, s, hG, rfl, rfl, rfl⟩

/-- The heap stands. -/
theorem Retell.same {N0 : Nat} {H : AHeap} {e : Env} {l : List AV} (h : rvL (fun b => b) H.length e 0 l) : Retell N0 H e H (envU l) :=
  Retell.vals fun m w hm t r hr => by
    have := rvL_at h t
    rw [Nat.zero_add] at this
    exact RV.rel (m := m) (m' := m) (fun _ _ _ h => h) (by rw [hm.len]; exact Nat.le_refl _) (fun _ _ h => h) this hr

def Clo (rows : List (List AV)) : Prop := ∀ row ∈ rows, BelL 0 row
theorem Clo_nil : Clo [] := fun row h => by simp at h
theorem Clo.cons {row : List AV} {rows : List (List AV)} (h : BelL 0 row) (t : Clo rows) : Clo (row :: rows) := fun r hr => by
  rcases List.mem_cons.1 hr with e | e
  · subst e; exact h
  · exact t r e
theorem Clo.append {a b : List (List AV)} (h : Clo a) (k : Clo b) : Clo (a ++ b) := fun r hr => by
  rcases List.mem_append.1 hr with e | e
  · exact h r e
  · exact k r e
theorem Clo.map {α : Type} {f : α → List AV} (h : ∀ x, BelL 0 (f x)) (xs : List α) : Clo (xs.map f) := fun r hr => by
  obtain ⟨x, _, rfl⟩ := List.mem_map.1 hr
  exact h x
theorem Clo.rep {row : List AV} (h : BelL 0 row) (n : Nat) : Clo (List.replicate n row) := fun r hr => by rw [(List.mem_replicate.1 hr).2]; exact h
/-- All blocks name nothing. -/
def CloH : AHeap → Prop
  | [] => True
  | none :: l => CloH l
  | some A :: l => Clo A.rows ∧ CloH l
theorem CloH_nil : CloH [] = True := _root_.id rfl
theorem CloH_none (l : AHeap) : CloH (none :: l) = CloH l := _root_.id rfl
theorem CloH_some (A : Blk) (l : AHeap) : CloH (some A :: l) = (Clo A.rows ∧ CloH l) := _root_.id rfl
theorem CloH.mem : ∀ {l : AHeap}, CloH l → ∀ A, some A ∈ l → BelB 0 A
  | [], _, A, h => by simp at h
  | none :: l, h, A, hA => by
    rcases List.mem_cons.1 hA with e | e
    · simp at e
    · exact CloH.mem (l := l) h A e
  | some B :: l, h, A, hA => by
    rcases List.mem_cons.1 hA with e | e
    · injection e with e; subst e; exact h.1
    · exact CloH.mem (l := l) h.2 A e
def kf (ks : List Nat) (b : Nat) : Nat := ks.getD b 0
theorem kf_0 (k : Nat) (ks : List Nat) : kf (k :: ks) 0 = k := _root_.id rfl
theorem kf_s (k b : Nat) (ks : List Nat) : kf (k :: ks) (b + 1) = kf ks b := _root_.id rfl
def pickH (H : AHeap) : List Nat → AHeap
  | [] => []
  | k :: ks => H.getD k none :: pickH H ks
theorem pickH_eq (H : AHeap) : ∀ ks : List Nat, pickH H ks = ks.map fun k => H.getD k none
  | [] => rfl
  | k :: ks => by rw [pickH, pickH_eq H ks]; rfl
/-- Only the blocks ks are kept, in that order. -/
theorem Retell.ks {H H2 : AHeap} {e : Env} {l : List AV} (szs ks : List Nat) (h1 : ks.all (fun k => decide (k < (H ++ virts szs).length)) = true) (h2 : ks.Nodup) (h3 : H2 = pickH (H ++ virts szs) ks) (h4 : CloH H2)
    (h5 : rvL (kf ks) ks.length e 0 l) : Retell 0 H e H2 (envU l) := by
  have hlen : H2.length = ks.length := by rw [h3, pickH_eq]; simp
  have hk : keepF 0 ks = kf ks := by funext b; simp [keepF, kf]
  have := HRen.keep (H0 := []) (H1 := []) (J := H ++ virts szs) (J' := H2) ks rfl (fun _ _ h => h) (fun k hk => by have := List.all_eq_true.1 h1 k hk; simpa using this) h2 (by rw [h3, pickH_eq]) (fun A h => by simp at h) h4.mem
  refine Retell.ren (f := kf ks) szs (by simpa [hk] using this) fun t => ?_
  have := rvL_at h5 t
  rw [Nat.zero_add] at this
  rw [hlen]; exact this

/-! ### What a function returns -/
/-- v tells of v', once all of one's own blocks are frozen. -/
inductive OV (H : AHeap) : AV → AV → Prop
  | clo {v : AV} (h : Bel 0 v) : OV H v v
  | nil (sz : Nat) : OV H .nil (.lst sz [])
  | sl {b i n : Nat} {A : Blk} {rows : List (List AV)} (hb : hget H b = some A) (ho : A.own = true) (hn : i + n ≤ A.rows.length) (hl : rows.length = n)
      (hr : ∀ (k : Nat) row row', rows[k]? = some row → A.rows[i + k]? = some row' → row.length = row'.length)
      (h : ∀ (k j : Nat) row row' v v', rows[k]? = some row → A.rows[i + k]? = some row' → row[j]? = some v → row'[j]? = some v' → OV H v' v) : OV H (.sl b i n) (.lst A.sz rows)
  | agg {l l' : List AV} (hl : l'.length = l.length) (h : ∀ (i : Nat) v' v, l'[i]? = some v' → l[i]? = some v → OV H v' v) : OV H (.agg l') (.agg l)
  | tup {l l' : List AV} (hl : l'.length = l.length) (h : ∀ (i : Nat) v' v, l'[i]? = some v' → l[i]? = some v → OV H v' v) : OV H (.tup l') (.tup l)

theorem OV.retell {H : AHeap} {v v' : AV} (h : OV H v' v) : Retell 0 H (fun _ => v') [] (fun _ => v) := fun m w hm => by
  let z2 : Nat → Option (Array Value) := fun r => open Classical in if Img m H r then zAll w r else m.z r
  have hz1 : ∀ r c, m.z r = some c → z2 r = some c := fun r c hr => by
    simp only [z2]
    split
    · exact hrel_le_all hm r c hr
    · exact hr
  have hz2 : ∀ r c, z2 r = some c → (m.z r = some c ∨ Img m H r) ∧ ∃ e fr, w.heap[r]? = some (.cells c e fr) := fun r c hr => by
    simp only [z2] at hr
    split at hr
    · rename_i hi
      exact ⟨.inr hi, (hrelAll w).fz r c hr⟩
    · exact ⟨.inl hr, hm.fz r c hr⟩
  have key : ∀ v' v, OV H v' v → ∀ r, Rel m v' r → Rel ⟨[], z2⟩ v r := by
    intro v' v h
    induction h with
    | clo h => exact fun r hr => hr.zero h hz1
    | nil sz => intro r hr; cases hr; exact .lst0
    | sl hb ho hn hl hrl h ih =>
      rename_i b i n A rows
      intro r hr
      obtain ⟨B, hB, hR⟩ := hm.blk b A (hget_eq.1 hb)
      have hmax := hR.max
      cases hr with
      | sl0 h1 => rw [List.eq_nil_of_length_eq_zero hl]; exact .lst0
      | sl h1 hv h2 h3 =>
        rw [hB] at h1; injection h1 with e; subst e
        obtain ⟨c, e, fr, g1, g2, g3, g4, g5⟩ := hR.real hv
        have himg : Img m H B.blk := ⟨b, A, B, hget_eq.1 hb, hB, ho, hv, rfl⟩
        have hz : z2 B.blk = some c := by
          simp only [z2]; rw [if_pos himg]; simp [zAll, g1]
        have hsz := hR.sz
        have hrow : ∀ (k : Nat) row, rows[k]? = some row → ∃ row', A.rows[i + k]? = some row' := fun k row hk => by
          have := (List.getElem?_eq_some_iff.1 hk).1
          exact ⟨_, List.getElem?_eq_getElem (by omega)⟩
        have hcell : ∀ (k j : Nat) row v r, rows[k]? = some row → row[j]? = some v → c[B.base + i * B.sz + k * A.sz + j]? = some r → r.oneCell' = true ∧ Rel ⟨[], z2⟩ v r := fun k j row v r a1 a2 a3 => by
          obtain ⟨row', hk⟩ := hrow k row a1
          have l1 := hrl k row row' a1 hk
          have hj : j < row'.length := by rw [← l1]; exact (List.getElem?_eq_some_iff.1 a2).1
          have hj' := List.getElem?_eq_getElem hj
          obtain ⟨r', b1, b2⟩ := (g4 _ row' hk).2 j _ hj'
          have e1 : B.base + i * B.sz + k * A.sz + j = B.base + (i + k) * B.sz + j := by rw [hsz, Nat.add_mul]; omega
          rw [e1, b1] at a3; injection a3 with a3; subst a3
          exact ⟨b2.2, ih k j row row' v _ a1 hk a2 hj' r' b2.1⟩
        refine .lst hz hl h2 (by rw [hsz, g2]; exact h3) (by omega) (fun k row hk => ?_) (fun k j row v r a1 a2 a3 => (hcell k j row v r a1 a2 a3).1) (fun k j row v r a1 a2 a3 => (hcell k j row v r a1 a2 a3).2)
        obtain ⟨row', hk'⟩ := hrow k row hk
        rw [hsz, hrl k row row' hk hk']; exact (g4 _ row' hk').1
    | agg hl h ih =>
      intro r hr
      cases hr with
      | agg hl' h' =>
        refine .agg (hl.symm.trans hl') fun i v r hv hr => ?_
        have hi := (List.getElem?_eq_some_iff.1 hv).1
        have e := List.getElem?_eq_getElem (hl.symm ▸ hi)
        exact ih i _ v e hv r (h' i _ r e hr)
    | tup hl h ih =>
      intro r hr
      cases hr with
      | tup hl' h' =>
        refine .tup (hl.symm.trans hl') fun i v r hv hr => ?_
        have hi := (List.getElem?_eq_some_iff.1 hv).1
        have e := List.getElem?_eq_getElem (hl.symm ▸ hi)
        exact ih i _ v e hv r (h' i _ r e hr)
  refine ⟨⟨[], z2⟩, ⟨rfl, fun b A h => by simp at h, fun r c hr => (hz2 r c hr).2, fun b A B h => by simp at h, fun b b' A A' B B' _ h => by simp at h⟩, fun _ r hr => key v' v h r hr, fun m0 H0 w0 e1 e2 hs => ?_⟩
  have hm0 : m0.l = [] := List.eq_nil_of_length_eq_zero e2
  have hH0 : H0 = [] := List.eq_nil_of_length_eq_zero e1
  subst hH0
  refine ⟨⟨fun b B hb => by rw [hm0] at hb; simp at hb, fun r c hr => hz1 r c (hs.mle.z r c hr)⟩, hs.os, hs.tape, hs.output, hs.size, fun r hr => absurd hr img_nil, fun b B hb => by simp at hb, fun r c hr => ?_, fun b hb => by simp at hb, hs.block⟩
  rcases (hz2 r c hr).1 with h1 | h1
  · exact hs.newz r c h1
  · exact .inr (hs.img r h1)

theorem AC.pure {P : Program} {f : FuncId} {args : List AV} {v : AV} (hb : BelL 0 args) (h : AC P f args [] fun v' H' => OV H' v' v) (H : AHeap) : AC P f args H fun v' H' => v' = v ∧ H' = H :=
  AC.frame hb (h.retell fun _ v' H' hq => ⟨v, [], hq.retell, rfl, rfl⟩) H

section
variable (H : AHeap)
theorem OV_int (k : IntKind) (n m : Int) (h : n = m) : OV H (.int k n) (.int k m) := by subst h; exact .clo (.int k n)
theorem OV_bool (b c : Bool) (h : b = c) : OV H (.bool b) (.bool c) := by subst h; exact .clo (.bool b)
theorem OV_str (s t : List UInt8) (h : s = t) : OV H (.str s) (.str t) := by subst h; exact .clo (.str s)
theorem OV_lst (sz : Nat) (r r' : List (List AV)) (h : r = r') : OV H (.lst sz r) (.lst sz r') := by subst h; exact .clo (.lst sz r)
theorem OV_nil (sz : Nat) (r : List (List AV)) (h : r = []) : OV H .nil (.lst sz r) := by subst h; exact .nil sz
theorem OV_sl {b n sz : Nat} {A : Blk} {rows : List (List AV)} (hb : hget H b = some A) (ho : A.own = true) (hs : A.sz = sz) (hn : n = A.rows.length) (hc : Clo A.rows) (hr : A.rows = rows) : OV H (.sl b 0 n) (.lst sz rows) := by
  subst hs hn hr
  refine .sl hb ho (by omega) rfl (fun k row row' h1 h2 => ?_) fun k j row row' v v' h1 h2 h3 h4 => ?_
  · rw [Nat.zero_add, h1] at h2; injection h2 with h2; subst h2; rfl
  · rw [Nat.zero_add, h1] at h2; injection h2 with h2; subst h2
    rw [h3] at h4; injection h4 with h4; subst h4
    exact .clo (hc row (List.mem_of_getElem? h1) v (List.mem_of_getElem? h3))
def ovv (H : AHeap) : List AV → List AV → Prop
  | [], [] => True
  | v :: l, v' :: l' => OV H v v' ∧ ovv H l l'
  | _, _ => False
theorem ovv_get : ∀ {l l' : List AV}, ovv H l l' → l.length = l'.length ∧ ∀ (i : Nat) v v', l[i]? = some v → l'[i]? = some v' → OV H v v'
  | [], [], _ => ⟨rfl, fun i v v' h => by simp at h⟩
  | [], _ :: _, h => h.elim
  | _ :: _, [], h => h.elim
  | v :: l, v' :: l', h => by
    obtain ⟨h1, h2⟩ := ovv_get h.2
    refine ⟨by simp [h1], fun i a b ha hb => ?_⟩
    cases i with
    | zero => simp at ha hb; subst ha; subst hb; exact h.1
    | succ i => simp at ha hb; exact h2 i a b ha hb
theorem OV_tup {l l' : List AV} (h : ovv H l l') : OV H (.tup l) (.tup l') := .tup (ovv_get H h).1 (ovv_get H h).2
theorem OV_agg {l l' : List AV} (h : ovv H l l') : OV H (.agg l) (.agg l') := .agg (ovv_get H h).1 (ovv_get H h).2
theorem OV_eq {v v' : AV} (h : Bel 0 v) (e : v = v') : OV H v v' := by subst e; exact .clo h
end

theorem BelB1 {N sz : Nat} {own : Bool} {rows : List (List AV)} (h : ∀ row ∈ rows, BelL N row) : BelB N ⟨own, sz, rows⟩ := h
theorem in_nil {A : Blk} : (some A ∈ ([] : AHeap)) = False := by simp
theorem in_cons {A B : Blk} {l : AHeap} : (some A ∈ (some B :: l : AHeap)) = (A = B ∨ some A ∈ l) := by simp
theorem ap_eq {H J J' : AHeap} (h : J = J') : H ++ J = H ++ J' := by rw [h]

attribute [go_sem] envU_at kf_0 kf_s pickH CloH_nil CloH_none CloH_some RV_fn0 RV_sl0 rvL_nil rvL_cons RV_un RV_int RV_bool RV_str RV_nil RV_sl RV_ptr RV_agg RV_tup rvv_nil rvv_cons Bel_int Bel_bool or_true RV_lst RV_lstN RV_nilp RV_nili RV_nilf RV_cptr RV_bf RV_bptr RV_ifc

end Go.Ab
/- The abstract machine: append, struct and slice literals. -/
set_option linter.unusedVariables false
set_option linter.unusedSimpArgs false
namespace Go.Ab

def elemOk (P : Program) (e : TypeId) : Option (Nat × Nat) := (P.info? e).bind fun i => i.zero.bind fun z => if z.cells.size = i.size ∧ 0 < i.size then some (i.size, i.bytes) else none
theorem ElemT.of {P : Program} {T e sz bytes : Nat} (h1 : elemT P T = some e) (h2 : elemOk P e = some (sz, bytes)) : ∃ z, ElemT P T e sz bytes z := by
  unfold elemOk at h2
  cases hi : P.info? e with
  | none => rw [hi] at h2; simp at h2
  | some i =>
    rw [hi] at h2
    simp only [Option.bind_some] at h2
    cases hz : i.zero with
    | none => rw [hz] at h2; simp at h2
    | some z =>
      rw [hz] at h2
      simp only [Option.bind_some] at h2
      split at h2
      · rename_i hc
        simp at h2
        exact ⟨z, elemT_under h1, ⟨i, hi, h2.1, h2.2, hz⟩, by rw [hc.1, h2.1], by rw [← h2.1]; exact hc.2⟩
      · simp at h2

/-- Of one size. -/
def rowsLen (sz : Nat) (rows : List (List AV)) : Prop := ∀ row ∈ rows, row.length = sz
theorem rowsLen_nil (sz : Nat) : rowsLen sz [] = True := eq_true fun r h => by simp at h
theorem rowsLen_cons (sz : Nat) (row : List AV) (rows : List (List AV)) : rowsLen sz (row :: rows) = (row.length = sz ∧ rowsLen sz rows) := by simp [rowsLen]
theorem rowsLen_map {α : Type} {f : α → List AV} {sz : Nat} (h : ∀ x, (f x).length = sz) (xs : List α) : rowsLen sz (xs.map f) = True := eq_true fun r hr => by
  obtain ⟨x, _, rfl⟩ := List.mem_map.1 hr
  exact h x
/-- The rows that are one's own. -/
def ownK (H : AHeap) (sz : Nat) (x : AV) (K : List (List AV) → AHeap → Prop) : Prop :=
  match x with
  | .nil => K [] H
  | .sl b i n => optK (hget H b) fun A => (A.own = true ∧ A.sz = sz) ∧ i + n = A.rows.length ∧ K (A.rows.drop i) (H.set b none)
  | _ => False
theorem ownK_c {H H' : AHeap} {sz : Nat} {x x' : AV} {K : List (List AV) → AHeap → Prop} (hx : kv x = x') (hH : H = H') : ownK H sz x K = ownK H' sz x' K := by rw [kv_eq] at hx; rw [hx, hH]
theorem ownK_nil (H : AHeap) (sz : Nat) (K : List (List AV) → AHeap → Prop) : ownK H sz .nil K = K [] H := _root_.id rfl
theorem ownK_sl (H : AHeap) (sz b i n : Nat) (K : List (List AV) → AHeap → Prop) : ownK H sz (.sl b i n) K = optK (hget H b) fun A => (A.own = true ∧ A.sz = sz) ∧ i + n = A.rows.length ∧ K (A.rows.drop i) (H.set b none) := _root_.id rfl
/-- The rows of a slice. -/
def rowsK (H : AHeap) (y : AV) (K : List (List AV) → Prop) : Prop :=
  match y with
  | .nil => K []
  | .sl b i n => optK (hget H b) fun A => i + n ≤ A.rows.length ∧ K ((A.rows.drop i).take n)
  | .lst _ rows => K rows
  | _ => False
theorem rowsK_c {H H' : AHeap} {x x' : AV} {K : List (List AV) → Prop} (hx : kv x = x') (hH : H = H') : rowsK H x K = rowsK H' x' K := by rw [kv_eq] at hx; rw [hx, hH]
theorem rowsK_nil (H : AHeap) (K : List (List AV) → Prop) : rowsK H .nil K = K [] := _root_.id rfl
theorem rowsK_sl (H : AHeap) (b i n : Nat) (K : List (List AV) → Prop) : rowsK H (.sl b i n) K = optK (hget H b) fun A => i + n ≤ A.rows.length ∧ K ((A.rows.drop i).take n) := _root_.id rfl
theorem rowsK_lst (H : AHeap) (sz : Nat) (rows : List (List AV)) (K : List (List AV) → Prop) : rowsK H (.lst sz rows) K = K rows := _root_.id rfl
def appK (P : Program) (H : AHeap) (T : TypeId) (x y : AV) (K : AV → AHeap → Prop) : Prop :=
  optK (elemT P T) fun e => optK (elemOk P e) fun q => ownK H q.1 x fun olds H1 => rowsK H y fun news => rowsLen q.1 news ∧
    (olds.length + news.length) * q.2 ≤ 140737488355328 ∧ olds.length + news.length ≤ maxLen ∧ K (.sl H.length 0 (olds.length + news.length)) (H1 ++ [some ⟨true, q.1, olds ++ news⟩])
theorem x_app (P : Program) (H : AHeap) (ev : Operand → AV) (T : TypeId) (x y : Operand) (K : AV → AHeap → Prop) : AExec P H ev (.call { callee := .builtin .append, args := #[x, y], argTypes := #[T, T] }) K = appK P H T (ev x) (ev y) K := by
  rw [x_append]
  simp only [AEff, appK]
  apply propext
  constructor
  · intro hx
    have hx : ∃ e sz bytes z olds H1 news, ElemT P T e sz bytes z ∧ OwnS H sz (ev x) olds H1 ∧ RowsOf H (ev y) news ∧ (∀ row ∈ news, row.length = sz) ∧
        (olds.length + news.length) * bytes ≤ 140737488355328 ∧ olds.length + news.length ≤ maxLen ∧ K (.sl H.length 0 (olds.length + news.length)) (H1 ++ [some ⟨true, sz, olds ++ news⟩]) := by
      rcases hx with ⟨_, hx⟩ | ⟨hs, e, bytes, z, s, hT, _⟩
      · exact hx
      · have h1 := isStrT_under hs
        have h2 := hT.under
        rw [h1] at h2; simp at h2
    obtain ⟨e, sz, bytes, z, olds, H1, news, hT, hown, hrows, h1, h2, h3, h4⟩ := hx
    have he : elemT P T = some e := by unfold elemT; rw [hT.under]
    have hk : elemOk P e = some (sz, bytes) := by
      obtain ⟨i, i1, i2, i3, i4⟩ := hT.info
      have hp := hT.pos
      have hz := hT.zsize
      unfold elemOk
      rw [i1]
      simp only [Option.bind_some, i4]
      rw [if_pos ⟨by rw [hz, i2], by rw [i2]; exact hp⟩, i2, i3]
    rw [he, optK, hk, optK]
    try simp only
    generalize ev x = vx at *
    generalize ev y = vy at *
    have inner : rowsK H vy fun news => rowsLen sz news ∧ (olds.length + news.length) * bytes ≤ 140737488355328 ∧ olds.length + news.length ≤ maxLen ∧ K (.sl H.length 0 (olds.length + news.length)) (H1 ++ [some ⟨true, sz, olds ++ news⟩]) := by
      cases hrows with
      | nil => exact ⟨h1, h2, h3, h4⟩
      | sl hb hn => rw [rowsK_sl, hb]; exact ⟨hn, h1, h2, h3, h4⟩
      | lst => exact ⟨h1, h2, h3, h4⟩
    cases hown with
    | nil => exact inner
    | sl hb ho hs hn => rw [ownK_sl, hb]; exact ⟨⟨ho, hs⟩, hn, inner⟩
  · intro h
    cases he : elemT P T with
    | none => rw [he] at h; exact h.elim
    | some e =>
      rw [he] at h
      cases hk : elemOk P e with
      | none => rw [optK, hk] at h; exact h.elim
      | some q =>
        rw [optK, hk, optK] at h
        try simp only at h
        obtain ⟨z, hz⟩ := ElemT.of he (sz := q.1) (bytes := q.2) hk
        refine .inl ⟨trivial, e, q.1, q.2, z, ?_⟩
        generalize ev x = vx at *
        generalize ev y = vy at *
        have inner : ∀ (olds : List (List AV)) (H1 : AHeap), OwnS H q.1 vx olds H1 → (rowsK H vy fun news => rowsLen q.1 news ∧ (olds.length + news.length) * q.2 ≤ 140737488355328 ∧ olds.length + news.length ≤ maxLen ∧ K (.sl H.length 0 (olds.length + news.length)) (H1 ++ [some ⟨true, q.1, olds ++ news⟩])) →
            ∃ olds H1 news, ElemT P T e q.1 q.2 z ∧ OwnS H q.1 vx olds H1 ∧ RowsOf H vy news ∧ (∀ row ∈ news, row.length = q.1) ∧ (olds.length + news.length) * q.2 ≤ 140737488355328 ∧ olds.length + news.length ≤ maxLen ∧ K (.sl H.length 0 (olds.length + news.length)) (H1 ++ [some ⟨true, q.1, olds ++ news⟩]) := by
          intro olds H1 ho hr
          cases vy with
          | nil => exact ⟨olds, H1, [], hz, ho, .nil, hr⟩
          | sl b i n =>
            rw [rowsK_sl] at hr
            cases hb : hget H b with
            | none => rw [hb] at hr; exact hr.elim
            | some A => rw [hb] at hr; exact ⟨olds, H1, _, hz, ho, .sl hb hr.1, hr.2⟩
          | lst sz rows => exact ⟨olds, H1, rows, hz, ho, .lst, hr⟩
          | _ => exact hr.elim
        cases vx with
        | nil => exact inner [] H .nil h
        | sl b i n =>
          rw [ownK_sl] at h
          cases hb : hget H b with
          | none => rw [hb] at h; exact h.elim
          | some A => rw [hb] at h; exact inner _ _ (.sl hb h.1.1 h.1.2 h.2.1) h.2.2
        | _ => exact h.elim

/-- A string's bytes, appended to one's own. -/
def appS (P : Program) (H : AHeap) (T : TypeId) (x y : AV) (K : AV → AHeap → Prop) : Prop :=
  optK (elemT P T) fun e => optK (elemOk P e) fun q => fact (q.1 = 1) (strK y fun s => appB H e q.2 s x K)
where
  appB (H : AHeap) (e bytes : Nat) (s : List UInt8) (x : AV) (K : AV → AHeap → Prop) : Prop :=
  match x with
  | .nil => s.length * bytes ≤ 140737488355328 ∧ s.length ≤ maxLen ∧ (s = [] → K .nil H) ∧ (s ≠ [] → K (.bf e H.length s.length) (H ++ [some ⟨true, 1, byteRows s⟩]))
  | .bf e' b n => fact (e' = e) (optK (hget H b) fun A => A.own = true ∧ n = A.rows.length ∧ (n + s.length) * bytes ≤ 140737488355328 ∧ n + s.length ≤ maxLen ∧ K (.bf e H.length (n + s.length)) (H.set b none ++ [some ⟨true, 1, A.rows ++ byteRows s⟩]))
  | _ => False
theorem appB_nil (H : AHeap) (e bytes : Nat) (s : List UInt8) (K : AV → AHeap → Prop) : appS.appB H e bytes s .nil K = (s.length * bytes ≤ 140737488355328 ∧ s.length ≤ maxLen ∧ (s = [] → K .nil H) ∧ (s ≠ [] → K (.bf e H.length s.length) (H ++ [some ⟨true, 1, byteRows s⟩]))) := _root_.id rfl
theorem appB_bf (H : AHeap) (e bytes : Nat) (s : List UInt8) (e' : TypeId) (b n : Nat) (K : AV → AHeap → Prop) : appS.appB H e bytes s (.bf e' b n) K = fact (e' = e) (optK (hget H b) fun A => A.own = true ∧ n = A.rows.length ∧ (n + s.length) * bytes ≤ 140737488355328 ∧ n + s.length ≤ maxLen ∧ K (.bf e H.length (n + s.length)) (H.set b none ++ [some ⟨true, 1, A.rows ++ byteRows s⟩])) := _root_.id rfl
theorem appB_c {H H' : AHeap} {e bytes : Nat} {s : List UInt8} {x x' : AV} {K : AV → AHeap → Prop} (hx : kv x = x') (hH : H = H') : appS.appB H e bytes s x K = appS.appB H' e bytes s x' K := by rw [kv_eq] at hx; rw [hx, hH]
theorem appS_do {P : Program} {H : AHeap} {ev : Operand → AV} {T T' : TypeId} {x y : Operand} {K : AV → AHeap → Prop} (hT : isStrT P T' = true) (h : appS P H T (ev x) (ev y) K) : AExec P H ev (.call { callee := .builtin .append, args := #[x, y], argTypes := #[T, T'] }) K := by
  rw [x_append]
  simp only [AEff]
  unfold appS optK at h
  split at h
  · rename_i e he
    split at h
    · rename_i q hq
      obtain ⟨h1, h⟩ := h
      obtain ⟨sz, bytes⟩ := q
      simp only at h1 h
      subst h1
      obtain ⟨z, hz⟩ := ElemT.of he hq
      unfold strK at h
      split at h
      · rename_i s hs
        refine .inr ⟨hT, e, bytes, z, s, hz, hs, ?_⟩
        unfold appS.appB at h
        split at h
        · rename_i hx; exact .inl ⟨hx, h⟩
        · rename_i e' b n hx
          obtain ⟨rfl, h⟩ := h
          unfold optK at h
          split at h
          · rename_i A hA
            exact .inr ⟨b, n, A, hx, hA, h.1, h.2.1, h.2.2.1, h.2.2.2.1, h.2.2.2.2⟩
          · exact h.elim
        · exact h.elim
      · exact h.elim
    · exact h.elim
  · exact h.elim
theorem copy_do {P : Program} {H : AHeap} {ev : Operand → AV} {T T' e : TypeId} {d s : Operand} {K : AV → AHeap → Prop} {b i n : Nat} {A : Blk} {news : List (List AV)} (he : elemT P T = some e) (hsz : szO P e = some A.sz) (hd : ev d = .sl b i n) (hb : hget H b = some A) (ho : A.own = true) (hn : i + n ≤ A.rows.length)
    (hr : RowsOf H (ev s) news) (hl : ∀ row ∈ news, row.length = A.sz) (h : K (.int .i64 (min news.length n : Nat)) (H.set b (some ⟨true, A.sz, overR A.rows i (news.take n)⟩))) : AExec P H ev (.call { callee := .builtin .copy, args := #[d, s], argTypes := #[T, T'] }) K :=
  ⟨e, b, i, n, A, news, he, hsz, hd, hb, ho, hn, hr, hl, h⟩
def usdK (x : AV) (K : AV → Prop) : Prop := match x with
  | .nil => K .nilp
  | .bf e b n => K (.bfp e b)
  | _ => False
theorem usdK_c {x x' : AV} {K : AV → Prop} (hx : kv x = x') : usdK x K = usdK x' K := by rw [kv_eq] at hx; rw [hx]
theorem usdK_nil (K : AV → Prop) : usdK .nil K = K .nilp := _root_.id rfl
theorem usdK_bf (e : TypeId) (b n : Nat) (K : AV → Prop) : usdK (.bf e b n) K = K (.bfp e b) := _root_.id rfl
theorem x_usd (P : Program) (H : AHeap) (ev : Operand → AV) (x : Operand) (tys : Array TypeId) (K : AV → AHeap → Prop) : AExec P H ev (.call { callee := .builtin .unsafeSliceData, args := #[x], argTypes := tys }) K = usdK (ev x) fun v => K v H := by
  simp only [AExec, cls, AEff, usdK]
  cases ev x <;> rfl
def usK (P : Program) (H : AHeap) (pt : TypeId) (p n : AV) (K : AV → AHeap → Prop) : Prop := match p, n with
  | .nilp, .int .i64 z => z = 0 ∧ K (.str []) H
  | .bfp e b, .int .i64 z => fact (P.underlying pt = some (.pointer e)) (fact (P.cellsOf e = 1) (∃ l, hget H b = some ⟨true, 1, byteRows l⟩ ∧ l ≠ [] ∧ z = l.length ∧ K (.str l) (H.set b none)))
  | _, _ => False
theorem usK_c {P : Program} {H H' : AHeap} {pt : TypeId} {p p' n n' : AV} {K : AV → AHeap → Prop} (hp : kv p = p') (hn : n = n') (hH : H = H') : usK P H pt p n K = usK P H' pt p' n' K := by rw [kv_eq] at hp; rw [hp, hn, hH]
theorem usK_nil (P : Program) (H : AHeap) (pt : TypeId) (z : Int) (K : AV → AHeap → Prop) : usK P H pt .nilp (.int .i64 z) K = (z = 0 ∧ K (.str []) H) := _root_.id rfl
theorem x_us (P : Program) (H : AHeap) (ev : Operand → AV) (p n : Operand) (pt it : TypeId) (K : AV → AHeap → Prop) : AExec P H ev (.call { callee := .builtin .unsafeString, args := #[p, n], argTypes := #[pt, it] }) K = usK P H pt (ev p) (ev n) K := by
  simp only [AExec, cls, AEff, usK, fact]
  cases ev p <;> first
    | rfl
    | (cases ev n <;> first
        | rfl
        | (rename_i k z; cases k <;> rfl)
        | (rename_i k z; rfl))
theorem usK_do {P : Program} {H : AHeap} {pt e : TypeId} {b : Nat} {z : Int} {l : List UInt8} {K : AV → AHeap → Prop} (h1 : P.underlying pt = some (.pointer e)) (h2 : P.cellsOf e = 1) (hb : hget H b = some ⟨true, 1, byteRows l⟩) (h0 : l ≠ []) (hz : z = l.length) (h : K (.str l) (H.set b none)) : usK P H pt (.bfp e b) (.int .i64 z) K :=
  ⟨h1, h2, l, hb, h0, hz, h⟩
def rowsOk (sz : Nat) : List (List AV) → Prop
  | [] => True
  | l :: r => onesA l ∧ l.length = sz ∧ rowsOk sz r
theorem rowsOk_nil (sz : Nat) : rowsOk sz [] = True := _root_.id rfl
theorem rowsOk_cons (sz : Nat) (l : List AV) (r : List (List AV)) : rowsOk sz (l :: r) = (onesA l ∧ l.length = sz ∧ rowsOk sz r) := _root_.id rfl
theorem rowsOk_iff (sz : Nat) : ∀ (r : List (List AV)), rowsOk sz r ↔ ∀ l ∈ r, onesA l ∧ l.length = sz
  | [] => by simp [rowsOk]
  | l :: r => by simp [rowsOk, rowsOk_iff sz r, and_assoc]
theorem x_bs (P : Program) (H : AHeap) (ev : Operand → AV) (T : TypeId) (n : Nat) (parts : List (Nat × Operand)) (K : AV → AHeap → Prop) : AExec P H ev (.buildSlice T n parts.toArray) K =
    optK (elemT P T) fun e => optK (szO P e) fun sz => (parts.map (·.1) = List.range n ∧ n * sz ≤ 16777216 ∧ n ≤ 16777216 ∧ (zeroO P e).isSome = true) ∧ rowsOk sz (parts.map fun p => (ev p.2).cells) ∧ K (.sl H.length 0 n) (H ++ [some ⟨true, sz, parts.map fun p => (ev p.2).cells⟩]) := by
  rw [x_buildSlice]
  simp only [AEff, optK, rowsOk_iff]
  cases elemT P T with
  | none => rfl
  | some e =>
    simp only
    cases szO P e with
    | none => rfl
    | some sz =>
      simp
      intro _ _ _ _ _
      exact ⟨fun h l x x1 hm he => by subst he; exact h _ _ hm, fun h a b hm => h _ a b hm rfl⟩

/-! ### Struct literals -/
def structOk (P : Program) (T : TypeId) : Bool := match P.underlying T with | some (.struct fs) => (fs.toList.map fun f => szO P f.type).all (·.isSome) | _ => false
def placeF (P : Program) (T : TypeId) (i : Nat) : Option (Nat × Nat) := (fieldT P T i).bind fun q => (szO P q.1).map fun n => (q.2, n)
def neUn : List AV → Prop
  | [] => True
  | v :: l => v ≠ .un ∧ neUn l
theorem neUn_nil : neUn [] = True := _root_.id rfl
theorem neUn_cons (v : AV) (l : List AV) : neUn (v :: l) = (v ≠ .un ∧ neUn l) := _root_.id rfl
theorem neUn_iff : ∀ (l : List AV), neUn l ↔ ∀ v ∈ l, v ≠ .un
  | [] => by simp [neUn]
  | v :: l => by simp [neUn, neUn_iff l]
theorem fillA_congr {p q : Nat → Option (Nat × Nat)} (h : ∀ i, p i = q i) (c : List AV) (l : List (Nat × AV)) : fillA p c l = fillA q c l := by
  have : p = q := funext h
  rw [this]
theorem x_bld (P : Program) (H : AHeap) (ev : Operand → AV) (T : TypeId) (parts : List (Nat × Operand)) (K : AV → AHeap → Prop) : AExec P H ev (.build T parts.toArray) K =
    optK (zeroO P T) fun z => aggK z fun z => fact (structOk P T = true) (optK (fillA (placeF P T) z (parts.map fun p => (p.1, ev p.2))) fun l => neUn (parts.map fun p => ev p.2) ∧ K (.agg l) H) := by
  rw [x_build]
  simp only [APure, optK, aggK, fact, neUn_iff, structOk]
  cases zeroO P T with
  | none => rfl
  | some z =>
    cases z <;> try rfl
    rename_i z
    simp only
    cases hu : P.underlying T with
    | none => simp
    | some d =>
      cases d with
      | struct fs =>
        have hp : ∀ c l, fillA (fun i => (fs[i]?).bind fun f => (szO P f.type).map fun n => (f.offset, n)) c l = fillA (placeF P T) c l := fillA_congr fun i => by
          simp only [placeF, fieldT, hu]
          cases fs[i]? <;> simp
        simp only [hp]
        generalize (fs.toList.map fun f => szO P f.type).all (·.isSome) = A
        cases A with
        | false => simp
        | true =>
          cases fillA (placeF P T) z (parts.map fun p => (p.1, ev p.2)) with
          | none => simp
          | some l =>
            simp
            intro _
            exact ⟨fun h v x x1 hm he => by subst he; exact h _ _ hm, fun h a b hm => h _ a b hm rfl⟩
      | _ => simp
theorem hget_set {H : AHeap} {b : Nat} {A : Blk} (h : hget H b = some A) (X : Option Blk) : hget (H.set b X) b = X := hget_set_same (hget_lt h)
theorem set_self {H : AHeap} {b : Nat} {A : Blk} (h : hget H b = some A) : H.set b (some A) = H := by
  have h1 := hget_eq.1 h
  apply List.ext_getElem?
  intro i
  by_cases e : b = i
  · subst e; rw [List.getElem?_set_self (hget_lt h), h1]
  · rw [List.getElem?_set_ne e]
theorem x_mk (P : Program) (H : AHeap) (ev : Operand → AV) (T : TypeId) (n c : Operand) (K : AV → AHeap → Prop) : AExec P H ev (.makeSlice T n c) K =
    intK (ev n) fun z => intK (ev c) fun z' => optK (elemT P T) fun e => optK (szO P e) fun sz => optK (bytesO P e) fun bytes => optK (zeroO P e) fun zv =>
      z = z' ∧ 0 ≤ z ∧ z * bytes ≤ 140737488355328 ∧ z ≤ 9223372036854775807 ∧ onesA zv.cells ∧ zv.cells.length = sz ∧ K (.sl H.length 0 z.toNat) (H ++ [some ⟨true, sz, List.replicate z.toNat zv.cells⟩]) := by
  rw [x_makeSlice]
  simp only [AEff, intK, optK]
  cases ev n <;> try rfl
  cases ev c <;> try rfl
  cases elemT P T <;> try rfl
  rename_i e
  simp only
  cases szO P e <;> cases bytesO P e <;> cases zeroO P e <;> rfl
/-! ### Lengths and places -/
def lenK (P : Program) (T : TypeId) (x : AV) (K : AV → Prop) : Prop := (match P.underlying T, x with | some .string, .str _ => True | some (.slice _), .nil => True | some (.slice _), .sl _ _ _ => True | some (.slice _), .lst _ _ => True | some (.slice _), .bf _ _ _ => True | _, _ => False) ∧ match alen x with | some n => K (.int .i64 n) | none => False
theorem lenK_c {P : Program} {T : TypeId} {x x' : AV} {K : AV → Prop} (hx : kv x = x') : lenK P T x K = lenK P T x' K := by rw [kv_eq] at hx; rw [hx]
theorem x_len1 (P : Program) (H : AHeap) (ev : Operand → AV) (T : TypeId) (x : Operand) (K : AV → AHeap → Prop) : AExec P H ev (.call { callee := .builtin .len, args := #[x], argTypes := #[T] }) K = lenK P T (ev x) fun v => K v H := _root_.id rfl
theorem len_sl (P : Program) (T : TypeId) (b i n : Nat) (K : AV → Prop) : lenK P T (.sl b i n) K = fact ((elemT P T).isSome = true) (K (.int .i64 n)) := by
  simp only [lenK, fact, alen, elemT]
  cases hu : P.underlying T with
  | none => simp
  | some d => cases d <;> simp
theorem len_lst (P : Program) (T : TypeId) (sz : Nat) (rows : List (List AV)) (K : AV → Prop) : lenK P T (.lst sz rows) K = fact ((elemT P T).isSome = true) (K (.int .i64 rows.length)) := by
  simp only [lenK, fact, alen, elemT]
  cases hu : P.underlying T with
  | none => simp
  | some d => cases d <;> simp
theorem len_bf (P : Program) (T : TypeId) (e : TypeId) (b n : Nat) (K : AV → Prop) : lenK P T (.bf e b n) K = fact ((elemT P T).isSome = true) (K (.int .i64 n)) := by
  simp only [lenK, fact, alen, elemT]
  cases hu : P.underlying T with
  | none => simp
  | some d => cases d <;> simp
theorem len_nil (P : Program) (T : TypeId) (K : AV → Prop) : lenK P T .nil K = fact ((elemT P T).isSome = true) (K (.int .i64 (0 : Nat))) := by
  simp only [lenK, fact, alen, elemT]
  cases hu : P.underlying T with
  | none => simp
  | some d => cases d <;> simp
theorem len_str (P : Program) (T : TypeId) (s : List UInt8) (K : AV → Prop) : lenK P T (.str s) K = fact (isStrT P T = true) (K (.int .i64 s.length)) := by
  simp only [lenK, fact, alen, isStrT]
  cases hu : P.underlying T with
  | none => simp
  | some d => cases d <;> simp
theorem szIs_eq (P : Program) (H : AHeap) (b : Nat) (e : TypeId) : szIs P H b e = optK (hget H b) fun A => szO P e = some A.sz := by
  unfold szIs optK
  cases hget H b <;> rfl
theorem ofNat_nn (n : Nat) : (0 ≤ (n : Int)) = True := eq_true (Int.natCast_nonneg n)
/-! ### Conversions -/
inductive Cv where
  | int (k : IntKind)
  | ss
  | bs
  | sb
  | no
def isU8 (P : Program) (e : TypeId) : Bool := match P.underlying e with | some (.int .u8) => true | _ => false
def cvKind (P : Program) (s d : TypeId) : Cv := match P.underlying s, P.underlying d with
  | some (.int _), some (.int k) => .int k
  | some .string, some .string => .ss
  | some (.slice e), some .string => if isU8 P e then .bs else .no
  | some .string, some (.slice e) => if isU8 P e && szO P e == some 1 then .sb else .no
  | _, _ => .no
def bytesK (H : AHeap) (x : AV) (K : List UInt8 → Prop) : Prop := match x with
  | .nil => K []
  | .sl b i n => optK (hget H b) fun A => A.sz = 1 ∧ i + n ≤ A.rows.length ∧ optK (rowBytes ((A.rows.drop i).take n)) K
  | .lst _ rows => optK (rowBytes rows) K
  | _ => False
theorem bytesK_nil (H : AHeap) (K : List UInt8 → Prop) : bytesK H .nil K = K [] := _root_.id rfl
theorem bytesK_sl (H : AHeap) (b i n : Nat) (K : List UInt8 → Prop) : bytesK H (.sl b i n) K = optK (hget H b) fun A => A.sz = 1 ∧ i + n ≤ A.rows.length ∧ optK (rowBytes ((A.rows.drop i).take n)) K := _root_.id rfl
theorem bytesK_lst (H : AHeap) (sz : Nat) (rows : List (List AV)) (K : List UInt8 → Prop) : bytesK H (.lst sz rows) K = optK (rowBytes rows) K := _root_.id rfl
theorem bytesK_c {H H' : AHeap} {x x' : AV} {K : List UInt8 → Prop} (hx : kv x = x') (hH : H = H') : bytesK H x K = bytesK H' x' K := by rw [kv_eq] at hx; rw [hx, hH]
theorem rowBytes_byteRows : ∀ l : List UInt8, rowBytes (byteRows l) = some l
  | [] => rfl
  | c :: l => by
    have ih := rowBytes_byteRows l
    have e : byteRows (c :: l) = [AV.int .u8 c.toNat] :: byteRows l := rfl
    have h : (0 : Int) ≤ (c.toNat : Int) ∧ (c.toNat : Int) < 256 := by have := c.toNat_lt; omega
    rw [e, rowBytes, if_pos h, ih]
    simp
theorem byteRows_drop (l : List UInt8) (n : Nat) : (byteRows l).drop n = byteRows (l.drop n) := by simp [byteRows, List.map_drop]
theorem byteRows_take (l : List UInt8) (n : Nat) : (byteRows l).take n = byteRows (l.take n) := by simp [byteRows, List.map_take]
def cvRun (H : AHeap) (x : AV) (K : AV → AHeap → Prop) : Cv → Prop
  | .int k => intK x fun n => K (.int k (k.wrap n)) H
  | .ss => strK x fun s => K (.str s) H
  | .bs => bytesK H x fun l => K (.str l) H
  | .sb => strK x fun l => l.length ≤ maxLen ∧ K (.sl H.length 0 l.length) (H ++ [some ⟨true, 1, byteRows l⟩])
  | .no => False
theorem cvRun_int (H : AHeap) (x : AV) (K : AV → AHeap → Prop) (k : IntKind) : cvRun H x K (.int k) = intK x fun n => K (.int k (k.wrap n)) H := _root_.id rfl
theorem cvRun_ss (H : AHeap) (x : AV) (K : AV → AHeap → Prop) : cvRun H x K .ss = strK x fun s => K (.str s) H := _root_.id rfl
theorem cvRun_bs (H : AHeap) (x : AV) (K : AV → AHeap → Prop) : cvRun H x K .bs = bytesK H x fun l => K (.str l) H := _root_.id rfl
theorem cvRun_sb (H : AHeap) (x : AV) (K : AV → AHeap → Prop) : cvRun H x K .sb = strK x fun l => l.length ≤ maxLen ∧ K (.sl H.length 0 l.length) (H ++ [some ⟨true, 1, byteRows l⟩]) := _root_.id rfl
theorem x_cv_do {P : Program} {H : AHeap} {ev : Operand → AV} {s d : TypeId} {x : Operand} {K : AV → AHeap → Prop} (h : cvRun H (ev x) K (cvKind P s d)) : AExec P H ev (.convert s d x) K := by
  unfold cvKind at h
  simp only [AExec, cls]
  split at h
  · rename_i k k' h1 h2
    have hp : pureConv P s d = true := by unfold pureConv; rw [h1]
    rw [hp]
    simp only [cvRun, intK] at h
    simp only [if_true, APure, h1, h2]
    cases hx : ev x <;> rw [hx] at h <;> first | exact h | exact h.elim
  · rename_i h1 h2
    have hp : pureConv P s d = true := by unfold pureConv; rw [h1, h2]
    rw [hp]
    simp only [cvRun, strK] at h
    simp only [if_true, APure, h1, h2]
    cases hx : ev x <;> rw [hx] at h <;> first | exact h | exact h.elim
  · rename_i e h1 h2
    have hp : pureConv P s d = false := by unfold pureConv; rw [h1]
    rw [hp]
    split at h
    · rename_i hu
      have hu' : P.underlying e = some (.int .u8) := by unfold isU8 at hu; split at hu <;> simp_all
      simp only [cvRun, bytesK] at h
      simp only [Bool.false_eq_true, if_false, AEff, h1, h2]
      cases hx : ev x <;> rw [hx] at h <;> first
        | exact h.elim
        | exact ⟨hu', h⟩
        | (simp only [optK] at h
           refine ⟨hu', ?_⟩
           split at h
           · rename_i A hA
             simp only [hA]
             first
               | exact h
               | refine ⟨h.1, h.2.1, ?_⟩
                 have h3 := h.2.2
                 split at h3
                 · rename_i v hv; simp only [hv]; exact h3
                 · exact h3.elim
           · exact h.elim)
    · exact h.elim
  · rename_i e h1 h2
    have hp : pureConv P s d = false := by unfold pureConv; rw [h1, h2]
    rw [hp]
    split at h
    · rename_i hu
      simp only [Bool.and_eq_true, beq_iff_eq] at hu
      have hu' : P.underlying e = some (.int .u8) := by have := hu.1; unfold isU8 at this; split at this <;> simp_all
      simp only [cvRun, strK] at h
      simp only [Bool.false_eq_true, if_false, AEff, h1, h2]
      cases hx : ev x <;> rw [hx] at h <;> first | exact h.elim | exact ⟨hu', hu.2, h⟩
    · exact h.elim
  · exact h.elim
attribute [congr] bytesK_c ownK_c rowsK_c appB_c usdK_c usK_c lenK_c
attribute [go_sem] x_mk x_len1 len_lst len_bf List.length_map len_sl len_nil len_str szIs_eq ofNat_nn Int.toNat_natCast Nat.zero_add Nat.add_zero decide_true decide_false Bool.not_true Bool.not_false List.set_set
attribute [go_sem_proc] Nat.reduceGT
attribute [go_sem] bytesK_nil bytesK_sl bytesK_lst rowBytes_byteRows byteRows_drop byteRows_take cvRun_int cvRun_ss cvRun_bs cvRun_sb usdK_nil usdK_bf x_usd x_us usK_nil appS appB_nil appB_bf byteRows_len appK rowsLen_nil rowsLen_cons ownK_nil ownK_sl rowsK_nil rowsK_sl rowsK_lst x_app x_bs x_bld rowsOk_nil rowsOk_cons neUn_nil neUn_cons placeF fillA Option.map_some Option.isSome_some false_or or_false or_self not_true_eq_false if_false if_true
end Go.Ab
