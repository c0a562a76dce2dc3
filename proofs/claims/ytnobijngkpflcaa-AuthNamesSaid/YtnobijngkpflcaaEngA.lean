/-
  The region rule: operations in program order with stable facts, sound for every order that the edges allow.
-/
import Derived.WalkKit
namespace Go.Eng

/-- the blocks that this region has laid for its own variables, by the slot that holds the address -/
abbrev Gh := List (Nat × Nat)
abbrev Fact := Gh → Value → World → Prop
abbrev Ctx := List (Option Nat × Fact)

/-- what a slot holds -/
def sl (a : Act) (t : Nat) : Value := a.tmps.getD t undef

/-- the blocks of S that were there are as they were -/
structure Keeps (S : Nat → Prop) (w w' : World) : Prop where
  os : w'.os = w.os
  tape : w'.tape = w.tape
  output : w'.output = w.output
  size : w.heap.size ≤ w'.heap.size
  block : ∀ k, k < w.heap.size → S k → w'.heap[k]? = w.heap[k]?

def All : Nat → Prop := fun _ => True
abbrev Ext := Keeps All

theorem Keeps.refl (S : Nat → Prop) (w : World) : Keeps S w w := ⟨rfl, rfl, rfl, Nat.le_refl _, fun _ _ _ => rfl⟩
theorem Keeps.trans {S : Nat → Prop} {a b c : World} (h : Keeps S a b) (k : Keeps S b c) : Keeps S a c :=
  ⟨k.os.trans h.os, k.tape.trans h.tape, k.output.trans h.output, Nat.le_trans h.size k.size,
   fun i hi hs => (k.block i (Nat.lt_of_lt_of_le hi h.size) hs).trans (h.block i hi hs)⟩
theorem Keeps.mono {S T : Nat → Prop} {a b : World} (h : Keeps S a b) (hs : ∀ k, T k → S k) : Keeps T a b :=
  ⟨h.os, h.tape, h.output, h.size, fun k hk ht => h.block k hk (hs k ht)⟩
theorem Keeps.of_ext {S : Nat → Prop} {a b : World} (h : Ext a b) : Keeps S a b := h.mono fun _ _ => trivial
theorem Keeps.drew {S : Nat → Prop} (w : World) : Keeps S w { w with drawn := w.drawn + 1 } := ⟨rfl, rfl, rfl, Nat.le_refl _, fun _ _ _ => rfl⟩

structure Stable (S : Nat → Prop) (φ : Fact) : Prop where
  world : ∀ g v W W', Keeps S W W' → φ g v W → φ g v W'
  ghost : ∀ g t b v W, W.heap.size ≤ b → φ g v W → φ ((t, b) :: g) v W
/-- what is known of the region's own blocks -/
structure GOk (w0 W : World) (g : Gh) : Prop where
  lo : ∀ t b, (t, b) ∈ g → w0.heap.size ≤ b
  hi : ∀ t b, (t, b) ∈ g → b < W.heap.size
  inj : ∀ t t' b, (t, b) ∈ g → (t', b) ∈ g → t = t'
theorem GOk.ext {w0 W W' : World} {g : Gh} {S : Nat → Prop} (h : GOk w0 W g) (k : Keeps S W W') : GOk w0 W' g :=
  ⟨h.lo, fun t b hb => Nat.lt_of_lt_of_le (h.hi t b hb) k.size, h.inj⟩
theorem GOk.more {w0 W W' : World} {g : Gh} (h : GOk w0 W g) (h0 : w0.heap.size ≤ W.heap.size) (hs : W.heap.size < W'.heap.size) (t : Nat) : GOk w0 W' ((t, W.heap.size) :: g) := by
  refine ⟨fun u b hb => ?_, fun u b hb => ?_, fun u u' b hb hb' => ?_⟩
  · rcases List.mem_cons.1 hb with h1 | h1
    · cases h1; exact h0
    · exact h.lo u b h1
  · rcases List.mem_cons.1 hb with h1 | h1
    · cases h1; exact hs
    · exact Nat.lt_trans (h.hi u b h1) hs
  · rcases List.mem_cons.1 hb with h1 | h1 <;> rcases List.mem_cons.1 hb' with h2 | h2
    · cases h1; cases h2; rfl
    · cases h1; have := h.hi _ _ h2; omega
    · cases h2; have := h.hi _ _ h1; omega
    · exact h.inj u u' b h1 h2
def StableE (Ψ : World → Prop) : Prop := ∀ W W', Ext W W' → Ψ W → Ψ W'

def OpRuns (P : Program) (o : Oper) (a : Act) (W : World) (R : Value → World → Prop) : Prop :=
  match (execOp a.eval o).run P W with
  | .ok (.value v) W' => R v W'
  | .ok .skip W' => R undef W'
  | .ok (.enter f args) W' => Calls P f args W' fun e W'' => ∃ v, e = .returned v ∧ R v W''
  | _ => False

def ObRun (P : Program) (ops : Array Oper) (o : Oper) (a : Act) (W : World) (R : Value → World → Prop) : Prop :=
  if Region.wanted o (yielded ops a.tmps) = true then OpRuns P o a W R else R undef W

theorem OpRuns.wp {P : Program} {o : Oper} {a : Act} {W : World} {R : Value → World → Prop} {K : Act → World → Prop} {Q : Exit → Act → World → Prop}
    (h : OpRuns P o a W R) (hk : ∀ v W', R v W' → K (a.put o.dst v) W') : o.wp P a W K Q := by
  unfold OpRuns at h
  unfold Oper.wp
  cases hr : (execOp a.eval o).run P W with
  | halt x w => rw [hr] at h; exact h.elim
  | ok x w =>
    rw [hr] at h
    cases x <;> first
      | exact h.elim
      | exact hk _ _ h
      | exact Calls.mono h (fun e w' ⟨v, he, hv⟩ => by subst he; exact hk _ _ hv)

theorem OpRuns.mono {P : Program} {o : Oper} {a : Act} {W : World} {R R' : Value → World → Prop}
    (h : OpRuns P o a W R) (hk : ∀ v W', R v W' → R' v W') : OpRuns P o a W R' := by
  unfold OpRuns at *
  cases hr : (execOp a.eval o).run P W with
  | halt x w => rw [hr] at h; exact h.elim
  | ok x w =>
    rw [hr] at h
    cases x <;> first
      | exact h.elim
      | exact hk _ _ h
      | exact Calls.mono h (fun e w' ⟨v, he, hv⟩ => ⟨v, he, hk _ _ hv⟩)

theorem ObRun.mono {P : Program} {ops : Array Oper} {o : Oper} {a : Act} {W : World} {R R' : Value → World → Prop}
    (h : ObRun P ops o a W R) (hk : ∀ v W', R v W' → R' v W') : ObRun P ops o a W R' := by
  unfold ObRun at *
  split
  · rename_i hw; rw [if_pos hw] at h; exact h.mono hk
  · rename_i hw; rw [if_neg hw] at h; exact hk _ _ h

theorem ObRun.wpOp {P : Program} {ops : Array Oper} {Q : Exit → Act → World → Prop} {i : Nat} {o : Oper} {a : Act} {W : World} {R : Value → World → Prop}
    {K : Act → World → Prop} (hi : ops[i]? = some o) (h : ObRun P ops o a W R) (hk : ∀ v W', R v W' → K (a.put o.dst v) W') : Go.wpOp P ops Q i K a W := by
  unfold Go.wpOp
  simp only [hi]
  unfold ObRun at h
  split
  · rename_i hw; rw [if_pos hw] at h; exact .inl (h.wp hk)
  · rename_i hw; rw [if_neg hw] at h; exact hk _ _ h

def runTail (P : Program) (ops : Array Oper) (Q : Exit → Act → World → Prop) : List Oper → Act → World → Prop
  | [], a, W => Q .normal a W
  | o :: r, a, W => ObRun P ops o a W fun v W' => runTail P ops Q r (a.put o.dst v) W'

def look : Ctx → Nat → Option Fact
  | [], _ => none
  | (some d, φ) :: Γ, t => bif d == t then some φ else look Γ t
  | (none, _) :: Γ, t => look Γ t

def Env (Γ : Ctx) (a0 a : Act) (g : Gh) (W : World) : List Nat → Prop
  | [] => True
  | t :: ts => (match look Γ t with | some φ => φ g (sl a t) W | none => sl a t = sl a0 t) ∧ Env Γ a0 a g W ts

/-- all the facts of a context -/
def EnvAll (a : Act) (g : Gh) (W : World) : Ctx → Prop
  | [] => True
  | (some d, φ) :: Γ => φ g (sl a d) W ∧ EnvAll a g W Γ
  | (none, _) :: Γ => EnvAll a g W Γ

def notIn : Ctx → Nat → Bool
  | [], _ => true
  | (some d, _) :: Γ, t => !(d == t) && notIn Γ t
  | (none, _) :: Γ, t => notIn Γ t

/-- is j surely before i? -/
def nd (drawn : Bool) (B : Array Nat) (j i : Nat) : Bool := if drawn then (B.getD i 0).testBit j else decide (j < i)

def maskOf (B : Array Nat) (es : List Edge) : Nat := es.foldl (fun s e => if Region.binds .any e then s ||| 2 ^ e.on ||| B.getD e.on 0 else s) 0

/-- an operation that no world bears on, and that may as well be taken as soon as it can: those that the tail surely waits for let it be taken ahead of the tail -/
def lateOk (B : Array Nat) (ops : Array Oper) (m l : Nat) : Bool := match ops[l]? with
  | none => false
  | some o => o.guard.isNone && (match o.op with | .extract _ _ => true | _ => false) && decide (l < m) && Region.noSelect ops && Region.free .any ops ((Array.range ops.size).map fun j => nd true B j l) l &&
    o.after.toList.all fun e => !Region.binds .any e || (List.range ops.size).all fun i => !decide (m ≤ i) || nd true B e.on i

/-- the checks on a region: N slots, the first m operations in whatever order, those marked in ms one behind the other, the rest in order -/
def chkW (lt : Nat → Bool) (drawn : Bool) (B : Array Nat) (N : Nat) (ops : Array Oper) (ms : List Bool) (m : Nat) : Bool :=
  (List.range ops.size).all fun i => match ops[i]? with
    | none => false
    | some o =>
      (match o.dst with | some d => decide (d < N) | none => true) &&
      (!drawn || ((B.getD i 0 == maskOf B o.after.toList) && o.after.toList.all fun e => (!Region.binds .any e || decide (e.on < i)))) &&
      ((List.range ops.size).all fun j => j == i || match ops[j]? with
        | none => false
        | some p =>
          (match p.dst with
            | none => true
            | some t => o.dst != some t && (!(o.looksAt ops).contains t || (if j < i then nd drawn B j i else nd drawn B i j))) &&
          (!(decide (j < i) && decide (m ≤ i)) || nd drawn B j i || lt j) &&
          (!(decide (j < i) && ms.getD i false && ms.getD j false) || nd drawn B j i))
def chk (drawn : Bool) (B : Array Nat) (N : Nat) (ops : Array Oper) (ms : List Bool) (m : Nat) : Bool := chkW (fun j => drawn && lateOk B ops m j) drawn B N ops ms m
/-- an operation that looks only at slots that the region does not set, and for which nothing waits but what is named: it may be taken whenever -/
def lateL (B : Array Nat) (ops : Array Oper) (m : Nat) (ls : List Nat) (l : Nat) : Bool := ls.contains l && match ops[l]? with
  | none => false
  | some o => o.guard.isNone && decide (l < m) && (B.getD l 0 == 0) && ((o.looksAt ops).all fun t => ops.toList.all fun p => p.dst != some t) && Region.noSelect ops &&
    ((List.range ops.size).all fun i => !decide (m ≤ i) || match ops[i]? with
      | none => false
      | some p => p.guard.isNone && match o.dst with
        | none => false
        | some d => !(p.looksAt ops).contains d || nd true B l i)

section
variable {P : Program} {ops : Array Oper} {S : Nat → Prop} {w0 : World} {a0 : Act}

theorem sl_put_same {a : Act} {d : Nat} {v : Value} (h : d < a.tmps.size) : sl (a.put (some d) v) d = v := by
  simp [sl, Act.put, Array.getD, h]
theorem sl_put_ne {a : Act} {o : Option Nat} {t : Nat} {v : Value} (h : o ≠ some t) : sl (a.put o v) t = sl a t := by
  cases o with
  | none => rfl
  | some d =>
    have hd : d ≠ t := fun e => h (e ▸ rfl)
    simp only [sl, Act.put]
    rw [Array.getD_eq_getD_getElem?, Array.getD_eq_getD_getElem?, Array.getElem?_setIfInBounds_ne hd]
theorem put_size {a : Act} {o : Option Nat} {v : Value} : (a.put o v).tmps.size = a.tmps.size := by cases o <;> simp [Act.put]
theorem put_defers {a : Act} {o : Option Nat} {v : Value} : (a.put o v).defers = a.defers := by cases o <;> rfl

/-- what has been walked, as functions of the operation's number -/
structure Book (P : Program) (ops : Array Oper) (S : Nat → Prop) (w0 : World) (a0 : Act) (m : Nat) (φ : Nat → Fact) (Γ : Nat → Ctx) (Ψ : Nat → World → Prop) (mn bx : Nat → Bool) : Prop where
  le : m ≤ ops.size
  g0 : Γ 0 = []
  gs : ∀ j o, j < m → ops[j]? = some o → Γ (j + 1) = (o.dst, φ j) :: Γ j
  ps : ∀ j, j < m → mn j = false → Ψ (j + 1) = Ψ j
  sf : ∀ j, j < m → Stable S (φ j) ∨ (Stable All (φ j) ∧ mn j = true ∧ ∀ i, j < i → i < m → mn i = false)
  sp : ∀ j, j ≤ m → StableE (Ψ j)
  side : ∀ j o, j < m → ops[j]? = some o → mn j = false → bx j = false → ∀ a g W, Keeps S w0 W → GOk w0 W g → Env (Γ j) a0 a g W (o.looksAt ops) →
    ObRun P ops o a W fun v W' => Ext W W' ∧ φ j g v W'
  box : ∀ j o, j < m → ops[j]? = some o → mn j = false → bx j = true → ∃ t, o.dst = some t ∧ ∀ a g W, Keeps S w0 W → GOk w0 W g → Env (Γ j) a0 a g W (o.looksAt ops) →
    ObRun P ops o a W fun v W' => Ext W W' ∧ W.heap.size < W'.heap.size ∧ φ j ((t, W.heap.size) :: g) v W'
  main : ∀ j o, j < m → ops[j]? = some o → mn j = true → ∀ a g W, Keeps S w0 W → GOk w0 W g → Env (Γ j) a0 a g W (o.looksAt ops) → Ψ j W →
    ObRun P ops o a W fun v W' => Keeps S W W' ∧ φ j g v W' ∧ Ψ (j + 1) W'

/-- the checks, as propositions over a relation 'surely before' -/
structure Fits (ops : Array Oper) (N m : Nat) (mn lt : Nat → Bool) (need : Nat → Nat → Prop) : Prop where
  inb : ∀ (i : Nat) (o : Oper) (d : Nat), ops[i]? = some o → o.dst = some d → d < N
  uniq : ∀ (i j : Nat) (o p : Oper) (t : Nat), i ≠ j → ops[i]? = some o → ops[j]? = some p → p.dst = some t → o.dst ≠ some t
  looks : ∀ (i j : Nat) (o p : Oper) (t : Nat), i ≠ j → ops[i]? = some o → ops[j]? = some p → p.dst = some t → t ∈ o.looksAt ops → (j < i ∧ need j i) ∨ (i < j ∧ need i j)
  tail : ∀ i j : Nat, i < ops.size → j < i → m ≤ i → need j i ∨ lt j = true
  mains : ∀ i j : Nat, i < ops.size → j < i → i < m → mn i = true → mn j = true → need j i

/-- where things stand when the operations of E have been carried out -/
structure Stand (ops : Array Oper) (S : Nat → Prop) (w0 : World) (a0 : Act) (m : Nat) (φ : Nat → Fact) (Ψ : Nat → World → Prop) (mn : Nat → Bool) (need : Nat → Nat → Prop) (E : Nat → Prop) (a : Act) (g : Gh) (W : World) : Prop where
  size : a.tmps.size = a0.tmps.size
  defers : a.defers = a0.defers
  keeps : Keeps S w0 W
  gok : GOk w0 W g
  below : ∀ i, E i → i < m
  fact : ∀ i o d, E i → ops[i]? = some o → o.dst = some d → φ i g (sl a d) W
  rest : ∀ t, (∀ i o, E i → ops[i]? = some o → o.dst ≠ some t) → sl a t = sl a0 t
  closed : ∀ i j, E i → need j i → E j
  ψ : ∃ q, q ≤ m ∧ (∀ i, i < m → mn i = true → (E i ↔ i < q)) ∧ Ψ q W

variable {m N : Nat} {φ : Nat → Fact} {Γ : Nat → Ctx} {Ψ : Nat → World → Prop} {mn bx lt : Nat → Bool} {need : Nat → Nat → Prop}

theorem Book.look_some (bk : Book P ops S w0 a0 m φ Γ Ψ mn bx) : ∀ i, i ≤ m → ∀ t f, look (Γ i) t = some f → ∃ j o, j < i ∧ ops[j]? = some o ∧ o.dst = some t ∧ f = φ j := by
  intro i
  induction i with
  | zero => intro _ t f h; rw [bk.g0] at h; simp [look] at h
  | succ i ih =>
    intro hi t f h
    have hlt : i < ops.size := Nat.lt_of_lt_of_le hi bk.le
    have ho : ops[i]? = some ops[i] := by simp [hlt]
    rw [bk.gs i _ (by omega) ho] at h
    cases hd : ops[i].dst with
    | none => rw [hd] at h; simp only [look] at h; obtain ⟨j, o, h1, h2, h3, h4⟩ := ih (by omega) t f h; exact ⟨j, o, by omega, h2, h3, h4⟩
    | some d =>
      rw [hd] at h; simp only [look] at h
      by_cases hdt : d = t
      · subst hdt; simp at h; exact ⟨i, _, by omega, ho, hd, h.symm⟩
      · have : (d == t) = false := by simpa using hdt
        rw [this] at h; simp only [cond_false] at h
        obtain ⟨j, o, h1, h2, h3, h4⟩ := ih (by omega) t f h; exact ⟨j, o, by omega, h2, h3, h4⟩

theorem Book.look_none (bk : Book P ops S w0 a0 m φ Γ Ψ mn bx) : ∀ i, i ≤ m → ∀ t, look (Γ i) t = none → ∀ j o, j < i → ops[j]? = some o → o.dst ≠ some t := by
  intro i
  induction i with
  | zero => intro _ t _ j o hj; omega
  | succ i ih =>
    intro hi t h j o hj ho'
    have hlt : i < ops.size := Nat.lt_of_lt_of_le hi bk.le
    have ho : ops[i]? = some ops[i] := by simp [hlt]
    rw [bk.gs i _ (by omega) ho] at h
    cases hd : ops[i].dst with
    | none =>
      rw [hd] at h; simp only [look] at h
      rcases Nat.lt_succ_iff_lt_or_eq.1 hj with h1 | h1
      · exact ih (by omega) t h j o h1 ho'
      · subst h1; rw [ho] at ho'; cases ho'; rw [hd]; simp
    | some d =>
      rw [hd] at h; simp only [look] at h
      by_cases hdt : d = t
      · subst hdt; simp at h
      · have e : (d == t) = false := by simpa using hdt
        rw [e] at h; simp only [cond_false] at h
        rcases Nat.lt_succ_iff_lt_or_eq.1 hj with h1 | h1
        · exact ih (by omega) t h j o h1 ho'
        · subst h1; rw [ho] at ho'; cases ho'; rw [hd]; simpa using hdt

theorem env_of {Γ : Ctx} {a : Act} {g : Gh} {W : World} : ∀ ts : List Nat, (∀ t ∈ ts, (∀ f, look Γ t = some f → f g (sl a t) W) ∧ (look Γ t = none → sl a t = sl a0 t)) → Env Γ a0 a g W ts
  | [], _ => trivial
  | t :: ts, h => by
    refine ⟨?_, env_of ts fun u hu => h u (List.mem_cons_of_mem _ hu)⟩
    have := h t List.mem_cons_self
    cases hl : look Γ t with
    | none => exact this.2 hl
    | some f => exact this.1 f hl

theorem Stable.ext {S : Nat → Prop} {φ : Fact} (h : Stable S φ) : Stable All φ := ⟨fun g v W W' k hv => h.world g v W W' (.of_ext k) hv, h.ghost⟩
theorem Book.sfE (bk : Book P ops S w0 a0 m φ Γ Ψ mn bx) {j : Nat} (hj : j < m) : Stable All (φ j) := by
  rcases bk.sf j hj with h | h
  · exact h.ext
  · exact h.1

theorem Book.psi_eq (bk : Book P ops S w0 a0 m φ Γ Ψ mn bx) {q i : Nat} (hqi : q ≤ i) (him : i ≤ m) (h : ∀ j, q ≤ j → j < i → mn j = false) : Ψ i = Ψ q := by
  induction i with
  | zero => have : q = 0 := by omega
            subst this; rfl
  | succ i ih =>
    by_cases hq : q = i + 1
    · subst hq; rfl
    · rw [bk.ps i (by omega) (h i (by omega) (by omega))]
      exact ih (by omega) (by omega) fun j h1 h2 => h j h1 (by omega)

/-- one operation of the first part -/
theorem Book.stepR (bk : Book P ops S w0 a0 m φ Γ Ψ mn bx) (ft : Fits ops N m mn lt need) (hN : a0.tmps.size = N) {E : Nat → Prop} {a : Act} {g : Gh} {W : World} 
    (st : Stand ops S w0 a0 m φ Ψ mn need E a g W) {i : Nat} (him : i < m) (hiE : ¬ E i) (hneed : ∀ j, need j i → E j)
    {K : Act → World → Prop} (hK : ∀ a' g' W', Stand ops S w0 a0 m φ Ψ mn need (fun j => E j ∨ j = i) a' g' W' → K a' W') : ObRun P ops (ops[i]'(Nat.lt_of_lt_of_le him bk.le)) a W fun v W' => K (a.put (ops[i]'(Nat.lt_of_lt_of_le him bk.le)).dst v) W' := by
  have hlt : i < ops.size := Nat.lt_of_lt_of_le him bk.le
  have ho : ops[i]? = some ops[i] := by simp [hlt]
  have henv : Env (Γ i) a0 a g W ((ops[i]).looksAt ops) := by
    refine env_of _ fun t ht => ⟨fun f hf => ?_, fun hn => ?_⟩
    · obtain ⟨j, o, hj, hoj, hd, rfl⟩ := bk.look_some i (by omega) t f hf
      rcases ft.looks i j _ o t (by omega) ho hoj hd ht with h | h
      · exact st.fact j o t (hneed j h.2) hoj hd
      · omega
    · refine st.rest t fun j o hj hoj hd => ?_
      rcases Nat.lt_trichotomy j i with h | h | h
      · exact bk.look_none i (by omega) t hn j o h hoj hd
      · subst h; exact hiE hj
      · rcases ft.looks i j _ o t (by omega) ho hoj hd ht with h' | h'
        · omega
        · exact hiE (st.closed j i hj h'.2)
  have fin : ∀ v g' W', Keeps S W W' → GOk w0 W' g' → (∀ j, E j → ∀ u, φ j g u W → φ j g' u W') → φ i g' v W' → (∃ q, q ≤ m ∧ (∀ j, j < m → mn j = true → ((E j ∨ j = i) ↔ j < q)) ∧ Ψ q W') →
      K (a.put (ops[i]).dst v) W' := fun v g' W' hk hgo hmv hf hq => by
    refine hK _ g' _ ⟨put_size.trans st.size, put_defers.trans st.defers, st.keeps.trans hk, hgo, ?_, ?_, ?_, ?_, hq⟩
    · rintro j (hj | rfl)
      · exact st.below j hj
      · exact him
    · rintro j o d hj hoj hd
      rcases hj with hj | rfl
      · have hne : (ops[i]).dst ≠ some d := ft.uniq i j _ o d (fun e => hiE (e ▸ hj)) ho hoj hd
        rw [sl_put_ne hne]
        exact hmv j hj _ (st.fact j o d hj hoj hd)
      · rw [ho] at hoj; cases hoj
        rw [hd, sl_put_same (by rw [st.size, hN]; exact ft.inb j _ d ho hd)]
        exact hf
    · intro t ht
      rw [sl_put_ne (ht i _ (.inr rfl) ho)]
      exact st.rest t fun j o hj hoj => ht j o (.inl hj) hoj
    · rintro j k (hj | rfl) hn
      · exact .inl (st.closed j k hj hn)
      · exact .inl (hneed k hn)
  obtain ⟨q, hqm, hq, hψ⟩ := st.ψ
  cases hm : mn i with
  | false =>
    have hqq : ∀ j, j < m → mn j = true → ((E j ∨ j = i) ↔ j < q) := fun j hj hmj => by
      rw [← hq j hj hmj]
      exact ⟨fun h => h.resolve_right (fun e => by subst e; rw [hm] at hmj; cases hmj), fun h => Or.inl h⟩
    cases hb : bx i with
    | false =>
      exact (bk.side i _ him ho hm hb a g W st.keeps st.gok henv).mono fun v W' ⟨he, hf⟩ =>
        fin v g W' (.of_ext he) (st.gok.ext he) (fun j hj u hu => (bk.sfE (st.below j hj)).world _ _ _ _ he hu) hf ⟨q, hqm, hqq, bk.sp q hqm _ _ he hψ⟩
    | true =>
      obtain ⟨t, _, hbox⟩ := bk.box i _ him ho hm hb
      exact (hbox a g W st.keeps st.gok henv).mono fun v W' ⟨he, hs, hf⟩ =>
        fin v _ W' (.of_ext he) (st.gok.more st.keeps.size hs t) (fun j hj u hu => (bk.sfE (st.below j hj)).world _ _ _ _ he ((bk.sfE (st.below j hj)).ghost _ _ _ _ _ (Nat.le_refl _) hu)) hf ⟨q, hqm, hqq, bk.sp q hqm _ _ he hψ⟩
  | true =>
    have hqi : q ≤ i := by
      rcases Nat.lt_or_ge i q with h | h
      · exact absurd ((hq i him hm).2 h) hiE
      · exact h
    have hnone : ∀ j, q ≤ j → j < i → mn j = false := fun j h1 h2 => by
      cases hj : mn j with
      | false => rfl
      | true =>
        have := (hq j (by omega) hj).1 (hneed j (ft.mains i j hlt h2 him hm hj))
        omega
    rw [← bk.psi_eq hqi (by omega) hnone] at hψ
    refine (bk.main i _ him ho hm a g W st.keeps st.gok henv hψ).mono fun v W' ⟨hk, hf, hψ'⟩ => fin v g W' hk (st.gok.ext hk) (fun j hj u hu => by
      rcases bk.sf j (st.below j hj) with h | ⟨_, hmj, hno⟩
      · exact h.world _ _ _ _ hk hu
      · rcases Nat.lt_trichotomy i j with h | h | h
        · exact absurd (st.closed j i hj (ft.mains j i (Nat.lt_of_lt_of_le (st.below j hj) bk.le) h (st.below j hj) hmj hm)) hiE
        · subst h; exact absurd hj hiE
        · rw [hno i h him] at hm; cases hm) hf ⟨i + 1, by omega, fun j hj hmj => ?_, hψ'⟩
    constructor
    · rintro (h | rfl)
      · have := (hq j hj hmj).1 h; omega
      · omega
    · intro h
      rcases Nat.lt_succ_iff_lt_or_eq.1 h with h | h
      · exact .inl (hneed j (ft.mains i j hlt h him hm hmj))
      · exact .inr h

theorem Book.step (bk : Book P ops S w0 a0 m φ Γ Ψ mn bx) (ft : Fits ops N m mn lt need) (hN : a0.tmps.size = N) {E : Nat → Prop} {a : Act} {g : Gh} {W : World} {Q : Exit → Act → World → Prop}
    (st : Stand ops S w0 a0 m φ Ψ mn need E a g W) {i : Nat} (him : i < m) (hiE : ¬ E i) (hneed : ∀ j, need j i → E j)
    {K : Act → World → Prop} (hK : ∀ a' g' W', Stand ops S w0 a0 m φ Ψ mn need (fun j => E j ∨ j = i) a' g' W' → K a' W') : wpOp P ops Q i K a W := by
  have hlt : i < ops.size := Nat.lt_of_lt_of_le him bk.le
  exact (bk.stepR ft hN st him hiE hneed hK).wpOp (by simp [hlt]) fun v W' h => h

theorem stand_zero {W : World} (hk : Keeps S w0 W) (hψ : Ψ 0 W) : Stand ops S w0 a0 m φ Ψ mn need (fun _ => False) a0 [] W :=
  ⟨rfl, rfl, hk, ⟨fun _ _ h => by simp at h, fun _ _ h => by simp at h, fun _ _ _ h => by simp at h⟩, fun _ h => h.elim, fun _ _ _ h => h.elim, fun _ _ => rfl, fun _ _ h => h.elim, ⟨0, by omega, fun i _ _ => by simp, hψ⟩⟩

theorem Stand.congr {E E' : Nat → Prop} {a : Act} {g : Gh} {W : World} (h : Stand ops S w0 a0 m φ Ψ mn need E a g W) (he : ∀ i, E i ↔ E' i) : Stand ops S w0 a0 m φ Ψ mn need E' a g W := by
  have : E = E' := funext fun i => propext (he i)
  exact this ▸ h

/-- program order, as a tail -/
theorem Book.inOrderR (bk : Book P ops S w0 a0 m φ Γ Ψ mn bx) (ft : Fits ops N m mn lt (fun j i => j < i)) (hN : a0.tmps.size = N) {Q : Exit → Act → World → Prop}
    (fin : ∀ a g W, Stand ops S w0 a0 m φ Ψ mn (fun j i => j < i) (fun i => i < m) a g W → runTail P ops Q (ops.toList.drop m) a W) {W : World} (hk : Keeps S w0 W) (hψ : Ψ 0 W) :
    runTail P ops Q ops.toList a0 W := by
  have head : ∀ k i a g W, i + k = m → Stand ops S w0 a0 m φ Ψ mn (fun j i => j < i) (fun j => j < i) a g W → runTail P ops Q (ops.toList.drop i) a W := by
    intro k
    induction k with
    | zero =>
      intro i a g W hi st
      have : i = m := by omega
      subst this
      exact fin a g W st
    | succ k ih =>
      intro i a g W hi st
      have hlt : i < ops.size := by have := bk.le; omega
      rw [List.drop_eq_getElem_cons (by simpa using hlt)]
      have := bk.stepR ft hN st (i := i) (by omega) (by omega) (fun j h => h) (K := fun a' W' => runTail P ops Q (ops.toList.drop (i + 1)) a' W') fun a' g' W' st' => ih (i + 1) a' g' W' (by omega) (st'.congr fun j => by omega)
      simpa [runTail] using this
  have := head m 0 a0 [] W (by omega) ((stand_zero hk hψ).congr fun j => ⟨fun h => h.elim, fun h => by omega⟩)
  simpa using this
theorem runTail_free {P : Program} {ops ops' : Array Oper} {Q : Exit → Act → World → Prop} : ∀ (l : List Oper) (a : Act) (W : World), (∀ o ∈ l, o.guard.isNone = true) → runTail P ops Q l a W → runTail P ops' Q l a W
  | [], a, W, _, h => h
  | o :: r, a, W, hg, h => by
    have ho : o.guard = none := by simpa using hg o List.mem_cons_self
    have hw : ∀ y, Region.wanted o y = true := fun y => by simp [Region.wanted, ho]
    unfold runTail at h ⊢
    unfold ObRun at h ⊢
    rw [if_pos (hw _)] at h ⊢
    exact h.mono fun v W' h' => runTail_free r _ _ (fun o ho => hg o (List.mem_cons_of_mem _ ho)) h'
theorem runTail_app {P : Program} {ops : Array Oper} {Q : Exit → Act → World → Prop} {l2 : List Oper} : ∀ (l : List Oper) (a : Act) (W : World), runTail P ops (fun _ a W => runTail P ops Q l2 a W) l a W → runTail P ops Q (l ++ l2) a W
  | [], a, W, h => h
  | o :: r, a, W, h => by
    simp only [List.cons_append]
    unfold runTail at h ⊢
    exact h.mono fun v W' h' => runTail_app r _ _ h'
theorem wp_tail {P : Program} {id : Nat} {ops : Array Oper} {Q : Exit → Act → World → Prop} {a : Act} {W : World} (h : runTail P ops Q ops.toList a W) : (Code.region id ops false).wp P Q a W := by
  have tail : ∀ k i a W, i + k = ops.size → runTail P ops Q (ops.toList.drop i) a W → wpOps P ops Q (List.range' i k) a W := by
    intro k
    induction k with
    | zero => intro i a W hi h; rw [List.drop_eq_nil_of_le (by simp; omega)] at h; exact h
    | succ k ih =>
      intro i a W hi h
      have hlt : i < ops.size := by omega
      rw [List.drop_eq_getElem_cons (by simpa using hlt)] at h
      rw [List.range'_succ, wpOps_cons]
      exact ObRun.wpOp (o := ops[i]) (by simp [hlt]) h fun v W' hv => ih (i + 1) _ _ (by omega) hv
  refine wp_region ?_
  rw [List.range_eq_range']
  exact tail ops.size 0 a W (by omega) (by simpa using h)

/-- program order -/
theorem Book.inOrder (bk : Book P ops S w0 a0 m φ Γ Ψ mn bx) (ft : Fits ops N m mn lt (fun j i => j < i)) (hN : a0.tmps.size = N) {Q : Exit → Act → World → Prop}
    (fin : ∀ a g W, Stand ops S w0 a0 m φ Ψ mn (fun j i => j < i) (fun i => i < m) a g W → runTail P ops Q (ops.toList.drop m) a W) {W : World} (hk : Keeps S w0 W) (hψ : Ψ 0 W) :
    wpOps P ops Q (List.range ops.size) a0 W := by
  have tail : ∀ k i a W, i + k = ops.size → runTail P ops Q (ops.toList.drop i) a W → wpOps P ops Q (List.range' i k) a W := by
    intro k
    induction k with
    | zero => intro i a W hi h; rw [List.drop_eq_nil_of_le (by simp; omega)] at h; exact h
    | succ k ih =>
      intro i a W hi h
      have hlt : i < ops.size := by omega
      rw [List.drop_eq_getElem_cons (by simpa using hlt)] at h
      rw [List.range'_succ, wpOps_cons]
      exact ObRun.wpOp (o := ops[i]) (by simp [hlt]) h fun v W' hv => ih (i + 1) _ _ (by omega) hv
  have head : ∀ k i a g W, i + k = ops.size → i ≤ m → Stand ops S w0 a0 m φ Ψ mn (fun j i => j < i) (fun j => j < i) a g W → wpOps P ops Q (List.range' i k) a W := by
    intro k
    induction k with
    | zero =>
      intro i a g W hi him st
      have : i = m := by have := bk.le; omega
      subst this
      exact tail 0 i a W hi (fin a g W st)
    | succ k ih =>
      intro i a g W hi him st
      by_cases hm : i = m
      · subst hm; exact tail (k + 1) i a W hi (fin a g W st)
      · rw [List.range'_succ, wpOps_cons]
        exact bk.step ft hN st (by omega) (by omega) (fun j h => h) fun a' g' W' st' => ih (i + 1) a' g' W' (by omega) (by omega) (st'.congr fun j => by omega)
  rw [List.range_eq_range']
  exact head ops.size 0 a0 [] W (by omega) (by omega) ((stand_zero hk hψ).congr fun j => ⟨fun h => h.elim, fun h => by omega⟩)


theorem getD_or {l : Array Bool} {i j : Nat} (h : i < l.size) : ((l.setIfInBounds i true).getD j false = true) ↔ (l.getD j false = true ∨ j = i) := by
  by_cases hij : j = i
  · subst hij; simp [h]
  · simp only [Array.getD_eq_getD_getElem?, Array.getElem?_setIfInBounds_ne (Ne.symm hij), hij, or_false]

theorem ext_pure {o : Oper} {x : Operand} {n : Nat} {a : Act} {W : World} {R : Value → World → Prop} (hg : o.guard = none) (hop : o.op = .extract x n) (h : ObRun P ops o a W R) : ∃ v, Yields P ops o v a ∧ R v W := by
  have hw : Region.wanted o (yielded ops a.tmps) = true := by simp [Region.wanted, hg]
  unfold ObRun at h
  rw [if_pos hw] at h
  unfold OpRuns at h
  obtain ⟨d, op, ty, pos, af, gd⟩ := o
  subst hop
  cases hx : a.eval x with
  | tuple vs =>
    cases hv : vs[n]? with
    | none => simp [execOp, hx, Instr.extract, hv] at h
    | some v =>
      have he : ∀ w, (execOp a.eval ⟨d, .extract x n, ty, pos, af, gd⟩).run P w = .ok (.value v) w := fun w => by simp [execOp, hx, Instr.extract, hv]
      rw [he W] at h
      exact ⟨v, .inl ⟨hw, he⟩, h⟩
  | _ => simp [execOp, hx, Instr.extract] at h

/-- whatever order the edges allow -/
theorem Book.anyOrder (bk : Book P ops S w0 a0 m φ Γ Ψ mn bx) (ft : Fits ops N m mn lt need) (hN : a0.tmps.size = N) {Q : Exit → Act → World → Prop}
    (hed : ∀ (i : Nat) (o : Oper), ops[i]? = some o → ∀ e ∈ o.after.toList, Region.binds .any e = true → e.on < i)
    (hnd : ∀ listed : Array Bool, (∀ (i : Nat) (o : Oper), listed.getD i false = true → ops[i]? = some o → ∀ e ∈ o.after.toList, Region.binds .any e = true → listed.getD e.on false = true) →
      ∀ (i : Nat) (o : Oper), ops[i]? = some o → (∀ e ∈ o.after.toList, Region.binds .any e = true → listed.getD e.on false = true) → ∀ j, need j i → listed.getD j false = true)
    (hlt : ∀ l, lt l = true → ∃ o, ops[l]? = some o ∧ o.guard = none ∧ (∃ x n, o.op = .extract x n) ∧ l < m ∧ Region.noSelect ops = true ∧ (∃ ls : Array Bool, Region.free .any ops ls l = true ∧ ls.size = ops.size ∧ ∀ j, ls.getD j false = true → need j l) ∧
      ∀ e ∈ o.after.toList, Region.binds .any e = true → ∀ i, m ≤ i → i < ops.size → need e.on i)
    (hQ : ∀ c a w, ¬ Q (.panic c) a w)
    (fin : ∀ a g W, Stand ops S w0 a0 m φ Ψ mn need (fun i => i < m) a g W → runTail P ops Q (ops.toList.drop m) a W) {W : World} (hk : Keeps S w0 W) (hψ : Ψ 0 W) :
    wpAny P .any ops Q ops.size (Array.replicate ops.size false) a0 W := by
  have all_of : ∀ listed : Array Bool, listed.size = ops.size → Region.ready .any ops listed = [] → ∀ i, i < ops.size → listed.getD i false = true := by
    intro listed hs hr i
    induction i using Nat.strongRecOn with
    | _ i ih =>
      intro hi
      cases hl : listed.getD i false with
      | true => rfl
      | false =>
        have ho : ops[i]? = some ops[i] := by simp [hi]
        have : i ∈ Region.ready .any ops listed := by
          refine mem_ready.2 ⟨?_, _, ho, fun e he hb => ih e.on (hed i _ ho e (by simpa using he) hb) (Nat.lt_trans (hed i _ ho e (by simpa using he) hb) hi)⟩
          have h' : i < listed.size := by omega
          simp only [Array.getD, h', dif_pos] at hl ⊢
          exact hl
        rw [hr] at this; cases this
  have main : ∀ (fuel : Nat) (listed : Array Bool) (a : Act) (W : World), listed.size = ops.size →
      (∀ (i : Nat) (o : Oper), listed.getD i false = true → ops[i]? = some o → ∀ e ∈ o.after.toList, Region.binds .any e = true → listed.getD e.on false = true) →
      (listed.toList.countP (fun b => !b) ≤ fuel) →
      ((∃ g, Stand ops S w0 a0 m φ Ψ mn need (fun i => listed.getD i false = true) a g W) ∨
        ∃ k, m ≤ k ∧ (∀ i, listed.getD i false = true ↔ i < k) ∧ runTail P ops Q (ops.toList.drop k) a W) → wpAny P .any ops Q fuel listed a W := by
    intro fuel
    have isB : ∀ (listed : Array Bool) (a : Act) (W : World) (i : Nat), i < ops.size → m ≤ i → (∀ j, j < i → listed.getD j false = true) → listed.getD i false = false →
        ((∃ g, Stand ops S w0 a0 m φ Ψ mn need (fun i => listed.getD i false = true) a g W) ∨
          ∃ k, m ≤ k ∧ (∀ i, listed.getD i false = true ↔ i < k) ∧ runTail P ops Q (ops.toList.drop k) a W) →
        (∀ j, listed.getD j false = true ↔ j < i) ∧ runTail P ops Q (ops.toList.drop i) a W := by
      intro listed a W i hi hm hj hn h
      rcases h with ⟨g, st⟩ | ⟨k, hmk, hkk, ht⟩
      · have : i = m := by
          rcases Nat.lt_or_ge m i with h | h
          · have := st.below m (hj m h); omega
          · omega
        subst this
        have hE : ∀ j, listed.getD j false = true ↔ j < i := fun j => ⟨st.below j, hj j⟩
        exact ⟨hE, fin a g W (st.congr hE)⟩
      · have : i = k := by
          rcases Nat.lt_trichotomy i k with h | h | h
          · have := (hkk i).2 h; rw [hn] at this; cases this
          · exact h
          · have := (hkk k).1 (hj k h); omega
        subst this
        exact ⟨hkk, ht⟩
    have done : ∀ (listed : Array Bool) (a : Act) (W : World), (∀ i, i < ops.size → listed.getD i false = true) → listed.size = ops.size →
        ((∃ g, Stand ops S w0 a0 m φ Ψ mn need (fun i => listed.getD i false = true) a g W) ∨
          ∃ k, m ≤ k ∧ (∀ i, listed.getD i false = true ↔ i < k) ∧ runTail P ops Q (ops.toList.drop k) a W) → Q .normal a W := by
      intro listed a W hall hs h
      rcases h with ⟨g, st⟩ | ⟨k, hmk, hkk, ht⟩
      · have hm : m = ops.size := by
          rcases Nat.lt_or_ge m ops.size with h | h
          · have := st.below m (hall m h); omega
          · have := bk.le; omega
        have := fin a g W (st.congr fun j => ⟨st.below j, fun h => hall j (by omega)⟩)
        rw [List.drop_eq_nil_of_le (by simp; omega)] at this
        exact this
      · have : ops.size ≤ k := by
          rcases Nat.lt_or_ge k ops.size with h | h
          · have := (hkk k).1 (hall k h); omega
          · exact h
        rw [List.drop_eq_nil_of_le (by simpa using this)] at ht
        exact ht
    induction fuel with
    | zero =>
      intro listed a W hs _ hc h
      have hall : ∀ i, i < ops.size → listed.getD i false = true := by
        intro i hi
        have h0 : listed.toList.countP (fun b => !b) = 0 := by omega
        rw [List.countP_eq_zero] at h0
        have hi' : i < listed.size := by omega
        have := h0 listed[i] (by simp)
        simp only [Array.getD, hi', dif_pos]
        simpa using this
      refine ⟨?_, done listed a W hall hs h⟩
      cases hr : Region.ready .any ops listed with
      | nil => rfl
      | cons i rs =>
        have hi : i ∈ Region.ready .any ops listed := by rw [hr]; exact List.mem_cons_self
        obtain ⟨h0, o, ho, _⟩ := mem_ready.1 hi
        have hlt : i < ops.size := (Array.getElem?_eq_some_iff.1 ho).1
        have := hall i hlt
        have hi' : i < listed.size := by omega
        simp only [Array.getD, hi', dif_pos] at h0 this
        rw [h0] at this; cases this
    | succ fuel ih =>
      intro listed a W hs hdc hc h
      have one : ∀ i, i ∈ Region.ready .any ops listed → ∃ o, ops[i]? = some o ∧ i < listed.size ∧ listed.getD i false = false ∧ (∀ j, need j i → listed.getD j false = true) ∧
          (∀ (j : Nat) (p : Oper), (listed.setIfInBounds i true).getD j false = true → ops[j]? = some p → ∀ e ∈ p.after.toList, Region.binds .any e = true → (listed.setIfInBounds i true).getD e.on false = true) ∧
          (listed.setIfInBounds i true).toList.countP (fun b => !b) ≤ fuel := by
        intro i hi
        obtain ⟨h0, o, ho, hed'⟩ := mem_ready.1 hi
        have hlt : i < ops.size := (Array.getElem?_eq_some_iff.1 ho).1
        have hi' : i < listed.size := by omega
        have hn : listed.getD i false = false := by simp only [Array.getD, hi', dif_pos] at h0 ⊢; exact h0
        have hedl : ∀ e ∈ o.after.toList, Region.binds .any e = true → listed.getD e.on false = true := fun e he hb => hed' e (by simpa using he) hb
        have hneed := hnd listed hdc i o ho hedl
        have hdc' : ∀ (j : Nat) (p : Oper), (listed.setIfInBounds i true).getD j false = true → ops[j]? = some p → ∀ e ∈ p.after.toList, Region.binds .any e = true → (listed.setIfInBounds i true).getD e.on false = true := by
          intro j p hj hp e he hb
          rw [getD_or hi'] at hj ⊢
          rcases hj with hj | rfl
          · exact .inl (hdc j p hj hp e he hb)
          · rw [ho] at hp; cases hp; exact .inl (hedl e he hb)
        refine ⟨o, ho, hi', hn, hneed, hdc', ?_⟩
        have hg : listed.toList[i]'(by simpa using hi') = false := by
          simp only [Array.getD, hi', dif_pos] at hn; simpa using hn
        have e1 : listed.toList = listed.toList.take i ++ false :: listed.toList.drop (i + 1) := by
          conv => lhs; rw [← List.take_append_drop i listed.toList, List.drop_eq_getElem_cons (by simpa using hi'), hg]
        have e2 : (listed.setIfInBounds i true).toList = listed.toList.take i ++ true :: listed.toList.drop (i + 1) := by
          rw [Array.toList_setIfInBounds, List.set_eq_take_append_cons_drop, if_pos (by simpa using hi')]
        rw [e1] at hc
        rw [e2]
        simp only [List.countP_append, List.countP_cons, Bool.not_false, Bool.not_true, if_true] at hc ⊢
        simp at hc ⊢
        omega
      by_cases hL : ∃ l, lt l = true ∧ l ∈ Region.ready .any ops listed
      · obtain ⟨l, hll, hlr⟩ := hL
        obtain ⟨o, ho, hi', hn, hneed, hdc', hc'⟩ := one l hlr
        obtain ⟨o', ho', hg, ⟨x, n, hop⟩, hlm, hns, ⟨ls, hfr, hls, hln⟩, _⟩ := hlt l hll
        rw [ho] at ho'; cases ho'
        obtain ⟨g, st⟩ : ∃ g, Stand ops S w0 a0 m φ Ψ mn need (fun i => listed.getD i false = true) a g W := by
          rcases h with st | ⟨k, hmk, hkk, _⟩
          · exact st
          · have := (hkk l).2 (by omega); rw [hn] at this; cases this
        have hob := bk.stepR ft hN st hlm (by simp [hn]) hneed (K := fun a' W' => ∃ g', Stand ops S w0 a0 m φ Ψ mn need (fun j => listed.getD j false = true ∨ j = l) a' g' W') fun a' g' W' st' => ⟨g', st'⟩
        have hol : ops[l]'(Nat.lt_of_lt_of_le hlm bk.le) = o := by
          have := (Array.getElem?_eq_some_iff.1 ho).2; exact this
        rw [hol] at hob
        obtain ⟨v, hv, g', st'⟩ := ext_pure hg hop hob
        refine wpAny_first ho (Region.noSelect_spec hns) (fun c a w hp => absurd hp (hQ c _ w)) fuel listed a W (fun j oj hj hne hun hno => Region.free_spec ho hfr j oj hj hne (by
          have hjs := (Array.getElem?_eq_some_iff.1 hj).1
          have h1 : j < ls.size := by omega
          have h2 : j < listed.size := by omega
          cases hq : ls.getD j false with
          | true => have := hneed j (hln j hq); simp only [Array.getD, h2, dif_pos] at this hun; rw [this] at hun; cases hun
          | false => simp only [Array.getD, h1, dif_pos] at hq ⊢; exact hq) hno) hlr hv ?_
        exact ih _ _ W (by simpa using hs) hdc' hc' (.inl ⟨g', st'.congr fun j => (getD_or hi').symm⟩)
      refine ⟨fun hr => done listed a W (all_of listed hs hr) hs h, fun i hi => ?_⟩
      obtain ⟨h0, o, ho, hed'⟩ := mem_ready.1 hi
      have hlt' : i < ops.size := (Array.getElem?_eq_some_iff.1 ho).1
      have hi' : i < listed.size := by omega
      have hn : listed.getD i false = false := by simp only [Array.getD, hi', dif_pos] at h0 ⊢; exact h0
      have hedl : ∀ e ∈ o.after.toList, Region.binds .any e = true → listed.getD e.on false = true := fun e he hb => hed' e (by simpa using he) hb
      have hneed := hnd listed hdc i o ho hedl
      have hdc' : ∀ (j : Nat) (p : Oper), (listed.setIfInBounds i true).getD j false = true → ops[j]? = some p → ∀ e ∈ p.after.toList, Region.binds .any e = true → (listed.setIfInBounds i true).getD e.on false = true := by
        intro j p hj hp e he hb
        rw [getD_or hi'] at hj ⊢
        rcases hj with hj | rfl
        · exact .inl (hdc j p hj hp e he hb)
        · rw [ho] at hp; cases hp; exact .inl (hedl e he hb)
      have hc' : (listed.setIfInBounds i true).toList.countP (fun b => !b) ≤ fuel := by
        have hg : listed.toList[i]'(by simpa using hi') = false := by
          simp only [Array.getD, hi', dif_pos] at hn; simpa using hn
        have e1 : listed.toList = listed.toList.take i ++ false :: listed.toList.drop (i + 1) := by
          conv => lhs; rw [← List.take_append_drop i listed.toList, List.drop_eq_getElem_cons (by simpa using hi'), hg]
        have e2 : (listed.setIfInBounds i true).toList = listed.toList.take i ++ true :: listed.toList.drop (i + 1) := by
          rw [Array.toList_setIfInBounds, List.set_eq_take_append_cons_drop, if_pos (by simpa using hi')]
        rw [e1] at hc
        rw [e2]
        simp only [List.countP_append, List.countP_cons, Bool.not_false, Bool.not_true, if_true] at hc ⊢
        simp at hc ⊢
        omega
      by_cases him : i < m
      · obtain ⟨g, st⟩ : ∃ g, Stand ops S w0 a0 m φ Ψ mn need (fun i => listed.getD i false = true) a g W := by
          rcases h with st | ⟨k, hmk, hkk, _⟩
          · exact st
          · have := (hkk i).2 (by omega); rw [hn] at this; cases this
        exact bk.step ft hN st him (by simp [hn]) hneed fun a' g' W' st' =>
          ih _ a' W' (by simpa using hs) hdc' hc' (.inl ⟨g', st'.congr fun j => (getD_or hi').symm⟩)
      · have hj : ∀ j, j < i → listed.getD j false = true := fun j hj => by
          rcases ft.tail i j hlt' hj (by omega) with h1 | h1
          · exact hneed j h1
          · cases hl : listed.getD j false with
            | true => rfl
            | false =>
              obtain ⟨oj, hoj, _, _, _, _, _, hpre⟩ := hlt j h1
              refine absurd ⟨j, h1, mem_ready.2 ⟨?_, oj, hoj, fun e he hb => hneed e.on (hpre e (by simpa using he) hb i (by omega) hlt')⟩⟩ hL
              have h' : j < listed.size := by omega
              simp only [Array.getD, h', dif_pos] at hl ⊢
              exact hl
        obtain ⟨hE, ht⟩ := isB listed a W i hlt' (by omega) hj hn h
        rw [List.drop_eq_getElem_cons (by simpa using hlt')] at ht
        have ho' : ops[i] = o := by simpa [hlt'] using ho
        refine ObRun.wpOp ho (by rw [← ho']; exact ht) fun v W' hv => ih _ _ _ (by simpa using hs) hdc' hc' (.inr ⟨i + 1, by omega, fun j => ?_, by rw [← ho']; exact hv⟩)
        rw [getD_or hi', hE]; omega
  refine main ops.size _ a0 W (by simp) ?_ ?_ (.inl ⟨[], (stand_zero hk hψ).congr fun j => ?_⟩)
  · intro i o h
    simp only [Array.getD] at h
    split at h <;> simp at h
  · exact Nat.le_trans List.countP_le_length (by simp)
  · constructor
    · exact fun h => h.elim
    · intro h
      simp only [Array.getD] at h
      split at h <;> simp at h

/-- what is left, with a condition on the worlds in between -/
def runTailK (P : Program) (ops : Array Oper) (Q : Exit → Act → World → Prop) (I : World → Prop) : List Oper → Act → World → Prop
  | [], a, W => Q .normal a W
  | o :: r, a, W => ObRun P ops o a W fun v W' => I W' ∧ runTailK P ops Q I r (a.put o.dst v) W'

theorem eval_sl (a : Act) (t : Nat) : a.eval (.tmp t) = sl a t := rfl
theorem obrun_congr {o : Oper} {a b : Act} {W : World} {R : Value → World → Prop} (hg : o.guard = none) (hs : ∀ cs d, o.op ≠ .select cs d) (h : ∀ t ∈ o.looksAt ops, sl b t = sl a t) (hb : ObRun P ops o b W R) : ObRun P ops o a W R := by
  have w1 : Region.wanted o (yielded ops b.tmps) = true := by simp [Region.wanted, hg]
  have w2 : Region.wanted o (yielded ops a.tmps) = true := by simp [Region.wanted, hg]
  unfold ObRun at hb ⊢
  rw [if_pos w1] at hb; rw [if_pos w2]
  unfold OpRuns at hb ⊢
  have : execOp a.eval o = execOp b.eval o := execOp_congr o hs fun x hx => by
    cases x with
    | tmp t =>
      rw [eval_sl, eval_sl]
      exact (h t (List.mem_append_left _ (List.mem_filterMap.2 ⟨.tmp t, by simpa using hx, rfl⟩))).symm
    | _ => rfl
  rw [this]; exact hb

/-- a and b are one act but for the slots of late operations, which b has already -/
structure Agree (ops : Array Oper) (lt : Nat → Bool) (vL : Nat → Value) (E : Nat → Prop) (a b : Act) : Prop where
  size : b.tmps.size = a.tmps.size
  other : { b with tmps := a.tmps } = a
  same : ∀ t, (∀ l o, lt l = true → ¬ E l → ops[l]? = some o → o.dst ≠ some t) → sl b t = sl a t
  late : ∀ l o d, lt l = true → ¬ E l → ops[l]? = some o → o.dst = some d → sl b d = vL l

theorem Agree.eq {vL : Nat → Value} {E : Nat → Prop} {a b : Act} (h : Agree ops lt vL E a b) (hE : ∀ l, lt l = true → E l) : b = a := by
  have hs : ∀ t, sl b t = sl a t := fun t => h.same t fun l o hl hn => absurd (hE l hl) hn
  have : b.tmps = a.tmps := Array.ext h.size fun i h1 h2 => by
    have := hs i
    simpa [sl, Array.getD, h1, h2] using this
  rw [← h.other, ← this]

theorem Book.anyOrderL (bk : Book P ops S w0 a0 m φ Γ Ψ mn bx) (ft : Fits ops N m mn lt need) (hN : a0.tmps.size = N) {Q : Exit → Act → World → Prop} {vL : Nat → Value}
    (hed : ∀ (i : Nat) (o : Oper), ops[i]? = some o → ∀ e ∈ o.after.toList, Region.binds .any e = true → e.on < i)
    (hnd : ∀ listed : Array Bool, (∀ (i : Nat) (o : Oper), listed.getD i false = true → ops[i]? = some o → ∀ e ∈ o.after.toList, Region.binds .any e = true → listed.getD e.on false = true) →
      ∀ (i : Nat) (o : Oper), ops[i]? = some o → (∀ e ∈ o.after.toList, Region.binds .any e = true → listed.getD e.on false = true) → ∀ j, need j i → listed.getD j false = true)
    (hlt : ∀ l, lt l = true → ∃ o d, ops[l]? = some o ∧ o.dst = some d ∧ o.guard = none ∧ l < m ∧ (∀ j, ¬ need j l) ∧ (∀ t ∈ o.looksAt ops, ∀ (j : Nat) (p : Oper), ops[j]? = some p → p.dst ≠ some t) ∧
      (∀ (i : Nat) (p : Oper), m ≤ i → ops[i]? = some p → p.guard = none ∧ (∀ cs b, p.op ≠ .select cs b) ∧ (d ∈ p.looksAt ops → need l i)) ∧
      (∀ a W, Keeps S w0 W → (∀ t ∈ o.looksAt ops, sl a t = sl a0 t) → (execOp a.eval o).run P W = .ok (.value (vL l)) W))
    (hgd : ∀ (i : Nat) (p : Oper), m ≤ i → ops[i]? = some p → p.guard = none ∧ (∀ cs b, p.op ≠ .select cs b))
    (fin : ∀ a g W, Stand ops S w0 a0 m φ Ψ mn need (fun i => i < m) a g W → runTailK P ops Q (Keeps S w0) (ops.toList.drop m) a W) {W : World} (hk : Keeps S w0 W) (hψ : Ψ 0 W) :
    wpAny P .any ops Q ops.size (Array.replicate ops.size false) a0 W := by
  have all_of : ∀ listed : Array Bool, listed.size = ops.size → Region.ready .any ops listed = [] → ∀ i, i < ops.size → listed.getD i false = true := by
    intro listed hs hr i
    induction i using Nat.strongRecOn with
    | _ i ih =>
      intro hi
      cases hl : listed.getD i false with
      | true => rfl
      | false =>
        have ho : ops[i]? = some ops[i] := by simp [hi]
        have : i ∈ Region.ready .any ops listed := by
          refine mem_ready.2 ⟨?_, _, ho, fun e he hb => ih e.on (hed i _ ho e (by simpa using he) hb) (Nat.lt_trans (hed i _ ho e (by simpa using he) hb) hi)⟩
          have h' : i < listed.size := by omega
          simp only [Array.getD, h', dif_pos] at hl ⊢
          exact hl
        rw [hr] at this; cases this
  -- the late ones, taken ahead
  have virt : ∀ (E : Nat → Prop) (a : Act) (g : Gh) (W : World), Stand ops S w0 a0 m φ Ψ mn need E a g W → (∀ j, j < m → ¬ E j → lt j = true) →
      ∃ b g', Stand ops S w0 a0 m φ Ψ mn need (fun i => i < m) b g' W ∧ Agree ops lt vL E a b := by
    intro E a g W st hE
    have key : ∀ n, n ≤ m → ∃ b g', Stand ops S w0 a0 m φ Ψ mn need (fun i => E i ∨ i < n) b g' W ∧ Agree ops (fun l => lt l && decide (l < n)) vL E a b := by
      intro n
      induction n with
      | zero => intro _; exact ⟨a, g, st.congr fun i => by simp, rfl, rfl, fun _ _ => rfl, fun l o d hl => by simp at hl⟩
      | succ n ih =>
        intro hn
        obtain ⟨b, g', st', ag⟩ := ih (by omega)
        by_cases hEn : E n
        · refine ⟨b, g', st'.congr fun i => ⟨fun h => h.imp id (by omega), fun h => h.elim .inl fun h => ?_⟩, ag.size, ag.other, fun t ht => ag.same t fun l o hl hn' ho => ht l o (by simp at hl ⊢; exact ⟨hl.1, by omega⟩) hn' ho, fun l o d hl hn' ho hd => ag.late l o d (by
            simp at hl ⊢; refine ⟨hl.1, ?_⟩
            rcases Nat.lt_succ_iff_lt_or_eq.1 hl.2 with h | h
            · exact h
            · subst h; exact absurd hEn hn') hn' ho hd⟩
          rcases Nat.lt_succ_iff_lt_or_eq.1 h with h | h
          · exact .inr h
          · subst h; exact .inl hEn
        · have hln := hE n (by omega) hEn
          obtain ⟨o, d, ho, hd, hg, hlm, hno, hlk, _, hrun⟩ := hlt n hln
          have hob := bk.stepR ft hN st' hlm (by rintro (h | h); exact hEn h; omega) (fun j hj => absurd hj (hno j)) (K := fun a' W' => ∃ g', Stand ops S w0 a0 m φ Ψ mn need (fun j => (E j ∨ j < n) ∨ j = n) a' g' W') fun a' g' W' st'' => ⟨g', st''⟩
          have hol : ops[n]'(Nat.lt_of_lt_of_le hlm bk.le) = o := (Array.getElem?_eq_some_iff.1 ho).2
          rw [hol] at hob
          have hr := hrun b W st'.keeps fun t ht => st'.rest t fun i p hi hp => hlk t ht i p hp
          have hw : Region.wanted o (yielded ops b.tmps) = true := by simp [Region.wanted, hg]
          unfold ObRun at hob
          rw [if_pos hw] at hob
          unfold OpRuns at hob
          rw [hr] at hob
          obtain ⟨g'', st''⟩ := hob
          have hdlt : d < b.tmps.size := by rw [st'.size, hN]; exact ft.inb n o d ho hd
          rw [hd] at st''
          refine ⟨_, g'', st''.congr fun i => ⟨fun h => h.elim (fun h => h.imp id (by omega)) (fun h => .inr (by omega)), fun h => h.elim (fun h => .inl (.inl h)) fun h => ?_⟩, put_size.trans ag.size, ?_, fun t ht => ?_, fun l p e hl hn' hp he => ?_⟩
          · rcases Nat.lt_succ_iff_lt_or_eq.1 h with h | h
            · exact .inl (.inr h)
            · exact .inr h
          · have := ag.other; simp only [Act.put] at this ⊢; exact this
          · have hne : d ≠ t := fun e => ht n o (by simp [hln]) hEn ho (e ▸ hd)
            rw [sl_put_ne (by simpa using hne)]
            exact ag.same t fun l p hl hn' hp => ht l p (by simp at hl ⊢; exact ⟨hl.1, by omega⟩) hn' hp
          · simp at hl
            by_cases hln' : l = n
            · subst hln'; rw [ho] at hp; cases hp; rw [hd] at he; cases he
              exact sl_put_same hdlt
            · have hne : d ≠ e := fun e' => ft.uniq n l o p e (Ne.symm hln') ho hp he (e' ▸ hd)
              rw [sl_put_ne (by simpa using hne)]
              exact ag.late l p e (by simp [hl.1]; omega) hn' hp he
    obtain ⟨b, g', st', ag⟩ := key m (Nat.le_refl _)
    refine ⟨b, g', st'.congr fun i => ⟨fun h => h.elim (st.below i) id, .inr⟩, ag.size, ag.other, fun t ht => ag.same t fun l o hl => ht l o (by simp at hl; exact hl.1), fun l o d hl => ag.late l o d (by
      obtain ⟨_, _, _, _, _, hlm, _⟩ := hlt l hl
      simp [hl, hlm])⟩
  let Ph2 (listed : Array Bool) (a : Act) (W : World) : Prop := ∃ k b, m ≤ k ∧ (∀ i, listed.getD i false = true → i < k) ∧ (∀ i, i < k → listed.getD i false = false → lt i = true) ∧ runTailK P ops Q (Keeps S w0) (ops.toList.drop k) b W ∧ Keeps S w0 W ∧
    a.tmps.size = N ∧ (∀ t, (∀ (j : Nat) (p : Oper), ops[j]? = some p → p.dst ≠ some t) → sl a t = sl a0 t) ∧ Agree ops lt vL (fun i => listed.getD i false = true) a b
  have go : ∀ (listed : Array Bool) (a : Act) (g : Gh) (W : World), Stand ops S w0 a0 m φ Ψ mn need (fun i => listed.getD i false = true) a g W → (∀ j, j < m → listed.getD j false = false → lt j = true) → Ph2 listed a W := by
    intro listed a g W st hl
    obtain ⟨b, g', st', ag⟩ := virt _ a g W st fun j hj hn => hl j hj (by simpa using hn)
    exact ⟨m, b, Nat.le_refl _, st.below, hl, fin b g' W st', st.keeps, st.size.trans hN, fun t ht => st.rest t fun i p _ hp => ht i p hp, ag⟩
  have done : ∀ (listed : Array Bool) (a : Act) (W : World), (∀ i, i < ops.size → listed.getD i false = true) → Ph2 listed a W → Q .normal a W := by
    intro listed a W hall ⟨k, b, hmk, hkk, _, ht, _, _, _, ag⟩
    have hks : ops.size ≤ k := by
      rcases Nat.lt_or_ge k ops.size with h | h
      · have := hkk k (hall k h); omega
      · exact h
    rw [List.drop_eq_nil_of_le (by simpa using hks)] at ht
    have : b = a := ag.eq fun l hl => by
      obtain ⟨o, d, ho, _⟩ := hlt l hl
      exact hall l (Array.getElem?_eq_some_iff.1 ho).1
    subst this; exact ht
  have main : ∀ (fuel : Nat) (listed : Array Bool) (a : Act) (W : World), listed.size = ops.size →
      (∀ (i : Nat) (o : Oper), listed.getD i false = true → ops[i]? = some o → ∀ e ∈ o.after.toList, Region.binds .any e = true → listed.getD e.on false = true) →
      (listed.toList.countP (fun b => !b) ≤ fuel) →
      ((∃ g, Stand ops S w0 a0 m φ Ψ mn need (fun i => listed.getD i false = true) a g W) ∨ Ph2 listed a W) → wpAny P .any ops Q fuel listed a W := by
    intro fuel
    have fin2 : ∀ (listed : Array Bool) (a : Act) (W : World), (∀ i, i < ops.size → listed.getD i false = true) →
        ((∃ g, Stand ops S w0 a0 m φ Ψ mn need (fun i => listed.getD i false = true) a g W) ∨ Ph2 listed a W) → Q .normal a W := by
      intro listed a W hall h
      rcases h with ⟨g, st⟩ | h
      · exact done listed a W hall (go listed a g W st fun j hj hn => by
          have := hall j (Nat.lt_of_lt_of_le hj bk.le); rw [hn] at this; cases this)
      · exact done listed a W hall h
    induction fuel with
    | zero =>
      intro listed a W hs _ hc h
      have hall : ∀ i, i < ops.size → listed.getD i false = true := by
        intro i hi
        have h0 : listed.toList.countP (fun b => !b) = 0 := by omega
        rw [List.countP_eq_zero] at h0
        have hi' : i < listed.size := by omega
        have := h0 listed[i] (by simp)
        simp only [Array.getD, hi', dif_pos]
        simpa using this
      refine ⟨?_, fin2 listed a W hall h⟩
      cases hr : Region.ready .any ops listed with
      | nil => rfl
      | cons i rs =>
        have hi : i ∈ Region.ready .any ops listed := by rw [hr]; exact List.mem_cons_self
        obtain ⟨h0, o, ho, _⟩ := mem_ready.1 hi
        have hlt : i < ops.size := (Array.getElem?_eq_some_iff.1 ho).1
        have := hall i hlt
        have hi' : i < listed.size := by omega
        simp only [Array.getD, hi', dif_pos] at h0 this
        rw [h0] at this; cases this
    | succ fuel ih =>
      intro listed a W hs hdc hc h
      refine ⟨fun hr => fin2 listed a W (all_of listed hs hr) h, fun i hi => ?_⟩
      obtain ⟨h0, o, ho, hed'⟩ := mem_ready.1 hi
      have hlt' : i < ops.size := (Array.getElem?_eq_some_iff.1 ho).1
      have hi' : i < listed.size := by omega
      have hn : listed.getD i false = false := by simp only [Array.getD, hi', dif_pos] at h0 ⊢; exact h0
      have hedl : ∀ e ∈ o.after.toList, Region.binds .any e = true → listed.getD e.on false = true := fun e he hb => hed' e (by simpa using he) hb
      have hneed := hnd listed hdc i o ho hedl
      have hdc' : ∀ (j : Nat) (p : Oper), (listed.setIfInBounds i true).getD j false = true → ops[j]? = some p → ∀ e ∈ p.after.toList, Region.binds .any e = true → (listed.setIfInBounds i true).getD e.on false = true := by
        intro j p hj hp e he hb
        rw [getD_or hi'] at hj ⊢
        rcases hj with hj | rfl
        · exact .inl (hdc j p hj hp e he hb)
        · rw [ho] at hp; cases hp; exact .inl (hedl e he hb)
      have hc' : (listed.setIfInBounds i true).toList.countP (fun b => !b) ≤ fuel := by
        have hg : listed.toList[i]'(by simpa using hi') = false := by
          simp only [Array.getD, hi', dif_pos] at hn; simpa using hn
        have e1 : listed.toList = listed.toList.take i ++ false :: listed.toList.drop (i + 1) := by
          conv => lhs; rw [← List.take_append_drop i listed.toList, List.drop_eq_getElem_cons (by simpa using hi'), hg]
        have e2 : (listed.setIfInBounds i true).toList = listed.toList.take i ++ true :: listed.toList.drop (i + 1) := by
          rw [Array.toList_setIfInBounds, List.set_eq_take_append_cons_drop, if_pos (by simpa using hi')]
        rw [e1] at hc
        rw [e2]
        simp only [List.countP_append, List.countP_cons, Bool.not_false, Bool.not_true, if_true] at hc ⊢
        simp at hc ⊢
        omega
      have hoi : ops[i] = o := by simpa [hlt'] using ho
      by_cases him : i < m
      · rcases h with ⟨g, st⟩ | ⟨k, b, hmk, hkk, hun, ht, hkp, hsz, hbase, ag⟩
        · exact bk.step ft hN st him (by simp [hn]) hneed fun a' g' W' st' =>
            ih _ a' W' (by simpa using hs) hdc' hc' (.inl ⟨g', st'.congr fun j => (getD_or hi').symm⟩)
        · have hl := hun i (by omega) hn
          obtain ⟨o', d, ho', hd, hg, hlm, hno, hlk, _, hrun⟩ := hlt i hl
          rw [ho] at ho'; cases ho'
          have hr := hrun a W hkp fun t ht => hbase t fun j p hp => hlk t ht j p hp
          have hw : Region.wanted o (yielded ops a.tmps) = true := by simp [Region.wanted, hg]
          have hob : ObRun P ops o a W fun v W' => v = vL i ∧ W' = W := by
            unfold ObRun; rw [if_pos hw]; unfold OpRuns; rw [hr]; exact ⟨rfl, rfl⟩
          have hdlt : d < a.tmps.size := by rw [hsz]; exact ft.inb i o d ho hd
          refine ObRun.wpOp ho hob fun v W' ⟨hv, hW⟩ => ?_
          subst hv; subst hW
          refine ih _ _ _ (by simpa using hs) hdc' hc' (.inr ⟨k, b, hmk, fun j hj => ?_, fun j hj hjn => ?_, ht, hkp, put_size.trans hsz, fun t ht' => ?_, ?_, ?_, fun t ht' => ?_, fun l p e hl' hn' hp he => ?_⟩)
          · rw [getD_or hi'] at hj
            rcases hj with hj | rfl
            · exact hkk j hj
            · omega
          · refine hun j hj ?_
            cases hq : listed.getD j false with
            | false => rfl
            | true => have := (getD_or (i := i) (j := j) hi').2 (.inl hq); rw [hjn] at this; cases this
          · rw [sl_put_ne (fun e => ht' i o ho e)]; exact hbase t ht'
          · exact ag.size.trans put_size.symm
          · have := ag.other; rw [hd]; simp only [Act.put] at this ⊢
            rw [← this]
          · by_cases hdt : d = t
            · subst hdt
              rw [hd, sl_put_same hdlt]
              exact ag.late i o d hl (by simp [hn]) ho hd
            · rw [hd, sl_put_ne (by simpa using hdt)]
              refine ag.same t fun l p hl' hn' hp hpt => ?_
              by_cases hli : l = i
              · subst hli; rw [ho] at hp; cases hp; rw [hd] at hpt; exact hdt (Option.some.inj hpt)
              · exact ht' l p hl' (by rw [getD_or hi']; rintro (h | h); exact hn' h; exact hli h) hp hpt
          · exact ag.late l p e hl' (fun h => hn' ((getD_or hi').2 (.inl h))) hp he
      · have hj : ∀ j, j < i → listed.getD j false = false → lt j = true := fun j hj hjn => by
          rcases ft.tail i j hlt' hj (by omega) with h1 | h1
          · have := hneed j h1; rw [hjn] at this; cases this
          · exact h1
        have h2 : Ph2 listed a W := by
          rcases h with ⟨g, st⟩ | h
          · exact go listed a g W st fun j hjm hjn => hj j (by omega) hjn
          · exact h
        obtain ⟨k, b, hmk, hkk, hun, ht, hkp, hsz, hbase, ag⟩ := h2
        have hik : i = k := by
          rcases Nat.lt_trichotomy i k with h | h | h
          · have := hun i h hn
            obtain ⟨_, _, _, _, _, hlm, _⟩ := hlt i this
            omega
          · exact h
          · exfalso
            cases hq : listed.getD k false with
            | true => have := hkk k hq; omega
            | false =>
              have := hj k h hq
              obtain ⟨_, _, _, _, _, hlm, _⟩ := hlt k this
              omega
        subst hik
        rw [List.drop_eq_getElem_cons (by simpa using hlt')] at ht
        have ht' : ObRun P ops o b W fun v W' => Keeps S w0 W' ∧ runTailK P ops Q (Keeps S w0) (ops.toList.drop (i + 1)) (b.put o.dst v) W' := by
          have := ht; simp only [runTailK, Array.getElem_toList, hoi] at this; exact this
        obtain ⟨hg, hs'⟩ := hgd i o hmk ho
        have hlk : ∀ t ∈ o.looksAt ops, sl b t = sl a t := fun t htl => ag.same t fun l p hl' hn' hp hpt => by
          obtain ⟨o', d, ho', hd, _, _, _, _, hq, _⟩ := hlt l hl'
          rw [hp] at ho'; cases ho'
          rw [hpt] at hd; cases hd
          exact hn' (hneed l ((hq i o hmk ho).2.2 htl))
        refine ObRun.wpOp ho (obrun_congr hg hs' hlk ht') fun v W' ⟨hk', htl⟩ => ih _ _ _ (by simpa using hs) hdc' hc' (.inr ⟨i + 1, b.put o.dst v, by omega, fun j hj => ?_, fun j hj hjn => ?_, htl, hk', put_size.trans hsz, fun t ht' => ?_, ?_, ?_, fun t ht' => ?_, fun l p e hl' hn' hp he => ?_⟩)
        · rw [getD_or hi'] at hj
          rcases hj with hj | rfl
          · have := hkk j hj; omega
          · omega
        · have hq : listed.getD j false = false := by
            cases hq : listed.getD j false with
            | false => rfl
            | true => have := (getD_or (i := i) (j := j) hi').2 (.inl hq); rw [hjn] at this; cases this
          rcases Nat.lt_succ_iff_lt_or_eq.1 hj with h | h
          · exact hun j h hq
          · subst h; have := (getD_or (i := j) (j := j) hi').2 (.inr rfl); rw [hjn] at this; cases this
        · rw [sl_put_ne (fun e => ht' i o ho e)]; exact hbase t ht'
        · exact put_size.trans (ag.size.trans put_size.symm)
        · have h1 := ag.other
          cases hd : o.dst with
          | none => simpa [Act.put] using h1
          | some d => simp only [Act.put] at h1 ⊢; rw [← h1]
        · have hsm : (∀ l p, lt l = true → ¬ listed.getD l false = true → ops[l]? = some p → p.dst ≠ some t) := fun l p hl' hn' hp => ht' l p hl' (by
            rw [getD_or hi']; rintro (h | h)
            · exact hn' h
            · subst h
              obtain ⟨_, _, _, _, _, hlm, _⟩ := hlt l hl'
              omega) hp
          cases hd : o.dst with
          | none => exact ag.same t hsm
          | some d =>
            by_cases hdt : d = t
            · subst hdt
              rw [sl_put_same (by rw [ag.size, hsz]; exact ft.inb i o d ho hd), sl_put_same (by rw [hsz]; exact ft.inb i o d ho hd)]
            · rw [sl_put_ne (by simpa using hdt), sl_put_ne (by simpa using hdt)]; exact ag.same t hsm
        · have hli : l ≠ i := fun h => by
            subst h
            obtain ⟨_, _, _, _, _, hlm, _⟩ := hlt l hl'
            omega
          have hne : o.dst ≠ some e := ft.uniq i l o p e (Ne.symm hli) ho hp he
          rw [sl_put_ne hne]
          exact ag.late l p e hl' (fun h => hn' ((getD_or hi').2 (.inl h))) hp he
  refine main ops.size _ a0 W (by simp) ?_ ?_ (.inl ⟨[], (stand_zero hk hψ).congr fun j => ?_⟩)
  · intro i o h
    simp only [Array.getD] at h
    split at h <;> simp at h
  · exact Nat.le_trans List.countP_le_length (by simp)
  · constructor
    · exact fun h => h.elim
    · intro h
      simp only [Array.getD] at h
      split at h <;> simp at h

theorem mask_bit {B : Array Nat} {j : Nat} : ∀ (es : List Edge) (s : Nat), (es.foldl (fun s e => if Region.binds .any e then s ||| 2 ^ e.on ||| B.getD e.on 0 else s) s).testBit j = true →
    s.testBit j = true ∨ ∃ e ∈ es, Region.binds .any e = true ∧ (e.on = j ∨ (B.getD e.on 0).testBit j = true)
  | [], s, h => .inl h
  | e :: es, s, h => by
    rw [List.foldl_cons] at h
    rcases mask_bit es _ h with h | ⟨e', he', hb, hj⟩
    · by_cases hb : Region.binds .any e = true
      · rw [if_pos hb, Nat.testBit_or, Nat.testBit_or] at h
        simp only [Bool.or_eq_true] at h
        rcases h with (h | h) | h
        · exact .inl h
        · exact .inr ⟨e, List.mem_cons_self, hb, .inl (by rw [Nat.testBit_two_pow] at h; simpa using h)⟩
        · exact .inr ⟨e, List.mem_cons_self, hb, .inr h⟩
      · rw [if_neg hb] at h; exact .inl h
    · exact .inr ⟨e', List.mem_cons_of_mem _ he', hb, hj⟩

theorem chk_fits {drawn : Bool} {B : Array Nat} {ms : List Bool} {lt : Nat → Bool} (h : chkW lt drawn B N ops ms m = true) :
    Fits ops N m (fun i => ms.getD i false) lt (fun j i => nd drawn B j i = true) := by
  unfold chkW at h
  rw [List.all_eq_true] at h
  have get : ∀ i o, ops[i]? = some o → i < ops.size := fun i o ho => (Array.getElem?_eq_some_iff.1 ho).1
  have one : ∀ i o, ops[i]? = some o → (match o.dst with | some d => decide (d < N) | none => true) = true ∧
      ∀ j p, j ≠ i → ops[j]? = some p → (match p.dst with
            | none => true
            | some t => o.dst != some t && (!(o.looksAt ops).contains t || (if j < i then nd drawn B j i else nd drawn B i j))) = true ∧
          (!(decide (j < i) && decide (m ≤ i)) || nd drawn B j i || lt j) = true ∧
          (!(decide (j < i) && ms.getD i false && ms.getD j false) || nd drawn B j i) = true := by
    intro i o ho
    have hi := h i (List.mem_range.2 (get i o ho))
    simp only [ho, Bool.and_eq_true, List.all_eq_true, List.mem_range] at hi
    refine ⟨hi.1.1, fun j p hji hp => ?_⟩
    have hj := hi.2 j (get j p hp)
    have hne : (j == i) = false := by simpa using hji
    simp only [hne, Bool.false_or, hp, Bool.and_eq_true] at hj
    exact ⟨hj.1.1, hj.1.2, hj.2⟩
  refine ⟨fun i o d ho hd => ?_, fun i j o p t hij ho hp hd => ?_, fun i j o p t hij ho hp hd ht => ?_, fun i j hi hji hm => ?_, fun i j hi hji him h1 h2 => ?_⟩
  · have := (one i o ho).1
    rw [hd] at this; simpa using this
  · have := ((one i o ho).2 j p (Ne.symm hij) hp).1
    rw [hd] at this
    simp only [Bool.and_eq_true] at this
    simpa using this.1
  · have := ((one i o ho).2 j p (Ne.symm hij) hp).1
    rw [hd] at this
    simp only [Bool.and_eq_true, Bool.or_eq_true] at this
    have h2 := this.2.resolve_left (by simp [ht])
    split at h2
    · exact .inl ⟨by assumption, h2⟩
    · exact .inr ⟨by omega, h2⟩
  · have := ((one i ops[i] (by simp [hi])).2 j ops[j] (by omega) (by simp)).2.1
    simp only [hji, hm, decide_true, Bool.true_and, Bool.not_true, Bool.false_or, Bool.or_eq_true] at this
    exact this
  · have := ((one i ops[i] (by simp [hi])).2 j ops[j] (by omega) (by simp)).2.2
    simp only [hji, decide_true, Bool.true_and] at this
    rw [h1, h2] at this
    simpa using this

theorem late_spec {B : Array Nat} {l : Nat} (h : lateOk B ops m l = true) : ∃ o, ops[l]? = some o ∧ o.guard = none ∧ (∃ x n, o.op = .extract x n) ∧ l < m ∧ Region.noSelect ops = true ∧ (∃ ls : Array Bool, Region.free .any ops ls l = true ∧ ls.size = ops.size ∧ ∀ j, ls.getD j false = true → nd true B j l = true) ∧
      ∀ e ∈ o.after.toList, Region.binds .any e = true → ∀ i, m ≤ i → i < ops.size → nd true B e.on i = true := by
  unfold lateOk at h
  cases ho : ops[l]? with
  | none => rw [ho] at h; cases h
  | some o =>
    rw [ho] at h
    simp only [Bool.and_eq_true, decide_eq_true_eq, List.all_eq_true] at h
    obtain ⟨⟨⟨⟨⟨h1, h2⟩, h3⟩, h4⟩, h5⟩, h6⟩ := h
    refine ⟨o, rfl, by simpa using h1, ?_, h3, h4, ⟨_, h5, by simp, fun j hj => ?_⟩, fun e he hb i hmi hi => ?_⟩
    · cases hop : o.op <;> rw [hop] at h2 <;> simp at h2
      exact ⟨_, _, rfl⟩
    · simp only [Array.getD] at hj
      split at hj
      · simpa using hj
      · cases hj
    · have := h6 e he
      rw [hb] at this
      simp only [Bool.not_true, Bool.false_or, List.all_eq_true, List.mem_range] at this
      have := this i hi
      simpa [hmi] using this

theorem chk_edges {B : Array Nat} {ms : List Bool} {lt : Nat → Bool} (h : chkW lt true B N ops ms m = true) (i : Nat) (o : Oper) (ho : ops[i]? = some o) :
    B.getD i 0 = maskOf B o.after.toList ∧ ∀ e ∈ o.after.toList, Region.binds .any e = true → e.on < i := by
  unfold chkW at h
  rw [List.all_eq_true] at h
  have hi := h i (List.mem_range.2 (Array.getElem?_eq_some_iff.1 ho).1)
  simp only [ho, Bool.and_eq_true, Bool.not_true, Bool.false_or, beq_iff_eq, List.all_eq_true] at hi
  exact ⟨hi.1.2.1, fun e he hb => by have := hi.1.2.2 e he; rw [hb] at this; simpa using this⟩

theorem need_listed {B : Array Nat} {ms : List Bool} {lt : Nat → Bool} (h : chkW lt true B N ops ms m = true) (listed : Array Bool)
    (hdc : ∀ (i : Nat) (o : Oper), listed.getD i false = true → ops[i]? = some o → ∀ e ∈ o.after.toList, Region.binds .any e = true → listed.getD e.on false = true) :
    ∀ (i : Nat) (o : Oper), ops[i]? = some o → (∀ e ∈ o.after.toList, Region.binds .any e = true → listed.getD e.on false = true) → ∀ j, nd true B j i = true → listed.getD j false = true := by
  intro i
  induction i using Nat.strongRecOn with
  | _ i ih =>
    intro o ho hed j hj
    obtain ⟨he, hlt⟩ := chk_edges h i o ho
    simp only [nd, if_true] at hj
    rw [he] at hj
    rcases mask_bit _ _ hj with h0 | ⟨e, hem, hb, h1⟩
    · simp at h0
    · have hel := hed e hem hb
      rcases h1 with h1 | h1
      · exact h1 ▸ hel
      · have hlt' := hlt e hem hb
        have hes : e.on < ops.size := Nat.lt_trans hlt' (Array.getElem?_eq_some_iff.1 ho).1
        exact ih e.on hlt' ops[e.on] (by simp [hes]) (hdc e.on _ hel (by simp [hes])) j (by simp only [nd, if_true]; exact h1)

end

/-- THE CHAIN: the operations one by one; K says what is left when the first part is done; the Bool: no more operations that write -/
inductive Chain (P : Program) (ops : Array Oper) (S : Nat → Prop) (w0 : World) (a0 : Act) (K : List Oper → Ctx → (World → Prop) → List Bool → Prop) : Bool → List Oper → Ctx → (World → Prop) → List Bool → Prop where
  | done {f : Bool} {l : List Oper} {Γ : Ctx} {Ψ : World → Prop} {ms : List Bool} : K l Γ Ψ ms → Chain P ops S w0 a0 K f l Γ Ψ ms
  | side {f : Bool} {o : Oper} {l : List Oper} {Γ : Ctx} {Ψ : World → Prop} {ms : List Bool} (φ : Fact) : Stable S φ →
      (∀ a g W, Keeps S w0 W → GOk w0 W g → Env Γ a0 a g W (o.looksAt ops) → ObRun P ops o a W fun v W' => Ext W W' ∧ φ g v W') →
      Chain P ops S w0 a0 K f l ((o.dst, φ) :: Γ) Ψ (false :: ms) → Chain P ops S w0 a0 K f (o :: l) Γ Ψ ms
  | box {f : Bool} {o : Oper} {l : List Oper} {Γ : Ctx} {Ψ : World → Prop} {ms : List Bool} (φ : Fact) (t : Nat) : Stable S φ → o.dst = some t →
      (∀ a g W, Keeps S w0 W → GOk w0 W g → Env Γ a0 a g W (o.looksAt ops) → ObRun P ops o a W fun v W' => Ext W W' ∧ W.heap.size < W'.heap.size ∧ φ ((t, W.heap.size) :: g) v W') →
      Chain P ops S w0 a0 K f l ((o.dst, φ) :: Γ) Ψ (false :: ms) → Chain P ops S w0 a0 K f (o :: l) Γ Ψ ms
  | main {o : Oper} {l : List Oper} {Γ : Ctx} {Ψ : World → Prop} {ms : List Bool} (φ : Fact) (Ψ' : World → Prop) : Stable S φ → StableE Ψ' →
      (∀ a g W, Keeps S w0 W → GOk w0 W g → Env Γ a0 a g W (o.looksAt ops) → Ψ W → ObRun P ops o a W fun v W' => Keeps S W W' ∧ φ g v W' ∧ Ψ' W') →
      Chain P ops S w0 a0 K false l ((o.dst, φ) :: Γ) Ψ' (true :: ms) → Chain P ops S w0 a0 K false (o :: l) Γ Ψ ms
  | last {o : Oper} {l : List Oper} {Γ : Ctx} {Ψ : World → Prop} {ms : List Bool} (φ : Fact) (Ψ' : World → Prop) : Stable All φ → StableE Ψ' →
      (∀ a g W, Keeps S w0 W → GOk w0 W g → Env Γ a0 a g W (o.looksAt ops) → Ψ W → ObRun P ops o a W fun v W' => Keeps S W W' ∧ φ g v W' ∧ Ψ' W') →
      Chain P ops S w0 a0 K true l ((o.dst, φ) :: Γ) Ψ' (true :: ms) → Chain P ops S w0 a0 K false (o :: l) Γ Ψ ms

section
variable {P : Program} {ops : Array Oper} {S : Nat → Prop} {w0 : World} {a0 : Act} {K : List Oper → Ctx → (World → Prop) → List Bool → Prop}

/-- a function with one value more -/
def upd {α : Type} (f : Nat → α) (i : Nat) (x : α) : Nat → α := fun j => if j = i then x else f j
theorem upd_same {α : Type} (f : Nat → α) (i : Nat) (x : α) : upd f i x i = x := if_pos rfl
theorem upd_ne {α : Type} {f : Nat → α} {i : Nat} {x : α} {j : Nat} (h : j ≠ i) : upd f i x j = f j := if_neg h

theorem Book.more {i : Nat} {φ : Nat → Fact} {Γ : Nat → Ctx} {Ψ : Nat → World → Prop} {mn bx : Nat → Bool} (bk : Book P ops S w0 a0 i φ Γ Ψ mn bx) {o : Oper} (ho : ops[i]? = some o)
    {f : Fact} {Ψ' : World → Prop} {b c : Bool} (hs : Stable S f ∨ (Stable All f ∧ b = true)) (hold : b = true → ∀ j, j < i → Stable S (φ j)) (hp : StableE Ψ') (hb : b = false → Ψ' = Ψ i)
    (hside : b = false → c = false → ∀ a g W, Keeps S w0 W → GOk w0 W g → Env (Γ i) a0 a g W (o.looksAt ops) → ObRun P ops o a W fun v W' => Ext W W' ∧ f g v W')
    (hbox : b = false → c = true → ∃ t, o.dst = some t ∧ ∀ a g W, Keeps S w0 W → GOk w0 W g → Env (Γ i) a0 a g W (o.looksAt ops) → ObRun P ops o a W fun v W' => Ext W W' ∧ W.heap.size < W'.heap.size ∧ f ((t, W.heap.size) :: g) v W')
    (hmain : b = true → ∀ a g W, Keeps S w0 W → GOk w0 W g → Env (Γ i) a0 a g W (o.looksAt ops) → Ψ i W → ObRun P ops o a W fun v W' => Keeps S W W' ∧ f g v W' ∧ Ψ' W') :
    Book P ops S w0 a0 (i + 1) (upd φ i f) (upd Γ (i + 1) ((o.dst, f) :: Γ i)) (upd Ψ (i + 1) Ψ') (upd mn i b) (upd bx i c) := by
  have hi : i < ops.size := (Array.getElem?_eq_some_iff.1 ho).1
  refine ⟨hi, ?_, ?_, ?_, ?_, ?_, ?_, ?_, ?_⟩
  · rw [upd_ne (by omega)]; exact bk.g0
  · intro j p hj hp'
    by_cases hji : j = i
    · subst hji; rw [ho] at hp'; cases hp'
      rw [upd_same, upd_same, upd_ne (by omega)]
    · rw [upd_ne (by omega), upd_ne hji, upd_ne (by omega)]; exact bk.gs j p (by omega) hp'
  · intro j hj hm
    by_cases hji : j = i
    · subst hji; rw [upd_same] at hm; rw [upd_same, upd_ne (by omega)]; exact hb hm
    · rw [upd_ne hji] at hm; rw [upd_ne (by omega), upd_ne (by omega)]; exact bk.ps j (by omega) hm
  · intro j hj
    by_cases hji : j = i
    · subst hji; rw [upd_same, upd_same]
      rcases hs with hs | ⟨hs, hb'⟩
      · exact .inl hs
      · exact .inr ⟨hs, hb', fun k h1 h2 => by omega⟩
    · rw [upd_ne hji, upd_ne hji]
      rcases bk.sf j (by omega) with h | ⟨h1, h2, h3⟩
      · exact .inl h
      · by_cases hbb : b = true
        · exact .inl (hold hbb j (by omega))
        · refine .inr ⟨h1, h2, fun k hk1 hk2 => ?_⟩
          by_cases hki : k = i
          · subst hki; rw [upd_same]; simpa using hbb
          · rw [upd_ne hki]; exact h3 k hk1 (by omega)
  · intro j hj
    by_cases hji : j = i + 1
    · subst hji; rw [upd_same]; exact hp
    · rw [upd_ne hji]; exact bk.sp j (by omega)
  · intro j p hj hp' hm hc
    by_cases hji : j = i
    · subst hji; rw [ho] at hp'; cases hp'
      rw [upd_same] at hm hc; rw [upd_same, upd_ne (by omega)]; exact hside hm hc
    · rw [upd_ne hji] at hm hc; rw [upd_ne hji, upd_ne (by omega)]; exact bk.side j p (by omega) hp' hm hc
  · intro j p hj hp' hm hc
    by_cases hji : j = i
    · subst hji; rw [ho] at hp'; cases hp'
      rw [upd_same] at hm hc; rw [upd_same, upd_ne (by omega)]; exact hbox hm hc
    · rw [upd_ne hji] at hm hc; rw [upd_ne hji, upd_ne (by omega)]; exact bk.box j p (by omega) hp' hm hc
  · intro j p hj hp' hm
    by_cases hji : j = i
    · subst hji; rw [ho] at hp'; cases hp'
      rw [upd_same] at hm; rw [upd_same, upd_same, upd_ne (by omega), upd_ne (by omega)]; exact hmain hm
    · rw [upd_ne hji] at hm; rw [upd_ne hji, upd_ne (by omega), upd_ne (by omega), upd_ne (by omega)]; exact bk.main j p (by omega) hp' hm

theorem Chain.out {fl : Bool} {l : List Oper} {G : Ctx} {Y : World → Prop} {ms : List Bool} (h : Chain P ops S w0 a0 K fl l G Y ms) :
    ∀ (φ : Nat → Fact) (Γ : Nat → Ctx) (Ψ : Nat → World → Prop) (mn bx : Nat → Bool), Book P ops S w0 a0 ms.length φ Γ Ψ mn bx → Γ ms.length = G → Ψ ms.length = Y → l = ops.toList.drop ms.length →
      (∀ j, j < ms.length → mn j = ms.reverse.getD j false) → (fl = false → ∀ j, j < ms.length → Stable S (φ j)) →
      ∃ (m : Nat) (φ : Nat → Fact) (Γ : Nat → Ctx) (Ψ' : Nat → World → Prop) (mn bx : Nat → Bool) (ms' : List Bool), Book P ops S w0 a0 m φ Γ Ψ' mn bx ∧ K (ops.toList.drop m) (Γ m) (Ψ' m) ms' ∧ ms'.length = m ∧
        (∀ j, j < m → mn j = ms'.reverse.getD j false) ∧ Ψ' 0 = Ψ 0 := by
  induction h with
  | done hk => intro φ Γ Ψ mn bx bk hg hy hl hm hfl; subst hg; subst hy; exact ⟨_, φ, Γ, Ψ, mn, bx, _, bk, hl ▸ hk, rfl, hm, rfl⟩
  | @side fl o l G Y ms f hs hrun _ ih =>
    intro φ Γ Ψ mn bx bk hg hy hl hm hfl
    have hlt : ms.length < ops.size := by
      rcases Nat.lt_or_ge ms.length ops.size with h | h
      · exact h
      · rw [List.drop_eq_nil_of_le (by simpa using h)] at hl; cases hl
    rw [List.drop_eq_getElem_cons (by simpa using hlt)] at hl
    injection hl with h1 h2
    have ho : ops[ms.length]? = some o := by rw [h1]; simp [hlt]
    obtain ⟨m, φ', Γ', Ψ', mn', bx', ms', h1, h2, h3, h4, h5⟩ := ih _ _ _ _ _ (bk.more (b := false) (c := false) ho (.inl hs) (fun h => by cases h) (bk.sp _ (Nat.le_refl _)) (fun _ => rfl) (fun _ _ => by rw [hg]; exact hrun) (fun _ h => by cases h) (fun h => by cases h)) (by simp [upd, hg]) (by simp [upd, hy]) h2 (by
      intro j hj
      simp only [List.length_cons] at hj
      by_cases hji : j = ms.length
      · subst hji; rw [upd_same]; simp [List.getD]
      · rw [upd_ne hji, hm j (by omega), List.reverse_cons]
        simp only [List.getD]; rw [List.getElem?_append_left (by simp; omega)]) (by
      intro hf j hj
      simp only [List.length_cons] at hj
      by_cases hji : j = ms.length
      · subst hji; rw [upd_same]; exact hs
      · rw [upd_ne hji]; exact hfl hf j (by omega))
    exact ⟨m, φ', Γ', Ψ', mn', bx', ms', h1, h2, h3, h4, by rw [h5, upd_ne (by omega)]⟩
  | @box fl o l G Y ms f t hs ht hrun _ ih =>
    intro φ Γ Ψ mn bx bk hg hy hl hm hfl
    have hlt : ms.length < ops.size := by
      rcases Nat.lt_or_ge ms.length ops.size with h | h
      · exact h
      · rw [List.drop_eq_nil_of_le (by simpa using h)] at hl; cases hl
    rw [List.drop_eq_getElem_cons (by simpa using hlt)] at hl
    injection hl with h1 h2
    have ho : ops[ms.length]? = some o := by rw [h1]; simp [hlt]
    obtain ⟨m, φ', Γ', Ψ', mn', bx', ms', h1, h2, h3, h4, h5⟩ := ih _ _ _ _ _ (bk.more (b := false) (c := true) ho (.inl hs) (fun h => by cases h) (bk.sp _ (Nat.le_refl _)) (fun _ => rfl) (fun _ h => by cases h) (fun _ _ => ⟨t, ht, by rw [hg]; exact hrun⟩) (fun h => by cases h)) (by simp [upd, hg]) (by simp [upd, hy]) h2 (by
      intro j hj
      simp only [List.length_cons] at hj
      by_cases hji : j = ms.length
      · subst hji; rw [upd_same]; simp [List.getD]
      · rw [upd_ne hji, hm j (by omega), List.reverse_cons]
        simp only [List.getD]; rw [List.getElem?_append_left (by simp; omega)]) (by
      intro hf j hj
      simp only [List.length_cons] at hj
      by_cases hji : j = ms.length
      · subst hji; rw [upd_same]; exact hs
      · rw [upd_ne hji]; exact hfl hf j (by omega))
    exact ⟨m, φ', Γ', Ψ', mn', bx', ms', h1, h2, h3, h4, by rw [h5, upd_ne (by omega)]⟩
  | @main o l G Y ms f Y' hs hsy hrun _ ih =>
    intro φ Γ Ψ mn bx bk hg hy hl hm hfl
    have hlt : ms.length < ops.size := by
      rcases Nat.lt_or_ge ms.length ops.size with h | h
      · exact h
      · rw [List.drop_eq_nil_of_le (by simpa using h)] at hl; cases hl
    rw [List.drop_eq_getElem_cons (by simpa using hlt)] at hl
    injection hl with h1 h2
    have ho : ops[ms.length]? = some o := by rw [h1]; simp [hlt]
    obtain ⟨m, φ', Γ', Ψ', mn', bx', ms', h1, h2, h3, h4, h5⟩ := ih _ _ _ _ _ (bk.more (b := true) (c := false) ho (.inl hs) (fun _ => hfl rfl) hsy (fun h => by cases h) (fun h => by cases h) (fun h => by cases h) (fun _ => by rw [hg, hy]; exact hrun)) (by simp [upd, hg]) (by simp [upd]) h2 (by
      intro j hj
      simp only [List.length_cons] at hj
      by_cases hji : j = ms.length
      · subst hji; rw [upd_same]; simp [List.getD]
      · rw [upd_ne hji, hm j (by omega), List.reverse_cons]
        simp only [List.getD]; rw [List.getElem?_append_left (by simp; omega)]) (by
      intro hf j hj
      simp only [List.length_cons] at hj
      by_cases hji : j = ms.length
      · subst hji; rw [upd_same]; exact hs
      · rw [upd_ne hji]; exact hfl hf j (by omega))
    exact ⟨m, φ', Γ', Ψ', mn', bx', ms', h1, h2, h3, h4, by rw [h5, upd_ne (by omega)]⟩
  | @last o l G Y ms f Y' hs hsy hrun _ ih =>
    intro φ Γ Ψ mn bx bk hg hy hl hm hfl
    have hlt : ms.length < ops.size := by
      rcases Nat.lt_or_ge ms.length ops.size with h | h
      · exact h
      · rw [List.drop_eq_nil_of_le (by simpa using h)] at hl; cases hl
    rw [List.drop_eq_getElem_cons (by simpa using hlt)] at hl
    injection hl with h1 h2
    have ho : ops[ms.length]? = some o := by rw [h1]; simp [hlt]
    obtain ⟨m, φ', Γ', Ψ', mn', bx', ms', h1, h2, h3, h4, h5⟩ := ih _ _ _ _ _ (bk.more (b := true) (c := false) ho (.inr ⟨hs, rfl⟩) (fun _ => hfl rfl) hsy (fun h => by cases h) (fun h => by cases h) (fun h => by cases h) (fun _ => by rw [hg, hy]; exact hrun)) (by simp [upd, hg]) (by simp [upd]) h2 (by
      intro j hj
      simp only [List.length_cons] at hj
      by_cases hji : j = ms.length
      · subst hji; rw [upd_same]; simp [List.getD]
      · rw [upd_ne hji, hm j (by omega), List.reverse_cons]
        simp only [List.getD]; rw [List.getElem?_append_left (by simp; omega)]) (fun h => by cases h)
    exact ⟨m, φ', Γ', Ψ', mn', bx', ms', h1, h2, h3, h4, by rw [h5, upd_ne (by omega)]⟩

/-- what is to be shown when the first part is done -/
structure Fin (P : Program) (ops : Array Oper) (Q : Exit → Act → World → Prop) (S : Nat → Prop) (w0 : World) (a0 : Act) (drawn : Bool) (N : Nat) (l : List Oper) (Γ : Ctx) (Ψ : World → Prop) (ms : List Bool) : Prop where
  ok : chk drawn (Region.before ops) N ops ms.reverse ms.length = true
  go : ∀ a g W, a.tmps.size = N → a.defers = [] → Keeps S w0 W → GOk w0 W g → EnvAll a g W Γ → (∀ t, notIn Γ t = true → sl a t = sl a0 t) → Ψ W → runTail P ops Q l a W

theorem envAll_of {m : Nat} {φ : Nat → Fact} {Γ : Nat → Ctx} {Ψ : Nat → World → Prop} {mn bx : Nat → Bool} {need : Nat → Nat → Prop} (bk : Book P ops S w0 a0 m φ Γ Ψ mn bx) {a : Act} {g : Gh} {W : World}
    (st : Stand ops S w0 a0 m φ Ψ mn need (fun i => i < m) a g W) : ∀ i, i ≤ m → EnvAll a g W (Γ i) := by
  intro i
  induction i with
  | zero => intro _; rw [bk.g0]; trivial
  | succ i ih =>
    intro hi
    have hlt : i < ops.size := Nat.lt_of_lt_of_le hi bk.le
    have ho : ops[i]? = some ops[i] := by simp [hlt]
    rw [bk.gs i _ hi ho]
    cases hd : ops[i].dst with
    | none => exact ih (by omega)
    | some d => exact ⟨st.fact i _ d hi ho hd, ih (by omega)⟩

theorem notIn_of {m : Nat} {φ : Nat → Fact} {Γ : Nat → Ctx} {Ψ : Nat → World → Prop} {mn bx : Nat → Bool} (bk : Book P ops S w0 a0 m φ Γ Ψ mn bx) {t : Nat} : ∀ i, i ≤ m → notIn (Γ i) t = true → ∀ (j : Nat) (o : Oper), j < i → ops[j]? = some o → o.dst ≠ some t := by
  intro i
  induction i with
  | zero => intro _ _ j o hj; omega
  | succ i ih =>
    intro hi h j o hj hoj
    have hlt : i < ops.size := Nat.lt_of_lt_of_le hi bk.le
    have ho : ops[i]? = some ops[i] := by simp [hlt]
    rw [bk.gs i _ hi ho] at h
    cases hd : ops[i].dst with
    | none =>
      rw [hd] at h; simp only [notIn] at h
      rcases Nat.lt_succ_iff_lt_or_eq.1 hj with h1 | h1
      · exact ih (by omega) h j o h1 hoj
      · subst h1; rw [ho] at hoj; cases hoj; rw [hd]; simp
    | some d =>
      rw [hd] at h; simp only [notIn, Bool.and_eq_true] at h
      rcases Nat.lt_succ_iff_lt_or_eq.1 hj with h1 | h1
      · exact ih (by omega) h.2 j o h1 hoj
      · subst h1; rw [ho] at hoj; cases hoj; rw [hd]; simpa using h.1

theorem Stand.go {m N : Nat} {φ : Nat → Fact} {Γ : Nat → Ctx} {Ψ : Nat → World → Prop} {mn bx : Nat → Bool} {need : Nat → Nat → Prop} {Q : Exit → Act → World → Prop} {drawn : Bool} {l : List Oper} {ms : List Bool} (bk : Book P ops S w0 a0 m φ Γ Ψ mn bx) {a : Act} {g : Gh} {W : World}
    (st : Stand ops S w0 a0 m φ Ψ mn need (fun i => i < m) a g W) (hN : a0.tmps.size = N) (hd : a0.defers = []) (f : Fin P ops Q S w0 a0 drawn N l (Γ m) (Ψ m) ms) : runTail P ops Q l a W := by
  refine f.go a g W (st.size.trans hN) (st.defers.trans hd) st.keeps st.gok (envAll_of bk st m (Nat.le_refl _)) (fun t ht => st.rest t fun i o hi ho => notIn_of bk m (Nat.le_refl _) ht i o hi ho) ?_
  obtain ⟨q, hq, hall, hψ⟩ := st.ψ
  have : Ψ m = Ψ q := bk.psi_eq hq (Nat.le_refl _) fun j h1 h2 => by
    cases hm : mn j with
    | false => rfl
    | true => have := (hall j h2 hm).1 h2; omega
  rw [this]; exact hψ

theorem fits_congr {m N : Nat} {mn mn' lt : Nat → Bool} {need : Nat → Nat → Prop} (f : Fits ops N m mn lt need) (h : ∀ j, j < m → mn' j = mn j) : Fits ops N m mn' lt need :=
  ⟨f.inb, f.uniq, f.looks, f.tail, fun i j hi hji him h1 h2 => f.mains i j hi hji him ((h i him).symm.trans h1) ((h j (by omega)).symm.trans h2)⟩

/-- THE REGION RULE -/
theorem wp_reg {drawn : Bool} {id N : Nat} {Q : Exit → Act → World → Prop} {Ψ : World → Prop} (S : Nat → Prop) (hm : P.follows .mixedOrders = true) (hN : a0.tmps.size = N) (hd : a0.defers = []) (hsp : StableE Ψ) (hψ : Ψ w0)
    (h : Chain P ops S w0 a0 (Fin P ops Q S w0 a0 drawn N) false ops.toList [] Ψ []) : (Code.region id ops drawn).wp P Q a0 w0 := by
  obtain ⟨m, φ, Γ, Ψ', mn, bx, ms, bk, f, rfl, hms, h0⟩ := h.out (fun _ _ _ _ => True) (fun _ => []) (fun _ => Ψ) (fun _ => false) (fun _ => false)
    ⟨Nat.zero_le _, rfl, fun _ _ h => by simp at h, fun _ _ _ => rfl, fun _ h => by simp at h, fun _ _ => hsp, fun _ _ h => by simp at h, fun _ _ h => by simp at h, fun _ _ h => by simp at h⟩ rfl rfl rfl (fun _ h => by simp at h) (fun _ _ h => by simp at h)
  have hψ0 : Ψ' 0 w0 := by rw [h0]; exact hψ
  have ft := fits_congr (chk_fits f.ok) hms
  cases drawn with
  | false =>
    have ft' : Fits ops N ms.length mn (fun j => false && lateOk (Region.before ops) ops ms.length j) (fun j i => j < i) := by
      have : (fun j i => nd false (Region.before ops) j i = true) = fun j i => j < i := by funext j i; simp [nd]
      rw [this] at ft; exact ft
    exact wp_region (bk.inOrder ft' hN (fun a g W st => st.go bk hN hd f) (.refl _ _) hψ0)
  | true =>
    refine Go.wp_mono (Q := fun e a w => e = .normal ∧ Q .normal a w) ?_ (fun e a w h => by obtain ⟨rfl, h⟩ := h; exact h)
    have hrt : ∀ (l : List Oper) (a : Act) (W : World), runTail P ops Q l a W → runTail P ops (fun e a w => e = .normal ∧ Q .normal a w) l a W := by
      intro l
      induction l with
      | nil => intro a W h; exact ⟨rfl, h⟩
      | cons o l ih => intro a W h; exact ObRun.mono h fun v W' h' => ih _ _ h'
    refine wp_region_any hm (bk.anyOrder ft hN (fun i o ho e he hb => (chk_edges f.ok i o ho).2 e he hb) (fun listed hdc i o ho hed j hj => need_listed f.ok listed hdc i o ho hed j hj) (fun l hl => late_spec (by simpa using hl)) (fun _ _ _ h => by cases h.1) (fun a g W st => hrt _ _ _ (st.go bk hN hd f)) (.drew _) ?_)
    exact hsp _ _ (Keeps.drew w0) hψ |> fun h => by rw [h0]; exact h
/-- what is to be shown when the first part is done, with operations that may be taken late -/
structure FinL (P : Program) (ops : Array Oper) (Q : Exit → Act → World → Prop) (S : Nat → Prop) (w0 : World) (a0 : Act) (ls : List (Nat × Value)) (N : Nat) (l : List Oper) (Γ : Ctx) (Ψ : World → Prop) (ms : List Bool) : Prop where
  ok : chkW (lateL (Region.before ops) ops ms.length (ls.map Prod.fst)) true (Region.before ops) N ops ms.reverse ms.length = true
  ok2 : ((List.range ops.size).all fun i => !decide (ms.length ≤ i) || match ops[i]? with | none => false | some p => p.guard.isNone) = true ∧ Region.noSelect ops = true
  late : ∀ q ∈ ls, ∃ o, ops[q.1]? = some o ∧ ∀ a W, Keeps S w0 W → (∀ t ∈ o.looksAt ops, sl a t = sl a0 t) → (execOp a.eval o).run P W = .ok (.value q.2) W
  go : ∀ a g W, a.tmps.size = N → a.defers = [] → Keeps S w0 W → GOk w0 W g → EnvAll a g W Γ → (∀ t, notIn Γ t = true → sl a t = sl a0 t) → Ψ W → runTailK P ops Q (Keeps S w0) l a W

theorem lateL_spec {B : Array Nat} {ls : List Nat} {m l : Nat} (h : lateL B ops m ls l = true) : (l ∈ ls ∧ ∃ o d, ops[l]? = some o ∧ o.dst = some d ∧ o.guard = none ∧ l < m ∧ B.getD l 0 = 0 ∧ (∀ t ∈ o.looksAt ops, ∀ (j : Nat) (p : Oper), ops[j]? = some p → p.dst ≠ some t) ∧
      (∀ (i : Nat) (p : Oper), m ≤ i → ops[i]? = some p → d ∈ p.looksAt ops → nd true B l i = true)) ∨ (l ∈ ls ∧ ops.size ≤ m ∧ ∃ o, ops[l]? = some o ∧ l < m ∧ o.dst = none) := by
  unfold lateL at h
  simp only [Bool.and_eq_true] at h
  obtain ⟨h0, h⟩ := h
  have h0' : l ∈ ls := by simpa using h0
  cases ho : ops[l]? with
  | none => rw [ho] at h; cases h
  | some o =>
    rw [ho] at h
    simp only [Bool.and_eq_true, decide_eq_true_eq, List.all_eq_true, List.mem_range] at h
    obtain ⟨⟨⟨⟨⟨h1, h2⟩, h3⟩, h4⟩, h5⟩, h6⟩ := h
    cases hd : o.dst with
    | none =>
      refine .inr ⟨h0', ?_, o, rfl, h2, hd⟩
      rcases Nat.lt_or_ge m ops.size with hlt | hge
      · have := h6 m hlt
        simp [hlt, hd] at this
      · exact hge
    | some d =>
      refine .inl ⟨h0', o, d, rfl, hd, by simpa using h1, h2, by simpa using h3, fun t ht j p hp => ?_, fun i p hmi hp hdp => ?_⟩
      · have := h4 t ht p (by rw [Array.mem_toList_iff]; exact Array.mem_of_getElem? hp)
        simpa using this
      · have hi : i < ops.size := (Array.getElem?_eq_some_iff.1 hp).1
        have := h6 i hi
        simp only [hmi, decide_true, Bool.not_true, Bool.false_or, hp, hd, Bool.and_eq_true, Bool.or_eq_true] at this
        exact this.2.resolve_left (by simp [hdp])

theorem wp_regL {id N : Nat} {Q : Exit → Act → World → Prop} {Ψ : World → Prop} (S : Nat → Prop) (ls : List (Nat × Value)) (hm : P.follows .mixedOrders = true) (hN : a0.tmps.size = N) (hd : a0.defers = []) (hsp : StableE Ψ) (hψ : Ψ w0)
    (hls : (ls.map Prod.fst).Nodup)
    (h : Chain P ops S w0 a0 (FinL P ops Q S w0 a0 ls N) false ops.toList [] Ψ []) : (Code.region id ops true).wp P Q a0 w0 := by
  obtain ⟨m, φ, Γ, Ψ', mn, bx, ms, bk, f, rfl, hms, h0⟩ := h.out (fun _ _ _ _ => True) (fun _ => []) (fun _ => Ψ) (fun _ => false) (fun _ => false)
    ⟨Nat.zero_le _, rfl, fun _ _ h => by simp at h, fun _ _ _ => rfl, fun _ h => by simp at h, fun _ _ => hsp, fun _ _ h => by simp at h, fun _ _ h => by simp at h, fun _ _ h => by simp at h⟩ rfl rfl rfl (fun _ h => by simp at h) (fun _ _ h => by simp at h)
  have ft := fits_congr (chk_fits f.ok) hms
  have hsel := Region.noSelect_spec f.ok2.2
  have hgd : ∀ (i : Nat) (p : Oper), ms.length ≤ i → ops[i]? = some p → p.guard = none := fun i p hmi hp => by
    have := List.all_eq_true.1 f.ok2.1 i (List.mem_range.2 (Array.getElem?_eq_some_iff.1 hp).1)
    simpa [hmi, hp] using this
  have ft2 : Fits ops N ms.length mn (fun l => lateL (Region.before ops) ops ms.length (ls.map Prod.fst) l && decide (ms.length < ops.size)) (fun j i => nd true (Region.before ops) j i = true) :=
    ⟨ft.inb, ft.uniq, ft.looks, fun i j hi hji hmi => (ft.tail i j hi hji hmi).imp (fun h => h) fun h => by simp [h]; omega, ft.mains⟩
  have val : ∀ l v, (l, v) ∈ ls → (ls.find? (fun q => q.1 == l)) = some (l, v) := by
    intro l v hm
    clear ft ft2 f h bk
    induction ls with
    | nil => cases hm
    | cons q ls ih =>
      simp only [List.map_cons, List.nodup_cons] at hls
      rcases List.mem_cons.1 hm with h1 | h1
      · subst h1; simp
      · have hne : q.1 ≠ l := fun e => hls.1 (List.mem_map.2 ⟨_, h1, e.symm⟩)
        rw [List.find?_cons_of_neg (by simpa using hne)]
        exact ih hls.2 h1
  refine wp_region_any hm (bk.anyOrderL (vL := fun l => ((ls.find? (fun q => q.1 == l)).map Prod.snd).getD undef) ft2 hN (fun i o ho e he hb => (chk_edges f.ok i o ho).2 e he hb) (fun listed hdc i o ho hed j hj => need_listed f.ok listed hdc i o ho hed j hj) (fun l hl => ?_) (fun i p hmi hp => ⟨hgd i p hmi hp, fun cs b => hsel i p cs b hp⟩) (fun a g W st => ?_) (.drew _) ?_)
  · simp only [Bool.and_eq_true, decide_eq_true_eq] at hl
    rcases lateL_spec hl.1 with ⟨hin, o, d, ho, hd', hg, hlm, hb0, hlk, hq⟩ | ⟨_, hge, _⟩
    · obtain ⟨⟨l', v⟩, hqm, hql⟩ := List.mem_map.1 hin
      simp only at hql; subst hql
      obtain ⟨o', ho', hrun⟩ := f.late _ hqm
      simp only at ho' hrun
      rw [ho] at ho'; cases ho'
      refine ⟨o, d, ho, hd', hg, hlm, fun j hj => ?_, hlk, fun i p hmi hp => ⟨hgd i p hmi hp, fun cs b => hsel i p cs b hp, fun hdp => hq i p hmi hp hdp⟩, fun a W hk hb => ?_⟩
      · simp [nd, hb0] at hj
      · rw [val _ _ hqm]; exact hrun a W hk hb
    · omega
  · refine f.go a g W (st.size.trans hN) (st.defers.trans hd) st.keeps st.gok (envAll_of bk st _ (Nat.le_refl _)) (fun t ht => st.rest t fun i o hi ho => notIn_of bk _ (Nat.le_refl _) ht i o hi ho) ?_
    obtain ⟨q, hq, hall, hψ⟩ := st.ψ
    have : Ψ' ms.length = Ψ' q := bk.psi_eq hq (Nat.le_refl _) fun j h1 h2 => by
      cases hm : mn j with
      | false => rfl
      | true => have := (hall j h2 hm).1 h2; omega
    rw [this]; exact hψ
  · exact hsp _ _ (Keeps.drew w0) hψ |> fun h => by rw [h0]; exact h

/-- a part of a region in program order -/
theorem tail_reg {ops' : Array Oper} {l : List Oper} {N : Nat} {Q : Exit → Act → World → Prop} {Ψ : World → Prop} (k : Nat) (S : Nat → Prop) (hN : a0.tmps.size = N) (hd : a0.defers = []) (hsp : StableE Ψ) (hψ : Ψ w0) (hgd : ((l.take k).all fun o => o.guard.isNone) = true)
    (h : Chain P (l.take k).toArray S w0 a0 (Fin P (l.take k).toArray (fun _ a W => runTail P ops' Q (l.drop k) a W) S w0 a0 false N) false (l.take k) [] Ψ []) : runTail P ops' Q l a0 w0 := by
  have key : ∀ ops : Array Oper, (∀ o ∈ ops.toList, o.guard.isNone = true) → Chain P ops S w0 a0 (Fin P ops (fun _ a W => runTail P ops' Q (l.drop k) a W) S w0 a0 false N) false ops.toList [] Ψ [] →
      runTail P ops' Q (ops.toList ++ l.drop k) a0 w0 := by
    intro ops hg h
    obtain ⟨m, φ, Γ, Ψ', mn, bx, ms, bk, f, rfl, hms, h0⟩ := h.out (fun _ _ _ _ => True) (fun _ => []) (fun _ => Ψ) (fun _ => false) (fun _ => false)
      ⟨Nat.zero_le _, rfl, fun _ _ h => by simp at h, fun _ _ _ => rfl, fun _ h => by simp at h, fun _ _ => hsp, fun _ _ h => by simp at h, fun _ _ h => by simp at h, fun _ _ h => by simp at h⟩ rfl rfl rfl (fun _ h => by simp at h) (fun _ _ h => by simp at h)
    have hψ0 : Ψ' 0 w0 := by rw [h0]; exact hψ
    have ft := fits_congr (chk_fits f.ok) hms
    have ft' : Fits ops N ms.length mn (fun j => false && lateOk (Region.before ops) ops ms.length j) (fun j i => j < i) := by
      have : (fun j i => nd false (Region.before ops) j i = true) = fun j i => j < i := by funext j i; simp [nd]
      rw [this] at ft; exact ft
    exact runTail_app _ _ _ (runTail_free _ _ _ hg (bk.inOrderR ft' hN (fun a g W st => st.go bk hN hd f) (.refl _ _) hψ0))
  have := key (l.take k).toArray (by simpa using hgd) h
  simpa using this
end
end Go.Eng
