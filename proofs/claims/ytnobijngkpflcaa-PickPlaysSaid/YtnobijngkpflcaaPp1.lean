/-
  The law PickPlays of package legatelaw11 returns true for every input, and leaves its arguments as they were. No condition beyond the row's own.
-/
import Derived.WalkKit
import Derived.Deep.AppendSrc
import Derived.LaidEql
import Derived.Test.YtnobijngkpflcaaProg
import Derived.KernelRfl
import Derived.Laws.RangeString
import Derived.Laws.Runes
import Derived.Laws.AppendOwn
import Derived.Laws.Cover3
import Derived.Laws.MakeOwn
import Derived.Laws.BytesString
import Derived.Laws.Shifts
namespace Go.Eng
abbrev Gh := List (Nat × Nat)
abbrev Fact := Gh → Value → World → Prop
abbrev Ctx := List (Option Nat × Fact)
def sl (a : Act) (t : Nat) : Value := a.tmps.getD t undef
structure Keeps (S : Nat → Prop) (w w' : World) : Prop where
  os : w'.os = w.os
  tape : w'.tape = w.tape
  output : w'.output = w.output
  size : w.heap.size ≤ w'.heap.size
  block : ∀ k, k < w.heap.size → S k → w'.heap[k]? = w.heap[k]?
def All : Nat → Prop := fun _ => True
abbrev Ext := Keeps All
theorem Keeps.refl (S : Nat → Prop) (w : World) : Keeps S w w := ⟨rfl, rfl, rfl, Nat.le_refl _, fun _ _ _ => rfl⟩
theorem Keeps.trans {S : Nat → Prop} {a b c : World} (h : Keeps S a b) (k : Keeps S b c) : Keeps S a c :=
  ⟨k.os.trans h.os, k.tape.trans h.tape, k.output.trans h.output, Nat.le_trans h.size k.size,
   fun i hi hs => (k.block i (Nat.lt_of_lt_of_le hi h.size) hs).trans (h.block i hi hs)⟩
theorem Keeps.mono {S T : Nat → Prop} {a b : World} (h : Keeps S a b) (hs : ∀ k, T k → S k) : Keeps T a b :=
  ⟨h.os, h.tape, h.output, h.size, fun k hk ht => h.block k hk (hs k ht)⟩
theorem Keeps.of_ext {S : Nat → Prop} {a b : World} (h : Ext a b) : Keeps S a b := h.mono fun _ _ => trivial
theorem Keeps.drew {S : Nat → Prop} (w : World) : Keeps S w { w with drawn := w.drawn + 1 } := ⟨rfl, rfl, rfl, Nat.le_refl _, fun _ _ _ => rfl⟩
structure Stable (S : Nat → Prop) (φ : Fact) : Prop where
  world : ∀ g v W W', Keeps S W W' → φ g v W → φ g v W'
  ghost : ∀ g t b v W, W.heap.size ≤ b → φ g v W → φ ((t, b) :: g) v W
structure GOk (w0 W : World) (g : Gh) : Prop where
  lo : ∀ t b, (t, b) ∈ g → w0.heap.size ≤ b
  hi : ∀ t b, (t, b) ∈ g → b < W.heap.size
  inj : ∀ t t' b, (t, b) ∈ g → (t', b) ∈ g → t = t'
theorem GOk.ext {w0 W W' : World} {g : Gh} {S : Nat → Prop} (h : GOk w0 W g) (k : Keeps S W W') : GOk w0 W' g :=
  ⟨h.lo, fun t b hb => Nat.lt_of_lt_of_le (h.hi t b hb) k.size, h.inj⟩
theorem GOk.more {w0 W W' : World} {g : Gh} (h : GOk w0 W g) (h0 : w0.heap.size ≤ W.heap.size) (hs : W.heap.size < W'.heap.size) (t : Nat) : GOk w0 W' ((t, W.heap.size) :: g) := by
  refine ⟨fun u b hb => ?_, fun u b hb => ?_, fun u u' b hb hb' => ?_⟩
  · rcases List.mem_cons.1 hb with h1 | h1
    · cases h1; exact h0
    · exact h.lo u b h1
  · rcases List.mem_cons.1 hb with h1 | h1
    · cases h1; exact hs
    · exact Nat.lt_trans (h.hi u b h1) hs
  · rcases List.mem_cons.1 hb with h1 | h1 <;> rcases List.mem_cons.1 hb' with h2 | h2
    · cases h1; cases h2; rfl
    · cases h1; have := h.hi _ _ h2; omega
    · cases h2; have := h.hi _ _ h1; omega
    · exact h.inj u u' b h1 h2
def StableE (Ψ : World → Prop) : Prop := ∀ W W', Ext W W' → Ψ W → Ψ W'
def OpRuns (P : Program) (o : Oper) (a : Act) (W : World) (R : Value → World → Prop) : Prop :=
  match (execOp a.eval o).run P W with
  | .ok (.value v) W' => R v W'
  | .ok .skip W' => R undef W'
  | .ok (.enter f args) W' => Calls P f args W' fun e W'' => ∃ v, e = .returned v ∧ R v W''
  | _ => False
def ObRun (P : Program) (ops : Array Oper) (o : Oper) (a : Act) (W : World) (R : Value → World → Prop) : Prop :=
  if Region.wanted o (yielded ops a.tmps) = true then OpRuns P o a W R else R undef W
theorem OpRuns.wp {P : Program} {o : Oper} {a : Act} {W : World} {R : Value → World → Prop} {K : Act → World → Prop} {Q : Exit → Act → World → Prop}
    (h : OpRuns P o a W R) (hk : ∀ v W', R v W' → K (a.put o.dst v) W') : o.wp P a W K Q := by
  unfold OpRuns at h
  unfold Oper.wp
  cases hr : (execOp a.eval o).run P W with
  | halt x w => rw [hr] at h; exact h.elim
  | ok x w =>
    rw [hr] at h
    cases x <;> first
      | exact h.elim
      | exact hk _ _ h
      | exact Calls.mono h (fun e w' ⟨v, he, hv⟩ => by subst he; exact hk _ _ hv)
theorem OpRuns.mono {P : Program} {o : Oper} {a : Act} {W : World} {R R' : Value → World → Prop}
    (h : OpRuns P o a W R) (hk : ∀ v W', R v W' → R' v W') : OpRuns P o a W R' := by
  unfold OpRuns at *
  cases hr : (execOp a.eval o).run P W with
  | halt x w => rw [hr] at h; exact h.elim
  | ok x w =>
    rw [hr] at h
    cases x <;> first
      | exact h.elim
      | exact hk _ _ h
      | exact Calls.mono h (fun e w' ⟨v, he, hv⟩ => ⟨v, he, hk _ _ hv⟩)
theorem ObRun.mono {P : Program} {ops : Array Oper} {o : Oper} {a : Act} {W : World} {R R' : Value → World → Prop}
    (h : ObRun P ops o a W R) (hk : ∀ v W', R v W' → R' v W') : ObRun P ops o a W R' := by
  unfold ObRun at *
  split
  · rename_i hw; rw [if_pos hw] at h; exact h.mono hk
  · rename_i hw; rw [if_neg hw] at h; exact hk _ _ h
theorem ObRun.wpOp {P : Program} {ops : Array Oper} {Q : Exit → Act → World → Prop} {i : Nat} {o : Oper} {a : Act} {W : World} {R : Value → World → Prop}
    {K : Act → World → Prop} (hi : ops[i]? = some o) (h : ObRun P ops o a W R) (hk : ∀ v W', R v W' → K (a.put o.dst v) W') : Go.wpOp P ops Q i K a W := by
  unfold Go.wpOp
  simp only [hi]
  unfold ObRun at h
  split
  · rename_i hw; rw [if_pos hw] at h; exact .inl (h.wp hk)
  · rename_i hw; rw [if_neg hw] at h; exact hk _ _ h
def runTail (P : Program) (ops : Array Oper) (Q : Exit → Act → World → Prop) : List Oper → Act → World → Prop
  | [], a, W => Q .normal a W
  | o :: r, a, W => ObRun P ops o a W fun v W' => runTail P ops Q r (a.put o.dst v) W'
def look : Ctx → Nat → Option Fact
  | [], _ => none
  | (some d, φ) :: Γ, t => bif d == t then some φ else look Γ t
  | (none, _) :: Γ, t => look Γ t
def Env (Γ : Ctx) (a0 a : Act) (g : Gh) (W : World) : List Nat → Prop
  | [] => True
  | t :: ts => (match look Γ t with | some φ => φ g (sl a t) W | none => sl a t = sl a0 t) ∧ Env Γ a0 a g W ts
def EnvAll (a : Act) (g : Gh) (W : World) : Ctx → Prop
  | [] => True
  | (some d, φ) :: Γ => φ g (sl a d) W ∧ EnvAll a g W Γ
  | (none, _) :: Γ => EnvAll a g W Γ
def notIn : Ctx → Nat → Bool
  | [], _ => true
  | (some d, _) :: Γ, t => !(d == t) && notIn Γ t
  | (none, _) :: Γ, t => notIn Γ t
def nd (drawn : Bool) (B : Array Nat) (j i : Nat) : Bool := if drawn then (B.getD i 0).testBit j else decide (j < i)
def maskOf (B : Array Nat) (es : List Edge) : Nat := es.foldl (fun s e => if Region.binds .any e then s ||| 2 ^ e.on ||| B.getD e.on 0 else s) 0
def lateOk (B : Array Nat) (ops : Array Oper) (m l : Nat) : Bool := match ops[l]? with
  | none => false
  | some o => o.guard.isNone && (match o.op with | .extract _ _ => true | _ => false) && decide (l < m) && Region.noSelect ops && Region.free .any ops ((Array.range ops.size).map fun j => nd true B j l) l &&
    o.after.toList.all fun e => !Region.binds .any e || (List.range ops.size).all fun i => !decide (m ≤ i) || nd true B e.on i
def chkW (lt : Nat → Bool) (drawn : Bool) (B : Array Nat) (N : Nat) (ops : Array Oper) (ms : List Bool) (m : Nat) : Bool :=
  (List.range ops.size).all fun i => match ops[i]? with
    | none => false
    | some o =>
      (match o.dst with | some d => decide (d < N) | none => true) &&
      (!drawn || ((B.getD i 0 == maskOf B o.after.toList) && o.after.toList.all fun e => (!Region.binds .any e || decide (e.on < i)))) &&
      ((List.range ops.size).all fun j => j == i || match ops[j]? with
        | none => false
        | some p =>
          (match p.dst with
            | none => true
            | some t => o.dst != some t && (!(o.looksAt ops).contains t || (if j < i then nd drawn B j i else nd drawn B i j))) &&
          (!(decide (j < i) && decide (m ≤ i)) || nd drawn B j i || lt j) &&
          (!(decide (j < i) && ms.getD i false && ms.getD j false) || nd drawn B j i))
def chk (drawn : Bool) (B : Array Nat) (N : Nat) (ops : Array Oper) (ms : List Bool) (m : Nat) : Bool := chkW (fun j => drawn && lateOk B ops m j) drawn B N ops ms m
section
variable {P : Program} {ops : Array Oper} {S : Nat → Prop} {w0 : World} {a0 : Act}
theorem sl_put_same {a : Act} {d : Nat} {v : Value} (h : d < a.tmps.size) : sl (a.put (some d) v) d = v := by
  simp [sl, Act.put, Array.getD, h]
theorem sl_put_ne {a : Act} {o : Option Nat} {t : Nat} {v : Value} (h : o ≠ some t) : sl (a.put o v) t = sl a t := by
  cases o with
  | none => rfl
  | some d =>
    have hd : d ≠ t := fun e => h (e ▸ rfl)
    simp only [sl, Act.put]
    rw [Array.getD_eq_getD_getElem?, Array.getD_eq_getD_getElem?, Array.getElem?_setIfInBounds_ne hd]
theorem put_size {a : Act} {o : Option Nat} {v : Value} : (a.put o v).tmps.size = a.tmps.size := by cases o <;> simp [Act.put]
theorem put_defers {a : Act} {o : Option Nat} {v : Value} : (a.put o v).defers = a.defers := by cases o <;> rfl
inductive Dep (ops : Array Oper) : Nat → Nat → Prop
  | refl (i : Nat) : Dep ops i i
  | step {i k j : Nat} {o p : Oper} {t : Nat} : Dep ops i k → k < j → ops[j]? = some o → ops[k]? = some p → p.dst = some t → t ∈ o.looksAt ops → Dep ops i j
structure Book (P : Program) (ops : Array Oper) (S : Nat → Prop) (w0 : World) (a0 : Act) (m : Nat) (φ : Nat → Fact) (Γ : Nat → Ctx) (Ψ : Nat → World → Prop) (mn bx : Nat → Bool) : Prop where
  le : m ≤ ops.size
  g0 : Γ 0 = []
  gs : ∀ j o, j < m → ops[j]? = some o → Γ (j + 1) = (o.dst, φ j) :: Γ j
  ps : ∀ j, j < m → mn j = false → Ψ (j + 1) = Ψ j
  sf : ∀ j, j < m → Stable S (φ j) ∨ (Stable All (φ j) ∧ ∃ i0, Dep ops i0 j ∧ i0 ≤ j ∧ mn i0 = true ∧ ∀ i, i0 < i → i < m → mn i = false)
  sp : ∀ j, j ≤ m → StableE (Ψ j)
  side : ∀ j o, j < m → ops[j]? = some o → mn j = false → bx j = false → ∀ a g W, Keeps S w0 W → GOk w0 W g → Env (Γ j) a0 a g W (o.looksAt ops) →
    ObRun P ops o a W fun v W' => Ext W W' ∧ φ j g v W'
  box : ∀ j o, j < m → ops[j]? = some o → mn j = false → bx j = true → ∃ t, o.dst = some t ∧ ∀ a g W, Keeps S w0 W → GOk w0 W g → Env (Γ j) a0 a g W (o.looksAt ops) →
    ObRun P ops o a W fun v W' => Ext W W' ∧ W.heap.size < W'.heap.size ∧ φ j ((t, W.heap.size) :: g) v W'
  main : ∀ j o, j < m → ops[j]? = some o → mn j = true → ∀ a g W, Keeps S w0 W → GOk w0 W g → Env (Γ j) a0 a g W (o.looksAt ops) → Ψ j W →
    ObRun P ops o a W fun v W' => Keeps S W W' ∧ φ j g v W' ∧ Ψ (j + 1) W'
structure Fits (ops : Array Oper) (N m : Nat) (mn lt : Nat → Bool) (need : Nat → Nat → Prop) : Prop where
  inb : ∀ (i : Nat) (o : Oper) (d : Nat), ops[i]? = some o → o.dst = some d → d < N
  uniq : ∀ (i j : Nat) (o p : Oper) (t : Nat), i ≠ j → ops[i]? = some o → ops[j]? = some p → p.dst = some t → o.dst ≠ some t
  looks : ∀ (i j : Nat) (o p : Oper) (t : Nat), i ≠ j → ops[i]? = some o → ops[j]? = some p → p.dst = some t → t ∈ o.looksAt ops → (j < i ∧ need j i) ∨ (i < j ∧ need i j)
  tail : ∀ i j : Nat, i < ops.size → j < i → m ≤ i → need j i ∨ lt j = true
  mains : ∀ i j : Nat, i < ops.size → j < i → i < m → mn i = true → mn j = true → need j i
structure Stand (ops : Array Oper) (S : Nat → Prop) (w0 : World) (a0 : Act) (m : Nat) (φ : Nat → Fact) (Ψ : Nat → World → Prop) (mn : Nat → Bool) (need : Nat → Nat → Prop) (E : Nat → Prop) (a : Act) (g : Gh) (W : World) : Prop where
  size : a.tmps.size = a0.tmps.size
  defers : a.defers = a0.defers
  keeps : Keeps S w0 W
  gok : GOk w0 W g
  below : ∀ i, E i → i < m
  fact : ∀ i o d, E i → ops[i]? = some o → o.dst = some d → φ i g (sl a d) W
  rest : ∀ t, (∀ i o, E i → ops[i]? = some o → o.dst ≠ some t) → sl a t = sl a0 t
  closed : ∀ i j, E i → need j i → E j
  ψ : ∃ q, q ≤ m ∧ (∀ i, i < m → mn i = true → (E i ↔ i < q)) ∧ Ψ q W
variable {m N : Nat} {φ : Nat → Fact} {Γ : Nat → Ctx} {Ψ : Nat → World → Prop} {mn bx lt : Nat → Bool} {need : Nat → Nat → Prop}
theorem Book.look_some (bk : Book P ops S w0 a0 m φ Γ Ψ mn bx) : ∀ i, i ≤ m → ∀ t f, look (Γ i) t = some f → ∃ j o, j < i ∧ ops[j]? = some o ∧ o.dst = some t ∧ f = φ j := by
  intro i
  induction i with
  | zero => intro _ t f h; rw [bk.g0] at h; simp [look] at h
  | succ i ih =>
    intro hi t f h
    have hlt : i < ops.size := Nat.lt_of_lt_of_le hi bk.le
    have ho : ops[i]? = some ops[i] := by simp [hlt]
    rw [bk.gs i _ (by omega) ho] at h
    cases hd : ops[i].dst with
    | none => rw [hd] at h; simp only [look] at h; obtain ⟨j, o, h1, h2, h3, h4⟩ := ih (by omega) t f h; exact ⟨j, o, by omega, h2, h3, h4⟩
    | some d =>
      rw [hd] at h; simp only [look] at h
      by_cases hdt : d = t
      · subst hdt; simp at h; exact ⟨i, _, by omega, ho, hd, h.symm⟩
      · have : (d == t) = false := by simpa using hdt
        rw [this] at h; simp only [cond_false] at h
        obtain ⟨j, o, h1, h2, h3, h4⟩ := ih (by omega) t f h; exact ⟨j, o, by omega, h2, h3, h4⟩
theorem Book.look_none (bk : Book P ops S w0 a0 m φ Γ Ψ mn bx) : ∀ i, i ≤ m → ∀ t, look (Γ i) t = none → ∀ j o, j < i → ops[j]? = some o → o.dst ≠ some t := by
  intro i
  induction i with
  | zero => intro _ t _ j o hj; omega
  | succ i ih =>
    intro hi t h j o hj ho'
    have hlt : i < ops.size := Nat.lt_of_lt_of_le hi bk.le
    have ho : ops[i]? = some ops[i] := by simp [hlt]
    rw [bk.gs i _ (by omega) ho] at h
    cases hd : ops[i].dst with
    | none =>
      rw [hd] at h; simp only [look] at h
      rcases Nat.lt_succ_iff_lt_or_eq.1 hj with h1 | h1
      · exact ih (by omega) t h j o h1 ho'
      · subst h1; rw [ho] at ho'; cases ho'; rw [hd]; simp
    | some d =>
      rw [hd] at h; simp only [look] at h
      by_cases hdt : d = t
      · subst hdt; simp at h
      · have e : (d == t) = false := by simpa using hdt
        rw [e] at h; simp only [cond_false] at h
        rcases Nat.lt_succ_iff_lt_or_eq.1 hj with h1 | h1
        · exact ih (by omega) t h j o h1 ho'
        · subst h1; rw [ho] at ho'; cases ho'; rw [hd]; simpa using hdt
theorem env_of {Γ : Ctx} {a : Act} {g : Gh} {W : World} : ∀ ts : List Nat, (∀ t ∈ ts, (∀ f, look Γ t = some f → f g (sl a t) W) ∧ (look Γ t = none → sl a t = sl a0 t)) → Env Γ a0 a g W ts
  | [], _ => trivial
  | t :: ts, h => by
    refine ⟨?_, env_of ts fun u hu => h u (List.mem_cons_of_mem _ hu)⟩
    have := h t List.mem_cons_self
    cases hl : look Γ t with
    | none => exact this.2 hl
    | some f => exact this.1 f hl
theorem Stable.ext {S : Nat → Prop} {φ : Fact} (h : Stable S φ) : Stable All φ := ⟨fun g v W W' k hv => h.world g v W W' (.of_ext k) hv, h.ghost⟩
theorem Book.sfE (bk : Book P ops S w0 a0 m φ Γ Ψ mn bx) {j : Nat} (hj : j < m) : Stable All (φ j) := by
  rcases bk.sf j hj with h | h
  · exact h.ext
  · exact h.1
theorem Book.psi_eq (bk : Book P ops S w0 a0 m φ Γ Ψ mn bx) {q i : Nat} (hqi : q ≤ i) (him : i ≤ m) (h : ∀ j, q ≤ j → j < i → mn j = false) : Ψ i = Ψ q := by
  induction i with
  | zero => have : q = 0 := by omega
            subst this; rfl
  | succ i ih =>
    by_cases hq : q = i + 1
    · subst hq; rfl
    · rw [bk.ps i (by omega) (h i (by omega) (by omega))]
      exact ih (by omega) (by omega) fun j h1 h2 => h j h1 (by omega)
theorem Stand.dep {E : Nat → Prop} {a : Act} {g : Gh} {W : World} (ft : Fits ops N m mn lt need) (st : Stand ops S w0 a0 m φ Ψ mn need E a g W) {i j : Nat} (h : Dep ops i j) : E j → E i := by
  induction h with
  | refl => exact id
  | step _ hlt ho hp hd ht ih => exact fun hj => ih (st.closed _ _ hj ((ft.looks _ _ _ _ _ (Nat.ne_of_gt hlt) ho hp hd ht).elim (fun h => h.2) (fun h => absurd h.1 (by omega))))
theorem Book.stepR (bk : Book P ops S w0 a0 m φ Γ Ψ mn bx) (ft : Fits ops N m mn lt need) (hN : a0.tmps.size = N) {E : Nat → Prop} {a : Act} {g : Gh} {W : World} 
    (st : Stand ops S w0 a0 m φ Ψ mn need E a g W) {i : Nat} (him : i < m) (hiE : ¬ E i) (hneed : ∀ j, need j i → E j)
    {K : Act → World → Prop} (hK : ∀ a' g' W', Stand ops S w0 a0 m φ Ψ mn need (fun j => E j ∨ j = i) a' g' W' → K a' W') : ObRun P ops (ops[i]'(Nat.lt_of_lt_of_le him bk.le)) a W fun v W' => K (a.put (ops[i]'(Nat.lt_of_lt_of_le him bk.le)).dst v) W' := by
  have hlt : i < ops.size := Nat.lt_of_lt_of_le him bk.le
  have ho : ops[i]? = some ops[i] := by simp [hlt]
  have henv : Env (Γ i) a0 a g W ((ops[i]).looksAt ops) := by
    refine env_of _ fun t ht => ⟨fun f hf => ?_, fun hn => ?_⟩
    · obtain ⟨j, o, hj, hoj, hd, rfl⟩ := bk.look_some i (by omega) t f hf
      rcases ft.looks i j _ o t (by omega) ho hoj hd ht with h | h
      · exact st.fact j o t (hneed j h.2) hoj hd
      · omega
    · refine st.rest t fun j o hj hoj hd => ?_
      rcases Nat.lt_trichotomy j i with h | h | h
      · exact bk.look_none i (by omega) t hn j o h hoj hd
      · subst h; exact hiE hj
      · rcases ft.looks i j _ o t (by omega) ho hoj hd ht with h' | h'
        · omega
        · exact hiE (st.closed j i hj h'.2)
  have fin : ∀ v g' W', Keeps S W W' → GOk w0 W' g' → (∀ j, E j → ∀ u, φ j g u W → φ j g' u W') → φ i g' v W' → (∃ q, q ≤ m ∧ (∀ j, j < m → mn j = true → ((E j ∨ j = i) ↔ j < q)) ∧ Ψ q W') →
      K (a.put (ops[i]).dst v) W' := fun v g' W' hk hgo hmv hf hq => by
    refine hK _ g' _ ⟨put_size.trans st.size, put_defers.trans st.defers, st.keeps.trans hk, hgo, ?_, ?_, ?_, ?_, hq⟩
    · rintro j (hj | rfl)
      · exact st.below j hj
      · exact him
    · rintro j o d hj hoj hd
      rcases hj with hj | rfl
      · have hne : (ops[i]).dst ≠ some d := ft.uniq i j _ o d (fun e => hiE (e ▸ hj)) ho hoj hd
        rw [sl_put_ne hne]
        exact hmv j hj _ (st.fact j o d hj hoj hd)
      · rw [ho] at hoj; cases hoj
        rw [hd, sl_put_same (by rw [st.size, hN]; exact ft.inb j _ d ho hd)]
        exact hf
    · intro t ht
      rw [sl_put_ne (ht i _ (.inr rfl) ho)]
      exact st.rest t fun j o hj hoj => ht j o (.inl hj) hoj
    · rintro j k (hj | rfl) hn
      · exact .inl (st.closed j k hj hn)
      · exact .inl (hneed k hn)
  obtain ⟨q, hqm, hq, hψ⟩ := st.ψ
  cases hm : mn i with
  | false =>
    have hqq : ∀ j, j < m → mn j = true → ((E j ∨ j = i) ↔ j < q) := fun j hj hmj => by
      rw [← hq j hj hmj]
      exact ⟨fun h => h.resolve_right (fun e => by subst e; rw [hm] at hmj; cases hmj), fun h => Or.inl h⟩
    cases hb : bx i with
    | false =>
      exact (bk.side i _ him ho hm hb a g W st.keeps st.gok henv).mono fun v W' ⟨he, hf⟩ =>
        fin v g W' (.of_ext he) (st.gok.ext he) (fun j hj u hu => (bk.sfE (st.below j hj)).world _ _ _ _ he hu) hf ⟨q, hqm, hqq, bk.sp q hqm _ _ he hψ⟩
    | true =>
      obtain ⟨t, _, hbox⟩ := bk.box i _ him ho hm hb
      exact (hbox a g W st.keeps st.gok henv).mono fun v W' ⟨he, hs, hf⟩ =>
        fin v _ W' (.of_ext he) (st.gok.more st.keeps.size hs t) (fun j hj u hu => (bk.sfE (st.below j hj)).world _ _ _ _ he ((bk.sfE (st.below j hj)).ghost _ _ _ _ _ (Nat.le_refl _) hu)) hf ⟨q, hqm, hqq, bk.sp q hqm _ _ he hψ⟩
  | true =>
    have hqi : q ≤ i := by
      rcases Nat.lt_or_ge i q with h | h
      · exact absurd ((hq i him hm).2 h) hiE
      · exact h
    have hnone : ∀ j, q ≤ j → j < i → mn j = false := fun j h1 h2 => by
      cases hj : mn j with
      | false => rfl
      | true =>
        have := (hq j (by omega) hj).1 (hneed j (ft.mains i j hlt h2 him hm hj))
        omega
    rw [← bk.psi_eq hqi (by omega) hnone] at hψ
    refine (bk.main i _ him ho hm a g W st.keeps st.gok henv hψ).mono fun v W' ⟨hk, hf, hψ'⟩ => fin v g W' hk (st.gok.ext hk) (fun j hj u hu => by
      rcases bk.sf j (st.below j hj) with h | ⟨_, i0, hdep, _, hmj, hno⟩
      · exact h.world _ _ _ _ hk hu
      · have hj0 : E i0 := st.dep ft hdep hj
        rcases Nat.lt_trichotomy i i0 with h | h | h
        · exact absurd (st.closed i0 i hj0 (ft.mains i0 i (Nat.lt_of_lt_of_le (st.below i0 hj0) bk.le) h (st.below i0 hj0) hmj hm)) hiE
        · subst h; exact absurd hj0 hiE
        · rw [hno i h him] at hm; cases hm) hf ⟨i + 1, by omega, fun j hj hmj => ?_, hψ'⟩
    constructor
    · rintro (h | rfl)
      · have := (hq j hj hmj).1 h; omega
      · omega
    · intro h
      rcases Nat.lt_succ_iff_lt_or_eq.1 h with h | h
      · exact .inl (hneed j (ft.mains i j hlt h him hm hmj))
      · exact .inr h
theorem Book.step (bk : Book P ops S w0 a0 m φ Γ Ψ mn bx) (ft : Fits ops N m mn lt need) (hN : a0.tmps.size = N) {E : Nat → Prop} {a : Act} {g : Gh} {W : World} {Q : Exit → Act → World → Prop}
    (st : Stand ops S w0 a0 m φ Ψ mn need E a g W) {i : Nat} (him : i < m) (hiE : ¬ E i) (hneed : ∀ j, need j i → E j)
    {K : Act → World → Prop} (hK : ∀ a' g' W', Stand ops S w0 a0 m φ Ψ mn need (fun j => E j ∨ j = i) a' g' W' → K a' W') : wpOp P ops Q i K a W := by
  have hlt : i < ops.size := Nat.lt_of_lt_of_le him bk.le
  exact (bk.stepR ft hN st him hiE hneed hK).wpOp (by simp [hlt]) fun v W' h => h
theorem stand_zero {W : World} (hk : Keeps S w0 W) (hψ : Ψ 0 W) : Stand ops S w0 a0 m φ Ψ mn need (fun _ => False) a0 [] W :=
  ⟨rfl, rfl, hk, ⟨fun _ _ h => by simp at h, fun _ _ h => by simp at h, fun _ _ _ h => by simp at h⟩, fun _ h => h.elim, fun _ _ _ h => h.elim, fun _ _ => rfl, fun _ _ h => h.elim, ⟨0, by omega, fun i _ _ => by simp, hψ⟩⟩
theorem Stand.congr {E E' : Nat → Prop} {a : Act} {g : Gh} {W : World} (h : Stand ops S w0 a0 m φ Ψ mn need E a g W) (he : ∀ i, E i ↔ E' i) : Stand ops S w0 a0 m φ Ψ mn need E' a g W := by
  have : E = E' := funext fun i => propext (he i)
  exact this ▸ h
theorem Book.inOrderR (bk : Book P ops S w0 a0 m φ Γ Ψ mn bx) (ft : Fits ops N m mn lt (fun j i => j < i)) (hN : a0.tmps.size = N) {Q : Exit → Act → World → Prop}
    (fin : ∀ a g W, Stand ops S w0 a0 m φ Ψ mn (fun j i => j < i) (fun i => i < m) a g W → runTail P ops Q (ops.toList.drop m) a W) {W : World} (hk : Keeps S w0 W) (hψ : Ψ 0 W) :
    runTail P ops Q ops.toList a0 W := by
  have head : ∀ k i a g W, i + k = m → Stand ops S w0 a0 m φ Ψ mn (fun j i => j < i) (fun j => j < i) a g W → runTail P ops Q (ops.toList.drop i) a W := by
    intro k
    induction k with
    | zero =>
      intro i a g W hi st
      have : i = m := by omega
      subst this
      exact fin a g W st
    | succ k ih =>
      intro i a g W hi st
      have hlt : i < ops.size := by have := bk.le; omega
      rw [List.drop_eq_getElem_cons (by simpa using hlt)]
      have := bk.stepR ft hN st (i := i) (by omega) (by omega) (fun j h => h) (K := fun a' W' => runTail P ops Q (ops.toList.drop (i + 1)) a' W') fun a' g' W' st' => ih (i + 1) a' g' W' (by omega) (st'.congr fun j => by omega)
      simpa [runTail] using this
  have := head m 0 a0 [] W (by omega) ((stand_zero hk hψ).congr fun j => ⟨fun h => h.elim, fun h => by omega⟩)
  simpa using this
theorem runTail_free {P : Program} {ops ops' : Array Oper} {Q : Exit → Act → World → Prop} : ∀ (l : List Oper) (a : Act) (W : World), (∀ o ∈ l, o.guard.isNone = true) → runTail P ops Q l a W → runTail P ops' Q l a W
  | [], a, W, _, h => h
  | o :: r, a, W, hg, h => by
    have ho : o.guard = none := by simpa using hg o List.mem_cons_self
    have hw : ∀ y, Region.wanted o y = true := fun y => by simp [Region.wanted, ho]
    unfold runTail at h ⊢
    unfold ObRun at h ⊢
    rw [if_pos (hw _)] at h ⊢
    exact h.mono fun v W' h' => runTail_free r _ _ (fun o ho => hg o (List.mem_cons_of_mem _ ho)) h'
theorem runTail_app {P : Program} {ops : Array Oper} {Q : Exit → Act → World → Prop} {l2 : List Oper} : ∀ (l : List Oper) (a : Act) (W : World), runTail P ops (fun _ a W => runTail P ops Q l2 a W) l a W → runTail P ops Q (l ++ l2) a W
  | [], a, W, h => h
  | o :: r, a, W, h => by
    simp only [List.cons_append]
    unfold runTail at h ⊢
    exact h.mono fun v W' h' => runTail_app r _ _ h'
theorem Book.inOrder (bk : Book P ops S w0 a0 m φ Γ Ψ mn bx) (ft : Fits ops N m mn lt (fun j i => j < i)) (hN : a0.tmps.size = N) {Q : Exit → Act → World → Prop}
    (fin : ∀ a g W, Stand ops S w0 a0 m φ Ψ mn (fun j i => j < i) (fun i => i < m) a g W → runTail P ops Q (ops.toList.drop m) a W) {W : World} (hk : Keeps S w0 W) (hψ : Ψ 0 W) :
    wpOps P ops Q (List.range ops.size) a0 W := by
  have tail : ∀ k i a W, i + k = ops.size → runTail P ops Q (ops.toList.drop i) a W → wpOps P ops Q (List.range' i k) a W := by
    intro k
    induction k with
    | zero => intro i a W hi h; rw [List.drop_eq_nil_of_le (by simp; omega)] at h; exact h
    | succ k ih =>
      intro i a W hi h
      have hlt : i < ops.size := by omega
      rw [List.drop_eq_getElem_cons (by simpa using hlt)] at h
      rw [List.range'_succ, wpOps_cons]
      exact ObRun.wpOp (o := ops[i]) (by simp [hlt]) h fun v W' hv => ih (i + 1) _ _ (by omega) hv
  have head : ∀ k i a g W, i + k = ops.size → i ≤ m → Stand ops S w0 a0 m φ Ψ mn (fun j i => j < i) (fun j => j < i) a g W → wpOps P ops Q (List.range' i k) a W := by
    intro k
    induction k with
    | zero =>
      intro i a g W hi him st
      have : i = m := by have := bk.le; omega
      subst this
      exact tail 0 i a W hi (fin a g W st)
    | succ k ih =>
      intro i a g W hi him st
      by_cases hm : i = m
      · subst hm; exact tail (k + 1) i a W hi (fin a g W st)
      · rw [List.range'_succ, wpOps_cons]
        exact bk.step ft hN st (by omega) (by omega) (fun j h => h) fun a' g' W' st' => ih (i + 1) a' g' W' (by omega) (by omega) (st'.congr fun j => by omega)
  rw [List.range_eq_range']
  exact head ops.size 0 a0 [] W (by omega) (by omega) ((stand_zero hk hψ).congr fun j => ⟨fun h => h.elim, fun h => by omega⟩)
theorem getD_or {l : Array Bool} {i j : Nat} (h : i < l.size) : ((l.setIfInBounds i true).getD j false = true) ↔ (l.getD j false = true ∨ j = i) := by
  by_cases hij : j = i
  · subst hij; simp [h]
  · simp only [Array.getD_eq_getD_getElem?, Array.getElem?_setIfInBounds_ne (Ne.symm hij), hij, or_false]
theorem ext_pure {o : Oper} {x : Operand} {n : Nat} {a : Act} {W : World} {R : Value → World → Prop} (hg : o.guard = none) (hop : o.op = .extract x n) (h : ObRun P ops o a W R) : ∃ v, Yields P ops o v a ∧ R v W := by
  have hw : Region.wanted o (yielded ops a.tmps) = true := by simp [Region.wanted, hg]
  unfold ObRun at h
  rw [if_pos hw] at h
  unfold OpRuns at h
  obtain ⟨d, op, ty, pos, af, gd⟩ := o
  subst hop
  cases hx : a.eval x with
  | tuple vs =>
    cases hv : vs[n]? with
    | none => simp [execOp, hx, Instr.extract, hv] at h
    | some v =>
      have he : ∀ w, (execOp a.eval ⟨d, .extract x n, ty, pos, af, gd⟩).run P w = .ok (.value v) w := fun w => by simp [execOp, hx, Instr.extract, hv]
      rw [he W] at h
      exact ⟨v, .inl ⟨hw, he⟩, h⟩
  | _ => simp [execOp, hx, Instr.extract] at h
theorem Book.anyOrder (bk : Book P ops S w0 a0 m φ Γ Ψ mn bx) (ft : Fits ops N m mn lt need) (hN : a0.tmps.size = N) {Q : Exit → Act → World → Prop}
    (hed : ∀ (i : Nat) (o : Oper), ops[i]? = some o → ∀ e ∈ o.after.toList, Region.binds .any e = true → e.on < i)
    (hnd : ∀ listed : Array Bool, (∀ (i : Nat) (o : Oper), listed.getD i false = true → ops[i]? = some o → ∀ e ∈ o.after.toList, Region.binds .any e = true → listed.getD e.on false = true) →
      ∀ (i : Nat) (o : Oper), ops[i]? = some o → (∀ e ∈ o.after.toList, Region.binds .any e = true → listed.getD e.on false = true) → ∀ j, need j i → listed.getD j false = true)
    (hlt : ∀ l, lt l = true → ∃ o, ops[l]? = some o ∧ o.guard = none ∧ (∃ x n, o.op = .extract x n) ∧ l < m ∧ Region.noSelect ops = true ∧ (∃ ls : Array Bool, Region.free .any ops ls l = true ∧ ls.size = ops.size ∧ ∀ j, ls.getD j false = true → need j l) ∧
      ∀ e ∈ o.after.toList, Region.binds .any e = true → ∀ i, m ≤ i → i < ops.size → need e.on i)
    (hQ : ∀ c a w, ¬ Q (.panic c) a w)
    (fin : ∀ a g W, Stand ops S w0 a0 m φ Ψ mn need (fun i => i < m) a g W → runTail P ops Q (ops.toList.drop m) a W) {W : World} (hk : Keeps S w0 W) (hψ : Ψ 0 W) :
    wpAny P .any ops Q ops.size (Array.replicate ops.size false) a0 W := by
  have all_of : ∀ listed : Array Bool, listed.size = ops.size → Region.ready .any ops listed = [] → ∀ i, i < ops.size → listed.getD i false = true := by
    intro listed hs hr i
    induction i using Nat.strongRecOn with
    | _ i ih =>
      intro hi
      cases hl : listed.getD i false with
      | true => rfl
      | false =>
        have ho : ops[i]? = some ops[i] := by simp [hi]
        have : i ∈ Region.ready .any ops listed := by
          refine mem_ready.2 ⟨?_, _, ho, fun e he hb => ih e.on (hed i _ ho e (by simpa using he) hb) (Nat.lt_trans (hed i _ ho e (by simpa using he) hb) hi)⟩
          have h' : i < listed.size := by omega
          simp only [Array.getD, h', dif_pos] at hl ⊢
          exact hl
        rw [hr] at this; cases this
  have main : ∀ (fuel : Nat) (listed : Array Bool) (a : Act) (W : World), listed.size = ops.size →
      (∀ (i : Nat) (o : Oper), listed.getD i false = true → ops[i]? = some o → ∀ e ∈ o.after.toList, Region.binds .any e = true → listed.getD e.on false = true) →
      (listed.toList.countP (fun b => !b) ≤ fuel) →
      ((∃ g, Stand ops S w0 a0 m φ Ψ mn need (fun i => listed.getD i false = true) a g W) ∨
        ∃ k, m ≤ k ∧ (∀ i, listed.getD i false = true ↔ i < k) ∧ runTail P ops Q (ops.toList.drop k) a W) → wpAny P .any ops Q fuel listed a W := by
    intro fuel
    have isB : ∀ (listed : Array Bool) (a : Act) (W : World) (i : Nat), i < ops.size → m ≤ i → (∀ j, j < i → listed.getD j false = true) → listed.getD i false = false →
        ((∃ g, Stand ops S w0 a0 m φ Ψ mn need (fun i => listed.getD i false = true) a g W) ∨
          ∃ k, m ≤ k ∧ (∀ i, listed.getD i false = true ↔ i < k) ∧ runTail P ops Q (ops.toList.drop k) a W) →
        (∀ j, listed.getD j false = true ↔ j < i) ∧ runTail P ops Q (ops.toList.drop i) a W := by
      intro listed a W i hi hm hj hn h
      rcases h with ⟨g, st⟩ | ⟨k, hmk, hkk, ht⟩
      · have : i = m := by
          rcases Nat.lt_or_ge m i with h | h
          · have := st.below m (hj m h); omega
          · omega
        subst this
        have hE : ∀ j, listed.getD j false = true ↔ j < i := fun j => ⟨st.below j, hj j⟩
        exact ⟨hE, fin a g W (st.congr hE)⟩
      · have : i = k := by
          rcases Nat.lt_trichotomy i k with h | h | h
          · have := (hkk i).2 h; rw [hn] at this; cases this
          · exact h
          · have := (hkk k).1 (hj k h); omega
        subst this
        exact ⟨hkk, ht⟩
    have done : ∀ (listed : Array Bool) (a : Act) (W : World), (∀ i, i < ops.size → listed.getD i false = true) → listed.size = ops.size →
        ((∃ g, Stand ops S w0 a0 m φ Ψ mn need (fun i => listed.getD i false = true) a g W) ∨
          ∃ k, m ≤ k ∧ (∀ i, listed.getD i false = true ↔ i < k) ∧ runTail P ops Q (ops.toList.drop k) a W) → Q .normal a W := by
      intro listed a W hall hs h
      rcases h with ⟨g, st⟩ | ⟨k, hmk, hkk, ht⟩
      · have hm : m = ops.size := by
          rcases Nat.lt_or_ge m ops.size with h | h
          · have := st.below m (hall m h); omega
          · have := bk.le; omega
        have := fin a g W (st.congr fun j => ⟨st.below j, fun h => hall j (by omega)⟩)
        rw [List.drop_eq_nil_of_le (by simp; omega)] at this
        exact this
      · have : ops.size ≤ k := by
          rcases Nat.lt_or_ge k ops.size with h | h
          · have := (hkk k).1 (hall k h); omega
          · exact h
        rw [List.drop_eq_nil_of_le (by simpa using this)] at ht
        exact ht
    induction fuel with
    | zero =>
      intro listed a W hs _ hc h
      have hall : ∀ i, i < ops.size → listed.getD i false = true := by
        intro i hi
        have h0 : listed.toList.countP (fun b => !b) = 0 := by omega
        rw [List.countP_eq_zero] at h0
        have hi' : i < listed.size := by omega
        have := h0 listed[i] (by simp)
        simp only [Array.getD, hi', dif_pos]
        simpa using this
      refine ⟨?_, done listed a W hall hs h⟩
      cases hr : Region.ready .any ops listed with
      | nil => rfl
      | cons i rs =>
        have hi : i ∈ Region.ready .any ops listed := by rw [hr]; exact List.mem_cons_self
        obtain ⟨h0, o, ho, _⟩ := mem_ready.1 hi
        have hlt : i < ops.size := (Array.getElem?_eq_some_iff.1 ho).1
        have := hall i hlt
        have hi' : i < listed.size := by omega
        simp only [Array.getD, hi', dif_pos] at h0 this
        rw [h0] at this; cases this
    | succ fuel ih =>
      intro listed a W hs hdc hc h
      have one : ∀ i, i ∈ Region.ready .any ops listed → ∃ o, ops[i]? = some o ∧ i < listed.size ∧ listed.getD i false = false ∧ (∀ j, need j i → listed.getD j false = true) ∧
          (∀ (j : Nat) (p : Oper), (listed.setIfInBounds i true).getD j false = true → ops[j]? = some p → ∀ e ∈ p.after.toList, Region.binds .any e = true → (listed.setIfInBounds i true).getD e.on false = true) ∧
          (listed.setIfInBounds i true).toList.countP (fun b => !b) ≤ fuel := by
        intro i hi
        obtain ⟨h0, o, ho, hed'⟩ := mem_ready.1 hi
        have hlt : i < ops.size := (Array.getElem?_eq_some_iff.1 ho).1
        have hi' : i < listed.size := by omega
        have hn : listed.getD i false = false := by simp only [Array.getD, hi', dif_pos] at h0 ⊢; exact h0
        have hedl : ∀ e ∈ o.after.toList, Region.binds .any e = true → listed.getD e.on false = true := fun e he hb => hed' e (by simpa using he) hb
        have hneed := hnd listed hdc i o ho hedl
        have hdc' : ∀ (j : Nat) (p : Oper), (listed.setIfInBounds i true).getD j false = true → ops[j]? = some p → ∀ e ∈ p.after.toList, Region.binds .any e = true → (listed.setIfInBounds i true).getD e.on false = true := by
          intro j p hj hp e he hb
          rw [getD_or hi'] at hj ⊢
          rcases hj with hj | rfl
          · exact .inl (hdc j p hj hp e he hb)
          · rw [ho] at hp; cases hp; exact .inl (hedl e he hb)
        refine ⟨o, ho, hi', hn, hneed, hdc', ?_⟩
        have hg : listed.toList[i]'(by simpa using hi') = false := by
          simp only [Array.getD, hi', dif_pos] at hn; simpa using hn
        have e1 : listed.toList = listed.toList.take i ++ false :: listed.toList.drop (i + 1) := by
          conv => lhs; rw [← List.take_append_drop i listed.toList, List.drop_eq_getElem_cons (by simpa using hi'), hg]
        have e2 : (listed.setIfInBounds i true).toList = listed.toList.take i ++ true :: listed.toList.drop (i + 1) := by
          rw [Array.toList_setIfInBounds, List.set_eq_take_append_cons_drop, if_pos (by simpa using hi')]
        rw [e1] at hc
        rw [e2]
        simp only [List.countP_append, List.countP_cons, Bool.not_false, Bool.not_true, if_true] at hc ⊢
        simp at hc ⊢
        omega
      by_cases hL : ∃ l, lt l = true ∧ l ∈ Region.ready .any ops listed
      · obtain ⟨l, hll, hlr⟩ := hL
        obtain ⟨o, ho, hi', hn, hneed, hdc', hc'⟩ := one l hlr
        obtain ⟨o', ho', hg, ⟨x, n, hop⟩, hlm, hns, ⟨ls, hfr, hls, hln⟩, _⟩ := hlt l hll
        rw [ho] at ho'; cases ho'
        obtain ⟨g, st⟩ : ∃ g, Stand ops S w0 a0 m φ Ψ mn need (fun i => listed.getD i false = true) a g W := by
          rcases h with st | ⟨k, hmk, hkk, _⟩
          · exact st
          · have := (hkk l).2 (by omega); rw [hn] at this; cases this
        have hob := bk.stepR ft hN st hlm (by simp [hn]) hneed (K := fun a' W' => ∃ g', Stand ops S w0 a0 m φ Ψ mn need (fun j => listed.getD j false = true ∨ j = l) a' g' W') fun a' g' W' st' => ⟨g', st'⟩
        have hol : ops[l]'(Nat.lt_of_lt_of_le hlm bk.le) = o := by
          have := (Array.getElem?_eq_some_iff.1 ho).2; exact this
        rw [hol] at hob
        obtain ⟨v, hv, g', st'⟩ := ext_pure hg hop hob
        refine wpAny_first ho (Region.noSelect_spec hns) (fun c a w hp => absurd hp (hQ c _ w)) fuel listed a W (fun j oj hj hne hun hno => Region.free_spec ho hfr j oj hj hne (by
          have hjs := (Array.getElem?_eq_some_iff.1 hj).1
          have h1 : j < ls.size := by omega
          have h2 : j < listed.size := by omega
          cases hq : ls.getD j false with
          | true => have := hneed j (hln j hq); simp only [Array.getD, h2, dif_pos] at this hun; rw [this] at hun; cases hun
          | false => simp only [Array.getD, h1, dif_pos] at hq ⊢; exact hq) hno) hlr hv ?_
        exact ih _ _ W (by simpa using hs) hdc' hc' (.inl ⟨g', st'.congr fun j => (getD_or hi').symm⟩)
      refine ⟨fun hr => done listed a W (all_of listed hs hr) hs h, fun i hi => ?_⟩
      obtain ⟨h0, o, ho, hed'⟩ := mem_ready.1 hi
      have hlt' : i < ops.size := (Array.getElem?_eq_some_iff.1 ho).1
      have hi' : i < listed.size := by omega
      have hn : listed.getD i false = false := by simp only [Array.getD, hi', dif_pos] at h0 ⊢; exact h0
      have hedl : ∀ e ∈ o.after.toList, Region.binds .any e = true → listed.getD e.on false = true := fun e he hb => hed' e (by simpa using he) hb
      have hneed := hnd listed hdc i o ho hedl
      have hdc' : ∀ (j : Nat) (p : Oper), (listed.setIfInBounds i true).getD j false = true → ops[j]? = some p → ∀ e ∈ p.after.toList, Region.binds .any e = true → (listed.setIfInBounds i true).getD e.on false = true := by
        intro j p hj hp e he hb
        rw [getD_or hi'] at hj ⊢
        rcases hj with hj | rfl
        · exact .inl (hdc j p hj hp e he hb)
        · rw [ho] at hp; cases hp; exact .inl (hedl e he hb)
      have hc' : (listed.setIfInBounds i true).toList.countP (fun b => !b) ≤ fuel := by
        have hg : listed.toList[i]'(by simpa using hi') = false := by
          simp only [Array.getD, hi', dif_pos] at hn; simpa using hn
        have e1 : listed.toList = listed.toList.take i ++ false :: listed.toList.drop (i + 1) := by
          conv => lhs; rw [← List.take_append_drop i listed.toList, List.drop_eq_getElem_cons (by simpa using hi'), hg]
        have e2 : (listed.setIfInBounds i true).toList = listed.toList.take i ++ true :: listed.toList.drop (i + 1) := by
          rw [Array.toList_setIfInBounds, List.set_eq_take_append_cons_drop, if_pos (by simpa using hi')]
        rw [e1] at hc
        rw [e2]
        simp only [List.countP_append, List.countP_cons, Bool.not_false, Bool.not_true, if_true] at hc ⊢
        simp at hc ⊢
        omega
      by_cases him : i < m
      · obtain ⟨g, st⟩ : ∃ g, Stand ops S w0 a0 m φ Ψ mn need (fun i => listed.getD i false = true) a g W := by
          rcases h with st | ⟨k, hmk, hkk, _⟩
          · exact st
          · have := (hkk i).2 (by omega); rw [hn] at this; cases this
        exact bk.step ft hN st him (by simp [hn]) hneed fun a' g' W' st' =>
          ih _ a' W' (by simpa using hs) hdc' hc' (.inl ⟨g', st'.congr fun j => (getD_or hi').symm⟩)
      · have hj : ∀ j, j < i → listed.getD j false = true := fun j hj => by
          rcases ft.tail i j hlt' hj (by omega) with h1 | h1
          · exact hneed j h1
          · cases hl : listed.getD j false with
            | true => rfl
            | false =>
              obtain ⟨oj, hoj, _, _, _, _, _, hpre⟩ := hlt j h1
              refine absurd ⟨j, h1, mem_ready.2 ⟨?_, oj, hoj, fun e he hb => hneed e.on (hpre e (by simpa using he) hb i (by omega) hlt')⟩⟩ hL
              have h' : j < listed.size := by omega
              simp only [Array.getD, h', dif_pos] at hl ⊢
              exact hl
        obtain ⟨hE, ht⟩ := isB listed a W i hlt' (by omega) hj hn h
        rw [List.drop_eq_getElem_cons (by simpa using hlt')] at ht
        have ho' : ops[i] = o := by simpa [hlt'] using ho
        refine ObRun.wpOp ho (by rw [← ho']; exact ht) fun v W' hv => ih _ _ _ (by simpa using hs) hdc' hc' (.inr ⟨i + 1, by omega, fun j => ?_, by rw [← ho']; exact hv⟩)
        rw [getD_or hi', hE]; omega
  refine main ops.size _ a0 W (by simp) ?_ ?_ (.inl ⟨[], (stand_zero hk hψ).congr fun j => ?_⟩)
  · intro i o h
    simp only [Array.getD] at h
    split at h <;> simp at h
  · exact Nat.le_trans List.countP_le_length (by simp)
  · constructor
    · exact fun h => h.elim
    · intro h
      simp only [Array.getD] at h
      split at h <;> simp at h
theorem mask_bit {B : Array Nat} {j : Nat} : ∀ (es : List Edge) (s : Nat), (es.foldl (fun s e => if Region.binds .any e then s ||| 2 ^ e.on ||| B.getD e.on 0 else s) s).testBit j = true →
    s.testBit j = true ∨ ∃ e ∈ es, Region.binds .any e = true ∧ (e.on = j ∨ (B.getD e.on 0).testBit j = true)
  | [], s, h => .inl h
  | e :: es, s, h => by
    rw [List.foldl_cons] at h
    rcases mask_bit es _ h with h | ⟨e', he', hb, hj⟩
    · by_cases hb : Region.binds .any e = true
      · rw [if_pos hb, Nat.testBit_or, Nat.testBit_or] at h
        simp only [Bool.or_eq_true] at h
        rcases h with (h | h) | h
        · exact .inl h
        · exact .inr ⟨e, List.mem_cons_self, hb, .inl (by rw [Nat.testBit_two_pow] at h; simpa using h)⟩
        · exact .inr ⟨e, List.mem_cons_self, hb, .inr h⟩
      · rw [if_neg hb] at h; exact .inl h
    · exact .inr ⟨e', List.mem_cons_of_mem _ he', hb, hj⟩
theorem chk_fits {drawn : Bool} {B : Array Nat} {ms : List Bool} {lt : Nat → Bool} (h : chkW lt drawn B N ops ms m = true) :
    Fits ops N m (fun i => ms.getD i false) lt (fun j i => nd drawn B j i = true) := by
  unfold chkW at h
  rw [List.all_eq_true] at h
  have get : ∀ i o, ops[i]? = some o → i < ops.size := fun i o ho => (Array.getElem?_eq_some_iff.1 ho).1
  have one : ∀ i o, ops[i]? = some o → (match o.dst with | some d => decide (d < N) | none => true) = true ∧
      ∀ j p, j ≠ i → ops[j]? = some p → (match p.dst with
            | none => true
            | some t => o.dst != some t && (!(o.looksAt ops).contains t || (if j < i then nd drawn B j i else nd drawn B i j))) = true ∧
          (!(decide (j < i) && decide (m ≤ i)) || nd drawn B j i || lt j) = true ∧
          (!(decide (j < i) && ms.getD i false && ms.getD j false) || nd drawn B j i) = true := by
    intro i o ho
    have hi := h i (List.mem_range.2 (get i o ho))
    simp only [ho, Bool.and_eq_true, List.all_eq_true, List.mem_range] at hi
    refine ⟨hi.1.1, fun j p hji hp => ?_⟩
    have hj := hi.2 j (get j p hp)
    have hne : (j == i) = false := by simpa using hji
    simp only [hne, Bool.false_or, hp, Bool.and_eq_true] at hj
    exact ⟨hj.1.1, hj.1.2, hj.2⟩
  refine ⟨fun i o d ho hd => ?_, fun i j o p t hij ho hp hd => ?_, fun i j o p t hij ho hp hd ht => ?_, fun i j hi hji hm => ?_, fun i j hi hji him h1 h2 => ?_⟩
  · have := (one i o ho).1
    rw [hd] at this; simpa using this
  · have := ((one i o ho).2 j p (Ne.symm hij) hp).1
    rw [hd] at this
    simp only [Bool.and_eq_true] at this
    simpa using this.1
  · have := ((one i o ho).2 j p (Ne.symm hij) hp).1
    rw [hd] at this
    simp only [Bool.and_eq_true, Bool.or_eq_true] at this
    have h2 := this.2.resolve_left (by simp [ht])
    split at h2
    · exact .inl ⟨by assumption, h2⟩
    · exact .inr ⟨by omega, h2⟩
  · have := ((one i ops[i] (by simp [hi])).2 j ops[j] (by omega) (by simp)).2.1
    simp only [hji, hm, decide_true, Bool.true_and, Bool.not_true, Bool.false_or, Bool.or_eq_true] at this
    exact this
  · have := ((one i ops[i] (by simp [hi])).2 j ops[j] (by omega) (by simp)).2.2
    simp only [hji, decide_true, Bool.true_and] at this
    rw [h1, h2] at this
    simpa using this
theorem late_spec {B : Array Nat} {l : Nat} (h : lateOk B ops m l = true) : ∃ o, ops[l]? = some o ∧ o.guard = none ∧ (∃ x n, o.op = .extract x n) ∧ l < m ∧ Region.noSelect ops = true ∧ (∃ ls : Array Bool, Region.free .any ops ls l = true ∧ ls.size = ops.size ∧ ∀ j, ls.getD j false = true → nd true B j l = true) ∧
      ∀ e ∈ o.after.toList, Region.binds .any e = true → ∀ i, m ≤ i → i < ops.size → nd true B e.on i = true := by
  unfold lateOk at h
  cases ho : ops[l]? with
  | none => rw [ho] at h; cases h
  | some o =>
    rw [ho] at h
    simp only [Bool.and_eq_true, decide_eq_true_eq, List.all_eq_true] at h
    obtain ⟨⟨⟨⟨⟨h1, h2⟩, h3⟩, h4⟩, h5⟩, h6⟩ := h
    refine ⟨o, rfl, by simpa using h1, ?_, h3, h4, ⟨_, h5, by simp, fun j hj => ?_⟩, fun e he hb i hmi hi => ?_⟩
    · cases hop : o.op <;> rw [hop] at h2 <;> simp at h2
      exact ⟨_, _, rfl⟩
    · simp only [Array.getD] at hj
      split at hj
      · simpa using hj
      · cases hj
    · have := h6 e he
      rw [hb] at this
      simp only [Bool.not_true, Bool.false_or, List.all_eq_true, List.mem_range] at this
      have := this i hi
      simpa [hmi] using this
theorem chk_edges {B : Array Nat} {ms : List Bool} {lt : Nat → Bool} (h : chkW lt true B N ops ms m = true) (i : Nat) (o : Oper) (ho : ops[i]? = some o) :
    B.getD i 0 = maskOf B o.after.toList ∧ ∀ e ∈ o.after.toList, Region.binds .any e = true → e.on < i := by
  unfold chkW at h
  rw [List.all_eq_true] at h
  have hi := h i (List.mem_range.2 (Array.getElem?_eq_some_iff.1 ho).1)
  simp only [ho, Bool.and_eq_true, Bool.not_true, Bool.false_or, beq_iff_eq, List.all_eq_true] at hi
  exact ⟨hi.1.2.1, fun e he hb => by have := hi.1.2.2 e he; rw [hb] at this; simpa using this⟩
theorem need_listed {B : Array Nat} {ms : List Bool} {lt : Nat → Bool} (h : chkW lt true B N ops ms m = true) (listed : Array Bool)
    (hdc : ∀ (i : Nat) (o : Oper), listed.getD i false = true → ops[i]? = some o → ∀ e ∈ o.after.toList, Region.binds .any e = true → listed.getD e.on false = true) :
    ∀ (i : Nat) (o : Oper), ops[i]? = some o → (∀ e ∈ o.after.toList, Region.binds .any e = true → listed.getD e.on false = true) → ∀ j, nd true B j i = true → listed.getD j false = true := by
  intro i
  induction i using Nat.strongRecOn with
  | _ i ih =>
    intro o ho hed j hj
    obtain ⟨he, hlt⟩ := chk_edges h i o ho
    simp only [nd, if_true] at hj
    rw [he] at hj
    rcases mask_bit _ _ hj with h0 | ⟨e, hem, hb, h1⟩
    · simp at h0
    · have hel := hed e hem hb
      rcases h1 with h1 | h1
      · exact h1 ▸ hel
      · have hlt' := hlt e hem hb
        have hes : e.on < ops.size := Nat.lt_trans hlt' (Array.getElem?_eq_some_iff.1 ho).1
        exact ih e.on hlt' ops[e.on] (by simp [hes]) (hdc e.on _ hel (by simp [hes])) j (by simp only [nd, if_true]; exact h1)
end
inductive Chain (P : Program) (ops : Array Oper) (S : Nat → Prop) (w0 : World) (a0 : Act) (K : List Oper → Ctx → (World → Prop) → List Bool → Prop) : Bool → List Oper → Ctx → (World → Prop) → List Bool → Prop where
  | done {f : Bool} {l : List Oper} {Γ : Ctx} {Ψ : World → Prop} {ms : List Bool} : K l Γ Ψ ms → Chain P ops S w0 a0 K f l Γ Ψ ms
  | side {f : Bool} {o : Oper} {l : List Oper} {Γ : Ctx} {Ψ : World → Prop} {ms : List Bool} (φ : Fact) : Stable S φ →
      (∀ a g W, Keeps S w0 W → GOk w0 W g → Env Γ a0 a g W (o.looksAt ops) → ObRun P ops o a W fun v W' => Ext W W' ∧ φ g v W') →
      Chain P ops S w0 a0 K f l ((o.dst, φ) :: Γ) Ψ (false :: ms) → Chain P ops S w0 a0 K f (o :: l) Γ Ψ ms
  | box {f : Bool} {o : Oper} {l : List Oper} {Γ : Ctx} {Ψ : World → Prop} {ms : List Bool} (φ : Fact) (t : Nat) : Stable S φ → o.dst = some t →
      (∀ a g W, Keeps S w0 W → GOk w0 W g → Env Γ a0 a g W (o.looksAt ops) → ObRun P ops o a W fun v W' => Ext W W' ∧ W.heap.size < W'.heap.size ∧ φ ((t, W.heap.size) :: g) v W') →
      Chain P ops S w0 a0 K f l ((o.dst, φ) :: Γ) Ψ (false :: ms) → Chain P ops S w0 a0 K f (o :: l) Γ Ψ ms
  | main {o : Oper} {l : List Oper} {Γ : Ctx} {Ψ : World → Prop} {ms : List Bool} (φ : Fact) (Ψ' : World → Prop) : Stable S φ → StableE Ψ' →
      (∀ a g W, Keeps S w0 W → GOk w0 W g → Env Γ a0 a g W (o.looksAt ops) → Ψ W → ObRun P ops o a W fun v W' => Keeps S W W' ∧ φ g v W' ∧ Ψ' W') →
      Chain P ops S w0 a0 K false l ((o.dst, φ) :: Γ) Ψ' (true :: ms) → Chain P ops S w0 a0 K false (o :: l) Γ Ψ ms
  | last {o : Oper} {l : List Oper} {Γ : Ctx} {Ψ : World → Prop} {ms : List Bool} (φ : Fact) (Ψ' : World → Prop) : Stable All φ → StableE Ψ' →
      (∀ a g W, Keeps S w0 W → GOk w0 W g → Env Γ a0 a g W (o.looksAt ops) → Ψ W → ObRun P ops o a W fun v W' => Keeps S W W' ∧ φ g v W' ∧ Ψ' W') →
      Chain P ops S w0 a0 K true l ((o.dst, φ) :: Γ) Ψ' (true :: ms) → Chain P ops S w0 a0 K false (o :: l) Γ Ψ ms
  | aft {o : Oper} {l : List Oper} {Γ : Ctx} {Ψ : World → Prop} {ms : List Bool} (φ : Fact) (i0 : Nat) : Stable All φ → Dep ops i0 ms.length → i0 < ms.length → ms.reverse.getD i0 false = true → (∀ k, i0 < k → k < ms.length → ms.reverse.getD k false = false) →
      (∀ a g W, Keeps S w0 W → GOk w0 W g → Env Γ a0 a g W (o.looksAt ops) → ObRun P ops o a W fun v W' => Ext W W' ∧ φ g v W') →
      Chain P ops S w0 a0 K true l ((o.dst, φ) :: Γ) Ψ (false :: ms) → Chain P ops S w0 a0 K true (o :: l) Γ Ψ ms
section
variable {P : Program} {ops : Array Oper} {S : Nat → Prop} {w0 : World} {a0 : Act} {K : List Oper → Ctx → (World → Prop) → List Bool → Prop}
def upd {α : Type} (f : Nat → α) (i : Nat) (x : α) : Nat → α := fun j => if j = i then x else f j
theorem upd_same {α : Type} (f : Nat → α) (i : Nat) (x : α) : upd f i x i = x := if_pos rfl
theorem upd_ne {α : Type} {f : Nat → α} {i : Nat} {x : α} {j : Nat} (h : j ≠ i) : upd f i x j = f j := if_neg h
theorem Book.more {i : Nat} {φ : Nat → Fact} {Γ : Nat → Ctx} {Ψ : Nat → World → Prop} {mn bx : Nat → Bool} (bk : Book P ops S w0 a0 i φ Γ Ψ mn bx) {o : Oper} (ho : ops[i]? = some o)
    {f : Fact} {Ψ' : World → Prop} {b c : Bool} (hs : Stable S f ∨ (Stable All f ∧ b = true) ∨ (Stable All f ∧ b = false ∧ ∃ i0, Dep ops i0 i ∧ i0 < i ∧ mn i0 = true ∧ ∀ k, i0 < k → k < i → mn k = false)) (hold : b = true → ∀ j, j < i → Stable S (φ j)) (hp : StableE Ψ') (hb : b = false → Ψ' = Ψ i)
    (hside : b = false → c = false → ∀ a g W, Keeps S w0 W → GOk w0 W g → Env (Γ i) a0 a g W (o.looksAt ops) → ObRun P ops o a W fun v W' => Ext W W' ∧ f g v W')
    (hbox : b = false → c = true → ∃ t, o.dst = some t ∧ ∀ a g W, Keeps S w0 W → GOk w0 W g → Env (Γ i) a0 a g W (o.looksAt ops) → ObRun P ops o a W fun v W' => Ext W W' ∧ W.heap.size < W'.heap.size ∧ f ((t, W.heap.size) :: g) v W')
    (hmain : b = true → ∀ a g W, Keeps S w0 W → GOk w0 W g → Env (Γ i) a0 a g W (o.looksAt ops) → Ψ i W → ObRun P ops o a W fun v W' => Keeps S W W' ∧ f g v W' ∧ Ψ' W') :
    Book P ops S w0 a0 (i + 1) (upd φ i f) (upd Γ (i + 1) ((o.dst, f) :: Γ i)) (upd Ψ (i + 1) Ψ') (upd mn i b) (upd bx i c) := by
  have hi : i < ops.size := (Array.getElem?_eq_some_iff.1 ho).1
  refine ⟨hi, ?_, ?_, ?_, ?_, ?_, ?_, ?_, ?_⟩
  · rw [upd_ne (by omega)]; exact bk.g0
  · intro j p hj hp'
    by_cases hji : j = i
    · subst hji; rw [ho] at hp'; cases hp'
      rw [upd_same, upd_same, upd_ne (by omega)]
    · rw [upd_ne (by omega), upd_ne hji, upd_ne (by omega)]; exact bk.gs j p (by omega) hp'
  · intro j hj hm
    by_cases hji : j = i
    · subst hji; rw [upd_same] at hm; rw [upd_same, upd_ne (by omega)]; exact hb hm
    · rw [upd_ne hji] at hm; rw [upd_ne (by omega), upd_ne (by omega)]; exact bk.ps j (by omega) hm
  · intro j hj
    by_cases hji : j = i
    · subst hji; rw [upd_same]
      rcases hs with hs | ⟨hs, hb'⟩ | ⟨hs, hb', i0, h1, h2, h3, h4⟩
      · exact .inl hs
      · exact .inr ⟨hs, j, .refl j, Nat.le_refl _, by rw [upd_same]; exact hb', fun k h1 h2 => by omega⟩
      · refine .inr ⟨hs, i0, h1, Nat.le_of_lt h2, by rw [upd_ne (by omega)]; exact h3, fun k hk1 hk2 => ?_⟩
        by_cases hki : k = j
        · subst hki; rw [upd_same]; exact hb'
        · rw [upd_ne hki]; exact h4 k hk1 (by omega)
    · rw [upd_ne hji]
      rcases bk.sf j (by omega) with h | ⟨h1, i0, h0, h00, h2, h3⟩
      · exact .inl h
      · by_cases hbb : b = true
        · exact .inl (hold hbb j (by omega))
        · refine .inr ⟨h1, i0, h0, h00, by rw [upd_ne (by omega)]; exact h2, fun k hk1 hk2 => ?_⟩
          by_cases hki : k = i
          · subst hki; rw [upd_same]; simpa using hbb
          · rw [upd_ne hki]; exact h3 k hk1 (by omega)
  · intro j hj
    by_cases hji : j = i + 1
    · subst hji; rw [upd_same]; exact hp
    · rw [upd_ne hji]; exact bk.sp j (by omega)
  · intro j p hj hp' hm hc
    by_cases hji : j = i
    · subst hji; rw [ho] at hp'; cases hp'
      rw [upd_same] at hm hc; rw [upd_same, upd_ne (by omega)]; exact hside hm hc
    · rw [upd_ne hji] at hm hc; rw [upd_ne hji, upd_ne (by omega)]; exact bk.side j p (by omega) hp' hm hc
  · intro j p hj hp' hm hc
    by_cases hji : j = i
    · subst hji; rw [ho] at hp'; cases hp'
      rw [upd_same] at hm hc; rw [upd_same, upd_ne (by omega)]; exact hbox hm hc
    · rw [upd_ne hji] at hm hc; rw [upd_ne hji, upd_ne (by omega)]; exact bk.box j p (by omega) hp' hm hc
  · intro j p hj hp' hm
    by_cases hji : j = i
    · subst hji; rw [ho] at hp'; cases hp'
      rw [upd_same] at hm; rw [upd_same, upd_same, upd_ne (by omega), upd_ne (by omega)]; exact hmain hm
    · rw [upd_ne hji] at hm; rw [upd_ne hji, upd_ne (by omega), upd_ne (by omega), upd_ne (by omega)]; exact bk.main j p (by omega) hp' hm
theorem Chain.out {fl : Bool} {l : List Oper} {G : Ctx} {Y : World → Prop} {ms : List Bool} (h : Chain P ops S w0 a0 K fl l G Y ms) :
    ∀ (φ : Nat → Fact) (Γ : Nat → Ctx) (Ψ : Nat → World → Prop) (mn bx : Nat → Bool), Book P ops S w0 a0 ms.length φ Γ Ψ mn bx → Γ ms.length = G → Ψ ms.length = Y → l = ops.toList.drop ms.length →
      (∀ j, j < ms.length → mn j = ms.reverse.getD j false) → (fl = false → ∀ j, j < ms.length → Stable S (φ j)) →
      ∃ (m : Nat) (φ : Nat → Fact) (Γ : Nat → Ctx) (Ψ' : Nat → World → Prop) (mn bx : Nat → Bool) (ms' : List Bool), Book P ops S w0 a0 m φ Γ Ψ' mn bx ∧ K (ops.toList.drop m) (Γ m) (Ψ' m) ms' ∧ ms'.length = m ∧
        (∀ j, j < m → mn j = ms'.reverse.getD j false) ∧ Ψ' 0 = Ψ 0 := by
  induction h with
  | done hk => intro φ Γ Ψ mn bx bk hg hy hl hm hfl; subst hg; subst hy; exact ⟨_, φ, Γ, Ψ, mn, bx, _, bk, hl ▸ hk, rfl, hm, rfl⟩
  | @side fl o l G Y ms f hs hrun _ ih =>
    intro φ Γ Ψ mn bx bk hg hy hl hm hfl
    have hlt : ms.length < ops.size := by
      rcases Nat.lt_or_ge ms.length ops.size with h | h
      · exact h
      · rw [List.drop_eq_nil_of_le (by simpa using h)] at hl; cases hl
    rw [List.drop_eq_getElem_cons (by simpa using hlt)] at hl
    injection hl with h1 h2
    have ho : ops[ms.length]? = some o := by rw [h1]; simp [hlt]
    obtain ⟨m, φ', Γ', Ψ', mn', bx', ms', h1, h2, h3, h4, h5⟩ := ih _ _ _ _ _ (bk.more (b := false) (c := false) ho (.inl hs) (fun h => by cases h) (bk.sp _ (Nat.le_refl _)) (fun _ => rfl) (fun _ _ => by rw [hg]; exact hrun) (fun _ h => by cases h) (fun h => by cases h)) (by simp [upd, hg]) (by simp [upd, hy]) h2 (by
      intro j hj
      simp only [List.length_cons] at hj
      by_cases hji : j = ms.length
      · subst hji; rw [upd_same]; simp [List.getD]
      · rw [upd_ne hji, hm j (by omega), List.reverse_cons]
        simp only [List.getD]; rw [List.getElem?_append_left (by simp; omega)]) (by
      intro hf j hj
      simp only [List.length_cons] at hj
      by_cases hji : j = ms.length
      · subst hji; rw [upd_same]; exact hs
      · rw [upd_ne hji]; exact hfl hf j (by omega))
    exact ⟨m, φ', Γ', Ψ', mn', bx', ms', h1, h2, h3, h4, by rw [h5, upd_ne (by omega)]⟩
  | @box fl o l G Y ms f t hs ht hrun _ ih =>
    intro φ Γ Ψ mn bx bk hg hy hl hm hfl
    have hlt : ms.length < ops.size := by
      rcases Nat.lt_or_ge ms.length ops.size with h | h
      · exact h
      · rw [List.drop_eq_nil_of_le (by simpa using h)] at hl; cases hl
    rw [List.drop_eq_getElem_cons (by simpa using hlt)] at hl
    injection hl with h1 h2
    have ho : ops[ms.length]? = some o := by rw [h1]; simp [hlt]
    obtain ⟨m, φ', Γ', Ψ', mn', bx', ms', h1, h2, h3, h4, h5⟩ := ih _ _ _ _ _ (bk.more (b := false) (c := true) ho (.inl hs) (fun h => by cases h) (bk.sp _ (Nat.le_refl _)) (fun _ => rfl) (fun _ h => by cases h) (fun _ _ => ⟨t, ht, by rw [hg]; exact hrun⟩) (fun h => by cases h)) (by simp [upd, hg]) (by simp [upd, hy]) h2 (by
      intro j hj
      simp only [List.length_cons] at hj
      by_cases hji : j = ms.length
      · subst hji; rw [upd_same]; simp [List.getD]
      · rw [upd_ne hji, hm j (by omega), List.reverse_cons]
        simp only [List.getD]; rw [List.getElem?_append_left (by simp; omega)]) (by
      intro hf j hj
      simp only [List.length_cons] at hj
      by_cases hji : j = ms.length
      · subst hji; rw [upd_same]; exact hs
      · rw [upd_ne hji]; exact hfl hf j (by omega))
    exact ⟨m, φ', Γ', Ψ', mn', bx', ms', h1, h2, h3, h4, by rw [h5, upd_ne (by omega)]⟩
  | @main o l G Y ms f Y' hs hsy hrun _ ih =>
    intro φ Γ Ψ mn bx bk hg hy hl hm hfl
    have hlt : ms.length < ops.size := by
      rcases Nat.lt_or_ge ms.length ops.size with h | h
      · exact h
      · rw [List.drop_eq_nil_of_le (by simpa using h)] at hl; cases hl
    rw [List.drop_eq_getElem_cons (by simpa using hlt)] at hl
    injection hl with h1 h2
    have ho : ops[ms.length]? = some o := by rw [h1]; simp [hlt]
    obtain ⟨m, φ', Γ', Ψ', mn', bx', ms', h1, h2, h3, h4, h5⟩ := ih _ _ _ _ _ (bk.more (b := true) (c := false) ho (.inl hs) (fun _ => hfl rfl) hsy (fun h => by cases h) (fun h => by cases h) (fun h => by cases h) (fun _ => by rw [hg, hy]; exact hrun)) (by simp [upd, hg]) (by simp [upd]) h2 (by
      intro j hj
      simp only [List.length_cons] at hj
      by_cases hji : j = ms.length
      · subst hji; rw [upd_same]; simp [List.getD]
      · rw [upd_ne hji, hm j (by omega), List.reverse_cons]
        simp only [List.getD]; rw [List.getElem?_append_left (by simp; omega)]) (by
      intro hf j hj
      simp only [List.length_cons] at hj
      by_cases hji : j = ms.length
      · subst hji; rw [upd_same]; exact hs
      · rw [upd_ne hji]; exact hfl hf j (by omega))
    exact ⟨m, φ', Γ', Ψ', mn', bx', ms', h1, h2, h3, h4, by rw [h5, upd_ne (by omega)]⟩
  | @last o l G Y ms f Y' hs hsy hrun _ ih =>
    intro φ Γ Ψ mn bx bk hg hy hl hm hfl
    have hlt : ms.length < ops.size := by
      rcases Nat.lt_or_ge ms.length ops.size with h | h
      · exact h
      · rw [List.drop_eq_nil_of_le (by simpa using h)] at hl; cases hl
    rw [List.drop_eq_getElem_cons (by simpa using hlt)] at hl
    injection hl with h1 h2
    have ho : ops[ms.length]? = some o := by rw [h1]; simp [hlt]
    obtain ⟨m, φ', Γ', Ψ', mn', bx', ms', h1, h2, h3, h4, h5⟩ := ih _ _ _ _ _ (bk.more (b := true) (c := false) ho (.inr (.inl ⟨hs, rfl⟩)) (fun _ => hfl rfl) hsy (fun h => by cases h) (fun h => by cases h) (fun h => by cases h) (fun _ => by rw [hg, hy]; exact hrun)) (by simp [upd, hg]) (by simp [upd]) h2 (by
      intro j hj
      simp only [List.length_cons] at hj
      by_cases hji : j = ms.length
      · subst hji; rw [upd_same]; simp [List.getD]
      · rw [upd_ne hji, hm j (by omega), List.reverse_cons]
        simp only [List.getD]; rw [List.getElem?_append_left (by simp; omega)]) (fun h => by cases h)
    exact ⟨m, φ', Γ', Ψ', mn', bx', ms', h1, h2, h3, h4, by rw [h5, upd_ne (by omega)]⟩

  | @aft o l G Y ms f i0 hs hdp hi0 hmi hmk hrun _ ih =>
    intro φ Γ Ψ mn bx bk hg hy hl hm hfl
    have hlt : ms.length < ops.size := by
      rcases Nat.lt_or_ge ms.length ops.size with h | h
      · exact h
      · rw [List.drop_eq_nil_of_le (by simpa using h)] at hl; cases hl
    rw [List.drop_eq_getElem_cons (by simpa using hlt)] at hl
    injection hl with h1 h2
    have ho : ops[ms.length]? = some o := by rw [h1]; simp [hlt]
    obtain ⟨m, φ', Γ', Ψ', mn', bx', ms', h1, h2, h3, h4, h5⟩ := ih _ _ _ _ _ (bk.more (b := false) (c := false) ho (.inr (.inr ⟨hs, rfl, i0, hdp, hi0, (hm i0 hi0).trans hmi, fun k hk1 hk2 => (hm k hk2).trans (hmk k hk1 hk2)⟩)) (fun h => by cases h) (bk.sp _ (Nat.le_refl _)) (fun _ => rfl) (fun _ _ => by rw [hg]; exact hrun) (fun _ h => by cases h) (fun h => by cases h)) (by simp [upd, hg]) (by simp [upd, hy]) h2 (by
      intro j hj
      simp only [List.length_cons] at hj
      by_cases hji : j = ms.length
      · subst hji; rw [upd_same]; simp [List.getD]
      · rw [upd_ne hji, hm j (by omega), List.reverse_cons]
        simp only [List.getD]; rw [List.getElem?_append_left (by simp; omega)]) (fun h => by cases h)
    exact ⟨m, φ', Γ', Ψ', mn', bx', ms', h1, h2, h3, h4, by rw [h5, upd_ne (by omega)]⟩
structure Fin (P : Program) (ops : Array Oper) (Q : Exit → Act → World → Prop) (S : Nat → Prop) (w0 : World) (a0 : Act) (drawn : Bool) (N : Nat) (l : List Oper) (Γ : Ctx) (Ψ : World → Prop) (ms : List Bool) : Prop where
  ok : chk drawn (Region.before ops) N ops ms.reverse ms.length = true
  go : ∀ a g W, a.tmps.size = N → a.defers = [] → Keeps S w0 W → GOk w0 W g → EnvAll a g W Γ → (∀ t, notIn Γ t = true → sl a t = sl a0 t) → Ψ W → runTail P ops Q l a W
theorem envAll_of {m : Nat} {φ : Nat → Fact} {Γ : Nat → Ctx} {Ψ : Nat → World → Prop} {mn bx : Nat → Bool} {need : Nat → Nat → Prop} (bk : Book P ops S w0 a0 m φ Γ Ψ mn bx) {a : Act} {g : Gh} {W : World}
    (st : Stand ops S w0 a0 m φ Ψ mn need (fun i => i < m) a g W) : ∀ i, i ≤ m → EnvAll a g W (Γ i) := by
  intro i
  induction i with
  | zero => intro _; rw [bk.g0]; trivial
  | succ i ih =>
    intro hi
    have hlt : i < ops.size := Nat.lt_of_lt_of_le hi bk.le
    have ho : ops[i]? = some ops[i] := by simp [hlt]
    rw [bk.gs i _ hi ho]
    cases hd : ops[i].dst with
    | none => exact ih (by omega)
    | some d => exact ⟨st.fact i _ d hi ho hd, ih (by omega)⟩
theorem notIn_of {m : Nat} {φ : Nat → Fact} {Γ : Nat → Ctx} {Ψ : Nat → World → Prop} {mn bx : Nat → Bool} (bk : Book P ops S w0 a0 m φ Γ Ψ mn bx) {t : Nat} : ∀ i, i ≤ m → notIn (Γ i) t = true → ∀ (j : Nat) (o : Oper), j < i → ops[j]? = some o → o.dst ≠ some t := by
  intro i
  induction i with
  | zero => intro _ _ j o hj; omega
  | succ i ih =>
    intro hi h j o hj hoj
    have hlt : i < ops.size := Nat.lt_of_lt_of_le hi bk.le
    have ho : ops[i]? = some ops[i] := by simp [hlt]
    rw [bk.gs i _ hi ho] at h
    cases hd : ops[i].dst with
    | none =>
      rw [hd] at h; simp only [notIn] at h
      rcases Nat.lt_succ_iff_lt_or_eq.1 hj with h1 | h1
      · exact ih (by omega) h j o h1 hoj
      · subst h1; rw [ho] at hoj; cases hoj; rw [hd]; simp
    | some d =>
      rw [hd] at h; simp only [notIn, Bool.and_eq_true] at h
      rcases Nat.lt_succ_iff_lt_or_eq.1 hj with h1 | h1
      · exact ih (by omega) h.2 j o h1 hoj
      · subst h1; rw [ho] at hoj; cases hoj; rw [hd]; simpa using h.1
theorem Stand.go {m N : Nat} {φ : Nat → Fact} {Γ : Nat → Ctx} {Ψ : Nat → World → Prop} {mn bx : Nat → Bool} {need : Nat → Nat → Prop} {Q : Exit → Act → World → Prop} {drawn : Bool} {l : List Oper} {ms : List Bool} (bk : Book P ops S w0 a0 m φ Γ Ψ mn bx) {a : Act} {g : Gh} {W : World}
    (st : Stand ops S w0 a0 m φ Ψ mn need (fun i => i < m) a g W) (hN : a0.tmps.size = N) (hd : a0.defers = []) (f : Fin P ops Q S w0 a0 drawn N l (Γ m) (Ψ m) ms) : runTail P ops Q l a W := by
  refine f.go a g W (st.size.trans hN) (st.defers.trans hd) st.keeps st.gok (envAll_of bk st m (Nat.le_refl _)) (fun t ht => st.rest t fun i o hi ho => notIn_of bk m (Nat.le_refl _) ht i o hi ho) ?_
  obtain ⟨q, hq, hall, hψ⟩ := st.ψ
  have : Ψ m = Ψ q := bk.psi_eq hq (Nat.le_refl _) fun j h1 h2 => by
    cases hm : mn j with
    | false => rfl
    | true => have := (hall j h2 hm).1 h2; omega
  rw [this]; exact hψ
theorem fits_congr {m N : Nat} {mn mn' lt : Nat → Bool} {need : Nat → Nat → Prop} (f : Fits ops N m mn lt need) (h : ∀ j, j < m → mn' j = mn j) : Fits ops N m mn' lt need :=
  ⟨f.inb, f.uniq, f.looks, f.tail, fun i j hi hji him h1 h2 => f.mains i j hi hji him ((h i him).symm.trans h1) ((h j (by omega)).symm.trans h2)⟩
theorem wp_reg {drawn : Bool} {id N : Nat} {Q : Exit → Act → World → Prop} {Ψ : World → Prop} (S : Nat → Prop) (hm : P.follows .mixedOrders = true) (hN : a0.tmps.size = N) (hd : a0.defers = []) (hsp : StableE Ψ) (hψ : Ψ w0)
    (h : Chain P ops S w0 a0 (Fin P ops Q S w0 a0 drawn N) false ops.toList [] Ψ []) : (Code.region id ops drawn).wp P Q a0 w0 := by
  obtain ⟨m, φ, Γ, Ψ', mn, bx, ms, bk, f, rfl, hms, h0⟩ := h.out (fun _ _ _ _ => True) (fun _ => []) (fun _ => Ψ) (fun _ => false) (fun _ => false)
    ⟨Nat.zero_le _, rfl, fun _ _ h => by simp at h, fun _ _ _ => rfl, fun _ h => by simp at h, fun _ _ => hsp, fun _ _ h => by simp at h, fun _ _ h => by simp at h, fun _ _ h => by simp at h⟩ rfl rfl rfl (fun _ h => by simp at h) (fun _ _ h => by simp at h)
  have hψ0 : Ψ' 0 w0 := by rw [h0]; exact hψ
  have ft := fits_congr (chk_fits f.ok) hms
  cases drawn with
  | false =>
    have ft' : Fits ops N ms.length mn (fun j => false && lateOk (Region.before ops) ops ms.length j) (fun j i => j < i) := by
      have : (fun j i => nd false (Region.before ops) j i = true) = fun j i => j < i := by funext j i; simp [nd]
      rw [this] at ft; exact ft
    exact wp_region (bk.inOrder ft' hN (fun a g W st => st.go bk hN hd f) (.refl _ _) hψ0)
  | true =>
    refine Go.wp_mono (Q := fun e a w => e = .normal ∧ Q .normal a w) ?_ (fun e a w h => by obtain ⟨rfl, h⟩ := h; exact h)
    have hrt : ∀ (l : List Oper) (a : Act) (W : World), runTail P ops Q l a W → runTail P ops (fun e a w => e = .normal ∧ Q .normal a w) l a W := by
      intro l
      induction l with
      | nil => intro a W h; exact ⟨rfl, h⟩
      | cons o l ih => intro a W h; exact ObRun.mono h fun v W' h' => ih _ _ h'
    refine wp_region_any hm (bk.anyOrder ft hN (fun i o ho e he hb => (chk_edges f.ok i o ho).2 e he hb) (fun listed hdc i o ho hed j hj => need_listed f.ok listed hdc i o ho hed j hj) (fun l hl => late_spec (by simpa using hl)) (fun _ _ _ h => by cases h.1) (fun a g W st => hrt _ _ _ (st.go bk hN hd f)) (.drew _) ?_)
    exact hsp _ _ (Keeps.drew w0) hψ |> fun h => by rw [h0]; exact h
theorem tail_reg {ops' : Array Oper} {l : List Oper} {N : Nat} {Q : Exit → Act → World → Prop} {Ψ : World → Prop} (k : Nat) (S : Nat → Prop) (hN : a0.tmps.size = N) (hd : a0.defers = []) (hsp : StableE Ψ) (hψ : Ψ w0) (hgd : ((l.take k).all fun o => o.guard.isNone) = true)
    (h : Chain P (l.take k).toArray S w0 a0 (Fin P (l.take k).toArray (fun _ a W => runTail P ops' Q (l.drop k) a W) S w0 a0 false N) false (l.take k) [] Ψ []) : runTail P ops' Q l a0 w0 := by
  have key : ∀ ops : Array Oper, (∀ o ∈ ops.toList, o.guard.isNone = true) → Chain P ops S w0 a0 (Fin P ops (fun _ a W => runTail P ops' Q (l.drop k) a W) S w0 a0 false N) false ops.toList [] Ψ [] →
      runTail P ops' Q (ops.toList ++ l.drop k) a0 w0 := by
    intro ops hg h
    obtain ⟨m, φ, Γ, Ψ', mn, bx, ms, bk, f, rfl, hms, h0⟩ := h.out (fun _ _ _ _ => True) (fun _ => []) (fun _ => Ψ) (fun _ => false) (fun _ => false)
      ⟨Nat.zero_le _, rfl, fun _ _ h => by simp at h, fun _ _ _ => rfl, fun _ h => by simp at h, fun _ _ => hsp, fun _ _ h => by simp at h, fun _ _ h => by simp at h, fun _ _ h => by simp at h⟩ rfl rfl rfl (fun _ h => by simp at h) (fun _ _ h => by simp at h)
    have hψ0 : Ψ' 0 w0 := by rw [h0]; exact hψ
    have ft := fits_congr (chk_fits f.ok) hms
    have ft' : Fits ops N ms.length mn (fun j => false && lateOk (Region.before ops) ops ms.length j) (fun j i => j < i) := by
      have : (fun j i => nd false (Region.before ops) j i = true) = fun j i => j < i := by funext j i; simp [nd]
      rw [this] at ft; exact ft
    exact runTail_app _ _ _ (runTail_free _ _ _ hg (bk.inOrderR ft' hN (fun a g W st => st.go bk hN hd f) (.refl _ _) hψ0))
  have := key (l.take k).toArray (by simpa using hgd) h
  simpa using this
end
end Go.Eng
namespace Go.Eng
inductive D where
  | bool (b : Bool)
  | int (k : IntKind) (n : Int)
  | str (s : ByteArray)
  | lst (sz : Nat) (xs : List D)
  | agg (xs : List D)
abbrev BSet := Nat → Option Obj → Prop
def CellsAt (W : World) (b o : Nat) (cs : List Value) : Prop := ∀ i (h : i < cs.length), W.cell? ⟨b, o + i, none⟩ = some cs[i]
mutual
def RdC (W : World) (S : BSet) : D → List Value → Prop
  | .bool b, cs => cs = [.bool b]
  | .int k n, cs => cs = [.int k n]
  | .str s, cs => cs = [.string s] ∧ s.size ≤ maxLen
  | .lst sz xs, cs => ∃ a cap, cs = [.slice a xs.length cap] ∧ xs.length ≤ cap ∧ cap ≤ maxLen ∧
      (xs = [] ∨ ∃ b o, a = some ⟨b, o, none⟩ ∧ S b W.heap[b]? ∧ b < W.heap.size ∧ RdL W S b sz xs o)
  | .agg xs, cs => RdF W S xs cs
def RdF (W : World) (S : BSet) : List D → List Value → Prop
  | [], cs => cs = []
  | x :: xs, cs => ∃ c1 c2, cs = c1 ++ c2 ∧ RdC W S x c1 ∧ RdF W S xs c2
def RdL (W : World) (S : BSet) (b sz : Nat) : List D → Nat → Prop
  | [], _ => True
  | x :: xs, o => (∃ cs, cs.length = sz ∧ CellsAt W b o cs ∧ RdC W S x cs) ∧ RdL W S b sz xs (o + sz)
end
theorem CellsAt.same {W W' : World} {b o : Nat} {cs : List Value} (h : CellsAt W b o cs) (hb : W'.heap[b]? = W.heap[b]?) : CellsAt W' b o cs :=
  fun i hi => (World.cell?_of_block (w := W) (a := ⟨b, o + i, none⟩) hb).trans (h i hi)
mutual
theorem rdc_move {W W' : World} {S S' : BSet} (hs : W.heap.size ≤ W'.heap.size) (h : ∀ b, S b W.heap[b]? → b < W.heap.size → W'.heap[b]? = W.heap[b]? ∧ S' b W'.heap[b]?) :
    ∀ (d : D) (cs : List Value), RdC W S d cs → RdC W' S' d cs
  | .bool b, cs, hd => by simpa [RdC] using hd
  | .int k n, cs, hd => by simpa [RdC] using hd
  | .str s, cs, hd => by simpa [RdC] using hd
  | .lst sz xs, cs, hd => by
    simp only [RdC] at hd ⊢
    obtain ⟨a, cap, h1, h2, h3, h4⟩ := hd
    refine ⟨a, cap, h1, h2, h3, ?_⟩
    rcases h4 with h4 | ⟨b, o, ha, hb, hlt, hl⟩
    · exact .inl h4
    · exact .inr ⟨b, o, ha, (h b hb hlt).2, Nat.lt_of_lt_of_le hlt hs, rdl_move hs h (h b hb hlt).1 xs o hl⟩
  | .agg xs, cs, hd => by
    simp only [RdC] at hd ⊢
    exact rdf_move hs h xs cs hd
theorem rdf_move {W W' : World} {S S' : BSet} (hs : W.heap.size ≤ W'.heap.size) (h : ∀ b, S b W.heap[b]? → b < W.heap.size → W'.heap[b]? = W.heap[b]? ∧ S' b W'.heap[b]?) :
    ∀ (xs : List D) (cs : List Value), RdF W S xs cs → RdF W' S' xs cs
  | [], cs, hd => by simpa [RdF] using hd
  | x :: xs, cs, hd => by
    simp only [RdF] at hd ⊢
    obtain ⟨c1, c2, h1, h2, h3⟩ := hd
    exact ⟨c1, c2, h1, rdc_move hs h x c1 h2, rdf_move hs h xs c2 h3⟩
theorem rdl_move {W W' : World} {S S' : BSet} (hs : W.heap.size ≤ W'.heap.size) (h : ∀ b, S b W.heap[b]? → b < W.heap.size → W'.heap[b]? = W.heap[b]? ∧ S' b W'.heap[b]?) {b sz : Nat} (hb : W'.heap[b]? = W.heap[b]?) :
    ∀ (xs : List D) (o : Nat), RdL W S b sz xs o → RdL W' S' b sz xs o
  | [], _, _ => by simp [RdL]
  | x :: xs, o, hd => by
    simp only [RdL] at hd ⊢
    obtain ⟨⟨cs, h1, h2, h3⟩, h4⟩ := hd
    exact ⟨⟨cs, h1, h2.same hb, rdc_move hs h x cs h3⟩, rdl_move hs h hb xs (o + sz) h4⟩
end
theorem RdC.keeps {W W' : World} {S : BSet} {T : Nat → Prop} {d : D} {cs : List Value} (h : RdC W S d cs) (k : Keeps T W W') (hs : ∀ b o, S b o → T b) : RdC W' S d cs :=
  rdc_move k.size (fun b hb hlt => ⟨k.block b hlt (hs b _ hb), by rw [k.block b hlt (hs b _ hb)]; exact hb⟩) d cs h
theorem RdC.mono {W : World} {S S' : BSet} {d : D} {cs : List Value} (h : RdC W S d cs) (hs : ∀ b o, S b o → b < W.heap.size → S' b o) : RdC W S' d cs :=
  rdc_move (Nat.le_refl _) (fun b hb hlt => ⟨rfl, hs b _ hb hlt⟩) d cs h
mutual
def width : D → Nat
  | .bool _ => 1
  | .int _ _ => 1
  | .str _ => 1
  | .lst _ _ => 1
  | .agg xs => widths xs
def widths : List D → Nat
  | [] => 0
  | x :: xs => width x + widths xs
end
mutual
theorem rdc_width {W : World} {S : BSet} : ∀ (d : D) (cs : List Value), RdC W S d cs → cs.length = width d
  | .bool b, cs, h => by simp only [RdC] at h; subst h; rfl
  | .int k n, cs, h => by simp only [RdC] at h; subst h; rfl
  | .str s, cs, h => by simp only [RdC] at h; rw [h.1]; rfl
  | .lst sz xs, cs, h => by simp only [RdC] at h; obtain ⟨a, cap, h1, _⟩ := h; rw [h1]; rfl
  | .agg xs, cs, h => by simp only [RdC] at h; simp only [width]; exact rdf_width xs cs h
theorem rdf_width {W : World} {S : BSet} : ∀ (xs : List D) (cs : List Value), RdF W S xs cs → cs.length = widths xs
  | [], cs, h => by simp only [RdF] at h; subst h; rfl
  | x :: xs, cs, h => by
    simp only [RdF] at h
    obtain ⟨c1, c2, h1, h2, h3⟩ := h
    rw [h1, List.length_append, rdc_width x c1 h2, rdf_width xs c2 h3]; rfl
end
theorem RdL.get {W : World} {S : BSet} {b sz : Nat} : ∀ {xs : List D} {o : Nat}, RdL W S b sz xs o → ∀ i (h : i < xs.length), ∃ cs, cs.length = sz ∧ CellsAt W b (o + i * sz) cs ∧ RdC W S xs[i] cs
  | [], _, _, i, h => by simp at h
  | x :: xs, o, hl, 0, _ => by simp only [RdL] at hl; simpa using hl.1
  | x :: xs, o, hl, i + 1, h => by
    simp only [RdL] at hl
    obtain ⟨cs, h1, h2, h3⟩ := RdL.get hl.2 i (by simpa using h)
    exact ⟨cs, h1, by rw [show o + (i + 1) * sz = o + sz + i * sz by rw [Nat.add_mul]; omega]; exact h2, by simpa using h3⟩
theorem RdL.of {W : World} {S : BSet} {b sz : Nat} : ∀ {xs : List D} {o : Nat}, (∀ i (h : i < xs.length), ∃ cs, cs.length = sz ∧ CellsAt W b (o + i * sz) cs ∧ RdC W S xs[i] cs) → RdL W S b sz xs o
  | [], _, _ => by simp [RdL]
  | x :: xs, o, h => by
    simp only [RdL]
    refine ⟨?_, RdL.of fun i hi => ?_⟩
    · obtain ⟨cs, h1, h2, h3⟩ := h 0 (by simp)
      exact ⟨cs, h1, by simpa using h2, h3⟩
    obtain ⟨cs, h1, h2, h3⟩ := h (i + 1) (by simpa using hi)
    exact ⟨cs, h1, by rw [show o + sz + i * sz = o + (i + 1) * sz by rw [Nat.add_mul]; omega]; exact h2, h3⟩
def D.isAgg : D → Bool
  | .agg _ => true
  | _ => false
def asm : D → List Value → Value
  | .agg _, cs => .agg cs.toArray
  | _, cs => cs.headD undef
def Rd (W : World) (S : BSet) (d : D) (v : Value) : Prop := ∃ cs, RdC W S d cs ∧ v = asm d cs
def Ref (W : World) (S : BSet) (d : D) (v : Value) : Prop := ∃ b o cs, v = .pointer (some ⟨b, o, none⟩) ∧ S b W.heap[b]? ∧ b < W.heap.size ∧ CellsAt W b o cs ∧ RdC W S d cs
theorem Rd.keeps {W W' : World} {S : BSet} {T : Nat → Prop} {d : D} {v : Value} (h : Rd W S d v) (k : Keeps T W W') (hs : ∀ b o, S b o → T b) : Rd W' S d v :=
  let ⟨cs, h1, h2⟩ := h; ⟨cs, h1.keeps k hs, h2⟩
theorem Rd.ext {W W' : World} {S : BSet} {d : D} {v : Value} (h : Rd W S d v) (k : Ext W W') : Rd W' S d v := h.keeps k fun _ _ _ => trivial
theorem Rd.mono {W : World} {S S' : BSet} {d : D} {v : Value} (h : Rd W S d v) (hs : ∀ b o, S b o → b < W.heap.size → S' b o) : Rd W S' d v :=
  let ⟨cs, h1, h2⟩ := h; ⟨cs, h1.mono hs, h2⟩
theorem Ref.keeps {W W' : World} {S : BSet} {T : Nat → Prop} {d : D} {v : Value} (h : Ref W S d v) (k : Keeps T W W') (hs : ∀ b o, S b o → T b) : Ref W' S d v :=
  let ⟨b, o, cs, h1, h2, h3, h4, h5⟩ := h; ⟨b, o, cs, h1, by rw [k.block b h3 (hs b _ h2)]; exact h2, Nat.lt_of_lt_of_le h3 k.size, h4.same (k.block b h3 (hs b _ h2)), h5.keeps k hs⟩
theorem Ref.ext {W W' : World} {S : BSet} {d : D} {v : Value} (h : Ref W S d v) (k : Ext W W') : Ref W' S d v := h.keeps k fun _ _ _ => trivial
theorem Ref.mono {W : World} {S S' : BSet} {d : D} {v : Value} (h : Ref W S d v) (hs : ∀ b o, S b o → b < W.heap.size → S' b o) : Ref W S' d v :=
  let ⟨b, o, cs, h1, h2, h3, h4, h5⟩ := h; ⟨b, o, cs, h1, hs b _ h2 h3, h3, h4, h5.mono hs⟩
def Own (W : World) (b : Nat) (cs : List Value) (T : TypeId) : Prop := W.heap[b]? = some (.cells cs.toArray T (0, 0))
theorem Own.lt {W : World} {b : Nat} {cs : List Value} {T : TypeId} (h : Own W b cs T) : b < W.heap.size := (Array.getElem?_eq_some_iff.1 h).1
theorem Own.keeps {W W' : World} {S : Nat → Prop} {b : Nat} {cs : List Value} {T : TypeId} (h : Own W b cs T) (k : Keeps S W W') (hs : S b) : Own W' b cs T := (k.block b h.lt hs).trans h
theorem Own.ext {W W' : World} {b : Nat} {cs : List Value} {T : TypeId} (h : Own W b cs T) (k : Ext W W') : Own W' b cs T := h.keeps k trivial
theorem Own.cell {W : World} {b : Nat} {cs : List Value} {T : TypeId} (h : Own W b cs T) (i : Nat) : W.cell? ⟨b, i, none⟩ = cs[i]? := by
  unfold Own at h; simp [World.cell?, h]
theorem Own.free {W : World} {b : Nat} {cs : List Value} {T : TypeId} (h : Own W b cs T) (i : Nat) : W.frozen? ⟨b, i, none⟩ = false := by
  unfold Own at h; simp [World.frozen?, h]
def Out (g : Gh) (b : Nat) : Prop := ∀ t, (t, b) ∉ g
def Is (v : Value) : Fact := fun _ u _ => u = v
def IsD (S : BSet) (d : D) : Fact := fun g u W => Rd W (fun b o => S b o ∧ Out g b) d u
def IsR (S : BSet) (d : D) : Fact := fun g u W => Ref W (fun b o => S b o ∧ Out g b) d u
def IsBox (cs : List Value) (T : TypeId) (t : Nat) : Fact := fun g u W => ∃ b, u = .pointer (some ⟨b, 0, none⟩) ∧ (t, b) ∈ g ∧ Own W b cs T
def Under (p : Prop) (φ : Fact) : Fact := fun g u W => p → φ g u W
def Any : Fact := fun _ _ _ => True
theorem st_is {S : Nat → Prop} (v : Value) : Stable S (Is v) := ⟨fun _ _ _ _ _ h => h, fun _ _ _ _ _ _ h => h⟩
theorem st_any {S : Nat → Prop} : Stable S Any := ⟨fun _ _ _ _ _ h => h, fun _ _ _ _ _ _ h => h⟩
theorem out_more {g : Gh} {t b b' : Nat} (h : Out g b') (hne : b' ≠ b) : Out ((t, b) :: g) b' := fun u hu => by
  rcases List.mem_cons.1 hu with h1 | h1
  · cases h1; exact hne rfl
  · exact h u h1
theorem st_d {S : Nat → Prop} {S' : BSet} {d : D} (hs : ∀ b o, S' b o → S b) : Stable S (IsD S' d) :=
  ⟨fun _ _ _ _ k h => Rd.keeps h k fun b o hb => hs b o hb.1, fun _ _ _ _ _ hb h => Rd.mono h fun b' o h1 h2 => ⟨h1.1, out_more h1.2 (by omega)⟩⟩
theorem st_r {S : Nat → Prop} {S' : BSet} {d : D} (hs : ∀ b o, S' b o → S b) : Stable S (IsR S' d) :=
  ⟨fun _ _ _ _ k h => Ref.keeps h k fun b o hb => hs b o hb.1, fun _ _ _ _ _ hb h => Ref.mono h fun b' o h1 h2 => ⟨h1.1, out_more h1.2 (by omega)⟩⟩
theorem st_box {cs : List Value} {T : TypeId} {t : Nat} : Stable All (IsBox cs T t) :=
  ⟨fun _ _ _ _ k ⟨b, h1, h2, h3⟩ => ⟨b, h1, h2, h3.ext k⟩, fun _ _ _ _ _ _ ⟨b, h1, h2, h3⟩ => ⟨b, h1, List.mem_cons_of_mem _ h2, h3⟩⟩
def Env1 (Γ : Ctx) (a0 a : Act) (g : Gh) (W : World) (t : Nat) : Prop := match look Γ t with | some φ => φ g (sl a t) W | none => sl a t = sl a0 t
theorem Env.get {Γ : Ctx} {a0 a : Act} {g : Gh} {W : World} : ∀ {ts : List Nat}, Env Γ a0 a g W ts → ∀ {t : Nat}, t ∈ ts → Env1 Γ a0 a g W t
  | [], _, _, h => by cases h
  | u :: ts, he, t, h => by
    rcases List.mem_cons.1 h with h1 | h1
    · subst h1; exact he.1
    · exact Env.get he.2 h1
section
variable {P : Program} {ops : Array Oper} {S : Nat → Prop} {w0 : World} {a0 : Act} {Γ : Ctx}
def Has (S : Nat → Prop) (w0 : World) (a0 : Act) (Γ : Ctx) (x : Operand) (φ : Fact) : Prop :=
  ∀ a g W, Keeps S w0 W → GOk w0 W g → (∀ t, x = .tmp t → Env1 Γ a0 a g W t) → φ g (a.eval x) W
theorem Has.loc {t : Nat} {φ : Fact} (h : look Γ t = some φ) : Has S w0 a0 Γ (.tmp t) φ := fun a g W _ _ he => by
  have := he t rfl
  unfold Env1 at this; rw [h] at this; exact this
theorem Has.base {t : Nat} {v : Value} (h : look Γ t = none) (hv : sl a0 t = v) : Has S w0 a0 Γ (.tmp t) (Is v) := fun a g W _ _ he => by
  have := he t rfl
  unfold Env1 at this; rw [h] at this; exact this.trans hv
theorem Has.cst {v : Value} : Has S w0 a0 Γ (.const v) (Is v) := fun _ _ _ _ _ _ => rfl
theorem Has.imp {x : Operand} {φ ψ : Fact} (h : Has S w0 a0 Γ x φ) (hi : ∀ g v W, Keeps S w0 W → GOk w0 W g → φ g v W → ψ g v W) : Has S w0 a0 Γ x ψ :=
  fun a g W hk hg he => hi _ _ _ hk hg (h a g W hk hg he)
theorem Has.toU {x : Operand} {p : Prop} {φ : Fact} (h : Has S w0 a0 Γ x φ) : Has S w0 a0 Γ x (Under p φ) := h.imp fun _ _ _ _ _ hu _ => hu
theorem Has.any {x : Operand} : Has S w0 a0 Γ x Any := fun _ _ _ _ _ _ => trivial
theorem rd_base {S' : BSet} {d : D} {g : Gh} {u : Value} {W : World} (hd : Rd w0 S' d u) (hk : Keeps S w0 W) (hg : GOk w0 W g) (hs : ∀ b o, S' b o → S b) : Rd W (fun b o => S' b o ∧ Out g b) d u :=
  (Rd.mono hd (fun b _ hb hlt => ⟨hb, fun t ht => by have := hg.lo t b ht; omega⟩) : Rd w0 (fun b o => S' b o ∧ Out g b) d u).keeps hk fun b o hb => hs b o hb.1
theorem ref_base {S' : BSet} {d : D} {g : Gh} {u : Value} {W : World} (hd : Ref w0 S' d u) (hk : Keeps S w0 W) (hg : GOk w0 W g) (hs : ∀ b o, S' b o → S b) : Ref W (fun b o => S' b o ∧ Out g b) d u :=
  (Ref.mono hd (fun b _ hb hlt => ⟨hb, fun t ht => by have := hg.lo t b ht; omega⟩) : Ref w0 (fun b o => S' b o ∧ Out g b) d u).keeps hk fun b o hb => hs b o hb.1
theorem Has.dat {x : Operand} {v : Value} {S' : BSet} {d : D} (h : Has S w0 a0 Γ x (Is v)) (hd : Rd w0 S' d v) (hs : ∀ b o, S' b o → S b) : Has S w0 a0 Γ x (IsD S' d) :=
  h.imp fun g u W hk hg hu => by
    have hu : u = v := hu
    subst hu
    exact rd_base hd hk hg hs
theorem Has.refd {x : Operand} {v : Value} {S' : BSet} {d : D} (h : Has S w0 a0 Γ x (Is v)) (hd : Ref w0 S' d v) (hs : ∀ b o, S' b o → S b) : Has S w0 a0 Γ x (IsR S' d) :=
  h.imp fun g u W hk hg hu => by
    have hu : u = v := hu
    subst hu
    exact ref_base hd hk hg hs
theorem Has.of_env {o : Oper} {x : Operand} {φ : Fact} {a : Act} {g : Gh} {W : World} (h : Has S w0 a0 Γ x φ) (hk : Keeps S w0 W) (hg : GOk w0 W g) (he : Env Γ a0 a g W (o.looksAt ops)) (hx : x ∈ o.op.operands) : φ g (a.eval x) W :=
  h a g W hk hg fun t ht => he.get (by
    subst ht
    exact List.mem_append_left _ (List.mem_filterMap.2 ⟨.tmp t, by simpa using hx, rfl⟩))
def Spec (P : Program) (ops : Array Oper) (S : Nat → Prop) (w0 : World) (a0 : Act) (Γ : Ctx) (o : Oper) (φ : Fact) : Prop :=
  ∀ a g W, Keeps S w0 W → GOk w0 W g → Env Γ a0 a g W (o.looksAt ops) → OpRuns P o a W fun v W' => Ext W W' ∧ φ g v W'
variable {K : List Oper → Ctx → (World → Prop) → List Bool → Prop} {l : List Oper} {Ψ : World → Prop} {ms : List Bool} {fl : Bool}
theorem Chain.op {d : Option Tmp} {op : Op} {ty : TypeId} {pos : String} {af : Array Edge} {φ : Fact} (hst : Stable S φ) (hs : Spec P ops S w0 a0 Γ ⟨d, op, ty, pos, af, none⟩ φ)
    (h : Chain P ops S w0 a0 K fl l ((d, φ) :: Γ) Ψ (false :: ms)) : Chain P ops S w0 a0 K fl (⟨d, op, ty, pos, af, none⟩ :: l) Γ Ψ ms :=
  .side φ hst (fun a g W hk hg he => by
    have hw : Region.wanted (⟨d, op, ty, pos, af, none⟩ : Oper) (yielded ops a.tmps) = true := rfl
    unfold ObRun; rw [if_pos hw]; exact hs a g W hk hg he) h
end
end Go.Eng
namespace Go.Eng
section
variable {P : Program} {ops : Array Oper} {S : Nat → Prop} {w0 : World} {a0 : Act} {Γ : Ctx}
variable {d : Option Tmp} {ty : TypeId} {pos : String} {af : Array Edge} {gd : Option (Nat × Bool)}
def szOf (P : Program) (T : TypeId) : Option Nat := (P.info? T).map (·.size)
def zeroOf (P : Program) (T : TypeId) : Option Value := (P.info? T).bind (·.zero)
def aggB (P : Program) (T : TypeId) : Option Bool := (P.underlying T).map fun t => match t with | .struct _ | .array _ _ => true | _ => false
theorem run_und {T : TypeId} {t : TypeDesc} (h : P.underlying T = some t) (w : World) : (underlying T).run P w = .ok t w := run_underlying h w
theorem run_szOf {T n : Nat} (h : szOf P T = some n) (w : World) : (sizeOf T).run P w = .ok n w := by
  unfold szOf at h
  cases hi : P.info? T with
  | none => rw [hi] at h; cases h
  | some i => rw [hi] at h; simp at h; simp [sizeOf, typeInfo, program, Sem.run, hi, h]
theorem run_zeroOf {T : Nat} {v : Value} (h : zeroOf P T = some v) (w : World) : (zeroValue T).run P w = .ok v w := by
  unfold zeroOf at h
  cases hi : P.info? T with
  | none => rw [hi] at h; cases h
  | some i => rw [hi] at h; simp at h; simp [zeroValue, typeInfo, program, Sem.run, hi, h]
theorem run_aggB {T : Nat} {b : Bool} (h : aggB P T = some b) (w : World) : (isAgg T).run P w = .ok b w := by
  unfold aggB at h
  cases hi : P.underlying T with
  | none => rw [hi] at h; cases h
  | some i =>
    rw [hi] at h; simp at h
    simp only [isAgg, Sem.run_bind, run_und hi, Result.andThen_ok]
    cases i <;> simp_all
theorem sp_val {op : Op} {v : Value} (h : ∀ a g W, Keeps S w0 W → GOk w0 W g → Env Γ a0 a g W (Oper.looksAt ops ⟨d, op, ty, pos, af, gd⟩) → (execOp a.eval ⟨d, op, ty, pos, af, gd⟩).run P W = .ok (.value v) W) :
    Spec P ops S w0 a0 Γ ⟨d, op, ty, pos, af, gd⟩ (Is v) := fun a g W hk hg he => by
  unfold OpRuns; rw [h a g W hk hg he]; exact ⟨.refl _ _, rfl⟩
theorem sp_move {x : Operand} {φ : Fact} (h : Has S w0 a0 Γ x φ) : Spec P ops S w0 a0 Γ ⟨d, .move x, ty, pos, af, gd⟩ φ := fun a g W hk hg he =>
  ⟨.refl _ _, h.of_env hk hg he (by simp [Op.operands])⟩
theorem sp_assign {x : Operand} {φ : Fact} (h : Has S w0 a0 Γ x φ) : Spec P ops S w0 a0 Γ ⟨d, .assign x, ty, pos, af, gd⟩ φ := fun a g W hk hg he =>
  ⟨.refl _ _, h.of_env hk hg he (by simp [Op.operands])⟩
theorem sp_and {c x : Operand} {p q : Bool} (hc : Has S w0 a0 Γ c (Is (.bool p))) (hx : Has S w0 a0 Γ x (Under (p = true) (Is (.bool q)))) :
    Spec P ops S w0 a0 Γ ⟨d, .pick c x (.const (.bool false)), ty, pos, af, gd⟩ (Is (.bool (p && q))) := sp_val fun a g W hk hg he => by
  have e1 : a.eval c = .bool p := hc.of_env hk hg he (by simp [Op.operands])
  have e2 : p = true → a.eval x = .bool q := hx.of_env hk hg he (by simp [Op.operands])
  cases p with
  | false =>
    have e3 : a.eval (.const (.bool false)) = .bool false := rfl
    simp [execOp, e1, asBool, e3]
  | true => simp [execOp, e1, asBool, e2 rfl]
theorem sp_or {c x : Operand} {p q : Bool} (hc : Has S w0 a0 Γ c (Is (.bool p))) (hx : Has S w0 a0 Γ x (Under (p = false) (Is (.bool q)))) :
    Spec P ops S w0 a0 Γ ⟨d, .pick c (.const (.bool true)) x, ty, pos, af, gd⟩ (Is (.bool (p || q))) := sp_val fun a g W hk hg he => by
  have e1 : a.eval c = .bool p := hc.of_env hk hg he (by simp [Op.operands])
  have e2 : p = false → a.eval x = .bool q := hx.of_env hk hg he (by simp [Op.operands])
  cases p with
  | false => simp [execOp, e1, asBool, e2 rfl]
  | true =>
    have e3 : a.eval (.const (.bool true)) = .bool true := rfl
    simp [execOp, e1, asBool, e3]
theorem sp_not {x : Operand} {T : TypeId} {p : Bool} (hx : Has S w0 a0 Γ x (Is (.bool p))) : Spec P ops S w0 a0 Γ ⟨d, .unOp .not T x, ty, pos, af, gd⟩ (Is (.bool (!p))) := sp_val fun a g W hk hg he => by
  have e1 : a.eval x = .bool p := hx.of_env hk hg he (by simp [Op.operands])
  simp [execOp, e1, Op.unary]
section
variable {x y : Operand} {T T' : TypeId} {k : IntKind} {m n : Int}
theorem sp_lss (hx : Has S w0 a0 Γ x (Is (.int k m))) (hy : Has S w0 a0 Γ y (Is (.int k n))) : Spec P ops S w0 a0 Γ ⟨d, .binOp .lss T x y T', ty, pos, af, gd⟩ (Is (.bool (decide (m < n)))) := sp_val fun a g W hk hg he => by
  have e1 : a.eval x = .int k m := hx.of_env hk hg he (by simp [Op.operands])
  have e2 : a.eval y = .int k n := hy.of_env hk hg he (by simp [Op.operands])
  simp [execOp, e1, e2, binOp, Op.intCmp, eqGuard]
theorem sp_gtr (hx : Has S w0 a0 Γ x (Is (.int k m))) (hy : Has S w0 a0 Γ y (Is (.int k n))) : Spec P ops S w0 a0 Γ ⟨d, .binOp .gtr T x y T', ty, pos, af, gd⟩ (Is (.bool (decide (n < m)))) := sp_val fun a g W hk hg he => by
  have e1 : a.eval x = .int k m := hx.of_env hk hg he (by simp [Op.operands])
  have e2 : a.eval y = .int k n := hy.of_env hk hg he (by simp [Op.operands])
  simp [execOp, e1, e2, binOp, Op.intCmp, eqGuard]
theorem sp_geq (hx : Has S w0 a0 Γ x (Is (.int k m))) (hy : Has S w0 a0 Γ y (Is (.int k n))) : Spec P ops S w0 a0 Γ ⟨d, .binOp .geq T x y T', ty, pos, af, gd⟩ (Is (.bool (decide (n ≤ m)))) := sp_val fun a g W hk hg he => by
  have e1 : a.eval x = .int k m := hx.of_env hk hg he (by simp [Op.operands])
  have e2 : a.eval y = .int k n := hy.of_env hk hg he (by simp [Op.operands])
  simp [execOp, e1, e2, binOp, Op.intCmp, eqGuard]
theorem sp_eql (hx : Has S w0 a0 Γ x (Is (.int k m))) (hy : Has S w0 a0 Γ y (Is (.int k n))) : Spec P ops S w0 a0 Γ ⟨d, .binOp .eql T x y T', ty, pos, af, gd⟩ (Is (.bool (m == n))) := sp_val fun a g W hk hg he => by
  have e1 : a.eval x = .int k m := hx.of_env hk hg he (by simp [Op.operands])
  have e2 : a.eval y = .int k n := hy.of_env hk hg he (by simp [Op.operands])
  simp [execOp, e1, e2, binOp, Op.intCmp, eqGuard]
theorem sp_neq (hx : Has S w0 a0 Γ x (Is (.int k m))) (hy : Has S w0 a0 Γ y (Is (.int k n))) : Spec P ops S w0 a0 Γ ⟨d, .binOp .neq T x y T', ty, pos, af, gd⟩ (Is (.bool (m != n))) := sp_val fun a g W hk hg he => by
  have e1 : a.eval x = .int k m := hx.of_env hk hg he (by simp [Op.operands])
  have e2 : a.eval y = .int k n := hy.of_env hk hg he (by simp [Op.operands])
  simp [execOp, e1, e2, binOp, Op.intCmp, eqGuard]
theorem sp_add (hx : Has S w0 a0 Γ x (Is (.int k m))) (hy : Has S w0 a0 Γ y (Is (.int k n))) (h : k.wrap (m + n) = m + n) : Spec P ops S w0 a0 Γ ⟨d, .binOp .add T x y T', ty, pos, af, gd⟩ (Is (.int k (m + n))) := sp_val fun a g W hk hg he => by
  have e1 : a.eval x = .int k m := hx.of_env hk hg he (by simp [Op.operands])
  have e2 : a.eval y = .int k n := hy.of_env hk hg he (by simp [Op.operands])
  simp [execOp, e1, e2, binOp, Op.intArith, eqGuard, h]
theorem sp_sub (hx : Has S w0 a0 Γ x (Is (.int k m))) (hy : Has S w0 a0 Γ y (Is (.int k n))) (h : k.wrap (m - n) = m - n) : Spec P ops S w0 a0 Γ ⟨d, .binOp .sub T x y T', ty, pos, af, gd⟩ (Is (.int k (m - n))) := sp_val fun a g W hk hg he => by
  have e1 : a.eval x = .int k m := hx.of_env hk hg he (by simp [Op.operands])
  have e2 : a.eval y = .int k n := hy.of_env hk hg he (by simp [Op.operands])
  simp [execOp, e1, e2, binOp, Op.intArith, eqGuard, h]
end
theorem beq_bytes (s t : ByteArray) : (s.toList == t.toList) = decide (s = t) := by
  rw [Bool.eq_iff_iff]
  simp only [beq_iff_eq, decide_eq_true_eq, ByteArray.toList_eq]
  constructor
  · intro h; cases s; cases t; simp at h; simp [h]
  · rintro rfl; rfl
theorem add_none (b o i : Nat) : (⟨b, o, none⟩ : Addr).add i = ⟨b, o + i, none⟩ := by
  unfold Addr.add
  split
  · rename_i h; subst h; rfl
  · rfl
section
variable {x y : Operand} {T T' : TypeId} {s t : ByteArray}
def sLt (s t : ByteArray) : Bool := Op.bytesLess s.toList t.toList
theorem sp_sOp {op : BinOp} {v : Value} (hx : Has S w0 a0 Γ x (Is (.string s))) (hy : Has S w0 a0 Γ y (Is (.string t)))
    (hg' : ∀ w, (eqGuard op T x y (.string s) (.string t)).run P w = .ok () w) (ho : ∀ w, (binOp op T (.string s) (.string t)).run P w = .ok v w) :
    Spec P ops S w0 a0 Γ ⟨d, .binOp op T x y T', ty, pos, af, gd⟩ (Is v) := sp_val fun a g W hk hg he => by
  have e1 : a.eval x = .string s := hx.of_env hk hg he (by simp [Op.operands])
  have e2 : a.eval y = .string t := hy.of_env hk hg he (by simp [Op.operands])
  simp [execOp, e1, e2, ho, hg']
theorem sp_sEql (hx : Has S w0 a0 Γ x (Is (.string s))) (hy : Has S w0 a0 Γ y (Is (.string t))) : Spec P ops S w0 a0 Γ ⟨d, .binOp .eql T x y T', ty, pos, af, gd⟩ (Is (.bool (decide (s = t)))) :=
  sp_sOp hx hy (fun _ => by simp [eqGuard]) (fun _ => by simp [binOp, Op.stringOp, beq_bytes])
theorem sp_sNeq (hx : Has S w0 a0 Γ x (Is (.string s))) (hy : Has S w0 a0 Γ y (Is (.string t))) : Spec P ops S w0 a0 Γ ⟨d, .binOp .neq T x y T', ty, pos, af, gd⟩ (Is (.bool (!decide (s = t)))) :=
  sp_sOp hx hy (fun _ => by simp [eqGuard]) (fun _ => by simp [binOp, Op.stringOp, beq_bytes])
theorem sp_sGeq (hx : Has S w0 a0 Γ x (Is (.string s))) (hy : Has S w0 a0 Γ y (Is (.string t))) : Spec P ops S w0 a0 Γ ⟨d, .binOp .geq T x y T', ty, pos, af, gd⟩ (Is (.bool (!(sLt s t)))) :=
  sp_sOp hx hy (fun _ => by simp [eqGuard]) (fun _ => by simp [binOp, Op.stringOp, sLt])
end
theorem equalIn_bool (T : TypeId) (hT : P.underlying T = some .bool) (p q : Bool) (w : World) : (Op.equal T (.bool p) (.bool q)).run P w = .ok (p == q) w := by
  show (Op.equalIn (9999 + 1) T (.bool p) (.bool q)).run P w = _
  rw [Op.equalIn]
  simp [run_und hT]
theorem sp_bEql {x y : Operand} {T T' : TypeId} {p q : Bool} (hT : P.underlying T = some .bool) (hx : Has S w0 a0 Γ x (Is (.bool p))) (hy : Has S w0 a0 Γ y (Is (.bool q))) : Spec P ops S w0 a0 Γ ⟨d, .binOp .eql T x y T', ty, pos, af, gd⟩ (Is (.bool (p == q))) := sp_val fun a g W hk hg he => by
  have e1 : a.eval x = .bool p := hx.of_env hk hg he (by simp [Op.operands])
  have e2 : a.eval y = .bool q := hy.of_env hk hg he (by simp [Op.operands])
  simp [execOp, e1, e2, binOp, eqGuard, equalIn_bool T hT]
theorem sp_ext2 {x : Operand} {φ1 φ2 : Fact} {i : Nat} (hx : Has S w0 a0 Γ x (fun g u W => ∃ u1 u2, u = .tuple #[u1, u2] ∧ φ1 g u1 W ∧ φ2 g u2 W)) (hi : i = 0) : Spec P ops S w0 a0 Γ ⟨d, .extract x i, ty, pos, af, gd⟩ φ1 := fun a g W hk hg he => by
  obtain ⟨u1, u2, e1, h1, _⟩ := hx.of_env hk hg he (by simp [Op.operands])
  subst hi
  unfold OpRuns
  have : (execOp a.eval ⟨d, .extract x 0, ty, pos, af, gd⟩).run P W = .ok (.value u1) W := by simp [execOp, e1, Instr.extract]
  rw [this]; exact ⟨.refl _ _, h1⟩
theorem sp_ext2' {x : Operand} {φ1 φ2 : Fact} {i : Nat} (hx : Has S w0 a0 Γ x (fun g u W => ∃ u1 u2, u = .tuple #[u1, u2] ∧ φ1 g u1 W ∧ φ2 g u2 W)) (hi : i = 1) : Spec P ops S w0 a0 Γ ⟨d, .extract x i, ty, pos, af, gd⟩ φ2 := fun a g W hk hg he => by
  obtain ⟨u1, u2, e1, _, h1⟩ := hx.of_env hk hg he (by simp [Op.operands])
  subst hi
  unfold OpRuns
  have : (execOp a.eval ⟨d, .extract x 1, ty, pos, af, gd⟩).run P W = .ok (.value u2) W := by simp [execOp, e1, Instr.extract]
  rw [this]; exact ⟨.refl _ _, h1⟩
theorem sp_lenS {x : Operand} {T : TypeId} {s : ByteArray} (hT : P.underlying T = some .string) (hx : Has S w0 a0 Γ x (Is (.string s))) :
    Spec P ops S w0 a0 Γ ⟨d, .call ⟨.builtin .len, #[x], #[T]⟩, ty, pos, af, gd⟩ (Is (.int .i64 s.size)) := sp_val fun a g W hk hg he => by
  have e1 : a.eval x = .string s := hx.of_env hk hg he (by simp [Op.operands, Call.operands])
  simp [execOp, resolve, invoke, builtin, Builtin.len_, e1, run_und hT, goInt]
theorem sp_lenD {x : Operand} {T E : TypeId} {S' : BSet} {sz : Nat} {xs : List D} (hT : P.underlying T = some (.slice E)) (hx : Has S w0 a0 Γ x (IsD S' (.lst sz xs))) :
    Spec P ops S w0 a0 Γ ⟨d, .call ⟨.builtin .len, #[x], #[T]⟩, ty, pos, af, gd⟩ (Is (.int .i64 xs.length)) := sp_val fun a g W hk hg he => by
  obtain ⟨cs, h1, h2⟩ := hx.of_env hk hg he (by simp [Op.operands, Call.operands])
  simp only [RdC] at h1
  obtain ⟨ad, cap, rfl, _⟩ := h1
  have e1 : a.eval x = .slice ad xs.length cap := h2
  simp [execOp, resolve, invoke, builtin, Builtin.len_, e1, run_und hT, goInt]
theorem sp_lenV {x : Operand} {T E : TypeId} {ad : Option Addr} {n cap : Nat} (hT : P.underlying T = some (.slice E)) (hx : Has S w0 a0 Γ x (Is (.slice ad n cap))) :
    Spec P ops S w0 a0 Γ ⟨d, .call ⟨.builtin .len, #[x], #[T]⟩, ty, pos, af, gd⟩ (Is (.int .i64 n)) := sp_val fun a g W hk hg he => by
  have e1 : a.eval x = .slice ad n cap := hx.of_env hk hg he (by simp [Op.operands, Call.operands])
  simp [execOp, resolve, invoke, builtin, Builtin.len_, e1, run_und hT, goInt]
theorem run_loadCellsFrom {W : World} {b o : Nat} {cs : List Value} (h : CellsAt W b o cs) : ∀ (n i : Nat) (acc : Array Value), i + n = cs.length →
    (loadCellsFrom ⟨b, o, none⟩ i n acc).run P W = .ok (acc ++ (cs.drop i).toArray) W
  | 0, i, acc, hi => by simp [loadCellsFrom, List.drop_eq_nil_of_le (show cs.length ≤ i by omega)]
  | n + 1, i, acc, hi => by
    have hlt : i < cs.length := by omega
    have hc := h i hlt
    have : (⟨b, o, none⟩ : Addr).add i = ⟨b, o + i, none⟩ := add_none b o i
    simp only [loadCellsFrom, Sem.run_bind, run_load, this, hc, Result.andThen_ok]
    rw [run_loadCellsFrom h n (i + 1) _ (by omega), List.drop_eq_getElem_cons hlt]
    simp
theorem run_loadVar {W : World} {b o T : Nat} {cs : List Value} {ag : Bool} {n : Nat} (hc : CellsAt W b o cs) (hT : aggB P T = some ag) (hz : szOf P T = some n) (hn : cs.length = n) (h1 : ag = false → n = 1) :
    (loadVar T ⟨b, o, none⟩).run P W = .ok (if ag then .agg cs.toArray else cs.headD undef) W := by
  cases ag with
  | true =>
    simp only [loadVar, Sem.run_bind, run_aggB hT, Result.andThen_ok, if_true, run_szOf hz, loadCells, Sem.run_map, run_loadCellsFrom hc n 0 #[] (by omega)]
    simp
  | false =>
    have hpos : 0 < cs.length := by have := h1 rfl; omega
    have hc0 := hc 0 hpos
    simp only [loadVar, Sem.run_bind, run_aggB hT, Result.andThen_ok, Bool.false_eq_true, if_false]
    cases cs with
    | nil => simp at hpos
    | cons c r =>
      have hc0' : W.cell? ⟨b, o, none⟩ = some c := hc0
      simp only [run_load, hc0']
      rfl
theorem sp_loadR {x : Operand} {T : TypeId} {S' : BSet} {dd : D} {n : Nat} (hx : Has S w0 a0 Γ x (IsR S' dd)) (hT : aggB P T = some dd.isAgg) (hz : szOf P T = some n) (hn : width dd = n) :
    Spec P ops S w0 a0 Γ ⟨d, .load T x, ty, pos, af, gd⟩ (IsD S' dd) := fun a g W hk hg he => by
  obtain ⟨b, o, cs, e1, h1, h2, h3, h4⟩ := hx.of_env hk hg he (by simp [Op.operands])
  have hl := rdc_width dd cs h4
  have hr := run_loadVar (P := P) h3 hT hz (hl.trans hn) (fun h => by cases dd <;> simp_all [D.isAgg, width])
  unfold OpRuns
  have : (execOp a.eval ⟨d, .load T x, ty, pos, af, gd⟩).run P W = .ok (.value (asm dd cs)) W := by
    simp only [execOp, e1, Instr.loadAt, Instr.sureAddr, Sem.run_bind, Sem.run_pure, Result.andThen_ok, hr]
    cases dd <;> rfl
  rw [this]
  exact ⟨.refl _ _, cs, h4, rfl⟩
theorem sp_fieldR {x : Operand} {T : TypeId} {S' : BSet} {xs : List D} {f n : Nat} {fs : Array Field} {fd : Field} (hx : Has S w0 a0 Γ x (IsR S' (.agg xs))) (hT : P.underlying T = some (.struct fs)) (hf : fs[f]? = some fd) (hz : szOf P fd.type = some (n + 1))
    {y : D} (hy : xs[f]? = some y) (ho : fd.offset = widths (xs.take f)) : Spec P ops S w0 a0 Γ ⟨d, .fieldAddr T x f, ty, pos, af, gd⟩ (IsR S' y) := fun a g W hk hg he => by
  obtain ⟨b, o, cs, e1, h1, h2, h3, h4⟩ := hx.of_env hk hg he (by simp [Op.operands])
  simp only [RdC] at h4
  have key : ∀ (xs : List D) (cs : List Value) (f : Nat), RdF W (fun b o => S' b o ∧ Out g b) xs cs → xs[f]? = some y → ∃ c, c = (cs.drop (widths (xs.take f))).take (width y) ∧ widths (xs.take f) + width y ≤ cs.length ∧ RdC W (fun b o => S' b o ∧ Out g b) y c := by
    intro xs
    induction xs with
    | nil => intro cs f _ h; simp at h
    | cons x xs ih =>
      intro cs f h hy
      simp only [RdF] at h
      obtain ⟨c1, c2, rfl, hc1, hc2⟩ := h
      cases f with
      | zero =>
        simp at hy; subst hy
        have := rdc_width x c1 hc1
        refine ⟨_, rfl, by simp [widths, this], ?_⟩
        simp [widths, ← this, hc1]
      | succ f =>
        obtain ⟨c, hc, hl, hr⟩ := ih c2 f hc2 (by simpa using hy)
        have := rdc_width x c1 hc1
        refine ⟨_, rfl, by simp [widths, this]; omega, ?_⟩
        rw [show widths ((x :: xs).take (f + 1)) = c1.length + widths (xs.take f) by simp [widths, this], List.drop_append]
        rw [show (c1.drop (c1.length + widths (xs.take f))) = [] from List.drop_eq_nil_of_le (by omega)]
        simp only [Nat.add_sub_cancel_left, List.nil_append]
        rw [← hc]; exact hr
  obtain ⟨c, hc, hl, hr⟩ := key xs cs f h4 hy
  unfold OpRuns
  have : (execOp a.eval ⟨d, .fieldAddr T x f, ty, pos, af, gd⟩).run P W = .ok (.value (.pointer (some ⟨b, o + fd.offset, none⟩))) W := by
    simp [execOp, e1, Instr.fieldAt, Instr.sureAddr, run_und hT, hf, fieldPlace, run_szOf hz, add_none]
  rw [this]
  refine ⟨.refl _ _, b, o + fd.offset, c, rfl, h1, h2, fun i hi => ?_, hr⟩
  subst hc
  have hi' : i < width y := by simp at hi; omega
  rw [ho, Nat.add_assoc, h3 (widths (xs.take f) + i) (by omega)]
  simp
theorem sp_indexD {x y : Operand} {T E : TypeId} {S' : BSet} {sz : Nat} {xs : List D} {i : Nat} (hx : Has S w0 a0 Γ x (IsD S' (.lst sz xs))) (hy : Has S w0 a0 Γ y (Is (.int .i64 i))) (hT : P.underlying T = some (.slice E)) (hz : szOf P E = some sz)
    (hi : i < xs.length) : Spec P ops S w0 a0 Γ ⟨d, .indexAddr T x y, ty, pos, af, gd⟩ (IsR S' xs[i]) := fun a g W hk hg he => by
  obtain ⟨cs, h1, h2⟩ := hx.of_env hk hg he (by simp [Op.operands])
  have e2 : a.eval y = .int .i64 i := hy.of_env hk hg he (by simp [Op.operands])
  simp only [RdC] at h1
  obtain ⟨ad, cap, rfl, hcap, hmax, h3⟩ := h1
  rcases h3 with h3 | ⟨b, o, rfl, hb, hlt, hl⟩
  · subst h3; simp at hi
  have e1 : a.eval x = .slice (some ⟨b, o, none⟩) xs.length cap := h2
  obtain ⟨c, hc1, hc2, hc3⟩ := hl.get i hi
  unfold OpRuns
  have : (execOp a.eval ⟨d, .indexAddr T x y, ty, pos, af, gd⟩).run P W = .ok (.value (.pointer (some ⟨b, o + i * sz, none⟩))) W := by
    have h0 : (0 : Int) ≤ (i : Int) := by omega
    have h1' : (i : Int) < (xs.length : Int) := by omega
    simp [execOp, e1, e2, Instr.indexAt, asIntOf, run_und hT, hi, run_szOf hz, add_none]
  rw [this]
  exact ⟨.refl _ _, b, o + i * sz, c, rfl, hb, hlt, hc2, hc3⟩
theorem Own.cells {W : World} {b : Nat} {cs : List Value} {T : TypeId} (h : Own W b cs T) (o n : Nat) (hn : o + n ≤ cs.length) : CellsAt W b o ((cs.drop o).take n) := fun i hi => by
  simp at hi
  rw [h.cell]
  simp
theorem sp_loadO {x : Operand} {T T' : TypeId} {b o n : Nat} {cs : List Value} {ag : Bool} {v : Value} (hx : Has S w0 a0 Γ x (Is (.pointer (some ⟨b, o, none⟩)))) (ho : Own w0 b cs T') (hS : S b) (hT : aggB P T = some ag) (hz : szOf P T = some n)
    (hn : o + n ≤ cs.length) (h1 : ag = false → n = 1) (hv : (if ag then .agg ((cs.drop o).take n).toArray else ((cs.drop o).take n).headD undef) = v) :
    Spec P ops S w0 a0 Γ ⟨d, .load T x, ty, pos, af, gd⟩ (Is v) := sp_val fun a g W hk hg he => by
  have e1 : a.eval x = .pointer (some ⟨b, o, none⟩) := hx.of_env hk hg he (by simp [Op.operands])
  have hr := run_loadVar (P := P) ((ho.keeps hk hS).cells o n hn) hT hz (by simp; omega) h1
  simp only [execOp, e1, Instr.loadAt, Instr.sureAddr, Sem.run_bind, Sem.run_pure, Result.andThen_ok, hr, hv]
theorem sp_fieldO {x : Operand} {T : TypeId} {b o o' f n : Nat} {fs : Array Field} {fd : Field} (hx : Has S w0 a0 Γ x (Is (.pointer (some ⟨b, o, none⟩)))) (hT : P.underlying T = some (.struct fs)) (hf : fs[f]? = some fd) (hz : szOf P fd.type = some (n + 1)) (ho : o + fd.offset = o') :
    Spec P ops S w0 a0 Γ ⟨d, .fieldAddr T x f, ty, pos, af, gd⟩ (Is (.pointer (some ⟨b, o', none⟩))) := sp_val fun a g W hk hg he => by
  have e1 : a.eval x = .pointer (some ⟨b, o, none⟩) := hx.of_env hk hg he (by simp [Op.operands])
  subst ho
  simp [execOp, e1, Instr.fieldAt, Instr.sureAddr, run_und hT, hf, fieldPlace, run_szOf hz, add_none]
theorem ext_alloc (W : World) (o : Obj) : Ext W (W.alloc o) := ⟨rfl, rfl, rfl, by simp, fun k hk _ => RowKit.Below.heap_alloc _ _ _ hk⟩
theorem own_alloc (W : World) (cs : List Value) (T : TypeId) : Own (W.alloc (.cells cs.toArray T)) W.heap.size cs T := by
  show (W.heap.push _)[W.heap.size]? = _
  simp
variable {K : List Oper → Ctx → (World → Prop) → List Bool → Prop} {l : List Oper} {Ψ : World → Prop} {ms : List Bool} {fl : Bool}
theorem Chain.alloc {t : Nat} {T : TypeId} {z : Value} (hz : zeroOf P T = some z) (h : Chain P ops All w0 a0 K fl l ((some t, IsBox z.cells.toList T t) :: Γ) Ψ (false :: ms)) :
    Chain P ops All w0 a0 K fl (⟨some t, .alloc T, ty, pos, af, none⟩ :: l) Γ Ψ ms := by
  refine .box _ t st_box rfl (fun a g W hk hg he => ?_) h
  have hw : Region.wanted (⟨some t, .alloc T, ty, pos, af, none⟩ : Oper) (yielded ops a.tmps) = true := rfl
  unfold ObRun; rw [if_pos hw]
  unfold OpRuns
  have : (execOp a.eval ⟨some t, .alloc T, ty, pos, af, none⟩).run P W = .ok (.value (.pointer (some ⟨W.heap.size, 0, none⟩))) (W.alloc (.cells z.cells T)) := by
    simp [execOp, Instr.alloc, run_zeroOf hz, newVar, newRow, newObj, Sem.run]
  rw [this]
  refine ⟨ext_alloc _ _, by simp, W.heap.size, rfl, List.mem_cons_self, ?_⟩
  have := own_alloc W z.cells.toList T
  rwa [Array.toArray_toList] at this
theorem Chain.boxOp {t : Nat} {T : TypeId} {x : Operand} {v : Value} (hx : Has All w0 a0 Γ x (Is v)) (h : Chain P ops All w0 a0 K fl l ((some t, IsBox v.cells.toList T t) :: Γ) Ψ (false :: ms)) :
    Chain P ops All w0 a0 K fl (⟨some t, .box T x, ty, pos, af, none⟩ :: l) Γ Ψ ms := by
  refine .box _ t st_box rfl (fun a g W hk hg he => ?_) h
  have e1 : a.eval x = v := hx.of_env hk hg he (by simp [Op.operands])
  have hw : Region.wanted (⟨some t, .box T x, ty, pos, af, none⟩ : Oper) (yielded ops a.tmps) = true := rfl
  unfold ObRun; rw [if_pos hw]
  unfold OpRuns
  have : (execOp a.eval ⟨some t, .box T x, ty, pos, af, none⟩).run P W = .ok (.value (.pointer (some ⟨W.heap.size, 0, none⟩))) (W.alloc (.cells v.cells T)) := by
    simp [execOp, e1, Instr.box, newVar, newRow, newObj, Sem.run]
  rw [this]
  refine ⟨ext_alloc _ _, by simp, W.heap.size, rfl, List.mem_cons_self, ?_⟩
  have := own_alloc W v.cells.toList T
  rwa [Array.toArray_toList] at this
def Ret (W : World) (φ : Value → World → Prop) : Ending → World → Prop := fun e W' => ∃ v, e = .returned v ∧ Ext W W' ∧ φ v W'
theorem run_call {f : FuncId} {xs : Array Operand} {ts : Array TypeId} {a : Act} {W : World} {vs : Array Value} (hv : xs.map a.eval = vs) (hf : ∀ (args : Array Value) w, (callFunc f args).run P w = .ok (.enter f args) w) :
    (execOp a.eval ⟨d, .call ⟨.value (.func f), xs, ts⟩, ty, pos, af, gd⟩).run P W = .ok (.enter f vs) W := by
  have he : a.eval (.func f) = .func (.func f) #[] #[] := rfl
  simp [execOp, resolve, he, Deferred.ofValue, invoke, hv, hf]
end
end Go.Eng
namespace Go.Eng
abbrev z5C : List Value := [(.int .u8 (0)), (.int .i64 (0)), (.string (⟨#[]⟩)), (.slice none 0 0), (.slice none 0 0)]
def oneC : Value → Bool
  | .agg _ => false
  | .tuple _ => false
  | _ => true
mutual
theorem rdc_one {W : World} {S : BSet} : ∀ (d : D) (cs : List Value), RdC W S d cs → ∀ c ∈ cs, oneC c = true
  | .bool b, cs, h, c, hc => by simp only [RdC] at h; subst h; simp at hc; subst hc; rfl
  | .int k n, cs, h, c, hc => by simp only [RdC] at h; subst h; simp at hc; subst hc; rfl
  | .str s, cs, h, c, hc => by simp only [RdC] at h; rw [h.1] at hc; simp at hc; subst hc; rfl
  | .lst sz xs, cs, h, c, hc => by simp only [RdC] at h; obtain ⟨a, cap, h1, _⟩ := h; rw [h1] at hc; simp at hc; subst hc; rfl
  | .agg xs, cs, h, c, hc => by simp only [RdC] at h; exact rdf_one xs cs h c hc
theorem rdf_one {W : World} {S : BSet} : ∀ (xs : List D) (cs : List Value), RdF W S xs cs → ∀ c ∈ cs, oneC c = true
  | [], cs, h, c, hc => by simp only [RdF] at h; subst h; simp at hc
  | x :: xs, cs, h, c, hc => by
    simp only [RdF] at h
    obtain ⟨c1, c2, h1, h2, h3⟩ := h
    rw [h1] at hc
    rcases List.mem_append.1 hc with h | h
    · exact rdc_one x c1 h2 c h
    · exact rdf_one xs c2 h3 c h
end
section
variable {P : Program} {ops : Array Oper} {S : Nat → Prop} {w0 : World} {a0 : Act} {Γ : Ctx}
variable {d : Option Tmp} {ty : TypeId} {pos : String} {af : Array Edge} {gd : Option (Nat × Bool)}
def Enters (P : Program) (f : FuncId) : Prop := ∀ (args : Array Value) w, (callFunc f args).run P w = .ok (.enter f args) w
theorem enters_of {f : FuncId} {fn : Func} (hf : P.funcs[f]? = some fn) (hn : (fn.name == "runtime.NumGoroutine") = false) (hb : fn.body.isNone = false) : Enters P f := fun args w => by
  have hb' : fn.body ≠ none := by intro h; rw [h] at hb; cases hb
  have hn' : fn.name ≠ "runtime.NumGoroutine" := by simpa using hn
  simp [callFunc, program, Sem.run, hf, hn', hb']
theorem sp_call {f : FuncId} {xs : Array Operand} {ts : Array TypeId} {φ : Fact} (hf : Enters P f)
    (h : ∀ a g W, Keeps S w0 W → GOk w0 W g → Env Γ a0 a g W (Oper.looksAt ops ⟨d, .call ⟨.value (.func f), xs, ts⟩, ty, pos, af, gd⟩) → Calls P f (xs.map a.eval) W (Ret W (φ g))) :
    Spec P ops S w0 a0 Γ ⟨d, .call ⟨.value (.func f), xs, ts⟩, ty, pos, af, gd⟩ φ := fun a g W hk hg he => by
  unfold OpRuns
  rw [run_call rfl hf]
  exact (h a g W hk hg he).mono fun e W' ⟨v, h1, h2, h3⟩ => ⟨v, h1, h2, h3⟩
theorem sp_call0 {f : FuncId} {ts : Array TypeId} {φ : Fact} (hf : Enters P f) (hc : ∀ g W, Keeps S w0 W → GOk w0 W g → Calls P f #[] W (Ret W (φ g))) :
    Spec P ops S w0 a0 Γ ⟨d, .call ⟨.value (.func f), #[], ts⟩, ty, pos, af, gd⟩ φ := sp_call hf fun a g W hk hg _ => by simpa using hc g W hk hg
theorem sp_call1 {f : FuncId} {x : Operand} {ts : Array TypeId} {φ1 φ : Fact} (hf : Enters P f) (hx : Has S w0 a0 Γ x φ1) (hc : ∀ g u W, Keeps S w0 W → GOk w0 W g → φ1 g u W → Calls P f #[u] W (Ret W (φ g))) :
    Spec P ops S w0 a0 Γ ⟨d, .call ⟨.value (.func f), #[x], ts⟩, ty, pos, af, gd⟩ φ := sp_call hf fun a g W hk hg he => by
  simpa using hc g _ W hk hg (hx.of_env hk hg he (by simp [Op.operands, Call.operands]))
theorem sp_call2 {f : FuncId} {x y : Operand} {ts : Array TypeId} {φ1 φ2 φ : Fact} (hf : Enters P f) (hx : Has S w0 a0 Γ x φ1) (hy : Has S w0 a0 Γ y φ2)
    (hc : ∀ g u1 u2 W, Keeps S w0 W → GOk w0 W g → φ1 g u1 W → φ2 g u2 W → Calls P f #[u1, u2] W (Ret W (φ g))) :
    Spec P ops S w0 a0 Γ ⟨d, .call ⟨.value (.func f), #[x, y], ts⟩, ty, pos, af, gd⟩ φ := sp_call hf fun a g W hk hg he => by
  simpa using hc g _ _ W hk hg (hx.of_env hk hg he (by simp [Op.operands, Call.operands])) (hy.of_env hk hg he (by simp [Op.operands, Call.operands]))
theorem sp_call3 {f : FuncId} {x y z : Operand} {ts : Array TypeId} {φ1 φ2 φ3 φ : Fact} (hf : Enters P f) (hx : Has S w0 a0 Γ x φ1) (hy : Has S w0 a0 Γ y φ2) (hz : Has S w0 a0 Γ z φ3)
    (hc : ∀ g u1 u2 u3 W, Keeps S w0 W → GOk w0 W g → φ1 g u1 W → φ2 g u2 W → φ3 g u3 W → Calls P f #[u1, u2, u3] W (Ret W (φ g))) :
    Spec P ops S w0 a0 Γ ⟨d, .call ⟨.value (.func f), #[x, y, z], ts⟩, ty, pos, af, gd⟩ φ := sp_call hf fun a g W hk hg he => by
  simpa using hc g _ _ _ W hk hg (hx.of_env hk hg he (by simp [Op.operands, Call.operands])) (hy.of_env hk hg he (by simp [Op.operands, Call.operands])) (hz.of_env hk hg he (by simp [Op.operands, Call.operands]))
theorem sp_call4 {f : FuncId} {x y z x4 : Operand} {ts : Array TypeId} {φ1 φ2 φ3 φ4 φ : Fact} (hf : Enters P f) (hx : Has S w0 a0 Γ x φ1) (hy : Has S w0 a0 Γ y φ2) (hz : Has S w0 a0 Γ z φ3) (h4 : Has S w0 a0 Γ x4 φ4)
    (hc : ∀ g u1 u2 u3 u4 W, Keeps S w0 W → GOk w0 W g → φ1 g u1 W → φ2 g u2 W → φ3 g u3 W → φ4 g u4 W → Calls P f #[u1, u2, u3, u4] W (Ret W (φ g))) :
    Spec P ops S w0 a0 Γ ⟨d, .call ⟨.value (.func f), #[x, y, z, x4], ts⟩, ty, pos, af, gd⟩ φ := sp_call hf fun a g W hk hg he => by
  simpa using hc g _ _ _ _ W hk hg (hx.of_env hk hg he (by simp [Op.operands, Call.operands])) (hy.of_env hk hg he (by simp [Op.operands, Call.operands])) (hz.of_env hk hg he (by simp [Op.operands, Call.operands])) (h4.of_env hk hg he (by simp [Op.operands, Call.operands]))
def Cln (o : Option Obj) : Prop := ∃ c T, o = some (.cells c T (0, 0))
def Fr (W : World) : BSet := fun b o => W.heap.size ≤ b ∧ Cln o
theorem fresh_out {W : World} {g : Gh} (hk : Keeps S w0 W) (hg : GOk w0 W g) (b : Nat) (o : Option Obj) (h : Fr W b o) : Fr w0 b o ∧ Out g b :=
  ⟨⟨Nat.le_trans hk.size h.1, h.2⟩, fun t ht => by have := hg.hi t b ht; have := h.1; omega⟩
theorem fresh_d {W W' : World} {g : Gh} {dd : D} {v : Value} (hk : Keeps S w0 W) (hg : GOk w0 W g) (h : Rd W' (Fr W) dd v) : IsD (Fr w0) dd g v W' := h.mono fun b o hb _ => fresh_out hk hg b o hb
def splice (cs : List Value) (o : Nat) (vs : List Value) : List Value := cs.take o ++ vs ++ cs.drop (o + vs.length)
theorem run_storeCells {b : Nat} {T0 : TypeId} : ∀ (vs : List Value) (i o : Nat) (W : World) (cs : List Value), Own W b cs T0 → o + i + vs.length ≤ cs.length → (∀ c ∈ vs, oneC c = true) →
    ∃ W', (storeCells ⟨b, o, none⟩ vs i).run P W = .ok () W' ∧ Keeps (fun k => k ≠ b) W W' ∧ Own W' b (splice cs (o + i) vs) T0
  | [], i, o, W, cs, ho, _, _ => ⟨W, by simp [storeCells], .refl _ _, by simpa [splice] using ho⟩
  | v :: vs, i, o, W, cs, ho, hl, h1 => by
    simp only [List.length_cons] at hl
    have hlt : o + i < cs.length := by omega
    have hc : W.cell? ⟨b, o + i, none⟩ = some cs[o + i] := by rw [ho.cell]; simp [hlt]
    have hstore : (store ((⟨b, o, none⟩ : Addr).add i) v).run P W = .ok () (W.setCell ⟨b, o + i, none⟩ v) := by
      rw [add_none]
      have hv := h1 v List.mem_cons_self
      have hfz := ho.free (o + i)
      cases v <;> simp [store, Sem.run, hc, hfz, oneC] at hv ⊢
    have ho' : Own (W.setCell ⟨b, o + i, none⟩ v) b (cs.set (o + i) v) T0 := by
      unfold Own at ho ⊢
      simp [World.setCell, Array.getElem?_modify, ho]
    have hk : Keeps (fun k => k ≠ b) W (W.setCell ⟨b, o + i, none⟩ v) := ⟨rfl, rfl, rfl, by simp, fun k _ hne => RowKit.Below.heap_setCell _ _ _ _ hne⟩
    obtain ⟨W', h2, h3, h4⟩ := run_storeCells vs (i + 1) o _ _ ho' (by simp; omega) (fun c hc => h1 c (List.mem_cons_of_mem _ hc))
    refine ⟨W', by simp [storeCells, hstore, h2], hk.trans h3, ?_⟩
    have : splice (cs.set (o + i) v) (o + (i + 1)) vs = splice cs (o + i) (v :: vs) := by
      unfold splice
      rw [show o + (i + 1) = o + i + 1 by omega, List.take_set, List.drop_set_of_lt (by omega), List.take_succ_eq_append_getElem hlt,
        List.set_append_right _ _ (by simp; omega)]
      simp [Nat.min_eq_left (Nat.le_of_lt hlt)]
      rw [show o + i + 1 + vs.length = o + i + (vs.length + 1) by omega]
    rw [← this]; exact h4
theorem tail_store {Q : Exit → Act → World → Prop} {r : List Oper} {a : Act} {W : World} {T T0 : TypeId} {x y : Operand} {b o n : Nat} {v : Value} {cs : List Value}
    (hx : a.eval x = .pointer (some ⟨b, o, none⟩)) (hy : a.eval y = v) (hz : szOf P T = some n) (hn : v.cells.size = n) (ho : Own W b cs T0) (hl : o + n ≤ cs.length) (h1 : ∀ c ∈ v.cells.toList, oneC c = true)
    (h : ∀ W', Keeps (fun k => k ≠ b) W W' → Own W' b (splice cs o v.cells.toList) T0 → runTail P ops Q r a W') :
    runTail P ops Q (⟨none, .store T x y, ty, pos, af, none⟩ :: r) a W := by
  obtain ⟨W', h2, h3, h4⟩ := run_storeCells (P := P) v.cells.toList 0 o W cs ho (by simp; omega) h1
  have hw : Region.wanted (⟨none, .store T x y, ty, pos, af, none⟩ : Oper) (yielded ops a.tmps) = true := rfl
  unfold runTail ObRun; rw [if_pos hw]
  unfold OpRuns
  have : (execOp a.eval ⟨none, .store T x y, ty, pos, af, none⟩).run P W = .ok .skip W' := by
    simp [execOp, hx, hy, Instr.storeAt, Instr.sureAddr, storeVar, run_szOf hz, hn, h2]
  rw [this]
  exact h W' h3 (by simpa using h4)
theorem tail_nil {Q : Exit → Act → World → Prop} {a : Act} {W : World} (h : Q .normal a W) : runTail P ops Q [] a W := h
theorem enter {f : FuncId} {fn : Func} {body : Code} {args : Array Value} {N : Nat} {w : World} {R : Ending → World → Prop} (hf : P.funcs[f]? = some fn) (hb : fn.body = some body) (hN : fn.ntmps = N) (hle : args.size ≤ N)
    (h : ∀ a, a.tmps.size = N → a.defers = [] → (∀ i, i < args.size → sl a i = args.getD i undef) → body.wp P (bodyPost P fn R) a w) : Calls P f args w R := by
  refine calls_of_wp hf hb (h _ ?_ rfl ?_)
  · subst hN; simp; omega
  · intro i hi
    simp [sl, Array.getD_eq_getD_getElem?, Array.getElem?_append_left hi]
section
variable {fn : Func} {R : Ending → World → Prop} {a : Act} {W : World}
theorem ret1 {t : Nat} {v : Value} (hr : fn.results = #[.tmp t]) (hd : a.defers = []) (h : sl a t = v) (hR : R (.returned v) W) : bodyPost P fn R .ret a W :=
  ⟨hd, v, by
    have e1 : a.tmps.getD t undef = v := h
    simp only [results, hr]; simp [Array.getD_eq_getD_getElem?] at e1 ⊢; exact e1, hR⟩
theorem ret0 (hr : fn.results = #[]) (hd : a.defers = []) (hR : R (.returned (.tuple #[])) W) : bodyPost P fn R .ret a W :=
  ⟨hd, .tuple #[], by simp only [results, hr]; simp, hR⟩
theorem ret2 {t u : Nat} {v1 v2 : Value} (hr : fn.results = #[.tmp t, .tmp u]) (hd : a.defers = []) (h1 : sl a t = v1) (h2 : sl a u = v2) (hR : R (.returned (.tuple #[v1, v2])) W) : bodyPost P fn R .ret a W :=
  ⟨hd, .tuple #[v1, v2], by
    have e1 : a.tmps.getD t undef = v1 := h1
    have e2 : a.tmps.getD u undef = v2 := h2
    simp only [results, hr]; simp [Array.getD_eq_getD_getElem?] at e1 e2 ⊢; simp [e1, e2], hR⟩
theorem run_cellVar {t T b n : Nat} {ag : Bool} {cs : List Value} {T' : TypeId} {v : Value} (hp : sl a t = .pointer (some ⟨b, 0, none⟩)) (ho : Own W b cs T') (hT : aggB P T = some ag) (hz : szOf P T = some n) (hn : cs.length = n) (h1 : ag = false → n = 1)
    (hv : (if ag then .agg cs.toArray else cs.headD undef) = v) : (do loadVar T (← asAddr (a.tmps.getD t undef)) : Sem Value).run P W = .ok v W := by
  have e : a.tmps.getD t undef = .pointer (some ⟨b, 0, none⟩) := hp
  have hc : CellsAt W b 0 cs := fun i hi => by rw [ho.cell]; simp [hi]
  have := run_loadVar (P := P) hc hT hz hn h1
  rw [e]
  simp only [Sem.run_bind, asAddr, Sem.run_pure, Result.andThen_ok, this, hv]
theorem retC {t T b n : Nat} {ag : Bool} {cs : List Value} {T' : TypeId} {v : Value} (hr : fn.results = #[.cell t T]) (hd : a.defers = []) (hp : sl a t = .pointer (some ⟨b, 0, none⟩)) (ho : Own W b cs T') (hT : aggB P T = some ag) (hz : szOf P T = some n) (hn : cs.length = n) (h1 : ag = false → n = 1)
    (hv : (if ag then .agg cs.toArray else cs.headD undef) = v) (hR : R (.returned v) W) : bodyPost P fn R .ret a W :=
  ⟨hd, v, by
    have := run_cellVar (P := P) hp ho hT hz hn h1 hv
    simp only [results, hr]
    simp only [Sem.run_bind, Array.getD_eq_getD_getElem?] at this
    simp [Array.getD_eq_getD_getElem?]
    cases hq : (asAddr (a.tmps[t]?.getD undef)).run P W with
    | halt x w => rw [hq] at this; simp at this
    | ok x w =>
      rw [hq] at this; simp only [Result.andThen_ok] at this ⊢
      rw [this], hR⟩
theorem retCT {t u T b n : Nat} {ag : Bool} {cs : List Value} {T' : TypeId} {v v2 : Value} (hr : fn.results = #[.cell t T, .tmp u]) (hd : a.defers = []) (hp : sl a t = .pointer (some ⟨b, 0, none⟩)) (ho : Own W b cs T') (hT : aggB P T = some ag) (hz : szOf P T = some n) (hn : cs.length = n) (h1 : ag = false → n = 1)
    (hv : (if ag then .agg cs.toArray else cs.headD undef) = v) (h2 : sl a u = v2) (hR : R (.returned (.tuple #[v, v2])) W) : bodyPost P fn R .ret a W :=
  ⟨hd, .tuple #[v, v2], by
    have := run_cellVar (P := P) hp ho hT hz hn h1 hv
    have e2 : a.tmps.getD u undef = v2 := h2
    rw [results_cell_tmp hr]
    simp only [Sem.run_bind] at this
    cases hq : (asAddr (a.tmps.getD t undef)).run P W with
    | halt x w => rw [hq] at this; simp at this
    | ok x w =>
      rw [hq] at this; simp only [Result.andThen_ok] at this ⊢
      rw [this]; simp only [Result.andThen_ok, e2], hR⟩
end
end
end Go.Eng
namespace Go.Eng
inductive V where
  | mk (k : Nat) (n : Int) (t : ByteArray) (ns : List ByteArray) (xs : List V)
namespace V
def k : V → Nat | .mk k _ _ _ _ => k
def n : V → Int | .mk _ n _ _ _ => n
def t : V → ByteArray | .mk _ _ t _ _ => t
def ns : V → List ByteArray | .mk _ _ _ ns _ => ns
def xs : V → List V | .mk _ _ _ _ xs => xs
end V
def strsD (ns : List ByteArray) : D := .lst 1 (ns.map .str)
mutual
def V.d : V → D
  | .mk k n t ns xs => .agg [.int .u8 k, .int .i64 n, .str t, strsD ns, .lst 5 (V.ds xs)]
def V.ds : List V → List D
  | [] => []
  | x :: xs => V.d x :: V.ds xs
end
theorem V.ds_eq : ∀ xs : List V, V.ds xs = xs.map V.d
  | [] => rfl
  | x :: xs => by simp [V.ds, V.ds_eq xs]
def valsD (xs : List V) : D := .lst 5 (xs.map V.d)
theorem V.d_eq (x : V) : x.d = .agg [.int .u8 x.k, .int .i64 x.n, .str x.t, strsD x.ns, valsD x.xs] := by
  cases x; simp [V.d, V.k, V.n, V.t, V.ns, V.xs, valsD, V.ds_eq]
theorem rd_V {W : World} {S : BSet} {x : V} {v : Value} : Rd W S x.d v ↔ ∃ cn ci, v = .agg #[.int .u8 x.k, .int .i64 x.n, .string x.t, cn, ci] ∧ x.t.size ≤ maxLen ∧ RdC W S (strsD x.ns) [cn] ∧ RdC W S (valsD x.xs) [ci] := by
  rw [V.d_eq]
  constructor
  · rintro ⟨cs, h, rfl⟩
    simp only [RdC, RdF] at h
    obtain ⟨c1, r1, rfl, rfl, c2, r2, rfl, rfl, c3, r3, rfl, ⟨rfl, ht⟩, c4, r4, rfl, h4, c5, r5, rfl, h5, rfl⟩ := h
    simp only [strsD, valsD, RdC] at h4 h5
    have e4 : ∃ cn, c4 = [cn] := by obtain ⟨a, cap, e, _⟩ := h4; exact ⟨_, e⟩
    have e5 : ∃ cn, c5 = [cn] := by obtain ⟨a, cap, e, _⟩ := h5; exact ⟨_, e⟩
    obtain ⟨cn, rfl⟩ := e4
    obtain ⟨ci, rfl⟩ := e5
    exact ⟨cn, ci, rfl, ht, by simpa only [strsD, RdC] using h4, by simpa only [valsD, RdC] using h5⟩
  · rintro ⟨cn, ci, rfl, ht, h4, h5⟩
    refine ⟨[.int .u8 x.k, .int .i64 x.n, .string x.t, cn, ci], ?_, rfl⟩
    simp only [RdC, RdF]
    exact ⟨[_], _, rfl, rfl, [_], _, rfl, rfl, [_], _, rfl, ⟨rfl, ht⟩, [cn], [ci], rfl, h4, [ci], [], rfl, h5, rfl⟩
theorem rdc_one1 {W : World} {S : BSet} {dd : D} {v : Value} (h : Rd W S dd v) (ha : dd.isAgg = false) : RdC W S dd [v] := by
  obtain ⟨cs, h1, rfl⟩ := h
  have hl := rdc_width dd cs h1
  have : width dd = 1 := by cases dd <;> simp_all [D.isAgg, width]
  match cs, hl.trans this with
  | [c], _ => cases dd <;> simp_all [asm, D.isAgg]
theorem rd_one1 {W : World} {S : BSet} {dd : D} {v : Value} (h : RdC W S dd [v]) (ha : dd.isAgg = false) : Rd W S dd v :=
  ⟨[v], h, by cases dd <;> simp_all [asm, D.isAgg]⟩
mutual
def V.cnt : V → Nat
  | .mk _ _ _ _ xs => V.cnts xs + 1
def V.cnts : List V → Nat
  | [] => 0
  | x :: xs => V.cnt x + V.cnts xs
end
end Go.Eng
namespace Go.Eng
def SA (w : World) (S : BSet) (M : List Nat) : BSet := fun b o => (b < w.heap.size → S b o) ∧ (w.heap.size ≤ b → Cln o) ∧ b ∉ M
def SF (w : World) (M : List Nat) : BSet := fun b o => w.heap.size ≤ b ∧ Cln o ∧ b ∉ M
def Ar (w : World) (S : BSet) : BSet := fun b o => (b < w.heap.size → S b o) ∧ (w.heap.size ≤ b → Cln o)
def Tr : World → Prop := fun _ => True
theorem st_tr : StableE Tr := fun _ _ _ _ => trivial
theorem sub_all {S : BSet} : ∀ b o, S b o → All b := fun _ _ _ => trivial
theorem rd_arg {w : World} {S : BSet} {d : D} {v : Value} (h : Rd w S d v) : Rd w (SA w S []) d v := h.mono fun b o hb hlt => ⟨fun _ => hb, fun h' => by omega, by simp⟩
theorem ref_arg {w : World} {S : BSet} {d : D} {v : Value} (h : Ref w S d v) : Ref w (SA w S []) d v := h.mono fun b o hb hlt => ⟨fun _ => hb, fun h' => by omega, by simp⟩
theorem not_more {W : World} {b : Nat} {M news : List Nat} (hm : b ∉ M) (hlt : b < W.heap.size) (hn : ∀ b ∈ news, W.heap.size ≤ b) : b ∉ news ++ M := fun h => by
  rcases List.mem_append.1 h with h1 | h1
  · have := hn b h1; omega
  · exact hm h1
theorem not_ghost {g : Gh} {b : Nat} {M news : List Nat} (hm : b ∉ M) (ho : Out g b) (hn : ∀ b ∈ news, ∃ t, (t, b) ∈ g) : b ∉ news ++ M := fun h => by
  rcases List.mem_append.1 h with h1 | h1
  · obtain ⟨t, ht⟩ := hn b h1; exact ho t ht
  · exact hm h1
theorem sa_more {w W W' : World} {S : BSet} {M : List Nat} {d : D} {v : Value} (h : Rd W (SA w S M) d v) (k : Ext W W') (news : List Nat) (hn : ∀ b ∈ news, W.heap.size ≤ b) : Rd W' (SA w S (news ++ M)) d v :=
  (h.mono fun _ _ hb hlt => ⟨hb.1, hb.2.1, not_more hb.2.2 hlt hn⟩ : Rd W (SA w S (news ++ M)) d v).ext k
theorem sf_more {w W W' : World} {M : List Nat} {d : D} {v : Value} (h : Rd W (SF w M) d v) (k : Ext W W') (news : List Nat) (hn : ∀ b ∈ news, W.heap.size ≤ b) : Rd W' (SF w (news ++ M)) d v :=
  (h.mono fun _ _ hb hlt => ⟨hb.1, hb.2.1, not_more hb.2.2 hlt hn⟩ : Rd W (SF w (news ++ M)) d v).ext k
theorem sa_end {w W W' : World} {S : BSet} {M : List Nat} {d : D} {v : Value} {g : Gh} (h : IsD (SA w S M) d g v W') (_k : Ext W W') (news : List Nat) (hn : ∀ b ∈ news, ∃ t, (t, b) ∈ g) : Rd W' (SA w S (news ++ M)) d v :=
  Rd.mono h fun _ _ hb _ => ⟨hb.1.1, hb.1.2.1, not_ghost hb.1.2.2 hb.2 hn⟩
theorem sf_end {w W W' : World} {M : List Nat} {d : D} {v : Value} {g : Gh} (h : IsD (SF w M) d g v W') (_k : Ext W W') (news : List Nat) (hn : ∀ b ∈ news, ∃ t, (t, b) ∈ g) : Rd W' (SF w (news ++ M)) d v :=
  Rd.mono h fun _ _ hb _ => ⟨hb.1.1, hb.1.2.1, not_ghost hb.1.2.2 hb.2 hn⟩
theorem fr_end {S0 : Nat → Prop} {w W W' : World} {M : List Nat} {d : D} {v : Value} {g : Gh} (h : IsD (Fr W) d g v W') (kw : Keeps S0 w W) (news : List Nat) (hn : ∀ b ∈ news, ∃ t, (t, b) ∈ g) (hM : ∀ b ∈ M, b < W.heap.size) : Rd W' (SF w (news ++ M)) d v :=
  Rd.mono h fun b _ hb _ => ⟨Nat.le_trans kw.size hb.1.1, hb.1.2, not_ghost (fun h1 => by have := hM b h1; have h2 : W.heap.size ≤ b := hb.1.1; omega) hb.2 hn⟩
theorem rsa_end {w W W' : World} {S : BSet} {M : List Nat} {d : D} {v : Value} {g : Gh} (h : IsR (SA w S M) d g v W') (_k : Ext W W') (news : List Nat) (hn : ∀ b ∈ news, ∃ t, (t, b) ∈ g) : Ref W' (SA w S (news ++ M)) d v :=
  Ref.mono h fun _ _ hb _ => ⟨hb.1.1, hb.1.2.1, not_ghost hb.1.2.2 hb.2 hn⟩
theorem sa_store {w W W' : World} {S : BSet} {M : List Nat} {d : D} {v : Value} {b : Nat} (h : Rd W (SA w S M) d v) (k : Keeps (fun x => x ≠ b) W W') (hb : b ∈ M) : Rd W' (SA w S M) d v :=
  h.keeps k fun x _ hx e => hx.2.2 (e ▸ hb)
theorem sf_store {w W W' : World} {M : List Nat} {d : D} {v : Value} {b : Nat} (h : Rd W (SF w M) d v) (k : Keeps (fun x => x ≠ b) W W') (hb : b ∈ M) : Rd W' (SF w M) d v :=
  h.keeps k fun x _ hx e => hx.2.2 (e ▸ hb)
theorem own_store {W W' : World} {b b' : Nat} {cs : List Value} {T : TypeId} (h : Own W b' cs T) (k : Keeps (fun x => x ≠ b) W W') (hne : b' ≠ b) : Own W' b' cs T := h.keeps k hne
theorem sa_less {w W : World} {S : BSet} {M M' : List Nat} {d : D} {v : Value} (h : Rd W (SA w S M) d v) (hm : ∀ b ∈ M', b ∈ M) : Rd W (SA w S M') d v := h.mono fun b _ hb _ => ⟨hb.1, hb.2.1, fun h' => hb.2.2 (hm b h')⟩
theorem sf_less {w W : World} {M M' : List Nat} {d : D} {v : Value} (h : Rd W (SF w M) d v) (hm : ∀ b ∈ M', b ∈ M) : Rd W (SF w M') d v := h.mono fun b _ hb _ => ⟨hb.1, hb.2.1, fun h' => hb.2.2 (hm b h')⟩
theorem sa_ar {w W : World} {S : BSet} {M : List Nat} {d : D} {v : Value} (h : Rd W (SA w S M) d v) : Rd W (Ar w S) d v := h.mono fun b _ hb _ => ⟨hb.1, hb.2.1⟩
theorem sf_fr {w W : World} {M : List Nat} {d : D} {v : Value} (h : Rd W (SF w M) d v) : Rd W (Fr w) d v := h.mono fun b _ hb _ => ⟨hb.1, hb.2.1⟩
theorem ret_fr {S1 : Nat → Prop} {w0 W : World} {g : Gh} {d : D} (hk : Keeps S1 w0 W) (hg : GOk w0 W g) : ∀ e W', Ret W (fun u W' => Rd W' (Fr W) d u) e W' → Ret W (IsD (Fr w0) d g) e W' :=
  fun _ _ ⟨v, h1, h2, h3⟩ => ⟨v, h1, h2, fresh_d hk hg h3⟩
theorem rd_ar_sa {S0 S1 : Nat → Prop} {w w0 W W' : World} {S : BSet} {M : List Nat} {g : Gh} {d : D} {u : Value} (kw : Keeps S0 w w0) (hM : ∀ b ∈ M, b < w0.heap.size) (hk : Keeps S1 w0 W) (hg : GOk w0 W g) (h : Rd W' (Ar W (fun b o => SA w S M b o ∧ Out g b)) d u) : IsD (SA w S M) d g u W' :=
  h.mono fun b o hb _ => by
    by_cases hlt : b < W.heap.size
    · exact hb.1 hlt
    · have h1 := kw.size
      have h2 := hk.size
      exact ⟨⟨fun h => by omega, fun _ => hb.2 (by omega), fun hm => by have := hM b hm; omega⟩, fun t ht => by have := hg.hi t b ht; omega⟩
def IsT (φ1 φ2 : Fact) : Fact := fun g u W => ∃ u1 u2, u = .tuple #[u1, u2] ∧ φ1 g u1 W ∧ φ2 g u2 W
theorem st_t {S : Nat → Prop} {φ1 φ2 : Fact} (h1 : Stable S φ1) (h2 : Stable S φ2) : Stable S (IsT φ1 φ2) :=
  ⟨fun _ _ _ _ k ⟨u1, u2, e, a, b⟩ => ⟨u1, u2, e, h1.world _ _ _ _ k a, h2.world _ _ _ _ k b⟩, fun _ _ _ _ _ hb ⟨u1, u2, e, a, b⟩ => ⟨u1, u2, e, h1.ghost _ _ _ _ _ hb a, h2.ghost _ _ _ _ _ hb b⟩⟩
section
variable {P : Program} {Q : Exit → Act → World → Prop} {a : Act} {w : World}
theorem wp_loopN {c : Code} (I : Nat → Act → World → Prop) (n : Nat) (h0 : I n a w)
    (round : ∀ n a w, I n a w → c.wp P (Exit.then (fun a' w' => ∃ m, m < n ∧ I m a' w') Q) a w) : (Code.loop c).wp P Q a w := by
  intro b k cs
  have key : ∀ n a w, I n a w → ∃ e a' w', Q e a' w' ∧ Arrives P (lone (b.at a (.code c :: .inLoop c :: k)) cs w) b k cs e a' w' := by
    intro n
    induction n using Nat.strongRecOn with
    | _ n ih =>
      intro a w hI
      obtain ⟨e, a₁, w₁, hq, harr⟩ := round n a w hI b (.inLoop c :: k) cs
      cases e with
      | normal =>
        obtain ⟨m, hlt, hI₁⟩ := hq
        obtain ⟨e₂, a₂, w₂, hq₂, harr₂⟩ := ih m hlt a₁ w₁ hI₁
        exact ⟨e₂, a₂, w₂, hq₂, .of_steps (Steps.trans harr (.one step_inLoop)) harr₂⟩
      | exit id => exact ⟨_, a₁, w₁, hq, .pass (x := .inLoop c) rfl (fun _ _ => .inl (by simp)) harr⟩
      | goto l => exact ⟨_, a₁, w₁, hq, .pass (x := .inLoop c) rfl (fun _ _ => .inl (by simp)) harr⟩
      | ret => exact ⟨_, a₁, w₁, hq, .pass (x := .inLoop c) rfl (fun _ _ => .inl (by simp)) harr⟩
      | panic ch => exact ⟨_, a₁, w₁, hq, .pass (x := .inLoop c) rfl (fun _ _ => .inl (by simp)) harr⟩
      | outgrown => exact ⟨_, a₁, w₁, hq, .pass (x := .inLoop c) rfl (fun _ _ => .inl (by simp)) harr⟩
  obtain ⟨e, a', w', hq, harr⟩ := key n a w h0
  exact ⟨e, a', w', hq, .of_steps (.one step_loop) harr⟩
theorem wp_for {c : Code} (n : Nat) (I : Nat → Act → World → Prop) (h0 : I 0 a w)
    (round : ∀ k a w, k ≤ n → I k a w → c.wp P (Exit.then (fun a' w' => k < n ∧ I (k + 1) a' w') Q) a w) : (Code.loop c).wp P Q a w := by
  refine wp_loopN (fun r a w => ∃ k, k + r = n ∧ I k a w) n ⟨0, by omega, h0⟩ ?_
  rintro r a w ⟨k, hk, hI⟩
  refine wp_mono (round k a w (by omega) hI) ?_
  intro e a' w' h
  cases e with
  | normal => obtain ⟨h1, h2⟩ := h; exact ⟨n - (k + 1), by omega, k + 1, by omega, h2⟩
  | exit id => exact h
  | goto l => exact h
  | ret => exact h
  | panic ch => exact h
  | outgrown => exact h
end
section
variable {P : Program} {ops : Array Oper} {S : Nat → Prop} {w0 : World} {a0 : Act} {Γ : Ctx}
variable {d : Option Tmp} {ty : TypeId} {pos : String} {af : Array Edge} {gd : Option (Nat × Bool)}
theorem sp_indexV {x y : Operand} {T E : TypeId} {S' : BSet} {xs : List V} {i : Nat} {j : Int} (hx : Has S w0 a0 Γ x (IsD S' (valsD xs))) (hy : Has S w0 a0 Γ y (Is (.int .i64 j))) (hT : P.underlying T = some (.slice E)) (hz : szOf P E = some 5)
    (hj : j = i) (hi : i < xs.length) : Spec P ops S w0 a0 Γ ⟨d, .indexAddr T x y, ty, pos, af, gd⟩ (IsR S' (V.d xs[i])) := by
  subst hj
  have := sp_indexD (ty := ty) (pos := pos) (af := af) (gd := gd) (d := d) (ops := ops) hx hy hT hz (i := i) (by simpa using hi)
  simpa using this
theorem sp_indexS {x y : Operand} {T E : TypeId} {S' : BSet} {ns : List ByteArray} {i : Nat} {j : Int} (hx : Has S w0 a0 Γ x (IsD S' (strsD ns))) (hy : Has S w0 a0 Γ y (Is (.int .i64 j))) (hT : P.underlying T = some (.slice E)) (hz : szOf P E = some 1)
    (hj : j = i) (hi : i < ns.length) : Spec P ops S w0 a0 Γ ⟨d, .indexAddr T x y, ty, pos, af, gd⟩ (IsR S' (.str ns[i])) := by
  subst hj
  have := sp_indexD (ty := ty) (pos := pos) (af := af) (gd := gd) (d := d) (ops := ops) hx hy hT hz (i := i) (by simpa using hi)
  simpa using this
theorem sp_mono {o : Oper} {φ ψ : Fact} (h : Spec P ops S w0 a0 Γ o φ) (hi : ∀ g v W, φ g v W → ψ g v W) : Spec P ops S w0 a0 Γ o ψ :=
  fun a g W hk hg he => (h a g W hk hg he).mono fun v W' ⟨h1, h2⟩ => ⟨h1, hi _ _ _ h2⟩
theorem d_str {S' : BSet} {s : ByteArray} {g : Gh} {v : Value} {W : World} (h : IsD S' (.str s) g v W) : v = .string s := by
  obtain ⟨cs, h1, rfl⟩ := h; simp only [RdC] at h1; rw [h1.1]; rfl
theorem d_int {S' : BSet} {k : IntKind} {n : Int} {g : Gh} {v : Value} {W : World} (h : IsD S' (.int k n) g v W) : v = .int k n := by
  obtain ⟨cs, h1, rfl⟩ := h; simp only [RdC] at h1; rw [h1]; rfl
theorem sp_loadStr {x : Operand} {T : TypeId} {S' : BSet} {s : ByteArray} (hx : Has S w0 a0 Γ x (IsR S' (.str s))) (hT : aggB P T = some false) (hz : szOf P T = some 1) : Spec P ops S w0 a0 Γ ⟨d, .load T x, ty, pos, af, gd⟩ (Is (.string s)) :=
  sp_mono (sp_loadR hx hT hz rfl) fun _ _ _ h => d_str h
theorem sp_loadInt {x : Operand} {T : TypeId} {S' : BSet} {k : IntKind} {n : Int} (hx : Has S w0 a0 Γ x (IsR S' (.int k n))) (hT : aggB P T = some false) (hz : szOf P T = some 1) : Spec P ops S w0 a0 Γ ⟨d, .load T x, ty, pos, af, gd⟩ (Is (.int k n)) :=
  sp_mono (sp_loadR hx hT hz rfl) fun _ _ _ h => d_int h
theorem sp_loadV {x : Operand} {T : TypeId} {S' : BSet} {y : V} (hx : Has S w0 a0 Γ x (IsR S' y.d)) (hT : aggB P T = some true) (hz : szOf P T = some 5) : Spec P ops S w0 a0 Γ ⟨d, .load T x, ty, pos, af, gd⟩ (IsD S' y.d) := by
  refine sp_loadR hx ?_ hz ?_
  · rw [hT, V.d_eq]; rfl
  · rw [V.d_eq]; rfl
theorem sp_fieldV {x : Operand} {T : TypeId} {S' : BSet} {y : V} {f n : Nat} {fs : Array Field} {fd : Field} {e : D} (hx : Has S w0 a0 Γ x (IsR S' y.d)) (hT : P.underlying T = some (.struct fs)) (hf : fs[f]? = some fd) (hz : szOf P fd.type = some (n + 1))
    (hy : ([.int .u8 y.k, .int .i64 y.n, .str y.t, strsD y.ns, valsD y.xs] : List D)[f]? = some e) (ho : fd.offset = f) : Spec P ops S w0 a0 Γ ⟨d, .fieldAddr T x f, ty, pos, af, gd⟩ (IsR S' e) := by
  rw [V.d_eq] at hx
  refine sp_fieldR hx hT hf hz hy ?_
  rw [ho]
  match f, hy with
  | 0, _ => rfl
  | 1, _ => rfl
  | 2, _ => rfl
  | 3, _ => rfl
  | 4, _ => rfl
theorem i64_in {n : Int} (h : -9223372036854775808 ≤ n ∧ n ≤ 9223372036854775807) : IntKind.i64.wrap n = n := IntWalk.i64_in n h
end
end Go.Eng
namespace Go.Eng
theorem rdS_out {W : World} {S : BSet} {ns : List ByteArray} {v : Value} (h : Rd W S (strsD ns) v) : ∃ ad cap, v = .slice ad ns.length cap ∧ Rd W S (strsD ns) (.slice ad ns.length cap) := by
  have h' := h
  obtain ⟨cs, h1, h2⟩ := h
  simp only [strsD, RdC] at h1
  obtain ⟨ad, cap, rfl, _⟩ := h1
  have e : v = .slice ad ns.length cap := by rw [h2]; simp [asm, strsD]
  exact ⟨ad, cap, e, e ▸ h'⟩
theorem rdVs_out {W : World} {S : BSet} {xs : List V} {v : Value} (h : Rd W S (valsD xs) v) : ∃ ad cap, v = .slice ad xs.length cap ∧ Rd W S (valsD xs) (.slice ad xs.length cap) := by
  have h' := h
  obtain ⟨cs, h1, h2⟩ := h
  simp only [valsD, RdC] at h1
  obtain ⟨ad, cap, rfl, _⟩ := h1
  have e : v = .slice ad xs.length cap := by rw [h2]; simp [asm, valsD]
  exact ⟨ad, cap, e, e ▸ h'⟩
theorem rdV_out {W : World} {S : BSet} {x : V} {v : Value} (h : Rd W S x.d v) : ∃ a1 c1 a2 c2, v = .agg #[.int .u8 x.k, .int .i64 x.n, .string x.t, .slice a1 x.ns.length c1, .slice a2 x.xs.length c2] ∧ x.t.size ≤ maxLen ∧ Rd W S (strsD x.ns) (.slice a1 x.ns.length c1) ∧ Rd W S (valsD x.xs) (.slice a2 x.xs.length c2) := by
  obtain ⟨cn, ci, h1, h2, h3, h4⟩ := rd_V.1 h
  obtain ⟨a1, c1, e1, h3'⟩ := rdS_out (rd_one1 h3 rfl)
  obtain ⟨a2, c2, e2, h4'⟩ := rdVs_out (rd_one1 h4 rfl)
  subst e1; subst e2
  exact ⟨a1, c1, a2, c2, h1, h2, h3', h4'⟩
theorem rdV_in {W : World} {S : BSet} {x : V} {cn ci : Value} (h2 : x.t.size ≤ maxLen) (h3 : Rd W S (strsD x.ns) cn) (h4 : Rd W S (valsD x.xs) ci) : Rd W S x.d (.agg #[.int .u8 x.k, .int .i64 x.n, .string x.t, cn, ci]) :=
  rd_V.2 ⟨cn, ci, rfl, h2, rdc_one1 h3 rfl, rdc_one1 h4 rfl⟩
theorem rd_nil {W : World} {S : BSet} (sz : Nat) : Rd W S (.lst sz []) (.slice none 0 0) := ⟨[.slice none 0 0], by simp only [RdC]; exact ⟨none, 0, rfl, by simp, by simp, .inl trivial⟩, rfl⟩
theorem in_nil {p : Nat → Prop} : ∀ b ∈ ([] : List Nat), p b := fun _ h => by cases h
theorem in_cons {p : Nat → Prop} {x : Nat} {l : List Nat} (h : p x) (hl : ∀ b ∈ l, p b) : ∀ b ∈ x :: l, p b := List.forall_mem_cons.2 ⟨h, hl⟩
theorem all_nil {p : Value → Prop} : ∀ b ∈ ([] : List Value), p b := fun _ h => by cases h
theorem all_cons {p : Value → Prop} {x : Value} {l : List Value} (h : p x) (hl : ∀ b ∈ l, p b) : ∀ b ∈ x :: l, p b := List.forall_mem_cons.2 ⟨h, hl⟩
section
variable {P : Program} {ops : Array Oper} {S : Nat → Prop} {w0 : World} {a0 : Act} {Γ : Ctx}
variable {d : Option Tmp} {ty : TypeId} {pos : String} {af : Array Edge} {gd : Option (Nat × Bool)}
theorem sp_lenSs {x : Operand} {T E : TypeId} {S' : BSet} {ns : List ByteArray} (hT : P.underlying T = some (.slice E)) (hx : Has S w0 a0 Γ x (IsD S' (strsD ns))) :
    Spec P ops S w0 a0 Γ ⟨d, .call ⟨.builtin .len, #[x], #[T]⟩, ty, pos, af, gd⟩ (Is (.int .i64 ns.length)) := by
  have := sp_lenD (ops := ops) (d := d) (ty := ty) (pos := pos) (af := af) (gd := gd) hT hx
  simpa using this
theorem sp_lenVs {x : Operand} {T E : TypeId} {S' : BSet} {xs : List V} (hT : P.underlying T = some (.slice E)) (hx : Has S w0 a0 Γ x (IsD S' (valsD xs))) :
    Spec P ops S w0 a0 Γ ⟨d, .call ⟨.builtin .len, #[x], #[T]⟩, ty, pos, af, gd⟩ (Is (.int .i64 xs.length)) := by
  have := sp_lenD (ops := ops) (d := d) (ty := ty) (pos := pos) (af := af) (gd := gd) hT hx
  simpa using this
theorem sp_min {x y : Operand} {T T' : TypeId} {m n : Int} (hx : Has S w0 a0 Γ x (Is (.int .i64 m))) (hy : Has S w0 a0 Γ y (Is (.int .i64 n))) :
    Spec P ops S w0 a0 Γ ⟨d, .call ⟨.builtin .min, #[x, y], #[T, T']⟩, ty, pos, af, gd⟩ (Is (.int .i64 (min m n))) := sp_val fun a g W hk hg he => by
  have e1 : a.eval x = .int .i64 m := hx.of_env hk hg he (by simp [Op.operands, Call.operands])
  have e2 : a.eval y = .int .i64 n := hy.of_env hk hg he (by simp [Op.operands, Call.operands])
  have e3 : (if n < m then n else m) = min m n := by simp only [Int.min_def]; split <;> split <;> omega
  simp [execOp, resolve, invoke, builtin, Builtin.min_, Builtin.min2, e1, e2, e3]
end
section
variable {P : Program} {ops : Array Oper} {S : Nat → Prop} {w0 : World} {a0 : Act} {Γ : Ctx}
variable {d : Option Tmp} {ty : TypeId} {pos : String} {af : Array Edge} {gd : Option (Nat × Bool)}
def placesOf (P : Program) (fs : List Field) : List (Nat × Nat) := fs.map fun f => (f.offset, (szOf P f.type).getD 0)
theorem run_places : ∀ (fs : List Field) (w : World), (fs.all fun f => (szOf P f.type).isSome) = true →
    (fs.mapM fun f => (do pure (f.offset, ← sizeOf f.type) : Sem (Nat × Nat))).run P w = .ok (placesOf P fs) w
  | [], w, _ => rfl
  | f :: fs, w, h => by
    simp only [List.all_cons, Bool.and_eq_true] at h
    cases hz : szOf P f.type with
    | none => rw [hz] at h; simp at h
    | some n =>
      have := run_places fs w h.2
      simp [List.mapM_cons, run_szOf hz, placesOf, hz] at this ⊢
      simp [this, placesOf]
def PartsAre (S : Nat → Prop) (w0 : World) (a0 : Act) (Γ : Ctx) : List (Nat × Operand) → List (Nat × Value) → Prop
  | [], [] => True
  | (i, x) :: ps, (j, v) :: vs => i = j ∧ Has S w0 a0 Γ x (Is v) ∧ PartsAre S w0 a0 Γ ps vs
  | _, _ => False
theorem PartsAre.vals {o : Oper} {a : Act} {g : Gh} {W : World} (hk : Keeps S w0 W) (hg : GOk w0 W g) (he : Env Γ a0 a g W (o.looksAt ops)) : ∀ (ps : List (Nat × Operand)) (vs : List (Nat × Value)), PartsAre S w0 a0 Γ ps vs → (∀ p ∈ ps, p.2 ∈ o.op.operands) →
    ps.map (fun p => (p.1, a.eval p.2)) = vs
  | [], [], _, _ => rfl
  | [], _ :: _, h, _ => h.elim
  | _ :: _, [], h, _ => h.elim
  | (i, x) :: ps, (j, v) :: vs, ⟨h1, h2, h3⟩, hm => by
    have e : a.eval x = v := h2.of_env hk hg he (hm (i, x) List.mem_cons_self)
    simp [h1, e, PartsAre.vals hk hg he ps vs h3 fun p hp => hm p (List.mem_cons_of_mem _ hp)]
theorem run_build {T : TypeId} {fs : Array Field} {zs : Array Value} {vs : Array (Nat × Value)} {cells : Array Value} (hT : P.underlying T = some (.struct fs)) (hz : zeroOf P T = some (.agg zs)) (hok : (fs.toList.all fun f => (szOf P f.type).isSome) = true)
    (hf : Instr.fill (fun i => (placesOf P fs.toList).toArray[i]?) zs vs.toList = some cells) (w : World) : (Instr.build T vs).run P w = .ok (.agg cells) w := by
  have hp := run_places (P := P) fs.toList w hok
  simp only [Instr.build, Sem.run_bind, run_zeroOf hz, Result.andThen_ok, run_und hT]
  have : (fs.mapM fun f => (do pure (f.offset, ← sizeOf f.type) : Sem (Nat × Nat))).run P w = .ok (placesOf P fs.toList).toArray w := by
    rw [Array.mapM_eq_mapM_toList]
    simp only [Sem.run_map, hp, Result.andThen_ok]
  rw [this]
  simp only [Result.andThen_ok, Value.cells, hf, Sem.run_pure]
theorem sp_build {T : TypeId} {parts : Array (Nat × Operand)} {vs : List (Nat × Value)} {fs : Array Field} {zs cells : Array Value} (hT : P.underlying T = some (.struct fs)) (hz : zeroOf P T = some (.agg zs)) {pls : List (Nat × Nat)} (hpl : (fs.toList.all fun f => (szOf P f.type).isSome) = true ∧ placesOf P fs.toList = pls)
    (hp : PartsAre S w0 a0 Γ parts.toList vs) (hf : Instr.fill (fun i => pls.toArray[i]?) zs vs = some cells) :
    Spec P ops S w0 a0 Γ ⟨d, .build T parts, ty, pos, af, gd⟩ (Is (.agg cells)) := sp_val fun a g W hk hg he => by
  have hm := hp.vals hk hg he _ _ (fun p hp => by simp [Op.operands]; exact ⟨p.1, by simpa using hp⟩)
  have e : parts.map (fun p => (p.1, a.eval p.2)) = vs.toArray := by
    rw [← hm]; apply Array.ext'; simp
  obtain ⟨hok, rfl⟩ := hpl
  have hr := run_build (P := P) (vs := vs.toArray) hT hz hok hf W
  have e' : (parts.map fun x => (x.1, a.eval x.2)) = vs.toArray := e
  simp only [execOp, Sem.run_bind]
  rw [show (parts.map fun x => match x with | (i, x) => (i, a.eval x)) = vs.toArray from e', hr]
  rfl
end
end Go.Eng
namespace Go.Eng
def RowIs (W : World) (X : BSet) (sz : Nat) : List D → List Value → Prop
  | [], cs => cs = []
  | d :: ds, cs => ∃ c r, cs = c ++ r ∧ c.length = sz ∧ RdC W X d c ∧ RowIs W X sz ds r
theorem RowIs.length {W : World} {X : BSet} {sz : Nat} : ∀ {ds : List D} {cs : List Value}, RowIs W X sz ds cs → cs.length = ds.length * sz
  | [], cs, h => by simp only [RowIs] at h; subst h; simp
  | d :: ds, cs, h => by
    simp only [RowIs] at h
    obtain ⟨c, r, rfl, h1, _, h3⟩ := h
    rw [List.length_append, h1, h3.length, List.length_cons, Nat.add_mul]; omega
theorem RowIs.append {W : World} {X : BSet} {sz : Nat} : ∀ {ds es : List D} {cs rs : List Value}, RowIs W X sz ds cs → RowIs W X sz es rs → RowIs W X sz (ds ++ es) (cs ++ rs)
  | [], es, cs, rs, h, h' => by simp only [RowIs] at h; subst h; simpa using h'
  | d :: ds, es, cs, rs, h, h' => by
    simp only [RowIs] at h
    obtain ⟨c, r, rfl, h1, h2, h3⟩ := h
    simp only [List.cons_append, RowIs]
    exact ⟨c, r ++ rs, by simp, h1, h2, h3.append h'⟩
theorem RowIs.move {W W' : World} {X X' : BSet} {sz : Nat} (hs : W.heap.size ≤ W'.heap.size) (h : ∀ b, X b W.heap[b]? → b < W.heap.size → W'.heap[b]? = W.heap[b]? ∧ X' b W'.heap[b]?) : ∀ {ds : List D} {cs : List Value}, RowIs W X sz ds cs → RowIs W' X' sz ds cs
  | [], cs, hr => by simpa only [RowIs] using hr
  | d :: ds, cs, hr => by
    simp only [RowIs] at hr ⊢
    obtain ⟨c, r, h0, h1, h2, h3⟩ := hr
    exact ⟨c, r, h0, h1, rdc_move hs h d c h2, h3.move hs h⟩
theorem RowIs.one {W : World} {X : BSet} {sz : Nat} : ∀ {ds : List D} {cs : List Value}, RowIs W X sz ds cs → ∀ c ∈ cs, oneC c = true
  | [], cs, h, c, hc => by simp only [RowIs] at h; subst h; simp at hc
  | d :: ds, cs, h, c, hc => by
    simp only [RowIs] at h
    obtain ⟨c1, r, rfl, h1, h2, h3⟩ := h
    rcases List.mem_append.1 hc with h | h
    · exact rdc_one d c1 h2 c h
    · exact h3.one c h
theorem CellsAt.app {W : World} {b o : Nat} {c r : List Value} (h1 : CellsAt W b o c) (h2 : CellsAt W b (o + c.length) r) : CellsAt W b o (c ++ r) := fun i hi => by
  by_cases h : i < c.length
  · rw [h1 i h, List.getElem_append_left h]
  · have := h2 (i - c.length) (by simp at hi; omega)
    rw [show o + c.length + (i - c.length) = o + i by omega] at this
    rw [this, List.getElem_append_right (by omega)]
theorem CellsAt.left {W : World} {b o : Nat} {c r : List Value} (h : CellsAt W b o (c ++ r)) : CellsAt W b o c := fun i hi => by
  have := h i (by simp; omega)
  rw [this, List.getElem_append_left hi]
theorem CellsAt.right {W : World} {b o : Nat} {c r : List Value} (h : CellsAt W b o (c ++ r)) : CellsAt W b (o + c.length) r := fun i hi => by
  have := h (c.length + i) (by simp; omega)
  rw [show o + c.length + i = o + (c.length + i) by omega, this, List.getElem_append_right (by omega)]
  simp
theorem row_of_rdl {W : World} {X : BSet} {b sz : Nat} : ∀ {ds : List D} {o : Nat}, RdL W X b sz ds o → ∃ cs, CellsAt W b o cs ∧ RowIs W X sz ds cs
  | [], o, _ => ⟨[], fun i hi => by simp at hi, rfl⟩
  | d :: ds, o, h => by
    simp only [RdL] at h
    obtain ⟨⟨c, h1, h2, h3⟩, h4⟩ := h
    obtain ⟨r, h5, h6⟩ := row_of_rdl h4
    exact ⟨c ++ r, h2.app (by rw [h1]; exact h5), c, r, rfl, h1, h3, h6⟩
theorem rdl_of_row {W : World} {X : BSet} {b sz : Nat} : ∀ {ds : List D} {cs : List Value} {o : Nat}, CellsAt W b o cs → RowIs W X sz ds cs → RdL W X b sz ds o
  | [], cs, o, _, _ => by simp [RdL]
  | d :: ds, cs, o, h, hr => by
    simp only [RowIs] at hr
    obtain ⟨c, r, rfl, h1, h2, h3⟩ := hr
    simp only [RdL]
    exact ⟨⟨c, h1, h.left, h2⟩, rdl_of_row (by rw [← h1]; exact h.right) h3⟩
theorem rd_row {W : World} {X : BSet} {sz : Nat} {ds : List D} {v : Value} (h : Rd W X (.lst sz ds) v) : (ds = [] ∧ ∃ ad cap, v = .slice ad 0 cap) ∨ ∃ b o cap cs, v = .slice (some ⟨b, o, none⟩) ds.length cap ∧ X b W.heap[b]? ∧ b < W.heap.size ∧ CellsAt W b o cs ∧ RowIs W X sz ds cs := by
  obtain ⟨cs, h1, rfl⟩ := h
  simp only [RdC] at h1
  obtain ⟨ad, cap, rfl, _, _, h4⟩ := h1
  rcases h4 with rfl | ⟨b, o, rfl, hb, hlt, hl⟩
  · exact .inl ⟨rfl, ad, cap, rfl⟩
  · obtain ⟨cs, h5, h6⟩ := row_of_rdl hl
    exact .inr ⟨b, o, cap, cs, rfl, hb, hlt, h5, h6⟩
theorem rd_of_row {W : World} {X : BSet} {sz : Nat} {ds : List D} {b o cap : Nat} {cs : List Value} (hc : ds.length ≤ cap) (hm : cap ≤ maxLen) (hb : X b W.heap[b]?) (hlt : b < W.heap.size) (h5 : CellsAt W b o cs) (h6 : RowIs W X sz ds cs) : Rd W X (.lst sz ds) (.slice (some ⟨b, o, none⟩) ds.length cap) :=
  ⟨[.slice (some ⟨b, o, none⟩) ds.length cap], by simp only [RdC]; exact ⟨_, _, rfl, hc, hm, .inr ⟨b, o, rfl, hb, hlt, rdl_of_row h5 h6⟩⟩, rfl⟩
theorem cells_asm {W : World} {X : BSet} {d : D} {cs : List Value} (h : RdC W X d cs) : (asm d cs).cells = cs.toArray := by
  cases d with
  | agg xs => rfl
  | bool b => simp only [RdC] at h; subst h; rfl
  | int k n => simp only [RdC] at h; subst h; rfl
  | str s => simp only [RdC] at h; rw [h.1]; rfl
  | lst sz xs => simp only [RdC] at h; obtain ⟨a, cap, h1, _⟩ := h; rw [h1]; rfl
theorem fold_set : ∀ (vs : List Value) (j off : Nat) (cs : List Value), off + j + vs.length ≤ cs.length →
    (vs.zipIdx j).foldl (fun (cs : List Value) (p : Value × Nat) => cs.set (off + p.2) p.1) cs = cs.take (off + j) ++ vs ++ cs.drop (off + j + vs.length)
  | [], j, off, cs, _ => by simp
  | v :: vs, j, off, cs, h => by
    simp only [List.length_cons] at h
    rw [List.zipIdx_cons, List.foldl_cons, fold_set vs (j + 1) off _ (by simp; omega)]
    simp only [List.length_cons]
    rw [show off + (j + 1) = off + j + 1 by omega, List.take_set, List.drop_set_of_lt (by omega), List.take_succ_eq_append_getElem (show off + j < cs.length by omega),
      List.set_append_right _ _ (by simp; omega)]
    simp [Nat.min_eq_left (show off + j ≤ cs.length by omega)]
    rw [show off + j + 1 + vs.length = off + j + (vs.length + 1) by omega]
theorem fold_arr (vs cs : Array Value) (off : Nat) (h : off + vs.size ≤ cs.size) :
    vs.zipIdx.foldl (fun cs (p : Value × Nat) => cs.setIfInBounds (off + p.2) p.1) cs = (cs.toList.take off ++ vs.toList ++ cs.toList.drop (off + vs.size)).toArray := by
  have := fold_set vs.toList 0 off cs.toList (by simpa using h)
  have e : ∀ (l : List (Value × Nat)) (cs : Array Value), l.foldl (fun cs (p : Value × Nat) => cs.setIfInBounds (off + p.2) p.1) cs = (l.foldl (fun (cs : List Value) (p : Value × Nat) => cs.set (off + p.2) p.1) cs.toList).toArray := by
    intro l
    induction l with
    | nil => intro cs; simp
    | cons p l ih => intro cs; simp only [List.foldl_cons]; rw [ih]; simp
  rw [← Array.foldl_toList, Array.toList_zipIdx, e, this]
  simp
theorem fill_row {W : World} {X : BSet} {sz : Nat} : ∀ (ds : List D) (vs : List (Nat × Value)) (i : Nat) (cells : List Value), cells.length = (i + ds.length) * sz → vs.map (·.1) = List.range' i ds.length →
    (∀ j (hj : j < ds.length), ∃ c, c.length = sz ∧ RdC W X ds[j] c ∧ (vs.map (·.2))[j]? = some (asm ds[j] c)) →
    ∃ cs, Instr.fill (fun k => some (k * sz, sz)) cells.toArray vs = some (cells.take (i * sz) ++ cs).toArray ∧ RowIs W X sz ds cs
  | [], vs, i, cells, hl, hi, _ => by
    have : vs = [] := by simpa using hi
    subst this
    refine ⟨[], ?_, rfl⟩
    simp only [Instr.fill, List.append_nil]
    rw [List.take_of_length_le (by simp at hl; omega)]
  | d :: ds, [], i, cells, hl, hi, _ => by simp [List.range'_succ] at hi
  | d :: ds, (k, v) :: vs, i, cells, hl, hi, hv => by
    simp only [List.length_cons, List.map_cons, List.range'_succ, List.cons.injEq] at hi
    obtain ⟨rfl, hi⟩ := hi
    obtain ⟨c, hc1, hc2, hc3⟩ := hv 0 (by simp)
    have ev : v = asm d c := by simpa using hc3
    have hcells : v.cells = c.toArray := by rw [ev]; exact cells_asm hc2
    have hsz : v.cells.size = sz := by rw [hcells]; simpa using hc1
    have hlen : k * sz + sz ≤ cells.length := by
      rw [hl]; simp only [List.length_cons]
      have : (k + (ds.length + 1)) * sz = k * sz + (ds.length * sz + sz) := by rw [Nat.add_mul, Nat.add_mul]; omega
      omega
    have hstep : Instr.fill (fun k => some (k * sz, sz)) cells.toArray ((k, v) :: vs) = Instr.fill (fun k => some (k * sz, sz)) (cells.take (k * sz) ++ c ++ cells.drop (k * sz + sz)).toArray vs := by
      simp only [Instr.fill, hsz]
      rw [if_neg (by simp; omega)]
      have hf := fold_arr v.cells cells.toArray (k * sz) (by rw [hsz]; simpa using hlen)
      rw [hsz, hcells] at hf
      simp only [List.size_toArray] at hf
      have : (v.cells.zipIdx.foldl (fun cs x => match x with | (c, j) => cs.setIfInBounds (k * sz + j) c) cells.toArray) = (cells.take (k * sz) ++ c ++ cells.drop (k * sz + sz)).toArray := by
        rw [hcells]; exact hf
      rw [this]
    obtain ⟨cs, h1, h2⟩ := fill_row ds vs (k + 1) (cells.take (k * sz) ++ c ++ cells.drop (k * sz + sz)) (by
      simp only [List.length_append, List.length_take, List.length_drop, hc1, Nat.min_eq_left (show k * sz ≤ cells.length by omega)]
      rw [hl]; simp only [List.length_cons]
      have e1 : (k + (ds.length + 1)) * sz = k * sz + ds.length * sz + sz := by rw [Nat.add_mul, Nat.add_mul]; omega
      have e2 : (k + 1 + ds.length) * sz = k * sz + ds.length * sz + sz := by rw [Nat.add_mul, Nat.add_mul]; omega
      rw [e1, e2]; omega) (by rw [hi]) (fun j hj => by
        obtain ⟨c', q1, q2, q3⟩ := hv (j + 1) (by simpa using hj)
        exact ⟨c', q1, q2, by simpa using q3⟩)
    refine ⟨c ++ cs, ?_, c, cs, rfl, hc1, hc2, h2⟩
    rw [hstep, h1]
    congr 2
    rw [show (k + 1) * sz = k * sz + sz by rw [Nat.add_mul]; omega]
    have e : (cells.take (k * sz) ++ c ++ cells.drop (k * sz + sz)).take (k * sz + sz) = cells.take (k * sz) ++ c := by
      rw [List.take_append_of_le_length (by simp [hc1]; omega)]
      exact List.take_of_length_le (by simp [hc1]; exact Nat.min_le_left _ _)
    rw [e, List.append_assoc]
section
variable {P : Program} {ops : Array Oper} {S : Nat → Prop} {w0 : World} {a0 : Act} {Γ : Ctx}
variable {d : Option Tmp} {ty : TypeId} {pos : String} {af : Array Edge} {gd : Option (Nat × Bool)}
def PartsD (S : Nat → Prop) (w0 : World) (a0 : Act) (Γ : Ctx) (X : BSet) : Nat → List (Nat × Operand) → List D → Prop
  | _, [], [] => True
  | i, (j, x) :: ps, d :: ds => j = i ∧ Has S w0 a0 Γ x (IsD X d) ∧ PartsD S w0 a0 Γ X (i + 1) ps ds
  | _, _, _ => False
theorem PartsD.out {o : Oper} {a : Act} {g : Gh} {W : World} {X : BSet} (hk : Keeps S w0 W) (hg : GOk w0 W g) (he : Env Γ a0 a g W (o.looksAt ops)) : ∀ (ps : List (Nat × Operand)) (ds : List D) (i : Nat), PartsD S w0 a0 Γ X i ps ds → (∀ p ∈ ps, p.2 ∈ o.op.operands) →
    ps.map (·.1) = List.range' i ds.length ∧ ∀ j (hj : j < ds.length), ∃ c, RdC W (fun b o => X b o ∧ Out g b) ds[j] c ∧ (ps.map (fun p => a.eval p.2))[j]? = some (asm ds[j] c)
  | [], [], i, _, _ => ⟨rfl, fun j hj => by simp at hj⟩
  | [], _ :: _, _, h, _ => h.elim
  | _ :: _, [], _, h, _ => h.elim
  | (k, x) :: ps, e :: ds, i, ⟨h1, h2, h3⟩, hm => by
    obtain ⟨q1, q2⟩ := PartsD.out hk hg he ps ds (i + 1) h3 fun p hp => hm p (List.mem_cons_of_mem _ hp)
    refine ⟨by simp [List.range'_succ, h1, q1], fun j hj => ?_⟩
    cases j with
    | zero =>
      obtain ⟨c, r1, r2⟩ := h2.of_env hk hg he (hm (k, x) List.mem_cons_self)
      exact ⟨c, r1, by simp [r2]⟩
    | succ j =>
      obtain ⟨c, r1, r2⟩ := q2 j (by simpa using hj)
      exact ⟨c, r1, by simpa using r2⟩
theorem sp_bsl {T E : TypeId} {n sz : Nat} {parts : Array (Nat × Operand)} {ds : List D} {X : BSet} {z : Value} (hT : P.underlying T = some (.slice E)) (hz : szOf P E = some sz) (hzero : zeroOf P E = some z) (hsz : 0 < sz) (hlen : n * sz ≤ 16777216)
    (hp : PartsD S w0 a0 Γ X 0 parts.toList ds) (hn : ds.length = n) (hw : ∀ e ∈ ds, width e = sz) (hX : ∀ b o, Fr w0 b o → X b o) :
    Spec P ops S w0 a0 Γ ⟨d, .buildSlice T n parts, ty, pos, af, gd⟩ (IsD X (.lst sz ds)) := fun a g W hk hg he => by
  obtain ⟨h1, h2⟩ := hp.out hk hg he _ _ _ (fun p hp => by simp [Op.operands]; exact ⟨p.1, by simpa using hp⟩)
  have hrow := fill_row (W := W) (X := fun b o => X b o ∧ Out g b) (sz := sz) ds ((parts.map fun x => (x.1, a.eval x.2)).toList) 0
  subst hn
  let cells : Array Value := (Array.range (ds.length * sz)).map (fun i => (if ds.length * sz = 0 then #[] else z.cells)[i % (if ds.length * sz = 0 then #[] else z.cells).size]!)
  obtain ⟨cs, hf, hr⟩ := hrow cells.toList (by simp [cells]) (by rw [← h1]; simp) (fun j hj => by
    obtain ⟨c, r1, r2⟩ := h2 j hj
    exact ⟨c, (rdc_width _ _ r1).trans (hw _ (List.getElem_mem hj)), r1, by simpa using r2⟩)
  simp only [Array.toArray_toList, Nat.zero_mul, List.take_zero, List.nil_append] at hf
  have hrun : (execOp a.eval ⟨d, .buildSlice T ds.length parts, ty, pos, af, gd⟩).run P W = .ok (.value (.slice (some ⟨W.heap.size, 0, none⟩) ds.length ds.length)) (W.alloc (.cells cs.toArray E)) := by
    have hm : (parts.map fun x => match x with | (i, x) => (i, a.eval x)) = (parts.map fun x => (x.1, a.eval x.2)) := rfl
    simp only [execOp, Instr.buildSlice, hm, Sem.run_bind, run_und hT, Result.andThen_ok, run_szOf hz]
    rw [show (2 : Nat) ^ 24 = 16777216 from rfl]
    rw [Sem.run_ite, if_neg (by omega)]
    by_cases h0 : ds.length * sz = 0
    · have hf' : Instr.fill (fun i => some (i * sz, sz)) ((Array.range (ds.length * sz)).map (fun x => (#[] : Array Value)[x % (#[] : Array Value).size]!)) (parts.map fun x => (x.1, a.eval x.2)).toList = some cs.toArray := by
        have h := hf; simp only [cells, if_pos h0] at h; exact h
      rw [if_pos h0]
      simp only [Sem.run_bind, Sem.run_pure, Result.andThen_ok, hf']
      rfl
    · have hf' : Instr.fill (fun i => some (i * sz, sz)) ((Array.range (ds.length * sz)).map (fun x => z.cells[x % z.cells.size]!)) (parts.map fun x => (x.1, a.eval x.2)).toList = some cs.toArray := by
        have h := hf; simp only [cells, if_neg h0] at h; exact h
      rw [if_neg h0]
      simp only [Sem.run_bind, run_zeroOf hzero, Sem.run_pure, Result.andThen_ok, hf']
      rfl
  unfold OpRuns
  rw [hrun]
  refine ⟨ext_alloc _ _, ?_⟩
  have hnew := own_alloc W cs E
  have hmove : RowIs (W.alloc (.cells cs.toArray E)) (fun b o => X b o ∧ Out g b) sz ds cs := hr.move (by simp) fun b hb hlt => by
    have e := (ext_alloc W (.cells cs.toArray E)).block b hlt trivial
    exact ⟨e, by rw [e]; exact hb⟩
  have hcl : Cln (W.alloc (.cells cs.toArray E)).heap[W.heap.size]? := ⟨_, _, hnew⟩
  have hfr := fresh_out hk hg W.heap.size _ ⟨Nat.le_refl _, hcl⟩
  exact rd_of_row (Nat.le_refl _) (by
    have h3 : ds.length * 1 ≤ ds.length * sz := Nat.mul_le_mul_left _ hsz
    simp only [maxLen]; omega) ⟨hX _ _ hfr.1, hfr.2⟩ (by simp) (fun i hi => by rw [hnew.cell]; simp [hi]) hmove
def IsE (e : TypeId) : Fact := fun _ v W => v = .slice none 0 0 ∨ ∃ b, v = .slice (some ⟨b, 0, none⟩) 0 0 ∧ W.heap[b]? = some (.cells #[] e (0, 0)) ∧ b < W.heap.size
theorem st_e {e : TypeId} : Stable All (IsE e) :=
  ⟨fun _ _ _ _ k h => h.imp id fun ⟨b, h1, h2, h3⟩ => ⟨b, h1, (k.block b h3 trivial).trans h2, Nat.lt_of_lt_of_le h3 k.size⟩, fun _ _ _ _ _ _ h => h⟩
theorem sp_bslE {T E : TypeId} (hT : P.underlying T = some (.slice E)) {sz : Nat} (hz : szOf P E = some sz) : Spec P ops S w0 a0 Γ ⟨d, .buildSlice T 0 #[], ty, pos, af, gd⟩ (IsE E) := fun a g W hk hg he => by
  have hrun : (execOp a.eval ⟨d, .buildSlice T 0 #[], ty, pos, af, gd⟩).run P W = .ok (.value (.slice (some ⟨W.heap.size, 0, none⟩) 0 0)) (W.alloc (.cells #[] E)) := by
    simp [execOp, Instr.buildSlice, run_und hT, run_szOf hz, Instr.fill, newRow, newObj, Sem.run]
    congr 2; apply Array.ext'; simp
  unfold OpRuns
  rw [hrun]
  exact ⟨ext_alloc _ _, .inr ⟨W.heap.size, rfl, own_alloc W [] E, by simp⟩⟩
def inf (P : Program) (T : TypeId) (n bytes : Nat) : Prop := ∃ i z, P.info? T = some i ∧ i.zero = some z ∧ i.size = n ∧ i.bytes = bytes ∧ z.cells.size = n
theorem inf_of {T n bytes : Nat} (h : ((P.info? T).bind fun i => i.zero.map fun z => (i.size, i.bytes, z.cells.size)) = some (n, bytes, n)) : inf P T n bytes := by
  cases hi : P.info? T with
  | none => rw [hi] at h; cases h
  | some i =>
    rw [hi] at h
    cases hz : i.zero with
    | none => simp [hz] at h
    | some z => simp [hz] at h; exact ⟨i, z, hi, hz, h.1, h.2.1, h.2.2⟩
theorem ext_drew_alloc (W : World) (o : Obj) : Ext W (W.drew.alloc o) := ⟨rfl, rfl, rfl, by simp, fun k hk _ => RowKit.Below.heap_alloc W.drew o k hk⟩
theorem cells_addr {W : World} {b o : Nat} {cs : List Value} (h : CellsAt W b o cs) : ∀ j u, cs[j]? = some u → W.cell? ((⟨b, o, none⟩ : Addr).add j) = some u := fun j u hu => by
  rw [add_none]
  obtain ⟨hj, rfl⟩ := List.getElem?_eq_some_iff.1 hu
  exact h j hj
theorem oneC_eq (v : Value) : v.oneCell' = oneC v := by cases v <;> rfl
theorem src_of {W : World} {X : BSet} {T E : TypeId} {sz b o n cap : Nat} {ds : List D} {cs : List Value} (hT : P.underlying T = some (.slice E)) (hn : ds.length = n) (hc : CellsAt W b o cs) (hr : RowIs W X sz ds cs) : Src P sz T (.slice (some ⟨b, o, none⟩) n cap) n cs W := by
  have hl := hr.length
  have h1 := run_loadCellsFrom (P := P) hc cs.length 0 #[] (by simp)
  have hc' : CellsAt W.drew b o cs := hc
  have h2 := run_loadCellsFrom (P := P) hc' cs.length 0 #[] (by simp)
  refine ⟨.inl ⟨E, hT⟩, fun _ => rfl, ?_, ?_, by rw [← hn]; exact hl, fun u hu => by rw [oneC_eq]; exact hr.one u hu⟩
  · simp only [Builtin.firstCells, loadCells, ← hn, ← hl]; simpa using h1
  · simp only [Builtin.firstCells, loadCells, ← hn, ← hl]; simpa using h2
theorem nextcap_zero (n : Nat) (h : 0 < n) : Builtin.nextslicecap n 0 = n := by unfold Builtin.nextslicecap; rw [if_pos (by omega)]
theorem sp_appG {x y : Operand} {T E : TypeId} {sz bytes : Nat} {ds : List D} {X X' : BSet} (hT : P.underlying T = some (.slice E)) (hi : inf P E sz bytes) (hsz : 0 < sz) (hx : Has S w0 a0 Γ x (IsE E)) (hy : Has S w0 a0 Γ y (IsD X (.lst sz ds)))
    (hl : ds.length * bytes ≤ 140737488355328) (hm : ds.length ≤ 4611686018427387904) (hX : ∀ b o, Fr w0 b o → X' b o) (hXX : ∀ W (g : Gh) cs, RowIs W (fun b o => X b o ∧ Out g b) sz ds cs → RowIs W (fun b o => X' b o ∧ Out g b) sz ds cs) :
    Spec P ops S w0 a0 Γ ⟨d, .call ⟨.builtin .append, #[x, y], #[T, T]⟩, ty, pos, af, gd⟩ (IsD X' (.lst sz ds)) := fun a g W hk hg he => by
  have hxe := hx.of_env hk hg he (by simp [Op.operands, Call.operands])
  have hyd := hy.of_env hk hg he (by simp [Op.operands, Call.operands])
  obtain ⟨i, z, hinfo, hzero, hs1, hs2, hs3⟩ := hi
  subst hs1; subst hs2
  have hop : ∀ (r : Value) (W' : World), (Builtin.append_ #[T, T] ty #[a.eval x, a.eval y]).run P W = .ok r W' → (execOp a.eval ⟨d, .call ⟨.builtin .append, #[x, y], #[T, T]⟩, ty, pos, af, gd⟩).run P W = .ok (.value r) W' := fun r W' h => by
    simp [execOp, resolve, invoke, builtin, h]
  have hbase : ∃ base, a.eval x = .slice base 0 0 ∧ (Builtin.firstCells i.size 0 (.slice base 0 0)).run P W.drew = .ok ([] : List Value).toArray W.drew := by
    rcases hxe with h | ⟨b, h, _, _⟩
    · exact ⟨none, h, rfl⟩
    · exact ⟨_, h, by simp [Builtin.firstCells, loadCells, loadCellsFrom]⟩
  obtain ⟨base, ex, hold⟩ := hbase
  rcases rd_row hyd with ⟨rfl, ad, cap, ey⟩ | ⟨b, o, cap, cs, ey, hb, hlt, hc, hr⟩
  · have hrun : (Builtin.append_ #[T, T] ty #[a.eval x, a.eval y]).run P W = .ok (.slice base 0 0) W := by
      rw [ex, ey]
      cases ad with
      | none => cases base <;> simp [Builtin.append_, run_und hT, sizeOf, typeInfo, hinfo, Builtin.lenOf, Builtin.firstCells, storeCells]
      | some ad => cases base <;> simp [Builtin.append_, run_und hT, sizeOf, typeInfo, hinfo, Builtin.lenOf, Builtin.firstCells, storeCells, loadCells, loadCellsFrom]
    unfold OpRuns
    rw [hop _ _ hrun]
    exact ⟨.refl _ _, [.slice base 0 0], by simp only [RdC]; exact ⟨base, 0, rfl, by simp, by simp, .inl trivial⟩, rfl⟩
  · by_cases h0 : ds.length = 0
    · have hd : ds = [] := List.length_eq_zero_iff.1 h0
      subst hd
      have hcs : cs = [] := by simpa only [RowIs] using hr
      have hrun : (Builtin.append_ #[T, T] ty #[a.eval x, a.eval y]).run P W = .ok (.slice base 0 0) W := by
        rw [ex, ey]
        cases base <;> simp [Builtin.append_, run_und hT, sizeOf, typeInfo, hinfo, Builtin.lenOf, Builtin.firstCells, storeCells, loadCells, loadCellsFrom]
      unfold OpRuns
      rw [hop _ _ hrun]
      exact ⟨.refl _ _, [.slice base 0 0], by simp only [RdC]; exact ⟨base, 0, rfl, by simp, by simp, .inl trivial⟩, rfl⟩
    have hrun := run_append_grow_src (P := P) (w := W) T T ty E i z hT hinfo hzero base 0 0 [] hold (a.eval y) ds.length cs (by rw [ey]; exact src_of hT rfl hc hr) (by omega) (by omega)
      (by rw [Nat.zero_add, nextcap_zero _ (by omega)]; omega)
    rw [← ex] at hrun
    unfold OpRuns
    rw [hop _ _ hrun]
    refine ⟨ext_drew_alloc _ _, ?_⟩
    generalize hcap : grownCap W (0 + ds.length) 0 E = cap'
    have hcb : ds.length ≤ cap' ∧ cap' ≤ maxLen := by
      rw [← hcap]; unfold grownCap; simp only [Question.cut, maxLen]
      have : (W.tape W.drawn (Question.appendCap (0 + ds.length) 0 E)) % (2 ^ 63 - (0 + ds.length)) < 2 ^ 63 - (0 + ds.length) := Nat.mod_lt _ (by omega)
      omega
    have hnew : (W.drew.alloc (.cells (([] ++ cs).toArray ++ Builtin.zeroCells z.cells (cap' - (0 + ds.length))) E)).heap[W.heap.size]? = some (.cells (([] ++ cs).toArray ++ Builtin.zeroCells z.cells (cap' - (0 + ds.length))) E (0, 0)) := by
      show (W.heap.push _)[W.heap.size]? = _
      simp
    have hmove : RowIs (W.drew.alloc (.cells (([] ++ cs).toArray ++ Builtin.zeroCells z.cells (cap' - (0 + ds.length))) E)) (fun b o => X' b o ∧ Out g b) i.size ds cs := hXX _ g cs <| hr.move (by simp) fun b hb hlt => by
      have e := (ext_drew_alloc W (.cells (([] ++ cs).toArray ++ Builtin.zeroCells z.cells (cap' - (0 + ds.length))) E)).block b hlt trivial
      exact ⟨e, by rw [e]; exact hb⟩
    have hfr := fresh_out hk hg W.heap.size _ ⟨Nat.le_refl _, ⟨_, _, hnew⟩⟩
    have hrd := rd_of_row (o := 0) hcb.1 hcb.2 (X := fun b o => X' b o ∧ Out g b) ⟨hX _ _ hfr.1, hfr.2⟩ (by simp) (fun j hj => by
      unfold World.cell?
      rw [hnew]
      simp [Array.getElem?_append_left (show j < cs.toArray.size by simpa using hj)]) hmove
    simpa only [IsD, Nat.zero_add] using hrd
theorem row_strs {W : World} {X X' : BSet} : ∀ (ns : List ByteArray) (cs : List Value), RowIs W X 1 (ns.map D.str) cs → RowIs W X' 1 (ns.map D.str) cs
  | [], cs, h => by simpa only [List.map_nil, RowIs] using h
  | n :: ns, cs, h => by
    simp only [List.map_cons, RowIs] at h ⊢
    obtain ⟨c, r, h0, h1, h2, h3⟩ := h
    exact ⟨c, r, h0, h1, by simpa only [RdC] using h2, row_strs ns r h3⟩
theorem sp_appS {x y : Operand} {T E : TypeId} {bytes : Nat} {ns : List ByteArray} {X X' : BSet} (hT : P.underlying T = some (.slice E)) (hi : inf P E 1 bytes) (hx : Has S w0 a0 Γ x (IsE E)) (hy : Has S w0 a0 Γ y (IsD X (strsD ns)))
    (hl : ns.length * bytes ≤ 140737488355328) (hm : ns.length ≤ 4611686018427387904) (hX : ∀ b o, Fr w0 b o → X' b o) :
    Spec P ops S w0 a0 Γ ⟨d, .call ⟨.builtin .append, #[x, y], #[T, T]⟩, ty, pos, af, gd⟩ (IsD X' (strsD ns)) :=
  sp_appG (ds := ns.map D.str) hT hi (by omega) hx hy (by simpa using hl) (by simpa using hm) hX fun _ _ cs hr => row_strs ns cs hr
theorem sp_nilP {x : Operand} {ad : Addr} (hx : Has S w0 a0 Γ x (Is (.pointer (some ad)))) : Spec P ops S w0 a0 Γ ⟨d, .nilCheck x, ty, pos, af, gd⟩ (Is (.pointer (some ad))) := sp_val fun a g W hk hg he => by
  have e1 : a.eval x = .pointer (some ad) := hx.of_env hk hg he (by simp [Op.operands])
  simp [execOp, e1]
theorem sp_nilR {x : Operand} {X : BSet} {dd : D} (hx : Has S w0 a0 Γ x (IsR X dd)) : Spec P ops S w0 a0 Γ ⟨d, .nilCheck x, ty, pos, af, gd⟩ (IsR X dd) := fun a g W hk hg he => by
  have h := hx.of_env hk hg he (by simp [Op.operands])
  have h' := h
  obtain ⟨b, o, cs, e1, _⟩ := h
  have hrun : (execOp a.eval ⟨d, .nilCheck x, ty, pos, af, gd⟩).run P W = .ok (.value (a.eval x)) W := by simp [execOp, e1]
  unfold OpRuns; rw [hrun]; exact ⟨.refl _ _, h'⟩
theorem equalIn_ptr {T E : TypeId} (hT : P.underlying T = some (.pointer E)) (p q : Option Addr) (w : World) (h : p = none ∨ q = none) : (Op.equal T (.pointer p) (.pointer q)).run P w = .ok (p.isNone && q.isNone) w := by
  show (Op.equalIn (9999 + 1) T (.pointer p) (.pointer q)).run P w = _
  rw [Op.equalIn]
  rcases h with rfl | rfl
  · cases q <;> simp [run_und hT]
  · cases p <;> simp [run_und hT]
theorem sp_nilEq {x y : Operand} {T T' E : TypeId} {p q : Option Addr} {r : Bool} (hT : P.underlying T = some (.pointer E)) (hx : Has S w0 a0 Γ x (Is (.pointer p))) (hy : Has S w0 a0 Γ y (Is (.pointer q))) (h : p = none ∨ q = none) (hr : (p.isNone && q.isNone) = r) :
    Spec P ops S w0 a0 Γ ⟨d, .binOp .eql T x y T', ty, pos, af, gd⟩ (Is (.bool r)) := sp_val fun a g W hk hg he => by
  have e1 : a.eval x = .pointer p := hx.of_env hk hg he (by simp [Op.operands])
  have e2 : a.eval y = .pointer q := hy.of_env hk hg he (by simp [Op.operands])
  simp [execOp, e1, e2, binOp, eqGuard, equalIn_ptr hT p q _ h, hr]
theorem run_sameAddr_cln {W : World} {a b : Addr} (hne : a ≠ b) (ha : Cln W.heap[a.block]?) (hb : Cln W.heap[b.block]?) : (sameAddr a b).run P W = .ok false W := by
  obtain ⟨c1, t1, h1⟩ := ha
  obtain ⟨c2, t2, h2⟩ := hb
  exact run_sameAddr_other W hne h1 h2
theorem sp_refEq {x y : Operand} {T T' E : TypeId} {n : Nat} {X Y : BSet} {d1 d2 : D} (hT : P.underlying T = some (.pointer E)) (hz : szOf P E = some (n + 1)) (hx : Has S w0 a0 Γ x (IsR X d1)) (hy : Has S w0 a0 Γ y (IsR Y d2)) (hX : ∀ b o, X b o → Cln o) (hY : ∀ b o, Y b o → Cln o)
    (hd : ∀ W (X Y : BSet) cs, RdC W X d1 cs → RdC W Y d2 cs → False) (hw : width d1 = width d2) :
    Spec P ops S w0 a0 Γ ⟨d, .binOp .eql T x y T', ty, pos, af, gd⟩ (Is (.bool false)) := sp_val fun a g W hk hg he => by
  obtain ⟨b1, o1, c1, e1, x1, l1, ca1, r1⟩ := hx.of_env hk hg he (by simp [Op.operands])
  obtain ⟨b2, o2, c2, e2, x2, l2, ca2, r2⟩ := hy.of_env hk hg he (by simp [Op.operands])
  have hne : (⟨b1, o1, none⟩ : Addr) ≠ ⟨b2, o2, none⟩ := fun h => by
    injection h with h1 h2
    subst h1; subst h2
    have hl : c1.length = c2.length := by rw [rdc_width d1 c1 r1, rdc_width d2 c2 r2, hw]
    have : c1 = c2 := List.ext_getElem hl fun i hi hi' => by
      have q1 := ca1 i hi
      have q2 := ca2 i hi'
      rw [q1] at q2; exact Option.some.inj q2
    subst this
    exact hd W _ _ c1 r1 r2
  have hs := run_sameAddr_cln (P := P) hne (hX _ _ x1.1) (hY _ _ x2.1)
  have heq : (Op.equal T (.pointer (some ⟨b1, o1, none⟩)) (.pointer (some ⟨b2, o2, none⟩))).run P W = .ok false W := by
    show (Op.equalIn (9999 + 1) T _ _).run P W = _
    rw [Op.equalIn]
    simp [run_und hT, run_szOf hz, hs]
  simp [execOp, e1, e2, binOp, eqGuard, heq]
theorem sp_refNil {x y : Operand} {T T' E : TypeId} {X : BSet} {d1 : D} (hT : P.underlying T = some (.pointer E)) (hx : Has S w0 a0 Γ x (IsR X d1)) (hy : Has S w0 a0 Γ y (Is (.pointer none))) :
    Spec P ops S w0 a0 Γ ⟨d, .binOp .eql T x y T', ty, pos, af, gd⟩ (Is (.bool false)) := sp_val fun a g W hk hg he => by
  obtain ⟨b1, o1, c1, e1, x1, l1, ca1, r1⟩ := hx.of_env hk hg he (by simp [Op.operands])
  have e2 : a.eval y = .pointer none := hy.of_env hk hg he (by simp [Op.operands])
  simp [execOp, e1, e2, binOp, eqGuard, equalIn_ptr hT (some _) none _ (.inr rfl)]
theorem sp_band {x y : Operand} {T T' : TypeId} {m n : Int} (hx : Has S w0 a0 Γ x (Is (.int .i64 m))) (hy : Has S w0 a0 Γ y (Is (.int .i64 n))) :
    Spec P ops S w0 a0 Γ ⟨d, .binOp .and T x y T', ty, pos, af, gd⟩ (Is (.int .i64 (IntKind.i64.wrap (BitVec.ofInt 64 m &&& BitVec.ofInt 64 n).toNat))) := sp_val fun a g W hk hg he => by
  have e1 : a.eval x = .int .i64 m := hx.of_env hk hg he (by simp [Op.operands])
  have e2 : a.eval y = .int .i64 n := hy.of_env hk hg he (by simp [Op.operands])
  simp only [execOp, e1, e2, Sem.run_bind]
  simp [eqGuard, binOp, Op.intBits]
  rfl
end
end Go.Eng
namespace Go.Proofs.Ytnobijngkpflcaa
open Go.Eng
theorem mixed : Try.prog.follows .mixedOrders = true := by kernel_rfl
theorem sz2 : szOf Try.prog 2 = some 1 := by kernel_rfl
theorem agg2 : aggB Try.prog 2 = some false := by kernel_rfl
theorem sz3 : szOf Try.prog 3 = some 1 := by kernel_rfl
theorem agg3 : aggB Try.prog 3 = some false := by kernel_rfl
theorem z3 : zeroOf Try.prog 3 = some ((.int .i64 (0))) := by kernel_rfl
theorem sz5 : szOf Try.prog 5 = some 1 := by kernel_rfl
theorem agg5 : aggB Try.prog 5 = some false := by kernel_rfl
theorem sz9 : szOf Try.prog 9 = some 1 := by kernel_rfl
theorem agg9 : aggB Try.prog 9 = some false := by kernel_rfl
theorem inf9 : inf Try.prog 9 1 16 := inf_of (by kernel_rfl)
theorem z9 : zeroOf Try.prog 9 = some ((.string (⟨#[]⟩))) := by kernel_rfl
theorem sz23 : szOf Try.prog 23 = some 1 := by kernel_rfl
theorem agg23 : aggB Try.prog 23 = some false := by kernel_rfl
theorem sz28 : szOf Try.prog 28 = some 1 := by kernel_rfl
theorem agg28 : aggB Try.prog 28 = some false := by kernel_rfl
theorem sz31 : szOf Try.prog 31 = some 1 := by kernel_rfl
theorem agg31 : aggB Try.prog 31 = some false := by kernel_rfl
theorem sz33 : szOf Try.prog 33 = some 5 := by kernel_rfl
theorem agg33 : aggB Try.prog 33 = some true := by kernel_rfl
theorem pl33 {fs : Array Field} (h : Try.prog.underlying 33 = some (.struct fs)) : (fs.toList.all fun f => (szOf Try.prog f.type).isSome) = true ∧ placesOf Try.prog fs.toList = [(0, 1), (1, 1), (2, 1), (3, 1), (4, 1)] := by
  rw [Try.underlying33] at h; cases h; exact ⟨by kernel_rfl, by kernel_rfl⟩
theorem inf33 : inf Try.prog 33 5 80 := inf_of (by kernel_rfl)
theorem z33 : zeroOf Try.prog 33 = some (.agg #[(.int .u8 (0)), (.int .i64 (0)), (.string (⟨#[]⟩)), (.slice none 0 0), (.slice none 0 0)]) := by kernel_rfl
theorem sz54 : szOf Try.prog 54 = some 6 := by kernel_rfl
theorem agg54 : aggB Try.prog 54 = some true := by kernel_rfl
theorem pl56 {fs : Array Field} (h : Try.prog.underlying 56 = some (.struct fs)) : (fs.toList.all fun f => (szOf Try.prog f.type).isSome) = true ∧ placesOf Try.prog fs.toList = [(0, 5), (5, 1), (6, 1)] := by
  rw [Try.underlying56] at h; cases h; exact ⟨by kernel_rfl, by kernel_rfl⟩
theorem z56 : zeroOf Try.prog 56 = some (.agg #[(.int .u8 (0)), (.int .i64 (0)), (.string (⟨#[]⟩)), (.slice none 0 0), (.slice none 0 0), (.slice none 0 0), (.int .i64 (0))]) := by kernel_rfl
theorem sz67 : szOf Try.prog 67 = some 6 := by kernel_rfl
theorem agg67 : aggB Try.prog 67 = some true := by kernel_rfl
theorem pl67 {fs : Array Field} (h : Try.prog.underlying 67 = some (.struct fs)) : (fs.toList.all fun f => (szOf Try.prog f.type).isSome) = true ∧ placesOf Try.prog fs.toList = [(0, 1), (1, 5)] := by
  rw [Try.underlying67] at h; cases h; exact ⟨by kernel_rfl, by kernel_rfl⟩
theorem inf67 : inf Try.prog 67 6 96 := inf_of (by kernel_rfl)
theorem z67 : zeroOf Try.prog 67 = some (.agg #[(.string (⟨#[]⟩)), (.int .u8 (0)), (.int .i64 (0)), (.string (⟨#[]⟩)), (.slice none 0 0), (.slice none 0 0)]) := by kernel_rfl
theorem sz72 : szOf Try.prog 72 = some 1 := by kernel_rfl
theorem agg72 : aggB Try.prog 72 = some false := by kernel_rfl
theorem pl74 {fs : Array Field} (h : Try.prog.underlying 74 = some (.struct fs)) : (fs.toList.all fun f => (szOf Try.prog f.type).isSome) = true ∧ placesOf Try.prog fs.toList = [(0, 5), (5, 1), (6, 1)] := by
  rw [Try.underlying74] at h; cases h; exact ⟨by kernel_rfl, by kernel_rfl⟩
theorem z74 : zeroOf Try.prog 74 = some (.agg #[(.int .u8 (0)), (.int .i64 (0)), (.string (⟨#[]⟩)), (.slice none 0 0), (.slice none 0 0), (.map none), (.int .i64 (0))]) := by kernel_rfl
theorem ent21 : Enters Try.prog 21 := enters_of Try.func21 (by kernel_rfl) rfl
theorem ent22 : Enters Try.prog 22 := enters_of Try.func22 (by kernel_rfl) rfl
theorem ent24 : Enters Try.prog 24 := enters_of Try.func24 (by kernel_rfl) rfl
theorem ent26 : Enters Try.prog 26 := enters_of Try.func26 (by kernel_rfl) rfl
theorem ent27 : Enters Try.prog 27 := enters_of Try.func27 (by kernel_rfl) rfl
theorem ent28 : Enters Try.prog 28 := enters_of Try.func28 (by kernel_rfl) rfl
theorem ent29 : Enters Try.prog 29 := enters_of Try.func29 (by kernel_rfl) rfl
theorem ent30 : Enters Try.prog 30 := enters_of Try.func30 (by kernel_rfl) rfl
theorem ent31 : Enters Try.prog 31 := enters_of Try.func31 (by kernel_rfl) rfl
theorem ent32 : Enters Try.prog 32 := enters_of Try.func32 (by kernel_rfl) rfl
theorem ent33 : Enters Try.prog 33 := enters_of Try.func33 (by kernel_rfl) rfl
theorem ent34 : Enters Try.prog 34 := enters_of Try.func34 (by kernel_rfl) rfl
theorem ent37 : Enters Try.prog 37 := enters_of Try.func37 (by kernel_rfl) rfl
theorem ent38 : Enters Try.prog 38 := enters_of Try.func38 (by kernel_rfl) rfl
theorem ent39 : Enters Try.prog 39 := enters_of Try.func39 (by kernel_rfl) rfl
theorem ent41 : Enters Try.prog 41 := enters_of Try.func41 (by kernel_rfl) rfl
theorem ent42 : Enters Try.prog 42 := enters_of Try.func42 (by kernel_rfl) rfl
theorem ent43 : Enters Try.prog 43 := enters_of Try.func43 (by kernel_rfl) rfl
theorem ent44 : Enters Try.prog 44 := enters_of Try.func44 (by kernel_rfl) rfl
theorem ent45 : Enters Try.prog 45 := enters_of Try.func45 (by kernel_rfl) rfl
theorem ent46 : Enters Try.prog 46 := enters_of Try.func46 (by kernel_rfl) rfl
theorem ent47 : Enters Try.prog 47 := enters_of Try.func47 (by kernel_rfl) rfl
theorem ent48 : Enters Try.prog 48 := enters_of Try.func48 (by kernel_rfl) rfl
theorem ent79 : Enters Try.prog 79 := enters_of Try.func79 (by kernel_rfl) rfl
theorem ent81 : Enters Try.prog 81 := enters_of Try.func81 (by kernel_rfl) rfl
theorem ent82 : Enters Try.prog 82 := enters_of Try.func82 (by kernel_rfl) rfl
theorem ent83 : Enters Try.prog 83 := enters_of Try.func83 (by kernel_rfl) rfl
theorem ent84 : Enters Try.prog 84 := enters_of Try.func84 (by kernel_rfl) rfl
theorem ent85 : Enters Try.prog 85 := enters_of Try.func85 (by kernel_rfl) rfl
theorem ent86 : Enters Try.prog 86 := enters_of Try.func86 (by kernel_rfl) rfl
theorem ent87 : Enters Try.prog 87 := enters_of Try.func87 (by kernel_rfl) rfl
theorem ent88 : Enters Try.prog 88 := enters_of Try.func88 (by kernel_rfl) rfl
theorem ent89 : Enters Try.prog 89 := enters_of Try.func89 (by kernel_rfl) rfl
theorem ent90 : Enters Try.prog 90 := enters_of Try.func90 (by kernel_rfl) rfl
theorem ent91 : Enters Try.prog 91 := enters_of Try.func91 (by kernel_rfl) rfl
theorem ent92 : Enters Try.prog 92 := enters_of Try.func92 (by kernel_rfl) rfl
theorem ent93 : Enters Try.prog 93 := enters_of Try.func93 (by kernel_rfl) rfl
theorem ent94 : Enters Try.prog 94 := enters_of Try.func94 (by kernel_rfl) rfl
theorem ent95 : Enters Try.prog 95 := enters_of Try.func95 (by kernel_rfl) rfl
theorem ent96 : Enters Try.prog 96 := enters_of Try.func96 (by kernel_rfl) rfl
theorem ent98 : Enters Try.prog 98 := enters_of Try.func98 (by kernel_rfl) rfl
theorem ent99 : Enters Try.prog 99 := enters_of Try.func99 (by kernel_rfl) rfl
theorem ent100 : Enters Try.prog 100 := enters_of Try.func100 (by kernel_rfl) rfl
theorem ent101 : Enters Try.prog 101 := enters_of Try.func101 (by kernel_rfl) rfl
theorem ent102 : Enters Try.prog 102 := enters_of Try.func102 (by kernel_rfl) rfl
theorem ent103 : Enters Try.prog 103 := enters_of Try.func103 (by kernel_rfl) rfl
theorem ent104 : Enters Try.prog 104 := enters_of Try.func104 (by kernel_rfl) rfl
theorem ent105 : Enters Try.prog 105 := enters_of Try.func105 (by kernel_rfl) rfl
theorem ent106 : Enters Try.prog 106 := enters_of Try.func106 (by kernel_rfl) rfl
theorem ent107 : Enters Try.prog 107 := enters_of Try.func107 (by kernel_rfl) rfl
theorem ent108 : Enters Try.prog 108 := enters_of Try.func108 (by kernel_rfl) rfl
theorem ent109 : Enters Try.prog 109 := enters_of Try.func109 (by kernel_rfl) rfl
theorem ent110 : Enters Try.prog 110 := enters_of Try.func110 (by kernel_rfl) rfl
theorem ent111 : Enters Try.prog 111 := enters_of Try.func111 (by kernel_rfl) rfl
theorem ent112 : Enters Try.prog 112 := enters_of Try.func112 (by kernel_rfl) rfl
theorem ent136 : Enters Try.prog 136 := enters_of Try.func136 (by kernel_rfl) rfl
theorem ent137 : Enters Try.prog 137 := enters_of Try.func137 (by kernel_rfl) rfl
theorem ent138 : Enters Try.prog 138 := enters_of Try.func138 (by kernel_rfl) rfl
theorem ent139 : Enters Try.prog 139 := enters_of Try.func139 (by kernel_rfl) rfl
theorem ent140 : Enters Try.prog 140 := enters_of Try.func140 (by kernel_rfl) rfl
theorem ent141 : Enters Try.prog 141 := enters_of Try.func141 (by kernel_rfl) rfl
theorem ent145 : Enters Try.prog 145 := enters_of Try.func145 (by kernel_rfl) rfl
theorem ent164 : Enters Try.prog 164 := enters_of Try.func164 (by kernel_rfl) rfl
theorem ent165 : Enters Try.prog 165 := enters_of Try.func165 (by kernel_rfl) rfl
theorem ent166 : Enters Try.prog 166 := enters_of Try.func166 (by kernel_rfl) rfl
end Go.Proofs.Ytnobijngkpflcaa
namespace Go.Eng
section
variable {P : Program} {ops : Array Oper} {S : Nat → Prop} {w0 : World} {a0 : Act} {Γ : Ctx}
variable {d : Option Tmp} {ty : TypeId} {pos : String} {af : Array Edge} {gd : Option (Nat × Bool)}
theorem sp_extT {x : Operand} {vs : Array Value} {v : Value} {i : Nat} (hx : Has S w0 a0 Γ x (Is (.tuple vs))) (hv : vs[i]? = some v) : Spec P ops S w0 a0 Γ ⟨d, .extract x i, ty, pos, af, gd⟩ (Is v) := sp_val fun a g W hk hg he => by
  have e1 : a.eval x = .tuple vs := hx.of_env hk hg he (by simp [Op.operands])
  simp [execOp, e1, Instr.extract, hv]
def OwnIt (W : World) (b : Nat) (s : ByteArray) (p : Nat) : Prop := W.heap[b]? = some (.stringIter s p)
theorem OwnIt.lt {W : World} {b : Nat} {s : ByteArray} {p : Nat} (h : OwnIt W b s p) : b < W.heap.size := (Array.getElem?_eq_some_iff.1 h).1
theorem OwnIt.keeps {W W' : World} {S : Nat → Prop} {b : Nat} {s : ByteArray} {p : Nat} (h : OwnIt W b s p) (k : Keeps S W W') (hs : S b) : OwnIt W' b s p := (k.block b h.lt hs).trans h
theorem OwnIt.ext {W W' : World} {b : Nat} {s : ByteArray} {p : Nat} (h : OwnIt W b s p) (k : Ext W W') : OwnIt W' b s p := h.keeps k trivial
variable {K : List Oper → Ctx → (World → Prop) → List Bool → Prop} {l : List Oper} {Ψ Ψ' : World → Prop} {ms : List Bool} {fl : Bool}
theorem rd_argM {w : World} {S : BSet} {M : List Nat} {d : D} {v : Value} (h : Rd w S d v) (hM : ∀ b ∈ M, ∀ o, ¬ S b o) : Rd w (SA w S M) d v := h.mono fun b o hb hlt => ⟨fun _ => hb, fun h' => by omega, fun hm => hM b hm o hb⟩
theorem keeps_store {S0 : Nat → Prop} {w W W' : World} {b : Nat} (h : Keeps S0 w W) (k : Keeps (fun x => x ≠ b) W W') (hb : w.heap.size ≤ b) : Keeps S0 w W' :=
  ⟨k.os.trans h.os, k.tape.trans h.tape, k.output.trans h.output, Nat.le_trans h.size k.size, fun i hi hs => by
    rw [k.block i (Nat.lt_of_lt_of_le hi h.size) (by intro e; omega)]; exact h.block i hi hs⟩
def UnderE (p : Prop) (φ : Fact) : Fact := fun g u W => (p → φ g u W) ∧ (¬ p → u = undef)
theorem st_underE {S : Nat → Prop} {p : Prop} {φ : Fact} (h : p → Stable S φ) : Stable S (UnderE p φ) :=
  ⟨fun _ _ _ _ k hu => ⟨fun hp => (h hp).world _ _ _ _ k (hu.1 hp), hu.2⟩, fun _ _ _ _ _ hb hu => ⟨fun hp => (h hp).ghost _ _ _ _ _ hb (hu.1 hp), hu.2⟩⟩
theorem Has.undE {x : Operand} {p : Prop} {φ : Fact} (h : Has S w0 a0 Γ x (UnderE p φ)) (hp : p) : Has S w0 a0 Γ x φ := h.imp fun _ _ _ _ _ hu => hu.1 hp
theorem Has.weak {x : Operand} {p q : Prop} {φ : Fact} (h : Has S w0 a0 Γ x (UnderE p φ)) (hq : q → p) : Has S w0 a0 Γ x (Under q φ) := h.imp fun _ _ _ _ _ hu hp => hu.1 (hq hp)
theorem yl_of {a : Act} {gi t : Nat} {x : Bool} (ht : (ops[gi]?).bind (·.dst) = some t) (hv : sl a t = .bool x) : yielded ops a.tmps gi = some x := by
  unfold yielded
  rw [ht]
  simp only [Option.bind_some]
  have h2 : a.tmps.getD t undef = .bool x := hv
  rw [Array.getD_eq_getD_getElem?] at h2
  cases hq : a.tmps[t]? with
  | none => rw [hq] at h2; simp [undef] at h2
  | some q => rw [hq] at h2; simp at h2; rw [h2]
theorem yl_un {a : Act} {gi t : Nat} (ht : (ops[gi]?).bind (·.dst) = some t) (hv : sl a t = undef) : yielded ops a.tmps gi = none := by
  unfold yielded
  rw [ht]
  simp only [Option.bind_some]
  have h2 : a.tmps.getD t undef = undef := hv
  rw [Array.getD_eq_getD_getElem?] at h2
  cases hq : a.tmps[t]? with
  | none => rfl
  | some q => rw [hq] at h2; simp at h2; rw [h2]; rfl
theorem Chain.opE {op : Op} {gi t : Nat} {want x : Bool} {φ : Fact} (ht : (ops[gi]?).bind (·.dst) = some t)
    (hb : Has S w0 a0 Γ (.tmp t) (Is (.bool x)))
    (hst : Stable S φ) (hs : x = want → Spec P ops S w0 a0 Γ ⟨d, op, ty, pos, af, some (gi, want)⟩ φ)
    (h : Chain P ops S w0 a0 K fl l ((d, UnderE (x = want) φ) :: Γ) Ψ (false :: ms)) : Chain P ops S w0 a0 K fl (⟨d, op, ty, pos, af, some (gi, want)⟩ :: l) Γ Ψ ms := by
  refine .side _ (st_underE fun _ => hst) (fun a g W hk hg he => ?_) h
  have hv : sl a t = .bool x := hb a g W hk hg fun u hu => by
    cases hu
    exact he.get (List.mem_append_right _ (by simp [ht]))
  have hyl := yl_of ht hv
  unfold ObRun
  by_cases hx : x = want
  · rw [if_pos (by simp [Region.wanted, hyl, hx])]
    exact (hs hx a g W hk hg he).mono fun v W' ⟨h1, h2⟩ => ⟨h1, fun _ => h2, fun h => absurd hx h⟩
  · rw [if_neg (by simp [Region.wanted, hyl, hx])]
    exact ⟨.refl _ _, fun e => absurd e hx, fun _ => rfl⟩
theorem Chain.opEE {op : Op} {gi t : Nat} {want x : Bool} {p : Prop} {φ : Fact} (ht : (ops[gi]?).bind (·.dst) = some t)
    (hb : Has S w0 a0 Γ (.tmp t) (UnderE p (Is (.bool x))))
    (hst : Stable S φ) (hs : p ∧ x = want → Spec P ops S w0 a0 Γ ⟨d, op, ty, pos, af, some (gi, want)⟩ φ)
    (h : Chain P ops S w0 a0 K fl l ((d, UnderE (p ∧ x = want) φ) :: Γ) Ψ (false :: ms)) : Chain P ops S w0 a0 K fl (⟨d, op, ty, pos, af, some (gi, want)⟩ :: l) Γ Ψ ms := by
  refine .side _ (st_underE fun _ => hst) (fun a g W hk hg he => ?_) h
  have hv : UnderE p (Is (.bool x)) g (sl a t) W := hb a g W hk hg fun u hu => by
    cases hu
    exact he.get (List.mem_append_right _ (by simp [ht]))
  unfold ObRun
  by_cases hp : p
  · have hyl := yl_of ht (hv.1 hp)
    by_cases hx : x = want
    · rw [if_pos (by simp [Region.wanted, hyl, hx])]
      exact (hs ⟨hp, hx⟩ a g W hk hg he).mono fun v W' ⟨h1, h2⟩ => ⟨h1, fun _ => h2, fun h => absurd ⟨hp, hx⟩ h⟩
    · rw [if_neg (by simp [Region.wanted, hyl, hx])]
      exact ⟨.refl _ _, fun e => absurd e.2 hx, fun _ => rfl⟩
  · have hyl := yl_un ht (hv.2 hp)
    rw [if_neg (by simp [Region.wanted, hyl])]
    exact ⟨.refl _ _, fun e => absurd e.1 hp, fun _ => rfl⟩
end
theorem rdV_mk {W : World} {S : BSet} {k : Nat} {n : Int} {t : ByteArray} {ns : List ByteArray} {xs : List V} {cn ci : Value} (h2 : t.size ≤ maxLen) (h3 : Rd W S (strsD ns) cn) (h4 : Rd W S (valsD xs) ci) : Rd W S (V.d (V.mk k n t ns xs)) (.agg #[.int .u8 k, .int .i64 n, .string t, cn, ci]) := rdV_in (x := V.mk k n t ns xs) h2 h3 h4
end Go.Eng
namespace Go.Eng
theorem cnts_take (xs : List V) (k : Nat) (h : k < xs.length) : V.cnts (xs.take (k + 1)) = V.cnts (xs.take k) + xs[k].cnt := by
  induction xs generalizing k with
  | nil => simp at h
  | cons x xs ih =>
    cases k with
    | zero => simp [V.cnts]
    | succ k => simp only [List.take_succ_cons, V.cnts]; rw [ih k (by simpa using h)]; simp; omega
theorem cnts_le (xs : List V) (k : Nat) : V.cnts (xs.take k) ≤ V.cnts xs := by
  induction xs generalizing k with
  | nil => simp [V.cnts]
  | cons x xs ih => cases k with
    | zero => simp [V.cnts]
    | succ k => simp only [List.take_succ_cons, V.cnts]; have := ih k; omega
theorem len_cnts (xs : List V) : xs.length ≤ V.cnts xs := by
  induction xs with
  | nil => simp
  | cons x xs ih => cases x; simp only [List.length_cons, V.cnts, V.cnt]; omega
theorem cnt_eq (x : V) : x.cnt = V.cnts x.xs + 1 := by cases x; rfl
theorem cnt_elem {xs : List V} {k : Nat} (h : k < xs.length) : xs[k].cnt ≤ V.cnts xs := by
  have h1 := cnts_take xs k h; have h2 := cnts_le xs (k + 1); omega
def wtN : List ByteArray → Nat
  | [] => 0
  | s :: ns => s.size + 1 + wtN ns
mutual
def V.wt : V → Nat
  | .mk _ _ t ns xs => 1 + t.size + wtN ns + V.wts xs
def V.wts : List V → Nat
  | [] => 0
  | x :: xs => V.wt x + V.wts xs
end
theorem wt_eq (x : V) : x.wt = 1 + x.t.size + wtN x.ns + V.wts x.xs := by cases x; rfl
theorem wts_mem {xs : List V} {k : Nat} (h : k < xs.length) : xs[k].wt ≤ V.wts xs := by
  induction xs generalizing k with
  | nil => simp at h
  | cons x xs ih => cases k with
    | zero => simp [V.wts]
    | succ k => simp only [List.getElem_cons_succ, V.wts]; have := ih (k := k) (by simpa using h); omega
theorem wt_pos (x : V) : 1 ≤ x.wt := by rw [wt_eq]; omega
theorem wts_len (xs : List V) : xs.length ≤ V.wts xs := by
  induction xs with
  | nil => simp
  | cons x xs ih => simp only [List.length_cons, V.wts]; have := wt_pos x; omega
theorem wtN_len (ns : List ByteArray) : ns.length ≤ wtN ns := by
  induction ns with
  | nil => simp
  | cons s ns ih => simp only [List.length_cons, wtN]; omega
mutual
theorem cnt_wt : ∀ x : V, x.cnt ≤ x.wt
  | .mk _ _ t ns xs => by simp only [V.cnt, V.wt]; have := cnts_wts xs; omega
theorem cnts_wts : ∀ xs : List V, V.cnts xs ≤ V.wts xs
  | [] => by simp [V.cnts]
  | x :: xs => by simp only [V.cnts, V.wts]; have := cnt_wt x; have := cnts_wts xs; omega
end
mutual
def V.dep : V → Nat
  | .mk k _ _ _ xs => if k = 4 ∨ k = 5 then V.deps xs + 1 else 0
def V.deps : List V → Nat
  | [] => 0
  | x :: xs => max (V.dep x) (V.deps xs)
end
def asc : List ByteArray → Bool
  | a :: b :: r => sLt a b && asc (b :: r)
  | _ => true
theorem asc_iff : ∀ ns : List ByteArray, asc ns = true ↔ ∀ i (h : i + 1 < ns.length), sLt ns[i] ns[i + 1] = true
  | [] => by simp [asc]
  | [a] => by simp [asc]
  | a :: b :: r => by
    rw [asc, Bool.and_eq_true, asc_iff (b :: r)]
    constructor
    · rintro ⟨h1, h2⟩ i hi
      cases i with
      | zero => exact h1
      | succ i => exact h2 i (by simpa using hi)
    · intro h
      exact ⟨h 0 (by simp), fun i hi => h (i + 1) (by simpa using hi)⟩
theorem asc_false {ns : List ByteArray} {i : Nat} (h : i + 1 < ns.length) (hf : sLt ns[i] ns[i + 1] = false) : asc ns = false := by
  cases ha : asc ns with
  | false => rfl
  | true => have := (asc_iff ns).1 ha i h; rw [hf] at this; cases this
mutual
def V.beq : V → V → Bool
  | .mk k n t ns xs, .mk k' n' t' ns' xs' => decide (k = k') && decide (n = n') && decide (t = t') && decide (ns = ns') && V.beqs xs xs'
def V.beqs : List V → List V → Bool
  | [], [] => true
  | x :: xs, y :: ys => V.beq x y && V.beqs xs ys
  | _, _ => false
end
mutual
theorem beq_iff : ∀ x y : V, V.beq x y = true ↔ x = y
  | .mk k n t ns xs, .mk k' n' t' ns' xs' => by
    simp only [V.beq, Bool.and_eq_true, decide_eq_true_eq, beqs_iff xs xs', V.mk.injEq]
    constructor
    · rintro ⟨⟨⟨⟨h1, h2⟩, h3⟩, h4⟩, h5⟩; exact ⟨h1, h2, h3, h4, h5⟩
    · rintro ⟨h1, h2, h3, h4, h5⟩; exact ⟨⟨⟨⟨h1, h2⟩, h3⟩, h4⟩, h5⟩
theorem beqs_iff : ∀ xs ys : List V, V.beqs xs ys = true ↔ xs = ys
  | [], [] => by simp [V.beqs]
  | [], _ :: _ => by simp [V.beqs]
  | _ :: _, [] => by simp [V.beqs]
  | x :: xs, y :: ys => by simp only [V.beqs, Bool.and_eq_true, beq_iff x y, beqs_iff xs ys, List.cons.injEq]
end
theorem beq_refl (x : V) : V.beq x x = true := (beq_iff x x).2 rfl
theorem beq_false {x y : V} (h : x ≠ y) : V.beq x y = false := by
  cases hb : V.beq x y with
  | false => rfl
  | true => exact absurd ((beq_iff x y).1 hb) h
theorem V.ext {x y : V} (h1 : x.k = y.k) (h2 : x.n = y.n) (h3 : x.t = y.t) (h4 : x.ns = y.ns) (h5 : x.xs = y.xs) : x = y := by
  cases x; cases y; simp_all [V.k, V.n, V.t, V.ns, V.xs]
mutual
theorem rdV_det {W : World} {X Y : BSet} : ∀ (x y : V) (cs : List Value), RdC W X x.d cs → RdC W Y y.d cs → x = y
  | .mk k n t ns xs, .mk k' n' t' ns' xs', cs, h1, h2 => by
    have q1 : Rd W X (V.mk k n t ns xs).d (.agg cs.toArray) := ⟨cs, h1, by rw [V.d_eq]; rfl⟩
    have q2 : Rd W Y (V.mk k' n' t' ns' xs').d (.agg cs.toArray) := ⟨cs, h2, by rw [V.d_eq]; rfl⟩
    obtain ⟨cn, ci, e, _, a4, a5⟩ := rd_V.1 q1
    obtain ⟨cn', ci', e', _, b4, b5⟩ := rd_V.1 q2
    rw [e] at e'
    simp only [V.k, V.n, V.t, V.ns, V.xs] at e' a4 a5 b4 b5
    simp at e'
    obtain ⟨hk, hn, ht, rfl, rfl⟩ := e'
    have hk' : k = k' := by omega
    subst hk'; subst hn; subst ht
    have hns : ns = ns' := by
      simp only [strsD, RdC] at a4 b4
      obtain ⟨p4, cap4, e4, _, _, h4⟩ := a4
      obtain ⟨u4, v4, f4, _, _, g4⟩ := b4
      rw [e4] at f4
      simp at f4
      obtain ⟨rfl, hl4, rfl⟩ := f4
      rcases h4 with h4 | ⟨b, o, rfl, _, _, h4⟩
      · simp at h4; subst h4; exact (List.length_eq_zero_iff.1 (by simpa using hl4.symm)).symm
      · rcases g4 with g4 | ⟨b', o', he, _, _, g4⟩
        · simp at g4; subst g4; exact List.length_eq_zero_iff.1 (by simpa using hl4)
        · simp at he; obtain ⟨rfl, rfl⟩ := he
          exact strs_det ns ns' o hl4 h4 g4
    have hxs : xs = xs' := by
      simp only [valsD, RdC] at a5 b5
      obtain ⟨p5, cap5, e5, _, _, h5⟩ := a5
      obtain ⟨u5, v5, f5, _, _, g5⟩ := b5
      rw [e5] at f5
      simp at f5
      obtain ⟨rfl, hl5, rfl⟩ := f5
      rcases h5 with h5 | ⟨b, o, rfl, _, _, h5⟩
      · simp at h5; subst h5; exact (List.length_eq_zero_iff.1 (by simpa using hl5.symm)).symm
      · rcases g5 with g5 | ⟨b', o', he, _, _, g5⟩
        · simp at g5; subst g5; exact List.length_eq_zero_iff.1 (by simpa using hl5)
        · simp at he; obtain ⟨rfl, rfl⟩ := he
          exact vals_det xs xs' o hl5 h5 g5
    rw [hns, hxs]
theorem vals_det {W : World} {X Y : BSet} {b : Nat} : ∀ (xs ys : List V) (o : Nat), xs.length = ys.length → RdL W X b 5 (xs.map V.d) o → RdL W Y b 5 (ys.map V.d) o → xs = ys
  | [], [], _, _, _, _ => rfl
  | [], _ :: _, _, h, _, _ => by simp at h
  | _ :: _, [], _, h, _, _ => by simp at h
  | x :: xs, y :: ys, o, h, h1, h2 => by
    simp only [List.map_cons, RdL] at h1 h2
    obtain ⟨⟨c, l1, a1, r1⟩, s1⟩ := h1
    obtain ⟨⟨c', l2, a2, r2⟩, s2⟩ := h2
    have hc : c = c' := List.ext_getElem (l1.trans l2.symm) fun i hi hi' => by
      have q1 := a1 i hi
      have q2 := a2 i hi'
      rw [q1] at q2; exact Option.some.inj q2
    subst hc
    rw [rdV_det x y c r1 r2, vals_det xs ys (o + 5) (by simpa using h) s1 s2]
theorem strs_det {W : World} {X Y : BSet} {b : Nat} : ∀ (xs ys : List ByteArray) (o : Nat), xs.length = ys.length → RdL W X b 1 (xs.map D.str) o → RdL W Y b 1 (ys.map D.str) o → xs = ys
  | [], [], _, _, _, _ => rfl
  | [], _ :: _, _, h, _, _ => by simp at h
  | _ :: _, [], _, h, _, _ => by simp at h
  | x :: xs, y :: ys, o, h, h1, h2 => by
    simp only [List.map_cons, RdL, RdC] at h1 h2
    obtain ⟨⟨c, l1, a1, ⟨r1, _⟩⟩, s1⟩ := h1
    obtain ⟨⟨c', l2, a2, ⟨r2, _⟩⟩, s2⟩ := h2
    subst r1; subst r2
    have q1 := a1 0 (by simp)
    have q2 := a2 0 (by simp)
    rw [q1] at q2
    have : x = y := by simpa using q2
    rw [this, strs_det xs ys (o + 1) (by simpa using h) s1 s2]
end
def szN : List ByteArray → Nat → Nat
  | [], n => n
  | s :: ns, n => if n < 20000 then szN ns (n + 2 + min 20000 s.size) else n
mutual
def szV : V → Nat → Nat → Nat
  | .mk _ _ t ns xs, deep, n => szN ns (n + 4 + min 20000 t.size) + szL xs (deep + 1) 0
def szL : List V → Nat → Nat → Nat
  | [], _, n => n
  | x :: xs, deep, n => if n < 20000 then (if 200 < deep then 20000 else szL xs deep (szV x deep n)) else n
end
theorem szV_eq (x : V) (deep n : Nat) : szV x deep n = szN x.ns (n + 4 + min 20000 x.t.size) + szL x.xs (deep + 1) 0 := by cases x; rfl
theorem szN_big (ns : List ByteArray) {n : Nat} (h : 20000 ≤ n) : szN ns n = n := by cases ns <;> simp [szN]; omega
theorem szL_big (xs : List V) (deep : Nat) {n : Nat} (h : 20000 ≤ n) : szL xs deep n = n := by cases xs <;> simp [szL]; omega
theorem szN_le : ∀ (ns : List ByteArray) (n : Nat), n ≤ szN ns n ∧ szN ns n ≤ max n 40001
  | [], n => by simp [szN]; omega
  | s :: ns, n => by
    simp only [szN]
    split
    · have := szN_le ns (n + 2 + min 20000 s.size); omega
    · omega
theorem szN_wt : ∀ (ns : List ByteArray) (n : Nat), szN ns n < 20000 → n + wtN ns ≤ szN ns n
  | [], n, _ => by simp [szN, wtN]
  | s :: ns, n, h => by
    simp only [szN] at h ⊢
    split at h
    · rename_i hn
      rw [if_pos hn]
      have h1 := szN_wt ns _ h
      have h2 := (szN_le ns (n + 2 + min 20000 s.size)).1
      simp only [wtN]; omega
    · omega
mutual
theorem szV_le : ∀ (x : V) (deep n : Nat), n ≤ szV x deep n
  | .mk _ _ t ns xs, deep, n => by simp only [szV]; have := (szN_le ns (n + 4 + min 20000 t.size)).1; omega
theorem szL_le : ∀ (xs : List V) (deep n : Nat), n ≤ szL xs deep n
  | [], _, n => by simp [szL]
  | x :: xs, deep, n => by
    simp only [szL]
    split
    · split
      · omega
      · have h1 := szV_le x deep n; have h2 := szL_le xs deep (szV x deep n); omega
    · omega
end
mutual
theorem szV_top : ∀ (x : V) (deep n : Nat), n < 20000 → deep ≤ 200 → szV x deep n ≤ 40003 + 40003 * (201 - deep)
  | .mk _ _ t ns xs, deep, n, hn, hd => by
    simp only [szV]
    have h1 := (szN_le ns (n + 4 + min 20000 t.size)).2
    have h2 := szL_top xs (deep + 1) 0 (by omega)
    have : 202 - (deep + 1) = 201 - deep := by omega
    rw [this] at h2
    omega
theorem szL_top : ∀ (xs : List V) (deep n : Nat), deep ≤ 201 → szL xs deep n ≤ max n (40003 * (202 - deep))
  | [], _, n, _ => by simp [szL]; omega
  | x :: xs, deep, n, hd => by
    simp only [szL]
    split
    · split
      · omega
      · rename_i hn hdd
        have h1 := szV_top x deep n hn (by omega)
        have h2 := szL_top xs deep (szV x deep n) hd
        have : 202 - deep = 201 - deep + 1 := by omega
        rw [this, Nat.mul_add] at h2 ⊢
        omega
    · omega
end
mutual
theorem szV_wt : ∀ (x : V) (deep n : Nat), szV x deep n < 20000 → n + x.wt ≤ szV x deep n
  | .mk k n' t ns xs, deep, n, h => by
    simp only [szV, V.wt] at h ⊢
    have h0 := (szN_le ns (n + 4 + min 20000 t.size)).1
    have h1 := szN_wt ns (n + 4 + min 20000 t.size) (by omega)
    have h2 := szL_wt xs (deep + 1) 0 (by omega)
    omega
theorem szL_wt : ∀ (xs : List V) (deep n : Nat), szL xs deep n < 20000 → n + V.wts xs ≤ szL xs deep n
  | [], _, n, _ => by simp [szL, V.wts]
  | x :: xs, deep, n, h => by
    simp only [szL, V.wts] at h ⊢
    split at h
    · rename_i hn
      rw [if_pos hn]
      split at h
      · omega
      · rename_i hd
        rw [if_neg hd]
        have h0 := szL_le xs deep (szV x deep n)
        have h1 := szV_wt x deep n (by omega)
        have h2 := szL_wt xs deep _ h
        omega
    · omega
end
theorem sa_cln {w : World} {S : BSet} {M : List Nat} (hS : ∀ b o, S b o → Cln o) : ∀ b o, SA w S M b o → Cln o := fun b o h => by
  by_cases hlt : b < w.heap.size
  · exact hS b o (h.1 hlt)
  · exact h.2.1 (by omega)
def Above (w : World) (S : BSet) (xs : List V) (p : Value) : Prop := p = .pointer none ∨ ∃ y : V, Ref w S y.d p ∧ V.cnts xs < y.cnt
theorem rd_len {W : World} {S : BSet} {xs : List V} {v : Value} (h : Rd W S (valsD xs) v) : xs.length ≤ maxLen := by
  obtain ⟨cs, h1, _⟩ := h
  simp only [valsD, RdC] at h1
  obtain ⟨a, cap, _, h2, h3, _⟩ := h1
  simp at h2; omega
theorem rd_lenS {W : World} {S : BSet} {xs : List ByteArray} {v : Value} (h : Rd W S (strsD xs) v) : xs.length ≤ maxLen := by
  obtain ⟨cs, h1, _⟩ := h
  simp only [strsD, RdC] at h1
  obtain ⟨a, cap, _, h2, h3, _⟩ := h1
  simp at h2; omega
theorem rd_elem {W : World} {S : BSet} {xs : List V} {v : Value} (h : Rd W S (valsD xs) v) {k : Nat} (hk : k < xs.length) : ∃ u, Rd W S xs[k].d u := by
  obtain ⟨cs, h1, _⟩ := h
  simp only [valsD, RdC] at h1
  obtain ⟨a, cap, _, h2, h3, h4⟩ := h1
  rcases h4 with h4 | ⟨b, o, _, _, _, h4⟩
  · have : xs = [] := by simpa using h4
    subst this; simp at hk
  · obtain ⟨c, _, _, hc⟩ := h4.get k (by simpa using hk)
    exact ⟨asm _ c, c, by simpa using hc, rfl⟩
theorem rd_ns {W : World} {S : BSet} {xs : List V} {v : Value} (h : Rd W S (valsD xs) v) {k : Nat} (hk : k < xs.length) : (xs[k]).ns.length ≤ maxLen := by
  obtain ⟨u, hu⟩ := rd_elem h hk
  obtain ⟨_, _, _, _, _, _, h3, _⟩ := rdV_out hu
  exact rd_lenS h3
end Go.Eng
namespace Go.Eng
def blks : Option Nat → List Nat
  | none => []
  | some b => [b]
theorem mem_blks {b : Nat} {hd : Option Nat} : b ∈ blks hd ↔ hd = some b := by cases hd <;> simp [blks, eq_comm]
def Arr (W : World) (lo : Nat) (e : TypeId) (sz : Nat) (X : BSet) (ds : List D) (v : Value) (hd : Option Nat) : Prop :=
  v.ownBlock = hd ∧ ∃ cs, W.ownsRow lo e sz v ds.length cs ∧ RowIs W X sz ds cs
theorem Arr.lt {W : World} {lo : Nat} {e : TypeId} {sz : Nat} {X : BSet} {ds : List D} {v : Value} {hd : Option Nat} (h : Arr W lo e sz X ds v hd) : ∀ b ∈ blks hd, b < W.heap.size := fun b hb => by
  obtain ⟨h1, cs, h2, _⟩ := h
  exact (h2.lt b (h1.trans (mem_blks.1 hb))).2
theorem Arr.ge {W : World} {lo : Nat} {e : TypeId} {sz : Nat} {X : BSet} {ds : List D} {v : Value} {hd : Option Nat} (h : Arr W lo e sz X ds v hd) : ∀ b ∈ blks hd, lo ≤ b := fun b hb => by
  obtain ⟨h1, cs, h2, _⟩ := h
  exact (h2.lt b (h1.trans (mem_blks.1 hb))).1
theorem owns_keeps {W W' : World} {S : Nat → Prop} {lo : Nat} {e : TypeId} {sz n : Nat} {v : Value} {cs : List Value} (h : W.ownsRow lo e sz v n cs) (k : Keeps S W W') (hs : ∀ b, v.ownBlock = some b → S b) : W'.ownsRow lo e sz v n cs := by
  refine ⟨h.1, ?_⟩
  rcases h.2 with h1 | ⟨g, cap, cur, rfl, hb, hg, rest⟩
  · exact .inl h1
  · exact .inr ⟨g, cap, cur, rfl, hb, (k.block g (Array.getElem?_eq_some_iff.1 hg).1 (hs g rfl)).trans hg, rest⟩
theorem Arr.keeps {W W' : World} {S : Nat → Prop} {lo : Nat} {e : TypeId} {sz : Nat} {X : BSet} {ds : List D} {v : Value} {hd : Option Nat} (h : Arr W lo e sz X ds v hd) (k : Keeps S W W') (hs : ∀ b ∈ blks hd, S b) (hX : ∀ b o, X b o → S b) : Arr W' lo e sz X ds v hd := by
  obtain ⟨h1, cs, h2, h3⟩ := h
  exact ⟨h1, cs, owns_keeps h2 k (fun b hb => hs b (mem_blks.2 (h1.symm.trans hb))), h3.move k.size fun b hb hlt => ⟨k.block b hlt (hX b _ hb), by rw [k.block b hlt (hX b _ hb)]; exact hb⟩⟩
theorem Arr.ext {W W' : World} {lo : Nat} {e : TypeId} {sz : Nat} {X : BSet} {ds : List D} {v : Value} {hd : Option Nat} (h : Arr W lo e sz X ds v hd) (k : Ext W W') : Arr W' lo e sz X ds v hd := h.keeps k (fun _ _ => trivial) (fun _ _ _ => trivial)
theorem Arr.mono {W : World} {lo : Nat} {e : TypeId} {sz : Nat} {X X' : BSet} {ds : List D} {v : Value} {hd : Option Nat} (h : Arr W lo e sz X ds v hd) (hX : ∀ b o, X b o → b < W.heap.size → X' b o) : Arr W lo e sz X' ds v hd := by
  obtain ⟨h1, cs, h2, h3⟩ := h
  exact ⟨h1, cs, h2, h3.move (Nat.le_refl _) fun b hb hlt => ⟨rfl, hX b _ hb hlt⟩⟩
theorem arr_nil (W : World) (lo : Nat) (e : TypeId) (sz : Nat) (X : BSet) : Arr W lo e sz X [] (.slice none 0 0) none := ⟨rfl, [], World.ownsRow_nil W lo e sz, rfl⟩
theorem arr_sl {W : World} {lo : Nat} {e : TypeId} {sz : Nat} {X : BSet} {ds : List D} {v : Value} {hd : Option Nat} (h : Arr W lo e sz X ds v hd) : ∃ ad n c, v = .slice ad n c := by
  obtain ⟨_, cs, h2, _⟩ := h
  rcases h2.2 with ⟨rfl, _⟩ | ⟨g, cap, cur, rfl, _⟩
  · exact ⟨_, _, _, rfl⟩
  · exact ⟨_, _, _, rfl⟩
theorem arr_rd {W : World} {lo : Nat} {e : TypeId} {sz : Nat} {X X' : BSet} {ds : List D} {v : Value} {hd : Option Nat} (h : Arr W lo e sz X ds v hd) (hX : ∀ b o, X b o → b < W.heap.size → X' b o) (hg : ∀ b ∈ blks hd, ∀ o, lo ≤ b → Cln o → X' b o) : Rd W X' (.lst sz ds) v := by
  obtain ⟨h1, cs, h2, h3⟩ := h
  have hr : RowIs W X' sz ds cs := h3.move (Nat.le_refl _) fun b hb hlt => ⟨rfl, hX b _ hb hlt⟩
  rcases h2.2 with ⟨rfl, h0⟩ | ⟨g, cap, cur, rfl, hb, hg', hc1, hc2, hc3, hc4⟩
  · have : ds = [] := List.length_eq_zero_iff.1 h0
    subst this
    exact rd_nil _
  · have hgd : X' g W.heap[g]? := hg g (mem_blks.2 (by rw [← h1]; rfl)) _ hb ⟨_, _, hg'⟩
    refine rd_of_row (o := 0) hc1 hc2 hgd (Array.getElem?_eq_some_iff.1 hg').1 (fun j hj => ?_) hr
    unfold World.cell?
    rw [hg']
    have hl : (cur.toList.take (ds.length * sz))[j]? = some cs[j] := by rw [hc4]; exact List.getElem?_eq_getElem hj
    rw [List.getElem?_take] at hl
    split at hl
    · simpa using hl
    · cases hl
theorem run_app {P : Program} {W : World} {lo : Nat} {t ty e : TypeId} {sz bytes : Nat} (ht : P.underlying t = some (.slice e)) (hinf : inf P e sz bytes) (hsz : 0 < sz)
    {v : Value} {n : Nat} {xs : List Value} (hown : W.ownsRow lo e sz v n xs) {a : Addr} {m c : Nat} {news : List Value} (hl : news.length = m * sz) (hnews : ∀ j u, news[j]? = some u → W.cell? (a.add j) = some u) (h1 : ∀ u ∈ news, u.oneCell' = true)
    (h63 : n + m ≤ maxLen) (hbytes : (n + m) * bytes ≤ 140737488355328) (hlo : lo ≤ W.heap.size) (hm : 0 < m) :
    ∃ v' W', (Builtin.append_ #[t, t] ty #[v, .slice (some a) m c]).run P W = .ok v' W' ∧ W'.ownsRow lo e sz v' (n + m) (xs ++ news) ∧ Keeps (fun k => k ∉ blks v.ownBlock) W W' ∧ (∀ b ∈ blks v'.ownBlock, b ∈ blks v.ownBlock ∨ W.heap.size ≤ b) := by
  obtain ⟨i, z, hi, hz, hs1, hs2, hzs⟩ := hinf
  subst hs1; subst hs2
  have hsmall : n + m ≤ 9223372036854775807 := by simp only [maxLen] at h63; omega
  have hlen : (xs ++ news).length = (n + m) * i.size := by rw [List.length_append, hown.1, hl, Nat.add_mul]
  have grown : ∀ (old : Nat), old < n + m → ∀ (R : Nat → Prop),
      (W.drew.alloc (.cells (xs.toArray ++ news.toArray ++ Builtin.zeroCells z.cells (grownCap W (n + m) old e - (n + m))) e)).ownsRow lo e i.size
        (.slice (some ⟨W.heap.size, 0, none⟩) (n + m) (grownCap W (n + m) old e)) (n + m) (xs ++ news) ∧
      Keeps R W (W.drew.alloc (.cells (xs.toArray ++ news.toArray ++ Builtin.zeroCells z.cells (grownCap W (n + m) old e - (n + m))) e)) := by
    intro old ho R
    have hge := grownCap_ge W (n + m) old e
    have hcm : grownCap W (n + m) old e ≤ maxLen := grownCap_le_maxLen W (n + m) old e h63
    refine ⟨⟨hlen, .inr ⟨W.heap.size, _, _, rfl, hlo, heap_alloc_new W.drew _, hge, hcm, ?_, ?_⟩⟩, .of_ext (ext_drew_alloc W _)⟩
    · simp only [Array.size_append, List.size_toArray, size_zeroCells, hzs, hown.1, hl, ← Nat.add_mul]
      congr 1
      omega
    · simp only [Array.toList_append, List.append_assoc]
      rw [← List.append_assoc, ← hlen]
      exact List.take_left
  rcases hown.2 with ⟨rfl, rfl⟩ | ⟨g, cap, cur, rfl, hbg, hg, hnc, hcm, hcs, htake⟩
  · have hx : xs = [] := List.eq_nil_of_length_eq_zero (by simpa using hown.1)
    subst hx
    have hr := run_append_nil (P := P) W t ty e i z ht hi hz a m c news hl hnews (by omega) (by omega) (by have hb := hbytes; simp only [Nat.zero_add] at hb; omega)
    have hgr := grown 0 (by omega) (fun k => k ∉ blks (Value.ownBlock (.slice none 0 0)))
    simp only [Nat.zero_add, List.nil_append, Array.empty_append] at hgr ⊢
    exact ⟨_, _, hr, hgr.1, hgr.2, fun b hb => by simp [Value.ownBlock, blks] at hb; exact .inr (by omega)⟩
  · by_cases hroom : n + m ≤ cap
    · have hfit : n * i.size + news.length ≤ cur.size := by rw [hl, hcs, ← Nat.add_mul]; exact Nat.mul_le_mul_right _ hroom
      have hr := run_append_room (P := P) W t ty e i ht hi g n cap cur hg a m c news hl hnews h1 hroom hfit
      refine ⟨_, _, hr, ⟨hlen, .inr ⟨g, cap, _, rfl, hbg, setRow_heap W g cur _ e _ hg, hroom, hcm, ?_, ?_⟩⟩, ⟨rfl, rfl, rfl, by simp, fun k _ hk => setRow_other W g k _ (fun e => hk (by simp [Value.ownBlock, blks, e]))⟩, fun b hb => .inl hb⟩
      · simp only [List.size_toArray, List.length_append, List.length_take, List.length_drop, Array.length_toList]
        omega
      · rw [htake, ← hlen]
        exact List.take_left
    · have holds : ∀ j u, xs[j]? = some u → W.cell? ((⟨g, 0, none⟩ : Addr).add j) = some u := hown.cells (g := g) rfl
      have hr := run_append_grow (P := P) W t ty e i z ht hi hz ⟨g, 0, none⟩ n cap xs hown.1 holds a m c news hl hnews (by omega) (by omega) (growslice_fits (by omega) hbytes)
      have hgr := grown cap (by omega) (fun k => k ∉ blks (Value.ownBlock (.slice (some ⟨g, 0, none⟩) n cap)))
      exact ⟨_, _, hr, hgr.1, hgr.2, fun b hb => by simp [Value.ownBlock, blks] at hb; exact .inr (by omega)⟩
section
variable {P : Program} {ops : Array Oper} {w0 : World} {a0 : Act} {Γ : Ctx}
variable {d : Option Tmp} {ty : TypeId} {pos : String} {af : Array Edge} {gd : Option (Nat × Bool)}
variable {K : List Oper → Ctx → (World → Prop) → List Bool → Prop} {l : List Oper} {Ψ Ψ' : World → Prop} {ms : List Bool} {fl : Bool}
def IsArr (w0 : World) (lo : Nat) (e : TypeId) (sz : Nat) (X : BSet) (ds : List D) (hd : Option Nat) : Fact := fun _ u W => ∃ hd', Arr W lo e sz (fun b o => X b o ∧ b ∉ blks hd') ds u hd' ∧ ∀ b ∈ blks hd', b ∈ blks hd ∨ w0.heap.size ≤ b
theorem st_arr {lo : Nat} {e : TypeId} {sz : Nat} {X : BSet} {ds : List D} {hd : Option Nat} : Stable All (IsArr w0 lo e sz X ds hd) :=
  ⟨fun _ _ _ _ k ⟨hd', h1, h2⟩ => ⟨hd', h1.ext k, h2⟩, fun _ _ _ _ _ _ h => h⟩
theorem tail_assign {Q : Exit → Act → World → Prop} {r : List Oper} {a : Act} {W : World} {x : Operand} {v : Value} {t : Nat} (hx : a.eval x = v) (ht : t < a.tmps.size)
    (h : ∀ a', a'.tmps.size = a.tmps.size → a'.defers = a.defers → sl a' t = v → (∀ u, u ≠ t → sl a' u = sl a u) → runTail P ops Q r a' W) :
    runTail P ops Q (⟨some t, .assign x, ty, pos, af, none⟩ :: r) a W := by
  have hw : Region.wanted (⟨some t, .assign x, ty, pos, af, none⟩ : Oper) (yielded ops a.tmps) = true := rfl
  unfold runTail ObRun; rw [if_pos hw]
  unfold OpRuns
  have : (execOp a.eval ⟨some t, .assign x, ty, pos, af, none⟩).run P W = .ok (.value v) W := by simp [execOp, hx]
  rw [this]
  exact h _ put_size put_defers (sl_put_same ht) (fun u hu => sl_put_ne (by simpa using Ne.symm hu))
end
theorem in_app {L M : List Nat} {p : Nat → Prop} (h1 : ∀ b ∈ L, p b) (h2 : ∀ b ∈ M, p b) : ∀ b ∈ L ++ M, p b := fun b hb => (List.mem_append.1 hb).elim (h1 b) (h2 b)
theorem rep_nil {q : Nat → Prop} : ∀ b ∈ ([] : List Nat), b ∈ ([] : List Nat) ∨ q b := fun _ h => .inl h
theorem rep_cons {q : Nat → Prop} {x : Nat} {M M' : List Nat} (h : ∀ b ∈ M', b ∈ M ∨ q b) : ∀ b ∈ x :: M', b ∈ x :: M ∨ q b := fun b hb => by
  rcases List.mem_cons.1 hb with rfl | hb
  · exact .inl List.mem_cons_self
  · exact (h b hb).imp (List.mem_cons_of_mem _) id
theorem rep_app {q : Nat → Prop} {L L' M M' : List Nat} (h1 : ∀ b ∈ L', b ∈ L ∨ q b) (h : ∀ b ∈ M', b ∈ M ∨ q b) : ∀ b ∈ L' ++ M', b ∈ L ++ M ∨ q b := fun b hb => by
  rcases List.mem_append.1 hb with hb | hb
  · exact (h1 b hb).imp (List.mem_append_left _) id
  · exact (h b hb).imp (List.mem_append_right _) id
theorem rep_refl {q : Nat → Prop} {L : List Nat} : ∀ b ∈ L, b ∈ L ∨ q b := fun _ h => .inl h
theorem rep_q {q : Nat → Prop} {L L' : List Nat} (h : ∀ b ∈ L', q b) : ∀ b ∈ L', b ∈ L ∨ q b := fun b hb => .inr (h b hb)
theorem sub_nb {w : World} {S : BSet} {M : List Nat} {hd : Option Nat} (hM : ∀ b ∈ blks hd, b ∈ M) : ∀ b o, SA w S M b o → b ∉ blks hd := fun b _ h hh => h.2.2 (hM b hh)
theorem sub_nbF {w : World} {M : List Nat} {hd : Option Nat} (hM : ∀ b ∈ blks hd, b ∈ M) : ∀ b o, SF w M b o → b ∉ blks hd := fun b _ h hh => h.2.2 (hM b hh)
theorem fr_sf {S0 : Nat → Prop} {w w0 : World} {M : List Nat} (kw : Keeps S0 w w0) (hM : ∀ b ∈ M, b < w0.heap.size) : ∀ b o, Fr w0 b o → SF w M b o := fun b _ h => ⟨Nat.le_trans kw.size h.1, h.2, fun hm => by have := hM b hm; have := h.1; omega⟩
theorem fr_sa {S0 : Nat → Prop} {S : BSet} {w w0 : World} {M : List Nat} (kw : Keeps S0 w w0) (hM : ∀ b ∈ M, b < w0.heap.size) : ∀ b o, Fr w0 b o → SA w S M b o := fun b o h => by
  have h' := fr_sf kw hM b o h
  exact ⟨fun hlt => absurd h'.1 (by omega), fun _ => h'.2.1, h'.2.2⟩
theorem keeps_app {S0 : Nat → Prop} {w W W' : World} {L : List Nat} (h : Keeps S0 w W) (k : Keeps (fun x => x ∉ L) W W') (hb : ∀ b ∈ L, w.heap.size ≤ b) : Keeps S0 w W' :=
  ⟨k.os.trans h.os, k.tape.trans h.tape, k.output.trans h.output, Nat.le_trans h.size k.size, fun i hi hs => by
    rw [k.block i (Nat.lt_of_lt_of_le hi h.size) (fun hm => by have := hb i hm; omega)]; exact h.block i hi hs⟩
theorem nb_new {W : World} {b : Nat} {hd hd' : Option Nat} (h : b ∉ blks hd) (hlt : b < W.heap.size) (hh : ∀ x ∈ blks hd', x ∈ blks hd ∨ W.heap.size ≤ x) : b ∉ blks hd' := fun hm => (hh b hm).elim h (by omega)
theorem dj_new {W : World} {hd hd' hd2 : Option Nat} (h : ∀ b ∈ blks hd2, b ∉ blks hd) (hlt : ∀ b ∈ blks hd2, b < W.heap.size) (hh : ∀ x ∈ blks hd', x ∈ blks hd ∨ W.heap.size ≤ x) : ∀ b ∈ blks hd2, b ∉ blks hd' := fun b hb => nb_new (h b hb) (hlt b hb) hh
theorem nb_lt {N b : Nat} {hd : Option Nat} (hlt : ∀ x ∈ blks hd, x < N) (hb : N ≤ b) : b ∉ blks hd := fun hm => by have := hlt b hm; omega
theorem dj_symm {hd hd2 : Option Nat} (h : ∀ b ∈ blks hd2, b ∉ blks hd) : ∀ b ∈ blks hd, b ∉ blks hd2 := fun b hb h2 => h b h2 hb
section
variable {w W W' : World} {S : BSet} {M M' : List Nat} {hd hd2 hd' : Option Nat} {d : D} {v : Value} {lo : Nat} {e : TypeId} {sz : Nat} {ds : List D}
theorem sf_app (h : Rd W (SF w M) d v) (k : Keeps (fun x => x ∉ blks hd) W W') (hM : ∀ b ∈ blks hd, b ∈ M) (hr : ∀ b ∈ M', b ∈ M ∨ W.heap.size ≤ b) : Rd W' (SF w M') d v :=
  (h.mono fun b o hb hlt => ⟨⟨hb.1, hb.2.1, fun hm => (hr b hm).elim hb.2.2 (by omega)⟩, fun hh => hb.2.2 (hM b hh)⟩ : Rd W (fun b o => SF w M' b o ∧ b ∉ blks hd) d v).keeps k (fun b o hb => hb.2) |>.mono fun b o hb _ => hb.1
theorem sa_app (h : Rd W (SA w S M) d v) (k : Keeps (fun x => x ∉ blks hd) W W') (hM : ∀ b ∈ blks hd, b ∈ M) (hr : ∀ b ∈ M', b ∈ M ∨ W.heap.size ≤ b) : Rd W' (SA w S M') d v :=
  (h.mono fun b o hb hlt => ⟨⟨hb.1, hb.2.1, fun hm => (hr b hm).elim hb.2.2 (by omega)⟩, fun hh => hb.2.2 (hM b hh)⟩ : Rd W (fun b o => SA w S M' b o ∧ b ∉ blks hd) d v).keeps k (fun b o hb => hb.2) |>.mono fun b o hb _ => hb.1
theorem arrF_app (h : Arr W lo e sz (SF w M) ds v hd2) (k : Keeps (fun x => x ∉ blks hd) W W') (hM : ∀ b ∈ blks hd, b ∈ M) (hr : ∀ b ∈ M', b ∈ M ∨ W.heap.size ≤ b) (hd2' : ∀ b ∈ blks hd2, b ∉ blks hd) : Arr W' lo e sz (SF w M') ds v hd2 :=
  (h.mono fun b o hb hlt => ⟨⟨hb.1, hb.2.1, fun hm => (hr b hm).elim hb.2.2 (by omega)⟩, fun hh => hb.2.2 (hM b hh)⟩ : Arr W lo e sz (fun b o => SF w M' b o ∧ b ∉ blks hd) ds v hd2).keeps k hd2' (fun b o hb => hb.2) |>.mono fun b o hb _ => hb.1
theorem arrA_app (h : Arr W lo e sz (SA w S M) ds v hd2) (k : Keeps (fun x => x ∉ blks hd) W W') (hM : ∀ b ∈ blks hd, b ∈ M) (hr : ∀ b ∈ M', b ∈ M ∨ W.heap.size ≤ b) (hd2' : ∀ b ∈ blks hd2, b ∉ blks hd) : Arr W' lo e sz (SA w S M') ds v hd2 :=
  (h.mono fun b o hb hlt => ⟨⟨hb.1, hb.2.1, fun hm => (hr b hm).elim hb.2.2 (by omega)⟩, fun hh => hb.2.2 (hM b hh)⟩ : Arr W lo e sz (fun b o => SA w S M' b o ∧ b ∉ blks hd) ds v hd2).keeps k hd2' (fun b o hb => hb.2) |>.mono fun b o hb _ => hb.1
theorem arrF_new (h : Arr W' lo e sz (fun b o => SF w M b o ∧ b ∉ blks hd') ds v hd') (hr : ∀ b ∈ M', b ∈ M ∨ b ∈ blks hd') : Arr W' lo e sz (SF w M') ds v hd' :=
  h.mono fun b o hb _ => ⟨hb.1.1, hb.1.2.1, fun hm => (hr b hm).elim hb.1.2.2 hb.2⟩
theorem arrA_new (h : Arr W' lo e sz (fun b o => SA w S M b o ∧ b ∉ blks hd') ds v hd') (hr : ∀ b ∈ M', b ∈ M ∨ b ∈ blks hd') : Arr W' lo e sz (SA w S M') ds v hd' :=
  h.mono fun b o hb _ => ⟨hb.1.1, hb.1.2.1, fun hm => (hr b hm).elim hb.1.2.2 hb.2⟩
theorem arrF_more (h : Arr W lo e sz (SF w M) ds v hd) (k : Ext W W') (news : List Nat) (hn : ∀ b ∈ news, W.heap.size ≤ b) : Arr W' lo e sz (SF w (news ++ M)) ds v hd :=
  (h.mono fun _ _ hb hlt => ⟨hb.1, hb.2.1, not_more hb.2.2 hlt hn⟩ : Arr W lo e sz (SF w (news ++ M)) ds v hd).ext k
theorem arrA_more (h : Arr W lo e sz (SA w S M) ds v hd) (k : Ext W W') (news : List Nat) (hn : ∀ b ∈ news, W.heap.size ≤ b) : Arr W' lo e sz (SA w S (news ++ M)) ds v hd :=
  (h.mono fun _ _ hb hlt => ⟨hb.1, hb.2.1, not_more hb.2.2 hlt hn⟩ : Arr W lo e sz (SA w S (news ++ M)) ds v hd).ext k
theorem arrF_store {b : Nat} (h : Arr W lo e sz (SF w M) ds v hd) (k : Keeps (fun x => x ≠ b) W W') (hb : b ∈ M) (hn : b ∉ blks hd) : Arr W' lo e sz (SF w M) ds v hd :=
  h.keeps k (fun _ hx e => hn (e ▸ hx)) fun x _ hx e => hx.2.2 (e ▸ hb)
theorem arrA_store {b : Nat} (h : Arr W lo e sz (SA w S M) ds v hd) (k : Keeps (fun x => x ≠ b) W W') (hb : b ∈ M) (hn : b ∉ blks hd) : Arr W' lo e sz (SA w S M) ds v hd :=
  h.keeps k (fun _ hx e => hn (e ▸ hx)) fun x _ hx e => hx.2.2 (e ▸ hb)
theorem arrF_less (h : Arr W lo e sz (SF w M) ds v hd) (hm : ∀ b ∈ M', b ∈ M) : Arr W lo e sz (SF w M') ds v hd := h.mono fun b _ hb _ => ⟨hb.1, hb.2.1, fun h' => hb.2.2 (hm b h')⟩
theorem arrA_less (h : Arr W lo e sz (SA w S M) ds v hd) (hm : ∀ b ∈ M', b ∈ M) : Arr W lo e sz (SA w S M') ds v hd := h.mono fun b _ hb _ => ⟨hb.1, hb.2.1, fun h' => hb.2.2 (hm b h')⟩
theorem arrF_rd (h : Arr W w.heap.size e sz (SF w M) ds v hd) (hm : ∀ b ∈ M', b ∈ M) (hn : ∀ b ∈ blks hd, b ∉ M') : Rd W (SF w M') (.lst sz ds) v :=
  arr_rd h (fun b _ hb _ => ⟨hb.1, hb.2.1, fun h' => hb.2.2 (hm b h')⟩) fun b hb _ hlo hc => ⟨hlo, hc, hn b hb⟩
theorem arrA_rd (h : Arr W w.heap.size e sz (SA w S M) ds v hd) (hm : ∀ b ∈ M', b ∈ M) (hn : ∀ b ∈ blks hd, b ∉ M') : Rd W (SA w S M') (.lst sz ds) v :=
  arr_rd h (fun b _ hb _ => ⟨hb.1, hb.2.1, fun h' => hb.2.2 (hm b h')⟩) fun b hb _ hlo hc => ⟨fun hlt => by omega, fun _ => hc, hn b hb⟩
end
theorem own_app {W W' : World} {b : Nat} {hd : Option Nat} {cs : List Value} {T : TypeId} (h : Own W b cs T) (k : Keeps (fun x => x ∉ blks hd) W W') (hn : b ∉ blks hd) : Own W' b cs T := h.keeps k hn
theorem hd_nil {p : Nat → Prop} : ∀ b ∈ blks none, p b := fun _ h => by cases h
section
variable {P : Program} {ops : Array Oper} {S : Nat → Prop} {w0 : World} {a0 : Act} {Γ : Ctx}
variable {d : Option Tmp} {ty : TypeId} {pos : String} {af : Array Edge} {gd : Option (Nat × Bool)}
theorem Has.sup {x : Operand} {X X' : BSet} {dd : D} (h : Has S w0 a0 Γ x (IsD X dd)) (hX : ∀ b o, X b o → X' b o) : Has S w0 a0 Γ x (IsD X' dd) := h.imp fun _ _ _ _ _ hu => Rd.mono hu fun b o hb _ => ⟨hX b o hb.1, hb.2⟩
theorem sf_in_sa {w : World} {S : BSet} {M : List Nat} : ∀ b o, SF w M b o → SA w S M b o := fun b _ hb => ⟨fun hlt => absurd hb.1 (by omega), fun _ => hb.2.1, hb.2.2⟩
theorem Has.str {x : Operand} {s : ByteArray} {X : BSet} (h : Has S w0 a0 Γ x (Is (.string s))) (hb : s.size ≤ maxLen) : Has S w0 a0 Γ x (IsD X (.str s)) := h.imp fun _ u _ _ _ hu => ⟨[.string s], ⟨rfl, hb⟩, hu⟩
theorem sp_slNil {x y : Operand} {T T' E : TypeId} {ad : Option Addr} {n c : Nat} (hT : P.underlying T = some (.slice E)) (hx : Has S w0 a0 Γ x (Is (.slice ad n c))) (hy : Has S w0 a0 Γ y (Is (.slice none 0 0))) :
    Spec P ops S w0 a0 Γ ⟨d, .binOp .eql T x y T', ty, pos, af, gd⟩ (Is (.bool ad.isNone)) := sp_val fun a g W hk hg he => by
  have e1 : a.eval x = .slice ad n c := hx.of_env hk hg he (by simp [Op.operands])
  have e2 : a.eval y = .slice none 0 0 := hy.of_env hk hg he (by simp [Op.operands])
  simp [execOp, e1, e2, binOp, eqGuard, run_equal_slice_nil W T E ad n c hT]
theorem rd_none {W : World} {X : BSet} {sz n c : Nat} {ds : List D} {ad : Option Addr} (h : Rd W X (.lst sz ds) (.slice ad n c)) (hn : ad.isNone = true) : ds = [] := by
  obtain ⟨cs, h1, h2⟩ := h
  simp only [RdC] at h1
  obtain ⟨a2, cap, rfl, _, _, h4⟩ := h1
  have e : Value.slice ad n c = .slice a2 ds.length cap := h2
  injection e with e1
  subst e1
  rcases h4 with h | ⟨b, o, rfl, _⟩
  · exact h
  · cases hn
end
theorem width_V (x : V) : width x.d = 5 := by rw [V.d_eq]; rfl
theorem ls_nil {M : List Nat} : ∀ b ∈ ([] : List Nat), b ∈ M := fun _ h => by cases h
theorem ls_keep {x : Nat} {M M' : List Nat} (h : ∀ b ∈ M', b ∈ M) : ∀ b ∈ x :: M', b ∈ x :: M := fun b hb => by
  rcases List.mem_cons.1 hb with rfl | hb
  · exact List.mem_cons_self
  · exact List.mem_cons_of_mem _ (h b hb)
theorem ls_skip {x : Nat} {M M' : List Nat} (h : ∀ b ∈ M', b ∈ M) : ∀ b ∈ M', b ∈ x :: M := fun b hb => List.mem_cons_of_mem _ (h b hb)
theorem ls_keepA {L M M' : List Nat} (h : ∀ b ∈ M', b ∈ M) : ∀ b ∈ L ++ M', b ∈ L ++ M := fun b hb => by
  rcases List.mem_append.1 hb with hb | hb
  · exact List.mem_append_left _ hb
  · exact List.mem_append_right _ (h b hb)
theorem ls_skipA {L M M' : List Nat} (h : ∀ b ∈ M', b ∈ M) : ∀ b ∈ M', b ∈ L ++ M := fun b hb => List.mem_append_right _ (h b hb)
theorem nin_nil {L : List Nat} : ∀ b ∈ L, b ∉ ([] : List Nat) := fun _ _ h => by cases h
theorem nin_cons {x : Nat} {L M : List Nat} (hx : x ∉ L) (h : ∀ b ∈ L, b ∉ M) : ∀ b ∈ L, b ∉ x :: M := fun b hb hm => by
  rcases List.mem_cons.1 hm with rfl | hm
  · exact hx hb
  · exact h b hb hm
theorem nin_app {L L2 M : List Nat} (hd : ∀ b ∈ L, b ∉ L2) (h : ∀ b ∈ L, b ∉ M) : ∀ b ∈ L, b ∉ L2 ++ M := fun b hb hm => by
  rcases List.mem_append.1 hm with hm | hm
  · exact hd b hb hm
  · exact h b hb hm
theorem nb_none {b : Nat} : b ∉ blks none := fun h => by cases h
theorem sub_frnb {w0 : World} {hd : Option Nat} (h : ∀ b ∈ blks hd, b < w0.heap.size) : ∀ b o, Fr w0 b o → b ∉ blks hd := fun b _ hb hm => by have := h b hm; have := hb.1; omega
theorem rdf_set {W : World} {X : BSet} : ∀ (ds : List D) (cs : List Value) (i : Nat) (d : D) (c : List Value), RdF W X ds cs → (hi : i < ds.length) → RdC W X d c → width d = width ds[i] →
    RdF W X (ds.set i d) (cs.take (widths (ds.take i)) ++ c ++ cs.drop (widths (ds.take i) + c.length)) ∧ widths (ds.take i) + c.length ≤ cs.length
  | [], _, i, _, _, _, hi, _, _ => by simp at hi
  | x :: ds, cs, 0, d, c, h, _, hc, hw => by
    simp only [RdF] at h
    obtain ⟨c1, c2, rfl, h1, h2⟩ := h
    have e1 := rdc_width x c1 h1
    have e2 := rdc_width d c hc
    have e3 : c.length = c1.length := by rw [e1, e2]; simpa using hw
    simp only [List.take_zero, widths, List.set_cons_zero, RdF, Nat.zero_add, List.nil_append]
    refine ⟨⟨c, c2, ?_, hc, h2⟩, by simp; omega⟩
    rw [e3, List.drop_left]
  | x :: ds, cs, i + 1, d, c, h, hi, hc, hw => by
    simp only [RdF] at h
    obtain ⟨c1, c2, rfl, h1, h2⟩ := h
    have e1 := rdc_width x c1 h1
    obtain ⟨r1, r2⟩ := rdf_set ds c2 i d c h2 (by simpa using hi) hc (by simpa using hw)
    simp only [List.take_succ_cons, widths, List.set_cons_succ, RdF]
    refine ⟨⟨c1, _, ?_, h1, r1⟩, by simp; omega⟩
    rw [← e1, List.take_length_add_append, show c1.length + widths (ds.take i) + c.length = c1.length + (widths (ds.take i) + c.length) by omega, List.drop_length_add_append]
    simp
def plOf : Nat → List D → List (Nat × Nat)
  | _, [] => []
  | off, x :: xs => (off, width x) :: plOf (off + width x) xs
theorem plOf_get : ∀ (ds : List D) (off i : Nat) (hi : i < ds.length), (plOf off ds)[i]? = some (off + widths (ds.take i), width ds[i])
  | [], _, i, hi => by simp at hi
  | x :: ds, off, 0, _ => by simp [plOf, widths]
  | x :: ds, off, i + 1, hi => by
    simp only [plOf, List.getElem?_cons_succ, List.take_succ_cons, widths, List.getElem_cons_succ]
    rw [plOf_get ds _ i (by simpa using hi)]
    simp; omega
theorem plOf_set : ∀ (ds : List D) (off i : Nat) (d : D) (hi : i < ds.length), width d = width ds[i] → plOf off (ds.set i d) = plOf off ds
  | [], _, i, _, hi, _ => by simp at hi
  | x :: ds, off, 0, d, _, h => by
    have h : width d = width x := by simpa using h
    simp [plOf, h]
  | x :: ds, off, i + 1, d, hi, h => by simp [plOf, plOf_set ds _ i d (by simpa using hi) (by simpa using h)]
def over : List D → List (Nat × D) → List D
  | ds, [] => ds
  | ds, (i, d) :: es => over (ds.set i d) es
def fits : List D → List (Nat × D) → Prop
  | _, [] => True
  | ds, (i, d) :: es => (∃ h : i < ds.length, width d = width ds[i]) ∧ fits (ds.set i d) es
def Pairs (W : World) (X : BSet) : List (Nat × D) → List (Nat × Value) → Prop
  | [], [] => True
  | (i, d) :: es, (j, v) :: vs => j = i ∧ Rd W X d v ∧ Pairs W X es vs
  | _, _ => False
theorem fill_struct {W : World} {X : BSet} : ∀ (es : List (Nat × D)) (vs : List (Nat × Value)) (ds : List D) (cells : List Value), RdF W X ds cells → fits ds es → Pairs W X es vs →
    ∃ cs, Instr.fill (fun i => (plOf 0 ds).toArray[i]?) cells.toArray vs = some cs.toArray ∧ RdF W X (over ds es) cs
  | [], [], ds, cells, h, _, _ => ⟨cells, rfl, h⟩
  | [], _ :: _, _, _, _, _, h => h.elim
  | _ :: _, [], _, _, _, _, h => h.elim
  | (i, d) :: es, (j, v) :: vs, ds, cells, h, ⟨⟨hi, hw⟩, hf⟩, ⟨hji, hv, hp⟩ => by
    subst hji
    obtain ⟨c, hc, rfl⟩ := hv
    have hcells : (asm d c).cells = c.toArray := cells_asm hc
    obtain ⟨r1, r2⟩ := rdf_set ds cells j d c h hi hc hw
    obtain ⟨cs, q1, q2⟩ := fill_struct es vs (ds.set j d) _ r1 hf hp
    refine ⟨cs, ?_, q2⟩
    rw [plOf_set ds 0 j d hi hw] at q1
    rw [← q1]
    have hpl : (plOf 0 ds).toArray[j]? = some (widths (ds.take j), width ds[j]) := by simpa using plOf_get ds 0 j hi
    have hcl := rdc_width d c hc
    have hfold := fold_arr c.toArray cells.toArray (widths (ds.take j)) (by simpa using r2)
    simp only [Instr.fill, hpl, hcells]
    rw [if_neg (by simp; omega)]
    congr 1
theorem zV (W : World) (X : BSet) : RdF W X [.int .u8 0, .int .i64 0, .str ⟨#[]⟩, strsD [], valsD []] [.int .u8 0, .int .i64 0, .string ⟨#[]⟩, .slice none 0 0, .slice none 0 0] := by
  refine ⟨[_], _, rfl, rfl, [_], _, rfl, rfl, [_], _, rfl, ⟨rfl, by decide⟩, [_], _, rfl, ?_, [_], _, rfl, ?_, rfl⟩
  · simp only [strsD, RdC]; exact ⟨none, 0, rfl, by simp, by simp, .inl (by simp)⟩
  · simp only [valsD, RdC]; exact ⟨none, 0, rfl, by simp, by simp, .inl (by simp)⟩
section
variable {P : Program} {ops : Array Oper} {S : Nat → Prop} {w0 : World} {a0 : Act} {Γ : Ctx}
variable {d : Option Tmp} {ty : TypeId} {pos : String} {af : Array Edge} {gd : Option (Nat × Bool)}
theorem Has.int {x : Operand} {k : IntKind} {n : Int} {X : BSet} (h : Has S w0 a0 Γ x (Is (.int k n))) : Has S w0 a0 Γ x (IsD X (.int k n)) := h.imp fun _ _ _ _ _ hu => ⟨[.int k n], rfl, hu⟩
def PartsF (S : Nat → Prop) (w0 : World) (a0 : Act) (Γ : Ctx) (X : BSet) : List (Nat × Operand) → List (Nat × D) → Prop
  | [], [] => True
  | (i, x) :: ps, (j, d) :: es => i = j ∧ Has S w0 a0 Γ x (IsD X d) ∧ PartsF S w0 a0 Γ X ps es
  | _, _ => False
theorem PartsF.out {o : Oper} {a : Act} {g : Gh} {W : World} {X : BSet} (hk : Keeps S w0 W) (hg : GOk w0 W g) (he : Env Γ a0 a g W (o.looksAt ops)) : ∀ (ps : List (Nat × Operand)) (es : List (Nat × D)), PartsF S w0 a0 Γ X ps es → (∀ p ∈ ps, p.2 ∈ o.op.operands) →
    Pairs W (fun b o => X b o ∧ Out g b) es (ps.map (fun p => (p.1, a.eval p.2)))
  | [], [], _, _ => trivial
  | [], _ :: _, h, _ => h.elim
  | _ :: _, [], h, _ => h.elim
  | (i, x) :: ps, (j, d) :: es, ⟨h1, h2, h3⟩, hm => ⟨h1, h2.of_env hk hg he (hm (i, x) List.mem_cons_self), PartsF.out hk hg he ps es h3 fun p hp => hm p (List.mem_cons_of_mem _ hp)⟩
theorem sp_buildD {T : TypeId} {parts : Array (Nat × Operand)} {es : List (Nat × D)} {zd : List D} {r : D} {fs : Array Field} {zs : Array Value} {X : BSet} (hT : P.underlying T = some (.struct fs)) (hz : zeroOf P T = some (.agg zs)) {pls : List (Nat × Nat)} (hpl : (fs.toList.all fun f => (szOf P f.type).isSome) = true ∧ placesOf P fs.toList = pls)
    (hp : PartsF S w0 a0 Γ X parts.toList es) (hzd : ∀ W X, RdF W X zd zs.toList) (hpz : pls = plOf 0 zd) (hf : fits zd es) (hr : .agg (over zd es) = r) :
    Spec P ops S w0 a0 Γ ⟨d, .build T parts, ty, pos, af, gd⟩ (IsD X r) := fun a g W hk hg he => by
  have hm := hp.out hk hg he _ _ (fun p hp => by simp [Op.operands]; exact ⟨p.1, by simpa using hp⟩)
  obtain ⟨hok, rfl⟩ := hpl
  obtain ⟨cs, q1, q2⟩ := fill_struct es _ zd zs.toList (hzd W _) hf hm
  rw [← hpz] at q1
  have hr' := run_build (P := P) (vs := (parts.toList.map fun p => (p.1, a.eval p.2)).toArray) (zs := zs) (cells := cs.toArray) hT hz hok (by simpa using q1) W
  have e' : (parts.map fun x => (x.1, a.eval x.2)) = (parts.toList.map fun p => (p.1, a.eval p.2)).toArray := by apply Array.ext'; simp
  have hrun : (execOp a.eval ⟨d, .build T parts, ty, pos, af, gd⟩).run P W = .ok (.value (.agg cs.toArray)) W := by
    simp only [execOp, Sem.run_bind]
    rw [show (parts.map fun x => match x with | (i, x) => (i, a.eval x)) = (parts.toList.map fun p => (p.1, a.eval p.2)).toArray from e', hr']
    rfl
  unfold OpRuns
  rw [hrun]
  subst hr
  exact ⟨.refl _ _, cs, by simp only [RdC]; exact q2, rfl⟩
def IsHole (f : Value → Value) (φ : Fact) : Fact := fun g u W => ∃ ad n c, u = f (.slice ad n c) ∧ φ g (.slice ad n c) W
theorem st_hole {f : Value → Value} {φ : Fact} (h : Stable S φ) : Stable S (IsHole f φ) :=
  ⟨fun _ _ _ _ k ⟨a, n, c, e, hu⟩ => ⟨a, n, c, e, h.world _ _ _ _ k hu⟩, fun _ _ _ _ _ hb ⟨a, n, c, e, hu⟩ => ⟨a, n, c, e, h.ghost _ _ _ _ _ hb hu⟩⟩
def PartsH (S : Nat → Prop) (w0 : World) (a0 : Act) (Γ : Ctx) (y : Operand) : List (Nat × Operand) → List (Nat × Option Value) → Prop
  | [], [] => True
  | (i, x) :: ps, (j, some v) :: vs => i = j ∧ Has S w0 a0 Γ x (Is v) ∧ PartsH S w0 a0 Γ y ps vs
  | (i, x) :: ps, (j, none) :: vs => i = j ∧ x = y ∧ PartsH S w0 a0 Γ y ps vs
  | _, _ => False
theorem PartsH.vals {o : Oper} {y : Operand} {a : Act} {g : Gh} {W : World} (hk : Keeps S w0 W) (hg : GOk w0 W g) (he : Env Γ a0 a g W (o.looksAt ops)) : ∀ (ps : List (Nat × Operand)) (vs : List (Nat × Option Value)), PartsH S w0 a0 Γ y ps vs → (∀ p ∈ ps, p.2 ∈ o.op.operands) →
    ps.map (fun p => (p.1, a.eval p.2)) = vs.map (fun p => (p.1, p.2.getD (a.eval y)))
  | [], [], _, _ => rfl
  | [], _ :: _, h, _ => h.elim
  | _ :: _, [], h, _ => h.elim
  | (i, x) :: ps, (j, some v) :: vs, ⟨h1, h2, h3⟩, hm => by
    have e : a.eval x = v := h2.of_env hk hg he (hm (i, x) List.mem_cons_self)
    simp [h1, e, PartsH.vals hk hg he ps vs h3 fun p hp => hm p (List.mem_cons_of_mem _ hp)]
  | (i, x) :: ps, (j, none) :: vs, ⟨h1, h2, h3⟩, hm => by
    subst h2
    simp [h1, PartsH.vals hk hg he ps vs h3 fun p hp => hm p (List.mem_cons_of_mem _ hp)]
theorem sp_build1 {T : TypeId} {parts : Array (Nat × Operand)} {vs : List (Nat × Option Value)} {y : Operand} {φ : Fact} {fs : Array Field} {zs : Array Value} {cells : Value → Array Value} (hT : P.underlying T = some (.struct fs)) (hz : zeroOf P T = some (.agg zs)) {pls : List (Nat × Nat)} (hpl : (fs.toList.all fun f => (szOf P f.type).isSome) = true ∧ placesOf P fs.toList = pls)
    (hy : Has S w0 a0 Γ y φ) (hym : ∀ a : Act, y ∈ (Oper.op ⟨d, .build T parts, ty, pos, af, gd⟩).operands) (hsl : ∀ g u W, φ g u W → ∃ ad n c, u = .slice ad n c) (hp : PartsH S w0 a0 Γ y parts.toList vs)
    (hf : ∀ ad n c, Instr.fill (fun i => pls.toArray[i]?) zs (vs.map fun p => (p.1, p.2.getD (.slice ad n c))) = some (cells (.slice ad n c))) :
    Spec P ops S w0 a0 Γ ⟨d, .build T parts, ty, pos, af, gd⟩ (IsHole (fun v => .agg (cells v)) φ) := fun a g W hk hg he => by
  have hyv := hy.of_env hk hg he (hym a)
  obtain ⟨ad, n, c, ey⟩ := hsl _ _ _ hyv
  have hm := hp.vals hk hg he _ _ (fun p hp => by simp [Op.operands]; exact ⟨p.1, by simpa using hp⟩)
  obtain ⟨hok, rfl⟩ := hpl
  rw [ey] at hm hyv
  have hr' := run_build (P := P) (vs := (parts.toList.map fun p => (p.1, a.eval p.2)).toArray) (zs := zs) (cells := cells (.slice ad n c)) hT hz hok (by rw [hm]; simpa using hf ad n c) W
  have e' : (parts.map fun x => (x.1, a.eval x.2)) = (parts.toList.map fun p => (p.1, a.eval p.2)).toArray := by apply Array.ext'; simp
  have hrun : (execOp a.eval ⟨d, .build T parts, ty, pos, af, gd⟩).run P W = .ok (.value (.agg (cells (.slice ad n c)))) W := by
    simp only [execOp, Sem.run_bind]
    rw [show (parts.map fun x => match x with | (i, x) => (i, a.eval x)) = (parts.toList.map fun p => (p.1, a.eval p.2)).toArray from e', hr']
    rfl
  unfold OpRuns
  rw [hrun]
  exact ⟨.refl _ _, ad, n, c, rfl, hyv⟩
theorem sl_strs {X : BSet} {ns : List ByteArray} : ∀ g u W, IsD X (strsD ns) g u W → ∃ ad n c, u = .slice ad n c := fun _ _ _ h => by obtain ⟨ad, c, e, _⟩ := rdS_out h; exact ⟨ad, _, c, e⟩
end
end Go.Eng
namespace Go.Eng
theorem u64_in {n : Int} (h : 0 ≤ n ∧ n ≤ 18446744073709551615) : IntKind.u64.wrap n = n := by simp [IntKind.wrap, IntKind.bits, IntKind.signed]; omega
section
variable {P : Program} {ops : Array Oper} {S : Nat → Prop} {w0 : World} {a0 : Act} {Γ : Ctx}
variable {d : Option Tmp} {ty : TypeId} {pos : String} {af : Array Edge} {gd : Option (Nat × Bool)}
theorem sp_conv {x : Operand} {A B : TypeId} {k k' k2 : IntKind} {m m' : Int} (hA : P.underlying A = some (.int k2)) (hB : P.underlying B = some (.int k')) (hx : Has S w0 a0 Γ x (Is (.int k m))) (hm : k'.wrap m = m') :
    Spec P ops S w0 a0 Γ ⟨d, .convert A B x, ty, pos, af, gd⟩ (Is (.int k' m')) := sp_val fun a g W hk hg he => by
  have e1 : a.eval x = .int k m := hx.of_env hk hg he (by simp [Op.operands])
  simp [execOp, convert, run_und hA, run_und hB, e1, Conv.intToInt, hm]
theorem sp_shr1 {x : Operand} {T T' : TypeId} {k k2 : IntKind} {m : Int} (hx : Has S w0 a0 Γ x (Is (.int k m))) :
    Spec P ops S w0 a0 Γ ⟨d, .binOp .shr T x (.const (.int k2 1)) T', ty, pos, af, gd⟩ (Is (.int k (m / 2))) := sp_val fun a g W hk hg he => by
  have e1 : a.eval x = .int k m := hx.of_env hk hg he (by simp [Op.operands])
  have e2 : a.eval (.const (.int k2 1)) = .int k2 1 := rfl
  have hb : min (1 : Int).toNat k.bits = 1 := by cases k <;> rfl
  have := shift_shr_any k k2 m 1 (by omega)
  rw [hb] at this
  simp [execOp, e1, e2, binOp, eqGuard, this]
theorem sp_mkF0 {f : FuncId} {caps : Array Operand} {vs : Array Value} (h : ∀ a g W, Keeps S w0 W → GOk w0 W g → Env Γ a0 a g W (Oper.looksAt ops ⟨d, .makeFunc (.func f) #[] caps, ty, pos, af, gd⟩) → caps.map a.eval = vs) :
    Spec P ops S w0 a0 Γ ⟨d, .makeFunc (.func f) #[] caps, ty, pos, af, gd⟩ (Is (.func (.func f) #[] vs)) := sp_val fun a g W hk hg he => by
  have := h a g W hk hg he
  simp [execOp, Instr.makeFunc, this]
theorem sp_mkF2 {f : FuncId} {x y : Operand} {u v : Value} (hx : Has S w0 a0 Γ x (Is u)) (hy : Has S w0 a0 Γ y (Is v)) :
    Spec P ops S w0 a0 Γ ⟨d, .makeFunc (.func f) #[] #[x, y], ty, pos, af, gd⟩ (Is (.func (.func f) #[] #[u, v])) := sp_mkF0 fun a g W hk hg he => by
  have e1 : a.eval x = u := hx.of_env hk hg he (by simp [Op.operands])
  have e2 : a.eval y = v := hy.of_env hk hg he (by simp [Op.operands])
  simp [e1, e2]
theorem sp_callF1 {q x : Operand} {f : FuncId} {cb : Array Value} {u : Value} {ts : Array TypeId} {φ : Fact} (hf : Enters P f) (hq : Has S w0 a0 Γ q (Is (.func (.func f) #[] cb))) (hx : Has S w0 a0 Γ x (Is u))
    (hc : ∀ g W, Keeps S w0 W → GOk w0 W g → Calls P f (#[u] ++ cb) W (Ret W (φ g))) :
    Spec P ops S w0 a0 Γ ⟨d, .call ⟨.value q, #[x], ts⟩, ty, pos, af, gd⟩ φ := fun a g W hk hg he => by
  have e1 : a.eval q = .func (.func f) #[] cb := hq.of_env hk hg he (by simp [Op.operands, Call.operands])
  have e2 : a.eval x = u := hx.of_env hk hg he (by simp [Op.operands, Call.operands])
  have hrun : (execOp a.eval ⟨d, .call ⟨.value q, #[x], ts⟩, ty, pos, af, gd⟩).run P W = .ok (.enter f (#[u] ++ cb)) W := by
    have hf' : ∀ (args : Array Value) w, (callFunc f args).run P w = .ok (.enter f args) w := hf
    simp [execOp, resolve, e1, e2, Deferred.ofValue, invoke, hf']
  unfold OpRuns
  rw [hrun]
  exact (hc g W hk hg).mono fun e W' ⟨v, h1, h2, h3⟩ => ⟨v, h1, h2, h3⟩
def lit (n : Nat) : Nat := n
end
theorem rd_ar_sf {S0 S1 : Nat → Prop} {w w0 W W' : World} {M : List Nat} {g : Gh} {d : D} {u : Value} (kw : Keeps S0 w w0) (hM : ∀ b ∈ M, b < w0.heap.size) (hk : Keeps S1 w0 W) (hg : GOk w0 W g) (h : Rd W' (Ar W (fun b o => SF w M b o ∧ Out g b)) d u) : IsD (SF w M) d g u W' :=
  h.mono fun b o hb _ => by
    by_cases hlt : b < W.heap.size
    · exact hb.1 hlt
    · have h1 := kw.size
      have h2 := hk.size
      exact ⟨⟨by omega, hb.2 (by omega), fun hm => by have := hM b hm; omega⟩, fun t ht => by have := hg.hi t b ht; omega⟩
section
variable {P : Program} {ops : Array Oper} {S : Nat → Prop} {w0 : World} {a0 : Act} {Γ : Ctx}
variable {d : Option Tmp} {ty : TypeId} {pos : String} {af : Array Edge} {gd : Option (Nat × Bool)}
variable {K : List Oper → Ctx → (World → Prop) → List Bool → Prop} {l : List Oper} {Ψ Ψ' : World → Prop} {ms : List Bool} {fl : Bool}
theorem sp_bslA {T E : TypeId} {lo : Nat} {X : BSet} (hT : P.underlying T = some (.slice E)) {sz : Nat} (hz : szOf P E = some sz) (hlo : lo ≤ w0.heap.size) : Spec P ops S w0 a0 Γ ⟨d, .buildSlice T 0 #[], ty, pos, af, gd⟩ (IsArr w0 lo E sz X [] none) := fun a g W hk hg he => by
  have hrun : (execOp a.eval ⟨d, .buildSlice T 0 #[], ty, pos, af, gd⟩).run P W = .ok (.value (.slice (some ⟨W.heap.size, 0, none⟩) 0 0)) (W.alloc (.cells #[] E)) := by
    simp [execOp, Instr.buildSlice, run_und hT, run_szOf hz, Instr.fill, newRow, newObj, Sem.run]
    congr 2; apply Array.ext'; simp
  unfold OpRuns
  rw [hrun]
  refine ⟨ext_alloc _ _, some W.heap.size, ⟨rfl, [], ⟨by simp, .inr ⟨W.heap.size, 0, #[], rfl, Nat.le_trans hlo hk.size, own_alloc W [] E, by simp, by simp, by simp, by simp⟩⟩, rfl⟩, fun b hb => .inr ?_⟩
  simp [blks] at hb; subst hb; exact hk.size
theorem run_app0 {W : World} {lo : Nat} {t e : TypeId} {sz bytes n : Nat} {v : Value} {xs : List Value} (ht : P.underlying t = some (.slice e)) (hinf : inf P e sz bytes) (hown : W.ownsRow lo e sz v n xs) (ad : Option Addr) (c : Nat) :
    (Builtin.append_ #[t, t] ty #[v, .slice ad 0 c]).run P W = .ok v W := by
  obtain ⟨i, z, hi, hz, hs1, hs2, hzs⟩ := hinf
  rcases hown.2 with ⟨rfl, rfl⟩ | ⟨g, cap, cur, rfl, hbg, hg, hnc, hcm, hcs, htake⟩
  · cases ad <;> simp [Builtin.append_, run_und ht, sizeOf, typeInfo, hi, Builtin.lenOf, Builtin.firstCells, storeCells, loadCells, loadCellsFrom]
  · cases ad <;> simp [Builtin.append_, run_und ht, sizeOf, typeInfo, hi, Builtin.lenOf, Builtin.firstCells, storeCells, loadCells, loadCellsFrom, hnc]
theorem Chain.appB {x y : Operand} {T E : TypeId} {lo sz bytes : Nat} {ds es : List D} {X : BSet} {hd : Option Nat} {v : Value} (hT : P.underlying T = some (.slice E)) (hi : inf P E sz bytes) (hsz : 0 < sz)
    (hx : Has (fun k => k ∉ blks hd) w0 a0 Γ x (Is v)) (hy : Has (fun k => k ∉ blks hd) w0 a0 Γ y (IsD X (.lst sz es))) (hX : ∀ b o, X b o → b ∉ blks hd)
    (h63 : ds.length + es.length ≤ maxLen) (hb : (ds.length + es.length) * bytes ≤ 140737488355328) (hlo : lo ≤ w0.heap.size)
    (h : Chain P ops (fun k => k ∉ blks hd) w0 a0 K true l ((d, IsArr w0 lo E sz X (ds ++ es) hd) :: Γ) Tr (true :: ms)) :
    Chain P ops (fun k => k ∉ blks hd) w0 a0 K false (⟨d, .call ⟨.builtin .append, #[x, y], #[T, T]⟩, ty, pos, af, none⟩ :: l) Γ (fun W => Arr W lo E sz X ds v hd) ms := by
  refine .last _ Tr st_arr st_tr (fun a g W hk hg he hψ => ?_) h
  have hxe : a.eval x = v := hx.of_env hk hg he (by simp [Op.operands, Call.operands])
  have hyd := hy.of_env hk hg he (by simp [Op.operands, Call.operands])
  have hw : Region.wanted (⟨d, .call ⟨.builtin .append, #[x, y], #[T, T]⟩, ty, pos, af, none⟩ : Oper) (yielded ops a.tmps) = true := rfl
  unfold ObRun; rw [if_pos hw]
  unfold OpRuns
  obtain ⟨hv, cs, hown, hrow⟩ := hψ
  have hzero : ∀ ad c, a.eval y = .slice ad 0 c → es = [] → match (execOp a.eval ⟨d, .call ⟨.builtin .append, #[x, y], #[T, T]⟩, ty, pos, af, none⟩).run P W with
      | .ok (.value v) W' => Keeps (fun k => k ∉ blks hd) W W' ∧ IsArr w0 lo E sz X (ds ++ es) hd g v W' ∧ Tr W'
      | .ok .skip W' => Keeps (fun k => k ∉ blks hd) W W' ∧ IsArr w0 lo E sz X (ds ++ es) hd g undef W' ∧ Tr W'
      | .ok (.enter f args) W' => Calls P f args W' fun e W'' => ∃ v, e = .returned v ∧ Keeps (fun k => k ∉ blks hd) W W'' ∧ IsArr w0 lo E sz X (ds ++ es) hd g v W'' ∧ Tr W''
      | _ => False := fun ad c ey he0 => by
    have hop : (execOp a.eval ⟨d, .call ⟨.builtin .append, #[x, y], #[T, T]⟩, ty, pos, af, none⟩).run P W = .ok (.value v) W := by
      simp [execOp, resolve, invoke, builtin, hxe, ey, run_app0 (ty := ty) hT hi hown ad c]
    rw [hop]
    subst he0
    refine ⟨.refl _ _, ⟨hd, ⟨hv, cs, by simpa using hown, ?_⟩, fun b hb => .inl hb⟩, trivial⟩
    rw [List.append_nil]
    exact hrow.move (Nat.le_refl _) fun b hb _ => ⟨rfl, hb, hX b _ hb⟩
  rcases rd_row hyd with ⟨h0, ad, cap, ey⟩ | ⟨b, o, cap, cs2, ey, hbx, hlt, hc, hr⟩
  · exact hzero ad cap ey h0
  by_cases hne : 0 < es.length
  · obtain ⟨v', W', hrun, hown', hk', hfr⟩ := run_app (P := P) (ty := ty) (c := cap) hT hi hsz hown hr.length (cells_addr hc) (fun u hu => by rw [oneC_eq]; exact hr.one u hu) h63 hb (Nat.le_trans hlo hk.size) hne
    have hop : (execOp a.eval ⟨d, .call ⟨.builtin .append, #[x, y], #[T, T]⟩, ty, pos, af, none⟩).run P W = .ok (.value v') W' := by
      simp [execOp, resolve, invoke, builtin, hxe, ey, hrun]
    rw [hop]
    rw [hv] at hk' hfr
    have hnb : ∀ b o, X b o → b < W.heap.size → b ∉ blks v'.ownBlock := fun b o hb hlt hm => (hfr b hm).elim (hX b o hb) (by omega)
    refine ⟨hk', ⟨v'.ownBlock, ⟨rfl, cs ++ cs2, by rw [List.length_append]; exact hown', RowIs.append ?_ ?_⟩, fun b hb => (hfr b hb).imp id fun h => Nat.le_trans hk.size h⟩, trivial⟩
    · exact hrow.move hk'.size fun b hb hlt => ⟨hk'.block b hlt (hX b _ hb), by rw [hk'.block b hlt (hX b _ hb)]; exact hb, hnb b _ hb hlt⟩
    · exact hr.move hk'.size fun b hb hlt => ⟨hk'.block b hlt (hX b _ hb.1), by rw [hk'.block b hlt (hX b _ hb.1)]; exact hb.1, hnb b _ hb.1 hlt⟩
  · have h0 : es = [] := List.length_eq_zero_iff.1 (by omega)
    subst h0
    exact hzero _ cap ey rfl
theorem row_new {W : World} {hd : Option Nat} (h : ∀ b ∈ blks hd, b ∈ blks none ∨ W.heap.size ≤ b) : ∀ b ∈ blks hd, W.heap.size ≤ b := fun b hb => (h b hb).resolve_left (by simp [blks])
end
end Go.Eng
namespace Go.Eng
theorem lbr {a b : Nat} (h : a.ble b = true) : a ≤ b := Nat.le_of_ble_eq_true h
theorem Keeps.x {S : Nat → Prop} {a b c : World} (h : Keeps S a b) (k : Ext b c) : Keeps S a c := h.trans (.of_ext k)
theorem Is.q {v u : Value} {g : Gh} {W : World} (h : Is v g u W) : u = v := h
section
variable {P : Program} {ops : Array Oper} {S : Nat → Prop} {w0 : World} {a0 : Act} {Γ : Ctx} {K : List Oper → Ctx → (World → Prop) → List Bool → Prop} {l : List Oper} {Ψ : World → Prop} {ms : List Bool} {fl : Bool}
  {d : Option Tmp} {ty : TypeId} {pos : String} {af : Array Edge} {gd : Option (Nat × Bool)}
theorem hlc {t : Nat} {φ : Fact} (h : look Γ t = some φ) : Has S w0 a0 Γ (.tmp t) φ := .loc h
theorem hbs {t : Nat} {v : Value} (h : look Γ t = none) (hv : sl a0 t = v) : Has S w0 a0 Γ (.tmp t) (Is v) := .base h hv
theorem Chain.i {op : Op} {v : Value} (hs : Spec P ops S w0 a0 Γ ⟨d, op, ty, pos, af, none⟩ (Is v))
    (h : Chain P ops S w0 a0 K fl l ((d, Is v) :: Γ) Ψ (false :: ms)) : Chain P ops S w0 a0 K fl (⟨d, op, ty, pos, af, none⟩ :: l) Γ Ψ ms := Chain.op (st_is v) hs h
theorem Chain.da {op : Op} {X : BSet} {e : D} (hs : Spec P ops All w0 a0 Γ ⟨d, op, ty, pos, af, none⟩ (IsD X e))
    (h : Chain P ops All w0 a0 K fl l ((d, IsD X e) :: Γ) Ψ (false :: ms)) : Chain P ops All w0 a0 K fl (⟨d, op, ty, pos, af, none⟩ :: l) Γ Ψ ms := Chain.op (st_d sub_all) hs h
theorem Chain.rf {op : Op} {X : BSet} {e : D} (hs : Spec P ops All w0 a0 Γ ⟨d, op, ty, pos, af, none⟩ (IsR X e))
    (h : Chain P ops All w0 a0 K fl l ((d, IsR X e) :: Γ) Ψ (false :: ms)) : Chain P ops All w0 a0 K fl (⟨d, op, ty, pos, af, none⟩ :: l) Γ Ψ ms := Chain.op (st_r sub_all) hs h
theorem Chain.e {op : Op} {gi t : Nat} {want x : Bool} {v : Value} (ht : (ops[gi]?).bind (·.dst) = some t) (hb : Has S w0 a0 Γ (.tmp t) (Is (.bool x)))
    (hs : x = want → Spec P ops S w0 a0 Γ ⟨d, op, ty, pos, af, some (gi, want)⟩ (Is v))
    (h : Chain P ops S w0 a0 K fl l ((d, UnderE (x = want) (Is v)) :: Γ) Ψ (false :: ms)) : Chain P ops S w0 a0 K fl (⟨d, op, ty, pos, af, some (gi, want)⟩ :: l) Γ Ψ ms := Chain.opE ht hb (st_is v) hs h
theorem fo {x : Operand} {T : TypeId} {b o f n : Nat} {fs : Array Field} {fd : Field} (o' : Nat) (hx : Has S w0 a0 Γ x (Is (.pointer (some ⟨b, o, none⟩)))) (hT : P.underlying T = some (.struct fs)) (hf : fs[f]? = some fd) (hz : szOf P fd.type = some (n + 1)) (ho : o + fd.offset = o') :
    Spec P ops S w0 a0 Γ ⟨d, .fieldAddr T x f, ty, pos, af, gd⟩ (Is (.pointer (some ⟨b, o', none⟩))) := sp_fieldO hx hT hf hz ho
theorem lo1 {x : Operand} {T T' : TypeId} {b o : Nat} {cs : List Value} {v : Value} (hx : Has S w0 a0 Γ x (Is (.pointer (some ⟨b, o, none⟩)))) (ho : Own w0 b cs T') (hS : S b) (hT : aggB P T = some false) (hz : szOf P T = some 1)
    (hv : cs[o]? = some v) : Spec P ops S w0 a0 Γ ⟨d, .load T x, ty, pos, af, gd⟩ (Is v) := by
  obtain ⟨hlt, hv⟩ := List.getElem?_eq_some_iff.1 hv
  refine sp_loadO hx ho hS hT hz (by omega) (fun _ => rfl) ?_
  rw [List.drop_eq_getElem_cons hlt, hv]; rfl
theorem loA {x : Operand} {T T' : TypeId} {b o n : Nat} {cs : List Value} {v : Value} (hx : Has S w0 a0 Γ x (Is (.pointer (some ⟨b, o, none⟩)))) (ho : Own w0 b cs T') (hS : S b) (hT : aggB P T = some true) (hz : szOf P T = some n)
    (hn : (o + n).ble cs.length = true) (hv : .agg ((cs.drop o).take n).toArray = v) : Spec P ops S w0 a0 Γ ⟨d, .load T x, ty, pos, af, gd⟩ (Is v) :=
  sp_loadO hx ho hS hT hz (Nat.le_of_ble_eq_true hn) (fun h => by cases h) hv
theorem rg {drawn : Bool} {id N : Nat} {Q : Exit → Act → World → Prop} (hm : P.follows .mixedOrders = true) (hN : a0.tmps.size = N) (hd : a0.defers = [])
    (h : Chain P ops All w0 a0 (Fin P ops Q All w0 a0 drawn N) false ops.toList [] Tr []) : (Code.region id ops drawn).wp P Q a0 w0 := wp_reg All hm hN hd st_tr trivial h
theorem Chain.dn {drawn : Bool} {N : Nat} {Q : Exit → Act → World → Prop} (go : ∀ a g W, a.tmps.size = N → a.defers = [] → Keeps S w0 W → GOk w0 W g → EnvAll a g W Γ → (∀ t, notIn Γ t = true → sl a t = sl a0 t) → Ψ W → runTail P ops Q l a W)
    (ok : chk drawn (Region.before ops) N ops ms.reverse ms.length = true := by kernel_rfl) : Chain P ops S w0 a0 (Fin P ops Q S w0 a0 drawn N) fl l Γ Ψ ms := .done ⟨ok, go⟩
theorem Chain.mb {t : Nat} {v : Value} (hl : look Γ t = none) (hv : sl a0 t = v) (h : Chain P ops S w0 a0 K fl l ((d, Is v) :: Γ) Ψ (false :: ms)) : Chain P ops S w0 a0 K fl (⟨d, .move (.tmp t), ty, pos, af, none⟩ :: l) Γ Ψ ms := Chain.i (sp_move (.base hl hv)) h
theorem Chain.al {t : Nat} {v : Value} (hl : look Γ t = some (Is v)) (h : Chain P ops S w0 a0 K fl l ((d, Is v) :: Γ) Ψ (false :: ms)) : Chain P ops S w0 a0 K fl (⟨d, .assign (.tmp t), ty, pos, af, none⟩ :: l) Γ Ψ ms := Chain.i (sp_assign (.loc hl)) h
theorem Chain.ac {v : Value} (h : Chain P ops S w0 a0 K fl l ((d, Is v) :: Γ) Ψ (false :: ms)) : Chain P ops S w0 a0 K fl (⟨d, .assign (.const v), ty, pos, af, none⟩ :: l) Γ Ψ ms := Chain.i (sp_assign Has.cst) h
theorem Chain.em {gi t u : Nat} {want x : Bool} {v : Value} (ht : (ops[gi]?).bind (·.dst) = some t) (hb : Has S w0 a0 Γ (.tmp t) (Is (.bool x))) (hl : look Γ u = none) (hv : sl a0 u = v)
    (h : Chain P ops S w0 a0 K fl l ((d, UnderE (x = want) (Is v)) :: Γ) Ψ (false :: ms)) : Chain P ops S w0 a0 K fl (⟨d, .move (.tmp u), ty, pos, af, some (gi, want)⟩ :: l) Γ Ψ ms := Chain.e ht hb (fun _ => sp_move (.base hl hv)) h
abbrev zq := @wp_seq_k
abbrev zc := @wp_cond_split
theorem zn {Q : Exit → Act → World → Prop} {a : Act} {W : World} (h : Q .normal a W) : runTail P ops Q [] a W := h
theorem ft {a : Act} {t : Nat} {v : Value} (hR : ∀ t, notIn Γ t = true → sl a t = sl a0 t) (e : sl a0 t = v) (h : notIn Γ t = true := by rfl) : sl a t = v := (hR t h).trans e
end
end Go.Eng
namespace Go.Proofs.Ytnobijngkpflcaa
open Go.Eng
set_option maxRecDepth 100000 in
theorem ascending_ok (ns : List ByteArray) (w : World) (S : BSet) (v : Value) (hv : Rd w S (strsD ns) v) : Calls Try.prog 164 #[v] w (Ret w fun u _ => u = .bool (asc ns)) := by
 have hn : ns.length ≤ maxLen := rd_lenS hv
 simp only [maxLen] at hn
 obtain ⟨va, vc, ev, D_v⟩ := rdS_out (rd_arg hv)
 subst ev
 refine enter Try.func164 rfl Try.ntmps164 (lbr rfl) fun a0 y0 zz0 harg => ?_
 have e0 : sl a0 0 = (.slice va (ns.length) vc) := harg 0 (lbr rfl)
 have kw := Keeps.refl All w
 clear harg
 refine zq fun K1 hK1 => ?_
 refine rg mixed y0 zz0 ?_
 refine .ac ?_
 refine .dn fun a2 g W2 y2 zz2 hk hg hV hR hP => ?_
 obtain ⟨-, -⟩ := hV
 replace e0 := ft hR e0
 replace D_v := D_v.ext hk
 replace kw := kw.x hk
 clear hR hk hg hP
 refine zn (hK1 _ _ ?_)
 refine zq fun K3 hK3 => ?_
 refine zq fun K4 hK4 => ?_
 refine rg mixed y2 zz2 ?_
 refine .ac ?_
 refine .dn fun a5 g W5 y5 zz5 hk hg hV hR hP => ?_
 obtain ⟨e3, -⟩ := hV
 replace e0 := ft hR e0
 replace D_v := D_v.ext hk
 replace e3 := e3.q
 replace kw := kw.x hk
 clear hR hk hg hP
 refine zn (hK4 _ _ ?_)
 refine wp_block ?_
 refine wp_for (ns.length) (fun k a W => a.tmps.size = 20 ∧ a.defers = [] ∧ Keeps All w W ∧ sl a 0 = (.slice va (ns.length) vc) ∧ sl a 3 = (.int .i64 (((k + 1 : Nat) : Int))) ∧ Rd W (SA w S []) (strsD (ns)) (.slice va (ns.length) vc) ∧ (∀ i (h : i + 1 < ns.length), i < k → sLt ns[i] ns[i + 1] = true)) ⟨y5, zz5, kw, e0, (e3.trans (congrArg (Value.int .i64) (rfl))), D_v, fun i h hi => absurd hi (by omega)⟩ ?_
 clear kw e0 e3 D_v
 rintro k a6 W6 hkk ⟨y6, zz6, kw, e0, e3, D_v, hinv⟩
 refine zq fun K7 hK7 => ?_
 refine zq fun K8 hK8 => ?_
 refine rg mixed y6 zz6 ?_
 refine .mb rfl e3 ?_
 refine .mb rfl e0 ?_
 refine .i (sp_lenSs Try.underlying23 ((hlc rfl).dat D_v sub_all)) ?_
 refine .i (sp_lss (hlc rfl) (hlc rfl)) ?_
 refine .dn fun a9 g W9 y9 zz9 hk hg hV hR hP => ?_
 obtain ⟨e7, -, -, -, -⟩ := hV
 replace e0 := ft hR e0
 replace e3 := ft hR e3
 replace D_v := D_v.ext hk
 replace e7 := e7.q
 replace kw := kw.x hk
 clear hR hk hg hP
 refine zn (hK8 _ _ ?_)
 refine zc e7 (fun hc => ?_) (fun hc => ?_)
 ·
  have hlt : k + 1 < ns.length := by have := of_decide_eq_true hc; omega
  refine wp_skip (hK7 _ _ ?_)
  refine zq fun K10 hK10 => ?_
  refine wp_block ?_
  refine zq fun K11 hK11 => ?_
  refine rg mixed y9 zz9 ?_
  refine .mb rfl e0 ?_
  refine .mb rfl e3 ?_
  refine .i (sp_sub (hlc rfl) Has.cst (i64_in (by omega))) ?_
  refine .rf (sp_indexS (i := k) ((hlc rfl).dat D_v sub_all) (hlc rfl) Try.underlying23 sz9 (by omega) (by omega)) ?_
  refine .i (sp_loadStr (hlc rfl) agg9 sz9) ?_
  refine .mb rfl e0 ?_
  refine .mb rfl e3 ?_
  refine .rf (sp_indexS (i := (k + 1)) ((hlc rfl).dat D_v sub_all) (hlc rfl) Try.underlying23 sz9 rfl hlt) ?_
  refine .i (sp_loadStr (hlc rfl) agg9 sz9) ?_
  refine .i (sp_sGeq (hlc rfl) (hlc rfl)) ?_
  refine .dn fun a12 g W12 y12 zz12 hk hg hV hR hP => ?_
  obtain ⟨e19, -, -, -, -, -, -, -, -, -, -⟩ := hV
  replace e0 := ft hR e0
  replace e3 := ft hR e3
  replace D_v := D_v.ext hk
  replace e19 := e19.q
  replace kw := kw.x hk
  clear hR hk hg hP
  refine zn (hK11 _ _ ?_)
  refine zc e19 (fun hc => ?_) (fun hc => ?_)
  ·
   have hfin : asc ns = false := asc_false hlt (by simpa using hc)
   refine zq fun K13 hK13 => ?_
   refine rg mixed y12 zz12 ?_
   refine .ac ?_
   refine .dn fun a14 g W14 y14 zz14 hk hg hV hR hP => ?_
   obtain ⟨e2, -⟩ := hV
   replace D_v := D_v.ext hk
   replace e2 := e2.q
   replace kw := kw.x hk
   clear hR hk hg hP
   refine zn (hK13 _ _ ?_)
   refine wp_ret ?_
   refine ret1 rfl zz14 e2 ⟨_, rfl, kw, ?_⟩
   rw [hfin]
  have hk1 : sLt ns[k] ns[k + 1] = true := by simpa using hc
  refine wp_skip (hK10 _ _ ?_)
  refine rg mixed y12 zz12 ?_
  refine .mb rfl e3 ?_
  refine .i (sp_add (hlc rfl) Has.cst (i64_in (by omega))) ?_
  refine .al rfl ?_
  refine .dn fun a15 g W15 y15 zz15 hk hg hV hR hP => ?_
  obtain ⟨e3, -, -, -⟩ := hV
  replace e0 := ft hR e0
  replace D_v := D_v.ext hk
  replace e3 := e3.q
  replace kw := kw.x hk
  clear hR hk hg hP
  exact tail_nil ⟨by omega, y15, zz15, kw, e0, (e3.trans (congrArg (Value.int .i64) (by omega))), D_v, fun i h hi => by rcases Nat.lt_succ_iff_lt_or_eq.1 hi with h1 | h1; exact hinv i h h1; subst h1; exact hk1⟩
 have hge : ¬ k + 1 < ns.length := by have := of_decide_eq_false hc; omega
 have hfin : asc ns = true := (asc_iff ns).2 fun i hi => hinv i hi (by omega)
 refine wp_exit (hK3 _ _ ?_)
 refine zq fun K16 hK16 => ?_
 refine rg mixed y9 zz9 ?_
 refine .ac ?_
 refine .dn fun a17 g W17 y17 zz17 hk hg hV hR hP => ?_
 obtain ⟨e2, -⟩ := hV
 replace D_v := D_v.ext hk
 replace e2 := e2.q
 replace kw := kw.x hk
 clear hR hk hg hP
 refine zn (hK16 _ _ ?_)
 refine wp_ret ?_
 refine ret1 rfl zz17 e2 ⟨_, rfl, kw, ?_⟩
 rw [hfin]
end Go.Proofs.Ytnobijngkpflcaa
