/-
  Data in memory: 'RdC W S d cs': in world W the cells cs read as the datum d, through blocks of S alone.
-/
import Derived.Test.YtnobijngkpflcaaEngA
namespace Go.Eng

/-- plain data -/
inductive D where
  | bool (b : Bool)
  | int (k : IntKind) (n : Int)
  | str (s : ByteArray)
  | lst (sz : Nat) (xs : List D)
  | agg (xs : List D)

/-- a set of blocks: number and content -/
abbrev BSet := Nat → Option Obj → Prop

def CellsAt (W : World) (b o : Nat) (cs : List Value) : Prop := ∀ i (h : i < cs.length), W.cell? ⟨b, o + i, none⟩ = some cs[i]

mutual
def RdC (W : World) (S : BSet) : D → List Value → Prop
  | .bool b, cs => cs = [.bool b]
  | .int k n, cs => cs = [.int k n]
  | .str s, cs => cs = [.string s] ∧ s.size ≤ maxLen
  | .lst sz xs, cs => ∃ a cap, cs = [.slice a xs.length cap] ∧ xs.length ≤ cap ∧ cap ≤ maxLen ∧
      (xs = [] ∨ ∃ b o, a = some ⟨b, o, none⟩ ∧ S b W.heap[b]? ∧ b < W.heap.size ∧ RdL W S b sz xs o)
  | .agg xs, cs => RdF W S xs cs
def RdF (W : World) (S : BSet) : List D → List Value → Prop
  | [], cs => cs = []
  | x :: xs, cs => ∃ c1 c2, cs = c1 ++ c2 ∧ RdC W S x c1 ∧ RdF W S xs c2
def RdL (W : World) (S : BSet) (b sz : Nat) : List D → Nat → Prop
  | [], _ => True
  | x :: xs, o => (∃ cs, cs.length = sz ∧ CellsAt W b o cs ∧ RdC W S x cs) ∧ RdL W S b sz xs (o + sz)
end

theorem CellsAt.same {W W' : World} {b o : Nat} {cs : List Value} (h : CellsAt W b o cs) (hb : W'.heap[b]? = W.heap[b]?) : CellsAt W' b o cs :=
  fun i hi => (World.cell?_of_block (w := W) (a := ⟨b, o + i, none⟩) hb).trans (h i hi)

mutual
theorem rdc_move {W W' : World} {S S' : BSet} (hs : W.heap.size ≤ W'.heap.size) (h : ∀ b, S b W.heap[b]? → b < W.heap.size → W'.heap[b]? = W.heap[b]? ∧ S' b W'.heap[b]?) :
    ∀ (d : D) (cs : List Value), RdC W S d cs → RdC W' S' d cs
  | .bool b, cs, hd => by simpa [RdC] using hd
  | .int k n, cs, hd => by simpa [RdC] using hd
  | .str s, cs, hd => by simpa [RdC] using hd
  | .lst sz xs, cs, hd => by
    simp only [RdC] at hd ⊢
    obtain ⟨a, cap, h1, h2, h3, h4⟩ := hd
    refine ⟨a, cap, h1, h2, h3, ?_⟩
    rcases h4 with h4 | ⟨b, o, ha, hb, hlt, hl⟩
    · exact .inl h4
    · exact .inr ⟨b, o, ha, (h b hb hlt).2, Nat.lt_of_lt_of_le hlt hs, rdl_move hs h (h b hb hlt).1 xs o hl⟩
  | .agg xs, cs, hd => by
    simp only [RdC] at hd ⊢
    exact rdf_move hs h xs cs hd
theorem rdf_move {W W' : World} {S S' : BSet} (hs : W.heap.size ≤ W'.heap.size) (h : ∀ b, S b W.heap[b]? → b < W.heap.size → W'.heap[b]? = W.heap[b]? ∧ S' b W'.heap[b]?) :
    ∀ (xs : List D) (cs : List Value), RdF W S xs cs → RdF W' S' xs cs
  | [], cs, hd => by simpa [RdF] using hd
  | x :: xs, cs, hd => by
    simp only [RdF] at hd ⊢
    obtain ⟨c1, c2, h1, h2, h3⟩ := hd
    exact ⟨c1, c2, h1, rdc_move hs h x c1 h2, rdf_move hs h xs c2 h3⟩
theorem rdl_move {W W' : World} {S S' : BSet} (hs : W.heap.size ≤ W'.heap.size) (h : ∀ b, S b W.heap[b]? → b < W.heap.size → W'.heap[b]? = W.heap[b]? ∧ S' b W'.heap[b]?) {b sz : Nat} (hb : W'.heap[b]? = W.heap[b]?) :
    ∀ (xs : List D) (o : Nat), RdL W S b sz xs o → RdL W' S' b sz xs o
  | [], _, _ => by simp [RdL]
  | x :: xs, o, hd => by
    simp only [RdL] at hd ⊢
    obtain ⟨⟨cs, h1, h2, h3⟩, h4⟩ := hd
    exact ⟨⟨cs, h1, h2.same hb, rdc_move hs h x cs h3⟩, rdl_move hs h hb xs (o + sz) h4⟩
end

theorem RdC.keeps {W W' : World} {S : BSet} {T : Nat → Prop} {d : D} {cs : List Value} (h : RdC W S d cs) (k : Keeps T W W') (hs : ∀ b o, S b o → T b) : RdC W' S d cs :=
  rdc_move k.size (fun b hb hlt => ⟨k.block b hlt (hs b _ hb), by rw [k.block b hlt (hs b _ hb)]; exact hb⟩) d cs h
theorem RdC.mono {W : World} {S S' : BSet} {d : D} {cs : List Value} (h : RdC W S d cs) (hs : ∀ b o, S b o → b < W.heap.size → S' b o) : RdC W S' d cs :=
  rdc_move (Nat.le_refl _) (fun b hb hlt => ⟨rfl, hs b _ hb hlt⟩) d cs h

mutual
def width : D → Nat
  | .bool _ => 1
  | .int _ _ => 1
  | .str _ => 1
  | .lst _ _ => 1
  | .agg xs => widths xs
def widths : List D → Nat
  | [] => 0
  | x :: xs => width x + widths xs
end
mutual
theorem rdc_width {W : World} {S : BSet} : ∀ (d : D) (cs : List Value), RdC W S d cs → cs.length = width d
  | .bool b, cs, h => by simp only [RdC] at h; subst h; rfl
  | .int k n, cs, h => by simp only [RdC] at h; subst h; rfl
  | .str s, cs, h => by simp only [RdC] at h; rw [h.1]; rfl
  | .lst sz xs, cs, h => by simp only [RdC] at h; obtain ⟨a, cap, h1, _⟩ := h; rw [h1]; rfl
  | .agg xs, cs, h => by simp only [RdC] at h; simp only [width]; exact rdf_width xs cs h
theorem rdf_width {W : World} {S : BSet} : ∀ (xs : List D) (cs : List Value), RdF W S xs cs → cs.length = widths xs
  | [], cs, h => by simp only [RdF] at h; subst h; rfl
  | x :: xs, cs, h => by
    simp only [RdF] at h
    obtain ⟨c1, c2, h1, h2, h3⟩ := h
    rw [h1, List.length_append, rdc_width x c1 h2, rdf_width xs c2 h3]; rfl
end

theorem RdL.get {W : World} {S : BSet} {b sz : Nat} : ∀ {xs : List D} {o : Nat}, RdL W S b sz xs o → ∀ i (h : i < xs.length), ∃ cs, cs.length = sz ∧ CellsAt W b (o + i * sz) cs ∧ RdC W S xs[i] cs
  | [], _, _, i, h => by simp at h
  | x :: xs, o, hl, 0, _ => by simp only [RdL] at hl; simpa using hl.1
  | x :: xs, o, hl, i + 1, h => by
    simp only [RdL] at hl
    obtain ⟨cs, h1, h2, h3⟩ := RdL.get hl.2 i (by simpa using h)
    exact ⟨cs, h1, by rw [show o + (i + 1) * sz = o + sz + i * sz by rw [Nat.add_mul]; omega]; exact h2, by simpa using h3⟩

theorem RdL.of {W : World} {S : BSet} {b sz : Nat} : ∀ {xs : List D} {o : Nat}, (∀ i (h : i < xs.length), ∃ cs, cs.length = sz ∧ CellsAt W b (o + i * sz) cs ∧ RdC W S xs[i] cs) → RdL W S b sz xs o
  | [], _, _ => by simp [RdL]
  | x :: xs, o, h => by
    simp only [RdL]
    refine ⟨?_, RdL.of fun i hi => ?_⟩
    · obtain ⟨cs, h1, h2, h3⟩ := h 0 (by simp)
      exact ⟨cs, h1, by simpa using h2, h3⟩
    obtain ⟨cs, h1, h2, h3⟩ := h (i + 1) (by simpa using hi)
    exact ⟨cs, h1, by rw [show o + sz + i * sz = o + (i + 1) * sz by rw [Nat.add_mul]; omega]; exact h2, h3⟩

def D.isAgg : D → Bool
  | .agg _ => true
  | _ => false
def asm : D → List Value → Value
  | .agg _, cs => .agg cs.toArray
  | _, cs => cs.headD undef

/-- the value v reads as d -/
def Rd (W : World) (S : BSet) (d : D) (v : Value) : Prop := ∃ cs, RdC W S d cs ∧ v = asm d cs
/-- v points to memory that reads as d -/
def Ref (W : World) (S : BSet) (d : D) (v : Value) : Prop := ∃ b o cs, v = .pointer (some ⟨b, o, none⟩) ∧ S b W.heap[b]? ∧ b < W.heap.size ∧ CellsAt W b o cs ∧ RdC W S d cs

theorem Rd.keeps {W W' : World} {S : BSet} {T : Nat → Prop} {d : D} {v : Value} (h : Rd W S d v) (k : Keeps T W W') (hs : ∀ b o, S b o → T b) : Rd W' S d v :=
  let ⟨cs, h1, h2⟩ := h; ⟨cs, h1.keeps k hs, h2⟩
theorem Rd.ext {W W' : World} {S : BSet} {d : D} {v : Value} (h : Rd W S d v) (k : Ext W W') : Rd W' S d v := h.keeps k fun _ _ _ => trivial
theorem Rd.mono {W : World} {S S' : BSet} {d : D} {v : Value} (h : Rd W S d v) (hs : ∀ b o, S b o → b < W.heap.size → S' b o) : Rd W S' d v :=
  let ⟨cs, h1, h2⟩ := h; ⟨cs, h1.mono hs, h2⟩
theorem Ref.keeps {W W' : World} {S : BSet} {T : Nat → Prop} {d : D} {v : Value} (h : Ref W S d v) (k : Keeps T W W') (hs : ∀ b o, S b o → T b) : Ref W' S d v :=
  let ⟨b, o, cs, h1, h2, h3, h4, h5⟩ := h; ⟨b, o, cs, h1, by rw [k.block b h3 (hs b _ h2)]; exact h2, Nat.lt_of_lt_of_le h3 k.size, h4.same (k.block b h3 (hs b _ h2)), h5.keeps k hs⟩
theorem Ref.ext {W W' : World} {S : BSet} {d : D} {v : Value} (h : Ref W S d v) (k : Ext W W') : Ref W' S d v := h.keeps k fun _ _ _ => trivial
theorem Ref.mono {W : World} {S S' : BSet} {d : D} {v : Value} (h : Ref W S d v) (hs : ∀ b o, S b o → b < W.heap.size → S' b o) : Ref W S' d v :=
  let ⟨b, o, cs, h1, h2, h3, h4, h5⟩ := h; ⟨b, o, cs, h1, hs b _ h2 h3, h3, h4, h5.mono hs⟩

/-- a block of the call's own, known whole -/
def Own (W : World) (b : Nat) (cs : List Value) (T : TypeId) : Prop := W.heap[b]? = some (.cells cs.toArray T (0, 0))
theorem Own.lt {W : World} {b : Nat} {cs : List Value} {T : TypeId} (h : Own W b cs T) : b < W.heap.size := (Array.getElem?_eq_some_iff.1 h).1
theorem Own.keeps {W W' : World} {S : Nat → Prop} {b : Nat} {cs : List Value} {T : TypeId} (h : Own W b cs T) (k : Keeps S W W') (hs : S b) : Own W' b cs T := (k.block b h.lt hs).trans h
theorem Own.ext {W W' : World} {b : Nat} {cs : List Value} {T : TypeId} (h : Own W b cs T) (k : Ext W W') : Own W' b cs T := h.keeps k trivial
theorem Own.cell {W : World} {b : Nat} {cs : List Value} {T : TypeId} (h : Own W b cs T) (i : Nat) : W.cell? ⟨b, i, none⟩ = cs[i]? := by
  unfold Own at h; simp [World.cell?, h]
theorem Own.free {W : World} {b : Nat} {cs : List Value} {T : TypeId} (h : Own W b cs T) (i : Nat) : W.frozen? ⟨b, i, none⟩ = false := by
  unfold Own at h; simp [World.frozen?, h]

def Out (g : Gh) (b : Nat) : Prop := ∀ t, (t, b) ∉ g

/-! ### facts -/
def Is (v : Value) : Fact := fun _ u _ => u = v
def IsD (S : BSet) (d : D) : Fact := fun g u W => Rd W (fun b o => S b o ∧ Out g b) d u
def IsR (S : BSet) (d : D) : Fact := fun g u W => Ref W (fun b o => S b o ∧ Out g b) d u
def IsBox (cs : List Value) (T : TypeId) (t : Nat) : Fact := fun g u W => ∃ b, u = .pointer (some ⟨b, 0, none⟩) ∧ (t, b) ∈ g ∧ Own W b cs T
def Under (p : Prop) (φ : Fact) : Fact := fun g u W => p → φ g u W
def Any : Fact := fun _ _ _ => True

theorem st_is {S : Nat → Prop} (v : Value) : Stable S (Is v) := ⟨fun _ _ _ _ _ h => h, fun _ _ _ _ _ _ h => h⟩
theorem st_any {S : Nat → Prop} : Stable S Any := ⟨fun _ _ _ _ _ h => h, fun _ _ _ _ _ _ h => h⟩
theorem out_more {g : Gh} {t b b' : Nat} (h : Out g b') (hne : b' ≠ b) : Out ((t, b) :: g) b' := fun u hu => by
  rcases List.mem_cons.1 hu with h1 | h1
  · cases h1; exact hne rfl
  · exact h u h1
theorem st_d {S : Nat → Prop} {S' : BSet} {d : D} (hs : ∀ b o, S' b o → S b) : Stable S (IsD S' d) :=
  ⟨fun _ _ _ _ k h => Rd.keeps h k fun b o hb => hs b o hb.1, fun _ _ _ _ _ hb h => Rd.mono h fun b' o h1 h2 => ⟨h1.1, out_more h1.2 (by omega)⟩⟩
theorem st_r {S : Nat → Prop} {S' : BSet} {d : D} (hs : ∀ b o, S' b o → S b) : Stable S (IsR S' d) :=
  ⟨fun _ _ _ _ k h => Ref.keeps h k fun b o hb => hs b o hb.1, fun _ _ _ _ _ hb h => Ref.mono h fun b' o h1 h2 => ⟨h1.1, out_more h1.2 (by omega)⟩⟩
theorem st_box {cs : List Value} {T : TypeId} {t : Nat} : Stable All (IsBox cs T t) :=
  ⟨fun _ _ _ _ k ⟨b, h1, h2, h3⟩ => ⟨b, h1, h2, h3.ext k⟩, fun _ _ _ _ _ _ ⟨b, h1, h2, h3⟩ => ⟨b, h1, List.mem_cons_of_mem _ h2, h3⟩⟩
theorem st_under {S : Nat → Prop} {p : Prop} {φ : Fact} (h : p → Stable S φ) : Stable S (Under p φ) :=
  ⟨fun _ _ _ _ k hu hp => (h hp).world _ _ _ _ k (hu hp), fun _ _ _ _ _ hb hu hp => (h hp).ghost _ _ _ _ _ hb (hu hp)⟩

/-! ### operands -/
def Env1 (Γ : Ctx) (a0 a : Act) (g : Gh) (W : World) (t : Nat) : Prop := match look Γ t with | some φ => φ g (sl a t) W | none => sl a t = sl a0 t
theorem Env.get {Γ : Ctx} {a0 a : Act} {g : Gh} {W : World} : ∀ {ts : List Nat}, Env Γ a0 a g W ts → ∀ {t : Nat}, t ∈ ts → Env1 Γ a0 a g W t
  | [], _, _, h => by cases h
  | u :: ts, he, t, h => by
    rcases List.mem_cons.1 h with h1 | h1
    · subst h1; exact he.1
    · exact Env.get he.2 h1

section
variable {P : Program} {ops : Array Oper} {S : Nat → Prop} {w0 : World} {a0 : Act} {Γ : Ctx}

/-- operand x has the fact φ -/
def Has (S : Nat → Prop) (w0 : World) (a0 : Act) (Γ : Ctx) (x : Operand) (φ : Fact) : Prop :=
  ∀ a g W, Keeps S w0 W → GOk w0 W g → (∀ t, x = .tmp t → Env1 Γ a0 a g W t) → φ g (a.eval x) W

theorem Has.loc {t : Nat} {φ : Fact} (h : look Γ t = some φ) : Has S w0 a0 Γ (.tmp t) φ := fun a g W _ _ he => by
  have := he t rfl
  unfold Env1 at this; rw [h] at this; exact this
theorem Has.base {t : Nat} {v : Value} (h : look Γ t = none) (hv : sl a0 t = v) : Has S w0 a0 Γ (.tmp t) (Is v) := fun a g W _ _ he => by
  have := he t rfl
  unfold Env1 at this; rw [h] at this; exact this.trans hv
theorem Has.cst {v : Value} : Has S w0 a0 Γ (.const v) (Is v) := fun _ _ _ _ _ _ => rfl
theorem Has.imp {x : Operand} {φ ψ : Fact} (h : Has S w0 a0 Γ x φ) (hi : ∀ g v W, Keeps S w0 W → GOk w0 W g → φ g v W → ψ g v W) : Has S w0 a0 Γ x ψ :=
  fun a g W hk hg he => hi _ _ _ hk hg (h a g W hk hg he)
theorem Has.und {x : Operand} {p : Prop} {φ : Fact} (h : Has S w0 a0 Γ x (Under p φ)) (hp : p) : Has S w0 a0 Γ x φ := h.imp fun _ _ _ _ _ hu => hu hp
theorem Has.toU {x : Operand} {p : Prop} {φ : Fact} (h : Has S w0 a0 Γ x φ) : Has S w0 a0 Γ x (Under p φ) := h.imp fun _ _ _ _ _ hu _ => hu
theorem Has.any {x : Operand} : Has S w0 a0 Γ x Any := fun _ _ _ _ _ _ => trivial
theorem rd_base {S' : BSet} {d : D} {g : Gh} {u : Value} {W : World} (hd : Rd w0 S' d u) (hk : Keeps S w0 W) (hg : GOk w0 W g) (hs : ∀ b o, S' b o → S b) : Rd W (fun b o => S' b o ∧ Out g b) d u :=
  (Rd.mono hd (fun b _ hb hlt => ⟨hb, fun t ht => by have := hg.lo t b ht; omega⟩) : Rd w0 (fun b o => S' b o ∧ Out g b) d u).keeps hk fun b o hb => hs b o hb.1
theorem ref_base {S' : BSet} {d : D} {g : Gh} {u : Value} {W : World} (hd : Ref w0 S' d u) (hk : Keeps S w0 W) (hg : GOk w0 W g) (hs : ∀ b o, S' b o → S b) : Ref W (fun b o => S' b o ∧ Out g b) d u :=
  (Ref.mono hd (fun b _ hb hlt => ⟨hb, fun t ht => by have := hg.lo t b ht; omega⟩) : Ref w0 (fun b o => S' b o ∧ Out g b) d u).keeps hk fun b o hb => hs b o hb.1
/-- a known value that is data -/
theorem Has.dat {x : Operand} {v : Value} {S' : BSet} {d : D} (h : Has S w0 a0 Γ x (Is v)) (hd : Rd w0 S' d v) (hs : ∀ b o, S' b o → S b) : Has S w0 a0 Γ x (IsD S' d) :=
  h.imp fun g u W hk hg hu => by
    have hu : u = v := hu
    subst hu
    exact rd_base hd hk hg hs
theorem Has.refd {x : Operand} {v : Value} {S' : BSet} {d : D} (h : Has S w0 a0 Γ x (Is v)) (hd : Ref w0 S' d v) (hs : ∀ b o, S' b o → S b) : Has S w0 a0 Γ x (IsR S' d) :=
  h.imp fun g u W hk hg hu => by
    have hu : u = v := hu
    subst hu
    exact ref_base hd hk hg hs

theorem Has.of_env {o : Oper} {x : Operand} {φ : Fact} {a : Act} {g : Gh} {W : World} (h : Has S w0 a0 Γ x φ) (hk : Keeps S w0 W) (hg : GOk w0 W g) (he : Env Γ a0 a g W (o.looksAt ops)) (hx : x ∈ o.op.operands) : φ g (a.eval x) W :=
  h a g W hk hg fun t ht => he.get (by
    subst ht
    exact List.mem_append_left _ (List.mem_filterMap.2 ⟨.tmp t, by simpa using hx, rfl⟩))

def Spec (P : Program) (ops : Array Oper) (S : Nat → Prop) (w0 : World) (a0 : Act) (Γ : Ctx) (o : Oper) (φ : Fact) : Prop :=
  ∀ a g W, Keeps S w0 W → GOk w0 W g → Env Γ a0 a g W (o.looksAt ops) → OpRuns P o a W fun v W' => Ext W W' ∧ φ g v W'

variable {K : List Oper → Ctx → (World → Prop) → List Bool → Prop} {l : List Oper} {Ψ : World → Prop} {ms : List Bool} {fl : Bool}

theorem Chain.op {d : Option Tmp} {op : Op} {ty : TypeId} {pos : String} {af : Array Edge} {φ : Fact} (hst : Stable S φ) (hs : Spec P ops S w0 a0 Γ ⟨d, op, ty, pos, af, none⟩ φ)
    (h : Chain P ops S w0 a0 K fl l ((d, φ) :: Γ) Ψ (false :: ms)) : Chain P ops S w0 a0 K fl (⟨d, op, ty, pos, af, none⟩ :: l) Γ Ψ ms :=
  .side φ hst (fun a g W hk hg he => by
    have hw : Region.wanted (⟨d, op, ty, pos, af, none⟩ : Oper) (yielded ops a.tmps) = true := rfl
    unfold ObRun; rw [if_pos hw]; exact hs a g W hk hg he) h

/-- a guarded operation: gi is the guard's place, t the slot in which its Bool stands -/
theorem Chain.opG {d : Option Tmp} {op : Op} {ty : TypeId} {pos : String} {af : Array Edge} {gi t : Nat} {want x : Bool} {φ : Fact} (ht : (ops[gi]?).bind (·.dst) = some t)
    (hb : Has S w0 a0 Γ (.tmp t) (Is (.bool x)))
    (hst : Stable S φ) (hs : x = want → Spec P ops S w0 a0 Γ ⟨d, op, ty, pos, af, some (gi, want)⟩ φ)
    (h : Chain P ops S w0 a0 K fl l ((d, Under (x = want) φ) :: Γ) Ψ (false :: ms)) : Chain P ops S w0 a0 K fl (⟨d, op, ty, pos, af, some (gi, want)⟩ :: l) Γ Ψ ms := by
  refine .side _ (st_under fun _ => hst) (fun a g W hk hg he => ?_) h
  have hv : sl a t = .bool x := hb a g W hk hg fun u hu => by
    cases hu
    exact he.get (List.mem_append_right _ (by simp [ht]))
  have hyl : yielded ops a.tmps gi = some x := by
    unfold yielded
    rw [ht]
    simp only [Option.bind_some]
    have h2 : a.tmps.getD t undef = .bool x := hv
    rw [Array.getD_eq_getD_getElem?] at h2
    cases hq : a.tmps[t]? with
    | none => rw [hq] at h2; simp [undef] at h2
    | some q => rw [hq] at h2; simp at h2; rw [h2]
  unfold ObRun
  by_cases hx : x = want
  · rw [if_pos (by simp [Region.wanted, hyl, hx])]
    exact (hs hx a g W hk hg he).mono fun v W' ⟨h1, h2⟩ => ⟨h1, fun _ => h2⟩
  · rw [if_neg (by simp [Region.wanted, hyl, hx])]
    exact ⟨.refl _ _, fun e => absurd e hx⟩
end
end Go.Eng
