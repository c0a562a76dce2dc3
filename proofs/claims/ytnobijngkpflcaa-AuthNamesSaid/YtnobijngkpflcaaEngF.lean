/-
  Rows of cells: slices that are built, appended to, cloned.
-/
import Derived.Test.YtnobijngkpflcaaEngE
import Derived.Deep.AppendSrc
import Derived.LaidEql
namespace Go.Eng

/-- consecutive cells that read as data, sz cells each -/
def RowIs (W : World) (X : BSet) (sz : Nat) : List D → List Value → Prop
  | [], cs => cs = []
  | d :: ds, cs => ∃ c r, cs = c ++ r ∧ c.length = sz ∧ RdC W X d c ∧ RowIs W X sz ds r

theorem RowIs.length {W : World} {X : BSet} {sz : Nat} : ∀ {ds : List D} {cs : List Value}, RowIs W X sz ds cs → cs.length = ds.length * sz
  | [], cs, h => by simp only [RowIs] at h; subst h; simp
  | d :: ds, cs, h => by
    simp only [RowIs] at h
    obtain ⟨c, r, rfl, h1, _, h3⟩ := h
    rw [List.length_append, h1, h3.length, List.length_cons, Nat.add_mul]; omega
theorem RowIs.append {W : World} {X : BSet} {sz : Nat} : ∀ {ds es : List D} {cs rs : List Value}, RowIs W X sz ds cs → RowIs W X sz es rs → RowIs W X sz (ds ++ es) (cs ++ rs)
  | [], es, cs, rs, h, h' => by simp only [RowIs] at h; subst h; simpa using h'
  | d :: ds, es, cs, rs, h, h' => by
    simp only [RowIs] at h
    obtain ⟨c, r, rfl, h1, h2, h3⟩ := h
    simp only [List.cons_append, RowIs]
    exact ⟨c, r ++ rs, by simp, h1, h2, h3.append h'⟩
theorem RowIs.move {W W' : World} {X X' : BSet} {sz : Nat} (hs : W.heap.size ≤ W'.heap.size) (h : ∀ b, X b W.heap[b]? → b < W.heap.size → W'.heap[b]? = W.heap[b]? ∧ X' b W'.heap[b]?) : ∀ {ds : List D} {cs : List Value}, RowIs W X sz ds cs → RowIs W' X' sz ds cs
  | [], cs, hr => by simpa only [RowIs] using hr
  | d :: ds, cs, hr => by
    simp only [RowIs] at hr ⊢
    obtain ⟨c, r, h0, h1, h2, h3⟩ := hr
    exact ⟨c, r, h0, h1, rdc_move hs h d c h2, h3.move hs h⟩
theorem RowIs.one {W : World} {X : BSet} {sz : Nat} : ∀ {ds : List D} {cs : List Value}, RowIs W X sz ds cs → ∀ c ∈ cs, oneC c = true
  | [], cs, h, c, hc => by simp only [RowIs] at h; subst h; simp at hc
  | d :: ds, cs, h, c, hc => by
    simp only [RowIs] at h
    obtain ⟨c1, r, rfl, h1, h2, h3⟩ := h
    rcases List.mem_append.1 hc with h | h
    · exact rdc_one d c1 h2 c h
    · exact h3.one c h
theorem CellsAt.app {W : World} {b o : Nat} {c r : List Value} (h1 : CellsAt W b o c) (h2 : CellsAt W b (o + c.length) r) : CellsAt W b o (c ++ r) := fun i hi => by
  by_cases h : i < c.length
  · rw [h1 i h, List.getElem_append_left h]
  · have := h2 (i - c.length) (by simp at hi; omega)
    rw [show o + c.length + (i - c.length) = o + i by omega] at this
    rw [this, List.getElem_append_right (by omega)]
theorem CellsAt.left {W : World} {b o : Nat} {c r : List Value} (h : CellsAt W b o (c ++ r)) : CellsAt W b o c := fun i hi => by
  have := h i (by simp; omega)
  rw [this, List.getElem_append_left hi]
theorem CellsAt.right {W : World} {b o : Nat} {c r : List Value} (h : CellsAt W b o (c ++ r)) : CellsAt W b (o + c.length) r := fun i hi => by
  have := h (c.length + i) (by simp; omega)
  rw [show o + c.length + i = o + (c.length + i) by omega, this, List.getElem_append_right (by omega)]
  simp
theorem row_of_rdl {W : World} {X : BSet} {b sz : Nat} : ∀ {ds : List D} {o : Nat}, RdL W X b sz ds o → ∃ cs, CellsAt W b o cs ∧ RowIs W X sz ds cs
  | [], o, _ => ⟨[], fun i hi => by simp at hi, rfl⟩
  | d :: ds, o, h => by
    simp only [RdL] at h
    obtain ⟨⟨c, h1, h2, h3⟩, h4⟩ := h
    obtain ⟨r, h5, h6⟩ := row_of_rdl h4
    exact ⟨c ++ r, h2.app (by rw [h1]; exact h5), c, r, rfl, h1, h3, h6⟩
theorem rdl_of_row {W : World} {X : BSet} {b sz : Nat} : ∀ {ds : List D} {cs : List Value} {o : Nat}, CellsAt W b o cs → RowIs W X sz ds cs → RdL W X b sz ds o
  | [], cs, o, _, _ => by simp [RdL]
  | d :: ds, cs, o, h, hr => by
    simp only [RowIs] at hr
    obtain ⟨c, r, rfl, h1, h2, h3⟩ := hr
    simp only [RdL]
    exact ⟨⟨c, h1, h.left, h2⟩, rdl_of_row (by rw [← h1]; exact h.right) h3⟩
/-- a slice's cells -/
theorem rd_row {W : World} {X : BSet} {sz : Nat} {ds : List D} {v : Value} (h : Rd W X (.lst sz ds) v) : (ds = [] ∧ ∃ ad cap, v = .slice ad 0 cap) ∨ ∃ b o cap cs, v = .slice (some ⟨b, o, none⟩) ds.length cap ∧ X b W.heap[b]? ∧ b < W.heap.size ∧ CellsAt W b o cs ∧ RowIs W X sz ds cs := by
  obtain ⟨cs, h1, rfl⟩ := h
  simp only [RdC] at h1
  obtain ⟨ad, cap, rfl, _, _, h4⟩ := h1
  rcases h4 with rfl | ⟨b, o, rfl, hb, hlt, hl⟩
  · exact .inl ⟨rfl, ad, cap, rfl⟩
  · obtain ⟨cs, h5, h6⟩ := row_of_rdl hl
    exact .inr ⟨b, o, cap, cs, rfl, hb, hlt, h5, h6⟩
theorem rd_of_row {W : World} {X : BSet} {sz : Nat} {ds : List D} {b o cap : Nat} {cs : List Value} (hc : ds.length ≤ cap) (hm : cap ≤ maxLen) (hb : X b W.heap[b]?) (hlt : b < W.heap.size) (h5 : CellsAt W b o cs) (h6 : RowIs W X sz ds cs) : Rd W X (.lst sz ds) (.slice (some ⟨b, o, none⟩) ds.length cap) :=
  ⟨[.slice (some ⟨b, o, none⟩) ds.length cap], by simp only [RdC]; exact ⟨_, _, rfl, hc, hm, .inr ⟨b, o, rfl, hb, hlt, rdl_of_row h5 h6⟩⟩, rfl⟩

theorem cells_asm {W : World} {X : BSet} {d : D} {cs : List Value} (h : RdC W X d cs) : (asm d cs).cells = cs.toArray := by
  cases d with
  | agg xs => rfl
  | bool b => simp only [RdC] at h; subst h; rfl
  | int k n => simp only [RdC] at h; subst h; rfl
  | str s => simp only [RdC] at h; rw [h.1]; rfl
  | lst sz xs => simp only [RdC] at h; obtain ⟨a, cap, h1, _⟩ := h; rw [h1]; rfl

/-! ### literals of slices -/
theorem fold_set : ∀ (vs : List Value) (j off : Nat) (cs : List Value), off + j + vs.length ≤ cs.length →
    (vs.zipIdx j).foldl (fun (cs : List Value) (p : Value × Nat) => cs.set (off + p.2) p.1) cs = cs.take (off + j) ++ vs ++ cs.drop (off + j + vs.length)
  | [], j, off, cs, _ => by simp
  | v :: vs, j, off, cs, h => by
    simp only [List.length_cons] at h
    rw [List.zipIdx_cons, List.foldl_cons, fold_set vs (j + 1) off _ (by simp; omega)]
    simp only [List.length_cons]
    rw [show off + (j + 1) = off + j + 1 by omega, List.take_set, List.drop_set_of_lt (by omega), List.take_succ_eq_append_getElem (show off + j < cs.length by omega),
      List.set_append_right _ _ (by simp; omega)]
    simp [Nat.min_eq_left (show off + j ≤ cs.length by omega)]
    rw [show off + j + 1 + vs.length = off + j + (vs.length + 1) by omega]
theorem fold_arr (vs cs : Array Value) (off : Nat) (h : off + vs.size ≤ cs.size) :
    vs.zipIdx.foldl (fun cs (p : Value × Nat) => cs.setIfInBounds (off + p.2) p.1) cs = (cs.toList.take off ++ vs.toList ++ cs.toList.drop (off + vs.size)).toArray := by
  have := fold_set vs.toList 0 off cs.toList (by simpa using h)
  have e : ∀ (l : List (Value × Nat)) (cs : Array Value), l.foldl (fun cs (p : Value × Nat) => cs.setIfInBounds (off + p.2) p.1) cs = (l.foldl (fun (cs : List Value) (p : Value × Nat) => cs.set (off + p.2) p.1) cs.toList).toArray := by
    intro l
    induction l with
    | nil => intro cs; simp
    | cons p l ih => intro cs; simp only [List.foldl_cons]; rw [ih]; simp
  rw [← Array.foldl_toList, Array.toList_zipIdx, e, this]
  simp
/-- parts, one behind the other from i on -/
theorem fill_row {W : World} {X : BSet} {sz : Nat} : ∀ (ds : List D) (vs : List (Nat × Value)) (i : Nat) (cells : List Value), cells.length = (i + ds.length) * sz → vs.map (·.1) = List.range' i ds.length →
    (∀ j (hj : j < ds.length), ∃ c, c.length = sz ∧ RdC W X ds[j] c ∧ (vs.map (·.2))[j]? = some (asm ds[j] c)) →
    ∃ cs, Instr.fill (fun k => some (k * sz, sz)) cells.toArray vs = some (cells.take (i * sz) ++ cs).toArray ∧ RowIs W X sz ds cs
  | [], vs, i, cells, hl, hi, _ => by
    have : vs = [] := by simpa using hi
    subst this
    refine ⟨[], ?_, rfl⟩
    simp only [Instr.fill, List.append_nil]
    rw [List.take_of_length_le (by simp at hl; omega)]
  | d :: ds, [], i, cells, hl, hi, _ => by simp [List.range'_succ] at hi
  | d :: ds, (k, v) :: vs, i, cells, hl, hi, hv => by
    simp only [List.length_cons, List.map_cons, List.range'_succ, List.cons.injEq] at hi
    obtain ⟨rfl, hi⟩ := hi
    obtain ⟨c, hc1, hc2, hc3⟩ := hv 0 (by simp)
    have ev : v = asm d c := by simpa using hc3
    have hcells : v.cells = c.toArray := by rw [ev]; exact cells_asm hc2
    have hsz : v.cells.size = sz := by rw [hcells]; simpa using hc1
    have hlen : k * sz + sz ≤ cells.length := by
      rw [hl]; simp only [List.length_cons]
      have : (k + (ds.length + 1)) * sz = k * sz + (ds.length * sz + sz) := by rw [Nat.add_mul, Nat.add_mul]; omega
      omega
    have hstep : Instr.fill (fun k => some (k * sz, sz)) cells.toArray ((k, v) :: vs) = Instr.fill (fun k => some (k * sz, sz)) (cells.take (k * sz) ++ c ++ cells.drop (k * sz + sz)).toArray vs := by
      simp only [Instr.fill, hsz]
      rw [if_neg (by simp; omega)]
      have hf := fold_arr v.cells cells.toArray (k * sz) (by rw [hsz]; simpa using hlen)
      rw [hsz, hcells] at hf
      simp only [List.size_toArray] at hf
      have : (v.cells.zipIdx.foldl (fun cs x => match x with | (c, j) => cs.setIfInBounds (k * sz + j) c) cells.toArray) = (cells.take (k * sz) ++ c ++ cells.drop (k * sz + sz)).toArray := by
        rw [hcells]; exact hf
      rw [this]
    obtain ⟨cs, h1, h2⟩ := fill_row ds vs (k + 1) (cells.take (k * sz) ++ c ++ cells.drop (k * sz + sz)) (by
      simp only [List.length_append, List.length_take, List.length_drop, hc1, Nat.min_eq_left (show k * sz ≤ cells.length by omega)]
      rw [hl]; simp only [List.length_cons]
      have e1 : (k + (ds.length + 1)) * sz = k * sz + ds.length * sz + sz := by rw [Nat.add_mul, Nat.add_mul]; omega
      have e2 : (k + 1 + ds.length) * sz = k * sz + ds.length * sz + sz := by rw [Nat.add_mul, Nat.add_mul]; omega
      rw [e1, e2]; omega) (by rw [hi]) (fun j hj => by
        obtain ⟨c', q1, q2, q3⟩ := hv (j + 1) (by simpa using hj)
        exact ⟨c', q1, q2, by simpa using q3⟩)
    refine ⟨c ++ cs, ?_, c, cs, rfl, hc1, hc2, h2⟩
    rw [hstep, h1]
    congr 2
    rw [show (k + 1) * sz = k * sz + sz by rw [Nat.add_mul]; omega]
    have e : (cells.take (k * sz) ++ c ++ cells.drop (k * sz + sz)).take (k * sz + sz) = cells.take (k * sz) ++ c := by
      rw [List.take_append_of_le_length (by simp [hc1]; omega)]
      exact List.take_of_length_le (by simp [hc1]; exact Nat.min_le_left _ _)
    rw [e, List.append_assoc]

section
variable {P : Program} {ops : Array Oper} {S : Nat → Prop} {w0 : World} {a0 : Act} {Γ : Ctx}
variable {d : Option Tmp} {ty : TypeId} {pos : String} {af : Array Edge} {gd : Option (Nat × Bool)}

def PartsD (S : Nat → Prop) (w0 : World) (a0 : Act) (Γ : Ctx) (X : BSet) : Nat → List (Nat × Operand) → List D → Prop
  | _, [], [] => True
  | i, (j, x) :: ps, d :: ds => j = i ∧ Has S w0 a0 Γ x (IsD X d) ∧ PartsD S w0 a0 Γ X (i + 1) ps ds
  | _, _, _ => False
theorem PartsD.out {o : Oper} {a : Act} {g : Gh} {W : World} {X : BSet} (hk : Keeps S w0 W) (hg : GOk w0 W g) (he : Env Γ a0 a g W (o.looksAt ops)) : ∀ (ps : List (Nat × Operand)) (ds : List D) (i : Nat), PartsD S w0 a0 Γ X i ps ds → (∀ p ∈ ps, p.2 ∈ o.op.operands) →
    ps.map (·.1) = List.range' i ds.length ∧ ∀ j (hj : j < ds.length), ∃ c, RdC W (fun b o => X b o ∧ Out g b) ds[j] c ∧ (ps.map (fun p => a.eval p.2))[j]? = some (asm ds[j] c)
  | [], [], i, _, _ => ⟨rfl, fun j hj => by simp at hj⟩
  | [], _ :: _, _, h, _ => h.elim
  | _ :: _, [], _, h, _ => h.elim
  | (k, x) :: ps, e :: ds, i, ⟨h1, h2, h3⟩, hm => by
    obtain ⟨q1, q2⟩ := PartsD.out hk hg he ps ds (i + 1) h3 fun p hp => hm p (List.mem_cons_of_mem _ hp)
    refine ⟨by simp [List.range'_succ, h1, q1], fun j hj => ?_⟩
    cases j with
    | zero =>
      obtain ⟨c, r1, r2⟩ := h2.of_env hk hg he (hm (k, x) List.mem_cons_self)
      exact ⟨c, r1, by simp [r2]⟩
    | succ j =>
      obtain ⟨c, r1, r2⟩ := q2 j (by simpa using hj)
      exact ⟨c, r1, by simpa using r2⟩

theorem sp_bsl {T E : TypeId} {n sz : Nat} {parts : Array (Nat × Operand)} {ds : List D} {X : BSet} {z : Value} (hT : P.underlying T = some (.slice E)) (hz : szOf P E = some sz) (hzero : zeroOf P E = some z) (hsz : 0 < sz) (hlen : n * sz ≤ 16777216)
    (hp : PartsD S w0 a0 Γ X 0 parts.toList ds) (hn : ds.length = n) (hw : ∀ e ∈ ds, width e = sz) (hX : ∀ b o, Fr w0 b o → X b o) :
    Spec P ops S w0 a0 Γ ⟨d, .buildSlice T n parts, ty, pos, af, gd⟩ (IsD X (.lst sz ds)) := fun a g W hk hg he => by
  obtain ⟨h1, h2⟩ := hp.out hk hg he _ _ _ (fun p hp => by simp [Op.operands]; exact ⟨p.1, by simpa using hp⟩)
  have hrow := fill_row (W := W) (X := fun b o => X b o ∧ Out g b) (sz := sz) ds ((parts.map fun x => (x.1, a.eval x.2)).toList) 0
  subst hn
  let cells : Array Value := (Array.range (ds.length * sz)).map (fun i => (if ds.length * sz = 0 then #[] else z.cells)[i % (if ds.length * sz = 0 then #[] else z.cells).size]!)
  obtain ⟨cs, hf, hr⟩ := hrow cells.toList (by simp [cells]) (by rw [← h1]; simp) (fun j hj => by
    obtain ⟨c, r1, r2⟩ := h2 j hj
    exact ⟨c, (rdc_width _ _ r1).trans (hw _ (List.getElem_mem hj)), r1, by simpa using r2⟩)
  simp only [Array.toArray_toList, Nat.zero_mul, List.take_zero, List.nil_append] at hf
  have hrun : (execOp a.eval ⟨d, .buildSlice T ds.length parts, ty, pos, af, gd⟩).run P W = .ok (.value (.slice (some ⟨W.heap.size, 0, none⟩) ds.length ds.length)) (W.alloc (.cells cs.toArray E)) := by
    have hm : (parts.map fun x => match x with | (i, x) => (i, a.eval x)) = (parts.map fun x => (x.1, a.eval x.2)) := rfl
    simp only [execOp, Instr.buildSlice, hm, Sem.run_bind, run_und hT, Result.andThen_ok, run_szOf hz]
    rw [show (2 : Nat) ^ 24 = 16777216 from rfl]
    rw [Sem.run_ite, if_neg (by omega)]
    by_cases h0 : ds.length * sz = 0
    · have hf' : Instr.fill (fun i => some (i * sz, sz)) ((Array.range (ds.length * sz)).map (fun x => (#[] : Array Value)[x % (#[] : Array Value).size]!)) (parts.map fun x => (x.1, a.eval x.2)).toList = some cs.toArray := by
        have h := hf; simp only [cells, if_pos h0] at h; exact h
      rw [if_pos h0]
      simp only [Sem.run_bind, Sem.run_pure, Result.andThen_ok, hf']
      rfl
    · have hf' : Instr.fill (fun i => some (i * sz, sz)) ((Array.range (ds.length * sz)).map (fun x => z.cells[x % z.cells.size]!)) (parts.map fun x => (x.1, a.eval x.2)).toList = some cs.toArray := by
        have h := hf; simp only [cells, if_neg h0] at h; exact h
      rw [if_neg h0]
      simp only [Sem.run_bind, run_zeroOf hzero, Sem.run_pure, Result.andThen_ok, hf']
      rfl
  unfold OpRuns
  rw [hrun]
  refine ⟨ext_alloc _ _, ?_⟩
  have hnew := own_alloc W cs E
  have hmove : RowIs (W.alloc (.cells cs.toArray E)) (fun b o => X b o ∧ Out g b) sz ds cs := hr.move (by simp) fun b hb hlt => by
    have e := (ext_alloc W (.cells cs.toArray E)).block b hlt trivial
    exact ⟨e, by rw [e]; exact hb⟩
  have hcl : Cln (W.alloc (.cells cs.toArray E)).heap[W.heap.size]? := ⟨_, _, hnew⟩
  have hfr := fresh_out hk hg W.heap.size _ ⟨Nat.le_refl _, hcl⟩
  exact rd_of_row (Nat.le_refl _) (by
    have h3 : ds.length * 1 ≤ ds.length * sz := Nat.mul_le_mul_left _ hsz
    simp only [maxLen]; omega) ⟨hX _ _ hfr.1, hfr.2⟩ (by simp) (fun i hi => by rw [hnew.cell]; simp [hi]) hmove

/-! ### append onto nothing: a copy in new memory -/
/-- an empty slice without room -/
def IsE (e : TypeId) : Fact := fun _ v W => v = .slice none 0 0 ∨ ∃ b, v = .slice (some ⟨b, 0, none⟩) 0 0 ∧ W.heap[b]? = some (.cells #[] e (0, 0)) ∧ b < W.heap.size
theorem st_e {e : TypeId} : Stable All (IsE e) :=
  ⟨fun _ _ _ _ k h => h.imp id fun ⟨b, h1, h2, h3⟩ => ⟨b, h1, (k.block b h3 trivial).trans h2, Nat.lt_of_lt_of_le h3 k.size⟩, fun _ _ _ _ _ _ h => h⟩
theorem sp_bslE {T E : TypeId} (hT : P.underlying T = some (.slice E)) {sz : Nat} (hz : szOf P E = some sz) : Spec P ops S w0 a0 Γ ⟨d, .buildSlice T 0 #[], ty, pos, af, gd⟩ (IsE E) := fun a g W hk hg he => by
  have hrun : (execOp a.eval ⟨d, .buildSlice T 0 #[], ty, pos, af, gd⟩).run P W = .ok (.value (.slice (some ⟨W.heap.size, 0, none⟩) 0 0)) (W.alloc (.cells #[] E)) := by
    simp [execOp, Instr.buildSlice, run_und hT, run_szOf hz, Instr.fill, newRow, newObj, Sem.run]
    congr 2; apply Array.ext'; simp
  unfold OpRuns
  rw [hrun]
  exact ⟨ext_alloc _ _, .inr ⟨W.heap.size, rfl, own_alloc W [] E, by simp⟩⟩

def inf (P : Program) (T : TypeId) (n bytes : Nat) : Prop := ∃ i z, P.info? T = some i ∧ i.zero = some z ∧ i.size = n ∧ i.bytes = bytes ∧ z.cells.size = n
theorem inf_of {T n bytes : Nat} (h : ((P.info? T).bind fun i => i.zero.map fun z => (i.size, i.bytes, z.cells.size)) = some (n, bytes, n)) : inf P T n bytes := by
  cases hi : P.info? T with
  | none => rw [hi] at h; cases h
  | some i =>
    rw [hi] at h
    cases hz : i.zero with
    | none => simp [hz] at h
    | some z => simp [hz] at h; exact ⟨i, z, hi, hz, h.1, h.2.1, h.2.2⟩
theorem ext_drew_alloc (W : World) (o : Obj) : Ext W (W.drew.alloc o) := ⟨rfl, rfl, rfl, by simp, fun k hk _ => RowKit.Below.heap_alloc W.drew o k hk⟩

theorem cells_addr {W : World} {b o : Nat} {cs : List Value} (h : CellsAt W b o cs) : ∀ j u, cs[j]? = some u → W.cell? ((⟨b, o, none⟩ : Addr).add j) = some u := fun j u hu => by
  rw [add_none]
  obtain ⟨hj, rfl⟩ := List.getElem?_eq_some_iff.1 hu
  exact h j hj
theorem oneC_eq (v : Value) : v.oneCell' = oneC v := by cases v <;> rfl

theorem src_of {W : World} {X : BSet} {T E : TypeId} {sz b o n cap : Nat} {ds : List D} {cs : List Value} (hT : P.underlying T = some (.slice E)) (hn : ds.length = n) (hc : CellsAt W b o cs) (hr : RowIs W X sz ds cs) : Src P sz T (.slice (some ⟨b, o, none⟩) n cap) n cs W := by
  have hl := hr.length
  have h1 := run_loadCellsFrom (P := P) hc cs.length 0 #[] (by simp)
  have hc' : CellsAt W.drew b o cs := hc
  have h2 := run_loadCellsFrom (P := P) hc' cs.length 0 #[] (by simp)
  refine ⟨.inl ⟨E, hT⟩, fun _ => rfl, ?_, ?_, by rw [← hn]; exact hl, fun u hu => by rw [oneC_eq]; exact hr.one u hu⟩
  · simp only [Builtin.firstCells, loadCells, ← hn, ← hl]; simpa using h1
  · simp only [Builtin.firstCells, loadCells, ← hn, ← hl]; simpa using h2

theorem nextcap_zero (n : Nat) (h : 0 < n) : Builtin.nextslicecap n 0 = n := by unfold Builtin.nextslicecap; rw [if_pos (by omega)]

theorem sp_appG {x y : Operand} {T E : TypeId} {sz bytes : Nat} {ds : List D} {X X' : BSet} (hT : P.underlying T = some (.slice E)) (hi : inf P E sz bytes) (hsz : 0 < sz) (hx : Has S w0 a0 Γ x (IsE E)) (hy : Has S w0 a0 Γ y (IsD X (.lst sz ds)))
    (hl : ds.length * bytes ≤ 140737488355328) (hm : ds.length ≤ 4611686018427387904) (hX : ∀ b o, Fr w0 b o → X' b o) (hXX : ∀ W (g : Gh) cs, RowIs W (fun b o => X b o ∧ Out g b) sz ds cs → RowIs W (fun b o => X' b o ∧ Out g b) sz ds cs) :
    Spec P ops S w0 a0 Γ ⟨d, .call ⟨.builtin .append, #[x, y], #[T, T]⟩, ty, pos, af, gd⟩ (IsD X' (.lst sz ds)) := fun a g W hk hg he => by
  have hxe := hx.of_env hk hg he (by simp [Op.operands, Call.operands])
  have hyd := hy.of_env hk hg he (by simp [Op.operands, Call.operands])
  obtain ⟨i, z, hinfo, hzero, hs1, hs2, hs3⟩ := hi
  subst hs1; subst hs2
  have hop : ∀ (r : Value) (W' : World), (Builtin.append_ #[T, T] ty #[a.eval x, a.eval y]).run P W = .ok r W' → (execOp a.eval ⟨d, .call ⟨.builtin .append, #[x, y], #[T, T]⟩, ty, pos, af, gd⟩).run P W = .ok (.value r) W' := fun r W' h => by
    simp [execOp, resolve, invoke, builtin, h]
  have hbase : ∃ base, a.eval x = .slice base 0 0 ∧ (Builtin.firstCells i.size 0 (.slice base 0 0)).run P W.drew = .ok ([] : List Value).toArray W.drew := by
    rcases hxe with h | ⟨b, h, _, _⟩
    · exact ⟨none, h, rfl⟩
    · exact ⟨_, h, by simp [Builtin.firstCells, loadCells, loadCellsFrom]⟩
  obtain ⟨base, ex, hold⟩ := hbase
  rcases rd_row hyd with ⟨rfl, ad, cap, ey⟩ | ⟨b, o, cap, cs, ey, hb, hlt, hc, hr⟩
  · have hrun : (Builtin.append_ #[T, T] ty #[a.eval x, a.eval y]).run P W = .ok (.slice base 0 0) W := by
      rw [ex, ey]
      cases ad with
      | none => cases base <;> simp [Builtin.append_, run_und hT, sizeOf, typeInfo, hinfo, Builtin.lenOf, Builtin.firstCells, storeCells]
      | some ad => cases base <;> simp [Builtin.append_, run_und hT, sizeOf, typeInfo, hinfo, Builtin.lenOf, Builtin.firstCells, storeCells, loadCells, loadCellsFrom]
    unfold OpRuns
    rw [hop _ _ hrun]
    exact ⟨.refl _ _, [.slice base 0 0], by simp only [RdC]; exact ⟨base, 0, rfl, by simp, by simp, .inl trivial⟩, rfl⟩
  · by_cases h0 : ds.length = 0
    · have hd : ds = [] := List.length_eq_zero_iff.1 h0
      subst hd
      have hcs : cs = [] := by simpa only [RowIs] using hr
      have hrun : (Builtin.append_ #[T, T] ty #[a.eval x, a.eval y]).run P W = .ok (.slice base 0 0) W := by
        rw [ex, ey]
        cases base <;> simp [Builtin.append_, run_und hT, sizeOf, typeInfo, hinfo, Builtin.lenOf, Builtin.firstCells, storeCells, loadCells, loadCellsFrom]
      unfold OpRuns
      rw [hop _ _ hrun]
      exact ⟨.refl _ _, [.slice base 0 0], by simp only [RdC]; exact ⟨base, 0, rfl, by simp, by simp, .inl trivial⟩, rfl⟩
    have hrun := run_append_grow_src (P := P) (w := W) T T ty E i z hT hinfo hzero base 0 0 [] hold (a.eval y) ds.length cs (by rw [ey]; exact src_of hT rfl hc hr) (by omega) (by omega)
      (by rw [Nat.zero_add, nextcap_zero _ (by omega)]; omega)
    rw [← ex] at hrun
    unfold OpRuns
    rw [hop _ _ hrun]
    refine ⟨ext_drew_alloc _ _, ?_⟩
    generalize hcap : grownCap W (0 + ds.length) 0 E = cap'
    have hcb : ds.length ≤ cap' ∧ cap' ≤ maxLen := by
      rw [← hcap]; unfold grownCap; simp only [Question.cut, maxLen]
      have : (W.tape W.drawn (Question.appendCap (0 + ds.length) 0 E)) % (2 ^ 63 - (0 + ds.length)) < 2 ^ 63 - (0 + ds.length) := Nat.mod_lt _ (by omega)
      omega
    have hnew : (W.drew.alloc (.cells (([] ++ cs).toArray ++ Builtin.zeroCells z.cells (cap' - (0 + ds.length))) E)).heap[W.heap.size]? = some (.cells (([] ++ cs).toArray ++ Builtin.zeroCells z.cells (cap' - (0 + ds.length))) E (0, 0)) := by
      show (W.heap.push _)[W.heap.size]? = _
      simp
    have hmove : RowIs (W.drew.alloc (.cells (([] ++ cs).toArray ++ Builtin.zeroCells z.cells (cap' - (0 + ds.length))) E)) (fun b o => X' b o ∧ Out g b) i.size ds cs := hXX _ g cs <| hr.move (by simp) fun b hb hlt => by
      have e := (ext_drew_alloc W (.cells (([] ++ cs).toArray ++ Builtin.zeroCells z.cells (cap' - (0 + ds.length))) E)).block b hlt trivial
      exact ⟨e, by rw [e]; exact hb⟩
    have hfr := fresh_out hk hg W.heap.size _ ⟨Nat.le_refl _, ⟨_, _, hnew⟩⟩
    have hrd := rd_of_row (o := 0) hcb.1 hcb.2 (X := fun b o => X' b o ∧ Out g b) ⟨hX _ _ hfr.1, hfr.2⟩ (by simp) (fun j hj => by
      unfold World.cell?
      rw [hnew]
      simp [Array.getElem?_append_left (show j < cs.toArray.size by simpa using hj)]) hmove
    simpa only [IsD, Nat.zero_add] using hrd

theorem row_strs {W : World} {X X' : BSet} : ∀ (ns : List ByteArray) (cs : List Value), RowIs W X 1 (ns.map D.str) cs → RowIs W X' 1 (ns.map D.str) cs
  | [], cs, h => by simpa only [List.map_nil, RowIs] using h
  | n :: ns, cs, h => by
    simp only [List.map_cons, RowIs] at h ⊢
    obtain ⟨c, r, h0, h1, h2, h3⟩ := h
    exact ⟨c, r, h0, h1, by simpa only [RdC] using h2, row_strs ns r h3⟩
theorem sp_appE {x y : Operand} {T E : TypeId} {sz bytes : Nat} {ds : List D} {X X' : BSet} (hT : P.underlying T = some (.slice E)) (hi : inf P E sz bytes) (hsz : 0 < sz) (hx : Has S w0 a0 Γ x (IsE E)) (hy : Has S w0 a0 Γ y (IsD X (.lst sz ds)))
    (hl : ds.length * bytes ≤ 140737488355328) (hm : ds.length ≤ 4611686018427387904) (hX : ∀ b o, Fr w0 b o → X' b o) (hXX : ∀ b o, X b o → X' b o) :
    Spec P ops S w0 a0 Γ ⟨d, .call ⟨.builtin .append, #[x, y], #[T, T]⟩, ty, pos, af, gd⟩ (IsD X' (.lst sz ds)) :=
  sp_appG hT hi hsz hx hy hl hm hX fun _ _ _ hr => hr.move (Nat.le_refl _) fun b hb _ => ⟨rfl, hXX b _ hb.1, hb.2⟩
theorem sp_appS {x y : Operand} {T E : TypeId} {bytes : Nat} {ns : List ByteArray} {X X' : BSet} (hT : P.underlying T = some (.slice E)) (hi : inf P E 1 bytes) (hx : Has S w0 a0 Γ x (IsE E)) (hy : Has S w0 a0 Γ y (IsD X (strsD ns)))
    (hl : ns.length * bytes ≤ 140737488355328) (hm : ns.length ≤ 4611686018427387904) (hX : ∀ b o, Fr w0 b o → X' b o) :
    Spec P ops S w0 a0 Γ ⟨d, .call ⟨.builtin .append, #[x, y], #[T, T]⟩, ty, pos, af, gd⟩ (IsD X' (strsD ns)) :=
  sp_appG (ds := ns.map D.str) hT hi (by omega) hx hy (by simpa using hl) (by simpa using hm) hX fun _ _ cs hr => row_strs ns cs hr
/-! ### pointers -/
theorem sp_nilP {x : Operand} {ad : Addr} (hx : Has S w0 a0 Γ x (Is (.pointer (some ad)))) : Spec P ops S w0 a0 Γ ⟨d, .nilCheck x, ty, pos, af, gd⟩ (Is (.pointer (some ad))) := sp_val fun a g W hk hg he => by
  have e1 : a.eval x = .pointer (some ad) := hx.of_env hk hg he (by simp [Op.operands])
  simp [execOp, e1]
theorem sp_nilR {x : Operand} {X : BSet} {dd : D} (hx : Has S w0 a0 Γ x (IsR X dd)) : Spec P ops S w0 a0 Γ ⟨d, .nilCheck x, ty, pos, af, gd⟩ (IsR X dd) := fun a g W hk hg he => by
  have h := hx.of_env hk hg he (by simp [Op.operands])
  have h' := h
  obtain ⟨b, o, cs, e1, _⟩ := h
  have hrun : (execOp a.eval ⟨d, .nilCheck x, ty, pos, af, gd⟩).run P W = .ok (.value (a.eval x)) W := by simp [execOp, e1]
  unfold OpRuns; rw [hrun]; exact ⟨.refl _ _, h'⟩
theorem equalIn_ptr {T E : TypeId} (hT : P.underlying T = some (.pointer E)) (p q : Option Addr) (w : World) (h : p = none ∨ q = none) : (Op.equal T (.pointer p) (.pointer q)).run P w = .ok (p.isNone && q.isNone) w := by
  show (Op.equalIn (9999 + 1) T (.pointer p) (.pointer q)).run P w = _
  rw [Op.equalIn]
  rcases h with rfl | rfl
  · cases q <;> simp [run_und hT]
  · cases p <;> simp [run_und hT]
theorem sp_nilEq {x y : Operand} {T T' E : TypeId} {p q : Option Addr} {r : Bool} (hT : P.underlying T = some (.pointer E)) (hx : Has S w0 a0 Γ x (Is (.pointer p))) (hy : Has S w0 a0 Γ y (Is (.pointer q))) (h : p = none ∨ q = none) (hr : (p.isNone && q.isNone) = r) :
    Spec P ops S w0 a0 Γ ⟨d, .binOp .eql T x y T', ty, pos, af, gd⟩ (Is (.bool r)) := sp_val fun a g W hk hg he => by
  have e1 : a.eval x = .pointer p := hx.of_env hk hg he (by simp [Op.operands])
  have e2 : a.eval y = .pointer q := hy.of_env hk hg he (by simp [Op.operands])
  simp [execOp, e1, e2, binOp, eqGuard, equalIn_ptr hT p q _ h, hr]
theorem sp_nilNeq {x y : Operand} {T T' E : TypeId} {p q : Option Addr} {r : Bool} (hT : P.underlying T = some (.pointer E)) (hx : Has S w0 a0 Γ x (Is (.pointer p))) (hy : Has S w0 a0 Γ y (Is (.pointer q))) (h : p = none ∨ q = none) (hr : (!(p.isNone && q.isNone)) = r) :
    Spec P ops S w0 a0 Γ ⟨d, .binOp .neq T x y T', ty, pos, af, gd⟩ (Is (.bool r)) := sp_val fun a g W hk hg he => by
  have e1 : a.eval x = .pointer p := hx.of_env hk hg he (by simp [Op.operands])
  have e2 : a.eval y = .pointer q := hy.of_env hk hg he (by simp [Op.operands])
  simp [execOp, e1, e2, binOp, eqGuard, equalIn_ptr hT p q _ h, hr]
/-- two addresses in plain rows -/
theorem run_sameAddr_cln {W : World} {a b : Addr} (hne : a ≠ b) (ha : Cln W.heap[a.block]?) (hb : Cln W.heap[b.block]?) : (sameAddr a b).run P W = .ok false W := by
  obtain ⟨c1, t1, h1⟩ := ha
  obtain ⟨c2, t2, h2⟩ := hb
  exact run_sameAddr_other W hne h1 h2
/-- a reference is compared with one that cannot be the same -/
theorem sp_refEq {x y : Operand} {T T' E : TypeId} {n : Nat} {X Y : BSet} {d1 d2 : D} (hT : P.underlying T = some (.pointer E)) (hz : szOf P E = some (n + 1)) (hx : Has S w0 a0 Γ x (IsR X d1)) (hy : Has S w0 a0 Γ y (IsR Y d2)) (hX : ∀ b o, X b o → Cln o) (hY : ∀ b o, Y b o → Cln o)
    (hd : ∀ W (X Y : BSet) cs, RdC W X d1 cs → RdC W Y d2 cs → False) (hw : width d1 = width d2) :
    Spec P ops S w0 a0 Γ ⟨d, .binOp .eql T x y T', ty, pos, af, gd⟩ (Is (.bool false)) := sp_val fun a g W hk hg he => by
  obtain ⟨b1, o1, c1, e1, x1, l1, ca1, r1⟩ := hx.of_env hk hg he (by simp [Op.operands])
  obtain ⟨b2, o2, c2, e2, x2, l2, ca2, r2⟩ := hy.of_env hk hg he (by simp [Op.operands])
  have hne : (⟨b1, o1, none⟩ : Addr) ≠ ⟨b2, o2, none⟩ := fun h => by
    injection h with h1 h2
    subst h1; subst h2
    have hl : c1.length = c2.length := by rw [rdc_width d1 c1 r1, rdc_width d2 c2 r2, hw]
    have : c1 = c2 := List.ext_getElem hl fun i hi hi' => by
      have q1 := ca1 i hi
      have q2 := ca2 i hi'
      rw [q1] at q2; exact Option.some.inj q2
    subst this
    exact hd W _ _ c1 r1 r2
  have hs := run_sameAddr_cln (P := P) hne (hX _ _ x1.1) (hY _ _ x2.1)
  have heq : (Op.equal T (.pointer (some ⟨b1, o1, none⟩)) (.pointer (some ⟨b2, o2, none⟩))).run P W = .ok false W := by
    show (Op.equalIn (9999 + 1) T _ _).run P W = _
    rw [Op.equalIn]
    simp [run_und hT, run_szOf hz, hs]
  simp [execOp, e1, e2, binOp, eqGuard, heq]
/-- a reference against nil -/
theorem sp_refNil {x y : Operand} {T T' E : TypeId} {X : BSet} {d1 : D} (hT : P.underlying T = some (.pointer E)) (hx : Has S w0 a0 Γ x (IsR X d1)) (hy : Has S w0 a0 Γ y (Is (.pointer none))) :
    Spec P ops S w0 a0 Γ ⟨d, .binOp .eql T x y T', ty, pos, af, gd⟩ (Is (.bool false)) := sp_val fun a g W hk hg he => by
  obtain ⟨b1, o1, c1, e1, x1, l1, ca1, r1⟩ := hx.of_env hk hg he (by simp [Op.operands])
  have e2 : a.eval y = .pointer none := hy.of_env hk hg he (by simp [Op.operands])
  simp [execOp, e1, e2, binOp, eqGuard, equalIn_ptr hT (some _) none _ (.inr rfl)]
theorem sp_band {x y : Operand} {T T' : TypeId} {m n : Int} (hx : Has S w0 a0 Γ x (Is (.int .i64 m))) (hy : Has S w0 a0 Γ y (Is (.int .i64 n))) :
    Spec P ops S w0 a0 Γ ⟨d, .binOp .and T x y T', ty, pos, af, gd⟩ (Is (.int .i64 (IntKind.i64.wrap (BitVec.ofInt 64 m &&& BitVec.ofInt 64 n).toNat))) := sp_val fun a g W hk hg he => by
  have e1 : a.eval x = .int .i64 m := hx.of_env hk hg he (by simp [Op.operands])
  have e2 : a.eval y = .int .i64 n := hy.of_env hk hg he (by simp [Op.operands])
  simp only [execOp, e1, e2, Sem.run_bind]
  simp [eqGuard, binOp, Op.intBits]
  rfl

/-! ### a value as data by its cells -/
theorem Has.refO {x : Operand} {b : Nat} {cs : List Value} {T : TypeId} {X : BSet} {xs : List D} (hx : Has All w0 a0 Γ x (Is (.pointer (some ⟨b, 0, none⟩)))) (ho : Own w0 b cs T) (hb : X b w0.heap[b]?) (hr : RdF w0 X xs cs) : Has All w0 a0 Γ x (IsR X (.agg xs)) :=
  hx.imp fun g u W hk hg hu => by
    have hu : u = .pointer (some ⟨b, 0, none⟩) := hu
    subst hu
    refine ref_base (w0 := w0) ⟨b, 0, cs, rfl, hb, ho.lt, fun i hi => ?_, by simp only [RdC]; exact hr⟩ hk hg (fun _ _ _ => trivial)
    rw [Nat.zero_add, ho.cell]; simp [hi]
/-- a box of the call's own as memory that reads as a value -/
theorem Has.refB {w : World} {S' : BSet} {M : List Nat} {x : Operand} {b : Nat} {cs : List Value} {T : TypeId} {y : V} (hx : Has All w0 a0 Γ x (Is (.pointer (some ⟨b, 0, none⟩)))) (ho : Own w0 b cs T) (hlo : w.heap.size ≤ b)
    (hr : Rd w0 (SA w S' M) y.d (.agg cs.toArray)) : Has All w0 a0 Γ x (IsR (SA w S' []) y.d) := by
  have hr' : Rd w0 (SA w S' []) y.d (.agg cs.toArray) := sa_less hr (by simp)
  obtain ⟨cs', h1, h2⟩ := hr'
  rw [V.d_eq] at h1 h2 ⊢
  have e : cs = cs' := by simpa [asm] using h2
  subst e
  simp only [RdC] at h1
  exact hx.refO ho ⟨fun h => by omega, fun _ => ⟨_, _, ho⟩, by simp⟩ h1
end
end Go.Eng
