/-
  Calls, stores, literals; a function's entry and its return.
-/
import Derived.Test.YtnobijngkpflcaaEngC
namespace Go.Eng

/-- a value of one cell -/
def oneC : Value → Bool
  | .agg _ => false
  | .tuple _ => false
  | _ => true

mutual
theorem rdc_one {W : World} {S : BSet} : ∀ (d : D) (cs : List Value), RdC W S d cs → ∀ c ∈ cs, oneC c = true
  | .bool b, cs, h, c, hc => by simp only [RdC] at h; subst h; simp at hc; subst hc; rfl
  | .int k n, cs, h, c, hc => by simp only [RdC] at h; subst h; simp at hc; subst hc; rfl
  | .str s, cs, h, c, hc => by simp only [RdC] at h; rw [h.1] at hc; simp at hc; subst hc; rfl
  | .lst sz xs, cs, h, c, hc => by simp only [RdC] at h; obtain ⟨a, cap, h1, _⟩ := h; rw [h1] at hc; simp at hc; subst hc; rfl
  | .agg xs, cs, h, c, hc => by simp only [RdC] at h; exact rdf_one xs cs h c hc
theorem rdf_one {W : World} {S : BSet} : ∀ (xs : List D) (cs : List Value), RdF W S xs cs → ∀ c ∈ cs, oneC c = true
  | [], cs, h, c, hc => by simp only [RdF] at h; subst h; simp at hc
  | x :: xs, cs, h, c, hc => by
    simp only [RdF] at h
    obtain ⟨c1, c2, h1, h2, h3⟩ := h
    rw [h1] at hc
    rcases List.mem_append.1 hc with h | h
    · exact rdc_one x c1 h2 c h
    · exact rdf_one xs c2 h3 c h
end

section
variable {P : Program} {ops : Array Oper} {S : Nat → Prop} {w0 : World} {a0 : Act} {Γ : Ctx}
variable {d : Option Tmp} {ty : TypeId} {pos : String} {af : Array Edge} {gd : Option (Nat × Bool)}

/-! ### calls -/
def Enters (P : Program) (f : FuncId) : Prop := ∀ (args : Array Value) w, (callFunc f args).run P w = .ok (.enter f args) w
theorem enters_of {f : FuncId} {fn : Func} (hf : P.funcs[f]? = some fn) (hn : (fn.name == "runtime.NumGoroutine") = false) (hb : fn.body.isNone = false) : Enters P f := fun args w => by
  have hb' : fn.body ≠ none := by intro h; rw [h] at hb; cases hb
  have hn' : fn.name ≠ "runtime.NumGoroutine" := by simpa using hn
  simp [callFunc, program, Sem.run, hf, hn', hb']

theorem sp_call {f : FuncId} {xs : Array Operand} {ts : Array TypeId} {φ : Fact} (hf : Enters P f)
    (h : ∀ a g W, Keeps S w0 W → GOk w0 W g → Env Γ a0 a g W (Oper.looksAt ops ⟨d, .call ⟨.value (.func f), xs, ts⟩, ty, pos, af, gd⟩) → Calls P f (xs.map a.eval) W (Ret W (φ g))) :
    Spec P ops S w0 a0 Γ ⟨d, .call ⟨.value (.func f), xs, ts⟩, ty, pos, af, gd⟩ φ := fun a g W hk hg he => by
  unfold OpRuns
  rw [run_call rfl hf]
  exact (h a g W hk hg he).mono fun e W' ⟨v, h1, h2, h3⟩ => ⟨v, h1, h2, h3⟩
theorem sp_call0 {f : FuncId} {ts : Array TypeId} {φ : Fact} (hf : Enters P f) (hc : ∀ g W, Keeps S w0 W → GOk w0 W g → Calls P f #[] W (Ret W (φ g))) :
    Spec P ops S w0 a0 Γ ⟨d, .call ⟨.value (.func f), #[], ts⟩, ty, pos, af, gd⟩ φ := sp_call hf fun a g W hk hg _ => by simpa using hc g W hk hg
theorem sp_call1 {f : FuncId} {x : Operand} {ts : Array TypeId} {φ1 φ : Fact} (hf : Enters P f) (hx : Has S w0 a0 Γ x φ1) (hc : ∀ g u W, Keeps S w0 W → GOk w0 W g → φ1 g u W → Calls P f #[u] W (Ret W (φ g))) :
    Spec P ops S w0 a0 Γ ⟨d, .call ⟨.value (.func f), #[x], ts⟩, ty, pos, af, gd⟩ φ := sp_call hf fun a g W hk hg he => by
  simpa using hc g _ W hk hg (hx.of_env hk hg he (by simp [Op.operands, Call.operands]))
theorem sp_call2 {f : FuncId} {x y : Operand} {ts : Array TypeId} {φ1 φ2 φ : Fact} (hf : Enters P f) (hx : Has S w0 a0 Γ x φ1) (hy : Has S w0 a0 Γ y φ2)
    (hc : ∀ g u1 u2 W, Keeps S w0 W → GOk w0 W g → φ1 g u1 W → φ2 g u2 W → Calls P f #[u1, u2] W (Ret W (φ g))) :
    Spec P ops S w0 a0 Γ ⟨d, .call ⟨.value (.func f), #[x, y], ts⟩, ty, pos, af, gd⟩ φ := sp_call hf fun a g W hk hg he => by
  simpa using hc g _ _ W hk hg (hx.of_env hk hg he (by simp [Op.operands, Call.operands])) (hy.of_env hk hg he (by simp [Op.operands, Call.operands]))
theorem sp_call3 {f : FuncId} {x y z : Operand} {ts : Array TypeId} {φ1 φ2 φ3 φ : Fact} (hf : Enters P f) (hx : Has S w0 a0 Γ x φ1) (hy : Has S w0 a0 Γ y φ2) (hz : Has S w0 a0 Γ z φ3)
    (hc : ∀ g u1 u2 u3 W, Keeps S w0 W → GOk w0 W g → φ1 g u1 W → φ2 g u2 W → φ3 g u3 W → Calls P f #[u1, u2, u3] W (Ret W (φ g))) :
    Spec P ops S w0 a0 Γ ⟨d, .call ⟨.value (.func f), #[x, y, z], ts⟩, ty, pos, af, gd⟩ φ := sp_call hf fun a g W hk hg he => by
  simpa using hc g _ _ _ W hk hg (hx.of_env hk hg he (by simp [Op.operands, Call.operands])) (hy.of_env hk hg he (by simp [Op.operands, Call.operands])) (hz.of_env hk hg he (by simp [Op.operands, Call.operands]))
theorem sp_call4 {f : FuncId} {x y z x4 : Operand} {ts : Array TypeId} {φ1 φ2 φ3 φ4 φ : Fact} (hf : Enters P f) (hx : Has S w0 a0 Γ x φ1) (hy : Has S w0 a0 Γ y φ2) (hz : Has S w0 a0 Γ z φ3) (h4 : Has S w0 a0 Γ x4 φ4)
    (hc : ∀ g u1 u2 u3 u4 W, Keeps S w0 W → GOk w0 W g → φ1 g u1 W → φ2 g u2 W → φ3 g u3 W → φ4 g u4 W → Calls P f #[u1, u2, u3, u4] W (Ret W (φ g))) :
    Spec P ops S w0 a0 Γ ⟨d, .call ⟨.value (.func f), #[x, y, z, x4], ts⟩, ty, pos, af, gd⟩ φ := sp_call hf fun a g W hk hg he => by
  simpa using hc g _ _ _ _ W hk hg (hx.of_env hk hg he (by simp [Op.operands, Call.operands])) (hy.of_env hk hg he (by simp [Op.operands, Call.operands])) (hz.of_env hk hg he (by simp [Op.operands, Call.operands])) (h4.of_env hk hg he (by simp [Op.operands, Call.operands]))

/-- a plain row of cells, without marks -/
def Cln (o : Option Obj) : Prop := ∃ c T, o = some (.cells c T (0, 0))
/-- the blocks that a call from W on has made -/
def Fr (W : World) : BSet := fun b o => W.heap.size ≤ b ∧ Cln o
theorem fresh_out {W : World} {g : Gh} (hk : Keeps S w0 W) (hg : GOk w0 W g) (b : Nat) (o : Option Obj) (h : Fr W b o) : Fr w0 b o ∧ Out g b :=
  ⟨⟨Nat.le_trans hk.size h.1, h.2⟩, fun t ht => by have := hg.hi t b ht; have := h.1; omega⟩
theorem fresh_d {W W' : World} {g : Gh} {dd : D} {v : Value} (hk : Keeps S w0 W) (hg : GOk w0 W g) (h : Rd W' (Fr W) dd v) : IsD (Fr w0) dd g v W' := h.mono fun b o hb _ => fresh_out hk hg b o hb

/-! ### stores -/
def splice (cs : List Value) (o : Nat) (vs : List Value) : List Value := cs.take o ++ vs ++ cs.drop (o + vs.length)

theorem run_storeCells {b : Nat} {T0 : TypeId} : ∀ (vs : List Value) (i o : Nat) (W : World) (cs : List Value), Own W b cs T0 → o + i + vs.length ≤ cs.length → (∀ c ∈ vs, oneC c = true) →
    ∃ W', (storeCells ⟨b, o, none⟩ vs i).run P W = .ok () W' ∧ Keeps (fun k => k ≠ b) W W' ∧ Own W' b (splice cs (o + i) vs) T0
  | [], i, o, W, cs, ho, _, _ => ⟨W, by simp [storeCells], .refl _ _, by simpa [splice] using ho⟩
  | v :: vs, i, o, W, cs, ho, hl, h1 => by
    simp only [List.length_cons] at hl
    have hlt : o + i < cs.length := by omega
    have hc : W.cell? ⟨b, o + i, none⟩ = some cs[o + i] := by rw [ho.cell]; simp [hlt]
    have hstore : (store ((⟨b, o, none⟩ : Addr).add i) v).run P W = .ok () (W.setCell ⟨b, o + i, none⟩ v) := by
      rw [add_none]
      have hv := h1 v List.mem_cons_self
      have hfz := ho.free (o + i)
      cases v <;> simp [store, Sem.run, hc, hfz, oneC] at hv ⊢
    have ho' : Own (W.setCell ⟨b, o + i, none⟩ v) b (cs.set (o + i) v) T0 := by
      unfold Own at ho ⊢
      simp [World.setCell, Array.getElem?_modify, ho]
    have hk : Keeps (fun k => k ≠ b) W (W.setCell ⟨b, o + i, none⟩ v) := ⟨rfl, rfl, rfl, by simp, fun k _ hne => RowKit.Below.heap_setCell _ _ _ _ hne⟩
    obtain ⟨W', h2, h3, h4⟩ := run_storeCells vs (i + 1) o _ _ ho' (by simp; omega) (fun c hc => h1 c (List.mem_cons_of_mem _ hc))
    refine ⟨W', by simp [storeCells, hstore, h2], hk.trans h3, ?_⟩
    have : splice (cs.set (o + i) v) (o + (i + 1)) vs = splice cs (o + i) (v :: vs) := by
      unfold splice
      rw [show o + (i + 1) = o + i + 1 by omega, List.take_set, List.drop_set_of_lt (by omega), List.take_succ_eq_append_getElem hlt,
        List.set_append_right _ _ (by simp; omega)]
      simp [Nat.min_eq_left (Nat.le_of_lt hlt)]
      rw [show o + i + 1 + vs.length = o + i + (vs.length + 1) by omega]
    rw [← this]; exact h4

theorem tail_store {Q : Exit → Act → World → Prop} {r : List Oper} {a : Act} {W : World} {T T0 : TypeId} {x y : Operand} {b o n : Nat} {v : Value} {cs : List Value}
    (hx : a.eval x = .pointer (some ⟨b, o, none⟩)) (hy : a.eval y = v) (hz : szOf P T = some n) (hn : v.cells.size = n) (ho : Own W b cs T0) (hl : o + n ≤ cs.length) (h1 : ∀ c ∈ v.cells.toList, oneC c = true)
    (h : ∀ W', Keeps (fun k => k ≠ b) W W' → Own W' b (splice cs o v.cells.toList) T0 → runTail P ops Q r a W') :
    runTail P ops Q (⟨none, .store T x y, ty, pos, af, none⟩ :: r) a W := by
  obtain ⟨W', h2, h3, h4⟩ := run_storeCells (P := P) v.cells.toList 0 o W cs ho (by simp; omega) h1
  have hw : Region.wanted (⟨none, .store T x y, ty, pos, af, none⟩ : Oper) (yielded ops a.tmps) = true := rfl
  unfold runTail ObRun; rw [if_pos hw]
  unfold OpRuns
  have : (execOp a.eval ⟨none, .store T x y, ty, pos, af, none⟩).run P W = .ok .skip W' := by
    simp [execOp, hx, hy, Instr.storeAt, Instr.sureAddr, storeVar, run_szOf hz, hn, h2]
  rw [this]
  exact h W' h3 (by simpa using h4)
theorem tail_nil {Q : Exit → Act → World → Prop} {a : Act} {W : World} (h : Q .normal a W) : runTail P ops Q [] a W := h

/-! ### a function's entry and its return -/
theorem enter {f : FuncId} {fn : Func} {body : Code} {args : Array Value} {N : Nat} {w : World} {R : Ending → World → Prop} (hf : P.funcs[f]? = some fn) (hb : fn.body = some body) (hN : fn.ntmps = N) (hle : args.size ≤ N)
    (h : ∀ a, a.tmps.size = N → a.defers = [] → (∀ i, i < args.size → sl a i = args.getD i undef) → body.wp P (bodyPost P fn R) a w) : Calls P f args w R := by
  refine calls_of_wp hf hb (h _ ?_ rfl ?_)
  · subst hN; simp; omega
  · intro i hi
    simp [sl, Array.getD_eq_getD_getElem?, Array.getElem?_append_left hi]

section
variable {fn : Func} {R : Ending → World → Prop} {a : Act} {W : World}
theorem ret1 {t : Nat} {v : Value} (hr : fn.results = #[.tmp t]) (hd : a.defers = []) (h : sl a t = v) (hR : R (.returned v) W) : bodyPost P fn R .ret a W :=
  ⟨hd, v, by
    have e1 : a.tmps.getD t undef = v := h
    simp only [results, hr]; simp [Array.getD_eq_getD_getElem?] at e1 ⊢; exact e1, hR⟩
theorem ret0 (hr : fn.results = #[]) (hd : a.defers = []) (hR : R (.returned (.tuple #[])) W) : bodyPost P fn R .ret a W :=
  ⟨hd, .tuple #[], by simp only [results, hr]; simp, hR⟩
theorem ret2 {t u : Nat} {v1 v2 : Value} (hr : fn.results = #[.tmp t, .tmp u]) (hd : a.defers = []) (h1 : sl a t = v1) (h2 : sl a u = v2) (hR : R (.returned (.tuple #[v1, v2])) W) : bodyPost P fn R .ret a W :=
  ⟨hd, .tuple #[v1, v2], by
    have e1 : a.tmps.getD t undef = v1 := h1
    have e2 : a.tmps.getD u undef = v2 := h2
    simp only [results, hr]; simp [Array.getD_eq_getD_getElem?] at e1 e2 ⊢; simp [e1, e2], hR⟩
theorem run_cellVar {t T b n : Nat} {ag : Bool} {cs : List Value} {T' : TypeId} {v : Value} (hp : sl a t = .pointer (some ⟨b, 0, none⟩)) (ho : Own W b cs T') (hT : aggB P T = some ag) (hz : szOf P T = some n) (hn : cs.length = n) (h1 : ag = false → n = 1)
    (hv : (if ag then .agg cs.toArray else cs.headD undef) = v) : (do loadVar T (← asAddr (a.tmps.getD t undef)) : Sem Value).run P W = .ok v W := by
  have e : a.tmps.getD t undef = .pointer (some ⟨b, 0, none⟩) := hp
  have hc : CellsAt W b 0 cs := fun i hi => by rw [ho.cell]; simp [hi]
  have := run_loadVar (P := P) hc hT hz hn h1
  rw [e]
  simp only [Sem.run_bind, asAddr, Sem.run_pure, Result.andThen_ok, this, hv]
theorem retC {t T b n : Nat} {ag : Bool} {cs : List Value} {T' : TypeId} {v : Value} (hr : fn.results = #[.cell t T]) (hd : a.defers = []) (hp : sl a t = .pointer (some ⟨b, 0, none⟩)) (ho : Own W b cs T') (hT : aggB P T = some ag) (hz : szOf P T = some n) (hn : cs.length = n) (h1 : ag = false → n = 1)
    (hv : (if ag then .agg cs.toArray else cs.headD undef) = v) (hR : R (.returned v) W) : bodyPost P fn R .ret a W :=
  ⟨hd, v, by
    have := run_cellVar (P := P) hp ho hT hz hn h1 hv
    simp only [results, hr]
    simp only [Sem.run_bind, Array.getD_eq_getD_getElem?] at this
    simp [Array.getD_eq_getD_getElem?]
    cases hq : (asAddr (a.tmps[t]?.getD undef)).run P W with
    | halt x w => rw [hq] at this; simp at this
    | ok x w =>
      rw [hq] at this; simp only [Result.andThen_ok] at this ⊢
      rw [this], hR⟩
theorem retCT {t u T b n : Nat} {ag : Bool} {cs : List Value} {T' : TypeId} {v v2 : Value} (hr : fn.results = #[.cell t T, .tmp u]) (hd : a.defers = []) (hp : sl a t = .pointer (some ⟨b, 0, none⟩)) (ho : Own W b cs T') (hT : aggB P T = some ag) (hz : szOf P T = some n) (hn : cs.length = n) (h1 : ag = false → n = 1)
    (hv : (if ag then .agg cs.toArray else cs.headD undef) = v) (h2 : sl a u = v2) (hR : R (.returned (.tuple #[v, v2])) W) : bodyPost P fn R .ret a W :=
  ⟨hd, .tuple #[v, v2], by
    have := run_cellVar (P := P) hp ho hT hz hn h1 hv
    have e2 : a.tmps.getD u undef = v2 := h2
    rw [results_cell_tmp hr]
    simp only [Sem.run_bind] at this
    cases hq : (asAddr (a.tmps.getD t undef)).run P W with
    | halt x w => rw [hq] at this; simp at this
    | ok x w =>
      rw [hq] at this; simp only [Result.andThen_ok] at this ⊢
      rw [this]; simp only [Result.andThen_ok, e2], hR⟩
end
end
end Go.Eng
