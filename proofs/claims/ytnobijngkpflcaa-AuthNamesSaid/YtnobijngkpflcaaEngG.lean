/-
  Strings' slices and iterators; calls that write into one box.
-/
import Derived.Test.YtnobijngkpflcaaEngF
import Derived.Laws.RangeString
import Derived.Laws.Runes
namespace Go.Eng

section
variable {P : Program} {ops : Array Oper} {S : Nat → Prop} {w0 : World} {a0 : Act} {Γ : Ctx}
variable {d : Option Tmp} {ty : TypeId} {pos : String} {af : Array Edge} {gd : Option (Nat × Bool)}

theorem sp_extT {x : Operand} {vs : Array Value} {v : Value} {i : Nat} (hx : Has S w0 a0 Γ x (Is (.tuple vs))) (hv : vs[i]? = some v) : Spec P ops S w0 a0 Γ ⟨d, .extract x i, ty, pos, af, gd⟩ (Is v) := sp_val fun a g W hk hg he => by
  have e1 : a.eval x = .tuple vs := hx.of_env hk hg he (by simp [Op.operands])
  simp [execOp, e1, Instr.extract, hv]
theorem sp_sliceLo {x y : Operand} {T : TypeId} {s : ByteArray} {j : Int} {i : Nat} (hT : P.underlying T = some .string) (hx : Has S w0 a0 Γ x (Is (.string s))) (hy : Has S w0 a0 Γ y (Is (.int .i64 j))) (hj : j = i) (hi : i ≤ s.size) :
    Spec P ops S w0 a0 Γ ⟨d, .slice T x (some y) none none, ty, pos, af, gd⟩ (Is (.string (s.extract i s.size))) := sp_val fun a g W hk hg he => by
  have e1 : a.eval x = .string s := hx.of_env hk hg he (by simp [Op.operands])
  have e2 : a.eval y = .int .i64 j := hy.of_env hk hg he (by simp [Op.operands])
  subst hj
  have hle : (0 : Int) ≤ (i : Int) ∧ (i : Int) ≤ (s.size : Int) := by omega
  simp [execOp, Instr.sliceAt, Instr.slice, Instr.sliceBounds, Instr.sliceBound, asIntOf, e1, e2, run_und hT, hle]
  intro h; omega
theorem sp_sliceHi {x y : Operand} {T : TypeId} {s : ByteArray} {j : Int} {i : Nat} (hT : P.underlying T = some .string) (hx : Has S w0 a0 Γ x (Is (.string s))) (hy : Has S w0 a0 Γ y (Is (.int .i64 j))) (hj : j = i) (hi : i ≤ s.size) :
    Spec P ops S w0 a0 Γ ⟨d, .slice T x none (some y) none, ty, pos, af, gd⟩ (Is (.string (s.extract 0 i))) := sp_val fun a g W hk hg he => by
  have e1 : a.eval x = .string s := hx.of_env hk hg he (by simp [Op.operands])
  have e2 : a.eval y = .int .i64 j := hy.of_env hk hg he (by simp [Op.operands])
  subst hj
  simp [execOp, Instr.sliceAt, Instr.slice, Instr.sliceBounds, Instr.sliceBound, asIntOf, e1, e2, run_und hT]
  intro h; omega

/-! ### an iterator over a string -/
def OwnIt (W : World) (b : Nat) (s : ByteArray) (p : Nat) : Prop := W.heap[b]? = some (.stringIter s p)
theorem OwnIt.lt {W : World} {b : Nat} {s : ByteArray} {p : Nat} (h : OwnIt W b s p) : b < W.heap.size := (Array.getElem?_eq_some_iff.1 h).1
theorem OwnIt.keeps {W W' : World} {S : Nat → Prop} {b : Nat} {s : ByteArray} {p : Nat} (h : OwnIt W b s p) (k : Keeps S W W') (hs : S b) : OwnIt W' b s p := (k.block b h.lt hs).trans h
theorem OwnIt.ext {W W' : World} {b : Nat} {s : ByteArray} {p : Nat} (h : OwnIt W b s p) (k : Ext W W') : OwnIt W' b s p := h.keeps k trivial
theorem ownIt_store {W W' : World} {b b' : Nat} {s : ByteArray} {p : Nat} (h : OwnIt W b' s p) (k : Keeps (fun x => x ≠ b) W W') (hne : b' ≠ b) : OwnIt W' b' s p := h.keeps k hne
def IsIt (s : ByteArray) (t : Nat) : Fact := fun g u W => ∃ b, u = .pointer (some ⟨b, 0, none⟩) ∧ (t, b) ∈ g ∧ OwnIt W b s 0
theorem st_it {s : ByteArray} {t : Nat} : Stable All (IsIt s t) :=
  ⟨fun _ _ _ _ k ⟨b, h1, h2, h3⟩ => ⟨b, h1, h2, h3.ext k⟩, fun _ _ _ _ _ _ ⟨b, h1, h2, h3⟩ => ⟨b, h1, List.mem_cons_of_mem _ h2, h3⟩⟩
variable {K : List Oper → Ctx → (World → Prop) → List Bool → Prop} {l : List Oper} {Ψ Ψ' : World → Prop} {ms : List Bool} {fl : Bool}
theorem Chain.rangeS {t : Nat} {T : TypeId} {x : Operand} {s : ByteArray} (hT : P.underlying T = some .string) (hx : Has All w0 a0 Γ x (Is (.string s))) (h : Chain P ops All w0 a0 K fl l ((some t, IsIt s t) :: Γ) Ψ (false :: ms)) :
    Chain P ops All w0 a0 K fl (⟨some t, .range T x, ty, pos, af, none⟩ :: l) Γ Ψ ms := by
  refine .box _ t st_it rfl (fun a g W hk hg he => ?_) h
  have e1 : a.eval x = .string s := hx.of_env hk hg he (by simp [Op.operands])
  have hw : Region.wanted (⟨some t, .range T x, ty, pos, af, none⟩ : Oper) (yielded ops a.tmps) = true := rfl
  unfold ObRun; rw [if_pos hw]
  unfold OpRuns
  have : (execOp a.eval ⟨some t, .range T x, ty, pos, af, none⟩).run P W = .ok (.value (.pointer (some ⟨W.heap.size, 0, none⟩))) (W.iter s 0) := by
    simp [execOp, e1, run_range_string _ _ _ hT]
  rw [this]
  exact ⟨ext_alloc _ _, by simp [World.iter], W.heap.size, rfl, List.mem_cons_self, World.iter_heap _ _ _⟩

theorem run_nextS {W : World} {b : Nat} {s : ByteArray} {p : Nat} {ty : TypeId} (h : OwnIt W b s p) :
    ∃ W', (Instr.next (.pointer (some ⟨b, 0, none⟩)) true ty).run P W = .ok (.tuple (if p < s.size then #[.bool true, .int .i64 p, .int .i32 (Utf8.decode s p).1] else #[.bool false])) W' ∧
      Keeps (fun k => k ≠ b) W W' ∧ OwnIt W' b s (if p < s.size then p + (Utf8.decode s p).2 else p) := by
  unfold OwnIt at h ⊢
  by_cases hp : p < s.size
  · refine ⟨{ W with heap := W.heap.setIfInBounds b (.stringIter s (p + (Utf8.decode s p).2)) }, ?_, ⟨rfl, rfl, rfl, by simp, fun k hk hne => ?_⟩, ?_⟩
    · simp [Instr.next, getObj, setObj, Sem.run, h, hp, goInt]
    · simp [Array.getElem?_setIfInBounds, Ne.symm hne]
    · have := (Array.getElem?_eq_some_iff.1 h).1
      simp [hp, Array.getElem?_setIfInBounds, this]
  · refine ⟨W, ?_, .refl _ _, ?_⟩
    · simp [Instr.next, getObj, Sem.run, h, hp]
    · simpa [hp] using h

/-- the region at a round's head: next, and its flag -/
theorem wp_next {id N : Nat} {Q : Exit → Act → World → Prop} {t dn de : Nat} {ty1 ty2 : TypeId} {p1 p2 : String} {f1 f2 : Array Edge} {b p : Nat} {s : ByteArray}
    (hm : P.follows .mixedOrders = true) (hN : a0.tmps.size = N) (hd : a0.defers = []) (ht : sl a0 t = .pointer (some ⟨b, 0, none⟩)) (ho : OwnIt w0 b s p) (htd : t ≠ dn)
    (hc : chk false (Region.before #[⟨some dn, .next (.tmp t) true, ty1, p1, f1, none⟩, ⟨some de, .extract (.tmp dn) 0, ty2, p2, f2, none⟩]) N #[⟨some dn, .next (.tmp t) true, ty1, p1, f1, none⟩, ⟨some de, .extract (.tmp dn) 0, ty2, p2, f2, none⟩] [true, false] 2 = true)
    (h1 : ∀ a W, a.tmps.size = N → a.defers = [] → Keeps (fun k => k ≠ b) w0 W → p < s.size → OwnIt W b s (p + (Utf8.decode s p).2) → sl a dn = .tuple #[.bool true, .int .i64 p, .int .i32 (Utf8.decode s p).1] → sl a de = .bool true → (∀ t, t ≠ dn → t ≠ de → sl a t = sl a0 t) → Q .normal a W)
    (h2 : ∀ a W, a.tmps.size = N → a.defers = [] → Keeps (fun k => k ≠ b) w0 W → ¬ p < s.size → OwnIt W b s p → sl a dn = .tuple #[.bool false] → sl a de = .bool false → (∀ t, t ≠ dn → t ≠ de → sl a t = sl a0 t) → Q .normal a W) :
    (Code.region id #[⟨some dn, .next (.tmp t) true, ty1, p1, f1, none⟩, ⟨some de, .extract (.tmp dn) 0, ty2, p2, f2, none⟩] false).wp P Q a0 w0 := by
  refine wp_reg (fun k => k ≠ b) (Ψ := fun W => OwnIt W b s p) hm hN hd (fun W W' k h => h.ext k) ho ?_
  refine Chain.main (φ := Is (.tuple (if p < s.size then #[.bool true, .int .i64 p, .int .i32 (Utf8.decode s p).1] else #[.bool false]))) (Ψ' := fun W => OwnIt W b s (if p < s.size then p + (Utf8.decode s p).2 else p)) (st_is _) (fun W W' k h => h.ext k) ?_ ?_
  · intro a g W hk hg he hψ
    have hx : Has (fun k => k ≠ b) w0 a0 [] (.tmp t) (Is (.pointer (some ⟨b, 0, none⟩))) := Has.base rfl ht
    have e1 : a.eval (.tmp t) = .pointer (some ⟨b, 0, none⟩) := hx.of_env hk hg he (by simp [Op.operands])
    obtain ⟨W', r1, r2, r3⟩ := run_nextS (P := P) (ty := ty1) hψ
    have hw : Region.wanted (⟨some dn, .next (.tmp t) true, ty1, p1, f1, none⟩ : Oper) (yielded #[⟨some dn, .next (.tmp t) true, ty1, p1, f1, none⟩, ⟨some de, .extract (.tmp dn) 0, ty2, p2, f2, none⟩] a.tmps) = true := rfl
    unfold ObRun; rw [if_pos hw]
    unfold OpRuns
    have : (execOp a.eval ⟨some dn, .next (.tmp t) true, ty1, p1, f1, none⟩).run P W = .ok (.value (.tuple (if p < s.size then #[.bool true, .int .i64 p, .int .i32 (Utf8.decode s p).1] else #[.bool false]))) W' := by
      simp [execOp, e1, r1]
    rw [this]
    exact ⟨r2, rfl, r3⟩
  refine Chain.op (φ := Is (.bool (decide (p < s.size)))) (st_is _) (sp_extT (vs := if p < s.size then #[.bool true, .int .i64 p, .int .i32 (Utf8.decode s p).1] else #[.bool false]) (Has.loc (by simp [look])) ?_) ?_
  · by_cases hp : p < s.size <;> simp [hp]
  refine Chain.done ⟨hc, fun a g W hsz hdf hk hg henv hrest hψ => ?_⟩
  obtain ⟨e2, e1, -⟩ := henv
  have e1 : sl a dn = _ := e1
  have e2 : sl a de = _ := e2
  have hr : ∀ t, t ≠ dn → t ≠ de → sl a t = sl a0 t := fun t q1 q2 => hrest t (by simp [notIn, q1.symm, q2.symm])
  refine tail_nil ?_
  by_cases hp : p < s.size
  · simp only [hp, if_true, decide_true] at e1 e2 hψ
    exact h1 a W hsz hdf hk hp hψ e1 e2 hr
  · simp only [hp, if_false, decide_false] at e1 e2 hψ
    exact h2 a W hsz hdf hk hp hψ e1 e2 hr

/-! ### a call that writes into one box -/
theorem Chain.callW3 {f : FuncId} {x y z : Operand} {ts : Array TypeId} {φ1 φ2 φ3 φ : Fact} (hf : Enters P f) (hx : Has S w0 a0 Γ x φ1) (hy : Has S w0 a0 Γ y φ2) (hz : Has S w0 a0 Γ z φ3) (hst : Stable S φ) (hst' : StableE Ψ')
    (hc : ∀ g u1 u2 u3 W, Keeps S w0 W → GOk w0 W g → φ1 g u1 W → φ2 g u2 W → φ3 g u3 W → Ψ W → Calls P f #[u1, u2, u3] W fun e W' => ∃ v, e = .returned v ∧ Keeps S W W' ∧ φ g v W' ∧ Ψ' W')
    (h : Chain P ops S w0 a0 K false l ((d, φ) :: Γ) Ψ' (true :: ms)) :
    Chain P ops S w0 a0 K false (⟨d, .call ⟨.value (.func f), #[x, y, z], ts⟩, ty, pos, af, none⟩ :: l) Γ Ψ ms := by
  refine Chain.main φ Ψ' hst hst' (fun a g W hk hg he hψ => ?_) h
  have hw : Region.wanted (⟨d, .call ⟨.value (.func f), #[x, y, z], ts⟩, ty, pos, af, none⟩ : Oper) (yielded ops a.tmps) = true := rfl
  unfold ObRun; rw [if_pos hw]
  unfold OpRuns
  rw [run_call rfl hf]
  have := hc g _ _ _ W hk hg (hx.of_env hk hg he (by simp [Op.operands, Call.operands])) (hy.of_env hk hg he (by simp [Op.operands, Call.operands])) (hz.of_env hk hg he (by simp [Op.operands, Call.operands])) hψ
  simpa using this
/-- what a call hands back that may write into the block b -/
def RetB (W : World) (b : Nat) (φ : Value → World → Prop) : Ending → World → Prop := fun e W' => ∃ v, e = .returned v ∧ Keeps (fun k => k ≠ b) W W' ∧ φ v W'
theorem sub_ne {w : World} {S' : BSet} {M : List Nat} {b : Nat} (hb : b ∈ M) : ∀ b' o, SA w S' M b' o → b' ≠ b := fun _ _ h e => h.2.2 (e ▸ hb)
theorem sub_neF {w : World} {M : List Nat} {b : Nat} (hb : b ∈ M) : ∀ b' o, SF w M b' o → b' ≠ b := fun _ _ h e => h.2.2 (e ▸ hb)
theorem rd_argM {w : World} {S : BSet} {M : List Nat} {d : D} {v : Value} (h : Rd w S d v) (hM : ∀ b ∈ M, ∀ o, ¬ S b o) : Rd w (SA w S M) d v := h.mono fun b o hb hlt => ⟨fun _ => hb, fun h' => by omega, fun hm => hM b hm o hb⟩
theorem keeps_store {S0 : Nat → Prop} {w W W' : World} {b : Nat} (h : Keeps S0 w W) (k : Keeps (fun x => x ≠ b) W W') (hb : w.heap.size ≤ b) : Keeps S0 w W' :=
  ⟨k.os.trans h.os, k.tape.trans h.tape, k.output.trans h.output, Nat.le_trans h.size k.size, fun i hi hs => by
    rw [k.block i (Nat.lt_of_lt_of_le hi h.size) (by intro e; omega)]; exact h.block i hi hs⟩
/-! ### guards under guards -/
def UnderE (p : Prop) (φ : Fact) : Fact := fun g u W => (p → φ g u W) ∧ (¬ p → u = undef)
theorem st_underE {S : Nat → Prop} {p : Prop} {φ : Fact} (h : p → Stable S φ) : Stable S (UnderE p φ) :=
  ⟨fun _ _ _ _ k hu => ⟨fun hp => (h hp).world _ _ _ _ k (hu.1 hp), hu.2⟩, fun _ _ _ _ _ hb hu => ⟨fun hp => (h hp).ghost _ _ _ _ _ hb (hu.1 hp), hu.2⟩⟩
theorem Has.undE {x : Operand} {p : Prop} {φ : Fact} (h : Has S w0 a0 Γ x (UnderE p φ)) (hp : p) : Has S w0 a0 Γ x φ := h.imp fun _ _ _ _ _ hu => hu.1 hp
theorem Has.weak {x : Operand} {p q : Prop} {φ : Fact} (h : Has S w0 a0 Γ x (UnderE p φ)) (hq : q → p) : Has S w0 a0 Γ x (Under q φ) := h.imp fun _ _ _ _ _ hu hp => hu.1 (hq hp)
theorem yl_of {a : Act} {gi t : Nat} {x : Bool} (ht : (ops[gi]?).bind (·.dst) = some t) (hv : sl a t = .bool x) : yielded ops a.tmps gi = some x := by
  unfold yielded
  rw [ht]
  simp only [Option.bind_some]
  have h2 : a.tmps.getD t undef = .bool x := hv
  rw [Array.getD_eq_getD_getElem?] at h2
  cases hq : a.tmps[t]? with
  | none => rw [hq] at h2; simp [undef] at h2
  | some q => rw [hq] at h2; simp at h2; rw [h2]
theorem yl_un {a : Act} {gi t : Nat} (ht : (ops[gi]?).bind (·.dst) = some t) (hv : sl a t = undef) : yielded ops a.tmps gi = none := by
  unfold yielded
  rw [ht]
  simp only [Option.bind_some]
  have h2 : a.tmps.getD t undef = undef := hv
  rw [Array.getD_eq_getD_getElem?] at h2
  cases hq : a.tmps[t]? with
  | none => rfl
  | some q => rw [hq] at h2; simp at h2; rw [h2]; rfl
theorem Chain.opE {op : Op} {gi t : Nat} {want x : Bool} {φ : Fact} (ht : (ops[gi]?).bind (·.dst) = some t)
    (hb : Has S w0 a0 Γ (.tmp t) (Is (.bool x)))
    (hst : Stable S φ) (hs : x = want → Spec P ops S w0 a0 Γ ⟨d, op, ty, pos, af, some (gi, want)⟩ φ)
    (h : Chain P ops S w0 a0 K fl l ((d, UnderE (x = want) φ) :: Γ) Ψ (false :: ms)) : Chain P ops S w0 a0 K fl (⟨d, op, ty, pos, af, some (gi, want)⟩ :: l) Γ Ψ ms := by
  refine .side _ (st_underE fun _ => hst) (fun a g W hk hg he => ?_) h
  have hv : sl a t = .bool x := hb a g W hk hg fun u hu => by
    cases hu
    exact he.get (List.mem_append_right _ (by simp [ht]))
  have hyl := yl_of ht hv
  unfold ObRun
  by_cases hx : x = want
  · rw [if_pos (by simp [Region.wanted, hyl, hx])]
    exact (hs hx a g W hk hg he).mono fun v W' ⟨h1, h2⟩ => ⟨h1, fun _ => h2, fun h => absurd hx h⟩
  · rw [if_neg (by simp [Region.wanted, hyl, hx])]
    exact ⟨.refl _ _, fun e => absurd e hx, fun _ => rfl⟩
theorem Chain.opEE {op : Op} {gi t : Nat} {want x : Bool} {p : Prop} {φ : Fact} (ht : (ops[gi]?).bind (·.dst) = some t)
    (hb : Has S w0 a0 Γ (.tmp t) (UnderE p (Is (.bool x))))
    (hst : Stable S φ) (hs : p ∧ x = want → Spec P ops S w0 a0 Γ ⟨d, op, ty, pos, af, some (gi, want)⟩ φ)
    (h : Chain P ops S w0 a0 K fl l ((d, UnderE (p ∧ x = want) φ) :: Γ) Ψ (false :: ms)) : Chain P ops S w0 a0 K fl (⟨d, op, ty, pos, af, some (gi, want)⟩ :: l) Γ Ψ ms := by
  refine .side _ (st_underE fun _ => hst) (fun a g W hk hg he => ?_) h
  have hv : UnderE p (Is (.bool x)) g (sl a t) W := hb a g W hk hg fun u hu => by
    cases hu
    exact he.get (List.mem_append_right _ (by simp [ht]))
  unfold ObRun
  by_cases hp : p
  · have hyl := yl_of ht (hv.1 hp)
    by_cases hx : x = want
    · rw [if_pos (by simp [Region.wanted, hyl, hx])]
      exact (hs ⟨hp, hx⟩ a g W hk hg he).mono fun v W' ⟨h1, h2⟩ => ⟨h1, fun _ => h2, fun h => absurd ⟨hp, hx⟩ h⟩
    · rw [if_neg (by simp [Region.wanted, hyl, hx])]
      exact ⟨.refl _ _, fun e => absurd e.2 hx, fun _ => rfl⟩
  · have hyl := yl_un ht (hv.2 hp)
    rw [if_neg (by simp [Region.wanted, hyl])]
    exact ⟨.refl _ _, fun e => absurd e.1 hp, fun _ => rfl⟩
end
theorem tbd {k : Nat} {n : Int} {t : ByteArray} {ns : List ByteArray} {xs : List V} (h : t.size ≤ maxLen) : (V.mk k n t ns xs).t.size ≤ maxLen := h
theorem rdV_mk {W : World} {S : BSet} {k : Nat} {n : Int} {t : ByteArray} {ns : List ByteArray} {xs : List V} {cn ci : Value} (h2 : t.size ≤ maxLen) (h3 : Rd W S (strsD ns) cn) (h4 : Rd W S (valsD xs) ci) : Rd W S (V.d (V.mk k n t ns xs)) (.agg #[.int .u8 k, .int .i64 n, .string t, cn, ci]) := rdV_in (x := V.mk k n t ns xs) h2 h3 h4

/-! ### regions with loads that may come late -/
section
variable {P : Program} {ops : Array Oper} {S : Nat → Prop} {w0 : World} {a0 : Act} {Γ : Ctx}
variable {d : Option Tmp} {ty : TypeId} {pos : String} {af : Array Edge} {gd : Option (Nat × Bool)}
theorem late_load {T T' t b o n : Nat} {cs : List Value} {ag : Bool} {v : Value} (e : sl a0 t = .pointer (some ⟨b, o, none⟩)) (ho : Own w0 b cs T') (hS : S b) (hT : aggB P T = some ag) (hz : szOf P T = some n)
    (hn : o + n ≤ cs.length) (h1 : ag = false → n = 1) (hv : (if ag then .agg ((cs.drop o).take n).toArray else ((cs.drop o).take n).headD undef) = v) :
    ∀ a W, Keeps S w0 W → (∀ u ∈ Oper.looksAt ops ⟨d, .load T (.tmp t), ty, pos, af, gd⟩, sl a u = sl a0 u) → (execOp a.eval ⟨d, .load T (.tmp t), ty, pos, af, gd⟩).run P W = .ok (.value v) W := fun a W hk hl => by
  have e1 : a.eval (.tmp t) = .pointer (some ⟨b, o, none⟩) := by
    rw [eval_sl, hl t (by simp [Oper.looksAt, Op.operands])]; exact e
  have hr := run_loadVar (P := P) ((ho.keeps hk hS).cells o n hn) hT hz (by simp; omega) h1
  simp only [execOp, e1, Instr.loadAt, Instr.sureAddr, Sem.run_bind, Sem.run_pure, Result.andThen_ok, hr, hv]
theorem tail_storeK {Q : Exit → Act → World → Prop} {I : World → Prop} {r : List Oper} {a : Act} {W : World} {T T0 : TypeId} {x y : Operand} {b o n : Nat} {v : Value} {cs : List Value}
    (hx : a.eval x = .pointer (some ⟨b, o, none⟩)) (hy : a.eval y = v) (hz : szOf P T = some n) (hn : v.cells.size = n) (ho : Own W b cs T0) (hl : o + n ≤ cs.length) (h1 : ∀ c ∈ v.cells.toList, oneC c = true)
    (h : ∀ W', Keeps (fun k => k ≠ b) W W' → Own W' b (splice cs o v.cells.toList) T0 → I W' ∧ runTailK P ops Q I r a W') :
    runTailK P ops Q I (⟨none, .store T x y, ty, pos, af, none⟩ :: r) a W := by
  obtain ⟨W', h2, h3, h4⟩ := run_storeCells (P := P) v.cells.toList 0 o W cs ho (by simp; omega) h1
  have hw : Region.wanted (⟨none, .store T x y, ty, pos, af, none⟩ : Oper) (yielded ops a.tmps) = true := rfl
  unfold runTailK ObRun; rw [if_pos hw]
  unfold OpRuns
  have : (execOp a.eval ⟨none, .store T x y, ty, pos, af, none⟩).run P W = .ok .skip W' := by
    simp [execOp, hx, hy, Instr.storeAt, Instr.sureAddr, storeVar, run_szOf hz, hn, h2]
  rw [this]
  exact h W' h3 (by simpa using h4)
theorem tail_nilK {Q : Exit → Act → World → Prop} {I : World → Prop} {a : Act} {W : World} (h : Q .normal a W) : runTailK P ops Q I [] a W := h
end
end Go.Eng
