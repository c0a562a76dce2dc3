/-
  What single operations do, as facts on slots.
-/
import Derived.Test.YtnobijngkpflcaaEngB
namespace Go.Eng
section
variable {P : Program} {ops : Array Oper} {S : Nat → Prop} {w0 : World} {a0 : Act} {Γ : Ctx}
variable {d : Option Tmp} {ty : TypeId} {pos : String} {af : Array Edge} {gd : Option (Nat × Bool)}

/-! ### types -/
def szOf (P : Program) (T : TypeId) : Option Nat := (P.info? T).map (·.size)
def zeroOf (P : Program) (T : TypeId) : Option Value := (P.info? T).bind (·.zero)
def aggB (P : Program) (T : TypeId) : Option Bool := (P.underlying T).map fun t => match t with | .struct _ | .array _ _ => true | _ => false

theorem run_und {T : TypeId} {t : TypeDesc} (h : P.underlying T = some t) (w : World) : (underlying T).run P w = .ok t w := run_underlying h w
theorem run_szOf {T n : Nat} (h : szOf P T = some n) (w : World) : (sizeOf T).run P w = .ok n w := by
  unfold szOf at h
  cases hi : P.info? T with
  | none => rw [hi] at h; cases h
  | some i => rw [hi] at h; simp at h; simp [sizeOf, typeInfo, program, Sem.run, hi, h]
theorem run_zeroOf {T : Nat} {v : Value} (h : zeroOf P T = some v) (w : World) : (zeroValue T).run P w = .ok v w := by
  unfold zeroOf at h
  cases hi : P.info? T with
  | none => rw [hi] at h; cases h
  | some i => rw [hi] at h; simp at h; simp [zeroValue, typeInfo, program, Sem.run, hi, h]
theorem run_aggB {T : Nat} {b : Bool} (h : aggB P T = some b) (w : World) : (isAgg T).run P w = .ok b w := by
  unfold aggB at h
  cases hi : P.underlying T with
  | none => rw [hi] at h; cases h
  | some i =>
    rw [hi] at h; simp at h
    simp only [isAgg, Sem.run_bind, run_und hi, Result.andThen_ok]
    cases i <;> simp_all

/-! ### without memory -/
theorem sp_val {op : Op} {v : Value} (h : ∀ a g W, Keeps S w0 W → GOk w0 W g → Env Γ a0 a g W (Oper.looksAt ops ⟨d, op, ty, pos, af, gd⟩) → (execOp a.eval ⟨d, op, ty, pos, af, gd⟩).run P W = .ok (.value v) W) :
    Spec P ops S w0 a0 Γ ⟨d, op, ty, pos, af, gd⟩ (Is v) := fun a g W hk hg he => by
  unfold OpRuns; rw [h a g W hk hg he]; exact ⟨.refl _ _, rfl⟩

theorem sp_move {x : Operand} {φ : Fact} (h : Has S w0 a0 Γ x φ) : Spec P ops S w0 a0 Γ ⟨d, .move x, ty, pos, af, gd⟩ φ := fun a g W hk hg he =>
  ⟨.refl _ _, h.of_env hk hg he (by simp [Op.operands])⟩
theorem sp_assign {x : Operand} {φ : Fact} (h : Has S w0 a0 Γ x φ) : Spec P ops S w0 a0 Γ ⟨d, .assign x, ty, pos, af, gd⟩ φ := fun a g W hk hg he =>
  ⟨.refl _ _, h.of_env hk hg he (by simp [Op.operands])⟩

theorem sp_and {c x : Operand} {p q : Bool} (hc : Has S w0 a0 Γ c (Is (.bool p))) (hx : Has S w0 a0 Γ x (Under (p = true) (Is (.bool q)))) :
    Spec P ops S w0 a0 Γ ⟨d, .pick c x (.const (.bool false)), ty, pos, af, gd⟩ (Is (.bool (p && q))) := sp_val fun a g W hk hg he => by
  have e1 : a.eval c = .bool p := hc.of_env hk hg he (by simp [Op.operands])
  have e2 : p = true → a.eval x = .bool q := hx.of_env hk hg he (by simp [Op.operands])
  cases p with
  | false =>
    have e3 : a.eval (.const (.bool false)) = .bool false := rfl
    simp [execOp, e1, asBool, e3]
  | true => simp [execOp, e1, asBool, e2 rfl]
theorem sp_or {c x : Operand} {p q : Bool} (hc : Has S w0 a0 Γ c (Is (.bool p))) (hx : Has S w0 a0 Γ x (Under (p = false) (Is (.bool q)))) :
    Spec P ops S w0 a0 Γ ⟨d, .pick c (.const (.bool true)) x, ty, pos, af, gd⟩ (Is (.bool (p || q))) := sp_val fun a g W hk hg he => by
  have e1 : a.eval c = .bool p := hc.of_env hk hg he (by simp [Op.operands])
  have e2 : p = false → a.eval x = .bool q := hx.of_env hk hg he (by simp [Op.operands])
  cases p with
  | false => simp [execOp, e1, asBool, e2 rfl]
  | true =>
    have e3 : a.eval (.const (.bool true)) = .bool true := rfl
    simp [execOp, e1, asBool, e3]
theorem sp_not {x : Operand} {T : TypeId} {p : Bool} (hx : Has S w0 a0 Γ x (Is (.bool p))) : Spec P ops S w0 a0 Γ ⟨d, .unOp .not T x, ty, pos, af, gd⟩ (Is (.bool (!p))) := sp_val fun a g W hk hg he => by
  have e1 : a.eval x = .bool p := hx.of_env hk hg he (by simp [Op.operands])
  simp [execOp, e1, Op.unary]

section
variable {x y : Operand} {T T' : TypeId} {k : IntKind} {m n : Int}
theorem sp_lss (hx : Has S w0 a0 Γ x (Is (.int k m))) (hy : Has S w0 a0 Γ y (Is (.int k n))) : Spec P ops S w0 a0 Γ ⟨d, .binOp .lss T x y T', ty, pos, af, gd⟩ (Is (.bool (decide (m < n)))) := sp_val fun a g W hk hg he => by
  have e1 : a.eval x = .int k m := hx.of_env hk hg he (by simp [Op.operands])
  have e2 : a.eval y = .int k n := hy.of_env hk hg he (by simp [Op.operands])
  simp [execOp, e1, e2, binOp, Op.intCmp, eqGuard]
theorem sp_leq (hx : Has S w0 a0 Γ x (Is (.int k m))) (hy : Has S w0 a0 Γ y (Is (.int k n))) : Spec P ops S w0 a0 Γ ⟨d, .binOp .leq T x y T', ty, pos, af, gd⟩ (Is (.bool (decide (m ≤ n)))) := sp_val fun a g W hk hg he => by
  have e1 : a.eval x = .int k m := hx.of_env hk hg he (by simp [Op.operands])
  have e2 : a.eval y = .int k n := hy.of_env hk hg he (by simp [Op.operands])
  simp [execOp, e1, e2, binOp, Op.intCmp, eqGuard]
theorem sp_gtr (hx : Has S w0 a0 Γ x (Is (.int k m))) (hy : Has S w0 a0 Γ y (Is (.int k n))) : Spec P ops S w0 a0 Γ ⟨d, .binOp .gtr T x y T', ty, pos, af, gd⟩ (Is (.bool (decide (n < m)))) := sp_val fun a g W hk hg he => by
  have e1 : a.eval x = .int k m := hx.of_env hk hg he (by simp [Op.operands])
  have e2 : a.eval y = .int k n := hy.of_env hk hg he (by simp [Op.operands])
  simp [execOp, e1, e2, binOp, Op.intCmp, eqGuard]
theorem sp_geq (hx : Has S w0 a0 Γ x (Is (.int k m))) (hy : Has S w0 a0 Γ y (Is (.int k n))) : Spec P ops S w0 a0 Γ ⟨d, .binOp .geq T x y T', ty, pos, af, gd⟩ (Is (.bool (decide (n ≤ m)))) := sp_val fun a g W hk hg he => by
  have e1 : a.eval x = .int k m := hx.of_env hk hg he (by simp [Op.operands])
  have e2 : a.eval y = .int k n := hy.of_env hk hg he (by simp [Op.operands])
  simp [execOp, e1, e2, binOp, Op.intCmp, eqGuard]
theorem sp_eql (hx : Has S w0 a0 Γ x (Is (.int k m))) (hy : Has S w0 a0 Γ y (Is (.int k n))) : Spec P ops S w0 a0 Γ ⟨d, .binOp .eql T x y T', ty, pos, af, gd⟩ (Is (.bool (m == n))) := sp_val fun a g W hk hg he => by
  have e1 : a.eval x = .int k m := hx.of_env hk hg he (by simp [Op.operands])
  have e2 : a.eval y = .int k n := hy.of_env hk hg he (by simp [Op.operands])
  simp [execOp, e1, e2, binOp, Op.intCmp, eqGuard]
theorem sp_neq (hx : Has S w0 a0 Γ x (Is (.int k m))) (hy : Has S w0 a0 Γ y (Is (.int k n))) : Spec P ops S w0 a0 Γ ⟨d, .binOp .neq T x y T', ty, pos, af, gd⟩ (Is (.bool (m != n))) := sp_val fun a g W hk hg he => by
  have e1 : a.eval x = .int k m := hx.of_env hk hg he (by simp [Op.operands])
  have e2 : a.eval y = .int k n := hy.of_env hk hg he (by simp [Op.operands])
  simp [execOp, e1, e2, binOp, Op.intCmp, eqGuard]
theorem sp_add (hx : Has S w0 a0 Γ x (Is (.int k m))) (hy : Has S w0 a0 Γ y (Is (.int k n))) (h : k.wrap (m + n) = m + n) : Spec P ops S w0 a0 Γ ⟨d, .binOp .add T x y T', ty, pos, af, gd⟩ (Is (.int k (m + n))) := sp_val fun a g W hk hg he => by
  have e1 : a.eval x = .int k m := hx.of_env hk hg he (by simp [Op.operands])
  have e2 : a.eval y = .int k n := hy.of_env hk hg he (by simp [Op.operands])
  simp [execOp, e1, e2, binOp, Op.intArith, eqGuard, h]
theorem sp_sub (hx : Has S w0 a0 Γ x (Is (.int k m))) (hy : Has S w0 a0 Γ y (Is (.int k n))) (h : k.wrap (m - n) = m - n) : Spec P ops S w0 a0 Γ ⟨d, .binOp .sub T x y T', ty, pos, af, gd⟩ (Is (.int k (m - n))) := sp_val fun a g W hk hg he => by
  have e1 : a.eval x = .int k m := hx.of_env hk hg he (by simp [Op.operands])
  have e2 : a.eval y = .int k n := hy.of_env hk hg he (by simp [Op.operands])
  simp [execOp, e1, e2, binOp, Op.intArith, eqGuard, h]
theorem sp_mul (hx : Has S w0 a0 Γ x (Is (.int k m))) (hy : Has S w0 a0 Γ y (Is (.int k n))) (h : k.wrap (m * n) = m * n) : Spec P ops S w0 a0 Γ ⟨d, .binOp .mul T x y T', ty, pos, af, gd⟩ (Is (.int k (m * n))) := sp_val fun a g W hk hg he => by
  have e1 : a.eval x = .int k m := hx.of_env hk hg he (by simp [Op.operands])
  have e2 : a.eval y = .int k n := hy.of_env hk hg he (by simp [Op.operands])
  simp [execOp, e1, e2, binOp, Op.intArith, eqGuard, h]
end

theorem beq_bytes (s t : ByteArray) : (s.toList == t.toList) = decide (s = t) := by
  rw [Bool.eq_iff_iff]
  simp only [beq_iff_eq, decide_eq_true_eq, ByteArray.toList_eq]
  constructor
  · intro h; cases s; cases t; simp at h; simp [h]
  · rintro rfl; rfl
theorem add_none (b o i : Nat) : (⟨b, o, none⟩ : Addr).add i = ⟨b, o + i, none⟩ := by
  unfold Addr.add
  split
  · rename_i h; subst h; rfl
  · rfl

section
variable {x y : Operand} {T T' : TypeId} {s t : ByteArray}
/-- Go's order of strings -/
def sLt (s t : ByteArray) : Bool := Op.bytesLess s.toList t.toList
theorem sp_sOp {op : BinOp} {v : Value} (hx : Has S w0 a0 Γ x (Is (.string s))) (hy : Has S w0 a0 Γ y (Is (.string t)))
    (hg' : ∀ w, (eqGuard op T x y (.string s) (.string t)).run P w = .ok () w) (ho : ∀ w, (binOp op T (.string s) (.string t)).run P w = .ok v w) :
    Spec P ops S w0 a0 Γ ⟨d, .binOp op T x y T', ty, pos, af, gd⟩ (Is v) := sp_val fun a g W hk hg he => by
  have e1 : a.eval x = .string s := hx.of_env hk hg he (by simp [Op.operands])
  have e2 : a.eval y = .string t := hy.of_env hk hg he (by simp [Op.operands])
  simp [execOp, e1, e2, ho, hg']
theorem sp_sEql (hx : Has S w0 a0 Γ x (Is (.string s))) (hy : Has S w0 a0 Γ y (Is (.string t))) : Spec P ops S w0 a0 Γ ⟨d, .binOp .eql T x y T', ty, pos, af, gd⟩ (Is (.bool (decide (s = t)))) :=
  sp_sOp hx hy (fun _ => by simp [eqGuard]) (fun _ => by simp [binOp, Op.stringOp, beq_bytes])
theorem sp_sNeq (hx : Has S w0 a0 Γ x (Is (.string s))) (hy : Has S w0 a0 Γ y (Is (.string t))) : Spec P ops S w0 a0 Γ ⟨d, .binOp .neq T x y T', ty, pos, af, gd⟩ (Is (.bool (!decide (s = t)))) :=
  sp_sOp hx hy (fun _ => by simp [eqGuard]) (fun _ => by simp [binOp, Op.stringOp, beq_bytes])
theorem sp_sLss (hx : Has S w0 a0 Γ x (Is (.string s))) (hy : Has S w0 a0 Γ y (Is (.string t))) : Spec P ops S w0 a0 Γ ⟨d, .binOp .lss T x y T', ty, pos, af, gd⟩ (Is (.bool (sLt s t))) :=
  sp_sOp hx hy (fun _ => by simp [eqGuard]) (fun _ => by simp [binOp, Op.stringOp, sLt])
theorem sp_sGeq (hx : Has S w0 a0 Γ x (Is (.string s))) (hy : Has S w0 a0 Γ y (Is (.string t))) : Spec P ops S w0 a0 Γ ⟨d, .binOp .geq T x y T', ty, pos, af, gd⟩ (Is (.bool (!(sLt s t)))) :=
  sp_sOp hx hy (fun _ => by simp [eqGuard]) (fun _ => by simp [binOp, Op.stringOp, sLt])
theorem sp_sLeq (hx : Has S w0 a0 Γ x (Is (.string s))) (hy : Has S w0 a0 Γ y (Is (.string t))) : Spec P ops S w0 a0 Γ ⟨d, .binOp .leq T x y T', ty, pos, af, gd⟩ (Is (.bool (sLt s t || decide (s = t)))) :=
  sp_sOp hx hy (fun _ => by simp [eqGuard]) (fun _ => by simp [binOp, Op.stringOp, sLt, beq_bytes])
theorem sp_sGtr (hx : Has S w0 a0 Γ x (Is (.string s))) (hy : Has S w0 a0 Γ y (Is (.string t))) : Spec P ops S w0 a0 Γ ⟨d, .binOp .gtr T x y T', ty, pos, af, gd⟩ (Is (.bool (!(sLt s t || decide (s = t))))) :=
  sp_sOp hx hy (fun _ => by simp [eqGuard]) (fun _ => by simp [binOp, Op.stringOp, sLt, beq_bytes])
end

theorem equalIn_bool (T : TypeId) (hT : P.underlying T = some .bool) (p q : Bool) (w : World) : (Op.equal T (.bool p) (.bool q)).run P w = .ok (p == q) w := by
  show (Op.equalIn (9999 + 1) T (.bool p) (.bool q)).run P w = _
  rw [Op.equalIn]
  simp [run_und hT]
theorem sp_bEql {x y : Operand} {T T' : TypeId} {p q : Bool} (hT : P.underlying T = some .bool) (hx : Has S w0 a0 Γ x (Is (.bool p))) (hy : Has S w0 a0 Γ y (Is (.bool q))) : Spec P ops S w0 a0 Γ ⟨d, .binOp .eql T x y T', ty, pos, af, gd⟩ (Is (.bool (p == q))) := sp_val fun a g W hk hg he => by
  have e1 : a.eval x = .bool p := hx.of_env hk hg he (by simp [Op.operands])
  have e2 : a.eval y = .bool q := hy.of_env hk hg he (by simp [Op.operands])
  simp [execOp, e1, e2, binOp, eqGuard, equalIn_bool T hT]
theorem sp_bNeq {x y : Operand} {T T' : TypeId} {p q : Bool} (hT : P.underlying T = some .bool) (hx : Has S w0 a0 Γ x (Is (.bool p))) (hy : Has S w0 a0 Γ y (Is (.bool q))) : Spec P ops S w0 a0 Γ ⟨d, .binOp .neq T x y T', ty, pos, af, gd⟩ (Is (.bool (!(p == q)))) := sp_val fun a g W hk hg he => by
  have e1 : a.eval x = .bool p := hx.of_env hk hg he (by simp [Op.operands])
  have e2 : a.eval y = .bool q := hy.of_env hk hg he (by simp [Op.operands])
  simp [execOp, e1, e2, binOp, eqGuard, equalIn_bool T hT]

theorem sp_ext2 {x : Operand} {φ1 φ2 : Fact} {i : Nat} (hx : Has S w0 a0 Γ x (fun g u W => ∃ u1 u2, u = .tuple #[u1, u2] ∧ φ1 g u1 W ∧ φ2 g u2 W)) (hi : i = 0) : Spec P ops S w0 a0 Γ ⟨d, .extract x i, ty, pos, af, gd⟩ φ1 := fun a g W hk hg he => by
  obtain ⟨u1, u2, e1, h1, _⟩ := hx.of_env hk hg he (by simp [Op.operands])
  subst hi
  unfold OpRuns
  have : (execOp a.eval ⟨d, .extract x 0, ty, pos, af, gd⟩).run P W = .ok (.value u1) W := by simp [execOp, e1, Instr.extract]
  rw [this]; exact ⟨.refl _ _, h1⟩
theorem sp_ext2' {x : Operand} {φ1 φ2 : Fact} {i : Nat} (hx : Has S w0 a0 Γ x (fun g u W => ∃ u1 u2, u = .tuple #[u1, u2] ∧ φ1 g u1 W ∧ φ2 g u2 W)) (hi : i = 1) : Spec P ops S w0 a0 Γ ⟨d, .extract x i, ty, pos, af, gd⟩ φ2 := fun a g W hk hg he => by
  obtain ⟨u1, u2, e1, _, h1⟩ := hx.of_env hk hg he (by simp [Op.operands])
  subst hi
  unfold OpRuns
  have : (execOp a.eval ⟨d, .extract x 1, ty, pos, af, gd⟩).run P W = .ok (.value u2) W := by simp [execOp, e1, Instr.extract]
  rw [this]; exact ⟨.refl _ _, h1⟩

/-! ### lengths -/
theorem sp_lenS {x : Operand} {T : TypeId} {s : ByteArray} (hT : P.underlying T = some .string) (hx : Has S w0 a0 Γ x (Is (.string s))) :
    Spec P ops S w0 a0 Γ ⟨d, .call ⟨.builtin .len, #[x], #[T]⟩, ty, pos, af, gd⟩ (Is (.int .i64 s.size)) := sp_val fun a g W hk hg he => by
  have e1 : a.eval x = .string s := hx.of_env hk hg he (by simp [Op.operands, Call.operands])
  simp [execOp, resolve, invoke, builtin, Builtin.len_, e1, run_und hT, goInt]
theorem sp_lenD {x : Operand} {T E : TypeId} {S' : BSet} {sz : Nat} {xs : List D} (hT : P.underlying T = some (.slice E)) (hx : Has S w0 a0 Γ x (IsD S' (.lst sz xs))) :
    Spec P ops S w0 a0 Γ ⟨d, .call ⟨.builtin .len, #[x], #[T]⟩, ty, pos, af, gd⟩ (Is (.int .i64 xs.length)) := sp_val fun a g W hk hg he => by
  obtain ⟨cs, h1, h2⟩ := hx.of_env hk hg he (by simp [Op.operands, Call.operands])
  simp only [RdC] at h1
  obtain ⟨ad, cap, rfl, _⟩ := h1
  have e1 : a.eval x = .slice ad xs.length cap := h2
  simp [execOp, resolve, invoke, builtin, Builtin.len_, e1, run_und hT, goInt]
theorem sp_lenV {x : Operand} {T E : TypeId} {ad : Option Addr} {n cap : Nat} (hT : P.underlying T = some (.slice E)) (hx : Has S w0 a0 Γ x (Is (.slice ad n cap))) :
    Spec P ops S w0 a0 Γ ⟨d, .call ⟨.builtin .len, #[x], #[T]⟩, ty, pos, af, gd⟩ (Is (.int .i64 n)) := sp_val fun a g W hk hg he => by
  have e1 : a.eval x = .slice ad n cap := hx.of_env hk hg he (by simp [Op.operands, Call.operands])
  simp [execOp, resolve, invoke, builtin, Builtin.len_, e1, run_und hT, goInt]

/-! ### memory that is only read -/
theorem run_loadCellsFrom {W : World} {b o : Nat} {cs : List Value} (h : CellsAt W b o cs) : ∀ (n i : Nat) (acc : Array Value), i + n = cs.length →
    (loadCellsFrom ⟨b, o, none⟩ i n acc).run P W = .ok (acc ++ (cs.drop i).toArray) W
  | 0, i, acc, hi => by simp [loadCellsFrom, List.drop_eq_nil_of_le (show cs.length ≤ i by omega)]
  | n + 1, i, acc, hi => by
    have hlt : i < cs.length := by omega
    have hc := h i hlt
    have : (⟨b, o, none⟩ : Addr).add i = ⟨b, o + i, none⟩ := add_none b o i
    simp only [loadCellsFrom, Sem.run_bind, run_load, this, hc, Result.andThen_ok]
    rw [run_loadCellsFrom h n (i + 1) _ (by omega), List.drop_eq_getElem_cons hlt]
    simp

theorem run_loadVar {W : World} {b o T : Nat} {cs : List Value} {ag : Bool} {n : Nat} (hc : CellsAt W b o cs) (hT : aggB P T = some ag) (hz : szOf P T = some n) (hn : cs.length = n) (h1 : ag = false → n = 1) :
    (loadVar T ⟨b, o, none⟩).run P W = .ok (if ag then .agg cs.toArray else cs.headD undef) W := by
  cases ag with
  | true =>
    simp only [loadVar, Sem.run_bind, run_aggB hT, Result.andThen_ok, if_true, run_szOf hz, loadCells, Sem.run_map, run_loadCellsFrom hc n 0 #[] (by omega)]
    simp
  | false =>
    have hpos : 0 < cs.length := by have := h1 rfl; omega
    have hc0 := hc 0 hpos
    simp only [loadVar, Sem.run_bind, run_aggB hT, Result.andThen_ok, Bool.false_eq_true, if_false]
    cases cs with
    | nil => simp at hpos
    | cons c r =>
      have hc0' : W.cell? ⟨b, o, none⟩ = some c := hc0
      simp only [run_load, hc0']
      rfl

theorem sp_loadR {x : Operand} {T : TypeId} {S' : BSet} {dd : D} {n : Nat} (hx : Has S w0 a0 Γ x (IsR S' dd)) (hT : aggB P T = some dd.isAgg) (hz : szOf P T = some n) (hn : width dd = n) :
    Spec P ops S w0 a0 Γ ⟨d, .load T x, ty, pos, af, gd⟩ (IsD S' dd) := fun a g W hk hg he => by
  obtain ⟨b, o, cs, e1, h1, h2, h3, h4⟩ := hx.of_env hk hg he (by simp [Op.operands])
  have hl := rdc_width dd cs h4
  have hr := run_loadVar (P := P) h3 hT hz (hl.trans hn) (fun h => by cases dd <;> simp_all [D.isAgg, width])
  unfold OpRuns
  have : (execOp a.eval ⟨d, .load T x, ty, pos, af, gd⟩).run P W = .ok (.value (asm dd cs)) W := by
    simp only [execOp, e1, Instr.loadAt, Instr.sureAddr, Sem.run_bind, Sem.run_pure, Result.andThen_ok, hr]
    cases dd <;> rfl
  rw [this]
  exact ⟨.refl _ _, cs, h4, rfl⟩

theorem sp_fieldR {x : Operand} {T : TypeId} {S' : BSet} {xs : List D} {f n : Nat} {fs : Array Field} {fd : Field} (hx : Has S w0 a0 Γ x (IsR S' (.agg xs))) (hT : P.underlying T = some (.struct fs)) (hf : fs[f]? = some fd) (hz : szOf P fd.type = some (n + 1))
    {y : D} (hy : xs[f]? = some y) (ho : fd.offset = widths (xs.take f)) : Spec P ops S w0 a0 Γ ⟨d, .fieldAddr T x f, ty, pos, af, gd⟩ (IsR S' y) := fun a g W hk hg he => by
  obtain ⟨b, o, cs, e1, h1, h2, h3, h4⟩ := hx.of_env hk hg he (by simp [Op.operands])
  simp only [RdC] at h4
  have key : ∀ (xs : List D) (cs : List Value) (f : Nat), RdF W (fun b o => S' b o ∧ Out g b) xs cs → xs[f]? = some y → ∃ c, c = (cs.drop (widths (xs.take f))).take (width y) ∧ widths (xs.take f) + width y ≤ cs.length ∧ RdC W (fun b o => S' b o ∧ Out g b) y c := by
    intro xs
    induction xs with
    | nil => intro cs f _ h; simp at h
    | cons x xs ih =>
      intro cs f h hy
      simp only [RdF] at h
      obtain ⟨c1, c2, rfl, hc1, hc2⟩ := h
      cases f with
      | zero =>
        simp at hy; subst hy
        have := rdc_width x c1 hc1
        refine ⟨_, rfl, by simp [widths, this], ?_⟩
        simp [widths, ← this, hc1]
      | succ f =>
        obtain ⟨c, hc, hl, hr⟩ := ih c2 f hc2 (by simpa using hy)
        have := rdc_width x c1 hc1
        refine ⟨_, rfl, by simp [widths, this]; omega, ?_⟩
        rw [show widths ((x :: xs).take (f + 1)) = c1.length + widths (xs.take f) by simp [widths, this], List.drop_append]
        rw [show (c1.drop (c1.length + widths (xs.take f))) = [] from List.drop_eq_nil_of_le (by omega)]
        simp only [Nat.add_sub_cancel_left, List.nil_append]
        rw [← hc]; exact hr
  obtain ⟨c, hc, hl, hr⟩ := key xs cs f h4 hy
  unfold OpRuns
  have : (execOp a.eval ⟨d, .fieldAddr T x f, ty, pos, af, gd⟩).run P W = .ok (.value (.pointer (some ⟨b, o + fd.offset, none⟩))) W := by
    simp [execOp, e1, Instr.fieldAt, Instr.sureAddr, run_und hT, hf, fieldPlace, run_szOf hz, add_none]
  rw [this]
  refine ⟨.refl _ _, b, o + fd.offset, c, rfl, h1, h2, fun i hi => ?_, hr⟩
  subst hc
  have hi' : i < width y := by simp at hi; omega
  rw [ho, Nat.add_assoc, h3 (widths (xs.take f) + i) (by omega)]
  simp

theorem sp_indexD {x y : Operand} {T E : TypeId} {S' : BSet} {sz : Nat} {xs : List D} {i : Nat} (hx : Has S w0 a0 Γ x (IsD S' (.lst sz xs))) (hy : Has S w0 a0 Γ y (Is (.int .i64 i))) (hT : P.underlying T = some (.slice E)) (hz : szOf P E = some sz)
    (hi : i < xs.length) : Spec P ops S w0 a0 Γ ⟨d, .indexAddr T x y, ty, pos, af, gd⟩ (IsR S' xs[i]) := fun a g W hk hg he => by
  obtain ⟨cs, h1, h2⟩ := hx.of_env hk hg he (by simp [Op.operands])
  have e2 : a.eval y = .int .i64 i := hy.of_env hk hg he (by simp [Op.operands])
  simp only [RdC] at h1
  obtain ⟨ad, cap, rfl, hcap, hmax, h3⟩ := h1
  rcases h3 with h3 | ⟨b, o, rfl, hb, hlt, hl⟩
  · subst h3; simp at hi
  have e1 : a.eval x = .slice (some ⟨b, o, none⟩) xs.length cap := h2
  obtain ⟨c, hc1, hc2, hc3⟩ := hl.get i hi
  unfold OpRuns
  have : (execOp a.eval ⟨d, .indexAddr T x y, ty, pos, af, gd⟩).run P W = .ok (.value (.pointer (some ⟨b, o + i * sz, none⟩))) W := by
    have h0 : (0 : Int) ≤ (i : Int) := by omega
    have h1' : (i : Int) < (xs.length : Int) := by omega
    simp [execOp, e1, e2, Instr.indexAt, asIntOf, run_und hT, hi, run_szOf hz, add_none]
  rw [this]
  exact ⟨.refl _ _, b, o + i * sz, c, rfl, hb, hlt, hc2, hc3⟩

/-! ### blocks of the call's own -/
theorem Own.cells {W : World} {b : Nat} {cs : List Value} {T : TypeId} (h : Own W b cs T) (o n : Nat) (hn : o + n ≤ cs.length) : CellsAt W b o ((cs.drop o).take n) := fun i hi => by
  simp at hi
  rw [h.cell]
  simp
theorem sp_loadO {x : Operand} {T T' : TypeId} {b o n : Nat} {cs : List Value} {ag : Bool} {v : Value} (hx : Has S w0 a0 Γ x (Is (.pointer (some ⟨b, o, none⟩)))) (ho : Own w0 b cs T') (hS : S b) (hT : aggB P T = some ag) (hz : szOf P T = some n)
    (hn : o + n ≤ cs.length) (h1 : ag = false → n = 1) (hv : (if ag then .agg ((cs.drop o).take n).toArray else ((cs.drop o).take n).headD undef) = v) :
    Spec P ops S w0 a0 Γ ⟨d, .load T x, ty, pos, af, gd⟩ (Is v) := sp_val fun a g W hk hg he => by
  have e1 : a.eval x = .pointer (some ⟨b, o, none⟩) := hx.of_env hk hg he (by simp [Op.operands])
  have hr := run_loadVar (P := P) ((ho.keeps hk hS).cells o n hn) hT hz (by simp; omega) h1
  simp only [execOp, e1, Instr.loadAt, Instr.sureAddr, Sem.run_bind, Sem.run_pure, Result.andThen_ok, hr, hv]
theorem sp_fieldO {x : Operand} {T : TypeId} {b o o' f n : Nat} {fs : Array Field} {fd : Field} (hx : Has S w0 a0 Γ x (Is (.pointer (some ⟨b, o, none⟩)))) (hT : P.underlying T = some (.struct fs)) (hf : fs[f]? = some fd) (hz : szOf P fd.type = some (n + 1)) (ho : o + fd.offset = o') :
    Spec P ops S w0 a0 Γ ⟨d, .fieldAddr T x f, ty, pos, af, gd⟩ (Is (.pointer (some ⟨b, o', none⟩))) := sp_val fun a g W hk hg he => by
  have e1 : a.eval x = .pointer (some ⟨b, o, none⟩) := hx.of_env hk hg he (by simp [Op.operands])
  subst ho
  simp [execOp, e1, Instr.fieldAt, Instr.sureAddr, run_und hT, hf, fieldPlace, run_szOf hz, add_none]

theorem ext_alloc (W : World) (o : Obj) : Ext W (W.alloc o) := ⟨rfl, rfl, rfl, by simp, fun k hk _ => RowKit.Below.heap_alloc _ _ _ hk⟩
theorem own_alloc (W : World) (cs : List Value) (T : TypeId) : Own (W.alloc (.cells cs.toArray T)) W.heap.size cs T := by
  show (W.heap.push _)[W.heap.size]? = _
  simp

variable {K : List Oper → Ctx → (World → Prop) → List Bool → Prop} {l : List Oper} {Ψ : World → Prop} {ms : List Bool} {fl : Bool}
theorem Chain.alloc {t : Nat} {T : TypeId} {z : Value} (hz : zeroOf P T = some z) (h : Chain P ops All w0 a0 K fl l ((some t, IsBox z.cells.toList T t) :: Γ) Ψ (false :: ms)) :
    Chain P ops All w0 a0 K fl (⟨some t, .alloc T, ty, pos, af, none⟩ :: l) Γ Ψ ms := by
  refine .box _ t st_box rfl (fun a g W hk hg he => ?_) h
  have hw : Region.wanted (⟨some t, .alloc T, ty, pos, af, none⟩ : Oper) (yielded ops a.tmps) = true := rfl
  unfold ObRun; rw [if_pos hw]
  unfold OpRuns
  have : (execOp a.eval ⟨some t, .alloc T, ty, pos, af, none⟩).run P W = .ok (.value (.pointer (some ⟨W.heap.size, 0, none⟩))) (W.alloc (.cells z.cells T)) := by
    simp [execOp, Instr.alloc, run_zeroOf hz, newVar, newRow, newObj, Sem.run]
  rw [this]
  refine ⟨ext_alloc _ _, by simp, W.heap.size, rfl, List.mem_cons_self, ?_⟩
  have := own_alloc W z.cells.toList T
  rwa [Array.toArray_toList] at this
theorem Chain.boxOp {t : Nat} {T : TypeId} {x : Operand} {v : Value} (hx : Has All w0 a0 Γ x (Is v)) (h : Chain P ops All w0 a0 K fl l ((some t, IsBox v.cells.toList T t) :: Γ) Ψ (false :: ms)) :
    Chain P ops All w0 a0 K fl (⟨some t, .box T x, ty, pos, af, none⟩ :: l) Γ Ψ ms := by
  refine .box _ t st_box rfl (fun a g W hk hg he => ?_) h
  have e1 : a.eval x = v := hx.of_env hk hg he (by simp [Op.operands])
  have hw : Region.wanted (⟨some t, .box T x, ty, pos, af, none⟩ : Oper) (yielded ops a.tmps) = true := rfl
  unfold ObRun; rw [if_pos hw]
  unfold OpRuns
  have : (execOp a.eval ⟨some t, .box T x, ty, pos, af, none⟩).run P W = .ok (.value (.pointer (some ⟨W.heap.size, 0, none⟩))) (W.alloc (.cells v.cells T)) := by
    simp [execOp, e1, Instr.box, newVar, newRow, newObj, Sem.run]
  rw [this]
  refine ⟨ext_alloc _ _, by simp, W.heap.size, rfl, List.mem_cons_self, ?_⟩
  have := own_alloc W v.cells.toList T
  rwa [Array.toArray_toList] at this

/-! ### calls -/
/-- what a call that changes nothing hands back -/
def Ret (W : World) (φ : Value → World → Prop) : Ending → World → Prop := fun e W' => ∃ v, e = .returned v ∧ Ext W W' ∧ φ v W'

theorem run_call {f : FuncId} {xs : Array Operand} {ts : Array TypeId} {a : Act} {W : World} {vs : Array Value} (hv : xs.map a.eval = vs) (hf : ∀ (args : Array Value) w, (callFunc f args).run P w = .ok (.enter f args) w) :
    (execOp a.eval ⟨d, .call ⟨.value (.func f), xs, ts⟩, ty, pos, af, gd⟩).run P W = .ok (.enter f vs) W := by
  have he : a.eval (.func f) = .func (.func f) #[] #[] := rfl
  simp [execOp, resolve, he, Deferred.ofValue, invoke, hv, hf]

end
end Go.Eng
