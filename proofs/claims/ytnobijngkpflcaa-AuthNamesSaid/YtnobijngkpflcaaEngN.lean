/-
  Calls that write into several blocks of the caller's.
-/
import Derived.Test.YtnobijngkpflcaaEngS
namespace Go.Eng
def RetL (W : World) (L : List Nat) (φ : Value → World → Prop) : Ending → World → Prop := fun e W' => ∃ v, e = .returned v ∧ Keeps (fun k => k ∉ L) W W' ∧ φ v W'
theorem sub_nl {w : World} {S' : BSet} {M L : List Nat} (hb : ∀ b ∈ L, b ∈ M) : ∀ b' o, SA w S' M b' o → b' ∉ L := fun b' _ h e => h.2.2 (hb b' e)
theorem sub_nlF {w : World} {M L : List Nat} (hb : ∀ b ∈ L, b ∈ M) : ∀ b' o, SF w M b' o → b' ∉ L := fun b' _ h e => h.2.2 (hb b' e)
theorem sa_notin {w : World} {S' : BSet} {M L : List Nat} (hb : ∀ b ∈ L, b ∈ M) : ∀ b ∈ L, ∀ o, ¬ SA w S' M b o := fun b h o hs => hs.2.2 (hb b h)
theorem sf_notin {w : World} {M L : List Nat} (hb : ∀ b ∈ L, b ∈ M) : ∀ b ∈ L, ∀ o, ¬ SF w M b o := fun b h o hs => hs.2.2 (hb b h)
theorem sub_frnl {W : World} {L : List Nat} (hb : ∀ b ∈ L, b < W.heap.size) : ∀ b' o, Fr W b' o → b' ∉ L := fun b' _ h e => by have := hb b' e; have := h.1; omega
section
variable {w W W' : World} {S : BSet} {M L : List Nat} {d : D} {v : Value} {S0 : Nat → Prop}
theorem sa_keepL (h : Rd W (SA w S M) d v) (k : Keeps (fun x => x ∉ L) W W') (hb : ∀ b ∈ L, b ∈ M) : Rd W' (SA w S M) d v := h.keeps k fun x _ hx e => hx.2.2 (hb x e)
theorem sf_keepL (h : Rd W (SF w M) d v) (k : Keeps (fun x => x ∉ L) W W') (hb : ∀ b ∈ L, b ∈ M) : Rd W' (SF w M) d v := h.keeps k fun x _ hx e => hx.2.2 (hb x e)
theorem ra_keepL (h : Ref W (SA w S M) d v) (k : Keeps (fun x => x ∉ L) W W') (hb : ∀ b ∈ L, b ∈ M) : Ref W' (SA w S M) d v := h.keeps k fun x _ hx e => hx.2.2 (hb x e)
theorem own_keepL {b : Nat} {cs : List Value} {T : TypeId} (h : Own W b cs T) (k : Keeps (fun x => x ∉ L) W W') (hne : b ∉ L) : Own W' b cs T := h.keeps k hne
theorem ownM_keepL {b : Nat} {A : As} (h : OwnM W b A) (k : Keeps (fun x => x ∉ L) W W') (hne : b ∉ L) : OwnM W' b A := h.keeps k hne
theorem keeps_L (h : Keeps S0 w W) (k : Keeps (fun x => x ∉ L) W W') (hb : ∀ b ∈ L, w.heap.size ≤ b ∨ ¬ S0 b) : Keeps S0 w W' :=
  ⟨k.os.trans h.os, k.tape.trans h.tape, k.output.trans h.output, Nat.le_trans h.size k.size, fun i hi hs => by
    rw [k.block i (Nat.lt_of_lt_of_le hi h.size) (fun hm => (hb i hm).elim (fun h => by omega) (fun h => h hs))]; exact h.block i hi hs⟩
theorem keeps_storeN {b : Nat} (h : Keeps S0 w W) (k : Keeps (fun x => x ≠ b) W W') (hb : ¬ S0 b) : Keeps S0 w W' :=
  ⟨k.os.trans h.os, k.tape.trans h.tape, k.output.trans h.output, Nat.le_trans h.size k.size, fun i hi hs => by
    rw [k.block i (Nat.lt_of_lt_of_le hi h.size) (fun e => hb (e ▸ hs))]; exact h.block i hi hs⟩
end
section
variable {P : Program} {ops : Array Oper} {S : Nat → Prop} {w0 : World} {a0 : Act} {Γ : Ctx}
variable {d : Option Tmp} {ty : TypeId} {pos : String} {af : Array Edge}
variable {K : List Oper → Ctx → (World → Prop) → List Bool → Prop} {l : List Oper} {Ψ Ψ' : World → Prop} {ms : List Bool}
theorem Chain.callL {f : FuncId} {xs : Array Operand} {ts : Array TypeId} {φ : Fact} (hf : Enters P f) (hst : Stable S φ) (hst' : StableE Ψ')
    (hc : ∀ a g W, Keeps S w0 W → GOk w0 W g → Env Γ a0 a g W (Oper.looksAt ops ⟨d, .call ⟨.value (.func f), xs, ts⟩, ty, pos, af, none⟩) → Ψ W → Calls P f (xs.map a.eval) W fun e W' => ∃ v, e = .returned v ∧ Keeps S W W' ∧ φ g v W' ∧ Ψ' W')
    (h : Chain P ops S w0 a0 K false l ((d, φ) :: Γ) Ψ' (true :: ms)) :
    Chain P ops S w0 a0 K false (⟨d, .call ⟨.value (.func f), xs, ts⟩, ty, pos, af, none⟩ :: l) Γ Ψ ms := by
  refine Chain.main φ Ψ' hst hst' (fun a g W hk hg he hψ => ?_) h
  have hw : Region.wanted (⟨d, .call ⟨.value (.func f), xs, ts⟩, ty, pos, af, none⟩ : Oper) (yielded ops a.tmps) = true := rfl
  unfold ObRun; rw [if_pos hw]
  unfold OpRuns
  rw [run_call rfl hf]
  exact hc a g W hk hg he hψ
theorem Chain.callL1 {f : FuncId} {x : Operand} {ts : Array TypeId} {φ1 φ : Fact} (hf : Enters P f) (hx : Has S w0 a0 Γ x φ1) (hst : Stable S φ) (hst' : StableE Ψ')
    (hc : ∀ g u1 W, Keeps S w0 W → GOk w0 W g → φ1 g u1 W → Ψ W → Calls P f #[u1] W fun e W' => ∃ v, e = .returned v ∧ Keeps S W W' ∧ φ g v W' ∧ Ψ' W')
    (h : Chain P ops S w0 a0 K false l ((d, φ) :: Γ) Ψ' (true :: ms)) : Chain P ops S w0 a0 K false (⟨d, .call ⟨.value (.func f), #[x], ts⟩, ty, pos, af, none⟩ :: l) Γ Ψ ms :=
  Chain.callL hf hst hst' (fun a g W hk hg he hψ => by simpa using hc g _ W hk hg (hx.of_env hk hg he (by simp [Op.operands, Call.operands])) hψ) h
theorem Chain.callL2 {f : FuncId} {x y : Operand} {ts : Array TypeId} {φ1 φ2 φ : Fact} (hf : Enters P f) (hx : Has S w0 a0 Γ x φ1) (hy : Has S w0 a0 Γ y φ2) (hst : Stable S φ) (hst' : StableE Ψ')
    (hc : ∀ g u1 u2 W, Keeps S w0 W → GOk w0 W g → φ1 g u1 W → φ2 g u2 W → Ψ W → Calls P f #[u1, u2] W fun e W' => ∃ v, e = .returned v ∧ Keeps S W W' ∧ φ g v W' ∧ Ψ' W')
    (h : Chain P ops S w0 a0 K false l ((d, φ) :: Γ) Ψ' (true :: ms)) : Chain P ops S w0 a0 K false (⟨d, .call ⟨.value (.func f), #[x, y], ts⟩, ty, pos, af, none⟩ :: l) Γ Ψ ms :=
  Chain.callL hf hst hst' (fun a g W hk hg he hψ => by simpa using hc g _ _ W hk hg (hx.of_env hk hg he (by simp [Op.operands, Call.operands])) (hy.of_env hk hg he (by simp [Op.operands, Call.operands])) hψ) h
theorem Chain.callL3 {f : FuncId} {x y z : Operand} {ts : Array TypeId} {φ1 φ2 φ3 φ : Fact} (hf : Enters P f) (hx : Has S w0 a0 Γ x φ1) (hy : Has S w0 a0 Γ y φ2) (hz : Has S w0 a0 Γ z φ3) (hst : Stable S φ) (hst' : StableE Ψ')
    (hc : ∀ g u1 u2 u3 W, Keeps S w0 W → GOk w0 W g → φ1 g u1 W → φ2 g u2 W → φ3 g u3 W → Ψ W → Calls P f #[u1, u2, u3] W fun e W' => ∃ v, e = .returned v ∧ Keeps S W W' ∧ φ g v W' ∧ Ψ' W')
    (h : Chain P ops S w0 a0 K false l ((d, φ) :: Γ) Ψ' (true :: ms)) : Chain P ops S w0 a0 K false (⟨d, .call ⟨.value (.func f), #[x, y, z], ts⟩, ty, pos, af, none⟩ :: l) Γ Ψ ms :=
  Chain.callL hf hst hst' (fun a g W hk hg he hψ => by simpa using hc g _ _ _ W hk hg (hx.of_env hk hg he (by simp [Op.operands, Call.operands])) (hy.of_env hk hg he (by simp [Op.operands, Call.operands])) (hz.of_env hk hg he (by simp [Op.operands, Call.operands])) hψ) h
theorem Chain.callL4 {f : FuncId} {x y z q : Operand} {ts : Array TypeId} {φ1 φ2 φ3 φ4 φ : Fact} (hf : Enters P f) (hx : Has S w0 a0 Γ x φ1) (hy : Has S w0 a0 Γ y φ2) (hz : Has S w0 a0 Γ z φ3) (hq : Has S w0 a0 Γ q φ4) (hst : Stable S φ) (hst' : StableE Ψ')
    (hc : ∀ g u1 u2 u3 u4 W, Keeps S w0 W → GOk w0 W g → φ1 g u1 W → φ2 g u2 W → φ3 g u3 W → φ4 g u4 W → Ψ W → Calls P f #[u1, u2, u3, u4] W fun e W' => ∃ v, e = .returned v ∧ Keeps S W W' ∧ φ g v W' ∧ Ψ' W')
    (h : Chain P ops S w0 a0 K false l ((d, φ) :: Γ) Ψ' (true :: ms)) : Chain P ops S w0 a0 K false (⟨d, .call ⟨.value (.func f), #[x, y, z, q], ts⟩, ty, pos, af, none⟩ :: l) Γ Ψ ms :=
  Chain.callL hf hst hst' (fun a g W hk hg he hψ => by simpa using hc g _ _ _ _ W hk hg (hx.of_env hk hg he (by simp [Op.operands, Call.operands])) (hy.of_env hk hg he (by simp [Op.operands, Call.operands])) (hz.of_env hk hg he (by simp [Op.operands, Call.operands])) (hq.of_env hk hg he (by simp [Op.operands, Call.operands])) hψ) h
theorem sp_mkF1 {gd : Option (Nat × Bool)} {x : Operand} {f : FuncId} {u : Value} (hx : Has S w0 a0 Γ x (Is u)) : Spec P ops S w0 a0 Γ ⟨d, .makeFunc (.func f) #[] #[x], ty, pos, af, gd⟩ (Is (.func (.func f) #[] #[u])) := sp_mkF0 fun a g W hk hg he => by
  have e1 : a.eval x = u := hx.of_env hk hg he (by simp [Op.operands])
  simp [e1]
theorem stE_and {Ψ1 Ψ2 : World → Prop} (h1 : StableE Ψ1) (h2 : StableE Ψ2) : StableE fun W => Ψ1 W ∧ Ψ2 W := fun W W' k h => ⟨h1 W W' k h.1, h2 W W' k h.2⟩
theorem stE_own {b : Nat} {cs : List Value} {T : TypeId} : StableE fun W => Own W b cs T := fun _ _ k h => h.ext k
theorem stE_ownM {b : Nat} {A : As} : StableE fun W => OwnM W b A := fun _ _ k h => h.ext k
end
end Go.Eng
