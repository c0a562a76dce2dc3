/-
  Short forms of the rules, for the printed proofs.
-/
import Derived.Test.YtnobijngkpflcaaEngI
namespace Go.Eng
theorem lbr {a b : Nat} (h : a.ble b = true) : a ≤ b := Nat.le_of_ble_eq_true h
theorem Keeps.x {S : Nat → Prop} {a b c : World} (h : Keeps S a b) (k : Ext b c) : Keeps S a c := h.trans (.of_ext k)
theorem Is.q {v u : Value} {g : Gh} {W : World} (h : Is v g u W) : u = v := h
section
variable {P : Program} {ops : Array Oper} {S : Nat → Prop} {w0 : World} {a0 : Act} {Γ : Ctx} {K : List Oper → Ctx → (World → Prop) → List Bool → Prop} {l : List Oper} {Ψ : World → Prop} {ms : List Bool} {fl : Bool}
  {d : Option Tmp} {ty : TypeId} {pos : String} {af : Array Edge} {gd : Option (Nat × Bool)}
theorem hlc {t : Nat} {φ : Fact} (h : look Γ t = some φ) : Has S w0 a0 Γ (.tmp t) φ := .loc h
theorem hbs {t : Nat} {v : Value} (h : look Γ t = none) (hv : sl a0 t = v) : Has S w0 a0 Γ (.tmp t) (Is v) := .base h hv
theorem Chain.i {op : Op} {v : Value} (hs : Spec P ops S w0 a0 Γ ⟨d, op, ty, pos, af, none⟩ (Is v))
    (h : Chain P ops S w0 a0 K fl l ((d, Is v) :: Γ) Ψ (false :: ms)) : Chain P ops S w0 a0 K fl (⟨d, op, ty, pos, af, none⟩ :: l) Γ Ψ ms := Chain.op (st_is v) hs h
theorem Chain.da {op : Op} {X : BSet} {e : D} (hs : Spec P ops All w0 a0 Γ ⟨d, op, ty, pos, af, none⟩ (IsD X e))
    (h : Chain P ops All w0 a0 K fl l ((d, IsD X e) :: Γ) Ψ (false :: ms)) : Chain P ops All w0 a0 K fl (⟨d, op, ty, pos, af, none⟩ :: l) Γ Ψ ms := Chain.op (st_d sub_all) hs h
theorem Chain.rf {op : Op} {X : BSet} {e : D} (hs : Spec P ops All w0 a0 Γ ⟨d, op, ty, pos, af, none⟩ (IsR X e))
    (h : Chain P ops All w0 a0 K fl l ((d, IsR X e) :: Γ) Ψ (false :: ms)) : Chain P ops All w0 a0 K fl (⟨d, op, ty, pos, af, none⟩ :: l) Γ Ψ ms := Chain.op (st_r sub_all) hs h
theorem Chain.e {op : Op} {gi t : Nat} {want x : Bool} {v : Value} (ht : (ops[gi]?).bind (·.dst) = some t) (hb : Has S w0 a0 Γ (.tmp t) (Is (.bool x)))
    (hs : x = want → Spec P ops S w0 a0 Γ ⟨d, op, ty, pos, af, some (gi, want)⟩ (Is v))
    (h : Chain P ops S w0 a0 K fl l ((d, UnderE (x = want) (Is v)) :: Γ) Ψ (false :: ms)) : Chain P ops S w0 a0 K fl (⟨d, op, ty, pos, af, some (gi, want)⟩ :: l) Γ Ψ ms := Chain.opE ht hb (st_is v) hs h
theorem fo {x : Operand} {T : TypeId} {b o f n : Nat} {fs : Array Field} {fd : Field} (o' : Nat) (hx : Has S w0 a0 Γ x (Is (.pointer (some ⟨b, o, none⟩)))) (hT : P.underlying T = some (.struct fs)) (hf : fs[f]? = some fd) (hz : szOf P fd.type = some (n + 1)) (ho : o + fd.offset = o') :
    Spec P ops S w0 a0 Γ ⟨d, .fieldAddr T x f, ty, pos, af, gd⟩ (Is (.pointer (some ⟨b, o', none⟩))) := sp_fieldO hx hT hf hz ho
theorem lo1 {x : Operand} {T T' : TypeId} {b o : Nat} {cs : List Value} {v : Value} (hx : Has S w0 a0 Γ x (Is (.pointer (some ⟨b, o, none⟩)))) (ho : Own w0 b cs T') (hS : S b) (hT : aggB P T = some false) (hz : szOf P T = some 1)
    (hv : cs[o]? = some v) : Spec P ops S w0 a0 Γ ⟨d, .load T x, ty, pos, af, gd⟩ (Is v) := by
  obtain ⟨hlt, hv⟩ := List.getElem?_eq_some_iff.1 hv
  refine sp_loadO hx ho hS hT hz (by omega) (fun _ => rfl) ?_
  rw [List.drop_eq_getElem_cons hlt, hv]; rfl
theorem loA {x : Operand} {T T' : TypeId} {b o n : Nat} {cs : List Value} {v : Value} (hx : Has S w0 a0 Γ x (Is (.pointer (some ⟨b, o, none⟩)))) (ho : Own w0 b cs T') (hS : S b) (hT : aggB P T = some true) (hz : szOf P T = some n)
    (hn : (o + n).ble cs.length = true) (hv : .agg ((cs.drop o).take n).toArray = v) : Spec P ops S w0 a0 Γ ⟨d, .load T x, ty, pos, af, gd⟩ (Is v) :=
  sp_loadO hx ho hS hT hz (Nat.le_of_ble_eq_true hn) (fun h => by cases h) hv
theorem rg {drawn : Bool} {id N : Nat} {Q : Exit → Act → World → Prop} (hm : P.follows .mixedOrders = true) (hN : a0.tmps.size = N) (hd : a0.defers = [])
    (h : Chain P ops All w0 a0 (Fin P ops Q All w0 a0 drawn N) false ops.toList [] Tr []) : (Code.region id ops drawn).wp P Q a0 w0 := wp_reg All hm hN hd st_tr trivial h
end
end Go.Eng
