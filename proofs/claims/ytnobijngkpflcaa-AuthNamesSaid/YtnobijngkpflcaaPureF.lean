/-
  Names: where one stands; objects with one name more.
-/
import Derived.Test.YtnobijngkpflcaaPureV
import Derived.Sort.Walk0
namespace Go.Eng
theorem sLt_iff (a b : ByteArray) : sLt a b = true ↔ a.toList < b.toList := by unfold sLt; rw [Go.Proofs.bytesLess_eq]; simp
theorem sLt_trans {a b c : ByteArray} (h1 : sLt a b = true) (h2 : sLt b c = true) : sLt a c = true := by
  rw [sLt_iff] at *; exact List.lt_trans h1 h2
theorem sLt_irrefl (a : ByteArray) : sLt a a = false := by
  cases h : sLt a a with
  | false => rfl
  | true => rw [sLt_iff] at h; exact absurd h (List.lt_irrefl _)
theorem asc_lt {ns : List ByteArray} (h : asc ns = true) : ∀ (j i : Nat) (hj : j < ns.length) (hi : i < j), sLt (ns[i]'(by omega)) ns[j] = true := by
  have ha := (asc_iff ns).1 h
  intro j
  induction j with
  | zero => intro i _ hi; omega
  | succ j ih =>
    intro i hj hi
    rcases Nat.lt_succ_iff_lt_or_eq.1 hi with h1 | h1
    · exact sLt_trans (ih i (by omega) h1) (ha j hj)
    · subst h1; exact ha i hj
/-- how many names stand ahead of a name -/
def lb (ns : List ByteArray) (name : ByteArray) : Nat := (ns.takeWhile fun n => sLt n name).length
theorem lb_le (ns : List ByteArray) (name : ByteArray) : lb ns name ≤ ns.length := by unfold lb; exact (List.takeWhile_sublist _).length_le
theorem take_len {α : Type} (f : α → Bool) : ∀ (l : List α) (m : Nat), m ≤ l.length → (∀ i (h : i < l.length), i < m → f l[i] = true) → (∀ h : m < l.length, f l[m] = false) → (l.takeWhile f).length = m
  | [], m, hm, _, _ => by simp at hm; simp [hm]
  | x :: l, 0, _, _, h2 => by
    have := h2 (by simp)
    simp at this
    simp [List.takeWhile_cons, this]
  | x :: l, m + 1, hm, h1, h2 => by
    have h0 := h1 0 (by simp) (by omega)
    simp at h0
    simp only [List.takeWhile_cons, h0, if_true, List.length_cons]
    rw [take_len f l m (by simpa using hm) (fun i h hi => h1 (i + 1) (by simpa using h) (by omega)) (fun h => h2 (by simpa using h))]
theorem lb_of {ns : List ByteArray} {name : ByteArray} (ha : asc ns = true) {m : Nat} {p : Nat → Bool} (hp : ∀ i (h : i < ns.length), p i = !sLt ns[i] name) (hm : m ≤ ns.length) (h1 : m = 0 ∨ p (m - 1) = false) (h2 : m = ns.length ∨ p m = true) : lb ns name = m := by
  refine take_len _ ns m hm (fun i hi him => ?_) (fun h => ?_)
  · rcases h1 with h1 | h1
    · omega
    · have h3 : sLt ns[m - 1] name = true := by
        have := hp (m - 1) (by omega); rw [h1] at this; simpa using this.symm
      rcases Nat.lt_or_ge i (m - 1) with h4 | h4
      · exact sLt_trans (asc_lt ha (m - 1) i (by omega) h4) h3
      · have : i = m - 1 := by omega
        subst this; exact h3
  · rcases h2 with h2 | h2
    · omega
    · have := hp m h; rw [h2] at this; simpa using this.symm
def idx (name : ByteArray) : List ByteArray → Nat → Int
  | [], _ => -1
  | n :: ns, i => if name = n then i else idx name ns (i + 1)
def findI (ns : List ByteArray) (name : ByteArray) : Int := if asc ns then lb ns name else idx name ns 0
def findB (ns : List ByteArray) (name : ByteArray) : Bool := if asc ns then decide (ns[lb ns name]? = some name) else decide (0 ≤ idx name ns 0)
theorem find_fin (ns : List ByteArray) (name : ByteArray) (m : Nat) : (decide (((m : Nat) : Int) < (ns.length : Int)) && decide (ns.getD m ⟨#[]⟩ = name)) = decide (ns[m]? = some name) := by
  by_cases h : m < ns.length
  · have h' : ((m : Nat) : Int) < (ns.length : Int) := by omega
    simp [h', List.getD_eq_getElem?_getD, h]
  · have h' : ¬ ((m : Nat) : Int) < (ns.length : Int) := by omega
    simp only [h', decide_false, Bool.false_and]
    rw [List.getElem?_eq_none (by omega)]; simp
section
variable {P : Program} {ops : Array Oper} {S : Nat → Prop} {w0 : World} {a0 : Act} {Γ : Ctx}
variable {d : Option Tmp} {ty : TypeId} {pos : String} {af : Array Edge} {gd : Option (Nat × Bool)}
theorem sp_indexSD {x y : Operand} {T E : TypeId} {S' : BSet} {ns : List ByteArray} {i : Nat} {j : Int} (hx : Has S w0 a0 Γ x (IsD S' (strsD ns))) (hy : Has S w0 a0 Γ y (Is (.int .i64 j))) (hT : P.underlying T = some (.slice E)) (hz : szOf P E = some 1)
    (hj : j = i) (hi : i < ns.length) : Spec P ops S w0 a0 Γ ⟨d, .indexAddr T x y, ty, pos, af, gd⟩ (IsR S' (.str (ns.getD i ⟨#[]⟩))) := by
  have := sp_indexS (ty := ty) (pos := pos) (af := af) (gd := gd) (d := d) (ops := ops) hx hy hT hz hj hi
  rw [List.getD_eq_getElem?_getD, List.getElem?_eq_getElem hi]; exact this
end
/-! ### With -/
theorem tds {α : Type} (l : List α) (r k : Nat) (h : r + k < l.length) : (l.drop r).take k ++ [l[r + k]] = (l.drop r).take (k + 1) := by
  rw [List.take_succ_eq_append_getElem (by simp; omega)]
  simp
theorem tdall {α : Type} (l : List α) (r k : Nat) (h : k = l.length - r) : (l.drop r).take k = l.drop r := by
  rw [List.take_of_length_le (by simp; omega)]
def V.zero : V := .mk 0 0 ⟨#[]⟩ [] []
def withE (x : V) : Int := if x.k ≠ 5 then 10 else if x.ns.length ≠ x.xs.length ∨ asc x.ns = false then 3 else 0
def withR (x : V) (name : ByteArray) : Nat := if x.ns[lb x.ns name]? = some name then lb x.ns name + 1 else lb x.ns name
def withV (x : V) (name : ByteArray) (y : V) : V :=
  if x.k ≠ 5 then V.zero else if x.ns.length ≠ x.xs.length ∨ asc x.ns = false then V.zero
  else .mk x.k x.n x.t (x.ns.take (lb x.ns name) ++ [name] ++ x.ns.drop (withR x name)) (x.xs.take (lb x.ns name) ++ [y] ++ x.xs.drop (withR x name))
end Go.Eng
