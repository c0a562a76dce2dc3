/-
  Objects without a name; what stands by a name.
-/
import Derived.Test.YtnobijngkpflcaaPureF
namespace Go.Eng
theorem idx_out (name : ByteArray) : ∀ (ns : List ByteArray) (i : Nat), (idx name ns i = -1 ∧ name ∉ ns) ∨ ∃ j, idx name ns i = ((i + j : Nat) : Int) ∧ ns[j]? = some name
  | [], i => .inl ⟨rfl, by simp⟩
  | n :: ns, i => by
    rw [idx]
    by_cases h : name = n
    · rw [if_pos h]; exact .inr ⟨0, by simp, by simp [h]⟩
    · rw [if_neg h]
      rcases idx_out name ns (i + 1) with ⟨h1, h2⟩ | ⟨j, h1, h2⟩
      · exact .inl ⟨h1, by simp [h, h2]⟩
      · exact .inr ⟨j + 1, by rw [h1]; congr 1; omega, by simpa using h2⟩
theorem find_at {ns : List ByteArray} {name : ByteArray} (h : findB ns name = true) : ∃ i : Nat, findI ns name = i ∧ ns[i]? = some name := by
  unfold findB at h
  unfold findI
  split at h
  · rename_i ha
    rw [if_pos ha]
    exact ⟨_, rfl, by simpa using h⟩
  · rename_i ha
    rw [if_neg ha]
    rcases idx_out name ns 0 with ⟨h1, _⟩ | ⟨j, h1, h2⟩
    · rw [h1] at h; simp at h
    · exact ⟨j, by rw [h1]; simp, h2⟩
def getV (x : V) (name : ByteArray) : V := if x.k ≠ 5 then V.zero else if findB x.ns name = false ∨ (x.xs.length : Int) ≤ findI x.ns name then V.zero else x.xs.getD (findI x.ns name).toNat V.zero
def getB (x : V) (name : ByteArray) : Bool := if x.k ≠ 5 then false else if findB x.ns name = false ∨ (x.xs.length : Int) ≤ findI x.ns name then false else true
theorem getV_in {x : V} {name : ByteArray} {i : Nat} (hk : ¬ x.k ≠ 5) (hn : ¬ (findB x.ns name = false ∨ (x.xs.length : Int) ≤ findI x.ns name)) (h : findI x.ns name = i) (hi : i < x.xs.length) : getV x name = x.xs[i] := by
  rw [getV, if_neg hk, if_neg hn, h]
  simp [List.getD_eq_getElem?_getD, hi]

def woN (name : ByteArray) : List ByteArray → List ByteArray
  | [] => []
  | s :: r => if s = name then woN name r else s :: woN name r
def woX (name : ByteArray) : List ByteArray → List V → List V
  | s :: r, y :: ys => if s = name then woX name r ys else y :: woX name r ys
  | _, _ => []
theorem woN_take (name : ByteArray) : ∀ (ns : List ByteArray) (k : Nat) (h : k < ns.length), woN name (ns.take (k + 1)) = if ns[k] = name then woN name (ns.take k) else woN name (ns.take k) ++ [ns[k]]
  | [], k, h => by simp at h
  | s :: r, 0, h => by simp [woN]
  | s :: r, k + 1, h => by
    have := woN_take name r k (by simpa using h)
    simp only [List.take_succ_cons, woN, List.getElem_cons_succ] at this ⊢
    rw [this]
    split <;> split <;> simp
theorem woX_take (name : ByteArray) : ∀ (ns : List ByteArray) (xs : List V) (k : Nat) (h : k < ns.length) (h2 : k < xs.length), woX name (ns.take (k + 1)) (xs.take (k + 1)) = if ns[k] = name then woX name (ns.take k) (xs.take k) else woX name (ns.take k) (xs.take k) ++ [xs[k]]
  | [], _, k, h, _ => by simp at h
  | _ :: _, [], k, _, h => by simp at h
  | s :: r, y :: ys, 0, h, _ => by simp [woX]
  | s :: r, y :: ys, k + 1, h, h2 => by
    have := woX_take name r ys k (by simpa using h) (by simpa using h2)
    simp only [List.take_succ_cons, woX, List.getElem_cons_succ] at this ⊢
    rw [this]
    split <;> split <;> simp
theorem woN_put {name : ByteArray} {ns : List ByteArray} {k : Nat} (h : k < ns.length) (hne : ns[k] ≠ name) : woN name (ns.take k) ++ [ns[k]] = woN name (ns.take (k + 1)) := by rw [woN_take _ _ _ h, if_neg hne]
theorem woN_skip {name : ByteArray} {ns : List ByteArray} {k : Nat} (h : k < ns.length) (hne : ns[k] = name) : woN name (ns.take k) = woN name (ns.take (k + 1)) := by rw [woN_take _ _ _ h, if_pos hne]
theorem woX_put {name : ByteArray} {ns : List ByteArray} {xs : List V} {k : Nat} (h : k < ns.length) (h2 : k < xs.length) (hne : ns[k] ≠ name) : woX name (ns.take k) (xs.take k) ++ [xs[k]] = woX name (ns.take (k + 1)) (xs.take (k + 1)) := by rw [woX_take _ _ _ _ h h2, if_neg hne]
theorem woX_skip {name : ByteArray} {ns : List ByteArray} {xs : List V} {k : Nat} (h : k < ns.length) (h2 : k < xs.length) (hne : ns[k] = name) : woX name (ns.take k) (xs.take k) = woX name (ns.take (k + 1)) (xs.take (k + 1)) := by rw [woX_take _ _ _ _ h h2, if_pos hne]
theorem woN_len (name : ByteArray) : ∀ ns : List ByteArray, (woN name ns).length ≤ ns.length
  | [] => by simp [woN]
  | s :: r => by have := woN_len name r; simp only [woN]; split <;> simp <;> omega
theorem woX_len (name : ByteArray) : ∀ (ns : List ByteArray) (xs : List V), (woX name ns xs).length ≤ xs.length
  | [], _ => by simp [woX]
  | _ :: _, [] => by simp [woX]
  | s :: r, y :: ys => by have := woX_len name r ys; simp only [woX]; split <;> simp <;> omega
def woutV (x : V) (name : ByteArray) : V := if x.k ≠ 5 ∨ x.ns.length ≠ x.xs.length then x else if findB x.ns name = false then x else .mk x.k x.n x.t (woN name x.ns) (woX name x.ns x.xs)
def woutB (x : V) (name : ByteArray) : Bool := if x.k ≠ 5 ∨ x.ns.length ≠ x.xs.length then false else findB x.ns name
end Go.Eng
