/-
  Pickers.
-/
import Derived.Test.YtnobijngkpflcaaPureH
import Derived.Test.YtnobijngkpflcaaEngN
namespace Go.Eng
def errK (k : Nat) (e : Int) : Int := if e = 0 ∧ k ≠ 5 then 10 else e
def failK (k : Nat) (e e' : Int) : Int := if errK k e = 0 then e' else e
def itemsE (v : V) (most : Int) : Int := if v.k ≠ 4 then 10 else if most < v.xs.length then 5 else 0
def itemsV (v : V) (most : Int) : List V := if itemsE v most = 0 then v.xs else []
def allT (xs : List V) : Bool := xs.all fun v => decide (v.k = 3)
def textsE (most : Int) (v : V) : Int := if itemsE v most ≠ 0 then itemsE v most else if allT v.xs then 0 else 10
def textsL (most : Int) (v : V) : List ByteArray := if textsE most v = 0 then v.xs.map V.t else []
def numE (lo hi : Int) (v : V) : Int := if v.k ≠ 2 then 10 else if v.n < lo ∨ hi < v.n then 1 else 0
def numV (lo hi : Int) (v : V) : Int := if numE lo hi v = 0 then v.n else 0
/-- the error behind a request -/
def tkE (x : V) (e : Int) (name : ByteArray) (ce : V → Int) : Int := if errK x.k e ≠ 0 then e else if getB x name = false then 6 else ce (getV x name)
def tkB (x : V) (e : Int) (name : ByteArray) (ce : V → Int) : Bool := decide (errK x.k e = 0) && getB x name && decide (ce (getV x name) = 0)
def tkA (x : V) (A : As) (e : Int) (name : ByteArray) (ce : V → Int) : As := if tkB x e name ce then mset A name (mget A name + 1) else A
def doneE (x : V) (A : As) (e : Int) : Int := if errK x.k e ≠ 0 then errK x.k e else if x.ns.all (fun s => decide (mget A s ≠ 0)) then 0 else 11
theorem errK_zero {k : Nat} {e : Int} (h : errK k e = 0) : e = 0 ∧ k = 5 := by
  unfold errK at h
  split at h
  · cases h
  · rename_i hn
    subst h
    exact ⟨rfl, by omega⟩
theorem done_false {ns : List ByteArray} {A : As} {k : Nat} (h : k < ns.length) (h0 : mget A ns[k] = 0) : ns.all (fun s => decide (mget A s ≠ 0)) = false := by
  cases hq : ns.all (fun s => decide (mget A s ≠ 0)) with
  | false => rfl
  | true => have := List.all_eq_true.1 hq ns[k] (List.getElem_mem _); simp [h0] at this
theorem done_true {ns : List ByteArray} {A : As} (h : ∀ i (hi : i < ns.length), mget A ns[i] ≠ 0) : ns.all (fun s => decide (mget A s ≠ 0)) = true := by
  rw [List.all_eq_true]
  intro s hs
  obtain ⟨i, hi, rfl⟩ := List.getElem_of_mem hs
  simp [h i hi]
theorem allT_false {xs : List V} {k : Nat} (h : k < xs.length) (h0 : xs[k].k ≠ 3) : allT xs = false := by
  cases hq : allT xs with
  | false => rfl
  | true => have := List.all_eq_true.1 hq xs[k] (List.getElem_mem _); simp [h0] at this
theorem allT_true {xs : List V} (h : ∀ i (hi : i < xs.length), xs[i].k = 3) : allT xs = true := by
  unfold allT
  rw [List.all_eq_true]
  intro s hs
  obtain ⟨i, hi, rfl⟩ := List.getElem_of_mem hs
  simp [h i hi]
theorem getV_wt (x : V) (name : ByteArray) : (getV x name).wt ≤ x.wt := by
  have hz : V.zero.wt ≤ x.wt := wt_pos x
  unfold getV
  split
  · exact hz
  · split
    · exact hz
    · rw [List.getD_eq_getElem?_getD]
      cases h : x.xs[(findI x.ns name).toNat]? with
      | none => exact hz
      | some y =>
        obtain ⟨hi, rfl⟩ := List.getElem?_eq_some_iff.1 h
        have h1 := wts_mem hi
        have h2 := wt_eq x
        simp only [Option.getD_some]; omega
/-- counts are from 0 to n -/
def AB (n : Int) (A : As) : Prop := ∀ s, 0 ≤ mget A s ∧ mget A s ≤ n
theorem AB.nil : AB 0 [] := fun _ => ⟨Int.le_refl _, Int.le_refl _⟩
theorem AB.mono {m n : Int} {A : As} (h : AB m A) (hmn : m ≤ n) : AB n A := fun s => ⟨(h s).1, by have := (h s).2; omega⟩
theorem AB.tk {n : Int} {A : As} {x : V} {e : Int} {name : ByteArray} {ce : V → Int} (h : AB n A) : AB (n + 1) (tkA x A e name ce) := by
  unfold tkA
  split
  · intro s
    rw [mget_set]
    split
    · have := h name; omega
    · have := h s; omega
  · exact h.mono (by omega)
end Go.Eng
