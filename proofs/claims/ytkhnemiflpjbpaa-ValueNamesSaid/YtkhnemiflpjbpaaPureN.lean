/-
  The examples of ValueNames.
-/
import Derived.Test.YtkhnemiflpjbpaaPureA
import Derived.Test.YtkhnemiflpjbpaaPureG
namespace Go.Eng
def dV2 : V := V.mk 5 0 ⟨#[]⟩ [⟨#[120]⟩] [V.mk 4 0 ⟨#[]⟩ [] []]
def dV3 : V := V.mk 4 0 ⟨#[]⟩ [] [dV2]
def dV4 : V := V.mk 5 0 ⟨#[]⟩ [⟨#[120]⟩] [dV3]
def dV5 : V := V.mk 4 0 ⟨#[]⟩ [] [dV4]
def dV6 : V := V.mk 5 0 ⟨#[]⟩ [⟨#[120]⟩] [dV5]
def dV7 : V := V.mk 4 0 ⟨#[]⟩ [] [dV6]
def dV8 : V := V.mk 5 0 ⟨#[]⟩ [⟨#[120]⟩] [dV7]
def dV9 : V := V.mk 4 0 ⟨#[]⟩ [] [dV8]
def dV10 : V := V.mk 5 0 ⟨#[]⟩ [⟨#[120]⟩] [dV9]
def dV11 : V := V.mk 4 0 ⟨#[]⟩ [] [dV10]
def dV12 : V := V.mk 5 0 ⟨#[]⟩ [⟨#[120]⟩] [dV11]
def num0 : V := V.mk 2 0 ⟨#[]⟩ [] []
theorem mayV_num0 (nested : Nat) (left : Int) : mayV num0 nested left = (decide (¬ left - 1 < 0), left - 1) := by
  rw [mayV_eq]
  have hp : properB num0 = true := by rfl
  by_cases h : left - 1 < 0
  · rw [if_pos (.inl h)]; simp [h]
  · rw [if_neg (by rw [hp]; simp [h]), if_pos (by decide)]; simp [h]
theorem mayL_nums : ∀ (n nested : Nat) (left : Int), 0 ≤ left → (mayL (List.replicate n num0) nested left).1 = decide ((n : Int) ≤ left)
  | 0, nested, left, h => by simp [mayL, h]
  | n + 1, nested, left, h => by
    rw [List.replicate_succ, mayL, mayV_num0]
    by_cases h1 : left - 1 < 0
    · rw [if_pos (by simp [h1])]
      symm; simp; omega
    · rw [if_neg (by simp [h1])]
      simp only
      rw [mayL_nums n nested (left - 1) (by omega)]
      exact decide_eq_decide.2 (by omega)
theorem may_nums (n : Nat) : mayB (V.mk 4 0 ⟨#[]⟩ [] (List.replicate n (V.mk 2 0 ⟨#[]⟩ [] []))) = decide (n ≤ 8191) := by
  show mayB (V.mk 4 0 ⟨#[]⟩ [] (List.replicate n num0)) = _
  unfold mayB
  rw [mayV, if_neg (by simp [properB, V.k, V.n, V.t, V.ns, V.xs]), if_neg (by simp), if_neg (by simp), mayL_nums _ _ _ (by omega)]
  exact decide_eq_decide.2 (by omega)
theorem may_nums_take (m n : Nat) : mayB (V.mk 4 0 ⟨#[]⟩ [] ((List.replicate n (V.mk 2 0 ⟨#[]⟩ [] [])).take m)) = decide (min m n ≤ 8191) := by
  rw [List.take_replicate, may_nums]
theorem nums_cnts : ∀ n : Nat, V.cnts (List.replicate n (V.mk 2 0 ⟨#[]⟩ [] [])) = n
  | 0 => rfl
  | n + 1 => by rw [List.replicate_succ, V.cnts, nums_cnts n]; simp [V.cnt, V.cnts]; omega
theorem nums_cnt (n : Nat) : (V.mk 4 0 ⟨#[]⟩ [] (List.replicate n (V.mk 2 0 ⟨#[]⟩ [] []))).cnt = n + 1 := by rw [V.cnt, nums_cnts]
theorem nums_cnt_le {n : Nat} (h : n ≤ 8192) : (V.mk 4 0 ⟨#[]⟩ [] (List.replicate n (V.mk 2 0 ⟨#[]⟩ [] []))).cnt ≤ 1073741824 := by rw [nums_cnt]; omega
theorem nums_cnt_le2 {m n : Nat} (h : n ≤ 8192) : (V.mk 4 0 ⟨#[]⟩ [] ((List.replicate n (V.mk 2 0 ⟨#[]⟩ [] [])).take m)).cnt ≤ 1073741824 := by rw [List.take_replicate]; exact nums_cnt_le (by omega)
theorem rep_set {α : Type} {a z : α} {k n : Nat} (h : k < n) : (List.replicate k a ++ List.replicate (n - k) z).set k a = List.replicate (k + 1) a ++ List.replicate (n - (k + 1)) z := by
  rw [show n - k = (n - (k + 1)) + 1 by omega, List.replicate_succ, List.set_append_right _ _ (by simp), List.replicate_succ']
  simp
theorem may_objlong {s : ByteArray} (y : V) (hs : wr s = false) : mayB (V.mk 5 0 ⟨#[]⟩ [s] [y]) = false := by
  unfold mayB
  rw [mayV, if_pos]
  right
  simp [properB, V.k, V.n, V.t, V.ns, V.xs, hs]
theorem lt_empty {s : ByteArray} (h : 0 < s.size) : sLt ⟨#[]⟩ s = true := by
  rw [sLt_iff, ByteArray.toList_eq, ByteArray.toList_eq]
  cases hq : s.data.toList with
  | nil =>
    have h1 : s.data.toList.length = 0 := by rw [hq]; rfl
    rw [Array.length_toList] at h1
    have h2 : s.size = s.data.size := rfl
    omega
  | cons a l => exact List.nil_lt_cons _ _
theorem may_two {s : ByteArray} (y : V) (h1 : sLt ⟨#[]⟩ s = true) (h2 : wr s = true) (hy : mayL [y, V.mk 4 0 ⟨#[]⟩ [] []] 11 8191 = (true, 8189)) : mayB (V.mk 5 0 ⟨#[]⟩ [⟨#[]⟩, s] [y, V.mk 4 0 ⟨#[]⟩ [] []]) = true := by
  unfold mayB
  have hp : properB (V.mk 5 0 ⟨#[]⟩ [⟨#[]⟩, s] [y, V.mk 4 0 ⟨#[]⟩ [] []]) = true := by
    have h0 : wr ⟨#[]⟩ = true := by rfl
    simp [properB, V.k, V.n, V.t, V.ns, V.xs, asc, h1, h2, h0]
  rw [mayV, if_neg (by rw [hp]; simp), if_neg (by simp), if_neg (by simp)]
  have : mayL [y, V.mk 4 0 ⟨#[]⟩ [] []] (12 - 1) (8192 - 1) = (true, 8189) := hy
  rw [this]
theorem may_objlong_ (y : V) : mayB (V.mk 5 0 ⟨#[]⟩ [ofBytes (List.replicate (lit 4097) 0)] [y]) = false := may_objlong y (wr_long (Nat.le_of_ble_eq_true rfl))
theorem may_two_ (y : V) (hy : mayL [y, V.mk 4 0 ⟨#[]⟩ [] []] 11 8191 = (true, 8189)) : mayB (V.mk 5 0 ⟨#[]⟩ [⟨#[]⟩, ofBytes (List.replicate (lit 4096) 0)] [y, V.mk 4 0 ⟨#[]⟩ [] []]) = true :=
  may_two y (lt_empty (by rw [ofBytes_size, List.length_replicate]; exact Nat.le_of_ble_eq_true rfl)) (wr_zero (Nat.le_of_ble_eq_true rfl)) hy
end Go.Eng
