/-
  The table of the law AuthNames.
-/
import Derived.Test.YtnobijngkpflcaaEngT
import Derived.Test.YtnobijngkpflcaaPureL
namespace Go.Eng
def rowOk (r : Ro) : Bool := decide (ofAE r.v = r.e) && (decide (ofAE r.v = 0) || sameA (ofAV r.v) ⟨0, []⟩) && r.v.wt.ble 1073741824
theorem rowOk_get {l : List Ro} (h : l.all rowOk = true) {k : Nat} (hk : k < l.length) : ofAE l[k].v = l[k].e ∧ (ofAE l[k].v = 0 ∨ sameA (ofAV l[k].v) ⟨0, []⟩ = true) ∧ l[k].v.wt ≤ 1073741824 := by
  have h1 := List.all_eq_true.1 h _ (List.getElem_mem hk)
  simp only [rowOk, Bool.and_eq_true, Bool.or_eq_true, decide_eq_true_eq] at h1
  exact ⟨h1.1.1, h1.1.2, Nat.le_of_ble_eq_true h1.2⟩
def idK (k : Nat) : ByteArray := if h : k < 17 then (ofBytes (List.replicate (lit 64) (((⟨#[48, 49, 50, 51, 52, 53, 54, 55, 56, 57, 97, 98, 99, 100, 101, 102, 48]⟩ : ByteArray)[k]'h).toNat : Int))).extract 1 (ofBytes (List.replicate (lit 64) (((⟨#[48, 49, 50, 51, 52, 53, 54, 55, 56, 57, 97, 98, 99, 100, 101, 102, 48]⟩ : ByteArray)[k]'h).toNat : Int))).size ++ ofBytes [(((⟨#[48, 49, 50, 51, 52, 53, 54, 55, 56, 57, 97, 98, 99, 100, 101, 102, 49]⟩ : ByteArray)[k]'h).toNat : Int)] else ⟨#[]⟩
def allK (k : Nat) : List ByteArray := (List.range k).map idK
theorem allK_len (k : Nat) : (allK k).length = k := by simp [allK]
theorem allK_step {k : Nat} {x : ByteArray} (h : idK k = x) : allK (k + 1) = allK k ++ [x] := by subst h; simp [allK, List.range_succ]
theorem id_lo (c : Int) : 1 ≤ (ofBytes (List.replicate (lit 64) c)).size := by rw [ofBytes_size, List.length_replicate]; exact Nat.le_of_ble_eq_true rfl
theorem id_hi (c : Int) : 63 ≤ (ofBytes (List.replicate (lit 64) c)).size := by rw [ofBytes_size, List.length_replicate]; exact Nat.le_of_ble_eq_true rfl
theorem id_add (c : Int) (d : Int) : ((ofBytes (List.replicate (lit 64) c)).extract 1 (ofBytes (List.replicate (lit 64) c)).size).size + (ofBytes [d]).size ≤ maxLen := by
  rw [ByteArray.size_extract, ofBytes_size, ofBytes_size, List.length_replicate]; exact Nat.le_of_ble_eq_true rfl
theorem id_bd (c : Int) (d : Int) : ((ofBytes (List.replicate (lit 64) c)).extract 1 (ofBytes (List.replicate (lit 64) c)).size ++ ofBytes [d]).size ≤ maxLen := by
  rw [ByteArray.size_append]; exact id_add c d
end Go.Eng
