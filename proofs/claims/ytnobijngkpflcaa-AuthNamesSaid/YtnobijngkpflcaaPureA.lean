/-
  Texts of zero bytes.
-/
import Derived.Test.YtnobijngkpflcaaEngI
import Derived.Test.YtnobijngkpflcaaPureF
namespace Go.Eng
theorem fold_push : ∀ (ns : List Int) (r : ByteArray), (ns.foldl (fun r n => r.push (UInt8.ofNat n.toNat)) r).data.toList = r.data.toList ++ ns.map (fun n => UInt8.ofNat n.toNat)
  | [], r => by simp
  | n :: ns, r => by
    rw [List.foldl_cons, fold_push ns]
    simp [ByteArray.push]
theorem ofBytes_list (ns : List Int) : (ofBytes ns).data.toList = ns.map (fun n => UInt8.ofNat n.toNat) := by
  unfold ofBytes; rw [fold_push]; rfl
theorem ofBytes_size (ns : List Int) : (ofBytes ns).size = ns.length := by
  have h := congrArg List.length (ofBytes_list ns)
  rw [List.length_map, Array.length_toList] at h
  exact h
theorem zero_bd {n : Nat} (h : n ≤ maxLen) : (ofBytes (List.replicate n 0)).size ≤ maxLen := by rw [ofBytes_size, List.length_replicate]; exact h
theorem utf_ascii (s : ByteArray) (h : ∀ p (hp : p < s.size), (s[p]'hp).toNat < 128) : ∀ f p, utfFrom s f p = true := by
  intro f
  induction f with
  | zero => intro p; rfl
  | succ f ih =>
    intro p
    by_cases hp : p < s.size
    · have := h p hp
      rw [utfFrom, if_pos hp, decode_ascii s p hp this, if_neg (by simp; omega)]
      exact ih _
    · exact utfFrom_end hp
theorem zero_at (n p : Nat) (hp : p < (ofBytes (List.replicate n 0)).size) : ((ofBytes (List.replicate n 0))[p]'hp).toNat < 128 := by
  have h := ofBytes_list (List.replicate n 0)
  have h2 : (ofBytes (List.replicate n 0)).data.toList[p]? = some ((ofBytes (List.replicate n 0))[p]'hp) := by
    simp [ByteArray.getElem_eq_getElem_data]
  rw [h] at h2
  simp [List.getElem?_replicate] at h2
  rw [← h2.2]; decide
theorem wr_zero {n : Nat} (h : n ≤ 4096) : wr (ofBytes (List.replicate n 0)) = true := by
  unfold wr utfOk
  rw [utf_ascii _ (zero_at n), ofBytes_size]
  simp [h]
theorem wr_long {n : Nat} (h : 4096 < n) : wr (ofBytes (List.replicate n 0)) = false := by
  unfold wr
  rw [ofBytes_size]
  simp; omega
theorem proper_text (s : ByteArray) : properB (.mk 3 0 s [] []) = wr s := by simp [properB, V.k, V.n, V.t, V.ns, V.xs]
theorem mayB_text (s : ByteArray) : mayB (.mk 3 0 s [] []) = wr s := by
  unfold mayB
  rw [mayV]
  cases h : wr s with
  | false => rw [if_pos (.inr (by rw [proper_text, h]))]
  | true => rw [if_neg (by rw [proper_text, h]; simp), if_pos (by simp)]
end Go.Eng
