/-
  Digits, IDs, authorities.
-/
import Derived.Test.YtnobijngkpflcaaEngS
import Derived.Test.YtnobijngkpflcaaPureA
import Derived.Test.YtnobijngkpflcaaPureG
namespace Go.Eng
def hexB (c : Nat) : Bool := (decide (48 ≤ c) && decide (c ≤ 57)) || (decide (97 ≤ c) && decide (c ≤ 102))
def hexV (c : Nat) : Int := if 48 ≤ c ∧ c ≤ 57 then c - 48 else if 97 ≤ c ∧ c ≤ 102 then c - 97 + 10 else 0
def hexIs (s : ByteArray) : Bool := s.data.toList.all fun c => hexB c.toNat
theorem hexIs_iff (s : ByteArray) : hexIs s = true ↔ ∀ i (h : i < s.size), hexB (s[i]'h).toNat = true := by
  unfold hexIs
  rw [List.all_eq_true]
  constructor
  · intro h i hi
    exact h _ (by rw [ByteArray.getElem_eq_getElem_data]; simp)
  · intro h c hc
    obtain ⟨i, hi, rfl⟩ := List.getElem_of_mem hc
    have hi' : i < s.size := by simpa using hi
    have := h i hi'
    rw [ByteArray.getElem_eq_getElem_data] at this
    simpa using this
theorem hexIs_false {s : ByteArray} {i : Nat} (h : i < s.size) (hf : hexB (s[i]'h).toNat = false) : hexIs s = false := by
  cases hq : hexIs s with
  | false => rfl
  | true => have := (hexIs_iff s).1 hq i h; rw [hf] at this; cases this
def digB (s : ByteArray) : Bool := decide (s.size = 64) && hexIs s
def memB (s : ByteArray) : List ByteArray → Bool
  | [] => false
  | a :: r => decide (s = a) || memB s r
theorem memB_iff (s : ByteArray) : ∀ l, memB s l = true ↔ s ∈ l
  | [] => by simp [memB]
  | a :: r => by simp [memB, memB_iff s r]
theorem memB_false {s : ByteArray} {l : List ByteArray} (h : s ∉ l) : memB s l = false := by
  cases hq : memB s l with
  | false => rfl
  | true => exact absurd ((memB_iff s l).1 hq) h
/-- what is wrong of IDs: 3, 7, or nothing -/
def wrongE : List ByteArray → List ByteArray → Int
  | _, [] => 0
  | seen, s :: r => if digB s = false then 3 else if memB s seen = true then 7 else wrongE (seen ++ [s]) r
def ones (l : List ByteArray) : As := l.map fun s => (s, 1)
theorem mget_ones (l : List ByteArray) (s : ByteArray) : mget (ones l) s = if memB s l = true then 1 else 0 := by
  induction l with
  | nil => rfl
  | cons a l ih =>
    simp only [ones, List.map_cons, mget, memB] at ih ⊢
    by_cases h : s = a
    · simp [h]
    · simp only [h, if_false, ih, decide_false, Bool.false_or]
theorem mset_ones {l : List ByteArray} {s : ByteArray} (h : memB s l = false) : mset (ones l) s 1 = ones (l ++ [s]) := by
  induction l with
  | nil => rfl
  | cons a l ih =>
    simp only [memB, Bool.or_eq_false_iff, decide_eq_false_iff_not] at h
    simp only [ones, List.map_cons, mset, List.cons_append] at ih ⊢
    rw [if_neg h.1, ih h.2]
def mayA (a : Au) : Bool := if (a.ids.length : Int) < 1 ∨ (16 : Int) < a.ids.length ∨ a.th < 1 ∨ (a.ids.length : Int) < a.th then false else decide (wrongE [] a.ids = 0)
def hasA (a : Au) (s : ByteArray) : Bool := memB s a.ids
theorem idx_mem (s : ByteArray) (ns : List ByteArray) : decide ((0 : Int) ≤ idx s ns 0) = memB s ns := by
  rcases idx_out s ns 0 with ⟨h1, h2⟩ | ⟨j, h1, h2⟩
  · rw [h1, memB_false h2]; rfl
  · rw [h1, (memB_iff s ns).2 (List.mem_of_getElem? h2)]
    exact decide_eq_true (by omega)
def sameA (a b : Au) : Bool := decide (a.th = b.th) && decide (a.ids = b.ids)
theorem Au.ext' {a b : Au} (h1 : a.th = b.th) (h2 : a.ids = b.ids) : a = b := by cases a; cases b; simp_all
theorem sameA_iff (a b : Au) : sameA a b = true ↔ a = b := by
  cases a; cases b; simp [sameA]
def txtV (s : ByteArray) : V := V.mk 3 0 s [] []
def txtsV (l : List ByteArray) : V := V.mk 4 0 ⟨#[]⟩ [] (l.map txtV)
def objV (th : Int) (ids : List ByteArray) : V := V.mk 5 0 ⟨#[]⟩ [⟨#[107, 101, 121, 105, 100, 115]⟩, ⟨#[116, 104, 114, 101, 115, 104, 111, 108, 100]⟩] [txtsV ids, V.mk 2 th ⟨#[]⟩ [] []]
/-! ### the statements' measure -/
def szI : List ByteArray → Nat → Nat
  | [], n => n
  | s :: r, n => if n < 5000 then szI r (n + 10 + min 5000 s.size) else n
def szA : List Au → Nat → Nat
  | [], n => n
  | p :: l, n => szA l (szI p.ids n)
theorem szI_big (l : List ByteArray) {n : Nat} (h : 5000 ≤ n) : szI l n = n := by cases l <;> simp [szI]; omega
theorem szI_le : ∀ (l : List ByteArray) (n : Nat), n ≤ szI l n ∧ szI l n ≤ max n 10010
  | [], n => by simp [szI]; omega
  | s :: r, n => by
    simp only [szI]
    split
    · have := szI_le r (n + 10 + min 5000 s.size); omega
    · omega
theorem szI_len : ∀ (l : List ByteArray) (n : Nat), szI l n < 5000 → n + 10 * l.length ≤ szI l n
  | [], n, _ => by simp [szI]
  | s :: r, n, h => by
    simp only [szI] at h ⊢
    split at h
    · rename_i hn
      rw [if_pos hn]
      have h1 := szI_len r _ h
      simp only [List.length_cons]; omega
    · omega
theorem szI_str : ∀ (l : List ByteArray) (n : Nat), szI l n < 5000 → ∀ s ∈ l, s.size < 5000
  | [], _, _, s, hs => by cases hs
  | a :: r, n, h, s, hs => by
    simp only [szI] at h
    split at h
    · have h1 := (szI_le r (n + 10 + min 5000 a.size)).1
      rcases List.mem_cons.1 hs with rfl | hs
      · omega
      · exact szI_str r _ h s hs
    · omega
theorem szA_one (p : Au) (n : Nat) : szA [p] n = szI p.ids n := rfl
theorem szA_le : ∀ (l : List Au) (n : Nat), n ≤ szA l n ∧ szA l n ≤ max n 10010
  | [], n => by simp [szA]; omega
  | p :: l, n => by
    simp only [szA]
    have h1 := szI_le p.ids n
    have h2 := szA_le l (szI p.ids n)
    omega
theorem rd_lenA {W : World} {S : BSet} {l : List Au} {v : Value} (h : Rd W S (ausD l) v) : l.length ≤ maxLen := by
  obtain ⟨cs, h1, _⟩ := h
  simp only [ausD, RdC] at h1
  obtain ⟨a, cap, _, h2, h3, _⟩ := h1
  simp at h2; omega
theorem rd_idsA {W : World} {S : BSet} {l : List Au} {v : Value} (h : Rd W S (ausD l) v) {k : Nat} (hk : k < l.length) : (l[k]).ids.length ≤ maxLen := by
  obtain ⟨cs, h1, _⟩ := h
  simp only [ausD, RdC] at h1
  obtain ⟨a, cap, _, h2, h3, h4⟩ := h1
  rcases h4 with h4 | ⟨b, o, _, _, _, h4⟩
  · have : l = [] := by simpa using h4
    subst this; simp at hk
  · obtain ⟨c, _, _, hc⟩ := h4.get k (by simpa using hk)
    obtain ⟨_, _, _, h5⟩ := rdAu_out (⟨c, by simpa using hc, rfl⟩ : Rd W S (l[k]).d (asm (l[k]).d c))
    exact rd_lenS h5
theorem idb (c : Int) : (ofBytes (List.replicate (lit 64) c)).size ≤ maxLen := by rw [ofBytes_size, List.length_replicate]; exact Nat.le_of_ble_eq_true rfl
theorem rep_set {α : Type} {a z : α} {k n : Nat} (h : k < n) : (List.replicate k a ++ List.replicate (n - k) z).set k a = List.replicate (k + 1) a ++ List.replicate (n - (k + 1)) z := by
  rw [show n - k = (n - (k + 1)) + 1 by omega, List.replicate_succ, List.set_append_right _ _ (by simp), List.replicate_succ']
  simp
end Go.Eng
