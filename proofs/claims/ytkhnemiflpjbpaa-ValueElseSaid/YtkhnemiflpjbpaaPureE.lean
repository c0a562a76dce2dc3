/-
  What has more than its kind has may not be.
-/
import Derived.Test.YtkhnemiflpjbpaaPureV
namespace Go.Eng
theorem may_proper {x : V} (h : mayB x = true) : properB x = true := by
  unfold mayB at h
  rw [mayV_eq] at h
  cases hp : properB x with
  | true => rfl
  | false => rw [if_pos (.inr hp)] at h; cases h
theorem may_not {x : V} (h : properB x = false) : mayB x = false := by
  unfold mayB
  rw [mayV_eq, if_pos (.inr h)]
theorem proper_mk (k : Nat) (n : Int) (t : ByteArray) (ns : List ByteArray) (xs : List V) : properB (V.mk k n t ns xs) =
  if (k ≠ 1 ∧ k ≠ 2 ∧ n ≠ 0) ∨ (k ≠ 3 ∧ t ≠ ⟨#[]⟩) then false
  else if (k ≠ 5 ∧ 0 < ns.length) ∨ (k ≠ 5 ∧ k ≠ 4 ∧ 0 < xs.length) then false
  else if k = 1 then decide (n = 0 ∨ n = 1)
  else if k = 2 ∨ k = 4 then true
  else if k = 3 then wr t
  else if k = 5 then decide (ns.length = xs.length) && asc ns && ns.all wr
  else false := rfl
theorem else_n {x : V} {n : Int} (h : mayB x = true) (hk : x.k ≠ 2) (hn : n ≠ x.n) (hb : x.k ≠ 1 ∨ (n ≠ 0 ∧ n ≠ 1)) : mayB (V.mk x.k n x.t x.ns x.xs) = false := by
  refine may_not ?_
  have hp := may_proper h
  obtain ⟨k, n', t, ns, xs⟩ := x
  simp only [V.k, V.n, V.t, V.ns, V.xs] at *
  rw [proper_mk] at hp ⊢
  by_cases h1 : k = 1
  · subst h1
    simp at hb
    simp [hb]
  · by_cases h0 : n = 0
    · subst h0
      have hn' : n' ≠ 0 := fun e => hn e.symm
      simp [h1, hk, hn'] at hp
    · simp [h1, hk, h0]
theorem else_t {x : V} {s : ByteArray} (hk : x.k ≠ 3) (hs : s ≠ ⟨#[]⟩) : mayB (V.mk x.k x.n s x.ns x.xs) = false := by
  refine may_not ?_
  rw [proper_mk, if_pos (.inr ⟨hk, hs⟩)]
theorem else_ns {x : V} {s : ByteArray} (h : mayB x = true) : mayB (V.mk x.k x.n x.t (x.ns ++ [s]) x.xs) = false := by
  refine may_not ?_
  have hp := may_proper h
  obtain ⟨k, n', t, ns, xs⟩ := x
  simp only [V.k, V.n, V.t, V.ns, V.xs] at *
  rw [proper_mk] at hp ⊢
  by_cases h5 : k = 5
  · subst h5
    split at hp
    · cases hp
    split at hp
    · cases hp
    simp at hp
    rw [if_neg (by assumption), if_neg (by simp)]
    simp; intro h; omega
  · split
    · rfl
    · rw [if_pos (.inl ⟨h5, by simp⟩)]
theorem else_xs {x y : V} (h : mayB x = true) (hk : x.k ≠ 4) : mayB (V.mk x.k x.n x.t x.ns (x.xs ++ [y])) = false := by
  refine may_not ?_
  have hp := may_proper h
  obtain ⟨k, n', t, ns, xs⟩ := x
  simp only [V.k, V.n, V.t, V.ns, V.xs] at *
  rw [proper_mk] at hp ⊢
  by_cases h5 : k = 5
  · subst h5
    split at hp
    · cases hp
    split at hp
    · cases hp
    simp at hp
    rw [if_neg (by assumption), if_neg (by simp)]
    simp; intro h; omega
  · split
    · rfl
    · rw [if_pos (.inr ⟨h5, hk, by simp⟩)]
theorem cnts_app (xs ys : List V) : V.cnts (xs ++ ys) = V.cnts xs + V.cnts ys := by
  induction xs with
  | nil => simp [V.cnts]
  | cons x xs ih => simp only [List.cons_append, V.cnts, ih]; omega
theorem long_wt {xs : List V} (h : szL xs 0 0 < 20000) : V.wts xs < 20000 := by have := szL_wt xs 0 0 h; omega
theorem may_bd {x : V} {b : Bool} (h : (decide (20000 ≤ szL [x] 0 0) || b) = false) : x.cnt ≤ 1073741824 := by
  have h1 : ¬ 20000 ≤ szL [x] 0 0 := by simpa using (Bool.or_eq_false_iff.1 h).1
  have h2 := long_wt (Nat.lt_of_not_le h1)
  simp only [V.wts] at h2
  have := cnt_wt x
  omega
end Go.Eng
