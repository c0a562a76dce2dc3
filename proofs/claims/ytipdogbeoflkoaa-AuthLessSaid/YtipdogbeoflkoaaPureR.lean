/-
  IDs in another row; IDs less one.
-/
import Derived.Test.YtipdogbeoflkoaaPureL
namespace Go.Eng
def rotL (ids : List ByteArray) (r k : Nat) : List ByteArray := (List.range k).map fun i => ids.getD ((r + i) % ids.length) ⟨#[]⟩
theorem rotL_step {ids : List ByteArray} {r k : Nat} (h : (r + k) % ids.length < ids.length) : rotL ids r k ++ [ids[(r + k) % ids.length]] = rotL ids r (k + 1) := by
  unfold rotL
  rw [List.range_succ, List.map_append, List.map_singleton, List.getD_eq_getElem?_getD, List.getElem?_eq_getElem h]; rfl
theorem rot_eq {ids : List ByteArray} {r : Nat} (hr : r < ids.length) : rotL ids r ids.length = ids.drop r ++ ids.take r := by
  apply List.ext_getElem
  · simp [rotL]; omega
  · intro i h1 h2
    have hi : i < ids.length := by simpa [rotL] using h1
    simp only [rotL, List.getElem_map, List.getElem_range, List.getD_eq_getElem?_getD]
    by_cases hlt : r + i < ids.length
    · rw [Nat.mod_eq_of_lt hlt, List.getElem_append_left (by simp; omega), List.getElem_drop, List.getElem?_eq_getElem hlt]; rfl
    · have hm : (r + i) % ids.length = r + i - ids.length := by rw [Nat.mod_eq_sub_mod (by omega), Nat.mod_eq_of_lt (by omega)]
      rw [hm, List.getElem_append_right (by simp; omega), List.getElem?_eq_getElem (by omega)]
      simp only [Option.getD_some, List.getElem_take, List.length_drop]
      congr 1; omega
theorem wrong_iff : ∀ (l seen : List ByteArray), wrongE seen l = 0 ↔ (∀ s ∈ l, digB s = true) ∧ l.Nodup ∧ ∀ s ∈ l, s ∉ seen
  | [], seen => by simp [wrongE]
  | a :: l, seen => by
    rw [wrongE]
    by_cases hd : digB a = false
    · rw [if_pos hd]; simp [hd]
    rw [if_neg hd]
    by_cases hm : memB a seen = true
    · rw [if_pos hm]
      have := (memB_iff a seen).1 hm
      simp [this]
    rw [if_neg hm, wrong_iff l (seen ++ [a])]
    have hns : a ∉ seen := fun h => hm ((memB_iff a seen).2 h)
    have hda : digB a = true := by simpa using hd
    simp only [List.mem_cons, forall_eq_or_imp, List.nodup_cons, List.mem_append, List.mem_singleton, not_or]
    constructor
    · rintro ⟨h1, h2, h3⟩
      exact ⟨⟨hda, h1⟩, ⟨fun h => (h3 a h).2.1 rfl, h2⟩, hns, fun s hs => (h3 s hs).1⟩
    · rintro ⟨⟨_, h1⟩, ⟨h4, h2⟩, _, h3⟩
      exact ⟨h1, h2, fun s hs => ⟨h3 s hs, fun e => h4 (e ▸ hs), by simp⟩⟩
theorem wrong_zero (l : List ByteArray) : wrongE [] l = 0 ↔ (∀ s ∈ l, digB s = true) ∧ l.Nodup := by rw [wrong_iff]; simp
theorem nodup_rot (l : List ByteArray) (r : Nat) : (l.drop r ++ l.take r).Nodup ↔ l.Nodup := by
  have : (l.drop r ++ l.take r).Perm l := by
    have h := List.perm_append_comm (l₁ := l.drop r) (l₂ := l.take r)
    rwa [List.take_append_drop] at h
  exact this.nodup_iff
theorem mem_rot (l : List ByteArray) (r : Nat) (s : ByteArray) : s ∈ l.drop r ++ l.take r ↔ s ∈ l := by
  have : (l.drop r ++ l.take r).Perm l := by
    have h := List.perm_append_comm (l₁ := l.drop r) (l₂ := l.take r)
    rwa [List.take_append_drop] at h
  exact this.mem_iff
theorem memB_rot (l : List ByteArray) (r : Nat) (s : ByteArray) : memB s (l.drop r ++ l.take r) = memB s l := by
  rw [Bool.eq_iff_iff, memB_iff, memB_iff, mem_rot]
theorem mayA_rot {p : Au} {r : Nat} (hr : r < p.ids.length) : mayA ⟨p.th, rotL p.ids r p.ids.length⟩ = mayA p := by
  rw [rot_eq hr]
  have hl : (p.ids.drop r ++ p.ids.take r).length = p.ids.length := by simp; omega
  unfold mayA
  simp only [hl]
  split
  · rfl
  · refine decide_eq_decide.2 ?_
    rw [wrong_zero, wrong_zero, nodup_rot]
    constructor
    · rintro ⟨h1, h2⟩; exact ⟨fun s hs => h1 s ((mem_rot _ _ _).2 hs), h2⟩
    · rintro ⟨h1, h2⟩; exact ⟨fun s hs => h1 s ((mem_rot _ _ _).1 hs), h2⟩
theorem hasA_rot {p : Au} {r : Nat} (hr : r < p.ids.length) (s : ByteArray) : hasA ⟨p.th, rotL p.ids r p.ids.length⟩ s = hasA p s := by
  rw [rot_eq hr]; exact memB_rot _ _ _
theorem tmod_nat {u : Int} {n : Nat} (hu : 0 ≤ u) (hn : 0 < n) : ∃ r : Nat, Int.tmod u n = r ∧ r < n := by
  refine ⟨(u.toNat % n), ?_, Nat.mod_lt _ hn⟩
  obtain ⟨m, rfl⟩ := Int.eq_ofNat_of_zero_le hu
  rw [Int.tmod_eq_emod_of_nonneg hu]
  simp
theorem u64_nonneg (n : Int) : 0 ≤ IntKind.u64.wrap n := by simp [IntKind.wrap, IntKind.bits, IntKind.signed]; omega
/-! ### less one -/
theorem less_put {ids : List ByteArray} {r k : Nat} (h : k < ids.length) (hne : k ≠ r) : (ids.take k).eraseIdx r ++ [ids[k]] = (ids.take (k + 1)).eraseIdx r := by
  rw [List.take_succ_eq_append_getElem h]
  by_cases hr : r < k
  · rw [List.eraseIdx_append_of_lt_length (by simp; omega)]
  · rw [List.eraseIdx_of_length_le (by simp; omega), List.eraseIdx_of_length_le (by simp; omega)]
theorem less_skip {ids : List ByteArray} {r k : Nat} (h : k < ids.length) (he : k = r) : (ids.take k).eraseIdx r = (ids.take (k + 1)).eraseIdx r := by
  subst he
  rw [List.take_succ_eq_append_getElem h, List.eraseIdx_of_length_le (by simp; omega), List.eraseIdx_append_of_length_le (by simp; omega)]
  simp [Nat.min_eq_left (Nat.le_of_lt h)]
theorem mem_less {ids : List ByteArray} {r : Nat} (hn : ids.Nodup) (h : r < ids.length) (s : ByteArray) : s ∈ ids.eraseIdx r ↔ s ∈ ids ∧ s ≠ ids[r] := by
  rw [List.mem_eraseIdx_iff_getElem]
  constructor
  · rintro ⟨i, hi, hne, rfl⟩
    refine ⟨List.getElem_mem _, fun e => hne ?_⟩
    exact (List.getElem_inj hn).1 e
  · rintro ⟨hs, hne⟩
    obtain ⟨i, hi, rfl⟩ := List.getElem_of_mem hs
    exact ⟨i, hi, fun e => hne (by subst e; rfl), rfl⟩
theorem mayA_wrong {p : Au} (h : mayA p = true) : wrongE [] p.ids = 0 ∧ 1 ≤ p.th ∧ p.th ≤ p.ids.length ∧ p.ids.length ≤ 16 := by
  unfold mayA at h
  split at h
  · cases h
  · exact ⟨by simpa using h, by omega, by omega, by omega⟩
theorem mayA_less {p : Au} {r : Nat} (h : mayA p = true) (hr : r < p.ids.length) : mayA ⟨p.th, p.ids.eraseIdx r⟩ = decide (p.th < p.ids.length) := by
  obtain ⟨hw, h1, h2, h3⟩ := mayA_wrong h
  have hz := (wrong_zero p.ids).1 hw
  have hl : (p.ids.eraseIdx r).length = p.ids.length - 1 := by rw [List.length_eraseIdx]; simp [hr]
  have hw' : wrongE [] (p.ids.eraseIdx r) = 0 := (wrong_zero _).2 ⟨fun s hs => hz.1 s ((mem_less hz.2 hr s).1 hs).1, hz.2.sublist (List.eraseIdx_sublist _ _)⟩
  unfold mayA
  simp only [hl, hw']
  by_cases hlt : p.th < p.ids.length
  · rw [if_neg (by omega)]; simp [hlt]
  · rw [if_pos (by omega)]; simp [hlt]
theorem hasA_less {p : Au} {r : Nat} (h : mayA p = true) (hr : r < p.ids.length) : hasA ⟨p.th, p.ids.eraseIdx r⟩ p.ids[r] = false := by
  have hz := (wrong_zero p.ids).1 (mayA_wrong h).1
  exact memB_false fun hm => ((mem_less hz.2 hr _).1 hm).2 rfl
theorem hasA_own {p : Au} {i : Nat} (h : i < p.ids.length) : hasA p p.ids[i] = true := (memB_iff _ _).2 (List.getElem_mem _)
end Go.Eng
