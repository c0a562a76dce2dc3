/-
  Rows of a table of examples (a value and an error), and guards that are known.
-/
import Derived.Test.YtnobijngkpflcaaEngS
namespace Go.Eng
structure Ro where
  v : V
  e : Int
def Ro.d (a : Ro) : D := .agg [a.v.d, .int .i64 a.e]
def rosD (l : List Ro) : D := .lst 6 (l.map Ro.d)
section
variable {W : World} {S : BSet} {v : Value}
theorem rdRos_out {l : List Ro} (h : Rd W S (rosD l) v) : ∃ ad cap, v = .slice ad l.length cap ∧ Rd W S (rosD l) (.slice ad l.length cap) := rdL_out (by simp) h
theorem rdRo_out {a : Ro} (h : Rd W S a.d v) : ∃ a1 c1 a2 c2, v = .agg #[.int .u8 a.v.k, .int .i64 a.v.n, .string a.v.t, .slice a1 a.v.ns.length c1, .slice a2 a.v.xs.length c2, .int .i64 a.e] ∧ a.v.t.size ≤ maxLen ∧ Rd W S (strsD a.v.ns) (.slice a1 a.v.ns.length c1) ∧ Rd W S (valsD a.v.xs) (.slice a2 a.v.xs.length c2) := by
  obtain ⟨cs, h1, rfl⟩ := h
  simp only [Ro.d, RdC, RdF] at h1
  obtain ⟨c1, _, rfl, h3, _, _, rfl, rfl, rfl⟩ := h1
  obtain ⟨a1, c1, a2, c2', rfl, h4, h5, h6⟩ := vcells h3
  exact ⟨a1, c1, a2, c2', rfl, h4, h5, h6⟩
theorem rdRo_mk {e : Int} {x : V} {c1 c2 c3 c4 c5 : Value} (hv : Rd W S x.d (.agg #[c1, c2, c3, c4, c5])) : Rd W S (Ro.d ⟨x, e⟩) (.agg #[c1, c2, c3, c4, c5, .int .i64 e]) :=
  ⟨[c1, c2, c3, c4, c5, .int .i64 e], by simp only [Ro.d, RdC, RdF]; exact ⟨[c1, c2, c3, c4, c5], [_], rfl, rdcV hv, [_], [], rfl, rfl, rfl⟩, rfl⟩
theorem width_Ro (a : Ro) : width a.d = 6 := by simp [Ro.d, width, widths, width_V]
end
theorem zRo (W : World) (X : BSet) : RdF W X [V.d V.zero, .int .i64 0] [.int .u8 0, .int .i64 0, .string ⟨#[]⟩, .slice none 0 0, .slice none 0 0, .int .i64 0] := ⟨[_, _, _, _, _], [_], rfl, rdC_zV W X, [_], [], rfl, rfl, rfl⟩
def ung : Nat → List Oper → List Oper
  | 0, l => l
  | _ + 1, [] => []
  | n + 1, o :: l => { o with guard := none } :: ung n l
theorem obrun_ung {P : Program} {ops : Array Oper} {o : Oper} {a : Act} {W : World} {R : Value → World → Prop} {gi t : Nat} {want : Bool} (hg : o.guard = some (gi, want)) (ht : (ops[gi]?).bind (·.dst) = some t) (hs : sl a t = .bool want)
    (h : ObRun P ops { o with guard := none } a W R) : ObRun P ops o a W R := by
  have hy : yielded ops a.tmps gi = some want := by
    unfold yielded; rw [ht]
    unfold sl at hs
    cases h2 : a.tmps[t]? with
    | none => simp [h2] at hs; cases hs
    | some x => simp [h2] at hs; subst hs; simp [h2]
  unfold ObRun at h ⊢
  rw [if_pos (by simp [Region.wanted])] at h
  rw [if_pos (by simp [Region.wanted, hg, hy])]
  exact h
theorem tail_ung {P : Program} {ops : Array Oper} {Q : Exit → Act → World → Prop} (gi t : Nat) (want : Bool) (ht : (ops[gi]?).bind (·.dst) = some t) : ∀ (n : Nat) {l : List Oper} {a : Act} {W : World}
    (_ : ((l.take n).all fun o => o.guard == some (gi, want) && o.dst != some t) = true) (_ : sl a t = .bool want) (_ : runTail P ops Q (ung n l) a W), runTail P ops Q l a W
  | 0, _, _, _, _, _, h => h
  | _ + 1, [], _, _, _, _, h => h
  | n + 1, o :: l, a, W, hg, hs, h => by
    simp only [List.take_succ_cons, List.all_cons, Bool.and_eq_true, beq_iff_eq, bne_iff_ne] at hg
    refine obrun_ung hg.1.1 ht hs ?_
    exact ObRun.mono h fun v W' h' => tail_ung gi t want ht n hg.2 (by rw [sl_put_ne hg.1.2]; exact hs) h'
end Go.Eng
