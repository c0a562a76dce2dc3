/-
  Structs other than api.Value, as plain data.
-/
import Derived.Test.YtnobijngkpflcaaEngM
namespace Go.Eng
structure Au where
  th : Int
  ids : List ByteArray
def Au.d (a : Au) : D := .agg [.int .i64 a.th, strsD a.ids]
def ausD (l : List Au) : D := .lst 2 (l.map Au.d)
structure Mb where
  nm : ByteArray
  v : V
def Mb.d (a : Mb) : D := .agg [.str a.nm, a.v.d]
def mbsD (l : List Mb) : D := .lst 6 (l.map Mb.d)
structure Hs where
  al : ByteArray
  hx : ByteArray
def Hs.d (a : Hs) : D := .agg [.str a.al, .str a.hx]
def hssD (l : List Hs) : D := .lst 2 (l.map Hs.d)
structure Rc where
  ln : Int
  hs : List Hs
  cu : V
def Rc.d (a : Rc) : D := .agg [.int .i64 a.ln, hssD a.hs, a.cu.d]

section
variable {W : World} {S : BSet} {v : Value}
theorem rdL_out {sz : Nat} {ds : List D} {n : Nat} (hn : ds.length = n) (h : Rd W S (.lst sz ds) v) : ∃ ad cap, v = .slice ad n cap ∧ Rd W S (.lst sz ds) (.slice ad n cap) := by
  have h' := h
  obtain ⟨cs, h1, h2⟩ := h
  simp only [RdC] at h1
  obtain ⟨ad, cap, rfl, _⟩ := h1
  have e : v = .slice ad n cap := by rw [h2, hn]; rfl
  exact ⟨ad, cap, e, e ▸ h'⟩
theorem rdAus_out {l : List Au} (h : Rd W S (ausD l) v) : ∃ ad cap, v = .slice ad l.length cap ∧ Rd W S (ausD l) (.slice ad l.length cap) := rdL_out (by simp) h
theorem rdMbs_out {l : List Mb} (h : Rd W S (mbsD l) v) : ∃ ad cap, v = .slice ad l.length cap ∧ Rd W S (mbsD l) (.slice ad l.length cap) := rdL_out (by simp) h
theorem rdHss_out {l : List Hs} (h : Rd W S (hssD l) v) : ∃ ad cap, v = .slice ad l.length cap ∧ Rd W S (hssD l) (.slice ad l.length cap) := rdL_out (by simp) h

theorem rdAu_out {a : Au} (h : Rd W S a.d v) : ∃ a1 c1, v = .agg #[.int .i64 a.th, .slice a1 a.ids.length c1] ∧ Rd W S (strsD a.ids) (.slice a1 a.ids.length c1) := by
  obtain ⟨cs, h1, rfl⟩ := h
  simp only [Au.d, RdC, RdF] at h1
  obtain ⟨_, _, rfl, rfl, c2, _, rfl, h2, rfl⟩ := h1
  obtain ⟨c, rfl⟩ : ∃ c, c2 = [c] := by simp only [strsD, RdC] at h2; obtain ⟨a, cap, e, _⟩ := h2; exact ⟨_, e⟩
  obtain ⟨a1, c1, e1, h3⟩ := rdS_out (rd_one1 h2 rfl)
  subst e1
  exact ⟨a1, c1, rfl, h3⟩
theorem rdAu_mk {th : Int} {ids : List ByteArray} {c : Value} (h : Rd W S (strsD ids) c) : Rd W S (Au.d ⟨th, ids⟩) (.agg #[.int .i64 th, c]) :=
  ⟨[.int .i64 th, c], by simp only [Au.d, RdC, RdF]; exact ⟨[_], _, rfl, rfl, [c], [], rfl, rdc_one1 h rfl, rfl⟩, rfl⟩
theorem rdHs_out {a : Hs} (h : Rd W S a.d v) : v = .agg #[.string a.al, .string a.hx] ∧ a.al.size ≤ maxLen ∧ a.hx.size ≤ maxLen := by
  obtain ⟨cs, h1, rfl⟩ := h
  simp only [Hs.d, RdC, RdF] at h1
  obtain ⟨_, _, rfl, ⟨rfl, h2⟩, _, _, rfl, ⟨rfl, h3⟩, rfl⟩ := h1
  exact ⟨rfl, h2, h3⟩
theorem rdHs_mk {al hx : ByteArray} (h1 : al.size ≤ maxLen) (h2 : hx.size ≤ maxLen) : Rd W S (Hs.d ⟨al, hx⟩) (.agg #[.string al, .string hx]) :=
  ⟨[.string al, .string hx], by simp only [Hs.d, RdC, RdF]; exact ⟨[_], _, rfl, ⟨rfl, h1⟩, [_], [], rfl, ⟨rfl, h2⟩, rfl⟩, rfl⟩
theorem vcells {x : V} {cs : List Value} (h : RdC W S x.d cs) : ∃ a1 c1 a2 c2, cs = [.int .u8 x.k, .int .i64 x.n, .string x.t, .slice a1 x.ns.length c1, .slice a2 x.xs.length c2] ∧ x.t.size ≤ maxLen ∧ Rd W S (strsD x.ns) (.slice a1 x.ns.length c1) ∧ Rd W S (valsD x.xs) (.slice a2 x.xs.length c2) := by
  obtain ⟨a1, c1, a2, c2, e, h1, h2, h3⟩ := rdV_out (⟨cs, h, rfl⟩ : Rd W S x.d (asm x.d cs))
  refine ⟨a1, c1, a2, c2, ?_, h1, h2, h3⟩
  rw [V.d_eq] at e
  simp only [asm, Value.agg.injEq] at e
  have := congrArg Array.toList e
  simpa using this
theorem rdcV {x : V} {cs : Array Value} (h : Rd W S x.d (.agg cs)) : RdC W S x.d cs.toList := by
  obtain ⟨c, h1, e⟩ := h
  rw [V.d_eq] at e
  simp only [asm, Value.agg.injEq] at e
  subst e; simpa using h1
theorem rdMb_out {a : Mb} (h : Rd W S a.d v) : ∃ a1 c1 a2 c2, v = .agg #[.string a.nm, .int .u8 a.v.k, .int .i64 a.v.n, .string a.v.t, .slice a1 a.v.ns.length c1, .slice a2 a.v.xs.length c2] ∧ a.nm.size ≤ maxLen ∧ a.v.t.size ≤ maxLen ∧ Rd W S (strsD a.v.ns) (.slice a1 a.v.ns.length c1) ∧ Rd W S (valsD a.v.xs) (.slice a2 a.v.xs.length c2) := by
  obtain ⟨cs, h1, rfl⟩ := h
  simp only [Mb.d, RdC, RdF] at h1
  obtain ⟨_, _, rfl, ⟨rfl, h2⟩, c2, _, rfl, h3, rfl⟩ := h1
  obtain ⟨a1, c1, a2, c2', rfl, h4, h5, h6⟩ := vcells h3
  exact ⟨a1, c1, a2, c2', rfl, h2, h4, h5, h6⟩
theorem rdMb_mk {nm : ByteArray} {x : V} {c1 c2 c3 c4 c5 : Value} (h : nm.size ≤ maxLen) (hv : Rd W S x.d (.agg #[c1, c2, c3, c4, c5])) : Rd W S (Mb.d ⟨nm, x⟩) (.agg #[.string nm, c1, c2, c3, c4, c5]) :=
  ⟨[.string nm, c1, c2, c3, c4, c5], by simp only [Mb.d, RdC, RdF]; exact ⟨[_], _, rfl, ⟨rfl, h⟩, [c1, c2, c3, c4, c5], [], rfl, rdcV hv, rfl⟩, rfl⟩
theorem rdRc_out {a : Rc} (h : Rd W S a.d v) : ∃ a0 c0 a1 c1 a2 c2, v = .agg #[.int .i64 a.ln, .slice a0 a.hs.length c0, .int .u8 a.cu.k, .int .i64 a.cu.n, .string a.cu.t, .slice a1 a.cu.ns.length c1, .slice a2 a.cu.xs.length c2] ∧ a.cu.t.size ≤ maxLen ∧ Rd W S (hssD a.hs) (.slice a0 a.hs.length c0) ∧ Rd W S (strsD a.cu.ns) (.slice a1 a.cu.ns.length c1) ∧ Rd W S (valsD a.cu.xs) (.slice a2 a.cu.xs.length c2) := by
  obtain ⟨cs, h1, rfl⟩ := h
  simp only [Rc.d, RdC, RdF] at h1
  obtain ⟨_, _, rfl, rfl, c2, _, rfl, h2, c3, _, rfl, h3, rfl⟩ := h1
  obtain ⟨c, rfl⟩ : ∃ c, c2 = [c] := by simp only [hssD, RdC] at h2; obtain ⟨a, cap, e, _⟩ := h2; exact ⟨_, e⟩
  obtain ⟨a0, c0, e0, h5⟩ := rdHss_out (rd_one1 h2 rfl)
  subst e0
  obtain ⟨a1, c1, a2, c2', rfl, h4, h6, h7⟩ := vcells h3
  exact ⟨a0, c0, a1, c1, a2, c2', rfl, h4, h5, h6, h7⟩
theorem rdRc_mk {ln : Int} {hs : List Hs} {x : V} {c0 c1 c2 c3 c4 c5 : Value} (h : Rd W S (hssD hs) c0) (hv : Rd W S x.d (.agg #[c1, c2, c3, c4, c5])) : Rd W S (Rc.d ⟨ln, hs, x⟩) (.agg #[.int .i64 ln, c0, c1, c2, c3, c4, c5]) :=
  ⟨[.int .i64 ln, c0, c1, c2, c3, c4, c5], by simp only [Rc.d, RdC, RdF]; exact ⟨[_], _, rfl, rfl, [c0], _, rfl, rdc_one1 h rfl, [c1, c2, c3, c4, c5], [], rfl, rdcV hv, rfl⟩, rfl⟩
theorem width_Au (a : Au) : width a.d = 2 := rfl
theorem width_Hs (a : Hs) : width a.d = 2 := rfl
theorem width_Mb (a : Mb) : width a.d = 6 := by simp [Mb.d, width, widths, width_V]
theorem width_Rc (a : Rc) : width a.d = 7 := by simp [Rc.d, hssD, width, widths, width_V]
end
theorem zAu (W : World) (X : BSet) : RdF W X [.int .i64 0, strsD []] [.int .i64 0, .slice none 0 0] := ⟨[_], _, rfl, rfl, [_], _, rfl, rdc_one1 (rd_nil _) rfl, rfl⟩
theorem zHs (W : World) (X : BSet) : RdF W X [.str ⟨#[]⟩, .str ⟨#[]⟩] [.string ⟨#[]⟩, .string ⟨#[]⟩] := ⟨[_], _, rfl, ⟨rfl, by decide⟩, [_], _, rfl, ⟨rfl, by decide⟩, rfl⟩
theorem zMb (W : World) (X : BSet) : RdF W X [.str ⟨#[]⟩, V.d V.zero] [.string ⟨#[]⟩, .int .u8 0, .int .i64 0, .string ⟨#[]⟩, .slice none 0 0, .slice none 0 0] := ⟨[_], _, rfl, ⟨rfl, by decide⟩, _, [], rfl, rdC_zV W X, rfl⟩
theorem zRc (W : World) (X : BSet) : RdF W X [.int .i64 0, hssD [], V.d V.zero] [.int .i64 0, .slice none 0 0, .int .u8 0, .int .i64 0, .string ⟨#[]⟩, .slice none 0 0, .slice none 0 0] := ⟨[_], _, rfl, rfl, [_], _, rfl, rdc_one1 (rd_nil _) rfl, _, [], rfl, rdC_zV W X, rfl⟩
section
variable {P : Program} {ops : Array Oper} {S : Nat → Prop} {w0 : World} {a0 : Act} {Γ : Ctx}
variable {d : Option Tmp} {ty : TypeId} {pos : String} {af : Array Edge} {gd : Option (Nat × Bool)}
/-- an element of a row -/
theorem sp_indexL {α : Type} {x y : Operand} {T E : TypeId} {S' : BSet} {sz : Nat} {f : α → D} {xs : List α} {i : Nat} {j : Int} (hx : Has S w0 a0 Γ x (IsD S' (.lst sz (xs.map f)))) (hy : Has S w0 a0 Γ y (Is (.int .i64 j))) (hT : P.underlying T = some (.slice E)) (hz : szOf P E = some sz)
    (hj : j = i) (hi : i < xs.length) : Spec P ops S w0 a0 Γ ⟨d, .indexAddr T x y, ty, pos, af, gd⟩ (IsR S' (f xs[i])) := by
  subst hj
  have := sp_indexD (ty := ty) (pos := pos) (af := af) (gd := gd) (d := d) (ops := ops) hx hy hT hz (i := i) (by simpa using hi)
  simpa using this
theorem sp_lenL {α : Type} {x : Operand} {T E : TypeId} {S' : BSet} {sz : Nat} {f : α → D} {xs : List α} (hT : P.underlying T = some (.slice E)) (hx : Has S w0 a0 Γ x (IsD S' (.lst sz (xs.map f)))) :
    Spec P ops S w0 a0 Γ ⟨d, .call ⟨.builtin .len, #[x], #[T]⟩, ty, pos, af, gd⟩ (Is (.int .i64 xs.length)) := by
  have := sp_lenD (ops := ops) (d := d) (ty := ty) (pos := pos) (af := af) (gd := gd) hT hx
  simpa using this
end
end Go.Eng
