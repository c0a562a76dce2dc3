/-
  api.Value as plain data.
-/
import Derived.Test.YtnobijngkpflcaaEngD
namespace Go.Eng

inductive V where
  | mk (k : Nat) (n : Int) (t : ByteArray) (ns : List ByteArray) (xs : List V)

namespace V
def k : V → Nat | .mk k _ _ _ _ => k
def n : V → Int | .mk _ n _ _ _ => n
def t : V → ByteArray | .mk _ _ t _ _ => t
def ns : V → List ByteArray | .mk _ _ _ ns _ => ns
def xs : V → List V | .mk _ _ _ _ xs => xs
end V

def strsD (ns : List ByteArray) : D := .lst 1 (ns.map .str)

mutual
def V.d : V → D
  | .mk k n t ns xs => .agg [.int .u8 k, .int .i64 n, .str t, strsD ns, .lst 5 (V.ds xs)]
def V.ds : List V → List D
  | [] => []
  | x :: xs => V.d x :: V.ds xs
end
theorem V.ds_eq : ∀ xs : List V, V.ds xs = xs.map V.d
  | [] => rfl
  | x :: xs => by simp [V.ds, V.ds_eq xs]
def valsD (xs : List V) : D := .lst 5 (xs.map V.d)
theorem V.d_eq (x : V) : x.d = .agg [.int .u8 x.k, .int .i64 x.n, .str x.t, strsD x.ns, valsD x.xs] := by
  cases x; simp [V.d, V.k, V.n, V.t, V.ns, V.xs, valsD, V.ds_eq]

/-- a value of the type api.Value, taken apart -/
theorem rd_V {W : World} {S : BSet} {x : V} {v : Value} : Rd W S x.d v ↔ ∃ cn ci, v = .agg #[.int .u8 x.k, .int .i64 x.n, .string x.t, cn, ci] ∧ x.t.size ≤ maxLen ∧ RdC W S (strsD x.ns) [cn] ∧ RdC W S (valsD x.xs) [ci] := by
  rw [V.d_eq]
  constructor
  · rintro ⟨cs, h, rfl⟩
    simp only [RdC, RdF] at h
    obtain ⟨c1, r1, rfl, rfl, c2, r2, rfl, rfl, c3, r3, rfl, ⟨rfl, ht⟩, c4, r4, rfl, h4, c5, r5, rfl, h5, rfl⟩ := h
    simp only [strsD, valsD, RdC] at h4 h5
    have e4 : ∃ cn, c4 = [cn] := by obtain ⟨a, cap, e, _⟩ := h4; exact ⟨_, e⟩
    have e5 : ∃ cn, c5 = [cn] := by obtain ⟨a, cap, e, _⟩ := h5; exact ⟨_, e⟩
    obtain ⟨cn, rfl⟩ := e4
    obtain ⟨ci, rfl⟩ := e5
    exact ⟨cn, ci, rfl, ht, by simpa only [strsD, RdC] using h4, by simpa only [valsD, RdC] using h5⟩
  · rintro ⟨cn, ci, rfl, ht, h4, h5⟩
    refine ⟨[.int .u8 x.k, .int .i64 x.n, .string x.t, cn, ci], ?_, rfl⟩
    simp only [RdC, RdF]
    exact ⟨[_], _, rfl, rfl, [_], _, rfl, rfl, [_], _, rfl, ⟨rfl, ht⟩, [cn], [ci], rfl, h4, [ci], [], rfl, h5, rfl⟩
theorem rdc_one1 {W : World} {S : BSet} {dd : D} {v : Value} (h : Rd W S dd v) (ha : dd.isAgg = false) : RdC W S dd [v] := by
  obtain ⟨cs, h1, rfl⟩ := h
  have hl := rdc_width dd cs h1
  have : width dd = 1 := by cases dd <;> simp_all [D.isAgg, width]
  match cs, hl.trans this with
  | [c], _ => cases dd <;> simp_all [asm, D.isAgg]
theorem rd_one1 {W : World} {S : BSet} {dd : D} {v : Value} (h : RdC W S dd [v]) (ha : dd.isAgg = false) : Rd W S dd v :=
  ⟨[v], h, by cases dd <;> simp_all [asm, D.isAgg]⟩

mutual
def V.cnt : V → Nat
  | .mk _ _ _ _ xs => V.cnts xs + 1
def V.cnts : List V → Nat
  | [] => 0
  | x :: xs => V.cnt x + V.cnts xs
end
end Go.Eng
