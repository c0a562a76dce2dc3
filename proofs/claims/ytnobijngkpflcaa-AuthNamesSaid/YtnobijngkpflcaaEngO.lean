/-
  Pickers that a call hands back.
-/
import Derived.Test.YtnobijngkpflcaaPureK
namespace Go.Eng
def PkF (w : World) (bo bm : Nat) : BSet := fun b o => Fr w b o ∧ b ∉ [bo, bm]
/-- a picker in new memory, with its map -/
def PkAt (w W : World) (T : TypeId) (x : V) (A : As) (e : Int) (u : Value) : Prop :=
  ∃ bo bm cn ci, u = .pointer (some ⟨bo, 0, none⟩) ∧ w.heap.size ≤ bo ∧ w.heap.size ≤ bm ∧ bo ≠ bm ∧ Own W bo [.int .u8 x.k, .int .i64 x.n, .string x.t, cn, ci, .map (some bm), .int .i64 e] T ∧ OwnM W bm A ∧
    Rd W (PkF w bo bm) (strsD x.ns) cn ∧ Rd W (PkF w bo bm) (valsD x.xs) ci ∧ x.t.size ≤ maxLen
/-- a picker in new memory, without a map -/
def PkD (w W : World) (T : TypeId) (e : Int) (u : Value) : Prop :=
  ∃ bo, u = .pointer (some ⟨bo, 0, none⟩) ∧ w.heap.size ≤ bo ∧ Own W bo [.int .u8 0, .int .i64 0, .string ⟨#[]⟩, .slice none 0 0, .slice none 0 0, .map none, .int .i64 e] T
def IsPk (w0 : World) (T : TypeId) (x : V) (A : As) (e : Int) : Fact := fun _ u W => PkAt w0 W T x A e u
def IsPkD (w0 : World) (T : TypeId) (e : Int) : Fact := fun _ u W => PkD w0 W T e u
theorem PkAt.ext {w W W' : World} {T : TypeId} {x : V} {A : As} {e : Int} {u : Value} (h : PkAt w W T x A e u) (k : Ext W W') : PkAt w W' T x A e u := by
  obtain ⟨bo, bm, cn, ci, h1, h2, h3, h4, h5, h6, h7, h8, h9⟩ := h
  exact ⟨bo, bm, cn, ci, h1, h2, h3, h4, h5.ext k, h6.ext k, h7.ext k, h8.ext k, h9⟩
theorem st_pk {w0 : World} {T : TypeId} {x : V} {A : As} {e : Int} : Stable All (IsPk w0 T x A e) := ⟨fun _ _ _ _ k h => PkAt.ext h k, fun _ _ _ _ _ _ h => h⟩
theorem st_pkd {w0 : World} {T : TypeId} {e : Int} : Stable All (IsPkD w0 T e) := ⟨fun _ _ _ _ k ⟨bo, h1, h2, h3⟩ => ⟨bo, h1, h2, h3.ext k⟩, fun _ _ _ _ _ _ h => h⟩
theorem pk_up {S : Nat → Prop} {w0 W W' : World} {T : TypeId} {x : V} {A : As} {e : Int} {u : Value} (hk : Keeps S w0 W) (h : PkAt W W' T x A e u) : PkAt w0 W' T x A e u := by
  obtain ⟨bo, bm, cn, ci, h1, h2, h3, h4, h5, h6, h7, h8, h9⟩ := h
  have up : ∀ b o, PkF W bo bm b o → b < W'.heap.size → PkF w0 bo bm b o := fun b o hb _ => ⟨⟨Nat.le_trans hk.size hb.1.1, hb.1.2⟩, hb.2⟩
  exact ⟨bo, bm, cn, ci, h1, Nat.le_trans hk.size h2, Nat.le_trans hk.size h3, h4, h5, h6, h7.mono up, h8.mono up, h9⟩
theorem pkd_up {S : Nat → Prop} {w0 W W' : World} {T : TypeId} {e : Int} {u : Value} (hk : Keeps S w0 W) (h : PkD W W' T e u) : PkD w0 W' T e u := by
  obtain ⟨bo, h1, h2, h3⟩ := h
  exact ⟨bo, h1, Nat.le_trans hk.size h2, h3⟩
theorem pk_data {S0 : Nat → Prop} {w W0 W : World} {bo bm : Nat} {M : List Nat} {d : D} {v : Value} (kw : Keeps S0 w W0) (hM : ∀ b ∈ M, b < W0.heap.size) (h : Rd W (PkF W0 bo bm) d v) : Rd W (SF w ([bo, bm] ++ M)) d v :=
  h.mono fun b _ hb _ => ⟨Nat.le_trans kw.size hb.1.1, hb.1.2, fun hm => (List.mem_append.1 hm).elim hb.2 fun h => by have := hM b h; have := hb.1.1; omega⟩
theorem sf_pkf {w W : World} {bo bm : Nat} {M : List Nat} {d : D} {v : Value} (hL : ∀ b ∈ [bo, bm], b ∈ M) (h : Rd W (SF w M) d v) : Rd W (PkF w bo bm) d v :=
  h.mono fun b _ hb _ => ⟨⟨hb.1, hb.2.1⟩, fun hm => hb.2.2 (hL b hm)⟩
def ofE (x : V) : Int := if x.k ≠ 5 then 10 else if x.ns.length ≠ x.xs.length ∨ asc x.ns = false then 3 else 0
theorem failK_dead {k : Nat} {e f : Int} (h : errK k e ≠ 0) : failK k e f = e := by rw [failK, if_neg h]
def kiS : ByteArray := ⟨#[107, 101, 121, 105, 100, 115]⟩
def thS : ByteArray := ⟨#[116, 104, 114, 101, 115, 104, 111, 108, 100]⟩
end Go.Eng
