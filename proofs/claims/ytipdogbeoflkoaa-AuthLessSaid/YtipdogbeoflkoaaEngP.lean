/-
  Authorities among the arguments.
-/
import Derived.Test.YtipdogbeoflkoaaEngJ
import Derived.Test.YtipdogbeoflkoaaEngS
namespace Go.Eng
open Go.ChangeShapes Go.WideShapes Go.ChangeAt Go.RowKit
structure AuT (P : Program) (tA tN tSs tS : TypeId) : Prop where
  v : ((P.underlying tA).bind fun | .struct fs => some (fs.toList.map (·.type)) | _ => none) = some [tN, tSs]
  n : P.underlying tN = some (.int .i64)
  ss : P.underlying tSs = some (.slice tS)
  s : P.underlying tS = some .string
  c1 : P.cellsOf tS = 1
theorem hasAu {P : Program} {tA tN tSs tS : TypeId} (q : AuT P tA tN tSs tS) (d : D) (h : HasT P d tA) : ∃ a : Au, d = a.d := by
  obtain ⟨xs, rfl, hf⟩ := hasT_agg q.v d h
  match xs, hf with
  | [a, b], hf =>
    simp only [HasTF] at hf
    obtain ⟨ha, hb, -⟩ := hf
    obtain ⟨m, rfl, _⟩ := hasT_int q.n _ ha
    obtain ⟨l, rfl, h1⟩ := hasT_lst q.ss _ hb
    obtain ⟨ns, rfl⟩ := hasT_strs q.s l h1
    exact ⟨⟨m, ns⟩, by simp only [Au.d, strsD, q.c1]⟩
  | [], hf => simp [HasTF] at hf
  | [_], hf => simp [HasTF] at hf
  | _ :: _ :: _ :: _, hf => simp [HasTF] at hf
theorem arg_Au {H : Type} {enc : TypeId × Value → H} {P : Program} {W : World} {tA tN tSs tS : TypeId} (q : AuT P tA tN tSs tS) {ts : List TypeId} {fs : Array Field} {v : Value} {d : DataW H} {ps : List MemPlace} {base : Nat} (hp : (ts.all (plain1 P ts)) = true) (ht : tA ∈ ts) (hu : P.underlying tA = some (.struct fs)) (hval : Value.okWide P W .any base tA v)
    (h : DataW.Trod enc P W 0 (fun _ => true) true tA v d ps) : ∃ a : Au, Rd W Univ a.d v := by
  obtain ⟨dd, h1, h2⟩ := arg_struct hp ht hu hval h
  obtain ⟨a, rfl⟩ := hasAu q dd h2
  exact ⟨a, h1⟩
end Go.Eng
