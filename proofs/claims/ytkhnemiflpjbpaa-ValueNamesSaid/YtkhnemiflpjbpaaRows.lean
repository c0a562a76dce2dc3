/-
  NARROWER THAN 'FOR EVERY INPUT', by the rows' own cells (each row's printed sentence says how): ValueSame: loops · ValueParts: loops · ValueElse: loops · ValueTells: loops · ValuePuts: loops · ValueWith: loops · ValueApart: loops.
  DERIVED. THE GIVEN ROWS OF THIS SEAT. 8 by the template 'for every input the law returns true; each argument reads behind the call as it read before'; 0 by the template 'total and deterministic' (their statements: YtkhnemiflpjbpaaTotals.lean).
  GIVEN WITH THE SEED: the statements are not yours to turn. If you find one false, say at which input.
  Laid BY PROGRAM, IN A SANDBOX (cutbox-rows.mjs): the forced cells as the released guide's own fill.sh prints them over the translation 5cd4c6c2d1f3b85e… (all of the seat's roots in one cut). By AI agents, Wed Nov 11 2026. No macro, syntax, notation, axiom, sorry.
-/
import Derived.Test.YtkhnemiflpjbpaaChecked
import GoSem.Claim
import GoSem.ClaimJoined
import GoSem.ClaimMapViews
import Derived.JoinedTies
import Derived.KernelRfl
namespace Go.Proofs.Ytkhnemiflpjbpaa
/- THE CELL 'sum', in the pinned program and in every row, IS THE sha256 OF THE DUMP (.gsa) THAT YtkhnemiflpjbpaaProg.lean LOADS. Nothing in Lean hashes anything: it is a label: what it is worth is what the hold of that sum in a sandbox is worth. -/
noncomputable def Try.pinned : Pinned := { name := "ytkhnemiflpjbpaa", sum := "5cd4c6c2d1f3b85edc898f84b7334500b97e2a6e35f7257364d3db308d2f21ef", checked := Try.checked }
namespace Rows
def none {H : Type} : Left H := { results := [], args := [] }

/-- 'legatelaw08.ValueSame': WHATEVER THE INPUT: true; the input reads as it did. -/
def valueSameSpec : ChangeSpec := { name := "valueSame", fn := fun _ => fun
  | [d1, d2] => { results := [.lit (.bool true)], args := [d1, d2] }
  | _ => none }
def valueSameRow : OpenClaim := { program := "ytkhnemiflpjbpaa", sum := "5cd4c6c2d1f3b85edc898f84b7334500b97e2a6e35f7257364d3db308d2f21ef", func := "legate/legatelaw08.ValueSame", spec := "valueSame", unfollowed := true, recurses := true, loops := true, apart := false }
def ValueSameSaid : Prop := valueSameRow.holds Try.pinned (OpenSpec.ofChange valueSameSpec)

/-- ITS FALSE NEIGHBOUR: 'it returns false'. Refute it at one input. -/
def valueSameWrong : ChangeSpec := { name := "valueSame", fn := fun _ => fun
  | [d1, d2] => { results := [.lit (.bool false)], args := [d1, d2] }
  | _ => none }
def ValueSameWrongFalsely : Prop := valueSameRow.holds Try.pinned (OpenSpec.ofChange valueSameWrong)

/-- 'legatelaw08.ValueParts': WHATEVER THE INPUT: true; the input reads as it did. -/
def valuePartsSpec : ChangeSpec := { name := "valueParts", fn := fun _ => fun
  | [d] => { results := [.lit (.bool true)], args := [d] }
  | _ => none }
def valuePartsRow : OpenClaim := { program := "ytkhnemiflpjbpaa", sum := "5cd4c6c2d1f3b85edc898f84b7334500b97e2a6e35f7257364d3db308d2f21ef", func := "legate/legatelaw08.ValueParts", spec := "valueParts", unfollowed := true, recurses := true, loops := true, apart := false }
def ValuePartsSaid : Prop := valuePartsRow.holds Try.pinned (OpenSpec.ofChange valuePartsSpec)

/-- ITS FALSE NEIGHBOUR: 'it returns false'. Refute it at one input. -/
def valuePartsWrong : ChangeSpec := { name := "valueParts", fn := fun _ => fun
  | [d] => { results := [.lit (.bool false)], args := [d] }
  | _ => none }
def ValuePartsWrongFalsely : Prop := valuePartsRow.holds Try.pinned (OpenSpec.ofChange valuePartsWrong)

/-- 'legatelaw08.ValueElse': WHATEVER THE INPUT: true; the input reads as it did. -/
def valueElseSpec : ChangeSpec := { name := "valueElse", fn := fun _ => fun
  | [d1, d2, d3] => { results := [.lit (.bool true)], args := [d1, d2, d3] }
  | _ => none }
def valueElseRow : OpenClaim := { program := "ytkhnemiflpjbpaa", sum := "5cd4c6c2d1f3b85edc898f84b7334500b97e2a6e35f7257364d3db308d2f21ef", func := "legate/legatelaw08.ValueElse", spec := "valueElse", unfollowed := true, recurses := true, loops := true, apart := false }
def ValueElseSaid : Prop := valueElseRow.holds Try.pinned (OpenSpec.ofChange valueElseSpec)

/-- ITS FALSE NEIGHBOUR: 'it returns false'. Refute it at one input. -/
def valueElseWrong : ChangeSpec := { name := "valueElse", fn := fun _ => fun
  | [d1, d2, d3] => { results := [.lit (.bool false)], args := [d1, d2, d3] }
  | _ => none }
def ValueElseWrongFalsely : Prop := valueElseRow.holds Try.pinned (OpenSpec.ofChange valueElseWrong)

/-- 'legatelaw08.ValueTells': WHATEVER THE INPUT: true; the input reads as it did. -/
def valueTellsSpec : ChangeSpec := { name := "valueTells", fn := fun _ => fun
  | [d1, d2, d3] => { results := [.lit (.bool true)], args := [d1, d2, d3] }
  | _ => none }
def valueTellsRow : OpenClaim := { program := "ytkhnemiflpjbpaa", sum := "5cd4c6c2d1f3b85edc898f84b7334500b97e2a6e35f7257364d3db308d2f21ef", func := "legate/legatelaw08.ValueTells", spec := "valueTells", unfollowed := true, recurses := true, loops := true, apart := false }
def ValueTellsSaid : Prop := valueTellsRow.holds Try.pinned (OpenSpec.ofChange valueTellsSpec)

/-- ITS FALSE NEIGHBOUR: 'it returns false'. Refute it at one input. -/
def valueTellsWrong : ChangeSpec := { name := "valueTells", fn := fun _ => fun
  | [d1, d2, d3] => { results := [.lit (.bool false)], args := [d1, d2, d3] }
  | _ => none }
def ValueTellsWrongFalsely : Prop := valueTellsRow.holds Try.pinned (OpenSpec.ofChange valueTellsWrong)

/-- 'legatelaw08.ValuePuts': WHATEVER THE INPUT: true; the input reads as it did. -/
def valuePutsSpec : ChangeSpec := { name := "valuePuts", fn := fun _ => fun
  | [d1, d2, d3] => { results := [.lit (.bool true)], args := [d1, d2, d3] }
  | _ => none }
def valuePutsRow : OpenClaim := { program := "ytkhnemiflpjbpaa", sum := "5cd4c6c2d1f3b85edc898f84b7334500b97e2a6e35f7257364d3db308d2f21ef", func := "legate/legatelaw08.ValuePuts", spec := "valuePuts", unfollowed := true, recurses := true, loops := true, apart := false }
def ValuePutsSaid : Prop := valuePutsRow.holds Try.pinned (OpenSpec.ofChange valuePutsSpec)

/-- ITS FALSE NEIGHBOUR: 'it returns false'. Refute it at one input. -/
def valuePutsWrong : ChangeSpec := { name := "valuePuts", fn := fun _ => fun
  | [d1, d2, d3] => { results := [.lit (.bool false)], args := [d1, d2, d3] }
  | _ => none }
def ValuePutsWrongFalsely : Prop := valuePutsRow.holds Try.pinned (OpenSpec.ofChange valuePutsWrong)

/-- 'legatelaw08.ValueNames': WHATEVER THE INPUT: true; the input reads as it did. -/
def valueNamesSpec : ChangeSpec := { name := "valueNames", fn := fun _ => fun
  | [] => { results := [.lit (.bool true)], args := [] }
  | _ => none }
def valueNamesRow : OpenClaim := { program := "ytkhnemiflpjbpaa", sum := "5cd4c6c2d1f3b85edc898f84b7334500b97e2a6e35f7257364d3db308d2f21ef", func := "legate/legatelaw08.ValueNames", spec := "valueNames", unfollowed := true, recurses := true, apart := false }
def ValueNamesSaid : Prop := valueNamesRow.holds Try.pinned (OpenSpec.ofChange valueNamesSpec)

/-- ITS FALSE NEIGHBOUR: 'it returns false'. Refute it at one input. -/
def valueNamesWrong : ChangeSpec := { name := "valueNames", fn := fun _ => fun
  | [] => { results := [.lit (.bool false)], args := [] }
  | _ => none }
def ValueNamesWrongFalsely : Prop := valueNamesRow.holds Try.pinned (OpenSpec.ofChange valueNamesWrong)

/-- 'legatelaw08.ValueWith': WHATEVER THE INPUT: true; the input reads as it did. -/
def valueWithSpec : ChangeSpec := { name := "valueWith", fn := fun _ => fun
  | [d1, d2, d3, d4] => { results := [.lit (.bool true)], args := [d1, d2, d3, d4] }
  | _ => none }
def valueWithRow : OpenClaim := { program := "ytkhnemiflpjbpaa", sum := "5cd4c6c2d1f3b85edc898f84b7334500b97e2a6e35f7257364d3db308d2f21ef", func := "legate/legatelaw08.ValueWith", spec := "valueWith", unfollowed := true, recurses := true, loops := true, apart := false }
def ValueWithSaid : Prop := valueWithRow.holds Try.pinned (OpenSpec.ofChange valueWithSpec)

/-- ITS FALSE NEIGHBOUR: 'it returns false'. Refute it at one input. -/
def valueWithWrong : ChangeSpec := { name := "valueWith", fn := fun _ => fun
  | [d1, d2, d3, d4] => { results := [.lit (.bool false)], args := [d1, d2, d3, d4] }
  | _ => none }
def ValueWithWrongFalsely : Prop := valueWithRow.holds Try.pinned (OpenSpec.ofChange valueWithWrong)

/-- 'legatelaw08.ValueApart': WHATEVER THE INPUT: true; the input reads as it did. -/
def valueApartSpec : ChangeSpec := { name := "valueApart", fn := fun _ => fun
  | [d1, d2, d3] => { results := [.lit (.bool true)], args := [d1, d2, d3] }
  | _ => none }
def valueApartRow : OpenClaim := { program := "ytkhnemiflpjbpaa", sum := "5cd4c6c2d1f3b85edc898f84b7334500b97e2a6e35f7257364d3db308d2f21ef", func := "legate/legatelaw08.ValueApart", spec := "valueApart", unfollowed := true, recurses := true, loops := true, apart := false }
def ValueApartSaid : Prop := valueApartRow.holds Try.pinned (OpenSpec.ofChange valueApartSpec)

/-- ITS FALSE NEIGHBOUR: 'it returns false'. Refute it at one input. -/
def valueApartWrong : ChangeSpec := { name := "valueApart", fn := fun _ => fun
  | [d1, d2, d3] => { results := [.lit (.bool false)], args := [d1, d2, d3] }
  | _ => none }
def ValueApartWrongFalsely : Prop := valueApartRow.holds Try.pinned (OpenSpec.ofChange valueApartWrong)

/- THE SECOND FORM. 'bulk': how many values and letters a reading holds, each counted each time it is reached (what is shared counts as often as it is met; a slice's spare places count too). A statement '..UptoSaid' is the law's where the arguments, and the package variables that the reading takes, are together of bulk at most 1048576: NARROWER than '..Said'. Prove '..Said' where nothing that the law and all that it calls make is longer than what came in: it says more and counts as full. Else prove '..UptoSaid'. A law counts once. -/
mutual
def uptoBulk {H : Type} : DataW H → Nat
  | .lit (.string bytes) => bytes.length + 1
  | .lit _ => 1
  | .nil => 1
  | .ptr d => uptoBulk d + 1
  | .slice elems spare => uptoBulkAll elems + uptoBulkAll spare + 1
  | .agg parts => uptoBulkAll parts + 1
  | .iface _ d => uptoBulk d + 1
  | .map entries => uptoBulkEntries entries + 1
  | .held _ => 1
def uptoBulkAll {H : Type} : List (DataW H) → Nat
  | [] => 0
  | d :: r => uptoBulk d + uptoBulkAll r
def uptoBulkEntries {H : Type} : List (Lit × DataW H) → Nat
  | [] => 0
  | x :: r => uptoBulkEntry x + uptoBulkEntries r
def uptoBulkEntry {H : Type} : Lit × DataW H → Nat
  | (.string bytes, d) => bytes.length + uptoBulk d + 1
  | (_, d) => uptoBulk d + 1
 end
def uptoSmall : (H : Type) → List (DataW H) → Bool := fun _ ds => decide (uptoBulkAll ds ≤ 1048576)
def OpenSpec.upto (s : _root_.Go.ChangeSpec) : _root_.Go.OpenSpec := { _root_.Go.OpenSpec.ofChange s with cond := some uptoSmall }

/-- 'legatelaw08.ValueSame', WHERE WHAT IT READS IS OF BULK AT MOST 1048576: true; the input reads as it did. -/
def valueSameUptoRow : OpenClaim := { program := "ytkhnemiflpjbpaa", sum := "5cd4c6c2d1f3b85edc898f84b7334500b97e2a6e35f7257364d3db308d2f21ef", func := "legate/legatelaw08.ValueSame", spec := "valueSame", unfollowed := true, recurses := true, loops := true, apart := false, narrowed := true }
def ValueSameUptoSaid : Prop := valueSameUptoRow.holds Try.pinned (OpenSpec.upto valueSameSpec)

/-- 'legatelaw08.ValueParts', WHERE WHAT IT READS IS OF BULK AT MOST 1048576: true; the input reads as it did. -/
def valuePartsUptoRow : OpenClaim := { program := "ytkhnemiflpjbpaa", sum := "5cd4c6c2d1f3b85edc898f84b7334500b97e2a6e35f7257364d3db308d2f21ef", func := "legate/legatelaw08.ValueParts", spec := "valueParts", unfollowed := true, recurses := true, loops := true, apart := false, narrowed := true }
def ValuePartsUptoSaid : Prop := valuePartsUptoRow.holds Try.pinned (OpenSpec.upto valuePartsSpec)

/-- 'legatelaw08.ValueElse', WHERE WHAT IT READS IS OF BULK AT MOST 1048576: true; the input reads as it did. -/
def valueElseUptoRow : OpenClaim := { program := "ytkhnemiflpjbpaa", sum := "5cd4c6c2d1f3b85edc898f84b7334500b97e2a6e35f7257364d3db308d2f21ef", func := "legate/legatelaw08.ValueElse", spec := "valueElse", unfollowed := true, recurses := true, loops := true, apart := false, narrowed := true }
def ValueElseUptoSaid : Prop := valueElseUptoRow.holds Try.pinned (OpenSpec.upto valueElseSpec)

/-- 'legatelaw08.ValueTells', WHERE WHAT IT READS IS OF BULK AT MOST 1048576: true; the input reads as it did. -/
def valueTellsUptoRow : OpenClaim := { program := "ytkhnemiflpjbpaa", sum := "5cd4c6c2d1f3b85edc898f84b7334500b97e2a6e35f7257364d3db308d2f21ef", func := "legate/legatelaw08.ValueTells", spec := "valueTells", unfollowed := true, recurses := true, loops := true, apart := false, narrowed := true }
def ValueTellsUptoSaid : Prop := valueTellsUptoRow.holds Try.pinned (OpenSpec.upto valueTellsSpec)

/-- 'legatelaw08.ValuePuts', WHERE WHAT IT READS IS OF BULK AT MOST 1048576: true; the input reads as it did. -/
def valuePutsUptoRow : OpenClaim := { program := "ytkhnemiflpjbpaa", sum := "5cd4c6c2d1f3b85edc898f84b7334500b97e2a6e35f7257364d3db308d2f21ef", func := "legate/legatelaw08.ValuePuts", spec := "valuePuts", unfollowed := true, recurses := true, loops := true, apart := false, narrowed := true }
def ValuePutsUptoSaid : Prop := valuePutsUptoRow.holds Try.pinned (OpenSpec.upto valuePutsSpec)

/-- 'legatelaw08.ValueNames', WHERE WHAT IT READS IS OF BULK AT MOST 1048576: true; the input reads as it did. -/
def valueNamesUptoRow : OpenClaim := { program := "ytkhnemiflpjbpaa", sum := "5cd4c6c2d1f3b85edc898f84b7334500b97e2a6e35f7257364d3db308d2f21ef", func := "legate/legatelaw08.ValueNames", spec := "valueNames", unfollowed := true, recurses := true, apart := false, narrowed := true }
def ValueNamesUptoSaid : Prop := valueNamesUptoRow.holds Try.pinned (OpenSpec.upto valueNamesSpec)

/-- 'legatelaw08.ValueWith', WHERE WHAT IT READS IS OF BULK AT MOST 1048576: true; the input reads as it did. -/
def valueWithUptoRow : OpenClaim := { program := "ytkhnemiflpjbpaa", sum := "5cd4c6c2d1f3b85edc898f84b7334500b97e2a6e35f7257364d3db308d2f21ef", func := "legate/legatelaw08.ValueWith", spec := "valueWith", unfollowed := true, recurses := true, loops := true, apart := false, narrowed := true }
def ValueWithUptoSaid : Prop := valueWithUptoRow.holds Try.pinned (OpenSpec.upto valueWithSpec)

/-- 'legatelaw08.ValueApart', WHERE WHAT IT READS IS OF BULK AT MOST 1048576: true; the input reads as it did. -/
def valueApartUptoRow : OpenClaim := { program := "ytkhnemiflpjbpaa", sum := "5cd4c6c2d1f3b85edc898f84b7334500b97e2a6e35f7257364d3db308d2f21ef", func := "legate/legatelaw08.ValueApart", spec := "valueApart", unfollowed := true, recurses := true, loops := true, apart := false, narrowed := true }
def ValueApartUptoSaid : Prop := valueApartUptoRow.holds Try.pinned (OpenSpec.upto valueApartSpec)

end Rows
end Go.Proofs.Ytkhnemiflpjbpaa
