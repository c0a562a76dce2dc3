/-
  NARROWER THAN 'FOR EVERY INPUT', by the rows' own cells (each row's printed sentence says how): AuthBack: loops.
  DERIVED. THE GIVEN ROWS OF THIS SEAT. 6 by the template 'for every input the law returns true; each argument reads behind the call as it read before'; 0 by the template 'total and deterministic' (their statements: YtipdogbeoflkoaaTotals.lean).
  GIVEN WITH THE SEED: the statements are not yours to turn. If you find one false, say at which input.
  Laid BY PROGRAM, IN A SANDBOX (cutbox-rows.mjs): the forced cells as the released guide's own fill.sh prints them over the translation bba24d0b721e570a… (all of the seat's roots in one cut). By AI agents, Wed Nov 11 2026. No macro, syntax, notation, axiom, sorry.
-/
import Derived.Test.YtipdogbeoflkoaaChecked
import GoSem.Claim
import GoSem.ClaimJoined
import GoSem.ClaimMapViews
import Derived.JoinedTies
import Derived.KernelRfl
namespace Go.Proofs.Ytipdogbeoflkoaa
/- THE CELL 'sum', in the pinned program and in every row, IS THE sha256 OF THE DUMP (.gsa) THAT YtipdogbeoflkoaaProg.lean LOADS. Nothing in Lean hashes anything: it is a label: what it is worth is what the hold of that sum in a sandbox is worth. -/
noncomputable def Try.pinned : Pinned := { name := "ytipdogbeoflkoaa", sum := "bba24d0b721e570ac7a75d6f6b2be45d70d2323006613291d8a1aac5dfca77b0", checked := Try.checked }
namespace Rows
def none {H : Type} : Left H := { results := [], args := [] }

/-- 'legatelaw15.AuthNames': WHATEVER THE INPUT: true; the input reads as it did. -/
def authNamesSpec : ChangeSpec := { name := "authNames", fn := fun _ => fun
  | [] => { results := [.lit (.bool true)], args := [] }
  | _ => none }
def authNamesRow : OpenClaim := { program := "ytipdogbeoflkoaa", sum := "bba24d0b721e570ac7a75d6f6b2be45d70d2323006613291d8a1aac5dfca77b0", func := "legate/legatelaw15.AuthNames", spec := "authNames", unfollowed := true, recurses := true, apart := false }
def AuthNamesSaid : Prop := authNamesRow.holds Try.pinned (OpenSpec.ofChange authNamesSpec)

/-- ITS FALSE NEIGHBOUR: 'it returns false'. Refute it at one input. -/
def authNamesWrong : ChangeSpec := { name := "authNames", fn := fun _ => fun
  | [] => { results := [.lit (.bool false)], args := [] }
  | _ => none }
def AuthNamesWrongFalsely : Prop := authNamesRow.holds Try.pinned (OpenSpec.ofChange authNamesWrong)

/-- 'legatelaw15.AuthRows': WHATEVER THE INPUT: true; the input reads as it did. -/
def authRowsSpec : ChangeSpec := { name := "authRows", fn := fun _ => fun
  | [d1, d2, d3] => { results := [.lit (.bool true)], args := [d1, d2, d3] }
  | _ => none }
def authRowsRow : OpenClaim := { program := "ytipdogbeoflkoaa", sum := "bba24d0b721e570ac7a75d6f6b2be45d70d2323006613291d8a1aac5dfca77b0", func := "legate/legatelaw15.AuthRows", spec := "authRows", unfollowed := true, recurses := true, apart := false }
def AuthRowsSaid : Prop := authRowsRow.holds Try.pinned (OpenSpec.ofChange authRowsSpec)

/-- ITS FALSE NEIGHBOUR: 'it returns false'. Refute it at one input. -/
def authRowsWrong : ChangeSpec := { name := "authRows", fn := fun _ => fun
  | [d1, d2, d3] => { results := [.lit (.bool false)], args := [d1, d2, d3] }
  | _ => none }
def AuthRowsWrongFalsely : Prop := authRowsRow.holds Try.pinned (OpenSpec.ofChange authRowsWrong)

/-- 'legatelaw15.AuthLess': WHATEVER THE INPUT: true; the input reads as it did. -/
def authLessSpec : ChangeSpec := { name := "authLess", fn := fun _ => fun
  | [d1, d2] => { results := [.lit (.bool true)], args := [d1, d2] }
  | _ => none }
def authLessRow : OpenClaim := { program := "ytipdogbeoflkoaa", sum := "bba24d0b721e570ac7a75d6f6b2be45d70d2323006613291d8a1aac5dfca77b0", func := "legate/legatelaw15.AuthLess", spec := "authLess", unfollowed := true, recurses := true, apart := false }
def AuthLessSaid : Prop := authLessRow.holds Try.pinned (OpenSpec.ofChange authLessSpec)

/-- ITS FALSE NEIGHBOUR: 'it returns false'. Refute it at one input. -/
def authLessWrong : ChangeSpec := { name := "authLess", fn := fun _ => fun
  | [d1, d2] => { results := [.lit (.bool false)], args := [d1, d2] }
  | _ => none }
def AuthLessWrongFalsely : Prop := authLessRow.holds Try.pinned (OpenSpec.ofChange authLessWrong)

/-- 'legatelaw15.AuthApart': WHATEVER THE INPUT: true; the input reads as it did. -/
def authApartSpec : ChangeSpec := { name := "authApart", fn := fun _ => fun
  | [d] => { results := [.lit (.bool true)], args := [d] }
  | _ => none }
def authApartRow : OpenClaim := { program := "ytipdogbeoflkoaa", sum := "bba24d0b721e570ac7a75d6f6b2be45d70d2323006613291d8a1aac5dfca77b0", func := "legate/legatelaw15.AuthApart", spec := "authApart", inPlace := ["internal/bytealg.abigen_runtime_cmpstring"], unfollowed := true, recurses := true, apart := false }
def AuthApartSaid : Prop := authApartRow.holds Try.pinned (OpenSpec.ofChange authApartSpec)

/-- ITS FALSE NEIGHBOUR: 'it returns false'. Refute it at one input. -/
def authApartWrong : ChangeSpec := { name := "authApart", fn := fun _ => fun
  | [d] => { results := [.lit (.bool false)], args := [d] }
  | _ => none }
def AuthApartWrongFalsely : Prop := authApartRow.holds Try.pinned (OpenSpec.ofChange authApartWrong)

/-- 'legatelaw15.AuthTells': WHATEVER THE INPUT: true; the input reads as it did. -/
def authTellsSpec : ChangeSpec := { name := "authTells", fn := fun _ => fun
  | [d1, d2, d3] => { results := [.lit (.bool true)], args := [d1, d2, d3] }
  | _ => none }
def authTellsRow : OpenClaim := { program := "ytipdogbeoflkoaa", sum := "bba24d0b721e570ac7a75d6f6b2be45d70d2323006613291d8a1aac5dfca77b0", func := "legate/legatelaw15.AuthTells", spec := "authTells", inPlace := ["internal/bytealg.abigen_runtime_cmpstring"], unfollowed := true, recurses := true, apart := false }
def AuthTellsSaid : Prop := authTellsRow.holds Try.pinned (OpenSpec.ofChange authTellsSpec)

/-- ITS FALSE NEIGHBOUR: 'it returns false'. Refute it at one input. -/
def authTellsWrong : ChangeSpec := { name := "authTells", fn := fun _ => fun
  | [d1, d2, d3] => { results := [.lit (.bool false)], args := [d1, d2, d3] }
  | _ => none }
def AuthTellsWrongFalsely : Prop := authTellsRow.holds Try.pinned (OpenSpec.ofChange authTellsWrong)

/-- 'legatelaw15.AuthBack': WHATEVER THE INPUT: true; the input reads as it did. -/
def authBackSpec : ChangeSpec := { name := "authBack", fn := fun _ => fun
  | [d1, d2] => { results := [.lit (.bool true)], args := [d1, d2] }
  | _ => none }
def authBackRow : OpenClaim := { program := "ytipdogbeoflkoaa", sum := "bba24d0b721e570ac7a75d6f6b2be45d70d2323006613291d8a1aac5dfca77b0", func := "legate/legatelaw15.AuthBack", spec := "authBack", inPlace := ["internal/bytealg.abigen_runtime_cmpstring"], unfollowed := true, recurses := true, loops := true, apart := false }
def AuthBackSaid : Prop := authBackRow.holds Try.pinned (OpenSpec.ofChange authBackSpec)

/-- ITS FALSE NEIGHBOUR: 'it returns false'. Refute it at one input. -/
def authBackWrong : ChangeSpec := { name := "authBack", fn := fun _ => fun
  | [d1, d2] => { results := [.lit (.bool false)], args := [d1, d2] }
  | _ => none }
def AuthBackWrongFalsely : Prop := authBackRow.holds Try.pinned (OpenSpec.ofChange authBackWrong)

/- THE SECOND FORM. 'bulk': how many values and letters a reading holds, each counted each time it is reached (what is shared counts as often as it is met; a slice's spare places count too). A statement '..UptoSaid' is the law's where the arguments, and the package variables that the reading takes, are together of bulk at most 1048576: NARROWER than '..Said'. Prove '..Said' where nothing that the law and all that it calls make is longer than what came in: it says more and counts as full. Else prove '..UptoSaid'. A law counts once. -/
mutual
def uptoBulk {H : Type} : DataW H → Nat
  | .lit (.string bytes) => bytes.length + 1
  | .lit _ => 1
  | .nil => 1
  | .ptr d => uptoBulk d + 1
  | .slice elems spare => uptoBulkAll elems + uptoBulkAll spare + 1
  | .agg parts => uptoBulkAll parts + 1
  | .iface _ d => uptoBulk d + 1
  | .map entries => uptoBulkEntries entries + 1
  | .held _ => 1
def uptoBulkAll {H : Type} : List (DataW H) → Nat
  | [] => 0
  | d :: r => uptoBulk d + uptoBulkAll r
def uptoBulkEntries {H : Type} : List (Lit × DataW H) → Nat
  | [] => 0
  | x :: r => uptoBulkEntry x + uptoBulkEntries r
def uptoBulkEntry {H : Type} : Lit × DataW H → Nat
  | (.string bytes, d) => bytes.length + uptoBulk d + 1
  | (_, d) => uptoBulk d + 1
 end
def uptoSmall : (H : Type) → List (DataW H) → Bool := fun _ ds => decide (uptoBulkAll ds ≤ 1048576)
def OpenSpec.upto (s : _root_.Go.ChangeSpec) : _root_.Go.OpenSpec := { _root_.Go.OpenSpec.ofChange s with cond := some uptoSmall }

/-- 'legatelaw15.AuthNames', WHERE WHAT IT READS IS OF BULK AT MOST 1048576: true; the input reads as it did. -/
def authNamesUptoRow : OpenClaim := { program := "ytipdogbeoflkoaa", sum := "bba24d0b721e570ac7a75d6f6b2be45d70d2323006613291d8a1aac5dfca77b0", func := "legate/legatelaw15.AuthNames", spec := "authNames", unfollowed := true, recurses := true, apart := false, narrowed := true }
def AuthNamesUptoSaid : Prop := authNamesUptoRow.holds Try.pinned (OpenSpec.upto authNamesSpec)

/-- 'legatelaw15.AuthRows', WHERE WHAT IT READS IS OF BULK AT MOST 1048576: true; the input reads as it did. -/
def authRowsUptoRow : OpenClaim := { program := "ytipdogbeoflkoaa", sum := "bba24d0b721e570ac7a75d6f6b2be45d70d2323006613291d8a1aac5dfca77b0", func := "legate/legatelaw15.AuthRows", spec := "authRows", unfollowed := true, recurses := true, apart := false, narrowed := true }
def AuthRowsUptoSaid : Prop := authRowsUptoRow.holds Try.pinned (OpenSpec.upto authRowsSpec)

/-- 'legatelaw15.AuthLess', WHERE WHAT IT READS IS OF BULK AT MOST 1048576: true; the input reads as it did. -/
def authLessUptoRow : OpenClaim := { program := "ytipdogbeoflkoaa", sum := "bba24d0b721e570ac7a75d6f6b2be45d70d2323006613291d8a1aac5dfca77b0", func := "legate/legatelaw15.AuthLess", spec := "authLess", unfollowed := true, recurses := true, apart := false, narrowed := true }
def AuthLessUptoSaid : Prop := authLessUptoRow.holds Try.pinned (OpenSpec.upto authLessSpec)

/-- 'legatelaw15.AuthApart', WHERE WHAT IT READS IS OF BULK AT MOST 1048576: true; the input reads as it did. -/
def authApartUptoRow : OpenClaim := { program := "ytipdogbeoflkoaa", sum := "bba24d0b721e570ac7a75d6f6b2be45d70d2323006613291d8a1aac5dfca77b0", func := "legate/legatelaw15.AuthApart", spec := "authApart", inPlace := ["internal/bytealg.abigen_runtime_cmpstring"], unfollowed := true, recurses := true, apart := false, narrowed := true }
def AuthApartUptoSaid : Prop := authApartUptoRow.holds Try.pinned (OpenSpec.upto authApartSpec)

/-- 'legatelaw15.AuthTells', WHERE WHAT IT READS IS OF BULK AT MOST 1048576: true; the input reads as it did. -/
def authTellsUptoRow : OpenClaim := { program := "ytipdogbeoflkoaa", sum := "bba24d0b721e570ac7a75d6f6b2be45d70d2323006613291d8a1aac5dfca77b0", func := "legate/legatelaw15.AuthTells", spec := "authTells", inPlace := ["internal/bytealg.abigen_runtime_cmpstring"], unfollowed := true, recurses := true, apart := false, narrowed := true }
def AuthTellsUptoSaid : Prop := authTellsUptoRow.holds Try.pinned (OpenSpec.upto authTellsSpec)

/-- 'legatelaw15.AuthBack', WHERE WHAT IT READS IS OF BULK AT MOST 1048576: true; the input reads as it did. -/
def authBackUptoRow : OpenClaim := { program := "ytipdogbeoflkoaa", sum := "bba24d0b721e570ac7a75d6f6b2be45d70d2323006613291d8a1aac5dfca77b0", func := "legate/legatelaw15.AuthBack", spec := "authBack", inPlace := ["internal/bytealg.abigen_runtime_cmpstring"], unfollowed := true, recurses := true, loops := true, apart := false, narrowed := true }
def AuthBackUptoSaid : Prop := authBackUptoRow.holds Try.pinned (OpenSpec.upto authBackSpec)

end Rows
end Go.Proofs.Ytipdogbeoflkoaa
