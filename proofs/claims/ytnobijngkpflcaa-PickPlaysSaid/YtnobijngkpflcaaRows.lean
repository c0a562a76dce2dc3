/-
  NARROWER THAN 'FOR EVERY INPUT', by the rows' own cells (each row's printed sentence says how): PickPlays: loops · PickFirst: loops · VoteOnce: loops · AuthBack: loops.
  DERIVED. THE GIVEN ROWS OF THIS SEAT. 11 by the template 'for every input the law returns true; each argument reads behind the call as it read before'; 0 by the template 'total and deterministic' (their statements: YtnobijngkpflcaaTotals.lean).
  GIVEN WITH THE SEED: the statements are not yours to turn. If you find one false, say at which input.
  Laid BY PROGRAM, IN A SANDBOX (cutbox-rows.mjs): the forced cells as the released guide's own fill.sh prints them over the translation 5b159bc054b78867… (all of the seat's roots in one cut). By AI agents, Wed Nov 11 2026. No macro, syntax, notation, axiom, sorry.
-/
import Derived.Test.YtnobijngkpflcaaChecked
import GoSem.Claim
import GoSem.ClaimJoined
import GoSem.ClaimMapViews
import Derived.JoinedTies
import Derived.KernelRfl
namespace Go.Proofs.Ytnobijngkpflcaa
/- THE CELL 'sum', in the pinned program and in every row, IS THE sha256 OF THE DUMP (.gsa) THAT YtnobijngkpflcaaProg.lean LOADS. Nothing in Lean hashes anything: it is a label: what it is worth is what the hold of that sum in a sandbox is worth. -/
noncomputable def Try.pinned : Pinned := { name := "ytnobijngkpflcaa", sum := "5b159bc054b7886779cc38fba71d66aa87930685314e22e757997c8bdf8f1f2c", checked := Try.checked }
namespace Rows
def none {H : Type} : Left H := { results := [], args := [] }

/-- 'legatelaw15.AuthNames': WHATEVER THE INPUT: true; the input reads as it did. -/
def authNamesSpec : ChangeSpec := { name := "authNames", fn := fun _ => fun
  | [] => { results := [.lit (.bool true)], args := [] }
  | _ => none }
def authNamesRow : OpenClaim := { program := "ytnobijngkpflcaa", sum := "5b159bc054b7886779cc38fba71d66aa87930685314e22e757997c8bdf8f1f2c", func := "legate/legatelaw15.AuthNames", spec := "authNames", unfollowed := true, recurses := true, apart := false }
def AuthNamesSaid : Prop := authNamesRow.holds Try.pinned (OpenSpec.ofChange authNamesSpec)

/-- ITS FALSE NEIGHBOUR: 'it returns false'. Refute it at one input. -/
def authNamesWrong : ChangeSpec := { name := "authNames", fn := fun _ => fun
  | [] => { results := [.lit (.bool false)], args := [] }
  | _ => none }
def AuthNamesWrongFalsely : Prop := authNamesRow.holds Try.pinned (OpenSpec.ofChange authNamesWrong)

/-- 'legatelaw11.PickPlays': WHATEVER THE INPUT: true; the input reads as it did. -/
def pickPlaysSpec : ChangeSpec := { name := "pickPlays", fn := fun _ => fun
  | [d1, d2] => { results := [.lit (.bool true)], args := [d1, d2] }
  | _ => none }
def pickPlaysRow : OpenClaim := { program := "ytnobijngkpflcaa", sum := "5b159bc054b7886779cc38fba71d66aa87930685314e22e757997c8bdf8f1f2c", func := "legate/legatelaw11.PickPlays", spec := "pickPlays", inPlace := ["internal/bytealg.abigen_runtime_cmpstring"], unfollowed := true, recurses := true, loops := true, apart := false }
def PickPlaysSaid : Prop := pickPlaysRow.holds Try.pinned (OpenSpec.ofChange pickPlaysSpec)

/-- ITS FALSE NEIGHBOUR: 'it returns false'. Refute it at one input. -/
def pickPlaysWrong : ChangeSpec := { name := "pickPlays", fn := fun _ => fun
  | [d1, d2] => { results := [.lit (.bool false)], args := [d1, d2] }
  | _ => none }
def PickPlaysWrongFalsely : Prop := pickPlaysRow.holds Try.pinned (OpenSpec.ofChange pickPlaysWrong)

/-- 'legatelaw11.PickFirst': WHATEVER THE INPUT: true; the input reads as it did. -/
def pickFirstSpec : ChangeSpec := { name := "pickFirst", fn := fun _ => fun
  | [d1, d2, d3] => { results := [.lit (.bool true)], args := [d1, d2, d3] }
  | _ => none }
def pickFirstRow : OpenClaim := { program := "ytnobijngkpflcaa", sum := "5b159bc054b7886779cc38fba71d66aa87930685314e22e757997c8bdf8f1f2c", func := "legate/legatelaw11.PickFirst", spec := "pickFirst", inPlace := ["internal/bytealg.abigen_runtime_cmpstring"], unfollowed := true, recurses := true, loops := true, apart := false }
def PickFirstSaid : Prop := pickFirstRow.holds Try.pinned (OpenSpec.ofChange pickFirstSpec)

/-- ITS FALSE NEIGHBOUR: 'it returns false'. Refute it at one input. -/
def pickFirstWrong : ChangeSpec := { name := "pickFirst", fn := fun _ => fun
  | [d1, d2, d3] => { results := [.lit (.bool false)], args := [d1, d2, d3] }
  | _ => none }
def PickFirstWrongFalsely : Prop := pickFirstRow.holds Try.pinned (OpenSpec.ofChange pickFirstWrong)

/-- 'legatelaw11.PickNames': WHATEVER THE INPUT: true; the input reads as it did. -/
def pickNamesSpec : ChangeSpec := { name := "pickNames", fn := fun _ => fun
  | [] => { results := [.lit (.bool true)], args := [] }
  | _ => none }
def pickNamesRow : OpenClaim := { program := "ytnobijngkpflcaa", sum := "5b159bc054b7886779cc38fba71d66aa87930685314e22e757997c8bdf8f1f2c", func := "legate/legatelaw11.PickNames", spec := "pickNames", inPlace := ["internal/bytealg.abigen_runtime_cmpstring"], unfollowed := true, recurses := true, apart := false }
def PickNamesSaid : Prop := pickNamesRow.holds Try.pinned (OpenSpec.ofChange pickNamesSpec)

/-- ITS FALSE NEIGHBOUR: 'it returns false'. Refute it at one input. -/
def pickNamesWrong : ChangeSpec := { name := "pickNames", fn := fun _ => fun
  | [] => { results := [.lit (.bool false)], args := [] }
  | _ => none }
def PickNamesWrongFalsely : Prop := pickNamesRow.holds Try.pinned (OpenSpec.ofChange pickNamesWrong)

/-- 'legatelaw15.AuthApart': WHATEVER THE INPUT: true; the input reads as it did. -/
def authApartSpec : ChangeSpec := { name := "authApart", fn := fun _ => fun
  | [d] => { results := [.lit (.bool true)], args := [d] }
  | _ => none }
def authApartRow : OpenClaim := { program := "ytnobijngkpflcaa", sum := "5b159bc054b7886779cc38fba71d66aa87930685314e22e757997c8bdf8f1f2c", func := "legate/legatelaw15.AuthApart", spec := "authApart", inPlace := ["internal/bytealg.abigen_runtime_cmpstring"], unfollowed := true, recurses := true, apart := false }
def AuthApartSaid : Prop := authApartRow.holds Try.pinned (OpenSpec.ofChange authApartSpec)

/-- ITS FALSE NEIGHBOUR: 'it returns false'. Refute it at one input. -/
def authApartWrong : ChangeSpec := { name := "authApart", fn := fun _ => fun
  | [d] => { results := [.lit (.bool false)], args := [d] }
  | _ => none }
def AuthApartWrongFalsely : Prop := authApartRow.holds Try.pinned (OpenSpec.ofChange authApartWrong)

/-- 'legatelaw30.VoteOnce': WHATEVER THE INPUT: true; the input reads as it did. -/
def voteOnceSpec : ChangeSpec := { name := "voteOnce", fn := fun _ => fun
  | [d1, d2, d3] => { results := [.lit (.bool true)], args := [d1, d2, d3] }
  | _ => none }
def voteOnceRow : OpenClaim := { program := "ytnobijngkpflcaa", sum := "5b159bc054b7886779cc38fba71d66aa87930685314e22e757997c8bdf8f1f2c", func := "legate/legatelaw30.VoteOnce", spec := "voteOnce", inPlace := ["internal/bytealg.abigen_runtime_cmpstring"], unfollowed := true, recurses := true, loops := true, apart := false }
def VoteOnceSaid : Prop := voteOnceRow.holds Try.pinned (OpenSpec.ofChange voteOnceSpec)

/-- ITS FALSE NEIGHBOUR: 'it returns false'. Refute it at one input. -/
def voteOnceWrong : ChangeSpec := { name := "voteOnce", fn := fun _ => fun
  | [d1, d2, d3] => { results := [.lit (.bool false)], args := [d1, d2, d3] }
  | _ => none }
def VoteOnceWrongFalsely : Prop := voteOnceRow.holds Try.pinned (OpenSpec.ofChange voteOnceWrong)

/-- 'legatelaw30.VoteNames': WHATEVER THE INPUT: true; the input reads as it did. -/
def voteNamesSpec : ChangeSpec := { name := "voteNames", fn := fun _ => fun
  | [] => { results := [.lit (.bool true)], args := [] }
  | _ => none }
def voteNamesRow : OpenClaim := { program := "ytnobijngkpflcaa", sum := "5b159bc054b7886779cc38fba71d66aa87930685314e22e757997c8bdf8f1f2c", func := "legate/legatelaw30.VoteNames", spec := "voteNames", inPlace := ["internal/bytealg.abigen_runtime_cmpstring"], unfollowed := true, recurses := true, apart := false }
def VoteNamesSaid : Prop := voteNamesRow.holds Try.pinned (OpenSpec.ofChange voteNamesSpec)

/-- ITS FALSE NEIGHBOUR: 'it returns false'. Refute it at one input. -/
def voteNamesWrong : ChangeSpec := { name := "voteNames", fn := fun _ => fun
  | [] => { results := [.lit (.bool false)], args := [] }
  | _ => none }
def VoteNamesWrongFalsely : Prop := voteNamesRow.holds Try.pinned (OpenSpec.ofChange voteNamesWrong)

/-- 'legatelaw15.AuthTells': WHATEVER THE INPUT: true; the input reads as it did. -/
def authTellsSpec : ChangeSpec := { name := "authTells", fn := fun _ => fun
  | [d1, d2, d3] => { results := [.lit (.bool true)], args := [d1, d2, d3] }
  | _ => none }
def authTellsRow : OpenClaim := { program := "ytnobijngkpflcaa", sum := "5b159bc054b7886779cc38fba71d66aa87930685314e22e757997c8bdf8f1f2c", func := "legate/legatelaw15.AuthTells", spec := "authTells", inPlace := ["internal/bytealg.abigen_runtime_cmpstring"], unfollowed := true, recurses := true, apart := false }
def AuthTellsSaid : Prop := authTellsRow.holds Try.pinned (OpenSpec.ofChange authTellsSpec)

/-- ITS FALSE NEIGHBOUR: 'it returns false'. Refute it at one input. -/
def authTellsWrong : ChangeSpec := { name := "authTells", fn := fun _ => fun
  | [d1, d2, d3] => { results := [.lit (.bool false)], args := [d1, d2, d3] }
  | _ => none }
def AuthTellsWrongFalsely : Prop := authTellsRow.holds Try.pinned (OpenSpec.ofChange authTellsWrong)

/-- 'legatelaw15.AuthBack': WHATEVER THE INPUT: true; the input reads as it did. -/
def authBackSpec : ChangeSpec := { name := "authBack", fn := fun _ => fun
  | [d1, d2] => { results := [.lit (.bool true)], args := [d1, d2] }
  | _ => none }
def authBackRow : OpenClaim := { program := "ytnobijngkpflcaa", sum := "5b159bc054b7886779cc38fba71d66aa87930685314e22e757997c8bdf8f1f2c", func := "legate/legatelaw15.AuthBack", spec := "authBack", inPlace := ["internal/bytealg.abigen_runtime_cmpstring"], unfollowed := true, recurses := true, loops := true, apart := false }
def AuthBackSaid : Prop := authBackRow.holds Try.pinned (OpenSpec.ofChange authBackSpec)

/-- ITS FALSE NEIGHBOUR: 'it returns false'. Refute it at one input. -/
def authBackWrong : ChangeSpec := { name := "authBack", fn := fun _ => fun
  | [d1, d2] => { results := [.lit (.bool false)], args := [d1, d2] }
  | _ => none }
def AuthBackWrongFalsely : Prop := authBackRow.holds Try.pinned (OpenSpec.ofChange authBackWrong)

/-- 'legatelaw21.RecordNames': WHATEVER THE INPUT: true; the input reads as it did. -/
def recordNamesSpec : ChangeSpec := { name := "recordNames", fn := fun _ => fun
  | [] => { results := [.lit (.bool true)], args := [] }
  | _ => none }
def recordNamesRow : OpenClaim := { program := "ytnobijngkpflcaa", sum := "5b159bc054b7886779cc38fba71d66aa87930685314e22e757997c8bdf8f1f2c", func := "legate/legatelaw21.RecordNames", spec := "recordNames", inPlace := ["internal/bytealg.abigen_runtime_cmpstring"], unfollowed := true, recurses := true, apart := false }
def RecordNamesSaid : Prop := recordNamesRow.holds Try.pinned (OpenSpec.ofChange recordNamesSpec)

/-- ITS FALSE NEIGHBOUR: 'it returns false'. Refute it at one input. -/
def recordNamesWrong : ChangeSpec := { name := "recordNames", fn := fun _ => fun
  | [] => { results := [.lit (.bool false)], args := [] }
  | _ => none }
def RecordNamesWrongFalsely : Prop := recordNamesRow.holds Try.pinned (OpenSpec.ofChange recordNamesWrong)

/-- 'legatelaw21.RecordHash': WHATEVER THE INPUT: true; the input reads as it did. -/
def recordHashSpec : ChangeSpec := { name := "recordHash", fn := fun _ => fun
  | [d1, d2] => { results := [.lit (.bool true)], args := [d1, d2] }
  | _ => none }
def recordHashRow : OpenClaim := { program := "ytnobijngkpflcaa", sum := "5b159bc054b7886779cc38fba71d66aa87930685314e22e757997c8bdf8f1f2c", func := "legate/legatelaw21.RecordHash", spec := "recordHash", inPlace := ["internal/bytealg.abigen_runtime_cmpstring"], unfollowed := true, recurses := true, apart := false }
def RecordHashSaid : Prop := recordHashRow.holds Try.pinned (OpenSpec.ofChange recordHashSpec)

/-- ITS FALSE NEIGHBOUR: 'it returns false'. Refute it at one input. -/
def recordHashWrong : ChangeSpec := { name := "recordHash", fn := fun _ => fun
  | [d1, d2] => { results := [.lit (.bool false)], args := [d1, d2] }
  | _ => none }
def RecordHashWrongFalsely : Prop := recordHashRow.holds Try.pinned (OpenSpec.ofChange recordHashWrong)

/- THE SECOND FORM. 'bulk': how many values and letters a reading holds, each counted each time it is reached (what is shared counts as often as it is met; a slice's spare places count too). A statement '..UptoSaid' is the law's where the arguments, and the package variables that the reading takes, are together of bulk at most 1048576: NARROWER than '..Said'. Prove '..Said' where nothing that the law and all that it calls make is longer than what came in: it says more and counts as full. Else prove '..UptoSaid'. A law counts once. -/
mutual
def uptoBulk {H : Type} : DataW H → Nat
  | .lit (.string bytes) => bytes.length + 1
  | .lit _ => 1
  | .nil => 1
  | .ptr d => uptoBulk d + 1
  | .slice elems spare => uptoBulkAll elems + uptoBulkAll spare + 1
  | .agg parts => uptoBulkAll parts + 1
  | .iface _ d => uptoBulk d + 1
  | .map entries => uptoBulkEntries entries + 1
  | .held _ => 1
def uptoBulkAll {H : Type} : List (DataW H) → Nat
  | [] => 0
  | d :: r => uptoBulk d + uptoBulkAll r
def uptoBulkEntries {H : Type} : List (Lit × DataW H) → Nat
  | [] => 0
  | x :: r => uptoBulkEntry x + uptoBulkEntries r
def uptoBulkEntry {H : Type} : Lit × DataW H → Nat
  | (.string bytes, d) => bytes.length + uptoBulk d + 1
  | (_, d) => uptoBulk d + 1
 end
def uptoSmall : (H : Type) → List (DataW H) → Bool := fun _ ds => decide (uptoBulkAll ds ≤ 1048576)
def OpenSpec.upto (s : _root_.Go.ChangeSpec) : _root_.Go.OpenSpec := { _root_.Go.OpenSpec.ofChange s with cond := some uptoSmall }

/-- 'legatelaw15.AuthNames', WHERE WHAT IT READS IS OF BULK AT MOST 1048576: true; the input reads as it did. -/
def authNamesUptoRow : OpenClaim := { program := "ytnobijngkpflcaa", sum := "5b159bc054b7886779cc38fba71d66aa87930685314e22e757997c8bdf8f1f2c", func := "legate/legatelaw15.AuthNames", spec := "authNames", unfollowed := true, recurses := true, apart := false, narrowed := true }
def AuthNamesUptoSaid : Prop := authNamesUptoRow.holds Try.pinned (OpenSpec.upto authNamesSpec)

/-- 'legatelaw11.PickPlays', WHERE WHAT IT READS IS OF BULK AT MOST 1048576: true; the input reads as it did. -/
def pickPlaysUptoRow : OpenClaim := { program := "ytnobijngkpflcaa", sum := "5b159bc054b7886779cc38fba71d66aa87930685314e22e757997c8bdf8f1f2c", func := "legate/legatelaw11.PickPlays", spec := "pickPlays", inPlace := ["internal/bytealg.abigen_runtime_cmpstring"], unfollowed := true, recurses := true, loops := true, apart := false, narrowed := true }
def PickPlaysUptoSaid : Prop := pickPlaysUptoRow.holds Try.pinned (OpenSpec.upto pickPlaysSpec)

/-- 'legatelaw11.PickFirst', WHERE WHAT IT READS IS OF BULK AT MOST 1048576: true; the input reads as it did. -/
def pickFirstUptoRow : OpenClaim := { program := "ytnobijngkpflcaa", sum := "5b159bc054b7886779cc38fba71d66aa87930685314e22e757997c8bdf8f1f2c", func := "legate/legatelaw11.PickFirst", spec := "pickFirst", inPlace := ["internal/bytealg.abigen_runtime_cmpstring"], unfollowed := true, recurses := true, loops := true, apart := false, narrowed := true }
def PickFirstUptoSaid : Prop := pickFirstUptoRow.holds Try.pinned (OpenSpec.upto pickFirstSpec)

/-- 'legatelaw11.PickNames', WHERE WHAT IT READS IS OF BULK AT MOST 1048576: true; the input reads as it did. -/
def pickNamesUptoRow : OpenClaim := { program := "ytnobijngkpflcaa", sum := "5b159bc054b7886779cc38fba71d66aa87930685314e22e757997c8bdf8f1f2c", func := "legate/legatelaw11.PickNames", spec := "pickNames", inPlace := ["internal/bytealg.abigen_runtime_cmpstring"], unfollowed := true, recurses := true, apart := false, narrowed := true }
def PickNamesUptoSaid : Prop := pickNamesUptoRow.holds Try.pinned (OpenSpec.upto pickNamesSpec)

/-- 'legatelaw15.AuthApart', WHERE WHAT IT READS IS OF BULK AT MOST 1048576: true; the input reads as it did. -/
def authApartUptoRow : OpenClaim := { program := "ytnobijngkpflcaa", sum := "5b159bc054b7886779cc38fba71d66aa87930685314e22e757997c8bdf8f1f2c", func := "legate/legatelaw15.AuthApart", spec := "authApart", inPlace := ["internal/bytealg.abigen_runtime_cmpstring"], unfollowed := true, recurses := true, apart := false, narrowed := true }
def AuthApartUptoSaid : Prop := authApartUptoRow.holds Try.pinned (OpenSpec.upto authApartSpec)

/-- 'legatelaw30.VoteOnce', WHERE WHAT IT READS IS OF BULK AT MOST 1048576: true; the input reads as it did. -/
def voteOnceUptoRow : OpenClaim := { program := "ytnobijngkpflcaa", sum := "5b159bc054b7886779cc38fba71d66aa87930685314e22e757997c8bdf8f1f2c", func := "legate/legatelaw30.VoteOnce", spec := "voteOnce", inPlace := ["internal/bytealg.abigen_runtime_cmpstring"], unfollowed := true, recurses := true, loops := true, apart := false, narrowed := true }
def VoteOnceUptoSaid : Prop := voteOnceUptoRow.holds Try.pinned (OpenSpec.upto voteOnceSpec)

/-- 'legatelaw30.VoteNames', WHERE WHAT IT READS IS OF BULK AT MOST 1048576: true; the input reads as it did. -/
def voteNamesUptoRow : OpenClaim := { program := "ytnobijngkpflcaa", sum := "5b159bc054b7886779cc38fba71d66aa87930685314e22e757997c8bdf8f1f2c", func := "legate/legatelaw30.VoteNames", spec := "voteNames", inPlace := ["internal/bytealg.abigen_runtime_cmpstring"], unfollowed := true, recurses := true, apart := false, narrowed := true }
def VoteNamesUptoSaid : Prop := voteNamesUptoRow.holds Try.pinned (OpenSpec.upto voteNamesSpec)

/-- 'legatelaw15.AuthTells', WHERE WHAT IT READS IS OF BULK AT MOST 1048576: true; the input reads as it did. -/
def authTellsUptoRow : OpenClaim := { program := "ytnobijngkpflcaa", sum := "5b159bc054b7886779cc38fba71d66aa87930685314e22e757997c8bdf8f1f2c", func := "legate/legatelaw15.AuthTells", spec := "authTells", inPlace := ["internal/bytealg.abigen_runtime_cmpstring"], unfollowed := true, recurses := true, apart := false, narrowed := true }
def AuthTellsUptoSaid : Prop := authTellsUptoRow.holds Try.pinned (OpenSpec.upto authTellsSpec)

/-- 'legatelaw15.AuthBack', WHERE WHAT IT READS IS OF BULK AT MOST 1048576: true; the input reads as it did. -/
def authBackUptoRow : OpenClaim := { program := "ytnobijngkpflcaa", sum := "5b159bc054b7886779cc38fba71d66aa87930685314e22e757997c8bdf8f1f2c", func := "legate/legatelaw15.AuthBack", spec := "authBack", inPlace := ["internal/bytealg.abigen_runtime_cmpstring"], unfollowed := true, recurses := true, loops := true, apart := false, narrowed := true }
def AuthBackUptoSaid : Prop := authBackUptoRow.holds Try.pinned (OpenSpec.upto authBackSpec)

/-- 'legatelaw21.RecordNames', WHERE WHAT IT READS IS OF BULK AT MOST 1048576: true; the input reads as it did. -/
def recordNamesUptoRow : OpenClaim := { program := "ytnobijngkpflcaa", sum := "5b159bc054b7886779cc38fba71d66aa87930685314e22e757997c8bdf8f1f2c", func := "legate/legatelaw21.RecordNames", spec := "recordNames", inPlace := ["internal/bytealg.abigen_runtime_cmpstring"], unfollowed := true, recurses := true, apart := false, narrowed := true }
def RecordNamesUptoSaid : Prop := recordNamesUptoRow.holds Try.pinned (OpenSpec.upto recordNamesSpec)

/-- 'legatelaw21.RecordHash', WHERE WHAT IT READS IS OF BULK AT MOST 1048576: true; the input reads as it did. -/
def recordHashUptoRow : OpenClaim := { program := "ytnobijngkpflcaa", sum := "5b159bc054b7886779cc38fba71d66aa87930685314e22e757997c8bdf8f1f2c", func := "legate/legatelaw21.RecordHash", spec := "recordHash", inPlace := ["internal/bytealg.abigen_runtime_cmpstring"], unfollowed := true, recurses := true, apart := false, narrowed := true }
def RecordHashUptoSaid : Prop := recordHashUptoRow.holds Try.pinned (OpenSpec.upto recordHashSpec)

end Rows
end Go.Proofs.Ytnobijngkpflcaa
