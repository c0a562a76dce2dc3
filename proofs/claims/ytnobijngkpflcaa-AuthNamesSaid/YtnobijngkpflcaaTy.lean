/-
  Closed facts on the types and functions of the translation, one by one.
-/
import Derived.Test.YtnobijngkpflcaaProg
import Derived.Test.YtnobijngkpflcaaEngF
import Derived.KernelRfl
namespace Go.Proofs.Ytnobijngkpflcaa
open Go.Eng
theorem mixed : Try.prog.follows .mixedOrders = true := by kernel_rfl
theorem sz2 : szOf Try.prog 2 = some 1 := by kernel_rfl
theorem agg2 : aggB Try.prog 2 = some false := by kernel_rfl
theorem inf2 : inf Try.prog 2 1 8 := inf_of (by kernel_rfl)
theorem z2 : zeroOf Try.prog 2 = some ((.int .i64 (0))) := by kernel_rfl
theorem sz3 : szOf Try.prog 3 = some 1 := by kernel_rfl
theorem agg3 : aggB Try.prog 3 = some false := by kernel_rfl
theorem inf3 : inf Try.prog 3 1 8 := inf_of (by kernel_rfl)
theorem z3 : zeroOf Try.prog 3 = some ((.int .i64 (0))) := by kernel_rfl
theorem sz4 : szOf Try.prog 4 = some 1 := by kernel_rfl
theorem agg4 : aggB Try.prog 4 = some false := by kernel_rfl
theorem z4 : zeroOf Try.prog 4 = some ((.bool (false))) := by kernel_rfl
theorem sz5 : szOf Try.prog 5 = some 1 := by kernel_rfl
theorem agg5 : aggB Try.prog 5 = some false := by kernel_rfl
theorem inf5 : inf Try.prog 5 1 1 := inf_of (by kernel_rfl)
theorem z5 : zeroOf Try.prog 5 = some ((.int .u8 (0))) := by kernel_rfl
theorem sz6 : szOf Try.prog 6 = some 1 := by kernel_rfl
theorem agg6 : aggB Try.prog 6 = some false := by kernel_rfl
theorem inf6 : inf Try.prog 6 1 1 := inf_of (by kernel_rfl)
theorem z6 : zeroOf Try.prog 6 = some ((.int .u8 (0))) := by kernel_rfl
theorem sz7 : szOf Try.prog 7 = some 4 := by kernel_rfl
theorem agg7 : aggB Try.prog 7 = some true := by kernel_rfl
theorem pl7 {fs : Array Field} (h : Try.prog.underlying 7 = some (.struct fs)) : (fs.toList.all fun f => (szOf Try.prog f.type).isSome) = true ∧ placesOf Try.prog fs.toList = [(0, 1), (1, 1), (2, 1), (3, 1)] := by
  rw [Try.underlying7] at h; cases h; exact ⟨by kernel_rfl, by kernel_rfl⟩
theorem z7 : zeroOf Try.prog 7 = some (.agg #[(.int .i64 (0)), (.int .i64 (0)), (.bool (false)), (.int .u8 (0))]) := by kernel_rfl
theorem sz8 : szOf Try.prog 8 = some 4 := by kernel_rfl
theorem agg8 : aggB Try.prog 8 = some true := by kernel_rfl
theorem pl8 {fs : Array Field} (h : Try.prog.underlying 8 = some (.struct fs)) : (fs.toList.all fun f => (szOf Try.prog f.type).isSome) = true ∧ placesOf Try.prog fs.toList = [(0, 1), (1, 1), (2, 1), (3, 1)] := by
  rw [Try.underlying8] at h; cases h; exact ⟨by kernel_rfl, by kernel_rfl⟩
theorem inf8 : inf Try.prog 8 4 24 := inf_of (by kernel_rfl)
theorem z8 : zeroOf Try.prog 8 = some (.agg #[(.int .i64 (0)), (.int .i64 (0)), (.bool (false)), (.int .u8 (0))]) := by kernel_rfl
theorem sz9 : szOf Try.prog 9 = some 1 := by kernel_rfl
theorem agg9 : aggB Try.prog 9 = some false := by kernel_rfl
theorem inf9 : inf Try.prog 9 1 16 := inf_of (by kernel_rfl)
theorem z9 : zeroOf Try.prog 9 = some ((.string (⟨#[]⟩))) := by kernel_rfl
theorem sz10 : szOf Try.prog 10 = some 1 := by kernel_rfl
theorem agg10 : aggB Try.prog 10 = some false := by kernel_rfl
theorem inf10 : inf Try.prog 10 1 16 := inf_of (by kernel_rfl)
theorem z10 : zeroOf Try.prog 10 = some ((.string (⟨#[]⟩))) := by kernel_rfl
theorem sz11 : szOf Try.prog 11 = some 1 := by kernel_rfl
theorem agg11 : aggB Try.prog 11 = some false := by kernel_rfl
theorem inf11 : inf Try.prog 11 1 16 := inf_of (by kernel_rfl)
theorem z11 : zeroOf Try.prog 11 = some ((.string (⟨#[]⟩))) := by kernel_rfl
theorem sz12 : szOf Try.prog 12 = some 1 := by kernel_rfl
theorem agg12 : aggB Try.prog 12 = some false := by kernel_rfl
theorem z12 : zeroOf Try.prog 12 = some ((.int .u64 (0))) := by kernel_rfl
theorem sz13 : szOf Try.prog 13 = some 2 := by kernel_rfl
theorem agg13 : aggB Try.prog 13 = some true := by kernel_rfl
theorem pl13 {fs : Array Field} (h : Try.prog.underlying 13 = some (.struct fs)) : (fs.toList.all fun f => (szOf Try.prog f.type).isSome) = true ∧ placesOf Try.prog fs.toList = [(0, 1), (1, 1)] := by
  rw [Try.underlying13] at h; cases h; exact ⟨by kernel_rfl, by kernel_rfl⟩
theorem z13 : zeroOf Try.prog 13 = some (.agg #[(.string (⟨#[]⟩)), (.int .u64 (0))]) := by kernel_rfl
theorem sz14 : szOf Try.prog 14 = some 2 := by kernel_rfl
theorem agg14 : aggB Try.prog 14 = some true := by kernel_rfl
theorem pl14 {fs : Array Field} (h : Try.prog.underlying 14 = some (.struct fs)) : (fs.toList.all fun f => (szOf Try.prog f.type).isSome) = true ∧ placesOf Try.prog fs.toList = [(0, 1), (1, 1)] := by
  rw [Try.underlying14] at h; cases h; exact ⟨by kernel_rfl, by kernel_rfl⟩
theorem inf14 : inf Try.prog 14 2 24 := inf_of (by kernel_rfl)
theorem z14 : zeroOf Try.prog 14 = some (.agg #[(.string (⟨#[]⟩)), (.int .u64 (0))]) := by kernel_rfl
theorem sz15 : szOf Try.prog 15 = some 1 := by kernel_rfl
theorem agg15 : aggB Try.prog 15 = some false := by kernel_rfl
theorem z15 : zeroOf Try.prog 15 = some ((.pointer none)) := by kernel_rfl
theorem sz16 : szOf Try.prog 16 = some 1 := by kernel_rfl
theorem agg16 : aggB Try.prog 16 = some false := by kernel_rfl
theorem z16 : zeroOf Try.prog 16 = some ((.pointer none)) := by kernel_rfl
theorem sz17 : szOf Try.prog 17 = some 1 := by kernel_rfl
theorem agg17 : aggB Try.prog 17 = some false := by kernel_rfl
theorem z17 : zeroOf Try.prog 17 = some ((.pointer none)) := by kernel_rfl
theorem sz18 : szOf Try.prog 18 = some 1 := by kernel_rfl
theorem agg18 : aggB Try.prog 18 = some true := by kernel_rfl
theorem pl18 {fs : Array Field} (h : Try.prog.underlying 18 = some (.struct fs)) : (fs.toList.all fun f => (szOf Try.prog f.type).isSome) = true ∧ placesOf Try.prog fs.toList = [(0, 1)] := by
  rw [Try.underlying18] at h; cases h; exact ⟨by kernel_rfl, by kernel_rfl⟩
theorem z18 : zeroOf Try.prog 18 = some (.agg #[(.pointer none)]) := by kernel_rfl
theorem sz19 : szOf Try.prog 19 = some 1 := by kernel_rfl
theorem agg19 : aggB Try.prog 19 = some true := by kernel_rfl
theorem pl19 {fs : Array Field} (h : Try.prog.underlying 19 = some (.struct fs)) : (fs.toList.all fun f => (szOf Try.prog f.type).isSome) = true ∧ placesOf Try.prog fs.toList = [(0, 1)] := by
  rw [Try.underlying19] at h; cases h; exact ⟨by kernel_rfl, by kernel_rfl⟩
theorem inf19 : inf Try.prog 19 1 8 := inf_of (by kernel_rfl)
theorem z19 : zeroOf Try.prog 19 = some (.agg #[(.pointer none)]) := by kernel_rfl
theorem sz21 : szOf Try.prog 21 = some 1 := by kernel_rfl
theorem agg21 : aggB Try.prog 21 = some false := by kernel_rfl
theorem z21 : zeroOf Try.prog 21 = some ((.int .i32 (0))) := by kernel_rfl
theorem sz23 : szOf Try.prog 23 = some 1 := by kernel_rfl
theorem agg23 : aggB Try.prog 23 = some false := by kernel_rfl
theorem z23 : zeroOf Try.prog 23 = some ((.slice none 0 0)) := by kernel_rfl
theorem sz25 : szOf Try.prog 25 = some 1 := by kernel_rfl
theorem agg25 : aggB Try.prog 25 = some false := by kernel_rfl
theorem z25 : zeroOf Try.prog 25 = some ((.slice none 0 0)) := by kernel_rfl
theorem sz26 : szOf Try.prog 26 = some 2 := by kernel_rfl
theorem agg26 : aggB Try.prog 26 = some true := by kernel_rfl
theorem pl26 {fs : Array Field} (h : Try.prog.underlying 26 = some (.struct fs)) : (fs.toList.all fun f => (szOf Try.prog f.type).isSome) = true ∧ placesOf Try.prog fs.toList = [(0, 1), (1, 1)] := by
  rw [Try.underlying26] at h; cases h; exact ⟨by kernel_rfl, by kernel_rfl⟩
theorem z26 : zeroOf Try.prog 26 = some (.agg #[(.int .i64 (0)), (.slice none 0 0)]) := by kernel_rfl
theorem sz27 : szOf Try.prog 27 = some 2 := by kernel_rfl
theorem agg27 : aggB Try.prog 27 = some true := by kernel_rfl
theorem pl27 {fs : Array Field} (h : Try.prog.underlying 27 = some (.struct fs)) : (fs.toList.all fun f => (szOf Try.prog f.type).isSome) = true ∧ placesOf Try.prog fs.toList = [(0, 1), (1, 1)] := by
  rw [Try.underlying27] at h; cases h; exact ⟨by kernel_rfl, by kernel_rfl⟩
theorem inf27 : inf Try.prog 27 2 32 := inf_of (by kernel_rfl)
theorem z27 : zeroOf Try.prog 27 = some (.agg #[(.int .i64 (0)), (.slice none 0 0)]) := by kernel_rfl
theorem sz28 : szOf Try.prog 28 = some 1 := by kernel_rfl
theorem agg28 : aggB Try.prog 28 = some false := by kernel_rfl
theorem inf28 : inf Try.prog 28 1 8 := inf_of (by kernel_rfl)
theorem z28 : zeroOf Try.prog 28 = some ((.int .i64 (0))) := by kernel_rfl
theorem sz31 : szOf Try.prog 31 = some 1 := by kernel_rfl
theorem agg31 : aggB Try.prog 31 = some false := by kernel_rfl
theorem z31 : zeroOf Try.prog 31 = some ((.slice none 0 0)) := by kernel_rfl
theorem sz32 : szOf Try.prog 32 = some 5 := by kernel_rfl
theorem agg32 : aggB Try.prog 32 = some true := by kernel_rfl
theorem pl32 {fs : Array Field} (h : Try.prog.underlying 32 = some (.struct fs)) : (fs.toList.all fun f => (szOf Try.prog f.type).isSome) = true ∧ placesOf Try.prog fs.toList = [(0, 1), (1, 1), (2, 1), (3, 1), (4, 1)] := by
  rw [Try.underlying32] at h; cases h; exact ⟨by kernel_rfl, by kernel_rfl⟩
theorem z32 : zeroOf Try.prog 32 = some (.agg #[(.int .u8 (0)), (.int .i64 (0)), (.string (⟨#[]⟩)), (.slice none 0 0), (.slice none 0 0)]) := by kernel_rfl
theorem sz33 : szOf Try.prog 33 = some 5 := by kernel_rfl
theorem agg33 : aggB Try.prog 33 = some true := by kernel_rfl
theorem pl33 {fs : Array Field} (h : Try.prog.underlying 33 = some (.struct fs)) : (fs.toList.all fun f => (szOf Try.prog f.type).isSome) = true ∧ placesOf Try.prog fs.toList = [(0, 1), (1, 1), (2, 1), (3, 1), (4, 1)] := by
  rw [Try.underlying33] at h; cases h; exact ⟨by kernel_rfl, by kernel_rfl⟩
theorem inf33 : inf Try.prog 33 5 80 := inf_of (by kernel_rfl)
theorem z33 : zeroOf Try.prog 33 = some (.agg #[(.int .u8 (0)), (.int .i64 (0)), (.string (⟨#[]⟩)), (.slice none 0 0), (.slice none 0 0)]) := by kernel_rfl
theorem sz36 : szOf Try.prog 36 = some 6 := by kernel_rfl
theorem agg36 : aggB Try.prog 36 = some true := by kernel_rfl
theorem pl36 {fs : Array Field} (h : Try.prog.underlying 36 = some (.struct fs)) : (fs.toList.all fun f => (szOf Try.prog f.type).isSome) = true ∧ placesOf Try.prog fs.toList = [(0, 5), (5, 1)] := by
  rw [Try.underlying36] at h; cases h; exact ⟨by kernel_rfl, by kernel_rfl⟩
theorem z36 : zeroOf Try.prog 36 = some (.agg #[(.int .u8 (0)), (.int .i64 (0)), (.string (⟨#[]⟩)), (.slice none 0 0), (.slice none 0 0), (.int .i64 (0))]) := by kernel_rfl
theorem sz38 : szOf Try.prog 38 = some 1 := by kernel_rfl
theorem agg38 : aggB Try.prog 38 = some false := by kernel_rfl
theorem z38 : zeroOf Try.prog 38 = some ((.slice none 0 0)) := by kernel_rfl
theorem sz40 : szOf Try.prog 40 = some 1 := by kernel_rfl
theorem agg40 : aggB Try.prog 40 = some false := by kernel_rfl
theorem z40 : zeroOf Try.prog 40 = some ((.pointer none)) := by kernel_rfl
theorem sz46 : szOf Try.prog 46 = some 1 := by kernel_rfl
theorem agg46 : aggB Try.prog 46 = some false := by kernel_rfl
theorem z46 : zeroOf Try.prog 46 = some ((.slice none 0 0)) := by kernel_rfl
theorem sz50 : szOf Try.prog 50 = some 1 := by kernel_rfl
theorem agg50 : aggB Try.prog 50 = some false := by kernel_rfl
theorem z50 : zeroOf Try.prog 50 = some ((.pointer none)) := by kernel_rfl
theorem sz53 : szOf Try.prog 53 = some 6 := by kernel_rfl
theorem agg53 : aggB Try.prog 53 = some true := by kernel_rfl
theorem pl53 {fs : Array Field} (h : Try.prog.underlying 53 = some (.struct fs)) : (fs.toList.all fun f => (szOf Try.prog f.type).isSome) = true ∧ placesOf Try.prog fs.toList = [(0, 1), (1, 1), (2, 1), (3, 1), (4, 1), (5, 1)] := by
  rw [Try.underlying53] at h; cases h; exact ⟨by kernel_rfl, by kernel_rfl⟩
theorem z53 : zeroOf Try.prog 53 = some (.agg #[(.int .u8 (0)), (.string (⟨#[]⟩)), (.int .i64 (0)), (.int .i64 (0)), (.int .i64 (0)), (.int .i64 (0))]) := by kernel_rfl
theorem sz54 : szOf Try.prog 54 = some 6 := by kernel_rfl
theorem agg54 : aggB Try.prog 54 = some true := by kernel_rfl
theorem pl54 {fs : Array Field} (h : Try.prog.underlying 54 = some (.struct fs)) : (fs.toList.all fun f => (szOf Try.prog f.type).isSome) = true ∧ placesOf Try.prog fs.toList = [(0, 1), (1, 1), (2, 1), (3, 1), (4, 1), (5, 1)] := by
  rw [Try.underlying54] at h; cases h; exact ⟨by kernel_rfl, by kernel_rfl⟩
theorem inf54 : inf Try.prog 54 6 56 := inf_of (by kernel_rfl)
theorem z54 : zeroOf Try.prog 54 = some (.agg #[(.int .u8 (0)), (.string (⟨#[]⟩)), (.int .i64 (0)), (.int .i64 (0)), (.int .i64 (0)), (.int .i64 (0))]) := by kernel_rfl
theorem sz55 : szOf Try.prog 55 = some 7 := by kernel_rfl
theorem agg55 : aggB Try.prog 55 = some true := by kernel_rfl
theorem pl55 {fs : Array Field} (h : Try.prog.underlying 55 = some (.struct fs)) : (fs.toList.all fun f => (szOf Try.prog f.type).isSome) = true ∧ placesOf Try.prog fs.toList = [(0, 5), (5, 1), (6, 1)] := by
  rw [Try.underlying55] at h; cases h; exact ⟨by kernel_rfl, by kernel_rfl⟩
theorem z55 : zeroOf Try.prog 55 = some (.agg #[(.int .u8 (0)), (.int .i64 (0)), (.string (⟨#[]⟩)), (.slice none 0 0), (.slice none 0 0), (.slice none 0 0), (.int .i64 (0))]) := by kernel_rfl
theorem sz56 : szOf Try.prog 56 = some 7 := by kernel_rfl
theorem agg56 : aggB Try.prog 56 = some true := by kernel_rfl
theorem pl56 {fs : Array Field} (h : Try.prog.underlying 56 = some (.struct fs)) : (fs.toList.all fun f => (szOf Try.prog f.type).isSome) = true ∧ placesOf Try.prog fs.toList = [(0, 5), (5, 1), (6, 1)] := by
  rw [Try.underlying56] at h; cases h; exact ⟨by kernel_rfl, by kernel_rfl⟩
theorem inf56 : inf Try.prog 56 7 112 := inf_of (by kernel_rfl)
theorem z56 : zeroOf Try.prog 56 = some (.agg #[(.int .u8 (0)), (.int .i64 (0)), (.string (⟨#[]⟩)), (.slice none 0 0), (.slice none 0 0), (.slice none 0 0), (.int .i64 (0))]) := by kernel_rfl
theorem sz66 : szOf Try.prog 66 = some 6 := by kernel_rfl
theorem agg66 : aggB Try.prog 66 = some true := by kernel_rfl
theorem pl66 {fs : Array Field} (h : Try.prog.underlying 66 = some (.struct fs)) : (fs.toList.all fun f => (szOf Try.prog f.type).isSome) = true ∧ placesOf Try.prog fs.toList = [(0, 1), (1, 5)] := by
  rw [Try.underlying66] at h; cases h; exact ⟨by kernel_rfl, by kernel_rfl⟩
theorem z66 : zeroOf Try.prog 66 = some (.agg #[(.string (⟨#[]⟩)), (.int .u8 (0)), (.int .i64 (0)), (.string (⟨#[]⟩)), (.slice none 0 0), (.slice none 0 0)]) := by kernel_rfl
theorem sz67 : szOf Try.prog 67 = some 6 := by kernel_rfl
theorem agg67 : aggB Try.prog 67 = some true := by kernel_rfl
theorem pl67 {fs : Array Field} (h : Try.prog.underlying 67 = some (.struct fs)) : (fs.toList.all fun f => (szOf Try.prog f.type).isSome) = true ∧ placesOf Try.prog fs.toList = [(0, 1), (1, 5)] := by
  rw [Try.underlying67] at h; cases h; exact ⟨by kernel_rfl, by kernel_rfl⟩
theorem inf67 : inf Try.prog 67 6 96 := inf_of (by kernel_rfl)
theorem z67 : zeroOf Try.prog 67 = some (.agg #[(.string (⟨#[]⟩)), (.int .u8 (0)), (.int .i64 (0)), (.string (⟨#[]⟩)), (.slice none 0 0), (.slice none 0 0)]) := by kernel_rfl
theorem sz69 : szOf Try.prog 69 = some 7 := by kernel_rfl
theorem agg69 : aggB Try.prog 69 = some true := by kernel_rfl
theorem pl69 {fs : Array Field} (h : Try.prog.underlying 69 = some (.struct fs)) : (fs.toList.all fun f => (szOf Try.prog f.type).isSome) = true ∧ placesOf Try.prog fs.toList = [(0, 6), (6, 1)] := by
  rw [Try.underlying69] at h; cases h; exact ⟨by kernel_rfl, by kernel_rfl⟩
theorem z69 : zeroOf Try.prog 69 = some (.agg #[(.int .u8 (0)), (.string (⟨#[]⟩)), (.int .i64 (0)), (.int .i64 (0)), (.int .i64 (0)), (.int .i64 (0)), (.int .i64 (0))]) := by kernel_rfl
theorem sz70 : szOf Try.prog 70 = some 1 := by kernel_rfl
theorem agg70 : aggB Try.prog 70 = some false := by kernel_rfl
theorem z70 : zeroOf Try.prog 70 = some ((.slice none 0 0)) := by kernel_rfl
theorem sz72 : szOf Try.prog 72 = some 1 := by kernel_rfl
theorem agg72 : aggB Try.prog 72 = some false := by kernel_rfl
theorem z72 : zeroOf Try.prog 72 = some ((.map none)) := by kernel_rfl
theorem sz73 : szOf Try.prog 73 = some 7 := by kernel_rfl
theorem agg73 : aggB Try.prog 73 = some true := by kernel_rfl
theorem pl73 {fs : Array Field} (h : Try.prog.underlying 73 = some (.struct fs)) : (fs.toList.all fun f => (szOf Try.prog f.type).isSome) = true ∧ placesOf Try.prog fs.toList = [(0, 5), (5, 1), (6, 1)] := by
  rw [Try.underlying73] at h; cases h; exact ⟨by kernel_rfl, by kernel_rfl⟩
theorem z73 : zeroOf Try.prog 73 = some (.agg #[(.int .u8 (0)), (.int .i64 (0)), (.string (⟨#[]⟩)), (.slice none 0 0), (.slice none 0 0), (.map none), (.int .i64 (0))]) := by kernel_rfl
theorem sz74 : szOf Try.prog 74 = some 7 := by kernel_rfl
theorem agg74 : aggB Try.prog 74 = some true := by kernel_rfl
theorem pl74 {fs : Array Field} (h : Try.prog.underlying 74 = some (.struct fs)) : (fs.toList.all fun f => (szOf Try.prog f.type).isSome) = true ∧ placesOf Try.prog fs.toList = [(0, 5), (5, 1), (6, 1)] := by
  rw [Try.underlying74] at h; cases h; exact ⟨by kernel_rfl, by kernel_rfl⟩
theorem inf74 : inf Try.prog 74 7 96 := inf_of (by kernel_rfl)
theorem z74 : zeroOf Try.prog 74 = some (.agg #[(.int .u8 (0)), (.int .i64 (0)), (.string (⟨#[]⟩)), (.slice none 0 0), (.slice none 0 0), (.map none), (.int .i64 (0))]) := by kernel_rfl
theorem sz82 : szOf Try.prog 82 = some 1 := by kernel_rfl
theorem agg82 : aggB Try.prog 82 = some false := by kernel_rfl
theorem z82 : zeroOf Try.prog 82 = some ((.slice none 0 0)) := by kernel_rfl
theorem sz84 : szOf Try.prog 84 = some 1 := by kernel_rfl
theorem agg84 : aggB Try.prog 84 = some false := by kernel_rfl
theorem z84 : zeroOf Try.prog 84 = some ((.slice none 0 0)) := by kernel_rfl
theorem sz85 : szOf Try.prog 85 = some 1 := by kernel_rfl
theorem agg85 : aggB Try.prog 85 = some false := by kernel_rfl
theorem z85 : zeroOf Try.prog 85 = some ((.slice none 0 0)) := by kernel_rfl
theorem sz86 : szOf Try.prog 86 = some 7 := by kernel_rfl
theorem agg86 : aggB Try.prog 86 = some true := by kernel_rfl
theorem pl86 {fs : Array Field} (h : Try.prog.underlying 86 = some (.struct fs)) : (fs.toList.all fun f => (szOf Try.prog f.type).isSome) = true ∧ placesOf Try.prog fs.toList = [(0, 1), (1, 1), (2, 5)] := by
  rw [Try.underlying86] at h; cases h; exact ⟨by kernel_rfl, by kernel_rfl⟩
theorem z86 : zeroOf Try.prog 86 = some (.agg #[(.int .i64 (0)), (.slice none 0 0), (.int .u8 (0)), (.int .i64 (0)), (.string (⟨#[]⟩)), (.slice none 0 0), (.slice none 0 0)]) := by kernel_rfl
theorem sz87 : szOf Try.prog 87 = some 7 := by kernel_rfl
theorem agg87 : aggB Try.prog 87 = some true := by kernel_rfl
theorem pl87 {fs : Array Field} (h : Try.prog.underlying 87 = some (.struct fs)) : (fs.toList.all fun f => (szOf Try.prog f.type).isSome) = true ∧ placesOf Try.prog fs.toList = [(0, 1), (1, 1), (2, 5)] := by
  rw [Try.underlying87] at h; cases h; exact ⟨by kernel_rfl, by kernel_rfl⟩
theorem inf87 : inf Try.prog 87 7 112 := inf_of (by kernel_rfl)
theorem z87 : zeroOf Try.prog 87 = some (.agg #[(.int .i64 (0)), (.slice none 0 0), (.int .u8 (0)), (.int .i64 (0)), (.string (⟨#[]⟩)), (.slice none 0 0), (.slice none 0 0)]) := by kernel_rfl
theorem sz88 : szOf Try.prog 88 = some 8 := by kernel_rfl
theorem agg88 : aggB Try.prog 88 = some true := by kernel_rfl
theorem pl88 {fs : Array Field} (h : Try.prog.underlying 88 = some (.struct fs)) : (fs.toList.all fun f => (szOf Try.prog f.type).isSome) = true ∧ placesOf Try.prog fs.toList = [(0, 1), (1, 7)] := by
  rw [Try.underlying88] at h; cases h; exact ⟨by kernel_rfl, by kernel_rfl⟩
theorem z88 : zeroOf Try.prog 88 = some (.agg #[(.string (⟨#[]⟩)), (.int .i64 (0)), (.slice none 0 0), (.int .u8 (0)), (.int .i64 (0)), (.string (⟨#[]⟩)), (.slice none 0 0), (.slice none 0 0)]) := by kernel_rfl
theorem sz89 : szOf Try.prog 89 = some 8 := by kernel_rfl
theorem agg89 : aggB Try.prog 89 = some true := by kernel_rfl
theorem pl89 {fs : Array Field} (h : Try.prog.underlying 89 = some (.struct fs)) : (fs.toList.all fun f => (szOf Try.prog f.type).isSome) = true ∧ placesOf Try.prog fs.toList = [(0, 1), (1, 7)] := by
  rw [Try.underlying89] at h; cases h; exact ⟨by kernel_rfl, by kernel_rfl⟩
theorem inf89 : inf Try.prog 89 8 128 := inf_of (by kernel_rfl)
theorem z89 : zeroOf Try.prog 89 = some (.agg #[(.string (⟨#[]⟩)), (.int .i64 (0)), (.slice none 0 0), (.int .u8 (0)), (.int .i64 (0)), (.string (⟨#[]⟩)), (.slice none 0 0), (.slice none 0 0)]) := by kernel_rfl
theorem sz91 : szOf Try.prog 91 = some 1 := by kernel_rfl
theorem agg91 : aggB Try.prog 91 = some false := by kernel_rfl
theorem z91 : zeroOf Try.prog 91 = some ((.pointer none)) := by kernel_rfl
theorem sz102 : szOf Try.prog 102 = some 1 := by kernel_rfl
theorem agg102 : aggB Try.prog 102 = some false := by kernel_rfl
theorem z102 : zeroOf Try.prog 102 = some ((.slice none 0 0)) := by kernel_rfl
theorem sz103 : szOf Try.prog 103 = some 2 := by kernel_rfl
theorem agg103 : aggB Try.prog 103 = some true := by kernel_rfl
theorem pl103 {fs : Array Field} (h : Try.prog.underlying 103 = some (.struct fs)) : (fs.toList.all fun f => (szOf Try.prog f.type).isSome) = true ∧ placesOf Try.prog fs.toList = [(0, 1), (1, 1)] := by
  rw [Try.underlying103] at h; cases h; exact ⟨by kernel_rfl, by kernel_rfl⟩
theorem z103 : zeroOf Try.prog 103 = some (.agg #[(.int .i64 (0)), (.slice none 0 0)]) := by kernel_rfl
theorem sz104 : szOf Try.prog 104 = some 2 := by kernel_rfl
theorem agg104 : aggB Try.prog 104 = some true := by kernel_rfl
theorem pl104 {fs : Array Field} (h : Try.prog.underlying 104 = some (.struct fs)) : (fs.toList.all fun f => (szOf Try.prog f.type).isSome) = true ∧ placesOf Try.prog fs.toList = [(0, 1), (1, 1)] := by
  rw [Try.underlying104] at h; cases h; exact ⟨by kernel_rfl, by kernel_rfl⟩
theorem inf104 : inf Try.prog 104 2 32 := inf_of (by kernel_rfl)
theorem z104 : zeroOf Try.prog 104 = some (.agg #[(.int .i64 (0)), (.slice none 0 0)]) := by kernel_rfl
theorem sz106 : szOf Try.prog 106 = some 1 := by kernel_rfl
theorem agg106 : aggB Try.prog 106 = some false := by kernel_rfl
theorem z106 : zeroOf Try.prog 106 = some ((.slice none 0 0)) := by kernel_rfl
theorem sz109 : szOf Try.prog 109 = some 6 := by kernel_rfl
theorem agg109 : aggB Try.prog 109 = some true := by kernel_rfl
theorem pl109 {fs : Array Field} (h : Try.prog.underlying 109 = some (.struct fs)) : (fs.toList.all fun f => (szOf Try.prog f.type).isSome) = true ∧ placesOf Try.prog fs.toList = [(0, 1), (1, 5)] := by
  rw [Try.underlying109] at h; cases h; exact ⟨by kernel_rfl, by kernel_rfl⟩
theorem inf109 : inf Try.prog 109 6 96 := inf_of (by kernel_rfl)
theorem z109 : zeroOf Try.prog 109 = some (.agg #[(.string (⟨#[]⟩)), (.int .u8 (0)), (.int .i64 (0)), (.string (⟨#[]⟩)), (.slice none 0 0), (.slice none 0 0)]) := by kernel_rfl
theorem sz112 : szOf Try.prog 112 = some 2 := by kernel_rfl
theorem agg112 : aggB Try.prog 112 = some true := by kernel_rfl
theorem pl112 {fs : Array Field} (h : Try.prog.underlying 112 = some (.struct fs)) : (fs.toList.all fun f => (szOf Try.prog f.type).isSome) = true ∧ placesOf Try.prog fs.toList = [(0, 1), (1, 1)] := by
  rw [Try.underlying112] at h; cases h; exact ⟨by kernel_rfl, by kernel_rfl⟩
theorem z112 : zeroOf Try.prog 112 = some (.agg #[(.slice none 0 0), (.bool (false))]) := by kernel_rfl
theorem sz113 : szOf Try.prog 113 = some 2 := by kernel_rfl
theorem agg113 : aggB Try.prog 113 = some true := by kernel_rfl
theorem pl113 {fs : Array Field} (h : Try.prog.underlying 113 = some (.struct fs)) : (fs.toList.all fun f => (szOf Try.prog f.type).isSome) = true ∧ placesOf Try.prog fs.toList = [(0, 1), (1, 1)] := by
  rw [Try.underlying113] at h; cases h; exact ⟨by kernel_rfl, by kernel_rfl⟩
theorem z113 : zeroOf Try.prog 113 = some (.agg #[(.string (⟨#[]⟩)), (.string (⟨#[]⟩))]) := by kernel_rfl
theorem sz114 : szOf Try.prog 114 = some 2 := by kernel_rfl
theorem agg114 : aggB Try.prog 114 = some true := by kernel_rfl
theorem pl114 {fs : Array Field} (h : Try.prog.underlying 114 = some (.struct fs)) : (fs.toList.all fun f => (szOf Try.prog f.type).isSome) = true ∧ placesOf Try.prog fs.toList = [(0, 1), (1, 1)] := by
  rw [Try.underlying114] at h; cases h; exact ⟨by kernel_rfl, by kernel_rfl⟩
theorem inf114 : inf Try.prog 114 2 32 := inf_of (by kernel_rfl)
theorem z114 : zeroOf Try.prog 114 = some (.agg #[(.string (⟨#[]⟩)), (.string (⟨#[]⟩))]) := by kernel_rfl
theorem sz115 : szOf Try.prog 115 = some 1 := by kernel_rfl
theorem agg115 : aggB Try.prog 115 = some false := by kernel_rfl
theorem z115 : zeroOf Try.prog 115 = some ((.slice none 0 0)) := by kernel_rfl
theorem sz118 : szOf Try.prog 118 = some 6 := by kernel_rfl
theorem agg118 : aggB Try.prog 118 = some true := by kernel_rfl
theorem pl118 {fs : Array Field} (h : Try.prog.underlying 118 = some (.struct fs)) : (fs.toList.all fun f => (szOf Try.prog f.type).isSome) = true ∧ placesOf Try.prog fs.toList = [(0, 5), (5, 1)] := by
  rw [Try.underlying118] at h; cases h; exact ⟨by kernel_rfl, by kernel_rfl⟩
theorem z118 : zeroOf Try.prog 118 = some (.agg #[(.int .u8 (0)), (.int .i64 (0)), (.string (⟨#[]⟩)), (.slice none 0 0), (.slice none 0 0), (.int .i64 (0))]) := by kernel_rfl
theorem sz120 : szOf Try.prog 120 = some 1 := by kernel_rfl
theorem agg120 : aggB Try.prog 120 = some false := by kernel_rfl
theorem z120 : zeroOf Try.prog 120 = some ((.slice none 0 0)) := by kernel_rfl
theorem sz153 : szOf Try.prog 153 = some 1 := by kernel_rfl
theorem agg153 : aggB Try.prog 153 = some false := by kernel_rfl
theorem z153 : zeroOf Try.prog 153 = some ((.slice none 0 0)) := by kernel_rfl
theorem sz155 : szOf Try.prog 155 = some 8 := by kernel_rfl
theorem agg155 : aggB Try.prog 155 = some true := by kernel_rfl
theorem pl155 {fs : Array Field} (h : Try.prog.underlying 155 = some (.struct fs)) : (fs.toList.all fun f => (szOf Try.prog f.type).isSome) = true ∧ placesOf Try.prog fs.toList = [(0, 7), (7, 1)] := by
  rw [Try.underlying155] at h; cases h; exact ⟨by kernel_rfl, by kernel_rfl⟩
theorem z155 : zeroOf Try.prog 155 = some (.agg #[(.int .i64 (0)), (.slice none 0 0), (.int .u8 (0)), (.int .i64 (0)), (.string (⟨#[]⟩)), (.slice none 0 0), (.slice none 0 0), (.string (⟨#[]⟩))]) := by kernel_rfl
theorem sz156 : szOf Try.prog 156 = some 8 := by kernel_rfl
theorem agg156 : aggB Try.prog 156 = some true := by kernel_rfl
theorem pl156 {fs : Array Field} (h : Try.prog.underlying 156 = some (.struct fs)) : (fs.toList.all fun f => (szOf Try.prog f.type).isSome) = true ∧ placesOf Try.prog fs.toList = [(0, 7), (7, 1)] := by
  rw [Try.underlying156] at h; cases h; exact ⟨by kernel_rfl, by kernel_rfl⟩
theorem inf156 : inf Try.prog 156 8 128 := inf_of (by kernel_rfl)
theorem z156 : zeroOf Try.prog 156 = some (.agg #[(.int .i64 (0)), (.slice none 0 0), (.int .u8 (0)), (.int .i64 (0)), (.string (⟨#[]⟩)), (.slice none 0 0), (.slice none 0 0), (.string (⟨#[]⟩))]) := by kernel_rfl
theorem sz168 : szOf Try.prog 168 = some 1 := by kernel_rfl
theorem agg168 : aggB Try.prog 168 = some false := by kernel_rfl
theorem z168 : zeroOf Try.prog 168 = some ((.pointer none)) := by kernel_rfl
theorem sz175 : szOf Try.prog 175 = some 1 := by kernel_rfl
theorem agg175 : aggB Try.prog 175 = some false := by kernel_rfl
theorem z175 : zeroOf Try.prog 175 = some ((.int .u64 (0))) := by kernel_rfl
theorem sz184 : szOf Try.prog 184 = some 1 := by kernel_rfl
theorem agg184 : aggB Try.prog 184 = some false := by kernel_rfl
theorem z184 : zeroOf Try.prog 184 = some ((.slice none 0 0)) := by kernel_rfl
theorem sz186 : szOf Try.prog 186 = some 1 := by kernel_rfl
theorem agg186 : aggB Try.prog 186 = some false := by kernel_rfl
theorem z186 : zeroOf Try.prog 186 = some ((.pointer none)) := by kernel_rfl
theorem sz187 : szOf Try.prog 187 = some 1 := by kernel_rfl
theorem agg187 : aggB Try.prog 187 = some false := by kernel_rfl
theorem z187 : zeroOf Try.prog 187 = some ((.pointer none)) := by kernel_rfl
theorem sz191 : szOf Try.prog 191 = some 1 := by kernel_rfl
theorem agg191 : aggB Try.prog 191 = some false := by kernel_rfl
theorem inf191 : inf Try.prog 191 1 8 := inf_of (by kernel_rfl)
theorem z191 : zeroOf Try.prog 191 = some ((.int .i64 (0))) := by kernel_rfl
theorem sz198 : szOf Try.prog 198 = some 1 := by kernel_rfl
theorem agg198 : aggB Try.prog 198 = some false := by kernel_rfl
theorem z198 : zeroOf Try.prog 198 = some ((.int .u32 (0))) := by kernel_rfl
theorem sz200 : szOf Try.prog 200 = some 1 := by kernel_rfl
theorem agg200 : aggB Try.prog 200 = some false := by kernel_rfl
theorem z200 : zeroOf Try.prog 200 = some ((.int .u64 (0))) := by kernel_rfl
theorem sz205 : szOf Try.prog 205 = some 2 := by kernel_rfl
theorem agg205 : aggB Try.prog 205 = some true := by kernel_rfl
theorem pl205 {fs : Array Field} (h : Try.prog.underlying 205 = some (.struct fs)) : (fs.toList.all fun f => (szOf Try.prog f.type).isSome) = true ∧ placesOf Try.prog fs.toList = [(0, 1), (1, 1)] := by
  rw [Try.underlying205] at h; cases h; exact ⟨by kernel_rfl, by kernel_rfl⟩
theorem z205 : zeroOf Try.prog 205 = some (.agg #[(.pointer none), (.pointer none)]) := by kernel_rfl
theorem sz206 : szOf Try.prog 206 = some 2 := by kernel_rfl
theorem agg206 : aggB Try.prog 206 = some true := by kernel_rfl
theorem pl206 {fs : Array Field} (h : Try.prog.underlying 206 = some (.struct fs)) : (fs.toList.all fun f => (szOf Try.prog f.type).isSome) = true ∧ placesOf Try.prog fs.toList = [(0, 1), (1, 1)] := by
  rw [Try.underlying206] at h; cases h; exact ⟨by kernel_rfl, by kernel_rfl⟩
theorem inf206 : inf Try.prog 206 2 16 := inf_of (by kernel_rfl)
theorem z206 : zeroOf Try.prog 206 = some (.agg #[(.pointer none), (.pointer none)]) := by kernel_rfl
theorem sz207 : szOf Try.prog 207 = some 1 := by kernel_rfl
theorem agg207 : aggB Try.prog 207 = some false := by kernel_rfl
theorem inf207 : inf Try.prog 207 1 8 := inf_of (by kernel_rfl)
theorem z207 : zeroOf Try.prog 207 = some ((.int .u64 (0))) := by kernel_rfl
theorem sz214 : szOf Try.prog 214 = some 1 := by kernel_rfl
theorem agg214 : aggB Try.prog 214 = some false := by kernel_rfl
theorem z214 : zeroOf Try.prog 214 = some ((.pointer none)) := by kernel_rfl
theorem sz220 : szOf Try.prog 220 = some 4 := by kernel_rfl
theorem agg220 : aggB Try.prog 220 = some true := by kernel_rfl
theorem pl220 {fs : Array Field} (h : Try.prog.underlying 220 = some (.struct fs)) : (fs.toList.all fun f => (szOf Try.prog f.type).isSome) = true ∧ placesOf Try.prog fs.toList = [(0, 1), (1, 1), (2, 1), (3, 1)] := by
  rw [Try.underlying220] at h; cases h; exact ⟨by kernel_rfl, by kernel_rfl⟩
theorem z220 : zeroOf Try.prog 220 = some (.agg #[(.pointer none), (.pointer none), (.pointer none), (.string (⟨#[]⟩))]) := by kernel_rfl
theorem sz221 : szOf Try.prog 221 = some 4 := by kernel_rfl
theorem agg221 : aggB Try.prog 221 = some true := by kernel_rfl
theorem pl221 {fs : Array Field} (h : Try.prog.underlying 221 = some (.struct fs)) : (fs.toList.all fun f => (szOf Try.prog f.type).isSome) = true ∧ placesOf Try.prog fs.toList = [(0, 1), (1, 1), (2, 1), (3, 1)] := by
  rw [Try.underlying221] at h; cases h; exact ⟨by kernel_rfl, by kernel_rfl⟩
theorem inf221 : inf Try.prog 221 4 40 := inf_of (by kernel_rfl)
theorem z221 : zeroOf Try.prog 221 = some (.agg #[(.pointer none), (.pointer none), (.pointer none), (.string (⟨#[]⟩))]) := by kernel_rfl
theorem sz222 : szOf Try.prog 222 = some 0 := by kernel_rfl
theorem agg222 : aggB Try.prog 222 = some true := by kernel_rfl
theorem sz223 : szOf Try.prog 223 = some 0 := by kernel_rfl
theorem agg223 : aggB Try.prog 223 = some true := by kernel_rfl
theorem pl223 {fs : Array Field} (h : Try.prog.underlying 223 = some (.struct fs)) : (fs.toList.all fun f => (szOf Try.prog f.type).isSome) = true ∧ placesOf Try.prog fs.toList = [(0, 0)] := by
  rw [Try.underlying223] at h; cases h; exact ⟨by kernel_rfl, by kernel_rfl⟩
theorem sz224 : szOf Try.prog 224 = some 0 := by kernel_rfl
theorem agg224 : aggB Try.prog 224 = some true := by kernel_rfl
theorem pl224 {fs : Array Field} (h : Try.prog.underlying 224 = some (.struct fs)) : (fs.toList.all fun f => (szOf Try.prog f.type).isSome) = true ∧ placesOf Try.prog fs.toList = [(0, 0)] := by
  rw [Try.underlying224] at h; cases h; exact ⟨by kernel_rfl, by kernel_rfl⟩
theorem sz225 : szOf Try.prog 225 = some 1 := by kernel_rfl
theorem agg225 : aggB Try.prog 225 = some false := by kernel_rfl
theorem inf225 : inf Try.prog 225 1 1 := inf_of (by kernel_rfl)
theorem z225 : zeroOf Try.prog 225 = some ((.int .u8 (0))) := by kernel_rfl
theorem sz226 : szOf Try.prog 226 = some 1 := by kernel_rfl
theorem agg226 : aggB Try.prog 226 = some false := by kernel_rfl
theorem inf226 : inf Try.prog 226 1 1 := inf_of (by kernel_rfl)
theorem z226 : zeroOf Try.prog 226 = some ((.int .u8 (0))) := by kernel_rfl
theorem sz228 : szOf Try.prog 228 = some 1 := by kernel_rfl
theorem agg228 : aggB Try.prog 228 = some false := by kernel_rfl
theorem z228 : zeroOf Try.prog 228 = some ((.pointer none)) := by kernel_rfl
theorem sz229 : szOf Try.prog 229 = some 1 := by kernel_rfl
theorem agg229 : aggB Try.prog 229 = some false := by kernel_rfl
theorem inf229 : inf Try.prog 229 1 4 := inf_of (by kernel_rfl)
theorem z229 : zeroOf Try.prog 229 = some ((.int .i32 (0))) := by kernel_rfl
theorem sz230 : szOf Try.prog 230 = some 1 := by kernel_rfl
theorem agg230 : aggB Try.prog 230 = some false := by kernel_rfl
theorem inf230 : inf Try.prog 230 1 4 := inf_of (by kernel_rfl)
theorem z230 : zeroOf Try.prog 230 = some ((.int .i32 (0))) := by kernel_rfl
theorem sz231 : szOf Try.prog 231 = some 11 := by kernel_rfl
theorem agg231 : aggB Try.prog 231 = some true := by kernel_rfl
theorem pl231 {fs : Array Field} (h : Try.prog.underlying 231 = some (.struct fs)) : (fs.toList.all fun f => (szOf Try.prog f.type).isSome) = true ∧ placesOf Try.prog fs.toList = [(0, 1), (1, 1), (2, 1), (3, 1), (4, 1), (5, 1), (6, 1), (7, 1), (8, 1), (9, 1), (10, 1)] := by
  rw [Try.underlying231] at h; cases h; exact ⟨by kernel_rfl, by kernel_rfl⟩
theorem sz232 : szOf Try.prog 232 = some 11 := by kernel_rfl
theorem agg232 : aggB Try.prog 232 = some true := by kernel_rfl
theorem pl232 {fs : Array Field} (h : Try.prog.underlying 232 = some (.struct fs)) : (fs.toList.all fun f => (szOf Try.prog f.type).isSome) = true ∧ placesOf Try.prog fs.toList = [(0, 1), (1, 1), (2, 1), (3, 1), (4, 1), (5, 1), (6, 1), (7, 1), (8, 1), (9, 1), (10, 1)] := by
  rw [Try.underlying232] at h; cases h; exact ⟨by kernel_rfl, by kernel_rfl⟩
theorem inf232 : inf Try.prog 232 11 48 := inf_of (by kernel_rfl)
theorem ent3 : Enters Try.prog 3 := enters_of Try.func3 (by kernel_rfl) (by kernel_rfl)
theorem ent4 : Enters Try.prog 4 := enters_of Try.func4 (by kernel_rfl) (by kernel_rfl)
theorem ent5 : Enters Try.prog 5 := enters_of Try.func5 (by kernel_rfl) (by kernel_rfl)
theorem ent6 : Enters Try.prog 6 := enters_of Try.func6 (by kernel_rfl) (by kernel_rfl)
theorem ent7 : Enters Try.prog 7 := enters_of Try.func7 (by kernel_rfl) (by kernel_rfl)
theorem ent8 : Enters Try.prog 8 := enters_of Try.func8 (by kernel_rfl) (by kernel_rfl)
theorem ent9 : Enters Try.prog 9 := enters_of Try.func9 (by kernel_rfl) (by kernel_rfl)
theorem ent10 : Enters Try.prog 10 := enters_of Try.func10 (by kernel_rfl) (by kernel_rfl)
theorem ent11 : Enters Try.prog 11 := enters_of Try.func11 (by kernel_rfl) (by kernel_rfl)
theorem ent12 : Enters Try.prog 12 := enters_of Try.func12 (by kernel_rfl) (by kernel_rfl)
theorem ent13 : Enters Try.prog 13 := enters_of Try.func13 (by kernel_rfl) (by kernel_rfl)
theorem ent14 : Enters Try.prog 14 := enters_of Try.func14 (by kernel_rfl) (by kernel_rfl)
theorem ent15 : Enters Try.prog 15 := enters_of Try.func15 (by kernel_rfl) (by kernel_rfl)
theorem ent16 : Enters Try.prog 16 := enters_of Try.func16 (by kernel_rfl) (by kernel_rfl)
theorem ent17 : Enters Try.prog 17 := enters_of Try.func17 (by kernel_rfl) (by kernel_rfl)
theorem ent18 : Enters Try.prog 18 := enters_of Try.func18 (by kernel_rfl) (by kernel_rfl)
theorem ent19 : Enters Try.prog 19 := enters_of Try.func19 (by kernel_rfl) (by kernel_rfl)
theorem ent20 : Enters Try.prog 20 := enters_of Try.func20 (by kernel_rfl) (by kernel_rfl)
theorem ent21 : Enters Try.prog 21 := enters_of Try.func21 (by kernel_rfl) (by kernel_rfl)
theorem ent22 : Enters Try.prog 22 := enters_of Try.func22 (by kernel_rfl) (by kernel_rfl)
theorem ent23 : Enters Try.prog 23 := enters_of Try.func23 (by kernel_rfl) (by kernel_rfl)
theorem ent24 : Enters Try.prog 24 := enters_of Try.func24 (by kernel_rfl) (by kernel_rfl)
theorem ent25 : Enters Try.prog 25 := enters_of Try.func25 (by kernel_rfl) (by kernel_rfl)
theorem ent26 : Enters Try.prog 26 := enters_of Try.func26 (by kernel_rfl) (by kernel_rfl)
theorem ent27 : Enters Try.prog 27 := enters_of Try.func27 (by kernel_rfl) (by kernel_rfl)
theorem ent28 : Enters Try.prog 28 := enters_of Try.func28 (by kernel_rfl) (by kernel_rfl)
theorem ent29 : Enters Try.prog 29 := enters_of Try.func29 (by kernel_rfl) (by kernel_rfl)
theorem ent30 : Enters Try.prog 30 := enters_of Try.func30 (by kernel_rfl) (by kernel_rfl)
theorem ent31 : Enters Try.prog 31 := enters_of Try.func31 (by kernel_rfl) (by kernel_rfl)
theorem ent32 : Enters Try.prog 32 := enters_of Try.func32 (by kernel_rfl) (by kernel_rfl)
theorem ent33 : Enters Try.prog 33 := enters_of Try.func33 (by kernel_rfl) (by kernel_rfl)
theorem ent34 : Enters Try.prog 34 := enters_of Try.func34 (by kernel_rfl) (by kernel_rfl)
theorem ent35 : Enters Try.prog 35 := enters_of Try.func35 (by kernel_rfl) (by kernel_rfl)
theorem ent36 : Enters Try.prog 36 := enters_of Try.func36 (by kernel_rfl) (by kernel_rfl)
theorem ent37 : Enters Try.prog 37 := enters_of Try.func37 (by kernel_rfl) (by kernel_rfl)
theorem ent38 : Enters Try.prog 38 := enters_of Try.func38 (by kernel_rfl) (by kernel_rfl)
theorem ent39 : Enters Try.prog 39 := enters_of Try.func39 (by kernel_rfl) (by kernel_rfl)
theorem ent40 : Enters Try.prog 40 := enters_of Try.func40 (by kernel_rfl) (by kernel_rfl)
theorem ent41 : Enters Try.prog 41 := enters_of Try.func41 (by kernel_rfl) (by kernel_rfl)
theorem ent42 : Enters Try.prog 42 := enters_of Try.func42 (by kernel_rfl) (by kernel_rfl)
theorem ent43 : Enters Try.prog 43 := enters_of Try.func43 (by kernel_rfl) (by kernel_rfl)
theorem ent44 : Enters Try.prog 44 := enters_of Try.func44 (by kernel_rfl) (by kernel_rfl)
theorem ent45 : Enters Try.prog 45 := enters_of Try.func45 (by kernel_rfl) (by kernel_rfl)
theorem ent46 : Enters Try.prog 46 := enters_of Try.func46 (by kernel_rfl) (by kernel_rfl)
theorem ent47 : Enters Try.prog 47 := enters_of Try.func47 (by kernel_rfl) (by kernel_rfl)
theorem ent48 : Enters Try.prog 48 := enters_of Try.func48 (by kernel_rfl) (by kernel_rfl)
theorem ent49 : Enters Try.prog 49 := enters_of Try.func49 (by kernel_rfl) (by kernel_rfl)
theorem ent50 : Enters Try.prog 50 := enters_of Try.func50 (by kernel_rfl) (by kernel_rfl)
theorem ent51 : Enters Try.prog 51 := enters_of Try.func51 (by kernel_rfl) (by kernel_rfl)
theorem ent52 : Enters Try.prog 52 := enters_of Try.func52 (by kernel_rfl) (by kernel_rfl)
theorem ent53 : Enters Try.prog 53 := enters_of Try.func53 (by kernel_rfl) (by kernel_rfl)
theorem ent54 : Enters Try.prog 54 := enters_of Try.func54 (by kernel_rfl) (by kernel_rfl)
theorem ent55 : Enters Try.prog 55 := enters_of Try.func55 (by kernel_rfl) (by kernel_rfl)
theorem ent56 : Enters Try.prog 56 := enters_of Try.func56 (by kernel_rfl) (by kernel_rfl)
theorem ent57 : Enters Try.prog 57 := enters_of Try.func57 (by kernel_rfl) (by kernel_rfl)
theorem ent58 : Enters Try.prog 58 := enters_of Try.func58 (by kernel_rfl) (by kernel_rfl)
theorem ent59 : Enters Try.prog 59 := enters_of Try.func59 (by kernel_rfl) (by kernel_rfl)
theorem ent60 : Enters Try.prog 60 := enters_of Try.func60 (by kernel_rfl) (by kernel_rfl)
theorem ent61 : Enters Try.prog 61 := enters_of Try.func61 (by kernel_rfl) (by kernel_rfl)
theorem ent62 : Enters Try.prog 62 := enters_of Try.func62 (by kernel_rfl) (by kernel_rfl)
theorem ent63 : Enters Try.prog 63 := enters_of Try.func63 (by kernel_rfl) (by kernel_rfl)
theorem ent64 : Enters Try.prog 64 := enters_of Try.func64 (by kernel_rfl) (by kernel_rfl)
theorem ent65 : Enters Try.prog 65 := enters_of Try.func65 (by kernel_rfl) (by kernel_rfl)
theorem ent66 : Enters Try.prog 66 := enters_of Try.func66 (by kernel_rfl) (by kernel_rfl)
theorem ent67 : Enters Try.prog 67 := enters_of Try.func67 (by kernel_rfl) (by kernel_rfl)
theorem ent68 : Enters Try.prog 68 := enters_of Try.func68 (by kernel_rfl) (by kernel_rfl)
theorem ent69 : Enters Try.prog 69 := enters_of Try.func69 (by kernel_rfl) (by kernel_rfl)
theorem ent70 : Enters Try.prog 70 := enters_of Try.func70 (by kernel_rfl) (by kernel_rfl)
theorem ent71 : Enters Try.prog 71 := enters_of Try.func71 (by kernel_rfl) (by kernel_rfl)
theorem ent72 : Enters Try.prog 72 := enters_of Try.func72 (by kernel_rfl) (by kernel_rfl)
theorem ent73 : Enters Try.prog 73 := enters_of Try.func73 (by kernel_rfl) (by kernel_rfl)
theorem ent74 : Enters Try.prog 74 := enters_of Try.func74 (by kernel_rfl) (by kernel_rfl)
theorem ent75 : Enters Try.prog 75 := enters_of Try.func75 (by kernel_rfl) (by kernel_rfl)
theorem ent76 : Enters Try.prog 76 := enters_of Try.func76 (by kernel_rfl) (by kernel_rfl)
theorem ent77 : Enters Try.prog 77 := enters_of Try.func77 (by kernel_rfl) (by kernel_rfl)
theorem ent78 : Enters Try.prog 78 := enters_of Try.func78 (by kernel_rfl) (by kernel_rfl)
theorem ent79 : Enters Try.prog 79 := enters_of Try.func79 (by kernel_rfl) (by kernel_rfl)
theorem ent80 : Enters Try.prog 80 := enters_of Try.func80 (by kernel_rfl) (by kernel_rfl)
theorem ent81 : Enters Try.prog 81 := enters_of Try.func81 (by kernel_rfl) (by kernel_rfl)
theorem ent82 : Enters Try.prog 82 := enters_of Try.func82 (by kernel_rfl) (by kernel_rfl)
theorem ent83 : Enters Try.prog 83 := enters_of Try.func83 (by kernel_rfl) (by kernel_rfl)
theorem ent84 : Enters Try.prog 84 := enters_of Try.func84 (by kernel_rfl) (by kernel_rfl)
theorem ent85 : Enters Try.prog 85 := enters_of Try.func85 (by kernel_rfl) (by kernel_rfl)
theorem ent86 : Enters Try.prog 86 := enters_of Try.func86 (by kernel_rfl) (by kernel_rfl)
theorem ent87 : Enters Try.prog 87 := enters_of Try.func87 (by kernel_rfl) (by kernel_rfl)
theorem ent88 : Enters Try.prog 88 := enters_of Try.func88 (by kernel_rfl) (by kernel_rfl)
theorem ent89 : Enters Try.prog 89 := enters_of Try.func89 (by kernel_rfl) (by kernel_rfl)
theorem ent90 : Enters Try.prog 90 := enters_of Try.func90 (by kernel_rfl) (by kernel_rfl)
theorem ent91 : Enters Try.prog 91 := enters_of Try.func91 (by kernel_rfl) (by kernel_rfl)
theorem ent92 : Enters Try.prog 92 := enters_of Try.func92 (by kernel_rfl) (by kernel_rfl)
theorem ent93 : Enters Try.prog 93 := enters_of Try.func93 (by kernel_rfl) (by kernel_rfl)
theorem ent94 : Enters Try.prog 94 := enters_of Try.func94 (by kernel_rfl) (by kernel_rfl)
theorem ent95 : Enters Try.prog 95 := enters_of Try.func95 (by kernel_rfl) (by kernel_rfl)
theorem ent96 : Enters Try.prog 96 := enters_of Try.func96 (by kernel_rfl) (by kernel_rfl)
theorem ent97 : Enters Try.prog 97 := enters_of Try.func97 (by kernel_rfl) (by kernel_rfl)
theorem ent98 : Enters Try.prog 98 := enters_of Try.func98 (by kernel_rfl) (by kernel_rfl)
theorem ent99 : Enters Try.prog 99 := enters_of Try.func99 (by kernel_rfl) (by kernel_rfl)
theorem ent100 : Enters Try.prog 100 := enters_of Try.func100 (by kernel_rfl) (by kernel_rfl)
theorem ent101 : Enters Try.prog 101 := enters_of Try.func101 (by kernel_rfl) (by kernel_rfl)
theorem ent102 : Enters Try.prog 102 := enters_of Try.func102 (by kernel_rfl) (by kernel_rfl)
theorem ent103 : Enters Try.prog 103 := enters_of Try.func103 (by kernel_rfl) (by kernel_rfl)
theorem ent104 : Enters Try.prog 104 := enters_of Try.func104 (by kernel_rfl) (by kernel_rfl)
theorem ent105 : Enters Try.prog 105 := enters_of Try.func105 (by kernel_rfl) (by kernel_rfl)
theorem ent106 : Enters Try.prog 106 := enters_of Try.func106 (by kernel_rfl) (by kernel_rfl)
theorem ent107 : Enters Try.prog 107 := enters_of Try.func107 (by kernel_rfl) (by kernel_rfl)
theorem ent108 : Enters Try.prog 108 := enters_of Try.func108 (by kernel_rfl) (by kernel_rfl)
theorem ent109 : Enters Try.prog 109 := enters_of Try.func109 (by kernel_rfl) (by kernel_rfl)
theorem ent110 : Enters Try.prog 110 := enters_of Try.func110 (by kernel_rfl) (by kernel_rfl)
theorem ent111 : Enters Try.prog 111 := enters_of Try.func111 (by kernel_rfl) (by kernel_rfl)
theorem ent112 : Enters Try.prog 112 := enters_of Try.func112 (by kernel_rfl) (by kernel_rfl)
theorem ent113 : Enters Try.prog 113 := enters_of Try.func113 (by kernel_rfl) (by kernel_rfl)
theorem ent114 : Enters Try.prog 114 := enters_of Try.func114 (by kernel_rfl) (by kernel_rfl)
theorem ent115 : Enters Try.prog 115 := enters_of Try.func115 (by kernel_rfl) (by kernel_rfl)
theorem ent116 : Enters Try.prog 116 := enters_of Try.func116 (by kernel_rfl) (by kernel_rfl)
theorem ent117 : Enters Try.prog 117 := enters_of Try.func117 (by kernel_rfl) (by kernel_rfl)
theorem ent118 : Enters Try.prog 118 := enters_of Try.func118 (by kernel_rfl) (by kernel_rfl)
theorem ent119 : Enters Try.prog 119 := enters_of Try.func119 (by kernel_rfl) (by kernel_rfl)
theorem ent120 : Enters Try.prog 120 := enters_of Try.func120 (by kernel_rfl) (by kernel_rfl)
theorem ent121 : Enters Try.prog 121 := enters_of Try.func121 (by kernel_rfl) (by kernel_rfl)
theorem ent122 : Enters Try.prog 122 := enters_of Try.func122 (by kernel_rfl) (by kernel_rfl)
theorem ent123 : Enters Try.prog 123 := enters_of Try.func123 (by kernel_rfl) (by kernel_rfl)
theorem ent124 : Enters Try.prog 124 := enters_of Try.func124 (by kernel_rfl) (by kernel_rfl)
theorem ent125 : Enters Try.prog 125 := enters_of Try.func125 (by kernel_rfl) (by kernel_rfl)
theorem ent126 : Enters Try.prog 126 := enters_of Try.func126 (by kernel_rfl) (by kernel_rfl)
theorem ent127 : Enters Try.prog 127 := enters_of Try.func127 (by kernel_rfl) (by kernel_rfl)
theorem ent128 : Enters Try.prog 128 := enters_of Try.func128 (by kernel_rfl) (by kernel_rfl)
theorem ent129 : Enters Try.prog 129 := enters_of Try.func129 (by kernel_rfl) (by kernel_rfl)
theorem ent130 : Enters Try.prog 130 := enters_of Try.func130 (by kernel_rfl) (by kernel_rfl)
theorem ent131 : Enters Try.prog 131 := enters_of Try.func131 (by kernel_rfl) (by kernel_rfl)
theorem ent132 : Enters Try.prog 132 := enters_of Try.func132 (by kernel_rfl) (by kernel_rfl)
theorem ent133 : Enters Try.prog 133 := enters_of Try.func133 (by kernel_rfl) (by kernel_rfl)
theorem ent134 : Enters Try.prog 134 := enters_of Try.func134 (by kernel_rfl) (by kernel_rfl)
theorem ent135 : Enters Try.prog 135 := enters_of Try.func135 (by kernel_rfl) (by kernel_rfl)
theorem ent136 : Enters Try.prog 136 := enters_of Try.func136 (by kernel_rfl) (by kernel_rfl)
theorem ent137 : Enters Try.prog 137 := enters_of Try.func137 (by kernel_rfl) (by kernel_rfl)
theorem ent138 : Enters Try.prog 138 := enters_of Try.func138 (by kernel_rfl) (by kernel_rfl)
theorem ent139 : Enters Try.prog 139 := enters_of Try.func139 (by kernel_rfl) (by kernel_rfl)
theorem ent140 : Enters Try.prog 140 := enters_of Try.func140 (by kernel_rfl) (by kernel_rfl)
theorem ent141 : Enters Try.prog 141 := enters_of Try.func141 (by kernel_rfl) (by kernel_rfl)
theorem ent142 : Enters Try.prog 142 := enters_of Try.func142 (by kernel_rfl) (by kernel_rfl)
theorem ent143 : Enters Try.prog 143 := enters_of Try.func143 (by kernel_rfl) (by kernel_rfl)
theorem ent144 : Enters Try.prog 144 := enters_of Try.func144 (by kernel_rfl) (by kernel_rfl)
theorem ent145 : Enters Try.prog 145 := enters_of Try.func145 (by kernel_rfl) (by kernel_rfl)
theorem ent146 : Enters Try.prog 146 := enters_of Try.func146 (by kernel_rfl) (by kernel_rfl)
theorem ent147 : Enters Try.prog 147 := enters_of Try.func147 (by kernel_rfl) (by kernel_rfl)
theorem ent148 : Enters Try.prog 148 := enters_of Try.func148 (by kernel_rfl) (by kernel_rfl)
theorem ent149 : Enters Try.prog 149 := enters_of Try.func149 (by kernel_rfl) (by kernel_rfl)
theorem ent150 : Enters Try.prog 150 := enters_of Try.func150 (by kernel_rfl) (by kernel_rfl)
theorem ent151 : Enters Try.prog 151 := enters_of Try.func151 (by kernel_rfl) (by kernel_rfl)
theorem ent152 : Enters Try.prog 152 := enters_of Try.func152 (by kernel_rfl) (by kernel_rfl)
theorem ent153 : Enters Try.prog 153 := enters_of Try.func153 (by kernel_rfl) (by kernel_rfl)
theorem ent154 : Enters Try.prog 154 := enters_of Try.func154 (by kernel_rfl) (by kernel_rfl)
theorem ent155 : Enters Try.prog 155 := enters_of Try.func155 (by kernel_rfl) (by kernel_rfl)
theorem ent156 : Enters Try.prog 156 := enters_of Try.func156 (by kernel_rfl) (by kernel_rfl)
theorem ent157 : Enters Try.prog 157 := enters_of Try.func157 (by kernel_rfl) (by kernel_rfl)
theorem ent158 : Enters Try.prog 158 := enters_of Try.func158 (by kernel_rfl) (by kernel_rfl)
theorem ent159 : Enters Try.prog 159 := enters_of Try.func159 (by kernel_rfl) (by kernel_rfl)
theorem ent160 : Enters Try.prog 160 := enters_of Try.func160 (by kernel_rfl) (by kernel_rfl)
theorem ent161 : Enters Try.prog 161 := enters_of Try.func161 (by kernel_rfl) (by kernel_rfl)
theorem ent162 : Enters Try.prog 162 := enters_of Try.func162 (by kernel_rfl) (by kernel_rfl)
theorem ent164 : Enters Try.prog 164 := enters_of Try.func164 (by kernel_rfl) (by kernel_rfl)
theorem ent165 : Enters Try.prog 165 := enters_of Try.func165 (by kernel_rfl) (by kernel_rfl)
theorem ent166 : Enters Try.prog 166 := enters_of Try.func166 (by kernel_rfl) (by kernel_rfl)
theorem ent167 : Enters Try.prog 167 := enters_of Try.func167 (by kernel_rfl) (by kernel_rfl)
theorem ent168 : Enters Try.prog 168 := enters_of Try.func168 (by kernel_rfl) (by kernel_rfl)
theorem ent169 : Enters Try.prog 169 := enters_of Try.func169 (by kernel_rfl) (by kernel_rfl)
theorem ent170 : Enters Try.prog 170 := enters_of Try.func170 (by kernel_rfl) (by kernel_rfl)
theorem ent171 : Enters Try.prog 171 := enters_of Try.func171 (by kernel_rfl) (by kernel_rfl)
theorem ent172 : Enters Try.prog 172 := enters_of Try.func172 (by kernel_rfl) (by kernel_rfl)
theorem ent173 : Enters Try.prog 173 := enters_of Try.func173 (by kernel_rfl) (by kernel_rfl)
theorem ent174 : Enters Try.prog 174 := enters_of Try.func174 (by kernel_rfl) (by kernel_rfl)
theorem ent175 : Enters Try.prog 175 := enters_of Try.func175 (by kernel_rfl) (by kernel_rfl)
theorem ent176 : Enters Try.prog 176 := enters_of Try.func176 (by kernel_rfl) (by kernel_rfl)
theorem ent177 : Enters Try.prog 177 := enters_of Try.func177 (by kernel_rfl) (by kernel_rfl)
theorem ent178 : Enters Try.prog 178 := enters_of Try.func178 (by kernel_rfl) (by kernel_rfl)
theorem ent179 : Enters Try.prog 179 := enters_of Try.func179 (by kernel_rfl) (by kernel_rfl)
theorem ent180 : Enters Try.prog 180 := enters_of Try.func180 (by kernel_rfl) (by kernel_rfl)
theorem ent181 : Enters Try.prog 181 := enters_of Try.func181 (by kernel_rfl) (by kernel_rfl)
end Go.Proofs.Ytnobijngkpflcaa
