/-
  Closed facts on the types and functions of the translation, one by one.
-/
import Derived.Test.YtipdogbeoflkoaaProg
import Derived.Test.YtipdogbeoflkoaaEngF
import Derived.KernelRfl
namespace Go.Proofs.Ytipdogbeoflkoaa
open Go.Eng
theorem mixed : Try.prog.follows .mixedOrders = true := by kernel_rfl
theorem sz2 : szOf Try.prog 2 = some 1 := by kernel_rfl
theorem agg2 : aggB Try.prog 2 = some false := by kernel_rfl
theorem inf2 : inf Try.prog 2 1 8 := inf_of (by kernel_rfl)
theorem z2 : zeroOf Try.prog 2 = some ((.int .i64 (0))) := by kernel_rfl
theorem sz3 : szOf Try.prog 3 = some 1 := by kernel_rfl
theorem agg3 : aggB Try.prog 3 = some false := by kernel_rfl
theorem inf3 : inf Try.prog 3 1 8 := inf_of (by kernel_rfl)
theorem z3 : zeroOf Try.prog 3 = some ((.int .i64 (0))) := by kernel_rfl
theorem sz4 : szOf Try.prog 4 = some 1 := by kernel_rfl
theorem agg4 : aggB Try.prog 4 = some false := by kernel_rfl
theorem z4 : zeroOf Try.prog 4 = some ((.bool (false))) := by kernel_rfl
theorem sz5 : szOf Try.prog 5 = some 1 := by kernel_rfl
theorem agg5 : aggB Try.prog 5 = some false := by kernel_rfl
theorem inf5 : inf Try.prog 5 1 1 := inf_of (by kernel_rfl)
theorem z5 : zeroOf Try.prog 5 = some ((.int .u8 (0))) := by kernel_rfl
theorem sz6 : szOf Try.prog 6 = some 1 := by kernel_rfl
theorem agg6 : aggB Try.prog 6 = some false := by kernel_rfl
theorem inf6 : inf Try.prog 6 1 1 := inf_of (by kernel_rfl)
theorem z6 : zeroOf Try.prog 6 = some ((.int .u8 (0))) := by kernel_rfl
theorem sz7 : szOf Try.prog 7 = some 4 := by kernel_rfl
theorem agg7 : aggB Try.prog 7 = some true := by kernel_rfl
theorem pl7 {fs : Array Field} (h : Try.prog.underlying 7 = some (.struct fs)) : (fs.toList.all fun f => (szOf Try.prog f.type).isSome) = true ∧ placesOf Try.prog fs.toList = [(0, 1), (1, 1), (2, 1), (3, 1)] := by
  rw [Try.underlying7] at h; cases h; exact ⟨by kernel_rfl, by kernel_rfl⟩
theorem z7 : zeroOf Try.prog 7 = some (.agg #[(.int .i64 (0)), (.int .i64 (0)), (.bool (false)), (.int .u8 (0))]) := by kernel_rfl
theorem sz8 : szOf Try.prog 8 = some 4 := by kernel_rfl
theorem agg8 : aggB Try.prog 8 = some true := by kernel_rfl
theorem pl8 {fs : Array Field} (h : Try.prog.underlying 8 = some (.struct fs)) : (fs.toList.all fun f => (szOf Try.prog f.type).isSome) = true ∧ placesOf Try.prog fs.toList = [(0, 1), (1, 1), (2, 1), (3, 1)] := by
  rw [Try.underlying8] at h; cases h; exact ⟨by kernel_rfl, by kernel_rfl⟩
theorem inf8 : inf Try.prog 8 4 24 := inf_of (by kernel_rfl)
theorem z8 : zeroOf Try.prog 8 = some (.agg #[(.int .i64 (0)), (.int .i64 (0)), (.bool (false)), (.int .u8 (0))]) := by kernel_rfl
theorem sz9 : szOf Try.prog 9 = some 1 := by kernel_rfl
theorem agg9 : aggB Try.prog 9 = some false := by kernel_rfl
theorem inf9 : inf Try.prog 9 1 16 := inf_of (by kernel_rfl)
theorem z9 : zeroOf Try.prog 9 = some ((.string (⟨#[]⟩))) := by kernel_rfl
theorem sz10 : szOf Try.prog 10 = some 1 := by kernel_rfl
theorem agg10 : aggB Try.prog 10 = some false := by kernel_rfl
theorem inf10 : inf Try.prog 10 1 16 := inf_of (by kernel_rfl)
theorem z10 : zeroOf Try.prog 10 = some ((.string (⟨#[]⟩))) := by kernel_rfl
theorem sz11 : szOf Try.prog 11 = some 1 := by kernel_rfl
theorem agg11 : aggB Try.prog 11 = some false := by kernel_rfl
theorem inf11 : inf Try.prog 11 1 16 := inf_of (by kernel_rfl)
theorem z11 : zeroOf Try.prog 11 = some ((.string (⟨#[]⟩))) := by kernel_rfl
theorem sz12 : szOf Try.prog 12 = some 1 := by kernel_rfl
theorem agg12 : aggB Try.prog 12 = some false := by kernel_rfl
theorem z12 : zeroOf Try.prog 12 = some ((.int .u64 (0))) := by kernel_rfl
theorem sz13 : szOf Try.prog 13 = some 2 := by kernel_rfl
theorem agg13 : aggB Try.prog 13 = some true := by kernel_rfl
theorem pl13 {fs : Array Field} (h : Try.prog.underlying 13 = some (.struct fs)) : (fs.toList.all fun f => (szOf Try.prog f.type).isSome) = true ∧ placesOf Try.prog fs.toList = [(0, 1), (1, 1)] := by
  rw [Try.underlying13] at h; cases h; exact ⟨by kernel_rfl, by kernel_rfl⟩
theorem z13 : zeroOf Try.prog 13 = some (.agg #[(.string (⟨#[]⟩)), (.int .u64 (0))]) := by kernel_rfl
theorem sz14 : szOf Try.prog 14 = some 2 := by kernel_rfl
theorem agg14 : aggB Try.prog 14 = some true := by kernel_rfl
theorem pl14 {fs : Array Field} (h : Try.prog.underlying 14 = some (.struct fs)) : (fs.toList.all fun f => (szOf Try.prog f.type).isSome) = true ∧ placesOf Try.prog fs.toList = [(0, 1), (1, 1)] := by
  rw [Try.underlying14] at h; cases h; exact ⟨by kernel_rfl, by kernel_rfl⟩
theorem inf14 : inf Try.prog 14 2 24 := inf_of (by kernel_rfl)
theorem z14 : zeroOf Try.prog 14 = some (.agg #[(.string (⟨#[]⟩)), (.int .u64 (0))]) := by kernel_rfl
theorem sz15 : szOf Try.prog 15 = some 1 := by kernel_rfl
theorem agg15 : aggB Try.prog 15 = some false := by kernel_rfl
theorem z15 : zeroOf Try.prog 15 = some ((.pointer none)) := by kernel_rfl
theorem sz16 : szOf Try.prog 16 = some 1 := by kernel_rfl
theorem agg16 : aggB Try.prog 16 = some false := by kernel_rfl
theorem z16 : zeroOf Try.prog 16 = some ((.pointer none)) := by kernel_rfl
theorem sz17 : szOf Try.prog 17 = some 1 := by kernel_rfl
theorem agg17 : aggB Try.prog 17 = some false := by kernel_rfl
theorem z17 : zeroOf Try.prog 17 = some ((.pointer none)) := by kernel_rfl
theorem sz18 : szOf Try.prog 18 = some 1 := by kernel_rfl
theorem agg18 : aggB Try.prog 18 = some true := by kernel_rfl
theorem pl18 {fs : Array Field} (h : Try.prog.underlying 18 = some (.struct fs)) : (fs.toList.all fun f => (szOf Try.prog f.type).isSome) = true ∧ placesOf Try.prog fs.toList = [(0, 1)] := by
  rw [Try.underlying18] at h; cases h; exact ⟨by kernel_rfl, by kernel_rfl⟩
theorem z18 : zeroOf Try.prog 18 = some (.agg #[(.pointer none)]) := by kernel_rfl
theorem sz19 : szOf Try.prog 19 = some 1 := by kernel_rfl
theorem agg19 : aggB Try.prog 19 = some true := by kernel_rfl
theorem pl19 {fs : Array Field} (h : Try.prog.underlying 19 = some (.struct fs)) : (fs.toList.all fun f => (szOf Try.prog f.type).isSome) = true ∧ placesOf Try.prog fs.toList = [(0, 1)] := by
  rw [Try.underlying19] at h; cases h; exact ⟨by kernel_rfl, by kernel_rfl⟩
theorem inf19 : inf Try.prog 19 1 8 := inf_of (by kernel_rfl)
theorem z19 : zeroOf Try.prog 19 = some (.agg #[(.pointer none)]) := by kernel_rfl
theorem sz21 : szOf Try.prog 21 = some 1 := by kernel_rfl
theorem agg21 : aggB Try.prog 21 = some false := by kernel_rfl
theorem z21 : zeroOf Try.prog 21 = some ((.int .i32 (0))) := by kernel_rfl
theorem sz23 : szOf Try.prog 23 = some 1 := by kernel_rfl
theorem agg23 : aggB Try.prog 23 = some false := by kernel_rfl
theorem z23 : zeroOf Try.prog 23 = some ((.slice none 0 0)) := by kernel_rfl
theorem sz25 : szOf Try.prog 25 = some 1 := by kernel_rfl
theorem agg25 : aggB Try.prog 25 = some false := by kernel_rfl
theorem z25 : zeroOf Try.prog 25 = some ((.slice none 0 0)) := by kernel_rfl
theorem sz26 : szOf Try.prog 26 = some 2 := by kernel_rfl
theorem agg26 : aggB Try.prog 26 = some true := by kernel_rfl
theorem pl26 {fs : Array Field} (h : Try.prog.underlying 26 = some (.struct fs)) : (fs.toList.all fun f => (szOf Try.prog f.type).isSome) = true ∧ placesOf Try.prog fs.toList = [(0, 1), (1, 1)] := by
  rw [Try.underlying26] at h; cases h; exact ⟨by kernel_rfl, by kernel_rfl⟩
theorem z26 : zeroOf Try.prog 26 = some (.agg #[(.int .i64 (0)), (.slice none 0 0)]) := by kernel_rfl
theorem sz27 : szOf Try.prog 27 = some 2 := by kernel_rfl
theorem agg27 : aggB Try.prog 27 = some true := by kernel_rfl
theorem pl27 {fs : Array Field} (h : Try.prog.underlying 27 = some (.struct fs)) : (fs.toList.all fun f => (szOf Try.prog f.type).isSome) = true ∧ placesOf Try.prog fs.toList = [(0, 1), (1, 1)] := by
  rw [Try.underlying27] at h; cases h; exact ⟨by kernel_rfl, by kernel_rfl⟩
theorem inf27 : inf Try.prog 27 2 32 := inf_of (by kernel_rfl)
theorem z27 : zeroOf Try.prog 27 = some (.agg #[(.int .i64 (0)), (.slice none 0 0)]) := by kernel_rfl
theorem sz28 : szOf Try.prog 28 = some 1 := by kernel_rfl
theorem agg28 : aggB Try.prog 28 = some false := by kernel_rfl
theorem inf28 : inf Try.prog 28 1 8 := inf_of (by kernel_rfl)
theorem z28 : zeroOf Try.prog 28 = some ((.int .i64 (0))) := by kernel_rfl
theorem sz31 : szOf Try.prog 31 = some 1 := by kernel_rfl
theorem agg31 : aggB Try.prog 31 = some false := by kernel_rfl
theorem z31 : zeroOf Try.prog 31 = some ((.slice none 0 0)) := by kernel_rfl
theorem sz32 : szOf Try.prog 32 = some 5 := by kernel_rfl
theorem agg32 : aggB Try.prog 32 = some true := by kernel_rfl
theorem pl32 {fs : Array Field} (h : Try.prog.underlying 32 = some (.struct fs)) : (fs.toList.all fun f => (szOf Try.prog f.type).isSome) = true ∧ placesOf Try.prog fs.toList = [(0, 1), (1, 1), (2, 1), (3, 1), (4, 1)] := by
  rw [Try.underlying32] at h; cases h; exact ⟨by kernel_rfl, by kernel_rfl⟩
theorem z32 : zeroOf Try.prog 32 = some (.agg #[(.int .u8 (0)), (.int .i64 (0)), (.string (⟨#[]⟩)), (.slice none 0 0), (.slice none 0 0)]) := by kernel_rfl
theorem sz33 : szOf Try.prog 33 = some 5 := by kernel_rfl
theorem agg33 : aggB Try.prog 33 = some true := by kernel_rfl
theorem pl33 {fs : Array Field} (h : Try.prog.underlying 33 = some (.struct fs)) : (fs.toList.all fun f => (szOf Try.prog f.type).isSome) = true ∧ placesOf Try.prog fs.toList = [(0, 1), (1, 1), (2, 1), (3, 1), (4, 1)] := by
  rw [Try.underlying33] at h; cases h; exact ⟨by kernel_rfl, by kernel_rfl⟩
theorem inf33 : inf Try.prog 33 5 80 := inf_of (by kernel_rfl)
theorem z33 : zeroOf Try.prog 33 = some (.agg #[(.int .u8 (0)), (.int .i64 (0)), (.string (⟨#[]⟩)), (.slice none 0 0), (.slice none 0 0)]) := by kernel_rfl
theorem sz36 : szOf Try.prog 36 = some 6 := by kernel_rfl
theorem agg36 : aggB Try.prog 36 = some true := by kernel_rfl
theorem pl36 {fs : Array Field} (h : Try.prog.underlying 36 = some (.struct fs)) : (fs.toList.all fun f => (szOf Try.prog f.type).isSome) = true ∧ placesOf Try.prog fs.toList = [(0, 5), (5, 1)] := by
  rw [Try.underlying36] at h; cases h; exact ⟨by kernel_rfl, by kernel_rfl⟩
theorem z36 : zeroOf Try.prog 36 = some (.agg #[(.int .u8 (0)), (.int .i64 (0)), (.string (⟨#[]⟩)), (.slice none 0 0), (.slice none 0 0), (.int .i64 (0))]) := by kernel_rfl
theorem sz38 : szOf Try.prog 38 = some 1 := by kernel_rfl
theorem agg38 : aggB Try.prog 38 = some false := by kernel_rfl
theorem z38 : zeroOf Try.prog 38 = some ((.slice none 0 0)) := by kernel_rfl
theorem sz40 : szOf Try.prog 40 = some 1 := by kernel_rfl
theorem agg40 : aggB Try.prog 40 = some false := by kernel_rfl
theorem z40 : zeroOf Try.prog 40 = some ((.pointer none)) := by kernel_rfl
theorem sz47 : szOf Try.prog 47 = some 1 := by kernel_rfl
theorem agg47 : aggB Try.prog 47 = some false := by kernel_rfl
theorem z47 : zeroOf Try.prog 47 = some ((.int .u64 (0))) := by kernel_rfl
theorem sz52 : szOf Try.prog 52 = some 1 := by kernel_rfl
theorem agg52 : aggB Try.prog 52 = some false := by kernel_rfl
theorem z52 : zeroOf Try.prog 52 = some ((.slice none 0 0)) := by kernel_rfl
theorem sz54 : szOf Try.prog 54 = some 6 := by kernel_rfl
theorem agg54 : aggB Try.prog 54 = some true := by kernel_rfl
theorem pl54 {fs : Array Field} (h : Try.prog.underlying 54 = some (.struct fs)) : (fs.toList.all fun f => (szOf Try.prog f.type).isSome) = true ∧ placesOf Try.prog fs.toList = [(0, 1), (1, 5)] := by
  rw [Try.underlying54] at h; cases h; exact ⟨by kernel_rfl, by kernel_rfl⟩
theorem z54 : zeroOf Try.prog 54 = some (.agg #[(.string (⟨#[]⟩)), (.int .u8 (0)), (.int .i64 (0)), (.string (⟨#[]⟩)), (.slice none 0 0), (.slice none 0 0)]) := by kernel_rfl
theorem sz55 : szOf Try.prog 55 = some 6 := by kernel_rfl
theorem agg55 : aggB Try.prog 55 = some true := by kernel_rfl
theorem pl55 {fs : Array Field} (h : Try.prog.underlying 55 = some (.struct fs)) : (fs.toList.all fun f => (szOf Try.prog f.type).isSome) = true ∧ placesOf Try.prog fs.toList = [(0, 1), (1, 5)] := by
  rw [Try.underlying55] at h; cases h; exact ⟨by kernel_rfl, by kernel_rfl⟩
theorem inf55 : inf Try.prog 55 6 96 := inf_of (by kernel_rfl)
theorem z55 : zeroOf Try.prog 55 = some (.agg #[(.string (⟨#[]⟩)), (.int .u8 (0)), (.int .i64 (0)), (.string (⟨#[]⟩)), (.slice none 0 0), (.slice none 0 0)]) := by kernel_rfl
theorem sz56 : szOf Try.prog 56 = some 1 := by kernel_rfl
theorem agg56 : aggB Try.prog 56 = some false := by kernel_rfl
theorem z56 : zeroOf Try.prog 56 = some ((.slice none 0 0)) := by kernel_rfl
theorem sz59 : szOf Try.prog 59 = some 6 := by kernel_rfl
theorem agg59 : aggB Try.prog 59 = some true := by kernel_rfl
theorem pl59 {fs : Array Field} (h : Try.prog.underlying 59 = some (.struct fs)) : (fs.toList.all fun f => (szOf Try.prog f.type).isSome) = true ∧ placesOf Try.prog fs.toList = [(0, 1), (1, 5)] := by
  rw [Try.underlying59] at h; cases h; exact ⟨by kernel_rfl, by kernel_rfl⟩
theorem inf59 : inf Try.prog 59 6 96 := inf_of (by kernel_rfl)
theorem z59 : zeroOf Try.prog 59 = some (.agg #[(.string (⟨#[]⟩)), (.int .u8 (0)), (.int .i64 (0)), (.string (⟨#[]⟩)), (.slice none 0 0), (.slice none 0 0)]) := by kernel_rfl
theorem sz67 : szOf Try.prog 67 = some 1 := by kernel_rfl
theorem agg67 : aggB Try.prog 67 = some false := by kernel_rfl
theorem z67 : zeroOf Try.prog 67 = some ((.map none)) := by kernel_rfl
theorem sz68 : szOf Try.prog 68 = some 7 := by kernel_rfl
theorem agg68 : aggB Try.prog 68 = some true := by kernel_rfl
theorem pl68 {fs : Array Field} (h : Try.prog.underlying 68 = some (.struct fs)) : (fs.toList.all fun f => (szOf Try.prog f.type).isSome) = true ∧ placesOf Try.prog fs.toList = [(0, 5), (5, 1), (6, 1)] := by
  rw [Try.underlying68] at h; cases h; exact ⟨by kernel_rfl, by kernel_rfl⟩
theorem z68 : zeroOf Try.prog 68 = some (.agg #[(.int .u8 (0)), (.int .i64 (0)), (.string (⟨#[]⟩)), (.slice none 0 0), (.slice none 0 0), (.map none), (.int .i64 (0))]) := by kernel_rfl
theorem sz69 : szOf Try.prog 69 = some 7 := by kernel_rfl
theorem agg69 : aggB Try.prog 69 = some true := by kernel_rfl
theorem pl69 {fs : Array Field} (h : Try.prog.underlying 69 = some (.struct fs)) : (fs.toList.all fun f => (szOf Try.prog f.type).isSome) = true ∧ placesOf Try.prog fs.toList = [(0, 5), (5, 1), (6, 1)] := by
  rw [Try.underlying69] at h; cases h; exact ⟨by kernel_rfl, by kernel_rfl⟩
theorem inf69 : inf Try.prog 69 7 96 := inf_of (by kernel_rfl)
theorem z69 : zeroOf Try.prog 69 = some (.agg #[(.int .u8 (0)), (.int .i64 (0)), (.string (⟨#[]⟩)), (.slice none 0 0), (.slice none 0 0), (.map none), (.int .i64 (0))]) := by kernel_rfl
theorem sz74 : szOf Try.prog 74 = some 1 := by kernel_rfl
theorem agg74 : aggB Try.prog 74 = some false := by kernel_rfl
theorem z74 : zeroOf Try.prog 74 = some ((.slice none 0 0)) := by kernel_rfl
theorem sz81 : szOf Try.prog 81 = some 1 := by kernel_rfl
theorem agg81 : aggB Try.prog 81 = some false := by kernel_rfl
theorem z81 : zeroOf Try.prog 81 = some ((.pointer none)) := by kernel_rfl
theorem sz98 : szOf Try.prog 98 = some 1 := by kernel_rfl
theorem agg98 : aggB Try.prog 98 = some false := by kernel_rfl
theorem z98 : zeroOf Try.prog 98 = some ((.pointer none)) := by kernel_rfl
theorem sz108 : szOf Try.prog 108 = some 1 := by kernel_rfl
theorem agg108 : aggB Try.prog 108 = some false := by kernel_rfl
theorem inf108 : inf Try.prog 108 1 8 := inf_of (by kernel_rfl)
theorem z108 : zeroOf Try.prog 108 = some ((.int .i64 (0))) := by kernel_rfl
theorem sz115 : szOf Try.prog 115 = some 1 := by kernel_rfl
theorem agg115 : aggB Try.prog 115 = some false := by kernel_rfl
theorem z115 : zeroOf Try.prog 115 = some ((.int .u32 (0))) := by kernel_rfl
theorem sz117 : szOf Try.prog 117 = some 1 := by kernel_rfl
theorem agg117 : aggB Try.prog 117 = some false := by kernel_rfl
theorem z117 : zeroOf Try.prog 117 = some ((.int .u64 (0))) := by kernel_rfl
theorem sz121 : szOf Try.prog 121 = some 1 := by kernel_rfl
theorem agg121 : aggB Try.prog 121 = some false := by kernel_rfl
theorem inf121 : inf Try.prog 121 1 8 := inf_of (by kernel_rfl)
theorem z121 : zeroOf Try.prog 121 = some ((.int .u64 (0))) := by kernel_rfl
theorem sz127 : szOf Try.prog 127 = some 1 := by kernel_rfl
theorem agg127 : aggB Try.prog 127 = some false := by kernel_rfl
theorem z127 : zeroOf Try.prog 127 = some ((.pointer none)) := by kernel_rfl
theorem sz132 : szOf Try.prog 132 = some 4 := by kernel_rfl
theorem agg132 : aggB Try.prog 132 = some true := by kernel_rfl
theorem pl132 {fs : Array Field} (h : Try.prog.underlying 132 = some (.struct fs)) : (fs.toList.all fun f => (szOf Try.prog f.type).isSome) = true ∧ placesOf Try.prog fs.toList = [(0, 1), (1, 1), (2, 1), (3, 1)] := by
  rw [Try.underlying132] at h; cases h; exact ⟨by kernel_rfl, by kernel_rfl⟩
theorem z132 : zeroOf Try.prog 132 = some (.agg #[(.pointer none), (.pointer none), (.pointer none), (.string (⟨#[]⟩))]) := by kernel_rfl
theorem sz133 : szOf Try.prog 133 = some 4 := by kernel_rfl
theorem agg133 : aggB Try.prog 133 = some true := by kernel_rfl
theorem pl133 {fs : Array Field} (h : Try.prog.underlying 133 = some (.struct fs)) : (fs.toList.all fun f => (szOf Try.prog f.type).isSome) = true ∧ placesOf Try.prog fs.toList = [(0, 1), (1, 1), (2, 1), (3, 1)] := by
  rw [Try.underlying133] at h; cases h; exact ⟨by kernel_rfl, by kernel_rfl⟩
theorem inf133 : inf Try.prog 133 4 40 := inf_of (by kernel_rfl)
theorem z133 : zeroOf Try.prog 133 = some (.agg #[(.pointer none), (.pointer none), (.pointer none), (.string (⟨#[]⟩))]) := by kernel_rfl
theorem sz134 : szOf Try.prog 134 = some 0 := by kernel_rfl
theorem agg134 : aggB Try.prog 134 = some true := by kernel_rfl
theorem sz135 : szOf Try.prog 135 = some 0 := by kernel_rfl
theorem agg135 : aggB Try.prog 135 = some true := by kernel_rfl
theorem pl135 {fs : Array Field} (h : Try.prog.underlying 135 = some (.struct fs)) : (fs.toList.all fun f => (szOf Try.prog f.type).isSome) = true ∧ placesOf Try.prog fs.toList = [(0, 0)] := by
  rw [Try.underlying135] at h; cases h; exact ⟨by kernel_rfl, by kernel_rfl⟩
theorem sz136 : szOf Try.prog 136 = some 0 := by kernel_rfl
theorem agg136 : aggB Try.prog 136 = some true := by kernel_rfl
theorem pl136 {fs : Array Field} (h : Try.prog.underlying 136 = some (.struct fs)) : (fs.toList.all fun f => (szOf Try.prog f.type).isSome) = true ∧ placesOf Try.prog fs.toList = [(0, 0)] := by
  rw [Try.underlying136] at h; cases h; exact ⟨by kernel_rfl, by kernel_rfl⟩
theorem sz138 : szOf Try.prog 138 = some 1 := by kernel_rfl
theorem agg138 : aggB Try.prog 138 = some false := by kernel_rfl
theorem inf138 : inf Try.prog 138 1 1 := inf_of (by kernel_rfl)
theorem z138 : zeroOf Try.prog 138 = some ((.int .u8 (0))) := by kernel_rfl
theorem sz139 : szOf Try.prog 139 = some 1 := by kernel_rfl
theorem agg139 : aggB Try.prog 139 = some false := by kernel_rfl
theorem inf139 : inf Try.prog 139 1 1 := inf_of (by kernel_rfl)
theorem z139 : zeroOf Try.prog 139 = some ((.int .u8 (0))) := by kernel_rfl
theorem sz141 : szOf Try.prog 141 = some 1 := by kernel_rfl
theorem agg141 : aggB Try.prog 141 = some false := by kernel_rfl
theorem z141 : zeroOf Try.prog 141 = some ((.pointer none)) := by kernel_rfl
theorem sz142 : szOf Try.prog 142 = some 1 := by kernel_rfl
theorem agg142 : aggB Try.prog 142 = some false := by kernel_rfl
theorem inf142 : inf Try.prog 142 1 4 := inf_of (by kernel_rfl)
theorem z142 : zeroOf Try.prog 142 = some ((.int .i32 (0))) := by kernel_rfl
theorem sz143 : szOf Try.prog 143 = some 1 := by kernel_rfl
theorem agg143 : aggB Try.prog 143 = some false := by kernel_rfl
theorem inf143 : inf Try.prog 143 1 4 := inf_of (by kernel_rfl)
theorem z143 : zeroOf Try.prog 143 = some ((.int .i32 (0))) := by kernel_rfl
theorem sz144 : szOf Try.prog 144 = some 11 := by kernel_rfl
theorem agg144 : aggB Try.prog 144 = some true := by kernel_rfl
theorem pl144 {fs : Array Field} (h : Try.prog.underlying 144 = some (.struct fs)) : (fs.toList.all fun f => (szOf Try.prog f.type).isSome) = true ∧ placesOf Try.prog fs.toList = [(0, 1), (1, 1), (2, 1), (3, 1), (4, 1), (5, 1), (6, 1), (7, 1), (8, 1), (9, 1), (10, 1)] := by
  rw [Try.underlying144] at h; cases h; exact ⟨by kernel_rfl, by kernel_rfl⟩
theorem sz145 : szOf Try.prog 145 = some 11 := by kernel_rfl
theorem agg145 : aggB Try.prog 145 = some true := by kernel_rfl
theorem pl145 {fs : Array Field} (h : Try.prog.underlying 145 = some (.struct fs)) : (fs.toList.all fun f => (szOf Try.prog f.type).isSome) = true ∧ placesOf Try.prog fs.toList = [(0, 1), (1, 1), (2, 1), (3, 1), (4, 1), (5, 1), (6, 1), (7, 1), (8, 1), (9, 1), (10, 1)] := by
  rw [Try.underlying145] at h; cases h; exact ⟨by kernel_rfl, by kernel_rfl⟩
theorem inf145 : inf Try.prog 145 11 48 := inf_of (by kernel_rfl)
theorem ent3 : Enters Try.prog 3 := enters_of Try.func3 (by kernel_rfl) (by kernel_rfl)
theorem ent4 : Enters Try.prog 4 := enters_of Try.func4 (by kernel_rfl) (by kernel_rfl)
theorem ent5 : Enters Try.prog 5 := enters_of Try.func5 (by kernel_rfl) (by kernel_rfl)
theorem ent6 : Enters Try.prog 6 := enters_of Try.func6 (by kernel_rfl) (by kernel_rfl)
theorem ent7 : Enters Try.prog 7 := enters_of Try.func7 (by kernel_rfl) (by kernel_rfl)
theorem ent8 : Enters Try.prog 8 := enters_of Try.func8 (by kernel_rfl) (by kernel_rfl)
theorem ent9 : Enters Try.prog 9 := enters_of Try.func9 (by kernel_rfl) (by kernel_rfl)
theorem ent10 : Enters Try.prog 10 := enters_of Try.func10 (by kernel_rfl) (by kernel_rfl)
theorem ent11 : Enters Try.prog 11 := enters_of Try.func11 (by kernel_rfl) (by kernel_rfl)
theorem ent12 : Enters Try.prog 12 := enters_of Try.func12 (by kernel_rfl) (by kernel_rfl)
theorem ent13 : Enters Try.prog 13 := enters_of Try.func13 (by kernel_rfl) (by kernel_rfl)
theorem ent14 : Enters Try.prog 14 := enters_of Try.func14 (by kernel_rfl) (by kernel_rfl)
theorem ent15 : Enters Try.prog 15 := enters_of Try.func15 (by kernel_rfl) (by kernel_rfl)
theorem ent16 : Enters Try.prog 16 := enters_of Try.func16 (by kernel_rfl) (by kernel_rfl)
theorem ent17 : Enters Try.prog 17 := enters_of Try.func17 (by kernel_rfl) (by kernel_rfl)
theorem ent18 : Enters Try.prog 18 := enters_of Try.func18 (by kernel_rfl) (by kernel_rfl)
theorem ent19 : Enters Try.prog 19 := enters_of Try.func19 (by kernel_rfl) (by kernel_rfl)
theorem ent20 : Enters Try.prog 20 := enters_of Try.func20 (by kernel_rfl) (by kernel_rfl)
theorem ent21 : Enters Try.prog 21 := enters_of Try.func21 (by kernel_rfl) (by kernel_rfl)
theorem ent22 : Enters Try.prog 22 := enters_of Try.func22 (by kernel_rfl) (by kernel_rfl)
theorem ent23 : Enters Try.prog 23 := enters_of Try.func23 (by kernel_rfl) (by kernel_rfl)
theorem ent24 : Enters Try.prog 24 := enters_of Try.func24 (by kernel_rfl) (by kernel_rfl)
theorem ent25 : Enters Try.prog 25 := enters_of Try.func25 (by kernel_rfl) (by kernel_rfl)
theorem ent26 : Enters Try.prog 26 := enters_of Try.func26 (by kernel_rfl) (by kernel_rfl)
theorem ent27 : Enters Try.prog 27 := enters_of Try.func27 (by kernel_rfl) (by kernel_rfl)
theorem ent28 : Enters Try.prog 28 := enters_of Try.func28 (by kernel_rfl) (by kernel_rfl)
theorem ent29 : Enters Try.prog 29 := enters_of Try.func29 (by kernel_rfl) (by kernel_rfl)
theorem ent30 : Enters Try.prog 30 := enters_of Try.func30 (by kernel_rfl) (by kernel_rfl)
theorem ent31 : Enters Try.prog 31 := enters_of Try.func31 (by kernel_rfl) (by kernel_rfl)
theorem ent32 : Enters Try.prog 32 := enters_of Try.func32 (by kernel_rfl) (by kernel_rfl)
theorem ent33 : Enters Try.prog 33 := enters_of Try.func33 (by kernel_rfl) (by kernel_rfl)
theorem ent34 : Enters Try.prog 34 := enters_of Try.func34 (by kernel_rfl) (by kernel_rfl)
theorem ent35 : Enters Try.prog 35 := enters_of Try.func35 (by kernel_rfl) (by kernel_rfl)
theorem ent36 : Enters Try.prog 36 := enters_of Try.func36 (by kernel_rfl) (by kernel_rfl)
theorem ent37 : Enters Try.prog 37 := enters_of Try.func37 (by kernel_rfl) (by kernel_rfl)
theorem ent38 : Enters Try.prog 38 := enters_of Try.func38 (by kernel_rfl) (by kernel_rfl)
theorem ent39 : Enters Try.prog 39 := enters_of Try.func39 (by kernel_rfl) (by kernel_rfl)
theorem ent40 : Enters Try.prog 40 := enters_of Try.func40 (by kernel_rfl) (by kernel_rfl)
theorem ent41 : Enters Try.prog 41 := enters_of Try.func41 (by kernel_rfl) (by kernel_rfl)
theorem ent42 : Enters Try.prog 42 := enters_of Try.func42 (by kernel_rfl) (by kernel_rfl)
theorem ent43 : Enters Try.prog 43 := enters_of Try.func43 (by kernel_rfl) (by kernel_rfl)
theorem ent44 : Enters Try.prog 44 := enters_of Try.func44 (by kernel_rfl) (by kernel_rfl)
theorem ent45 : Enters Try.prog 45 := enters_of Try.func45 (by kernel_rfl) (by kernel_rfl)
theorem ent46 : Enters Try.prog 46 := enters_of Try.func46 (by kernel_rfl) (by kernel_rfl)
theorem ent47 : Enters Try.prog 47 := enters_of Try.func47 (by kernel_rfl) (by kernel_rfl)
theorem ent48 : Enters Try.prog 48 := enters_of Try.func48 (by kernel_rfl) (by kernel_rfl)
theorem ent49 : Enters Try.prog 49 := enters_of Try.func49 (by kernel_rfl) (by kernel_rfl)
theorem ent50 : Enters Try.prog 50 := enters_of Try.func50 (by kernel_rfl) (by kernel_rfl)
theorem ent51 : Enters Try.prog 51 := enters_of Try.func51 (by kernel_rfl) (by kernel_rfl)
theorem ent52 : Enters Try.prog 52 := enters_of Try.func52 (by kernel_rfl) (by kernel_rfl)
theorem ent53 : Enters Try.prog 53 := enters_of Try.func53 (by kernel_rfl) (by kernel_rfl)
theorem ent54 : Enters Try.prog 54 := enters_of Try.func54 (by kernel_rfl) (by kernel_rfl)
theorem ent55 : Enters Try.prog 55 := enters_of Try.func55 (by kernel_rfl) (by kernel_rfl)
theorem ent56 : Enters Try.prog 56 := enters_of Try.func56 (by kernel_rfl) (by kernel_rfl)
theorem ent57 : Enters Try.prog 57 := enters_of Try.func57 (by kernel_rfl) (by kernel_rfl)
theorem ent58 : Enters Try.prog 58 := enters_of Try.func58 (by kernel_rfl) (by kernel_rfl)
theorem ent59 : Enters Try.prog 59 := enters_of Try.func59 (by kernel_rfl) (by kernel_rfl)
theorem ent60 : Enters Try.prog 60 := enters_of Try.func60 (by kernel_rfl) (by kernel_rfl)
theorem ent61 : Enters Try.prog 61 := enters_of Try.func61 (by kernel_rfl) (by kernel_rfl)
theorem ent62 : Enters Try.prog 62 := enters_of Try.func62 (by kernel_rfl) (by kernel_rfl)
theorem ent63 : Enters Try.prog 63 := enters_of Try.func63 (by kernel_rfl) (by kernel_rfl)
theorem ent64 : Enters Try.prog 64 := enters_of Try.func64 (by kernel_rfl) (by kernel_rfl)
theorem ent65 : Enters Try.prog 65 := enters_of Try.func65 (by kernel_rfl) (by kernel_rfl)
theorem ent66 : Enters Try.prog 66 := enters_of Try.func66 (by kernel_rfl) (by kernel_rfl)
theorem ent67 : Enters Try.prog 67 := enters_of Try.func67 (by kernel_rfl) (by kernel_rfl)
theorem ent68 : Enters Try.prog 68 := enters_of Try.func68 (by kernel_rfl) (by kernel_rfl)
theorem ent69 : Enters Try.prog 69 := enters_of Try.func69 (by kernel_rfl) (by kernel_rfl)
theorem ent70 : Enters Try.prog 70 := enters_of Try.func70 (by kernel_rfl) (by kernel_rfl)
theorem ent71 : Enters Try.prog 71 := enters_of Try.func71 (by kernel_rfl) (by kernel_rfl)
theorem ent72 : Enters Try.prog 72 := enters_of Try.func72 (by kernel_rfl) (by kernel_rfl)
theorem ent73 : Enters Try.prog 73 := enters_of Try.func73 (by kernel_rfl) (by kernel_rfl)
theorem ent74 : Enters Try.prog 74 := enters_of Try.func74 (by kernel_rfl) (by kernel_rfl)
theorem ent75 : Enters Try.prog 75 := enters_of Try.func75 (by kernel_rfl) (by kernel_rfl)
theorem ent76 : Enters Try.prog 76 := enters_of Try.func76 (by kernel_rfl) (by kernel_rfl)
theorem ent77 : Enters Try.prog 77 := enters_of Try.func77 (by kernel_rfl) (by kernel_rfl)
theorem ent78 : Enters Try.prog 78 := enters_of Try.func78 (by kernel_rfl) (by kernel_rfl)
theorem ent79 : Enters Try.prog 79 := enters_of Try.func79 (by kernel_rfl) (by kernel_rfl)
theorem ent80 : Enters Try.prog 80 := enters_of Try.func80 (by kernel_rfl) (by kernel_rfl)
theorem ent81 : Enters Try.prog 81 := enters_of Try.func81 (by kernel_rfl) (by kernel_rfl)
theorem ent82 : Enters Try.prog 82 := enters_of Try.func82 (by kernel_rfl) (by kernel_rfl)
theorem ent83 : Enters Try.prog 83 := enters_of Try.func83 (by kernel_rfl) (by kernel_rfl)
theorem ent84 : Enters Try.prog 84 := enters_of Try.func84 (by kernel_rfl) (by kernel_rfl)
theorem ent86 : Enters Try.prog 86 := enters_of Try.func86 (by kernel_rfl) (by kernel_rfl)
theorem ent87 : Enters Try.prog 87 := enters_of Try.func87 (by kernel_rfl) (by kernel_rfl)
theorem ent88 : Enters Try.prog 88 := enters_of Try.func88 (by kernel_rfl) (by kernel_rfl)
theorem ent89 : Enters Try.prog 89 := enters_of Try.func89 (by kernel_rfl) (by kernel_rfl)
theorem ent90 : Enters Try.prog 90 := enters_of Try.func90 (by kernel_rfl) (by kernel_rfl)
theorem ent91 : Enters Try.prog 91 := enters_of Try.func91 (by kernel_rfl) (by kernel_rfl)
theorem ent92 : Enters Try.prog 92 := enters_of Try.func92 (by kernel_rfl) (by kernel_rfl)
theorem ent93 : Enters Try.prog 93 := enters_of Try.func93 (by kernel_rfl) (by kernel_rfl)
theorem ent94 : Enters Try.prog 94 := enters_of Try.func94 (by kernel_rfl) (by kernel_rfl)
theorem ent95 : Enters Try.prog 95 := enters_of Try.func95 (by kernel_rfl) (by kernel_rfl)
theorem ent96 : Enters Try.prog 96 := enters_of Try.func96 (by kernel_rfl) (by kernel_rfl)
theorem ent97 : Enters Try.prog 97 := enters_of Try.func97 (by kernel_rfl) (by kernel_rfl)
theorem ent98 : Enters Try.prog 98 := enters_of Try.func98 (by kernel_rfl) (by kernel_rfl)
end Go.Proofs.Ytipdogbeoflkoaa
