/-
  Closed facts on the types and functions of the translation, one by one.
-/
import Derived.Test.YtkhnemiflpjbpaaProg
import Derived.Test.YtkhnemiflpjbpaaEngF
import Derived.KernelRfl
namespace Go.Proofs.Ytkhnemiflpjbpaa
open Go.Eng
theorem mixed : Try.prog.follows .mixedOrders = true := by kernel_rfl
theorem sz2 : szOf Try.prog 2 = some 1 := by kernel_rfl
theorem agg2 : aggB Try.prog 2 = some false := by kernel_rfl
theorem inf2 : inf Try.prog 2 1 8 := inf_of (by kernel_rfl)
theorem z2 : zeroOf Try.prog 2 = some ((.int .i64 (0))) := by kernel_rfl
theorem sz3 : szOf Try.prog 3 = some 1 := by kernel_rfl
theorem agg3 : aggB Try.prog 3 = some false := by kernel_rfl
theorem inf3 : inf Try.prog 3 1 8 := inf_of (by kernel_rfl)
theorem z3 : zeroOf Try.prog 3 = some ((.int .i64 (0))) := by kernel_rfl
theorem sz4 : szOf Try.prog 4 = some 1 := by kernel_rfl
theorem agg4 : aggB Try.prog 4 = some false := by kernel_rfl
theorem z4 : zeroOf Try.prog 4 = some ((.bool (false))) := by kernel_rfl
theorem sz5 : szOf Try.prog 5 = some 1 := by kernel_rfl
theorem agg5 : aggB Try.prog 5 = some false := by kernel_rfl
theorem inf5 : inf Try.prog 5 1 1 := inf_of (by kernel_rfl)
theorem z5 : zeroOf Try.prog 5 = some ((.int .u8 (0))) := by kernel_rfl
theorem sz6 : szOf Try.prog 6 = some 1 := by kernel_rfl
theorem agg6 : aggB Try.prog 6 = some false := by kernel_rfl
theorem inf6 : inf Try.prog 6 1 1 := inf_of (by kernel_rfl)
theorem z6 : zeroOf Try.prog 6 = some ((.int .u8 (0))) := by kernel_rfl
theorem sz7 : szOf Try.prog 7 = some 4 := by kernel_rfl
theorem agg7 : aggB Try.prog 7 = some true := by kernel_rfl
theorem pl7 {fs : Array Field} (h : Try.prog.underlying 7 = some (.struct fs)) : (fs.toList.all fun f => (szOf Try.prog f.type).isSome) = true ∧ placesOf Try.prog fs.toList = [(0, 1), (1, 1), (2, 1), (3, 1)] := by
  rw [Try.underlying7] at h; cases h; exact ⟨by kernel_rfl, by kernel_rfl⟩
theorem z7 : zeroOf Try.prog 7 = some (.agg #[(.int .i64 (0)), (.int .i64 (0)), (.bool (false)), (.int .u8 (0))]) := by kernel_rfl
theorem sz8 : szOf Try.prog 8 = some 4 := by kernel_rfl
theorem agg8 : aggB Try.prog 8 = some true := by kernel_rfl
theorem pl8 {fs : Array Field} (h : Try.prog.underlying 8 = some (.struct fs)) : (fs.toList.all fun f => (szOf Try.prog f.type).isSome) = true ∧ placesOf Try.prog fs.toList = [(0, 1), (1, 1), (2, 1), (3, 1)] := by
  rw [Try.underlying8] at h; cases h; exact ⟨by kernel_rfl, by kernel_rfl⟩
theorem inf8 : inf Try.prog 8 4 24 := inf_of (by kernel_rfl)
theorem z8 : zeroOf Try.prog 8 = some (.agg #[(.int .i64 (0)), (.int .i64 (0)), (.bool (false)), (.int .u8 (0))]) := by kernel_rfl
theorem sz9 : szOf Try.prog 9 = some 1 := by kernel_rfl
theorem agg9 : aggB Try.prog 9 = some false := by kernel_rfl
theorem inf9 : inf Try.prog 9 1 16 := inf_of (by kernel_rfl)
theorem z9 : zeroOf Try.prog 9 = some ((.string (⟨#[]⟩))) := by kernel_rfl
theorem sz10 : szOf Try.prog 10 = some 1 := by kernel_rfl
theorem agg10 : aggB Try.prog 10 = some false := by kernel_rfl
theorem inf10 : inf Try.prog 10 1 16 := inf_of (by kernel_rfl)
theorem z10 : zeroOf Try.prog 10 = some ((.string (⟨#[]⟩))) := by kernel_rfl
theorem sz11 : szOf Try.prog 11 = some 1 := by kernel_rfl
theorem agg11 : aggB Try.prog 11 = some false := by kernel_rfl
theorem inf11 : inf Try.prog 11 1 16 := inf_of (by kernel_rfl)
theorem z11 : zeroOf Try.prog 11 = some ((.string (⟨#[]⟩))) := by kernel_rfl
theorem sz12 : szOf Try.prog 12 = some 1 := by kernel_rfl
theorem agg12 : aggB Try.prog 12 = some false := by kernel_rfl
theorem z12 : zeroOf Try.prog 12 = some ((.int .u64 (0))) := by kernel_rfl
theorem sz13 : szOf Try.prog 13 = some 2 := by kernel_rfl
theorem agg13 : aggB Try.prog 13 = some true := by kernel_rfl
theorem pl13 {fs : Array Field} (h : Try.prog.underlying 13 = some (.struct fs)) : (fs.toList.all fun f => (szOf Try.prog f.type).isSome) = true ∧ placesOf Try.prog fs.toList = [(0, 1), (1, 1)] := by
  rw [Try.underlying13] at h; cases h; exact ⟨by kernel_rfl, by kernel_rfl⟩
theorem z13 : zeroOf Try.prog 13 = some (.agg #[(.string (⟨#[]⟩)), (.int .u64 (0))]) := by kernel_rfl
theorem sz14 : szOf Try.prog 14 = some 2 := by kernel_rfl
theorem agg14 : aggB Try.prog 14 = some true := by kernel_rfl
theorem pl14 {fs : Array Field} (h : Try.prog.underlying 14 = some (.struct fs)) : (fs.toList.all fun f => (szOf Try.prog f.type).isSome) = true ∧ placesOf Try.prog fs.toList = [(0, 1), (1, 1)] := by
  rw [Try.underlying14] at h; cases h; exact ⟨by kernel_rfl, by kernel_rfl⟩
theorem inf14 : inf Try.prog 14 2 24 := inf_of (by kernel_rfl)
theorem z14 : zeroOf Try.prog 14 = some (.agg #[(.string (⟨#[]⟩)), (.int .u64 (0))]) := by kernel_rfl
theorem sz15 : szOf Try.prog 15 = some 1 := by kernel_rfl
theorem agg15 : aggB Try.prog 15 = some false := by kernel_rfl
theorem z15 : zeroOf Try.prog 15 = some ((.pointer none)) := by kernel_rfl
theorem sz16 : szOf Try.prog 16 = some 1 := by kernel_rfl
theorem agg16 : aggB Try.prog 16 = some false := by kernel_rfl
theorem z16 : zeroOf Try.prog 16 = some ((.pointer none)) := by kernel_rfl
theorem sz17 : szOf Try.prog 17 = some 1 := by kernel_rfl
theorem agg17 : aggB Try.prog 17 = some false := by kernel_rfl
theorem z17 : zeroOf Try.prog 17 = some ((.pointer none)) := by kernel_rfl
theorem sz18 : szOf Try.prog 18 = some 1 := by kernel_rfl
theorem agg18 : aggB Try.prog 18 = some true := by kernel_rfl
theorem pl18 {fs : Array Field} (h : Try.prog.underlying 18 = some (.struct fs)) : (fs.toList.all fun f => (szOf Try.prog f.type).isSome) = true ∧ placesOf Try.prog fs.toList = [(0, 1)] := by
  rw [Try.underlying18] at h; cases h; exact ⟨by kernel_rfl, by kernel_rfl⟩
theorem z18 : zeroOf Try.prog 18 = some (.agg #[(.pointer none)]) := by kernel_rfl
theorem sz19 : szOf Try.prog 19 = some 1 := by kernel_rfl
theorem agg19 : aggB Try.prog 19 = some true := by kernel_rfl
theorem pl19 {fs : Array Field} (h : Try.prog.underlying 19 = some (.struct fs)) : (fs.toList.all fun f => (szOf Try.prog f.type).isSome) = true ∧ placesOf Try.prog fs.toList = [(0, 1)] := by
  rw [Try.underlying19] at h; cases h; exact ⟨by kernel_rfl, by kernel_rfl⟩
theorem inf19 : inf Try.prog 19 1 8 := inf_of (by kernel_rfl)
theorem z19 : zeroOf Try.prog 19 = some (.agg #[(.pointer none)]) := by kernel_rfl
theorem sz21 : szOf Try.prog 21 = some 1 := by kernel_rfl
theorem agg21 : aggB Try.prog 21 = some false := by kernel_rfl
theorem z21 : zeroOf Try.prog 21 = some ((.int .i32 (0))) := by kernel_rfl
theorem sz22 : szOf Try.prog 22 = some 1 := by kernel_rfl
theorem agg22 : aggB Try.prog 22 = some false := by kernel_rfl
theorem z22 : zeroOf Try.prog 22 = some ((.slice none 0 0)) := by kernel_rfl
theorem sz23 : szOf Try.prog 23 = some 1 := by kernel_rfl
theorem agg23 : aggB Try.prog 23 = some false := by kernel_rfl
theorem z23 : zeroOf Try.prog 23 = some ((.slice none 0 0)) := by kernel_rfl
theorem sz24 : szOf Try.prog 24 = some 5 := by kernel_rfl
theorem agg24 : aggB Try.prog 24 = some true := by kernel_rfl
theorem pl24 {fs : Array Field} (h : Try.prog.underlying 24 = some (.struct fs)) : (fs.toList.all fun f => (szOf Try.prog f.type).isSome) = true ∧ placesOf Try.prog fs.toList = [(0, 1), (1, 1), (2, 1), (3, 1), (4, 1)] := by
  rw [Try.underlying24] at h; cases h; exact ⟨by kernel_rfl, by kernel_rfl⟩
theorem z24 : zeroOf Try.prog 24 = some (.agg #[(.int .u8 (0)), (.int .i64 (0)), (.string (⟨#[]⟩)), (.slice none 0 0), (.slice none 0 0)]) := by kernel_rfl
theorem sz25 : szOf Try.prog 25 = some 5 := by kernel_rfl
theorem agg25 : aggB Try.prog 25 = some true := by kernel_rfl
theorem pl25 {fs : Array Field} (h : Try.prog.underlying 25 = some (.struct fs)) : (fs.toList.all fun f => (szOf Try.prog f.type).isSome) = true ∧ placesOf Try.prog fs.toList = [(0, 1), (1, 1), (2, 1), (3, 1), (4, 1)] := by
  rw [Try.underlying25] at h; cases h; exact ⟨by kernel_rfl, by kernel_rfl⟩
theorem inf25 : inf Try.prog 25 5 80 := inf_of (by kernel_rfl)
theorem z25 : zeroOf Try.prog 25 = some (.agg #[(.int .u8 (0)), (.int .i64 (0)), (.string (⟨#[]⟩)), (.slice none 0 0), (.slice none 0 0)]) := by kernel_rfl
theorem sz37 : szOf Try.prog 37 = some 1 := by kernel_rfl
theorem agg37 : aggB Try.prog 37 = some false := by kernel_rfl
theorem inf37 : inf Try.prog 37 1 8 := inf_of (by kernel_rfl)
theorem z37 : zeroOf Try.prog 37 = some ((.int .i64 (0))) := by kernel_rfl
theorem sz42 : szOf Try.prog 42 = some 1 := by kernel_rfl
theorem agg42 : aggB Try.prog 42 = some false := by kernel_rfl
theorem z42 : zeroOf Try.prog 42 = some ((.slice none 0 0)) := by kernel_rfl
theorem sz49 : szOf Try.prog 49 = some 1 := by kernel_rfl
theorem agg49 : aggB Try.prog 49 = some false := by kernel_rfl
theorem z49 : zeroOf Try.prog 49 = some ((.slice none 0 0)) := by kernel_rfl
theorem sz51 : szOf Try.prog 51 = some 1 := by kernel_rfl
theorem agg51 : aggB Try.prog 51 = some false := by kernel_rfl
theorem z51 : zeroOf Try.prog 51 = some ((.pointer none)) := by kernel_rfl
theorem sz52 : szOf Try.prog 52 = some 1 := by kernel_rfl
theorem agg52 : aggB Try.prog 52 = some false := by kernel_rfl
theorem z52 : zeroOf Try.prog 52 = some ((.pointer none)) := by kernel_rfl
theorem sz55 : szOf Try.prog 55 = some 1 := by kernel_rfl
theorem agg55 : aggB Try.prog 55 = some false := by kernel_rfl
theorem z55 : zeroOf Try.prog 55 = some ((.pointer none)) := by kernel_rfl
theorem sz61 : szOf Try.prog 61 = some 2 := by kernel_rfl
theorem agg61 : aggB Try.prog 61 = some true := by kernel_rfl
theorem pl61 {fs : Array Field} (h : Try.prog.underlying 61 = some (.struct fs)) : (fs.toList.all fun f => (szOf Try.prog f.type).isSome) = true ∧ placesOf Try.prog fs.toList = [(0, 1), (1, 1)] := by
  rw [Try.underlying61] at h; cases h; exact ⟨by kernel_rfl, by kernel_rfl⟩
theorem z61 : zeroOf Try.prog 61 = some (.agg #[(.pointer none), (.pointer none)]) := by kernel_rfl
theorem sz62 : szOf Try.prog 62 = some 2 := by kernel_rfl
theorem agg62 : aggB Try.prog 62 = some true := by kernel_rfl
theorem pl62 {fs : Array Field} (h : Try.prog.underlying 62 = some (.struct fs)) : (fs.toList.all fun f => (szOf Try.prog f.type).isSome) = true ∧ placesOf Try.prog fs.toList = [(0, 1), (1, 1)] := by
  rw [Try.underlying62] at h; cases h; exact ⟨by kernel_rfl, by kernel_rfl⟩
theorem inf62 : inf Try.prog 62 2 16 := inf_of (by kernel_rfl)
theorem z62 : zeroOf Try.prog 62 = some (.agg #[(.pointer none), (.pointer none)]) := by kernel_rfl
theorem sz68 : szOf Try.prog 68 = some 1 := by kernel_rfl
theorem agg68 : aggB Try.prog 68 = some false := by kernel_rfl
theorem z68 : zeroOf Try.prog 68 = some ((.int .u64 (0))) := by kernel_rfl
theorem sz73 : szOf Try.prog 73 = some 1 := by kernel_rfl
theorem agg73 : aggB Try.prog 73 = some false := by kernel_rfl
theorem z73 : zeroOf Try.prog 73 = some ((.slice none 0 0)) := by kernel_rfl
theorem sz76 : szOf Try.prog 76 = some 4 := by kernel_rfl
theorem agg76 : aggB Try.prog 76 = some true := by kernel_rfl
theorem pl76 {fs : Array Field} (h : Try.prog.underlying 76 = some (.struct fs)) : (fs.toList.all fun f => (szOf Try.prog f.type).isSome) = true ∧ placesOf Try.prog fs.toList = [(0, 1), (1, 1), (2, 1), (3, 1)] := by
  rw [Try.underlying76] at h; cases h; exact ⟨by kernel_rfl, by kernel_rfl⟩
theorem z76 : zeroOf Try.prog 76 = some (.agg #[(.pointer none), (.pointer none), (.pointer none), (.string (⟨#[]⟩))]) := by kernel_rfl
theorem sz77 : szOf Try.prog 77 = some 4 := by kernel_rfl
theorem agg77 : aggB Try.prog 77 = some true := by kernel_rfl
theorem pl77 {fs : Array Field} (h : Try.prog.underlying 77 = some (.struct fs)) : (fs.toList.all fun f => (szOf Try.prog f.type).isSome) = true ∧ placesOf Try.prog fs.toList = [(0, 1), (1, 1), (2, 1), (3, 1)] := by
  rw [Try.underlying77] at h; cases h; exact ⟨by kernel_rfl, by kernel_rfl⟩
theorem inf77 : inf Try.prog 77 4 40 := inf_of (by kernel_rfl)
theorem z77 : zeroOf Try.prog 77 = some (.agg #[(.pointer none), (.pointer none), (.pointer none), (.string (⟨#[]⟩))]) := by kernel_rfl
theorem sz78 : szOf Try.prog 78 = some 0 := by kernel_rfl
theorem agg78 : aggB Try.prog 78 = some true := by kernel_rfl
theorem sz79 : szOf Try.prog 79 = some 0 := by kernel_rfl
theorem agg79 : aggB Try.prog 79 = some true := by kernel_rfl
theorem pl79 {fs : Array Field} (h : Try.prog.underlying 79 = some (.struct fs)) : (fs.toList.all fun f => (szOf Try.prog f.type).isSome) = true ∧ placesOf Try.prog fs.toList = [(0, 0)] := by
  rw [Try.underlying79] at h; cases h; exact ⟨by kernel_rfl, by kernel_rfl⟩
theorem sz80 : szOf Try.prog 80 = some 0 := by kernel_rfl
theorem agg80 : aggB Try.prog 80 = some true := by kernel_rfl
theorem pl80 {fs : Array Field} (h : Try.prog.underlying 80 = some (.struct fs)) : (fs.toList.all fun f => (szOf Try.prog f.type).isSome) = true ∧ placesOf Try.prog fs.toList = [(0, 0)] := by
  rw [Try.underlying80] at h; cases h; exact ⟨by kernel_rfl, by kernel_rfl⟩
theorem sz82 : szOf Try.prog 82 = some 1 := by kernel_rfl
theorem agg82 : aggB Try.prog 82 = some false := by kernel_rfl
theorem z82 : zeroOf Try.prog 82 = some ((.int .u32 (0))) := by kernel_rfl
theorem sz83 : szOf Try.prog 83 = some 1 := by kernel_rfl
theorem agg83 : aggB Try.prog 83 = some false := by kernel_rfl
theorem inf83 : inf Try.prog 83 1 1 := inf_of (by kernel_rfl)
theorem z83 : zeroOf Try.prog 83 = some ((.int .u8 (0))) := by kernel_rfl
theorem sz84 : szOf Try.prog 84 = some 1 := by kernel_rfl
theorem agg84 : aggB Try.prog 84 = some false := by kernel_rfl
theorem inf84 : inf Try.prog 84 1 1 := inf_of (by kernel_rfl)
theorem z84 : zeroOf Try.prog 84 = some ((.int .u8 (0))) := by kernel_rfl
theorem sz86 : szOf Try.prog 86 = some 1 := by kernel_rfl
theorem agg86 : aggB Try.prog 86 = some false := by kernel_rfl
theorem z86 : zeroOf Try.prog 86 = some ((.pointer none)) := by kernel_rfl
theorem sz87 : szOf Try.prog 87 = some 1 := by kernel_rfl
theorem agg87 : aggB Try.prog 87 = some false := by kernel_rfl
theorem inf87 : inf Try.prog 87 1 4 := inf_of (by kernel_rfl)
theorem z87 : zeroOf Try.prog 87 = some ((.int .i32 (0))) := by kernel_rfl
theorem sz88 : szOf Try.prog 88 = some 1 := by kernel_rfl
theorem agg88 : aggB Try.prog 88 = some false := by kernel_rfl
theorem inf88 : inf Try.prog 88 1 4 := inf_of (by kernel_rfl)
theorem z88 : zeroOf Try.prog 88 = some ((.int .i32 (0))) := by kernel_rfl
theorem sz89 : szOf Try.prog 89 = some 11 := by kernel_rfl
theorem agg89 : aggB Try.prog 89 = some true := by kernel_rfl
theorem pl89 {fs : Array Field} (h : Try.prog.underlying 89 = some (.struct fs)) : (fs.toList.all fun f => (szOf Try.prog f.type).isSome) = true ∧ placesOf Try.prog fs.toList = [(0, 1), (1, 1), (2, 1), (3, 1), (4, 1), (5, 1), (6, 1), (7, 1), (8, 1), (9, 1), (10, 1)] := by
  rw [Try.underlying89] at h; cases h; exact ⟨by kernel_rfl, by kernel_rfl⟩
theorem sz90 : szOf Try.prog 90 = some 11 := by kernel_rfl
theorem agg90 : aggB Try.prog 90 = some true := by kernel_rfl
theorem pl90 {fs : Array Field} (h : Try.prog.underlying 90 = some (.struct fs)) : (fs.toList.all fun f => (szOf Try.prog f.type).isSome) = true ∧ placesOf Try.prog fs.toList = [(0, 1), (1, 1), (2, 1), (3, 1), (4, 1), (5, 1), (6, 1), (7, 1), (8, 1), (9, 1), (10, 1)] := by
  rw [Try.underlying90] at h; cases h; exact ⟨by kernel_rfl, by kernel_rfl⟩
theorem inf90 : inf Try.prog 90 11 48 := inf_of (by kernel_rfl)
theorem ent3 : Enters Try.prog 3 := enters_of Try.func3 (by kernel_rfl) (by kernel_rfl)
theorem ent4 : Enters Try.prog 4 := enters_of Try.func4 (by kernel_rfl) (by kernel_rfl)
theorem ent5 : Enters Try.prog 5 := enters_of Try.func5 (by kernel_rfl) (by kernel_rfl)
theorem ent6 : Enters Try.prog 6 := enters_of Try.func6 (by kernel_rfl) (by kernel_rfl)
theorem ent7 : Enters Try.prog 7 := enters_of Try.func7 (by kernel_rfl) (by kernel_rfl)
theorem ent8 : Enters Try.prog 8 := enters_of Try.func8 (by kernel_rfl) (by kernel_rfl)
theorem ent9 : Enters Try.prog 9 := enters_of Try.func9 (by kernel_rfl) (by kernel_rfl)
theorem ent10 : Enters Try.prog 10 := enters_of Try.func10 (by kernel_rfl) (by kernel_rfl)
theorem ent11 : Enters Try.prog 11 := enters_of Try.func11 (by kernel_rfl) (by kernel_rfl)
theorem ent12 : Enters Try.prog 12 := enters_of Try.func12 (by kernel_rfl) (by kernel_rfl)
theorem ent13 : Enters Try.prog 13 := enters_of Try.func13 (by kernel_rfl) (by kernel_rfl)
theorem ent14 : Enters Try.prog 14 := enters_of Try.func14 (by kernel_rfl) (by kernel_rfl)
theorem ent15 : Enters Try.prog 15 := enters_of Try.func15 (by kernel_rfl) (by kernel_rfl)
theorem ent16 : Enters Try.prog 16 := enters_of Try.func16 (by kernel_rfl) (by kernel_rfl)
theorem ent17 : Enters Try.prog 17 := enters_of Try.func17 (by kernel_rfl) (by kernel_rfl)
theorem ent18 : Enters Try.prog 18 := enters_of Try.func18 (by kernel_rfl) (by kernel_rfl)
theorem ent19 : Enters Try.prog 19 := enters_of Try.func19 (by kernel_rfl) (by kernel_rfl)
theorem ent20 : Enters Try.prog 20 := enters_of Try.func20 (by kernel_rfl) (by kernel_rfl)
theorem ent21 : Enters Try.prog 21 := enters_of Try.func21 (by kernel_rfl) (by kernel_rfl)
theorem ent22 : Enters Try.prog 22 := enters_of Try.func22 (by kernel_rfl) (by kernel_rfl)
theorem ent23 : Enters Try.prog 23 := enters_of Try.func23 (by kernel_rfl) (by kernel_rfl)
theorem ent24 : Enters Try.prog 24 := enters_of Try.func24 (by kernel_rfl) (by kernel_rfl)
theorem ent25 : Enters Try.prog 25 := enters_of Try.func25 (by kernel_rfl) (by kernel_rfl)
theorem ent26 : Enters Try.prog 26 := enters_of Try.func26 (by kernel_rfl) (by kernel_rfl)
theorem ent27 : Enters Try.prog 27 := enters_of Try.func27 (by kernel_rfl) (by kernel_rfl)
theorem ent28 : Enters Try.prog 28 := enters_of Try.func28 (by kernel_rfl) (by kernel_rfl)
theorem ent29 : Enters Try.prog 29 := enters_of Try.func29 (by kernel_rfl) (by kernel_rfl)
theorem ent30 : Enters Try.prog 30 := enters_of Try.func30 (by kernel_rfl) (by kernel_rfl)
theorem ent31 : Enters Try.prog 31 := enters_of Try.func31 (by kernel_rfl) (by kernel_rfl)
theorem ent32 : Enters Try.prog 32 := enters_of Try.func32 (by kernel_rfl) (by kernel_rfl)
theorem ent33 : Enters Try.prog 33 := enters_of Try.func33 (by kernel_rfl) (by kernel_rfl)
theorem ent34 : Enters Try.prog 34 := enters_of Try.func34 (by kernel_rfl) (by kernel_rfl)
theorem ent35 : Enters Try.prog 35 := enters_of Try.func35 (by kernel_rfl) (by kernel_rfl)
theorem ent36 : Enters Try.prog 36 := enters_of Try.func36 (by kernel_rfl) (by kernel_rfl)
theorem ent37 : Enters Try.prog 37 := enters_of Try.func37 (by kernel_rfl) (by kernel_rfl)
theorem ent38 : Enters Try.prog 38 := enters_of Try.func38 (by kernel_rfl) (by kernel_rfl)
theorem ent39 : Enters Try.prog 39 := enters_of Try.func39 (by kernel_rfl) (by kernel_rfl)
theorem ent40 : Enters Try.prog 40 := enters_of Try.func40 (by kernel_rfl) (by kernel_rfl)
theorem ent41 : Enters Try.prog 41 := enters_of Try.func41 (by kernel_rfl) (by kernel_rfl)
theorem ent42 : Enters Try.prog 42 := enters_of Try.func42 (by kernel_rfl) (by kernel_rfl)
theorem ent43 : Enters Try.prog 43 := enters_of Try.func43 (by kernel_rfl) (by kernel_rfl)
theorem ent44 : Enters Try.prog 44 := enters_of Try.func44 (by kernel_rfl) (by kernel_rfl)
theorem ent45 : Enters Try.prog 45 := enters_of Try.func45 (by kernel_rfl) (by kernel_rfl)
theorem ent46 : Enters Try.prog 46 := enters_of Try.func46 (by kernel_rfl) (by kernel_rfl)
theorem ent47 : Enters Try.prog 47 := enters_of Try.func47 (by kernel_rfl) (by kernel_rfl)
theorem ent48 : Enters Try.prog 48 := enters_of Try.func48 (by kernel_rfl) (by kernel_rfl)
theorem ent49 : Enters Try.prog 49 := enters_of Try.func49 (by kernel_rfl) (by kernel_rfl)
theorem ent50 : Enters Try.prog 50 := enters_of Try.func50 (by kernel_rfl) (by kernel_rfl)
theorem ent51 : Enters Try.prog 51 := enters_of Try.func51 (by kernel_rfl) (by kernel_rfl)
theorem ent52 : Enters Try.prog 52 := enters_of Try.func52 (by kernel_rfl) (by kernel_rfl)
theorem ent53 : Enters Try.prog 53 := enters_of Try.func53 (by kernel_rfl) (by kernel_rfl)
theorem ent54 : Enters Try.prog 54 := enters_of Try.func54 (by kernel_rfl) (by kernel_rfl)
theorem ent55 : Enters Try.prog 55 := enters_of Try.func55 (by kernel_rfl) (by kernel_rfl)
theorem ent56 : Enters Try.prog 56 := enters_of Try.func56 (by kernel_rfl) (by kernel_rfl)
theorem ent57 : Enters Try.prog 57 := enters_of Try.func57 (by kernel_rfl) (by kernel_rfl)
theorem ent58 : Enters Try.prog 58 := enters_of Try.func58 (by kernel_rfl) (by kernel_rfl)
theorem ent59 : Enters Try.prog 59 := enters_of Try.func59 (by kernel_rfl) (by kernel_rfl)
theorem ent60 : Enters Try.prog 60 := enters_of Try.func60 (by kernel_rfl) (by kernel_rfl)
theorem ent61 : Enters Try.prog 61 := enters_of Try.func61 (by kernel_rfl) (by kernel_rfl)
end Go.Proofs.Ytkhnemiflpjbpaa
