/- Part 10 of the proof whose last text closes the card: laws and walks that hold without conditions beyond those that each theorem names. -/
import Derived.Test.YtmonmfpdckdoiaaGreatDoorProg
import Derived.KernelRfl
import Derived.Test.YtmonmfpdckdoiaaGreatDoorA07
import Derived.Test.YtmonmfpdckdoiaaGreatDoorA08
set_option linter.all false
set_option linter.deprecated false
namespace Go.Proofs
open Go Go.Ab
@[simp] theorem Tryz.tsz3 : tsz Tryz.prog 3 = some 1 := by kernel_rfl
@[simp] theorem Tryz.tag3 : tag Tryz.prog 3 = some false := by kernel_rfl
@[simp] theorem Tryz.telem3 : telem Tryz.prog 3 = none := by kernel_rfl
@[simp] theorem Tryz.tarr3 : tarr Tryz.prog 3 = none := by kernel_rfl
@[simp] theorem Tryz.tint3 : tint Tryz.prog 3 = some .i64 := by kernel_rfl
@[simp] theorem Tryz.tbool3 : tbool Tryz.prog 3 = false := by kernel_rfl
@[simp] theorem Tryz.tbytes3 : tbytes Tryz.prog 3 = some 8 := by kernel_rfl
@[simp] theorem Tryz.tzero3 : tzero Tryz.prog 3 = some [.int .i64 0] := by kernel_rfl
@[simp] theorem Tryz.tsz4 : tsz Tryz.prog 4 = some 1 := by kernel_rfl
@[simp] theorem Tryz.tag4 : tag Tryz.prog 4 = some false := by kernel_rfl
@[simp] theorem Tryz.telem4 : telem Tryz.prog 4 = none := by kernel_rfl
@[simp] theorem Tryz.tarr4 : tarr Tryz.prog 4 = none := by kernel_rfl
@[simp] theorem Tryz.tint4 : tint Tryz.prog 4 = none := by kernel_rfl
@[simp] theorem Tryz.tbool4 : tbool Tryz.prog 4 = true := by kernel_rfl
@[simp] theorem Tryz.tbytes4 : tbytes Tryz.prog 4 = some 1 := by kernel_rfl
@[simp] theorem Tryz.tzero4 : tzero Tryz.prog 4 = some [.bool false] := by kernel_rfl
@[simp] theorem Tryz.tsz5 : tsz Tryz.prog 5 = some 1 := by kernel_rfl
@[simp] theorem Tryz.tag5 : tag Tryz.prog 5 = some false := by kernel_rfl
@[simp] theorem Tryz.telem5 : telem Tryz.prog 5 = none := by kernel_rfl
@[simp] theorem Tryz.tarr5 : tarr Tryz.prog 5 = none := by kernel_rfl
@[simp] theorem Tryz.tint5 : tint Tryz.prog 5 = some .u8 := by kernel_rfl
@[simp] theorem Tryz.tbool5 : tbool Tryz.prog 5 = false := by kernel_rfl
@[simp] theorem Tryz.tbytes5 : tbytes Tryz.prog 5 = some 1 := by kernel_rfl
@[simp] theorem Tryz.tzero5 : tzero Tryz.prog 5 = some [.int .u8 0] := by kernel_rfl
@[simp] theorem Tryz.tsz9 : tsz Tryz.prog 9 = some 1 := by kernel_rfl
@[simp] theorem Tryz.tag9 : tag Tryz.prog 9 = some false := by kernel_rfl
@[simp] theorem Tryz.telem9 : telem Tryz.prog 9 = none := by kernel_rfl
@[simp] theorem Tryz.tarr9 : tarr Tryz.prog 9 = none := by kernel_rfl
@[simp] theorem Tryz.tint9 : tint Tryz.prog 9 = none := by kernel_rfl
@[simp] theorem Tryz.tbool9 : tbool Tryz.prog 9 = false := by kernel_rfl
@[simp] theorem Tryz.tbytes9 : tbytes Tryz.prog 9 = some 16 := by kernel_rfl
@[simp] theorem Tryz.tsz22 : tsz Tryz.prog 22 = some 1 := by kernel_rfl
@[simp] theorem Tryz.tag22 : tag Tryz.prog 22 = some false := by kernel_rfl
@[simp] theorem Tryz.telem22 : telem Tryz.prog 22 = some 129 := by kernel_rfl
@[simp] theorem Tryz.tarr22 : tarr Tryz.prog 22 = none := by kernel_rfl
@[simp] theorem Tryz.tint22 : tint Tryz.prog 22 = none := by kernel_rfl
@[simp] theorem Tryz.tbool22 : tbool Tryz.prog 22 = false := by kernel_rfl
@[simp] theorem Tryz.tbytes22 : tbytes Tryz.prog 22 = some 24 := by kernel_rfl
@[simp] theorem Tryz.tzero22 : tzero Tryz.prog 22 = some [.slice none 0 0] := by kernel_rfl
@[simp] theorem Tryz.tsz24 : tsz Tryz.prog 24 = some 1 := by kernel_rfl
@[simp] theorem Tryz.tag24 : tag Tryz.prog 24 = some true := by kernel_rfl
@[simp] theorem Tryz.telem24 : telem Tryz.prog 24 = none := by kernel_rfl
@[simp] theorem Tryz.tarr24 : tarr Tryz.prog 24 = none := by kernel_rfl
@[simp] theorem Tryz.tint24 : tint Tryz.prog 24 = none := by kernel_rfl
@[simp] theorem Tryz.tbool24 : tbool Tryz.prog 24 = false := by kernel_rfl
@[simp] theorem Tryz.tbytes24 : tbytes Tryz.prog 24 = some 24 := by kernel_rfl
@[simp] theorem Tryz.tzero24 : tzero Tryz.prog 24 = some [.slice none 0 0] := by kernel_rfl
@[simp] theorem Tryz.toff24_0 : toff Tryz.prog 24 0 = some 0 := by kernel_rfl
@[simp] theorem Tryz.tfield24_0 : tfield Tryz.prog 24 0 = some (0, 1, false) := by kernel_rfl
@[simp] theorem Tryz.places24 : placesOf Tryz.prog 24 = some [(0, 1)] := by kernel_rfl
@[simp] theorem Tryz.tsz25 : tsz Tryz.prog 25 = some 1 := by kernel_rfl
@[simp] theorem Tryz.tag25 : tag Tryz.prog 25 = some false := by kernel_rfl
@[simp] theorem Tryz.telem25 : telem Tryz.prog 25 = some 3 := by kernel_rfl
@[simp] theorem Tryz.tarr25 : tarr Tryz.prog 25 = none := by kernel_rfl
@[simp] theorem Tryz.tint25 : tint Tryz.prog 25 = none := by kernel_rfl
@[simp] theorem Tryz.tbool25 : tbool Tryz.prog 25 = false := by kernel_rfl
@[simp] theorem Tryz.tbytes25 : tbytes Tryz.prog 25 = some 24 := by kernel_rfl
@[simp] theorem Tryz.tzero25 : tzero Tryz.prog 25 = some [.slice none 0 0] := by kernel_rfl
@[simp] theorem Tryz.tsz26 : tsz Tryz.prog 26 = some 1 := by kernel_rfl
@[simp] theorem Tryz.tag26 : tag Tryz.prog 26 = some false := by kernel_rfl
@[simp] theorem Tryz.telem26 : telem Tryz.prog 26 = some 71 := by kernel_rfl
@[simp] theorem Tryz.tarr26 : tarr Tryz.prog 26 = none := by kernel_rfl
@[simp] theorem Tryz.tint26 : tint Tryz.prog 26 = none := by kernel_rfl
@[simp] theorem Tryz.tbool26 : tbool Tryz.prog 26 = false := by kernel_rfl
@[simp] theorem Tryz.tbytes26 : tbytes Tryz.prog 26 = some 24 := by kernel_rfl
@[simp] theorem Tryz.tzero26 : tzero Tryz.prog 26 = some [.slice none 0 0] := by kernel_rfl
@[simp] theorem Tryz.tsz28 : tsz Tryz.prog 28 = some 4 := by kernel_rfl
@[simp] theorem Tryz.tag28 : tag Tryz.prog 28 = some true := by kernel_rfl
@[simp] theorem Tryz.telem28 : telem Tryz.prog 28 = none := by kernel_rfl
@[simp] theorem Tryz.tarr28 : tarr Tryz.prog 28 = none := by kernel_rfl
@[simp] theorem Tryz.tint28 : tint Tryz.prog 28 = none := by kernel_rfl
@[simp] theorem Tryz.tbool28 : tbool Tryz.prog 28 = false := by kernel_rfl
@[simp] theorem Tryz.tbytes28 : tbytes Tryz.prog 28 = some 80 := by kernel_rfl
@[simp] theorem Tryz.tzero28 : tzero Tryz.prog 28 = some [.slice none 0 0, .slice none 0 0, .int .i64 0, .slice none 0 0] := by kernel_rfl
@[simp] theorem Tryz.toff28_0 : toff Tryz.prog 28 0 = some 0 := by kernel_rfl
@[simp] theorem Tryz.tfield28_0 : tfield Tryz.prog 28 0 = some (0, 1, true) := by kernel_rfl
@[simp] theorem Tryz.toff28_1 : toff Tryz.prog 28 1 = some 1 := by kernel_rfl
@[simp] theorem Tryz.tfield28_1 : tfield Tryz.prog 28 1 = some (1, 1, false) := by kernel_rfl
@[simp] theorem Tryz.toff28_2 : toff Tryz.prog 28 2 = some 2 := by kernel_rfl
@[simp] theorem Tryz.tfield28_2 : tfield Tryz.prog 28 2 = some (2, 1, false) := by kernel_rfl
@[simp] theorem Tryz.toff28_3 : toff Tryz.prog 28 3 = some 3 := by kernel_rfl
@[simp] theorem Tryz.tfield28_3 : tfield Tryz.prog 28 3 = some (3, 1, false) := by kernel_rfl
@[simp] theorem Tryz.places28 : placesOf Tryz.prog 28 = some [(0, 1), (1, 1), (2, 1), (3, 1)] := by kernel_rfl
@[simp] theorem Tryz.tsz31 : tsz Tryz.prog 31 = some 1 := by kernel_rfl
@[simp] theorem Tryz.tag31 : tag Tryz.prog 31 = some false := by kernel_rfl
@[simp] theorem Tryz.telem31 : telem Tryz.prog 31 = none := by kernel_rfl
@[simp] theorem Tryz.tarr31 : tarr Tryz.prog 31 = none := by kernel_rfl
@[simp] theorem Tryz.tint31 : tint Tryz.prog 31 = some .i64 := by kernel_rfl
@[simp] theorem Tryz.tbool31 : tbool Tryz.prog 31 = false := by kernel_rfl
@[simp] theorem Tryz.tbytes31 : tbytes Tryz.prog 31 = some 8 := by kernel_rfl
@[simp] theorem Tryz.tzero31 : tzero Tryz.prog 31 = some [.int .i64 0] := by kernel_rfl
@[simp] theorem Tryz.tsz41 : tsz Tryz.prog 41 = some 1 := by kernel_rfl
@[simp] theorem Tryz.tag41 : tag Tryz.prog 41 = some false := by kernel_rfl
@[simp] theorem Tryz.telem41 : telem Tryz.prog 41 = some 91 := by kernel_rfl
@[simp] theorem Tryz.tarr41 : tarr Tryz.prog 41 = none := by kernel_rfl
@[simp] theorem Tryz.tint41 : tint Tryz.prog 41 = none := by kernel_rfl
@[simp] theorem Tryz.tbool41 : tbool Tryz.prog 41 = false := by kernel_rfl
@[simp] theorem Tryz.tbytes41 : tbytes Tryz.prog 41 = some 24 := by kernel_rfl
@[simp] theorem Tryz.tzero41 : tzero Tryz.prog 41 = some [.slice none 0 0] := by kernel_rfl
@[simp] theorem Tryz.tsz49 : tsz Tryz.prog 49 = some 1 := by kernel_rfl
@[simp] theorem Tryz.tag49 : tag Tryz.prog 49 = some false := by kernel_rfl
@[simp] theorem Tryz.telem49 : telem Tryz.prog 49 = some 64 := by kernel_rfl
@[simp] theorem Tryz.tarr49 : tarr Tryz.prog 49 = none := by kernel_rfl
@[simp] theorem Tryz.tint49 : tint Tryz.prog 49 = none := by kernel_rfl
@[simp] theorem Tryz.tbool49 : tbool Tryz.prog 49 = false := by kernel_rfl
@[simp] theorem Tryz.tbytes49 : tbytes Tryz.prog 49 = some 24 := by kernel_rfl
@[simp] theorem Tryz.tzero49 : tzero Tryz.prog 49 = some [.slice none 0 0] := by kernel_rfl
@[simp] theorem Tryz.tsz51 : tsz Tryz.prog 51 = some 2 := by kernel_rfl
@[simp] theorem Tryz.tag51 : tag Tryz.prog 51 = some true := by kernel_rfl
@[simp] theorem Tryz.telem51 : telem Tryz.prog 51 = none := by kernel_rfl
@[simp] theorem Tryz.tarr51 : tarr Tryz.prog 51 = none := by kernel_rfl
@[simp] theorem Tryz.tint51 : tint Tryz.prog 51 = none := by kernel_rfl
@[simp] theorem Tryz.tbool51 : tbool Tryz.prog 51 = false := by kernel_rfl
@[simp] theorem Tryz.tbytes51 : tbytes Tryz.prog 51 = some 48 := by kernel_rfl
@[simp] theorem Tryz.tzero51 : tzero Tryz.prog 51 = some [.slice none 0 0, .slice none 0 0] := by kernel_rfl
@[simp] theorem Tryz.toff51_0 : toff Tryz.prog 51 0 = some 0 := by kernel_rfl
@[simp] theorem Tryz.tfield51_0 : tfield Tryz.prog 51 0 = some (0, 1, true) := by kernel_rfl
@[simp] theorem Tryz.toff51_1 : toff Tryz.prog 51 1 = some 1 := by kernel_rfl
@[simp] theorem Tryz.tfield51_1 : tfield Tryz.prog 51 1 = some (1, 1, false) := by kernel_rfl
@[simp] theorem Tryz.places51 : placesOf Tryz.prog 51 = some [(0, 1), (1, 1)] := by kernel_rfl
@[simp] theorem Tryz.tsz64 : tsz Tryz.prog 64 = some 10 := by kernel_rfl
@[simp] theorem Tryz.tag64 : tag Tryz.prog 64 = some true := by kernel_rfl
@[simp] theorem Tryz.telem64 : telem Tryz.prog 64 = none := by kernel_rfl
@[simp] theorem Tryz.tarr64 : tarr Tryz.prog 64 = none := by kernel_rfl
@[simp] theorem Tryz.tint64 : tint Tryz.prog 64 = none := by kernel_rfl
@[simp] theorem Tryz.tbool64 : tbool Tryz.prog 64 = false := by kernel_rfl
@[simp] theorem Tryz.tbytes64 : tbytes Tryz.prog 64 = some 72 := by kernel_rfl
@[simp] theorem Tryz.tzero64 : tzero Tryz.prog 64 = some [.int .i64 0, .int .i64 0, .int .u8 0, .int .i64 0, .int .i64 0, .int .i64 0, .int .i64 0, .int .i64 0, .bool false, .int .u8 0] := by kernel_rfl
@[simp] theorem Tryz.toff64_0 : toff Tryz.prog 64 0 = some 0 := by kernel_rfl
@[simp] theorem Tryz.tfield64_0 : tfield Tryz.prog 64 0 = some (0, 1, false) := by kernel_rfl
@[simp] theorem Tryz.toff64_1 : toff Tryz.prog 64 1 = some 1 := by kernel_rfl
@[simp] theorem Tryz.tfield64_1 : tfield Tryz.prog 64 1 = some (1, 1, false) := by kernel_rfl
@[simp] theorem Tryz.toff64_2 : toff Tryz.prog 64 2 = some 2 := by kernel_rfl
@[simp] theorem Tryz.tfield64_2 : tfield Tryz.prog 64 2 = some (2, 1, false) := by kernel_rfl
@[simp] theorem Tryz.toff64_3 : toff Tryz.prog 64 3 = some 3 := by kernel_rfl
@[simp] theorem Tryz.tfield64_3 : tfield Tryz.prog 64 3 = some (3, 1, false) := by kernel_rfl
@[simp] theorem Tryz.toff64_4 : toff Tryz.prog 64 4 = some 4 := by kernel_rfl
@[simp] theorem Tryz.tfield64_4 : tfield Tryz.prog 64 4 = some (4, 1, false) := by kernel_rfl
@[simp] theorem Tryz.toff64_5 : toff Tryz.prog 64 5 = some 5 := by kernel_rfl
@[simp] theorem Tryz.tfield64_5 : tfield Tryz.prog 64 5 = some (5, 1, false) := by kernel_rfl
@[simp] theorem Tryz.toff64_6 : toff Tryz.prog 64 6 = some 6 := by kernel_rfl
@[simp] theorem Tryz.tfield64_6 : tfield Tryz.prog 64 6 = some (6, 1, false) := by kernel_rfl
@[simp] theorem Tryz.toff64_7 : toff Tryz.prog 64 7 = some 7 := by kernel_rfl
@[simp] theorem Tryz.tfield64_7 : tfield Tryz.prog 64 7 = some (7, 1, false) := by kernel_rfl
@[simp] theorem Tryz.toff64_8 : toff Tryz.prog 64 8 = some 8 := by kernel_rfl
@[simp] theorem Tryz.tfield64_8 : tfield Tryz.prog 64 8 = some (8, 1, false) := by kernel_rfl
@[simp] theorem Tryz.toff64_9 : toff Tryz.prog 64 9 = some 9 := by kernel_rfl
@[simp] theorem Tryz.tfield64_9 : tfield Tryz.prog 64 9 = some (9, 1, false) := by kernel_rfl
@[simp] theorem Tryz.eqShape64 : eqShape Tryz.prog 64 = some [.int .i64, .int .i64, .int .u8, .int .i64, .int .i64, .int .i64, .int .i64, .int .i64, .bool, .int .u8] := by kernel_rfl
@[simp] theorem Tryz.places64 : placesOf Tryz.prog 64 = some [(0, 1), (1, 1), (2, 1), (3, 1), (4, 1), (5, 1), (6, 1), (7, 1), (8, 1), (9, 1)] := by kernel_rfl
@[simp] theorem Tryz.tsz67 : tsz Tryz.prog 67 = some 1 := by kernel_rfl
@[simp] theorem Tryz.tag67 : tag Tryz.prog 67 = some false := by kernel_rfl
@[simp] theorem Tryz.telem67 : telem Tryz.prog 67 = some 98 := by kernel_rfl
@[simp] theorem Tryz.tarr67 : tarr Tryz.prog 67 = none := by kernel_rfl
@[simp] theorem Tryz.tint67 : tint Tryz.prog 67 = none := by kernel_rfl
@[simp] theorem Tryz.tbool67 : tbool Tryz.prog 67 = false := by kernel_rfl
@[simp] theorem Tryz.tbytes67 : tbytes Tryz.prog 67 = some 24 := by kernel_rfl
@[simp] theorem Tryz.tzero67 : tzero Tryz.prog 67 = some [.slice none 0 0] := by kernel_rfl
@[simp] theorem Tryz.tsz69 : tsz Tryz.prog 69 = some 2 := by kernel_rfl
@[simp] theorem Tryz.tag69 : tag Tryz.prog 69 = some true := by kernel_rfl
@[simp] theorem Tryz.telem69 : telem Tryz.prog 69 = none := by kernel_rfl
@[simp] theorem Tryz.tarr69 : tarr Tryz.prog 69 = none := by kernel_rfl
@[simp] theorem Tryz.tint69 : tint Tryz.prog 69 = none := by kernel_rfl
@[simp] theorem Tryz.tbool69 : tbool Tryz.prog 69 = false := by kernel_rfl
@[simp] theorem Tryz.tbytes69 : tbytes Tryz.prog 69 = some 16 := by kernel_rfl
@[simp] theorem Tryz.tzero69 : tzero Tryz.prog 69 = some [.int .i64 0, .int .i64 0] := by kernel_rfl
@[simp] theorem Tryz.toff69_0 : toff Tryz.prog 69 0 = some 0 := by kernel_rfl
@[simp] theorem Tryz.tfield69_0 : tfield Tryz.prog 69 0 = some (0, 1, false) := by kernel_rfl
@[simp] theorem Tryz.toff69_1 : toff Tryz.prog 69 1 = some 1 := by kernel_rfl
@[simp] theorem Tryz.tfield69_1 : tfield Tryz.prog 69 1 = some (1, 1, false) := by kernel_rfl
@[simp] theorem Tryz.eqShape69 : eqShape Tryz.prog 69 = some [.int .i64, .int .i64] := by kernel_rfl
@[simp] theorem Tryz.places69 : placesOf Tryz.prog 69 = some [(0, 1), (1, 1)] := by kernel_rfl
@[simp] theorem Tryz.tsz71 : tsz Tryz.prog 71 = some 3 := by kernel_rfl
@[simp] theorem Tryz.tag71 : tag Tryz.prog 71 = some true := by kernel_rfl
@[simp] theorem Tryz.telem71 : telem Tryz.prog 71 = none := by kernel_rfl
@[simp] theorem Tryz.tarr71 : tarr Tryz.prog 71 = none := by kernel_rfl
@[simp] theorem Tryz.tint71 : tint Tryz.prog 71 = none := by kernel_rfl
@[simp] theorem Tryz.tbool71 : tbool Tryz.prog 71 = false := by kernel_rfl
@[simp] theorem Tryz.tbytes71 : tbytes Tryz.prog 71 = some 40 := by kernel_rfl
@[simp] theorem Tryz.tzero71 : tzero Tryz.prog 71 = some [.slice none 0 0, .int .i64 0, .int .i64 0] := by kernel_rfl
@[simp] theorem Tryz.toff71_0 : toff Tryz.prog 71 0 = some 0 := by kernel_rfl
@[simp] theorem Tryz.tfield71_0 : tfield Tryz.prog 71 0 = some (0, 1, false) := by kernel_rfl
@[simp] theorem Tryz.toff71_1 : toff Tryz.prog 71 1 = some 1 := by kernel_rfl
@[simp] theorem Tryz.tfield71_1 : tfield Tryz.prog 71 1 = some (1, 2, true) := by kernel_rfl
@[simp] theorem Tryz.places71 : placesOf Tryz.prog 71 = some [(0, 1), (1, 2)] := by kernel_rfl
@[simp] theorem Tryz.tsz73 : tsz Tryz.prog 73 = some 1 := by kernel_rfl
@[simp] theorem Tryz.tag73 : tag Tryz.prog 73 = some false := by kernel_rfl
@[simp] theorem Tryz.telem73 : telem Tryz.prog 73 = none := by kernel_rfl
@[simp] theorem Tryz.tarr73 : tarr Tryz.prog 73 = none := by kernel_rfl
@[simp] theorem Tryz.tint73 : tint Tryz.prog 73 = none := by kernel_rfl
@[simp] theorem Tryz.tbool73 : tbool Tryz.prog 73 = false := by kernel_rfl
@[simp] theorem Tryz.tbytes73 : tbytes Tryz.prog 73 = some 8 := by kernel_rfl
@[simp] theorem Tryz.tzero73 : tzero Tryz.prog 73 = some [.pointer none] := by kernel_rfl
@[simp] theorem Tryz.tsz77 : tsz Tryz.prog 77 = some 1 := by kernel_rfl
@[simp] theorem Tryz.tag77 : tag Tryz.prog 77 = some false := by kernel_rfl
@[simp] theorem Tryz.telem77 : telem Tryz.prog 77 = some 84 := by kernel_rfl
@[simp] theorem Tryz.tarr77 : tarr Tryz.prog 77 = none := by kernel_rfl
@[simp] theorem Tryz.tint77 : tint Tryz.prog 77 = none := by kernel_rfl
@[simp] theorem Tryz.tbool77 : tbool Tryz.prog 77 = false := by kernel_rfl
@[simp] theorem Tryz.tbytes77 : tbytes Tryz.prog 77 = some 24 := by kernel_rfl
@[simp] theorem Tryz.tzero77 : tzero Tryz.prog 77 = some [.slice none 0 0] := by kernel_rfl
@[simp] theorem Tryz.tsz79 : tsz Tryz.prog 79 = some 1 := by kernel_rfl
@[simp] theorem Tryz.tag79 : tag Tryz.prog 79 = some false := by kernel_rfl
@[simp] theorem Tryz.telem79 : telem Tryz.prog 79 = none := by kernel_rfl
@[simp] theorem Tryz.tarr79 : tarr Tryz.prog 79 = none := by kernel_rfl
@[simp] theorem Tryz.tint79 : tint Tryz.prog 79 = none := by kernel_rfl
@[simp] theorem Tryz.tbool79 : tbool Tryz.prog 79 = false := by kernel_rfl
@[simp] theorem Tryz.tbytes79 : tbytes Tryz.prog 79 = some 8 := by kernel_rfl
@[simp] theorem Tryz.tzero79 : tzero Tryz.prog 79 = some [.nilFunc] := by kernel_rfl
@[simp] theorem Tryz.tsz84 : tsz Tryz.prog 84 = some 3 := by kernel_rfl
@[simp] theorem Tryz.tag84 : tag Tryz.prog 84 = some true := by kernel_rfl
@[simp] theorem Tryz.telem84 : telem Tryz.prog 84 = none := by kernel_rfl
@[simp] theorem Tryz.tarr84 : tarr Tryz.prog 84 = none := by kernel_rfl
@[simp] theorem Tryz.tint84 : tint Tryz.prog 84 = none := by kernel_rfl
@[simp] theorem Tryz.tbool84 : tbool Tryz.prog 84 = false := by kernel_rfl
@[simp] theorem Tryz.tbytes84 : tbytes Tryz.prog 84 = some 24 := by kernel_rfl
@[simp] theorem Tryz.tzero84 : tzero Tryz.prog 84 = some [.int .i64 0, .int .i64 0, .int .i64 0] := by kernel_rfl
@[simp] theorem Tryz.toff84_0 : toff Tryz.prog 84 0 = some 0 := by kernel_rfl
@[simp] theorem Tryz.tfield84_0 : tfield Tryz.prog 84 0 = some (0, 1, false) := by kernel_rfl
@[simp] theorem Tryz.toff84_1 : toff Tryz.prog 84 1 = some 1 := by kernel_rfl
@[simp] theorem Tryz.tfield84_1 : tfield Tryz.prog 84 1 = some (1, 1, false) := by kernel_rfl
@[simp] theorem Tryz.toff84_2 : toff Tryz.prog 84 2 = some 2 := by kernel_rfl
@[simp] theorem Tryz.tfield84_2 : tfield Tryz.prog 84 2 = some (2, 1, false) := by kernel_rfl
@[simp] theorem Tryz.eqShape84 : eqShape Tryz.prog 84 = some [.int .i64, .int .i64, .int .i64] := by kernel_rfl
@[simp] theorem Tryz.places84 : placesOf Tryz.prog 84 = some [(0, 1), (1, 1), (2, 1)] := by kernel_rfl
@[simp] theorem Tryz.tsz91 : tsz Tryz.prog 91 = some 2 := by kernel_rfl
@[simp] theorem Tryz.tag91 : tag Tryz.prog 91 = some true := by kernel_rfl
@[simp] theorem Tryz.telem91 : telem Tryz.prog 91 = none := by kernel_rfl
@[simp] theorem Tryz.tarr91 : tarr Tryz.prog 91 = none := by kernel_rfl
@[simp] theorem Tryz.tint91 : tint Tryz.prog 91 = none := by kernel_rfl
@[simp] theorem Tryz.tbool91 : tbool Tryz.prog 91 = false := by kernel_rfl
@[simp] theorem Tryz.tbytes91 : tbytes Tryz.prog 91 = some 16 := by kernel_rfl
@[simp] theorem Tryz.tzero91 : tzero Tryz.prog 91 = some [.int .i64 0, .int .i64 0] := by kernel_rfl
@[simp] theorem Tryz.toff91_0 : toff Tryz.prog 91 0 = some 0 := by kernel_rfl
@[simp] theorem Tryz.tfield91_0 : tfield Tryz.prog 91 0 = some (0, 1, false) := by kernel_rfl
@[simp] theorem Tryz.toff91_1 : toff Tryz.prog 91 1 = some 1 := by kernel_rfl
@[simp] theorem Tryz.tfield91_1 : tfield Tryz.prog 91 1 = some (1, 1, false) := by kernel_rfl
@[simp] theorem Tryz.eqShape91 : eqShape Tryz.prog 91 = some [.int .i64, .int .i64] := by kernel_rfl
@[simp] theorem Tryz.places91 : placesOf Tryz.prog 91 = some [(0, 1), (1, 1)] := by kernel_rfl
@[simp] theorem Tryz.tsz93 : tsz Tryz.prog 93 = some 1 := by kernel_rfl
@[simp] theorem Tryz.tag93 : tag Tryz.prog 93 = some false := by kernel_rfl
@[simp] theorem Tryz.telem93 : telem Tryz.prog 93 = none := by kernel_rfl
@[simp] theorem Tryz.tarr93 : tarr Tryz.prog 93 = none := by kernel_rfl
@[simp] theorem Tryz.tint93 : tint Tryz.prog 93 = none := by kernel_rfl
@[simp] theorem Tryz.tbool93 : tbool Tryz.prog 93 = false := by kernel_rfl
@[simp] theorem Tryz.tbytes93 : tbytes Tryz.prog 93 = some 8 := by kernel_rfl
@[simp] theorem Tryz.tzero93 : tzero Tryz.prog 93 = some [.nilFunc] := by kernel_rfl
@[simp] theorem Tryz.tsz98 : tsz Tryz.prog 98 = some 3 := by kernel_rfl
@[simp] theorem Tryz.tag98 : tag Tryz.prog 98 = some true := by kernel_rfl
@[simp] theorem Tryz.telem98 : telem Tryz.prog 98 = none := by kernel_rfl
@[simp] theorem Tryz.tarr98 : tarr Tryz.prog 98 = none := by kernel_rfl
@[simp] theorem Tryz.tint98 : tint Tryz.prog 98 = none := by kernel_rfl
@[simp] theorem Tryz.tbool98 : tbool Tryz.prog 98 = false := by kernel_rfl
@[simp] theorem Tryz.tbytes98 : tbytes Tryz.prog 98 = some 24 := by kernel_rfl
@[simp] theorem Tryz.tzero98 : tzero Tryz.prog 98 = some [.int .i64 0, .int .i64 0, .bool false] := by kernel_rfl
@[simp] theorem Tryz.toff98_0 : toff Tryz.prog 98 0 = some 0 := by kernel_rfl
@[simp] theorem Tryz.tfield98_0 : tfield Tryz.prog 98 0 = some (0, 1, false) := by kernel_rfl
@[simp] theorem Tryz.toff98_1 : toff Tryz.prog 98 1 = some 1 := by kernel_rfl
@[simp] theorem Tryz.tfield98_1 : tfield Tryz.prog 98 1 = some (1, 1, false) := by kernel_rfl
@[simp] theorem Tryz.toff98_2 : toff Tryz.prog 98 2 = some 2 := by kernel_rfl
@[simp] theorem Tryz.tfield98_2 : tfield Tryz.prog 98 2 = some (2, 1, false) := by kernel_rfl
@[simp] theorem Tryz.eqShape98 : eqShape Tryz.prog 98 = some [.int .i64, .int .i64, .bool] := by kernel_rfl
@[simp] theorem Tryz.places98 : placesOf Tryz.prog 98 = some [(0, 1), (1, 1), (2, 1)] := by kernel_rfl
@[simp] theorem Tryz.tsz99 : tsz Tryz.prog 99 = some 1 := by kernel_rfl
@[simp] theorem Tryz.tag99 : tag Tryz.prog 99 = some false := by kernel_rfl
@[simp] theorem Tryz.telem99 : telem Tryz.prog 99 = none := by kernel_rfl
@[simp] theorem Tryz.tarr99 : tarr Tryz.prog 99 = none := by kernel_rfl
@[simp] theorem Tryz.tint99 : tint Tryz.prog 99 = none := by kernel_rfl
@[simp] theorem Tryz.tbool99 : tbool Tryz.prog 99 = false := by kernel_rfl
@[simp] theorem Tryz.tbytes99 : tbytes Tryz.prog 99 = some 8 := by kernel_rfl
@[simp] theorem Tryz.tzero99 : tzero Tryz.prog 99 = some [.pointer none] := by kernel_rfl
@[simp] theorem Tryz.tsz106 : tsz Tryz.prog 106 = some 1 := by kernel_rfl
@[simp] theorem Tryz.tag106 : tag Tryz.prog 106 = some false := by kernel_rfl
@[simp] theorem Tryz.telem106 : telem Tryz.prog 106 = none := by kernel_rfl
@[simp] theorem Tryz.tarr106 : tarr Tryz.prog 106 = none := by kernel_rfl
@[simp] theorem Tryz.tint106 : tint Tryz.prog 106 = none := by kernel_rfl
@[simp] theorem Tryz.tbool106 : tbool Tryz.prog 106 = false := by kernel_rfl
@[simp] theorem Tryz.tbytes106 : tbytes Tryz.prog 106 = some 8 := by kernel_rfl
@[simp] theorem Tryz.tzero106 : tzero Tryz.prog 106 = some [.nilFunc] := by kernel_rfl
@[simp] theorem Tryz.tsz111 : tsz Tryz.prog 111 = some 1 := by kernel_rfl
@[simp] theorem Tryz.tag111 : tag Tryz.prog 111 = some false := by kernel_rfl
@[simp] theorem Tryz.telem111 : telem Tryz.prog 111 = none := by kernel_rfl
@[simp] theorem Tryz.tarr111 : tarr Tryz.prog 111 = none := by kernel_rfl
@[simp] theorem Tryz.tint111 : tint Tryz.prog 111 = none := by kernel_rfl
@[simp] theorem Tryz.tbool111 : tbool Tryz.prog 111 = false := by kernel_rfl
@[simp] theorem Tryz.tbytes111 : tbytes Tryz.prog 111 = some 8 := by kernel_rfl
@[simp] theorem Tryz.tzero111 : tzero Tryz.prog 111 = some [.nilFunc] := by kernel_rfl
@[simp] theorem Tryz.tsz112 : tsz Tryz.prog 112 = some 9 := by kernel_rfl
@[simp] theorem Tryz.tag112 : tag Tryz.prog 112 = some true := by kernel_rfl
@[simp] theorem Tryz.telem112 : telem Tryz.prog 112 = none := by kernel_rfl
@[simp] theorem Tryz.tarr112 : tarr Tryz.prog 112 = some (9, 4) := by kernel_rfl
@[simp] theorem Tryz.tint112 : tint Tryz.prog 112 = none := by kernel_rfl
@[simp] theorem Tryz.tbool112 : tbool Tryz.prog 112 = false := by kernel_rfl
@[simp] theorem Tryz.tbytes112 : tbytes Tryz.prog 112 = some 9 := by kernel_rfl
@[simp] theorem Tryz.tzero112 : tzero Tryz.prog 112 = some [.bool false, .bool false, .bool false, .bool false, .bool false, .bool false, .bool false, .bool false, .bool false] := by kernel_rfl
@[simp] theorem Tryz.places112 : placesOf Tryz.prog 112 = some [(0, 1), (1, 1), (2, 1), (3, 1), (4, 1), (5, 1), (6, 1), (7, 1), (8, 1)] := by kernel_rfl
@[simp] theorem Tryz.tarrB112 : eqArrOk.tarr' Tryz.prog 112 = some (9, 4) := by kernel_rfl
@[simp] theorem Tryz.eqShape112 : eqShape Tryz.prog 112 = none := by kernel_rfl
@[simp] theorem Tryz.tsz113 : tsz Tryz.prog 113 = some 1 := by kernel_rfl
@[simp] theorem Tryz.tag113 : tag Tryz.prog 113 = some false := by kernel_rfl
@[simp] theorem Tryz.telem113 : telem Tryz.prog 113 = some 25 := by kernel_rfl
@[simp] theorem Tryz.tarr113 : tarr Tryz.prog 113 = none := by kernel_rfl
@[simp] theorem Tryz.tint113 : tint Tryz.prog 113 = none := by kernel_rfl
@[simp] theorem Tryz.tbool113 : tbool Tryz.prog 113 = false := by kernel_rfl
@[simp] theorem Tryz.tbytes113 : tbytes Tryz.prog 113 = some 24 := by kernel_rfl
@[simp] theorem Tryz.tzero113 : tzero Tryz.prog 113 = some [.slice none 0 0] := by kernel_rfl
@[simp] theorem Tryz.tsz116 : tsz Tryz.prog 116 = some 1 := by kernel_rfl
@[simp] theorem Tryz.tag116 : tag Tryz.prog 116 = some false := by kernel_rfl
@[simp] theorem Tryz.telem116 : telem Tryz.prog 116 = some 4 := by kernel_rfl
@[simp] theorem Tryz.tarr116 : tarr Tryz.prog 116 = none := by kernel_rfl
@[simp] theorem Tryz.tint116 : tint Tryz.prog 116 = none := by kernel_rfl
@[simp] theorem Tryz.tbool116 : tbool Tryz.prog 116 = false := by kernel_rfl
@[simp] theorem Tryz.tbytes116 : tbytes Tryz.prog 116 = some 24 := by kernel_rfl
@[simp] theorem Tryz.tzero116 : tzero Tryz.prog 116 = some [.slice none 0 0] := by kernel_rfl
@[simp] theorem Tryz.tsz122 : tsz Tryz.prog 122 = some 4 := by kernel_rfl
@[simp] theorem Tryz.tag122 : tag Tryz.prog 122 = some true := by kernel_rfl
@[simp] theorem Tryz.telem122 : telem Tryz.prog 122 = none := by kernel_rfl
@[simp] theorem Tryz.tarr122 : tarr Tryz.prog 122 = none := by kernel_rfl
@[simp] theorem Tryz.tint122 : tint Tryz.prog 122 = none := by kernel_rfl
@[simp] theorem Tryz.tbool122 : tbool Tryz.prog 122 = false := by kernel_rfl
@[simp] theorem Tryz.tbytes122 : tbytes Tryz.prog 122 = some 96 := by kernel_rfl
@[simp] theorem Tryz.tzero122 : tzero Tryz.prog 122 = some [.slice none 0 0, .slice none 0 0, .slice none 0 0, .slice none 0 0] := by kernel_rfl
@[simp] theorem Tryz.toff122_0 : toff Tryz.prog 122 0 = some 0 := by kernel_rfl
@[simp] theorem Tryz.tfield122_0 : tfield Tryz.prog 122 0 = some (0, 2, true) := by kernel_rfl
@[simp] theorem Tryz.toff122_1 : toff Tryz.prog 122 1 = some 2 := by kernel_rfl
@[simp] theorem Tryz.tfield122_1 : tfield Tryz.prog 122 1 = some (2, 1, false) := by kernel_rfl
@[simp] theorem Tryz.toff122_2 : toff Tryz.prog 122 2 = some 3 := by kernel_rfl
@[simp] theorem Tryz.tfield122_2 : tfield Tryz.prog 122 2 = some (3, 1, false) := by kernel_rfl
@[simp] theorem Tryz.places122 : placesOf Tryz.prog 122 = some [(0, 2), (2, 1), (3, 1)] := by kernel_rfl
@[simp] theorem Tryz.tsz127 : tsz Tryz.prog 127 = some 1 := by kernel_rfl
@[simp] theorem Tryz.tag127 : tag Tryz.prog 127 = some false := by kernel_rfl
@[simp] theorem Tryz.telem127 : telem Tryz.prog 127 = some 132 := by kernel_rfl
@[simp] theorem Tryz.tarr127 : tarr Tryz.prog 127 = none := by kernel_rfl
@[simp] theorem Tryz.tint127 : tint Tryz.prog 127 = none := by kernel_rfl
@[simp] theorem Tryz.tbool127 : tbool Tryz.prog 127 = false := by kernel_rfl
@[simp] theorem Tryz.tbytes127 : tbytes Tryz.prog 127 = some 24 := by kernel_rfl
@[simp] theorem Tryz.tzero127 : tzero Tryz.prog 127 = some [.slice none 0 0] := by kernel_rfl
@[simp] theorem Tryz.tsz129 : tsz Tryz.prog 129 = some 5 := by kernel_rfl
@[simp] theorem Tryz.tag129 : tag Tryz.prog 129 = some true := by kernel_rfl
@[simp] theorem Tryz.telem129 : telem Tryz.prog 129 = none := by kernel_rfl
@[simp] theorem Tryz.tarr129 : tarr Tryz.prog 129 = none := by kernel_rfl
@[simp] theorem Tryz.tint129 : tint Tryz.prog 129 = none := by kernel_rfl
@[simp] theorem Tryz.tbool129 : tbool Tryz.prog 129 = false := by kernel_rfl
@[simp] theorem Tryz.tbytes129 : tbytes Tryz.prog 129 = some 72 := by kernel_rfl
@[simp] theorem Tryz.tzero129 : tzero Tryz.prog 129 = some [.int .i64 0, .int .i64 0, .int .u8 0, .slice none 0 0, .slice none 0 0] := by kernel_rfl
@[simp] theorem Tryz.toff129_0 : toff Tryz.prog 129 0 = some 0 := by kernel_rfl
@[simp] theorem Tryz.tfield129_0 : tfield Tryz.prog 129 0 = some (0, 1, false) := by kernel_rfl
@[simp] theorem Tryz.toff129_1 : toff Tryz.prog 129 1 = some 1 := by kernel_rfl
@[simp] theorem Tryz.tfield129_1 : tfield Tryz.prog 129 1 = some (1, 1, false) := by kernel_rfl
@[simp] theorem Tryz.toff129_2 : toff Tryz.prog 129 2 = some 2 := by kernel_rfl
@[simp] theorem Tryz.tfield129_2 : tfield Tryz.prog 129 2 = some (2, 1, false) := by kernel_rfl
@[simp] theorem Tryz.toff129_3 : toff Tryz.prog 129 3 = some 3 := by kernel_rfl
@[simp] theorem Tryz.tfield129_3 : tfield Tryz.prog 129 3 = some (3, 1, false) := by kernel_rfl
@[simp] theorem Tryz.toff129_4 : toff Tryz.prog 129 4 = some 4 := by kernel_rfl
@[simp] theorem Tryz.tfield129_4 : tfield Tryz.prog 129 4 = some (4, 1, false) := by kernel_rfl
@[simp] theorem Tryz.places129 : placesOf Tryz.prog 129 = some [(0, 1), (1, 1), (2, 1), (3, 1), (4, 1)] := by kernel_rfl
@[simp] theorem Tryz.tsz132 : tsz Tryz.prog 132 = some 2 := by kernel_rfl
@[simp] theorem Tryz.tag132 : tag Tryz.prog 132 = some true := by kernel_rfl
@[simp] theorem Tryz.telem132 : telem Tryz.prog 132 = none := by kernel_rfl
@[simp] theorem Tryz.tarr132 : tarr Tryz.prog 132 = none := by kernel_rfl
@[simp] theorem Tryz.tint132 : tint Tryz.prog 132 = none := by kernel_rfl
@[simp] theorem Tryz.tbool132 : tbool Tryz.prog 132 = false := by kernel_rfl
@[simp] theorem Tryz.tbytes132 : tbytes Tryz.prog 132 = some 16 := by kernel_rfl
@[simp] theorem Tryz.tzero132 : tzero Tryz.prog 132 = some [.int .i64 0, .int .i64 0] := by kernel_rfl
@[simp] theorem Tryz.toff132_0 : toff Tryz.prog 132 0 = some 0 := by kernel_rfl
@[simp] theorem Tryz.tfield132_0 : tfield Tryz.prog 132 0 = some (0, 1, false) := by kernel_rfl
@[simp] theorem Tryz.toff132_1 : toff Tryz.prog 132 1 = some 1 := by kernel_rfl
@[simp] theorem Tryz.tfield132_1 : tfield Tryz.prog 132 1 = some (1, 1, false) := by kernel_rfl
@[simp] theorem Tryz.eqShape132 : eqShape Tryz.prog 132 = some [.int .i64, .int .i64] := by kernel_rfl
@[simp] theorem Tryz.places132 : placesOf Tryz.prog 132 = some [(0, 1), (1, 1)] := by kernel_rfl
@[simp] theorem Tryz.tsz135 : tsz Tryz.prog 135 = some 1 := by kernel_rfl
@[simp] theorem Tryz.tag135 : tag Tryz.prog 135 = some false := by kernel_rfl
@[simp] theorem Tryz.telem135 : telem Tryz.prog 135 = none := by kernel_rfl
@[simp] theorem Tryz.tarr135 : tarr Tryz.prog 135 = none := by kernel_rfl
@[simp] theorem Tryz.tint135 : tint Tryz.prog 135 = none := by kernel_rfl
@[simp] theorem Tryz.tbool135 : tbool Tryz.prog 135 = false := by kernel_rfl
@[simp] theorem Tryz.tbytes135 : tbytes Tryz.prog 135 = some 8 := by kernel_rfl
@[simp] theorem Tryz.tzero135 : tzero Tryz.prog 135 = some [.nilFunc] := by kernel_rfl
@[simp] theorem Tryz.tsz139 : tsz Tryz.prog 139 = some 1 := by kernel_rfl
@[simp] theorem Tryz.tag139 : tag Tryz.prog 139 = some false := by kernel_rfl
@[simp] theorem Tryz.telem139 : telem Tryz.prog 139 = none := by kernel_rfl
@[simp] theorem Tryz.tarr139 : tarr Tryz.prog 139 = none := by kernel_rfl
@[simp] theorem Tryz.tint139 : tint Tryz.prog 139 = none := by kernel_rfl
@[simp] theorem Tryz.tbool139 : tbool Tryz.prog 139 = false := by kernel_rfl
@[simp] theorem Tryz.tbytes139 : tbytes Tryz.prog 139 = some 8 := by kernel_rfl
@[simp] theorem Tryz.tzero139 : tzero Tryz.prog 139 = some [.map none] := by kernel_rfl
@[simp] theorem Tryz.tmap139 : tmap Tryz.prog 139 = some (3, 3) := by kernel_rfl
@[simp] theorem Tryz.tsz140 : tsz Tryz.prog 140 = some 1 := by kernel_rfl
@[simp] theorem Tryz.tag140 : tag Tryz.prog 140 = some false := by kernel_rfl
@[simp] theorem Tryz.telem140 : telem Tryz.prog 140 = none := by kernel_rfl
@[simp] theorem Tryz.tarr140 : tarr Tryz.prog 140 = none := by kernel_rfl
@[simp] theorem Tryz.tint140 : tint Tryz.prog 140 = none := by kernel_rfl
@[simp] theorem Tryz.tbool140 : tbool Tryz.prog 140 = false := by kernel_rfl
@[simp] theorem Tryz.tbytes140 : tbytes Tryz.prog 140 = some 8 := by kernel_rfl
@[simp] theorem Tryz.tzero140 : tzero Tryz.prog 140 = some [.map none] := by kernel_rfl
@[simp] theorem Tryz.tmap140 : tmap Tryz.prog 140 = some (3, 129) := by kernel_rfl
@[simp] theorem Tryz.tsz142 : tsz Tryz.prog 142 = some 6 := by kernel_rfl
@[simp] theorem Tryz.tag142 : tag Tryz.prog 142 = some true := by kernel_rfl
@[simp] theorem Tryz.telem142 : telem Tryz.prog 142 = none := by kernel_rfl
@[simp] theorem Tryz.tarr142 : tarr Tryz.prog 142 = none := by kernel_rfl
@[simp] theorem Tryz.tint142 : tint Tryz.prog 142 = none := by kernel_rfl
@[simp] theorem Tryz.tbool142 : tbool Tryz.prog 142 = false := by kernel_rfl
@[simp] theorem Tryz.tbytes142 : tbytes Tryz.prog 142 = some 96 := by kernel_rfl
@[simp] theorem Tryz.tzero142 : tzero Tryz.prog 142 = some [.slice none 0 0, .slice none 0 0, .int .i64 0, .slice none 0 0, .map none, .map none] := by kernel_rfl
@[simp] theorem Tryz.toff142_0 : toff Tryz.prog 142 0 = some 0 := by kernel_rfl
@[simp] theorem Tryz.tfield142_0 : tfield Tryz.prog 142 0 = some (0, 4, true) := by kernel_rfl
@[simp] theorem Tryz.toff142_1 : toff Tryz.prog 142 1 = some 4 := by kernel_rfl
@[simp] theorem Tryz.tfield142_1 : tfield Tryz.prog 142 1 = some (4, 1, false) := by kernel_rfl
@[simp] theorem Tryz.toff142_2 : toff Tryz.prog 142 2 = some 5 := by kernel_rfl
@[simp] theorem Tryz.tfield142_2 : tfield Tryz.prog 142 2 = some (5, 1, false) := by kernel_rfl
@[simp] theorem Tryz.places142 : placesOf Tryz.prog 142 = some [(0, 4), (4, 1), (5, 1)] := by kernel_rfl
@[simp] theorem Tryz.tsz155 : tsz Tryz.prog 155 = some 2 := by kernel_rfl
@[simp] theorem Tryz.tag155 : tag Tryz.prog 155 = some true := by kernel_rfl
@[simp] theorem Tryz.telem155 : telem Tryz.prog 155 = none := by kernel_rfl
@[simp] theorem Tryz.tarr155 : tarr Tryz.prog 155 = none := by kernel_rfl
@[simp] theorem Tryz.tint155 : tint Tryz.prog 155 = none := by kernel_rfl
@[simp] theorem Tryz.tbool155 : tbool Tryz.prog 155 = false := by kernel_rfl
@[simp] theorem Tryz.tbytes155 : tbytes Tryz.prog 155 = some 16 := by kernel_rfl
@[simp] theorem Tryz.tzero155 : tzero Tryz.prog 155 = some [.int .i64 0, .int .i64 0] := by kernel_rfl
@[simp] theorem Tryz.toff155_0 : toff Tryz.prog 155 0 = some 0 := by kernel_rfl
@[simp] theorem Tryz.tfield155_0 : tfield Tryz.prog 155 0 = some (0, 1, false) := by kernel_rfl
@[simp] theorem Tryz.toff155_1 : toff Tryz.prog 155 1 = some 1 := by kernel_rfl
@[simp] theorem Tryz.tfield155_1 : tfield Tryz.prog 155 1 = some (1, 1, false) := by kernel_rfl
@[simp] theorem Tryz.eqShape155 : eqShape Tryz.prog 155 = some [.int .i64, .int .i64] := by kernel_rfl
@[simp] theorem Tryz.places155 : placesOf Tryz.prog 155 = some [(0, 1), (1, 1)] := by kernel_rfl
@[simp] theorem Tryz.tsz156 : tsz Tryz.prog 156 = some 1 := by kernel_rfl
@[simp] theorem Tryz.tag156 : tag Tryz.prog 156 = some false := by kernel_rfl
@[simp] theorem Tryz.telem156 : telem Tryz.prog 156 = none := by kernel_rfl
@[simp] theorem Tryz.tarr156 : tarr Tryz.prog 156 = none := by kernel_rfl
@[simp] theorem Tryz.tint156 : tint Tryz.prog 156 = none := by kernel_rfl
@[simp] theorem Tryz.tbool156 : tbool Tryz.prog 156 = false := by kernel_rfl
@[simp] theorem Tryz.tbytes156 : tbytes Tryz.prog 156 = some 8 := by kernel_rfl
@[simp] theorem Tryz.tzero156 : tzero Tryz.prog 156 = some [.nilFunc] := by kernel_rfl
@[simp] theorem Tryz.tsz157 : tsz Tryz.prog 157 = some 1 := by kernel_rfl
@[simp] theorem Tryz.tag157 : tag Tryz.prog 157 = some true := by kernel_rfl
@[simp] theorem Tryz.telem157 : telem Tryz.prog 157 = none := by kernel_rfl
@[simp] theorem Tryz.tarr157 : tarr Tryz.prog 157 = none := by kernel_rfl
@[simp] theorem Tryz.tint157 : tint Tryz.prog 157 = none := by kernel_rfl
@[simp] theorem Tryz.tbool157 : tbool Tryz.prog 157 = false := by kernel_rfl
@[simp] theorem Tryz.tbytes157 : tbytes Tryz.prog 157 = some 8 := by kernel_rfl
@[simp] theorem Tryz.tzero157 : tzero Tryz.prog 157 = some [.nilFunc] := by kernel_rfl
@[simp] theorem Tryz.toff157_0 : toff Tryz.prog 157 0 = some 0 := by kernel_rfl
@[simp] theorem Tryz.tfield157_0 : tfield Tryz.prog 157 0 = some (0, 1, false) := by kernel_rfl
@[simp] theorem Tryz.places157 : placesOf Tryz.prog 157 = some [(0, 1)] := by kernel_rfl
@[simp] theorem Tryz.tsz158 : tsz Tryz.prog 158 = some 3 := by kernel_rfl
@[simp] theorem Tryz.tag158 : tag Tryz.prog 158 = some true := by kernel_rfl
@[simp] theorem Tryz.telem158 : telem Tryz.prog 158 = none := by kernel_rfl
@[simp] theorem Tryz.tarr158 : tarr Tryz.prog 158 = some (3, 157) := by kernel_rfl
@[simp] theorem Tryz.tint158 : tint Tryz.prog 158 = none := by kernel_rfl
@[simp] theorem Tryz.tbool158 : tbool Tryz.prog 158 = false := by kernel_rfl
@[simp] theorem Tryz.tbytes158 : tbytes Tryz.prog 158 = some 24 := by kernel_rfl
@[simp] theorem Tryz.tzero158 : tzero Tryz.prog 158 = some [.nilFunc, .nilFunc, .nilFunc] := by kernel_rfl
@[simp] theorem Tryz.places158 : placesOf Tryz.prog 158 = some [(0, 1), (1, 1), (2, 1)] := by kernel_rfl
@[simp] theorem Tryz.tarrB158 : eqArrOk.tarr' Tryz.prog 158 = some (3, 157) := by kernel_rfl
@[simp] theorem Tryz.eqShape158 : eqShape Tryz.prog 158 = none := by kernel_rfl
@[simp] theorem Tryz.tsz163 : tsz Tryz.prog 163 = some 1 := by kernel_rfl
@[simp] theorem Tryz.tag163 : tag Tryz.prog 163 = some false := by kernel_rfl
@[simp] theorem Tryz.telem163 : telem Tryz.prog 163 = none := by kernel_rfl
@[simp] theorem Tryz.tarr163 : tarr Tryz.prog 163 = none := by kernel_rfl
@[simp] theorem Tryz.tint163 : tint Tryz.prog 163 = none := by kernel_rfl
@[simp] theorem Tryz.tbool163 : tbool Tryz.prog 163 = false := by kernel_rfl
@[simp] theorem Tryz.tbytes163 : tbytes Tryz.prog 163 = some 8 := by kernel_rfl
@[simp] theorem Tryz.tzero163 : tzero Tryz.prog 163 = some [.map none] := by kernel_rfl
@[simp] theorem Tryz.tmap163 : tmap Tryz.prog 163 = some (91, 4) := by kernel_rfl
@[simp] theorem Tryz.tsz165 : tsz Tryz.prog 165 = some 1 := by kernel_rfl
@[simp] theorem Tryz.tag165 : tag Tryz.prog 165 = some false := by kernel_rfl
@[simp] theorem Tryz.telem165 : telem Tryz.prog 165 = none := by kernel_rfl
@[simp] theorem Tryz.tarr165 : tarr Tryz.prog 165 = none := by kernel_rfl
@[simp] theorem Tryz.tint165 : tint Tryz.prog 165 = none := by kernel_rfl
@[simp] theorem Tryz.tbool165 : tbool Tryz.prog 165 = false := by kernel_rfl
@[simp] theorem Tryz.tbytes165 : tbytes Tryz.prog 165 = some 8 := by kernel_rfl
@[simp] theorem Tryz.tzero165 : tzero Tryz.prog 165 = some [.nilFunc] := by kernel_rfl
@[simp] theorem Tryz.tsz170 : tsz Tryz.prog 170 = some 1 := by kernel_rfl
@[simp] theorem Tryz.tag170 : tag Tryz.prog 170 = some false := by kernel_rfl
@[simp] theorem Tryz.telem170 : telem Tryz.prog 170 = none := by kernel_rfl
@[simp] theorem Tryz.tarr170 : tarr Tryz.prog 170 = none := by kernel_rfl
@[simp] theorem Tryz.tint170 : tint Tryz.prog 170 = none := by kernel_rfl
@[simp] theorem Tryz.tbool170 : tbool Tryz.prog 170 = false := by kernel_rfl
@[simp] theorem Tryz.tbytes170 : tbytes Tryz.prog 170 = some 8 := by kernel_rfl
@[simp] theorem Tryz.tzero170 : tzero Tryz.prog 170 = some [.map none] := by kernel_rfl
@[simp] theorem Tryz.tmap170 : tmap Tryz.prog 170 = some (3, 4) := by kernel_rfl
@[simp] theorem Tryz.tsz174 : tsz Tryz.prog 174 = some 1 := by kernel_rfl
@[simp] theorem Tryz.tag174 : tag Tryz.prog 174 = some false := by kernel_rfl
@[simp] theorem Tryz.telem174 : telem Tryz.prog 174 = none := by kernel_rfl
@[simp] theorem Tryz.tarr174 : tarr Tryz.prog 174 = none := by kernel_rfl
@[simp] theorem Tryz.tint174 : tint Tryz.prog 174 = some .u64 := by kernel_rfl
@[simp] theorem Tryz.tbool174 : tbool Tryz.prog 174 = false := by kernel_rfl
@[simp] theorem Tryz.tbytes174 : tbytes Tryz.prog 174 = some 8 := by kernel_rfl
@[simp] theorem Tryz.tzero174 : tzero Tryz.prog 174 = some [.int .u64 0] := by kernel_rfl
@[simp] theorem Tryz.tsz179 : tsz Tryz.prog 179 = some 1 := by kernel_rfl
@[simp] theorem Tryz.tag179 : tag Tryz.prog 179 = some true := by kernel_rfl
@[simp] theorem Tryz.telem179 : telem Tryz.prog 179 = none := by kernel_rfl
@[simp] theorem Tryz.tarr179 : tarr Tryz.prog 179 = none := by kernel_rfl
@[simp] theorem Tryz.tint179 : tint Tryz.prog 179 = none := by kernel_rfl
@[simp] theorem Tryz.tbool179 : tbool Tryz.prog 179 = false := by kernel_rfl
@[simp] theorem Tryz.tbytes179 : tbytes Tryz.prog 179 = some 8 := by kernel_rfl
@[simp] theorem Tryz.tzero179 : tzero Tryz.prog 179 = some [.nilFunc] := by kernel_rfl
@[simp] theorem Tryz.toff179_0 : toff Tryz.prog 179 0 = some 0 := by kernel_rfl
@[simp] theorem Tryz.tfield179_0 : tfield Tryz.prog 179 0 = some (0, 1, false) := by kernel_rfl
@[simp] theorem Tryz.places179 : placesOf Tryz.prog 179 = some [(0, 1)] := by kernel_rfl
@[simp] theorem Tryz.tsz180 : tsz Tryz.prog 180 = some 8 := by kernel_rfl
@[simp] theorem Tryz.tag180 : tag Tryz.prog 180 = some true := by kernel_rfl
@[simp] theorem Tryz.telem180 : telem Tryz.prog 180 = none := by kernel_rfl
@[simp] theorem Tryz.tarr180 : tarr Tryz.prog 180 = some (8, 179) := by kernel_rfl
@[simp] theorem Tryz.tint180 : tint Tryz.prog 180 = none := by kernel_rfl
@[simp] theorem Tryz.tbool180 : tbool Tryz.prog 180 = false := by kernel_rfl
@[simp] theorem Tryz.tbytes180 : tbytes Tryz.prog 180 = some 64 := by kernel_rfl
@[simp] theorem Tryz.tzero180 : tzero Tryz.prog 180 = some [.nilFunc, .nilFunc, .nilFunc, .nilFunc, .nilFunc, .nilFunc, .nilFunc, .nilFunc] := by kernel_rfl
@[simp] theorem Tryz.places180 : placesOf Tryz.prog 180 = some [(0, 1), (1, 1), (2, 1), (3, 1), (4, 1), (5, 1), (6, 1), (7, 1)] := by kernel_rfl
@[simp] theorem Tryz.tarrB180 : eqArrOk.tarr' Tryz.prog 180 = some (8, 179) := by kernel_rfl
@[simp] theorem Tryz.eqShape180 : eqShape Tryz.prog 180 = none := by kernel_rfl
@[simp] theorem Tryz.tsz185 : tsz Tryz.prog 185 = some 1 := by kernel_rfl
@[simp] theorem Tryz.tag185 : tag Tryz.prog 185 = some false := by kernel_rfl
@[simp] theorem Tryz.telem185 : telem Tryz.prog 185 = none := by kernel_rfl
@[simp] theorem Tryz.tarr185 : tarr Tryz.prog 185 = none := by kernel_rfl
@[simp] theorem Tryz.tint185 : tint Tryz.prog 185 = none := by kernel_rfl
@[simp] theorem Tryz.tbool185 : tbool Tryz.prog 185 = false := by kernel_rfl
@[simp] theorem Tryz.tbytes185 : tbytes Tryz.prog 185 = some 8 := by kernel_rfl
@[simp] theorem Tryz.tzero185 : tzero Tryz.prog 185 = some [.pointer none] := by kernel_rfl
@[simp] theorem Tryz.tsz190 : tsz Tryz.prog 190 = some 1 := by kernel_rfl
@[simp] theorem Tryz.tag190 : tag Tryz.prog 190 = some false := by kernel_rfl
@[simp] theorem Tryz.telem190 : telem Tryz.prog 190 = none := by kernel_rfl
@[simp] theorem Tryz.tarr190 : tarr Tryz.prog 190 = none := by kernel_rfl
@[simp] theorem Tryz.tint190 : tint Tryz.prog 190 = none := by kernel_rfl
@[simp] theorem Tryz.tbool190 : tbool Tryz.prog 190 = false := by kernel_rfl
@[simp] theorem Tryz.tbytes190 : tbytes Tryz.prog 190 = some 8 := by kernel_rfl
@[simp] theorem Tryz.tzero190 : tzero Tryz.prog 190 = some [.nilFunc] := by kernel_rfl
@[simp] theorem Tryz.tsz192 : tsz Tryz.prog 192 = some 2 := by kernel_rfl
@[simp] theorem Tryz.tag192 : tag Tryz.prog 192 = some true := by kernel_rfl
@[simp] theorem Tryz.telem192 : telem Tryz.prog 192 = none := by kernel_rfl
@[simp] theorem Tryz.tarr192 : tarr Tryz.prog 192 = none := by kernel_rfl
@[simp] theorem Tryz.tint192 : tint Tryz.prog 192 = none := by kernel_rfl
@[simp] theorem Tryz.tbool192 : tbool Tryz.prog 192 = false := by kernel_rfl
@[simp] theorem Tryz.tbytes192 : tbytes Tryz.prog 192 = some 48 := by kernel_rfl
@[simp] theorem Tryz.tzero192 : tzero Tryz.prog 192 = some [.slice none 0 0, .slice none 0 0] := by kernel_rfl
@[simp] theorem Tryz.toff192_0 : toff Tryz.prog 192 0 = some 0 := by kernel_rfl
@[simp] theorem Tryz.tfield192_0 : tfield Tryz.prog 192 0 = some (0, 1, true) := by kernel_rfl
@[simp] theorem Tryz.toff192_1 : toff Tryz.prog 192 1 = some 1 := by kernel_rfl
@[simp] theorem Tryz.tfield192_1 : tfield Tryz.prog 192 1 = some (1, 1, false) := by kernel_rfl
@[simp] theorem Tryz.places192 : placesOf Tryz.prog 192 = some [(0, 1), (1, 1)] := by kernel_rfl
@[simp] theorem Tryz.tsz203 : tsz Tryz.prog 203 = some 1 := by kernel_rfl
@[simp] theorem Tryz.tag203 : tag Tryz.prog 203 = some false := by kernel_rfl
@[simp] theorem Tryz.telem203 : telem Tryz.prog 203 = none := by kernel_rfl
@[simp] theorem Tryz.tarr203 : tarr Tryz.prog 203 = none := by kernel_rfl
@[simp] theorem Tryz.tint203 : tint Tryz.prog 203 = some .i64 := by kernel_rfl
@[simp] theorem Tryz.tbool203 : tbool Tryz.prog 203 = false := by kernel_rfl
@[simp] theorem Tryz.tbytes203 : tbytes Tryz.prog 203 = some 8 := by kernel_rfl
@[simp] theorem Tryz.tzero203 : tzero Tryz.prog 203 = some [.int .i64 0] := by kernel_rfl
@[simp] theorem Tryz.tsz212 : tsz Tryz.prog 212 = some 1 := by kernel_rfl
@[simp] theorem Tryz.tag212 : tag Tryz.prog 212 = some false := by kernel_rfl
@[simp] theorem Tryz.telem212 : telem Tryz.prog 212 = none := by kernel_rfl
@[simp] theorem Tryz.tarr212 : tarr Tryz.prog 212 = none := by kernel_rfl
@[simp] theorem Tryz.tint212 : tint Tryz.prog 212 = some .u32 := by kernel_rfl
@[simp] theorem Tryz.tbool212 : tbool Tryz.prog 212 = false := by kernel_rfl
@[simp] theorem Tryz.tbytes212 : tbytes Tryz.prog 212 = some 4 := by kernel_rfl
@[simp] theorem Tryz.tzero212 : tzero Tryz.prog 212 = some [.int .u32 0] := by kernel_rfl
@[simp] theorem Tryz.tsz214 : tsz Tryz.prog 214 = some 1 := by kernel_rfl
@[simp] theorem Tryz.tag214 : tag Tryz.prog 214 = some false := by kernel_rfl
@[simp] theorem Tryz.telem214 : telem Tryz.prog 214 = none := by kernel_rfl
@[simp] theorem Tryz.tarr214 : tarr Tryz.prog 214 = none := by kernel_rfl
@[simp] theorem Tryz.tint214 : tint Tryz.prog 214 = some .u64 := by kernel_rfl
@[simp] theorem Tryz.tbool214 : tbool Tryz.prog 214 = false := by kernel_rfl
@[simp] theorem Tryz.tbytes214 : tbytes Tryz.prog 214 = some 8 := by kernel_rfl
@[simp] theorem Tryz.tzero214 : tzero Tryz.prog 214 = some [.int .u64 0] := by kernel_rfl
@[simp] theorem Tryz.tsz217 : tsz Tryz.prog 217 = some 1 := by kernel_rfl
@[simp] theorem Tryz.tag217 : tag Tryz.prog 217 = some false := by kernel_rfl
@[simp] theorem Tryz.telem217 : telem Tryz.prog 217 = none := by kernel_rfl
@[simp] theorem Tryz.tarr217 : tarr Tryz.prog 217 = none := by kernel_rfl
@[simp] theorem Tryz.tint217 : tint Tryz.prog 217 = none := by kernel_rfl
@[simp] theorem Tryz.tbool217 : tbool Tryz.prog 217 = false := by kernel_rfl
@[simp] theorem Tryz.tbytes217 : tbytes Tryz.prog 217 = some 8 := by kernel_rfl
@[simp] theorem Tryz.tzero217 : tzero Tryz.prog 217 = some [.nilFunc] := by kernel_rfl
@[simp] theorem Tryz.tsz218 : tsz Tryz.prog 218 = some 1 := by kernel_rfl
@[simp] theorem Tryz.tag218 : tag Tryz.prog 218 = some true := by kernel_rfl
@[simp] theorem Tryz.telem218 : telem Tryz.prog 218 = none := by kernel_rfl
@[simp] theorem Tryz.tarr218 : tarr Tryz.prog 218 = none := by kernel_rfl
@[simp] theorem Tryz.tint218 : tint Tryz.prog 218 = none := by kernel_rfl
@[simp] theorem Tryz.tbool218 : tbool Tryz.prog 218 = false := by kernel_rfl
@[simp] theorem Tryz.tbytes218 : tbytes Tryz.prog 218 = some 8 := by kernel_rfl
@[simp] theorem Tryz.tzero218 : tzero Tryz.prog 218 = some [.nilFunc] := by kernel_rfl
@[simp] theorem Tryz.toff218_0 : toff Tryz.prog 218 0 = some 0 := by kernel_rfl
@[simp] theorem Tryz.tfield218_0 : tfield Tryz.prog 218 0 = some (0, 1, false) := by kernel_rfl
@[simp] theorem Tryz.places218 : placesOf Tryz.prog 218 = some [(0, 1)] := by kernel_rfl
@[simp] theorem Tryz.tsz219 : tsz Tryz.prog 219 = some 4 := by kernel_rfl
@[simp] theorem Tryz.tag219 : tag Tryz.prog 219 = some true := by kernel_rfl
@[simp] theorem Tryz.telem219 : telem Tryz.prog 219 = none := by kernel_rfl
@[simp] theorem Tryz.tarr219 : tarr Tryz.prog 219 = some (4, 218) := by kernel_rfl
@[simp] theorem Tryz.tint219 : tint Tryz.prog 219 = none := by kernel_rfl
@[simp] theorem Tryz.tbool219 : tbool Tryz.prog 219 = false := by kernel_rfl
@[simp] theorem Tryz.tbytes219 : tbytes Tryz.prog 219 = some 32 := by kernel_rfl
@[simp] theorem Tryz.tzero219 : tzero Tryz.prog 219 = some [.nilFunc, .nilFunc, .nilFunc, .nilFunc] := by kernel_rfl
@[simp] theorem Tryz.places219 : placesOf Tryz.prog 219 = some [(0, 1), (1, 1), (2, 1), (3, 1)] := by kernel_rfl
@[simp] theorem Tryz.tarrB219 : eqArrOk.tarr' Tryz.prog 219 = some (4, 218) := by kernel_rfl
@[simp] theorem Tryz.eqShape219 : eqShape Tryz.prog 219 = none := by kernel_rfl
@[simp] theorem Tryz.tsz221 : tsz Tryz.prog 221 = some 1 := by kernel_rfl
@[simp] theorem Tryz.tag221 : tag Tryz.prog 221 = some false := by kernel_rfl
@[simp] theorem Tryz.telem221 : telem Tryz.prog 221 = none := by kernel_rfl
@[simp] theorem Tryz.tarr221 : tarr Tryz.prog 221 = none := by kernel_rfl
@[simp] theorem Tryz.tint221 : tint Tryz.prog 221 = none := by kernel_rfl
@[simp] theorem Tryz.tbool221 : tbool Tryz.prog 221 = false := by kernel_rfl
@[simp] theorem Tryz.tbytes221 : tbytes Tryz.prog 221 = some 8 := by kernel_rfl
@[simp] theorem Tryz.tzero221 : tzero Tryz.prog 221 = some [.nilFunc] := by kernel_rfl
@[simp] theorem Tryz.tsz235 : tsz Tryz.prog 235 = some 1 := by kernel_rfl
@[simp] theorem Tryz.tag235 : tag Tryz.prog 235 = some false := by kernel_rfl
@[simp] theorem Tryz.telem235 : telem Tryz.prog 235 = none := by kernel_rfl
@[simp] theorem Tryz.tarr235 : tarr Tryz.prog 235 = none := by kernel_rfl
@[simp] theorem Tryz.tint235 : tint Tryz.prog 235 = some .u64 := by kernel_rfl
@[simp] theorem Tryz.tbool235 : tbool Tryz.prog 235 = false := by kernel_rfl
@[simp] theorem Tryz.tbytes235 : tbytes Tryz.prog 235 = some 8 := by kernel_rfl
@[simp] theorem Tryz.tzero235 : tzero Tryz.prog 235 = some [.int .u64 0] := by kernel_rfl
@[simp] theorem Tryz.tsz239 : tsz Tryz.prog 239 = some 1 := by kernel_rfl
@[simp] theorem Tryz.tag239 : tag Tryz.prog 239 = some false := by kernel_rfl
@[simp] theorem Tryz.telem239 : telem Tryz.prog 239 = none := by kernel_rfl
@[simp] theorem Tryz.tarr239 : tarr Tryz.prog 239 = none := by kernel_rfl
@[simp] theorem Tryz.tint239 : tint Tryz.prog 239 = none := by kernel_rfl
@[simp] theorem Tryz.tbool239 : tbool Tryz.prog 239 = false := by kernel_rfl
@[simp] theorem Tryz.tbytes239 : tbytes Tryz.prog 239 = some 8 := by kernel_rfl
@[simp] theorem Tryz.tzero239 : tzero Tryz.prog 239 = some [.pointer none] := by kernel_rfl
@[simp] theorem Tryz.tsz244 : tsz Tryz.prog 244 = some 1 := by kernel_rfl
@[simp] theorem Tryz.tag244 : tag Tryz.prog 244 = some false := by kernel_rfl
@[simp] theorem Tryz.telem244 : telem Tryz.prog 244 = none := by kernel_rfl
@[simp] theorem Tryz.tarr244 : tarr Tryz.prog 244 = none := by kernel_rfl
@[simp] theorem Tryz.tint244 : tint Tryz.prog 244 = none := by kernel_rfl
@[simp] theorem Tryz.tbool244 : tbool Tryz.prog 244 = false := by kernel_rfl
@[simp] theorem Tryz.tbytes244 : tbytes Tryz.prog 244 = some 8 := by kernel_rfl
@[simp] theorem Tryz.tzero244 : tzero Tryz.prog 244 = some [.nilFunc] := by kernel_rfl
@[simp] theorem Tryz.tsz245 : tsz Tryz.prog 245 = some 1 := by kernel_rfl
@[simp] theorem Tryz.tag245 : tag Tryz.prog 245 = some false := by kernel_rfl
@[simp] theorem Tryz.telem245 : telem Tryz.prog 245 = none := by kernel_rfl
@[simp] theorem Tryz.tarr245 : tarr Tryz.prog 245 = none := by kernel_rfl
@[simp] theorem Tryz.tint245 : tint Tryz.prog 245 = none := by kernel_rfl
@[simp] theorem Tryz.tbool245 : tbool Tryz.prog 245 = false := by kernel_rfl
@[simp] theorem Tryz.tbytes245 : tbytes Tryz.prog 245 = some 8 := by kernel_rfl
@[simp] theorem Tryz.tzero245 : tzero Tryz.prog 245 = some [.nilFunc] := by kernel_rfl
@[simp] theorem Tryz.keyShape3 : keyShape Tryz.prog 3 = some [.int .i64] := by kernel_rfl
@[simp] theorem Tryz.keyShape91 : keyShape Tryz.prog 91 = some [.int .i64, .int .i64] := by kernel_rfl
@[simp] theorem Tryz.tzk3 : tzk Tryz.prog 3 = some [.int .i64 0] := by kernel_rfl
@[simp] theorem Tryz.tzk4 : tzk Tryz.prog 4 = some [.bool false] := by kernel_rfl
@[simp] theorem Tryz.tzk129 : tzk Tryz.prog 129 = some [.int .i64 0, .int .i64 0, .int .u8 0, .slice none 0 0, .slice none 0 0] := by kernel_rfl
@[simp] theorem Tryz.ok2 : CallOk Tryz.prog 2 := Tryz.call2
@[simp] theorem Tryz.ok3 : CallOk Tryz.prog 3 := Tryz.call3
@[simp] theorem Tryz.ok4 : CallOk Tryz.prog 4 := Tryz.call4
@[simp] theorem Tryz.ok5 : CallOk Tryz.prog 5 := Tryz.call5
@[simp] theorem Tryz.ok6 : CallOk Tryz.prog 6 := Tryz.call6
@[simp] theorem Tryz.ok7 : CallOk Tryz.prog 7 := Tryz.call7
@[simp] theorem Tryz.ok8 : CallOk Tryz.prog 8 := Tryz.call8
@[simp] theorem Tryz.ok9 : CallOk Tryz.prog 9 := Tryz.call9
@[simp] theorem Tryz.ok10 : CallOk Tryz.prog 10 := Tryz.call10
@[simp] theorem Tryz.ok11 : CallOk Tryz.prog 11 := Tryz.call11
@[simp] theorem Tryz.ok12 : CallOk Tryz.prog 12 := Tryz.call12
@[simp] theorem Tryz.ok13 : CallOk Tryz.prog 13 := Tryz.call13
@[simp] theorem Tryz.ok14 : CallOk Tryz.prog 14 := Tryz.call14
@[simp] theorem Tryz.ok15 : CallOk Tryz.prog 15 := Tryz.call15
@[simp] theorem Tryz.ok16 : CallOk Tryz.prog 16 := Tryz.call16
@[simp] theorem Tryz.ok17 : CallOk Tryz.prog 17 := Tryz.call17
@[simp] theorem Tryz.ok18 : CallOk Tryz.prog 18 := Tryz.call18
@[simp] theorem Tryz.ok19 : CallOk Tryz.prog 19 := Tryz.call19
@[simp] theorem Tryz.ok20 : CallOk Tryz.prog 20 := Tryz.call20
@[simp] theorem Tryz.ok21 : CallOk Tryz.prog 21 := Tryz.call21
@[simp] theorem Tryz.ok22 : CallOk Tryz.prog 22 := Tryz.call22
@[simp] theorem Tryz.ok23 : CallOk Tryz.prog 23 := Tryz.call23
@[simp] theorem Tryz.ok24 : CallOk Tryz.prog 24 := Tryz.call24
@[simp] theorem Tryz.ok25 : CallOk Tryz.prog 25 := Tryz.call25
@[simp] theorem Tryz.ok26 : CallOk Tryz.prog 26 := Tryz.call26
@[simp] theorem Tryz.ok27 : CallOk Tryz.prog 27 := Tryz.call27
@[simp] theorem Tryz.ok28 : CallOk Tryz.prog 28 := Tryz.call28
@[simp] theorem Tryz.ok29 : CallOk Tryz.prog 29 := Tryz.call29
@[simp] theorem Tryz.ok30 : CallOk Tryz.prog 30 := Tryz.call30
@[simp] theorem Tryz.ok31 : CallOk Tryz.prog 31 := Tryz.call31
@[simp] theorem Tryz.ok32 : CallOk Tryz.prog 32 := Tryz.call32
@[simp] theorem Tryz.ok33 : CallOk Tryz.prog 33 := Tryz.call33
@[simp] theorem Tryz.ok34 : CallOk Tryz.prog 34 := Tryz.call34
@[simp] theorem Tryz.ok35 : CallOk Tryz.prog 35 := Tryz.call35
@[simp] theorem Tryz.ok36 : CallOk Tryz.prog 36 := Tryz.call36
@[simp] theorem Tryz.ok37 : CallOk Tryz.prog 37 := Tryz.call37
@[simp] theorem Tryz.ok38 : CallOk Tryz.prog 38 := Tryz.call38
@[simp] theorem Tryz.ok39 : CallOk Tryz.prog 39 := Tryz.call39
@[simp] theorem Tryz.ok40 : CallOk Tryz.prog 40 := Tryz.call40
@[simp] theorem Tryz.ok41 : CallOk Tryz.prog 41 := Tryz.call41
@[simp] theorem Tryz.ok42 : CallOk Tryz.prog 42 := Tryz.call42
@[simp] theorem Tryz.ok43 : CallOk Tryz.prog 43 := Tryz.call43
@[simp] theorem Tryz.ok44 : CallOk Tryz.prog 44 := Tryz.call44
@[simp] theorem Tryz.ok45 : CallOk Tryz.prog 45 := Tryz.call45
@[simp] theorem Tryz.ok46 : CallOk Tryz.prog 46 := Tryz.call46
@[simp] theorem Tryz.ok47 : CallOk Tryz.prog 47 := Tryz.call47
@[simp] theorem Tryz.ok48 : CallOk Tryz.prog 48 := Tryz.call48
@[simp] theorem Tryz.ok49 : CallOk Tryz.prog 49 := Tryz.call49
@[simp] theorem Tryz.ok50 : CallOk Tryz.prog 50 := Tryz.call50
@[simp] theorem Tryz.ok51 : CallOk Tryz.prog 51 := Tryz.call51
@[simp] theorem Tryz.ok52 : CallOk Tryz.prog 52 := Tryz.call52
@[simp] theorem Tryz.ok53 : CallOk Tryz.prog 53 := Tryz.call53
@[simp] theorem Tryz.ok54 : CallOk Tryz.prog 54 := Tryz.call54
@[simp] theorem Tryz.ok55 : CallOk Tryz.prog 55 := Tryz.call55
@[simp] theorem Tryz.ok56 : CallOk Tryz.prog 56 := Tryz.call56
@[simp] theorem Tryz.ok57 : CallOk Tryz.prog 57 := Tryz.call57
@[simp] theorem Tryz.ok58 : CallOk Tryz.prog 58 := Tryz.call58
@[simp] theorem Tryz.ok59 : CallOk Tryz.prog 59 := Tryz.call59
@[simp] theorem Tryz.ok60 : CallOk Tryz.prog 60 := Tryz.call60
@[simp] theorem Tryz.ok61 : CallOk Tryz.prog 61 := Tryz.call61
@[simp] theorem Tryz.ok62 : CallOk Tryz.prog 62 := Tryz.call62
@[simp] theorem Tryz.ok63 : CallOk Tryz.prog 63 := Tryz.call63
@[simp] theorem Tryz.ok64 : CallOk Tryz.prog 64 := Tryz.call64
@[simp] theorem Tryz.ok65 : CallOk Tryz.prog 65 := Tryz.call65
@[simp] theorem Tryz.ok66 : CallOk Tryz.prog 66 := Tryz.call66
@[simp] theorem Tryz.ok67 : CallOk Tryz.prog 67 := Tryz.call67
@[simp] theorem Tryz.ok68 : CallOk Tryz.prog 68 := Tryz.call68
@[simp] theorem Tryz.ok69 : CallOk Tryz.prog 69 := Tryz.call69
@[simp] theorem Tryz.ok70 : CallOk Tryz.prog 70 := Tryz.call70
@[simp] theorem Tryz.ok71 : CallOk Tryz.prog 71 := Tryz.call71
@[simp] theorem Tryz.ok72 : CallOk Tryz.prog 72 := Tryz.call72
@[simp] theorem Tryz.ok73 : CallOk Tryz.prog 73 := Tryz.call73
@[simp] theorem Tryz.ok74 : CallOk Tryz.prog 74 := Tryz.call74
@[simp] theorem Tryz.ok75 : CallOk Tryz.prog 75 := Tryz.call75
@[simp] theorem Tryz.ok76 : CallOk Tryz.prog 76 := Tryz.call76
@[simp] theorem Tryz.ok77 : CallOk Tryz.prog 77 := Tryz.call77
@[simp] theorem Tryz.ok78 : CallOk Tryz.prog 78 := Tryz.call78
@[simp] theorem Tryz.ok79 : CallOk Tryz.prog 79 := Tryz.call79
@[simp] theorem Tryz.ok80 : CallOk Tryz.prog 80 := Tryz.call80
@[simp] theorem Tryz.ok81 : CallOk Tryz.prog 81 := Tryz.call81
@[simp] theorem Tryz.ok82 : CallOk Tryz.prog 82 := Tryz.call82
@[simp] theorem Tryz.ok83 : CallOk Tryz.prog 83 := Tryz.call83
@[simp] theorem Tryz.ok84 : CallOk Tryz.prog 84 := Tryz.call84
@[simp] theorem Tryz.ok85 : CallOk Tryz.prog 85 := Tryz.call85
@[simp] theorem Tryz.ok86 : CallOk Tryz.prog 86 := Tryz.call86
@[simp] theorem Tryz.ok87 : CallOk Tryz.prog 87 := Tryz.call87
@[simp] theorem Tryz.ok88 : CallOk Tryz.prog 88 := Tryz.call88
@[simp] theorem Tryz.ok89 : CallOk Tryz.prog 89 := Tryz.call89
@[simp] theorem Tryz.ok90 : CallOk Tryz.prog 90 := Tryz.call90
@[simp] theorem Tryz.ok91 : CallOk Tryz.prog 91 := Tryz.call91
@[simp] theorem Tryz.ok92 : CallOk Tryz.prog 92 := Tryz.call92
@[simp] theorem Tryz.ok93 : CallOk Tryz.prog 93 := Tryz.call93
@[simp] theorem Tryz.ok94 : CallOk Tryz.prog 94 := Tryz.call94
@[simp] theorem Tryz.ok95 : CallOk Tryz.prog 95 := Tryz.call95
@[simp] theorem Tryz.ok96 : CallOk Tryz.prog 96 := Tryz.call96
@[simp] theorem Tryz.ok97 : CallOk Tryz.prog 97 := Tryz.call97
@[simp] theorem Tryz.ok98 : CallOk Tryz.prog 98 := Tryz.call98
@[simp] theorem Tryz.ok99 : CallOk Tryz.prog 99 := Tryz.call99
@[simp] theorem Tryz.ok100 : CallOk Tryz.prog 100 := Tryz.call100
@[simp] theorem Tryz.ok101 : CallOk Tryz.prog 101 := Tryz.call101
@[simp] theorem Tryz.ok102 : CallOk Tryz.prog 102 := Tryz.call102
@[simp] theorem Tryz.ok103 : CallOk Tryz.prog 103 := Tryz.call103
@[simp] theorem Tryz.ok104 : CallOk Tryz.prog 104 := Tryz.call104
@[simp] theorem Tryz.ok105 : CallOk Tryz.prog 105 := Tryz.call105
@[simp] theorem Tryz.ok106 : CallOk Tryz.prog 106 := Tryz.call106
@[simp] theorem Tryz.ok107 : CallOk Tryz.prog 107 := Tryz.call107
@[simp] theorem Tryz.ok108 : CallOk Tryz.prog 108 := Tryz.call108
@[simp] theorem Tryz.ok109 : CallOk Tryz.prog 109 := Tryz.call109
@[simp] theorem Tryz.ok110 : CallOk Tryz.prog 110 := Tryz.call110
@[simp] theorem Tryz.ok111 : CallOk Tryz.prog 111 := Tryz.call111
@[simp] theorem Tryz.ok112 : CallOk Tryz.prog 112 := Tryz.call112
@[simp] theorem Tryz.ok113 : CallOk Tryz.prog 113 := Tryz.call113
@[simp] theorem Tryz.ok114 : CallOk Tryz.prog 114 := Tryz.call114
@[simp] theorem Tryz.ok115 : CallOk Tryz.prog 115 := Tryz.call115
@[simp] theorem Tryz.ok116 : CallOk Tryz.prog 116 := Tryz.call116
@[simp] theorem Tryz.ok117 : CallOk Tryz.prog 117 := Tryz.call117
@[simp] theorem Tryz.ok118 : CallOk Tryz.prog 118 := Tryz.call118
@[simp] theorem Tryz.ok119 : CallOk Tryz.prog 119 := Tryz.call119
@[simp] theorem Tryz.ok120 : CallOk Tryz.prog 120 := Tryz.call120
@[simp] theorem Tryz.ok121 : CallOk Tryz.prog 121 := Tryz.call121
@[simp] theorem Tryz.ok122 : CallOk Tryz.prog 122 := Tryz.call122
@[simp] theorem Tryz.ok123 : CallOk Tryz.prog 123 := Tryz.call123
@[simp] theorem Tryz.ok124 : CallOk Tryz.prog 124 := Tryz.call124
@[simp] theorem Tryz.ok125 : CallOk Tryz.prog 125 := Tryz.call125
@[simp] theorem Tryz.ok126 : CallOk Tryz.prog 126 := Tryz.call126
@[simp] theorem Tryz.ok127 : CallOk Tryz.prog 127 := Tryz.call127
@[simp] theorem Tryz.ok128 : CallOk Tryz.prog 128 := Tryz.call128
@[simp] theorem Tryz.ok129 : CallOk Tryz.prog 129 := Tryz.call129
@[simp] theorem Tryz.ok130 : CallOk Tryz.prog 130 := Tryz.call130
@[simp] theorem Tryz.ok131 : CallOk Tryz.prog 131 := Tryz.call131
@[simp] theorem Tryz.ok132 : CallOk Tryz.prog 132 := Tryz.call132
@[simp] theorem Tryz.ok133 : CallOk Tryz.prog 133 := Tryz.call133
@[simp] theorem Tryz.ok134 : CallOk Tryz.prog 134 := Tryz.call134
@[simp] theorem Tryz.ok135 : CallOk Tryz.prog 135 := Tryz.call135
@[simp] theorem Tryz.ok136 : CallOk Tryz.prog 136 := Tryz.call136
@[simp] theorem Tryz.ok137 : CallOk Tryz.prog 137 := Tryz.call137
@[simp] theorem Tryz.ok138 : CallOk Tryz.prog 138 := Tryz.call138
@[simp] theorem Tryz.ok139 : CallOk Tryz.prog 139 := Tryz.call139
@[simp] theorem Tryz.ok140 : CallOk Tryz.prog 140 := Tryz.call140
@[simp] theorem Tryz.ok141 : CallOk Tryz.prog 141 := Tryz.call141
@[simp] theorem Tryz.ok142 : CallOk Tryz.prog 142 := Tryz.call142
@[simp] theorem Tryz.ok143 : CallOk Tryz.prog 143 := Tryz.call143
@[simp] theorem Tryz.ok144 : CallOk Tryz.prog 144 := Tryz.call144
@[simp] theorem Tryz.ok145 : CallOk Tryz.prog 145 := Tryz.call145
@[simp] theorem Tryz.ok146 : CallOk Tryz.prog 146 := Tryz.call146
@[simp] theorem Tryz.ok147 : CallOk Tryz.prog 147 := Tryz.call147
@[simp] theorem Tryz.ok148 : CallOk Tryz.prog 148 := Tryz.call148
@[simp] theorem Tryz.ok149 : CallOk Tryz.prog 149 := Tryz.call149
@[simp] theorem Tryz.ok150 : CallOk Tryz.prog 150 := Tryz.call150
@[simp] theorem Tryz.ok151 : CallOk Tryz.prog 151 := Tryz.call151
@[simp] theorem Tryz.ok152 : CallOk Tryz.prog 152 := Tryz.call152
@[simp] theorem Tryz.ok153 : CallOk Tryz.prog 153 := Tryz.call153
@[simp] theorem Tryz.ok154 : CallOk Tryz.prog 154 := Tryz.call154
@[simp] theorem Tryz.ok155 : CallOk Tryz.prog 155 := Tryz.call155
@[simp] theorem Tryz.ok156 : CallOk Tryz.prog 156 := Tryz.call156
@[simp] theorem Tryz.ok157 : CallOk Tryz.prog 157 := Tryz.call157
@[simp] theorem Tryz.ok158 : CallOk Tryz.prog 158 := Tryz.call158
@[simp] theorem Tryz.ok159 : CallOk Tryz.prog 159 := Tryz.call159
@[simp] theorem Tryz.ok160 : CallOk Tryz.prog 160 := Tryz.call160
@[simp] theorem Tryz.ok161 : CallOk Tryz.prog 161 := Tryz.call161
@[simp] theorem Tryz.ok162 : CallOk Tryz.prog 162 := Tryz.call162
@[simp] theorem Tryz.ok163 : CallOk Tryz.prog 163 := Tryz.call163
@[simp] theorem Tryz.ok164 : CallOk Tryz.prog 164 := Tryz.call164
@[simp] theorem Tryz.ok165 : CallOk Tryz.prog 165 := Tryz.call165
@[simp] theorem Tryz.ok166 : CallOk Tryz.prog 166 := Tryz.call166
@[simp] theorem Tryz.ok167 : CallOk Tryz.prog 167 := Tryz.call167
@[simp] theorem Tryz.ok168 : CallOk Tryz.prog 168 := Tryz.call168
@[simp] theorem Tryz.ok169 : CallOk Tryz.prog 169 := Tryz.call169
@[simp] theorem Tryz.ok170 : CallOk Tryz.prog 170 := Tryz.call170
@[simp] theorem Tryz.ok171 : CallOk Tryz.prog 171 := Tryz.call171
@[simp] theorem Tryz.ok172 : CallOk Tryz.prog 172 := Tryz.call172
@[simp] theorem Tryz.ok173 : CallOk Tryz.prog 173 := Tryz.call173
@[simp] theorem Tryz.ok174 : CallOk Tryz.prog 174 := Tryz.call174
@[simp] theorem Tryz.ok175 : CallOk Tryz.prog 175 := Tryz.call175
@[simp] theorem Tryz.ok176 : CallOk Tryz.prog 176 := Tryz.call176
@[simp] theorem Tryz.ok177 : CallOk Tryz.prog 177 := Tryz.call177
@[simp] theorem Tryz.ok178 : CallOk Tryz.prog 178 := Tryz.call178
@[simp] theorem Tryz.ok179 : CallOk Tryz.prog 179 := Tryz.call179
@[simp] theorem Tryz.ok180 : CallOk Tryz.prog 180 := Tryz.call180
@[simp] theorem Tryz.ok181 : CallOk Tryz.prog 181 := Tryz.call181
@[simp] theorem Tryz.ok182 : CallOk Tryz.prog 182 := Tryz.call182
@[simp] theorem Tryz.ok202 : CallOk Tryz.prog 202 := Tryz.call202
@[simp] theorem Tryz.ok203 : CallOk Tryz.prog 203 := Tryz.call203
@[simp] theorem Tryz.ok204 : CallOk Tryz.prog 204 := Tryz.call204
@[simp] theorem Tryz.ok205 : CallOk Tryz.prog 205 := Tryz.call205
@[simp] theorem Tryz.ok206 : CallOk Tryz.prog 206 := Tryz.call206
@[simp] theorem Tryz.ok207 : CallOk Tryz.prog 207 := Tryz.call207
@[simp] theorem Tryz.ok208 : CallOk Tryz.prog 208 := Tryz.call208
@[simp] theorem Tryz.ok209 : CallOk Tryz.prog 209 := Tryz.call209
@[simp] theorem Tryz.ok210 : CallOk Tryz.prog 210 := Tryz.call210
@[simp] theorem Tryz.ok211 : CallOk Tryz.prog 211 := Tryz.call211
@[simp] theorem Tryz.ok212 : CallOk Tryz.prog 212 := Tryz.call212
@[simp] theorem Tryz.ok213 : CallOk Tryz.prog 213 := Tryz.call213
@[simp] theorem Tryz.ok214 : CallOk Tryz.prog 214 := Tryz.call214
@[simp] theorem Tryz.ok215 : CallOk Tryz.prog 215 := Tryz.call215
@[simp] theorem Tryz.ok216 : CallOk Tryz.prog 216 := Tryz.call216
@[simp] theorem Tryz.ok217 : CallOk Tryz.prog 217 := Tryz.call217
@[simp] theorem Tryz.ok218 : CallOk Tryz.prog 218 := Tryz.call218
@[simp] theorem Tryz.ok219 : CallOk Tryz.prog 219 := Tryz.call219
@[simp] theorem Tryz.ok220 : CallOk Tryz.prog 220 := Tryz.call220
@[simp] theorem Tryz.ok221 : CallOk Tryz.prog 221 := Tryz.call221
@[simp] theorem Tryz.ok222 : CallOk Tryz.prog 222 := Tryz.call222
@[simp] theorem Tryz.ok223 : CallOk Tryz.prog 223 := Tryz.call223
@[simp] theorem Tryz.ok224 : CallOk Tryz.prog 224 := Tryz.call224
@[simp] theorem Tryz.ok225 : CallOk Tryz.prog 225 := Tryz.call225
@[simp] theorem Tryz.ok231 : CallOk Tryz.prog 231 := Tryz.call231
end Go.Proofs
namespace Go.Ab
open Go
structure Dim where
  nominal : Int
  lower : Int
  upper : Int
  deriving DecidableEq
structure Itm where
  drawing : Int
  count : Int
  deriving DecidableEq
structure Issue where
  drawing : Int
  letter : Int
  kind : Int
  items : List Itm
  dims : List Dim
  deriving DecidableEq
def rI (n : Int) : IC := .raw (.int .i64 n)
def rB (b : Bool) : IC := .raw (.bool b)
def encDim (d : Dim) : List IC := [rI d.nominal, rI d.lower, rI d.upper]
def encItem (x : Itm) : List IC := [rI x.drawing, rI x.count]
def encIssue (x : Issue) : List IC := [rI x.drawing, rI x.letter, .raw (.int .u8 x.kind), .sl (x.items.map encItem), .sl (x.dims.map encDim)]
def encI (n : Int) : List IC := [rI n]
def iv (n : Int) : DV := .one (.im (.raw (.int .i64 n)))
def bv (b : Bool) : DV := .one (.im (.raw (.bool b)))
def isv (l : List Int) : DV := .one (.im (.sl (l.map encI)))
def regv (l : List Issue) : DV := .agg [.im (.sl (l.map encIssue))]
attribute [simp] iv bv isv regv rI rB encDim encItem encIssue encI
attribute [simp] dclear dmakeMap ddelete dmapUpdate dlookup dlookupI dlenMap dlenMapI drange dentry dindexA keyOfV valOfV valV imE putAll
attribute [simp] RTe kindOf dstep dbuiltin evalG evals tget DS.put wantedA rawOf rawD dbin dint dshift dunop dload dstore dadd isAddr dindex dlen dappend optI DV.cells mkDV dcallee zcells dfill partsOf zic chunk splice DS.keep sel Plain dresults dresult theResult startT fzV fzVL thenQ
theorem encItem_len (x : Itm) : (encItem x).length = 2 := rfl
theorem encDim_len (x : Dim) : (encDim x).length = 3 := rfl
theorem encIssue_len (x : Issue) : (encIssue x).length = 5 := rfl
theorem encI_len (x : Int) : (encI x).length = 1 := rfl
theorem imp_At {p : Prop} {Q : Exit → DS → Prop} {e : Exit} {t : Tok Q} {S : DS} (h : p → At Q e t S) : p → At Q e t S := h
theorem delems_im (objs : List DObj) (l : List (List IC)) : delems objs (.im (.sl l)) = some (ims l) := rfl
theorem delems_vec (objs : List DObj) (o g off len : Nat) : delems objs (.vec o g off len) = match objs[o]? with
    | some (.vec _ es g' _) => if g = g' ∧ off + len ≤ es.length then some ((es.drop off).take len) else none
    | _ => none := by unfold delems; rfl
attribute [simp] delems_im delems_vec
theorem imm_one (c : IC) : ImV (.one (.im c)) := .one c
theorem imm_agg (l : List IC) : ImV (.agg (l.map .im)) := .agg _ (by simp)
attribute [simp] ImV.one
theorem ImV_agg (l : List DC) : ImV (.agg l) ↔ ∀ d ∈ l, ∃ c, d = .im c := ⟨fun h => by cases h; assumption, .agg l⟩
theorem ImV_tup (l : List DV) : ImV (.tup l) ↔ ∀ d ∈ l, ImV d := ⟨fun h => by cases h; assumption, .tup l⟩
attribute [simp] ImV_agg ImV_tup
attribute [simp] dcmp dnil raws shapeOk beqs ones RQe slotsOf Op.operands Call.operands
attribute [simp] RXe XStep isAl zOk pick alsOf adoptL adopt1 dstL sameAt
attribute [simp] ims_nil ims_append ims_length fz_im map_fz_im ims_fz mapO_im mapO_ims DS.drop dropO fzO
theorem ibeq (a b : Int) : (a == b) = decide (a = b) := by by_cases h : a = b <;> simp [h]
theorem ibne (a b : Int) : (a != b) = !decide (a = b) := by by_cases h : a = b <;> simp [h]
attribute [simp] ibeq ibne
theorem fz_ptr {n o off : Nat} {objs : List DObj} (h : o < n) : fz n objs (.ptr o off) = .ptr o off := by simp [fz, DC.lt, h]
theorem fz_ept {n o g i off : Nat} {objs : List DObj} (h : o < n) : fz n objs (.ept o g i off) = .ept o g i off := by simp [fz, DC.lt, h]
theorem fz_vec {n o g off len : Nat} {objs : List DObj} (h : o < n) : fz n objs (.vec o g off len) = .vec o g off len := by simp [fz, DC.lt, h]
theorem ims_cons (x : List IC) (l : List (List IC)) : ims (x :: l) = x.map .im :: ims l := rfl
theorem ims_len_iff (l : List (List IC)) (n : Nat) : (∀ e ∈ ims l, e.length = n) ↔ ∀ e ∈ l, e.length = n := by
  constructor
  · intro h e he
    have := h (e.map .im) (by simp only [ims, List.mem_map]; exact ⟨e, he, rfl⟩)
    simpa using this
  · exact fun h => ims_len_elems h
attribute [simp] ims_len_iff
theorem take_ims {α : Type} (f : α → List IC) (l : List α) : (ims (l.map f)).take l.length = ims (l.map f) := List.take_of_length_le (by simp [ims_length])
attribute [simp] fz_ptr fz_ept fz_vec ims_cons take_ims
theorem fz_vec_ims {n o g len sz : Nat} {nl : Bool} {objs : List DObj} {es : List (List IC)} (hn : n ≤ o) (ho : objs[o]? = some (.vec sz (ims es) g nl)) (hl : len = es.length) : fz n objs (.vec o g 0 len) = .im (.sl es) := by
  subst hl
  have hf : frz 20 n objs (.vec o g 0 es.length) = some (.sl es) := by
    rw [frz]
    simp [hn, ho, ims_length]
    rw [List.take_of_length_le (by simp [ims_length])]; exact mapO_ims _ _ _ _
  have h1 : DC.lt n (.vec o g 0 es.length) = false := by simp [DC.lt]; omega
  simp [fz, hf, h1]
def outF : Option IC → DC
  | some c => .im c
  | none => .dead
theorem fz_vecg {n o g off len : Nat} {objs : List DObj} (h : n ≤ o) : fz n objs (.vec o g off len) = outF (frz 20 n objs (.vec o g off len)) := by
  have h1 : DC.lt n (.vec o g off len) = false := by simp [DC.lt]; omega
  simp only [fz, h1]
  cases frz 20 n objs (.vec o g off len) <;> rfl
theorem fz_ptrg {n o off : Nat} {objs : List DObj} (h : n ≤ o) : fz n objs (.ptr o off) = outF (frz 20 n objs (.ptr o off)) := by
  have h1 : DC.lt n (.ptr o off) = false := by simp [DC.lt]; omega
  simp only [fz, h1]
  cases frz 20 n objs (.ptr o off) <;> rfl
theorem frz_im (k n : Nat) (objs : List DObj) (c : IC) : frz (k + 1) n objs (.im c) = some c := rfl
theorem frz_vec (k n o g off len : Nat) (objs : List DObj) : frz (k + 1) n objs (.vec o g off len) = if n ≤ o then match objs[o]? with
        | some (.vec _ es g' _) => if g = g' ∧ off + len ≤ es.length then (mapO (mapO (frz k n objs)) ((es.drop off).take len)).map .sl else none
        | _ => none
      else none := rfl
theorem frz_ptr (k n o off : Nat) (objs : List DObj) : frz (k + 1) n objs (.ptr o off) = if n ≤ o then match objs[o]? with
        | some (.row c) => if off ≤ c.length then (mapO (frz k n objs) (c.drop off)).map .ip else none
        | _ => none
      else none := rfl
theorem fz_fn {n : Nat} {f : Fn} {caps : List DC} {objs : List DObj} : fz n objs (.fn f caps) = if DC.ltL n caps = true then .fn f caps else outF (frz 20 n objs (.fn f caps)) := by
  have h1 : DC.lt n (.fn f caps) = DC.ltL n caps := rfl
  simp only [fz, h1]
  split
  · rfl
  · cases frz 20 n objs (.fn f caps) <;> rfl
theorem frz_fn (k n : Nat) (objs : List DObj) (f : Fn) (caps : List DC) : frz (k + 1) n objs (.fn f caps) = (mapO (frz k n objs) caps).map (.fn f) := rfl
theorem fz_map {n o : Nat} {objs : List DObj} (h : o < n) : fz n objs (.map o) = .map o := by simp [fz, DC.lt, h]
theorem fz_mapg {n o : Nat} {objs : List DObj} (h : n ≤ o) : fz n objs (.map o) = outF (frz 20 n objs (.map o)) := by
  have h1 : DC.lt n (.map o) = false := by simp [DC.lt]; omega
  simp only [fz, h1]
  cases frz 20 n objs (.map o) <;> rfl
theorem frz_map (k n o : Nat) (objs : List DObj) : frz (k + 1) n objs (.map o) = if n ≤ o then match objs[o]? with
        | some (.map ks es) => (mapO (fun x => (mapO (frz k n objs) x.2).map fun l => (x.1, l)) es).map (.mp ks)
        | _ => none
      else none := rfl
theorem fz_yld {n o : Nat} {objs : List DObj} (h : o < n) : fz n objs (.yld o) = .yld o := by simp [fz, DC.lt, h]
theorem fz_itr {n o : Nat} {objs : List DObj} (h : o < n) : fz n objs (.itr o) = .itr o := by simp [fz, DC.lt, h]
attribute [simp] fz_fn frz_fn fz_map fz_mapg frz_map fz_yld fz_itr DC.ltL DC.lt
attribute [simp] outF fz_vecg fz_ptrg frz_im frz_vec frz_ptr mapO
/-- What a test's answer says, once for all. -/
theorem nrm : (∀ (p : Prop) [Decidable p], decide p = true ↔ p) ∧ (∀ (p : Prop) [Decidable p], decide p = false ↔ ¬p) ∧ (∀ a b : Bool, (a && b) = true ↔ a = true ∧ b = true) ∧ (∀ a b : Bool, (a && b) = false ↔ a = false ∨ b = false) ∧ (∀ a b : Bool, (a || b) = true ↔ a = true ∨ b = true) ∧ (∀ a b : Bool, (a || b) = false ↔ a = false ∧ b = false) ∧ (∀ a : Bool, (!a) = true ↔ a = false) ∧ (∀ a : Bool, (!a) = false ↔ a = true) ∧ (∀ (α : Type) [BEq α] [LawfulBEq α] (a b : α), (a == b) = true ↔ a = b) ∧ (∀ (α : Type) [BEq α] [LawfulBEq α] (a b : α), (a == b) = false ↔ a ≠ b) :=
  ⟨fun _ => decide_eq_true_iff, fun _ => decide_eq_false_iff_not, fun _ _ => Bool.and_eq_true_iff, fun a b => by cases a <;> cases b <;> decide, fun a b => by cases a <;> cases b <;> decide, fun a b => by cases a <;> cases b <;> decide, fun a => by cases a <;> decide, fun a => by cases a <;> decide, fun _ _ _ _ _ => beq_iff_eq, fun _ _ _ _ _ => beq_eq_false_iff_ne⟩
abbrev q01 := @At.seq
abbrev q02 := @At.then_ret
abbrev q03 := @At.then_exit
abbrev q04 := @At.block_end
abbrev q05 := @At.block_ret
abbrev q06 := @At.block_exit
abbrev q07 := @At.block_out
abbrev q08 := @At.scope_end
abbrev q09 := @At.scope_ret
abbrev q10 := @At.scope_exit
abbrev q11 := @DT_seq
abbrev q12 := @DT_block
abbrev q13 := @DT_scope
abbrev q14 := @DT_skip
abbrev q15 := @DT_label
abbrev q16 := @DT_exit
abbrev q17 := @DT_ret
end Go.Ab
namespace Go.Proofs
open Go Go.Ab
attribute [local simp] dslice setLp
theorem i64w {n : Int} (h1 : -9223372036854775808 ≤ n) (h2 : n ≤ 9223372036854775807) : IntKind.i64.wrap n = n := IntWalk.i64_in n ⟨h1, h2⟩
set_option linter.unusedSimpArgs false
variable {G : Nat → Option (List IC)}
theorem within_c (n lo hi : Int) (objs : List DObj) : DCall Tryz.prog G 151 [iv n, iv lo, iv hi] objs (fun d objs' => d = bv (decide (lo ≤ n) && decide (n ≤ hi)) ∧ objs' = objs) := by
  refine DCall.frame ?_ (by simp) (by simp) objs
  refine DCall_intro Tryz.func151 rfl Tryz.ntmps151 (by simp) rfl ?_
  simp only [iv]
  have hs : True := trivial
  repeat' first | (with_reducible first | refine q01 ?_ | refine q11 ?_ | refine q17 ?_) | (with_reducible refine At.fn_ret (by simp -dsimp [hs]; exact rfl) ?_) | (with_reducible refine DT_regionE [0, 1, 2, 6] ?_; simp -dsimp [hs]) | (with_reducible refine GStop_split ?_ ?_ <;> intro h <;> have h0 := h <;> (try simp only [nrm] at h) <;> (try exact Bool.noConfusion h) <;> have h2 := h <;> (try simp at h2) <;> (replace hs := And.intro h0 (And.intro h (And.intro h2 hs))) <;> simp -dsimp [h0, h, h2, hs])
  all_goals try simp -dsimp [hs]
  all_goals try clear hs
  all_goals simp [bv, *]
def idx (l : List Int) (x : Int) : Int := match l.idxOf? x with | some i => i | none => -1
theorem idx_yes {l : List Int} {x : Int} {k : Nat} (h : l[k]? = some x) (hno : ∀ j, j < k → l[j]? ≠ some x) : idx l x = k := by
  have : l.idxOf? x = some k := by
    rw [List.idxOf?, List.findIdx?_eq_some_iff_getElem]
    obtain ⟨hlt, he⟩ := List.getElem?_eq_some_iff.1 h
    refine ⟨hlt, by simp [he], fun j hj => ?_⟩
    have := hno j hj
    rw [List.getElem?_eq_getElem (by omega)] at this
    simpa using this
  simp [idx, this]
theorem idx_no {l : List Int} {x : Int} (hno : ∀ j, j < l.length → l[j]? ≠ some x) : idx l x = -1 := by
  have : l.idxOf? x = none := by
    rw [List.idxOf?, List.findIdx?_eq_none_iff]
    intro y hy
    obtain ⟨j, hj⟩ := List.mem_iff_getElem?.1 hy
    have hlt := lt_of_getElem? hj
    have := hno j hlt
    rw [hj] at this
    simpa using this
  simp [idx, this]
theorem index_c (l : List Int) (x : Int) (hl : l.length < 1000000) (objs : List DObj) : DCall Tryz.prog G 122 [isv l, iv x] objs (fun d objs' => d = iv (idx l x) ∧ objs' = objs) := by
  refine DCall.frame ?_ (by simp) (by simp) objs
  refine DCall_intro Tryz.func122 rfl Tryz.ntmps122 (by simp) rfl ?_
  simp only [isv, iv]
  have hs : True := trivial
  repeat' first | (with_reducible first | refine q01 ?_ | refine q11 ?_ | refine q12 ?_) | (with_reducible refine DT_regionE [0, 1, 4, 5, 9, 17] ?_; simp -dsimp [hs])
  all_goals try simp -dsimp [hs]
  all_goals try clear hs
  refine DT_loop (ι := { k : Nat // k ≤ l.length ∧ ∀ j, j < k → l[j]? ≠ some x }) (fun k => ⟨19, [(0, isv l), (1, iv x), (4, iv 0), (5, iv (k.1 : Int))], []⟩) (fun k => l.length - k.1) ⟨0, by simp, by simp⟩ (Weak.of_keep [0,1,4,5] (by simp [isv, iv])) ?_
  rintro ⟨k, hk, hno⟩
  simp only [isv, iv]
  by_cases hlt : k < l.length
  · have hx : l[k]? = some l[k] := by simp [hlt]
    have hw : IntKind.i64.wrap ((k : Int) + 1) = ((k + 1 : Nat) : Int) := i64w (by omega) (by omega)
    have hs : True := trivial
    repeat' first | (with_reducible first | refine q01 ?_ | refine q02 ?_ | refine q03 ?_ | refine q04 ?_ | refine q05 ?_ | refine q06 ?_ | refine q11 ?_ | refine q12 ?_ | refine q14 ?_ | refine q16 ?_ | refine q17 ?_) | (with_reducible refine At.fn_ret (by simp -dsimp [hx, encI, rI, hw, hs]; exact rfl) ?_) | (with_reducible refine DT_regionE [0, 1, 4, 5, 9, 17] ?_; simp -dsimp [hx, encI, rI, hw, hs]) | (refine DT_cond rfl (fun h => ?_) (fun h => ?_) <;> (try simp only [nrm] at h) <;> (try exact Bool.noConfusion h))
    all_goals try simp -dsimp [hx, encI, rI, hw, hs]
    all_goals try clear hs
    all_goals try omega
    · exact (idx_yes (by rw [hx]; simp [*]) hno).symm
    · refine ⟨⟨k + 1, by omega, fun j hj => ?_⟩, ?_, Weak.of_keep [0,1,4,5] (by simp [isv, iv])⟩
      · by_cases e : j = k
        · subst e; simp [hx, *]
        · exact hno j (by omega)
      · simp; omega
  · have hs : True := trivial
    repeat' first | (with_reducible first | refine q01 ?_ | refine q03 ?_ | refine q06 ?_ | refine q11 ?_ | refine q12 ?_ | refine q14 ?_ | refine q16 ?_ | refine q17 ?_) | (with_reducible refine At.fn_ret (by simp -dsimp [hs]; exact rfl) ?_) | (with_reducible refine DT_regionE [0, 1, 4, 5, 9, 17] ?_; simp -dsimp [hs]) | (refine DT_cond rfl (fun h => ?_) (fun h => ?_) <;> (try simp only [nrm] at h) <;> (try exact Bool.noConfusion h))
    all_goals try simp -dsimp [hs]
    all_goals try clear hs
    all_goals try omega
    exact (idx_no fun j hj => hno j (by omega)).symm
end Go.Proofs
namespace Go.Proofs
open Go Go.Ab
attribute [local simp] dslice setLp
set_option linter.unusedSimpArgs false
variable {G : Nat → Option (List IC)}
theorem mixed : Tryz.prog.follows .mixedOrders = true := by kernel_rfl
def issv (x : Issue) : DV := .agg ((encIssue x).map .im)
attribute [simp] issv
theorem lenItem (l : List Itm) : ∀ e ∈ l.map encItem, e.length = 2 := by simp [encItem]
theorem lenDim (l : List Dim) : ∀ e ∈ l.map encDim, e.length = 3 := by simp [encDim]
theorem twinIssue_c (x : Issue) (hi : x.items.length ≤ 16) (hd : x.dims.length ≤ 8) (objs : List DObj) : DCall Tryz.prog G 72 [issv x] objs (fun d objs' => d = issv x ∧ objs' = objs) := by
  refine DCall.frame ?_ (by simp) (by simp) objs
  refine DCall_intro Tryz.func72 rfl Tryz.ntmps72 (by simp) rfl ?_
  try simp only [issv]
  have h1 := lenItem x.items
  have h2 := lenDim x.dims
  have hs : True := trivial
  repeat' first | (with_reducible first | refine q01 ?_ | refine q11 ?_ | refine q17 ?_ | refine And.intro (by omega) ?_) | (with_reducible refine At.fn_ret (by simp -dsimp [encIssue, rI, hs]; exact rfl) ?_) | (refine DT_regionM (id := 1) (nt := 14) 9 [0, 1, 2] mixed rfl (by kernel_rfl) ?_; simp -dsimp [encIssue, rI, hs]) | (with_reducible refine DT_regionE [0, 1, 2] ?_; simp -dsimp [encIssue, rI, hs])
  all_goals try simp -dsimp [encIssue, rI, hs]
  all_goals try clear hs
end Go.Proofs
namespace Go.Proofs
open Go Go.Ab
attribute [local simp] dslice setLp
set_option linter.unusedSimpArgs false
variable {G : Nat → Option (List IC)}
theorem issv_eq (x : Issue) : issv x = .agg [.im (rI x.drawing), .im (rI x.letter), .im (.raw (.int .u8 x.kind)), .im (.sl (x.items.map encItem)), .im (.sl (x.dims.map encDim))] := rfl
/-- Small: what the statements look at. -/
def Small (l : List Issue) : Prop := l.length ≤ 80 ∧ ∀ x ∈ l, x.items.length ≤ 16 ∧ x.dims.length ≤ 8
theorem twin_c (l : List Issue) (hl : Small l) (objs : List DObj) : DCall Tryz.prog G 30 [regv l] objs (fun d objs' => d = regv l ∧ objs' = objs) := by
  refine DCall.frame ?_ (by simp) (by simp) objs
  refine DCall_intro Tryz.func30 rfl Tryz.ntmps30 (by simp) rfl ?_
  obtain ⟨hl1, hl2⟩ := hl
  simp only [regv]
  have hs : True := trivial
  repeat' first | (with_reducible first | refine q01 ?_ | refine q11 ?_ | refine q12 ?_) | (with_reducible refine DT_regionE [0, 1, 2, 3, 4, 9] ?_; simp -dsimp [hs])
  all_goals try simp -dsimp [hs]
  all_goals try clear hs
  refine DT_loop (ι := { p : Nat × Nat × Nat × Bool // p.1 ≤ l.length ∧ (p.2.2.1 = 5 ∨ p.2.2.2 = true) }) (fun p => ⟨24, [(1, .one (.ptr 0 0)), (2, .one (.ptr 2 0)), (3, .one (.ptr 4 0)), (4, iv (p.1.1 : Int))], [.row [.im (.sl (l.map encIssue))], .vec 0 [] 0 true, .row [.vec 1 0 0 0], .vec p.1.2.2.1 (ims ((l.take p.1.1).map encIssue)) p.1.2.1 p.1.2.2.2, .row [.vec 3 p.1.2.1 0 p.1.1]]⟩) (fun p => l.length - p.1.1) ⟨(0, 0, 0, true), by simp⟩ (Weak.of_keep [1,2,3,4] (by simp [iv])) ?_
  rintro ⟨⟨k, g, sz, nl⟩, hk, hz⟩
  simp only at hk hz
  simp only [iv]
  have htk : (ims ((l.map encIssue).take k)).take k = ims ((l.map encIssue).take k) := List.take_of_length_le (by simp [ims_length]; omega)
  by_cases hlt : k < l.length
  · have hx : l[k]? = some l[k] := by simp [hlt]
    have hw : IntKind.i64.wrap ((k : Int) + 1) = ((k + 1 : Nat) : Int) := i64w (by omega) (by omega)
    have hc := fun objs => twinIssue_c (G := G) l[k] (hl2 _ (by simp)).1 (hl2 _ (by simp)).2 objs
    have hmin : min k l.length = k := Nat.min_eq_left (by omega)
    simp only [issv_eq] at hc
    have hs : True := trivial
    repeat' first | (with_reducible first | refine q01 ?_ | refine q03 ?_ | refine q04 ?_ | refine q06 ?_ | refine q11 ?_ | refine q12 ?_ | refine q14 ?_ | refine q16 ?_ | refine q17 ?_ | refine And.intro (by omega) ?_) | (with_reducible refine At.fn_ret (by simp -dsimp [hx, encIssue, rI, hw, hz, hmin, hs]; exact rfl) ?_) | (refine QCall_pure hc ?_; try simp -dsimp [hx, encIssue, rI, hw, hz, hmin, hs]) | (refine DT_regionM (id := 5) (nt := 24) 9 [0, 1, 2, 3, 4, 9] mixed rfl (by kernel_rfl) ?_; simp -dsimp [hx, encIssue, rI, hw, hz, hmin, hs]) | (with_reducible refine DT_regionE [0, 1, 2, 3, 4, 9] ?_; simp -dsimp [hx, encIssue, rI, hw, hz, hmin, hs]) | (refine DT_cond rfl (fun h => ?_) (fun h => ?_) <;> (try simp only [nrm] at h) <;> (try exact Bool.noConfusion h))
    all_goals try simp -dsimp [hx, encIssue, rI, hw, hz, hmin, hs]
    all_goals try clear hs
    all_goals try omega
    refine At.round ⟨(k + 1, g + 1, 5, false), by simp; omega⟩ (by simp; omega) (Weak.of_drop [1,2,3,4] 5 (by simp) (by simp) ?_)
    have hs : (l.map encIssue).take (k + 1) = (l.map encIssue).take k ++ [encIssue l[k]] := by
      rw [List.take_succ]; simp [hx]
    simp [hs, htk, ims_append, encIssue, rI]
  · have hkl : k = l.length := by omega
    subst hkl
    have hall : (l.map encIssue).take l.length = l.map encIssue := List.take_of_length_le (by simp)
    rw [hall] at htk
    have hs : True := trivial
    repeat' first | (with_reducible first | refine q01 ?_ | refine q03 ?_ | refine q06 ?_ | refine q11 ?_ | refine q16 ?_ | refine q17 ?_) | (with_reducible refine At.fn_ret (by simp -dsimp [hall, htk, hs]; exact rfl) ?_) | (with_reducible refine DT_regionE [0, 1, 2, 3, 4, 9] ?_; simp -dsimp [hall, htk, hs]) | (refine DT_cond rfl (fun h => ?_) (fun h => ?_) <;> (try simp only [nrm] at h) <;> (try exact Bool.noConfusion h))
    all_goals try simp -dsimp [hall, htk, hs]
    all_goals try clear hs
end Go.Proofs
namespace Go.Proofs
open Go Go.Ab
attribute [local simp] dslice setLp
set_option linter.unusedSimpArgs false
variable {G : Nat → Option (List IC)}
instance (l : List Issue) : Decidable (Small l) := inferInstanceAs (Decidable (_ ∧ _))
theorem great_c (l : List Issue) (objs : List DObj) : DCall Tryz.prog G 29 [regv l] objs (fun d objs' => d = bv (!decide (Small l)) ∧ objs' = objs) := by
  refine DCall.frame ?_ (by simp) (by simp) objs
  refine DCall_intro Tryz.func29 rfl Tryz.ntmps29 (by simp) rfl ?_
  simp only [regv, bv]
  have hs : True := trivial
  repeat' first | (with_reducible first | refine q01 ?_ | refine q02 ?_ | refine q11 ?_ | refine q12 ?_ | refine q14 ?_ | refine q17 ?_) | (with_reducible refine At.fn_ret (by simp -dsimp [hs]; exact rfl) ?_) | (with_reducible refine DT_regionE [0, 1, 2, 3, 7, 12, 32] ?_; simp -dsimp [hs]) | (refine DT_cond rfl (fun h => ?_) (fun h => ?_) <;> (try simp only [nrm] at h) <;> (try exact Bool.noConfusion h))
  all_goals try simp -dsimp [hs]
  all_goals try clear hs
  · exact fun hs => by have := hs.1; omega
  · have hl : l.length ≤ 80 := by omega
    refine DT_loop (ι := { k : Nat // k ≤ l.length ∧ ∀ j x, j < k → l[j]? = some x → x.items.length ≤ 16 ∧ x.dims.length ≤ 8 }) (fun p => ⟨33, [(1, .one (.ptr 0 0)), (3, iv (p.1 : Int))], [.row [.im (.sl (l.map encIssue))]]⟩) (fun p => l.length - p.1) ⟨0, by simp⟩ (Weak.of_keep [1,3] (by simp [iv])) ?_
    rintro ⟨k, hk, hno⟩
    simp only [iv]
    by_cases hlt : k < l.length
    · have hx : l[k]? = some l[k] := by simp [hlt]
      have hw : IntKind.i64.wrap ((k : Int) + 1) = ((k + 1 : Nat) : Int) := i64w (by omega) (by omega)
      have bad : 16 < l[k].items.length ∨ 8 < l[k].dims.length → ¬ Small l := fun h hs => by have := hs.2 l[k] (by simp); omega
      have hs : True := trivial
      repeat' first | (with_reducible first | refine q01 ?_ | refine q02 ?_ | refine q03 ?_ | refine q04 ?_ | refine q05 ?_ | refine q06 ?_ | refine q11 ?_ | refine q12 ?_ | refine q14 ?_ | refine q16 ?_ | refine q17 ?_) | (with_reducible refine At.fn_ret (by simp -dsimp [hx, encIssue, rI, hw, hs]; exact rfl) ?_) | (with_reducible refine DT_regionE [0, 1, 2, 3, 7, 12, 32] ?_; simp -dsimp [hx, encIssue, rI, hw, hs]) | (refine DT_cond rfl (fun h => ?_) (fun h => ?_) <;> (try simp only [nrm] at h) <;> (try exact Bool.noConfusion h)) | (with_reducible refine GStop_split ?_ ?_ <;> intro h <;> have h0 := h <;> (try simp only [nrm] at h) <;> (try exact Bool.noConfusion h) <;> have h2 := h <;> (try simp at h2) <;> (replace hs := And.intro h0 (And.intro h (And.intro h2 hs))) <;> simp -dsimp [h0, h, h2, hx, encIssue, rI, hw, hs])
      all_goals try simp -dsimp [hx, encIssue, rI, hw, hs]
      all_goals try clear hs
      all_goals first
        | omega
        | exact bad (by omega)
        | skip
      refine At.round ⟨k + 1, by omega, fun j x hj hjx => ?_⟩ (by simp; omega) (Weak.of_keep [1,3] (by simp))
      by_cases e : j = k
      · subst e; rw [hx] at hjx; cases hjx; omega
      · exact hno j x (by omega) hjx
    · have hs : True := trivial
      repeat' first | (with_reducible first | refine q01 ?_ | refine q03 ?_ | refine q06 ?_ | refine q11 ?_ | refine q16 ?_ | refine q17 ?_) | (with_reducible refine At.fn_ret (by simp -dsimp [hlt, hs]; exact rfl) ?_) | (with_reducible refine DT_regionE [0, 1, 2, 3, 7, 12, 32] ?_; simp -dsimp [hlt, hs]) | (refine DT_cond rfl (fun h => ?_) (fun h => ?_) <;> (try simp only [nrm] at h) <;> (try exact Bool.noConfusion h))
      all_goals try simp -dsimp [hlt, hs]
      all_goals try clear hs
      exact ⟨hl, fun x hx' => by
        obtain ⟨j, hj⟩ := List.mem_iff_getElem?.1 hx'
        exact hno j x (by have := lt_of_getElem? hj; omega) hj⟩
end Go.Proofs
