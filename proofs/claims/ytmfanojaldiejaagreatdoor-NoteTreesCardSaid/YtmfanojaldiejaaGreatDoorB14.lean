/- Part 14 of the proofs: laws and walks that hold without conditions beyond those that each theorem names. -/
import Derived.Test.YtmfanojaldiejaaGreatDoorProg
import Derived.KernelRfl
import Derived.Test.YtmfanojaldiejaaGreatDoorB12
set_option linter.all false
set_option linter.deprecated false
namespace Go.Proofs
open Go Go.Ab
@[simp] theorem Tryz.y3 : tsz Tryz.prog 3 = some 1 ∧ tag Tryz.prog 3 = some false ∧ telem Tryz.prog 3 = none ∧ tarr Tryz.prog 3 = none ∧ tint Tryz.prog 3 = some .i64 ∧ tbool Tryz.prog 3 = false ∧ tbytes Tryz.prog 3 = some 8 ∧ tzero Tryz.prog 3 = some [.int .i64 0] := by (repeat' refine And.intro ?_ ?_) <;> kernel_rfl
@[simp] theorem Tryz.y4 : tsz Tryz.prog 4 = some 1 ∧ tag Tryz.prog 4 = some false ∧ telem Tryz.prog 4 = none ∧ tarr Tryz.prog 4 = none ∧ tint Tryz.prog 4 = none ∧ tbool Tryz.prog 4 = true ∧ tbytes Tryz.prog 4 = some 1 ∧ tzero Tryz.prog 4 = some [.bool false] := by (repeat' refine And.intro ?_ ?_) <;> kernel_rfl
@[simp] theorem Tryz.y5 : tsz Tryz.prog 5 = some 1 ∧ tag Tryz.prog 5 = some false ∧ telem Tryz.prog 5 = none ∧ tarr Tryz.prog 5 = none ∧ tint Tryz.prog 5 = some .u8 ∧ tbool Tryz.prog 5 = false ∧ tbytes Tryz.prog 5 = some 1 ∧ tzero Tryz.prog 5 = some [.int .u8 0] := by (repeat' refine And.intro ?_ ?_) <;> kernel_rfl
@[simp] theorem Tryz.y22 : tsz Tryz.prog 22 = some 1 ∧ tag Tryz.prog 22 = some false ∧ telem Tryz.prog 22 = some 114 ∧ tarr Tryz.prog 22 = none ∧ tint Tryz.prog 22 = none ∧ tbool Tryz.prog 22 = false ∧ tbytes Tryz.prog 22 = some 24 ∧ tzero Tryz.prog 22 = some [.slice none 0 0] := by (repeat' refine And.intro ?_ ?_) <;> kernel_rfl
@[simp] theorem Tryz.y24 : tsz Tryz.prog 24 = some 1 ∧ tag Tryz.prog 24 = some true ∧ telem Tryz.prog 24 = none ∧ tarr Tryz.prog 24 = none ∧ tint Tryz.prog 24 = none ∧ tbool Tryz.prog 24 = false ∧ tbytes Tryz.prog 24 = some 24 ∧ tzero Tryz.prog 24 = some [.slice none 0 0] ∧ toff Tryz.prog 24 0 = some 0 ∧ tfield Tryz.prog 24 0 = some (0, 1, false) ∧ placesOf Tryz.prog 24 = some [(0, 1)] := by (repeat' refine And.intro ?_ ?_) <;> kernel_rfl
@[simp] theorem Tryz.y25 : tsz Tryz.prog 25 = some 1 ∧ tag Tryz.prog 25 = some false ∧ telem Tryz.prog 25 = some 51 ∧ tarr Tryz.prog 25 = none ∧ tint Tryz.prog 25 = none ∧ tbool Tryz.prog 25 = false ∧ tbytes Tryz.prog 25 = some 24 ∧ tzero Tryz.prog 25 = some [.slice none 0 0] := by (repeat' refine And.intro ?_ ?_) <;> kernel_rfl
@[simp] theorem Tryz.y27 : tsz Tryz.prog 27 = some 2 ∧ tag Tryz.prog 27 = some true ∧ telem Tryz.prog 27 = none ∧ tarr Tryz.prog 27 = none ∧ tint Tryz.prog 27 = none ∧ tbool Tryz.prog 27 = false ∧ tbytes Tryz.prog 27 = some 48 ∧ tzero Tryz.prog 27 = some [.slice none 0 0, .slice none 0 0] ∧ toff Tryz.prog 27 0 = some 0 ∧ tfield Tryz.prog 27 0 = some (0, 1, true) ∧ toff Tryz.prog 27 1 = some 1 ∧ tfield Tryz.prog 27 1 = some (1, 1, false) ∧ placesOf Tryz.prog 27 = some [(0, 1), (1, 1)] := by (repeat' refine And.intro ?_ ?_) <;> kernel_rfl
@[simp] theorem Tryz.y28 : tsz Tryz.prog 28 = some 1 ∧ tag Tryz.prog 28 = some false ∧ telem Tryz.prog 28 = none ∧ tarr Tryz.prog 28 = none ∧ tint Tryz.prog 28 = some .u16 ∧ tbool Tryz.prog 28 = false ∧ tbytes Tryz.prog 28 = some 2 ∧ tzero Tryz.prog 28 = some [.int .u16 0] := by (repeat' refine And.intro ?_ ?_) <;> kernel_rfl
@[simp] theorem Tryz.y34 : tsz Tryz.prog 34 = some 1 ∧ tag Tryz.prog 34 = some false ∧ telem Tryz.prog 34 = some 3 ∧ tarr Tryz.prog 34 = none ∧ tint Tryz.prog 34 = none ∧ tbool Tryz.prog 34 = false ∧ tbytes Tryz.prog 34 = some 24 ∧ tzero Tryz.prog 34 = some [.slice none 0 0] := by (repeat' refine And.intro ?_ ?_) <;> kernel_rfl
@[simp] theorem Tryz.y41 : tsz Tryz.prog 41 = some 1 ∧ tag Tryz.prog 41 = some false ∧ telem Tryz.prog 41 = none ∧ tarr Tryz.prog 41 = none ∧ tint Tryz.prog 41 = none ∧ tbool Tryz.prog 41 = false ∧ tbytes Tryz.prog 41 = some 8 ∧ tzero Tryz.prog 41 = some [.map none] ∧ tmap Tryz.prog 41 = some (3, 4) := by (repeat' refine And.intro ?_ ?_) <;> kernel_rfl
@[simp] theorem Tryz.y42 : tsz Tryz.prog 42 = some 1 ∧ tag Tryz.prog 42 = some false ∧ telem Tryz.prog 42 = some 34 ∧ tarr Tryz.prog 42 = none ∧ tint Tryz.prog 42 = none ∧ tbool Tryz.prog 42 = false ∧ tbytes Tryz.prog 42 = some 24 ∧ tzero Tryz.prog 42 = some [.slice none 0 0] := by (repeat' refine And.intro ?_ ?_) <;> kernel_rfl
@[simp] theorem Tryz.y51 : tsz Tryz.prog 51 = some 10 ∧ tag Tryz.prog 51 = some true ∧ telem Tryz.prog 51 = none ∧ tarr Tryz.prog 51 = none ∧ tint Tryz.prog 51 = none ∧ tbool Tryz.prog 51 = false ∧ tbytes Tryz.prog 51 = some 72 ∧ tzero Tryz.prog 51 = some [.int .i64 0, .int .i64 0, .int .u8 0, .int .i64 0, .int .i64 0, .int .i64 0, .int .i64 0, .int .i64 0, .bool false, .int .u8 0] ∧ toff Tryz.prog 51 0 = some 0 ∧ tfield Tryz.prog 51 0 = some (0, 1, false) ∧ toff Tryz.prog 51 1 = some 1 ∧ tfield Tryz.prog 51 1 = some (1, 1, false) ∧ toff Tryz.prog 51 2 = some 2 ∧ tfield Tryz.prog 51 2 = some (2, 1, false) ∧ toff Tryz.prog 51 3 = some 3 ∧ tfield Tryz.prog 51 3 = some (3, 1, false) ∧ toff Tryz.prog 51 4 = some 4 ∧ tfield Tryz.prog 51 4 = some (4, 1, false) ∧ toff Tryz.prog 51 5 = some 5 ∧ tfield Tryz.prog 51 5 = some (5, 1, false) ∧ toff Tryz.prog 51 6 = some 6 ∧ tfield Tryz.prog 51 6 = some (6, 1, false) ∧ toff Tryz.prog 51 7 = some 7 ∧ tfield Tryz.prog 51 7 = some (7, 1, false) ∧ toff Tryz.prog 51 8 = some 8 ∧ tfield Tryz.prog 51 8 = some (8, 1, false) ∧ toff Tryz.prog 51 9 = some 9 ∧ tfield Tryz.prog 51 9 = some (9, 1, false) ∧ eqShape Tryz.prog 51 = some [.int .i64, .int .i64, .int .u8, .int .i64, .int .i64, .int .i64, .int .i64, .int .i64, .bool, .int .u8] ∧ placesOf Tryz.prog 51 = some [(0, 1), (1, 1), (2, 1), (3, 1), (4, 1), (5, 1), (6, 1), (7, 1), (8, 1), (9, 1)] := by (repeat' refine And.intro ?_ ?_) <;> kernel_rfl
@[simp] theorem Tryz.y58 : tsz Tryz.prog 58 = some 1 ∧ tag Tryz.prog 58 = some false ∧ telem Tryz.prog 58 = some 62 ∧ tarr Tryz.prog 58 = none ∧ tint Tryz.prog 58 = none ∧ tbool Tryz.prog 58 = false ∧ tbytes Tryz.prog 58 = some 24 ∧ tzero Tryz.prog 58 = some [.slice none 0 0] := by (repeat' refine And.intro ?_ ?_) <;> kernel_rfl
@[simp] theorem Tryz.y62 : tsz Tryz.prog 62 = some 3 ∧ tag Tryz.prog 62 = some true ∧ telem Tryz.prog 62 = none ∧ tarr Tryz.prog 62 = none ∧ tint Tryz.prog 62 = none ∧ tbool Tryz.prog 62 = false ∧ tbytes Tryz.prog 62 = some 24 ∧ tzero Tryz.prog 62 = some [.int .i64 0, .int .i64 0, .int .i64 0] ∧ toff Tryz.prog 62 0 = some 0 ∧ tfield Tryz.prog 62 0 = some (0, 1, false) ∧ toff Tryz.prog 62 1 = some 1 ∧ tfield Tryz.prog 62 1 = some (1, 1, false) ∧ toff Tryz.prog 62 2 = some 2 ∧ tfield Tryz.prog 62 2 = some (2, 1, false) ∧ eqShape Tryz.prog 62 = some [.int .i64, .int .i64, .int .i64] ∧ placesOf Tryz.prog 62 = some [(0, 1), (1, 1), (2, 1)] := by (repeat' refine And.intro ?_ ?_) <;> kernel_rfl
@[simp] theorem Tryz.y63 : tsz Tryz.prog 63 = some 1 ∧ tag Tryz.prog 63 = some false ∧ telem Tryz.prog 63 = none ∧ tarr Tryz.prog 63 = none ∧ tint Tryz.prog 63 = none ∧ tbool Tryz.prog 63 = false ∧ tbytes Tryz.prog 63 = some 8 ∧ tzero Tryz.prog 63 = some [.map none] ∧ tmap Tryz.prog 63 = some (3, 3) := by (repeat' refine And.intro ?_ ?_) <;> kernel_rfl
@[simp] theorem Tryz.y67 : tsz Tryz.prog 67 = some 2 ∧ tag Tryz.prog 67 = some true ∧ telem Tryz.prog 67 = none ∧ tarr Tryz.prog 67 = none ∧ tint Tryz.prog 67 = none ∧ tbool Tryz.prog 67 = false ∧ tbytes Tryz.prog 67 = some 16 ∧ tzero Tryz.prog 67 = some [.int .i64 0, .int .i64 0] ∧ toff Tryz.prog 67 0 = some 0 ∧ tfield Tryz.prog 67 0 = some (0, 1, false) ∧ toff Tryz.prog 67 1 = some 1 ∧ tfield Tryz.prog 67 1 = some (1, 1, false) ∧ eqShape Tryz.prog 67 = some [.int .i64, .int .i64] ∧ placesOf Tryz.prog 67 = some [(0, 1), (1, 1)] := by (repeat' refine And.intro ?_ ?_) <;> kernel_rfl
@[simp] theorem Tryz.y70 : tsz Tryz.prog 70 = some 1 ∧ tag Tryz.prog 70 = some false ∧ telem Tryz.prog 70 = some 77 ∧ tarr Tryz.prog 70 = none ∧ tint Tryz.prog 70 = none ∧ tbool Tryz.prog 70 = false ∧ tbytes Tryz.prog 70 = some 24 ∧ tzero Tryz.prog 70 = some [.slice none 0 0] := by (repeat' refine And.intro ?_ ?_) <;> kernel_rfl
@[simp] theorem Tryz.y76 : tsz Tryz.prog 76 = some 1 ∧ tag Tryz.prog 76 = some false ∧ telem Tryz.prog 76 = none ∧ tarr Tryz.prog 76 = none ∧ tint Tryz.prog 76 = none ∧ tbool Tryz.prog 76 = false ∧ tbytes Tryz.prog 76 = some 8 ∧ tzero Tryz.prog 76 = some [.map none] ∧ tmap Tryz.prog 76 = some (77, 4) := by (repeat' refine And.intro ?_ ?_) <;> kernel_rfl
@[simp] theorem Tryz.y77 : tsz Tryz.prog 77 = some 2 ∧ tag Tryz.prog 77 = some true ∧ telem Tryz.prog 77 = none ∧ tarr Tryz.prog 77 = some (2, 3) ∧ tint Tryz.prog 77 = none ∧ tbool Tryz.prog 77 = false ∧ tbytes Tryz.prog 77 = some 16 ∧ tzero Tryz.prog 77 = some [.int .i64 0, .int .i64 0] ∧ placesOf Tryz.prog 77 = some [(0, 1), (1, 1)] ∧ eqArrOk.tarr' Tryz.prog 77 = some (2, 3) ∧ eqShape Tryz.prog 77 = none ∧ eqArrOk Tryz.prog 77 = some [.int .i64, .int .i64] := by (repeat' refine And.intro ?_ ?_) <;> kernel_rfl
@[simp] theorem Tryz.y80 : tsz Tryz.prog 80 = some 1 ∧ tag Tryz.prog 80 = some false ∧ telem Tryz.prog 80 = some 121 ∧ tarr Tryz.prog 80 = none ∧ tint Tryz.prog 80 = none ∧ tbool Tryz.prog 80 = false ∧ tbytes Tryz.prog 80 = some 24 ∧ tzero Tryz.prog 80 = some [.slice none 0 0] := by (repeat' refine And.intro ?_ ?_) <;> kernel_rfl
@[simp] theorem Tryz.y83 : tsz Tryz.prog 83 = some 1 ∧ tag Tryz.prog 83 = some false ∧ telem Tryz.prog 83 = some 87 ∧ tarr Tryz.prog 83 = none ∧ tint Tryz.prog 83 = none ∧ tbool Tryz.prog 83 = false ∧ tbytes Tryz.prog 83 = some 24 ∧ tzero Tryz.prog 83 = some [.slice none 0 0] := by (repeat' refine And.intro ?_ ?_) <;> kernel_rfl
@[simp] theorem Tryz.y87 : tsz Tryz.prog 87 = some 4 ∧ tag Tryz.prog 87 = some true ∧ telem Tryz.prog 87 = none ∧ tarr Tryz.prog 87 = none ∧ tint Tryz.prog 87 = none ∧ tbool Tryz.prog 87 = false ∧ tbytes Tryz.prog 87 = some 32 ∧ tzero Tryz.prog 87 = some [.int .i64 0, .int .i64 0, .int .i64 0, .int .i64 0] ∧ toff Tryz.prog 87 0 = some 0 ∧ tfield Tryz.prog 87 0 = some (0, 1, false) ∧ toff Tryz.prog 87 1 = some 1 ∧ tfield Tryz.prog 87 1 = some (1, 1, false) ∧ toff Tryz.prog 87 2 = some 2 ∧ tfield Tryz.prog 87 2 = some (2, 1, false) ∧ toff Tryz.prog 87 3 = some 3 ∧ tfield Tryz.prog 87 3 = some (3, 1, false) ∧ eqShape Tryz.prog 87 = some [.int .i64, .int .i64, .int .i64, .int .i64] ∧ placesOf Tryz.prog 87 = some [(0, 1), (1, 1), (2, 1), (3, 1)] := by (repeat' refine And.intro ?_ ?_) <;> kernel_rfl
@[simp] theorem Tryz.y99 : tsz Tryz.prog 99 = some 1 ∧ tag Tryz.prog 99 = some false ∧ telem Tryz.prog 99 = none ∧ tarr Tryz.prog 99 = none ∧ tint Tryz.prog 99 = none ∧ tbool Tryz.prog 99 = false ∧ tbytes Tryz.prog 99 = some 8 ∧ tzero Tryz.prog 99 = some [.pointer none] := by (repeat' refine And.intro ?_ ?_) <;> kernel_rfl
@[simp] theorem Tryz.y106 : tsz Tryz.prog 106 = some 1 ∧ tag Tryz.prog 106 = some false ∧ telem Tryz.prog 106 = none ∧ tarr Tryz.prog 106 = none ∧ tint Tryz.prog 106 = none ∧ tbool Tryz.prog 106 = false ∧ tbytes Tryz.prog 106 = some 8 ∧ tzero Tryz.prog 106 = some [.nilFunc] := by (repeat' refine And.intro ?_ ?_) <;> kernel_rfl
@[simp] theorem Tryz.y112 : tsz Tryz.prog 112 = some 1 ∧ tag Tryz.prog 112 = some false ∧ telem Tryz.prog 112 = some 124 ∧ tarr Tryz.prog 112 = none ∧ tint Tryz.prog 112 = none ∧ tbool Tryz.prog 112 = false ∧ tbytes Tryz.prog 112 = some 24 ∧ tzero Tryz.prog 112 = some [.slice none 0 0] := by (repeat' refine And.intro ?_ ?_) <;> kernel_rfl
@[simp] theorem Tryz.y114 : tsz Tryz.prog 114 = some 5 ∧ tag Tryz.prog 114 = some true ∧ telem Tryz.prog 114 = none ∧ tarr Tryz.prog 114 = none ∧ tint Tryz.prog 114 = none ∧ tbool Tryz.prog 114 = false ∧ tbytes Tryz.prog 114 = some 72 ∧ tzero Tryz.prog 114 = some [.int .i64 0, .int .i64 0, .int .u8 0, .slice none 0 0, .slice none 0 0] ∧ toff Tryz.prog 114 0 = some 0 ∧ tfield Tryz.prog 114 0 = some (0, 1, false) ∧ toff Tryz.prog 114 1 = some 1 ∧ tfield Tryz.prog 114 1 = some (1, 1, false) ∧ toff Tryz.prog 114 2 = some 2 ∧ tfield Tryz.prog 114 2 = some (2, 1, false) ∧ toff Tryz.prog 114 3 = some 3 ∧ tfield Tryz.prog 114 3 = some (3, 1, false) ∧ toff Tryz.prog 114 4 = some 4 ∧ tfield Tryz.prog 114 4 = some (4, 1, false) ∧ placesOf Tryz.prog 114 = some [(0, 1), (1, 1), (2, 1), (3, 1), (4, 1)] := by (repeat' refine And.intro ?_ ?_) <;> kernel_rfl
@[simp] theorem Tryz.y117 : tsz Tryz.prog 117 = some 4 ∧ tag Tryz.prog 117 = some true ∧ telem Tryz.prog 117 = none ∧ tarr Tryz.prog 117 = none ∧ tint Tryz.prog 117 = none ∧ tbool Tryz.prog 117 = false ∧ tbytes Tryz.prog 117 = some 96 ∧ tzero Tryz.prog 117 = some [.slice none 0 0, .slice none 0 0, .slice none 0 0, .slice none 0 0] ∧ toff Tryz.prog 117 0 = some 0 ∧ tfield Tryz.prog 117 0 = some (0, 2, true) ∧ toff Tryz.prog 117 1 = some 2 ∧ tfield Tryz.prog 117 1 = some (2, 1, false) ∧ toff Tryz.prog 117 2 = some 3 ∧ tfield Tryz.prog 117 2 = some (3, 1, false) ∧ placesOf Tryz.prog 117 = some [(0, 2), (2, 1), (3, 1)] := by (repeat' refine And.intro ?_ ?_) <;> kernel_rfl
@[simp] theorem Tryz.y121 : tsz Tryz.prog 121 = some 2 ∧ tag Tryz.prog 121 = some true ∧ telem Tryz.prog 121 = none ∧ tarr Tryz.prog 121 = none ∧ tint Tryz.prog 121 = none ∧ tbool Tryz.prog 121 = false ∧ tbytes Tryz.prog 121 = some 16 ∧ tzero Tryz.prog 121 = some [.int .i64 0, .int .i64 0] ∧ toff Tryz.prog 121 0 = some 0 ∧ tfield Tryz.prog 121 0 = some (0, 1, false) ∧ toff Tryz.prog 121 1 = some 1 ∧ tfield Tryz.prog 121 1 = some (1, 1, false) ∧ eqShape Tryz.prog 121 = some [.int .i64, .int .i64] ∧ placesOf Tryz.prog 121 = some [(0, 1), (1, 1)] := by (repeat' refine And.intro ?_ ?_) <;> kernel_rfl
@[simp] theorem Tryz.y124 : tsz Tryz.prog 124 = some 3 ∧ tag Tryz.prog 124 = some true ∧ telem Tryz.prog 124 = none ∧ tarr Tryz.prog 124 = none ∧ tint Tryz.prog 124 = none ∧ tbool Tryz.prog 124 = false ∧ tbytes Tryz.prog 124 = some 24 ∧ tzero Tryz.prog 124 = some [.int .i64 0, .int .i64 0, .int .i64 0] ∧ toff Tryz.prog 124 0 = some 0 ∧ tfield Tryz.prog 124 0 = some (0, 1, false) ∧ toff Tryz.prog 124 1 = some 1 ∧ tfield Tryz.prog 124 1 = some (1, 1, false) ∧ toff Tryz.prog 124 2 = some 2 ∧ tfield Tryz.prog 124 2 = some (2, 1, false) ∧ eqShape Tryz.prog 124 = some [.int .i64, .int .i64, .int .i64] ∧ placesOf Tryz.prog 124 = some [(0, 1), (1, 1), (2, 1)] := by (repeat' refine And.intro ?_ ?_) <;> kernel_rfl
@[simp] theorem Tryz.y130 : tsz Tryz.prog 130 = some 1 ∧ tag Tryz.prog 130 = some false ∧ telem Tryz.prog 130 = none ∧ tarr Tryz.prog 130 = none ∧ tint Tryz.prog 130 = none ∧ tbool Tryz.prog 130 = false ∧ tbytes Tryz.prog 130 = some 8 ∧ tzero Tryz.prog 130 = some [.nilFunc] := by (repeat' refine And.intro ?_ ?_) <;> kernel_rfl
@[simp] theorem Tryz.y135 : tsz Tryz.prog 135 = some 1 ∧ tag Tryz.prog 135 = some false ∧ telem Tryz.prog 135 = none ∧ tarr Tryz.prog 135 = none ∧ tint Tryz.prog 135 = none ∧ tbool Tryz.prog 135 = false ∧ tbytes Tryz.prog 135 = some 8 ∧ tzero Tryz.prog 135 = some [.pointer none] := by (repeat' refine And.intro ?_ ?_) <;> kernel_rfl
@[simp] theorem Tryz.y136 : tsz Tryz.prog 136 = some 1 ∧ tag Tryz.prog 136 = some false ∧ telem Tryz.prog 136 = none ∧ tarr Tryz.prog 136 = none ∧ tint Tryz.prog 136 = none ∧ tbool Tryz.prog 136 = false ∧ tbytes Tryz.prog 136 = some 8 ∧ tzero Tryz.prog 136 = some [.map none] ∧ tmap Tryz.prog 136 = some (3, 114) := by (repeat' refine And.intro ?_ ?_) <;> kernel_rfl
@[simp] theorem Tryz.y139 : tsz Tryz.prog 139 = some 1 ∧ tag Tryz.prog 139 = some false ∧ telem Tryz.prog 139 = none ∧ tarr Tryz.prog 139 = none ∧ tint Tryz.prog 139 = none ∧ tbool Tryz.prog 139 = false ∧ tbytes Tryz.prog 139 = some 8 ∧ tzero Tryz.prog 139 = some [.nilFunc] := by (repeat' refine And.intro ?_ ?_) <;> kernel_rfl
@[simp] theorem Tryz.y141 : tsz Tryz.prog 141 = some 2 ∧ tag Tryz.prog 141 = some true ∧ telem Tryz.prog 141 = none ∧ tarr Tryz.prog 141 = none ∧ tint Tryz.prog 141 = none ∧ tbool Tryz.prog 141 = false ∧ tbytes Tryz.prog 141 = some 48 ∧ tzero Tryz.prog 141 = some [.slice none 0 0, .slice none 0 0] ∧ toff Tryz.prog 141 0 = some 0 ∧ tfield Tryz.prog 141 0 = some (0, 1, true) ∧ toff Tryz.prog 141 1 = some 1 ∧ tfield Tryz.prog 141 1 = some (1, 1, false) ∧ placesOf Tryz.prog 141 = some [(0, 1), (1, 1)] := by (repeat' refine And.intro ?_ ?_) <;> kernel_rfl
@[simp] theorem Tryz.y142 : tsz Tryz.prog 142 = some 1 ∧ tag Tryz.prog 142 = some false ∧ telem Tryz.prog 142 = none ∧ tarr Tryz.prog 142 = none ∧ tint Tryz.prog 142 = none ∧ tbool Tryz.prog 142 = false ∧ tbytes Tryz.prog 142 = some 8 ∧ tzero Tryz.prog 142 = some [.nilFunc] := by (repeat' refine And.intro ?_ ?_) <;> kernel_rfl
@[simp] theorem Tryz.y145 : tsz Tryz.prog 145 = some 1 ∧ tag Tryz.prog 145 = some false ∧ telem Tryz.prog 145 = none ∧ tarr Tryz.prog 145 = none ∧ tint Tryz.prog 145 = none ∧ tbool Tryz.prog 145 = false ∧ tbytes Tryz.prog 145 = some 8 ∧ tzero Tryz.prog 145 = some [.nilFunc] := by (repeat' refine And.intro ?_ ?_) <;> kernel_rfl
@[simp] theorem Tryz.y151 : tsz Tryz.prog 151 = some 1 ∧ tag Tryz.prog 151 = some false ∧ telem Tryz.prog 151 = none ∧ tarr Tryz.prog 151 = none ∧ tint Tryz.prog 151 = some .u64 ∧ tbool Tryz.prog 151 = false ∧ tbytes Tryz.prog 151 = some 8 ∧ tzero Tryz.prog 151 = some [.int .u64 0] := by (repeat' refine And.intro ?_ ?_) <;> kernel_rfl
@[simp] theorem Tryz.y155 : tsz Tryz.prog 155 = some 1 ∧ tag Tryz.prog 155 = some true ∧ telem Tryz.prog 155 = none ∧ tarr Tryz.prog 155 = none ∧ tint Tryz.prog 155 = none ∧ tbool Tryz.prog 155 = false ∧ tbytes Tryz.prog 155 = some 8 ∧ tzero Tryz.prog 155 = some [.nilFunc] ∧ toff Tryz.prog 155 0 = some 0 ∧ tfield Tryz.prog 155 0 = some (0, 1, false) ∧ placesOf Tryz.prog 155 = some [(0, 1)] := by (repeat' refine And.intro ?_ ?_) <;> kernel_rfl
@[simp] theorem Tryz.y156 : tsz Tryz.prog 156 = some 8 ∧ tag Tryz.prog 156 = some true ∧ telem Tryz.prog 156 = none ∧ tarr Tryz.prog 156 = some (8, 155) ∧ tint Tryz.prog 156 = none ∧ tbool Tryz.prog 156 = false ∧ tbytes Tryz.prog 156 = some 64 ∧ tzero Tryz.prog 156 = some [.nilFunc, .nilFunc, .nilFunc, .nilFunc, .nilFunc, .nilFunc, .nilFunc, .nilFunc] ∧ placesOf Tryz.prog 156 = some [(0, 1), (1, 1), (2, 1), (3, 1), (4, 1), (5, 1), (6, 1), (7, 1)] ∧ eqArrOk.tarr' Tryz.prog 156 = some (8, 155) ∧ eqShape Tryz.prog 156 = none := by (repeat' refine And.intro ?_ ?_) <;> kernel_rfl
@[simp] theorem Tryz.y164 : tsz Tryz.prog 164 = some 1 ∧ tag Tryz.prog 164 = some false ∧ telem Tryz.prog 164 = none ∧ tarr Tryz.prog 164 = none ∧ tint Tryz.prog 164 = none ∧ tbool Tryz.prog 164 = false ∧ tbytes Tryz.prog 164 = some 8 ∧ tzero Tryz.prog 164 = some [.nilFunc] := by (repeat' refine And.intro ?_ ?_) <;> kernel_rfl
@[simp] theorem Tryz.y180 : tsz Tryz.prog 180 = some 1 ∧ tag Tryz.prog 180 = some true ∧ telem Tryz.prog 180 = none ∧ tarr Tryz.prog 180 = none ∧ tint Tryz.prog 180 = none ∧ tbool Tryz.prog 180 = false ∧ tbytes Tryz.prog 180 = some 8 ∧ tzero Tryz.prog 180 = some [.nilFunc] ∧ toff Tryz.prog 180 0 = some 0 ∧ tfield Tryz.prog 180 0 = some (0, 1, false) ∧ placesOf Tryz.prog 180 = some [(0, 1)] := by (repeat' refine And.intro ?_ ?_) <;> kernel_rfl
@[simp] theorem Tryz.y181 : tsz Tryz.prog 181 = some 4 ∧ tag Tryz.prog 181 = some true ∧ telem Tryz.prog 181 = none ∧ tarr Tryz.prog 181 = some (4, 180) ∧ tint Tryz.prog 181 = none ∧ tbool Tryz.prog 181 = false ∧ tbytes Tryz.prog 181 = some 32 ∧ tzero Tryz.prog 181 = some [.nilFunc, .nilFunc, .nilFunc, .nilFunc] ∧ placesOf Tryz.prog 181 = some [(0, 1), (1, 1), (2, 1), (3, 1)] ∧ eqArrOk.tarr' Tryz.prog 181 = some (4, 180) ∧ eqShape Tryz.prog 181 = none := by (repeat' refine And.intro ?_ ?_) <;> kernel_rfl
@[simp] theorem Tryz.yx3 : keyShape Tryz.prog 3 = some [.int .i64] := by kernel_rfl
@[simp] theorem Tryz.yx77 : keyShape Tryz.prog 77 = some [.int .i64, .int .i64] := by kernel_rfl
@[simp] theorem Tryz.yxx3 : tzk Tryz.prog 3 = some [.int .i64 0] := by kernel_rfl
@[simp] theorem Tryz.yx4 : tzk Tryz.prog 4 = some [.bool false] := by kernel_rfl
@[simp] theorem Tryz.yx114 : tzk Tryz.prog 114 = some [.int .i64 0, .int .i64 0, .int .u8 0, .slice none 0 0, .slice none 0 0] := by kernel_rfl
@[simp] theorem Tryz.ok12 : CallOk Tryz.prog 12 := Tryz.call12
@[simp] theorem Tryz.ok13 : CallOk Tryz.prog 13 := Tryz.call13
@[simp] theorem Tryz.ok14 : CallOk Tryz.prog 14 := Tryz.call14
@[simp] theorem Tryz.ok15 : CallOk Tryz.prog 15 := Tryz.call15
@[simp] theorem Tryz.ok16 : CallOk Tryz.prog 16 := Tryz.call16
@[simp] theorem Tryz.ok17 : CallOk Tryz.prog 17 := Tryz.call17
@[simp] theorem Tryz.ok18 : CallOk Tryz.prog 18 := Tryz.call18
@[simp] theorem Tryz.ok19 : CallOk Tryz.prog 19 := Tryz.call19
@[simp] theorem Tryz.ok20 : CallOk Tryz.prog 20 := Tryz.call20
@[simp] theorem Tryz.ok21 : CallOk Tryz.prog 21 := Tryz.call21
@[simp] theorem Tryz.ok22 : CallOk Tryz.prog 22 := Tryz.call22
@[simp] theorem Tryz.ok23 : CallOk Tryz.prog 23 := Tryz.call23
@[simp] theorem Tryz.ok24 : CallOk Tryz.prog 24 := Tryz.call24
@[simp] theorem Tryz.ok25 : CallOk Tryz.prog 25 := Tryz.call25
@[simp] theorem Tryz.ok26 : CallOk Tryz.prog 26 := Tryz.call26
@[simp] theorem Tryz.ok27 : CallOk Tryz.prog 27 := Tryz.call27
@[simp] theorem Tryz.ok28 : CallOk Tryz.prog 28 := Tryz.call28
@[simp] theorem Tryz.ok29 : CallOk Tryz.prog 29 := Tryz.call29
@[simp] theorem Tryz.ok30 : CallOk Tryz.prog 30 := Tryz.call30
@[simp] theorem Tryz.ok31 : CallOk Tryz.prog 31 := Tryz.call31
@[simp] theorem Tryz.ok32 : CallOk Tryz.prog 32 := Tryz.call32
@[simp] theorem Tryz.ok36 : CallOk Tryz.prog 36 := Tryz.call36
@[simp] theorem Tryz.ok37 : CallOk Tryz.prog 37 := Tryz.call37
@[simp] theorem Tryz.ok38 : CallOk Tryz.prog 38 := Tryz.call38
@[simp] theorem Tryz.ok39 : CallOk Tryz.prog 39 := Tryz.call39
@[simp] theorem Tryz.ok40 : CallOk Tryz.prog 40 := Tryz.call40
@[simp] theorem Tryz.ok41 : CallOk Tryz.prog 41 := Tryz.call41
@[simp] theorem Tryz.ok42 : CallOk Tryz.prog 42 := Tryz.call42
@[simp] theorem Tryz.ok43 : CallOk Tryz.prog 43 := Tryz.call43
@[simp] theorem Tryz.ok44 : CallOk Tryz.prog 44 := Tryz.call44
@[simp] theorem Tryz.ok45 : CallOk Tryz.prog 45 := Tryz.call45
@[simp] theorem Tryz.ok46 : CallOk Tryz.prog 46 := Tryz.call46
@[simp] theorem Tryz.ok47 : CallOk Tryz.prog 47 := Tryz.call47
@[simp] theorem Tryz.ok48 : CallOk Tryz.prog 48 := Tryz.call48
@[simp] theorem Tryz.ok49 : CallOk Tryz.prog 49 := Tryz.call49
@[simp] theorem Tryz.ok50 : CallOk Tryz.prog 50 := Tryz.call50
@[simp] theorem Tryz.ok51 : CallOk Tryz.prog 51 := Tryz.call51
@[simp] theorem Tryz.ok52 : CallOk Tryz.prog 52 := Tryz.call52
@[simp] theorem Tryz.ok53 : CallOk Tryz.prog 53 := Tryz.call53
@[simp] theorem Tryz.ok54 : CallOk Tryz.prog 54 := Tryz.call54
@[simp] theorem Tryz.ok55 : CallOk Tryz.prog 55 := Tryz.call55
@[simp] theorem Tryz.ok56 : CallOk Tryz.prog 56 := Tryz.call56
@[simp] theorem Tryz.ok57 : CallOk Tryz.prog 57 := Tryz.call57
@[simp] theorem Tryz.ok58 : CallOk Tryz.prog 58 := Tryz.call58
@[simp] theorem Tryz.ok59 : CallOk Tryz.prog 59 := Tryz.call59
@[simp] theorem Tryz.ok60 : CallOk Tryz.prog 60 := Tryz.call60
@[simp] theorem Tryz.ok61 : CallOk Tryz.prog 61 := Tryz.call61
@[simp] theorem Tryz.ok62 : CallOk Tryz.prog 62 := Tryz.call62
@[simp] theorem Tryz.ok63 : CallOk Tryz.prog 63 := Tryz.call63
@[simp] theorem Tryz.ok64 : CallOk Tryz.prog 64 := Tryz.call64
@[simp] theorem Tryz.ok65 : CallOk Tryz.prog 65 := Tryz.call65
@[simp] theorem Tryz.ok66 : CallOk Tryz.prog 66 := Tryz.call66
@[simp] theorem Tryz.ok67 : CallOk Tryz.prog 67 := Tryz.call67
@[simp] theorem Tryz.ok68 : CallOk Tryz.prog 68 := Tryz.call68
@[simp] theorem Tryz.ok69 : CallOk Tryz.prog 69 := Tryz.call69
@[simp] theorem Tryz.ok70 : CallOk Tryz.prog 70 := Tryz.call70
@[simp] theorem Tryz.ok71 : CallOk Tryz.prog 71 := Tryz.call71
@[simp] theorem Tryz.ok72 : CallOk Tryz.prog 72 := Tryz.call72
@[simp] theorem Tryz.ok74 : CallOk Tryz.prog 74 := Tryz.call74
@[simp] theorem Tryz.ok75 : CallOk Tryz.prog 75 := Tryz.call75
@[simp] theorem Tryz.ok76 : CallOk Tryz.prog 76 := Tryz.call76
@[simp] theorem Tryz.ok77 : CallOk Tryz.prog 77 := Tryz.call77
@[simp] theorem Tryz.ok78 : CallOk Tryz.prog 78 := Tryz.call78
@[simp] theorem Tryz.ok79 : CallOk Tryz.prog 79 := Tryz.call79
@[simp] theorem Tryz.ok80 : CallOk Tryz.prog 80 := Tryz.call80
@[simp] theorem Tryz.ok81 : CallOk Tryz.prog 81 := Tryz.call81
@[simp] theorem Tryz.ok82 : CallOk Tryz.prog 82 := Tryz.call82
@[simp] theorem Tryz.ok83 : CallOk Tryz.prog 83 := Tryz.call83
@[simp] theorem Tryz.ok84 : CallOk Tryz.prog 84 := Tryz.call84
@[simp] theorem Tryz.ok85 : CallOk Tryz.prog 85 := Tryz.call85
@[simp] theorem Tryz.ok87 : CallOk Tryz.prog 87 := Tryz.call87
@[simp] theorem Tryz.ok88 : CallOk Tryz.prog 88 := Tryz.call88
@[simp] theorem Tryz.ok91 : CallOk Tryz.prog 91 := Tryz.call91
@[simp] theorem Tryz.ok92 : CallOk Tryz.prog 92 := Tryz.call92
@[simp] theorem Tryz.ok93 : CallOk Tryz.prog 93 := Tryz.call93
@[simp] theorem Tryz.ok94 : CallOk Tryz.prog 94 := Tryz.call94
@[simp] theorem Tryz.ok95 : CallOk Tryz.prog 95 := Tryz.call95
@[simp] theorem Tryz.ok97 : CallOk Tryz.prog 97 := Tryz.call97
@[simp] theorem Tryz.ok98 : CallOk Tryz.prog 98 := Tryz.call98
@[simp] theorem Tryz.ok99 : CallOk Tryz.prog 99 := Tryz.call99
@[simp] theorem Tryz.ok100 : CallOk Tryz.prog 100 := Tryz.call100
@[simp] theorem Tryz.ok101 : CallOk Tryz.prog 101 := Tryz.call101
@[simp] theorem Tryz.ok102 : CallOk Tryz.prog 102 := Tryz.call102
@[simp] theorem Tryz.ok103 : CallOk Tryz.prog 103 := Tryz.call103
@[simp] theorem Tryz.ok104 : CallOk Tryz.prog 104 := Tryz.call104
@[simp] theorem Tryz.ok111 : CallOk Tryz.prog 111 := Tryz.call111
@[simp] theorem Tryz.ok116 : CallOk Tryz.prog 116 := Tryz.call116
@[simp] theorem Tryz.ok118 : CallOk Tryz.prog 118 := Tryz.call118
@[simp] theorem Tryz.ok119 : CallOk Tryz.prog 119 := Tryz.call119
@[simp] theorem Tryz.ok120 : CallOk Tryz.prog 120 := Tryz.call120
@[simp] theorem Tryz.ok121 : CallOk Tryz.prog 121 := Tryz.call121
@[simp] theorem Tryz.ok122 : CallOk Tryz.prog 122 := Tryz.call122
@[simp] theorem Tryz.ok123 : CallOk Tryz.prog 123 := Tryz.call123
@[simp] theorem Tryz.ok124 : CallOk Tryz.prog 124 := Tryz.call124
@[simp] theorem Tryz.ok125 : CallOk Tryz.prog 125 := Tryz.call125
@[simp] theorem Tryz.ok131 : CallOk Tryz.prog 131 := Tryz.call131
@[simp] theorem Tryz.ok132 : CallOk Tryz.prog 132 := Tryz.call132
@[simp] theorem Tryz.ok133 : CallOk Tryz.prog 133 := Tryz.call133
@[simp] theorem Tryz.ok135 : CallOk Tryz.prog 135 := Tryz.call135
@[simp] theorem Tryz.ok136 : CallOk Tryz.prog 136 := Tryz.call136
@[simp] theorem Tryz.ok137 : CallOk Tryz.prog 137 := Tryz.call137
@[simp] theorem Tryz.ok138 : CallOk Tryz.prog 138 := Tryz.call138
@[simp] theorem Tryz.ok139 : CallOk Tryz.prog 139 := Tryz.call139
@[simp] theorem Tryz.ok158 : CallOk Tryz.prog 158 := Tryz.call158
@[simp] theorem Tryz.ok159 : CallOk Tryz.prog 159 := Tryz.call159
@[simp] theorem Tryz.ok160 : CallOk Tryz.prog 160 := Tryz.call160
@[simp] theorem Tryz.ok161 : CallOk Tryz.prog 161 := Tryz.call161
@[simp] theorem Tryz.ok162 : CallOk Tryz.prog 162 := Tryz.call162
@[simp] theorem Tryz.ok163 : CallOk Tryz.prog 163 := Tryz.call163
@[simp] theorem Tryz.ok164 : CallOk Tryz.prog 164 := Tryz.call164
@[simp] theorem Tryz.ok165 : CallOk Tryz.prog 165 := Tryz.call165
@[simp] theorem Tryz.ok166 : CallOk Tryz.prog 166 := Tryz.call166
@[simp] theorem Tryz.ok167 : CallOk Tryz.prog 167 := Tryz.call167
@[simp] theorem Tryz.ok168 : CallOk Tryz.prog 168 := Tryz.call168
@[simp] theorem Tryz.ok169 : CallOk Tryz.prog 169 := Tryz.call169
@[simp] theorem Tryz.ok170 : CallOk Tryz.prog 170 := Tryz.call170
@[simp] theorem Tryz.ok171 : CallOk Tryz.prog 171 := Tryz.call171
@[simp] theorem Tryz.ok172 : CallOk Tryz.prog 172 := Tryz.call172
@[simp] theorem Tryz.ok173 : CallOk Tryz.prog 173 := Tryz.call173
@[simp] theorem Tryz.ok174 : CallOk Tryz.prog 174 := Tryz.call174
@[simp] theorem Tryz.ok175 : CallOk Tryz.prog 175 := Tryz.call175
@[simp] theorem Tryz.ok176 : CallOk Tryz.prog 176 := Tryz.call176
@[simp] theorem Tryz.ok177 : CallOk Tryz.prog 177 := Tryz.call177
@[simp] theorem Tryz.ok178 : CallOk Tryz.prog 178 := Tryz.call178
@[simp] theorem Tryz.ok179 : CallOk Tryz.prog 179 := Tryz.call179
@[simp] theorem Tryz.ok180 : CallOk Tryz.prog 180 := Tryz.call180
@[simp] theorem Tryz.ok181 : CallOk Tryz.prog 181 := Tryz.call181
end Go.Proofs
