/- Part 14 of the proofs: laws and walks that hold without conditions beyond those that each theorem names. -/
import Derived.Test.YtmfanojaldiejaaDoorProg
import Derived.KernelRfl
import Derived.Test.YtmfanojaldiejaaDoorA12
set_option linter.all false
set_option linter.deprecated false
namespace Go.Proofs
open Go Go.Ab
@[simp] theorem Tryd.y3 : tsz Tryd.prog 3 = some 1 ∧ tag Tryd.prog 3 = some false ∧ telem Tryd.prog 3 = none ∧ tarr Tryd.prog 3 = none ∧ tint Tryd.prog 3 = some .i64 ∧ tbool Tryd.prog 3 = false ∧ tbytes Tryd.prog 3 = some 8 ∧ tzero Tryd.prog 3 = some [.int .i64 0] := by (repeat' refine And.intro ?_ ?_) <;> kernel_rfl
@[simp] theorem Tryd.y4 : tsz Tryd.prog 4 = some 1 ∧ tag Tryd.prog 4 = some false ∧ telem Tryd.prog 4 = none ∧ tarr Tryd.prog 4 = none ∧ tint Tryd.prog 4 = none ∧ tbool Tryd.prog 4 = true ∧ tbytes Tryd.prog 4 = some 1 ∧ tzero Tryd.prog 4 = some [.bool false] := by (repeat' refine And.intro ?_ ?_) <;> kernel_rfl
@[simp] theorem Tryd.y5 : tsz Tryd.prog 5 = some 1 ∧ tag Tryd.prog 5 = some false ∧ telem Tryd.prog 5 = none ∧ tarr Tryd.prog 5 = none ∧ tint Tryd.prog 5 = some .u8 ∧ tbool Tryd.prog 5 = false ∧ tbytes Tryd.prog 5 = some 1 ∧ tzero Tryd.prog 5 = some [.int .u8 0] := by (repeat' refine And.intro ?_ ?_) <;> kernel_rfl
@[simp] theorem Tryd.y26 : tsz Tryd.prog 26 = some 1 ∧ tag Tryd.prog 26 = some false ∧ telem Tryd.prog 26 = some 86 ∧ tarr Tryd.prog 26 = none ∧ tint Tryd.prog 26 = none ∧ tbool Tryd.prog 26 = false ∧ tbytes Tryd.prog 26 = some 24 ∧ tzero Tryd.prog 26 = some [.slice none 0 0] := by (repeat' refine And.intro ?_ ?_) <;> kernel_rfl
@[simp] theorem Tryd.y28 : tsz Tryd.prog 28 = some 1 ∧ tag Tryd.prog 28 = some true ∧ telem Tryd.prog 28 = none ∧ tarr Tryd.prog 28 = none ∧ tint Tryd.prog 28 = none ∧ tbool Tryd.prog 28 = false ∧ tbytes Tryd.prog 28 = some 24 ∧ tzero Tryd.prog 28 = some [.slice none 0 0] ∧ toff Tryd.prog 28 0 = some 0 ∧ tfield Tryd.prog 28 0 = some (0, 1, false) ∧ placesOf Tryd.prog 28 = some [(0, 1)] := by (repeat' refine And.intro ?_ ?_) <;> kernel_rfl
@[simp] theorem Tryd.y29 : tsz Tryd.prog 29 = some 1 ∧ tag Tryd.prog 29 = some false ∧ telem Tryd.prog 29 = some 41 ∧ tarr Tryd.prog 29 = none ∧ tint Tryd.prog 29 = none ∧ tbool Tryd.prog 29 = false ∧ tbytes Tryd.prog 29 = some 24 ∧ tzero Tryd.prog 29 = some [.slice none 0 0] := by (repeat' refine And.intro ?_ ?_) <;> kernel_rfl
@[simp] theorem Tryd.y31 : tsz Tryd.prog 31 = some 2 ∧ tag Tryd.prog 31 = some true ∧ telem Tryd.prog 31 = none ∧ tarr Tryd.prog 31 = none ∧ tint Tryd.prog 31 = none ∧ tbool Tryd.prog 31 = false ∧ tbytes Tryd.prog 31 = some 48 ∧ tzero Tryd.prog 31 = some [.slice none 0 0, .slice none 0 0] ∧ toff Tryd.prog 31 0 = some 0 ∧ tfield Tryd.prog 31 0 = some (0, 1, true) ∧ toff Tryd.prog 31 1 = some 1 ∧ tfield Tryd.prog 31 1 = some (1, 1, false) ∧ placesOf Tryd.prog 31 = some [(0, 1), (1, 1)] := by (repeat' refine And.intro ?_ ?_) <;> kernel_rfl
@[simp] theorem Tryd.y35 : tsz Tryd.prog 35 = some 2 ∧ tag Tryd.prog 35 = some true ∧ telem Tryd.prog 35 = none ∧ tarr Tryd.prog 35 = none ∧ tint Tryd.prog 35 = none ∧ tbool Tryd.prog 35 = false ∧ tbytes Tryd.prog 35 = some 16 ∧ tzero Tryd.prog 35 = some [.int .i64 0, .int .i64 0] ∧ toff Tryd.prog 35 0 = some 0 ∧ tfield Tryd.prog 35 0 = some (0, 1, false) ∧ toff Tryd.prog 35 1 = some 1 ∧ tfield Tryd.prog 35 1 = some (1, 1, false) ∧ eqShape Tryd.prog 35 = some [.int .i64, .int .i64] ∧ placesOf Tryd.prog 35 = some [(0, 1), (1, 1)] := by (repeat' refine And.intro ?_ ?_) <;> kernel_rfl
@[simp] theorem Tryd.y36 : tsz Tryd.prog 36 = some 1 ∧ tag Tryd.prog 36 = some false ∧ telem Tryd.prog 36 = some 3 ∧ tarr Tryd.prog 36 = none ∧ tint Tryd.prog 36 = none ∧ tbool Tryd.prog 36 = false ∧ tbytes Tryd.prog 36 = some 24 ∧ tzero Tryd.prog 36 = some [.slice none 0 0] := by (repeat' refine And.intro ?_ ?_) <;> kernel_rfl
@[simp] theorem Tryd.y41 : tsz Tryd.prog 41 = some 10 ∧ tag Tryd.prog 41 = some true ∧ telem Tryd.prog 41 = none ∧ tarr Tryd.prog 41 = none ∧ tint Tryd.prog 41 = none ∧ tbool Tryd.prog 41 = false ∧ tbytes Tryd.prog 41 = some 72 ∧ tzero Tryd.prog 41 = some [.int .i64 0, .int .i64 0, .int .u8 0, .int .i64 0, .int .i64 0, .int .i64 0, .int .i64 0, .int .i64 0, .bool false, .int .u8 0] ∧ toff Tryd.prog 41 0 = some 0 ∧ tfield Tryd.prog 41 0 = some (0, 1, false) ∧ toff Tryd.prog 41 1 = some 1 ∧ tfield Tryd.prog 41 1 = some (1, 1, false) ∧ toff Tryd.prog 41 2 = some 2 ∧ tfield Tryd.prog 41 2 = some (2, 1, false) ∧ toff Tryd.prog 41 3 = some 3 ∧ tfield Tryd.prog 41 3 = some (3, 1, false) ∧ toff Tryd.prog 41 4 = some 4 ∧ tfield Tryd.prog 41 4 = some (4, 1, false) ∧ toff Tryd.prog 41 5 = some 5 ∧ tfield Tryd.prog 41 5 = some (5, 1, false) ∧ toff Tryd.prog 41 6 = some 6 ∧ tfield Tryd.prog 41 6 = some (6, 1, false) ∧ toff Tryd.prog 41 7 = some 7 ∧ tfield Tryd.prog 41 7 = some (7, 1, false) ∧ toff Tryd.prog 41 8 = some 8 ∧ tfield Tryd.prog 41 8 = some (8, 1, false) ∧ toff Tryd.prog 41 9 = some 9 ∧ tfield Tryd.prog 41 9 = some (9, 1, false) ∧ eqShape Tryd.prog 41 = some [.int .i64, .int .i64, .int .u8, .int .i64, .int .i64, .int .i64, .int .i64, .int .i64, .bool, .int .u8] ∧ placesOf Tryd.prog 41 = some [(0, 1), (1, 1), (2, 1), (3, 1), (4, 1), (5, 1), (6, 1), (7, 1), (8, 1), (9, 1)] := by (repeat' refine And.intro ?_ ?_) <;> kernel_rfl
@[simp] theorem Tryd.y46 : tsz Tryd.prog 46 = some 1 ∧ tag Tryd.prog 46 = some false ∧ telem Tryd.prog 46 = some 51 ∧ tarr Tryd.prog 46 = none ∧ tint Tryd.prog 46 = none ∧ tbool Tryd.prog 46 = false ∧ tbytes Tryd.prog 46 = some 24 ∧ tzero Tryd.prog 46 = some [.slice none 0 0] := by (repeat' refine And.intro ?_ ?_) <;> kernel_rfl
@[simp] theorem Tryd.y51 : tsz Tryd.prog 51 = some 3 ∧ tag Tryd.prog 51 = some true ∧ telem Tryd.prog 51 = none ∧ tarr Tryd.prog 51 = none ∧ tint Tryd.prog 51 = none ∧ tbool Tryd.prog 51 = false ∧ tbytes Tryd.prog 51 = some 24 ∧ tzero Tryd.prog 51 = some [.int .i64 0, .int .i64 0, .int .i64 0] ∧ toff Tryd.prog 51 0 = some 0 ∧ tfield Tryd.prog 51 0 = some (0, 1, false) ∧ toff Tryd.prog 51 1 = some 1 ∧ tfield Tryd.prog 51 1 = some (1, 1, false) ∧ toff Tryd.prog 51 2 = some 2 ∧ tfield Tryd.prog 51 2 = some (2, 1, false) ∧ eqShape Tryd.prog 51 = some [.int .i64, .int .i64, .int .i64] ∧ placesOf Tryd.prog 51 = some [(0, 1), (1, 1), (2, 1)] := by (repeat' refine And.intro ?_ ?_) <;> kernel_rfl
@[simp] theorem Tryd.y52 : tsz Tryd.prog 52 = some 1 ∧ tag Tryd.prog 52 = some false ∧ telem Tryd.prog 52 = some 60 ∧ tarr Tryd.prog 52 = none ∧ tint Tryd.prog 52 = none ∧ tbool Tryd.prog 52 = false ∧ tbytes Tryd.prog 52 = some 24 ∧ tzero Tryd.prog 52 = some [.slice none 0 0] := by (repeat' refine And.intro ?_ ?_) <;> kernel_rfl
@[simp] theorem Tryd.y60 : tsz Tryd.prog 60 = some 2 ∧ tag Tryd.prog 60 = some true ∧ telem Tryd.prog 60 = none ∧ tarr Tryd.prog 60 = some (2, 3) ∧ tint Tryd.prog 60 = none ∧ tbool Tryd.prog 60 = false ∧ tbytes Tryd.prog 60 = some 16 ∧ tzero Tryd.prog 60 = some [.int .i64 0, .int .i64 0] ∧ placesOf Tryd.prog 60 = some [(0, 1), (1, 1)] ∧ eqArrOk.tarr' Tryd.prog 60 = some (2, 3) ∧ eqShape Tryd.prog 60 = none ∧ eqArrOk Tryd.prog 60 = some [.int .i64, .int .i64] := by (repeat' refine And.intro ?_ ?_) <;> kernel_rfl
@[simp] theorem Tryd.y62 : tsz Tryd.prog 62 = some 1 ∧ tag Tryd.prog 62 = some false ∧ telem Tryd.prog 62 = none ∧ tarr Tryd.prog 62 = none ∧ tint Tryd.prog 62 = none ∧ tbool Tryd.prog 62 = false ∧ tbytes Tryd.prog 62 = some 8 ∧ tzero Tryd.prog 62 = some [.pointer none] := by (repeat' refine And.intro ?_ ?_) <;> kernel_rfl
@[simp] theorem Tryd.y66 : tsz Tryd.prog 66 = some 1 ∧ tag Tryd.prog 66 = some false ∧ telem Tryd.prog 66 = none ∧ tarr Tryd.prog 66 = none ∧ tint Tryd.prog 66 = none ∧ tbool Tryd.prog 66 = false ∧ tbytes Tryd.prog 66 = some 8 ∧ tzero Tryd.prog 66 = some [.nilFunc] := by (repeat' refine And.intro ?_ ?_) <;> kernel_rfl
@[simp] theorem Tryd.y72 : tsz Tryd.prog 72 = some 1 ∧ tag Tryd.prog 72 = some false ∧ telem Tryd.prog 72 = some 36 ∧ tarr Tryd.prog 72 = none ∧ tint Tryd.prog 72 = none ∧ tbool Tryd.prog 72 = false ∧ tbytes Tryd.prog 72 = some 24 ∧ tzero Tryd.prog 72 = some [.slice none 0 0] := by (repeat' refine And.intro ?_ ?_) <;> kernel_rfl
@[simp] theorem Tryd.y74 : tsz Tryd.prog 74 = some 4 ∧ tag Tryd.prog 74 = some true ∧ telem Tryd.prog 74 = none ∧ tarr Tryd.prog 74 = none ∧ tint Tryd.prog 74 = none ∧ tbool Tryd.prog 74 = false ∧ tbytes Tryd.prog 74 = some 96 ∧ tzero Tryd.prog 74 = some [.slice none 0 0, .slice none 0 0, .slice none 0 0, .slice none 0 0] ∧ toff Tryd.prog 74 0 = some 0 ∧ tfield Tryd.prog 74 0 = some (0, 2, true) ∧ toff Tryd.prog 74 1 = some 2 ∧ tfield Tryd.prog 74 1 = some (2, 1, false) ∧ toff Tryd.prog 74 2 = some 3 ∧ tfield Tryd.prog 74 2 = some (3, 1, false) ∧ placesOf Tryd.prog 74 = some [(0, 2), (2, 1), (3, 1)] := by (repeat' refine And.intro ?_ ?_) <;> kernel_rfl
@[simp] theorem Tryd.y83 : tsz Tryd.prog 83 = some 1 ∧ tag Tryd.prog 83 = some false ∧ telem Tryd.prog 83 = some 89 ∧ tarr Tryd.prog 83 = none ∧ tint Tryd.prog 83 = none ∧ tbool Tryd.prog 83 = false ∧ tbytes Tryd.prog 83 = some 24 ∧ tzero Tryd.prog 83 = some [.slice none 0 0] := by (repeat' refine And.intro ?_ ?_) <;> kernel_rfl
@[simp] theorem Tryd.y84 : tsz Tryd.prog 84 = some 1 ∧ tag Tryd.prog 84 = some false ∧ telem Tryd.prog 84 = some 92 ∧ tarr Tryd.prog 84 = none ∧ tint Tryd.prog 84 = none ∧ tbool Tryd.prog 84 = false ∧ tbytes Tryd.prog 84 = some 24 ∧ tzero Tryd.prog 84 = some [.slice none 0 0] := by (repeat' refine And.intro ?_ ?_) <;> kernel_rfl
@[simp] theorem Tryd.y86 : tsz Tryd.prog 86 = some 5 ∧ tag Tryd.prog 86 = some true ∧ telem Tryd.prog 86 = none ∧ tarr Tryd.prog 86 = none ∧ tint Tryd.prog 86 = none ∧ tbool Tryd.prog 86 = false ∧ tbytes Tryd.prog 86 = some 72 ∧ tzero Tryd.prog 86 = some [.int .i64 0, .int .i64 0, .int .u8 0, .slice none 0 0, .slice none 0 0] ∧ toff Tryd.prog 86 0 = some 0 ∧ tfield Tryd.prog 86 0 = some (0, 1, false) ∧ toff Tryd.prog 86 1 = some 1 ∧ tfield Tryd.prog 86 1 = some (1, 1, false) ∧ toff Tryd.prog 86 2 = some 2 ∧ tfield Tryd.prog 86 2 = some (2, 1, false) ∧ toff Tryd.prog 86 3 = some 3 ∧ tfield Tryd.prog 86 3 = some (3, 1, false) ∧ toff Tryd.prog 86 4 = some 4 ∧ tfield Tryd.prog 86 4 = some (4, 1, false) ∧ placesOf Tryd.prog 86 = some [(0, 1), (1, 1), (2, 1), (3, 1), (4, 1)] := by (repeat' refine And.intro ?_ ?_) <;> kernel_rfl
@[simp] theorem Tryd.y89 : tsz Tryd.prog 89 = some 2 ∧ tag Tryd.prog 89 = some true ∧ telem Tryd.prog 89 = none ∧ tarr Tryd.prog 89 = none ∧ tint Tryd.prog 89 = none ∧ tbool Tryd.prog 89 = false ∧ tbytes Tryd.prog 89 = some 16 ∧ tzero Tryd.prog 89 = some [.int .i64 0, .int .i64 0] ∧ toff Tryd.prog 89 0 = some 0 ∧ tfield Tryd.prog 89 0 = some (0, 1, false) ∧ toff Tryd.prog 89 1 = some 1 ∧ tfield Tryd.prog 89 1 = some (1, 1, false) ∧ eqShape Tryd.prog 89 = some [.int .i64, .int .i64] ∧ placesOf Tryd.prog 89 = some [(0, 1), (1, 1)] := by (repeat' refine And.intro ?_ ?_) <;> kernel_rfl
@[simp] theorem Tryd.y92 : tsz Tryd.prog 92 = some 3 ∧ tag Tryd.prog 92 = some true ∧ telem Tryd.prog 92 = none ∧ tarr Tryd.prog 92 = none ∧ tint Tryd.prog 92 = none ∧ tbool Tryd.prog 92 = false ∧ tbytes Tryd.prog 92 = some 24 ∧ tzero Tryd.prog 92 = some [.int .i64 0, .int .i64 0, .int .i64 0] ∧ toff Tryd.prog 92 0 = some 0 ∧ tfield Tryd.prog 92 0 = some (0, 1, false) ∧ toff Tryd.prog 92 1 = some 1 ∧ tfield Tryd.prog 92 1 = some (1, 1, false) ∧ toff Tryd.prog 92 2 = some 2 ∧ tfield Tryd.prog 92 2 = some (2, 1, false) ∧ eqShape Tryd.prog 92 = some [.int .i64, .int .i64, .int .i64] ∧ placesOf Tryd.prog 92 = some [(0, 1), (1, 1), (2, 1)] := by (repeat' refine And.intro ?_ ?_) <;> kernel_rfl
@[simp] theorem Tryd.y99 : tsz Tryd.prog 99 = some 1 ∧ tag Tryd.prog 99 = some false ∧ telem Tryd.prog 99 = none ∧ tarr Tryd.prog 99 = none ∧ tint Tryd.prog 99 = none ∧ tbool Tryd.prog 99 = false ∧ tbytes Tryd.prog 99 = some 8 ∧ tzero Tryd.prog 99 = some [.nilFunc] := by (repeat' refine And.intro ?_ ?_) <;> kernel_rfl
@[simp] theorem Tryd.y100 : tsz Tryd.prog 100 = some 1 ∧ tag Tryd.prog 100 = some false ∧ telem Tryd.prog 100 = none ∧ tarr Tryd.prog 100 = none ∧ tint Tryd.prog 100 = none ∧ tbool Tryd.prog 100 = false ∧ tbytes Tryd.prog 100 = some 8 ∧ tzero Tryd.prog 100 = some [.map none] ∧ tmap Tryd.prog 100 = some (3, 4) := by (repeat' refine And.intro ?_ ?_) <;> kernel_rfl
@[simp] theorem Tryd.y106 : tsz Tryd.prog 106 = some 1 ∧ tag Tryd.prog 106 = some false ∧ telem Tryd.prog 106 = none ∧ tarr Tryd.prog 106 = none ∧ tint Tryd.prog 106 = none ∧ tbool Tryd.prog 106 = false ∧ tbytes Tryd.prog 106 = some 8 ∧ tzero Tryd.prog 106 = some [.nilFunc] := by (repeat' refine And.intro ?_ ?_) <;> kernel_rfl
@[simp] theorem Tryd.y108 : tsz Tryd.prog 108 = some 1 ∧ tag Tryd.prog 108 = some true ∧ telem Tryd.prog 108 = none ∧ tarr Tryd.prog 108 = none ∧ tint Tryd.prog 108 = none ∧ tbool Tryd.prog 108 = false ∧ tbytes Tryd.prog 108 = some 8 ∧ tzero Tryd.prog 108 = some [.nilFunc] ∧ toff Tryd.prog 108 0 = some 0 ∧ tfield Tryd.prog 108 0 = some (0, 1, false) ∧ placesOf Tryd.prog 108 = some [(0, 1)] := by (repeat' refine And.intro ?_ ?_) <;> kernel_rfl
@[simp] theorem Tryd.y109 : tsz Tryd.prog 109 = some 8 ∧ tag Tryd.prog 109 = some true ∧ telem Tryd.prog 109 = none ∧ tarr Tryd.prog 109 = some (8, 108) ∧ tint Tryd.prog 109 = none ∧ tbool Tryd.prog 109 = false ∧ tbytes Tryd.prog 109 = some 64 ∧ tzero Tryd.prog 109 = some [.nilFunc, .nilFunc, .nilFunc, .nilFunc, .nilFunc, .nilFunc, .nilFunc, .nilFunc] ∧ placesOf Tryd.prog 109 = some [(0, 1), (1, 1), (2, 1), (3, 1), (4, 1), (5, 1), (6, 1), (7, 1)] ∧ eqArrOk.tarr' Tryd.prog 109 = some (8, 108) ∧ eqShape Tryd.prog 109 = none := by (repeat' refine And.intro ?_ ?_) <;> kernel_rfl
@[simp] theorem Tryd.y113 : tsz Tryd.prog 113 = some 1 ∧ tag Tryd.prog 113 = some false ∧ telem Tryd.prog 113 = none ∧ tarr Tryd.prog 113 = none ∧ tint Tryd.prog 113 = some .u64 ∧ tbool Tryd.prog 113 = false ∧ tbytes Tryd.prog 113 = some 8 ∧ tzero Tryd.prog 113 = some [.int .u64 0] := by (repeat' refine And.intro ?_ ?_) <;> kernel_rfl
@[simp] theorem Tryd.y115 : tsz Tryd.prog 115 = some 1 ∧ tag Tryd.prog 115 = some false ∧ telem Tryd.prog 115 = none ∧ tarr Tryd.prog 115 = none ∧ tint Tryd.prog 115 = none ∧ tbool Tryd.prog 115 = false ∧ tbytes Tryd.prog 115 = some 8 ∧ tzero Tryd.prog 115 = some [.map none] ∧ tmap Tryd.prog 115 = some (60, 4) := by (repeat' refine And.intro ?_ ?_) <;> kernel_rfl
@[simp] theorem Tryd.y117 : tsz Tryd.prog 117 = some 1 ∧ tag Tryd.prog 117 = some false ∧ telem Tryd.prog 117 = none ∧ tarr Tryd.prog 117 = none ∧ tint Tryd.prog 117 = none ∧ tbool Tryd.prog 117 = false ∧ tbytes Tryd.prog 117 = some 8 ∧ tzero Tryd.prog 117 = some [.pointer none] := by (repeat' refine And.intro ?_ ?_) <;> kernel_rfl
@[simp] theorem Tryd.y121 : tsz Tryd.prog 121 = some 2 ∧ tag Tryd.prog 121 = some true ∧ telem Tryd.prog 121 = none ∧ tarr Tryd.prog 121 = none ∧ tint Tryd.prog 121 = none ∧ tbool Tryd.prog 121 = false ∧ tbytes Tryd.prog 121 = some 48 ∧ tzero Tryd.prog 121 = some [.slice none 0 0, .slice none 0 0] ∧ toff Tryd.prog 121 0 = some 0 ∧ tfield Tryd.prog 121 0 = some (0, 1, true) ∧ toff Tryd.prog 121 1 = some 1 ∧ tfield Tryd.prog 121 1 = some (1, 1, false) ∧ placesOf Tryd.prog 121 = some [(0, 1), (1, 1)] := by (repeat' refine And.intro ?_ ?_) <;> kernel_rfl
@[simp] theorem Tryd.y136 : tsz Tryd.prog 136 = some 1 ∧ tag Tryd.prog 136 = some false ∧ telem Tryd.prog 136 = none ∧ tarr Tryd.prog 136 = none ∧ tint Tryd.prog 136 = none ∧ tbool Tryd.prog 136 = false ∧ tbytes Tryd.prog 136 = some 8 ∧ tzero Tryd.prog 136 = some [.nilFunc] := by (repeat' refine And.intro ?_ ?_) <;> kernel_rfl
@[simp] theorem Tryd.y137 : tsz Tryd.prog 137 = some 1 ∧ tag Tryd.prog 137 = some true ∧ telem Tryd.prog 137 = none ∧ tarr Tryd.prog 137 = none ∧ tint Tryd.prog 137 = none ∧ tbool Tryd.prog 137 = false ∧ tbytes Tryd.prog 137 = some 8 ∧ tzero Tryd.prog 137 = some [.nilFunc] ∧ toff Tryd.prog 137 0 = some 0 ∧ tfield Tryd.prog 137 0 = some (0, 1, false) ∧ placesOf Tryd.prog 137 = some [(0, 1)] := by (repeat' refine And.intro ?_ ?_) <;> kernel_rfl
@[simp] theorem Tryd.y138 : tsz Tryd.prog 138 = some 4 ∧ tag Tryd.prog 138 = some true ∧ telem Tryd.prog 138 = none ∧ tarr Tryd.prog 138 = some (4, 137) ∧ tint Tryd.prog 138 = none ∧ tbool Tryd.prog 138 = false ∧ tbytes Tryd.prog 138 = some 32 ∧ tzero Tryd.prog 138 = some [.nilFunc, .nilFunc, .nilFunc, .nilFunc] ∧ placesOf Tryd.prog 138 = some [(0, 1), (1, 1), (2, 1), (3, 1)] ∧ eqArrOk.tarr' Tryd.prog 138 = some (4, 137) ∧ eqShape Tryd.prog 138 = none := by (repeat' refine And.intro ?_ ?_) <;> kernel_rfl
@[simp] theorem Tryd.y141 : tsz Tryd.prog 141 = some 1 ∧ tag Tryd.prog 141 = some false ∧ telem Tryd.prog 141 = none ∧ tarr Tryd.prog 141 = none ∧ tint Tryd.prog 141 = none ∧ tbool Tryd.prog 141 = false ∧ tbytes Tryd.prog 141 = some 8 ∧ tzero Tryd.prog 141 = some [.map none] ∧ tmap Tryd.prog 141 = some (3, 3) := by (repeat' refine And.intro ?_ ?_) <;> kernel_rfl
@[simp] theorem Tryd.yx3 : keyShape Tryd.prog 3 = some [.int .i64] := by kernel_rfl
@[simp] theorem Tryd.yx60 : keyShape Tryd.prog 60 = some [.int .i64, .int .i64] := by kernel_rfl
@[simp] theorem Tryd.yxx3 : tzk Tryd.prog 3 = some [.int .i64 0] := by kernel_rfl
@[simp] theorem Tryd.yx4 : tzk Tryd.prog 4 = some [.bool false] := by kernel_rfl
@[simp] theorem Tryd.ok4 : CallOk Tryd.prog 4 := Tryd.call4
@[simp] theorem Tryd.ok5 : CallOk Tryd.prog 5 := Tryd.call5
@[simp] theorem Tryd.ok6 : CallOk Tryd.prog 6 := Tryd.call6
@[simp] theorem Tryd.ok7 : CallOk Tryd.prog 7 := Tryd.call7
@[simp] theorem Tryd.ok8 : CallOk Tryd.prog 8 := Tryd.call8
@[simp] theorem Tryd.ok9 : CallOk Tryd.prog 9 := Tryd.call9
@[simp] theorem Tryd.ok10 : CallOk Tryd.prog 10 := Tryd.call10
@[simp] theorem Tryd.ok11 : CallOk Tryd.prog 11 := Tryd.call11
@[simp] theorem Tryd.ok12 : CallOk Tryd.prog 12 := Tryd.call12
@[simp] theorem Tryd.ok13 : CallOk Tryd.prog 13 := Tryd.call13
@[simp] theorem Tryd.ok14 : CallOk Tryd.prog 14 := Tryd.call14
@[simp] theorem Tryd.ok15 : CallOk Tryd.prog 15 := Tryd.call15
@[simp] theorem Tryd.ok16 : CallOk Tryd.prog 16 := Tryd.call16
@[simp] theorem Tryd.ok17 : CallOk Tryd.prog 17 := Tryd.call17
@[simp] theorem Tryd.ok18 : CallOk Tryd.prog 18 := Tryd.call18
@[simp] theorem Tryd.ok19 : CallOk Tryd.prog 19 := Tryd.call19
@[simp] theorem Tryd.ok20 : CallOk Tryd.prog 20 := Tryd.call20
@[simp] theorem Tryd.ok21 : CallOk Tryd.prog 21 := Tryd.call21
@[simp] theorem Tryd.ok22 : CallOk Tryd.prog 22 := Tryd.call22
@[simp] theorem Tryd.ok23 : CallOk Tryd.prog 23 := Tryd.call23
@[simp] theorem Tryd.ok24 : CallOk Tryd.prog 24 := Tryd.call24
@[simp] theorem Tryd.ok25 : CallOk Tryd.prog 25 := Tryd.call25
@[simp] theorem Tryd.ok26 : CallOk Tryd.prog 26 := Tryd.call26
@[simp] theorem Tryd.ok27 : CallOk Tryd.prog 27 := Tryd.call27
@[simp] theorem Tryd.ok28 : CallOk Tryd.prog 28 := Tryd.call28
@[simp] theorem Tryd.ok29 : CallOk Tryd.prog 29 := Tryd.call29
@[simp] theorem Tryd.ok30 : CallOk Tryd.prog 30 := Tryd.call30
@[simp] theorem Tryd.ok31 : CallOk Tryd.prog 31 := Tryd.call31
@[simp] theorem Tryd.ok32 : CallOk Tryd.prog 32 := Tryd.call32
@[simp] theorem Tryd.ok33 : CallOk Tryd.prog 33 := Tryd.call33
@[simp] theorem Tryd.ok34 : CallOk Tryd.prog 34 := Tryd.call34
@[simp] theorem Tryd.ok35 : CallOk Tryd.prog 35 := Tryd.call35
@[simp] theorem Tryd.ok36 : CallOk Tryd.prog 36 := Tryd.call36
@[simp] theorem Tryd.ok37 : CallOk Tryd.prog 37 := Tryd.call37
@[simp] theorem Tryd.ok38 : CallOk Tryd.prog 38 := Tryd.call38
@[simp] theorem Tryd.ok39 : CallOk Tryd.prog 39 := Tryd.call39
@[simp] theorem Tryd.ok40 : CallOk Tryd.prog 40 := Tryd.call40
@[simp] theorem Tryd.ok41 : CallOk Tryd.prog 41 := Tryd.call41
@[simp] theorem Tryd.ok42 : CallOk Tryd.prog 42 := Tryd.call42
@[simp] theorem Tryd.ok43 : CallOk Tryd.prog 43 := Tryd.call43
@[simp] theorem Tryd.ok44 : CallOk Tryd.prog 44 := Tryd.call44
@[simp] theorem Tryd.ok45 : CallOk Tryd.prog 45 := Tryd.call45
@[simp] theorem Tryd.ok46 : CallOk Tryd.prog 46 := Tryd.call46
@[simp] theorem Tryd.ok47 : CallOk Tryd.prog 47 := Tryd.call47
@[simp] theorem Tryd.ok48 : CallOk Tryd.prog 48 := Tryd.call48
@[simp] theorem Tryd.ok49 : CallOk Tryd.prog 49 := Tryd.call49
@[simp] theorem Tryd.ok50 : CallOk Tryd.prog 50 := Tryd.call50
@[simp] theorem Tryd.ok51 : CallOk Tryd.prog 51 := Tryd.call51
@[simp] theorem Tryd.ok53 : CallOk Tryd.prog 53 := Tryd.call53
@[simp] theorem Tryd.ok54 : CallOk Tryd.prog 54 := Tryd.call54
@[simp] theorem Tryd.ok57 : CallOk Tryd.prog 57 := Tryd.call57
@[simp] theorem Tryd.ok58 : CallOk Tryd.prog 58 := Tryd.call58
@[simp] theorem Tryd.ok59 : CallOk Tryd.prog 59 := Tryd.call59
@[simp] theorem Tryd.ok60 : CallOk Tryd.prog 60 := Tryd.call60
@[simp] theorem Tryd.ok61 : CallOk Tryd.prog 61 := Tryd.call61
@[simp] theorem Tryd.ok68 : CallOk Tryd.prog 68 := Tryd.call68
@[simp] theorem Tryd.ok73 : CallOk Tryd.prog 73 := Tryd.call73
@[simp] theorem Tryd.ok74 : CallOk Tryd.prog 74 := Tryd.call74
@[simp] theorem Tryd.ok75 : CallOk Tryd.prog 75 := Tryd.call75
@[simp] theorem Tryd.ok76 : CallOk Tryd.prog 76 := Tryd.call76
@[simp] theorem Tryd.ok77 : CallOk Tryd.prog 77 := Tryd.call77
@[simp] theorem Tryd.ok78 : CallOk Tryd.prog 78 := Tryd.call78
@[simp] theorem Tryd.ok84 : CallOk Tryd.prog 84 := Tryd.call84
@[simp] theorem Tryd.ok85 : CallOk Tryd.prog 85 := Tryd.call85
@[simp] theorem Tryd.ok86 : CallOk Tryd.prog 86 := Tryd.call86
@[simp] theorem Tryd.ok87 : CallOk Tryd.prog 87 := Tryd.call87
@[simp] theorem Tryd.ok88 : CallOk Tryd.prog 88 := Tryd.call88
@[simp] theorem Tryd.ok90 : CallOk Tryd.prog 90 := Tryd.call90
@[simp] theorem Tryd.ok92 : CallOk Tryd.prog 92 := Tryd.call92
@[simp] theorem Tryd.ok93 : CallOk Tryd.prog 93 := Tryd.call93
@[simp] theorem Tryd.ok94 : CallOk Tryd.prog 94 := Tryd.call94
@[simp] theorem Tryd.ok112 : CallOk Tryd.prog 112 := Tryd.call112
@[simp] theorem Tryd.ok113 : CallOk Tryd.prog 113 := Tryd.call113
@[simp] theorem Tryd.ok114 : CallOk Tryd.prog 114 := Tryd.call114
@[simp] theorem Tryd.ok115 : CallOk Tryd.prog 115 := Tryd.call115
@[simp] theorem Tryd.ok116 : CallOk Tryd.prog 116 := Tryd.call116
@[simp] theorem Tryd.ok117 : CallOk Tryd.prog 117 := Tryd.call117
@[simp] theorem Tryd.ok118 : CallOk Tryd.prog 118 := Tryd.call118
@[simp] theorem Tryd.ok119 : CallOk Tryd.prog 119 := Tryd.call119
@[simp] theorem Tryd.ok120 : CallOk Tryd.prog 120 := Tryd.call120
@[simp] theorem Tryd.ok121 : CallOk Tryd.prog 121 := Tryd.call121
@[simp] theorem Tryd.ok122 : CallOk Tryd.prog 122 := Tryd.call122
@[simp] theorem Tryd.ok123 : CallOk Tryd.prog 123 := Tryd.call123
@[simp] theorem Tryd.ok124 : CallOk Tryd.prog 124 := Tryd.call124
@[simp] theorem Tryd.ok125 : CallOk Tryd.prog 125 := Tryd.call125
@[simp] theorem Tryd.ok126 : CallOk Tryd.prog 126 := Tryd.call126
@[simp] theorem Tryd.ok127 : CallOk Tryd.prog 127 := Tryd.call127
@[simp] theorem Tryd.ok128 : CallOk Tryd.prog 128 := Tryd.call128
@[simp] theorem Tryd.ok129 : CallOk Tryd.prog 129 := Tryd.call129
@[simp] theorem Tryd.ok130 : CallOk Tryd.prog 130 := Tryd.call130
@[simp] theorem Tryd.ok131 : CallOk Tryd.prog 131 := Tryd.call131
@[simp] theorem Tryd.ok132 : CallOk Tryd.prog 132 := Tryd.call132
@[simp] theorem Tryd.ok133 : CallOk Tryd.prog 133 := Tryd.call133
@[simp] theorem Tryd.ok134 : CallOk Tryd.prog 134 := Tryd.call134
@[simp] theorem Tryd.ok135 : CallOk Tryd.prog 135 := Tryd.call135
@[simp] theorem Tryd.ok136 : CallOk Tryd.prog 136 := Tryd.call136
@[simp] theorem Tryd.ok137 : CallOk Tryd.prog 137 := Tryd.call137
end Go.Proofs
