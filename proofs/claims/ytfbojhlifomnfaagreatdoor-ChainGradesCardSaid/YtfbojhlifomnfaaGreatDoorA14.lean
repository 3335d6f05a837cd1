/- Part 14 of the proofs: laws and walks that hold without conditions beyond those that each theorem names. -/
import Derived.Test.YtfbojhlifomnfaaGreatDoorProg
import Derived.KernelRfl
import Derived.Test.YtfbojhlifomnfaaGreatDoorA12
set_option linter.all false
set_option linter.deprecated false
namespace Go.Proofs
open Go Go.Ab
@[simp] theorem Tryz.y3 : tsz Tryz.prog 3 = some 1 ∧ tag Tryz.prog 3 = some false ∧ telem Tryz.prog 3 = none ∧ tarr Tryz.prog 3 = none ∧ tint Tryz.prog 3 = some .i64 ∧ tbool Tryz.prog 3 = false ∧ tbytes Tryz.prog 3 = some 8 ∧ tzero Tryz.prog 3 = some [.int .i64 0] := by (repeat' refine And.intro ?_ ?_) <;> kernel_rfl
@[simp] theorem Tryz.y4 : tsz Tryz.prog 4 = some 1 ∧ tag Tryz.prog 4 = some false ∧ telem Tryz.prog 4 = none ∧ tarr Tryz.prog 4 = none ∧ tint Tryz.prog 4 = none ∧ tbool Tryz.prog 4 = true ∧ tbytes Tryz.prog 4 = some 1 ∧ tzero Tryz.prog 4 = some [.bool false] := by (repeat' refine And.intro ?_ ?_) <;> kernel_rfl
@[simp] theorem Tryz.y5 : tsz Tryz.prog 5 = some 1 ∧ tag Tryz.prog 5 = some false ∧ telem Tryz.prog 5 = none ∧ tarr Tryz.prog 5 = none ∧ tint Tryz.prog 5 = some .u8 ∧ tbool Tryz.prog 5 = false ∧ tbytes Tryz.prog 5 = some 1 ∧ tzero Tryz.prog 5 = some [.int .u8 0] := by (repeat' refine And.intro ?_ ?_) <;> kernel_rfl
@[simp] theorem Tryz.y22 : tsz Tryz.prog 22 = some 1 ∧ tag Tryz.prog 22 = some false ∧ telem Tryz.prog 22 = some 74 ∧ tarr Tryz.prog 22 = none ∧ tint Tryz.prog 22 = none ∧ tbool Tryz.prog 22 = false ∧ tbytes Tryz.prog 22 = some 24 ∧ tzero Tryz.prog 22 = some [.slice none 0 0] := by (repeat' refine And.intro ?_ ?_) <;> kernel_rfl
@[simp] theorem Tryz.y24 : tsz Tryz.prog 24 = some 1 ∧ tag Tryz.prog 24 = some true ∧ telem Tryz.prog 24 = none ∧ tarr Tryz.prog 24 = none ∧ tint Tryz.prog 24 = none ∧ tbool Tryz.prog 24 = false ∧ tbytes Tryz.prog 24 = some 24 ∧ tzero Tryz.prog 24 = some [.slice none 0 0] ∧ toff Tryz.prog 24 0 = some 0 ∧ tfield Tryz.prog 24 0 = some (0, 1, false) ∧ placesOf Tryz.prog 24 = some [(0, 1)] := by (repeat' refine And.intro ?_ ?_) <;> kernel_rfl
@[simp] theorem Tryz.y25 : tsz Tryz.prog 25 = some 1 ∧ tag Tryz.prog 25 = some false ∧ telem Tryz.prog 25 = some 3 ∧ tarr Tryz.prog 25 = none ∧ tint Tryz.prog 25 = none ∧ tbool Tryz.prog 25 = false ∧ tbytes Tryz.prog 25 = some 24 ∧ tzero Tryz.prog 25 = some [.slice none 0 0] := by (repeat' refine And.intro ?_ ?_) <;> kernel_rfl
@[simp] theorem Tryz.y26 : tsz Tryz.prog 26 = some 1 ∧ tag Tryz.prog 26 = some false ∧ telem Tryz.prog 26 = some 68 ∧ tarr Tryz.prog 26 = none ∧ tint Tryz.prog 26 = none ∧ tbool Tryz.prog 26 = false ∧ tbytes Tryz.prog 26 = some 24 ∧ tzero Tryz.prog 26 = some [.slice none 0 0] := by (repeat' refine And.intro ?_ ?_) <;> kernel_rfl
@[simp] theorem Tryz.y28 : tsz Tryz.prog 28 = some 4 ∧ tag Tryz.prog 28 = some true ∧ telem Tryz.prog 28 = none ∧ tarr Tryz.prog 28 = none ∧ tint Tryz.prog 28 = none ∧ tbool Tryz.prog 28 = false ∧ tbytes Tryz.prog 28 = some 80 ∧ tzero Tryz.prog 28 = some [.slice none 0 0, .slice none 0 0, .int .i64 0, .slice none 0 0] ∧ toff Tryz.prog 28 0 = some 0 ∧ tfield Tryz.prog 28 0 = some (0, 1, true) ∧ toff Tryz.prog 28 1 = some 1 ∧ tfield Tryz.prog 28 1 = some (1, 1, false) ∧ toff Tryz.prog 28 2 = some 2 ∧ tfield Tryz.prog 28 2 = some (2, 1, false) ∧ toff Tryz.prog 28 3 = some 3 ∧ tfield Tryz.prog 28 3 = some (3, 1, false) ∧ placesOf Tryz.prog 28 = some [(0, 1), (1, 1), (2, 1), (3, 1)] := by (repeat' refine And.intro ?_ ?_) <;> kernel_rfl
@[simp] theorem Tryz.y41 : tsz Tryz.prog 41 = some 1 ∧ tag Tryz.prog 41 = some false ∧ telem Tryz.prog 41 = some 93 ∧ tarr Tryz.prog 41 = none ∧ tint Tryz.prog 41 = none ∧ tbool Tryz.prog 41 = false ∧ tbytes Tryz.prog 41 = some 24 ∧ tzero Tryz.prog 41 = some [.slice none 0 0] := by (repeat' refine And.intro ?_ ?_) <;> kernel_rfl
@[simp] theorem Tryz.y64 : tsz Tryz.prog 64 = some 1 ∧ tag Tryz.prog 64 = some false ∧ telem Tryz.prog 64 = some 70 ∧ tarr Tryz.prog 64 = none ∧ tint Tryz.prog 64 = none ∧ tbool Tryz.prog 64 = false ∧ tbytes Tryz.prog 64 = some 24 ∧ tzero Tryz.prog 64 = some [.slice none 0 0] := by (repeat' refine And.intro ?_ ?_) <;> kernel_rfl
@[simp] theorem Tryz.y66 : tsz Tryz.prog 66 = some 2 ∧ tag Tryz.prog 66 = some true ∧ telem Tryz.prog 66 = none ∧ tarr Tryz.prog 66 = none ∧ tint Tryz.prog 66 = none ∧ tbool Tryz.prog 66 = false ∧ tbytes Tryz.prog 66 = some 16 ∧ tzero Tryz.prog 66 = some [.int .i64 0, .int .i64 0] ∧ toff Tryz.prog 66 0 = some 0 ∧ tfield Tryz.prog 66 0 = some (0, 1, false) ∧ toff Tryz.prog 66 1 = some 1 ∧ tfield Tryz.prog 66 1 = some (1, 1, false) ∧ eqShape Tryz.prog 66 = some [.int .i64, .int .i64] ∧ placesOf Tryz.prog 66 = some [(0, 1), (1, 1)] := by (repeat' refine And.intro ?_ ?_) <;> kernel_rfl
@[simp] theorem Tryz.y68 : tsz Tryz.prog 68 = some 3 ∧ tag Tryz.prog 68 = some true ∧ telem Tryz.prog 68 = none ∧ tarr Tryz.prog 68 = none ∧ tint Tryz.prog 68 = none ∧ tbool Tryz.prog 68 = false ∧ tbytes Tryz.prog 68 = some 40 ∧ tzero Tryz.prog 68 = some [.slice none 0 0, .int .i64 0, .int .i64 0] ∧ toff Tryz.prog 68 0 = some 0 ∧ tfield Tryz.prog 68 0 = some (0, 1, false) ∧ toff Tryz.prog 68 1 = some 1 ∧ tfield Tryz.prog 68 1 = some (1, 2, true) ∧ placesOf Tryz.prog 68 = some [(0, 1), (1, 2)] := by (repeat' refine And.intro ?_ ?_) <;> kernel_rfl
@[simp] theorem Tryz.y70 : tsz Tryz.prog 70 = some 3 ∧ tag Tryz.prog 70 = some true ∧ telem Tryz.prog 70 = none ∧ tarr Tryz.prog 70 = none ∧ tint Tryz.prog 70 = none ∧ tbool Tryz.prog 70 = false ∧ tbytes Tryz.prog 70 = some 24 ∧ tzero Tryz.prog 70 = some [.int .i64 0, .int .i64 0, .bool false] ∧ toff Tryz.prog 70 0 = some 0 ∧ tfield Tryz.prog 70 0 = some (0, 1, false) ∧ toff Tryz.prog 70 1 = some 1 ∧ tfield Tryz.prog 70 1 = some (1, 1, false) ∧ toff Tryz.prog 70 2 = some 2 ∧ tfield Tryz.prog 70 2 = some (2, 1, false) ∧ eqShape Tryz.prog 70 = some [.int .i64, .int .i64, .bool] ∧ placesOf Tryz.prog 70 = some [(0, 1), (1, 1), (2, 1)] := by (repeat' refine And.intro ?_ ?_) <;> kernel_rfl
@[simp] theorem Tryz.y71 : tsz Tryz.prog 71 = some 1 ∧ tag Tryz.prog 71 = some false ∧ telem Tryz.prog 71 = some 76 ∧ tarr Tryz.prog 71 = none ∧ tint Tryz.prog 71 = none ∧ tbool Tryz.prog 71 = false ∧ tbytes Tryz.prog 71 = some 24 ∧ tzero Tryz.prog 71 = some [.slice none 0 0] := by (repeat' refine And.intro ?_ ?_) <;> kernel_rfl
@[simp] theorem Tryz.y72 : tsz Tryz.prog 72 = some 1 ∧ tag Tryz.prog 72 = some false ∧ telem Tryz.prog 72 = some 78 ∧ tarr Tryz.prog 72 = none ∧ tint Tryz.prog 72 = none ∧ tbool Tryz.prog 72 = false ∧ tbytes Tryz.prog 72 = some 24 ∧ tzero Tryz.prog 72 = some [.slice none 0 0] := by (repeat' refine And.intro ?_ ?_) <;> kernel_rfl
@[simp] theorem Tryz.y74 : tsz Tryz.prog 74 = some 5 ∧ tag Tryz.prog 74 = some true ∧ telem Tryz.prog 74 = none ∧ tarr Tryz.prog 74 = none ∧ tint Tryz.prog 74 = none ∧ tbool Tryz.prog 74 = false ∧ tbytes Tryz.prog 74 = some 72 ∧ tzero Tryz.prog 74 = some [.int .i64 0, .int .i64 0, .int .u8 0, .slice none 0 0, .slice none 0 0] ∧ toff Tryz.prog 74 0 = some 0 ∧ tfield Tryz.prog 74 0 = some (0, 1, false) ∧ toff Tryz.prog 74 1 = some 1 ∧ tfield Tryz.prog 74 1 = some (1, 1, false) ∧ toff Tryz.prog 74 2 = some 2 ∧ tfield Tryz.prog 74 2 = some (2, 1, false) ∧ toff Tryz.prog 74 3 = some 3 ∧ tfield Tryz.prog 74 3 = some (3, 1, false) ∧ toff Tryz.prog 74 4 = some 4 ∧ tfield Tryz.prog 74 4 = some (4, 1, false) ∧ placesOf Tryz.prog 74 = some [(0, 1), (1, 1), (2, 1), (3, 1), (4, 1)] := by (repeat' refine And.intro ?_ ?_) <;> kernel_rfl
@[simp] theorem Tryz.y76 : tsz Tryz.prog 76 = some 2 ∧ tag Tryz.prog 76 = some true ∧ telem Tryz.prog 76 = none ∧ tarr Tryz.prog 76 = none ∧ tint Tryz.prog 76 = none ∧ tbool Tryz.prog 76 = false ∧ tbytes Tryz.prog 76 = some 16 ∧ tzero Tryz.prog 76 = some [.int .i64 0, .int .i64 0] ∧ toff Tryz.prog 76 0 = some 0 ∧ tfield Tryz.prog 76 0 = some (0, 1, false) ∧ toff Tryz.prog 76 1 = some 1 ∧ tfield Tryz.prog 76 1 = some (1, 1, false) ∧ eqShape Tryz.prog 76 = some [.int .i64, .int .i64] ∧ placesOf Tryz.prog 76 = some [(0, 1), (1, 1)] := by (repeat' refine And.intro ?_ ?_) <;> kernel_rfl
@[simp] theorem Tryz.y78 : tsz Tryz.prog 78 = some 3 ∧ tag Tryz.prog 78 = some true ∧ telem Tryz.prog 78 = none ∧ tarr Tryz.prog 78 = none ∧ tint Tryz.prog 78 = none ∧ tbool Tryz.prog 78 = false ∧ tbytes Tryz.prog 78 = some 24 ∧ tzero Tryz.prog 78 = some [.int .i64 0, .int .i64 0, .int .i64 0] ∧ toff Tryz.prog 78 0 = some 0 ∧ tfield Tryz.prog 78 0 = some (0, 1, false) ∧ toff Tryz.prog 78 1 = some 1 ∧ tfield Tryz.prog 78 1 = some (1, 1, false) ∧ toff Tryz.prog 78 2 = some 2 ∧ tfield Tryz.prog 78 2 = some (2, 1, false) ∧ eqShape Tryz.prog 78 = some [.int .i64, .int .i64, .int .i64] ∧ placesOf Tryz.prog 78 = some [(0, 1), (1, 1), (2, 1)] := by (repeat' refine And.intro ?_ ?_) <;> kernel_rfl
@[simp] theorem Tryz.y93 : tsz Tryz.prog 93 = some 2 ∧ tag Tryz.prog 93 = some true ∧ telem Tryz.prog 93 = none ∧ tarr Tryz.prog 93 = none ∧ tint Tryz.prog 93 = none ∧ tbool Tryz.prog 93 = false ∧ tbytes Tryz.prog 93 = some 16 ∧ tzero Tryz.prog 93 = some [.int .i64 0, .int .i64 0] ∧ toff Tryz.prog 93 0 = some 0 ∧ tfield Tryz.prog 93 0 = some (0, 1, false) ∧ toff Tryz.prog 93 1 = some 1 ∧ tfield Tryz.prog 93 1 = some (1, 1, false) ∧ eqShape Tryz.prog 93 = some [.int .i64, .int .i64] ∧ placesOf Tryz.prog 93 = some [(0, 1), (1, 1)] := by (repeat' refine And.intro ?_ ?_) <;> kernel_rfl
@[simp] theorem Tryz.y107 : tsz Tryz.prog 107 = some 2 ∧ tag Tryz.prog 107 = some true ∧ telem Tryz.prog 107 = none ∧ tarr Tryz.prog 107 = none ∧ tint Tryz.prog 107 = none ∧ tbool Tryz.prog 107 = false ∧ tbytes Tryz.prog 107 = some 16 ∧ tzero Tryz.prog 107 = some [.int .i64 0, .int .i64 0] ∧ toff Tryz.prog 107 0 = some 0 ∧ tfield Tryz.prog 107 0 = some (0, 1, false) ∧ toff Tryz.prog 107 1 = some 1 ∧ tfield Tryz.prog 107 1 = some (1, 1, false) ∧ eqShape Tryz.prog 107 = some [.int .i64, .int .i64] ∧ placesOf Tryz.prog 107 = some [(0, 1), (1, 1)] := by (repeat' refine And.intro ?_ ?_) <;> kernel_rfl
@[simp] theorem Tryz.y114 : tsz Tryz.prog 114 = some 1 ∧ tag Tryz.prog 114 = some false ∧ telem Tryz.prog 114 = none ∧ tarr Tryz.prog 114 = none ∧ tint Tryz.prog 114 = none ∧ tbool Tryz.prog 114 = false ∧ tbytes Tryz.prog 114 = some 8 ∧ tzero Tryz.prog 114 = some [.map none] ∧ tmap Tryz.prog 114 = some (3, 4) := by (repeat' refine And.intro ?_ ?_) <;> kernel_rfl
@[simp] theorem Tryz.y125 : tsz Tryz.prog 125 = some 1 ∧ tag Tryz.prog 125 = some false ∧ telem Tryz.prog 125 = none ∧ tarr Tryz.prog 125 = none ∧ tint Tryz.prog 125 = none ∧ tbool Tryz.prog 125 = false ∧ tbytes Tryz.prog 125 = some 8 ∧ tzero Tryz.prog 125 = some [.pointer none] := by (repeat' refine And.intro ?_ ?_) <;> kernel_rfl
@[simp] theorem Tryz.y151 : tsz Tryz.prog 151 = some 1 ∧ tag Tryz.prog 151 = some false ∧ telem Tryz.prog 151 = none ∧ tarr Tryz.prog 151 = none ∧ tint Tryz.prog 151 = none ∧ tbool Tryz.prog 151 = false ∧ tbytes Tryz.prog 151 = some 8 ∧ tzero Tryz.prog 151 = some [.map none] ∧ tmap Tryz.prog 151 = some (3, 3) := by (repeat' refine And.intro ?_ ?_) <;> kernel_rfl
@[simp] theorem Tryz.y152 : tsz Tryz.prog 152 = some 1 ∧ tag Tryz.prog 152 = some false ∧ telem Tryz.prog 152 = none ∧ tarr Tryz.prog 152 = none ∧ tint Tryz.prog 152 = none ∧ tbool Tryz.prog 152 = false ∧ tbytes Tryz.prog 152 = some 8 ∧ tzero Tryz.prog 152 = some [.map none] ∧ tmap Tryz.prog 152 = some (3, 74) := by (repeat' refine And.intro ?_ ?_) <;> kernel_rfl
@[simp] theorem Tryz.y154 : tsz Tryz.prog 154 = some 6 ∧ tag Tryz.prog 154 = some true ∧ telem Tryz.prog 154 = none ∧ tarr Tryz.prog 154 = none ∧ tint Tryz.prog 154 = none ∧ tbool Tryz.prog 154 = false ∧ tbytes Tryz.prog 154 = some 96 ∧ tzero Tryz.prog 154 = some [.slice none 0 0, .slice none 0 0, .int .i64 0, .slice none 0 0, .map none, .map none] ∧ toff Tryz.prog 154 0 = some 0 ∧ tfield Tryz.prog 154 0 = some (0, 4, true) ∧ toff Tryz.prog 154 1 = some 4 ∧ tfield Tryz.prog 154 1 = some (4, 1, false) ∧ toff Tryz.prog 154 2 = some 5 ∧ tfield Tryz.prog 154 2 = some (5, 1, false) ∧ placesOf Tryz.prog 154 = some [(0, 4), (4, 1), (5, 1)] := by (repeat' refine And.intro ?_ ?_) <;> kernel_rfl
@[simp] theorem Tryz.y173 : tsz Tryz.prog 173 = some 1 ∧ tag Tryz.prog 173 = some false ∧ telem Tryz.prog 173 = none ∧ tarr Tryz.prog 173 = none ∧ tint Tryz.prog 173 = none ∧ tbool Tryz.prog 173 = false ∧ tbytes Tryz.prog 173 = some 8 ∧ tzero Tryz.prog 173 = some [.pointer none] := by (repeat' refine And.intro ?_ ?_) <;> kernel_rfl
@[simp] theorem Tryz.y182 : tsz Tryz.prog 182 = some 1 ∧ tag Tryz.prog 182 = some false ∧ telem Tryz.prog 182 = none ∧ tarr Tryz.prog 182 = none ∧ tint Tryz.prog 182 = none ∧ tbool Tryz.prog 182 = false ∧ tbytes Tryz.prog 182 = some 8 ∧ tzero Tryz.prog 182 = some [.nilFunc] := by (repeat' refine And.intro ?_ ?_) <;> kernel_rfl
@[simp] theorem Tryz.y184 : tsz Tryz.prog 184 = some 2 ∧ tag Tryz.prog 184 = some true ∧ telem Tryz.prog 184 = none ∧ tarr Tryz.prog 184 = none ∧ tint Tryz.prog 184 = none ∧ tbool Tryz.prog 184 = false ∧ tbytes Tryz.prog 184 = some 48 ∧ tzero Tryz.prog 184 = some [.slice none 0 0, .slice none 0 0] ∧ toff Tryz.prog 184 0 = some 0 ∧ tfield Tryz.prog 184 0 = some (0, 1, true) ∧ toff Tryz.prog 184 1 = some 1 ∧ tfield Tryz.prog 184 1 = some (1, 1, false) ∧ placesOf Tryz.prog 184 = some [(0, 1), (1, 1)] := by (repeat' refine And.intro ?_ ?_) <;> kernel_rfl
@[simp] theorem Tryz.y193 : tsz Tryz.prog 193 = some 1 ∧ tag Tryz.prog 193 = some false ∧ telem Tryz.prog 193 = none ∧ tarr Tryz.prog 193 = none ∧ tint Tryz.prog 193 = none ∧ tbool Tryz.prog 193 = false ∧ tbytes Tryz.prog 193 = some 8 ∧ tzero Tryz.prog 193 = some [.nilFunc] := by (repeat' refine And.intro ?_ ?_) <;> kernel_rfl
@[simp] theorem Tryz.y194 : tsz Tryz.prog 194 = some 1 ∧ tag Tryz.prog 194 = some true ∧ telem Tryz.prog 194 = none ∧ tarr Tryz.prog 194 = none ∧ tint Tryz.prog 194 = none ∧ tbool Tryz.prog 194 = false ∧ tbytes Tryz.prog 194 = some 8 ∧ tzero Tryz.prog 194 = some [.nilFunc] ∧ toff Tryz.prog 194 0 = some 0 ∧ tfield Tryz.prog 194 0 = some (0, 1, false) ∧ placesOf Tryz.prog 194 = some [(0, 1)] := by (repeat' refine And.intro ?_ ?_) <;> kernel_rfl
@[simp] theorem Tryz.y195 : tsz Tryz.prog 195 = some 3 ∧ tag Tryz.prog 195 = some true ∧ telem Tryz.prog 195 = none ∧ tarr Tryz.prog 195 = some (3, 194) ∧ tint Tryz.prog 195 = none ∧ tbool Tryz.prog 195 = false ∧ tbytes Tryz.prog 195 = some 24 ∧ tzero Tryz.prog 195 = some [.nilFunc, .nilFunc, .nilFunc] ∧ placesOf Tryz.prog 195 = some [(0, 1), (1, 1), (2, 1)] ∧ eqArrOk.tarr' Tryz.prog 195 = some (3, 194) ∧ eqShape Tryz.prog 195 = none := by (repeat' refine And.intro ?_ ?_) <;> kernel_rfl
@[simp] theorem Tryz.y198 : tsz Tryz.prog 198 = some 1 ∧ tag Tryz.prog 198 = some false ∧ telem Tryz.prog 198 = none ∧ tarr Tryz.prog 198 = none ∧ tint Tryz.prog 198 = none ∧ tbool Tryz.prog 198 = false ∧ tbytes Tryz.prog 198 = some 8 ∧ tzero Tryz.prog 198 = some [.map none] ∧ tmap Tryz.prog 198 = some (93, 4) := by (repeat' refine And.intro ?_ ?_) <;> kernel_rfl
@[simp] theorem Tryz.y221 : tsz Tryz.prog 221 = some 1 ∧ tag Tryz.prog 221 = some false ∧ telem Tryz.prog 221 = none ∧ tarr Tryz.prog 221 = none ∧ tint Tryz.prog 221 = none ∧ tbool Tryz.prog 221 = false ∧ tbytes Tryz.prog 221 = some 8 ∧ tzero Tryz.prog 221 = some [.nilFunc] := by (repeat' refine And.intro ?_ ?_) <;> kernel_rfl
@[simp] theorem Tryz.y222 : tsz Tryz.prog 222 = some 1 ∧ tag Tryz.prog 222 = some true ∧ telem Tryz.prog 222 = none ∧ tarr Tryz.prog 222 = none ∧ tint Tryz.prog 222 = none ∧ tbool Tryz.prog 222 = false ∧ tbytes Tryz.prog 222 = some 8 ∧ tzero Tryz.prog 222 = some [.nilFunc] ∧ toff Tryz.prog 222 0 = some 0 ∧ tfield Tryz.prog 222 0 = some (0, 1, false) ∧ placesOf Tryz.prog 222 = some [(0, 1)] := by (repeat' refine And.intro ?_ ?_) <;> kernel_rfl
@[simp] theorem Tryz.y223 : tsz Tryz.prog 223 = some 4 ∧ tag Tryz.prog 223 = some true ∧ telem Tryz.prog 223 = none ∧ tarr Tryz.prog 223 = some (4, 222) ∧ tint Tryz.prog 223 = none ∧ tbool Tryz.prog 223 = false ∧ tbytes Tryz.prog 223 = some 32 ∧ tzero Tryz.prog 223 = some [.nilFunc, .nilFunc, .nilFunc, .nilFunc] ∧ placesOf Tryz.prog 223 = some [(0, 1), (1, 1), (2, 1), (3, 1)] ∧ eqArrOk.tarr' Tryz.prog 223 = some (4, 222) ∧ eqShape Tryz.prog 223 = none := by (repeat' refine And.intro ?_ ?_) <;> kernel_rfl
@[simp] theorem Tryz.y236 : tsz Tryz.prog 236 = some 1 ∧ tag Tryz.prog 236 = some false ∧ telem Tryz.prog 236 = none ∧ tarr Tryz.prog 236 = none ∧ tint Tryz.prog 236 = some .u64 ∧ tbool Tryz.prog 236 = false ∧ tbytes Tryz.prog 236 = some 8 ∧ tzero Tryz.prog 236 = some [.int .u64 0] := by (repeat' refine And.intro ?_ ?_) <;> kernel_rfl
@[simp] theorem Tryz.yx3 : keyShape Tryz.prog 3 = some [.int .i64] := by kernel_rfl
@[simp] theorem Tryz.yx93 : keyShape Tryz.prog 93 = some [.int .i64, .int .i64] := by kernel_rfl
@[simp] theorem Tryz.yxx3 : tzk Tryz.prog 3 = some [.int .i64 0] := by kernel_rfl
@[simp] theorem Tryz.yx4 : tzk Tryz.prog 4 = some [.bool false] := by kernel_rfl
@[simp] theorem Tryz.yx74 : tzk Tryz.prog 74 = some [.int .i64 0, .int .i64 0, .int .u8 0, .slice none 0 0, .slice none 0 0] := by kernel_rfl
@[simp] theorem Tryz.ok15 : CallOk Tryz.prog 15 := Tryz.call15
@[simp] theorem Tryz.ok16 : CallOk Tryz.prog 16 := Tryz.call16
@[simp] theorem Tryz.ok17 : CallOk Tryz.prog 17 := Tryz.call17
@[simp] theorem Tryz.ok18 : CallOk Tryz.prog 18 := Tryz.call18
@[simp] theorem Tryz.ok19 : CallOk Tryz.prog 19 := Tryz.call19
@[simp] theorem Tryz.ok20 : CallOk Tryz.prog 20 := Tryz.call20
@[simp] theorem Tryz.ok21 : CallOk Tryz.prog 21 := Tryz.call21
@[simp] theorem Tryz.ok22 : CallOk Tryz.prog 22 := Tryz.call22
@[simp] theorem Tryz.ok23 : CallOk Tryz.prog 23 := Tryz.call23
@[simp] theorem Tryz.ok24 : CallOk Tryz.prog 24 := Tryz.call24
@[simp] theorem Tryz.ok25 : CallOk Tryz.prog 25 := Tryz.call25
@[simp] theorem Tryz.ok26 : CallOk Tryz.prog 26 := Tryz.call26
@[simp] theorem Tryz.ok27 : CallOk Tryz.prog 27 := Tryz.call27
@[simp] theorem Tryz.ok28 : CallOk Tryz.prog 28 := Tryz.call28
@[simp] theorem Tryz.ok29 : CallOk Tryz.prog 29 := Tryz.call29
@[simp] theorem Tryz.ok30 : CallOk Tryz.prog 30 := Tryz.call30
@[simp] theorem Tryz.ok31 : CallOk Tryz.prog 31 := Tryz.call31
@[simp] theorem Tryz.ok32 : CallOk Tryz.prog 32 := Tryz.call32
@[simp] theorem Tryz.ok33 : CallOk Tryz.prog 33 := Tryz.call33
@[simp] theorem Tryz.ok44 : CallOk Tryz.prog 44 := Tryz.call44
@[simp] theorem Tryz.ok46 : CallOk Tryz.prog 46 := Tryz.call46
@[simp] theorem Tryz.ok47 : CallOk Tryz.prog 47 := Tryz.call47
@[simp] theorem Tryz.ok48 : CallOk Tryz.prog 48 := Tryz.call48
@[simp] theorem Tryz.ok49 : CallOk Tryz.prog 49 := Tryz.call49
@[simp] theorem Tryz.ok51 : CallOk Tryz.prog 51 := Tryz.call51
@[simp] theorem Tryz.ok52 : CallOk Tryz.prog 52 := Tryz.call52
@[simp] theorem Tryz.ok54 : CallOk Tryz.prog 54 := Tryz.call54
@[simp] theorem Tryz.ok55 : CallOk Tryz.prog 55 := Tryz.call55
@[simp] theorem Tryz.ok56 : CallOk Tryz.prog 56 := Tryz.call56
@[simp] theorem Tryz.ok57 : CallOk Tryz.prog 57 := Tryz.call57
@[simp] theorem Tryz.ok58 : CallOk Tryz.prog 58 := Tryz.call58
@[simp] theorem Tryz.ok59 : CallOk Tryz.prog 59 := Tryz.call59
@[simp] theorem Tryz.ok60 : CallOk Tryz.prog 60 := Tryz.call60
@[simp] theorem Tryz.ok63 : CallOk Tryz.prog 63 := Tryz.call63
@[simp] theorem Tryz.ok64 : CallOk Tryz.prog 64 := Tryz.call64
@[simp] theorem Tryz.ok65 : CallOk Tryz.prog 65 := Tryz.call65
@[simp] theorem Tryz.ok66 : CallOk Tryz.prog 66 := Tryz.call66
@[simp] theorem Tryz.ok67 : CallOk Tryz.prog 67 := Tryz.call67
@[simp] theorem Tryz.ok68 : CallOk Tryz.prog 68 := Tryz.call68
@[simp] theorem Tryz.ok69 : CallOk Tryz.prog 69 := Tryz.call69
@[simp] theorem Tryz.ok70 : CallOk Tryz.prog 70 := Tryz.call70
@[simp] theorem Tryz.ok71 : CallOk Tryz.prog 71 := Tryz.call71
@[simp] theorem Tryz.ok72 : CallOk Tryz.prog 72 := Tryz.call72
@[simp] theorem Tryz.ok73 : CallOk Tryz.prog 73 := Tryz.call73
@[simp] theorem Tryz.ok74 : CallOk Tryz.prog 74 := Tryz.call74
@[simp] theorem Tryz.ok75 : CallOk Tryz.prog 75 := Tryz.call75
@[simp] theorem Tryz.ok76 : CallOk Tryz.prog 76 := Tryz.call76
@[simp] theorem Tryz.ok77 : CallOk Tryz.prog 77 := Tryz.call77
@[simp] theorem Tryz.ok78 : CallOk Tryz.prog 78 := Tryz.call78
@[simp] theorem Tryz.ok79 : CallOk Tryz.prog 79 := Tryz.call79
@[simp] theorem Tryz.ok80 : CallOk Tryz.prog 80 := Tryz.call80
@[simp] theorem Tryz.ok81 : CallOk Tryz.prog 81 := Tryz.call81
@[simp] theorem Tryz.ok82 : CallOk Tryz.prog 82 := Tryz.call82
@[simp] theorem Tryz.ok83 : CallOk Tryz.prog 83 := Tryz.call83
@[simp] theorem Tryz.ok84 : CallOk Tryz.prog 84 := Tryz.call84
@[simp] theorem Tryz.ok85 : CallOk Tryz.prog 85 := Tryz.call85
@[simp] theorem Tryz.ok86 : CallOk Tryz.prog 86 := Tryz.call86
@[simp] theorem Tryz.ok87 : CallOk Tryz.prog 87 := Tryz.call87
@[simp] theorem Tryz.ok88 : CallOk Tryz.prog 88 := Tryz.call88
@[simp] theorem Tryz.ok89 : CallOk Tryz.prog 89 := Tryz.call89
@[simp] theorem Tryz.ok92 : CallOk Tryz.prog 92 := Tryz.call92
@[simp] theorem Tryz.ok93 : CallOk Tryz.prog 93 := Tryz.call93
@[simp] theorem Tryz.ok94 : CallOk Tryz.prog 94 := Tryz.call94
@[simp] theorem Tryz.ok95 : CallOk Tryz.prog 95 := Tryz.call95
@[simp] theorem Tryz.ok96 : CallOk Tryz.prog 96 := Tryz.call96
@[simp] theorem Tryz.ok102 : CallOk Tryz.prog 102 := Tryz.call102
@[simp] theorem Tryz.ok106 : CallOk Tryz.prog 106 := Tryz.call106
@[simp] theorem Tryz.ok107 : CallOk Tryz.prog 107 := Tryz.call107
@[simp] theorem Tryz.ok108 : CallOk Tryz.prog 108 := Tryz.call108
@[simp] theorem Tryz.ok109 : CallOk Tryz.prog 109 := Tryz.call109
@[simp] theorem Tryz.ok110 : CallOk Tryz.prog 110 := Tryz.call110
@[simp] theorem Tryz.ok111 : CallOk Tryz.prog 111 := Tryz.call111
@[simp] theorem Tryz.ok112 : CallOk Tryz.prog 112 := Tryz.call112
@[simp] theorem Tryz.ok114 : CallOk Tryz.prog 114 := Tryz.call114
@[simp] theorem Tryz.ok115 : CallOk Tryz.prog 115 := Tryz.call115
@[simp] theorem Tryz.ok117 : CallOk Tryz.prog 117 := Tryz.call117
@[simp] theorem Tryz.ok118 : CallOk Tryz.prog 118 := Tryz.call118
@[simp] theorem Tryz.ok119 : CallOk Tryz.prog 119 := Tryz.call119
@[simp] theorem Tryz.ok120 : CallOk Tryz.prog 120 := Tryz.call120
@[simp] theorem Tryz.ok121 : CallOk Tryz.prog 121 := Tryz.call121
@[simp] theorem Tryz.ok122 : CallOk Tryz.prog 122 := Tryz.call122
@[simp] theorem Tryz.ok124 : CallOk Tryz.prog 124 := Tryz.call124
@[simp] theorem Tryz.ok125 : CallOk Tryz.prog 125 := Tryz.call125
@[simp] theorem Tryz.ok126 : CallOk Tryz.prog 126 := Tryz.call126
@[simp] theorem Tryz.ok127 : CallOk Tryz.prog 127 := Tryz.call127
@[simp] theorem Tryz.ok128 : CallOk Tryz.prog 128 := Tryz.call128
@[simp] theorem Tryz.ok129 : CallOk Tryz.prog 129 := Tryz.call129
@[simp] theorem Tryz.ok130 : CallOk Tryz.prog 130 := Tryz.call130
@[simp] theorem Tryz.ok131 : CallOk Tryz.prog 131 := Tryz.call131
@[simp] theorem Tryz.ok132 : CallOk Tryz.prog 132 := Tryz.call132
@[simp] theorem Tryz.ok139 : CallOk Tryz.prog 139 := Tryz.call139
@[simp] theorem Tryz.ok142 : CallOk Tryz.prog 142 := Tryz.call142
@[simp] theorem Tryz.ok143 : CallOk Tryz.prog 143 := Tryz.call143
@[simp] theorem Tryz.ok148 : CallOk Tryz.prog 148 := Tryz.call148
@[simp] theorem Tryz.ok149 : CallOk Tryz.prog 149 := Tryz.call149
@[simp] theorem Tryz.ok150 : CallOk Tryz.prog 150 := Tryz.call150
@[simp] theorem Tryz.ok151 : CallOk Tryz.prog 151 := Tryz.call151
@[simp] theorem Tryz.ok152 : CallOk Tryz.prog 152 := Tryz.call152
@[simp] theorem Tryz.ok153 : CallOk Tryz.prog 153 := Tryz.call153
@[simp] theorem Tryz.ok154 : CallOk Tryz.prog 154 := Tryz.call154
@[simp] theorem Tryz.ok155 : CallOk Tryz.prog 155 := Tryz.call155
@[simp] theorem Tryz.ok156 : CallOk Tryz.prog 156 := Tryz.call156
@[simp] theorem Tryz.ok158 : CallOk Tryz.prog 158 := Tryz.call158
@[simp] theorem Tryz.ok159 : CallOk Tryz.prog 159 := Tryz.call159
@[simp] theorem Tryz.ok160 : CallOk Tryz.prog 160 := Tryz.call160
@[simp] theorem Tryz.ok161 : CallOk Tryz.prog 161 := Tryz.call161
@[simp] theorem Tryz.ok164 : CallOk Tryz.prog 164 := Tryz.call164
@[simp] theorem Tryz.ok165 : CallOk Tryz.prog 165 := Tryz.call165
@[simp] theorem Tryz.ok175 : CallOk Tryz.prog 175 := Tryz.call175
@[simp] theorem Tryz.ok177 : CallOk Tryz.prog 177 := Tryz.call177
@[simp] theorem Tryz.ok178 : CallOk Tryz.prog 178 := Tryz.call178
@[simp] theorem Tryz.ok179 : CallOk Tryz.prog 179 := Tryz.call179
@[simp] theorem Tryz.ok181 : CallOk Tryz.prog 181 := Tryz.call181
@[simp] theorem Tryz.ok182 : CallOk Tryz.prog 182 := Tryz.call182
@[simp] theorem Tryz.ok183 : CallOk Tryz.prog 183 := Tryz.call183
@[simp] theorem Tryz.ok184 : CallOk Tryz.prog 184 := Tryz.call184
@[simp] theorem Tryz.ok205 : CallOk Tryz.prog 205 := Tryz.call205
@[simp] theorem Tryz.ok206 : CallOk Tryz.prog 206 := Tryz.call206
@[simp] theorem Tryz.ok236 : CallOk Tryz.prog 236 := Tryz.call236
@[simp] theorem Tryz.ok237 : CallOk Tryz.prog 237 := Tryz.call237
@[simp] theorem Tryz.ok238 : CallOk Tryz.prog 238 := Tryz.call238
@[simp] theorem Tryz.ok239 : CallOk Tryz.prog 239 := Tryz.call239
@[simp] theorem Tryz.ok240 : CallOk Tryz.prog 240 := Tryz.call240
@[simp] theorem Tryz.ok241 : CallOk Tryz.prog 241 := Tryz.call241
@[simp] theorem Tryz.ok242 : CallOk Tryz.prog 242 := Tryz.call242
@[simp] theorem Tryz.ok243 : CallOk Tryz.prog 243 := Tryz.call243
@[simp] theorem Tryz.ok244 : CallOk Tryz.prog 244 := Tryz.call244
@[simp] theorem Tryz.ok245 : CallOk Tryz.prog 245 := Tryz.call245
end Go.Proofs
