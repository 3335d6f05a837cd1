/- Part 28 of the proofs: laws and walks that hold without conditions beyond those that each theorem names. -/
import Derived.Shelf.SlGeneric
import Derived.Shelf.SlSortCmp.NoneTotal
import Derived.Ground.SlsfProg
import Derived.Test.YtfbojhlifomnfaaGreatDoorA25
import Derived.Test.YtfbojhlifomnfaaGreatDoorA27
set_option linter.all false
set_option linter.deprecated false
namespace Go.Proofs
open Go.Shelf
def Tryz.laysSpot_ren : Go.Shelf.Ren := ⟨fun | 6 => 124 | 15 => 163 | 14 => 162 | 28 => 193 | 29 => 194 | 20 => 185 | 21 => 186 | 22 => 187 | 23 => 188 | 24 => 189 | 25 => 190 | 26 => 191 | 27 => 192 | 46 => 207 | 47 => 208 | 48 => 209 | 49 => 210 | 50 => 211 | 57 => 215 | n => n, fun | 22 => 41 | 24 => 93 | 25 => 149 | 3 => 3 | 39 => 236 | 0 => 0 | 53 => 172 | 55 => 266 | 4 => 4 | 46 => 259 | 45 => 258 | 50 => 144 | 5 => 5 | 9 => 9 | 66 => 276 | 70 => 280 | 76 => 284 | 77 => 51 | n => n, fun | n => n⟩
theorem Tryz.laysSpot : Go.Proofs.SlLaysF0.n6 Tryz.prog Tryz.laysSpot_ren := {
 mixed := by kernel_rfl
 f6 := ⟨Tryz.f124.name, by decide, Tryz.func124.trans (congrArg some (by kernel_rfl))⟩
 f14 := ⟨Tryz.f162.name, by decide, Tryz.func162.trans (congrArg some (by kernel_rfl))⟩
 f15 := Tryz.func163.trans (congrArg some (by kernel_rfl))
 f20 := ⟨Tryz.f185.name, by decide, Tryz.func185.trans (congrArg some (by kernel_rfl))⟩
 f21 := ⟨Tryz.f186.name, by decide, Tryz.func186.trans (congrArg some (by kernel_rfl))⟩
 f22 := ⟨Tryz.f187.name, by decide, Tryz.func187.trans (congrArg some (by kernel_rfl))⟩
 f23 := ⟨Tryz.f188.name, by decide, Tryz.func188.trans (congrArg some (by kernel_rfl))⟩
 f24 := ⟨Tryz.f189.name, by decide, Tryz.func189.trans (congrArg some (by kernel_rfl))⟩
 f25 := ⟨Tryz.f190.name, by decide, Tryz.func190.trans (congrArg some (by kernel_rfl))⟩
 f26 := ⟨Tryz.f191.name, by decide, Tryz.func191.trans (congrArg some (by kernel_rfl))⟩
 f27 := ⟨Tryz.f192.name, by decide, Tryz.func192.trans (congrArg some (by kernel_rfl))⟩
 f28 := Tryz.func193.trans (congrArg some (by kernel_rfl))
 f29 := Tryz.func194.trans (congrArg some (by kernel_rfl))
 f46 := ⟨Tryz.f207.name, by decide, Tryz.func207.trans (congrArg some (by kernel_rfl))⟩
 f47 := Tryz.func208.trans (congrArg some (by kernel_rfl))
 f48 := Tryz.func209.trans (congrArg some (by kernel_rfl))
 f49 := ⟨Tryz.f210.name, by decide, Tryz.func210.trans (congrArg some (by kernel_rfl))⟩
 f50 := ⟨Tryz.f211.name, by decide, Tryz.func211.trans (congrArg some (by kernel_rfl))⟩
 f57 := ⟨Tryz.f215.name, by decide, Tryz.func215.trans (congrArg some (by kernel_rfl))⟩
 t0 := Tryz.underlying0
 a0 := Tryz.isAgg0
 z0 := Tryz.sizeOf0
 v0 := Tryz.zeroValue0
 t3 := Tryz.underlying3
 a3 := Tryz.isAgg3
 z3 := Tryz.sizeOf3
 v3 := Tryz.zeroValue3
 t4 := Tryz.underlying4
 a4 := Tryz.isAgg4
 z4 := Tryz.sizeOf4
 v4 := Tryz.zeroValue4
 t5 := Tryz.underlying5
 a5 := Tryz.isAgg5
 z5 := Tryz.sizeOf5
 v5 := Tryz.zeroValue5
 t9 := Tryz.underlying9
 a9 := Tryz.isAgg9
 z9 := Tryz.sizeOf9
 v9 := Tryz.zeroValue9
 t22 := Tryz.underlying41
 a22 := Tryz.isAgg41
 z22 := Tryz.sizeOf41
 v22 := Tryz.zeroValue41
 t25 := Tryz.underlying149
 a25 := Tryz.isAgg149
 z25 := Tryz.sizeOf149
 v25 := Tryz.zeroValue149
 t39 := Tryz.underlying236
 a39 := Tryz.isAgg236
 z39 := Tryz.sizeOf236
 v39 := Tryz.zeroValue236
 t45 := Tryz.underlying258
 a45 := Tryz.isAgg258
 z45 := Tryz.sizeOf258
 v45 := Tryz.zeroValue258
 t46 := Tryz.underlying259
 a46 := Tryz.isAgg259
 z46 := Tryz.sizeOf259
 v46 := Tryz.zeroValue259
 t50 := Tryz.underlying144
 a50 := Tryz.isAgg144
 z50 := Tryz.sizeOf144
 v50 := Tryz.zeroValue144
 t53 := Tryz.underlying172
 a53 := Tryz.isAgg172
 z53 := Tryz.sizeOf172
 v53 := Tryz.zeroValue172
 t55 := Tryz.underlying266
 a55 := Tryz.isAgg266
 z55 := Tryz.sizeOf266
 v55 := Tryz.zeroValue266
 t66 := Tryz.underlying276
 a66 := Tryz.isAgg276
 z66 := Tryz.sizeOf276
 v66 := Tryz.zeroValue276
 t70 := Tryz.underlying280
 a70 := Tryz.isAgg280
 z70 := Tryz.sizeOf280
 v70 := Tryz.zeroValue280
 t76 := Tryz.underlying284
 a76 := Tryz.isAgg284
 z76 := Tryz.sizeOf284
 v76 := Tryz.zeroValue284
 t77 := Tryz.underlying51
 a77 := Tryz.isAgg51
 z77 := Tryz.sizeOf51
 v77 := Tryz.zeroValue51 }
end Go.Proofs
namespace Go.Proofs
open Go Go.Ab Go.Sort
theorem swoS : SWO (fun x y : Spot => decide (ordS x y < 0)) where
 irrefl x := by
  rw [decide_eq_false_iff_not, ordS_lt, before_irrefl]; simp
 trans x y z h1 h2 := by
  rw [decide_eq_true_iff, ordS_lt] at *
  exact before_trans h1 h2
 ntrans x y z h1 h2 := by
  rw [decide_eq_false_iff_not, ordS_lt, before_iff] at *
  omega
theorem sortFOk (G : Nat → Option (List IC)) : SortFOk G := fun l gn sz nl hz hl =>
 DCall.sortF (P := Tryz.prog) (G := G) (f := 124) (g := 85) encSpot 2 (by decide) (fun _ => rfl) ordS swoS (fun x y => by have h := order_c (G := fun _ => none) x y []; simpa [wk_raw] using h)
  (fun α _ en hk h1 c hO blk cap d w hcmp hH hb hs => AnyQ.slices_SortFunc Tryz.laysSpot 2 Tryz.isAgg93 Tryz.sizeOf93 en hk h1 c hO 85 #[] blk 0 cap d w (by simp) hcmp hH hb hs)
  (fun a cap w => AnyF.slices_SortFunc_none Tryz.laysSpot a cap _ w) (.im (.fn (.func 85) []))
  (fun M v hv => by
   cases hv with
   | im _ _ h => cases h with
     | fn _ _ vs h1 _ =>
       have : vs = #[] := Array.eq_empty_of_size_eq_zero (by simpa using h1.symm)
       rw [this]) l gn sz nl hz hl
end Go.Proofs
