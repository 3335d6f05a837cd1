/- Part 26 of the proofs. -/
import Derived.Shelf.SlGeneric
import Derived.Shelf.SlSortCmp.NoneTotal
import Derived.Ground.SlsfProg
import Derived.Test.YtpcoahkgkgmmlaaGreatDoorS18
import Derived.Test.YtpcoahkgkgmmlaaGreatDoorS19
set_option linter.all false
set_option linter.deprecated false
set_option maxHeartbeats 100000000
namespace Go.Proofs
open Go.Shelf
def Tryz.laysSpot_ren:Go.Shelf.Ren:=⟨fun|6=>88|15=>127|14=>126|28=>158|29=>159|20=>150|21=>151|22=>152|23=>153|24=>154|25=>155|26=>156|27=>157|46=>173|47=>174|48=>175|49=>176|50=>177|57=>182|n=>n,fun|22=>33|24=>38|25=>104|3=>3|39=>199|0=>0|53=>119|55=>233|4=>4|46=>226|45=>225|50=>145|5=>5|9=>9|66=>244|70=>248|76=>253|77=>252|n=>n,fun|n=>n⟩
theorem Tryz.laysSpot:Go.Proofs.SlLaysF0.n6 Tryz.prog Tryz.laysSpot_ren:={
 mixed:=by kernel_rfl
 f6:=⟨Tryz.f88.name,by decide,Tryz.func88.trans (congrArg some (by kernel_rfl))⟩
 f14:=⟨Tryz.f126.name,by decide,Tryz.func126.trans (congrArg some (by kernel_rfl))⟩
 f15:=Tryz.func127.trans (congrArg some (by kernel_rfl))
 f20:=⟨Tryz.f150.name,by decide,Tryz.func150.trans (congrArg some (by kernel_rfl))⟩
 f21:=⟨Tryz.f151.name,by decide,Tryz.func151.trans (congrArg some (by kernel_rfl))⟩
 f22:=⟨Tryz.f152.name,by decide,Tryz.func152.trans (congrArg some (by kernel_rfl))⟩
 f23:=⟨Tryz.f153.name,by decide,Tryz.func153.trans (congrArg some (by kernel_rfl))⟩
 f24:=⟨Tryz.f154.name,by decide,Tryz.func154.trans (congrArg some (by kernel_rfl))⟩
 f25:=⟨Tryz.f155.name,by decide,Tryz.func155.trans (congrArg some (by kernel_rfl))⟩
 f26:=⟨Tryz.f156.name,by decide,Tryz.func156.trans (congrArg some (by kernel_rfl))⟩
 f27:=⟨Tryz.f157.name,by decide,Tryz.func157.trans (congrArg some (by kernel_rfl))⟩
 f28:=Tryz.func158.trans (congrArg some (by kernel_rfl))
 f29:=Tryz.func159.trans (congrArg some (by kernel_rfl))
 f46:=⟨Tryz.f173.name,by decide,Tryz.func173.trans (congrArg some (by kernel_rfl))⟩
 f47:=Tryz.func174.trans (congrArg some (by kernel_rfl))
 f48:=Tryz.func175.trans (congrArg some (by kernel_rfl))
 f49:=⟨Tryz.f176.name,by decide,Tryz.func176.trans (congrArg some (by kernel_rfl))⟩
 f50:=⟨Tryz.f177.name,by decide,Tryz.func177.trans (congrArg some (by kernel_rfl))⟩
 f57:=⟨Tryz.f182.name,by decide,Tryz.func182.trans (congrArg some (by kernel_rfl))⟩
 t0:=Tryz.underlying0
 a0:=Tryz.isAgg0
 z0:=Tryz.sizeOf0
 v0:=Tryz.zeroValue0
 t3:=Tryz.underlying3
 a3:=Tryz.isAgg3
 z3:=Tryz.sizeOf3
 v3:=Tryz.zeroValue3
 t4:=Tryz.underlying4
 a4:=Tryz.isAgg4
 z4:=Tryz.sizeOf4
 v4:=Tryz.zeroValue4
 t5:=Tryz.underlying5
 a5:=Tryz.isAgg5
 z5:=Tryz.sizeOf5
 v5:=Tryz.zeroValue5
 t9:=Tryz.underlying9
 a9:=Tryz.isAgg9
 z9:=Tryz.sizeOf9
 v9:=Tryz.zeroValue9
 t22:=Tryz.underlying33
 a22:=Tryz.isAgg33
 z22:=Tryz.sizeOf33
 v22:=Tryz.zeroValue33
 t25:=Tryz.underlying104
 a25:=Tryz.isAgg104
 z25:=Tryz.sizeOf104
 v25:=Tryz.zeroValue104
 t39:=Tryz.underlying199
 a39:=Tryz.isAgg199
 z39:=Tryz.sizeOf199
 v39:=Tryz.zeroValue199
 t45:=Tryz.underlying225
 a45:=Tryz.isAgg225
 z45:=Tryz.sizeOf225
 v45:=Tryz.zeroValue225
 t46:=Tryz.underlying226
 a46:=Tryz.isAgg226
 z46:=Tryz.sizeOf226
 v46:=Tryz.zeroValue226
 t50:=Tryz.underlying145
 a50:=Tryz.isAgg145
 z50:=Tryz.sizeOf145
 v50:=Tryz.zeroValue145
 t53:=Tryz.underlying119
 a53:=Tryz.isAgg119
 z53:=Tryz.sizeOf119
 v53:=Tryz.zeroValue119
 t55:=Tryz.underlying233
 a55:=Tryz.isAgg233
 z55:=Tryz.sizeOf233
 v55:=Tryz.zeroValue233
 t66:=Tryz.underlying244
 a66:=Tryz.isAgg244
 z66:=Tryz.sizeOf244
 v66:=Tryz.zeroValue244
 t70:=Tryz.underlying248
 a70:=Tryz.isAgg248
 z70:=Tryz.sizeOf248
 v70:=Tryz.zeroValue248
 t76:=Tryz.underlying253
 a76:=Tryz.isAgg253
 z76:=Tryz.sizeOf253
 v76:=Tryz.zeroValue253
 t77:=Tryz.underlying252
 a77:=Tryz.isAgg252
 z77:=Tryz.sizeOf252
 v77:=Tryz.zeroValue252 }
def Tryz.laysIss_ren:Go.Shelf.Ren:=⟨fun|6=>97|15=>127|14=>136|28=>158|29=>159|20=>160|21=>161|22=>162|23=>163|24=>164|25=>165|26=>166|27=>167|46=>178|47=>174|48=>175|49=>179|50=>180|57=>183|n=>n,fun|22=>22|24=>47|25=>168|3=>3|39=>199|0=>0|53=>119|55=>233|4=>4|46=>226|45=>225|50=>145|5=>5|9=>9|66=>244|70=>248|76=>253|77=>252|n=>n,fun|n=>n⟩
theorem Tryz.laysIss:Go.Proofs.SlLaysF0.n6 Tryz.prog Tryz.laysIss_ren:={
 mixed:=by kernel_rfl
 f6:=⟨Tryz.f97.name,by decide,Tryz.func97.trans (congrArg some (by kernel_rfl))⟩
 f14:=⟨Tryz.f136.name,by decide,Tryz.func136.trans (congrArg some (by kernel_rfl))⟩
 f15:=Tryz.func127.trans (congrArg some (by kernel_rfl))
 f20:=⟨Tryz.f160.name,by decide,Tryz.func160.trans (congrArg some (by kernel_rfl))⟩
 f21:=⟨Tryz.f161.name,by decide,Tryz.func161.trans (congrArg some (by kernel_rfl))⟩
 f22:=⟨Tryz.f162.name,by decide,Tryz.func162.trans (congrArg some (by kernel_rfl))⟩
 f23:=⟨Tryz.f163.name,by decide,Tryz.func163.trans (congrArg some (by kernel_rfl))⟩
 f24:=⟨Tryz.f164.name,by decide,Tryz.func164.trans (congrArg some (by kernel_rfl))⟩
 f25:=⟨Tryz.f165.name,by decide,Tryz.func165.trans (congrArg some (by kernel_rfl))⟩
 f26:=⟨Tryz.f166.name,by decide,Tryz.func166.trans (congrArg some (by kernel_rfl))⟩
 f27:=⟨Tryz.f167.name,by decide,Tryz.func167.trans (congrArg some (by kernel_rfl))⟩
 f28:=Tryz.func158.trans (congrArg some (by kernel_rfl))
 f29:=Tryz.func159.trans (congrArg some (by kernel_rfl))
 f46:=⟨Tryz.f178.name,by decide,Tryz.func178.trans (congrArg some (by kernel_rfl))⟩
 f47:=Tryz.func174.trans (congrArg some (by kernel_rfl))
 f48:=Tryz.func175.trans (congrArg some (by kernel_rfl))
 f49:=⟨Tryz.f179.name,by decide,Tryz.func179.trans (congrArg some (by kernel_rfl))⟩
 f50:=⟨Tryz.f180.name,by decide,Tryz.func180.trans (congrArg some (by kernel_rfl))⟩
 f57:=⟨Tryz.f183.name,by decide,Tryz.func183.trans (congrArg some (by kernel_rfl))⟩
 t0:=Tryz.underlying0
 a0:=Tryz.isAgg0
 z0:=Tryz.sizeOf0
 v0:=Tryz.zeroValue0
 t3:=Tryz.underlying3
 a3:=Tryz.isAgg3
 z3:=Tryz.sizeOf3
 v3:=Tryz.zeroValue3
 t4:=Tryz.underlying4
 a4:=Tryz.isAgg4
 z4:=Tryz.sizeOf4
 v4:=Tryz.zeroValue4
 t5:=Tryz.underlying5
 a5:=Tryz.isAgg5
 z5:=Tryz.sizeOf5
 v5:=Tryz.zeroValue5
 t9:=Tryz.underlying9
 a9:=Tryz.isAgg9
 z9:=Tryz.sizeOf9
 v9:=Tryz.zeroValue9
 t22:=Tryz.underlying22
 a22:=Tryz.isAgg22
 z22:=Tryz.sizeOf22
 v22:=Tryz.zeroValue22
 t25:=Tryz.underlying168
 a25:=Tryz.isAgg168
 z25:=Tryz.sizeOf168
 v25:=Tryz.zeroValue168
 t39:=Tryz.underlying199
 a39:=Tryz.isAgg199
 z39:=Tryz.sizeOf199
 v39:=Tryz.zeroValue199
 t45:=Tryz.underlying225
 a45:=Tryz.isAgg225
 z45:=Tryz.sizeOf225
 v45:=Tryz.zeroValue225
 t46:=Tryz.underlying226
 a46:=Tryz.isAgg226
 z46:=Tryz.sizeOf226
 v46:=Tryz.zeroValue226
 t50:=Tryz.underlying145
 a50:=Tryz.isAgg145
 z50:=Tryz.sizeOf145
 v50:=Tryz.zeroValue145
 t53:=Tryz.underlying119
 a53:=Tryz.isAgg119
 z53:=Tryz.sizeOf119
 v53:=Tryz.zeroValue119
 t55:=Tryz.underlying233
 a55:=Tryz.isAgg233
 z55:=Tryz.sizeOf233
 v55:=Tryz.zeroValue233
 t66:=Tryz.underlying244
 a66:=Tryz.isAgg244
 z66:=Tryz.sizeOf244
 v66:=Tryz.zeroValue244
 t70:=Tryz.underlying248
 a70:=Tryz.isAgg248
 z70:=Tryz.sizeOf248
 v70:=Tryz.zeroValue248
 t76:=Tryz.underlying253
 a76:=Tryz.isAgg253
 z76:=Tryz.sizeOf253
 v76:=Tryz.zeroValue253
 t77:=Tryz.underlying252
 a77:=Tryz.isAgg252
 z77:=Tryz.sizeOf252
 v77:=Tryz.zeroValue252 }
end Go.Proofs
namespace Go.Proofs
open Go Go.Ab Go.Sort
theorem CM:SWO (fun x y:Spot=>decide (fL x y<0)) where
 irrefl x:=by
  rw[decide_eq_false_iff_not,fK,be];simp
 trans x y z h1 h2:=by
  rw[decide_eq_true_iff,fK] at *
  exact cb h1 h2
 ntrans x y z h1 h2:=by
  rw[decide_eq_false_iff_not,fK,ap] at *
  omega
theorem xJ (G:Es):aO G:=fun l gn sz nl hz hl =>
 DCall.sortF (P:=Tryz.prog) (G:=G) (f:=88) (g:=42) m6 2 (by decide) (fun _=>rfl) fL CM (fun x y=>by have h:=mY (G:=fun _=>none) x y [];simpa[zW] using h)
  (fun α _ en hk h1 c hO blk cap d w hcmp hH hb hs=>AnyQ.slices_SortFunc Tryz.laysSpot 2 Tryz.isAgg38 Tryz.sizeOf38 en hk h1 c hO 42 #[] blk 0 cap d w (by simp) hcmp hH hb hs)
  (fun a cap w=>AnyF.slices_SortFunc_none Tryz.laysSpot a cap _ w) (.im (.fn (.func 42) []))
  (fun M v hv=>by
   cases hv with
   | im _ _ h=>cases h with
     | fn _ _ vs h1 _ =>
       have:vs=#[]:=Array.eq_empty_of_size_eq_zero (by simpa using h1.symm)
       rw[this]) l gn sz nl hz hl
theorem CN:SWO (fun x y:uw=>decide (aD x.1 y.1<0)) where
 irrefl x:=by
  rw[decide_eq_false_iff_not,K0];omega
 trans x y z h1 h2:=by
  rw[decide_eq_true_iff,K0] at *
  omega
 ntrans x y z h1 h2:=by
  rw[decide_eq_false_iff_not,K0] at *
  omega
theorem xI (G:Es):Z0 G:=fun l gn sz nl hz hl =>
 DCall.sortF (P:=Tryz.prog) (G:=G) (f:=97) (g:=98) yx 5 (by decide) (fun _=>rfl) (fun a b=>aD a.1 b.1) CN (fun x y=>by have h:=AY (G:=fun _=>none) x.1 y.1 x.2 y.2;exact h)
  (fun α _ en hk h1 c hO blk cap d w hcmp hH hb hs=>AnyQ.slices_SortFunc Tryz.laysIss 5 Tryz.isAgg47 Tryz.sizeOf47 en hk h1 c hO 98 #[] blk 0 cap d w (by simp) hcmp hH hb hs)
  (fun a cap w=>AnyF.slices_SortFunc_none Tryz.laysIss a cap _ w) (.im (.fn (.func 98) []))
  (fun M v hv=>by
   cases hv with
   | im _ _ h=>cases h with
     | fn _ _ vs h1 _ =>
       have:vs=#[]:=Array.eq_empty_of_size_eq_zero (by simpa using h1.symm)
       rw[this]) l gn sz nl hz hl
end Go.Proofs
