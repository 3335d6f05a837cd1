/- Part 27 of the proofs. -/
import Derived.Test.YtpcoahkgkgmmlaaGreatDoorC04
import Derived.Test.YtpcoahkgkgmmlaaGreatDoorC07
set_option linter.all false
set_option linter.deprecated false
set_option maxHeartbeats 100000000
namespace Go.Proofs
open Go Go.Ab Go.Sort Tryz
theorem CO:SWO (fun x y:pz=>decide (aD x.1.1 y.1.1<0)) where
 irrefl x:=by
  rw[decide_eq_false_iff_not,K0];omega
 trans x y z h1 h2:=by
  rw[decide_eq_true_iff,K0] at *
  omega
 ntrans x y z h1 h2:=by
  rw[decide_eq_false_iff_not,K0] at *
  omega
theorem xL (G:Es):aP G:=fun l o gn sz nl objs ho hz hl =>
 DCall.sortD (P:=prog) (G:=G) (f:=97) (g:=98) yy 5 (by decide) (fun _=>rfl) (fun a b=>aD a.1.1 b.1.1) CO (fun x y=>AZ (G:=fun _=>none) x.1.1 y.1.1 _ _ _ _ x.2 y.2)
  (fun α _ en hk h1 c hO blk cap d w hcmp hH hb hs=>AnyQ.slices_SortFunc Tryz.laysIss 5 Tryz.isAgg47 Tryz.sizeOf47 en hk h1 c hO 98 #[] blk 0 cap d w (by simp) hcmp hH hb hs)
  (fun a cap w=>AnyF.slices_SortFunc_none Tryz.laysIss a cap _ w) (.im (.fn (.func 98) []))
  (fun M v hv=>by
   cases hv with
   | im _ _ h=>cases h with
     | fn _ _ vs h1 _ =>
       have:vs=#[]:=Array.eq_empty_of_size_eq_zero (by simpa using h1.symm)
       rw[this]) l o gn sz nl objs ho hz hl
end Go.Proofs
