/- Part 16 of the proofs: laws and walks that hold without conditions beyond those that each theorem names. -/
import Derived.Test.YtmkbmkonpglgdaaGreatDoorP10
import Derived.Test.YtmkbmkonpglgdaaGreatDoorP15
set_option linter.all false
set_option linter.deprecated false
namespace Go.Proofs
open Go Go.Ab
attribute [local simp] dslice setLp
set_option linter.unusedSimpArgs false
variable {G:Nat→Option (List IC)}
theorem in1_note (x lo hi:Int):DCall Tryz.prog G 197 (iv x :: [DC.ptr 0 0,DC.ptr 1 0].map .one) [.row [.im (rI lo)],.row [.im (rI hi)]] (fun d o=>d=bv (decide (x < lo) || decide (hi < x))∧o=[.row [.im (rI lo)],.row [.im (rI hi)]]):=by
 refine DCall_intro Tryz.func197 rfl Tryz.ntmps197 (by simp) rfl ?_
 simp only [rI]
 have hs:True:=trivial
 repeat' first|(with_reducible first|refine q01 ?_|refine q11 ?_|refine q17 ?_)|(with_reducible refine At.fn_ret (by simp -dsimp [hs];exact rfl) ?_)|(with_reducible refine DT_regionE [0,1,2,4] ?_;simp -dsimp [hs])|(with_reducible refine GStop_split ?_ ?_<;>intro h<;>have h0:=h<;>(try simp only [nrm] at h)<;>(try exact Bool.noConfusion h)<;>have h2:=h<;>(try simp at h2)<;>(replace hs:=And.intro h0 (And.intro h (And.intro h2 hs)))<;>simp -dsimp [h0,h,h2,hs])|with_reducible refine And.intro ?_ ?_
 all_goals try simp -dsimp [hs]
 all_goals try clear hs
 all_goals simp [*]
theorem in_note (lo hi:Int) (l:List Int) (hl:l.length < 1000000) (objs:List DObj):DCall Tryz.prog G 185 [iv lo,iv hi,isv l] objs (fun rr objs'=>rr=bv (l.all fun x=>decide (lo≤x) && decide (x≤hi))∧objs'=objs):=by
 refine DCall.frame ?_ (by simp) (by simp) objs
 refine DCall_intro Tryz.func185 rfl Tryz.ntmps185 (by simp) rfl ?_
 try simp only [iv,iv,isv]
 have hc:=containsFunc_int (G:=G) l (fun x=>decide (x < lo) || decide (hi < x)) 197 [.ptr 0 0,.ptr 1 0] [.row [.im (rI lo)],.row [.im (rI hi)]] (by simp) (fun x _=>in1_note x lo hi) hl
 simp only [rI] at hc
 have hs:True:=trivial
 repeat' first|(with_reducible first|refine q01 ?_|refine q11 ?_|refine q17 ?_)|(with_reducible refine At.fn_ret (by simp -dsimp [hs];exact rfl) ?_)|(refine CallE.here hc ?_;try simp -dsimp [hs])|(with_reducible refine DT_regionE [0,1,2,3,4,6] ?_;simp -dsimp [hs])
 all_goals try simp -dsimp [hs]
 all_goals try clear hs
 rw [Bool.eq_iff_iff];simp
 exact exists_congr fun x=>and_congr_right fun _=>by omega
theorem in1_sheet (x lo hi:Int):DCall Tryz.prog G 110 (iv x :: [DC.ptr 0 0,DC.ptr 1 0].map .one) [.row [.im (rI lo)],.row [.im (rI hi)]] (fun d o=>d=bv (decide (x < lo) || decide (hi < x))∧o=[.row [.im (rI lo)],.row [.im (rI hi)]]):=by
 refine DCall_intro Tryz.func110 rfl Tryz.ntmps110 (by simp) rfl ?_
 simp only [rI]
 have hs:True:=trivial
 repeat' first|(with_reducible first|refine q01 ?_|refine q11 ?_|refine q17 ?_)|(with_reducible refine At.fn_ret (by simp -dsimp [hs];exact rfl) ?_)|(with_reducible refine DT_regionE [0,1,2,4] ?_;simp -dsimp [hs])|(with_reducible refine GStop_split ?_ ?_<;>intro h<;>have h0:=h<;>(try simp only [nrm] at h)<;>(try exact Bool.noConfusion h)<;>have h2:=h<;>(try simp at h2)<;>(replace hs:=And.intro h0 (And.intro h (And.intro h2 hs)))<;>simp -dsimp [h0,h,h2,hs])|with_reducible refine And.intro ?_ ?_
 all_goals try simp -dsimp [hs]
 all_goals try clear hs
 all_goals simp [*]
theorem in_sheet (lo hi:Int) (l:List Int) (hl:l.length < 1000000) (objs:List DObj):DCall Tryz.prog G 80 [iv lo,iv hi,isv l] objs (fun rr objs'=>rr=bv (l.all fun x=>decide (lo≤x) && decide (x≤hi))∧objs'=objs):=by
 refine DCall.frame ?_ (by simp) (by simp) objs
 refine DCall_intro Tryz.func80 rfl Tryz.ntmps80 (by simp) rfl ?_
 try simp only [iv,iv,isv]
 have hc:=containsFunc_int (G:=G) l (fun x=>decide (x < lo) || decide (hi < x)) 110 [.ptr 0 0,.ptr 1 0] [.row [.im (rI lo)],.row [.im (rI hi)]] (by simp) (fun x _=>in1_sheet x lo hi) hl
 simp only [rI] at hc
 have hs:True:=trivial
 repeat' first|(with_reducible first|refine q01 ?_|refine q11 ?_|refine q17 ?_)|(with_reducible refine At.fn_ret (by simp -dsimp [hs];exact rfl) ?_)|(refine CallE.here hc ?_;try simp -dsimp [hs])|(with_reducible refine DT_regionE [0,1,2,3,4,6] ?_;simp -dsimp [hs])
 all_goals try simp -dsimp [hs]
 all_goals try clear hs
 rw [Bool.eq_iff_iff];simp
 exact exists_congr fun x=>and_congr_right fun _=>by omega
theorem in1_size (x lo hi:Int):DCall Tryz.prog G 175 (iv x :: [DC.ptr 0 0,DC.ptr 1 0].map .one) [.row [.im (rI lo)],.row [.im (rI hi)]] (fun d o=>d=bv (decide (x < lo) || decide (hi < x))∧o=[.row [.im (rI lo)],.row [.im (rI hi)]]):=by
 refine DCall_intro Tryz.func175 rfl Tryz.ntmps175 (by simp) rfl ?_
 simp only [rI]
 have hs:True:=trivial
 repeat' first|(with_reducible first|refine q01 ?_|refine q11 ?_|refine q17 ?_)|(with_reducible refine At.fn_ret (by simp -dsimp [hs];exact rfl) ?_)|(with_reducible refine DT_regionE [0,1,2,4] ?_;simp -dsimp [hs])|(with_reducible refine GStop_split ?_ ?_<;>intro h<;>have h0:=h<;>(try simp only [nrm] at h)<;>(try exact Bool.noConfusion h)<;>have h2:=h<;>(try simp at h2)<;>(replace hs:=And.intro h0 (And.intro h (And.intro h2 hs)))<;>simp -dsimp [h0,h,h2,hs])|with_reducible refine And.intro ?_ ?_
 all_goals try simp -dsimp [hs]
 all_goals try clear hs
 all_goals simp [*]
theorem in_size (lo hi:Int) (l:List Int) (hl:l.length < 1000000) (objs:List DObj):DCall Tryz.prog G 174 [iv lo,iv hi,isv l] objs (fun rr objs'=>rr=bv (l.all fun x=>decide (lo≤x) && decide (x≤hi))∧objs'=objs):=by
 refine DCall.frame ?_ (by simp) (by simp) objs
 refine DCall_intro Tryz.func174 rfl Tryz.ntmps174 (by simp) rfl ?_
 try simp only [iv,iv,isv]
 have hc:=containsFunc_int (G:=G) l (fun x=>decide (x < lo) || decide (hi < x)) 175 [.ptr 0 0,.ptr 1 0] [.row [.im (rI lo)],.row [.im (rI hi)]] (by simp) (fun x _=>in1_size x lo hi) hl
 simp only [rI] at hc
 have hs:True:=trivial
 repeat' first|(with_reducible first|refine q01 ?_|refine q11 ?_|refine q17 ?_)|(with_reducible refine At.fn_ret (by simp -dsimp [hs];exact rfl) ?_)|(refine CallE.here hc ?_;try simp -dsimp [hs])|(with_reducible refine DT_regionE [0,1,2,3,4,6] ?_;simp -dsimp [hs])
 all_goals try simp -dsimp [hs]
 all_goals try clear hs
 rw [Bool.eq_iff_iff];simp
 exact exists_congr fun x=>and_congr_right fun _=>by omega
def dimOk (d:Dim):Bool:=decide (0≤d.nominal) && decide (d.nominal≤1000000000) && (decide (0≤d.lower) && decide (d.lower≤1000000000)) && (decide (0≤d.upper) && decide (d.upper≤1000000000)) && decide (d.lower≤d.upper)
theorem sizeCheck_c (d:Dim) (objs:List DObj):DCall Tryz.prog G 172 [dimv d] objs (fun rr objs'=>rr=iv (if dimOk d then 0 else 10)∧objs'=objs):=by
 refine DCall.frame ?_ (by simp) (by simp) objs
 refine DCall_intro Tryz.func172 rfl Tryz.ntmps172 (by simp) rfl ?_
 try simp only [dimv]
 have hc:=in_size (G:=G) 0 1000000000 [d.nominal,d.lower,d.upper] (by simp)
 have hs:True:=trivial
 repeat' first|(with_reducible first|refine q01 ?_|refine q02 ?_|refine q11 ?_|refine q14 ?_|refine q17 ?_)|(with_reducible refine At.fn_ret (by simp -dsimp [hs];exact rfl) ?_)|(refine CallE.thaw (hc) ?_ ?_ ?_;(focus (simp;done));(focus (simp;done));try simp -dsimp [hs])|(with_reducible refine DT_regionE [0,1,2,18] ?_;simp -dsimp [hs])|(refine DT_cond rfl (fun h=>?_) (fun h=>?_)<;>(try simp only [nrm] at h)<;>(try exact Bool.noConfusion h))|(with_reducible refine GStop_split ?_ ?_<;>intro h<;>have h0:=h<;>(try simp only [nrm] at h)<;>(try exact Bool.noConfusion h)<;>have h2:=h<;>(try simp at h2)<;>(replace hs:=And.intro h0 (And.intro h (And.intro h2 hs)))<;>simp -dsimp [h0,h,h2,hs])
 all_goals try simp -dsimp [hs]
 all_goals try clear hs
 all_goals simp_all [dimOk]
 all_goals omega
def refI (x:Issue):DV:=refv x.drawing x.letter
attribute [simp] refI
theorem sheetName_c (x:Issue) (objs:List DObj):DCall Tryz.prog G 84 [issv x] objs (fun rr objs'=>rr=refI x∧objs'=objs):=by
 refine DCall.frame ?_ (by simp) (by simp) objs
 refine DCall_intro Tryz.func84 rfl Tryz.ntmps84 (by simp) rfl ?_
 try simp only [issv]
 have hs:True:=trivial
 repeat' first|(with_reducible first|refine q01 ?_|refine q11 ?_|refine q17 ?_)|(with_reducible refine At.fn_ret (by simp -dsimp [hs];exact rfl) ?_)|(with_reducible refine DT_regionE [0,1,2] ?_;simp -dsimp [hs])
 all_goals try simp -dsimp [hs]
 all_goals try clear hs
theorem copied_c (x:Issue) (hi:x.items.length≤16) (hd:x.dims.length≤8) (objs:List DObj):DCall Tryz.prog G 51 [issv x] objs (fun rr objs'=>rr=issv x∧objs'=objs):=by
 refine DCall.frame ?_ (by simp) (by simp) objs
 refine DCall_intro Tryz.func51 rfl Tryz.ntmps51 (by simp) rfl ?_
 try simp only [issv]
 have h1:=clone_itm (G:=G) x.items (by omega)
 have h2:=clone_dim (G:=G) x.dims (by omega)
 have hs:True:=trivial
 repeat' first|(with_reducible first|refine q01 ?_|refine q11 ?_|refine q17 ?_)|(with_reducible refine At.fn_ret (by simp -dsimp [hs];exact rfl) ?_)|(refine QCall_pure (h1) ?_;try simp -dsimp [hs])|(refine QCall_pure (h2) ?_;try simp -dsimp [hs])|(refine DT_regionM (id:=1) (nt:=12) 7 [0,1,2] mixed rfl (by kernel_rfl) ?_;simp -dsimp [hs])|(with_reducible refine DT_regionE [0,1,2] ?_;simp -dsimp [hs])
 all_goals try simp -dsimp [hs]
 all_goals try clear hs
def ck1 (x:Issue):Bool:=(decide (1≤x.drawing) && decide (x.drawing≤9999)) && (decide (1≤x.letter) && decide (x.letter≤8))
theorem ck1_c (x:Issue) (objs:List DObj):DCall Tryz.prog G 166 [issv x] objs (fun rr objs'=>rr=bv (ck1 x)∧objs'=objs):=by
 refine DCall.frame ?_ (by simp) (by simp) objs
 refine DCall_intro Tryz.func166 rfl Tryz.ntmps166 (by simp) rfl ?_
 try simp only [issv]
 have c1:=in_sheet (G:=G) 1 9999 [x.drawing] (by simp)
 have c2:=in_sheet (G:=G) 1 8 [x.letter] (by simp)
 have hs:True:=trivial
 repeat' first|(with_reducible first|refine q01 ?_|refine q11 ?_|refine q17 ?_)|(with_reducible refine At.fn_ret (by simp -dsimp [hs];exact rfl) ?_)|(refine CallE.thaw (c1) ?_ ?_ ?_;(focus (simp;done));(focus (simp;done));try simp -dsimp [hs])|(refine CallE.thaw (c2) ?_ ?_ ?_;(focus (simp;done));(focus (simp;done));try simp -dsimp [hs])|(with_reducible refine DT_regionE [0,1,2] ?_;simp -dsimp [hs])|(with_reducible refine GStop_split ?_ ?_<;>intro h<;>have h0:=h<;>(try simp only [nrm] at h)<;>(try exact Bool.noConfusion h)<;>have h2:=h<;>(try simp at h2)<;>(replace hs:=And.intro h0 (And.intro h (And.intro h2 hs)))<;>simp -dsimp [h0,h,h2,hs])
 all_goals try simp -dsimp [hs]
 all_goals try clear hs
 all_goals simp_all [ck1]
 all_goals omega
def ck2 (x:Issue):Bool:=if x.kind=1 then (decide (1≤x.items.length) && decide (x.items.length≤8)) && decide (x.dims.length=0) else (decide (2≤x.kind) && decide (x.kind≤3)) && decide (x.dims.length≤4) && decide (x.items.length=0)
theorem ck2_c (x:Issue) (hk:0≤x.kind∧x.kind≤255) (objs:List DObj):DCall Tryz.prog G 167 [issv x] objs (fun rr objs'=>rr=bv (ck2 x)∧objs'=objs):=by
 refine DCall.frame ?_ (by simp) (by simp) objs
 refine DCall_intro Tryz.func167 rfl Tryz.ntmps167 (by simp) rfl ?_
 try simp only [issv]
 have c1:=in_sheet (G:=G) 1 8 [(x.items.length:Int)] (by simp)
 have c2:=in_sheet (G:=G) 2 3 [x.kind] (by simp)
 have hw:IntKind.i64.wrap x.kind=x.kind:=i64w (by omega) (by omega)
 have hs:True:=trivial
 repeat' first|(with_reducible first|refine q01 ?_|refine q02 ?_|refine q11 ?_|refine q14 ?_|refine q17 ?_)|(with_reducible refine At.fn_ret (by simp -dsimp [hw,hs];exact rfl) ?_)|(refine CallE.thaw (c1) ?_ ?_ ?_;(focus (simp;done));(focus (simp;done));try simp -dsimp [hw,hs])|(refine CallE.thaw (c2) ?_ ?_ ?_;(focus (simp;done));(focus (simp;done));try simp -dsimp [hw,hs])|(with_reducible refine DT_regionE [0,1,2,5] ?_;simp -dsimp [hw,hs])|(refine DT_cond rfl (fun h=>?_) (fun h=>?_)<;>(try simp only [nrm] at h)<;>(try exact Bool.noConfusion h))|(with_reducible refine GStop_split ?_ ?_<;>intro h<;>have h0:=h<;>(try simp only [nrm] at h)<;>(try exact Bool.noConfusion h)<;>have h2:=h<;>(try simp at h2)<;>(replace hs:=And.intro h0 (And.intro h (And.intro h2 hs)))<;>simp -dsimp [h0,h,h2,hw,hs])
 all_goals try simp -dsimp [hw,hs]
 all_goals try clear hs
 all_goals simp_all [ck2]
 all_goals omega
theorem ck41_c (d:Dim) (objs:List DObj):DCall Tryz.prog G 171 [dimv d] objs (fun rr objs'=>rr=bv (!dimOk d)∧objs'=objs):=by
 refine DCall.frame ?_ (by simp) (by simp) objs
 refine DCall_intro Tryz.func171 rfl Tryz.ntmps171 (by simp) rfl ?_
 try simp only [dimv]
 have h1:=sizeCheck_c (G:=G) d
 cases hd:dimOk d<;>simp only [hd] at h1
 ·have hs:True:=trivial
  repeat' first|(with_reducible first|refine q01 ?_|refine q11 ?_|refine q17 ?_)|(with_reducible refine At.fn_ret (by simp -dsimp [hs];exact rfl) ?_)|(refine CallE.pure (h1) ?_;try simp -dsimp [hs])|(with_reducible refine DT_regionE [0,1,2] ?_;simp -dsimp [hs])
  all_goals try simp -dsimp [hs]
  all_goals try clear hs
 ·have hs:True:=trivial
  repeat' first|(with_reducible first|refine q01 ?_|refine q11 ?_|refine q17 ?_)|(with_reducible refine At.fn_ret (by simp -dsimp [hs];exact rfl) ?_)|(refine CallE.pure (h1) ?_;try simp -dsimp [hs])|(with_reducible refine DT_regionE [0,1,2] ?_;simp -dsimp [hs])
  all_goals try simp -dsimp [hs]
  all_goals try clear hs
theorem ck4_c (x:Issue) (hl:x.dims.length < 1000000) (objs:List DObj):DCall Tryz.prog G 169 [issv x] objs (fun rr objs'=>rr=bv (x.dims.all dimOk)∧objs'=objs):=by
 refine DCall.frame ?_ (by simp) (by simp) objs
 refine DCall_intro Tryz.func169 rfl Tryz.ntmps169 (by simp) rfl ?_
 try simp only [issv]
 have c1:=fun objs=>DCall.fnArg2 (cs:=[]) (containsFunc_dim (G:=G) x.dims (fun d=>!dimOk d) 171 [] objs (by simp) (fun d _=>ck41_c d objs) hl)
 have hs:True:=trivial
 repeat' first|(with_reducible first|refine q01 ?_|refine q11 ?_|refine q17 ?_)|(with_reducible refine At.fn_ret (by simp -dsimp [hs];exact rfl) ?_)|(refine CallE.pure (c1) ?_;try simp -dsimp [hs])|(with_reducible refine DT_regionE [0,1,2] ?_;simp -dsimp [hs])
 all_goals try simp -dsimp [hs]
 all_goals try clear hs
 rw [Bool.eq_iff_iff];simp
end Go.Proofs
namespace Go.Proofs
open Go Go.Ab
attribute [local simp] dslice setLp
set_option linter.unusedSimpArgs false
variable {G:Nat→Option (List IC)}
theorem isNaN1_c (x:Int) (objs:List DObj):DCall Tryz.prog G 124 [iv x] objs (fun rr objs'=>rr=bv false∧objs'=objs):=by
 refine DCall.frame ?_ (by simp) (by simp) objs
 refine DCall_intro Tryz.func124 rfl Tryz.ntmps124 (by simp) rfl ?_
 try simp only [iv]
 have hs:True:=trivial
 repeat' first|(with_reducible first|refine q01 ?_|refine q11 ?_|refine q17 ?_)|(with_reducible refine At.fn_ret (by simp -dsimp [hs];exact rfl) ?_)|(with_reducible refine DT_regionE [0,2] ?_;simp -dsimp [hs])
 all_goals try simp -dsimp [hs]
 all_goals try clear hs
theorem isNaN2_c (x:Int) (objs:List DObj):DCall Tryz.prog G 123 [iv x] objs (fun rr objs'=>rr=bv false∧objs'=objs):=by
 refine DCall.frame ?_ (by simp) (by simp) objs
 refine DCall_intro Tryz.func123 rfl Tryz.ntmps123 (by simp) rfl ?_
 try simp only [iv]
 have hs:True:=trivial
 repeat' first|(with_reducible first|refine q01 ?_|refine q11 ?_|refine q17 ?_)|(with_reducible refine At.fn_ret (by simp -dsimp [hs];exact rfl) ?_)|(with_reducible refine DT_regionE [0,2] ?_;simp -dsimp [hs])
 all_goals try simp -dsimp [hs]
 all_goals try clear hs
theorem less_c (x y:Int) (objs:List DObj):DCall Tryz.prog G 122 [iv x,iv y] objs (fun rr objs'=>rr=bv (decide (x < y))∧objs'=objs):=by
 refine DCall.frame ?_ (by simp) (by simp) objs
 refine DCall_intro Tryz.func122 rfl Tryz.ntmps122 (by simp) rfl ?_
 try simp only [iv,iv]
 have c1:=isNaN1_c (G:=G) x
 have c2:=isNaN1_c (G:=G) y
 have hs:True:=trivial
 repeat' first|(with_reducible first|refine q01 ?_|refine q11 ?_|refine q17 ?_)|(with_reducible refine At.fn_ret (by simp -dsimp [hs];exact rfl) ?_)|(refine CallE.pure (c1) ?_;try simp -dsimp [hs])|(with_reducible refine DT_regionE [0,1,4] ?_;simp -dsimp [hs])
 all_goals try simp -dsimp [hs]
 all_goals try clear hs
 all_goals simp_all
def cmpI (x y:Int):Int:=if x < y then -1 else if y < x then 1 else 0
theorem compare_c (x y:Int) (objs:List DObj):DCall Tryz.prog G 109 [iv x,iv y] objs (fun rr objs'=>rr=iv (cmpI x y)∧objs'=objs):=by
 refine DCall.frame ?_ (by simp) (by simp) objs
 refine DCall_intro Tryz.func109 rfl Tryz.ntmps109 (by simp) rfl ?_
 try simp only [iv,iv]
 have c1:=isNaN1_c (G:=G) x
 have c2:=isNaN1_c (G:=G) y
 have hs:True:=trivial
 repeat' first|(with_reducible first|refine q01 ?_|refine q02 ?_|refine q11 ?_|refine q14 ?_|refine q17 ?_)|(with_reducible refine At.fn_ret (by simp -dsimp [hs];exact rfl) ?_)|(refine CallE.pure (c1) ?_;try simp -dsimp [hs])|(refine CallE.pure (c2) ?_;try simp -dsimp [hs])|(with_reducible refine DT_regionE [0,1,4,5,6,11,12,13,16,19] ?_;simp -dsimp [hs])|(refine DT_cond rfl (fun h=>?_) (fun h=>?_)<;>(try simp only [nrm] at h)<;>(try exact Bool.noConfusion h))
 all_goals try simp -dsimp [hs]
 all_goals try clear hs
 all_goals simp_all [cmpI]
 all_goals omega
theorem cmpIssue_c (x:Issue) (n:Int) (objs:List DObj):DCall Tryz.prog G 108 [issv x,iv n] objs (fun rr objs'=>rr=iv (cmpI x.drawing n)∧objs'=objs):=by
 refine DCall.frame ?_ (by simp) (by simp) objs
 refine DCall_intro Tryz.func108 rfl Tryz.ntmps108 (by simp) rfl ?_
 try simp only [issv,iv]
 have c1:=compare_c (G:=G) x.drawing n
 have hs:True:=trivial
 repeat' first|(with_reducible first|refine q01 ?_|refine q11 ?_|refine q17 ?_)|(with_reducible refine At.fn_ret (by simp -dsimp [hs];exact rfl) ?_)|(refine CallE.pure (c1) ?_;try simp -dsimp [hs])|(with_reducible refine DT_regionE [0,1,2,4] ?_;simp -dsimp [hs])
 all_goals try simp -dsimp [hs]
 all_goals try clear hs
end Go.Proofs
namespace Go.Proofs
open Go Go.Ab
attribute [local simp] dslice setLp
set_option linter.unusedSimpArgs false
variable {G:Nat→Option (List IC)}
def itemsOk (d:Int):Int→List Itm→Bool
 | _,[]=>true
 | prev,y :: r=>(decide (1≤y.drawing) && decide (y.drawing≤9999)) && (decide (1≤y.count) && decide (y.count≤20)) && !decide (y.drawing=d) && decide (prev < y.drawing) && itemsOk d y.drawing r
def pv (l:List Itm):Nat→Int
 | 0=>0
 | k + 1=>((l[k]?).map (·.drawing)).getD 0
theorem ck3_c (x:Issue) (hl:x.items.length < 1000000) (objs:List DObj):DCall Tryz.prog G 168 [issv x] objs (fun rr objs'=>rr=bv (itemsOk x.drawing 0 x.items)∧objs'=objs):=by
 refine DCall.frame ?_ (by simp) (by simp) objs
 refine DCall_intro Tryz.func168 rfl Tryz.ntmps168 (by simp) rfl ?_
 try simp only [issv]
 have hs:True:=trivial
 repeat' first|(with_reducible first|refine q01 ?_|refine q11 ?_|refine q12 ?_)|(with_reducible refine DT_regionE [0,1,2,3,4,6,7,8,9,47] ?_;simp -dsimp [hs])
 all_goals try simp -dsimp [hs]
 all_goals try clear hs
 refine DT_loop (ι:={ k:Nat // k≤x.items.length∧itemsOk x.drawing 0 x.items=itemsOk x.drawing (pv x.items k) (x.items.drop k) }) (fun p=>⟨49,[(1,.one (.ptr 0 0)),(6,.one (.im (.sl (x.items.map encItem)))),(7,iv (x.items.length:Int)),(8,iv (p.1:Int))],[.row ((encIssue x).map .im)]⟩) (fun p=>x.items.length - p.1) ⟨0,by simp [pv]⟩ (Weak.of_keep [1,6,7,8] (by simp)) ?_
 rintro ⟨k,hk,hno⟩
 simp only [iv,encIssue,rI,List.map_cons,List.map_nil]
 by_cases hlt:k < x.items.length
 ·have hx:x.items[k]?=some x.items[k]:=by simp [hlt]
  have hw:IntKind.i64.wrap ((k:Int) + 1)=((k + 1:Nat):Int):=i64w (by omega) (by omega)
  have hw2:IntKind.i64.wrap ((k:Int) - 1)=(k:Int) - 1:=i64w (by omega) (by omega)
  have c1:=in_sheet (G:=G) 1 9999 [x.items[k].drawing] (by simp)
  have c2:=in_sheet (G:=G) 1 20 [x.items[k].count] (by simp)
  have hcons:itemsOk x.drawing 0 x.items=((decide (1≤x.items[k].drawing) && decide (x.items[k].drawing≤9999)) && (decide (1≤x.items[k].count) && decide (x.items[k].count≤20)) && !decide (x.items[k].drawing=x.drawing) && decide (pv x.items k < x.items[k].drawing) && itemsOk x.drawing x.items[k].drawing (x.items.drop (k + 1))):=by
   rw [hno,List.drop_eq_getElem_cons hlt,itemsOk]
  have hpv1:pv x.items (k + 1)=x.items[k].drawing:=by simp [pv,hx]
  by_cases hk0:0 < k
  ·have hkx:x.items[k - 1]?=some x.items[k - 1]:=by simp
   have hcast:(k:Int) - 1=((k - 1:Nat):Int):=by omega
   have hw3:IntKind.i64.wrap ((k:Int) - 1)=((k - 1:Nat):Int):=by rw [hw2,hcast]
   have hpv0:pv x.items k=x.items[k - 1].drawing:=by
    obtain ⟨j,rfl⟩:∃ j,k=j + 1:=⟨k - 1,by omega⟩
    have:x.items[j]?=some x.items[j]:=by simp
    simp [pv,this]
   rw [hpv0] at hcons
   have hs:True:=trivial
   repeat' first|(with_reducible first|refine q01 ?_|refine q02 ?_|refine q03 ?_|refine q04 ?_|refine q05 ?_|refine q06 ?_|refine q11 ?_|refine q12 ?_|refine q14 ?_|refine q16 ?_|refine q17 ?_)|(with_reducible refine At.fn_ret (by simp -dsimp [hx,hw,hw3,hkx,hk0,hs];exact rfl) ?_)|(refine QCall_pure (c1) ?_;try simp -dsimp [hx,hw,hw3,hkx,hk0,hs])|(refine QCall_pure (c2) ?_;try simp -dsimp [hx,hw,hw3,hkx,hk0,hs])|(refine DT_regionM (id:=4) (nt:=49) 35 [0,1,2,3,4,6,7,8,9,47] mixed rfl (by kernel_rfl) ?_;simp -dsimp [hx,hw,hw3,hkx,hk0,hs])|(with_reducible refine DT_regionE [0,1,2,3,4,6,7,8,9,47] ?_;simp -dsimp [hx,hw,hw3,hkx,hk0,hs])|(refine DT_cond rfl (fun h=>?_) (fun h=>?_)<;>(try simp only [nrm] at h)<;>(try exact Bool.noConfusion h))|(with_reducible refine GStop_split ?_ ?_<;>intro h<;>have h0:=h<;>(try simp only [nrm] at h)<;>(try exact Bool.noConfusion h)<;>have h2:=h<;>(try simp at h2)<;>(replace hs:=And.intro h0 (And.intro h (And.intro h2 hs)))<;>simp -dsimp [h0,h,h2,hx,hw,hw3,hkx,hk0,hs])
   all_goals try simp -dsimp [hx,hw,hw3,hkx,hk0,hs]
   all_goals try clear hs
   all_goals try omega
   all_goals first
    | (refine At.round ⟨k + 1,by omega,by clear hno;rw [hcons,hpv1];clear hcons;simp_all;try omega⟩ (by simp;omega) (Weak.of_drop [1,6,7,8] 1 (by simp) (by simp) (by simp)))
    | (clear hno;rw [hcons];clear hcons;simp_all;try omega)
  ·have hpv0:pv x.items k=0:=by
    obtain rfl:k=0:=by omega
    rfl
   rw [hpv0] at hcons
   have hs:True:=trivial
   repeat' first|(with_reducible first|refine q01 ?_|refine q02 ?_|refine q03 ?_|refine q04 ?_|refine q05 ?_|refine q06 ?_|refine q11 ?_|refine q12 ?_|refine q14 ?_|refine q16 ?_|refine q17 ?_)|(with_reducible refine At.fn_ret (by simp -dsimp [hx,hw,hk0,hs];exact rfl) ?_)|(refine QCall_pure (c1) ?_;try simp -dsimp [hx,hw,hk0,hs])|(refine QCall_pure (c2) ?_;try simp -dsimp [hx,hw,hk0,hs])|(refine DT_regionM (id:=4) (nt:=49) 35 [0,1,2,3,4,6,7,8,9,47] mixed rfl (by kernel_rfl) ?_;simp -dsimp [hx,hw,hk0,hs])|(with_reducible refine DT_regionE [0,1,2,3,4,6,7,8,9,47] ?_;simp -dsimp [hx,hw,hk0,hs])|(refine DT_cond rfl (fun h=>?_) (fun h=>?_)<;>(try simp only [nrm] at h)<;>(try exact Bool.noConfusion h))|(with_reducible refine GStop_split ?_ ?_<;>intro h<;>have h0:=h<;>(try simp only [nrm] at h)<;>(try exact Bool.noConfusion h)<;>have h2:=h<;>(try simp at h2)<;>(replace hs:=And.intro h0 (And.intro h (And.intro h2 hs)))<;>simp -dsimp [h0,h,h2,hx,hw,hk0,hs])
   all_goals try simp -dsimp [hx,hw,hk0,hs]
   all_goals try clear hs
   all_goals try omega
   all_goals first
    | (refine At.round ⟨k + 1,by omega,by clear hno;rw [hcons,hpv1];clear hcons;simp_all;try omega⟩ (by simp;omega) (Weak.of_drop [1,6,7,8] 1 (by simp) (by simp) (by simp)))
    | (clear hno;rw [hcons];clear hcons;simp_all;try omega)
 ·have hs:True:=trivial
  repeat' first|(with_reducible first|refine q01 ?_|refine q03 ?_|refine q06 ?_|refine q11 ?_|refine q12 ?_|refine q14 ?_|refine q16 ?_|refine q17 ?_)|(with_reducible refine At.fn_ret (by simp -dsimp [hs];exact rfl) ?_)|(with_reducible refine DT_regionE [0,1,2,3,4,6,7,8,9,47] ?_;simp -dsimp [hs])|(refine DT_cond rfl (fun h=>?_) (fun h=>?_)<;>(try simp only [nrm] at h)<;>(try exact Bool.noConfusion h))
  all_goals try simp -dsimp [hs]
  all_goals try clear hs
  all_goals try omega
  rw [hno,List.drop_eq_nil_of_le (by omega)];rfl
end Go.Proofs
namespace Go.Proofs
open Go Go.Ab
attribute [local simp] dslice setLp
set_option linter.unusedSimpArgs false
variable {G:Nat→Option (List IC)}
def lb (l:List Int) (x:Int):Nat:=(l.filter fun y=>decide (y < x)).length
theorem lb_le (l:List Int) (x:Int):lb l x≤l.length:=List.length_filter_le _ _
theorem lb_spec:∀ {l:List Int} {x:Int},l.Pairwise (·≤·)→∀ (i:Nat) (y:Int),l[i]?=some y→(y < x↔i < lb l x)
 | [],x,_,i,y,h=>by simp at h
 | a :: l,x,hs,i,y,h=>by
   simp only [List.pairwise_cons] at hs
   by_cases ha:a < x
   ·have e:lb (a :: l) x=lb l x + 1:=by simp [lb,ha]
    rw [e]
    cases i with
    | zero=>simp at h;subst h;simp [ha]
    | succ i =>
      have:=lb_spec (x:=x) hs.2 i y (by simpa using h)
      omega
   ·have hall:∀ z∈l,¬ z < x:=fun z hz=>by have:=hs.1 z hz;omega
    have e:lb (a :: l) x=0:=by
     have hf:l.filter (fun y=>decide (y < x))=[]:=by
      rw [List.filter_eq_nil_iff];intro z hz;simpa using hall z hz
     simp [lb,ha,hf]
    rw [e]
    cases i with
    | zero=>simp at h;subst h;simp [ha]
    | succ i =>
      have:=hall y (List.mem_of_getElem? (by simpa using h))
      omega
theorem mem_lb {l:List Int} {x:Int} (hs:l.Pairwise (·≤·)):x∈l↔l[lb l x]?=some x:=by
 constructor
 ·intro h
  obtain ⟨i,hi⟩:=List.mem_iff_getElem?.1 h
  have h1:=lb_spec (x:=x) hs i x hi
  have h2:lb l x≤i:=by omega
  have hlt:=lt_of_getElem? hi
  have h3:l[lb l x]?=some l[lb l x]:=by simp
  have h4:=lb_spec (x:=x) hs _ _ h3
  have h5:l[lb l x]≤x:=by
   by_cases e:lb l x=i
   ·have:l[lb l x]?=some x:=by rw [e];exact hi
    rw [h3] at this;simp at this;omega
   ·have:=(List.pairwise_iff_getElem.1 hs) (lb l x) i (by omega) hlt (by omega)
    have h6:=(List.getElem?_eq_some_iff.1 hi).2
    omega
  rw [h3]
  congr 1
  omega
 ·exact fun h=>List.mem_of_getElem? h
theorem pow_u64_1:(2:Int) ^ min 1 IntKind.u64.bits=2:=rfl
attribute [simp] pow_u64_1
theorem u64w {n:Int} (h1:0≤n) (h2:n≤18446744073709551615):IntKind.u64.wrap n=n:=IntWalk.u64_in n ⟨h1,h2⟩
theorem bsearch_c (l:List Int) (x:Int) (hs:l.Pairwise (·≤·)) (hl:l.length < 1000000) (objs:List DObj):DCall Tryz.prog G 105 [isv l,iv x] objs (fun rr objs'=>rr=.tup [iv (lb l x),bv (decide (x∈l))]∧objs'=objs):=by
 refine DCall.frame ?_ (by simp) (by simp) objs
 refine DCall_intro Tryz.func105 rfl Tryz.ntmps105 (by simp) rfl ?_
 try simp only [isv,iv]
 have hlb:=lb_le l x
 have hs:True:=trivial
 repeat' first|(with_reducible first|refine q01 ?_|refine q11 ?_|refine q12 ?_)|(with_reducible refine DT_regionE [0,1,4,5,6,7,8,9,15,27] ?_;simp -dsimp [hs])
 all_goals try simp -dsimp [hs]
 all_goals try clear hs
 refine DT_loop (ι:={ p:Nat×Nat // p.1≤lb l x∧lb l x≤p.2∧p.2≤l.length }) (fun p=>⟨54,[(0,isv l),(1,iv x),(6,iv (l.length:Int)),(7,iv (p.1.1:Int)),(8,iv (p.1.2:Int))],[]⟩) (fun p=>p.1.2 - p.1.1) ⟨(0,l.length),by simp;omega⟩ (Weak.of_keep [0,1,6,7,8] (by simp)) ?_
 rintro ⟨⟨i,j⟩,h1,h2,h3⟩
 simp only at h1 h2 h3
 simp only [iv,isv]
 have hw1:IntKind.i64.wrap ((i:Int) + (j:Int))=(i:Int) + (j:Int):=i64w (by omega) (by omega)
 have hw2:IntKind.u64.wrap ((i:Int) + (j:Int))=(i:Int) + (j:Int):=u64w (by omega) (by omega)
 have hd:((i:Int) + (j:Int)).fdiv 2=(((i + j) / 2:Nat):Int):=by
  rw [Int.fdiv_eq_ediv_of_nonneg _ (by omega)];omega
 have hw3:IntKind.i64.wrap ((((i + j) / 2:Nat):Int))=(((i + j) / 2:Nat):Int):=i64w (by omega) (by omega)
 have hw4:IntKind.i64.wrap ((((i + j) / 2:Nat):Int) + 1)=(((i + j) / 2 + 1:Nat):Int):=i64w (by omega) (by omega)
 by_cases hlt:i < j
 ·generalize hm:(i + j) / 2=m at hd hw3 hw4
  have hx:l[m]?=some l[m]:=by simp
  have hsp:=lb_spec (x:=x) hs m l[m] hx
  have c1:=less_c (G:=G) l[m] x
  by_cases hc:l[m] < x
  ·simp only [hc,decide_true] at c1
   have hs:True:=trivial
   repeat' first|(with_reducible first|refine q01 ?_|refine q03 ?_|refine q04 ?_|refine q06 ?_|refine q11 ?_|refine q12 ?_|refine q14 ?_|refine q16 ?_|refine q17 ?_)|(with_reducible refine At.fn_ret (by simp -dsimp [hx,hw1,hw2,hw3,hw4,hd,hm,hs];exact rfl) ?_)|(refine CallE.pure (c1) ?_;try simp -dsimp [hx,hw1,hw2,hw3,hw4,hd,hm,hs])|(with_reducible refine DT_regionE [0,1,4,5,6,7,8,9,15,27] ?_;simp -dsimp [hx,hw1,hw2,hw3,hw4,hd,hm,hs])|(refine DT_cond rfl (fun h=>?_) (fun h=>?_)<;>(try simp only [nrm] at h)<;>(try exact Bool.noConfusion h))|(with_reducible refine GStop_split ?_ ?_<;>intro h<;>have h0:=h<;>(try simp only [nrm] at h)<;>(try exact Bool.noConfusion h)<;>have h2:=h<;>(try simp at h2)<;>(replace hs:=And.intro h0 (And.intro h (And.intro h2 hs)))<;>simp -dsimp [h0,h,h2,hx,hw1,hw2,hw3,hw4,hd,hm,hs])
   all_goals try simp -dsimp [hx,hw1,hw2,hw3,hw4,hd,hm,hs]
   all_goals try clear hs
   all_goals try omega
   exact At.round ⟨(m + 1,j),by simp;omega⟩ (by simp;omega) (Weak.of_keep [0,1,6,7,8] (by simp))
  ·simp only [hc,decide_false] at c1
   have hs:True:=trivial
   repeat' first|(with_reducible first|refine q01 ?_|refine q03 ?_|refine q04 ?_|refine q06 ?_|refine q11 ?_|refine q12 ?_|refine q14 ?_|refine q16 ?_|refine q17 ?_)|(with_reducible refine At.fn_ret (by simp -dsimp [hx,hw1,hw2,hw3,hw4,hd,hm,hs];exact rfl) ?_)|(refine CallE.pure (c1) ?_;try simp -dsimp [hx,hw1,hw2,hw3,hw4,hd,hm,hs])|(with_reducible refine DT_regionE [0,1,4,5,6,7,8,9,15,27] ?_;simp -dsimp [hx,hw1,hw2,hw3,hw4,hd,hm,hs])|(refine DT_cond rfl (fun h=>?_) (fun h=>?_)<;>(try simp only [nrm] at h)<;>(try exact Bool.noConfusion h))|(with_reducible refine GStop_split ?_ ?_<;>intro h<;>have h0:=h<;>(try simp only [nrm] at h)<;>(try exact Bool.noConfusion h)<;>have h2:=h<;>(try simp at h2)<;>(replace hs:=And.intro h0 (And.intro h (And.intro h2 hs)))<;>simp -dsimp [h0,h,h2,hx,hw1,hw2,hw3,hw4,hd,hm,hs])
   all_goals try simp -dsimp [hx,hw1,hw2,hw3,hw4,hd,hm,hs]
   all_goals try clear hs
   all_goals try omega
   exact At.round ⟨(i,m),by simp;omega⟩ (by simp;omega) (Weak.of_keep [0,1,6,7,8] (by simp))
 ·have hi:i=lb l x:=by omega
  subst hi
  have c2:=isNaN2_c (G:=G) x
  have hmem:=mem_lb (x:=x) hs
  by_cases hn:lb l x < l.length
  ·have hx:l[lb l x]?=some l[lb l x]:=by simp [hn]
   have c1:=isNaN2_c (G:=G) l[lb l x]
   rw [hx] at hmem
   have hs:True:=trivial
   repeat' first|(with_reducible first|refine q01 ?_|refine q03 ?_|refine q06 ?_|refine q11 ?_|refine q16 ?_|refine q17 ?_)|(with_reducible refine At.fn_ret (by simp -dsimp [hx,hlt,hn,hs];exact rfl) ?_)|(refine CallE.pure (c1) ?_;try simp -dsimp [hx,hlt,hn,hs])|(with_reducible refine DT_regionE [0,1,4,5,6,7,8,9,15,27] ?_;simp -dsimp [hx,hlt,hn,hs])|(refine DT_cond rfl (fun h=>?_) (fun h=>?_)<;>(try simp only [nrm] at h)<;>(try exact Bool.noConfusion h))|(with_reducible refine GStop_split ?_ ?_<;>intro h<;>have h0:=h<;>(try simp only [nrm] at h)<;>(try exact Bool.noConfusion h)<;>have h2:=h<;>(try simp at h2)<;>(replace hs:=And.intro h0 (And.intro h (And.intro h2 hs)))<;>simp -dsimp [h0,h,h2,hx,hlt,hn,hs])
   all_goals try simp -dsimp [hx,hlt,hn,hs]
   all_goals try clear hs
   all_goals try omega
   all_goals simp_all
  ·rw [List.getElem?_eq_none (by omega)] at hmem
   have hs:True:=trivial
   repeat' first|(with_reducible first|refine q01 ?_|refine q03 ?_|refine q06 ?_|refine q11 ?_|refine q16 ?_|refine q17 ?_)|(with_reducible refine At.fn_ret (by simp -dsimp [hlt,hn,hs];exact rfl) ?_)|(with_reducible refine DT_regionE [0,1,4,5,6,7,8,9,15,27] ?_;simp -dsimp [hlt,hn,hs])|(refine DT_cond rfl (fun h=>?_) (fun h=>?_)<;>(try simp only [nrm] at h)<;>(try exact Bool.noConfusion h))
   all_goals try simp -dsimp [hlt,hn,hs]
   all_goals try clear hs
   all_goals try omega
   all_goals simp_all
end Go.Proofs
namespace Go.Proofs
open Go Go.Ab
attribute [local simp] dslice setLp
set_option linter.unusedSimpArgs false
variable {G:Nat→Option (List IC)}
theorem bsearchI_c (l:List Issue) (x:Int) (hs:(l.map (·.drawing)).Pairwise (·≤·)) (hl:l.length < 1000000) (objs:List DObj):DCall Tryz.prog G 107 [.one (.im (.sl (l.map encIssue))),iv x,.one (.im (.fn (.func 108) []))] objs (fun rr objs'=>rr=.tup [iv (lb (l.map (·.drawing)) x),bv (decide (x∈l.map (·.drawing)))]∧objs'=objs):=by
 refine DCall.frame ?_ (by simp) (by simp) objs
 refine DCall_intro Tryz.func107 rfl Tryz.ntmps107 (by simp) rfl ?_
 try simp only [iv]
 have hlb:=lb_le (l.map (·.drawing)) x
 simp only [List.length_map] at hlb
 have hs:True:=trivial
 repeat' first|(with_reducible first|refine q01 ?_|refine q11 ?_|refine q12 ?_)|(with_reducible refine DT_regionE [0,1,2,6,7,8,9,10,11,17,31] ?_;simp -dsimp [hs])
 all_goals try simp -dsimp [hs]
 all_goals try clear hs
 refine DT_loop (ι:={ p:Nat×Nat // p.1≤lb (l.map (·.drawing)) x∧lb (l.map (·.drawing)) x≤p.2∧p.2≤l.length }) (fun p=>⟨49,[(0,.one (.im (.sl (l.map encIssue)))),(1,iv x),(2,.one (.im (.fn (.func 108) []))),(8,iv (l.length:Int)),(9,iv (p.1.1:Int)),(10,iv (p.1.2:Int))],[]⟩) (fun p=>p.1.2 - p.1.1) ⟨(0,l.length),by simp;omega⟩ (Weak.of_keep [0,1,2,8,9,10] (by simp)) ?_
 rintro ⟨⟨i,j⟩,h1,h2,h3⟩
 simp only at h1 h2 h3
 simp only [iv,isv]
 have hw1:IntKind.i64.wrap ((i:Int) + (j:Int))=(i:Int) + (j:Int):=i64w (by omega) (by omega)
 have hw2:IntKind.u64.wrap ((i:Int) + (j:Int))=(i:Int) + (j:Int):=u64w (by omega) (by omega)
 have hd:((i:Int) + (j:Int)).fdiv 2=(((i + j) / 2:Nat):Int):=by
  rw [Int.fdiv_eq_ediv_of_nonneg _ (by omega)];omega
 have hw3:IntKind.i64.wrap ((((i + j) / 2:Nat):Int))=(((i + j) / 2:Nat):Int):=i64w (by omega) (by omega)
 have hw4:IntKind.i64.wrap ((((i + j) / 2:Nat):Int) + 1)=(((i + j) / 2 + 1:Nat):Int):=i64w (by omega) (by omega)
 by_cases hlt:i < j
 ·generalize hm:(i + j) / 2=m at hd hw3 hw4
  have hx:l[m]?=some l[m]:=by simp
  have hsp:=lb_spec (x:=x) hs m l[m].drawing (by simp [hx])
  have c1:=cmpIssue_c (G:=G) l[m] x
  by_cases hc:l[m].drawing < x
  ·have hcm:cmpI l[m].drawing x=-1:=by simp [cmpI,hc]
   rw [hcm] at c1
   have hs:True:=trivial
   repeat' first|(with_reducible first|refine q01 ?_|refine q03 ?_|refine q04 ?_|refine q06 ?_|refine q11 ?_|refine q12 ?_|refine q14 ?_|refine q16 ?_|refine q17 ?_)|(with_reducible refine At.fn_ret (by simp -dsimp [hx,hw1,hw2,hw3,hw4,hd,hm,hs];exact rfl) ?_)|(refine CallE.pure (c1) ?_;try simp -dsimp [hx,hw1,hw2,hw3,hw4,hd,hm,hs])|(with_reducible refine DT_regionE [0,1,2,6,7,8,9,10,11,17,31] ?_;simp -dsimp [hx,hw1,hw2,hw3,hw4,hd,hm,hs])|(refine DT_cond rfl (fun h=>?_) (fun h=>?_)<;>(try simp only [nrm] at h)<;>(try exact Bool.noConfusion h))|(with_reducible refine GStop_split ?_ ?_<;>intro h<;>have h0:=h<;>(try simp only [nrm] at h)<;>(try exact Bool.noConfusion h)<;>have h2:=h<;>(try simp at h2)<;>(replace hs:=And.intro h0 (And.intro h (And.intro h2 hs)))<;>simp -dsimp [h0,h,h2,hx,hw1,hw2,hw3,hw4,hd,hm,hs])
   all_goals try simp -dsimp [hx,hw1,hw2,hw3,hw4,hd,hm,hs]
   all_goals try clear hs
   all_goals try omega
   exact At.round ⟨(m + 1,j),by simp;omega⟩ (by simp;omega) (Weak.of_keep [0,1,2,8,9,10] (by simp))
  ·have hcm:¬ cmpI l[m].drawing x < 0:=by simp only [cmpI,hc,if_false];split<;>omega
   generalize cmpI l[m].drawing x=q at c1 hcm
   have hs:True:=trivial
   repeat' first|(with_reducible first|refine q01 ?_|refine q03 ?_|refine q04 ?_|refine q06 ?_|refine q11 ?_|refine q12 ?_|refine q14 ?_|refine q16 ?_|refine q17 ?_)|(with_reducible refine At.fn_ret (by simp -dsimp [hx,hw1,hw2,hw3,hw4,hd,hm,hs];exact rfl) ?_)|(refine CallE.pure (c1) ?_;try simp -dsimp [hx,hw1,hw2,hw3,hw4,hd,hm,hs])|(with_reducible refine DT_regionE [0,1,2,6,7,8,9,10,11,17,31] ?_;simp -dsimp [hx,hw1,hw2,hw3,hw4,hd,hm,hs])|(refine DT_cond rfl (fun h=>?_) (fun h=>?_)<;>(try simp only [nrm] at h)<;>(try exact Bool.noConfusion h))|(with_reducible refine GStop_split ?_ ?_<;>intro h<;>have h0:=h<;>(try simp only [nrm] at h)<;>(try exact Bool.noConfusion h)<;>have h2:=h<;>(try simp at h2)<;>(replace hs:=And.intro h0 (And.intro h (And.intro h2 hs)))<;>simp -dsimp [h0,h,h2,hx,hw1,hw2,hw3,hw4,hd,hm,hs])
   all_goals try simp -dsimp [hx,hw1,hw2,hw3,hw4,hd,hm,hs]
   all_goals try clear hs
   all_goals try omega
   exact At.round ⟨(i,m),by simp;omega⟩ (by simp;omega) (Weak.of_keep [0,1,2,8,9,10] (by simp))
 ·have hi:i=lb (l.map (·.drawing)) x:=by omega
  subst hi
  have hmem:=mem_lb (x:=x) hs
  by_cases hn:lb (l.map (·.drawing)) x < l.length
  ·have hx:l[lb (l.map (·.drawing)) x]?=some l[lb (l.map (·.drawing)) x]:=by simp [hn]
   have c1:=cmpIssue_c (G:=G) l[lb (l.map (·.drawing)) x] x
   have hq:decide (cmpI l[lb (l.map (·.drawing)) x].drawing x=0)=decide (x∈l.map (·.drawing)):=by
    rw [decide_eq_decide,hmem,List.getElem?_map,hx]
    simp only [cmpI,Option.map_some,Option.some.injEq]
    split<;>(try split)<;>omega
   generalize cmpI l[lb (l.map (·.drawing)) x].drawing x=q at c1 hq
   have hs:True:=trivial
   repeat' first|(with_reducible first|refine q01 ?_|refine q03 ?_|refine q06 ?_|refine q11 ?_|refine q16 ?_|refine q17 ?_)|(with_reducible refine At.fn_ret (by simp -dsimp [hx,hlt,hn,hs];exact rfl) ?_)|(refine CallE.pure (c1) ?_;try simp -dsimp [hx,hlt,hn,hs])|(with_reducible refine DT_regionE [0,1,2,6,7,8,9,10,11,17,31] ?_;simp -dsimp [hx,hlt,hn,hs])|(refine DT_cond rfl (fun h=>?_) (fun h=>?_)<;>(try simp only [nrm] at h)<;>(try exact Bool.noConfusion h))
   all_goals try simp -dsimp [hx,hlt,hn,hs]
   all_goals try clear hs
   all_goals try omega
   all_goals simp_all
  ·rw [List.getElem?_eq_none (by simp;omega)] at hmem
   have hs:True:=trivial
   repeat' first|(with_reducible first|refine q01 ?_|refine q03 ?_|refine q06 ?_|refine q11 ?_|refine q16 ?_|refine q17 ?_)|(with_reducible refine At.fn_ret (by simp -dsimp [hlt,hn,hs];exact rfl) ?_)|(with_reducible refine DT_regionE [0,1,2,6,7,8,9,10,11,17,31] ?_;simp -dsimp [hlt,hn,hs])|(refine DT_cond rfl (fun h=>?_) (fun h=>?_)<;>(try simp only [nrm] at h)<;>(try exact Bool.noConfusion h))
   all_goals try simp -dsimp [hlt,hn,hs]
   all_goals try clear hs
   all_goals try omega
   all_goals simp_all
def bookI (l:List Issue) (ds:List Int):IC:=.ip [.sl (l.map encIssue),.sl (ds.map encI)]
theorem has_c (l:List Issue) (ds:List Int) (n:Int) (hs:ds.Pairwise (·≤·)) (hl:ds.length < 1000000) (objs:List DObj):DCall Tryz.prog G 78 [.one (.im (bookI l ds)),iv n] objs (fun rr objs'=>rr=bv (decide (n∈ds))∧objs'=objs):=by
 refine DCall.frame ?_ (by simp) (by simp) objs
 refine DCall_intro Tryz.func78 rfl Tryz.ntmps78 (by simp) rfl ?_
 try simp only [iv]
 have c1:=bsearch_c (G:=G) ds n hs hl
 simp only [bookI]
 have hs:True:=trivial
 repeat' first|(with_reducible first|refine q01 ?_|refine q11 ?_|refine q17 ?_)|(with_reducible refine At.fn_ret (by simp -dsimp [hs];exact rfl) ?_)|(refine CallE.pure (c1) ?_;try simp -dsimp [hs])|(with_reducible refine DT_regionE [0,1,4,6] ?_;simp -dsimp [hs])
 all_goals try simp -dsimp [hs]
 all_goals try clear hs
theorem issues_c (b:IC) (n:Int) (objs:List DObj):DCall Tryz.prog G 79 [.one (.im b),iv n] objs (fun rr objs'=>rr=.one (.im (.fn (.func 106) [.ip [b],.ip [rI n]]))∧objs'=objs):=by
 refine DCall.frame ?_ (by simp) (by simp) objs
 refine DCall_intro Tryz.func79 rfl Tryz.ntmps79 (by simp) rfl ?_
 try simp only [iv]
 have hs:True:=trivial
 repeat' first|(with_reducible first|refine q01 ?_|refine q11 ?_|refine q17 ?_)|(with_reducible refine At.fn_ret (by simp -dsimp [hs];exact rfl) ?_)|(with_reducible refine DT_regionE [0,1,2,3,4] ?_;simp -dsimp [hs])
 all_goals try simp -dsimp [hs]
 all_goals try clear hs
end Go.Proofs
namespace Go.Ab
open Go
@[simp] theorem dslice_drop {α:Type} (objs:List DObj) (l:List α) (f:α→List IC) (k sz:Nat) (h:k≤l.length) (hf:∀ x,(f x).length=sz) :
 dslice objs (.im (.sl (l.map f))) (k:Int) none sz=some (.im (.sl ((l.drop k).map f))):=by
 simp only [dslice,Option.getD_none,List.length_map,Int.toNat_natCast,Int.natCast_eq_zero]
 rw [if_pos (by omega)]
 split
 ·rename_i hk;subst hk
  simp [List.take_of_length_le]
 ·by_cases hk:k < l.length
  ·simp [hk,hf,List.take_of_length_le,List.map_drop]
  ·have he:k=l.length:=by omega
   subst he
   simp
@[simp] theorem dslice_take {α:Type} (objs:List DObj) (l:List α) (f:α→List IC) (k sz:Nat) (h:k≤l.length) :
 dslice objs (.im (.sl (l.map f))) 0 (some (k:Int)) sz=some (.im (.sl ((l.take k).map f))):=by
 simp only [dslice,Option.getD_some,List.length_map,Int.toNat_natCast]
 rw [if_pos (by omega),if_pos trivial,List.map_take]
theorem dslice_vec (objs:List DObj) (o g off len:Nat) (lo:Int) (hi:Option Int) (sz:Nat):dslice objs (.vec o g off len) lo hi sz=if 0≤lo∧lo≤hi.getD len∧hi.getD len≤len then match objs[o]? with
 | some (.vec z _ g' _)=>if g=g'∧(z=sz∨len=0) then some (.vec o g (off + lo.toNat) ((hi.getD len).toNat - lo.toNat)) else none
 | _=>none
 else none:=rfl
attribute [simp] dslice_vec
end Go.Ab
namespace Go.Ab
open Go
def LoopD.at (r:LoopD) (st:LoopState) (pend:Option Code):LoopD:={ r with st:=st,pend:=pend }
theorem LoopD.at_st (r:LoopD) (st:LoopState) (pend:Option Code):(r.at st pend).st=st:=rfl
theorem LoopD.at_pend (r:LoopD) (st:LoopState) (pend:Option Code):(r.at st pend).pend=pend:=rfl
theorem LoopD.at_nt (r:LoopD) (st:LoopState) (pend:Option Code):(r.at st pend).nt=r.nt:=rfl
theorem LoopD.at_tm (r:LoopD) (st:LoopState) (pend:Option Code):(r.at st pend).tm=r.tm:=rfl
theorem LoopD.at_ps (r:LoopD) (st:LoopState) (pend:Option Code):(r.at st pend).ps=r.ps:=rfl
theorem LoopD.at_asg (r:LoopD) (st:LoopState) (pend:Option Code):(r.at st pend).asg=r.asg:=rfl
theorem LoopD.at_body (r:LoopD) (st:LoopState) (pend:Option Code):(r.at st pend).body=r.body:=rfl
theorem LoopD.at_at (r:LoopD) (st st':LoopState) (pend pend':Option Code):(r.at st pend).at st' pend'=r.at st' pend':=rfl
attribute [simp] LoopD.at_st LoopD.at_pend LoopD.at_nt LoopD.at_tm LoopD.at_ps LoopD.at_asg LoopD.at_body LoopD.at_at
theorem setLp_at (objs:List DObj) (o:Nat) (st:LoopState) (pend:Option Code):setLp objs o st pend=match objs[o]? with
 | some (.loop r)=>objs.set o (.loop (r.at st pend))
 | _=>objs:=rfl
attribute [simp] setLp_at
theorem YieldE_go {P:Program} {G:Nat→Option (List IC)} {o:Nat} {xs:List DV} {objs:List DObj} {C:DV→List DObj→Prop} {t:Tok C} (h:YieldR P G o xs objs C objs[o]?):YieldE P G o xs objs C t:=h
theorem At_busy {P:Program} {G:Nat→Option (List IC)} {o m:Nat} {body:Code} {C:DV→List DObj→Prop} {A:DS→Prop} {Q:Exit→DS→Prop} {t:Tok (thenQ (fun S'=>A S'∧Busy P G o m body C S') Q)} {S:DS} (h1:A S)
 (h2:DT P G ⟨m,some o⟩ body { S with objs:=setLp S.objs o .busy none } (YieldQ o C)):At (thenQ (fun S'=>A S'∧Busy P G o m body C S') Q) .normal t S:=⟨h1,h2⟩
end Go.Ab
namespace Go.Proofs
open Go Go.Ab
set_option linter.unusedSimpArgs false
variable {G:Nat→Option (List IC)}
theorem seg_ge {l:List Issue} {d:Int} (hs:(l.map (·.drawing)).Pairwise (·≤·)):∀ x∈l.drop (lb (l.map (·.drawing)) d),d≤x.drawing:=by
 intro x hx
 obtain ⟨i,hi⟩:=List.mem_iff_getElem?.1 hx
 rw [List.getElem?_drop] at hi
 have:=lb_spec (x:=d) hs _ x.drawing (by rw [List.getElem?_map,hi];rfl)
 omega
theorem seg_lt {l:List Issue} {d:Int} (hs:(l.map (·.drawing)).Pairwise (·≤·)):∀ x∈l.take (lb (l.map (·.drawing)) d),x.drawing < d:=by
 intro x hx
 obtain ⟨i,hi⟩:=List.mem_iff_getElem?.1 hx
 have hlt:i < lb (l.map (·.drawing)) d:=by
  have:=(List.getElem?_eq_some_iff.1 hi).1
  simp at this;omega
 rw [List.getElem?_take_of_lt hlt] at hi
 exact (lb_spec (x:=d) hs i x.drawing (by rw [List.getElem?_map,hi];rfl)).2 hlt
theorem seg_find {l:List Issue} {d:Int} (lt:Int) (hs:(l.map (·.drawing)).Pairwise (·≤·)):findI l d lt=findI (l.drop (lb (l.map (·.drawing)) d)) d lt:=by
 conv=>lhs;rw [← List.take_append_drop (lb (l.map (·.drawing)) d) l]
 simp only [findI,List.find?_append]
 rw [List.find?_eq_none.2 fun x hx=>?_]
 ·rfl
 ·have:=seg_lt hs x hx
  simp;omega
theorem bfind_c (l:List Issue) (ds:List Int) (d lt:Int) (hs:(l.map (·.drawing)).Pairwise (·≤·)) (hl:l.length < 1000000) (objs:List DObj):DCall Tryz.prog G 50 [.one (.im (bookI l ds)),refv d lt] objs (fun rr objs'=>rr=.tup [issv ((findI l d lt).getD zIssue),bv (findI l d lt).isSome]∧objs'=objs):=by
 refine DCall.frame ?_ (by simp) (by simp) objs
 refine DCall_intro Tryz.func50 rfl Tryz.ntmps50 (by simp) rfl ?_
 try simp only [refv]
 simp only [refv,bookI]
 have c1:=issues_c (G:=G) (bookI l ds) d
 simp only [bookI] at c1
 have hs:True:=trivial
 repeat' first|(with_reducible first|refine q01 ?_|refine q11 ?_|refine q12 ?_)|(refine CallE.pure (c1) ?_;try simp -dsimp [hs])|(with_reducible refine DT_regionE [0,1,3,4,5,6,10,11,15] ?_;simp -dsimp [hs])
 all_goals try simp -dsimp [hs]
 all_goals try clear hs
 refine DT_rangeFunc (f:=106) (by simp;exact rfl) (by rfl) Tryz.call106 ?_
 generalize hR:LoopD.mk _ _ _ _ _ _ _=R
 have hR1:R.st=.ready:=by rw [← hR]
 have hR2:R.pend=none:=by rw [← hR]
 have hR3:R.at .ready none=R:=by rw [← hR];rfl
 have hR4:=(congrArg LoopD.nt hR).symm
 have hR5:=(congrArg LoopD.tm hR).symm
 have hR6:=(congrArg LoopD.ps hR).symm
 have hR7:=(congrArg LoopD.asg hR).symm
 have hR8:=(congrArg LoopD.body hR).symm
 dsimp only at hR4 hR5 hR6 hR7 hR8
 clear hR
 refine DCall_intro Tryz.func106 rfl Tryz.ntmps106 (by simp) rfl ?_
 have hR9:∀ objs:List DObj,(R.tm.map fun x=>(x.1,fzV 6 objs x.2))=R.tm:=by intro objs;rw [hR5];simp
 have hlb:=lb_le (l.map (·.drawing)) d
 rw [List.length_map] at hlb
 have c2:=bsearchI_c (G:=G) l d hs hl
 have hs:True:=trivial
 repeat' first|(with_reducible first|refine q01 ?_|refine q11 ?_|refine q12 ?_)|(refine QCall_pure (c2) ?_;try simp -dsimp [hR1,hR2,hR3,hlb,hs])|(refine DT_regionM (id:=0) (nt:=41) 12 [0,1,2,4,7,24,25,26,27,39] mixed rfl (by kernel_rfl) ?_;simp -dsimp [hR1,hR2,hR3,hlb,hs])|(with_reducible refine DT_regionE [0,1,2,3,4,5,6,7,10,11,15,24,25,26,27,39] ?_;simp -dsimp [hR1,hR2,hR3,hlb,hs])
 all_goals try simp -dsimp [hR1,hR2,hR3,hlb,hs]
 all_goals try clear hs
 rw [← List.map_drop]
 have hge:=seg_ge (d:=d) hs
 have hfs:=seg_find (d:=d) lt hs
 have hss:((l.drop (lb (l.map (·.drawing)) d)).map (·.drawing)).Pairwise (·≤·):=by rw [List.map_drop];exact hs.drop
 have hsl:l.length - lb (l.map (·.drawing)) d=(l.drop (lb (l.map (·.drawing)) d)).length:=by simp
 rw [hsl]
 have hsl2:(l.drop (lb (l.map (·.drawing)) d)).length < 1000000:=by simp;omega
 generalize l.drop (lb (l.map (·.drawing)) d)=s at hge hfs hss hsl2 ⊢
 refine DT_loop (ι:={ k:Nat // k≤s.length∧findI l d lt=findI (s.drop k) d lt }) (fun p=>⟨41,[(0,.one (.yld 5)),(2,.one (.im (.ip [rI d]))),(24,.one (.im (.sl (s.map encIssue)))),(25,iv (s.length:Int)),(26,iv (p.1:Int))],[.row [.im (rI d),.im (rI lt)],.vec 0 [] 0 true,.vec 0 [] 0 true,.row ((rI 0 :: rI 0 :: [IC.raw (.int .u8 0)]).map .im ++ [.vec 1 0 0 0,.vec 2 0 0 0]),.row [.im (rB false)],.loop R]⟩) (fun p=>s.length - p.1) ⟨0,by simp [hfs]⟩ (Weak.of_keep [0,2,24,25,26] (by simp)) ?_
 rintro ⟨k,hk,hno⟩
 simp only [iv]
 by_cases hlt:k < s.length
 ·have hx:s[k]?=some s[k]:=by simp [hlt]
  have hw:IntKind.i64.wrap ((k:Int) + 1)=((k + 1:Nat):Int):=i64w (by omega) (by omega)
  have hcons:findI l d lt=if (s[k].drawing == d && s[k].letter == lt)=true then some s[k] else findI (s.drop (k + 1)) d lt:=by
   rw [hno,List.drop_eq_getElem_cons hlt]
   simp only [findI,List.find?_cons]
   split<;>simp_all
  by_cases hd:s[k].drawing=d
  ·have c3:=sheetName_c (G:=G) s[k]
   simp only [refI,issv,encIssue,rI,List.map_cons,List.map_nil,hd] at c3
   have hs:True:=trivial
   repeat' first|(with_reducible first|refine q01 ?_|refine q02 ?_|refine q04 ?_|refine q05 ?_|refine q11 ?_|refine q12 ?_|refine q14 ?_|refine q17 ?_)|(with_reducible refine At.fn_ret (by simp -dsimp [hR1,hR2,hR3,hx,hw,hd,hlt,hs];exact rfl) ?_)|(with_reducible refine At.yield_end ?_;simp -dsimp [hR1,hR2,hR3,hx,hw,hd,hlt,hs])|(with_reducible refine At.yield_ret ?_;simp -dsimp [hR1,hR2,hR3,hx,hw,hd,hlt,hs])|(refine At_busy ?_ ?_<;>simp -dsimp [hR1,hR2,hR3,hx,hw,hd,hlt,hs])|(refine YieldE_go ?_;simp -dsimp [YieldR,hR4,hR5,hR6,hR7,hR8,hR1,hR2,hR3,hx,hw,hd,hlt,hs])|(with_reducible show LoopR _ _ _ _ _ _ _ _;simp -dsimp [LoopR,hR1,hR2,hR3,hx,hw,hd,hlt,hs])|(refine QCall_pure (c3) ?_;try simp -dsimp [hR1,hR2,hR3,hx,hw,hd,hlt,hs])|(refine DT_regionM (id:=3) (nt:=18) 4 [0,1,3,4,5,6,10,11,15] mixed rfl (by kernel_rfl) ?_;simp -dsimp [hR1,hR2,hR3,hx,hw,hd,hlt,hs])|(with_reducible refine DT_regionE [0,1,2,3,4,5,6,7,10,11,15,24,25,26,27,39] ?_;simp -dsimp [hR1,hR2,hR3,hx,hw,hd,hlt,hs])|(refine DT_cond rfl (fun h=>?_) (fun h=>?_)<;>(try simp only [nrm] at h)<;>(try exact Bool.noConfusion h))
   all_goals try simp -dsimp [hR1,hR2,hR3,hx,hw,hd,hlt,hs]
   all_goals try clear hs
   ·have h:s[k].letter=lt:=by assumption
    have hf:findI l d lt=some s[k]:=by rw [hcons,if_pos (by simp [hd,h])]
    simp [hf,hd]
   ·have h:¬ s[k].letter=lt:=by assumption
    have hf:findI l d lt=findI (s.drop (k + 1)) d lt:=by rw [hcons,if_neg (by simp [hd,h])]
    exact At.round ⟨k + 1,by omega,hf⟩ (by simp;omega) (Weak.of_drop [0,2,24,25,26] 6 (by simp) (by simp) (by simp [hR9]))
  ·have hnone:findI l d lt=none:=by
    rw [hno,findI,List.find?_eq_none]
    intro x hxm
    obtain ⟨i,hi⟩:=List.mem_iff_getElem?.1 hxm
    rw [List.getElem?_drop] at hi
    have h1:s[k].drawing≤x.drawing:=by
     rcases Nat.eq_zero_or_pos i with rfl|hp
     ·rw [Nat.add_zero,hx] at hi;cases hi;exact Int.le_refl _
     ·have hlt2:=(List.getElem?_eq_some_iff.1 hi).1
      have:=(List.pairwise_iff_getElem.1 hss) k (k + i) (by simpa using hlt) (by simpa using hlt2) (by omega)
      have h6:=(List.getElem?_eq_some_iff.1 hi).2
      simp at this;rw [h6] at this;exact this
    have h2:=hge s[k] (List.getElem_mem hlt)
    simp;omega
   have hs:True:=trivial
   repeat' first|(with_reducible first|refine q01 ?_|refine q02 ?_|refine q04 ?_|refine q05 ?_|refine q11 ?_|refine q12 ?_|refine q14 ?_|refine q17 ?_)|(with_reducible refine At.fn_ret (by simp -dsimp [hR1,hR2,hR3,hx,hw,hd,hlt,hs];exact rfl) ?_)|(with_reducible show LoopR _ _ _ _ _ _ _ _;simp -dsimp [LoopR,hR1,hR2,hR3,hx,hw,hd,hlt,hs])|(with_reducible refine DT_regionE [0,1,2,3,4,5,6,7,10,11,15,24,25,26,27,39] ?_;simp -dsimp [hR1,hR2,hR3,hx,hw,hd,hlt,hs])|(refine DT_cond rfl (fun h=>?_) (fun h=>?_)<;>(try simp only [nrm] at h)<;>(try exact Bool.noConfusion h))
   all_goals try simp -dsimp [hR1,hR2,hR3,hx,hw,hd,hlt,hs]
   all_goals try clear hs
   all_goals simp [hnone,zIssue]
 ·have hnone:findI l d lt=none:=by rw [hno,List.drop_eq_nil_of_le (by omega)];rfl
  have hs:True:=trivial
  repeat' first|(with_reducible first|refine q01 ?_|refine q03 ?_|refine q04 ?_|refine q06 ?_|refine q11 ?_|refine q16 ?_|refine q17 ?_)|(with_reducible refine At.fn_ret (by simp -dsimp [hR1,hR2,hR3,hlt,hs];exact rfl) ?_)|(with_reducible refine At.fn_end (by simp -dsimp [hR1,hR2,hR3,hlt,hs];exact rfl) ?_)|(with_reducible show LoopR _ _ _ _ _ _ _ _;simp -dsimp [LoopR,hR1,hR2,hR3,hlt,hs])|(with_reducible refine DT_regionE [0,1,2,3,4,5,6,7,10,11,15,24,25,26,27,39] ?_;simp -dsimp [hR1,hR2,hR3,hlt,hs])|(refine DT_cond rfl (fun h=>?_) (fun h=>?_)<;>(try simp only [nrm] at h)<;>(try exact Bool.noConfusion h))
  all_goals try simp -dsimp [hR1,hR2,hR3,hlt,hs]
  all_goals try clear hs
  all_goals simp [hnone,zIssue]
end Go.Proofs
namespace Go.Ab
open Go
def kI (n:Int):List Value:=[.int .i64 n]
def mlook (m:List (Int×Int)) (n:Int):Int:=match m with
 | []=>0
 | p :: r=>if p.1=n then p.2 else mlook r n
def mput (n v:Int):List (Int×Int)→List (Int×Int)
 | []=>[(n,v)]
 | p :: r=>if p.1=n then (n,v) :: r else p :: mput n v r
def encM (m:List (Int×Int)):List (List Value×List DC):=m.map fun p=>(kI p.1,[.im (rI p.2)])
def encMI (m:List (Int×Int)):List (List Value×List IC):=m.map fun p=>(kI p.1,[rI p.2])
def encS (l:List Int):List (List Value×List DC):=l.map fun n=>(kI n,[.im (rB true)])
def encSI (l:List Int):List (List Value×List IC):=l.map fun n=>(kI n,[rB true])
def sput (n:Int) (l:List Int):List Int:=if n∈l then l else l ++ [n]
theorem beqs_k (n m:Int):beqs [.int .i64 n] (kI m)=decide (m=n):=by
 simp only [kI,beqs,Bool.and_true]
 rw [Bool.eq_iff_iff];simp [eq_comm]
@[simp] theorem mget_M (m:List (Int×Int)) (n:Int):mget [.int .i64 n] (encM m) [.im (.raw (.int .i64 0))]=[.im (.raw (.int .i64 (mlook m n)))]:=by
 induction m with
 | nil=>rfl
 | cons p r ih =>
   have e:encM (p :: r)=(kI p.1,[.im (rI p.2)]) :: encM r:=rfl
   rw [e]
   simp only [mget,mfind,mlook,beqs_k,decide_eq_true_eq] at ih ⊢
   split
   ·rfl
   ·exact ih
@[simp] theorem mset_M (m:List (Int×Int)) (n v:Int):mset [.int .i64 n] [.im (.raw (.int .i64 v))] (encM m)=encM (mput n v m):=by
 induction m with
 | nil=>rfl
 | cons p r ih =>
   have e:encM (p :: r)=(kI p.1,[.im (rI p.2)]) :: encM r:=rfl
   rw [e]
   simp only [mset,mput,beqs_k,decide_eq_true_eq] at ih ⊢
   split
   ·rfl
   ·rw [ih];rfl
@[simp] theorem mget_S (l:List Int) (n:Int):mget [.int .i64 n] (encS l) [.im (.raw (.bool false))]=[.im (.raw (.bool (decide (n∈l))))]:=by
 induction l with
 | nil=>rfl
 | cons p r ih =>
   have e:encS (p :: r)=(kI p,[.im (rB true)]) :: encS r:=rfl
   rw [e]
   simp only [mget,mfind,beqs_k,decide_eq_true_eq] at ih ⊢
   split
   ·rename_i h;simp [h]
   ·rename_i h
    rw [ih]
    have:(n∈p :: r)=(n∈r):=propext ⟨fun h'=>(List.mem_cons.1 h').resolve_left fun e=>h e.symm,List.mem_cons_of_mem _⟩
    simp only [this]
@[simp] theorem mset_S (l:List Int) (n:Int):mset [.int .i64 n] [.im (.raw (.bool true))] (encS l)=encS (sput n l):=by
 have gen:∀ l:List Int,(n∈l→mset [.int .i64 n] [.im (.raw (.bool true))] (encS l)=encS l)∧(n∉l→mset [.int .i64 n] [.im (.raw (.bool true))] (encS l)=encS (l ++ [n])):=by
  intro l
  induction l with
  | nil=>exact ⟨fun h=>by simp at h,fun _=>rfl⟩
  | cons p r ih =>
    have e:encS (p :: r)=(kI p,[.im (rB true)]) :: encS r:=rfl
    rw [e]
    simp only [mset,beqs_k,decide_eq_true_eq]
    constructor
    ·intro h
     split
     ·rename_i hp;rw [hp];rfl
     ·rename_i hp
      rw [ih.1 ((List.mem_cons.1 h).resolve_left fun e=>hp e.symm)]
    ·intro h
     rw [if_neg fun e=>h (by simp [e]),ih.2 fun e=>h (by simp [e])];rfl
 unfold sput
 split
 ·exact (gen l).1 ‹_›
 ·exact (gen l).2 ‹_›
@[simp] theorem mdel_S (l:List Int) (n:Int):mdel [.int .i64 n] (encS l)=encS (l.erase n):=by
 induction l with
 | nil=>rfl
 | cons p r ih =>
   have e:encS (p :: r)=(kI p,[.im (rB true)]) :: encS r:=rfl
   rw [e]
   simp only [mdel,beqs_k,decide_eq_true_eq]
   split
   ·rename_i h;subst h;simp
   ·rename_i h
    rw [ih,List.erase_cons_tail (by simpa using h)];rfl
@[simp] theorem encS_len (l:List Int):(encS l).length=l.length:=by simp [encS]
@[simp] theorem encM_len (l:List (Int×Int)):(encM l).length=l.length:=by simp [encM]
@[simp] theorem imE_MI (m:List (Int×Int)):imE (encMI m)=encM m:=by simp [imE,encMI,encM]
@[simp] theorem imE_SI (l:List Int):imE (encSI l)=encS l:=by simp [imE,encSI,encS]
@[simp] theorem mapO_M (k n:Nat) (objs:List DObj) (m:List (Int×Int)):mapO (fun x:List Value×List DC=>(mapO (frz (k + 1) n objs) x.2).map fun l=>(x.1,l)) (encM m)=some (encMI m):=by
 induction m with
 | nil=>rfl
 | cons p r ih =>
   have e:encM (p :: r)=(kI p.1,[.im (rI p.2)]) :: encM r:=rfl
   rw [e]
   simp [mapO,ih,encMI]
@[simp] theorem mapO_S (k n:Nat) (objs:List DObj) (l:List Int):mapO (fun x:List Value×List DC=>(mapO (frz (k + 1) n objs) x.2).map fun l=>(x.1,l)) (encS l)=some (encSI l):=by
 induction l with
 | nil=>rfl
 | cons p r ih =>
   have e:encS (p :: r)=(kI p,[.im (rB true)]) :: encS r:=rfl
   rw [e]
   simp [mapO,ih,encSI]
@[simp] theorem map_fz_M (n:Nat) (objs:List DObj) (m:List (Int×Int)):((encM m).map fun x=>(x.1,x.2.map (fz n objs)))=encM m:=by
 simp [encM,fz,DC.lt]
@[simp] theorem map_fz_S (n:Nat) (objs:List DObj) (l:List Int):((encS l).map fun x=>(x.1,x.2.map (fz n objs)))=encS l:=by
 simp [encS,fz,DC.lt]
end Go.Ab
