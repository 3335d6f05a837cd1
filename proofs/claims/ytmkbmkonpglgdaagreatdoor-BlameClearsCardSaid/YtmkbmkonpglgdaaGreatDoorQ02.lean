/- Part 27 of the proofs: laws and walks that hold without conditions beyond those that each theorem names. -/
import Derived.Test.YtmkbmkonpglgdaaGreatDoorP19
import Derived.Test.YtmkbmkonpglgdaaGreatDoorP21
import Derived.Test.YtmkbmkonpglgdaaGreatDoorP24
import Derived.Test.YtmkbmkonpglgdaaGreatDoorP25
set_option linter.all false
set_option linter.deprecated false
namespace Go.Proofs
open Go Go.Ab
set_option linter.unusedSimpArgs false
variable {G:Nat→Option (List IC)}
theorem within10_c (n lo hi:Int) (objs:List DObj):DCall Tryz.prog G 27 [iv n,iv lo,iv hi] objs (fun rr objs'=>rr=bv (decide (lo≤n) && decide (n≤hi))∧objs'=objs):=by
 refine DCall.frame ?_ (by simp) (by simp) objs
 refine DCall_intro Tryz.func27 rfl Tryz.ntmps27 (by simp) rfl ?_
 try simp only [iv,iv,iv]
 have hs:True:=trivial
 repeat' first|(with_reducible first|refine q01 ?_|refine q11 ?_|refine q17 ?_)|(with_reducible refine At.fn_ret (by simp -dsimp [hs];exact rfl) ?_)|(with_reducible refine DT_regionE [0,1,2,6] ?_;simp -dsimp [hs])|(with_reducible refine GStop_split ?_ ?_<;>intro h<;>have h0:=h<;>(try simp only [nrm] at h)<;>(try exact Bool.noConfusion h)<;>have h2:=h<;>(try simp at h2)<;>(replace hs:=And.intro h0 (And.intro h (And.intro h2 hs)))<;>simp -dsimp [h0,h,h2,hs])
 all_goals try simp -dsimp [hs]
 all_goals try clear hs
 all_goals simp [*]
theorem letter_pos {l:List Issue} (h:checkR l=0) {x:Issue} (hx:x∈l):1≤x.letter∧1≤x.kind:=by
 have:=(scan_all (listed_scan (check_listed h))).2.2.2.1 x hx
 simp only [issueOk,ck1,ck2,Bool.and_eq_true,decide_eq_true_eq] at this
 by_cases hk:x.kind=1
 ·omega
 ·rw [if_neg hk] at this
  simp only [Bool.and_eq_true,decide_eq_true_eq] at this
  omega
theorem lastOf_mem {l:List Issue} (h0:checkR l=0) (d:Int):lastOf l d=0↔d∉nums l:=by
 obtain ⟨h1,h2,h3⟩:=lastOf_fold d l 0
 constructor
 ·intro h hd
  obtain ⟨x,hx,hxd⟩:=nums_mem hd
  have:=h2 x hx hxd
  have:=(letter_pos h0 hx).1
  unfold lastOf at h
  omega
 ·intro hd
  rcases h3 with h3|⟨x,hx,hxd,_⟩
  ·exact h3
  ·exact absurd (hxd ▸ (check_nums h0).2 x hx) hd
theorem rlinkOk_eq {c:Case} (h0:checkR c.p.n.reg=0) (l:Link) (x:Piece):linkOk c l x=true↔(findI c.p.n.reg l.drawing 1).isSome=true∧¬ ((findI c.p.n.reg l.drawing 1).getD zIssue).kind < 2∧(decide (0≤l.dim) && decide (l.dim≤3))=true∧¬ fidx (fun y=>decide (y.id=x.holder)) c.p.holders < 0∧(decide (0≤x.day) && decide (x.day≤14610))=true∧(decide (0≤x.lo) && decide (x.lo≤1000000000))=true∧(decide (x.lo≤x.hi) && decide (x.hi≤1000000000))=true:=by
 have hf:(c.p.holders.any fun y=>decide (y.id=x.holder))=true↔¬ fidx (fun y=>decide (y.id=x.holder)) c.p.holders < 0:=by
  rw [← fidx_nonneg,decide_eq_true_eq];omega
 unfold linkOk insB
 cases hfi:findI c.p.n.reg l.drawing 1 with
 | none=>simp
 | some y =>
   have hk:=(letter_pos h0 (List.mem_of_find?_eq_some hfi)).2
   simp only [Option.isSome_some,Option.getD_some,Bool.and_eq_true,decide_eq_true_eq,Bool.not_eq_true',decide_eq_false_iff_not,hf,true_and]
   omega
set_option maxHeartbeats 8000000 in
theorem rCase_c (c:Case) (h0:checkR c.p.n.reg=0) (hk:KC c) (objs:List DObj):DCall Tryz.prog G 35 [casev c] objs (fun rr objs'=>rr=bv (caseB c)∧objs'=objs):=by
 refine DCall.frame ?_ (by simp) (by simp) objs
 refine DCall_intro Tryz.func35 rfl Tryz.ntmps35 (by simp) rfl ?_
 try simp only [iv]
 have hl:=hk.l
 have hq:=hk.q
 have hhl:=hk.p.p.h
 have hrl:=hk.p.p.l
 have c2:=lastOf_c (G:=G) c.p.n.reg c.of (by omega)
 have hLm:=lastOf_mem h0 c.of
 have c3:=within10_c (G:=G) c.machine 1 999
 have c4:=within10_c (G:=G) (c.loop.links.length:Int) 1 8
 have c5:=within10_c (G:=G) c.loop.lo (-8000000000) 8000000000
 have c6:=within10_c (G:=G) c.loop.hi c.loop.lo 8000000000
 simp only [regv] at c2
 generalize lastOf c.p.n.reg c.of=L at *
 cases h5:case5 c
 ·have hB:caseB c=false:=by rw [caseB_eq,h5,Bool.false_and]
  rw [hB]
  simp only [case5,insB] at h5
  generalize hb3:(decide (1≤c.machine) && decide (c.machine≤999))=b3 at c3
  generalize hb4:(decide (1≤(c.loop.links.length:Int)) && decide ((c.loop.links.length:Int)≤8))=b4 at c4
  generalize hb5:(decide (-8000000000≤c.loop.lo) && decide (c.loop.lo≤8000000000))=b5 at c5
  generalize hb6:(decide (c.loop.lo≤c.loop.hi) && decide (c.loop.hi≤8000000000))=b6 at c6
  have hs:True:=trivial
  by_cases hm:L=0
  ·cases b3
   all_goals
    have hs:True:=trivial
    repeat' first|(with_reducible first|refine q01 ?_|refine q02 ?_|refine q11 ?_|refine q17 ?_)|(with_reducible refine At.fn_ret (by simp -dsimp [hm,hs];exact rfl) ?_)|(refine CallE.pure (c3) ?_;try simp -dsimp [hm,hs])|(refine CallE.pure (c2) ?_;try simp -dsimp [hm,hs])|(with_reducible refine DT_regionE [0,1,2,3,4,5,6,7,8,61,66,131] ?_;simp -dsimp [hm,hs])|(refine DT_cond rfl (fun h=>?_) (fun h=>?_)<;>(try simp only [nrm] at h)<;>(try exact Bool.noConfusion h))
    all_goals try simp -dsimp [hm,hs]
    all_goals try clear hs
  ·have hm':c.of∈nums c.p.n.reg:=Classical.byContradiction fun h=>hm (hLm.2 h)
   by_cases hlen:c.pieces.length=c.loop.links.length
   ·cases b3<;>cases b4<;>cases b5<;>cases b6
    all_goals
     have hs:True:=trivial
     repeat' first|(with_reducible first|refine q01 ?_|refine q02 ?_|refine q11 ?_|refine q12 ?_|refine q14 ?_|refine q17 ?_)|(with_reducible refine At.fn_ret (by simp -dsimp [hlen,hm,hs];exact rfl) ?_)|(refine CallE.pure (c3) ?_;try simp -dsimp [hlen,hm,hs])|(refine CallE.pure (c2) ?_;try simp -dsimp [hlen,hm,hs])|(refine CallE.pure (c4) ?_;try simp -dsimp [hlen,hm,hs])|(refine CallE.pure (c5) ?_;try simp -dsimp [hlen,hm,hs])|(refine CallE.pure (c6) ?_;try simp -dsimp [hlen,hm,hs])|(with_reducible refine DT_regionE [0,1,2,3,4,5,6,7,8,61,66,131] ?_;simp -dsimp [hlen,hm,hs])|(refine DT_cond rfl (fun h=>?_) (fun h=>?_)<;>(try simp only [nrm] at h)<;>(try exact Bool.noConfusion h))
     all_goals try simp -dsimp [hlen,hm,hs]
     all_goals try clear hs
    all_goals exfalso
    all_goals simp [hm',hlen] at h5 hb3 hb4 hb5 hb6
    all_goals omega
   ·have hlen':¬ (c.pieces.length:Int)=c.loop.links.length:=by omega
    cases b3<;>cases b4<;>cases b5<;>cases b6
    all_goals
     have hs:True:=trivial
     repeat' first|(with_reducible first|refine q01 ?_|refine q02 ?_|refine q11 ?_|refine q17 ?_)|(with_reducible refine At.fn_ret (by simp -dsimp [hlen,hlen',hm,hs];exact rfl) ?_)|(refine CallE.pure (c3) ?_;try simp -dsimp [hlen,hlen',hm,hs])|(refine CallE.pure (c2) ?_;try simp -dsimp [hlen,hlen',hm,hs])|(refine CallE.pure (c4) ?_;try simp -dsimp [hlen,hlen',hm,hs])|(refine CallE.pure (c5) ?_;try simp -dsimp [hlen,hlen',hm,hs])|(refine CallE.pure (c6) ?_;try simp -dsimp [hlen,hlen',hm,hs])|(with_reducible refine DT_regionE [0,1,2,3,4,5,6,7,8,61,66,131] ?_;simp -dsimp [hlen,hlen',hm,hs])|(refine DT_cond rfl (fun h=>?_) (fun h=>?_)<;>(try simp only [nrm] at h)<;>(try exact Bool.noConfusion h))
     all_goals try simp -dsimp [hlen,hlen',hm,hs]
     all_goals try clear hs
 ·have hB:caseB c=(c.loop.links.zip c.pieces).all fun q=>linkOk c q.1 q.2:=by rw [caseB_eq,h5,Bool.true_and]
  rw [hB]
  simp only [case5,Bool.and_eq_true,decide_eq_true_eq,insB] at h5
  obtain ⟨hm,⟨hm1,hm2⟩,⟨hl1,hl2⟩,hlen,hgap⟩:=h5
  have hm':¬ L=0:=fun h=>hLm.1 h hm
  rw [show (decide (1≤c.machine) && decide (c.machine≤999))=true by simp;omega] at c3
  rw [show (decide (1≤(c.loop.links.length:Int)) && decide ((c.loop.links.length:Int)≤8))=true by simp;omega] at c4
  rw [show (decide (-8000000000≤c.loop.lo) && decide (c.loop.lo≤8000000000))=true by simp;omega] at c5
  rw [show (decide (c.loop.lo≤c.loop.hi) && decide (c.loop.hi≤8000000000))=true by simp;omega] at c6
  have hs:True:=trivial
  repeat' first|(with_reducible first|refine q01 ?_|refine q11 ?_|refine q12 ?_|refine q14 ?_)|(refine CallE.pure (c3) ?_;try simp -dsimp [hlen,hm',hs])|(refine CallE.pure (c2) ?_;try simp -dsimp [hlen,hm',hs])|(refine CallE.pure (c4) ?_;try simp -dsimp [hlen,hm',hs])|(refine CallE.pure (c5) ?_;try simp -dsimp [hlen,hm',hs])|(refine CallE.pure (c6) ?_;try simp -dsimp [hlen,hm',hs])|(with_reducible refine DT_regionE [0,1,2,3,4,5,6,7,8,61,66,131] ?_;simp -dsimp [hlen,hm',hs])|(refine DT_cond rfl (fun h=>?_) (fun h=>?_)<;>(try simp only [nrm] at h)<;>(try exact Bool.noConfusion h))
  all_goals try simp -dsimp [hlen,hm',hs]
  all_goals try clear hs
  have hno:((c.loop.links.zip c.pieces).all fun q=>linkOk c q.1 q.2)=((c.loop.links.zip c.pieces).drop 0).all fun q=>linkOk c q.1 q.2:=rfl
  clear c2 c3 c4 c5 c6
  generalize hA:((c.loop.links.zip c.pieces).all fun q=>linkOk c q.1 q.2)=A at *
  refine DT_loop (ι:={ k:Nat // k≤c.pieces.length∧A=((c.loop.links.zip c.pieces).drop k).all fun q=>linkOk c q.1 q.2 }) (fun q=>⟨132,[(1,.one (.ptr 0 0)),(3,.one (.ptr 2 0)),(4,iv (q.1:Int))],[.row ((encCase c).map .im),.vec 0 [] 0 true,.row [.im (.sl (c.p.n.reg.map encIssue))]]⟩) (fun q=>c.pieces.length - q.1) ⟨0,by simp,hno⟩ (Weak.of_keep [1,3,4] (by simp)) ?_
  rintro ⟨k,hk1,hrest⟩
  simp only [iv]
  by_cases hlt:k < c.pieces.length
  ·have hlt2:k < c.loop.links.length:=by omega
   have hw:IntKind.i64.wrap ((k:Int) + 1)=((k + 1:Nat):Int):=i64w (by omega) (by omega)
   have hst:=zip_all_step (f:=fun q=>linkOk c q.1 q.2) hlt2 hlt (hA.trans hrest)
   rw [hA] at hst
   simp only at hst
   rw [rlinkOk_eq h0] at hst
   clear hno
   generalize hx:c.pieces[k]=x at *
   generalize hy:c.loop.links[k]=y at *
   have c6:=find_c (G:=G) c.p.n.reg y.drawing 1 (by omega)
   have c7:=index7_c (G:=G) c.p x.holder (by omega)
   have c8:=within10_c (G:=G) y.dim 0 3
   have c9:=within10_c (G:=G) x.day 0 14610
   have c10:=within10_c (G:=G) x.lo 0 1000000000
   have c11:=within10_c (G:=G) x.hi x.lo 1000000000
   simp only [regv,refv] at c6
   simp only [printsv,encPrints,List.map_cons,List.map_nil] at c7
   generalize fidx (fun y=>decide (y.id=x.holder)) c.p.holders=f at *
   generalize (decide (0≤y.dim) && decide (y.dim≤3))=b1 at *
   generalize (decide (0≤x.day) && decide (x.day≤14610))=b3 at *
   generalize (decide (0≤x.lo) && decide (x.lo≤1000000000))=b4 at *
   generalize (decide (x.lo≤x.hi) && decide (x.hi≤1000000000))=b5 at *
   generalize (findI c.p.n.reg y.drawing 1).isSome=e at *
   generalize (findI c.p.n.reg y.drawing 1).getD zIssue=z at *
   have hcs:(e=true∧¬ z.kind < 2∧b1=true∧¬ f < 0∧b3=true∧b4=true∧b5=true)∨(A=false∧((e=false∧True∧True∧True∧True∧True∧True)∨(e=true∧z.kind < 2∧True∧True∧True∧True∧True)∨(e=true∧¬ z.kind < 2∧b1=false∧True∧True∧True∧True)∨(e=true∧¬ z.kind < 2∧b1=true∧f < 0∧True∧True∧True)∨(e=true∧¬ z.kind < 2∧b1=true∧¬ f < 0∧b3=false∧True∧True)∨(e=true∧¬ z.kind < 2∧b1=true∧¬ f < 0∧b3=true∧b4=false∧True)∨(e=true∧¬ z.kind < 2∧b1=true∧¬ f < 0∧b3=true∧b4=true∧b5=false))):=by
    by_cases g2:z.kind < 2<;>by_cases g4:f < 0<;>cases e<;>cases b1<;>cases b3<;>cases b4<;>cases b5<;>simp_all
   have hs:True:=trivial
   rcases hcs with ⟨g1,g2,g3,g4,g5,g6,g7⟩|⟨gA,hcs⟩
   ·have hs:True:=trivial
    repeat' first|(with_reducible first|refine q01 ?_|refine q04 ?_|refine q11 ?_|refine q12 ?_|refine q14 ?_)|(refine CallE.pure (c6) ?_;try simp -dsimp [hx,hy,hlt,hlt2,hw,g1,g2,g3,g4,g5,g6,g7,hs])|(refine CallE.pure (c7) ?_;try simp -dsimp [hx,hy,hlt,hlt2,hw,g1,g2,g3,g4,g5,g6,g7,hs])|(refine CallE.pure (c8) ?_;try simp -dsimp [hx,hy,hlt,hlt2,hw,g1,g2,g3,g4,g5,g6,g7,hs])|(refine CallE.pure (c9) ?_;try simp -dsimp [hx,hy,hlt,hlt2,hw,g1,g2,g3,g4,g5,g6,g7,hs])|(refine CallE.pure (c10) ?_;try simp -dsimp [hx,hy,hlt,hlt2,hw,g1,g2,g3,g4,g5,g6,g7,hs])|(refine CallE.pure (c11) ?_;try simp -dsimp [hx,hy,hlt,hlt2,hw,g1,g2,g3,g4,g5,g6,g7,hs])|(refine DT_regionX (id:=7) (nt:=132) 13 [6,7,8,9,10] [0,1,2,3,4,5,6,7,8,61,66,69,70,71,72,73,74,131] [0,1,2,3,4,5,6,7,8,61,66,131] mixed rfl (by kernel_rfl) ?_;simp -dsimp [hx,hy,hlt,hlt2,hw,g1,g2,g3,g4,g5,g6,g7,hs])|(with_reducible refine DT_regionE [0,1,2,3,4,5,6,7,8,61,66,131] ?_;simp -dsimp [hx,hy,hlt,hlt2,hw,g1,g2,g3,g4,g5,g6,g7,hs])|(refine DT_cond rfl (fun h=>?_) (fun h=>?_)<;>(try simp only [nrm] at h)<;>(try exact Bool.noConfusion h))
    all_goals try simp -dsimp [hx,hy,hlt,hlt2,hw,g1,g2,g3,g4,g5,g6,g7,hs]
    all_goals try clear hs
    all_goals exact At.round ⟨k + 1,by omega,by rw [Bool.eq_iff_iff];exact hst.trans ⟨fun h=>h.2,fun h=>⟨⟨g1,g2,g3,g4,g5,g6,g7⟩,h⟩⟩⟩ (by simp;omega) (Weak.of_drop [1,3,4] 3 (by simp) (by simp) (by simp))
   ·rcases hcs with ⟨g1,g2,g3,g4,g5,g6,g7⟩|⟨g1,g2,g3,g4,g5,g6,g7⟩|⟨g1,g2,g3,g4,g5,g6,g7⟩|⟨g1,g2,g3,g4,g5,g6,g7⟩|⟨g1,g2,g3,g4,g5,g6,g7⟩|⟨g1,g2,g3,g4,g5,g6,g7⟩|⟨g1,g2,g3,g4,g5,g6,g7⟩
    all_goals
     have hs:True:=trivial
     repeat' first|(with_reducible first|refine q01 ?_|refine q02 ?_|refine q05 ?_|refine q11 ?_|refine q12 ?_|refine q14 ?_|refine q17 ?_)|(with_reducible refine At.fn_ret (by simp -dsimp [hx,hy,hlt,hlt2,hw,g1,g2,g3,g4,g5,g6,g7,hs];exact rfl) ?_)|(refine CallE.pure (c6) ?_;try simp -dsimp [hx,hy,hlt,hlt2,hw,g1,g2,g3,g4,g5,g6,g7,hs])|(refine CallE.pure (c7) ?_;try simp -dsimp [hx,hy,hlt,hlt2,hw,g1,g2,g3,g4,g5,g6,g7,hs])|(refine CallE.pure (c8) ?_;try simp -dsimp [hx,hy,hlt,hlt2,hw,g1,g2,g3,g4,g5,g6,g7,hs])|(refine CallE.pure (c9) ?_;try simp -dsimp [hx,hy,hlt,hlt2,hw,g1,g2,g3,g4,g5,g6,g7,hs])|(refine CallE.pure (c10) ?_;try simp -dsimp [hx,hy,hlt,hlt2,hw,g1,g2,g3,g4,g5,g6,g7,hs])|(refine CallE.pure (c11) ?_;try simp -dsimp [hx,hy,hlt,hlt2,hw,g1,g2,g3,g4,g5,g6,g7,hs])|(refine DT_regionX (id:=7) (nt:=132) 13 [6,7,8,9,10] [0,1,2,3,4,5,6,7,8,61,66,69,70,71,72,73,74,131] [0,1,2,3,4,5,6,7,8,61,66,131] mixed rfl (by kernel_rfl) ?_;simp -dsimp [hx,hy,hlt,hlt2,hw,g1,g2,g3,g4,g5,g6,g7,hs])|(with_reducible refine DT_regionE [0,1,2,3,4,5,6,7,8,61,66,131] ?_;simp -dsimp [hx,hy,hlt,hlt2,hw,g1,g2,g3,g4,g5,g6,g7,hs])|(refine DT_cond rfl (fun h=>?_) (fun h=>?_)<;>(try simp only [nrm] at h)<;>(try exact Bool.noConfusion h))
     all_goals try simp -dsimp [hx,hy,hlt,hlt2,hw,g1,g2,g3,g4,g5,g6,g7,hs]
     all_goals try clear hs
    all_goals exact gA
  ·obtain rfl:k=c.pieces.length:=by omega
   have hA1:A=true:=by rw [hrest,List.drop_eq_nil_of_le (by rw [List.length_zip];omega)];rfl
   subst hA1
   have hs:True:=trivial
   repeat' first|(with_reducible first|refine q01 ?_|refine q03 ?_|refine q06 ?_|refine q11 ?_|refine q16 ?_|refine q17 ?_)|(with_reducible refine At.fn_ret (by simp -dsimp [hlt,hs];exact rfl) ?_)|(with_reducible refine DT_regionE [0,1,2,3,4,5,6,7,8,61,66,131] ?_;simp -dsimp [hlt,hs])|(refine DT_cond rfl (fun h=>?_) (fun h=>?_)<;>(try simp only [nrm] at h)<;>(try exact Bool.noConfusion h))
   all_goals try simp -dsimp [hlt,hs]
   all_goals try clear hs
end Go.Proofs
namespace Go.Proofs
open Go Go.Ab
set_option linter.unusedSimpArgs false
variable {G:Nat→Option (List IC)}
theorem rBCheck_c (c:Case) (hk:KC c) (objs:List DObj):DCall Tryz.prog G 14 [casev c] objs (fun rr objs'=>rr=iv (caseE c)∧objs'=objs):=by
 refine DCall.frame ?_ (by simp) (by simp) objs
 refine DCall_intro Tryz.func14 rfl Tryz.ntmps14 (by simp) rfl ?_
 try simp only [iv]
 have c1:=rPCheck_c (G:=G) c.p hk.p
 simp only [printsv,encPrints] at c1
 by_cases h0:printsE c.p=0
 ·have c2:=rCase_c (G:=G) c (printsE_yes h0).2.2 hk
  have hE:caseE c=if caseB c=true then 0 else 100:=by unfold caseE;rw [if_neg (by simp [h0])]
  rw [hE]
  rw [h0] at c1
  simp only [casev,encCase] at c2
  generalize caseB c=b at *
  cases b
  ·have hs:True:=trivial
   repeat' first|(with_reducible first|refine q01 ?_|refine q02 ?_|refine q11 ?_|refine q14 ?_|refine q17 ?_)|(with_reducible refine At.fn_ret (by simp -dsimp [hs];exact rfl) ?_)|(refine CallE.pure (c1) ?_;try simp -dsimp [hs])|(refine CallE.pure (c2) ?_;try simp -dsimp [hs])|(with_reducible refine DT_regionE [0,1,2,3,8,12] ?_;simp -dsimp [hs])|(refine DT_cond rfl (fun h=>?_) (fun h=>?_)<;>(try simp only [nrm] at h)<;>(try exact Bool.noConfusion h))
   all_goals try simp -dsimp [hs]
   all_goals try clear hs
  ·have hs:True:=trivial
   repeat' first|(with_reducible first|refine q01 ?_|refine q11 ?_|refine q14 ?_|refine q17 ?_)|(with_reducible refine At.fn_ret (by simp -dsimp [hs];exact rfl) ?_)|(refine CallE.pure (c1) ?_;try simp -dsimp [hs])|(refine CallE.pure (c2) ?_;try simp -dsimp [hs])|(with_reducible refine DT_regionE [0,1,2,3,8,12] ?_;simp -dsimp [hs])|(refine DT_cond rfl (fun h=>?_) (fun h=>?_)<;>(try simp only [nrm] at h)<;>(try exact Bool.noConfusion h))
   all_goals try simp -dsimp [hs]
   all_goals try clear hs
 ·have hE:caseE c=printsE c.p:=by unfold caseE;rw [if_pos h0]
  rw [hE]
  have hs:True:=trivial
  repeat' first|(with_reducible first|refine q01 ?_|refine q02 ?_|refine q11 ?_|refine q17 ?_)|(with_reducible refine At.fn_ret (by simp -dsimp [h0,hs];exact rfl) ?_)|(refine CallE.pure (c1) ?_;try simp -dsimp [h0,hs])|(with_reducible refine DT_regionE [0,1,2,3,8,12] ?_;simp -dsimp [h0,hs])|(refine DT_cond rfl (fun h=>?_) (fun h=>?_)<;>(try simp only [nrm] at h)<;>(try exact Bool.noConfusion h))
  all_goals try simp -dsimp [h0,hs]
  all_goals try clear hs
theorem rmade_c (c:Case) (k:Nat) (h1:k < c.pieces.length) (h2:k < c.loop.links.length) (hk:KC c) (objs:List DObj):DCall Tryz.prog G 28 [casev c,iv (k:Int)] objs (fun rr objs'=>rr=isv (madeL c k)∧objs'=objs):=by
 refine DCall.frame ?_ (by simp) (by simp) objs
 refine DCall_intro Tryz.func28 rfl Tryz.ntmps28 (by simp) rfl ?_
 try simp only [iv]
 rw [madeL_eq h1 h2]
 generalize hx:c.pieces[k]=x at *
 generalize hy:c.loop.links[k]=y at *
 have c1:=rPWorks_c (G:=G) c.p x.day x.holder y.drawing hk.p
 simp only [printsv,encPrints] at c1
 generalize worksO c.p x.day x.holder y.drawing=L at *
 generalize aboutE c.p x.day 1 x.holder y.drawing=e at *
 have hs:True:=trivial
 repeat' first|(with_reducible first|refine q01 ?_|refine q11 ?_|refine q17 ?_)|(with_reducible refine At.fn_ret (by simp -dsimp [hx,hy,h1,h2,hs];exact rfl) ?_)|(refine QCall_pure (c1) ?_;try simp -dsimp [hx,hy,h1,h2,hs])|(refine DT_regionM (id:=2) (nt:=31) 19 [0,1,2,4,5,6] mixed rfl (by kernel_rfl) ?_;simp -dsimp [hx,hy,h1,h2,hs])|(with_reducible refine DT_regionE [0,1,2,4,5,6] ?_;simp -dsimp [hx,hy,h1,h2,hs])
 all_goals try simp -dsimp [hx,hy,h1,h2,hs]
 all_goals try clear hs
theorem rLetters_c (c:Case) (n:Int) (hk:KC c) (objs:List DObj):DCall Tryz.prog G 12 [casev c,iv n] objs (fun rr objs'=>rr=.tup [isv (letO c n),iv (letE c n)]∧objs'=objs):=by
 refine DCall.frame ?_ (by simp) (by simp) objs
 refine DCall_intro Tryz.func12 rfl Tryz.ntmps12 (by simp) rfl ?_
 try simp only [iv]
 have c1:=rBCheck_c (G:=G) c hk
 have hq:=hk.q
 by_cases h0:caseE c=0
 ·have hok:=caseB_ok (caseE_yes h0).2
  have hE:letE c n=if 0≤n∧n < c.pieces.length then 0 else 2:=by unfold letE;rw [if_neg (by simp [h0])]
  have hlen:=hok.e
  have hl:=hok.l
  have hw:IntKind.i64.wrap ((c.pieces.length:Int) - 1)=(c.pieces.length:Int) - 1:=i64w (by omega) (by omega)
  have c2:=within10_c (G:=G) n 0 ((c.pieces.length:Int) - 1)
  unfold letO
  rw [hE]
  rw [h0] at c1
  by_cases hn:0≤n∧n < c.pieces.length
  ·rw [if_pos hn,if_pos rfl]
   obtain ⟨k,rfl⟩:=Int.eq_ofNat_of_zero_le hn.1
   rw [Int.toNat_natCast]
   have c3:=rmade_c (G:=G) c k (by omega) (by omega) hk
   rw [show (decide (0≤(k:Int)) && decide ((k:Int)≤(c.pieces.length:Int) - 1))=true by simp;omega] at c2
   generalize madeL c k=L at *
   simp only [casev,encCase] at c1 c3
   have hs:True:=trivial
   repeat' first|(with_reducible first|refine q01 ?_|refine q11 ?_|refine q14 ?_|refine q17 ?_)|(with_reducible refine At.fn_ret (by simp -dsimp [hw,hs];exact rfl) ?_)|(refine CallE.pure (c1) ?_;try simp -dsimp [hw,hs])|(refine CallE.pure (c2) ?_;try simp -dsimp [hw,hs])|(refine CallE.pure (c3) ?_;try simp -dsimp [hw,hs])|(with_reducible refine DT_regionE [0,1,2,4,5,6,10,18] ?_;simp -dsimp [hw,hs])|(refine DT_cond rfl (fun h=>?_) (fun h=>?_)<;>(try simp only [nrm] at h)<;>(try exact Bool.noConfusion h))
   all_goals try simp -dsimp [hw,hs]
   all_goals try clear hs
  ·rw [if_neg hn,if_neg (by decide)]
   rw [show (decide (0≤n) && decide (n≤(c.pieces.length:Int) - 1))=false by simp;omega] at c2
   simp only [casev,encCase] at c1
   have hs:True:=trivial
   repeat' first|(with_reducible first|refine q01 ?_|refine q02 ?_|refine q11 ?_|refine q14 ?_|refine q17 ?_)|(with_reducible refine At.fn_ret (by simp -dsimp [hw,hs];exact rfl) ?_)|(refine CallE.pure (c1) ?_;try simp -dsimp [hw,hs])|(refine CallE.pure (c2) ?_;try simp -dsimp [hw,hs])|(with_reducible refine DT_regionE [0,1,2,4,5,6,10,18] ?_;simp -dsimp [hw,hs])|(refine DT_cond rfl (fun h=>?_) (fun h=>?_)<;>(try simp only [nrm] at h)<;>(try exact Bool.noConfusion h))
   all_goals try simp -dsimp [hw,hs]
   all_goals try clear hs
 ·have hE:letE c n=caseE c:=by unfold letE;rw [if_pos h0]
  have hO:letO c n=[]:=by unfold letO;rw [if_neg (by rw [hE];exact h0)]
  rw [hE,hO]
  simp only [casev,encCase] at c1
  have hs:True:=trivial
  repeat' first|(with_reducible first|refine q01 ?_|refine q02 ?_|refine q11 ?_|refine q17 ?_)|(with_reducible refine At.fn_ret (by simp -dsimp [h0,hs];exact rfl) ?_)|(refine CallE.pure (c1) ?_;try simp -dsimp [h0,hs])|(with_reducible refine DT_regionE [0,1,2,4,5,6,10,18] ?_;simp -dsimp [h0,hs])|(refine DT_cond rfl (fun h=>?_) (fun h=>?_)<;>(try simp only [nrm] at h)<;>(try exact Bool.noConfusion h))
  all_goals try simp -dsimp [h0,hs]
  all_goals try clear hs
end Go.Proofs
namespace Go.Proofs
open Go Go.Ab
set_option linter.unusedSimpArgs false
variable {G:Nat→Option (List IC)}
set_option maxHeartbeats 1000000 in
theorem twin7_c (p:Prints) (hs:SmallQ p) (objs:List DObj):DCall Tryz.prog G 22 [printsv p] objs (fun rr objs'=>rr=printsv p∧objs'=objs):=by
 refine DCall.frame ?_ (by simp) (by simp) objs
 refine DCall_intro Tryz.func22 rfl Tryz.ntmps22 (by simp) rfl ?_
 try simp only [iv]
 have c1:=twin3_c (G:=G) p.n hs.1
 have hl:=hs.2.1
 have hl2:=hs.2.2.1
 simp only [notesv,encNotes] at c1
 have hs:True:=trivial
 repeat' first|(with_reducible first|refine q01 ?_|refine q11 ?_|refine q12 ?_|refine And.intro (by omega) ?_)|(refine QCall_pure (c1) ?_;try simp -dsimp [hs])|(refine DT_regionXn (id:=1) (nt:=38) 9 [] [0,1,2,3,4,5,6,7,8,9,10,11,12,13,18] [0,1,2,3,4,5,18] mixed rfl (by kernel_rfl) ?_;simp -dsimp [hs])|(with_reducible refine DT_regionE [0,1,2,3,4,5,18] ?_;simp -dsimp [hs])
 all_goals try simp -dsimp [hs]
 all_goals try clear hs
 refine DT_weak (Weak.nilCell 6 2 rfl rfl) ?_
 refine DT_loop (ι:={ q:Nat×Nat×Nat×Bool // q.1≤p.holders.length∧(q.2.2.1=4∨q.2.2.2=true) }) (fun q=>⟨38,[(1,.one (.ptr 0 0)),(2,.one (.ptr 5 0)),(3,.one (.ptr 6 0)),(4,iv (q.1.1:Int))],[.row ((encPrints p).map .im),.vec 0 [] 0 true,.vec 0 [] 0 true,.vec 0 [] 0 true,.vec 0 [] 0 true,.row [.vec 1 0 0 0,.vec 2 0 0 0,.vec 3 0 0 0,.vec 4 0 0 0],.row [.im (.sl (p.n.reg.map encIssue)),.im (.sl (p.n.notes.map encNote)),.vec 7 q.1.2.1 0 q.1.1,.im (.sl (p.prints.map encPrint))],.vec q.1.2.2.1 (ims ((p.holders.take q.1.1).map encHolder)) q.1.2.1 q.1.2.2.2]⟩) (fun q=>p.holders.length - q.1.1) ⟨(0,0,0,true),by simp⟩ (Weak.of_keep [1,2,3,4] (by simp)) ?_
 rintro ⟨⟨k,g,sz,nl⟩,hk,hz⟩
 simp only at hk hz
 simp only [iv]
 have htk:(ims ((p.holders.map encHolder).take k)).take k=ims ((p.holders.map encHolder).take k):=List.take_of_length_le (by simp [ims_length];omega)
 by_cases hlt:k < p.holders.length
 ·have hx:p.holders[k]?=some p.holders[k]:=by simp [hlt]
  have hw:IntKind.i64.wrap ((k:Int) + 1)=((k + 1:Nat):Int):=i64w (by omega) (by omega)
  have hmin:min k p.holders.length=k:=Nat.min_eq_left (by omega)
  have hln:=hs.2.2.2 p.holders[k] (List.getElem_mem hlt)
  have hsn:(p.holders.map encHolder).take (k + 1)=(p.holders.map encHolder).take k ++ [encHolder p.holders[k]]:=by
   rw [List.take_succ];simp [hx]
  have hs:True:=trivial
  repeat' first|(with_reducible first|refine q01 ?_|refine q04 ?_|refine q11 ?_|refine q12 ?_|refine q14 ?_|refine And.intro (by omega) ?_)|(with_reducible refine DT_regionE [0,1,2,3,4,5,18] ?_;simp -dsimp [hx,hw,hlt,hz,hmin,hs])|(refine DT_cond rfl (fun h=>?_) (fun h=>?_)<;>(try simp only [nrm] at h)<;>(try exact Bool.noConfusion h))
  all_goals try simp -dsimp [hx,hw,hlt,hz,hmin,hs]
  all_goals try clear hs
  all_goals try omega
  exact At.round ⟨(k + 1,g + 1,4,false),by simp;omega⟩ (by simp;omega) (Weak.of_drop [1,2,3,4] 8 (by simp) (by simp) (by simp [hsn,htk,ims_append]))
 ·have hkl:k=p.holders.length:=by omega
  subst hkl
  have hall:(p.holders.map encHolder).take p.holders.length=p.holders.map encHolder:=List.take_of_length_le (by simp)
  rw [hall] at htk
  have hs:True:=trivial
  repeat' first|(with_reducible first|refine q01 ?_|refine q03 ?_|refine q06 ?_|refine q11 ?_|refine q16 ?_|refine q17 ?_)|(with_reducible refine At.fn_ret (by simp -dsimp [hall,htk,hs];exact rfl) ?_)|(with_reducible refine DT_regionE [0,1,2,3,4,5,18] ?_;simp -dsimp [hall,htk,hs])|(refine DT_cond rfl (fun h=>?_) (fun h=>?_)<;>(try simp only [nrm] at h)<;>(try exact Bool.noConfusion h))
  all_goals try simp -dsimp [hall,htk,hs]
  all_goals try clear hs
end Go.Proofs
namespace Go.Proofs
open Go Go.Ab
set_option linter.unusedSimpArgs false
variable {G:Nat→Option (List IC)}
def SmallK (c:Case):Prop:=SmallQ c.p∧c.loop.links.length≤16∧c.pieces.length≤16
def smallKB (c:Case):Bool:=smallQB c.p && (decide (c.loop.links.length≤16) && decide (c.pieces.length≤16))
theorem great10_c (c:Case) (objs:List DObj):DCall Tryz.prog G 5 [casev c] objs (fun rr objs'=>rr=bv (!smallKB c)∧objs'=objs):=by
 refine DCall.frame ?_ (by simp) (by simp) objs
 refine DCall_intro Tryz.func5 rfl Tryz.ntmps5 (by simp) rfl ?_
 try simp only [iv]
 have c1:=great7_c (G:=G) c.p
 simp only [printsv,encPrints] at c1
 unfold smallKB
 generalize smallQB c.p=b at *
 have hs:True:=trivial
 by_cases h1:c.loop.links.length≤16
 ·have h1':¬ (16:Int) < c.loop.links.length:=by omega
  by_cases h2:c.pieces.length≤16
  ·have h2':¬ (16:Int) < c.pieces.length:=by omega
   cases b
   all_goals
    have hs:True:=trivial
    repeat' first|(with_reducible first|refine q01 ?_|refine q11 ?_|refine q17 ?_)|(with_reducible refine At.fn_ret (by simp -dsimp [h1,h2,h1',h2',hs];exact rfl) ?_)|(refine CallE.pure (c1) ?_;try simp -dsimp [h1,h2,h1',h2',hs])|(with_reducible refine DT_regionE [0,1,2] ?_;simp -dsimp [h1,h2,h1',h2',hs])
    all_goals try simp -dsimp [h1,h2,h1',h2',hs]
    all_goals try clear hs
  ·have h2':(16:Int) < c.pieces.length:=by omega
   cases b
   all_goals
    have hs:True:=trivial
    repeat' first|(with_reducible first|refine q01 ?_|refine q11 ?_|refine q17 ?_)|(with_reducible refine At.fn_ret (by simp -dsimp [h1,h2,h1',h2',hs];exact rfl) ?_)|(refine CallE.pure (c1) ?_;try simp -dsimp [h1,h2,h1',h2',hs])|(with_reducible refine DT_regionE [0,1,2] ?_;simp -dsimp [h1,h2,h1',h2',hs])
    all_goals try simp -dsimp [h1,h2,h1',h2',hs]
    all_goals try clear hs
 ·have h1':(16:Int) < c.loop.links.length:=by omega
  cases b
  all_goals
   have hs:True:=trivial
   repeat' first|(with_reducible first|refine q01 ?_|refine q11 ?_|refine q17 ?_)|(with_reducible refine At.fn_ret (by simp -dsimp [h1,h1',hs];exact rfl) ?_)|(refine CallE.pure (c1) ?_;try simp -dsimp [h1,h1',hs])|(with_reducible refine DT_regionE [0,1,2] ?_;simp -dsimp [h1,h1',hs])
   all_goals try simp -dsimp [h1,h1',hs]
   all_goals try clear hs
set_option maxHeartbeats 1000000 in
theorem same10_c (c:Case) (hs:SmallK c) (objs:List DObj):DCall Tryz.prog G 16 [casev c,casev c] objs (fun rr objs'=>rr=bv true∧objs'=objs):=by
 refine DCall.frame ?_ (by simp) (by simp) objs
 refine DCall_intro Tryz.func16 rfl Tryz.ntmps16 (by simp) rfl ?_
 try simp only [iv]
 have c1:=same7_c (G:=G) c.p hs.1
 have hl:=hs.2.1
 have hq:=hs.2.2
 simp only [printsv,encPrints] at c1
 have hs:True:=trivial
 repeat' first|(with_reducible first|refine q01 ?_|refine q11 ?_|refine q12 ?_|refine q14 ?_)|(refine CallE.pure (c1) ?_;try simp -dsimp [hs])|(with_reducible refine DT_regionE [0,1,2,3,4,5,6,55,61,76,81,94] ?_;simp -dsimp [hs])|(refine DT_cond rfl (fun h=>?_) (fun h=>?_)<;>(try simp only [nrm] at h)<;>(try exact Bool.noConfusion h))
 all_goals try simp -dsimp [hs]
 all_goals try clear hs
 refine DT_loop (ι:={ k:Nat // k≤c.loop.links.length }) (fun q=>⟨95,[(2,.one (.ptr 0 0)),(3,.one (.ptr 1 0)),(5,iv (q.1:Int))],[.row ((encCase c).map .im),.row ((encCase c).map .im)]⟩) (fun q=>c.loop.links.length - q.1) ⟨0,by simp⟩ (Weak.of_keep [2,3,5] (by simp)) ?_
 rintro ⟨k,hk⟩
 simp only [iv]
 by_cases hlt:k < c.loop.links.length
 ·have hw:IntKind.i64.wrap ((k:Int) + 1)=((k + 1:Nat):Int):=i64w (by omega) (by omega)
  generalize hx:c.loop.links[k]=x at *
  have hs:True:=trivial
  repeat' first|(with_reducible first|refine q01 ?_|refine q04 ?_|refine q11 ?_|refine q12 ?_|refine q14 ?_)|(refine DT_regionM (id:=6) (nt:=95) 13 [0,1,2,3,4,5,6,55,61,76,81,94] mixed rfl (by kernel_rfl) ?_;simp -dsimp [hx,hlt,hw,hs])|(with_reducible refine DT_regionE [0,1,2,3,4,5,6,55,61,76,81,94] ?_;simp -dsimp [hx,hlt,hw,hs])|(refine DT_cond rfl (fun h=>?_) (fun h=>?_)<;>(try simp only [nrm] at h)<;>(try exact Bool.noConfusion h))
  all_goals try simp -dsimp [hx,hlt,hw,hs]
  all_goals try clear hs
  exact At.round ⟨k + 1,by omega⟩ (by simp;omega) (Weak.of_keep [2,3,5] (by simp))
 have hs:True:=trivial
 repeat' first|(with_reducible first|refine q01 ?_|refine q03 ?_|refine q06 ?_|refine q11 ?_|refine q12 ?_|refine q16 ?_)|(with_reducible refine DT_regionE [0,1,2,3,4,5,6,55,61,76,81,94] ?_;simp -dsimp [hlt,hs])|(refine DT_cond rfl (fun h=>?_) (fun h=>?_)<;>(try simp only [nrm] at h)<;>(try exact Bool.noConfusion h))
 all_goals try simp -dsimp [hlt,hs]
 all_goals try clear hs
 clear hlt hk
 refine DT_loop (ι:={ k:Nat // k≤c.pieces.length }) (fun q=>⟨95,[(2,.one (.ptr 0 0)),(3,.one (.ptr 1 0)),(6,iv (q.1:Int))],[.row ((encCase c).map .im),.row ((encCase c).map .im)]⟩) (fun q=>c.pieces.length - q.1) ⟨0,by simp⟩ (Weak.of_keep [2,3,6] (by simp)) ?_
 rintro ⟨k,hk⟩
 simp only [iv]
 by_cases hlt:k < c.pieces.length
 ·have hw:IntKind.i64.wrap ((k:Int) + 1)=((k + 1:Nat):Int):=i64w (by omega) (by omega)
  generalize hx:c.pieces[k]=x at *
  have hs:True:=trivial
  repeat' first|(with_reducible first|refine q01 ?_|refine q04 ?_|refine q11 ?_|refine q12 ?_|refine q14 ?_)|(refine DT_regionM (id:=11) (nt:=95) 11 [0,1,2,3,4,5,6,55,61,76,81,94] mixed rfl (by kernel_rfl) ?_;simp -dsimp [hx,hlt,hw,hs])|(with_reducible refine DT_regionE [0,1,2,3,4,5,6,55,61,76,81,94] ?_;simp -dsimp [hx,hlt,hw,hs])|(refine DT_cond rfl (fun h=>?_) (fun h=>?_)<;>(try simp only [nrm] at h)<;>(try exact Bool.noConfusion h))
  all_goals try simp -dsimp [hx,hlt,hw,hs]
  all_goals try clear hs
  exact At.round ⟨k + 1,by omega⟩ (by simp;omega) (Weak.of_keep [2,3,6] (by simp))
 ·have hs:True:=trivial
  repeat' first|(with_reducible first|refine q01 ?_|refine q03 ?_|refine q06 ?_|refine q11 ?_|refine q16 ?_|refine q17 ?_)|(with_reducible refine At.fn_ret (by simp -dsimp [hlt,hs];exact rfl) ?_)|(with_reducible refine DT_regionE [0,1,2,3,4,5,6,55,61,76,81,94] ?_;simp -dsimp [hlt,hs])|(refine DT_cond rfl (fun h=>?_) (fun h=>?_)<;>(try simp only [nrm] at h)<;>(try exact Bool.noConfusion h))
  all_goals try simp -dsimp [hlt,hs]
  all_goals try clear hs
theorem twin10_c (c:Case) (hs:SmallK c) (objs:List DObj):DCall Tryz.prog G 6 [casev c] objs (fun rr objs'=>rr=casev c∧objs'=objs):=by
 refine DCall.frame ?_ (by simp) (by simp) objs
 refine DCall_intro Tryz.func6 rfl Tryz.ntmps6 (by simp) rfl ?_
 try simp only [iv]
 have c1:=twin7_c (G:=G) c.p hs.1
 have hl:=hs.2.1
 have hq:=hs.2.2
 simp only [printsv,encPrints] at c1
 have hs:True:=trivial
 repeat' first|(with_reducible first|refine q01 ?_|refine q11 ?_|refine q17 ?_|refine And.intro (by omega) ?_)|(with_reducible refine At.fn_ret (by simp -dsimp [hs];exact rfl) ?_)|(refine CallE.pure (c1) ?_;try simp -dsimp [hs])|(refine DT_regionM (id:=2) (nt:=20) 11 [0,1,2] mixed rfl (by kernel_rfl) ?_;simp -dsimp [hs])|(with_reducible refine DT_regionE [0,1,2] ?_;simp -dsimp [hs])
 all_goals try simp -dsimp [hs]
 all_goals try clear hs
end Go.Proofs
namespace Go.Proofs
open Go Go.Ab
set_option linter.unusedSimpArgs false
variable {G:Nat→Option (List IC)}
def printIn (x:Print):Prop:=0≤x.lost∧x.lost≤255
def PKind (p:Prints):Prop:=NKind p.n∧∀ x∈p.prints,printIn x
theorem KC_of {c:Case} (hk:PKind c.p) (h:smallKB c=true):SmallK c∧KC c:=by
 simp only [smallKB,smallQB,Bool.and_eq_true,decide_eq_true_eq,List.all_eq_true] at h
 obtain ⟨⟨h1,h2,h3,h4⟩,h5,h6⟩:=h
 obtain ⟨hN,hM⟩:=NSm_of hk.1 h1
 have hr:=hM.1.1
 have hnl:(nums c.p.n.reg).length≤c.p.n.reg.length:=numsTo_length c.p.n.reg c.p.n.reg.length
 exact ⟨⟨⟨hN,h2,h3,h4⟩,h5,h6⟩,⟨⟨hM,⟨by omega,by omega,h2,h3,h4,hk.2⟩⟩,h5,h6⟩⟩
theorem worksP_len (d i w:Int) (l:List Print):(worksP d i w l).length≤l.length + 1:=by
 unfold worksP
 rw [List.length_drop]
 have h1:=dedupI_len (isort (perL d i w l ++ [surV d i w l]))
 rw [isort_len,List.length_append,List.length_singleton] at h1
 have h2:=perL_len d i w l
 omega
theorem letO_len (c:Case) (n:Int):(letO c n).length≤c.p.prints.length + 1:=by
 unfold letO
 split
 ·unfold madeL
  split
  ·unfold worksO
   split
   ·exact worksP_len _ _ _ _
   ·simp
  ·simp
 ·simp
end Go.Proofs
namespace Go.Proofs
open Go Go.Ab
theorem len7 {α:Type} {l:List α} (h:l.length=7):∃ a b c d e f g,l=[a,b,c,d,e,f,g]:=by
 match l,h with
 | [a,b,c,d,e,f,g],_=>exact ⟨a,b,c,d,e,f,g,rfl⟩
theorem len6 {α:Type} {l:List α} (h:l.length=6):∃ a b c d e f,l=[a,b,c,d,e,f]:=by
 match l,h with
 | [a,b,c,d,e,f],_=>exact ⟨a,b,c,d,e,f,rfl⟩
theorem oRef2:Opens Tryz.prog 80 (fun l=>∃ n m:Int,l=[rI n,rI m]):=(Opens.struct Tryz.underlying80 (by kernel_rfl) (fun _ l=>∃ n:Int,l=[rI n]) (fun i f hf=>by
 rcases i with _|_|i<;>simp at hf<;>subst hf<;>exact oInt)).mono (by
 rintro l ⟨ls,h1,h2,rfl⟩
 obtain ⟨a,b,rfl⟩:=len2 h1
 obtain ⟨x,rfl⟩:=h2 0 a rfl
 obtain ⟨y,rfl⟩:=h2 1 b rfl
 exact ⟨x,y,rfl⟩)
def holderP:Nat→List IC→Prop
 | 3=>fun l=>∃ xs:List Int,l=[.sl (xs.map encI)]
 | _=>fun l=>∃ n:Int,l=[rI n]
theorem rdHolder:Rd 78 encHolder (fun _=>True):=(Opens.struct Tryz.underlying78 (by kernel_rfl) holderP (fun i f hf=>by
 rcases i with _|_|_|_|i<;>simp at hf<;>subst hf
 ·exact oInt
 ·exact oInt
 ·exact oInt
 ·exact oInts)).mono (by
 rintro l ⟨ls,h1,h2,rfl⟩
 obtain ⟨a,b,c,d,rfl⟩:=len4 h1
 obtain ⟨x,rfl⟩:=h2 0 a rfl
 obtain ⟨y,rfl⟩:=h2 1 b rfl
 obtain ⟨z,rfl⟩:=h2 2 c rfl
 obtain ⟨u,rfl⟩:=h2 3 d rfl
 exact ⟨⟨x,y,z,u⟩,trivial,rfl⟩)
theorem oHolders:Opens Tryz.prog 28 (fun l=>∃ xs:List Holder,l=[.sl (xs.map encHolder)]):=
 (Opens.sliceOf Tryz.underlying28 (sz:=4) (by kernel_rfl) (by decide) (fun _=>rfl) rdHolder).mono (by rintro l ⟨xs,_,h⟩;exact ⟨xs,h⟩)
def printP:Nat→List IC→Prop
 | 3=>fun l=>∃ n m:Int,l=[rI n,rI m]
 | 5=>fun l=>∃ n:Int,(0≤n∧n≤255)∧l=[.raw (.int .u8 n)]
 | _=>fun l=>∃ n:Int,l=[rI n]
theorem rdPrint:Rd 82 encPrint printIn:=(Opens.struct Tryz.underlying82 (by kernel_rfl) printP (fun i f hf=>by
 rcases i with _|_|_|_|_|_|i<;>simp at hf<;>subst hf
 ·exact oInt
 ·exact oInt
 ·exact oInt
 ·exact oRef2
 ·exact oInt
 ·exact oU8)).mono (by
 rintro l ⟨ls,h1,h2,rfl⟩
 obtain ⟨a,b,c,d,e,f,rfl⟩:=len6 h1
 obtain ⟨x0,rfl⟩:=h2 0 a rfl
 obtain ⟨x1,rfl⟩:=h2 1 b rfl
 obtain ⟨x2,rfl⟩:=h2 2 c rfl
 obtain ⟨x3,x4,rfl⟩:=h2 3 d rfl
 obtain ⟨x5,rfl⟩:=h2 4 e rfl
 obtain ⟨x6,k6,rfl⟩:=h2 5 f rfl
 exact ⟨⟨x0,x1,x2,x3,x4,x5,x6⟩,k6,rfl⟩)
theorem oPrintL:Opens Tryz.prog 29 (fun l=>∃ xs:List Print,(∀ x∈xs,printIn x)∧l=[.sl (xs.map encPrint)]):=
 Opens.sliceOf Tryz.underlying29 (sz:=7) (by kernel_rfl) (by decide) (fun _=>rfl) rdPrint
def printsP:Nat→List IC→Prop
 | 0=>fun l=>∃ x:Notes,NKind x∧l=encNotes x
 | 1=>fun l=>∃ xs:List Holder,l=[.sl (xs.map encHolder)]
 | _=>fun l=>∃ xs:List Print,(∀ x∈xs,printIn x)∧l=[.sl (xs.map encPrint)]
theorem rdPrints:Rd 31 encPrints PKind:=(Opens.struct Tryz.underlying31 (by kernel_rfl) printsP (fun i f hf=>by
 rcases i with _|_|_|i<;>simp at hf<;>subst hf
 ·exact rdNotes
 ·exact oHolders
 ·exact oPrintL)).mono (by
 rintro l ⟨ls,h1,h2,rfl⟩
 obtain ⟨a,b,c,rfl⟩:=len3 h1
 obtain ⟨x,hx,rfl⟩:=h2 0 a rfl
 obtain ⟨y,rfl⟩:=h2 1 b rfl
 obtain ⟨z,hz,rfl⟩:=h2 2 c rfl
 exact ⟨⟨x,y,z⟩,⟨hx,hz⟩,rfl⟩)
theorem rdPiece:Rd 86 encPiece (fun _=>True):=(Opens.struct Tryz.underlying86 (by kernel_rfl) (pick3 (fun _=>True) (fun l=>∃ n:Int,l=[rI n]) (fun l=>∃ n:Int,l=[rI n]) (fun l=>∃ n m:Int,l=[rI n,rI m])) (fun i f hf=>by
 rcases i with _|_|_|i<;>simp at hf<;>subst hf
 ·exact oInt
 ·exact oInt
 ·exact oGap)).mono (by
 rintro l ⟨ls,h1,h2,rfl⟩
 obtain ⟨a,b,c,rfl⟩:=len3 h1
 obtain ⟨x,rfl⟩:=h2 0 a rfl
 obtain ⟨y,rfl⟩:=h2 1 b rfl
 obtain ⟨z,u,rfl⟩:=h2 2 c rfl
 exact ⟨⟨x,y,z,u⟩,trivial,rfl⟩)
theorem oPieces:Opens Tryz.prog 37 (fun l=>∃ xs:List Piece,l=[.sl (xs.map encPiece)]):=
 (Opens.sliceOf Tryz.underlying37 (sz:=4) (by kernel_rfl) (by decide) (fun _=>rfl) rdPiece).mono (by rintro l ⟨xs,_,h⟩;exact ⟨xs,h⟩)
def caseP:Nat→List IC→Prop
 | 0=>fun l=>∃ x:Prints,PKind x∧l=encPrints x
 | 3=>fun l=>∃ x:ChLoop,True∧l=encLoop x
 | 4=>fun l=>∃ xs:List Piece,l=[.sl (xs.map encPiece)]
 | _=>fun l=>∃ n:Int,l=[rI n]
theorem rdCase:Rd 39 encCase (fun c=>PKind c.p):=(Opens.struct Tryz.underlying39 (by kernel_rfl) caseP (fun i f hf=>by
 rcases i with _|_|_|_|_|i<;>simp at hf<;>subst hf
 ·exact rdPrints
 ·exact oInt
 ·exact oInt
 ·exact rdLoop
 ·exact oPieces)).mono (by
 rintro l ⟨ls,h1,h2,rfl⟩
 obtain ⟨a,b,c,d,e,rfl⟩:=len5 h1
 obtain ⟨x,hx,rfl⟩:=h2 0 a rfl
 obtain ⟨y,rfl⟩:=h2 1 b rfl
 obtain ⟨z,rfl⟩:=h2 2 c rfl
 obtain ⟨u,-,rfl⟩:=h2 3 d rfl
 obtain ⟨v,rfl⟩:=h2 4 e rfl
 exact ⟨⟨x,y,z,u,v⟩,hx,rfl⟩)
end Go.Proofs
namespace Go.Proofs
open Go Go.Ab
set_option linter.unusedSimpArgs false
variable {G:Nat→Option (List IC)}
def szY (c:Case) (y:Link) (lt:Int):Option Dim:=(findI c.p.n.reg y.drawing lt).bind fun x=>x.dims[y.dim.toNat]?
theorem sizeOf_c (c:Case) (k:Nat) (y:Link) (lt:Int) (hy0:c.loop.links[k]?=some y) (hd:0≤y.dim) (h0:checkR c.p.n.reg=0) (hG:sheetG G) (hk:KC c) (objs:List DObj):DCall Tryz.prog G 37 [casev c,iv (k:Int),iv lt] objs (fun rr objs'=>rr=.tup [dimv ((szY c y lt).getD zDim),bv (szY c y lt).isSome]∧objs'=objs):=by
 refine DCall.frame ?_ (by simp) (by simp) objs
 refine DCall_intro Tryz.func37 rfl Tryz.ntmps37 (by simp) rfl ?_
 try simp only [iv,iv]
 have hlt:k < c.loop.links.length:=lt_of_getElem? hy0
 have hy:c.loop.links[k]=y:=(List.getElem?_eq_some_iff.1 hy0).2
 have c1:=at_c (G:=G) c.p.n.reg y.drawing lt hG hk.p.n.1
 obtain ⟨j,hj⟩:=Int.eq_ofNat_of_zero_le hd
 simp only [regv,refv] at c1
 unfold szY
 unfold atR atE at c1
 rw [if_pos h0,if_neg (by simp [h0])] at c1
 have hdn:y.dim.toNat=j:=by rw [hj];simp
 cases hfi:findI c.p.n.reg y.drawing lt with
 | none =>
   rw [hfi] at c1
   simp only [Option.isSome_none,Option.getD_none,Bool.false_eq_true,if_false,zIssue] at c1
   have hs:True:=trivial
   repeat' first|(with_reducible first|refine q01 ?_|refine q02 ?_|refine q11 ?_|refine q17 ?_)|(with_reducible refine At.fn_ret (by simp -dsimp [hy,hlt,hs];exact rfl) ?_)|(refine CallE.pure (c1) ?_;try simp -dsimp [hy,hlt,hs])|(with_reducible refine DT_regionE [0,1,2,3,6,7,8,9,10,38] ?_;simp -dsimp [hy,hlt,hs])|(refine DT_cond rfl (fun h=>?_) (fun h=>?_)<;>(try simp only [nrm] at h)<;>(try exact Bool.noConfusion h))
   all_goals try simp -dsimp [hy,hlt,hs]
   all_goals try clear hs
   all_goals exact ⟨rfl,rfl,rfl⟩
 | some x =>
   rw [hfi] at c1
   simp only [Option.isSome_some,Option.getD_some,if_true] at c1
   simp only [Option.bind_some,hdn]
   by_cases hx:j < x.dims.length
   ·have hx1:x.dims[j]?=some x.dims[j]:=by simp [hx]
    have hxi:¬ ((x.dims.length:Int)≤(j:Int)):=by omega
    rw [hx1]
    generalize hz:x.dims[j]=z at *
    simp only [Option.isSome_some,Option.getD_some]
    have hs:True:=trivial
    repeat' first|(with_reducible first|refine q01 ?_|refine q11 ?_|refine q14 ?_|refine q17 ?_)|(with_reducible refine At.fn_ret (by simp -dsimp [hy,hlt,hj,hx,hxi,hz,hx1,hs];exact rfl) ?_)|(refine CallE.pure (c1) ?_;try simp -dsimp [hy,hlt,hj,hx,hxi,hz,hx1,hs])|(with_reducible refine DT_regionE [0,1,2,3,6,7,8,9,10,38] ?_;simp -dsimp [hy,hlt,hj,hx,hxi,hz,hx1,hs])|(refine DT_cond rfl (fun h=>?_) (fun h=>?_)<;>(try simp only [nrm] at h)<;>(try exact Bool.noConfusion h))
    all_goals try simp -dsimp [hy,hlt,hj,hx,hxi,hz,hx1,hs]
    all_goals try clear hs
   ·have hxi:(x.dims.length:Int)≤(j:Int):=by omega
    rw [List.getElem?_eq_none (by omega)]
    simp only [Option.isSome_none,Option.getD_none]
    have hs:True:=trivial
    repeat' first|(with_reducible first|refine q01 ?_|refine q02 ?_|refine q11 ?_|refine q17 ?_)|(with_reducible refine At.fn_ret (by simp -dsimp [hy,hlt,hj,hxi,hs];exact rfl) ?_)|(refine CallE.pure (c1) ?_;try simp -dsimp [hy,hlt,hj,hxi,hs])|(with_reducible refine DT_regionE [0,1,2,3,6,7,8,9,10,38] ?_;simp -dsimp [hy,hlt,hj,hxi,hs])|(refine DT_cond rfl (fun h=>?_) (fun h=>?_)<;>(try simp only [nrm] at h)<;>(try exact Bool.noConfusion h))
    all_goals try simp -dsimp [hy,hlt,hj,hxi,hs]
    all_goals try clear hs
    all_goals exact ⟨rfl,rfl,rfl⟩
theorem rsizeOf_c (c:Case) (k:Nat) (y:Link) (lt:Int) (hy0:c.loop.links[k]?=some y) (hd:0≤y.dim) (hk:KC c) (objs:List DObj):DCall Tryz.prog G 38 [casev c,iv (k:Int),iv lt] objs (fun rr objs'=>rr=.tup [dimv ((szY c y lt).getD zDim),bv (szY c y lt).isSome]∧objs'=objs):=by
 refine DCall.frame ?_ (by simp) (by simp) objs
 refine DCall_intro Tryz.func38 rfl Tryz.ntmps38 (by simp) rfl ?_
 try simp only [iv,iv]
 have hlt:k < c.loop.links.length:=lt_of_getElem? hy0
 have hy:c.loop.links[k]=y:=(List.getElem?_eq_some_iff.1 hy0).2
 have c1:=find_c (G:=G) c.p.n.reg y.drawing lt (by have:=hk.p.p.l;omega)
 obtain ⟨j,hj⟩:=Int.eq_ofNat_of_zero_le hd
 simp only [regv,refv] at c1
 unfold szY
 have hdn:y.dim.toNat=j:=by rw [hj];simp
 cases hfi:findI c.p.n.reg y.drawing lt with
 | none =>
   rw [hfi] at c1
   simp only [Option.isSome_none,Option.getD_none,zIssue] at c1
   have hs:True:=trivial
   repeat' first|(with_reducible first|refine q01 ?_|refine q02 ?_|refine q11 ?_|refine q17 ?_)|(with_reducible refine At.fn_ret (by simp -dsimp [hy,hlt,hs];exact rfl) ?_)|(refine CallE.pure (c1) ?_;try simp -dsimp [hy,hlt,hs])|(with_reducible refine DT_regionE [0,1,2,3,6,7,8,9,10,38] ?_;simp -dsimp [hy,hlt,hs])|(refine DT_cond rfl (fun h=>?_) (fun h=>?_)<;>(try simp only [nrm] at h)<;>(try exact Bool.noConfusion h))
   all_goals try simp -dsimp [hy,hlt,hs]
   all_goals try clear hs
   all_goals exact ⟨rfl,rfl,rfl⟩
 | some x =>
   rw [hfi] at c1
   simp only [Option.isSome_some,Option.getD_some] at c1
   simp only [Option.bind_some,hdn]
   by_cases hx:j < x.dims.length
   ·have hx1:x.dims[j]?=some x.dims[j]:=by simp [hx]
    have hxi:¬ ((x.dims.length:Int)≤(j:Int)):=by omega
    rw [hx1]
    generalize hz:x.dims[j]=z at *
    simp only [Option.isSome_some,Option.getD_some]
    have hs:True:=trivial
    repeat' first|(with_reducible first|refine q01 ?_|refine q11 ?_|refine q14 ?_|refine q17 ?_)|(with_reducible refine At.fn_ret (by simp -dsimp [hy,hlt,hj,hx,hxi,hz,hx1,hs];exact rfl) ?_)|(refine CallE.pure (c1) ?_;try simp -dsimp [hy,hlt,hj,hx,hxi,hz,hx1,hs])|(with_reducible refine DT_regionE [0,1,2,3,6,7,8,9,10,38] ?_;simp -dsimp [hy,hlt,hj,hx,hxi,hz,hx1,hs])|(refine DT_cond rfl (fun h=>?_) (fun h=>?_)<;>(try simp only [nrm] at h)<;>(try exact Bool.noConfusion h))
    all_goals try simp -dsimp [hy,hlt,hj,hx,hxi,hz,hx1,hs]
    all_goals try clear hs
   ·have hxi:(x.dims.length:Int)≤(j:Int):=by omega
    rw [List.getElem?_eq_none (by omega)]
    simp only [Option.isSome_none,Option.getD_none]
    have hs:True:=trivial
    repeat' first|(with_reducible first|refine q01 ?_|refine q02 ?_|refine q11 ?_|refine q17 ?_)|(with_reducible refine At.fn_ret (by simp -dsimp [hy,hlt,hj,hxi,hs];exact rfl) ?_)|(refine CallE.pure (c1) ?_;try simp -dsimp [hy,hlt,hj,hxi,hs])|(with_reducible refine DT_regionE [0,1,2,3,6,7,8,9,10,38] ?_;simp -dsimp [hy,hlt,hj,hxi,hs])|(refine DT_cond rfl (fun h=>?_) (fun h=>?_)<;>(try simp only [nrm] at h)<;>(try exact Bool.noConfusion h))
    all_goals try simp -dsimp [hy,hlt,hj,hxi,hs]
    all_goals try clear hs
    all_goals exact ⟨rfl,rfl,rfl⟩
end Go.Proofs
namespace Go.Proofs
open Go Go.Ab
set_option linter.unusedSimpArgs false
variable {G:Nat→Option (List IC)}
theorem letE_yes {c:Case} {n:Int} (h:letE c n=0):caseE c=0∧0≤n∧n < c.pieces.length:=by
 unfold letE at h
 by_cases h0:caseE c=0
 ·rw [if_neg (by simp [h0])] at h
  by_cases h1:0≤n∧n < c.pieces.length
  ·exact ⟨h0,h1⟩
  ·rw [if_neg h1] at h;exact absurd h (by decide)
 ·rw [if_pos h0] at h;exact absurd h h0
theorem caseB_dim {c:Case} (h:caseB c=true) {k:Nat} {y:Link} (hy:c.loop.links[k]?=some y):0≤y.dim∧y.dim≤3:=by
 have hok:=caseB_ok h
 have hlt:=lt_of_getElem? hy
 have hlen:=hok.e
 rw [caseB_eq,Bool.and_eq_true,List.all_eq_true] at h
 have h3:k < (c.loop.links.zip c.pieces).length:=by rw [List.length_zip];omega
 have:=h.2 _ (List.getElem_mem h3)
 rw [List.getElem_zip] at this
 simp only [linkOk,Bool.and_eq_true,decide_eq_true_eq] at this
 rw [(List.getElem?_eq_some_iff.1 hy).2] at this
 exact this.2.1
def clrStep (c:Case) (y:Link) (s:Int×Int) (lt:Int):Int×Int:=match szY c y lt with
 | some d=>(max s.1 d.lower,min s.2 d.upper)
 | none=>s
noncomputable def clrS (c:Case) (n:Int):Int×Int:=match c.pieces[n.toNat]?,c.loop.links[n.toNat]? with
 | some x,some y=>(letO c n).foldl (clrStep c y) (x.lo,x.hi)
 | _,_=>(0,0)
noncomputable def clrE (c:Case) (n:Int):Int:=if letE c n≠0 then letE c n else if (clrS c n).2 < (clrS c n).1 then 6 else 0
noncomputable def clrO (c:Case) (n:Int):Int×Int:=if clrE c n=0 then clrS c n else (0,0)
theorem clr_step (c:Case) (y:Link) (s:Int×Int) {L:List Int} {k:Nat} (h:k < L.length):(L.take (k + 1)).foldl (clrStep c y) s=clrStep c y ((L.take k).foldl (clrStep c y) s) L[k]:=by
 rw [List.take_succ_eq_append_getElem h,List.foldl_append]
 rfl
set_option maxHeartbeats 2000000 in
theorem bClear_c (c:Case) (n:Int) (hG:sheetG G) (hN:noteG G) (hS:SortOk G) (hR:recallG G) (hk:KC c) (objs:List DObj):DCall Tryz.prog G 17 [casev c,iv n] objs (fun rr objs'=>rr=.tup [refv (clrO c n).1 (clrO c n).2,iv (clrE c n)]∧objs'=objs):=by
 refine DCall.frame ?_ (by simp) (by simp) objs
 refine DCall_intro Tryz.func17 rfl Tryz.ntmps17 (by simp) rfl ?_
 try simp only [iv]
 have c1:=bLetters_c (G:=G) c n hG hN hS hR hk
 simp only [casev,encCase] at c1
 by_cases h0:letE c n=0
 ·obtain ⟨he,hn0,hn1⟩:=letE_yes h0
  obtain ⟨hp0,hcb⟩:=caseE_yes he
  have hr0:=(printsE_yes hp0).2.2
  have hlen:=(caseB_ok hcb).e
  obtain ⟨k,rfl⟩:=Int.eq_ofNat_of_zero_le hn0
  have hlt1:k < c.pieces.length:=by omega
  have hlt2:k < c.loop.links.length:=by omega
  have hx0:c.pieces[k]?=some c.pieces[k]:=by simp [hlt1]
  have hy0:c.loop.links[k]?=some c.loop.links[k]:=by simp [hlt2]
  have hyd:=caseB_dim hcb hy0
  have hE:clrE c (k:Int)=if (clrS c (k:Int)).2 < (clrS c (k:Int)).1 then 6 else 0:=by unfold clrE;rw [if_neg (by simp [h0])]
  have hO:clrO c (k:Int)=if (if (clrS c (k:Int)).2 < (clrS c (k:Int)).1 then (6:Int) else 0)=0 then clrS c (k:Int) else (0,0):=by unfold clrO;rw [hE]
  have hS':clrS c (k:Int)=(letO c (k:Int)).foldl (clrStep c c.loop.links[k]) (c.pieces[k].lo,c.pieces[k].hi):=by
   unfold clrS;rw [Int.toNat_natCast,hx0,hy0]
  have hll:=letO_len c (k:Int)
  have hpl:=hk.p.p.q
  rw [hS'] at hE hO
  rw [← hE] at hO
  clear hS'
  generalize clrE c (k:Int)=E at *
  generalize clrO c (k:Int)=O at *
  rw [h0] at c1
  have c2:=fun lt=>sizeOf_c (G:=G) c k _ lt hy0 hyd.1 hr0 hG hk
  generalize hx:c.pieces[k]=x at *
  generalize c.loop.links[k]=y at *
  generalize letO c (k:Int)=L at *
  simp only [casev,encCase] at c2
  have hs:True:=trivial
  repeat' first|(with_reducible first|refine q01 ?_|refine q11 ?_|refine q12 ?_|refine q14 ?_)|(refine CallE.pure (c1) ?_;try simp -dsimp [hx,hlt1,h0,hs])|(with_reducible refine DT_regionE [0,1,2,4,5,6,7,8,10,11,12,20,29,30,31,32,42,59] ?_;simp -dsimp [hx,hlt1,h0,hs])|(refine DT_cond rfl (fun h=>?_) (fun h=>?_)<;>(try simp only [nrm] at h)<;>(try exact Bool.noConfusion h))
  all_goals try simp -dsimp [hx,hlt1,h0,hs]
  all_goals try clear hs
  obtain ⟨S0,hS0⟩:∃ S0:Int×Int,S0=(x.lo,x.hi):=⟨_,rfl⟩
  rw [← hS0] at hE hO
  refine DT_loop (ι:={ q:Nat // q≤L.length }) (fun q=>⟨62,[(1,iv (k:Int)),(2,.one (.ptr 0 0)),(4,.one (.ptr 1 0)),(8,.one (.ptr 2 0)),(29,.one (.im (.sl (L.map encI)))),(30,iv (L.length:Int)),(31,iv (q.1:Int))],[.row ((encCase c).map .im),.row [.im (rI 0),.im (rI 0)],.row [.im (rI ((L.take q.1).foldl (clrStep c y) S0).1),.im (rI ((L.take q.1).foldl (clrStep c y) S0).2)]]⟩) (fun q=>L.length - q.1) ⟨0,by simp⟩ (Weak.of_keep [1,2,4,8,29,30,31] (by simp [hS0])) ?_
  rintro ⟨q,hq1⟩
  simp only [iv]
  by_cases hlq:q < L.length
  ·have hw:IntKind.i64.wrap ((q:Int) + 1)=((q + 1:Nat):Int):=i64w (by omega) (by omega)
   have hst:=clr_step c y S0 hlq
   have c3:=c2 L[q]
   generalize hv:L[q]=v at *
   generalize (L.take q).foldl (clrStep c y) S0=s at *
   cases hd:szY c y v with
   | none =>
     have hst2:clrStep c y s v=s:=by unfold clrStep;rw [hd]
     rw [hst2] at hst
     rw [hd] at c3
     simp only [Option.isSome_none,Option.getD_none] at c3
     have hs:True:=trivial
     repeat' first|(with_reducible first|refine q01 ?_|refine q04 ?_|refine q11 ?_|refine q12 ?_|refine q14 ?_)|(refine CallE.pure (c3) ?_;try simp -dsimp [hv,hlq,hw,hs])|(with_reducible refine DT_regionE [0,1,2,4,5,6,7,8,10,11,12,20,29,30,31,32,42,59] ?_;simp -dsimp [hv,hlq,hw,hs])|(refine DT_cond rfl (fun h=>?_) (fun h=>?_)<;>(try simp only [nrm] at h)<;>(try exact Bool.noConfusion h))
     all_goals try simp -dsimp [hv,hlq,hw,hs]
     all_goals try clear hs
     all_goals exact At.round ⟨q + 1,by omega⟩ (by simp;omega) (Weak.of_drop [1,2,4,8,29,30,31] 3 (by simp) (by simp) (by simp [hst]))
   | some z =>
     have hst2:clrStep c y s v=(max s.1 z.lower,min s.2 z.upper):=by unfold clrStep;rw [hd]
     rw [hst2] at hst
     rw [hd] at c3
     simp only [Option.isSome_some,Option.getD_some] at c3
     have hs:True:=trivial
     repeat' first|(with_reducible first|refine q01 ?_|refine q04 ?_|refine q11 ?_|refine q12 ?_|refine q14 ?_)|(refine CallE.pure (c3) ?_;try simp -dsimp [hv,hlq,hw,hs])|(with_reducible refine DT_regionE [0,1,2,4,5,6,7,8,10,11,12,20,29,30,31,32,42,59] ?_;simp -dsimp [hv,hlq,hw,hs])|(refine DT_cond rfl (fun h=>?_) (fun h=>?_)<;>(try simp only [nrm] at h)<;>(try exact Bool.noConfusion h))
     all_goals try simp -dsimp [hv,hlq,hw,hs]
     all_goals try clear hs
     all_goals exact At.round ⟨q + 1,by omega⟩ (by simp;omega) (Weak.of_drop [1,2,4,8,29,30,31] 3 (by simp) (by simp) (by simp [hst]))
  ·obtain rfl:q=L.length:=by omega
   simp only [List.take_length]
   generalize L.foldl (clrStep c y) S0=s at *
   by_cases hs2:s.2 < s.1
   ·rw [if_pos hs2] at hE;subst hE;rw [if_neg (show ¬ (6:Int)=0 by decide)] at hO;subst hO
    have hs:True:=trivial
    repeat' first|(with_reducible first|refine q01 ?_|refine q02 ?_|refine q03 ?_|refine q06 ?_|refine q11 ?_|refine q16 ?_|refine q17 ?_)|(with_reducible refine At.fn_ret (by simp -dsimp [hlq,hs2,hs];exact rfl) ?_)|(with_reducible refine DT_regionE [0,1,2,4,5,6,7,8,10,11,12,20,29,30,31,32,42,59] ?_;simp -dsimp [hlq,hs2,hs])|(refine DT_cond rfl (fun h=>?_) (fun h=>?_)<;>(try simp only [nrm] at h)<;>(try exact Bool.noConfusion h))
    all_goals try simp -dsimp [hlq,hs2,hs]
    all_goals try clear hs
   ·rw [if_neg hs2] at hE;subst hE;rw [if_pos (show (0:Int)=0 from rfl)] at hO;subst hO
    have hs:True:=trivial
    repeat' first|(with_reducible first|refine q01 ?_|refine q03 ?_|refine q06 ?_|refine q11 ?_|refine q14 ?_|refine q16 ?_|refine q17 ?_)|(with_reducible refine At.fn_ret (by simp -dsimp [hlq,hs2,hs];exact rfl) ?_)|(with_reducible refine DT_regionE [0,1,2,4,5,6,7,8,10,11,12,20,29,30,31,32,42,59] ?_;simp -dsimp [hlq,hs2,hs])|(refine DT_cond rfl (fun h=>?_) (fun h=>?_)<;>(try simp only [nrm] at h)<;>(try exact Bool.noConfusion h))
    all_goals try simp -dsimp [hlq,hs2,hs]
    all_goals try clear hs
 ·have hE:clrE c n=letE c n:=by unfold clrE;rw [if_pos h0]
  have hO:clrO c n=(0,0):=by unfold clrO;rw [if_neg (by rw [hE];exact h0)]
  rw [hE,hO]
  have hs:True:=trivial
  repeat' first|(with_reducible first|refine q01 ?_|refine q02 ?_|refine q11 ?_|refine q17 ?_)|(with_reducible refine At.fn_ret (by simp -dsimp [h0,hs];exact rfl) ?_)|(refine CallE.pure (c1) ?_;try simp -dsimp [h0,hs])|(with_reducible refine DT_regionE [0,1,2,4,5,6,7,8,10,11,12,20,29,30,31,32,42,59] ?_;simp -dsimp [h0,hs])|(refine DT_cond rfl (fun h=>?_) (fun h=>?_)<;>(try simp only [nrm] at h)<;>(try exact Bool.noConfusion h))
  all_goals try simp -dsimp [h0,hs]
  all_goals try clear hs
set_option maxHeartbeats 2000000 in
theorem rClear_c (c:Case) (n:Int) (hk:KC c) (objs:List DObj):DCall Tryz.prog G 18 [casev c,iv n] objs (fun rr objs'=>rr=.tup [refv (clrO c n).1 (clrO c n).2,iv (clrE c n)]∧objs'=objs):=by
 refine DCall.frame ?_ (by simp) (by simp) objs
 refine DCall_intro Tryz.func18 rfl Tryz.ntmps18 (by simp) rfl ?_
 try simp only [iv]
 have c1:=rLetters_c (G:=G) c n hk
 simp only [casev,encCase] at c1
 by_cases h0:letE c n=0
 ·obtain ⟨he,hn0,hn1⟩:=letE_yes h0
  obtain ⟨hp0,hcb⟩:=caseE_yes he
  have hr0:=(printsE_yes hp0).2.2
  have hlen:=(caseB_ok hcb).e
  obtain ⟨k,rfl⟩:=Int.eq_ofNat_of_zero_le hn0
  have hlt1:k < c.pieces.length:=by omega
  have hlt2:k < c.loop.links.length:=by omega
  have hx0:c.pieces[k]?=some c.pieces[k]:=by simp [hlt1]
  have hy0:c.loop.links[k]?=some c.loop.links[k]:=by simp [hlt2]
  have hyd:=caseB_dim hcb hy0
  have hE:clrE c (k:Int)=if (clrS c (k:Int)).2 < (clrS c (k:Int)).1 then 6 else 0:=by unfold clrE;rw [if_neg (by simp [h0])]
  have hO:clrO c (k:Int)=if (if (clrS c (k:Int)).2 < (clrS c (k:Int)).1 then (6:Int) else 0)=0 then clrS c (k:Int) else (0,0):=by unfold clrO;rw [hE]
  have hS':clrS c (k:Int)=(letO c (k:Int)).foldl (clrStep c c.loop.links[k]) (c.pieces[k].lo,c.pieces[k].hi):=by
   unfold clrS;rw [Int.toNat_natCast,hx0,hy0]
  have hll:=letO_len c (k:Int)
  have hpl:=hk.p.p.q
  rw [hS'] at hE hO
  rw [← hE] at hO
  clear hS'
  generalize clrE c (k:Int)=E at *
  generalize clrO c (k:Int)=O at *
  rw [h0] at c1
  have c2:=fun lt=>rsizeOf_c (G:=G) c k _ lt hy0 hyd.1 hk
  generalize hx:c.pieces[k]=x at *
  generalize c.loop.links[k]=y at *
  generalize letO c (k:Int)=L at *
  simp only [casev,encCase] at c2
  have hs:True:=trivial
  repeat' first|(with_reducible first|refine q01 ?_|refine q11 ?_|refine q12 ?_|refine q14 ?_)|(refine CallE.pure (c1) ?_;try simp -dsimp [hx,hlt1,h0,hs])|(with_reducible refine DT_regionE [0,1,2,4,5,6,7,8,9,10,11,19,31,44,60] ?_;simp -dsimp [hx,hlt1,h0,hs])|(refine DT_cond rfl (fun h=>?_) (fun h=>?_)<;>(try simp only [nrm] at h)<;>(try exact Bool.noConfusion h))
  all_goals try simp -dsimp [hx,hlt1,h0,hs]
  all_goals try clear hs
  obtain ⟨S0,hS0⟩:∃ S0:Int×Int,S0=(x.lo,x.hi):=⟨_,rfl⟩
  rw [← hS0] at hE hO
  refine DT_loop (ι:={ q:Nat // q≤L.length }) (fun q=>⟨63,[(1,iv (k:Int)),(2,.one (.ptr 0 0)),(4,.one (.ptr 1 0)),(6,.one (.im (.sl (L.map encI)))),(8,.one (.ptr 2 0)),(9,iv (q.1:Int))],[.row ((encCase c).map .im),.row [.im (rI 0),.im (rI 0)],.row [.im (rI ((L.take q.1).foldl (clrStep c y) S0).1),.im (rI ((L.take q.1).foldl (clrStep c y) S0).2)]]⟩) (fun q=>L.length - q.1) ⟨0,by simp⟩ (Weak.of_keep [1,2,4,6,8,9] (by simp [hS0])) ?_
  rintro ⟨q,hq1⟩
  simp only [iv]
  by_cases hlq:q < L.length
  ·have hw:IntKind.i64.wrap ((q:Int) + 1)=((q + 1:Nat):Int):=i64w (by omega) (by omega)
   have hst:=clr_step c y S0 hlq
   have c3:=c2 L[q]
   generalize hv:L[q]=v at *
   generalize (L.take q).foldl (clrStep c y) S0=s at *
   cases hd:szY c y v with
   | none =>
     have hst2:clrStep c y s v=s:=by unfold clrStep;rw [hd]
     rw [hst2] at hst
     rw [hd] at c3
     simp only [Option.isSome_none,Option.getD_none] at c3
     have hs:True:=trivial
     repeat' first|(with_reducible first|refine q01 ?_|refine q04 ?_|refine q11 ?_|refine q12 ?_|refine q14 ?_)|(refine QCall_pure (c3) ?_;try simp -dsimp [hv,hlq,hw,hs])|(refine DT_regionX (id:=8) (nt:=63) 11 [9] [0,1,2,4,5,6,7,8,9,10,11,19,31,34,35,36,37,38,39,40,41,42,44,60] [0,1,2,4,5,6,7,8,9,10,11,19,31,44,60] mixed rfl (by kernel_rfl) ?_;simp -dsimp [hv,hlq,hw,hs])|(with_reducible refine DT_regionE [0,1,2,4,5,6,7,8,9,10,11,19,31,44,60] ?_;simp -dsimp [hv,hlq,hw,hs])|(refine DT_cond rfl (fun h=>?_) (fun h=>?_)<;>(try simp only [nrm] at h)<;>(try exact Bool.noConfusion h))
     all_goals try simp -dsimp [hv,hlq,hw,hs]
     all_goals try clear hs
     all_goals exact At.round ⟨q + 1,by omega⟩ (by simp;omega) (Weak.of_drop [1,2,4,6,8,9] 3 (by simp) (by simp) (by simp [hst]))
   | some z =>
     have hst2:clrStep c y s v=(max s.1 z.lower,min s.2 z.upper):=by unfold clrStep;rw [hd]
     rw [hst2] at hst
     rw [hd] at c3
     simp only [Option.isSome_some,Option.getD_some] at c3
     have hs:True:=trivial
     repeat' first|(with_reducible first|refine q01 ?_|refine q04 ?_|refine q11 ?_|refine q12 ?_|refine q14 ?_)|(refine QCall_pure (c3) ?_;try simp -dsimp [hv,hlq,hw,hs])|(refine DT_regionX (id:=8) (nt:=63) 11 [9] [0,1,2,4,5,6,7,8,9,10,11,19,31,34,35,36,37,38,39,40,41,42,44,60] [0,1,2,4,5,6,7,8,9,10,11,19,31,44,60] mixed rfl (by kernel_rfl) ?_;simp -dsimp [hv,hlq,hw,hs])|(with_reducible refine DT_regionE [0,1,2,4,5,6,7,8,9,10,11,19,31,44,60] ?_;simp -dsimp [hv,hlq,hw,hs])|(refine DT_cond rfl (fun h=>?_) (fun h=>?_)<;>(try simp only [nrm] at h)<;>(try exact Bool.noConfusion h))
     all_goals try simp -dsimp [hv,hlq,hw,hs]
     all_goals try clear hs
     all_goals exact At.round ⟨q + 1,by omega⟩ (by simp;omega) (Weak.of_drop [1,2,4,6,8,9] 3 (by simp) (by simp) (by simp [hst]))
  ·obtain rfl:q=L.length:=by omega
   simp only [List.take_length]
   generalize L.foldl (clrStep c y) S0=s at *
   by_cases hs2:s.2 < s.1
   ·rw [if_pos hs2] at hE;subst hE;rw [if_neg (show ¬ (6:Int)=0 by decide)] at hO;subst hO
    have hs:True:=trivial
    repeat' first|(with_reducible first|refine q01 ?_|refine q02 ?_|refine q03 ?_|refine q06 ?_|refine q11 ?_|refine q16 ?_|refine q17 ?_)|(with_reducible refine At.fn_ret (by simp -dsimp [hlq,hs2,hs];exact rfl) ?_)|(with_reducible refine DT_regionE [0,1,2,4,5,6,7,8,9,10,11,19,31,44,60] ?_;simp -dsimp [hlq,hs2,hs])|(refine DT_cond rfl (fun h=>?_) (fun h=>?_)<;>(try simp only [nrm] at h)<;>(try exact Bool.noConfusion h))
    all_goals try simp -dsimp [hlq,hs2,hs]
    all_goals try clear hs
   ·rw [if_neg hs2] at hE;subst hE;rw [if_pos (show (0:Int)=0 from rfl)] at hO;subst hO
    have hs:True:=trivial
    repeat' first|(with_reducible first|refine q01 ?_|refine q03 ?_|refine q06 ?_|refine q11 ?_|refine q14 ?_|refine q16 ?_|refine q17 ?_)|(with_reducible refine At.fn_ret (by simp -dsimp [hlq,hs2,hs];exact rfl) ?_)|(with_reducible refine DT_regionE [0,1,2,4,5,6,7,8,9,10,11,19,31,44,60] ?_;simp -dsimp [hlq,hs2,hs])|(refine DT_cond rfl (fun h=>?_) (fun h=>?_)<;>(try simp only [nrm] at h)<;>(try exact Bool.noConfusion h))
    all_goals try simp -dsimp [hlq,hs2,hs]
    all_goals try clear hs
 ·have hE:clrE c n=letE c n:=by unfold clrE;rw [if_pos h0]
  have hO:clrO c n=(0,0):=by unfold clrO;rw [if_neg (by rw [hE];exact h0)]
  rw [hE,hO]
  have hs:True:=trivial
  repeat' first|(with_reducible first|refine q01 ?_|refine q02 ?_|refine q11 ?_|refine q17 ?_)|(with_reducible refine At.fn_ret (by simp -dsimp [h0,hs];exact rfl) ?_)|(refine CallE.pure (c1) ?_;try simp -dsimp [h0,hs])|(with_reducible refine DT_regionE [0,1,2,4,5,6,7,8,9,10,11,19,31,44,60] ?_;simp -dsimp [h0,hs])|(refine DT_cond rfl (fun h=>?_) (fun h=>?_)<;>(try simp only [nrm] at h)<;>(try exact Bool.noConfusion h))
  all_goals try simp -dsimp [h0,hs]
  all_goals try clear hs
end Go.Proofs
