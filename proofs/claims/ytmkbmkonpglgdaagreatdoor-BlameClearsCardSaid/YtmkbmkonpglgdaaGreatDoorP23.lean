/- Part 23 of the proofs: laws and walks that hold without conditions beyond those that each theorem names. -/
import Derived.Test.YtmkbmkonpglgdaaGreatDoorP12
import Derived.Test.YtmkbmkonpglgdaaGreatDoorP15
import Derived.Test.YtmkbmkonpglgdaaGreatDoorP19
import Derived.Test.YtmkbmkonpglgdaaGreatDoorP20
import Derived.Test.YtmkbmkonpglgdaaGreatDoorP21
import Derived.Test.YtmkbmkonpglgdaaGreatDoorP22
set_option linter.all false
set_option linter.deprecated false
namespace Go.Proofs
open Go Go.Ab
set_option linter.unusedSimpArgs false
variable {G:Nat→Option (List IC)}
def outB (x:Print) (d:Int):Bool:=decide (x.day≤d) && !(!decide (x.back=-1) && decide (x.back≤d)) && !decide (x.lost=2)
def selB (d i w:Int) (x:Print):Bool:=outB x d && (decide (x.holder=i) && decide (x.drawing=w))
def perL (d i w:Int) (l:List Print):List Int:=(l.filter fun x=>selB d i w x && decide (x.lost=1)).map (·.letter)
def surV (d i w:Int) (l:List Print):Int:=(l.filter fun x=>selB d i w x && !decide (x.lost=1)).foldl (fun a x=>max a x.letter) 0
theorem out_c (b:IC) (n:Int) (objs:List DObj):DCall Tryz.prog G 95 [.one (.im b),iv n] objs (fun rr objs'=>rr=.one (.im (.fn (.func 118) [.ip [b],.ip [rI n]]))∧objs'=objs):=by
 refine DCall.frame ?_ (by simp) (by simp) objs
 refine DCall_intro Tryz.func95 rfl Tryz.ntmps95 (by simp) rfl ?_
 try simp only [iv]
 have hs:True:=trivial
 repeat' first|(with_reducible first|refine q01 ?_|refine q11 ?_|refine q17 ?_)|(with_reducible refine At.fn_ret (by simp -dsimp [hs];exact rfl) ?_)|(with_reducible refine DT_regionE [0,1,2,3,4] ?_;simp -dsimp [hs])
 all_goals try simp -dsimp [hs]
 all_goals try clear hs
def worksP (d i w:Int) (l:List Print):List Int:=(dedupI (isort (perL d i w l ++ [surV d i w l]))).drop (fidx (fun x=>decide (surV d i w l=x)) (dedupI (isort (perL d i w l ++ [surV d i w l])))).toNat
theorem perL_step (d i w:Int) {l:List Print} {k:Nat} (h:k < l.length):perL d i w (l.take (k + 1))=perL d i w (l.take k) ++ (if (selB d i w l[k] && decide (l[k].lost=1))=true then [l[k].letter] else []):=by
 unfold perL
 rw [List.take_succ_eq_append_getElem h,List.filter_append,List.map_append]
 congr 1
 split<;>simp_all
theorem surV_step (d i w:Int) {l:List Print} {k:Nat} (h:k < l.length):surV d i w (l.take (k + 1))=if (selB d i w l[k] && !decide (l[k].lost=1))=true then max (surV d i w (l.take k)) l[k].letter else surV d i w (l.take k):=by
 unfold surV
 rw [List.take_succ_eq_append_getElem h,List.filter_append,List.foldl_append]
 split<;>simp_all
theorem fidx_len {α:Type} (q:α→Bool) (l:List α):fidx q l < l.length∨l=[]:=by
 unfold fidx
 split
 ·rename_i j h
  rw [List.findIdx?_eq_some_iff_getElem] at h
  obtain ⟨hlt,_⟩:=h
  left;omega
 ·cases l with
  | nil=>exact .inr rfl
  | cons a r=>left;simp;omega
theorem perL_len (d i w:Int) (l:List Print):(perL d i w l).length≤l.length:=by
 unfold perL
 rw [List.length_map];exact List.length_filter_le _ _
set_option maxHeartbeats 2000000 in
theorem works_c (p:Prints) (d i w:Int) (hS:SortOk G) (hl:p.prints.length < 900) (objs:List DObj):DCall Tryz.prog G 72 [.one (.im (officeI p)),iv d,iv i,iv w] objs (fun rr objs'=>rr=isv (worksP d i w p.prints)∧objs'=objs):=by
 refine DCall.frame ?_ (by simp) (by simp) objs
 refine DCall_intro Tryz.func72 rfl Tryz.ntmps72 (by simp) rfl ?_
 try simp only [iv,iv,iv]
 simp only [officeI]
 have c1:=out_c (G:=G) (officeI p) d
 simp only [officeI] at c1
 have hs:True:=trivial
 repeat' first|(with_reducible first|refine q01 ?_|refine q11 ?_|refine q12 ?_)|(refine CallE.pure (c1) ?_;try simp -dsimp [hs])|(with_reducible refine DT_regionE [0,1,2,3,6,7,8,9,10,12,13,16,18,29,32] ?_;simp -dsimp [hs])
 all_goals try simp -dsimp [hs]
 all_goals try clear hs
 refine DT_rangeFunc (f:=118) (by simp;exact rfl) (by rfl) Tryz.call118 ?_
 generalize hR:LoopD.mk _ _ _ _ _ _ _=R
 have hR1:R.st=.ready:=by rw [← hR]
 have hR2:R.pend=none:=by rw [← hR]
 have hR3:R.at .ready none=R:=by rw [← hR];rfl
 have hR4:=(congrArg LoopD.nt hR).symm
 have hR5:=(congrArg LoopD.tm hR).symm
 have hR6:=(congrArg LoopD.ps hR).symm
 have hR7:=(congrArg LoopD.asg hR).symm
 have hR8:=(congrArg LoopD.body hR).symm
 dsimp only at hR4 hR5 hR6 hR7 hR8
 clear hR
 refine DCall_intro Tryz.func118 rfl Tryz.ntmps118 (by simp) rfl ?_
 have hR9:∀ objs:List DObj,(R.tm.map fun x=>(x.1,fzV 7 objs x.2))=R.tm:=by intro objs;rw [hR5];simp
 have hs:True:=trivial
 repeat' first|(with_reducible first|refine q01 ?_|refine q11 ?_|refine q12 ?_)|(with_reducible refine DT_regionE [0,1,2,3,4,5,6,7,8,9,10,11,12,13,14,16,18,29,32,46] ?_;simp -dsimp [hR1,hR2,hR3,hs])
 all_goals try simp -dsimp [hR1,hR2,hR3,hs]
 all_goals try clear hs
 refine DT_loop (ι:={ q:Nat×Nat×Nat×Bool // q.1≤p.prints.length∧(q.2.2.1=1∨q.2.2.2=true∧perL d i w (p.prints.take q.1)=[]) }) (fun q=>⟨48,[(0,.one (.yld 6)),(2,.one (.im (.ip [rI d]))),(11,.one (.im (.sl (p.prints.map encPrint)))),(12,iv (p.prints.length:Int)),(13,iv (q.1.1:Int))],[.row [.im (rI i)],.row [.im (rI w)],.vec 1 [] 0 true,.row [.im (rI (surV d i w (p.prints.take q.1.1)))],.vec q.1.2.2.1 (ims ((perL d i w (p.prints.take q.1.1)).map encI)) q.1.2.1 q.1.2.2.2,.row [.vec 4 q.1.2.1 0 (perL d i w (p.prints.take q.1.1)).length],.loop R]⟩) (fun q=>p.prints.length - q.1.1) ⟨(0,0,0,true),by simp [perL]⟩ (Weak.of_keep [0,2,11,12,13] (by simp [perL,surV])) ?_
 rintro ⟨⟨k,g,sz,nl⟩,hk,hz⟩
 simp only at hk hz
 simp only [iv]
 by_cases hlt:k < p.prints.length
 ·have hw:IntKind.i64.wrap ((k:Int) + 1)=((k + 1:Nat):Int):=i64w (by omega) (by omega)
  have hst1:=perL_step d i w hlt
  have hst2:=surV_step d i w hlt
  have hpl:=perL_len d i w (p.prints.take k)
  rw [List.length_take] at hpl
  have hz':sz=1∨nl=true:=hz.imp id And.left
  generalize hx:p.prints[k]=x at *
  cases hsel:selB d i w x
  ·rw [hsel] at hst1 hst2
   simp only [Bool.false_and,Bool.false_eq_true,if_false,List.append_nil] at hst1 hst2
   simp only [selB,outB] at hsel
   simp at hsel
   have hz2:sz=1∨nl=true∧perL d i w (p.prints.take (k + 1))=[]:=by rw [hst1];exact hz
   clear c1
   have hs:True:=trivial
   repeat' first|(with_reducible first|refine q01 ?_|refine q03 ?_|refine q04 ?_|refine q06 ?_|refine q11 ?_|refine q12 ?_|refine q14 ?_|refine q16 ?_|refine And.intro (by omega) ?_)|(with_reducible refine At.yield_end ?_;simp -dsimp [hR1,hR2,hR3,hx,hlt,hw,hz',hs])|(refine At_busy ?_ ?_<;>simp -dsimp [hR1,hR2,hR3,hx,hlt,hw,hz',hs])|(refine YieldE_go ?_;simp -dsimp [YieldR,hR4,hR5,hR6,hR7,hR8,hR1,hR2,hR3,hx,hlt,hw,hz',hs])|(with_reducible refine DT_regionE [0,1,2,3,4,5,6,7,8,9,10,11,12,13,14,16,18,29,32,46] ?_;simp -dsimp [hR1,hR2,hR3,hx,hlt,hw,hz',hs])|(refine DT_cond rfl (fun h=>?_) (fun h=>?_)<;>(try simp only [nrm] at h)<;>(try exact Bool.noConfusion h))|(with_reducible refine GStop_split ?_ ?_<;>intro h<;>have h0:=h<;>(try simp only [nrm] at h)<;>(try exact Bool.noConfusion h)<;>have h2:=h<;>(try simp at h2)<;>(replace hs:=And.intro h0 (And.intro h (And.intro h2 hs)))<;>simp -dsimp [h0,h,h2,hR1,hR2,hR3,hx,hlt,hw,hz',hs])
   all_goals try simp -dsimp [hR1,hR2,hR3,hx,hlt,hw,hz',hs]
   all_goals try clear hs
   all_goals first
    | (exfalso;omega)
    | exact At.round ⟨(k + 1,g,sz,nl),by simp only;omega,hz2⟩ (by simp only;omega) (Weak.of_drop [0,2,11,12,13] 7 (by simp) (by simp) (by simp [hst1,hst2,hR9]))
  ·rw [hsel] at hst1 hst2
   simp only [Bool.true_and] at hst1 hst2
   have hq:=hsel
   simp only [selB,outB] at hq
   simp at hq
   obtain ⟨⟨⟨q1,q2⟩,q3⟩,q4,q5⟩:=hq
   have hbk:((x.back=-1)∧True)∨(¬ x.back=-1∧¬ x.back≤d):=by
    by_cases hb:x.back=-1
    ·exact .inl ⟨hb,trivial⟩
    ·exact .inr ⟨hb,by omega⟩
   clear hsel q2 c1
   have hs:True:=trivial
   by_cases hl1:x.lost=1
   ·simp only [hl1,decide_true,if_true,Bool.not_true,Bool.false_eq_true,if_false] at hst1 hst2
    rcases hbk with ⟨hb1,hb2⟩|⟨hb1,hb2⟩
    all_goals
     have hs:True:=trivial
     repeat' first|(with_reducible first|refine q01 ?_|refine q04 ?_|refine q11 ?_|refine q12 ?_|refine q14 ?_|refine And.intro (by omega) ?_)|(with_reducible refine At.yield_end ?_;simp -dsimp [hR1,hR2,hR3,hx,hlt,hw,hz',q1,q3,q4,q5,hb1,hb2,hl1,hs])|(refine At_busy ?_ ?_<;>simp -dsimp [hR1,hR2,hR3,hx,hlt,hw,hz',q1,q3,q4,q5,hb1,hb2,hl1,hs])|(refine YieldE_go ?_;simp -dsimp [YieldR,hR4,hR5,hR6,hR7,hR8,hR1,hR2,hR3,hx,hlt,hw,hz',q1,q3,q4,q5,hb1,hb2,hl1,hs])|(with_reducible refine DT_regionE [0,1,2,3,4,5,6,7,8,9,10,11,12,13,14,16,18,29,32,46] ?_;simp -dsimp [hR1,hR2,hR3,hx,hlt,hw,hz',q1,q3,q4,q5,hb1,hb2,hl1,hs])|(refine DT_cond rfl (fun h=>?_) (fun h=>?_)<;>(try simp only [nrm] at h)<;>(try exact Bool.noConfusion h))
     all_goals try simp -dsimp [hR1,hR2,hR3,hx,hlt,hw,hz',q1,q3,q4,q5,hb1,hb2,hl1,hs]
     all_goals try clear hs
    all_goals exact At.round ⟨(k + 1,g + 1,1,false),by simp only;omega,.inl rfl⟩ (by simp only;omega) (Weak.of_drop [0,2,11,12,13] 7 (by simp) (by simp) (by simp [hst1,hst2,hR9]))
   ·simp only [hl1,decide_false,Bool.false_eq_true,if_false,List.append_nil,Bool.not_false,if_true] at hst1 hst2
    have hz2:sz=1∨nl=true∧perL d i w (p.prints.take (k + 1))=[]:=by rw [hst1];exact hz
    rcases hbk with ⟨hb1,hb2⟩|⟨hb1,hb2⟩
    all_goals
     have hs:True:=trivial
     repeat' first|(with_reducible first|refine q01 ?_|refine q04 ?_|refine q11 ?_|refine q12 ?_|refine q14 ?_)|(with_reducible refine At.yield_end ?_;simp -dsimp [hR1,hR2,hR3,hx,hlt,hw,hz',q1,q3,q4,q5,hb1,hb2,hl1,hs])|(refine At_busy ?_ ?_<;>simp -dsimp [hR1,hR2,hR3,hx,hlt,hw,hz',q1,q3,q4,q5,hb1,hb2,hl1,hs])|(refine YieldE_go ?_;simp -dsimp [YieldR,hR4,hR5,hR6,hR7,hR8,hR1,hR2,hR3,hx,hlt,hw,hz',q1,q3,q4,q5,hb1,hb2,hl1,hs])|(with_reducible refine DT_regionE [0,1,2,3,4,5,6,7,8,9,10,11,12,13,14,16,18,29,32,46] ?_;simp -dsimp [hR1,hR2,hR3,hx,hlt,hw,hz',q1,q3,q4,q5,hb1,hb2,hl1,hs])|(refine DT_cond rfl (fun h=>?_) (fun h=>?_)<;>(try simp only [nrm] at h)<;>(try exact Bool.noConfusion h))
     all_goals try simp -dsimp [hR1,hR2,hR3,hx,hlt,hw,hz',q1,q3,q4,q5,hb1,hb2,hl1,hs]
     all_goals try clear hs
    all_goals exact At.round ⟨(k + 1,g,sz,nl),by simp only;omega,hz2⟩ (by simp only;omega) (Weak.of_drop [0,2,11,12,13] 7 (by simp) (by simp) (by simp [hst1,hst2,hR9]))
 ·obtain rfl:k=p.prints.length:=by omega
  rw [List.take_length] at *
  have hz':sz=1∨nl=true:=hz.imp id And.left
  have hpl:=perL_len d i w p.prints
  clear c1
  have hs:True:=trivial
  repeat' first|(with_reducible first|refine q01 ?_|refine q03 ?_|refine q04 ?_|refine q06 ?_|refine q11 ?_|refine q16 ?_|refine And.intro (by omega) ?_)|(with_reducible refine At.fn_end (by simp -dsimp [hR1,hR2,hR3,hlt,hz',hs];exact rfl) ?_)|(with_reducible show LoopR _ _ _ _ _ _ _ _;simp -dsimp [LoopR,hR1,hR2,hR3,hlt,hz',hs])|(with_reducible refine DT_regionE [0,1,2,3,4,5,6,7,8,9,10,11,12,13,14,16,18,29,32,46] ?_;simp -dsimp [hR1,hR2,hR3,hlt,hz',hs])|(refine DT_cond rfl (fun h=>?_) (fun h=>?_)<;>(try simp only [nrm] at h)<;>(try exact Bool.noConfusion h))
  all_goals try simp -dsimp [hR1,hR2,hR3,hlt,hz',hs]
  all_goals try clear hs
  obtain ⟨L,hL1⟩:∃ L,L=perL d i w p.prints ++ [surV d i w p.prints]:=⟨_,rfl⟩
  have hE:worksP d i w p.prints=(dedupI (isort L)).drop (fidx (fun x=>decide (surV d i w p.prints=x)) (dedupI (isort L))).toNat:=by rw [hL1];rfl
  have hv:surV d i w p.prints∈L:=by rw [hL1];simp
  generalize surV d i w p.prints=v at *
  have hLn:(perL d i w p.prints).length + 1=L.length:=by rw [hL1];simp
  have hLi:ims ((perL d i w p.prints).map encI) ++ [[DC.im (IC.raw (Value.int .i64 v))]]=ims (L.map encI):=by rw [hL1];simp [ims_append,ims]
  rw [hE]
  clear hL1 hE
  generalize perL d i w p.prints=Q at *
  have c1:=hS L (g + 1) 1 false (.inl rfl) (by omega)
  have hil:=isort_len L
  have c2:=compact_c (G:=G) (isort L) (g + 1) (by omega)
  have hdl:=dedupI_len (isort L)
  rw [hil] at c2
  have c3:=indexS_c (G:=G) (dedupI (isort L)) v (by omega)
  have hs:True:=trivial
  rw [hLi]
  simp only [hLn]
  have hs:True:=trivial
  repeat' first|(with_reducible first|refine q01 ?_|refine q11 ?_)|(refine CallE.embed [4] (c1) ?_ ?_ ?_ ?_ ?_ ?_;(focus (simp [emb];done));(focus (simp;done));(focus (simp;done));(focus (simp;done));(focus (refine emb_all ?_;simp [emb,embAll];done));try simp -dsimp [mergeO,emb,hR1,hR2,hR3,hlt,hLn,hLi,hs])|(refine CallE.embed_ex [4] (c2) ?_ ?_ ?_ ?_ ?_ ?_;(focus (simp [emb];done));(focus (simp;done));(focus (simp;done));(focus (simp;done));(focus (refine emb_all ?_;simp [emb,embAll];done));intro mma hmma;try simp -dsimp [mergeO,emb,hR1,hR2,hR3,hlt,hLn,hLi,hs])|(with_reducible refine DT_regionE [0,1,2,3,4,5,6,7,8,9,10,11,12,13,14,16,18,29,32,46] ?_;simp -dsimp [hR1,hR2,hR3,hlt,hLn,hLi,hs])
  all_goals try simp -dsimp [hR1,hR2,hR3,hlt,hLn,hLi,hs]
  all_goals try clear hs
  obtain ⟨ha1,ha2⟩:=hmma
  clear c1 c2
  generalize hD:dedupI (isort L)=D at *
  have hdm:D.length≤mma.length:=by omega
  have hfi:=fidx_len (fun x=>decide (v=x)) D
  have hvd:D.any (fun x=>decide (v=x))=true:=by
   rw [List.any_eq_true]
   refine ⟨v,?_,by simp⟩
   rw [← hD,dedupI_mem]
   exact isort_mem.2 hv
  rw [← fidx_nonneg] at hvd
  have hf0:0≤fidx (fun x=>decide (v=x)) D:=of_decide_eq_true hvd
  obtain ⟨f,hf⟩:=Int.eq_ofNat_of_zero_le hf0
  rw [hf] at c3 hfi
  have hfd:f≤D.length:=by
   rcases hfi with h|h
   ·omega
   ·rw [h] at hf;simp [fidx] at hf
  rw [hf,Int.toNat_natCast]
  have htk:(ims (mma.map encI)).take D.length=ims (D.map encI):=by rw [show (ims (mma.map encI)).take D.length=ims ((mma.map encI).take D.length) by simp [ims,List.map_take],← List.map_take,ha2]
  have hs:True:=trivial
  all_goals try simp -dsimp [hR1,hR2,hR3,htk,hdm,hfd,ha1,hs]
  all_goals try clear hs
  have hdL:D.length≤L.length:=by omega
  have htd:List.take (D.length - f) (List.drop f (ims (mma.map encI)))=ims ((D.drop f).map encI):=by
   rw [← List.drop_take,htk];simp [ims,List.map_drop]
  refine CallE.thaw c3 ?_ ?_ ?_
  ·simp [htk,hdm,hfd,ha1,hdL]
  ·simp
  simp -dsimp [htk,hdm,hfd,ha1]
  have hs:True:=trivial
  repeat' first|(with_reducible first|refine q01 ?_|refine q17 ?_)|(with_reducible refine At.fn_ret (by simp -dsimp [hR1,hR2,hR3,htk,hdm,hfd,ha1,hdL,htd,hs];exact rfl) ?_)
  all_goals try simp -dsimp [hR1,hR2,hR3,htk,hdm,hfd,ha1,hdL,htd,hs]
  all_goals try clear hs
end Go.Proofs
namespace Go.Proofs
open Go Go.Ab
set_option linter.unusedSimpArgs false
variable {G:Nat→Option (List IC)}
set_option maxHeartbeats 2000000 in
open Classical in
theorem rPrints_c (p:Prints) (hsm:SmallP p) (objs:List DObj):DCall Tryz.prog G 54 [printsv p] objs (fun rr objs'=>rr=bv (printsB p)∧objs'=objs):=by
 refine DCall.frame ?_ (by simp) (by simp) objs
 refine DCall_intro Tryz.func54 rfl Tryz.ntmps54 (by simp) rfl ?_
 try simp only [iv]
 have hh:=hsm.h
 have hq:=hsm.q
 by_cases h6:¬ p.holders.length≤6
 ·have h6':(6:Int) < p.holders.length:=by omega
  have hno:=printsB_no (p:=p) fun h=>h6 h.hl
  have hs:True:=trivial
  repeat' first|(with_reducible first|refine q01 ?_|refine q02 ?_|refine q11 ?_|refine q17 ?_)|(with_reducible refine At.fn_ret (by simp -dsimp [h6',hs];exact rfl) ?_)|(with_reducible refine DT_regionE [0,1,2,3,4,14,19,25,30,36] ?_;simp -dsimp [h6',hs])|(refine DT_cond rfl (fun h=>?_) (fun h=>?_)<;>(try simp only [nrm] at h)<;>(try exact Bool.noConfusion h))
  all_goals try simp -dsimp [h6',hs]
  all_goals try clear hs
  all_goals simp [hno]
 replace h6:=Classical.not_not.1 h6
 have h6':¬ (6:Int) < p.holders.length:=by omega
 by_cases h30:¬ p.prints.length≤30
 ·have h30':(30:Int) < p.prints.length:=by omega
  have hno:=printsB_no (p:=p) fun h=>h30 h.pl
  have hs:True:=trivial
  repeat' first|(with_reducible first|refine q01 ?_|refine q02 ?_|refine q11 ?_|refine q17 ?_)|(with_reducible refine At.fn_ret (by simp -dsimp [h6',h30',hs];exact rfl) ?_)|(with_reducible refine DT_regionE [0,1,2,3,4,14,19,25,30,36] ?_;simp -dsimp [h6',h30',hs])|(refine DT_cond rfl (fun h=>?_) (fun h=>?_)<;>(try simp only [nrm] at h)<;>(try exact Bool.noConfusion h))
  all_goals try simp -dsimp [h6',h30',hs]
  all_goals try clear hs
  all_goals simp [hno]
 replace h30:=Classical.not_not.1 h30
 have h30':¬ (30:Int) < p.prints.length:=by omega
 have hs:True:=trivial
 repeat' first|(with_reducible first|refine q01 ?_|refine q11 ?_|refine q12 ?_|refine q14 ?_)|(with_reducible refine DT_regionE [0,1,2,3,4,14,19,25,30,36] ?_;simp -dsimp [h6',h30',hs])|(refine DT_cond rfl (fun h=>?_) (fun h=>?_)<;>(try simp only [nrm] at h)<;>(try exact Bool.noConfusion h))
 all_goals try simp -dsimp [h6',h30',hs]
 all_goals try clear hs
 refine DT_loop (ι:={ k:Nat // k≤p.holders.length∧∀ (j:Nat) (x:Holder),j < k→p.holders[j]?=some x→hkB (nums p.n.reg) p.holders j x }) (fun q=>⟨37,[(1,.one (.ptr 0 0)),(3,iv (q.1:Int))],[.row ((encPrints p).map .im)]⟩) (fun q=>p.holders.length - q.1) ⟨0,by simp⟩ (Weak.of_keep [1,3] (by simp)) ?_
 rintro ⟨k,hk,hok⟩
 simp only [iv]
 by_cases hlt:k < p.holders.length
 ·have hx0:p.holders[k]?=some p.holders[k]:=by simp [hlt]
  have hw:IntKind.i64.wrap ((k:Int) + 1)=((k + 1:Nat):Int):=i64w (by omega) (by omega)
  have c1:=rholder_c (G:=G) p k _ hx0 hsm
  generalize hx:p.holders[k]=x at *
  have hstep:hkB (nums p.n.reg) p.holders k x→∀ (j:Nat) (z:Holder),j < k + 1→p.holders[j]?=some z→hkB (nums p.n.reg) p.holders j z:=fun h j z hj hz=>by
   by_cases e:j=k
   ·subst e;rw [hx0] at hz;cases hz;exact h
   ·exact hok j z (by omega) hz
  by_cases hB:hkB (nums p.n.reg) p.holders k x
  ·rw [decide_eq_true hB] at c1
   have hs:True:=trivial
   repeat' first|(with_reducible first|refine q01 ?_|refine q04 ?_|refine q11 ?_|refine q12 ?_|refine q14 ?_)|(refine CallE.pure (c1) ?_;try simp -dsimp [hlt,hw,hs])|(with_reducible refine DT_regionE [0,1,2,3,4,14,19,25,30,36] ?_;simp -dsimp [hlt,hw,hs])|(refine DT_cond rfl (fun h=>?_) (fun h=>?_)<;>(try simp only [nrm] at h)<;>(try exact Bool.noConfusion h))
   all_goals try simp -dsimp [hlt,hw,hs]
   all_goals try clear hs
   exact At.round ⟨k + 1,by omega,hstep hB⟩ (by simp;omega) (Weak.of_keep [1,3] (by simp))
  ·rw [decide_eq_false hB] at c1
   have hno:=printsB_no (p:=p) fun h'=>hB (h'.h k x hx0)
   have hs:True:=trivial
   repeat' first|(with_reducible first|refine q01 ?_|refine q02 ?_|refine q05 ?_|refine q11 ?_|refine q12 ?_|refine q14 ?_|refine q17 ?_)|(with_reducible refine At.fn_ret (by simp -dsimp [hlt,hw,hs];exact rfl) ?_)|(refine CallE.pure (c1) ?_;try simp -dsimp [hlt,hw,hs])|(with_reducible refine DT_regionE [0,1,2,3,4,14,19,25,30,36] ?_;simp -dsimp [hlt,hw,hs])|(refine DT_cond rfl (fun h=>?_) (fun h=>?_)<;>(try simp only [nrm] at h)<;>(try exact Bool.noConfusion h))
   all_goals try simp -dsimp [hlt,hw,hs]
   all_goals try clear hs
   all_goals simp [hno]
 have hall:∀ i x,p.holders[i]?=some x→hkB (nums p.n.reg) p.holders i x:=fun i x hx=>hok i x (by have:=lt_of_getElem? hx;omega) hx
 have hs:True:=trivial
 repeat' first|(with_reducible first|refine q01 ?_|refine q03 ?_|refine q06 ?_|refine q11 ?_|refine q12 ?_|refine q16 ?_)|(with_reducible refine DT_regionE [0,1,2,3,4,14,19,25,30,36] ?_;simp -dsimp [hlt,hs])|(refine DT_cond rfl (fun h=>?_) (fun h=>?_)<;>(try simp only [nrm] at h)<;>(try exact Bool.noConfusion h))
 all_goals try simp -dsimp [hlt,hs]
 all_goals try clear hs
 clear hlt hok hk
 refine DT_loop (ι:={ k:Nat // k≤p.prints.length∧∀ (j:Nat) (x:Print),j < k→p.prints[j]?=some x→pkB p j x }) (fun q=>⟨37,[(1,.one (.ptr 0 0)),(4,iv (q.1:Int))],[.row ((encPrints p).map .im)]⟩) (fun q=>p.prints.length - q.1) ⟨0,by simp⟩ (Weak.of_keep [1,4] (by simp)) ?_
 rintro ⟨k,hk,hok⟩
 simp only [iv]
 by_cases hlt:k < p.prints.length
 ·have hx0:p.prints[k]?=some p.prints[k]:=by simp [hlt]
  have hw:IntKind.i64.wrap ((k:Int) + 1)=((k + 1:Nat):Int):=i64w (by omega) (by omega)
  have c1:=rsheet_c (G:=G) p k _ hx0 hsm
  generalize hx:p.prints[k]=x at *
  have hstep:pkB p k x→∀ (j:Nat) (z:Print),j < k + 1→p.prints[j]?=some z→pkB p j z:=fun h j z hj hz=>by
   by_cases e:j=k
   ·subst e;rw [hx0] at hz;cases hz;exact h
   ·exact hok j z (by omega) hz
  by_cases hB:pkB p k x
  ·rw [decide_eq_true hB] at c1
   have hs:True:=trivial
   repeat' first|(with_reducible first|refine q01 ?_|refine q04 ?_|refine q11 ?_|refine q12 ?_|refine q14 ?_)|(refine CallE.pure (c1) ?_;try simp -dsimp [hlt,hw,hs])|(with_reducible refine DT_regionE [0,1,2,3,4,14,19,25,30,36] ?_;simp -dsimp [hlt,hw,hs])|(refine DT_cond rfl (fun h=>?_) (fun h=>?_)<;>(try simp only [nrm] at h)<;>(try exact Bool.noConfusion h))
   all_goals try simp -dsimp [hlt,hw,hs]
   all_goals try clear hs
   exact At.round ⟨k + 1,by omega,hstep hB⟩ (by simp;omega) (Weak.of_keep [1,4] (by simp))
  ·rw [decide_eq_false hB] at c1
   have hno:=printsB_no (p:=p) fun h'=>hB (h'.q k x hx0)
   have hs:True:=trivial
   repeat' first|(with_reducible first|refine q01 ?_|refine q02 ?_|refine q05 ?_|refine q11 ?_|refine q12 ?_|refine q14 ?_|refine q17 ?_)|(with_reducible refine At.fn_ret (by simp -dsimp [hlt,hw,hs];exact rfl) ?_)|(refine CallE.pure (c1) ?_;try simp -dsimp [hlt,hw,hs])|(with_reducible refine DT_regionE [0,1,2,3,4,14,19,25,30,36] ?_;simp -dsimp [hlt,hw,hs])|(refine DT_cond rfl (fun h=>?_) (fun h=>?_)<;>(try simp only [nrm] at h)<;>(try exact Bool.noConfusion h))
   all_goals try simp -dsimp [hlt,hw,hs]
   all_goals try clear hs
   all_goals simp [hno]
 have hyes:printsB p=true:=printsB_yes ⟨h6,h30,hall,fun i x hx=>hok i x (by have:=lt_of_getElem? hx;omega) hx⟩
 rw [hyes]
 have hs:True:=trivial
 repeat' first|(with_reducible first|refine q01 ?_|refine q03 ?_|refine q06 ?_|refine q11 ?_|refine q16 ?_|refine q17 ?_)|(with_reducible refine At.fn_ret (by simp -dsimp [hlt,hs];exact rfl) ?_)|(with_reducible refine DT_regionE [0,1,2,3,4,14,19,25,30,36] ?_;simp -dsimp [hlt,hs])|(refine DT_cond rfl (fun h=>?_) (fun h=>?_)<;>(try simp only [nrm] at h)<;>(try exact Bool.noConfusion h))
 all_goals try simp -dsimp [hlt,hs]
 all_goals try clear hs
theorem rPCheck_c (p:Prints) (hk:KP p) (objs:List DObj):DCall Tryz.prog G 34 [printsv p] objs (fun rr objs'=>rr=iv (printsE p)∧objs'=objs):=by
 refine DCall.frame ?_ (by simp) (by simp) objs
 refine DCall_intro Tryz.func34 rfl Tryz.ntmps34 (by simp) rfl ?_
 try simp only [iv]
 have c1:=check3_c (G:=G) p.n hk.n
 have c2:=rPrints_c (G:=G) p hk.p
 by_cases h0:notesE p.n=0
 ·simp only [h0] at c1
  have hE:printsE p=if printsB p=true then 0 else 70:=by unfold printsE;rw [if_neg (by simp [h0])]
  rw [hE]
  generalize printsB p=b at *
  cases b
  ·have hs:True:=trivial
   repeat' first|(with_reducible first|refine q01 ?_|refine q02 ?_|refine q11 ?_|refine q14 ?_|refine q17 ?_)|(with_reducible refine At.fn_ret (by simp -dsimp [hs];exact rfl) ?_)|(refine CallE.pure (c1) ?_;try simp -dsimp [hs])|(refine CallE.pure (c2) ?_;try simp -dsimp [hs])|(with_reducible refine DT_regionE [0,1,2,3,8,12] ?_;simp -dsimp [hs])|(refine DT_cond rfl (fun h=>?_) (fun h=>?_)<;>(try simp only [nrm] at h)<;>(try exact Bool.noConfusion h))
   all_goals try simp -dsimp [hs]
   all_goals try clear hs
  ·have hs:True:=trivial
   repeat' first|(with_reducible first|refine q01 ?_|refine q11 ?_|refine q14 ?_|refine q17 ?_)|(with_reducible refine At.fn_ret (by simp -dsimp [hs];exact rfl) ?_)|(refine CallE.pure (c1) ?_;try simp -dsimp [hs])|(refine CallE.pure (c2) ?_;try simp -dsimp [hs])|(with_reducible refine DT_regionE [0,1,2,3,8,12] ?_;simp -dsimp [hs])|(refine DT_cond rfl (fun h=>?_) (fun h=>?_)<;>(try simp only [nrm] at h)<;>(try exact Bool.noConfusion h))
   all_goals try simp -dsimp [hs]
   all_goals try clear hs
 ·have hE:printsE p=notesE p.n:=by unfold printsE;rw [if_pos h0]
  rw [hE]
  have hs:True:=trivial
  repeat' first|(with_reducible first|refine q01 ?_|refine q02 ?_|refine q11 ?_|refine q17 ?_)|(with_reducible refine At.fn_ret (by simp -dsimp [h0,hs];exact rfl) ?_)|(refine CallE.pure (c1) ?_;try simp -dsimp [h0,hs])|(with_reducible refine DT_regionE [0,1,2,3,8,12] ?_;simp -dsimp [h0,hs])|(refine DT_cond rfl (fun h=>?_) (fun h=>?_)<;>(try simp only [nrm] at h)<;>(try exact Bool.noConfusion h))
  all_goals try simp -dsimp [h0,hs]
  all_goals try clear hs
theorem rPAsked_c (p:Prints) (d m:Int) (hk:KP p) (objs:List DObj):DCall Tryz.prog G 99 [printsv p,iv d,iv m] objs (fun rr objs'=>rr=iv (askedPE p d m)∧objs'=objs):=by
 refine DCall.frame ?_ (by simp) (by simp) objs
 refine DCall_intro Tryz.func99 rfl Tryz.ntmps99 (by simp) rfl ?_
 try simp only [iv,iv]
 have c1:=rPCheck_c (G:=G) p hk
 have c2:=within7_c (G:=G) d 0 14610
 have c3:=within7_c (G:=G) m 1 999
 by_cases h0:printsE p=0
 ·have hE:askedPE p d m=if dayB d m=true then 0 else 2:=by unfold askedPE;rw [if_neg (by simp [h0])]
  rw [hE]
  simp only [h0] at c1
  unfold dayB
  generalize (decide (0≤d) && decide (d≤14610))=b1 at *
  generalize (decide (1≤m) && decide (m≤999))=b2 at *
  cases b1<;>cases b2
  all_goals
   have hs:True:=trivial
   repeat' first|(with_reducible first|refine q01 ?_|refine q02 ?_|refine q11 ?_|refine q14 ?_|refine q17 ?_)|(with_reducible refine At.fn_ret (by simp -dsimp [hs];exact rfl) ?_)|(refine CallE.pure (c1) ?_;try simp -dsimp [hs])|(refine CallE.pure (c2) ?_;try simp -dsimp [hs])|(refine CallE.pure (c3) ?_;try simp -dsimp [hs])|(with_reducible refine DT_regionE [0,1,2,3,6,7,11,20] ?_;simp -dsimp [hs])|(refine DT_cond rfl (fun h=>?_) (fun h=>?_)<;>(try simp only [nrm] at h)<;>(try exact Bool.noConfusion h))
   all_goals try simp -dsimp [hs]
   all_goals try clear hs
 ·have hE:askedPE p d m=printsE p:=by unfold askedPE;rw [if_pos h0]
  rw [hE]
  have hs:True:=trivial
  repeat' first|(with_reducible first|refine q01 ?_|refine q02 ?_|refine q11 ?_|refine q17 ?_)|(with_reducible refine At.fn_ret (by simp -dsimp [h0,hs];exact rfl) ?_)|(refine CallE.pure (c1) ?_;try simp -dsimp [h0,hs])|(with_reducible refine DT_regionE [0,1,2,3,6,7,11,20] ?_;simp -dsimp [h0,hs])|(refine DT_cond rfl (fun h=>?_) (fun h=>?_)<;>(try simp only [nrm] at h)<;>(try exact Bool.noConfusion h))
  all_goals try simp -dsimp [h0,hs]
  all_goals try clear hs
theorem rPAbout_c (p:Prints) (d m i w:Int) (hk:KP p) (objs:List DObj):DCall Tryz.prog G 73 [printsv p,iv d,iv m,iv i,iv w] objs (fun rr objs'=>rr=iv (aboutE p d m i w)∧objs'=objs):=by
 refine DCall.frame ?_ (by simp) (by simp) objs
 refine DCall_intro Tryz.func73 rfl Tryz.ntmps73 (by simp) rfl ?_
 try simp only [iv,iv,iv,iv]
 have c1:=rPAsked_c (G:=G) p d m hk
 have hh:=hk.p.h
 have hr:=hk.p.r
 have hrl:=hk.p.l
 have c2:=index7_c (G:=G) p i (by omega)
 have c3:=numbers_c (G:=G) p.n.reg (by omega)
 have c4:=has7_c (G:=G) (nums p.n.reg) w (by omega)
 have hf:=fidx_lt (fun y:Holder=>decide (y.id=i)) p.holders
 by_cases h0:askedPE p d m=0
 ·have hE:aboutE p d m i w=if (p.holders.any fun y=>decide (y.id=i))=true∧w∈nums p.n.reg then 0 else 6:=by unfold aboutE;rw [if_neg (by simp [h0])]
  rw [hE]
  simp only [h0] at c1
  generalize fidx (fun y:Holder=>decide (y.id=i)) p.holders=f at *
  generalize (p.holders.any fun y=>decide (y.id=i))=b at *
  cases b
  ·have hf':f < 0:=by simpa using hf
   have hs:True:=trivial
   repeat' first|(with_reducible first|refine q01 ?_|refine q02 ?_|refine q11 ?_|refine q14 ?_|refine q17 ?_)|(with_reducible refine At.fn_ret (by simp -dsimp [hf',hs];exact rfl) ?_)|(refine CallE.pure (c1) ?_;try simp -dsimp [hf',hs])|(refine CallE.pure (c2) ?_;try simp -dsimp [hf',hs])|(with_reducible refine DT_regionE [0,1,2,3,4,5,10,11,17,31] ?_;simp -dsimp [hf',hs])|(refine DT_cond rfl (fun h=>?_) (fun h=>?_)<;>(try simp only [nrm] at h)<;>(try exact Bool.noConfusion h))
   all_goals try simp -dsimp [hf',hs]
   all_goals try clear hs
  ·have hf':¬ f < 0:=by simpa using hf
   by_cases hw:w∈nums p.n.reg
   ·simp only [hw,decide_true] at c4
    have hs:True:=trivial
    repeat' first|(with_reducible first|refine q01 ?_|refine q11 ?_|refine q14 ?_|refine q17 ?_)|(with_reducible refine At.fn_ret (by simp -dsimp [hf',hw,hs];exact rfl) ?_)|(refine CallE.pure (c1) ?_;try simp -dsimp [hf',hw,hs])|(refine CallE.pure (c2) ?_;try simp -dsimp [hf',hw,hs])|(refine CallE.pure (c3) ?_;try simp -dsimp [hf',hw,hs])|(refine CallE.pure (c4) ?_;try simp -dsimp [hf',hw,hs])|(with_reducible refine DT_regionE [0,1,2,3,4,5,10,11,17,31] ?_;simp -dsimp [hf',hw,hs])|(refine DT_cond rfl (fun h=>?_) (fun h=>?_)<;>(try simp only [nrm] at h)<;>(try exact Bool.noConfusion h))
    all_goals try simp -dsimp [hf',hw,hs]
    all_goals try clear hs
   ·simp only [hw,decide_false] at c4
    have hs:True:=trivial
    repeat' first|(with_reducible first|refine q01 ?_|refine q02 ?_|refine q11 ?_|refine q14 ?_|refine q17 ?_)|(with_reducible refine At.fn_ret (by simp -dsimp [hf',hw,hs];exact rfl) ?_)|(refine CallE.pure (c1) ?_;try simp -dsimp [hf',hw,hs])|(refine CallE.pure (c2) ?_;try simp -dsimp [hf',hw,hs])|(refine CallE.pure (c3) ?_;try simp -dsimp [hf',hw,hs])|(refine CallE.pure (c4) ?_;try simp -dsimp [hf',hw,hs])|(with_reducible refine DT_regionE [0,1,2,3,4,5,10,11,17,31] ?_;simp -dsimp [hf',hw,hs])|(refine DT_cond rfl (fun h=>?_) (fun h=>?_)<;>(try simp only [nrm] at h)<;>(try exact Bool.noConfusion h))
    all_goals try simp -dsimp [hf',hw,hs]
    all_goals try clear hs
 ·have hE:aboutE p d m i w=askedPE p d m:=by unfold aboutE;rw [if_pos h0]
  rw [hE]
  have hs:True:=trivial
  repeat' first|(with_reducible first|refine q01 ?_|refine q02 ?_|refine q11 ?_|refine q17 ?_)|(with_reducible refine At.fn_ret (by simp -dsimp [h0,hs];exact rfl) ?_)|(refine CallE.pure (c1) ?_;try simp -dsimp [h0,hs])|(with_reducible refine DT_regionE [0,1,2,3,4,5,10,11,17,31] ?_;simp -dsimp [h0,hs])|(refine DT_cond rfl (fun h=>?_) (fun h=>?_)<;>(try simp only [nrm] at h)<;>(try exact Bool.noConfusion h))
  all_goals try simp -dsimp [h0,hs]
  all_goals try clear hs
theorem out7_c (x:Print) (d:Int) (hl:0≤x.lost∧x.lost≤255) (objs:List DObj):DCall Tryz.prog G 102 [printv x,iv d] objs (fun rr objs'=>rr=bv (outB x d)∧objs'=objs):=by
 refine DCall.frame ?_ (by simp) (by simp) objs
 refine DCall_intro Tryz.func102 rfl Tryz.ntmps102 (by simp) rfl ?_
 try simp only [iv]
 have hs:True:=trivial
 repeat' first|(with_reducible first|refine q01 ?_|refine q11 ?_|refine q17 ?_)|(with_reducible refine At.fn_ret (by simp -dsimp [hs];exact rfl) ?_)|(with_reducible refine DT_regionE [0,1,2,4] ?_;simp -dsimp [hs])|(with_reducible refine GStop_split ?_ ?_<;>intro h<;>have h0:=h<;>(try simp only [nrm] at h)<;>(try exact Bool.noConfusion h)<;>have h2:=h<;>(try simp at h2)<;>(replace hs:=And.intro h0 (And.intro h (And.intro h2 hs)))<;>simp -dsimp [h0,h,h2,hs])
 all_goals try simp -dsimp [hs]
 all_goals try clear hs
 all_goals simp_all [outB]
 all_goals omega
end Go.Proofs
namespace Go.Ab
open Go
def lexB:List Int→List Int→Bool
 | a :: x,b :: y=>if a=b then lexB x y else decide (a < b)
 | _,_=>false
end Go.Ab
namespace Go.Ab
open Go
theorem strict_sub:∀ (X Y:List Int),X.Pairwise (· < ·)→Y.Pairwise (· < ·)→(∀ x∈X,x∈Y)→X.Sublist Y
 | [],Y,_,_,_=>by simp
 | a :: x,[],_,_,h=>by have:=h a (by simp);simp at this
 | a :: x,b :: y,hX,hY,h=>by
   obtain ⟨h1,h2⟩:=List.pairwise_cons.1 hX
   obtain ⟨h3,h4⟩:=List.pairwise_cons.1 hY
   by_cases e:a=b
   ·subst e
    refine List.Sublist.cons_cons a (strict_sub x y h2 h4 fun z hz=>?_)
    rcases List.mem_cons.1 (h z (by simp [hz])) with rfl|hm
    ·have:=h1 z hz;omega
    ·exact hm
   ·refine List.Sublist.cons b (strict_sub (a :: x) y hX h4 fun z hz=>?_)
    have hab:b < a:=by
     rcases List.mem_cons.1 (h a (by simp)) with rfl|hm
     ·exact absurd rfl e
     ·exact h3 a hm
    rcases List.mem_cons.1 (h z hz) with rfl|hm
    ·rcases List.mem_cons.1 hz with rfl|hz
     ·omega
     ·have:=h1 z hz;omega
    ·exact hm
theorem strict_eq {X Y:List Int} (hX:X.Pairwise (· < ·)) (hY:Y.Pairwise (· < ·)) (h:∀ x,x∈X↔x∈Y):X=Y:=
 (strict_sub X Y hX hY fun x hx=>(h x).1 hx).eq_of_length_le (strict_sub Y X hY hX fun x hx=>(h x).2 hx).length_le
end Go.Ab
namespace Go.Proofs
open Go Go.Ab
def upL (v:Int) (q:Int→Bool) (k:Nat):List Int:=((List.range k).map fun (x:Nat)=>v + 1 + (x:Int)).filter q
theorem upL_zero (v:Int) (q:Int→Bool):upL v q 0=[]:=rfl
theorem upL_succ (v:Int) (q:Int→Bool) (k:Nat):upL v q (k + 1)=upL v q k ++ (if q (v + 1 + (k:Int))=true then [v + 1 + (k:Int)] else []):=by
 unfold upL
 rw [List.range_succ,List.map_append,List.filter_append]
 congr 1
 simp only [List.map_cons,List.map_nil,List.filter_cons,List.filter_nil]
theorem upL_len (v:Int) (q:Int→Bool) (k:Nat):(upL v q k).length≤k:=by
 unfold upL
 refine Nat.le_trans (List.length_filter_le _ _) ?_
 simp
theorem upL_mem {v:Int} {q:Int→Bool} {k:Nat} {x:Int}:x∈upL v q k↔(v + 1≤x∧x < v + 1 + k)∧q x=true:=by
 unfold upL
 rw [List.mem_filter,List.mem_map]
 refine and_congr_left fun _=>⟨fun ⟨a,ha,e⟩=>?_,fun ⟨h1,h2⟩=>⟨(x - v - 1).toNat,?_,?_⟩⟩
 ·rw [List.mem_range] at ha;omega
 ·rw [List.mem_range];omega
 ·omega
theorem upL_lt (v:Int) (q:Int→Bool) (k:Nat):(upL v q k).Pairwise (· < ·):=by
 unfold upL
 refine List.Pairwise.filter _ ?_
 rw [List.pairwise_map]
 exact List.pairwise_lt_range.imp fun h=>by omega
def worksK (d i w:Int) (l:List Print):List Int:=surV d i w l :: upL (surV d i w l) (fun n=>decide (n∈perL d i w l)) (8 - surV d i w l).toNat
theorem drop_fidx {D:List Int} {v:Int} (hs:D.Pairwise (· < ·)) (hv:v∈D):(D.drop (fidx (fun x=>decide (v=x)) D).toNat).Pairwise (· < ·)∧∀ x,x∈D.drop (fidx (fun x=>decide (v=x)) D).toNat↔x∈D∧v≤x:=by
 obtain ⟨j,hj,hjv⟩:=List.mem_iff_getElem.1 hv
 have hf:fidx (fun x=>decide (v=x)) D=j:=by
  refine fidx_yes (x:=v) (List.getElem?_eq_some_iff.2 ⟨hj,hjv⟩) (by simp) fun a x ha hx=>?_
  obtain ⟨h1,rfl⟩:=List.getElem?_eq_some_iff.1 hx
  have:=List.pairwise_iff_getElem.1 hs a j h1 hj ha
  simp;omega
 rw [hf,Int.toNat_natCast]
 refine ⟨hs.drop,fun x=>⟨fun hx=>?_,fun ⟨hx,hvx⟩=>?_⟩⟩
 ·obtain ⟨a,ha,rfl⟩:=List.mem_iff_getElem.1 hx
  rw [List.length_drop] at ha
  rw [List.getElem_drop]
  refine ⟨List.getElem_mem _,?_⟩
  rcases Nat.eq_zero_or_pos a with h0|h0
  ·subst h0;simp [hjv]
  ·have:=List.pairwise_iff_getElem.1 hs j (j + a) hj (by omega) (by omega)
   omega
 ·obtain ⟨a,ha,rfl⟩:=List.mem_iff_getElem.1 hx
  have hja:j≤a:=by
   refine Classical.byContradiction fun h=>?_
   have:=List.pairwise_iff_getElem.1 hs a j ha hj (by omega)
   omega
  refine List.mem_iff_getElem.2 ⟨a - j,by rw [List.length_drop];omega,?_⟩
  rw [List.getElem_drop]
  congr 1;omega
theorem surV_fold (L:List Print):∀ a:Int,a≤L.foldl (fun a x=>max a x.letter) a∧((∀ x∈L,x.letter≤8)→a≤8→L.foldl (fun a x=>max a x.letter) a≤8):=by
 induction L with
 | nil=>intro a;exact ⟨Int.le_refl _,fun _ h=>h⟩
 | cons x L ih =>
   intro a
   rw [List.foldl_cons]
   obtain ⟨h1,h2⟩:=ih (max a x.letter)
   refine ⟨by omega,fun h3 h4=>h2 (fun y hy=>h3 y (List.mem_cons_of_mem _ hy)) ?_⟩
   have:=h3 x List.mem_cons_self
   omega
theorem works_eq {d i w:Int} {l:List Print} (h:∀ x∈l,selB d i w x=true→1≤x.letter∧x.letter≤8):worksP d i w l=worksK d i w l:=by
 have hv:=surV_fold (l.filter fun x=>selB d i w x && !decide (x.lost=1)) 0
 have hv0:0≤surV d i w l:=hv.1
 have hv8:surV d i w l≤8:=hv.2 (fun x hx=>by
  obtain ⟨h1,h2⟩:=List.mem_filter.1 hx
  rw [Bool.and_eq_true] at h2
  exact (h x h1 h2.1).2) (by omega)
 have hq:∀ n∈perL d i w l,1≤n∧n≤8:=fun n hn=>by
  unfold perL at hn
  obtain ⟨x,hx,rfl⟩:=List.mem_map.1 hn
  obtain ⟨h1,h2⟩:=List.mem_filter.1 hx
  rw [Bool.and_eq_true] at h2
  exact h x h1 h2.1
 unfold worksP worksK
 generalize surV d i w l=v at *
 generalize perL d i w l=Q at *
 have hD:(dedupI (isort (Q ++ [v]))).Pairwise (· < ·):=dedupI_lt _ (isort_sorted _)
 have hm:∀ x,x∈dedupI (isort (Q ++ [v]))↔x∈Q∨x=v:=fun x=>by rw [dedupI_mem,isort_mem];simp
 obtain ⟨h1,h2⟩:=drop_fidx hD ((hm v).2 (.inr rfl))
 refine strict_eq h1 ?_ fun x=>?_
 ·refine List.pairwise_cons.2 ⟨fun y hy=>?_,upL_lt _ _ _⟩
  have:=(upL_mem.1 hy).1;omega
 ·rw [h2,hm,List.mem_cons,upL_mem,decide_eq_true_eq]
  constructor
  ·rintro ⟨h3|h3,h4⟩
   ·by_cases e:x=v
    ·exact .inl e
    ·have:=hq x h3
     exact .inr ⟨by omega,h3⟩
   ·exact .inl h3
  ·rintro (rfl|⟨h3,h4⟩)
   ·exact ⟨.inr rfl,Int.le_refl _⟩
   ·exact ⟨.inl h4,by omega⟩
end Go.Proofs
namespace Go.Ab
open Go
end Go.Ab
namespace Go.Ab
open Go
end Go.Ab
namespace Go.Proofs
open Go Go.Ab
set_option linter.unusedSimpArgs false
variable {G:Nat→Option (List IC)}
end Go.Proofs
namespace Go.Proofs
open Go Go.Ab
set_option linter.unusedSimpArgs false
variable {G:Nat→Option (List IC)}
def encL (l:List Int):List IC:=[.sl (l.map encI)]
def lsv (L:List (List Int)):DV:=.one (.im (.sl (L.map encL)))
attribute [simp] encL lsv
end Go.Proofs
namespace Go.Ab
open Go
structure Str where
 frm:Int
 to:Int
 letter:Int
 deriving DecidableEq
def encStr (x:Str):List IC:=[rI x.frm,rI x.to,rI x.letter]
def strv (l:List Str):DV:=.one (.im (.sl (l.map encStr)))
attribute [simp] encStr strv
end Go.Ab
namespace Go.Proofs
open Go Go.Ab
end Go.Proofs
namespace Go.Proofs
open Go Go.Ab
def stepS (a b:List Int):List Int:=List.zipWith (fun x y=>if y=x then x else 0) a b
end Go.Proofs
namespace Go.Proofs
open Go Go.Ab
set_option linter.unusedSimpArgs false
variable {G:Nat→Option (List IC)}
attribute [simp] permL reO gones noLoop nilV nilX ZK
end Go.Proofs
namespace Go.Proofs
open Go Go.Ab
end Go.Proofs
namespace Go.Ab
open Go
def bcs9 (L:List Bool):List DC:=L.map fun b=>.im (.raw (.bool b))
theorem bcs9_len (L:List Bool):(bcs9 L).length=L.length:=by simp [bcs9]
theorem bcs9_at {L:List Bool} {k:Nat} {v:Bool} (h:L[k]?=some v):((bcs9 L).drop k).take 1=[.im (.raw (.bool v))]:=by
 have hk:k < (bcs9 L).length:=by rw [bcs9_len];exact lt_of_getElem? h
 have h2:(bcs9 L)[k]?=some (.im (.raw (.bool v))):=by simp [bcs9,h]
 rw [List.drop_eq_getElem_cons hk,(List.getElem?_eq_some_iff.1 h2).2]
 rfl
theorem bcs9_set {L:List Bool} {k:Nat} {v:Bool} (h:k < L.length):List.take k (bcs9 L) ++ DC.im (IC.raw (Value.bool v)) :: List.drop (k + 1) (bcs9 L)=bcs9 (L.set k v):=by
 simp only [bcs9,List.map_set]
 rw [List.set_eq_take_append_cons_drop,if_pos (by simpa using h)]
@[simp] theorem fz_bcs9 (m:Nat) (O:List DObj) (L:List Bool):(bcs9 L).map (fz m O)=bcs9 L:=by
 simp only [bcs9,List.map_map];rfl
end Go.Ab
namespace Go.Proofs
open Go Go.Ab
set_option linter.unusedSimpArgs false
variable {G:Nat→Option (List IC)}
end Go.Proofs
namespace Go.Proofs
open Go Go.Ab
set_option linter.unusedSimpArgs false
variable {G:Nat→Option (List IC)}
set_option maxHeartbeats 4000000 in
theorem works7_c (p:Prints) (d i w:Int) (hsm:SmallP p) (hlt8:∀ x∈p.prints,selB d i w x=true→(1≤x.letter∧x.letter≤8)∧(x.lost=0∨x.lost=1)) (objs:List DObj):DCall Tryz.prog G 74 [printsv p,iv d,iv i,iv w] objs (fun rr objs'=>rr=isv (worksK d i w p.prints)∧objs'=objs):=by
 refine DCall.frame ?_ (by simp) (by simp) objs
 refine DCall_intro Tryz.func74 rfl Tryz.ntmps74 (by simp) rfl ?_
 try simp only [iv,iv,iv]
 have hq:=hsm.q
 have hs:True:=trivial
 repeat' first|(with_reducible first|refine q01 ?_|refine q11 ?_|refine q12 ?_)|(with_reducible refine DT_regionE [0,1,2,3,4,8,9,10,11,12,13,14,19,43,46,61,66] ?_;simp -dsimp [hs])
 all_goals try simp -dsimp [hs]
 all_goals try clear hs
 refine DT_loop (ι:={ q:Nat×List Bool // q.1≤p.prints.length∧q.2.length=9∧∀ x:Nat,x < 9→q.2[x]?=some (decide ((x:Int)∈perL d i w (p.prints.take q.1))) }) (fun q=>⟨72,[(1,iv d),(2,iv i),(3,iv w),(4,.one (.ptr 0 0)),(9,iv (surV d i w (p.prints.take q.1.1))),(10,.one (.ptr 2 0)),(11,iv (q.1.1:Int))],[.row ((encPrints p).map .im),.vec 1 [] 0 true,.row (bcs9 q.1.2)]⟩) (fun q=>p.prints.length - q.1.1) ⟨(0,List.replicate 9 false),by simp,by simp,fun x hx=>by rw [List.getElem?_replicate,if_pos hx];simp [perL]⟩ (Weak.of_keep [1,2,3,4,9,10,11] (by simp [bcs9,surV])) ?_
 rintro ⟨⟨k,B⟩,hk,hB9,hB⟩
 simp only at hk hB9 hB
 simp only [iv]
 have hbl:=bcs9_len B
 by_cases hlt:k < p.prints.length
 ·have hw:IntKind.i64.wrap ((k:Int) + 1)=((k + 1:Nat):Int):=i64w (by omega) (by omega)
  have hst1:=perL_step d i w hlt
  have hst2:=surV_step d i w hlt
  have hl8:=hlt8 p.prints[k] (List.getElem_mem hlt)
  have hlo:=hsm.lo p.prints[k] (List.getElem_mem hlt)
  generalize hx:p.prints[k]=x at *
  have c1:=out7_c (G:=G) x d hlo
  have hs:True:=trivial
  cases hsel:selB d i w x
  ·rw [hsel] at hst1 hst2
   simp only [Bool.false_and,Bool.false_eq_true,if_false,List.append_nil] at hst1 hst2
   simp only [selB] at hsel
   generalize outB x d=o at *
   simp at hsel
   rw [← hst1] at hB
   have hcs:¬ x.holder=i∨(x.holder=i∧¬ x.drawing=w)∨(x.holder=i∧x.drawing=w∧o=false):=by
    by_cases g1:x.holder=i<;>by_cases g2:x.drawing=w<;>cases o<;>simp_all
   clear hsel
   rcases hcs with q4|⟨q4,q5⟩|⟨q4,q5,rfl⟩
   ·have hs:True:=trivial
    repeat' first|(with_reducible first|refine q01 ?_|refine q03 ?_|refine q06 ?_|refine q11 ?_|refine q12 ?_|refine q14 ?_|refine q16 ?_)|(with_reducible refine DT_regionE [0,1,2,3,4,8,9,10,11,12,13,14,19,43,46,61,66] ?_;simp -dsimp [hx,hlt,hw,q4,hs])|(refine DT_cond rfl (fun h=>?_) (fun h=>?_)<;>(try simp only [nrm] at h)<;>(try exact Bool.noConfusion h))
    all_goals try simp -dsimp [hx,hlt,hw,q4,hs]
    all_goals try clear hs
    all_goals exact At.round ⟨(k + 1,B),by simp only;omega,hB9,hB⟩ (by simp only;omega) (Weak.of_drop [1,2,3,4,9,10,11] 3 (by simp) (by simp) (by simp [hst2]))
   ·have hs:True:=trivial
    repeat' first|(with_reducible first|refine q01 ?_|refine q03 ?_|refine q06 ?_|refine q11 ?_|refine q12 ?_|refine q14 ?_|refine q16 ?_)|(with_reducible refine DT_regionE [0,1,2,3,4,8,9,10,11,12,13,14,19,43,46,61,66] ?_;simp -dsimp [hx,hlt,hw,q4,q5,hs])|(refine DT_cond rfl (fun h=>?_) (fun h=>?_)<;>(try simp only [nrm] at h)<;>(try exact Bool.noConfusion h))
    all_goals try simp -dsimp [hx,hlt,hw,q4,q5,hs]
    all_goals try clear hs
    all_goals exact At.round ⟨(k + 1,B),by simp only;omega,hB9,hB⟩ (by simp only;omega) (Weak.of_drop [1,2,3,4,9,10,11] 3 (by simp) (by simp) (by simp [hst2]))
   ·simp only [printv,encPrint,rI,q4,q5,List.map_cons,List.map_nil] at c1
    have hs:True:=trivial
    repeat' first|(with_reducible first|refine q01 ?_|refine q03 ?_|refine q06 ?_|refine q11 ?_|refine q12 ?_|refine q14 ?_|refine q16 ?_)|(refine CallE.pure (c1) ?_;try simp -dsimp [hx,hlt,hw,q4,q5,hs])|(with_reducible refine DT_regionE [0,1,2,3,4,8,9,10,11,12,13,14,19,43,46,61,66] ?_;simp -dsimp [hx,hlt,hw,q4,q5,hs])|(refine DT_cond rfl (fun h=>?_) (fun h=>?_)<;>(try simp only [nrm] at h)<;>(try exact Bool.noConfusion h))
    all_goals try simp -dsimp [hx,hlt,hw,q4,q5,hs]
    all_goals try clear hs
    all_goals exact At.round ⟨(k + 1,B),by simp only;omega,hB9,hB⟩ (by simp only;omega) (Weak.of_drop [1,2,3,4,9,10,11] 3 (by simp) (by simp) (by simp [hst2]))
  ·obtain ⟨⟨hl1,hl2⟩,hl01⟩:=hl8 hsel
   rw [hsel] at hst1 hst2
   simp only [Bool.true_and] at hst1 hst2
   simp only [selB] at hsel
   generalize outB x d=o at *
   simp at hsel
   obtain ⟨rfl,q4,q5⟩:=hsel
   simp only [printv,encPrint,rI,q4,q5,List.map_cons,List.map_nil] at c1
   obtain ⟨j,hj⟩:=Int.eq_ofNat_of_zero_le (show 0≤x.letter by omega)
   rcases hl01 with hl0|hl0
   ·simp only [hl0,show ¬ (0:Int)=1 by omega,decide_false,Bool.false_eq_true,if_false,List.append_nil,Bool.not_false,if_true] at hst1 hst2
    rw [← hst1] at hB
    simp only [hl0] at c1
    have hs:True:=trivial
    repeat' first|(with_reducible first|refine q01 ?_|refine q04 ?_|refine q11 ?_|refine q12 ?_|refine q14 ?_)|(refine CallE.pure (c1) ?_;try simp -dsimp [hx,hlt,hw,q4,q5,hl0,hs])|(with_reducible refine DT_regionE [0,1,2,3,4,8,9,10,11,12,13,14,19,43,46,61,66] ?_;simp -dsimp [hx,hlt,hw,q4,q5,hl0,hs])|(refine DT_cond rfl (fun h=>?_) (fun h=>?_)<;>(try simp only [nrm] at h)<;>(try exact Bool.noConfusion h))
    all_goals try simp -dsimp [hx,hlt,hw,q4,q5,hl0,hs]
    all_goals try clear hs
    all_goals exact At.round ⟨(k + 1,B),by simp only;omega,hB9,hB⟩ (by simp only;omega) (Weak.of_drop [1,2,3,4,9,10,11] 3 (by simp) (by simp) (by simp [hst2]))
   ·simp only [hl0,decide_true,if_true,Bool.not_true,Bool.false_eq_true,if_false] at hst1 hst2
    have hjB:j < B.length:=by omega
    have hset:=bcs9_set (v:=true) hjB
    have hB2:∀ y:Nat,y < 9→(B.set j true)[y]?=some (decide ((y:Int)∈perL d i w (p.prints.take (k + 1)))):=fun y hy9=>by
     rw [hst1,hj]
     by_cases e:j=y
     ·subst e;simp [hjB]
     ·rw [List.getElem?_set_ne e,hB y hy9]
      have:¬ (y:Int)=(j:Int):=by omega
      simp [this]
    have hj9:(j:Int) < 9:=by omega
    have hj0:¬ (j:Int) < 0:=by omega
    have hjn:j < 9:=by omega
    have hj8:j≤8:=by omega
    have hl0':¬ (x.lost=0):=by omega
    simp only [hl0,hj] at c1
    have hs:True:=trivial
    repeat' first|(with_reducible first|refine q01 ?_|refine q04 ?_|refine q11 ?_|refine q12 ?_|refine q14 ?_)|(refine CallE.pure (c1) ?_;try simp -dsimp [hx,hlt,hw,q4,q5,hl0,hj,hbl,hB9,hj9,hj0,hjn,hj8,hset,hs])|(with_reducible refine DT_regionE [0,1,2,3,4,8,9,10,11,12,13,14,19,43,46,61,66] ?_;simp -dsimp [hx,hlt,hw,q4,q5,hl0,hj,hbl,hB9,hj9,hj0,hjn,hj8,hset,hs])|(refine DT_cond rfl (fun h=>?_) (fun h=>?_)<;>(try simp only [nrm] at h)<;>(try exact Bool.noConfusion h))
    all_goals try simp -dsimp [hx,hlt,hw,q4,q5,hl0,hj,hbl,hB9,hj9,hj0,hjn,hj8,hset,hs]
    all_goals try clear hs
    all_goals exact At.round ⟨(k + 1,B.set j true),by simp only;omega,by simpa using hB9,hB2⟩ (by simp only;omega) (Weak.of_drop [1,2,3,4,9,10,11] 3 (by simp) (by simp) (by simp [hset,hst2]))
 ·obtain rfl:k=p.prints.length:=by omega
  have hBn:=hB
  simp only [List.take_length] at hBn ⊢
  have hvv:=surV_fold (p.prints.filter fun x=>selB d i w x && !decide (x.lost=1)) 0
  have hv0:0≤surV d i w p.prints:=hvv.1
  have hv8:surV d i w p.prints≤8:=hvv.2 (fun x hx=>by
   obtain ⟨h1,h2⟩:=List.mem_filter.1 hx
   rw [Bool.and_eq_true] at h2
   exact (hlt8 x h1 h2.1).1.2) (by omega)
  have hEK:worksK d i w p.prints=surV d i w p.prints :: upL (surV d i w p.prints) (fun n=>decide (n∈perL d i w p.prints)) (8 - surV d i w p.prints).toNat:=rfl
  generalize worksK d i w p.prints=WK at *
  generalize surV d i w p.prints=v at *
  generalize perL d i w p.prints=Q at *
  obtain ⟨a,rfl⟩:=Int.eq_ofNat_of_zero_le hv0
  rw [show ((8:Int) - (a:Int)).toNat=8 - a by omega] at hEK
  have ha8:a≤8:=by omega
  have hwa:IntKind.i64.wrap ((a:Int) + 1)=(a:Int) + 1:=i64w (by omega) (by omega)
  have hs:True:=trivial
  repeat' first|(with_reducible first|refine q01 ?_|refine q03 ?_|refine q06 ?_|refine q11 ?_|refine q12 ?_|refine q16 ?_)|(with_reducible refine DT_regionE [0,1,2,3,4,8,9,10,11,12,13,14,19,43,46,61,66] ?_;simp -dsimp [hlt,hwa,hs])|(refine DT_cond rfl (fun h=>?_) (fun h=>?_)<;>(try simp only [nrm] at h)<;>(try exact Bool.noConfusion h))
  all_goals try simp -dsimp [hlt,hwa,hs]
  all_goals try clear hs
  refine DT_loop (ι:={ q:Nat×Nat // q.1≤8 - a }) (fun q=>⟨72,[(10,.one (.ptr 2 0)),(13,.one (.vec 3 q.1.2 0 ((upL a (fun n=>decide (n∈Q)) q.1.1).length + 1))),(14,iv ((a:Int) + 1 + (q.1.1:Int)))],[.row ((encPrints p).map .im),.vec 1 [] 0 true,.row (bcs9 B),.vec 1 (ims (((a:Int) :: upL a (fun n=>decide (n∈Q)) q.1.1).map encI)) q.1.2 false]⟩) (fun q=>8 - a - q.1.1) ⟨(0,0),by simp⟩ (Weak.of_keep [10,13,14] (by simp [upL_zero,ims])) ?_
  rintro ⟨⟨x,g⟩,hx8⟩
  simp only at hx8
  simp only [iv]
  by_cases hlx:x < 8 - a
  ·have hst:=upL_succ a (fun n=>decide (n∈Q)) x
   have hsl:=upL_len a (fun n=>decide (n∈Q)) x
   have hbx:=hBn (a + 1 + x) (by omega)
   have hci:((a + 1 + x:Nat):Int)=(a:Int) + 1 + (x:Int):=by omega
   rw [hci] at hbx
   have hat:=bcs9_at hbx
   have hw:IntKind.i64.wrap ((a:Int) + 1 + (x:Int) + 1)=(a:Int) + 1 + ((x + 1:Nat):Int):=by rw [i64w (by omega) (by omega)];omega
   have hlxi:(a:Int) + 1 + (x:Int) < 9:=by omega
   have hz0:(0:Int)≤(a:Int) + 1 + (x:Int):=by omega
   have hxn:a + 1 + x < 9:=by omega
   have hx8n:a + 1 + x≤8:=by omega
   have hx8i:(a:Int) + 1 + (x:Int)≤8:=by omega
   have hto:((a:Int) + 1 + (x:Int)).toNat=a + 1 + x:=by omega
   generalize upL a (fun n=>decide (n∈Q)) x=L at *
   cases hv:decide ((a:Int) + 1 + (x:Int)∈Q)
   ·rw [hv] at hst hat
    rw [if_neg Bool.false_ne_true,List.append_nil] at hst
    have hs:True:=trivial
    repeat' first|(with_reducible first|refine q01 ?_|refine q04 ?_|refine q11 ?_|refine q12 ?_|refine q14 ?_)|(with_reducible refine DT_regionE [0,1,2,3,4,8,9,10,11,12,13,14,19,43,46,61,66] ?_;simp -dsimp [hlxi,hz0,hxn,hw,hbl,hB9,hat,hx8i,hto,hx8n,hs])|(refine DT_cond rfl (fun h=>?_) (fun h=>?_)<;>(try simp only [nrm] at h)<;>(try exact Bool.noConfusion h))
    all_goals try simp -dsimp [hlxi,hz0,hxn,hw,hbl,hB9,hat,hx8i,hto,hx8n,hs]
    all_goals try clear hs
    all_goals exact At.round ⟨(x + 1,g),by simp only;omega⟩ (by simp only;omega) (Weak.of_keep [10,13,14] (by simp [hst]))
   ·rw [hv] at hst hat
    rw [if_pos rfl] at hst
    have hs:True:=trivial
    repeat' first|(with_reducible first|refine q01 ?_|refine q04 ?_|refine q11 ?_|refine q12 ?_|refine q14 ?_|refine And.intro (by omega) ?_)|(with_reducible refine DT_regionE [0,1,2,3,4,8,9,10,11,12,13,14,19,43,46,61,66] ?_;simp -dsimp [hlxi,hz0,hxn,hw,hbl,hB9,hat,hx8i,hto,hx8n,hs])|(refine DT_cond rfl (fun h=>?_) (fun h=>?_)<;>(try simp only [nrm] at h)<;>(try exact Bool.noConfusion h))
    all_goals try simp -dsimp [hlxi,hz0,hxn,hw,hbl,hB9,hat,hx8i,hto,hx8n,hs]
    all_goals try clear hs
    all_goals exact At.round ⟨(x + 1,g + 1),by simp only;omega⟩ (by simp only;omega) (Weak.of_drop [10,13,14] 4 (by simp) (by simp) (by simp [hst]))
  ·obtain rfl:x=8 - a:=by omega
   have hlxi:¬ (a:Int) + 1 + ((8 - a:Nat):Int) < 9:=by omega
   have hs:True:=trivial
   repeat' first|(with_reducible first|refine q01 ?_|refine q03 ?_|refine q06 ?_|refine q11 ?_|refine q16 ?_|refine q17 ?_)|(with_reducible refine At.fn_ret (by simp -dsimp [hlxi,hEK,hs];exact rfl) ?_)|(with_reducible refine DT_regionE [0,1,2,3,4,8,9,10,11,12,13,14,19,43,46,61,66] ?_;simp -dsimp [hlxi,hEK,hs])|(refine DT_cond rfl (fun h=>?_) (fun h=>?_)<;>(try simp only [nrm] at h)<;>(try exact Bool.noConfusion h))
   all_goals try simp -dsimp [hlxi,hEK,hs]
   all_goals try clear hs
end Go.Proofs
namespace Go.Proofs
open Go Go.Ab
set_option linter.unusedSimpArgs false
variable {G:Nat→Option (List IC)}
attribute [simp] gones noLoop
noncomputable def worksO (p:Prints) (d i w:Int):List Int:=if aboutE p d 1 i w=0 then worksP d i w p.prints else []
theorem rWorks_c (p:Prints) (d i w:Int) (hG:sheetG G) (hN:noteG G) (hS:SortOk G) (hR:recallG G) (hk:KP p) (objs:List DObj):DCall Tryz.prog G 44 [printsv p,iv d,iv i,iv w] objs (fun rr objs'=>rr=.tup [isv (worksO p d i w),iv (aboutE p d 1 i w)]∧objs'=objs):=by
 refine DCall.frame ?_ (by simp) (by simp) objs
 refine DCall_intro Tryz.func44 rfl Tryz.ntmps44 (by simp) rfl ?_
 try simp only [iv,iv,iv]
 have c1:=rAbout_c p d 1 i w hG hN hS hR hk
 have c2:=works_c p d i w hS (by have:=hk.p.q;omega)
 by_cases h0:aboutE p d 1 i w=0
 ·have hW:worksO p d i w=worksP d i w p.prints:=by unfold worksO;rw [if_pos h0]
  simp only [aboutR,h0,if_true] at c1
  rw [hW,h0]
  simp only [officeI] at c1 c2
  have c1':=c1 []
  simp only [printsv,encPrints,isv,iv,List.map_cons,List.map_nil,encI,rI] at c1'
  have hs:True:=trivial
  repeat' first|(with_reducible first|refine q01 ?_|refine q11 ?_|refine q14 ?_|refine q17 ?_)|(with_reducible refine At.fn_ret (by simp -dsimp [hs];exact rfl) ?_)|(refine CallE.freeze 0 c1' ?_ ?_ ?_ ?_ ?_ ?_;(focus (simp;done));(focus (simp;done));(focus (simp;done));(focus rfl);(focus (simp;done));try simp -dsimp [gones];try simp -dsimp [hs])|(refine CallE.pure (c2) ?_;try simp -dsimp [hs])|(with_reducible refine DT_regionE [0,1,2,3,4,8,9,10,11,22] ?_;simp -dsimp [hs])|(refine DT_cond rfl (fun h=>?_) (fun h=>?_)<;>(try simp only [nrm] at h)<;>(try exact Bool.noConfusion h))
  all_goals try simp -dsimp [hs]
  all_goals try clear hs
 ·have hW:worksO p d i w=[]:=by unfold worksO;rw [if_neg h0]
  simp only [aboutR,h0,if_false] at c1
  rw [hW]
  have c1':=c1 []
  simp only [printsv,encPrints,isv,iv,List.map_cons,List.map_nil,encI,rI] at c1'
  have hs:True:=trivial
  repeat' first|(with_reducible first|refine q01 ?_|refine q02 ?_|refine q11 ?_|refine q17 ?_)|(with_reducible refine At.fn_ret (by simp -dsimp [h0,hs];exact rfl) ?_)|(refine CallE.freeze 0 c1' ?_ ?_ ?_ ?_ ?_ ?_;(focus (simp;done));(focus (simp;done));(focus (simp;done));(focus rfl);(focus (simp;done));try simp -dsimp [gones];try simp -dsimp [h0,hs])|(with_reducible refine DT_regionE [0,1,2,3,4,8,9,10,11,22] ?_;simp -dsimp [h0,hs])|(refine DT_cond rfl (fun h=>?_) (fun h=>?_)<;>(try simp only [nrm] at h)<;>(try exact Bool.noConfusion h))
  all_goals try simp -dsimp [h0,hs]
  all_goals try clear hs
end Go.Proofs
