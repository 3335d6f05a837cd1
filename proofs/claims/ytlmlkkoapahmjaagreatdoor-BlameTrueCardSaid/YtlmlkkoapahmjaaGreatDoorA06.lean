/- Part 24 of the proofs. -/
import Derived.Test.YtlmlkkoapahmjaaGreatDoorP09
import Derived.Test.YtlmlkkoapahmjaaGreatDoorP16
import Derived.Test.YtlmlkkoapahmjaaGreatDoorP18
import Derived.Test.YtlmlkkoapahmjaaGreatDoorA02
import Derived.Test.YtlmlkkoapahmjaaGreatDoorA05
set_option linter.all false
set_option maxHeartbeats 100000000
namespace Go.Proofs
open Go Go.Ab Tryz
variable {G:LS}
attribute [simp] s6 du w5 B6 nilV K9 ZK
noncomputable def Ej (c:Case):Susp->Int:=C1 (n8 c)
noncomputable def FP (c:Case) (k:Int):List Susp:=(Y2 c.pieces.length).filter λs=>decide (Ej c s=k)
noncomputable def dq (c:Case) (k:Int):List Susp:=if J4 c=0 then FP c k else []
theorem lg {n:Nat} {s:Susp} (h:s∈Y2 n):cT n s/\0<=s.kind/\s.kind<=255:=by
 unfold cT;rcases listS_mem.1 h with⟨_,rfl⟩|⟨i,h1,_,rfl⟩|⟨i,h1,_,rfl⟩
 ·simp
 ·simp[Z7];omega
 ·simp[aE];omega
theorem uT (n:Nat):(Y2 n).Nodup:=(Z8 _ _ _ _).imp λ{a b} h e=>by subst e;unfold T8 at h;omega
theorem mS (n:Nat):(Y2 n).length<=1+2*n:=by
 have h1:=(J0 true (λ_=>true) (λ_=>true) n).length_eq;have h2:=aw true (λ_=>true) (λ_=>true) n;unfold Y2;omega
theorem xw (c:Case) (s:Susp):0<=Ej c s/\Ej c s<=2:=by
 unfold Ej C1;split
 ·omega
 ·split<;>omega
@[simp] abbrev Qk:List Nat:=[0,1,2,3,4,5,6,8,9,10,12,13,20,24,25,26,27,37,39,44,48,49,50,51,57,58,64]
@[simp] abbrev Wv:List Nat:=[2,3,4,6,48,49,50]
theorem ki (c:Case) (hG:o4 G) (hN:E2 G) (hS:u5 G) (hU:W9 G) (hR:w0 G) (hC:J2 G) (hK:cH G) (hk:KC c):zP prog G 12 [l7 c] (.tup [C0 (dq c 2),C0 (dq c 1),iv (J4 c)]):=by
 refine zf func12 ntmps12 ?_;try simp only[iv]
 have c1:=fg (G:=G) c hG hN hS hR hC hk;have hq:=hk.q;by_cases h0:J4 c=0
 ·have c2:=lE (G:=G) c (by omega) hU;rw[h0,show qt c=n8 c by unfold qt;rw[if_pos h0]] at c1;have hdl:=ak (K1 h0).1;have c3:=λs (h:s∈Y2 c.pieces.length)=>mr (G:=G) c.pieces.length (n8 c) s (lg h).1 hK (aK hk) (by omega);have hO:∀ k,dq c k=(Y2 c.pieces.length).filter λs=>decide (Ej c s=k):=λk=>by unfold dq;rw[if_pos h0];rfl
  rw[h0,hO,hO];have hfr:=xw c;have hfe:∀ s,C1 (n8 c) s=Ej c s:=λs=>rfl;simp only[hfe] at c3;have hAn:=uT c.pieces.length;have hAl:=mS c.pieces.length;clear hfe hO;generalize Ej c=f at *;generalize Y2 c.pieces.length=A at *;simp only[l7,j0,E0,j4,aJ,C0,rI,List.map_cons,List.map_nil] at c1 c2 c3 ⊢;have hs:=trivial;repeat' first|(with_reducible first|refine zz ?_|refine zE Qk ?_)|simp -dsimp[hs]|refine zp c1 ?_|refine zp c2 ?_|refine i8 ?_ ?_<;>intro h<;>try exact h.elim
  all_goals try clear hs
  refine i6 (ι:={ k:Nat // k<=A.length }) (λp=>⟨73,[(1,.one (.ptr 0 0)),(2,.one (.vec 1 0 0 0)),(3,.one (.vec 2 0 0 0)),(4,iv 0),(5,.one (.im (.sl ((n8 c).map U8)))),(6,.one (.map 3)),(24,.one (.im (.sl (A.map j4)))),(25,iv (A.length:Int)),(26,iv (p.1:Int))],[.row ((j0 c).map .im),.vec 2 [] 0 true,.vec 2 [] 0 true,.map [.int .u8,.int .i64] (Y7 f (A.take p.1))]⟩) (λp=>A.length-p.1) ⟨0,by simp⟩ (zv [1,2,3,4,5,6,24,25,26] (by simp[Y7])) ?_;rintro⟨k,hk1⟩;simp only[iv];by_cases hlt:k<A.length
  ·have hw:=zk k;have hx0:A[k]?=some A[k]:=by simp[hlt]
   have c4:=c3 A[k] (List.getElem_mem hlt);have hts:A.take (k+1)=A.take k++[A[k]]:=List.take_succ_eq_append_getElem hlt;have hnm:A[k]∉A.take k:=λhm=>by
    obtain⟨j,hj⟩:=List.mem_iff_getElem?.1 hm;have hjk:j<k:=by have:=e7 hj;rw[List.length_take] at this;omega
    rw[List.getElem?_take_of_lt hjk] at hj;have:=(List.getElem?_inj (e7 hj) hAn).1 (hj.trans hx0.symm);omega
   have hset:=AI (f:=f) hnm;rw[<- hts] at hset;generalize hx:A[k]=s at *;have hs:=za hx (za hx0 (za hlt (za hw hset)));repeat' first|with_reducible refine zz ?_|simp -dsimp[hs]|refine zq c4 ?_|refine zM 8 73 5 Qk ?_|with_reducible refine zE Qk ?_|refine i8 ?_ ?_<;>intro h<;>try exact h.elim
   all_goals try clear hs
   all_goals exact zn ⟨k+1,by omega⟩ (zw [1,2,3,4,5,6,24,25,26] 4)
  ·obtain rfl:k=A.length:=by omega
   simp only[List.take_length];have hs:=hlt;repeat' first|(with_reducible first|refine zz ?_|refine zE Qk ?_)|simp -dsimp[hs]|refine i8 ?_ ?_<;>intro h<;>try exact h.elim
   all_goals try clear hs
   intro l c0 b hll hln hlc;rw[BE] at hll;have hP1:(A.zip l).map (·.1)=A:=List.map_fst_zip (by omega);have hP2:(A.zip l).map (·.2)=l:=List.map_snd_zip (by omega);have hPn:((A.zip l).map (·.2)).Nodup:=by rw[hP2];exact hln
   clear c1 c3 hlt hk1;generalize A.zip l=P at *;subst hP2;have hAnP:(P.map (·.1)).Nodup:=by rw[hP1];exact hAn
   obtain⟨g,hg⟩:∃ g:Susp->Bool,g=λs=>decide (f s≠0):=⟨_,rfl⟩
   have hs:=trivial;repeat' first|with_reducible refine zz ?_|simp -dsimp[hs]
   all_goals try clear hs
   refine i6 (ι:={ p:List Nat×List Nat×List Susp // p.2.1=(T1 g P p.1).map (·.2)/\p.2.2=(T1 g P p.1).map (·.1) }) (λp=>⟨73,[(1,.one (.ptr 0 0)),(2,.one (.vec 1 0 0 0)),(3,.one (.vec 2 0 0 0)),(4,iv 0),(6,.one (.map 3)),(37,.one (.itr 4))],[.row ((j0 c).map .im),.vec 2 [] 0 true,.vec 2 [] 0 true,.map [.st p.1.2.1 c0 b,.int .u8,.int .i64] (Y7 f p.1.2.2),.liter b p.1.1 c0]⟩) (λp=>De P p.1.1) ⟨([],P.map (·.2),P.map (·.1)),by simp[xn]⟩ (zv [1,2,3,4,6,37] (by simp[hP1])) ?_;rintro⟨⟨seen,l,K⟩,hl,hK'⟩;simp only at hl hK';simp only[iv];have hs:=trivial;repeat' first|(with_reducible first|refine zz ?_|refine zE Qk ?_)|simp -dsimp[hs]|refine i8 ?_ ?_<;>intro h<;>try exact h.elim|with_reducible refine V7 (λh=>?_);(try simp only[List.map_eq_nil_iff] at h);(try subst h);try simp -dsimp[hs]|with_reducible refine And.intro ?_ ?_
   all_goals try clear hs
   ·have hend:K=(P.map (·.1)).filter g:=by rw[hK'];exact xp (by rw[<- hl];assumption)
    rw[hP1] at hend;have hget:∀ s∈A,O3 [.int .u8 s.kind,.int .i64 s.index] (Y7 f K) [.im (.raw (.int .u8 0))]=[.im (.raw (.int .u8 (f s)))]:=λs hs=>by
     rw[AK,hend];by_cases hf0:f s=0
     ·simp[hf0]
     ·rw[if_pos (List.mem_filter.2 ⟨hs,by rw[hg];simp[hf0]⟩)]
    have himE:List.map (λx:List Value×List IC=>(x.1,List.map DC.im x.2)) (oL f K)=Y7 f K:=GU f K;clear hend hK' hl hg;have hs:=trivial;repeat' first|with_reducible refine zz ?_|simp -dsimp[hs]|refine zp c2 ?_
    all_goals try clear hs
    refine i6 (ι:={ p:Nat×Nat×Bool×Nat×Bool // p.1<=A.length }) (λp=>⟨73,[(2,.one (.vec 1 p.1.2.1 0 ((A.take p.1.1).filter λs=>decide (f s=2)).length)),(3,.one (.vec 2 p.1.2.2.2.1 0 ((A.take p.1.1).filter λs=>decide (f s=1)).length)),(4,iv 0),(6,.one (.im (.mp [.int .u8,.int .i64] (oL f K)))),(48,.one (.im (.sl (A.map j4)))),(49,iv (A.length:Int)),(50,iv (p.1.1:Int))],[.row ((j0 c).map .im),.vec 2 (l5 (((A.take p.1.1).filter λs=>decide (f s=2)).map j4)) p.1.2.1 p.1.2.2.1,.vec 2 (l5 (((A.take p.1.1).filter λs=>decide (f s=1)).map j4)) p.1.2.2.2.1 p.1.2.2.2.2]⟩) (λp=>A.length-p.1.1) ⟨(0,0,true,0,true),by simp⟩ (zw Wv 3 (by simp[l5])) ?_;rintro⟨⟨k,ga,na,gb,nb⟩,hk1⟩;simp only at hk1;simp only[iv];by_cases hlt:k<A.length
    ·have hw:=zk k;have hx0:A[k]?=some A[k]:=by simp[hlt]
     have hts:A.take (k+1)=A.take k++[A[k]]:=List.take_succ_eq_append_getElem hlt;have hge:=hget A[k] (List.getElem_mem hlt);have hl1:=List.length_filter_le (λs=>decide (f s=2)) (A.take k);have hl2:=List.length_filter_le (λs=>decide (f s=1)) (A.take k);have hr:=hfr A[k];rw[List.length_take] at hl1 hl2;generalize hx:A[k]=s at *;have e2:(A.take (k+1)).filter (λs=>decide (f s=2))=(A.take k).filter (λs=>decide (f s=2))++(if f s=2 then [s] else []):=by
      rw[hts,List.filter_append];simp[List.filter_cons]
     have e1:(A.take (k+1)).filter (λs=>decide (f s=1))=(A.take k).filter (λs=>decide (f s=1))++(if f s=1 then [s] else []):=by
      rw[hts,List.filter_append];simp[List.filter_cons]
     generalize (A.take k).filter (λs=>decide (f s=2))=L2 at *;generalize (A.take k).filter (λs=>decide (f s=1))=L1 at *;have h3:f s=0\/f s=1\/f s=2:=by omega
     have hs:True:=trivial;rcases h3 with h3|h3|h3
     all_goals
      rw[h3] at hge;simp[h3] at e1 e2;have hs:=za hx (za hx0 (za hlt (za hw (za hge himE))));repeat' first|(with_reducible first|refine zz ?_|refine And.intro (by omega) ?_|refine zE Qk ?_)|simp -dsimp[hs]|refine i8 ?_ ?_<;>intro h<;>try exact h.elim
      all_goals try clear hs
     ·all_goals exact zn ⟨(k+1,ga,na,gb,nb),by simp only;omega⟩ (zw Wv 3 (by simp[e1,e2]))
     ·all_goals exact zn ⟨(k+1,ga,na,gb+1,false),by simp only;omega⟩ (zw Wv 3 (by simp[e1,e2]))
     ·all_goals exact zn ⟨(k+1,ga+1,false,gb,nb),by simp only;omega⟩ (zw Wv 3 (by simp[e1,e2]))
    ·obtain rfl:k=A.length:=by omega
     simp only[List.take_length];have hl1:=List.length_filter_le (λs=>decide (f s=2)) A;have hl2:=List.length_filter_le (λs=>decide (f s=1)) A;generalize A.filter (λs=>decide (f s=2))=L2 at *;generalize A.filter (λs=>decide (f s=1))=L1 at *;have hs:=hlt;repeat' first|(with_reducible first|refine zz ?_|refine zr ?_|refine zE Qk ?_)|simp -dsimp[hs]|refine i8 ?_ ?_<;>intro h<;>try exact h.elim
     all_goals try clear hs
     all_goals simp
   ·intro i s xa xb hx hs1 hns;obtain⟨y,hy,rfl,rfl⟩:=xX hx;have hgP:(T1 g P seen)[i]?=some (y,s):=by
     rw[hK',List.getElem?_map,Option.map_eq_some_iff] at hy;rw[hl,List.getElem?_map,Option.map_eq_some_iff] at hs1;obtain⟨p,hp1,hp2⟩:=hy;obtain⟨q,hq1,hq2⟩:=hs1;rw[hp1] at hq1;cases hq1;rw[hp1,<- hp2,<- hq2]
    have hmem:(y,s)∈P:=(List.mem_filter.1 (List.mem_of_getElem? hgP)).1;have hlt2:=Dd hmem hns;have hln2:l.Nodup:=by rw[hl];exact(hPn.sublist ((List.filter_sublist).map _))
    have hKn:K.Nodup:=by rw[hK'];exact(hAnP.sublist ((List.filter_sublist).map _))
    have hidx:=pQ hln2 hs1;have hmi:=tM (f:=f) hKn hy;have hmd:=GK (f:=f) hKn hy;by_cases hf0:f y=0
    ·have hfy:g y=false:=by rw[hg];simp[hf0]
     have hd:=xq (f:=g) hPn hgP hfy;have hl2:l.eraseIdx i=(T1 g P (seen++[s])).map (·.2):=by rw[hd,mf,<- hl]
     have hK2:K.eraseIdx i=(T1 g P (seen++[s])).map (·.1):=by rw[hd,mf,<- hK']
     rw[hf0] at hx;have hs:=za hx (za hidx (za hf0 (za hmi hmd)));repeat' first|(with_reducible first|refine zz ?_|refine zE Qk ?_)|simp -dsimp[hs]|refine i8 ?_ ?_<;>intro h<;>try exact h.elim
     all_goals try clear hs
     all_goals exact At.round ⟨(seen++[s],l.eraseIdx i,K.eraseIdx i),hl2,hK2⟩ hlt2 (zw [1,2,3,4,6,37] 5)
    ·have hfy:g y=true:=by rw[hg];simp[hf0]
     have hd:=tT (f:=g) (seen:=seen) hPn hmem hfy;have hl2:l=(T1 g P (seen++[s])).map (·.2):=by rw[hd,<- hl]
     have hK2:K=(T1 g P (seen++[s])).map (·.1):=by rw[hd,<- hK']
     have hs:=za hx (za hidx (za hf0 (za hmi hmd)));repeat' first|(with_reducible first|refine zz ?_|refine zE Qk ?_)|simp -dsimp[hs]|refine i8 ?_ ?_<;>intro h<;>try exact h.elim
     all_goals try clear hs
     all_goals exact At.round ⟨(seen++[s],l,K),hl2,hK2⟩ hlt2 (zw [1,2,3,4,6,37] 5)
 ·have hO:∀ k,dq c k=[]:=λk=>by unfold dq;rw[if_neg h0]
  rw[hO,hO];simp only[l7,j0,E0,j4,aJ,rI,List.map_cons,List.map_nil] at c1 ⊢;have hs:=h0;repeat' first|(with_reducible first|refine zz ?_|refine zr ?_|refine zE Qk ?_)|simp -dsimp[hs]|refine zp c1 ?_|refine i8 ?_ ?_<;>intro h<;>try exact h.elim
  all_goals try clear hs
end Go.Proofs
namespace Go.Ab
open Go
def dz (s:Susp) (i:Nat):E3:=if s.kind=2/\s.index=i then (true,false) else if s.kind=3/\s.index=i then (false,true) else (false,false)
def aQ (d:Desk) (s:Susp):Bool:=((List.range d.faults.length).all λi=>decide (dz s i∈d.faults.getD i []))&&(d.notes==decide (s.kind=1))
theorem yz {d:Desk} {s:Susp} {i:Nat} (h:i<d.faults.length) (h2:dz s i∉d.faults.getD i []):aQ d s=false:=by
 unfold aQ;rw[Bool.and_eq_false_iff];refine .inl ?_;rw[<- Bool.not_eq_true,List.all_eq_true];exact λhall=>h2 (by simpa using hall i (List.mem_range.2 h))
theorem uS {d:Desk} {s:Susp} (h:∀ i,i<d.faults.length->dz s i∈d.faults.getD i []):aQ d s=(d.notes==decide (s.kind=1)):=by
 unfold aQ;rw[show ((List.range d.faults.length).all λi=>decide (dz s i∈d.faults.getD i []))=true by
  rw[List.all_eq_true];exact λi hi=>by simpa using h i (List.mem_range.1 hi)]
 rfl
end Go.Ab
namespace Go.Proofs
open Go Go.Ab
variable {G:LS}
attribute [simp] s6 du w5 B6 nilV K9 ZK
def fq (s:Susp):List (List Value×List DC):=if s.kind=2 then [([.int .i64 s.index],[.im (.raw (.bool true)),.im (.raw (.bool false))])] else if s.kind=3 then [([.int .i64 s.index],[.im (.raw (.bool false)),.im (.raw (.bool true))])] else []
theorem wo (s:Susp) (i:Nat):O3 [.int .i64 (i:Int)] (fq s) [.im (.raw (.bool false)),.im (.raw (.bool false))]=[.im (.raw (.bool (dz s i).1)),.im (.raw (.bool (dz s i).2))]:=by
 have hb:A8 [.int .i64 (i:Int)] [.int .i64 s.index]=decide (s.index=(i:Int)):=aP (i:Int) s.index;unfold fq dz;by_cases h2:s.kind=2
 ·simp only[h2,if_true,true_and,O3,S8,hb,decide_eq_true_eq];by_cases hi:s.index=(i:Int)
  ·simp[hi]
  ·simp[hi]
 ·simp only[h2,if_false,false_and,if_false];by_cases h3:s.kind=3
  ·simp only[h3,if_true,true_and,O3,S8,hb,decide_eq_true_eq];by_cases hi:s.index=(i:Int)
   ·simp[hi]
   ·simp[hi]
  ·simp[h3,O3,S8]
@[simp] theorem Jv (n:Nat) (objs:List DObj) (s:Susp):((fq s).map λx=>(x.1,x.2.map (fz n objs)))=fq s:=by
 unfold fq;split
 ·simp[fz]
 ·split<;>simp[fz]
@[simp] abbrev Wh:List Nat:=[0,1,3,4,5,6,7,10,11,17,26,27,28,29,38]
theorem Fd (d:Desk) (n:Nat) (s:Susp) (hd:DkOk n d) (hn:n<100000) (hs:cT n s) (hF:kD G):zP Tryz.prog G 64 [kE d,E0 s] (bv (aQ d s)):=by
 refine zf Tryz.func64 Tryz.ntmps64 ?_;try simp only[iv]
 have g2:G 2=some [.raw (.bool true),.raw (.bool false)]:=hF.2.1;have g3:G 3=some [.raw (.bool false),.raw (.bool true)]:=hF.2.2;have hdn:=hd.n;have hg:=wo s;have hcs:(s.kind=1/\fq s=[])\/(s.kind=2/\fq s=[([.int .i64 s.index],[.im (.raw (.bool true)),.im (.raw (.bool false))])])\/(s.kind=3/\fq s=[([.int .i64 s.index],[.im (.raw (.bool false)),.im (.raw (.bool true))])]):=by
  unfold fq;rcases hs with h|⟨h|h,_,_⟩<;>simp[h]
 have hno:=λi=>yz (d:=d) (s:=s) (i:=i);have hyes:=uS (d:=d) (s:=s);generalize aQ d s=r at *;obtain⟨kd,ix⟩:=s;simp only at hcs;simp only[kE,be,T5];clear hs;have hs:True:=trivial;rcases hcs with⟨hkd,hw⟩|⟨hkd,hw⟩|⟨hkd,hw⟩
 all_goals
  have hw1:=hw;rw[hkd] at hw1;have hs:=za g2 (za g3 hkd);repeat' first|(with_reducible first|refine zz ?_|refine zE Wh ?_)|simp -dsimp[hs]|refine i8 ?_ ?_<;>intro h<;>try exact h.elim
  all_goals try clear hs
 all_goals
  refine i6 (ι:={ k:Nat // k<=d.faults.length/\∀ j,j<k->dz ⟨kd,ix⟩ j∈d.faults.getD j [] }) (λp=>⟨48,[(0,kE d),(3,.one (.ptr 0 0)),(5,.one (.map 1)),(26,.one (.im (.sl (d.faults.map K3)))),(27,iv (d.faults.length:Int)),(28,iv (p.1:Int))],[.row [.im (.raw (.int .u8 kd)),.im (rI ix)],.map [.int .i64] (fq ⟨kd,ix⟩)]⟩) (λp=>d.faults.length-p.1) ⟨0,by simp⟩ (zv [0,3,5,26,27,28] (by simp[hw,hw1,hkd,R5,be,T5])) ?_;rintro⟨k,hk1,hall⟩;simp only[iv,kE,be,T5];by_cases hlt:k<d.faults.length
  ·have hwk:=zk k;have hx0:d.faults[k]?=some d.faults[k]:=by simp[hlt]
   have hgd:d.faults.getD k []=d.faults[k]:=by simp[hlt]
   have hgk:=hg k;have hnk:=hno k hlt;rw[hgd] at hnk;have hall2:dz ⟨kd,ix⟩ k∈d.faults[k]->∀ j,j<k+1->dz ⟨kd,ix⟩ j∈d.faults.getD j []:=λh j hj=>by
    by_cases e:j=k
    ·subst e;rw[hgd];exact h
    ·exact hall j (by omega)
   generalize hw0:dz ⟨kd,ix⟩ k=w at *;have c1:=iL (G:=G) d.faults[k] w (hd.l _ (List.getElem_mem hlt));generalize hx:d.faults[k]=x at *;simp only[jX,D7,List.map_cons,List.map_nil] at c1;by_cases hm:w∈x
   ·rw[decide_eq_true hm] at c1;have hs:=za hx (za hlt (za hwk hgk));repeat' first|(with_reducible first|refine zz ?_|refine zE Wh ?_)|simp -dsimp[hs]|refine zp c1 ?_|refine i8 ?_ ?_<;>intro h<;>try exact h.elim
    all_goals try clear hs
    all_goals exact zn ⟨k+1,by omega,hall2 hm⟩ (zw [0,3,5,26,27,28] 2 (by simp[be,T5]))
   ·rw[decide_eq_false hm] at c1;have hr:=hnk hm;have hs:=za hx (za hlt (za hwk hgk));repeat' first|(with_reducible first|refine zz ?_|refine zr ?_|refine zE Wh ?_)|simp -dsimp[hs]|refine zp c1 ?_|refine i8 ?_ ?_<;>intro h<;>try exact h.elim
    all_goals try clear hs
    all_goals simp[hr]
  ·obtain rfl:k=d.faults.length:=by omega
   have hr:=hyes λi hi=>hall i hi;rw[hr];have hs:=za hlt hkd;repeat' first|(with_reducible first|refine zz ?_|refine zr ?_)|simp -dsimp[hs]|refine zM 13 48 9 Wh ?_|with_reducible refine zE Wh ?_|refine i8 ?_ ?_<;>intro h<;>try exact h.elim
   all_goals try clear hs
   all_goals simp[hkd]
end Go.Proofs
namespace Go.Proofs
open Go Go.Ab Tryz
variable {G:LS}
attribute [simp] s6 du w5 B6 nilV K9 ZK
theorem Cy (n:Nat) (s:Susp) (hs:cT n s) (hn:n<100000) (hF:kD G) (d:Desk) (hd:DkOk n d):DCall prog G 63 (kE d :: [DC.ptr 0 0].map .one) [.row ((j4 s).map .im)] (λr o=>r=bv (aQ d s)/\o=[.row ((j4 s).map .im)]):=by
 refine DCall.drop ?_;have c1:=Fd (G:=G) d n s hd hn hs hF;simp only[kE,E0,j4,rI,List.map_cons,List.map_nil] at c1;refine h9 func63 rfl ntmps63 (by simp) rfl ?_;simp only[kE,j4,rI,List.map_cons,List.map_nil];have hs:=trivial;repeat' first|(with_reducible first|refine zz ?_|refine zr ?_|refine zE [0,1,3] ?_)|simp -dsimp[hs]|refine zp c1 ?_|with_reducible refine And.intro ?_ ?_
 all_goals try clear hs
noncomputable def Cz (c:Case) (s:Susp):Bool:=(n8 c).any λd=>aQ d s
noncomputable def qm (c:Case):List Susp:=if J4 c=0 then (Y2 c.pieces.length).filter (Cz c) else []
@[simp] abbrev Ww:List Nat:=[0,1,2,3,4,5,6,8,15,18,19,20,21,26]
theorem Cu (c:Case) (hG:o4 G) (hN:E2 G) (hS:u5 G) (hU:W9 G) (hR:w0 G) (hC:J2 G) (hF:kD G) (hk:KC c):zP prog G 17 [l7 c] (.tup [C0 (qm c),iv (J4 c)]):=by
 refine zf func17 ntmps17 ?_;try simp only[iv]
 have c1:=fg (G:=G) c hG hN hS hR hC hk;have hq:=hk.q;by_cases h0:J4 c=0
 ·have c2:=lE (G:=G) c (by omega) hU;rw[h0,show qt c=n8 c by unfold qt;rw[if_pos h0]] at c1;have hdl:=ak (K1 h0).1;have c3:=λs (h:s∈Y2 c.pieces.length)=>dh (G:=G) (n8 c) (λd=>aQ d s) 63 [.ptr 0 0] [.row ((j4 s).map .im)] (by simp) (λd hdm=>Cy c.pieces.length s (lg h).1 (by omega) hF d (aK hk d hdm)) (by omega);have hO:qm c=(Y2 c.pieces.length).filter (Cz c):=by unfold qm;rw[if_pos h0]
  have hfe:∀ s,((n8 c).any λd=>aQ d s)=Cz c s:=λs=>rfl;simp only[hfe] at c3;rw[h0,hO];have hAl:=mS c.pieces.length;clear hO hfe;generalize Cz c=f at *;generalize Y2 c.pieces.length=A at *;simp only[l7,j0,E0,j4,aJ,C0,rI,List.map_cons,List.map_nil] at c1 c2 c3 ⊢;have hs:=trivial;repeat' first|(with_reducible first|refine zz ?_|refine zE Ww ?_)|simp -dsimp[hs]|refine zp c1 ?_|refine zp c2 ?_|refine i8 ?_ ?_<;>intro h<;>try exact h.elim
  all_goals try clear hs
  refine i6 (ι:={ p:Nat×Nat×Bool // p.1<=A.length }) (λp=>⟨33,[(4,.one (.im (.sl ((n8 c).map U8)))),(6,.one (.vec 2 p.1.2.1 0 ((A.take p.1.1).filter f).length)),(18,.one (.im (.sl (A.map j4)))),(19,iv (A.length:Int)),(20,iv (p.1.1:Int))],[.row ((j0 c).map .im),.vec 2 [] 0 true,.vec 2 (l5 (((A.take p.1.1).filter f).map j4)) p.1.2.1 p.1.2.2]⟩) (λp=>A.length-p.1.1) ⟨(0,0,true),by simp⟩ (zv [4,6,18,19,20] (by simp[l5])) ?_;rintro⟨⟨k,g,nl⟩,hk1⟩;simp only at hk1;simp only[iv];by_cases hlt:k<A.length
  ·have hw:=zk k;have hx0:A[k]?=some A[k]:=by simp[hlt]
   have hts:A.take (k+1)=A.take k++[A[k]]:=List.take_succ_eq_append_getElem hlt;have c4:=c3 A[k] (List.getElem_mem hlt);have hl1:=List.length_filter_le f (A.take k);rw[List.length_take] at hl1;generalize hx:A[k]=s at *;have e1:(A.take (k+1)).filter f=(A.take k).filter f++(if f s=true then [s] else []):=by
    rw[hts,List.filter_append];simp[List.filter_cons]
   generalize (A.take k).filter f=L at *;have hs:True:=trivial;cases hf:f s
   all_goals
    rw[hf] at c4;simp[hf] at e1;have hs:=za hx (za hx0 (za hlt hw));repeat' first|(with_reducible first|refine zz ?_|refine And.intro (by omega) ?_|refine zE Ww ?_)|simp -dsimp[hs]|refine CallE.embed [3] (c4) ?_ ?_ ?_ ?_ ?_ ?_;(focus simp[v6];done);(focus simp;done);(focus simp;done);(focus simp;done);(focus refine o5 ?_;simp[v6,r7];done);try simp -dsimp[n7,v6,hs]|refine i8 ?_ ?_<;>intro h<;>try exact h.elim
    all_goals try clear hs
   ·all_goals exact zn ⟨(k+1,g,nl),by simp only;omega⟩ (zw [4,6,18,19,20] 3 (by simp[e1]))
   ·all_goals exact zn ⟨(k+1,g+1,false),by simp only;omega⟩ (zw [4,6,18,19,20] 3 (by simp[e1]))
  ·obtain rfl:k=A.length:=by omega
   simp only[List.take_length];have hl1:=List.length_filter_le f A;generalize A.filter f=L at *;have hs:=hlt;repeat' first|(with_reducible first|refine zz ?_|refine zr ?_|refine zE Ww ?_)|simp -dsimp[hs]|refine i8 ?_ ?_<;>intro h<;>try exact h.elim
   all_goals try clear hs
   all_goals simp
 ·have hO:qm c=[]:=by unfold qm;rw[if_neg h0]
  rw[hO];simp only[l7,j0,E0,j4,aJ,rI,List.map_cons,List.map_nil] at c1 ⊢;have hs:=h0;repeat' first|(with_reducible first|refine zz ?_|refine zr ?_|refine zE Ww ?_)|simp -dsimp[hs]|refine zp c1 ?_|refine i8 ?_ ?_<;>intro h<;>try exact h.elim
  all_goals try clear hs
attribute [simp] s6 du w5 B6 nilV K9 ZK
theorem wm (d i w:Int) (l:List Print):bl d i w l≠[]:=by
 unfold bl;have hm:bI d i w l∈r8 (j8 (aq d i w l++[bI d i w l])):=by
  rw[gi];exact(List.mergeSort_perm _ _).mem_iff.2 (by simp)
 generalize r8 (j8 (aq d i w l++[bI d i w l]))=D at *;rcases rH (λx=>decide (bI d i w l=x)) D with h|h
 ·intro e;have h2:=congrArg List.length e;rw[List.length_drop,List.length_nil] at h2;have hlp:0<D.length:=List.length_pos_of_mem hm;omega
 ·rw[h] at hm;simp at hm
theorem gZ {c:Case} (he:q8 c=0) {k:Nat} (h1:k<c.pieces.length):C7 c k≠[]:=by
 obtain⟨hp0,hcb⟩:=A2 he;obtain⟨hn0,hpb,hr0⟩:=A9 hp0;have hok:=I5 hcb;have h2:k<c.loop.links.length:=by have:=hok.e;omega
 have hdm:=fd hr0 hcb h1 h2;have hq:=hcb;rw[N4,Bool.and_eq_true,List.all_eq_true] at hq;have h3:k<(c.loop.links.zip c.pieces).length:=by rw[List.length_zip];omega
 have h4:=hq.2 _ (List.getElem_mem h3);rw[List.getElem_zip] at h4;simp only at h4;rw[jo hr0] at h4;obtain⟨_,_,_,hh,hd,_⟩:=h4;rw[ia h1 h2];unfold P5;have hA:O1 c.p c.pieces[k].day 1 c.pieces[k].holder c.loop.links[k].drawing=0:=by
  unfold O1 J3 uA;rw[if_neg,if_pos ⟨hh,hdm⟩];rw[if_neg (by simp[hp0]),if_pos (by simp at hd ⊢;omega)];simp
 rw[if_pos hA];exact wm _ _ _ _
theorem Ff {L:List E3} {so:Bool} {f:E3} (h:L≠[]):aT L so f≠[]:=by
 unfold aT;split
 ·simp
 ·exact h
theorem sC {L:List E3} {f:E3}:aT L true f≠[]:=by
 unfold aT;split
 ·simp
 ·rename_i h;have:f∈L:=Classical.byContradiction λh2=>h ⟨rfl,h2⟩;exact List.ne_nil_of_mem this
theorem xL {c:Case} {y:Link} {x:Piece} {o:Int} {L:List E3} {l:Int} (hx:x.lo<=x.hi):H5 c y x o L l≠[]:=by
 unfold H5;by_cases h1:sU c y x l=true
 ·rw[h1];exact Ff sC
 ·have h2:xM c y x l=true:=by
   unfold sU at h1;unfold xM;split at h1
   ·simp at h1
   ·rename_i z hz;simp only[hz,U6,Bool.and_eq_true,decide_eq_true_eq,Bool.not_eq_true',decide_eq_false_iff_not] at h1 ⊢;omega
  rw[h2];exact sC
theorem Hf {c:Case} (he:q8 c=0) (s:List Int) {k:Nat} (h1:k<c.pieces.length):jr c s k≠[]:=by
 obtain⟨hp0,hcb⟩:=A2 he;have hok:=I5 hcb;have h2:k<c.loop.links.length:=by have:=hok.e;omega
 have hm:=gZ he h1;have hp:=iV hok h1;unfold P2 at hp;have hx0:c.pieces[k]?=some c.pieces[k]:=by simp[h1]
 have hy0:c.loop.links[k]?=some c.loop.links[k]:=by simp[h2]
 unfold jr;rw[hx0,hy0];simp only;generalize C7 c k=M at *;rw[<- List.dropLast_concat_getLast hm,List.foldl_append];exact xL hp.2.1
theorem mD {c:Case} (he:q8 c=0):∀ d∈n8 c,∀ x∈d.faults,x≠[]:=by
 intro d hd x hx;obtain⟨s,_,rfl⟩:=List.mem_map.1 hd;simp only[A7,List.mem_map,List.mem_range] at hx;obtain⟨k,hk,rfl⟩:=hx;exact Hf he s hk
def I4:List Susp->List Susp->Int
 | [],[]=>0
 | [],_ :: _=>-1
 | _ :: _,[]=>1
 | a :: x,b :: y=>if M8 a b≠0 then M8 a b else I4 x y
def bC (a b:List Susp):Int:=V2 [(a.length:Int)-b.length,I4 a b]
def P6 (m x:List Susp):List Susp:=if bC x m<0 then x else m
def kx:List (List Susp)->List Susp
 | []=>[]
 | x :: r=>r.foldl P6 x
def kb (l:List Susp):List IC:=[.sl (l.map j4)]
def mY (l:List Susp):Prop:=(∀ x∈l,fF x)/\l.length<100000
theorem DG (a b:Susp) (ha:fF a) (hb:fF b) (objs:List DObj):DCall prog G 61 [E0 a,E0 b] objs (λd o=>d=iv (M8 a b)/\o=objs):=by
 refine DCall.frame ?_ (by simp) (by simp) objs;exact(vF a b ha hb).mono λd o h=>by rw[h.1];simp
@[simp] abbrev QU:List Nat:=[0,1,2,6,7,8,9,10,11,12,13,14,21,31,38]
theorem EQ (a b:List Susp) (ha:mY a) (hb:mY b):zP prog G 60 [C0 a,C0 b,.one (.im (.fn (.func 61) []))] (iv (I4 a b)):=by
 refine zf func60 ntmps60 ?_;try simp only[iv]
 have hal:=ha.2;have hbl:=hb.2;simp only[C0];have hs:=trivial;repeat' first|(with_reducible first|refine zz ?_|refine zE QU ?_)|simp -dsimp[hs]
 refine i6 (ι:={ k:Nat // k<=a.length/\k<=b.length/\I4 a b=I4 (a.drop k) (b.drop k) }) (λp=>⟨39,[(0,.one (.im (.sl (a.map j4)))),(1,.one (.im (.sl (b.map j4)))),(2,.one (.im (.fn (.func 61) []))),(11,.one (.im (.sl (a.map j4)))),(12,iv (a.length:Int)),(13,iv (p.1:Int))],[]⟩) (λp=>a.length-p.1) ⟨0,by simp⟩ (zv [0,1,2,11,12,13]) ?_;rintro⟨k,hka,hkb,hE⟩;have hE2:=hE;simp only[iv];by_cases hlt:k<a.length
 ·have hw:=zk k;have hx0:a[k]?=some a[k]:=by simp[hlt]
  have hxt:=ha.1 a[k] (List.getElem_mem hlt);rw[List.drop_eq_getElem_cons hlt] at hE2;by_cases hlb:k<b.length
  ·have hlb':¬ (b.length:Int)<=k:=by omega
   have hy0:b[k]?=some b[k]:=by simp[hlb]
   have hyt:=hb.1 b[k] (List.getElem_mem hlb);rw[List.drop_eq_getElem_cons hlb,I4] at hE2;generalize hx:a[k]=x at *;generalize hy:b[k]=y at *;have c1:=DG (G:=G) x y hxt hyt;generalize M8 x y=z at *;simp only[E0,j4,rI,List.map_cons,List.map_nil] at c1;by_cases hz:z=0
   ·rw[if_neg (by simp[hz])] at hE2;have hs:=za hx (za hx0 (za hy (za hy0 (za hlt (za hlb (za hlb' (za hw hz)))))));repeat' first|(with_reducible first|refine zz ?_|refine zE QU ?_)|simp -dsimp[hs]|refine zp c1 ?_|refine i8 ?_ ?_<;>intro h<;>try exact h.elim
    all_goals exact zn ⟨k+1,by omega,by omega,hE2⟩ (zw [0,1,2,11,12,13] 0)
   ·rw[if_pos hz] at hE2;have hs:=za hx (za hx0 (za hy (za hy0 (za hlt (za hlb (za hlb' (za hw hz)))))));repeat' first|(with_reducible first|refine zz ?_|refine zr ?_|refine zE QU ?_)|simp -dsimp[hs]|refine zp c1 ?_|refine i8 ?_ ?_<;>intro h<;>try exact h.elim
    all_goals simp[hE2]
  ·have hkb2:k=b.length:=by omega
   have hlb':(b.length:Int)<=k:=by omega
   rw[List.drop_eq_nil_of_le (by omega:b.length<=k),I4] at hE2;generalize hx:a[k]=x at *;have hs:=za hx (za hx0 (za hlt (za hlb (za hlb' hw))));repeat' first|(with_reducible first|refine zz ?_|refine zr ?_|refine zE QU ?_)|simp -dsimp[hs]|refine i8 ?_ ?_<;>intro h<;>try exact h.elim
   all_goals simp[hE2]
 ·have hka2:k=a.length:=by omega
  rw[List.drop_eq_nil_of_le (by omega)] at hE2;by_cases hlb:a.length<b.length
  ·have hlb':(a.length:Int)<b.length:=by omega
   rw[List.drop_eq_getElem_cons (by omega),I4] at hE2;have hs:=za hlt (za hlb hlb');repeat' first|(with_reducible first|refine zz ?_|refine zr ?_|refine zE QU ?_)|simp -dsimp[hs]|refine i8 ?_ ?_<;>intro h<;>try exact h.elim
   all_goals simp[hE2]
  ·have hlb':¬ (a.length:Int)<b.length:=by omega
   rw[List.drop_eq_nil_of_le (by omega),I4] at hE2;have hs:=za hlt (za hlb hlb');repeat' first|(with_reducible first|refine zz ?_|refine zr ?_|refine zE QU ?_)|simp -dsimp[hs]|refine i8 ?_ ?_<;>intro h<;>try exact h.elim
   all_goals simp[hE2]
attribute [simp] s6 du w5 B6 nilV K9 ZK
theorem Ho (a b:List Susp) (ha:mY a) (hb:mY b):zP prog G 58 [C0 a,C0 b] (iv (bC a b)):=by
 refine zf func58 ntmps58 ?_;try simp only[iv]
 have hal:=ha.2;have hbl:=hb.2;have c1:=EQ (G:=G) a b ha hb;have c2:=FA (G:=G) [(a.length:Int)-b.length,I4 a b] (by simp);have hE:bC a b=V2 [(a.length:Int)-b.length,I4 a b]:=rfl;rw[<- hE] at c2;have hw:IntKind.i64.wrap ((a.length:Int)-b.length)=(a.length:Int)-b.length:=n4 (by omega) (by omega);generalize I4 a b=z at *;generalize bC a b=r at *;simp only[C0] at c1 ⊢;have hs:=hw;repeat' first|(with_reducible first|refine zz ?_|refine zr ?_|refine zE [0,1,4] ?_)|simp -dsimp[hs]|refine zp c1 ?_|refine zt c2 ?_ ?_ ?_;(focus simp;done);focus (simp;done)
@[simp] abbrev Qj:List Nat:=[0,1,4,5,6,9,17,27]
theorem Eb (L:List (List Susp)) (hne:L≠[]) (hl:L.length<1000000) (ht:∀ x∈L,mY x):zP prog G 108 [.one (.im (.sl (L.map kb))),.one (.im (.fn (.func 58) []))] (C0 (kx L)):=by
 refine zf func108 ntmps108 ?_;try simp only[iv]
 obtain⟨x0,r0,rfl⟩:∃ x r,L=x :: r:=by
  cases L with
  | nil=>exact absurd rfl hne
  | cons x r=>exact⟨x,r,rfl⟩
 have hE:kx (x0 :: r0)=((x0 :: r0).drop 1).foldl P6 x0:=rfl;have hl1:¬ ((x0 :: r0).length:Int)<1:=by simp;omega
 have hlp:0<(x0 :: r0).length:=by simp
 have hx1:(x0 :: r0)[0]?=some x0:=rfl;have hx2:(x0 :: r0)[0]=x0:=rfl;have hm0:x0∈(x0 :: r0):=by simp
 have hk1:1<=(x0 :: r0).length:=hlp;generalize (x0 :: r0)=L at *;generalize kx L=res at *;simp only[C0];have hs:=za hl1 (za hx1 (za hx2 hlp));repeat' first|(with_reducible first|refine zz ?_|refine zE Qj ?_)|simp -dsimp[kb,hs]|refine i8 ?_ ?_<;>intro h<;>try exact h.elim
 refine i6 (ι:={ p:Nat×List Susp // 1<=p.1/\p.1<=L.length/\p.2∈L/\res=(L.drop p.1).foldl P6 p.2 }) (λp=>⟨33,[(0,.one (.im (.sl (L.map kb)))),(1,.one (.im (.fn (.func 58) []))),(5,.one (.im (.sl (p.1.2.map j4)))),(6,iv (p.1.1:Int))],[]⟩) (λp=>L.length-p.1.1) ⟨(1,x0),Nat.le_refl _,hk1,hm0,hE⟩ (zw [0,1,5,6] 0) ?_;rintro⟨⟨k,m⟩,hk1',hk,hm,hE2⟩;simp only at hk1' hk hm hE2;simp only[iv];by_cases hlt:k<L.length
 ·have hlt':(k:Int)<L.length:=by omega
  have hw:=zk k;have hx:L[k]?=some L[k]:=by simp[hlt]
  have hmk:L[k]∈L:=List.getElem_mem hlt;rw[List.drop_eq_getElem_cons hlt,List.foldl_cons] at hE2;generalize hy:L[k]=y at *;have c1:=Ho (G:=G) y m (ht y hmk) (ht m hm);simp only[C0] at c1;unfold P6 at hE2;by_cases hym:bC y m<0
  ·rw[if_pos hym] at hE2;have hs:=za hx (za hy (za hlt (za hlt' (za hw hym))));repeat' first|(with_reducible first|refine zz ?_|refine zE Qj ?_)|simp -dsimp[kb,hs]|refine zp c1 ?_|refine i8 ?_ ?_<;>intro h<;>try exact h.elim
   all_goals exact zn ⟨(k+1,y),by simp,by simp only;omega,hmk,hE2⟩ (zw [0,1,5,6] 0)
  ·rw[if_neg hym] at hE2;have hs:=za hx (za hy (za hlt (za hlt' (za hw hym))));repeat' first|(with_reducible first|refine zz ?_|refine zE Qj ?_)|simp -dsimp[kb,hs]|refine zp c1 ?_|refine i8 ?_ ?_<;>intro h<;>try exact h.elim
   all_goals exact zn ⟨(k+1,m),by simp,by simp only;omega,hm,hE2⟩ (zw [0,1,5,6] 0)
 ·have hlt':¬ (k:Int)<L.length:=by omega
  rw[List.drop_eq_nil_of_le (by omega)] at hE2;have hE3:res=m:=hE2;have hs:=za hlt hlt';repeat' first|(with_reducible first|refine zz ?_|refine zr ?_|refine zE Qj ?_)|simp -dsimp[hs]|refine i8 ?_ ?_<;>intro h<;>try exact h.elim
  all_goals simp[hE3]
theorem Ch (L:List (List Susp)) (hne:L≠[]) (hl:L.length<1000000) (ht:∀ x∈L,mY x):zP prog G 57 [.one (.im (.sl (L.map kb))),.one (.im (.fn (.func 58) []))] (C0 (kx L)):=by
 refine zf func57 ntmps57 ?_;try simp only[iv]
 have c1:=Eb (G:=G) L hne hl ht;generalize kx L=r at *;simp only[C0] at c1 ⊢;repeat' first|(with_reducible first|refine zz ?_|refine zx ?_|refine zE [0,1,4] ?_)|simp -dsimp|refine zp c1 ?_
attribute [simp] s6 du w5 B6 nilV K9 ZK
theorem xU {n:Nat} {d:Desk} (hd:DkOk n d) (hn:n<40000):mY (L0 d):=by
 have hdn:=hd.n;have hl:(L0 d).length<=1+2*n:=by
  have h1:=(J0 d.notes (ee d) (eg d) d.faults.length).length_eq;have h2:=aw d.notes (ee d) (eg d) d.faults.length;unfold L0;omega
 refine⟨λx hx=>?_,by omega⟩;unfold fF;rcases listS_mem.1 hx with⟨_,rfl⟩|⟨i,h1,_,rfl⟩|⟨i,h1,_,rfl⟩
 ·simp
 ·simp[Z7];omega
 ·simp[aE];omega
def ef (D:List Desk) (k:Nat):List (List IC):=(((D.take k).map L0)).map kb
theorem um {D:List Desk} {k:Nat} (h:k<D.length):ef D (k+1)=ef D k++[[.sl ((L0 D[k]).map j4)]]:=by
 unfold ef;rw[List.take_succ_eq_append_getElem h,List.map_append,List.map_append];rfl
theorem oJ {D:List Desk} {k:Nat} (h:k<=D.length):(ef D k).length=k:=by simp[ef];omega
theorem xT (D:List Desk):ef D D.length=(D.map L0).map kb:=by simp[ef]
noncomputable def pS (c:Case):List Susp:=if J4 c=0 then kx ((n8 c).map L0) else []
@[simp] abbrev Wx:List Nat:=[0,1,2,3,4,5,6,8,15,17,18,19,20]
theorem yu (c:Case) (hG:o4 G) (hN:E2 G) (hS:u5 G) (hU:W9 G) (hR:w0 G) (hC:J2 G) (hF:kD G) (hk:KC c):zP prog G 16 [l7 c] (.tup [C0 (pS c),iv (J4 c)]):=by
 refine zf func16 ntmps16 ?_;try simp only[iv]
 have c1:=fg (G:=G) c hG hN hS hR hC hk;have hq:=hk.q;by_cases h0:J4 c=0
 ·rw[h0,show qt c=n8 c by unfold qt;rw[if_pos h0]] at c1;have hdl:=ak (K1 h0).1;have c3:=λd (h:d∈n8 c)=>rJ (G:=G) d c.pieces.length (aK hk d h) (by omega) (mD (K1 h0).1 d h) hF hU;have hO:pS c=kx ((n8 c).map L0):=by unfold pS;rw[if_pos h0]
  have c2:=Ch (G:=G) ((n8 c).map L0) (by intro e;have:=congrArg List.length e;simp at this;rw[this] at hdl;simp at hdl) (by simp;omega) (λx hx=>by
   obtain⟨d,hd,rfl⟩:=List.mem_map.1 hx;exact xU (aK hk d hd) (by omega))
  rw[h0,hO];generalize kx ((n8 c).map L0)=res at *;generalize n8 c=D at *;simp only[l7,j0,kE,aJ,C0,List.map_cons,List.map_nil] at c1 c2 c3 ⊢;clear hO;have hs:=trivial;repeat' first|(with_reducible first|refine zz ?_|refine zE Wx ?_)|simp -dsimp[hs]|refine zp c1 ?_|refine i8 ?_ ?_<;>intro h<;>try exact h.elim
  all_goals try clear hs
  refine i6 (ι:={ p:Nat×Nat×Bool // p.1<=D.length }) (λp=>⟨31,[(6,.one (.vec 2 p.1.2.1 0 p.1.1)),(17,.one (.im (.sl (D.map U8)))),(18,iv (D.length:Int)),(19,iv (p.1.1:Int))],[.row ((j0 c).map .im),.vec 2 [] 0 true,.vec 1 (l5 (ef D p.1.1)) p.1.2.1 p.1.2.2]⟩) (λp=>D.length-p.1.1) ⟨(0,0,true),by simp⟩ (zv [6,17,18,19] (by simp[l5,ef])) ?_;rintro⟨⟨k,g,nl⟩,hk1⟩;simp only at hk1;simp only[iv];by_cases hlt:k<D.length
  ·have hw:=zk k;have hx0:D[k]?=some D[k]:=by simp[hlt]
   have c4:=c3 D[k] (List.getElem_mem hlt);have e1:=um hlt;have hll:=oJ (D:=D) hk1;generalize hx:D[k]=d at *;generalize ef D k=L at *;generalize L0 d=f at *;have htk:List.take k (l5 L)=l5 L:=List.take_of_length_le (by simp[l5,hll]);have hs:=za hx (za hx0 (za hlt (za hw (za htk hll))));repeat' first|(with_reducible first|refine zz ?_|refine And.intro (by omega) ?_|refine zE Wx ?_)|simp -dsimp[hs]|refine zp c4 ?_|refine i8 ?_ ?_<;>intro h<;>try exact h.elim
   all_goals try clear hs
   all_goals exact zn ⟨(k+1,g+1,false),by simp only;omega⟩ (zw [6,17,18,19] 3 (by simp[e1,htk,hll,aD]))
  ·obtain rfl:k=D.length:=by omega
   have hll:=oJ (D:=D) (Nat.le_refl _);rw[<- xT] at c2;generalize ef D D.length=L at *;have htk:List.take D.length (l5 L)=l5 L:=List.take_of_length_le (by simp[l5,hll]);have hs:=za hlt (za htk hll);repeat' first|(with_reducible first|refine zz ?_|refine zr ?_|refine zE Wx ?_)|simp -dsimp[hs]|refine CallE.freeze 0 (c2 []) ?_ ?_ ?_ ?_ ?_ ?_;(focus simp;done);(focus simp[htk,hll];done);(focus simp;done);(focus rfl);(focus simp;done);try simp -dsimp[w5]|refine i8 ?_ ?_<;>intro h<;>try exact h.elim
   all_goals try clear hs
 ·have hO:pS c=[]:=by unfold pS;rw[if_neg h0]
  rw[hO];simp only[l7,j0,aJ,List.map_cons,List.map_nil] at c1 ⊢;have hs:=h0;repeat' first|(with_reducible first|refine zz ?_|refine zr ?_|refine zE Wx ?_)|simp -dsimp[hs]|refine zp c1 ?_|refine i8 ?_ ?_<;>intro h<;>try exact h.elim
  all_goals try clear hs
end Go.Proofs
namespace Go.Ab
open Go
def bV (L:List E3):Int:=if (true,true)∈L then 2 else if (true,false)∈L\/(false,true)∈L then 1 else 0
def gU:List E3->Int->Int
 | [],n=>n
 | f :: r,n=>gU r (if f=(false,false) then n else if f=(true,true) then 2 else max n 1)
theorem au:∀ (L:List E3) (n:Int),(n=0\/n=1\/n=2)->gU L n=if n=2\/(true,true)∈L then 2 else if n=1\/(true,false)∈L\/(false,true)∈L then 1 else 0
 | [],n,h=>by simp[gU];omega
 | ⟨a,b⟩ :: r,n,h=>by
   rw[gU];cases a<;>cases b
   ·rw[if_pos rfl,au r n h];simp
   ·rw[if_neg (by simp),if_neg (by simp),au r _ (by omega)];rcases h with rfl|rfl|rfl<;>simp[show max (0:Int) 1=1 from rfl,show max (1:Int) 1=1 from rfl,show max (2:Int) 1=2 from rfl]
   ·rw[if_neg (by simp),if_neg (by simp),au r _ (by omega)];rcases h with rfl|rfl|rfl<;>simp[show max (0:Int) 1=1 from rfl,show max (1:Int) 1=1 from rfl,show max (2:Int) 1=2 from rfl]
   ·rw[if_neg (by simp),if_pos rfl,au r _ (by omega)];simp
theorem tJ (L:List E3):gU L 0=bV L:=by
 rw[au L 0 (.inl rfl)];unfold bV;simp
def dt (F:List (List E3)) (k:Nat):Int:=((F.take k).map bV).sum
def ba (d:Desk):Int:=(if d.notes=true then 1 else 0)+(d.faults.map bV).sum
theorem dT (L:List E3):0<=bV L/\bV L<=2:=by unfold bV;split<;>(try split)<;>omega
theorem iY {F:List (List E3)} {k:Nat} (h:k<F.length):dt F (k+1)=dt F k+bV F[k]:=by
 unfold dt;rw[List.take_succ_eq_append_getElem h,List.map_append,List.sum_append];simp
theorem lG (F:List (List E3)):∀ k:Nat,0<=dt F k/\dt F k<=2*k
 | 0=>by simp[dt]
 | k+1=>by
   have:=lG F k;by_cases h:k<F.length
   ·have h2:=dT F[k];rw[iY h];omega
   ·have:dt F (k+1)=dt F k:=by unfold dt;rw[List.take_of_length_le (by omega),List.take_of_length_le (by omega)]
    omega
def pB:List Int->Int
 | []=>0
 | x :: r=>r.foldl min x
def pD:List Int->Int
 | []=>0
 | x :: r=>r.foldl max x
end Go.Ab
namespace Go.Proofs
open Go Go.Ab
variable {G:LS}
attribute [simp] s6 du w5 B6 nilV K9 ZK
theorem GJ (L:List Int) (hne:L≠[]) (hl:L.length<1000000):zP Tryz.prog G 52 [r5 L] (iv (pB L)):=by
 refine zf Tryz.func52 Tryz.ntmps52 ?_;try simp only[r5]
 obtain⟨x0,r0,rfl⟩:∃ x r,L=x :: r:=by
  cases L with
  | nil=>exact absurd rfl hne
  | cons x r=>exact⟨x,r,rfl⟩
 have hE:pB (x0 :: r0)=((x0 :: r0).drop 1).foldl min x0:=rfl;have hl1:¬ ((x0 :: r0).length:Int)<1:=by simp;omega
 have hlp:0<(x0 :: r0).length:=by simp
 have hx1:(x0 :: r0)[0]?=some x0:=rfl;have hx2:(x0 :: r0)[0]=x0:=rfl;have hk1:1<=(x0 :: r0).length:=hlp;generalize (x0 :: r0)=L at *;generalize pB L=res at *;have hs:=za hl1 (za hx1 (za hx2 hlp));repeat' first|(with_reducible first|refine zz ?_|refine zE [0,2,3,4,7,15] ?_)|simp -dsimp[hs]|refine i8 ?_ ?_<;>intro h<;>try exact h.elim
 refine i6 (ι:={ p:Nat×Int // 1<=p.1/\p.1<=L.length/\res=(L.drop p.1).foldl min p.2 }) (λp=>⟨25,[(0,r5 L),(3,iv p.1.2),(4,iv (p.1.1:Int))],[]⟩) (λp=>L.length-p.1.1) ⟨(1,x0),Nat.le_refl _,hk1,hE⟩ (zw [0,3,4] 0) ?_;rintro⟨⟨k,m⟩,hk1',hk,hE2⟩;simp only at hk1' hk hE2;simp only[iv,r5];by_cases hlt:k<L.length
 ·have hlt':(k:Int)<L.length:=by omega
  have hw:=zk k;have hx:L[k]?=some L[k]:=by simp[hlt]
  rw[List.drop_eq_getElem_cons hlt,List.foldl_cons] at hE2;generalize hy:L[k]=y at *;have hs:=za hx (za hy (za hlt (za hlt' hw)));repeat' first|(with_reducible first|refine zz ?_|refine zE [0,2,3,4,7,15] ?_)|simp -dsimp[hs]|refine i8 ?_ ?_<;>intro h<;>try exact h.elim
  all_goals exact zn ⟨(k+1,min m y),by simp,by simp only;omega,hE2⟩ (zw [0,3,4] 0)
 ·have hlt':¬ (k:Int)<L.length:=by omega
  rw[List.drop_eq_nil_of_le (by omega)] at hE2;have hE3:res=m:=hE2;have hs:=za hlt hlt';repeat' first|(with_reducible first|refine zz ?_|refine zr ?_|refine zE [0,2,3,4,7,15] ?_)|simp -dsimp[hs]|refine i8 ?_ ?_<;>intro h<;>try exact h.elim
  all_goals simp[hE3]
theorem GL (L:List Int) (hne:L≠[]) (hl:L.length<1000000):zP Tryz.prog G 53 [r5 L] (iv (pD L)):=by
 refine zf Tryz.func53 Tryz.ntmps53 ?_;try simp only[r5]
 obtain⟨x0,r0,rfl⟩:∃ x r,L=x :: r:=by
  cases L with
  | nil=>exact absurd rfl hne
  | cons x r=>exact⟨x,r,rfl⟩
 have hE:pD (x0 :: r0)=((x0 :: r0).drop 1).foldl max x0:=rfl;have hl1:¬ ((x0 :: r0).length:Int)<1:=by simp;omega
 have hlp:0<(x0 :: r0).length:=by simp
 have hx1:(x0 :: r0)[0]?=some x0:=rfl;have hx2:(x0 :: r0)[0]=x0:=rfl;have hk1:1<=(x0 :: r0).length:=hlp;generalize (x0 :: r0)=L at *;generalize pD L=res at *;have hs:=za hl1 (za hx1 (za hx2 hlp));repeat' first|(with_reducible first|refine zz ?_|refine zE [0,2,3,4,7,15] ?_)|simp -dsimp[hs]|refine i8 ?_ ?_<;>intro h<;>try exact h.elim
 refine i6 (ι:={ p:Nat×Int // 1<=p.1/\p.1<=L.length/\res=(L.drop p.1).foldl max p.2 }) (λp=>⟨25,[(0,r5 L),(3,iv p.1.2),(4,iv (p.1.1:Int))],[]⟩) (λp=>L.length-p.1.1) ⟨(1,x0),Nat.le_refl _,hk1,hE⟩ (zw [0,3,4] 0) ?_;rintro⟨⟨k,m⟩,hk1',hk,hE2⟩;simp only at hk1' hk hE2;simp only[iv,r5];by_cases hlt:k<L.length
 ·have hlt':(k:Int)<L.length:=by omega
  have hw:=zk k;have hx:L[k]?=some L[k]:=by simp[hlt]
  rw[List.drop_eq_getElem_cons hlt,List.foldl_cons] at hE2;generalize hy:L[k]=y at *;have hs:=za hx (za hy (za hlt (za hlt' hw)));repeat' first|(with_reducible first|refine zz ?_|refine zE [0,2,3,4,7,15] ?_)|simp -dsimp[hs]|refine i8 ?_ ?_<;>intro h<;>try exact h.elim
  all_goals exact zn ⟨(k+1,max m y),by simp,by simp only;omega,hE2⟩ (zw [0,3,4] 0)
 ·have hlt':¬ (k:Int)<L.length:=by omega
  rw[List.drop_eq_nil_of_le (by omega)] at hE2;have hE3:res=m:=hE2;have hs:=za hlt hlt';repeat' first|(with_reducible first|refine zz ?_|refine zr ?_|refine zE [0,2,3,4,7,15] ?_)|simp -dsimp[hs]|refine i8 ?_ ?_<;>intro h<;>try exact h.elim
  all_goals simp[hE3]
def AP (D:List Desk) (k:Nat):List Int:=(D.take k).map λd=>((L0 d).length:Int)
def Bl (D:List Desk) (k:Nat):List Int:=(D.take k).map ba
theorem AO {D:List Desk} {k:Nat} (h:k<D.length):AP D (k+1)=AP D k++[((L0 D[k]).length:Int)]:=by
 unfold AP;rw[List.take_succ_eq_append_getElem h,List.map_append];rfl
theorem Bk {D:List Desk} {k:Nat} (h:k<D.length):Bl D (k+1)=Bl D k++[ba D[k]]:=by
 unfold Bl;rw[List.take_succ_eq_append_getElem h,List.map_append];rfl
theorem vJ {D:List Desk} {k:Nat} (h:k<=D.length):(AP D k).length=k:=by simp[AP];omega
theorem vP {D:List Desk} {k:Nat} (h:k<=D.length):(Bl D k).length=k:=by simp[Bl];omega
theorem xd (d:Desk) (z:Int) (h:(if d.notes=true then 1 else 0)=z):z+dt d.faults d.faults.length=ba d:=by
 unfold ba dt;rw[List.take_length,h]
noncomputable def jD (c:Case):Int×Int:=if J4 c=0 then (pB ((n8 c).map λd=>((L0 d).length:Int)),pD ((n8 c).map ba)) else (0,0)
@[simp] abbrev Qz:List Nat:=[0,1,2,3,4,5,6,7,9,10,12,13,15,22,25,26,27,28,34,38,39,40,41,44,45,46,47,52,60]
@[simp] abbrev Wy:List Nat:=[2,3,6,7,9,10,13,25,26,27,38,39,40,44,45,46]
theorem sA (c:Case) (hG:o4 G) (hN:E2 G) (hS:u5 G) (hU:W9 G) (hR:w0 G) (hC:J2 G) (hF:kD G) (hk:KC c):zP Tryz.prog G 13 [l7 c] (.tup [E1 (jD c).1 (jD c).2,iv (J4 c)]):=by
 refine zf Tryz.func13 Tryz.ntmps13 ?_;try simp only[iv]
 have g1:G 0=some [.raw (.bool false),.raw (.bool false)]:=hF.1;have c1:=fg (G:=G) c hG hN hS hR hC hk;have hq:=hk.q;by_cases h0:J4 c=0
 ·rw[h0,show qt c=n8 c by unfold qt;rw[if_pos h0]] at c1;have hdl:=ak (K1 h0).1;have hdk:=aK hk;have c3:=λd (h:d∈n8 c)=>rJ (G:=G) d c.pieces.length (aK hk d h) (by omega) (mD (K1 h0).1 d h) hF hU;have hO:jD c=(pB ((n8 c).map λd=>((L0 d).length:Int)),pD ((n8 c).map ba)):=by unfold jD;rw[if_pos h0]
  have hne:∀ f:Desk->Int,(n8 c).map f≠[]:=λf e=>by have:=congrArg List.length e;simp at this;rw[this] at hdl;simp at hdl
  have c4:=GJ (G:=G) ((n8 c).map λd=>((L0 d).length:Int)) (hne _) (by simp;omega);have c5:=GL (G:=G) ((n8 c).map ba) (hne _) (by simp;omega);rw[h0,hO];generalize pB ((n8 c).map λd=>((L0 d).length:Int))=r1 at *;generalize pD ((n8 c).map ba)=r2 at *;clear hne hO;generalize n8 c=D at *;simp only[l7,j0,kE,aJ,C0,List.map_cons,List.map_nil] at c1 c3 ⊢;have hs:=trivial;repeat' first|(with_reducible first|refine zz ?_|refine zE Qz ?_)|simp -dsimp[hs]|refine zp c1 ?_|refine i8 ?_ ?_<;>intro h<;>try exact h.elim
  all_goals try clear hs
  refine i6 (ι:={ p:Nat×Nat×Bool×Nat×Bool // p.1<=D.length }) (λp=>⟨82,[(2,.one (.ptr 1 0)),(3,iv 0),(6,.one (.vec 2 p.1.2.1 0 p.1.1)),(7,.one (.vec 3 p.1.2.2.2.1 0 p.1.1)),(25,.one (.im (.sl (D.map U8)))),(26,iv (D.length:Int)),(27,iv (p.1.1:Int))],[.row ((j0 c).map .im),.row [.im (rI 0),.im (rI 0)],.vec 1 (l5 ((AP D p.1.1).map Ab.encI)) p.1.2.1 p.1.2.2.1,.vec 1 (l5 ((Bl D p.1.1).map Ab.encI)) p.1.2.2.2.1 p.1.2.2.2.2]⟩) (λp=>D.length-p.1.1) ⟨(0,0,true,0,true),by simp⟩ (zv [2,3,6,7,25,26,27] (by simp[l5,AP,Bl])) ?_;rintro⟨⟨k,ga,na,gb,nb⟩,hk1⟩;simp only at hk1;simp only[iv];by_cases hlt:k<D.length
  ·have hw:=zk k;have hx0:D[k]?=some D[k]:=by simp[hlt]
   have c6:=c3 D[k] (List.getElem_mem hlt);have hdd:=hdk D[k] (List.getElem_mem hlt);have e1:=AO hlt;have e2:=Bk hlt;have hl1:=vJ (D:=D) hk1;have hl2:=vP (D:=D) hk1;generalize hx:D[k]=d at *;generalize AP D k=L1 at *;generalize Bl D k=L2 at *;have hma:=xd d;have hF0:dt d.faults 0=0:=by simp[dt]
   have hdn:=hdd.n;have htk1:List.take k (l5 (L1.map Ab.encI))=l5 (L1.map Ab.encI):=List.take_of_length_le (by simp[l5,hl1]);have htk2:List.take k (l5 (L2.map Ab.encI))=l5 (L2.map Ab.encI):=List.take_of_length_le (by simp[l5,hl2]);generalize L0 d=fl at *;simp only[be,T5] at c6;obtain⟨Z,hZ⟩:∃ Z:Int,(if d.notes=true then 1 else 0)=Z:=⟨_,rfl⟩
   have hma:=hma Z hZ;have hZr:0<=Z/\Z<=1:=by rw[<- hZ];split<;>omega
   have hs:True:=trivial;cases hnt:d.notes
   all_goals
    rw[hnt] at hZ;simp only[Bool.false_eq_true,if_false,if_true] at hZ;replace hZ:=hZ.symm;have hs:=za hx (za hx0 (za hlt hnt));repeat' first|(with_reducible first|refine zz ?_|refine zE Qz ?_)|simp -dsimp[U8,be,T5,hs]|refine i8 ?_ ?_<;>intro h<;>try exact h.elim
    all_goals try clear hs
   all_goals
    refine i6 (ι:={ q:Nat // q<=d.faults.length }) (λq=>⟨82,[(2,.one (.ptr 1 0)),(3,iv 0),(6,.one (.vec 2 ga 0 k)),(7,.one (.vec 3 gb 0 k)),(9,.one (.im (.ip (j0 d.c++[.raw (.bool d.notes),.sl (d.faults.map K3)])))),(10,iv (Z+dt d.faults q.1)),(25,.one (.im (.sl (D.map U8)))),(26,iv (D.length:Int)),(27,iv (k:Int)),(38,.one (.im (.sl (d.faults.map K3)))),(39,iv (d.faults.length:Int)),(40,iv (q.1:Int))],[.row ((j0 c).map .im),.row [.im (rI 0),.im (rI 0)],.vec 1 (l5 (L1.map Ab.encI)) ga na,.vec 1 (l5 (L2.map Ab.encI)) gb nb]⟩) (λq=>d.faults.length-q.1) ⟨0,by simp⟩ (zv [2,3,6,7,9,10,25,26,27,38,39,40] (by simp[hnt,hF0,hZ])) ?_;clear hnt hZ;rintro⟨q,hq1⟩;simp only[iv];have hsr:=lG d.faults q;by_cases hlq:q<d.faults.length
    ·have hwq:=zk q;have hy0:d.faults[q]?=some d.faults[q]:=by simp[hlq]
     have hst:=iY hlq;have hfl:=hdd.l _ (List.getElem_mem hlq);generalize hy:d.faults[q]=y at *;have hmz:=tJ y;have hmr:=dT y;generalize dt d.faults q=S at *;have hwS:IntKind.i64.wrap (Z+S+bV y)=Z+S+bV y:=n4 (by omega) (by omega);rw[<- hmz] at hst hwS;clear hmz hmr;have hs:=za hy (za hy0 hlq);repeat' first|(with_reducible first|refine zz ?_|refine zE Qz ?_)|simp -dsimp[hs]|refine i8 ?_ ?_<;>intro h<;>try exact h.elim
     all_goals try clear hs
     refine i6 (ι:={ p:Nat×Int // p.1<=y.length/\(p.2=0\/p.2=1\/p.2=2)/\gU y 0=gU (y.drop p.1) p.2 }) (λp=>⟨82,[(2,.one (.ptr 1 0)),(3,iv 0),(6,.one (.vec 2 ga 0 k)),(7,.one (.vec 3 gb 0 k)),(9,.one (.im (.ip (j0 d.c++[.raw (.bool d.notes),.sl (d.faults.map K3)])))),(10,iv (Z+S)),(13,iv p.1.2),(25,.one (.im (.sl (D.map U8)))),(26,iv (D.length:Int)),(27,iv (k:Int)),(38,.one (.im (.sl (d.faults.map K3)))),(39,iv (d.faults.length:Int)),(40,iv (q:Int)),(44,.one (.im (.sl (y.map D7)))),(45,iv (y.length:Int)),(46,iv (p.1.1:Int))],[.row ((j0 c).map .im),.row [.im (rI 0),.im (rI 0)],.vec 1 (l5 (L1.map Ab.encI)) ga na,.vec 1 (l5 (L2.map Ab.encI)) gb nb]⟩) (λp=>y.length-p.1.1) ⟨(0,0),by simp⟩ (zv [2,3,6,7,9,10,13,25,26,27,38,39,40,44,45,46]) ?_;rintro⟨⟨j,n⟩,hj,hn3,hE⟩;simp only at hj hn3 hE;simp only[iv];by_cases hlj:j<y.length
     ·have hwj:=zk j;have hv0:y[j]?=some y[j]:=by simp[hlj]
      have hE2:=hE;rw[List.drop_eq_getElem_cons hlj,gU] at hE2;generalize hv:y[j]=v at *;obtain⟨v1,v2⟩:=v;have hm1:max n 1=1\/max n 1=2:=by omega
      have hs:True:=trivial;cases v1<;>cases v2
      all_goals
       simp at hE2;have hs:=za hv (za hv0 (za hlj (za hwj g1)));repeat' first|(with_reducible first|refine zz ?_|refine zE Qz ?_)|simp -dsimp[hs]|refine i8 ?_ ?_<;>intro h<;>try exact h.elim
       all_goals try clear hs
      ·exact zn ⟨(j+1,n),by omega,hn3,hE2⟩ (zw Wy 4)
      ·exact zn ⟨(j+1,max n 1),by omega,by omega,hE2⟩ (zw Wy 4)
      ·exact zn ⟨(j+1,max n 1),by omega,by omega,hE2⟩ (zw Wy 4)
      ·exact zn ⟨(j+1,2),by omega,.inr (.inr rfl),hE2⟩ (zw Wy 4)
     ·have hE2:=hE;rw[List.drop_eq_nil_of_le (by omega)] at hE2;have hE3:gU y 0=n:=hE2;rw[hE3] at hst hwS;have hs:=za hlj (za hwq hwS);repeat' first|(with_reducible first|refine zz ?_|refine zE Qz ?_)|simp -dsimp[hs]|refine i8 ?_ ?_<;>intro h<;>try exact h.elim
      all_goals try clear hs
      all_goals exact zn ⟨q+1,by omega⟩ (zw [2,3,6,7,9,10,25,26,27,38,39,40] 4 (by simp[hst,Int.add_assoc]))
    ·obtain rfl:q=d.faults.length:=by omega
     rw[hma];generalize ba d=M at *;have hs:=za hlq (za hw (za htk1 (za htk2 (za hl1 hl2))));repeat' first|(with_reducible first|refine zz ?_|refine And.intro (by omega) ?_|refine zE Qz ?_)|simp -dsimp[hs]|refine zp c6 ?_|refine i8 ?_ ?_<;>intro h<;>try exact h.elim
     all_goals try clear hs
     all_goals exact zn ⟨(k+1,ga+1,false,gb+1,false),by simp only;omega⟩ (zw [2,3,6,7,25,26,27] 4 (by simp[e1,e2,htk1,htk2,hl1,hl2]))
  ·obtain rfl:k=D.length:=by omega
   have hl1:=vJ (D:=D) hk1;have hl2:=vP (D:=D) hk1;have hE1:(D.map λd=>((L0 d).length:Int))=AP D D.length:=by simp[AP]
   have hE2:D.map ba=Bl D D.length:=by simp[Bl]
   rw[hE1] at c4;rw[hE2] at c5;generalize AP D D.length=L1 at *;generalize Bl D D.length=L2 at *;have htk1:List.take D.length (l5 (L1.map Ab.encI))=l5 (L1.map Ab.encI):=List.take_of_length_le (by simp[l5,hl1]);have htk2:List.take D.length (l5 (L2.map Ab.encI))=l5 (L2.map Ab.encI):=List.take_of_length_le (by simp[l5,hl2]);simp only[r5] at c4 c5;have hs:=za hlt (za htk1 (za htk2 (za hl1 hl2)));repeat' first|(with_reducible first|refine zz ?_|refine zr ?_|refine zE Qz ?_)|simp -dsimp[hs]|refine CallE.thaw c4 ?_ ?_ ?_;(focus simp[htk1,hl1];done);(focus simp;done)|refine CallE.thaw c5 ?_ ?_ ?_;(focus simp[htk2,hl2];done);(focus simp;done)|refine i8 ?_ ?_<;>intro h<;>try exact h.elim
   all_goals try clear hs
 ·have hO:jD c=(0,0):=by unfold jD;rw[if_neg h0]
  rw[hO];simp only[l7,j0,aJ,E1,List.map_cons,List.map_nil] at c1 ⊢;have hs:=h0;repeat' first|(with_reducible first|refine zz ?_|refine zr ?_|refine zE Qz ?_)|simp -dsimp[hs]|refine zp c1 ?_|refine i8 ?_ ?_<;>intro h<;>try exact h.elim
  all_goals try clear hs
end Go.Proofs
namespace Go.Ab
open Go
def dy (p:Nat->Bool) (f:Nat->Susp) (k:Nat):List Susp:=(List.range k).flatMap λi=>ab (p i) (f i)
theorem ed (p:Nat->Bool) (f:Nat->Susp) (k:Nat):dy p f (k+1)=dy p f k++ab (p k) (f k):=by
 unfold dy;rw[List.range_succ,List.flatMap_append,List.flatMap_singleton]
theorem iu (p:Nat->Bool) (f:Nat->Susp):∀ k,(dy p f k).length<=k
 | 0=>by simp[dy]
 | k+1=>by
   have:=iu p f k;rw[ed,List.length_append,cL];split<;>omega
theorem xk (b:Bool) (p h:Nat->Bool) (n:Nat):cZ b p h n=(ab b ⟨1,0⟩++dy p Z7 n)++dy h aE n:=by
 unfold cZ dy;rw[List.append_assoc]
end Go.Ab
namespace Go.Proofs
open Go Go.Ab
variable {G:LS}
attribute [simp] s6 du w5 B6 nilV K9 ZK
theorem nY {a b:Susp}:M8 a b=0↔a=b:=by
 obtain⟨a1,a2⟩:=a;obtain⟨b1,b2⟩:=b;unfold M8 V2 V2 V2;rw[Susp.mk.injEq];simp only;split
 ·split<;>omega
 ·omega
end Go.Proofs
namespace Go.Proofs
open Go Go.Ab
variable {G:LS}
attribute [simp] s6 du w5 B6 nilV K9 ZK
open Go Go.Ab Tryz
attribute [simp] s6 du w5 B6 nilV K9 ZK
@[simp] abbrev Qr:List Nat:=[0,1,4,5,10,14,25]
theorem nU (l:List Susp) (hl:l.length<100000):zP prog G 24 [C0 l,C0 l] (bv true):=by
 refine zf func24 ntmps24 ?_;try simp only[iv]
 simp only[C0];have hs:=trivial;repeat' first|(with_reducible first|refine zz ?_|refine zE Qr ?_)|simp -dsimp[hs]|refine i8 ?_ ?_<;>intro h<;>try exact h.elim
 refine i6 (ι:={ k:Nat // k<=l.length }) (λp=>⟨26,[(0,.one (.im (.sl (l.map j4)))),(1,.one (.im (.sl (l.map j4)))),(5,iv (p.1:Int))],[]⟩) (λp=>l.length-p.1) ⟨0,by simp⟩ (zv [0,1,5]) ?_;rintro⟨k,hk⟩;simp only[iv];by_cases hlt:k<l.length
 ·have hlt':(k:Int)<l.length:=by omega
  have hw:=zk k;generalize hx:l[k]=x at *;have hs:=za hx (za hlt (za hlt' hw));repeat' first|with_reducible refine zz ?_|simp -dsimp[hs]|refine zM 6 26 9 Qr ?_|with_reducible refine zE Qr ?_|refine i8 ?_ ?_<;>intro h<;>try exact h.elim
  all_goals exact zn ⟨k+1,by omega⟩ (zv [0,1,5])
 ·obtain rfl:k=l.length:=by omega
  have hlt':¬ (l.length:Int)<l.length:=by omega
  have hs:=za hlt hlt';repeat' first|(with_reducible first|refine zz ?_|refine zr ?_|refine zE Qr ?_)|simp -dsimp[hs]|refine i8 ?_ ?_<;>intro h<;>try exact h.elim
attribute [simp] s6 du w5 B6 nilV K9 ZK
theorem qE (c:Case) (k:Int) (hq:c.pieces.length<=16):(dq c k).length<100000:=by
 unfold dq;split
 ·have h1:=List.length_filter_le (λs=>decide (Ej c s=k)) (Y2 c.pieces.length);have h2:=mS c.pieces.length;unfold FP;omega
 ·simp
attribute [simp] s6 du w5 B6 nilV K9 ZK
structure TrOk (c:Case) (T:List (List Int)):Prop where
 h:∀ t∈T,F7 (j8 (j7 c.p.n.notes)) t=true/\t.length<1000
 l:T.length<=32
 p:1<=T.length
theorem Ic {c:Case} (he:q8 c=0):TrOk c (H9 (j8 (j7 c.p.n.notes))):=by
 obtain⟨hp0,hcb⟩:=A2 he;obtain⟨hn0,hpb,hr0⟩:=A9 hp0;have hnk:=ar hn0;have hO5:(j8 (j7 c.p.n.notes)).length<=5:=by rw[pN];exact hnk.2.2.2
 have hstr:=ij (dQ hnk.2.2.1);have hPe:(2:Nat) ^ (j8 (j7 c.p.n.notes)).length<=2 ^ 5:=Nat.pow_le_pow_right (by omega) hO5;have h1:1<=(2:Nat) ^ (j8 (j7 c.p.n.notes)).length:=Nat.one_le_two_pow;exact⟨λt h=>⟨(nJ hstr t h).1,by have:=(nJ hstr t h).2;omega⟩,by rw[aW];omega,by rw[aW];omega⟩
attribute [simp] s6 du w5 B6 nilV K9 ZK
end Go.Proofs
namespace Go.Ab
open Go
abbrev Q4:=DObj×DObj×DObj×DObj
abbrev Q2:=DObj×DObj
def G2 (F:Nat->Q4):Nat->List DObj
 | 0=>[]
 | n+1=>G2 F n++[(F n).1,(F n).2.1,(F n).2.2.1,(F n).2.2.2]
def J6 (F:Nat->Q2):Nat->List DObj
 | 0=>[]
 | n+1=>J6 F n++[(F n).1,(F n).2]
@[simp] theorem eV (F:Nat->Q4):∀ n,(G2 F n).length=4*n
 | 0=>rfl
 | n+1=>by simp[G2,eV F n];omega
@[simp] theorem eW (F:Nat->Q2):∀ n,(J6 F n).length=2*n
 | 0=>rfl
 | n+1=>by simp[J6,eW F n];omega
theorem jt (F:Nat->Q4) {i j:Nat} (hj:j<4):∀ {n},i<n->(G2 F n)[4*i+j]?=[(F i).1,(F i).2.1,(F i).2.2.1,(F i).2.2.2][j]?
 | n+1,h=>by
   rw[G2];rcases Nat.eq_or_lt_of_le (Nat.le_of_lt_succ h) with rfl|h1
   ·rw[List.getElem?_append_right (by simp),eV,Nat.add_sub_cancel_left]
   ·rw[List.getElem?_append_left (by simp;omega)];exact jt F hj h1
theorem oG (F:Nat->Q2) {i j:Nat} (hj:j<2):∀ {n},i<n->(J6 F n)[2*i+j]?=[(F i).1,(F i).2][j]?
 | n+1,h=>by
   rw[J6];rcases Nat.eq_or_lt_of_le (Nat.le_of_lt_succ h) with rfl|h1
   ·rw[List.getElem?_append_right (by simp),eW,Nat.add_sub_cancel_left]
   ·rw[List.getElem?_append_left (by simp;omega)];exact oG F hj h1
@[simp] theorem oD (f:DObj->DObj) (F:Nat->Q4):∀ n,(G2 F n).map f=G2 (λk=>(f (F k).1,f (F k).2.1,f (F k).2.2.1,f (F k).2.2.2)) n
 | 0=>rfl
 | n+1=>by simp[G2,oD f F n]
@[simp] theorem oF (f:DObj->DObj) (F:Nat->Q2):∀ n,(J6 F n).map f=J6 (λk=>(f (F k).1,f (F k).2)) n
 | 0=>rfl
 | n+1=>by simp[J6,oF f F n]
theorem dZ {F H:Nat->Q4}:∀ {n},(∀ k,k<n->F k=H k)->G2 F n=G2 H n
 | 0,_=>rfl
 | n+1,h=>by rw[G2,G2,dZ λk hk=>h k (by omega),h n (by omega)]
theorem ec {F H:Nat->Q2}:∀ {n},(∀ k,k<n->F k=H k)->J6 F n=J6 H n
 | 0,_=>rfl
 | n+1,h=>by rw[J6,J6,ec λk hk=>h k (by omega),h n (by omega)]
@[simp] theorem oE (F:Nat->Q4) (n j:Nat) (R:List DObj):(G2 F n++R)[4*n+j]?=R[j]?:=by
 rw[List.getElem?_append_right (by simp),eV,Nat.add_sub_cancel_left]
@[simp] theorem Hj (F:Nat->Q4) (n:Nat) (R:List DObj):(G2 F n++R)[4*n]?=R[0]?:=by
 have:=oE F n 0 R;simpa using this
@[simp] theorem Hi (F:Nat->Q4) (n a j:Nat) (R:List DObj):(G2 F n++R)[4*n+a+j]?=R[a+j]?:=by
 rw[Nat.add_assoc,oE]
@[simp] theorem xP (F:Nat->Q2) (n j:Nat) (R:List DObj):(J6 F n++R)[2*n+j]?=R[j]?:=by
 rw[List.getElem?_append_right (by simp),eW,Nat.add_sub_cancel_left]
@[simp] theorem Hl (F:Nat->Q2) (n:Nat) (R:List DObj):(J6 F n++R)[2*n]?=R[0]?:=by
 have:=xP F n 0 R;simpa using this
@[simp] theorem ui (F:Nat->Q4) (n j:Nat) (R:List DObj) (d:DObj):(G2 F n++R).set (4*n+j) d=G2 F n++R.set j d:=by
 rw[List.set_append_right _ _ (by simp),eV,Nat.add_sub_cancel_left]
@[simp] theorem FF (F:Nat->Q4) (n a j:Nat) (R:List DObj) (d:DObj):(G2 F n++R).set (4*n+a+j) d=G2 F n++R.set (a+j) d:=by
 rw[Nat.add_assoc,ui]
@[simp] theorem Hk (F:Nat->Q2) (n j:Nat) (R:List DObj) (d:DObj):(J6 F n++R).set (2*n+j) d=J6 F n++R.set j d:=by
 rw[List.set_append_right _ _ (by simp),eW,Nat.add_sub_cancel_left]
end Go.Ab
namespace Go.Proofs
open Go Go.Ab
variable {G:LS}
def F8 (P:Program) (G:LS) (f sz:Nat) (l:List (List IC)):Prop:=DCall P G f [.one (.im (.sl l))] [] (λd o=>∃ i:Nat×Bool,(i.2=true->l=[])/\d=.one (.vec 1 i.1 0 l.length)/\o=[.vec sz [] 0 true,.vec sz (l5 l) i.1 i.2])
theorem JC (l:List Issue) (hl:l.length<1000):F8 Tryz.prog G 124 5 (l.map e9):=by
 unfold F8;refine h9 Tryz.func124 rfl Tryz.ntmps124 (by simp) rfl ?_;repeat' first|(with_reducible first|refine zz ?_|refine And.intro (by omega) ?_|refine zx ?_|refine zE [0,2,4] ?_)|simp -dsimp|refine i8 ?_ ?_<;>intro h<;>try exact h.elim|with_reducible refine V7 (λh=>?_);(try simp only[List.map_eq_nil_iff] at h);(try subst h);try simp -dsimp|with_reducible refine And.intro ?_ ?_
theorem Hs (l:List Note) (hl:l.length<1000):F8 Tryz.prog G 125 10 (l.map l6):=by
 unfold F8;refine h9 Tryz.func125 rfl Tryz.ntmps125 (by simp) rfl ?_;repeat' first|(with_reducible first|refine zz ?_|refine And.intro (by omega) ?_|refine zx ?_|refine zE [0,2,4] ?_)|simp -dsimp|refine i8 ?_ ?_<;>intro h<;>try exact h.elim|with_reducible refine V7 (λh=>?_);(try simp only[List.map_eq_nil_iff] at h);(try subst h);try simp -dsimp|with_reducible refine And.intro ?_ ?_
theorem JB (l:List Itm) (hl:l.length<1000):F8 Tryz.prog G 126 2 (l.map B1):=by
 unfold F8;refine h9 Tryz.func126 rfl Tryz.ntmps126 (by simp) rfl ?_;repeat' first|(with_reducible first|refine zz ?_|refine And.intro (by omega) ?_|refine zx ?_|refine zE [0,2,4] ?_)|simp -dsimp|refine i8 ?_ ?_<;>intro h<;>try exact h.elim|with_reducible refine V7 (λh=>?_);(try simp only[List.map_eq_nil_iff] at h);(try subst h);try simp -dsimp|with_reducible refine And.intro ?_ ?_
theorem JE (l:List Dim) (hl:l.length<1000):F8 Tryz.prog G 127 3 (l.map F2):=by
 unfold F8;refine h9 Tryz.func127 rfl Tryz.ntmps127 (by simp) rfl ?_;repeat' first|(with_reducible first|refine zz ?_|refine And.intro (by omega) ?_|refine zx ?_|refine zE [0,2,4] ?_)|simp -dsimp|refine i8 ?_ ?_<;>intro h<;>try exact h.elim|with_reducible refine V7 (λh=>?_);(try simp only[List.map_eq_nil_iff] at h);(try subst h);try simp -dsimp|with_reducible refine And.intro ?_ ?_
theorem Hu (l:List Holder) (hl:l.length<1000):F8 Tryz.prog G 128 4 (l.map o7):=by
 unfold F8;refine h9 Tryz.func128 rfl Tryz.ntmps128 (by simp) rfl ?_;repeat' first|(with_reducible first|refine zz ?_|refine And.intro (by omega) ?_|refine zx ?_|refine zE [0,2,4] ?_)|simp -dsimp|refine i8 ?_ ?_<;>intro h<;>try exact h.elim|with_reducible refine V7 (λh=>?_);(try simp only[List.map_eq_nil_iff] at h);(try subst h);try simp -dsimp|with_reducible refine And.intro ?_ ?_
theorem ER (l:List Print) (hl:l.length<1000):F8 Tryz.prog G 129 7 (l.map A4):=by
 unfold F8;refine h9 Tryz.func129 rfl Tryz.ntmps129 (by simp) rfl ?_;repeat' first|(with_reducible first|refine zz ?_|refine And.intro (by omega) ?_|refine zx ?_|refine zE [0,2,4] ?_)|simp -dsimp|refine i8 ?_ ?_<;>intro h<;>try exact h.elim|with_reducible refine V7 (λh=>?_);(try simp only[List.map_eq_nil_iff] at h);(try subst h);try simp -dsimp|with_reducible refine And.intro ?_ ?_
theorem JD (l:List Int) (hl:l.length<1000):F8 Tryz.prog G 130 1 (l.map Ab.encI):=by
 unfold F8;refine h9 Tryz.func130 rfl Tryz.ntmps130 (by simp) rfl ?_;repeat' first|(with_reducible first|refine zz ?_|refine And.intro (by omega) ?_|refine zx ?_|refine zE [0,2,4] ?_)|simp -dsimp|refine i8 ?_ ?_<;>intro h<;>try exact h.elim|with_reducible refine V7 (λh=>?_);(try simp only[List.map_eq_nil_iff] at h);(try subst h);try simp -dsimp|with_reducible refine And.intro ?_ ?_
theorem Ht (l:List Link) (hl:l.length<1000):F8 Tryz.prog G 131 3 (l.map H0):=by
 unfold F8;refine h9 Tryz.func131 rfl Tryz.ntmps131 (by simp) rfl ?_;repeat' first|(with_reducible first|refine zz ?_|refine And.intro (by omega) ?_|refine zx ?_|refine zE [0,2,4] ?_)|simp -dsimp|refine i8 ?_ ?_<;>intro h<;>try exact h.elim|with_reducible refine V7 (λh=>?_);(try simp only[List.map_eq_nil_iff] at h);(try subst h);try simp -dsimp|with_reducible refine And.intro ?_ ?_
theorem ES (l:List Piece) (hl:l.length<1000):F8 Tryz.prog G 132 4 (l.map w9):=by
 unfold F8;refine h9 Tryz.func132 rfl Tryz.ntmps132 (by simp) rfl ?_;repeat' first|(with_reducible first|refine zz ?_|refine And.intro (by omega) ?_|refine zx ?_|refine zE [0,2,4] ?_)|simp -dsimp|refine i8 ?_ ?_<;>intro h<;>try exact h.elim|with_reducible refine V7 (λh=>?_);(try simp only[List.map_eq_nil_iff] at h);(try subst h);try simp -dsimp|with_reducible refine And.intro ?_ ?_
end Go.Proofs
