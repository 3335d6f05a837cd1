/- Part 22 of the proofs. -/
import Derived.Test.YtlmlkkoapahmjaaGreatDoorT09
import Derived.Test.YtlmlkkoapahmjaaGreatDoorT16
import Derived.Test.YtlmlkkoapahmjaaGreatDoorT17
import Derived.Test.YtlmlkkoapahmjaaGreatDoorE02
import Derived.Test.YtlmlkkoapahmjaaGreatDoorE04
set_option linter.all false
set_option maxHeartbeats 100000000
namespace Go.Proofs
open Go Go.Ab Tryz
variable {G:IK}
attribute [simp] p5 cr s6 w0 nilV H9 ZK
noncomputable def CE (c:Case):Susp->Int:=E8 (n8 c)
noncomputable def Fb (c:Case) (k:Int):List Susp:=(ec c.pieces.length).filter λs=>decide (CE c s=k)
noncomputable def nc (c:Case) (k:Int):List Susp:=if G9 c=0 then Fb c k else []
theorem tV {n:Nat} {s:Susp} (h:s∈ec n):bV n s/\0<=s.kind/\s.kind<=255:=by
 unfold bV;rcases listS_mem.1 h with⟨_,rfl⟩|⟨i,h1,_,rfl⟩|⟨i,h1,_,rfl⟩
 ·simp
 ·simp[uz];omega
 ·simp[vm];omega
theorem sS (n:Nat):(ec n).Nodup:=(bx _ _ _ _).imp λ{a b} h e=>by subst e;unfold dt at h;omega
theorem qj (n:Nat):(ec n).length<=1+2*n:=by
 have h1:=(L7 true (λ_=>true) (λ_=>true) n).length_eq;have h2:=aR true (λ_=>true) (λ_=>true) n;unfold ec;omega
theorem uW (c:Case) (s:Susp):0<=CE c s/\CE c s<=2:=by
 unfold CE E8;split
 ·omega
 ·split<;>omega
@[simp] abbrev Lo:List Nat:=[0,1,2,3,4,5,6,8,9,10,12,13,20,24,25,26,27,37,39,44,48,49,50,51,57,58,64]
@[simp] abbrev Ki:List Nat:=[2,3,4,6,48,49,50]
theorem qe (c:Case) (hG:o4 G) (hN:C7 G) (hS:s8 G) (hU:S8 G) (hR:u3 G) (hC:I9 G) (hK:bD G) (hk:KC c):zP prog G 12 [n5 c] (.tup [B4 (nc c 2),B4 (nc c 1),iv (G9 c)]):=by
 refine zf func12 ntmps12 ?_;try simp only[iv]
 have c1:=dS (G:=G) c hG hN hS hR hC hk;have hq:=hk.q;by_cases h0:G9 c=0
 ·have c2:=jN (G:=G) c (by omega) hU;rw[h0,show ot c=n8 c by unfold ot;rw[if_pos h0]] at c1;have hdl:=bc (U6 h0).1;have c3:=λs (h:s∈ec c.pieces.length)=>kx (G:=G) c.pieces.length (n8 c) s (tV h).1 hK (Y7 hk) (by omega);have hO:∀ k,nc c k=(ec c.pieces.length).filter λs=>decide (CE c s=k):=λk=>by unfold nc;rw[if_pos h0];rfl
  rw[h0,hO,hO];have hfr:=uW c;have hfe:∀ s,E8 (n8 c) s=CE c s:=λs=>rfl;simp only[hfe] at c3;have hAn:=sS c.pieces.length;have hAl:=qj c.pieces.length;clear hfe hO;generalize CE c=f at *;generalize ec c.pieces.length=A at *;simp only[n5,i9,D8,j6,Y6,B4,rI,List.map_cons,List.map_nil] at c1 c2 c3 ⊢;have hs:=trivial;repeat' first|(with_reducible first|refine zz ?_|refine zE Lo ?_)|simp -dsimp[hs]|refine zp c1 ?_|refine zp c2 ?_|refine j4 ?_ ?_<;>intro h<;>try exact h.elim
  all_goals try clear hs
  refine i7 (ι:={ k:Nat // k<=A.length }) (λp=>⟨73,[(1,.one (.ptr 0 0)),(2,.one (.vec 1 0 0 0)),(3,.one (.vec 2 0 0 0)),(4,iv 0),(5,.one (.im (.sl ((n8 c).map Q6)))),(6,.one (.map 3)),(24,.one (.im (.sl (A.map j6)))),(25,iv (A.length:Int)),(26,iv (p.1:Int))],[.row ((i9 c).map .im),.vec 2 [] 0 true,.vec 2 [] 0 true,.map [.int .u8,.int .i64] (V5 f (A.take p.1))]⟩) (λp=>A.length-p.1) ⟨0,by simp⟩ (zv [1,2,3,4,5,6,24,25,26] (by simp[V5])) ?_;rintro⟨k,hk1⟩;simp only[iv];by_cases hlt:k<A.length
  ·have hw:=zk k;have hx0:A[k]?=some A[k]:=by simp[hlt]
   have c4:=c3 A[k] (List.getElem_mem hlt);have hts:A.take (k+1)=A.take k++[A[k]]:=List.take_succ_eq_append_getElem hlt;have hnm:A[k]∉A.take k:=λhm=>by
    obtain⟨j,hj⟩:=List.mem_iff_getElem?.1 hm;have hjk:j<k:=by have:=e7 hj;rw[List.length_take] at this;omega
    rw[List.getElem?_take_of_lt hjk] at hj;have:=(List.getElem?_inj (e7 hj) hAn).1 (hj.trans hx0.symm);omega
   have hset:=xR (f:=f) hnm;rw[<- hts] at hset;generalize hx:A[k]=s at *;have hs:=za hx (za hx0 (za hlt (za hw hset)));repeat' first|with_reducible refine zz ?_|simp -dsimp[hs]|refine zq c4 ?_|refine zM 8 73 5 Lo ?_|with_reducible refine zE Lo ?_|refine j4 ?_ ?_<;>intro h<;>try exact h.elim
   all_goals try clear hs
   all_goals exact zn ⟨k+1,by omega⟩ (zw [1,2,3,4,5,6,24,25,26] 4)
  ·obtain rfl:k=A.length:=by omega
   simp only[List.take_length];have hs:=hlt;repeat' first|(with_reducible first|refine zz ?_|refine zE Lo ?_)|simp -dsimp[hs]|refine j4 ?_ ?_<;>intro h<;>try exact h.elim
   all_goals try clear hs
   intro l c0 b hll hln hlc;rw[yQ] at hll;have hP1:(A.zip l).map (·.1)=A:=List.map_fst_zip (by omega);have hP2:(A.zip l).map (·.2)=l:=List.map_snd_zip (by omega);have hPn:((A.zip l).map (·.2)).Nodup:=by rw[hP2];exact hln
   clear c1 c3 hlt hk1;generalize A.zip l=P at *;subst hP2;have hAnP:(P.map (·.1)).Nodup:=by rw[hP1];exact hAn
   obtain⟨g,hg⟩:∃ g:Susp->Bool,g=λs=>decide (f s≠0):=⟨_,rfl⟩
   have hs:=trivial;repeat' first|with_reducible refine zz ?_|simp -dsimp[hs]
   all_goals try clear hs
   refine i7 (ι:={ p:List Nat×List Nat×List Susp // p.2.1=(P0 g P p.1).map (·.2)/\p.2.2=(P0 g P p.1).map (·.1) }) (λp=>⟨73,[(1,.one (.ptr 0 0)),(2,.one (.vec 1 0 0 0)),(3,.one (.vec 2 0 0 0)),(4,iv 0),(6,.one (.map 3)),(37,.one (.itr 4))],[.row ((i9 c).map .im),.vec 2 [] 0 true,.vec 2 [] 0 true,.map [.st p.1.2.1 c0 b,.int .u8,.int .i64] (V5 f p.1.2.2),.liter b p.1.1 c0]⟩) (λp=>AA P p.1.1) ⟨([],P.map (·.2),P.map (·.1)),by simp[uR]⟩ (zv [1,2,3,4,6,37] (by simp[hP1])) ?_;rintro⟨⟨seen,l,K⟩,hl,hK'⟩;simp only at hl hK';simp only[iv];have hs:=trivial;repeat' first|(with_reducible first|refine zz ?_|refine zE Lo ?_)|simp -dsimp[hs]|refine j4 ?_ ?_<;>intro h<;>try exact h.elim|with_reducible refine R2 (λh=>?_);(try simp only[List.map_eq_nil_iff] at h);(try subst h);try simp -dsimp[hs]|with_reducible refine And.intro ?_ ?_
   all_goals try clear hs
   ·have hend:K=(P.map (·.1)).filter g:=by rw[hK'];exact uS (by rw[<- hl];assumption)
    rw[hP1] at hend;have hget:∀ s∈A,K0 [.int .u8 s.kind,.int .i64 s.index] (V5 f K) [.im (.raw (.int .u8 0))]=[.im (.raw (.int .u8 (f s)))]:=λs hs=>by
     rw[xU,hend];by_cases hf0:f s=0
     ·simp[hf0]
     ·rw[if_pos (List.mem_filter.2 ⟨hs,by rw[hg];simp[hf0]⟩)]
    have himE:List.map (λx:List Value×List IC=>(x.1,List.map DC.im x.2)) (mC f K)=V5 f K:=DK f K;clear hend hK' hl hg;have hs:=trivial;repeat' first|with_reducible refine zz ?_|simp -dsimp[hs]|refine zp c2 ?_
    all_goals try clear hs
    refine i7 (ι:={ p:Nat×Nat×Bool×Nat×Bool // p.1<=A.length }) (λp=>⟨73,[(2,.one (.vec 1 p.1.2.1 0 ((A.take p.1.1).filter λs=>decide (f s=2)).length)),(3,.one (.vec 2 p.1.2.2.2.1 0 ((A.take p.1.1).filter λs=>decide (f s=1)).length)),(4,iv 0),(6,.one (.im (.mp [.int .u8,.int .i64] (mC f K)))),(48,.one (.im (.sl (A.map j6)))),(49,iv (A.length:Int)),(50,iv (p.1.1:Int))],[.row ((i9 c).map .im),.vec 2 (l6 (((A.take p.1.1).filter λs=>decide (f s=2)).map j6)) p.1.2.1 p.1.2.2.1,.vec 2 (l6 (((A.take p.1.1).filter λs=>decide (f s=1)).map j6)) p.1.2.2.2.1 p.1.2.2.2.2]⟩) (λp=>A.length-p.1.1) ⟨(0,0,true,0,true),by simp⟩ (zw Ki 3 (by simp[l6])) ?_;rintro⟨⟨k,ga,na,gb,nb⟩,hk1⟩;simp only at hk1;simp only[iv];by_cases hlt:k<A.length
    ·have hw:=zk k;have hx0:A[k]?=some A[k]:=by simp[hlt]
     have hts:A.take (k+1)=A.take k++[A[k]]:=List.take_succ_eq_append_getElem hlt;have hge:=hget A[k] (List.getElem_mem hlt);have hl1:=List.length_filter_le (λs=>decide (f s=2)) (A.take k);have hl2:=List.length_filter_le (λs=>decide (f s=1)) (A.take k);have hr:=hfr A[k];rw[List.length_take] at hl1 hl2;generalize hx:A[k]=s at *;have e2:(A.take (k+1)).filter (λs=>decide (f s=2))=(A.take k).filter (λs=>decide (f s=2))++(if f s=2 then [s] else []):=by
      rw[hts,List.filter_append];simp[List.filter_cons]
     have e1:(A.take (k+1)).filter (λs=>decide (f s=1))=(A.take k).filter (λs=>decide (f s=1))++(if f s=1 then [s] else []):=by
      rw[hts,List.filter_append];simp[List.filter_cons]
     generalize (A.take k).filter (λs=>decide (f s=2))=L2 at *;generalize (A.take k).filter (λs=>decide (f s=1))=L1 at *;have h3:f s=0\/f s=1\/f s=2:=by omega
     have hs:True:=trivial;rcases h3 with h3|h3|h3
     all_goals
      rw[h3] at hge;simp[h3] at e1 e2;have hs:=za hx (za hx0 (za hlt (za hw (za hge himE))));repeat' first|(with_reducible first|refine zz ?_|refine And.intro (by omega) ?_|refine zE Lo ?_)|simp -dsimp[hs]|refine j4 ?_ ?_<;>intro h<;>try exact h.elim
      all_goals try clear hs
     ·all_goals exact zn ⟨(k+1,ga,na,gb,nb),by simp only;omega⟩ (zw Ki 3 (by simp[e1,e2]))
     ·all_goals exact zn ⟨(k+1,ga,na,gb+1,false),by simp only;omega⟩ (zw Ki 3 (by simp[e1,e2]))
     ·all_goals exact zn ⟨(k+1,ga+1,false,gb,nb),by simp only;omega⟩ (zw Ki 3 (by simp[e1,e2]))
    ·obtain rfl:k=A.length:=by omega
     simp only[List.take_length];have hl1:=List.length_filter_le (λs=>decide (f s=2)) A;have hl2:=List.length_filter_le (λs=>decide (f s=1)) A;generalize A.filter (λs=>decide (f s=2))=L2 at *;generalize A.filter (λs=>decide (f s=1))=L1 at *;have hs:=hlt;repeat' first|(with_reducible first|refine zz ?_|refine zr ?_|refine zE Lo ?_)|simp -dsimp[hs]|refine j4 ?_ ?_<;>intro h<;>try exact h.elim
     all_goals try clear hs
     all_goals simp
   ·intro i s xa xb hx hs1 hns;obtain⟨y,hy,rfl,rfl⟩:=vA hx;have hgP:(P0 g P seen)[i]?=some (y,s):=by
     rw[hK',List.getElem?_map,Option.map_eq_some_iff] at hy;rw[hl,List.getElem?_map,Option.map_eq_some_iff] at hs1;obtain⟨p,hp1,hp2⟩:=hy;obtain⟨q,hq1,hq2⟩:=hs1;rw[hp1] at hq1;cases hq1;rw[hp1,<- hp2,<- hq2]
    have hmem:(y,s)∈P:=(List.mem_filter.1 (List.mem_of_getElem? hgP)).1;have hlt2:=Az hmem hns;have hln2:l.Nodup:=by rw[hl];exact(hPn.sublist ((List.filter_sublist).map _))
    have hKn:K.Nodup:=by rw[hK'];exact(hAnP.sublist ((List.filter_sublist).map _))
    have hidx:=nK hln2 hs1;have hmi:=rq (f:=f) hKn hy;have hmd:=DB (f:=f) hKn hy;by_cases hf0:f y=0
    ·have hfy:g y=false:=by rw[hg];simp[hf0]
     have hd:=uT (f:=g) hPn hgP hfy;have hl2:l.eraseIdx i=(P0 g P (seen++[s])).map (·.2):=by rw[hd,kn,<- hl]
     have hK2:K.eraseIdx i=(P0 g P (seen++[s])).map (·.1):=by rw[hd,kn,<- hK']
     rw[hf0] at hx;have hs:=za hx (za hidx (za hf0 (za hmi hmd)));repeat' first|(with_reducible first|refine zz ?_|refine zE Lo ?_)|simp -dsimp[hs]|refine j4 ?_ ?_<;>intro h<;>try exact h.elim
     all_goals try clear hs
     all_goals exact At.round ⟨(seen++[s],l.eraseIdx i,K.eraseIdx i),hl2,hK2⟩ hlt2 (zw [1,2,3,4,6,37] 5)
    ·have hfy:g y=true:=by rw[hg];simp[hf0]
     have hd:=rE (f:=g) (seen:=seen) hPn hmem hfy;have hl2:l=(P0 g P (seen++[s])).map (·.2):=by rw[hd,<- hl]
     have hK2:K=(P0 g P (seen++[s])).map (·.1):=by rw[hd,<- hK']
     have hs:=za hx (za hidx (za hf0 (za hmi hmd)));repeat' first|(with_reducible first|refine zz ?_|refine zE Lo ?_)|simp -dsimp[hs]|refine j4 ?_ ?_<;>intro h<;>try exact h.elim
     all_goals try clear hs
     all_goals exact At.round ⟨(seen++[s],l,K),hl2,hK2⟩ hlt2 (zw [1,2,3,4,6,37] 5)
 ·have hO:∀ k,nc c k=[]:=λk=>by unfold nc;rw[if_neg h0]
  rw[hO,hO];simp only[n5,i9,D8,j6,Y6,rI,List.map_cons,List.map_nil] at c1 ⊢;have hs:=h0;repeat' first|(with_reducible first|refine zz ?_|refine zr ?_|refine zE Lo ?_)|simp -dsimp[hs]|refine zp c1 ?_|refine j4 ?_ ?_<;>intro h<;>try exact h.elim
  all_goals try clear hs
end Go.Proofs
namespace Go.Ab
open Go
def ct (s:Susp) (i:Nat):L3:=if s.kind=2/\s.index=i then (true,false) else if s.kind=3/\s.index=i then (false,true) else (false,false)
def aF (d:Desk) (s:Susp):Bool:=((List.range d.faults.length).all λi=>decide (ct s i∈d.faults.getD i []))&&(d.notes==decide (s.kind=1))
theorem we {d:Desk} {s:Susp} {i:Nat} (h:i<d.faults.length) (h2:ct s i∉d.faults.getD i []):aF d s=false:=by
 unfold aF;rw[Bool.and_eq_false_iff];refine .inl ?_;rw[<- Bool.not_eq_true,List.all_eq_true];exact λhall=>h2 (by simpa using hall i (List.mem_range.2 h))
theorem sQ {d:Desk} {s:Susp} (h:∀ i,i<d.faults.length->ct s i∈d.faults.getD i []):aF d s=(d.notes==decide (s.kind=1)):=by
 unfold aF;rw[show ((List.range d.faults.length).all λi=>decide (ct s i∈d.faults.getD i []))=true by
  rw[List.all_eq_true];exact λi hi=>by simpa using h i (List.mem_range.1 hi)]
 rfl
end Go.Ab
namespace Go.Proofs
open Go Go.Ab
variable {G:IK}
attribute [simp] p5 cr s6 w0 nilV H9 ZK
def ee (s:Susp):List (List Value×List DC):=if s.kind=2 then [([.int .i64 s.index],[.im (.raw (.bool true)),.im (.raw (.bool false))])] else if s.kind=3 then [([.int .i64 s.index],[.im (.raw (.bool false)),.im (.raw (.bool true))])] else []
theorem ub (s:Susp) (i:Nat):K0 [.int .i64 (i:Int)] (ee s) [.im (.raw (.bool false)),.im (.raw (.bool false))]=[.im (.raw (.bool (ct s i).1)),.im (.raw (.bool (ct s i).2))]:=by
 have hb:u6 [.int .i64 (i:Int)] [.int .i64 s.index]=decide (s.index=(i:Int)):=Z2 (i:Int) s.index;unfold ee ct;by_cases h2:s.kind=2
 ·simp only[h2,if_true,true_and,K0,O7,hb,decide_eq_true_eq];by_cases hi:s.index=(i:Int)
  ·simp[hi]
  ·simp[hi]
 ·simp only[h2,if_false,false_and,if_false];by_cases h3:s.kind=3
  ·simp only[h3,if_true,true_and,K0,O7,hb,decide_eq_true_eq];by_cases hi:s.index=(i:Int)
   ·simp[hi]
   ·simp[hi]
  ·simp[h3,K0,O7]
@[simp] theorem Gr (n:Nat) (objs:List DObj) (s:Susp):((ee s).map λx=>(x.1,x.2.map (fz n objs)))=ee s:=by
 unfold ee;split
 ·simp[fz]
 ·split<;>simp[fz]
@[simp] abbrev LX:List Nat:=[0,1,3,4,5,6,7,10,11,17,26,27,28,29,38]
theorem Ci (d:Desk) (n:Nat) (s:Susp) (hd:DkOk n d) (hn:n<100000) (hs:bV n s) (hF:jh G):zP Tryz.prog G 64 [ji d,D8 s] (bv (aF d s)):=by
 refine zf Tryz.func64 Tryz.ntmps64 ?_;try simp only[iv]
 have g2:G 2=some [.raw (.bool true),.raw (.bool false)]:=hF.2.1;have g3:G 3=some [.raw (.bool false),.raw (.bool true)]:=hF.2.2;have hdn:=hd.n;have hg:=ub s;have hcs:(s.kind=1/\ee s=[])\/(s.kind=2/\ee s=[([.int .i64 s.index],[.im (.raw (.bool true)),.im (.raw (.bool false))])])\/(s.kind=3/\ee s=[([.int .i64 s.index],[.im (.raw (.bool false)),.im (.raw (.bool true))])]):=by
  unfold ee;rcases hs with h|⟨h|h,_,_⟩<;>simp[h]
 have hno:=λi=>we (d:=d) (s:=s) (i:=i);have hyes:=sQ (d:=d) (s:=s);generalize aF d s=r at *;obtain⟨kd,ix⟩:=s;simp only at hcs;simp only[ji,ah,P1];clear hs;have hs:True:=trivial;rcases hcs with⟨hkd,hw⟩|⟨hkd,hw⟩|⟨hkd,hw⟩
 all_goals
  have hw1:=hw;rw[hkd] at hw1;have hs:=za g2 (za g3 hkd);repeat' first|(with_reducible first|refine zz ?_|refine zE LX ?_)|simp -dsimp[hs]|refine j4 ?_ ?_<;>intro h<;>try exact h.elim
  all_goals try clear hs
 all_goals
  refine i7 (ι:={ k:Nat // k<=d.faults.length/\∀ j,j<k->ct ⟨kd,ix⟩ j∈d.faults.getD j [] }) (λp=>⟨48,[(0,ji d),(3,.one (.ptr 0 0)),(5,.one (.map 1)),(26,.one (.im (.sl (d.faults.map H3)))),(27,iv (d.faults.length:Int)),(28,iv (p.1:Int))],[.row [.im (.raw (.int .u8 kd)),.im (rI ix)],.map [.int .i64] (ee ⟨kd,ix⟩)]⟩) (λp=>d.faults.length-p.1) ⟨0,by simp⟩ (zv [0,3,5,26,27,28] (by simp[hw,hw1,hkd,O0,ah,P1])) ?_;rintro⟨k,hk1,hall⟩;simp only[iv,ji,ah,P1];by_cases hlt:k<d.faults.length
  ·have hwk:=zk k;have hx0:d.faults[k]?=some d.faults[k]:=by simp[hlt]
   have hgd:d.faults.getD k []=d.faults[k]:=by simp[hlt]
   have hgk:=hg k;have hnk:=hno k hlt;rw[hgd] at hnk;have hall2:ct ⟨kd,ix⟩ k∈d.faults[k]->∀ j,j<k+1->ct ⟨kd,ix⟩ j∈d.faults.getD j []:=λh j hj=>by
    by_cases e:j=k
    ·subst e;rw[hgd];exact h
    ·exact hall j (by omega)
   generalize hw0:ct ⟨kd,ix⟩ k=w at *;have c1:=gu (G:=G) d.faults[k] w (hd.l _ (List.getElem_mem hlt));generalize hx:d.faults[k]=x at *;simp only[iN,B7,List.map_cons,List.map_nil] at c1;by_cases hm:w∈x
   ·rw[decide_eq_true hm] at c1;have hs:=za hx (za hlt (za hwk hgk));repeat' first|(with_reducible first|refine zz ?_|refine zE LX ?_)|simp -dsimp[hs]|refine zp c1 ?_|refine j4 ?_ ?_<;>intro h<;>try exact h.elim
    all_goals try clear hs
    all_goals exact zn ⟨k+1,by omega,hall2 hm⟩ (zw [0,3,5,26,27,28] 2 (by simp[ah,P1]))
   ·rw[decide_eq_false hm] at c1;have hr:=hnk hm;have hs:=za hx (za hlt (za hwk hgk));repeat' first|(with_reducible first|refine zz ?_|refine zr ?_|refine zE LX ?_)|simp -dsimp[hs]|refine zp c1 ?_|refine j4 ?_ ?_<;>intro h<;>try exact h.elim
    all_goals try clear hs
    all_goals simp[hr]
  ·obtain rfl:k=d.faults.length:=by omega
   have hr:=hyes λi hi=>hall i hi;rw[hr];have hs:=za hlt hkd;repeat' first|(with_reducible first|refine zz ?_|refine zr ?_)|simp -dsimp[hs]|refine zM 13 48 9 LX ?_|with_reducible refine zE LX ?_|refine j4 ?_ ?_<;>intro h<;>try exact h.elim
   all_goals try clear hs
   all_goals simp[hkd]
end Go.Proofs
namespace Go.Proofs
open Go Go.Ab Tryz
variable {G:IK}
attribute [simp] p5 cr s6 w0 nilV H9 ZK
theorem zT (n:Nat) (s:Susp) (hs:bV n s) (hn:n<100000) (hF:jh G) (d:Desk) (hd:DkOk n d):DCall prog G 63 (ji d :: [DC.ptr 0 0].map .one) [.row ((j6 s).map .im)] (λr o=>r=bv (aF d s)/\o=[.row ((j6 s).map .im)]):=by
 refine DCall.drop ?_;have c1:=Ci (G:=G) d n s hd hn hs hF;simp only[ji,D8,j6,rI,List.map_cons,List.map_nil] at c1;refine g9 func63 rfl ntmps63 (by simp) rfl ?_;simp only[ji,j6,rI,List.map_cons,List.map_nil];have hs:=trivial;repeat' first|(with_reducible first|refine zz ?_|refine zr ?_|refine zE [0,1,3] ?_)|simp -dsimp[hs]|refine zp c1 ?_|with_reducible refine And.intro ?_ ?_
 all_goals try clear hs
noncomputable def zU (c:Case) (s:Susp):Bool:=(n8 c).any λd=>aF d s
noncomputable def sR (c:Case):List Susp:=if G9 c=0 then (ec c.pieces.length).filter (zU c) else []
@[simp] abbrev Kj:List Nat:=[0,1,2,3,4,5,6,8,15,18,19,20,21,26]
theorem zR (c:Case) (hG:o4 G) (hN:C7 G) (hS:s8 G) (hU:S8 G) (hR:u3 G) (hC:I9 G) (hF:jh G) (hk:KC c):zP prog G 17 [n5 c] (.tup [B4 (sR c),iv (G9 c)]):=by
 refine zf func17 ntmps17 ?_;try simp only[iv]
 have c1:=dS (G:=G) c hG hN hS hR hC hk;have hq:=hk.q;by_cases h0:G9 c=0
 ·have c2:=jN (G:=G) c (by omega) hU;rw[h0,show ot c=n8 c by unfold ot;rw[if_pos h0]] at c1;have hdl:=bc (U6 h0).1;have c3:=λs (h:s∈ec c.pieces.length)=>ci (G:=G) (n8 c) (λd=>aF d s) 63 [.ptr 0 0] [.row ((j6 s).map .im)] (by simp) (λd hdm=>zT c.pieces.length s (tV h).1 (by omega) hF d (Y7 hk d hdm)) (by omega);have hO:sR c=(ec c.pieces.length).filter (zU c):=by unfold sR;rw[if_pos h0]
  have hfe:∀ s,((n8 c).any λd=>aF d s)=zU c s:=λs=>rfl;simp only[hfe] at c3;rw[h0,hO];have hAl:=qj c.pieces.length;clear hO hfe;generalize zU c=f at *;generalize ec c.pieces.length=A at *;simp only[n5,i9,D8,j6,Y6,B4,rI,List.map_cons,List.map_nil] at c1 c2 c3 ⊢;have hs:=trivial;repeat' first|(with_reducible first|refine zz ?_|refine zE Kj ?_)|simp -dsimp[hs]|refine zp c1 ?_|refine zp c2 ?_|refine j4 ?_ ?_<;>intro h<;>try exact h.elim
  all_goals try clear hs
  refine i7 (ι:={ p:Nat×Nat×Bool // p.1<=A.length }) (λp=>⟨33,[(4,.one (.im (.sl ((n8 c).map Q6)))),(6,.one (.vec 2 p.1.2.1 0 ((A.take p.1.1).filter f).length)),(18,.one (.im (.sl (A.map j6)))),(19,iv (A.length:Int)),(20,iv (p.1.1:Int))],[.row ((i9 c).map .im),.vec 2 [] 0 true,.vec 2 (l6 (((A.take p.1.1).filter f).map j6)) p.1.2.1 p.1.2.2]⟩) (λp=>A.length-p.1.1) ⟨(0,0,true),by simp⟩ (zv [4,6,18,19,20] (by simp[l6])) ?_;rintro⟨⟨k,g,nl⟩,hk1⟩;simp only at hk1;simp only[iv];by_cases hlt:k<A.length
  ·have hw:=zk k;have hx0:A[k]?=some A[k]:=by simp[hlt]
   have hts:A.take (k+1)=A.take k++[A[k]]:=List.take_succ_eq_append_getElem hlt;have c4:=c3 A[k] (List.getElem_mem hlt);have hl1:=List.length_filter_le f (A.take k);rw[List.length_take] at hl1;generalize hx:A[k]=s at *;have e1:(A.take (k+1)).filter f=(A.take k).filter f++(if f s=true then [s] else []):=by
    rw[hts,List.filter_append];simp[List.filter_cons]
   generalize (A.take k).filter f=L at *;have hs:True:=trivial;cases hf:f s
   all_goals
    rw[hf] at c4;simp[hf] at e1;have hs:=za hx (za hx0 (za hlt hw));repeat' first|(with_reducible first|refine zz ?_|refine And.intro (by omega) ?_|refine zE Kj ?_)|simp -dsimp[hs]|refine CallE.embed [3] (c4) ?_ ?_ ?_ ?_ ?_ ?_;(focus simp[p7];done);(focus simp;done);(focus simp;done);(focus simp;done);(focus refine n4 ?_;simp[p7,o6];done);try simp -dsimp[n3,p7,hs]|refine j4 ?_ ?_<;>intro h<;>try exact h.elim
    all_goals try clear hs
   ·all_goals exact zn ⟨(k+1,g,nl),by simp only;omega⟩ (zw [4,6,18,19,20] 3 (by simp[e1]))
   ·all_goals exact zn ⟨(k+1,g+1,false),by simp only;omega⟩ (zw [4,6,18,19,20] 3 (by simp[e1]))
  ·obtain rfl:k=A.length:=by omega
   simp only[List.take_length];have hl1:=List.length_filter_le f A;generalize A.filter f=L at *;have hs:=hlt;repeat' first|(with_reducible first|refine zz ?_|refine zr ?_|refine zE Kj ?_)|simp -dsimp[hs]|refine j4 ?_ ?_<;>intro h<;>try exact h.elim
   all_goals try clear hs
   all_goals simp
 ·have hO:sR c=[]:=by unfold sR;rw[if_neg h0]
  rw[hO];simp only[n5,i9,D8,j6,Y6,rI,List.map_cons,List.map_nil] at c1 ⊢;have hs:=h0;repeat' first|(with_reducible first|refine zz ?_|refine zr ?_|refine zE Kj ?_)|simp -dsimp[hs]|refine zp c1 ?_|refine j4 ?_ ?_<;>intro h<;>try exact h.elim
  all_goals try clear hs
attribute [simp] p5 cr s6 w0 nilV H9 ZK
theorem ua (d i w:Int) (l:List Print):U8 d i w l≠[]:=by
 unfold U8;have hm:Z6 d i w l∈o9 (j9 (V2 d i w l++[Z6 d i w l])):=by
  rw[eZ];exact(List.mergeSort_perm _ _).mem_iff.2 (by simp)
 generalize o9 (j9 (V2 d i w l++[Z6 d i w l]))=D at *;rcases pz (λx=>decide (Z6 d i w l=x)) D with h|h
 ·intro e;have h2:=congrArg List.length e;rw[List.length_drop,List.length_nil] at h2;have hlp:0<D.length:=List.length_pos_of_mem hm;omega
 ·rw[h] at hm;simp at hm
theorem xY {c:Case} (he:q9 c=0) {k:Nat} (h1:k<c.pieces.length):H7 c k≠[]:=by
 obtain⟨hp0,hcb⟩:=H0 he;obtain⟨hn0,hpb,hr0⟩:=I3 hp0;have hok:=U5 hcb;have h2:k<c.loop.links.length:=by have:=hok.e;omega
 have hdm:=mK hr0 hcb h1 h2;have hq:=hcb;rw[Z0,Bool.and_eq_true,List.all_eq_true] at hq;have h3:k<(c.loop.links.zip c.pieces).length:=by rw[List.length_zip];omega
 have h4:=hq.2 _ (List.getElem_mem h3);rw[List.getElem_zip] at h4;simp only at h4;rw[mh hr0] at h4;obtain⟨_,_,_,hh,hd,_⟩:=h4;rw[pi h1 h2];unfold G0;have hA:J9 c.p c.pieces[k].day 1 c.pieces[k].holder c.loop.links[k].drawing=0:=by
  unfold J9 G3 sn;rw[if_neg,if_pos ⟨hh,hdm⟩];rw[if_neg (by simp[hp0]),if_pos (by simp at hd ⊢;omega)];simp
 rw[if_pos hA];exact ua _ _ _ _
theorem Ck {L:List L3} {so:Bool} {f:L3} (h:L≠[]):bU L so f≠[]:=by
 unfold bU;split
 ·simp
 ·exact h
theorem ql {L:List L3} {f:L3}:bU L true f≠[]:=by
 unfold bU;split
 ·simp
 ·rename_i h;have:f∈L:=Classical.byContradiction λh2=>h ⟨rfl,h2⟩;exact List.ne_nil_of_mem this
theorem vo {c:Case} {y:Link} {x:Piece} {o:Int} {L:List L3} {l:Int} (hx:x.lo<=x.hi):F6 c y x o L l≠[]:=by
 unfold F6;by_cases h1:yy c y x l=true
 ·rw[h1];exact Ck ql
 ·have h2:BF c y x l=true:=by
   unfold yy at h1;unfold BF;split at h1
   ·simp at h1
   ·rename_i z hz;simp only[hz,W8,Bool.and_eq_true,decide_eq_true_eq,Bool.not_eq_true',decide_eq_false_iff_not] at h1 ⊢;omega
  rw[h2];exact ql
theorem DX {c:Case} (he:q9 c=0) (s:List Int) {k:Nat} (h1:k<c.pieces.length):gD c s k≠[]:=by
 obtain⟨hp0,hcb⟩:=H0 he;have hok:=U5 hcb;have h2:k<c.loop.links.length:=by have:=hok.e;omega
 have hm:=xY he h1;have hp:=wN hok h1;unfold ak at hp;have hx0:c.pieces[k]?=some c.pieces[k]:=by simp[h1]
 have hy0:c.loop.links[k]?=some c.loop.links[k]:=by simp[h2]
 unfold gD;rw[hx0,hy0];simp only;generalize H7 c k=M at *;rw[<- List.dropLast_concat_getLast hm,List.foldl_append];exact vo hp.2.1
theorem pM {c:Case} (he:q9 c=0):∀ d∈n8 c,∀ x∈d.faults,x≠[]:=by
 intro d hd x hx;obtain⟨s,_,rfl⟩:=List.mem_map.1 hd;simp only[G1,List.mem_map,List.mem_range] at hx;obtain⟨k,hk,rfl⟩:=hx;exact DX he s hk
def cj:List Susp->List Susp->Int
 | [],[]=>0
 | [],_ :: _=>-1
 | _ :: _,[]=>1
 | a :: x,b :: y=>if jb a b≠0 then jb a b else cj x y
def zb (a b:List Susp):Int:=jc [(a.length:Int)-b.length,cj a b]
def ng (m x:List Susp):List Susp:=if zb x m<0 then x else m
def pc:List (List Susp)->List Susp
 | []=>[]
 | x :: r=>r.foldl ng x
def iR (l:List Susp):List IC:=[.sl (l.map j6)]
def lf (l:List Susp):Prop:=(∀ x∈l,eB x)/\l.length<100000
theorem AV (a b:Susp) (ha:eB a) (hb:eB b) (objs:List DObj):DCall prog G 61 [D8 a,D8 b] objs (λd o=>d=iv (jb a b)/\o=objs):=by
 refine DCall.frame ?_ (by simp) (by simp) objs;exact(tE a b ha hb).mono λd o h=>by rw[h.1];simp
@[simp] abbrev LL:List Nat:=[0,1,2,6,7,8,9,10,11,12,13,14,21,31,38]
theorem BQ (a b:List Susp) (ha:lf a) (hb:lf b):zP prog G 60 [B4 a,B4 b,.one (.im (.fn (.func 61) []))] (iv (cj a b)):=by
 refine zf func60 ntmps60 ?_;try simp only[iv]
 have hal:=ha.2;have hbl:=hb.2;simp only[B4];have hs:=trivial;repeat' first|(with_reducible first|refine zz ?_|refine zE LL ?_)|simp -dsimp[hs]
 refine i7 (ι:={ k:Nat // k<=a.length/\k<=b.length/\cj a b=cj (a.drop k) (b.drop k) }) (λp=>⟨39,[(0,.one (.im (.sl (a.map j6)))),(1,.one (.im (.sl (b.map j6)))),(2,.one (.im (.fn (.func 61) []))),(11,.one (.im (.sl (a.map j6)))),(12,iv (a.length:Int)),(13,iv (p.1:Int))],[]⟩) (λp=>a.length-p.1) ⟨0,by simp⟩ (zv [0,1,2,11,12,13]) ?_;rintro⟨k,hka,hkb,hE⟩;have hE2:=hE;simp only[iv];by_cases hlt:k<a.length
 ·have hw:=zk k;have hx0:a[k]?=some a[k]:=by simp[hlt]
  have hxt:=ha.1 a[k] (List.getElem_mem hlt);rw[List.drop_eq_getElem_cons hlt] at hE2;by_cases hlb:k<b.length
  ·have hlb':¬ (b.length:Int)<=k:=by omega
   have hy0:b[k]?=some b[k]:=by simp[hlb]
   have hyt:=hb.1 b[k] (List.getElem_mem hlb);rw[List.drop_eq_getElem_cons hlb,cj] at hE2;generalize hx:a[k]=x at *;generalize hy:b[k]=y at *;have c1:=AV (G:=G) x y hxt hyt;generalize jb x y=z at *;simp only[D8,j6,rI,List.map_cons,List.map_nil] at c1;by_cases hz:z=0
   ·rw[if_neg (by simp[hz])] at hE2;have hs:=za hx (za hx0 (za hy (za hy0 (za hlt (za hlb (za hlb' (za hw hz)))))));repeat' first|(with_reducible first|refine zz ?_|refine zE LL ?_)|simp -dsimp[hs]|refine zp c1 ?_|refine j4 ?_ ?_<;>intro h<;>try exact h.elim
    all_goals exact zn ⟨k+1,by omega,by omega,hE2⟩ (zw [0,1,2,11,12,13] 0)
   ·rw[if_pos hz] at hE2;have hs:=za hx (za hx0 (za hy (za hy0 (za hlt (za hlb (za hlb' (za hw hz)))))));repeat' first|(with_reducible first|refine zz ?_|refine zr ?_|refine zE LL ?_)|simp -dsimp[hs]|refine zp c1 ?_|refine j4 ?_ ?_<;>intro h<;>try exact h.elim
    all_goals simp[hE2]
  ·have hkb2:k=b.length:=by omega
   have hlb':(b.length:Int)<=k:=by omega
   rw[List.drop_eq_nil_of_le (by omega:b.length<=k),cj] at hE2;generalize hx:a[k]=x at *;have hs:=za hx (za hx0 (za hlt (za hlb (za hlb' hw))));repeat' first|(with_reducible first|refine zz ?_|refine zr ?_|refine zE LL ?_)|simp -dsimp[hs]|refine j4 ?_ ?_<;>intro h<;>try exact h.elim
   all_goals simp[hE2]
 ·have hka2:k=a.length:=by omega
  rw[List.drop_eq_nil_of_le (by omega)] at hE2;by_cases hlb:a.length<b.length
  ·have hlb':(a.length:Int)<b.length:=by omega
   rw[List.drop_eq_getElem_cons (by omega),cj] at hE2;have hs:=za hlt (za hlb hlb');repeat' first|(with_reducible first|refine zz ?_|refine zr ?_|refine zE LL ?_)|simp -dsimp[hs]|refine j4 ?_ ?_<;>intro h<;>try exact h.elim
   all_goals simp[hE2]
  ·have hlb':¬ (a.length:Int)<b.length:=by omega
   rw[List.drop_eq_nil_of_le (by omega),cj] at hE2;have hs:=za hlt (za hlb hlb');repeat' first|(with_reducible first|refine zz ?_|refine zr ?_|refine zE LL ?_)|simp -dsimp[hs]|refine j4 ?_ ?_<;>intro h<;>try exact h.elim
   all_goals simp[hE2]
attribute [simp] p5 cr s6 w0 nilV H9 ZK
theorem Ee (a b:List Susp) (ha:lf a) (hb:lf b):zP prog G 58 [B4 a,B4 b] (iv (zb a b)):=by
 refine zf func58 ntmps58 ?_;try simp only[iv]
 have hal:=ha.2;have hbl:=hb.2;have c1:=BQ (G:=G) a b ha hb;have c2:=CB (G:=G) [(a.length:Int)-b.length,cj a b] (by simp);have hE:zb a b=jc [(a.length:Int)-b.length,cj a b]:=rfl;rw[<- hE] at c2;have hw:IntKind.i64.wrap ((a.length:Int)-b.length)=(a.length:Int)-b.length:=r9 (by omega) (by omega);generalize cj a b=z at *;generalize zb a b=r at *;simp only[B4] at c1 ⊢;have hs:=hw;repeat' first|(with_reducible first|refine zz ?_|refine zr ?_|refine zE [0,1,4] ?_)|simp -dsimp[hs]|refine zp c1 ?_|refine zt c2 ?_ ?_ ?_;(focus simp;done);focus (simp;done)
@[simp] abbrev Ln:List Nat:=[0,1,4,5,6,9,17,27]
theorem Bi (L:List (List Susp)) (hne:L≠[]) (hl:L.length<1000000) (ht:∀ x∈L,lf x):zP prog G 108 [.one (.im (.sl (L.map iR))),.one (.im (.fn (.func 58) []))] (B4 (pc L)):=by
 refine zf func108 ntmps108 ?_;try simp only[iv]
 obtain⟨x0,r0,rfl⟩:∃ x r,L=x :: r:=by
  cases L with
  | nil=>exact absurd rfl hne
  | cons x r=>exact⟨x,r,rfl⟩
 have hE:pc (x0 :: r0)=((x0 :: r0).drop 1).foldl ng x0:=rfl;have hl1:¬ ((x0 :: r0).length:Int)<1:=by simp;omega
 have hlp:0<(x0 :: r0).length:=by simp
 have hx1:(x0 :: r0)[0]?=some x0:=rfl;have hx2:(x0 :: r0)[0]=x0:=rfl;have hm0:x0∈(x0 :: r0):=by simp
 have hk1:1<=(x0 :: r0).length:=hlp;generalize (x0 :: r0)=L at *;generalize pc L=res at *;simp only[B4];have hs:=za hl1 (za hx1 (za hx2 hlp));repeat' first|(with_reducible first|refine zz ?_|refine zE Ln ?_)|simp -dsimp[iR,hs]|refine j4 ?_ ?_<;>intro h<;>try exact h.elim
 refine i7 (ι:={ p:Nat×List Susp // 1<=p.1/\p.1<=L.length/\p.2∈L/\res=(L.drop p.1).foldl ng p.2 }) (λp=>⟨33,[(0,.one (.im (.sl (L.map iR)))),(1,.one (.im (.fn (.func 58) []))),(5,.one (.im (.sl (p.1.2.map j6)))),(6,iv (p.1.1:Int))],[]⟩) (λp=>L.length-p.1.1) ⟨(1,x0),Nat.le_refl _,hk1,hm0,hE⟩ (zw [0,1,5,6] 0) ?_;rintro⟨⟨k,m⟩,hk1',hk,hm,hE2⟩;simp only at hk1' hk hm hE2;simp only[iv];by_cases hlt:k<L.length
 ·have hlt':(k:Int)<L.length:=by omega
  have hw:=zk k;have hx:L[k]?=some L[k]:=by simp[hlt]
  have hmk:L[k]∈L:=List.getElem_mem hlt;rw[List.drop_eq_getElem_cons hlt,List.foldl_cons] at hE2;generalize hy:L[k]=y at *;have c1:=Ee (G:=G) y m (ht y hmk) (ht m hm);simp only[B4] at c1;unfold ng at hE2;by_cases hym:zb y m<0
  ·rw[if_pos hym] at hE2;have hs:=za hx (za hy (za hlt (za hlt' (za hw hym))));repeat' first|(with_reducible first|refine zz ?_|refine zE Ln ?_)|simp -dsimp[iR,hs]|refine zp c1 ?_|refine j4 ?_ ?_<;>intro h<;>try exact h.elim
   all_goals exact zn ⟨(k+1,y),by simp,by simp only;omega,hmk,hE2⟩ (zw [0,1,5,6] 0)
  ·rw[if_neg hym] at hE2;have hs:=za hx (za hy (za hlt (za hlt' (za hw hym))));repeat' first|(with_reducible first|refine zz ?_|refine zE Ln ?_)|simp -dsimp[iR,hs]|refine zp c1 ?_|refine j4 ?_ ?_<;>intro h<;>try exact h.elim
   all_goals exact zn ⟨(k+1,m),by simp,by simp only;omega,hm,hE2⟩ (zw [0,1,5,6] 0)
 ·have hlt':¬ (k:Int)<L.length:=by omega
  rw[List.drop_eq_nil_of_le (by omega)] at hE2;have hE3:res=m:=hE2;have hs:=za hlt hlt';repeat' first|(with_reducible first|refine zz ?_|refine zr ?_|refine zE Ln ?_)|simp -dsimp[hs]|refine j4 ?_ ?_<;>intro h<;>try exact h.elim
  all_goals simp[hE3]
theorem zH (L:List (List Susp)) (hne:L≠[]) (hl:L.length<1000000) (ht:∀ x∈L,lf x):zP prog G 57 [.one (.im (.sl (L.map iR))),.one (.im (.fn (.func 58) []))] (B4 (pc L)):=by
 refine zf func57 ntmps57 ?_;try simp only[iv]
 have c1:=Bi (G:=G) L hne hl ht;generalize pc L=r at *;simp only[B4] at c1 ⊢;repeat' first|(with_reducible first|refine zz ?_|refine zx ?_|refine zE [0,1,4] ?_)|simp -dsimp|refine zp c1 ?_
attribute [simp] p5 cr s6 w0 nilV H9 ZK
theorem vv {n:Nat} {d:Desk} (hd:DkOk n d) (hn:n<40000):lf (V4 d):=by
 have hdn:=hd.n;have hl:(V4 d).length<=1+2*n:=by
  have h1:=(L7 d.notes (cX d) (cZ d) d.faults.length).length_eq;have h2:=aR d.notes (cX d) (cZ d) d.faults.length;unfold V4;omega
 refine⟨λx hx=>?_,by omega⟩;unfold eB;rcases listS_mem.1 hx with⟨_,rfl⟩|⟨i,h1,_,rfl⟩|⟨i,h1,_,rfl⟩
 ·simp
 ·simp[uz];omega
 ·simp[vm];omega
def cY (D:List Desk) (k:Nat):List (List IC):=(((D.take k).map V4)).map iR
theorem rV {D:List Desk} {k:Nat} (h:k<D.length):cY D (k+1)=cY D k++[[.sl ((V4 D[k]).map j6)]]:=by
 unfold cY;rw[List.take_succ_eq_append_getElem h,List.map_append,List.map_append];rfl
theorem mA {D:List Desk} {k:Nat} (h:k<=D.length):(cY D k).length=k:=by simp[cY];omega
theorem vu (D:List Desk):cY D D.length=(D.map V4).map iR:=by simp[cY]
noncomputable def rU (c:Case):List Susp:=if G9 c=0 then pc ((n8 c).map V4) else []
@[simp] abbrev Kk:List Nat:=[0,1,2,3,4,5,6,8,15,17,18,19,20]
theorem vZ (c:Case) (hG:o4 G) (hN:C7 G) (hS:s8 G) (hU:S8 G) (hR:u3 G) (hC:I9 G) (hF:jh G) (hk:KC c):zP prog G 16 [n5 c] (.tup [B4 (rU c),iv (G9 c)]):=by
 refine zf func16 ntmps16 ?_;try simp only[iv]
 have c1:=dS (G:=G) c hG hN hS hR hC hk;have hq:=hk.q;by_cases h0:G9 c=0
 ·rw[h0,show ot c=n8 c by unfold ot;rw[if_pos h0]] at c1;have hdl:=bc (U6 h0).1;have c3:=λd (h:d∈n8 c)=>pA (G:=G) d c.pieces.length (Y7 hk d h) (by omega) (pM (U6 h0).1 d h) hF hU;have hO:rU c=pc ((n8 c).map V4):=by unfold rU;rw[if_pos h0]
  have c2:=zH (G:=G) ((n8 c).map V4) (by intro e;have:=congrArg List.length e;simp at this;rw[this] at hdl;simp at hdl) (by simp;omega) (λx hx=>by
   obtain⟨d,hd,rfl⟩:=List.mem_map.1 hx;exact vv (Y7 hk d hd) (by omega))
  rw[h0,hO];generalize pc ((n8 c).map V4)=res at *;generalize n8 c=D at *;simp only[n5,i9,ji,Y6,B4,List.map_cons,List.map_nil] at c1 c2 c3 ⊢;clear hO;have hs:=trivial;repeat' first|(with_reducible first|refine zz ?_|refine zE Kk ?_)|simp -dsimp[hs]|refine zp c1 ?_|refine j4 ?_ ?_<;>intro h<;>try exact h.elim
  all_goals try clear hs
  refine i7 (ι:={ p:Nat×Nat×Bool // p.1<=D.length }) (λp=>⟨31,[(6,.one (.vec 2 p.1.2.1 0 p.1.1)),(17,.one (.im (.sl (D.map Q6)))),(18,iv (D.length:Int)),(19,iv (p.1.1:Int))],[.row ((i9 c).map .im),.vec 2 [] 0 true,.vec 1 (l6 (cY D p.1.1)) p.1.2.1 p.1.2.2]⟩) (λp=>D.length-p.1.1) ⟨(0,0,true),by simp⟩ (zv [6,17,18,19] (by simp[l6,cY])) ?_;rintro⟨⟨k,g,nl⟩,hk1⟩;simp only at hk1;simp only[iv];by_cases hlt:k<D.length
  ·have hw:=zk k;have hx0:D[k]?=some D[k]:=by simp[hlt]
   have c4:=c3 D[k] (List.getElem_mem hlt);have e1:=rV hlt;have hll:=mA (D:=D) hk1;generalize hx:D[k]=d at *;generalize cY D k=L at *;generalize V4 d=f at *;have htk:List.take k (l6 L)=l6 L:=List.take_of_length_le (by simp[l6,hll]);have hs:=za hx (za hx0 (za hlt (za hw (za htk hll))));repeat' first|(with_reducible first|refine zz ?_|refine And.intro (by omega) ?_|refine zE Kk ?_)|simp -dsimp[hs]|refine zp c4 ?_|refine j4 ?_ ?_<;>intro h<;>try exact h.elim
   all_goals try clear hs
   all_goals exact zn ⟨(k+1,g+1,false),by simp only;omega⟩ (zw [6,17,18,19] 3 (by simp[e1,htk,hll,eR]))
  ·obtain rfl:k=D.length:=by omega
   have hll:=mA (D:=D) (Nat.le_refl _);rw[<- vu] at c2;generalize cY D D.length=L at *;have htk:List.take D.length (l6 L)=l6 L:=List.take_of_length_le (by simp[l6,hll]);have hs:=za hlt (za htk hll);repeat' first|(with_reducible first|refine zz ?_|refine zr ?_|refine zE Kk ?_)|simp -dsimp[hs]|refine CallE.freeze 0 (c2 []) ?_ ?_ ?_ ?_ ?_ ?_;(focus simp;done);(focus simp[htk,hll];done);(focus simp;done);(focus rfl);(focus simp;done);try simp -dsimp[s6]|refine j4 ?_ ?_<;>intro h<;>try exact h.elim
   all_goals try clear hs
 ·have hO:rU c=[]:=by unfold rU;rw[if_neg h0]
  rw[hO];simp only[n5,i9,Y6,List.map_cons,List.map_nil] at c1 ⊢;have hs:=h0;repeat' first|(with_reducible first|refine zz ?_|refine zr ?_|refine zE Kk ?_)|simp -dsimp[hs]|refine zp c1 ?_|refine j4 ?_ ?_<;>intro h<;>try exact h.elim
  all_goals try clear hs
end Go.Proofs
namespace Go.Ab
open Go
def eo (L:List L3):Int:=if (true,true)∈L then 2 else if (true,false)∈L\/(false,true)∈L then 1 else 0
def fL:List L3->Int->Int
 | [],n=>n
 | f :: r,n=>fL r (if f=(false,false) then n else if f=(true,true) then 2 else max n 1)
theorem X6:∀ (L:List L3) (n:Int),(n=0\/n=1\/n=2)->fL L n=if n=2\/(true,true)∈L then 2 else if n=1\/(true,false)∈L\/(false,true)∈L then 1 else 0
 | [],n,h=>by simp[fL];omega
 | ⟨a,b⟩ :: r,n,h=>by
   rw[fL];cases a<;>cases b
   ·rw[if_pos rfl,X6 r n h];simp
   ·rw[if_neg (by simp),if_neg (by simp),X6 r _ (by omega)];rcases h with rfl|rfl|rfl<;>simp[show max (0:Int) 1=1 from rfl,show max (1:Int) 1=1 from rfl,show max (2:Int) 1=2 from rfl]
   ·rw[if_neg (by simp),if_neg (by simp),X6 r _ (by omega)];rcases h with rfl|rfl|rfl<;>simp[show max (0:Int) 1=1 from rfl,show max (1:Int) 1=1 from rfl,show max (2:Int) 1=2 from rfl]
   ·rw[if_neg (by simp),if_pos rfl,X6 r _ (by omega)];simp
theorem rm (L:List L3):fL L 0=eo L:=by
 rw[X6 L 0 (.inl rfl)];unfold eo;simp
def eE (F:List (List L3)) (k:Nat):Int:=((F.take k).map eo).sum
def ep (d:Desk):Int:=(if d.notes=true then 1 else 0)+(d.faults.map eo).sum
theorem iG (L:List L3):0<=eo L/\eo L<=2:=by unfold eo;split<;>(try split)<;>omega
theorem lS {F:List (List L3)} {k:Nat} (h:k<F.length):eE F (k+1)=eE F k+eo F[k]:=by
 unfold eE;rw[List.take_succ_eq_append_getElem h,List.map_append,List.sum_append];simp
theorem jP (F:List (List L3)):∀ k:Nat,0<=eE F k/\eE F k<=2*k
 | 0=>by simp[eE]
 | k+1=>by
   have:=jP F k;by_cases h:k<F.length
   ·have h2:=iG F[k];rw[lS h];omega
   ·have:eE F (k+1)=eE F k:=by unfold eE;rw[List.take_of_length_le (by omega),List.take_of_length_le (by omega)]
    omega
def uL:List Int->Int
 | []=>0
 | x :: r=>r.foldl min x
def uM:List Int->Int
 | []=>0
 | x :: r=>r.foldl max x
end Go.Ab
namespace Go.Proofs
open Go Go.Ab
variable {G:IK}
attribute [simp] p5 cr s6 w0 nilV H9 ZK
theorem DA (L:List Int) (hne:L≠[]) (hl:L.length<1000000):zP Tryz.prog G 52 [A4 L] (iv (uL L)):=by
 refine zf Tryz.func52 Tryz.ntmps52 ?_;try simp only[A4]
 obtain⟨x0,r0,rfl⟩:∃ x r,L=x :: r:=by
  cases L with
  | nil=>exact absurd rfl hne
  | cons x r=>exact⟨x,r,rfl⟩
 have hE:uL (x0 :: r0)=((x0 :: r0).drop 1).foldl min x0:=rfl;have hl1:¬ ((x0 :: r0).length:Int)<1:=by simp;omega
 have hlp:0<(x0 :: r0).length:=by simp
 have hx1:(x0 :: r0)[0]?=some x0:=rfl;have hx2:(x0 :: r0)[0]=x0:=rfl;have hk1:1<=(x0 :: r0).length:=hlp;generalize (x0 :: r0)=L at *;generalize uL L=res at *;have hs:=za hl1 (za hx1 (za hx2 hlp));repeat' first|(with_reducible first|refine zz ?_|refine zE [0,2,3,4,7,15] ?_)|simp -dsimp[hs]|refine j4 ?_ ?_<;>intro h<;>try exact h.elim
 refine i7 (ι:={ p:Nat×Int // 1<=p.1/\p.1<=L.length/\res=(L.drop p.1).foldl min p.2 }) (λp=>⟨25,[(0,A4 L),(3,iv p.1.2),(4,iv (p.1.1:Int))],[]⟩) (λp=>L.length-p.1.1) ⟨(1,x0),Nat.le_refl _,hk1,hE⟩ (zw [0,3,4] 0) ?_;rintro⟨⟨k,m⟩,hk1',hk,hE2⟩;simp only at hk1' hk hE2;simp only[iv,A4];by_cases hlt:k<L.length
 ·have hlt':(k:Int)<L.length:=by omega
  have hw:=zk k;have hx:L[k]?=some L[k]:=by simp[hlt]
  rw[List.drop_eq_getElem_cons hlt,List.foldl_cons] at hE2;generalize hy:L[k]=y at *;have hs:=za hx (za hy (za hlt (za hlt' hw)));repeat' first|(with_reducible first|refine zz ?_|refine zE [0,2,3,4,7,15] ?_)|simp -dsimp[hs]|refine j4 ?_ ?_<;>intro h<;>try exact h.elim
  all_goals exact zn ⟨(k+1,min m y),by simp,by simp only;omega,hE2⟩ (zw [0,3,4] 0)
 ·have hlt':¬ (k:Int)<L.length:=by omega
  rw[List.drop_eq_nil_of_le (by omega)] at hE2;have hE3:res=m:=hE2;have hs:=za hlt hlt';repeat' first|(with_reducible first|refine zz ?_|refine zr ?_|refine zE [0,2,3,4,7,15] ?_)|simp -dsimp[hs]|refine j4 ?_ ?_<;>intro h<;>try exact h.elim
  all_goals simp[hE3]
theorem DD (L:List Int) (hne:L≠[]) (hl:L.length<1000000):zP Tryz.prog G 53 [A4 L] (iv (uM L)):=by
 refine zf Tryz.func53 Tryz.ntmps53 ?_;try simp only[A4]
 obtain⟨x0,r0,rfl⟩:∃ x r,L=x :: r:=by
  cases L with
  | nil=>exact absurd rfl hne
  | cons x r=>exact⟨x,r,rfl⟩
 have hE:uM (x0 :: r0)=((x0 :: r0).drop 1).foldl max x0:=rfl;have hl1:¬ ((x0 :: r0).length:Int)<1:=by simp;omega
 have hlp:0<(x0 :: r0).length:=by simp
 have hx1:(x0 :: r0)[0]?=some x0:=rfl;have hx2:(x0 :: r0)[0]=x0:=rfl;have hk1:1<=(x0 :: r0).length:=hlp;generalize (x0 :: r0)=L at *;generalize uM L=res at *;have hs:=za hl1 (za hx1 (za hx2 hlp));repeat' first|(with_reducible first|refine zz ?_|refine zE [0,2,3,4,7,15] ?_)|simp -dsimp[hs]|refine j4 ?_ ?_<;>intro h<;>try exact h.elim
 refine i7 (ι:={ p:Nat×Int // 1<=p.1/\p.1<=L.length/\res=(L.drop p.1).foldl max p.2 }) (λp=>⟨25,[(0,A4 L),(3,iv p.1.2),(4,iv (p.1.1:Int))],[]⟩) (λp=>L.length-p.1.1) ⟨(1,x0),Nat.le_refl _,hk1,hE⟩ (zw [0,3,4] 0) ?_;rintro⟨⟨k,m⟩,hk1',hk,hE2⟩;simp only at hk1' hk hE2;simp only[iv,A4];by_cases hlt:k<L.length
 ·have hlt':(k:Int)<L.length:=by omega
  have hw:=zk k;have hx:L[k]?=some L[k]:=by simp[hlt]
  rw[List.drop_eq_getElem_cons hlt,List.foldl_cons] at hE2;generalize hy:L[k]=y at *;have hs:=za hx (za hy (za hlt (za hlt' hw)));repeat' first|(with_reducible first|refine zz ?_|refine zE [0,2,3,4,7,15] ?_)|simp -dsimp[hs]|refine j4 ?_ ?_<;>intro h<;>try exact h.elim
  all_goals exact zn ⟨(k+1,max m y),by simp,by simp only;omega,hE2⟩ (zw [0,3,4] 0)
 ·have hlt':¬ (k:Int)<L.length:=by omega
  rw[List.drop_eq_nil_of_le (by omega)] at hE2;have hE3:res=m:=hE2;have hs:=za hlt hlt';repeat' first|(with_reducible first|refine zz ?_|refine zr ?_|refine zE [0,2,3,4,7,15] ?_)|simp -dsimp[hs]|refine j4 ?_ ?_<;>intro h<;>try exact h.elim
  all_goals simp[hE3]
def ya (D:List Desk) (k:Nat):List Int:=(D.take k).map λd=>((V4 d).length:Int)
def yv (D:List Desk) (k:Nat):List Int:=(D.take k).map ep
theorem xZ {D:List Desk} {k:Nat} (h:k<D.length):ya D (k+1)=ya D k++[((V4 D[k]).length:Int)]:=by
 unfold ya;rw[List.take_succ_eq_append_getElem h,List.map_append];rfl
theorem yu {D:List Desk} {k:Nat} (h:k<D.length):yv D (k+1)=yv D k++[ep D[k]]:=by
 unfold yv;rw[List.take_succ_eq_append_getElem h,List.map_append];rfl
theorem tG {D:List Desk} {k:Nat} (h:k<=D.length):(ya D k).length=k:=by simp[ya];omega
theorem tJ {D:List Desk} {k:Nat} (h:k<=D.length):(yv D k).length=k:=by simp[yv];omega
theorem uJ (d:Desk) (z:Int) (h:(if d.notes=true then 1 else 0)=z):z+eE d.faults d.faults.length=ep d:=by
 unfold ep eE;rw[List.take_length,h]
noncomputable def nY (c:Case):Int×Int:=if G9 c=0 then (uL ((n8 c).map λd=>((V4 d).length:Int)),uM ((n8 c).map ep)) else (0,0)
@[simp] abbrev Lz:List Nat:=[0,1,2,3,4,5,6,7,9,10,12,13,15,22,25,26,27,28,34,38,39,40,41,44,45,46,47,52,60]
@[simp] abbrev Kl:List Nat:=[2,3,6,7,9,10,13,25,26,27,38,39,40,44,45,46]
theorem qh (c:Case) (hG:o4 G) (hN:C7 G) (hS:s8 G) (hU:S8 G) (hR:u3 G) (hC:I9 G) (hF:jh G) (hk:KC c):zP Tryz.prog G 13 [n5 c] (.tup [D3 (nY c).1 (nY c).2,iv (G9 c)]):=by
 refine zf Tryz.func13 Tryz.ntmps13 ?_;try simp only[iv]
 have g1:G 0=some [.raw (.bool false),.raw (.bool false)]:=hF.1;have c1:=dS (G:=G) c hG hN hS hR hC hk;have hq:=hk.q;by_cases h0:G9 c=0
 ·rw[h0,show ot c=n8 c by unfold ot;rw[if_pos h0]] at c1;have hdl:=bc (U6 h0).1;have hdk:=Y7 hk;have c3:=λd (h:d∈n8 c)=>pA (G:=G) d c.pieces.length (Y7 hk d h) (by omega) (pM (U6 h0).1 d h) hF hU;have hO:nY c=(uL ((n8 c).map λd=>((V4 d).length:Int)),uM ((n8 c).map ep)):=by unfold nY;rw[if_pos h0]
  have hne:∀ f:Desk->Int,(n8 c).map f≠[]:=λf e=>by have:=congrArg List.length e;simp at this;rw[this] at hdl;simp at hdl
  have c4:=DA (G:=G) ((n8 c).map λd=>((V4 d).length:Int)) (hne _) (by simp;omega);have c5:=DD (G:=G) ((n8 c).map ep) (hne _) (by simp;omega);rw[h0,hO];generalize uL ((n8 c).map λd=>((V4 d).length:Int))=r1 at *;generalize uM ((n8 c).map ep)=r2 at *;clear hne hO;generalize n8 c=D at *;simp only[n5,i9,ji,Y6,B4,List.map_cons,List.map_nil] at c1 c3 ⊢;have hs:=trivial;repeat' first|(with_reducible first|refine zz ?_|refine zE Lz ?_)|simp -dsimp[hs]|refine zp c1 ?_|refine j4 ?_ ?_<;>intro h<;>try exact h.elim
  all_goals try clear hs
  refine i7 (ι:={ p:Nat×Nat×Bool×Nat×Bool // p.1<=D.length }) (λp=>⟨82,[(2,.one (.ptr 1 0)),(3,iv 0),(6,.one (.vec 2 p.1.2.1 0 p.1.1)),(7,.one (.vec 3 p.1.2.2.2.1 0 p.1.1)),(25,.one (.im (.sl (D.map Q6)))),(26,iv (D.length:Int)),(27,iv (p.1.1:Int))],[.row ((i9 c).map .im),.row [.im (rI 0),.im (rI 0)],.vec 1 (l6 ((ya D p.1.1).map Ab.encI)) p.1.2.1 p.1.2.2.1,.vec 1 (l6 ((yv D p.1.1).map Ab.encI)) p.1.2.2.2.1 p.1.2.2.2.2]⟩) (λp=>D.length-p.1.1) ⟨(0,0,true,0,true),by simp⟩ (zv [2,3,6,7,25,26,27] (by simp[l6,ya,yv])) ?_;rintro⟨⟨k,ga,na,gb,nb⟩,hk1⟩;simp only at hk1;simp only[iv];by_cases hlt:k<D.length
  ·have hw:=zk k;have hx0:D[k]?=some D[k]:=by simp[hlt]
   have c6:=c3 D[k] (List.getElem_mem hlt);have hdd:=hdk D[k] (List.getElem_mem hlt);have e1:=xZ hlt;have e2:=yu hlt;have hl1:=tG (D:=D) hk1;have hl2:=tJ (D:=D) hk1;generalize hx:D[k]=d at *;generalize ya D k=L1 at *;generalize yv D k=L2 at *;have hma:=uJ d;have hF0:eE d.faults 0=0:=by simp[eE]
   have hdn:=hdd.n;have htk1:List.take k (l6 (L1.map Ab.encI))=l6 (L1.map Ab.encI):=List.take_of_length_le (by simp[l6,hl1]);have htk2:List.take k (l6 (L2.map Ab.encI))=l6 (L2.map Ab.encI):=List.take_of_length_le (by simp[l6,hl2]);generalize V4 d=fl at *;simp only[ah,P1] at c6;obtain⟨Z,hZ⟩:∃ Z:Int,(if d.notes=true then 1 else 0)=Z:=⟨_,rfl⟩
   have hma:=hma Z hZ;have hZr:0<=Z/\Z<=1:=by rw[<- hZ];split<;>omega
   have hs:True:=trivial;cases hnt:d.notes
   all_goals
    rw[hnt] at hZ;simp only[Bool.false_eq_true,if_false,if_true] at hZ;replace hZ:=hZ.symm;have hs:=za hx (za hx0 (za hlt hnt));repeat' first|(with_reducible first|refine zz ?_|refine zE Lz ?_)|simp -dsimp[Q6,ah,P1,hs]|refine j4 ?_ ?_<;>intro h<;>try exact h.elim
    all_goals try clear hs
   all_goals
    refine i7 (ι:={ q:Nat // q<=d.faults.length }) (λq=>⟨82,[(2,.one (.ptr 1 0)),(3,iv 0),(6,.one (.vec 2 ga 0 k)),(7,.one (.vec 3 gb 0 k)),(9,.one (.im (.ip (i9 d.c++[.raw (.bool d.notes),.sl (d.faults.map H3)])))),(10,iv (Z+eE d.faults q.1)),(25,.one (.im (.sl (D.map Q6)))),(26,iv (D.length:Int)),(27,iv (k:Int)),(38,.one (.im (.sl (d.faults.map H3)))),(39,iv (d.faults.length:Int)),(40,iv (q.1:Int))],[.row ((i9 c).map .im),.row [.im (rI 0),.im (rI 0)],.vec 1 (l6 (L1.map Ab.encI)) ga na,.vec 1 (l6 (L2.map Ab.encI)) gb nb]⟩) (λq=>d.faults.length-q.1) ⟨0,by simp⟩ (zv [2,3,6,7,9,10,25,26,27,38,39,40] (by simp[hnt,hF0,hZ])) ?_;clear hnt hZ;rintro⟨q,hq1⟩;simp only[iv];have hsr:=jP d.faults q;by_cases hlq:q<d.faults.length
    ·have hwq:=zk q;have hy0:d.faults[q]?=some d.faults[q]:=by simp[hlq]
     have hst:=lS hlq;have hfl:=hdd.l _ (List.getElem_mem hlq);generalize hy:d.faults[q]=y at *;have hmz:=rm y;have hmr:=iG y;generalize eE d.faults q=S at *;have hwS:IntKind.i64.wrap (Z+S+eo y)=Z+S+eo y:=r9 (by omega) (by omega);rw[<- hmz] at hst hwS;clear hmz hmr;have hs:=za hy (za hy0 hlq);repeat' first|(with_reducible first|refine zz ?_|refine zE Lz ?_)|simp -dsimp[hs]|refine j4 ?_ ?_<;>intro h<;>try exact h.elim
     all_goals try clear hs
     refine i7 (ι:={ p:Nat×Int // p.1<=y.length/\(p.2=0\/p.2=1\/p.2=2)/\fL y 0=fL (y.drop p.1) p.2 }) (λp=>⟨82,[(2,.one (.ptr 1 0)),(3,iv 0),(6,.one (.vec 2 ga 0 k)),(7,.one (.vec 3 gb 0 k)),(9,.one (.im (.ip (i9 d.c++[.raw (.bool d.notes),.sl (d.faults.map H3)])))),(10,iv (Z+S)),(13,iv p.1.2),(25,.one (.im (.sl (D.map Q6)))),(26,iv (D.length:Int)),(27,iv (k:Int)),(38,.one (.im (.sl (d.faults.map H3)))),(39,iv (d.faults.length:Int)),(40,iv (q:Int)),(44,.one (.im (.sl (y.map B7)))),(45,iv (y.length:Int)),(46,iv (p.1.1:Int))],[.row ((i9 c).map .im),.row [.im (rI 0),.im (rI 0)],.vec 1 (l6 (L1.map Ab.encI)) ga na,.vec 1 (l6 (L2.map Ab.encI)) gb nb]⟩) (λp=>y.length-p.1.1) ⟨(0,0),by simp⟩ (zv [2,3,6,7,9,10,13,25,26,27,38,39,40,44,45,46]) ?_;rintro⟨⟨j,n⟩,hj,hn3,hE⟩;simp only at hj hn3 hE;simp only[iv];by_cases hlj:j<y.length
     ·have hwj:=zk j;have hv0:y[j]?=some y[j]:=by simp[hlj]
      have hE2:=hE;rw[List.drop_eq_getElem_cons hlj,fL] at hE2;generalize hv:y[j]=v at *;obtain⟨v1,v2⟩:=v;have hm1:max n 1=1\/max n 1=2:=by omega
      have hs:True:=trivial;cases v1<;>cases v2
      all_goals
       simp at hE2;have hs:=za hv (za hv0 (za hlj (za hwj g1)));repeat' first|(with_reducible first|refine zz ?_|refine zE Lz ?_)|simp -dsimp[hs]|refine j4 ?_ ?_<;>intro h<;>try exact h.elim
       all_goals try clear hs
      ·exact zn ⟨(j+1,n),by omega,hn3,hE2⟩ (zw Kl 4)
      ·exact zn ⟨(j+1,max n 1),by omega,by omega,hE2⟩ (zw Kl 4)
      ·exact zn ⟨(j+1,max n 1),by omega,by omega,hE2⟩ (zw Kl 4)
      ·exact zn ⟨(j+1,2),by omega,.inr (.inr rfl),hE2⟩ (zw Kl 4)
     ·have hE2:=hE;rw[List.drop_eq_nil_of_le (by omega)] at hE2;have hE3:fL y 0=n:=hE2;rw[hE3] at hst hwS;have hs:=za hlj (za hwq hwS);repeat' first|(with_reducible first|refine zz ?_|refine zE Lz ?_)|simp -dsimp[hs]|refine j4 ?_ ?_<;>intro h<;>try exact h.elim
      all_goals try clear hs
      all_goals exact zn ⟨q+1,by omega⟩ (zw [2,3,6,7,9,10,25,26,27,38,39,40] 4 (by simp[hst,Int.add_assoc]))
    ·obtain rfl:q=d.faults.length:=by omega
     rw[hma];generalize ep d=M at *;have hs:=za hlq (za hw (za htk1 (za htk2 (za hl1 hl2))));repeat' first|(with_reducible first|refine zz ?_|refine And.intro (by omega) ?_|refine zE Lz ?_)|simp -dsimp[hs]|refine zp c6 ?_|refine j4 ?_ ?_<;>intro h<;>try exact h.elim
     all_goals try clear hs
     all_goals exact zn ⟨(k+1,ga+1,false,gb+1,false),by simp only;omega⟩ (zw [2,3,6,7,25,26,27] 4 (by simp[e1,e2,htk1,htk2,hl1,hl2]))
  ·obtain rfl:k=D.length:=by omega
   have hl1:=tG (D:=D) hk1;have hl2:=tJ (D:=D) hk1;have hE1:(D.map λd=>((V4 d).length:Int))=ya D D.length:=by simp[ya]
   have hE2:D.map ep=yv D D.length:=by simp[yv]
   rw[hE1] at c4;rw[hE2] at c5;generalize ya D D.length=L1 at *;generalize yv D D.length=L2 at *;have htk1:List.take D.length (l6 (L1.map Ab.encI))=l6 (L1.map Ab.encI):=List.take_of_length_le (by simp[l6,hl1]);have htk2:List.take D.length (l6 (L2.map Ab.encI))=l6 (L2.map Ab.encI):=List.take_of_length_le (by simp[l6,hl2]);simp only[A4] at c4 c5;have hs:=za hlt (za htk1 (za htk2 (za hl1 hl2)));repeat' first|(with_reducible first|refine zz ?_|refine zr ?_|refine zE Lz ?_)|simp -dsimp[hs]|refine CallE.thaw c4 ?_ ?_ ?_;(focus simp[htk1,hl1];done);(focus simp;done)|refine CallE.thaw c5 ?_ ?_ ?_;(focus simp[htk2,hl2];done);(focus simp;done)|refine j4 ?_ ?_<;>intro h<;>try exact h.elim
   all_goals try clear hs
 ·have hO:nY c=(0,0):=by unfold nY;rw[if_neg h0]
  rw[hO];simp only[n5,i9,Y6,D3,List.map_cons,List.map_nil] at c1 ⊢;have hs:=h0;repeat' first|(with_reducible first|refine zz ?_|refine zr ?_|refine zE Lz ?_)|simp -dsimp[hs]|refine zp c1 ?_|refine j4 ?_ ?_<;>intro h<;>try exact h.elim
  all_goals try clear hs
end Go.Proofs
namespace Go.Ab
open Go
end Go.Ab
namespace Go.Proofs
open Go Go.Ab
variable {G:IK}
attribute [simp] p5 cr s6 w0 nilV H9 ZK
end Go.Proofs
namespace Go.Proofs
open Go Go.Ab
variable {G:IK}
attribute [simp] p5 cr s6 w0 nilV H9 ZK
open Go Go.Ab Tryz
attribute [simp] p5 cr s6 w0 nilV H9 ZK
@[simp] abbrev Lu:List Nat:=[0,1,4,5,10,14,25]
theorem lY (l:List Susp) (hl:l.length<100000):zP prog G 24 [B4 l,B4 l] (bv true):=by
 refine zf func24 ntmps24 ?_;try simp only[iv]
 simp only[B4];have hs:=trivial;repeat' first|(with_reducible first|refine zz ?_|refine zE Lu ?_)|simp -dsimp[hs]|refine j4 ?_ ?_<;>intro h<;>try exact h.elim
 refine i7 (ι:={ k:Nat // k<=l.length }) (λp=>⟨26,[(0,.one (.im (.sl (l.map j6)))),(1,.one (.im (.sl (l.map j6)))),(5,iv (p.1:Int))],[]⟩) (λp=>l.length-p.1) ⟨0,by simp⟩ (zv [0,1,5]) ?_;rintro⟨k,hk⟩;simp only[iv];by_cases hlt:k<l.length
 ·have hlt':(k:Int)<l.length:=by omega
  have hw:=zk k;generalize hx:l[k]=x at *;have hs:=za hx (za hlt (za hlt' hw));repeat' first|with_reducible refine zz ?_|simp -dsimp[hs]|refine zM 6 26 9 Lu ?_|with_reducible refine zE Lu ?_|refine j4 ?_ ?_<;>intro h<;>try exact h.elim
  all_goals exact zn ⟨k+1,by omega⟩ (zv [0,1,5])
 ·obtain rfl:k=l.length:=by omega
  have hlt':¬ (l.length:Int)<l.length:=by omega
  have hs:=za hlt hlt';repeat' first|(with_reducible first|refine zz ?_|refine zr ?_|refine zE Lu ?_)|simp -dsimp[hs]|refine j4 ?_ ?_<;>intro h<;>try exact h.elim
attribute [simp] p5 cr s6 w0 nilV H9 ZK
attribute [simp] p5 cr s6 w0 nilV H9 ZK
structure TrOk (c:Case) (T:List (List Int)):Prop where
 h:∀ t∈T,H1 (j9 (l8 c.p.n.notes)) t=true/\t.length<1000
 l:T.length<=32
 p:1<=T.length
attribute [simp] p5 cr s6 w0 nilV H9 ZK
end Go.Proofs
namespace Go.Ab
open Go
abbrev Q4:=DObj×DObj×DObj×DObj
abbrev Q2:=DObj×DObj
def D9 (F:Nat->Q4):Nat->List DObj
 | 0=>[]
 | n+1=>D9 F n++[(F n).1,(F n).2.1,(F n).2.2.1,(F n).2.2.2]
def G4 (F:Nat->Q2):Nat->List DObj
 | 0=>[]
 | n+1=>G4 F n++[(F n).1,(F n).2]
@[simp] theorem dJ (F:Nat->Q4):∀ n,(D9 F n).length=4*n
 | 0=>rfl
 | n+1=>by simp[D9,dJ F n];omega
@[simp] theorem dK (F:Nat->Q2):∀ n,(G4 F n).length=2*n
 | 0=>rfl
 | n+1=>by simp[G4,dK F n];omega
theorem gV (F:Nat->Q4) {i j:Nat} (hj:j<4):∀ {n},i<n->(D9 F n)[4*i+j]?=[(F i).1,(F i).2.1,(F i).2.2.1,(F i).2.2.2][j]?
 | n+1,h=>by
   rw[D9];rcases Nat.eq_or_lt_of_le (Nat.le_of_lt_succ h) with rfl|h1
   ·rw[List.getElem?_append_right (by simp),dJ,Nat.add_sub_cancel_left]
   ·rw[List.getElem?_append_left (by simp;omega)];exact gV F hj h1
theorem my (F:Nat->Q2) {i j:Nat} (hj:j<2):∀ {n},i<n->(G4 F n)[2*i+j]?=[(F i).1,(F i).2][j]?
 | n+1,h=>by
   rw[G4];rcases Nat.eq_or_lt_of_le (Nat.le_of_lt_succ h) with rfl|h1
   ·rw[List.getElem?_append_right (by simp),dK,Nat.add_sub_cancel_left]
   ·rw[List.getElem?_append_left (by simp;omega)];exact my F hj h1
@[simp] theorem mt (f:DObj->DObj) (F:Nat->Q4):∀ n,(D9 F n).map f=D9 (λk=>(f (F k).1,f (F k).2.1,f (F k).2.2.1,f (F k).2.2.2)) n
 | 0=>rfl
 | n+1=>by simp[D9,mt f F n]
@[simp] theorem mw (f:DObj->DObj) (F:Nat->Q2):∀ n,(G4 F n).map f=G4 (λk=>(f (F k).1,f (F k).2)) n
 | 0=>rfl
 | n+1=>by simp[G4,mw f F n]
theorem cU {F H:Nat->Q4}:∀ {n},(∀ k,k<n->F k=H k)->D9 F n=D9 H n
 | 0,_=>rfl
 | n+1,h=>by rw[D9,D9,cU λk hk=>h k (by omega),h n (by omega)]
theorem cV {F H:Nat->Q2}:∀ {n},(∀ k,k<n->F k=H k)->G4 F n=G4 H n
 | 0,_=>rfl
 | n+1,h=>by rw[G4,G4,cV λk hk=>h k (by omega),h n (by omega)]
@[simp] theorem mu (F:Nat->Q4) (n j:Nat) (R:List DObj):(D9 F n++R)[4*n+j]?=R[j]?:=by
 rw[List.getElem?_append_right (by simp),dJ,Nat.add_sub_cancel_left]
@[simp] theorem Eb (F:Nat->Q4) (n:Nat) (R:List DObj):(D9 F n++R)[4*n]?=R[0]?:=by
 have:=mu F n 0 R;simpa using this
@[simp] theorem Ea (F:Nat->Q4) (n a j:Nat) (R:List DObj):(D9 F n++R)[4*n+a+j]?=R[a+j]?:=by
 rw[Nat.add_assoc,mu]
@[simp] theorem vr (F:Nat->Q2) (n j:Nat) (R:List DObj):(G4 F n++R)[2*n+j]?=R[j]?:=by
 rw[List.getElem?_append_right (by simp),dK,Nat.add_sub_cancel_left]
@[simp] theorem Ed (F:Nat->Q2) (n:Nat) (R:List DObj):(G4 F n++R)[2*n]?=R[0]?:=by
 have:=vr F n 0 R;simpa using this
@[simp] theorem rR (F:Nat->Q4) (n j:Nat) (R:List DObj) (d:DObj):(D9 F n++R).set (4*n+j) d=D9 F n++R.set j d:=by
 rw[List.set_append_right _ _ (by simp),dJ,Nat.add_sub_cancel_left]
@[simp] theorem CG (F:Nat->Q4) (n a j:Nat) (R:List DObj) (d:DObj):(D9 F n++R).set (4*n+a+j) d=D9 F n++R.set (a+j) d:=by
 rw[Nat.add_assoc,rR]
@[simp] theorem Ec (F:Nat->Q2) (n j:Nat) (R:List DObj) (d:DObj):(G4 F n++R).set (2*n+j) d=G4 F n++R.set j d:=by
 rw[List.set_append_right _ _ (by simp),dK,Nat.add_sub_cancel_left]
end Go.Ab
namespace Go.Proofs
open Go Go.Ab
variable {G:IK}
def D5 (P:Program) (G:IK) (f sz:Nat) (l:List (List IC)):Prop:=DCall P G f [.one (.im (.sl l))] [] (λd o=>∃ i:Nat×Bool,(i.2=true->l=[])/\d=.one (.vec 1 i.1 0 l.length)/\o=[.vec sz [] 0 true,.vec sz (l6 l) i.1 i.2])
theorem Gy (l:List Issue) (hl:l.length<1000):D5 Tryz.prog G 124 5 (l.map h9):=by
 unfold D5;refine g9 Tryz.func124 rfl Tryz.ntmps124 (by simp) rfl ?_;repeat' first|(with_reducible first|refine zz ?_|refine And.intro (by omega) ?_|refine zx ?_|refine zE [0,2,4] ?_)|simp -dsimp|refine j4 ?_ ?_<;>intro h<;>try exact h.elim|with_reducible refine R2 (λh=>?_);(try simp only[List.map_eq_nil_iff] at h);(try subst h);try simp -dsimp|with_reducible refine And.intro ?_ ?_
theorem Ei (l:List Note) (hl:l.length<1000):D5 Tryz.prog G 125 10 (l.map j8):=by
 unfold D5;refine g9 Tryz.func125 rfl Tryz.ntmps125 (by simp) rfl ?_;repeat' first|(with_reducible first|refine zz ?_|refine And.intro (by omega) ?_|refine zx ?_|refine zE [0,2,4] ?_)|simp -dsimp|refine j4 ?_ ?_<;>intro h<;>try exact h.elim|with_reducible refine R2 (λh=>?_);(try simp only[List.map_eq_nil_iff] at h);(try subst h);try simp -dsimp|with_reducible refine And.intro ?_ ?_
theorem Gx (l:List Itm) (hl:l.length<1000):D5 Tryz.prog G 126 2 (l.map v6):=by
 unfold D5;refine g9 Tryz.func126 rfl Tryz.ntmps126 (by simp) rfl ?_;repeat' first|(with_reducible first|refine zz ?_|refine And.intro (by omega) ?_|refine zx ?_|refine zE [0,2,4] ?_)|simp -dsimp|refine j4 ?_ ?_<;>intro h<;>try exact h.elim|with_reducible refine R2 (λh=>?_);(try simp only[List.map_eq_nil_iff] at h);(try subst h);try simp -dsimp|with_reducible refine And.intro ?_ ?_
theorem GA (l:List Dim) (hl:l.length<1000):D5 Tryz.prog G 127 3 (l.map B9):=by
 unfold D5;refine g9 Tryz.func127 rfl Tryz.ntmps127 (by simp) rfl ?_;repeat' first|(with_reducible first|refine zz ?_|refine And.intro (by omega) ?_|refine zx ?_|refine zE [0,2,4] ?_)|simp -dsimp|refine j4 ?_ ?_<;>intro h<;>try exact h.elim|with_reducible refine R2 (λh=>?_);(try simp only[List.map_eq_nil_iff] at h);(try subst h);try simp -dsimp|with_reducible refine And.intro ?_ ?_
theorem Ek (l:List Holder) (hl:l.length<1000):D5 Tryz.prog G 128 4 (l.map n7):=by
 unfold D5;refine g9 Tryz.func128 rfl Tryz.ntmps128 (by simp) rfl ?_;repeat' first|(with_reducible first|refine zz ?_|refine And.intro (by omega) ?_|refine zx ?_|refine zE [0,2,4] ?_)|simp -dsimp|refine j4 ?_ ?_<;>intro h<;>try exact h.elim|with_reducible refine R2 (λh=>?_);(try simp only[List.map_eq_nil_iff] at h);(try subst h);try simp -dsimp|with_reducible refine And.intro ?_ ?_
theorem BR (l:List Print) (hl:l.length<1000):D5 Tryz.prog G 129 7 (l.map p6):=by
 unfold D5;refine g9 Tryz.func129 rfl Tryz.ntmps129 (by simp) rfl ?_;repeat' first|(with_reducible first|refine zz ?_|refine And.intro (by omega) ?_|refine zx ?_|refine zE [0,2,4] ?_)|simp -dsimp|refine j4 ?_ ?_<;>intro h<;>try exact h.elim|with_reducible refine R2 (λh=>?_);(try simp only[List.map_eq_nil_iff] at h);(try subst h);try simp -dsimp|with_reducible refine And.intro ?_ ?_
theorem Gz (l:List Int) (hl:l.length<1000):D5 Tryz.prog G 130 1 (l.map Ab.encI):=by
 unfold D5;refine g9 Tryz.func130 rfl Tryz.ntmps130 (by simp) rfl ?_;repeat' first|(with_reducible first|refine zz ?_|refine And.intro (by omega) ?_|refine zx ?_|refine zE [0,2,4] ?_)|simp -dsimp|refine j4 ?_ ?_<;>intro h<;>try exact h.elim|with_reducible refine R2 (λh=>?_);(try simp only[List.map_eq_nil_iff] at h);(try subst h);try simp -dsimp|with_reducible refine And.intro ?_ ?_
theorem Ej (l:List Link) (hl:l.length<1000):D5 Tryz.prog G 131 3 (l.map D6):=by
 unfold D5;refine g9 Tryz.func131 rfl Tryz.ntmps131 (by simp) rfl ?_;repeat' first|(with_reducible first|refine zz ?_|refine And.intro (by omega) ?_|refine zx ?_|refine zE [0,2,4] ?_)|simp -dsimp|refine j4 ?_ ?_<;>intro h<;>try exact h.elim|with_reducible refine R2 (λh=>?_);(try simp only[List.map_eq_nil_iff] at h);(try subst h);try simp -dsimp|with_reducible refine And.intro ?_ ?_
theorem BS (l:List Piece) (hl:l.length<1000):D5 Tryz.prog G 132 4 (l.map u7):=by
 unfold D5;refine g9 Tryz.func132 rfl Tryz.ntmps132 (by simp) rfl ?_;repeat' first|(with_reducible first|refine zz ?_|refine And.intro (by omega) ?_|refine zx ?_|refine zE [0,2,4] ?_)|simp -dsimp|refine j4 ?_ ?_<;>intro h<;>try exact h.elim|with_reducible refine R2 (λh=>?_);(try simp only[List.map_eq_nil_iff] at h);(try subst h);try simp -dsimp|with_reducible refine And.intro ?_ ?_
end Go.Proofs
