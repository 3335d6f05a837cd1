/- Part 24 of the proofs. -/
import Derived.Test.YtjodaihiogfkbaaGreatDoorU09
import Derived.Test.YtjodaihiogfkbaaGreatDoorU16
import Derived.Test.YtjodaihiogfkbaaGreatDoorU18
import Derived.Test.YtjodaihiogfkbaaGreatDoorI02
import Derived.Test.YtjodaihiogfkbaaGreatDoorI05
set_option linter.all false
set_option maxHeartbeats 100000000
namespace Go.Proofs
open Go Go.Ab Tryz
variable {G:MF}
attribute [simp] s7 cN u9 A4 nilV J1 ZK
noncomputable def EU (c:Case):Susp->Int:=C0 (n8 c)
noncomputable def GD (c:Case) (k:Int):List Susp:=(br c.pieces.length).filter λs=>decide (EU c s=k)
noncomputable def aK (c:Case) (k:Int):List Susp:=if G4 c=0 then GD c k else []
theorem wF {n:Nat} {s:Susp} (h:s∈br n):dy n s/\0<=s.kind/\s.kind<=255:=by
 unfold dy;rcases listS_mem.1 h with⟨_,rfl⟩|⟨i,h1,_,rfl⟩|⟨i,h1,_,rfl⟩
 ·simp
 ·simp[km];omega
 ·simp[kx];omega
theorem vu (n:Nat):(br n).Nodup:=(ay _ _ _ _).imp λ{a b} h e=>by subst e;unfold V0 at h;omega
theorem nh (n:Nat):(br n).length<=1+2*n:=by
 have h1:=(N7 true (λ_=>true) (λ_=>true) n).length_eq;have h2:=cw true (λ_=>true) (λ_=>true) n;unfold br;omega
theorem xY (c:Case) (s:Susp):0<=EU c s/\EU c s<=2:=by
 unfold EU C0;split
 ·omega
 ·split<;>omega
@[simp] abbrev Qq:List Nat:=[0,1,2,3,4,5,6,8,9,10,12,13,20,24,25,26,27,37,39,44,48,49,50,51,57,58,64]
@[simp] abbrev Wy:List Nat:=[2,3,4,6,48,49,50]
theorem eS (c:Case) (hG:p5 G) (hN:D5 G) (hS:u6 G) (hU:V3 G) (hR:w8 G) (hC:K7 G) (hK:bX G) (hk:KC c):zP prog G 21 [n5 c] (.tup [C2 (aK c 2),C2 (aK c 1),iv (G4 c)]):=by
 refine zf func21 ntmps21 ?_;try simp only[iv]
 have c1:=fD (G:=G) c hG hN hS hR hC hk;have hq:=hk.q;by_cases h0:G4 c=0
 ·have c2:=lQ (G:=G) c (by omega) hU;rw[h0,show qM c=n8 c by unfold qM;rw[if_pos h0]] at c1;have hdl:=aI (I6 h0).1;have c3:=λs (h:s∈br c.pieces.length)=>mC (G:=G) c.pieces.length (n8 c) s (wF h).1 hK (bh hk) (by omega);have hO:∀ k,aK c k=(br c.pieces.length).filter λs=>decide (EU c s=k):=λk=>by unfold aK;rw[if_pos h0];rfl
  rw[h0,hO,hO];have hfr:=xY c;have hfe:∀ s,C0 (n8 c) s=EU c s:=λs=>rfl;simp only[hfe] at c3;have hAn:=vu c.pieces.length;have hAl:=nh c.pieces.length;clear hfe hO;generalize EU c=f at *;generalize br c.pieces.length=A at *;simp only[n5,j4,F1,j6,be,C2,rI,List.map_cons,List.map_nil] at c1 c2 c3 ⊢;have hs:=trivial;repeat' first|(with_reducible first|refine zz ?_|refine zE Qq ?_)|simp -dsimp[hs]|refine zp c1 ?_|refine zp c2 ?_|refine i9 ?_ ?_<;>intro h<;>try exact h.elim
  all_goals try clear hs
  refine i6 (ι:={ k:Nat // k<=A.length }) (λp=>⟨73,[(1,.one (.ptr 0 0)),(2,.one (.vec 1 0 0 0)),(3,.one (.vec 2 0 0 0)),(4,iv 0),(5,.one (.im (.sl ((n8 c).map V6)))),(6,.one (.map 3)),(24,.one (.im (.sl (A.map j6)))),(25,iv (A.length:Int)),(26,iv (p.1:Int))],[.row ((j4 c).map .im),.vec 2 [] 0 true,.vec 2 [] 0 true,.map [.int .u8,.int .i64] (aa f (A.take p.1))]⟩) (λp=>A.length-p.1) ⟨0,by simp⟩ (zv [1,2,3,4,5,6,24,25,26] (by simp[aa])) ?_;rintro⟨k,hk1⟩;simp only[iv];by_cases hlt:k<A.length
  ·have hw:=zk k;have hx0:A[k]?=some A[k]:=by simp[hlt]
   have c4:=c3 A[k] (List.getElem_mem hlt);have hts:A.take (k+1)=A.take k++[A[k]]:=List.take_succ_eq_append_getElem hlt;have hnm:A[k]∉A.take k:=λhm=>by
    obtain⟨j,hj⟩:=List.mem_iff_getElem?.1 hm;have hjk:j<k:=by have:=e7 hj;rw[List.length_take] at this;omega
    rw[List.getElem?_take_of_lt hjk] at hj;have:=(List.getElem?_inj (e7 hj) hAn).1 (hj.trans hx0.symm);omega
   have hset:=Bo (f:=f) hnm;rw[<- hts] at hset;generalize hx:A[k]=s at *;have hs:=za hx (za hx0 (za hlt (za hw hset)));repeat' first|with_reducible refine zz ?_|simp -dsimp[hs]|refine zq c4 ?_|refine zM 8 73 5 Qq ?_|with_reducible refine zE Qq ?_|refine i9 ?_ ?_<;>intro h<;>try exact h.elim
   all_goals try clear hs
   all_goals exact zn ⟨k+1,by omega⟩ (zw [1,2,3,4,5,6,24,25,26] 4)
  ·obtain rfl:k=A.length:=by omega
   simp only[List.take_length];have hs:=hlt;repeat' first|(with_reducible first|refine zz ?_|refine zE Qq ?_)|simp -dsimp[hs]|refine i9 ?_ ?_<;>intro h<;>try exact h.elim
   all_goals try clear hs
   intro l c0 b hll hln hlc;rw[Cp] at hll;have hP1:(A.zip l).map (·.1)=A:=List.map_fst_zip (by omega);have hP2:(A.zip l).map (·.2)=l:=List.map_snd_zip (by omega);have hPn:((A.zip l).map (·.2)).Nodup:=by rw[hP2];exact hln
   clear c1 c3 hlt hk1;generalize A.zip l=P at *;subst hP2;have hAnP:(P.map (·.1)).Nodup:=by rw[hP1];exact hAn
   obtain⟨g,hg⟩:∃ g:Susp->Bool,g=λs=>decide (f s≠0):=⟨_,rfl⟩
   have hs:=trivial;repeat' first|with_reducible refine zz ?_|simp -dsimp[hs]
   all_goals try clear hs
   refine i6 (ι:={ p:List Nat×List Nat×List Susp // p.2.1=(U4 g P p.1).map (·.2)/\p.2.2=(U4 g P p.1).map (·.1) }) (λp=>⟨73,[(1,.one (.ptr 0 0)),(2,.one (.vec 1 0 0 0)),(3,.one (.vec 2 0 0 0)),(4,iv 0),(6,.one (.map 3)),(37,.one (.itr 4))],[.row ((j4 c).map .im),.vec 2 [] 0 true,.vec 2 [] 0 true,.map [.st p.1.2.1 c0 b,.int .u8,.int .i64] (aa f p.1.2.2),.liter b p.1.1 c0]⟩) (λp=>DJ P p.1.1) ⟨([],P.map (·.2),P.map (·.1)),by simp[xR]⟩ (zv [1,2,3,4,6,37] (by simp[hP1])) ?_;rintro⟨⟨seen,l,K⟩,hl,hK'⟩;simp only at hl hK';simp only[iv];have hs:=trivial;repeat' first|(with_reducible first|refine zz ?_|refine zE Qq ?_)|simp -dsimp[hs]|refine i9 ?_ ?_<;>intro h<;>try exact h.elim|with_reducible refine U5 (λh=>?_);(try simp only[List.map_eq_nil_iff] at h);(try subst h);try simp -dsimp[hs]|with_reducible refine And.intro ?_ ?_
   all_goals try clear hs
   ·have hend:K=(P.map (·.1)).filter g:=by rw[hK'];exact xS (by rw[<- hl];assumption)
    rw[hP1] at hend;have hget:∀ s∈A,P8 [.int .u8 s.kind,.int .i64 s.index] (aa f K) [.im (.raw (.int .u8 0))]=[.im (.raw (.int .u8 (f s)))]:=λs hs=>by
     rw[Bs,hend];by_cases hf0:f s=0
     ·simp[hf0]
     ·rw[if_pos (List.mem_filter.2 ⟨hs,by rw[hg];simp[hf0]⟩)]
    have himE:List.map (λx:List Value×List IC=>(x.1,List.map DC.im x.2)) (oX f K)=aa f K:=HA f K;clear hend hK' hl hg;have hs:=trivial;repeat' first|with_reducible refine zz ?_|simp -dsimp[hs]|refine zp c2 ?_
    all_goals try clear hs
    refine i6 (ι:={ p:Nat×Nat×Bool×Nat×Bool // p.1<=A.length }) (λp=>⟨73,[(2,.one (.vec 1 p.1.2.1 0 ((A.take p.1.1).filter λs=>decide (f s=2)).length)),(3,.one (.vec 2 p.1.2.2.2.1 0 ((A.take p.1.1).filter λs=>decide (f s=1)).length)),(4,iv 0),(6,.one (.im (.mp [.int .u8,.int .i64] (oX f K)))),(48,.one (.im (.sl (A.map j6)))),(49,iv (A.length:Int)),(50,iv (p.1.1:Int))],[.row ((j4 c).map .im),.vec 2 (l7 (((A.take p.1.1).filter λs=>decide (f s=2)).map j6)) p.1.2.1 p.1.2.2.1,.vec 2 (l7 (((A.take p.1.1).filter λs=>decide (f s=1)).map j6)) p.1.2.2.2.1 p.1.2.2.2.2]⟩) (λp=>A.length-p.1.1) ⟨(0,0,true,0,true),by simp⟩ (zw Wy 3 (by simp[l7])) ?_;rintro⟨⟨k,ga,na,gb,nb⟩,hk1⟩;simp only at hk1;simp only[iv];by_cases hlt:k<A.length
    ·have hw:=zk k;have hx0:A[k]?=some A[k]:=by simp[hlt]
     have hts:A.take (k+1)=A.take k++[A[k]]:=List.take_succ_eq_append_getElem hlt;have hge:=hget A[k] (List.getElem_mem hlt);have hl1:=List.length_filter_le (λs=>decide (f s=2)) (A.take k);have hl2:=List.length_filter_le (λs=>decide (f s=1)) (A.take k);have hr:=hfr A[k];rw[List.length_take] at hl1 hl2;generalize hx:A[k]=s at *;have e2:(A.take (k+1)).filter (λs=>decide (f s=2))=(A.take k).filter (λs=>decide (f s=2))++(if f s=2 then [s] else []):=by
      rw[hts,List.filter_append];simp[List.filter_cons]
     have e1:(A.take (k+1)).filter (λs=>decide (f s=1))=(A.take k).filter (λs=>decide (f s=1))++(if f s=1 then [s] else []):=by
      rw[hts,List.filter_append];simp[List.filter_cons]
     generalize (A.take k).filter (λs=>decide (f s=2))=L2 at *;generalize (A.take k).filter (λs=>decide (f s=1))=L1 at *;have h3:f s=0\/f s=1\/f s=2:=by omega
     have hs:True:=trivial;rcases h3 with h3|h3|h3
     all_goals
      rw[h3] at hge;simp[h3] at e1 e2;have hs:=za hx (za hx0 (za hlt (za hw (za hge himE))));repeat' first|(with_reducible first|refine zz ?_|refine And.intro (by omega) ?_|refine zE Qq ?_)|simp -dsimp[hs]|refine i9 ?_ ?_<;>intro h<;>try exact h.elim
      all_goals try clear hs
     ·all_goals exact zn ⟨(k+1,ga,na,gb,nb),by simp only;omega⟩ (zw Wy 3 (by simp[e1,e2]))
     ·all_goals exact zn ⟨(k+1,ga,na,gb+1,false),by simp only;omega⟩ (zw Wy 3 (by simp[e1,e2]))
     ·all_goals exact zn ⟨(k+1,ga+1,false,gb,nb),by simp only;omega⟩ (zw Wy 3 (by simp[e1,e2]))
    ·obtain rfl:k=A.length:=by omega
     simp only[List.take_length];have hl1:=List.length_filter_le (λs=>decide (f s=2)) A;have hl2:=List.length_filter_le (λs=>decide (f s=1)) A;generalize A.filter (λs=>decide (f s=2))=L2 at *;generalize A.filter (λs=>decide (f s=1))=L1 at *;have hs:=hlt;repeat' first|(with_reducible first|refine zz ?_|refine zr ?_|refine zE Qq ?_)|simp -dsimp[hs]|refine i9 ?_ ?_<;>intro h<;>try exact h.elim
     all_goals try clear hs
     all_goals simp
   ·intro i s xa xb hx hs1 hns;obtain⟨y,hy,rfl,rfl⟩:=yy hx;have hgP:(U4 g P seen)[i]?=some (y,s):=by
     rw[hK',List.getElem?_map,Option.map_eq_some_iff] at hy;rw[hl,List.getElem?_map,Option.map_eq_some_iff] at hs1;obtain⟨p,hp1,hp2⟩:=hy;obtain⟨q,hq1,hq2⟩:=hs1;rw[hp1] at hq1;cases hq1;rw[hp1,<- hp2,<- hq2]
    have hmem:(y,s)∈P:=(List.mem_filter.1 (List.mem_of_getElem? hgP)).1;have hlt2:=DI hmem hns;have hln2:l.Nodup:=by rw[hl];exact(hPn.sublist ((List.filter_sublist).map _))
    have hKn:K.Nodup:=by rw[hK'];exact(hAnP.sublist ((List.filter_sublist).map _))
    have hidx:=qi hln2 hs1;have hmi:=ug (f:=f) hKn hy;have hmd:=Hq (f:=f) hKn hy;by_cases hf0:f y=0
    ·have hfy:g y=false:=by rw[hg];simp[hf0]
     have hd:=xT (f:=g) hPn hgP hfy;have hl2:l.eraseIdx i=(U4 g P (seen++[s])).map (·.2):=by rw[hd,Ab.mt,<- hl]
     have hK2:K.eraseIdx i=(U4 g P (seen++[s])).map (·.1):=by rw[hd,Ab.mt,<- hK']
     rw[hf0] at hx;have hs:=za hx (za hidx (za hf0 (za hmi hmd)));repeat' first|(with_reducible first|refine zz ?_|refine zE Qq ?_)|simp -dsimp[hs]|refine i9 ?_ ?_<;>intro h<;>try exact h.elim
     all_goals try clear hs
     all_goals exact At.round ⟨(seen++[s],l.eraseIdx i,K.eraseIdx i),hl2,hK2⟩ hlt2 (zw [1,2,3,4,6,37] 5)
    ·have hfy:g y=true:=by rw[hg];simp[hf0]
     have hd:=uo (f:=g) (seen:=seen) hPn hmem hfy;have hl2:l=(U4 g P (seen++[s])).map (·.2):=by rw[hd,<- hl]
     have hK2:K=(U4 g P (seen++[s])).map (·.1):=by rw[hd,<- hK']
     have hs:=za hx (za hidx (za hf0 (za hmi hmd)));repeat' first|(with_reducible first|refine zz ?_|refine zE Qq ?_)|simp -dsimp[hs]|refine i9 ?_ ?_<;>intro h<;>try exact h.elim
     all_goals try clear hs
     all_goals exact At.round ⟨(seen++[s],l,K),hl2,hK2⟩ hlt2 (zw [1,2,3,4,6,37] 5)
 ·have hO:∀ k,aK c k=[]:=λk=>by unfold aK;rw[if_neg h0]
  rw[hO,hO];simp only[n5,j4,F1,j6,be,rI,List.map_cons,List.map_nil] at c1 ⊢;have hs:=h0;repeat' first|(with_reducible first|refine zz ?_|refine zr ?_|refine zE Qq ?_)|simp -dsimp[hs]|refine zp c1 ?_|refine i9 ?_ ?_<;>intro h<;>try exact h.elim
  all_goals try clear hs
end Go.Proofs
namespace Go.Ab
open Go
def dL (s:Susp) (i:Nat):E8:=if s.kind=2/\s.index=i then (true,false) else if s.kind=3/\s.index=i then (false,true) else (false,false)
def bp (d:Desk) (s:Susp):Bool:=((List.range d.faults.length).all λi=>decide (dL s i∈d.faults.getD i []))&&(d.notes==decide (s.kind=1))
theorem yY {d:Desk} {s:Susp} {i:Nat} (h:i<d.faults.length) (h2:dL s i∉d.faults.getD i []):bp d s=false:=by
 unfold bp;rw[Bool.and_eq_false_iff];refine .inl ?_;rw[<- Bool.not_eq_true,List.all_eq_true];exact λhall=>h2 (by simpa using hall i (List.mem_range.2 h))
theorem vt {d:Desk} {s:Susp} (h:∀ i,i<d.faults.length->dL s i∈d.faults.getD i []):bp d s=(d.notes==decide (s.kind=1)):=by
 unfold bp;rw[show ((List.range d.faults.length).all λi=>decide (dL s i∈d.faults.getD i []))=true by
  rw[List.all_eq_true];exact λi hi=>by simpa using h i (List.mem_range.1 hi)]
 rfl
end Go.Ab
namespace Go.Proofs
open Go Go.Ab
variable {G:MF}
attribute [simp] s7 cN u9 A4 nilV J1 ZK
def fP (s:Susp):List (List Value×List DC):=if s.kind=2 then [([.int .i64 s.index],[.im (.raw (.bool true)),.im (.raw (.bool false))])] else if s.kind=3 then [([.int .i64 s.index],[.im (.raw (.bool false)),.im (.raw (.bool true))])] else []
theorem wM (s:Susp) (i:Nat):P8 [.int .i64 (i:Int)] (fP s) [.im (.raw (.bool false)),.im (.raw (.bool false))]=[.im (.raw (.bool (dL s i).1)),.im (.raw (.bool (dL s i).2))]:=by
 have hb:A7 [.int .i64 (i:Int)] [.int .i64 s.index]=decide (s.index=(i:Int)):=bn (i:Int) s.index;unfold fP dL;by_cases h2:s.kind=2
 ·simp only[h2,if_true,true_and,P8,U2,hb,decide_eq_true_eq];by_cases hi:s.index=(i:Int)
  ·simp[hi]
  ·simp[hi]
 ·simp only[h2,if_false,false_and,if_false];by_cases h3:s.kind=3
  ·simp only[h3,if_true,true_and,P8,U2,hb,decide_eq_true_eq];by_cases hi:s.index=(i:Int)
   ·simp[hi]
   ·simp[hi]
  ·simp[h3,P8,U2]
@[simp] theorem Ke (n:Nat) (objs:List DObj) (s:Susp):((fP s).map λx=>(x.1,x.2.map (fz n objs)))=fP s:=by
 unfold fP;split
 ·simp[fz]
 ·split<;>simp[fz]
@[simp] abbrev Wj:List Nat:=[0,1,3,4,5,6,7,10,11,17,26,27,28,29,38]
theorem FO (d:Desk) (n:Nat) (s:Susp) (hd:DkOk n d) (hn:n<100000) (hs:dy n s) (hF:jO G):zP Tryz.prog G 79 [kW d,F1 s] (bv (bp d s)):=by
 refine zf Tryz.func79 Tryz.ntmps79 ?_;try simp only[iv]
 have g2:G 2=some [.raw (.bool true),.raw (.bool false)]:=hF.2.1;have g3:G 3=some [.raw (.bool false),.raw (.bool true)]:=hF.2.2;have hdn:=hd.n;have hg:=wM s;have hcs:(s.kind=1/\fP s=[])\/(s.kind=2/\fP s=[([.int .i64 s.index],[.im (.raw (.bool true)),.im (.raw (.bool false))])])\/(s.kind=3/\fP s=[([.int .i64 s.index],[.im (.raw (.bool false)),.im (.raw (.bool true))])]):=by
  unfold fP;rcases hs with h|⟨h|h,_,_⟩<;>simp[h]
 have hno:=λi=>yY (d:=d) (s:=s) (i:=i);have hyes:=vt (d:=d) (s:=s);generalize bp d s=r at *;obtain⟨kd,ix⟩:=s;simp only at hcs;simp only[kW,bF,U7];clear hs;have hs:True:=trivial;rcases hcs with⟨hkd,hw⟩|⟨hkd,hw⟩|⟨hkd,hw⟩
 all_goals
  have hw1:=hw;rw[hkd] at hw1;have hs:=za g2 (za g3 hkd);repeat' first|(with_reducible first|refine zz ?_|refine zE Wj ?_)|simp -dsimp[hs]|refine i9 ?_ ?_<;>intro h<;>try exact h.elim
  all_goals try clear hs
 all_goals
  refine i6 (ι:={ k:Nat // k<=d.faults.length/\∀ j,j<k->dL ⟨kd,ix⟩ j∈d.faults.getD j [] }) (λp=>⟨48,[(0,kW d),(3,.one (.ptr 0 0)),(5,.one (.map 1)),(26,.one (.im (.sl (d.faults.map K6)))),(27,iv (d.faults.length:Int)),(28,iv (p.1:Int))],[.row [.im (.raw (.int .u8 kd)),.im (rI ix)],.map [.int .i64] (fP ⟨kd,ix⟩)]⟩) (λp=>d.faults.length-p.1) ⟨0,by simp⟩ (zv [0,3,5,26,27,28] (by simp[hw,hw1,hkd,T6,bF,U7])) ?_;rintro⟨k,hk1,hall⟩;simp only[iv,kW,bF,U7];by_cases hlt:k<d.faults.length
  ·have hwk:=zk k;have hx0:d.faults[k]?=some d.faults[k]:=by simp[hlt]
   have hgd:d.faults.getD k []=d.faults[k]:=by simp[hlt]
   have hgk:=hg k;have hnk:=hno k hlt;rw[hgd] at hnk;have hall2:dL ⟨kd,ix⟩ k∈d.faults[k]->∀ j,j<k+1->dL ⟨kd,ix⟩ j∈d.faults.getD j []:=λh j hj=>by
    by_cases e:j=k
    ·subst e;rw[hgd];exact h
    ·exact hall j (by omega)
   generalize hw0:dL ⟨kd,ix⟩ k=w at *;have c1:=jf (G:=G) d.faults[k] w (hd.l _ (List.getElem_mem hlt));generalize hx:d.faults[k]=x at *;simp only[ky,D6,List.map_cons,List.map_nil] at c1;by_cases hm:w∈x
   ·rw[decide_eq_true hm] at c1;have hs:=za hx (za hlt (za hwk hgk));repeat' first|(with_reducible first|refine zz ?_|refine zE Wj ?_)|simp -dsimp[hs]|refine zp c1 ?_|refine i9 ?_ ?_<;>intro h<;>try exact h.elim
    all_goals try clear hs
    all_goals exact zn ⟨k+1,by omega,hall2 hm⟩ (zw [0,3,5,26,27,28] 2 (by simp[bF,U7]))
   ·rw[decide_eq_false hm] at c1;have hr:=hnk hm;have hs:=za hx (za hlt (za hwk hgk));repeat' first|(with_reducible first|refine zz ?_|refine zr ?_|refine zE Wj ?_)|simp -dsimp[hs]|refine zp c1 ?_|refine i9 ?_ ?_<;>intro h<;>try exact h.elim
    all_goals try clear hs
    all_goals simp[hr]
  ·obtain rfl:k=d.faults.length:=by omega
   have hr:=hyes λi hi=>hall i hi;rw[hr];have hs:=za hlt hkd;repeat' first|(with_reducible first|refine zz ?_|refine zr ?_)|simp -dsimp[hs]|refine zM 13 48 9 Wj ?_|with_reducible refine zE Wj ?_|refine i9 ?_ ?_<;>intro h<;>try exact h.elim
   all_goals try clear hs
   all_goals simp[hkd]
end Go.Proofs
namespace Go.Proofs
open Go Go.Ab Tryz
variable {G:MF}
attribute [simp] s7 cN u9 A4 nilV J1 ZK
theorem De (n:Nat) (s:Susp) (hs:dy n s) (hn:n<100000) (hF:jO G) (d:Desk) (hd:DkOk n d):DCall prog G 78 (kW d :: [DC.ptr 0 0].map .one) [.row ((j6 s).map .im)] (λr o=>r=bv (bp d s)/\o=[.row ((j6 s).map .im)]):=by
 refine DCall.drop ?_;have c1:=FO (G:=G) d n s hd hn hs hF;simp only[kW,F1,j6,rI,List.map_cons,List.map_nil] at c1;refine g9 func78 rfl ntmps78 (by simp) rfl ?_;simp only[kW,j6,rI,List.map_cons,List.map_nil];have hs:=trivial;repeat' first|(with_reducible first|refine zz ?_|refine zr ?_|refine zE [0,1,3] ?_)|simp -dsimp[hs]|refine zp c1 ?_|with_reducible refine And.intro ?_ ?_
 all_goals try clear hs
noncomputable def Df (c:Case) (s:Susp):Bool:=(n8 c).any λd=>bp d s
noncomputable def qF (c:Case):List Susp:=if G4 c=0 then (br c.pieces.length).filter (Df c) else []
@[simp] abbrev Wz:List Nat:=[0,1,2,3,4,5,6,8,15,18,19,20,21,26]
theorem Dc (c:Case) (hG:p5 G) (hN:D5 G) (hS:u6 G) (hU:V3 G) (hR:w8 G) (hC:K7 G) (hF:jO G) (hk:KC c):zP prog G 26 [n5 c] (.tup [C2 (qF c),iv (G4 c)]):=by
 refine zf func26 ntmps26 ?_;try simp only[iv]
 have c1:=fD (G:=G) c hG hN hS hR hC hk;have hq:=hk.q;by_cases h0:G4 c=0
 ·have c2:=lQ (G:=G) c (by omega) hU;rw[h0,show qM c=n8 c by unfold qM;rw[if_pos h0]] at c1;have hdl:=aI (I6 h0).1;have c3:=λs (h:s∈br c.pieces.length)=>dE (G:=G) (n8 c) (λd=>bp d s) 78 [.ptr 0 0] [.row ((j6 s).map .im)] (by simp) (λd hdm=>De c.pieces.length s (wF h).1 (by omega) hF d (bh hk d hdm)) (by omega);have hO:qF c=(br c.pieces.length).filter (Df c):=by unfold qF;rw[if_pos h0]
  have hfe:∀ s,((n8 c).any λd=>bp d s)=Df c s:=λs=>rfl;simp only[hfe] at c3;rw[h0,hO];have hAl:=nh c.pieces.length;clear hO hfe;generalize Df c=f at *;generalize br c.pieces.length=A at *;simp only[n5,j4,F1,j6,be,C2,rI,List.map_cons,List.map_nil] at c1 c2 c3 ⊢;have hs:=trivial;repeat' first|(with_reducible first|refine zz ?_|refine zE Wz ?_)|simp -dsimp[hs]|refine zp c1 ?_|refine zp c2 ?_|refine i9 ?_ ?_<;>intro h<;>try exact h.elim
  all_goals try clear hs
  refine i6 (ι:={ p:Nat×Nat×Bool // p.1<=A.length }) (λp=>⟨33,[(4,.one (.im (.sl ((n8 c).map V6)))),(6,.one (.vec 2 p.1.2.1 0 ((A.take p.1.1).filter f).length)),(18,.one (.im (.sl (A.map j6)))),(19,iv (A.length:Int)),(20,iv (p.1.1:Int))],[.row ((j4 c).map .im),.vec 2 [] 0 true,.vec 2 (l7 (((A.take p.1.1).filter f).map j6)) p.1.2.1 p.1.2.2]⟩) (λp=>A.length-p.1.1) ⟨(0,0,true),by simp⟩ (zv [4,6,18,19,20] (by simp[l7])) ?_;rintro⟨⟨k,g,nl⟩,hk1⟩;simp only at hk1;simp only[iv];by_cases hlt:k<A.length
  ·have hw:=zk k;have hx0:A[k]?=some A[k]:=by simp[hlt]
   have hts:A.take (k+1)=A.take k++[A[k]]:=List.take_succ_eq_append_getElem hlt;have c4:=c3 A[k] (List.getElem_mem hlt);have hl1:=List.length_filter_le f (A.take k);rw[List.length_take] at hl1;generalize hx:A[k]=s at *;have e1:(A.take (k+1)).filter f=(A.take k).filter f++(if f s=true then [s] else []):=by
    rw[hts,List.filter_append];simp[List.filter_cons]
   generalize (A.take k).filter f=L at *;have hs:True:=trivial;cases hf:f s
   all_goals
    rw[hf] at c4;simp[hf] at e1;have hs:=za hx (za hx0 (za hlt hw));repeat' first|(with_reducible first|refine zz ?_|refine And.intro (by omega) ?_|refine zE Wz ?_)|simp -dsimp[hs]|refine CallE.embed [3] (c4) ?_ ?_ ?_ ?_ ?_ ?_;(focus simp[v6];done);(focus simp;done);(focus simp;done);(focus simp;done);(focus refine o9 ?_;simp[v6,s8];done);try simp -dsimp[o6,v6,hs]|refine i9 ?_ ?_<;>intro h<;>try exact h.elim
    all_goals try clear hs
   ·all_goals exact zn ⟨(k+1,g,nl),by simp only;omega⟩ (zw [4,6,18,19,20] 3 (by simp[e1]))
   ·all_goals exact zn ⟨(k+1,g+1,false),by simp only;omega⟩ (zw [4,6,18,19,20] 3 (by simp[e1]))
  ·obtain rfl:k=A.length:=by omega
   simp only[List.take_length];have hl1:=List.length_filter_le f A;generalize A.filter f=L at *;have hs:=hlt;repeat' first|(with_reducible first|refine zz ?_|refine zr ?_|refine zE Wz ?_)|simp -dsimp[hs]|refine i9 ?_ ?_<;>intro h<;>try exact h.elim
   all_goals try clear hs
   all_goals simp
 ·have hO:qF c=[]:=by unfold qF;rw[if_neg h0]
  rw[hO];simp only[n5,j4,F1,j6,be,rI,List.map_cons,List.map_nil] at c1 ⊢;have hs:=h0;repeat' first|(with_reducible first|refine zz ?_|refine zr ?_|refine zE Wz ?_)|simp -dsimp[hs]|refine zp c1 ?_|refine i9 ?_ ?_<;>intro h<;>try exact h.elim
  all_goals try clear hs
attribute [simp] s7 cN u9 A4 nilV J1 ZK
theorem wK (d i w:Int) (l:List Print):bL d i w l≠[]:=by
 unfold bL;have hm:cj d i w l∈s9 (l5 (aP d i w l++[cj d i w l])):=by
  rw[gJ];exact(List.mergeSort_perm _ _).mem_iff.2 (by simp)
 generalize s9 (l5 (aP d i w l++[cj d i w l]))=D at *;rcases sc (λx=>decide (cj d i w l=x)) D with h|h
 ·intro e;have h2:=congrArg List.length e;rw[List.length_drop,List.length_nil] at h2;have hlp:0<D.length:=List.length_pos_of_mem hm;omega
 ·rw[h] at hm;simp at hm
theorem Bw {c:Case} (he:s6 c=0) {k:Nat} (h1:k<c.pieces.length):N5 c k≠[]:=by
 obtain⟨hp0,hcb⟩:=B8 he;obtain⟨hn0,hpb,hr0⟩:=D9 hp0;have hok:=K2 hcb;have h2:k<c.loop.links.length:=by have:=hok.e;omega
 have hdm:=jZ hr0 hcb h1 h2;have hq:=hcb;rw[Q1,Bool.and_eq_true,List.all_eq_true] at hq;have h3:k<(c.loop.links.zip c.pieces).length:=by rw[List.length_zip];omega
 have h4:=hq.2 _ (List.getElem_mem h3);rw[List.getElem_zip] at h4;simp only at h4;rw[jH hr0] at h4;obtain⟨_,_,_,hh,hd,_⟩:=h4;rw[iH h1 h2];unfold P1;have hA:P4 c.p c.pieces[k].day 1 c.pieces[k].holder c.loop.links[k].drawing=0:=by
  unfold P4 J4 uX;rw[if_neg,if_pos ⟨hh,hdm⟩];rw[if_neg (by simp[hp0]),if_pos (by simp at hd ⊢;omega)];simp
 rw[if_pos hA];exact wK _ _ _ _
theorem FQ {L:List E8} {so:Bool} {f:E8} (h:L≠[]):bt L so f≠[]:=by
 unfold bt;split
 ·simp
 ·exact h
theorem sR {L:List E8} {f:E8}:bt L true f≠[]:=by
 unfold bt;split
 ·simp
 ·rename_i h;have:f∈L:=Classical.byContradiction λh2=>h ⟨rfl,h2⟩;exact List.ne_nil_of_mem this
theorem ym {c:Case} {y:Link} {x:Piece} {o:Int} {L:List E8} {l:Int} (hx:x.lo<=x.hi):H6 c y x o L l≠[]:=by
 unfold H6;by_cases h1:uC c y x l=true
 ·rw[h1];exact FQ sR
 ·have h2:Aa c y x l=true:=by
   unfold uC at h1;unfold Aa;split at h1
   ·simp at h1
   ·rename_i z hz;simp only[hz,W7,Bool.and_eq_true,decide_eq_true_eq,Bool.not_eq_true',decide_eq_false_iff_not] at h1 ⊢;omega
  rw[h2];exact sR
theorem HN {c:Case} (he:s6 c=0) (s:List Int) {k:Nat} (h1:k<c.pieces.length):jM c s k≠[]:=by
 obtain⟨hp0,hcb⟩:=B8 he;have hok:=K2 hcb;have h2:k<c.loop.links.length:=by have:=hok.e;omega
 have hm:=Bw he h1;have hp:=tu hok h1;unfold aC at hp;have hx0:c.pieces[k]?=some c.pieces[k]:=by simp[h1]
 have hy0:c.loop.links[k]?=some c.loop.links[k]:=by simp[h2]
 unfold jM;rw[hx0,hy0];simp only;generalize N5 c k=M at *;rw[<- List.dropLast_concat_getLast hm,List.foldl_append];exact ym hp.2.1
theorem mO {c:Case} (he:s6 c=0):∀ d∈n8 c,∀ x∈d.faults,x≠[]:=by
 intro d hd x hx;obtain⟨s,_,rfl⟩:=List.mem_map.1 hd;simp only[C4,List.mem_map,List.mem_range] at hx;obtain⟨k,hk,rfl⟩:=hx;exact HN he s hk
def I4:List Susp->List Susp->Int
 | [],[]=>0
 | [],_ :: _=>-1
 | _ :: _,[]=>1
 | a :: x,b :: y=>if N3 a b≠0 then N3 a b else I4 x y
def ce (a b:List Susp):Int:=W3 [(a.length:Int)-b.length,I4 a b]
def R4 (m x:List Susp):List Susp:=if ce x m<0 then x else m
def kN:List (List Susp)->List Susp
 | []=>[]
 | x :: r=>r.foldl R4 x
def kD (l:List Susp):List IC:=[.sl (l.map j6)]
def nn (l:List Susp):Prop:=(∀ x∈l,ge x)/\l.length<100000
theorem Er (a b:Susp) (ha:ge a) (hb:ge b) (objs:List DObj):DCall prog G 86 [F1 a,F1 b] objs (λd o=>d=iv (N3 a b)/\o=objs):=by
 refine DCall.frame ?_ (by simp) (by simp) objs;exact(wg a b ha hb).mono λd o h=>by rw[h.1];simp
@[simp] abbrev QV:List Nat:=[0,1,2,6,7,8,9,10,11,12,13,14,21,31,38]
theorem FA (a b:List Susp) (ha:nn a) (hb:nn b):zP prog G 85 [C2 a,C2 b,.one (.im (.fn (.func 86) []))] (iv (I4 a b)):=by
 refine zf func85 ntmps85 ?_;try simp only[iv]
 have hal:=ha.2;have hbl:=hb.2;simp only[C2];have hs:=trivial;repeat' first|(with_reducible first|refine zz ?_|refine zE QV ?_)|simp -dsimp[hs]
 refine i6 (ι:={ k:Nat // k<=a.length/\k<=b.length/\I4 a b=I4 (a.drop k) (b.drop k) }) (λp=>⟨39,[(0,.one (.im (.sl (a.map j6)))),(1,.one (.im (.sl (b.map j6)))),(2,.one (.im (.fn (.func 86) []))),(11,.one (.im (.sl (a.map j6)))),(12,iv (a.length:Int)),(13,iv (p.1:Int))],[]⟩) (λp=>a.length-p.1) ⟨0,by simp⟩ (zv [0,1,2,11,12,13]) ?_;rintro⟨k,hka,hkb,hE⟩;have hE2:=hE;simp only[iv];by_cases hlt:k<a.length
 ·have hw:=zk k;have hx0:a[k]?=some a[k]:=by simp[hlt]
  have hxt:=ha.1 a[k] (List.getElem_mem hlt);rw[List.drop_eq_getElem_cons hlt] at hE2;by_cases hlb:k<b.length
  ·have hlb':¬ (b.length:Int)<=k:=by omega
   have hy0:b[k]?=some b[k]:=by simp[hlb]
   have hyt:=hb.1 b[k] (List.getElem_mem hlb);rw[List.drop_eq_getElem_cons hlb,I4] at hE2;generalize hx:a[k]=x at *;generalize hy:b[k]=y at *;have c1:=Er (G:=G) x y hxt hyt;generalize N3 x y=z at *;simp only[F1,j6,rI,List.map_cons,List.map_nil] at c1;by_cases hz:z=0
   ·rw[if_neg (by simp[hz])] at hE2;have hs:=za hx (za hx0 (za hy (za hy0 (za hlt (za hlb (za hlb' (za hw hz)))))));repeat' first|(with_reducible first|refine zz ?_|refine zE QV ?_)|simp -dsimp[hs]|refine zp c1 ?_|refine i9 ?_ ?_<;>intro h<;>try exact h.elim
    all_goals exact zn ⟨k+1,by omega,by omega,hE2⟩ (zw [0,1,2,11,12,13] 0)
   ·rw[if_pos hz] at hE2;have hs:=za hx (za hx0 (za hy (za hy0 (za hlt (za hlb (za hlb' (za hw hz)))))));repeat' first|(with_reducible first|refine zz ?_|refine zr ?_|refine zE QV ?_)|simp -dsimp[hs]|refine zp c1 ?_|refine i9 ?_ ?_<;>intro h<;>try exact h.elim
    all_goals simp[hE2]
  ·have hkb2:k=b.length:=by omega
   have hlb':(b.length:Int)<=k:=by omega
   rw[List.drop_eq_nil_of_le (by omega:b.length<=k),I4] at hE2;generalize hx:a[k]=x at *;have hs:=za hx (za hx0 (za hlt (za hlb (za hlb' hw))));repeat' first|(with_reducible first|refine zz ?_|refine zr ?_|refine zE QV ?_)|simp -dsimp[hs]|refine i9 ?_ ?_<;>intro h<;>try exact h.elim
   all_goals simp[hE2]
 ·have hka2:k=a.length:=by omega
  rw[List.drop_eq_nil_of_le (by omega)] at hE2;by_cases hlb:a.length<b.length
  ·have hlb':(a.length:Int)<b.length:=by omega
   rw[List.drop_eq_getElem_cons (by omega),I4] at hE2;have hs:=za hlt (za hlb hlb');repeat' first|(with_reducible first|refine zz ?_|refine zr ?_|refine zE QV ?_)|simp -dsimp[hs]|refine i9 ?_ ?_<;>intro h<;>try exact h.elim
   all_goals simp[hE2]
  ·have hlb':¬ (a.length:Int)<b.length:=by omega
   rw[List.drop_eq_nil_of_le (by omega),I4] at hE2;have hs:=za hlt (za hlb hlb');repeat' first|(with_reducible first|refine zz ?_|refine zr ?_|refine zE QV ?_)|simp -dsimp[hs]|refine i9 ?_ ?_<;>intro h<;>try exact h.elim
   all_goals simp[hE2]
attribute [simp] s7 cN u9 A4 nilV J1 ZK
theorem HW (a b:List Susp) (ha:nn a) (hb:nn b):zP prog G 83 [C2 a,C2 b] (iv (ce a b)):=by
 refine zf func83 ntmps83 ?_;try simp only[iv]
 have hal:=ha.2;have hbl:=hb.2;have c1:=FA (G:=G) a b ha hb;have c2:=Gj (G:=G) [(a.length:Int)-b.length,I4 a b] (by simp);have hE:ce a b=W3 [(a.length:Int)-b.length,I4 a b]:=rfl;rw[<- hE] at c2;have hw:IntKind.i64.wrap ((a.length:Int)-b.length)=(a.length:Int)-b.length:=p9 (by omega) (by omega);generalize I4 a b=z at *;generalize ce a b=r at *;simp only[C2] at c1 ⊢;have hs:=hw;repeat' first|(with_reducible first|refine zz ?_|refine zr ?_|refine zE [0,1,4] ?_)|simp -dsimp[hs]|refine zp c1 ?_|refine zt c2 ?_ ?_ ?_;(focus simp;done);focus (simp;done)
@[simp] abbrev Qp:List Nat:=[0,1,4,5,6,9,17,27]
theorem EI (L:List (List Susp)) (hne:L≠[]) (hl:L.length<1000000) (ht:∀ x∈L,nn x):zP prog G 144 [.one (.im (.sl (L.map kD))),.one (.im (.fn (.func 83) []))] (C2 (kN L)):=by
 refine zf func144 ntmps144 ?_;try simp only[iv]
 obtain⟨x0,r0,rfl⟩:∃ x r,L=x :: r:=by
  cases L with
  | nil=>exact absurd rfl hne
  | cons x r=>exact⟨x,r,rfl⟩
 have hE:kN (x0 :: r0)=((x0 :: r0).drop 1).foldl R4 x0:=rfl;have hl1:¬ ((x0 :: r0).length:Int)<1:=by simp;omega
 have hlp:0<(x0 :: r0).length:=by simp
 have hx1:(x0 :: r0)[0]?=some x0:=rfl;have hx2:(x0 :: r0)[0]=x0:=rfl;have hm0:x0∈(x0 :: r0):=by simp
 have hk1:1<=(x0 :: r0).length:=hlp;generalize (x0 :: r0)=L at *;generalize kN L=res at *;simp only[C2];have hs:=za hl1 (za hx1 (za hx2 hlp));repeat' first|(with_reducible first|refine zz ?_|refine zE Qp ?_)|simp -dsimp[kD,hs]|refine i9 ?_ ?_<;>intro h<;>try exact h.elim
 refine i6 (ι:={ p:Nat×List Susp // 1<=p.1/\p.1<=L.length/\p.2∈L/\res=(L.drop p.1).foldl R4 p.2 }) (λp=>⟨33,[(0,.one (.im (.sl (L.map kD)))),(1,.one (.im (.fn (.func 83) []))),(5,.one (.im (.sl (p.1.2.map j6)))),(6,iv (p.1.1:Int))],[]⟩) (λp=>L.length-p.1.1) ⟨(1,x0),Nat.le_refl _,hk1,hm0,hE⟩ (zw [0,1,5,6] 0) ?_;rintro⟨⟨k,m⟩,hk1',hk,hm,hE2⟩;simp only at hk1' hk hm hE2;simp only[iv];by_cases hlt:k<L.length
 ·have hlt':(k:Int)<L.length:=by omega
  have hw:=zk k;have hx:L[k]?=some L[k]:=by simp[hlt]
  have hmk:L[k]∈L:=List.getElem_mem hlt;rw[List.drop_eq_getElem_cons hlt,List.foldl_cons] at hE2;generalize hy:L[k]=y at *;have c1:=HW (G:=G) y m (ht y hmk) (ht m hm);simp only[C2] at c1;unfold R4 at hE2;by_cases hym:ce y m<0
  ·rw[if_pos hym] at hE2;have hs:=za hx (za hy (za hlt (za hlt' (za hw hym))));repeat' first|(with_reducible first|refine zz ?_|refine zE Qp ?_)|simp -dsimp[kD,hs]|refine zp c1 ?_|refine i9 ?_ ?_<;>intro h<;>try exact h.elim
   all_goals exact zn ⟨(k+1,y),by simp,by simp only;omega,hmk,hE2⟩ (zw [0,1,5,6] 0)
  ·rw[if_neg hym] at hE2;have hs:=za hx (za hy (za hlt (za hlt' (za hw hym))));repeat' first|(with_reducible first|refine zz ?_|refine zE Qp ?_)|simp -dsimp[kD,hs]|refine zp c1 ?_|refine i9 ?_ ?_<;>intro h<;>try exact h.elim
   all_goals exact zn ⟨(k+1,m),by simp,by simp only;omega,hm,hE2⟩ (zw [0,1,5,6] 0)
 ·have hlt':¬ (k:Int)<L.length:=by omega
  rw[List.drop_eq_nil_of_le (by omega)] at hE2;have hE3:res=m:=hE2;have hs:=za hlt hlt';repeat' first|(with_reducible first|refine zz ?_|refine zr ?_|refine zE Qp ?_)|simp -dsimp[hs]|refine i9 ?_ ?_<;>intro h<;>try exact h.elim
  all_goals simp[hE3]
theorem CQ (L:List (List Susp)) (hne:L≠[]) (hl:L.length<1000000) (ht:∀ x∈L,nn x):zP prog G 82 [.one (.im (.sl (L.map kD))),.one (.im (.fn (.func 83) []))] (C2 (kN L)):=by
 refine zf func82 ntmps82 ?_;try simp only[iv]
 have c1:=EI (G:=G) L hne hl ht;generalize kN L=r at *;simp only[C2] at c1 ⊢;repeat' first|(with_reducible first|refine zz ?_|refine zx ?_|refine zE [0,1,4] ?_)|simp -dsimp|refine zp c1 ?_
attribute [simp] s7 cN u9 A4 nilV J1 ZK
theorem yv {n:Nat} {d:Desk} (hd:DkOk n d) (hn:n<40000):nn (L7 d):=by
 have hdn:=hd.n;have hl:(L7 d).length<=1+2*n:=by
  have h1:=(N7 d.notes (eD d) (eF d) d.faults.length).length_eq;have h2:=cw d.notes (eD d) (eF d) d.faults.length;unfold L7;omega
 refine⟨λx hx=>?_,by omega⟩;unfold ge;rcases listS_mem.1 hx with⟨_,rfl⟩|⟨i,h1,_,rfl⟩|⟨i,h1,_,rfl⟩
 ·simp
 ·simp[km];omega
 ·simp[kx];omega
def eE (D:List Desk) (k:Nat):List (List IC):=(((D.take k).map L7)).map kD
theorem uJ {D:List Desk} {k:Nat} (h:k<D.length):eE D (k+1)=eE D k++[[.sl ((L7 D[k]).map j6)]]:=by
 unfold eE;rw[List.take_succ_eq_append_getElem h,List.map_append,List.map_append];rfl
theorem oV {D:List Desk} {k:Nat} (h:k<=D.length):(eE D k).length=k:=by simp[eE];omega
theorem yu (D:List Desk):eE D D.length=(D.map L7).map kD:=by simp[eE]
noncomputable def ql (c:Case):List Susp:=if G4 c=0 then kN ((n8 c).map L7) else []
@[simp] abbrev WA:List Nat:=[0,1,2,3,4,5,6,8,15,17,18,19,20]
theorem yT (c:Case) (hG:p5 G) (hN:D5 G) (hS:u6 G) (hU:V3 G) (hR:w8 G) (hC:K7 G) (hF:jO G) (hk:KC c):zP prog G 28 [n5 c] (.tup [C2 (ql c),iv (G4 c)]):=by
 refine zf func28 ntmps28 ?_;try simp only[iv]
 have c1:=fD (G:=G) c hG hN hS hR hC hk;have hq:=hk.q;by_cases h0:G4 c=0
 ·rw[h0,show qM c=n8 c by unfold qM;rw[if_pos h0]] at c1;have hdl:=aI (I6 h0).1;have c3:=λd (h:d∈n8 c)=>sd (G:=G) d c.pieces.length (bh hk d h) (by omega) (mO (I6 h0).1 d h) hF hU;have hO:ql c=kN ((n8 c).map L7):=by unfold ql;rw[if_pos h0]
  have c2:=CQ (G:=G) ((n8 c).map L7) (by intro e;have:=congrArg List.length e;simp at this;rw[this] at hdl;simp at hdl) (by simp;omega) (λx hx=>by
   obtain⟨d,hd,rfl⟩:=List.mem_map.1 hx;exact yv (bh hk d hd) (by omega))
  rw[h0,hO];generalize kN ((n8 c).map L7)=res at *;generalize n8 c=D at *;simp only[n5,j4,kW,be,C2,List.map_cons,List.map_nil] at c1 c2 c3 ⊢;clear hO;have hs:=trivial;repeat' first|(with_reducible first|refine zz ?_|refine zE WA ?_)|simp -dsimp[hs]|refine zp c1 ?_|refine i9 ?_ ?_<;>intro h<;>try exact h.elim
  all_goals try clear hs
  refine i6 (ι:={ p:Nat×Nat×Bool // p.1<=D.length }) (λp=>⟨31,[(6,.one (.vec 2 p.1.2.1 0 p.1.1)),(17,.one (.im (.sl (D.map V6)))),(18,iv (D.length:Int)),(19,iv (p.1.1:Int))],[.row ((j4 c).map .im),.vec 2 [] 0 true,.vec 1 (l7 (eE D p.1.1)) p.1.2.1 p.1.2.2]⟩) (λp=>D.length-p.1.1) ⟨(0,0,true),by simp⟩ (zv [6,17,18,19] (by simp[l7,eE])) ?_;rintro⟨⟨k,g,nl⟩,hk1⟩;simp only at hk1;simp only[iv];by_cases hlt:k<D.length
  ·have hw:=zk k;have hx0:D[k]?=some D[k]:=by simp[hlt]
   have c4:=c3 D[k] (List.getElem_mem hlt);have e1:=uJ hlt;have hll:=oV (D:=D) hk1;generalize hx:D[k]=d at *;generalize eE D k=L at *;generalize L7 d=f at *;have htk:List.take k (l7 L)=l7 L:=List.take_of_length_le (by simp[l7,hll]);have hs:=za hx (za hx0 (za hlt (za hw (za htk hll))));repeat' first|(with_reducible first|refine zz ?_|refine And.intro (by omega) ?_|refine zE WA ?_)|simp -dsimp[hs]|refine zp c4 ?_|refine i9 ?_ ?_<;>intro h<;>try exact h.elim
   all_goals try clear hs
   all_goals exact zn ⟨(k+1,g+1,false),by simp only;omega⟩ (zw [6,17,18,19] 3 (by simp[e1,htk,hll,W9]))
  ·obtain rfl:k=D.length:=by omega
   have hll:=oV (D:=D) (Nat.le_refl _);rw[<- yu] at c2;generalize eE D D.length=L at *;have htk:List.take D.length (l7 L)=l7 L:=List.take_of_length_le (by simp[l7,hll]);have hs:=za hlt (za htk hll);repeat' first|(with_reducible first|refine zz ?_|refine zr ?_|refine zE WA ?_)|simp -dsimp[hs]|refine CallE.freeze 0 (c2 []) ?_ ?_ ?_ ?_ ?_ ?_;(focus simp;done);(focus simp[htk,hll];done);(focus simp;done);(focus rfl);(focus simp;done);try simp -dsimp[u9]|refine i9 ?_ ?_<;>intro h<;>try exact h.elim
   all_goals try clear hs
 ·have hO:ql c=[]:=by unfold ql;rw[if_neg h0]
  rw[hO];simp only[n5,j4,be,List.map_cons,List.map_nil] at c1 ⊢;have hs:=h0;repeat' first|(with_reducible first|refine zz ?_|refine zr ?_|refine zE WA ?_)|simp -dsimp[hs]|refine zp c1 ?_|refine i9 ?_ ?_<;>intro h<;>try exact h.elim
  all_goals try clear hs
end Go.Proofs
namespace Go.Ab
open Go
def aT (L:List E8):Int:=if (true,true)∈L then 2 else if (true,false)∈L\/(false,true)∈L then 1 else 0
def iD:List E8->Int->Int
 | [],n=>n
 | f :: r,n=>iD r (if f=(false,false) then n else if f=(true,true) then 2 else max n 1)
theorem aS:∀ (L:List E8) (n:Int),(n=0\/n=1\/n=2)->iD L n=if n=2\/(true,true)∈L then 2 else if n=1\/(true,false)∈L\/(false,true)∈L then 1 else 0
 | [],n,h=>by simp[iD];omega
 | ⟨a,b⟩ :: r,n,h=>by
   rw[iD];cases a<;>cases b
   ·rw[if_pos rfl,aS r n h];simp
   ·rw[if_neg (by simp),if_neg (by simp),aS r _ (by omega)];rcases h with rfl|rfl|rfl<;>simp[show max (0:Int) 1=1 from rfl,show max (1:Int) 1=1 from rfl,show max (2:Int) 1=2 from rfl]
   ·rw[if_neg (by simp),if_neg (by simp),aS r _ (by omega)];rcases h with rfl|rfl|rfl<;>simp[show max (0:Int) 1=1 from rfl,show max (1:Int) 1=1 from rfl,show max (2:Int) 1=2 from rfl]
   ·rw[if_neg (by simp),if_pos rfl,aS r _ (by omega)];simp
theorem ud (L:List E8):iD L 0=aT L:=by
 rw[aS L 0 (.inl rfl)];unfold aT;simp
def bS (F:List (List E8)) (k:Nat):Int:=((F.take k).map aT).sum
def Y7 (d:Desk):Int:=(if d.notes=true then 1 else 0)+(d.faults.map aT).sum
theorem ej (L:List E8):0<=aT L/\aT L<=2:=by unfold aT;split<;>(try split)<;>omega
theorem eY {F:List (List E8)} {k:Nat} (h:k<F.length):bS F (k+1)=bS F k+aT F[k]:=by
 unfold bS;rw[List.take_succ_eq_append_getElem h,List.map_append,List.sum_append];simp
theorem lS (F:List (List E8)):∀ k:Nat,0<=bS F k/\bS F k<=2*k
 | 0=>by simp[bS]
 | k+1=>by
   have:=lS F k;by_cases h:k<F.length
   ·have h2:=ej F[k];rw[eY h];omega
   ·have:bS F (k+1)=bS F k:=by unfold bS;rw[List.take_of_length_le (by omega),List.take_of_length_le (by omega)]
    omega
def pR:List Int->Int
 | []=>0
 | x :: r=>r.foldl min x
def pT:List Int->Int
 | []=>0
 | x :: r=>r.foldl max x
end Go.Ab
namespace Go.Proofs
open Go Go.Ab
variable {G:MF}
attribute [simp] s7 cN u9 A4 nilV J1 ZK
theorem Hp (L:List Int) (hne:L≠[]) (hl:L.length<1000000):zP Tryz.prog G 88 [v8 L] (iv (pR L)):=by
 refine zf Tryz.func88 Tryz.ntmps88 ?_;try simp only[v8]
 obtain⟨x0,r0,rfl⟩:∃ x r,L=x :: r:=by
  cases L with
  | nil=>exact absurd rfl hne
  | cons x r=>exact⟨x,r,rfl⟩
 have hE:pR (x0 :: r0)=((x0 :: r0).drop 1).foldl min x0:=rfl;have hl1:¬ ((x0 :: r0).length:Int)<1:=by simp;omega
 have hlp:0<(x0 :: r0).length:=by simp
 have hx1:(x0 :: r0)[0]?=some x0:=rfl;have hx2:(x0 :: r0)[0]=x0:=rfl;have hk1:1<=(x0 :: r0).length:=hlp;generalize (x0 :: r0)=L at *;generalize pR L=res at *;have hs:=za hl1 (za hx1 (za hx2 hlp));repeat' first|(with_reducible first|refine zz ?_|refine zE [0,2,3,4,7,15] ?_)|simp -dsimp[hs]|refine i9 ?_ ?_<;>intro h<;>try exact h.elim
 refine i6 (ι:={ p:Nat×Int // 1<=p.1/\p.1<=L.length/\res=(L.drop p.1).foldl min p.2 }) (λp=>⟨25,[(0,v8 L),(3,iv p.1.2),(4,iv (p.1.1:Int))],[]⟩) (λp=>L.length-p.1.1) ⟨(1,x0),Nat.le_refl _,hk1,hE⟩ (zw [0,3,4] 0) ?_;rintro⟨⟨k,m⟩,hk1',hk,hE2⟩;simp only at hk1' hk hE2;simp only[iv,v8];by_cases hlt:k<L.length
 ·have hlt':(k:Int)<L.length:=by omega
  have hw:=zk k;have hx:L[k]?=some L[k]:=by simp[hlt]
  rw[List.drop_eq_getElem_cons hlt,List.foldl_cons] at hE2;generalize hy:L[k]=y at *;have hs:=za hx (za hy (za hlt (za hlt' hw)));repeat' first|(with_reducible first|refine zz ?_|refine zE [0,2,3,4,7,15] ?_)|simp -dsimp[hs]|refine i9 ?_ ?_<;>intro h<;>try exact h.elim
  all_goals exact zn ⟨(k+1,min m y),by simp,by simp only;omega,hE2⟩ (zw [0,3,4] 0)
 ·have hlt':¬ (k:Int)<L.length:=by omega
  rw[List.drop_eq_nil_of_le (by omega)] at hE2;have hE3:res=m:=hE2;have hs:=za hlt hlt';repeat' first|(with_reducible first|refine zz ?_|refine zr ?_|refine zE [0,2,3,4,7,15] ?_)|simp -dsimp[hs]|refine i9 ?_ ?_<;>intro h<;>try exact h.elim
  all_goals simp[hE3]
theorem Hr (L:List Int) (hne:L≠[]) (hl:L.length<1000000):zP Tryz.prog G 89 [v8 L] (iv (pT L)):=by
 refine zf Tryz.func89 Tryz.ntmps89 ?_;try simp only[v8]
 obtain⟨x0,r0,rfl⟩:∃ x r,L=x :: r:=by
  cases L with
  | nil=>exact absurd rfl hne
  | cons x r=>exact⟨x,r,rfl⟩
 have hE:pT (x0 :: r0)=((x0 :: r0).drop 1).foldl max x0:=rfl;have hl1:¬ ((x0 :: r0).length:Int)<1:=by simp;omega
 have hlp:0<(x0 :: r0).length:=by simp
 have hx1:(x0 :: r0)[0]?=some x0:=rfl;have hx2:(x0 :: r0)[0]=x0:=rfl;have hk1:1<=(x0 :: r0).length:=hlp;generalize (x0 :: r0)=L at *;generalize pT L=res at *;have hs:=za hl1 (za hx1 (za hx2 hlp));repeat' first|(with_reducible first|refine zz ?_|refine zE [0,2,3,4,7,15] ?_)|simp -dsimp[hs]|refine i9 ?_ ?_<;>intro h<;>try exact h.elim
 refine i6 (ι:={ p:Nat×Int // 1<=p.1/\p.1<=L.length/\res=(L.drop p.1).foldl max p.2 }) (λp=>⟨25,[(0,v8 L),(3,iv p.1.2),(4,iv (p.1.1:Int))],[]⟩) (λp=>L.length-p.1.1) ⟨(1,x0),Nat.le_refl _,hk1,hE⟩ (zw [0,3,4] 0) ?_;rintro⟨⟨k,m⟩,hk1',hk,hE2⟩;simp only at hk1' hk hE2;simp only[iv,v8];by_cases hlt:k<L.length
 ·have hlt':(k:Int)<L.length:=by omega
  have hw:=zk k;have hx:L[k]?=some L[k]:=by simp[hlt]
  rw[List.drop_eq_getElem_cons hlt,List.foldl_cons] at hE2;generalize hy:L[k]=y at *;have hs:=za hx (za hy (za hlt (za hlt' hw)));repeat' first|(with_reducible first|refine zz ?_|refine zE [0,2,3,4,7,15] ?_)|simp -dsimp[hs]|refine i9 ?_ ?_<;>intro h<;>try exact h.elim
  all_goals exact zn ⟨(k+1,max m y),by simp,by simp only;omega,hE2⟩ (zw [0,3,4] 0)
 ·have hlt':¬ (k:Int)<L.length:=by omega
  rw[List.drop_eq_nil_of_le (by omega)] at hE2;have hE3:res=m:=hE2;have hs:=za hlt hlt';repeat' first|(with_reducible first|refine zz ?_|refine zr ?_|refine zE [0,2,3,4,7,15] ?_)|simp -dsimp[hs]|refine i9 ?_ ?_<;>intro h<;>try exact h.elim
  all_goals simp[hE3]
def By (D:List Desk) (k:Nat):List Int:=(D.take k).map λd=>((L7 d).length:Int)
def BW (D:List Desk) (k:Nat):List Int:=(D.take k).map Y7
theorem Bx {D:List Desk} {k:Nat} (h:k<D.length):By D (k+1)=By D k++[((L7 D[k]).length:Int)]:=by
 unfold By;rw[List.take_succ_eq_append_getElem h,List.map_append];rfl
theorem BV {D:List Desk} {k:Nat} (h:k<D.length):BW D (k+1)=BW D k++[Y7 D[k]]:=by
 unfold BW;rw[List.take_succ_eq_append_getElem h,List.map_append];rfl
theorem wl {D:List Desk} {k:Nat} (h:k<=D.length):(By D k).length=k:=by simp[By];omega
theorem wq {D:List Desk} {k:Nat} (h:k<=D.length):(BW D k).length=k:=by simp[BW];omega
theorem xK (d:Desk) (z:Int) (h:(if d.notes=true then 1 else 0)=z):z+bS d.faults d.faults.length=Y7 d:=by
 unfold Y7 bS;rw[List.take_length,h]
noncomputable def fJ (c:Case):Int×Int:=if G4 c=0 then (pR ((n8 c).map λd=>((L7 d).length:Int)),pT ((n8 c).map Y7)) else (0,0)
@[simp] abbrev QE:List Nat:=[0,1,2,3,4,5,6,7,9,10,12,13,15,22,25,26,27,28,34,38,39,40,41,44,45,46,47,52,60]
@[simp] abbrev WB:List Nat:=[2,3,6,7,9,10,13,25,26,27,38,39,40,44,45,46]
theorem ng (c:Case) (hG:p5 G) (hN:D5 G) (hS:u6 G) (hU:V3 G) (hR:w8 G) (hC:K7 G) (hF:jO G) (hk:KC c):zP Tryz.prog G 30 [n5 c] (.tup [E0 (fJ c).1 (fJ c).2,iv (G4 c)]):=by
 refine zf Tryz.func30 Tryz.ntmps30 ?_;try simp only[iv]
 have g1:G 0=some [.raw (.bool false),.raw (.bool false)]:=hF.1;have c1:=fD (G:=G) c hG hN hS hR hC hk;have hq:=hk.q;by_cases h0:G4 c=0
 ·rw[h0,show qM c=n8 c by unfold qM;rw[if_pos h0]] at c1;have hdl:=aI (I6 h0).1;have hdk:=bh hk;have c3:=λd (h:d∈n8 c)=>sd (G:=G) d c.pieces.length (bh hk d h) (by omega) (mO (I6 h0).1 d h) hF hU;have hO:fJ c=(pR ((n8 c).map λd=>((L7 d).length:Int)),pT ((n8 c).map Y7)):=by unfold fJ;rw[if_pos h0]
  have hne:∀ f:Desk->Int,(n8 c).map f≠[]:=λf e=>by have:=congrArg List.length e;simp at this;rw[this] at hdl;simp at hdl
  have c4:=Hp (G:=G) ((n8 c).map λd=>((L7 d).length:Int)) (hne _) (by simp;omega);have c5:=Hr (G:=G) ((n8 c).map Y7) (hne _) (by simp;omega);rw[h0,hO];generalize pR ((n8 c).map λd=>((L7 d).length:Int))=r1 at *;generalize pT ((n8 c).map Y7)=r2 at *;clear hne hO;generalize n8 c=D at *;simp only[n5,j4,kW,be,C2,List.map_cons,List.map_nil] at c1 c3 ⊢;have hs:=trivial;repeat' first|(with_reducible first|refine zz ?_|refine zE QE ?_)|simp -dsimp[hs]|refine zp c1 ?_|refine i9 ?_ ?_<;>intro h<;>try exact h.elim
  all_goals try clear hs
  refine i6 (ι:={ p:Nat×Nat×Bool×Nat×Bool // p.1<=D.length }) (λp=>⟨82,[(2,.one (.ptr 1 0)),(3,iv 0),(6,.one (.vec 2 p.1.2.1 0 p.1.1)),(7,.one (.vec 3 p.1.2.2.2.1 0 p.1.1)),(25,.one (.im (.sl (D.map V6)))),(26,iv (D.length:Int)),(27,iv (p.1.1:Int))],[.row ((j4 c).map .im),.row [.im (rI 0),.im (rI 0)],.vec 1 (l7 ((By D p.1.1).map Ab.encI)) p.1.2.1 p.1.2.2.1,.vec 1 (l7 ((BW D p.1.1).map Ab.encI)) p.1.2.2.2.1 p.1.2.2.2.2]⟩) (λp=>D.length-p.1.1) ⟨(0,0,true,0,true),by simp⟩ (zv [2,3,6,7,25,26,27] (by simp[l7,By,BW])) ?_;rintro⟨⟨k,ga,na,gb,nb⟩,hk1⟩;simp only at hk1;simp only[iv];by_cases hlt:k<D.length
  ·have hw:=zk k;have hx0:D[k]?=some D[k]:=by simp[hlt]
   have c6:=c3 D[k] (List.getElem_mem hlt);have hdd:=hdk D[k] (List.getElem_mem hlt);have e1:=Bx hlt;have e2:=BV hlt;have hl1:=wl (D:=D) hk1;have hl2:=wq (D:=D) hk1;generalize hx:D[k]=d at *;generalize By D k=L1 at *;generalize BW D k=L2 at *;have hma:=xK d;have hF0:bS d.faults 0=0:=by simp[bS]
   have hdn:=hdd.n;have htk1:List.take k (l7 (L1.map Ab.encI))=l7 (L1.map Ab.encI):=List.take_of_length_le (by simp[l7,hl1]);have htk2:List.take k (l7 (L2.map Ab.encI))=l7 (L2.map Ab.encI):=List.take_of_length_le (by simp[l7,hl2]);generalize L7 d=fl at *;simp only[bF,U7] at c6;obtain⟨Z,hZ⟩:∃ Z:Int,(if d.notes=true then 1 else 0)=Z:=⟨_,rfl⟩
   have hma:=hma Z hZ;have hZr:0<=Z/\Z<=1:=by rw[<- hZ];split<;>omega
   have hs:True:=trivial;cases hnt:d.notes
   all_goals
    rw[hnt] at hZ;simp only[Bool.false_eq_true,if_false,if_true] at hZ;replace hZ:=hZ.symm;have hs:=za hx (za hx0 (za hlt hnt));repeat' first|(with_reducible first|refine zz ?_|refine zE QE ?_)|simp -dsimp[V6,bF,U7,hs]|refine i9 ?_ ?_<;>intro h<;>try exact h.elim
    all_goals try clear hs
   all_goals
    refine i6 (ι:={ q:Nat // q<=d.faults.length }) (λq=>⟨82,[(2,.one (.ptr 1 0)),(3,iv 0),(6,.one (.vec 2 ga 0 k)),(7,.one (.vec 3 gb 0 k)),(9,.one (.im (.ip (j4 d.c++[.raw (.bool d.notes),.sl (d.faults.map K6)])))),(10,iv (Z+bS d.faults q.1)),(25,.one (.im (.sl (D.map V6)))),(26,iv (D.length:Int)),(27,iv (k:Int)),(38,.one (.im (.sl (d.faults.map K6)))),(39,iv (d.faults.length:Int)),(40,iv (q.1:Int))],[.row ((j4 c).map .im),.row [.im (rI 0),.im (rI 0)],.vec 1 (l7 (L1.map Ab.encI)) ga na,.vec 1 (l7 (L2.map Ab.encI)) gb nb]⟩) (λq=>d.faults.length-q.1) ⟨0,by simp⟩ (zv [2,3,6,7,9,10,25,26,27,38,39,40] (by simp[hnt,hF0,hZ])) ?_;clear hnt hZ;rintro⟨q,hq1⟩;simp only[iv];have hsr:=lS d.faults q;by_cases hlq:q<d.faults.length
    ·have hwq:=zk q;have hy0:d.faults[q]?=some d.faults[q]:=by simp[hlq]
     have hst:=eY hlq;have hfl:=hdd.l _ (List.getElem_mem hlq);generalize hy:d.faults[q]=y at *;have hmz:=ud y;have hmr:=ej y;generalize bS d.faults q=S at *;have hwS:IntKind.i64.wrap (Z+S+aT y)=Z+S+aT y:=p9 (by omega) (by omega);rw[<- hmz] at hst hwS;clear hmz hmr;have hs:=za hy (za hy0 hlq);repeat' first|(with_reducible first|refine zz ?_|refine zE QE ?_)|simp -dsimp[hs]|refine i9 ?_ ?_<;>intro h<;>try exact h.elim
     all_goals try clear hs
     refine i6 (ι:={ p:Nat×Int // p.1<=y.length/\(p.2=0\/p.2=1\/p.2=2)/\iD y 0=iD (y.drop p.1) p.2 }) (λp=>⟨82,[(2,.one (.ptr 1 0)),(3,iv 0),(6,.one (.vec 2 ga 0 k)),(7,.one (.vec 3 gb 0 k)),(9,.one (.im (.ip (j4 d.c++[.raw (.bool d.notes),.sl (d.faults.map K6)])))),(10,iv (Z+S)),(13,iv p.1.2),(25,.one (.im (.sl (D.map V6)))),(26,iv (D.length:Int)),(27,iv (k:Int)),(38,.one (.im (.sl (d.faults.map K6)))),(39,iv (d.faults.length:Int)),(40,iv (q:Int)),(44,.one (.im (.sl (y.map D6)))),(45,iv (y.length:Int)),(46,iv (p.1.1:Int))],[.row ((j4 c).map .im),.row [.im (rI 0),.im (rI 0)],.vec 1 (l7 (L1.map Ab.encI)) ga na,.vec 1 (l7 (L2.map Ab.encI)) gb nb]⟩) (λp=>y.length-p.1.1) ⟨(0,0),by simp⟩ (zv [2,3,6,7,9,10,13,25,26,27,38,39,40,44,45,46]) ?_;rintro⟨⟨j,n⟩,hj,hn3,hE⟩;simp only at hj hn3 hE;simp only[iv];by_cases hlj:j<y.length
     ·have hwj:=zk j;have hv0:y[j]?=some y[j]:=by simp[hlj]
      have hE2:=hE;rw[List.drop_eq_getElem_cons hlj,iD] at hE2;generalize hv:y[j]=v at *;obtain⟨v1,v2⟩:=v;have hm1:max n 1=1\/max n 1=2:=by omega
      have hs:True:=trivial;cases v1<;>cases v2
      all_goals
       simp at hE2;have hs:=za hv (za hv0 (za hlj (za hwj g1)));repeat' first|(with_reducible first|refine zz ?_|refine zE QE ?_)|simp -dsimp[hs]|refine i9 ?_ ?_<;>intro h<;>try exact h.elim
       all_goals try clear hs
      ·exact zn ⟨(j+1,n),by omega,hn3,hE2⟩ (zw WB 4)
      ·exact zn ⟨(j+1,max n 1),by omega,by omega,hE2⟩ (zw WB 4)
      ·exact zn ⟨(j+1,max n 1),by omega,by omega,hE2⟩ (zw WB 4)
      ·exact zn ⟨(j+1,2),by omega,.inr (.inr rfl),hE2⟩ (zw WB 4)
     ·have hE2:=hE;rw[List.drop_eq_nil_of_le (by omega)] at hE2;have hE3:iD y 0=n:=hE2;rw[hE3] at hst hwS;have hs:=za hlj (za hwq hwS);repeat' first|(with_reducible first|refine zz ?_|refine zE QE ?_)|simp -dsimp[hs]|refine i9 ?_ ?_<;>intro h<;>try exact h.elim
      all_goals try clear hs
      all_goals exact zn ⟨q+1,by omega⟩ (zw [2,3,6,7,9,10,25,26,27,38,39,40] 4 (by simp[hst,Int.add_assoc]))
    ·obtain rfl:q=d.faults.length:=by omega
     rw[hma];generalize Y7 d=M at *;have hs:=za hlq (za hw (za htk1 (za htk2 (za hl1 hl2))));repeat' first|(with_reducible first|refine zz ?_|refine And.intro (by omega) ?_|refine zE QE ?_)|simp -dsimp[hs]|refine zp c6 ?_|refine i9 ?_ ?_<;>intro h<;>try exact h.elim
     all_goals try clear hs
     all_goals exact zn ⟨(k+1,ga+1,false,gb+1,false),by simp only;omega⟩ (zw [2,3,6,7,25,26,27] 4 (by simp[e1,e2,htk1,htk2,hl1,hl2]))
  ·obtain rfl:k=D.length:=by omega
   have hl1:=wl (D:=D) hk1;have hl2:=wq (D:=D) hk1;have hE1:(D.map λd=>((L7 d).length:Int))=By D D.length:=by simp[By]
   have hE2:D.map Y7=BW D D.length:=by simp[BW]
   rw[hE1] at c4;rw[hE2] at c5;generalize By D D.length=L1 at *;generalize BW D D.length=L2 at *;have htk1:List.take D.length (l7 (L1.map Ab.encI))=l7 (L1.map Ab.encI):=List.take_of_length_le (by simp[l7,hl1]);have htk2:List.take D.length (l7 (L2.map Ab.encI))=l7 (L2.map Ab.encI):=List.take_of_length_le (by simp[l7,hl2]);simp only[v8] at c4 c5;have hs:=za hlt (za htk1 (za htk2 (za hl1 hl2)));repeat' first|(with_reducible first|refine zz ?_|refine zr ?_|refine zE QE ?_)|simp -dsimp[hs]|refine CallE.thaw c4 ?_ ?_ ?_;(focus simp[htk1,hl1];done);(focus simp;done)|refine CallE.thaw c5 ?_ ?_ ?_;(focus simp[htk2,hl2];done);(focus simp;done)|refine i9 ?_ ?_<;>intro h<;>try exact h.elim
   all_goals try clear hs
 ·have hO:fJ c=(0,0):=by unfold fJ;rw[if_neg h0]
  rw[hO];simp only[n5,j4,be,E0,List.map_cons,List.map_nil] at c1 ⊢;have hs:=h0;repeat' first|(with_reducible first|refine zz ?_|refine zr ?_|refine zE QE ?_)|simp -dsimp[hs]|refine zp c1 ?_|refine i9 ?_ ?_<;>intro h<;>try exact h.elim
  all_goals try clear hs
end Go.Proofs
namespace Go.Ab
open Go
end Go.Ab
namespace Go.Proofs
open Go Go.Ab
variable {G:MF}
attribute [simp] s7 cN u9 A4 nilV J1 ZK
theorem og {a b:Susp}:N3 a b=0↔a=b:=by
 obtain⟨a1,a2⟩:=a;obtain⟨b1,b2⟩:=b;unfold N3 W3 W3 W3;rw[Susp.mk.injEq];simp only;split
 ·split<;>omega
 ·omega
end Go.Proofs
namespace Go.Proofs
open Go Go.Ab
variable {G:MF}
attribute [simp] s7 cN u9 A4 nilV J1 ZK
open Go Go.Ab Tryz
attribute [simp] s7 cN u9 A4 nilV J1 ZK
@[simp] abbrev Qx:List Nat:=[0,1,4,5,10,14,25]
theorem oa (l:List Susp) (hl:l.length<100000):zP prog G 23 [C2 l,C2 l] (bv true):=by
 refine zf func23 ntmps23 ?_;try simp only[iv]
 simp only[C2];have hs:=trivial;repeat' first|(with_reducible first|refine zz ?_|refine zE Qx ?_)|simp -dsimp[hs]|refine i9 ?_ ?_<;>intro h<;>try exact h.elim
 refine i6 (ι:={ k:Nat // k<=l.length }) (λp=>⟨26,[(0,.one (.im (.sl (l.map j6)))),(1,.one (.im (.sl (l.map j6)))),(5,iv (p.1:Int))],[]⟩) (λp=>l.length-p.1) ⟨0,by simp⟩ (zv [0,1,5]) ?_;rintro⟨k,hk⟩;simp only[iv];by_cases hlt:k<l.length
 ·have hlt':(k:Int)<l.length:=by omega
  have hw:=zk k;generalize hx:l[k]=x at *;have hs:=za hx (za hlt (za hlt' hw));repeat' first|with_reducible refine zz ?_|simp -dsimp[hs]|refine zM 6 26 9 Qx ?_|with_reducible refine zE Qx ?_|refine i9 ?_ ?_<;>intro h<;>try exact h.elim
  all_goals exact zn ⟨k+1,by omega⟩ (zv [0,1,5])
 ·obtain rfl:k=l.length:=by omega
  have hlt':¬ (l.length:Int)<l.length:=by omega
  have hs:=za hlt hlt';repeat' first|(with_reducible first|refine zz ?_|refine zr ?_|refine zE Qx ?_)|simp -dsimp[hs]|refine i9 ?_ ?_<;>intro h<;>try exact h.elim
attribute [simp] s7 cN u9 A4 nilV J1 ZK
theorem ia (c:Case) (k:Int) (hq:c.pieces.length<=16):(aK c k).length<100000:=by
 unfold aK;split
 ·have h1:=List.length_filter_le (λs=>decide (EU c s=k)) (br c.pieces.length);have h2:=nh c.pieces.length;unfold GD;omega
 ·simp
attribute [simp] s7 cN u9 A4 nilV J1 ZK
structure TrOk (c:Case) (T:List (List Int)):Prop where
 h:∀ t∈T,J0 (l5 (j7 c.p.n.notes)) t=true/\t.length<1000
 l:T.length<=32
 p:1<=T.length
attribute [simp] s7 cN u9 A4 nilV J1 ZK
end Go.Proofs
namespace Go.Ab
open Go
abbrev Q4:=DObj×DObj×DObj×DObj
abbrev Q2:=DObj×DObj
def G5 (F:Nat->Q4):Nat->List DObj
 | 0=>[]
 | n+1=>G5 F n++[(F n).1,(F n).2.1,(F n).2.2.1,(F n).2.2.2]
def J6 (F:Nat->Q2):Nat->List DObj
 | 0=>[]
 | n+1=>J6 F n++[(F n).1,(F n).2]
@[simp] theorem fr (F:Nat->Q4):∀ n,(G5 F n).length=4*n
 | 0=>rfl
 | n+1=>by simp[G5,fr F n];omega
@[simp] theorem ft (F:Nat->Q2):∀ n,(J6 F n).length=2*n
 | 0=>rfl
 | n+1=>by simp[J6,ft F n];omega
theorem jP (F:Nat->Q4) {i j:Nat} (hj:j<4):∀ {n},i<n->(G5 F n)[4*i+j]?=[(F i).1,(F i).2.1,(F i).2.2.1,(F i).2.2.2][j]?
 | n+1,h=>by
   rw[G5];rcases Nat.eq_or_lt_of_le (Nat.le_of_lt_succ h) with rfl|h1
   ·rw[List.getElem?_append_right (by simp),fr,Nat.add_sub_cancel_left]
   ·rw[List.getElem?_append_left (by simp;omega)];exact jP F hj h1
theorem oS (F:Nat->Q2) {i j:Nat} (hj:j<2):∀ {n},i<n->(J6 F n)[2*i+j]?=[(F i).1,(F i).2][j]?
 | n+1,h=>by
   rw[J6];rcases Nat.eq_or_lt_of_le (Nat.le_of_lt_succ h) with rfl|h1
   ·rw[List.getElem?_append_right (by simp),ft,Nat.add_sub_cancel_left]
   ·rw[List.getElem?_append_left (by simp;omega)];exact oS F hj h1
@[simp] theorem oP (f:DObj->DObj) (F:Nat->Q4):∀ n,(G5 F n).map f=G5 (λk=>(f (F k).1,f (F k).2.1,f (F k).2.2.1,f (F k).2.2.2)) n
 | 0=>rfl
 | n+1=>by simp[G5,oP f F n]
@[simp] theorem oR (f:DObj->DObj) (F:Nat->Q2):∀ n,(J6 F n).map f=J6 (λk=>(f (F k).1,f (F k).2)) n
 | 0=>rfl
 | n+1=>by simp[J6,oR f F n]
theorem eA {F H:Nat->Q4}:∀ {n},(∀ k,k<n->F k=H k)->G5 F n=G5 H n
 | 0,_=>rfl
 | n+1,h=>by rw[G5,G5,eA λk hk=>h k (by omega),h n (by omega)]
theorem eB {F H:Nat->Q2}:∀ {n},(∀ k,k<n->F k=H k)->J6 F n=J6 H n
 | 0,_=>rfl
 | n+1,h=>by rw[J6,J6,eB λk hk=>h k (by omega),h n (by omega)]
@[simp] theorem oQ (F:Nat->Q4) (n j:Nat) (R:List DObj):(G5 F n++R)[4*n+j]?=R[j]?:=by
 rw[List.getElem?_append_right (by simp),fr,Nat.add_sub_cancel_left]
@[simp] theorem HS (F:Nat->Q4) (n:Nat) (R:List DObj):(G5 F n++R)[4*n]?=R[0]?:=by
 have:=oQ F n 0 R;simpa using this
@[simp] theorem HR (F:Nat->Q4) (n a j:Nat) (R:List DObj):(G5 F n++R)[4*n+a+j]?=R[a+j]?:=by
 rw[Nat.add_assoc,oQ]
@[simp] theorem yp (F:Nat->Q2) (n j:Nat) (R:List DObj):(J6 F n++R)[2*n+j]?=R[j]?:=by
 rw[List.getElem?_append_right (by simp),ft,Nat.add_sub_cancel_left]
@[simp] theorem HU (F:Nat->Q2) (n:Nat) (R:List DObj):(J6 F n++R)[2*n]?=R[0]?:=by
 have:=yp F n 0 R;simpa using this
@[simp] theorem uE (F:Nat->Q4) (n j:Nat) (R:List DObj) (d:DObj):(G5 F n++R).set (4*n+j) d=G5 F n++R.set j d:=by
 rw[List.set_append_right _ _ (by simp),fr,Nat.add_sub_cancel_left]
@[simp] theorem Gq (F:Nat->Q4) (n a j:Nat) (R:List DObj) (d:DObj):(G5 F n++R).set (4*n+a+j) d=G5 F n++R.set (a+j) d:=by
 rw[Nat.add_assoc,uE]
@[simp] theorem HT (F:Nat->Q2) (n j:Nat) (R:List DObj) (d:DObj):(J6 F n++R).set (2*n+j) d=J6 F n++R.set j d:=by
 rw[List.set_append_right _ _ (by simp),ft,Nat.add_sub_cancel_left]
end Go.Ab
namespace Go.Proofs
open Go Go.Ab
variable {G:MF}
def G0 (P:Program) (G:MF) (f sz:Nat) (l:List (List IC)):Prop:=DCall P G f [.one (.im (.sl l))] [] (λd o=>∃ i:Nat×Bool,(i.2=true->l=[])/\d=.one (.vec 1 i.1 0 l.length)/\o=[.vec sz [] 0 true,.vec sz (l7 l) i.1 i.2])
theorem Km (l:List Issue) (hl:l.length<1000):G0 Tryz.prog G 158 5 (l.map e8):=by
 unfold G0;refine g9 Tryz.func158 rfl Tryz.ntmps158 (by simp) rfl ?_;repeat' first|(with_reducible first|refine zz ?_|refine And.intro (by omega) ?_|refine zx ?_|refine zE [0,2,4] ?_)|simp -dsimp|refine i9 ?_ ?_<;>intro h<;>try exact h.elim|with_reducible refine U5 (λh=>?_);(try simp only[List.map_eq_nil_iff] at h);(try subst h);try simp -dsimp|with_reducible refine And.intro ?_ ?_
theorem HZ (l:List Note) (hl:l.length<1000):G0 Tryz.prog G 108 10 (l.map j9):=by
 unfold G0;refine g9 Tryz.func108 rfl Tryz.ntmps108 (by simp) rfl ?_;repeat' first|(with_reducible first|refine zz ?_|refine And.intro (by omega) ?_|refine zx ?_|refine zE [0,2,4] ?_)|simp -dsimp|refine i9 ?_ ?_<;>intro h<;>try exact h.elim|with_reducible refine U5 (λh=>?_);(try simp only[List.map_eq_nil_iff] at h);(try subst h);try simp -dsimp|with_reducible refine And.intro ?_ ?_
theorem Kl (l:List Itm) (hl:l.length<1000):G0 Tryz.prog G 109 2 (l.map A1):=by
 unfold G0;refine g9 Tryz.func109 rfl Tryz.ntmps109 (by simp) rfl ?_;repeat' first|(with_reducible first|refine zz ?_|refine And.intro (by omega) ?_|refine zx ?_|refine zE [0,2,4] ?_)|simp -dsimp|refine i9 ?_ ?_<;>intro h<;>try exact h.elim|with_reducible refine U5 (λh=>?_);(try simp only[List.map_eq_nil_iff] at h);(try subst h);try simp -dsimp|with_reducible refine And.intro ?_ ?_
theorem Ko (l:List Dim) (hl:l.length<1000):G0 Tryz.prog G 110 3 (l.map D3):=by
 unfold G0;refine g9 Tryz.func110 rfl Tryz.ntmps110 (by simp) rfl ?_;repeat' first|(with_reducible first|refine zz ?_|refine And.intro (by omega) ?_|refine zx ?_|refine zE [0,2,4] ?_)|simp -dsimp|refine i9 ?_ ?_<;>intro h<;>try exact h.elim|with_reducible refine U5 (λh=>?_);(try simp only[List.map_eq_nil_iff] at h);(try subst h);try simp -dsimp|with_reducible refine And.intro ?_ ?_
theorem Ib (l:List Holder) (hl:l.length<1000):G0 Tryz.prog G 159 4 (l.map n4):=by
 unfold G0;refine g9 Tryz.func159 rfl Tryz.ntmps159 (by simp) rfl ?_;repeat' first|(with_reducible first|refine zz ?_|refine And.intro (by omega) ?_|refine zx ?_|refine zE [0,2,4] ?_)|simp -dsimp|refine i9 ?_ ?_<;>intro h<;>try exact h.elim|with_reducible refine U5 (λh=>?_);(try simp only[List.map_eq_nil_iff] at h);(try subst h);try simp -dsimp|with_reducible refine And.intro ?_ ?_
theorem FB (l:List Print) (hl:l.length<1000):G0 Tryz.prog G 160 7 (l.map A0):=by
 unfold G0;refine g9 Tryz.func160 rfl Tryz.ntmps160 (by simp) rfl ?_;repeat' first|(with_reducible first|refine zz ?_|refine And.intro (by omega) ?_|refine zx ?_|refine zE [0,2,4] ?_)|simp -dsimp|refine i9 ?_ ?_<;>intro h<;>try exact h.elim|with_reducible refine U5 (λh=>?_);(try simp only[List.map_eq_nil_iff] at h);(try subst h);try simp -dsimp|with_reducible refine And.intro ?_ ?_
theorem Kn (l:List Int) (hl:l.length<1000):G0 Tryz.prog G 161 1 (l.map Ab.encI):=by
 unfold G0;refine g9 Tryz.func161 rfl Tryz.ntmps161 (by simp) rfl ?_;repeat' first|(with_reducible first|refine zz ?_|refine And.intro (by omega) ?_|refine zx ?_|refine zE [0,2,4] ?_)|simp -dsimp|refine i9 ?_ ?_<;>intro h<;>try exact h.elim|with_reducible refine U5 (λh=>?_);(try simp only[List.map_eq_nil_iff] at h);(try subst h);try simp -dsimp|with_reducible refine And.intro ?_ ?_
theorem Ia (l:List Link) (hl:l.length<1000):G0 Tryz.prog G 162 3 (l.map H3):=by
 unfold G0;refine g9 Tryz.func162 rfl Tryz.ntmps162 (by simp) rfl ?_;repeat' first|(with_reducible first|refine zz ?_|refine And.intro (by omega) ?_|refine zx ?_|refine zE [0,2,4] ?_)|simp -dsimp|refine i9 ?_ ?_<;>intro h<;>try exact h.elim|with_reducible refine U5 (λh=>?_);(try simp only[List.map_eq_nil_iff] at h);(try subst h);try simp -dsimp|with_reducible refine And.intro ?_ ?_
theorem FC (l:List Piece) (hl:l.length<1000):G0 Tryz.prog G 163 4 (l.map A8):=by
 unfold G0;refine g9 Tryz.func163 rfl Tryz.ntmps163 (by simp) rfl ?_;repeat' first|(with_reducible first|refine zz ?_|refine And.intro (by omega) ?_|refine zx ?_|refine zE [0,2,4] ?_)|simp -dsimp|refine i9 ?_ ?_<;>intro h<;>try exact h.elim|with_reducible refine U5 (λh=>?_);(try simp only[List.map_eq_nil_iff] at h);(try subst h);try simp -dsimp|with_reducible refine And.intro ?_ ?_
end Go.Proofs
