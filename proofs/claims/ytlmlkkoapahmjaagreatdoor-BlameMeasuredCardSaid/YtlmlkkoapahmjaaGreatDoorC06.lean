/- Part 24 of the proofs. -/
import Derived.Test.YtlmlkkoapahmjaaGreatDoorR09
import Derived.Test.YtlmlkkoapahmjaaGreatDoorR16
import Derived.Test.YtlmlkkoapahmjaaGreatDoorR18
import Derived.Test.YtlmlkkoapahmjaaGreatDoorC02
import Derived.Test.YtlmlkkoapahmjaaGreatDoorC05
set_option linter.all false
set_option maxHeartbeats 100000000
namespace Go.Proofs
open Go Go.Ab Tryz
variable {G:LY}
attribute [simp] p5 cw u6 A5 nilV J0 ZK
noncomputable def Eh (c:Case):Susp->Int:=B4 (n8 c)
noncomputable def FU (c:Case) (k:Int):List Susp:=(W3 c.pieces.length).filter λs=>decide (Eh c s=k)
noncomputable def aq (c:Case) (k:Int):List Susp:=if F7 c=0 then FU c k else []
theorem wg {n:Nat} {s:Susp} (h:s∈W3 n):da n s/\0<=s.kind/\s.kind<=255:=by
 unfold da;rcases listS_mem.1 h with⟨_,rfl⟩|⟨i,h1,_,rfl⟩|⟨i,h1,_,rfl⟩
 ·simp
 ·simp[je];omega
 ·simp[dt];omega
theorem uQ (n:Nat):(W3 n).Nodup:=(Z9 _ _ _ _).imp λ{a b} h e=>by subst e;unfold U0 at h;omega
theorem mM (n:Nat):(W3 n).length<=1+2*n:=by
 have h1:=(N0 true (λ_=>true) (λ_=>true) n).length_eq;have h2:=bY true (λ_=>true) (λ_=>true) n;unfold W3;omega
theorem xr (c:Case) (s:Susp):0<=Eh c s/\Eh c s<=2:=by
 unfold Eh B4;split
 ·omega
 ·split<;>omega
@[simp] abbrev Qq:List Nat:=[0,1,2,3,4,5,6,8,9,10,12,13,20,24,25,26,27,37,39,44,48,49,50,51,57,58,64]
@[simp] abbrev WA:List Nat:=[2,3,4,6,48,49,50]
theorem eD (c:Case) (hG:p8 G) (hN:E5 G) (hS:v8 G) (hU:U4 G) (hR:A0 G) (hC:K5 G) (hK:bE G) (hk:KC c):zP prog G 12 [n4 c] (.tup [C5 (aq c 2),C5 (aq c 1),iv (F7 c)]):=by
 refine zf func12 ntmps12 ?_;try simp only[iv]
 have c1:=ff (G:=G) c hG hN hS hR hC hk;have hq:=hk.q;by_cases h0:F7 c=0
 ·have c2:=ln (G:=G) c (by omega) hU;rw[h0,show qq c=n8 c by unfold qq;rw[if_pos h0]] at c1;have hdl:=ao (E6 h0).1;have c3:=λs (h:s∈W3 c.pieces.length)=>md (G:=G) c.pieces.length (n8 c) s (wg h).1 hK (aP hk) (by omega);have hO:∀ k,aq c k=(W3 c.pieces.length).filter λs=>decide (Eh c s=k):=λk=>by unfold aq;rw[if_pos h0];rfl
  rw[h0,hO,hO];have hfr:=xr c;have hfe:∀ s,B4 (n8 c) s=Eh c s:=λs=>rfl;simp only[hfe] at c3;have hAn:=uQ c.pieces.length;have hAl:=mM c.pieces.length;clear hfe hO;generalize Eh c=f at *;generalize W3 c.pieces.length=A at *;simp only[n4,j4,E9,j6,aO,C5,rI,List.map_cons,List.map_nil] at c1 c2 c3 ⊢;have hs:=trivial;repeat' first|(with_reducible first|refine zz ?_|refine zE Qq ?_)|simp -dsimp[hs]|refine zp c1 ?_|refine zp c2 ?_|refine i8 ?_ ?_<;>intro h<;>try exact h.elim
  all_goals try clear hs
  refine i6 (ι:={ k:Nat // k<=A.length }) (λp=>⟨73,[(1,.one (.ptr 0 0)),(2,.one (.vec 1 0 0 0)),(3,.one (.vec 2 0 0 0)),(4,iv 0),(5,.one (.im (.sl ((n8 c).map U8)))),(6,.one (.map 3)),(24,.one (.im (.sl (A.map j6)))),(25,iv (A.length:Int)),(26,iv (p.1:Int))],[.row ((j4 c).map .im),.vec 2 [] 0 true,.vec 2 [] 0 true,.map [.int .u8,.int .i64] (Y7 f (A.take p.1))]⟩) (λp=>A.length-p.1) ⟨0,by simp⟩ (zv [1,2,3,4,5,6,24,25,26] (by simp[Y7])) ?_;rintro⟨k,hk1⟩;simp only[iv];by_cases hlt:k<A.length
  ·have hw:=zk k;have hx0:A[k]?=some A[k]:=by simp[hlt]
   have c4:=c3 A[k] (List.getElem_mem hlt);have hts:A.take (k+1)=A.take k++[A[k]]:=List.take_succ_eq_append_getElem hlt;have hnm:A[k]∉A.take k:=λhm=>by
    obtain⟨j,hj⟩:=List.mem_iff_getElem?.1 hm;have hjk:j<k:=by have:=e7 hj;rw[List.length_take] at this;omega
    rw[List.getElem?_take_of_lt hjk] at hj;have:=(List.getElem?_inj (e7 hj) hAn).1 (hj.trans hx0.symm);omega
   have hset:=AG (f:=f) hnm;rw[<- hts] at hset;generalize hx:A[k]=s at *;have hs:=za hx (za hx0 (za hlt (za hw hset)));repeat' first|with_reducible refine zz ?_|simp -dsimp[hs]|refine zq c4 ?_|refine zM 8 73 5 Qq ?_|with_reducible refine zE Qq ?_|refine i8 ?_ ?_<;>intro h<;>try exact h.elim
   all_goals try clear hs
   all_goals exact zn ⟨k+1,by omega⟩ (zw [1,2,3,4,5,6,24,25,26] 4)
  ·obtain rfl:k=A.length:=by omega
   simp only[List.take_length];have hs:=hlt;repeat' first|(with_reducible first|refine zz ?_|refine zE Qq ?_)|simp -dsimp[hs]|refine i8 ?_ ?_<;>intro h<;>try exact h.elim
   all_goals try clear hs
   intro l c0 b hll hln hlc;rw[BF] at hll;have hP1:(A.zip l).map (·.1)=A:=List.map_fst_zip (by omega);have hP2:(A.zip l).map (·.2)=l:=List.map_snd_zip (by omega);have hPn:((A.zip l).map (·.2)).Nodup:=by rw[hP2];exact hln
   clear c1 c3 hlt hk1;generalize A.zip l=P at *;subst hP2;have hAnP:(P.map (·.1)).Nodup:=by rw[hP1];exact hAn
   obtain⟨g,hg⟩:∃ g:Susp->Bool,g=λs=>decide (f s≠0):=⟨_,rfl⟩
   have hs:=trivial;repeat' first|with_reducible refine zz ?_|simp -dsimp[hs]
   all_goals try clear hs
   refine i6 (ι:={ p:List Nat×List Nat×List Susp // p.2.1=(T4 g P p.1).map (·.2)/\p.2.2=(T4 g P p.1).map (·.1) }) (λp=>⟨73,[(1,.one (.ptr 0 0)),(2,.one (.vec 1 0 0 0)),(3,.one (.vec 2 0 0 0)),(4,iv 0),(6,.one (.map 3)),(37,.one (.itr 4))],[.row ((j4 c).map .im),.vec 2 [] 0 true,.vec 2 [] 0 true,.map [.st p.1.2.1 c0 b,.int .u8,.int .i64] (Y7 f p.1.2.2),.liter b p.1.1 c0]⟩) (λp=>Da P p.1.1) ⟨([],P.map (·.2),P.map (·.1)),by simp[xj]⟩ (zv [1,2,3,4,6,37] (by simp[hP1])) ?_;rintro⟨⟨seen,l,K⟩,hl,hK'⟩;simp only at hl hK';simp only[iv];have hs:=trivial;repeat' first|(with_reducible first|refine zz ?_|refine zE Qq ?_)|simp -dsimp[hs]|refine i8 ?_ ?_<;>intro h<;>try exact h.elim|with_reducible refine W0 (λh=>?_);(try simp only[List.map_eq_nil_iff] at h);(try subst h);try simp -dsimp[hs]|with_reducible refine And.intro ?_ ?_
   all_goals try clear hs
   ·have hend:K=(P.map (·.1)).filter g:=by rw[hK'];exact xk (by rw[<- hl];assumption)
    rw[hP1] at hend;have hget:∀ s∈A,P1 [.int .u8 s.kind,.int .i64 s.index] (Y7 f K) [.im (.raw (.int .u8 0))]=[.im (.raw (.int .u8 (f s)))]:=λs hs=>by
     rw[AM,hend];by_cases hf0:f s=0
     ·simp[hf0]
     ·rw[if_pos (List.mem_filter.2 ⟨hs,by rw[hg];simp[hf0]⟩)]
    have himE:List.map (λx:List Value×List IC=>(x.1,List.map DC.im x.2)) (oz f K)=Y7 f K:=GW f K;clear hend hK' hl hg;have hs:=trivial;repeat' first|with_reducible refine zz ?_|simp -dsimp[hs]|refine zp c2 ?_
    all_goals try clear hs
    refine i6 (ι:={ p:Nat×Nat×Bool×Nat×Bool // p.1<=A.length }) (λp=>⟨73,[(2,.one (.vec 1 p.1.2.1 0 ((A.take p.1.1).filter λs=>decide (f s=2)).length)),(3,.one (.vec 2 p.1.2.2.2.1 0 ((A.take p.1.1).filter λs=>decide (f s=1)).length)),(4,iv 0),(6,.one (.im (.mp [.int .u8,.int .i64] (oz f K)))),(48,.one (.im (.sl (A.map j6)))),(49,iv (A.length:Int)),(50,iv (p.1.1:Int))],[.row ((j4 c).map .im),.vec 2 (n3 (((A.take p.1.1).filter λs=>decide (f s=2)).map j6)) p.1.2.1 p.1.2.2.1,.vec 2 (n3 (((A.take p.1.1).filter λs=>decide (f s=1)).map j6)) p.1.2.2.2.1 p.1.2.2.2.2]⟩) (λp=>A.length-p.1.1) ⟨(0,0,true,0,true),by simp⟩ (zw WA 3 (by simp[n3])) ?_;rintro⟨⟨k,ga,na,gb,nb⟩,hk1⟩;simp only at hk1;simp only[iv];by_cases hlt:k<A.length
    ·have hw:=zk k;have hx0:A[k]?=some A[k]:=by simp[hlt]
     have hts:A.take (k+1)=A.take k++[A[k]]:=List.take_succ_eq_append_getElem hlt;have hge:=hget A[k] (List.getElem_mem hlt);have hl1:=List.length_filter_le (λs=>decide (f s=2)) (A.take k);have hl2:=List.length_filter_le (λs=>decide (f s=1)) (A.take k);have hr:=hfr A[k];rw[List.length_take] at hl1 hl2;generalize hx:A[k]=s at *;have e2:(A.take (k+1)).filter (λs=>decide (f s=2))=(A.take k).filter (λs=>decide (f s=2))++(if f s=2 then [s] else []):=by
      rw[hts,List.filter_append];simp[List.filter_cons]
     have e1:(A.take (k+1)).filter (λs=>decide (f s=1))=(A.take k).filter (λs=>decide (f s=1))++(if f s=1 then [s] else []):=by
      rw[hts,List.filter_append];simp[List.filter_cons]
     generalize (A.take k).filter (λs=>decide (f s=2))=L2 at *;generalize (A.take k).filter (λs=>decide (f s=1))=L1 at *;have h3:f s=0\/f s=1\/f s=2:=by omega
     have hs:True:=trivial;rcases h3 with h3|h3|h3
     all_goals
      rw[h3] at hge;simp[h3] at e1 e2;have hs:=za hx (za hx0 (za hlt (za hw (za hge himE))));repeat' first|(with_reducible first|refine zz ?_|refine And.intro (by omega) ?_|refine zE Qq ?_)|simp -dsimp[hs]|refine i8 ?_ ?_<;>intro h<;>try exact h.elim
      all_goals try clear hs
     ·all_goals exact zn ⟨(k+1,ga,na,gb,nb),by simp only;omega⟩ (zw WA 3 (by simp[e1,e2]))
     ·all_goals exact zn ⟨(k+1,ga,na,gb+1,false),by simp only;omega⟩ (zw WA 3 (by simp[e1,e2]))
     ·all_goals exact zn ⟨(k+1,ga+1,false,gb,nb),by simp only;omega⟩ (zw WA 3 (by simp[e1,e2]))
    ·obtain rfl:k=A.length:=by omega
     simp only[List.take_length];have hl1:=List.length_filter_le (λs=>decide (f s=2)) A;have hl2:=List.length_filter_le (λs=>decide (f s=1)) A;generalize A.filter (λs=>decide (f s=2))=L2 at *;generalize A.filter (λs=>decide (f s=1))=L1 at *;have hs:=hlt;repeat' first|(with_reducible first|refine zz ?_|refine zr ?_|refine zE Qq ?_)|simp -dsimp[hs]|refine i8 ?_ ?_<;>intro h<;>try exact h.elim
     all_goals try clear hs
     all_goals simp
   ·intro i s xa xb hx hs1 hns;obtain⟨y,hy,rfl,rfl⟩:=xT hx;have hgP:(T4 g P seen)[i]?=some (y,s):=by
     rw[hK',List.getElem?_map,Option.map_eq_some_iff] at hy;rw[hl,List.getElem?_map,Option.map_eq_some_iff] at hs1;obtain⟨p,hp1,hp2⟩:=hy;obtain⟨q,hq1,hq2⟩:=hs1;rw[hp1] at hq1;cases hq1;rw[hp1,<- hp2,<- hq2]
    have hmem:(y,s)∈P:=(List.mem_filter.1 (List.mem_of_getElem? hgP)).1;have hlt2:=CZ hmem hns;have hln2:l.Nodup:=by rw[hl];exact(hPn.sublist ((List.filter_sublist).map _))
    have hKn:K.Nodup:=by rw[hK'];exact(hAnP.sublist ((List.filter_sublist).map _))
    have hidx:=pN hln2 hs1;have hmi:=tL (f:=f) hKn hy;have hmd:=GN (f:=f) hKn hy;by_cases hf0:f y=0
    ·have hfy:g y=false:=by rw[hg];simp[hf0]
     have hd:=xl (f:=g) hPn hgP hfy;have hl2:l.eraseIdx i=(T4 g P (seen++[s])).map (·.2):=by rw[hd,lW,<- hl]
     have hK2:K.eraseIdx i=(T4 g P (seen++[s])).map (·.1):=by rw[hd,lW,<- hK']
     rw[hf0] at hx;have hs:=za hx (za hidx (za hf0 (za hmi hmd)));repeat' first|(with_reducible first|refine zz ?_|refine zE Qq ?_)|simp -dsimp[hs]|refine i8 ?_ ?_<;>intro h<;>try exact h.elim
     all_goals try clear hs
     all_goals exact At.round ⟨(seen++[s],l.eraseIdx i,K.eraseIdx i),hl2,hK2⟩ hlt2 (zw [1,2,3,4,6,37] 5)
    ·have hfy:g y=true:=by rw[hg];simp[hf0]
     have hd:=tQ (f:=g) (seen:=seen) hPn hmem hfy;have hl2:l=(T4 g P (seen++[s])).map (·.2):=by rw[hd,<- hl]
     have hK2:K=(T4 g P (seen++[s])).map (·.1):=by rw[hd,<- hK']
     have hs:=za hx (za hidx (za hf0 (za hmi hmd)));repeat' first|(with_reducible first|refine zz ?_|refine zE Qq ?_)|simp -dsimp[hs]|refine i8 ?_ ?_<;>intro h<;>try exact h.elim
     all_goals try clear hs
     all_goals exact At.round ⟨(seen++[s],l,K),hl2,hK2⟩ hlt2 (zw [1,2,3,4,6,37] 5)
 ·have hO:∀ k,aq c k=[]:=λk=>by unfold aq;rw[if_neg h0]
  rw[hO,hO];simp only[n4,j4,E9,j6,aO,rI,List.map_cons,List.map_nil] at c1 ⊢;have hs:=h0;repeat' first|(with_reducible first|refine zz ?_|refine zr ?_|refine zE Qq ?_)|simp -dsimp[hs]|refine zp c1 ?_|refine i8 ?_ ?_<;>intro h<;>try exact h.elim
  all_goals try clear hs
end Go.Proofs
namespace Go.Ab
open Go
def dz (s:Susp) (i:Nat):E3:=if s.kind=2/\s.index=i then (true,false) else if s.kind=3/\s.index=i then (false,true) else (false,false)
def aW (d:Desk) (s:Susp):Bool:=((List.range d.faults.length).all λi=>decide (dz s i∈d.faults.getD i []))&&(d.notes==decide (s.kind=1))
theorem yu {d:Desk} {s:Susp} {i:Nat} (h:i<d.faults.length) (h2:dz s i∉d.faults.getD i []):aW d s=false:=by
 unfold aW;rw[Bool.and_eq_false_iff];refine .inl ?_;rw[<- Bool.not_eq_true,List.all_eq_true];exact λhall=>h2 (by simpa using hall i (List.mem_range.2 h))
theorem uP {d:Desk} {s:Susp} (h:∀ i,i<d.faults.length->dz s i∈d.faults.getD i []):aW d s=(d.notes==decide (s.kind=1)):=by
 unfold aW;rw[show ((List.range d.faults.length).all λi=>decide (dz s i∈d.faults.getD i []))=true by
  rw[List.all_eq_true];exact λi hi=>by simpa using h i (List.mem_range.1 hi)]
 rfl
end Go.Ab
namespace Go.Proofs
open Go Go.Ab
variable {G:LY}
attribute [simp] p5 cw u6 A5 nilV J0 ZK
def fw (s:Susp):List (List Value×List DC):=if s.kind=2 then [([.int .i64 s.index],[.im (.raw (.bool true)),.im (.raw (.bool false))])] else if s.kind=3 then [([.int .i64 s.index],[.im (.raw (.bool false)),.im (.raw (.bool true))])] else []
theorem wp (s:Susp) (i:Nat):P1 [.int .i64 (i:Int)] (fw s) [.im (.raw (.bool false)),.im (.raw (.bool false))]=[.im (.raw (.bool (dz s i).1)),.im (.raw (.bool (dz s i).2))]:=by
 have hb:B0 [.int .i64 (i:Int)] [.int .i64 s.index]=decide (s.index=(i:Int)):=aV (i:Int) s.index;unfold fw dz;by_cases h2:s.kind=2
 ·simp only[h2,if_true,true_and,P1,T2,hb,decide_eq_true_eq];by_cases hi:s.index=(i:Int)
  ·simp[hi]
  ·simp[hi]
 ·simp only[h2,if_false,false_and,if_false];by_cases h3:s.kind=3
  ·simp only[h3,if_true,true_and,P1,T2,hb,decide_eq_true_eq];by_cases hi:s.index=(i:Int)
   ·simp[hi]
   ·simp[hi]
  ·simp[h3,P1,T2]
@[simp] theorem JB (n:Nat) (objs:List DObj) (s:Susp):((fw s).map λx=>(x.1,x.2.map (fz n objs)))=fw s:=by
 unfold fw;split
 ·simp[fz]
 ·split<;>simp[fz]
@[simp] abbrev Wi:List Nat:=[0,1,3,4,5,6,7,10,11,17,26,27,28,29,38]
theorem Fd (d:Desk) (n:Nat) (s:Susp) (hd:DkOk n d) (hn:n<100000) (hs:da n s) (hF:jD G):zP Tryz.prog G 64 [kA d,E9 s] (bv (aW d s)):=by
 refine zf Tryz.func64 Tryz.ntmps64 ?_;try simp only[iv]
 have g2:G 2=some [.raw (.bool true),.raw (.bool false)]:=hF.2.1;have g3:G 3=some [.raw (.bool false),.raw (.bool true)]:=hF.2.2;have hdn:=hd.n;have hg:=wp s;have hcs:(s.kind=1/\fw s=[])\/(s.kind=2/\fw s=[([.int .i64 s.index],[.im (.raw (.bool true)),.im (.raw (.bool false))])])\/(s.kind=3/\fw s=[([.int .i64 s.index],[.im (.raw (.bool false)),.im (.raw (.bool true))])]):=by
  unfold fw;rcases hs with h|⟨h|h,_,_⟩<;>simp[h]
 have hno:=λi=>yu (d:=d) (s:=s) (i:=i);have hyes:=uP (d:=d) (s:=s);generalize aW d s=r at *;obtain⟨kd,ix⟩:=s;simp only at hcs;simp only[kA,bi,T6];clear hs;have hs:True:=trivial;rcases hcs with⟨hkd,hw⟩|⟨hkd,hw⟩|⟨hkd,hw⟩
 all_goals
  have hw1:=hw;rw[hkd] at hw1;have hs:=za g2 (za g3 hkd);repeat' first|(with_reducible first|refine zz ?_|refine zE Wi ?_)|simp -dsimp[hs]|refine i8 ?_ ?_<;>intro h<;>try exact h.elim
  all_goals try clear hs
 all_goals
  refine i6 (ι:={ k:Nat // k<=d.faults.length/\∀ j,j<k->dz ⟨kd,ix⟩ j∈d.faults.getD j [] }) (λp=>⟨48,[(0,kA d),(3,.one (.ptr 0 0)),(5,.one (.map 1)),(26,.one (.im (.sl (d.faults.map K4)))),(27,iv (d.faults.length:Int)),(28,iv (p.1:Int))],[.row [.im (.raw (.int .u8 kd)),.im (rI ix)],.map [.int .i64] (fw ⟨kd,ix⟩)]⟩) (λp=>d.faults.length-p.1) ⟨0,by simp⟩ (zv [0,3,5,26,27,28] (by simp[hw,hw1,hkd,R8,bi,T6])) ?_;rintro⟨k,hk1,hall⟩;simp only[iv,kA,bi,T6];by_cases hlt:k<d.faults.length
  ·have hwk:=zk k;have hx0:d.faults[k]?=some d.faults[k]:=by simp[hlt]
   have hgd:d.faults.getD k []=d.faults[k]:=by simp[hlt]
   have hgk:=hg k;have hnk:=hno k hlt;rw[hgd] at hnk;have hall2:dz ⟨kd,ix⟩ k∈d.faults[k]->∀ j,j<k+1->dz ⟨kd,ix⟩ j∈d.faults.getD j []:=λh j hj=>by
    by_cases e:j=k
    ·subst e;rw[hgd];exact h
    ·exact hall j (by omega)
   generalize hw0:dz ⟨kd,ix⟩ k=w at *;have c1:=iU (G:=G) d.faults[k] w (hd.l _ (List.getElem_mem hlt));generalize hx:d.faults[k]=x at *;simp only[ka,D7,List.map_cons,List.map_nil] at c1;by_cases hm:w∈x
   ·rw[decide_eq_true hm] at c1;have hs:=za hx (za hlt (za hwk hgk));repeat' first|(with_reducible first|refine zz ?_|refine zE Wi ?_)|simp -dsimp[hs]|refine zp c1 ?_|refine i8 ?_ ?_<;>intro h<;>try exact h.elim
    all_goals try clear hs
    all_goals exact zn ⟨k+1,by omega,hall2 hm⟩ (zw [0,3,5,26,27,28] 2 (by simp[bi,T6]))
   ·rw[decide_eq_false hm] at c1;have hr:=hnk hm;have hs:=za hx (za hlt (za hwk hgk));repeat' first|(with_reducible first|refine zz ?_|refine zr ?_|refine zE Wi ?_)|simp -dsimp[hs]|refine zp c1 ?_|refine i8 ?_ ?_<;>intro h<;>try exact h.elim
    all_goals try clear hs
    all_goals simp[hr]
  ·obtain rfl:k=d.faults.length:=by omega
   have hr:=hyes λi hi=>hall i hi;rw[hr];have hs:=za hlt hkd;repeat' first|(with_reducible first|refine zz ?_|refine zr ?_)|simp -dsimp[hs]|refine zM 13 48 9 Wi ?_|with_reducible refine zE Wi ?_|refine i8 ?_ ?_<;>intro h<;>try exact h.elim
   all_goals try clear hs
   all_goals simp[hkd]
end Go.Proofs
namespace Go.Proofs
open Go Go.Ab Tryz
variable {G:LY}
attribute [simp] p5 cw u6 A5 nilV J0 ZK
theorem Cs (n:Nat) (s:Susp) (hs:da n s) (hn:n<100000) (hF:jD G) (d:Desk) (hd:DkOk n d):DCall prog G 63 (kA d :: [DC.ptr 0 0].map .one) [.row ((j6 s).map .im)] (λr o=>r=bv (aW d s)/\o=[.row ((j6 s).map .im)]):=by
 refine DCall.drop ?_;have c1:=Fd (G:=G) d n s hd hn hs hF;simp only[kA,E9,j6,rI,List.map_cons,List.map_nil] at c1;refine g9 func63 rfl ntmps63 (by simp) rfl ?_;simp only[kA,j6,rI,List.map_cons,List.map_nil];have hs:=trivial;repeat' first|(with_reducible first|refine zz ?_|refine zr ?_|refine zE [0,1,3] ?_)|simp -dsimp[hs]|refine zp c1 ?_|with_reducible refine And.intro ?_ ?_
 all_goals try clear hs
noncomputable def Ct (c:Case) (s:Susp):Bool:=(n8 c).any λd=>aW d s
noncomputable def qj (c:Case):List Susp:=if F7 c=0 then (W3 c.pieces.length).filter (Ct c) else []
@[simp] abbrev WB:List Nat:=[0,1,2,3,4,5,6,8,15,18,19,20,21,26]
theorem Cq (c:Case) (hG:p8 G) (hN:E5 G) (hS:v8 G) (hU:U4 G) (hR:A0 G) (hC:K5 G) (hF:jD G) (hk:KC c):zP prog G 17 [n4 c] (.tup [C5 (qj c),iv (F7 c)]):=by
 refine zf func17 ntmps17 ?_;try simp only[iv]
 have c1:=ff (G:=G) c hG hN hS hR hC hk;have hq:=hk.q;by_cases h0:F7 c=0
 ·have c2:=ln (G:=G) c (by omega) hU;rw[h0,show qq c=n8 c by unfold qq;rw[if_pos h0]] at c1;have hdl:=ao (E6 h0).1;have c3:=λs (h:s∈W3 c.pieces.length)=>dj (G:=G) (n8 c) (λd=>aW d s) 63 [.ptr 0 0] [.row ((j6 s).map .im)] (by simp) (λd hdm=>Cs c.pieces.length s (wg h).1 (by omega) hF d (aP hk d hdm)) (by omega);have hO:qj c=(W3 c.pieces.length).filter (Ct c):=by unfold qj;rw[if_pos h0]
  have hfe:∀ s,((n8 c).any λd=>aW d s)=Ct c s:=λs=>rfl;simp only[hfe] at c3;rw[h0,hO];have hAl:=mM c.pieces.length;clear hO hfe;generalize Ct c=f at *;generalize W3 c.pieces.length=A at *;simp only[n4,j4,E9,j6,aO,C5,rI,List.map_cons,List.map_nil] at c1 c2 c3 ⊢;have hs:=trivial;repeat' first|(with_reducible first|refine zz ?_|refine zE WB ?_)|simp -dsimp[hs]|refine zp c1 ?_|refine zp c2 ?_|refine i8 ?_ ?_<;>intro h<;>try exact h.elim
  all_goals try clear hs
  refine i6 (ι:={ p:Nat×Nat×Bool // p.1<=A.length }) (λp=>⟨33,[(4,.one (.im (.sl ((n8 c).map U8)))),(6,.one (.vec 2 p.1.2.1 0 ((A.take p.1.1).filter f).length)),(18,.one (.im (.sl (A.map j6)))),(19,iv (A.length:Int)),(20,iv (p.1.1:Int))],[.row ((j4 c).map .im),.vec 2 [] 0 true,.vec 2 (n3 (((A.take p.1.1).filter f).map j6)) p.1.2.1 p.1.2.2]⟩) (λp=>A.length-p.1.1) ⟨(0,0,true),by simp⟩ (zv [4,6,18,19,20] (by simp[n3])) ?_;rintro⟨⟨k,g,nl⟩,hk1⟩;simp only at hk1;simp only[iv];by_cases hlt:k<A.length
  ·have hw:=zk k;have hx0:A[k]?=some A[k]:=by simp[hlt]
   have hts:A.take (k+1)=A.take k++[A[k]]:=List.take_succ_eq_append_getElem hlt;have c4:=c3 A[k] (List.getElem_mem hlt);have hl1:=List.length_filter_le f (A.take k);rw[List.length_take] at hl1;generalize hx:A[k]=s at *;have e1:(A.take (k+1)).filter f=(A.take k).filter f++(if f s=true then [s] else []):=by
    rw[hts,List.filter_append];simp[List.filter_cons]
   generalize (A.take k).filter f=L at *;have hs:True:=trivial;cases hf:f s
   all_goals
    rw[hf] at c4;simp[hf] at e1;have hs:=za hx (za hx0 (za hlt hw));repeat' first|(with_reducible first|refine zz ?_|refine And.intro (by omega) ?_|refine zE WB ?_)|simp -dsimp[hs]|refine CallE.embed [3] (c4) ?_ ?_ ?_ ?_ ?_ ?_;(focus simp[u7];done);(focus simp;done);(focus simp;done);(focus simp;done);(focus refine o9 ?_;simp[u7,r9];done);try simp -dsimp[o6,u7,hs]|refine i8 ?_ ?_<;>intro h<;>try exact h.elim
    all_goals try clear hs
   ·all_goals exact zn ⟨(k+1,g,nl),by simp only;omega⟩ (zw [4,6,18,19,20] 3 (by simp[e1]))
   ·all_goals exact zn ⟨(k+1,g+1,false),by simp only;omega⟩ (zw [4,6,18,19,20] 3 (by simp[e1]))
  ·obtain rfl:k=A.length:=by omega
   simp only[List.take_length];have hl1:=List.length_filter_le f A;generalize A.filter f=L at *;have hs:=hlt;repeat' first|(with_reducible first|refine zz ?_|refine zr ?_|refine zE WB ?_)|simp -dsimp[hs]|refine i8 ?_ ?_<;>intro h<;>try exact h.elim
   all_goals try clear hs
   all_goals simp
 ·have hO:qj c=[]:=by unfold qj;rw[if_neg h0]
  rw[hO];simp only[n4,j4,E9,j6,aO,rI,List.map_cons,List.map_nil] at c1 ⊢;have hs:=h0;repeat' first|(with_reducible first|refine zz ?_|refine zr ?_|refine zE WB ?_)|simp -dsimp[hs]|refine zp c1 ?_|refine i8 ?_ ?_<;>intro h<;>try exact h.elim
  all_goals try clear hs
attribute [simp] p5 cw u6 A5 nilV J0 ZK
theorem wn (d i w:Int) (l:List Print):bp d i w l≠[]:=by
 unfold bp;have hm:bP d i w l∈s7 (l6 (az d i w l++[bP d i w l])):=by
  rw[gk];exact(List.mergeSort_perm _ _).mem_iff.2 (by simp)
 generalize s7 (l6 (az d i w l++[bP d i w l]))=D at *;rcases rN (λx=>decide (bP d i w l=x)) D with h|h
 ·intro e;have h2:=congrArg List.length e;rw[List.length_drop,List.length_nil] at h2;have hlp:0<D.length:=List.length_pos_of_mem hm;omega
 ·rw[h] at hm;simp at hm
theorem AP {c:Case} (he:s9 c=0) {k:Nat} (h1:k<c.pieces.length):I6 c k≠[]:=by
 obtain⟨hp0,hcb⟩:=C2 he;obtain⟨hn0,hpb,hr0⟩:=I9 hp0;have hok:=F5 hcb;have h2:k<c.loop.links.length:=by have:=hok.e;omega
 have hdm:=oK hr0 hcb h1 h2;have hq:=hcb;rw[T9,Bool.and_eq_true,List.all_eq_true] at hq;have h3:k<(c.loop.links.zip c.pieces).length:=by rw[List.length_zip];omega
 have h4:=hq.2 _ (List.getElem_mem h3);rw[List.getElem_zip] at h4;simp only at h4;rw[nX hr0] at h4;obtain⟨_,_,_,hh,hd,_⟩:=h4;rw[rm h1 h2];unfold O4;have hA:U2 c.p c.pieces[k].day 1 c.pieces[k].holder c.loop.links[k].drawing=0:=by
  unfold U2 K9 ye;rw[if_neg,if_pos ⟨hh,hdm⟩];rw[if_neg (by simp[hp0]),if_pos (by simp at hd ⊢;omega)];simp
 rw[if_pos hA];exact wn _ _ _ _
theorem Fg {L:List E3} {so:Bool} {f:E3} (h:L≠[]):aY L so f≠[]:=by
 unfold aY;split
 ·simp
 ·exact h
theorem sF {L:List E3} {f:E3}:aY L true f≠[]:=by
 unfold aY;split
 ·simp
 ·rename_i h;have:f∈L:=Classical.byContradiction λh2=>h ⟨rfl,h2⟩;exact List.ne_nil_of_mem this
theorem xI {c:Case} {y:Link} {x:Piece} {o:Int} {L:List E3} {l:Int} (hx:x.lo<=x.hi):H8 c y x o L l≠[]:=by
 unfold H8;by_cases h1:qu c y x l=true
 ·rw[h1];exact Fg sF
 ·have h2:pP c y x l=true:=by
   unfold qu at h1;unfold pP;split at h1
   ·simp at h1
   ·rename_i z hz;simp only[hz,O6,Bool.and_eq_true,decide_eq_true_eq,Bool.not_eq_true',decide_eq_false_iff_not] at h1 ⊢;omega
  rw[h2];exact sF
theorem Hj {c:Case} (he:s9 c=0) (s:List Int) {k:Nat} (h1:k<c.pieces.length):gz c s k≠[]:=by
 obtain⟨hp0,hcb⟩:=C2 he;have hok:=F5 hcb;have h2:k<c.loop.links.length:=by have:=hok.e;omega
 have hm:=AP he h1;have hp:=kY hok h1;unfold U5 at hp;have hx0:c.pieces[k]?=some c.pieces[k]:=by simp[h1]
 have hy0:c.loop.links[k]?=some c.loop.links[k]:=by simp[h2]
 unfold gz;rw[hx0,hy0];simp only;generalize I6 c k=M at *;rw[<- List.dropLast_concat_getLast hm,List.foldl_append];exact xI hp.2.1
theorem mu {c:Case} (he:s9 c=0):∀ d∈n8 c,∀ x∈d.faults,x≠[]:=by
 intro d hd x hx;obtain⟨s,_,rfl⟩:=List.mem_map.1 hd;simp only[C7,List.mem_map,List.mem_range] at hx;obtain⟨k,hk,rfl⟩:=hx;exact Hj he s hk
def I8:List Susp->List Susp->Int
 | [],[]=>0
 | [],_ :: _=>-1
 | _ :: _,[]=>1
 | a :: x,b :: y=>if M8 a b≠0 then M8 a b else I8 x y
def bJ (a b:List Susp):Int:=V4 [(a.length:Int)-b.length,I8 a b]
def Q3 (m x:List Susp):List Susp:=if bJ x m<0 then x else m
def kw:List (List Susp)->List Susp
 | []=>[]
 | x :: r=>r.foldl Q3 x
def kg (l:List Susp):List IC:=[.sl (l.map j6)]
def mS (l:List Susp):Prop:=(∀ x∈l,fJ x)/\l.length<100000
theorem DF (a b:Susp) (ha:fJ a) (hb:fJ b) (objs:List DObj):DCall prog G 61 [E9 a,E9 b] objs (λd o=>d=iv (M8 a b)/\o=objs):=by
 refine DCall.frame ?_ (by simp) (by simp) objs;exact(vE a b ha hb).mono λd o h=>by rw[h.1];simp
@[simp] abbrev QU:List Nat:=[0,1,2,6,7,8,9,10,11,12,13,14,21,31,38]
theorem EN (a b:List Susp) (ha:mS a) (hb:mS b):zP prog G 60 [C5 a,C5 b,.one (.im (.fn (.func 61) []))] (iv (I8 a b)):=by
 refine zf func60 ntmps60 ?_;try simp only[iv]
 have hal:=ha.2;have hbl:=hb.2;simp only[C5];have hs:=trivial;repeat' first|(with_reducible first|refine zz ?_|refine zE QU ?_)|simp -dsimp[hs]
 refine i6 (ι:={ k:Nat // k<=a.length/\k<=b.length/\I8 a b=I8 (a.drop k) (b.drop k) }) (λp=>⟨39,[(0,.one (.im (.sl (a.map j6)))),(1,.one (.im (.sl (b.map j6)))),(2,.one (.im (.fn (.func 61) []))),(11,.one (.im (.sl (a.map j6)))),(12,iv (a.length:Int)),(13,iv (p.1:Int))],[]⟩) (λp=>a.length-p.1) ⟨0,by simp⟩ (zv [0,1,2,11,12,13]) ?_;rintro⟨k,hka,hkb,hE⟩;have hE2:=hE;simp only[iv];by_cases hlt:k<a.length
 ·have hw:=zk k;have hx0:a[k]?=some a[k]:=by simp[hlt]
  have hxt:=ha.1 a[k] (List.getElem_mem hlt);rw[List.drop_eq_getElem_cons hlt] at hE2;by_cases hlb:k<b.length
  ·have hlb':¬ (b.length:Int)<=k:=by omega
   have hy0:b[k]?=some b[k]:=by simp[hlb]
   have hyt:=hb.1 b[k] (List.getElem_mem hlb);rw[List.drop_eq_getElem_cons hlb,I8] at hE2;generalize hx:a[k]=x at *;generalize hy:b[k]=y at *;have c1:=DF (G:=G) x y hxt hyt;generalize M8 x y=z at *;simp only[E9,j6,rI,List.map_cons,List.map_nil] at c1;by_cases hz:z=0
   ·rw[if_neg (by simp[hz])] at hE2;have hs:=za hx (za hx0 (za hy (za hy0 (za hlt (za hlb (za hlb' (za hw hz)))))));repeat' first|(with_reducible first|refine zz ?_|refine zE QU ?_)|simp -dsimp[hs]|refine zp c1 ?_|refine i8 ?_ ?_<;>intro h<;>try exact h.elim
    all_goals exact zn ⟨k+1,by omega,by omega,hE2⟩ (zw [0,1,2,11,12,13] 0)
   ·rw[if_pos hz] at hE2;have hs:=za hx (za hx0 (za hy (za hy0 (za hlt (za hlb (za hlb' (za hw hz)))))));repeat' first|(with_reducible first|refine zz ?_|refine zr ?_|refine zE QU ?_)|simp -dsimp[hs]|refine zp c1 ?_|refine i8 ?_ ?_<;>intro h<;>try exact h.elim
    all_goals simp[hE2]
  ·have hkb2:k=b.length:=by omega
   have hlb':(b.length:Int)<=k:=by omega
   rw[List.drop_eq_nil_of_le (by omega:b.length<=k),I8] at hE2;generalize hx:a[k]=x at *;have hs:=za hx (za hx0 (za hlt (za hlb (za hlb' hw))));repeat' first|(with_reducible first|refine zz ?_|refine zr ?_|refine zE QU ?_)|simp -dsimp[hs]|refine i8 ?_ ?_<;>intro h<;>try exact h.elim
   all_goals simp[hE2]
 ·have hka2:k=a.length:=by omega
  rw[List.drop_eq_nil_of_le (by omega)] at hE2;by_cases hlb:a.length<b.length
  ·have hlb':(a.length:Int)<b.length:=by omega
   rw[List.drop_eq_getElem_cons (by omega),I8] at hE2;have hs:=za hlt (za hlb hlb');repeat' first|(with_reducible first|refine zz ?_|refine zr ?_|refine zE QU ?_)|simp -dsimp[hs]|refine i8 ?_ ?_<;>intro h<;>try exact h.elim
   all_goals simp[hE2]
  ·have hlb':¬ (a.length:Int)<b.length:=by omega
   rw[List.drop_eq_nil_of_le (by omega),I8] at hE2;have hs:=za hlt (za hlb hlb');repeat' first|(with_reducible first|refine zz ?_|refine zr ?_|refine zE QU ?_)|simp -dsimp[hs]|refine i8 ?_ ?_<;>intro h<;>try exact h.elim
   all_goals simp[hE2]
attribute [simp] p5 cw u6 A5 nilV J0 ZK
theorem Hr (a b:List Susp) (ha:mS a) (hb:mS b):zP prog G 58 [C5 a,C5 b] (iv (bJ a b)):=by
 refine zf func58 ntmps58 ?_;try simp only[iv]
 have hal:=ha.2;have hbl:=hb.2;have c1:=EN (G:=G) a b ha hb;have c2:=FA (G:=G) [(a.length:Int)-b.length,I8 a b] (by simp);have hE:bJ a b=V4 [(a.length:Int)-b.length,I8 a b]:=rfl;rw[<- hE] at c2;have hw:IntKind.i64.wrap ((a.length:Int)-b.length)=(a.length:Int)-b.length:=o7 (by omega) (by omega);generalize I8 a b=z at *;generalize bJ a b=r at *;simp only[C5] at c1 ⊢;have hs:=hw;repeat' first|(with_reducible first|refine zz ?_|refine zr ?_|refine zE [0,1,4] ?_)|simp -dsimp[hs]|refine zp c1 ?_|refine zt c2 ?_ ?_ ?_;(focus simp;done);focus (simp;done)
@[simp] abbrev Qp:List Nat:=[0,1,4,5,6,9,17,27]
theorem DX (L:List (List Susp)) (hne:L≠[]) (hl:L.length<1000000) (ht:∀ x∈L,mS x):zP prog G 108 [.one (.im (.sl (L.map kg))),.one (.im (.fn (.func 58) []))] (C5 (kw L)):=by
 refine zf func108 ntmps108 ?_;try simp only[iv]
 obtain⟨x0,r0,rfl⟩:∃ x r,L=x :: r:=by
  cases L with
  | nil=>exact absurd rfl hne
  | cons x r=>exact⟨x,r,rfl⟩
 have hE:kw (x0 :: r0)=((x0 :: r0).drop 1).foldl Q3 x0:=rfl;have hl1:¬ ((x0 :: r0).length:Int)<1:=by simp;omega
 have hlp:0<(x0 :: r0).length:=by simp
 have hx1:(x0 :: r0)[0]?=some x0:=rfl;have hx2:(x0 :: r0)[0]=x0:=rfl;have hm0:x0∈(x0 :: r0):=by simp
 have hk1:1<=(x0 :: r0).length:=hlp;generalize (x0 :: r0)=L at *;generalize kw L=res at *;simp only[C5];have hs:=za hl1 (za hx1 (za hx2 hlp));repeat' first|(with_reducible first|refine zz ?_|refine zE Qp ?_)|simp -dsimp[kg,hs]|refine i8 ?_ ?_<;>intro h<;>try exact h.elim
 refine i6 (ι:={ p:Nat×List Susp // 1<=p.1/\p.1<=L.length/\p.2∈L/\res=(L.drop p.1).foldl Q3 p.2 }) (λp=>⟨33,[(0,.one (.im (.sl (L.map kg)))),(1,.one (.im (.fn (.func 58) []))),(5,.one (.im (.sl (p.1.2.map j6)))),(6,iv (p.1.1:Int))],[]⟩) (λp=>L.length-p.1.1) ⟨(1,x0),Nat.le_refl _,hk1,hm0,hE⟩ (zw [0,1,5,6] 0) ?_;rintro⟨⟨k,m⟩,hk1',hk,hm,hE2⟩;simp only at hk1' hk hm hE2;simp only[iv];by_cases hlt:k<L.length
 ·have hlt':(k:Int)<L.length:=by omega
  have hw:=zk k;have hx:L[k]?=some L[k]:=by simp[hlt]
  have hmk:L[k]∈L:=List.getElem_mem hlt;rw[List.drop_eq_getElem_cons hlt,List.foldl_cons] at hE2;generalize hy:L[k]=y at *;have c1:=Hr (G:=G) y m (ht y hmk) (ht m hm);simp only[C5] at c1;unfold Q3 at hE2;by_cases hym:bJ y m<0
  ·rw[if_pos hym] at hE2;have hs:=za hx (za hy (za hlt (za hlt' (za hw hym))));repeat' first|(with_reducible first|refine zz ?_|refine zE Qp ?_)|simp -dsimp[kg,hs]|refine zp c1 ?_|refine i8 ?_ ?_<;>intro h<;>try exact h.elim
   all_goals exact zn ⟨(k+1,y),by simp,by simp only;omega,hmk,hE2⟩ (zw [0,1,5,6] 0)
  ·rw[if_neg hym] at hE2;have hs:=za hx (za hy (za hlt (za hlt' (za hw hym))));repeat' first|(with_reducible first|refine zz ?_|refine zE Qp ?_)|simp -dsimp[kg,hs]|refine zp c1 ?_|refine i8 ?_ ?_<;>intro h<;>try exact h.elim
   all_goals exact zn ⟨(k+1,m),by simp,by simp only;omega,hm,hE2⟩ (zw [0,1,5,6] 0)
 ·have hlt':¬ (k:Int)<L.length:=by omega
  rw[List.drop_eq_nil_of_le (by omega)] at hE2;have hE3:res=m:=hE2;have hs:=za hlt hlt';repeat' first|(with_reducible first|refine zz ?_|refine zr ?_|refine zE Qp ?_)|simp -dsimp[hs]|refine i8 ?_ ?_<;>intro h<;>try exact h.elim
  all_goals simp[hE3]
theorem Cf (L:List (List Susp)) (hne:L≠[]) (hl:L.length<1000000) (ht:∀ x∈L,mS x):zP prog G 57 [.one (.im (.sl (L.map kg))),.one (.im (.fn (.func 58) []))] (C5 (kw L)):=by
 refine zf func57 ntmps57 ?_;try simp only[iv]
 have c1:=DX (G:=G) L hne hl ht;generalize kw L=r at *;simp only[C5] at c1 ⊢;repeat' first|(with_reducible first|refine zz ?_|refine zx ?_|refine zE [0,1,4] ?_)|simp -dsimp|refine zp c1 ?_
attribute [simp] p5 cw u6 A5 nilV J0 ZK
theorem xQ {n:Nat} {d:Desk} (hd:DkOk n d) (hn:n<40000):mS (L0 d):=by
 have hdn:=hd.n;have hl:(L0 d).length<=1+2*n:=by
  have h1:=(N0 d.notes (ee d) (eg d) d.faults.length).length_eq;have h2:=bY d.notes (ee d) (eg d) d.faults.length;unfold L0;omega
 refine⟨λx hx=>?_,by omega⟩;unfold fJ;rcases listS_mem.1 hx with⟨_,rfl⟩|⟨i,h1,_,rfl⟩|⟨i,h1,_,rfl⟩
 ·simp
 ·simp[je];omega
 ·simp[dt];omega
def ef (D:List Desk) (k:Nat):List (List IC):=(((D.take k).map L0)).map kg
theorem uj {D:List Desk} {k:Nat} (h:k<D.length):ef D (k+1)=ef D k++[[.sl ((L0 D[k]).map j6)]]:=by
 unfold ef;rw[List.take_succ_eq_append_getElem h,List.map_append,List.map_append];rfl
theorem ox {D:List Desk} {k:Nat} (h:k<=D.length):(ef D k).length=k:=by simp[ef];omega
theorem xP (D:List Desk):ef D D.length=(D.map L0).map kg:=by simp[ef]
noncomputable def pS (c:Case):List Susp:=if F7 c=0 then kw ((n8 c).map L0) else []
@[simp] abbrev WC:List Nat:=[0,1,2,3,4,5,6,8,15,17,18,19,20]
theorem yo (c:Case) (hG:p8 G) (hN:E5 G) (hS:v8 G) (hU:U4 G) (hR:A0 G) (hC:K5 G) (hF:jD G) (hk:KC c):zP prog G 16 [n4 c] (.tup [C5 (pS c),iv (F7 c)]):=by
 refine zf func16 ntmps16 ?_;try simp only[iv]
 have c1:=ff (G:=G) c hG hN hS hR hC hk;have hq:=hk.q;by_cases h0:F7 c=0
 ·rw[h0,show qq c=n8 c by unfold qq;rw[if_pos h0]] at c1;have hdl:=ao (E6 h0).1;have c3:=λd (h:d∈n8 c)=>rO (G:=G) d c.pieces.length (aP hk d h) (by omega) (mu (E6 h0).1 d h) hF hU;have hO:pS c=kw ((n8 c).map L0):=by unfold pS;rw[if_pos h0]
  have c2:=Cf (G:=G) ((n8 c).map L0) (by intro e;have:=congrArg List.length e;simp at this;rw[this] at hdl;simp at hdl) (by simp;omega) (λx hx=>by
   obtain⟨d,hd,rfl⟩:=List.mem_map.1 hx;exact xQ (aP hk d hd) (by omega))
  rw[h0,hO];generalize kw ((n8 c).map L0)=res at *;generalize n8 c=D at *;simp only[n4,j4,kA,aO,C5,List.map_cons,List.map_nil] at c1 c2 c3 ⊢;clear hO;have hs:=trivial;repeat' first|(with_reducible first|refine zz ?_|refine zE WC ?_)|simp -dsimp[hs]|refine zp c1 ?_|refine i8 ?_ ?_<;>intro h<;>try exact h.elim
  all_goals try clear hs
  refine i6 (ι:={ p:Nat×Nat×Bool // p.1<=D.length }) (λp=>⟨31,[(6,.one (.vec 2 p.1.2.1 0 p.1.1)),(17,.one (.im (.sl (D.map U8)))),(18,iv (D.length:Int)),(19,iv (p.1.1:Int))],[.row ((j4 c).map .im),.vec 2 [] 0 true,.vec 1 (n3 (ef D p.1.1)) p.1.2.1 p.1.2.2]⟩) (λp=>D.length-p.1.1) ⟨(0,0,true),by simp⟩ (zv [6,17,18,19] (by simp[n3,ef])) ?_;rintro⟨⟨k,g,nl⟩,hk1⟩;simp only at hk1;simp only[iv];by_cases hlt:k<D.length
  ·have hw:=zk k;have hx0:D[k]?=some D[k]:=by simp[hlt]
   have c4:=c3 D[k] (List.getElem_mem hlt);have e1:=uj hlt;have hll:=ox (D:=D) hk1;generalize hx:D[k]=d at *;generalize ef D k=L at *;generalize L0 d=f at *;have htk:List.take k (n3 L)=n3 L:=List.take_of_length_le (by simp[n3,hll]);have hs:=za hx (za hx0 (za hlt (za hw (za htk hll))));repeat' first|(with_reducible first|refine zz ?_|refine And.intro (by omega) ?_|refine zE WC ?_)|simp -dsimp[hs]|refine zp c4 ?_|refine i8 ?_ ?_<;>intro h<;>try exact h.elim
   all_goals try clear hs
   all_goals exact zn ⟨(k+1,g+1,false),by simp only;omega⟩ (zw [6,17,18,19] 3 (by simp[e1,htk,hll,cR]))
  ·obtain rfl:k=D.length:=by omega
   have hll:=ox (D:=D) (Nat.le_refl _);rw[<- xP] at c2;generalize ef D D.length=L at *;have htk:List.take D.length (n3 L)=n3 L:=List.take_of_length_le (by simp[n3,hll]);have hs:=za hlt (za htk hll);repeat' first|(with_reducible first|refine zz ?_|refine zr ?_|refine zE WC ?_)|simp -dsimp[hs]|refine CallE.freeze 0 (c2 []) ?_ ?_ ?_ ?_ ?_ ?_;(focus simp;done);(focus simp[htk,hll];done);(focus simp;done);(focus rfl);(focus simp;done);try simp -dsimp[u6]|refine i8 ?_ ?_<;>intro h<;>try exact h.elim
   all_goals try clear hs
 ·have hO:pS c=[]:=by unfold pS;rw[if_neg h0]
  rw[hO];simp only[n4,j4,aO,List.map_cons,List.map_nil] at c1 ⊢;have hs:=h0;repeat' first|(with_reducible first|refine zz ?_|refine zr ?_|refine zE WC ?_)|simp -dsimp[hs]|refine zp c1 ?_|refine i8 ?_ ?_<;>intro h<;>try exact h.elim
  all_goals try clear hs
end Go.Proofs
namespace Go.Ab
open Go
def aC (L:List E3):Int:=if (true,true)∈L then 2 else if (true,false)∈L\/(false,true)∈L then 1 else 0
def gZ:List E3->Int->Int
 | [],n=>n
 | f :: r,n=>gZ r (if f=(false,false) then n else if f=(true,true) then 2 else max n 1)
theorem aB:∀ (L:List E3) (n:Int),(n=0\/n=1\/n=2)->gZ L n=if n=2\/(true,true)∈L then 2 else if n=1\/(true,false)∈L\/(false,true)∈L then 1 else 0
 | [],n,h=>by simp[gZ];omega
 | ⟨a,b⟩ :: r,n,h=>by
   rw[gZ];cases a<;>cases b
   ·rw[if_pos rfl,aB r n h];simp
   ·rw[if_neg (by simp),if_neg (by simp),aB r _ (by omega)];rcases h with rfl|rfl|rfl<;>simp[show max (0:Int) 1=1 from rfl,show max (1:Int) 1=1 from rfl,show max (2:Int) 1=2 from rfl]
   ·rw[if_neg (by simp),if_neg (by simp),aB r _ (by omega)];rcases h with rfl|rfl|rfl<;>simp[show max (0:Int) 1=1 from rfl,show max (1:Int) 1=1 from rfl,show max (2:Int) 1=2 from rfl]
   ·rw[if_neg (by simp),if_pos rfl,aB r _ (by omega)];simp
theorem tI (L:List E3):gZ L 0=aC L:=by
 rw[aB L 0 (.inl rfl)];unfold aC;simp
def bw (F:List (List E3)) (k:Nat):Int:=((F.take k).map aC).sum
def X6 (d:Desk):Int:=(if d.notes=true then 1 else 0)+(d.faults.map aC).sum
theorem dS (L:List E3):0<=aC L/\aC L<=2:=by unfold aC;split<;>(try split)<;>omega
theorem eK {F:List (List E3)} {k:Nat} (h:k<F.length):bw F (k+1)=bw F k+aC F[k]:=by
 unfold bw;rw[List.take_succ_eq_append_getElem h,List.map_append,List.sum_append];simp
theorem lu (F:List (List E3)):∀ k:Nat,0<=bw F k/\bw F k<=2*k
 | 0=>by simp[bw]
 | k+1=>by
   have:=lu F k;by_cases h:k<F.length
   ·have h2:=dS F[k];rw[eK h];omega
   ·have:bw F (k+1)=bw F k:=by unfold bw;rw[List.take_of_length_le (by omega),List.take_of_length_le (by omega)]
    omega
def pw:List Int->Int
 | []=>0
 | x :: r=>r.foldl min x
def py:List Int->Int
 | []=>0
 | x :: r=>r.foldl max x
end Go.Ab
namespace Go.Proofs
open Go Go.Ab
variable {G:LY}
attribute [simp] p5 cw u6 A5 nilV J0 ZK
theorem GM (L:List Int) (hne:L≠[]) (hl:L.length<1000000):zP Tryz.prog G 52 [v6 L] (iv (pw L)):=by
 refine zf Tryz.func52 Tryz.ntmps52 ?_;try simp only[v6]
 obtain⟨x0,r0,rfl⟩:∃ x r,L=x :: r:=by
  cases L with
  | nil=>exact absurd rfl hne
  | cons x r=>exact⟨x,r,rfl⟩
 have hE:pw (x0 :: r0)=((x0 :: r0).drop 1).foldl min x0:=rfl;have hl1:¬ ((x0 :: r0).length:Int)<1:=by simp;omega
 have hlp:0<(x0 :: r0).length:=by simp
 have hx1:(x0 :: r0)[0]?=some x0:=rfl;have hx2:(x0 :: r0)[0]=x0:=rfl;have hk1:1<=(x0 :: r0).length:=hlp;generalize (x0 :: r0)=L at *;generalize pw L=res at *;have hs:=za hl1 (za hx1 (za hx2 hlp));repeat' first|(with_reducible first|refine zz ?_|refine zE [0,2,3,4,7,15] ?_)|simp -dsimp[hs]|refine i8 ?_ ?_<;>intro h<;>try exact h.elim
 refine i6 (ι:={ p:Nat×Int // 1<=p.1/\p.1<=L.length/\res=(L.drop p.1).foldl min p.2 }) (λp=>⟨25,[(0,v6 L),(3,iv p.1.2),(4,iv (p.1.1:Int))],[]⟩) (λp=>L.length-p.1.1) ⟨(1,x0),Nat.le_refl _,hk1,hE⟩ (zw [0,3,4] 0) ?_;rintro⟨⟨k,m⟩,hk1',hk,hE2⟩;simp only at hk1' hk hE2;simp only[iv,v6];by_cases hlt:k<L.length
 ·have hlt':(k:Int)<L.length:=by omega
  have hw:=zk k;have hx:L[k]?=some L[k]:=by simp[hlt]
  rw[List.drop_eq_getElem_cons hlt,List.foldl_cons] at hE2;generalize hy:L[k]=y at *;have hs:=za hx (za hy (za hlt (za hlt' hw)));repeat' first|(with_reducible first|refine zz ?_|refine zE [0,2,3,4,7,15] ?_)|simp -dsimp[hs]|refine i8 ?_ ?_<;>intro h<;>try exact h.elim
  all_goals exact zn ⟨(k+1,min m y),by simp,by simp only;omega,hE2⟩ (zw [0,3,4] 0)
 ·have hlt':¬ (k:Int)<L.length:=by omega
  rw[List.drop_eq_nil_of_le (by omega)] at hE2;have hE3:res=m:=hE2;have hs:=za hlt hlt';repeat' first|(with_reducible first|refine zz ?_|refine zr ?_|refine zE [0,2,3,4,7,15] ?_)|simp -dsimp[hs]|refine i8 ?_ ?_<;>intro h<;>try exact h.elim
  all_goals simp[hE3]
theorem GO (L:List Int) (hne:L≠[]) (hl:L.length<1000000):zP Tryz.prog G 53 [v6 L] (iv (py L)):=by
 refine zf Tryz.func53 Tryz.ntmps53 ?_;try simp only[v6]
 obtain⟨x0,r0,rfl⟩:∃ x r,L=x :: r:=by
  cases L with
  | nil=>exact absurd rfl hne
  | cons x r=>exact⟨x,r,rfl⟩
 have hE:py (x0 :: r0)=((x0 :: r0).drop 1).foldl max x0:=rfl;have hl1:¬ ((x0 :: r0).length:Int)<1:=by simp;omega
 have hlp:0<(x0 :: r0).length:=by simp
 have hx1:(x0 :: r0)[0]?=some x0:=rfl;have hx2:(x0 :: r0)[0]=x0:=rfl;have hk1:1<=(x0 :: r0).length:=hlp;generalize (x0 :: r0)=L at *;generalize py L=res at *;have hs:=za hl1 (za hx1 (za hx2 hlp));repeat' first|(with_reducible first|refine zz ?_|refine zE [0,2,3,4,7,15] ?_)|simp -dsimp[hs]|refine i8 ?_ ?_<;>intro h<;>try exact h.elim
 refine i6 (ι:={ p:Nat×Int // 1<=p.1/\p.1<=L.length/\res=(L.drop p.1).foldl max p.2 }) (λp=>⟨25,[(0,v6 L),(3,iv p.1.2),(4,iv (p.1.1:Int))],[]⟩) (λp=>L.length-p.1.1) ⟨(1,x0),Nat.le_refl _,hk1,hE⟩ (zw [0,3,4] 0) ?_;rintro⟨⟨k,m⟩,hk1',hk,hE2⟩;simp only at hk1' hk hE2;simp only[iv,v6];by_cases hlt:k<L.length
 ·have hlt':(k:Int)<L.length:=by omega
  have hw:=zk k;have hx:L[k]?=some L[k]:=by simp[hlt]
  rw[List.drop_eq_getElem_cons hlt,List.foldl_cons] at hE2;generalize hy:L[k]=y at *;have hs:=za hx (za hy (za hlt (za hlt' hw)));repeat' first|(with_reducible first|refine zz ?_|refine zE [0,2,3,4,7,15] ?_)|simp -dsimp[hs]|refine i8 ?_ ?_<;>intro h<;>try exact h.elim
  all_goals exact zn ⟨(k+1,max m y),by simp,by simp only;omega,hE2⟩ (zw [0,3,4] 0)
 ·have hlt':¬ (k:Int)<L.length:=by omega
  rw[List.drop_eq_nil_of_le (by omega)] at hE2;have hE3:res=m:=hE2;have hs:=za hlt hlt';repeat' first|(with_reducible first|refine zz ?_|refine zr ?_|refine zE [0,2,3,4,7,15] ?_)|simp -dsimp[hs]|refine i8 ?_ ?_<;>intro h<;>try exact h.elim
  all_goals simp[hE3]
def AR (D:List Desk) (k:Nat):List Int:=(D.take k).map λd=>((L0 d).length:Int)
def Bo (D:List Desk) (k:Nat):List Int:=(D.take k).map X6
theorem AQ {D:List Desk} {k:Nat} (h:k<D.length):AR D (k+1)=AR D k++[((L0 D[k]).length:Int)]:=by
 unfold AR;rw[List.take_succ_eq_append_getElem h,List.map_append];rfl
theorem Bn {D:List Desk} {k:Nat} (h:k<D.length):Bo D (k+1)=Bo D k++[X6 D[k]]:=by
 unfold Bo;rw[List.take_succ_eq_append_getElem h,List.map_append];rfl
theorem vJ {D:List Desk} {k:Nat} (h:k<=D.length):(AR D k).length=k:=by simp[AR];omega
theorem vP {D:List Desk} {k:Nat} (h:k<=D.length):(Bo D k).length=k:=by simp[Bo];omega
theorem xc (d:Desk) (z:Int) (h:(if d.notes=true then 1 else 0)=z):z+bw d.faults d.faults.length=X6 d:=by
 unfold X6 bw;rw[List.take_length,h]
noncomputable def fp (c:Case):Int×Int:=if F7 c=0 then (pw ((n8 c).map λd=>((L0 d).length:Int)),py ((n8 c).map X6)) else (0,0)
@[simp] abbrev QC:List Nat:=[0,1,2,3,4,5,6,7,9,10,12,13,15,22,25,26,27,28,34,38,39,40,41,44,45,46,47,52,60]
@[simp] abbrev WD:List Nat:=[2,3,6,7,9,10,13,25,26,27,38,39,40,44,45,46]
theorem mL (c:Case) (hG:p8 G) (hN:E5 G) (hS:v8 G) (hU:U4 G) (hR:A0 G) (hC:K5 G) (hF:jD G) (hk:KC c):zP Tryz.prog G 13 [n4 c] (.tup [E0 (fp c).1 (fp c).2,iv (F7 c)]):=by
 refine zf Tryz.func13 Tryz.ntmps13 ?_;try simp only[iv]
 have g1:G 0=some [.raw (.bool false),.raw (.bool false)]:=hF.1;have c1:=ff (G:=G) c hG hN hS hR hC hk;have hq:=hk.q;by_cases h0:F7 c=0
 ·rw[h0,show qq c=n8 c by unfold qq;rw[if_pos h0]] at c1;have hdl:=ao (E6 h0).1;have hdk:=aP hk;have c3:=λd (h:d∈n8 c)=>rO (G:=G) d c.pieces.length (aP hk d h) (by omega) (mu (E6 h0).1 d h) hF hU;have hO:fp c=(pw ((n8 c).map λd=>((L0 d).length:Int)),py ((n8 c).map X6)):=by unfold fp;rw[if_pos h0]
  have hne:∀ f:Desk->Int,(n8 c).map f≠[]:=λf e=>by have:=congrArg List.length e;simp at this;rw[this] at hdl;simp at hdl
  have c4:=GM (G:=G) ((n8 c).map λd=>((L0 d).length:Int)) (hne _) (by simp;omega);have c5:=GO (G:=G) ((n8 c).map X6) (hne _) (by simp;omega);rw[h0,hO];generalize pw ((n8 c).map λd=>((L0 d).length:Int))=r1 at *;generalize py ((n8 c).map X6)=r2 at *;clear hne hO;generalize n8 c=D at *;simp only[n4,j4,kA,aO,C5,List.map_cons,List.map_nil] at c1 c3 ⊢;have hs:=trivial;repeat' first|(with_reducible first|refine zz ?_|refine zE QC ?_)|simp -dsimp[hs]|refine zp c1 ?_|refine i8 ?_ ?_<;>intro h<;>try exact h.elim
  all_goals try clear hs
  refine i6 (ι:={ p:Nat×Nat×Bool×Nat×Bool // p.1<=D.length }) (λp=>⟨82,[(2,.one (.ptr 1 0)),(3,iv 0),(6,.one (.vec 2 p.1.2.1 0 p.1.1)),(7,.one (.vec 3 p.1.2.2.2.1 0 p.1.1)),(25,.one (.im (.sl (D.map U8)))),(26,iv (D.length:Int)),(27,iv (p.1.1:Int))],[.row ((j4 c).map .im),.row [.im (rI 0),.im (rI 0)],.vec 1 (n3 ((AR D p.1.1).map Ab.encI)) p.1.2.1 p.1.2.2.1,.vec 1 (n3 ((Bo D p.1.1).map Ab.encI)) p.1.2.2.2.1 p.1.2.2.2.2]⟩) (λp=>D.length-p.1.1) ⟨(0,0,true,0,true),by simp⟩ (zv [2,3,6,7,25,26,27] (by simp[n3,AR,Bo])) ?_;rintro⟨⟨k,ga,na,gb,nb⟩,hk1⟩;simp only at hk1;simp only[iv];by_cases hlt:k<D.length
  ·have hw:=zk k;have hx0:D[k]?=some D[k]:=by simp[hlt]
   have c6:=c3 D[k] (List.getElem_mem hlt);have hdd:=hdk D[k] (List.getElem_mem hlt);have e1:=AQ hlt;have e2:=Bn hlt;have hl1:=vJ (D:=D) hk1;have hl2:=vP (D:=D) hk1;generalize hx:D[k]=d at *;generalize AR D k=L1 at *;generalize Bo D k=L2 at *;have hma:=xc d;have hF0:bw d.faults 0=0:=by simp[bw]
   have hdn:=hdd.n;have htk1:List.take k (n3 (L1.map Ab.encI))=n3 (L1.map Ab.encI):=List.take_of_length_le (by simp[n3,hl1]);have htk2:List.take k (n3 (L2.map Ab.encI))=n3 (L2.map Ab.encI):=List.take_of_length_le (by simp[n3,hl2]);generalize L0 d=fl at *;simp only[bi,T6] at c6;obtain⟨Z,hZ⟩:∃ Z:Int,(if d.notes=true then 1 else 0)=Z:=⟨_,rfl⟩
   have hma:=hma Z hZ;have hZr:0<=Z/\Z<=1:=by rw[<- hZ];split<;>omega
   have hs:True:=trivial;cases hnt:d.notes
   all_goals
    rw[hnt] at hZ;simp only[Bool.false_eq_true,if_false,if_true] at hZ;replace hZ:=hZ.symm;have hs:=za hx (za hx0 (za hlt hnt));repeat' first|(with_reducible first|refine zz ?_|refine zE QC ?_)|simp -dsimp[U8,bi,T6,hs]|refine i8 ?_ ?_<;>intro h<;>try exact h.elim
    all_goals try clear hs
   all_goals
    refine i6 (ι:={ q:Nat // q<=d.faults.length }) (λq=>⟨82,[(2,.one (.ptr 1 0)),(3,iv 0),(6,.one (.vec 2 ga 0 k)),(7,.one (.vec 3 gb 0 k)),(9,.one (.im (.ip (j4 d.c++[.raw (.bool d.notes),.sl (d.faults.map K4)])))),(10,iv (Z+bw d.faults q.1)),(25,.one (.im (.sl (D.map U8)))),(26,iv (D.length:Int)),(27,iv (k:Int)),(38,.one (.im (.sl (d.faults.map K4)))),(39,iv (d.faults.length:Int)),(40,iv (q.1:Int))],[.row ((j4 c).map .im),.row [.im (rI 0),.im (rI 0)],.vec 1 (n3 (L1.map Ab.encI)) ga na,.vec 1 (n3 (L2.map Ab.encI)) gb nb]⟩) (λq=>d.faults.length-q.1) ⟨0,by simp⟩ (zv [2,3,6,7,9,10,25,26,27,38,39,40] (by simp[hnt,hF0,hZ])) ?_;clear hnt hZ;rintro⟨q,hq1⟩;simp only[iv];have hsr:=lu d.faults q;by_cases hlq:q<d.faults.length
    ·have hwq:=zk q;have hy0:d.faults[q]?=some d.faults[q]:=by simp[hlq]
     have hst:=eK hlq;have hfl:=hdd.l _ (List.getElem_mem hlq);generalize hy:d.faults[q]=y at *;have hmz:=tI y;have hmr:=dS y;generalize bw d.faults q=S at *;have hwS:IntKind.i64.wrap (Z+S+aC y)=Z+S+aC y:=o7 (by omega) (by omega);rw[<- hmz] at hst hwS;clear hmz hmr;have hs:=za hy (za hy0 hlq);repeat' first|(with_reducible first|refine zz ?_|refine zE QC ?_)|simp -dsimp[hs]|refine i8 ?_ ?_<;>intro h<;>try exact h.elim
     all_goals try clear hs
     refine i6 (ι:={ p:Nat×Int // p.1<=y.length/\(p.2=0\/p.2=1\/p.2=2)/\gZ y 0=gZ (y.drop p.1) p.2 }) (λp=>⟨82,[(2,.one (.ptr 1 0)),(3,iv 0),(6,.one (.vec 2 ga 0 k)),(7,.one (.vec 3 gb 0 k)),(9,.one (.im (.ip (j4 d.c++[.raw (.bool d.notes),.sl (d.faults.map K4)])))),(10,iv (Z+S)),(13,iv p.1.2),(25,.one (.im (.sl (D.map U8)))),(26,iv (D.length:Int)),(27,iv (k:Int)),(38,.one (.im (.sl (d.faults.map K4)))),(39,iv (d.faults.length:Int)),(40,iv (q:Int)),(44,.one (.im (.sl (y.map D7)))),(45,iv (y.length:Int)),(46,iv (p.1.1:Int))],[.row ((j4 c).map .im),.row [.im (rI 0),.im (rI 0)],.vec 1 (n3 (L1.map Ab.encI)) ga na,.vec 1 (n3 (L2.map Ab.encI)) gb nb]⟩) (λp=>y.length-p.1.1) ⟨(0,0),by simp⟩ (zv [2,3,6,7,9,10,13,25,26,27,38,39,40,44,45,46]) ?_;rintro⟨⟨j,n⟩,hj,hn3,hE⟩;simp only at hj hn3 hE;simp only[iv];by_cases hlj:j<y.length
     ·have hwj:=zk j;have hv0:y[j]?=some y[j]:=by simp[hlj]
      have hE2:=hE;rw[List.drop_eq_getElem_cons hlj,gZ] at hE2;generalize hv:y[j]=v at *;obtain⟨v1,v2⟩:=v;have hm1:max n 1=1\/max n 1=2:=by omega
      have hs:True:=trivial;cases v1<;>cases v2
      all_goals
       simp at hE2;have hs:=za hv (za hv0 (za hlj (za hwj g1)));repeat' first|(with_reducible first|refine zz ?_|refine zE QC ?_)|simp -dsimp[hs]|refine i8 ?_ ?_<;>intro h<;>try exact h.elim
       all_goals try clear hs
      ·exact zn ⟨(j+1,n),by omega,hn3,hE2⟩ (zw WD 4)
      ·exact zn ⟨(j+1,max n 1),by omega,by omega,hE2⟩ (zw WD 4)
      ·exact zn ⟨(j+1,max n 1),by omega,by omega,hE2⟩ (zw WD 4)
      ·exact zn ⟨(j+1,2),by omega,.inr (.inr rfl),hE2⟩ (zw WD 4)
     ·have hE2:=hE;rw[List.drop_eq_nil_of_le (by omega)] at hE2;have hE3:gZ y 0=n:=hE2;rw[hE3] at hst hwS;have hs:=za hlj (za hwq hwS);repeat' first|(with_reducible first|refine zz ?_|refine zE QC ?_)|simp -dsimp[hs]|refine i8 ?_ ?_<;>intro h<;>try exact h.elim
      all_goals try clear hs
      all_goals exact zn ⟨q+1,by omega⟩ (zw [2,3,6,7,9,10,25,26,27,38,39,40] 4 (by simp[hst,Int.add_assoc]))
    ·obtain rfl:q=d.faults.length:=by omega
     rw[hma];generalize X6 d=M at *;have hs:=za hlq (za hw (za htk1 (za htk2 (za hl1 hl2))));repeat' first|(with_reducible first|refine zz ?_|refine And.intro (by omega) ?_|refine zE QC ?_)|simp -dsimp[hs]|refine zp c6 ?_|refine i8 ?_ ?_<;>intro h<;>try exact h.elim
     all_goals try clear hs
     all_goals exact zn ⟨(k+1,ga+1,false,gb+1,false),by simp only;omega⟩ (zw [2,3,6,7,25,26,27] 4 (by simp[e1,e2,htk1,htk2,hl1,hl2]))
  ·obtain rfl:k=D.length:=by omega
   have hl1:=vJ (D:=D) hk1;have hl2:=vP (D:=D) hk1;have hE1:(D.map λd=>((L0 d).length:Int))=AR D D.length:=by simp[AR]
   have hE2:D.map X6=Bo D D.length:=by simp[Bo]
   rw[hE1] at c4;rw[hE2] at c5;generalize AR D D.length=L1 at *;generalize Bo D D.length=L2 at *;have htk1:List.take D.length (n3 (L1.map Ab.encI))=n3 (L1.map Ab.encI):=List.take_of_length_le (by simp[n3,hl1]);have htk2:List.take D.length (n3 (L2.map Ab.encI))=n3 (L2.map Ab.encI):=List.take_of_length_le (by simp[n3,hl2]);simp only[v6] at c4 c5;have hs:=za hlt (za htk1 (za htk2 (za hl1 hl2)));repeat' first|(with_reducible first|refine zz ?_|refine zr ?_|refine zE QC ?_)|simp -dsimp[hs]|refine CallE.thaw c4 ?_ ?_ ?_;(focus simp[htk1,hl1];done);(focus simp;done)|refine CallE.thaw c5 ?_ ?_ ?_;(focus simp[htk2,hl2];done);(focus simp;done)|refine i8 ?_ ?_<;>intro h<;>try exact h.elim
   all_goals try clear hs
 ·have hO:fp c=(0,0):=by unfold fp;rw[if_neg h0]
  rw[hO];simp only[n4,j4,aO,E0,List.map_cons,List.map_nil] at c1 ⊢;have hs:=h0;repeat' first|(with_reducible first|refine zz ?_|refine zr ?_|refine zE QC ?_)|simp -dsimp[hs]|refine zp c1 ?_|refine i8 ?_ ?_<;>intro h<;>try exact h.elim
  all_goals try clear hs
end Go.Proofs
namespace Go.Ab
open Go
end Go.Ab
namespace Go.Proofs
open Go Go.Ab
variable {G:LY}
attribute [simp] p5 cw u6 A5 nilV J0 ZK
theorem nK {a b:Susp}:M8 a b=0↔a=b:=by
 obtain⟨a1,a2⟩:=a;obtain⟨b1,b2⟩:=b;unfold M8 V4 V4 V4;rw[Susp.mk.injEq];simp only;split
 ·split<;>omega
 ·omega
end Go.Proofs
namespace Go.Proofs
open Go Go.Ab
variable {G:LY}
attribute [simp] p5 cw u6 A5 nilV J0 ZK
open Go Go.Ab Tryz
attribute [simp] p5 cw u6 A5 nilV J0 ZK
@[simp] abbrev Qi:List Nat:=[0,1,4,5,10,14,25]
theorem nH (l:List Susp) (hl:l.length<100000):zP prog G 24 [C5 l,C5 l] (bv true):=by
 refine zf func24 ntmps24 ?_;try simp only[iv]
 simp only[C5];have hs:=trivial;repeat' first|(with_reducible first|refine zz ?_|refine zE Qi ?_)|simp -dsimp[hs]|refine i8 ?_ ?_<;>intro h<;>try exact h.elim
 refine i6 (ι:={ k:Nat // k<=l.length }) (λp=>⟨26,[(0,.one (.im (.sl (l.map j6)))),(1,.one (.im (.sl (l.map j6)))),(5,iv (p.1:Int))],[]⟩) (λp=>l.length-p.1) ⟨0,by simp⟩ (zv [0,1,5]) ?_;rintro⟨k,hk⟩;simp only[iv];by_cases hlt:k<l.length
 ·have hlt':(k:Int)<l.length:=by omega
  have hw:=zk k;generalize hx:l[k]=x at *;have hs:=za hx (za hlt (za hlt' hw));repeat' first|with_reducible refine zz ?_|simp -dsimp[hs]|refine zM 6 26 9 Qi ?_|with_reducible refine zE Qi ?_|refine i8 ?_ ?_<;>intro h<;>try exact h.elim
  all_goals exact zn ⟨k+1,by omega⟩ (zv [0,1,5])
 ·obtain rfl:k=l.length:=by omega
  have hlt':¬ (l.length:Int)<l.length:=by omega
  have hs:=za hlt hlt';repeat' first|(with_reducible first|refine zz ?_|refine zr ?_|refine zE Qi ?_)|simp -dsimp[hs]|refine i8 ?_ ?_<;>intro h<;>try exact h.elim
attribute [simp] p5 cw u6 A5 nilV J0 ZK
theorem gH (c:Case) (k:Int) (hq:c.pieces.length<=16):(aq c k).length<100000:=by
 unfold aq;split
 ·have h1:=List.length_filter_le (λs=>decide (Eh c s=k)) (W3 c.pieces.length);have h2:=mM c.pieces.length;unfold FU;omega
 ·simp
attribute [simp] p5 cw u6 A5 nilV J0 ZK
structure TrOk (c:Case) (T:List (List Int)):Prop where
 h:∀ t∈T,K2 (l6 (l7 c.p.n.notes)) t=true/\t.length<1000
 l:T.length<=32
 p:1<=T.length
attribute [simp] p5 cw u6 A5 nilV J0 ZK
end Go.Proofs
namespace Go.Ab
open Go
abbrev Q4:=DObj×DObj×DObj×DObj
abbrev Q2:=DObj×DObj
def G3 (F:Nat->Q4):Nat->List DObj
 | 0=>[]
 | n+1=>G3 F n++[(F n).1,(F n).2.1,(F n).2.2.1,(F n).2.2.2]
def J5 (F:Nat->Q2):Nat->List DObj
 | 0=>[]
 | n+1=>J5 F n++[(F n).1,(F n).2]
@[simp] theorem eW (F:Nat->Q4):∀ n,(G3 F n).length=4*n
 | 0=>rfl
 | n+1=>by simp[G3,eW F n];omega
@[simp] theorem eX (F:Nat->Q2):∀ n,(J5 F n).length=2*n
 | 0=>rfl
 | n+1=>by simp[J5,eX F n];omega
theorem jE (F:Nat->Q4) {i j:Nat} (hj:j<4):∀ {n},i<n->(G3 F n)[4*i+j]?=[(F i).1,(F i).2.1,(F i).2.2.1,(F i).2.2.2][j]?
 | n+1,h=>by
   rw[G3];rcases Nat.eq_or_lt_of_le (Nat.le_of_lt_succ h) with rfl|h1
   ·rw[List.getElem?_append_right (by simp),eW,Nat.add_sub_cancel_left]
   ·rw[List.getElem?_append_left (by simp;omega)];exact jE F hj h1
theorem ou (F:Nat->Q2) {i j:Nat} (hj:j<2):∀ {n},i<n->(J5 F n)[2*i+j]?=[(F i).1,(F i).2][j]?
 | n+1,h=>by
   rw[J5];rcases Nat.eq_or_lt_of_le (Nat.le_of_lt_succ h) with rfl|h1
   ·rw[List.getElem?_append_right (by simp),eX,Nat.add_sub_cancel_left]
   ·rw[List.getElem?_append_left (by simp;omega)];exact ou F hj h1
@[simp] theorem oo (f:DObj->DObj) (F:Nat->Q4):∀ n,(G3 F n).map f=G3 (λk=>(f (F k).1,f (F k).2.1,f (F k).2.2.1,f (F k).2.2.2)) n
 | 0=>rfl
 | n+1=>by simp[G3,oo f F n]
@[simp] theorem ot (f:DObj->DObj) (F:Nat->Q2):∀ n,(J5 F n).map f=J5 (λk=>(f (F k).1,f (F k).2)) n
 | 0=>rfl
 | n+1=>by simp[J5,ot f F n]
theorem dZ {F H:Nat->Q4}:∀ {n},(∀ k,k<n->F k=H k)->G3 F n=G3 H n
 | 0,_=>rfl
 | n+1,h=>by rw[G3,G3,dZ λk hk=>h k (by omega),h n (by omega)]
theorem ec {F H:Nat->Q2}:∀ {n},(∀ k,k<n->F k=H k)->J5 F n=J5 H n
 | 0,_=>rfl
 | n+1,h=>by rw[J5,J5,ec λk hk=>h k (by omega),h n (by omega)]
@[simp] theorem oq (F:Nat->Q4) (n j:Nat) (R:List DObj):(G3 F n++R)[4*n+j]?=R[j]?:=by
 rw[List.getElem?_append_right (by simp),eW,Nat.add_sub_cancel_left]
@[simp] theorem Hn (F:Nat->Q4) (n:Nat) (R:List DObj):(G3 F n++R)[4*n]?=R[0]?:=by
 have:=oq F n 0 R;simpa using this
@[simp] theorem Hm (F:Nat->Q4) (n a j:Nat) (R:List DObj):(G3 F n++R)[4*n+a+j]?=R[a+j]?:=by
 rw[Nat.add_assoc,oq]
@[simp] theorem xL (F:Nat->Q2) (n j:Nat) (R:List DObj):(J5 F n++R)[2*n+j]?=R[j]?:=by
 rw[List.getElem?_append_right (by simp),eX,Nat.add_sub_cancel_left]
@[simp] theorem Hp (F:Nat->Q2) (n:Nat) (R:List DObj):(J5 F n++R)[2*n]?=R[0]?:=by
 have:=xL F n 0 R;simpa using this
@[simp] theorem uf (F:Nat->Q4) (n j:Nat) (R:List DObj) (d:DObj):(G3 F n++R).set (4*n+j) d=G3 F n++R.set j d:=by
 rw[List.set_append_right _ _ (by simp),eW,Nat.add_sub_cancel_left]
@[simp] theorem FI (F:Nat->Q4) (n a j:Nat) (R:List DObj) (d:DObj):(G3 F n++R).set (4*n+a+j) d=G3 F n++R.set (a+j) d:=by
 rw[Nat.add_assoc,uf]
@[simp] theorem Ho (F:Nat->Q2) (n j:Nat) (R:List DObj) (d:DObj):(J5 F n++R).set (2*n+j) d=J5 F n++R.set j d:=by
 rw[List.set_append_right _ _ (by simp),eX,Nat.add_sub_cancel_left]
end Go.Ab
namespace Go.Proofs
open Go Go.Ab
variable {G:LY}
def F9 (P:Program) (G:LY) (f sz:Nat) (l:List (List IC)):Prop:=DCall P G f [.one (.im (.sl l))] [] (λd o=>∃ i:Nat×Bool,(i.2=true->l=[])/\d=.one (.vec 1 i.1 0 l.length)/\o=[.vec sz [] 0 true,.vec sz (n3 l) i.1 i.2])
theorem JJ (l:List Issue) (hl:l.length<1000):F9 Tryz.prog G 124 5 (l.map e9):=by
 unfold F9;refine g9 Tryz.func124 rfl Tryz.ntmps124 (by simp) rfl ?_;repeat' first|(with_reducible first|refine zz ?_|refine And.intro (by omega) ?_|refine zx ?_|refine zE [0,2,4] ?_)|simp -dsimp|refine i8 ?_ ?_<;>intro h<;>try exact h.elim|with_reducible refine W0 (λh=>?_);(try simp only[List.map_eq_nil_iff] at h);(try subst h);try simp -dsimp|with_reducible refine And.intro ?_ ?_
theorem Hv (l:List Note) (hl:l.length<1000):F9 Tryz.prog G 125 10 (l.map j9):=by
 unfold F9;refine g9 Tryz.func125 rfl Tryz.ntmps125 (by simp) rfl ?_;repeat' first|(with_reducible first|refine zz ?_|refine And.intro (by omega) ?_|refine zx ?_|refine zE [0,2,4] ?_)|simp -dsimp|refine i8 ?_ ?_<;>intro h<;>try exact h.elim|with_reducible refine W0 (λh=>?_);(try simp only[List.map_eq_nil_iff] at h);(try subst h);try simp -dsimp|with_reducible refine And.intro ?_ ?_
theorem JI (l:List Itm) (hl:l.length<1000):F9 Tryz.prog G 126 2 (l.map A2):=by
 unfold F9;refine g9 Tryz.func126 rfl Tryz.ntmps126 (by simp) rfl ?_;repeat' first|(with_reducible first|refine zz ?_|refine And.intro (by omega) ?_|refine zx ?_|refine zE [0,2,4] ?_)|simp -dsimp|refine i8 ?_ ?_<;>intro h<;>try exact h.elim|with_reducible refine W0 (λh=>?_);(try simp only[List.map_eq_nil_iff] at h);(try subst h);try simp -dsimp|with_reducible refine And.intro ?_ ?_
theorem JL (l:List Dim) (hl:l.length<1000):F9 Tryz.prog G 127 3 (l.map D5):=by
 unfold F9;refine g9 Tryz.func127 rfl Tryz.ntmps127 (by simp) rfl ?_;repeat' first|(with_reducible first|refine zz ?_|refine And.intro (by omega) ?_|refine zx ?_|refine zE [0,2,4] ?_)|simp -dsimp|refine i8 ?_ ?_<;>intro h<;>try exact h.elim|with_reducible refine W0 (λh=>?_);(try simp only[List.map_eq_nil_iff] at h);(try subst h);try simp -dsimp|with_reducible refine And.intro ?_ ?_
theorem Hx (l:List Holder) (hl:l.length<1000):F9 Tryz.prog G 128 4 (l.map p7):=by
 unfold F9;refine g9 Tryz.func128 rfl Tryz.ntmps128 (by simp) rfl ?_;repeat' first|(with_reducible first|refine zz ?_|refine And.intro (by omega) ?_|refine zx ?_|refine zE [0,2,4] ?_)|simp -dsimp|refine i8 ?_ ?_<;>intro h<;>try exact h.elim|with_reducible refine W0 (λh=>?_);(try simp only[List.map_eq_nil_iff] at h);(try subst h);try simp -dsimp|with_reducible refine And.intro ?_ ?_
theorem EO (l:List Print) (hl:l.length<1000):F9 Tryz.prog G 129 7 (l.map A6):=by
 unfold F9;refine g9 Tryz.func129 rfl Tryz.ntmps129 (by simp) rfl ?_;repeat' first|(with_reducible first|refine zz ?_|refine And.intro (by omega) ?_|refine zx ?_|refine zE [0,2,4] ?_)|simp -dsimp|refine i8 ?_ ?_<;>intro h<;>try exact h.elim|with_reducible refine W0 (λh=>?_);(try simp only[List.map_eq_nil_iff] at h);(try subst h);try simp -dsimp|with_reducible refine And.intro ?_ ?_
theorem JK (l:List Int) (hl:l.length<1000):F9 Tryz.prog G 130 1 (l.map Ab.encI):=by
 unfold F9;refine g9 Tryz.func130 rfl Tryz.ntmps130 (by simp) rfl ?_;repeat' first|(with_reducible first|refine zz ?_|refine And.intro (by omega) ?_|refine zx ?_|refine zE [0,2,4] ?_)|simp -dsimp|refine i8 ?_ ?_<;>intro h<;>try exact h.elim|with_reducible refine W0 (λh=>?_);(try simp only[List.map_eq_nil_iff] at h);(try subst h);try simp -dsimp|with_reducible refine And.intro ?_ ?_
theorem Hw (l:List Link) (hl:l.length<1000):F9 Tryz.prog G 131 3 (l.map H2):=by
 unfold F9;refine g9 Tryz.func131 rfl Tryz.ntmps131 (by simp) rfl ?_;repeat' first|(with_reducible first|refine zz ?_|refine And.intro (by omega) ?_|refine zx ?_|refine zE [0,2,4] ?_)|simp -dsimp|refine i8 ?_ ?_<;>intro h<;>try exact h.elim|with_reducible refine W0 (λh=>?_);(try simp only[List.map_eq_nil_iff] at h);(try subst h);try simp -dsimp|with_reducible refine And.intro ?_ ?_
theorem EP (l:List Piece) (hl:l.length<1000):F9 Tryz.prog G 132 4 (l.map B1):=by
 unfold F9;refine g9 Tryz.func132 rfl Tryz.ntmps132 (by simp) rfl ?_;repeat' first|(with_reducible first|refine zz ?_|refine And.intro (by omega) ?_|refine zx ?_|refine zE [0,2,4] ?_)|simp -dsimp|refine i8 ?_ ?_<;>intro h<;>try exact h.elim|with_reducible refine W0 (λh=>?_);(try simp only[List.map_eq_nil_iff] at h);(try subst h);try simp -dsimp|with_reducible refine And.intro ?_ ?_
end Go.Proofs
