/- Part 24 of the proofs. -/
import Derived.Test.YtlmlkkoapahmjaaGreatDoorQ09
import Derived.Test.YtlmlkkoapahmjaaGreatDoorQ16
import Derived.Test.YtlmlkkoapahmjaaGreatDoorQ18
import Derived.Test.YtlmlkkoapahmjaaGreatDoorB02
import Derived.Test.YtlmlkkoapahmjaaGreatDoorB05
set_option linter.all false
set_option maxHeartbeats 100000000
namespace Go.Proofs
open Go Go.Ab Tryz
variable {G:LI}
attribute [simp] r9 cX v6 A8 nilV K0 ZK
noncomputable def Ft (c:Case):Susp->Int:=L9 (n7 c)
noncomputable def HT (c:Case) (k:Int):List Susp:=(aR c.pieces.length).filter λs=>decide (Ft c s=k)
noncomputable def lC (c:Case) (k:Int):List Susp:=if J2 c=0 then HT c k else []
theorem vZ {n:Nat} {s:Susp} (h:s∈aR n):cR n s/\0<=s.kind/\s.kind<=255:=by
 unfold cR;rcases listS_mem.1 h with⟨_,rfl⟩|⟨i,h1,_,rfl⟩|⟨i,h1,_,rfl⟩
 ·simp
 ·simp[ah];omega
 ·simp[aT];omega
theorem uN (n:Nat):(aR n).Nodup:=(Z8 _ _ _ _).imp λ{a b} h e=>by subst e;unfold N3 at h;omega
theorem mS (n:Nat):(aR n).length<=1+2*n:=by
 have h1:=(H4 true (λ_=>true) (λ_=>true) n).length_eq;have h2:=ay true (λ_=>true) (λ_=>true) n;unfold aR;omega
theorem xk (c:Case) (s:Susp):0<=Ft c s/\Ft c s<=2:=by
 unfold Ft L9;split
 ·omega
 ·split<;>omega
@[simp] abbrev Qa:List Nat:=[0,1,2,3,4,5,6,8,9,10,12,13,20,24,25,26,27,37,39,44,48,49,50,51,57,58,64]
@[simp] abbrev Wm:List Nat:=[2,3,4,6,48,49,50]
theorem se (c:Case) (hG:o3 G) (hN:E0 G) (hS:u4 G) (hU:X0 G) (hR:w0 G) (hC:J0 G) (hK:cF G) (hk:KC c):zP prog G 12 [l7 c] (.tup [A3 (lC c 2),A3 (lC c 1),iv (J2 c)]):=by
 refine zf func12 ntmps12 ?_;try simp only[iv]
 have c1:=eZ (G:=G) c hG hN hS hR hC hk;have hq:=hk.q;by_cases h0:J2 c=0
 ·have c2:=lB (G:=G) c (by omega) hU;rw[h0,show qi c=n7 c by unfold qi;rw[if_pos h0]] at c1;have hdl:=an (N4 h0).1;have c3:=λs (h:s∈aR c.pieces.length)=>mr (G:=G) c.pieces.length (n7 c) s (vZ h).1 hK (Y2 hk) (by omega);have hO:∀ k,lC c k=(aR c.pieces.length).filter λs=>decide (Ft c s=k):=λk=>by unfold lC;rw[if_pos h0];rfl
  rw[h0,hO,hO];have hfr:=xk c;have hfe:∀ s,L9 (n7 c) s=Ft c s:=λs=>rfl;simp only[hfe] at c3;have hAn:=uN c.pieces.length;have hAl:=mS c.pieces.length;clear hfe hO;generalize Ft c=f at *;generalize aR c.pieces.length=A at *;simp only[l7,j4,C3,j5,aJ,A3,rI,List.map_cons,List.map_nil] at c1 c2 c3 ⊢;have hs:=trivial;repeat' first|(with_reducible first|refine zz ?_|refine zE Qa ?_)|simp -dsimp[hs]|refine zp c1 ?_|refine zp c2 ?_|refine i8 ?_ ?_<;>intro h<;>try exact h.elim
  all_goals try clear hs
  refine i6 (ι:={ k:Nat // k<=A.length }) (λp=>⟨73,[(1,.one (.ptr 0 0)),(2,.one (.vec 1 0 0 0)),(3,.one (.vec 2 0 0 0)),(4,iv 0),(5,.one (.im (.sl ((n7 c).map U9)))),(6,.one (.map 3)),(24,.one (.im (.sl (A.map j5)))),(25,iv (A.length:Int)),(26,iv (p.1:Int))],[.row ((j4 c).map .im),.vec 2 [] 0 true,.vec 2 [] 0 true,.map [.int .u8,.int .i64] (Y8 f (A.take p.1))]⟩) (λp=>A.length-p.1) ⟨0,by simp⟩ (zv [1,2,3,4,5,6,24,25,26] (by simp[Y8])) ?_;rintro⟨k,hk1⟩;simp only[iv];by_cases hlt:k<A.length
  ·have hw:=zk k;have hx0:A[k]?=some A[k]:=by simp[hlt]
   have c4:=c3 A[k] (List.getElem_mem hlt);have hts:A.take (k+1)=A.take k++[A[k]]:=List.take_succ_eq_append_getElem hlt;have hnm:A[k]∉A.take k:=λhm=>by
    obtain⟨j,hj⟩:=List.mem_iff_getElem?.1 hm;have hjk:j<k:=by have:=e7 hj;rw[List.length_take] at this;omega
    rw[List.getElem?_take_of_lt hjk] at hj;have:=(List.getElem?_inj (e7 hj) hAn).1 (hj.trans hx0.symm);omega
   have hset:=Ax (f:=f) hnm;rw[<- hts] at hset;generalize hx:A[k]=s at *;have hs:=za hx (za hx0 (za hlt (za hw hset)));repeat' first|with_reducible refine zz ?_|simp -dsimp[hs]|refine zq c4 ?_|refine zM 8 73 5 Qa ?_|with_reducible refine zE Qa ?_|refine i8 ?_ ?_<;>intro h<;>try exact h.elim
   all_goals try clear hs
   all_goals exact zn ⟨k+1,by omega⟩ (zw [1,2,3,4,5,6,24,25,26] 4)
  ·obtain rfl:k=A.length:=by omega
   simp only[List.take_length];have hs:=hlt;repeat' first|(with_reducible first|refine zz ?_|refine zE Qa ?_)|simp -dsimp[hs]|refine i8 ?_ ?_<;>intro h<;>try exact h.elim
   all_goals try clear hs
   intro l c0 b hll hln hlc;rw[Bt] at hll;have hP1:(A.zip l).map (·.1)=A:=List.map_fst_zip (by omega);have hP2:(A.zip l).map (·.2)=l:=List.map_snd_zip (by omega);have hPn:((A.zip l).map (·.2)).Nodup:=by rw[hP2];exact hln
   clear c1 c3 hlt hk1;generalize A.zip l=P at *;subst hP2;have hAnP:(P.map (·.1)).Nodup:=by rw[hP1];exact hAn
   obtain⟨g,hg⟩:∃ g:Susp->Bool,g=λs=>decide (f s≠0):=⟨_,rfl⟩
   have hs:=trivial;repeat' first|with_reducible refine zz ?_|simp -dsimp[hs]
   all_goals try clear hs
   refine i6 (ι:={ p:List Nat×List Nat×List Susp // p.2.1=(T2 g P p.1).map (·.2)/\p.2.2=(T2 g P p.1).map (·.1) }) (λp=>⟨73,[(1,.one (.ptr 0 0)),(2,.one (.vec 1 0 0 0)),(3,.one (.vec 2 0 0 0)),(4,iv 0),(6,.one (.map 3)),(37,.one (.itr 4))],[.row ((j4 c).map .im),.vec 2 [] 0 true,.vec 2 [] 0 true,.map [.st p.1.2.1 c0 b,.int .u8,.int .i64] (Y8 f p.1.2.2),.liter b p.1.1 c0]⟩) (λp=>CQ P p.1.1) ⟨([],P.map (·.2),P.map (·.1)),by simp[xf]⟩ (zv [1,2,3,4,6,37] (by simp[hP1])) ?_;rintro⟨⟨seen,l,K⟩,hl,hK'⟩;simp only at hl hK';simp only[iv];have hs:=trivial;repeat' first|(with_reducible first|refine zz ?_|refine zE Qa ?_)|simp -dsimp[hs]|refine i8 ?_ ?_<;>intro h<;>try exact h.elim|with_reducible refine V8 (λh=>?_);(try simp only[List.map_eq_nil_iff] at h);(try subst h);try simp -dsimp[hs]|with_reducible refine And.intro ?_ ?_
   all_goals try clear hs
   ·have hend:K=(P.map (·.1)).filter g:=by rw[hK'];exact xg (by rw[<- hl];assumption)
    rw[hP1] at hend;have hget:∀ s∈A,O5 [.int .u8 s.kind,.int .i64 s.index] (Y8 f K) [.im (.raw (.int .u8 0))]=[.im (.raw (.int .u8 (f s)))]:=λs hs=>by
     rw[Az,hend];by_cases hf0:f s=0
     ·simp[hf0]
     ·rw[if_pos (List.mem_filter.2 ⟨hs,by rw[hg];simp[hf0]⟩)]
    have himE:List.map (λx:List Value×List IC=>(x.1,List.map DC.im x.2)) (oG f K)=Y8 f K:=GH f K;clear hend hK' hl hg;have hs:=trivial;repeat' first|with_reducible refine zz ?_|simp -dsimp[hs]|refine zp c2 ?_
    all_goals try clear hs
    refine i6 (ι:={ p:Nat×Nat×Bool×Nat×Bool // p.1<=A.length }) (λp=>⟨73,[(2,.one (.vec 1 p.1.2.1 0 ((A.take p.1.1).filter λs=>decide (f s=2)).length)),(3,.one (.vec 2 p.1.2.2.2.1 0 ((A.take p.1.1).filter λs=>decide (f s=1)).length)),(4,iv 0),(6,.one (.im (.mp [.int .u8,.int .i64] (oG f K)))),(48,.one (.im (.sl (A.map j5)))),(49,iv (A.length:Int)),(50,iv (p.1.1:Int))],[.row ((j4 c).map .im),.vec 2 (l5 (((A.take p.1.1).filter λs=>decide (f s=2)).map j5)) p.1.2.1 p.1.2.2.1,.vec 2 (l5 (((A.take p.1.1).filter λs=>decide (f s=1)).map j5)) p.1.2.2.2.1 p.1.2.2.2.2]⟩) (λp=>A.length-p.1.1) ⟨(0,0,true,0,true),by simp⟩ (zw Wm 3 (by simp[l5])) ?_;rintro⟨⟨k,ga,na,gb,nb⟩,hk1⟩;simp only at hk1;simp only[iv];by_cases hlt:k<A.length
    ·have hw:=zk k;have hx0:A[k]?=some A[k]:=by simp[hlt]
     have hts:A.take (k+1)=A.take k++[A[k]]:=List.take_succ_eq_append_getElem hlt;have hge:=hget A[k] (List.getElem_mem hlt);have hl1:=List.length_filter_le (λs=>decide (f s=2)) (A.take k);have hl2:=List.length_filter_le (λs=>decide (f s=1)) (A.take k);have hr:=hfr A[k];rw[List.length_take] at hl1 hl2;generalize hx:A[k]=s at *;have e2:(A.take (k+1)).filter (λs=>decide (f s=2))=(A.take k).filter (λs=>decide (f s=2))++(if f s=2 then [s] else []):=by
      rw[hts,List.filter_append];simp[List.filter_cons]
     have e1:(A.take (k+1)).filter (λs=>decide (f s=1))=(A.take k).filter (λs=>decide (f s=1))++(if f s=1 then [s] else []):=by
      rw[hts,List.filter_append];simp[List.filter_cons]
     generalize (A.take k).filter (λs=>decide (f s=2))=L2 at *;generalize (A.take k).filter (λs=>decide (f s=1))=L1 at *;have h3:f s=0\/f s=1\/f s=2:=by omega
     have hs:True:=trivial;rcases h3 with h3|h3|h3
     all_goals
      rw[h3] at hge;simp[h3] at e1 e2;have hs:=za hx (za hx0 (za hlt (za hw (za hge himE))));repeat' first|(with_reducible first|refine zz ?_|refine And.intro (by omega) ?_|refine zE Qa ?_)|simp -dsimp[hs]|refine i8 ?_ ?_<;>intro h<;>try exact h.elim
      all_goals try clear hs
     ·all_goals exact zn ⟨(k+1,ga,na,gb,nb),by simp only;omega⟩ (zw Wm 3 (by simp[e1,e2]))
     ·all_goals exact zn ⟨(k+1,ga,na,gb+1,false),by simp only;omega⟩ (zw Wm 3 (by simp[e1,e2]))
     ·all_goals exact zn ⟨(k+1,ga+1,false,gb,nb),by simp only;omega⟩ (zw Wm 3 (by simp[e1,e2]))
    ·obtain rfl:k=A.length:=by omega
     simp only[List.take_length];have hl1:=List.length_filter_le (λs=>decide (f s=2)) A;have hl2:=List.length_filter_le (λs=>decide (f s=1)) A;generalize A.filter (λs=>decide (f s=2))=L2 at *;generalize A.filter (λs=>decide (f s=1))=L1 at *;have hs:=hlt;repeat' first|(with_reducible first|refine zz ?_|refine zr ?_|refine zE Qa ?_)|simp -dsimp[hs]|refine i8 ?_ ?_<;>intro h<;>try exact h.elim
     all_goals try clear hs
     all_goals simp
   ·intro i s xa xb hx hs1 hns;obtain⟨y,hy,rfl,rfl⟩:=xN hx;have hgP:(T2 g P seen)[i]?=some (y,s):=by
     rw[hK',List.getElem?_map,Option.map_eq_some_iff] at hy;rw[hl,List.getElem?_map,Option.map_eq_some_iff] at hs1;obtain⟨p,hp1,hp2⟩:=hy;obtain⟨q,hq1,hq2⟩:=hs1;rw[hp1] at hq1;cases hq1;rw[hp1,<- hp2,<- hq2]
    have hmem:(y,s)∈P:=(List.mem_filter.1 (List.mem_of_getElem? hgP)).1;have hlt2:=CP hmem hns;have hln2:l.Nodup:=by rw[hl];exact(hPn.sublist ((List.filter_sublist).map _))
    have hKn:K.Nodup:=by rw[hK'];exact(hAnP.sublist ((List.filter_sublist).map _))
    have hidx:=pJ hln2 hs1;have hmi:=tE (f:=f) hKn hy;have hmd:=Gx (f:=f) hKn hy;by_cases hf0:f y=0
    ·have hfy:g y=false:=by rw[hg];simp[hf0]
     have hd:=xh (f:=g) hPn hgP hfy;have hl2:l.eraseIdx i=(T2 g P (seen++[s])).map (·.2):=by rw[hd,mf,<- hl]
     have hK2:K.eraseIdx i=(T2 g P (seen++[s])).map (·.1):=by rw[hd,mf,<- hK']
     rw[hf0] at hx;have hs:=za hx (za hidx (za hf0 (za hmi hmd)));repeat' first|(with_reducible first|refine zz ?_|refine zE Qa ?_)|simp -dsimp[hs]|refine i8 ?_ ?_<;>intro h<;>try exact h.elim
     all_goals try clear hs
     all_goals exact At.round ⟨(seen++[s],l.eraseIdx i,K.eraseIdx i),hl2,hK2⟩ hlt2 (zw [1,2,3,4,6,37] 5)
    ·have hfy:g y=true:=by rw[hg];simp[hf0]
     have hd:=tM (f:=g) (seen:=seen) hPn hmem hfy;have hl2:l=(T2 g P (seen++[s])).map (·.2):=by rw[hd,<- hl]
     have hK2:K=(T2 g P (seen++[s])).map (·.1):=by rw[hd,<- hK']
     have hs:=za hx (za hidx (za hf0 (za hmi hmd)));repeat' first|(with_reducible first|refine zz ?_|refine zE Qa ?_)|simp -dsimp[hs]|refine i8 ?_ ?_<;>intro h<;>try exact h.elim
     all_goals try clear hs
     all_goals exact At.round ⟨(seen++[s],l,K),hl2,hK2⟩ hlt2 (zw [1,2,3,4,6,37] 5)
 ·have hO:∀ k,lC c k=[]:=λk=>by unfold lC;rw[if_neg h0]
  rw[hO,hO];simp only[l7,j4,C3,j5,aJ,rI,List.map_cons,List.map_nil] at c1 ⊢;have hs:=h0;repeat' first|(with_reducible first|refine zz ?_|refine zr ?_|refine zE Qa ?_)|simp -dsimp[hs]|refine zp c1 ?_|refine i8 ?_ ?_<;>intro h<;>try exact h.elim
  all_goals try clear hs
end Go.Proofs
namespace Go.Ab
open Go
def U8 (s:Susp) (i:Nat):F4:=if s.kind=2/\s.index=i then (true,false) else if s.kind=3/\s.index=i then (false,true) else (false,false)
def O2 (d:Desk) (s:Susp):Bool:=((List.range d.faults.length).all λi=>decide (U8 s i∈d.faults.getD i []))&&(d.notes==decide (s.kind=1))
theorem yo {d:Desk} {s:Susp} {i:Nat} (h:i<d.faults.length) (h2:U8 s i∉d.faults.getD i []):O2 d s=false:=by
 unfold O2;rw[Bool.and_eq_false_iff];refine .inl ?_;rw[<- Bool.not_eq_true,List.all_eq_true];exact λhall=>h2 (by simpa using hall i (List.mem_range.2 h))
theorem uL {d:Desk} {s:Susp} (h:∀ i,i<d.faults.length->U8 s i∈d.faults.getD i []):O2 d s=(d.notes==decide (s.kind=1)):=by
 unfold O2;rw[show ((List.range d.faults.length).all λi=>decide (U8 s i∈d.faults.getD i []))=true by
  rw[List.all_eq_true];exact λi hi=>by simpa using h i (List.mem_range.1 hi)]
 rfl
end Go.Ab
namespace Go.Proofs
open Go Go.Ab
variable {G:LI}
attribute [simp] r9 cX v6 A8 nilV K0 ZK
def fh (s:Susp):List (List Value×List DC):=if s.kind=2 then [([.int .i64 s.index],[.im (.raw (.bool true)),.im (.raw (.bool false))])] else if s.kind=3 then [([.int .i64 s.index],[.im (.raw (.bool false)),.im (.raw (.bool true))])] else []
theorem wi (s:Susp) (i:Nat):O5 [.int .i64 (i:Int)] (fh s) [.im (.raw (.bool false)),.im (.raw (.bool false))]=[.im (.raw (.bool (U8 s i).1)),.im (.raw (.bool (U8 s i).2))]:=by
 have hb:A7 [.int .i64 (i:Int)] [.int .i64 s.index]=decide (s.index=(i:Int)):=aO (i:Int) s.index;unfold fh U8;by_cases h2:s.kind=2
 ·simp only[h2,if_true,true_and,O5,S9,hb,decide_eq_true_eq];by_cases hi:s.index=(i:Int)
  ·simp[hi]
  ·simp[hi]
 ·simp only[h2,if_false,false_and,if_false];by_cases h3:s.kind=3
  ·simp only[h3,if_true,true_and,O5,S9,hb,decide_eq_true_eq];by_cases hi:s.index=(i:Int)
   ·simp[hi]
   ·simp[hi]
  ·simp[h3,O5,S9]
@[simp] theorem Jj (n:Nat) (objs:List DObj) (s:Susp):((fh s).map λx=>(x.1,x.2.map (fz n objs)))=fh s:=by
 unfold fh;split
 ·simp[fz]
 ·split<;>simp[fz]
@[simp] abbrev QX:List Nat:=[0,1,3,4,5,6,7,10,11,17,26,27,28,29,38]
theorem EO (d:Desk) (n:Nat) (s:Susp) (hd:DkOk n d) (hn:n<100000) (hs:cR n s) (hF:kA G):zP Tryz.prog G 64 [kC d,C3 s] (bv (O2 d s)):=by
 refine zf Tryz.func64 Tryz.ntmps64 ?_;try simp only[iv]
 have g2:G 2=some [.raw (.bool true),.raw (.bool false)]:=hF.2.1;have g3:G 3=some [.raw (.bool false),.raw (.bool true)]:=hF.2.2;have hdn:=hd.n;have hg:=wi s;have hcs:(s.kind=1/\fh s=[])\/(s.kind=2/\fh s=[([.int .i64 s.index],[.im (.raw (.bool true)),.im (.raw (.bool false))])])\/(s.kind=3/\fh s=[([.int .i64 s.index],[.im (.raw (.bool false)),.im (.raw (.bool true))])]):=by
  unfold fh;rcases hs with h|⟨h|h,_,_⟩<;>simp[h]
 have hno:=λi=>yo (d:=d) (s:=s) (i:=i);have hyes:=uL (d:=d) (s:=s);generalize O2 d s=r at *;obtain⟨kd,ix⟩:=s;simp only at hcs;simp only[kC,bc,T6];clear hs;have hs:True:=trivial;rcases hcs with⟨hkd,hw⟩|⟨hkd,hw⟩|⟨hkd,hw⟩
 all_goals
  have hw1:=hw;rw[hkd] at hw1;have hs:=za g2 (za g3 hkd);repeat' first|(with_reducible first|refine zz ?_|refine zE QX ?_)|simp -dsimp[hs]|refine i8 ?_ ?_<;>intro h<;>try exact h.elim
  all_goals try clear hs
 all_goals
  refine i6 (ι:={ k:Nat // k<=d.faults.length/\∀ j,j<k->U8 ⟨kd,ix⟩ j∈d.faults.getD j [] }) (λp=>⟨48,[(0,kC d),(3,.one (.ptr 0 0)),(5,.one (.map 1)),(26,.one (.im (.sl (d.faults.map K2)))),(27,iv (d.faults.length:Int)),(28,iv (p.1:Int))],[.row [.im (.raw (.int .u8 kd)),.im (rI ix)],.map [.int .i64] (fh ⟨kd,ix⟩)]⟩) (λp=>d.faults.length-p.1) ⟨0,by simp⟩ (zv [0,3,5,26,27,28] (by simp[hw,hw1,hkd,R6,bc,T6])) ?_;rintro⟨k,hk1,hall⟩;simp only[iv,kC,bc,T6];by_cases hlt:k<d.faults.length
  ·have hwk:=zk k;have hx0:d.faults[k]?=some d.faults[k]:=by simp[hlt]
   have hgd:d.faults.getD k []=d.faults[k]:=by simp[hlt]
   have hgk:=hg k;have hnk:=hno k hlt;rw[hgd] at hnk;have hall2:U8 ⟨kd,ix⟩ k∈d.faults[k]->∀ j,j<k+1->U8 ⟨kd,ix⟩ j∈d.faults.getD j []:=λh j hj=>by
    by_cases e:j=k
    ·subst e;rw[hgd];exact h
    ·exact hall j (by omega)
   generalize hw0:U8 ⟨kd,ix⟩ k=w at *;have c1:=iJ (G:=G) d.faults[k] w (hd.l _ (List.getElem_mem hlt));generalize hx:d.faults[k]=x at *;simp only[jV,D6,List.map_cons,List.map_nil] at c1;by_cases hm:w∈x
   ·rw[decide_eq_true hm] at c1;have hs:=za hx (za hlt (za hwk hgk));repeat' first|(with_reducible first|refine zz ?_|refine zE QX ?_)|simp -dsimp[hs]|refine zp c1 ?_|refine i8 ?_ ?_<;>intro h<;>try exact h.elim
    all_goals try clear hs
    all_goals exact zn ⟨k+1,by omega,hall2 hm⟩ (zw [0,3,5,26,27,28] 2 (by simp[bc,T6]))
   ·rw[decide_eq_false hm] at c1;have hr:=hnk hm;have hs:=za hx (za hlt (za hwk hgk));repeat' first|(with_reducible first|refine zz ?_|refine zr ?_|refine zE QX ?_)|simp -dsimp[hs]|refine zp c1 ?_|refine i8 ?_ ?_<;>intro h<;>try exact h.elim
    all_goals try clear hs
    all_goals simp[hr]
  ·obtain rfl:k=d.faults.length:=by omega
   have hr:=hyes λi hi=>hall i hi;rw[hr];have hs:=za hlt hkd;repeat' first|(with_reducible first|refine zz ?_|refine zr ?_)|simp -dsimp[hs]|refine zM 13 48 9 QX ?_|with_reducible refine zE QX ?_|refine i8 ?_ ?_<;>intro h<;>try exact h.elim
   all_goals try clear hs
   all_goals simp[hkd]
end Go.Proofs
namespace Go.Proofs
open Go Go.Ab Tryz
variable {G:LI}
attribute [simp] r9 cX v6 A8 nilV K0 ZK
theorem Ck (n:Nat) (s:Susp) (hs:cR n s) (hn:n<100000) (hF:kA G) (d:Desk) (hd:DkOk n d):DCall prog G 63 (kC d :: [DC.ptr 0 0].map .one) [.row ((j5 s).map .im)] (λr o=>r=bv (O2 d s)/\o=[.row ((j5 s).map .im)]):=by
 refine DCall.drop ?_;have c1:=EO (G:=G) d n s hd hn hs hF;simp only[kC,C3,j5,rI,List.map_cons,List.map_nil] at c1;refine h9 func63 rfl ntmps63 (by simp) rfl ?_;simp only[kC,j5,rI,List.map_cons,List.map_nil];have hs:=trivial;repeat' first|(with_reducible first|refine zz ?_|refine zr ?_|refine zE [0,1,3] ?_)|simp -dsimp[hs]|refine zp c1 ?_|with_reducible refine And.intro ?_ ?_
 all_goals try clear hs
noncomputable def yp (c:Case) (s:Susp):Bool:=(n7 c).any λd=>O2 d s
noncomputable def jF (c:Case):List Susp:=if J2 c=0 then (aR c.pieces.length).filter (yp c) else []
@[simp] abbrev Wn:List Nat:=[0,1,2,3,4,5,6,8,15,18,19,20,21,26]
theorem sf (c:Case) (hG:o3 G) (hN:E0 G) (hS:u4 G) (hU:X0 G) (hR:w0 G) (hC:J0 G) (hF:kA G) (hk:KC c):zP prog G 17 [l7 c] (.tup [A3 (jF c),iv (J2 c)]):=by
 refine zf func17 ntmps17 ?_;try simp only[iv]
 have c1:=eZ (G:=G) c hG hN hS hR hC hk;have hq:=hk.q;by_cases h0:J2 c=0
 ·have c2:=lB (G:=G) c (by omega) hU;rw[h0,show qi c=n7 c by unfold qi;rw[if_pos h0]] at c1;have hdl:=an (N4 h0).1;have c3:=λs (h:s∈aR c.pieces.length)=>dc (G:=G) (n7 c) (λd=>O2 d s) 63 [.ptr 0 0] [.row ((j5 s).map .im)] (by simp) (λd hdm=>Ck c.pieces.length s (vZ h).1 (by omega) hF d (Y2 hk d hdm)) (by omega);have hO:jF c=(aR c.pieces.length).filter (yp c):=by unfold jF;rw[if_pos h0]
  have hfe:∀ s,((n7 c).any λd=>O2 d s)=yp c s:=λs=>rfl;simp only[hfe] at c3;rw[h0,hO];have hAl:=mS c.pieces.length;clear hO hfe;generalize yp c=f at *;generalize aR c.pieces.length=A at *;simp only[l7,j4,C3,j5,aJ,A3,rI,List.map_cons,List.map_nil] at c1 c2 c3 ⊢;have hs:=trivial;repeat' first|(with_reducible first|refine zz ?_|refine zE Wn ?_)|simp -dsimp[hs]|refine zp c1 ?_|refine zp c2 ?_|refine i8 ?_ ?_<;>intro h<;>try exact h.elim
  all_goals try clear hs
  refine i6 (ι:={ p:Nat×Nat×Bool // p.1<=A.length }) (λp=>⟨33,[(4,.one (.im (.sl ((n7 c).map U9)))),(6,.one (.vec 2 p.1.2.1 0 ((A.take p.1.1).filter f).length)),(18,.one (.im (.sl (A.map j5)))),(19,iv (A.length:Int)),(20,iv (p.1.1:Int))],[.row ((j4 c).map .im),.vec 2 [] 0 true,.vec 2 (l5 (((A.take p.1.1).filter f).map j5)) p.1.2.1 p.1.2.2]⟩) (λp=>A.length-p.1.1) ⟨(0,0,true),by simp⟩ (zv [4,6,18,19,20] (by simp[l5])) ?_;rintro⟨⟨k,g,nl⟩,hk1⟩;simp only at hk1;simp only[iv];by_cases hlt:k<A.length
  ·have hw:=zk k;have hx0:A[k]?=some A[k]:=by simp[hlt]
   have hts:A.take (k+1)=A.take k++[A[k]]:=List.take_succ_eq_append_getElem hlt;have c4:=c3 A[k] (List.getElem_mem hlt);have hl1:=List.length_filter_le f (A.take k);rw[List.length_take] at hl1;generalize hx:A[k]=s at *;have e1:(A.take (k+1)).filter f=(A.take k).filter f++(if f s=true then [s] else []):=by
    rw[hts,List.filter_append];simp[List.filter_cons]
   generalize (A.take k).filter f=L at *;have hs:True:=trivial;cases hf:f s
   all_goals
    rw[hf] at c4;simp[hf] at e1;have hs:=za hx (za hx0 (za hlt hw));repeat' first|(with_reducible first|refine zz ?_|refine And.intro (by omega) ?_|refine zE Wn ?_)|simp -dsimp[hs]|refine CallE.embed [3] (c4) ?_ ?_ ?_ ?_ ?_ ?_;(focus simp[u9];done);(focus simp;done);(focus simp;done);(focus simp;done);(focus refine o4 ?_;simp[u9,r5];done);try simp -dsimp[n8,u9,hs]|refine i8 ?_ ?_<;>intro h<;>try exact h.elim
    all_goals try clear hs
   ·all_goals exact zn ⟨(k+1,g,nl),by simp only;omega⟩ (zw [4,6,18,19,20] 3 (by simp[e1]))
   ·all_goals exact zn ⟨(k+1,g+1,false),by simp only;omega⟩ (zw [4,6,18,19,20] 3 (by simp[e1]))
  ·obtain rfl:k=A.length:=by omega
   simp only[List.take_length];have hl1:=List.length_filter_le f A;generalize A.filter f=L at *;have hs:=hlt;repeat' first|(with_reducible first|refine zz ?_|refine zr ?_|refine zE Wn ?_)|simp -dsimp[hs]|refine i8 ?_ ?_<;>intro h<;>try exact h.elim
   all_goals try clear hs
   all_goals simp
 ·have hO:jF c=[]:=by unfold jF;rw[if_neg h0]
  rw[hO];simp only[l7,j4,C3,j5,aJ,rI,List.map_cons,List.map_nil] at c1 ⊢;have hs:=h0;repeat' first|(with_reducible first|refine zz ?_|refine zr ?_|refine zE Wn ?_)|simp -dsimp[hs]|refine zp c1 ?_|refine i8 ?_ ?_<;>intro h<;>try exact h.elim
  all_goals try clear hs
attribute [simp] r9 cX v6 A8 nilV K0 ZK
theorem wg (d i w:Int) (l:List Print):bj d i w l≠[]:=by
 unfold bj;have hm:bF d i w l∈r7 (j8 (ar d i w l++[bF d i w l])):=by
  rw[gc];exact(List.mergeSort_perm _ _).mem_iff.2 (by simp)
 generalize r7 (j8 (ar d i w l++[bF d i w l]))=D at *;rcases rp (λx=>decide (bF d i w l=x)) D with h|h
 ·intro e;have h2:=congrArg List.length e;rw[List.length_drop,List.length_nil] at h2;have hlp:0<D.length:=List.length_pos_of_mem hm;omega
 ·rw[h] at hm;simp at hm
theorem gV {c:Case} (he:p9 c=0) {k:Nat} (h1:k<c.pieces.length):C6 c k≠[]:=by
 obtain⟨hp0,hcb⟩:=A1 he;obtain⟨hn0,hpb,hr0⟩:=A9 hp0;have hok:=I4 hcb;have h2:k<c.loop.links.length:=by have:=hok.e;omega
 have hdm:=eW hr0 hcb h1 h2;have hq:=hcb;rw[N1,Bool.and_eq_true,List.all_eq_true] at hq;have h3:k<(c.loop.links.zip c.pieces).length:=by rw[List.length_zip];omega
 have h4:=hq.2 _ (List.getElem_mem h3);rw[List.getElem_zip] at h4;simp only at h4;rw[jn hr0] at h4;obtain⟨_,_,_,hh,hd,_⟩:=h4;rw[gW h1 h2];unfold P6;have hA:O3 c.p c.pieces[k].day 1 c.pieces[k].holder c.loop.links[k].drawing=0:=by
  unfold O3 J1 ut;rw[if_neg,if_pos ⟨hh,hdm⟩];rw[if_neg (by simp[hp0]),if_pos (by simp at hd ⊢;omega)];simp
 rw[if_pos hA];exact wg _ _ _ _
theorem ER {L:List F4} {so:Bool} {f:F4} (h:L≠[]):aS L so f≠[]:=by
 unfold aS;split
 ·simp
 ·exact h
theorem sh {L:List F4} {f:F4}:aS L true f≠[]:=by
 unfold aS;split
 ·simp
 ·rename_i h;have:f∈L:=Classical.byContradiction λh2=>h ⟨rfl,h2⟩;exact List.ne_nil_of_mem this
theorem xC {c:Case} {y:Link} {x:Piece} {o:Int} {L:List F4} {l:Int} (hx:x.lo<=x.hi):H5 c y x o L l≠[]:=by
 unfold H5;by_cases h1:sJ c y x l=true
 ·rw[h1];exact ER sh
 ·have h2:xD c y x l=true:=by
   unfold sJ at h1;unfold xD;split at h1
   ·simp at h1
   ·rename_i z hz;simp only[hz,U6,Bool.and_eq_true,decide_eq_true_eq,Bool.not_eq_true',decide_eq_false_iff_not] at h1 ⊢;omega
  rw[h2];exact sh
theorem GS {c:Case} (he:p9 c=0) (s:List Int) {k:Nat} (h1:k<c.pieces.length):jq c s k≠[]:=by
 obtain⟨hp0,hcb⟩:=A1 he;have hok:=I4 hcb;have h2:k<c.loop.links.length:=by have:=hok.e;omega
 have hm:=gV he h1;have hp:=iU hok h1;unfold P3 at hp;have hx0:c.pieces[k]?=some c.pieces[k]:=by simp[h1]
 have hy0:c.loop.links[k]?=some c.loop.links[k]:=by simp[h2]
 unfold jq;rw[hx0,hy0];simp only;generalize C6 c k=M at *;rw[<- List.dropLast_concat_getLast hm,List.foldl_append];exact xC hp.2.1
theorem mD {c:Case} (he:p9 c=0):∀ d∈n7 c,∀ x∈d.faults,x≠[]:=by
 intro d hd x hx;obtain⟨s,_,rfl⟩:=List.mem_map.1 hd;simp only[B9,List.mem_map,List.mem_range] at hx;obtain⟨k,hk,rfl⟩:=hx;exact GS he s hk
def E8:List Susp->List Susp->Int
 | [],[]=>0
 | [],_ :: _=>-1
 | _ :: _,[]=>1
 | a :: x,b :: y=>if J4 a b≠0 then J4 a b else E8 x y
def Y4 (a b:List Susp):Int:=O4 [(a.length:Int)-b.length,E8 a b]
def P7 (m x:List Susp):List Susp:=if Y4 x m<0 then x else m
def mc:List (List Susp)->List Susp
 | []=>[]
 | x :: r=>r.foldl P7 x
def jZ (l:List Susp):List IC:=[.sl (l.map j5)]
def eu (l:List Susp):Prop:=(∀ x∈l,er x)/\l.length<100000
theorem Dq (a b:Susp) (ha:er a) (hb:er b) (objs:List DObj):DCall prog G 61 [C3 a,C3 b] objs (λd o=>d=iv (J4 a b)/\o=objs):=by
 refine DCall.frame ?_ (by simp) (by simp) objs;exact(vz a b ha hb).mono λd o h=>by rw[h.1];simp
@[simp] abbrev QK:List Nat:=[0,1,2,6,7,8,9,10,11,12,13,14,21,31,38]
theorem EA (a b:List Susp) (ha:eu a) (hb:eu b):zP prog G 60 [A3 a,A3 b,.one (.im (.fn (.func 61) []))] (iv (E8 a b)):=by
 refine zf func60 ntmps60 ?_;try simp only[iv]
 have hal:=ha.2;have hbl:=hb.2;simp only[A3];have hs:=trivial;repeat' first|(with_reducible first|refine zz ?_|refine zE QK ?_)|simp -dsimp[hs]
 refine i6 (ι:={ k:Nat // k<=a.length/\k<=b.length/\E8 a b=E8 (a.drop k) (b.drop k) }) (λp=>⟨39,[(0,.one (.im (.sl (a.map j5)))),(1,.one (.im (.sl (b.map j5)))),(2,.one (.im (.fn (.func 61) []))),(11,.one (.im (.sl (a.map j5)))),(12,iv (a.length:Int)),(13,iv (p.1:Int))],[]⟩) (λp=>a.length-p.1) ⟨0,by simp⟩ (zv [0,1,2,11,12,13]) ?_;rintro⟨k,hka,hkb,hE⟩;have hE2:=hE;simp only[iv];by_cases hlt:k<a.length
 ·have hw:=zk k;have hx0:a[k]?=some a[k]:=by simp[hlt]
  have hxt:=ha.1 a[k] (List.getElem_mem hlt);rw[List.drop_eq_getElem_cons hlt] at hE2;by_cases hlb:k<b.length
  ·have hlb':¬ (b.length:Int)<=k:=by omega
   have hy0:b[k]?=some b[k]:=by simp[hlb]
   have hyt:=hb.1 b[k] (List.getElem_mem hlb);rw[List.drop_eq_getElem_cons hlb,E8] at hE2;generalize hx:a[k]=x at *;generalize hy:b[k]=y at *;have c1:=Dq (G:=G) x y hxt hyt;generalize J4 x y=z at *;simp only[C3,j5,rI,List.map_cons,List.map_nil] at c1;by_cases hz:z=0
   ·rw[if_neg (by simp[hz])] at hE2;have hs:=za hx (za hx0 (za hy (za hy0 (za hlt (za hlb (za hlb' (za hw hz)))))));repeat' first|(with_reducible first|refine zz ?_|refine zE QK ?_)|simp -dsimp[hs]|refine zp c1 ?_|refine i8 ?_ ?_<;>intro h<;>try exact h.elim
    all_goals exact zn ⟨k+1,by omega,by omega,hE2⟩ (zw [0,1,2,11,12,13] 0)
   ·rw[if_pos hz] at hE2;have hs:=za hx (za hx0 (za hy (za hy0 (za hlt (za hlb (za hlb' (za hw hz)))))));repeat' first|(with_reducible first|refine zz ?_|refine zr ?_|refine zE QK ?_)|simp -dsimp[hs]|refine zp c1 ?_|refine i8 ?_ ?_<;>intro h<;>try exact h.elim
    all_goals simp[hE2]
  ·have hkb2:k=b.length:=by omega
   have hlb':(b.length:Int)<=k:=by omega
   rw[List.drop_eq_nil_of_le (by omega:b.length<=k),E8] at hE2;generalize hx:a[k]=x at *;have hs:=za hx (za hx0 (za hlt (za hlb (za hlb' hw))));repeat' first|(with_reducible first|refine zz ?_|refine zr ?_|refine zE QK ?_)|simp -dsimp[hs]|refine i8 ?_ ?_<;>intro h<;>try exact h.elim
   all_goals simp[hE2]
 ·have hka2:k=a.length:=by omega
  rw[List.drop_eq_nil_of_le (by omega)] at hE2;by_cases hlb:a.length<b.length
  ·have hlb':(a.length:Int)<b.length:=by omega
   rw[List.drop_eq_getElem_cons (by omega),E8] at hE2;have hs:=za hlt (za hlb hlb');repeat' first|(with_reducible first|refine zz ?_|refine zr ?_|refine zE QK ?_)|simp -dsimp[hs]|refine i8 ?_ ?_<;>intro h<;>try exact h.elim
   all_goals simp[hE2]
  ·have hlb':¬ (a.length:Int)<b.length:=by omega
   rw[List.drop_eq_nil_of_le (by omega),E8] at hE2;have hs:=za hlt (za hlb hlb');repeat' first|(with_reducible first|refine zz ?_|refine zr ?_|refine zE QK ?_)|simp -dsimp[hs]|refine i8 ?_ ?_<;>intro h<;>try exact h.elim
   all_goals simp[hE2]
attribute [simp] r9 cX v6 A8 nilV K0 ZK
theorem Hb (a b:List Susp) (ha:eu a) (hb:eu b):zP prog G 58 [A3 a,A3 b] (iv (Y4 a b)):=by
 refine zf func58 ntmps58 ?_;try simp only[iv]
 have hal:=ha.2;have hbl:=hb.2;have c1:=EA (G:=G) a b ha hb;have c2:=Fp (G:=G) [(a.length:Int)-b.length,E8 a b] (by simp);have hE:Y4 a b=O4 [(a.length:Int)-b.length,E8 a b]:=rfl;rw[<- hE] at c2;have hw:IntKind.i64.wrap ((a.length:Int)-b.length)=(a.length:Int)-b.length:=n4 (by omega) (by omega);generalize E8 a b=z at *;generalize Y4 a b=r at *;simp only[A3] at c1 ⊢;have hs:=hw;repeat' first|(with_reducible first|refine zz ?_|refine zr ?_|refine zE [0,1,4] ?_)|simp -dsimp[hs]|refine zp c1 ?_|refine zt c2 ?_ ?_ ?_;(focus simp;done);focus (simp;done)
@[simp] abbrev Q9:List Nat:=[0,1,4,5,6,9,17,27]
theorem DK (L:List (List Susp)) (hne:L≠[]) (hl:L.length<1000000) (ht:∀ x∈L,eu x):zP prog G 108 [.one (.im (.sl (L.map jZ))),.one (.im (.fn (.func 58) []))] (A3 (mc L)):=by
 refine zf func108 ntmps108 ?_;try simp only[iv]
 obtain⟨x0,r0,rfl⟩:∃ x r,L=x :: r:=by
  cases L with
  | nil=>exact absurd rfl hne
  | cons x r=>exact⟨x,r,rfl⟩
 have hE:mc (x0 :: r0)=((x0 :: r0).drop 1).foldl P7 x0:=rfl;have hl1:¬ ((x0 :: r0).length:Int)<1:=by simp;omega
 have hlp:0<(x0 :: r0).length:=by simp
 have hx1:(x0 :: r0)[0]?=some x0:=rfl;have hx2:(x0 :: r0)[0]=x0:=rfl;have hm0:x0∈(x0 :: r0):=by simp
 have hk1:1<=(x0 :: r0).length:=hlp;generalize (x0 :: r0)=L at *;generalize mc L=res at *;simp only[A3];have hs:=za hl1 (za hx1 (za hx2 hlp));repeat' first|(with_reducible first|refine zz ?_|refine zE Q9 ?_)|simp -dsimp[jZ,hs]|refine i8 ?_ ?_<;>intro h<;>try exact h.elim
 refine i6 (ι:={ p:Nat×List Susp // 1<=p.1/\p.1<=L.length/\p.2∈L/\res=(L.drop p.1).foldl P7 p.2 }) (λp=>⟨33,[(0,.one (.im (.sl (L.map jZ)))),(1,.one (.im (.fn (.func 58) []))),(5,.one (.im (.sl (p.1.2.map j5)))),(6,iv (p.1.1:Int))],[]⟩) (λp=>L.length-p.1.1) ⟨(1,x0),Nat.le_refl _,hk1,hm0,hE⟩ (zw [0,1,5,6] 0) ?_;rintro⟨⟨k,m⟩,hk1',hk,hm,hE2⟩;simp only at hk1' hk hm hE2;simp only[iv];by_cases hlt:k<L.length
 ·have hlt':(k:Int)<L.length:=by omega
  have hw:=zk k;have hx:L[k]?=some L[k]:=by simp[hlt]
  have hmk:L[k]∈L:=List.getElem_mem hlt;rw[List.drop_eq_getElem_cons hlt,List.foldl_cons] at hE2;generalize hy:L[k]=y at *;have c1:=Hb (G:=G) y m (ht y hmk) (ht m hm);simp only[A3] at c1;unfold P7 at hE2;by_cases hym:Y4 y m<0
  ·rw[if_pos hym] at hE2;have hs:=za hx (za hy (za hlt (za hlt' (za hw hym))));repeat' first|(with_reducible first|refine zz ?_|refine zE Q9 ?_)|simp -dsimp[jZ,hs]|refine zp c1 ?_|refine i8 ?_ ?_<;>intro h<;>try exact h.elim
   all_goals exact zn ⟨(k+1,y),by simp,by simp only;omega,hmk,hE2⟩ (zw [0,1,5,6] 0)
  ·rw[if_neg hym] at hE2;have hs:=za hx (za hy (za hlt (za hlt' (za hw hym))));repeat' first|(with_reducible first|refine zz ?_|refine zE Q9 ?_)|simp -dsimp[jZ,hs]|refine zp c1 ?_|refine i8 ?_ ?_<;>intro h<;>try exact h.elim
   all_goals exact zn ⟨(k+1,m),by simp,by simp only;omega,hm,hE2⟩ (zw [0,1,5,6] 0)
 ·have hlt':¬ (k:Int)<L.length:=by omega
  rw[List.drop_eq_nil_of_le (by omega)] at hE2;have hE3:res=m:=hE2;have hs:=za hlt hlt';repeat' first|(with_reducible first|refine zz ?_|refine zr ?_|refine zE Q9 ?_)|simp -dsimp[hs]|refine i8 ?_ ?_<;>intro h<;>try exact h.elim
  all_goals simp[hE3]
theorem BV (L:List (List Susp)) (hne:L≠[]) (hl:L.length<1000000) (ht:∀ x∈L,eu x):zP prog G 57 [.one (.im (.sl (L.map jZ))),.one (.im (.fn (.func 58) []))] (A3 (mc L)):=by
 refine zf func57 ntmps57 ?_;try simp only[iv]
 have c1:=DK (G:=G) L hne hl ht;generalize mc L=r at *;simp only[A3] at c1 ⊢;repeat' first|(with_reducible first|refine zz ?_|refine zx ?_|refine zE [0,1,4] ?_)|simp -dsimp|refine zp c1 ?_
attribute [simp] r9 cX v6 A8 nilV K0 ZK
theorem oE {n:Nat} {d:Desk} (hd:DkOk n d) (hn:n<40000):eu (N9 d):=by
 have hdn:=hd.n;have hl:(N9 d).length<=1+2*n:=by
  have h1:=(H4 d.notes (dU d) (dW d) d.faults.length).length_eq;have h2:=ay d.notes (dU d) (dW d) d.faults.length;unfold N9;omega
 refine⟨λx hx=>?_,by omega⟩;unfold er;rcases listS_mem.1 hx with⟨_,rfl⟩|⟨i,h1,_,rfl⟩|⟨i,h1,_,rfl⟩
 ·simp
 ·simp[ah];omega
 ·simp[aT];omega
def dV (D:List Desk) (k:Nat):List (List IC):=(((D.take k).map N9)).map jZ
theorem uf {D:List Desk} {k:Nat} (h:k<D.length):dV D (k+1)=dV D k++[[.sl ((N9 D[k]).map j5)]]:=by
 unfold dV;rw[List.take_succ_eq_append_getElem h,List.map_append,List.map_append];rfl
theorem oD {D:List Desk} {k:Nat} (h:k<=D.length):(dV D k).length=k:=by simp[dV];omega
theorem xK (D:List Desk):dV D D.length=(D.map N9).map jZ:=by simp[dV]
noncomputable def kB (c:Case):List Susp:=if J2 c=0 then mc ((n7 c).map N9) else []
@[simp] abbrev Wo:List Nat:=[0,1,2,3,4,5,6,8,15,17,18,19,20]
theorem oY (c:Case) (hG:o3 G) (hN:E0 G) (hS:u4 G) (hU:X0 G) (hR:w0 G) (hC:J0 G) (hF:kA G) (hk:KC c):zP prog G 16 [l7 c] (.tup [A3 (kB c),iv (J2 c)]):=by
 refine zf func16 ntmps16 ?_;try simp only[iv]
 have c1:=eZ (G:=G) c hG hN hS hR hC hk;have hq:=hk.q;by_cases h0:J2 c=0
 ·rw[h0,show qi c=n7 c by unfold qi;rw[if_pos h0]] at c1;have hdl:=an (N4 h0).1;have c3:=λd (h:d∈n7 c)=>rq (G:=G) d c.pieces.length (Y2 hk d h) (by omega) (mD (N4 h0).1 d h) hF hU;have hO:kB c=mc ((n7 c).map N9):=by unfold kB;rw[if_pos h0]
  have c2:=BV (G:=G) ((n7 c).map N9) (by intro e;have:=congrArg List.length e;simp at this;rw[this] at hdl;simp at hdl) (by simp;omega) (λx hx=>by
   obtain⟨d,hd,rfl⟩:=List.mem_map.1 hx;exact oE (Y2 hk d hd) (by omega))
  rw[h0,hO];generalize mc ((n7 c).map N9)=res at *;generalize n7 c=D at *;simp only[l7,j4,kC,aJ,A3,List.map_cons,List.map_nil] at c1 c2 c3 ⊢;clear hO;have hs:=trivial;repeat' first|(with_reducible first|refine zz ?_|refine zE Wo ?_)|simp -dsimp[hs]|refine zp c1 ?_|refine i8 ?_ ?_<;>intro h<;>try exact h.elim
  all_goals try clear hs
  refine i6 (ι:={ p:Nat×Nat×Bool // p.1<=D.length }) (λp=>⟨31,[(6,.one (.vec 2 p.1.2.1 0 p.1.1)),(17,.one (.im (.sl (D.map U9)))),(18,iv (D.length:Int)),(19,iv (p.1.1:Int))],[.row ((j4 c).map .im),.vec 2 [] 0 true,.vec 1 (l5 (dV D p.1.1)) p.1.2.1 p.1.2.2]⟩) (λp=>D.length-p.1.1) ⟨(0,0,true),by simp⟩ (zv [6,17,18,19] (by simp[l5,dV])) ?_;rintro⟨⟨k,g,nl⟩,hk1⟩;simp only at hk1;simp only[iv];by_cases hlt:k<D.length
  ·have hw:=zk k;have hx0:D[k]?=some D[k]:=by simp[hlt]
   have c4:=c3 D[k] (List.getElem_mem hlt);have e1:=uf hlt;have hll:=oD (D:=D) hk1;generalize hx:D[k]=d at *;generalize dV D k=L at *;generalize N9 d=f at *;have htk:List.take k (l5 L)=l5 L:=List.take_of_length_le (by simp[l5,hll]);have hs:=za hx (za hx0 (za hlt (za hw (za htk hll))));repeat' first|(with_reducible first|refine zz ?_|refine And.intro (by omega) ?_|refine zE Wo ?_)|simp -dsimp[hs]|refine zp c4 ?_|refine i8 ?_ ?_<;>intro h<;>try exact h.elim
   all_goals try clear hs
   all_goals exact zn ⟨(k+1,g+1,false),by simp only;omega⟩ (zw [6,17,18,19] 3 (by simp[e1,htk,hll,aE]))
  ·obtain rfl:k=D.length:=by omega
   have hll:=oD (D:=D) (Nat.le_refl _);rw[<- xK] at c2;generalize dV D D.length=L at *;have htk:List.take D.length (l5 L)=l5 L:=List.take_of_length_le (by simp[l5,hll]);have hs:=za hlt (za htk hll);repeat' first|(with_reducible first|refine zz ?_|refine zr ?_|refine zE Wo ?_)|simp -dsimp[hs]|refine CallE.freeze 0 (c2 []) ?_ ?_ ?_ ?_ ?_ ?_;(focus simp;done);(focus simp[htk,hll];done);(focus simp;done);(focus rfl);(focus simp;done);try simp -dsimp[v6]|refine i8 ?_ ?_<;>intro h<;>try exact h.elim
   all_goals try clear hs
 ·have hO:kB c=[]:=by unfold kB;rw[if_neg h0]
  rw[hO];simp only[l7,j4,aJ,List.map_cons,List.map_nil] at c1 ⊢;have hs:=h0;repeat' first|(with_reducible first|refine zz ?_|refine zr ?_|refine zE Wo ?_)|simp -dsimp[hs]|refine zp c1 ?_|refine i8 ?_ ?_<;>intro h<;>try exact h.elim
  all_goals try clear hs
end Go.Proofs
namespace Go.Ab
open Go
def fp (L:List F4):Int:=if (true,true)∈L then 2 else if (true,false)∈L\/(false,true)∈L then 1 else 0
def gR:List F4->Int->Int
 | [],n=>n
 | f :: r,n=>gR r (if f=(false,false) then n else if f=(true,true) then 2 else max n 1)
theorem aw:∀ (L:List F4) (n:Int),(n=0\/n=1\/n=2)->gR L n=if n=2\/(true,true)∈L then 2 else if n=1\/(true,false)∈L\/(false,true)∈L then 1 else 0
 | [],n,h=>by simp[gR];omega
 | ⟨a,b⟩ :: r,n,h=>by
   rw[gR];cases a<;>cases b
   ·rw[if_pos rfl,aw r n h];simp
   ·rw[if_neg (by simp),if_neg (by simp),aw r _ (by omega)];rcases h with rfl|rfl|rfl<;>simp[show max (0:Int) 1=1 from rfl,show max (1:Int) 1=1 from rfl,show max (2:Int) 1=2 from rfl]
   ·rw[if_neg (by simp),if_neg (by simp),aw r _ (by omega)];rcases h with rfl|rfl|rfl<;>simp[show max (0:Int) 1=1 from rfl,show max (1:Int) 1=1 from rfl,show max (2:Int) 1=2 from rfl]
   ·rw[if_neg (by simp),if_pos rfl,aw r _ (by omega)];simp
theorem tA (L:List F4):gR L 0=fp L:=by
 rw[aw L 0 (.inl rfl)];unfold fp;simp
def fB (F:List (List F4)) (k:Nat):Int:=((F.take k).map fp).sum
def dL (d:Desk):Int:=(if d.notes=true then 1 else 0)+(d.faults.map fp).sum
theorem jQ (L:List F4):0<=fp L/\fp L<=2:=by unfold fp;split<;>(try split)<;>omega
theorem nO {F:List (List F4)} {k:Nat} (h:k<F.length):fB F (k+1)=fB F k+fp F[k]:=by
 unfold fB;rw[List.take_succ_eq_append_getElem h,List.map_append,List.sum_append];simp
theorem lE (F:List (List F4)):∀ k:Nat,0<=fB F k/\fB F k<=2*k
 | 0=>by simp[fB]
 | k+1=>by
   have:=lE F k;by_cases h:k<F.length
   ·have h2:=jQ F[k];rw[nO h];omega
   ·have:fB F (k+1)=fB F k:=by unfold fB;rw[List.take_of_length_le (by omega),List.take_of_length_le (by omega)]
    omega
def tD:List Int->Int
 | []=>0
 | x :: r=>r.foldl min x
def tH:List Int->Int
 | []=>0
 | x :: r=>r.foldl max x
end Go.Ab
namespace Go.Proofs
open Go Go.Ab
variable {G:LI}
attribute [simp] r9 cX v6 A8 nilV K0 ZK
theorem Gw (L:List Int) (hne:L≠[]) (hl:L.length<1000000):zP Tryz.prog G 52 [q9 L] (iv (tD L)):=by
 refine zf Tryz.func52 Tryz.ntmps52 ?_;try simp only[q9]
 obtain⟨x0,r0,rfl⟩:∃ x r,L=x :: r:=by
  cases L with
  | nil=>exact absurd rfl hne
  | cons x r=>exact⟨x,r,rfl⟩
 have hE:tD (x0 :: r0)=((x0 :: r0).drop 1).foldl min x0:=rfl;have hl1:¬ ((x0 :: r0).length:Int)<1:=by simp;omega
 have hlp:0<(x0 :: r0).length:=by simp
 have hx1:(x0 :: r0)[0]?=some x0:=rfl;have hx2:(x0 :: r0)[0]=x0:=rfl;have hk1:1<=(x0 :: r0).length:=hlp;generalize (x0 :: r0)=L at *;generalize tD L=res at *;have hs:=za hl1 (za hx1 (za hx2 hlp));repeat' first|(with_reducible first|refine zz ?_|refine zE [0,2,3,4,7,15] ?_)|simp -dsimp[hs]|refine i8 ?_ ?_<;>intro h<;>try exact h.elim
 refine i6 (ι:={ p:Nat×Int // 1<=p.1/\p.1<=L.length/\res=(L.drop p.1).foldl min p.2 }) (λp=>⟨25,[(0,q9 L),(3,iv p.1.2),(4,iv (p.1.1:Int))],[]⟩) (λp=>L.length-p.1.1) ⟨(1,x0),Nat.le_refl _,hk1,hE⟩ (zw [0,3,4] 0) ?_;rintro⟨⟨k,m⟩,hk1',hk,hE2⟩;simp only at hk1' hk hE2;simp only[iv,q9];by_cases hlt:k<L.length
 ·have hlt':(k:Int)<L.length:=by omega
  have hw:=zk k;have hx:L[k]?=some L[k]:=by simp[hlt]
  rw[List.drop_eq_getElem_cons hlt,List.foldl_cons] at hE2;generalize hy:L[k]=y at *;have hs:=za hx (za hy (za hlt (za hlt' hw)));repeat' first|(with_reducible first|refine zz ?_|refine zE [0,2,3,4,7,15] ?_)|simp -dsimp[hs]|refine i8 ?_ ?_<;>intro h<;>try exact h.elim
  all_goals exact zn ⟨(k+1,min m y),by simp,by simp only;omega,hE2⟩ (zw [0,3,4] 0)
 ·have hlt':¬ (k:Int)<L.length:=by omega
  rw[List.drop_eq_nil_of_le (by omega)] at hE2;have hE3:res=m:=hE2;have hs:=za hlt hlt';repeat' first|(with_reducible first|refine zz ?_|refine zr ?_|refine zE [0,2,3,4,7,15] ?_)|simp -dsimp[hs]|refine i8 ?_ ?_<;>intro h<;>try exact h.elim
  all_goals simp[hE3]
theorem Gy (L:List Int) (hne:L≠[]) (hl:L.length<1000000):zP Tryz.prog G 53 [q9 L] (iv (tH L)):=by
 refine zf Tryz.func53 Tryz.ntmps53 ?_;try simp only[q9]
 obtain⟨x0,r0,rfl⟩:∃ x r,L=x :: r:=by
  cases L with
  | nil=>exact absurd rfl hne
  | cons x r=>exact⟨x,r,rfl⟩
 have hE:tH (x0 :: r0)=((x0 :: r0).drop 1).foldl max x0:=rfl;have hl1:¬ ((x0 :: r0).length:Int)<1:=by simp;omega
 have hlp:0<(x0 :: r0).length:=by simp
 have hx1:(x0 :: r0)[0]?=some x0:=rfl;have hx2:(x0 :: r0)[0]=x0:=rfl;have hk1:1<=(x0 :: r0).length:=hlp;generalize (x0 :: r0)=L at *;generalize tH L=res at *;have hs:=za hl1 (za hx1 (za hx2 hlp));repeat' first|(with_reducible first|refine zz ?_|refine zE [0,2,3,4,7,15] ?_)|simp -dsimp[hs]|refine i8 ?_ ?_<;>intro h<;>try exact h.elim
 refine i6 (ι:={ p:Nat×Int // 1<=p.1/\p.1<=L.length/\res=(L.drop p.1).foldl max p.2 }) (λp=>⟨25,[(0,q9 L),(3,iv p.1.2),(4,iv (p.1.1:Int))],[]⟩) (λp=>L.length-p.1.1) ⟨(1,x0),Nat.le_refl _,hk1,hE⟩ (zw [0,3,4] 0) ?_;rintro⟨⟨k,m⟩,hk1',hk,hE2⟩;simp only at hk1' hk hE2;simp only[iv,q9];by_cases hlt:k<L.length
 ·have hlt':(k:Int)<L.length:=by omega
  have hw:=zk k;have hx:L[k]?=some L[k]:=by simp[hlt]
  rw[List.drop_eq_getElem_cons hlt,List.foldl_cons] at hE2;generalize hy:L[k]=y at *;have hs:=za hx (za hy (za hlt (za hlt' hw)));repeat' first|(with_reducible first|refine zz ?_|refine zE [0,2,3,4,7,15] ?_)|simp -dsimp[hs]|refine i8 ?_ ?_<;>intro h<;>try exact h.elim
  all_goals exact zn ⟨(k+1,max m y),by simp,by simp only;omega,hE2⟩ (zw [0,3,4] 0)
 ·have hlt':¬ (k:Int)<L.length:=by omega
  rw[List.drop_eq_nil_of_le (by omega)] at hE2;have hE3:res=m:=hE2;have hs:=za hlt hlt';repeat' first|(with_reducible first|refine zz ?_|refine zr ?_|refine zE [0,2,3,4,7,15] ?_)|simp -dsimp[hs]|refine i8 ?_ ?_<;>intro h<;>try exact h.elim
  all_goals simp[hE3]
def AE (D:List Desk) (k:Nat):List Int:=(D.take k).map λd=>((N9 d).length:Int)
def AZ (D:List Desk) (k:Nat):List Int:=(D.take k).map dL
theorem AD {D:List Desk} {k:Nat} (h:k<D.length):AE D (k+1)=AE D k++[((N9 D[k]).length:Int)]:=by
 unfold AE;rw[List.take_succ_eq_append_getElem h,List.map_append];rfl
theorem AY {D:List Desk} {k:Nat} (h:k<D.length):AZ D (k+1)=AZ D k++[dL D[k]]:=by
 unfold AZ;rw[List.take_succ_eq_append_getElem h,List.map_append];rfl
theorem vD {D:List Desk} {k:Nat} (h:k<=D.length):(AE D k).length=k:=by simp[AE];omega
theorem vJ {D:List Desk} {k:Nat} (h:k<=D.length):(AZ D k).length=k:=by simp[AZ];omega
theorem wV (d:Desk) (z:Int) (h:(if d.notes=true then 1 else 0)=z):z+fB d.faults d.faults.length=dL d:=by
 unfold dL fB;rw[List.take_length,h]
noncomputable def ny (c:Case):Int×Int:=if J2 c=0 then (tD ((n7 c).map λd=>((N9 d).length:Int)),tH ((n7 c).map dL)) else (0,0)
@[simp] abbrev Qp:List Nat:=[0,1,2,3,4,5,6,7,9,10,12,13,15,22,25,26,27,28,34,38,39,40,41,44,45,46,47,52,60]
@[simp] abbrev Wp:List Nat:=[2,3,6,7,9,10,13,25,26,27,38,39,40,44,45,46]
theorem Cg (c:Case) (hG:o3 G) (hN:E0 G) (hS:u4 G) (hU:X0 G) (hR:w0 G) (hC:J0 G) (hF:kA G) (hk:KC c):zP Tryz.prog G 13 [l7 c] (.tup [D9 (ny c).1 (ny c).2,iv (J2 c)]):=by
 refine zf Tryz.func13 Tryz.ntmps13 ?_;try simp only[iv]
 have g1:G 0=some [.raw (.bool false),.raw (.bool false)]:=hF.1;have c1:=eZ (G:=G) c hG hN hS hR hC hk;have hq:=hk.q;by_cases h0:J2 c=0
 ·rw[h0,show qi c=n7 c by unfold qi;rw[if_pos h0]] at c1;have hdl:=an (N4 h0).1;have hdk:=Y2 hk;have c3:=λd (h:d∈n7 c)=>rq (G:=G) d c.pieces.length (Y2 hk d h) (by omega) (mD (N4 h0).1 d h) hF hU;have hO:ny c=(tD ((n7 c).map λd=>((N9 d).length:Int)),tH ((n7 c).map dL)):=by unfold ny;rw[if_pos h0]
  have hne:∀ f:Desk->Int,(n7 c).map f≠[]:=λf e=>by have:=congrArg List.length e;simp at this;rw[this] at hdl;simp at hdl
  have c4:=Gw (G:=G) ((n7 c).map λd=>((N9 d).length:Int)) (hne _) (by simp;omega);have c5:=Gy (G:=G) ((n7 c).map dL) (hne _) (by simp;omega);rw[h0,hO];generalize tD ((n7 c).map λd=>((N9 d).length:Int))=r1 at *;generalize tH ((n7 c).map dL)=r2 at *;clear hne hO;generalize n7 c=D at *;simp only[l7,j4,kC,aJ,A3,List.map_cons,List.map_nil] at c1 c3 ⊢;have hs:=trivial;repeat' first|(with_reducible first|refine zz ?_|refine zE Qp ?_)|simp -dsimp[hs]|refine zp c1 ?_|refine i8 ?_ ?_<;>intro h<;>try exact h.elim
  all_goals try clear hs
  refine i6 (ι:={ p:Nat×Nat×Bool×Nat×Bool // p.1<=D.length }) (λp=>⟨82,[(2,.one (.ptr 1 0)),(3,iv 0),(6,.one (.vec 2 p.1.2.1 0 p.1.1)),(7,.one (.vec 3 p.1.2.2.2.1 0 p.1.1)),(25,.one (.im (.sl (D.map U9)))),(26,iv (D.length:Int)),(27,iv (p.1.1:Int))],[.row ((j4 c).map .im),.row [.im (rI 0),.im (rI 0)],.vec 1 (l5 ((AE D p.1.1).map Ab.encI)) p.1.2.1 p.1.2.2.1,.vec 1 (l5 ((AZ D p.1.1).map Ab.encI)) p.1.2.2.2.1 p.1.2.2.2.2]⟩) (λp=>D.length-p.1.1) ⟨(0,0,true,0,true),by simp⟩ (zv [2,3,6,7,25,26,27] (by simp[l5,AE,AZ])) ?_;rintro⟨⟨k,ga,na,gb,nb⟩,hk1⟩;simp only at hk1;simp only[iv];by_cases hlt:k<D.length
  ·have hw:=zk k;have hx0:D[k]?=some D[k]:=by simp[hlt]
   have c6:=c3 D[k] (List.getElem_mem hlt);have hdd:=hdk D[k] (List.getElem_mem hlt);have e1:=AD hlt;have e2:=AY hlt;have hl1:=vD (D:=D) hk1;have hl2:=vJ (D:=D) hk1;generalize hx:D[k]=d at *;generalize AE D k=L1 at *;generalize AZ D k=L2 at *;have hma:=wV d;have hF0:fB d.faults 0=0:=by simp[fB]
   have hdn:=hdd.n;have htk1:List.take k (l5 (L1.map Ab.encI))=l5 (L1.map Ab.encI):=List.take_of_length_le (by simp[l5,hl1]);have htk2:List.take k (l5 (L2.map Ab.encI))=l5 (L2.map Ab.encI):=List.take_of_length_le (by simp[l5,hl2]);generalize N9 d=fl at *;simp only[bc,T6] at c6;obtain⟨Z,hZ⟩:∃ Z:Int,(if d.notes=true then 1 else 0)=Z:=⟨_,rfl⟩
   have hma:=hma Z hZ;have hZr:0<=Z/\Z<=1:=by rw[<- hZ];split<;>omega
   have hs:True:=trivial;cases hnt:d.notes
   all_goals
    rw[hnt] at hZ;simp only[Bool.false_eq_true,if_false,if_true] at hZ;replace hZ:=hZ.symm;have hs:=za hx (za hx0 (za hlt hnt));repeat' first|(with_reducible first|refine zz ?_|refine zE Qp ?_)|simp -dsimp[U9,bc,T6,hs]|refine i8 ?_ ?_<;>intro h<;>try exact h.elim
    all_goals try clear hs
   all_goals
    refine i6 (ι:={ q:Nat // q<=d.faults.length }) (λq=>⟨82,[(2,.one (.ptr 1 0)),(3,iv 0),(6,.one (.vec 2 ga 0 k)),(7,.one (.vec 3 gb 0 k)),(9,.one (.im (.ip (j4 d.c++[.raw (.bool d.notes),.sl (d.faults.map K2)])))),(10,iv (Z+fB d.faults q.1)),(25,.one (.im (.sl (D.map U9)))),(26,iv (D.length:Int)),(27,iv (k:Int)),(38,.one (.im (.sl (d.faults.map K2)))),(39,iv (d.faults.length:Int)),(40,iv (q.1:Int))],[.row ((j4 c).map .im),.row [.im (rI 0),.im (rI 0)],.vec 1 (l5 (L1.map Ab.encI)) ga na,.vec 1 (l5 (L2.map Ab.encI)) gb nb]⟩) (λq=>d.faults.length-q.1) ⟨0,by simp⟩ (zv [2,3,6,7,9,10,25,26,27,38,39,40] (by simp[hnt,hF0,hZ])) ?_;clear hnt hZ;rintro⟨q,hq1⟩;simp only[iv];have hsr:=lE d.faults q;by_cases hlq:q<d.faults.length
    ·have hwq:=zk q;have hy0:d.faults[q]?=some d.faults[q]:=by simp[hlq]
     have hst:=nO hlq;have hfl:=hdd.l _ (List.getElem_mem hlq);generalize hy:d.faults[q]=y at *;have hmz:=tA y;have hmr:=jQ y;generalize fB d.faults q=S at *;have hwS:IntKind.i64.wrap (Z+S+fp y)=Z+S+fp y:=n4 (by omega) (by omega);rw[<- hmz] at hst hwS;clear hmz hmr;have hs:=za hy (za hy0 hlq);repeat' first|(with_reducible first|refine zz ?_|refine zE Qp ?_)|simp -dsimp[hs]|refine i8 ?_ ?_<;>intro h<;>try exact h.elim
     all_goals try clear hs
     refine i6 (ι:={ p:Nat×Int // p.1<=y.length/\(p.2=0\/p.2=1\/p.2=2)/\gR y 0=gR (y.drop p.1) p.2 }) (λp=>⟨82,[(2,.one (.ptr 1 0)),(3,iv 0),(6,.one (.vec 2 ga 0 k)),(7,.one (.vec 3 gb 0 k)),(9,.one (.im (.ip (j4 d.c++[.raw (.bool d.notes),.sl (d.faults.map K2)])))),(10,iv (Z+S)),(13,iv p.1.2),(25,.one (.im (.sl (D.map U9)))),(26,iv (D.length:Int)),(27,iv (k:Int)),(38,.one (.im (.sl (d.faults.map K2)))),(39,iv (d.faults.length:Int)),(40,iv (q:Int)),(44,.one (.im (.sl (y.map D6)))),(45,iv (y.length:Int)),(46,iv (p.1.1:Int))],[.row ((j4 c).map .im),.row [.im (rI 0),.im (rI 0)],.vec 1 (l5 (L1.map Ab.encI)) ga na,.vec 1 (l5 (L2.map Ab.encI)) gb nb]⟩) (λp=>y.length-p.1.1) ⟨(0,0),by simp⟩ (zv [2,3,6,7,9,10,13,25,26,27,38,39,40,44,45,46]) ?_;rintro⟨⟨j,n⟩,hj,hn3,hE⟩;simp only at hj hn3 hE;simp only[iv];by_cases hlj:j<y.length
     ·have hwj:=zk j;have hv0:y[j]?=some y[j]:=by simp[hlj]
      have hE2:=hE;rw[List.drop_eq_getElem_cons hlj,gR] at hE2;generalize hv:y[j]=v at *;obtain⟨v1,v2⟩:=v;have hm1:max n 1=1\/max n 1=2:=by omega
      have hs:True:=trivial;cases v1<;>cases v2
      all_goals
       simp at hE2;have hs:=za hv (za hv0 (za hlj (za hwj g1)));repeat' first|(with_reducible first|refine zz ?_|refine zE Qp ?_)|simp -dsimp[hs]|refine i8 ?_ ?_<;>intro h<;>try exact h.elim
       all_goals try clear hs
      ·exact zn ⟨(j+1,n),by omega,hn3,hE2⟩ (zw Wp 4)
      ·exact zn ⟨(j+1,max n 1),by omega,by omega,hE2⟩ (zw Wp 4)
      ·exact zn ⟨(j+1,max n 1),by omega,by omega,hE2⟩ (zw Wp 4)
      ·exact zn ⟨(j+1,2),by omega,.inr (.inr rfl),hE2⟩ (zw Wp 4)
     ·have hE2:=hE;rw[List.drop_eq_nil_of_le (by omega)] at hE2;have hE3:gR y 0=n:=hE2;rw[hE3] at hst hwS;have hs:=za hlj (za hwq hwS);repeat' first|(with_reducible first|refine zz ?_|refine zE Qp ?_)|simp -dsimp[hs]|refine i8 ?_ ?_<;>intro h<;>try exact h.elim
      all_goals try clear hs
      all_goals exact zn ⟨q+1,by omega⟩ (zw [2,3,6,7,9,10,25,26,27,38,39,40] 4 (by simp[hst,Int.add_assoc]))
    ·obtain rfl:q=d.faults.length:=by omega
     rw[hma];generalize dL d=M at *;have hs:=za hlq (za hw (za htk1 (za htk2 (za hl1 hl2))));repeat' first|(with_reducible first|refine zz ?_|refine And.intro (by omega) ?_|refine zE Qp ?_)|simp -dsimp[hs]|refine zp c6 ?_|refine i8 ?_ ?_<;>intro h<;>try exact h.elim
     all_goals try clear hs
     all_goals exact zn ⟨(k+1,ga+1,false,gb+1,false),by simp only;omega⟩ (zw [2,3,6,7,25,26,27] 4 (by simp[e1,e2,htk1,htk2,hl1,hl2]))
  ·obtain rfl:k=D.length:=by omega
   have hl1:=vD (D:=D) hk1;have hl2:=vJ (D:=D) hk1;have hE1:(D.map λd=>((N9 d).length:Int))=AE D D.length:=by simp[AE]
   have hE2:D.map dL=AZ D D.length:=by simp[AZ]
   rw[hE1] at c4;rw[hE2] at c5;generalize AE D D.length=L1 at *;generalize AZ D D.length=L2 at *;have htk1:List.take D.length (l5 (L1.map Ab.encI))=l5 (L1.map Ab.encI):=List.take_of_length_le (by simp[l5,hl1]);have htk2:List.take D.length (l5 (L2.map Ab.encI))=l5 (L2.map Ab.encI):=List.take_of_length_le (by simp[l5,hl2]);simp only[q9] at c4 c5;have hs:=za hlt (za htk1 (za htk2 (za hl1 hl2)));repeat' first|(with_reducible first|refine zz ?_|refine zr ?_|refine zE Qp ?_)|simp -dsimp[hs]|refine CallE.thaw c4 ?_ ?_ ?_;(focus simp[htk1,hl1];done);(focus simp;done)|refine CallE.thaw c5 ?_ ?_ ?_;(focus simp[htk2,hl2];done);(focus simp;done)|refine i8 ?_ ?_<;>intro h<;>try exact h.elim
   all_goals try clear hs
 ·have hO:ny c=(0,0):=by unfold ny;rw[if_neg h0]
  rw[hO];simp only[l7,j4,aJ,D9,List.map_cons,List.map_nil] at c1 ⊢;have hs:=h0;repeat' first|(with_reducible first|refine zz ?_|refine zr ?_|refine zE Qp ?_)|simp -dsimp[hs]|refine zp c1 ?_|refine i8 ?_ ?_<;>intro h<;>try exact h.elim
  all_goals try clear hs
end Go.Proofs
namespace Go.Ab
open Go
def dn (p:Nat->Bool) (f:Nat->Susp) (k:Nat):List Susp:=(List.range k).flatMap λi=>ab (p i) (f i)
theorem dT (p:Nat->Bool) (f:Nat->Susp) (k:Nat):dn p f (k+1)=dn p f k++ab (p k) (f k):=by
 unfold dn;rw[List.range_succ,List.flatMap_append,List.flatMap_singleton]
theorem ij (p:Nat->Bool) (f:Nat->Susp):∀ k,(dn p f k).length<=k
 | 0=>by simp[dn]
 | k+1=>by
   have:=ij p f k;rw[dT,List.length_append,cJ];split<;>omega
theorem xc (b:Bool) (p h:Nat->Bool) (n:Nat):cY b p h n=(ab b ⟨1,0⟩++dn p ah n)++dn h aT n:=by
 unfold cY dn;rw[List.append_assoc]
end Go.Ab
namespace Go.Proofs
open Go Go.Ab
variable {G:LI}
attribute [simp] r9 cX v6 A8 nilV K0 ZK
theorem jg {a b:Susp}:J4 a b=0↔a=b:=by
 obtain⟨a1,a2⟩:=a;obtain⟨b1,b2⟩:=b;unfold J4 O4 O4 O4;rw[Susp.mk.injEq];simp only;split
 ·split<;>omega
 ·omega
theorem qC (a b:Susp):zP Tryz.prog G 65 [C3 a,C3 b] (bv (decide (J4 a b<0))):=by
 refine zf Tryz.func65 Tryz.ntmps65 ?_;try simp only[iv]
 have hE:decide (J4 a b<0)=(decide (a.kind<b.kind)||(decide (a.kind=b.kind)&&decide (a.index<b.index))):=by
  rw[Bool.eq_iff_iff,decide_eq_true_eq,cz];simp[N3]
 rw[hE];simp only[C3,j5,rI,List.map_cons,List.map_nil];have hs:=trivial;repeat' first|(with_reducible first|refine zz ?_|refine zr ?_|refine zE [0,1,2,3,4] ?_)|simp -dsimp[hs]|with_reducible refine j0 ?_ ?_<;>intro h<;>have h0:=h<;>(try simp only[i7] at h)<;>have h2:=h<;>(try simp at h2)<;>replace hs:=za h0 (za h (za h2 hs))
 all_goals try clear hs
 all_goals simp_all
@[simp] abbrev Qq:List Nat:=[0,1,4,5,10,19,30]
theorem ti (a b:List Susp) (ha:eu a) (hb:eu b):zP Tryz.prog G 18 [A3 a,A3 b] (bv (decide (Y4 a b<0))):=by
 refine zf Tryz.func18 Tryz.ntmps18 ?_;try simp only[iv]
 have hal:=ha.2;have hbl:=hb.2;have hE0:Y4 a b=O4 [(a.length:Int)-b.length,E8 a b]:=rfl;by_cases hl:a.length=b.length
 ·have hli:(a.length:Int)=b.length:=by omega
  have hE1:Y4 a b=E8 a b:=by
   rw[hE0];unfold O4 O4 O4;rw[if_pos (by omega)];split<;>omega
  rw[hE1];clear hE0 hE1;simp only[A3];have hs:=za hl hli;repeat' first|(with_reducible first|refine zz ?_|refine zE Qq ?_)|simp -dsimp[hs]|refine i8 ?_ ?_<;>intro h<;>try exact h.elim
  all_goals try clear hs
  refine i6 (ι:={ k:Nat // k<=b.length/\E8 a b=E8 (a.drop k) (b.drop k) }) (λp=>⟨40,[(0,.one (.im (.sl (a.map j5)))),(1,.one (.im (.sl (b.map j5)))),(5,iv (p.1:Int))],[]⟩) (λp=>b.length-p.1) ⟨0,by simp⟩ (zv [0,1,5]) ?_;rintro⟨k,hk,hE⟩;have hE2:=hE;simp only[iv];by_cases hlt:k<b.length
  ·have hlt':(k:Int)<b.length:=by omega
   have hla:k<a.length:=by omega
   have hw:=zk k;rw[List.drop_eq_getElem_cons hla,List.drop_eq_getElem_cons hlt,E8] at hE2;have hx0:a[k]?=some a[k]:=by simp[hla]
   have hy0:b[k]?=some b[k]:=by simp[hlt]
   generalize hx:a[k]=x at *;generalize hy:b[k]=y at *;have c1:=qC (G:=G) x y;have hz:=jg (a:=x) (b:=y);generalize J4 x y=z at *;simp only[C3,j5,rI,List.map_cons,List.map_nil] at c1;by_cases hxy:x=y
   ·rw[if_neg (by simp[hz.2 hxy])] at hE2;have hk1:x.kind=y.kind:=by rw[hxy]
    have hi1:x.index=y.index:=by rw[hxy]
    have hs:=za hx (za hx0 (za hy (za hy0 (za hl (za hli (za hlt (za hlt' (za hla (za hw (za hk1 hi1))))))))));repeat' first|with_reducible refine zz ?_|simp -dsimp[hs]|refine zM 6 40 9 Qq ?_|with_reducible refine zE Qq ?_|refine i8 ?_ ?_<;>intro h<;>try exact h.elim
    all_goals try clear hs
    all_goals exact zn ⟨k+1,by omega,hE2⟩ (zw [0,1,5] 0)
   ·rw[if_pos (λe=>hxy (hz.1 e))] at hE2;have hne:¬ (x.kind=y.kind/\x.index=y.index):=λh=>hxy (by obtain⟨p,q⟩:=x;obtain⟨r,s⟩:=y;simp at h;simp[h]);have hs:=za hx (za hx0 (za hy (za hy0 (za hl (za hli (za hlt (za hlt' (za hla (za hw hne)))))))));repeat' first|(with_reducible first|refine zz ?_|refine zr ?_)|simp -dsimp[hs]|refine zq c1 ?_|refine zM 6 40 9 Qq ?_|refine zM 7 40 10 Qq ?_|with_reducible refine zE Qq ?_|refine i8 ?_ ?_<;>intro h<;>try exact h.elim
    all_goals try clear hs
    all_goals first|exact absurd ‹_/\_› hne|simp[hE2]
  ·have hlt':¬ (k:Int)<b.length:=by omega
   rw[List.drop_eq_nil_of_le (by omega),List.drop_eq_nil_of_le (by omega),E8] at hE2;have hs:=za hl (za hli (za hlt hlt'));repeat' first|(with_reducible first|refine zz ?_|refine zr ?_|refine zE Qq ?_)|simp -dsimp[hs]|refine i8 ?_ ?_<;>intro h<;>try exact h.elim
   all_goals try clear hs
   all_goals simp[hE2]
 ·have hli:¬ (a.length:Int)=b.length:=by omega
  have hE1:decide (Y4 a b<0)=decide ((a.length:Int)<b.length):=by
   rw[decide_eq_decide,hE0];unfold O4;rw[if_neg (by omega)];omega
  rw[hE1];simp only[A3];have hs:=za hl hli;repeat' first|(with_reducible first|refine zz ?_|refine zr ?_|refine zE Qq ?_)|simp -dsimp[hs]|refine i8 ?_ ?_<;>intro h<;>try exact h.elim
  all_goals try clear hs
end Go.Proofs
namespace Go.Proofs
open Go Go.Ab
variable {G:LI}
attribute [simp] r9 cX v6 A8 nilV K0 ZK
open Go Go.Ab Tryz
attribute [simp] r9 cX v6 A8 nilV K0 ZK
@[simp] abbrev Qh:List Nat:=[0,1,4,5,10,14,25]
theorem nT (l:List Susp) (hl:l.length<100000):zP prog G 24 [A3 l,A3 l] (bv true):=by
 refine zf func24 ntmps24 ?_;try simp only[iv]
 simp only[A3];have hs:=trivial;repeat' first|(with_reducible first|refine zz ?_|refine zE Qh ?_)|simp -dsimp[hs]|refine i8 ?_ ?_<;>intro h<;>try exact h.elim
 refine i6 (ι:={ k:Nat // k<=l.length }) (λp=>⟨26,[(0,.one (.im (.sl (l.map j5)))),(1,.one (.im (.sl (l.map j5)))),(5,iv (p.1:Int))],[]⟩) (λp=>l.length-p.1) ⟨0,by simp⟩ (zv [0,1,5]) ?_;rintro⟨k,hk⟩;simp only[iv];by_cases hlt:k<l.length
 ·have hlt':(k:Int)<l.length:=by omega
  have hw:=zk k;generalize hx:l[k]=x at *;have hs:=za hx (za hlt (za hlt' hw));repeat' first|with_reducible refine zz ?_|simp -dsimp[hs]|refine zM 6 26 9 Qh ?_|with_reducible refine zE Qh ?_|refine i8 ?_ ?_<;>intro h<;>try exact h.elim
  all_goals exact zn ⟨k+1,by omega⟩ (zv [0,1,5])
 ·obtain rfl:k=l.length:=by omega
  have hlt':¬ (l.length:Int)<l.length:=by omega
  have hs:=za hlt hlt';repeat' first|(with_reducible first|refine zz ?_|refine zr ?_|refine zE Qh ?_)|simp -dsimp[hs]|refine i8 ?_ ?_<;>intro h<;>try exact h.elim
attribute [simp] r9 cX v6 A8 nilV K0 ZK
attribute [simp] r9 cX v6 A8 nilV K0 ZK
structure TrOk (c:Case) (T:List (List Int)):Prop where
 h:∀ t∈T,G1 (j8 (j7 c.p.n.notes)) t=true/\t.length<1000
 l:T.length<=32
 p:1<=T.length
theorem JP {c:Case} (he:p9 c=0):TrOk c (H9 (j8 (j7 c.p.n.notes))):=by
 obtain⟨hp0,hcb⟩:=A1 he;obtain⟨hn0,hpb,hr0⟩:=A9 hp0;have hnk:=au hn0;have hO5:(j8 (j7 c.p.n.notes)).length<=5:=by rw[pG];exact hnk.2.2.2
 have hstr:=ic (dI hnk.2.2.1);have hPe:(2:Nat) ^ (j8 (j7 c.p.n.notes)).length<=2 ^ 5:=Nat.pow_le_pow_right (by omega) hO5;have h1:1<=(2:Nat) ^ (j8 (j7 c.p.n.notes)).length:=Nat.one_le_two_pow;exact⟨λt h=>⟨(nI hstr t h).1,by have:=(nI hstr t h).2;omega⟩,by rw[aW];omega,by rw[aW];omega⟩
attribute [simp] r9 cX v6 A8 nilV K0 ZK
end Go.Proofs
namespace Go.Ab
open Go
abbrev Q4:=DObj×DObj×DObj×DObj
abbrev Q2:=DObj×DObj
def G0 (F:Nat->Q4):Nat->List DObj
 | 0=>[]
 | n+1=>G0 F n++[(F n).1,(F n).2.1,(F n).2.2.1,(F n).2.2.2]
def J5 (F:Nat->Q2):Nat->List DObj
 | 0=>[]
 | n+1=>J5 F n++[(F n).1,(F n).2]
@[simp] theorem eP (F:Nat->Q4):∀ n,(G0 F n).length=4*n
 | 0=>rfl
 | n+1=>by simp[G0,eP F n];omega
@[simp] theorem eQ (F:Nat->Q2):∀ n,(J5 F n).length=2*n
 | 0=>rfl
 | n+1=>by simp[J5,eQ F n];omega
theorem js (F:Nat->Q4) {i j:Nat} (hj:j<4):∀ {n},i<n->(G0 F n)[4*i+j]?=[(F i).1,(F i).2.1,(F i).2.2.1,(F i).2.2.2][j]?
 | n+1,h=>by
   rw[G0];rcases Nat.eq_or_lt_of_le (Nat.le_of_lt_succ h) with rfl|h1
   ·rw[List.getElem?_append_right (by simp),eP,Nat.add_sub_cancel_left]
   ·rw[List.getElem?_append_left (by simp;omega)];exact js F hj h1
theorem oB (F:Nat->Q2) {i j:Nat} (hj:j<2):∀ {n},i<n->(J5 F n)[2*i+j]?=[(F i).1,(F i).2][j]?
 | n+1,h=>by
   rw[J5];rcases Nat.eq_or_lt_of_le (Nat.le_of_lt_succ h) with rfl|h1
   ·rw[List.getElem?_append_right (by simp),eQ,Nat.add_sub_cancel_left]
   ·rw[List.getElem?_append_left (by simp;omega)];exact oB F hj h1
@[simp] theorem oy (f:DObj->DObj) (F:Nat->Q4):∀ n,(G0 F n).map f=G0 (λk=>(f (F k).1,f (F k).2.1,f (F k).2.2.1,f (F k).2.2.2)) n
 | 0=>rfl
 | n+1=>by simp[G0,oy f F n]
@[simp] theorem oA (f:DObj->DObj) (F:Nat->Q2):∀ n,(J5 F n).map f=J5 (λk=>(f (F k).1,f (F k).2)) n
 | 0=>rfl
 | n+1=>by simp[J5,oA f F n]
theorem dR {F H:Nat->Q4}:∀ {n},(∀ k,k<n->F k=H k)->G0 F n=G0 H n
 | 0,_=>rfl
 | n+1,h=>by rw[G0,G0,dR λk hk=>h k (by omega),h n (by omega)]
theorem dS {F H:Nat->Q2}:∀ {n},(∀ k,k<n->F k=H k)->J5 F n=J5 H n
 | 0,_=>rfl
 | n+1,h=>by rw[J5,J5,dS λk hk=>h k (by omega),h n (by omega)]
@[simp] theorem oz (F:Nat->Q4) (n j:Nat) (R:List DObj):(G0 F n++R)[4*n+j]?=R[j]?:=by
 rw[List.getElem?_append_right (by simp),eP,Nat.add_sub_cancel_left]
@[simp] theorem GW (F:Nat->Q4) (n:Nat) (R:List DObj):(G0 F n++R)[4*n]?=R[0]?:=by
 have:=oz F n 0 R;simpa using this
@[simp] theorem GV (F:Nat->Q4) (n a j:Nat) (R:List DObj):(G0 F n++R)[4*n+a+j]?=R[a+j]?:=by
 rw[Nat.add_assoc,oz]
@[simp] theorem xG (F:Nat->Q2) (n j:Nat) (R:List DObj):(J5 F n++R)[2*n+j]?=R[j]?:=by
 rw[List.getElem?_append_right (by simp),eQ,Nat.add_sub_cancel_left]
@[simp] theorem GY (F:Nat->Q2) (n:Nat) (R:List DObj):(J5 F n++R)[2*n]?=R[0]?:=by
 have:=xG F n 0 R;simpa using this
@[simp] theorem ub (F:Nat->Q4) (n j:Nat) (R:List DObj) (d:DObj):(G0 F n++R).set (4*n+j) d=G0 F n++R.set j d:=by
 rw[List.set_append_right _ _ (by simp),eP,Nat.add_sub_cancel_left]
@[simp] theorem Fv (F:Nat->Q4) (n a j:Nat) (R:List DObj) (d:DObj):(G0 F n++R).set (4*n+a+j) d=G0 F n++R.set (a+j) d:=by
 rw[Nat.add_assoc,ub]
@[simp] theorem GX (F:Nat->Q2) (n j:Nat) (R:List DObj) (d:DObj):(J5 F n++R).set (2*n+j) d=J5 F n++R.set j d:=by
 rw[List.set_append_right _ _ (by simp),eQ,Nat.add_sub_cancel_left]
end Go.Ab
namespace Go.Proofs
open Go Go.Ab
variable {G:LI}
def F6 (P:Program) (G:LI) (f sz:Nat) (l:List (List IC)):Prop:=DCall P G f [.one (.im (.sl l))] [] (λd o=>∃ i:Nat×Bool,(i.2=true->l=[])/\d=.one (.vec 1 i.1 0 l.length)/\o=[.vec sz [] 0 true,.vec sz (l5 l) i.1 i.2])
theorem Jq (l:List Issue) (hl:l.length<1000):F6 Tryz.prog G 124 5 (l.map e9):=by
 unfold F6;refine h9 Tryz.func124 rfl Tryz.ntmps124 (by simp) rfl ?_;repeat' first|(with_reducible first|refine zz ?_|refine And.intro (by omega) ?_|refine zx ?_|refine zE [0,2,4] ?_)|simp -dsimp|refine i8 ?_ ?_<;>intro h<;>try exact h.elim|with_reducible refine V8 (λh=>?_);(try simp only[List.map_eq_nil_iff] at h);(try subst h);try simp -dsimp|with_reducible refine And.intro ?_ ?_
theorem Hf (l:List Note) (hl:l.length<1000):F6 Tryz.prog G 125 10 (l.map l6):=by
 unfold F6;refine h9 Tryz.func125 rfl Tryz.ntmps125 (by simp) rfl ?_;repeat' first|(with_reducible first|refine zz ?_|refine And.intro (by omega) ?_|refine zx ?_|refine zE [0,2,4] ?_)|simp -dsimp|refine i8 ?_ ?_<;>intro h<;>try exact h.elim|with_reducible refine V8 (λh=>?_);(try simp only[List.map_eq_nil_iff] at h);(try subst h);try simp -dsimp|with_reducible refine And.intro ?_ ?_
theorem Jp (l:List Itm) (hl:l.length<1000):F6 Tryz.prog G 126 2 (l.map B1):=by
 unfold F6;refine h9 Tryz.func126 rfl Tryz.ntmps126 (by simp) rfl ?_;repeat' first|(with_reducible first|refine zz ?_|refine And.intro (by omega) ?_|refine zx ?_|refine zE [0,2,4] ?_)|simp -dsimp|refine i8 ?_ ?_<;>intro h<;>try exact h.elim|with_reducible refine V8 (λh=>?_);(try simp only[List.map_eq_nil_iff] at h);(try subst h);try simp -dsimp|with_reducible refine And.intro ?_ ?_
theorem Js (l:List Dim) (hl:l.length<1000):F6 Tryz.prog G 127 3 (l.map F0):=by
 unfold F6;refine h9 Tryz.func127 rfl Tryz.ntmps127 (by simp) rfl ?_;repeat' first|(with_reducible first|refine zz ?_|refine And.intro (by omega) ?_|refine zx ?_|refine zE [0,2,4] ?_)|simp -dsimp|refine i8 ?_ ?_<;>intro h<;>try exact h.elim|with_reducible refine V8 (λh=>?_);(try simp only[List.map_eq_nil_iff] at h);(try subst h);try simp -dsimp|with_reducible refine And.intro ?_ ?_
theorem Hh (l:List Holder) (hl:l.length<1000):F6 Tryz.prog G 128 4 (l.map o6):=by
 unfold F6;refine h9 Tryz.func128 rfl Tryz.ntmps128 (by simp) rfl ?_;repeat' first|(with_reducible first|refine zz ?_|refine And.intro (by omega) ?_|refine zx ?_|refine zE [0,2,4] ?_)|simp -dsimp|refine i8 ?_ ?_<;>intro h<;>try exact h.elim|with_reducible refine V8 (λh=>?_);(try simp only[List.map_eq_nil_iff] at h);(try subst h);try simp -dsimp|with_reducible refine And.intro ?_ ?_
theorem EB (l:List Print) (hl:l.length<1000):F6 Tryz.prog G 129 7 (l.map A4):=by
 unfold F6;refine h9 Tryz.func129 rfl Tryz.ntmps129 (by simp) rfl ?_;repeat' first|(with_reducible first|refine zz ?_|refine And.intro (by omega) ?_|refine zx ?_|refine zE [0,2,4] ?_)|simp -dsimp|refine i8 ?_ ?_<;>intro h<;>try exact h.elim|with_reducible refine V8 (λh=>?_);(try simp only[List.map_eq_nil_iff] at h);(try subst h);try simp -dsimp|with_reducible refine And.intro ?_ ?_
theorem Jr (l:List Int) (hl:l.length<1000):F6 Tryz.prog G 130 1 (l.map Ab.encI):=by
 unfold F6;refine h9 Tryz.func130 rfl Tryz.ntmps130 (by simp) rfl ?_;repeat' first|(with_reducible first|refine zz ?_|refine And.intro (by omega) ?_|refine zx ?_|refine zE [0,2,4] ?_)|simp -dsimp|refine i8 ?_ ?_<;>intro h<;>try exact h.elim|with_reducible refine V8 (λh=>?_);(try simp only[List.map_eq_nil_iff] at h);(try subst h);try simp -dsimp|with_reducible refine And.intro ?_ ?_
theorem Hg (l:List Link) (hl:l.length<1000):F6 Tryz.prog G 131 3 (l.map G9):=by
 unfold F6;refine h9 Tryz.func131 rfl Tryz.ntmps131 (by simp) rfl ?_;repeat' first|(with_reducible first|refine zz ?_|refine And.intro (by omega) ?_|refine zx ?_|refine zE [0,2,4] ?_)|simp -dsimp|refine i8 ?_ ?_<;>intro h<;>try exact h.elim|with_reducible refine V8 (λh=>?_);(try simp only[List.map_eq_nil_iff] at h);(try subst h);try simp -dsimp|with_reducible refine And.intro ?_ ?_
theorem EC (l:List Piece) (hl:l.length<1000):F6 Tryz.prog G 132 4 (l.map w5):=by
 unfold F6;refine h9 Tryz.func132 rfl Tryz.ntmps132 (by simp) rfl ?_;repeat' first|(with_reducible first|refine zz ?_|refine And.intro (by omega) ?_|refine zx ?_|refine zE [0,2,4] ?_)|simp -dsimp|refine i8 ?_ ?_<;>intro h<;>try exact h.elim|with_reducible refine V8 (λh=>?_);(try simp only[List.map_eq_nil_iff] at h);(try subst h);try simp -dsimp|with_reducible refine And.intro ?_ ?_
end Go.Proofs
