/- Part 23 of the proofs. -/
import Derived.Test.YtjodaihiogfkbaaGreatDoorT09
import Derived.Test.YtjodaihiogfkbaaGreatDoorT16
import Derived.Test.YtjodaihiogfkbaaGreatDoorT18
import Derived.Test.YtjodaihiogfkbaaGreatDoorH02
import Derived.Test.YtjodaihiogfkbaaGreatDoorH04
set_option linter.all false
set_option linter.deprecated false
set_option maxHeartbeats 100000000
namespace Go.Proofs
open Go Go.Ab Tryz
variable {G:Kc}
attribute [simp] q8 bF r5 w7 nilV H8 ZK
noncomputable def DW (c:Case):Susp→Int:=G2 (n9 c)
noncomputable def Gu (c:Case) (k:Int):List Susp:=(co c.pieces.length).filter fun s=>decide (DW c s=k)
noncomputable def nI (c:Case) (k:Int):List Susp:=if J9 c=0 then Gu c k else []
theorem uJ {n:Nat} {s:Susp} (h:s∈co n):cq n s∧0≤s.kind∧s.kind≤255:=by
 unfold cq
 rcases listS_mem.1 h with⟨_,rfl⟩|⟨i,h1,_,rfl⟩|⟨i,h1,_,rfl⟩
 ·simp
 ·simp[gc];omega
 ·simp[qc];omega
theorem tB (n:Nat):(co n).Nodup:=(bS _ _ _ _).imp fun {a b} h e=>by subst e;unfold cj at h;omega
theorem qN (n:Nat):(co n).length≤1+2*n:=by
 have h1:=(O7 true (fun _=>true) (fun _=>true) n).length_eq
 have h2:=bg true (fun _=>true) (fun _=>true) n
 unfold co;omega
theorem vV (c:Case) (s:Susp):0≤DW c s∧DW c s≤2:=by
 unfold DW G2
 split
 ·omega
 ·split<;>omega
theorem qL (c:Case) (hG:o3 G) (hN:C7 G) (hS:u3 G) (hU:V2 G) (hR:v6 G) (hC:L6 G) (hK:bV G) (hk:KC c):zP prog G 21 [n5 c] (.tup [C5 (nI c 2),C5 (nI c 1),iv (J9 c)]):=by
 refine zf func21 ntmps21 ?_
 try simp only[iv]
 have c1:=ej (G:=G) c hG hN hS hR hC hk
 have hq:=hk.q
 by_cases h0:J9 c=0
 ·have c2:=ku (G:=G) c (by omega) hU
  rw[h0,show oY c=n9 c by unfold oY;rw[if_pos h0]] at c1
  have hdl:=bw (S4 h0).1
  have c3:=fun s (h:s∈co c.pieces.length)=>lg (G:=G) c.pieces.length (n9 c) s (uJ h).1 hK (af hk) (by omega)
  have hO:∀ k,nI c k=(co c.pieces.length).filter fun s=>decide (DW c s=k):=fun k=>by unfold nI;rw[if_pos h0];rfl
  rw[h0,hO,hO]
  have hfr:=vV c
  have hfe:∀ s,G2 (n9 c) s=DW c s:=fun s=>rfl
  simp only[hfe] at c3
  have hAn:=tB c.pieces.length
  have hAl:=qN c.pieces.length
  clear hfe hO
  generalize DW c=f at *
  generalize co c.pieces.length=A at *
  simp only[n5,j4,E9,j9,ae,C5,rI,List.map_cons,List.map_nil] at c1 c2 c3 ⊢
  have hs:=trivial
  repeat' first|(with_reducible first|refine zz ?_|refine zE [0,1,2,3,4,5,6,8,9,10,12,13,20,24,25,26,27,37,39,44,48,49,50,51,57,58,64] ?_)|simp -dsimp[hs]|refine zp c1 ?_|refine zp c2 ?_|refine i9 ?_ ?_<;>intro h<;>try simp only[i7] at h
  all_goals try clear hs
  refine i6 (ι:={ k:Nat // k≤A.length }) (fun p=>⟨73,[(1,.one (.ptr 0 0)),(2,.one (.vec 1 0 0 0)),(3,.one (.vec 2 0 0 0)),(4,iv 0),(5,.one (.im (.sl ((n9 c).map T0)))),(6,.one (.map 3)),(24,.one (.im (.sl (A.map j9)))),(25,iv (A.length:Int)),(26,iv (p.1:Int))],[.row ((j4 c).map .im),.vec 2 [] 0 true,.vec 2 [] 0 true,.map [.int .u8,.int .i64] (X0 f (A.take p.1))]⟩) (fun p=>A.length-p.1) ⟨0,by simp⟩ (zv [1,2,3,4,5,6,24,25,26] (by simp[X0])) ?_
  rintro⟨k,hk1⟩
  simp only[iv]
  by_cases hlt:k<A.length
  ·have hw:=zk k
   have hx0:A[k]?=some A[k]:=by simp[hlt]
   have c4:=c3 A[k] (List.getElem_mem hlt)
   have hts:A.take (k+1)=A.take k++[A[k]]:=List.take_succ_eq_append_getElem hlt
   have hnm:A[k]∉A.take k:=fun hm=>by
    obtain⟨j,hj⟩:=List.mem_iff_getElem?.1 hm
    have hjk:j<k:=by have:=e7 hj;rw[List.length_take] at this;omega
    rw[List.getElem?_take_of_lt hjk] at hj
    have:=(List.getElem?_inj (e7 hj) hAn).1 (hj.trans hx0.symm)
    omega
   have hset:=yI (f:=f) hnm
   rw[← hts] at hset
   generalize hx:A[k]=s at *
   have hs:=za hx (za hx0 (za hlt (za hw hset)))
   repeat' first|with_reducible refine zz ?_|simp -dsimp[hs]|refine zq c4 ?_|refine zM 8 73 5 [0,1,2,3,4,5,6,8,9,10,12,13,20,24,25,26,27,37,39,44,48,49,50,51,57,58,64] ?_|with_reducible refine zE [0,1,2,3,4,5,6,8,9,10,12,13,20,24,25,26,27,37,39,44,48,49,50,51,57,58,64] ?_|refine i9 ?_ ?_<;>intro h<;>try simp only[i7] at h
   all_goals try clear hs
   all_goals exact zn ⟨k+1,by omega⟩ (zw [1,2,3,4,5,6,24,25,26] 4)
  ·obtain rfl:k=A.length:=by omega
   simp only[List.take_length]
   have hs:=hlt
   repeat' first|(with_reducible first|refine zz ?_|refine zE [0,1,2,3,4,5,6,8,9,10,12,13,20,24,25,26,27,37,39,44,48,49,50,51,57,58,64] ?_)|simp -dsimp[hs]|refine i9 ?_ ?_<;>intro h<;>try simp only[i7] at h
   all_goals try clear hs
   intro l c0 b hll hln hlc
   rw[zY] at hll
   have hP1:(A.zip l).map (·.1)=A:=List.map_fst_zip (by omega)
   have hP2:(A.zip l).map (·.2)=l:=List.map_snd_zip (by omega)
   have hPn:((A.zip l).map (·.2)).Nodup:=by rw[hP2];exact hln
   clear c1 c3 hlt hk1
   generalize A.zip l=P at *
   subst hP2
   have hAnP:(P.map (·.1)).Nodup:=by rw[hP1];exact hAn
   obtain⟨g,hg⟩:∃ g:Susp→Bool,g=fun s=>decide (f s≠0):=⟨_,rfl⟩
   have hs:=trivial
   repeat' first|with_reducible refine zz ?_|simp -dsimp[hs]
   all_goals try clear hs
   refine i6 (ι:={ p:List Nat×List Nat×List Susp // p.2.1=(R3 g P p.1).map (·.2)∧p.2.2=(R3 g P p.1).map (·.1) }) (fun p=>⟨73,[(1,.one (.ptr 0 0)),(2,.one (.vec 1 0 0 0)),(3,.one (.vec 2 0 0 0)),(4,iv 0),(6,.one (.map 3)),(37,.one (.itr 4))],[.row ((j4 c).map .im),.vec 2 [] 0 true,.vec 2 [] 0 true,.map [.st p.1.2.1 c0 b,.int .u8,.int .i64] (X0 f p.1.2.2),.liter b p.1.1 c0]⟩) (fun p=>Bx P p.1.1) ⟨([],P.map (·.2),P.map (·.1)),by simp[vQ]⟩ (zv [1,2,3,4,6,37] (by simp[hP1])) ?_
   rintro⟨⟨seen,l,K⟩,hl,hK'⟩
   simp only at hl hK'
   simp only[iv]
   have hs:=trivial
   repeat' first|(with_reducible first|refine zz ?_|refine zE [0,1,2,3,4,5,6,8,9,10,12,13,20,24,25,26,27,37,39,44,48,49,50,51,57,58,64] ?_)|simp -dsimp[hs]|refine i9 ?_ ?_<;>intro h<;>try simp only[i7] at h|with_reducible refine T8 (fun h=>?_);(try simp only[List.map_eq_nil_iff] at h);(try subst h);try simp -dsimp[hs]|with_reducible refine And.intro ?_ ?_
   all_goals try clear hs
   ·have hend:K=(P.map (·.1)).filter g:=by rw[hK'];exact vR (by rw[← hl];assumption)
    rw[hP1] at hend
    have hget:∀ s∈A,N6 [.int .u8 s.kind,.int .i64 s.index] (X0 f K) [.im (.raw (.int .u8 0))]=[.im (.raw (.int .u8 (f s)))]:=fun s hs=>by
     rw[yK,hend]
     by_cases hf0:f s=0
     ·simp[hf0]
     ·rw[if_pos (List.mem_filter.2 ⟨hs,by rw[hg];simp[hf0]⟩)]
    have himE:List.map (fun x:List Value×List IC=>(x.1,List.map DC.im x.2)) (nk f K)=X0 f K:=Fi f K
    clear hend hK' hl hg
    have hs:=trivial
    repeat' first|with_reducible refine zz ?_|simp -dsimp[hs]|refine zp c2 ?_
    all_goals try clear hs
    refine i6 (ι:={ p:Nat×Nat×Bool×Nat×Bool // p.1≤A.length }) (fun p=>⟨73,[(2,.one (.vec 1 p.1.2.1 0 ((A.take p.1.1).filter fun s=>decide (f s=2)).length)),(3,.one (.vec 2 p.1.2.2.2.1 0 ((A.take p.1.1).filter fun s=>decide (f s=1)).length)),(4,iv 0),(6,.one (.im (.mp [.int .u8,.int .i64] (nk f K)))),(48,.one (.im (.sl (A.map j9)))),(49,iv (A.length:Int)),(50,iv (p.1.1:Int))],[.row ((j4 c).map .im),.vec 2 (l7 (((A.take p.1.1).filter fun s=>decide (f s=2)).map j9)) p.1.2.1 p.1.2.2.1,.vec 2 (l7 (((A.take p.1.1).filter fun s=>decide (f s=1)).map j9)) p.1.2.2.2.1 p.1.2.2.2.2]⟩) (fun p=>A.length-p.1.1) ⟨(0,0,true,0,true),by simp⟩ (zw [2,3,4,6,48,49,50] 3 (by simp[l7])) ?_
    rintro⟨⟨k,ga,na,gb,nb⟩,hk1⟩
    simp only at hk1
    simp only[iv]
    by_cases hlt:k<A.length
    ·have hw:=zk k
     have hx0:A[k]?=some A[k]:=by simp[hlt]
     have hts:A.take (k+1)=A.take k++[A[k]]:=List.take_succ_eq_append_getElem hlt
     have hge:=hget A[k] (List.getElem_mem hlt)
     have hl1:=List.length_filter_le (fun s=>decide (f s=2)) (A.take k)
     have hl2:=List.length_filter_le (fun s=>decide (f s=1)) (A.take k)
     have hr:=hfr A[k]
     rw[List.length_take] at hl1 hl2
     generalize hx:A[k]=s at *
     have e2:(A.take (k+1)).filter (fun s=>decide (f s=2))=(A.take k).filter (fun s=>decide (f s=2))++(if f s=2 then [s] else []):=by
      rw[hts,List.filter_append];simp[List.filter_cons]
     have e1:(A.take (k+1)).filter (fun s=>decide (f s=1))=(A.take k).filter (fun s=>decide (f s=1))++(if f s=1 then [s] else []):=by
      rw[hts,List.filter_append];simp[List.filter_cons]
     generalize (A.take k).filter (fun s=>decide (f s=2))=L2 at *
     generalize (A.take k).filter (fun s=>decide (f s=1))=L1 at *
     have h3:f s=0∨f s=1∨f s=2:=by omega
     have hs:True:=trivial
     rcases h3 with h3|h3|h3
     all_goals
      rw[h3] at hge
      simp[h3] at e1 e2
      have hs:=za hx (za hx0 (za hlt (za hw (za hge himE))))
      repeat' first|(with_reducible first|refine zz ?_|refine And.intro (by omega) ?_|refine zE [0,1,2,3,4,5,6,8,9,10,12,13,20,24,25,26,27,37,39,44,48,49,50,51,57,58,64] ?_)|simp -dsimp[hs]|refine i9 ?_ ?_<;>intro h<;>try simp only[i7] at h
      all_goals try clear hs
     ·all_goals exact zn ⟨(k+1,ga,na,gb,nb),by simp only;omega⟩ (zw [2,3,4,6,48,49,50] 3 (by simp[e1,e2]))
     ·all_goals exact zn ⟨(k+1,ga,na,gb+1,false),by simp only;omega⟩ (zw [2,3,4,6,48,49,50] 3 (by simp[e1,e2]))
     ·all_goals exact zn ⟨(k+1,ga+1,false,gb,nb),by simp only;omega⟩ (zw [2,3,4,6,48,49,50] 3 (by simp[e1,e2]))
    ·obtain rfl:k=A.length:=by omega
     simp only[List.take_length]
     have hl1:=List.length_filter_le (fun s=>decide (f s=2)) A
     have hl2:=List.length_filter_le (fun s=>decide (f s=1)) A
     generalize A.filter (fun s=>decide (f s=2))=L2 at *
     generalize A.filter (fun s=>decide (f s=1))=L1 at *
     have hs:=hlt
     repeat' first|(with_reducible first|refine zz ?_|refine zr ?_|refine zE [0,1,2,3,4,5,6,8,9,10,12,13,20,24,25,26,27,37,39,44,48,49,50,51,57,58,64] ?_)|simp -dsimp[hs]|refine i9 ?_ ?_<;>intro h<;>try simp only[i7] at h
     all_goals try clear hs
     all_goals simp
   ·intro i s xa xb hx hs1 hns
    obtain⟨y,hy,rfl,rfl⟩:=wv hx
    have hgP:(R3 g P seen)[i]?=some (y,s):=by
     rw[hK',List.getElem?_map,Option.map_eq_some_iff] at hy
     rw[hl,List.getElem?_map,Option.map_eq_some_iff] at hs1
     obtain⟨p,hp1,hp2⟩:=hy
     obtain⟨q,hq1,hq2⟩:=hs1
     rw[hp1] at hq1
     cases hq1
     rw[hp1,← hp2,← hq2]
    have hmem:(y,s)∈P:=(List.mem_filter.1 (List.mem_of_getElem? hgP)).1
    have hlt2:=Bw hmem hns
    have hln2:l.Nodup:=by rw[hl];exact(hPn.sublist ((List.filter_sublist).map _))
    have hKn:K.Nodup:=by rw[hK'];exact(hAnP.sublist ((List.filter_sublist).map _))
    have hidx:=ow hln2 hs1
    have hmi:=sg (f:=f) hKn hy
    have hmd:=Fa (f:=f) hKn hy
    by_cases hf0:f y=0
    ·have hfy:g y=false:=by rw[hg];simp[hf0]
     have hd:=vS (f:=g) hPn hgP hfy
     have hl2:l.eraseIdx i=(R3 g P (seen++[s])).map (·.2):=by rw[hd,kX,← hl]
     have hK2:K.eraseIdx i=(R3 g P (seen++[s])).map (·.1):=by rw[hd,kX,← hK']
     rw[hf0] at hx
     have hs:=za hx (za hidx (za hf0 (za hmi hmd)))
     repeat' first|(with_reducible first|refine zz ?_|refine zE [0,1,2,3,4,5,6,8,9,10,12,13,20,24,25,26,27,37,39,44,48,49,50,51,57,58,64] ?_)|simp -dsimp[hs]|refine i9 ?_ ?_<;>intro h<;>try simp only[i7] at h
     all_goals try clear hs
     all_goals exact At.round ⟨(seen++[s],l.eraseIdx i,K.eraseIdx i),hl2,hK2⟩ hlt2 (zw [1,2,3,4,6,37] 5)
    ·have hfy:g y=true:=by rw[hg];simp[hf0]
     have hd:=sr (f:=g) (seen:=seen) hPn hmem hfy
     have hl2:l=(R3 g P (seen++[s])).map (·.2):=by rw[hd,← hl]
     have hK2:K=(R3 g P (seen++[s])).map (·.1):=by rw[hd,← hK']
     have hs:=za hx (za hidx (za hf0 (za hmi hmd)))
     repeat' first|(with_reducible first|refine zz ?_|refine zE [0,1,2,3,4,5,6,8,9,10,12,13,20,24,25,26,27,37,39,44,48,49,50,51,57,58,64] ?_)|simp -dsimp[hs]|refine i9 ?_ ?_<;>intro h<;>try simp only[i7] at h
     all_goals try clear hs
     all_goals exact At.round ⟨(seen++[s],l,K),hl2,hK2⟩ hlt2 (zw [1,2,3,4,6,37] 5)
 ·have hO:∀ k,nI c k=[]:=fun k=>by unfold nI;rw[if_neg h0]
  rw[hO,hO]
  simp only[n5,j4,E9,j9,ae,rI,List.map_cons,List.map_nil] at c1 ⊢
  have hs:=h0
  repeat' first|(with_reducible first|refine zz ?_|refine zr ?_|refine zE [0,1,2,3,4,5,6,8,9,10,12,13,20,24,25,26,27,37,39,44,48,49,50,51,57,58,64] ?_)|simp -dsimp[hs]|refine zp c1 ?_|refine i9 ?_ ?_<;>intro h<;>try simp only[i7] at h
  all_goals try clear hs
end Go.Proofs
namespace Go.Ab
open Go
def cK (s:Susp) (i:Nat):J4:=if s.kind=2∧s.index=i then (true,false) else if s.kind=3∧s.index=i then (false,true) else (false,false)
def aQ (d:Desk) (s:Susp):Bool:=((List.range d.faults.length).all fun i=>decide (cK s i∈d.faults.getD i []))&&(d.notes==decide (s.kind=1))
theorem wV {d:Desk} {s:Susp} {i:Nat} (h:i<d.faults.length) (h2:cK s i∉d.faults.getD i []):aQ d s=false:=by
 unfold aQ
 rw[Bool.and_eq_false_iff]
 refine .inl ?_
 rw[← Bool.not_eq_true,List.all_eq_true]
 exact fun hall=>h2 (by simpa using hall i (List.mem_range.2 h))
theorem tz {d:Desk} {s:Susp} (h:∀ i,i<d.faults.length→cK s i∈d.faults.getD i []):aQ d s=(d.notes==decide (s.kind=1)):=by
 unfold aQ
 rw[show ((List.range d.faults.length).all fun i=>decide (cK s i∈d.faults.getD i []))=true by
  rw[List.all_eq_true];exact fun i hi=>by simpa using h i (List.mem_range.1 hi)]
 rfl
end Go.Ab
namespace Go.Proofs
open Go Go.Ab
variable {G:Kc}
attribute [simp] q8 bF r5 w7 nilV H8 ZK
def ew (s:Susp):List (List Value×List DC):=if s.kind=2 then [([.int .i64 s.index],[.im (.raw (.bool true)),.im (.raw (.bool false))])] else if s.kind=3 then [([.int .i64 s.index],[.im (.raw (.bool false)),.im (.raw (.bool true))])] else []
theorem uR (s:Susp) (i:Nat):N6 [.int .i64 (i:Int)] (ew s) [.im (.raw (.bool false)),.im (.raw (.bool false))]=[.im (.raw (.bool (cK s i).1)),.im (.raw (.bool (cK s i).2))]:=by
 have hb:A1 [.int .i64 (i:Int)] [.int .i64 s.index]=decide (s.index=(i:Int)):=an (i:Int) s.index
 unfold ew cK
 by_cases h2:s.kind=2
 ·simp only[h2,if_true,true_and,N6,R0,hb,decide_eq_true_eq]
  by_cases hi:s.index=(i:Int)
  ·simp[hi]
  ·simp[hi]
 ·simp only[h2,if_false,false_and,if_false]
  by_cases h3:s.kind=3
  ·simp only[h3,if_true,true_and,N6,R0,hb,decide_eq_true_eq]
   by_cases hi:s.index=(i:Int)
   ·simp[hi]
   ·simp[hi]
  ·simp[h3,N6,R0]
@[simp] theorem HF (n:Nat) (objs:List DObj) (s:Susp):((ew s).map fun x=>(x.1,x.2.map (fz n objs)))=ew s:=by
 unfold ew
 split
 ·simp[fz]
 ·split<;>simp[fz]
theorem Dp (d:Desk) (n:Nat) (s:Susp) (hd:DkOk n d) (hn:n<100000) (hs:cq n s) (hF:jI G):zP Tryz.prog G 79 [jJ d,E9 s] (bv (aQ d s)):=by
 refine zf Tryz.func79 Tryz.ntmps79 ?_
 try simp only[iv]
 have g2:G 2=some [.raw (.bool true),.raw (.bool false)]:=hF.2.1
 have g3:G 3=some [.raw (.bool false),.raw (.bool true)]:=hF.2.2
 have hdn:=hd.n
 have hg:=uR s
 have hcs:(s.kind=1∧ew s=[])∨(s.kind=2∧ew s=[([.int .i64 s.index],[.im (.raw (.bool true)),.im (.raw (.bool false))])])∨(s.kind=3∧ew s=[([.int .i64 s.index],[.im (.raw (.bool false)),.im (.raw (.bool true))])]):=by
  unfold ew
  rcases hs with h|⟨h|h,_,_⟩<;>simp[h]
 have hno:=fun i=>wV (d:=d) (s:=s) (i:=i)
 have hyes:=tz (d:=d) (s:=s)
 generalize aQ d s=r at *
 obtain⟨kd,ix⟩:=s
 simp only at hcs
 simp only[jJ,aA,R5]
 clear hs
 have hs:True:=trivial
 rcases hcs with⟨hkd,hw⟩|⟨hkd,hw⟩|⟨hkd,hw⟩
 all_goals
  have hw1:=hw
  rw[hkd] at hw1
  have hs:=za g2 (za g3 hkd)
  repeat' first|(with_reducible first|refine zz ?_|refine zE [0,1,3,4,5,6,7,10,11,17,26,27,28,29,38] ?_)|simp -dsimp[hs]|refine i9 ?_ ?_<;>intro h<;>try simp only[i7] at h
  all_goals try clear hs
 all_goals
  refine i6 (ι:={ k:Nat // k≤d.faults.length∧∀ j,j<k→cK ⟨kd,ix⟩ j∈d.faults.getD j [] }) (fun p=>⟨48,[(0,jJ d),(3,.one (.ptr 0 0)),(5,.one (.map 1)),(26,.one (.im (.sl (d.faults.map J3)))),(27,iv (d.faults.length:Int)),(28,iv (p.1:Int))],[.row [.im (.raw (.int .u8 kd)),.im (rI ix)],.map [.int .i64] (ew ⟨kd,ix⟩)]⟩) (fun p=>d.faults.length-p.1) ⟨0,by simp⟩ (zv [0,3,5,26,27,28] (by simp[hw,hw1,hkd,Q1,aA,R5])) ?_
  rintro⟨k,hk1,hall⟩
  simp only[iv,jJ,aA,R5]
  by_cases hlt:k<d.faults.length
  ·have hwk:=zk k
   have hx0:d.faults[k]?=some d.faults[k]:=by simp[hlt]
   have hgd:d.faults.getD k []=d.faults[k]:=by simp[hlt]
   have hgk:=hg k
   have hnk:=hno k hlt
   rw[hgd] at hnk
   have hall2:cK ⟨kd,ix⟩ k∈d.faults[k]→∀ j,j<k+1→cK ⟨kd,ix⟩ j∈d.faults.getD j []:=fun h j hj=>by
    by_cases e:j=k
    ·subst e;rw[hgd];exact h
    ·exact hall j (by omega)
   generalize hw0:cK ⟨kd,ix⟩ k=w at *
   have c1:=gR (G:=G) d.faults[k] w (hd.l _ (List.getElem_mem hlt))
   generalize hx:d.faults[k]=x at *
   simp only[jo,C3,List.map_cons,List.map_nil] at c1
   by_cases hm:w∈x
   ·rw[decide_eq_true hm] at c1
    have hs:=za hx (za hlt (za hwk hgk))
    repeat' first|(with_reducible first|refine zz ?_|refine zE [0,1,3,4,5,6,7,10,11,17,26,27,28,29,38] ?_)|simp -dsimp[hs]|refine zp c1 ?_|refine i9 ?_ ?_<;>intro h<;>try simp only[i7] at h
    all_goals try clear hs
    all_goals exact zn ⟨k+1,by omega,hall2 hm⟩ (zw [0,3,5,26,27,28] 2 (by simp[aA,R5]))
   ·rw[decide_eq_false hm] at c1
    have hr:=hnk hm
    have hs:=za hx (za hlt (za hwk hgk))
    repeat' first|(with_reducible first|refine zz ?_|refine zr ?_|refine zE [0,1,3,4,5,6,7,10,11,17,26,27,28,29,38] ?_)|simp -dsimp[hs]|refine zp c1 ?_|refine i9 ?_ ?_<;>intro h<;>try simp only[i7] at h
    all_goals try clear hs
    all_goals simp[hr]
  ·obtain rfl:k=d.faults.length:=by omega
   have hr:=hyes fun i hi=>hall i hi
   rw[hr]
   have hs:=za hlt hkd
   repeat' first|(with_reducible first|refine zz ?_|refine zr ?_)|simp -dsimp[hs]|refine zM 13 48 9 [0,1,3,4,5,6,7,10,11,17,26,27,28,29,38] ?_|with_reducible refine zE [0,1,3,4,5,6,7,10,11,17,26,27,28,29,38] ?_|refine i9 ?_ ?_<;>intro h<;>try simp only[i7] at h
   all_goals try clear hs
   all_goals simp[hkd]
end Go.Proofs
namespace Go.Proofs
open Go Go.Ab Tryz
variable {G:Kc}
attribute [simp] q8 bF r5 w7 nilV H8 ZK
theorem AP (n:Nat) (s:Susp) (hs:cq n s) (hn:n<100000) (hF:jI G) (d:Desk) (hd:DkOk n d):DCall prog G 78 (jJ d :: [DC.ptr 0 0].map .one) [.row ((j9 s).map .im)] (fun r o=>r=bv (aQ d s)∧o=[.row ((j9 s).map .im)]):=by
 refine DCall.drop ?_
 have c1:=Dp (G:=G) d n s hd hn hs hF
 simp only[jJ,E9,j9,rI,List.map_cons,List.map_nil] at c1
 refine g9 func78 rfl ntmps78 (by simp) rfl ?_
 simp only[jJ,j9,rI,List.map_cons,List.map_nil]
 have hs:=trivial
 repeat' first|(with_reducible first|refine zz ?_|refine zr ?_|refine zE [0,1,3] ?_)|simp -dsimp[hs]|refine zp c1 ?_|with_reducible refine And.intro ?_ ?_
 all_goals try clear hs
noncomputable def AQ (c:Case) (s:Susp):Bool:=(n9 c).any fun d=>aQ d s
noncomputable def tA (c:Case):List Susp:=if J9 c=0 then (co c.pieces.length).filter (AQ c) else []
theorem AO (c:Case) (hG:o3 G) (hN:C7 G) (hS:u3 G) (hU:V2 G) (hR:v6 G) (hC:L6 G) (hF:jI G) (hk:KC c):zP prog G 26 [n5 c] (.tup [C5 (tA c),iv (J9 c)]):=by
 refine zf func26 ntmps26 ?_
 try simp only[iv]
 have c1:=ej (G:=G) c hG hN hS hR hC hk
 have hq:=hk.q
 by_cases h0:J9 c=0
 ·have c2:=ku (G:=G) c (by omega) hU
  rw[h0,show oY c=n9 c by unfold oY;rw[if_pos h0]] at c1
  have hdl:=bw (S4 h0).1
  have c3:=fun s (h:s∈co c.pieces.length)=>cC (G:=G) (n9 c) (fun d=>aQ d s) 78 [.ptr 0 0] [.row ((j9 s).map .im)] (by simp) (fun d hdm=>AP c.pieces.length s (uJ h).1 (by omega) hF d (af hk d hdm)) (by omega)
  have hO:tA c=(co c.pieces.length).filter (AQ c):=by unfold tA;rw[if_pos h0]
  have hfe:∀ s,((n9 c).any fun d=>aQ d s)=AQ c s:=fun s=>rfl
  simp only[hfe] at c3
  rw[h0,hO]
  have hAl:=qN c.pieces.length
  clear hO hfe
  generalize AQ c=f at *
  generalize co c.pieces.length=A at *
  simp only[n5,j4,E9,j9,ae,C5,rI,List.map_cons,List.map_nil] at c1 c2 c3 ⊢
  have hs:=trivial
  repeat' first|(with_reducible first|refine zz ?_|refine zE [0,1,2,3,4,5,6,8,15,18,19,20,21,26] ?_)|simp -dsimp[hs]|refine zp c1 ?_|refine zp c2 ?_|refine i9 ?_ ?_<;>intro h<;>try simp only[i7] at h
  all_goals try clear hs
  refine i6 (ι:={ p:Nat×Nat×Bool // p.1≤A.length }) (fun p=>⟨33,[(4,.one (.im (.sl ((n9 c).map T0)))),(6,.one (.vec 2 p.1.2.1 0 ((A.take p.1.1).filter f).length)),(18,.one (.im (.sl (A.map j9)))),(19,iv (A.length:Int)),(20,iv (p.1.1:Int))],[.row ((j4 c).map .im),.vec 2 [] 0 true,.vec 2 (l7 (((A.take p.1.1).filter f).map j9)) p.1.2.1 p.1.2.2]⟩) (fun p=>A.length-p.1.1) ⟨(0,0,true),by simp⟩ (zv [4,6,18,19,20] (by simp[l7])) ?_
  rintro⟨⟨k,g,nl⟩,hk1⟩
  simp only at hk1
  simp only[iv]
  by_cases hlt:k<A.length
  ·have hw:=zk k
   have hx0:A[k]?=some A[k]:=by simp[hlt]
   have hts:A.take (k+1)=A.take k++[A[k]]:=List.take_succ_eq_append_getElem hlt
   have c4:=c3 A[k] (List.getElem_mem hlt)
   have hl1:=List.length_filter_le f (A.take k)
   rw[List.length_take] at hl1
   generalize hx:A[k]=s at *
   have e1:(A.take (k+1)).filter f=(A.take k).filter f++(if f s=true then [s] else []):=by
    rw[hts,List.filter_append];simp[List.filter_cons]
   generalize (A.take k).filter f=L at *
   have hs:True:=trivial
   cases hf:f s
   all_goals
    rw[hf] at c4
    simp[hf] at e1
    have hs:=za hx (za hx0 (za hlt hw))
    repeat' first|(with_reducible first|refine zz ?_|refine And.intro (by omega) ?_|refine zE [0,1,2,3,4,5,6,8,15,18,19,20,21,26] ?_)|simp -dsimp[hs]|refine CallE.embed [3] (c4) ?_ ?_ ?_ ?_ ?_ ?_;(focus simp[p8];done);(focus simp;done);(focus simp;done);(focus simp;done);(focus refine n3 ?_;simp[p8,n8];done);try simp -dsimp[l9,p8,hs]|refine i9 ?_ ?_<;>intro h<;>try simp only[i7] at h
    all_goals try clear hs
   ·all_goals exact zn ⟨(k+1,g,nl),by simp only;omega⟩ (zw [4,6,18,19,20] 3 (by simp[e1]))
   ·all_goals exact zn ⟨(k+1,g+1,false),by simp only;omega⟩ (zw [4,6,18,19,20] 3 (by simp[e1]))
  ·obtain rfl:k=A.length:=by omega
   simp only[List.take_length]
   have hl1:=List.length_filter_le f A
   generalize A.filter f=L at *
   have hs:=hlt
   repeat' first|(with_reducible first|refine zz ?_|refine zr ?_|refine zE [0,1,2,3,4,5,6,8,15,18,19,20,21,26] ?_)|simp -dsimp[hs]|refine i9 ?_ ?_<;>intro h<;>try simp only[i7] at h
   all_goals try clear hs
   all_goals simp
 ·have hO:tA c=[]:=by unfold tA;rw[if_neg h0]
  rw[hO]
  simp only[n5,j4,E9,j9,ae,rI,List.map_cons,List.map_nil] at c1 ⊢
  have hs:=h0
  repeat' first|(with_reducible first|refine zz ?_|refine zr ?_|refine zE [0,1,2,3,4,5,6,8,15,18,19,20,21,26] ?_)|simp -dsimp[hs]|refine zp c1 ?_|refine i9 ?_ ?_<;>intro h<;>try simp only[i7] at h
  all_goals try clear hs
attribute [simp] q8 bF r5 w7 nilV H8 ZK
theorem uP (d i w:Int) (l:List Print):N0 d i w l≠[]:=by
 unfold N0
 have hm:aV d i w l∈o2 (j6 (Z1 d i w l++[aV d i w l])):=by
  rw[ai]
  exact(List.mergeSort_perm _ _).mem_iff.2 (by simp)
 generalize o2 (j6 (Z1 d i w l++[aV d i w l]))=D at *
 rcases qf (fun x=>decide (aV d i w l=x)) D with h|h
 ·intro e
  have h2:=congrArg List.length e
  rw[List.length_drop,List.length_nil] at h2
  have hlp:0<D.length:=List.length_pos_of_mem hm
  omega
 ·rw[h] at hm;simp at hm
theorem pO {c:Case} (he:r9 c=0) {k:Nat} (h1:k<c.pieces.length):E0 c k≠[]:=by
 obtain⟨hp0,hcb⟩:=B8 he
 obtain⟨hn0,hpb,hr0⟩:=C6 hp0
 have hok:=L7 hcb
 have h2:k<c.loop.links.length:=by have:=hok.e;omega
 have hdm:=bx hr0 hcb h1 h2
 have hq:=hcb
 rw[J0,Bool.and_eq_true,List.all_eq_true] at hq
 have h3:k<(c.loop.links.zip c.pieces).length:=by rw[List.length_zip];omega
 have h4:=hq.2 _ (List.getElem_mem h3)
 rw[List.getElem_zip] at h4
 simp only at h4
 rw[dU hr0] at h4
 obtain⟨_,_,_,hh,hd,_⟩:=h4
 rw[gk h1 h2]
 unfold N1
 have hA:I3 c.p c.pieces[k].day 1 c.pieces[k].holder c.loop.links[k].drawing=0:=by
  unfold I3 G5 qv
  rw[if_neg,if_pos ⟨hh,hdm⟩]
  rw[if_neg (by simp[hp0]),if_pos (by simp at hd ⊢;omega)]
  simp
 rw[if_pos hA]
 exact uP _ _ _ _
theorem Dr {L:List J4} {so:Bool} {f:J4} (h:L≠[]):ap L so f≠[]:=by
 unfold ap;split
 ·simp
 ·exact h
theorem qP {L:List J4} {f:J4}:ap L true f≠[]:=by
 unfold ap;split
 ·simp
 ·rename_i h
  have:f∈L:=Classical.byContradiction fun h2=>h ⟨rfl,h2⟩
  exact List.ne_nil_of_mem this
theorem wm {c:Case} {y:Link} {x:Piece} {o:Int} {L:List J4} {l:Int} (hx:x.lo≤x.hi):G3 c y x o L l≠[]:=by
 unfold G3
 by_cases h1:rj c y x l=true
 ·rw[h1];exact Dr qP
 ·have h2:uu c y x l=true:=by
   unfold rj at h1
   unfold uu
   split at h1
   ·simp at h1
   ·rename_i z hz
    simp only[hz,S8,Bool.and_eq_true,decide_eq_true_eq,Bool.not_eq_true',decide_eq_false_iff_not] at h1 ⊢
    omega
  rw[h2];exact qP
theorem Fu {c:Case} (he:r9 c=0) (s:List Int) {k:Nat} (h1:k<c.pieces.length):jp c s k≠[]:=by
 obtain⟨hp0,hcb⟩:=B8 he
 have hok:=L7 hcb
 have h2:k<c.loop.links.length:=by have:=hok.e;omega
 have hm:=pO he h1
 have hp:=nF hok h1
 unfold V3 at hp
 have hx0:c.pieces[k]?=some c.pieces[k]:=by simp[h1]
 have hy0:c.loop.links[k]?=some c.loop.links[k]:=by simp[h2]
 unfold jp
 rw[hx0,hy0]
 simp only
 generalize E0 c k=M at *
 rw[← List.dropLast_concat_getLast hm,List.foldl_append]
 exact wm hp.2.1
theorem qr {c:Case} (he:r9 c=0):∀ d∈n9 c,∀ x∈d.faults,x≠[]:=by
 intro d hd x hx
 obtain⟨s,_,rfl⟩:=List.mem_map.1 hd
 simp only[H4,List.mem_map,List.mem_range] at hx
 obtain⟨k,hk,rfl⟩:=hx
 exact Fu he s hk
def cD:List Susp→List Susp→Int
 | [],[]=>0
 | [],_ :: _=>-1
 | _ :: _,[]=>1
 | a :: x,b :: y=>if jD a b≠0 then jD a b else cD x y
def Ah (a b:List Susp):Int:=jE [(a.length:Int)-b.length,cD a b]
def nK (m x:List Susp):List Susp:=if Ah x m<0 then x else m
def pL:List (List Susp)→List Susp
 | []=>[]
 | x :: r=>r.foldl nK x
def jt (l:List Susp):List IC:=[.sl (l.map j9)]
def lQ (l:List Susp):Prop:=(∀ x∈l,eQ x)∧l.length<100000
theorem BX (a b:Susp) (ha:eQ a) (hb:eQ b) (objs:List DObj):DCall prog G 86 [E9 a,E9 b] objs (fun d o=>d=iv (jD a b)∧o=objs):=by
 refine DCall.frame ?_ (by simp) (by simp) objs
 exact(ui a b ha hb).mono fun d o h=>by rw[h.1];simp
theorem Db (a b:List Susp) (ha:lQ a) (hb:lQ b):zP prog G 85 [C5 a,C5 b,.one (.im (.fn (.func 86) []))] (iv (cD a b)):=by
 refine zf func85 ntmps85 ?_
 try simp only[iv]
 have hal:=ha.2
 have hbl:=hb.2
 simp only[C5]
 have hs:=trivial
 repeat' first|(with_reducible first|refine zz ?_|refine zE [0,1,2,6,7,8,9,10,11,12,13,14,21,31,38] ?_)|simp -dsimp[hs]
 refine i6 (ι:={ k:Nat // k≤a.length∧k≤b.length∧cD a b=cD (a.drop k) (b.drop k) }) (fun p=>⟨39,[(0,.one (.im (.sl (a.map j9)))),(1,.one (.im (.sl (b.map j9)))),(2,.one (.im (.fn (.func 86) []))),(11,.one (.im (.sl (a.map j9)))),(12,iv (a.length:Int)),(13,iv (p.1:Int))],[]⟩) (fun p=>a.length-p.1) ⟨0,by simp⟩ (zv [0,1,2,11,12,13]) ?_
 rintro⟨k,hka,hkb,hE⟩
 have hE2:=hE
 simp only[iv]
 by_cases hlt:k<a.length
 ·have hw:=zk k
  have hx0:a[k]?=some a[k]:=by simp[hlt]
  have hxt:=ha.1 a[k] (List.getElem_mem hlt)
  rw[List.drop_eq_getElem_cons hlt] at hE2
  by_cases hlb:k<b.length
  ·have hlb':¬ (b.length:Int)≤k:=by omega
   have hy0:b[k]?=some b[k]:=by simp[hlb]
   have hyt:=hb.1 b[k] (List.getElem_mem hlb)
   rw[List.drop_eq_getElem_cons hlb,cD] at hE2
   generalize hx:a[k]=x at *
   generalize hy:b[k]=y at *
   have c1:=BX (G:=G) x y hxt hyt
   generalize jD x y=z at *
   simp only[E9,j9,rI,List.map_cons,List.map_nil] at c1
   by_cases hz:z=0
   ·rw[if_neg (by simp[hz])] at hE2
    have hs:=za hx (za hx0 (za hy (za hy0 (za hlt (za hlb (za hlb' (za hw hz)))))))
    repeat' first|(with_reducible first|refine zz ?_|refine zE [0,1,2,6,7,8,9,10,11,12,13,14,21,31,38] ?_)|simp -dsimp[hs]|refine zp c1 ?_|refine i9 ?_ ?_<;>intro h<;>try simp only[i7] at h
    all_goals exact zn ⟨k+1,by omega,by omega,hE2⟩ (zw [0,1,2,11,12,13] 0)
   ·rw[if_pos hz] at hE2
    have hs:=za hx (za hx0 (za hy (za hy0 (za hlt (za hlb (za hlb' (za hw hz)))))))
    repeat' first|(with_reducible first|refine zz ?_|refine zr ?_|refine zE [0,1,2,6,7,8,9,10,11,12,13,14,21,31,38] ?_)|simp -dsimp[hs]|refine zp c1 ?_|refine i9 ?_ ?_<;>intro h<;>try simp only[i7] at h
    all_goals simp[hE2]
  ·have hkb2:k=b.length:=by omega
   have hlb':(b.length:Int)≤k:=by omega
   rw[List.drop_eq_nil_of_le (by omega:b.length≤k),cD] at hE2
   generalize hx:a[k]=x at *
   have hs:=za hx (za hx0 (za hlt (za hlb (za hlb' hw))))
   repeat' first|(with_reducible first|refine zz ?_|refine zr ?_|refine zE [0,1,2,6,7,8,9,10,11,12,13,14,21,31,38] ?_)|simp -dsimp[hs]|refine i9 ?_ ?_<;>intro h<;>try simp only[i7] at h
   all_goals simp[hE2]
 ·have hka2:k=a.length:=by omega
  rw[List.drop_eq_nil_of_le (by omega)] at hE2
  by_cases hlb:a.length<b.length
  ·have hlb':(a.length:Int)<b.length:=by omega
   rw[List.drop_eq_getElem_cons (by omega),cD] at hE2
   have hs:=za hlt (za hlb hlb')
   repeat' first|(with_reducible first|refine zz ?_|refine zr ?_|refine zE [0,1,2,6,7,8,9,10,11,12,13,14,21,31,38] ?_)|simp -dsimp[hs]|refine i9 ?_ ?_<;>intro h<;>try simp only[i7] at h
   all_goals simp[hE2]
  ·have hlb':¬ (a.length:Int)<b.length:=by omega
   rw[List.drop_eq_nil_of_le (by omega),cD] at hE2
   have hs:=za hlt (za hlb hlb')
   repeat' first|(with_reducible first|refine zz ?_|refine zr ?_|refine zE [0,1,2,6,7,8,9,10,11,12,13,14,21,31,38] ?_)|simp -dsimp[hs]|refine i9 ?_ ?_<;>intro h<;>try simp only[i7] at h
   all_goals simp[hE2]
attribute [simp] q8 bF r5 w7 nilV H8 ZK
theorem FB (a b:List Susp) (ha:lQ a) (hb:lQ b):zP prog G 83 [C5 a,C5 b] (iv (Ah a b)):=by
 refine zf func83 ntmps83 ?_
 try simp only[iv]
 have hal:=ha.2
 have hbl:=hb.2
 have c1:=Db (G:=G) a b ha hb
 have c2:=DN (G:=G) [(a.length:Int)-b.length,cD a b] (by simp)
 have hE:Ah a b=jE [(a.length:Int)-b.length,cD a b]:=rfl
 rw[← hE] at c2
 have hw:IntKind.i64.wrap ((a.length:Int)-b.length)=(a.length:Int)-b.length:=o4 (by omega) (by omega)
 generalize cD a b=z at *
 generalize Ah a b=r at *
 simp only[C5] at c1 ⊢
 have hs:=hw
 repeat' first|(with_reducible first|refine zz ?_|refine zr ?_|refine zE [0,1,4] ?_)|simp -dsimp[hs]|refine zp c1 ?_|refine zt c2 ?_ ?_ ?_;(focus simp;done);focus (simp;done)
theorem Cm (L:List (List Susp)) (hne:L≠[]) (hl:L.length<1000000) (ht:∀ x∈L,lQ x):zP prog G 144 [.one (.im (.sl (L.map jt))),.one (.im (.fn (.func 83) []))] (C5 (pL L)):=by
 refine zf func144 ntmps144 ?_
 try simp only[iv]
 obtain⟨x0,r0,rfl⟩:∃ x r,L=x :: r:=by
  cases L with
  | nil=>exact absurd rfl hne
  | cons x r=>exact⟨x,r,rfl⟩
 have hE:pL (x0 :: r0)=((x0 :: r0).drop 1).foldl nK x0:=rfl
 have hl1:¬ ((x0 :: r0).length:Int)<1:=by simp;omega
 have hlp:0<(x0 :: r0).length:=by simp
 have hx1:(x0 :: r0)[0]?=some x0:=rfl
 have hx2:(x0 :: r0)[0]=x0:=rfl
 have hm0:x0∈(x0 :: r0):=by simp
 have hk1:1≤(x0 :: r0).length:=hlp
 generalize (x0 :: r0)=L at *
 generalize pL L=res at *
 simp only[C5]
 have hs:=za hl1 (za hx1 (za hx2 hlp))
 repeat' first|(with_reducible first|refine zz ?_|refine zE [0,1,4,5,6,9,17,27] ?_)|simp -dsimp[jt,hs]|refine i9 ?_ ?_<;>intro h<;>try simp only[i7] at h
 refine i6 (ι:={ p:Nat×List Susp // 1≤p.1∧p.1≤L.length∧p.2∈L∧res=(L.drop p.1).foldl nK p.2 }) (fun p=>⟨33,[(0,.one (.im (.sl (L.map jt)))),(1,.one (.im (.fn (.func 83) []))),(5,.one (.im (.sl (p.1.2.map j9)))),(6,iv (p.1.1:Int))],[]⟩) (fun p=>L.length-p.1.1) ⟨(1,x0),Nat.le_refl _,hk1,hm0,hE⟩ (zw [0,1,5,6] 0) ?_
 rintro⟨⟨k,m⟩,hk1',hk,hm,hE2⟩
 simp only at hk1' hk hm hE2
 simp only[iv]
 by_cases hlt:k<L.length
 ·have hlt':(k:Int)<L.length:=by omega
  have hw:=zk k
  have hx:L[k]?=some L[k]:=by simp[hlt]
  have hmk:L[k]∈L:=List.getElem_mem hlt
  rw[List.drop_eq_getElem_cons hlt,List.foldl_cons] at hE2
  generalize hy:L[k]=y at *
  have c1:=FB (G:=G) y m (ht y hmk) (ht m hm)
  simp only[C5] at c1
  unfold nK at hE2
  by_cases hym:Ah y m<0
  ·rw[if_pos hym] at hE2
   have hs:=za hx (za hy (za hlt (za hlt' (za hw hym))))
   repeat' first|(with_reducible first|refine zz ?_|refine zE [0,1,4,5,6,9,17,27] ?_)|simp -dsimp[jt,hs]|refine zp c1 ?_|refine i9 ?_ ?_<;>intro h<;>try simp only[i7] at h
   all_goals exact zn ⟨(k+1,y),by simp,by simp only;omega,hmk,hE2⟩ (zw [0,1,5,6] 0)
  ·rw[if_neg hym] at hE2
   have hs:=za hx (za hy (za hlt (za hlt' (za hw hym))))
   repeat' first|(with_reducible first|refine zz ?_|refine zE [0,1,4,5,6,9,17,27] ?_)|simp -dsimp[jt,hs]|refine zp c1 ?_|refine i9 ?_ ?_<;>intro h<;>try simp only[i7] at h
   all_goals exact zn ⟨(k+1,m),by simp,by simp only;omega,hm,hE2⟩ (zw [0,1,5,6] 0)
 ·have hlt':¬ (k:Int)<L.length:=by omega
  rw[List.drop_eq_nil_of_le (by omega)] at hE2
  have hE3:res=m:=hE2
  have hs:=za hlt hlt'
  repeat' first|(with_reducible first|refine zz ?_|refine zr ?_|refine zE [0,1,4,5,6,9,17,27] ?_)|simp -dsimp[hs]|refine i9 ?_ ?_<;>intro h<;>try simp only[i7] at h
  all_goals simp[hE3]
theorem AB (L:List (List Susp)) (hne:L≠[]) (hl:L.length<1000000) (ht:∀ x∈L,lQ x):zP prog G 82 [.one (.im (.sl (L.map jt))),.one (.im (.fn (.func 83) []))] (C5 (pL L)):=by
 refine zf func82 ntmps82 ?_
 try simp only[iv]
 have c1:=Cm (G:=G) L hne hl ht
 generalize pL L=r at *
 simp only[C5] at c1 ⊢
 repeat' first|(with_reducible first|refine zz ?_|refine zx ?_|refine zE [0,1,4] ?_)|simp -dsimp|refine zp c1 ?_
attribute [simp] q8 bF r5 w7 nilV H8 ZK
theorem ws {n:Nat} {d:Desk} (hd:DkOk n d) (hn:n<40000):lQ (W9 d):=by
 have hdn:=hd.n
 have hl:(W9 d).length≤1+2*n:=by
  have h1:=(O7 d.notes (dt d) (dw d) d.faults.length).length_eq
  have h2:=bg d.notes (dt d) (dw d) d.faults.length
  unfold W9;omega
 refine⟨fun x hx=>?_,by omega⟩
 unfold eQ
 rcases listS_mem.1 hx with⟨_,rfl⟩|⟨i,h1,_,rfl⟩|⟨i,h1,_,rfl⟩
 ·simp
 ·simp[gc];omega
 ·simp[qc];omega
def du (D:List Desk) (k:Nat):List (List IC):=(((D.take k).map W9)).map jt
theorem sP {D:List Desk} {k:Nat} (h:k<D.length):du D (k+1)=du D k++[[.sl ((W9 D[k]).map j9)]]:=by
 unfold du
 rw[List.take_succ_eq_append_getElem h,List.map_append,List.map_append]
 rfl
theorem ni {D:List Desk} {k:Nat} (h:k≤D.length):(du D k).length=k:=by simp[du];omega
theorem wr (D:List Desk):du D D.length=(D.map W9).map jt:=by simp[du]
noncomputable def sO (c:Case):List Susp:=if J9 c=0 then pL ((n9 c).map W9) else []
theorem wQ (c:Case) (hG:o3 G) (hN:C7 G) (hS:u3 G) (hU:V2 G) (hR:v6 G) (hC:L6 G) (hF:jI G) (hk:KC c):zP prog G 28 [n5 c] (.tup [C5 (sO c),iv (J9 c)]):=by
 refine zf func28 ntmps28 ?_
 try simp only[iv]
 have c1:=ej (G:=G) c hG hN hS hR hC hk
 have hq:=hk.q
 by_cases h0:J9 c=0
 ·rw[h0,show oY c=n9 c by unfold oY;rw[if_pos h0]] at c1
  have hdl:=bw (S4 h0).1
  have c3:=fun d (h:d∈n9 c)=>qg (G:=G) d c.pieces.length (af hk d h) (by omega) (qr (S4 h0).1 d h) hF hU
  have hO:sO c=pL ((n9 c).map W9):=by unfold sO;rw[if_pos h0]
  have c2:=AB (G:=G) ((n9 c).map W9) (by intro e;have:=congrArg List.length e;simp at this;rw[this] at hdl;simp at hdl) (by simp;omega) (fun x hx=>by
   obtain⟨d,hd,rfl⟩:=List.mem_map.1 hx
   exact ws (af hk d hd) (by omega))
  rw[h0,hO]
  generalize pL ((n9 c).map W9)=res at *
  generalize n9 c=D at *
  simp only[n5,j4,jJ,ae,C5,List.map_cons,List.map_nil] at c1 c2 c3 ⊢
  clear hO
  have hs:=trivial
  repeat' first|(with_reducible first|refine zz ?_|refine zE [0,1,2,3,4,5,6,8,15,17,18,19,20] ?_)|simp -dsimp[hs]|refine zp c1 ?_|refine i9 ?_ ?_<;>intro h<;>try simp only[i7] at h
  all_goals try clear hs
  refine i6 (ι:={ p:Nat×Nat×Bool // p.1≤D.length }) (fun p=>⟨31,[(6,.one (.vec 2 p.1.2.1 0 p.1.1)),(17,.one (.im (.sl (D.map T0)))),(18,iv (D.length:Int)),(19,iv (p.1.1:Int))],[.row ((j4 c).map .im),.vec 2 [] 0 true,.vec 1 (l7 (du D p.1.1)) p.1.2.1 p.1.2.2]⟩) (fun p=>D.length-p.1.1) ⟨(0,0,true),by simp⟩ (zv [6,17,18,19] (by simp[l7,du])) ?_
  rintro⟨⟨k,g,nl⟩,hk1⟩
  simp only at hk1
  simp only[iv]
  by_cases hlt:k<D.length
  ·have hw:=zk k
   have hx0:D[k]?=some D[k]:=by simp[hlt]
   have c4:=c3 D[k] (List.getElem_mem hlt)
   have e1:=sP hlt
   have hll:=ni (D:=D) hk1
   generalize hx:D[k]=d at *
   generalize du D k=L at *
   generalize W9 d=f at *
   have htk:List.take k (l7 L)=l7 L:=List.take_of_length_le (by simp[l7,hll])
   have hs:=za hx (za hx0 (za hlt (za hw (za htk hll))))
   repeat' first|(with_reducible first|refine zz ?_|refine And.intro (by omega) ?_|refine zE [0,1,2,3,4,5,6,8,15,17,18,19,20] ?_)|simp -dsimp[hs]|refine zp c4 ?_|refine i9 ?_ ?_<;>intro h<;>try simp only[i7] at h
   all_goals try clear hs
   all_goals exact zn ⟨(k+1,g+1,false),by simp only;omega⟩ (zw [6,17,18,19] 3 (by simp[e1,htk,hll,fj]))
  ·obtain rfl:k=D.length:=by omega
   have hll:=ni (D:=D) (Nat.le_refl _)
   rw[← wr] at c2
   generalize du D D.length=L at *
   have htk:List.take D.length (l7 L)=l7 L:=List.take_of_length_le (by simp[l7,hll])
   have hs:=za hlt (za htk hll)
   repeat' first|(with_reducible first|refine zz ?_|refine zr ?_|refine zE [0,1,2,3,4,5,6,8,15,17,18,19,20] ?_)|simp -dsimp[hs]|refine CallE.freeze 0 (c2 []) ?_ ?_ ?_ ?_ ?_ ?_;(focus simp;done);(focus simp[htk,hll];done);(focus simp;done);(focus rfl);(focus simp;done);try simp -dsimp[r5]|refine i9 ?_ ?_<;>intro h<;>try simp only[i7] at h
   all_goals try clear hs
 ·have hO:sO c=[]:=by unfold sO;rw[if_neg h0]
  rw[hO]
  simp only[n5,j4,ae,List.map_cons,List.map_nil] at c1 ⊢
  have hs:=h0
  repeat' first|(with_reducible first|refine zz ?_|refine zr ?_|refine zE [0,1,2,3,4,5,6,8,15,17,18,19,20] ?_)|simp -dsimp[hs]|refine zp c1 ?_|refine i9 ?_ ?_<;>intro h<;>try simp only[i7] at h
  all_goals try clear hs
end Go.Proofs
namespace Go.Ab
open Go
def eG (L:List J4):Int:=if (true,true)∈L then 2 else if (true,false)∈L∨(false,true)∈L then 1 else 0
def gg:List J4→Int→Int
 | [],n=>n
 | f :: r,n=>gg r (if f=(false,false) then n else if f=(true,true) then 2 else max n 1)
theorem Z2:∀ (L:List J4) (n:Int),(n=0∨n=1∨n=2)→gg L n=if n=2∨(true,true)∈L then 2 else if n=1∨(true,false)∈L∨(false,true)∈L then 1 else 0
 | [],n,h=>by simp[gg];omega
 | ⟨a,b⟩ :: r,n,h=>by
   rw[gg]
   cases a<;>cases b
   ·rw[if_pos rfl,Z2 r n h];simp
   ·rw[if_neg (by simp),if_neg (by simp),Z2 r _ (by omega)]
    rcases h with rfl|rfl|rfl<;>simp[show max (0:Int) 1=1 from rfl,show max (1:Int) 1=1 from rfl,show max (2:Int) 1=2 from rfl]
   ·rw[if_neg (by simp),if_neg (by simp),Z2 r _ (by omega)]
    rcases h with rfl|rfl|rfl<;>simp[show max (0:Int) 1=1 from rfl,show max (1:Int) 1=1 from rfl,show max (2:Int) 1=2 from rfl]
   ·rw[if_neg (by simp),if_pos rfl,Z2 r _ (by omega)]
    simp
theorem sd (L:List J4):gg L 0=eG L:=by
 rw[Z2 L 0 (.inl rfl)]
 unfold eG
 simp
def eU (F:List (List J4)) (k:Nat):Int:=((F.take k).map eG).sum
def eH (d:Desk):Int:=(if d.notes=true then 1 else 0)+(d.faults.map eG).sum
theorem jj (L:List J4):0≤eG L∧eG L≤2:=by unfold eG;split<;>(try split)<;>omega
theorem mD {F:List (List J4)} {k:Nat} (h:k<F.length):eU F (k+1)=eU F k+eG F[k]:=by
 unfold eU
 rw[List.take_succ_eq_append_getElem h,List.map_append,List.sum_append]
 simp
theorem kx (F:List (List J4)):∀ k:Nat,0≤eU F k∧eU F k≤2*k
 | 0=>by simp[eU]
 | k+1=>by
   have:=kx F k
   by_cases h:k<F.length
   ·have h2:=jj F[k]
    rw[mD h];omega
   ·have:eU F (k+1)=eU F k:=by unfold eU;rw[List.take_of_length_le (by omega),List.take_of_length_le (by omega)]
    omega
def vK:List Int→Int
 | []=>0
 | x :: r=>r.foldl min x
def vL:List Int→Int
 | []=>0
 | x :: r=>r.foldl max x
end Go.Ab
namespace Go.Proofs
open Go Go.Ab
variable {G:Kc}
attribute [simp] q8 bF r5 w7 nilV H8 ZK
theorem EZ (L:List Int) (hne:L≠[]) (hl:L.length<1000000):zP Tryz.prog G 88 [r7 L] (iv (vK L)):=by
 refine zf Tryz.func88 Tryz.ntmps88 ?_
 try simp only[r7]
 obtain⟨x0,r0,rfl⟩:∃ x r,L=x :: r:=by
  cases L with
  | nil=>exact absurd rfl hne
  | cons x r=>exact⟨x,r,rfl⟩
 have hE:vK (x0 :: r0)=((x0 :: r0).drop 1).foldl min x0:=rfl
 have hl1:¬ ((x0 :: r0).length:Int)<1:=by simp;omega
 have hlp:0<(x0 :: r0).length:=by simp
 have hx1:(x0 :: r0)[0]?=some x0:=rfl
 have hx2:(x0 :: r0)[0]=x0:=rfl
 have hk1:1≤(x0 :: r0).length:=hlp
 generalize (x0 :: r0)=L at *
 generalize vK L=res at *
 have hs:=za hl1 (za hx1 (za hx2 hlp))
 repeat' first|(with_reducible first|refine zz ?_|refine zE [0,2,3,4,7,15] ?_)|simp -dsimp[hs]|refine i9 ?_ ?_<;>intro h<;>try simp only[i7] at h
 refine i6 (ι:={ p:Nat×Int // 1≤p.1∧p.1≤L.length∧res=(L.drop p.1).foldl min p.2 }) (fun p=>⟨25,[(0,r7 L),(3,iv p.1.2),(4,iv (p.1.1:Int))],[]⟩) (fun p=>L.length-p.1.1) ⟨(1,x0),Nat.le_refl _,hk1,hE⟩ (zw [0,3,4] 0) ?_
 rintro⟨⟨k,m⟩,hk1',hk,hE2⟩
 simp only at hk1' hk hE2
 simp only[iv,r7]
 by_cases hlt:k<L.length
 ·have hlt':(k:Int)<L.length:=by omega
  have hw:=zk k
  have hx:L[k]?=some L[k]:=by simp[hlt]
  rw[List.drop_eq_getElem_cons hlt,List.foldl_cons] at hE2
  generalize hy:L[k]=y at *
  have hs:=za hx (za hy (za hlt (za hlt' hw)))
  repeat' first|(with_reducible first|refine zz ?_|refine zE [0,2,3,4,7,15] ?_)|simp -dsimp[hs]|refine i9 ?_ ?_<;>intro h<;>try simp only[i7] at h
  all_goals exact zn ⟨(k+1,min m y),by simp,by simp only;omega,hE2⟩ (zw [0,3,4] 0)
 ·have hlt':¬ (k:Int)<L.length:=by omega
  rw[List.drop_eq_nil_of_le (by omega)] at hE2
  have hE3:res=m:=hE2
  have hs:=za hlt hlt'
  repeat' first|(with_reducible first|refine zz ?_|refine zr ?_|refine zE [0,2,3,4,7,15] ?_)|simp -dsimp[hs]|refine i9 ?_ ?_<;>intro h<;>try simp only[i7] at h
  all_goals simp[hE3]
theorem Fb (L:List Int) (hne:L≠[]) (hl:L.length<1000000):zP Tryz.prog G 89 [r7 L] (iv (vL L)):=by
 refine zf Tryz.func89 Tryz.ntmps89 ?_
 try simp only[r7]
 obtain⟨x0,r0,rfl⟩:∃ x r,L=x :: r:=by
  cases L with
  | nil=>exact absurd rfl hne
  | cons x r=>exact⟨x,r,rfl⟩
 have hE:vL (x0 :: r0)=((x0 :: r0).drop 1).foldl max x0:=rfl
 have hl1:¬ ((x0 :: r0).length:Int)<1:=by simp;omega
 have hlp:0<(x0 :: r0).length:=by simp
 have hx1:(x0 :: r0)[0]?=some x0:=rfl
 have hx2:(x0 :: r0)[0]=x0:=rfl
 have hk1:1≤(x0 :: r0).length:=hlp
 generalize (x0 :: r0)=L at *
 generalize vL L=res at *
 have hs:=za hl1 (za hx1 (za hx2 hlp))
 repeat' first|(with_reducible first|refine zz ?_|refine zE [0,2,3,4,7,15] ?_)|simp -dsimp[hs]|refine i9 ?_ ?_<;>intro h<;>try simp only[i7] at h
 refine i6 (ι:={ p:Nat×Int // 1≤p.1∧p.1≤L.length∧res=(L.drop p.1).foldl max p.2 }) (fun p=>⟨25,[(0,r7 L),(3,iv p.1.2),(4,iv (p.1.1:Int))],[]⟩) (fun p=>L.length-p.1.1) ⟨(1,x0),Nat.le_refl _,hk1,hE⟩ (zw [0,3,4] 0) ?_
 rintro⟨⟨k,m⟩,hk1',hk,hE2⟩
 simp only at hk1' hk hE2
 simp only[iv,r7]
 by_cases hlt:k<L.length
 ·have hlt':(k:Int)<L.length:=by omega
  have hw:=zk k
  have hx:L[k]?=some L[k]:=by simp[hlt]
  rw[List.drop_eq_getElem_cons hlt,List.foldl_cons] at hE2
  generalize hy:L[k]=y at *
  have hs:=za hx (za hy (za hlt (za hlt' hw)))
  repeat' first|(with_reducible first|refine zz ?_|refine zE [0,2,3,4,7,15] ?_)|simp -dsimp[hs]|refine i9 ?_ ?_<;>intro h<;>try simp only[i7] at h
  all_goals exact zn ⟨(k+1,max m y),by simp,by simp only;omega,hE2⟩ (zw [0,3,4] 0)
 ·have hlt':¬ (k:Int)<L.length:=by omega
  rw[List.drop_eq_nil_of_le (by omega)] at hE2
  have hE3:res=m:=hE2
  have hs:=za hlt hlt'
  repeat' first|(with_reducible first|refine zz ?_|refine zr ?_|refine zE [0,2,3,4,7,15] ?_)|simp -dsimp[hs]|refine i9 ?_ ?_<;>intro h<;>try simp only[i7] at h
  all_goals simp[hE3]
def yP (D:List Desk) (k:Nat):List Int:=(D.take k).map fun d=>((W9 d).length:Int)
def zD (D:List Desk) (k:Nat):List Int:=(D.take k).map eH
theorem yO {D:List Desk} {k:Nat} (h:k<D.length):yP D (k+1)=yP D k++[((W9 D[k]).length:Int)]:=by
 unfold yP;rw[List.take_succ_eq_append_getElem h,List.map_append];rfl
theorem zC {D:List Desk} {k:Nat} (h:k<D.length):zD D (k+1)=zD D k++[eH D[k]]:=by
 unfold zD;rw[List.take_succ_eq_append_getElem h,List.map_append];rfl
theorem ul {D:List Desk} {k:Nat} (h:k≤D.length):(yP D k).length=k:=by simp[yP];omega
theorem ut {D:List Desk} {k:Nat} (h:k≤D.length):(zD D k).length=k:=by simp[zD];omega
theorem vI (d:Desk) (z:Int) (h:(if d.notes=true then 1 else 0)=z):z+eU d.faults d.faults.length=eH d:=by
 unfold eH eU;rw[List.take_length,h]
noncomputable def qy (c:Case):Int×Int:=if J9 c=0 then (vK ((n9 c).map fun d=>((W9 d).length:Int)),vL ((n9 c).map eH)) else (0,0)
theorem AM (c:Case) (hG:o3 G) (hN:C7 G) (hS:u3 G) (hU:V2 G) (hR:v6 G) (hC:L6 G) (hF:jI G) (hk:KC c):zP Tryz.prog G 30 [n5 c] (.tup [D3 (qy c).1 (qy c).2,iv (J9 c)]):=by
 refine zf Tryz.func30 Tryz.ntmps30 ?_
 try simp only[iv]
 have g1:G 0=some [.raw (.bool false),.raw (.bool false)]:=hF.1
 have c1:=ej (G:=G) c hG hN hS hR hC hk
 have hq:=hk.q
 by_cases h0:J9 c=0
 ·rw[h0,show oY c=n9 c by unfold oY;rw[if_pos h0]] at c1
  have hdl:=bw (S4 h0).1
  have hdk:=af hk
  have c3:=fun d (h:d∈n9 c)=>qg (G:=G) d c.pieces.length (af hk d h) (by omega) (qr (S4 h0).1 d h) hF hU
  have hO:qy c=(vK ((n9 c).map fun d=>((W9 d).length:Int)),vL ((n9 c).map eH)):=by unfold qy;rw[if_pos h0]
  have hne:∀ f:Desk→Int,(n9 c).map f≠[]:=fun f e=>by have:=congrArg List.length e;simp at this;rw[this] at hdl;simp at hdl
  have c4:=EZ (G:=G) ((n9 c).map fun d=>((W9 d).length:Int)) (hne _) (by simp;omega)
  have c5:=Fb (G:=G) ((n9 c).map eH) (hne _) (by simp;omega)
  rw[h0,hO]
  generalize vK ((n9 c).map fun d=>((W9 d).length:Int))=r1 at *
  generalize vL ((n9 c).map eH)=r2 at *
  clear hne hO
  generalize n9 c=D at *
  simp only[n5,j4,jJ,ae,C5,List.map_cons,List.map_nil] at c1 c3 ⊢
  have hs:=trivial
  repeat' first|(with_reducible first|refine zz ?_|refine zE [0,1,2,3,4,5,6,7,9,10,12,13,15,22,25,26,27,28,34,38,39,40,41,44,45,46,47,52,60] ?_)|simp -dsimp[hs]|refine zp c1 ?_|refine i9 ?_ ?_<;>intro h<;>try simp only[i7] at h
  all_goals try clear hs
  refine i6 (ι:={ p:Nat×Nat×Bool×Nat×Bool // p.1≤D.length }) (fun p=>⟨82,[(2,.one (.ptr 1 0)),(3,iv 0),(6,.one (.vec 2 p.1.2.1 0 p.1.1)),(7,.one (.vec 3 p.1.2.2.2.1 0 p.1.1)),(25,.one (.im (.sl (D.map T0)))),(26,iv (D.length:Int)),(27,iv (p.1.1:Int))],[.row ((j4 c).map .im),.row [.im (rI 0),.im (rI 0)],.vec 1 (l7 ((yP D p.1.1).map Ab.encI)) p.1.2.1 p.1.2.2.1,.vec 1 (l7 ((zD D p.1.1).map Ab.encI)) p.1.2.2.2.1 p.1.2.2.2.2]⟩) (fun p=>D.length-p.1.1) ⟨(0,0,true,0,true),by simp⟩ (zv [2,3,6,7,25,26,27] (by simp[l7,yP,zD])) ?_
  rintro⟨⟨k,ga,na,gb,nb⟩,hk1⟩
  simp only at hk1
  simp only[iv]
  by_cases hlt:k<D.length
  ·have hw:=zk k
   have hx0:D[k]?=some D[k]:=by simp[hlt]
   have c6:=c3 D[k] (List.getElem_mem hlt)
   have hdd:=hdk D[k] (List.getElem_mem hlt)
   have e1:=yO hlt
   have e2:=zC hlt
   have hl1:=ul (D:=D) hk1
   have hl2:=ut (D:=D) hk1
   generalize hx:D[k]=d at *
   generalize yP D k=L1 at *
   generalize zD D k=L2 at *
   have hma:=vI d
   have hF0:eU d.faults 0=0:=by simp[eU]
   have hdn:=hdd.n
   have htk1:List.take k (l7 (L1.map Ab.encI))=l7 (L1.map Ab.encI):=List.take_of_length_le (by simp[l7,hl1])
   have htk2:List.take k (l7 (L2.map Ab.encI))=l7 (L2.map Ab.encI):=List.take_of_length_le (by simp[l7,hl2])
   generalize W9 d=fl at *
   simp only[aA,R5] at c6
   obtain⟨Z,hZ⟩:∃ Z:Int,(if d.notes=true then 1 else 0)=Z:=⟨_,rfl⟩
   have hma:=hma Z hZ
   have hZr:0≤Z∧Z≤1:=by rw[← hZ];split<;>omega
   have hs:True:=trivial
   cases hnt:d.notes
   all_goals
    rw[hnt] at hZ
    simp only[Bool.false_eq_true,if_false,if_true] at hZ
    replace hZ:=hZ.symm
    have hs:=za hx (za hx0 (za hlt hnt))
    repeat' first|(with_reducible first|refine zz ?_|refine zE [0,1,2,3,4,5,6,7,9,10,12,13,15,22,25,26,27,28,34,38,39,40,41,44,45,46,47,52,60] ?_)|simp -dsimp[T0,aA,R5,hs]|refine i9 ?_ ?_<;>intro h<;>try simp only[i7] at h
    all_goals try clear hs
   all_goals
    refine i6 (ι:={ q:Nat // q≤d.faults.length }) (fun q=>⟨82,[(2,.one (.ptr 1 0)),(3,iv 0),(6,.one (.vec 2 ga 0 k)),(7,.one (.vec 3 gb 0 k)),(9,.one (.im (.ip (j4 d.c++[.raw (.bool d.notes),.sl (d.faults.map J3)])))),(10,iv (Z+eU d.faults q.1)),(25,.one (.im (.sl (D.map T0)))),(26,iv (D.length:Int)),(27,iv (k:Int)),(38,.one (.im (.sl (d.faults.map J3)))),(39,iv (d.faults.length:Int)),(40,iv (q.1:Int))],[.row ((j4 c).map .im),.row [.im (rI 0),.im (rI 0)],.vec 1 (l7 (L1.map Ab.encI)) ga na,.vec 1 (l7 (L2.map Ab.encI)) gb nb]⟩) (fun q=>d.faults.length-q.1) ⟨0,by simp⟩ (zv [2,3,6,7,9,10,25,26,27,38,39,40] (by simp[hnt,hF0,hZ])) ?_
    clear hnt hZ
    rintro⟨q,hq1⟩
    simp only[iv]
    have hsr:=kx d.faults q
    by_cases hlq:q<d.faults.length
    ·have hwq:=zk q
     have hy0:d.faults[q]?=some d.faults[q]:=by simp[hlq]
     have hst:=mD hlq
     have hfl:=hdd.l _ (List.getElem_mem hlq)
     generalize hy:d.faults[q]=y at *
     have hmz:=sd y
     have hmr:=jj y
     generalize eU d.faults q=S at *
     have hwS:IntKind.i64.wrap (Z+S+eG y)=Z+S+eG y:=o4 (by omega) (by omega)
     rw[← hmz] at hst hwS
     clear hmz hmr
     have hs:=za hy (za hy0 hlq)
     repeat' first|(with_reducible first|refine zz ?_|refine zE [0,1,2,3,4,5,6,7,9,10,12,13,15,22,25,26,27,28,34,38,39,40,41,44,45,46,47,52,60] ?_)|simp -dsimp[hs]|refine i9 ?_ ?_<;>intro h<;>try simp only[i7] at h
     all_goals try clear hs
     refine i6 (ι:={ p:Nat×Int // p.1≤y.length∧(p.2=0∨p.2=1∨p.2=2)∧gg y 0=gg (y.drop p.1) p.2 }) (fun p=>⟨82,[(2,.one (.ptr 1 0)),(3,iv 0),(6,.one (.vec 2 ga 0 k)),(7,.one (.vec 3 gb 0 k)),(9,.one (.im (.ip (j4 d.c++[.raw (.bool d.notes),.sl (d.faults.map J3)])))),(10,iv (Z+S)),(13,iv p.1.2),(25,.one (.im (.sl (D.map T0)))),(26,iv (D.length:Int)),(27,iv (k:Int)),(38,.one (.im (.sl (d.faults.map J3)))),(39,iv (d.faults.length:Int)),(40,iv (q:Int)),(44,.one (.im (.sl (y.map C3)))),(45,iv (y.length:Int)),(46,iv (p.1.1:Int))],[.row ((j4 c).map .im),.row [.im (rI 0),.im (rI 0)],.vec 1 (l7 (L1.map Ab.encI)) ga na,.vec 1 (l7 (L2.map Ab.encI)) gb nb]⟩) (fun p=>y.length-p.1.1) ⟨(0,0),by simp⟩ (zv [2,3,6,7,9,10,13,25,26,27,38,39,40,44,45,46]) ?_
     rintro⟨⟨j,n⟩,hj,hn3,hE⟩
     simp only at hj hn3 hE
     simp only[iv]
     by_cases hlj:j<y.length
     ·have hwj:=zk j
      have hv0:y[j]?=some y[j]:=by simp[hlj]
      have hE2:=hE
      rw[List.drop_eq_getElem_cons hlj,gg] at hE2
      generalize hv:y[j]=v at *
      obtain⟨v1,v2⟩:=v
      have hm1:max n 1=1∨max n 1=2:=by omega
      have hs:True:=trivial
      cases v1<;>cases v2
      all_goals
       simp at hE2
       have hs:=za hv (za hv0 (za hlj (za hwj g1)))
       repeat' first|(with_reducible first|refine zz ?_|refine zE [0,1,2,3,4,5,6,7,9,10,12,13,15,22,25,26,27,28,34,38,39,40,41,44,45,46,47,52,60] ?_)|simp -dsimp[hs]|refine i9 ?_ ?_<;>intro h<;>try simp only[i7] at h
       all_goals try clear hs
      ·exact zn ⟨(j+1,n),by omega,hn3,hE2⟩ (zw [2,3,6,7,9,10,13,25,26,27,38,39,40,44,45,46] 4)
      ·exact zn ⟨(j+1,max n 1),by omega,by omega,hE2⟩ (zw [2,3,6,7,9,10,13,25,26,27,38,39,40,44,45,46] 4)
      ·exact zn ⟨(j+1,max n 1),by omega,by omega,hE2⟩ (zw [2,3,6,7,9,10,13,25,26,27,38,39,40,44,45,46] 4)
      ·exact zn ⟨(j+1,2),by omega,.inr (.inr rfl),hE2⟩ (zw [2,3,6,7,9,10,13,25,26,27,38,39,40,44,45,46] 4)
     ·have hE2:=hE
      rw[List.drop_eq_nil_of_le (by omega)] at hE2
      have hE3:gg y 0=n:=hE2
      rw[hE3] at hst hwS
      have hs:=za hlj (za hwq hwS)
      repeat' first|(with_reducible first|refine zz ?_|refine zE [0,1,2,3,4,5,6,7,9,10,12,13,15,22,25,26,27,28,34,38,39,40,41,44,45,46,47,52,60] ?_)|simp -dsimp[hs]|refine i9 ?_ ?_<;>intro h<;>try simp only[i7] at h
      all_goals try clear hs
      all_goals exact zn ⟨q+1,by omega⟩ (zw [2,3,6,7,9,10,25,26,27,38,39,40] 4 (by simp[hst,Int.add_assoc]))
    ·obtain rfl:q=d.faults.length:=by omega
     rw[hma]
     generalize eH d=M at *
     have hs:=za hlq (za hw (za htk1 (za htk2 (za hl1 hl2))))
     repeat' first|(with_reducible first|refine zz ?_|refine And.intro (by omega) ?_|refine zE [0,1,2,3,4,5,6,7,9,10,12,13,15,22,25,26,27,28,34,38,39,40,41,44,45,46,47,52,60] ?_)|simp -dsimp[hs]|refine zp c6 ?_|refine i9 ?_ ?_<;>intro h<;>try simp only[i7] at h
     all_goals try clear hs
     all_goals exact zn ⟨(k+1,ga+1,false,gb+1,false),by simp only;omega⟩ (zw [2,3,6,7,25,26,27] 4 (by simp[e1,e2,htk1,htk2,hl1,hl2]))
  ·obtain rfl:k=D.length:=by omega
   have hl1:=ul (D:=D) hk1
   have hl2:=ut (D:=D) hk1
   have hE1:(D.map fun d=>((W9 d).length:Int))=yP D D.length:=by simp[yP]
   have hE2:D.map eH=zD D D.length:=by simp[zD]
   rw[hE1] at c4
   rw[hE2] at c5
   generalize yP D D.length=L1 at *
   generalize zD D D.length=L2 at *
   have htk1:List.take D.length (l7 (L1.map Ab.encI))=l7 (L1.map Ab.encI):=List.take_of_length_le (by simp[l7,hl1])
   have htk2:List.take D.length (l7 (L2.map Ab.encI))=l7 (L2.map Ab.encI):=List.take_of_length_le (by simp[l7,hl2])
   simp only[r7] at c4 c5
   have hs:=za hlt (za htk1 (za htk2 (za hl1 hl2)))
   repeat' first|(with_reducible first|refine zz ?_|refine zr ?_|refine zE [0,1,2,3,4,5,6,7,9,10,12,13,15,22,25,26,27,28,34,38,39,40,41,44,45,46,47,52,60] ?_)|simp -dsimp[hs]|refine CallE.thaw c4 ?_ ?_ ?_;(focus simp[htk1,hl1];done);(focus simp;done)|refine CallE.thaw c5 ?_ ?_ ?_;(focus simp[htk2,hl2];done);(focus simp;done)|refine i9 ?_ ?_<;>intro h<;>try simp only[i7] at h
   all_goals try clear hs
 ·have hO:qy c=(0,0):=by unfold qy;rw[if_neg h0]
  rw[hO]
  simp only[n5,j4,ae,D3,List.map_cons,List.map_nil] at c1 ⊢
  have hs:=h0
  repeat' first|(with_reducible first|refine zz ?_|refine zr ?_|refine zE [0,1,2,3,4,5,6,7,9,10,12,13,15,22,25,26,27,28,34,38,39,40,41,44,45,46,47,52,60] ?_)|simp -dsimp[hs]|refine zp c1 ?_|refine i9 ?_ ?_<;>intro h<;>try simp only[i7] at h
  all_goals try clear hs
end Go.Proofs
namespace Go.Ab
open Go
end Go.Ab
namespace Go.Proofs
open Go Go.Ab
variable {G:Kc}
attribute [simp] q8 bF r5 w7 nilV H8 ZK
end Go.Proofs
namespace Go.Proofs
open Go Go.Ab
variable {G:Kc}
attribute [simp] q8 bF r5 w7 nilV H8 ZK
open Go Go.Ab Tryz
attribute [simp] q8 bF r5 w7 nilV H8 ZK
theorem mI (l:List Susp) (hl:l.length<100000):zP prog G 23 [C5 l,C5 l] (bv true):=by
 refine zf func23 ntmps23 ?_
 try simp only[iv]
 simp only[C5]
 have hs:=trivial
 repeat' first|(with_reducible first|refine zz ?_|refine zE [0,1,4,5,10,14,25] ?_)|simp -dsimp[hs]|refine i9 ?_ ?_<;>intro h<;>try simp only[i7] at h
 refine i6 (ι:={ k:Nat // k≤l.length }) (fun p=>⟨26,[(0,.one (.im (.sl (l.map j9)))),(1,.one (.im (.sl (l.map j9)))),(5,iv (p.1:Int))],[]⟩) (fun p=>l.length-p.1) ⟨0,by simp⟩ (zv [0,1,5]) ?_
 rintro⟨k,hk⟩
 simp only[iv]
 by_cases hlt:k<l.length
 ·have hlt':(k:Int)<l.length:=by omega
  have hw:=zk k
  generalize hx:l[k]=x at *
  have hs:=za hx (za hlt (za hlt' hw))
  repeat' first|with_reducible refine zz ?_|simp -dsimp[hs]|refine zM 6 26 9 [0,1,4,5,10,14,25] ?_|with_reducible refine zE [0,1,4,5,10,14,25] ?_|refine i9 ?_ ?_<;>intro h<;>try simp only[i7] at h
  all_goals exact zn ⟨k+1,by omega⟩ (zv [0,1,5])
 ·obtain rfl:k=l.length:=by omega
  have hlt':¬ (l.length:Int)<l.length:=by omega
  have hs:=za hlt hlt'
  repeat' first|(with_reducible first|refine zz ?_|refine zr ?_|refine zE [0,1,4,5,10,14,25] ?_)|simp -dsimp[hs]|refine i9 ?_ ?_<;>intro h<;>try simp only[i7] at h
attribute [simp] q8 bF r5 w7 nilV H8 ZK
attribute [simp] q8 bF r5 w7 nilV H8 ZK
structure TrOk (c:Case) (T:List (List Int)):Prop where
 h:∀ t∈T,G7 (j6 (j8 c.p.n.notes)) t=true∧t.length<1000
 l:T.length≤32
 p:1≤T.length
attribute [simp] q8 bF r5 w7 nilV H8 ZK
end Go.Proofs
namespace Go.Ab
open Go
abbrev Q4:=DObj×DObj×DObj×DObj
abbrev Q2:=DObj×DObj
def F0 (F:Nat→Q4):Nat→List DObj
 | 0=>[]
 | n+1=>F0 F n++[(F n).1,(F n).2.1,(F n).2.2.1,(F n).2.2.2]
def I5 (F:Nat→Q2):Nat→List DObj
 | 0=>[]
 | n+1=>I5 F n++[(F n).1,(F n).2]
@[simp] theorem dY (F:Nat→Q4):∀ n,(F0 F n).length=4*n
 | 0=>rfl
 | n+1=>by simp[F0,dY F n];omega
@[simp] theorem dZ (F:Nat→Q2):∀ n,(I5 F n).length=2*n
 | 0=>rfl
 | n+1=>by simp[I5,dZ F n];omega
theorem iN (F:Nat→Q4) {i j:Nat} (hj:j<4):∀ {n},i<n→(F0 F n)[4*i+j]?=[(F i).1,(F i).2.1,(F i).2.2.1,(F i).2.2.2][j]?
 | n+1,h=>by
   rw[F0]
   rcases Nat.eq_or_lt_of_le (Nat.le_of_lt_succ h) with rfl|h1
   ·rw[List.getElem?_append_right (by simp),dY,Nat.add_sub_cancel_left]
   ·rw[List.getElem?_append_left (by simp;omega)];exact iN F hj h1
theorem ng (F:Nat→Q2) {i j:Nat} (hj:j<2):∀ {n},i<n→(I5 F n)[2*i+j]?=[(F i).1,(F i).2][j]?
 | n+1,h=>by
   rw[I5]
   rcases Nat.eq_or_lt_of_le (Nat.le_of_lt_succ h) with rfl|h1
   ·rw[List.getElem?_append_right (by simp),dZ,Nat.add_sub_cancel_left]
   ·rw[List.getElem?_append_left (by simp;omega)];exact ng F hj h1
@[simp] theorem mZ (f:DObj→DObj) (F:Nat→Q4):∀ n,(F0 F n).map f=F0 (fun k=>(f (F k).1,f (F k).2.1,f (F k).2.2.1,f (F k).2.2.2)) n
 | 0=>rfl
 | n+1=>by simp[F0,mZ f F n]
@[simp] theorem nf (f:DObj→DObj) (F:Nat→Q2):∀ n,(I5 F n).map f=I5 (fun k=>(f (F k).1,f (F k).2)) n
 | 0=>rfl
 | n+1=>by simp[I5,nf f F n]
theorem dl {F H:Nat→Q4}:∀ {n},(∀ k,k<n→F k=H k)→F0 F n=F0 H n
 | 0,_=>rfl
 | n+1,h=>by rw[F0,F0,dl fun k hk=>h k (by omega),h n (by omega)]
theorem dm {F H:Nat→Q2}:∀ {n},(∀ k,k<n→F k=H k)→I5 F n=I5 H n
 | 0,_=>rfl
 | n+1,h=>by rw[I5,I5,dm fun k hk=>h k (by omega),h n (by omega)]
@[simp] theorem nc (F:Nat→Q4) (n j:Nat) (R:List DObj):(F0 F n++R)[4*n+j]?=R[j]?:=by
 rw[List.getElem?_append_right (by simp),dY,Nat.add_sub_cancel_left]
@[simp] theorem Fy (F:Nat→Q4) (n:Nat) (R:List DObj):(F0 F n++R)[4*n]?=R[0]?:=by
 have:=nc F n 0 R;simpa using this
@[simp] theorem Fx (F:Nat→Q4) (n a j:Nat) (R:List DObj):(F0 F n++R)[4*n+a+j]?=R[a+j]?:=by
 rw[Nat.add_assoc,nc]
@[simp] theorem wp (F:Nat→Q2) (n j:Nat) (R:List DObj):(I5 F n++R)[2*n+j]?=R[j]?:=by
 rw[List.getElem?_append_right (by simp),dZ,Nat.add_sub_cancel_left]
@[simp] theorem FA (F:Nat→Q2) (n:Nat) (R:List DObj):(I5 F n++R)[2*n]?=R[0]?:=by
 have:=wp F n 0 R;simpa using this
@[simp] theorem sK (F:Nat→Q4) (n j:Nat) (R:List DObj) (d:DObj):(F0 F n++R).set (4*n+j) d=F0 F n++R.set j d:=by
 rw[List.set_append_right _ _ (by simp),dY,Nat.add_sub_cancel_left]
@[simp] theorem DY (F:Nat→Q4) (n a j:Nat) (R:List DObj) (d:DObj):(F0 F n++R).set (4*n+a+j) d=F0 F n++R.set (a+j) d:=by
 rw[Nat.add_assoc,sK]
@[simp] theorem Fz (F:Nat→Q2) (n j:Nat) (R:List DObj) (d:DObj):(I5 F n++R).set (2*n+j) d=I5 F n++R.set j d:=by
 rw[List.set_append_right _ _ (by simp),dZ,Nat.add_sub_cancel_left]
end Go.Ab
namespace Go.Proofs
open Go Go.Ab
variable {G:Kc}
def E6 (P:Program) (G:Kc) (f sz:Nat) (l:List (List IC)):Prop:=DCall P G f [.one (.im (.sl l))] [] (fun d o=>∃ i:Nat×Bool,(i.2=true→l=[])∧d=.one (.vec 1 i.1 0 l.length)∧o=[.vec sz [] 0 true,.vec sz (l7 l) i.1 i.2])
theorem HN (l:List Issue) (hl:l.length<1000):E6 Tryz.prog G 158 5 (l.map e9):=by
 unfold E6
 refine g9 Tryz.func158 rfl Tryz.ntmps158 (by simp) rfl ?_
 repeat' first|(with_reducible first|refine zz ?_|refine And.intro (by omega) ?_|refine zx ?_|refine zE [0,2,4] ?_)|simp -dsimp|refine i9 ?_ ?_<;>intro h<;>try simp only[i7] at h|with_reducible refine T8 (fun h=>?_);(try simp only[List.map_eq_nil_iff] at h);(try subst h);try simp -dsimp|with_reducible refine And.intro ?_ ?_
theorem FF (l:List Note) (hl:l.length<1000):E6 Tryz.prog G 108 10 (l.map l5):=by
 unfold E6
 refine g9 Tryz.func108 rfl Tryz.ntmps108 (by simp) rfl ?_
 repeat' first|(with_reducible first|refine zz ?_|refine And.intro (by omega) ?_|refine zx ?_|refine zE [0,2,4] ?_)|simp -dsimp|refine i9 ?_ ?_<;>intro h<;>try simp only[i7] at h|with_reducible refine T8 (fun h=>?_);(try simp only[List.map_eq_nil_iff] at h);(try subst h);try simp -dsimp|with_reducible refine And.intro ?_ ?_
theorem HM (l:List Itm) (hl:l.length<1000):E6 Tryz.prog G 109 2 (l.map A4):=by
 unfold E6
 refine g9 Tryz.func109 rfl Tryz.ntmps109 (by simp) rfl ?_
 repeat' first|(with_reducible first|refine zz ?_|refine And.intro (by omega) ?_|refine zx ?_|refine zE [0,2,4] ?_)|simp -dsimp|refine i9 ?_ ?_<;>intro h<;>try simp only[i7] at h|with_reducible refine T8 (fun h=>?_);(try simp only[List.map_eq_nil_iff] at h);(try subst h);try simp -dsimp|with_reducible refine And.intro ?_ ?_
theorem HP (l:List Dim) (hl:l.length<1000):E6 Tryz.prog G 110 3 (l.map D7):=by
 unfold E6
 refine g9 Tryz.func110 rfl Tryz.ntmps110 (by simp) rfl ?_
 repeat' first|(with_reducible first|refine zz ?_|refine And.intro (by omega) ?_|refine zx ?_|refine zE [0,2,4] ?_)|simp -dsimp|refine i9 ?_ ?_<;>intro h<;>try simp only[i7] at h|with_reducible refine T8 (fun h=>?_);(try simp only[List.map_eq_nil_iff] at h);(try subst h);try simp -dsimp|with_reducible refine And.intro ?_ ?_
theorem FH (l:List Holder) (hl:l.length<1000):E6 Tryz.prog G 159 4 (l.map o6):=by
 unfold E6
 refine g9 Tryz.func159 rfl Tryz.ntmps159 (by simp) rfl ?_
 repeat' first|(with_reducible first|refine zz ?_|refine And.intro (by omega) ?_|refine zx ?_|refine zE [0,2,4] ?_)|simp -dsimp|refine i9 ?_ ?_<;>intro h<;>try simp only[i7] at h|with_reducible refine T8 (fun h=>?_);(try simp only[List.map_eq_nil_iff] at h);(try subst h);try simp -dsimp|with_reducible refine And.intro ?_ ?_
theorem Dc (l:List Print) (hl:l.length<1000):E6 Tryz.prog G 160 7 (l.map w8):=by
 unfold E6
 refine g9 Tryz.func160 rfl Tryz.ntmps160 (by simp) rfl ?_
 repeat' first|(with_reducible first|refine zz ?_|refine And.intro (by omega) ?_|refine zx ?_|refine zE [0,2,4] ?_)|simp -dsimp|refine i9 ?_ ?_<;>intro h<;>try simp only[i7] at h|with_reducible refine T8 (fun h=>?_);(try simp only[List.map_eq_nil_iff] at h);(try subst h);try simp -dsimp|with_reducible refine And.intro ?_ ?_
theorem HO (l:List Int) (hl:l.length<1000):E6 Tryz.prog G 161 1 (l.map Ab.encI):=by
 unfold E6
 refine g9 Tryz.func161 rfl Tryz.ntmps161 (by simp) rfl ?_
 repeat' first|(with_reducible first|refine zz ?_|refine And.intro (by omega) ?_|refine zx ?_|refine zE [0,2,4] ?_)|simp -dsimp|refine i9 ?_ ?_<;>intro h<;>try simp only[i7] at h|with_reducible refine T8 (fun h=>?_);(try simp only[List.map_eq_nil_iff] at h);(try subst h);try simp -dsimp|with_reducible refine And.intro ?_ ?_
theorem FG (l:List Link) (hl:l.length<1000):E6 Tryz.prog G 162 3 (l.map F8):=by
 unfold E6
 refine g9 Tryz.func162 rfl Tryz.ntmps162 (by simp) rfl ?_
 repeat' first|(with_reducible first|refine zz ?_|refine And.intro (by omega) ?_|refine zx ?_|refine zE [0,2,4] ?_)|simp -dsimp|refine i9 ?_ ?_<;>intro h<;>try simp only[i7] at h|with_reducible refine T8 (fun h=>?_);(try simp only[List.map_eq_nil_iff] at h);(try subst h);try simp -dsimp|with_reducible refine And.intro ?_ ?_
theorem Dd (l:List Piece) (hl:l.length<1000):E6 Tryz.prog G 163 4 (l.map A2):=by
 unfold E6
 refine g9 Tryz.func163 rfl Tryz.ntmps163 (by simp) rfl ?_
 repeat' first|(with_reducible first|refine zz ?_|refine And.intro (by omega) ?_|refine zx ?_|refine zE [0,2,4] ?_)|simp -dsimp|refine i9 ?_ ?_<;>intro h<;>try simp only[i7] at h|with_reducible refine T8 (fun h=>?_);(try simp only[List.map_eq_nil_iff] at h);(try subst h);try simp -dsimp|with_reducible refine And.intro ?_ ?_
end Go.Proofs
