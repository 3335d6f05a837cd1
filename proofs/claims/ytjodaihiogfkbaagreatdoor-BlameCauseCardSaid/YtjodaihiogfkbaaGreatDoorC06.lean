/- Part 24 of the proofs. -/
import Derived.Test.YtjodaihiogfkbaaGreatDoorP09
import Derived.Test.YtjodaihiogfkbaaGreatDoorP16
import Derived.Test.YtjodaihiogfkbaaGreatDoorP18
import Derived.Test.YtjodaihiogfkbaaGreatDoorC02
import Derived.Test.YtjodaihiogfkbaaGreatDoorC05
set_option linter.all false
set_option linter.deprecated false
set_option maxHeartbeats 100000000
namespace Go.Proofs
open Go Go.Ab Tryz
variable {G:GW}
attribute [simp] u4 eq A3 C2 nilV N0 ZK
noncomputable def DF (c:Case):Susp→Int:=C3 (n7 c)
noncomputable def Ft (c:Case) (k:Int):List Susp:=(P4 c.pieces.length).filter fun s=>decide (DF c s=k)
noncomputable def db (c:Case) (k:Int):List Susp:=if J4 c=0 then Ft c k else []
theorem vG {n:Nat} {s:Susp} (h:s∈P4 n):cH n s∧0≤s.kind∧s.kind≤255:=by
 unfold cH
 rcases listS_mem.1 h with⟨_,rfl⟩|⟨i,h1,_,rfl⟩|⟨i,h1,_,rfl⟩
 ·simp
 ·simp[fw];omega
 ·simp[gJ];omega
theorem uk (n:Nat):(P4 n).Nodup:=(S7 _ _ _ _).imp fun {a b} h e=>by subst e;unfold G7 at h;omega
theorem iw (n:Nat):(P4 n).length≤1+2*n:=by
 have h1:=(I3 true (fun _=>true) (fun _=>true) n).length_eq
 have h2:=ao true (fun _=>true) (fun _=>true) n
 unfold P4;omega
theorem wN (c:Case) (s:Susp):0≤DF c s∧DF c s≤2:=by
 unfold DF C3
 split
 ·omega
 ·split<;>omega
theorem jJ (c:Case) (hG:q8 G) (hN:E6 G) (hS:w7 G) (hU:W5 G) (hR:w9 G) (hC:L9 G) (hK:cv G) (hk:KC c):zP prog G 21 [n3 c] (.tup [C1 (db c 2),C1 (db c 1),iv (J4 c)]):=by
 refine zf func21 ntmps21 ?_
 try simp only[iv]
 have c1:=eK (G:=G) c hG hN hS hR hC hk
 have hq:=hk.q
 by_cases h0:J4 c=0
 ·have c2:=kL (G:=G) c (by omega) hU
  rw[h0,show pN c=n7 c by unfold pN;rw[if_pos h0]] at c1
  have hdl:=ac (O1 h0).1
  have c3:=fun s (h:s∈P4 c.pieces.length)=>lI (G:=G) c.pieces.length (n7 c) s (vG h).1 hK (aE hk) (by omega)
  have hO:∀ k,db c k=(P4 c.pieces.length).filter fun s=>decide (DF c s=k):=fun k=>by unfold db;rw[if_pos h0];rfl
  rw[h0,hO,hO]
  have hfr:=wN c
  have hfe:∀ s,C3 (n7 c) s=DF c s:=fun s=>rfl
  simp only[hfe] at c3
  have hAn:=uk c.pieces.length
  have hAl:=iw c.pieces.length
  clear hfe hO
  generalize DF c=f at *
  generalize P4 c.pieces.length=A at *
  simp only[n3,j4,C7,j5,aD,C1,rI,List.map_cons,List.map_nil] at c1 c2 c3 ⊢
  have hs:=trivial
  repeat' first|(with_reducible first|refine zz ?_|refine zE [0,1,2,3,4,5,6,8,9,10,12,13,20,24,25,26,27,37,39,44,48,49,50,51,57,58,64] ?_)|simp -dsimp[hs]|refine zp c1 ?_|refine zp c2 ?_|refine i9 ?_ ?_<;>intro h<;>try simp only[i7] at h
  all_goals try clear hs
  refine i6 (ι:={ k:Nat // k≤A.length }) (fun p=>⟨73,[(1,.one (.ptr 0 0)),(2,.one (.vec 1 0 0 0)),(3,.one (.vec 2 0 0 0)),(4,iv 0),(5,.one (.im (.sl ((n7 c).map U2)))),(6,.one (.map 3)),(24,.one (.im (.sl (A.map j5)))),(25,iv (A.length:Int)),(26,iv (p.1:Int))],[.row ((j4 c).map .im),.vec 2 [] 0 true,.vec 2 [] 0 true,.map [.int .u8,.int .i64] (Y3 f (A.take p.1))]⟩) (fun p=>A.length-p.1) ⟨0,by simp⟩ (zv [1,2,3,4,5,6,24,25,26] (by simp[Y3])) ?_
  rintro⟨k,hk1⟩
  simp only[iv]
  by_cases hlt:k<A.length
  ·have hw:=zk k
   have hx0:A[k]?=some A[k]:=by simp[hlt]
   have c4:=c3 A[k] (List.getElem_mem hlt)
   have hts:A.take (k+1)=A.take k++[A[k]]:=List.take_succ_eq_append_getElem hlt
   have hnm:A[k]∉A.take k:=fun hm=>by
    obtain⟨j,hj⟩:=List.mem_iff_getElem?.1 hm
    have hjk:j<k:=by have:=e7 hj;rw[List.length_take] at this;omega
    rw[List.getElem?_take_of_lt hjk] at hj
    have:=(List.getElem?_inj (e7 hj) hAn).1 (hj.trans hx0.symm)
    omega
   have hset:=Af (f:=f) hnm
   rw[← hts] at hset
   generalize hx:A[k]=s at *
   have hs:=za hx (za hx0 (za hlt (za hw hset)))
   repeat' first|with_reducible refine zz ?_|simp -dsimp[hs]|refine zq c4 ?_|refine zM 8 73 5 [0,1,2,3,4,5,6,8,9,10,12,13,20,24,25,26,27,37,39,44,48,49,50,51,57,58,64] ?_|with_reducible refine zE [0,1,2,3,4,5,6,8,9,10,12,13,20,24,25,26,27,37,39,44,48,49,50,51,57,58,64] ?_|refine i9 ?_ ?_<;>intro h<;>try simp only[i7] at h
   all_goals try clear hs
   all_goals exact zn ⟨k+1,by omega⟩ (zw [1,2,3,4,5,6,24,25,26] 4)
  ·obtain rfl:k=A.length:=by omega
   simp only[List.take_length]
   have hs:=hlt
   repeat' first|(with_reducible first|refine zz ?_|refine zE [0,1,2,3,4,5,6,8,9,10,12,13,20,24,25,26,27,37,39,44,48,49,50,51,57,58,64] ?_)|simp -dsimp[hs]|refine i9 ?_ ?_<;>intro h<;>try simp only[i7] at h
   all_goals try clear hs
   intro l c0 b hll hln hlc
   rw[Bk] at hll
   have hP1:(A.zip l).map (·.1)=A:=List.map_fst_zip (by omega)
   have hP2:(A.zip l).map (·.2)=l:=List.map_snd_zip (by omega)
   have hPn:((A.zip l).map (·.2)).Nodup:=by rw[hP2];exact hln
   clear c1 c3 hlt hk1
   generalize A.zip l=P at *
   subst hP2
   have hAnP:(P.map (·.1)).Nodup:=by rw[hP1];exact hAn
   obtain⟨g,hg⟩:∃ g:Susp→Bool,g=fun s=>decide (f s≠0):=⟨_,rfl⟩
   have hs:=trivial
   repeat' first|with_reducible refine zz ?_|simp -dsimp[hs]
   all_goals try clear hs
   refine i6 (ι:={ p:List Nat×List Nat×List Susp // p.2.1=(S8 g P p.1).map (·.2)∧p.2.2=(S8 g P p.1).map (·.1) }) (fun p=>⟨73,[(1,.one (.ptr 0 0)),(2,.one (.vec 1 0 0 0)),(3,.one (.vec 2 0 0 0)),(4,iv 0),(6,.one (.map 3)),(37,.one (.itr 4))],[.row ((j4 c).map .im),.vec 2 [] 0 true,.vec 2 [] 0 true,.map [.st p.1.2.1 c0 b,.int .u8,.int .i64] (Y3 f p.1.2.2),.liter b p.1.1 c0]⟩) (fun p=>CE P p.1.1) ⟨([],P.map (·.2),P.map (·.1)),by simp[wG]⟩ (zv [1,2,3,4,6,37] (by simp[hP1])) ?_
   rintro⟨⟨seen,l,K⟩,hl,hK'⟩
   simp only at hl hK'
   simp only[iv]
   have hs:=trivial
   repeat' first|(with_reducible first|refine zz ?_|refine zE [0,1,2,3,4,5,6,8,9,10,12,13,20,24,25,26,27,37,39,44,48,49,50,51,57,58,64] ?_)|simp -dsimp[hs]|refine i9 ?_ ?_<;>intro h<;>try simp only[i7] at h|with_reducible refine V3 (fun h=>?_);(try simp only[List.map_eq_nil_iff] at h);(try subst h);try simp -dsimp[hs]|with_reducible refine And.intro ?_ ?_
   all_goals try clear hs
   ·have hend:K=(P.map (·.1)).filter g:=by rw[hK'];exact wH (by rw[← hl];assumption)
    rw[hP1] at hend
    have hget:∀ s∈A,N6 [.int .u8 s.kind,.int .i64 s.index] (Y3 f K) [.im (.raw (.int .u8 0))]=[.im (.raw (.int .u8 (f s)))]:=fun s hs=>by
     rw[Aj,hend]
     by_cases hf0:f s=0
     ·simp[hf0]
     ·rw[if_pos (List.mem_filter.2 ⟨hs,by rw[hg];simp[hf0]⟩)]
    have himE:List.map (fun x:List Value×List IC=>(x.1,List.map DC.im x.2)) (nR f K)=Y3 f K:=Gw f K
    clear hend hK' hl hg
    have hs:=trivial
    repeat' first|with_reducible refine zz ?_|simp -dsimp[hs]|refine zp c2 ?_
    all_goals try clear hs
    refine i6 (ι:={ p:Nat×Nat×Bool×Nat×Bool // p.1≤A.length }) (fun p=>⟨73,[(2,.one (.vec 1 p.1.2.1 0 ((A.take p.1.1).filter fun s=>decide (f s=2)).length)),(3,.one (.vec 2 p.1.2.2.2.1 0 ((A.take p.1.1).filter fun s=>decide (f s=1)).length)),(4,iv 0),(6,.one (.im (.mp [.int .u8,.int .i64] (nR f K)))),(48,.one (.im (.sl (A.map j5)))),(49,iv (A.length:Int)),(50,iv (p.1.1:Int))],[.row ((j4 c).map .im),.vec 2 (l8 (((A.take p.1.1).filter fun s=>decide (f s=2)).map j5)) p.1.2.1 p.1.2.2.1,.vec 2 (l8 (((A.take p.1.1).filter fun s=>decide (f s=1)).map j5)) p.1.2.2.2.1 p.1.2.2.2.2]⟩) (fun p=>A.length-p.1.1) ⟨(0,0,true,0,true),by simp⟩ (zw [2,3,4,6,48,49,50] 3 (by simp[l8])) ?_
    rintro⟨⟨k,ga,na,gb,nb⟩,hk1⟩
    simp only at hk1
    simp only[iv]
    by_cases hlt:k<A.length
    ·have hw:=zk k
     have hx0:A[k]?=some A[k]:=by simp[hlt]
     have hts:A.take (k+1)=A.take k++[A[k]]:=List.take_succ_eq_append_getElem hlt
     have hge:=hget A[k] (List.getElem_mem hlt)
     have hl1:=List.length_filter_le (fun s=>decide (f s=2)) (A.take k)
     have hl2:=List.length_filter_le (fun s=>decide (f s=1)) (A.take k)
     have hr:=hfr A[k]
     rw[List.length_take] at hl1 hl2
     generalize hx:A[k]=s at *
     have e2:(A.take (k+1)).filter (fun s=>decide (f s=2))=(A.take k).filter (fun s=>decide (f s=2))++(if f s=2 then [s] else []):=by
      rw[hts,List.filter_append];simp[List.filter_cons]
     have e1:(A.take (k+1)).filter (fun s=>decide (f s=1))=(A.take k).filter (fun s=>decide (f s=1))++(if f s=1 then [s] else []):=by
      rw[hts,List.filter_append];simp[List.filter_cons]
     generalize (A.take k).filter (fun s=>decide (f s=2))=L2 at *
     generalize (A.take k).filter (fun s=>decide (f s=1))=L1 at *
     have h3:f s=0∨f s=1∨f s=2:=by omega
     have hs:True:=trivial
     rcases h3 with h3|h3|h3
     all_goals
      rw[h3] at hge
      simp[h3] at e1 e2
      have hs:=za hx (za hx0 (za hlt (za hw (za hge himE))))
      repeat' first|(with_reducible first|refine zz ?_|refine And.intro (by omega) ?_|refine zE [0,1,2,3,4,5,6,8,9,10,12,13,20,24,25,26,27,37,39,44,48,49,50,51,57,58,64] ?_)|simp -dsimp[hs]|refine i9 ?_ ?_<;>intro h<;>try simp only[i7] at h
      all_goals try clear hs
     ·all_goals exact zn ⟨(k+1,ga,na,gb,nb),by simp only;omega⟩ (zw [2,3,4,6,48,49,50] 3 (by simp[e1,e2]))
     ·all_goals exact zn ⟨(k+1,ga,na,gb+1,false),by simp only;omega⟩ (zw [2,3,4,6,48,49,50] 3 (by simp[e1,e2]))
     ·all_goals exact zn ⟨(k+1,ga+1,false,gb,nb),by simp only;omega⟩ (zw [2,3,4,6,48,49,50] 3 (by simp[e1,e2]))
    ·obtain rfl:k=A.length:=by omega
     simp only[List.take_length]
     have hl1:=List.length_filter_le (fun s=>decide (f s=2)) A
     have hl2:=List.length_filter_le (fun s=>decide (f s=1)) A
     generalize A.filter (fun s=>decide (f s=2))=L2 at *
     generalize A.filter (fun s=>decide (f s=1))=L1 at *
     have hs:=hlt
     repeat' first|(with_reducible first|refine zz ?_|refine zr ?_|refine zE [0,1,2,3,4,5,6,8,9,10,12,13,20,24,25,26,27,37,39,44,48,49,50,51,57,58,64] ?_)|simp -dsimp[hs]|refine i9 ?_ ?_<;>intro h<;>try simp only[i7] at h
     all_goals try clear hs
     all_goals simp
   ·intro i s xa xb hx hs1 hns
    obtain⟨y,hy,rfl,rfl⟩:=xr hx
    have hgP:(S8 g P seen)[i]?=some (y,s):=by
     rw[hK',List.getElem?_map,Option.map_eq_some_iff] at hy
     rw[hl,List.getElem?_map,Option.map_eq_some_iff] at hs1
     obtain⟨p,hp1,hp2⟩:=hy
     obtain⟨q,hq1,hq2⟩:=hs1
     rw[hp1] at hq1
     cases hq1
     rw[hp1,← hp2,← hq2]
    have hmem:(y,s)∈P:=(List.mem_filter.1 (List.mem_of_getElem? hgP)).1
    have hlt2:=CD hmem hns
    have hln2:l.Nodup:=by rw[hl];exact(hPn.sublist ((List.filter_sublist).map _))
    have hKn:K.Nodup:=by rw[hK'];exact(hAnP.sublist ((List.filter_sublist).map _))
    have hidx:=pk hln2 hs1
    have hmi:=sY (f:=f) hKn hy
    have hmd:=Gl (f:=f) hKn hy
    by_cases hf0:f y=0
    ·have hfy:g y=false:=by rw[hg];simp[hf0]
     have hd:=wI (f:=g) hPn hgP hfy
     have hl2:l.eraseIdx i=(S8 g P (seen++[s])).map (·.2):=by rw[hd,lz,← hl]
     have hK2:K.eraseIdx i=(S8 g P (seen++[s])).map (·.1):=by rw[hd,lz,← hK']
     rw[hf0] at hx
     have hs:=za hx (za hidx (za hf0 (za hmi hmd)))
     repeat' first|(with_reducible first|refine zz ?_|refine zE [0,1,2,3,4,5,6,8,9,10,12,13,20,24,25,26,27,37,39,44,48,49,50,51,57,58,64] ?_)|simp -dsimp[hs]|refine i9 ?_ ?_<;>intro h<;>try simp only[i7] at h
     all_goals try clear hs
     all_goals exact At.round ⟨(seen++[s],l.eraseIdx i,K.eraseIdx i),hl2,hK2⟩ hlt2 (zw [1,2,3,4,6,37] 5)
    ·have hfy:g y=true:=by rw[hg];simp[hf0]
     have hd:=tg (f:=g) (seen:=seen) hPn hmem hfy
     have hl2:l=(S8 g P (seen++[s])).map (·.2):=by rw[hd,← hl]
     have hK2:K=(S8 g P (seen++[s])).map (·.1):=by rw[hd,← hK']
     have hs:=za hx (za hidx (za hf0 (za hmi hmd)))
     repeat' first|(with_reducible first|refine zz ?_|refine zE [0,1,2,3,4,5,6,8,9,10,12,13,20,24,25,26,27,37,39,44,48,49,50,51,57,58,64] ?_)|simp -dsimp[hs]|refine i9 ?_ ?_<;>intro h<;>try simp only[i7] at h
     all_goals try clear hs
     all_goals exact At.round ⟨(seen++[s],l,K),hl2,hK2⟩ hlt2 (zw [1,2,3,4,6,37] 5)
 ·have hO:∀ k,db c k=[]:=fun k=>by unfold db;rw[if_neg h0]
  rw[hO,hO]
  simp only[n3,j4,C7,j5,aD,rI,List.map_cons,List.map_nil] at c1 ⊢
  have hs:=h0
  repeat' first|(with_reducible first|refine zz ?_|refine zr ?_|refine zE [0,1,2,3,4,5,6,8,9,10,12,13,20,24,25,26,27,37,39,44,48,49,50,51,57,58,64] ?_)|simp -dsimp[hs]|refine zp c1 ?_|refine i9 ?_ ?_<;>intro h<;>try simp only[i7] at h
  all_goals try clear hs
end Go.Proofs
namespace Go.Ab
open Go
def U1 (s:Susp) (i:Nat):D3:=if s.kind=2∧s.index=i then (true,false) else if s.kind=3∧s.index=i then (false,true) else (false,false)
def N3 (d:Desk) (s:Susp):Bool:=((List.range d.faults.length).all fun i=>decide (U1 s i∈d.faults.getD i []))&&(d.notes==decide (s.kind=1))
theorem xR {d:Desk} {s:Susp} {i:Nat} (h:i<d.faults.length) (h2:U1 s i∉d.faults.getD i []):N3 d s=false:=by
 unfold N3
 rw[Bool.and_eq_false_iff]
 refine .inl ?_
 rw[← Bool.not_eq_true,List.all_eq_true]
 exact fun hall=>h2 (by simpa using hall i (List.mem_range.2 h))
theorem ui {d:Desk} {s:Susp} (h:∀ i,i<d.faults.length→U1 s i∈d.faults.getD i []):N3 d s=(d.notes==decide (s.kind=1)):=by
 unfold N3
 rw[show ((List.range d.faults.length).all fun i=>decide (U1 s i∈d.faults.getD i []))=true by
  rw[List.all_eq_true];exact fun i hi=>by simpa using h i (List.mem_range.1 hi)]
 rfl
end Go.Ab
namespace Go.Proofs
open Go Go.Ab
variable {G:GW}
attribute [simp] u4 eq A3 C2 nilV N0 ZK
def eU (s:Susp):List (List Value×List DC):=if s.kind=2 then [([.int .i64 s.index],[.im (.raw (.bool true)),.im (.raw (.bool false))])] else if s.kind=3 then [([.int .i64 s.index],[.im (.raw (.bool false)),.im (.raw (.bool true))])] else []
theorem vO (s:Susp) (i:Nat):N6 [.int .i64 (i:Int)] (eU s) [.im (.raw (.bool false)),.im (.raw (.bool false))]=[.im (.raw (.bool (U1 s i).1)),.im (.raw (.bool (U1 s i).2))]:=by
 have hb:A6 [.int .i64 (i:Int)] [.int .i64 s.index]=decide (s.index=(i:Int)):=aJ (i:Int) s.index
 unfold eU U1
 by_cases h2:s.kind=2
 ·simp only[h2,if_true,true_and,N6,R9,hb,decide_eq_true_eq]
  by_cases hi:s.index=(i:Int)
  ·simp[hi]
  ·simp[hi]
 ·simp only[h2,if_false,false_and,if_false]
  by_cases h3:s.kind=3
  ·simp only[h3,if_true,true_and,N6,R9,hb,decide_eq_true_eq]
   by_cases hi:s.index=(i:Int)
   ·simp[hi]
   ·simp[hi]
  ·simp[h3,N6,R9]
@[simp] theorem IR (n:Nat) (objs:List DObj) (s:Susp):((eU s).map fun x=>(x.1,x.2.map (fz n objs)))=eU s:=by
 unfold eU
 split
 ·simp[fz]
 ·split<;>simp[fz]
theorem ED (d:Desk) (n:Nat) (s:Susp) (hd:DkOk n d) (hn:n<100000) (hs:cH n s) (hF:jV G):zP Tryz.prog G 79 [jX d,C7 s] (bv (N3 d s)):=by
 refine zf Tryz.func79 Tryz.ntmps79 ?_
 try simp only[iv]
 have g2:G 2=some [.raw (.bool true),.raw (.bool false)]:=hF.2.1
 have g3:G 3=some [.raw (.bool false),.raw (.bool true)]:=hF.2.2
 have hdn:=hd.n
 have hg:=vO s
 have hcs:(s.kind=1∧eU s=[])∨(s.kind=2∧eU s=[([.int .i64 s.index],[.im (.raw (.bool true)),.im (.raw (.bool false))])])∨(s.kind=3∧eU s=[([.int .i64 s.index],[.im (.raw (.bool false)),.im (.raw (.bool true))])]):=by
  unfold eU
  rcases hs with h|⟨h|h,_,_⟩<;>simp[h]
 have hno:=fun i=>xR (d:=d) (s:=s) (i:=i)
 have hyes:=ui (d:=d) (s:=s)
 generalize N3 d s=r at *
 obtain⟨kd,ix⟩:=s
 simp only at hcs
 simp only[jX,aS,T0]
 clear hs
 have hs:True:=trivial
 rcases hcs with⟨hkd,hw⟩|⟨hkd,hw⟩|⟨hkd,hw⟩
 all_goals
  have hw1:=hw
  rw[hkd] at hw1
  have hs:=za g2 (za g3 hkd)
  repeat' first|(with_reducible first|refine zz ?_|refine zE [0,1,3,4,5,6,7,10,11,17,26,27,28,29,38] ?_)|simp -dsimp[hs]|refine i9 ?_ ?_<;>intro h<;>try simp only[i7] at h
  all_goals try clear hs
 all_goals
  refine i6 (ι:={ k:Nat // k≤d.faults.length∧∀ j,j<k→U1 ⟨kd,ix⟩ j∈d.faults.getD j [] }) (fun p=>⟨48,[(0,jX d),(3,.one (.ptr 0 0)),(5,.one (.map 1)),(26,.one (.im (.sl (d.faults.map J8)))),(27,iv (d.faults.length:Int)),(28,iv (p.1:Int))],[.row [.im (.raw (.int .u8 kd)),.im (rI ix)],.map [.int .i64] (eU ⟨kd,ix⟩)]⟩) (fun p=>d.faults.length-p.1) ⟨0,by simp⟩ (zv [0,3,5,26,27,28] (by simp[hw,hw1,hkd,R0,aS,T0])) ?_
  rintro⟨k,hk1,hall⟩
  simp only[iv,jX,aS,T0]
  by_cases hlt:k<d.faults.length
  ·have hwk:=zk k
   have hx0:d.faults[k]?=some d.faults[k]:=by simp[hlt]
   have hgd:d.faults.getD k []=d.faults[k]:=by simp[hlt]
   have hgk:=hg k
   have hnk:=hno k hlt
   rw[hgd] at hnk
   have hall2:U1 ⟨kd,ix⟩ k∈d.faults[k]→∀ j,j<k+1→U1 ⟨kd,ix⟩ j∈d.faults.getD j []:=fun h j hj=>by
    by_cases e:j=k
    ·subst e;rw[hgd];exact h
    ·exact hall j (by omega)
   generalize hw0:U1 ⟨kd,ix⟩ k=w at *
   have c1:=ic (G:=G) d.faults[k] w (hd.l _ (List.getElem_mem hlt))
   generalize hx:d.faults[k]=x at *
   simp only[jA,C8,List.map_cons,List.map_nil] at c1
   by_cases hm:w∈x
   ·rw[decide_eq_true hm] at c1
    have hs:=za hx (za hlt (za hwk hgk))
    repeat' first|(with_reducible first|refine zz ?_|refine zE [0,1,3,4,5,6,7,10,11,17,26,27,28,29,38] ?_)|simp -dsimp[hs]|refine zp c1 ?_|refine i9 ?_ ?_<;>intro h<;>try simp only[i7] at h
    all_goals try clear hs
    all_goals exact zn ⟨k+1,by omega,hall2 hm⟩ (zw [0,3,5,26,27,28] 2 (by simp[aS,T0]))
   ·rw[decide_eq_false hm] at c1
    have hr:=hnk hm
    have hs:=za hx (za hlt (za hwk hgk))
    repeat' first|(with_reducible first|refine zz ?_|refine zr ?_|refine zE [0,1,3,4,5,6,7,10,11,17,26,27,28,29,38] ?_)|simp -dsimp[hs]|refine zp c1 ?_|refine i9 ?_ ?_<;>intro h<;>try simp only[i7] at h
    all_goals try clear hs
    all_goals simp[hr]
  ·obtain rfl:k=d.faults.length:=by omega
   have hr:=hyes fun i hi=>hall i hi
   rw[hr]
   have hs:=za hlt hkd
   repeat' first|(with_reducible first|refine zz ?_|refine zr ?_)|simp -dsimp[hs]|refine zM 13 48 9 [0,1,3,4,5,6,7,10,11,17,26,27,28,29,38] ?_|with_reducible refine zE [0,1,3,4,5,6,7,10,11,17,26,27,28,29,38] ?_|refine i9 ?_ ?_<;>intro h<;>try simp only[i7] at h
   all_goals try clear hs
   all_goals simp[hkd]
end Go.Proofs
namespace Go.Proofs
open Go Go.Ab Tryz
variable {G:GW}
attribute [simp] u4 eq A3 C2 nilV N0 ZK
theorem BW (n:Nat) (s:Susp) (hs:cH n s) (hn:n<100000) (hF:jV G) (d:Desk) (hd:DkOk n d):DCall prog G 78 (jX d :: [DC.ptr 0 0].map .one) [.row ((j5 s).map .im)] (fun r o=>r=bv (N3 d s)∧o=[.row ((j5 s).map .im)]):=by
 refine DCall.drop ?_
 have c1:=ED (G:=G) d n s hd hn hs hF
 simp only[jX,C7,j5,rI,List.map_cons,List.map_nil] at c1
 refine h9 func78 rfl ntmps78 (by simp) rfl ?_
 simp only[jX,j5,rI,List.map_cons,List.map_nil]
 have hs:=trivial
 repeat' first|(with_reducible first|refine zz ?_|refine zr ?_|refine zE [0,1,3] ?_)|simp -dsimp[hs]|refine zp c1 ?_|with_reducible refine And.intro ?_ ?_
 all_goals try clear hs
noncomputable def xT (c:Case) (s:Susp):Bool:=(n7 c).any fun d=>N3 d s
noncomputable def jm (c:Case):List Susp:=if J4 c=0 then (P4 c.pieces.length).filter (xT c) else []
theorem rG (c:Case) (hG:q8 G) (hN:E6 G) (hS:w7 G) (hU:W5 G) (hR:w9 G) (hC:L9 G) (hF:jV G) (hk:KC c):zP prog G 26 [n3 c] (.tup [C1 (jm c),iv (J4 c)]):=by
 refine zf func26 ntmps26 ?_
 try simp only[iv]
 have c1:=eK (G:=G) c hG hN hS hR hC hk
 have hq:=hk.q
 by_cases h0:J4 c=0
 ·have c2:=kL (G:=G) c (by omega) hU
  rw[h0,show pN c=n7 c by unfold pN;rw[if_pos h0]] at c1
  have hdl:=ac (O1 h0).1
  have c3:=fun s (h:s∈P4 c.pieces.length)=>cQ (G:=G) (n7 c) (fun d=>N3 d s) 78 [.ptr 0 0] [.row ((j5 s).map .im)] (by simp) (fun d hdm=>BW c.pieces.length s (vG h).1 (by omega) hF d (aE hk d hdm)) (by omega)
  have hO:jm c=(P4 c.pieces.length).filter (xT c):=by unfold jm;rw[if_pos h0]
  have hfe:∀ s,((n7 c).any fun d=>N3 d s)=xT c s:=fun s=>rfl
  simp only[hfe] at c3
  rw[h0,hO]
  have hAl:=iw c.pieces.length
  clear hO hfe
  generalize xT c=f at *
  generalize P4 c.pieces.length=A at *
  simp only[n3,j4,C7,j5,aD,C1,rI,List.map_cons,List.map_nil] at c1 c2 c3 ⊢
  have hs:=trivial
  repeat' first|(with_reducible first|refine zz ?_|refine zE [0,1,2,3,4,5,6,8,15,18,19,20,21,26] ?_)|simp -dsimp[hs]|refine zp c1 ?_|refine zp c2 ?_|refine i9 ?_ ?_<;>intro h<;>try simp only[i7] at h
  all_goals try clear hs
  refine i6 (ι:={ p:Nat×Nat×Bool // p.1≤A.length }) (fun p=>⟨33,[(4,.one (.im (.sl ((n7 c).map U2)))),(6,.one (.vec 2 p.1.2.1 0 ((A.take p.1.1).filter f).length)),(18,.one (.im (.sl (A.map j5)))),(19,iv (A.length:Int)),(20,iv (p.1.1:Int))],[.row ((j4 c).map .im),.vec 2 [] 0 true,.vec 2 (l8 (((A.take p.1.1).filter f).map j5)) p.1.2.1 p.1.2.2]⟩) (fun p=>A.length-p.1.1) ⟨(0,0,true),by simp⟩ (zv [4,6,18,19,20] (by simp[l8])) ?_
  rintro⟨⟨k,g,nl⟩,hk1⟩
  simp only at hk1
  simp only[iv]
  by_cases hlt:k<A.length
  ·have hw:=zk k
   have hx0:A[k]?=some A[k]:=by simp[hlt]
   have hts:A.take (k+1)=A.take k++[A[k]]:=List.take_succ_eq_append_getElem hlt
   have c4:=c3 A[k] (List.getElem_mem hlt)
   have hl1:=List.length_filter_le f (A.take k)
   rw[List.length_take] at hl1
   generalize hx:A[k]=s at *
   have e1:(A.take (k+1)).filter f=(A.take k).filter f++(if f s=true then [s] else []):=by
    rw[hts,List.filter_append];simp[List.filter_cons]
   generalize (A.take k).filter f=L at *
   have hs:True:=trivial
   cases hf:f s
   all_goals
    rw[hf] at c4
    simp[hf] at e1
    have hs:=za hx (za hx0 (za hlt hw))
    repeat' first|(with_reducible first|refine zz ?_|refine And.intro (by omega) ?_|refine zE [0,1,2,3,4,5,6,8,15,18,19,20,21,26] ?_)|simp -dsimp[hs]|refine CallE.embed [3] (c4) ?_ ?_ ?_ ?_ ?_ ?_;(focus simp[u7];done);(focus simp;done);(focus simp;done);(focus simp;done);(focus refine n9 ?_;simp[u7,r8];done);try simp -dsimp[n5,u7,hs]|refine i9 ?_ ?_<;>intro h<;>try simp only[i7] at h
    all_goals try clear hs
   ·all_goals exact zn ⟨(k+1,g,nl),by simp only;omega⟩ (zw [4,6,18,19,20] 3 (by simp[e1]))
   ·all_goals exact zn ⟨(k+1,g+1,false),by simp only;omega⟩ (zw [4,6,18,19,20] 3 (by simp[e1]))
  ·obtain rfl:k=A.length:=by omega
   simp only[List.take_length]
   have hl1:=List.length_filter_le f A
   generalize A.filter f=L at *
   have hs:=hlt
   repeat' first|(with_reducible first|refine zz ?_|refine zr ?_|refine zE [0,1,2,3,4,5,6,8,15,18,19,20,21,26] ?_)|simp -dsimp[hs]|refine i9 ?_ ?_<;>intro h<;>try simp only[i7] at h
   all_goals try clear hs
   all_goals simp
 ·have hO:jm c=[]:=by unfold jm;rw[if_neg h0]
  rw[hO]
  simp only[n3,j4,C7,j5,aD,rI,List.map_cons,List.map_nil] at c1 ⊢
  have hs:=h0
  repeat' first|(with_reducible first|refine zz ?_|refine zr ?_|refine zE [0,1,2,3,4,5,6,8,15,18,19,20,21,26] ?_)|simp -dsimp[hs]|refine zp c1 ?_|refine i9 ?_ ?_<;>intro h<;>try simp only[i7] at h
  all_goals try clear hs
attribute [simp] u4 eq A3 C2 nilV N0 ZK
theorem vM (d i w:Int) (l:List Print):aX d i w l≠[]:=by
 unfold aX
 have hm:bt d i w l∈r9 (l4 (aj d i w l++[bt d i w l])):=by
  rw[fL]
  exact(List.mergeSort_perm _ _).mem_iff.2 (by simp)
 generalize r9 (l4 (aj d i w l++[bt d i w l]))=D at *
 rcases qR (fun x=>decide (bt d i w l=x)) D with h|h
 ·intro e
  have h2:=congrArg List.length e
  rw[List.length_drop,List.length_nil] at h2
  have hlp:0<D.length:=List.length_pos_of_mem hm
  omega
 ·rw[h] at hm;simp at hm
theorem Ao {c:Case} (he:v6 c=0) {k:Nat} (h1:k<c.pieces.length):N7 c k≠[]:=by
 obtain⟨hp0,hcb⟩:=F8 he
 obtain⟨hn0,hpb,hr0⟩:=I0 hp0
 have hok:=O0 hcb
 have h2:k<c.loop.links.length:=by have:=hok.e;omega
 have hdm:=oa hr0 hcb h1 h2
 have hq:=hcb
 rw[T4,Bool.and_eq_true,List.all_eq_true] at hq
 have h3:k<(c.loop.links.zip c.pieces).length:=by rw[List.length_zip];omega
 have h4:=hq.2 _ (List.getElem_mem h3)
 rw[List.getElem_zip] at h4
 simp only at h4
 rw[nz hr0] at h4
 obtain⟨_,_,_,hh,hd,_⟩:=h4
 rw[qB h1 h2]
 unfold O9
 have hA:T6 c.p c.pieces[k].day 1 c.pieces[k].holder c.loop.links[k].drawing=0:=by
  unfold T6 K3 xE
  rw[if_neg,if_pos ⟨hh,hdm⟩]
  rw[if_neg (by simp[hp0]),if_pos (by simp at hd ⊢;omega)]
  simp
 rw[if_pos hA]
 exact vM _ _ _ _
theorem EF {L:List D3} {so:Bool} {f:D3} (h:L≠[]):aL L so f≠[]:=by
 unfold aL;split
 ·simp
 ·exact h
theorem rK {L:List D3} {f:D3}:aL L true f≠[]:=by
 unfold aL;split
 ·simp
 ·rename_i h
  have:f∈L:=Classical.byContradiction fun h2=>h ⟨rfl,h2⟩
  exact List.ne_nil_of_mem this
theorem xe {c:Case} {y:Link} {x:Piece} {o:Int} {L:List D3} {l:Int} (hx:x.lo≤x.hi):H0 c y x o L l≠[]:=by
 unfold H0
 by_cases h1:tx c y x l=true
 ·rw[h1];exact EF rK
 ·have h2:yF c y x l=true:=by
   unfold tx at h1
   unfold yF
   split at h1
   ·simp at h1
   ·rename_i z hz
    simp only[hz,V1,Bool.and_eq_true,decide_eq_true_eq,Bool.not_eq_true',decide_eq_false_iff_not] at h1 ⊢
    omega
  rw[h2];exact rK
theorem GH {c:Case} (he:v6 c=0) (s:List Int) {k:Nat} (h1:k<c.pieces.length):iW c s k≠[]:=by
 obtain⟨hp0,hcb⟩:=F8 he
 have hok:=O0 hcb
 have h2:k<c.loop.links.length:=by have:=hok.e;omega
 have hm:=Ao he h1
 have hp:=sg hok h1
 unfold Z6 at hp
 have hx0:c.pieces[k]?=some c.pieces[k]:=by simp[h1]
 have hy0:c.loop.links[k]?=some c.loop.links[k]:=by simp[h2]
 unfold iW
 rw[hx0,hy0]
 simp only
 generalize N7 c k=M at *
 rw[← List.dropLast_concat_getLast hm,List.foldl_append]
 exact xe hp.2.1
theorem lT {c:Case} (he:v6 c=0):∀ d∈n7 c,∀ x∈d.faults,x≠[]:=by
 intro d hd x hx
 obtain⟨s,_,rfl⟩:=List.mem_map.1 hd
 simp only[D7,List.mem_map,List.mem_range] at hx
 obtain⟨k,hk,rfl⟩:=hx
 exact GH he s hk
def G5:List Susp→List Susp→Int
 | [],[]=>0
 | [],_ :: _=>-1
 | _ :: _,[]=>1
 | a :: x,b :: y=>if I8 a b≠0 then I8 a b else G5 x y
def bn (a b:List Susp):Int:=U7 [(a.length:Int)-b.length,G5 a b]
def P0 (m x:List Susp):List Susp:=if bn x m<0 then x else m
def jQ:List (List Susp)→List Susp
 | []=>[]
 | x :: r=>r.foldl P0 x
def jE (l:List Susp):List IC:=[.sl (l.map j5)]
def mr (l:List Susp):Prop:=(∀ x∈l,fi x)∧l.length<100000
theorem De (a b:Susp) (ha:fi a) (hb:fi b) (objs:List DObj):DCall prog G 86 [C7 a,C7 b] objs (fun d o=>d=iv (I8 a b)∧o=objs):=by
 refine DCall.frame ?_ (by simp) (by simp) objs
 exact(uY a b ha hb).mono fun d o h=>by rw[h.1];simp
theorem En (a b:List Susp) (ha:mr a) (hb:mr b):zP prog G 85 [C1 a,C1 b,.one (.im (.fn (.func 86) []))] (iv (G5 a b)):=by
 refine zf func85 ntmps85 ?_
 try simp only[iv]
 have hal:=ha.2
 have hbl:=hb.2
 simp only[C1]
 have hs:=trivial
 repeat' first|(with_reducible first|refine zz ?_|refine zE [0,1,2,6,7,8,9,10,11,12,13,14,21,31,38] ?_)|simp -dsimp[hs]
 refine i6 (ι:={ k:Nat // k≤a.length∧k≤b.length∧G5 a b=G5 (a.drop k) (b.drop k) }) (fun p=>⟨39,[(0,.one (.im (.sl (a.map j5)))),(1,.one (.im (.sl (b.map j5)))),(2,.one (.im (.fn (.func 86) []))),(11,.one (.im (.sl (a.map j5)))),(12,iv (a.length:Int)),(13,iv (p.1:Int))],[]⟩) (fun p=>a.length-p.1) ⟨0,by simp⟩ (zv [0,1,2,11,12,13]) ?_
 rintro⟨k,hka,hkb,hE⟩
 have hE2:=hE
 simp only[iv]
 by_cases hlt:k<a.length
 ·have hw:=zk k
  have hx0:a[k]?=some a[k]:=by simp[hlt]
  have hxt:=ha.1 a[k] (List.getElem_mem hlt)
  rw[List.drop_eq_getElem_cons hlt] at hE2
  by_cases hlb:k<b.length
  ·have hlb':¬ (b.length:Int)≤k:=by omega
   have hy0:b[k]?=some b[k]:=by simp[hlb]
   have hyt:=hb.1 b[k] (List.getElem_mem hlb)
   rw[List.drop_eq_getElem_cons hlb,G5] at hE2
   generalize hx:a[k]=x at *
   generalize hy:b[k]=y at *
   have c1:=De (G:=G) x y hxt hyt
   generalize I8 x y=z at *
   simp only[C7,j5,rI,List.map_cons,List.map_nil] at c1
   by_cases hz:z=0
   ·rw[if_neg (by simp[hz])] at hE2
    have hs:=za hx (za hx0 (za hy (za hy0 (za hlt (za hlb (za hlb' (za hw hz)))))))
    repeat' first|(with_reducible first|refine zz ?_|refine zE [0,1,2,6,7,8,9,10,11,12,13,14,21,31,38] ?_)|simp -dsimp[hs]|refine zp c1 ?_|refine i9 ?_ ?_<;>intro h<;>try simp only[i7] at h
    all_goals exact zn ⟨k+1,by omega,by omega,hE2⟩ (zw [0,1,2,11,12,13] 0)
   ·rw[if_pos hz] at hE2
    have hs:=za hx (za hx0 (za hy (za hy0 (za hlt (za hlb (za hlb' (za hw hz)))))))
    repeat' first|(with_reducible first|refine zz ?_|refine zr ?_|refine zE [0,1,2,6,7,8,9,10,11,12,13,14,21,31,38] ?_)|simp -dsimp[hs]|refine zp c1 ?_|refine i9 ?_ ?_<;>intro h<;>try simp only[i7] at h
    all_goals simp[hE2]
  ·have hkb2:k=b.length:=by omega
   have hlb':(b.length:Int)≤k:=by omega
   rw[List.drop_eq_nil_of_le (by omega:b.length≤k),G5] at hE2
   generalize hx:a[k]=x at *
   have hs:=za hx (za hx0 (za hlt (za hlb (za hlb' hw))))
   repeat' first|(with_reducible first|refine zz ?_|refine zr ?_|refine zE [0,1,2,6,7,8,9,10,11,12,13,14,21,31,38] ?_)|simp -dsimp[hs]|refine i9 ?_ ?_<;>intro h<;>try simp only[i7] at h
   all_goals simp[hE2]
 ·have hka2:k=a.length:=by omega
  rw[List.drop_eq_nil_of_le (by omega)] at hE2
  by_cases hlb:a.length<b.length
  ·have hlb':(a.length:Int)<b.length:=by omega
   rw[List.drop_eq_getElem_cons (by omega),G5] at hE2
   have hs:=za hlt (za hlb hlb')
   repeat' first|(with_reducible first|refine zz ?_|refine zr ?_|refine zE [0,1,2,6,7,8,9,10,11,12,13,14,21,31,38] ?_)|simp -dsimp[hs]|refine i9 ?_ ?_<;>intro h<;>try simp only[i7] at h
   all_goals simp[hE2]
  ·have hlb':¬ (a.length:Int)<b.length:=by omega
   rw[List.drop_eq_nil_of_le (by omega),G5] at hE2
   have hs:=za hlt (za hlb hlb')
   repeat' first|(with_reducible first|refine zz ?_|refine zr ?_|refine zE [0,1,2,6,7,8,9,10,11,12,13,14,21,31,38] ?_)|simp -dsimp[hs]|refine i9 ?_ ?_<;>intro h<;>try simp only[i7] at h
   all_goals simp[hE2]
attribute [simp] u4 eq A3 C2 nilV N0 ZK
theorem GO (a b:List Susp) (ha:mr a) (hb:mr b):zP prog G 83 [C1 a,C1 b] (iv (bn a b)):=by
 refine zf func83 ntmps83 ?_
 try simp only[iv]
 have hal:=ha.2
 have hbl:=hb.2
 have c1:=En (G:=G) a b ha hb
 have c2:=Fa (G:=G) [(a.length:Int)-b.length,G5 a b] (by simp)
 have hE:bn a b=U7 [(a.length:Int)-b.length,G5 a b]:=rfl
 rw[← hE] at c2
 have hw:IntKind.i64.wrap ((a.length:Int)-b.length)=(a.length:Int)-b.length:=p6 (by omega) (by omega)
 generalize G5 a b=z at *
 generalize bn a b=r at *
 simp only[C1] at c1 ⊢
 have hs:=hw
 repeat' first|(with_reducible first|refine zz ?_|refine zr ?_|refine zE [0,1,4] ?_)|simp -dsimp[hs]|refine zp c1 ?_|refine zt c2 ?_ ?_ ?_;(focus simp;done);focus (simp;done)
theorem Dv (L:List (List Susp)) (hne:L≠[]) (hl:L.length<1000000) (ht:∀ x∈L,mr x):zP prog G 144 [.one (.im (.sl (L.map jE))),.one (.im (.fn (.func 83) []))] (C1 (jQ L)):=by
 refine zf func144 ntmps144 ?_
 try simp only[iv]
 obtain⟨x0,r0,rfl⟩:∃ x r,L=x :: r:=by
  cases L with
  | nil=>exact absurd rfl hne
  | cons x r=>exact⟨x,r,rfl⟩
 have hE:jQ (x0 :: r0)=((x0 :: r0).drop 1).foldl P0 x0:=rfl
 have hl1:¬ ((x0 :: r0).length:Int)<1:=by simp;omega
 have hlp:0<(x0 :: r0).length:=by simp
 have hx1:(x0 :: r0)[0]?=some x0:=rfl
 have hx2:(x0 :: r0)[0]=x0:=rfl
 have hm0:x0∈(x0 :: r0):=by simp
 have hk1:1≤(x0 :: r0).length:=hlp
 generalize (x0 :: r0)=L at *
 generalize jQ L=res at *
 simp only[C1]
 have hs:=za hl1 (za hx1 (za hx2 hlp))
 repeat' first|(with_reducible first|refine zz ?_|refine zE [0,1,4,5,6,9,17,27] ?_)|simp -dsimp[jE,hs]|refine i9 ?_ ?_<;>intro h<;>try simp only[i7] at h
 refine i6 (ι:={ p:Nat×List Susp // 1≤p.1∧p.1≤L.length∧p.2∈L∧res=(L.drop p.1).foldl P0 p.2 }) (fun p=>⟨33,[(0,.one (.im (.sl (L.map jE)))),(1,.one (.im (.fn (.func 83) []))),(5,.one (.im (.sl (p.1.2.map j5)))),(6,iv (p.1.1:Int))],[]⟩) (fun p=>L.length-p.1.1) ⟨(1,x0),Nat.le_refl _,hk1,hm0,hE⟩ (zw [0,1,5,6] 0) ?_
 rintro⟨⟨k,m⟩,hk1',hk,hm,hE2⟩
 simp only at hk1' hk hm hE2
 simp only[iv]
 by_cases hlt:k<L.length
 ·have hlt':(k:Int)<L.length:=by omega
  have hw:=zk k
  have hx:L[k]?=some L[k]:=by simp[hlt]
  have hmk:L[k]∈L:=List.getElem_mem hlt
  rw[List.drop_eq_getElem_cons hlt,List.foldl_cons] at hE2
  generalize hy:L[k]=y at *
  have c1:=GO (G:=G) y m (ht y hmk) (ht m hm)
  simp only[C1] at c1
  unfold P0 at hE2
  by_cases hym:bn y m<0
  ·rw[if_pos hym] at hE2
   have hs:=za hx (za hy (za hlt (za hlt' (za hw hym))))
   repeat' first|(with_reducible first|refine zz ?_|refine zE [0,1,4,5,6,9,17,27] ?_)|simp -dsimp[jE,hs]|refine zp c1 ?_|refine i9 ?_ ?_<;>intro h<;>try simp only[i7] at h
   all_goals exact zn ⟨(k+1,y),by simp,by simp only;omega,hmk,hE2⟩ (zw [0,1,5,6] 0)
  ·rw[if_neg hym] at hE2
   have hs:=za hx (za hy (za hlt (za hlt' (za hw hym))))
   repeat' first|(with_reducible first|refine zz ?_|refine zE [0,1,4,5,6,9,17,27] ?_)|simp -dsimp[jE,hs]|refine zp c1 ?_|refine i9 ?_ ?_<;>intro h<;>try simp only[i7] at h
   all_goals exact zn ⟨(k+1,m),by simp,by simp only;omega,hm,hE2⟩ (zw [0,1,5,6] 0)
 ·have hlt':¬ (k:Int)<L.length:=by omega
  rw[List.drop_eq_nil_of_le (by omega)] at hE2
  have hE3:res=m:=hE2
  have hs:=za hlt hlt'
  repeat' first|(with_reducible first|refine zz ?_|refine zr ?_|refine zE [0,1,4,5,6,9,17,27] ?_)|simp -dsimp[hs]|refine i9 ?_ ?_<;>intro h<;>try simp only[i7] at h
  all_goals simp[hE3]
theorem BJ (L:List (List Susp)) (hne:L≠[]) (hl:L.length<1000000) (ht:∀ x∈L,mr x):zP prog G 82 [.one (.im (.sl (L.map jE))),.one (.im (.fn (.func 83) []))] (C1 (jQ L)):=by
 refine zf func82 ntmps82 ?_
 try simp only[iv]
 have c1:=Dv (G:=G) L hne hl ht
 generalize jQ L=r at *
 simp only[C1] at c1 ⊢
 repeat' first|(with_reducible first|refine zz ?_|refine zx ?_|refine zE [0,1,4] ?_)|simp -dsimp|refine zp c1 ?_
attribute [simp] u4 eq A3 C2 nilV N0 ZK
theorem xm {n:Nat} {d:Desk} (hd:DkOk n d) (hn:n<40000):mr (K4 d):=by
 have hdn:=hd.n
 have hl:(K4 d).length≤1+2*n:=by
  have h1:=(I3 d.notes (dM d) (dO d) d.faults.length).length_eq
  have h2:=ao d.notes (dM d) (dO d) d.faults.length
  unfold K4;omega
 refine⟨fun x hx=>?_,by omega⟩
 unfold fi
 rcases listS_mem.1 hx with⟨_,rfl⟩|⟨i,h1,_,rfl⟩|⟨i,h1,_,rfl⟩
 ·simp
 ·simp[fw];omega
 ·simp[gJ];omega
def dN (D:List Desk) (k:Nat):List (List IC):=(((D.take k).map K4)).map jE
theorem tE {D:List Desk} {k:Nat} (h:k<D.length):dN D (k+1)=dN D k++[[.sl ((K4 D[k]).map j5)]]:=by
 unfold dN
 rw[List.take_succ_eq_append_getElem h,List.map_append,List.map_append]
 rfl
theorem nP {D:List Desk} {k:Nat} (h:k≤D.length):(dN D k).length=k:=by simp[dN];omega
theorem xl (D:List Desk):dN D D.length=(D.map K4).map jE:=by simp[dN]
noncomputable def lP (c:Case):List Susp:=if J4 c=0 then jQ ((n7 c).map K4) else []
theorem ot (c:Case) (hG:q8 G) (hN:E6 G) (hS:w7 G) (hU:W5 G) (hR:w9 G) (hC:L9 G) (hF:jV G) (hk:KC c):zP prog G 28 [n3 c] (.tup [C1 (lP c),iv (J4 c)]):=by
 refine zf func28 ntmps28 ?_
 try simp only[iv]
 have c1:=eK (G:=G) c hG hN hS hR hC hk
 have hq:=hk.q
 by_cases h0:J4 c=0
 ·rw[h0,show pN c=n7 c by unfold pN;rw[if_pos h0]] at c1
  have hdl:=ac (O1 h0).1
  have c3:=fun d (h:d∈n7 c)=>qS (G:=G) d c.pieces.length (aE hk d h) (by omega) (lT (O1 h0).1 d h) hF hU
  have hO:lP c=jQ ((n7 c).map K4):=by unfold lP;rw[if_pos h0]
  have c2:=BJ (G:=G) ((n7 c).map K4) (by intro e;have:=congrArg List.length e;simp at this;rw[this] at hdl;simp at hdl) (by simp;omega) (fun x hx=>by
   obtain⟨d,hd,rfl⟩:=List.mem_map.1 hx
   exact xm (aE hk d hd) (by omega))
  rw[h0,hO]
  generalize jQ ((n7 c).map K4)=res at *
  generalize n7 c=D at *
  simp only[n3,j4,jX,aD,C1,List.map_cons,List.map_nil] at c1 c2 c3 ⊢
  clear hO
  have hs:=trivial
  repeat' first|(with_reducible first|refine zz ?_|refine zE [0,1,2,3,4,5,6,8,15,17,18,19,20] ?_)|simp -dsimp[hs]|refine zp c1 ?_|refine i9 ?_ ?_<;>intro h<;>try simp only[i7] at h
  all_goals try clear hs
  refine i6 (ι:={ p:Nat×Nat×Bool // p.1≤D.length }) (fun p=>⟨31,[(6,.one (.vec 2 p.1.2.1 0 p.1.1)),(17,.one (.im (.sl (D.map U2)))),(18,iv (D.length:Int)),(19,iv (p.1.1:Int))],[.row ((j4 c).map .im),.vec 2 [] 0 true,.vec 1 (l8 (dN D p.1.1)) p.1.2.1 p.1.2.2]⟩) (fun p=>D.length-p.1.1) ⟨(0,0,true),by simp⟩ (zv [6,17,18,19] (by simp[l8,dN])) ?_
  rintro⟨⟨k,g,nl⟩,hk1⟩
  simp only at hk1
  simp only[iv]
  by_cases hlt:k<D.length
  ·have hw:=zk k
   have hx0:D[k]?=some D[k]:=by simp[hlt]
   have c4:=c3 D[k] (List.getElem_mem hlt)
   have e1:=tE hlt
   have hll:=nP (D:=D) hk1
   generalize hx:D[k]=d at *
   generalize dN D k=L at *
   generalize K4 d=f at *
   have htk:List.take k (l8 L)=l8 L:=List.take_of_length_le (by simp[l8,hll])
   have hs:=za hx (za hx0 (za hlt (za hw (za htk hll))))
   repeat' first|(with_reducible first|refine zz ?_|refine And.intro (by omega) ?_|refine zE [0,1,2,3,4,5,6,8,15,17,18,19,20] ?_)|simp -dsimp[hs]|refine zp c4 ?_|refine i9 ?_ ?_<;>intro h<;>try simp only[i7] at h
   all_goals try clear hs
   all_goals exact zn ⟨(k+1,g+1,false),by simp only;omega⟩ (zw [6,17,18,19] 3 (by simp[e1,htk,hll,fD]))
  ·obtain rfl:k=D.length:=by omega
   have hll:=nP (D:=D) (Nat.le_refl _)
   rw[← xl] at c2
   generalize dN D D.length=L at *
   have htk:List.take D.length (l8 L)=l8 L:=List.take_of_length_le (by simp[l8,hll])
   have hs:=za hlt (za htk hll)
   repeat' first|(with_reducible first|refine zz ?_|refine zr ?_|refine zE [0,1,2,3,4,5,6,8,15,17,18,19,20] ?_)|simp -dsimp[hs]|refine CallE.freeze 0 (c2 []) ?_ ?_ ?_ ?_ ?_ ?_;(focus simp;done);(focus simp[htk,hll];done);(focus simp;done);(focus rfl);(focus simp;done);try simp -dsimp[A3]|refine i9 ?_ ?_<;>intro h<;>try simp only[i7] at h
   all_goals try clear hs
 ·have hO:lP c=[]:=by unfold lP;rw[if_neg h0]
  rw[hO]
  simp only[n3,j4,aD,List.map_cons,List.map_nil] at c1 ⊢
  have hs:=h0
  repeat' first|(with_reducible first|refine zz ?_|refine zr ?_|refine zE [0,1,2,3,4,5,6,8,15,17,18,19,20] ?_)|simp -dsimp[hs]|refine zp c1 ?_|refine i9 ?_ ?_<;>intro h<;>try simp only[i7] at h
  all_goals try clear hs
end Go.Proofs
namespace Go.Ab
open Go
def an (L:List D3):Int:=if (true,true)∈L then 2 else if (true,false)∈L∨(false,true)∈L then 1 else 0
def gx:List D3→Int→Int
 | [],n=>n
 | f :: r,n=>gx r (if f=(false,false) then n else if f=(true,true) then 2 else max n 1)
theorem ak:∀ (L:List D3) (n:Int),(n=0∨n=1∨n=2)→gx L n=if n=2∨(true,true)∈L then 2 else if n=1∨(true,false)∈L∨(false,true)∈L then 1 else 0
 | [],n,h=>by simp[gx];omega
 | ⟨a,b⟩ :: r,n,h=>by
   rw[gx]
   cases a<;>cases b
   ·rw[if_pos rfl,ak r n h];simp
   ·rw[if_neg (by simp),if_neg (by simp),ak r _ (by omega)]
    rcases h with rfl|rfl|rfl<;>simp[show max (0:Int) 1=1 from rfl,show max (1:Int) 1=1 from rfl,show max (2:Int) 1=2 from rfl]
   ·rw[if_neg (by simp),if_neg (by simp),ak r _ (by omega)]
    rcases h with rfl|rfl|rfl<;>simp[show max (0:Int) 1=1 from rfl,show max (1:Int) 1=1 from rfl,show max (2:Int) 1=2 from rfl]
   ·rw[if_neg (by simp),if_pos rfl,ak r _ (by omega)]
    simp
theorem sV (L:List D3):gx L 0=an L:=by
 rw[ak L 0 (.inl rfl)]
 unfold an
 simp
def be (F:List (List D3)) (k:Nat):Int:=((F.take k).map an).sum
def X1 (d:Desk):Int:=(if d.notes=true then 1 else 0)+(d.faults.map an).sum
theorem dB (L:List D3):0≤an L∧an L≤2:=by unfold an;split<;>(try split)<;>omega
theorem eg {F:List (List D3)} {k:Nat} (h:k<F.length):be F (k+1)=be F k+an F[k]:=by
 unfold be
 rw[List.take_succ_eq_append_getElem h,List.map_append,List.sum_append]
 simp
theorem kN (F:List (List D3)):∀ k:Nat,0≤be F k∧be F k≤2*k
 | 0=>by simp[be]
 | k+1=>by
   have:=kN F k
   by_cases h:k<F.length
   ·have h2:=dB F[k]
    rw[eg h];omega
   ·have:be F (k+1)=be F k:=by unfold be;rw[List.take_of_length_le (by omega),List.take_of_length_le (by omega)]
    omega
def oQ:List Int→Int
 | []=>0
 | x :: r=>r.foldl min x
def oT:List Int→Int
 | []=>0
 | x :: r=>r.foldl max x
end Go.Ab
namespace Go.Proofs
open Go Go.Ab
variable {G:GW}
attribute [simp] u4 eq A3 C2 nilV N0 ZK
theorem Gk (L:List Int) (hne:L≠[]) (hl:L.length<1000000):zP Tryz.prog G 88 [u9 L] (iv (oQ L)):=by
 refine zf Tryz.func88 Tryz.ntmps88 ?_
 try simp only[u9]
 obtain⟨x0,r0,rfl⟩:∃ x r,L=x :: r:=by
  cases L with
  | nil=>exact absurd rfl hne
  | cons x r=>exact⟨x,r,rfl⟩
 have hE:oQ (x0 :: r0)=((x0 :: r0).drop 1).foldl min x0:=rfl
 have hl1:¬ ((x0 :: r0).length:Int)<1:=by simp;omega
 have hlp:0<(x0 :: r0).length:=by simp
 have hx1:(x0 :: r0)[0]?=some x0:=rfl
 have hx2:(x0 :: r0)[0]=x0:=rfl
 have hk1:1≤(x0 :: r0).length:=hlp
 generalize (x0 :: r0)=L at *
 generalize oQ L=res at *
 have hs:=za hl1 (za hx1 (za hx2 hlp))
 repeat' first|(with_reducible first|refine zz ?_|refine zE [0,2,3,4,7,15] ?_)|simp -dsimp[hs]|refine i9 ?_ ?_<;>intro h<;>try simp only[i7] at h
 refine i6 (ι:={ p:Nat×Int // 1≤p.1∧p.1≤L.length∧res=(L.drop p.1).foldl min p.2 }) (fun p=>⟨25,[(0,u9 L),(3,iv p.1.2),(4,iv (p.1.1:Int))],[]⟩) (fun p=>L.length-p.1.1) ⟨(1,x0),Nat.le_refl _,hk1,hE⟩ (zw [0,3,4] 0) ?_
 rintro⟨⟨k,m⟩,hk1',hk,hE2⟩
 simp only at hk1' hk hE2
 simp only[iv,u9]
 by_cases hlt:k<L.length
 ·have hlt':(k:Int)<L.length:=by omega
  have hw:=zk k
  have hx:L[k]?=some L[k]:=by simp[hlt]
  rw[List.drop_eq_getElem_cons hlt,List.foldl_cons] at hE2
  generalize hy:L[k]=y at *
  have hs:=za hx (za hy (za hlt (za hlt' hw)))
  repeat' first|(with_reducible first|refine zz ?_|refine zE [0,2,3,4,7,15] ?_)|simp -dsimp[hs]|refine i9 ?_ ?_<;>intro h<;>try simp only[i7] at h
  all_goals exact zn ⟨(k+1,min m y),by simp,by simp only;omega,hE2⟩ (zw [0,3,4] 0)
 ·have hlt':¬ (k:Int)<L.length:=by omega
  rw[List.drop_eq_nil_of_le (by omega)] at hE2
  have hE3:res=m:=hE2
  have hs:=za hlt hlt'
  repeat' first|(with_reducible first|refine zz ?_|refine zr ?_|refine zE [0,2,3,4,7,15] ?_)|simp -dsimp[hs]|refine i9 ?_ ?_<;>intro h<;>try simp only[i7] at h
  all_goals simp[hE3]
theorem Gm (L:List Int) (hne:L≠[]) (hl:L.length<1000000):zP Tryz.prog G 89 [u9 L] (iv (oT L)):=by
 refine zf Tryz.func89 Tryz.ntmps89 ?_
 try simp only[u9]
 obtain⟨x0,r0,rfl⟩:∃ x r,L=x :: r:=by
  cases L with
  | nil=>exact absurd rfl hne
  | cons x r=>exact⟨x,r,rfl⟩
 have hE:oT (x0 :: r0)=((x0 :: r0).drop 1).foldl max x0:=rfl
 have hl1:¬ ((x0 :: r0).length:Int)<1:=by simp;omega
 have hlp:0<(x0 :: r0).length:=by simp
 have hx1:(x0 :: r0)[0]?=some x0:=rfl
 have hx2:(x0 :: r0)[0]=x0:=rfl
 have hk1:1≤(x0 :: r0).length:=hlp
 generalize (x0 :: r0)=L at *
 generalize oT L=res at *
 have hs:=za hl1 (za hx1 (za hx2 hlp))
 repeat' first|(with_reducible first|refine zz ?_|refine zE [0,2,3,4,7,15] ?_)|simp -dsimp[hs]|refine i9 ?_ ?_<;>intro h<;>try simp only[i7] at h
 refine i6 (ι:={ p:Nat×Int // 1≤p.1∧p.1≤L.length∧res=(L.drop p.1).foldl max p.2 }) (fun p=>⟨25,[(0,u9 L),(3,iv p.1.2),(4,iv (p.1.1:Int))],[]⟩) (fun p=>L.length-p.1.1) ⟨(1,x0),Nat.le_refl _,hk1,hE⟩ (zw [0,3,4] 0) ?_
 rintro⟨⟨k,m⟩,hk1',hk,hE2⟩
 simp only at hk1' hk hE2
 simp only[iv,u9]
 by_cases hlt:k<L.length
 ·have hlt':(k:Int)<L.length:=by omega
  have hw:=zk k
  have hx:L[k]?=some L[k]:=by simp[hlt]
  rw[List.drop_eq_getElem_cons hlt,List.foldl_cons] at hE2
  generalize hy:L[k]=y at *
  have hs:=za hx (za hy (za hlt (za hlt' hw)))
  repeat' first|(with_reducible first|refine zz ?_|refine zE [0,2,3,4,7,15] ?_)|simp -dsimp[hs]|refine i9 ?_ ?_<;>intro h<;>try simp only[i7] at h
  all_goals exact zn ⟨(k+1,max m y),by simp,by simp only;omega,hE2⟩ (zw [0,3,4] 0)
 ·have hlt':¬ (k:Int)<L.length:=by omega
  rw[List.drop_eq_nil_of_le (by omega)] at hE2
  have hE3:res=m:=hE2
  have hs:=za hlt hlt'
  repeat' first|(with_reducible first|refine zz ?_|refine zr ?_|refine zE [0,2,3,4,7,15] ?_)|simp -dsimp[hs]|refine i9 ?_ ?_<;>intro h<;>try simp only[i7] at h
  all_goals simp[hE3]
def Aq (D:List Desk) (k:Nat):List Int:=(D.take k).map fun d=>((K4 d).length:Int)
def AO (D:List Desk) (k:Nat):List Int:=(D.take k).map X1
theorem Ap {D:List Desk} {k:Nat} (h:k<D.length):Aq D (k+1)=Aq D k++[((K4 D[k]).length:Int)]:=by
 unfold Aq;rw[List.take_succ_eq_append_getElem h,List.map_append];rfl
theorem AN {D:List Desk} {k:Nat} (h:k<D.length):AO D (k+1)=AO D k++[X1 D[k]]:=by
 unfold AO;rw[List.take_succ_eq_append_getElem h,List.map_append];rfl
theorem ve {D:List Desk} {k:Nat} (h:k≤D.length):(Aq D k).length=k:=by simp[Aq];omega
theorem vk {D:List Desk} {k:Nat} (h:k≤D.length):(AO D k).length=k:=by simp[AO];omega
theorem wz (d:Desk) (z:Int) (h:(if d.notes=true then 1 else 0)=z):z+be d.faults d.faults.length=X1 d:=by
 unfold X1 be;rw[List.take_length,h]
noncomputable def jh (c:Case):Int×Int:=if J4 c=0 then (oQ ((n7 c).map fun d=>((K4 d).length:Int)),oT ((n7 c).map X1)) else (0,0)
theorem rF (c:Case) (hG:q8 G) (hN:E6 G) (hS:w7 G) (hU:W5 G) (hR:w9 G) (hC:L9 G) (hF:jV G) (hk:KC c):zP Tryz.prog G 30 [n3 c] (.tup [D4 (jh c).1 (jh c).2,iv (J4 c)]):=by
 refine zf Tryz.func30 Tryz.ntmps30 ?_
 try simp only[iv]
 have g1:G 0=some [.raw (.bool false),.raw (.bool false)]:=hF.1
 have c1:=eK (G:=G) c hG hN hS hR hC hk
 have hq:=hk.q
 by_cases h0:J4 c=0
 ·rw[h0,show pN c=n7 c by unfold pN;rw[if_pos h0]] at c1
  have hdl:=ac (O1 h0).1
  have hdk:=aE hk
  have c3:=fun d (h:d∈n7 c)=>qS (G:=G) d c.pieces.length (aE hk d h) (by omega) (lT (O1 h0).1 d h) hF hU
  have hO:jh c=(oQ ((n7 c).map fun d=>((K4 d).length:Int)),oT ((n7 c).map X1)):=by unfold jh;rw[if_pos h0]
  have hne:∀ f:Desk→Int,(n7 c).map f≠[]:=fun f e=>by have:=congrArg List.length e;simp at this;rw[this] at hdl;simp at hdl
  have c4:=Gk (G:=G) ((n7 c).map fun d=>((K4 d).length:Int)) (hne _) (by simp;omega)
  have c5:=Gm (G:=G) ((n7 c).map X1) (hne _) (by simp;omega)
  rw[h0,hO]
  generalize oQ ((n7 c).map fun d=>((K4 d).length:Int))=r1 at *
  generalize oT ((n7 c).map X1)=r2 at *
  clear hne hO
  generalize n7 c=D at *
  simp only[n3,j4,jX,aD,C1,List.map_cons,List.map_nil] at c1 c3 ⊢
  have hs:=trivial
  repeat' first|(with_reducible first|refine zz ?_|refine zE [0,1,2,3,4,5,6,7,9,10,12,13,15,22,25,26,27,28,34,38,39,40,41,44,45,46,47,52,60] ?_)|simp -dsimp[hs]|refine zp c1 ?_|refine i9 ?_ ?_<;>intro h<;>try simp only[i7] at h
  all_goals try clear hs
  refine i6 (ι:={ p:Nat×Nat×Bool×Nat×Bool // p.1≤D.length }) (fun p=>⟨82,[(2,.one (.ptr 1 0)),(3,iv 0),(6,.one (.vec 2 p.1.2.1 0 p.1.1)),(7,.one (.vec 3 p.1.2.2.2.1 0 p.1.1)),(25,.one (.im (.sl (D.map U2)))),(26,iv (D.length:Int)),(27,iv (p.1.1:Int))],[.row ((j4 c).map .im),.row [.im (rI 0),.im (rI 0)],.vec 1 (l8 ((Aq D p.1.1).map Ab.encI)) p.1.2.1 p.1.2.2.1,.vec 1 (l8 ((AO D p.1.1).map Ab.encI)) p.1.2.2.2.1 p.1.2.2.2.2]⟩) (fun p=>D.length-p.1.1) ⟨(0,0,true,0,true),by simp⟩ (zv [2,3,6,7,25,26,27] (by simp[l8,Aq,AO])) ?_
  rintro⟨⟨k,ga,na,gb,nb⟩,hk1⟩
  simp only at hk1
  simp only[iv]
  by_cases hlt:k<D.length
  ·have hw:=zk k
   have hx0:D[k]?=some D[k]:=by simp[hlt]
   have c6:=c3 D[k] (List.getElem_mem hlt)
   have hdd:=hdk D[k] (List.getElem_mem hlt)
   have e1:=Ap hlt
   have e2:=AN hlt
   have hl1:=ve (D:=D) hk1
   have hl2:=vk (D:=D) hk1
   generalize hx:D[k]=d at *
   generalize Aq D k=L1 at *
   generalize AO D k=L2 at *
   have hma:=wz d
   have hF0:be d.faults 0=0:=by simp[be]
   have hdn:=hdd.n
   have htk1:List.take k (l8 (L1.map Ab.encI))=l8 (L1.map Ab.encI):=List.take_of_length_le (by simp[l8,hl1])
   have htk2:List.take k (l8 (L2.map Ab.encI))=l8 (L2.map Ab.encI):=List.take_of_length_le (by simp[l8,hl2])
   generalize K4 d=fl at *
   simp only[aS,T0] at c6
   obtain⟨Z,hZ⟩:∃ Z:Int,(if d.notes=true then 1 else 0)=Z:=⟨_,rfl⟩
   have hma:=hma Z hZ
   have hZr:0≤Z∧Z≤1:=by rw[← hZ];split<;>omega
   have hs:True:=trivial
   cases hnt:d.notes
   all_goals
    rw[hnt] at hZ
    simp only[Bool.false_eq_true,if_false,if_true] at hZ
    replace hZ:=hZ.symm
    have hs:=za hx (za hx0 (za hlt hnt))
    repeat' first|(with_reducible first|refine zz ?_|refine zE [0,1,2,3,4,5,6,7,9,10,12,13,15,22,25,26,27,28,34,38,39,40,41,44,45,46,47,52,60] ?_)|simp -dsimp[U2,aS,T0,hs]|refine i9 ?_ ?_<;>intro h<;>try simp only[i7] at h
    all_goals try clear hs
   all_goals
    refine i6 (ι:={ q:Nat // q≤d.faults.length }) (fun q=>⟨82,[(2,.one (.ptr 1 0)),(3,iv 0),(6,.one (.vec 2 ga 0 k)),(7,.one (.vec 3 gb 0 k)),(9,.one (.im (.ip (j4 d.c++[.raw (.bool d.notes),.sl (d.faults.map J8)])))),(10,iv (Z+be d.faults q.1)),(25,.one (.im (.sl (D.map U2)))),(26,iv (D.length:Int)),(27,iv (k:Int)),(38,.one (.im (.sl (d.faults.map J8)))),(39,iv (d.faults.length:Int)),(40,iv (q.1:Int))],[.row ((j4 c).map .im),.row [.im (rI 0),.im (rI 0)],.vec 1 (l8 (L1.map Ab.encI)) ga na,.vec 1 (l8 (L2.map Ab.encI)) gb nb]⟩) (fun q=>d.faults.length-q.1) ⟨0,by simp⟩ (zv [2,3,6,7,9,10,25,26,27,38,39,40] (by simp[hnt,hF0,hZ])) ?_
    clear hnt hZ
    rintro⟨q,hq1⟩
    simp only[iv]
    have hsr:=kN d.faults q
    by_cases hlq:q<d.faults.length
    ·have hwq:=zk q
     have hy0:d.faults[q]?=some d.faults[q]:=by simp[hlq]
     have hst:=eg hlq
     have hfl:=hdd.l _ (List.getElem_mem hlq)
     generalize hy:d.faults[q]=y at *
     have hmz:=sV y
     have hmr:=dB y
     generalize be d.faults q=S at *
     have hwS:IntKind.i64.wrap (Z+S+an y)=Z+S+an y:=p6 (by omega) (by omega)
     rw[← hmz] at hst hwS
     clear hmz hmr
     have hs:=za hy (za hy0 hlq)
     repeat' first|(with_reducible first|refine zz ?_|refine zE [0,1,2,3,4,5,6,7,9,10,12,13,15,22,25,26,27,28,34,38,39,40,41,44,45,46,47,52,60] ?_)|simp -dsimp[hs]|refine i9 ?_ ?_<;>intro h<;>try simp only[i7] at h
     all_goals try clear hs
     refine i6 (ι:={ p:Nat×Int // p.1≤y.length∧(p.2=0∨p.2=1∨p.2=2)∧gx y 0=gx (y.drop p.1) p.2 }) (fun p=>⟨82,[(2,.one (.ptr 1 0)),(3,iv 0),(6,.one (.vec 2 ga 0 k)),(7,.one (.vec 3 gb 0 k)),(9,.one (.im (.ip (j4 d.c++[.raw (.bool d.notes),.sl (d.faults.map J8)])))),(10,iv (Z+S)),(13,iv p.1.2),(25,.one (.im (.sl (D.map U2)))),(26,iv (D.length:Int)),(27,iv (k:Int)),(38,.one (.im (.sl (d.faults.map J8)))),(39,iv (d.faults.length:Int)),(40,iv (q:Int)),(44,.one (.im (.sl (y.map C8)))),(45,iv (y.length:Int)),(46,iv (p.1.1:Int))],[.row ((j4 c).map .im),.row [.im (rI 0),.im (rI 0)],.vec 1 (l8 (L1.map Ab.encI)) ga na,.vec 1 (l8 (L2.map Ab.encI)) gb nb]⟩) (fun p=>y.length-p.1.1) ⟨(0,0),by simp⟩ (zv [2,3,6,7,9,10,13,25,26,27,38,39,40,44,45,46]) ?_
     rintro⟨⟨j,n⟩,hj,hn3,hE⟩
     simp only at hj hn3 hE
     simp only[iv]
     by_cases hlj:j<y.length
     ·have hwj:=zk j
      have hv0:y[j]?=some y[j]:=by simp[hlj]
      have hE2:=hE
      rw[List.drop_eq_getElem_cons hlj,gx] at hE2
      generalize hv:y[j]=v at *
      obtain⟨v1,v2⟩:=v
      have hm1:max n 1=1∨max n 1=2:=by omega
      have hs:True:=trivial
      cases v1<;>cases v2
      all_goals
       simp at hE2
       have hs:=za hv (za hv0 (za hlj (za hwj g1)))
       repeat' first|(with_reducible first|refine zz ?_|refine zE [0,1,2,3,4,5,6,7,9,10,12,13,15,22,25,26,27,28,34,38,39,40,41,44,45,46,47,52,60] ?_)|simp -dsimp[hs]|refine i9 ?_ ?_<;>intro h<;>try simp only[i7] at h
       all_goals try clear hs
      ·exact zn ⟨(j+1,n),by omega,hn3,hE2⟩ (zw [2,3,6,7,9,10,13,25,26,27,38,39,40,44,45,46] 4)
      ·exact zn ⟨(j+1,max n 1),by omega,by omega,hE2⟩ (zw [2,3,6,7,9,10,13,25,26,27,38,39,40,44,45,46] 4)
      ·exact zn ⟨(j+1,max n 1),by omega,by omega,hE2⟩ (zw [2,3,6,7,9,10,13,25,26,27,38,39,40,44,45,46] 4)
      ·exact zn ⟨(j+1,2),by omega,.inr (.inr rfl),hE2⟩ (zw [2,3,6,7,9,10,13,25,26,27,38,39,40,44,45,46] 4)
     ·have hE2:=hE
      rw[List.drop_eq_nil_of_le (by omega)] at hE2
      have hE3:gx y 0=n:=hE2
      rw[hE3] at hst hwS
      have hs:=za hlj (za hwq hwS)
      repeat' first|(with_reducible first|refine zz ?_|refine zE [0,1,2,3,4,5,6,7,9,10,12,13,15,22,25,26,27,28,34,38,39,40,41,44,45,46,47,52,60] ?_)|simp -dsimp[hs]|refine i9 ?_ ?_<;>intro h<;>try simp only[i7] at h
      all_goals try clear hs
      all_goals exact zn ⟨q+1,by omega⟩ (zw [2,3,6,7,9,10,25,26,27,38,39,40] 4 (by simp[hst,Int.add_assoc]))
    ·obtain rfl:q=d.faults.length:=by omega
     rw[hma]
     generalize X1 d=M at *
     have hs:=za hlq (za hw (za htk1 (za htk2 (za hl1 hl2))))
     repeat' first|(with_reducible first|refine zz ?_|refine And.intro (by omega) ?_|refine zE [0,1,2,3,4,5,6,7,9,10,12,13,15,22,25,26,27,28,34,38,39,40,41,44,45,46,47,52,60] ?_)|simp -dsimp[hs]|refine zp c6 ?_|refine i9 ?_ ?_<;>intro h<;>try simp only[i7] at h
     all_goals try clear hs
     all_goals exact zn ⟨(k+1,ga+1,false,gb+1,false),by simp only;omega⟩ (zw [2,3,6,7,25,26,27] 4 (by simp[e1,e2,htk1,htk2,hl1,hl2]))
  ·obtain rfl:k=D.length:=by omega
   have hl1:=ve (D:=D) hk1
   have hl2:=vk (D:=D) hk1
   have hE1:(D.map fun d=>((K4 d).length:Int))=Aq D D.length:=by simp[Aq]
   have hE2:D.map X1=AO D D.length:=by simp[AO]
   rw[hE1] at c4
   rw[hE2] at c5
   generalize Aq D D.length=L1 at *
   generalize AO D D.length=L2 at *
   have htk1:List.take D.length (l8 (L1.map Ab.encI))=l8 (L1.map Ab.encI):=List.take_of_length_le (by simp[l8,hl1])
   have htk2:List.take D.length (l8 (L2.map Ab.encI))=l8 (L2.map Ab.encI):=List.take_of_length_le (by simp[l8,hl2])
   simp only[u9] at c4 c5
   have hs:=za hlt (za htk1 (za htk2 (za hl1 hl2)))
   repeat' first|(with_reducible first|refine zz ?_|refine zr ?_|refine zE [0,1,2,3,4,5,6,7,9,10,12,13,15,22,25,26,27,28,34,38,39,40,41,44,45,46,47,52,60] ?_)|simp -dsimp[hs]|refine CallE.thaw c4 ?_ ?_ ?_;(focus simp[htk1,hl1];done);(focus simp;done)|refine CallE.thaw c5 ?_ ?_ ?_;(focus simp[htk2,hl2];done);(focus simp;done)|refine i9 ?_ ?_<;>intro h<;>try simp only[i7] at h
   all_goals try clear hs
 ·have hO:jh c=(0,0):=by unfold jh;rw[if_neg h0]
  rw[hO]
  simp only[n3,j4,aD,D4,List.map_cons,List.map_nil] at c1 ⊢
  have hs:=h0
  repeat' first|(with_reducible first|refine zz ?_|refine zr ?_|refine zE [0,1,2,3,4,5,6,7,9,10,12,13,15,22,25,26,27,28,34,38,39,40,41,44,45,46,47,52,60] ?_)|simp -dsimp[hs]|refine zp c1 ?_|refine i9 ?_ ?_<;>intro h<;>try simp only[i7] at h
  all_goals try clear hs
end Go.Proofs
namespace Go.Ab
open Go
end Go.Ab
namespace Go.Proofs
open Go Go.Ab
variable {G:GW}
attribute [simp] u4 eq A3 C2 nilV N0 ZK
theorem ordU_zero {a b:Susp}:I8 a b=0↔a=b:=by
 obtain⟨a1,a2⟩:=a
 obtain⟨b1,b2⟩:=b
 unfold I8 U7 U7 U7
 rw[Susp.mk.injEq]
 simp only
 split
 ·split<;>omega
 ·omega
theorem qk (a b:Susp):zP Tryz.prog G 38 [C7 a,C7 b] (bv (decide (I8 a b<0))):=by
 refine zf Tryz.func38 Tryz.ntmps38 ?_
 try simp only[iv]
 have hE:decide (I8 a b<0)=(decide (a.kind<b.kind)||(decide (a.kind=b.kind)&&decide (a.index<b.index))):=by
  rw[Bool.eq_iff_iff,decide_eq_true_eq,W1]
  simp[G7]
 rw[hE]
 simp only[C7,j5,rI,List.map_cons,List.map_nil]
 have hs:=trivial
 repeat' first|(with_reducible first|refine zz ?_|refine zr ?_|refine zE [0,1,2,3,4] ?_)|simp -dsimp[hs]|with_reducible refine j0 ?_ ?_<;>intro h<;>have h0:=h<;>(try simp only[i7] at h)<;>have h2:=h<;>(try simp at h2)<;>replace hs:=za h0 (za h (za h2 hs))
 all_goals try clear hs
 all_goals simp_all
end Go.Proofs
namespace Go.Proofs
open Go Go.Ab
variable {G:GW}
attribute [simp] u4 eq A3 C2 nilV N0 ZK
open Go Go.Ab Tryz
attribute [simp] u4 eq A3 C2 nilV N0 ZK
theorem nh (l:List Susp) (hl:l.length<100000):zP prog G 23 [C1 l,C1 l] (bv true):=by
 refine zf func23 ntmps23 ?_
 try simp only[iv]
 simp only[C1]
 have hs:=trivial
 repeat' first|(with_reducible first|refine zz ?_|refine zE [0,1,4,5,10,14,25] ?_)|simp -dsimp[hs]|refine i9 ?_ ?_<;>intro h<;>try simp only[i7] at h
 refine i6 (ι:={ k:Nat // k≤l.length }) (fun p=>⟨26,[(0,.one (.im (.sl (l.map j5)))),(1,.one (.im (.sl (l.map j5)))),(5,iv (p.1:Int))],[]⟩) (fun p=>l.length-p.1) ⟨0,by simp⟩ (zv [0,1,5]) ?_
 rintro⟨k,hk⟩
 simp only[iv]
 by_cases hlt:k<l.length
 ·have hlt':(k:Int)<l.length:=by omega
  have hw:=zk k
  generalize hx:l[k]=x at *
  have hs:=za hx (za hlt (za hlt' hw))
  repeat' first|with_reducible refine zz ?_|simp -dsimp[hs]|refine zM 6 26 9 [0,1,4,5,10,14,25] ?_|with_reducible refine zE [0,1,4,5,10,14,25] ?_|refine i9 ?_ ?_<;>intro h<;>try simp only[i7] at h
  all_goals exact zn ⟨k+1,by omega⟩ (zv [0,1,5])
 ·obtain rfl:k=l.length:=by omega
  have hlt':¬ (l.length:Int)<l.length:=by omega
  have hs:=za hlt hlt'
  repeat' first|(with_reducible first|refine zz ?_|refine zr ?_|refine zE [0,1,4,5,10,14,25] ?_)|simp -dsimp[hs]|refine i9 ?_ ?_<;>intro h<;>try simp only[i7] at h
attribute [simp] u4 eq A3 C2 nilV N0 ZK
theorem pY (c:Case) (k:Int) (hq:c.pieces.length≤16):(db c k).length<100000:=by
 unfold db
 split
 ·have h1:=List.length_filter_le (fun s=>decide (DF c s=k)) (P4 c.pieces.length)
  have h2:=iw c.pieces.length
  unfold Ft;omega
 ·simp
attribute [simp] u4 eq A3 C2 nilV N0 ZK
structure TrOk (c:Case) (T:List (List Int)):Prop where
 h:∀ t∈T,J6 (l4 (l5 c.p.n.notes)) t=true∧t.length<1000
 l:T.length≤32
 p:1≤T.length
attribute [simp] u4 eq A3 C2 nilV N0 ZK
end Go.Proofs
namespace Go.Ab
open Go
abbrev Q4:=DObj×DObj×DObj×DObj
abbrev Q2:=DObj×DObj
def F5 (F:Nat→Q4):Nat→List DObj
 | 0=>[]
 | n+1=>F5 F n++[(F n).1,(F n).2.1,(F n).2.2.1,(F n).2.2.2]
def I9 (F:Nat→Q2):Nat→List DObj
 | 0=>[]
 | n+1=>I9 F n++[(F n).1,(F n).2]
@[simp] theorem eC (F:Nat→Q4):∀ n,(F5 F n).length=4*n
 | 0=>rfl
 | n+1=>by simp[F5,eC F n];omega
@[simp] theorem eD (F:Nat→Q2):∀ n,(I9 F n).length=2*n
 | 0=>rfl
 | n+1=>by simp[I9,eD F n];omega
theorem iY (F:Nat→Q4) {i j:Nat} (hj:j<4):∀ {n},i<n→(F5 F n)[4*i+j]?=[(F i).1,(F i).2.1,(F i).2.2.1,(F i).2.2.2][j]?
 | n+1,h=>by
   rw[F5]
   rcases Nat.eq_or_lt_of_le (Nat.le_of_lt_succ h) with rfl|h1
   ·rw[List.getElem?_append_right (by simp),eC,Nat.add_sub_cancel_left]
   ·rw[List.getElem?_append_left (by simp;omega)];exact iY F hj h1
theorem nN (F:Nat→Q2) {i j:Nat} (hj:j<2):∀ {n},i<n→(I9 F n)[2*i+j]?=[(F i).1,(F i).2][j]?
 | n+1,h=>by
   rw[I9]
   rcases Nat.eq_or_lt_of_le (Nat.le_of_lt_succ h) with rfl|h1
   ·rw[List.getElem?_append_right (by simp),eD,Nat.add_sub_cancel_left]
   ·rw[List.getElem?_append_left (by simp;omega)];exact nN F hj h1
@[simp] theorem nK (f:DObj→DObj) (F:Nat→Q4):∀ n,(F5 F n).map f=F5 (fun k=>(f (F k).1,f (F k).2.1,f (F k).2.2.1,f (F k).2.2.2)) n
 | 0=>rfl
 | n+1=>by simp[F5,nK f F n]
@[simp] theorem nM (f:DObj→DObj) (F:Nat→Q2):∀ n,(I9 F n).map f=I9 (fun k=>(f (F k).1,f (F k).2)) n
 | 0=>rfl
 | n+1=>by simp[I9,nM f F n]
theorem dI {F H:Nat→Q4}:∀ {n},(∀ k,k<n→F k=H k)→F5 F n=F5 H n
 | 0,_=>rfl
 | n+1,h=>by rw[F5,F5,dI fun k hk=>h k (by omega),h n (by omega)]
theorem dJ {F H:Nat→Q2}:∀ {n},(∀ k,k<n→F k=H k)→I9 F n=I9 H n
 | 0,_=>rfl
 | n+1,h=>by rw[I9,I9,dJ fun k hk=>h k (by omega),h n (by omega)]
@[simp] theorem nL (F:Nat→Q4) (n j:Nat) (R:List DObj):(F5 F n++R)[4*n+j]?=R[j]?:=by
 rw[List.getElem?_append_right (by simp),eC,Nat.add_sub_cancel_left]
@[simp] theorem GL (F:Nat→Q4) (n:Nat) (R:List DObj):(F5 F n++R)[4*n]?=R[0]?:=by
 have:=nL F n 0 R;simpa using this
@[simp] theorem GK (F:Nat→Q4) (n a j:Nat) (R:List DObj):(F5 F n++R)[4*n+a+j]?=R[a+j]?:=by
 rw[Nat.add_assoc,nL]
@[simp] theorem xh (F:Nat→Q2) (n j:Nat) (R:List DObj):(I9 F n++R)[2*n+j]?=R[j]?:=by
 rw[List.getElem?_append_right (by simp),eD,Nat.add_sub_cancel_left]
@[simp] theorem GN (F:Nat→Q2) (n:Nat) (R:List DObj):(I9 F n++R)[2*n]?=R[0]?:=by
 have:=xh F n 0 R;simpa using this
@[simp] theorem tA (F:Nat→Q4) (n j:Nat) (R:List DObj) (d:DObj):(F5 F n++R).set (4*n+j) d=F5 F n++R.set j d:=by
 rw[List.set_append_right _ _ (by simp),eC,Nat.add_sub_cancel_left]
@[simp] theorem Fh (F:Nat→Q4) (n a j:Nat) (R:List DObj) (d:DObj):(F5 F n++R).set (4*n+a+j) d=F5 F n++R.set (a+j) d:=by
 rw[Nat.add_assoc,tA]
@[simp] theorem GM (F:Nat→Q2) (n j:Nat) (R:List DObj) (d:DObj):(I9 F n++R).set (2*n+j) d=I9 F n++R.set j d:=by
 rw[List.set_append_right _ _ (by simp),eD,Nat.add_sub_cancel_left]
end Go.Ab
namespace Go.Proofs
open Go Go.Ab
variable {G:GW}
def F2 (P:Program) (G:GW) (f sz:Nat) (l:List (List IC)):Prop:=DCall P G f [.one (.im (.sl l))] [] (fun d o=>∃ i:Nat×Bool,(i.2=true→l=[])∧d=.one (.vec 1 i.1 0 l.length)∧o=[.vec sz [] 0 true,.vec sz (l8 l) i.1 i.2])
theorem IZ (l:List Issue) (hl:l.length<1000):F2 Tryz.prog G 158 5 (l.map g9):=by
 unfold F2
 refine h9 Tryz.func158 rfl Tryz.ntmps158 (by simp) rfl ?_
 repeat' first|(with_reducible first|refine zz ?_|refine And.intro (by omega) ?_|refine zx ?_|refine zE [0,2,4] ?_)|simp -dsimp|refine i9 ?_ ?_<;>intro h<;>try simp only[i7] at h|with_reducible refine V3 (fun h=>?_);(try simp only[List.map_eq_nil_iff] at h);(try subst h);try simp -dsimp|with_reducible refine And.intro ?_ ?_
theorem GT (l:List Note) (hl:l.length<1000):F2 Tryz.prog G 108 10 (l.map j9):=by
 unfold F2
 refine h9 Tryz.func108 rfl Tryz.ntmps108 (by simp) rfl ?_
 repeat' first|(with_reducible first|refine zz ?_|refine And.intro (by omega) ?_|refine zx ?_|refine zE [0,2,4] ?_)|simp -dsimp|refine i9 ?_ ?_<;>intro h<;>try simp only[i7] at h|with_reducible refine V3 (fun h=>?_);(try simp only[List.map_eq_nil_iff] at h);(try subst h);try simp -dsimp|with_reducible refine And.intro ?_ ?_
theorem IY (l:List Itm) (hl:l.length<1000):F2 Tryz.prog G 109 2 (l.map A9):=by
 unfold F2
 refine h9 Tryz.func109 rfl Tryz.ntmps109 (by simp) rfl ?_
 repeat' first|(with_reducible first|refine zz ?_|refine And.intro (by omega) ?_|refine zx ?_|refine zE [0,2,4] ?_)|simp -dsimp|refine i9 ?_ ?_<;>intro h<;>try simp only[i7] at h|with_reducible refine V3 (fun h=>?_);(try simp only[List.map_eq_nil_iff] at h);(try subst h);try simp -dsimp|with_reducible refine And.intro ?_ ?_
theorem Jb (l:List Dim) (hl:l.length<1000):F2 Tryz.prog G 110 3 (l.map E3):=by
 unfold F2
 refine h9 Tryz.func110 rfl Tryz.ntmps110 (by simp) rfl ?_
 repeat' first|(with_reducible first|refine zz ?_|refine And.intro (by omega) ?_|refine zx ?_|refine zE [0,2,4] ?_)|simp -dsimp|refine i9 ?_ ?_<;>intro h<;>try simp only[i7] at h|with_reducible refine V3 (fun h=>?_);(try simp only[List.map_eq_nil_iff] at h);(try subst h);try simp -dsimp|with_reducible refine And.intro ?_ ?_
theorem GV (l:List Holder) (hl:l.length<1000):F2 Tryz.prog G 159 4 (l.map o9):=by
 unfold F2
 refine h9 Tryz.func159 rfl Tryz.ntmps159 (by simp) rfl ?_
 repeat' first|(with_reducible first|refine zz ?_|refine And.intro (by omega) ?_|refine zx ?_|refine zE [0,2,4] ?_)|simp -dsimp|refine i9 ?_ ?_<;>intro h<;>try simp only[i7] at h|with_reducible refine V3 (fun h=>?_);(try simp only[List.map_eq_nil_iff] at h);(try subst h);try simp -dsimp|with_reducible refine And.intro ?_ ?_
theorem Eo (l:List Print) (hl:l.length<1000):F2 Tryz.prog G 160 7 (l.map A0):=by
 unfold F2
 refine h9 Tryz.func160 rfl Tryz.ntmps160 (by simp) rfl ?_
 repeat' first|(with_reducible first|refine zz ?_|refine And.intro (by omega) ?_|refine zx ?_|refine zE [0,2,4] ?_)|simp -dsimp|refine i9 ?_ ?_<;>intro h<;>try simp only[i7] at h|with_reducible refine V3 (fun h=>?_);(try simp only[List.map_eq_nil_iff] at h);(try subst h);try simp -dsimp|with_reducible refine And.intro ?_ ?_
theorem Ja (l:List Int) (hl:l.length<1000):F2 Tryz.prog G 161 1 (l.map Ab.encI):=by
 unfold F2
 refine h9 Tryz.func161 rfl Tryz.ntmps161 (by simp) rfl ?_
 repeat' first|(with_reducible first|refine zz ?_|refine And.intro (by omega) ?_|refine zx ?_|refine zE [0,2,4] ?_)|simp -dsimp|refine i9 ?_ ?_<;>intro h<;>try simp only[i7] at h|with_reducible refine V3 (fun h=>?_);(try simp only[List.map_eq_nil_iff] at h);(try subst h);try simp -dsimp|with_reducible refine And.intro ?_ ?_
theorem GU (l:List Link) (hl:l.length<1000):F2 Tryz.prog G 162 3 (l.map G3):=by
 unfold F2
 refine h9 Tryz.func162 rfl Tryz.ntmps162 (by simp) rfl ?_
 repeat' first|(with_reducible first|refine zz ?_|refine And.intro (by omega) ?_|refine zx ?_|refine zE [0,2,4] ?_)|simp -dsimp|refine i9 ?_ ?_<;>intro h<;>try simp only[i7] at h|with_reducible refine V3 (fun h=>?_);(try simp only[List.map_eq_nil_iff] at h);(try subst h);try simp -dsimp|with_reducible refine And.intro ?_ ?_
theorem Ep (l:List Piece) (hl:l.length<1000):F2 Tryz.prog G 163 4 (l.map A7):=by
 unfold F2
 refine h9 Tryz.func163 rfl Tryz.ntmps163 (by simp) rfl ?_
 repeat' first|(with_reducible first|refine zz ?_|refine And.intro (by omega) ?_|refine zx ?_|refine zE [0,2,4] ?_)|simp -dsimp|refine i9 ?_ ?_<;>intro h<;>try simp only[i7] at h|with_reducible refine V3 (fun h=>?_);(try simp only[List.map_eq_nil_iff] at h);(try subst h);try simp -dsimp|with_reducible refine And.intro ?_ ?_
end Go.Proofs
