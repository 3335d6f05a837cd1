/- Part 13 of the proofs. -/
import Derived.Test.YtpcoahkgkgmmlaaGreatDoorR08
import Derived.Test.YtpcoahkgkgmmlaaGreatDoorR12
set_option linter.all false
set_option linter.deprecated false
set_option maxHeartbeats 100000000
namespace Go.Proofs
open Go Go.Ab Tryz
variable {G:Cr}
def U9 (D:List (Int×Int)) (L:List Int) (a:Int×Bool) (y:Itm):Int×Bool:=(max a.1 (l6 D y.drawing),a.2 && !decide (y.drawing∈L))
def O8 (D:List (Int×Int)) (L:List Int) (a:Int×Bool) (x:Issue):Int×Bool:=x.items.foldl (U9 D L) a
def br (l:List Issue) (n:Int):List Issue:=l.filter fun x=>decide (x.drawing=n)
def A7 (l:List Issue) (q:List (Int×Int)×List Int) (n:Int):List (Int×Int)×List Int:=
 let r:=(br l n).foldl (O8 q.1 q.2) (0,decide (n∈q.2))
 if r.2 then (J3 n (r.1+1) q.1,q.2.erase n) else q
def W6 (l:List Issue) (ds:List Int) (q:List (Int×Int)×List Int):List (Int×Int)×List Int:=ds.foldl (A7 l) q
def aa (l:List Issue) (ds:List Int):Nat→List (Int×Int)×List Int→List (Int×Int)×List Int
 | 0,q=>q
 | k+1,q=>aa l ds k (W6 l ds q)
def eC (ds:List Int):List Int:=ds.foldl (fun l n=>pa n l) []
def n8 (l:List Issue) (ds:List Int):List (Int×Int)×List Int:=aa l ds ds.length ([],eC ds)
theorem LoopD.at_eta (r:LoopD) (st:LoopState) (p:Option Code):({ st:=st,pend:=p,nt:=r.nt,tm:=r.tm,ps:=r.ps,asg:=r.asg,body:=r.body }:LoopD)=r.at st p:=rfl
theorem um {n:Int}:∀ {s:List Issue},(s.map (·.drawing)).Pairwise (·≤·)→(∀ x∈s,n≤x.drawing)→br s n=s.takeWhile fun x=>decide (x.drawing=n)
 | [],_,_=>rfl
 | x :: s,hs,hg=>by
   rw[List.map_cons,List.pairwise_cons] at hs
   have ih:=um hs.2 fun y hy=>hg y (by simp[hy])
   unfold br at ih ⊢
   by_cases hx:x.drawing=n
   ·rw[List.filter_cons_of_pos (by simp[hx]),List.takeWhile_cons_of_pos (by simp[hx]),ih]
   ·rw[List.filter_cons_of_neg (by simp[hx]),List.takeWhile_cons_of_neg (by simp[hx]),List.filter_eq_nil_iff]
    intro y hy
    have h1:=hs.1 y.drawing (List.mem_map_of_mem hy)
    have h2:=hg x (by simp)
    simp;omega
theorem uq {l:List Issue} {n:Int} (hs:(l.map (·.drawing)).Pairwise (·≤·)):br l n=(l.drop (lb (l.map (·.drawing)) n)).takeWhile fun x=>decide (x.drawing=n):=by
 have h1:br l n=br (l.drop (lb (l.map (·.drawing)) n)) n:=by
  conv=>lhs;rw[← List.take_append_drop (lb (l.map (·.drawing)) n) l]
  simp only[br,List.filter_append]
  rw[List.filter_eq_nil_iff.2 fun x hx=>?_]
  ·rfl
  ·have:=pc hs x hx
   simp;omega
 rw[h1]
 exact um (by rw[List.map_drop];exact hs.drop) (pf hs)
def bd (D:List (Int×Int)) (c:Nat):Prop:=∀ x∈D,0≤x.2∧x.2≤c
theorem rj {D:List (Int×Int)} {c:Nat} (h:bd D c) (n:Int):0≤l6 D n∧l6 D n≤c:=by
 induction D with
 | nil=>simp[l6]
 | cons p r ih =>
   simp only[l6]
   split
   ·exact h p (by simp)
   ·exact ih fun x hx=>h x (by simp[hx])
theorem qb {D:List (Int×Int)} {c:Nat} (h:bd D c) {n v:Int} (h1:0≤v) (h2:v≤c):bd (J3 n v D) c:=by
 induction D with
 | nil=>intro x hx;simp[J3] at hx;subst hx;exact⟨h1,h2⟩
 | cons p r ih =>
   simp only[J3]
   split
   ·intro x hx
    rcases List.mem_cons.1 hx with rfl|hx
    ·exact⟨h1,h2⟩
    ·exact h x (by simp[hx])
   ·intro x hx
    rcases List.mem_cons.1 hx with rfl|hx
    ·exact h x (by simp)
    ·exact ih (fun x hx=>h x (by simp[hx])) x hx
theorem cM {D:List (Int×Int)} {c c':Nat} (h:bd D c) (hc:c≤c'):bd D c':=fun x hx=>⟨(h x hx).1,by have:=(h x hx).2;omega⟩
theorem AS {D:List (Int×Int)} {L:List Int} {c:Nat} (h:bd D c) {a:Int×Bool} (ha:0≤a.1∧a.1≤c) (y:Itm):0≤(U9 D L a y).1∧(U9 D L a y).1≤c:=by
 have:=rj h y.drawing
 simp only[U9];omega
theorem vJ (l:List Issue) (ds:List Int) (hs:(l.map (·.drawing)).Pairwise (·≤·)) (hl:l.length<1000000) (hds:ds.length<1000000) (hit:∀ x∈l,x.items.length≤16) (objs:List DObj):DCall prog G 105 [.one (.im (q9 l ds))] objs (fun rr objs'=>rr=.tup [.one (.im (.mp [.int .i64] (W2 (n8 l ds).1))),bv (decide (0<(n8 l ds).2.length))]∧objs'=objs):=by
 refine DCall.frame ?_ (by simp) (by simp) objs
 refine j5 func105 rfl ntmps105 (by simp) rfl ?_
 try simp only[iv]
 simp only[q9]
 have hs:True:=trivial
 repeat' first|(with_reducible first|refine rX ?_|refine rW ?_|refine wK ?_)|(with_reducible refine A6 [0,2,3,4,5,7,9,10,11,12,14,20,21,22,23,33,34,35,39,40,41,42,50,51,53,54,55,56,74] ?_;simp -dsimp[hs])
 all_goals try simp -dsimp[hs]
 all_goals try clear hs
 refine i7 (ι:={ p:Nat×List Int // p.1≤ds.length∧(ds.drop p.1).foldl (fun l n=>pa n l) p.2=eC ds }) (fun p=>⟨87,[(0,.one (.im (.ip [.sl (l.map e8),.sl (ds.map encI)]))),(4,.one (.ptr 1 0)),(5,.one (.ptr 3 0)),(20,.one (.im (.sl (ds.map encI)))),(21,iv (ds.length:Int)),(22,iv (p.1.1:Int))],[.map [.int .i64] [],.row [.map 0],.map [.int .i64] (I3 p.1.2),.row [.map 2]]⟩) (fun p=>ds.length-p.1.1) ⟨(0,[]),by simp[eC]⟩ (Weak.of_keep [0,4,5,20,21,22] (by simp[I3])) ?_
 rintro⟨⟨k,L⟩,hk,hL⟩
 simp only at hk hL
 simp only[iv]
 by_cases hlt:k<ds.length
 ·have hx:ds[k]?=some ds[k]:=by simp[hlt]
  have hw:IntKind.i64.wrap ((k:Int)+1)=((k+1:Nat):Int):=o6 (by omega) (by omega)
  have hs:True:=trivial
  repeat' first|(with_reducible first|refine rX ?_|refine zO ?_|refine rW ?_|refine wK ?_|refine ye ?_)|(with_reducible refine A6 [0,2,3,4,5,7,9,10,11,12,14,20,21,22,23,33,34,35,39,40,41,42,50,51,53,54,55,56,74] ?_;simp -dsimp[hx,hw,hlt,hs])|(refine K9 rfl (fun h=>?_) (fun h=>?_)<;>(try simp only[j0] at h)<;>(try exact Bool.noConfusion h))
  all_goals try simp -dsimp[hx,hw,hlt,hs]
  all_goals try clear hs
  exact At.round ⟨(k+1,pa ds[k] L),by omega,by rw[← hL,List.drop_eq_getElem_cons hlt];rfl⟩ (by simp;omega) (Weak.of_keep [0,4,5,20,21,22] (by simp))
 have hs:True:=trivial
 repeat' first|(with_reducible first|refine rX ?_|refine Ak ?_|refine Aj ?_|refine rW ?_|refine wK ?_|refine Ai ?_)|(with_reducible refine A6 [0,2,3,4,5,7,9,10,11,12,14,20,21,22,23,33,34,35,39,40,41,42,50,51,53,54,55,56,74] ?_;simp -dsimp[hlt,hs])|(refine K9 rfl (fun h=>?_) (fun h=>?_)<;>(try simp only[j0] at h)<;>(try exact Bool.noConfusion h))
 all_goals try simp -dsimp[hlt,hs]
 all_goals try clear hs
 have hL0:L=eC ds:=by rw[← hL,List.drop_eq_nil_of_le (by omega)];rfl
 clear hL hlt hk
 subst hL0
 refine i7 (ι:={ p:Nat×(List (Int×Int)×List Int) // p.1≤ds.length∧aa l ds (ds.length-p.1) p.2=n8 l ds∧bd p.2.1 (p.1*ds.length) }) (fun p=>⟨87,[(0,.one (.im (.ip [.sl (l.map e8),.sl (ds.map encI)]))),(4,.one (.ptr 1 0)),(5,.one (.ptr 3 0)),(33,iv (ds.length:Int)),(34,iv (p.1.1:Int))],[.map [.int .i64] (K0 p.1.2.1),.row [.map 0],.map [.int .i64] (I3 p.1.2.2),.row [.map 2]]⟩) (fun p=>ds.length-p.1.1) ⟨(0,([],eC ds)),by simp[n8,bd]⟩ (Weak.of_keep [0,4,5,33,34] (by simp[K0])) ?_
 rintro⟨⟨i,q⟩,hi,hq,hb⟩
 simp only at hi hq hb
 simp only[iv]
 by_cases hlt:i<ds.length
 ·have hw:IntKind.i64.wrap ((i:Int)+1)=((i+1:Nat):Int):=o6 (by omega) (by omega)
  have hmul:(i+1)*ds.length≤1000000*1000000:=Nat.mul_le_mul (by omega) (by omega)
  have hmul':(i+1)*ds.length=i*ds.length+ds.length:=by rw[Nat.add_mul,Nat.one_mul]
  have hs:True:=trivial
  repeat' first|(with_reducible first|refine rX ?_|refine rW ?_|refine wK ?_|refine ye ?_)|(with_reducible refine A6 [0,2,3,4,5,7,9,10,11,12,14,20,21,22,23,33,34,35,39,40,41,42,50,51,53,54,55,56,74] ?_;simp -dsimp[hlt,hs])|(refine K9 rfl (fun h=>?_) (fun h=>?_)<;>(try simp only[j0] at h)<;>(try exact Bool.noConfusion h))
  all_goals try simp -dsimp[hlt,hs]
  all_goals try clear hs
  refine i7 (ι:={ p:Nat×(List (Int×Int)×List Int) // p.1≤ds.length∧(ds.drop p.1).foldl (A7 l) p.2=W6 l ds q∧bd p.2.1 (i*ds.length+p.1) }) (fun p=>⟨87,[(0,.one (.im (.ip [.sl (l.map e8),.sl (ds.map encI)]))),(4,.one (.ptr 1 0)),(5,.one (.ptr 3 0)),(33,iv (ds.length:Int)),(34,iv (i:Int)),(39,.one (.im (.sl (ds.map encI)))),(40,iv (ds.length:Int)),(41,iv (p.1.1:Int))],[.map [.int .i64] (K0 p.1.2.1),.row [.map 0],.map [.int .i64] (I3 p.1.2.2),.row [.map 2]]⟩) (fun p=>ds.length-p.1.1) ⟨(0,q),by simp[W6,hb]⟩ (Weak.of_keep [0,4,5,33,34,39,40,41] (by simp)) ?_
  rintro⟨⟨j,D,L⟩,hj,hq1,hb1⟩
  simp only at hj hq1 hb1
  simp only[iv]
  by_cases hlj:j<ds.length
  ·have hx:ds[j]?=some ds[j]:=by simp[hlj]
   have hwj:IntKind.i64.wrap ((j:Int)+1)=((j+1:Nat):Int):=o6 (by omega) (by omega)
   have c1:=jr (G:=G) (q9 l ds) ds[j]
   simp only[q9] at c1
   have hs:True:=trivial
   repeat' first|(with_reducible first|refine rX ?_|refine rW ?_|refine wK ?_|refine ye ?_)|(refine CallE.pure (c1) ?_;try simp -dsimp[hx,hwj,hlj,hs])|(refine o7 (id:=13) (nt:=87) 5 [0,1,2] [0,2,3,4,5,7,9,10,11,12,14,20,21,22,23,33,34,35,39,40,41,42,50,51,53,54,55,56,74] [0,2,3,4,5,7,9,10,11,12,14,20,21,22,23,33,34,35,39,40,41,42,50,51,53,54,55,56,74] mixed rfl (by kernel_rfl) ?_;simp -dsimp[hx,hwj,hlj,hs])|(with_reducible refine A6 [0,2,3,4,5,7,9,10,11,12,14,20,21,22,23,33,34,35,39,40,41,42,50,51,53,54,55,56,74] ?_;simp -dsimp[hx,hwj,hlj,hs])|(refine K9 rfl (fun h=>?_) (fun h=>?_)<;>(try simp only[j0] at h)<;>(try exact Bool.noConfusion h))
   all_goals try simp -dsimp[hx,hwj,hlj,hs]
   all_goals try clear hs
   have hseg:=uq (n:=ds[j]) hs
   refine O1 (f:=140) (by simp;exact rfl) (by rfl) call140 ?_
   generalize hR:LoopD.mk _ _ _ _ _ _ _=R
   have hR1:R.st=.ready:=by rw[← hR]
   have hR2:R.pend=none:=by rw[← hR]
   have hR3:R.at .ready none=R:=by rw[← hR];rfl
   have hR4:=(congrArg LoopD.nt hR).symm
   have hR5:=(congrArg LoopD.tm hR).symm
   have hR6:=(congrArg LoopD.ps hR).symm
   have hR7:=(congrArg LoopD.asg hR).symm
   have hR8:=(congrArg LoopD.body hR).symm
   dsimp only at hR4 hR5 hR6 hR7 hR8
   clear hR
   refine j5 func140 rfl ntmps140 (by simp) rfl ?_
   have hR9:∀ objs:List DObj,(R.tm.map fun x=>(x.1,dw 7 objs x.2))=R.tm:=by intro objs;rw[hR5];simp
   have hR10:∀ objs:List DObj,(R.tm.map fun x=>(x.1,dw 10 objs x.2))=R.tm:=by intro objs;rw[hR5];simp
   have hlb:=nL (l.map (·.drawing)) ds[j]
   rw[List.length_map] at hlb
   have c2:=dE (G:=G) l ds[j] hs hl
   have hs:True:=trivial
   repeat' first|(with_reducible first|refine rX ?_|refine rW ?_|refine wK ?_)|(refine dI (c2) ?_;try simp -dsimp[hR1,hR2,hR3,hlb,hs])|(refine jW (id:=0) (nt:=41) 12 [0,1,2,4,7,24,25,26,27,39] mixed rfl (by kernel_rfl) ?_;simp -dsimp[hR1,hR2,hR3,hlb,hs])|(with_reducible refine A6 [0,1,2,3,4,5,7,9,10,11,12,14,20,21,22,23,24,25,26,27,33,34,35,39,40,41,42,50,51,53,54,55,56,74] ?_;simp -dsimp[hR1,hR2,hR3,hlb,hs])
   all_goals try simp -dsimp[hR1,hR2,hR3,hlb,hs]
   all_goals try clear hs
   rw[← List.map_drop]
   have hsl:l.length-lb (l.map (·.drawing)) ds[j]=(l.drop (lb (l.map (·.drawing)) ds[j])).length:=by simp
   rw[hsl]
   have hsl2:(l.drop (lb (l.map (·.drawing)) ds[j])).length<1000000:=by simp;omega
   have hsit:∀ x∈l.drop (lb (l.map (·.drawing)) ds[j]),x.items.length≤16:=fun x hx=>hit x (List.mem_of_mem_drop hx)
   generalize l.drop (lb (l.map (·.drawing)) ds[j])=s at hseg hsl2 hsit ⊢
   obtain⟨c,hc⟩:∃ c,c=i*ds.length+j:=⟨_,rfl⟩
   rw[← hc] at hb1
   refine i7 (ι:={ p:Nat×(Int×Bool) // p.1≤s.length∧((s.drop p.1).takeWhile fun x=>decide (x.drawing=ds[j])).foldl (O8 D L) p.2=(br l ds[j]).foldl (O8 D L) (0,decide (ds[j]∈L))∧0≤p.2.1∧p.2.1≤(c:Int) }) (fun p=>⟨41,[(0,.one (.yld 6)),(2,.one (.im (.ip [rI ds[j]]))),(24,.one (.im (.sl (s.map e8)))),(25,iv (s.length:Int)),(26,iv (p.1.1:Int))],[.map [.int .i64] (K0 D),.row [.map 0],.map [.int .i64] (I3 L),.row [.map 2],.row [.im (rI p.1.2.1)],.row [.im (rB p.1.2.2)],.loop R]⟩) (fun p=>s.length-p.1.1) ⟨(0,(0,decide (ds[j]∈L))),by simp[hseg]⟩ (Weak.of_keep [0,2,24,25,26] (by simp)) ?_
   rintro⟨⟨k,m,r⟩,hk,ha,hm1,hm2⟩
   simp only at hk ha hm1 hm2
   simp only[iv]
   by_cases hls:k<s.length
   ·have hx1:s[k]?=some s[k]:=by simp[hls]
    have hwk:IntKind.i64.wrap ((k:Int)+1)=((k+1:Nat):Int):=o6 (by omega) (by omega)
    by_cases hd:s[k].drawing=ds[j]
    ·have hit1:=hsit s[k] (List.getElem_mem hls)
     have hs:True:=trivial
     repeat' first|(with_reducible first|refine rX ?_|refine rW ?_|refine wK ?_|refine ye ?_)|(refine cN ?_ ?_<;>simp -dsimp[hR1,hR2,hR3,hx1,hwk,hd,hls,hs])|(refine U7 ?_;simp -dsimp[T2,hR4,hR5,hR6,hR7,hR8,hR1,hR2,hR3,hx1,hwk,hd,hls,hs])|(with_reducible refine A6 [0,1,2,3,4,5,7,9,10,11,12,14,20,21,22,23,24,25,26,27,33,34,35,39,40,41,42,50,51,53,54,55,56,74] ?_;simp -dsimp[hR1,hR2,hR3,hx1,hwk,hd,hls,hs])|(refine K9 rfl (fun h=>?_) (fun h=>?_)<;>(try simp only[j0] at h)<;>(try exact Bool.noConfusion h))
     all_goals try simp -dsimp[hR1,hR2,hR3,hx1,hwk,hd,hls,hs]
     all_goals try clear hs
     refine i7 (ι:={ p:Nat×(Int×Bool) // p.1≤s[k].items.length∧(s[k].items.drop p.1).foldl (U9 D L) p.2=O8 D L (m,r) s[k]∧0≤p.2.1∧p.2.1≤(c:Int) }) (fun p=>⟨87,[(4,.one (.ptr 1 0)),(5,.one (.ptr 3 0)),(10,.one (.ptr 4 0)),(11,.one (.ptr 5 0)),(53,.one (.im (.sl (s[k].items.map n7)))),(54,iv (s[k].items.length:Int)),(55,iv (p.1.1:Int))],[.map [.int .i64] (K0 D),.row [.map 0],.map [.int .i64] (I3 L),.row [.map 2],.row [.im (rI p.1.2.1)],.row [.im (rB p.1.2.2)],.loop (R.at .busy none),.vec 0 [] 0 true,.vec 0 [] 0 true,.row [.im (rI ds[j]),.im (rI s[k].letter),.im (.raw (.int .u8 s[k].kind)),.im (.sl (s[k].items.map n7)),.im (.sl (s[k].dims.map l5))]]⟩) (fun p=>s[k].items.length-p.1.1) ⟨(0,(m,r)),by simp[O8,hm1,hm2]⟩ (Weak.of_drop [4,5,10,11,53,54,55] 10 (by simp) (by simp) (by simp[hR10,LoopD.at_eta])) ?_
     rintro⟨⟨u,m',r'⟩,hu,ha',hm1',hm2'⟩
     simp only at hu ha' hm1' hm2'
     simp only[iv]
     by_cases hlu:u<s[k].items.length
     ·have hx2:s[k].items[u]?=some s[k].items[u]:=by simp[hlu]
      have hwu:IntKind.i64.wrap ((u:Int)+1)=((u+1:Nat):Int):=o6 (by omega) (by omega)
      have hst:=AS (L:=L) hb1 (a:=(m',r')) ⟨hm1',hm2'⟩ s[k].items[u]
      have hcs:(s[k].items.drop (u+1)).foldl (U9 D L) (U9 D L (m',r') s[k].items[u])=O8 D L (m,r) s[k]:=by rw[← ha',List.drop_eq_getElem_cons hlu];rfl
      have hs:True:=trivial
      repeat' first|(with_reducible first|refine rX ?_|refine zO ?_|refine rW ?_|refine wK ?_|refine ye ?_)|(with_reducible refine A6 [0,1,2,3,4,5,7,9,10,11,12,14,20,21,22,23,24,25,26,27,33,34,35,39,40,41,42,50,51,53,54,55,56,74] ?_;simp -dsimp[hR1,hR2,hR3,hx2,hwu,hlu,hs])|(refine K9 rfl (fun h=>?_) (fun h=>?_)<;>(try simp only[j0] at h)<;>(try exact Bool.noConfusion h))|(with_reducible refine l9 ?_ ?_<;>intro h<;>have h0:=h<;>(try simp only[j0] at h)<;>(try exact Bool.noConfusion h)<;>have h2:=h<;>(try simp at h2)<;>(replace hs:=And.intro h0 (And.intro h (And.intro h2 hs)))<;>simp -dsimp[h0,h,h2,hR1,hR2,hR3,hx2,hwu,hlu,hs])
      all_goals try simp -dsimp[hR1,hR2,hR3,hx2,hwu,hlu,hs]
      all_goals try clear hs
      all_goals exact At.round ⟨(u+1,U9 D L (m',r') s[k].items[u]),by omega,hcs,hst.1,hst.2⟩ (by simp;omega) (Weak.of_drop [4,5,10,11,53,54,55] 10 (by simp) (by simp) (by clear hR4 hR5 hR6 hR7 hR8;simp_all [U9,hR10,LoopD.at_eta]))
     ·have htu:(m',r')=O8 D L (m,r) s[k]:=by rw[← ha',List.drop_eq_nil_of_le (by omega)];rfl
      have hcs:((s.drop (k+1)).takeWhile fun x=>decide (x.drawing=ds[j])).foldl (O8 D L) (m',r')=(br l ds[j]).foldl (O8 D L) (0,decide (ds[j]∈L)):=by
       rw[← ha,List.drop_eq_getElem_cons hls,List.takeWhile_cons_of_pos (by simp[hd]),htu];rfl
      have hs:True:=trivial
      repeat' first|(with_reducible first|refine rX ?_|refine Ak ?_|refine zO ?_|refine Aj ?_|refine rW ?_|refine ye ?_|refine Ai ?_)|(with_reducible refine At.yield_end ?_;simp -dsimp[hR1,hR2,hR3,hlu,hwk,hs])|(with_reducible refine A6 [0,1,2,3,4,5,7,9,10,11,12,14,20,21,22,23,24,25,26,27,33,34,35,39,40,41,42,50,51,53,54,55,56,74] ?_;simp -dsimp[hR1,hR2,hR3,hlu,hwk,hs])|(refine K9 rfl (fun h=>?_) (fun h=>?_)<;>(try simp only[j0] at h)<;>(try exact Bool.noConfusion h))
      all_goals try simp -dsimp[hR1,hR2,hR3,hlu,hwk,hs]
      all_goals try clear hs
      exact At.round ⟨(k+1,(m',r')),by omega,hcs,hm1',hm2'⟩ (by simp;omega) (Weak.of_drop [0,2,24,25,26] 7 (by simp) (by simp) (by simp[hR9]))
    ·have htot:(m,r)=(br l ds[j]).foldl (O8 D L) (0,decide (ds[j]∈L)):=by
      rw[← ha,List.drop_eq_getElem_cons hls,List.takeWhile_cons_of_neg (by simp[hd])];rfl
     have hdep:A7 l (D,L) ds[j]=if r then (J3 ds[j] (m+1) D,L.erase ds[j]) else (D,L):=by simp only[A7];rw[← htot]
     have hwm:IntKind.i64.wrap (m+1)=m+1:=o6 (by omega) (by omega)
     have hbn:bd (A7 l (D,L) ds[j]).1 (i*ds.length+(j+1)):=by
      rw[hdep];split
      ·exact qb (cM hb1 (by omega)) (by omega) (by omega)
      ·exact cM hb1 (by omega)
     have hqn:(ds.drop (j+1)).foldl (A7 l) (A7 l (D,L) ds[j])=W6 l ds q:=by rw[← hq1,List.drop_eq_getElem_cons hlj];rfl
     have hs:True:=trivial
     repeat' first|(with_reducible first|refine rX ?_|refine Cb ?_|refine zO ?_|refine Ca ?_|refine rW ?_|refine wK ?_|refine ye ?_|refine BJ ?_)|(with_reducible refine At.fn_ret (by simp -dsimp[hR1,hR2,hR3,hx1,hwk,hd,hls,hwm,hwj,hs];exact rfl) ?_)|(with_reducible show r8 _ _ _ _ _ _ _ _;simp -dsimp[r8,hR1,hR2,hR3,hx1,hwk,hd,hls,hwm,hwj,hs])|(with_reducible refine A6 [0,1,2,3,4,5,7,9,10,11,12,14,20,21,22,23,24,25,26,27,33,34,35,39,40,41,42,50,51,53,54,55,56,74] ?_;simp -dsimp[hR1,hR2,hR3,hx1,hwk,hd,hls,hwm,hwj,hs])|(refine K9 rfl (fun h=>?_) (fun h=>?_)<;>(try simp only[j0] at h)<;>(try exact Bool.noConfusion h))
     all_goals try simp -dsimp[hR1,hR2,hR3,hx1,hwk,hd,hls,hwm,hwj,hs]
     all_goals try clear hs
     all_goals exact At.round ⟨(j+1,A7 l (D,L) ds[j]),by omega,hqn,hbn⟩ (by simp;omega) (Weak.of_drop [0,4,5,33,34,39,40,41] 4 (by simp) (by simp) (by simp_all))
   ·have htot:(m,r)=(br l ds[j]).foldl (O8 D L) (0,decide (ds[j]∈L)):=by
     rw[← ha,List.drop_eq_nil_of_le (by omega)];rfl
    have hdep:A7 l (D,L) ds[j]=if r then (J3 ds[j] (m+1) D,L.erase ds[j]) else (D,L):=by simp only[A7];rw[← htot]
    have hwm:IntKind.i64.wrap (m+1)=m+1:=o6 (by omega) (by omega)
    have hbn:bd (A7 l (D,L) ds[j]).1 (i*ds.length+(j+1)):=by
     rw[hdep];split
     ·exact qb (cM hb1 (by omega)) (by omega) (by omega)
     ·exact cM hb1 (by omega)
    have hqn:(ds.drop (j+1)).foldl (A7 l) (A7 l (D,L) ds[j])=W6 l ds q:=by rw[← hq1,List.drop_eq_getElem_cons hlj];rfl
    have hs:True:=trivial
    repeat' first|(with_reducible first|refine rX ?_|refine Ak ?_|refine zO ?_|refine Aj ?_|refine rW ?_|refine ye ?_|refine Ai ?_)|(with_reducible refine At.fn_end (by simp -dsimp[hR1,hR2,hR3,hls,hwm,hwj,hs];exact rfl) ?_)|(with_reducible show r8 _ _ _ _ _ _ _ _;simp -dsimp[r8,hR1,hR2,hR3,hls,hwm,hwj,hs])|(with_reducible refine A6 [0,1,2,3,4,5,7,9,10,11,12,14,20,21,22,23,24,25,26,27,33,34,35,39,40,41,42,50,51,53,54,55,56,74] ?_;simp -dsimp[hR1,hR2,hR3,hls,hwm,hwj,hs])|(refine K9 rfl (fun h=>?_) (fun h=>?_)<;>(try simp only[j0] at h)<;>(try exact Bool.noConfusion h))
    all_goals try simp -dsimp[hR1,hR2,hR3,hls,hwm,hwj,hs]
    all_goals try clear hs
    all_goals exact At.round ⟨(j+1,A7 l (D,L) ds[j]),by omega,hqn,hbn⟩ (by simp;omega) (Weak.of_drop [0,4,5,33,34,39,40,41] 4 (by simp) (by simp) (by simp_all))
  ·have hq2:(D,L)=W6 l ds q:=by rw[← hq1,List.drop_eq_nil_of_le (by omega)];rfl
   have hs:True:=trivial
   repeat' first|(with_reducible first|refine rX ?_|refine Ak ?_|refine zO ?_|refine Aj ?_|refine rW ?_|refine Ai ?_)|(with_reducible refine A6 [0,2,3,4,5,7,9,10,11,12,14,20,21,22,23,33,34,35,39,40,41,42,50,51,53,54,55,56,74] ?_;simp -dsimp[hlj,hw,hs])|(refine K9 rfl (fun h=>?_) (fun h=>?_)<;>(try simp only[j0] at h)<;>(try exact Bool.noConfusion h))
   all_goals try simp -dsimp[hlj,hw,hs]
   all_goals try clear hs
   exact At.round ⟨(i+1,(D,L)),by omega,by rw[hq2,← hq,show ds.length-i=(ds.length-(i+1))+1 by omega];rfl,cM hb1 (by show _≤(i+1)*ds.length;omega)⟩ (by simp;omega) (Weak.of_keep [0,4,5,33,34] (by simp))
 ·have hq2:q=n8 l ds:=by rw[← hq,show ds.length-i=0 by omega];rfl
  have hs:True:=trivial
  repeat' first|(with_reducible first|refine rX ?_|refine Ak ?_|refine Aj ?_|refine rW ?_|refine Ai ?_|refine BJ ?_)|(with_reducible refine At.fn_ret (by simp -dsimp[hlt,hs];exact rfl) ?_)|(with_reducible refine A6 [0,2,3,4,5,7,9,10,11,12,14,20,21,22,23,33,34,35,39,40,41,42,50,51,53,54,55,56,74] ?_;simp -dsimp[hlt,hs])|(refine K9 rfl (fun h=>?_) (fun h=>?_)<;>(try simp only[j0] at h)<;>(try exact Bool.noConfusion h))
  all_goals try simp -dsimp[hlt,hs]
  all_goals try clear hs
  all_goals simp[hq2]
end Go.Proofs
namespace Go.Proofs
open Go Go.Ab
def mx (f:Int→Int) (l:List Int):Int:=l.foldl (fun m c=>max m (f c)) 0
theorem aw (f:Int→Int):∀ (l:List Int) (a:Int),0≤a→l.foldl (fun m c=>max m (f c)) a=max a (mx f l)
 | [],a,h=>by simp[mx];omega
 | c :: l,a,h=>by
   have h1:=aw f l (max a (f c)) (by omega)
   have h2:=aw f l (max 0 (f c)) (by omega)
   simp only[mx,List.foldl_cons] at h1 h2 ⊢
   rw[h1,h2];omega
theorem J2 (f:Int→Int) (l:List Int):0≤mx f l:=by
 have:=aw f l 0 (by omega)
 unfold mx at *;omega
theorem jg {f:Int→Int} {l:List Int} {b:Int} (hb:0≤b) (h:∀ c∈l,f c≤b):mx f l≤b:=by
 induction l with
 | nil=>simpa[mx] using hb
 | cons c l ih =>
   have h1:=aw f l (max 0 (f c)) (by omega)
   have h2:=ih fun d hd=>h d (by simp[hd])
   have h3:=h c (by simp)
   simp only[mx,List.foldl_cons] at h1 h2 ⊢
   rw[h1];omega
theorem gw {f:Int→Int} {l:List Int} {c:Int} (h:c∈l):f c≤mx f l:=by
 induction l with
 | nil=>cases h
 | cons d l ih =>
   have h1:=aw f l (max 0 (f d)) (by omega)
   simp only[mx,List.foldl_cons] at h1 ⊢
   rw[h1]
   rcases List.mem_cons.1 h with rfl|h
   ·omega
   ·have:=ih h;simp only[mx] at this;omega
theorem nE {f g:Int→Int} {l:List Int} (h:∀ c∈l,f c=g c):mx f l=mx g l:=by
 have a:=jg (f:=f) (J2 g l) fun c hc=>by rw[h c hc];exact gw hc
 have b:=jg (f:=g) (J2 f l) fun c hc=>by rw[← h c hc];exact gw hc
 omega
def Y6 (l:List Issue) (n:Int):List Int:=(br l n).flatMap fun x=>x.items.map (·.drawing)
theorem lj (D:List (Int×Int)) (L:List Int):∀ (ys:List Itm) (a:Int×Bool),ys.foldl (U9 D L) a=((ys.map (·.drawing)).foldl (fun m c=>max m (l6 D c)) a.1,a.2&&(ys.map (·.drawing)).all fun c=>!decide (c∈L))
 | [],a=>by simp
 | y :: ys,a=>by simp only[List.foldl_cons,List.map_cons,List.all_cons,lj D L ys];simp[U9,Bool.and_assoc]
theorem lk (D:List (Int×Int)) (L:List Int):∀ (xs:List Issue) (a:Int×Bool),xs.foldl (O8 D L) a=((xs.flatMap fun x=>x.items.map (·.drawing)).foldl (fun m c=>max m (l6 D c)) a.1,a.2&&(xs.flatMap fun x=>x.items.map (·.drawing)).all fun c=>!decide (c∈L))
 | [],a=>by simp
 | x :: xs,a=>by simp only[List.foldl_cons,List.flatMap_cons,List.foldl_append,List.all_append,lk D L xs];simp[O8,lj,Bool.and_assoc]
theorem cJ (l:List Issue) (D:List (Int×Int)) (L:List Int) (n:Int) :
 A7 l (D,L) n=if n∈L∧∀ c∈Y6 l n,c∉L then (J3 n (mx (l6 D) (Y6 l n)+1) D,L.erase n) else (D,L):=by
 simp only[A7,lk]
 have e:((decide (n∈L)&&((br l n).flatMap fun x=>x.items.map (·.drawing)).all fun c=>!decide (c∈L))=true)=(n∈L∧∀ c∈Y6 l n,c∉L):=by
  rw[Bool.and_eq_true,decide_eq_true_eq,List.all_eq_true]
  simp only[Bool.not_eq_true',decide_eq_false_iff_not];rfl
 by_cases h:n∈L∧∀ c∈Y6 l n,c∉L
 ·rw[if_pos (e.symm ▸ h),if_pos h];rfl
 ·rw[if_neg (e.symm ▸ h),if_neg h]
def Rr (l:List Issue):Nat→Int→Int
 | 0,_=>0
 | k+1,n=>1+mx (Rr l k) (Y6 l n)
theorem lI (l:List Issue) (k:Nat) (n:Int):0≤Rr l k n:=by
 cases k with
 | zero=>exact Int.le_refl _
 | succ k=>have:=J2 (Rr l k) (Y6 l n);simp only[Rr];omega
theorem vY (l:List Issue):∀ (k:Nat) (n:Int),Rr l k n≤k
 | 0,_=>Int.le_refl _
 | k+1,n=>by
   have:=jg (f:=Rr l k) (l:=Y6 l n) (b:=k) (by omega) fun c _=>vY l k c
   simp only[Rr];omega
theorem P1 (D:List (Int×Int)) (n v m:Int):l6 (J3 n v D) m=if m=n then v else l6 D m:=by
 induction D with
 | nil=>by_cases h:n=m<;>simp[J3,l6,h,eq_comm]
 | cons p r ih =>
   simp only[J3]
   by_cases hp:p.1=n
   ·rw[if_pos hp]
    by_cases hm:m=n
    ·simp[l6,hm]
    ·simp[l6,hm,hp,Ne.symm hm]
   ·rw[if_neg hp]
    by_cases hm:m=n
    ·subst hm;simp[l6,hp];simpa using ih
    ·by_cases hq:p.1=m
     ·simp[l6,hq,hm]
     ·simp only[l6,if_neg hq,ih,if_neg hm]
theorem kT {D:List (Int×Int)} {n v:Int} {p:Int×Int} (h:p∈J3 n v D):p.1=n∨p∈D:=by
 induction D with
 | nil=>simp[J3] at h;simp[h]
 | cons q r ih =>
   simp only[J3] at h
   split at h
   ·rcases List.mem_cons.1 h with rfl|h
    ·exact .inl rfl
    ·exact .inr (by simp[h])
   ·rcases List.mem_cons.1 h with rfl|h
    ·exact .inr (by simp)
    ·rcases ih h with h|h
     ·exact .inl h
     ·exact .inr (by simp[h])
theorem px {D:List (Int×Int)} {n v:Int} (h:(D.map (·.1)).Nodup):((J3 n v D).map (·.1)).Nodup:=by
 induction D with
 | nil=>simp[J3]
 | cons q r ih =>
   rw[List.map_cons,List.nodup_cons] at h
   simp only[J3]
   split
   ·rename_i hq;rw[List.map_cons,List.nodup_cons,← hq];exact h
   ·rename_i hq
    rw[List.map_cons,List.nodup_cons]
    refine⟨fun hm=>?_,ih h.2⟩
    obtain⟨p,hp,he⟩:=List.mem_map.1 hm
    rcases kT hp with h'|h'
    ·exact hq (by rw[← he];exact h')
    ·exact h.1 (by rw[← he];exact List.mem_map_of_mem h')
theorem sj {D:List (Int×Int)} (h:(D.map (·.1)).Nodup) {p:Int×Int} (hp:p∈D):l6 D p.1=p.2:=by
 induction D with
 | nil=>cases hp
 | cons q r ih =>
   rw[List.map_cons,List.nodup_cons] at h
   rcases List.mem_cons.1 hp with rfl|hp
   ·simp[l6]
   ·have hne:q.1≠p.1:=fun e=>h.1 (by rw[e];exact List.mem_map_of_mem hp)
    simp only[l6,if_neg hne];exact ih h.2 hp
theorem pz {D:List (Int×Int)} {n:Int} (h:l6 D n≠0):(n,l6 D n)∈D:=by
 induction D with
 | nil=>simp[l6] at h
 | cons q r ih =>
   simp only[l6] at h ⊢
   split at h
   ·rename_i e;rw[if_pos e,← e];simp
   ·rename_i e;rw[if_neg e];exact List.mem_cons_of_mem _ (ih h)
structure DInv (l:List Issue) (ds:List Int) (q:List (Int×Int)×List Int):Prop where
 nd:q.2.Nodup
 sub:∀ n∈q.2,n∈ds
 kd:(q.1.map (·.1)).Nodup
 ks:∀ p∈q.1,p.1∈ds∧p.1∉q.2
 val:∀ n∈ds,n∉q.2→1≤l6 q.1 n∧l6 q.1 n+q.2.length≤ds.length∧∀ k:Nat,l6 q.1 n≤k→Rr l k n=l6 q.1 n
theorem DInv.step {l:List Issue} {ds:List Int} (hch:∀ n∈ds,∀ c∈Y6 l n,c∈ds) {q:List (Int×Int)×List Int} (h:DInv l ds q) (n:Int):DInv l ds (A7 l q n)∧(A7 l q n).2.length≤q.2.length:=by
 obtain⟨D,L⟩:=q
 rw[cJ]
 split
 ·rename_i hn
  obtain⟨hnL,hcL⟩:=hn
  have hnds:=h.sub n hnL
  have hlen:(L.erase n).length+1=L.length:=by
   rw[List.length_erase_of_mem hnL]
   have:=List.length_pos_of_mem hnL;omega
  have hmem:∀ m,m∈L.erase n↔m≠n∧m∈L:=fun m=>h.nd.mem_erase_iff
  have hc:∀ c∈Y6 l n,1≤l6 D c∧l6 D c+L.length≤ds.length∧∀ k:Nat,l6 D c≤k→Rr l k c=l6 D c:=fun c hc=>h.val c (hch n hnds c hc) (hcL c hc)
  have hLds:L.length≤ds.length:=h.nd.length_le_of_subset h.sub
  have hmxb:mx (l6 D) (Y6 l n)≤ds.length-L.length:=jg (by omega) fun c hc'=>by have:=(hc c hc').2.1;omega
  refine⟨⟨h.nd.erase n,fun m hm=>h.sub m ((hmem m).1 hm).2,px h.kd,fun p hp=>?_,fun m hm hmL=>?_⟩,by simp only;omega⟩
  ·rcases kT hp with e|hp
   ·exact⟨by rw[e];exact hnds,fun hp'=>((hmem _).1 hp').1 e⟩
   ·exact⟨(h.ks p hp).1,fun hp'=>(h.ks p hp).2 ((hmem _).1 hp').2⟩
  ·simp only[P1]
   by_cases e:m=n
   ·subst e
    rw[if_pos rfl]
    have h0:=J2 (l6 D) (Y6 l m)
    refine⟨by omega,by omega,fun k hk=>?_⟩
    obtain⟨j,rfl⟩:∃ j,k=j+1:=⟨k-1,by omega⟩
    simp only[Rr]
    rw[nE fun c hc'=>(hc c hc').2.2 j (by have:=gw (f:=l6 D) hc';omega)];omega
   ·rw[if_neg e]
    have hmL':m∉L:=fun hm'=>hmL ((hmem m).2 ⟨e,hm'⟩)
    obtain⟨a,b,c⟩:=h.val m hm hmL'
    exact⟨a,by simp only at b ⊢;omega,c⟩
 ·exact⟨h,Nat.le_refl _⟩
theorem DInv.fold {l:List Issue} {ds:List Int} (hch:∀ n∈ds,∀ c∈Y6 l n,c∈ds):∀ (ns:List Int) {q:List (Int×Int)×List Int},DInv l ds q→DInv l ds (ns.foldl (A7 l) q)∧(ns.foldl (A7 l) q).2.length≤q.2.length
 | [],_,h=>⟨h,Nat.le_refl _⟩
 | n :: ns,_,h=>by
   obtain⟨h1,h2⟩:=h.step hch n
   obtain⟨h3,h4⟩:=DInv.fold hch ns h1
   exact⟨h3,Nat.le_trans h4 h2⟩
def oy (l:List Issue) (L:List Int):Prop:=∀ n∈L,∃ c∈Y6 l n,c∈L
theorem lm {l:List Issue}:∀ (ns:List Int) (q:List (Int×Int)×List Int),(ns.foldl (A7 l) q).2.length=q.2.length→(∀ q' n,(A7 l q' n).2.length≤q'.2.length)→ns.foldl (A7 l) q=q∧∀ n∈ns,n∈q.2→∃ c∈Y6 l n,c∈q.2
 | [],q,_,_=>⟨rfl,by simp⟩
 | n :: ns,q,h,hle=>by
   have hmono:∀ (ns:List Int) (q:List (Int×Int)×List Int),(ns.foldl (A7 l) q).2.length≤q.2.length:=by
    intro ns
    induction ns with
    | nil=>exact fun q=>Nat.le_refl _
    | cons n ns ih=>exact fun q=>Nat.le_trans (ih _) (hle q n)
   rw[List.foldl_cons] at h ⊢
   have h1:=hmono ns (A7 l q n)
   have h2:=hle q n
   have h3:(A7 l q n).2.length=q.2.length:=by omega
   obtain⟨D,L⟩:=q
   have key:¬ (n∈L∧∀ c∈Y6 l n,c∉L):=by
    intro hc
    rw[cJ,if_pos hc] at h3
    simp only[List.length_erase_of_mem hc.1] at h3
    have:=List.length_pos_of_mem hc.1;omega
   have he:A7 l (D,L) n=(D,L):=by rw[cJ,if_neg key]
   rw[he] at h ⊢
   obtain⟨i1,i2⟩:=lm ns (D,L) h hle
   refine⟨i1,fun m hm hL=>?_⟩
   rcases List.mem_cons.1 hm with rfl|hm
   ·exact Classical.byContradiction fun hno=>key ⟨hL,fun c hc hcL=>hno ⟨c,hc,hcL⟩⟩
   ·exact i2 m hm hL
theorem sY (l:List Issue) (q:List (Int×Int)×List Int) (n:Int):(A7 l q n).2.length≤q.2.length:=by
 obtain⟨D,L⟩:=q
 rw[cJ]
 split
 ·exact List.length_erase_le
 ·exact Nat.le_refl _
theorem dz {l:List Issue} {ds:List Int} (hch:∀ n∈ds,∀ c∈Y6 l n,c∈ds):∀ (k:Nat) (q:List (Int×Int)×List Int),DInv l ds q→DInv l ds (aa l ds k q)∧((aa l ds k q).2.length+k≤q.2.length∨(aa l ds k q).2=[]∨oy l (aa l ds k q).2)
 | 0,q,h=>⟨h,.inl (Nat.le_refl _)⟩
 | k+1,q,h=>by
   obtain⟨h1,h2⟩:=DInv.fold hch ds h
   change DInv l ds (W6 l ds q) at h1
   change (W6 l ds q).2.length≤q.2.length at h2
   obtain⟨h3,h4⟩:=dz hch k (W6 l ds q) h1
   refine⟨h3,?_⟩
   simp only[aa]
   rcases h4 with h4|h4
   ·by_cases e:(W6 l ds q).2.length=q.2.length
    ·obtain⟨e1,e2⟩:=lm ds q e (sY l)
     change W6 l ds q=q at e1
     have hst:oy l q.2:=fun n hn=>e2 n (h.sub n hn) hn
     have hall:∀ k,aa l ds k q=q:=by
      intro k
      induction k with
      | zero=>rfl
      | succ k ih=>simp only[aa,e1,ih]
     rw[e1,hall k]
     exact .inr (.inr hst)
    ·exact .inl (by omega)
   ·exact .inr h4
theorem oz {l:List Issue} {L:List Int} (h:oy l L):∀ (k:Nat) (n:Int),n∈L→Rr l k n=k
 | 0,_,_=>rfl
 | k+1,n,hn=>by
   obtain⟨c,hc,hcL⟩:=h n hn
   have h1:=oz h k c hcL
   have h2:=gw (f:=Rr l k) hc
   have h3:=vY l (k+1) n
   simp only[Rr] at h3 ⊢;omega
theorem jn {ds:List Int} (h:ds.Nodup):eC ds=ds:=by
 have gen:∀ (ds L:List Int),(L++ds).Nodup→ds.foldl (fun l n=>pa n l) L=L++ds:=by
  intro ds
  induction ds with
  | nil=>simp
  | cons d ds ih =>
    intro L hL
    have hd:d∉L:=fun hd=>by
     rw[List.nodup_append] at hL
     exact hL.2.2 d hd d (by simp) rfl
    rw[List.foldl_cons,pa,if_neg hd,ih _ (by simpa using hL)];simp
 exact gen ds [] h
theorem eV {l:List Issue} {ds:List Int} (hnd:ds.Nodup) (hch:∀ n∈ds,∀ c∈Y6 l n,c∈ds) :
 (0<(n8 l ds).2.length↔∃ n∈ds,Rr l (ds.length+1) n > ds.length) ∧
 ((n8 l ds).2.length=0→(∀ n∈ds,l6 (n8 l ds).1 n=Rr l (ds.length+1) n)∧((n8 l ds).1.any (fun p=>decide (6<p.2))=true↔∃ n∈ds,6<Rr l (ds.length+1) n)):=by
 have h0:DInv l ds ([],eC ds):=by
  rw[jn hnd]
  exact⟨hnd,fun n h=>h,by simp,by simp,fun n h h'=>absurd h h'⟩
 obtain⟨h1,h2⟩:=dz hch ds.length _ h0
 change DInv l ds (n8 l ds) at h1
 have h2:(n8 l ds).2.length+ds.length≤ds.length∨(n8 l ds).2=[]∨oy l (n8 l ds).2:=by
  have e:([],eC ds)=(([]:List (Int×Int)),ds):=by rw[jn hnd]
  unfold n8
  rw[e] at h2 ⊢
  exact h2
 have hst:0<(n8 l ds).2.length→oy l (n8 l ds).2:=by
  intro hp
  rcases h2 with h2|h2|h2
  ·omega
  ·rw[h2] at hp;cases hp
  ·exact h2
 have hval:∀ n∈ds,n∉(n8 l ds).2→Rr l (ds.length+1) n=l6 (n8 l ds).1 n∧1≤l6 (n8 l ds).1 n∧l6 (n8 l ds).1 n≤ds.length:=fun n hn hL=>by
  obtain⟨a,b,c⟩:=h1.val n hn hL
  exact⟨c _ (by omega),a,by omega⟩
 have hempty:(n8 l ds).2.length=0→∀ n,n∉(n8 l ds).2:=fun h n=>by
  rw[List.length_eq_zero_iff.1 h];simp
 refine⟨⟨fun hp=>?_,fun ⟨n,hn,hgt⟩=>?_⟩,fun hz=>⟨fun n hn=>(hval n hn (hempty hz n)).1.symm,?_,?_⟩⟩
 ·obtain⟨n,hn⟩:=List.exists_mem_of_length_pos hp
  exact⟨n,h1.sub n hn,by rw[oz (hst hp) _ n hn];omega⟩
 ·refine Nat.pos_of_ne_zero fun hz=>?_
  have:=hval n hn (hempty hz n);omega
 ·intro ha
  obtain⟨p,hp,h6⟩:=List.any_eq_true.1 ha
  have h6:6<p.2:=by simpa using h6
  have hk:=(h1.ks p hp).1
  exact⟨p.1,hk,by rw[(hval p.1 hk (hempty hz _)).1,sj h1.kd hp];exact h6⟩
 ·rintro⟨n,hn,h6⟩
  have hv:=hval n hn (hempty hz n)
  exact List.any_eq_true.2 ⟨_,pz (D:=(n8 l ds).1) (n:=n) (by omega),by simp;omega⟩
open Go Go.Ab Tryz
attribute [local simp] B6 setLp
variable {G:Cr}
def E8 (l:List Issue):Nat→List Int
 | 0=>[]
 | k+1=>E8 l k++(match l[k]? with
   | some x=>if k=0∨(l[k-1]?).map Issue.drawing≠some x.drawing then [x.drawing] else []
   | none=>[])
def nums (l:List Issue):List Int:=E8 l l.length
theorem o5 (l:List Issue):∀ k,(E8 l k).length≤k
 | 0=>Nat.le_refl _
 | k+1=>by
   have:=o5 l k
   simp only[E8,List.length_append]
   split
   ·split<;>simp<;>omega
   ·simp;omega
theorem J1 (l:List Issue) (hl:l.length<1000000) (objs:List DObj):DCall prog G 11 [B1 l] objs (fun d objs'=>d=C1 (nums l)∧objs'=objs):=by
 refine DCall.frame ?_ (by simp) (by simp) objs
 refine j5 func11 rfl ntmps11 (by simp) rfl ?_
 simp only[B1,C1]
 have hs:=trivial
 repeat' first|(with_reducible first|refine zz ?_|refine zE [0,1,2,3,4,5,10,31] ?_)|simp -dsimp[hs]
 all_goals try clear hs
 refine i7 (ι:={ p:Nat×Nat×Bool // p.1≤l.length }) (fun p=>⟨37,[(1,.one (.ptr 0 0)),(3,.one (.vec 2 p.1.2.1 0 (E8 l p.1.1).length)),(4,iv (p.1.1:Int))],[.row [.im (.sl (l.map e8))],.vec 1 [] 0 true,.vec 1 (p6 ((E8 l p.1.1).map encI)) p.1.2.1 p.1.2.2]⟩) (fun p=>l.length-p.1.1) ⟨(0,0,true),by simp⟩ (zv [1,3,4] (by simp[iv,E8])) ?_
 rintro⟨⟨k,g,nl⟩,hk⟩
 have hlen:=o5 l k
 simp only[iv]
 by_cases hlt:k<l.length
 ·have hx:l[k]?=some l[k]:=by simp[hlt]
  have hw:=zk k
  by_cases hk0:k=0
  ·subst hk0
   have hs:=za hx hw
   repeat' first|(with_reducible first|refine zz ?_|refine And.intro (by omega) ?_|refine zr ?_ (by simp -dsimp[e8,rI,hs];exact rfl)|refine zE [0,1,2,3,4,5,10,31] ?_)|simp -dsimp[e8,rI,hs]|refine j7 ?_ ?_<;>intro h<;>try simp only[j0] at h
   all_goals try clear hs
   all_goals try omega
   have hs:E8 l 1=E8 l 0++[l[0].drawing]:=by simp[E8,hx]
   exact zn ⟨(1,g+1,false),by simp;omega⟩ (zw [1,3,4] 3 (by simp[hs,encI,rI];exact hw))
  ·obtain⟨m,hm⟩:∃ m,k=m+1:=⟨k-1,by omega⟩
   have hw1:IntKind.i64.wrap ((k:Int)-1)=m:=o6 (by omega) (by omega) |>.trans (by omega)
   have hy:l[m]?=some l[m]:=by simp
   have hs:=za hx (za hy (za hw (za hw1 hk0)))
   repeat' first|(with_reducible first|refine zz ?_|refine And.intro (by omega) ?_|refine zr ?_ (by simp -dsimp[e8,rI,hs];exact rfl)|refine zE [0,1,2,3,4,5,10,31] ?_)|simp -dsimp[e8,rI,hs]|refine j7 ?_ ?_<;>intro h<;>try simp only[j0] at h
   all_goals try clear hs
   all_goals try omega
   ·rename_i h
    have hs:E8 l (k+1)=E8 l k++[l[k].drawing]:=by
     simp only[E8,hx,show k-1=m from by omega,hy]
     simpa[hk0] using h
    exact zn ⟨(k+1,g+1,false),by simp;omega⟩ (zw [1,3,4] 3 (by simp[hs,encI,rI]))
   ·rename_i h
    have hs:E8 l (k+1)=E8 l k:=by
     simp only[E8,hx,show k-1=m from by omega,hy]
     simpa[hk0] using h
    exact zn ⟨(k+1,g,nl),by simp;omega⟩ (zv [1,3,4] (by simp[hs]))
 ·have hs:=hlt
  repeat' first|(with_reducible first|refine zz ?_|refine zr ?_|refine zE [0,1,2,3,4,5,10,31] ?_)|simp -dsimp[hs]|refine j7 ?_ ?_<;>intro h<;>try simp only[j0] at h
  all_goals try clear hs
  all_goals try omega
  have hkl:k=l.length:=by simp at hk;omega
  subst hkl
  rfl
end Go.Proofs
namespace Go.Proofs
open Go Go.Ab Tryz
variable {G:Cr}
theorem wO (y:Itm) (l:List Issue) (ds:List Int) (hs:ds.Pairwise (·≤·)) (hl:ds.length<1000000):zP prog G 103 [uZ y,.one (.im (.ip [q9 l ds]))] (bv (!decide (y.drawing∈ds))):=by
 refine zf func103 ntmps103 ?_
 try simp only[iv]
 have c1:=vj (G:=G) l ds y.drawing hs hl
 have hs:=trivial
 repeat' first|(with_reducible first|refine zz ?_|refine zr ?_|refine zE [0,1,2,3] ?_)|simp -dsimp[hs]|refine zp c1 ?_
 all_goals try clear hs
def m3 (x:Issue):Bool:=vL x&&xC x&&C4 x.drawing 0 x.items&&x.dims.all A4
def l4:Option Issue→List Issue→Option (List Int)
 | _,[]=>some []
 | some y,x :: r=>if m3 x=false then none else if y.drawing=x.drawing then (if y.letter+1≠x.letter∨y.kind≠x.kind then none else l4 (some x) r) else if y.drawing > x.drawing then none else if x.letter≠1 then none else (l4 (some x) r).map (x.drawing :: ·)
 | none,x :: r=>if m3 x=false then none else if x.letter≠1 then none else (l4 (some x) r).map (x.drawing :: ·)
theorem fB {x:Issue} (h:m3 x=false) {p:Option Issue} {r:List Issue}:l4 p (x :: r)=none:=by cases p<;>simp[l4,h]
theorem ao:∀ (l:List Issue) (p:Option Issue) (ds:List Int),l4 p l=some ds →
 (∀ x∈l,m3 x=true)∧(l.map (·.drawing)).Pairwise (·≤·)∧(∀ y,p=some y→∀ x∈l,y.drawing≤x.drawing)∧ds.Pairwise (·≤·)∧(∀ d∈ds,∃ x∈l,x.drawing=d)
 | [],p,ds,h=>by
   have:ds=[]:=by cases p<;>simp[l4] at h<;>exact h
   subst this;simp
 | x :: r,p,ds,h=>by
   have hok:m3 x=true:=by
    cases hx:m3 x
    ·rw[fB hx] at h;cases h
    ·rfl
   have key:∃ ds',l4 (some x) r=some ds'∧(ds=ds'∨ds=x.drawing :: ds')∧∀ y,p=some y→y.drawing≤x.drawing:=by
    cases p with
    | none =>
      simp only[l4,hok] at h
      split at h
      ·cases h
      ·split at h
       ·cases h
       ·obtain⟨ds',h1,h2⟩:=Option.map_eq_some_iff.1 h
        exact⟨ds',h1,.inr h2.symm,by simp⟩
    | some y =>
      simp only[l4,hok] at h
      split at h
      ·cases h
      ·split at h
       ·rename_i hd
        split at h
        ·cases h
        ·exact⟨ds,h,.inl rfl,fun y' e=>by cases e;omega⟩
       ·split at h
        ·cases h
        ·split at h
         ·cases h
         ·obtain⟨ds',h1,h2⟩:=Option.map_eq_some_iff.1 h
          exact⟨ds',h1,.inr h2.symm,fun y' e=>by cases e;omega⟩
   obtain⟨ds',h1,h2,h3⟩:=key
   obtain⟨i1,i2,i3,i4,i5⟩:=ao r (some x) ds' h1
   refine⟨fun z hz=>?_,?_,fun y hy z hz=>?_,?_,fun d hd=>?_⟩
   ·rcases List.mem_cons.1 hz with rfl|hz
    ·exact hok
    ·exact i1 z hz
   ·rw[List.map_cons,List.pairwise_cons]
    refine⟨fun d hd=>?_,i2⟩
    obtain⟨z,hz,rfl⟩:=List.mem_map.1 hd
    exact i3 x rfl z hz
   ·have:=h3 y hy
    rcases List.mem_cons.1 hz with rfl|hz
    ·exact this
    ·have:=i3 x rfl z hz;omega
   ·rcases h2 with rfl|rfl
    ·exact i4
    ·rw[List.pairwise_cons]
     refine⟨fun d hd=>?_,i4⟩
     obtain⟨z,hz,rfl⟩:=i5 d hd
     exact i3 x rfl z hz
   ·rcases h2 with rfl|rfl
    ·obtain⟨z,hz,e⟩:=i5 d hd
     exact⟨z,by simp[hz],e⟩
    ·rcases List.mem_cons.1 hd with rfl|hd
     ·exact⟨x,by simp,rfl⟩
     ·obtain⟨z,hz,e⟩:=i5 d hd
      exact⟨z,by simp[hz],e⟩
def F5 (l:List Issue):Int×List Int:=
 if l.length<1∨60<l.length then (20,[]) else match l4 none l with
 | none=>(20,[])
 | some ds=>if 20<ds.length then (20,[]) else if l.any (fun x=>x.items.any fun y=>!decide (y.drawing∈ds)) then (20,[]) else
   if 0<(n8 l ds).2.length then (21,[]) else if (n8 l ds).1.any (fun p=>decide (6<p.2)) then (20,[]) else (0,ds)
def L6 (l:List Issue):DV:=if (F5 l).1=0 then .one (.im (q9 l (F5 l).2)) else .one (.im (.raw (.pointer none)))
end Go.Proofs
namespace Go.Proofs
open Go Go.Ab
def G7 (l:List Issue):Nat→Option Issue
 | 0=>none
 | k+1=>l[k]?
theorem cr {p:Option Issue} {x:Issue} {r:List Issue} {ds:List Int} (h:l4 p (x :: r)=some ds) :
 ∃ ds',l4 (some x) r=some ds'∧m3 x=true∧((∃ y,p=some y∧y.drawing=x.drawing∧ds=ds')∨((∀ y,p=some y→y.drawing<x.drawing)∧ds=x.drawing :: ds')):=by
 have hok:m3 x=true:=by
  cases hx:m3 x
  ·rw[fB hx] at h;cases h
  ·rfl
 cases p with
 | none =>
   simp only[l4,hok] at h
   split at h
   ·cases h
   ·split at h
    ·cases h
    ·obtain⟨ds',h1,h2⟩:=Option.map_eq_some_iff.1 h
     exact⟨ds',h1,hok,.inr ⟨by simp,h2.symm⟩⟩
 | some y =>
   simp only[l4,hok] at h
   split at h
   ·cases h
   ·split at h
    ·rename_i hd
     split at h
     ·cases h
     ·exact⟨ds,h,hok,.inl ⟨y,rfl,hd,rfl⟩⟩
    ·split at h
     ·cases h
     ·split at h
      ·cases h
      ·obtain⟨ds',h1,h2⟩:=Option.map_eq_some_iff.1 h
       exact⟨ds',h1,hok,.inr ⟨fun y' e=>by cases e;omega,h2.symm⟩⟩
theorem qF {l:List Issue} {ds:List Int} (h:l4 none l=some ds):∀ k,k≤l.length→∃ ds',l4 (G7 l k) (l.drop k)=some ds'∧ds=E8 l k++ds'
 | 0,_=>⟨ds,by simpa[G7] using h,by simp[E8]⟩
 | k+1,hk=>by
   obtain⟨ds',h1,h2⟩:=qF h k (by omega)
   have hlt:k<l.length:=by omega
   have hx:l[k]?=some l[k]:=by simp[hlt]
   rw[List.drop_eq_getElem_cons hlt] at h1
   obtain⟨ds'',h3,_,h4⟩:=cr h1
   refine⟨ds'',by simpa[G7,hx] using h3,?_⟩
   rw[h2]
   simp only[E8,hx,List.append_assoc]
   congr 1
   rcases h4 with⟨y,h5,h6,rfl⟩|⟨h5,rfl⟩
   ·cases k with
    | zero=>simp[G7] at h5
    | succ m=>simp only[G7] at h5;simp[h5,h6]
   ·cases k with
    | zero=>simp
    | succ m =>
      have hy:l[m]?=some l[m]:=by simp
      have:=h5 l[m] (by simp[G7,hy])
      rw[if_pos (.inr (by simp only[Nat.add_sub_cancel,hy,Option.map_some,ne_eq,Option.some.injEq];omega))];rfl
theorem cu {l:List Issue} {ds:List Int} (h:l4 none l=some ds):ds=nums l:=by
 obtain⟨ds',h1,h2⟩:=qF h l.length (Nat.le_refl _)
 rw[List.drop_length] at h1
 have:ds'=[]:=by
  cases hp:G7 l l.length<;>rw[hp] at h1<;>simp[l4] at h1<;>exact h1
 rw[h2,this,List.append_nil];rfl
theorem qG:∀ (l:List Issue) (p:Option Issue) (ds:List Int),l4 p l=some ds→ds.Pairwise (· < ·)∧∀ y,p=some y→∀ d∈ds,y.drawing<d
 | [],p,ds,h=>by
   have:ds=[]:=by cases p<;>simp[l4] at h<;>exact h
   subst this;simp
 | x :: r,p,ds,h=>by
   obtain⟨ds',h1,_,h2⟩:=cr h
   obtain⟨i1,i2⟩:=qG r (some x) ds' h1
   rcases h2 with⟨y,rfl,h3,rfl⟩|⟨h3,rfl⟩
   ·exact⟨i1,fun y' e d hd=>by cases e;rw[h3];exact i2 x rfl d hd⟩
   ·refine⟨List.pairwise_cons.2 ⟨i2 x rfl,i1⟩,fun y e d hd=>?_⟩
    have:=h3 y e
    rcases List.mem_cons.1 hd with rfl|hd
    ·exact this
    ·have:=i2 x rfl d hd;omega
theorem ur {l:List Issue} {ds:List Int} (h:l4 none l=some ds):∀ (p:Option Issue) (r:List Issue) (ds:List Int),l4 p r=some ds→∀ x∈r,x.drawing∈ds∨∃ y,p=some y∧y.drawing=x.drawing:=by
 intro p r
 induction r generalizing p with
 | nil=>intro ds _ x hx;cases hx
 | cons z r ih =>
   intro ds hds x hx
   obtain⟨ds',h1,_,h2⟩:=cr hds
   have key:x.drawing∈ds'∨z.drawing=x.drawing:=by
    rcases List.mem_cons.1 hx with rfl|hx
    ·exact .inr rfl
    ·rcases ih (some z) ds' h1 x hx with h|⟨y,hy,he⟩
     ·exact .inl h
     ·cases hy;exact .inr he
   rcases h2 with⟨y,rfl,h3,rfl⟩|⟨_,rfl⟩
   ·rcases key with h|h
    ·exact .inl h
    ·exact .inr ⟨y,rfl,by omega⟩
   ·rcases key with h|h
    ·exact .inl (by simp[h])
    ·exact .inl (by simp[h])
theorem B7 {l:List Issue} {ds:List Int} (h:l4 none l=some ds):ds=nums l∧ds.Pairwise (· < ·)∧(∀ x∈l,x.drawing∈ds)∧(∀ x∈l,m3 x=true)∧(l.map (·.drawing)).Pairwise (·≤·):=by
 obtain⟨a1,a2,_,_,_⟩:=ao l none ds h
 refine⟨cu h,(qG l none ds h).1,fun x hx=>?_,a1,a2⟩
 rcases ur h none l ds h x hx with h|⟨y,hy,_⟩
 ·exact h
 ·cases hy
def o8 (l:List Issue):Bool:=decide (1≤l.length∧l.length≤60)&&(l4 none l).isSome&&l.all (fun x=>x.items.all fun y=>decide (y.drawing∈nums l))&&decide ((nums l).length≤20)
def w7 (l:List Issue):List Int:=(nums l).map (Rr l ((nums l).length+1))
def T4 (l:List Int):Int:=l.foldl max 0
def l8 (l:List Issue):Int:=if o8 l=false then 20 else if T4 (w7 l) > (w7 l).length then 21 else if T4 (w7 l) > 6 then 20 else 0
theorem gY (f:Int→Int) (l:List Int) (b:Int) (hb:0≤b):T4 (l.map f) > b↔∃ n∈l,f n > b:=by
 have:T4 (l.map f)=mx f l:=by simp[T4,mx,List.foldl_map]
 rw[this]
 constructor
 ·intro h
  refine Classical.byContradiction fun hno=>?_
  have:=jg (f:=f) (l:=l) hb fun c hc=>Int.not_lt.1 fun hlt=>hno ⟨c,hc,hlt⟩
  omega
 ·rintro⟨n,hn,h⟩
  have:=gw (f:=f) hn;omega
theorem aP (l:List Issue):(F5 l).1=l8 l∧((F5 l).1=0→(F5 l).2=nums l∧o8 l=true):=by
 unfold F5 l8
 by_cases hr:l.length<1∨60<l.length
 ·have:o8 l=false:=by simp[o8];intro h1 h2;omega
  rw[if_pos hr,if_pos this];exact⟨rfl,by simp⟩
 rw[if_neg hr]
 cases hs:l4 none l with
 | none =>
   have:o8 l=false:=by simp[o8,hs]
   rw[if_pos this];exact⟨rfl,by simp⟩
 | some ds =>
   obtain⟨h1,h2,h3,h4,h5⟩:=B7 hs
   simp only
   by_cases h20:20<ds.length
   ·have:o8 l=false:=by simp[o8,← h1];intro _ _ _;omega
    rw[if_pos h20,if_pos this];exact⟨rfl,by simp⟩
   rw[if_neg h20]
   by_cases hit:l.any (fun x=>x.items.any fun y=>!decide (y.drawing∈ds))=true
   ·have:o8 l=false:=by
     simp only[o8,← h1]
     have:l.all (fun x=>x.items.all fun y=>decide (y.drawing∈ds))=false:=by
      rw[← Bool.not_eq_true,List.all_eq_true]
      intro hall
      obtain⟨x,hx,hy⟩:=List.any_eq_true.1 hit
      obtain⟨y,hy,hn⟩:=List.any_eq_true.1 hy
      have:=List.all_eq_true.1 (hall x hx) y hy
      simp at hn this;exact hn this
     simp[this]
    rw[if_pos hit,if_pos this];exact⟨rfl,by simp⟩
   rw[if_neg hit]
   have hall:∀ x∈l,∀ y∈x.items,y.drawing∈ds:=fun x hx y hy=>by
    refine Classical.byContradiction fun hn=>hit ?_
    exact List.any_eq_true.2 ⟨x,hx,List.any_eq_true.2 ⟨y,hy,by simpa using hn⟩⟩
   have hli:o8 l=true:=by
    simp only[o8,← h1,hs,Bool.and_eq_true,decide_eq_true_eq,List.all_eq_true]
    exact⟨⟨⟨by omega,rfl⟩,fun x hx y hy=>hall x hx y hy⟩,by omega⟩
   have hch:∀ n∈ds,∀ c∈Y6 l n,c∈ds:=fun n _ c hc=>by
    simp only[Y6,List.mem_flatMap,List.mem_map] at hc
    obtain⟨x,hx,y,hy,rfl⟩:=hc
    exact hall x ((List.mem_filter.1 hx).1) y hy
   have hnd:ds.Nodup:=h2.imp fun h=>Int.ne_of_lt h
   obtain⟨d1,d2⟩:=eV hnd hch
   have e1:T4 (w7 l) > (w7 l).length↔0<(n8 l ds).2.length:=by
    rw[d1];simp only[w7,← h1,List.length_map]
    exact gY _ ds _ (by omega)
   rw[if_neg (by simp[hli]:¬ o8 l=false)]
   by_cases hc:0<(n8 l ds).2.length
   ·rw[if_pos hc,if_pos (e1.2 hc)];exact⟨rfl,by simp⟩
   rw[if_neg hc,if_neg fun h=>hc (e1.1 h)]
   obtain⟨_,d4⟩:=d2 (by omega)
   have e2:T4 (w7 l) > 6↔(n8 l ds).1.any (fun p=>decide (6<p.2))=true:=by
    rw[d4];simp only[w7,← h1]
    exact gY _ ds 6 (by omega)
   by_cases h6:(n8 l ds).1.any (fun p=>decide (6<p.2))=true
   ·rw[if_pos h6,if_pos (e2.2 h6)];exact⟨rfl,by simp⟩
   ·rw[if_neg h6,if_neg fun h=>h6 (e2.1 h)];exact⟨rfl,fun _=>⟨h1,hli⟩⟩
open Go Go.Ab Tryz
variable {G:Cr}
theorem uN (l:List Issue):ImV (L6 l):=by unfold L6;split<;>simp[q9]
attribute [simp] uN
theorem uu {x:Issue} (h:m3 x=false) (p:Option Issue) (r:List Issue):l4 p (x :: r)=none:=by cases p<;>simp[l4,h]
def om (x:Issue):Nat→Bool
 | 0=>vL x
 | 1=>xC x
 | 2=>C4 x.drawing 0 x.items
 | _=>x.dims.all A4
theorem xD {x:Issue} {c:Nat} (h:om x c=false):m3 x=false:=by
 unfold m3
 match c with
 | 0=>simp only[om] at h;simp[h]
 | 1=>simp only[om] at h;simp[h]
 | 2=>simp only[om] at h;simp[h]
 | c+3=>simp only[om] at h;simp[h]
theorem xE {x:Issue} (h:∀ i<4,om x i=true):m3 x=true:=by
 have h0:=h 0 (by omega);have h1:=h 1 (by omega);have h2:=h 2 (by omega);have h3:=h 3 (by omega)
 simp only[om] at h0 h1 h2 h3
 simp[m3,h0,h1,h2,h3]
theorem O9 {l:List Issue} (h:l4 none l=none):F5 l=(20,[]):=by
 unfold F5;split
 ·rfl
 ·rw[h]
theorem sV {m:List (Int×Int)} {i:Nat} {a:List Value} {b:List IC} (h:(W2 m)[i]?=some (a,b)):∃ p,m[i]?=some p∧a=kI p.1∧b=[rI p.2]:=by
 rw[W2,List.getElem?_map,Option.map_eq_some_iff] at h
 obtain⟨p,h1,h2⟩:=h
 cases h2;exact⟨p,h1,rfl,rfl⟩
theorem nZ (m:List (Int×Int)) (i:Nat):(W2 m).eraseIdx i=W2 (m.eraseIdx i):=by
 simp only[W2,List.eraseIdx_eq_take_drop_succ,List.map_append,List.map_take,List.map_drop]
theorem tr {α:Type} {f:α→Bool} {l:List α} {i:Nat} {x:α} (h:l[i]?=some x) (hx:f x=false):l.any f=(l.eraseIdx i).any f:=by
 have hlt:=e7 h
 rw[List.eraseIdx_eq_take_drop_succ,List.any_append]
 conv=>lhs;rw[← List.take_append_drop i l,List.any_append,List.drop_eq_getElem_cons hlt,List.any_cons]
 rw[List.getElem?_eq_getElem hlt] at h
 cases h;rw[hx,Bool.false_or]
theorem yE (l:List Issue) (hG:G 1=some [.fn (.func 205) [],.fn (.func 206) [],.fn (.func 207) [],.fn (.func 208) []]) (hl:l.length<1000000) (hx:∀ x∈l,0≤x.kind∧x.kind≤255∧x.items.length<1000000∧x.dims.length<1000000):zP prog G 48 [B1 l] (.tup [L6 l,iv (F5 l).1]):=by
 refine zf func48 ntmps48 ?_
 try simp only[B1]
 have c1:=V9 (G:=G) 1 60 [(l.length:Int)] (by simp)
 by_cases hrange:l.length<1∨60<l.length
 ·have hr:([(l.length:Int)].all fun x=>decide (1≤x)&&decide (x≤60))=false:=by
   simp;omega
  simp only[hr] at c1
  have h20:F5 l=(20,[]):=by unfold F5;rw[if_pos hrange]
  have hs:=trivial
  repeat' first|(with_reducible first|refine zz ?_|refine zr ?_)|refine zt c1 ?_ ?_ ?_;(focus simp;done);(focus simp;done);try simp -dsimp[hs]|with_reducible refine dN (id:=1) (nt:=122) [0,1,2,3,4,5,6,8,9,11,12,13,15,24,26,27,28,29,33,34,35,41,44,55,68,73,76,94,96,97,98,99,105,112,114,116,120] rfl ?_;simp -dsimp[hs]|with_reducible refine zE [0,1,2,3,4,5,6,8,9,11,12,13,15,24,26,27,28,29,33,34,35,41,44,55,68,73,76,94,96,97,98,99,105,112,114,116,120] ?_;try simp -dsimp[hs]|refine j7 ?_ ?_<;>intro h<;>try simp only[j0] at h
  all_goals try simp -dsimp[hs]
  all_goals try clear hs
  all_goals simp[L6,h20]
 have hr:([(l.length:Int)].all fun x=>decide (1≤x)&&decide (x≤60))=true:=by
  simp;omega
 simp only[hr] at c1
 have hll:l.length≤60:=by omega
 have hs:=trivial
 repeat' first|with_reducible refine zz ?_|refine zt c1 ?_ ?_ ?_;(focus simp;done);(focus simp;done);try simp -dsimp[hs]|with_reducible refine dN (id:=1) (nt:=122) [0,1,2,3,4,5,6,8,9,11,12,13,15,24,26,27,28,29,33,34,35,41,44,55,68,73,76,94,96,97,98,99,105,112,114,116,120] rfl ?_;simp -dsimp[hs]|with_reducible refine zE [0,1,2,3,4,5,6,8,9,11,12,13,15,24,26,27,28,29,33,34,35,41,44,55,68,73,76,94,96,97,98,99,105,112,114,116,120] ?_;try simp -dsimp[hs]|refine j7 ?_ ?_<;>intro h<;>try simp only[j0] at h
 all_goals try simp -dsimp[hs]
 all_goals try clear hs
 refine i7 (ι:={ p:Nat×Nat×Nat×Bool×List Int // p.1≤l.length∧(p.2.1=1∨p.2.2.2.1=true)∧(l4 (G7 l p.1) (l.drop p.1)).map (p.2.2.2.2 ++ ·)=l4 none l∧p.2.2.2.2.length≤p.1∧∀ x∈l.take p.1,m3 x=true }) (fun p=>⟨122,[(1,.one (.ptr 0 0)),(2,.one (.im (.raw (.pointer none)))),(3,iv 0),(4,.one (.ptr 4 0)),(26,.one (.im (.sl (l.map e8)))),(27,iv (l.length:Int)),(28,iv (p.1.1:Int))],[.row [.im (.sl (l.map e8))],.vec 0 [] 0 true,.vec p.1.2.1 (p6 (p.1.2.2.2.2.map encI)) p.1.2.2.1 p.1.2.2.2.1,.row [.im (.sl (l.map e8)),.vec 2 p.1.2.2.1 0 p.1.2.2.2.2.length],.row [.ptr 3 0]]⟩) (fun p=>l.length-p.1.1) ⟨(0,0,0,true,[]),by simp[G7]⟩ (zw [1,2,3,4,26,27,28] 5) ?_
 rintro⟨⟨k,sz,g,nl,ds⟩,hk,hsz,hscan,hdl,hok⟩
 simp only at hk hsz hscan hdl hok
 simp only[iv]
 by_cases hlt:k<l.length
 ·have hx1:l[k]?=some l[k]:=by simp[hlt]
  have hw:=zk k
  have hxk:=hx l[k] (List.getElem_mem hlt)
  rw[List.drop_eq_getElem_cons hlt] at hscan
  have hs:=za hx1 (za hG hlt)
  repeat' first|with_reducible refine zz ?_|with_reducible refine zE [0,1,2,3,4,5,6,8,9,11,12,13,15,24,26,27,28,29,33,34,35,41,44,55,68,73,76,94,96,97,98,99,105,112,114,116,120] ?_;try simp -dsimp[hs]|refine j7 ?_ ?_<;>intro h<;>try simp only[j0] at h
  all_goals try simp -dsimp[hs]
  all_goals try clear hs
  have k1:=AQ (G:=G) l[k]
  have k2:=AP (G:=G) l[k] ⟨hxk.1,hxk.2.1⟩
  have k3:=AO (G:=G) l[k] hxk.2.2.1
  have k4:=AN (G:=G) l[k] hxk.2.2.2
  have hbad:∀ c,om l[k] c=false→F5 l=(20,[]):=fun c h=>O9 (by rw[← hscan,uu (xD h)];rfl)
  refine i7 (ι:={ c:Nat // c≤4∧∀ i<c,om l[k] i=true }) (fun c=>⟨122,[(1,.one (.ptr 0 0)),(2,.one (.im (.raw (.pointer none)))),(3,iv 0),(4,.one (.ptr 4 0)),(5,iv (k:Int)),(6,.one (.ptr 7 0)),(26,.one (.im (.sl (l.map e8)))),(27,iv (l.length:Int)),(28,iv (k:Int)),(33,.agg [.im (.fn (.func 205) []),.im (.fn (.func 206) []),.im (.fn (.func 207) []),.im (.fn (.func 208) [])]),(34,iv (c.1:Int))],[.row [.im (.sl (l.map e8))],.vec 0 [] 0 true,.vec sz (p6 (ds.map encI)) g nl,.row [.im (.sl (l.map e8)),.vec 2 g 0 ds.length],.row [.ptr 3 0],.vec 0 [] 0 true,.vec 0 [] 0 true,.row ((e8 l[k]).map .im)]⟩) (fun c=>4-c.1) ⟨0,by simp⟩ (zv [1,2,3,4,5,6,26,27,28,33,34]) ?_
  rintro⟨c,hc,hall⟩
  simp only[iv]
  by_cases hc4:c<4
  ·have hwc:=zk c
   match c,hc4,hc,hall,hwc with
   | 0,hc4,hc,hall,hwc =>
     have hq':vL l[k]=om l[k] 0:=rfl
     cases hq:om l[k] 0<;>simp only[hq',hq] at k1
     ·have h20:=hbad 0 hq
      have hs:=trivial
      repeat' first|(with_reducible first|refine zz ?_|refine zr ?_)|(first|refine zp k1 ?_|with_reducible refine zE [0,1,2,3,4,5,6,8,9,11,12,13,15,24,26,27,28,29,33,34,35,41,44,55,68,73,76,94,96,97,98,99,105,112,114,116,120] ?_);try simp -dsimp[hs]|refine j7 ?_ ?_<;>intro h<;>try simp only[j0] at h
      all_goals try simp -dsimp[hs]
      all_goals try clear hs
      all_goals simp[L6,h20]
     ·have hs:=hwc
      repeat' first|with_reducible refine zz ?_|(first|refine zp k1 ?_|with_reducible refine zE [0,1,2,3,4,5,6,8,9,11,12,13,15,24,26,27,28,29,33,34,35,41,44,55,68,73,76,94,96,97,98,99,105,112,114,116,120] ?_);try simp -dsimp[hs]|refine j7 ?_ ?_<;>intro h<;>try simp only[j0] at h
      all_goals try simp -dsimp[hs]
      all_goals try clear hs
      exact At.round ⟨1,by omega,fun i hi=>by
       rcases Nat.lt_succ_iff_lt_or_eq.1 hi with h|rfl
       ·exact hall i h
       ·exact hq⟩ (by simp) (zw [1,2,3,4,5,6,26,27,28,33,34] 8 (by simp;exact o6 (by omega) (by omega)))
   | 1,hc4,hc,hall,hwc =>
     have hq':xC l[k]=om l[k] 1:=rfl
     cases hq:om l[k] 1<;>simp only[hq',hq] at k2
     ·have h20:=hbad 1 hq
      have hs:=trivial
      repeat' first|(with_reducible first|refine zz ?_|refine zr ?_)|(first|refine zp k2 ?_|with_reducible refine zE [0,1,2,3,4,5,6,8,9,11,12,13,15,24,26,27,28,29,33,34,35,41,44,55,68,73,76,94,96,97,98,99,105,112,114,116,120] ?_);try simp -dsimp[hs]|refine j7 ?_ ?_<;>intro h<;>try simp only[j0] at h
      all_goals try simp -dsimp[hs]
      all_goals try clear hs
      all_goals simp[L6,h20]
     ·have hs:=hwc
      repeat' first|with_reducible refine zz ?_|(first|refine zp k2 ?_|with_reducible refine zE [0,1,2,3,4,5,6,8,9,11,12,13,15,24,26,27,28,29,33,34,35,41,44,55,68,73,76,94,96,97,98,99,105,112,114,116,120] ?_);try simp -dsimp[hs]|refine j7 ?_ ?_<;>intro h<;>try simp only[j0] at h
      all_goals try simp -dsimp[hs]
      all_goals try clear hs
      exact At.round ⟨2,by omega,fun i hi=>by
       rcases Nat.lt_succ_iff_lt_or_eq.1 hi with h|rfl
       ·exact hall i h
       ·exact hq⟩ (by simp) (zw [1,2,3,4,5,6,26,27,28,33,34] 8 (by simp;exact o6 (by omega) (by omega)))
   | 2,hc4,hc,hall,hwc =>
     have hq':C4 l[k].drawing 0 l[k].items=om l[k] 2:=rfl
     cases hq:om l[k] 2<;>simp only[hq',hq] at k3
     ·have h20:=hbad 2 hq
      have hs:=trivial
      repeat' first|(with_reducible first|refine zz ?_|refine zr ?_)|(first|refine zp k3 ?_|with_reducible refine zE [0,1,2,3,4,5,6,8,9,11,12,13,15,24,26,27,28,29,33,34,35,41,44,55,68,73,76,94,96,97,98,99,105,112,114,116,120] ?_);try simp -dsimp[hs]|refine j7 ?_ ?_<;>intro h<;>try simp only[j0] at h
      all_goals try simp -dsimp[hs]
      all_goals try clear hs
      all_goals simp[L6,h20]
     ·have hs:=hwc
      repeat' first|with_reducible refine zz ?_|(first|refine zp k3 ?_|with_reducible refine zE [0,1,2,3,4,5,6,8,9,11,12,13,15,24,26,27,28,29,33,34,35,41,44,55,68,73,76,94,96,97,98,99,105,112,114,116,120] ?_);try simp -dsimp[hs]|refine j7 ?_ ?_<;>intro h<;>try simp only[j0] at h
      all_goals try simp -dsimp[hs]
      all_goals try clear hs
      exact At.round ⟨3,by omega,fun i hi=>by
       rcases Nat.lt_succ_iff_lt_or_eq.1 hi with h|rfl
       ·exact hall i h
       ·exact hq⟩ (by simp) (zw [1,2,3,4,5,6,26,27,28,33,34] 8 (by simp;exact o6 (by omega) (by omega)))
   | 3,hc4,hc,hall,hwc =>
     have hq':l[k].dims.all A4=om l[k] 3:=rfl
     cases hq:om l[k] 3<;>simp only[hq',hq] at k4
     ·have h20:=hbad 3 hq
      have hs:=trivial
      repeat' first|(with_reducible first|refine zz ?_|refine zr ?_)|(first|refine zp k4 ?_|with_reducible refine zE [0,1,2,3,4,5,6,8,9,11,12,13,15,24,26,27,28,29,33,34,35,41,44,55,68,73,76,94,96,97,98,99,105,112,114,116,120] ?_);try simp -dsimp[hs]|refine j7 ?_ ?_<;>intro h<;>try simp only[j0] at h
      all_goals try simp -dsimp[hs]
      all_goals try clear hs
      all_goals simp[L6,h20]
     ·have hs:=hwc
      repeat' first|with_reducible refine zz ?_|(first|refine zp k4 ?_|with_reducible refine zE [0,1,2,3,4,5,6,8,9,11,12,13,15,24,26,27,28,29,33,34,35,41,44,55,68,73,76,94,96,97,98,99,105,112,114,116,120] ?_);try simp -dsimp[hs]|refine j7 ?_ ?_<;>intro h<;>try simp only[j0] at h
      all_goals try simp -dsimp[hs]
      all_goals try clear hs
      exact At.round ⟨4,by omega,fun i hi=>by
       rcases Nat.lt_succ_iff_lt_or_eq.1 hi with h|rfl
       ·exact hall i h
       ·exact hq⟩ (by simp) (zw [1,2,3,4,5,6,26,27,28,33,34] 8 (by simp;exact o6 (by omega) (by omega)))
  ·have hok1:m3 l[k]=true:=xE fun i hi=>hall i (by omega)
   clear k1 k2 k3 k4
   obtain rfl:c=4:=by omega
   have hokn:∀ x∈l.take (k+1),m3 x=true:=by
    rw[List.take_succ_eq_append_getElem hlt]
    intro x hx
    rcases List.mem_append.1 hx with h|h
    ·exact hok x h
    ·simp at h;rw[h];exact hok1
   have hnext:G7 l (k+1)=some l[k]:=by simp[G7]
   by_cases hk0:k=0
   ·subst hk0
    simp only[G7] at hscan
    by_cases h1:l[0].letter=1
    ·have hs:(l4 (G7 l 1) (l.drop 1)).map ((ds++[l[0].drawing]) ++ ·)=l4 none l:=by
      rw[hnext,← hscan];simp[l4,hok1,h1,Option.map_map,Function.comp_def]
     have hs:=za hx1 (za h1 (za hw hsz))
     repeat' first|(with_reducible first|refine zz ?_|refine And.intro (by omega) ?_)|refine o7 (id:=22) (nt:=122) 8 [0] [0,1,2,3,4,5,6,8,9,11,12,13,15,24,26,27,28,29,33,34,35,41,44,55,68,73,76,78,79,80,81,82,83,84,94,96,97,98,99,105,112,114,116,120] [0,1,2,3,4,5,6,8,9,11,12,13,15,24,26,27,28,29,33,34,35,41,44,55,68,73,76,94,96,97,98,99,105,112,114,116,120] mixed rfl (by kernel_rfl) ?_;simp -dsimp[hs]|with_reducible refine zE [0,1,2,3,4,5,6,8,9,11,12,13,15,24,26,27,28,29,33,34,35,41,44,55,68,73,76,94,96,97,98,99,105,112,114,116,120] ?_;try simp -dsimp[hs]|refine j7 ?_ ?_<;>intro h<;>try simp only[j0] at h
     all_goals try simp -dsimp[hs]
     all_goals try clear hs
     all_goals try omega
     exact zn ⟨(1,1,g+1,false,ds++[l[0].drawing]),by omega,.inl rfl,hs,by simp only[List.length_append,List.length_cons,List.length_nil];omega,hokn⟩ (zw [1,2,3,4,26,27,28] 5 (by simp;exact o6 (by omega) (by omega)))
    ·have h20:F5 l=(20,[]):=O9 (by rw[← hscan];simp[l4,hok1,h1])
     have hs:=za hx1 h1
     repeat' first|(with_reducible first|refine zz ?_|refine zr ?_)|with_reducible refine zE [0,1,2,3,4,5,6,8,9,11,12,13,15,24,26,27,28,29,33,34,35,41,44,55,68,73,76,94,96,97,98,99,105,112,114,116,120] ?_;try simp -dsimp[hs]|refine j7 ?_ ?_<;>intro h<;>try simp only[j0] at h
     all_goals try simp -dsimp[hs]
     all_goals try clear hs
     all_goals simp[L6,h20]
   ·obtain⟨m,rfl⟩:∃ m,k=m+1:=⟨k-1,by omega⟩
    have hw1:IntKind.i64.wrap (((m+1:Nat):Int)-1)=m:=o6 (by omega) (by omega) |>.trans (by omega)
    have hy:l[m]?=some l[m]:=by simp
    have hw2:IntKind.i64.wrap (m:Int)=m:=o6 (by omega) (by omega)
    have hoky:=hok l[m] (List.mem_take_iff_getElem.2 ⟨m,by omega,rfl⟩)
    have hlet:1≤l[m].letter∧l[m].letter≤8:=by simp[m3,vL] at hoky;omega
    have hwl:IntKind.i64.wrap (l[m].letter+1)=l[m].letter+1:=o6 (by omega) (by omega)
    simp only[G7,hy] at hscan
    have hs:=za hx1 (za hw (za hy (za hw1 (za hw2 (za hwl hsz)))))
    repeat' first|(with_reducible first|refine zz ?_|refine And.intro (by omega) ?_|refine zr ?_)|refine o7 (id:=22) (nt:=122) 8 [0] [0,1,2,3,4,5,6,8,9,11,12,13,15,24,26,27,28,29,33,34,35,41,44,55,68,73,76,78,79,80,81,82,83,84,94,96,97,98,99,105,112,114,116,120] [0,1,2,3,4,5,6,8,9,11,12,13,15,24,26,27,28,29,33,34,35,41,44,55,68,73,76,94,96,97,98,99,105,112,114,116,120] mixed rfl (by kernel_rfl) ?_;simp -dsimp[hs]|with_reducible refine zE [0,1,2,3,4,5,6,8,9,11,12,13,15,24,26,27,28,29,33,34,35,41,44,55,68,73,76,94,96,97,98,99,105,112,114,116,120] ?_;try simp -dsimp[hs]|refine j7 ?_ ?_<;>intro h<;>try simp only[j0] at h|with_reducible refine l9 ?_ ?_<;>intro h<;>have h0:=h<;>(try simp only[j0] at h)<;>have h2:=h<;>(try simp at h2)<;>(replace hs:=za h0 (za h (za h2 hs)))<;>simp -dsimp[hs]
    all_goals try simp -dsimp[hs]
    all_goals try clear hs
    all_goals try omega
    ·have a1:l[m].drawing=l[m+1].drawing:=by assumption
     have a2:¬ l[m].kind=l[m+1].kind:=by assumption
     have h20:F5 l=(20,[]):=O9 (by rw[← hscan];simp[l4,hok1,a1,a2])
     simp[L6,h20]
    ·have a1:l[m].drawing=l[m+1].drawing:=by assumption
     have a2:l[m].kind=l[m+1].kind:=by assumption
     have a3:l[m].letter+1=l[m+1].letter:=by assumption
     have hs:(l4 (G7 l (m+1+1)) (l.drop (m+1+1))).map (ds ++ ·)=l4 none l:=by
      rw[hnext,← hscan];simp[l4,hok1,a1,a2,a3]
     exact zn ⟨(m+1+1,sz,g,nl,ds),by omega,hsz,hs,by show ds.length≤m+1+1;omega,hokn⟩ (zw [1,2,3,4,26,27,28] 5 (by simp;try exact o6 (by omega) (by omega)))
    ·have a1:l[m].drawing=l[m+1].drawing:=by assumption
     have a2:¬ l[m].letter+1=l[m+1].letter:=by assumption
     have h20:F5 l=(20,[]):=O9 (by rw[← hscan];simp[l4,hok1,a1,a2])
     simp[L6,h20]
    ·have a1:¬ l[m].drawing=l[m+1].drawing:=by assumption
     have a2:l[m+1].drawing<l[m].drawing:=by assumption
     have h20:F5 l=(20,[]):=O9 (by rw[← hscan];simp[l4,hok1,a1,a2])
     simp[L6,h20]
    ·have a1:¬ l[m].drawing=l[m+1].drawing:=by assumption
     have a2:¬ l[m+1].drawing<l[m].drawing:=by assumption
     have a3:¬ l[m+1].letter=1:=by assumption
     have h20:F5 l=(20,[]):=O9 (by rw[← hscan];simp[l4,hok1,a1,a2,a3])
     simp[L6,h20]
    ·have a1:¬ l[m].drawing=l[m+1].drawing:=by assumption
     have a2:¬ l[m+1].drawing<l[m].drawing:=by assumption
     have a3:l[m+1].letter=1:=by assumption
     have hs:(l4 (G7 l (m+1+1)) (l.drop (m+1+1))).map ((ds++[l[m+1].drawing]) ++ ·)=l4 none l:=by
      rw[hnext,← hscan];simp[l4,hok1,a1,a2,a3,Option.map_map,Function.comp_def]
     exact zn ⟨(m+1+1,1,g+1,false,ds++[l[m+1].drawing]),by omega,.inl rfl,hs,by simp only[List.length_append,List.length_cons,List.length_nil];omega,hokn⟩ (zw [1,2,3,4,26,27,28] 5 (by simp;try exact o6 (by omega) (by omega)))
 ·have hkl:k=l.length:=by omega
  have hds:l4 none l=some ds:=by
   rw[← hscan,hkl,List.drop_length]
   cases G7 l l.length<;>simp[l4]
  obtain⟨s1,s2,_,s4,_⟩:=ao l none ds hds
  have hit:∀ x∈l,x.items.length≤16:=fun x hx'=>by
   have h:=s1 x hx'
   simp only[m3,xC,Bool.and_eq_true] at h
   have h:=h.1.1.2
   split at h
   ·simp at h;omega
   ·simp only[Bool.and_eq_true,decide_eq_true_eq] at h;rw[h.2];omega
  have hdl2:ds.length≤l.length:=by omega
  subst hkl
  by_cases hd20:20<ds.length
  ·have h20:F5 l=(20,[]):=by unfold F5;rw[if_neg hrange,hds];simp[hd20]
   have hd21:(20:Int)<(ds.length:Int):=by omega
   have hlt':¬ (ds.length:Int)≤20:=by omega
   have hs:=za hd21 hlt'
   repeat' first|(with_reducible first|refine zz ?_|refine zr ?_)|with_reducible refine zE [0,1,2,3,4,5,6,8,9,11,12,13,15,24,26,27,28,29,33,34,35,41,44,55,68,73,76,94,96,97,98,99,105,112,114,116,120] ?_;try simp -dsimp[hs]|refine j7 ?_ ?_<;>intro h<;>try simp only[j0] at h
   all_goals try simp -dsimp[hs]
   all_goals try clear hs
   all_goals simp[L6,h20]
  ·have hd21:¬ (20:Int)<(ds.length:Int):=by omega
   have hs:=hd21
   repeat' first|with_reducible refine zz ?_|with_reducible refine zE [0,1,2,3,4,5,6,8,9,11,12,13,15,24,26,27,28,29,33,34,35,41,44,55,68,73,76,94,96,97,98,99,105,112,114,116,120] ?_;try simp -dsimp[hs]|refine j7 ?_ ?_<;>intro h<;>try simp only[j0] at h
   all_goals try simp -dsimp[hs]
   all_goals try clear hs
   refine i7 (ι:={ p:Nat // p≤l.length∧(l.any fun x=>x.items.any fun y=>!decide (y.drawing∈ds))=((l.drop p).any fun x=>x.items.any fun y=>!decide (y.drawing∈ds)) }) (fun p=>⟨122,[(1,.one (.im (.ip [.sl (l.map e8)]))),(2,.one (.im (.raw (.pointer none)))),(3,iv 0),(4,.one (.im (.ip [q9 l ds]))),(96,.one (.im (.sl (l.map e8)))),(97,iv (l.length:Int)),(98,iv (p.1:Int))],[]⟩) (fun p=>l.length-p.1) ⟨0,by simp⟩ (zw [1,2,3,4,96,97,98] 0 (by simp[q9])) ?_
   clear hscan hok hx
   rintro⟨k,hk,hany⟩
   simp only[iv]
   by_cases hlt:k<l.length
   ·have hx1:l[k]?=some l[k]:=by simp[hlt]
    have hw:=zk k
    have hit1:=hit l[k] (List.getElem_mem hlt)
    have c3:=fun objs=>ga (G:=G) l[k].items (fun y=>!decide (y.drawing∈ds)) 103 [.im (.ip [q9 l ds])] objs (by simp) (fun y _=>wO y l ds s4 (by omega) objs) (by omega)
    rw[List.drop_eq_getElem_cons hlt,List.any_cons] at hany
    cases hq:l[k].items.any fun y=>!decide (y.drawing∈ds)
    ·simp only[hq] at c3
     rw[hq,Bool.false_or] at hany
     have hs:=za hx1 (za hw hlt)
     repeat' first|with_reducible refine zz ?_|(first|refine zp c3 ?_|with_reducible refine zE [0,1,2,3,4,5,6,8,9,11,12,13,15,24,26,27,28,29,33,34,35,41,44,55,68,73,76,94,96,97,98,99,105,112,114,116,120] ?_);try simp -dsimp[hs]|refine j7 ?_ ?_<;>intro h<;>try simp only[j0] at h
     all_goals try simp -dsimp[hs]
     all_goals try clear hs
     exact zn ⟨k+1,by omega,hany⟩ (zw [1,2,3,4,96,97,98] 0 (by simp[q9]))
    ·simp only[hq] at c3
     have h20:F5 l=(20,[]):=by unfold F5;rw[if_neg hrange,hds];simp only;rw[if_neg hd20,if_pos (by rw[hany,hq,Bool.true_or])]
     have hs:=za hx1 (za hw hlt)
     repeat' first|(with_reducible first|refine zz ?_|refine zr ?_)|(first|refine zp c3 ?_|with_reducible refine zE [0,1,2,3,4,5,6,8,9,11,12,13,15,24,26,27,28,29,33,34,35,41,44,55,68,73,76,94,96,97,98,99,105,112,114,116,120] ?_);try simp -dsimp[hs]|refine j7 ?_ ?_<;>intro h<;>try simp only[j0] at h
     all_goals try simp -dsimp[hs]
     all_goals try clear hs
     all_goals simp[L6,h20]
   ·have hall:(l.any fun x=>x.items.any fun y=>!decide (y.drawing∈ds))=false:=by rw[hany,List.drop_eq_nil_of_le (by omega)];rfl
    have c4:=vJ (G:=G) l ds s2 (by omega) (by omega) hit
    by_cases hc:0<(n8 l ds).2.length
    ·have h21:F5 l=(21,[]):=by unfold F5;rw[if_neg hrange,hds];simp only;rw[if_neg hd20,if_neg (by rw[hall];decide),if_pos hc]
     simp only[hc] at c4
     have hs:=hlt
     repeat' first|(with_reducible first|refine zz ?_|refine zr ?_)|(first|refine zp c4 ?_|with_reducible refine zE [0,1,2,3,4,5,6,8,9,11,12,13,15,24,26,27,28,29,33,34,35,41,44,55,68,73,76,94,96,97,98,99,105,112,114,116,120] ?_);try simp -dsimp[hs]|refine j7 ?_ ?_<;>intro h<;>try simp only[j0] at h
     all_goals try simp -dsimp[hs]
     all_goals try clear hs
     all_goals simp[L6,h21]
    simp only[hc] at c4
    have hE:F5 l=if (n8 l ds).1.any (fun p=>decide (6<p.2)) then (20,[]) else (0,ds):=by unfold F5;rw[if_neg hrange,hds];simp only;rw[if_neg hd20,if_neg (by rw[hall];decide),if_neg hc]
    have hs:=hlt
    repeat' first|with_reducible refine zz ?_|(first|refine zp c4 ?_|with_reducible refine zE [0,1,2,3,4,5,6,8,9,11,12,13,15,24,26,27,28,29,33,34,35,41,44,55,68,73,76,94,96,97,98,99,105,112,114,116,120] ?_);try simp -dsimp[hs]|refine j7 ?_ ?_<;>intro h<;>try simp only[j0] at h
    all_goals try simp -dsimp[hs]
    all_goals try clear hs
    refine i7 (ι:={ p:List (Int×Int)×Option (List Value×List IC) // (n8 l ds).1.any (fun q=>decide (6<q.2))=p.1.any (fun q=>decide (6<q.2)) }) (fun p=>⟨122,[(2,.one (.im (.raw (.pointer none)))),(3,iv 0),(4,.one (.im (.ip [q9 l ds]))),(114,.one (.itr 0))],[.iter (W2 p.1.1) p.1.2]⟩) (fun p=>p.1.1.length) ⟨((n8 l ds).1,none),rfl⟩ (zv [2,3,4,114]) ?_
    rintro⟨⟨left,cur⟩,hleft⟩
    simp only[iv]
    simp only at hleft
    have hs:=trivial
    repeat' first|(with_reducible first|refine zz ?_|refine zr ?_)|with_reducible refine zE [0,1,2,3,4,5,6,8,9,11,12,13,15,24,26,27,28,29,33,34,35,41,44,55,68,73,76,94,96,97,98,99,105,112,114,116,120] ?_;try simp -dsimp[hs]|refine j7 ?_ ?_<;>intro h<;>try simp only[j0] at h|with_reducible refine Z8 (fun h=>?_);(try simp only[List.map_eq_nil_iff] at h);(try subst h);try simp -dsimp[hs]|with_reducible refine And.intro ?_ ?_
    all_goals try simp -dsimp[hs]
    all_goals try clear hs
    ·have hl0:left=[]:=by simpa[W2] using ‹W2 left=[]›
     rw[hl0] at hleft
     have h0:F5 l=(0,ds):=by rw[hE,hleft];rfl
     simp[L6,h0]
    ·intro i a b hi
     obtain⟨p,hp,rfl,rfl⟩:=sV hi
     rw[nZ]
     by_cases h6:6<p.2
     ·have h20:F5 l=(20,[]):=by rw[hE,hleft,if_pos (List.any_eq_true.2 ⟨p,List.mem_of_getElem? hp,by simpa using h6⟩)]
      have hs:=h6
      repeat' first|(with_reducible first|refine zz ?_|refine zr ?_)|with_reducible refine zE [0,1,2,3,4,5,6,8,9,11,12,13,15,24,26,27,28,29,33,34,35,41,44,55,68,73,76,94,96,97,98,99,105,112,114,116,120] ?_;try simp -dsimp[hs]|refine j7 ?_ ?_<;>intro h<;>try simp only[j0] at h
      all_goals try simp -dsimp[hs]
      all_goals try clear hs
      all_goals simp[L6,h20]
     ·have hl1:left.any (fun q=>decide (6<q.2))=(left.eraseIdx i).any (fun q=>decide (6<q.2)):=tr hp (by simpa using h6)
      have hlen:(left.eraseIdx i).length<left.length:=by
       have:=e7 hp
       rw[List.length_eraseIdx];split<;>omega
      have hs:=h6
      repeat' first|with_reducible refine zz ?_|with_reducible refine zE [0,1,2,3,4,5,6,8,9,11,12,13,15,24,26,27,28,29,33,34,35,41,44,55,68,73,76,94,96,97,98,99,105,112,114,116,120] ?_;try simp -dsimp[hs]|refine j7 ?_ ?_<;>intro h<;>try simp only[j0] at h
      all_goals try simp -dsimp[hs]
      all_goals try clear hs
      exact At.round ⟨(left.eraseIdx i,some (kI p.1,[rI p.2])),hleft.trans hl1⟩ hlen (zv [2,3,4,114])
def B4 (G:Cr):Prop:=G 1=some [.fn (.func 205) [],.fn (.func 206) [],.fn (.func 207) [],.fn (.func 208) []]
def T3 (l:List Issue):Prop:=l.length≤80∧∀ x∈l,0≤x.kind∧x.kind≤255∧x.items.length≤16∧x.dims.length≤8
def aG (l:List Issue):DV:=if l8 l=0 then .one (.im (q9 l (nums l))) else .one (.im (.raw (.pointer none)))
theorem vQ (l:List Issue):ImV (aG l):=by unfold aG;split<;>simp[q9]
attribute [simp] vQ
theorem pu (l:List Issue):L6 l=aG l:=by
 obtain⟨h1,h2⟩:=aP l
 unfold L6 aG
 rw[h1] at h2 ⊢
 split
 ·rw[(h2 ‹_›).1]
 ·rfl
theorem eq (l:List Issue) (hG:B4 G) (hs:T3 l) (objs:List DObj):DCall prog G 48 [B1 l] objs (fun rr objs'=>rr=.tup [aG l,iv (l8 l)]∧objs'=objs):=by
 have h:=yE (G:=G) l hG (by have:=hs.1;omega) (fun x hx=>by have:=hs.2 x hx;omega) objs
 rw[pu,(aP l).1] at h
 exact h
theorem p4 {l:List Issue} (h:l8 l=0):o8 l=true:=((aP l).2 (by rw[(aP l).1];exact h)).2
theorem u4 {l:List Issue} (h:o8 l=true):l4 none l=some (nums l):=by
 simp only[o8,Bool.and_eq_true] at h
 obtain⟨ds,hds⟩:=Option.isSome_iff_exists.1 h.1.1.2
 rw[hds,cu hds]
theorem bc {l:List Issue} (h:l8 l=0):(l.map (·.drawing)).Pairwise (·≤·):=(B7 (u4 (p4 h))).2.2.2.2
theorem A5 {l:List Issue} (h:l8 l=0):(nums l).Pairwise (· < ·)∧∀ x∈l,x.drawing∈nums l:=⟨(B7 (u4 (p4 h))).2.1,(B7 (u4 (p4 h))).2.2.1⟩
theorem lX (l:List Issue) (hG:B4 G) (hs:T3 l):zP prog G 82 [B1 l] (iv (l8 l)):=by
 refine zf func82 ntmps82 ?_
 try simp only[B1]
 have c1:=eq l hG hs
 have hs:=trivial
 repeat' first|(with_reducible first|refine zz ?_|refine zr ?_|refine zE [0,1,2,4] ?_)|simp -dsimp[hs]|refine zp c1 ?_
 all_goals try clear hs
def jC (l:List Issue):List Int:=if l8 l=0 then nums l else []
theorem jB (l:List Issue) (hG:B4 G) (hs:T3 l):zP prog G 84 [B1 l] (.tup [C1 (jC l),iv (l8 l)]):=by
 refine zf func84 ntmps84 ?_
 try simp only[B1]
 have c1:=eq l hG hs
 by_cases h0:l8 l=0
 ·simp only[aG,h0,if_true,q9] at c1
  have hs:=trivial
  repeat' first|(with_reducible first|refine zz ?_|refine zr ?_|refine zE [0,1,2,3,4,5,12] ?_)|simp -dsimp[hs]|refine zp c1 ?_|refine j7 ?_ ?_<;>intro h<;>try simp only[j0] at h
  all_goals try clear hs
  simp[jC,h0]
 ·simp only[aG,h0,if_false] at c1
  have hs:=h0
  repeat' first|(with_reducible first|refine zz ?_|refine zr ?_|refine zE [0,1,2,3,4,5,12] ?_)|simp -dsimp[hs]|refine zp c1 ?_|refine j7 ?_ ?_<;>intro h<;>try simp only[j0] at h
  all_goals try clear hs
  all_goals simp[jC,h0]
def atR (l:List Issue) (d lt:Int):Issue:=if l8 l=0 then (q8 l d lt).getD O6 else O6
def zZ (l:List Issue) (d lt:Int):Int:=if l8 l≠0 then l8 l else if (q8 l d lt).isSome then 0 else 6
theorem AT (l:List Issue) (d lt:Int) (hG:B4 G) (hs:T3 l):zP prog G 12 [B1 l,B8 d lt] (.tup [D3 (atR l d lt),iv (zZ l d lt)]):=by
 refine zf func12 ntmps12 ?_
 try simp only[B1,B8]
 have c1:=eq l hG hs
 by_cases h0:l8 l=0
 ·simp only[aG,h0,if_true] at c1
  have c2:=ri (G:=G) l (nums l) d lt (bc h0) (by have:=hs.1;omega)
  simp only[B8] at c2
  cases hf:q8 l d lt with
  | none =>
    simp only[hf,Option.isSome_none,Option.getD_none] at c2
    have hs:=trivial
    repeat' first|(with_reducible first|refine zz ?_|refine zr ?_|refine zE [0,1,2,3,4,5,6,7,8,9,16,26] ?_)|simp -dsimp[hs]|refine zp c1 ?_|refine zp c2 ?_|refine j7 ?_ ?_<;>intro h<;>try simp only[j0] at h
    all_goals try clear hs
    all_goals simp[atR,zZ,h0,hf,O6]
  | some y =>
    simp only[hf,Option.isSome_some,Option.getD_some] at c2
    have hy:y∈l:=List.mem_of_find?_eq_some hf
    have c3:=vK (G:=G) y (hs.2 y hy).2.2.1 (hs.2 y hy).2.2.2
    have hs:=trivial
    repeat' first|(with_reducible first|refine zz ?_|refine zr ?_|refine zE [0,1,2,3,4,5,6,7,8,9,16,26] ?_)|simp -dsimp[hs]|refine zp c1 ?_|refine zp c2 ?_|refine zp c3 ?_|refine j7 ?_ ?_<;>intro h<;>try simp only[j0] at h
    all_goals try clear hs
    all_goals simp[atR,zZ,h0,hf]
 ·simp only[aG,h0,if_false] at c1
  have hs:=h0
  repeat' first|(with_reducible first|refine zz ?_|refine zr ?_|refine zE [0,1,2,3,4,5,6,7,8,9,16,26] ?_)|simp -dsimp[hs]|refine zp c1 ?_|refine j7 ?_ ?_<;>intro h<;>try simp only[j0] at h
  all_goals try clear hs
  all_goals simp[atR,zZ,h0,O6]
end Go.Proofs
