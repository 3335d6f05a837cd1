/- Part 14 of the proofs. -/
import Derived.Test.YtpcoahkgkgmmlaaGreatDoorS08
import Derived.Test.YtpcoahkgkgmmlaaGreatDoorS13
set_option linter.all false
set_option linter.deprecated false
set_option maxHeartbeats 100000000
namespace Go.Proofs
open Go Go.Ab Tryz
variable {G:Es}
def Z7 (D:List (Int×Int)) (L:List Int) (a:Int×Bool) (y:Itm):Int×Bool:=(max a.1 (n7 D y.drawing),a.2 && !decide (y.drawing∈L))
def R7 (D:List (Int×Int)) (L:List Int) (a:Int×Bool) (x:Issue):Int×Bool:=x.items.foldl (Z7 D L) a
def cw (l:List Issue) (n:Int):List Issue:=l.filter fun x=>decide (x.drawing=n)
def D4 (l:List Issue) (q:List (Int×Int)×List Int) (n:Int):List (Int×Int)×List Int:=
 let r:=(cw l n).foldl (R7 q.1 q.2) (0,decide (n∈q.2))
 if r.2 then (N1 n (r.1+1) q.1,q.2.erase n) else q
def an (l:List Issue) (ds:List Int) (q:List (Int×Int)×List Int):List (Int×Int)×List Int:=ds.foldl (D4 l) q
def ba (l:List Issue) (ds:List Int):Nat→List (Int×Int)×List Int→List (Int×Int)×List Int
 | 0,q=>q
 | k+1,q=>ba l ds k (an l ds q)
def fV (ds:List Int):List Int:=ds.foldl (fun l n=>qd n l) []
def r8 (l:List Issue) (ds:List Int):List (Int×Int)×List Int:=ba l ds ds.length ([],fV ds)
theorem LoopD.at_eta (r:LoopD) (st:LoopState) (p:Option Code):({ st:=st,pend:=p,nt:=r.nt,tm:=r.tm,ps:=r.ps,asg:=r.asg,body:=r.body }:LoopD)=r.at st p:=rfl
theorem vt {n:Int}:∀ {s:List Issue},(s.map (·.drawing)).Pairwise (·≤·)→(∀ x∈s,n≤x.drawing)→cw s n=s.takeWhile fun x=>decide (x.drawing=n)
 | [],_,_=>rfl
 | x :: s,hs,hg=>by
   rw[List.map_cons,List.pairwise_cons] at hs
   have ih:=vt hs.2 fun y hy=>hg y (by simp[hy])
   unfold cw at ih ⊢
   by_cases hx:x.drawing=n
   ·rw[List.filter_cons_of_pos (by simp[hx]),List.takeWhile_cons_of_pos (by simp[hx]),ih]
   ·rw[List.filter_cons_of_neg (by simp[hx]),List.takeWhile_cons_of_neg (by simp[hx]),List.filter_eq_nil_iff]
    intro y hy
    have h1:=hs.1 y.drawing (List.mem_map_of_mem hy)
    have h2:=hg x (by simp)
    simp;omega
theorem vv {l:List Issue} {n:Int} (hs:(l.map (·.drawing)).Pairwise (·≤·)):cw l n=(l.drop (lb (l.map (·.drawing)) n)).takeWhile fun x=>decide (x.drawing=n):=by
 have h1:cw l n=cw (l.drop (lb (l.map (·.drawing)) n)) n:=by
  conv=>lhs;rw[← List.take_append_drop (lb (l.map (·.drawing)) n) l]
  simp only[cw,List.filter_append]
  rw[List.filter_eq_nil_iff.2 fun x hx=>?_]
  ·rfl
  ·have:=qf hs x hx
   simp;omega
 rw[h1]
 exact vt (by rw[List.map_drop];exact hs.drop) (qg hs)
def bd (D:List (Int×Int)) (c:Nat):Prop:=∀ x∈D,0≤x.2∧x.2≤c
theorem sD {D:List (Int×Int)} {c:Nat} (h:bd D c) (n:Int):0≤n7 D n∧n7 D n≤c:=by
 induction D with
 | nil=>simp[n7]
 | cons p r ih =>
   simp only[n7]
   split
   ·exact h p (by simp)
   ·exact ih fun x hx=>h x (by simp[hx])
theorem rj {D:List (Int×Int)} {c:Nat} (h:bd D c) {n v:Int} (h1:0≤v) (h2:v≤c):bd (N1 n v D) c:=by
 induction D with
 | nil=>intro x hx;simp[N1] at hx;subst hx;exact⟨h1,h2⟩
 | cons p r ih =>
   simp only[N1]
   split
   ·intro x hx
    rcases List.mem_cons.1 hx with rfl|hx
    ·exact⟨h1,h2⟩
    ·exact h x (by simp[hx])
   ·intro x hx
    rcases List.mem_cons.1 hx with rfl|hx
    ·exact h x (by simp)
    ·exact ih (fun x hx=>h x (by simp[hx])) x hx
theorem ed {D:List (Int×Int)} {c c':Nat} (h:bd D c) (hc:c≤c'):bd D c':=fun x hx=>⟨(h x hx).1,by have:=(h x hx).2;omega⟩
theorem Cr {D:List (Int×Int)} {L:List Int} {c:Nat} (h:bd D c) {a:Int×Bool} (ha:0≤a.1∧a.1≤c) (y:Itm):0≤(Z7 D L a y).1∧(Z7 D L a y).1≤c:=by
 have:=sD h y.drawing
 simp only[Z7];omega
theorem wE (l:List Issue) (ds:List Int) (hs:(l.map (·.drawing)).Pairwise (·≤·)) (hl:l.length<1000000) (hds:ds.length<1000000) (hit:∀ x∈l,x.items.length≤16) (objs:List DObj):DCall prog G 105 [.one (.im (A2 l ds))] objs (fun rr objs'=>rr=.tup [.one (.im (.mp [.int .i64] (R4 (r8 l ds).1))),bv (decide (0<(r8 l ds).2.length))]∧objs'=objs):=by
 refine DCall.frame ?_ (by simp) (by simp) objs
 refine l5 func105 rfl ntmps105 (by simp) rfl ?_
 try simp only[iv]
 simp only[A2]
 have hs:True:=trivial
 repeat' first|(with_reducible first|refine tv ?_|refine tu ?_|refine xR ?_)|(with_reducible refine C7 [0,2,3,4,5,7,9,10,11,12,14,20,21,22,23,33,34,35,39,40,41,42,50,51,53,54,55,56,74] ?_;simp -dsimp[hs])
 all_goals try simp -dsimp[hs]
 all_goals try clear hs
 refine j7 (ι:={ p:Nat×List Int // p.1≤ds.length∧(ds.drop p.1).foldl (fun l n=>qd n l) p.2=fV ds }) (fun p=>⟨87,[(0,.one (.im (.ip [.sl (l.map j0),.sl (ds.map encI)]))),(4,.one (.ptr 1 0)),(5,.one (.ptr 3 0)),(20,.one (.im (.sl (ds.map encI)))),(21,iv (ds.length:Int)),(22,iv (p.1.1:Int))],[.map [.int .i64] [],.row [.map 0],.map [.int .i64] (L0 p.1.2),.row [.map 2]]⟩) (fun p=>ds.length-p.1.1) ⟨(0,[]),by simp[fV]⟩ (Weak.of_keep [0,4,5,20,21,22] (by simp[L0])) ?_
 rintro⟨⟨k,L⟩,hk,hL⟩
 simp only at hk hL
 simp only[iv]
 by_cases hlt:k<ds.length
 ·have hx:ds[k]?=some ds[k]:=by simp[hlt]
  have hw:IntKind.i64.wrap ((k:Int)+1)=((k+1:Nat):Int):=u7 (by omega) (by omega)
  have hs:True:=trivial
  repeat' first|(with_reducible first|refine tv ?_|refine Bo ?_|refine tu ?_|refine xR ?_|refine zF ?_)|(with_reducible refine C7 [0,2,3,4,5,7,9,10,11,12,14,20,21,22,23,33,34,35,39,40,41,42,50,51,53,54,55,56,74] ?_;simp -dsimp[hx,hw,hlt,hs])|(refine O3 rfl (fun h=>?_) (fun h=>?_)<;>(try simp only[l8] at h)<;>(try exact Bool.noConfusion h))
  all_goals try simp -dsimp[hx,hw,hlt,hs]
  all_goals try clear hs
  exact At.round ⟨(k+1,qd ds[k] L),by omega,by rw[← hL,List.drop_eq_getElem_cons hlt];rfl⟩ (by simp;omega) (Weak.of_keep [0,4,5,20,21,22] (by simp))
 have hs:True:=trivial
 repeat' first|(with_reducible first|refine tv ?_|refine BM ?_|refine BL ?_|refine tu ?_|refine xR ?_|refine BK ?_)|(with_reducible refine C7 [0,2,3,4,5,7,9,10,11,12,14,20,21,22,23,33,34,35,39,40,41,42,50,51,53,54,55,56,74] ?_;simp -dsimp[hlt,hs])|(refine O3 rfl (fun h=>?_) (fun h=>?_)<;>(try simp only[l8] at h)<;>(try exact Bool.noConfusion h))
 all_goals try simp -dsimp[hlt,hs]
 all_goals try clear hs
 have hL0:L=fV ds:=by rw[← hL,List.drop_eq_nil_of_le (by omega)];rfl
 clear hL hlt hk
 subst hL0
 refine j7 (ι:={ p:Nat×(List (Int×Int)×List Int) // p.1≤ds.length∧ba l ds (ds.length-p.1) p.2=r8 l ds∧bd p.2.1 (p.1*ds.length) }) (fun p=>⟨87,[(0,.one (.im (.ip [.sl (l.map j0),.sl (ds.map encI)]))),(4,.one (.ptr 1 0)),(5,.one (.ptr 3 0)),(33,iv (ds.length:Int)),(34,iv (p.1.1:Int))],[.map [.int .i64] (N2 p.1.2.1),.row [.map 0],.map [.int .i64] (L0 p.1.2.2),.row [.map 2]]⟩) (fun p=>ds.length-p.1.1) ⟨(0,([],fV ds)),by simp[r8,bd]⟩ (Weak.of_keep [0,4,5,33,34] (by simp[N2])) ?_
 rintro⟨⟨i,q⟩,hi,hq,hb⟩
 simp only at hi hq hb
 simp only[iv]
 by_cases hlt:i<ds.length
 ·have hw:IntKind.i64.wrap ((i:Int)+1)=((i+1:Nat):Int):=u7 (by omega) (by omega)
  have hmul:(i+1)*ds.length≤1000000*1000000:=Nat.mul_le_mul (by omega) (by omega)
  have hmul':(i+1)*ds.length=i*ds.length+ds.length:=by rw[Nat.add_mul,Nat.one_mul]
  have hs:True:=trivial
  repeat' first|(with_reducible first|refine tv ?_|refine tu ?_|refine xR ?_|refine zF ?_)|(with_reducible refine C7 [0,2,3,4,5,7,9,10,11,12,14,20,21,22,23,33,34,35,39,40,41,42,50,51,53,54,55,56,74] ?_;simp -dsimp[hlt,hs])|(refine O3 rfl (fun h=>?_) (fun h=>?_)<;>(try simp only[l8] at h)<;>(try exact Bool.noConfusion h))
  all_goals try simp -dsimp[hlt,hs]
  all_goals try clear hs
  refine j7 (ι:={ p:Nat×(List (Int×Int)×List Int) // p.1≤ds.length∧(ds.drop p.1).foldl (D4 l) p.2=an l ds q∧bd p.2.1 (i*ds.length+p.1) }) (fun p=>⟨87,[(0,.one (.im (.ip [.sl (l.map j0),.sl (ds.map encI)]))),(4,.one (.ptr 1 0)),(5,.one (.ptr 3 0)),(33,iv (ds.length:Int)),(34,iv (i:Int)),(39,.one (.im (.sl (ds.map encI)))),(40,iv (ds.length:Int)),(41,iv (p.1.1:Int))],[.map [.int .i64] (N2 p.1.2.1),.row [.map 0],.map [.int .i64] (L0 p.1.2.2),.row [.map 2]]⟩) (fun p=>ds.length-p.1.1) ⟨(0,q),by simp[an,hb]⟩ (Weak.of_keep [0,4,5,33,34,39,40,41] (by simp)) ?_
  rintro⟨⟨j,D,L⟩,hj,hq1,hb1⟩
  simp only at hj hq1 hb1
  simp only[iv]
  by_cases hlj:j<ds.length
  ·have hx:ds[j]?=some ds[j]:=by simp[hlj]
   have hwj:IntKind.i64.wrap ((j:Int)+1)=((j+1:Nat):Int):=u7 (by omega) (by omega)
   have c1:=kD (G:=G) (A2 l ds) ds[j]
   simp only[A2] at c1
   have hs:True:=trivial
   repeat' first|(with_reducible first|refine tv ?_|refine tu ?_|refine xR ?_|refine zF ?_)|(refine CallE.pure (c1) ?_;try simp -dsimp[hx,hwj,hlj,hs])|(refine p9 (id:=13) (nt:=87) 5 [0,1,2] [0,2,3,4,5,7,9,10,11,12,14,20,21,22,23,33,34,35,39,40,41,42,50,51,53,54,55,56,74] [0,2,3,4,5,7,9,10,11,12,14,20,21,22,23,33,34,35,39,40,41,42,50,51,53,54,55,56,74] mixed rfl (by kernel_rfl) ?_;simp -dsimp[hx,hwj,hlj,hs])|(with_reducible refine C7 [0,2,3,4,5,7,9,10,11,12,14,20,21,22,23,33,34,35,39,40,41,42,50,51,53,54,55,56,74] ?_;simp -dsimp[hx,hwj,hlj,hs])|(refine O3 rfl (fun h=>?_) (fun h=>?_)<;>(try simp only[l8] at h)<;>(try exact Bool.noConfusion h))
   all_goals try simp -dsimp[hx,hwj,hlj,hs]
   all_goals try clear hs
   have hseg:=vv (n:=ds[j]) hs
   refine R2 (f:=140) (by simp;exact rfl) (by rfl) call140 ?_
   generalize hR:LoopD.mk _ _ _ _ _ _ _=R
   have hR1:R.st=.ready:=by rw[← hR]
   have hR2:R.pend=none:=by rw[← hR]
   have hR3:R.at .ready none=R:=by rw[← hR];rfl
   have hR4:=(congrArg LoopD.nt hR).symm
   have hR5:=(congrArg LoopD.tm hR).symm
   have hR6:=(congrArg LoopD.ps hR).symm
   have hR7:=(congrArg LoopD.asg hR).symm
   have hR8:=(congrArg LoopD.body hR).symm
   dsimp only at hR4 hR5 hR6 hR7 hR8
   clear hR
   refine l5 func140 rfl ntmps140 (by simp) rfl ?_
   have hR9:∀ objs:List DObj,(R.tm.map fun x=>(x.1,aK 7 objs x.2))=R.tm:=by intro objs;rw[hR5];simp
   have hR10:∀ objs:List DObj,(R.tm.map fun x=>(x.1,aK 10 objs x.2))=R.tm:=by intro objs;rw[hR5];simp
   have hlb:=oK (l.map (·.drawing)) ds[j]
   rw[List.length_map] at hlb
   have c2:=fg (G:=G) l ds[j] hs hl
   have hs:True:=trivial
   repeat' first|(with_reducible first|refine tv ?_|refine tu ?_|refine xR ?_)|(refine az (c2) ?_;try simp -dsimp[hR1,hR2,hR3,hlb,hs])|(refine lj (id:=0) (nt:=41) 12 [0,1,2,4,7,24,25,26,27,39] mixed rfl (by kernel_rfl) ?_;simp -dsimp[hR1,hR2,hR3,hlb,hs])|(with_reducible refine C7 [0,1,2,3,4,5,7,9,10,11,12,14,20,21,22,23,24,25,26,27,33,34,35,39,40,41,42,50,51,53,54,55,56,74] ?_;simp -dsimp[hR1,hR2,hR3,hlb,hs])
   all_goals try simp -dsimp[hR1,hR2,hR3,hlb,hs]
   all_goals try clear hs
   rw[← List.map_drop]
   have hsl:l.length-lb (l.map (·.drawing)) ds[j]=(l.drop (lb (l.map (·.drawing)) ds[j])).length:=by simp
   rw[hsl]
   have hsl2:(l.drop (lb (l.map (·.drawing)) ds[j])).length<1000000:=by simp;omega
   have hsit:∀ x∈l.drop (lb (l.map (·.drawing)) ds[j]),x.items.length≤16:=fun x hx=>hit x (List.mem_of_mem_drop hx)
   generalize l.drop (lb (l.map (·.drawing)) ds[j])=s at hseg hsl2 hsit ⊢
   obtain⟨c,hc⟩:∃ c,c=i*ds.length+j:=⟨_,rfl⟩
   rw[← hc] at hb1
   refine j7 (ι:={ p:Nat×(Int×Bool) // p.1≤s.length∧((s.drop p.1).takeWhile fun x=>decide (x.drawing=ds[j])).foldl (R7 D L) p.2=(cw l ds[j]).foldl (R7 D L) (0,decide (ds[j]∈L))∧0≤p.2.1∧p.2.1≤(c:Int) }) (fun p=>⟨41,[(0,.one (.yld 6)),(2,.one (.im (.ip [rI ds[j]]))),(24,.one (.im (.sl (s.map j0)))),(25,iv (s.length:Int)),(26,iv (p.1.1:Int))],[.map [.int .i64] (N2 D),.row [.map 0],.map [.int .i64] (L0 L),.row [.map 2],.row [.im (rI p.1.2.1)],.row [.im (rB p.1.2.2)],.loop R]⟩) (fun p=>s.length-p.1.1) ⟨(0,(0,decide (ds[j]∈L))),by simp[hseg]⟩ (Weak.of_keep [0,2,24,25,26] (by simp)) ?_
   rintro⟨⟨k,m,r⟩,hk,ha,hm1,hm2⟩
   simp only at hk ha hm1 hm2
   simp only[iv]
   by_cases hls:k<s.length
   ·have hx1:s[k]?=some s[k]:=by simp[hls]
    have hwk:IntKind.i64.wrap ((k:Int)+1)=((k+1:Nat):Int):=u7 (by omega) (by omega)
    by_cases hd:s[k].drawing=ds[j]
    ·have hit1:=hsit s[k] (List.getElem_mem hls)
     have hs:True:=trivial
     repeat' first|(with_reducible first|refine tv ?_|refine tu ?_|refine xR ?_|refine zF ?_)|(refine ee ?_ ?_<;>simp -dsimp[hR1,hR2,hR3,hx1,hwk,hd,hls,hs])|(refine Z5 ?_;simp -dsimp[W8,hR4,hR5,hR6,hR7,hR8,hR1,hR2,hR3,hx1,hwk,hd,hls,hs])|(with_reducible refine C7 [0,1,2,3,4,5,7,9,10,11,12,14,20,21,22,23,24,25,26,27,33,34,35,39,40,41,42,50,51,53,54,55,56,74] ?_;simp -dsimp[hR1,hR2,hR3,hx1,hwk,hd,hls,hs])|(refine O3 rfl (fun h=>?_) (fun h=>?_)<;>(try simp only[l8] at h)<;>(try exact Bool.noConfusion h))
     all_goals try simp -dsimp[hR1,hR2,hR3,hx1,hwk,hd,hls,hs]
     all_goals try clear hs
     refine j7 (ι:={ p:Nat×(Int×Bool) // p.1≤s[k].items.length∧(s[k].items.drop p.1).foldl (Z7 D L) p.2=R7 D L (m,r) s[k]∧0≤p.2.1∧p.2.1≤(c:Int) }) (fun p=>⟨87,[(4,.one (.ptr 1 0)),(5,.one (.ptr 3 0)),(10,.one (.ptr 4 0)),(11,.one (.ptr 5 0)),(53,.one (.im (.sl (s[k].items.map l7)))),(54,iv (s[k].items.length:Int)),(55,iv (p.1.1:Int))],[.map [.int .i64] (N2 D),.row [.map 0],.map [.int .i64] (L0 L),.row [.map 2],.row [.im (rI p.1.2.1)],.row [.im (rB p.1.2.2)],.loop (R.at .busy none),.vec 0 [] 0 true,.vec 0 [] 0 true,.row [.im (rI ds[j]),.im (rI s[k].letter),.im (.raw (.int .u8 s[k].kind)),.im (.sl (s[k].items.map l7)),.im (.sl (s[k].dims.map l6))]]⟩) (fun p=>s[k].items.length-p.1.1) ⟨(0,(m,r)),by simp[R7,hm1,hm2]⟩ (Weak.of_drop [4,5,10,11,53,54,55] 10 (by simp) (by simp) (by simp[hR10,LoopD.at_eta])) ?_
     rintro⟨⟨u,m',r'⟩,hu,ha',hm1',hm2'⟩
     simp only at hu ha' hm1' hm2'
     simp only[iv]
     by_cases hlu:u<s[k].items.length
     ·have hx2:s[k].items[u]?=some s[k].items[u]:=by simp[hlu]
      have hwu:IntKind.i64.wrap ((u:Int)+1)=((u+1:Nat):Int):=u7 (by omega) (by omega)
      have hst:=Cr (L:=L) hb1 (a:=(m',r')) ⟨hm1',hm2'⟩ s[k].items[u]
      have hcs:(s[k].items.drop (u+1)).foldl (Z7 D L) (Z7 D L (m',r') s[k].items[u])=R7 D L (m,r) s[k]:=by rw[← ha',List.drop_eq_getElem_cons hlu];rfl
      have hs:True:=trivial
      repeat' first|(with_reducible first|refine tv ?_|refine Bo ?_|refine tu ?_|refine xR ?_|refine zF ?_)|(with_reducible refine C7 [0,1,2,3,4,5,7,9,10,11,12,14,20,21,22,23,24,25,26,27,33,34,35,39,40,41,42,50,51,53,54,55,56,74] ?_;simp -dsimp[hR1,hR2,hR3,hx2,hwu,hlu,hs])|(refine O3 rfl (fun h=>?_) (fun h=>?_)<;>(try simp only[l8] at h)<;>(try exact Bool.noConfusion h))|(with_reducible refine o4 ?_ ?_<;>intro h<;>have h0:=h<;>(try simp only[l8] at h)<;>(try exact Bool.noConfusion h)<;>have h2:=h<;>(try simp at h2)<;>(replace hs:=And.intro h0 (And.intro h (And.intro h2 hs)))<;>simp -dsimp[h0,h,h2,hR1,hR2,hR3,hx2,hwu,hlu,hs])
      all_goals try simp -dsimp[hR1,hR2,hR3,hx2,hwu,hlu,hs]
      all_goals try clear hs
      all_goals exact At.round ⟨(u+1,Z7 D L (m',r') s[k].items[u]),by omega,hcs,hst.1,hst.2⟩ (by simp;omega) (Weak.of_drop [4,5,10,11,53,54,55] 10 (by simp) (by simp) (by clear hR4 hR5 hR6 hR7 hR8;simp_all [Z7,hR10,LoopD.at_eta]))
     ·have htu:(m',r')=R7 D L (m,r) s[k]:=by rw[← ha',List.drop_eq_nil_of_le (by omega)];rfl
      have hcs:((s.drop (k+1)).takeWhile fun x=>decide (x.drawing=ds[j])).foldl (R7 D L) (m',r')=(cw l ds[j]).foldl (R7 D L) (0,decide (ds[j]∈L)):=by
       rw[← ha,List.drop_eq_getElem_cons hls,List.takeWhile_cons_of_pos (by simp[hd]),htu];rfl
      have hs:True:=trivial
      repeat' first|(with_reducible first|refine tv ?_|refine BM ?_|refine Bo ?_|refine BL ?_|refine tu ?_|refine zF ?_|refine BK ?_)|(with_reducible refine At.yield_end ?_;simp -dsimp[hR1,hR2,hR3,hlu,hwk,hs])|(with_reducible refine C7 [0,1,2,3,4,5,7,9,10,11,12,14,20,21,22,23,24,25,26,27,33,34,35,39,40,41,42,50,51,53,54,55,56,74] ?_;simp -dsimp[hR1,hR2,hR3,hlu,hwk,hs])|(refine O3 rfl (fun h=>?_) (fun h=>?_)<;>(try simp only[l8] at h)<;>(try exact Bool.noConfusion h))
      all_goals try simp -dsimp[hR1,hR2,hR3,hlu,hwk,hs]
      all_goals try clear hs
      exact At.round ⟨(k+1,(m',r')),by omega,hcs,hm1',hm2'⟩ (by simp;omega) (Weak.of_drop [0,2,24,25,26] 7 (by simp) (by simp) (by simp[hR9]))
    ·have htot:(m,r)=(cw l ds[j]).foldl (R7 D L) (0,decide (ds[j]∈L)):=by
      rw[← ha,List.drop_eq_getElem_cons hls,List.takeWhile_cons_of_neg (by simp[hd])];rfl
     have hdep:D4 l (D,L) ds[j]=if r then (N1 ds[j] (m+1) D,L.erase ds[j]) else (D,L):=by simp only[D4];rw[← htot]
     have hwm:IntKind.i64.wrap (m+1)=m+1:=u7 (by omega) (by omega)
     have hbn:bd (D4 l (D,L) ds[j]).1 (i*ds.length+(j+1)):=by
      rw[hdep];split
      ·exact rj (ed hb1 (by omega)) (by omega) (by omega)
      ·exact ed hb1 (by omega)
     have hqn:(ds.drop (j+1)).foldl (D4 l) (D4 l (D,L) ds[j])=an l ds q:=by rw[← hq1,List.drop_eq_getElem_cons hlj];rfl
     have hs:True:=trivial
     repeat' first|(with_reducible first|refine tv ?_|refine DP ?_|refine Bo ?_|refine DO ?_|refine tu ?_|refine xR ?_|refine zF ?_|refine Dx ?_)|(with_reducible refine At.fn_ret (by simp -dsimp[hR1,hR2,hR3,hx1,hwk,hd,hls,hwm,hwj,hs];exact rfl) ?_)|(with_reducible show A6 _ _ _ _ _ _ _ _;simp -dsimp[A6,hR1,hR2,hR3,hx1,hwk,hd,hls,hwm,hwj,hs])|(with_reducible refine C7 [0,1,2,3,4,5,7,9,10,11,12,14,20,21,22,23,24,25,26,27,33,34,35,39,40,41,42,50,51,53,54,55,56,74] ?_;simp -dsimp[hR1,hR2,hR3,hx1,hwk,hd,hls,hwm,hwj,hs])|(refine O3 rfl (fun h=>?_) (fun h=>?_)<;>(try simp only[l8] at h)<;>(try exact Bool.noConfusion h))
     all_goals try simp -dsimp[hR1,hR2,hR3,hx1,hwk,hd,hls,hwm,hwj,hs]
     all_goals try clear hs
     all_goals exact At.round ⟨(j+1,D4 l (D,L) ds[j]),by omega,hqn,hbn⟩ (by simp;omega) (Weak.of_drop [0,4,5,33,34,39,40,41] 4 (by simp) (by simp) (by simp_all))
   ·have htot:(m,r)=(cw l ds[j]).foldl (R7 D L) (0,decide (ds[j]∈L)):=by
     rw[← ha,List.drop_eq_nil_of_le (by omega)];rfl
    have hdep:D4 l (D,L) ds[j]=if r then (N1 ds[j] (m+1) D,L.erase ds[j]) else (D,L):=by simp only[D4];rw[← htot]
    have hwm:IntKind.i64.wrap (m+1)=m+1:=u7 (by omega) (by omega)
    have hbn:bd (D4 l (D,L) ds[j]).1 (i*ds.length+(j+1)):=by
     rw[hdep];split
     ·exact rj (ed hb1 (by omega)) (by omega) (by omega)
     ·exact ed hb1 (by omega)
    have hqn:(ds.drop (j+1)).foldl (D4 l) (D4 l (D,L) ds[j])=an l ds q:=by rw[← hq1,List.drop_eq_getElem_cons hlj];rfl
    have hs:True:=trivial
    repeat' first|(with_reducible first|refine tv ?_|refine BM ?_|refine Bo ?_|refine BL ?_|refine tu ?_|refine zF ?_|refine BK ?_)|(with_reducible refine At.fn_end (by simp -dsimp[hR1,hR2,hR3,hls,hwm,hwj,hs];exact rfl) ?_)|(with_reducible show A6 _ _ _ _ _ _ _ _;simp -dsimp[A6,hR1,hR2,hR3,hls,hwm,hwj,hs])|(with_reducible refine C7 [0,1,2,3,4,5,7,9,10,11,12,14,20,21,22,23,24,25,26,27,33,34,35,39,40,41,42,50,51,53,54,55,56,74] ?_;simp -dsimp[hR1,hR2,hR3,hls,hwm,hwj,hs])|(refine O3 rfl (fun h=>?_) (fun h=>?_)<;>(try simp only[l8] at h)<;>(try exact Bool.noConfusion h))
    all_goals try simp -dsimp[hR1,hR2,hR3,hls,hwm,hwj,hs]
    all_goals try clear hs
    all_goals exact At.round ⟨(j+1,D4 l (D,L) ds[j]),by omega,hqn,hbn⟩ (by simp;omega) (Weak.of_drop [0,4,5,33,34,39,40,41] 4 (by simp) (by simp) (by simp_all))
  ·have hq2:(D,L)=an l ds q:=by rw[← hq1,List.drop_eq_nil_of_le (by omega)];rfl
   have hs:True:=trivial
   repeat' first|(with_reducible first|refine tv ?_|refine BM ?_|refine Bo ?_|refine BL ?_|refine tu ?_|refine BK ?_)|(with_reducible refine C7 [0,2,3,4,5,7,9,10,11,12,14,20,21,22,23,33,34,35,39,40,41,42,50,51,53,54,55,56,74] ?_;simp -dsimp[hlj,hw,hs])|(refine O3 rfl (fun h=>?_) (fun h=>?_)<;>(try simp only[l8] at h)<;>(try exact Bool.noConfusion h))
   all_goals try simp -dsimp[hlj,hw,hs]
   all_goals try clear hs
   exact At.round ⟨(i+1,(D,L)),by omega,by rw[hq2,← hq,show ds.length-i=(ds.length-(i+1))+1 by omega];rfl,ed hb1 (by show _≤(i+1)*ds.length;omega)⟩ (by simp;omega) (Weak.of_keep [0,4,5,33,34] (by simp))
 ·have hq2:q=r8 l ds:=by rw[← hq,show ds.length-i=0 by omega];rfl
  have hs:True:=trivial
  repeat' first|(with_reducible first|refine tv ?_|refine BM ?_|refine BL ?_|refine tu ?_|refine BK ?_|refine Dx ?_)|(with_reducible refine At.fn_ret (by simp -dsimp[hlt,hs];exact rfl) ?_)|(with_reducible refine C7 [0,2,3,4,5,7,9,10,11,12,14,20,21,22,23,33,34,35,39,40,41,42,50,51,53,54,55,56,74] ?_;simp -dsimp[hlt,hs])|(refine O3 rfl (fun h=>?_) (fun h=>?_)<;>(try simp only[l8] at h)<;>(try exact Bool.noConfusion h))
  all_goals try simp -dsimp[hlt,hs]
  all_goals try clear hs
  all_goals simp[hq2]
end Go.Proofs
namespace Go.Proofs
open Go Go.Ab
def mx (f:Int→Int) (l:List Int):Int:=l.foldl (fun m c=>max m (f c)) 0
theorem bt (f:Int→Int):∀ (l:List Int) (a:Int),0≤a→l.foldl (fun m c=>max m (f c)) a=max a (mx f l)
 | [],a,h=>by simp[mx];omega
 | c :: l,a,h=>by
   have h1:=bt f l (max a (f c)) (by omega)
   have h2:=bt f l (max 0 (f c)) (by omega)
   simp only[mx,List.foldl_cons] at h1 h2 ⊢
   rw[h1,h2];omega
theorem L9 (f:Int→Int) (l:List Int):0≤mx f l:=by
 have:=bt f l 0 (by omega)
 unfold mx at *;omega
theorem kr {f:Int→Int} {l:List Int} {b:Int} (hb:0≤b) (h:∀ c∈l,f c≤b):mx f l≤b:=by
 induction l with
 | nil=>simpa[mx] using hb
 | cons c l ih =>
   have h1:=bt f l (max 0 (f c)) (by omega)
   have h2:=ih fun d hd=>h d (by simp[hd])
   have h3:=h c (by simp)
   simp only[mx,List.foldl_cons] at h1 h2 ⊢
   rw[h1];omega
theorem iK {f:Int→Int} {l:List Int} {c:Int} (h:c∈l):f c≤mx f l:=by
 induction l with
 | nil=>cases h
 | cons d l ih =>
   have h1:=bt f l (max 0 (f d)) (by omega)
   simp only[mx,List.foldl_cons] at h1 ⊢
   rw[h1]
   rcases List.mem_cons.1 h with rfl|h
   ·omega
   ·have:=ih h;simp only[mx] at this;omega
theorem oC {f g:Int→Int} {l:List Int} (h:∀ c∈l,f c=g c):mx f l=mx g l:=by
 have a:=kr (f:=f) (L9 g l) fun c hc=>by rw[h c hc];exact iK hc
 have b:=kr (f:=g) (L9 f l) fun c hc=>by rw[← h c hc];exact iK hc
 omega
def aN (l:List Issue) (n:Int):List Int:=(cw l n).flatMap fun x=>x.items.map (·.drawing)
theorem mn (D:List (Int×Int)) (L:List Int):∀ (ys:List Itm) (a:Int×Bool),ys.foldl (Z7 D L) a=((ys.map (·.drawing)).foldl (fun m c=>max m (n7 D c)) a.1,a.2&&(ys.map (·.drawing)).all fun c=>!decide (c∈L))
 | [],a=>by simp
 | y :: ys,a=>by simp only[List.foldl_cons,List.map_cons,List.all_cons,mn D L ys];simp[Z7,Bool.and_assoc]
theorem mo (D:List (Int×Int)) (L:List Int):∀ (xs:List Issue) (a:Int×Bool),xs.foldl (R7 D L) a=((xs.flatMap fun x=>x.items.map (·.drawing)).foldl (fun m c=>max m (n7 D c)) a.1,a.2&&(xs.flatMap fun x=>x.items.map (·.drawing)).all fun c=>!decide (c∈L))
 | [],a=>by simp
 | x :: xs,a=>by simp only[List.foldl_cons,List.flatMap_cons,List.foldl_append,List.all_append,mo D L xs];simp[R7,mn,Bool.and_assoc]
theorem dW (l:List Issue) (D:List (Int×Int)) (L:List Int) (n:Int) :
 D4 l (D,L) n=if n∈L∧∀ c∈aN l n,c∉L then (N1 n (mx (n7 D) (aN l n)+1) D,L.erase n) else (D,L):=by
 simp only[D4,mo]
 have e:((decide (n∈L)&&((cw l n).flatMap fun x=>x.items.map (·.drawing)).all fun c=>!decide (c∈L))=true)=(n∈L∧∀ c∈aN l n,c∉L):=by
  rw[Bool.and_eq_true,decide_eq_true_eq,List.all_eq_true]
  simp only[Bool.not_eq_true',decide_eq_false_iff_not];rfl
 by_cases h:n∈L∧∀ c∈aN l n,c∉L
 ·rw[if_pos (e.symm ▸ h),if_pos h];rfl
 ·rw[if_neg (e.symm ▸ h),if_neg h]
def Rr (l:List Issue):Nat→Int→Int
 | 0,_=>0
 | k+1,n=>1+mx (Rr l k) (aN l n)
theorem mK (l:List Issue) (k:Nat) (n:Int):0≤Rr l k n:=by
 cases k with
 | zero=>exact Int.le_refl _
 | succ k=>have:=L9 (Rr l k) (aN l n);simp only[Rr];omega
theorem xc (l:List Issue):∀ (k:Nat) (n:Int),Rr l k n≤k
 | 0,_=>Int.le_refl _
 | k+1,n=>by
   have:=kr (f:=Rr l k) (l:=aN l n) (b:=k) (by omega) fun c _=>xc l k c
   simp only[Rr];omega
theorem Z4 (D:List (Int×Int)) (n v m:Int):n7 (N1 n v D) m=if m=n then v else n7 D m:=by
 induction D with
 | nil=>by_cases h:n=m<;>simp[N1,n7,h,eq_comm]
 | cons p r ih =>
   simp only[N1]
   by_cases hp:p.1=n
   ·rw[if_pos hp]
    by_cases hm:m=n
    ·simp[n7,hm]
    ·simp[n7,hm,hp,Ne.symm hm]
   ·rw[if_neg hp]
    by_cases hm:m=n
    ·subst hm;simp[n7,hp];simpa using ih
    ·by_cases hq:p.1=m
     ·simp[n7,hq,hm]
     ·simp only[n7,if_neg hq,ih,if_neg hm]
theorem mb {D:List (Int×Int)} {n v:Int} {p:Int×Int} (h:p∈N1 n v D):p.1=n∨p∈D:=by
 induction D with
 | nil=>simp[N1] at h;simp[h]
 | cons q r ih =>
   simp only[N1] at h
   split at h
   ·rcases List.mem_cons.1 h with rfl|h
    ·exact .inl rfl
    ·exact .inr (by simp[h])
   ·rcases List.mem_cons.1 h with rfl|h
    ·exact .inr (by simp)
    ·rcases ih h with h|h
     ·exact .inl h
     ·exact .inr (by simp[h])
theorem qy {D:List (Int×Int)} {n v:Int} (h:(D.map (·.1)).Nodup):((N1 n v D).map (·.1)).Nodup:=by
 induction D with
 | nil=>simp[N1]
 | cons q r ih =>
   rw[List.map_cons,List.nodup_cons] at h
   simp only[N1]
   split
   ·rename_i hq;rw[List.map_cons,List.nodup_cons,← hq];exact h
   ·rename_i hq
    rw[List.map_cons,List.nodup_cons]
    refine⟨fun hm=>?_,ih h.2⟩
    obtain⟨p,hp,he⟩:=List.mem_map.1 hm
    rcases mb hp with h'|h'
    ·exact hq (by rw[← he];exact h')
    ·exact h.1 (by rw[← he];exact List.mem_map_of_mem h')
theorem tD {D:List (Int×Int)} (h:(D.map (·.1)).Nodup) {p:Int×Int} (hp:p∈D):n7 D p.1=p.2:=by
 induction D with
 | nil=>cases hp
 | cons q r ih =>
   rw[List.map_cons,List.nodup_cons] at h
   rcases List.mem_cons.1 hp with rfl|hp
   ·simp[n7]
   ·have hne:q.1≠p.1:=fun e=>h.1 (by rw[e];exact List.mem_map_of_mem hp)
    simp only[n7,if_neg hne];exact ih h.2 hp
theorem qA {D:List (Int×Int)} {n:Int} (h:n7 D n≠0):(n,n7 D n)∈D:=by
 induction D with
 | nil=>simp[n7] at h
 | cons q r ih =>
   simp only[n7] at h ⊢
   split at h
   ·rename_i e;rw[if_pos e,← e];simp
   ·rename_i e;rw[if_neg e];exact List.mem_cons_of_mem _ (ih h)
structure DInv (l:List Issue) (ds:List Int) (q:List (Int×Int)×List Int):Prop where
 nd:q.2.Nodup
 sub:∀ n∈q.2,n∈ds
 kd:(q.1.map (·.1)).Nodup
 ks:∀ p∈q.1,p.1∈ds∧p.1∉q.2
 val:∀ n∈ds,n∉q.2→1≤n7 q.1 n∧n7 q.1 n+q.2.length≤ds.length∧∀ k:Nat,n7 q.1 n≤k→Rr l k n=n7 q.1 n
theorem DInv.step {l:List Issue} {ds:List Int} (hch:∀ n∈ds,∀ c∈aN l n,c∈ds) {q:List (Int×Int)×List Int} (h:DInv l ds q) (n:Int):DInv l ds (D4 l q n)∧(D4 l q n).2.length≤q.2.length:=by
 obtain⟨D,L⟩:=q
 rw[dW]
 split
 ·rename_i hn
  obtain⟨hnL,hcL⟩:=hn
  have hnds:=h.sub n hnL
  have hlen:(L.erase n).length+1=L.length:=by
   rw[List.length_erase_of_mem hnL]
   have:=List.length_pos_of_mem hnL;omega
  have hmem:∀ m,m∈L.erase n↔m≠n∧m∈L:=fun m=>h.nd.mem_erase_iff
  have hc:∀ c∈aN l n,1≤n7 D c∧n7 D c+L.length≤ds.length∧∀ k:Nat,n7 D c≤k→Rr l k c=n7 D c:=fun c hc=>h.val c (hch n hnds c hc) (hcL c hc)
  have hLds:L.length≤ds.length:=h.nd.length_le_of_subset h.sub
  have hmxb:mx (n7 D) (aN l n)≤ds.length-L.length:=kr (by omega) fun c hc'=>by have:=(hc c hc').2.1;omega
  refine⟨⟨h.nd.erase n,fun m hm=>h.sub m ((hmem m).1 hm).2,qy h.kd,fun p hp=>?_,fun m hm hmL=>?_⟩,by simp only;omega⟩
  ·rcases mb hp with e|hp
   ·exact⟨by rw[e];exact hnds,fun hp'=>((hmem _).1 hp').1 e⟩
   ·exact⟨(h.ks p hp).1,fun hp'=>(h.ks p hp).2 ((hmem _).1 hp').2⟩
  ·simp only[Z4]
   by_cases e:m=n
   ·subst e
    rw[if_pos rfl]
    have h0:=L9 (n7 D) (aN l m)
    refine⟨by omega,by omega,fun k hk=>?_⟩
    obtain⟨j,rfl⟩:∃ j,k=j+1:=⟨k-1,by omega⟩
    simp only[Rr]
    rw[oC fun c hc'=>(hc c hc').2.2 j (by have:=iK (f:=n7 D) hc';omega)];omega
   ·rw[if_neg e]
    have hmL':m∉L:=fun hm'=>hmL ((hmem m).2 ⟨e,hm'⟩)
    obtain⟨a,b,c⟩:=h.val m hm hmL'
    exact⟨a,by simp only at b ⊢;omega,c⟩
 ·exact⟨h,Nat.le_refl _⟩
theorem DInv.fold {l:List Issue} {ds:List Int} (hch:∀ n∈ds,∀ c∈aN l n,c∈ds):∀ (ns:List Int) {q:List (Int×Int)×List Int},DInv l ds q→DInv l ds (ns.foldl (D4 l) q)∧(ns.foldl (D4 l) q).2.length≤q.2.length
 | [],_,h=>⟨h,Nat.le_refl _⟩
 | n :: ns,_,h=>by
   obtain⟨h1,h2⟩:=h.step hch n
   obtain⟨h3,h4⟩:=DInv.fold hch ns h1
   exact⟨h3,Nat.le_trans h4 h2⟩
def pA (l:List Issue) (L:List Int):Prop:=∀ n∈L,∃ c∈aN l n,c∈L
theorem mq {l:List Issue}:∀ (ns:List Int) (q:List (Int×Int)×List Int),(ns.foldl (D4 l) q).2.length=q.2.length→(∀ q' n,(D4 l q' n).2.length≤q'.2.length)→ns.foldl (D4 l) q=q∧∀ n∈ns,n∈q.2→∃ c∈aN l n,c∈q.2
 | [],q,_,_=>⟨rfl,by simp⟩
 | n :: ns,q,h,hle=>by
   have hmono:∀ (ns:List Int) (q:List (Int×Int)×List Int),(ns.foldl (D4 l) q).2.length≤q.2.length:=by
    intro ns
    induction ns with
    | nil=>exact fun q=>Nat.le_refl _
    | cons n ns ih=>exact fun q=>Nat.le_trans (ih _) (hle q n)
   rw[List.foldl_cons] at h ⊢
   have h1:=hmono ns (D4 l q n)
   have h2:=hle q n
   have h3:(D4 l q n).2.length=q.2.length:=by omega
   obtain⟨D,L⟩:=q
   have key:¬ (n∈L∧∀ c∈aN l n,c∉L):=by
    intro hc
    rw[dW,if_pos hc] at h3
    simp only[List.length_erase_of_mem hc.1] at h3
    have:=List.length_pos_of_mem hc.1;omega
   have he:D4 l (D,L) n=(D,L):=by rw[dW,if_neg key]
   rw[he] at h ⊢
   obtain⟨i1,i2⟩:=mq ns (D,L) h hle
   refine⟨i1,fun m hm hL=>?_⟩
   rcases List.mem_cons.1 hm with rfl|hm
   ·exact Classical.byContradiction fun hno=>key ⟨hL,fun c hc hcL=>hno ⟨c,hc,hcL⟩⟩
   ·exact i2 m hm hL
theorem ui (l:List Issue) (q:List (Int×Int)×List Int) (n:Int):(D4 l q n).2.length≤q.2.length:=by
 obtain⟨D,L⟩:=q
 rw[dW]
 split
 ·exact List.length_erase_le
 ·exact Nat.le_refl _
theorem fa {l:List Issue} {ds:List Int} (hch:∀ n∈ds,∀ c∈aN l n,c∈ds):∀ (k:Nat) (q:List (Int×Int)×List Int),DInv l ds q→DInv l ds (ba l ds k q)∧((ba l ds k q).2.length+k≤q.2.length∨(ba l ds k q).2=[]∨pA l (ba l ds k q).2)
 | 0,q,h=>⟨h,.inl (Nat.le_refl _)⟩
 | k+1,q,h=>by
   obtain⟨h1,h2⟩:=DInv.fold hch ds h
   change DInv l ds (an l ds q) at h1
   change (an l ds q).2.length≤q.2.length at h2
   obtain⟨h3,h4⟩:=fa hch k (an l ds q) h1
   refine⟨h3,?_⟩
   simp only[ba]
   rcases h4 with h4|h4
   ·by_cases e:(an l ds q).2.length=q.2.length
    ·obtain⟨e1,e2⟩:=mq ds q e (ui l)
     change an l ds q=q at e1
     have hst:pA l q.2:=fun n hn=>e2 n (h.sub n hn) hn
     have hall:∀ k,ba l ds k q=q:=by
      intro k
      induction k with
      | zero=>rfl
      | succ k ih=>simp only[ba,e1,ih]
     rw[e1,hall k]
     exact .inr (.inr hst)
    ·exact .inl (by omega)
   ·exact .inr h4
theorem pB {l:List Issue} {L:List Int} (h:pA l L):∀ (k:Nat) (n:Int),n∈L→Rr l k n=k
 | 0,_,_=>rfl
 | k+1,n,hn=>by
   obtain⟨c,hc,hcL⟩:=h n hn
   have h1:=pB h k c hcL
   have h2:=iK (f:=Rr l k) hc
   have h3:=xc l (k+1) n
   simp only[Rr] at h3 ⊢;omega
theorem kA {ds:List Int} (h:ds.Nodup):fV ds=ds:=by
 have gen:∀ (ds L:List Int),(L++ds).Nodup→ds.foldl (fun l n=>qd n l) L=L++ds:=by
  intro ds
  induction ds with
  | nil=>simp
  | cons d ds ih =>
    intro L hL
    have hd:d∉L:=fun hd=>by
     rw[List.nodup_append] at hL
     exact hL.2.2 d hd d (by simp) rfl
    rw[List.foldl_cons,qd,if_neg hd,ih _ (by simpa using hL)];simp
 exact gen ds [] h
theorem gv {l:List Issue} {ds:List Int} (hnd:ds.Nodup) (hch:∀ n∈ds,∀ c∈aN l n,c∈ds) :
 (0<(r8 l ds).2.length↔∃ n∈ds,Rr l (ds.length+1) n > ds.length) ∧
 ((r8 l ds).2.length=0→(∀ n∈ds,n7 (r8 l ds).1 n=Rr l (ds.length+1) n)∧((r8 l ds).1.any (fun p=>decide (6<p.2))=true↔∃ n∈ds,6<Rr l (ds.length+1) n)):=by
 have h0:DInv l ds ([],fV ds):=by
  rw[kA hnd]
  exact⟨hnd,fun n h=>h,by simp,by simp,fun n h h'=>absurd h h'⟩
 obtain⟨h1,h2⟩:=fa hch ds.length _ h0
 change DInv l ds (r8 l ds) at h1
 have h2:(r8 l ds).2.length+ds.length≤ds.length∨(r8 l ds).2=[]∨pA l (r8 l ds).2:=by
  have e:([],fV ds)=(([]:List (Int×Int)),ds):=by rw[kA hnd]
  unfold r8
  rw[e] at h2 ⊢
  exact h2
 have hst:0<(r8 l ds).2.length→pA l (r8 l ds).2:=by
  intro hp
  rcases h2 with h2|h2|h2
  ·omega
  ·rw[h2] at hp;cases hp
  ·exact h2
 have hval:∀ n∈ds,n∉(r8 l ds).2→Rr l (ds.length+1) n=n7 (r8 l ds).1 n∧1≤n7 (r8 l ds).1 n∧n7 (r8 l ds).1 n≤ds.length:=fun n hn hL=>by
  obtain⟨a,b,c⟩:=h1.val n hn hL
  exact⟨c _ (by omega),a,by omega⟩
 have hempty:(r8 l ds).2.length=0→∀ n,n∉(r8 l ds).2:=fun h n=>by
  rw[List.length_eq_zero_iff.1 h];simp
 refine⟨⟨fun hp=>?_,fun ⟨n,hn,hgt⟩=>?_⟩,fun hz=>⟨fun n hn=>(hval n hn (hempty hz n)).1.symm,?_,?_⟩⟩
 ·obtain⟨n,hn⟩:=List.exists_mem_of_length_pos hp
  exact⟨n,h1.sub n hn,by rw[pB (hst hp) _ n hn];omega⟩
 ·refine Nat.pos_of_ne_zero fun hz=>?_
  have:=hval n hn (hempty hz n);omega
 ·intro ha
  obtain⟨p,hp,h6⟩:=List.any_eq_true.1 ha
  have h6:6<p.2:=by simpa using h6
  have hk:=(h1.ks p hp).1
  exact⟨p.1,hk,by rw[(hval p.1 hk (hempty hz _)).1,tD h1.kd hp];exact h6⟩
 ·rintro⟨n,hn,h6⟩
  have hv:=hval n hn (hempty hz n)
  exact List.any_eq_true.2 ⟨_,qA (D:=(r8 l ds).1) (n:=n) (by omega),by simp;omega⟩
open Go Go.Ab Tryz
attribute [local simp] F0 setLp
variable {G:Es}
def E8 (l:List Issue):Nat→List Int
 | 0=>[]
 | k+1=>E8 l k++(match l[k]? with
   | some x=>if k=0∨(l[k-1]?).map Issue.drawing≠some x.drawing then [x.drawing] else []
   | none=>[])
def nums (l:List Issue):List Int:=E8 l l.length
theorem p8 (l:List Issue):∀ k,(E8 l k).length≤k
 | 0=>Nat.le_refl _
 | k+1=>by
   have:=p8 l k
   simp only[E8,List.length_append]
   split
   ·split<;>simp<;>omega
   ·simp;omega
theorem L8 (l:List Issue) (hl:l.length<1000000) (objs:List DObj):DCall prog G 11 [C8 l] objs (fun d objs'=>d=H0 (nums l)∧objs'=objs):=by
 refine DCall.frame ?_ (by simp) (by simp) objs
 refine l5 func11 rfl ntmps11 (by simp) rfl ?_
 simp only[C8,H0]
 have hs:=trivial
 repeat' first|(with_reducible first|refine zz ?_|refine zE [0,1,2,3,4,5,10,31] ?_)|simp -dsimp[hs]
 all_goals try clear hs
 refine j7 (ι:={ p:Nat×Nat×Bool // p.1≤l.length }) (fun p=>⟨37,[(1,.one (.ptr 0 0)),(3,.one (.vec 2 p.1.2.1 0 (E8 l p.1.1).length)),(4,iv (p.1.1:Int))],[.row [.im (.sl (l.map j0))],.vec 1 [] 0 true,.vec 1 (o7 ((E8 l p.1.1).map encI)) p.1.2.1 p.1.2.2]⟩) (fun p=>l.length-p.1.1) ⟨(0,0,true),by simp⟩ (zv [1,3,4] (by simp[iv,E8])) ?_
 rintro⟨⟨k,g,nl⟩,hk⟩
 have hlen:=p8 l k
 simp only[iv]
 by_cases hlt:k<l.length
 ·have hx:l[k]?=some l[k]:=by simp[hlt]
  have hw:=zk k
  by_cases hk0:k=0
  ·subst hk0
   have hs:=za hx hw
   repeat' first|(with_reducible first|refine zz ?_|refine And.intro (by omega) ?_|refine zr ?_ (by simp -dsimp[j0,rI,hs];exact rfl)|refine zE [0,1,2,3,4,5,10,31] ?_)|simp -dsimp[j0,rI,hs]|refine m5 ?_ ?_<;>intro h<;>try simp only[l8] at h
   all_goals try clear hs
   all_goals try omega
   have hs:E8 l 1=E8 l 0++[l[0].drawing]:=by simp[E8,hx]
   exact zn ⟨(1,g+1,false),by simp;omega⟩ (zw [1,3,4] 3 (by simp[hs,encI,rI];exact hw))
  ·obtain⟨m,hm⟩:∃ m,k=m+1:=⟨k-1,by omega⟩
   have hw1:IntKind.i64.wrap ((k:Int)-1)=m:=u7 (by omega) (by omega) |>.trans (by omega)
   have hy:l[m]?=some l[m]:=by simp
   have hs:=za hx (za hy (za hw (za hw1 hk0)))
   repeat' first|(with_reducible first|refine zz ?_|refine And.intro (by omega) ?_|refine zr ?_ (by simp -dsimp[j0,rI,hs];exact rfl)|refine zE [0,1,2,3,4,5,10,31] ?_)|simp -dsimp[j0,rI,hs]|refine m5 ?_ ?_<;>intro h<;>try simp only[l8] at h
   all_goals try clear hs
   all_goals try omega
   ·rename_i h
    have hs:E8 l (k+1)=E8 l k++[l[k].drawing]:=by
     simp only[E8,hx,show k-1=m from by omega,hy]
     simpa[hk0] using h
    exact zn ⟨(k+1,g+1,false),by simp;omega⟩ (zw [1,3,4] 3 (by simp[hs,encI,rI]))
   ·rename_i h
    have hs:E8 l (k+1)=E8 l k:=by
     simp only[E8,hx,show k-1=m from by omega,hy]
     simpa[hk0] using h
    exact zn ⟨(k+1,g,nl),by simp;omega⟩ (zv [1,3,4] (by simp[hs]))
 ·have hs:=hlt
  repeat' first|(with_reducible first|refine zz ?_|refine zr ?_|refine zE [0,1,2,3,4,5,10,31] ?_)|simp -dsimp[hs]|refine m5 ?_ ?_<;>intro h<;>try simp only[l8] at h
  all_goals try clear hs
  all_goals try omega
  have hkl:k=l.length:=by simp at hk;omega
  subst hkl
  rfl
end Go.Proofs
namespace Go.Proofs
open Go Go.Ab Tryz
variable {G:Es}
theorem xU (y:Itm) (l:List Issue) (ds:List Int) (hs:ds.Pairwise (·≤·)) (hl:ds.length<1000000):zP prog G 103 [wd y,.one (.im (.ip [A2 l ds]))] (bv (!decide (y.drawing∈ds))):=by
 refine zf func103 ntmps103 ?_
 try simp only[iv]
 have c1:=wn (G:=G) l ds y.drawing hs hl
 have hs:=trivial
 repeat' first|(with_reducible first|refine zz ?_|refine zr ?_|refine zE [0,1,2,3] ?_)|simp -dsimp[hs]|refine zp c1 ?_
 all_goals try clear hs
def o8 (x:Issue):Bool:=wK x&&yK x&&F4 x.drawing 0 x.items&&x.dims.all D8
def o3:Option Issue→List Issue→Option (List Int)
 | _,[]=>some []
 | some y,x :: r=>if o8 x=false then none else if y.drawing=x.drawing then (if y.letter+1≠x.letter∨y.kind≠x.kind then none else o3 (some x) r) else if y.drawing > x.drawing then none else if x.letter≠1 then none else (o3 (some x) r).map (x.drawing :: ·)
 | none,x :: r=>if o8 x=false then none else if x.letter≠1 then none else (o3 (some x) r).map (x.drawing :: ·)
theorem gL {x:Issue} (h:o8 x=false) {p:Option Issue} {r:List Issue}:o3 p (x :: r)=none:=by cases p<;>simp[o3,h]
theorem bn:∀ (l:List Issue) (p:Option Issue) (ds:List Int),o3 p l=some ds →
 (∀ x∈l,o8 x=true)∧(l.map (·.drawing)).Pairwise (·≤·)∧(∀ y,p=some y→∀ x∈l,y.drawing≤x.drawing)∧ds.Pairwise (·≤·)∧(∀ d∈ds,∃ x∈l,x.drawing=d)
 | [],p,ds,h=>by
   have:ds=[]:=by cases p<;>simp[o3] at h<;>exact h
   subst this;simp
 | x :: r,p,ds,h=>by
   have hok:o8 x=true:=by
    cases hx:o8 x
    ·rw[gL hx] at h;cases h
    ·rfl
   have key:∃ ds',o3 (some x) r=some ds'∧(ds=ds'∨ds=x.drawing :: ds')∧∀ y,p=some y→y.drawing≤x.drawing:=by
    cases p with
    | none =>
      simp only[o3,hok] at h
      split at h
      ·cases h
      ·split at h
       ·cases h
       ·obtain⟨ds',h1,h2⟩:=Option.map_eq_some_iff.1 h
        exact⟨ds',h1,.inr h2.symm,by simp⟩
    | some y =>
      simp only[o3,hok] at h
      split at h
      ·cases h
      ·split at h
       ·rename_i hd
        split at h
        ·cases h
        ·exact⟨ds,h,.inl rfl,fun y' e=>by cases e;omega⟩
       ·split at h
        ·cases h
        ·split at h
         ·cases h
         ·obtain⟨ds',h1,h2⟩:=Option.map_eq_some_iff.1 h
          exact⟨ds',h1,.inr h2.symm,fun y' e=>by cases e;omega⟩
   obtain⟨ds',h1,h2,h3⟩:=key
   obtain⟨i1,i2,i3,i4,i5⟩:=bn r (some x) ds' h1
   refine⟨fun z hz=>?_,?_,fun y hy z hz=>?_,?_,fun d hd=>?_⟩
   ·rcases List.mem_cons.1 hz with rfl|hz
    ·exact hok
    ·exact i1 z hz
   ·rw[List.map_cons,List.pairwise_cons]
    refine⟨fun d hd=>?_,i2⟩
    obtain⟨z,hz,rfl⟩:=List.mem_map.1 hd
    exact i3 x rfl z hz
   ·have:=h3 y hy
    rcases List.mem_cons.1 hz with rfl|hz
    ·exact this
    ·have:=i3 x rfl z hz;omega
   ·rcases h2 with rfl|rfl
    ·exact i4
    ·rw[List.pairwise_cons]
     refine⟨fun d hd=>?_,i4⟩
     obtain⟨z,hz,rfl⟩:=i5 d hd
     exact i3 x rfl z hz
   ·rcases h2 with rfl|rfl
    ·obtain⟨z,hz,e⟩:=i5 d hd
     exact⟨z,by simp[hz],e⟩
    ·rcases List.mem_cons.1 hd with rfl|hd
     ·exact⟨x,by simp,rfl⟩
     ·obtain⟨z,hz,e⟩:=i5 d hd
      exact⟨z,by simp[hz],e⟩
def H4 (l:List Issue):Int×List Int:=
 if l.length<1∨60<l.length then (20,[]) else match o3 none l with
 | none=>(20,[])
 | some ds=>if 20<ds.length then (20,[]) else if l.any (fun x=>x.items.any fun y=>!decide (y.drawing∈ds)) then (20,[]) else
   if 0<(r8 l ds).2.length then (21,[]) else if (r8 l ds).1.any (fun p=>decide (6<p.2)) then (20,[]) else (0,ds)
def P4 (l:List Issue):DV:=if (H4 l).1=0 then .one (.im (A2 l (H4 l).2)) else .one (.im (.raw (.pointer none)))
end Go.Proofs
namespace Go.Proofs
open Go Go.Ab
def J0 (l:List Issue):Nat→Option Issue
 | 0=>none
 | k+1=>l[k]?
theorem dB {p:Option Issue} {x:Issue} {r:List Issue} {ds:List Int} (h:o3 p (x :: r)=some ds) :
 ∃ ds',o3 (some x) r=some ds'∧o8 x=true∧((∃ y,p=some y∧y.drawing=x.drawing∧ds=ds')∨((∀ y,p=some y→y.drawing<x.drawing)∧ds=x.drawing :: ds')):=by
 have hok:o8 x=true:=by
  cases hx:o8 x
  ·rw[gL hx] at h;cases h
  ·rfl
 cases p with
 | none =>
   simp only[o3,hok] at h
   split at h
   ·cases h
   ·split at h
    ·cases h
    ·obtain⟨ds',h1,h2⟩:=Option.map_eq_some_iff.1 h
     exact⟨ds',h1,hok,.inr ⟨by simp,h2.symm⟩⟩
 | some y =>
   simp only[o3,hok] at h
   split at h
   ·cases h
   ·split at h
    ·rename_i hd
     split at h
     ·cases h
     ·exact⟨ds,h,hok,.inl ⟨y,rfl,hd,rfl⟩⟩
    ·split at h
     ·cases h
     ·split at h
      ·cases h
      ·obtain⟨ds',h1,h2⟩:=Option.map_eq_some_iff.1 h
       exact⟨ds',h1,hok,.inr ⟨fun y' e=>by cases e;omega,h2.symm⟩⟩
theorem rV {l:List Issue} {ds:List Int} (h:o3 none l=some ds):∀ k,k≤l.length→∃ ds',o3 (J0 l k) (l.drop k)=some ds'∧ds=E8 l k++ds'
 | 0,_=>⟨ds,by simpa[J0] using h,by simp[E8]⟩
 | k+1,hk=>by
   obtain⟨ds',h1,h2⟩:=rV h k (by omega)
   have hlt:k<l.length:=by omega
   have hx:l[k]?=some l[k]:=by simp[hlt]
   rw[List.drop_eq_getElem_cons hlt] at h1
   obtain⟨ds'',h3,_,h4⟩:=dB h1
   refine⟨ds'',by simpa[J0,hx] using h3,?_⟩
   rw[h2]
   simp only[E8,hx,List.append_assoc]
   congr 1
   rcases h4 with⟨y,h5,h6,rfl⟩|⟨h5,rfl⟩
   ·cases k with
    | zero=>simp[J0] at h5
    | succ m=>simp only[J0] at h5;simp[h5,h6]
   ·cases k with
    | zero=>simp
    | succ m =>
      have hy:l[m]?=some l[m]:=by simp
      have:=h5 l[m] (by simp[J0,hy])
      rw[if_pos (.inr (by simp only[Nat.add_sub_cancel,hy,Option.map_some,ne_eq,Option.some.injEq];omega))];rfl
theorem dC {l:List Issue} {ds:List Int} (h:o3 none l=some ds):ds=nums l:=by
 obtain⟨ds',h1,h2⟩:=rV h l.length (Nat.le_refl _)
 rw[List.drop_length] at h1
 have:ds'=[]:=by
  cases hp:J0 l l.length<;>rw[hp] at h1<;>simp[o3] at h1<;>exact h1
 rw[h2,this,List.append_nil];rfl
theorem rW:∀ (l:List Issue) (p:Option Issue) (ds:List Int),o3 p l=some ds→ds.Pairwise (· < ·)∧∀ y,p=some y→∀ d∈ds,y.drawing<d
 | [],p,ds,h=>by
   have:ds=[]:=by cases p<;>simp[o3] at h<;>exact h
   subst this;simp
 | x :: r,p,ds,h=>by
   obtain⟨ds',h1,_,h2⟩:=dB h
   obtain⟨i1,i2⟩:=rW r (some x) ds' h1
   rcases h2 with⟨y,rfl,h3,rfl⟩|⟨h3,rfl⟩
   ·exact⟨i1,fun y' e d hd=>by cases e;rw[h3];exact i2 x rfl d hd⟩
   ·refine⟨List.pairwise_cons.2 ⟨i2 x rfl,i1⟩,fun y e d hd=>?_⟩
    have:=h3 y e
    rcases List.mem_cons.1 hd with rfl|hd
    ·exact this
    ·have:=i2 x rfl d hd;omega
theorem vw {l:List Issue} {ds:List Int} (h:o3 none l=some ds):∀ (p:Option Issue) (r:List Issue) (ds:List Int),o3 p r=some ds→∀ x∈r,x.drawing∈ds∨∃ y,p=some y∧y.drawing=x.drawing:=by
 intro p r
 induction r generalizing p with
 | nil=>intro ds _ x hx;cases hx
 | cons z r ih =>
   intro ds hds x hx
   obtain⟨ds',h1,_,h2⟩:=dB hds
   have key:x.drawing∈ds'∨z.drawing=x.drawing:=by
    rcases List.mem_cons.1 hx with rfl|hx
    ·exact .inr rfl
    ·rcases ih (some z) ds' h1 x hx with h|⟨y,hy,he⟩
     ·exact .inl h
     ·cases hy;exact .inr he
   rcases h2 with⟨y,rfl,h3,rfl⟩|⟨_,rfl⟩
   ·rcases key with h|h
    ·exact .inl h
    ·exact .inr ⟨y,rfl,by omega⟩
   ·rcases key with h|h
    ·exact .inl (by simp[h])
    ·exact .inl (by simp[h])
theorem F1 {l:List Issue} {ds:List Int} (h:o3 none l=some ds):ds=nums l∧ds.Pairwise (· < ·)∧(∀ x∈l,x.drawing∈ds)∧(∀ x∈l,o8 x=true)∧(l.map (·.drawing)).Pairwise (·≤·):=by
 obtain⟨a1,a2,_,_,_⟩:=bn l none ds h
 refine⟨dC h,(rW l none ds h).1,fun x hx=>?_,a1,a2⟩
 rcases vw h none l ds h x hx with h|⟨y,hy,_⟩
 ·exact h
 ·cases hy
def u6 (l:List Issue):Bool:=decide (1≤l.length∧l.length≤60)&&(o3 none l).isSome&&l.all (fun x=>x.items.all fun y=>decide (y.drawing∈nums l))&&decide ((nums l).length≤20)
def B5 (l:List Issue):List Int:=(nums l).map (Rr l ((nums l).length+1))
def X0 (l:List Int):Int:=l.foldl max 0
def o6 (l:List Issue):Int:=if u6 l=false then 20 else if X0 (B5 l) > (B5 l).length then 21 else if X0 (B5 l) > 6 then 20 else 0
theorem jp (f:Int→Int) (l:List Int) (b:Int) (hb:0≤b):X0 (l.map f) > b↔∃ n∈l,f n > b:=by
 have:X0 (l.map f)=mx f l:=by simp[X0,mx,List.foldl_map]
 rw[this]
 constructor
 ·intro h
  refine Classical.byContradiction fun hno=>?_
  have:=kr (f:=f) (l:=l) hb fun c hc=>Int.not_lt.1 fun hlt=>hno ⟨c,hc,hlt⟩
  omega
 ·rintro⟨n,hn,h⟩
  have:=iK (f:=f) hn;omega
theorem bP (l:List Issue):(H4 l).1=o6 l∧((H4 l).1=0→(H4 l).2=nums l∧u6 l=true):=by
 unfold H4 o6
 by_cases hr:l.length<1∨60<l.length
 ·have:u6 l=false:=by simp[u6];intro h1 h2;omega
  rw[if_pos hr,if_pos this];exact⟨rfl,by simp⟩
 rw[if_neg hr]
 cases hs:o3 none l with
 | none =>
   have:u6 l=false:=by simp[u6,hs]
   rw[if_pos this];exact⟨rfl,by simp⟩
 | some ds =>
   obtain⟨h1,h2,h3,h4,h5⟩:=F1 hs
   simp only
   by_cases h20:20<ds.length
   ·have:u6 l=false:=by simp[u6,← h1];intro _ _ _;omega
    rw[if_pos h20,if_pos this];exact⟨rfl,by simp⟩
   rw[if_neg h20]
   by_cases hit:l.any (fun x=>x.items.any fun y=>!decide (y.drawing∈ds))=true
   ·have:u6 l=false:=by
     simp only[u6,← h1]
     have:l.all (fun x=>x.items.all fun y=>decide (y.drawing∈ds))=false:=by
      rw[← Bool.not_eq_true,List.all_eq_true]
      intro hall
      obtain⟨x,hx,hy⟩:=List.any_eq_true.1 hit
      obtain⟨y,hy,hn⟩:=List.any_eq_true.1 hy
      have:=List.all_eq_true.1 (hall x hx) y hy
      simp at hn this;exact hn this
     simp[this]
    rw[if_pos hit,if_pos this];exact⟨rfl,by simp⟩
   rw[if_neg hit]
   have hall:∀ x∈l,∀ y∈x.items,y.drawing∈ds:=fun x hx y hy=>by
    refine Classical.byContradiction fun hn=>hit ?_
    exact List.any_eq_true.2 ⟨x,hx,List.any_eq_true.2 ⟨y,hy,by simpa using hn⟩⟩
   have hli:u6 l=true:=by
    simp only[u6,← h1,hs,Bool.and_eq_true,decide_eq_true_eq,List.all_eq_true]
    exact⟨⟨⟨by omega,rfl⟩,fun x hx y hy=>hall x hx y hy⟩,by omega⟩
   have hch:∀ n∈ds,∀ c∈aN l n,c∈ds:=fun n _ c hc=>by
    simp only[aN,List.mem_flatMap,List.mem_map] at hc
    obtain⟨x,hx,y,hy,rfl⟩:=hc
    exact hall x ((List.mem_filter.1 hx).1) y hy
   have hnd:ds.Nodup:=h2.imp fun h=>Int.ne_of_lt h
   obtain⟨d1,d2⟩:=gv hnd hch
   have e1:X0 (B5 l) > (B5 l).length↔0<(r8 l ds).2.length:=by
    rw[d1];simp only[B5,← h1,List.length_map]
    exact jp _ ds _ (by omega)
   rw[if_neg (by simp[hli]:¬ u6 l=false)]
   by_cases hc:0<(r8 l ds).2.length
   ·rw[if_pos hc,if_pos (e1.2 hc)];exact⟨rfl,by simp⟩
   rw[if_neg hc,if_neg fun h=>hc (e1.1 h)]
   obtain⟨_,d4⟩:=d2 (by omega)
   have e2:X0 (B5 l) > 6↔(r8 l ds).1.any (fun p=>decide (6<p.2))=true:=by
    rw[d4];simp only[B5,← h1]
    exact jp _ ds 6 (by omega)
   by_cases h6:(r8 l ds).1.any (fun p=>decide (6<p.2))=true
   ·rw[if_pos h6,if_pos (e2.2 h6)];exact⟨rfl,by simp⟩
   ·rw[if_neg h6,if_neg fun h=>h6 (e2.1 h)];exact⟨rfl,fun _=>⟨h1,hli⟩⟩
open Go Go.Ab Tryz
variable {G:Es}
theorem vN (l:List Issue):ImV (P4 l):=by unfold P4;split<;>simp[A2]
attribute [simp] vN
theorem vA {x:Issue} (h:o8 x=false) (p:Option Issue) (r:List Issue):o3 p (x :: r)=none:=by cases p<;>simp[o3,h]
def pq (x:Issue):Nat→Bool
 | 0=>wK x
 | 1=>yK x
 | 2=>F4 x.drawing 0 x.items
 | _=>x.dims.all D8
theorem yL {x:Issue} {c:Nat} (h:pq x c=false):o8 x=false:=by
 unfold o8
 match c with
 | 0=>simp only[pq] at h;simp[h]
 | 1=>simp only[pq] at h;simp[h]
 | 2=>simp only[pq] at h;simp[h]
 | c+3=>simp only[pq] at h;simp[h]
theorem yM {x:Issue} (h:∀ i<4,pq x i=true):o8 x=true:=by
 have h0:=h 0 (by omega);have h1:=h 1 (by omega);have h2:=h 2 (by omega);have h3:=h 3 (by omega)
 simp only[pq] at h0 h1 h2 h3
 simp[o8,h0,h1,h2,h3]
theorem S4 {l:List Issue} (h:o3 none l=none):H4 l=(20,[]):=by
 unfold H4;split
 ·rfl
 ·rw[h]
theorem uf {m:List (Int×Int)} {i:Nat} {a:List Value} {b:List IC} (h:(R4 m)[i]?=some (a,b)):∃ p,m[i]?=some p∧a=kI p.1∧b=[rI p.2]:=by
 rw[R4,List.getElem?_map,Option.map_eq_some_iff] at h
 obtain⟨p,h1,h2⟩:=h
 cases h2;exact⟨p,h1,rfl,rfl⟩
theorem pg (m:List (Int×Int)) (i:Nat):(R4 m).eraseIdx i=R4 (m.eraseIdx i):=by
 simp only[R4,List.eraseIdx_eq_take_drop_succ,List.map_append,List.map_take,List.map_drop]
theorem uq {α:Type} {f:α→Bool} {l:List α} {i:Nat} {x:α} (h:l[i]?=some x) (hx:f x=false):l.any f=(l.eraseIdx i).any f:=by
 have hlt:=g9 h
 rw[List.eraseIdx_eq_take_drop_succ,List.any_append]
 conv=>lhs;rw[← List.take_append_drop i l,List.any_append,List.drop_eq_getElem_cons hlt,List.any_cons]
 rw[List.getElem?_eq_getElem hlt] at h
 cases h;rw[hx,Bool.false_or]
theorem Ar (l:List Issue) (hG:G 1=some [.fn (.func 205) [],.fn (.func 206) [],.fn (.func 207) [],.fn (.func 208) []]) (hl:l.length<1000000) (hx:∀ x∈l,0≤x.kind∧x.kind≤255∧x.items.length<1000000∧x.dims.length<1000000):zP prog G 48 [C8 l] (.tup [P4 l,iv (H4 l).1]):=by
 refine zf func48 ntmps48 ?_
 try simp only[C8]
 have c1:=ah (G:=G) 1 60 [(l.length:Int)] (by simp)
 by_cases hrange:l.length<1∨60<l.length
 ·have hr:([(l.length:Int)].all fun x=>decide (1≤x)&&decide (x≤60))=false:=by
   simp;omega
  simp only[hr] at c1
  have h20:H4 l=(20,[]):=by unfold H4;rw[if_pos hrange]
  have hs:=trivial
  repeat' first|(with_reducible first|refine zz ?_|refine zr ?_)|refine zt c1 ?_ ?_ ?_;(focus simp;done);(focus simp;done);try simp -dsimp[hs]|with_reducible refine fo (id:=1) (nt:=122) [0,1,2,3,4,5,6,8,9,11,12,13,15,24,26,27,28,29,33,34,35,41,44,55,68,73,76,94,96,97,98,99,105,112,114,116,120] rfl ?_;simp -dsimp[hs]|with_reducible refine zE [0,1,2,3,4,5,6,8,9,11,12,13,15,24,26,27,28,29,33,34,35,41,44,55,68,73,76,94,96,97,98,99,105,112,114,116,120] ?_;try simp -dsimp[hs]|refine m5 ?_ ?_<;>intro h<;>try simp only[l8] at h
  all_goals try simp -dsimp[hs]
  all_goals try clear hs
  all_goals simp[P4,h20]
 have hr:([(l.length:Int)].all fun x=>decide (1≤x)&&decide (x≤60))=true:=by
  simp;omega
 simp only[hr] at c1
 have hll:l.length≤60:=by omega
 have hs:=trivial
 repeat' first|with_reducible refine zz ?_|refine zt c1 ?_ ?_ ?_;(focus simp;done);(focus simp;done);try simp -dsimp[hs]|with_reducible refine fo (id:=1) (nt:=122) [0,1,2,3,4,5,6,8,9,11,12,13,15,24,26,27,28,29,33,34,35,41,44,55,68,73,76,94,96,97,98,99,105,112,114,116,120] rfl ?_;simp -dsimp[hs]|with_reducible refine zE [0,1,2,3,4,5,6,8,9,11,12,13,15,24,26,27,28,29,33,34,35,41,44,55,68,73,76,94,96,97,98,99,105,112,114,116,120] ?_;try simp -dsimp[hs]|refine m5 ?_ ?_<;>intro h<;>try simp only[l8] at h
 all_goals try simp -dsimp[hs]
 all_goals try clear hs
 refine j7 (ι:={ p:Nat×Nat×Nat×Bool×List Int // p.1≤l.length∧(p.2.1=1∨p.2.2.2.1=true)∧(o3 (J0 l p.1) (l.drop p.1)).map (p.2.2.2.2 ++ ·)=o3 none l∧p.2.2.2.2.length≤p.1∧∀ x∈l.take p.1,o8 x=true }) (fun p=>⟨122,[(1,.one (.ptr 0 0)),(2,.one (.im (.raw (.pointer none)))),(3,iv 0),(4,.one (.ptr 4 0)),(26,.one (.im (.sl (l.map j0)))),(27,iv (l.length:Int)),(28,iv (p.1.1:Int))],[.row [.im (.sl (l.map j0))],.vec 0 [] 0 true,.vec p.1.2.1 (o7 (p.1.2.2.2.2.map encI)) p.1.2.2.1 p.1.2.2.2.1,.row [.im (.sl (l.map j0)),.vec 2 p.1.2.2.1 0 p.1.2.2.2.2.length],.row [.ptr 3 0]]⟩) (fun p=>l.length-p.1.1) ⟨(0,0,0,true,[]),by simp[J0]⟩ (zw [1,2,3,4,26,27,28] 5) ?_
 rintro⟨⟨k,sz,g,nl,ds⟩,hk,hsz,hscan,hdl,hok⟩
 simp only at hk hsz hscan hdl hok
 simp only[iv]
 by_cases hlt:k<l.length
 ·have hx1:l[k]?=some l[k]:=by simp[hlt]
  have hw:=zk k
  have hxk:=hx l[k] (List.getElem_mem hlt)
  rw[List.drop_eq_getElem_cons hlt] at hscan
  have hs:=za hx1 (za hG hlt)
  repeat' first|with_reducible refine zz ?_|with_reducible refine zE [0,1,2,3,4,5,6,8,9,11,12,13,15,24,26,27,28,29,33,34,35,41,44,55,68,73,76,94,96,97,98,99,105,112,114,116,120] ?_;try simp -dsimp[hs]|refine m5 ?_ ?_<;>intro h<;>try simp only[l8] at h
  all_goals try simp -dsimp[hs]
  all_goals try clear hs
  have k1:=Cq (G:=G) l[k]
  have k2:=Cp (G:=G) l[k] ⟨hxk.1,hxk.2.1⟩
  have k3:=Co (G:=G) l[k] hxk.2.2.1
  have k4:=Cn (G:=G) l[k] hxk.2.2.2
  have hbad:∀ c,pq l[k] c=false→H4 l=(20,[]):=fun c h=>S4 (by rw[← hscan,vA (yL h)];rfl)
  refine j7 (ι:={ c:Nat // c≤4∧∀ i<c,pq l[k] i=true }) (fun c=>⟨122,[(1,.one (.ptr 0 0)),(2,.one (.im (.raw (.pointer none)))),(3,iv 0),(4,.one (.ptr 4 0)),(5,iv (k:Int)),(6,.one (.ptr 7 0)),(26,.one (.im (.sl (l.map j0)))),(27,iv (l.length:Int)),(28,iv (k:Int)),(33,.agg [.im (.fn (.func 205) []),.im (.fn (.func 206) []),.im (.fn (.func 207) []),.im (.fn (.func 208) [])]),(34,iv (c.1:Int))],[.row [.im (.sl (l.map j0))],.vec 0 [] 0 true,.vec sz (o7 (ds.map encI)) g nl,.row [.im (.sl (l.map j0)),.vec 2 g 0 ds.length],.row [.ptr 3 0],.vec 0 [] 0 true,.vec 0 [] 0 true,.row ((j0 l[k]).map .im)]⟩) (fun c=>4-c.1) ⟨0,by simp⟩ (zv [1,2,3,4,5,6,26,27,28,33,34]) ?_
  rintro⟨c,hc,hall⟩
  simp only[iv]
  by_cases hc4:c<4
  ·have hwc:=zk c
   match c,hc4,hc,hall,hwc with
   | 0,hc4,hc,hall,hwc =>
     have hq':wK l[k]=pq l[k] 0:=rfl
     cases hq:pq l[k] 0<;>simp only[hq',hq] at k1
     ·have h20:=hbad 0 hq
      have hs:=trivial
      repeat' first|(with_reducible first|refine zz ?_|refine zr ?_)|(first|refine zp k1 ?_|with_reducible refine zE [0,1,2,3,4,5,6,8,9,11,12,13,15,24,26,27,28,29,33,34,35,41,44,55,68,73,76,94,96,97,98,99,105,112,114,116,120] ?_);try simp -dsimp[hs]|refine m5 ?_ ?_<;>intro h<;>try simp only[l8] at h
      all_goals try simp -dsimp[hs]
      all_goals try clear hs
      all_goals simp[P4,h20]
     ·have hs:=hwc
      repeat' first|with_reducible refine zz ?_|(first|refine zp k1 ?_|with_reducible refine zE [0,1,2,3,4,5,6,8,9,11,12,13,15,24,26,27,28,29,33,34,35,41,44,55,68,73,76,94,96,97,98,99,105,112,114,116,120] ?_);try simp -dsimp[hs]|refine m5 ?_ ?_<;>intro h<;>try simp only[l8] at h
      all_goals try simp -dsimp[hs]
      all_goals try clear hs
      exact At.round ⟨1,by omega,fun i hi=>by
       rcases Nat.lt_succ_iff_lt_or_eq.1 hi with h|rfl
       ·exact hall i h
       ·exact hq⟩ (by simp) (zw [1,2,3,4,5,6,26,27,28,33,34] 8 (by simp;exact u7 (by omega) (by omega)))
   | 1,hc4,hc,hall,hwc =>
     have hq':yK l[k]=pq l[k] 1:=rfl
     cases hq:pq l[k] 1<;>simp only[hq',hq] at k2
     ·have h20:=hbad 1 hq
      have hs:=trivial
      repeat' first|(with_reducible first|refine zz ?_|refine zr ?_)|(first|refine zp k2 ?_|with_reducible refine zE [0,1,2,3,4,5,6,8,9,11,12,13,15,24,26,27,28,29,33,34,35,41,44,55,68,73,76,94,96,97,98,99,105,112,114,116,120] ?_);try simp -dsimp[hs]|refine m5 ?_ ?_<;>intro h<;>try simp only[l8] at h
      all_goals try simp -dsimp[hs]
      all_goals try clear hs
      all_goals simp[P4,h20]
     ·have hs:=hwc
      repeat' first|with_reducible refine zz ?_|(first|refine zp k2 ?_|with_reducible refine zE [0,1,2,3,4,5,6,8,9,11,12,13,15,24,26,27,28,29,33,34,35,41,44,55,68,73,76,94,96,97,98,99,105,112,114,116,120] ?_);try simp -dsimp[hs]|refine m5 ?_ ?_<;>intro h<;>try simp only[l8] at h
      all_goals try simp -dsimp[hs]
      all_goals try clear hs
      exact At.round ⟨2,by omega,fun i hi=>by
       rcases Nat.lt_succ_iff_lt_or_eq.1 hi with h|rfl
       ·exact hall i h
       ·exact hq⟩ (by simp) (zw [1,2,3,4,5,6,26,27,28,33,34] 8 (by simp;exact u7 (by omega) (by omega)))
   | 2,hc4,hc,hall,hwc =>
     have hq':F4 l[k].drawing 0 l[k].items=pq l[k] 2:=rfl
     cases hq:pq l[k] 2<;>simp only[hq',hq] at k3
     ·have h20:=hbad 2 hq
      have hs:=trivial
      repeat' first|(with_reducible first|refine zz ?_|refine zr ?_)|(first|refine zp k3 ?_|with_reducible refine zE [0,1,2,3,4,5,6,8,9,11,12,13,15,24,26,27,28,29,33,34,35,41,44,55,68,73,76,94,96,97,98,99,105,112,114,116,120] ?_);try simp -dsimp[hs]|refine m5 ?_ ?_<;>intro h<;>try simp only[l8] at h
      all_goals try simp -dsimp[hs]
      all_goals try clear hs
      all_goals simp[P4,h20]
     ·have hs:=hwc
      repeat' first|with_reducible refine zz ?_|(first|refine zp k3 ?_|with_reducible refine zE [0,1,2,3,4,5,6,8,9,11,12,13,15,24,26,27,28,29,33,34,35,41,44,55,68,73,76,94,96,97,98,99,105,112,114,116,120] ?_);try simp -dsimp[hs]|refine m5 ?_ ?_<;>intro h<;>try simp only[l8] at h
      all_goals try simp -dsimp[hs]
      all_goals try clear hs
      exact At.round ⟨3,by omega,fun i hi=>by
       rcases Nat.lt_succ_iff_lt_or_eq.1 hi with h|rfl
       ·exact hall i h
       ·exact hq⟩ (by simp) (zw [1,2,3,4,5,6,26,27,28,33,34] 8 (by simp;exact u7 (by omega) (by omega)))
   | 3,hc4,hc,hall,hwc =>
     have hq':l[k].dims.all D8=pq l[k] 3:=rfl
     cases hq:pq l[k] 3<;>simp only[hq',hq] at k4
     ·have h20:=hbad 3 hq
      have hs:=trivial
      repeat' first|(with_reducible first|refine zz ?_|refine zr ?_)|(first|refine zp k4 ?_|with_reducible refine zE [0,1,2,3,4,5,6,8,9,11,12,13,15,24,26,27,28,29,33,34,35,41,44,55,68,73,76,94,96,97,98,99,105,112,114,116,120] ?_);try simp -dsimp[hs]|refine m5 ?_ ?_<;>intro h<;>try simp only[l8] at h
      all_goals try simp -dsimp[hs]
      all_goals try clear hs
      all_goals simp[P4,h20]
     ·have hs:=hwc
      repeat' first|with_reducible refine zz ?_|(first|refine zp k4 ?_|with_reducible refine zE [0,1,2,3,4,5,6,8,9,11,12,13,15,24,26,27,28,29,33,34,35,41,44,55,68,73,76,94,96,97,98,99,105,112,114,116,120] ?_);try simp -dsimp[hs]|refine m5 ?_ ?_<;>intro h<;>try simp only[l8] at h
      all_goals try simp -dsimp[hs]
      all_goals try clear hs
      exact At.round ⟨4,by omega,fun i hi=>by
       rcases Nat.lt_succ_iff_lt_or_eq.1 hi with h|rfl
       ·exact hall i h
       ·exact hq⟩ (by simp) (zw [1,2,3,4,5,6,26,27,28,33,34] 8 (by simp;exact u7 (by omega) (by omega)))
  ·have hok1:o8 l[k]=true:=yM fun i hi=>hall i (by omega)
   clear k1 k2 k3 k4
   obtain rfl:c=4:=by omega
   have hokn:∀ x∈l.take (k+1),o8 x=true:=by
    rw[List.take_succ_eq_append_getElem hlt]
    intro x hx
    rcases List.mem_append.1 hx with h|h
    ·exact hok x h
    ·simp at h;rw[h];exact hok1
   have hnext:J0 l (k+1)=some l[k]:=by simp[J0]
   by_cases hk0:k=0
   ·subst hk0
    simp only[J0] at hscan
    by_cases h1:l[0].letter=1
    ·have hs:(o3 (J0 l 1) (l.drop 1)).map ((ds++[l[0].drawing]) ++ ·)=o3 none l:=by
      rw[hnext,← hscan];simp[o3,hok1,h1,Option.map_map,Function.comp_def]
     have hs:=za hx1 (za h1 (za hw hsz))
     repeat' first|(with_reducible first|refine zz ?_|refine And.intro (by omega) ?_)|refine p9 (id:=22) (nt:=122) 8 [0] [0,1,2,3,4,5,6,8,9,11,12,13,15,24,26,27,28,29,33,34,35,41,44,55,68,73,76,78,79,80,81,82,83,84,94,96,97,98,99,105,112,114,116,120] [0,1,2,3,4,5,6,8,9,11,12,13,15,24,26,27,28,29,33,34,35,41,44,55,68,73,76,94,96,97,98,99,105,112,114,116,120] mixed rfl (by kernel_rfl) ?_;simp -dsimp[hs]|with_reducible refine zE [0,1,2,3,4,5,6,8,9,11,12,13,15,24,26,27,28,29,33,34,35,41,44,55,68,73,76,94,96,97,98,99,105,112,114,116,120] ?_;try simp -dsimp[hs]|refine m5 ?_ ?_<;>intro h<;>try simp only[l8] at h
     all_goals try simp -dsimp[hs]
     all_goals try clear hs
     all_goals try omega
     exact zn ⟨(1,1,g+1,false,ds++[l[0].drawing]),by omega,.inl rfl,hs,by simp only[List.length_append,List.length_cons,List.length_nil];omega,hokn⟩ (zw [1,2,3,4,26,27,28] 5 (by simp;exact u7 (by omega) (by omega)))
    ·have h20:H4 l=(20,[]):=S4 (by rw[← hscan];simp[o3,hok1,h1])
     have hs:=za hx1 h1
     repeat' first|(with_reducible first|refine zz ?_|refine zr ?_)|with_reducible refine zE [0,1,2,3,4,5,6,8,9,11,12,13,15,24,26,27,28,29,33,34,35,41,44,55,68,73,76,94,96,97,98,99,105,112,114,116,120] ?_;try simp -dsimp[hs]|refine m5 ?_ ?_<;>intro h<;>try simp only[l8] at h
     all_goals try simp -dsimp[hs]
     all_goals try clear hs
     all_goals simp[P4,h20]
   ·obtain⟨m,rfl⟩:∃ m,k=m+1:=⟨k-1,by omega⟩
    have hw1:IntKind.i64.wrap (((m+1:Nat):Int)-1)=m:=u7 (by omega) (by omega) |>.trans (by omega)
    have hy:l[m]?=some l[m]:=by simp
    have hw2:IntKind.i64.wrap (m:Int)=m:=u7 (by omega) (by omega)
    have hoky:=hok l[m] (List.mem_take_iff_getElem.2 ⟨m,by omega,rfl⟩)
    have hlet:1≤l[m].letter∧l[m].letter≤8:=by simp[o8,wK] at hoky;omega
    have hwl:IntKind.i64.wrap (l[m].letter+1)=l[m].letter+1:=u7 (by omega) (by omega)
    simp only[J0,hy] at hscan
    have hs:=za hx1 (za hw (za hy (za hw1 (za hw2 (za hwl hsz)))))
    repeat' first|(with_reducible first|refine zz ?_|refine And.intro (by omega) ?_|refine zr ?_)|refine p9 (id:=22) (nt:=122) 8 [0] [0,1,2,3,4,5,6,8,9,11,12,13,15,24,26,27,28,29,33,34,35,41,44,55,68,73,76,78,79,80,81,82,83,84,94,96,97,98,99,105,112,114,116,120] [0,1,2,3,4,5,6,8,9,11,12,13,15,24,26,27,28,29,33,34,35,41,44,55,68,73,76,94,96,97,98,99,105,112,114,116,120] mixed rfl (by kernel_rfl) ?_;simp -dsimp[hs]|with_reducible refine zE [0,1,2,3,4,5,6,8,9,11,12,13,15,24,26,27,28,29,33,34,35,41,44,55,68,73,76,94,96,97,98,99,105,112,114,116,120] ?_;try simp -dsimp[hs]|refine m5 ?_ ?_<;>intro h<;>try simp only[l8] at h|with_reducible refine o4 ?_ ?_<;>intro h<;>have h0:=h<;>(try simp only[l8] at h)<;>have h2:=h<;>(try simp at h2)<;>(replace hs:=za h0 (za h (za h2 hs)))<;>simp -dsimp[hs]
    all_goals try simp -dsimp[hs]
    all_goals try clear hs
    all_goals try omega
    ·have a1:l[m].drawing=l[m+1].drawing:=by assumption
     have a2:¬ l[m].kind=l[m+1].kind:=by assumption
     have h20:H4 l=(20,[]):=S4 (by rw[← hscan];simp[o3,hok1,a1,a2])
     simp[P4,h20]
    ·have a1:l[m].drawing=l[m+1].drawing:=by assumption
     have a2:l[m].kind=l[m+1].kind:=by assumption
     have a3:l[m].letter+1=l[m+1].letter:=by assumption
     have hs:(o3 (J0 l (m+1+1)) (l.drop (m+1+1))).map (ds ++ ·)=o3 none l:=by
      rw[hnext,← hscan];simp[o3,hok1,a1,a2,a3]
     exact zn ⟨(m+1+1,sz,g,nl,ds),by omega,hsz,hs,by show ds.length≤m+1+1;omega,hokn⟩ (zw [1,2,3,4,26,27,28] 5 (by simp;try exact u7 (by omega) (by omega)))
    ·have a1:l[m].drawing=l[m+1].drawing:=by assumption
     have a2:¬ l[m].letter+1=l[m+1].letter:=by assumption
     have h20:H4 l=(20,[]):=S4 (by rw[← hscan];simp[o3,hok1,a1,a2])
     simp[P4,h20]
    ·have a1:¬ l[m].drawing=l[m+1].drawing:=by assumption
     have a2:l[m+1].drawing<l[m].drawing:=by assumption
     have h20:H4 l=(20,[]):=S4 (by rw[← hscan];simp[o3,hok1,a1,a2])
     simp[P4,h20]
    ·have a1:¬ l[m].drawing=l[m+1].drawing:=by assumption
     have a2:¬ l[m+1].drawing<l[m].drawing:=by assumption
     have a3:¬ l[m+1].letter=1:=by assumption
     have h20:H4 l=(20,[]):=S4 (by rw[← hscan];simp[o3,hok1,a1,a2,a3])
     simp[P4,h20]
    ·have a1:¬ l[m].drawing=l[m+1].drawing:=by assumption
     have a2:¬ l[m+1].drawing<l[m].drawing:=by assumption
     have a3:l[m+1].letter=1:=by assumption
     have hs:(o3 (J0 l (m+1+1)) (l.drop (m+1+1))).map ((ds++[l[m+1].drawing]) ++ ·)=o3 none l:=by
      rw[hnext,← hscan];simp[o3,hok1,a1,a2,a3,Option.map_map,Function.comp_def]
     exact zn ⟨(m+1+1,1,g+1,false,ds++[l[m+1].drawing]),by omega,.inl rfl,hs,by simp only[List.length_append,List.length_cons,List.length_nil];omega,hokn⟩ (zw [1,2,3,4,26,27,28] 5 (by simp;try exact u7 (by omega) (by omega)))
 ·have hkl:k=l.length:=by omega
  have hds:o3 none l=some ds:=by
   rw[← hscan,hkl,List.drop_length]
   cases J0 l l.length<;>simp[o3]
  obtain⟨s1,s2,_,s4,_⟩:=bn l none ds hds
  have hit:∀ x∈l,x.items.length≤16:=fun x hx'=>by
   have h:=s1 x hx'
   simp only[o8,yK,Bool.and_eq_true] at h
   have h:=h.1.1.2
   split at h
   ·simp at h;omega
   ·simp only[Bool.and_eq_true,decide_eq_true_eq] at h;rw[h.2];omega
  have hdl2:ds.length≤l.length:=by omega
  subst hkl
  by_cases hd20:20<ds.length
  ·have h20:H4 l=(20,[]):=by unfold H4;rw[if_neg hrange,hds];simp[hd20]
   have hd21:(20:Int)<(ds.length:Int):=by omega
   have hlt':¬ (ds.length:Int)≤20:=by omega
   have hs:=za hd21 hlt'
   repeat' first|(with_reducible first|refine zz ?_|refine zr ?_)|with_reducible refine zE [0,1,2,3,4,5,6,8,9,11,12,13,15,24,26,27,28,29,33,34,35,41,44,55,68,73,76,94,96,97,98,99,105,112,114,116,120] ?_;try simp -dsimp[hs]|refine m5 ?_ ?_<;>intro h<;>try simp only[l8] at h
   all_goals try simp -dsimp[hs]
   all_goals try clear hs
   all_goals simp[P4,h20]
  ·have hd21:¬ (20:Int)<(ds.length:Int):=by omega
   have hs:=hd21
   repeat' first|with_reducible refine zz ?_|with_reducible refine zE [0,1,2,3,4,5,6,8,9,11,12,13,15,24,26,27,28,29,33,34,35,41,44,55,68,73,76,94,96,97,98,99,105,112,114,116,120] ?_;try simp -dsimp[hs]|refine m5 ?_ ?_<;>intro h<;>try simp only[l8] at h
   all_goals try simp -dsimp[hs]
   all_goals try clear hs
   refine j7 (ι:={ p:Nat // p≤l.length∧(l.any fun x=>x.items.any fun y=>!decide (y.drawing∈ds))=((l.drop p).any fun x=>x.items.any fun y=>!decide (y.drawing∈ds)) }) (fun p=>⟨122,[(1,.one (.im (.ip [.sl (l.map j0)]))),(2,.one (.im (.raw (.pointer none)))),(3,iv 0),(4,.one (.im (.ip [A2 l ds]))),(96,.one (.im (.sl (l.map j0)))),(97,iv (l.length:Int)),(98,iv (p.1:Int))],[]⟩) (fun p=>l.length-p.1) ⟨0,by simp⟩ (zw [1,2,3,4,96,97,98] 0 (by simp[A2])) ?_
   clear hscan hok hx
   rintro⟨k,hk,hany⟩
   simp only[iv]
   by_cases hlt:k<l.length
   ·have hx1:l[k]?=some l[k]:=by simp[hlt]
    have hw:=zk k
    have hit1:=hit l[k] (List.getElem_mem hlt)
    have c3:=fun objs=>iu (G:=G) l[k].items (fun y=>!decide (y.drawing∈ds)) 103 [.im (.ip [A2 l ds])] objs (by simp) (fun y _=>xU y l ds s4 (by omega) objs) (by omega)
    rw[List.drop_eq_getElem_cons hlt,List.any_cons] at hany
    cases hq:l[k].items.any fun y=>!decide (y.drawing∈ds)
    ·simp only[hq] at c3
     rw[hq,Bool.false_or] at hany
     have hs:=za hx1 (za hw hlt)
     repeat' first|with_reducible refine zz ?_|(first|refine zp c3 ?_|with_reducible refine zE [0,1,2,3,4,5,6,8,9,11,12,13,15,24,26,27,28,29,33,34,35,41,44,55,68,73,76,94,96,97,98,99,105,112,114,116,120] ?_);try simp -dsimp[hs]|refine m5 ?_ ?_<;>intro h<;>try simp only[l8] at h
     all_goals try simp -dsimp[hs]
     all_goals try clear hs
     exact zn ⟨k+1,by omega,hany⟩ (zw [1,2,3,4,96,97,98] 0 (by simp[A2]))
    ·simp only[hq] at c3
     have h20:H4 l=(20,[]):=by unfold H4;rw[if_neg hrange,hds];simp only;rw[if_neg hd20,if_pos (by rw[hany,hq,Bool.true_or])]
     have hs:=za hx1 (za hw hlt)
     repeat' first|(with_reducible first|refine zz ?_|refine zr ?_)|(first|refine zp c3 ?_|with_reducible refine zE [0,1,2,3,4,5,6,8,9,11,12,13,15,24,26,27,28,29,33,34,35,41,44,55,68,73,76,94,96,97,98,99,105,112,114,116,120] ?_);try simp -dsimp[hs]|refine m5 ?_ ?_<;>intro h<;>try simp only[l8] at h
     all_goals try simp -dsimp[hs]
     all_goals try clear hs
     all_goals simp[P4,h20]
   ·have hall:(l.any fun x=>x.items.any fun y=>!decide (y.drawing∈ds))=false:=by rw[hany,List.drop_eq_nil_of_le (by omega)];rfl
    have c4:=wE (G:=G) l ds s2 (by omega) (by omega) hit
    by_cases hc:0<(r8 l ds).2.length
    ·have h21:H4 l=(21,[]):=by unfold H4;rw[if_neg hrange,hds];simp only;rw[if_neg hd20,if_neg (by rw[hall];decide),if_pos hc]
     simp only[hc] at c4
     have hs:=hlt
     repeat' first|(with_reducible first|refine zz ?_|refine zr ?_)|(first|refine zp c4 ?_|with_reducible refine zE [0,1,2,3,4,5,6,8,9,11,12,13,15,24,26,27,28,29,33,34,35,41,44,55,68,73,76,94,96,97,98,99,105,112,114,116,120] ?_);try simp -dsimp[hs]|refine m5 ?_ ?_<;>intro h<;>try simp only[l8] at h
     all_goals try simp -dsimp[hs]
     all_goals try clear hs
     all_goals simp[P4,h21]
    simp only[hc] at c4
    have hE:H4 l=if (r8 l ds).1.any (fun p=>decide (6<p.2)) then (20,[]) else (0,ds):=by unfold H4;rw[if_neg hrange,hds];simp only;rw[if_neg hd20,if_neg (by rw[hall];decide),if_neg hc]
    have hs:=hlt
    repeat' first|with_reducible refine zz ?_|(first|refine zp c4 ?_|with_reducible refine zE [0,1,2,3,4,5,6,8,9,11,12,13,15,24,26,27,28,29,33,34,35,41,44,55,68,73,76,94,96,97,98,99,105,112,114,116,120] ?_);try simp -dsimp[hs]|refine m5 ?_ ?_<;>intro h<;>try simp only[l8] at h
    all_goals try simp -dsimp[hs]
    all_goals try clear hs
    refine j7 (ι:={ p:List (Int×Int)×Option (List Value×List IC) // (r8 l ds).1.any (fun q=>decide (6<q.2))=p.1.any (fun q=>decide (6<q.2)) }) (fun p=>⟨122,[(2,.one (.im (.raw (.pointer none)))),(3,iv 0),(4,.one (.im (.ip [A2 l ds]))),(114,.one (.itr 0))],[.iter (R4 p.1.1) p.1.2]⟩) (fun p=>p.1.1.length) ⟨((r8 l ds).1,none),rfl⟩ (zv [2,3,4,114]) ?_
    rintro⟨⟨left,cur⟩,hleft⟩
    simp only[iv]
    simp only at hleft
    have hs:=trivial
    repeat' first|(with_reducible first|refine zz ?_|refine zr ?_)|with_reducible refine zE [0,1,2,3,4,5,6,8,9,11,12,13,15,24,26,27,28,29,33,34,35,41,44,55,68,73,76,94,96,97,98,99,105,112,114,116,120] ?_;try simp -dsimp[hs]|refine m5 ?_ ?_<;>intro h<;>try simp only[l8] at h|with_reducible refine S9 (fun h=>?_);(try simp only[List.map_eq_nil_iff] at h);(try subst h);try simp -dsimp[hs]|with_reducible refine And.intro ?_ ?_
    all_goals try simp -dsimp[hs]
    all_goals try clear hs
    ·have hl0:left=[]:=by simpa[R4] using ‹R4 left=[]›
     rw[hl0] at hleft
     have h0:H4 l=(0,ds):=by rw[hE,hleft];rfl
     simp[P4,h0]
    ·intro i a b hi
     obtain⟨p,hp,rfl,rfl⟩:=uf hi
     rw[pg]
     by_cases h6:6<p.2
     ·have h20:H4 l=(20,[]):=by rw[hE,hleft,if_pos (List.any_eq_true.2 ⟨p,List.mem_of_getElem? hp,by simpa using h6⟩)]
      have hs:=h6
      repeat' first|(with_reducible first|refine zz ?_|refine zr ?_)|with_reducible refine zE [0,1,2,3,4,5,6,8,9,11,12,13,15,24,26,27,28,29,33,34,35,41,44,55,68,73,76,94,96,97,98,99,105,112,114,116,120] ?_;try simp -dsimp[hs]|refine m5 ?_ ?_<;>intro h<;>try simp only[l8] at h
      all_goals try simp -dsimp[hs]
      all_goals try clear hs
      all_goals simp[P4,h20]
     ·have hl1:left.any (fun q=>decide (6<q.2))=(left.eraseIdx i).any (fun q=>decide (6<q.2)):=uq hp (by simpa using h6)
      have hlen:(left.eraseIdx i).length<left.length:=by
       have:=g9 hp
       rw[List.length_eraseIdx];split<;>omega
      have hs:=h6
      repeat' first|with_reducible refine zz ?_|with_reducible refine zE [0,1,2,3,4,5,6,8,9,11,12,13,15,24,26,27,28,29,33,34,35,41,44,55,68,73,76,94,96,97,98,99,105,112,114,116,120] ?_;try simp -dsimp[hs]|refine m5 ?_ ?_<;>intro h<;>try simp only[l8] at h
      all_goals try simp -dsimp[hs]
      all_goals try clear hs
      exact At.round ⟨(left.eraseIdx i,some (kI p.1,[rI p.2])),hleft.trans hl1⟩ hlen (zv [2,3,4,114])
def I6 (G:Es):Prop:=G 1=some [.fn (.func 205) [],.fn (.func 206) [],.fn (.func 207) [],.fn (.func 208) []]
def W9 (l:List Issue):Prop:=l.length≤80∧∀ x∈l,0≤x.kind∧x.kind≤255∧x.items.length≤16∧x.dims.length≤8
def bH (l:List Issue):DV:=if o6 l=0 then .one (.im (A2 l (nums l))) else .one (.im (.raw (.pointer none)))
theorem wQ (l:List Issue):ImV (bH l):=by unfold bH;split<;>simp[A2]
attribute [simp] wQ
theorem qw (l:List Issue):P4 l=bH l:=by
 obtain⟨h1,h2⟩:=bP l
 unfold P4 bH
 rw[h1] at h2 ⊢
 split
 ·rw[(h2 ‹_›).1]
 ·rfl
theorem fM (l:List Issue) (hG:I6 G) (hs:W9 l) (objs:List DObj):DCall prog G 48 [C8 l] objs (fun rr objs'=>rr=.tup [bH l,iv (o6 l)]∧objs'=objs):=by
 have h:=Ar (G:=G) l hG (by have:=hs.1;omega) (fun x hx=>by have:=hs.2 x hx;omega) objs
 rw[qw,(bP l).1] at h
 exact h
theorem r9 {l:List Issue} (h:o6 l=0):u6 l=true:=((bP l).2 (by rw[(bP l).1];exact h)).2
theorem x6 {l:List Issue} (h:u6 l=true):o3 none l=some (nums l):=by
 simp only[u6,Bool.and_eq_true] at h
 obtain⟨ds,hds⟩:=Option.isSome_iff_exists.1 h.1.1.2
 rw[hds,dC hds]
theorem bY {l:List Issue} (h:o6 l=0):(l.map (·.drawing)).Pairwise (·≤·):=(F1 (x6 (r9 h))).2.2.2.2
theorem u4 {l:List Issue} (h:o6 l=0):(nums l).Pairwise (· < ·)∧∀ x∈l,x.drawing∈nums l:=⟨(F1 (x6 (r9 h))).2.1,(F1 (x6 (r9 h))).2.2.1⟩
theorem mU (l:List Issue) (hG:I6 G) (hs:W9 l):zP prog G 82 [C8 l] (iv (o6 l)):=by
 refine zf func82 ntmps82 ?_
 try simp only[C8]
 have c1:=fM l hG hs
 have hs:=trivial
 repeat' first|(with_reducible first|refine zz ?_|refine zr ?_|refine zE [0,1,2,4] ?_)|simp -dsimp[hs]|refine zp c1 ?_
 all_goals try clear hs
def gp (l:List Issue):List Int:=if o6 l=0 then nums l else []
theorem eY (l:List Issue) (hG:I6 G) (hs:W9 l):zP prog G 84 [C8 l] (.tup [H0 (gp l),iv (o6 l)]):=by
 refine zf func84 ntmps84 ?_
 try simp only[C8]
 have c1:=fM l hG hs
 by_cases h0:o6 l=0
 ·simp only[bH,h0,if_true,A2] at c1
  have hs:=trivial
  repeat' first|(with_reducible first|refine zz ?_|refine zr ?_|refine zE [0,1,2,3,4,5,12] ?_)|simp -dsimp[hs]|refine zp c1 ?_|refine m5 ?_ ?_<;>intro h<;>try simp only[l8] at h
  all_goals try clear hs
  simp[gp,h0]
 ·simp only[bH,h0,if_false] at c1
  have hs:=h0
  repeat' first|(with_reducible first|refine zz ?_|refine zr ?_|refine zE [0,1,2,3,4,5,12] ?_)|simp -dsimp[hs]|refine zp c1 ?_|refine m5 ?_ ?_<;>intro h<;>try simp only[l8] at h
  all_goals try clear hs
  all_goals simp[gp,h0]
def atR (l:List Issue) (d lt:Int):Issue:=if o6 l=0 then (A1 l d lt).getD R6 else R6
def CJ (l:List Issue) (d lt:Int):Int:=if o6 l≠0 then o6 l else if (A1 l d lt).isSome then 0 else 6
theorem Dn (l:List Issue) (d lt:Int) (hG:I6 G) (hs:W9 l):zP prog G 12 [C8 l,D7 d lt] (.tup [E4 (atR l d lt),iv (CJ l d lt)]):=by
 refine zf func12 ntmps12 ?_
 try simp only[C8,D7]
 have c1:=fM l hG hs
 by_cases h0:o6 l=0
 ·simp only[bH,h0,if_true] at c1
  have c2:=sC (G:=G) l (nums l) d lt (bY h0) (by have:=hs.1;omega)
  simp only[D7] at c2
  cases hf:A1 l d lt with
  | none =>
    simp only[hf,Option.isSome_none,Option.getD_none] at c2
    have hs:=trivial
    repeat' first|(with_reducible first|refine zz ?_|refine zr ?_|refine zE [0,1,2,3,4,5,6,7,8,9,16,26] ?_)|simp -dsimp[hs]|refine zp c1 ?_|refine zp c2 ?_|refine m5 ?_ ?_<;>intro h<;>try simp only[l8] at h
    all_goals try clear hs
    all_goals simp[atR,CJ,h0,hf,R6]
  | some y =>
    simp only[hf,Option.isSome_some,Option.getD_some] at c2
    have hy:y∈l:=List.mem_of_find?_eq_some hf
    have c3:=wJ (G:=G) y (hs.2 y hy).2.2.1 (hs.2 y hy).2.2.2
    have hs:=trivial
    repeat' first|(with_reducible first|refine zz ?_|refine zr ?_|refine zE [0,1,2,3,4,5,6,7,8,9,16,26] ?_)|simp -dsimp[hs]|refine zp c1 ?_|refine zp c2 ?_|refine zp c3 ?_|refine m5 ?_ ?_<;>intro h<;>try simp only[l8] at h
    all_goals try clear hs
    all_goals simp[atR,CJ,h0,hf]
 ·simp only[bH,h0,if_false] at c1
  have hs:=h0
  repeat' first|(with_reducible first|refine zz ?_|refine zr ?_|refine zE [0,1,2,3,4,5,6,7,8,9,16,26] ?_)|simp -dsimp[hs]|refine zp c1 ?_|refine m5 ?_ ?_<;>intro h<;>try simp only[l8] at h
  all_goals try clear hs
  all_goals simp[atR,CJ,h0,R6]
end Go.Proofs
