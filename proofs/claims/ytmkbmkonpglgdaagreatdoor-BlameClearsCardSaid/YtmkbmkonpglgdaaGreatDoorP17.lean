/- Part 17 of the proofs: laws and walks that hold without conditions beyond those that each theorem names. -/
import Derived.Test.YtmkbmkonpglgdaaGreatDoorP10
import Derived.Test.YtmkbmkonpglgdaaGreatDoorP15
import Derived.Test.YtmkbmkonpglgdaaGreatDoorP16
set_option linter.all false
set_option linter.deprecated false
namespace Go.Proofs
open Go Go.Ab
set_option linter.unusedSimpArgs false
variable {G:Nat→Option (List IC)}
def stepIt (D:List (Int×Int)) (L:List Int) (a:Int×Bool) (y:Itm):Int×Bool:=(max a.1 (mlook D y.drawing),a.2 && !decide (y.drawing∈L))
def stepIs (D:List (Int×Int)) (L:List Int) (a:Int×Bool) (x:Issue):Int×Bool:=x.items.foldl (stepIt D L) a
def segI (l:List Issue) (n:Int):List Issue:=l.filter fun x=>decide (x.drawing=n)
def depth1 (l:List Issue) (q:List (Int×Int)×List Int) (n:Int):List (Int×Int)×List Int:=
 let r:=(segI l n).foldl (stepIs q.1 q.2) (0,decide (n∈q.2))
 if r.2 then (mput n (r.1 + 1) q.1,q.2.erase n) else q
def depthR (l:List Issue) (ds:List Int) (q:List (Int×Int)×List Int):List (Int×Int)×List Int:=ds.foldl (depth1 l) q
def depthN (l:List Issue) (ds:List Int):Nat→List (Int×Int)×List Int→List (Int×Int)×List Int
 | 0,q=>q
 | k + 1,q=>depthN l ds k (depthR l ds q)
def left0 (ds:List Int):List Int:=ds.foldl (fun l n=>sput n l) []
def depthsI (l:List Issue) (ds:List Int):List (Int×Int)×List Int:=depthN l ds ds.length ([],left0 ds)
theorem LoopD.at_eta (r:LoopD) (st:LoopState) (p:Option Code):({ st:=st,pend:=p,nt:=r.nt,tm:=r.tm,ps:=r.ps,asg:=r.asg,body:=r.body }:LoopD)=r.at st p:=rfl
theorem seg_tw {n:Int}:∀ {s:List Issue},(s.map (·.drawing)).Pairwise (·≤·)→(∀ x∈s,n≤x.drawing)→segI s n=s.takeWhile fun x=>decide (x.drawing=n)
 | [],_,_=>rfl
 | x :: s,hs,hg=>by
   rw [List.map_cons,List.pairwise_cons] at hs
   have ih:=seg_tw hs.2 fun y hy=>hg y (by simp [hy])
   unfold segI at ih ⊢
   by_cases hx:x.drawing=n
   ·rw [List.filter_cons_of_pos (by simp [hx]),List.takeWhile_cons_of_pos (by simp [hx]),ih]
   ·rw [List.filter_cons_of_neg (by simp [hx]),List.takeWhile_cons_of_neg (by simp [hx]),List.filter_eq_nil_iff]
    intro y hy
    have h1:=hs.1 y.drawing (List.mem_map_of_mem hy)
    have h2:=hg x (by simp)
    simp;omega
theorem seg_drop {l:List Issue} {n:Int} (hs:(l.map (·.drawing)).Pairwise (·≤·)):segI l n=(l.drop (lb (l.map (·.drawing)) n)).takeWhile fun x=>decide (x.drawing=n):=by
 have h1:segI l n=segI (l.drop (lb (l.map (·.drawing)) n)) n:=by
  conv=>lhs;rw [← List.take_append_drop (lb (l.map (·.drawing)) n) l]
  simp only [segI,List.filter_append]
  rw [List.filter_eq_nil_iff.2 fun x hx=>?_]
  ·rfl
  ·have:=seg_lt hs x hx
   simp;omega
 rw [h1]
 exact seg_tw (by rw [List.map_drop];exact hs.drop) (seg_ge hs)
def bd (D:List (Int×Int)) (c:Nat):Prop:=∀ x∈D,0≤x.2∧x.2≤c
theorem bd_look {D:List (Int×Int)} {c:Nat} (h:bd D c) (n:Int):0≤mlook D n∧mlook D n≤c:=by
 induction D with
 | nil=>simp [mlook]
 | cons p r ih =>
   simp only [mlook]
   split
   ·exact h p (by simp)
   ·exact ih fun x hx=>h x (by simp [hx])
theorem bd_put {D:List (Int×Int)} {c:Nat} (h:bd D c) {n v:Int} (h1:0≤v) (h2:v≤c):bd (mput n v D) c:=by
 induction D with
 | nil=>intro x hx;simp [mput] at hx;subst hx;exact ⟨h1,h2⟩
 | cons p r ih =>
   simp only [mput]
   split
   ·intro x hx
    rcases List.mem_cons.1 hx with rfl|hx
    ·exact ⟨h1,h2⟩
    ·exact h x (by simp [hx])
   ·intro x hx
    rcases List.mem_cons.1 hx with rfl|hx
    ·exact h x (by simp)
    ·exact ih (fun x hx=>h x (by simp [hx])) x hx
theorem bd_mono {D:List (Int×Int)} {c c':Nat} (h:bd D c) (hc:c≤c'):bd D c':=fun x hx=>⟨(h x hx).1,by have:=(h x hx).2;omega⟩
theorem bd_it {D:List (Int×Int)} {L:List Int} {c:Nat} (h:bd D c) {a:Int×Bool} (ha:0≤a.1∧a.1≤c) (y:Itm):0≤(stepIt D L a y).1∧(stepIt D L a y).1≤c:=by
 have:=bd_look h y.drawing
 simp only [stepIt];omega
set_option maxHeartbeats 2000000 in
theorem depths_c (l:List Issue) (ds:List Int) (hs:(l.map (·.drawing)).Pairwise (·≤·)) (hl:l.length < 1000000) (hds:ds.length < 1000000) (hit:∀ x∈l,x.items.length≤16) (objs:List DObj):DCall Tryz.prog G 83 [.one (.im (bookI l ds))] objs (fun rr objs'=>rr=.tup [.one (.im (.mp [.int .i64] (encMI (depthsI l ds).1))),bv (decide (0 < (depthsI l ds).2.length))]∧objs'=objs):=by
 refine DCall.frame ?_ (by simp) (by simp) objs
 refine DCall_intro Tryz.func83 rfl Tryz.ntmps83 (by simp) rfl ?_
 try simp only [iv]
 simp only [bookI]
 have hs:True:=trivial
 repeat' first|(with_reducible first|refine q01 ?_|refine q11 ?_|refine q12 ?_)|(with_reducible refine DT_regionE [0,2,3,4,5,7,9,10,11,12,14,20,21,22,23,33,34,35,39,40,41,42,50,51,53,54,55,56,74] ?_;simp -dsimp [hs])
 all_goals try simp -dsimp [hs]
 all_goals try clear hs
 refine DT_loop (ι:={ p:Nat×List Int // p.1≤ds.length∧(ds.drop p.1).foldl (fun l n=>sput n l) p.2=left0 ds }) (fun p=>⟨87,[(0,.one (.im (.ip [.sl (l.map encIssue),.sl (ds.map encI)]))),(4,.one (.ptr 1 0)),(5,.one (.ptr 3 0)),(20,.one (.im (.sl (ds.map encI)))),(21,iv (ds.length:Int)),(22,iv (p.1.1:Int))],[.map [.int .i64] [],.row [.map 0],.map [.int .i64] (encS p.1.2),.row [.map 2]]⟩) (fun p=>ds.length - p.1.1) ⟨(0,[]),by simp [left0]⟩ (Weak.of_keep [0,4,5,20,21,22] (by simp [encS])) ?_
 rintro ⟨⟨k,L⟩,hk,hL⟩
 simp only at hk hL
 simp only [iv]
 by_cases hlt:k < ds.length
 ·have hx:ds[k]?=some ds[k]:=by simp [hlt]
  have hw:IntKind.i64.wrap ((k:Int) + 1)=((k + 1:Nat):Int):=i64w (by omega) (by omega)
  have hs:True:=trivial
  repeat' first|(with_reducible first|refine q01 ?_|refine q04 ?_|refine q11 ?_|refine q12 ?_|refine q14 ?_)|(with_reducible refine DT_regionE [0,2,3,4,5,7,9,10,11,12,14,20,21,22,23,33,34,35,39,40,41,42,50,51,53,54,55,56,74] ?_;simp -dsimp [hx,hw,hlt,hs])|(refine DT_cond rfl (fun h=>?_) (fun h=>?_)<;>(try simp only [nrm] at h)<;>(try exact Bool.noConfusion h))
  all_goals try simp -dsimp [hx,hw,hlt,hs]
  all_goals try clear hs
  exact At.round ⟨(k + 1,sput ds[k] L),by omega,by rw [← hL,List.drop_eq_getElem_cons hlt];rfl⟩ (by simp;omega) (Weak.of_keep [0,4,5,20,21,22] (by simp))
 have hs:True:=trivial
 repeat' first|(with_reducible first|refine q01 ?_|refine q03 ?_|refine q06 ?_|refine q11 ?_|refine q12 ?_|refine q16 ?_)|(with_reducible refine DT_regionE [0,2,3,4,5,7,9,10,11,12,14,20,21,22,23,33,34,35,39,40,41,42,50,51,53,54,55,56,74] ?_;simp -dsimp [hlt,hs])|(refine DT_cond rfl (fun h=>?_) (fun h=>?_)<;>(try simp only [nrm] at h)<;>(try exact Bool.noConfusion h))
 all_goals try simp -dsimp [hlt,hs]
 all_goals try clear hs
 have hL0:L=left0 ds:=by rw [← hL,List.drop_eq_nil_of_le (by omega)];rfl
 clear hL hlt hk
 subst hL0
 refine DT_loop (ι:={ p:Nat×(List (Int×Int)×List Int) // p.1≤ds.length∧depthN l ds (ds.length - p.1) p.2=depthsI l ds∧bd p.2.1 (p.1 * ds.length) }) (fun p=>⟨87,[(0,.one (.im (.ip [.sl (l.map encIssue),.sl (ds.map encI)]))),(4,.one (.ptr 1 0)),(5,.one (.ptr 3 0)),(33,iv (ds.length:Int)),(34,iv (p.1.1:Int))],[.map [.int .i64] (encM p.1.2.1),.row [.map 0],.map [.int .i64] (encS p.1.2.2),.row [.map 2]]⟩) (fun p=>ds.length - p.1.1) ⟨(0,([],left0 ds)),by simp [depthsI,bd]⟩ (Weak.of_keep [0,4,5,33,34] (by simp [encM])) ?_
 rintro ⟨⟨i,q⟩,hi,hq,hb⟩
 simp only at hi hq hb
 simp only [iv]
 by_cases hlt:i < ds.length
 ·have hw:IntKind.i64.wrap ((i:Int) + 1)=((i + 1:Nat):Int):=i64w (by omega) (by omega)
  have hmul:(i + 1) * ds.length≤1000000 * 1000000:=Nat.mul_le_mul (by omega) (by omega)
  have hmul':(i + 1) * ds.length=i * ds.length + ds.length:=by rw [Nat.add_mul,Nat.one_mul]
  have hs:True:=trivial
  repeat' first|(with_reducible first|refine q01 ?_|refine q11 ?_|refine q12 ?_|refine q14 ?_)|(with_reducible refine DT_regionE [0,2,3,4,5,7,9,10,11,12,14,20,21,22,23,33,34,35,39,40,41,42,50,51,53,54,55,56,74] ?_;simp -dsimp [hlt,hs])|(refine DT_cond rfl (fun h=>?_) (fun h=>?_)<;>(try simp only [nrm] at h)<;>(try exact Bool.noConfusion h))
  all_goals try simp -dsimp [hlt,hs]
  all_goals try clear hs
  refine DT_loop (ι:={ p:Nat×(List (Int×Int)×List Int) // p.1≤ds.length∧(ds.drop p.1).foldl (depth1 l) p.2=depthR l ds q∧bd p.2.1 (i * ds.length + p.1) }) (fun p=>⟨87,[(0,.one (.im (.ip [.sl (l.map encIssue),.sl (ds.map encI)]))),(4,.one (.ptr 1 0)),(5,.one (.ptr 3 0)),(33,iv (ds.length:Int)),(34,iv (i:Int)),(39,.one (.im (.sl (ds.map encI)))),(40,iv (ds.length:Int)),(41,iv (p.1.1:Int))],[.map [.int .i64] (encM p.1.2.1),.row [.map 0],.map [.int .i64] (encS p.1.2.2),.row [.map 2]]⟩) (fun p=>ds.length - p.1.1) ⟨(0,q),by simp [depthR,hb]⟩ (Weak.of_keep [0,4,5,33,34,39,40,41] (by simp)) ?_
  rintro ⟨⟨j,D,L⟩,hj,hq1,hb1⟩
  simp only at hj hq1 hb1
  simp only [iv]
  by_cases hlj:j < ds.length
  ·have hx:ds[j]?=some ds[j]:=by simp [hlj]
   have hwj:IntKind.i64.wrap ((j:Int) + 1)=((j + 1:Nat):Int):=i64w (by omega) (by omega)
   have c1:=issues_c (G:=G) (bookI l ds) ds[j]
   simp only [bookI] at c1
   have hs:True:=trivial
   repeat' first|(with_reducible first|refine q01 ?_|refine q11 ?_|refine q12 ?_|refine q14 ?_)|(refine CallE.pure (c1) ?_;try simp -dsimp [hx,hwj,hlj,hs])|(refine DT_regionX (id:=13) (nt:=87) 5 [0,1,2] [0,2,3,4,5,7,9,10,11,12,14,20,21,22,23,33,34,35,39,40,41,42,50,51,53,54,55,56,74] [0,2,3,4,5,7,9,10,11,12,14,20,21,22,23,33,34,35,39,40,41,42,50,51,53,54,55,56,74] mixed rfl (by kernel_rfl) ?_;simp -dsimp [hx,hwj,hlj,hs])|(with_reducible refine DT_regionE [0,2,3,4,5,7,9,10,11,12,14,20,21,22,23,33,34,35,39,40,41,42,50,51,53,54,55,56,74] ?_;simp -dsimp [hx,hwj,hlj,hs])|(refine DT_cond rfl (fun h=>?_) (fun h=>?_)<;>(try simp only [nrm] at h)<;>(try exact Bool.noConfusion h))
   all_goals try simp -dsimp [hx,hwj,hlj,hs]
   all_goals try clear hs
   have hseg:=seg_drop (n:=ds[j]) hs
   refine DT_rangeFunc (f:=106) (by simp;exact rfl) (by rfl) Tryz.call106 ?_
   generalize hR:LoopD.mk _ _ _ _ _ _ _=R
   have hR1:R.st=.ready:=by rw [← hR]
   have hR2:R.pend=none:=by rw [← hR]
   have hR3:R.at .ready none=R:=by rw [← hR];rfl
   have hR4:=(congrArg LoopD.nt hR).symm
   have hR5:=(congrArg LoopD.tm hR).symm
   have hR6:=(congrArg LoopD.ps hR).symm
   have hR7:=(congrArg LoopD.asg hR).symm
   have hR8:=(congrArg LoopD.body hR).symm
   dsimp only at hR4 hR5 hR6 hR7 hR8
   clear hR
   refine DCall_intro Tryz.func106 rfl Tryz.ntmps106 (by simp) rfl ?_
   have hR9:∀ objs:List DObj,(R.tm.map fun x=>(x.1,fzV 7 objs x.2))=R.tm:=by intro objs;rw [hR5];simp
   have hR10:∀ objs:List DObj,(R.tm.map fun x=>(x.1,fzV 10 objs x.2))=R.tm:=by intro objs;rw [hR5];simp
   have hlb:=lb_le (l.map (·.drawing)) ds[j]
   rw [List.length_map] at hlb
   have c2:=bsearchI_c (G:=G) l ds[j] hs hl
   have hs:True:=trivial
   repeat' first|(with_reducible first|refine q01 ?_|refine q11 ?_|refine q12 ?_)|(refine QCall_pure (c2) ?_;try simp -dsimp [hR1,hR2,hR3,hlb,hs])|(refine DT_regionM (id:=0) (nt:=41) 12 [0,1,2,4,7,24,25,26,27,39] mixed rfl (by kernel_rfl) ?_;simp -dsimp [hR1,hR2,hR3,hlb,hs])|(with_reducible refine DT_regionE [0,1,2,3,4,5,7,9,10,11,12,14,20,21,22,23,24,25,26,27,33,34,35,39,40,41,42,50,51,53,54,55,56,74] ?_;simp -dsimp [hR1,hR2,hR3,hlb,hs])
   all_goals try simp -dsimp [hR1,hR2,hR3,hlb,hs]
   all_goals try clear hs
   rw [← List.map_drop]
   have hsl:l.length - lb (l.map (·.drawing)) ds[j]=(l.drop (lb (l.map (·.drawing)) ds[j])).length:=by simp
   rw [hsl]
   have hsl2:(l.drop (lb (l.map (·.drawing)) ds[j])).length < 1000000:=by simp;omega
   have hsit:∀ x∈l.drop (lb (l.map (·.drawing)) ds[j]),x.items.length≤16:=fun x hx=>hit x (List.mem_of_mem_drop hx)
   generalize l.drop (lb (l.map (·.drawing)) ds[j])=s at hseg hsl2 hsit ⊢
   obtain ⟨c,hc⟩:∃ c,c=i * ds.length + j:=⟨_,rfl⟩
   rw [← hc] at hb1
   refine DT_loop (ι:={ p:Nat×(Int×Bool) // p.1≤s.length∧((s.drop p.1).takeWhile fun x=>decide (x.drawing=ds[j])).foldl (stepIs D L) p.2=(segI l ds[j]).foldl (stepIs D L) (0,decide (ds[j]∈L))∧0≤p.2.1∧p.2.1≤(c:Int) }) (fun p=>⟨41,[(0,.one (.yld 6)),(2,.one (.im (.ip [rI ds[j]]))),(24,.one (.im (.sl (s.map encIssue)))),(25,iv (s.length:Int)),(26,iv (p.1.1:Int))],[.map [.int .i64] (encM D),.row [.map 0],.map [.int .i64] (encS L),.row [.map 2],.row [.im (rI p.1.2.1)],.row [.im (rB p.1.2.2)],.loop R]⟩) (fun p=>s.length - p.1.1) ⟨(0,(0,decide (ds[j]∈L))),by simp [hseg]⟩ (Weak.of_keep [0,2,24,25,26] (by simp)) ?_
   rintro ⟨⟨k,m,r⟩,hk,ha,hm1,hm2⟩
   simp only at hk ha hm1 hm2
   simp only [iv]
   by_cases hls:k < s.length
   ·have hx1:s[k]?=some s[k]:=by simp [hls]
    have hwk:IntKind.i64.wrap ((k:Int) + 1)=((k + 1:Nat):Int):=i64w (by omega) (by omega)
    by_cases hd:s[k].drawing=ds[j]
    ·have hit1:=hsit s[k] (List.getElem_mem hls)
     have hs:True:=trivial
     repeat' first|(with_reducible first|refine q01 ?_|refine q11 ?_|refine q12 ?_|refine q14 ?_)|(refine At_busy ?_ ?_<;>simp -dsimp [hR1,hR2,hR3,hx1,hwk,hd,hls,hs])|(refine YieldE_go ?_;simp -dsimp [YieldR,hR4,hR5,hR6,hR7,hR8,hR1,hR2,hR3,hx1,hwk,hd,hls,hs])|(with_reducible refine DT_regionE [0,1,2,3,4,5,7,9,10,11,12,14,20,21,22,23,24,25,26,27,33,34,35,39,40,41,42,50,51,53,54,55,56,74] ?_;simp -dsimp [hR1,hR2,hR3,hx1,hwk,hd,hls,hs])|(refine DT_cond rfl (fun h=>?_) (fun h=>?_)<;>(try simp only [nrm] at h)<;>(try exact Bool.noConfusion h))
     all_goals try simp -dsimp [hR1,hR2,hR3,hx1,hwk,hd,hls,hs]
     all_goals try clear hs
     refine DT_loop (ι:={ p:Nat×(Int×Bool) // p.1≤s[k].items.length∧(s[k].items.drop p.1).foldl (stepIt D L) p.2=stepIs D L (m,r) s[k]∧0≤p.2.1∧p.2.1≤(c:Int) }) (fun p=>⟨87,[(4,.one (.ptr 1 0)),(5,.one (.ptr 3 0)),(10,.one (.ptr 4 0)),(11,.one (.ptr 5 0)),(53,.one (.im (.sl (s[k].items.map encItem)))),(54,iv (s[k].items.length:Int)),(55,iv (p.1.1:Int))],[.map [.int .i64] (encM D),.row [.map 0],.map [.int .i64] (encS L),.row [.map 2],.row [.im (rI p.1.2.1)],.row [.im (rB p.1.2.2)],.loop (R.at .busy none),.vec 0 [] 0 true,.vec 0 [] 0 true,.row [.im (rI ds[j]),.im (rI s[k].letter),.im (.raw (.int .u8 s[k].kind)),.im (.sl (s[k].items.map encItem)),.im (.sl (s[k].dims.map encDim))]]⟩) (fun p=>s[k].items.length - p.1.1) ⟨(0,(m,r)),by simp [stepIs,hm1,hm2]⟩ (Weak.of_drop [4,5,10,11,53,54,55] 10 (by simp) (by simp) (by simp [hR10,LoopD.at_eta])) ?_
     rintro ⟨⟨u,m',r'⟩,hu,ha',hm1',hm2'⟩
     simp only at hu ha' hm1' hm2'
     simp only [iv]
     by_cases hlu:u < s[k].items.length
     ·have hx2:s[k].items[u]?=some s[k].items[u]:=by simp [hlu]
      have hwu:IntKind.i64.wrap ((u:Int) + 1)=((u + 1:Nat):Int):=i64w (by omega) (by omega)
      have hst:=bd_it (L:=L) hb1 (a:=(m',r')) ⟨hm1',hm2'⟩ s[k].items[u]
      have hcs:(s[k].items.drop (u + 1)).foldl (stepIt D L) (stepIt D L (m',r') s[k].items[u])=stepIs D L (m,r) s[k]:=by rw [← ha',List.drop_eq_getElem_cons hlu];rfl
      have hs:True:=trivial
      repeat' first|(with_reducible first|refine q01 ?_|refine q04 ?_|refine q11 ?_|refine q12 ?_|refine q14 ?_)|(with_reducible refine DT_regionE [0,1,2,3,4,5,7,9,10,11,12,14,20,21,22,23,24,25,26,27,33,34,35,39,40,41,42,50,51,53,54,55,56,74] ?_;simp -dsimp [hR1,hR2,hR3,hx2,hwu,hlu,hs])|(refine DT_cond rfl (fun h=>?_) (fun h=>?_)<;>(try simp only [nrm] at h)<;>(try exact Bool.noConfusion h))|(with_reducible refine GStop_split ?_ ?_<;>intro h<;>have h0:=h<;>(try simp only [nrm] at h)<;>(try exact Bool.noConfusion h)<;>have h2:=h<;>(try simp at h2)<;>(replace hs:=And.intro h0 (And.intro h (And.intro h2 hs)))<;>simp -dsimp [h0,h,h2,hR1,hR2,hR3,hx2,hwu,hlu,hs])
      all_goals try simp -dsimp [hR1,hR2,hR3,hx2,hwu,hlu,hs]
      all_goals try clear hs
      all_goals exact At.round ⟨(u + 1,stepIt D L (m',r') s[k].items[u]),by omega,hcs,hst.1,hst.2⟩ (by simp;omega) (Weak.of_drop [4,5,10,11,53,54,55] 10 (by simp) (by simp) (by clear hR4 hR5 hR6 hR7 hR8;simp_all [stepIt,hR10,LoopD.at_eta]))
     ·have htu:(m',r')=stepIs D L (m,r) s[k]:=by rw [← ha',List.drop_eq_nil_of_le (by omega)];rfl
      have hcs:((s.drop (k + 1)).takeWhile fun x=>decide (x.drawing=ds[j])).foldl (stepIs D L) (m',r')=(segI l ds[j]).foldl (stepIs D L) (0,decide (ds[j]∈L)):=by
       rw [← ha,List.drop_eq_getElem_cons hls,List.takeWhile_cons_of_pos (by simp [hd]),htu];rfl
      have hs:True:=trivial
      repeat' first|(with_reducible first|refine q01 ?_|refine q03 ?_|refine q04 ?_|refine q06 ?_|refine q11 ?_|refine q14 ?_|refine q16 ?_)|(with_reducible refine At.yield_end ?_;simp -dsimp [hR1,hR2,hR3,hlu,hwk,hs])|(with_reducible refine DT_regionE [0,1,2,3,4,5,7,9,10,11,12,14,20,21,22,23,24,25,26,27,33,34,35,39,40,41,42,50,51,53,54,55,56,74] ?_;simp -dsimp [hR1,hR2,hR3,hlu,hwk,hs])|(refine DT_cond rfl (fun h=>?_) (fun h=>?_)<;>(try simp only [nrm] at h)<;>(try exact Bool.noConfusion h))
      all_goals try simp -dsimp [hR1,hR2,hR3,hlu,hwk,hs]
      all_goals try clear hs
      exact At.round ⟨(k + 1,(m',r')),by omega,hcs,hm1',hm2'⟩ (by simp;omega) (Weak.of_drop [0,2,24,25,26] 7 (by simp) (by simp) (by simp [hR9]))
    ·have htot:(m,r)=(segI l ds[j]).foldl (stepIs D L) (0,decide (ds[j]∈L)):=by
      rw [← ha,List.drop_eq_getElem_cons hls,List.takeWhile_cons_of_neg (by simp [hd])];rfl
     have hdep:depth1 l (D,L) ds[j]=if r then (mput ds[j] (m + 1) D,L.erase ds[j]) else (D,L):=by simp only [depth1];rw [← htot]
     have hwm:IntKind.i64.wrap (m + 1)=m + 1:=i64w (by omega) (by omega)
     have hbn:bd (depth1 l (D,L) ds[j]).1 (i * ds.length + (j + 1)):=by
      rw [hdep];split
      ·exact bd_put (bd_mono hb1 (by omega)) (by omega) (by omega)
      ·exact bd_mono hb1 (by omega)
     have hqn:(ds.drop (j + 1)).foldl (depth1 l) (depth1 l (D,L) ds[j])=depthR l ds q:=by rw [← hq1,List.drop_eq_getElem_cons hlj];rfl
     have hs:True:=trivial
     repeat' first|(with_reducible first|refine q01 ?_|refine q02 ?_|refine q04 ?_|refine q05 ?_|refine q11 ?_|refine q12 ?_|refine q14 ?_|refine q17 ?_)|(with_reducible refine At.fn_ret (by simp -dsimp [hR1,hR2,hR3,hx1,hwk,hd,hls,hwm,hwj,hs];exact rfl) ?_)|(with_reducible show LoopR _ _ _ _ _ _ _ _;simp -dsimp [LoopR,hR1,hR2,hR3,hx1,hwk,hd,hls,hwm,hwj,hs])|(with_reducible refine DT_regionE [0,1,2,3,4,5,7,9,10,11,12,14,20,21,22,23,24,25,26,27,33,34,35,39,40,41,42,50,51,53,54,55,56,74] ?_;simp -dsimp [hR1,hR2,hR3,hx1,hwk,hd,hls,hwm,hwj,hs])|(refine DT_cond rfl (fun h=>?_) (fun h=>?_)<;>(try simp only [nrm] at h)<;>(try exact Bool.noConfusion h))
     all_goals try simp -dsimp [hR1,hR2,hR3,hx1,hwk,hd,hls,hwm,hwj,hs]
     all_goals try clear hs
     all_goals exact At.round ⟨(j + 1,depth1 l (D,L) ds[j]),by omega,hqn,hbn⟩ (by simp;omega) (Weak.of_drop [0,4,5,33,34,39,40,41] 4 (by simp) (by simp) (by simp_all))
   ·have htot:(m,r)=(segI l ds[j]).foldl (stepIs D L) (0,decide (ds[j]∈L)):=by
     rw [← ha,List.drop_eq_nil_of_le (by omega)];rfl
    have hdep:depth1 l (D,L) ds[j]=if r then (mput ds[j] (m + 1) D,L.erase ds[j]) else (D,L):=by simp only [depth1];rw [← htot]
    have hwm:IntKind.i64.wrap (m + 1)=m + 1:=i64w (by omega) (by omega)
    have hbn:bd (depth1 l (D,L) ds[j]).1 (i * ds.length + (j + 1)):=by
     rw [hdep];split
     ·exact bd_put (bd_mono hb1 (by omega)) (by omega) (by omega)
     ·exact bd_mono hb1 (by omega)
    have hqn:(ds.drop (j + 1)).foldl (depth1 l) (depth1 l (D,L) ds[j])=depthR l ds q:=by rw [← hq1,List.drop_eq_getElem_cons hlj];rfl
    have hs:True:=trivial
    repeat' first|(with_reducible first|refine q01 ?_|refine q03 ?_|refine q04 ?_|refine q06 ?_|refine q11 ?_|refine q14 ?_|refine q16 ?_)|(with_reducible refine At.fn_end (by simp -dsimp [hR1,hR2,hR3,hls,hwm,hwj,hs];exact rfl) ?_)|(with_reducible show LoopR _ _ _ _ _ _ _ _;simp -dsimp [LoopR,hR1,hR2,hR3,hls,hwm,hwj,hs])|(with_reducible refine DT_regionE [0,1,2,3,4,5,7,9,10,11,12,14,20,21,22,23,24,25,26,27,33,34,35,39,40,41,42,50,51,53,54,55,56,74] ?_;simp -dsimp [hR1,hR2,hR3,hls,hwm,hwj,hs])|(refine DT_cond rfl (fun h=>?_) (fun h=>?_)<;>(try simp only [nrm] at h)<;>(try exact Bool.noConfusion h))
    all_goals try simp -dsimp [hR1,hR2,hR3,hls,hwm,hwj,hs]
    all_goals try clear hs
    all_goals exact At.round ⟨(j + 1,depth1 l (D,L) ds[j]),by omega,hqn,hbn⟩ (by simp;omega) (Weak.of_drop [0,4,5,33,34,39,40,41] 4 (by simp) (by simp) (by simp_all))
  ·have hq2:(D,L)=depthR l ds q:=by rw [← hq1,List.drop_eq_nil_of_le (by omega)];rfl
   have hs:True:=trivial
   repeat' first|(with_reducible first|refine q01 ?_|refine q03 ?_|refine q04 ?_|refine q06 ?_|refine q11 ?_|refine q16 ?_)|(with_reducible refine DT_regionE [0,2,3,4,5,7,9,10,11,12,14,20,21,22,23,33,34,35,39,40,41,42,50,51,53,54,55,56,74] ?_;simp -dsimp [hlj,hw,hs])|(refine DT_cond rfl (fun h=>?_) (fun h=>?_)<;>(try simp only [nrm] at h)<;>(try exact Bool.noConfusion h))
   all_goals try simp -dsimp [hlj,hw,hs]
   all_goals try clear hs
   exact At.round ⟨(i + 1,(D,L)),by omega,by rw [hq2,← hq,show ds.length - i=(ds.length - (i + 1)) + 1 by omega];rfl,bd_mono hb1 (by show _≤(i + 1) * ds.length;omega)⟩ (by simp;omega) (Weak.of_keep [0,4,5,33,34] (by simp))
 ·have hq2:q=depthsI l ds:=by rw [← hq,show ds.length - i=0 by omega];rfl
  have hs:True:=trivial
  repeat' first|(with_reducible first|refine q01 ?_|refine q03 ?_|refine q06 ?_|refine q11 ?_|refine q16 ?_|refine q17 ?_)|(with_reducible refine At.fn_ret (by simp -dsimp [hlt,hs];exact rfl) ?_)|(with_reducible refine DT_regionE [0,2,3,4,5,7,9,10,11,12,14,20,21,22,23,33,34,35,39,40,41,42,50,51,53,54,55,56,74] ?_;simp -dsimp [hlt,hs])|(refine DT_cond rfl (fun h=>?_) (fun h=>?_)<;>(try simp only [nrm] at h)<;>(try exact Bool.noConfusion h))
  all_goals try simp -dsimp [hlt,hs]
  all_goals try clear hs
  all_goals simp [hq2]
end Go.Proofs
namespace Go.Proofs
open Go Go.Ab
def mx (f:Int→Int) (l:List Int):Int:=l.foldl (fun m c=>max m (f c)) 0
theorem mx_foldl (f:Int→Int):∀ (l:List Int) (a:Int),0≤a→l.foldl (fun m c=>max m (f c)) a=max a (mx f l)
 | [],a,h=>by simp [mx];omega
 | c :: l,a,h=>by
   have h1:=mx_foldl f l (max a (f c)) (by omega)
   have h2:=mx_foldl f l (max 0 (f c)) (by omega)
   simp only [mx,List.foldl_cons] at h1 h2 ⊢
   rw [h1,h2];omega
theorem mx_nonneg (f:Int→Int) (l:List Int):0≤mx f l:=by
 have:=mx_foldl f l 0 (by omega)
 unfold mx at *;omega
theorem mx_le {f:Int→Int} {l:List Int} {b:Int} (hb:0≤b) (h:∀ c∈l,f c≤b):mx f l≤b:=by
 induction l with
 | nil=>simpa [mx] using hb
 | cons c l ih =>
   have h1:=mx_foldl f l (max 0 (f c)) (by omega)
   have h2:=ih fun d hd=>h d (by simp [hd])
   have h3:=h c (by simp)
   simp only [mx,List.foldl_cons] at h1 h2 ⊢
   rw [h1];omega
theorem le_mx {f:Int→Int} {l:List Int} {c:Int} (h:c∈l):f c≤mx f l:=by
 induction l with
 | nil=>cases h
 | cons d l ih =>
   have h1:=mx_foldl f l (max 0 (f d)) (by omega)
   simp only [mx,List.foldl_cons] at h1 ⊢
   rw [h1]
   rcases List.mem_cons.1 h with rfl|h
   ·omega
   ·have:=ih h;simp only [mx] at this;omega
theorem mx_congr {f g:Int→Int} {l:List Int} (h:∀ c∈l,f c=g c):mx f l=mx g l:=by
 have a:=mx_le (f:=f) (mx_nonneg g l) fun c hc=>by rw [h c hc];exact le_mx hc
 have b:=mx_le (f:=g) (mx_nonneg f l) fun c hc=>by rw [← h c hc];exact le_mx hc
 omega
def chI (l:List Issue) (n:Int):List Int:=(segI l n).flatMap fun x=>x.items.map (·.drawing)
theorem foldl_its (D:List (Int×Int)) (L:List Int):∀ (ys:List Itm) (a:Int×Bool),ys.foldl (stepIt D L) a=((ys.map (·.drawing)).foldl (fun m c=>max m (mlook D c)) a.1,a.2 && (ys.map (·.drawing)).all fun c=>!decide (c∈L))
 | [],a=>by simp
 | y :: ys,a=>by simp only [List.foldl_cons,List.map_cons,List.all_cons,foldl_its D L ys];simp [stepIt,Bool.and_assoc]
theorem foldl_iss (D:List (Int×Int)) (L:List Int):∀ (xs:List Issue) (a:Int×Bool),xs.foldl (stepIs D L) a=((xs.flatMap fun x=>x.items.map (·.drawing)).foldl (fun m c=>max m (mlook D c)) a.1,a.2 && (xs.flatMap fun x=>x.items.map (·.drawing)).all fun c=>!decide (c∈L))
 | [],a=>by simp
 | x :: xs,a=>by simp only [List.foldl_cons,List.flatMap_cons,List.foldl_append,List.all_append,foldl_iss D L xs];simp [stepIs,foldl_its,Bool.and_assoc]
theorem depth1_eq (l:List Issue) (D:List (Int×Int)) (L:List Int) (n:Int) :
 depth1 l (D,L) n=if n∈L∧∀ c∈chI l n,c∉L then (mput n (mx (mlook D) (chI l n) + 1) D,L.erase n) else (D,L):=by
 simp only [depth1,foldl_iss]
 have e:((decide (n∈L) && ((segI l n).flatMap fun x=>x.items.map (·.drawing)).all fun c=>!decide (c∈L))=true)=(n∈L∧∀ c∈chI l n,c∉L):=by
  rw [Bool.and_eq_true,decide_eq_true_eq,List.all_eq_true]
  simp only [Bool.not_eq_true',decide_eq_false_iff_not];rfl
 by_cases h:n∈L∧∀ c∈chI l n,c∉L
 ·rw [if_pos (e.symm ▸ h),if_pos h];rfl
 ·rw [if_neg (e.symm ▸ h),if_neg h]
def Rr (l:List Issue):Nat→Int→Int
 | 0,_=>0
 | k + 1,n=>1 + mx (Rr l k) (chI l n)
theorem Rr_nonneg (l:List Issue) (k:Nat) (n:Int):0≤Rr l k n:=by
 cases k with
 | zero=>exact Int.le_refl _
 | succ k=>have:=mx_nonneg (Rr l k) (chI l n);simp only [Rr];omega
theorem Rr_le (l:List Issue):∀ (k:Nat) (n:Int),Rr l k n≤k
 | 0,_=>Int.le_refl _
 | k + 1,n=>by
   have:=mx_le (f:=Rr l k) (l:=chI l n) (b:=k) (by omega) fun c _=>Rr_le l k c
   simp only [Rr];omega
theorem mlook_put (D:List (Int×Int)) (n v m:Int):mlook (mput n v D) m=if m=n then v else mlook D m:=by
 induction D with
 | nil=>by_cases h:n=m<;>simp [mput,mlook,h,eq_comm]
 | cons p r ih =>
   simp only [mput]
   by_cases hp:p.1=n
   ·rw [if_pos hp]
    by_cases hm:m=n
    ·simp [mlook,hm]
    ·simp [mlook,hm,hp,Ne.symm hm]
   ·rw [if_neg hp]
    by_cases hm:m=n
    ·subst hm;simp [mlook,hp];simpa using ih
    ·by_cases hq:p.1=m
     ·simp [mlook,hq,hm]
     ·simp only [mlook,if_neg hq,ih,if_neg hm]
theorem mput_keys {D:List (Int×Int)} {n v:Int} {p:Int×Int} (h:p∈mput n v D):p.1=n∨p∈D:=by
 induction D with
 | nil=>simp [mput] at h;simp [h]
 | cons q r ih =>
   simp only [mput] at h
   split at h
   ·rcases List.mem_cons.1 h with rfl|h
    ·exact .inl rfl
    ·exact .inr (by simp [h])
   ·rcases List.mem_cons.1 h with rfl|h
    ·exact .inr (by simp)
    ·rcases ih h with h|h
     ·exact .inl h
     ·exact .inr (by simp [h])
theorem mput_nodup {D:List (Int×Int)} {n v:Int} (h:(D.map (·.1)).Nodup):((mput n v D).map (·.1)).Nodup:=by
 induction D with
 | nil=>simp [mput]
 | cons q r ih =>
   rw [List.map_cons,List.nodup_cons] at h
   simp only [mput]
   split
   ·rename_i hq;rw [List.map_cons,List.nodup_cons,← hq];exact h
   ·rename_i hq
    rw [List.map_cons,List.nodup_cons]
    refine ⟨fun hm=>?_,ih h.2⟩
    obtain ⟨p,hp,he⟩:=List.mem_map.1 hm
    rcases mput_keys hp with h'|h'
    ·exact hq (by rw [← he];exact h')
    ·exact h.1 (by rw [← he];exact List.mem_map_of_mem h')
theorem mlook_mem {D:List (Int×Int)} (h:(D.map (·.1)).Nodup) {p:Int×Int} (hp:p∈D):mlook D p.1=p.2:=by
 induction D with
 | nil=>cases hp
 | cons q r ih =>
   rw [List.map_cons,List.nodup_cons] at h
   rcases List.mem_cons.1 hp with rfl|hp
   ·simp [mlook]
   ·have hne:q.1≠p.1:=fun e=>h.1 (by rw [e];exact List.mem_map_of_mem hp)
    simp only [mlook,if_neg hne];exact ih h.2 hp
theorem mlook_some {D:List (Int×Int)} {n:Int} (h:mlook D n≠0):(n,mlook D n)∈D:=by
 induction D with
 | nil=>simp [mlook] at h
 | cons q r ih =>
   simp only [mlook] at h ⊢
   split at h
   ·rename_i e;rw [if_pos e,← e];simp
   ·rename_i e;rw [if_neg e];exact List.mem_cons_of_mem _ (ih h)
structure DInv (l:List Issue) (ds:List Int) (q:List (Int×Int)×List Int):Prop where
 nd:q.2.Nodup
 sub:∀ n∈q.2,n∈ds
 kd:(q.1.map (·.1)).Nodup
 ks:∀ p∈q.1,p.1∈ds∧p.1∉q.2
 val:∀ n∈ds,n∉q.2→1≤mlook q.1 n∧mlook q.1 n + q.2.length≤ds.length∧∀ k:Nat,mlook q.1 n≤k→Rr l k n=mlook q.1 n
theorem DInv.step {l:List Issue} {ds:List Int} (hch:∀ n∈ds,∀ c∈chI l n,c∈ds) {q:List (Int×Int)×List Int} (h:DInv l ds q) (n:Int):DInv l ds (depth1 l q n)∧(depth1 l q n).2.length≤q.2.length:=by
 obtain ⟨D,L⟩:=q
 rw [depth1_eq]
 split
 ·rename_i hn
  obtain ⟨hnL,hcL⟩:=hn
  have hnds:=h.sub n hnL
  have hlen:(L.erase n).length + 1=L.length:=by
   rw [List.length_erase_of_mem hnL]
   have:=List.length_pos_of_mem hnL;omega
  have hmem:∀ m,m∈L.erase n↔m≠n∧m∈L:=fun m=>h.nd.mem_erase_iff
  have hc:∀ c∈chI l n,1≤mlook D c∧mlook D c + L.length≤ds.length∧∀ k:Nat,mlook D c≤k→Rr l k c=mlook D c:=fun c hc=>h.val c (hch n hnds c hc) (hcL c hc)
  have hLds:L.length≤ds.length:=h.nd.length_le_of_subset h.sub
  have hmxb:mx (mlook D) (chI l n)≤ds.length - L.length:=mx_le (by omega) fun c hc'=>by have:=(hc c hc').2.1;omega
  refine ⟨⟨h.nd.erase n,fun m hm=>h.sub m ((hmem m).1 hm).2,mput_nodup h.kd,fun p hp=>?_,fun m hm hmL=>?_⟩,by simp only;omega⟩
  ·rcases mput_keys hp with e|hp
   ·exact ⟨by rw [e];exact hnds,fun hp'=>((hmem _).1 hp').1 e⟩
   ·exact ⟨(h.ks p hp).1,fun hp'=>(h.ks p hp).2 ((hmem _).1 hp').2⟩
  ·simp only [mlook_put]
   by_cases e:m=n
   ·subst e
    rw [if_pos rfl]
    have h0:=mx_nonneg (mlook D) (chI l m)
    refine ⟨by omega,by omega,fun k hk=>?_⟩
    obtain ⟨j,rfl⟩:∃ j,k=j + 1:=⟨k - 1,by omega⟩
    simp only [Rr]
    rw [mx_congr fun c hc'=>(hc c hc').2.2 j (by have:=le_mx (f:=mlook D) hc';omega)];omega
   ·rw [if_neg e]
    have hmL':m∉L:=fun hm'=>hmL ((hmem m).2 ⟨e,hm'⟩)
    obtain ⟨a,b,c⟩:=h.val m hm hmL'
    exact ⟨a,by simp only at b ⊢;omega,c⟩
 ·exact ⟨h,Nat.le_refl _⟩
theorem DInv.fold {l:List Issue} {ds:List Int} (hch:∀ n∈ds,∀ c∈chI l n,c∈ds):∀ (ns:List Int) {q:List (Int×Int)×List Int},DInv l ds q→DInv l ds (ns.foldl (depth1 l) q)∧(ns.foldl (depth1 l) q).2.length≤q.2.length
 | [],_,h=>⟨h,Nat.le_refl _⟩
 | n :: ns,_,h=>by
   obtain ⟨h1,h2⟩:=h.step hch n
   obtain ⟨h3,h4⟩:=DInv.fold hch ns h1
   exact ⟨h3,Nat.le_trans h4 h2⟩
def Stuck (l:List Issue) (L:List Int):Prop:=∀ n∈L,∃ c∈chI l n,c∈L
theorem fold_same {l:List Issue}:∀ (ns:List Int) (q:List (Int×Int)×List Int),(ns.foldl (depth1 l) q).2.length=q.2.length→(∀ q' n,(depth1 l q' n).2.length≤q'.2.length)→ns.foldl (depth1 l) q=q∧∀ n∈ns,n∈q.2→∃ c∈chI l n,c∈q.2
 | [],q,_,_=>⟨rfl,by simp⟩
 | n :: ns,q,h,hle=>by
   have hmono:∀ (ns:List Int) (q:List (Int×Int)×List Int),(ns.foldl (depth1 l) q).2.length≤q.2.length:=by
    intro ns
    induction ns with
    | nil=>exact fun q=>Nat.le_refl _
    | cons n ns ih=>exact fun q=>Nat.le_trans (ih _) (hle q n)
   rw [List.foldl_cons] at h ⊢
   have h1:=hmono ns (depth1 l q n)
   have h2:=hle q n
   have h3:(depth1 l q n).2.length=q.2.length:=by omega
   obtain ⟨D,L⟩:=q
   have key:¬ (n∈L∧∀ c∈chI l n,c∉L):=by
    intro hc
    rw [depth1_eq,if_pos hc] at h3
    simp only [List.length_erase_of_mem hc.1] at h3
    have:=List.length_pos_of_mem hc.1;omega
   have he:depth1 l (D,L) n=(D,L):=by rw [depth1_eq,if_neg key]
   rw [he] at h ⊢
   obtain ⟨i1,i2⟩:=fold_same ns (D,L) h hle
   refine ⟨i1,fun m hm hL=>?_⟩
   rcases List.mem_cons.1 hm with rfl|hm
   ·exact Classical.byContradiction fun hno=>key ⟨hL,fun c hc hcL=>hno ⟨c,hc,hcL⟩⟩
   ·exact i2 m hm hL
theorem depth1_le (l:List Issue) (q:List (Int×Int)×List Int) (n:Int):(depth1 l q n).2.length≤q.2.length:=by
 obtain ⟨D,L⟩:=q
 rw [depth1_eq]
 split
 ·exact List.length_erase_le
 ·exact Nat.le_refl _
theorem depthN_inv {l:List Issue} {ds:List Int} (hch:∀ n∈ds,∀ c∈chI l n,c∈ds):∀ (k:Nat) (q:List (Int×Int)×List Int),DInv l ds q→DInv l ds (depthN l ds k q)∧((depthN l ds k q).2.length + k≤q.2.length∨(depthN l ds k q).2=[]∨Stuck l (depthN l ds k q).2)
 | 0,q,h=>⟨h,.inl (Nat.le_refl _)⟩
 | k + 1,q,h=>by
   obtain ⟨h1,h2⟩:=DInv.fold hch ds h
   change DInv l ds (depthR l ds q) at h1
   change (depthR l ds q).2.length≤q.2.length at h2
   obtain ⟨h3,h4⟩:=depthN_inv hch k (depthR l ds q) h1
   refine ⟨h3,?_⟩
   simp only [depthN]
   rcases h4 with h4|h4
   ·by_cases e:(depthR l ds q).2.length=q.2.length
    ·obtain ⟨e1,e2⟩:=fold_same ds q e (depth1_le l)
     change depthR l ds q=q at e1
     have hst:Stuck l q.2:=fun n hn=>e2 n (h.sub n hn) hn
     have hall:∀ k,depthN l ds k q=q:=by
      intro k
      induction k with
      | zero=>rfl
      | succ k ih=>simp only [depthN,e1,ih]
     rw [e1,hall k]
     exact .inr (.inr hst)
    ·exact .inl (by omega)
   ·exact .inr h4
theorem Rr_stuck {l:List Issue} {L:List Int} (h:Stuck l L):∀ (k:Nat) (n:Int),n∈L→Rr l k n=k
 | 0,_,_=>rfl
 | k + 1,n,hn=>by
   obtain ⟨c,hc,hcL⟩:=h n hn
   have h1:=Rr_stuck h k c hcL
   have h2:=le_mx (f:=Rr l k) hc
   have h3:=Rr_le l (k + 1) n
   simp only [Rr] at h3 ⊢;omega
theorem left0_eq {ds:List Int} (h:ds.Nodup):left0 ds=ds:=by
 have gen:∀ (ds L:List Int),(L ++ ds).Nodup→ds.foldl (fun l n=>sput n l) L=L ++ ds:=by
  intro ds
  induction ds with
  | nil=>simp
  | cons d ds ih =>
    intro L hL
    have hd:d∉L:=fun hd=>by
     rw [List.nodup_append] at hL
     exact hL.2.2 d hd d (by simp) rfl
    rw [List.foldl_cons,sput,if_neg hd,ih _ (by simpa using hL)];simp
 exact gen ds [] h
theorem depthsI_spec {l:List Issue} {ds:List Int} (hnd:ds.Nodup) (hch:∀ n∈ds,∀ c∈chI l n,c∈ds) :
 (0 < (depthsI l ds).2.length↔∃ n∈ds,Rr l (ds.length + 1) n > ds.length) ∧
 ((depthsI l ds).2.length=0→(∀ n∈ds,mlook (depthsI l ds).1 n=Rr l (ds.length + 1) n)∧((depthsI l ds).1.any (fun p=>decide (6 < p.2))=true↔∃ n∈ds,6 < Rr l (ds.length + 1) n)):=by
 have h0:DInv l ds ([],left0 ds):=by
  rw [left0_eq hnd]
  exact ⟨hnd,fun n h=>h,by simp,by simp,fun n h h'=>absurd h h'⟩
 obtain ⟨h1,h2⟩:=depthN_inv hch ds.length _ h0
 change DInv l ds (depthsI l ds) at h1
 have h2:(depthsI l ds).2.length + ds.length≤ds.length∨(depthsI l ds).2=[]∨Stuck l (depthsI l ds).2:=by
  have e:([],left0 ds)=(([]:List (Int×Int)),ds):=by rw [left0_eq hnd]
  unfold depthsI
  rw [e] at h2 ⊢
  exact h2
 have hst:0 < (depthsI l ds).2.length→Stuck l (depthsI l ds).2:=by
  intro hp
  rcases h2 with h2|h2|h2
  ·omega
  ·rw [h2] at hp;cases hp
  ·exact h2
 have hval:∀ n∈ds,n∉(depthsI l ds).2→Rr l (ds.length + 1) n=mlook (depthsI l ds).1 n∧1≤mlook (depthsI l ds).1 n∧mlook (depthsI l ds).1 n≤ds.length:=fun n hn hL=>by
  obtain ⟨a,b,c⟩:=h1.val n hn hL
  exact ⟨c _ (by omega),a,by omega⟩
 have hempty:(depthsI l ds).2.length=0→∀ n,n∉(depthsI l ds).2:=fun h n=>by
  rw [List.length_eq_zero_iff.1 h];simp
 refine ⟨⟨fun hp=>?_,fun ⟨n,hn,hgt⟩=>?_⟩,fun hz=>⟨fun n hn=>(hval n hn (hempty hz n)).1.symm,?_,?_⟩⟩
 ·obtain ⟨n,hn⟩:=List.exists_mem_of_length_pos hp
  exact ⟨n,h1.sub n hn,by rw [Rr_stuck (hst hp) _ n hn];omega⟩
 ·refine Nat.pos_of_ne_zero fun hz=>?_
  have:=hval n hn (hempty hz n);omega
 ·intro ha
  obtain ⟨p,hp,h6⟩:=List.any_eq_true.1 ha
  have h6:6 < p.2:=by simpa using h6
  have hk:=(h1.ks p hp).1
  exact ⟨p.1,hk,by rw [(hval p.1 hk (hempty hz _)).1,mlook_mem h1.kd hp];exact h6⟩
 ·rintro ⟨n,hn,h6⟩
  have hv:=hval n hn (hempty hz n)
  exact List.any_eq_true.2 ⟨_,mlook_some (D:=(depthsI l ds).1) (n:=n) (by omega),by simp;omega⟩
end Go.Proofs
namespace Go.Proofs
open Go Go.Ab
attribute [local simp] dslice setLp
set_option linter.unusedSimpArgs false
variable {G:Nat→Option (List IC)}
def numsTo (l:List Issue):Nat→List Int
 | 0=>[]
 | k + 1=>numsTo l k ++ (match l[k]? with
   | some x=>if k=0∨(l[k - 1]?).map Issue.drawing≠some x.drawing then [x.drawing] else []
   | none=>[])
def nums (l:List Issue):List Int:=numsTo l l.length
theorem numsTo_length (l:List Issue):∀ k,(numsTo l k).length≤k
 | 0=>Nat.le_refl _
 | k + 1=>by
   have:=numsTo_length l k
   simp only [numsTo,List.length_append]
   split
   ·split<;>simp<;>omega
   ·simp;omega
theorem numbers_c (l:List Issue) (hl:l.length < 1000000) (objs:List DObj):DCall Tryz.prog G 101 [regv l] objs (fun d objs'=>d=isv (nums l)∧objs'=objs):=by
 refine DCall.frame ?_ (by simp) (by simp) objs
 refine DCall_intro Tryz.func101 rfl Tryz.ntmps101 (by simp) rfl ?_
 simp only [regv,isv]
 have hs:True:=trivial
 repeat' first|(with_reducible first|refine q01 ?_|refine q11 ?_|refine q12 ?_)|(with_reducible refine DT_regionE [0,1,2,3,4,5,10,31] ?_;simp -dsimp [hs])
 all_goals try simp -dsimp [hs]
 all_goals try clear hs
 refine DT_loop (ι:={ p:Nat×Nat×Bool // p.1≤l.length }) (fun p=>⟨37,[(1,.one (.ptr 0 0)),(3,.one (.vec 2 p.1.2.1 0 (numsTo l p.1.1).length)),(4,iv (p.1.1:Int))],[.row [.im (.sl (l.map encIssue))],.vec 1 [] 0 true,.vec 1 (ims ((numsTo l p.1.1).map encI)) p.1.2.1 p.1.2.2]⟩) (fun p=>l.length - p.1.1) ⟨(0,0,true),by simp⟩ (Weak.of_keep [1,3,4] (by simp [iv,numsTo])) ?_
 rintro ⟨⟨k,g,nl⟩,hk⟩
 have hlen:=numsTo_length l k
 simp only [iv]
 by_cases hlt:k < l.length
 ·have hx:l[k]?=some l[k]:=by simp [hlt]
  have hw:IntKind.i64.wrap ((k:Int) + 1)=((k + 1:Nat):Int):=i64w (by omega) (by omega)
  by_cases hk0:k=0
  ·subst hk0
   have hs:True:=trivial
   repeat' first|(with_reducible first|refine q01 ?_|refine q03 ?_|refine q04 ?_|refine q06 ?_|refine q11 ?_|refine q12 ?_|refine q14 ?_|refine q16 ?_|refine q17 ?_|refine And.intro (by omega) ?_)|(with_reducible refine At.fn_ret (by simp -dsimp [hx,encIssue,rI,hw,hs];exact rfl) ?_)|(with_reducible refine DT_regionE [0,1,2,3,4,5,10,31] ?_;simp -dsimp [hx,encIssue,rI,hw,hs])|(refine DT_cond rfl (fun h=>?_) (fun h=>?_)<;>(try simp only [nrm] at h)<;>(try exact Bool.noConfusion h))
   all_goals try simp -dsimp [hx,encIssue,rI,hw,hs]
   all_goals try clear hs
   all_goals try omega
   have hs:numsTo l 1=numsTo l 0 ++ [l[0].drawing]:=by simp [numsTo,hx]
   exact At.round ⟨(1,g + 1,false),by simp;omega⟩ (by simp;omega) (Weak.of_drop [1,3,4] 3 (by simp) (by simp) (by simp [hs,encI,rI];exact hw))
  ·obtain ⟨m,hm⟩:∃ m,k=m + 1:=⟨k - 1,by omega⟩
   have hw1:IntKind.i64.wrap ((k:Int) - 1)=m:=i64w (by omega) (by omega) |>.trans (by omega)
   have hy:l[m]?=some l[m]:=by simp
   have hs:True:=trivial
   repeat' first|(with_reducible first|refine q01 ?_|refine q03 ?_|refine q04 ?_|refine q06 ?_|refine q11 ?_|refine q12 ?_|refine q14 ?_|refine q16 ?_|refine q17 ?_|refine And.intro (by omega) ?_)|(with_reducible refine At.fn_ret (by simp -dsimp [hx,hy,encIssue,rI,hw,hw1,hk0,hs];exact rfl) ?_)|(with_reducible refine DT_regionE [0,1,2,3,4,5,10,31] ?_;simp -dsimp [hx,hy,encIssue,rI,hw,hw1,hk0,hs])|(refine DT_cond rfl (fun h=>?_) (fun h=>?_)<;>(try simp only [nrm] at h)<;>(try exact Bool.noConfusion h))
   all_goals try simp -dsimp [hx,hy,encIssue,rI,hw,hw1,hk0,hs]
   all_goals try clear hs
   all_goals try omega
   ·rename_i h
    have hs:numsTo l (k + 1)=numsTo l k ++ [l[k].drawing]:=by
     simp only [numsTo,hx,show k - 1=m from by omega,hy]
     simpa [hk0] using h
    exact At.round ⟨(k + 1,g + 1,false),by simp;omega⟩ (by simp;omega) (Weak.of_drop [1,3,4] 3 (by simp) (by simp) (by simp [hs,encI,rI]))
   ·rename_i h
    have hs:numsTo l (k + 1)=numsTo l k:=by
     simp only [numsTo,hx,show k - 1=m from by omega,hy]
     simpa [hk0] using h
    exact At.round ⟨(k + 1,g,nl),by simp;omega⟩ (by simp;omega) (Weak.of_keep [1,3,4] (by simp [hs]))
 ·have hs:True:=trivial
  repeat' first|(with_reducible first|refine q01 ?_|refine q03 ?_|refine q06 ?_|refine q11 ?_|refine q16 ?_|refine q17 ?_)|(with_reducible refine At.fn_ret (by simp -dsimp [hlt,hs];exact rfl) ?_)|(with_reducible refine DT_regionE [0,1,2,3,4,5,10,31] ?_;simp -dsimp [hlt,hs])|(refine DT_cond rfl (fun h=>?_) (fun h=>?_)<;>(try simp only [nrm] at h)<;>(try exact Bool.noConfusion h))
  all_goals try simp -dsimp [hlt,hs]
  all_goals try clear hs
  all_goals try omega
  have hkl:k=l.length:=by simp at hk;omega
  subst hkl
  rfl
end Go.Proofs
namespace Go.Proofs
open Go Go.Ab
set_option linter.unusedSimpArgs false
variable {G:Nat→Option (List IC)}
theorem open1_c (y:Itm) (l:List Issue) (ds:List Int) (hs:ds.Pairwise (·≤·)) (hl:ds.length < 1000000) (objs:List DObj):DCall Tryz.prog G 82 [itmv y,.one (.im (.ip [bookI l ds]))] objs (fun rr objs'=>rr=bv (!decide (y.drawing∈ds))∧objs'=objs):=by
 refine DCall.frame ?_ (by simp) (by simp) objs
 refine DCall_intro Tryz.func82 rfl Tryz.ntmps82 (by simp) rfl ?_
 try simp only [iv]
 have c1:=has_c (G:=G) l ds y.drawing hs hl
 have hs:True:=trivial
 repeat' first|(with_reducible first|refine q01 ?_|refine q11 ?_|refine q17 ?_)|(with_reducible refine At.fn_ret (by simp -dsimp [hs];exact rfl) ?_)|(refine CallE.pure (c1) ?_;try simp -dsimp [hs])|(with_reducible refine DT_regionE [0,1,2,3] ?_;simp -dsimp [hs])
 all_goals try simp -dsimp [hs]
 all_goals try clear hs
def issueOk (x:Issue):Bool:=ck1 x && ck2 x && itemsOk x.drawing 0 x.items && x.dims.all dimOk
def scanI:Option Issue→List Issue→Option (List Int)
 | _,[]=>some []
 | some y,x :: r=>if issueOk x=false then none else if y.drawing=x.drawing then (if y.letter + 1≠x.letter∨y.kind≠x.kind then none else scanI (some x) r) else if y.drawing > x.drawing then none else if x.letter≠1 then none else (scanI (some x) r).map (x.drawing :: ·)
 | none,x :: r=>if issueOk x=false then none else if x.letter≠1 then none else (scanI (some x) r).map (x.drawing :: ·)
theorem scan_bad' {x:Issue} (h:issueOk x=false) {p:Option Issue} {r:List Issue}:scanI p (x :: r)=none:=by cases p<;>simp [scanI,h]
theorem scan_spec:∀ (l:List Issue) (p:Option Issue) (ds:List Int),scanI p l=some ds →
 (∀ x∈l,issueOk x=true)∧(l.map (·.drawing)).Pairwise (·≤·)∧(∀ y,p=some y→∀ x∈l,y.drawing≤x.drawing)∧ds.Pairwise (·≤·)∧(∀ d∈ds,∃ x∈l,x.drawing=d)
 | [],p,ds,h=>by
   have:ds=[]:=by cases p<;>simp [scanI] at h<;>exact h
   subst this;simp
 | x :: r,p,ds,h=>by
   have hok:issueOk x=true:=by
    cases hx:issueOk x
    ·rw [scan_bad' hx] at h;cases h
    ·rfl
   have key:∃ ds',scanI (some x) r=some ds'∧(ds=ds'∨ds=x.drawing :: ds')∧∀ y,p=some y→y.drawing≤x.drawing:=by
    cases p with
    | none =>
      simp only [scanI,hok] at h
      split at h
      ·cases h
      ·split at h
       ·cases h
       ·obtain ⟨ds',h1,h2⟩:=Option.map_eq_some_iff.1 h
        exact ⟨ds',h1,.inr h2.symm,by simp⟩
    | some y =>
      simp only [scanI,hok] at h
      split at h
      ·cases h
      ·split at h
       ·rename_i hd
        split at h
        ·cases h
        ·exact ⟨ds,h,.inl rfl,fun y' e=>by cases e;omega⟩
       ·split at h
        ·cases h
        ·split at h
         ·cases h
         ·obtain ⟨ds',h1,h2⟩:=Option.map_eq_some_iff.1 h
          exact ⟨ds',h1,.inr h2.symm,fun y' e=>by cases e;omega⟩
   obtain ⟨ds',h1,h2,h3⟩:=key
   obtain ⟨i1,i2,i3,i4,i5⟩:=scan_spec r (some x) ds' h1
   refine ⟨fun z hz=>?_,?_,fun y hy z hz=>?_,?_,fun d hd=>?_⟩
   ·rcases List.mem_cons.1 hz with rfl|hz
    ·exact hok
    ·exact i1 z hz
   ·rw [List.map_cons,List.pairwise_cons]
    refine ⟨fun d hd=>?_,i2⟩
    obtain ⟨z,hz,rfl⟩:=List.mem_map.1 hd
    exact i3 x rfl z hz
   ·have:=h3 y hy
    rcases List.mem_cons.1 hz with rfl|hz
    ·exact this
    ·have:=i3 x rfl z hz;omega
   ·rcases h2 with rfl|rfl
    ·exact i4
    ·rw [List.pairwise_cons]
     refine ⟨fun d hd=>?_,i4⟩
     obtain ⟨z,hz,rfl⟩:=i5 d hd
     exact i3 x rfl z hz
   ·rcases h2 with rfl|rfl
    ·obtain ⟨z,hz,e⟩:=i5 d hd
     exact ⟨z,by simp [hz],e⟩
    ·rcases List.mem_cons.1 hd with rfl|hd
     ·exact ⟨x,by simp,rfl⟩
     ·obtain ⟨z,hz,e⟩:=i5 d hd
      exact ⟨z,by simp [hz],e⟩
def openE (l:List Issue):Int×List Int:=
 if l.length < 1∨60 < l.length then (20,[]) else match scanI none l with
 | none=>(20,[])
 | some ds=>if 20 < ds.length then (20,[]) else if l.any (fun x=>x.items.any fun y=>!decide (y.drawing∈ds)) then (20,[]) else
   if 0 < (depthsI l ds).2.length then (21,[]) else if (depthsI l ds).1.any (fun p=>decide (6 < p.2)) then (20,[]) else (0,ds)
def openR (l:List Issue):DV:=if (openE l).1=0 then .one (.im (bookI l (openE l).2)) else .one (.im (.raw (.pointer none)))
end Go.Proofs
namespace Go.Proofs
open Go Go.Ab
def prevI (l:List Issue):Nat→Option Issue
 | 0=>none
 | k + 1=>l[k]?
theorem scan_step {p:Option Issue} {x:Issue} {r:List Issue} {ds:List Int} (h:scanI p (x :: r)=some ds) :
 ∃ ds',scanI (some x) r=some ds'∧issueOk x=true∧((∃ y,p=some y∧y.drawing=x.drawing∧ds=ds')∨((∀ y,p=some y→y.drawing < x.drawing)∧ds=x.drawing :: ds')):=by
 have hok:issueOk x=true:=by
  cases hx:issueOk x
  ·rw [scan_bad' hx] at h;cases h
  ·rfl
 cases p with
 | none =>
   simp only [scanI,hok] at h
   split at h
   ·cases h
   ·split at h
    ·cases h
    ·obtain ⟨ds',h1,h2⟩:=Option.map_eq_some_iff.1 h
     exact ⟨ds',h1,hok,.inr ⟨by simp,h2.symm⟩⟩
 | some y =>
   simp only [scanI,hok] at h
   split at h
   ·cases h
   ·split at h
    ·rename_i hd
     split at h
     ·cases h
     ·exact ⟨ds,h,hok,.inl ⟨y,rfl,hd,rfl⟩⟩
    ·split at h
     ·cases h
     ·split at h
      ·cases h
      ·obtain ⟨ds',h1,h2⟩:=Option.map_eq_some_iff.1 h
       exact ⟨ds',h1,hok,.inr ⟨fun y' e=>by cases e;omega,h2.symm⟩⟩
theorem scan_to {l:List Issue} {ds:List Int} (h:scanI none l=some ds):∀ k,k≤l.length→∃ ds',scanI (prevI l k) (l.drop k)=some ds'∧ds=numsTo l k ++ ds'
 | 0,_=>⟨ds,by simpa [prevI] using h,by simp [numsTo]⟩
 | k + 1,hk=>by
   obtain ⟨ds',h1,h2⟩:=scan_to h k (by omega)
   have hlt:k < l.length:=by omega
   have hx:l[k]?=some l[k]:=by simp [hlt]
   rw [List.drop_eq_getElem_cons hlt] at h1
   obtain ⟨ds'',h3,_,h4⟩:=scan_step h1
   refine ⟨ds'',by simpa [prevI,hx] using h3,?_⟩
   rw [h2]
   simp only [numsTo,hx,List.append_assoc]
   congr 1
   rcases h4 with ⟨y,h5,h6,rfl⟩|⟨h5,rfl⟩
   ·cases k with
    | zero=>simp [prevI] at h5
    | succ m=>simp only [prevI] at h5;simp [h5,h6]
   ·cases k with
    | zero=>simp
    | succ m =>
      have hy:l[m]?=some l[m]:=by simp
      have:=h5 l[m] (by simp [prevI,hy])
      rw [if_pos (.inr (by simp only [Nat.add_sub_cancel,hy,Option.map_some,ne_eq,Option.some.injEq];omega))];rfl
theorem scan_nums {l:List Issue} {ds:List Int} (h:scanI none l=some ds):ds=nums l:=by
 obtain ⟨ds',h1,h2⟩:=scan_to h l.length (Nat.le_refl _)
 rw [List.drop_length] at h1
 have:ds'=[]:=by
  cases hp:prevI l l.length<;>rw [hp] at h1<;>simp [scanI] at h1<;>exact h1
 rw [h2,this,List.append_nil];rfl
theorem scan_lt:∀ (l:List Issue) (p:Option Issue) (ds:List Int),scanI p l=some ds→ds.Pairwise (· < ·)∧∀ y,p=some y→∀ d∈ds,y.drawing < d
 | [],p,ds,h=>by
   have:ds=[]:=by cases p<;>simp [scanI] at h<;>exact h
   subst this;simp
 | x :: r,p,ds,h=>by
   obtain ⟨ds',h1,_,h2⟩:=scan_step h
   obtain ⟨i1,i2⟩:=scan_lt r (some x) ds' h1
   rcases h2 with ⟨y,rfl,h3,rfl⟩|⟨h3,rfl⟩
   ·exact ⟨i1,fun y' e d hd=>by cases e;rw [h3];exact i2 x rfl d hd⟩
   ·refine ⟨List.pairwise_cons.2 ⟨i2 x rfl,i1⟩,fun y e d hd=>?_⟩
    have:=h3 y e
    rcases List.mem_cons.1 hd with rfl|hd
    ·exact this
    ·have:=i2 x rfl d hd;omega
theorem scan_mem {l:List Issue} {ds:List Int} (h:scanI none l=some ds):∀ (p:Option Issue) (r:List Issue) (ds:List Int),scanI p r=some ds→∀ x∈r,x.drawing∈ds∨∃ y,p=some y∧y.drawing=x.drawing:=by
 intro p r
 induction r generalizing p with
 | nil=>intro ds _ x hx;cases hx
 | cons z r ih =>
   intro ds hds x hx
   obtain ⟨ds',h1,_,h2⟩:=scan_step hds
   have key:x.drawing∈ds'∨z.drawing=x.drawing:=by
    rcases List.mem_cons.1 hx with rfl|hx
    ·exact .inr rfl
    ·rcases ih (some z) ds' h1 x hx with h|⟨y,hy,he⟩
     ·exact .inl h
     ·cases hy;exact .inr he
   rcases h2 with ⟨y,rfl,h3,rfl⟩|⟨_,rfl⟩
   ·rcases key with h|h
    ·exact .inl h
    ·exact .inr ⟨y,rfl,by omega⟩
   ·rcases key with h|h
    ·exact .inl (by simp [h])
    ·exact .inl (by simp [h])
theorem scan_all {l:List Issue} {ds:List Int} (h:scanI none l=some ds):ds=nums l∧ds.Pairwise (· < ·)∧(∀ x∈l,x.drawing∈ds)∧(∀ x∈l,issueOk x=true)∧(l.map (·.drawing)).Pairwise (·≤·):=by
 obtain ⟨a1,a2,_,_,_⟩:=scan_spec l none ds h
 refine ⟨scan_nums h,(scan_lt l none ds h).1,fun x hx=>?_,a1,a2⟩
 rcases scan_mem h none l ds h x hx with h|⟨y,hy,_⟩
 ·exact h
 ·cases hy
def listedI (l:List Issue):Bool:=decide (1≤l.length∧l.length≤60) && (scanI none l).isSome && l.all (fun x=>x.items.all fun y=>decide (y.drawing∈nums l)) && decide ((nums l).length≤20)
def depthsL (l:List Issue):List Int:=(nums l).map (Rr l ((nums l).length + 1))
def mostL (l:List Int):Int:=l.foldl max 0
def checkR (l:List Issue):Int:=if listedI l=false then 20 else if mostL (depthsL l) > (depthsL l).length then 21 else if mostL (depthsL l) > 6 then 20 else 0
theorem most_lt (f:Int→Int) (l:List Int) (b:Int) (hb:0≤b):mostL (l.map f) > b↔∃ n∈l,f n > b:=by
 have:mostL (l.map f)=mx f l:=by simp [mostL,mx,List.foldl_map]
 rw [this]
 constructor
 ·intro h
  refine Classical.byContradiction fun hno=>?_
  have:=mx_le (f:=f) (l:=l) hb fun c hc=>Int.not_lt.1 fun hlt=>hno ⟨c,hc,hlt⟩
  omega
 ·rintro ⟨n,hn,h⟩
  have:=le_mx (f:=f) hn;omega
theorem open_check (l:List Issue):(openE l).1=checkR l∧((openE l).1=0→(openE l).2=nums l∧listedI l=true):=by
 unfold openE checkR
 by_cases hr:l.length < 1∨60 < l.length
 ·have:listedI l=false:=by simp [listedI];intro h1 h2;omega
  rw [if_pos hr,if_pos this];exact ⟨rfl,by simp⟩
 rw [if_neg hr]
 cases hs:scanI none l with
 | none =>
   have:listedI l=false:=by simp [listedI,hs]
   rw [if_pos this];exact ⟨rfl,by simp⟩
 | some ds =>
   obtain ⟨h1,h2,h3,h4,h5⟩:=scan_all hs
   simp only
   by_cases h20:20 < ds.length
   ·have:listedI l=false:=by simp [listedI,← h1];intro _ _ _;omega
    rw [if_pos h20,if_pos this];exact ⟨rfl,by simp⟩
   rw [if_neg h20]
   by_cases hit:l.any (fun x=>x.items.any fun y=>!decide (y.drawing∈ds))=true
   ·have:listedI l=false:=by
     simp only [listedI,← h1]
     have:l.all (fun x=>x.items.all fun y=>decide (y.drawing∈ds))=false:=by
      rw [← Bool.not_eq_true,List.all_eq_true]
      intro hall
      obtain ⟨x,hx,hy⟩:=List.any_eq_true.1 hit
      obtain ⟨y,hy,hn⟩:=List.any_eq_true.1 hy
      have:=List.all_eq_true.1 (hall x hx) y hy
      simp at hn this;exact hn this
     simp [this]
    rw [if_pos hit,if_pos this];exact ⟨rfl,by simp⟩
   rw [if_neg hit]
   have hall:∀ x∈l,∀ y∈x.items,y.drawing∈ds:=fun x hx y hy=>by
    refine Classical.byContradiction fun hn=>hit ?_
    exact List.any_eq_true.2 ⟨x,hx,List.any_eq_true.2 ⟨y,hy,by simpa using hn⟩⟩
   have hli:listedI l=true:=by
    simp only [listedI,← h1,hs,Bool.and_eq_true,decide_eq_true_eq,List.all_eq_true]
    exact ⟨⟨⟨by omega,rfl⟩,fun x hx y hy=>hall x hx y hy⟩,by omega⟩
   have hch:∀ n∈ds,∀ c∈chI l n,c∈ds:=fun n _ c hc=>by
    simp only [chI,List.mem_flatMap,List.mem_map] at hc
    obtain ⟨x,hx,y,hy,rfl⟩:=hc
    exact hall x ((List.mem_filter.1 hx).1) y hy
   have hnd:ds.Nodup:=h2.imp fun h=>Int.ne_of_lt h
   obtain ⟨d1,d2⟩:=depthsI_spec hnd hch
   have e1:mostL (depthsL l) > (depthsL l).length↔0 < (depthsI l ds).2.length:=by
    rw [d1];simp only [depthsL,← h1,List.length_map]
    exact most_lt _ ds _ (by omega)
   rw [if_neg (by simp [hli]:¬ listedI l=false)]
   by_cases hc:0 < (depthsI l ds).2.length
   ·rw [if_pos hc,if_pos (e1.2 hc)];exact ⟨rfl,by simp⟩
   rw [if_neg hc,if_neg fun h=>hc (e1.1 h)]
   obtain ⟨_,d4⟩:=d2 (by omega)
   have e2:mostL (depthsL l) > 6↔(depthsI l ds).1.any (fun p=>decide (6 < p.2))=true:=by
    rw [d4];simp only [depthsL,← h1]
    exact most_lt _ ds 6 (by omega)
   by_cases h6:(depthsI l ds).1.any (fun p=>decide (6 < p.2))=true
   ·rw [if_pos h6,if_pos (e2.2 h6)];exact ⟨rfl,by simp⟩
   ·rw [if_neg h6,if_neg fun h=>h6 (e2.1 h)];exact ⟨rfl,fun _=>⟨h1,hli⟩⟩
end Go.Proofs
