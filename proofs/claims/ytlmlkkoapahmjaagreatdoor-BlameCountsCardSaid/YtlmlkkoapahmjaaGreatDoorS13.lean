/- Part 13 of the proofs. -/
import Derived.Test.YtlmlkkoapahmjaaGreatDoorS08
import Derived.Test.YtlmlkkoapahmjaaGreatDoorS12
set_option linter.all false
set_option maxHeartbeats 100000000
namespace Go.Proofs
open Go Go.Ab Tryz
variable {G:Hn}
def Z0 (D:List (Int×Int)) (L:List Int) (a:Int×Bool) (y:Itm):Int×Bool:=(max a.1 (m5 D y.drawing),a.2 && !decide (y.drawing∈L))
def S7 (D:List (Int×Int)) (L:List Int) (a:Int×Bool) (x:Issue):Int×Bool:=x.items.foldl (Z0 D L) a
def cM (l:List Issue) (n:Int):List Issue:=l.filter λx=>decide (x.drawing=n)
def B4 (l:List Issue) (q:List (Int×Int)×List Int) (n:Int):List (Int×Int)×List Int:=
 let r:=(cM l n).foldl (S7 q.1 q.2) (0,decide (n∈q.2))
 if r.2 then (M9 n (r.1+1) q.1,q.2.erase n) else q
def ac (l:List Issue) (ds:List Int) (q:List (Int×Int)×List Int):List (Int×Int)×List Int:=ds.foldl (B4 l) q
def aV (l:List Issue) (ds:List Int):Nat->List (Int×Int)×List Int->List (Int×Int)×List Int
 | 0,q=>q
 | k+1,q=>aV l ds k (ac l ds q)
def gg (ds:List Int):List Int:=ds.foldl (λl n=>nk n l) []
def o6 (l:List Issue) (ds:List Int):List (Int×Int)×List Int:=aV l ds ds.length ([],gg ds)
theorem LoopD.at_eta (r:LoopD) (st:LoopState) (p:Option Code):({ st:=st,pend:=p,nt:=r.nt,tm:=r.tm,ps:=r.ps,asg:=r.asg,body:=r.body }:LoopD)=r.at st p:=rfl
theorem wr {n:Int}:∀ {s:List Issue},(s.map (·.drawing)).Pairwise (·<=·)->(∀ x∈s,n<=x.drawing)->cM s n=s.takeWhile λx=>decide (x.drawing=n)
 | [],_,_=>rfl
 | x :: s,hs,hg=>by
   rw[List.map_cons,List.pairwise_cons] at hs;have ih:=wr hs.2 λy hy=>hg y (by simp[hy]);unfold cM at ih ⊢;by_cases hx:x.drawing=n
   ·rw[List.filter_cons_of_pos (by simp[hx]),List.takeWhile_cons_of_pos (by simp[hx]),ih]
   ·rw[List.filter_cons_of_neg (by simp[hx]),List.takeWhile_cons_of_neg (by simp[hx]),List.filter_eq_nil_iff];intro y hy;have h1:=hs.1 y.drawing (List.mem_map_of_mem hy);have h2:=hg x (by simp);simp;omega
theorem wt {l:List Issue} {n:Int} (hs:(l.map (·.drawing)).Pairwise (·<=·)):cM l n=(l.drop (lb (l.map (·.drawing)) n)).takeWhile λx=>decide (x.drawing=n):=by
 have h1:cM l n=cM (l.drop (lb (l.map (·.drawing)) n)) n:=by
  conv=>lhs;rw[<- List.take_append_drop (lb (l.map (·.drawing)) n) l]
  simp only[cM,List.filter_append];rw[List.filter_eq_nil_iff.2 λx hx=>?_]
  ·rfl
  ·have:=qt hs x hx;simp;omega
 rw[h1];exact wr (by rw[List.map_drop];exact hs.drop) (qu hs)
def bd (D:List (Int×Int)) (c:Nat):Prop:=∀ x∈D,0<=x.2/\x.2<=c
theorem tf {D:List (Int×Int)} {c:Nat} (h:bd D c) (n:Int):0<=m5 D n/\m5 D n<=c:=by
 induction D with
 | nil=>simp[m5]
 | cons p r ih =>
   simp only[m5];split
   ·exact h p (by simp)
   ·exact ih λx hx=>h x (by simp[hx])
theorem rQ {D:List (Int×Int)} {c:Nat} (h:bd D c) {n v:Int} (h1:0<=v) (h2:v<=c):bd (M9 n v D) c:=by
 induction D with
 | nil=>intro x hx;simp[M9] at hx;subst hx;exact⟨h1,h2⟩
 | cons p r ih =>
   simp only[M9];split
   ·intro x hx;rcases List.mem_cons.1 hx with rfl|hx
    ·exact⟨h1,h2⟩
    ·exact h x (by simp[hx])
   ·intro x hx;rcases List.mem_cons.1 hx with rfl|hx
    ·exact h x (by simp)
    ·exact ih (λx hx=>h x (by simp[hx])) x hx
theorem ec {D:List (Int×Int)} {c c':Nat} (h:bd D c) (hc:c<=c'):bd D c':=λx hx=>⟨(h x hx).1,by have:=(h x hx).2;omega⟩
theorem Fp {D:List (Int×Int)} {L:List Int} {c:Nat} (h:bd D c) {a:Int×Bool} (ha:0<=a.1/\a.1<=c) (y:Itm):0<=(Z0 D L a y).1/\(Z0 D L a y).1<=c:=by
 have:=tf h y.drawing;simp only[Z0];omega
@[simp] abbrev Lw:List Nat:=[0,2,3,4,5,7,9,10,11,12,14,20,21,22,23,33,34,35,39,40,41,42,50,51,53,54,55,56,74]
@[simp] abbrev LV:List Nat:=[0,1,2,3,4,5,7,9,10,11,12,14,20,21,22,23,24,25,26,27,33,34,35,39,40,41,42,50,51,53,54,55,56,74]
@[simp] abbrev Jb:List Nat:=[0,4,5,33,34,39,40,41]
theorem yd (l:List Issue) (ds:List Int) (hs:(l.map (·.drawing)).Pairwise (·<=·)) (hl:l.length<1000000) (hds:ds.length<1000000) (hit:∀ x∈l,x.items.length<=16) (objs:List DObj):DCall prog G 198 [.one (.im (s8 l ds))] objs (λrr objs'=>rr=.tup [.one (.im (.mp [.int .i64] (Z8 (o6 l ds).1))),bv (decide (0<(o6 l ds).2.length))]/\objs'=objs):=by
 refine DCall.frame ?_ (by simp) (by simp) objs;refine i8 func198 rfl ntmps198 (by simp) rfl ?_;try simp only[iv]
 simp only[s8];have hs:True:=trivial;repeat' first|(with_reducible first|refine tT ?_|refine tS ?_|refine zU ?_)|(with_reducible refine B0 Lw ?_;simp -dsimp[hs])
 all_goals try simp -dsimp[hs]
 all_goals try clear hs
 refine g9 (ι:={ p:Nat×List Int // p.1<=ds.length/\(ds.drop p.1).foldl (λl n=>nk n l) p.2=gg ds }) (λp=>⟨87,[(0,.one (.im (.ip [.sl (l.map e9),.sl (ds.map encI)]))),(4,.one (.ptr 1 0)),(5,.one (.ptr 3 0)),(20,.one (.im (.sl (ds.map encI)))),(21,iv (ds.length:Int)),(22,iv (p.1.1:Int))],[.map [.int .i64] [],.row [.map 0],.map [.int .i64] (I6 p.1.2),.row [.map 2]]⟩) (λp=>ds.length-p.1.1) ⟨(0,[]),by simp[gg]⟩ (Weak.of_keep [0,4,5,20,21,22] (by simp[I6])) ?_;rintro⟨⟨k,L⟩,hk,hL⟩;simp only at hk hL;simp only[iv];by_cases hlt:k<ds.length
 ·have hx:ds[k]?=some ds[k]:=by simp[hlt]
  have hw:IntKind.i64.wrap ((k:Int)+1)=((k+1:Nat):Int):=m9 (by omega) (by omega);have hs:True:=trivial;repeat' first|(with_reducible first|refine tT ?_|refine Dv ?_|refine tS ?_|refine zU ?_|refine BA ?_)|(with_reducible refine B0 Lw ?_;simp -dsimp[hx,hw,hlt,hs])|(refine N9 rfl (λh=>?_) (λh=>?_)<;>(try simp only[i6] at h)<;>(try exact Bool.noConfusion h))
  all_goals try simp -dsimp[hx,hw,hlt,hs]
  all_goals try clear hs
  exact At.round ⟨(k+1,nk ds[k] L),by omega,by rw[<- hL,List.drop_eq_getElem_cons hlt];rfl⟩ (by simp;omega) (Weak.of_keep [0,4,5,20,21,22] (by simp))
 have hs:True:=trivial;repeat' first|(with_reducible first|refine tT ?_|refine Ee ?_|refine Ed ?_|refine tS ?_|refine zU ?_|refine Ec ?_)|(with_reducible refine B0 Lw ?_;simp -dsimp[hlt,hs])|(refine N9 rfl (λh=>?_) (λh=>?_)<;>(try simp only[i6] at h)<;>(try exact Bool.noConfusion h))
 all_goals try simp -dsimp[hlt,hs]
 all_goals try clear hs
 have hL0:L=gg ds:=by rw[<- hL,List.drop_eq_nil_of_le (by omega)];rfl
 clear hL hlt hk;subst hL0;refine g9 (ι:={ p:Nat×(List (Int×Int)×List Int) // p.1<=ds.length/\aV l ds (ds.length-p.1) p.2=o6 l ds/\bd p.2.1 (p.1*ds.length) }) (λp=>⟨87,[(0,.one (.im (.ip [.sl (l.map e9),.sl (ds.map encI)]))),(4,.one (.ptr 1 0)),(5,.one (.ptr 3 0)),(33,iv (ds.length:Int)),(34,iv (p.1.1:Int))],[.map [.int .i64] (N0 p.1.2.1),.row [.map 0],.map [.int .i64] (I6 p.1.2.2),.row [.map 2]]⟩) (λp=>ds.length-p.1.1) ⟨(0,([],gg ds)),by simp[o6,bd]⟩ (Weak.of_keep [0,4,5,33,34] (by simp[N0])) ?_;rintro⟨⟨i,q⟩,hi,hq,hb⟩;simp only at hi hq hb;simp only[iv];by_cases hlt:i<ds.length
 ·have hw:IntKind.i64.wrap ((i:Int)+1)=((i+1:Nat):Int):=m9 (by omega) (by omega);have hmul:(i+1)*ds.length<=1000000*1000000:=Nat.mul_le_mul (by omega) (by omega);have hmul':(i+1)*ds.length=i*ds.length+ds.length:=by rw[Nat.add_mul,Nat.one_mul]
  have hs:True:=trivial;repeat' first|(with_reducible first|refine tT ?_|refine tS ?_|refine zU ?_|refine BA ?_)|(with_reducible refine B0 Lw ?_;simp -dsimp[hlt,hs])|(refine N9 rfl (λh=>?_) (λh=>?_)<;>(try simp only[i6] at h)<;>(try exact Bool.noConfusion h))
  all_goals try simp -dsimp[hlt,hs]
  all_goals try clear hs
  refine g9 (ι:={ p:Nat×(List (Int×Int)×List Int) // p.1<=ds.length/\(ds.drop p.1).foldl (B4 l) p.2=ac l ds q/\bd p.2.1 (i*ds.length+p.1) }) (λp=>⟨87,[(0,.one (.im (.ip [.sl (l.map e9),.sl (ds.map encI)]))),(4,.one (.ptr 1 0)),(5,.one (.ptr 3 0)),(33,iv (ds.length:Int)),(34,iv (i:Int)),(39,.one (.im (.sl (ds.map encI)))),(40,iv (ds.length:Int)),(41,iv (p.1.1:Int))],[.map [.int .i64] (N0 p.1.2.1),.row [.map 0],.map [.int .i64] (I6 p.1.2.2),.row [.map 2]]⟩) (λp=>ds.length-p.1.1) ⟨(0,q),by simp[ac,hb]⟩ (Weak.of_keep Jb (by simp)) ?_;rintro⟨⟨j,D,L⟩,hj,hq1,hb1⟩;simp only at hj hq1 hb1;simp only[iv];by_cases hlj:j<ds.length
  ·have hx:ds[j]?=some ds[j]:=by simp[hlj]
   have hwj:IntKind.i64.wrap ((j:Int)+1)=((j+1:Nat):Int):=m9 (by omega) (by omega);have c1:=kK (G:=G) (s8 l ds) ds[j];simp only[s8] at c1;have hs:True:=trivial;repeat' first|(with_reducible first|refine tT ?_|refine tS ?_|refine zU ?_|refine BA ?_)|(refine CallE.pure (c1) ?_;try simp -dsimp[hx,hwj,hlj,hs])|(refine q8 (id:=13) (nt:=87) 5 [0,1,2] Lw Lw mixed rfl (by kernel_rfl) ?_;simp -dsimp[hx,hwj,hlj,hs])|(with_reducible refine B0 Lw ?_;simp -dsimp[hx,hwj,hlj,hs])|(refine N9 rfl (λh=>?_) (λh=>?_)<;>(try simp only[i6] at h)<;>(try exact Bool.noConfusion h))
   all_goals try simp -dsimp[hx,hwj,hlj,hs]
   all_goals try clear hs
   have hseg:=wt (n:=ds[j]) hs;refine R2 (f:=249) (by simp;exact rfl) (by rfl) call249 ?_;generalize hR:LoopD.mk _ _ _ _ _ _ _=R;have hR1:R.st=.ready:=by rw[<- hR]
   have hR2:R.pend=none:=by rw[<- hR]
   have hR3:R.at .ready none=R:=by rw[<- hR];rfl
   have hR4:=(congrArg LoopD.nt hR).symm;have hR5:=(congrArg LoopD.tm hR).symm;have hR6:=(congrArg LoopD.ps hR).symm;have hR7:=(congrArg LoopD.asg hR).symm;have hR8:=(congrArg LoopD.body hR).symm;dsimp only at hR4 hR5 hR6 hR7 hR8;clear hR;refine i8 func249 rfl ntmps249 (by simp) rfl ?_;have hR9:∀ objs:List DObj,(R.tm.map λx=>(x.1,fB 7 objs x.2))=R.tm:=by intro objs;rw[hR5];simp
   have hR10:∀ objs:List DObj,(R.tm.map λx=>(x.1,fB 10 objs x.2))=R.tm:=by intro objs;rw[hR5];simp
   have hlb:=pa (l.map (·.drawing)) ds[j];rw[List.length_map] at hlb;have c2:=fp (G:=G) l ds[j] hs hl;have hs:True:=trivial;repeat' first|(with_reducible first|refine tT ?_|refine tS ?_|refine zU ?_)|(refine cb (c2) ?_;try simp -dsimp[hR1,hR2,hR3,hlb,hs])|(refine lA (id:=0) (nt:=41) 12 [0,1,2,4,7,24,25,26,27,39] mixed rfl (by kernel_rfl) ?_;simp -dsimp[hR1,hR2,hR3,hlb,hs])|(with_reducible refine B0 LV ?_;simp -dsimp[hR1,hR2,hR3,hlb,hs])
   all_goals try simp -dsimp[hR1,hR2,hR3,hlb,hs]
   all_goals try clear hs
   rw[<- List.map_drop];have hsl:l.length-lb (l.map (·.drawing)) ds[j]=(l.drop (lb (l.map (·.drawing)) ds[j])).length:=by simp
   rw[hsl];have hsl2:(l.drop (lb (l.map (·.drawing)) ds[j])).length<1000000:=by simp;omega
   have hsit:∀ x∈l.drop (lb (l.map (·.drawing)) ds[j]),x.items.length<=16:=λx hx=>hit x (List.mem_of_mem_drop hx);generalize l.drop (lb (l.map (·.drawing)) ds[j])=s at hseg hsl2 hsit ⊢;obtain⟨c,hc⟩:∃ c,c=i*ds.length+j:=⟨_,rfl⟩
   rw[<- hc] at hb1;refine g9 (ι:={ p:Nat×(Int×Bool) // p.1<=s.length/\((s.drop p.1).takeWhile λx=>decide (x.drawing=ds[j])).foldl (S7 D L) p.2=(cM l ds[j]).foldl (S7 D L) (0,decide (ds[j]∈L))/\0<=p.2.1/\p.2.1<=(c:Int) }) (λp=>⟨41,[(0,.one (.yld 6)),(2,.one (.im (.ip [rI ds[j]]))),(24,.one (.im (.sl (s.map e9)))),(25,iv (s.length:Int)),(26,iv (p.1.1:Int))],[.map [.int .i64] (N0 D),.row [.map 0],.map [.int .i64] (I6 L),.row [.map 2],.row [.im (rI p.1.2.1)],.row [.im (rB p.1.2.2)],.loop R]⟩) (λp=>s.length-p.1.1) ⟨(0,(0,decide (ds[j]∈L))),by simp[hseg]⟩ (Weak.of_keep [0,2,24,25,26] (by simp)) ?_;rintro⟨⟨k,m,r⟩,hk,ha,hm1,hm2⟩;simp only at hk ha hm1 hm2;simp only[iv];by_cases hls:k<s.length
   ·have hx1:s[k]?=some s[k]:=by simp[hls]
    have hwk:IntKind.i64.wrap ((k:Int)+1)=((k+1:Nat):Int):=m9 (by omega) (by omega);by_cases hd:s[k].drawing=ds[j]
    ·have hit1:=hsit s[k] (List.getElem_mem hls);have hs:True:=trivial;repeat' first|(with_reducible first|refine tT ?_|refine tS ?_|refine zU ?_|refine BA ?_)|(refine aG ?_ ?_<;>simp -dsimp[hR1,hR2,hR3,hx1,hwk,hd,hls,hs])|(refine P2 ?_;simp -dsimp[R1,hR4,hR5,hR6,hR7,hR8,hR1,hR2,hR3,hx1,hwk,hd,hls,hs])|(with_reducible refine B0 LV ?_;simp -dsimp[hR1,hR2,hR3,hx1,hwk,hd,hls,hs])|(refine N9 rfl (λh=>?_) (λh=>?_)<;>(try simp only[i6] at h)<;>(try exact Bool.noConfusion h))
     all_goals try simp -dsimp[hR1,hR2,hR3,hx1,hwk,hd,hls,hs]
     all_goals try clear hs
     refine g9 (ι:={ p:Nat×(Int×Bool) // p.1<=s[k].items.length/\(s[k].items.drop p.1).foldl (Z0 D L) p.2=S7 D L (m,r) s[k]/\0<=p.2.1/\p.2.1<=(c:Int) }) (λp=>⟨87,[(4,.one (.ptr 1 0)),(5,.one (.ptr 3 0)),(10,.one (.ptr 4 0)),(11,.one (.ptr 5 0)),(53,.one (.im (.sl (s[k].items.map p7)))),(54,iv (s[k].items.length:Int)),(55,iv (p.1.1:Int))],[.map [.int .i64] (N0 D),.row [.map 0],.map [.int .i64] (I6 L),.row [.map 2],.row [.im (rI p.1.2.1)],.row [.im (rB p.1.2.2)],.loop (R.at .busy none),.vec 0 [] 0 true,.vec 0 [] 0 true,.row [.im (rI ds[j]),.im (rI s[k].letter),.im (.raw (.int .u8 s[k].kind)),.im (.sl (s[k].items.map p7)),.im (.sl (s[k].dims.map B3))]]⟩) (λp=>s[k].items.length-p.1.1) ⟨(0,(m,r)),by simp[S7,hm1,hm2]⟩ (Weak.of_drop [4,5,10,11,53,54,55] 10 (by simp) (by simp) (by simp[hR10,LoopD.at_eta])) ?_;rintro⟨⟨u,m',r'⟩,hu,ha',hm1',hm2'⟩;simp only at hu ha' hm1' hm2';simp only[iv];by_cases hlu:u<s[k].items.length
     ·have hx2:s[k].items[u]?=some s[k].items[u]:=by simp[hlu]
      have hwu:IntKind.i64.wrap ((u:Int)+1)=((u+1:Nat):Int):=m9 (by omega) (by omega);have hst:=Fp (L:=L) hb1 (a:=(m',r')) ⟨hm1',hm2'⟩ s[k].items[u];have hcs:(s[k].items.drop (u+1)).foldl (Z0 D L) (Z0 D L (m',r') s[k].items[u])=S7 D L (m,r) s[k]:=by rw[<- ha',List.drop_eq_getElem_cons hlu];rfl
      have hs:True:=trivial;repeat' first|(with_reducible first|refine tT ?_|refine Dv ?_|refine tS ?_|refine zU ?_|refine BA ?_)|(with_reducible refine B0 LV ?_;simp -dsimp[hR1,hR2,hR3,hx2,hwu,hlu,hs])|(refine N9 rfl (λh=>?_) (λh=>?_)<;>(try simp only[i6] at h)<;>(try exact Bool.noConfusion h))|(with_reducible refine j0 ?_ ?_<;>intro h<;>have h0:=h<;>(try simp only[i6] at h)<;>(try exact Bool.noConfusion h)<;>have h2:=h<;>(try simp at h2)<;>(replace hs:=And.intro h0 (And.intro h (And.intro h2 hs)))<;>simp -dsimp[h0,h,h2,hR1,hR2,hR3,hx2,hwu,hlu,hs])
      all_goals try simp -dsimp[hR1,hR2,hR3,hx2,hwu,hlu,hs]
      all_goals try clear hs
      all_goals exact At.round ⟨(u+1,Z0 D L (m',r') s[k].items[u]),by omega,hcs,hst.1,hst.2⟩ (by simp;omega) (Weak.of_drop [4,5,10,11,53,54,55] 10 (by simp) (by simp) (by clear hR4 hR5 hR6 hR7 hR8;simp_all [Z0,hR10,LoopD.at_eta]))
     ·have htu:(m',r')=S7 D L (m,r) s[k]:=by rw[<- ha',List.drop_eq_nil_of_le (by omega)];rfl
      have hcs:((s.drop (k+1)).takeWhile λx=>decide (x.drawing=ds[j])).foldl (S7 D L) (m',r')=(cM l ds[j]).foldl (S7 D L) (0,decide (ds[j]∈L)):=by
       rw[<- ha,List.drop_eq_getElem_cons hls,List.takeWhile_cons_of_pos (by simp[hd]),htu];rfl
      have hs:True:=trivial;repeat' first|(with_reducible first|refine tT ?_|refine Ee ?_|refine Dv ?_|refine Ed ?_|refine tS ?_|refine BA ?_|refine Ec ?_)|(with_reducible refine At.yield_end ?_;simp -dsimp[hR1,hR2,hR3,hlu,hwk,hs])|(with_reducible refine B0 LV ?_;simp -dsimp[hR1,hR2,hR3,hlu,hwk,hs])|(refine N9 rfl (λh=>?_) (λh=>?_)<;>(try simp only[i6] at h)<;>(try exact Bool.noConfusion h))
      all_goals try simp -dsimp[hR1,hR2,hR3,hlu,hwk,hs]
      all_goals try clear hs
      exact At.round ⟨(k+1,(m',r')),by omega,hcs,hm1',hm2'⟩ (by simp;omega) (Weak.of_drop [0,2,24,25,26] 7 (by simp) (by simp) (by simp[hR9]))
    ·have htot:(m,r)=(cM l ds[j]).foldl (S7 D L) (0,decide (ds[j]∈L)):=by
      rw[<- ha,List.drop_eq_getElem_cons hls,List.takeWhile_cons_of_neg (by simp[hd])];rfl
     have hdep:B4 l (D,L) ds[j]=if r then (M9 ds[j] (m+1) D,L.erase ds[j]) else (D,L):=by simp only[B4];rw[<- htot]
     have hwm:IntKind.i64.wrap (m+1)=m+1:=m9 (by omega) (by omega);have hbn:bd (B4 l (D,L) ds[j]).1 (i*ds.length+(j+1)):=by
      rw[hdep];split
      ·exact rQ (ec hb1 (by omega)) (by omega) (by omega)
      ·exact ec hb1 (by omega)
     have hqn:(ds.drop (j+1)).foldl (B4 l) (B4 l (D,L) ds[j])=ac l ds q:=by rw[<- hq1,List.drop_eq_getElem_cons hlj];rfl
     have hs:True:=trivial;repeat' first|(with_reducible first|refine tT ?_|refine GU ?_|refine Dv ?_|refine GT ?_|refine tS ?_|refine zU ?_|refine BA ?_|refine Gt ?_)|(with_reducible refine At.fn_ret (by simp -dsimp[hR1,hR2,hR3,hx1,hwk,hd,hls,hwm,hwj,hs];exact rfl) ?_)|(with_reducible show B8 _ _ _ _ _ _ _ _;simp -dsimp[B8,hR1,hR2,hR3,hx1,hwk,hd,hls,hwm,hwj,hs])|(with_reducible refine B0 LV ?_;simp -dsimp[hR1,hR2,hR3,hx1,hwk,hd,hls,hwm,hwj,hs])|(refine N9 rfl (λh=>?_) (λh=>?_)<;>(try simp only[i6] at h)<;>(try exact Bool.noConfusion h))
     all_goals try simp -dsimp[hR1,hR2,hR3,hx1,hwk,hd,hls,hwm,hwj,hs]
     all_goals try clear hs
     all_goals exact At.round ⟨(j+1,B4 l (D,L) ds[j]),by omega,hqn,hbn⟩ (by simp;omega) (Weak.of_drop Jb 4 (by simp) (by simp) (by simp_all))
   ·have htot:(m,r)=(cM l ds[j]).foldl (S7 D L) (0,decide (ds[j]∈L)):=by
     rw[<- ha,List.drop_eq_nil_of_le (by omega)];rfl
    have hdep:B4 l (D,L) ds[j]=if r then (M9 ds[j] (m+1) D,L.erase ds[j]) else (D,L):=by simp only[B4];rw[<- htot]
    have hwm:IntKind.i64.wrap (m+1)=m+1:=m9 (by omega) (by omega);have hbn:bd (B4 l (D,L) ds[j]).1 (i*ds.length+(j+1)):=by
     rw[hdep];split
     ·exact rQ (ec hb1 (by omega)) (by omega) (by omega)
     ·exact ec hb1 (by omega)
    have hqn:(ds.drop (j+1)).foldl (B4 l) (B4 l (D,L) ds[j])=ac l ds q:=by rw[<- hq1,List.drop_eq_getElem_cons hlj];rfl
    have hs:True:=trivial;repeat' first|(with_reducible first|refine tT ?_|refine Ee ?_|refine Dv ?_|refine Ed ?_|refine tS ?_|refine BA ?_|refine Ec ?_)|(with_reducible refine At.fn_end (by simp -dsimp[hR1,hR2,hR3,hls,hwm,hwj,hs];exact rfl) ?_)|(with_reducible show B8 _ _ _ _ _ _ _ _;simp -dsimp[B8,hR1,hR2,hR3,hls,hwm,hwj,hs])|(with_reducible refine B0 LV ?_;simp -dsimp[hR1,hR2,hR3,hls,hwm,hwj,hs])|(refine N9 rfl (λh=>?_) (λh=>?_)<;>(try simp only[i6] at h)<;>(try exact Bool.noConfusion h))
    all_goals try simp -dsimp[hR1,hR2,hR3,hls,hwm,hwj,hs]
    all_goals try clear hs
    all_goals exact At.round ⟨(j+1,B4 l (D,L) ds[j]),by omega,hqn,hbn⟩ (by simp;omega) (Weak.of_drop Jb 4 (by simp) (by simp) (by simp_all))
  ·have hq2:(D,L)=ac l ds q:=by rw[<- hq1,List.drop_eq_nil_of_le (by omega)];rfl
   have hs:True:=trivial;repeat' first|(with_reducible first|refine tT ?_|refine Ee ?_|refine Dv ?_|refine Ed ?_|refine tS ?_|refine Ec ?_)|(with_reducible refine B0 Lw ?_;simp -dsimp[hlj,hw,hs])|(refine N9 rfl (λh=>?_) (λh=>?_)<;>(try simp only[i6] at h)<;>(try exact Bool.noConfusion h))
   all_goals try simp -dsimp[hlj,hw,hs]
   all_goals try clear hs
   exact At.round ⟨(i+1,(D,L)),by omega,by rw[hq2,<- hq,show ds.length-i=(ds.length-(i+1))+1 by omega];rfl,ec hb1 (by show _<=(i+1)*ds.length;omega)⟩ (by simp;omega) (Weak.of_keep [0,4,5,33,34] (by simp))
 ·have hq2:q=o6 l ds:=by rw[<- hq,show ds.length-i=0 by omega];rfl
  have hs:True:=trivial;repeat' first|(with_reducible first|refine tT ?_|refine Ee ?_|refine Ed ?_|refine tS ?_|refine Ec ?_|refine Gt ?_)|(with_reducible refine At.fn_ret (by simp -dsimp[hlt,hs];exact rfl) ?_)|(with_reducible refine B0 Lw ?_;simp -dsimp[hlt,hs])|(refine N9 rfl (λh=>?_) (λh=>?_)<;>(try simp only[i6] at h)<;>(try exact Bool.noConfusion h))
  all_goals try simp -dsimp[hlt,hs]
  all_goals try clear hs
  all_goals simp[hq2]
end Go.Proofs
namespace Go.Proofs
open Go Go.Ab
def mx (f:Int->Int) (l:List Int):Int:=l.foldl (λm c=>max m (f c)) 0
theorem bg (f:Int->Int):∀ (l:List Int) (a:Int),0<=a->l.foldl (λm c=>max m (f c)) a=max a (mx f l)
 | [],a,h=>by simp[mx];omega
 | c :: l,a,h=>by
   have h1:=bg f l (max a (f c)) (by omega);have h2:=bg f l (max 0 (f c)) (by omega);simp only[mx,List.foldl_cons] at h1 h2 ⊢;rw[h1,h2];omega
theorem T0 (f:Int->Int) (l:List Int):0<=mx f l:=by
 have:=bg f l 0 (by omega);unfold mx at *;omega
theorem oV {f:Int->Int} {l:List Int} {b:Int} (hb:0<=b) (h:∀ c∈l,f c<=b):mx f l<=b:=by
 induction l with
 | nil=>simpa[mx] using hb
 | cons c l ih =>
   have h1:=bg f l (max 0 (f c)) (by omega);have h2:=ih λd hd=>h d (by simp[hd]);have h3:=h c (by simp);simp only[mx,List.foldl_cons] at h1 h2 ⊢;rw[h1];omega
theorem mz {f:Int->Int} {l:List Int} {c:Int} (h:c∈l):f c<=mx f l:=by
 induction l with
 | nil=>cases h
 | cons d l ih =>
   have h1:=bg f l (max 0 (f d)) (by omega);simp only[mx,List.foldl_cons] at h1 ⊢;rw[h1];rcases List.mem_cons.1 h with rfl|h
   ·omega
   ·have:=ih h;simp only[mx] at this;omega
theorem xf {f g:Int->Int} {l:List Int} (h:∀ c∈l,f c=g c):mx f l=mx g l:=by
 have a:=oV (f:=f) (T0 g l) λc hc=>by rw[h c hc];exact mz hc
 have b:=oV (f:=g) (T0 f l) λc hc=>by rw[<- h c hc];exact mz hc
 omega
def cp (l:List Issue) (n:Int):List Int:=(cM l n).flatMap λx=>x.items.map (·.drawing)
theorem mG (D:List (Int×Int)) (L:List Int):∀ (ys:List Itm) (a:Int×Bool),ys.foldl (Z0 D L) a=((ys.map (·.drawing)).foldl (λm c=>max m (m5 D c)) a.1,a.2&&(ys.map (·.drawing)).all λc=>!decide (c∈L))
 | [],a=>by simp
 | y :: ys,a=>by simp only[List.foldl_cons,List.map_cons,List.all_cons,mG D L ys];simp[Z0,Bool.and_assoc]
theorem mH (D:List (Int×Int)) (L:List Int):∀ (xs:List Issue) (a:Int×Bool),xs.foldl (S7 D L) a=((xs.flatMap λx=>x.items.map (·.drawing)).foldl (λm c=>max m (m5 D c)) a.1,a.2&&(xs.flatMap λx=>x.items.map (·.drawing)).all λc=>!decide (c∈L))
 | [],a=>by simp
 | x :: xs,a=>by simp only[List.foldl_cons,List.flatMap_cons,List.foldl_append,List.all_append,mH D L xs];simp[S7,mG,Bool.and_assoc]
theorem dX (l:List Issue) (D:List (Int×Int)) (L:List Int) (n:Int) :
 B4 l (D,L) n=if n∈L/\∀ c∈cp l n,c∉L then (M9 n (mx (m5 D) (cp l n)+1) D,L.erase n) else (D,L):=by
 simp only[B4,mH];have e:((decide (n∈L)&&((cM l n).flatMap λx=>x.items.map (·.drawing)).all λc=>!decide (c∈L))=true)=(n∈L/\∀ c∈cp l n,c∉L):=by
  rw[Bool.and_eq_true,decide_eq_true_eq,List.all_eq_true];simp only[Bool.not_eq_true',decide_eq_false_iff_not];rfl
 by_cases h:n∈L/\∀ c∈cp l n,c∉L
 ·rw[if_pos (e.symm ▸ h),if_pos h];rfl
 ·rw[if_neg (e.symm ▸ h),if_neg h]
def Rr (l:List Issue):Nat->Int->Int
 | 0,_=>0
 | k+1,n=>1+mx (Rr l k) (cp l n)
theorem mW (l:List Issue) (k:Nat) (n:Int):0<=Rr l k n:=by
 cases k with
 | zero=>exact Int.le_refl _
 | succ k=>have:=T0 (Rr l k) (cp l n);simp only[Rr];omega
theorem yM (l:List Issue):∀ (k:Nat) (n:Int),Rr l k n<=k
 | 0,_=>Int.le_refl _
 | k+1,n=>by
   have:=oV (f:=Rr l k) (l:=cp l n) (b:=k) (by omega) λc _=>yM l k c;simp only[Rr];omega
theorem Y8 (D:List (Int×Int)) (n v m:Int):m5 (M9 n v D) m=if m=n then v else m5 D m:=by
 induction D with
 | nil=>by_cases h:n=m<;>simp[M9,m5,h,eq_comm]
 | cons p r ih =>
   simp only[M9];by_cases hp:p.1=n
   ·rw[if_pos hp];by_cases hm:m=n
    ·simp[m5,hm]
    ·simp[m5,hm,hp,Ne.symm hm]
   ·rw[if_neg hp];by_cases hm:m=n
    ·subst hm;simp[m5,hp];simpa using ih
    ·by_cases hq:p.1=m
     ·simp[m5,hq,hm]
     ·simp only[m5,if_neg hq,ih,if_neg hm]
theorem mo {D:List (Int×Int)} {n v:Int} {p:Int×Int} (h:p∈M9 n v D):p.1=n\/p∈D:=by
 induction D with
 | nil=>simp[M9] at h;simp[h]
 | cons q r ih =>
   simp only[M9] at h;split at h
   ·rcases List.mem_cons.1 h with rfl|h
    ·exact .inl rfl
    ·exact .inr (by simp[h])
   ·rcases List.mem_cons.1 h with rfl|h
    ·exact .inr (by simp)
    ·rcases ih h with h|h
     ·exact .inl h
     ·exact .inr (by simp[h])
theorem qO {D:List (Int×Int)} {n v:Int} (h:(D.map (·.1)).Nodup):((M9 n v D).map (·.1)).Nodup:=by
 induction D with
 | nil=>simp[M9]
 | cons q r ih =>
   rw[List.map_cons,List.nodup_cons] at h;simp only[M9];split
   ·rename_i hq;rw[List.map_cons,List.nodup_cons,<- hq];exact h
   ·rename_i hq;rw[List.map_cons,List.nodup_cons];refine⟨λhm=>?_,ih h.2⟩;obtain⟨p,hp,he⟩:=List.mem_map.1 hm;rcases mo hp with h'|h'
    ·exact hq (by rw[<- he];exact h')
    ·exact h.1 (by rw[<- he];exact List.mem_map_of_mem h')
theorem uh {D:List (Int×Int)} (h:(D.map (·.1)).Nodup) {p:Int×Int} (hp:p∈D):m5 D p.1=p.2:=by
 induction D with
 | nil=>cases hp
 | cons q r ih =>
   rw[List.map_cons,List.nodup_cons] at h;rcases List.mem_cons.1 hp with rfl|hp
   ·simp[m5]
   ·have hne:q.1≠p.1:=λe=>h.1 (by rw[e];exact List.mem_map_of_mem hp);simp only[m5,if_neg hne];exact ih h.2 hp
theorem qR {D:List (Int×Int)} {n:Int} (h:m5 D n≠0):(n,m5 D n)∈D:=by
 induction D with
 | nil=>simp[m5] at h
 | cons q r ih =>
   simp only[m5] at h ⊢;split at h
   ·rename_i e;rw[if_pos e,<- e];simp
   ·rename_i e;rw[if_neg e];exact List.mem_cons_of_mem _ (ih h)
structure DInv (l:List Issue) (ds:List Int) (q:List (Int×Int)×List Int):Prop where
 nd:q.2.Nodup
 sub:∀ n∈q.2,n∈ds
 kd:(q.1.map (·.1)).Nodup
 ks:∀ p∈q.1,p.1∈ds/\p.1∉q.2
 val:∀ n∈ds,n∉q.2->1<=m5 q.1 n/\m5 q.1 n+q.2.length<=ds.length/\∀ k:Nat,m5 q.1 n<=k->Rr l k n=m5 q.1 n
theorem DInv.step {l:List Issue} {ds:List Int} (hch:∀ n∈ds,∀ c∈cp l n,c∈ds) {q:List (Int×Int)×List Int} (h:DInv l ds q) (n:Int):DInv l ds (B4 l q n)/\(B4 l q n).2.length<=q.2.length:=by
 obtain⟨D,L⟩:=q;rw[dX];split
 ·rename_i hn;obtain⟨hnL,hcL⟩:=hn;have hnds:=h.sub n hnL;have hlen:(L.erase n).length+1=L.length:=by
   rw[List.length_erase_of_mem hnL];have:=List.length_pos_of_mem hnL;omega
  have hmem:∀ m,m∈L.erase n↔m≠n/\m∈L:=λm=>h.nd.mem_erase_iff;have hc:∀ c∈cp l n,1<=m5 D c/\m5 D c+L.length<=ds.length/\∀ k:Nat,m5 D c<=k->Rr l k c=m5 D c:=λc hc=>h.val c (hch n hnds c hc) (hcL c hc);have hLds:L.length<=ds.length:=h.nd.length_le_of_subset h.sub;have hmxb:mx (m5 D) (cp l n)<=ds.length-L.length:=oV (by omega) λc hc'=>by have:=(hc c hc').2.1;omega
  refine⟨⟨h.nd.erase n,λm hm=>h.sub m ((hmem m).1 hm).2,qO h.kd,λp hp=>?_,λm hm hmL=>?_⟩,by simp only;omega⟩
  ·rcases mo hp with e|hp
   ·exact⟨by rw[e];exact hnds,λhp'=>((hmem _).1 hp').1 e⟩
   ·exact⟨(h.ks p hp).1,λhp'=>(h.ks p hp).2 ((hmem _).1 hp').2⟩
  ·simp only[Y8];by_cases e:m=n
   ·subst e;rw[if_pos rfl];have h0:=T0 (m5 D) (cp l m);refine⟨by omega,by omega,λk hk=>?_⟩;obtain⟨j,rfl⟩:∃ j,k=j+1:=⟨k-1,by omega⟩
    simp only[Rr];rw[xf λc hc'=>(hc c hc').2.2 j (by have:=mz (f:=m5 D) hc';omega)];omega
   ·rw[if_neg e];have hmL':m∉L:=λhm'=>hmL ((hmem m).2 ⟨e,hm'⟩);obtain⟨a,b,c⟩:=h.val m hm hmL';exact⟨a,by simp only at b ⊢;omega,c⟩
 ·exact⟨h,Nat.le_refl _⟩
theorem DInv.fold {l:List Issue} {ds:List Int} (hch:∀ n∈ds,∀ c∈cp l n,c∈ds):∀ (ns:List Int) {q:List (Int×Int)×List Int},DInv l ds q->DInv l ds (ns.foldl (B4 l) q)/\(ns.foldl (B4 l) q).2.length<=q.2.length
 | [],_,h=>⟨h,Nat.le_refl _⟩
 | n :: ns,_,h=>by
   obtain⟨h1,h2⟩:=h.step hch n;obtain⟨h3,h4⟩:=DInv.fold hch ns h1;exact⟨h3,Nat.le_trans h4 h2⟩
def pN (l:List Issue) (L:List Int):Prop:=∀ n∈L,∃ c∈cp l n,c∈L
theorem mI {l:List Issue}:∀ (ns:List Int) (q:List (Int×Int)×List Int),(ns.foldl (B4 l) q).2.length=q.2.length->(∀ q' n,(B4 l q' n).2.length<=q'.2.length)->ns.foldl (B4 l) q=q/\∀ n∈ns,n∈q.2->∃ c∈cp l n,c∈q.2
 | [],q,_,_=>⟨rfl,by simp⟩
 | n :: ns,q,h,hle=>by
   have hmono:∀ (ns:List Int) (q:List (Int×Int)×List Int),(ns.foldl (B4 l) q).2.length<=q.2.length:=by
    intro ns;induction ns with
    | nil=>exact λq=>Nat.le_refl _
    | cons n ns ih=>exact λq=>Nat.le_trans (ih _) (hle q n)
   rw[List.foldl_cons] at h ⊢;have h1:=hmono ns (B4 l q n);have h2:=hle q n;have h3:(B4 l q n).2.length=q.2.length:=by omega
   obtain⟨D,L⟩:=q;have key:¬ (n∈L/\∀ c∈cp l n,c∉L):=by
    intro hc;rw[dX,if_pos hc] at h3;simp only[List.length_erase_of_mem hc.1] at h3;have:=List.length_pos_of_mem hc.1;omega
   have he:B4 l (D,L) n=(D,L):=by rw[dX,if_neg key]
   rw[he] at h ⊢;obtain⟨i1,i2⟩:=mI ns (D,L) h hle;refine⟨i1,λm hm hL=>?_⟩;rcases List.mem_cons.1 hm with rfl|hm
   ·exact Classical.byContradiction λhno=>key ⟨hL,λc hc hcL=>hno ⟨c,hc,hcL⟩⟩
   ·exact i2 m hm hL
theorem uN (l:List Issue) (q:List (Int×Int)×List Int) (n:Int):(B4 l q n).2.length<=q.2.length:=by
 obtain⟨D,L⟩:=q;rw[dX];split
 ·exact List.length_erase_le
 ·exact Nat.le_refl _
theorem fj {l:List Issue} {ds:List Int} (hch:∀ n∈ds,∀ c∈cp l n,c∈ds):∀ (k:Nat) (q:List (Int×Int)×List Int),DInv l ds q->DInv l ds (aV l ds k q)/\((aV l ds k q).2.length+k<=q.2.length\/(aV l ds k q).2=[]\/pN l (aV l ds k q).2)
 | 0,q,h=>⟨h,.inl (Nat.le_refl _)⟩
 | k+1,q,h=>by
   obtain⟨h1,h2⟩:=DInv.fold hch ds h;change DInv l ds (ac l ds q) at h1;change (ac l ds q).2.length<=q.2.length at h2;obtain⟨h3,h4⟩:=fj hch k (ac l ds q) h1;refine⟨h3,?_⟩;simp only[aV];rcases h4 with h4|h4
   ·by_cases e:(ac l ds q).2.length=q.2.length
    ·obtain⟨e1,e2⟩:=mI ds q e (uN l);change ac l ds q=q at e1;have hst:pN l q.2:=λn hn=>e2 n (h.sub n hn) hn;have hall:∀ k,aV l ds k q=q:=by
      intro k;induction k with
      | zero=>rfl
      | succ k ih=>simp only[aV,e1,ih]
     rw[e1,hall k];exact .inr (.inr hst)
    ·exact .inl (by omega)
   ·exact .inr h4
theorem pO {l:List Issue} {L:List Int} (h:pN l L):∀ (k:Nat) (n:Int),n∈L->Rr l k n=k
 | 0,_,_=>rfl
 | k+1,n,hn=>by
   obtain⟨c,hc,hcL⟩:=h n hn;have h1:=pO h k c hcL;have h2:=mz (f:=Rr l k) hc;have h3:=yM l (k+1) n;simp only[Rr] at h3 ⊢;omega
theorem kH {ds:List Int} (h:ds.Nodup):gg ds=ds:=by
 have gen:∀ (ds L:List Int),(L++ds).Nodup->ds.foldl (λl n=>nk n l) L=L++ds:=by
  intro ds;induction ds with
  | nil=>simp
  | cons d ds ih =>
    intro L hL;have hd:d∉L:=λhd=>by
     rw[List.nodup_append] at hL;exact hL.2.2 d hd d (by simp) rfl
    rw[List.foldl_cons,nk,if_neg hd,ih _ (by simpa using hL)];simp
 exact gen ds [] h
theorem gE {l:List Issue} {ds:List Int} (hnd:ds.Nodup) (hch:∀ n∈ds,∀ c∈cp l n,c∈ds) :
 (0<(o6 l ds).2.length↔∃ n∈ds,Rr l (ds.length+1) n > ds.length) /\
 ((o6 l ds).2.length=0->(∀ n∈ds,m5 (o6 l ds).1 n=Rr l (ds.length+1) n)/\((o6 l ds).1.any (λp=>decide (6<p.2))=true↔∃ n∈ds,6<Rr l (ds.length+1) n)):=by
 have h0:DInv l ds ([],gg ds):=by
  rw[kH hnd];exact⟨hnd,λn h=>h,by simp,by simp,λn h h'=>absurd h h'⟩
 obtain⟨h1,h2⟩:=fj hch ds.length _ h0;change DInv l ds (o6 l ds) at h1;have h2:(o6 l ds).2.length+ds.length<=ds.length\/(o6 l ds).2=[]\/pN l (o6 l ds).2:=by
  have e:([],gg ds)=(([]:List (Int×Int)),ds):=by rw[kH hnd]
  unfold o6;rw[e] at h2 ⊢;exact h2
 have hst:0<(o6 l ds).2.length->pN l (o6 l ds).2:=by
  intro hp;rcases h2 with h2|h2|h2
  ·omega
  ·rw[h2] at hp;cases hp
  ·exact h2
 have hval:∀ n∈ds,n∉(o6 l ds).2->Rr l (ds.length+1) n=m5 (o6 l ds).1 n/\1<=m5 (o6 l ds).1 n/\m5 (o6 l ds).1 n<=ds.length:=λn hn hL=>by
  obtain⟨a,b,c⟩:=h1.val n hn hL;exact⟨c _ (by omega),a,by omega⟩
 have hempty:(o6 l ds).2.length=0->∀ n,n∉(o6 l ds).2:=λh n=>by
  rw[List.length_eq_zero_iff.1 h];simp
 refine⟨⟨λhp=>?_,λ⟨n,hn,hgt⟩=>?_⟩,λhz=>⟨λn hn=>(hval n hn (hempty hz n)).1.symm,?_,?_⟩⟩
 ·obtain⟨n,hn⟩:=List.exists_mem_of_length_pos hp;exact⟨n,h1.sub n hn,by rw[pO (hst hp) _ n hn];omega⟩
 ·refine Nat.pos_of_ne_zero λhz=>?_;have:=hval n hn (hempty hz n);omega
 ·intro ha;obtain⟨p,hp,h6⟩:=List.any_eq_true.1 ha;have h6:6<p.2:=by simpa using h6
  have hk:=(h1.ks p hp).1;exact⟨p.1,hk,by rw[(hval p.1 hk (hempty hz _)).1,uh h1.kd hp];exact h6⟩
 ·rintro⟨n,hn,h6⟩;have hv:=hval n hn (hempty hz n);exact List.any_eq_true.2 ⟨_,qR (D:=(o6 l ds).1) (n:=n) (by omega),by simp;omega⟩
open Go Go.Ab Tryz
attribute [local simp] D7 setLp
variable {G:Hn}
def E6 (l:List Issue):Nat->List Int
 | 0=>[]
 | k+1=>E6 l k++(match l[k]? with
   | some x=>if k=0\/(l[k-1]?).map Issue.drawing≠some x.drawing then [x.drawing] else []
   | none=>[])
def nums (l:List Issue):List Int:=E6 l l.length
theorem n3 (l:List Issue):∀ k,(E6 l k).length<=k
 | 0=>Nat.le_refl _
 | k+1=>by
   have:=n3 l k;simp only[E6,List.length_append];split
   ·split<;>simp<;>omega
   ·simp;omega
@[simp] abbrev Ky:List Nat:=[0,1,2,3,4,5,10,31]
theorem H0 (l:List Issue) (hl:l.length<1000000) (objs:List DObj):DCall prog G 92 [A6 l] objs (λd objs'=>d=n9 (nums l)/\objs'=objs):=by
 refine DCall.frame ?_ (by simp) (by simp) objs;refine i8 func92 rfl ntmps92 (by simp) rfl ?_;simp only[A6,n9];have hs:=trivial;repeat' first|(with_reducible first|refine zz ?_|refine zE Ky ?_)|simp -dsimp[hs]
 all_goals try clear hs
 refine g9 (ι:={ p:Nat×Nat×Bool // p.1<=l.length }) (λp=>⟨37,[(1,.one (.ptr 0 0)),(3,.one (.vec 2 p.1.2.1 0 (E6 l p.1.1).length)),(4,iv (p.1.1:Int))],[.row [.im (.sl (l.map e9))],.vec 1 [] 0 true,.vec 1 (l8 ((E6 l p.1.1).map encI)) p.1.2.1 p.1.2.2]⟩) (λp=>l.length-p.1.1) ⟨(0,0,true),by simp⟩ (zv [1,3,4] (by simp[iv,E6])) ?_;rintro⟨⟨k,g,nl⟩,hk⟩;have hlen:=n3 l k;simp only[iv];by_cases hlt:k<l.length
 ·have hx:l[k]?=some l[k]:=by simp[hlt]
  have hw:=zk k;by_cases hk0:k=0
  ·subst hk0;have hs:=za hx hw;repeat' first|(with_reducible first|refine zz ?_|refine And.intro (by omega) ?_|refine zr ?_ (by simp -dsimp[e9,rI,hs];exact rfl)|refine zE Ky ?_)|simp -dsimp[e9,rI,hs]|refine i7 ?_ ?_<;>intro h<;>try exact h.elim
   all_goals try clear hs
   all_goals try omega
   have hs:E6 l 1=E6 l 0++[l[0].drawing]:=by simp[E6,hx]
   exact zn ⟨(1,g+1,false),by simp;omega⟩ (zw [1,3,4] 3 (by simp[hs,encI,rI];exact hw))
  ·obtain⟨m,hm⟩:∃ m,k=m+1:=⟨k-1,by omega⟩
   have hw1:IntKind.i64.wrap ((k:Int)-1)=m:=m9 (by omega) (by omega) |>.trans (by omega);have hy:l[m]?=some l[m]:=by simp
   have hs:=za hx (za hy (za hw (za hw1 hk0)));repeat' first|(with_reducible first|refine zz ?_|refine And.intro (by omega) ?_|refine zr ?_ (by simp -dsimp[e9,rI,hs];exact rfl)|refine zE Ky ?_)|simp -dsimp[e9,rI,hs]|refine i7 ?_ ?_<;>intro h<;>try exact h.elim
   all_goals try clear hs
   all_goals try omega
   ·rename_i h;have hs:E6 l (k+1)=E6 l k++[l[k].drawing]:=by
     simp only[E6,hx,show k-1=m from by omega,hy];simpa[hk0] using h
    exact zn ⟨(k+1,g+1,false),by simp;omega⟩ (zw [1,3,4] 3 (by simp[hs,encI,rI]))
   ·rename_i h;have hs:E6 l (k+1)=E6 l k:=by
     simp only[E6,hx,show k-1=m from by omega,hy];simpa[hk0] using h
    exact zn ⟨(k+1,g,nl),by simp;omega⟩ (zv [1,3,4] (by simp[hs]))
 ·have hs:=hlt;repeat' first|(with_reducible first|refine zz ?_|refine zr ?_|refine zE Ky ?_)|simp -dsimp[hs]|refine i7 ?_ ?_<;>intro h<;>try exact h.elim
  all_goals try clear hs
  all_goals try omega
  have hkl:k=l.length:=by simp at hk;omega
  subst hkl;rfl
end Go.Proofs
namespace Go.Proofs
open Go Go.Ab Tryz
variable {G:Hn}
theorem Ac (y:Itm) (l:List Issue) (ds:List Int) (hs:ds.Pairwise (·<=·)) (hl:ds.length<1000000):zP prog G 196 [xt y,.one (.im (.ip [s8 l ds]))] (bv (!decide (y.drawing∈ds))):=by
 refine zf func196 ntmps196 ?_;try simp only[iv]
 have c1:=xG (G:=G) l ds y.drawing hs hl;have hs:=trivial;repeat' first|(with_reducible first|refine zz ?_|refine zr ?_|refine zE [0,1,2,3] ?_)|simp -dsimp[hs]|refine zp c1 ?_
 all_goals try clear hs
def n4 (x:Issue):Bool:=vR x&&zb x&&F1 x.drawing 0 x.items&&x.dims.all H6
def o7:Option Issue->List Issue->Option (List Int)
 | _,[]=>some []
 | some y,x :: r=>if n4 x=false then none else if y.drawing=x.drawing then (if y.letter+1≠x.letter\/y.kind≠x.kind then none else o7 (some x) r) else if y.drawing > x.drawing then none else if x.letter≠1 then none else (o7 (some x) r).map (x.drawing :: ·)
 | none,x :: r=>if n4 x=false then none else if x.letter≠1 then none else (o7 (some x) r).map (x.drawing :: ·)
theorem mg {x:Issue} (h:n4 x=false) {p:Option Issue} {r:List Issue}:o7 p (x :: r)=none:=by cases p<;>simp[o7,h]
theorem gW:∀ (l:List Issue) (p:Option Issue) (ds:List Int),o7 p l=some ds ->
 (∀ x∈l,n4 x=true)/\(l.map (·.drawing)).Pairwise (·<=·)/\(∀ y,p=some y->∀ x∈l,y.drawing<=x.drawing)/\ds.Pairwise (·<=·)/\(∀ d∈ds,∃ x∈l,x.drawing=d)
 | [],p,ds,h=>by
   have:ds=[]:=by cases p<;>simp[o7] at h<;>exact h
   subst this;simp
 | x :: r,p,ds,h=>by
   have hok:n4 x=true:=by
    cases hx:n4 x
    ·rw[mg hx] at h;cases h
    ·rfl
   have key:∃ ds',o7 (some x) r=some ds'/\(ds=ds'\/ds=x.drawing :: ds')/\∀ y,p=some y->y.drawing<=x.drawing:=by
    cases p with
    | none =>
      simp only[o7,hok] at h;split at h
      ·cases h
      ·split at h
       ·cases h
       ·obtain⟨ds',h1,h2⟩:=Option.map_eq_some_iff.1 h;exact⟨ds',h1,.inr h2.symm,by simp⟩
    | some y =>
      simp only[o7,hok] at h;split at h
      ·cases h
      ·split at h
       ·rename_i hd;split at h
        ·cases h
        ·exact⟨ds,h,.inl rfl,λy' e=>by cases e;omega⟩
       ·split at h
        ·cases h
        ·split at h
         ·cases h
         ·obtain⟨ds',h1,h2⟩:=Option.map_eq_some_iff.1 h;exact⟨ds',h1,.inr h2.symm,λy' e=>by cases e;omega⟩
   obtain⟨ds',h1,h2,h3⟩:=key;obtain⟨i1,i2,i3,i4,i5⟩:=gW r (some x) ds' h1;refine⟨λz hz=>?_,?_,λy hy z hz=>?_,?_,λd hd=>?_⟩
   ·rcases List.mem_cons.1 hz with rfl|hz
    ·exact hok
    ·exact i1 z hz
   ·rw[List.map_cons,List.pairwise_cons];refine⟨λd hd=>?_,i2⟩;obtain⟨z,hz,rfl⟩:=List.mem_map.1 hd;exact i3 x rfl z hz
   ·have:=h3 y hy;rcases List.mem_cons.1 hz with rfl|hz
    ·exact this
    ·have:=i3 x rfl z hz;omega
   ·rcases h2 with rfl|rfl
    ·exact i4
    ·rw[List.pairwise_cons];refine⟨λd hd=>?_,i4⟩;obtain⟨z,hz,rfl⟩:=i5 d hd;exact i3 x rfl z hz
   ·rcases h2 with rfl|rfl
    ·obtain⟨z,hz,e⟩:=i5 d hd;exact⟨z,by simp[hz],e⟩
    ·rcases List.mem_cons.1 hd with rfl|hd
     ·exact⟨x,by simp,rfl⟩
     ·obtain⟨z,hz,e⟩:=i5 d hd;exact⟨z,by simp[hz],e⟩
def G9 (l:List Issue):Int×List Int:=
 if l.length<1\/60<l.length then (20,[]) else match o7 none l with
 | none=>(20,[])
 | some ds=>if 20<ds.length then (20,[]) else if l.any (λx=>x.items.any λy=>!decide (y.drawing∈ds)) then (20,[]) else
   if 0<(o6 l ds).2.length then (21,[]) else if (o6 l ds).1.any (λp=>decide (6<p.2)) then (20,[]) else (0,ds)
def O7 (l:List Issue):DV:=if (G9 l).1=0 then .one (.im (s8 l (G9 l).2)) else .one (.im (.raw (.pointer none)))
end Go.Proofs
namespace Go.Proofs
open Go Go.Ab
def I3 (l:List Issue):Nat->Option Issue
 | 0=>none
 | k+1=>l[k]?
theorem dI {p:Option Issue} {x:Issue} {r:List Issue} {ds:List Int} (h:o7 p (x :: r)=some ds) :
 ∃ ds',o7 (some x) r=some ds'/\n4 x=true/\((∃ y,p=some y/\y.drawing=x.drawing/\ds=ds')\/((∀ y,p=some y->y.drawing<x.drawing)/\ds=x.drawing :: ds')):=by
 have hok:n4 x=true:=by
  cases hx:n4 x
  ·rw[mg hx] at h;cases h
  ·rfl
 cases p with
 | none =>
   simp only[o7,hok] at h;split at h
   ·cases h
   ·split at h
    ·cases h
    ·obtain⟨ds',h1,h2⟩:=Option.map_eq_some_iff.1 h;exact⟨ds',h1,hok,.inr ⟨by simp,h2.symm⟩⟩
 | some y =>
   simp only[o7,hok] at h;split at h
   ·cases h
   ·split at h
    ·rename_i hd;split at h
     ·cases h
     ·exact⟨ds,h,hok,.inl ⟨y,rfl,hd,rfl⟩⟩
    ·split at h
     ·cases h
     ·split at h
      ·cases h
      ·obtain⟨ds',h1,h2⟩:=Option.map_eq_some_iff.1 h;exact⟨ds',h1,hok,.inr ⟨λy' e=>by cases e;omega,h2.symm⟩⟩
theorem sI {l:List Issue} {ds:List Int} (h:o7 none l=some ds):∀ k,k<=l.length->∃ ds',o7 (I3 l k) (l.drop k)=some ds'/\ds=E6 l k++ds'
 | 0,_=>⟨ds,by simpa[I3] using h,by simp[E6]⟩
 | k+1,hk=>by
   obtain⟨ds',h1,h2⟩:=sI h k (by omega);have hlt:k<l.length:=by omega
   have hx:l[k]?=some l[k]:=by simp[hlt]
   rw[List.drop_eq_getElem_cons hlt] at h1;obtain⟨ds'',h3,_,h4⟩:=dI h1;refine⟨ds'',by simpa[I3,hx] using h3,?_⟩;rw[h2];simp only[E6,hx,List.append_assoc]
   congr 1
   rcases h4 with⟨y,h5,h6,rfl⟩|⟨h5,rfl⟩
   ·cases k with
    | zero=>simp[I3] at h5
    | succ m=>simp only[I3] at h5;simp[h5,h6]
   ·cases k with
    | zero=>simp
    | succ m =>
      have hy:l[m]?=some l[m]:=by simp
      have:=h5 l[m] (by simp[I3,hy]);rw[if_pos (.inr (by simp only[Nat.add_sub_cancel,hy,Option.map_some,ne_eq,Option.some.injEq];omega))];rfl
theorem gX {l:List Issue} {ds:List Int} (h:o7 none l=some ds):ds=nums l:=by
 obtain⟨ds',h1,h2⟩:=sI h l.length (Nat.le_refl _);rw[List.drop_length] at h1;have:ds'=[]:=by
  cases hp:I3 l l.length<;>rw[hp] at h1<;>simp[o7] at h1<;>exact h1
 rw[h2,this,List.append_nil];rfl
theorem sJ:∀ (l:List Issue) (p:Option Issue) (ds:List Int),o7 p l=some ds->ds.Pairwise (· < ·)/\∀ y,p=some y->∀ d∈ds,y.drawing<d
 | [],p,ds,h=>by
   have:ds=[]:=by cases p<;>simp[o7] at h<;>exact h
   subst this;simp
 | x :: r,p,ds,h=>by
   obtain⟨ds',h1,_,h2⟩:=dI h;obtain⟨i1,i2⟩:=sJ r (some x) ds' h1;rcases h2 with⟨y,rfl,h3,rfl⟩|⟨h3,rfl⟩
   ·exact⟨i1,λy' e d hd=>by cases e;rw[h3];exact i2 x rfl d hd⟩
   ·refine⟨List.pairwise_cons.2 ⟨i2 x rfl,i1⟩,λy e d hd=>?_⟩;have:=h3 y e;rcases List.mem_cons.1 hd with rfl|hd
    ·exact this
    ·have:=i2 x rfl d hd;omega
theorem wu {l:List Issue} {ds:List Int} (h:o7 none l=some ds):∀ (p:Option Issue) (r:List Issue) (ds:List Int),o7 p r=some ds->∀ x∈r,x.drawing∈ds\/∃ y,p=some y/\y.drawing=x.drawing:=by
 intro p r;induction r generalizing p with
 | nil=>intro ds _ x hx;cases hx
 | cons z r ih =>
   intro ds hds x hx;obtain⟨ds',h1,_,h2⟩:=dI hds;have key:x.drawing∈ds'\/z.drawing=x.drawing:=by
    rcases List.mem_cons.1 hx with rfl|hx
    ·exact .inr rfl
    ·rcases ih (some z) ds' h1 x hx with h|⟨y,hy,he⟩
     ·exact .inl h
     ·cases hy;exact .inr he
   rcases h2 with⟨y,rfl,h3,rfl⟩|⟨_,rfl⟩
   ·rcases key with h|h
    ·exact .inl h
    ·exact .inr ⟨y,rfl,by omega⟩
   ·rcases key with h|h
    ·exact .inl (by simp[h])
    ·exact .inl (by simp[h])
theorem I2 {l:List Issue} {ds:List Int} (h:o7 none l=some ds):ds=nums l/\ds.Pairwise (· < ·)/\(∀ x∈l,x.drawing∈ds)/\(∀ x∈l,n4 x=true)/\(l.map (·.drawing)).Pairwise (·<=·):=by
 obtain⟨a1,a2,_,_,_⟩:=gW l none ds h;refine⟨gX h,(sJ l none ds h).1,λx hx=>?_,a1,a2⟩;rcases wu h none l ds h x hx with h|⟨y,hy,_⟩
 ·exact h
 ·cases hy
def q9 (l:List Issue):Bool:=decide (1<=l.length/\l.length<=60)&&(o7 none l).isSome&&l.all (λx=>x.items.all λy=>decide (y.drawing∈nums l))&&decide ((nums l).length<=20)
def C5 (l:List Issue):List Int:=(nums l).map (Rr l ((nums l).length+1))
def W9 (l:List Int):Int:=l.foldl max 0
def j8 (l:List Issue):Int:=if q9 l=false then 20 else if W9 (C5 l) > (C5 l).length then 21 else if W9 (C5 l) > 6 then 20 else 0
theorem jB (f:Int->Int) (l:List Int) (b:Int) (hb:0<=b):W9 (l.map f) > b↔∃ n∈l,f n > b:=by
 have:W9 (l.map f)=mx f l:=by simp[W9,mx,List.foldl_map]
 rw[this];constructor
 ·intro h;refine Classical.byContradiction λhno=>?_;have:=oV (f:=f) (l:=l) hb λc hc=>Int.not_lt.1 λhlt=>hno ⟨c,hc,hlt⟩;omega
 ·rintro⟨n,hn,h⟩;have:=mz (f:=f) hn;omega
theorem bM (l:List Issue):(G9 l).1=j8 l/\((G9 l).1=0->(G9 l).2=nums l/\q9 l=true):=by
 unfold G9 j8;by_cases hr:l.length<1\/60<l.length
 ·have:q9 l=false:=by simp[q9];intro h1 h2;omega
  rw[if_pos hr,if_pos this];exact⟨rfl,by simp⟩
 rw[if_neg hr];cases hs:o7 none l with
 | none =>
   have:q9 l=false:=by simp[q9,hs]
   rw[if_pos this];exact⟨rfl,by simp⟩
 | some ds =>
   obtain⟨h1,h2,h3,h4,h5⟩:=I2 hs;simp only;by_cases h20:20<ds.length
   ·have:q9 l=false:=by simp[q9,<- h1];intro _ _ _;omega
    rw[if_pos h20,if_pos this];exact⟨rfl,by simp⟩
   rw[if_neg h20];by_cases hit:l.any (λx=>x.items.any λy=>!decide (y.drawing∈ds))=true
   ·have:q9 l=false:=by
     simp only[q9,<- h1];have:l.all (λx=>x.items.all λy=>decide (y.drawing∈ds))=false:=by
      rw[<- Bool.not_eq_true,List.all_eq_true];intro hall;obtain⟨x,hx,hy⟩:=List.any_eq_true.1 hit;obtain⟨y,hy,hn⟩:=List.any_eq_true.1 hy;have:=List.all_eq_true.1 (hall x hx) y hy;simp at hn this;exact hn this
     simp[this]
    rw[if_pos hit,if_pos this];exact⟨rfl,by simp⟩
   rw[if_neg hit];have hall:∀ x∈l,∀ y∈x.items,y.drawing∈ds:=λx hx y hy=>by
    refine Classical.byContradiction λhn=>hit ?_;exact List.any_eq_true.2 ⟨x,hx,List.any_eq_true.2 ⟨y,hy,by simpa using hn⟩⟩
   have hli:q9 l=true:=by
    simp only[q9,<- h1,hs,Bool.and_eq_true,decide_eq_true_eq,List.all_eq_true];exact⟨⟨⟨by omega,rfl⟩,λx hx y hy=>hall x hx y hy⟩,by omega⟩
   have hch:∀ n∈ds,∀ c∈cp l n,c∈ds:=λn _ c hc=>by
    simp only[cp,List.mem_flatMap,List.mem_map] at hc;obtain⟨x,hx,y,hy,rfl⟩:=hc;exact hall x ((List.mem_filter.1 hx).1) y hy
   have hnd:ds.Nodup:=h2.imp λh=>Int.ne_of_lt h;obtain⟨d1,d2⟩:=gE hnd hch;have e1:W9 (C5 l) > (C5 l).length↔0<(o6 l ds).2.length:=by
    rw[d1];simp only[C5,<- h1,List.length_map];exact jB _ ds _ (by omega)
   rw[if_neg (by simp[hli]:¬ q9 l=false)];by_cases hc:0<(o6 l ds).2.length
   ·rw[if_pos hc,if_pos (e1.2 hc)];exact⟨rfl,by simp⟩
   rw[if_neg hc,if_neg λh=>hc (e1.1 h)];obtain⟨_,d4⟩:=d2 (by omega);have e2:W9 (C5 l) > 6↔(o6 l ds).1.any (λp=>decide (6<p.2))=true:=by
    rw[d4];simp only[C5,<- h1];exact jB _ ds 6 (by omega)
   by_cases h6:(o6 l ds).1.any (λp=>decide (6<p.2))=true
   ·rw[if_pos h6,if_pos (e2.2 h6)];exact⟨rfl,by simp⟩
   ·rw[if_neg h6,if_neg λh=>h6 (e2.1 h)];exact⟨rfl,λ_=>⟨h1,hli⟩⟩
open Go Go.Ab Tryz
variable {G:Hn}
theorem wZ (l:List Issue):ImV (O7 l):=by unfold O7;split<;>simp[s8]
attribute [simp] wZ
theorem wv {x:Issue} (h:n4 x=false) (p:Option Issue) (r:List Issue):o7 p (x :: r)=none:=by cases p<;>simp[o7,h]
def pG (x:Issue):Nat->Bool
 | 0=>vR x
 | 1=>zb x
 | 2=>F1 x.drawing 0 x.items
 | _=>x.dims.all H6
theorem AZ {x:Issue} {c:Nat} (h:pG x c=false):n4 x=false:=by
 unfold n4;match c with
 | 0=>simp only[pG] at h;simp[h]
 | 1=>simp only[pG] at h;simp[h]
 | 2=>simp only[pG] at h;simp[h]
 | c+3=>simp only[pG] at h;simp[h]
theorem Ba {x:Issue} (h:∀ i<4,pG x i=true):n4 x=true:=by
 have h0:=h 0 (by omega);have h1:=h 1 (by omega);have h2:=h 2 (by omega);have h3:=h 3 (by omega);simp only[pG] at h0 h1 h2 h3;simp[n4,h0,h1,h2,h3]
theorem S9 {l:List Issue} (h:o7 none l=none):G9 l=(20,[]):=by
 unfold G9;split
 ·rfl
 ·rw[h]
theorem uI {m:List (Int×Int)} {i:Nat} {a:List Value} {b:List IC} (h:(Z8 m)[i]?=some (a,b)):∃ p,m[i]?=some p/\a=kI p.1/\b=[rI p.2]:=by
 rw[Z8,List.getElem?_map,Option.map_eq_some_iff] at h;obtain⟨p,h1,h2⟩:=h;cases h2;exact⟨p,h1,rfl,rfl⟩
theorem pw (m:List (Int×Int)) (i:Nat):(Z8 m).eraseIdx i=Z8 (m.eraseIdx i):=by
 simp only[Z8,List.eraseIdx_eq_take_drop_succ,List.map_append,List.map_take,List.map_drop]
theorem vf {α:Type} {f:α->Bool} {l:List α} {i:Nat} {x:α} (h:l[i]?=some x) (hx:f x=false):l.any f=(l.eraseIdx i).any f:=by
 have hlt:=e7 h;rw[List.eraseIdx_eq_take_drop_succ,List.any_append]
 conv=>lhs;rw[<- List.take_append_drop i l,List.any_append,List.drop_eq_getElem_cons hlt,List.any_cons]
 rw[List.getElem?_eq_getElem hlt] at h;cases h;rw[hx,Bool.false_or]
@[simp] abbrev Le:List Nat:=[0,1,2,3,4,5,6,8,9,11,12,13,15,24,26,27,28,29,33,34,35,41,44,55,68,73,76,94,96,97,98,99,105,112,114,116,120]
@[simp] abbrev Kz:List Nat:=[1,2,3,4,26,27,28]
@[simp] abbrev KA:List Nat:=[1,2,3,4,5,6,26,27,28,33,34]
@[simp] abbrev Js:List Nat:=[0,1,2,3,4,5,6,8,9,11,12,13,15,24,26,27,28,29,33,34,35,41,44,55,68,73,76,78,79,80,81,82,83,84,94,96,97,98,99,105,112,114,116,120]
theorem Ct (l:List Issue) (hG:G 4=some [.fn (.func 315) [],.fn (.func 316) [],.fn (.func 317) [],.fn (.func 318) []]) (hl:l.length<1000000) (hx:∀ x∈l,0<=x.kind/\x.kind<=255/\x.items.length<1000000/\x.dims.length<1000000):zP prog G 151 [A6 l] (.tup [O7 l,iv (G9 l).1]):=by
 refine zf func151 ntmps151 ?_;try simp only[A6]
 have c1:=Z7 (G:=G) 1 60 [(l.length:Int)] (by simp);by_cases hrange:l.length<1\/60<l.length
 ·have hr:([(l.length:Int)].all λx=>decide (1<=x)&&decide (x<=60))=false:=by
   simp;omega
  simp only[hr] at c1;have h20:G9 l=(20,[]):=by unfold G9;rw[if_pos hrange]
  have hs:=trivial;repeat' first|(with_reducible first|refine zz ?_|refine zr ?_)|refine zt c1 ?_ ?_ ?_;(focus simp;done);(focus simp;done);try simp -dsimp[hs]|with_reducible refine O2 (id:=1) (nt:=122) Le rfl ?_;simp -dsimp[hs]|with_reducible refine zE Le ?_;try simp -dsimp[hs]|refine i7 ?_ ?_<;>intro h<;>try exact h.elim
  all_goals try simp -dsimp[hs]
  all_goals try clear hs
  all_goals simp[O7,h20]
 have hr:([(l.length:Int)].all λx=>decide (1<=x)&&decide (x<=60))=true:=by
  simp;omega
 simp only[hr] at c1;have hll:l.length<=60:=by omega
 have hs:=trivial;repeat' first|with_reducible refine zz ?_|refine zt c1 ?_ ?_ ?_;(focus simp;done);(focus simp;done);try simp -dsimp[hs]|with_reducible refine O2 (id:=1) (nt:=122) Le rfl ?_;simp -dsimp[hs]|with_reducible refine zE Le ?_;try simp -dsimp[hs]|refine i7 ?_ ?_<;>intro h<;>try exact h.elim
 all_goals try simp -dsimp[hs]
 all_goals try clear hs
 refine g9 (ι:={ p:Nat×Nat×Nat×Bool×List Int // p.1<=l.length/\(p.2.1=1\/p.2.2.2.1=true)/\(o7 (I3 l p.1) (l.drop p.1)).map (p.2.2.2.2 ++ ·)=o7 none l/\p.2.2.2.2.length<=p.1/\∀ x∈l.take p.1,n4 x=true }) (λp=>⟨122,[(1,.one (.ptr 0 0)),(2,.one (.im (.raw (.pointer none)))),(3,iv 0),(4,.one (.ptr 4 0)),(26,.one (.im (.sl (l.map e9)))),(27,iv (l.length:Int)),(28,iv (p.1.1:Int))],[.row [.im (.sl (l.map e9))],.vec 0 [] 0 true,.vec p.1.2.1 (l8 (p.1.2.2.2.2.map encI)) p.1.2.2.1 p.1.2.2.2.1,.row [.im (.sl (l.map e9)),.vec 2 p.1.2.2.1 0 p.1.2.2.2.2.length],.row [.ptr 3 0]]⟩) (λp=>l.length-p.1.1) ⟨(0,0,0,true,[]),by simp[I3]⟩ (zw Kz 5) ?_;rintro⟨⟨k,sz,g,nl,ds⟩,hk,hsz,hscan,hdl,hok⟩;simp only at hk hsz hscan hdl hok;simp only[iv];by_cases hlt:k<l.length
 ·have hx1:l[k]?=some l[k]:=by simp[hlt]
  have hw:=zk k;have hxk:=hx l[k] (List.getElem_mem hlt);rw[List.drop_eq_getElem_cons hlt] at hscan;have hs:=za hx1 (za hG hlt);repeat' first|with_reducible refine zz ?_|with_reducible refine zE Le ?_;try simp -dsimp[hs]|refine i7 ?_ ?_<;>intro h<;>try exact h.elim
  all_goals try simp -dsimp[hs]
  all_goals try clear hs
  have k1:=Fl (G:=G) l[k];have k2:=Fk (G:=G) l[k] ⟨hxk.1,hxk.2.1⟩;have k3:=Fj (G:=G) l[k] hxk.2.2.1;have k4:=Fi (G:=G) l[k] hxk.2.2.2;have hbad:∀ c,pG l[k] c=false->G9 l=(20,[]):=λc h=>S9 (by rw[<- hscan,wv (AZ h)];rfl);refine g9 (ι:={ c:Nat // c<=4/\∀ i<c,pG l[k] i=true }) (λc=>⟨122,[(1,.one (.ptr 0 0)),(2,.one (.im (.raw (.pointer none)))),(3,iv 0),(4,.one (.ptr 4 0)),(5,iv (k:Int)),(6,.one (.ptr 7 0)),(26,.one (.im (.sl (l.map e9)))),(27,iv (l.length:Int)),(28,iv (k:Int)),(33,.agg [.im (.fn (.func 315) []),.im (.fn (.func 316) []),.im (.fn (.func 317) []),.im (.fn (.func 318) [])]),(34,iv (c.1:Int))],[.row [.im (.sl (l.map e9))],.vec 0 [] 0 true,.vec sz (l8 (ds.map encI)) g nl,.row [.im (.sl (l.map e9)),.vec 2 g 0 ds.length],.row [.ptr 3 0],.vec 0 [] 0 true,.vec 0 [] 0 true,.row ((e9 l[k]).map .im)]⟩) (λc=>4-c.1) ⟨0,by simp⟩ (zv [1,2,3,4,5,6,26,27,28,33,34]) ?_;rintro⟨c,hc,hall⟩;simp only[iv];by_cases hc4:c<4
  ·have hwc:=zk c;match c,hc4,hc,hall,hwc with
   | 0,hc4,hc,hall,hwc =>
     have hq':vR l[k]=pG l[k] 0:=rfl;cases hq:pG l[k] 0<;>simp only[hq',hq] at k1
     ·have h20:=hbad 0 hq;have hs:=trivial;repeat' first|(with_reducible first|refine zz ?_|refine zr ?_)|(first|refine zp k1 ?_|with_reducible refine zE Le ?_);try simp -dsimp[hs]|refine i7 ?_ ?_<;>intro h<;>try exact h.elim
      all_goals try simp -dsimp[hs]
      all_goals try clear hs
      all_goals simp[O7,h20]
     ·have hs:=hwc;repeat' first|with_reducible refine zz ?_|(first|refine zp k1 ?_|with_reducible refine zE Le ?_);try simp -dsimp[hs]|refine i7 ?_ ?_<;>intro h<;>try exact h.elim
      all_goals try simp -dsimp[hs]
      all_goals try clear hs
      exact At.round ⟨1,by omega,λi hi=>by
       rcases Nat.lt_succ_iff_lt_or_eq.1 hi with h|rfl
       ·exact hall i h
       ·exact hq⟩ (by simp) (zw KA 8 (by simp;exact m9 (by omega) (by omega)))
   | 1,hc4,hc,hall,hwc =>
     have hq':zb l[k]=pG l[k] 1:=rfl;cases hq:pG l[k] 1<;>simp only[hq',hq] at k2
     ·have h20:=hbad 1 hq;have hs:=trivial;repeat' first|(with_reducible first|refine zz ?_|refine zr ?_)|(first|refine zp k2 ?_|with_reducible refine zE Le ?_);try simp -dsimp[hs]|refine i7 ?_ ?_<;>intro h<;>try exact h.elim
      all_goals try simp -dsimp[hs]
      all_goals try clear hs
      all_goals simp[O7,h20]
     ·have hs:=hwc;repeat' first|with_reducible refine zz ?_|(first|refine zp k2 ?_|with_reducible refine zE Le ?_);try simp -dsimp[hs]|refine i7 ?_ ?_<;>intro h<;>try exact h.elim
      all_goals try simp -dsimp[hs]
      all_goals try clear hs
      exact At.round ⟨2,by omega,λi hi=>by
       rcases Nat.lt_succ_iff_lt_or_eq.1 hi with h|rfl
       ·exact hall i h
       ·exact hq⟩ (by simp) (zw KA 8 (by simp;exact m9 (by omega) (by omega)))
   | 2,hc4,hc,hall,hwc =>
     have hq':F1 l[k].drawing 0 l[k].items=pG l[k] 2:=rfl;cases hq:pG l[k] 2<;>simp only[hq',hq] at k3
     ·have h20:=hbad 2 hq;have hs:=trivial;repeat' first|(with_reducible first|refine zz ?_|refine zr ?_)|(first|refine zp k3 ?_|with_reducible refine zE Le ?_);try simp -dsimp[hs]|refine i7 ?_ ?_<;>intro h<;>try exact h.elim
      all_goals try simp -dsimp[hs]
      all_goals try clear hs
      all_goals simp[O7,h20]
     ·have hs:=hwc;repeat' first|with_reducible refine zz ?_|(first|refine zp k3 ?_|with_reducible refine zE Le ?_);try simp -dsimp[hs]|refine i7 ?_ ?_<;>intro h<;>try exact h.elim
      all_goals try simp -dsimp[hs]
      all_goals try clear hs
      exact At.round ⟨3,by omega,λi hi=>by
       rcases Nat.lt_succ_iff_lt_or_eq.1 hi with h|rfl
       ·exact hall i h
       ·exact hq⟩ (by simp) (zw KA 8 (by simp;exact m9 (by omega) (by omega)))
   | 3,hc4,hc,hall,hwc =>
     have hq':l[k].dims.all H6=pG l[k] 3:=rfl;cases hq:pG l[k] 3<;>simp only[hq',hq] at k4
     ·have h20:=hbad 3 hq;have hs:=trivial;repeat' first|(with_reducible first|refine zz ?_|refine zr ?_)|(first|refine zp k4 ?_|with_reducible refine zE Le ?_);try simp -dsimp[hs]|refine i7 ?_ ?_<;>intro h<;>try exact h.elim
      all_goals try simp -dsimp[hs]
      all_goals try clear hs
      all_goals simp[O7,h20]
     ·have hs:=hwc;repeat' first|with_reducible refine zz ?_|(first|refine zp k4 ?_|with_reducible refine zE Le ?_);try simp -dsimp[hs]|refine i7 ?_ ?_<;>intro h<;>try exact h.elim
      all_goals try simp -dsimp[hs]
      all_goals try clear hs
      exact At.round ⟨4,by omega,λi hi=>by
       rcases Nat.lt_succ_iff_lt_or_eq.1 hi with h|rfl
       ·exact hall i h
       ·exact hq⟩ (by simp) (zw KA 8 (by simp;exact m9 (by omega) (by omega)))
  ·have hok1:n4 l[k]=true:=Ba λi hi=>hall i (by omega);clear k1 k2 k3 k4;obtain rfl:c=4:=by omega
   have hokn:∀ x∈l.take (k+1),n4 x=true:=by
    rw[List.take_succ_eq_append_getElem hlt];intro x hx;rcases List.mem_append.1 hx with h|h
    ·exact hok x h
    ·simp at h;rw[h];exact hok1
   have hnext:I3 l (k+1)=some l[k]:=by simp[I3]
   by_cases hk0:k=0
   ·subst hk0;simp only[I3] at hscan;by_cases h1:l[0].letter=1
    ·have hs:(o7 (I3 l 1) (l.drop 1)).map ((ds++[l[0].drawing]) ++ ·)=o7 none l:=by
      rw[hnext,<- hscan];simp[o7,hok1,h1,Option.map_map,Function.comp_def]
     have hs:=za hx1 (za h1 (za hw hsz));repeat' first|(with_reducible first|refine zz ?_|refine And.intro (by omega) ?_)|refine q8 (id:=22) (nt:=122) 8 [0] Js Le mixed rfl (by kernel_rfl) ?_;simp -dsimp[hs]|with_reducible refine zE Le ?_;try simp -dsimp[hs]|refine i7 ?_ ?_<;>intro h<;>try exact h.elim
     all_goals try simp -dsimp[hs]
     all_goals try clear hs
     all_goals try omega
     exact zn ⟨(1,1,g+1,false,ds++[l[0].drawing]),by omega,.inl rfl,hs,by simp only[List.length_append,List.length_cons,List.length_nil];omega,hokn⟩ (zw Kz 5 (by simp;exact m9 (by omega) (by omega)))
    ·have h20:G9 l=(20,[]):=S9 (by rw[<- hscan];simp[o7,hok1,h1]);have hs:=za hx1 h1;repeat' first|(with_reducible first|refine zz ?_|refine zr ?_)|with_reducible refine zE Le ?_;try simp -dsimp[hs]|refine i7 ?_ ?_<;>intro h<;>try exact h.elim
     all_goals try simp -dsimp[hs]
     all_goals try clear hs
     all_goals simp[O7,h20]
   ·obtain⟨m,rfl⟩:∃ m,k=m+1:=⟨k-1,by omega⟩
    have hw1:IntKind.i64.wrap (((m+1:Nat):Int)-1)=m:=m9 (by omega) (by omega) |>.trans (by omega);have hy:l[m]?=some l[m]:=by simp
    have hw2:IntKind.i64.wrap (m:Int)=m:=m9 (by omega) (by omega);have hoky:=hok l[m] (List.mem_take_iff_getElem.2 ⟨m,by omega,rfl⟩);have hlet:1<=l[m].letter/\l[m].letter<=8:=by simp[n4,vR] at hoky;omega
    have hwl:IntKind.i64.wrap (l[m].letter+1)=l[m].letter+1:=m9 (by omega) (by omega);simp only[I3,hy] at hscan;have hs:=za hx1 (za hw (za hy (za hw1 (za hw2 (za hwl hsz)))));repeat' first|(with_reducible first|refine zz ?_|refine And.intro (by omega) ?_|refine zr ?_)|refine q8 (id:=22) (nt:=122) 8 [0] Js Le mixed rfl (by kernel_rfl) ?_;simp -dsimp[hs]|with_reducible refine zE Le ?_;try simp -dsimp[hs]|refine i7 ?_ ?_<;>intro h<;>try exact h.elim|with_reducible refine j0 ?_ ?_<;>intro h<;>have h0:=h<;>(try simp only[i6] at h)<;>have h2:=h<;>(try simp at h2)<;>(replace hs:=za h0 (za h (za h2 hs)))<;>simp -dsimp[hs]
    all_goals try simp -dsimp[hs]
    all_goals try clear hs
    all_goals try omega
    ·have a1:l[m].drawing=l[m+1].drawing:=by assumption
     have a2:¬ l[m].kind=l[m+1].kind:=by assumption
     have h20:G9 l=(20,[]):=S9 (by rw[<- hscan];simp[o7,hok1,a1,a2]);simp[O7,h20]
    ·have a1:l[m].drawing=l[m+1].drawing:=by assumption
     have a2:l[m].kind=l[m+1].kind:=by assumption
     have a3:l[m].letter+1=l[m+1].letter:=by assumption
     have hs:(o7 (I3 l (m+1+1)) (l.drop (m+1+1))).map (ds ++ ·)=o7 none l:=by
      rw[hnext,<- hscan];simp[o7,hok1,a1,a2,a3]
     exact zn ⟨(m+1+1,sz,g,nl,ds),by omega,hsz,hs,by show ds.length<=m+1+1;omega,hokn⟩ (zw Kz 5 (by simp;try exact m9 (by omega) (by omega)))
    ·have a1:l[m].drawing=l[m+1].drawing:=by assumption
     have a2:¬ l[m].letter+1=l[m+1].letter:=by assumption
     have h20:G9 l=(20,[]):=S9 (by rw[<- hscan];simp[o7,hok1,a1,a2]);simp[O7,h20]
    ·have a1:¬ l[m].drawing=l[m+1].drawing:=by assumption
     have a2:l[m+1].drawing<l[m].drawing:=by assumption
     have h20:G9 l=(20,[]):=S9 (by rw[<- hscan];simp[o7,hok1,a1,a2]);simp[O7,h20]
    ·have a1:¬ l[m].drawing=l[m+1].drawing:=by assumption
     have a2:¬ l[m+1].drawing<l[m].drawing:=by assumption
     have a3:¬ l[m+1].letter=1:=by assumption
     have h20:G9 l=(20,[]):=S9 (by rw[<- hscan];simp[o7,hok1,a1,a2,a3]);simp[O7,h20]
    ·have a1:¬ l[m].drawing=l[m+1].drawing:=by assumption
     have a2:¬ l[m+1].drawing<l[m].drawing:=by assumption
     have a3:l[m+1].letter=1:=by assumption
     have hs:(o7 (I3 l (m+1+1)) (l.drop (m+1+1))).map ((ds++[l[m+1].drawing]) ++ ·)=o7 none l:=by
      rw[hnext,<- hscan];simp[o7,hok1,a1,a2,a3,Option.map_map,Function.comp_def]
     exact zn ⟨(m+1+1,1,g+1,false,ds++[l[m+1].drawing]),by omega,.inl rfl,hs,by simp only[List.length_append,List.length_cons,List.length_nil];omega,hokn⟩ (zw Kz 5 (by simp;try exact m9 (by omega) (by omega)))
 ·have hkl:k=l.length:=by omega
  have hds:o7 none l=some ds:=by
   rw[<- hscan,hkl,List.drop_length];cases I3 l l.length<;>simp[o7]
  obtain⟨s1,s2,_,s4,_⟩:=gW l none ds hds;have hit:∀ x∈l,x.items.length<=16:=λx hx'=>by
   have h:=s1 x hx';simp only[n4,zb,Bool.and_eq_true] at h;have h:=h.1.1.2;split at h
   ·simp at h;omega
   ·simp only[Bool.and_eq_true,decide_eq_true_eq] at h;rw[h.2];omega
  have hdl2:ds.length<=l.length:=by omega
  subst hkl;by_cases hd20:20<ds.length
  ·have h20:G9 l=(20,[]):=by unfold G9;rw[if_neg hrange,hds];simp[hd20]
   have hd21:(20:Int)<(ds.length:Int):=by omega
   have hlt':¬ (ds.length:Int)<=20:=by omega
   have hs:=za hd21 hlt';repeat' first|(with_reducible first|refine zz ?_|refine zr ?_)|with_reducible refine zE Le ?_;try simp -dsimp[hs]|refine i7 ?_ ?_<;>intro h<;>try exact h.elim
   all_goals try simp -dsimp[hs]
   all_goals try clear hs
   all_goals simp[O7,h20]
  ·have hd21:¬ (20:Int)<(ds.length:Int):=by omega
   have hs:=hd21;repeat' first|with_reducible refine zz ?_|with_reducible refine zE Le ?_;try simp -dsimp[hs]|refine i7 ?_ ?_<;>intro h<;>try exact h.elim
   all_goals try simp -dsimp[hs]
   all_goals try clear hs
   refine g9 (ι:={ p:Nat // p<=l.length/\(l.any λx=>x.items.any λy=>!decide (y.drawing∈ds))=((l.drop p).any λx=>x.items.any λy=>!decide (y.drawing∈ds)) }) (λp=>⟨122,[(1,.one (.im (.ip [.sl (l.map e9)]))),(2,.one (.im (.raw (.pointer none)))),(3,iv 0),(4,.one (.im (.ip [s8 l ds]))),(96,.one (.im (.sl (l.map e9)))),(97,iv (l.length:Int)),(98,iv (p.1:Int))],[]⟩) (λp=>l.length-p.1) ⟨0,by simp⟩ (zw [1,2,3,4,96,97,98] 0 (by simp[s8])) ?_;clear hscan hok hx;rintro⟨k,hk,hany⟩;simp only[iv];by_cases hlt:k<l.length
   ·have hx1:l[k]?=some l[k]:=by simp[hlt]
    have hw:=zk k;have hit1:=hit l[k] (List.getElem_mem hlt);have c3:=λobjs=>iG (G:=G) l[k].items (λy=>!decide (y.drawing∈ds)) 196 [.im (.ip [s8 l ds])] objs (by simp) (λy _=>Ac y l ds s4 (by omega) objs) (by omega);rw[List.drop_eq_getElem_cons hlt,List.any_cons] at hany;cases hq:l[k].items.any λy=>!decide (y.drawing∈ds)
    ·simp only[hq] at c3;rw[hq,Bool.false_or] at hany;have hs:=za hx1 (za hw hlt);repeat' first|with_reducible refine zz ?_|(first|refine zp c3 ?_|with_reducible refine zE Le ?_);try simp -dsimp[hs]|refine i7 ?_ ?_<;>intro h<;>try exact h.elim
     all_goals try simp -dsimp[hs]
     all_goals try clear hs
     exact zn ⟨k+1,by omega,hany⟩ (zw [1,2,3,4,96,97,98] 0 (by simp[s8]))
    ·simp only[hq] at c3;have h20:G9 l=(20,[]):=by unfold G9;rw[if_neg hrange,hds];simp only;rw[if_neg hd20,if_pos (by rw[hany,hq,Bool.true_or])]
     have hs:=za hx1 (za hw hlt);repeat' first|(with_reducible first|refine zz ?_|refine zr ?_)|(first|refine zp c3 ?_|with_reducible refine zE Le ?_);try simp -dsimp[hs]|refine i7 ?_ ?_<;>intro h<;>try exact h.elim
     all_goals try simp -dsimp[hs]
     all_goals try clear hs
     all_goals simp[O7,h20]
   ·have hall:(l.any λx=>x.items.any λy=>!decide (y.drawing∈ds))=false:=by rw[hany,List.drop_eq_nil_of_le (by omega)];rfl
    have c4:=yd (G:=G) l ds s2 (by omega) (by omega) hit;by_cases hc:0<(o6 l ds).2.length
    ·have h21:G9 l=(21,[]):=by unfold G9;rw[if_neg hrange,hds];simp only;rw[if_neg hd20,if_neg (by rw[hall];decide),if_pos hc]
     simp only[hc] at c4;have hs:=hlt;repeat' first|(with_reducible first|refine zz ?_|refine zr ?_)|(first|refine zp c4 ?_|with_reducible refine zE Le ?_);try simp -dsimp[hs]|refine i7 ?_ ?_<;>intro h<;>try exact h.elim
     all_goals try simp -dsimp[hs]
     all_goals try clear hs
     all_goals simp[O7,h21]
    simp only[hc] at c4;have hE:G9 l=if (o6 l ds).1.any (λp=>decide (6<p.2)) then (20,[]) else (0,ds):=by unfold G9;rw[if_neg hrange,hds];simp only;rw[if_neg hd20,if_neg (by rw[hall];decide),if_neg hc]
    have hs:=hlt;repeat' first|with_reducible refine zz ?_|(first|refine zp c4 ?_|with_reducible refine zE Le ?_);try simp -dsimp[hs]|refine i7 ?_ ?_<;>intro h<;>try exact h.elim
    all_goals try simp -dsimp[hs]
    all_goals try clear hs
    refine g9 (ι:={ p:List (Int×Int)×Option (List Value×List IC) // (o6 l ds).1.any (λq=>decide (6<q.2))=p.1.any (λq=>decide (6<q.2)) }) (λp=>⟨122,[(2,.one (.im (.raw (.pointer none)))),(3,iv 0),(4,.one (.im (.ip [s8 l ds]))),(114,.one (.itr 0))],[.iter (Z8 p.1.1) p.1.2]⟩) (λp=>p.1.1.length) ⟨((o6 l ds).1,none),rfl⟩ (zv [2,3,4,114]) ?_;rintro⟨⟨left,cur⟩,hleft⟩;simp only[iv];simp only at hleft;have hs:=trivial;repeat' first|(with_reducible first|refine zz ?_|refine zr ?_)|with_reducible refine zE Le ?_;try simp -dsimp[hs]|refine i7 ?_ ?_<;>intro h<;>try exact h.elim|with_reducible refine rh (λh=>?_);(try simp only[List.map_eq_nil_iff] at h);(try subst h);try simp -dsimp[hs]|with_reducible refine And.intro ?_ ?_
    all_goals try simp -dsimp[hs]
    all_goals try clear hs
    ·have hl0:left=[]:=by simpa[Z8] using ‹Z8 left=[]›
     rw[hl0] at hleft;have h0:G9 l=(0,ds):=by rw[hE,hleft];rfl
     simp[O7,h0]
    ·intro i a b hi;obtain⟨p,hp,rfl,rfl⟩:=uI hi;rw[pw];by_cases h6:6<p.2
     ·have h20:G9 l=(20,[]):=by rw[hE,hleft,if_pos (List.any_eq_true.2 ⟨p,List.mem_of_getElem? hp,by simpa using h6⟩)]
      have hs:=h6;repeat' first|(with_reducible first|refine zz ?_|refine zr ?_)|with_reducible refine zE Le ?_;try simp -dsimp[hs]|refine i7 ?_ ?_<;>intro h<;>try exact h.elim
      all_goals try simp -dsimp[hs]
      all_goals try clear hs
      all_goals simp[O7,h20]
     ·have hl1:left.any (λq=>decide (6<q.2))=(left.eraseIdx i).any (λq=>decide (6<q.2)):=vf hp (by simpa using h6);have hlen:(left.eraseIdx i).length<left.length:=by
       have:=e7 hp;rw[List.length_eraseIdx];split<;>omega
      have hs:=h6;repeat' first|with_reducible refine zz ?_|with_reducible refine zE Le ?_;try simp -dsimp[hs]|refine i7 ?_ ?_<;>intro h<;>try exact h.elim
      all_goals try simp -dsimp[hs]
      all_goals try clear hs
      exact At.round ⟨(left.eraseIdx i,some (kI p.1,[rI p.2])),hleft.trans hl1⟩ hlen (zv [2,3,4,114])
def s9 (G:Hn):Prop:=G 4=some [.fn (.func 315) [],.fn (.func 316) [],.fn (.func 317) [],.fn (.func 318) []]
def T6 (l:List Issue):Prop:=l.length<=80/\∀ x∈l,0<=x.kind/\x.kind<=255/\x.items.length<=16/\x.dims.length<=8
def bt (l:List Issue):DV:=if j8 l=0 then .one (.im (s8 l (nums l))) else .one (.im (.raw (.pointer none)))
theorem yn (l:List Issue):ImV (bt l):=by unfold bt;split<;>simp[s8]
attribute [simp] yn
theorem qH (l:List Issue):O7 l=bt l:=by
 obtain⟨h1,h2⟩:=bM l;unfold O7 bt;rw[h1] at h2 ⊢;split
 ·rw[(h2 ‹_›).1]
 ·rfl
theorem fX (l:List Issue) (hG:s9 G) (hs:T6 l) (objs:List DObj):DCall prog G 151 [A6 l] objs (λrr objs'=>rr=.tup [bt l,iv (j8 l)]/\objs'=objs):=by
 have h:=Ct (G:=G) l hG (by have:=hs.1;omega) (λx hx=>by have:=hs.2 x hx;omega) objs;rw[qH,(bM l).1] at h;exact h
theorem D8 {l:List Issue} (h:j8 l=0):q9 l=true:=((bM l).2 (by rw[(bM l).1];exact h)).2
theorem F7 {l:List Issue} (h:q9 l=true):o7 none l=some (nums l):=by
 simp only[q9,Bool.and_eq_true] at h;obtain⟨ds,hds⟩:=Option.isSome_iff_exists.1 h.1.1.2;rw[hds,gX hds]
theorem bX {l:List Issue} (h:j8 l=0):(l.map (·.drawing)).Pairwise (·<=·):=(I2 (F7 (D8 h))).2.2.2.2
theorem C0 {l:List Issue} (h:j8 l=0):(nums l).Pairwise (· < ·)/\∀ x∈l,x.drawing∈nums l:=⟨(I2 (F7 (D8 h))).2.1,(I2 (F7 (D8 h))).2.2.1⟩
theorem nm (l:List Issue) (hG:s9 G) (hs:T6 l):zP prog G 268 [A6 l] (iv (j8 l)):=by
 refine zf func268 ntmps268 ?_;try simp only[A6]
 have c1:=fX l hG hs;have hs:=trivial;repeat' first|(with_reducible first|refine zz ?_|refine zr ?_|refine zE [0,1,2,4] ?_)|simp -dsimp[hs]|refine zp c1 ?_
 all_goals try clear hs
def dl (l:List Issue):List Int:=if j8 l=0 then nums l else []
theorem bT (l:List Issue) (hG:s9 G) (hs:T6 l):zP prog G 104 [A6 l] (.tup [n9 (dl l),iv (j8 l)]):=by
 refine zf func104 ntmps104 ?_;try simp only[A6]
 have c1:=fX l hG hs;by_cases h0:j8 l=0
 ·simp only[bt,h0,if_true,s8] at c1;have hs:=trivial;repeat' first|(with_reducible first|refine zz ?_|refine zr ?_|refine zE [0,1,2,3,4,5,12] ?_)|simp -dsimp[hs]|refine zp c1 ?_|refine i7 ?_ ?_<;>intro h<;>try exact h.elim
  all_goals try clear hs
  simp[dl,h0]
 ·simp only[bt,h0,if_false] at c1;have hs:=h0;repeat' first|(with_reducible first|refine zz ?_|refine zr ?_|refine zE [0,1,2,3,4,5,12] ?_)|simp -dsimp[hs]|refine zp c1 ?_|refine i7 ?_ ?_<;>intro h<;>try exact h.elim
  all_goals try clear hs
  all_goals simp[dl,h0]
def atR (l:List Issue) (d lt:Int):Issue:=if j8 l=0 then (o2 l d lt).getD J1 else J1
def zd (l:List Issue) (d lt:Int):Int:=if j8 l≠0 then j8 l else if (o2 l d lt).isSome then 0 else 6
@[simp] abbrev Jc:List Nat:=[0,1,2,3,4,5,6,7,8,9,16,26]
theorem Bg (l:List Issue) (d lt:Int) (hG:s9 G) (hs:T6 l):zP prog G 93 [A6 l,B1 d lt] (.tup [J5 (atR l d lt),iv (zd l d lt)]):=by
 refine zf func93 ntmps93 ?_;try simp only[A6,B1]
 have c1:=fX l hG hs;by_cases h0:j8 l=0
 ·simp only[bt,h0,if_true] at c1;have c2:=td (G:=G) l (nums l) d lt (bX h0) (by have:=hs.1;omega);simp only[B1] at c2;cases hf:o2 l d lt with
  | none =>
    simp only[hf,Option.isSome_none,Option.getD_none] at c2;have hs:=trivial;repeat' first|(with_reducible first|refine zz ?_|refine zr ?_|refine zE Jc ?_)|simp -dsimp[hs]|refine zp c1 ?_|refine zp c2 ?_|refine i7 ?_ ?_<;>intro h<;>try exact h.elim
    all_goals try clear hs
    all_goals simp[atR,zd,h0,hf,J1]
  | some y =>
    simp only[hf,Option.isSome_some,Option.getD_some] at c2;have hy:y∈l:=List.mem_of_find?_eq_some hf;have c3:=ye (G:=G) y (hs.2 y hy).2.2.1 (hs.2 y hy).2.2.2;have hs:=trivial;repeat' first|(with_reducible first|refine zz ?_|refine zr ?_|refine zE Jc ?_)|simp -dsimp[hs]|refine zp c1 ?_|refine zp c2 ?_|refine zp c3 ?_|refine i7 ?_ ?_<;>intro h<;>try exact h.elim
    all_goals try clear hs
    all_goals simp[atR,zd,h0,hf]
 ·simp only[bt,h0,if_false] at c1;have hs:=h0;repeat' first|(with_reducible first|refine zz ?_|refine zr ?_|refine zE Jc ?_)|simp -dsimp[hs]|refine zp c1 ?_|refine i7 ?_ ?_<;>intro h<;>try exact h.elim
  all_goals try clear hs
  all_goals simp[atR,zd,h0,J1]
end Go.Proofs
