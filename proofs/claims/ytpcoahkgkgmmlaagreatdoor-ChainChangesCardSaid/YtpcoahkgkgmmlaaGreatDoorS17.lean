/- Part 17 of the proofs. -/
import Derived.Test.YtpcoahkgkgmmlaaGreatDoorS09
import Derived.Test.YtpcoahkgkgmmlaaGreatDoorS16
set_option linter.all false
set_option linter.deprecated false
set_option maxHeartbeats 100000000
namespace Go.Proofs
open Go Go.Ab
def BS (l:List Spot) (set:Nat):Nat→List Spot
 | 0=>[]
 | k+1=>BS l set k++(match l[k]? with
   | some x=>if set.testBit k then [x] else []
   | none=>[])
def BZ:List Spot→List Spot→Bool
 | a :: l,b :: m=>if a=b then BZ l m else F5 a b
 | _,_=>false
def vp (a b:List Spot):Bool:=decide (a.length<b.length)||(decide (a.length=b.length)&&BZ a b)
def yO (best:Option (List Spot)) (x:List Spot):Bool:=match best with
 | none=>true
 | some b=>vp x b
def BH (good:List Spot→Bool) (best:Option (List Spot)) (x:List Spot):Option (List Spot):=if yO best x&&good x then some x else best
def Af (all:List Spot) (k:Nat):List (List Spot):=(List.range k).map fun s=>BS all s all.length
def js (l:List Spot):Spot→Bool:=fun x=>decide (x∈l)
def Ci (c:Chains) (x:List Spot):Bool:=yP c (js x) 0
def wv (c:Chains) (b0:Option (List Spot)) (k:Nat):Option (List Spot):=(Af (w8 c) k).foldl (BH (Ci c)) b0
def Dj (c:Chains):Option (List Spot):=wv c none (2 ^ (w8 c).length)
open Go Go.Ab Tryz
variable {G:Es}
theorem vT (d:Dim):zP prog G 100 [H1 d] (iv (Z9 d)):=by
 refine zf func100 ntmps100 ?_
 try simp only[H1]
 repeat' first|(with_reducible first|refine zz ?_|refine zx ?_|refine zE [0,1,2] ?_)|simp -dsimp
 simp[Z9]
theorem rR (d:Dim) (g:Int) (hd:D8 d=true) (h0:0≤g) (h1:g≤2000000000):zP prog G 47 [H1 d,iv g] (H1 (W0 d g)):=by
 refine zf func47 ntmps47 ?_
 try simp only[H1,iv]
 have c1:=vT (G:=G) d
 have hdl:=(M7 d).1 hd
 have hm:0≤Z9 d∧Z9 d≤1000000000:=by unfold Z9;omega
 have hw1:IntKind.i64.wrap (Z9 d-g)=Z9 d-g:=u7 (by omega) (by omega)
 have hw2:IntKind.i64.wrap (Z9 d+g)=Z9 d+g:=u7 (by omega) (by omega)
 simp only[H1,l6,List.map_cons,List.map_nil] at c1
 have hs:=za hw1 hw2
 repeat' first|(with_reducible first|refine zz ?_|refine zr ?_|refine zE [0,1,2,4,5] ?_)|simp -dsimp[hs]|refine zp c1 ?_
 all_goals simp[W0]
def SoF (G:Es) (c:Chains) (fv:IC) (so:Spot→Bool):Prop:=
 (∃ (f:FuncId) (caps:List IC),fv=.fn (.func f) caps∧L4 prog f∧∀ x∈E5 c,∀ objs,DCall prog G f (D7 x.drawing x.dim :: caps.map fun c=>.one (.im c)) objs (fun d o=>d=bv (so x)∧o=objs)) ∨
 (∃ (f:FuncId) (l:List IC),fv=.bf (.func f) l∧L4 prog f∧∀ x∈E5 c,∀ objs,DCall prog G f ((l.map fun c=>DV.one (.im c))++[D7 x.drawing x.dim]) objs (fun d o=>d=bv (so x)∧o=objs))
def ei:List Int→Int
 | []=>0
 | x :: r=>if x=0 then ei r else x
theorem vM (l:List Int) (hl:l.length<1000000):zP prog G 90 [H0 l] (iv (ei l)):=by
 refine zf func90 ntmps90 ?_
 try simp only[H0]
 have hs:=trivial
 repeat' first|(with_reducible first|refine zz ?_|refine zE [0,2,3,5,6,7,8,9,14] ?_)|simp -dsimp[hs]
 refine j7 (ι:={ p:Nat // p≤l.length∧ei l=ei (l.drop p) }) (fun p=>⟨18,[(3,iv 0),(6,.one (.im (.sl (l.map encI)))),(7,iv (l.length:Int)),(8,iv (p.1:Int))],[]⟩) (fun p=>l.length-p.1) ⟨0,by simp⟩ (zv [3,6,7,8]) ?_
 rintro⟨k,hk,hu⟩
 simp only[iv]
 by_cases hlt:k<l.length
 ·have hw:=zk k
  rw[List.drop_eq_getElem_cons hlt,ei] at hu
  generalize hx:l[k]=x at *
  have hs:=za hx (za hw hlt)
  repeat' first|(with_reducible first|refine zz ?_|refine zr ?_|refine zE [0,2,3,5,6,7,8,9,14] ?_)|simp -dsimp[hs]|refine m5 ?_ ?_<;>intro h<;>try simp only[l8] at h
  ·rw[hu,if_neg (by assumption)]
  ·rw[if_pos (by assumption)] at hu
   exact zn ⟨k+1,by omega,hu⟩ (zv [3,6,7,8])
 ·rw[List.drop_eq_nil_of_le (by omega)] at hu
  have hs:=hlt
  repeat' first|(with_reducible first|refine zz ?_|refine zr ?_|refine zE [0,2,3,5,6,7,8,9,14] ?_)|simp -dsimp[hs]|refine m5 ?_ ?_<;>intro h<;>try simp only[l8] at h
  rw[hu];rfl
def fL (a b:Spot):Int:=ei [cz a.drawing b.drawing,cz a.dim b.dim]
theorem fK {a b:Spot}:fL a b<0↔F5 a b=true:=by
 rw[ap]
 unfold fL cz ei ei ei
 repeat' split
 all_goals omega
theorem mY (a b:Spot):zP prog G 42 [D7 a.drawing a.dim,D7 b.drawing b.dim] (iv (fL a b)):=by
 refine zf func42 ntmps42 ?_
 try simp only[D7,D7]
 have c1:=iy (G:=G) a.drawing b.drawing
 have c2:=iy (G:=G) a.dim b.dim
 have c3:=vM (G:=G) [cz a.drawing b.drawing,cz a.dim b.dim] (by simp)
 have hE:fL a b=ei [cz a.drawing b.drawing,cz a.dim b.dim]:=rfl
 rw[← hE] at c3
 repeat' first|(with_reducible first|refine zz ?_|refine zx ?_)|simp -dsimp|refine zq c1 ?_|refine zq c2 ?_|refine zq c3 ?_|refine zM 1 17 13 [0,1,2,3,4] ?_|with_reducible refine zE [0,1,2,3,4] ?_
theorem jO (X:IC):zP prog G 40 [.one (.im X)] (.one (.im (.fn (.func 86) [.ip [X]]))):=by
 refine zf func40 ntmps40 ?_
 try simp only[iv]
 repeat' first|(with_reducible first|refine zz ?_|refine zx ?_|refine zE [0,1,2] ?_)|simp -dsimp
def aO (G:Es):Prop:=∀ (l:List Spot) (gn sz:Nat) (nl:Bool),(sz=2∨nl=true∧l=[])→l.length<1000000 →
 DCall prog G 88 [.one (.vec 0 gn 0 l.length),.one (.im (.fn (.func 42) []))] [.vec sz (o7 (l.map m6)) gn nl] (fun d o=>d=.tup []∧∃ l':List Spot,l'.Perm l∧(l'.Pairwise fun a b=>¬ fL b a<0)∧o=[.vec sz (o7 (l'.map m6)) gn nl])
theorem sX {l' l:List Spot} (hp:l'.Perm l) (hn:l.Nodup) (h:l'.Pairwise fun a b=>¬ fL b a<0):SortedS l':=by
 have hn':l'.Nodup:=hp.symm.nodup hn
 unfold SortedS
 refine(List.Pairwise.and h hn').imp fun {a b} ⟨h1,h2⟩=>?_
 rw[fK] at h1
 exact(kZ h2).resolve_right h1
theorem ij:∀ (ys l:List Spot),(ys.foldl (fun l x=>I9 x l) l).length≤l.length+ys.length
 | [],l=>by simp
 | y :: ys,l=>by
   have:=ij ys (I9 y l)
   have h1:(I9 y l).length≤l.length+1:=by unfold I9;split<;>simp
   rw[List.foldl_cons,List.length_cons];omega
theorem gK:∀ (ls:List ChLoop),(∀ x∈ls,x.links.length≤12)→(ls.flatMap fun x=>x.links.map x4).length≤12*ls.length
 | [],_=>by simp
 | x :: ls,h=>by
   have h1:=h x (by simp)
   have h2:=gK ls fun y hy=>h y (by simp[hy])
   rw[List.flatMap_cons,List.length_append,List.length_map,List.length_cons];omega
theorem kf {α:Type} {y:α}:∀ {l:List α} {i:Nat},l[i]?=some y→(y :: l.eraseIdx i).Perm l
 | [],i,h=>by simp at h
 | x :: l,0,h=>by simp at h;subst h;simp
 | x :: l,i+1,h=>by
   rw[List.eraseIdx_cons_succ]
   exact(List.Perm.swap x y _).trans ((kf (by simpa using h)).cons x)
theorem px (c:Chains) (D:List (Int×Int)) (hOk:OkC c) (hsm:w9 c) (hSF:aO G):zP prog G 85 [.one (.im (.raw (.slice none 0 0))),.one (.im (.fn (.func 86) [.ip [n9 c D (C9 c.reg c.lets)]]))] (.one (.im (.sl ((w8 c).map m6)))):=by
 refine zf func85 ntmps85 ?_
 try simp only[iv]
 simp only[n9]
 have hs:=trivial
 repeat' first|(with_reducible first|refine zz ?_|refine zE [0,1,2,4,5,6,7] ?_)|simp -dsimp[hs]
 all_goals try clear hs
 refine cm (Weak.nilCell 0 0 rfl rfl) ?_
 have hs:True:=trivial
 all_goals try simp -dsimp[hs]
 all_goals try clear hs
 refine R2 (f:=86) (by simp;exact rfl) (by rfl) call86 ?_
 generalize hR:LoopD.mk _ _ _ _ _ _ _=R
 have hR1:R.st=.ready:=by rw[← hR]
 have hR2:R.pend=none:=by rw[← hR]
 have hR3:R.at .ready none=R:=by rw[← hR];rfl
 have hR4:=(congrArg LoopD.nt hR).symm
 have hR5:=(congrArg LoopD.tm hR).symm
 have hR6:=(congrArg LoopD.ps hR).symm
 have hR7:=(congrArg LoopD.asg hR).symm
 have hR8:=(congrArg LoopD.body hR).symm
 dsimp only at hR4 hR5 hR6 hR7 hR8
 clear hR
 refine l5 func86 rfl ntmps86 (by simp) rfl ?_
 have hR9:∀ objs:List DObj,(R.tm.map fun x=>(x.1,aK 5 objs x.2))=R.tm:=by intro objs;rw[hR5];simp
 have hs:=za hR1 (za hR2 hR3)
 repeat' first|(with_reducible first|refine zz ?_|refine zE [0,1,2,3,4,5,6,7,8,9,10,12,18,19,20,21,25,26,27,28,37,39,50,54,56,65,66,67,68,74] ?_)|simp -dsimp[hs]
 all_goals try clear hs
 refine j7 (ι:={ p:Nat×List Spot // p.1≤c.loops.length∧((c.loops.drop p.1).flatMap fun x=>x.links.map x4).foldl (fun l x=>I9 x l) p.2=(E5 c).foldl (fun l x=>I9 x l) [] }) (fun p=>⟨76,[(0,.one (.yld 3)),(1,.one (.im (.ip [n9 c D (C9 c.reg c.lets)]))),(3,.one (.map 4)),(18,.one (.im (.sl (c.loops.map j5)))),(19,iv (c.loops.length:Int)),(20,iv (p.1.1:Int))],[.row [.vec 2 0 0 0],.vec 2 [] 0 true,.vec 0 [] 0 true,.loop R,.map [.int .i64,.int .i64] (Q9 p.1.2)]⟩) (fun p=>c.loops.length-p.1.1) ⟨(0,[]),by simp[E5]⟩ (zv [0,1,3,18,19,20] (by simp[n9,Q9])) ?_
 rintro⟨⟨i,L⟩,hi,hL⟩
 simp only at hi hL
 simp only[iv,n9]
 by_cases hlt:i<c.loops.length
 ·have hx:c.loops[i]?=some c.loops[i]:=by simp[hlt]
  have hw:IntKind.i64.wrap ((i:Int)+1)=((i+1:Nat):Int):=u7 (by omega) (by have:=hsm.2.2.1;omega)
  rw[List.drop_eq_getElem_cons hlt,List.flatMap_cons,List.foldl_append] at hL
  have hln:=hsm.2.2.2 c.loops[i] (List.getElem_mem hlt)
  generalize hxe:c.loops[i]=x at *
  have hs:=za hR1 (za hR2 (za hR3 (za hx (za hlt hxe))))
  repeat' first|(with_reducible first|refine zz ?_|refine zE [0,1,2,3,4,5,6,7,8,9,10,12,18,19,20,21,25,26,27,28,37,39,50,54,56,65,66,67,68,74] ?_)|simp -dsimp[hs]|refine m5 ?_ ?_<;>intro h<;>try simp only[l8] at h
  all_goals try clear hs
  refine j7 (ι:={ p:Nat×List Spot // p.1≤x.links.length∧((x.links.drop p.1).map x4).foldl (fun l x=>I9 x l) p.2=(x.links.map x4).foldl (fun l x=>I9 x l) L }) (fun p=>⟨76,[(0,.one (.yld 3)),(1,.one (.im (.ip [n9 c D (C9 c.reg c.lets)]))),(3,.one (.map 4)),(18,.one (.im (.sl (c.loops.map j5)))),(19,iv (c.loops.length:Int)),(20,iv (i:Int)),(25,.one (.im (.sl (x.links.map C2)))),(26,iv (x.links.length:Int)),(27,iv (p.1.1:Int))],[.row [.vec 2 0 0 0],.vec 2 [] 0 true,.vec 0 [] 0 true,.loop R,.map [.int .i64,.int .i64] (Q9 p.1.2)]⟩) (fun p=>x.links.length-p.1.1) ⟨(0,L),by simp⟩ (zw [0,1,3,18,19,20,25,26,27] 5 (by clear hR4 hR5 hR6 hR7 hR8;simp[n9,hR1,hR2,hR3,hR9,LoopD.at_eta])) ?_
  rintro⟨⟨u,L'⟩,hu,hL'⟩
  simp only at hu hL'
  simp only[iv,n9]
  by_cases hlu:u<x.links.length
  ·have hy:x.links[u]?=some x.links[u]:=by simp[hlu]
   have hwu:=zk u
   have c2:=Ae (G:=G) x.links[u]
   rw[List.drop_eq_getElem_cons hlu,List.map_cons,List.foldl_cons] at hL'
   have hput:=Az L' x.links[u].drawing x.links[u].dim
   have hsp:I9 (x4 x.links[u]) L'=I9 ⟨x.links[u].drawing,x.links[u].dim⟩ L':=rfl
   rw[hsp] at hL'
   simp only[D7,kx,C2,List.map_cons,List.map_nil] at c2
   have hs:=za hR1 (za hR2 (za hR3 (za hy (za hlu (za hwu hput)))))
   repeat' first|(with_reducible first|refine zz ?_|refine zE [0,1,2,3,4,5,6,7,8,9,10,12,18,19,20,21,25,26,27,28,37,39,50,54,56,65,66,67,68,74] ?_)|simp -dsimp[hs]|refine zp c2 ?_|refine m5 ?_ ?_<;>intro h<;>try simp only[l8] at h
   all_goals try clear hs
   exact zn ⟨(u+1,I9 ⟨x.links[u].drawing,x.links[u].dim⟩ L'),by omega,hL'⟩ (zw [0,1,3,18,19,20,25,26,27] 5 (by clear hR4 hR5 hR6 hR7 hR8;simp[n9,hR1,hR2,hR3,hR9,LoopD.at_eta]))
  ·rw[List.drop_eq_nil_of_le (by omega)] at hL'
   have hLn:L'=(x.links.map x4).foldl (fun l x=>I9 x l) L:=hL'
   rw[← hLn] at hL
   have hs:=za hR1 (za hR2 (za hR3 (za hlu hw)))
   repeat' first|(with_reducible first|refine zz ?_|refine zE [0,1,2,3,4,5,6,7,8,9,10,12,18,19,20,21,25,26,27,28,37,39,50,54,56,65,66,67,68,74] ?_)|simp -dsimp[hs]|refine m5 ?_ ?_<;>intro h<;>try simp only[l8] at h
   all_goals try clear hs
   exact zn ⟨(i+1,L'),by omega,hL⟩ (zv [0,1,3,18,19,20] (by simp[n9]))
 rw[List.drop_eq_nil_of_le (by omega)] at hL
 have hL0:L=(E5 c).foldl (fun l x=>I9 x l) []:=hL
 have hnd:L.Nodup:=by rw[hL0];exact cU _ _ (by simp)
 have hs:=za hR1 (za hR2 (za hR3 hlt))
 repeat' first|(with_reducible first|refine zz ?_|refine zE [0,1,2,3,4,5,6,7,8,9,10,12,18,19,20,21,25,26,27,28,37,39,50,54,56,65,66,67,68,74] ?_)|simp -dsimp[hs]|refine m5 ?_ ?_<;>intro h<;>try simp only[l8] at h
 all_goals try clear hs
 intro l c0 b hll hln hlc
 rw[wz] at hll
 have hP1:(L.zip l).map (·.1)=L:=List.map_fst_zip (by omega)
 have hP2:(L.zip l).map (·.2)=l:=List.map_snd_zip (by omega)
 have hPn:((L.zip l).map (·.2)).Nodup:=by rw[hP2];exact hln
 generalize L.zip l=P at *
 subst hP1
 subst hP2
 have hs:=trivial
 repeat' first|with_reducible refine zz ?_|simp -dsimp[hs]
 all_goals try clear hs
 obtain⟨f,hf⟩:∃ f,f=aW (C9 c.reg c.lets):=⟨_,rfl⟩
 have hR8':∀ objs:List DObj,(R.tm.map fun x=>(x.1,aK 6 objs x.2))=R.tm:=by intro objs;rw[hR5];simp
 have hR4':∀ objs:List DObj,(R.tm.map fun x=>(x.1,aK 4 objs x.2))=R.tm:=by intro objs;rw[hR5];simp
 refine zA ⟨76,[(0,.one (.yld 3)),(1,.one (.im (.ip [n9 c D (C9 c.reg c.lets)]))),(3,.one (.im (.mp [.int .i64,.int .i64] (cW ((P.map (·.1)).filter f)))))],[.row [.vec 2 0 0 0],.vec 2 [] 0 true,.vec 0 [] 0 true,.loop R]⟩ ?_ ?_
 refine j7 (ι:={ p:List Nat×List Nat×List Spot // p.2.1=(Q7 f P p.1).map (·.2)∧p.2.2=(Q7 f P p.1).map (·.1) }) (fun p=>⟨76,[(0,.one (.yld 3)),(1,.one (.im (.ip [n9 c D (C9 c.reg c.lets)]))),(3,.one (.map 4)),(37,.one (.itr 5))],[.row [.vec 2 0 0 0],.vec 2 [] 0 true,.vec 0 [] 0 true,.loop R,.map [.st p.1.2.1 c0 b,.int .i64,.int .i64] (Q9 p.1.2.2),.liter b p.1.1 c0]⟩) (fun p=>mP P p.1.1) ⟨([],P.map (·.2),P.map (·.1)),by simp[tH]⟩ (zv [0,1,3,37] (by simp[n9])) ?_
 rintro⟨⟨seen,l,K⟩,hl,hK⟩
 simp only at hl hK
 simp only[n9]
 have hs:=za hR1 (za hR2 hR3)
 repeat' first|(with_reducible first|refine zz ?_|refine zE [0,1,2,3,4,5,6,7,8,9,10,12,18,19,20,21,25,26,27,28,37,39,50,54,56,65,66,67,68,74] ?_)|simp -dsimp[hs]|refine m5 ?_ ?_<;>intro h<;>try simp only[l8] at h|with_reducible refine S9 (fun h=>?_);(try simp only[List.map_eq_nil_iff] at h);(try subst h);try simp -dsimp[hs]|with_reducible refine And.intro ?_ ?_
 all_goals try clear hs
 ·have hend:K=(P.map (·.1)).filter f:=by rw[hK];exact tI (by rw[← hl];assumption)
  have hKn:K.Nodup:=by rw[hend];exact hnd.filter _
  exact⟨rfl,Weak.of_drop [0,1,3] 4 (by simp) (by simp) (by clear hR4 hR5 hR6 hR7 hR8;simp[n9,hend,hR1,hR2,hR3,hR4',LoopD.at_eta])⟩
 ·intro i s xa xb hx hs1 hns
  obtain⟨y,hy,rfl,rfl⟩:=ud hx
  have hgP:(Q7 f P seen)[i]?=some (y,s):=by
   rw[hK,List.getElem?_map,Option.map_eq_some_iff] at hy
   rw[hl,List.getElem?_map,Option.map_eq_some_iff] at hs1
   obtain⟨p,hp1,hp2⟩:=hy
   obtain⟨q,hq1,hq2⟩:=hs1
   rw[hp1] at hq1
   cases hq1
   rw[hp1,← hp2,← hq2]
  have hmem:(y,s)∈P:=(List.mem_filter.1 (List.mem_of_getElem? hgP)).1
  have hlt2:=sN hmem hns
  have hln2:l.Nodup:=by rw[hl];exact(hPn.sublist ((List.filter_sublist).map _))
  have hKn:K.Nodup:=by rw[hK];exact(hnd.sublist ((List.filter_sublist).map _))
  have hidx:=oX hln2 hs1
  have hmi:=qB hKn hy
  have hmd:=AA hKn hy
  by_cases hk3:(p4 (C9 c.reg c.lets) y.drawing).kind=3
  ·have hfy:f y=false:=by rw[hf];simp[aW,hk3]
   have hd:=tJ (f:=f) hPn hgP hfy
   have hl2:l.eraseIdx i=(Q7 f P (seen++[s])).map (·.2):=by rw[hd,fS,← hl]
   have hK2:K.eraseIdx i=(Q7 f P (seen++[s])).map (·.1):=by rw[hd,fS,← hK]
   have hs:=za hR1 (za hR2 (za hR3 (za hx (za hidx (za hk3 (za hmi hmd))))))
   repeat' first|with_reducible refine zz ?_|simp -dsimp[hs]|refine zM 13 76 9 [0,1,3,5,7,8,9,10,12,18,19,20,21,25,26,27,28,37,39,50,54,56,65,66,67,68,74] ?_|with_reducible refine zE [0,1,2,3,4,5,6,7,8,9,10,12,18,19,20,21,25,26,27,28,37,39,50,54,56,65,66,67,68,74] ?_|refine m5 ?_ ?_<;>intro h<;>try simp only[l8] at h
   all_goals try clear hs
   exact At.round ⟨(seen++[s],l.eraseIdx i,K.eraseIdx i),hl2,hK2⟩ hlt2 (zw [0,1,3,37] 6 (by clear hR4 hR5 hR6 hR7 hR8;simp[n9,hR1,hR2,hR3,hR8',LoopD.at_eta]))
  ·have hfy:f y=true:=by rw[hf];simp[aW,hk3]
   have hd:=qD (f:=f) (seen:=seen) hPn hmem hfy
   have hl2:l=(Q7 f P (seen++[s])).map (·.2):=by rw[hd,← hl]
   have hK2:K=(Q7 f P (seen++[s])).map (·.1):=by rw[hd,← hK]
   have hs:=za hR1 (za hR2 (za hR3 (za hx (za hidx (za hk3 (za hmi hmd))))))
   repeat' first|with_reducible refine zz ?_|simp -dsimp[hs]|refine zM 13 76 9 [0,1,3,5,7,8,9,10,12,18,19,20,21,25,26,27,28,37,39,50,54,56,65,66,67,68,74] ?_|with_reducible refine zE [0,1,2,3,4,5,6,7,8,9,10,12,18,19,20,21,25,26,27,28,37,39,50,54,56,65,66,67,68,74] ?_|refine m5 ?_ ?_<;>intro h<;>try simp only[l8] at h
   all_goals try clear hs
   exact At.round ⟨(seen++[s],l,K),hl2,hK2⟩ hlt2 (zw [0,1,3,37] 6 (by clear hR4 hR5 hR6 hR7 hR8;simp[n9,hR1,hR2,hR3,hR8',LoopD.at_eta]))
 have hKn:((P.map (·.1)).filter f).Nodup:=hnd.filter _
 have hKf:(P.map (·.1)).filter f=((E5 c).foldl (fun l x=>I9 x l) []).filter (aW (C9 c.reg c.lets)):=by rw[hL0,hf]
 have hKl:((P.map (·.1)).filter f).length≤1000:=by
  have h1:=List.length_filter_le f (P.map (·.1))
  have h2:=ij (E5 c) []
  have h3:=gK c.loops hsm.2.2.2
  have h4:=hsm.2.2.1
  rw[← hL0] at h2
  simp only[E5,List.length_nil] at h2
  omega
 generalize (P.map (·.1)).filter f=K at *
 have hs:=za hR1 (za hR2 hR3)
 repeat' first|(with_reducible first|refine zz ?_|refine zE [0,1,2,3,4,5,6,7,8,9,10,12,18,19,20,21,25,26,27,28,37,39,50,54,56,65,66,67,68,74] ?_)|simp -dsimp[hs]
 all_goals try clear hs
 refine j7 (ι:={ p:List Spot×Option (List Value×List IC)×Nat×Bool×List Spot // (p.2.2.2.2++p.1).Perm K }) (fun p=>⟨76,[(0,.one (.yld 3)),(9,.one (.vec 4 p.1.2.2.1 0 p.1.2.2.2.2.length)),(54,.one (.itr 5))],[.row [.vec 2 0 0 0],.vec 2 [] 0 true,.vec 0 [] 0 true,.loop R,.vec 2 (o7 (p.1.2.2.2.2.map m6)) p.1.2.2.1 p.1.2.2.2.1,.iter (cW p.1.1) p.1.2.1]⟩) (fun p=>p.1.1.length) ⟨(K,none,0,true,[]),by simp⟩ (zv [0,9,54]) ?_
 rintro⟨⟨left,cur,gn,nl,out⟩,hpm⟩
 simp only at hpm
 have hol:out.length+left.length≤1000:=by
  have:=hpm.length_eq
  rw[List.length_append] at this;omega
 have hs:=za hR1 (za hR2 hR3)
 repeat' first|(with_reducible first|refine zz ?_|refine zE [0,1,2,3,4,5,6,7,8,9,10,12,18,19,20,21,25,26,27,28,37,39,50,54,56,65,66,67,68,74] ?_)|simp -dsimp[hs]|refine m5 ?_ ?_<;>intro h<;>try simp only[l8] at h|with_reducible refine S9 (fun h=>?_);(try simp only[List.map_eq_nil_iff] at h);(try subst h);try simp -dsimp[hs]|with_reducible refine And.intro ?_ ?_
 all_goals try clear hs
 ·have hl0:left=[]:=by simpa[cW] using ‹cW left=[]›
  rw[hl0,List.append_nil] at hpm
  have hon:out.Nodup:=hpm.symm.nodup hKn
  have c5:DCall prog G 88 [.one (.vec 0 gn 0 out.length),.one (.im (.fn (.func 42) []))] [.vec 2 (o7 (out.map m6)) gn nl] (fun d o=>d=.tup []∧o=[.vec 2 (o7 ((w8 c).map m6)) gn nl]):=
   (hSF out gn 2 nl (.inl rfl) (by omega)).mono fun d o ⟨h1,l',h2,h3,h4⟩=>⟨h1,by rw[h4,mS hOk (by rw[← hKf];exact h2.trans hpm) (sX h2 hon h3)]⟩
  have hSl:out.length=(w8 c).length:=by
   have h1:=(jN hOk).length_eq
   have h2:=hpm.length_eq
   rw[h1,h2,hKf]
  generalize w8 c=S at *
  have hSl':S.length≤1000:=by omega
  have hs:=za hR1 (za hR2 hR3)
  repeat' first|(with_reducible first|refine zz ?_|refine zE [0,1,2,3,4,5,6,7,8,9,10,12,18,19,20,21,25,26,27,28,37,39,50,54,56,65,66,67,68,74] ?_)|simp -dsimp[hs]|refine CallE.embed [4] (c5) ?_ ?_ ?_ ?_ ?_ ?_;(focus simp[C4];done);(focus simp;done);(focus simp;done);(focus simp;done);(focus refine A3 ?_;simp[C4,B7];done);try simp -dsimp[s8,C4,hs]
  all_goals try clear hs
  rw[hSl]
  refine j7 (ι:={ p:Nat×Nat×Nat×Bool // p.1≤S.length∧(p.2.2.1=2∨p.2.2.2=true) }) (fun p=>⟨76,[(0,.one (.yld 3)),(65,.one (.im (.sl (S.map m6)))),(66,iv (S.length:Int)),(67,iv (p.1.1:Int))],[.row [.vec 2 p.1.2.1 0 p.1.1],.vec 2 [] 0 true,.vec p.1.2.2.1 (o7 ((S.take p.1.1).map m6)) p.1.2.1 p.1.2.2.2,.loop R]⟩) (fun p=>S.length-p.1.1) ⟨(0,0,0,true),by simp⟩ (zw [0,65,66,67] 4 (by clear hR4 hR5 hR6 hR7 hR8;simp[hR1,hR2,hR3,hR4',LoopD.at_eta])) ?_
  rintro⟨⟨k,gn,sz,nl⟩,hk,hz⟩
  simp only at hk hz
  simp only[iv]
  have htk:(o7 ((S.map m6).take k)).take k=o7 ((S.map m6).take k):=List.take_of_length_le (by simp[p6];omega)
  by_cases hlt:k<S.length
  ·have hx:S[k]?=some S[k]:=by simp[hlt]
   have hw:=zk k
   have hmin:min k S.length=k:=Nat.min_eq_left (by omega)
   have hsn:(S.map m6).take (k+1)=(S.map m6).take k++[m6 S[k]]:=by
    rw[List.take_succ];simp[hx]
   have hs:=za hR1 (za hR2 (za hR3 (za hx (za hw (za hlt (za hz hmin))))))
   repeat' first|(with_reducible first|refine zz ?_|refine And.intro (by omega) ?_|refine zE [0,1,2,3,4,5,6,7,8,9,10,12,18,19,20,21,25,26,27,28,37,39,50,54,56,65,66,67,68,74] ?_)|simp -dsimp[hs]|with_reducible refine At.yield_end ?_;simp -dsimp[hs]|refine ee ?_ ?_<;>simp -dsimp[hs]|refine Z5 ?_;simp -dsimp[W8,hR4,hR5,hR6,hR7,hR8,hs]|refine m5 ?_ ?_<;>intro h<;>try simp only[l8] at h
   all_goals try clear hs
   all_goals try omega
   exact zn ⟨(k+1,gn+1,2,false),by simp;omega⟩ (zw [0,65,66,67] 4 (by clear hR4 hR5 hR6 hR7 hR8;simp[hR1,hR2,hR3,hR4',LoopD.at_eta,hsn,htk,O8]))
  ·have hkl:k=S.length:=by omega
   subst hkl
   have hall:(S.map m6).take S.length=S.map m6:=List.take_of_length_le (by simp)
   rw[hall] at htk
   have hs:=za hR1 (za hR2 (za hR3 (za hall htk)))
   repeat' first|(with_reducible first|refine zz ?_|refine zr ?_ (by simp -dsimp[A6,hs];exact rfl)|refine ze ?_ (by simp -dsimp[A6,hs];exact rfl)|refine zE [0,1,2,3,4,5,6,7,8,9,10,12,18,19,20,21,25,26,27,28,37,39,50,54,56,65,66,67,68,74] ?_)|simp -dsimp[A6,hs]|with_reducible show A6 _ _ _ _ _ _ _ _;simp -dsimp[A6,hs]|refine m5 ?_ ?_<;>intro h<;>try simp only[l8] at h
   all_goals try clear hs
 ·intro i xa xb hi
  obtain⟨y,hy,rfl,rfl⟩:=ue hi
  rw[pf]
  have hlen:(left.eraseIdx i).length<left.length:=by
   have:=g9 hy
   rw[List.length_eraseIdx];split<;>omega
  have hp2:((out++[y])++left.eraseIdx i).Perm K:=by
   refine List.Perm.trans ?_ hpm
   rw[List.append_assoc]
   refine List.Perm.append_left _ ?_
   exact kf hy
  have hs:=za hR1 (za hR2 hR3)
  repeat' first|(with_reducible first|refine zz ?_|refine And.intro (by omega) ?_|refine zE [0,1,2,3,4,5,6,7,8,9,10,12,18,19,20,21,25,26,27,28,37,39,50,54,56,65,66,67,68,74] ?_)|simp -dsimp[hs]|refine m5 ?_ ?_<;>intro h<;>try simp only[l8] at h
  all_goals try clear hs
  all_goals try omega
  exact At.round ⟨(left.eraseIdx i,some ([.int .i64 y.drawing,.int .i64 y.dim],[.raw (.bool true)]),gn+1,false,out++[y]),hp2⟩ hlen (zw [0,9,54] 6 (by clear hR4 hR5 hR6 hR7 hR8;simp[hR1,hR2,hR3,hR8',LoopD.at_eta]))
theorem qM (l:List Spot) (d k:Int) (hl:l.length<1000000):zP prog G 61 [A4 l,D7 d k] (bv (js l ⟨d,k⟩)):=by
 refine zf func61 ntmps61 ?_
 try simp only[D7]
 simp only[A4,D7]
 have hs:=trivial
 repeat' first|(with_reducible first|refine zz ?_|refine zE [0,1,3,4,5,9,17] ?_)|simp -dsimp[hs]
 refine j7 (ι:={ i:Nat // i≤l.length∧js l ⟨d,k⟩=js (l.drop i) ⟨d,k⟩ }) (fun p=>⟨18,[(0,.one (.im (.sl (l.map m6)))),(3,.one (.ptr 0 0)),(5,iv (p.1:Int))],[.row [.im (rI d),.im (rI k)]]⟩) (fun p=>l.length-p.1) ⟨0,by simp⟩ (zv [0,3,5]) ?_
 rintro⟨i,hi,ha⟩
 simp only[iv]
 by_cases hlt:i<l.length
 ·have hx:l[i]?=some l[i]:=by simp[hlt]
  have hw:=zk i
  rw[List.drop_eq_getElem_cons hlt] at ha
  have hst:js (l[i] :: l.drop (i+1)) ⟨d,k⟩=(decide (l[i].drawing=d∧l[i].dim=k)||js (l.drop (i+1)) ⟨d,k⟩):=by
   rw[Bool.eq_iff_iff]
   simp only[js,List.mem_cons,decide_eq_true_eq,Bool.or_eq_true]
   rw[show ((⟨d,k⟩:Spot)=l[i])=(l[i].drawing=d∧l[i].dim=k) from propext ⟨fun e=>by rw[← e];exact⟨rfl,rfl⟩,fun ⟨e1,e2⟩=>by cases hq:l[i];simp_all⟩]
  rw[hst] at ha
  generalize hxe:l[i]=x at *
  have hs:=za hx (za hw (za hlt hxe))
  repeat' first|(with_reducible first|refine zz ?_|refine zr ?_)|simp -dsimp[hs]|refine zM 4 18 6 [0,1,3,4,5,9,17] ?_|with_reducible refine zE [0,1,3,4,5,9,17] ?_|refine m5 ?_ ?_<;>intro h<;>try simp only[l8] at h
  all_goals try clear hs
  all_goals first
   | exact zn ⟨i+1,by omega,by rw[ha];clear ha hst hx;first|(simp_all;done)|(simp;intro e1 e2;exfalso;omega)⟩ (zv [0,3,5])
   | (rw[ha];clear ha hst hx;simp_all;done)
 ·rw[List.drop_eq_nil_of_le (by omega)] at ha
  have hs:=hlt
  repeat' first|(with_reducible first|refine zz ?_|refine zr ?_|refine zE [0,1,3,4,5,9,17] ?_)|simp -dsimp[hs]|refine m5 ?_ ?_<;>intro h<;>try simp only[l8] at h
  all_goals (rw[ha];simp[js])
theorem tr (d:Dim):zP prog G 53 [H1 d] (iv (Z9 d)):=by
 refine zf func53 ntmps53 ?_
 try simp only[H1]
 repeat' first|(with_reducible first|refine zz ?_|refine zx ?_|refine zE [0,1,2] ?_)|simp -dsimp
 simp[Z9]
theorem vJ (d:Dim) (g:Int) (hd:D8 d=true) (h0:0≤g) (h1:g≤2000000000):zP prog G 17 [H1 d,iv g] (H1 (W0 d g)):=by
 refine zf func17 ntmps17 ?_
 try simp only[H1,iv]
 have c1:=tr (G:=G) d
 have hdl:=(M7 d).1 hd
 have hm:0≤Z9 d∧Z9 d≤1000000000:=by unfold Z9;omega
 have hw1:IntKind.i64.wrap (Z9 d-g)=Z9 d-g:=u7 (by omega) (by omega)
 have hw2:IntKind.i64.wrap (Z9 d+g)=Z9 d+g:=u7 (by omega) (by omega)
 simp only[H1,l6,List.map_cons,List.map_nil] at c1
 have hs:=za hw1 hw2
 repeat' first|(with_reducible first|refine zz ?_|refine zr ?_|refine zE [0,1,2,4,5] ?_)|simp -dsimp[hs]|refine zp c1 ?_
 all_goals simp[W0]
attribute [simp] r5 aT o9 x7 nilV H2 ZK
theorem iz (c:Chains) (D:List (Int×Int)) (hOk:OkC c) (hsm:w9 c) (hSF:aO G):zP prog G 39 [.one (.im (.fn (.func 86) [.ip [n9 c D (C9 c.reg c.lets)]]))] (.one (.im (.sl ((w8 c).map m6)))):=by
 refine zf func39 ntmps39 ?_
 try simp only[iv]
 have c1:=px (G:=G) c D hOk hsm hSF
 simp only[n9] at c1
 simp only[n9]
 repeat' first|(with_reducible first|refine zz ?_|refine zx ?_)|simp -dsimp|refine zp c1 ?_|with_reducible refine rM [0,2] ?_;simp -dsimp
def qe (c:Chains):List Spot:=if p7 c=0 then w8 c else []
theorem BN (c:Chains) (hG:I6 G) (hC:bZ G) (hsm:w9 c) (hSF:aO G):zP prog G 7 [M9 c] (.tup [A4 (qe c),iv (p7 c)]):=by
 refine zf func7 ntmps7 ?_
 try simp only[M9]
 have c1:=de c hG hC hsm
 simp only[A4]
 by_cases h00:p7 c=0
 ·have hOk:=vO h00
  have c2:=jO (G:=G) (n9 c (B0 c) (C9 c.reg c.lets))
  have c3:=iz (G:=G) c (B0 c) hOk hsm hSF
  rw[h00] at c1
  rw[qe,if_pos h00,h00]
  simp only[V6,h00,if_true,n9] at c1
  simp only[n9] at c2 c3
  have hs:=trivial
  repeat' first|(with_reducible first|refine zz ?_|refine zr ?_|refine zE [0,1,2,3,4,5,12] ?_)|simp -dsimp[hs]|refine zp c1 ?_|refine zp c2 ?_|refine zp c3 ?_|refine m5 ?_ ?_<;>intro h<;>try simp only[l8] at h
 ·obtain⟨X,hX⟩:=ir c
  rw[hX] at c1
  rw[qe,if_neg h00]
  have hs:=h00
  repeat' first|(with_reducible first|refine zz ?_|refine zr ?_|refine zE [0,1,2,3,4,5,12] ?_)|simp -dsimp[hs]|refine zp c1 ?_|refine m5 ?_ ?_<;>intro h<;>try simp only[l8] at h
theorem lW (a b:Spot):zP prog G 62 [D7 a.drawing a.dim,D7 b.drawing b.dim] (bv (F5 a b)):=by
 refine zf func62 ntmps62 ?_
 try simp only[D7,D7]
 have hE:F5 a b=(decide (a.drawing<b.drawing)||(decide (a.drawing=b.drawing)&&decide (a.dim<b.dim))):=rfl
 have hs:=trivial
 repeat' first|(with_reducible first|refine zz ?_|refine zr ?_|refine zE [0,1,2,3,4] ?_)|simp -dsimp[hs]|with_reducible refine o4 ?_ ?_<;>intro h<;>have h0:=h<;>(try simp only[l8] at h)<;>have h2:=h<;>(try simp at h2)<;>replace hs:=za h0 (za h (za h2 hs))
 all_goals try clear hs
 all_goals simp_all
def vi (c:Chains) (d:Int):Bool:=decide ((j8 c.reg c.lets d).kind=3)
theorem ou (c:Chains) (d:Int) (hl:c.reg.length<1000000) (hd:d∈nums c.reg) (hll:c.lets.length=(nums c.reg).length):zP prog G 111 [M9 c,iv d] (bv (vi c d)):=by
 refine zf func111 ntmps111 ?_
 try simp only[M9,iv]
 have c1:=dz (G:=G) c.reg c.lets d hl hd hll
 have hE:vi c d=decide ((j8 c.reg c.lets d).kind=3):=rfl
 generalize j8 c.reg c.lets d=t at *
 repeat' first|(with_reducible first|refine zz ?_|refine zx ?_|refine zE [0,1,2,4] ?_)|simp -dsimp|refine zp c1 ?_
 all_goals simp_all
theorem qK {x:Spot} {l:List Spot} {n:Nat} (h:n<l.length):aJ x (l.drop n)=if F5 l[n] x then aJ x (l.drop (n+1))+1 else 0:=by
 rw[List.drop_eq_getElem_cons h,aJ]
theorem oW (x:Spot) (l:List Spot):(o7 (l.map m6)).take (aJ x l)++[(m6 x).map .im]++o7 ((l.map m6).drop (aJ x l))=o7 ((fZ x l).map m6):=by
 simp[fZ,o7,List.map_take,List.map_drop]
theorem Ap (c:Chains) (hOk:OkC c) (hsm:w9 c):zP prog G 60 [M9 c] (A4 (w8 c)):=by
 refine zf func60 ntmps60 ?_
 try simp only[M9]
 have hll:c.lets.length=(nums c.reg).length:=by
  have:=hOk.lets
  simp only[o5,Bool.and_eq_true,decide_eq_true_eq] at this;exact this.1
 have hreg:=hsm.1.1
 simp only[A4]
 have hs:=trivial
 repeat' first|(with_reducible first|refine zz ?_|refine zE [0,1,2,3,4,5,6,7,8,13,24,45,57] ?_)|simp -dsimp[hs]
 refine j7 (ι:={ p:Nat×Nat×Bool×List Spot // p.1≤c.loops.length∧((c.loops.drop p.1).flatMap fun x=>x.links.map x4).foldl (di (O6 c)) p.2.2.2=w8 c∧p.2.2.2.length≤12*p.1 }) (fun p=>⟨74,[(1,.one (.ptr 0 0)),(3,.one (.vec 2 p.1.2.1 0 p.1.2.2.2.length)),(4,iv (p.1.1:Int))],[.row ((p5 c).map .im),.vec 2 [] 0 true,.vec 2 (o7 (p.1.2.2.2.map m6)) p.1.2.1 p.1.2.2.1]⟩) (fun p=>c.loops.length-p.1.1) ⟨(0,0,true,[]),by simp[w8,E5,wV]⟩ (zv [1,3,4]) ?_
 rintro⟨⟨i,gn,nl,out⟩,hi,hL,hlen⟩
 simp only at hi hL hlen
 simp only[iv]
 have hl10:=hsm.2.2.1
 by_cases hlt:i<c.loops.length
 ·have hx:c.loops[i]?=some c.loops[i]:=by simp[hlt]
  have hw:=zk i
  have hln:=hsm.2.2.2 c.loops[i] (List.getElem_mem hlt)
  have hlk:=hOk.link c.loops[i] (List.getElem_mem hlt)
  rw[List.drop_eq_getElem_cons hlt,List.flatMap_cons,List.foldl_append] at hL
  generalize hxe:c.loops[i]=x at *
  have hs:=hlt
  repeat' first|(with_reducible first|refine zz ?_|refine zE [0,1,2,3,4,5,6,7,8,13,24,45,57] ?_)|simp -dsimp[hs]|refine m5 ?_ ?_<;>intro h<;>try simp only[l8] at h
  refine j7 (ι:={ p:Nat×Nat×Bool×List Spot // p.1≤x.links.length∧((x.links.drop p.1).map x4).foldl (di (O6 c)) p.2.2.2=(x.links.map x4).foldl (di (O6 c)) out∧p.2.2.2.length≤12*i+p.1 }) (fun p=>⟨74,[(1,.one (.ptr 0 0)),(3,.one (.vec 2 p.1.2.1 0 p.1.2.2.2.length)),(4,iv (i:Int)),(5,iv (p.1.1:Int))],[.row ((p5 c).map .im),.vec 2 [] 0 true,.vec 2 (o7 (p.1.2.2.2.map m6)) p.1.2.1 p.1.2.2.1]⟩) (fun p=>x.links.length-p.1.1) ⟨(0,gn,nl,out),by simp[hlen]⟩ (zv [1,3,4,5]) ?_
  rintro⟨⟨u,gn',nl',out'⟩,hu,hL',hlen'⟩
  simp only at hu hL' hlen'
  simp only[iv]
  by_cases hlu:u<x.links.length
  ·have hy:x.links[u]?=some x.links[u]:=by simp[hlu]
   have hwu:=zk u
   rw[List.drop_eq_getElem_cons hlu,List.map_cons,List.foldl_cons] at hL'
   have hmem:=(hlk x.links[u] (List.getElem_mem hlu)).1
   generalize hye:x.links[u]=y at *
   have c1:=vk (G:=G) y
   have c2:=ou (G:=G) c y.drawing (by omega) hmem hll
   have c3:=qM (G:=G) out' y.drawing y.dim (by omega)
   simp only[D7,kx,C2,List.map_cons,List.map_nil] at c1
   simp only[A4,D7] at c3
   have hstd:vi c y.drawing=!O6 c (x4 y):=by
    by_cases hk3:(j8 c.reg c.lets y.drawing).kind=3<;>simp[vi,O6,x4,hk3]
   cases hq:vi c y.drawing
   ·rw[hq] at c2
    cases hq2:js out' ⟨y.drawing,y.dim⟩
    ·rw[hq2] at c3
     have hadd:di (O6 c) out' (x4 y)=fZ (x4 y) out':=by
      unfold di
      rw[if_neg]
      simp only[js,decide_eq_false_iff_not] at hq2
      rw[hq] at hstd
      simp only[x4] at *
      simp_all
     rw[hadd] at hL'
     have hs:=za hx (za hlt (za hxe (za hy (za hlu hye))))
     repeat' first|(with_reducible first|refine zz ?_|refine zE [0,1,2,3,4,5,6,7,8,13,24,45,57] ?_)|simp -dsimp[hs]|refine zp c1 ?_|refine zp c2 ?_|refine zt c3 ?_ ?_ ?_;(focus simp;done);focus (simp;done)|refine m5 ?_ ?_<;>intro h<;>try simp only[l8] at h
     refine j7 (ι:={ n:Nat // n≤out'.length∧aJ (x4 y) out'=n+aJ (x4 y) (out'.drop n) }) (fun p=>⟨74,[(1,.one (.ptr 0 0)),(3,.one (.vec 2 gn' 0 out'.length)),(4,iv (i:Int)),(5,iv (u:Int)),(6,.one (.ptr 3 0)),(7,iv (p.1:Int))],[.row ((p5 c).map .im),.vec 2 [] 0 true,.vec 2 (o7 (out'.map m6)) gn' nl',.row [.im (rI y.drawing),.im (rI y.dim)]]⟩) (fun p=>out'.length-p.1) ⟨0,by simp⟩ (zv [1,3,4,5,6,7]) ?_
     rintro⟨n,hn,hins⟩
     simp only[iv]
     by_cases hlv:n<out'.length
     ·have hz:out'[n]?=some out'[n]:=by simp[hlv]
      have hwn:=zk n
      rw[qK hlv] at hins
      generalize hze:out'[n]=z at *
      have c4:=lW (G:=G) z (x4 y)
      simp only[D7,x4] at c4
      cases hq3:F5 z (x4 y)
      ·rw[hq3] at hins
       simp only[x4] at hq3
       rw[hq3] at c4
       simp only[Bool.false_eq_true,if_false,Nat.add_zero] at hins
       have hfin:=oW (x4 y) out'
       rw[hins] at hfin
       have hsl:=oS (x4 y) out'
       generalize fZ (x4 y) out'=fin at *
       simp only[x4,m6,rI,List.map_cons,List.map_nil] at hfin
       have hs:=za hz (za hlv (za hze hn))
       repeat' first|(with_reducible first|refine zz ?_|refine And.intro (by omega) ?_)|simp -dsimp[hs]|refine zq c4 ?_|refine cp (id:=14) (nt:=74) [0,1,2,3,4,6,5,7,8] 6 [([5],[0,1,2,3,4,5,6,7,8,13,24,45,57,67,69])] [0,1,2,3,4,5,6,7,8,13,24,45,57] mixed rfl (by kernel_rfl) (by kernel_rfl) ?_|refine zM 11 74 12 [0,1,2,3,4,5,6,7,8,13,24,45,57] ?_|with_reducible refine zE [0,1,2,3,4,5,6,7,8,13,24,45,57] ?_|refine m5 ?_ ?_<;>intro h<;>try simp only[l8] at h|with_reducible refine And.intro ?_ ?_
       ·intro e he
        have he:=List.mem_of_mem_drop (List.mem_of_mem_take he)
        simp only[o7,List.map_map,List.mem_map] at he
        obtain⟨w,_,rfl⟩:=he
        rfl
       ·omega
       have hs:True:=trivial
       all_goals try simp -dsimp[hn,hwu,hs]
       all_goals try clear hs
       ·intro e he
        have he:=List.mem_of_mem_drop (List.mem_of_mem_take (List.mem_of_mem_take he))
        simp only[o7,List.map_map,List.mem_map] at he
        obtain⟨w,_,rfl⟩:=he
        rfl
       ·omega
       refine At.round ⟨(u+1,gn'+1+1,false,fin),by omega,hL',by show fin.length≤12*i+(u+1);omega⟩ (by simp;omega) (Weak.of_drop [1,3,4,5] 3 (by simp) (by simp) ?_)
       simp
       refine⟨by first|omega|exact ⟨by omega,by simpa using hwu⟩,?_⟩
       rw[List.take_of_length_le (l:=List.take n _++_) (by simp[p6];omega),List.take_of_length_le (l:=List.take _ _) (by simp),List.take_of_length_le (l:=List.drop _ _) (by simp[p6]),← hfin]
       simp[o7,List.map_drop]
      ·rw[hq3] at hins
       simp only[x4] at hq3
       rw[hq3] at c4
       rw[if_pos rfl] at hins
       have hs:=za hz (za hlv (za hze hwn))
       repeat' first|with_reducible refine zz ?_|simp -dsimp[hs]|refine zq c4 ?_|refine zM 11 74 12 [0,1,2,3,4,5,6,7,8,13,24,45,57] ?_|with_reducible refine zE [0,1,2,3,4,5,6,7,8,13,24,45,57] ?_|refine m5 ?_ ?_<;>intro h<;>try simp only[l8] at h
       exact zn ⟨n+1,by omega,by omega⟩ (zv [1,3,4,5,6,7])
     ·have hnn:n=out'.length:=by omega
      subst hnn
      have hn0:aJ (x4 y) out'=out'.length:=by rw[hins,List.drop_length];rfl
      have hfin:=oW (x4 y) out'
      rw[hn0] at hfin
      have hsl:=oS (x4 y) out'
      generalize fZ (x4 y) out'=fin at *
      simp only[x4,m6,rI,List.map_cons,List.map_nil] at hfin
      have hs:=za hlv (za hn hwu)
      repeat' first|(with_reducible first|refine zz ?_|refine And.intro (by omega) ?_)|simp -dsimp[hs]|refine cp (id:=14) (nt:=74) [0,1,2,3,4,6,5,7,8] 6 [([5],[0,1,2,3,4,5,6,7,8,13,24,45,57,67,69])] [0,1,2,3,4,5,6,7,8,13,24,45,57] mixed rfl (by kernel_rfl) (by kernel_rfl) ?_|refine zM 11 74 12 [0,1,2,3,4,5,6,7,8,13,24,45,57] ?_|with_reducible refine zE [0,1,2,3,4,5,6,7,8,13,24,45,57] ?_|refine m5 ?_ ?_<;>intro h<;>try simp only[l8] at h
      all_goals try omega
      refine At.round ⟨(u+1,gn'+1+1,false,fin),by omega,hL',by show fin.length≤12*i+(u+1);omega⟩ (by simp;omega) (Weak.of_drop [1,3,4,5] 3 (by simp) (by simp) ?_)
      simp
      refine⟨by omega,?_⟩
      rw[List.take_of_length_le (by simp[p6]),← hfin,List.take_of_length_le (l:=o7 _) (by simp[p6])]
      simp[o7]
    ·rw[hq2] at c3
     have hadd:di (O6 c) out' (x4 y)=out':=by
      unfold di
      rw[if_pos]
      simp only[js,decide_eq_true_eq] at hq2
      exact .inr hq2
     rw[hadd] at hL'
     have hs:=za hx (za hlt (za hxe (za hy (za hlu (za hye hwu)))))
     repeat' first|(with_reducible first|refine zz ?_|refine zE [0,1,2,3,4,5,6,7,8,13,24,45,57] ?_)|simp -dsimp[hs]|refine zp c1 ?_|refine zp c2 ?_|refine zt c3 ?_ ?_ ?_;(focus simp;done);focus (simp;done)|refine m5 ?_ ?_<;>intro h<;>try simp only[l8] at h
     exact zn ⟨(u+1,gn',nl',out'),by omega,hL',by show out'.length≤12*i+(u+1);omega⟩ (zw [1,3,4,5] 3)
   ·rw[hq] at c2
    have hadd:di (O6 c) out' (x4 y)=out':=by
     unfold di
     rw[if_pos]
     rw[hq] at hstd
     left
     simpa using hstd
    rw[hadd] at hL'
    have hs:=za hx (za hlt (za hxe (za hy (za hlu (za hye hwu)))))
    repeat' first|(with_reducible first|refine zz ?_|refine zE [0,1,2,3,4,5,6,7,8,13,24,45,57] ?_)|simp -dsimp[hs]|refine zp c1 ?_|refine zp c2 ?_|refine m5 ?_ ?_<;>intro h<;>try simp only[l8] at h
    exact zn ⟨(u+1,gn',nl',out'),by omega,hL',by show out'.length≤12*i+(u+1);omega⟩ (zw [1,3,4,5] 3)
  ·rw[List.drop_eq_nil_of_le (by omega)] at hL'
   have hLn:out'=(x.links.map x4).foldl (di (O6 c)) out:=hL'
   rw[← hLn] at hL
   have hs:=za hx (za hlt (za hxe (za hlu hw)))
   repeat' first|(with_reducible first|refine zz ?_|refine zE [0,1,2,3,4,5,6,7,8,13,24,45,57] ?_)|simp -dsimp[hs]|refine m5 ?_ ?_<;>intro h<;>try simp only[l8] at h
   exact zn ⟨(i+1,gn',nl',out'),by omega,hL,by show out'.length≤12*(i+1);omega⟩ (zw [1,3,4] 3)
 ·rw[List.drop_eq_nil_of_le (by omega)] at hL
  have hLn:out=w8 c:=hL
  subst hLn
  have hs:=hlt
  repeat' first|(with_reducible first|refine zz ?_|refine zr ?_|refine zE [0,1,2,3,4,5,6,7,8,13,24,45,57] ?_)|simp -dsimp[hs]|refine m5 ?_ ?_<;>intro h<;>try simp only[l8] at h
  all_goals try omega
theorem oa (l:List Spot) (hl:l.length<1000000):zP prog G 27 [A4 l,A4 l] (bv true):=by
 refine zf func27 ntmps27 ?_
 try simp only[iv]
 simp only[A4]
 have hs:=trivial
 repeat' first|(with_reducible first|refine zz ?_|refine zE [0,1,4,5,10,14,25] ?_)|simp -dsimp[hs]|refine m5 ?_ ?_<;>intro h<;>try simp only[l8] at h
 refine j7 (ι:={ i:Nat // i≤l.length }) (fun p=>⟨26,[(0,.one (.im (.sl (l.map m6)))),(1,.one (.im (.sl (l.map m6)))),(5,iv (p.1:Int))],[]⟩) (fun p=>l.length-p.1) ⟨0,by simp⟩ (zv [0,1,5]) ?_
 rintro⟨i,hi⟩
 simp only[iv]
 by_cases hlt:i<l.length
 ·have hx:l[i]?=some l[i]:=by simp[hlt]
  have hw:=zk i
  have hs:=za hx (za hw hlt)
  repeat' first|with_reducible refine zz ?_|simp -dsimp[hs]|refine zM 6 26 9 [0,1,4,5,10,14,25] ?_|with_reducible refine zE [0,1,4,5,10,14,25] ?_|refine m5 ?_ ?_<;>intro h<;>try simp only[l8] at h
  exact zn ⟨i+1,by omega⟩ (zw [0,1,5] 0)
 ·have hs:=hlt
  repeat' first|(with_reducible first|refine zz ?_|refine zr ?_|refine zE [0,1,4,5,10,14,25] ?_)|simp -dsimp[hs]|refine m5 ?_ ?_<;>intro h<;>try simp only[l8] at h
theorem SoF.congr {c:Chains} {fv:IC} {so so':Spot→Bool} (h:SoF G c fv so) (he:∀ x∈E5 c,so x=so' x):SoF G c fv so':=by
 rcases h with⟨f,caps,h1,h2,h3⟩|⟨f,caps,h1,h2,h3⟩
 ·exact .inl ⟨f,caps,h1,h2,fun x hx objs=>(h3 x hx objs).mono fun d o ⟨a,b⟩=>⟨by rw[a,he x hx],b⟩⟩
 ·exact .inr ⟨f,caps,h1,h2,fun x hx objs=>(h3 x hx objs).mono fun d o ⟨a,b⟩=>⟨by rw[a,he x hx],b⟩⟩
attribute [simp] r5 aT o9 x7 nilV H2 ZK
theorem tP (l:List Spot) (v:Spot) (hl:l.length<1000000):zP prog G 89 [A4 l,D7 v.drawing v.dim] (iv (lF (fun x=>decide (v=x)) l)):=by
 refine zf func89 ntmps89 ?_
 try simp only[D7]
 simp only[A4,D7]
 have hs:=trivial
 repeat' first|(with_reducible first|refine zz ?_|refine zE [0,1,3,4,5,7,8,9,16] ?_)|simp -dsimp[hs]
 refine j7 (ι:={ k:Nat // k≤l.length∧∀ j x,j<k→l[j]?=some x→decide (v=x)=false }) (fun i=>⟨19,[(0,A4 l),(3,.one (.ptr 0 0)),(7,iv (l.length:Int)),(8,iv (i.1:Int))],[.row [.im (rI v.drawing),.im (rI v.dim)]]⟩) (fun i=>l.length-i.1) ⟨0,by simp⟩ (zv [0,3,7,8]) ?_
 rintro⟨i,hi,hno⟩
 simp only[iv,A4]
 by_cases hlt:i<l.length
 ·have hx0:l[i]?=some l[i]:=by simp[hlt]
  have hw:=zk i
  generalize hx:l[i]=x at *
  have hiff:v=x↔v.drawing=x.drawing∧v.dim=x.dim:=⟨fun e=>by rw[e];exact⟨rfl,rfl⟩,fun ⟨a,b⟩=>by cases v;cases x;simp_all⟩
  have hs:=za hx (za hw hlt)
  repeat' first|(with_reducible first|refine zz ?_|refine zr ?_)|simp -dsimp[hs]|refine zM 4 19 6 [0,1,3,4,5,7,8,9,16] ?_|with_reducible refine zE [0,1,3,4,5,7,8,9,16] ?_|refine m5 ?_ ?_<;>intro h<;>try simp only[l8] at h
  all_goals first
   | exact(gg hx0 (by rw[decide_eq_true_iff,hiff];omega) hno).symm
   | exact At.round ⟨i+1,by omega,fun j y hj hjx=>by
    by_cases e:j=i
    ·subst e;rw[hx0] at hjx;cases hjx;rw[decide_eq_false_iff_not,hiff];omega
    ·exact hno j y (by omega) hjx⟩ (by simp;omega) (zv [0,3,7,8])
 ·have hs:=hlt
  repeat' first|(with_reducible first|refine zz ?_|refine zr ?_|refine zE [0,1,3,4,5,7,8,9,16] ?_)|simp -dsimp[hs]|refine m5 ?_ ?_<;>intro h<;>try simp only[l8] at h
  exact(jv fun j x hjx=>hno j x (by have:=g9 hjx;omega) hjx).symm
theorem Y5 (l:List Spot) (v:Spot) (hl:l.length<1000000):zP prog G 41 [A4 l,D7 v.drawing v.dim] (bv (js l v)):=by
 refine zf func41 ntmps41 ?_
 try simp only[D7]
 have hc:=tP (G:=G) l v hl
 simp only[A4,D7] at hc
 simp only[A4,D7]
 repeat' first|(with_reducible first|refine zz ?_|refine zx ?_|refine zE [0,1,3,4] ?_)|simp -dsimp|refine zp hc ?_
 have h1:=aM (fun x=>decide (v=x)) l
 rw[h1,Bool.eq_iff_iff]
 simp[js]
attribute [simp] r5 aT D9 J6 o9 x7 nilV H2 ZK
@[simp] theorem Bs (L:List ChLoop) (k:Nat) (h:k<(o7 (L.map j5)).length):(o7 (L.map j5))[k]=[DC.im (.sl ((L[k]'(by simpa[p6] using h)).links.map C2)),DC.im (.raw (.int .i64 (L[k]'(by simpa[p6] using h)).lo)),DC.im (.raw (.int .i64 (L[k]'(by simpa[p6] using h)).hi))]:=by
 simp[o7,j5,rI]
@[simp] theorem Br (L:List Issue) (k:Nat) (h:k<(o7 (L.map j0)).length):(o7 (L.map j0))[k]=(j0 (L[k]'(by simpa[p6] using h))).map .im:=by
 simp[o7]
theorem jR {α:Type} {l:List α} {k:Nat} {x:α} (h:l[k]?=some x):l.set k x=l:=by
 apply List.ext_getElem?
 intro j
 by_cases e:k=j
 ·subst e
  rw[List.getElem?_set_self (List.getElem?_eq_some_iff.1 h).1,h]
 ·rw[List.getElem?_set_ne e]
theorem tU {L:List ChLoop} {k:Nat} {x:ChLoop} (h:L[k]?=some x):(o7 (L.map j5)).set k [DC.im (.sl (x.links.map C2)),DC.im (.raw (.int .i64 x.lo)),DC.im (.raw (.int .i64 x.hi))]=o7 (L.map j5):=
 jR (by simp[o7,h,j5,rI])
theorem tT {L:List Issue} {k:Nat} {x:Issue} (h:L[k]?=some x):(o7 (L.map j0)).set k ((j0 x).map .im)=o7 (L.map j0):=
 jR (by simp[o7,h])
theorem qZ (l:List Link) (hl:l.length<1000000) (objs:List DObj):DCall prog G 132 [.one (.im (.sl (l.map C2)))] objs (fun d objs'=>d=.one (.im (.sl (l.map C2)))∧objs'=objs):=by
 refine DCall.frame ?_ (by simp) (by simp) objs
 refine l5 func132 rfl ntmps132 (by simp) rfl ?_
 repeat' first|(with_reducible first|refine zz ?_|refine And.intro (by omega) ?_|refine zx ?_|refine zE [0,2,4] ?_)|simp -dsimp|refine m5 ?_ ?_<;>intro h<;>try simp only[l8] at h|with_reducible refine S9 (fun h=>?_);(try simp only[List.map_eq_nil_iff] at h);(try subst h);try simp -dsimp|with_reducible refine And.intro ?_ ?_
 all_goals omega
theorem mF (l:List Int) (hl:l.length<1000):DCall prog G 130 [H0 l] [] (fun d o=>∃ i:Nat×Bool,(i.2=true→l=[])∧d=.one (.vec 1 i.1 0 l.length)∧o=[.vec 1 [] 0 true,.vec 1 (o7 (l.map encI)) i.1 i.2]):=by
 refine l5 func130 rfl ntmps130 (by simp) rfl ?_
 simp only[H0]
 repeat' first|(with_reducible first|refine zz ?_|refine And.intro (by omega) ?_|refine zx ?_|refine zE [0,2,4] ?_)|simp -dsimp|refine m5 ?_ ?_<;>intro h<;>try simp only[l8] at h|with_reducible refine S9 (fun h=>?_);(try simp only[List.map_eq_nil_iff] at h);(try subst h);try simp -dsimp|with_reducible refine And.intro ?_ ?_
theorem mE (l:List ChLoop) (hl:l.length<1000):DCall prog G 131 [.one (.im (.sl (l.map j5)))] [] (fun d o=>∃ i:Nat×Bool,(i.2=true→l=[])∧d=.one (.vec 1 i.1 0 l.length)∧o=[.vec 3 [] 0 true,.vec 3 (o7 (l.map j5)) i.1 i.2]):=by
 refine l5 func131 rfl ntmps131 (by simp) rfl ?_
 repeat' first|(with_reducible first|refine zz ?_|refine And.intro (by omega) ?_|refine zx ?_|refine zE [0,2,4] ?_)|simp -dsimp|refine m5 ?_ ?_<;>intro h<;>try simp only[l8] at h|with_reducible refine S9 (fun h=>?_);(try simp only[List.map_eq_nil_iff] at h);(try subst h);try simp -dsimp|with_reducible refine And.intro ?_ ?_
theorem mD (l:List Issue) (hl:l.length<1000):DCall prog G 133 [.one (.im (.sl (l.map j0)))] [] (fun d o=>∃ i:Nat×Bool,(i.2=true→l=[])∧d=.one (.vec 1 i.1 0 l.length)∧o=[.vec 5 [] 0 true,.vec 5 (o7 (l.map j0)) i.1 i.2]):=by
 refine l5 func133 rfl ntmps133 (by simp) rfl ?_
 repeat' first|(with_reducible first|refine zz ?_|refine And.intro (by omega) ?_|refine zx ?_|refine zE [0,2,4] ?_)|simp -dsimp|refine m5 ?_ ?_<;>intro h<;>try simp only[l8] at h|with_reducible refine S9 (fun h=>?_);(try simp only[List.map_eq_nil_iff] at h);(try subst h);try simp -dsimp|with_reducible refine And.intro ?_ ?_
abbrev xu:=(Nat×Bool)×(Nat×Bool)×(Nat×Bool)
def CI (m:xu) (c:Chains):DV:=.agg [.vec 10 m.2.2.1 0 c.reg.length,.vec 6 m.1.1 0 c.lets.length,.im (rI c.of),.vec 8 m.2.1.1 0 c.loops.length]
def CH (m:xu) (c:Chains):List DObj:=[.row [.vec 10 m.2.2.1 0 c.reg.length,.vec 6 m.1.1 0 c.lets.length,.im (rI c.of),.vec 8 m.2.1.1 0 c.loops.length],.vec 0 [] 0 true,.vec 0 [] 0 true,.vec 0 [] 0 true,.row [.vec 10 m.2.2.1 0 c.reg.length,.vec 6 m.1.1 0 c.lets.length,.im (rI c.of),.vec 8 m.2.1.1 0 c.loops.length],.vec 1 [] 0 true,.vec 1 (o7 (c.lets.map encI)) m.1.1 m.1.2,.vec 3 [] 0 true,.vec 3 (o7 (c.loops.map j5)) m.2.1.1 m.2.1.2,.vec 5 [] 0 true,.vec 5 (o7 (c.reg.map j0)) m.2.2.1 m.2.2.2]
def xt (m:xu) (c:Chains):Prop:=(m.1.2=true→c.lets=[])∧(m.2.1.2=true→c.loops=[])∧(m.2.2.2=true→c.reg=[])
def zB (c:Chains) (d:DV) (o:List DObj):Prop:=∃ m:xu,xt m c∧d=CI m c∧o=CH m c
theorem rh (c:Chains) (hsm:w9 c):DCall prog G 94 [M9 c] [] (zB c):=by
 refine l5 func94 rfl ntmps94 (by simp) rfl ?_
 have c1:=mF (G:=G) c.lets (by have:=hsm.2.1;omega)
 have c2:=mE (G:=G) c.loops (by have:=hsm.2.2.1;omega)
 have c3:=mD (G:=G) c.reg (by have:=hsm.1.1;omega)
 simp only[H0] at c1
 have hs:=trivial
 repeat' first|with_reducible refine zz ?_|simp -dsimp[hs]|refine CallE.embed_ex [] (c1) ?_ ?_ ?_ ?_ ?_ ?_;(focus simp[C4];done);(focus simp;done);(focus simp;done);(focus simp;done);(focus refine A3 ?_;simp[C4,B7];done);intro mmA hmmA;try simp -dsimp[s8,C4,hs]|refine CallE.embed_ex [] (c2) ?_ ?_ ?_ ?_ ?_ ?_;(focus simp[C4];done);(focus simp;done);(focus simp;done);(focus simp;done);(focus refine A3 ?_;simp[C4,B7];done);intro mmB hmmB;try simp -dsimp[s8,C4,hs]|refine I3 (id:=1) (nt:=69) [none,none,none,none,none,none,some [],none,some [],none] [0,1,3,4,6,8,2,5,7,9] 6 [([2,3,4,5],[0,1,2,3,4,5,7,16,17,18,42,43,44]),([4,5],[0,1,2,3,4,5,8,10,16,17,18,42,43,44]),([5],[0,1,2,3,4,5,8,11,12,16,17,18,42,43,44])] [0,1,2,3,4,5,16,17,18,42,43,44] mixed rfl (by kernel_rfl) (by kernel_rfl) (by kernel_rfl) ?_|with_reducible refine zE [0,1,2,3,4,5,16,17,18,42,43,44] ?_
 refine j7 (ι:={ i:Nat // i≤c.loops.length }) (fun i=>⟨69,[(0,M9 c),(1,.one (.ptr 0 0)),(2,.one (.ptr 4 0)),(16,iv (c.loops.length:Int)),(17,iv (i.1:Int))],[.row [.im (.sl (c.reg.map j0)),.vec 6 mmA.1 0 c.lets.length,.im (rI c.of),.vec 8 mmB.1 0 c.loops.length],.vec 0 [] 0 true,.vec 0 [] 0 true,.vec 0 [] 0 true,.row [.vec 1 0 0 0,.vec 2 0 0 0,.im (rI 0),.vec 3 0 0 0],.vec 1 [] 0 true,.vec 1 (o7 (c.lets.map encI)) mmA.1 mmA.2,.vec 3 [] 0 true,.vec 3 (o7 (c.loops.map j5)) mmB.1 mmB.2]⟩) (fun i=>c.loops.length-i.1) ⟨0,by omega⟩ (zv [0,1,2,16,17] (by simp[M9])) ?_
 rintro⟨i,hi⟩
 simp only[iv,rI,M9]
 by_cases hlt:i<c.loops.length
 ·obtain⟨x,hx⟩:∃ x,c.loops[i]?=some x:=⟨c.loops[i],by simp[hlt]⟩
  have hxm:x∈c.loops:=List.mem_of_getElem? hx
  have hxe:∀ h,c.loops[i]'h=x:=fun h=>by rw[List.getElem?_eq_getElem h] at hx;exact Option.some.inj hx
  have c4:=qZ (G:=G) x.links (by have:=hsm.2.2.2 x hxm;omega)
  have hw:IntKind.i64.wrap ((i:Int)+1)=((i+1:Nat):Int):=u7 (by omega) (by have:=hsm.2.2.1;omega)
  have hset:=tU hx
  have hs:=za hlt (za hx (za hxe (za hw hset)))
  repeat' first|with_reducible refine zz ?_|simp -dsimp[hs]|refine zp c4 ?_|refine I3 (id:=5) (nt:=69) [none,none,none,none,none,none,none,none,none,none,some [1,2],some [10],none] [0,1,2,3,4,5,6,7,8,10,11,9,12] 11 [([0,1,2,9,10],[0,1,2,3,4,5,16,17,18,28,42,43,44])] [0,1,2,3,4,5,16,17,18,42,43,44] mixed rfl (by kernel_rfl) (by kernel_rfl) (by kernel_rfl) ?_|with_reducible refine zE [0,1,2,3,4,5,16,17,18,42,43,44] ?_|refine m5 ?_ ?_<;>intro h<;>try simp only[l8] at h
  all_goals exact zn ⟨i+1,by omega⟩ (zv [0,1,2,16,17])
 ·have hs:=hlt
  repeat' first|(with_reducible first|refine zz ?_|refine zE [0,1,2,3,4,5,16,17,18,42,43,44] ?_)|simp -dsimp[hs]|refine CallE.embed_ex [] (c3) ?_ ?_ ?_ ?_ ?_ ?_;(focus simp[C4];done);(focus simp;done);(focus simp;done);(focus simp;done);(focus refine A3 ?_;simp[C4,B7];done);intro mmC hmmC;try simp -dsimp[s8,C4,hs]|refine m5 ?_ ?_<;>intro h<;>try simp only[l8] at h
  refine j7 (ι:={ i:Nat // i≤c.reg.length }) (fun i=>⟨69,[(0,M9 c),(1,.one (.ptr 0 0)),(2,.one (.ptr 4 0)),(42,iv (c.reg.length:Int)),(43,iv (i.1:Int))],[.row [.vec 10 mmC.1 0 c.reg.length,.vec 6 mmA.1 0 c.lets.length,.im (rI c.of),.vec 8 mmB.1 0 c.loops.length],.vec 0 [] 0 true,.vec 0 [] 0 true,.vec 0 [] 0 true,.row [.vec 1 0 0 0,.vec 2 0 0 0,.im (rI 0),.vec 3 0 0 0],.vec 1 [] 0 true,.vec 1 (o7 (c.lets.map encI)) mmA.1 mmA.2,.vec 3 [] 0 true,.vec 3 (o7 (c.loops.map j5)) mmB.1 mmB.2,.vec 5 [] 0 true,.vec 5 (o7 (c.reg.map j0)) mmC.1 mmC.2]⟩) (fun i=>c.reg.length-i.1) ⟨0,by omega⟩ (zv [0,1,2,42,43] (by simp[M9])) ?_
  rintro⟨i,hi⟩
  simp only[iv,rI,M9]
  by_cases hlt:i<c.reg.length
  ·obtain⟨x,hx⟩:∃ x,c.reg[i]?=some x:=⟨c.reg[i],by simp[hlt]⟩
   have hxm:x∈c.reg:=List.mem_of_getElem? hx
   have hxe:∀ h,c.reg[i]'h=x:=fun h=>by rw[List.getElem?_eq_getElem h] at hx;exact Option.some.inj hx
   have c4:=mB (G:=G) x.items (by have:=hsm.1.2 x hxm;omega)
   have c5:=mC (G:=G) x.dims (by have:=hsm.1.2 x hxm;omega)
   have hw:IntKind.i64.wrap ((i:Int)+1)=((i+1:Nat):Int):=u7 (by omega) (by have:=hsm.1.1;omega)
   have hset:=tT hx
   simp only[j0,List.map_cons,List.map_nil,rI] at hset
   have hs:=za hlt (za hx (za hxe (za hw hset)))
   repeat' first|with_reducible refine zz ?_|simp -dsimp[j0,rI,hs]|refine zp c4 ?_|refine zp c5 ?_|refine I3 (id:=12) (nt:=69) [none,none,none,none,none,none,none,none,none,none,none,none,some [0],some [12],none,some [1],some [15],none] [0,1,2,3,4,5,7,8,9,10,12,13,15,16,6,11,14,17] 14 [([0,1,6,7,8,9,10,11,12,13],[0,1,2,3,4,5,16,17,18,42,43,44,56]),([0,1,10,11,12,13],[0,1,2,3,4,5,16,17,18,42,43,44,57,61]),([1,12,13],[0,1,2,3,4,5,16,17,18,42,43,44,57,62,64])] [0,1,2,3,4,5,16,17,18,42,43,44] mixed rfl (by kernel_rfl) (by kernel_rfl) (by kernel_rfl) ?_|with_reducible refine zE [0,1,2,3,4,5,16,17,18,42,43,44] ?_|refine m5 ?_ ?_<;>intro h<;>try simp only[l8] at h
   all_goals exact zn ⟨i+1,by omega⟩ (zv [0,1,2,42,43])
  ·have hs:=hlt
   repeat' first|(with_reducible first|refine zz ?_|refine zr ?_|refine zE [0,1,2,3,4,5,16,17,18,42,43,44] ?_)|simp -dsimp[hs]|refine m5 ?_ ?_<;>intro h<;>try simp only[l8] at h
   all_goals exact⟨(mmA,mmB,mmC),⟨hmmA,hmmB,hmmC⟩,rfl,rfl⟩
theorem ri (c:Chains) (hsm:w9 c):DCall prog G 94 [M9 c] [] (fun d o=>∃ m:xu,xt m c∧d=CI m c∧o=CH m c):=rh c hsm
def bS (l:List Issue) (d:Int):DV:=if o6 l=0∧d∈nums l then .one (.im (A2 l (nums l))) else .one (.im (.raw (.pointer none)))
theorem tK (l:List Issue) (d:Int):ImV (bS l d):=by unfold bS;split<;>simp[A2]
attribute [simp] tK
def S7 (l:List Issue) (d:Int):Int:=if o6 l≠0 then o6 l else if d∈nums l then 0 else 6
theorem yd (l:List Issue) (d:Int) (hG:I6 G) (hs:W9 l):zP prog G 134 [C8 l,iv d] (.tup [bS l d,iv (S7 l d)]):=by
 refine zf func134 ntmps134 ?_
 try simp only[C8,iv]
 have c1:=fM l hG hs
 by_cases h0:o6 l=0
 ·simp only[bH,h0,if_true] at c1
  have c2:=wn (G:=G) l (nums l) d ((u4 h0).1.imp fun h=>Int.le_of_lt h) (by have:=hs.1;have:=p8 l l.length;unfold nums;omega)
  by_cases hm:d∈nums l
  ·simp only[hm,decide_true,A2] at c1 c2
   have hs:=trivial
   repeat' first|(with_reducible first|refine zz ?_|refine zr ?_|refine zE [0,1,2,4,5,6,7,14,19] ?_)|simp -dsimp[hs]|refine zp c1 ?_|refine zp c2 ?_|refine m5 ?_ ?_<;>intro h<;>try simp only[l8] at h
   all_goals try clear hs
   all_goals simp[bS,S7,h0,hm,A2]
  ·simp only[hm,decide_false,A2] at c1 c2
   have hs:=trivial
   repeat' first|(with_reducible first|refine zz ?_|refine zr ?_|refine zE [0,1,2,4,5,6,7,14,19] ?_)|simp -dsimp[hs]|refine zp c1 ?_|refine zp c2 ?_|refine m5 ?_ ?_<;>intro h<;>try simp only[l8] at h
   all_goals try clear hs
   all_goals simp[bS,S7,h0,hm,A2]
 ·simp only[bH,h0,if_false] at c1
  have hs:=h0
  repeat' first|(with_reducible first|refine zz ?_|refine zr ?_|refine zE [0,1,2,4,5,6,7,14,19] ?_)|simp -dsimp[hs]|refine zp c1 ?_|refine m5 ?_ ?_<;>intro h<;>try simp only[l8] at h
  all_goals try clear hs
  all_goals simp[bS,S7,h0]
def B6 (l:List Issue) (d:Int):Nat:=(l.filter fun x=>decide (x.drawing=d)).length
theorem xN {l:List Issue} {d:Int} (hs:(l.map (·.drawing)).Pairwise (·≤·)):B6 l d=B6 (l.drop (lb (l.map (·.drawing)) d)) d:=by
 conv=>lhs;rw[← List.take_append_drop (lb (l.map (·.drawing)) d) l]
 simp only[B6,List.filter_append]
 rw[List.filter_eq_nil_iff.2 fun x hx=>?_]
 ·rfl
 ·have:=qf hs x hx
  simp;omega
theorem yc (l:List Issue) (ds:List Int) (d:Int) (hs:(l.map (·.drawing)).Pairwise (·≤·)) (hl:l.length<1000000):zP prog G 135 [.one (.im (A2 l ds)),iv d] (iv (B6 l d:Int)):=by
 refine zf func135 ntmps135 ?_
 try simp only[iv]
 simp only[A2]
 have c1:=kD (G:=G) (A2 l ds) d
 simp only[A2] at c1
 have hs:=trivial
 repeat' first|(with_reducible first|refine zz ?_|refine zE [0,1,4,5,8] ?_)|simp -dsimp[hs]|refine zp c1 ?_
 all_goals try clear hs
 refine R2 (f:=140) (by simp;exact rfl) (by rfl) call140 ?_
 generalize hR:LoopD.mk _ _ _ _ _ _ _=R
 have hR1:R.st=.ready:=by rw[← hR]
 have hR2:R.pend=none:=by rw[← hR]
 have hR3:R.at .ready none=R:=by rw[← hR];rfl
 have hR4:=(congrArg LoopD.nt hR).symm
 have hR5:=(congrArg LoopD.tm hR).symm
 have hR6:=(congrArg LoopD.ps hR).symm
 have hR7:=(congrArg LoopD.asg hR).symm
 have hR8:=(congrArg LoopD.body hR).symm
 dsimp only at hR4 hR5 hR6 hR7 hR8
 clear hR
 refine l5 func140 rfl ntmps140 (by simp) rfl ?_
 have hR9:∀ objs:List DObj,(R.tm.map fun x=>(x.1,aK 2 objs x.2))=R.tm:=by intro objs;rw[hR5];simp
 have hlb:=oK (l.map (·.drawing)) d
 rw[List.length_map] at hlb
 have c2:=fg (G:=G) l d hs hl
 have hs:=za hR1 (za hR2 (za hR3 hlb))
 repeat' first|with_reducible refine zz ?_|simp -dsimp[hs]|refine zq c2 ?_|refine zM 0 41 12 [0,1,2,4,7,24,25,26,27,39] ?_|with_reducible refine zE [0,1,2,4,5,7,8,24,25,26,27,39] ?_
 all_goals try clear hs
 rw[← List.map_drop]
 have hge:=qg (d:=d) hs
 have hss:((l.drop (lb (l.map (·.drawing)) d)).map (·.drawing)).Pairwise (·≤·):=by rw[List.map_drop];exact hs.drop
 have hsl:l.length-lb (l.map (·.drawing)) d=(l.drop (lb (l.map (·.drawing)) d)).length:=by simp
 rw[hsl]
 have hsl2:(l.drop (lb (l.map (·.drawing)) d)).length<1000000:=by simp;omega
 rw[xN hs]
 generalize l.drop (lb (l.map (·.drawing)) d)=s at hge hss hsl2 ⊢
 refine j7 (ι:={ k:Nat // k≤s.length∧k+B6 (s.drop k) d=B6 s d }) (fun p=>⟨41,[(0,.one (.yld 1)),(2,.one (.im (.ip [rI d]))),(24,.one (.im (.sl (s.map j0)))),(25,iv (s.length:Int)),(26,iv (p.1:Int))],[.row [.im (rI (p.1:Int))],.loop R]⟩) (fun p=>s.length-p.1) ⟨0,by simp⟩ (zv [0,2,24,25,26]) ?_
 rintro⟨k,hk,hno⟩
 simp only[iv]
 by_cases hlt:k<s.length
 ·have hx:s[k]?=some s[k]:=by simp[hlt]
  have hw:=zk k
  have hcons:s.drop k=s[k] :: s.drop (k+1):=List.drop_eq_getElem_cons hlt
  by_cases hd:s[k].drawing=d
  ·have hno':k+1+B6 (s.drop (k+1)) d=B6 s d:=by
    rw[← hno,B6,B6,hcons,List.filter_cons_of_pos (by simp[hd]),List.length_cons];omega
   have hs:=za hR1 (za hR2 (za hR3 (za hx (za hw (za hd hlt)))))
   repeat' first|(with_reducible first|refine zz ?_|refine zE [0,1,2,4,5,7,8,24,25,26,27,39] ?_)|simp -dsimp[hs]|with_reducible refine At.yield_end ?_;simp -dsimp[hs]|refine ee ?_ ?_<;>simp -dsimp[hs]|refine Z5 ?_;simp -dsimp[W8,hR4,hR5,hR6,hR7,hR8,hs]|refine m5 ?_ ?_<;>intro h<;>try simp only[l8] at h
   all_goals try clear hs
   all_goals exact zn ⟨k+1,by omega,hno'⟩ (zw [0,2,24,25,26] 2 (by simp[hR9]))
  ·have hnone:B6 (s.drop k) d=0:=by
    simp only[B6,List.length_eq_zero_iff,List.filter_eq_nil_iff]
    intro x hxm
    obtain⟨i,hi⟩:=List.mem_iff_getElem?.1 hxm
    rw[List.getElem?_drop] at hi
    have h1:s[k].drawing≤x.drawing:=by
     rcases Nat.eq_zero_or_pos i with rfl|hp
     ·rw[Nat.add_zero,hx] at hi;cases hi;exact Int.le_refl _
     ·have hlt2:=(List.getElem?_eq_some_iff.1 hi).1
      have:=(List.pairwise_iff_getElem.1 hss) k (k+i) (by simpa using hlt) (by simpa using hlt2) (by omega)
      have h6:=(List.getElem?_eq_some_iff.1 hi).2
      simp at this;rw[h6] at this;exact this
    have h2:=hge s[k] (List.getElem_mem hlt)
    simp;omega
   have hN:B6 s d=k:=by omega
   have hs:=za hR1 (za hR2 (za hR3 (za hx (za hw (za hd hlt)))))
   repeat' first|(with_reducible first|refine zz ?_|refine zr ?_ (by simp -dsimp[A6,hs];exact rfl)|refine zE [0,1,2,4,5,7,8,24,25,26,27,39] ?_)|simp -dsimp[A6,hs]|with_reducible show A6 _ _ _ _ _ _ _ _;simp -dsimp[A6,hs]|refine m5 ?_ ?_<;>intro h<;>try simp only[l8] at h
   all_goals try clear hs
   all_goals simp[hN]
 ·have hN:B6 s d=k:=by rw[← hno,List.drop_eq_nil_of_le (by omega)];simp[B6]
  have hs:=za hR1 (za hR2 (za hR3 hlt))
  repeat' first|(with_reducible first|refine zz ?_|refine zr ?_ (by simp -dsimp[A6,hs];exact rfl)|refine ze ?_ (by simp -dsimp[A6,hs];exact rfl)|refine zE [0,1,2,4,5,7,8,24,25,26,27,39] ?_)|simp -dsimp[A6,hs]|with_reducible show A6 _ _ _ _ _ _ _ _;simp -dsimp[A6,hs]|refine m5 ?_ ?_<;>intro h<;>try simp only[l8] at h
  all_goals try clear hs
  all_goals simp[hN]
def oL (l:List Issue) (d:Int):Int:=if S7 l d=0 then (B6 l d:Int) else 0
theorem se (l:List Issue) (d:Int) (hG:I6 G) (hs:W9 l):zP prog G 96 [C8 l,iv d] (.tup [iv (oL l d),iv (S7 l d)]):=by
 refine zf func96 ntmps96 ?_
 try simp only[C8,iv]
 have c1:=yd (G:=G) l d hG hs
 by_cases h0:S7 l d=0
 ·have hk:o6 l=0∧d∈nums l:=by
   unfold S7 at h0
   by_cases h1:o6 l=0
   ·refine⟨h1,?_⟩
    rw[if_neg (by simp[h1])] at h0
    by_cases h2:d∈nums l
    ·exact h2
    ·rw[if_neg h2] at h0;cases h0
   ·rw[if_pos h1] at h0;exact absurd h0 h1
  have c2:=yc (G:=G) l (nums l) d (bY hk.1) (by have:=hs.1;omega)
  rw[bS,if_pos hk,h0] at c1
  rw[oL,if_pos h0,h0]
  simp only[A2] at c1 c2
  have hs:=trivial
  repeat' first|(with_reducible first|refine zz ?_|refine zr ?_|refine zE [0,1,2,4,5,6,7,15] ?_)|simp -dsimp[hs]|refine zp c1 ?_|refine zp c2 ?_|refine m5 ?_ ?_<;>intro h<;>try simp only[l8] at h
  all_goals try clear hs
 ·rw[oL,if_neg h0]
  generalize hX:bS l d=X at c1
  have hXo:∃ x,X=.one (.im x):=by subst hX;unfold bS;split<;>exact⟨_,rfl⟩
  obtain⟨x,rfl⟩:=hXo
  generalize S7 l d=e at *
  have hs:=h0
  repeat' first|(with_reducible first|refine zz ?_|refine zr ?_|refine zE [0,1,2,4,5,6,7,15] ?_)|simp -dsimp[hs]|refine zp c1 ?_|refine m5 ?_ ?_<;>intro h<;>try simp only[l8] at h
  all_goals try clear hs
end Go.Proofs
