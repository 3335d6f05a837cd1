/- Part 23 of the proofs: laws and walks that hold without conditions beyond those that each theorem names. -/
import Derived.Test.YtciiddejfhbncaaGreatDoorA12
import Derived.Test.YtciiddejfhbncaaGreatDoorA22
set_option linter.all false
set_option linter.deprecated false
namespace Go.Proofs
open Go Go.Ab
set_option linter.unusedSimpArgs false
variable {G:Nat→Option (List IC)}
def orI':List Int→Int
 | []=>0
 | x :: r=>if x=0 then orI' r else x
theorem or_c' (l:List Int) (hl:l.length < 1000000) (objs:List DObj):DCall Tryz.prog G 117 [isv l] objs (fun rr objs'=>rr=iv (orI' l)∧objs'=objs):=by
 refine DCall.frame ?_ (by simp) (by simp) objs
 refine DCall_intro Tryz.func117 rfl Tryz.ntmps117 (by simp) rfl ?_
 try simp only [isv]
 have hs:True:=trivial
 repeat' first|(with_reducible first|refine q01 ?_|refine q11 ?_|refine q12 ?_)|(with_reducible refine DT_regionE [0,2,3,5,6,7,8,9,14] ?_;simp -dsimp [hs])
 all_goals try simp -dsimp [hs]
 all_goals try clear hs
 refine DT_loop (ι:={ p:Nat // p≤l.length∧orI' l=orI' (l.drop p) }) (fun p=>⟨18,[(3,iv 0),(6,.one (.im (.sl (l.map encI)))),(7,iv (l.length:Int)),(8,iv (p.1:Int))],[]⟩) (fun p=>l.length - p.1) ⟨0,by simp⟩ (Weak.of_keep [3,6,7,8] (by simp)) ?_
 rintro ⟨k,hk,hu⟩
 simp only [iv]
 by_cases hlt:k < l.length
 ·have hw:IntKind.i64.wrap ((k:Int) + 1)=((k + 1:Nat):Int):=i64w (by omega) (by omega)
  rw [List.drop_eq_getElem_cons hlt,orI'] at hu
  generalize hx:l[k]=x at *
  have hs:True:=trivial
  repeat' first|(with_reducible first|refine q01 ?_|refine q02 ?_|refine q04 ?_|refine q05 ?_|refine q11 ?_|refine q12 ?_|refine q14 ?_|refine q17 ?_)|(with_reducible refine At.fn_ret (by simp -dsimp [hx,hw,hlt,hs];exact rfl) ?_)|(with_reducible refine DT_regionE [0,2,3,5,6,7,8,9,14] ?_;simp -dsimp [hx,hw,hlt,hs])|(refine DT_cond rfl (fun h=>?_) (fun h=>?_)<;>(try simp only [nrm] at h)<;>(try exact Bool.noConfusion h))
  all_goals try simp -dsimp [hx,hw,hlt,hs]
  all_goals try clear hs
  ·rw [hu,if_neg (by assumption)]
  ·rw [if_pos (by assumption)] at hu
   exact At.round ⟨k + 1,by omega,hu⟩ (by simp;omega) (Weak.of_keep [3,6,7,8] (by simp))
 ·rw [List.drop_eq_nil_of_le (by omega)] at hu
  have hs:True:=trivial
  repeat' first|(with_reducible first|refine q01 ?_|refine q03 ?_|refine q06 ?_|refine q11 ?_|refine q16 ?_|refine q17 ?_)|(with_reducible refine At.fn_ret (by simp -dsimp [hlt,hs];exact rfl) ?_)|(with_reducible refine DT_regionE [0,2,3,5,6,7,8,9,14] ?_;simp -dsimp [hlt,hs])|(refine DT_cond rfl (fun h=>?_) (fun h=>?_)<;>(try simp only [nrm] at h)<;>(try exact Bool.noConfusion h))
  all_goals try simp -dsimp [hlt,hs]
  all_goals try clear hs
  rw [hu];rfl
def ordS (a b:Spot):Int:=orI' [cmpI a.drawing b.drawing,cmpI a.dim b.dim]
theorem ordS_lt {a b:Spot}:ordS a b < 0↔before a b=true:=by
 rw [before_iff]
 unfold ordS cmpI orI' orI' orI'
 repeat' split
 all_goals omega
theorem order_c (a b:Spot) (objs:List DObj):DCall Tryz.prog G 67 [refv a.drawing a.dim,refv b.drawing b.dim] objs (fun rr objs'=>rr=iv (ordS a b)∧objs'=objs):=by
 refine DCall.frame ?_ (by simp) (by simp) objs
 refine DCall_intro Tryz.func67 rfl Tryz.ntmps67 (by simp) rfl ?_
 try simp only [refv,refv]
 have c1:=compare_c (G:=G) a.drawing b.drawing
 have c2:=compare_c (G:=G) a.dim b.dim
 have c3:=or_c' (G:=G) [cmpI a.drawing b.drawing,cmpI a.dim b.dim] (by simp)
 have hE:ordS a b=orI' [cmpI a.drawing b.drawing,cmpI a.dim b.dim]:=rfl
 rw [← hE] at c3
 have hs:True:=trivial
 repeat' first|(with_reducible first|refine q01 ?_|refine q11 ?_|refine q17 ?_)|(with_reducible refine At.fn_ret (by simp -dsimp [hs];exact rfl) ?_)|(refine QCall_pure (c1) ?_;try simp -dsimp [hs])|(refine QCall_pure (c2) ?_;try simp -dsimp [hs])|(refine QCall_pure (c3) ?_;try simp -dsimp [hs])|(refine DT_regionM (id:=1) (nt:=17) 13 [0,1,2,3,4] mixed rfl (by kernel_rfl) ?_;simp -dsimp [hs])|(with_reducible refine DT_regionE [0,1,2,3,4] ?_;simp -dsimp [hs])
 all_goals try simp -dsimp [hs]
 all_goals try clear hs
theorem spotsF_c (X:IC) (objs:List DObj):DCall Tryz.prog G 65 [.one (.im X)] objs (fun rr objs'=>rr=.one (.im (.fn (.func 113) [.ip [X]]))∧objs'=objs):=by
 refine DCall.frame ?_ (by simp) (by simp) objs
 refine DCall_intro Tryz.func65 rfl Tryz.ntmps65 (by simp) rfl ?_
 try simp only [iv]
 have hs:True:=trivial
 repeat' first|(with_reducible first|refine q01 ?_|refine q11 ?_|refine q17 ?_)|(with_reducible refine At.fn_ret (by simp -dsimp [hs];exact rfl) ?_)|(with_reducible refine DT_regionE [0,1,2] ?_;simp -dsimp [hs])
 all_goals try simp -dsimp [hs]
 all_goals try clear hs
def SortFOk (G:Nat→Option (List IC)):Prop:=∀ (l:List Spot) (gn sz:Nat) (nl:Bool),(sz=2∨nl=true∧l=[])→l.length < 1000000 →
 DCall Tryz.prog G 115 [.one (.vec 0 gn 0 l.length),.one (.im (.fn (.func 67) []))] [.vec sz (ims (l.map encSpot)) gn nl] (fun d o=>d=.tup []∧∃ l':List Spot,l'.Perm l∧(l'.Pairwise fun a b=>¬ ordS b a < 0)∧o=[.vec sz (ims (l'.map encSpot)) gn nl])
theorem sorted_of {l' l:List Spot} (hp:l'.Perm l) (hn:l.Nodup) (h:l'.Pairwise fun a b=>¬ ordS b a < 0):SortedS l':=by
 have hn':l'.Nodup:=hp.symm.nodup hn
 unfold SortedS
 refine (List.Pairwise.and h hn').imp fun {a b} ⟨h1,h2⟩=>?_
 rw [ordS_lt] at h1
 exact (before_tri h2).resolve_right h1
theorem foldP_len:∀ (ys l:List Spot),(ys.foldl (fun l x=>sputS x l) l).length≤l.length + ys.length
 | [],l=>by simp
 | y :: ys,l=>by
   have:=foldP_len ys (sputS y l)
   have h1:(sputS y l).length≤l.length + 1:=by unfold sputS;split<;>simp
   rw [List.foldl_cons,List.length_cons];omega
theorem spots_len:∀ (ls:List ChLoop),(∀ x∈ls,x.links.length≤12)→(ls.flatMap fun x=>x.links.map spotOf).length≤12 * ls.length
 | [],_=>by simp
 | x :: ls,h=>by
   have h1:=h x (by simp)
   have h2:=spots_len ls fun y hy=>h y (by simp [hy])
   rw [List.flatMap_cons,List.length_append,List.length_map,List.length_cons];omega
theorem perm_erase {α:Type} {y:α}:∀ {l:List α} {i:Nat},l[i]?=some y→(y :: l.eraseIdx i).Perm l
 | [],i,h=>by simp at h
 | x :: l,0,h=>by simp at h;subst h;simp
 | x :: l,i + 1,h=>by
   rw [List.eraseIdx_cons_succ]
   exact (List.Perm.swap x y _).trans ((perm_erase (by simpa using h)).cons x)
set_option maxHeartbeats 4000000 in
theorem appendSeq_c (c:Chains) (D:List (Int×Int)) (hOk:OkC c) (hsm:SmallC c) (hSF:SortFOk G) (objs:List DObj):DCall Tryz.prog G 112 [.one (.im (.raw (.slice none 0 0))),.one (.im (.fn (.func 113) [.ip [deskC c D (tkM c.reg c.lets)]]))] objs (fun rr objs'=>rr=.one (.im (.sl ((allSpots c).map encSpot)))∧objs'=objs):=by
 refine DCall.frame ?_ (by simp) (by simp) objs
 refine DCall_intro Tryz.func112 rfl Tryz.ntmps112 (by simp) rfl ?_
 try simp only [iv]
 simp only [deskC]
 have hs:True:=trivial
 repeat' first|(with_reducible first|refine q01 ?_|refine q11 ?_|refine q12 ?_)|(with_reducible refine DT_regionE [0,1,2,4,5,6,7] ?_;simp -dsimp [hs])
 all_goals try simp -dsimp [hs]
 all_goals try clear hs
 refine DT_weak (Weak.nilCell 0 0 rfl rfl) ?_
 have hs:True:=trivial
 all_goals try simp -dsimp [hs]
 all_goals try clear hs
 refine DT_rangeFunc (f:=113) (by simp;exact rfl) (by rfl) Tryz.call113 ?_
 generalize hR:LoopD.mk _ _ _ _ _ _ _=R
 have hR1:R.st=.ready:=by rw [← hR]
 have hR2:R.pend=none:=by rw [← hR]
 have hR3:R.at .ready none=R:=by rw [← hR];rfl
 have hR4:=(congrArg LoopD.nt hR).symm
 have hR5:=(congrArg LoopD.tm hR).symm
 have hR6:=(congrArg LoopD.ps hR).symm
 have hR7:=(congrArg LoopD.asg hR).symm
 have hR8:=(congrArg LoopD.body hR).symm
 dsimp only at hR4 hR5 hR6 hR7 hR8
 clear hR
 refine DCall_intro Tryz.func113 rfl Tryz.ntmps113 (by simp) rfl ?_
 have hR9:∀ objs:List DObj,(R.tm.map fun x=>(x.1,fzV 5 objs x.2))=R.tm:=by intro objs;rw [hR5];simp
 have hs:True:=trivial
 repeat' first|(with_reducible first|refine q01 ?_|refine q11 ?_|refine q12 ?_)|(with_reducible refine DT_regionE [0,1,2,3,4,5,6,7,8,9,10,12,18,19,20,21,25,26,27,28,37,39,50,54,56,65,66,67,68,74] ?_;simp -dsimp [hR1,hR2,hR3,hs])
 all_goals try simp -dsimp [hR1,hR2,hR3,hs]
 all_goals try clear hs
 refine DT_loop (ι:={ p:Nat×List Spot // p.1≤c.loops.length∧((c.loops.drop p.1).flatMap fun x=>x.links.map spotOf).foldl (fun l x=>sputS x l) p.2=(spotsOf c).foldl (fun l x=>sputS x l) [] }) (fun p=>⟨76,[(0,.one (.yld 3)),(1,.one (.im (.ip [deskC c D (tkM c.reg c.lets)]))),(3,.one (.map 4)),(18,.one (.im (.sl (c.loops.map encLoop)))),(19,iv (c.loops.length:Int)),(20,iv (p.1.1:Int))],[.row [.vec 2 0 0 0],.vec 2 [] 0 true,.vec 0 [] 0 true,.loop R,.map [.int .i64,.int .i64] (encP p.1.2)]⟩) (fun p=>c.loops.length - p.1.1) ⟨(0,[]),by simp [spotsOf]⟩ (Weak.of_keep [0,1,3,18,19,20] (by simp [deskC,encP])) ?_
 rintro ⟨⟨i,L⟩,hi,hL⟩
 simp only at hi hL
 simp only [iv,deskC]
 by_cases hlt:i < c.loops.length
 ·have hx:c.loops[i]?=some c.loops[i]:=by simp [hlt]
  have hw:IntKind.i64.wrap ((i:Int) + 1)=((i + 1:Nat):Int):=i64w (by omega) (by have:=hsm.2.2.1;omega)
  rw [List.drop_eq_getElem_cons hlt,List.flatMap_cons,List.foldl_append] at hL
  have hln:=hsm.2.2.2 c.loops[i] (List.getElem_mem hlt)
  generalize hxe:c.loops[i]=x at *
  have hs:True:=trivial
  repeat' first|(with_reducible first|refine q01 ?_|refine q11 ?_|refine q12 ?_|refine q14 ?_)|(with_reducible refine DT_regionE [0,1,2,3,4,5,6,7,8,9,10,12,18,19,20,21,25,26,27,28,37,39,50,54,56,65,66,67,68,74] ?_;simp -dsimp [hR1,hR2,hR3,hx,hlt,hxe,hs])|(refine DT_cond rfl (fun h=>?_) (fun h=>?_)<;>(try simp only [nrm] at h)<;>(try exact Bool.noConfusion h))
  all_goals try simp -dsimp [hR1,hR2,hR3,hx,hlt,hxe,hs]
  all_goals try clear hs
  refine DT_loop (ι:={ p:Nat×List Spot // p.1≤x.links.length∧((x.links.drop p.1).map spotOf).foldl (fun l x=>sputS x l) p.2=(x.links.map spotOf).foldl (fun l x=>sputS x l) L }) (fun p=>⟨76,[(0,.one (.yld 3)),(1,.one (.im (.ip [deskC c D (tkM c.reg c.lets)]))),(3,.one (.map 4)),(18,.one (.im (.sl (c.loops.map encLoop)))),(19,iv (c.loops.length:Int)),(20,iv (i:Int)),(25,.one (.im (.sl (x.links.map encLink)))),(26,iv (x.links.length:Int)),(27,iv (p.1.1:Int))],[.row [.vec 2 0 0 0],.vec 2 [] 0 true,.vec 0 [] 0 true,.loop R,.map [.int .i64,.int .i64] (encP p.1.2)]⟩) (fun p=>x.links.length - p.1.1) ⟨(0,L),by simp⟩ (Weak.of_drop [0,1,3,18,19,20,25,26,27] 5 (by simp) (by simp) (by clear hR4 hR5 hR6 hR7 hR8;simp [deskC,hR1,hR2,hR3,hR9,LoopD.at_eta])) ?_
  rintro ⟨⟨u,L'⟩,hu,hL'⟩
  simp only at hu hL'
  simp only [iv,deskC]
  by_cases hlu:u < x.links.length
  ·have hy:x.links[u]?=some x.links[u]:=by simp [hlu]
   have hwu:IntKind.i64.wrap ((u:Int) + 1)=((u + 1:Nat):Int):=i64w (by omega) (by omega)
   have c2:=spot_c (G:=G) x.links[u]
   rw [List.drop_eq_getElem_cons hlu,List.map_cons,List.foldl_cons] at hL'
   have hput:=mset_P L' x.links[u].drawing x.links[u].dim
   have hsp:sputS (spotOf x.links[u]) L'=sputS ⟨x.links[u].drawing,x.links[u].dim⟩ L':=rfl
   rw [hsp] at hL'
   simp only [refv,linkv,encLink,List.map_cons,List.map_nil] at c2
   have hs:True:=trivial
   repeat' first|(with_reducible first|refine q01 ?_|refine q04 ?_|refine q11 ?_|refine q12 ?_|refine q14 ?_)|(refine CallE.pure (c2) ?_;try simp -dsimp [hR1,hR2,hR3,hy,hlu,hwu,hput,hs])|(with_reducible refine DT_regionE [0,1,2,3,4,5,6,7,8,9,10,12,18,19,20,21,25,26,27,28,37,39,50,54,56,65,66,67,68,74] ?_;simp -dsimp [hR1,hR2,hR3,hy,hlu,hwu,hput,hs])|(refine DT_cond rfl (fun h=>?_) (fun h=>?_)<;>(try simp only [nrm] at h)<;>(try exact Bool.noConfusion h))
   all_goals try simp -dsimp [hR1,hR2,hR3,hy,hlu,hwu,hput,hs]
   all_goals try clear hs
   exact At.round ⟨(u + 1,sputS ⟨x.links[u].drawing,x.links[u].dim⟩ L'),by omega,hL'⟩ (by simp;omega) (Weak.of_drop [0,1,3,18,19,20,25,26,27] 5 (by simp) (by simp) (by clear hR4 hR5 hR6 hR7 hR8;simp [deskC,hR1,hR2,hR3,hR9,LoopD.at_eta]))
  ·rw [List.drop_eq_nil_of_le (by omega)] at hL'
   have hLn:L'=(x.links.map spotOf).foldl (fun l x=>sputS x l) L:=hL'
   rw [← hLn] at hL
   have hs:True:=trivial
   repeat' first|(with_reducible first|refine q01 ?_|refine q03 ?_|refine q04 ?_|refine q06 ?_|refine q11 ?_|refine q16 ?_)|(with_reducible refine DT_regionE [0,1,2,3,4,5,6,7,8,9,10,12,18,19,20,21,25,26,27,28,37,39,50,54,56,65,66,67,68,74] ?_;simp -dsimp [hR1,hR2,hR3,hlu,hw,hs])|(refine DT_cond rfl (fun h=>?_) (fun h=>?_)<;>(try simp only [nrm] at h)<;>(try exact Bool.noConfusion h))
   all_goals try simp -dsimp [hR1,hR2,hR3,hlu,hw,hs]
   all_goals try clear hs
   exact At.round ⟨(i + 1,L'),by omega,hL⟩ (by simp;omega) (Weak.of_keep [0,1,3,18,19,20] (by simp [deskC]))
 rw [List.drop_eq_nil_of_le (by omega)] at hL
 have hL0:L=(spotsOf c).foldl (fun l x=>sputS x l) []:=hL
 have hnd:L.Nodup:=by rw [hL0];exact foldP_nodup _ _ (by simp)
 have hs:True:=trivial
 repeat' first|(with_reducible first|refine q01 ?_|refine q03 ?_|refine q06 ?_|refine q11 ?_|refine q16 ?_)|(with_reducible refine DT_regionE [0,1,2,3,4,5,6,7,8,9,10,12,18,19,20,21,25,26,27,28,37,39,50,54,56,65,66,67,68,74] ?_;simp -dsimp [hR1,hR2,hR3,hlt,hs])|(refine DT_cond rfl (fun h=>?_) (fun h=>?_)<;>(try simp only [nrm] at h)<;>(try exact Bool.noConfusion h))
 all_goals try simp -dsimp [hR1,hR2,hR3,hlt,hs]
 all_goals try clear hs
 intro l c0 b hll hln hlc
 rw [encP_len] at hll
 have hP1:(L.zip l).map (·.1)=L:=List.map_fst_zip (by omega)
 have hP2:(L.zip l).map (·.2)=l:=List.map_snd_zip (by omega)
 have hPn:((L.zip l).map (·.2)).Nodup:=by rw [hP2];exact hln
 generalize L.zip l=P at *
 subst hP1
 subst hP2
 have hs:True:=trivial
 repeat' first|(with_reducible first|refine q01 ?_|refine q12 ?_)
 all_goals try simp -dsimp [hR1,hR2,hR3,hs]
 all_goals try clear hs
 obtain ⟨f,hf⟩:∃ f,f=looseP (tkM c.reg c.lets):=⟨_,rfl⟩
 have hR8':∀ objs:List DObj,(R.tm.map fun x=>(x.1,fzV 6 objs x.2))=R.tm:=by intro objs;rw [hR5];simp
 have hR4':∀ objs:List DObj,(R.tm.map fun x=>(x.1,fzV 4 objs x.2))=R.tm:=by intro objs;rw [hR5];simp
 refine DT_stop ⟨76,[(0,.one (.yld 3)),(1,.one (.im (.ip [deskC c D (tkM c.reg c.lets)]))),(3,.one (.im (.mp [.int .i64,.int .i64] (encPI ((P.map (·.1)).filter f)))))],[.row [.vec 2 0 0 0],.vec 2 [] 0 true,.vec 0 [] 0 true,.loop R]⟩ ?_ ?_
 refine DT_loop (ι:={ p:List Nat×List Nat×List Spot // p.2.1=(leftP f P p.1).map (·.2)∧p.2.2=(leftP f P p.1).map (·.1) }) (fun p=>⟨76,[(0,.one (.yld 3)),(1,.one (.im (.ip [deskC c D (tkM c.reg c.lets)]))),(3,.one (.map 4)),(37,.one (.itr 5))],[.row [.vec 2 0 0 0],.vec 2 [] 0 true,.vec 0 [] 0 true,.loop R,.map [.st p.1.2.1 c0 b,.int .i64,.int .i64] (encP p.1.2.2),.liter b p.1.1 c0]⟩) (fun p=>unseen P p.1.1) ⟨([],P.map (·.2),P.map (·.1)),by simp [leftP_nil]⟩ (Weak.of_keep [0,1,3,37] (by simp [deskC])) ?_
 rintro ⟨⟨seen,l,K⟩,hl,hK⟩
 simp only at hl hK
 simp only [deskC]
 have hs:True:=trivial
 repeat' first|(with_reducible first|refine q01 ?_|refine q03 ?_|refine q06 ?_|refine q11 ?_|refine q16 ?_)|(with_reducible refine DT_regionE [0,1,2,3,4,5,6,7,8,9,10,12,18,19,20,21,25,26,27,28,37,39,50,54,56,65,66,67,68,74] ?_;simp -dsimp [hR1,hR2,hR3,hs])|(refine DT_cond rfl (fun h=>?_) (fun h=>?_)<;>(try simp only [nrm] at h)<;>(try exact Bool.noConfusion h))|(with_reducible refine imp_At (fun h=>?_);(try simp only [List.map_eq_nil_iff] at h);(try subst h);try simp -dsimp [hR1,hR2,hR3,hs])|with_reducible refine And.intro ?_ ?_
 all_goals try simp -dsimp [hR1,hR2,hR3,hs]
 all_goals try clear hs
 ·have hend:K=(P.map (·.1)).filter f:=by rw [hK];exact leftP_end (by rw [← hl];assumption)
  have hKn:K.Nodup:=by rw [hend];exact hnd.filter _
  exact ⟨rfl,Weak.of_drop [0,1,3] 4 (by simp) (by simp) (by clear hR4 hR5 hR6 hR7 hR8;simp [deskC,hend,hR1,hR2,hR3,hR4',LoopD.at_eta])⟩
 ·intro i s xa xb hx hs1 hns
  obtain ⟨y,hy,rfl,rfl⟩:=encP_get2 hx
  have hgP:(leftP f P seen)[i]?=some (y,s):=by
   rw [hK,List.getElem?_map,Option.map_eq_some_iff] at hy
   rw [hl,List.getElem?_map,Option.map_eq_some_iff] at hs1
   obtain ⟨p,hp1,hp2⟩:=hy
   obtain ⟨q,hq1,hq2⟩:=hs1
   rw [hp1] at hq1
   cases hq1
   rw [hp1,← hp2,← hq2]
  have hmem:(y,s)∈P:=(List.mem_filter.1 (List.mem_of_getElem? hgP)).1
  have hlt2:=unseen_lt hmem hns
  have hln2:l.Nodup:=by rw [hl];exact (hPn.sublist ((List.filter_sublist).map _))
  have hKn:K.Nodup:=by rw [hK];exact (hnd.sublist ((List.filter_sublist).map _))
  have hidx:=idxOf_nodup hln2 hs1
  have hmi:=midx_P hKn hy
  have hmd:=mdel_P hKn hy
  by_cases hk3:(mlookS (tkM c.reg c.lets) y.drawing).kind=3
  ·have hfy:f y=false:=by rw [hf];simp [looseP,hk3]
   have hd:=leftP_del (f:=f) hPn hgP hfy
   have hl2:l.eraseIdx i=(leftP f P (seen ++ [s])).map (·.2):=by rw [hd,map_eraseIdx,← hl]
   have hK2:K.eraseIdx i=(leftP f P (seen ++ [s])).map (·.1):=by rw [hd,map_eraseIdx,← hK]
   have hs:True:=trivial
   repeat' first|(with_reducible first|refine q01 ?_|refine q04 ?_|refine q11 ?_|refine q12 ?_|refine q14 ?_)|(refine DT_regionM (id:=13) (nt:=76) 9 [0,1,3,5,7,8,9,10,12,18,19,20,21,25,26,27,28,37,39,50,54,56,65,66,67,68,74] mixed rfl (by kernel_rfl) ?_;simp -dsimp [hR1,hR2,hR3,hx,hidx,hk3,hmi,hmd,hs])|(with_reducible refine DT_regionE [0,1,2,3,4,5,6,7,8,9,10,12,18,19,20,21,25,26,27,28,37,39,50,54,56,65,66,67,68,74] ?_;simp -dsimp [hR1,hR2,hR3,hx,hidx,hk3,hmi,hmd,hs])|(refine DT_cond rfl (fun h=>?_) (fun h=>?_)<;>(try simp only [nrm] at h)<;>(try exact Bool.noConfusion h))
   all_goals try simp -dsimp [hR1,hR2,hR3,hx,hidx,hk3,hmi,hmd,hs]
   all_goals try clear hs
   exact At.round ⟨(seen ++ [s],l.eraseIdx i,K.eraseIdx i),hl2,hK2⟩ hlt2 (Weak.of_drop [0,1,3,37] 6 (by simp) (by simp) (by clear hR4 hR5 hR6 hR7 hR8;simp [deskC,hR1,hR2,hR3,hR8',LoopD.at_eta]))
  ·have hfy:f y=true:=by rw [hf];simp [looseP,hk3]
   have hd:=leftP_keep (f:=f) (seen:=seen) hPn hmem hfy
   have hl2:l=(leftP f P (seen ++ [s])).map (·.2):=by rw [hd,← hl]
   have hK2:K=(leftP f P (seen ++ [s])).map (·.1):=by rw [hd,← hK]
   have hs:True:=trivial
   repeat' first|(with_reducible first|refine q01 ?_|refine q04 ?_|refine q11 ?_|refine q12 ?_|refine q14 ?_)|(refine DT_regionM (id:=13) (nt:=76) 9 [0,1,3,5,7,8,9,10,12,18,19,20,21,25,26,27,28,37,39,50,54,56,65,66,67,68,74] mixed rfl (by kernel_rfl) ?_;simp -dsimp [hR1,hR2,hR3,hx,hidx,hk3,hmi,hmd,hs])|(with_reducible refine DT_regionE [0,1,2,3,4,5,6,7,8,9,10,12,18,19,20,21,25,26,27,28,37,39,50,54,56,65,66,67,68,74] ?_;simp -dsimp [hR1,hR2,hR3,hx,hidx,hk3,hmi,hmd,hs])|(refine DT_cond rfl (fun h=>?_) (fun h=>?_)<;>(try simp only [nrm] at h)<;>(try exact Bool.noConfusion h))
   all_goals try simp -dsimp [hR1,hR2,hR3,hx,hidx,hk3,hmi,hmd,hs]
   all_goals try clear hs
   exact At.round ⟨(seen ++ [s],l,K),hl2,hK2⟩ hlt2 (Weak.of_drop [0,1,3,37] 6 (by simp) (by simp) (by clear hR4 hR5 hR6 hR7 hR8;simp [deskC,hR1,hR2,hR3,hR8',LoopD.at_eta]))
 have hKn:((P.map (·.1)).filter f).Nodup:=hnd.filter _
 have hKf:(P.map (·.1)).filter f=((spotsOf c).foldl (fun l x=>sputS x l) []).filter (looseP (tkM c.reg c.lets)):=by rw [hL0,hf]
 have hKl:((P.map (·.1)).filter f).length≤1000:=by
  have h1:=List.length_filter_le f (P.map (·.1))
  have h2:=foldP_len (spotsOf c) []
  have h3:=spots_len c.loops hsm.2.2.2
  have h4:=hsm.2.2.1
  rw [← hL0] at h2
  simp only [spotsOf,List.length_nil] at h2
  omega
 generalize (P.map (·.1)).filter f=K at *
 have hs:True:=trivial
 repeat' first|(with_reducible first|refine q01 ?_|refine q11 ?_|refine q12 ?_)|(with_reducible refine DT_regionE [0,1,2,3,4,5,6,7,8,9,10,12,18,19,20,21,25,26,27,28,37,39,50,54,56,65,66,67,68,74] ?_;simp -dsimp [hR1,hR2,hR3,hs])
 all_goals try simp -dsimp [hR1,hR2,hR3,hs]
 all_goals try clear hs
 refine DT_loop (ι:={ p:List Spot×Option (List Value×List IC)×Nat×Bool×List Spot // (p.2.2.2.2 ++ p.1).Perm K }) (fun p=>⟨76,[(0,.one (.yld 3)),(9,.one (.vec 4 p.1.2.2.1 0 p.1.2.2.2.2.length)),(54,.one (.itr 5))],[.row [.vec 2 0 0 0],.vec 2 [] 0 true,.vec 0 [] 0 true,.loop R,.vec 2 (ims (p.1.2.2.2.2.map encSpot)) p.1.2.2.1 p.1.2.2.2.1,.iter (encPI p.1.1) p.1.2.1]⟩) (fun p=>p.1.1.length) ⟨(K,none,0,true,[]),by simp⟩ (Weak.of_keep [0,9,54] (by simp)) ?_
 rintro ⟨⟨left,cur,gn,nl,out⟩,hpm⟩
 simp only at hpm
 have hol:out.length + left.length≤1000:=by
  have:=hpm.length_eq
  rw [List.length_append] at this;omega
 have hs:True:=trivial
 repeat' first|(with_reducible first|refine q01 ?_|refine q03 ?_|refine q06 ?_|refine q11 ?_|refine q16 ?_)|(with_reducible refine DT_regionE [0,1,2,3,4,5,6,7,8,9,10,12,18,19,20,21,25,26,27,28,37,39,50,54,56,65,66,67,68,74] ?_;simp -dsimp [hR1,hR2,hR3,hs])|(refine DT_cond rfl (fun h=>?_) (fun h=>?_)<;>(try simp only [nrm] at h)<;>(try exact Bool.noConfusion h))|(with_reducible refine imp_At (fun h=>?_);(try simp only [List.map_eq_nil_iff] at h);(try subst h);try simp -dsimp [hR1,hR2,hR3,hs])|with_reducible refine And.intro ?_ ?_
 all_goals try simp -dsimp [hR1,hR2,hR3,hs]
 all_goals try clear hs
 ·have hl0:left=[]:=by simpa [encPI] using ‹encPI left=[]›
  rw [hl0,List.append_nil] at hpm
  have hon:out.Nodup:=hpm.symm.nodup hKn
  have c5:DCall Tryz.prog G 115 [.one (.vec 0 gn 0 out.length),.one (.im (.fn (.func 67) []))] [.vec 2 (ims (out.map encSpot)) gn nl] (fun d o=>d=.tup []∧o=[.vec 2 (ims ((allSpots c).map encSpot)) gn nl]):=
   (hSF out gn 2 nl (.inl rfl) (by omega)).mono fun d o ⟨h1,l',h2,h3,h4⟩=>⟨h1,by rw [h4,spots_sorted hOk (by rw [← hKf];exact h2.trans hpm) (sorted_of h2 hon h3)]⟩
  have hSl:out.length=(allSpots c).length:=by
   have h1:=(spots_perm hOk).length_eq
   have h2:=hpm.length_eq
   rw [h1,h2,hKf]
  generalize allSpots c=S at *
  have hSl':S.length≤1000:=by omega
  have hs:True:=trivial
  repeat' first|(with_reducible first|refine q01 ?_|refine q11 ?_|refine q12 ?_)|(refine CallE.embed [4] (c5) ?_ ?_ ?_ ?_ ?_ ?_;(focus (simp [emb];done));(focus (simp;done));(focus (simp;done));(focus (simp;done));(focus (refine emb_all ?_;simp [emb,embAll];done));try simp -dsimp [mergeO,emb,hR1,hR2,hR3,hs])|(with_reducible refine DT_regionE [0,1,2,3,4,5,6,7,8,9,10,12,18,19,20,21,25,26,27,28,37,39,50,54,56,65,66,67,68,74] ?_;simp -dsimp [hR1,hR2,hR3,hs])
  all_goals try simp -dsimp [hR1,hR2,hR3,hs]
  all_goals try clear hs
  rw [hSl]
  refine DT_loop (ι:={ p:Nat×Nat×Nat×Bool // p.1≤S.length∧(p.2.2.1=2∨p.2.2.2=true) }) (fun p=>⟨76,[(0,.one (.yld 3)),(65,.one (.im (.sl (S.map encSpot)))),(66,iv (S.length:Int)),(67,iv (p.1.1:Int))],[.row [.vec 2 p.1.2.1 0 p.1.1],.vec 2 [] 0 true,.vec p.1.2.2.1 (ims ((S.take p.1.1).map encSpot)) p.1.2.1 p.1.2.2.2,.loop R]⟩) (fun p=>S.length - p.1.1) ⟨(0,0,0,true),by simp⟩ (Weak.of_drop [0,65,66,67] 4 (by simp) (by simp) (by clear hR4 hR5 hR6 hR7 hR8;simp [hR1,hR2,hR3,hR4',LoopD.at_eta])) ?_
  rintro ⟨⟨k,gn,sz,nl⟩,hk,hz⟩
  simp only at hk hz
  simp only [iv]
  have htk:(ims ((S.map encSpot).take k)).take k=ims ((S.map encSpot).take k):=List.take_of_length_le (by simp [ims_length];omega)
  by_cases hlt:k < S.length
  ·have hx:S[k]?=some S[k]:=by simp [hlt]
   have hw:IntKind.i64.wrap ((k:Int) + 1)=((k + 1:Nat):Int):=i64w (by omega) (by omega)
   have hmin:min k S.length=k:=Nat.min_eq_left (by omega)
   have hsn:(S.map encSpot).take (k + 1)=(S.map encSpot).take k ++ [encSpot S[k]]:=by
    rw [List.take_succ];simp [hx]
   have hs:True:=trivial
   repeat' first|(with_reducible first|refine q01 ?_|refine q04 ?_|refine q11 ?_|refine q12 ?_|refine q14 ?_|refine And.intro (by omega) ?_)|(with_reducible refine At.yield_end ?_;simp -dsimp [hR1,hR2,hR3,hx,hw,hlt,hz,hmin,hs])|(refine At_busy ?_ ?_<;>simp -dsimp [hR1,hR2,hR3,hx,hw,hlt,hz,hmin,hs])|(refine YieldE_go ?_;simp -dsimp [YieldR,hR4,hR5,hR6,hR7,hR8,hR1,hR2,hR3,hx,hw,hlt,hz,hmin,hs])|(with_reducible refine DT_regionE [0,1,2,3,4,5,6,7,8,9,10,12,18,19,20,21,25,26,27,28,37,39,50,54,56,65,66,67,68,74] ?_;simp -dsimp [hR1,hR2,hR3,hx,hw,hlt,hz,hmin,hs])|(refine DT_cond rfl (fun h=>?_) (fun h=>?_)<;>(try simp only [nrm] at h)<;>(try exact Bool.noConfusion h))
   all_goals try simp -dsimp [hR1,hR2,hR3,hx,hw,hlt,hz,hmin,hs]
   all_goals try clear hs
   all_goals try omega
   exact At.round ⟨(k + 1,gn + 1,2,false),by simp;omega⟩ (by simp;omega) (Weak.of_drop [0,65,66,67] 4 (by simp) (by simp) (by clear hR4 hR5 hR6 hR7 hR8;simp [hR1,hR2,hR3,hR4',LoopD.at_eta,hsn,htk,ims_append]))
  ·have hkl:k=S.length:=by omega
   subst hkl
   have hall:(S.map encSpot).take S.length=S.map encSpot:=List.take_of_length_le (by simp)
   rw [hall] at htk
   have hs:True:=trivial
   repeat' first|(with_reducible first|refine q01 ?_|refine q03 ?_|refine q04 ?_|refine q06 ?_|refine q11 ?_|refine q16 ?_|refine q17 ?_)|(with_reducible refine At.fn_ret (by simp -dsimp [hR1,hR2,hR3,hall,htk,hs];exact rfl) ?_)|(with_reducible refine At.fn_end (by simp -dsimp [hR1,hR2,hR3,hall,htk,hs];exact rfl) ?_)|(with_reducible show LoopR _ _ _ _ _ _ _ _;simp -dsimp [LoopR,hR1,hR2,hR3,hall,htk,hs])|(with_reducible refine DT_regionE [0,1,2,3,4,5,6,7,8,9,10,12,18,19,20,21,25,26,27,28,37,39,50,54,56,65,66,67,68,74] ?_;simp -dsimp [hR1,hR2,hR3,hall,htk,hs])|(refine DT_cond rfl (fun h=>?_) (fun h=>?_)<;>(try simp only [nrm] at h)<;>(try exact Bool.noConfusion h))
   all_goals try simp -dsimp [hR1,hR2,hR3,hall,htk,hs]
   all_goals try clear hs
 ·intro i xa xb hi
  obtain ⟨y,hy,rfl,rfl⟩:=encPI_get hi
  rw [encPI_erase]
  have hlen:(left.eraseIdx i).length < left.length:=by
   have:=lt_of_getElem? hy
   rw [List.length_eraseIdx];split<;>omega
  have hp2:((out ++ [y]) ++ left.eraseIdx i).Perm K:=by
   refine List.Perm.trans ?_ hpm
   rw [List.append_assoc]
   refine List.Perm.append_left _ ?_
   exact perm_erase hy
  have hs:True:=trivial
  repeat' first|(with_reducible first|refine q01 ?_|refine q04 ?_|refine q11 ?_|refine q12 ?_|refine q14 ?_|refine And.intro (by omega) ?_)|(with_reducible refine DT_regionE [0,1,2,3,4,5,6,7,8,9,10,12,18,19,20,21,25,26,27,28,37,39,50,54,56,65,66,67,68,74] ?_;simp -dsimp [hR1,hR2,hR3,hs])|(refine DT_cond rfl (fun h=>?_) (fun h=>?_)<;>(try simp only [nrm] at h)<;>(try exact Bool.noConfusion h))
  all_goals try simp -dsimp [hR1,hR2,hR3,hs]
  all_goals try clear hs
  all_goals try omega
  exact At.round ⟨(left.eraseIdx i,some ([.int .i64 y.drawing,.int .i64 y.dim],[.raw (.bool true)]),gn + 1,false,out ++ [y]),hp2⟩ hlen (Weak.of_drop [0,9,54] 6 (by simp) (by simp) (by clear hR4 hR5 hR6 hR7 hR8;simp [hR1,hR2,hR3,hR8',LoopD.at_eta]))
end Go.Proofs
namespace Go.Proofs
open Go Go.Ab
set_option linter.unusedSimpArgs false
variable {G:Nat→Option (List IC)}
theorem rMiddle_c (d:Dim) (objs:List DObj):DCall Tryz.prog G 39 [dimv d] objs (fun rr objs'=>rr=iv (midD d)∧objs'=objs):=by
 refine DCall.frame ?_ (by simp) (by simp) objs
 refine DCall_intro Tryz.func39 rfl Tryz.ntmps39 (by simp) rfl ?_
 try simp only [dimv]
 have hs:True:=trivial
 repeat' first|(with_reducible first|refine q01 ?_|refine q11 ?_|refine q17 ?_)|(with_reducible refine At.fn_ret (by simp -dsimp [hs];exact rfl) ?_)|(with_reducible refine DT_regionE [0,1,2] ?_;simp -dsimp [hs])
 all_goals try simp -dsimp [hs]
 all_goals try clear hs
 simp [midD]
end Go.Proofs
namespace Go.Proofs
open Go Go.Ab
set_option linter.unusedSimpArgs false
variable {G:Nat→Option (List IC)}
attribute [simp] permL reO gones noLoop nilV nilX ZK
theorem collect_c (c:Chains) (D:List (Int×Int)) (hOk:OkC c) (hsm:SmallC c) (hSF:SortFOk G) (objs:List DObj):DCall Tryz.prog G 64 [.one (.im (.fn (.func 113) [.ip [deskC c D (tkM c.reg c.lets)]]))] objs (fun rr objs'=>rr=.one (.im (.sl ((allSpots c).map encSpot)))∧objs'=objs):=by
 refine DCall.frame ?_ (by simp) (by simp) objs
 refine DCall_intro Tryz.func64 rfl Tryz.ntmps64 (by simp) rfl ?_
 try simp only [iv]
 have c1:=appendSeq_c (G:=G) c D hOk hsm hSF
 simp only [deskC] at c1
 simp only [deskC]
 have hs:True:=trivial
 repeat' first|(with_reducible first|refine q01 ?_|refine q11 ?_|refine q17 ?_)|(with_reducible refine At.fn_ret (by simp -dsimp [hs];exact rfl) ?_)|(refine CallE.pure (c1) ?_;try simp -dsimp [hs])|(with_reducible refine DT_regionR [0,2] ?_;simp -dsimp [hs])
 all_goals try simp -dsimp [hs]
 all_goals try clear hs
def spotsR (c:Chains):List Spot:=if chainsE c=0 then allSpots c else []
theorem pSpots_c (c:Chains) (hG:sheetG G) (hC:chainG G) (hsm:SmallC c) (hSF:SortFOk G) (objs:List DObj):DCall Tryz.prog G 36 [chv c] objs (fun rr objs'=>rr=.tup [spotsv (spotsR c),iv (chainsE c)]∧objs'=objs):=by
 refine DCall.frame ?_ (by simp) (by simp) objs
 refine DCall_intro Tryz.func36 rfl Tryz.ntmps36 (by simp) rfl ?_
 try simp only [chv]
 have c1:=chOpen_c c hG hC hsm
 simp only [spotsv]
 by_cases h00:chainsE c=0
 ·have hOk:=okC h00
  have c2:=spotsF_c (G:=G) (deskC c (cntD c) (tkM c.reg c.lets))
  have c3:=collect_c (G:=G) c (cntD c) hOk hsm hSF
  rw [h00] at c1
  rw [spotsR,if_pos h00,h00]
  simp only [deskR,h00,if_true,deskC] at c1
  simp only [deskC] at c2 c3
  have hs:True:=trivial
  repeat' first|(with_reducible first|refine q01 ?_|refine q11 ?_|refine q14 ?_|refine q17 ?_)|(with_reducible refine At.fn_ret (by simp -dsimp [hs];exact rfl) ?_)|(refine CallE.pure (c1) ?_;try simp -dsimp [hs])|(refine CallE.pure (c2) ?_;try simp -dsimp [hs])|(refine CallE.pure (c3) ?_;try simp -dsimp [hs])|(with_reducible refine DT_regionE [0,1,2,3,4,5,12] ?_;simp -dsimp [hs])|(refine DT_cond rfl (fun h=>?_) (fun h=>?_)<;>(try simp only [nrm] at h)<;>(try exact Bool.noConfusion h))
  all_goals try simp -dsimp [hs]
  all_goals try clear hs
 ·obtain ⟨X,hX⟩:=deskR_one c
  rw [hX] at c1
  rw [spotsR,if_neg h00]
  have hs:True:=trivial
  repeat' first|(with_reducible first|refine q01 ?_|refine q02 ?_|refine q11 ?_|refine q17 ?_)|(with_reducible refine At.fn_ret (by simp -dsimp [h00,hs];exact rfl) ?_)|(refine CallE.pure (c1) ?_;try simp -dsimp [h00,hs])|(with_reducible refine DT_regionE [0,1,2,3,4,5,12] ?_;simp -dsimp [h00,hs])|(refine DT_cond rfl (fun h=>?_) (fun h=>?_)<;>(try simp only [nrm] at h)<;>(try exact Bool.noConfusion h))
  all_goals try simp -dsimp [h00,hs]
  all_goals try clear hs
theorem rBefore_c (a b:Spot) (objs:List DObj):DCall Tryz.prog G 76 [refv a.drawing a.dim,refv b.drawing b.dim] objs (fun rr objs'=>rr=bv (before a b)∧objs'=objs):=by
 refine DCall.frame ?_ (by simp) (by simp) objs
 refine DCall_intro Tryz.func76 rfl Tryz.ntmps76 (by simp) rfl ?_
 try simp only [refv,refv]
 have hE:before a b=(decide (a.drawing < b.drawing) || (decide (a.drawing=b.drawing) && decide (a.dim < b.dim))):=rfl
 have hs:True:=trivial
 repeat' first|(with_reducible first|refine q01 ?_|refine q11 ?_|refine q17 ?_)|(with_reducible refine At.fn_ret (by simp -dsimp [hs];exact rfl) ?_)|(with_reducible refine DT_regionE [0,1,2,3,4] ?_;simp -dsimp [hs])|(with_reducible refine GStop_split ?_ ?_<;>intro h<;>have h0:=h<;>(try simp only [nrm] at h)<;>(try exact Bool.noConfusion h)<;>have h2:=h<;>(try simp at h2)<;>(replace hs:=And.intro h0 (And.intro h (And.intro h2 hs)))<;>simp -dsimp [h0,h,h2,hs])
 all_goals try simp -dsimp [hs]
 all_goals try clear hs
 all_goals simp_all
theorem sameSpots_c (l:List Spot) (hl:l.length < 1000000) (objs:List DObj):DCall Tryz.prog G 22 [spotsv l,spotsv l] objs (fun rr objs'=>rr=bv true∧objs'=objs):=by
 refine DCall.frame ?_ (by simp) (by simp) objs
 refine DCall_intro Tryz.func22 rfl Tryz.ntmps22 (by simp) rfl ?_
 try simp only [iv]
 simp only [spotsv]
 have hs:True:=trivial
 repeat' first|(with_reducible first|refine q01 ?_|refine q11 ?_|refine q12 ?_|refine q14 ?_)|(with_reducible refine DT_regionE [0,1,4,5,10,14,25] ?_;simp -dsimp [hs])|(refine DT_cond rfl (fun h=>?_) (fun h=>?_)<;>(try simp only [nrm] at h)<;>(try exact Bool.noConfusion h))
 all_goals try simp -dsimp [hs]
 all_goals try clear hs
 refine DT_loop (ι:={ i:Nat // i≤l.length }) (fun p=>⟨26,[(0,.one (.im (.sl (l.map encSpot)))),(1,.one (.im (.sl (l.map encSpot)))),(5,iv (p.1:Int))],[]⟩) (fun p=>l.length - p.1) ⟨0,by simp⟩ (Weak.of_keep [0,1,5] (by simp)) ?_
 rintro ⟨i,hi⟩
 simp only [iv]
 by_cases hlt:i < l.length
 ·have hx:l[i]?=some l[i]:=by simp [hlt]
  have hw:IntKind.i64.wrap ((i:Int) + 1)=((i + 1:Nat):Int):=i64w (by omega) (by omega)
  have hs:True:=trivial
  repeat' first|(with_reducible first|refine q01 ?_|refine q04 ?_|refine q11 ?_|refine q12 ?_|refine q14 ?_)|(refine DT_regionM (id:=6) (nt:=26) 9 [0,1,4,5,10,14,25] mixed rfl (by kernel_rfl) ?_;simp -dsimp [hx,hw,hlt,hs])|(with_reducible refine DT_regionE [0,1,4,5,10,14,25] ?_;simp -dsimp [hx,hw,hlt,hs])|(refine DT_cond rfl (fun h=>?_) (fun h=>?_)<;>(try simp only [nrm] at h)<;>(try exact Bool.noConfusion h))
  all_goals try simp -dsimp [hx,hw,hlt,hs]
  all_goals try clear hs
  exact At.round ⟨i + 1,by omega⟩ (by simp;omega) (Weak.of_drop [0,1,5] 0 (by simp) (by simp) (by simp))
 ·have hs:True:=trivial
  repeat' first|(with_reducible first|refine q01 ?_|refine q03 ?_|refine q06 ?_|refine q11 ?_|refine q16 ?_|refine q17 ?_)|(with_reducible refine At.fn_ret (by simp -dsimp [hlt,hs];exact rfl) ?_)|(with_reducible refine DT_regionE [0,1,4,5,10,14,25] ?_;simp -dsimp [hlt,hs])|(refine DT_cond rfl (fun h=>?_) (fun h=>?_)<;>(try simp only [nrm] at h)<;>(try exact Bool.noConfusion h))
  all_goals try simp -dsimp [hlt,hs]
  all_goals try clear hs
end Go.Proofs
namespace Go.Proofs
open Go Go.Ab
set_option linter.unusedSimpArgs false
variable {G:Nat→Option (List IC)}
theorem SoF.congr {c:Chains} {fv:IC} {so so':Spot→Bool} (h:SoF G c fv so) (he:∀ x∈spotsOf c,so x=so' x):SoF G c fv so':=by
 rcases h with ⟨f,caps,h1,h2,h3⟩|⟨f,caps,h1,h2,h3⟩
 ·exact .inl ⟨f,caps,h1,h2,fun x hx objs=>(h3 x hx objs).mono fun d o ⟨a,b⟩=>⟨by rw [a,he x hx],b⟩⟩
 ·exact .inr ⟨f,caps,h1,h2,fun x hx objs=>(h3 x hx objs).mono fun d o ⟨a,b⟩=>⟨by rw [a,he x hx],b⟩⟩
theorem loose_c (c:Chains) (D:List (Int×Int)) (B:List (Int×Issue)) (d k:Int) (objs:List DObj):DCall Tryz.prog G 93 [.one (.im (deskC c D B)),refv d k] objs (fun rr objs'=>rr=bv (looseP B ⟨d,k⟩)∧objs'=objs):=by
 refine DCall.frame ?_ (by simp) (by simp) objs
 refine DCall_intro Tryz.func93 rfl Tryz.ntmps93 (by simp) rfl ?_
 try simp only [refv]
 simp only [deskC]
 have hs:True:=trivial
 repeat' first|(with_reducible first|refine q01 ?_|refine q11 ?_|refine q17 ?_)|(with_reducible refine At.fn_ret (by simp -dsimp [hs];exact rfl) ?_)|(refine DT_regionM (id:=1) (nt:=14) 10 [0,1,3,4] mixed rfl (by kernel_rfl) ?_;simp -dsimp [hs])|(with_reducible refine DT_regionE [0,1,3,4] ?_;simp -dsimp [hs])
 all_goals try simp -dsimp [hs]
 all_goals try clear hs
 all_goals simp [looseP]
def looseF (c:Chains) (D:List (Int×Int)):IC:=.bf (.func 93) [deskC c D (tkM c.reg c.lets)]
theorem loose_so {c:Chains} (h:OkC c) (D:List (Int×Int)):SoF G c (looseF c D) (looseR c):=
 SoF.congr (.inr ⟨93,_,rfl,by simp,fun x _ objs=>loose_c (G:=G) c D (tkM c.reg c.lets) x.drawing x.dim objs⟩) fun x hx=>loose_eq h hx
def SoN (G:Nat→Option (List IC)) (fv:IC) (lo hi:Int) (p:Int→Bool):Prop:=
 ∃ (f:FuncId) (caps:List IC),fv=.fn (.func f) caps∧CallOk Tryz.prog f∧∀ n,lo≤n→n≤hi→∀ objs,DCall Tryz.prog G f (iv n :: caps.map fun c=>.one (.im c)) objs (fun d o=>d=bv (p n)∧o=objs)
set_option maxHeartbeats 1000000 in
theorem greatest_c (fv:IC) (p:Int→Bool) (lo hi:Int) (hlo:0≤lo) (hhi:hi≤2000000000) (hp:SoN G fv lo hi p) (objs:List DObj):DCall Tryz.prog G 137 [iv lo,iv hi,.one (.im fv)] objs (fun rr objs'=>rr=iv (gsI p lo hi)∧objs'=objs):=by
 refine DCall.frame ?_ (by simp) (by simp) objs
 refine DCall_intro Tryz.func137 rfl Tryz.ntmps137 (by simp) rfl ?_
 try simp only [iv,iv]
 obtain ⟨f,caps,rfl,hf,hcall⟩:=hp
 have hs:True:=trivial
 repeat' first|(with_reducible first|refine q01 ?_|refine q11 ?_|refine q12 ?_)|(with_reducible refine DT_regionE [0,1,2,6,7,10,19] ?_;simp -dsimp [hs])
 all_goals try simp -dsimp [hs]
 all_goals try clear hs
 refine DT_loop (ι:={ q:Int×Int // lo≤q.1∧q.2≤hi∧(q.1≤q.2∨q.1=lo)∧gsI p lo hi=gsI p q.1 q.2 }) (fun q=>⟨24,[(0,iv q.1.1),(1,iv q.1.2),(2,.one (.im (.fn (.func f) caps)))],[]⟩) (fun q=>(q.1.2 - q.1.1).toNat) ⟨(lo,hi),by simp⟩ (Weak.of_keep [0,1,2] (by simp)) ?_
 rintro ⟨⟨a,b⟩,ha,hb,hab,hE⟩
 simp only at ha hb hab hE
 simp only [iv]
 by_cases hlt:a < b
 ·have hst:=gsI_step (p:=p) hlt
  have hw1:IntKind.i64.wrap (b - a)=b - a:=i64w (by omega) (by omega)
  have hd:(b - a).tdiv 2=(b - a) / 2:=by rw [Int.tdiv_eq_ediv_of_nonneg (by omega)]
  have hw2:IntKind.i64.wrap ((b - a) / 2)=(b - a) / 2:=i64w (by omega) (by omega)
  have hw3:IntKind.i64.wrap (b - (b - a) / 2)=b - (b - a) / 2:=i64w (by omega) (by omega)
  have hw4:IntKind.i64.wrap (b - (b - a) / 2 - 1)=b - (b - a) / 2 - 1:=i64w (by omega) (by omega)
  have c1:=hcall (b - (b - a) / 2) (by omega) (by omega)
  have hm1:a < b - (b - a) / 2:=by omega
  have hm2:b - (b - a) / 2≤b:=by omega
  generalize hm:b - (b - a) / 2=m at *
  cases hq:p m
  ·rw [hq] at c1 hst
   simp only [Bool.false_eq_true,if_false] at hst
   have hs:True:=trivial
   repeat' first|(with_reducible first|refine q01 ?_|refine q04 ?_|refine q11 ?_|refine q12 ?_|refine q14 ?_)|(refine CallE.pure (c1) ?_;try simp -dsimp [hlt,hw1,hd,hw2,hw3,hw4,hm,hf,hs])|(with_reducible refine DT_regionE [0,1,2,6,7,10,19] ?_;simp -dsimp [hlt,hw1,hd,hw2,hw3,hw4,hm,hf,hs])|(refine DT_cond rfl (fun h=>?_) (fun h=>?_)<;>(try simp only [nrm] at h)<;>(try exact Bool.noConfusion h))
   all_goals try simp -dsimp [hlt,hw1,hd,hw2,hw3,hw4,hm,hf,hs]
   all_goals try clear hs
   exact At.round ⟨(a,m - 1),by omega,by omega,by omega,hE.trans hst⟩ (by simp;omega) (Weak.of_keep [0,1,2] (by simp))
  ·rw [hq,if_pos rfl] at hst
   rw [hq] at c1
   have hs:True:=trivial
   repeat' first|(with_reducible first|refine q01 ?_|refine q04 ?_|refine q11 ?_|refine q12 ?_|refine q14 ?_)|(refine CallE.pure (c1) ?_;try simp -dsimp [hlt,hw1,hd,hw2,hw3,hw4,hm,hf,hs])|(with_reducible refine DT_regionE [0,1,2,6,7,10,19] ?_;simp -dsimp [hlt,hw1,hd,hw2,hw3,hw4,hm,hf,hs])|(refine DT_cond rfl (fun h=>?_) (fun h=>?_)<;>(try simp only [nrm] at h)<;>(try exact Bool.noConfusion h))
   all_goals try simp -dsimp [hlt,hw1,hd,hw2,hw3,hw4,hm,hf,hs]
   all_goals try clear hs
   exact At.round ⟨(m,b),by omega,by omega,by omega,hE.trans hst⟩ (by simp;omega) (Weak.of_keep [0,1,2] (by simp))
 ·have:gsI p a b=a:=gsI_end (by omega)
  rw [this] at hE
  have hs:True:=trivial
  repeat' first|(with_reducible first|refine q01 ?_|refine q03 ?_|refine q06 ?_|refine q11 ?_|refine q16 ?_|refine q17 ?_)|(with_reducible refine At.fn_ret (by simp -dsimp [hlt,hs];exact rfl) ?_)|(with_reducible refine DT_regionE [0,1,2,6,7,10,19] ?_;simp -dsimp [hlt,hs])|(refine DT_cond rfl (fun h=>?_) (fun h=>?_)<;>(try simp only [nrm] at h)<;>(try exact Bool.noConfusion h))
  all_goals try simp -dsimp [hlt,hs]
  all_goals try clear hs
  all_goals rw [hE]
theorem shut_c (c:Chains) (D:List (Int×Int)) (n:Int) (h:OkC c) (hl:c.loops.length≤10) (h0:0≤n) (h1:n≤2000000000) (objs:List DObj):DCall Tryz.prog G 136 [iv n,.one (.im (.ip [deskC c D (tkM c.reg c.lets)]))] objs (fun rr objs'=>rr=bv (allT c (looseR c) n)∧objs'=objs):=by
 refine DCall.frame ?_ (by simp) (by simp) objs
 refine DCall_intro Tryz.func136 rfl Tryz.ntmps136 (by simp) rfl ?_
 try simp only [iv]
 have c1:=pwrong_c (G:=G) c D (looseF c D) (looseR c) n 0 (Nat.zero_le _) hl h (loose_so h D) h0 h1
 have hE:=allT_find c (looseR c) n
 generalize allT c (looseR c) n=r at *
 generalize findW c (looseR c) n 0=m at *
 simp only [deskC,looseF,Int.natCast_zero] at c1
 simp only [deskC]
 by_cases hm:m=c.loops.length
 ·have hr:r=true:=hE.2 hm
  have hm':(m:Int)=(c.loops.length:Int):=by omega
  have hs:True:=trivial
  repeat' first|(with_reducible first|refine q01 ?_|refine q11 ?_|refine q17 ?_)|(with_reducible refine At.fn_ret (by simp -dsimp [hm',hs];exact rfl) ?_)|(refine QCall_pure (c1) ?_;try simp -dsimp [hm',hs])|(refine DT_regionM (id:=1) (nt:=16) 13 [0,1,3] mixed rfl (by kernel_rfl) ?_;simp -dsimp [hm',hs])|(with_reducible refine DT_regionE [0,1,3] ?_;simp -dsimp [hm',hs])
  all_goals try simp -dsimp [hm',hs]
  all_goals try clear hs
  all_goals simp [hr]
 ·have hr:r=false:=by
   cases hq:r with
   | false=>rfl
   | true=>exact absurd (hE.1 hq) hm
  have hm':¬ (m:Int)=(c.loops.length:Int):=by omega
  have hs:True:=trivial
  repeat' first|(with_reducible first|refine q01 ?_|refine q11 ?_|refine q17 ?_)|(with_reducible refine At.fn_ret (by simp -dsimp [hm,hm',hs];exact rfl) ?_)|(refine QCall_pure (c1) ?_;try simp -dsimp [hm,hm',hs])|(refine DT_regionM (id:=1) (nt:=16) 13 [0,1,3] mixed rfl (by kernel_rfl) ?_;simp -dsimp [hm,hm',hs])|(with_reducible refine DT_regionE [0,1,3] ?_;simp -dsimp [hm,hm',hs])
  all_goals try simp -dsimp [hm,hm',hs]
  all_goals try clear hs
  all_goals simp [hr]
theorem shut_so {c:Chains} (D:List (Int×Int)) (h:OkC c) (hl:c.loops.length≤10):SoN G (.fn (.func 136) [.ip [deskC c D (tkM c.reg c.lets)]]) 0 maxG (allT c (looseR c)):=
 ⟨136,_,rfl,by simp,fun n h0 h1 objs=>shut_c (G:=G) c D n h hl h0 (by unfold maxG at h1;omega) objs⟩
def gradeV (c:Chains):Int:=if hasG c then gradeN c else 0
theorem grade_c (c:Chains) (D:List (Int×Int)) (h:OkC c) (hl:c.loops.length≤10) (objs:List DObj):DCall Tryz.prog G 92 [.one (.im (deskC c D (tkM c.reg c.lets)))] objs (fun rr objs'=>rr=.tup [iv (gradeV c),bv (hasG c)]∧objs'=objs):=by
 refine DCall.frame ?_ (by simp) (by simp) objs
 refine DCall_intro Tryz.func92 rfl Tryz.ntmps92 (by simp) rfl ?_
 try simp only [iv]
 have c1:=shut_c (G:=G) c D 0 h hl (by decide) (by decide)
 have c2:=greatest_c (G:=G) _ _ 0 maxG (by decide) (by decide) (shut_so (G:=G) D h hl)
 have hH:hasG c=allT c (looseR c) 0:=rfl
 have hN:gradeN c=gsI (allT c (looseR c)) 0 maxG:=rfl
 rw [← hH] at c1
 rw [← hN] at c2
 simp only [deskC,maxG] at c1 c2
 simp only [deskC,gradeV]
 clear hH hN
 generalize gradeN c=N at *
 cases hq:hasG c
 ·rw [hq] at c1
  have hs:True:=trivial
  repeat' first|(with_reducible first|refine q01 ?_|refine q02 ?_|refine q11 ?_|refine q17 ?_)|(with_reducible refine At.fn_ret (by simp -dsimp [hs];exact rfl) ?_)|(refine CallE.thaw (c1) ?_ ?_ ?_;(focus (simp;done));(focus (simp;done));try simp -dsimp [hs])|(with_reducible refine DT_regionE [0,1,2,3,4,8] ?_;simp -dsimp [hs])|(refine DT_cond rfl (fun h=>?_) (fun h=>?_)<;>(try simp only [nrm] at h)<;>(try exact Bool.noConfusion h))
  all_goals try simp -dsimp [hs]
  all_goals try clear hs
 ·rw [hq] at c1
  have hs:True:=trivial
  repeat' first|(with_reducible first|refine q01 ?_|refine q11 ?_|refine q14 ?_|refine q17 ?_)|(with_reducible refine At.fn_ret (by simp -dsimp [hs];exact rfl) ?_)|(refine CallE.thaw (c1) ?_ ?_ ?_;(focus (simp;done));(focus (simp;done));try simp -dsimp [hs])|(refine CallE.thaw (c2) ?_ ?_ ?_;(focus (simp;done));(focus (simp;done));try simp -dsimp [hs])|(with_reducible refine DT_regionE [0,1,2,3,4,8] ?_;simp -dsimp [hs])|(refine DT_cond rfl (fun h=>?_) (fun h=>?_)<;>(try simp only [nrm] at h)<;>(try exact Bool.noConfusion h))
  all_goals try simp -dsimp [hs]
  all_goals try clear hs
def gradeE (c:Chains):Int:=if chainsE c≠0 then chainsE c else if hasG c then 0 else 6
def gradeR (c:Chains):Int:=if chainsE c=0 then gradeV c else 0
theorem pGrade_c (c:Chains) (hG:sheetG G) (hC:chainG G) (hsm:SmallC c) (objs:List DObj):DCall Tryz.prog G 34 [chv c] objs (fun rr objs'=>rr=.tup [iv (gradeR c),iv (gradeE c)]∧objs'=objs):=by
 refine DCall.frame ?_ (by simp) (by simp) objs
 refine DCall_intro Tryz.func34 rfl Tryz.ntmps34 (by simp) rfl ?_
 try simp only [chv]
 have c1:=chOpen_c c hG hC hsm
 by_cases h00:chainsE c=0
 ·have hOk:=okC h00
  have c2:=grade_c (G:=G) c (cntD c) hOk hsm.2.2.1
  rw [h00] at c1
  rw [gradeR,if_pos h00,gradeE,if_neg (by simp [h00]),gradeV]
  rw [gradeV] at c2
  simp only [deskR,h00,if_true,deskC] at c1
  simp only [deskC] at c2
  generalize gradeN c=N at *
  cases hq:hasG c
  all_goals simp only [hq] at c2
  ·have hs:True:=trivial
   repeat' first|(with_reducible first|refine q01 ?_|refine q02 ?_|refine q11 ?_|refine q14 ?_|refine q17 ?_)|(with_reducible refine At.fn_ret (by simp -dsimp [hs];exact rfl) ?_)|(refine CallE.pure (c1) ?_;try simp -dsimp [hs])|(refine CallE.pure (c2) ?_;try simp -dsimp [hs])|(with_reducible refine DT_regionE [0,1,2,3,4,5,6,7,14,22] ?_;simp -dsimp [hs])|(refine DT_cond rfl (fun h=>?_) (fun h=>?_)<;>(try simp only [nrm] at h)<;>(try exact Bool.noConfusion h))
   all_goals try simp -dsimp [hs]
   all_goals try clear hs
  ·have hs:True:=trivial
   repeat' first|(with_reducible first|refine q01 ?_|refine q11 ?_|refine q14 ?_|refine q17 ?_)|(with_reducible refine At.fn_ret (by simp -dsimp [hs];exact rfl) ?_)|(refine CallE.pure (c1) ?_;try simp -dsimp [hs])|(refine CallE.pure (c2) ?_;try simp -dsimp [hs])|(with_reducible refine DT_regionE [0,1,2,3,4,5,6,7,14,22] ?_;simp -dsimp [hs])|(refine DT_cond rfl (fun h=>?_) (fun h=>?_)<;>(try simp only [nrm] at h)<;>(try exact Bool.noConfusion h))
   all_goals try simp -dsimp [hs]
   all_goals try clear hs
 ·obtain ⟨X,hX⟩:=deskR_one c
  rw [hX] at c1
  rw [gradeR,if_neg h00,gradeE,if_pos h00]
  have hs:True:=trivial
  repeat' first|(with_reducible first|refine q01 ?_|refine q02 ?_|refine q11 ?_|refine q17 ?_)|(with_reducible refine At.fn_ret (by simp -dsimp [h00,hs];exact rfl) ?_)|(refine CallE.pure (c1) ?_;try simp -dsimp [h00,hs])|(with_reducible refine DT_regionE [0,1,2,3,4,5,6,7,14,22] ?_;simp -dsimp [h00,hs])|(refine DT_cond rfl (fun h=>?_) (fun h=>?_)<;>(try simp only [nrm] at h)<;>(try exact Bool.noConfusion h))
  all_goals try simp -dsimp [h00,hs]
  all_goals try clear hs
def proofOk (c:Chains):Bool:=hasG c && decide (gradeN c≠maxG)
def proofE (c:Chains):Int:=if chainsE c≠0 then chainsE c else if proofOk c then 0 else 6
def proofL (c:Chains):Nat:=findW c (looseR c) (gradeN c + 1) 0
def proofX (c:Chains):ChLoop:=lpAt c (proofL c:Int)
def proofS (c:Chains):List Int:=endsL (proofX c).links (szT c (looseR c) (gradeN c + 1) (proofX c)) (!decide (hiT c (looseR c) (gradeN c + 1) (proofX c)≤(proofX c).hi))
def prL (c:Chains):Int:=if proofE c=0 then (proofL c:Int) else 0
def prS (c:Chains):List Int:=if proofE c=0 then proofS c else []
theorem proof_lt {c:Chains} (hOk:OkC c) (h:proofOk c=true):proofL c < c.loops.length∧0≤gradeN c + 1∧gradeN c + 1≤1000000000:=by
 simp only [proofOk,Bool.and_eq_true,decide_eq_true_eq] at h
 obtain ⟨h1,h2,h3,h4⟩:=grade_spec hOk h.1
 have h5:=h4 (gradeN c + 1) (by omega) (by have:=h.2;omega)
 obtain ⟨_,k2,_,_⟩:=findW_spec c (looseR c) (gradeN c + 1) _ 0 rfl (Nat.zero_le _)
 refine ⟨?_,by omega,by have:=h.2;unfold maxG at h3 this;omega⟩
 refine Nat.lt_of_le_of_ne k2 fun e=>?_
 rw [(allT_find c (looseR c) (gradeN c + 1)).2 e] at h5
 cases h5
set_option maxHeartbeats 1000000 in
theorem pProof_c (c:Chains) (hG:sheetG G) (hC:chainG G) (hsm:SmallC c) (objs:List DObj):DCall Tryz.prog G 35 [chv c] objs (fun rr objs'=>rr=.tup [iv (prL c),isv (prS c),iv (proofE c)]∧objs'=objs):=by
 refine DCall.frame ?_ (by simp) (by simp) objs
 refine DCall_intro Tryz.func35 rfl Tryz.ntmps35 (by simp) rfl ?_
 try simp only [chv]
 have c1:=chOpen_c c hG hC hsm
 by_cases h00:chainsE c=0
 ·have hOk:=okC h00
  have c2:=grade_c (G:=G) c (cntD c) hOk hsm.2.2.1
  rw [h00] at c1
  simp only [deskR,h00,if_true,deskC] at c1
  rw [gradeV] at c2
  cases hp:proofOk c
  ·have hE:proofE c=6:=by rw [proofE,if_neg (by simp [h00]),hp];rfl
   rw [prL,prS,hE,if_neg (by decide),if_neg (by decide)]
   simp only [deskC] at c2
   have hp':hasG c=false∨hasG c=true∧gradeN c=maxG:=by
    simp only [proofOk] at hp
    cases hq:hasG c
    ·exact .inl rfl
    ·rw [hq,Bool.true_and] at hp
     exact .inr ⟨rfl,by simpa using hp⟩
   rcases hp' with hq|⟨hq,hM⟩
   ·simp only [hq] at c2
    have hs:True:=trivial
    repeat' first|(with_reducible first|refine q01 ?_|refine q02 ?_|refine q11 ?_|refine q14 ?_|refine q17 ?_)|(with_reducible refine At.fn_ret (by simp -dsimp [hs];exact rfl) ?_)|(refine CallE.pure (c1) ?_;try simp -dsimp [hs])|(refine CallE.pure (c2) ?_;try simp -dsimp [hs])|(with_reducible refine DT_regionE [0,1,2,3,4,5,6,7,8,9,10,17,29,58] ?_;simp -dsimp [hs])|(refine DT_cond rfl (fun h=>?_) (fun h=>?_)<;>(try simp only [nrm] at h)<;>(try exact Bool.noConfusion h))
    all_goals try simp -dsimp [hs]
    all_goals try clear hs
   ·simp only [hq,hM,maxG] at c2
    have hs:True:=trivial
    repeat' first|(with_reducible first|refine q01 ?_|refine q02 ?_|refine q11 ?_|refine q14 ?_|refine q17 ?_)|(with_reducible refine At.fn_ret (by simp -dsimp [hs];exact rfl) ?_)|(refine CallE.pure (c1) ?_;try simp -dsimp [hs])|(refine CallE.pure (c2) ?_;try simp -dsimp [hs])|(with_reducible refine DT_regionE [0,1,2,3,4,5,6,7,8,9,10,17,29,58] ?_;simp -dsimp [hs])|(refine DT_cond rfl (fun h=>?_) (fun h=>?_)<;>(try simp only [nrm] at h)<;>(try exact Bool.noConfusion h))
    all_goals try simp -dsimp [hs]
    all_goals try clear hs
  ·have hE:proofE c=0:=by rw [proofE,if_neg (by simp [h00]),hp];rfl
   rw [prL,prS,hE,if_pos rfl,if_pos rfl]
   obtain ⟨hL,hg0,hg1⟩:=proof_lt hOk hp
   have hq:hasG c=true∧gradeN c≠1000000000:=by
    have:=hp
    simp only [proofOk,Bool.and_eq_true,decide_eq_true_eq,maxG] at this
    exact ⟨this.1,of_decide_eq_true this.2⟩
   have c3:=pwrong_c (G:=G) c (cntD c) (looseF c (cntD c)) (looseR c) (gradeN c + 1) 0 (Nat.zero_le _) hsm.2.2.1 hOk (loose_so hOk _) hg0 (by omega)
   have hLE:findW c (looseR c) (gradeN c + 1) 0=proofL c:=rfl
   rw [hLE] at c3
   have c4:=psizesG_c (G:=G) c (cntD c) (looseF c (cntD c)) (looseR c) (gradeN c + 1) (proofL c) hL hOk (loose_so hOk _) hg0 (by omega)
   obtain ⟨hsl,hsd⟩:=szT_ok hOk (so:=looseR c) hg0 (List.getElem_mem hL)
   have hln:=(hOk.gap c.loops[proofL c] (List.getElem_mem hL)).1
   have c5:=fun high=>pend_c (G:=G) c (cntD c) (tkM c.reg c.lets) (proofL c) hL (szT c (looseR c) (gradeN c + 1) c.loops[proofL c]) high (by omega) hsl hsd
   have hX:proofX c=c.loops[proofL c]:=lpAt_at hL
   have hS:proofS c=endsL c.loops[proofL c].links (szT c (looseR c) (gradeN c + 1) c.loops[proofL c]) (!decide (endS c.loops[proofL c].links (szT c (looseR c) (gradeN c + 1) c.loops[proofL c]) true≤c.loops[proofL c].hi)):=by rw [proofS,hX];rfl
   have hx:c.loops[proofL c]?=some c.loops[proofL c]:=by simp [hL]
   have hw:IntKind.i64.wrap (gradeN c + 1)=gradeN c + 1:=i64w (by omega) (by omega)
   rw [hS]
   clear hS hX hLE
   have c51:=c5 true
   have c50:=c5 false
   clear c5
   generalize szT c (looseR c) (gradeN c + 1) c.loops[proofL c]=sz at *
   generalize endS c.loops[proofL c].links sz true=hi at *
   generalize endS c.loops[proofL c].links sz false=lo at *
   simp only [hq.1,if_true] at c2
   simp only [deskC,looseF,Int.natCast_zero] at c2 c3 c4 c50 c51
   simp only [isv] at c50 c51
   have hq2:=hq.2
   generalize proofL c=L at *
   generalize gradeN c=N at *
   by_cases hh:hi≤c.loops[L].hi
   ·have hs:True:=trivial
    repeat' first|(with_reducible first|refine q01 ?_|refine q11 ?_|refine q14 ?_|refine q17 ?_)|(with_reducible refine At.fn_ret (by simp -dsimp [hw,hq2,hx,hL,hh,hs];exact rfl) ?_)|(refine CallE.pure (c1) ?_;try simp -dsimp [hw,hq2,hx,hL,hh,hs])|(refine CallE.pure (c2) ?_;try simp -dsimp [hw,hq2,hx,hL,hh,hs])|(refine CallE.pure (c3) ?_;try simp -dsimp [hw,hq2,hx,hL,hh,hs])|(refine CallE.pure (c4) ?_;try simp -dsimp [hw,hq2,hx,hL,hh,hs])|(refine CallE.pure (c51) ?_;try simp -dsimp [hw,hq2,hx,hL,hh,hs])|(refine CallE.pure (c50) ?_;try simp -dsimp [hw,hq2,hx,hL,hh,hs])|(with_reducible refine DT_regionE [0,1,2,3,4,5,6,7,8,9,10,17,29,58] ?_;simp -dsimp [hw,hq2,hx,hL,hh,hs])|(refine DT_cond rfl (fun h=>?_) (fun h=>?_)<;>(try simp only [nrm] at h)<;>(try exact Bool.noConfusion h))
    all_goals try simp -dsimp [hw,hq2,hx,hL,hh,hs]
    all_goals try clear hs
    all_goals simp [hh]
   ·have hs:True:=trivial
    repeat' first|(with_reducible first|refine q01 ?_|refine q11 ?_|refine q14 ?_|refine q17 ?_)|(with_reducible refine At.fn_ret (by simp -dsimp [hw,hq2,hx,hL,hh,hs];exact rfl) ?_)|(refine CallE.pure (c1) ?_;try simp -dsimp [hw,hq2,hx,hL,hh,hs])|(refine CallE.pure (c2) ?_;try simp -dsimp [hw,hq2,hx,hL,hh,hs])|(refine CallE.pure (c3) ?_;try simp -dsimp [hw,hq2,hx,hL,hh,hs])|(refine CallE.pure (c4) ?_;try simp -dsimp [hw,hq2,hx,hL,hh,hs])|(refine CallE.pure (c51) ?_;try simp -dsimp [hw,hq2,hx,hL,hh,hs])|(with_reducible refine DT_regionE [0,1,2,3,4,5,6,7,8,9,10,17,29,58] ?_;simp -dsimp [hw,hq2,hx,hL,hh,hs])|(refine DT_cond rfl (fun h=>?_) (fun h=>?_)<;>(try simp only [nrm] at h)<;>(try exact Bool.noConfusion h))
    all_goals try simp -dsimp [hw,hq2,hx,hL,hh,hs]
    all_goals try clear hs
    all_goals simp [hh]
 ·obtain ⟨X,hX⟩:=deskR_one c
  rw [hX] at c1
  have hE:proofE c=chainsE c:=by rw [proofE,if_pos h00]
  rw [prL,prS,hE,if_neg h00,if_neg h00]
  have hs:True:=trivial
  repeat' first|(with_reducible first|refine q01 ?_|refine q02 ?_|refine q11 ?_|refine q17 ?_)|(with_reducible refine At.fn_ret (by simp -dsimp [h00,hs];exact rfl) ?_)|(refine CallE.pure (c1) ?_;try simp -dsimp [h00,hs])|(with_reducible refine DT_regionE [0,1,2,3,4,5,6,7,8,9,10,17,29,58] ?_;simp -dsimp [h00,hs])|(refine DT_cond rfl (fun h=>?_) (fun h=>?_)<;>(try simp only [nrm] at h)<;>(try exact Bool.noConfusion h))
  all_goals try simp -dsimp [h00,hs]
  all_goals try clear hs
end Go.Proofs
