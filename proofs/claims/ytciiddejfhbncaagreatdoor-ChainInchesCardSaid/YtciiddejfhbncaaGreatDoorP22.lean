/- Part 22 of the proofs: laws and walks that hold without conditions beyond those that each theorem names. -/
import Derived.Test.YtciiddejfhbncaaGreatDoorP12
import Derived.Test.YtciiddejfhbncaaGreatDoorP21
set_option linter.all false
set_option linter.deprecated false
namespace Go.Proofs
open Go Go.Ab
def memb (l:List Spot) (set:Nat):Nat→List Spot
 | 0=>[]
 | k + 1=>memb l set k ++ (match l[k]? with
   | some x=>if set.testBit k then [x] else []
   | none=>[])
theorem memb_succ {l:List Spot} {set k:Nat} (h:k < l.length):memb l set (k + 1)=memb l set k ++ if set.testBit k then [l[k]] else []:=by
 have hx:l[k]?=some l[k]:=by simp [h]
 rw [memb,hx]
theorem memb_len (l:List Spot) (set:Nat):∀ k,(memb l set k).length≤k
 | 0=>Nat.le_refl _
 | k + 1=>by
   have:=memb_len l set k
   rw [memb,List.length_append]
   split
   ·split<;>simp<;>omega
   ·simp;omega
theorem memb_full {l:List Spot} {n:Nat} (hn:l.length≤n):∀ k,k≤l.length→memb l (2 ^ n - 1) k=l.take k
 | 0,_=>by simp [memb]
 | k + 1,h=>by
   have hb:(2 ^ n - 1).testBit k=true:=by rw [Nat.testBit_two_pow_sub_one];simp;omega
   rw [memb_succ (by omega),memb_full hn k (by omega),hb,if_pos rfl,List.take_succ_eq_append_getElem (by omega)]
theorem memb_sub {l:List Spot} {s:Nat}:∀ k,(memb l s k).Sublist (l.take k)
 | 0=>by simp [memb]
 | k + 1=>by
   rw [memb]
   cases hx:l[k]? with
   | none=>simp only [List.append_nil];exact (memb_sub k).trans (List.take_sublist_take_left (by omega))
   | some x =>
     have hlt:=lt_of_getElem? hx
     rw [List.take_succ_eq_append_getElem hlt]
     have e:l[k]=x:=(List.getElem?_eq_some_iff.1 hx).2
     refine List.Sublist.append (memb_sub k) ?_
     simp only
     split
     ·rw [e];exact List.Sublist.refl _
     ·exact List.nil_sublist _
def lexB:List Spot→List Spot→Bool
 | a :: l,b :: m=>if a=b then lexB l m else before a b
 | _,_=>false
def shorterS (a b:List Spot):Bool:=decide (a.length < b.length) || (decide (a.length=b.length) && lexB a b)
theorem shorter_iff {a b:List Spot}:shorterS a b=true↔a.length < b.length∨a.length=b.length∧lexB a b=true:=by simp [shorterS]
def betterS (best:Option (List Spot)) (x:List Spot):Bool:=match best with
 | none=>true
 | some b=>shorterS x b
def stepF (good:List Spot→Bool) (best:Option (List Spot)) (x:List Spot):Option (List Spot):=if betterS best x && good x then some x else best
theorem stepF_none {good:List Spot→Bool}:∀ {xs:List (List Spot)} {b0:Option (List Spot)},xs.foldl (stepF good) b0=none↔b0=none∧∀ x∈xs,good x=false
 | [],b0=>by simp
 | x :: xs,b0=>by
   rw [List.foldl_cons,stepF_none]
   unfold stepF
   cases b0 with
   | none =>
     simp only [betterS,Bool.true_and,List.mem_cons,true_and]
     cases hg:good x
     ·simp [hg]
     ·simp [hg]
   | some b=>split<;>simp
def setsTo (all:List Spot) (k:Nat):List (List Spot):=(List.range k).map fun s=>memb all s all.length
theorem setsTo_succ (all:List Spot) (k:Nat):setsTo all (k + 1)=setsTo all k ++ [memb all k all.length]:=by simp [setsTo,List.range_succ]
def inS (l:List Spot):Spot→Bool:=fun x=>decide (x∈l)
def goodF (c:Chains) (x:List Spot):Bool:=allT c (inS x) 0
def fewestTo (c:Chains) (b0:Option (List Spot)) (k:Nat):Option (List Spot):=(setsTo (allSpots c) k).foldl (stepF (goodF c)) b0
theorem fewestTo_succ (c:Chains) (b0:Option (List Spot)) (k:Nat):fewestTo c b0 (k + 1)=stepF (goodF c) (fewestTo c b0 k) (memb (allSpots c) k (allSpots c).length):=by
 simp [fewestTo,setsTo_succ]
def fewest (c:Chains):Option (List Spot):=fewestTo c none (2 ^ (allSpots c).length)
theorem full_mem (l:List Spot):l∈setsTo l (2 ^ l.length):=by
 have h:0 < 2 ^ l.length:=Nat.two_pow_pos _
 exact List.mem_map.2 ⟨2 ^ l.length - 1,List.mem_range.2 (by omega),by rw [memb_full (Nat.le_refl _) _ (Nat.le_refl _),List.take_length]⟩
theorem hasG_good (c:Chains):hasG c=goodF c (allSpots c):=by
 unfold hasG goodF allT
 rw [Bool.eq_iff_iff,List.all_eq_true,List.all_eq_true]
 refine forall_congr' fun x=>forall_congr' fun hx=>?_
 have:szT c (looseR c) 0 x=szT c (inS (allSpots c)) 0 x:=by
  refine List.map_congr_left fun y hy=>?_
  have:looseR c (spotOf y)=inS (allSpots c) (spotOf y):=by
   rw [Bool.eq_iff_iff,inS,decide_eq_true_eq,allSpots,mem_allS]
   exact ⟨fun h=>⟨mem_spotsOf.2 ⟨x,hx,y,hy,rfl⟩,h⟩,fun h=>h.2⟩
  simp only [dimT,this]
 have e:closesT c (looseR c) 0 x=closesT c (inS (allSpots c)) 0 x:=by unfold closesT loT hiT;rw [this]
 rw [e]
theorem good_mono {c:Chains} (hk:OkC c) {a b:List Spot} (h:∀ x∈a,x∈b) (hg:goodF c a=true):goodF c b=true:=
 allT_le hk (fun x _ hx=>by simp only [inS,decide_eq_true_eq] at *;exact h x hx) (Int.le_refl _) hg
theorem fewest_none {c:Chains} (hk:OkC c):fewest c=none↔hasG c=false:=by
 rw [fewest,fewestTo,stepF_none,hasG_good]
 constructor
 ·intro h;exact h.2 _ (full_mem _)
 ·intro h
  refine ⟨rfl,fun x hx=>?_⟩
  obtain ⟨s,_,rfl⟩:=List.mem_map.1 hx
  cases hq:goodF c (memb (allSpots c) s (allSpots c).length) with
  | false=>rfl
  | true =>
    rw [good_mono hk (fun x hx=>List.mem_of_mem_take ((memb_sub _).subset hx)) hq] at h
    cases h
end Go.Proofs
namespace Go.Proofs
open Go Go.Ab
set_option linter.unusedSimpArgs false
variable {G:Nat→Option (List IC)}
theorem middle_c (d:Dim) (objs:List DObj):DCall Tryz.prog G 127 [dimv d] objs (fun rr objs'=>rr=iv (midD d)∧objs'=objs):=by
 refine DCall.frame ?_ (by simp) (by simp) objs
 refine DCall_intro Tryz.func127 rfl Tryz.ntmps127 (by simp) rfl ?_
 try simp only [dimv]
 have hs:True:=trivial
 repeat' first|(with_reducible first|refine q01 ?_|refine q11 ?_|refine q17 ?_)|(with_reducible refine At.fn_ret (by simp -dsimp [hs];exact rfl) ?_)|(with_reducible refine DT_regionE [0,1,2] ?_;simp -dsimp [hs])
 all_goals try simp -dsimp [hs]
 all_goals try clear hs
 simp [midD]
theorem tight_c (d:Dim) (g:Int) (hd:dimOk d=true) (h0:0≤g) (h1:g≤2000000000) (objs:List DObj):DCall Tryz.prog G 72 [dimv d,iv g] objs (fun rr objs'=>rr=dimv (tightD d g)∧objs'=objs):=by
 refine DCall.frame ?_ (by simp) (by simp) objs
 refine DCall_intro Tryz.func72 rfl Tryz.ntmps72 (by simp) rfl ?_
 try simp only [dimv,iv]
 have c1:=middle_c (G:=G) d
 have hdl:=(dimOk_iff d).1 hd
 have hm:0≤midD d∧midD d≤1000000000:=by unfold midD;omega
 have hw1:IntKind.i64.wrap (midD d - g)=midD d - g:=i64w (by omega) (by omega)
 have hw2:IntKind.i64.wrap (midD d + g)=midD d + g:=i64w (by omega) (by omega)
 simp only [dimv,encDim,List.map_cons,List.map_nil] at c1
 have hs:True:=trivial
 repeat' first|(with_reducible first|refine q01 ?_|refine q11 ?_|refine q17 ?_)|(with_reducible refine At.fn_ret (by simp -dsimp [hw1,hw2,hs];exact rfl) ?_)|(refine CallE.pure (c1) ?_;try simp -dsimp [hw1,hw2,hs])|(with_reducible refine DT_regionE [0,1,2,4,5] ?_;simp -dsimp [hw1,hw2,hs])
 all_goals try simp -dsimp [hw1,hw2,hs]
 all_goals try clear hs
 all_goals simp [tightD]
def SoF (G:Nat→Option (List IC)) (c:Chains) (fv:IC) (so:Spot→Bool):Prop:=
 (∃ (f:FuncId) (caps:List IC),fv=.fn (.func f) caps∧CallOk Tryz.prog f∧∀ x∈spotsOf c,∀ objs,DCall Tryz.prog G f (refv x.drawing x.dim :: caps.map fun c=>.one (.im c)) objs (fun d o=>d=bv (so x)∧o=objs)) ∨
 (∃ (f:FuncId) (l:List IC),fv=.bf (.func f) l∧CallOk Tryz.prog f∧∀ x∈spotsOf c,∀ objs,DCall Tryz.prog G f ((l.map fun c=>DV.one (.im c)) ++ [refv x.drawing x.dim]) objs (fun d o=>d=bv (so x)∧o=objs))
theorem never_so (c:Chains):SoF G c neverF neverS:=.inl ⟨89,[],rfl,by simp,fun x _ objs=>never_c (G:=G) x.drawing x.dim objs⟩
set_option maxHeartbeats 1000000 in
theorem psizesG_c (c:Chains) (D:List (Int×Int)) (fv:IC) (so:Spot→Bool) (g:Int) (n:Nat) (hn:n < c.loops.length) (h:OkC c) (hso:SoF G c fv so) (hg0:0≤g) (hg1:g≤2000000000) (objs:List DObj):DCall Tryz.prog G 88 [.one (.im (deskC c D (tkM c.reg c.lets))),iv (n:Int),iv g,.one (.im fv)] objs (fun rr objs'=>rr=.one (.im (.sl ((szT c so g c.loops[n]).map encDim)))∧objs'=objs):=by
 refine DCall.frame ?_ (by simp) (by simp) objs
 refine DCall_intro Tryz.func88 rfl Tryz.ntmps88 (by simp) rfl ?_
 try simp only [iv,iv]
 have hx:c.loops[n]?=some c.loops[n]:=by simp [hn]
 have hln:=h.gap c.loops[n] (List.getElem_mem hn)
 have hok:=fun y hy=>dimAt_ok h (List.getElem_mem hn) (y:=y) hy
 have hlk:=h.link c.loops[n] (List.getElem_mem hn)
 have hE:szT c so g c.loops[n]=c.loops[n].links.map (dimT c so g):=rfl
 have hmem:∀ y∈c.loops[n].links,spotOf y∈spotsOf c:=fun y hy=>mem_spotsOf.2 ⟨_,List.getElem_mem hn,y,hy,rfl⟩
 simp only [deskC]
 have hs:True:=trivial
 repeat' first|(with_reducible first|refine q01 ?_|refine q11 ?_|refine q12 ?_)|(with_reducible refine DT_regionE [0,1,2,3,8,9,11,12,21,22,23,24,42] ?_;simp -dsimp [hx,hn,hs])
 all_goals try simp -dsimp [hx,hn,hs]
 all_goals try clear hs
 generalize hls:c.loops[n].links=ls at *
 refine DT_loop (ι:={ p:Nat×Nat×Bool×List Dim // p.1≤ls.length∧p.2.2.2=(ls.take p.1).map (dimT c so g) }) (fun p=>⟨52,[(0,.one (.im (deskC c D (tkM c.reg c.lets)))),(2,iv g),(3,.one (.im fv)),(9,.one (.vec 1 p.1.2.1 0 p.1.2.2.2.length)),(21,.one (.im (.sl (ls.map encLink)))),(22,iv (ls.length:Int)),(23,iv (p.1.1:Int))],[.vec 3 [] 0 true,.vec 3 (ims (p.1.2.2.2.map encDim)) p.1.2.1 p.1.2.2.1]⟩) (fun p=>ls.length - p.1.1) ⟨(0,0,true,[]),by simp⟩ (Weak.of_keep [0,2,3,9,21,22,23] (by simp [deskC])) ?_
 rintro ⟨⟨k,gn,nl,out⟩,hk,ho⟩
 simp only at hk ho
 simp only [iv,deskC]
 have hol:out.length=k:=by rw [ho];simp;omega
 by_cases hlt:k < ls.length
 ·have hy:ls[k]?=some ls[k]:=by simp [hlt]
  have hw:IntKind.i64.wrap ((k:Int) + 1)=((k + 1:Nat):Int):=i64w (by omega) (by omega)
  obtain ⟨l1,l2,l3⟩:=hlk ls[k] (List.getElem_mem hlt)
  obtain ⟨hdo,he⟩:=hok ls[k] (List.getElem_mem hlt)
  have hlook:mlookS (tkM c.reg c.lets) ls[k].drawing=takeI c.reg c.lets ls[k].drawing:=by rw [tkM,mlookS_map,if_pos l1]
  have hms:=hmem ls[k] (List.getElem_mem hlt)
  obtain ⟨j,hj⟩:∃ j:Nat,ls[k].dim=j:=⟨ls[k].dim.toNat,by omega⟩
  rw [hj,Int.toNat_natCast] at he
  have hjl:=lt_of_getElem? he
  have hje:=(List.getElem?_eq_some_iff.1 he).2
  have c2:=spot_c (G:=G) ⟨ls[k].drawing,j,ls[k].back⟩
  have c4:=tight_c (G:=G) (dimAt c ls[k]) g hdo hg0 hg1
  have hspot:spotOf ls[k]=⟨ls[k].drawing,j⟩:=by rw [spotOf,hj]
  rw [hspot] at hms
  simp only [refv] at c2
  simp only [dimv,encDim,List.map_cons,List.map_nil] at c4
  have hon:out ++ [dimT c so g ls[k]]=(ls.take (k + 1)).map (dimT c so g):=by rw [List.take_succ_eq_append_getElem hlt,List.map_append,ho];rfl
  have hdT:dimT c so g ls[k]=if so ⟨ls[k].drawing,j⟩ then tightD (dimAt c ls[k]) g else dimAt c ls[k]:=by rw [dimT,hspot]
  rcases hso with ⟨f,caps,rfl,hf,hcall⟩|⟨f,caps,rfl,hf,hcall⟩
  all_goals have c3:=hcall _ hms
  all_goals simp only [refv] at c3
  all_goals cases hq:so ⟨ls[k].drawing,j⟩
  all_goals rw [hq] at hdT c3
  all_goals simp only [Bool.false_eq_true,if_false,if_true] at hdT
  all_goals rw [hdT] at hon
  ·have hs:True:=trivial
   repeat' first|(with_reducible first|refine q01 ?_|refine q04 ?_|refine q11 ?_|refine q12 ?_|refine q14 ?_|refine And.intro (by omega) ?_)|(refine CallE.pure (c2) ?_;try simp -dsimp [hy,hw,hlt,hlook,hj,hjl,he,hje,hf,hs])|(refine CallE.pure (c3) ?_;try simp -dsimp [hy,hw,hlt,hlook,hj,hjl,he,hje,hf,hs])|(refine DT_regionX (id:=5) (nt:=52) 13 [] [0,1,2,3,8,9,11,12,21,22,23,24,27,28,29,30,31,32,33,34,35,36,37,38,42] [0,1,2,3,8,9,11,12,21,22,23,24,42] mixed rfl (by kernel_rfl) ?_;simp -dsimp [hy,hw,hlt,hlook,hj,hjl,he,hje,hf,hs])|(with_reducible refine DT_regionE [0,1,2,3,8,9,11,12,21,22,23,24,42] ?_;simp -dsimp [hy,hw,hlt,hlook,hj,hjl,he,hje,hf,hs])|(refine DT_cond rfl (fun h=>?_) (fun h=>?_)<;>(try simp only [nrm] at h)<;>(try exact Bool.noConfusion h))
   all_goals try simp -dsimp [hy,hw,hlt,hlook,hj,hjl,he,hje,hf,hs]
   all_goals try clear hs
   all_goals try omega
   exact At.round ⟨(k + 1,gn + 1,false,out ++ [dimAt c ls[k]]),by omega,hon⟩ (by simp;omega) (Weak.of_drop [0,2,3,9,21,22,23] 2 (by simp) (by simp) (by simp [deskC]))
  ·have hs:True:=trivial
   repeat' first|(with_reducible first|refine q01 ?_|refine q04 ?_|refine q11 ?_|refine q12 ?_|refine q14 ?_|refine And.intro (by omega) ?_)|(refine CallE.pure (c2) ?_;try simp -dsimp [hy,hw,hlt,hlook,hj,hjl,he,hje,hf,hs])|(refine CallE.pure (c3) ?_;try simp -dsimp [hy,hw,hlt,hlook,hj,hjl,he,hje,hf,hs])|(refine CallE.pure (c4) ?_;try simp -dsimp [hy,hw,hlt,hlook,hj,hjl,he,hje,hf,hs])|(refine DT_regionX (id:=5) (nt:=52) 13 [] [0,1,2,3,8,9,11,12,21,22,23,24,27,28,29,30,31,32,33,34,35,36,37,38,42] [0,1,2,3,8,9,11,12,21,22,23,24,42] mixed rfl (by kernel_rfl) ?_;simp -dsimp [hy,hw,hlt,hlook,hj,hjl,he,hje,hf,hs])|(with_reducible refine DT_regionE [0,1,2,3,8,9,11,12,21,22,23,24,42] ?_;simp -dsimp [hy,hw,hlt,hlook,hj,hjl,he,hje,hf,hs])|(refine DT_cond rfl (fun h=>?_) (fun h=>?_)<;>(try simp only [nrm] at h)<;>(try exact Bool.noConfusion h))
   all_goals try simp -dsimp [hy,hw,hlt,hlook,hj,hjl,he,hje,hf,hs]
   all_goals try clear hs
   all_goals try omega
   exact At.round ⟨(k + 1,gn + 1,false,out ++ [tightD (dimAt c ls[k]) g]),by omega,hon⟩ (by simp;omega) (Weak.of_drop [0,2,3,9,21,22,23] 2 (by simp) (by simp) (by simp [deskC]))
  ·have hs:True:=trivial
   repeat' first|(with_reducible first|refine q01 ?_|refine q04 ?_|refine q11 ?_|refine q12 ?_|refine q14 ?_|refine And.intro (by omega) ?_)|(refine CallE.pure (c2) ?_;try simp -dsimp [hy,hw,hlt,hlook,hj,hjl,he,hje,hf,hs])|(refine CallE.pure (c3) ?_;try simp -dsimp [hy,hw,hlt,hlook,hj,hjl,he,hje,hf,hs])|(refine DT_regionX (id:=5) (nt:=52) 13 [] [0,1,2,3,8,9,11,12,21,22,23,24,27,28,29,30,31,32,33,34,35,36,37,38,42] [0,1,2,3,8,9,11,12,21,22,23,24,42] mixed rfl (by kernel_rfl) ?_;simp -dsimp [hy,hw,hlt,hlook,hj,hjl,he,hje,hf,hs])|(with_reducible refine DT_regionE [0,1,2,3,8,9,11,12,21,22,23,24,42] ?_;simp -dsimp [hy,hw,hlt,hlook,hj,hjl,he,hje,hf,hs])|(refine DT_cond rfl (fun h=>?_) (fun h=>?_)<;>(try simp only [nrm] at h)<;>(try exact Bool.noConfusion h))
   all_goals try simp -dsimp [hy,hw,hlt,hlook,hj,hjl,he,hje,hf,hs]
   all_goals try clear hs
   all_goals try omega
   exact At.round ⟨(k + 1,gn + 1,false,out ++ [dimAt c ls[k]]),by omega,hon⟩ (by simp;omega) (Weak.of_drop [0,2,3,9,21,22,23] 2 (by simp) (by simp) (by simp [deskC]))
  ·have hs:True:=trivial
   repeat' first|(with_reducible first|refine q01 ?_|refine q04 ?_|refine q11 ?_|refine q12 ?_|refine q14 ?_|refine And.intro (by omega) ?_)|(refine CallE.pure (c2) ?_;try simp -dsimp [hy,hw,hlt,hlook,hj,hjl,he,hje,hf,hs])|(refine CallE.pure (c3) ?_;try simp -dsimp [hy,hw,hlt,hlook,hj,hjl,he,hje,hf,hs])|(refine CallE.pure (c4) ?_;try simp -dsimp [hy,hw,hlt,hlook,hj,hjl,he,hje,hf,hs])|(refine DT_regionX (id:=5) (nt:=52) 13 [] [0,1,2,3,8,9,11,12,21,22,23,24,27,28,29,30,31,32,33,34,35,36,37,38,42] [0,1,2,3,8,9,11,12,21,22,23,24,42] mixed rfl (by kernel_rfl) ?_;simp -dsimp [hy,hw,hlt,hlook,hj,hjl,he,hje,hf,hs])|(with_reducible refine DT_regionE [0,1,2,3,8,9,11,12,21,22,23,24,42] ?_;simp -dsimp [hy,hw,hlt,hlook,hj,hjl,he,hje,hf,hs])|(refine DT_cond rfl (fun h=>?_) (fun h=>?_)<;>(try simp only [nrm] at h)<;>(try exact Bool.noConfusion h))
   all_goals try simp -dsimp [hy,hw,hlt,hlook,hj,hjl,he,hje,hf,hs]
   all_goals try clear hs
   all_goals try omega
   exact At.round ⟨(k + 1,gn + 1,false,out ++ [tightD (dimAt c ls[k]) g]),by omega,hon⟩ (by simp;omega) (Weak.of_drop [0,2,3,9,21,22,23] 2 (by simp) (by simp) (by simp [deskC]))
 ·have hs:True:=trivial
  repeat' first|(with_reducible first|refine q01 ?_|refine q03 ?_|refine q06 ?_|refine q11 ?_|refine q16 ?_|refine q17 ?_)|(with_reducible refine At.fn_ret (by simp -dsimp [hlt,hs];exact rfl) ?_)|(with_reducible refine DT_regionE [0,1,2,3,8,9,11,12,21,22,23,24,42] ?_;simp -dsimp [hlt,hs])|(refine DT_cond rfl (fun h=>?_) (fun h=>?_)<;>(try simp only [nrm] at h)<;>(try exact Bool.noConfusion h))
  all_goals try simp -dsimp [hlt,hs]
  all_goals try clear hs
  all_goals try omega
  rw [hE,ho,List.take_of_length_le (by omega)]
end Go.Proofs
namespace Go.Proofs
open Go Go.Ab
set_option linter.unusedSimpArgs false
variable {G:Nat→Option (List IC)}
set_option maxHeartbeats 1000000 in
theorem pwrong_c (c:Chains) (D:List (Int×Int)) (fv:IC) (so:Spot→Bool) (g:Int) (k:Nat) (hk:k≤c.loops.length) (hl:c.loops.length≤10) (h:OkC c) (hso:SoF G c fv so) (hg0:0≤g) (hg1:g≤2000000000) (objs:List DObj):DCall Tryz.prog G 91 [.one (.im (deskC c D (tkM c.reg c.lets))),iv (k:Int),iv g,.one (.im fv)] objs (fun rr objs'=>rr=iv (findW c so g k:Int)∧objs'=objs):=by
 refine DCall.frame ?_ (by simp) (by simp) objs
 refine DCall_intro Tryz.func91 rfl Tryz.ntmps91 (by simp) rfl ?_
 try simp only [iv,iv]
 simp only [deskC]
 have hs:True:=trivial
 repeat' first|(with_reducible first|refine q01 ?_|refine q11 ?_|refine q12 ?_)|(with_reducible refine DT_regionE [0,1,2,3,8,9,10,11,19,20,21,56] ?_;simp -dsimp [hk,hs])
 all_goals try simp -dsimp [hk,hs]
 all_goals try clear hs
 refine DT_loop (ι:={ i:Nat // i≤c.loops.length - k∧findW c so g k=findW c so g (k + i) }) (fun p=>⟨67,[(0,.one (.im (deskC c D (tkM c.reg c.lets)))),(1,iv (k:Int)),(2,iv g),(3,.one (.im fv)),(19,iv ((c.loops.length - k:Nat):Int)),(20,iv (p.1:Int))],[]⟩) (fun p=>c.loops.length - k - p.1) ⟨0,by simp⟩ (Weak.of_keep [0,1,2,3,19,20] (by simp [deskC])) ?_
 rintro ⟨i,hi,hf⟩
 simp only [iv,deskC]
 by_cases hlt:i < c.loops.length - k
 ·obtain ⟨Z,hZ⟩:∃ Z,Z=k + i:=⟨_,rfl⟩
  have hZl:Z < c.loops.length:=by omega
  have hx:c.loops[Z]?=some c.loops[Z]:=by simp [hZl]
  have hw:IntKind.i64.wrap ((i:Int) + 1)=((i + 1:Nat):Int):=i64w (by omega) (by omega)
  have hwZ:IntKind.i64.wrap ((k:Int) + (i:Int))=(Z:Int):=by rw [i64w (by omega) (by omega)];omega
  have c1:=psizesG_c (G:=G) c D fv so g Z hZl h hso hg0 hg1
  obtain ⟨hsl,hsd⟩:=szT_ok h (so:=so) hg0 (List.getElem_mem hZl)
  have hln:=(h.gap c.loops[Z] (List.getElem_mem hZl)).1
  have c3:=preach_c (G:=G) c D (tkM c.reg c.lets) Z hZl (szT c so g c.loops[Z]) (by omega) hsl hsd
  have h1:loT c so g c.loops[Z]=endS c.loops[Z].links (szT c so g c.loops[Z]) false:=rfl
  have h2':hiT c so g c.loops[Z]=endS c.loops[Z].links (szT c so g c.loops[Z]) true:=rfl
  rw [← h1,← h2'] at c3
  have c2:=in_chain (G:=G) c.loops[Z].lo c.loops[Z].hi [loT c so g c.loops[Z],hiT c so g c.loops[Z]] (by simp)
  rw [closesT_in h hg0 (List.getElem_mem hZl)] at c2
  rw [← hZ] at hf
  have hfg:=findW_good (c:=c) (so:=so) (g:=g) hZl
  have hfb:=findW_bad (c:=c) (so:=so) (g:=g) hZl
  clear h1 h2'
  generalize loT c so g c.loops[Z]=a at *
  generalize hiT c so g c.loops[Z]=b at *
  simp only [deskC] at c1 c3
  simp only [refv] at c3
  cases hq:closesT c so g c.loops[Z]
  ·rw [hq] at c2
   have hs:True:=trivial
   repeat' first|(with_reducible first|refine q01 ?_|refine q02 ?_|refine q05 ?_|refine q11 ?_|refine q12 ?_|refine q14 ?_|refine q17 ?_)|(with_reducible refine At.fn_ret (by simp -dsimp [hx,hw,hwZ,hlt,hZl,hs];exact rfl) ?_)|(refine QCall_pure (c1) ?_;try simp -dsimp [hx,hw,hwZ,hlt,hZl,hs])|(refine QCall_pure (c3) ?_;try simp -dsimp [hx,hw,hwZ,hlt,hZl,hs])|(refine CallE.thaw (c2) ?_ ?_ ?_;(focus (simp;done));(focus (simp;done));try simp -dsimp [hx,hw,hwZ,hlt,hZl,hs])|(refine DT_regionX (id:=4) (nt:=67) 25 [12,13,14,15,16,17,18,19,20,21,22] [0,1,2,3,8,9,10,11,19,20,21,23,24,25,26,27,28,29,30,31,32,33,34,56] [0,1,2,3,8,9,10,11,19,20,21,56] mixed rfl (by kernel_rfl) ?_;simp -dsimp [hx,hw,hwZ,hlt,hZl,hs])|(with_reducible refine DT_regionE [0,1,2,3,8,9,10,11,19,20,21,56] ?_;simp -dsimp [hx,hw,hwZ,hlt,hZl,hs])|(refine DT_cond rfl (fun h=>?_) (fun h=>?_)<;>(try simp only [nrm] at h)<;>(try exact Bool.noConfusion h))
   all_goals try simp -dsimp [hx,hw,hwZ,hlt,hZl,hs]
   all_goals try clear hs
   all_goals rw [hf,hfb hq]
  ·rw [hq] at c2
   have hs:True:=trivial
   repeat' first|(with_reducible first|refine q01 ?_|refine q04 ?_|refine q11 ?_|refine q12 ?_|refine q14 ?_)|(refine QCall_pure (c1) ?_;try simp -dsimp [hx,hw,hwZ,hlt,hZl,hs])|(refine QCall_pure (c3) ?_;try simp -dsimp [hx,hw,hwZ,hlt,hZl,hs])|(refine CallE.thaw (c2) ?_ ?_ ?_;(focus (simp;done));(focus (simp;done));try simp -dsimp [hx,hw,hwZ,hlt,hZl,hs])|(refine DT_regionX (id:=4) (nt:=67) 25 [12,13,14,15,16,17,18,19,20,21,22] [0,1,2,3,8,9,10,11,19,20,21,23,24,25,26,27,28,29,30,31,32,33,34,56] [0,1,2,3,8,9,10,11,19,20,21,56] mixed rfl (by kernel_rfl) ?_;simp -dsimp [hx,hw,hwZ,hlt,hZl,hs])|(with_reducible refine DT_regionE [0,1,2,3,8,9,10,11,19,20,21,56] ?_;simp -dsimp [hx,hw,hwZ,hlt,hZl,hs])|(refine DT_cond rfl (fun h=>?_) (fun h=>?_)<;>(try simp only [nrm] at h)<;>(try exact Bool.noConfusion h))
   all_goals try simp -dsimp [hx,hw,hwZ,hlt,hZl,hs]
   all_goals try clear hs
   exact At.round ⟨i + 1,by omega,by rw [hf,hfg hq,hZ,Nat.add_assoc]⟩ (by simp;omega) (Weak.of_drop [0,1,2,3,19,20] 0 (by simp) (by simp) (by simp [deskC]))
 ·have he:k + i=c.loops.length:=by omega
  rw [he,findW_end (Nat.le_refl _)] at hf
  have hs:True:=trivial
  repeat' first|(with_reducible first|refine q01 ?_|refine q03 ?_|refine q06 ?_|refine q11 ?_|refine q16 ?_|refine q17 ?_)|(with_reducible refine At.fn_ret (by simp -dsimp [hlt,hs];exact rfl) ?_)|(with_reducible refine DT_regionE [0,1,2,3,8,9,10,11,19,20,21,56] ?_;simp -dsimp [hlt,hs])|(refine DT_cond rfl (fun h=>?_) (fun h=>?_)<;>(try simp only [nrm] at h)<;>(try exact Bool.noConfusion h))
  all_goals try simp -dsimp [hlt,hs]
  all_goals try clear hs
  all_goals simp [hf]
def lpAt (c:Chains) (n:Int):ChLoop:=(c.loops[n.toNat]?).getD ⟨[],0,0⟩
theorem lpAt_at {c:Chains} {k:Nat} (h:k < c.loops.length):lpAt c (k:Int)=c.loops[k]:=by simp [lpAt,h]
def worstR (c:Chains) (n:Int) (high:Bool):List Int:=if loopsE c n=0 then endsL (lpAt c n).links (sizesI c (lpAt c n)) high else []
def sharesR (c:Chains) (n:Int):List Int:=if loopsE c n=0 then (sizesI c (lpAt c n)).map fun d=>d.upper - d.lower else []
def wrongI (c:Chains):List Int:=(wrongTo c neverS 0 c.loops.length).map fun i:Nat=>(i:Int)
def wrongR (c:Chains):List Int:=if chainsE c=0 then wrongI c else []
set_option maxHeartbeats 1000000 in
theorem pWorst_c (c:Chains) (n:Int) (high:Bool) (hG:sheetG G) (hC:chainG G) (hs:SmallC c) (objs:List DObj):DCall Tryz.prog G 27 [chv c,iv n,bv high] objs (fun rr objs'=>rr=.tup [isv (worstR c n high),iv (loopsE c n)]∧objs'=objs):=by
 refine DCall.frame ?_ (by simp) (by simp) objs
 refine DCall_intro Tryz.func27 rfl Tryz.ntmps27 (by simp) rfl ?_
 try simp only [chv,iv,bv]
 have c1:=loops_c c n hG hC hs
 by_cases hE:loopsE c n=0
 ·obtain ⟨h0,k,rfl,hk⟩:=loopsE_zero hE
  have h:=okC h0
  have c2:=psizes_c (G:=G) c (cntD c) k hk h
  obtain ⟨hsl,hsd⟩:=sizes_ok h hk
  have hln:=(h.gap c.loops[k] (List.getElem_mem hk)).1
  have c3:=pend_c (G:=G) c (cntD c) (tkM c.reg c.lets) k hk (sizesI c c.loops[k]) high (by omega) hsl hsd
  rw [worstR,if_pos hE,lpAt_at hk]
  generalize endsL c.loops[k].links (sizesI c c.loops[k]) high=out at *
  rw [hE] at c1
  simp only [deskR,h0,if_true,deskC] at c1
  simp only [deskC,neverF,isv] at c2 c3
  have hs:True:=trivial
  repeat' first|(with_reducible first|refine q01 ?_|refine q11 ?_|refine q14 ?_|refine q17 ?_)|(with_reducible refine At.fn_ret (by simp -dsimp [hs];exact rfl) ?_)|(refine CallE.pure (c1) ?_;try simp -dsimp [hs])|(refine CallE.pure (c2) ?_;try simp -dsimp [hs])|(refine CallE.pure (c3) ?_;try simp -dsimp [hs])|(with_reducible refine DT_regionE [0,1,2,3,6,7,8,9,10,19] ?_;simp -dsimp [hs])|(refine DT_cond rfl (fun h=>?_) (fun h=>?_)<;>(try simp only [nrm] at h)<;>(try exact Bool.noConfusion h))
  all_goals try simp -dsimp [hs]
  all_goals try clear hs
  all_goals simp [hE]
 ·obtain ⟨X,hX⟩:=deskR_one c
  rw [hX] at c1
  rw [worstR,if_neg hE]
  have hs:True:=trivial
  repeat' first|(with_reducible first|refine q01 ?_|refine q02 ?_|refine q11 ?_|refine q17 ?_)|(with_reducible refine At.fn_ret (by simp -dsimp [hE,hs];exact rfl) ?_)|(refine CallE.pure (c1) ?_;try simp -dsimp [hE,hs])|(with_reducible refine DT_regionE [0,1,2,3,6,7,8,9,10,19] ?_;simp -dsimp [hE,hs])|(refine DT_cond rfl (fun h=>?_) (fun h=>?_)<;>(try simp only [nrm] at h)<;>(try exact Bool.noConfusion h))
  all_goals try simp -dsimp [hE,hs]
  all_goals try clear hs
set_option maxHeartbeats 1000000 in
theorem pShares_c (c:Chains) (n:Int) (hG:sheetG G) (hC:chainG G) (hs:SmallC c) (objs:List DObj):DCall Tryz.prog G 33 [chv c,iv n] objs (fun rr objs'=>rr=.tup [isv (sharesR c n),iv (loopsE c n)]∧objs'=objs):=by
 refine DCall.frame ?_ (by simp) (by simp) objs
 refine DCall_intro Tryz.func33 rfl Tryz.ntmps33 (by simp) rfl ?_
 try simp only [chv,iv]
 have c1:=loops_c c n hG hC hs
 by_cases hE:loopsE c n=0
 ·obtain ⟨h0,k,rfl,hk⟩:=loopsE_zero hE
  have h:=okC h0
  have c2:=psizes_c (G:=G) c (cntD c) k hk h
  obtain ⟨hsl,hsd⟩:=sizes_ok h hk
  have hln:=(h.gap c.loops[k] (List.getElem_mem hk)).1
  rw [sharesR,if_pos hE,lpAt_at hk]
  generalize sizesI c c.loops[k]=ds at *
  rw [hE] at c1
  simp only [deskR,h0,if_true,deskC] at c1
  simp only [deskC,neverF] at c2
  have hs:True:=trivial
  repeat' first|(with_reducible first|refine q01 ?_|refine q11 ?_|refine q12 ?_|refine q14 ?_)|(refine CallE.pure (c1) ?_;try simp -dsimp [hs])|(refine CallE.pure (c2) ?_;try simp -dsimp [hs])|(with_reducible refine DT_regionE [0,1,2,4,5,6,7,8,10,18,22,23,24,25] ?_;simp -dsimp [hs])|(refine DT_cond rfl (fun h=>?_) (fun h=>?_)<;>(try simp only [nrm] at h)<;>(try exact Bool.noConfusion h))
  all_goals try simp -dsimp [hs]
  all_goals try clear hs
  refine DT_loop (ι:={ p:Nat×Nat×Bool×List Int // p.1≤ds.length∧p.2.2.2=(ds.take p.1).map fun d=>d.upper - d.lower }) (fun p=>⟨38,[(8,.one (.vec 2 p.1.2.1 0 p.1.2.2.2.length)),(22,.one (.im (.sl (ds.map encDim)))),(23,iv (ds.length:Int)),(24,iv (p.1.1:Int))],[.row ((encChains c).map .im),.vec 1 [] 0 true,.vec 1 (ims (p.1.2.2.2.map encI)) p.1.2.1 p.1.2.2.1]⟩) (fun p=>ds.length - p.1.1) ⟨(0,0,true,[]),by simp⟩ (Weak.of_keep [8,22,23,24] (by simp)) ?_
  rintro ⟨⟨i,gn,nl,out⟩,hi,ho⟩
  simp only at hi ho
  simp only [iv]
  have hol:out.length=i:=by rw [ho];simp;omega
  by_cases hlt:i < ds.length
  ·have hy:ds[i]?=some ds[i]:=by simp [hlt]
   have hw:IntKind.i64.wrap ((i:Int) + 1)=((i + 1:Nat):Int):=i64w (by omega) (by omega)
   have hd:=(dimOk_iff _).1 (hsd ds[i] (List.getElem_mem hlt))
   have hwd:IntKind.i64.wrap (ds[i].upper - ds[i].lower)=ds[i].upper - ds[i].lower:=i64w (by omega) (by omega)
   have hon:out ++ [ds[i].upper - ds[i].lower]=(ds.take (i + 1)).map fun d=>d.upper - d.lower:=by rw [List.take_succ_eq_append_getElem hlt,List.map_append,ho];rfl
   have hs:True:=trivial
   repeat' first|(with_reducible first|refine q01 ?_|refine q04 ?_|refine q11 ?_|refine q12 ?_|refine q14 ?_|refine And.intro (by omega) ?_)|(with_reducible refine DT_regionE [0,1,2,4,5,6,7,8,10,18,22,23,24,25] ?_;simp -dsimp [hy,hw,hlt,hwd,hs])|(refine DT_cond rfl (fun h=>?_) (fun h=>?_)<;>(try simp only [nrm] at h)<;>(try exact Bool.noConfusion h))
   all_goals try simp -dsimp [hy,hw,hlt,hwd,hs]
   all_goals try clear hs
   all_goals try omega
   exact At.round ⟨(i + 1,gn + 1,false,out ++ [ds[i].upper - ds[i].lower]),by omega,hon⟩ (by simp;omega) (Weak.of_drop [8,22,23,24] 3 (by simp) (by simp) (by simp))
  ·rw [List.take_of_length_le (by omega)] at ho
   have hs:True:=trivial
   repeat' first|(with_reducible first|refine q01 ?_|refine q03 ?_|refine q06 ?_|refine q11 ?_|refine q16 ?_|refine q17 ?_)|(with_reducible refine At.fn_ret (by simp -dsimp [hlt,hs];exact rfl) ?_)|(with_reducible refine DT_regionE [0,1,2,4,5,6,7,8,10,18,22,23,24,25] ?_;simp -dsimp [hlt,hs])|(refine DT_cond rfl (fun h=>?_) (fun h=>?_)<;>(try simp only [nrm] at h)<;>(try exact Bool.noConfusion h))
   all_goals try simp -dsimp [hlt,hs]
   all_goals try clear hs
   all_goals try omega
   all_goals simp [ho,hE]
 ·obtain ⟨X,hX⟩:=deskR_one c
  rw [hX] at c1
  rw [sharesR,if_neg hE]
  have hs:True:=trivial
  repeat' first|(with_reducible first|refine q01 ?_|refine q02 ?_|refine q11 ?_|refine q17 ?_)|(with_reducible refine At.fn_ret (by simp -dsimp [hE,hs];exact rfl) ?_)|(refine CallE.pure (c1) ?_;try simp -dsimp [hE,hs])|(with_reducible refine DT_regionE [0,1,2,4,5,6,7,8,10,18,22,23,24,25] ?_;simp -dsimp [hE,hs])|(refine DT_cond rfl (fun h=>?_) (fun h=>?_)<;>(try simp only [nrm] at h)<;>(try exact Bool.noConfusion h))
  all_goals try simp -dsimp [hE,hs]
  all_goals try clear hs
set_option maxHeartbeats 1000000 in
theorem pWrong_c (c:Chains) (hG:sheetG G) (hC:chainG G) (hs:SmallC c) (objs:List DObj):DCall Tryz.prog G 32 [chv c] objs (fun rr objs'=>rr=.tup [isv (wrongR c),iv (chainsE c)]∧objs'=objs):=by
 refine DCall.frame ?_ (by simp) (by simp) objs
 refine DCall_intro Tryz.func32 rfl Tryz.ntmps32 (by simp) rfl ?_
 try simp only [chv]
 have c1:=chOpen_c c hG hC hs
 by_cases h0:chainsE c=0
 ·have h:=okC h0
  have hl:=hs.2.2.1
  have c2:=fun k (hk:k≤c.loops.length)=>pwrong_c (G:=G) c (cntD c) neverF neverS 0 k hk hl h (never_so c) (by decide) (by decide)
  rw [h0] at c1
  rw [wrongR,if_pos h0,h0]
  simp only [deskR,h0,if_true,deskC] at c1
  have hb:=findW_spec c neverS 0
  have hwt:=fun k (hk:k≤c.loops.length)=>wrongTo_find (c:=c) (so:=neverS) (g:=0) hk
  have hws:=wrongTo_succ c neverS 0
  simp only [deskC,neverF] at c2
  have c20:=c2 0 (Nat.zero_le _)
  simp only [Int.ofNat_eq_natCast,Int.natCast_zero] at c20
  have hI:wrongI c=(wrongTo c neverS 0 c.loops.length).map fun i:Nat=>(i:Int):=rfl
  generalize wrongI c=W at *
  have hs:True:=trivial
  repeat' first|(with_reducible first|refine q01 ?_|refine q11 ?_|refine q12 ?_|refine q14 ?_)|(refine CallE.pure (c1) ?_;try simp -dsimp [hs])|(refine CallE.pure (c20) ?_;try simp -dsimp [hs])|(with_reducible refine DT_regionE [0,1,2,3,4,5,6,7,14,22] ?_;simp -dsimp [hs])|(refine DT_cond rfl (fun h=>?_) (fun h=>?_)<;>(try simp only [nrm] at h)<;>(try exact Bool.noConfusion h))
  all_goals try simp -dsimp [hs]
  all_goals try clear hs
  refine DT_loop (ι:={ p:Nat×Nat×Bool×List Int // p.1≤c.loops.length∧(p.1 < c.loops.length→badT c neverS 0 p.1=true)∧p.2.2.2=(wrongTo c neverS 0 p.1).map fun i:Nat=>(i:Int) }) (fun p=>⟨32,[(1,.one (.ptr 0 0)),(4,.one (.im (deskC c (cntD c) (tkM c.reg c.lets)))),(6,.one (.vec 2 p.1.2.1 0 p.1.2.2.2.length)),(7,iv (p.1.1:Int))],[.row ((encChains c).map .im),.vec 1 [] 0 true,.vec 1 (ims (p.1.2.2.2.map encI)) p.1.2.1 p.1.2.2.1]⟩) (fun p=>c.loops.length - p.1.1) ⟨(findW c neverS 0 0,0,true,[]),(hb _ 0 rfl (Nat.zero_le _)).2.1,(hb _ 0 rfl (Nat.zero_le _)).2.2.2,by rw [hwt 0 (Nat.zero_le _)];rfl⟩ (Weak.of_keep [1,4,6,7] (by simp [deskC])) ?_
  rintro ⟨⟨i,gn,nl,out⟩,hi,hbad,ho⟩
  simp only at hi hbad ho
  simp only [iv,deskC]
  have hol:out.length≤i:=by
   rw [ho,List.length_map,wrongTo]
   have:=List.length_filter_le (badT c neverS 0) (List.range i)
   simpa using this
  by_cases hlt:i < c.loops.length
  ·have c3:=c2 (i + 1) (by omega)
   obtain ⟨b1,b2,b3,b4⟩:=hb _ (i + 1) rfl (by omega)
   have hwn:=hwt (i + 1) (by omega)
   generalize findW c neverS 0 (i + 1)=j at *
   obtain ⟨Z,hZ⟩:∃ Z,Z=i + 1:=⟨_,rfl⟩
   rw [← hZ] at c3
   have hw:IntKind.i64.wrap ((i:Int) + 1)=(Z:Int):=by rw [i64w (by omega) (by omega)];omega
   have hon:out ++ [(i:Int)]=(wrongTo c neverS 0 j).map fun i:Nat=>(i:Int):=by rw [hwn,hws,hbad hlt,if_pos rfl,List.map_append,ho];rfl
   have hs:True:=trivial
   repeat' first|(with_reducible first|refine q01 ?_|refine q04 ?_|refine q11 ?_|refine q12 ?_|refine q14 ?_|refine And.intro (by omega) ?_)|(refine CallE.pure (c3) ?_;try simp -dsimp [hw,hlt,hs])|(with_reducible refine DT_regionE [0,1,2,3,4,5,6,7,14,22] ?_;simp -dsimp [hw,hlt,hs])|(refine DT_cond rfl (fun h=>?_) (fun h=>?_)<;>(try simp only [nrm] at h)<;>(try exact Bool.noConfusion h))
   all_goals try simp -dsimp [hw,hlt,hs]
   all_goals try clear hs
   all_goals try omega
   exact At.round ⟨(j,gn + 1,false,out ++ [(i:Int)]),b2,b4,hon⟩ (by simp;omega) (Weak.of_drop [1,4,6,7] 3 (by simp) (by simp) (by simp [deskC]))
  ·have hie:i=c.loops.length:=by omega
   subst hie
   have hs:True:=trivial
   repeat' first|(with_reducible first|refine q01 ?_|refine q03 ?_|refine q06 ?_|refine q11 ?_|refine q16 ?_|refine q17 ?_)|(with_reducible refine At.fn_ret (by simp -dsimp [hlt,hs];exact rfl) ?_)|(with_reducible refine DT_regionE [0,1,2,3,4,5,6,7,14,22] ?_;simp -dsimp [hlt,hs])|(refine DT_cond rfl (fun h=>?_) (fun h=>?_)<;>(try simp only [nrm] at h)<;>(try exact Bool.noConfusion h))
   all_goals try simp -dsimp [hlt,hs]
   all_goals try clear hs
   all_goals try omega
   all_goals simp [ho,hI]
 ·have hD:∃ X,deskR c=.one (.im X):=deskR_one c
  obtain ⟨X,hX⟩:=hD
  rw [hX] at c1
  rw [wrongR,if_neg h0]
  have hs:True:=trivial
  repeat' first|(with_reducible first|refine q01 ?_|refine q02 ?_|refine q11 ?_|refine q17 ?_)|(with_reducible refine At.fn_ret (by simp -dsimp [h0,hs];exact rfl) ?_)|(refine CallE.pure (c1) ?_;try simp -dsimp [h0,hs])|(with_reducible refine DT_regionE [0,1,2,3,4,5,6,7,14,22] ?_;simp -dsimp [h0,hs])|(refine DT_cond rfl (fun h=>?_) (fun h=>?_)<;>(try simp only [nrm] at h)<;>(try exact Bool.noConfusion h))
  all_goals try simp -dsimp [h0,hs]
  all_goals try clear hs
end Go.Proofs
namespace Go.Proofs
open Go Go.Ab
set_option linter.unusedSimpArgs false
variable {G:Nat→Option (List IC)}
def orI':List Int→Int
 | []=>0
 | x :: r=>if x=0 then orI' r else x
theorem or_c' (l:List Int) (hl:l.length < 1000000) (objs:List DObj):DCall Tryz.prog G 117 [isv l] objs (fun rr objs'=>rr=iv (orI' l)∧objs'=objs):=by
 refine DCall.frame ?_ (by simp) (by simp) objs
 refine DCall_intro Tryz.func117 rfl Tryz.ntmps117 (by simp) rfl ?_
 try simp only [isv]
 have hs:True:=trivial
 repeat' first|(with_reducible first|refine q01 ?_|refine q11 ?_|refine q12 ?_)|(with_reducible refine DT_regionE [0,2,3,5,6,7,8,9,14] ?_;simp -dsimp [hs])
 all_goals try simp -dsimp [hs]
 all_goals try clear hs
 refine DT_loop (ι:={ p:Nat // p≤l.length∧orI' l=orI' (l.drop p) }) (fun p=>⟨18,[(3,iv 0),(6,.one (.im (.sl (l.map encI)))),(7,iv (l.length:Int)),(8,iv (p.1:Int))],[]⟩) (fun p=>l.length - p.1) ⟨0,by simp⟩ (Weak.of_keep [3,6,7,8] (by simp)) ?_
 rintro ⟨k,hk,hu⟩
 simp only [iv]
 by_cases hlt:k < l.length
 ·have hw:IntKind.i64.wrap ((k:Int) + 1)=((k + 1:Nat):Int):=i64w (by omega) (by omega)
  rw [List.drop_eq_getElem_cons hlt,orI'] at hu
  generalize hx:l[k]=x at *
  have hs:True:=trivial
  repeat' first|(with_reducible first|refine q01 ?_|refine q02 ?_|refine q04 ?_|refine q05 ?_|refine q11 ?_|refine q12 ?_|refine q14 ?_|refine q17 ?_)|(with_reducible refine At.fn_ret (by simp -dsimp [hx,hw,hlt,hs];exact rfl) ?_)|(with_reducible refine DT_regionE [0,2,3,5,6,7,8,9,14] ?_;simp -dsimp [hx,hw,hlt,hs])|(refine DT_cond rfl (fun h=>?_) (fun h=>?_)<;>(try simp only [nrm] at h)<;>(try exact Bool.noConfusion h))
  all_goals try simp -dsimp [hx,hw,hlt,hs]
  all_goals try clear hs
  ·rw [hu,if_neg (by assumption)]
  ·rw [if_pos (by assumption)] at hu
   exact At.round ⟨k + 1,by omega,hu⟩ (by simp;omega) (Weak.of_keep [3,6,7,8] (by simp))
 ·rw [List.drop_eq_nil_of_le (by omega)] at hu
  have hs:True:=trivial
  repeat' first|(with_reducible first|refine q01 ?_|refine q03 ?_|refine q06 ?_|refine q11 ?_|refine q16 ?_|refine q17 ?_)|(with_reducible refine At.fn_ret (by simp -dsimp [hlt,hs];exact rfl) ?_)|(with_reducible refine DT_regionE [0,2,3,5,6,7,8,9,14] ?_;simp -dsimp [hlt,hs])|(refine DT_cond rfl (fun h=>?_) (fun h=>?_)<;>(try simp only [nrm] at h)<;>(try exact Bool.noConfusion h))
  all_goals try simp -dsimp [hlt,hs]
  all_goals try clear hs
  rw [hu];rfl
def ordS (a b:Spot):Int:=orI' [cmpI a.drawing b.drawing,cmpI a.dim b.dim]
theorem ordS_lt {a b:Spot}:ordS a b < 0↔before a b=true:=by
 rw [before_iff]
 unfold ordS cmpI orI' orI' orI'
 repeat' split
 all_goals omega
theorem order_c (a b:Spot) (objs:List DObj):DCall Tryz.prog G 67 [refv a.drawing a.dim,refv b.drawing b.dim] objs (fun rr objs'=>rr=iv (ordS a b)∧objs'=objs):=by
 refine DCall.frame ?_ (by simp) (by simp) objs
 refine DCall_intro Tryz.func67 rfl Tryz.ntmps67 (by simp) rfl ?_
 try simp only [refv,refv]
 have c1:=compare_c (G:=G) a.drawing b.drawing
 have c2:=compare_c (G:=G) a.dim b.dim
 have c3:=or_c' (G:=G) [cmpI a.drawing b.drawing,cmpI a.dim b.dim] (by simp)
 have hE:ordS a b=orI' [cmpI a.drawing b.drawing,cmpI a.dim b.dim]:=rfl
 rw [← hE] at c3
 have hs:True:=trivial
 repeat' first|(with_reducible first|refine q01 ?_|refine q11 ?_|refine q17 ?_)|(with_reducible refine At.fn_ret (by simp -dsimp [hs];exact rfl) ?_)|(refine QCall_pure (c1) ?_;try simp -dsimp [hs])|(refine QCall_pure (c2) ?_;try simp -dsimp [hs])|(refine QCall_pure (c3) ?_;try simp -dsimp [hs])|(refine DT_regionM (id:=1) (nt:=17) 13 [0,1,2,3,4] mixed rfl (by kernel_rfl) ?_;simp -dsimp [hs])|(with_reducible refine DT_regionE [0,1,2,3,4] ?_;simp -dsimp [hs])
 all_goals try simp -dsimp [hs]
 all_goals try clear hs
theorem spotsF_c (X:IC) (objs:List DObj):DCall Tryz.prog G 65 [.one (.im X)] objs (fun rr objs'=>rr=.one (.im (.fn (.func 113) [.ip [X]]))∧objs'=objs):=by
 refine DCall.frame ?_ (by simp) (by simp) objs
 refine DCall_intro Tryz.func65 rfl Tryz.ntmps65 (by simp) rfl ?_
 try simp only [iv]
 have hs:True:=trivial
 repeat' first|(with_reducible first|refine q01 ?_|refine q11 ?_|refine q17 ?_)|(with_reducible refine At.fn_ret (by simp -dsimp [hs];exact rfl) ?_)|(with_reducible refine DT_regionE [0,1,2] ?_;simp -dsimp [hs])
 all_goals try simp -dsimp [hs]
 all_goals try clear hs
def SortFOk (G:Nat→Option (List IC)):Prop:=∀ (l:List Spot) (gn sz:Nat) (nl:Bool),(sz=2∨nl=true∧l=[])→l.length < 1000000 →
 DCall Tryz.prog G 115 [.one (.vec 0 gn 0 l.length),.one (.im (.fn (.func 67) []))] [.vec sz (ims (l.map encSpot)) gn nl] (fun d o=>d=.tup []∧∃ l':List Spot,l'.Perm l∧(l'.Pairwise fun a b=>¬ ordS b a < 0)∧o=[.vec sz (ims (l'.map encSpot)) gn nl])
theorem sorted_of {l' l:List Spot} (hp:l'.Perm l) (hn:l.Nodup) (h:l'.Pairwise fun a b=>¬ ordS b a < 0):SortedS l':=by
 have hn':l'.Nodup:=hp.symm.nodup hn
 unfold SortedS
 refine (List.Pairwise.and h hn').imp fun {a b} ⟨h1,h2⟩=>?_
 rw [ordS_lt] at h1
 exact (before_tri h2).resolve_right h1
theorem foldP_len:∀ (ys l:List Spot),(ys.foldl (fun l x=>sputS x l) l).length≤l.length + ys.length
 | [],l=>by simp
 | y :: ys,l=>by
   have:=foldP_len ys (sputS y l)
   have h1:(sputS y l).length≤l.length + 1:=by unfold sputS;split<;>simp
   rw [List.foldl_cons,List.length_cons];omega
theorem spots_len:∀ (ls:List ChLoop),(∀ x∈ls,x.links.length≤12)→(ls.flatMap fun x=>x.links.map spotOf).length≤12 * ls.length
 | [],_=>by simp
 | x :: ls,h=>by
   have h1:=h x (by simp)
   have h2:=spots_len ls fun y hy=>h y (by simp [hy])
   rw [List.flatMap_cons,List.length_append,List.length_map,List.length_cons];omega
theorem perm_erase {α:Type} {y:α}:∀ {l:List α} {i:Nat},l[i]?=some y→(y :: l.eraseIdx i).Perm l
 | [],i,h=>by simp at h
 | x :: l,0,h=>by simp at h;subst h;simp
 | x :: l,i + 1,h=>by
   rw [List.eraseIdx_cons_succ]
   exact (List.Perm.swap x y _).trans ((perm_erase (by simpa using h)).cons x)
set_option maxHeartbeats 4000000 in
theorem appendSeq_c (c:Chains) (D:List (Int×Int)) (hOk:OkC c) (hsm:SmallC c) (hSF:SortFOk G) (objs:List DObj):DCall Tryz.prog G 112 [.one (.im (.raw (.slice none 0 0))),.one (.im (.fn (.func 113) [.ip [deskC c D (tkM c.reg c.lets)]]))] objs (fun rr objs'=>rr=.one (.im (.sl ((allSpots c).map encSpot)))∧objs'=objs):=by
 refine DCall.frame ?_ (by simp) (by simp) objs
 refine DCall_intro Tryz.func112 rfl Tryz.ntmps112 (by simp) rfl ?_
 try simp only [iv]
 simp only [deskC]
 have hs:True:=trivial
 repeat' first|(with_reducible first|refine q01 ?_|refine q11 ?_|refine q12 ?_)|(with_reducible refine DT_regionE [0,1,2,4,5,6,7] ?_;simp -dsimp [hs])
 all_goals try simp -dsimp [hs]
 all_goals try clear hs
 refine DT_weak (Weak.nilCell 0 0 rfl rfl) ?_
 have hs:True:=trivial
 all_goals try simp -dsimp [hs]
 all_goals try clear hs
 refine DT_rangeFunc (f:=113) (by simp;exact rfl) (by rfl) Tryz.call113 ?_
 generalize hR:LoopD.mk _ _ _ _ _ _ _=R
 have hR1:R.st=.ready:=by rw [← hR]
 have hR2:R.pend=none:=by rw [← hR]
 have hR3:R.at .ready none=R:=by rw [← hR];rfl
 have hR4:=(congrArg LoopD.nt hR).symm
 have hR5:=(congrArg LoopD.tm hR).symm
 have hR6:=(congrArg LoopD.ps hR).symm
 have hR7:=(congrArg LoopD.asg hR).symm
 have hR8:=(congrArg LoopD.body hR).symm
 dsimp only at hR4 hR5 hR6 hR7 hR8
 clear hR
 refine DCall_intro Tryz.func113 rfl Tryz.ntmps113 (by simp) rfl ?_
 have hR9:∀ objs:List DObj,(R.tm.map fun x=>(x.1,fzV 5 objs x.2))=R.tm:=by intro objs;rw [hR5];simp
 have hs:True:=trivial
 repeat' first|(with_reducible first|refine q01 ?_|refine q11 ?_|refine q12 ?_)|(with_reducible refine DT_regionE [0,1,2,3,4,5,6,7,8,9,10,12,18,19,20,21,25,26,27,28,37,39,50,54,56,65,66,67,68,74] ?_;simp -dsimp [hR1,hR2,hR3,hs])
 all_goals try simp -dsimp [hR1,hR2,hR3,hs]
 all_goals try clear hs
 refine DT_loop (ι:={ p:Nat×List Spot // p.1≤c.loops.length∧((c.loops.drop p.1).flatMap fun x=>x.links.map spotOf).foldl (fun l x=>sputS x l) p.2=(spotsOf c).foldl (fun l x=>sputS x l) [] }) (fun p=>⟨76,[(0,.one (.yld 3)),(1,.one (.im (.ip [deskC c D (tkM c.reg c.lets)]))),(3,.one (.map 4)),(18,.one (.im (.sl (c.loops.map encLoop)))),(19,iv (c.loops.length:Int)),(20,iv (p.1.1:Int))],[.row [.vec 2 0 0 0],.vec 2 [] 0 true,.vec 0 [] 0 true,.loop R,.map [.int .i64,.int .i64] (encP p.1.2)]⟩) (fun p=>c.loops.length - p.1.1) ⟨(0,[]),by simp [spotsOf]⟩ (Weak.of_keep [0,1,3,18,19,20] (by simp [deskC,encP])) ?_
 rintro ⟨⟨i,L⟩,hi,hL⟩
 simp only at hi hL
 simp only [iv,deskC]
 by_cases hlt:i < c.loops.length
 ·have hx:c.loops[i]?=some c.loops[i]:=by simp [hlt]
  have hw:IntKind.i64.wrap ((i:Int) + 1)=((i + 1:Nat):Int):=i64w (by omega) (by have:=hsm.2.2.1;omega)
  rw [List.drop_eq_getElem_cons hlt,List.flatMap_cons,List.foldl_append] at hL
  have hln:=hsm.2.2.2 c.loops[i] (List.getElem_mem hlt)
  generalize hxe:c.loops[i]=x at *
  have hs:True:=trivial
  repeat' first|(with_reducible first|refine q01 ?_|refine q11 ?_|refine q12 ?_|refine q14 ?_)|(with_reducible refine DT_regionE [0,1,2,3,4,5,6,7,8,9,10,12,18,19,20,21,25,26,27,28,37,39,50,54,56,65,66,67,68,74] ?_;simp -dsimp [hR1,hR2,hR3,hx,hlt,hxe,hs])|(refine DT_cond rfl (fun h=>?_) (fun h=>?_)<;>(try simp only [nrm] at h)<;>(try exact Bool.noConfusion h))
  all_goals try simp -dsimp [hR1,hR2,hR3,hx,hlt,hxe,hs]
  all_goals try clear hs
  refine DT_loop (ι:={ p:Nat×List Spot // p.1≤x.links.length∧((x.links.drop p.1).map spotOf).foldl (fun l x=>sputS x l) p.2=(x.links.map spotOf).foldl (fun l x=>sputS x l) L }) (fun p=>⟨76,[(0,.one (.yld 3)),(1,.one (.im (.ip [deskC c D (tkM c.reg c.lets)]))),(3,.one (.map 4)),(18,.one (.im (.sl (c.loops.map encLoop)))),(19,iv (c.loops.length:Int)),(20,iv (i:Int)),(25,.one (.im (.sl (x.links.map encLink)))),(26,iv (x.links.length:Int)),(27,iv (p.1.1:Int))],[.row [.vec 2 0 0 0],.vec 2 [] 0 true,.vec 0 [] 0 true,.loop R,.map [.int .i64,.int .i64] (encP p.1.2)]⟩) (fun p=>x.links.length - p.1.1) ⟨(0,L),by simp⟩ (Weak.of_drop [0,1,3,18,19,20,25,26,27] 5 (by simp) (by simp) (by clear hR4 hR5 hR6 hR7 hR8;simp [deskC,hR1,hR2,hR3,hR9,LoopD.at_eta])) ?_
  rintro ⟨⟨u,L'⟩,hu,hL'⟩
  simp only at hu hL'
  simp only [iv,deskC]
  by_cases hlu:u < x.links.length
  ·have hy:x.links[u]?=some x.links[u]:=by simp [hlu]
   have hwu:IntKind.i64.wrap ((u:Int) + 1)=((u + 1:Nat):Int):=i64w (by omega) (by omega)
   have c2:=spot_c (G:=G) x.links[u]
   rw [List.drop_eq_getElem_cons hlu,List.map_cons,List.foldl_cons] at hL'
   have hput:=mset_P L' x.links[u].drawing x.links[u].dim
   have hsp:sputS (spotOf x.links[u]) L'=sputS ⟨x.links[u].drawing,x.links[u].dim⟩ L':=rfl
   rw [hsp] at hL'
   simp only [refv,linkv,encLink,List.map_cons,List.map_nil] at c2
   have hs:True:=trivial
   repeat' first|(with_reducible first|refine q01 ?_|refine q04 ?_|refine q11 ?_|refine q12 ?_|refine q14 ?_)|(refine CallE.pure (c2) ?_;try simp -dsimp [hR1,hR2,hR3,hy,hlu,hwu,hput,hs])|(with_reducible refine DT_regionE [0,1,2,3,4,5,6,7,8,9,10,12,18,19,20,21,25,26,27,28,37,39,50,54,56,65,66,67,68,74] ?_;simp -dsimp [hR1,hR2,hR3,hy,hlu,hwu,hput,hs])|(refine DT_cond rfl (fun h=>?_) (fun h=>?_)<;>(try simp only [nrm] at h)<;>(try exact Bool.noConfusion h))
   all_goals try simp -dsimp [hR1,hR2,hR3,hy,hlu,hwu,hput,hs]
   all_goals try clear hs
   exact At.round ⟨(u + 1,sputS ⟨x.links[u].drawing,x.links[u].dim⟩ L'),by omega,hL'⟩ (by simp;omega) (Weak.of_drop [0,1,3,18,19,20,25,26,27] 5 (by simp) (by simp) (by clear hR4 hR5 hR6 hR7 hR8;simp [deskC,hR1,hR2,hR3,hR9,LoopD.at_eta]))
  ·rw [List.drop_eq_nil_of_le (by omega)] at hL'
   have hLn:L'=(x.links.map spotOf).foldl (fun l x=>sputS x l) L:=hL'
   rw [← hLn] at hL
   have hs:True:=trivial
   repeat' first|(with_reducible first|refine q01 ?_|refine q03 ?_|refine q04 ?_|refine q06 ?_|refine q11 ?_|refine q16 ?_)|(with_reducible refine DT_regionE [0,1,2,3,4,5,6,7,8,9,10,12,18,19,20,21,25,26,27,28,37,39,50,54,56,65,66,67,68,74] ?_;simp -dsimp [hR1,hR2,hR3,hlu,hw,hs])|(refine DT_cond rfl (fun h=>?_) (fun h=>?_)<;>(try simp only [nrm] at h)<;>(try exact Bool.noConfusion h))
   all_goals try simp -dsimp [hR1,hR2,hR3,hlu,hw,hs]
   all_goals try clear hs
   exact At.round ⟨(i + 1,L'),by omega,hL⟩ (by simp;omega) (Weak.of_keep [0,1,3,18,19,20] (by simp [deskC]))
 rw [List.drop_eq_nil_of_le (by omega)] at hL
 have hL0:L=(spotsOf c).foldl (fun l x=>sputS x l) []:=hL
 have hnd:L.Nodup:=by rw [hL0];exact foldP_nodup _ _ (by simp)
 have hs:True:=trivial
 repeat' first|(with_reducible first|refine q01 ?_|refine q03 ?_|refine q06 ?_|refine q11 ?_|refine q16 ?_)|(with_reducible refine DT_regionE [0,1,2,3,4,5,6,7,8,9,10,12,18,19,20,21,25,26,27,28,37,39,50,54,56,65,66,67,68,74] ?_;simp -dsimp [hR1,hR2,hR3,hlt,hs])|(refine DT_cond rfl (fun h=>?_) (fun h=>?_)<;>(try simp only [nrm] at h)<;>(try exact Bool.noConfusion h))
 all_goals try simp -dsimp [hR1,hR2,hR3,hlt,hs]
 all_goals try clear hs
 intro l c0 b hll hln hlc
 rw [encP_len] at hll
 have hP1:(L.zip l).map (·.1)=L:=List.map_fst_zip (by omega)
 have hP2:(L.zip l).map (·.2)=l:=List.map_snd_zip (by omega)
 have hPn:((L.zip l).map (·.2)).Nodup:=by rw [hP2];exact hln
 generalize L.zip l=P at *
 subst hP1
 subst hP2
 have hs:True:=trivial
 repeat' first|(with_reducible first|refine q01 ?_|refine q12 ?_)
 all_goals try simp -dsimp [hR1,hR2,hR3,hs]
 all_goals try clear hs
 obtain ⟨f,hf⟩:∃ f,f=looseP (tkM c.reg c.lets):=⟨_,rfl⟩
 have hR8':∀ objs:List DObj,(R.tm.map fun x=>(x.1,fzV 6 objs x.2))=R.tm:=by intro objs;rw [hR5];simp
 have hR4':∀ objs:List DObj,(R.tm.map fun x=>(x.1,fzV 4 objs x.2))=R.tm:=by intro objs;rw [hR5];simp
 refine DT_stop ⟨76,[(0,.one (.yld 3)),(1,.one (.im (.ip [deskC c D (tkM c.reg c.lets)]))),(3,.one (.im (.mp [.int .i64,.int .i64] (encPI ((P.map (·.1)).filter f)))))],[.row [.vec 2 0 0 0],.vec 2 [] 0 true,.vec 0 [] 0 true,.loop R]⟩ ?_ ?_
 refine DT_loop (ι:={ p:List Nat×List Nat×List Spot // p.2.1=(leftP f P p.1).map (·.2)∧p.2.2=(leftP f P p.1).map (·.1) }) (fun p=>⟨76,[(0,.one (.yld 3)),(1,.one (.im (.ip [deskC c D (tkM c.reg c.lets)]))),(3,.one (.map 4)),(37,.one (.itr 5))],[.row [.vec 2 0 0 0],.vec 2 [] 0 true,.vec 0 [] 0 true,.loop R,.map [.st p.1.2.1 c0 b,.int .i64,.int .i64] (encP p.1.2.2),.liter b p.1.1 c0]⟩) (fun p=>unseen P p.1.1) ⟨([],P.map (·.2),P.map (·.1)),by simp [leftP_nil]⟩ (Weak.of_keep [0,1,3,37] (by simp [deskC])) ?_
 rintro ⟨⟨seen,l,K⟩,hl,hK⟩
 simp only at hl hK
 simp only [deskC]
 have hs:True:=trivial
 repeat' first|(with_reducible first|refine q01 ?_|refine q03 ?_|refine q06 ?_|refine q11 ?_|refine q16 ?_)|(with_reducible refine DT_regionE [0,1,2,3,4,5,6,7,8,9,10,12,18,19,20,21,25,26,27,28,37,39,50,54,56,65,66,67,68,74] ?_;simp -dsimp [hR1,hR2,hR3,hs])|(refine DT_cond rfl (fun h=>?_) (fun h=>?_)<;>(try simp only [nrm] at h)<;>(try exact Bool.noConfusion h))|(with_reducible refine imp_At (fun h=>?_);(try simp only [List.map_eq_nil_iff] at h);(try subst h);try simp -dsimp [hR1,hR2,hR3,hs])|with_reducible refine And.intro ?_ ?_
 all_goals try simp -dsimp [hR1,hR2,hR3,hs]
 all_goals try clear hs
 ·have hend:K=(P.map (·.1)).filter f:=by rw [hK];exact leftP_end (by rw [← hl];assumption)
  have hKn:K.Nodup:=by rw [hend];exact hnd.filter _
  exact ⟨rfl,Weak.of_drop [0,1,3] 4 (by simp) (by simp) (by clear hR4 hR5 hR6 hR7 hR8;simp [deskC,hend,hR1,hR2,hR3,hR4',LoopD.at_eta])⟩
 ·intro i s xa xb hx hs1 hns
  obtain ⟨y,hy,rfl,rfl⟩:=encP_get2 hx
  have hgP:(leftP f P seen)[i]?=some (y,s):=by
   rw [hK,List.getElem?_map,Option.map_eq_some_iff] at hy
   rw [hl,List.getElem?_map,Option.map_eq_some_iff] at hs1
   obtain ⟨p,hp1,hp2⟩:=hy
   obtain ⟨q,hq1,hq2⟩:=hs1
   rw [hp1] at hq1
   cases hq1
   rw [hp1,← hp2,← hq2]
  have hmem:(y,s)∈P:=(List.mem_filter.1 (List.mem_of_getElem? hgP)).1
  have hlt2:=unseen_lt hmem hns
  have hln2:l.Nodup:=by rw [hl];exact (hPn.sublist ((List.filter_sublist).map _))
  have hKn:K.Nodup:=by rw [hK];exact (hnd.sublist ((List.filter_sublist).map _))
  have hidx:=idxOf_nodup hln2 hs1
  have hmi:=midx_P hKn hy
  have hmd:=mdel_P hKn hy
  by_cases hk3:(mlookS (tkM c.reg c.lets) y.drawing).kind=3
  ·have hfy:f y=false:=by rw [hf];simp [looseP,hk3]
   have hd:=leftP_del (f:=f) hPn hgP hfy
   have hl2:l.eraseIdx i=(leftP f P (seen ++ [s])).map (·.2):=by rw [hd,map_eraseIdx,← hl]
   have hK2:K.eraseIdx i=(leftP f P (seen ++ [s])).map (·.1):=by rw [hd,map_eraseIdx,← hK]
   have hs:True:=trivial
   repeat' first|(with_reducible first|refine q01 ?_|refine q04 ?_|refine q11 ?_|refine q12 ?_|refine q14 ?_)|(refine DT_regionM (id:=13) (nt:=76) 9 [0,1,3,5,7,8,9,10,12,18,19,20,21,25,26,27,28,37,39,50,54,56,65,66,67,68,74] mixed rfl (by kernel_rfl) ?_;simp -dsimp [hR1,hR2,hR3,hx,hidx,hk3,hmi,hmd,hs])|(with_reducible refine DT_regionE [0,1,2,3,4,5,6,7,8,9,10,12,18,19,20,21,25,26,27,28,37,39,50,54,56,65,66,67,68,74] ?_;simp -dsimp [hR1,hR2,hR3,hx,hidx,hk3,hmi,hmd,hs])|(refine DT_cond rfl (fun h=>?_) (fun h=>?_)<;>(try simp only [nrm] at h)<;>(try exact Bool.noConfusion h))
   all_goals try simp -dsimp [hR1,hR2,hR3,hx,hidx,hk3,hmi,hmd,hs]
   all_goals try clear hs
   exact At.round ⟨(seen ++ [s],l.eraseIdx i,K.eraseIdx i),hl2,hK2⟩ hlt2 (Weak.of_drop [0,1,3,37] 6 (by simp) (by simp) (by clear hR4 hR5 hR6 hR7 hR8;simp [deskC,hR1,hR2,hR3,hR8',LoopD.at_eta]))
  ·have hfy:f y=true:=by rw [hf];simp [looseP,hk3]
   have hd:=leftP_keep (f:=f) (seen:=seen) hPn hmem hfy
   have hl2:l=(leftP f P (seen ++ [s])).map (·.2):=by rw [hd,← hl]
   have hK2:K=(leftP f P (seen ++ [s])).map (·.1):=by rw [hd,← hK]
   have hs:True:=trivial
   repeat' first|(with_reducible first|refine q01 ?_|refine q04 ?_|refine q11 ?_|refine q12 ?_|refine q14 ?_)|(refine DT_regionM (id:=13) (nt:=76) 9 [0,1,3,5,7,8,9,10,12,18,19,20,21,25,26,27,28,37,39,50,54,56,65,66,67,68,74] mixed rfl (by kernel_rfl) ?_;simp -dsimp [hR1,hR2,hR3,hx,hidx,hk3,hmi,hmd,hs])|(with_reducible refine DT_regionE [0,1,2,3,4,5,6,7,8,9,10,12,18,19,20,21,25,26,27,28,37,39,50,54,56,65,66,67,68,74] ?_;simp -dsimp [hR1,hR2,hR3,hx,hidx,hk3,hmi,hmd,hs])|(refine DT_cond rfl (fun h=>?_) (fun h=>?_)<;>(try simp only [nrm] at h)<;>(try exact Bool.noConfusion h))
   all_goals try simp -dsimp [hR1,hR2,hR3,hx,hidx,hk3,hmi,hmd,hs]
   all_goals try clear hs
   exact At.round ⟨(seen ++ [s],l,K),hl2,hK2⟩ hlt2 (Weak.of_drop [0,1,3,37] 6 (by simp) (by simp) (by clear hR4 hR5 hR6 hR7 hR8;simp [deskC,hR1,hR2,hR3,hR8',LoopD.at_eta]))
 have hKn:((P.map (·.1)).filter f).Nodup:=hnd.filter _
 have hKf:(P.map (·.1)).filter f=((spotsOf c).foldl (fun l x=>sputS x l) []).filter (looseP (tkM c.reg c.lets)):=by rw [hL0,hf]
 have hKl:((P.map (·.1)).filter f).length≤1000:=by
  have h1:=List.length_filter_le f (P.map (·.1))
  have h2:=foldP_len (spotsOf c) []
  have h3:=spots_len c.loops hsm.2.2.2
  have h4:=hsm.2.2.1
  rw [← hL0] at h2
  simp only [spotsOf,List.length_nil] at h2
  omega
 generalize (P.map (·.1)).filter f=K at *
 have hs:True:=trivial
 repeat' first|(with_reducible first|refine q01 ?_|refine q11 ?_|refine q12 ?_)|(with_reducible refine DT_regionE [0,1,2,3,4,5,6,7,8,9,10,12,18,19,20,21,25,26,27,28,37,39,50,54,56,65,66,67,68,74] ?_;simp -dsimp [hR1,hR2,hR3,hs])
 all_goals try simp -dsimp [hR1,hR2,hR3,hs]
 all_goals try clear hs
 refine DT_loop (ι:={ p:List Spot×Option (List Value×List IC)×Nat×Bool×List Spot // (p.2.2.2.2 ++ p.1).Perm K }) (fun p=>⟨76,[(0,.one (.yld 3)),(9,.one (.vec 4 p.1.2.2.1 0 p.1.2.2.2.2.length)),(54,.one (.itr 5))],[.row [.vec 2 0 0 0],.vec 2 [] 0 true,.vec 0 [] 0 true,.loop R,.vec 2 (ims (p.1.2.2.2.2.map encSpot)) p.1.2.2.1 p.1.2.2.2.1,.iter (encPI p.1.1) p.1.2.1]⟩) (fun p=>p.1.1.length) ⟨(K,none,0,true,[]),by simp⟩ (Weak.of_keep [0,9,54] (by simp)) ?_
 rintro ⟨⟨left,cur,gn,nl,out⟩,hpm⟩
 simp only at hpm
 have hol:out.length + left.length≤1000:=by
  have:=hpm.length_eq
  rw [List.length_append] at this;omega
 have hs:True:=trivial
 repeat' first|(with_reducible first|refine q01 ?_|refine q03 ?_|refine q06 ?_|refine q11 ?_|refine q16 ?_)|(with_reducible refine DT_regionE [0,1,2,3,4,5,6,7,8,9,10,12,18,19,20,21,25,26,27,28,37,39,50,54,56,65,66,67,68,74] ?_;simp -dsimp [hR1,hR2,hR3,hs])|(refine DT_cond rfl (fun h=>?_) (fun h=>?_)<;>(try simp only [nrm] at h)<;>(try exact Bool.noConfusion h))|(with_reducible refine imp_At (fun h=>?_);(try simp only [List.map_eq_nil_iff] at h);(try subst h);try simp -dsimp [hR1,hR2,hR3,hs])|with_reducible refine And.intro ?_ ?_
 all_goals try simp -dsimp [hR1,hR2,hR3,hs]
 all_goals try clear hs
 ·have hl0:left=[]:=by simpa [encPI] using ‹encPI left=[]›
  rw [hl0,List.append_nil] at hpm
  have hon:out.Nodup:=hpm.symm.nodup hKn
  have c5:DCall Tryz.prog G 115 [.one (.vec 0 gn 0 out.length),.one (.im (.fn (.func 67) []))] [.vec 2 (ims (out.map encSpot)) gn nl] (fun d o=>d=.tup []∧o=[.vec 2 (ims ((allSpots c).map encSpot)) gn nl]):=
   (hSF out gn 2 nl (.inl rfl) (by omega)).mono fun d o ⟨h1,l',h2,h3,h4⟩=>⟨h1,by rw [h4,spots_sorted hOk (by rw [← hKf];exact h2.trans hpm) (sorted_of h2 hon h3)]⟩
  have hSl:out.length=(allSpots c).length:=by
   have h1:=(spots_perm hOk).length_eq
   have h2:=hpm.length_eq
   rw [h1,h2,hKf]
  generalize allSpots c=S at *
  have hSl':S.length≤1000:=by omega
  have hs:True:=trivial
  repeat' first|(with_reducible first|refine q01 ?_|refine q11 ?_|refine q12 ?_)|(refine CallE.embed [4] (c5) ?_ ?_ ?_ ?_ ?_ ?_;(focus (simp [emb];done));(focus (simp;done));(focus (simp;done));(focus (simp;done));(focus (refine emb_all ?_;simp [emb,embAll];done));try simp -dsimp [mergeO,emb,hR1,hR2,hR3,hs])|(with_reducible refine DT_regionE [0,1,2,3,4,5,6,7,8,9,10,12,18,19,20,21,25,26,27,28,37,39,50,54,56,65,66,67,68,74] ?_;simp -dsimp [hR1,hR2,hR3,hs])
  all_goals try simp -dsimp [hR1,hR2,hR3,hs]
  all_goals try clear hs
  rw [hSl]
  refine DT_loop (ι:={ p:Nat×Nat×Nat×Bool // p.1≤S.length∧(p.2.2.1=2∨p.2.2.2=true) }) (fun p=>⟨76,[(0,.one (.yld 3)),(65,.one (.im (.sl (S.map encSpot)))),(66,iv (S.length:Int)),(67,iv (p.1.1:Int))],[.row [.vec 2 p.1.2.1 0 p.1.1],.vec 2 [] 0 true,.vec p.1.2.2.1 (ims ((S.take p.1.1).map encSpot)) p.1.2.1 p.1.2.2.2,.loop R]⟩) (fun p=>S.length - p.1.1) ⟨(0,0,0,true),by simp⟩ (Weak.of_drop [0,65,66,67] 4 (by simp) (by simp) (by clear hR4 hR5 hR6 hR7 hR8;simp [hR1,hR2,hR3,hR4',LoopD.at_eta])) ?_
  rintro ⟨⟨k,gn,sz,nl⟩,hk,hz⟩
  simp only at hk hz
  simp only [iv]
  have htk:(ims ((S.map encSpot).take k)).take k=ims ((S.map encSpot).take k):=List.take_of_length_le (by simp [ims_length];omega)
  by_cases hlt:k < S.length
  ·have hx:S[k]?=some S[k]:=by simp [hlt]
   have hw:IntKind.i64.wrap ((k:Int) + 1)=((k + 1:Nat):Int):=i64w (by omega) (by omega)
   have hmin:min k S.length=k:=Nat.min_eq_left (by omega)
   have hsn:(S.map encSpot).take (k + 1)=(S.map encSpot).take k ++ [encSpot S[k]]:=by
    rw [List.take_succ];simp [hx]
   have hs:True:=trivial
   repeat' first|(with_reducible first|refine q01 ?_|refine q04 ?_|refine q11 ?_|refine q12 ?_|refine q14 ?_|refine And.intro (by omega) ?_)|(with_reducible refine At.yield_end ?_;simp -dsimp [hR1,hR2,hR3,hx,hw,hlt,hz,hmin,hs])|(refine At_busy ?_ ?_<;>simp -dsimp [hR1,hR2,hR3,hx,hw,hlt,hz,hmin,hs])|(refine YieldE_go ?_;simp -dsimp [YieldR,hR4,hR5,hR6,hR7,hR8,hR1,hR2,hR3,hx,hw,hlt,hz,hmin,hs])|(with_reducible refine DT_regionE [0,1,2,3,4,5,6,7,8,9,10,12,18,19,20,21,25,26,27,28,37,39,50,54,56,65,66,67,68,74] ?_;simp -dsimp [hR1,hR2,hR3,hx,hw,hlt,hz,hmin,hs])|(refine DT_cond rfl (fun h=>?_) (fun h=>?_)<;>(try simp only [nrm] at h)<;>(try exact Bool.noConfusion h))
   all_goals try simp -dsimp [hR1,hR2,hR3,hx,hw,hlt,hz,hmin,hs]
   all_goals try clear hs
   all_goals try omega
   exact At.round ⟨(k + 1,gn + 1,2,false),by simp;omega⟩ (by simp;omega) (Weak.of_drop [0,65,66,67] 4 (by simp) (by simp) (by clear hR4 hR5 hR6 hR7 hR8;simp [hR1,hR2,hR3,hR4',LoopD.at_eta,hsn,htk,ims_append]))
  ·have hkl:k=S.length:=by omega
   subst hkl
   have hall:(S.map encSpot).take S.length=S.map encSpot:=List.take_of_length_le (by simp)
   rw [hall] at htk
   have hs:True:=trivial
   repeat' first|(with_reducible first|refine q01 ?_|refine q03 ?_|refine q04 ?_|refine q06 ?_|refine q11 ?_|refine q16 ?_|refine q17 ?_)|(with_reducible refine At.fn_ret (by simp -dsimp [hR1,hR2,hR3,hall,htk,hs];exact rfl) ?_)|(with_reducible refine At.fn_end (by simp -dsimp [hR1,hR2,hR3,hall,htk,hs];exact rfl) ?_)|(with_reducible show LoopR _ _ _ _ _ _ _ _;simp -dsimp [LoopR,hR1,hR2,hR3,hall,htk,hs])|(with_reducible refine DT_regionE [0,1,2,3,4,5,6,7,8,9,10,12,18,19,20,21,25,26,27,28,37,39,50,54,56,65,66,67,68,74] ?_;simp -dsimp [hR1,hR2,hR3,hall,htk,hs])|(refine DT_cond rfl (fun h=>?_) (fun h=>?_)<;>(try simp only [nrm] at h)<;>(try exact Bool.noConfusion h))
   all_goals try simp -dsimp [hR1,hR2,hR3,hall,htk,hs]
   all_goals try clear hs
 ·intro i xa xb hi
  obtain ⟨y,hy,rfl,rfl⟩:=encPI_get hi
  rw [encPI_erase]
  have hlen:(left.eraseIdx i).length < left.length:=by
   have:=lt_of_getElem? hy
   rw [List.length_eraseIdx];split<;>omega
  have hp2:((out ++ [y]) ++ left.eraseIdx i).Perm K:=by
   refine List.Perm.trans ?_ hpm
   rw [List.append_assoc]
   refine List.Perm.append_left _ ?_
   exact perm_erase hy
  have hs:True:=trivial
  repeat' first|(with_reducible first|refine q01 ?_|refine q04 ?_|refine q11 ?_|refine q12 ?_|refine q14 ?_|refine And.intro (by omega) ?_)|(with_reducible refine DT_regionE [0,1,2,3,4,5,6,7,8,9,10,12,18,19,20,21,25,26,27,28,37,39,50,54,56,65,66,67,68,74] ?_;simp -dsimp [hR1,hR2,hR3,hs])|(refine DT_cond rfl (fun h=>?_) (fun h=>?_)<;>(try simp only [nrm] at h)<;>(try exact Bool.noConfusion h))
  all_goals try simp -dsimp [hR1,hR2,hR3,hs]
  all_goals try clear hs
  all_goals try omega
  exact At.round ⟨(left.eraseIdx i,some ([.int .i64 y.drawing,.int .i64 y.dim],[.raw (.bool true)]),gn + 1,false,out ++ [y]),hp2⟩ hlen (Weak.of_drop [0,9,54] 6 (by simp) (by simp) (by clear hR4 hR5 hR6 hR7 hR8;simp [hR1,hR2,hR3,hR8',LoopD.at_eta]))
end Go.Proofs
namespace Go.Proofs
open Go Go.Ab
set_option linter.unusedSimpArgs false
variable {G:Nat→Option (List IC)}
end Go.Proofs
