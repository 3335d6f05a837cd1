/- Part 22 of the proofs: laws and walks that hold without conditions beyond those that each theorem names. -/
import Derived.Test.YtciiddejfhbncaaGreatDoorA21
set_option linter.all false
set_option linter.deprecated false
namespace Go.Proofs
open Go Go.Ab
def memb (l:List Spot) (set:Nat):Nat→List Spot
 | 0=>[]
 | k + 1=>memb l set k ++ (match l[k]? with
   | some x=>if set.testBit k then [x] else []
   | none=>[])
theorem memb_succ {l:List Spot} {set k:Nat} (h:k < l.length):memb l set (k + 1)=memb l set k ++ if set.testBit k then [l[k]] else []:=by
 have hx:l[k]?=some l[k]:=by simp [h]
 rw [memb,hx]
theorem memb_len (l:List Spot) (set:Nat):∀ k,(memb l set k).length≤k
 | 0=>Nat.le_refl _
 | k + 1=>by
   have:=memb_len l set k
   rw [memb,List.length_append]
   split
   ·split<;>simp<;>omega
   ·simp;omega
theorem memb_congr {l:List Spot} {s s':Nat}:∀ {k:Nat},(∀ i < k,s.testBit i=s'.testBit i)→memb l s k=memb l s' k
 | 0,_=>rfl
 | k + 1,h=>by rw [memb,memb,memb_congr fun i hi=>h i (by omega),h k (by omega)]
theorem memb_full {l:List Spot} {n:Nat} (hn:l.length≤n):∀ k,k≤l.length→memb l (2 ^ n - 1) k=l.take k
 | 0,_=>by simp [memb]
 | k + 1,h=>by
   have hb:(2 ^ n - 1).testBit k=true:=by rw [Nat.testBit_two_pow_sub_one];simp;omega
   rw [memb_succ (by omega),memb_full hn k (by omega),hb,if_pos rfl,List.take_succ_eq_append_getElem (by omega)]
theorem memb_sub {l:List Spot} {s:Nat}:∀ k,(memb l s k).Sublist (l.take k)
 | 0=>by simp [memb]
 | k + 1=>by
   rw [memb]
   cases hx:l[k]? with
   | none=>simp only [List.append_nil];exact (memb_sub k).trans (List.take_sublist_take_left (by omega))
   | some x =>
     have hlt:=lt_of_getElem? hx
     rw [List.take_succ_eq_append_getElem hlt]
     have e:l[k]=x:=(List.getElem?_eq_some_iff.1 hx).2
     refine List.Sublist.append (memb_sub k) ?_
     simp only
     split
     ·rw [e];exact List.Sublist.refl _
     ·exact List.nil_sublist _
def lexB:List Spot→List Spot→Bool
 | a :: l,b :: m=>if a=b then lexB l m else before a b
 | _,_=>false
def shorterS (a b:List Spot):Bool:=decide (a.length < b.length) || (decide (a.length=b.length) && lexB a b)
theorem lexB_irrefl:∀ a:List Spot,lexB a a=false
 | []=>rfl
 | x :: a=>by rw [lexB,if_pos rfl,lexB_irrefl a]
theorem lexB_trans:∀ {a b c:List Spot},lexB a b=true→lexB b c=true→lexB a c=true
 | [],_,_,h,_=>by simp [lexB] at h
 | _ :: _,[],_,h,_=>by simp [lexB] at h
 | _ :: _,_ :: _,[],_,h=>by simp [lexB] at h
 | x :: a,y :: b,z :: c,h,k=>by
   rw [lexB] at h k ⊢
   by_cases e1:x=y
   ·subst e1
    rw [if_pos rfl] at h
    by_cases e2:x=z
    ·rw [if_pos e2] at k ⊢;exact lexB_trans h k
    ·rw [if_neg e2] at k ⊢;exact k
   ·rw [if_neg e1] at h
    by_cases e2:y=z
    ·subst e2;rw [if_neg e1];exact h
    ·rw [if_neg e2] at k
     have:=before_trans h k
     by_cases e3:x=z
     ·subst e3;rw [before_irrefl] at this;cases this
     ·rw [if_neg e3];exact this
theorem lexB_tri:∀ {a b:List Spot},a.length=b.length→a≠b→lexB a b=true∨lexB b a=true
 | [],[],_,h=>absurd rfl h
 | [],_ :: _,h,_=>by simp at h
 | _ :: _,[],h,_=>by simp at h
 | x :: a,y :: b,hl,h=>by
   rw [lexB,lexB]
   by_cases e:x=y
   ·subst e
    rw [if_pos rfl,if_pos rfl]
    exact lexB_tri (by simpa using hl) fun e=>h (by rw [e])
   ·rw [if_neg e,if_neg (Ne.symm e)]
    exact before_tri e
theorem shorter_irrefl (a:List Spot):shorterS a a=false:=by simp [shorterS,lexB_irrefl]
theorem shorter_iff {a b:List Spot}:shorterS a b=true↔a.length < b.length∨a.length=b.length∧lexB a b=true:=by simp [shorterS]
theorem shorter_trans {a b c:List Spot} (h:shorterS a b=true) (k:shorterS b c=true):shorterS a c=true:=by
 rw [shorter_iff] at *
 rcases h with h|⟨h,h'⟩<;>rcases k with k|⟨k,k'⟩
 ·exact .inl (by omega)
 ·exact .inl (by omega)
 ·exact .inl (by omega)
 ·exact .inr ⟨by omega,lexB_trans h' k'⟩
theorem shorter_tri {a b:List Spot} (h:a≠b):shorterS a b=true∨shorterS b a=true:=by
 rw [shorter_iff,shorter_iff]
 by_cases e:a.length=b.length
 ·rcases lexB_tri e h with h1|h1
  ·exact .inl (.inr ⟨e,h1⟩)
  ·exact .inr (.inr ⟨e.symm,h1⟩)
 ·omega
def betterS (best:Option (List Spot)) (x:List Spot):Bool:=match best with
 | none=>true
 | some b=>shorterS x b
def stepF (good:List Spot→Bool) (best:Option (List Spot)) (x:List Spot):Option (List Spot):=if betterS best x && good x then some x else best
theorem stepF_some {good:List Spot→Bool}:∀ {xs:List (List Spot)} {b0:Option (List Spot)},(∀ b,b0=some b→good b=true)→∀ r,xs.foldl (stepF good) b0=some r →
 good r=true∧(r∈xs∨b0=some r)∧(∀ x∈xs,good x=true→shorterS x r=false)∧∀ b,b0=some b→shorterS b r=false
 | [],b0,h,r,hr=>by
   simp only [List.foldl_nil] at hr
   refine ⟨h r hr,.inr hr,fun x hx=>by simp at hx,fun b hb=>?_⟩
   rw [hr] at hb;cases hb;exact shorter_irrefl _
 | x :: xs,b0,h,r,hr=>by
   rw [List.foldl_cons] at hr
   have hgood:∀ b,stepF good b0 x=some b→good b=true:=fun b hb=>by
    unfold stepF at hb
    split at hb
    ·rename_i hc;cases hb;rw [Bool.and_eq_true] at hc;exact hc.2
    ·exact h b hb
   obtain ⟨h1,h2,h3,h4⟩:=stepF_some hgood r hr
   have hno:∀ b b':List Spot,shorterS b' r=false→shorterS b' b=true∨b'=b→shorterS b r=false:=fun b b' h5 h6=>by
    rcases h6 with h6|rfl
    ·cases hq:shorterS b r with
     | false=>rfl
     | true=>rw [shorter_trans h6 hq] at h5;cases h5
    ·exact h5
   by_cases hc:(betterS b0 x && good x)=true
   ·have e:stepF good b0 x=some x:=by rw [stepF,if_pos hc]
    rw [Bool.and_eq_true] at hc
    have hx:=h4 x e
    refine ⟨h1,?_,fun z hz hg=>?_,fun b hb=>?_⟩
    ·rcases h2 with h2|h2
     ·exact .inl (List.mem_cons_of_mem _ h2)
     ·rw [e] at h2;cases h2;exact .inl (by simp)
    ·rcases List.mem_cons.1 hz with rfl|hz
     ·exact hx
     ·exact h3 z hz hg
    ·subst hb
     exact hno b x hx (.inl hc.1)
   ·have e:stepF good b0 x=b0:=by rw [stepF,if_neg hc]
    rw [e] at h2 h4
    refine ⟨h1,?_,fun z hz hg=>?_,h4⟩
    ·rcases h2 with h2|h2
     ·exact .inl (List.mem_cons_of_mem _ h2)
     ·exact .inr h2
    ·rcases List.mem_cons.1 hz with rfl|hz
     ·cases b0 with
      | none=>simp [betterS,hg] at hc
      | some b =>
        have hb:shorterS z b=false:=by simpa [betterS,hg] using hc
        refine hno z b (h4 b rfl) ?_
        by_cases e:b=z
        ·exact .inr e
        ·exact .inl ((shorter_tri e).resolve_right (by rw [hb];simp))
     ·exact h3 z hz hg
theorem stepF_none {good:List Spot→Bool}:∀ {xs:List (List Spot)} {b0:Option (List Spot)},xs.foldl (stepF good) b0=none↔b0=none∧∀ x∈xs,good x=false
 | [],b0=>by simp
 | x :: xs,b0=>by
   rw [List.foldl_cons,stepF_none]
   unfold stepF
   cases b0 with
   | none =>
     simp only [betterS,Bool.true_and,List.mem_cons,true_and]
     cases hg:good x
     ·simp [hg]
     ·simp [hg]
   | some b=>split<;>simp
def setsTo (all:List Spot) (k:Nat):List (List Spot):=(List.range k).map fun s=>memb all s all.length
theorem setsTo_succ (all:List Spot) (k:Nat):setsTo all (k + 1)=setsTo all k ++ [memb all k all.length]:=by simp [setsTo,List.range_succ]
def inS (l:List Spot):Spot→Bool:=fun x=>decide (x∈l)
def goodF (c:Chains) (x:List Spot):Bool:=allT c (inS x) 0
def fewestTo (c:Chains) (b0:Option (List Spot)) (k:Nat):Option (List Spot):=(setsTo (allSpots c) k).foldl (stepF (goodF c)) b0
theorem fewestTo_succ (c:Chains) (b0:Option (List Spot)) (k:Nat):fewestTo c b0 (k + 1)=stepF (goodF c) (fewestTo c b0 k) (memb (allSpots c) k (allSpots c).length):=by
 simp [fewestTo,setsTo_succ]
def fewest (c:Chains):Option (List Spot):=fewestTo c none (2 ^ (allSpots c).length)
theorem full_mem (l:List Spot):l∈setsTo l (2 ^ l.length):=by
 have h:0 < 2 ^ l.length:=Nat.two_pow_pos _
 exact List.mem_map.2 ⟨2 ^ l.length - 1,List.mem_range.2 (by omega),by rw [memb_full (Nat.le_refl _) _ (Nat.le_refl _),List.take_length]⟩
theorem hasG_good (c:Chains):hasG c=goodF c (allSpots c):=by
 unfold hasG goodF allT
 rw [Bool.eq_iff_iff,List.all_eq_true,List.all_eq_true]
 refine forall_congr' fun x=>forall_congr' fun hx=>?_
 have:szT c (looseR c) 0 x=szT c (inS (allSpots c)) 0 x:=by
  refine List.map_congr_left fun y hy=>?_
  have:looseR c (spotOf y)=inS (allSpots c) (spotOf y):=by
   rw [Bool.eq_iff_iff,inS,decide_eq_true_eq,allSpots,mem_allS]
   exact ⟨fun h=>⟨mem_spotsOf.2 ⟨x,hx,y,hy,rfl⟩,h⟩,fun h=>h.2⟩
  simp only [dimT,this]
 have e:closesT c (looseR c) 0 x=closesT c (inS (allSpots c)) 0 x:=by unfold closesT loT hiT;rw [this]
 rw [e]
theorem good_mono {c:Chains} (hk:OkC c) {a b:List Spot} (h:∀ x∈a,x∈b) (hg:goodF c a=true):goodF c b=true:=
 allT_le hk (fun x _ hx=>by simp only [inS,decide_eq_true_eq] at *;exact h x hx) (Int.le_refl _) hg
theorem fewest_none {c:Chains} (hk:OkC c):fewest c=none↔hasG c=false:=by
 rw [fewest,fewestTo,stepF_none,hasG_good]
 constructor
 ·intro h;exact h.2 _ (full_mem _)
 ·intro h
  refine ⟨rfl,fun x hx=>?_⟩
  obtain ⟨s,_,rfl⟩:=List.mem_map.1 hx
  cases hq:goodF c (memb (allSpots c) s (allSpots c).length) with
  | false=>rfl
  | true =>
    rw [good_mono hk (fun x hx=>List.mem_of_mem_take ((memb_sub _).subset hx)) hq] at h
    cases h
theorem fewest_spec {c:Chains} {r:List Spot} (h:fewest c=some r):goodF c r=true∧r∈setsTo (allSpots c) (2 ^ (allSpots c).length)∧∀ x∈setsTo (allSpots c) (2 ^ (allSpots c).length),goodF c x=true→shorterS x r=false:=by
 obtain ⟨h1,h2,h3,_⟩:=stepF_some (fun b hb=>by cases hb) r h
 exact ⟨h1,h2.resolve_right (by simp),h3⟩
end Go.Proofs
namespace Go.Proofs
open Go Go.Ab
set_option linter.unusedSimpArgs false
variable {G:Nat→Option (List IC)}
theorem middle_c (d:Dim) (objs:List DObj):DCall Tryz.prog G 127 [dimv d] objs (fun rr objs'=>rr=iv (midD d)∧objs'=objs):=by
 refine DCall.frame ?_ (by simp) (by simp) objs
 refine DCall_intro Tryz.func127 rfl Tryz.ntmps127 (by simp) rfl ?_
 try simp only [dimv]
 have hs:True:=trivial
 repeat' first|(with_reducible first|refine q01 ?_|refine q11 ?_|refine q17 ?_)|(with_reducible refine At.fn_ret (by simp -dsimp [hs];exact rfl) ?_)|(with_reducible refine DT_regionE [0,1,2] ?_;simp -dsimp [hs])
 all_goals try simp -dsimp [hs]
 all_goals try clear hs
 simp [midD]
theorem tight_c (d:Dim) (g:Int) (hd:dimOk d=true) (h0:0≤g) (h1:g≤2000000000) (objs:List DObj):DCall Tryz.prog G 72 [dimv d,iv g] objs (fun rr objs'=>rr=dimv (tightD d g)∧objs'=objs):=by
 refine DCall.frame ?_ (by simp) (by simp) objs
 refine DCall_intro Tryz.func72 rfl Tryz.ntmps72 (by simp) rfl ?_
 try simp only [dimv,iv]
 have c1:=middle_c (G:=G) d
 have hdl:=(dimOk_iff d).1 hd
 have hm:0≤midD d∧midD d≤1000000000:=by unfold midD;omega
 have hw1:IntKind.i64.wrap (midD d - g)=midD d - g:=i64w (by omega) (by omega)
 have hw2:IntKind.i64.wrap (midD d + g)=midD d + g:=i64w (by omega) (by omega)
 simp only [dimv,encDim,List.map_cons,List.map_nil] at c1
 have hs:True:=trivial
 repeat' first|(with_reducible first|refine q01 ?_|refine q11 ?_|refine q17 ?_)|(with_reducible refine At.fn_ret (by simp -dsimp [hw1,hw2,hs];exact rfl) ?_)|(refine CallE.pure (c1) ?_;try simp -dsimp [hw1,hw2,hs])|(with_reducible refine DT_regionE [0,1,2,4,5] ?_;simp -dsimp [hw1,hw2,hs])
 all_goals try simp -dsimp [hw1,hw2,hs]
 all_goals try clear hs
 all_goals simp [tightD]
def SoF (G:Nat→Option (List IC)) (c:Chains) (fv:IC) (so:Spot→Bool):Prop:=
 (∃ (f:FuncId) (caps:List IC),fv=.fn (.func f) caps∧CallOk Tryz.prog f∧∀ x∈spotsOf c,∀ objs,DCall Tryz.prog G f (refv x.drawing x.dim :: caps.map fun c=>.one (.im c)) objs (fun d o=>d=bv (so x)∧o=objs)) ∨
 (∃ (f:FuncId) (l:List IC),fv=.bf (.func f) l∧CallOk Tryz.prog f∧∀ x∈spotsOf c,∀ objs,DCall Tryz.prog G f ((l.map fun c=>DV.one (.im c)) ++ [refv x.drawing x.dim]) objs (fun d o=>d=bv (so x)∧o=objs))
theorem never_so (c:Chains):SoF G c neverF neverS:=.inl ⟨89,[],rfl,by simp,fun x _ objs=>never_c (G:=G) x.drawing x.dim objs⟩
set_option maxHeartbeats 1000000 in
theorem psizesG_c (c:Chains) (D:List (Int×Int)) (fv:IC) (so:Spot→Bool) (g:Int) (n:Nat) (hn:n < c.loops.length) (h:OkC c) (hso:SoF G c fv so) (hg0:0≤g) (hg1:g≤2000000000) (objs:List DObj):DCall Tryz.prog G 88 [.one (.im (deskC c D (tkM c.reg c.lets))),iv (n:Int),iv g,.one (.im fv)] objs (fun rr objs'=>rr=.one (.im (.sl ((szT c so g c.loops[n]).map encDim)))∧objs'=objs):=by
 refine DCall.frame ?_ (by simp) (by simp) objs
 refine DCall_intro Tryz.func88 rfl Tryz.ntmps88 (by simp) rfl ?_
 try simp only [iv,iv]
 have hx:c.loops[n]?=some c.loops[n]:=by simp [hn]
 have hln:=h.gap c.loops[n] (List.getElem_mem hn)
 have hok:=fun y hy=>dimAt_ok h (List.getElem_mem hn) (y:=y) hy
 have hlk:=h.link c.loops[n] (List.getElem_mem hn)
 have hE:szT c so g c.loops[n]=c.loops[n].links.map (dimT c so g):=rfl
 have hmem:∀ y∈c.loops[n].links,spotOf y∈spotsOf c:=fun y hy=>mem_spotsOf.2 ⟨_,List.getElem_mem hn,y,hy,rfl⟩
 simp only [deskC]
 have hs:True:=trivial
 repeat' first|(with_reducible first|refine q01 ?_|refine q11 ?_|refine q12 ?_)|(with_reducible refine DT_regionE [0,1,2,3,8,9,11,12,21,22,23,24,42] ?_;simp -dsimp [hx,hn,hs])
 all_goals try simp -dsimp [hx,hn,hs]
 all_goals try clear hs
 generalize hls:c.loops[n].links=ls at *
 refine DT_loop (ι:={ p:Nat×Nat×Bool×List Dim // p.1≤ls.length∧p.2.2.2=(ls.take p.1).map (dimT c so g) }) (fun p=>⟨52,[(0,.one (.im (deskC c D (tkM c.reg c.lets)))),(2,iv g),(3,.one (.im fv)),(9,.one (.vec 1 p.1.2.1 0 p.1.2.2.2.length)),(21,.one (.im (.sl (ls.map encLink)))),(22,iv (ls.length:Int)),(23,iv (p.1.1:Int))],[.vec 3 [] 0 true,.vec 3 (ims (p.1.2.2.2.map encDim)) p.1.2.1 p.1.2.2.1]⟩) (fun p=>ls.length - p.1.1) ⟨(0,0,true,[]),by simp⟩ (Weak.of_keep [0,2,3,9,21,22,23] (by simp [deskC])) ?_
 rintro ⟨⟨k,gn,nl,out⟩,hk,ho⟩
 simp only at hk ho
 simp only [iv,deskC]
 have hol:out.length=k:=by rw [ho];simp;omega
 by_cases hlt:k < ls.length
 ·have hy:ls[k]?=some ls[k]:=by simp [hlt]
  have hw:IntKind.i64.wrap ((k:Int) + 1)=((k + 1:Nat):Int):=i64w (by omega) (by omega)
  obtain ⟨l1,l2,l3⟩:=hlk ls[k] (List.getElem_mem hlt)
  obtain ⟨hdo,he⟩:=hok ls[k] (List.getElem_mem hlt)
  have hlook:mlookS (tkM c.reg c.lets) ls[k].drawing=takeI c.reg c.lets ls[k].drawing:=by rw [tkM,mlookS_map,if_pos l1]
  have hms:=hmem ls[k] (List.getElem_mem hlt)
  obtain ⟨j,hj⟩:∃ j:Nat,ls[k].dim=j:=⟨ls[k].dim.toNat,by omega⟩
  rw [hj,Int.toNat_natCast] at he
  have hjl:=lt_of_getElem? he
  have hje:=(List.getElem?_eq_some_iff.1 he).2
  have c2:=spot_c (G:=G) ⟨ls[k].drawing,j,ls[k].back⟩
  have c4:=tight_c (G:=G) (dimAt c ls[k]) g hdo hg0 hg1
  have hspot:spotOf ls[k]=⟨ls[k].drawing,j⟩:=by rw [spotOf,hj]
  rw [hspot] at hms
  simp only [refv] at c2
  simp only [dimv,encDim,List.map_cons,List.map_nil] at c4
  have hon:out ++ [dimT c so g ls[k]]=(ls.take (k + 1)).map (dimT c so g):=by rw [List.take_succ_eq_append_getElem hlt,List.map_append,ho];rfl
  have hdT:dimT c so g ls[k]=if so ⟨ls[k].drawing,j⟩ then tightD (dimAt c ls[k]) g else dimAt c ls[k]:=by rw [dimT,hspot]
  rcases hso with ⟨f,caps,rfl,hf,hcall⟩|⟨f,caps,rfl,hf,hcall⟩
  all_goals have c3:=hcall _ hms
  all_goals simp only [refv] at c3
  all_goals cases hq:so ⟨ls[k].drawing,j⟩
  all_goals rw [hq] at hdT c3
  all_goals simp only [Bool.false_eq_true,if_false,if_true] at hdT
  all_goals rw [hdT] at hon
  ·have hs:True:=trivial
   repeat' first|(with_reducible first|refine q01 ?_|refine q04 ?_|refine q11 ?_|refine q12 ?_|refine q14 ?_|refine And.intro (by omega) ?_)|(refine CallE.pure (c2) ?_;try simp -dsimp [hy,hw,hlt,hlook,hj,hjl,he,hje,hf,hs])|(refine CallE.pure (c3) ?_;try simp -dsimp [hy,hw,hlt,hlook,hj,hjl,he,hje,hf,hs])|(refine DT_regionX (id:=5) (nt:=52) 13 [] [0,1,2,3,8,9,11,12,21,22,23,24,27,28,29,30,31,32,33,34,35,36,37,38,42] [0,1,2,3,8,9,11,12,21,22,23,24,42] mixed rfl (by kernel_rfl) ?_;simp -dsimp [hy,hw,hlt,hlook,hj,hjl,he,hje,hf,hs])|(with_reducible refine DT_regionE [0,1,2,3,8,9,11,12,21,22,23,24,42] ?_;simp -dsimp [hy,hw,hlt,hlook,hj,hjl,he,hje,hf,hs])|(refine DT_cond rfl (fun h=>?_) (fun h=>?_)<;>(try simp only [nrm] at h)<;>(try exact Bool.noConfusion h))
   all_goals try simp -dsimp [hy,hw,hlt,hlook,hj,hjl,he,hje,hf,hs]
   all_goals try clear hs
   all_goals try omega
   exact At.round ⟨(k + 1,gn + 1,false,out ++ [dimAt c ls[k]]),by omega,hon⟩ (by simp;omega) (Weak.of_drop [0,2,3,9,21,22,23] 2 (by simp) (by simp) (by simp [deskC]))
  ·have hs:True:=trivial
   repeat' first|(with_reducible first|refine q01 ?_|refine q04 ?_|refine q11 ?_|refine q12 ?_|refine q14 ?_|refine And.intro (by omega) ?_)|(refine CallE.pure (c2) ?_;try simp -dsimp [hy,hw,hlt,hlook,hj,hjl,he,hje,hf,hs])|(refine CallE.pure (c3) ?_;try simp -dsimp [hy,hw,hlt,hlook,hj,hjl,he,hje,hf,hs])|(refine CallE.pure (c4) ?_;try simp -dsimp [hy,hw,hlt,hlook,hj,hjl,he,hje,hf,hs])|(refine DT_regionX (id:=5) (nt:=52) 13 [] [0,1,2,3,8,9,11,12,21,22,23,24,27,28,29,30,31,32,33,34,35,36,37,38,42] [0,1,2,3,8,9,11,12,21,22,23,24,42] mixed rfl (by kernel_rfl) ?_;simp -dsimp [hy,hw,hlt,hlook,hj,hjl,he,hje,hf,hs])|(with_reducible refine DT_regionE [0,1,2,3,8,9,11,12,21,22,23,24,42] ?_;simp -dsimp [hy,hw,hlt,hlook,hj,hjl,he,hje,hf,hs])|(refine DT_cond rfl (fun h=>?_) (fun h=>?_)<;>(try simp only [nrm] at h)<;>(try exact Bool.noConfusion h))
   all_goals try simp -dsimp [hy,hw,hlt,hlook,hj,hjl,he,hje,hf,hs]
   all_goals try clear hs
   all_goals try omega
   exact At.round ⟨(k + 1,gn + 1,false,out ++ [tightD (dimAt c ls[k]) g]),by omega,hon⟩ (by simp;omega) (Weak.of_drop [0,2,3,9,21,22,23] 2 (by simp) (by simp) (by simp [deskC]))
  ·have hs:True:=trivial
   repeat' first|(with_reducible first|refine q01 ?_|refine q04 ?_|refine q11 ?_|refine q12 ?_|refine q14 ?_|refine And.intro (by omega) ?_)|(refine CallE.pure (c2) ?_;try simp -dsimp [hy,hw,hlt,hlook,hj,hjl,he,hje,hf,hs])|(refine CallE.pure (c3) ?_;try simp -dsimp [hy,hw,hlt,hlook,hj,hjl,he,hje,hf,hs])|(refine DT_regionX (id:=5) (nt:=52) 13 [] [0,1,2,3,8,9,11,12,21,22,23,24,27,28,29,30,31,32,33,34,35,36,37,38,42] [0,1,2,3,8,9,11,12,21,22,23,24,42] mixed rfl (by kernel_rfl) ?_;simp -dsimp [hy,hw,hlt,hlook,hj,hjl,he,hje,hf,hs])|(with_reducible refine DT_regionE [0,1,2,3,8,9,11,12,21,22,23,24,42] ?_;simp -dsimp [hy,hw,hlt,hlook,hj,hjl,he,hje,hf,hs])|(refine DT_cond rfl (fun h=>?_) (fun h=>?_)<;>(try simp only [nrm] at h)<;>(try exact Bool.noConfusion h))
   all_goals try simp -dsimp [hy,hw,hlt,hlook,hj,hjl,he,hje,hf,hs]
   all_goals try clear hs
   all_goals try omega
   exact At.round ⟨(k + 1,gn + 1,false,out ++ [dimAt c ls[k]]),by omega,hon⟩ (by simp;omega) (Weak.of_drop [0,2,3,9,21,22,23] 2 (by simp) (by simp) (by simp [deskC]))
  ·have hs:True:=trivial
   repeat' first|(with_reducible first|refine q01 ?_|refine q04 ?_|refine q11 ?_|refine q12 ?_|refine q14 ?_|refine And.intro (by omega) ?_)|(refine CallE.pure (c2) ?_;try simp -dsimp [hy,hw,hlt,hlook,hj,hjl,he,hje,hf,hs])|(refine CallE.pure (c3) ?_;try simp -dsimp [hy,hw,hlt,hlook,hj,hjl,he,hje,hf,hs])|(refine CallE.pure (c4) ?_;try simp -dsimp [hy,hw,hlt,hlook,hj,hjl,he,hje,hf,hs])|(refine DT_regionX (id:=5) (nt:=52) 13 [] [0,1,2,3,8,9,11,12,21,22,23,24,27,28,29,30,31,32,33,34,35,36,37,38,42] [0,1,2,3,8,9,11,12,21,22,23,24,42] mixed rfl (by kernel_rfl) ?_;simp -dsimp [hy,hw,hlt,hlook,hj,hjl,he,hje,hf,hs])|(with_reducible refine DT_regionE [0,1,2,3,8,9,11,12,21,22,23,24,42] ?_;simp -dsimp [hy,hw,hlt,hlook,hj,hjl,he,hje,hf,hs])|(refine DT_cond rfl (fun h=>?_) (fun h=>?_)<;>(try simp only [nrm] at h)<;>(try exact Bool.noConfusion h))
   all_goals try simp -dsimp [hy,hw,hlt,hlook,hj,hjl,he,hje,hf,hs]
   all_goals try clear hs
   all_goals try omega
   exact At.round ⟨(k + 1,gn + 1,false,out ++ [tightD (dimAt c ls[k]) g]),by omega,hon⟩ (by simp;omega) (Weak.of_drop [0,2,3,9,21,22,23] 2 (by simp) (by simp) (by simp [deskC]))
 ·have hs:True:=trivial
  repeat' first|(with_reducible first|refine q01 ?_|refine q03 ?_|refine q06 ?_|refine q11 ?_|refine q16 ?_|refine q17 ?_)|(with_reducible refine At.fn_ret (by simp -dsimp [hlt,hs];exact rfl) ?_)|(with_reducible refine DT_regionE [0,1,2,3,8,9,11,12,21,22,23,24,42] ?_;simp -dsimp [hlt,hs])|(refine DT_cond rfl (fun h=>?_) (fun h=>?_)<;>(try simp only [nrm] at h)<;>(try exact Bool.noConfusion h))
  all_goals try simp -dsimp [hlt,hs]
  all_goals try clear hs
  all_goals try omega
  rw [hE,ho,List.take_of_length_le (by omega)]
end Go.Proofs
namespace Go.Proofs
open Go Go.Ab
set_option linter.unusedSimpArgs false
variable {G:Nat→Option (List IC)}
set_option maxHeartbeats 1000000 in
theorem pwrong_c (c:Chains) (D:List (Int×Int)) (fv:IC) (so:Spot→Bool) (g:Int) (k:Nat) (hk:k≤c.loops.length) (hl:c.loops.length≤10) (h:OkC c) (hso:SoF G c fv so) (hg0:0≤g) (hg1:g≤2000000000) (objs:List DObj):DCall Tryz.prog G 91 [.one (.im (deskC c D (tkM c.reg c.lets))),iv (k:Int),iv g,.one (.im fv)] objs (fun rr objs'=>rr=iv (findW c so g k:Int)∧objs'=objs):=by
 refine DCall.frame ?_ (by simp) (by simp) objs
 refine DCall_intro Tryz.func91 rfl Tryz.ntmps91 (by simp) rfl ?_
 try simp only [iv,iv]
 simp only [deskC]
 have hs:True:=trivial
 repeat' first|(with_reducible first|refine q01 ?_|refine q11 ?_|refine q12 ?_)|(with_reducible refine DT_regionE [0,1,2,3,8,9,10,11,19,20,21,56] ?_;simp -dsimp [hk,hs])
 all_goals try simp -dsimp [hk,hs]
 all_goals try clear hs
 refine DT_loop (ι:={ i:Nat // i≤c.loops.length - k∧findW c so g k=findW c so g (k + i) }) (fun p=>⟨67,[(0,.one (.im (deskC c D (tkM c.reg c.lets)))),(1,iv (k:Int)),(2,iv g),(3,.one (.im fv)),(19,iv ((c.loops.length - k:Nat):Int)),(20,iv (p.1:Int))],[]⟩) (fun p=>c.loops.length - k - p.1) ⟨0,by simp⟩ (Weak.of_keep [0,1,2,3,19,20] (by simp [deskC])) ?_
 rintro ⟨i,hi,hf⟩
 simp only [iv,deskC]
 by_cases hlt:i < c.loops.length - k
 ·obtain ⟨Z,hZ⟩:∃ Z,Z=k + i:=⟨_,rfl⟩
  have hZl:Z < c.loops.length:=by omega
  have hx:c.loops[Z]?=some c.loops[Z]:=by simp [hZl]
  have hw:IntKind.i64.wrap ((i:Int) + 1)=((i + 1:Nat):Int):=i64w (by omega) (by omega)
  have hwZ:IntKind.i64.wrap ((k:Int) + (i:Int))=(Z:Int):=by rw [i64w (by omega) (by omega)];omega
  have c1:=psizesG_c (G:=G) c D fv so g Z hZl h hso hg0 hg1
  obtain ⟨hsl,hsd⟩:=szT_ok h (so:=so) hg0 (List.getElem_mem hZl)
  have hln:=(h.gap c.loops[Z] (List.getElem_mem hZl)).1
  have c3:=preach_c (G:=G) c D (tkM c.reg c.lets) Z hZl (szT c so g c.loops[Z]) (by omega) hsl hsd
  have h1:loT c so g c.loops[Z]=endS c.loops[Z].links (szT c so g c.loops[Z]) false:=rfl
  have h2':hiT c so g c.loops[Z]=endS c.loops[Z].links (szT c so g c.loops[Z]) true:=rfl
  rw [← h1,← h2'] at c3
  have c2:=in_chain (G:=G) c.loops[Z].lo c.loops[Z].hi [loT c so g c.loops[Z],hiT c so g c.loops[Z]] (by simp)
  rw [closesT_in h hg0 (List.getElem_mem hZl)] at c2
  rw [← hZ] at hf
  have hfg:=findW_good (c:=c) (so:=so) (g:=g) hZl
  have hfb:=findW_bad (c:=c) (so:=so) (g:=g) hZl
  clear h1 h2'
  generalize loT c so g c.loops[Z]=a at *
  generalize hiT c so g c.loops[Z]=b at *
  simp only [deskC] at c1 c3
  simp only [refv] at c3
  cases hq:closesT c so g c.loops[Z]
  ·rw [hq] at c2
   have hs:True:=trivial
   repeat' first|(with_reducible first|refine q01 ?_|refine q02 ?_|refine q05 ?_|refine q11 ?_|refine q12 ?_|refine q14 ?_|refine q17 ?_)|(with_reducible refine At.fn_ret (by simp -dsimp [hx,hw,hwZ,hlt,hZl,hs];exact rfl) ?_)|(refine QCall_pure (c1) ?_;try simp -dsimp [hx,hw,hwZ,hlt,hZl,hs])|(refine QCall_pure (c3) ?_;try simp -dsimp [hx,hw,hwZ,hlt,hZl,hs])|(refine CallE.thaw (c2) ?_ ?_ ?_;(focus (simp;done));(focus (simp;done));try simp -dsimp [hx,hw,hwZ,hlt,hZl,hs])|(refine DT_regionX (id:=4) (nt:=67) 25 [12,13,14,15,16,17,18,19,20,21,22] [0,1,2,3,8,9,10,11,19,20,21,23,24,25,26,27,28,29,30,31,32,33,34,56] [0,1,2,3,8,9,10,11,19,20,21,56] mixed rfl (by kernel_rfl) ?_;simp -dsimp [hx,hw,hwZ,hlt,hZl,hs])|(with_reducible refine DT_regionE [0,1,2,3,8,9,10,11,19,20,21,56] ?_;simp -dsimp [hx,hw,hwZ,hlt,hZl,hs])|(refine DT_cond rfl (fun h=>?_) (fun h=>?_)<;>(try simp only [nrm] at h)<;>(try exact Bool.noConfusion h))
   all_goals try simp -dsimp [hx,hw,hwZ,hlt,hZl,hs]
   all_goals try clear hs
   all_goals rw [hf,hfb hq]
  ·rw [hq] at c2
   have hs:True:=trivial
   repeat' first|(with_reducible first|refine q01 ?_|refine q04 ?_|refine q11 ?_|refine q12 ?_|refine q14 ?_)|(refine QCall_pure (c1) ?_;try simp -dsimp [hx,hw,hwZ,hlt,hZl,hs])|(refine QCall_pure (c3) ?_;try simp -dsimp [hx,hw,hwZ,hlt,hZl,hs])|(refine CallE.thaw (c2) ?_ ?_ ?_;(focus (simp;done));(focus (simp;done));try simp -dsimp [hx,hw,hwZ,hlt,hZl,hs])|(refine DT_regionX (id:=4) (nt:=67) 25 [12,13,14,15,16,17,18,19,20,21,22] [0,1,2,3,8,9,10,11,19,20,21,23,24,25,26,27,28,29,30,31,32,33,34,56] [0,1,2,3,8,9,10,11,19,20,21,56] mixed rfl (by kernel_rfl) ?_;simp -dsimp [hx,hw,hwZ,hlt,hZl,hs])|(with_reducible refine DT_regionE [0,1,2,3,8,9,10,11,19,20,21,56] ?_;simp -dsimp [hx,hw,hwZ,hlt,hZl,hs])|(refine DT_cond rfl (fun h=>?_) (fun h=>?_)<;>(try simp only [nrm] at h)<;>(try exact Bool.noConfusion h))
   all_goals try simp -dsimp [hx,hw,hwZ,hlt,hZl,hs]
   all_goals try clear hs
   exact At.round ⟨i + 1,by omega,by rw [hf,hfg hq,hZ,Nat.add_assoc]⟩ (by simp;omega) (Weak.of_drop [0,1,2,3,19,20] 0 (by simp) (by simp) (by simp [deskC]))
 ·have he:k + i=c.loops.length:=by omega
  rw [he,findW_end (Nat.le_refl _)] at hf
  have hs:True:=trivial
  repeat' first|(with_reducible first|refine q01 ?_|refine q03 ?_|refine q06 ?_|refine q11 ?_|refine q16 ?_|refine q17 ?_)|(with_reducible refine At.fn_ret (by simp -dsimp [hlt,hs];exact rfl) ?_)|(with_reducible refine DT_regionE [0,1,2,3,8,9,10,11,19,20,21,56] ?_;simp -dsimp [hlt,hs])|(refine DT_cond rfl (fun h=>?_) (fun h=>?_)<;>(try simp only [nrm] at h)<;>(try exact Bool.noConfusion h))
  all_goals try simp -dsimp [hlt,hs]
  all_goals try clear hs
  all_goals simp [hf]
def lpAt (c:Chains) (n:Int):ChLoop:=(c.loops[n.toNat]?).getD ⟨[],0,0⟩
theorem lpAt_at {c:Chains} {k:Nat} (h:k < c.loops.length):lpAt c (k:Int)=c.loops[k]:=by simp [lpAt,h]
def worstR (c:Chains) (n:Int) (high:Bool):List Int:=if loopsE c n=0 then endsL (lpAt c n).links (sizesI c (lpAt c n)) high else []
def sharesR (c:Chains) (n:Int):List Int:=if loopsE c n=0 then (sizesI c (lpAt c n)).map fun d=>d.upper - d.lower else []
def wrongI (c:Chains):List Int:=(wrongTo c neverS 0 c.loops.length).map fun i:Nat=>(i:Int)
def wrongR (c:Chains):List Int:=if chainsE c=0 then wrongI c else []
set_option maxHeartbeats 1000000 in
theorem pWorst_c (c:Chains) (n:Int) (high:Bool) (hG:sheetG G) (hC:chainG G) (hs:SmallC c) (objs:List DObj):DCall Tryz.prog G 27 [chv c,iv n,bv high] objs (fun rr objs'=>rr=.tup [isv (worstR c n high),iv (loopsE c n)]∧objs'=objs):=by
 refine DCall.frame ?_ (by simp) (by simp) objs
 refine DCall_intro Tryz.func27 rfl Tryz.ntmps27 (by simp) rfl ?_
 try simp only [chv,iv,bv]
 have c1:=loops_c c n hG hC hs
 by_cases hE:loopsE c n=0
 ·obtain ⟨h0,k,rfl,hk⟩:=loopsE_zero hE
  have h:=okC h0
  have c2:=psizes_c (G:=G) c (cntD c) k hk h
  obtain ⟨hsl,hsd⟩:=sizes_ok h hk
  have hln:=(h.gap c.loops[k] (List.getElem_mem hk)).1
  have c3:=pend_c (G:=G) c (cntD c) (tkM c.reg c.lets) k hk (sizesI c c.loops[k]) high (by omega) hsl hsd
  rw [worstR,if_pos hE,lpAt_at hk]
  generalize endsL c.loops[k].links (sizesI c c.loops[k]) high=out at *
  rw [hE] at c1
  simp only [deskR,h0,if_true,deskC] at c1
  simp only [deskC,neverF,isv] at c2 c3
  have hs:True:=trivial
  repeat' first|(with_reducible first|refine q01 ?_|refine q11 ?_|refine q14 ?_|refine q17 ?_)|(with_reducible refine At.fn_ret (by simp -dsimp [hs];exact rfl) ?_)|(refine CallE.pure (c1) ?_;try simp -dsimp [hs])|(refine CallE.pure (c2) ?_;try simp -dsimp [hs])|(refine CallE.pure (c3) ?_;try simp -dsimp [hs])|(with_reducible refine DT_regionE [0,1,2,3,6,7,8,9,10,19] ?_;simp -dsimp [hs])|(refine DT_cond rfl (fun h=>?_) (fun h=>?_)<;>(try simp only [nrm] at h)<;>(try exact Bool.noConfusion h))
  all_goals try simp -dsimp [hs]
  all_goals try clear hs
  all_goals simp [hE]
 ·obtain ⟨X,hX⟩:=deskR_one c
  rw [hX] at c1
  rw [worstR,if_neg hE]
  have hs:True:=trivial
  repeat' first|(with_reducible first|refine q01 ?_|refine q02 ?_|refine q11 ?_|refine q17 ?_)|(with_reducible refine At.fn_ret (by simp -dsimp [hE,hs];exact rfl) ?_)|(refine CallE.pure (c1) ?_;try simp -dsimp [hE,hs])|(with_reducible refine DT_regionE [0,1,2,3,6,7,8,9,10,19] ?_;simp -dsimp [hE,hs])|(refine DT_cond rfl (fun h=>?_) (fun h=>?_)<;>(try simp only [nrm] at h)<;>(try exact Bool.noConfusion h))
  all_goals try simp -dsimp [hE,hs]
  all_goals try clear hs
set_option maxHeartbeats 1000000 in
theorem pShares_c (c:Chains) (n:Int) (hG:sheetG G) (hC:chainG G) (hs:SmallC c) (objs:List DObj):DCall Tryz.prog G 33 [chv c,iv n] objs (fun rr objs'=>rr=.tup [isv (sharesR c n),iv (loopsE c n)]∧objs'=objs):=by
 refine DCall.frame ?_ (by simp) (by simp) objs
 refine DCall_intro Tryz.func33 rfl Tryz.ntmps33 (by simp) rfl ?_
 try simp only [chv,iv]
 have c1:=loops_c c n hG hC hs
 by_cases hE:loopsE c n=0
 ·obtain ⟨h0,k,rfl,hk⟩:=loopsE_zero hE
  have h:=okC h0
  have c2:=psizes_c (G:=G) c (cntD c) k hk h
  obtain ⟨hsl,hsd⟩:=sizes_ok h hk
  have hln:=(h.gap c.loops[k] (List.getElem_mem hk)).1
  rw [sharesR,if_pos hE,lpAt_at hk]
  generalize sizesI c c.loops[k]=ds at *
  rw [hE] at c1
  simp only [deskR,h0,if_true,deskC] at c1
  simp only [deskC,neverF] at c2
  have hs:True:=trivial
  repeat' first|(with_reducible first|refine q01 ?_|refine q11 ?_|refine q12 ?_|refine q14 ?_)|(refine CallE.pure (c1) ?_;try simp -dsimp [hs])|(refine CallE.pure (c2) ?_;try simp -dsimp [hs])|(with_reducible refine DT_regionE [0,1,2,4,5,6,7,8,10,18,22,23,24,25] ?_;simp -dsimp [hs])|(refine DT_cond rfl (fun h=>?_) (fun h=>?_)<;>(try simp only [nrm] at h)<;>(try exact Bool.noConfusion h))
  all_goals try simp -dsimp [hs]
  all_goals try clear hs
  refine DT_loop (ι:={ p:Nat×Nat×Bool×List Int // p.1≤ds.length∧p.2.2.2=(ds.take p.1).map fun d=>d.upper - d.lower }) (fun p=>⟨38,[(8,.one (.vec 2 p.1.2.1 0 p.1.2.2.2.length)),(22,.one (.im (.sl (ds.map encDim)))),(23,iv (ds.length:Int)),(24,iv (p.1.1:Int))],[.row ((encChains c).map .im),.vec 1 [] 0 true,.vec 1 (ims (p.1.2.2.2.map encI)) p.1.2.1 p.1.2.2.1]⟩) (fun p=>ds.length - p.1.1) ⟨(0,0,true,[]),by simp⟩ (Weak.of_keep [8,22,23,24] (by simp)) ?_
  rintro ⟨⟨i,gn,nl,out⟩,hi,ho⟩
  simp only at hi ho
  simp only [iv]
  have hol:out.length=i:=by rw [ho];simp;omega
  by_cases hlt:i < ds.length
  ·have hy:ds[i]?=some ds[i]:=by simp [hlt]
   have hw:IntKind.i64.wrap ((i:Int) + 1)=((i + 1:Nat):Int):=i64w (by omega) (by omega)
   have hd:=(dimOk_iff _).1 (hsd ds[i] (List.getElem_mem hlt))
   have hwd:IntKind.i64.wrap (ds[i].upper - ds[i].lower)=ds[i].upper - ds[i].lower:=i64w (by omega) (by omega)
   have hon:out ++ [ds[i].upper - ds[i].lower]=(ds.take (i + 1)).map fun d=>d.upper - d.lower:=by rw [List.take_succ_eq_append_getElem hlt,List.map_append,ho];rfl
   have hs:True:=trivial
   repeat' first|(with_reducible first|refine q01 ?_|refine q04 ?_|refine q11 ?_|refine q12 ?_|refine q14 ?_|refine And.intro (by omega) ?_)|(with_reducible refine DT_regionE [0,1,2,4,5,6,7,8,10,18,22,23,24,25] ?_;simp -dsimp [hy,hw,hlt,hwd,hs])|(refine DT_cond rfl (fun h=>?_) (fun h=>?_)<;>(try simp only [nrm] at h)<;>(try exact Bool.noConfusion h))
   all_goals try simp -dsimp [hy,hw,hlt,hwd,hs]
   all_goals try clear hs
   all_goals try omega
   exact At.round ⟨(i + 1,gn + 1,false,out ++ [ds[i].upper - ds[i].lower]),by omega,hon⟩ (by simp;omega) (Weak.of_drop [8,22,23,24] 3 (by simp) (by simp) (by simp))
  ·rw [List.take_of_length_le (by omega)] at ho
   have hs:True:=trivial
   repeat' first|(with_reducible first|refine q01 ?_|refine q03 ?_|refine q06 ?_|refine q11 ?_|refine q16 ?_|refine q17 ?_)|(with_reducible refine At.fn_ret (by simp -dsimp [hlt,hs];exact rfl) ?_)|(with_reducible refine DT_regionE [0,1,2,4,5,6,7,8,10,18,22,23,24,25] ?_;simp -dsimp [hlt,hs])|(refine DT_cond rfl (fun h=>?_) (fun h=>?_)<;>(try simp only [nrm] at h)<;>(try exact Bool.noConfusion h))
   all_goals try simp -dsimp [hlt,hs]
   all_goals try clear hs
   all_goals try omega
   all_goals simp [ho,hE]
 ·obtain ⟨X,hX⟩:=deskR_one c
  rw [hX] at c1
  rw [sharesR,if_neg hE]
  have hs:True:=trivial
  repeat' first|(with_reducible first|refine q01 ?_|refine q02 ?_|refine q11 ?_|refine q17 ?_)|(with_reducible refine At.fn_ret (by simp -dsimp [hE,hs];exact rfl) ?_)|(refine CallE.pure (c1) ?_;try simp -dsimp [hE,hs])|(with_reducible refine DT_regionE [0,1,2,4,5,6,7,8,10,18,22,23,24,25] ?_;simp -dsimp [hE,hs])|(refine DT_cond rfl (fun h=>?_) (fun h=>?_)<;>(try simp only [nrm] at h)<;>(try exact Bool.noConfusion h))
  all_goals try simp -dsimp [hE,hs]
  all_goals try clear hs
set_option maxHeartbeats 1000000 in
theorem pWrong_c (c:Chains) (hG:sheetG G) (hC:chainG G) (hs:SmallC c) (objs:List DObj):DCall Tryz.prog G 32 [chv c] objs (fun rr objs'=>rr=.tup [isv (wrongR c),iv (chainsE c)]∧objs'=objs):=by
 refine DCall.frame ?_ (by simp) (by simp) objs
 refine DCall_intro Tryz.func32 rfl Tryz.ntmps32 (by simp) rfl ?_
 try simp only [chv]
 have c1:=chOpen_c c hG hC hs
 by_cases h0:chainsE c=0
 ·have h:=okC h0
  have hl:=hs.2.2.1
  have c2:=fun k (hk:k≤c.loops.length)=>pwrong_c (G:=G) c (cntD c) neverF neverS 0 k hk hl h (never_so c) (by decide) (by decide)
  rw [h0] at c1
  rw [wrongR,if_pos h0,h0]
  simp only [deskR,h0,if_true,deskC] at c1
  have hb:=findW_spec c neverS 0
  have hwt:=fun k (hk:k≤c.loops.length)=>wrongTo_find (c:=c) (so:=neverS) (g:=0) hk
  have hws:=wrongTo_succ c neverS 0
  simp only [deskC,neverF] at c2
  have c20:=c2 0 (Nat.zero_le _)
  simp only [Int.ofNat_eq_natCast,Int.natCast_zero] at c20
  have hI:wrongI c=(wrongTo c neverS 0 c.loops.length).map fun i:Nat=>(i:Int):=rfl
  generalize wrongI c=W at *
  have hs:True:=trivial
  repeat' first|(with_reducible first|refine q01 ?_|refine q11 ?_|refine q12 ?_|refine q14 ?_)|(refine CallE.pure (c1) ?_;try simp -dsimp [hs])|(refine CallE.pure (c20) ?_;try simp -dsimp [hs])|(with_reducible refine DT_regionE [0,1,2,3,4,5,6,7,14,22] ?_;simp -dsimp [hs])|(refine DT_cond rfl (fun h=>?_) (fun h=>?_)<;>(try simp only [nrm] at h)<;>(try exact Bool.noConfusion h))
  all_goals try simp -dsimp [hs]
  all_goals try clear hs
  refine DT_loop (ι:={ p:Nat×Nat×Bool×List Int // p.1≤c.loops.length∧(p.1 < c.loops.length→badT c neverS 0 p.1=true)∧p.2.2.2=(wrongTo c neverS 0 p.1).map fun i:Nat=>(i:Int) }) (fun p=>⟨32,[(1,.one (.ptr 0 0)),(4,.one (.im (deskC c (cntD c) (tkM c.reg c.lets)))),(6,.one (.vec 2 p.1.2.1 0 p.1.2.2.2.length)),(7,iv (p.1.1:Int))],[.row ((encChains c).map .im),.vec 1 [] 0 true,.vec 1 (ims (p.1.2.2.2.map encI)) p.1.2.1 p.1.2.2.1]⟩) (fun p=>c.loops.length - p.1.1) ⟨(findW c neverS 0 0,0,true,[]),(hb _ 0 rfl (Nat.zero_le _)).2.1,(hb _ 0 rfl (Nat.zero_le _)).2.2.2,by rw [hwt 0 (Nat.zero_le _)];rfl⟩ (Weak.of_keep [1,4,6,7] (by simp [deskC])) ?_
  rintro ⟨⟨i,gn,nl,out⟩,hi,hbad,ho⟩
  simp only at hi hbad ho
  simp only [iv,deskC]
  have hol:out.length≤i:=by
   rw [ho,List.length_map,wrongTo]
   have:=List.length_filter_le (badT c neverS 0) (List.range i)
   simpa using this
  by_cases hlt:i < c.loops.length
  ·have c3:=c2 (i + 1) (by omega)
   obtain ⟨b1,b2,b3,b4⟩:=hb _ (i + 1) rfl (by omega)
   have hwn:=hwt (i + 1) (by omega)
   generalize findW c neverS 0 (i + 1)=j at *
   obtain ⟨Z,hZ⟩:∃ Z,Z=i + 1:=⟨_,rfl⟩
   rw [← hZ] at c3
   have hw:IntKind.i64.wrap ((i:Int) + 1)=(Z:Int):=by rw [i64w (by omega) (by omega)];omega
   have hon:out ++ [(i:Int)]=(wrongTo c neverS 0 j).map fun i:Nat=>(i:Int):=by rw [hwn,hws,hbad hlt,if_pos rfl,List.map_append,ho];rfl
   have hs:True:=trivial
   repeat' first|(with_reducible first|refine q01 ?_|refine q04 ?_|refine q11 ?_|refine q12 ?_|refine q14 ?_|refine And.intro (by omega) ?_)|(refine CallE.pure (c3) ?_;try simp -dsimp [hw,hlt,hs])|(with_reducible refine DT_regionE [0,1,2,3,4,5,6,7,14,22] ?_;simp -dsimp [hw,hlt,hs])|(refine DT_cond rfl (fun h=>?_) (fun h=>?_)<;>(try simp only [nrm] at h)<;>(try exact Bool.noConfusion h))
   all_goals try simp -dsimp [hw,hlt,hs]
   all_goals try clear hs
   all_goals try omega
   exact At.round ⟨(j,gn + 1,false,out ++ [(i:Int)]),b2,b4,hon⟩ (by simp;omega) (Weak.of_drop [1,4,6,7] 3 (by simp) (by simp) (by simp [deskC]))
  ·have hie:i=c.loops.length:=by omega
   subst hie
   have hs:True:=trivial
   repeat' first|(with_reducible first|refine q01 ?_|refine q03 ?_|refine q06 ?_|refine q11 ?_|refine q16 ?_|refine q17 ?_)|(with_reducible refine At.fn_ret (by simp -dsimp [hlt,hs];exact rfl) ?_)|(with_reducible refine DT_regionE [0,1,2,3,4,5,6,7,14,22] ?_;simp -dsimp [hlt,hs])|(refine DT_cond rfl (fun h=>?_) (fun h=>?_)<;>(try simp only [nrm] at h)<;>(try exact Bool.noConfusion h))
   all_goals try simp -dsimp [hlt,hs]
   all_goals try clear hs
   all_goals try omega
   all_goals simp [ho,hI]
 ·have hD:∃ X,deskR c=.one (.im X):=deskR_one c
  obtain ⟨X,hX⟩:=hD
  rw [hX] at c1
  rw [wrongR,if_neg h0]
  have hs:True:=trivial
  repeat' first|(with_reducible first|refine q01 ?_|refine q02 ?_|refine q11 ?_|refine q17 ?_)|(with_reducible refine At.fn_ret (by simp -dsimp [h0,hs];exact rfl) ?_)|(refine CallE.pure (c1) ?_;try simp -dsimp [h0,hs])|(with_reducible refine DT_regionE [0,1,2,3,4,5,6,7,14,22] ?_;simp -dsimp [h0,hs])|(refine DT_cond rfl (fun h=>?_) (fun h=>?_)<;>(try simp only [nrm] at h)<;>(try exact Bool.noConfusion h))
  all_goals try simp -dsimp [h0,hs]
  all_goals try clear hs
end Go.Proofs
