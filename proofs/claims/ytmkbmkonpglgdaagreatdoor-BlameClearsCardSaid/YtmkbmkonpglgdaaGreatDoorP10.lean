/- Part 10 of the proofs: laws and walks that hold without conditions beyond those that each theorem names. -/
import Derived.Test.YtmkbmkonpglgdaaGreatDoorP09
set_option linter.all false
set_option linter.deprecated false
namespace Go.Ab
open Go
section
variable {P:Program} {G:Nat→Option (List IC)} {nt:Nat} {objs:List DObj} {ops:Array Oper}
def OpS (P:Program) (G:Nat→Option (List IC)) (nt:Nat) (objs:List DObj) (ops:Array Oper) (o:Oper) (d:DV) (τ:Tau):Prop:=
 (∃ t z,o.op=.alloc t∧o.guard=none∧d=.one .dead∧tzero P t=some z∧z.all Plain=true)∨((∀ t,o.op≠.alloc t)∧YA P G nt objs ops o d τ)
theorem OpS.same {o:Oper} {d:DV} {τ τ':Tau} (h:OpS P G nt objs ops o d τ) (hs:∀ t∈o.looksAt ops,τ' t=τ t):OpS P G nt objs ops o d τ':=
 h.imp id fun h=>⟨h.1,h.2.same hs⟩
def dstsOk (nt:Nat) (ops:Array Oper):Prop:=
 (∀ (i:Nat) (o:Oper),ops[i]?=some o→∀ u,o.dst=some u→u < nt) ∧
 (∀ (i j:Nat) (o o':Oper) (u:Nat),ops[i]?=some o→ops[j]?=some o'→o.dst=some u→o'.dst=some u→i=j)
def vis (ops:Array Oper) (ks:List Nat) (listed:Array Bool) (t:Nat):Prop:=∀ i∈ks,∀ o,ops[i]?=some o→o.dst=some t→listed.getD i false=true
open Classical in
noncomputable def maskT (ops:Array Oper) (ks:List Nat) (listed:Array Bool) (τ:Tau):Tau:=fun t=>if vis ops ks listed t then τ t else none
theorem getD_set_true' {l:Array Bool} {i j:Nat} (h:(l.setIfInBounds i true).getD j false=true):j=i∨l.getD j false=true:=by
 by_cases e:i=j
 ·exact .inl e.symm
 ·rw [getD_set_ne false e] at h;exact .inr h
def Pd (P:Program) (M0:MS) (ops:Array Oper) (ks:List Nat) (listed:Array Bool) (a:Act) (M:MS):Prop:=
 ∃ β':Nat→Nat,(∀ (i:Nat) (o:Oper) (t:TypeId) (u:Nat),i∈ks→ops[i]?=some o→o.op=.alloc t→o.dst=some u→listed.getD i false=true →
  ∃ z,tzero P t=some z∧Hid M0 a M (u,z) (β' i)) ∧
  ∀ (i j:Nat) (o o':Oper) (t t':TypeId),i∈ks→j∈ks→ops[i]?=some o→o.op=.alloc t→listed.getD i false=true→ops[j]?=some o'→o'.op=.alloc t'→listed.getD j false=true→o.dst.isSome=true→o'.dst.isSome=true→β' i=β' j→i=j
theorem Pd.step {M0 M M':MS} {ks:List Nat} {listed:Array Bool} {a:Act} {i:Nat} {o:Oper} {v:Value} {n:Nat} (hd:dstsOk nt ops) (hi:ops[i]?=some o) (hna:∀ t,o.op≠.alloc t) (hm:RelM G M) (he:Ext n M M') (h:Pd P M0 ops ks listed a M) :
 Pd P M0 ops ks (listed.setIfInBounds i true) (a.put o.dst v) M':=by
 obtain ⟨β',h1,h2⟩:=h
 have back:∀ {j:Nat} {o':Oper} {t:TypeId},ops[j]?=some o'→o'.op=.alloc t→(listed.setIfInBounds i true).getD j false=true→listed.getD j false=true:=fun {j o' t} hj ht hl=>by
  rcases getD_set_true' hl with rfl|hl
  ·rw [hi] at hj;cases hj;exact absurd ht (hna t)
  ·exact hl
 refine ⟨β',fun j o' t u hk hj ht hu hl=>?_,fun j k o' o'' t t' hkj hkk hj ht hlj hk ht' hlk hs hs' hβ=>h2 j k o' o'' t t' hkj hkk hj ht (back hj ht hlj) hk ht' (back hk ht' hlk) hs hs' hβ⟩
 obtain ⟨z,z1,z4,z5,z2,z3,c,t',z6,z7⟩:=h1 j o' t u hk hj ht hu (back hj ht hl)
 refine ⟨z,z1,he.other.1 _ z4,z5,z2,?_,c,t',by rw [(he.free _ (hm.F_free z4)).2];exact z6,z7⟩
 cases hdst:o.dst with
 | none=>exact z3
 | some x =>
   have hne:x≠u:=fun e=>by
    subst e
    have:=hd.2 i j o o' x hi hj hdst hu
    subst this
    rw [hi] at hj;cases hj;exact hna t ht
   simp only [Act.put]
   rw [Array.getElem?_setIfInBounds_ne hne];exact z3
structure Inv (P:Program) (G:Nat→Option (List IC)) (nt:Nat) (objs:List DObj) (ops:Array Oper) (ks:List Nat) (τ:Tau) (M0:MS) (base:Array Bool) (dfs:List Deferred) (f:Nat) (listed:Array Bool) (a:Act) (M:MS):Prop where
 sz:listed.size=ops.size
 cn:listed.toList.count false=f
 cl:Closed ops listed
 rel:RelF G nt objs (maskT ops ks listed τ) a M
 ext:Ext objs.length M0 M
 df:a.defers=dfs
 pd:Pd P M0 ops ks listed a M
 only:∀ i,listed.getD i false=true→base.getD i false=true∨i∈ks
 has:∀ i,base.getD i false=true→listed.getD i false=true
theorem count_step {listed:Array Bool} {i f:Nat} (h0:listed.getD i true=false) (hc:listed.toList.count false=f + 1):(listed.setIfInBounds i true).toList.count false=f:=by
 have hlt:i < listed.size:=by
  rcases Nat.lt_or_ge i listed.size with h|h
  ·exact h
  ·simp [Array.getElem?_eq_none h] at h0
 have hv:listed.toList[i]'(by simpa using hlt)=false:=by
  simp [hlt] at h0
  simpa using h0
 rw [Array.toList_setIfInBounds,List.count_set (by simpa using hlt),hv,hc]
 simp
theorem exists_ready (hback:∀ (k:Nat) (o:Oper),ops[k]?=some o→∀ e∈o.after,Region.binds .any e=true→e.on < k) {listed:Array Bool} (hs:listed.size=ops.size):∀ (k:Nat),listed.getD k true=false→∃ j,j∈Region.ready .any ops listed:=by
 intro k
 induction k using Nat.strongRecOn with
 | ind k ih =>
   intro hk
   by_cases h:∃ m,m < k∧listed.getD m true=false
   ·obtain ⟨m,h1,h2⟩:=h
    exact ih m h1 h2
   ·have hlt:k < listed.size:=by
     rcases Nat.lt_or_ge k listed.size with h|h
     ·exact h
     ·simp [Array.getElem?_eq_none h] at hk
    obtain ⟨o,ho⟩:∃ o,ops[k]?=some o:=⟨ops[k]'(by omega),by simp⟩
    refine ⟨k,mem_ready.2 ⟨hk,o,ho,fun e he hb=>?_⟩⟩
    have h1:=hback k o ho e he hb
    have h2:e.on < listed.size:=by omega
    have h3:¬ listed.getD e.on true=false:=fun h4=>h ⟨_,h1,h4⟩
    simp [h2] at h3 ⊢
    exact h3
theorem mask_put {ks:List Nat} {listed:Array Bool} {τ:Tau} {i:Nat} {o:Oper} {d:DV} (hi:ops[i]?=some o) (hv:∀ u,o.dst=some u→τ u=some d) (t:Nat) (e:DV) :
 maskT ops ks (listed.setIfInBounds i true) τ t=some e→putF (maskT ops ks listed τ) o.dst d t=some e:=by
 intro h
 unfold maskT at h
 split at h
 ·rename_i hvis
  by_cases hdt:o.dst=some t
  ·rw [hv t hdt] at h
   rw [hdt]
   simpa [putF] using h
  ·rw [putF_ne (fun u hu e=>hdt (by rw [hu,e]))]
   unfold maskT
   rw [if_pos]
   ·exact h
   ·intro j hj oj hoj hdj
    rcases getD_set_true' (hvis j hj oj hoj hdj) with rfl|h
    ·rw [hi] at hoj;cases hoj;exact absurd hdj hdt
    ·exact h
 ·cases h
theorem RelF.le {τ τ':Tau} {a:Act} {M:MS} (h:RelF G nt objs τ a M) (hl:∀ t d,τ' t=some d→τ t=some d):RelF G nt objs τ' a M:=
 ⟨h.m,h.ob,h.nt,h.df,fun t d ht=>h.tm t d (hl t d ht)⟩
theorem wpAny_soup {ks:List Nat} {τ:Tau} {M0:MS} {base:Array Bool} {dfs:List Deferred} {ro:Option Nat} {Q':Exit→Act→World→Prop} (hd:dstsOk nt ops)
 (hY:∀ i∈ks,∃ o d,ops[i]?=some o∧OpS P G nt objs ops o d τ∧∀ u,o.dst=some u→τ u=some d)
 (hdep:∀ i∈ks,∀ o,ops[i]?=some o→∀ k∈ks,∀ o',ops[k]?=some o'→∀ u,o'.dst=some u→u∈o.looksAt ops→∃ e∈o.after,e.on=k∧Region.binds .any e=true)
 (hback:∀ (k:Nat) (o:Oper),ops[k]?=some o→∀ e∈o.after,Region.binds .any e=true→e.on < k)
 (hJ:∀ f listed a M,Inv P G nt objs ops ks τ M0 base dfs (f + 1) listed a M→∀ j∈Region.ready .any ops listed,j∉ks→wpOpIn (fenceR ro) 0 P ops Q' j (wpAnyIn (fenceR ro) 0 P .any ops Q' f (listed.setIfInBounds j true)) a M.w)
 (hE:∀ listed a M,Inv P G nt objs ops ks τ M0 base dfs 0 listed a M→Q' .normal a M.w) :
 ∀ f listed a M,Inv P G nt objs ops ks τ M0 base dfs f listed a M→wpAnyIn (fenceR ro) 0 P .any ops Q' f listed a M.w
 | 0,listed,a,M,hi=>by
   refine ⟨?_,hE listed a M hi⟩
   rw [List.eq_nil_iff_forall_not_mem]
   intro j hj
   obtain ⟨h0,oj,hoj,_⟩:=mem_ready.1 hj
   have hlt:j < listed.size:=by rw [hi.sz];exact (Array.getElem?_eq_some_iff.1 hoj).1
   have hnot:=List.count_eq_zero.1 hi.cn
   refine hnot ?_
   simp [hlt] at h0
   rw [← h0]
   exact Array.getElem_mem_toList hlt
 | f + 1,listed,a,M,hi=>by
   refine ⟨fun hnil=>?_,fun i hrd=>?_⟩
   ·exfalso
    have hmem:false∈listed.toList:=List.one_le_count_iff.1 (by rw [hi.cn];omega)
    obtain ⟨k,hk,hkv⟩:=List.mem_iff_getElem.1 hmem
    have hk':k < listed.size:=by simpa using hk
    have h0:listed.getD k true=false:=by simp [hk'];simpa using hkv
    obtain ⟨j,hj⟩:=exists_ready hback hi.sz k h0
    rw [hnil] at hj
    cases hj
   ·by_cases hik:i∈ks
    ·obtain ⟨o,d,ho,hop,hdst⟩:=hY i hik
     obtain ⟨h0,o',ho',hall⟩:=mem_ready.1 hrd
     rw [ho] at ho';cases ho'
     have hsame:∀ t∈o.looksAt ops,maskT ops ks listed τ t=τ t:=fun t ht=>by
      unfold maskT
      rw [if_pos]
      intro k hk ok hok hdk
      obtain ⟨e,he,rfl,hb⟩:=hdep i hik o ho k hk ok hok t hdk ht
      exact hall e he hb
     have base1:∀ (a':Act) (M':MS),RelF G nt objs (putF (maskT ops ks listed τ) o.dst d) a' M'→Ext objs.length M0 M'→a'.defers=dfs→Pd P M0 ops ks (listed.setIfInBounds i true) a' M' →
      Inv P G nt objs ops ks τ M0 base dfs f (listed.setIfInBounds i true) a' M':=fun a' M' h1 h2 h3 h4 =>
      ⟨by simpa using hi.sz,count_step h0 hi.cn,hi.cl.step hrd,h1.le (mask_put ho hdst),h2,h3,h4,fun j hj=>by
       rcases getD_set_true' hj with rfl|hj
       ·exact .inr hik
       ·exact hi.only j hj,fun j hj=>getD_set_true (hi.has j hj)⟩
     rcases hop with ⟨t,z,hal,hg,rfl,hz,hzp⟩|⟨hna,hy⟩
     ·obtain ⟨v,hrun,hv⟩:=runZero (w:=M.w) hz
      have hex:(execOp a.eval o).run P M.w=.ok (.value (.pointer (some ⟨M.w.heap.size,0,none⟩))) (M.w.alloc (.cells v.cells t)):=by
       simp [execOp,hal,Instr.alloc,hrun,newVar,newRow,newObj,Sem.run]
      have hheap:(M.w.alloc (.cells v.cells t)).heap=M.w.heap.push (.cells v.cells t):=by unfold World.alloc;rfl
      have hold:∀ b,b < M.w.heap.size→(M.w.alloc (.cells v.cells t)).heap[b]?=M.w.heap[b]?:=fun b hb=>by rw [hheap,Array.getElem?_push,if_neg (Nat.ne_of_lt hb)]
      let M1:MS:={ M with w:=M.w.alloc (.cells v.cells t),F:=fun b=>M.F b∨b=M.w.heap.size }
      have he1:Ext M.objs.length M M1:=by
       refine ⟨Nat.le_refl _,fun b hb=>⟨⟨?_,hb.2⟩,hold b hb.1⟩,⟨fun b hb=>.inl hb,fun b hb hF=>?_⟩,by simp [M1,hheap],fun p _ c' hc=>⟨⟨c',hc⟩,rfl⟩,fun p _ sz es g nl hv=>⟨sz,es,g,nl,hv,Nat.le_refl _,fun _=>⟨rfl,rfl,fun hn=>⟨rfl,?_⟩⟩⟩,fun p _ ks es hm=>⟨⟨ks,es,hm⟩,rfl⟩,
        fun p _ r hm=>⟨⟨r,hm⟩,rfl⟩,fun p _ d hm hi=>⟨⟨d,hm,hi⟩,rfl⟩,fun p _ r hm=>⟨⟨r,hm⟩,rfl⟩,⟨rfl,rfl,rfl,by first|exact Nat.le_refl _|exact Nat.le_succ _⟩⟩
       ·have:=hb.1;simp only [M1,hheap,Array.size_push];omega
       ·rcases hF with hF|hF
        ·exact hb.2 hF
        ·have:=hb.1.1;omega
       ·simp only [bsize,M1]
        rw [hold _ (hi.rel.m.lt p _ hv (by simp [DObj.blk,hn]))]
      have hm1:RelM G M1:=by
       refine ⟨fun o d ho=>(hi.rel.m.objs o d ho).ext he1 (fun _=>rfl) (fun hb=>hold _ (hi.rel.m.lt o d ho hb)),fun o d ho hb=>?_,hi.rel.m.inj,fun g l hg=>(hi.rel.m.glob g l hg).mono he1.ok,fun b hF=>?_,fun o d ho hb hF=>?_⟩
       ·have:=hi.rel.m.lt o d ho hb;simp only [M1,hheap,Array.size_push];omega
       ·simp only [M1,hheap,Array.size_push]
        rcases hF with hF|hF
        ·have:=hi.rel.m.fl b hF;omega
        ·omega
       ·rcases hF with hF|hF
        ·exact hi.rel.m.own o d ho hb hF
        ·have:=hi.rel.m.lt o d ho hb;simp only [M1] at hF;omega
      have he1':Ext objs.length M M1:=by rw [← hi.rel.ob];exact he1
      have hr1:=hi.rel.put hm1 (show M1.objs=objs from hi.rel.ob) he1' (d:=.one .dead) (v:=.pointer (some ⟨M.w.heap.size,0,none⟩)) (.one _ _ (.dead _ rfl)) (hd.1 i o ho)
      have hpd1:Pd P M0 ops ks (listed.setIfInBounds i true) (a.put o.dst (.pointer (some ⟨M.w.heap.size,0,none⟩))) M1:=by
       obtain ⟨β',p1,p2⟩:=hi.pd
       have hlt:∀ (j:Nat) (o':Oper) (t':TypeId),j∈ks→ops[j]?=some o'→o'.op=.alloc t'→listed.getD j false=true→o'.dst.isSome=true→β' j < M.w.heap.size:=fun j o' t' hjk hj ht' hl hs=>by
        obtain ⟨u,hu⟩:=Option.isSome_iff_exists.1 hs
        obtain ⟨_,_,q4,_⟩:=p1 j o' t' u hjk hj ht' hu hl
        exact hi.rel.m.fl _ q4
       refine ⟨fun j=>if j=i then M.w.heap.size else β' j,fun j o' t' u hjk hj ht' hu hl=>?_,fun j k o' o'' t1 t2 hjk hkk hj ht1 hlj hk ht2 hlk hs hs' hβ=>?_⟩
       ·by_cases e:j=i
        ·subst e
         rw [ho] at hj;cases hj
         rw [hal] at ht';cases ht'
         refine ⟨z,hz,.inr (by simp),?_,hzp,?_,v.cells,t,?_,hv⟩
         ·simp only [if_true];exact hi.ext.hs
         ·simp only [if_true,hu,Act.put]
          rw [Array.getElem?_setIfInBounds_self_of_lt (by rw [hi.rel.nt];exact hd.1 j o ho u hu)]
         ·simp only [if_true];exact alloc_new
        ·have hl':listed.getD j false=true:=(getD_set_true' hl).resolve_left e
         obtain ⟨z',q1,q4,q5,q2,q3,c,t'',q6,q7⟩:=p1 j o' t' u hjk hj ht' hu hl'
         refine ⟨z',q1,by simp only [if_neg e];exact .inl q4,by simp only [if_neg e];exact q5,q2,?_,c,t'',by simp only [if_neg e,M1];rw [hold _ (hi.rel.m.fl _ q4)];exact q6,q7⟩
         simp only [if_neg e]
         cases hdo:o.dst with
         | none=>exact q3
         | some x =>
           have hne:x≠u:=fun e'=>by
            subst e'
            exact e (hd.2 j i o' o x hj ho hu hdo)
           simp only [Act.put]
           rw [Array.getElem?_setIfInBounds_ne hne];exact q3
       ·by_cases e1:j=i<;>by_cases e2:k=i
        ·rw [e1,e2]
        ·simp only [if_pos e1,if_neg e2] at hβ
         have:=hlt k o'' t2 hkk hk ht2 ((getD_set_true' hlk).resolve_left e2) hs'
         omega
        ·simp only [if_neg e1,if_pos e2] at hβ
         have:=hlt j o' t1 hjk hj ht1 ((getD_set_true' hlj).resolve_left e1) hs
         omega
        ·simp only [if_neg e1,if_neg e2] at hβ
         exact p2 j k o' o'' t1 t2 hjk hkk hj ht1 ((getD_set_true' hlj).resolve_left e1) hk ht2 ((getD_set_true' hlk).resolve_left e2) hs hs' hβ
      have hw:Region.wanted o (yielded ops a.tmps)=true:=by simp [Region.wanted,hg]
      unfold wpOpIn
      simp only [ho,hw,if_true]
      exact wpIn_value hex (wpAny_soup hd hY hdep hback hJ hE f _ _ M1 (base1 _ M1 hr1 (hi.ext.trans he1') ((put_defers _ _ _).trans hi.df) hpd1))
     ·have hy':=hy.same hsame
      rcases hy' with ⟨hw,hoq⟩|⟨hw,rfl⟩
      ·have hw':=wantedF_sound hi.rel hw
       unfold wpOpIn
       simp only [ho,hw',if_true]
       exact wp_of_OpQ hi.rel hoq fun v M' h2 h3 h4 h5=>wpAny_soup hd hY hdep hback hJ hE f _ _ M' (base1 _ M' (hi.rel.put h2 h3 h4 h5 (hd.1 i o ho)) (hi.ext.trans h4) ((put_defers _ _ _).trans hi.df) (hi.pd.step hd ho hna hi.rel.m h4))
      ·have hw':=wantedF_sound hi.rel hw
       unfold wpOpIn
       simp only [ho,hw',Bool.false_eq_true,if_false]
       exact ⟨fun _ _=>trivial,wpAny_soup hd hY hdep hback hJ hE f _ _ M (base1 _ M (hi.rel.put hi.rel.m hi.rel.ob (by rw [← hi.rel.ob];exact Ext.refl M) (.tup _ _ rfl (fun j d v h=>by simp at h)) (hd.1 i o ho)) hi.ext ((put_defers _ _ _).trans hi.df) (hi.pd.step hd ho hna hi.rel.m (Ext.refl M)))⟩
    ·exact hJ f listed a M hi i hrd hik
end
end Go.Ab
namespace Go.Ab
open Go
section
variable {P:Program} {G:Nat→Option (List IC)} {nt:Nat} {objs:List DObj} {ops:Array Oper}
def isAl:Op→Option TypeId
 | .alloc t=>some t
 | _=>none
def zOk (P:Program) (t:TypeId):Bool:=match tzero P t with
 | some z=>z.all Plain
 | none=>false
theorem isAl_some {op:Op} {t:TypeId} (h:isAl op=some t):op=.alloc t:=by
 cases op<;>simp [isAl] at h
 subst h;rfl
theorem isAl_none {op:Op} (h:isAl op=none) (t:TypeId):op≠.alloc t:=by
 rintro rfl
 cases h
def XStep (P:Program) (G:Nat→Option (List IC)) (dsts:List (Option Tmp)) (S:DS) (o:Oper) (R:DV→Prop) (_t:Tok R):Option TypeId→Prop
 | some t=>(o.guard=none∧zOk P t=true)∧R (.one .dead)
 | none=>Want (wantedA dsts S o) (NextQ P G S.objs (stepQ P G (S.keep (slotsOf o.op)) o.op o.type) R ⟨⟩) (R (.tup [])) ⟨⟩
def RXe (P:Program) (G:Nat→Option (List IC)) (dsts:List (Option Tmp)):List Oper→DS→(K:DS→Prop)→Tok K→Prop
 | [],S,K,_=>K S
 | o :: l,S,K,tk=>XStep P G dsts S o (fun d=>RXe P G dsts l (S.put o.dst d) K tk) ⟨⟩ (isAl o.op)
def sameAt:List Nat→List (Nat×DV)→List (Nat×DV)→Prop
 | [],_,_=>True
 | t :: r,a,b=>tget a t=tget b t∧sameAt r a b
theorem sameAt_mem {a b:List (Nat×DV)}:∀ {l:List Nat} {t:Nat},sameAt l a b→t∈l→tget a t=tget b t
 | x :: l,t,h,ht=>by
   rcases List.mem_cons.1 ht with rfl|ht
   ·exact h.1
   ·exact sameAt_mem h.2 ht
def Al (ops:Array Oper):List Nat→List Oper→Prop
 | [],[]=>True
 | i :: is,o :: l=>ops[i]?=some o∧Al ops is l
 | _,_=>False
def noLook (ops:Array Oper):List Oper→Bool
 | []=>true
 | o :: l=>((o :: l).all fun o'=>match o'.dst with|some u=>!(o.looksAt ops).contains u|none=>true) && noLook ops l
theorem soup_of_RXe {K:DS→Prop}:∀ (is:List Nat) (l:List Oper) (S:DS),Al ops is l→S.nt=nt→S.objs=objs→(∀ o∈l,∀ u,o.dst=some u→u < nt)→(l.map (·.dst)).Pairwise (fun x y=>x.isSome=true→x≠y)→noLook ops l=true →
 RXe P G (ops.toList.map (·.dst)) l S K ⟨⟩ →
 ∃ Sq:DS,K Sq∧Sq.nt=nt∧Sq.objs=objs∧(∀ i∈is,∃ o d,ops[i]?=some o∧OpS P G nt objs ops o d (tget Sq.tmps)∧∀ u,o.dst=some u→tget Sq.tmps u=some d) ∧
  ∀ t,(∀ o∈l,o.dst≠some t)→tget Sq.tmps t=tget S.tmps t
 | [],[],S,_,h1,h2,_,_,_,h=>⟨S,h,h1,h2,(fun i hi=>by cases hi),fun _ _=>rfl⟩
 | i :: is,o :: l,S,ha,h1,h2,hd,hp,hn,h=>by
   obtain ⟨ho,ha⟩:=ha
   simp only [noLook,Bool.and_eq_true] at hn
   obtain ⟨hn1,hn2⟩:=hn
   rw [List.map_cons,List.pairwise_cons] at hp
   have hd0:∀ u,o.dst=some u→u < S.nt:=fun u hu=>by rw [h1];exact hd o (by simp) u hu
   have first:∃ d,OpS P G nt objs ops o d (tget S.tmps)∧RXe P G (ops.toList.map (·.dst)) l (S.put o.dst d) K ⟨⟩:=by
    rw [RXe] at h
    generalize hal:isAl o.op=x at h
    cases x with
    | some t =>
      obtain ⟨⟨hg,hz⟩,hk⟩:=h
      unfold zOk at hz
      split at hz
      ·rename_i z hz'
       exact ⟨_,.inl ⟨t,z,isAl_some hal,hg,rfl,hz',hz⟩,hk⟩
      ·cases hz
    | none =>
      have hna:=isAl_none hal
      subst h1
      subst h2
      simp only [XStep] at h
      generalize hb:wantedA (ops.toList.map (·.dst)) S o=r at h
      cases r with
      | none=>exact h.elim
      | some b =>
        cases b with
        | false=>exact ⟨_,.inr ⟨hna,.inr ⟨wantedA_F hb,rfl⟩⟩,h.2 rfl⟩
        | true =>
          have h3:=h.1 rfl
          generalize hx:stepQ P G (S.keep (slotsOf o.op)) o.op o.type=x at h3
          cases x with
          | val d objs' =>
            obtain ⟨rfl,hkk⟩:=h3
            exact ⟨d,.inr ⟨hna,.inl ⟨wantedA_F hb,OpQ_of_val (stepQ_val hx)⟩⟩,hkk⟩
          | call f as =>
            obtain ⟨x,ys,ts,d,as,caps,hoc,hxv,has,hc,rfl⟩:=stepQ_call hx
            obtain ⟨hok,d0,hcall,hkk⟩:=h3
            exact ⟨d0,.inr ⟨hna,.inl ⟨wantedA_F hb,OpQ_of_call hoc hxv hc has hok hcall⟩⟩,hkk⟩
          | cond p d objs' =>
            obtain ⟨hp,rfl,hkk⟩:=h3
            exact ⟨d,.inr ⟨hna,.inl ⟨wantedA_F hb,OpQ_of_val (stepQ_cond hx hp)⟩⟩,hkk⟩
          | yield l as=>exact h3.elim
          | iter o l=>exact h3.elim
          | nilq l b=>exact h3.elim
          | gen p=>exact h3.elim
          | bad=>exact h3.elim
   obtain ⟨d,hs,hk⟩:=first
   obtain ⟨Sq,k1,k2,k3,k4,k5⟩:=soup_of_RXe is l (S.put o.dst d) ha (put_objs.2.trans h1) (put_objs.1.trans h2) (fun o ho=>hd o (by simp [ho])) hp.2 hn2 hk
   have hput:∀ t,(∀ o'∈l,o'.dst≠some t)→tget Sq.tmps t=putF (tget S.tmps) o.dst d t:=fun t ht=>by rw [k5 t ht,put_tget hd0]
   refine ⟨Sq,k1,k2,k3,fun j hj=>?_,fun t ht=>?_⟩
   ·rcases List.mem_cons.1 hj with rfl|hj
    ·refine ⟨o,d,ho,hs.same fun t ht=>?_,fun u hu=>?_⟩
     ·have hno:∀ o'∈o :: l,o'.dst≠some t:=fun o' ho' e=>by
       have:=List.all_eq_true.1 hn1 o' ho'
       rw [e] at this
       simp at this
       exact this ht
      rw [hput t fun o' ho'=>hno o' (by simp [ho'])]
      exact putF_ne fun u hu e=>hno o (by simp) (by rw [hu,e])
     ·rw [hput u fun o' ho' e=>hp.1 _ (List.mem_map_of_mem ho') (by simp [hu]) (by rw [hu,e]),hu]
      simp [putF]
    ·exact k4 j hj
   ·rw [hput t fun o' ho'=>ht o' (by simp [ho'])]
    exact putF_ne fun u hu e=>ht o (by simp) (by rw [hu,e])
 | [],_ :: _,_,h,_,_,_,_,_,_=>h.elim
 | _ :: _,[],_,h,_,_,_,_,_,_=>h.elim
theorem wpIn_put {F:Fence} {n:Nat} {o:Oper} {a:Act} {w:World} {K:Act→World→Prop} (h:o.wpIn F n P a w K (fun _ _ _=>False)) :
 o.wpIn F n P a w (fun a' w'=>K a' w'∧∃ v,a'.tmps=(a.put o.dst v).tmps) (fun _ _ _=>False):=by
 have dp:∀ (a:Act) (ds:List Deferred) (v:Value),({ a with defers:=ds }.put o.dst v).tmps=(a.put o.dst v).tmps:=fun a ds v=>by cases o.dst<;>rfl
 unfold Oper.wpIn at *
 refine ⟨h.1,?_⟩
 have hh:=h.2
 generalize (o.semAt F.round a.eval).run P w=r at *
 cases r with
 | ok x w' =>
   cases x with
   | enter f args =>
     simp only [Oper.uponIn] at hh ⊢
     exact ⟨hh.1,hh.2.mono fun e w'' hR=>by
      cases e with
      | returned v=>exact ⟨hR,v,rfl⟩
      | panicked c=>exact hR.elim
      | outgrown=>exact (LetsOut_false hR).elim⟩
   | round l f tmps asg body =>
     simp only [Oper.uponIn] at hh ⊢
     exact ⟨hh.1,hh.2.mono fun e w'' hR=>by
      cases e with
      | returned v=>exact ⟨hR,v,rfl⟩
      | panicked c=>exact hR.elim
      | outgrown=>exact (LetsOut_false hR).elim⟩
   | row r args =>
     simp only [Oper.uponIn] at hh ⊢
     exact ⟨hh.1,hh.2.mono fun v w'' hR=>⟨hR,v,rfl⟩⟩
   | value v=>exact ⟨hh,v,rfl⟩
   | skip=>exact ⟨hh,undef,rfl⟩
   | defer d=>exact ⟨hh,undef,dp a _ undef⟩
   | _=>exact absurd hh (by simp [Oper.uponIn])
 | halt x w'=>exact absurd hh (by cases x<;>simp [Oper.uponIn])
end
end Go.Ab
namespace Go.Ab
open Go
section
variable {P:Program} {G:Nat→Option (List IC)} {nt:Nat} {objs:List DObj} {ops:Array Oper}
def alsOf (P:Program):List Oper→List (Nat×List Value)
 | []=>[]
 | o :: l=>match isAl o.op,o.dst with
   | some t,some u=>match tzero P t with
     | some z=>(u,z) :: alsOf P l
     | none=>alsOf P l
   | _,_=>alsOf P l
theorem als_blocks {M0 M:MS} {a:Act} {β':Nat→Nat}:∀ (is:List Nat) (l:List Oper),Al ops is l→is.Nodup →
 (∀ i∈is,∀ o t u,ops[i]?=some o→o.op=.alloc t→o.dst=some u→∃ z,tzero P t=some z∧Hid M0 a M (u,z) (β' i)) →
 (∀ i∈is,∀ k∈is,∀ o o' t t',ops[i]?=some o→ops[k]?=some o'→o.op=.alloc t→o'.op=.alloc t'→o.dst.isSome=true→o'.dst.isSome=true→β' i=β' k→i=k) →
 ∃ bs:List Nat,(alsOf P l).length=bs.length∧(∀ (m:Nat) (x:Nat×List Value) (b:Nat),(alsOf P l)[m]?=some x→bs[m]?=some b→Hid M0 a M x b)∧bs.Nodup ∧
  ∀ b∈bs,∃ i∈is,∃ o t,ops[i]?=some o∧o.op=.alloc t∧o.dst.isSome=true∧b=β' i
 | [],[],_,_,_,_=>⟨[],rfl,(fun m x b h=>by simp [alsOf] at h),List.nodup_nil,(fun b h=>by cases h)⟩
 | i :: is,o :: l,ha,hnd,h1,h2=>by
   obtain ⟨ho,ha⟩:=ha
   rw [List.nodup_cons] at hnd
   obtain ⟨bs,e1,e2,e3,e4⟩:=als_blocks is l ha hnd.2 (fun k hk=>h1 k (by simp [hk])) (fun k hk m hm=>h2 k (by simp [hk]) m (by simp [hm]))
   have wide:∃ bs:List Nat,(alsOf P l).length=bs.length∧(∀ (m:Nat) (x:Nat×List Value) (b:Nat),(alsOf P l)[m]?=some x→bs[m]?=some b→Hid M0 a M x b)∧bs.Nodup ∧
    ∀ b∈bs,∃ k∈i :: is,∃ o t,ops[k]?=some o∧o.op=.alloc t∧o.dst.isSome=true∧b=β' k:=
    ⟨bs,e1,e2,e3,fun b hb=>let ⟨k,hk,r⟩:=e4 b hb;⟨k,by simp [hk],r⟩⟩
   simp only [alsOf]
   split
   ·rename_i t u hal hdst
    have hop:=isAl_some hal
    obtain ⟨z,hz,hh⟩:=h1 i (by simp) o t u ho hop hdst
    rw [hz]
    refine ⟨β' i :: bs,by simp [e1],fun m x b hx hb=>?_,?_,fun b hb=>?_⟩
    ·cases m with
     | zero=>simp at hx hb;subst hx;subst hb;exact hh
     | succ m=>exact e2 m x b (by simpa using hx) (by simpa using hb)
    ·rw [List.nodup_cons]
     refine ⟨fun hmem=>?_,e3⟩
     obtain ⟨k,hk,o',t',ho',hop',hs',he⟩:=e4 _ hmem
     have:=h2 i (by simp) k (by simp [hk]) o o' t t' ho ho' hop hop' (by simp [hdst]) hs' he
     exact hnd.1 (this ▸ hk)
    ·rcases List.mem_cons.1 hb with rfl|hb
     ·exact ⟨i,by simp,o,t,ho,hop,by simp [hdst],rfl⟩
     ·obtain ⟨k,hk,r⟩:=e4 b hb
      exact ⟨k,by simp [hk],r⟩
   ·exact wide
 | [],_ :: _,h,_,_,_=>h.elim
 | _ :: _,[],h,_,_,_=>h.elim
def pick (l:List Oper):List Nat→List Oper
 | []=>[]
 | i :: r=>match l[i]? with
   | some o=>o :: pick l r
   | none=>pick l r
theorem Al_pick {l:List Oper}:∀ {is:List Nat},(∀ i∈is,i < l.length)→Al l.toArray is (pick l is)
 | [],_=>trivial
 | i :: r,h=>by
   have hi:l[i]?=some (l[i]'(h i (by simp))):=List.getElem?_eq_getElem _
   simp only [pick,hi]
   exact ⟨by simp [hi],Al_pick fun k hk=>h k (by simp [hk])⟩
theorem mem_pick {l:List Oper}:∀ {is:List Nat} {o:Oper},o∈pick l is→∃ i∈is,l[i]?=some o
 | [],o,h=>by cases h
 | i :: r,o,h=>by
   simp only [pick] at h
   split at h
   ·rename_i o' ho'
    rcases List.mem_cons.1 h with rfl|h
    ·exact ⟨i,by simp,ho'⟩
    ·obtain ⟨k,hk,e⟩:=mem_pick h;exact ⟨k,by simp [hk],e⟩
   ·obtain ⟨k,hk,e⟩:=mem_pick h;exact ⟨k,by simp [hk],e⟩
theorem pick_mem {l:List Oper} {is:List Nat} {i:Nat} {o:Oper} (hi:i∈is) (ho:l[i]?=some o):o∈pick l is:=by
 induction is with
 | nil=>cases hi
 | cons k r ih =>
   simp only [pick]
   rcases List.mem_cons.1 hi with rfl|hi
   ·rw [ho];simp
   ·split
    ·exact List.mem_cons_of_mem _ (ih hi)
    ·exact ih hi
def distinct:List (Option Tmp)→Bool
 | []=>true
 | x :: r=>(x.isNone || !r.contains x) && distinct r
theorem distinct_spec:∀ {l:List (Option Tmp)},distinct l=true→l.Pairwise (fun x y=>x.isSome=true→x≠y)
 | [],_=>List.Pairwise.nil
 | x :: r,h=>by
   simp only [distinct,Bool.and_eq_true,Bool.or_eq_true] at h
   refine List.pairwise_cons.2 ⟨fun y hy hs e=>?_,distinct_spec h.2⟩
   rcases h.1 with h1|h1
   ·simp [Option.isNone_iff_eq_none] at h1;rw [h1] at hs;cases hs
   ·simp at h1;exact h1 (e ▸ hy)
def dstL:List Oper→List Nat
 | []=>[]
 | o :: l=>match o.dst with
   | some u=>u :: dstL l
   | none=>dstL l
theorem mem_dstL {u:Nat} {l:List Oper} {o:Oper} (h:o∈l) (hu:o.dst=some u):u∈dstL l:=by
 induction l with
 | nil=>cases h
 | cons x l ih =>
   simp only [dstL]
   rcases List.mem_cons.1 h with rfl|h
   ·rw [hu];simp
   ·split
    ·exact List.mem_cons_of_mem _ (ih h)
    ·exact ih h
def upTo (n j:Nat):Array Bool:=((List.range n).map fun i=>decide (i≤j)).toArray
def regionX (nt j:Nat) (fl kt:List Nat) (l:List Oper):Bool:=
 decide (j < l.length) && (fl.all fun i=>decide (i < j)) && fl.Nodup &&
 (l.all fun o=>match o.dst with|some t=>decide (t < nt)|none=>true) && distinct (l.map (·.dst)) && distinct ((pick l fl).map (·.dst)) &&
 ((List.range l.length).all fun k=>match l[k]? with|some o=>o.after.toList.all fun e=>!Region.binds .any e || decide (e.on < k)|none=>true) &&
 ((List.range j).all fun i=>(List.range j).all fun k=>match l[i]?,l[k]? with
   | some o,some o'=>match o'.dst with|some u=>!(o.looksAt l.toArray).contains u || o.after.toList.any fun e=>decide (e.on=k) && Region.binds .any e|none=>true
   | _,_=>true) &&
 noLook l.toArray (l.take j) && noLook l.toArray (pick l fl) &&
 ((List.range j).all fun i=>fl.contains i || ((closL l []).getD j 0).testBit i) &&
 ((List.range l.length).all fun k=>decide (k≤j) || (List.range (j + 1)).all fun i=>((closL l []).getD k 0).testBit i) &&
 ((pick l fl).all fun o=>match o.dst with|some u=>!kt.contains u|none=>true) && ((pick l fl).all fun o=>(isAl o.op).isNone) &&
 (match l[j]? with|some o=>o.guard.isNone|none=>false) &&
 lexT l.toArray (l.length - (j + 1)) (j + 1) (upTo l.length j) && decide ((upTo l.length j).toList.count false=l.length - (j + 1))
theorem upTo_eq {l:Array Bool} {n j:Nat} (hs:l.size=n) (h:∀ i,i < n→(l.getD i false=true↔i≤j)):l=upTo n j:=by
 refine Array.ext (by simp [upTo,hs]) fun i h1 h2=>?_
 have h3:=h i (by omega)
 have h4:l.getD i false=l[i]:=by simp [h1]
 rw [h4] at h3
 have h5:(upTo n j)[i]=decide (i≤j):=by simp [upTo]
 rw [h5]
 by_cases e:i≤j
 ·rw [h3.2 e,decide_eq_true e]
 ·rw [decide_eq_false e]
  cases hl:l[i]
  ·rfl
  ·exact absurd (h3.1 hl) e
theorem replicate_getD {n i:Nat}:(Array.replicate n false).getD i false=false:=by
 rw [Array.getD_eq_getD_getElem?,Array.getElem?_replicate]
 split<;>rfl
theorem anyX {nt:Nat} {n:Cx} {l:List Oper} {S:DS} {Q:Exit→DS→Prop} (j:Nat) (fl kt ks:List Nat) (hnt:S.nt=nt) (hB:regionX nt j fl kt l=true)
 (h:RXe P G (l.map (·.dst)) (l.take j) S (fun Sq=>RTe P G (l.map (·.dst)) (pick l [j]) (adoptL (Sq.keep kt) (alsOf P (l.take j))) (fun S'=>RXe P G (l.map (·.dst)) (pick l fl) S' (fun Sf =>
  sameAt (dstL (pick l fl)) Sf.tmps Sq.tmps∧RTe P G (l.map (·.dst)) (l.drop (j + 1)) Sf (fun S''=>At Q .normal ⟨⟩ (S''.keep ks)) ⟨⟩) ⟨⟩) ⟨⟩) ⟨⟩):n.n≤S.objs.length→∀ (a:Act) (M:MS),Rel G S a M →
 wpAnyIn (fenceR (n.rd.map M.β)) 0 P .any l.toArray (fun e a' w'=>∃ S' M',M'.w=w'∧Rel G S' a' M'∧Ext n.n M M'∧NewD M a a'∧Q e S') l.length (Array.replicate l.length false) a { M.w with drawn:=M.w.drawn + 1 }:=by
 intro hn a M hr
 simp only [regionX,Bool.and_eq_true,decide_eq_true_eq] at hB
 obtain ⟨⟨⟨⟨⟨⟨⟨⟨⟨⟨⟨⟨⟨⟨⟨⟨b1,b2⟩,b3⟩,b4⟩,b5⟩,b5'⟩,b6⟩,b7⟩,b8⟩,b9⟩,b10⟩,b11⟩,b12⟩,b13⟩,b14⟩,b15⟩,b16⟩:=hB
 subst hnt
 have hdst:∀ o∈l,∀ u,o.dst=some u→u < S.nt:=fun o ho u hu=>by
  have:=List.all_eq_true.1 b4 o ho
  simpa [hu] using this
 have hpw:=distinct_spec b5
 have hd:dstsOk S.nt l.toArray:=by
  refine ⟨fun i o ho u hu=>hdst o (by simpa using Array.mem_of_getElem? ho) u hu,fun i k o o' u ho ho' hu hu'=>?_⟩
  have hi:l[i]?=some o:=by simpa using ho
  have hk:l[k]?=some o':=by simpa using ho'
  obtain ⟨hil,hi'⟩:=List.getElem?_eq_some_iff.1 hi
  obtain ⟨hkl,hk'⟩:=List.getElem?_eq_some_iff.1 hk
  rw [List.pairwise_iff_getElem] at hpw
  rcases Nat.lt_trichotomy i k with hlt|he|hlt
  ·exact absurd (show (l.map (·.dst))[i]'(by simpa using hil)=(l.map (·.dst))[k]'(by simpa using hkl) by simp [hi',hk',hu,hu']) (hpw i k (by simpa using hil) (by simpa using hkl) hlt (by simp [hi',hu]))
  ·exact he
  ·exact absurd (show (l.map (·.dst))[k]'(by simpa using hkl)=(l.map (·.dst))[i]'(by simpa using hil) by simp [hi',hk',hu,hu']) (hpw k i (by simpa using hkl) (by simpa using hil) hlt (by simp [hk',hu']))
 have hback:∀ (k:Nat) (o:Oper),l.toArray[k]?=some o→∀ e∈o.after,Region.binds .any e=true→e.on < k:=fun k o ho e he hb=>by
  have hk:l[k]?=some o:=by simpa using ho
  have:=List.all_eq_true.1 b6 k (by simpa using (List.getElem?_eq_some_iff.1 hk).1)
  rw [hk] at this
  have:=List.all_eq_true.1 this e (by simpa using he)
  simpa [hb] using this
 have hdep:∀ i,i < j→∀ o,l.toArray[i]?=some o→∀ k,k < j→∀ o',l.toArray[k]?=some o'→∀ u,o'.dst=some u→u∈o.looksAt l.toArray→∃ e∈o.after,e.on=k∧Region.binds .any e=true:=fun i hi o ho k hk o' ho' u hu hl=>by
  have h1:=List.all_eq_true.1 (List.all_eq_true.1 b7 i (by simpa using hi)) k (by simpa using hk)
  rw [show l[i]?=some o by simpa using ho,show l[k]?=some o' by simpa using ho'] at h1
  simp only [hu,Bool.or_eq_true,Bool.not_eq_true',List.any_eq_true,Bool.and_eq_true,decide_eq_true_eq] at h1
  rcases h1 with h1|⟨e,he,h2,h3⟩
  ·have:(o.looksAt l.toArray).contains u=true:=by simpa using hl
   rw [h1] at this;cases this
  ·exact ⟨e,by simpa using he,h2,h3⟩
 have hmask:MaskOk l.toArray (closL l []):=closL_spec l [] (fun j _=>by simp) (fun j i oj _ h=>by simp at h)
 have hflj:∀ i∈fl,i < j:=fun i hi=>by simpa using List.all_eq_true.1 b2 i hi
 obtain ⟨oj,hoj⟩:∃ o,l[j]?=some o:=⟨l[j],List.getElem?_eq_getElem b1⟩
 have hoj':l.toArray[j]?=some oj:=by simpa using hoj
 rw [hoj] at b14
 have hgj:oj.guard=none:=by simpa [Option.isNone_iff_eq_none] using b14
 have hnoal:∀ i∈fl,∀ o,l.toArray[i]?=some o→∀ t,o.op≠.alloc t:=fun i hi o ho t=>by
  have:=List.all_eq_true.1 b13 o (pick_mem hi (by simpa using ho))
  exact isAl_none (by simpa [Option.isNone_iff_eq_none] using this) t
 have hlater:∀ k listed,Closed l.toArray listed→k∈Region.ready .any l.toArray listed→j < k→∀ i,i≤j→listed.getD i false=true:=fun k listed hcl hk hjk i hi=>by
  obtain ⟨_,ok,hok,hall⟩:=mem_ready.1 hk
  have h1:=List.all_eq_true.1 b11 k (by simpa using (Array.getElem?_eq_some_iff.1 hok).1)
  simp only [Bool.or_eq_true,decide_eq_true_eq] at h1
  rcases h1 with h1|h1
  ·omega
  ·exact hmask k i ok hok (List.all_eq_true.1 h1 i (by simp;omega)) listed hcl hall
 have hpre:∀ listed,Closed l.toArray listed→j∈Region.ready .any l.toArray listed→∀ i,i < j→i∉fl→listed.getD i false=true:=fun listed hcl hk i hi hif=>by
  obtain ⟨_,ok,hok,hall⟩:=mem_ready.1 hk
  have h1:=List.all_eq_true.1 b10 i (by simpa using hi)
  simp only [Bool.or_eq_true,List.contains_iff_mem] at h1
  rcases h1 with h1|h1
  ·exact absurd h1 hif
  ·exact hmask j i ok hok h1 listed hcl hall
 obtain ⟨hm1,he1⟩:=RelM.same (w':={ M.w with drawn:=M.w.drawn + 1 }) hr.m rfl ⟨rfl,rfl,rfl,by first|exact Nat.le_refl _|exact Nat.le_succ _⟩
 have htake:∀ o∈l.take j,o∈l:=fun o ho=>List.mem_of_mem_take ho
 have hAl:∀ (k:Nat),k≤l.length→Al l.toArray (List.range k) (l.take k):=by
  have gen:∀ (m k:Nat),k + m≤l.length→Al l.toArray (List.range' k m) ((l.drop k).take m):=by
   intro m
   induction m with
   | zero=>intro k _;simp [Al,List.range']
   | succ m ih =>
     intro k hk
     have hk':k < l.length:=by omega
     rw [List.range'_succ,List.drop_eq_getElem_cons hk',List.take_succ_cons]
     exact ⟨by simp,ih (k + 1) (by omega)⟩
  intro k hk
  have:=gen k 0 (by omega)
  rwa [List.drop_zero,← List.range_eq_range'] at this
 obtain ⟨Sq,hkq,q1,q2,q3,q4⟩:=soup_of_RXe (P:=P) (G:=G) (ops:=l.toArray) (nt:=S.nt) (objs:=S.objs) (List.range j) (l.take j) S (hAl j (by omega)) rfl rfl (fun o ho=>hdst o (htake o ho))
  (by rw [List.map_take];exact hpw.take) b8 (by simpa using h)
 let Md:MS:={ M with w:={ M.w with drawn:=M.w.drawn + 1 } }
 have hMd:RelF G S.nt S.objs (tget S.tmps) a Md:=⟨hm1,hr.ob,hr.nt,hr.df,fun t d ht=>by
  obtain ⟨v,h1,h2⟩:=hr.tm t d ht
  exact ⟨v,h1,h2.ext he1⟩⟩
 have hobs:M.objs.length=S.objs.length:=by rw [hr.ob]
 refine wpAny_soup (P:=P) (G:=G) (nt:=S.nt) (objs:=S.objs) (ops:=l.toArray) (ks:=List.range j) (τ:=tget Sq.tmps) (M0:=Md) (base:=Array.replicate l.length false) (dfs:=a.defers) (ro:=n.rd.map M.β)
  (Q':=fun e a' w'=>∃ S' M',M'.w=w'∧Rel G S' a' M'∧Ext n.n M M'∧NewD M a a'∧Q e S') hd q3 (fun i hi o ho k hk=>hdep i (by simpa using hi) o ho k (by simpa using hk)) hback ?_ ?_ l.length _ a Md ?_
 ·
  intro f listed a2 M2 hi i hrdy hik
  have hji:j≤i:=by simpa using hik
  have hjun:listed.getD j false≠true:=fun e=>by
   rcases hi.only j e with h|h
   ·rw [replicate_getD] at h;cases h
   ·simp at h
  have hij:i=j:=by
   rcases Nat.eq_or_lt_of_le hji with h|h
   ·exact h.symm
   ·exact absurd (hlater i listed hi.cl hrdy h j (Nat.le_refl _)) hjun
  subst hij
  have hpl:=hpre listed hi.cl hrdy
  obtain ⟨β',p1,p2⟩:=hi.pd
  have half:∀ k∈List.range i,∀ o t,l.toArray[k]?=some o→o.op=.alloc t→listed.getD k false=true:=fun k hk o t ho hop =>
   hpl k (by simpa using hk) fun hf=>hnoal k hf o ho t hop
  obtain ⟨bs,c1,c2,c3,_⟩:=als_blocks (P:=P) (ops:=l.toArray) (M0:=Md) (M:=M2) (a:=a2) (β':=β') (List.range i) (l.take i) (hAl i (by omega)) List.nodup_range
   (fun k hk o t u ho hop hu=>p1 k o t u hk ho hop hu (half k hk o t ho hop))
   (fun k hk m hm' o o' t t' ho ho' hop hop' hs hs' e=>p2 k m o o' t t' hk hm' ho hop (half k hk o t ho hop) ho' hop' (half m hm' o' t' ho' hop') hs hs' e)
  have hrk:Rel G (Sq.keep kt) a2 M2:=by
   refine ⟨hi.rel.m,hi.rel.ob.trans q2.symm,hi.rel.nt.trans q1.symm,hi.rel.df,fun t d ht=>hi.rel.tm t d ?_⟩
   have h1:=sel_mem ht
   have h2:=sel_get ht
   unfold maskT
   rw [if_pos]
   ·exact h2
   ·intro k hk o ho hu
    by_cases hf:k∈fl
    ·have:=List.all_eq_true.1 b12 o (pick_mem hf (by simpa using ho))
     rw [hu] at this
     simp at this
     exact absurd h1 this
    ·exact hpl k (by simpa using hk) hf
  obtain ⟨MT,t1,t2,t3,t4,t5⟩:=adoptL_sound (M0:=Md) (n:=S.objs.length) hm1 (alsOf P (l.take i)) bs (Sq.keep kt) M2 hrk hi.ext (by rw [hi.rel.ob];exact Nat.le_refl _) c1 c2 c3
  have hpk:pick l [i]=[oj]:=by simp [pick,hoj]
  rw [hpk] at hkq
  obtain ⟨b,hw,ht,hf⟩:=RTe_sound _ _ _ hkq
  have hbt:b=true:=by
   unfold wantedA at hw
   rw [hgj] at hw
   exact (Option.some.inj hw).symm
  subst hbt
  have hwant:Region.wanted oj (yielded l.toArray a2.tmps)=true:=by simp [Region.wanted,hgj]
  unfold wpOpIn
  simp only [hoj',hwant,if_true]
  rw [← t4]
  refine wpIn_turn (wpIn_put (ht rfl (n.rd.map M.β) a2 MT t1)) ?_
  rintro a3 w3 ⟨⟨S3,M3,rfl,r3,e3,d3,k3⟩,v,hput⟩
  have hsz3:S3.nt=S.nt:=by
   rw [← r3.nt,hput,← hi.rel.nt]
   cases oj.dst<;>simp [Act.put]
  have hpm:∀ o∈pick l fl,o∈l:=fun o ho=>let ⟨k,_,hk⟩:=mem_pick ho;List.mem_of_getElem? hk
  obtain ⟨Sf,⟨hsame,hkf⟩,f1,f2,f3,f4⟩:=soup_of_RXe (P:=P) (G:=G) (ops:=l.toArray) (nt:=S.nt) (objs:=S3.objs) fl (pick l fl) S3 (Al_pick fun k hk=>by have:=hflj k hk;omega) hsz3 rfl (fun o ho=>hdst o (hpm o ho)) (distinct_spec b5') b9
   (by simpa using (show RXe P G (l.map (·.dst)) (pick l fl) S3 _ ⟨⟩ from k3))
  have hlt3:(listed.setIfInBounds i true).size=l.length:=by simpa using hi.sz
  have hlisj:(listed.setIfInBounds i true).getD i false=true:=by
   have:i < listed.size:=by rw [hi.sz];simpa using b1
   simp [this]
  have fin:∀ f' listed' a4 M4,Inv P G S.nt S3.objs l.toArray fl (tget Sf.tmps) M3 (listed.setIfInBounds i true) a.defers f' listed' a4 M4→(∀ k∈fl,listed'.getD k false=true) →
   wpAnyIn (fenceR (n.rd.map M.β)) 0 P .any l.toArray (fun e a' w'=>∃ S' M',M'.w=w'∧Rel G S' a' M'∧Ext n.n M M'∧NewD M a a'∧Q e S') f' listed' a4 M4.w:=by
   intro f' listed' a4 M4 hi4 hfl4
   have hL:listed'=upTo l.length i:=by
    refine upTo_eq (by simpa using hi4.sz) fun k hk=>⟨fun hkl=>?_,fun hkl=>?_⟩
    ·rcases hi4.only k hkl with h1|h1
     ·rcases getD_set_true' h1 with rfl|h1
      ·exact Nat.le_refl _
      ·rcases hi.only k h1 with h2|h2
       ·rw [replicate_getD] at h2;cases h2
       ·have:k < i:=by simpa using h2
        omega
     ·have:=hflj k h1;omega
    ·by_cases hkf:k∈fl
     ·exact hfl4 k hkf
     ·refine hi4.has k ?_
      rcases Nat.eq_or_lt_of_le hkl with rfl|hlt
      ·exact hlisj
      ·exact getD_set_true (hpl k hlt hkf)
   have hf':f'=(l.drop (i + 1)).length:=by rw [← hi4.cn,hL,b16];simp
   have hrel:Rel G Sf a4 M4:=⟨hi4.rel.m,by rw [hi4.rel.ob,f2],by rw [hi4.rel.nt,f1],hi4.rel.df,fun t d ht=>hi4.rel.tm t d (by
    unfold maskT
    rw [if_pos]
    ·exact ht
    ·exact fun k hk _ _ _=>hfl4 k hk)⟩
   have hS3:S.objs.length≤S3.objs.length:=by rw [← r3.ob];exact Nat.le_trans t3 e3.len
   have hn4:n.n≤M4.objs.length:=by rw [hi4.rel.ob];have:=hS3;omega
   have eM4:Ext n.n M M4:=((he1.weaken (by rw [hobs];exact hn)).trans (t2.weaken hn)).trans ((e3.weaken (Nat.le_trans hn t3)).trans (hi4.ext.weaken (Nat.le_trans hn hS3)))
   rw [hf',hL]
   refine wpAny_of_RT (P:=P) (G:=G) (ops:=l.toArray) (ro:=n.rd.map M.β) n.n (fun S''=>At Q .normal ⟨⟩ (S''.keep ks)) (l.drop (i + 1)) (i + 1) _ Sf a4 M4 (fun k hk=>by simp) (by rw [List.length_drop];exact b15) hrel hn4 (by simpa using RTe_sound _ _ _ hkf) ?_
   intro S5 a5 M5 hr5 he5 hd5 hq5
   obtain ⟨M6,w6,r6,e6⟩:=Weak.keep (G:=G) (n:=n) (S:=S5) (ks:=ks) (by rw [← hr5.ob];exact he5.len) a5 M5 hr5
   exact ⟨_,M6,w6,r6,eM4.trans (he5.trans e6),.same (hd5.trans hi4.df),hq5⟩
  refine wpAny_soup (P:=P) (G:=G) (nt:=S.nt) (objs:=S3.objs) (ops:=l.toArray) (ks:=fl) (τ:=tget Sf.tmps) (M0:=M3) (base:=listed.setIfInBounds i true) (dfs:=a.defers) (ro:=n.rd.map M.β) hd f3
   (fun k hk o ho m hm'=>hdep k (hflj k hk) o ho m (hflj m hm')) hback ?_ ?_ f _ a3 M3 ?_
  ·intro f' listed' a4 M4 hi4 k hk4 hkf
   have hkj:i < k:=by
    rcases Nat.lt_or_ge i k with h|h
    ·exact h
    ·exfalso
     have h0:=(mem_ready.1 hk4).1
     have h1:listed'.getD k false=true:=by
      refine hi4.has k ?_
      rcases Nat.eq_or_lt_of_le h with rfl|hlt
      ·exact hlisj
      ·exact getD_set_true (hpl k hlt hkf)
     rcases Nat.lt_or_ge k listed'.size with h'|h'
     ·simp [h'] at h0 h1;rw [h0] at h1;cases h1
     ·simp [Array.getElem?_eq_none h'] at h1
   exact (fin _ listed' a4 M4 hi4 fun m hm'=>hlater k listed' hi4.cl hk4 hkj m (Nat.le_of_lt (hflj m hm'))).2 k hk4
  ·intro listed' a4 M4 hi4
   refine (fin 0 listed' a4 M4 hi4 fun m hm'=>?_).2
   have hnot:=List.count_eq_zero.1 hi4.cn
   have hml:m < listed'.size:=by rw [hi4.sz];have:=hflj m hm';simp;omega
   cases hv:listed'[m] with
   | true=>simp [hml,hv]
   | false=>exact absurd (by rw [← hv];exact Array.getElem_mem_toList hml) hnot
  ·refine ⟨by simpa using hi.sz,count_step (mem_ready.1 hrdy).1 hi.cn,hi.cl.step hrdy,⟨r3.m,r3.ob,by rw [r3.nt,hsz3],r3.df,fun t d ht=>?_⟩,by rw [← r3.ob];exact Ext.refl M3,d3.trans hi.df,⟨fun _=>0,fun k o t u hk ho hop=>absurd hop (hnoal k hk o ho t),fun k m o o' t t' hk _ ho hop=>absurd hop (hnoal k hk o ho t)⟩,fun _ h=>.inl h,fun _ h=>h⟩
   unfold maskT at ht
   split at ht
   ·rename_i hvis
    by_cases hfd:∃ k∈fl,∃ o,l.toArray[k]?=some o∧o.dst=some t
    ·obtain ⟨k,hk,o,ho,hu⟩:=hfd
     have hkl:listed.getD k false=true:=(getD_set_true' (hvis k hk o ho hu)).resolve_left (by have:=hflj k hk;omega)
     have h1:tget Sf.tmps t=tget Sq.tmps t:=sameAt_mem hsame (mem_dstL (pick_mem hk (by simpa using ho)) hu)
     obtain ⟨x,x1,x2⟩:=hi.rel.tm t d (by
      unfold maskT
      rw [if_pos]
      ·rw [← h1];exact ht
      ·intro m hm' o' ho' hu'
       have:=hd.2 k m o o' t ho ho' hu hu'
       subst this
       exact hkl)
     refine ⟨x,?_,(t5 d x x2).ext e3⟩
     rw [hput]
     cases hdj:oj.dst with
     | none=>exact x1
     | some y =>
       have hne:y≠t:=fun e=>by
        have:=hd.2 i k oj o t hoj' ho (by rw [hdj,e]) hu
        have:=hflj k hk
        omega
       simp only [Act.put]
       rw [Array.getElem?_setIfInBounds_ne hne];exact x1
    ·have h1:tget Sf.tmps t=tget S3.tmps t:=f4 t fun o ho hu=>by
      obtain ⟨k,hk,hk'⟩:=mem_pick ho
      exact hfd ⟨k,hk,o,by simpa using hk',hu⟩
     exact r3.tm t d (by rw [← h1];exact ht)
   ·cases ht
 ·intro listed a2 M2 hi
  exfalso
  have hnot:=List.count_eq_zero.1 hi.cn
  have hjl:j < listed.size:=by rw [hi.sz];simpa using b1
  have hjt:listed.getD j false=true:=by
   cases hv:listed[j] with
   | true=>simp [hjl,hv]
   | false=>exact absurd (by rw [← hv];exact Array.getElem_mem_toList hjl) hnot
  rcases hi.only j hjt with h|h
  ·rw [replicate_getD] at h;cases h
  ·simp at h
 ·refine ⟨by simp,by simp,fun k o _ hk=>?_,⟨hMd.m,hMd.ob,hMd.nt,hMd.df,fun t d ht=>?_⟩,by rw [← hr.ob];exact Ext.refl Md,rfl,⟨fun _=>0,fun k o t u _ _ _ _ hk=>?_,fun k m o o' t t' _ _ _ _ hk=>?_⟩,fun k hk=>?_,fun _ h=>h⟩
  ·rw [replicate_getD] at hk;cases hk
  ·unfold maskT at ht
   split at ht
   ·rename_i hvis
    refine hMd.tm t d ?_
    rw [← q4 t fun o ho hu=>?_]
    ·exact ht
    ·obtain ⟨k,hk⟩:=List.mem_iff_getElem?.1 ho
     have hkj:k < j:=by
      have:=(List.getElem?_eq_some_iff.1 hk).1
      simp at this;omega
     rw [List.getElem?_take_of_lt hkj] at hk
     have:=hvis k (by simpa using hkj) o (by simpa using hk) hu
     rw [replicate_getD] at this;cases this
   ·cases ht
  ·rw [replicate_getD] at hk;cases hk
  ·rw [replicate_getD] at hk;cases hk
  ·rw [replicate_getD] at hk;cases hk
theorem DT_regionX {id nt:Nat} {n:Cx} {l:List Oper} {S:DS} {Q:Exit→DS→Prop} (j:Nat) (fl kt ks:List Nat) (hm:P.follows .mixedOrders=true) (hnt:S.nt=nt) (hB:regionX nt j fl kt l=true)
 (h:RXe P G (l.map (·.dst)) (l.take j) S (fun Sq=>RTe P G (l.map (·.dst)) (pick l [j]) (adoptL (Sq.keep kt) (alsOf P (l.take j))) (fun S'=>RXe P G (l.map (·.dst)) (pick l fl) S' (fun Sf =>
  sameAt (dstL (pick l fl)) Sf.tmps Sq.tmps∧RTe P G (l.map (·.dst)) (l.drop (j + 1)) Sf (fun S''=>At Q .normal ⟨⟩ (S''.keep ks)) ⟨⟩) ⟨⟩) ⟨⟩) ⟨⟩):DT P G n (.region id l.toArray true) S Q:=
 fun hn _ a M hr=>wpIn_region_any hm (anyX j fl kt ks hnt hB h hn a M hr)
end
end Go.Ab
namespace Go.Ab
open Go
section
variable {P:Program} {G:Nat→Option (List IC)} {S:DS}
theorem OpV_buildN {o:Oper} {t:TypeId} {ps:Array (Nat×Operand)} {z:List Value} {pl:List (Nat×Nat)} {qs:List (Nat×List DC)} {r:List DC} (ho:o.op=.build t ps) (hz:tzero P t=some z) (hp:z.all Plain=true)
 (hpl:placesOf P t=some pl) (hq:partsOf G S ps.toList=some qs) (hr:dfill (pl[·]?) (zcells z S.objs.length).1 qs=some r):OpV P G o S (.agg r) (S.objs ++ (zcells z S.objs.length).2):=by
 intro a M hrel
 obtain ⟨M',k1,k2,k3,k4,k5,k6⟩:=zcells_sound z M hrel.m hp
 obtain ⟨v,hrun,hv⟩:=runZero (w:=M.w) hz
 obtain ⟨h1,h2⟩:=partsOf_sound hrel _ _ hq
 subst hv
 rw [hrel.ob] at k3 k5 k6
 obtain ⟨ra,e1,e2,e3⟩:=dfill_sound (M:=M') (place:=(pl[·]?)) qs _ (zcells v.cells.toList S.objs.length).1 v.cells r (by simpa using k5) (fun j d x hd hx=>k6 j d x hd (by simpa using hx)) h1
  (fun j p q hp' hq'=>by
   obtain ⟨a1,a2,a3⟩:=h2 j p q hp' hq'
   exact ⟨a1,a2,fun k d x hd hx=>(a3 k d x hd hx).ext k4⟩) hr
 refine ⟨.agg ra,M',.inl ?_,k2,k3,k4,.agg _ _ e2 e3⟩
 rw [k1]
 unfold placesOf at hpl
 split at hpl
 ·rename_i fs hu
  have hpl':=runPlaces (P:=P) (w:=M.w) fs.toList pl hpl
  simp only [execOp,ho,Instr.build,Sem.run_bind,hrun,Result.andThen_ok,runUnderlying hu,Array.mapM_eq_mapM_toList,Sem.run_map,hpl']
  have e1':Instr.fill (fun x=>pl.toArray[x]?) v.cells (Array.map (fun x=>(x.1,a.eval x.2)) ps).toList=some ra:=by simpa using e1
  simp only [e1']
  rfl
 ·rename_i n e hu
  obtain ⟨sz,hs,rfl⟩:=Option.map_eq_some_iff.1 hpl
  have e1':Instr.fill (fun i=>some (i * sz,sz)) v.cells (Array.map (fun x=>(x.1,a.eval x.2)) ps).toList=some ra:=by
   have:=fill_mono (p':=fun i=>some (i * sz,sz)) (fun i x h=>range_place h) _ _ _ e1
   simpa using this
  simp only [execOp,ho,Instr.build,Sem.run_bind,hrun,Result.andThen_ok,runUnderlying hu,runSizeOf hs,e1']
  rfl
 ·cases hpl
def dbuildN (P:Program) (G:Nat→Option (List IC)) (S:DS) (t:TypeId) (ps:Array (Nat×Operand)):Out:=match tzero P t,placesOf P t,partsOf G S ps.toList with
 | some z,some pl,some qs=>if z.all Plain=true then (match dfill (pl[·]?) (zcells z S.objs.length).1 qs with
   | some r=>.val (.agg r) (S.objs ++ (zcells z S.objs.length).2)
   | none=>.bad) else .bad
 | _,_,_=>.bad
def isBd:Op→Option (TypeId×Array (Nat×Operand))
 | .build t ps=>some (t,ps)
 | _=>none
theorem isBd_some {op:Op} {p:TypeId×Array (Nat×Operand)} (h:isBd op=some p):op=.build p.1 p.2:=by
 cases op<;>simp [isBd] at h
 subst h;rfl
def stepN' (P:Program) (G:Nat→Option (List IC)) (S:DS) (op:Op) (ty:TypeId):Option (TypeId×Array (Nat×Operand))→Out
 | some p=>dbuildN P G S p.1 p.2
 | none=>stepO P G S op ty
def RTn (P:Program) (G:Nat→Option (List IC)) (dsts:List (Option Tmp)):List Oper→DS→(K:DS→Prop)→Tok K→Prop
 | [],S,K,_=>K S
 | o :: l,S,K,tk=>Want (wantedA dsts S o)
  (Next P G S.objs (stepN' P G S o.op o.type (isBd o.op)) (fun d objs'=>RTn P G dsts l (DS.put { S with objs:=objs' } o.dst d) K tk) ⟨⟩)
  (RTn P G dsts l (S.put o.dst (.tup [])) K tk) ⟨⟩
theorem RTn_sound {dsts:List (Option Tmp)}:∀ (l:List Oper) (S:DS) (K:DS→Prop),RTn P G dsts l S K ⟨⟩→RT P G dsts l S K
 | [],S,K,h=>h
 | o :: l,S,K,h=>by
   rw [RTn] at h
   generalize hb:wantedA dsts S o=r at h
   cases r with
   | none=>exact h.elim
   | some b =>
     refine ⟨b,hb,fun e=>?_,fun e=>RTn_sound l _ K (h.2 e)⟩
     have h1:=h.1 e
     generalize hi:isBd o.op=q at h1
     cases q with
     | none=>exact Next_sound (fun d objs' hk=>RTn_sound l _ K hk) h1
     | some p =>
       simp only [stepN',dbuildN] at h1
       split at h1
       ·rename_i z pl qs hz hpl hqs
        split at h1
        ·rename_i hp
         split at h1
         ·rename_i r hr
          exact OpT.of_val (OpV_buildN (isBd_some hi) hz hp hpl hqs hr) (RTn_sound l _ K h1)
         ·exact h1.elim
        ·exact h1.elim
       ·exact h1.elim
variable {n:Cx} {Q:Exit→DS→Prop}
theorem DT_regionN {id nt:Nat} {l:List Oper} (ks:List Nat) (_hnt:S.nt=nt) (h:RTn P G (l.map (·.dst)) l S (fun S'=>At Q .normal ⟨⟩ (S'.keep ks)) ⟨⟩):DT P G n (.region id l.toArray false) S Q:=by
 have h1:=DT_region (id:=id) (n:=n) (Q:=fun e S'=>e=.normal∧Q .normal (S'.keep ks)) (RT_mono (RTn_sound l S _ h) (fun S' h=>⟨rfl,h⟩))
 intro hn hd a M hr
 refine wpIn_mono (h1 hn hd a M hr) ?_
 rintro e a' w' ⟨S',M',rfl,hr',he,hnd,rfl,hq⟩
 obtain ⟨M2,w2,r2,e2⟩:=Weak.keep (G:=G) (n:=n) (S:=S') (ks:=ks) (by rw [← hr'.ob];exact he.len) a' M' hr'
 exact ⟨_,M2,w2,r2,he.trans e2,hnd,hq⟩
end
attribute [simp] RTn isBd stepN' dbuildN
end Go.Ab
