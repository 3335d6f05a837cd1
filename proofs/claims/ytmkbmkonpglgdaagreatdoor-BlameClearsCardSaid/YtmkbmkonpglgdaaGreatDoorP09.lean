/- Part 9 of the proofs: laws and walks that hold without conditions beyond those that each theorem names. -/
import Derived.Test.YtmkbmkonpglgdaaGreatDoorP08
set_option linter.all false
set_option linter.deprecated false
namespace Go.Ab
open Go
abbrev Tau:=Nat→Option DV
def putF (τ:Tau) (dst:Option Tmp) (d:DV):Tau:=
 match dst with
 | some t=>fun u=>if u=t then some d else τ u
 | none=>τ
theorem putF_comm {τ:Tau} {x y:Option Tmp} {d e:DV} (h:∀ t,x=some t→y≠some t):putF (putF τ x d) y e=putF (putF τ y e) x d:=by
 cases x with
 | none=>rfl
 | some t =>
   cases y with
   | none=>rfl
   | some u =>
     have hne:u≠t:=fun e=>h t rfl (by rw [e])
     funext v
     simp only [putF]
     by_cases h1:v=u<;>by_cases h2:v=t
     ·exact absurd (h1.symm.trans h2) hne
     ·simp [h1,hne]
     ·simp [h2,Ne.symm hne]
     ·simp [h1,h2]
theorem putF_ne {τ:Tau} {x:Option Tmp} {d:DV} {t:Nat} (h:∀ u,x=some u→t≠u):putF τ x d t=τ t:=by
 cases x with
 | none=>rfl
 | some u=>simp [putF,h u rfl]
structure RelF (G:Nat→Option (List IC)) (nt:Nat) (objs:List DObj) (τ:Tau) (a:Act) (M:MS):Prop where
 m:RelM G M
 ob:M.objs=objs
 nt:a.tmps.size=nt
 df:∃ ds:List Nat,a.defers=ds.map mark∧ds.Nodup∧∀ D∈ds,M.F D∧M.w.heap[D]?=some (.deferred (some []))
 tm:∀ t d,τ t=some d→∃ v,a.tmps[t]?=some v∧RepV M d v
section
variable {P:Program} {G:Nat→Option (List IC)} {nt:Nat} {objs:List DObj} {ops:Array Oper}
def OpQ (P:Program) (G:Nat→Option (List IC)) (nt:Nat) (objs:List DObj) (ops:Array Oper) (o:Oper) (τ:Tau) (d:DV):Prop:=
 ∀ ro a M,RelF G nt objs (fun t=>if t∈o.looksAt ops then τ t else none) a M →
  o.wpIn (fenceR ro) 0 P a M.w (fun a' w'=>∃ v M',a'=a.put o.dst v∧M'.w=w'∧RelM G M'∧M'.objs=objs∧Ext objs.length M M'∧RepV M' d v) (fun _ _ _=>False)
theorem OpQ.of_same {o:Oper} {τ τ':Tau} {d:DV} (h:OpQ P G nt objs ops o τ d) (hs:∀ t∈o.looksAt ops,τ' t=τ t):OpQ P G nt objs ops o τ' d:=by
 have e:(fun t=>if t∈o.looksAt ops then τ' t else none)=(fun t=>if t∈o.looksAt ops then τ t else none):=by
  funext t
  split
  ·rename_i ht;exact hs t ht
  ·rfl
 intro ro a M hr
 rw [e] at hr
 exact h ro a M hr
def wantedF (ops:Array Oper) (o:Oper) (τ:Tau):Option Bool:=
 match o.guard with
 | none=>some true
 | some (j,want)=>match (ops[j]?).bind (·.dst) with
   | some t=>match τ t with
     | some (.one (.im (.raw (.bool b))))=>some (b == want)
     | some (.tup _)=>some false
     | _=>none
   | none=>none
theorem wantedF_sound {τ:Tau} {a:Act} {M:MS} (hr:RelF G nt objs τ a M) {o:Oper} {b:Bool} (h:wantedF ops o τ=some b):Region.wanted o (yielded ops a.tmps)=b:=by
 unfold wantedF at h
 unfold Region.wanted
 split at h
 ·rename_i hg;cases h;simp [hg]
 ·rename_i j want hg
  simp only [hg]
  split at h
  ·rename_i t hd
   split at h
   ·rename_i b' hget
    cases h
    obtain ⟨v,h1,h2⟩:=hr.tm t _ hget
    cases h2 with
    | one _ _ h2=>cases h2 with
      | im _ _ h2 => cases h2
                     simp only [yielded,hd,Option.bind_some,h1]
                     cases b'<;>cases want<;>rfl
   ·rename_i l hget
    cases h
    obtain ⟨v,h1,h2⟩:=hr.tm t _ hget
    cases h2
    simp only [yielded,hd,Option.bind_some,h1]
    rfl
   ·cases h
  ·cases h
theorem wantedF_same {o:Oper} {τ τ':Tau} (hs:∀ t∈o.looksAt ops,τ' t=τ t):wantedF ops o τ'=wantedF ops o τ:=by
 unfold wantedF
 cases hg:o.guard with
 | none=>rfl
 | some g =>
   obtain ⟨j,want⟩:=g
   simp only
   cases hd:(ops[j]?).bind (·.dst) with
   | none=>rfl
   | some t =>
     simp only
     rw [hs t (by simp [Oper.looksAt,hg,hd])]
def aOp (P:Program) (G:Nat→Option (List IC)) (nt:Nat) (objs:List DObj) (ops:Array Oper) (i:Nat) (K:Tau→Prop) (τ:Tau):Prop:=
 match ops[i]? with
 | none=>False
 | some o=>∃ b,wantedF ops o τ=some b∧(b=true→∃ d,OpQ P G nt objs ops o τ d∧K (putF τ o.dst d))∧(b=false→K (putF τ o.dst (.tup [])))
theorem aOp_mono {i:Nat} {K K':Tau→Prop} {τ:Tau} (h:∀ τ,K τ→K' τ) (hh:aOp P G nt objs ops i K τ):aOp P G nt objs ops i K' τ:=by
 unfold aOp at *
 split at hh
 ·exact hh
 ·obtain ⟨b,h1,h2,h3⟩:=hh
  exact ⟨b,h1,fun e=>let ⟨d,h4,h5⟩:=h2 e;⟨d,h4,h _ h5⟩,fun e=>h _ (h3 e)⟩
def AnyA (P:Program) (G:Nat→Option (List IC)) (nt:Nat) (objs:List DObj) (ops:Array Oper) (Q:Array Bool→Tau→Prop):Nat→Array Bool→Tau→Prop
 | 0,listed,τ=>Q listed τ
 | f + 1,listed,τ=>Region.ready .any ops listed≠[]∧∀ i∈Region.ready .any ops listed,aOp P G nt objs ops i (AnyA P G nt objs ops Q f (listed.setIfInBounds i true)) τ
def YA (P:Program) (G:Nat→Option (List IC)) (nt:Nat) (objs:List DObj) (ops:Array Oper) (o:Oper) (d:DV) (τ:Tau):Prop:=
 (wantedF ops o τ=some true∧OpQ P G nt objs ops o τ d)∨(wantedF ops o τ=some false∧d=.tup [])
theorem YA.same {o:Oper} {d:DV} {τ τ':Tau} (h:YA P G nt objs ops o d τ) (hs:∀ t∈o.looksAt ops,τ' t=τ t):YA P G nt objs ops o d τ':=by
 unfold YA at *
 rw [wantedF_same hs]
 exact h.imp (fun h=>⟨h.1,h.2.of_same hs⟩) id
theorem YA.aOp {i:Nat} {o:Oper} {d:DV} {τ:Tau} (hi:ops[i]?=some o) (h:YA P G nt objs ops o d τ) {K:Tau→Prop} (hk:K (putF τ o.dst d)):aOp P G nt objs ops i K τ:=by
 unfold Ab.aOp
 simp only [hi]
 rcases h with ⟨h1,h2⟩|⟨h1,rfl⟩
 ·exact ⟨true,h1,fun _=>⟨d,h2,hk⟩,(fun e=>by cases e)⟩
 ·exact ⟨false,h1,(fun e=>by cases e),fun _=>hk⟩
theorem aOp_put {j:Nat} {oi oj:Oper} {d:DV} (hj:ops[j]?=some oj) (hap:oi.apart ops oj=true) {K:Tau→Prop} {τ:Tau} (hy:YA P G nt objs ops oi d τ)
 (h:aOp P G nt objs ops j K (putF τ oi.dst d)):aOp P G nt objs ops j (fun τ'=>YA P G nt objs ops oi d τ'∧K (putF τ' oi.dst d)) τ:=by
 obtain ⟨h1,h2,h3⟩:=Oper.apart_spec hap
 have s1:∀ t∈oj.looksAt ops,τ t=putF τ oi.dst d t:=fun t ht=>(putF_ne fun u hu e=>h1 u hu (e ▸ ht)).symm
 have keep:∀ e,YA P G nt objs ops oi d (putF τ oj.dst e):=fun e=>hy.same fun t ht=>putF_ne fun u hu e=>h3 u hu (e ▸ ht)
 unfold aOp at *
 simp only [hj] at *
 obtain ⟨b,hw,ht,hf⟩:=h
 refine ⟨b,by rw [← hw];exact wantedF_same s1,fun e=>?_,fun e=>?_⟩
 ·obtain ⟨u,hu,hk⟩:=ht e
  exact ⟨u,hu.of_same s1,keep u,by rw [← putF_comm h2];exact hk⟩
 ·exact ⟨keep _,by rw [← putF_comm h2];exact hf e⟩
def Closed (ops:Array Oper) (listed:Array Bool):Prop:=∀ (k:Nat) (o:Oper),ops[k]?=some o→listed.getD k false=true→∀ e∈o.after,Region.binds .any e=true→listed.getD e.on false=true
theorem Closed.step {listed:Array Bool} {j:Nat} (h:Closed ops listed) (hj:j∈Region.ready .any ops listed):Closed ops (listed.setIfInBounds j true):=by
 obtain ⟨_,oj,hoj,hall⟩:=mem_ready.1 hj
 intro k o ho hk e he hb
 by_cases hkj:k=j
 ·subst hkj
  rw [hoj] at ho
  cases ho
  exact getD_set_true (hall e he hb)
 ·rw [getD_set_ne false (Ne.symm hkj)] at hk
  exact getD_set_true (h k o ho hk e he hb)
def closE (acc:List Nat):List Edge→Nat
 | []=>0
 | e :: r=>if Region.binds .any e=true then closE acc r ||| (2 ^ e.on ||| acc.getD e.on 0) else closE acc r
def closL:List Oper→List Nat→List Nat
 | [],acc=>acc
 | o :: l,acc=>closL l (acc ++ [closE acc o.after.toList])
theorem closE_spec {acc:List Nat} {i:Nat}:∀ {l:List Edge},(closE acc l).testBit i=true→∃ e∈l,Region.binds .any e=true∧(e.on=i∨(acc.getD e.on 0).testBit i=true)
 | [],h=>by simp [closE] at h
 | e :: r,h=>by
   simp only [closE] at h
   split at h
   ·rename_i hb
    simp only [Nat.testBit_or,Bool.or_eq_true,Nat.testBit_two_pow,decide_eq_true_eq] at h
    rcases h with h|h|h
    ·obtain ⟨e',h1,h2⟩:=closE_spec h;exact ⟨e',by simp [h1],h2⟩
    ·exact ⟨e,by simp,hb,.inl h⟩
    ·exact ⟨e,by simp,hb,.inr h⟩
   ·obtain ⟨e',h1,h2⟩:=closE_spec h;exact ⟨e',by simp [h1],h2⟩
def MaskOk (ops:Array Oper) (acc:List Nat):Prop:=∀ (j i:Nat) (oj:Oper),ops[j]?=some oj→(acc.getD j 0).testBit i=true→∀ listed,Closed ops listed→(∀ e∈oj.after,Region.binds .any e=true→listed.getD e.on false=true)→listed.getD i false=true
theorem closL_spec:∀ (l:List Oper) (acc:List Nat),(∀ j,j < l.length→l[j]?=ops[acc.length + j]?)→MaskOk ops acc→MaskOk ops (closL l acc)
 | [],acc,_,h=>h
 | o :: l,acc,hl,h=>by
   refine closL_spec l _ (fun j hj=>by have:=hl (j + 1) (by simp;omega);simpa [Nat.add_assoc,Nat.add_comm 1 j] using this) ?_
   have h0:ops[acc.length]?=some o:=by simpa using (hl 0 (by simp)).symm
   intro j i oj hoj hb listed hc hall
   by_cases hj:j < acc.length
   ·rw [List.getD_eq_getElem?_getD,List.getElem?_append_left hj,← List.getD_eq_getElem?_getD] at hb
    exact h j i oj hoj hb listed hc hall
   ·by_cases hje:j=acc.length
    ·subst hje
     rw [h0] at hoj
     cases hoj
     simp only [List.getD_eq_getElem?_getD,List.getElem?_append_right (Nat.le_refl _),Nat.sub_self,List.getElem?_cons_zero,Option.getD_some] at hb
     obtain ⟨e,he,hbe,hor⟩:=closE_spec hb
     have hl1:=hall e (by simpa using he) hbe
     rcases hor with rfl|hor
     ·exact hl1
     ·cases hoe:ops[e.on]? with
      | none =>
        exfalso
        have hbig:ops.size≤e.on:=Array.getElem?_eq_none_iff.1 hoe
        have hlt:acc.length < ops.size:=(Array.getElem?_eq_some_iff.1 h0).1
        rw [List.getD_eq_getElem?_getD,List.getElem?_eq_none (by omega)] at hor
        simp at hor
      | some oe=>exact h e.on i oe hoe hor listed hc fun e' he' hb'=>hc e.on oe hoe hl1 e' he' hb'
    ·rw [List.getD_eq_getElem?_getD,List.getElem?_eq_none (by simp;omega)] at hb
     simp at hb
theorem AnyA_first {Q:Array Bool→Tau→Prop} {nq:Nat} (hQ:∀ listed τ,Q listed τ→∀ j∈Region.ready .any ops listed,nq≤j)
 (hwait:∀ (j i:Nat) (listed:Array Bool),nq≤j→i < nq→Closed ops listed→j∈Region.ready .any ops listed→listed.getD i false=true)
 {i:Nat} {oi:Oper} {d:DV} (hi:ops[i]?=some oi) (hiq:i < nq) :
 ∀ (f:Nat) (listed:Array Bool) (τ:Tau),Closed ops listed →
  (∀ j oj,ops[j]?=some oj→j≠i→listed.getD j true=false→(∀ e∈oj.after,Region.binds .any e=true→e.on≠i)→oi.apart ops oj=true) →
  i∈Region.ready .any ops listed→YA P G nt objs ops oi d τ →
  AnyA P G nt objs ops Q f (listed.setIfInBounds i true) (putF τ oi.dst d)→AnyA P G nt objs ops Q (f + 1) listed τ:=by
 intro f
 have low:∀ (listed:Array Bool) (j:Nat),Closed ops listed→i∈Region.ready .any ops listed→j∈Region.ready .any ops listed→j < nq:=fun listed j hcl hr hj=>by
  rcases Nat.lt_or_ge j nq with h|h
  ·exact h
  ·have h1:=hwait j i listed h hiq hcl hj
   have h0:=(mem_ready.1 hr).1
   rcases Nat.lt_or_ge i listed.size with h'|h'
   ·simp [h'] at h0 h1;rw [h0] at h1;cases h1
   ·simp [Array.getElem?_eq_none h'] at h1
 induction f with
 | zero =>
   intro listed τ hcl _ hr hy H
   refine ⟨(fun h=>by rw [h] at hr;cases hr),fun j hj=>?_⟩
   by_cases hji:j=i
   ·subst hji;exact hy.aOp hi H
   ·have h1:=ready_mono hj hji
    have h2:=hQ _ _ H j h1
    have h3:=low listed j hcl hr hj
    omega
 | succ f ih =>
   intro listed τ hcl hfree hr hy H
   refine ⟨(fun h=>by rw [h] at hr;cases hr),fun j hj=>?_⟩
   by_cases hji:j=i
   ·subst hji;exact hy.aOp hi H
   ·have h1:=H.2 j (ready_mono hj hji)
    obtain ⟨hjun,oj,hoj,hall⟩:=mem_ready.1 hj
    have hnot:∀ e∈oj.after,Region.binds .any e=true→e.on≠i:=fun e he hb heq=>by
     have h1:=hall e he hb
     have h0:=(mem_ready.1 hr).1
     rw [heq] at h1
     rcases Nat.lt_or_ge i listed.size with h'|h'
     ·simp [h'] at h0 h1;rw [h0] at h1;cases h1
     ·simp [Array.getElem?_eq_none h'] at h1
    have h2:=aOp_put hoj (hfree j oj hoj hji hjun hnot) hy h1
    have hfree':∀ k ok,ops[k]?=some ok→k≠i→(listed.setIfInBounds j true).getD k true=false →
     (∀ e∈ok.after,Region.binds .any e=true→e.on≠i)→oi.apart ops ok=true:=fun k ok hk hki hun hno=>by
     refine hfree k ok hk hki ?_ hno
     by_cases hjk:j=k
     ·subst hjk;exact hjun
     ·rw [getD_set_ne true hjk] at hun;exact hun
    refine aOp_mono (fun τ' h3=>ih (listed.setIfInBounds j true) τ' (hcl.step hj) hfree' (ready_mono hr (Ne.symm hji)) h3.1 ?_) h2
    rw [Array.setIfInBounds_comm _ _ hji]
    exact h3.2
def lexQ (ops:Array Oper):Nat→Nat→Array Bool→Bool
 | 0,_,_=>true
 | f + 1,k,listed=>(Region.ready .any ops listed).contains k && Region.free .any ops listed k && lexQ ops f (k + 1) (listed.setIfInBounds k true)
def LexA (P:Program) (G:Nat→Option (List IC)) (nt:Nat) (objs:List DObj) (ops:Array Oper) (K:Tau→Prop):List Oper→Tau→Prop
 | [],τ=>K τ
 | o :: l,τ=>∃ b,wantedF ops o τ=some b∧(b=true→∃ d,OpQ P G nt objs ops o τ d∧LexA P G nt objs ops K l (putF τ o.dst d))∧(b=false→LexA P G nt objs ops K l (putF τ o.dst (.tup [])))
def listK (k:Nat):Nat→Array Bool→Array Bool
 | 0,l=>l
 | f + 1,l=>listK (k + 1) f (l.setIfInBounds k true)
theorem AnyA_lex {nq:Nat} {K:Tau→Prop} {Lq:Array Bool} (hQ:∀ j∈Region.ready .any ops Lq,nq≤j)
 (hwait:∀ (j i:Nat) (listed:Array Bool),nq≤j→i < nq→Closed ops listed→j∈Region.ready .any ops listed→listed.getD i false=true) :
 ∀ (l:List Oper) (k:Nat) (listed:Array Bool) (τ:Tau),Closed ops listed→(∀ j,j < l.length→l[j]?=ops[k + j]?)→k + l.length=nq→listK k l.length listed=Lq→lexQ ops l.length k listed=true →
  LexA P G nt objs ops K l τ→AnyA P G nt objs ops (fun L τ=>L=Lq∧K τ) l.length listed τ
 | [],k,listed,τ,_,_,_,hL,_,h=>⟨hL,h⟩
 | o :: l,k,listed,τ,hcl,hl,hk,hL,hB,h=>by
   have h0:ops[k]?=some o:=by simpa using (hl 0 (by simp)).symm
   simp only [List.length_cons,lexQ,Bool.and_eq_true] at hB
   obtain ⟨⟨hr,hf⟩,hB'⟩:=hB
   have step:∀ d,YA P G nt objs ops o d τ→LexA P G nt objs ops K l (putF τ o.dst d)→AnyA P G nt objs ops (fun L τ=>L=Lq∧K τ) (l.length + 1) listed τ:=fun d hy hK =>
    AnyA_first (nq:=nq) (Q:=fun L τ=>L=Lq∧K τ) (fun L τ hq j hj=>hQ j (hq.1 ▸ hj)) hwait h0 (by simp at hk;omega) l.length listed τ hcl (Region.free_spec h0 hf) (by simpa using hr) hy
     (AnyA_lex hQ hwait l (k + 1) _ _ (hcl.step (by simpa using hr)) (fun j hj=>by have:=hl (j + 1) (by simp;omega);simpa [Nat.add_assoc,Nat.add_comm 1 j] using this) (by simp at hk;omega) hL hB' hK)
   obtain ⟨b,hw,ht,hff⟩:=h
   cases b with
   | true =>
     obtain ⟨d,hd,hK⟩:=ht rfl
     exact step d (.inl ⟨hw,hd⟩) hK
   | false=>exact step (.tup []) (.inr ⟨hw,rfl⟩) (hff rfl)
theorem RelF.put {τ:Tau} {a:Act} {M M':MS} (hr:RelF G nt objs τ a M) (hm:RelM G M') (ho:M'.objs=objs) (he:Ext objs.length M M') {d:DV} {v:Value} (hv:RepV M' d v) {t:Option Tmp} (hlt:∀ u,t=some u→u < nt) :
 RelF G nt objs (putF τ t d) (a.put t v) M':=by
 have he':Ext M.objs.length M M':=by rw [hr.ob];exact he
 cases t with
 | none=>exact ⟨hm,ho,hr.nt,df_ext hr.m he' hr.df,fun u e hu=>by
  obtain ⟨x,h1,h2⟩:=hr.tm u e hu
  exact ⟨x,h1,h2.ext he'⟩⟩
 | some t =>
   refine ⟨hm,ho,by simpa [Act.put] using hr.nt,df_ext hr.m he' hr.df,fun u e hu=>?_⟩
   simp only [putF] at hu
   simp only [Act.put]
   split at hu
   ·rename_i hut
    subst hut
    cases hu
    exact ⟨v,by simp [Array.getElem?_setIfInBounds_self_of_lt (show u < a.tmps.size by rw [hr.nt];exact hlt u rfl)],hv⟩
   ·rename_i hut
    obtain ⟨x,h1,h2⟩:=hr.tm u e hu
    exact ⟨x,by rw [Array.getElem?_setIfInBounds_ne (Ne.symm hut)];exact h1,h2.ext he'⟩
theorem wp_of_OpQ {ro:Option Nat} {o:Oper} {τ:Tau} {d:DV} {a:Act} {M:MS} (hr:RelF G nt objs τ a M) (h:OpQ P G nt objs ops o τ d) {K:Act→World→Prop} {Q:Exit→Act→World→Prop}
 (hK:∀ v M',RelM G M'→M'.objs=objs→Ext objs.length M M'→RepV M' d v→K (a.put o.dst v) M'.w):o.wpIn (fenceR ro) 0 P a M.w K Q:=by
 have h1:=h ro a M ⟨hr.m,hr.ob,hr.nt,hr.df,fun t e ht=>by
  split at ht
  ·exact hr.tm t e ht
  ·cases ht⟩
 refine wpIn_turn h1 ?_
 rintro a' w' ⟨v,M',rfl,rfl,h2,h3,h4,h5⟩
 exact hK v M' h2 h3 h4 h5
theorem wpAny_of_AnyA {ro:Option Nat} {dfs:List Deferred} {Q:Array Bool→Tau→Prop} {Q':Exit→Act→World→Prop} {M0:MS} {tail:Nat} (hdst:∀ (i:Nat) (o:Oper),ops[i]?=some o→∀ u,o.dst=some u→u < nt)
 (hQ:∀ listed τ a M,RelF G nt objs τ a M→Ext objs.length M0 M→a.defers=dfs→Q listed τ→wpAnyIn (fenceR ro) 0 P .any ops Q' tail listed a M.w) :
 ∀ (f:Nat) (listed:Array Bool) (τ:Tau) (a:Act) (M:MS),RelF G nt objs τ a M→Ext objs.length M0 M→a.defers=dfs→AnyA P G nt objs ops Q f listed τ→wpAnyIn (fenceR ro) 0 P .any ops Q' (f + tail) listed a M.w
 | 0,listed,τ,a,M,hr,he,hd,h=>by rw [Nat.zero_add];exact hQ listed τ a M hr he hd h
 | f + 1,listed,τ,a,M,hr,he,hde,h=>by
   rw [Nat.add_right_comm]
   refine ⟨fun h0=>absurd h0 h.1,fun i hi=>?_⟩
   have h1:=h.2 i hi
   unfold aOp at h1
   unfold wpOpIn
   split at h1
   ·exact h1.elim
   ·rename_i o ho
    obtain ⟨b,hw,ht,hf⟩:=h1
    simp only [ho]
    rw [wantedF_sound hr hw]
    have undefR:∀ M,RepV M (.tup []) undef:=fun M=>.tup _ _ rfl (fun j d v h=>by simp at h)
    cases b with
    | true =>
      simp only [if_true]
      obtain ⟨d,hd,hk⟩:=ht rfl
      exact wp_of_OpQ hr hd fun v M' h2 h3 h4 h5=>wpAny_of_AnyA hdst hQ f _ _ _ M' (hr.put h2 h3 h4 h5 (hdst i o ho)) (he.trans h4) ((put_defers _ _ _).trans hde) hk
    | false =>
      simp only [Bool.false_eq_true,if_false]
      exact ⟨fun _ _=>trivial,wpAny_of_AnyA hdst hQ f _ _ _ M (hr.put hr.m hr.ob (by rw [← hr.ob];exact Ext.refl M) (undefR M) (hdst i o ho)) he ((put_defers _ _ _).trans hde) (hf rfl)⟩
def lexT (ops:Array Oper):Nat→Nat→Array Bool→Bool
 | 0,_,listed=>(Region.ready .any ops listed).isEmpty
 | f + 1,k,listed=>(Region.ready .any ops listed == [k]) && lexT ops f (k + 1) (listed.setIfInBounds k true)
theorem wpAny_of_RT {ro:Option Nat} {Q':Exit→Act→World→Prop} (n:Nat) (K:DS→Prop):∀ (l:List Oper) (k:Nat) (listed:Array Bool) (S:DS) (a:Act) (M:MS),(∀ j,j < l.length→l[j]?=ops[k + j]?)→lexT ops l.length k listed=true →
 Rel G S a M→n≤M.objs.length→RT P G (ops.toList.map (·.dst)) l S K→(∀ S' a' M',Rel G S' a' M'→Ext n M M'→a'.defers=a.defers→K S'→Q' .normal a' M'.w)→wpAnyIn (fenceR ro) 0 P .any ops Q' l.length listed a M.w
 | [],k,listed,S,a,M,_,hB,hr,hn,h,hq=>⟨by simpa [lexT] using hB,hq S a M hr ((Ext.refl M).weaken hn) rfl h⟩
 | o :: l,k,listed,S,a,M,hl,hB,hr,hn,h,hq=>by
   have h0:ops[k]?=some o:=by simpa using (hl 0 (by simp)).symm
   simp only [List.length_cons,lexT,Bool.and_eq_true,beq_iff_eq] at hB
   obtain ⟨hrd,hB'⟩:=hB
   have hl':∀ j,j < l.length→l[j]?=ops[k + 1 + j]?:=fun j hj=>by have:=hl (j + 1) (by simp;omega);simpa [Nat.add_assoc,Nat.add_comm 1 j] using this
   refine ⟨(fun e=>by rw [hrd] at e;cases e),fun i hi=>?_⟩
   rw [hrd] at hi
   simp only [List.mem_singleton] at hi
   subst hi
   obtain ⟨b,hw,ht,hf⟩:=h
   have hw':=wantedA_sound hr hw
   unfold wpOpIn
   simp only [h0,hw']
   cases b with
   | true =>
     simp only [if_true]
     refine wpIn_turn (ht rfl ro a M hr) ?_
     rintro a' w' ⟨S',M',rfl,hr',he,hd,hrt⟩
     exact wpAny_of_RT n K l (i + 1) _ S' a' M' hl' hB' hr' (Nat.le_trans hn he.len) hrt fun S2 a2 M2 hr2 he2 hd2 hk2=>hq S2 a2 M2 hr2 ((he.weaken hn).trans he2) (hd2.trans hd) hk2
   | false =>
     simp only [Bool.false_eq_true,if_false]
     have hp:=hr.put (d:=.tup []) (v:=undef) hr.m (Ext.refl M) (.tup _ _ rfl (fun j d v h=>by simp at h)) o.dst
     rw [show ({ S with objs:=M.objs }:DS)=S from by rw [hr.ob]] at hp
     exact ⟨fun _ _=>trivial,wpAny_of_RT n K l (i + 1) _ _ _ M hl' hB' hp hn (hf rfl) fun S2 a2 M2 hr2 he2 hd2 hk2=>hq S2 a2 M2 hr2 he2 (hd2.trans (put_defers _ _ _)) hk2⟩
def slotsOf (op:Op):List Nat:=op.operands.toList.filterMap fun|.tmp t=>some t|_=>none
def QCall (P:Program) (G:Nat→Option (List IC)) (f:FuncId) (args:List DV) (objs:List DObj) (K:DV→Prop) (_t:Tok K):Prop:=
 ∃ d,DCall P G f args objs (fun d' objs'=>d'=d∧objs'=objs)∧K d
theorem QCall_pure {f:FuncId} {args:List DV} {objs:List DObj} {K:DV→Prop} {d:DV} (h:∀ objs,DCall P G f args objs (fun d' objs'=>d'=d∧objs'=objs)) (hk:K d) {t:Tok K}:QCall P G f args objs K t:=⟨d,h objs,hk⟩
def NextQ (P:Program) (G:Nat→Option (List IC)) (objs:List DObj) (x:Out) (C:DV→Prop) (_t:Tok C):Prop:=match x with
 | .val d objs'=>objs'=objs∧C d
 | .call f as=>CallOk P f∧QCall P G f as objs C ⟨⟩
 | .cond p d objs'=>p∧objs'=objs∧C d
 | .yield _ _=>False
 | .iter _ _=>False
 | .nilq _ _=>False
 | .gen _=>False
 | .bad=>False
section
variable (P:Program) (G:Nat→Option (List IC)) (objs:List DObj) (C:DV→Prop) (t:Tok C)
theorem NextQ_val (d:DV) (objs':List DObj):NextQ P G objs (.val d objs') C t=(objs'=objs∧C d):=rfl
theorem NextQ_call (f:FuncId) (as:List DV):NextQ P G objs (.call f as) C t=(CallOk P f∧QCall P G f as objs C ⟨⟩):=rfl
end
theorem NextQ_cond {P:Program} {G:Nat→Option (List IC)} {objs:List DObj} {C:DV→Prop} {t:Tok C} (p:Prop) (d:DV) (objs':List DObj):NextQ P G objs (.cond p d objs') C t=(p∧objs'=objs∧C d):=rfl
attribute [simp] NextQ_val NextQ_call NextQ_cond
inductive KindQ where
 | e0 (t:TypeId)
 | app0 (t:TypeId) (x y:Operand)
 | frz
 | plain
def kindQ (op:Op):KindQ:=match op with
 | .buildSlice t n ps=>if n=0∧ps.toList=[] then .e0 t else .frz
 | .box _ _=>.frz
 | op=>match kindOf op with
   | .append t x y=>.app0 t x y
   | _=>.plain
def frzOut (n:Nat):Out→Out
 | .val d objs'=>.val (fzV n objs' d) (dropO n objs')
 | .call f as=>.call f as
 | .cond _ _ _=>.bad
 | .yield _ _=>.bad
 | .iter _ _=>.bad
 | .nilq _ _=>.bad
 | .gen _=>.bad
 | .bad=>.bad
def noCond:Out→Out
 | .val d objs'=>.val d objs'
 | .call f as=>.call f as
 | .cond _ _ _=>.bad
 | .yield _ _=>.bad
 | .iter _ _=>.bad
 | .nilq _ _=>.bad
 | .gen _=>.bad
 | .bad=>.bad
def stepE0 (P:Program) (S:DS) (t:TypeId):Out:=match telem P t with
 | some e=>match tsz P e,tzero P e with
   | some _,some _=>.val (.one (.im .e0)) S.objs
   | _,_=>.bad
 | none=>.bad
def stepApp0 (P:Program) (G:Nat→Option (List IC)) (S:DS) (t:TypeId) (x y:Operand):Out:=match evalG G S x,evalG G S y,telem P t with
 | some (.one (.im .e0)),some (.one (.im (.sl l))),some e=>match tsz P e,tbytes P e,tzero P e with
   | some sz,some bytes,some z=>.cond (0 < sz∧z.length=sz∧(∀ e∈l,e.length=sz)∧l.length * bytes≤140737488355328∧l.length≤9223372036854775807) (.one (.im (.sl l))) S.objs
   | _,_,_=>.bad
 | _,_,_=>.bad
def stepKQ (P:Program) (G:Nat→Option (List IC)) (S:DS) (op:Op) (ty:TypeId):KindQ→Out
 | .e0 t=>stepE0 P S t
 | .app0 t x y=>stepApp0 P G S t x y
 | .frz=>frzOut S.objs.length (stepO P G S op ty)
 | .plain=>noCond (stepO P G S op ty)
def stepQ (P:Program) (G:Nat→Option (List IC)) (S:DS) (op:Op) (ty:TypeId):Out:=stepKQ P G S op ty (kindQ op)
attribute [simp] kindQ frzOut noCond stepE0 stepApp0 stepKQ stepQ
theorem kindQ_e0 {op:Op} {t:TypeId} (h:kindQ op=.e0 t):op=.buildSlice t 0 #[]:=by
 unfold kindQ at h
 split at h
 ·split at h
  ·rename_i hc;cases h;rw [hc.1,show _=#[] from Array.toList_inj.1 (hc.2.trans (List.toList_toArray (as:=[])).symm)]
  ·cases h
 ·cases h
 ·split at h<;>cases h
theorem kindQ_app0 {op:Op} {t:TypeId} {x y:Operand} (h:kindQ op=.app0 t x y):kindOf op=.append t x y:=by
 unfold kindQ at h
 split at h
 ·split at h<;>cases h
 ·cases h
 ·split at h
  ·rename_i hk;cases h;exact hk
  ·cases h
theorem stepO_val {S:DS} {o:Oper} {d:DV} {objs':List DObj} (h:stepO P G S o.op o.type=.val d objs'):OpV P G o S d objs':=by
 unfold stepO at h
 generalize hk:kindOf o.op=k at h
 cases k with
 | call x xs =>
   simp only [stepK,stepCall] at h
   split at h
   ·cases h
   ·cases h
   ·rename_i dd as _ _ hd has
    generalize dcallee dd=c at h
    cases c<;>cases h
   ·cases h
 | append t x y =>
   simp only [stepK,stepAppend] at h
   split at h
   ·split at h
    ·rename_i s _ _ _ _ _ sz _ _ xs _ _ _ _ _ _
     generalize dappend S.objs _ xs sz=r at h
     cases r<;>cases h
    ·cases h
   ·cases h
 | makeSlice t x y =>
   simp only [stepK,stepMake] at h
   split at h
   ·split at h<;>cases h
   ·cases h
 | next it =>
   simp only [stepK,stepNext] at h
   split at h
   ·split at h
    ·cases h
    ·split at h<;>cases h
    ·cases h
   ·cases h
 | rng t x =>
   simp only [stepK,stepRng] at h
   split at h
   ·split at h
    ·split at h<;>cases h
    ·cases h
   ·generalize hd:dstep P G S o.op o.type=r at h
    cases r with
    | none=>cases h
    | some p=>cases h;exact dstep_sound hd
 | eqNil b t x u =>
   simp only [stepK,stepNil] at h
   split at h
   ·cases h
   ·generalize hd:dstep P G S o.op o.type=r at h
    cases r with
    | none=>cases h
    | some p=>cases h;exact dstep_sound hd
 | plain =>
   simp only [stepK] at h
   generalize hd:dstep P G S o.op o.type=r at h
   cases r with
   | none=>cases h
   | some p=>cases h;exact dstep_sound hd
theorem stepO_call {S:DS} {o:Oper} {f:FuncId} {as':List DV} (h:stepO P G S o.op o.type=.call f as') :
 ∃ x ys ts d as caps,o.op=.call { callee:=.value x,args:=ys,argTypes:=ts }∧evalG G S x=some d∧evals G S ys.toList=some as∧dcallee d=some (f,caps)∧as'=as ++ caps:=by
 unfold stepO at h
 generalize hk:kindOf o.op=k at h
 cases k with
 | call x xs =>
   simp only [stepK,stepCall] at h
   split at h
   ·cases h
   ·cases h
   ·rename_i dd as _ _ hd has
    generalize hc:dcallee dd=c at h
    cases c with
    | none=>cases h
    | some p =>
      cases h
      obtain ⟨ys,ts,ho,rfl⟩:=kindOf_call hk
      exact ⟨x,ys,ts,dd,as,p.2,ho,hd,has,hc,rfl⟩
   ·cases h
 | append t x y =>
   simp only [stepK,stepAppend] at h
   split at h
   ·split at h
    ·rename_i s _ _ _ _ _ sz _ _ xs _ _ _ _ _ _
     generalize dappend S.objs _ xs sz=r at h
     cases r<;>cases h
    ·cases h
   ·cases h
 | makeSlice t x y =>
   simp only [stepK,stepMake] at h
   split at h
   ·split at h<;>cases h
   ·cases h
 | next it =>
   simp only [stepK,stepNext] at h
   split at h
   ·split at h
    ·cases h
    ·split at h<;>cases h
    ·cases h
   ·cases h
 | rng t x =>
   simp only [stepK,stepRng] at h
   split at h
   ·split at h
    ·split at h<;>cases h
    ·cases h
   ·generalize dstep P G S o.op o.type=r at h
    cases r<;>cases h
 | eqNil b t x u =>
   simp only [stepK,stepNil] at h
   split at h
   ·cases h
   ·generalize dstep P G S o.op o.type=r at h
    cases r<;>cases h
 | plain =>
   simp only [stepK] at h
   generalize hd:dstep P G S o.op o.type=r at h
   cases r<;>cases h
theorem OpV.frz {S:DS} {o:Oper} {d:DV} {objs':List DObj} (h:OpV P G o S d objs'):OpV P G o S (fzV S.objs.length objs' d) (dropO S.objs.length objs'):=by
 intro a M hr
 obtain ⟨v,M',hrun,hm,ho,he,hv⟩:=h a M hr
 have hl:S.objs.length≤M'.objs.length:=by rw [← hr.ob];exact he.len
 refine ⟨v,M'.drop S.objs.length,hrun,hm.drop hl,by simp [MS.drop,ho],?_,by rw [← ho];exact hv.drop hm hl⟩
 rw [hr.ob] at he ⊢
 exact he.trans (Ext.drop hl)
theorem stepQ_val {S:DS} {o:Oper} {d:DV} {objs':List DObj} (h:stepQ P G S o.op o.type=.val d objs'):OpV P G o S d objs':=by
 unfold stepQ at h
 generalize hk:kindQ o.op=k at h
 cases k with
 | e0 t =>
   simp only [stepKQ,stepE0] at h
   split at h
   ·rename_i e he
    split at h
    ·rename_i h1 h2;cases h;exact OpV_buildSlice0 (kindQ_e0 hk) (telem_spec he) h1 h2
    ·cases h
   ·cases h
 | app0 t x y =>
   simp only [stepKQ,stepApp0] at h
   split at h
   ·split at h<;>cases h
   ·cases h
 | frz =>
   simp only [stepKQ] at h
   generalize hs:stepO P G S o.op o.type=r at h
   cases r with
   | val d0 objs0=>cases h;exact (stepO_val hs).frz
   | call=>cases h
   | cond=>cases h
   | yield=>cases h
   | iter=>cases h
   | nilq=>cases h
   | gen=>cases h
   | bad=>cases h
 | plain =>
   simp only [stepKQ] at h
   generalize hs:stepO P G S o.op o.type=r at h
   cases r with
   | val d0 objs0=>cases h;exact stepO_val hs
   | call=>cases h
   | cond=>cases h
   | yield=>cases h
   | iter=>cases h
   | nilq=>cases h
   | gen=>cases h
   | bad=>cases h
theorem stepQ_cond {S:DS} {o:Oper} {p:Prop} {d:DV} {objs':List DObj} (h:stepQ P G S o.op o.type=.cond p d objs') (hp:p):OpV P G o S d objs':=by
 unfold stepQ at h
 generalize hk:kindQ o.op=k at h
 cases k with
 | e0 t =>
   simp only [stepKQ,stepE0] at h
   split at h
   ·split at h<;>cases h
   ·cases h
 | app0 t x y =>
   simp only [stepKQ,stepApp0] at h
   split at h
   ·rename_i l e h1 h2 he
    split at h
    ·rename_i sz bytes z h3 h4 h5
     cases h
     obtain ⟨a1,a2,a3,a4,a5⟩:=hp
     exact OpV_append0 (kindOf_append (kindQ_app0 hk)) (telem_spec he) h3 a1 h4 h5 a2 h1 h2 rfl a3 a4 a5
    ·cases h
   ·cases h
 | frz =>
   simp only [stepKQ] at h
   generalize hs:stepO P G S o.op o.type=r at h
   cases r<;>cases h
 | plain =>
   simp only [stepKQ] at h
   generalize hs:stepO P G S o.op o.type=r at h
   cases r<;>cases h
theorem stepQ_call {S:DS} {o:Oper} {f:FuncId} {as':List DV} (h:stepQ P G S o.op o.type=.call f as') :
 ∃ x ys ts d as caps,o.op=.call { callee:=.value x,args:=ys,argTypes:=ts }∧evalG G S x=some d∧evals G S ys.toList=some as∧dcallee d=some (f,caps)∧as'=as ++ caps:=by
 unfold stepQ at h
 generalize hk:kindQ o.op=k at h
 cases k with
 | e0 t =>
   simp only [stepKQ,stepE0] at h
   split at h
   ·split at h<;>cases h
   ·cases h
 | app0 t x y =>
   simp only [stepKQ,stepApp0] at h
   split at h
   ·split at h<;>cases h
   ·cases h
 | frz =>
   simp only [stepKQ] at h
   generalize hs:stepO P G S o.op o.type=r at h
   cases r with
   | val d0 objs0=>cases h
   | call=>cases h;exact stepO_call hs
   | cond=>cases h
   | yield=>cases h
   | iter=>cases h
   | nilq=>cases h
   | gen=>cases h
   | bad=>cases h
 | plain =>
   simp only [stepKQ] at h
   generalize hs:stepO P G S o.op o.type=r at h
   cases r with
   | val d0 objs0=>cases h
   | call=>cases h;exact stepO_call hs
   | cond=>cases h
   | yield=>cases h
   | iter=>cases h
   | nilq=>cases h
   | gen=>cases h
   | bad=>cases h
def RQe (P:Program) (G:Nat→Option (List IC)) (dsts:List (Option Tmp)):List Oper→DS→(K:DS→Prop)→Tok K→Prop
 | [],S,K,_=>K S
 | o :: l,S,K,tk=>Want (wantedA dsts S o)
  (NextQ P G S.objs (stepQ P G (S.keep (slotsOf o.op)) o.op o.type) (fun d=>RQe P G dsts l (S.put o.dst d) K tk) ⟨⟩)
  (RQe P G dsts l (S.put o.dst (.tup [])) K tk) ⟨⟩
theorem sel_mem {l:List (Nat×DV)}:∀ {ks:List Nat} {t:Nat} {d:DV},tget (sel l ks) t=some d→t∈ks
 | [],t,d,h=>by simp [sel,tget] at h
 | k :: r,t,d,h=>by
   simp only [sel] at h
   split at h
   ·simp only [tget] at h
    split at h
    ·rename_i hk;subst hk;simp
    ·exact List.mem_cons_of_mem _ (sel_mem h)
   ·exact List.mem_cons_of_mem _ (sel_mem h)
theorem rel_only {S:DS} {o:Oper} {a:Act} {M:MS} (hr:RelF G S.nt S.objs (fun t=>if t∈o.looksAt ops then tget S.tmps t else none) a M):Rel G (S.keep (slotsOf o.op)) a M:=
 ⟨hr.m,hr.ob,hr.nt,hr.df,fun t d ht=>by
  have h1:=sel_mem ht
  have h2:=sel_get ht
  refine hr.tm t d ?_
  have:t∈o.looksAt ops:=List.mem_append_left _ h1
  simp only [if_pos this]
  exact h2⟩
theorem OpQ_of_val {S:DS} {o:Oper} {d:DV} (h:OpV P G o (S.keep (slotsOf o.op)) d S.objs):OpQ P G S.nt S.objs ops o (tget S.tmps) d:=by
 intro ro a M hr
 obtain ⟨v,M',hrun,hm,ho,he,hv⟩:=h a M (rel_only hr)
 rw [hr.ob] at he
 rcases hrun with hrun|⟨hrun,rfl⟩
 ·exact wpIn_value hrun ⟨v,M',rfl,rfl,hm,ho,he,hv⟩
 ·exact wpIn_skip_ hrun ⟨undef,M',rfl,rfl,hm,ho,he,hv⟩
theorem OpQ_of_call {S:DS} {o:Oper} {x:Operand} {xs:Array Operand} {ts:Array TypeId} {d d0:DV} {f:FuncId} {caps as:List DV} (ho:o.op=.call { callee:=.value x,args:=xs,argTypes:=ts })
 (hx:evalG G (S.keep (slotsOf o.op)) x=some d) (hc:dcallee d=some (f,caps)) (ha:evals G (S.keep (slotsOf o.op)) xs.toList=some as) (hcall:CallOk P f)
 (h:DCall P G f (as ++ caps) S.objs (fun d' objs'=>d'=d0∧objs'=S.objs)):OpQ P G S.nt S.objs ops o (tget S.tmps) d0:=by
 intro ro a M hr
 have hr':=rel_only hr
 have hp:=evalG_sound hr' hx
 obtain ⟨hl,hrep⟩:=evals_sound hr' _ _ ha
 generalize hv:a.eval x=v at hp
 have key:∀ (vs:Array Value),v=.func (.func f) #[] vs→vs.size=caps.length→(∀ (j:Nat) (d:DV) (u:Value),caps[j]?=some d→vs[j]?=some u→RepV M d u) →
  o.wpIn (fenceR ro) 0 P a M.w (fun a' w'=>∃ v M',a'=a.put o.dst v∧M'.w=w'∧RelM G M'∧M'.objs=S.objs∧Ext S.objs.length M M'∧RepV M' d0 v) (fun _ _ _=>False):=by
  rintro vs rfl hvs hcr
  have hrun:(execOp a.eval o).run P M.w=.ok (.enter f ((xs.map a.eval) ++ vs)) M.w:=by
   simp only [execOp,ho,Sem.run_bind,resolve,hv,Deferred.ofValue,Sem.run_pure,Result.andThen_ok,invoke,Array.empty_append]
   exact hcall _ _
  refine wpIn_enter hrun ?_
  refine (h M _ hr.m hr.ob (by simp [hl,hvs]) fun j e u he hu=>?_).mono ?_
  ·have hsz:(xs.map a.eval).size=as.length:=by simp [hl]
   by_cases hj:j < as.length
   ·rw [List.getElem?_append_left hj] at he
    rw [Array.getElem?_append_left (by omega)] at hu
    refine hrep j e u he ?_
    rw [← hu,← Array.toList_map,Array.getElem?_toList]
   ·rw [List.getElem?_append_right (by omega)] at he
    rw [Array.getElem?_append_right (by omega),hsz] at hu
    exact hcr _ e u he hu
  ·rintro e w' ⟨v,d,M',rfl,rfl,hm,hd,he,rfl,hob⟩
   exact ⟨v,rfl,v,M',rfl,rfl,hm,hob,he,hd⟩
 unfold dcallee at hc
 split at hc
 ·cases hc
  cases hp with
  | one _ _ hp=>cases hp with
    | im _ _ hp=>cases hp with
      | fn _ _ vs h1 h2 =>
        refine key vs rfl (by simp [h1]) fun j d u hj hu=>?_
        rw [List.getElem?_map,Option.map_eq_some_iff] at hj
        obtain ⟨c,hc,rfl⟩:=hj
        exact .one _ _ (.im _ _ (h2 j c u hc hu))
 ·cases hc
  cases hp with
  | one _ _ hp=>cases hp with
    | fn _ _ vs h1 h2 =>
      refine key vs rfl (by simp [h1]) fun j d u hj hu=>?_
      rw [List.getElem?_map,Option.map_eq_some_iff] at hj
      obtain ⟨c,hc,rfl⟩:=hj
      exact .one _ _ (h2 j c u hc hu)
 ·cases hc
theorem wantedA_F {S:DS} {o:Oper} {b:Bool} (h:wantedA (ops.toList.map (·.dst)) S o=some b):wantedF ops o (tget S.tmps)=some b:=by
 unfold wantedA at h
 unfold wantedF
 split at h
 ·rename_i hg;simp [hg];exact (Option.some.inj h).symm
 ·rename_i j want hg
  simp only [hg]
  split at h
  ·rename_i t hd
   have hd':(ops[j]?).bind (·.dst)=some t:=by
    rw [List.getElem?_map,Array.getElem?_toList] at hd
    cases ho:ops[j]? with
    | none=>simp [ho] at hd
    | some x=>simp [ho] at hd;simp [hd]
   simp only [hd']
   exact h
  ·cases h
theorem put_tget {S:DS} {dst:Option Tmp} {d:DV} (hlt:∀ u,dst=some u→u < S.nt):tget (S.put dst d).tmps=putF (tget S.tmps) dst d:=by
 cases dst with
 | none=>rfl
 | some t =>
   funext u
   have:t < S.nt:=hlt t rfl
   simp only [DS.put,if_pos this,tget,putF]
   by_cases h:t=u
   ·simp [h]
   ·simp [h,Ne.symm h]
theorem put_objs {S:DS} {dst:Option Tmp} {d:DV}:(S.put dst d).objs=S.objs∧(S.put dst d).nt=S.nt:=by
 cases dst with
 | none=>exact ⟨rfl,rfl⟩
 | some t=>simp only [DS.put];split<;>exact ⟨rfl,rfl⟩
theorem LexA_of_RQe {K:DS→Prop}:∀ (l:List Oper) (S:DS) (nt:Nat) (objs:List DObj),S.nt=nt→S.objs=objs→(∀ o∈l,∀ u,o.dst=some u→u < nt)→RQe P G (ops.toList.map (·.dst)) l S K ⟨⟩ →
 LexA P G nt objs ops (fun τ=>∃ S',S'.nt=nt∧S'.objs=objs∧tget S'.tmps=τ∧K S') l (tget S.tmps)
 | [],S,_,_,h1,h2,_,h=>⟨S,h1,h2,rfl,h⟩
 | o :: l,S,_,_,h1,h2,hd,h=>by
   subst h1
   subst h2
   rw [RQe] at h
   have hd0:∀ u,o.dst=some u→u < S.nt:=hd o (by simp)
   have rest:∀ d,RQe P G (ops.toList.map (·.dst)) l (S.put o.dst d) K ⟨⟩→LexA P G S.nt S.objs ops (fun τ=>∃ S',S'.nt=S.nt∧S'.objs=S.objs∧tget S'.tmps=τ∧K S') l (putF (tget S.tmps) o.dst d):=fun d hk=>by
    have:=LexA_of_RQe l (S.put o.dst d) S.nt S.objs put_objs.2 put_objs.1 (fun o ho=>hd o (by simp [ho])) hk
    rwa [put_tget hd0] at this
   generalize hb:wantedA (ops.toList.map (·.dst)) S o=r at h
   cases r with
   | none=>exact h.elim
   | some b =>
     refine ⟨b,wantedA_F hb,fun e=>?_,fun e=>rest _ (h.2 e)⟩
     have h3:=h.1 e
     generalize hx:stepQ P G (S.keep (slotsOf o.op)) o.op o.type=x at h3
     cases x with
     | val d objs' =>
       obtain ⟨rfl,hkk⟩:=h3
       exact ⟨d,OpQ_of_val (stepQ_val hx),rest _ hkk⟩
     | call f as =>
       obtain ⟨x,ys,ts,d,as,caps,ho,hxv,has,hc,rfl⟩:=stepQ_call hx
       obtain ⟨hok,d0,hcall,hkk⟩:=h3
       exact ⟨d0,OpQ_of_call ho hxv hc has hok hcall,rest _ hkk⟩
     | cond p d objs' =>
       obtain ⟨hp,rfl,hkk⟩:=h3
       exact ⟨d,OpQ_of_val (stepQ_cond hx hp),rest _ hkk⟩
     | yield l as=>exact h3.elim
     | iter o l=>exact h3.elim
     | nilq l b=>exact h3.elim
     | gen p=>exact h3.elim
     | bad=>exact h3.elim
def regionOk (nt nq:Nat) (l:List Oper):Bool:=
 lexQ l.toArray nq 0 (Array.replicate l.length false) && lexT l.toArray (l.length - nq) nq (listK 0 nq (Array.replicate l.length false)) &&
 (Region.ready .any l.toArray (listK 0 nq (Array.replicate l.length false))).all (fun j=>decide (nq≤j)) &&
 ((List.range l.length).all fun j=>decide (j < nq) || (List.range nq).all fun i=>((closL l []).getD j 0).testBit i) &&
 (l.all fun o=>match o.dst with|some t=>decide (t < nt)|none=>true) && decide (nq≤l.length)
theorem DT_regionD {id:Nat} {n:Cx} {l:List Oper} {S:DS} {Q:Exit→DS→Prop} (nq:Nat) (ks:List Nat) (hm:P.follows .mixedOrders=true) (hB:regionOk S.nt nq l=true)
 (h:RQe P G (l.map (·.dst)) (l.take nq) S (fun S'=>RTe P G (l.map (·.dst)) (l.drop nq) S' (fun S''=>At Q .normal ⟨⟩ (S''.keep ks)) ⟨⟩) ⟨⟩):DT P G n (.region id l.toArray true) S Q:=by
 intro hn hrd a M hr
 simp only [regionOk,Bool.and_eq_true,decide_eq_true_eq] at hB
 obtain ⟨⟨⟨⟨⟨b1,b2⟩,b3⟩,b4⟩,b5⟩,b6⟩:=hB
 have hdst:∀ o∈l,∀ u,o.dst=some u→u < S.nt:=fun o ho u hu=>by
  have:=List.all_eq_true.1 b5 o ho
  simpa [hu] using this
 have htl:(l.take nq).length=nq:=by simp;omega
 have hmask:MaskOk l.toArray (closL l []):=closL_spec l [] (fun j _=>by simp) (fun j i oj _ h=>by simp at h)
 have hwait:∀ (j i:Nat) (listed:Array Bool),nq≤j→i < nq→Closed l.toArray listed→j∈Region.ready .any l.toArray listed→listed.getD i false=true:=fun j i listed hj hi hcl hr=>by
  obtain ⟨_,oj,hoj,hall⟩:=mem_ready.1 hr
  have hlt:j < l.length:=by simpa using (Array.getElem?_eq_some_iff.1 hoj).1
  have h1:=List.all_eq_true.1 b4 j (by simpa using hlt)
  simp only [Bool.or_eq_true,decide_eq_true_eq,List.all_eq_true,List.mem_range] at h1
  rcases h1 with h1|h1
  ·omega
  ·exact hmask j i oj hoj (h1 i hi) listed hcl hall
 have hcl0:Closed l.toArray (Array.replicate l.length false):=fun k o _ hk=>by
  rw [Array.getD_eq_getD_getElem?,Array.getElem?_replicate] at hk
  split at hk<;>simp at hk
 obtain ⟨hm1,he1⟩:=RelM.same (w':={ M.w with drawn:=M.w.drawn + 1 }) hr.m rfl ⟨rfl,rfl,rfl,by first|exact Nat.le_refl _|exact Nat.le_succ _⟩
 have hlex:=LexA_of_RQe (P:=P) (G:=G) (ops:=l.toArray) (l.take nq) S S.nt S.objs rfl rfl (fun o ho=>hdst o (List.mem_of_mem_take ho)) (by simpa using h)
 have hany:=AnyA_lex (P:=P) (G:=G) (ops:=l.toArray) (nq:=nq) (Lq:=listK 0 nq (Array.replicate l.length false)) (fun j hj=>by simpa using List.all_eq_true.1 b3 j hj) hwait (l.take nq) 0 (Array.replicate l.length false) (tget S.tmps) hcl0
  (fun j hj=>by rw [htl] at hj;simp [hj]) (by omega) (by rw [htl]) (by rw [htl];exact b1) hlex
 rw [htl] at hany
 refine wpIn_region_any hm ?_
 have hsz:l.toArray.size=nq + (l.length - nq):=by simp;omega
 rw [hsz]
 have hwp:=wpAny_of_AnyA (P:=P) (G:=G) (nt:=S.nt) (objs:=S.objs) (ops:=l.toArray) (tail:=l.length - nq) (M0:={ M with w:={ M.w with drawn:=M.w.drawn + 1 } }) (ro:=n.rd.map M.β) (dfs:=a.defers)
  (Q':=fun e a' w'=>∃ S' M',M'.w=w'∧Rel G S' a' M'∧Ext n.n M M'∧NewD M a a'∧Q e S') (fun i o ho u hu=>hdst o (by simpa using Array.mem_of_getElem? ho) u hu)
  (Q:=fun L τ=>L=listK 0 nq (Array.replicate l.length false)∧∃ S',S'.nt=S.nt∧S'.objs=S.objs∧tget S'.tmps=τ∧RTe P G (l.map (·.dst)) (l.drop nq) S' (fun S''=>At Q .normal ⟨⟩ (S''.keep ks)) ⟨⟩) (by
  rintro listed τ a2 M2 hr2 he2 hd2 ⟨rfl,S',e1,e2,rfl,hk⟩
  have hrel:Rel G S' a2 M2:=⟨hr2.m,by rw [e2];exact hr2.ob,by rw [e1];exact hr2.nt,hr2.df,hr2.tm⟩
  have hn2:n.n≤M2.objs.length:=by rw [hr2.ob];exact hn
  have hdl:(l.drop nq).length=l.length - nq:=by simp
  have:=wpAny_of_RT (P:=P) (G:=G) (ops:=l.toArray) (ro:=n.rd.map M.β) (Q':=fun e a' w'=>∃ S' M',M'.w=w'∧Rel G S' a' M'∧Ext n.n M M'∧NewD M a a'∧Q e S') n.n (fun S''=>At Q .normal ⟨⟩ (S''.keep ks)) (l.drop nq) nq _ S' a2 M2 (fun j hj=>by simp) (by rw [hdl];exact b2) hrel hn2 (by simpa using RTe_sound _ _ _ hk)
   (fun S3 a3 M3 hr3 he3 hd3 hq3=>by
    obtain ⟨M4,w4,r4,e4⟩:=Weak.keep (G:=G) (n:=n) (S:=S3) (ks:=ks) (by rw [← hr3.ob];exact he3.len) a3 M3 hr3
    have hobs:M.objs.length=S.objs.length:=by rw [hr.ob]
    refine ⟨_,M4,w4,r4,?_,.same (hd3.trans hd2),hq3⟩
    exact ((he1.weaken (by rw [hobs];exact hn)).trans (he2.weaken hn)).trans (he3.trans e4))
  rw [hdl] at this
  exact this) nq (Array.replicate l.length false) (tget S.tmps) a { M with w:={ M.w with drawn:=M.w.drawn + 1 } } ⟨hm1,hr.ob,hr.nt,hr.df,fun t d ht=>by
   obtain ⟨v,h1,h2⟩:=hr.tm t d ht
   exact ⟨v,h1,h2.ext he1⟩⟩ (by rw [← hr.ob];exact Ext.refl { M with w:={ M.w with drawn:=M.w.drawn + 1 } }) rfl hany
 have hrep:Array.replicate (nq + (l.length - nq)) false=Array.replicate l.length false:=by congr 1;omega
 rw [hrep]
 exact hwp
theorem DT_regionM {id nt:Nat} {n:Cx} {l:List Oper} {S:DS} {Q:Exit→DS→Prop} (nq:Nat) (ks:List Nat) (hm:P.follows .mixedOrders=true) (hnt:S.nt=nt) (hB:regionOk nt nq l=true)
 (h:RQe P G (l.map (·.dst)) (l.take nq) S (fun S'=>RTe P G (l.map (·.dst)) (l.drop nq) S' (fun S''=>At Q .normal ⟨⟩ (S''.keep ks)) ⟨⟩) ⟨⟩):DT P G n (.region id l.toArray true) S Q:=
 DT_regionD nq ks hm (by rw [hnt];exact hB) h
end
end Go.Ab
namespace Go.Ab
open Go
def MS.adopt (M:MS) (b:Nat) (d:DObj):MS:={ w:=M.w,β:=fun o=>if o=M.objs.length then b else M.β o,objs:=M.objs ++ [d],F:=fun x=>M.F x∧x≠b }
structure Grow (M M':MS):Prop where
 ok:∀ b,M.ok b→M'.ok b
 w:M'.w=M.w
 old:∀ o,o < M.objs.length→M'.objs[o]?=M.objs[o]?∧M'.β o=M.β o
 len:M.objs.length≤M'.objs.length
theorem RepC.grow {M M':MS} (h:Grow M M') {d:DC} {v:Value} (r:RepC M d v):RepC M' d v:=by
 induction r with
 | im c v hi=>exact .im c v (hi.mono fun b hb=>⟨h.ok b hb,by rw [h.w]⟩)
 | ptr o off v h1 ho hc=>exact .ptr o off v h1 (Nat.lt_of_lt_of_le ho h.len) (by rw [(h.old o ho).1,(h.old o ho).2];exact hc)
 | ept o gen idx off v h1 ho hc=>exact .ept o gen idx off v h1 (Nat.lt_of_lt_of_le ho h.len) (by rw [(h.old o ho).1,(h.old o ho).2];exact hc)
 | vec o gen off len v h1 ho hc=>exact .vec o gen off len v h1 (Nat.lt_of_lt_of_le ho h.len) (by rw [(h.old o ho).1,(h.old o ho).2,h.w];exact hc)
 | fn f caps vs hl _ ih=>exact .fn f caps vs hl ih
 | map o v h1 ho hc=>exact .map o v h1 (Nat.lt_of_lt_of_le ho h.len) (by rw [(h.old o ho).1,(h.old o ho).2];exact hc)
 | yld o v h1 ho hc=>exact .yld o v h1 (Nat.lt_of_lt_of_le ho h.len) (by rw [(h.old o ho).1,(h.old o ho).2];exact hc)
 | itr o v h1 ho hc=>exact .itr o v h1 (Nat.lt_of_lt_of_le ho h.len) (by rw [(h.old o ho).1,(h.old o ho).2];exact hc)
 | dead v h1=>exact .dead v h1
theorem RepV.grow {M M':MS} (h:Grow M M') {d:DV} {v:Value} (r:RepV M d v):RepV M' d v:=by
 induction r with
 | one c v hc=>exact .one c v (hc.grow h)
 | agg l cs hl hc=>exact .agg l cs hl fun j c v h1 h2=>(hc j c v h1 h2).grow h
 | tup l vs hl _ ih=>exact .tup l vs hl ih
theorem RelO.grow {M M':MS} (h:Grow M M') {o:Nat} (ho:o < M.objs.length) {d:DObj} (r:RelO M o d):RelO M' o d:=by
 have hβ:=(h.old o ho).2
 cases d with
 | row cells =>
   obtain ⟨c,T,h1,h2,h3⟩:=r
   exact ⟨c,T,by rw [hβ,h.w];exact h1,h2,fun j d v hd hv=>(h3 j d v hd hv).grow h⟩
 | vec sz es g nl =>
   obtain ⟨hn,hf⟩:=r
   refine ⟨hn,fun hnl=>?_⟩
   obtain ⟨h0,c,T,h1,h2,h3,h4⟩:=hf hnl
   exact ⟨h0,c,T,by rw [hβ,h.w];exact h1,h2,h3,fun i x j d v hx hd hv=>(h4 i x j d v hx hd hv).grow h⟩
 | map ks es =>
   obtain ⟨ents,clock,h1,hst,hsh,h2,h3⟩:=r
   refine ⟨ents,clock,by rw [hβ,h.w];exact h1,by rw [hβ];exact hst,hsh,h2,fun i x e hx he=>?_⟩
   obtain ⟨a1,a2,a3⟩:=h3 i x e hx he
   exact ⟨a1,a2,a3.grow h⟩
 | loop lr =>
   obtain ⟨fn,tmps,D,h1,h2,h3⟩:=r
   refine ⟨fn,tmps,D,by rw [hβ,h.w];exact h1,h2,fun t d ht=>?_⟩
   obtain ⟨v,e1,e2⟩:=h3 t d ht
   exact ⟨v,e1,e2.grow h⟩
 | iter left cur =>
   obtain ⟨bm,seen,ents,clock,h1,h2,h3,h4,h5,h6,h7⟩:=r
   refine ⟨bm,seen,ents,clock,by rw [hβ,h.w];exact h1,h.ok _ h2,by rw [h.w];exact h3,h4,h5,fun i x e hx he=>?_,fun x hx=>?_⟩
   ·obtain ⟨a1,a2,a3⟩:=h6 i x e hx he
    exact ⟨a1,a2,a3.grow h⟩
   ·obtain ⟨e,a0,a1,a2,a3,a4⟩:=h7 x hx
    exact ⟨e,a0,a1,a2,a3,a4.grow h⟩
 | liter b seen c=>show M'.w.heap[M'.β o]?=_;rw [hβ,h.w];exact r
 | gone=>trivial
section
variable {P:Program} {G:Nat→Option (List IC)}
theorem adopt_live {M:MS} {b x:Nat} {d:DObj} (hd:d.blk=true):(M.adopt b d).live x↔M.live x∨x=b:=by
 constructor
 ·rintro ⟨o,d',ho,hb,hβ⟩
  rcases getElem?_snoc ho with ⟨h1,h2⟩|⟨rfl,rfl⟩
  ·exact .inl ⟨o,d',h2,hb,by simpa [MS.adopt,Nat.ne_of_lt h1] using hβ⟩
  ·exact .inr (by simpa [MS.adopt] using hβ.symm)
 ·rintro (⟨o,d',ho,hb,hβ⟩|rfl)
  ·have hlt:o < M.objs.length:=(List.getElem?_eq_some_iff.1 ho).1
   exact ⟨o,d',by simp [MS.adopt,List.getElem?_append_left hlt,ho],hb,by simpa [MS.adopt,Nat.ne_of_lt hlt] using hβ⟩
  ·exact ⟨M.objs.length,d,by simp [MS.adopt],hd,by simp [MS.adopt]⟩
theorem adopt_ok {M:MS} {b x:Nat} {d:DObj} (hd:d.blk=true) (hF:M.F b):M.ok x→(M.adopt b d).ok x:=by
 rintro ⟨⟨h1,h2⟩,h3⟩
 have hne:x≠b:=fun e=>h3 (e ▸ hF)
 refine ⟨⟨h1,fun hl=>?_⟩,fun h=>h3 h.1⟩
 rcases (adopt_live hd).1 hl with h|h
 ·exact h2 h
 ·exact hne h
theorem Grow.adopt {M:MS} {b:Nat} {d:DObj} (hd:d.blk=true) (hF:M.F b):Grow M (M.adopt b d):=
 ⟨fun _ h=>adopt_ok hd hF h,rfl,fun o ho=>⟨by simp [MS.adopt,List.getElem?_append_left ho],by simp [MS.adopt,Nat.ne_of_lt ho]⟩,by simp [MS.adopt]⟩
theorem RelM.adopt {M:MS} (hm:RelM G M) {b:Nat} (hF:M.F b) {c:Array Value} {t:TypeId} (hh:M.w.heap[b]?=some (.cells c t (0,0))) {z:List Value} (hc:c.toList=z) (hz:z.all Plain=true) :
 RelM G (M.adopt b (.row (z.map zic))):=by
 have hd:(DObj.row (z.map zic)).blk=true:=rfl
 have hg:=Grow.adopt (M:=M) (b:=b) hd hF
 refine ⟨fun o d ho=>?_,fun o d ho hb=>?_,fun o o' d1 d2 ho ho' hb hb' hβ=>?_,fun g l hgl=>(hm.glob g l hgl).mono fun b hb=>⟨hg.ok b hb,rfl⟩,fun b' hb=>hm.fl b' hb.1,fun o d ho hb=>?_⟩
 ·rcases getElem?_snoc ho with ⟨h1,h2⟩|⟨rfl,rfl⟩
  ·exact (hm.objs o d h2).grow hg h1
  ·refine ⟨c,t,by simp [MS.adopt,hh],?_,fun j d v hj hv=>?_⟩
   ·rw [List.length_map,← hc];simp
   ·rw [← Array.getElem?_toList,hc] at hv
    rw [List.getElem?_map,hv,Option.map_some] at hj
    cases hj
    exact zic_sound (List.all_eq_true.1 hz v (List.mem_of_getElem? hv))
 ·rcases getElem?_snoc ho with ⟨h1,h2⟩|⟨rfl,rfl⟩
  ·simpa [MS.adopt,Nat.ne_of_lt h1] using hm.lt o d h2 hb
  ·simpa [MS.adopt] using hm.fl b hF
 ·rcases getElem?_snoc ho with ⟨h1,h2⟩|⟨rfl,rfl⟩<;>rcases getElem?_snoc ho' with ⟨h3,h4⟩|⟨rfl,rfl⟩
  ·exact hm.inj o o' d1 d2 h2 h4 hb hb' (by simpa [MS.adopt,Nat.ne_of_lt h1,Nat.ne_of_lt h3] using hβ)
  ·exfalso
   refine hm.own o d1 h2 hb ?_
   have:M.β o=b:=by simpa [MS.adopt,Nat.ne_of_lt h1] using hβ
   rw [this];exact hF
  ·exfalso
   refine hm.own o' d2 h4 hb' ?_
   have:b=M.β o':=by simpa [MS.adopt,Nat.ne_of_lt h3] using hβ
   rw [← this];exact hF
  ·rfl
 ·rcases getElem?_snoc ho with ⟨h1,h2⟩|⟨rfl,rfl⟩
  ·intro hx
   exact hm.own o d h2 hb (by simpa [MS.adopt,Nat.ne_of_lt h1] using hx.1)
  ·intro hx
   exact hx.2 (by simp [MS.adopt])
theorem Ext.adopt {M0 M:MS} {n:Nat} (he:Ext n M0 M) (hm0:RelM G M0) {b:Nat} {c:List DC} (hb0:M0.w.heap.size≤b) (hn:n≤M.objs.length):Ext n M0 (M.adopt b (.row c)):=by
 have hd:(DObj.row c).blk=true:=rfl
 have lo:∀ o,o < n→(M.adopt b (.row c)).objs[o]?=M.objs[o]?∧(M.adopt b (.row c)).β o=M.β o:=fun o ho =>
  ⟨by simp [MS.adopt,List.getElem?_append_left (Nat.lt_of_lt_of_le ho hn)],by simp [MS.adopt,Nat.ne_of_lt (Nat.lt_of_lt_of_le ho hn)]⟩
 refine ⟨by simp [MS.adopt];have:=he.len;omega,fun x hx=>?_,⟨fun x hx=>⟨he.other.1 x hx,fun e=>?_⟩,fun x hx hF=>he.other.2 x hx hF.1⟩,he.hs,fun o ho=>?_,fun o ho=>?_,fun o ho=>?_,fun o ho=>?_,fun o ho=>?_,fun o ho=>?_,he.io⟩
 ·obtain ⟨h1,h2⟩:=he.free x hx
  refine ⟨⟨h1.1,fun hl=>?_⟩,h2⟩
  rcases (adopt_live hd).1 hl with h|h
  ·exact h1.2 h
  ·have:=hx.1;omega
 ·have:=hm0.fl x hx;omega
 ·rw [(lo o ho).1,(lo o ho).2];exact he.row o ho
 ·rw [(lo o ho).1,(lo o ho).2];exact he.vec o ho
 ·rw [(lo o ho).1,(lo o ho).2];exact he.map o ho
 ·rw [(lo o ho).1,(lo o ho).2];exact he.lp o ho
 ·rw [(lo o ho).1,(lo o ho).2];exact he.it o ho
 ·rw [(lo o ho).1,(lo o ho).2];exact he.lp' o ho
def adopt1 (S:DS) (x:Nat×List Value):DS:={ S with tmps:=(x.1,.one (.ptr S.objs.length 0)) :: S.tmps,objs:=S.objs ++ [.row (x.2.map zic)] }
def adoptL (S:DS) (l:List (Nat×List Value)):DS:=match l with
 | []=>S
 | x :: r=>adoptL (adopt1 S x) r
structure Hid (M0:MS) (a:Act) (M:MS) (x:Nat×List Value) (b:Nat):Prop where
 F:M.F b
 lo:M0.w.heap.size≤b
 z:x.2.all Plain=true
 slot:a.tmps[x.1]?=some (.pointer (some ⟨b,0,none⟩))
 cells:∃ c t,M.w.heap[b]?=some (.cells c t (0,0))∧c.toList=x.2
theorem adoptL_sound {M0:MS} {n:Nat} (hm0:RelM G M0) {a:Act}:∀ (l:List (Nat×List Value)) (bs:List Nat) (S:DS) (M:MS),Rel G S a M→Ext n M0 M→n≤M.objs.length→l.length=bs.length →
 (∀ (i:Nat) (x:Nat×List Value) (b:Nat),l[i]?=some x→bs[i]?=some b→Hid M0 a M x b)→bs.Nodup→∃ M',Rel G (adoptL S l) a M'∧Ext n M0 M'∧n≤M'.objs.length∧M'.w=M.w∧∀ d v,RepV M d v→RepV M' d v
 | [],[],S,M,hr,he,hn,_,_,_=>⟨M,hr,he,hn,rfl,fun _ _ h=>h⟩
 | x :: l,b :: bs,S,M,hr,he,hn,hl,hx,hnd=>by
   obtain ⟨hF,hlo,hz,hslot,c,t,hh,hc⟩:=hx 0 x b rfl rfl
   have hd:(DObj.row (x.2.map zic)).blk=true:=rfl
   have hg:=Grow.adopt (M:=M) (b:=b) hd hF
   have hm:=hr.m.adopt hF hh hc hz
   rw [List.nodup_cons] at hnd
   have hr1:Rel G (adopt1 S x) a (M.adopt b (.row (x.2.map zic))):=by
    refine ⟨hm,by simp [adopt1,MS.adopt,hr.ob],hr.nt,?_,fun u d hu=>?_⟩
    ·obtain ⟨ds,h1,h2,h3⟩:=hr.df
     refine ⟨ds,h1,h2,fun D hD=>⟨⟨(h3 D hD).1,fun e=>?_⟩,(h3 D hD).2⟩⟩
     have h4:=(h3 D hD).2
     rw [e,hh] at h4
     cases h4
    ·simp only [adopt1,tget] at hu
     split at hu
     ·rename_i hxu
      subst hxu
      cases hu
      refine ⟨_,hslot,.one _ _ (.ptr _ _ _ rfl (by simp [MS.adopt,hr.ob]) fun c' _=>?_)⟩
      simp [MS.adopt,hr.ob]
     ·obtain ⟨v,h1,h2⟩:=hr.tm u d hu
      exact ⟨v,h1,h2.grow hg⟩
   obtain ⟨M',e1,e2,e3,e4,e5⟩:=adoptL_sound hm0 l bs (adopt1 S x) (M.adopt b (.row (x.2.map zic))) hr1 (he.adopt hm0 hlo hn) (by simp [MS.adopt];omega) (by simpa using hl)
    (fun i y b' hy hb'=>by
     obtain ⟨q1,q2,q3,q4,q5⟩:=hx (i + 1) y b' (by simpa using hy) (by simpa using hb')
     exact ⟨⟨q1,fun e=>hnd.1 (by rw [← e];exact List.mem_of_getElem? hb')⟩,q2,q3,q4,q5⟩) hnd.2
   exact ⟨M',e1,e2,e3,e4,fun d v h=>e5 d v (h.grow hg)⟩
 | [],_ :: _,_,_,_,_,_,h,_,_=>by simp at h
 | _ :: _,[],_,_,_,_,_,h,_,_=>by simp at h
end
end Go.Ab
