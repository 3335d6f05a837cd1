/- Part 31 of the proofs: laws and walks that hold without conditions beyond those that each theorem names. -/
import Derived.Test.YtciiddejfhbncaaGreatDoorA12
set_option linter.all false
set_option linter.deprecated false
namespace Go.Ab
open Go
theorem DT_regionZ {P:Program} {G:Nat→Option (List IC)} {id nt:Nat} {n:Cx} {l:List Oper} {S:DS} {Q:Exit→DS→Prop} (p:List Nat) (j:Nat) (st:List (List Nat×List Nat)) (ks:List Nat) (hm:P.follows .mixedOrders=true) (hnt:S.nt=nt) (hP:permOk p l=true) (hB:regionZ nt j st (permL p l p)=true)
 (h:RXe P G ((permL p l p).map (·.dst)) ((permL p l p).take j) S (fun Sq=>ZK P G (permL p l p) (fun S''=>At Q .normal ⟨⟩ (S''.keep ks)) st j Sq) ⟨⟩):DT P G n (.region id l.toArray true) S Q:=
 fun hn _ a M hr=>wpIn_region_any hm (by
  have hp:=permOk_spec hP
  have hl:(permL p l p).length=l.length:=by rw [permL_len hp.lt,hp.len]
  have h1:=anyZ j st ks hnt hB h hn a M hr
  rw [hl] at h1
  refine wpAny_perm hp _ _ _ _ _ (by simp) (by simp) (fun i k hi=>?_) h1
  have hi1:i < l.length:=by rw [← hp.len];exact lt_of_getElem? hi
  have hk1:=hp.lt k (List.mem_of_getElem? hi)
  simp [hi1,hk1])
section
variable {P:Program} {G:Nat→Option (List IC)} {S:DS}
theorem runSlice3 {t e:TypeId} {sz:Nat} (ht:P.underlying t=some (.slice e)) (hs:tsz P e=some sz) {a:Addr} {len cap:Nat} {w:World} {k1 k2:IntKind} :
 (Instr.sliceAt t (.slice (some a) len cap) none (some (.int k1 0)) (some (.int k2 0))).run P w=.ok (.slice (some a) 0 0) w:=by
 simp [Instr.sliceAt,runUnderlying ht,Instr.slice,Instr.sliceBounds,Instr.sliceBound,asIntOf,runSizeOf hs]
def isS3:Op→Option (TypeId×Operand)
 | .slice t x none (some (.const (.int _ a))) (some (.const (.int _ b)))=>if a=0∧b=0 then some (t,x) else none
 | _=>none
theorem isS3_some {op:Op} {t:TypeId} {x:Operand} (h:isS3 op=some (t,x)):∃ k1 k2,op=.slice t x none (some (.const (.int k1 0))) (some (.const (.int k2 0))):=by
 unfold isS3 at h
 split at h
 ·split at h
  ·rename_i hc
   cases h
   obtain ⟨rfl,rfl⟩:=hc
   exact ⟨_,_,rfl⟩
  ·cases h
 ·cases h
theorem OpV_slice3 {o:Oper} {t e:TypeId} {sz:Nat} {x:Operand} {l:List (List IC)} (hi:isS3 o.op=some (t,x)) (hx:evalG G S x=some (.one (.im (.sl l)))) (he:telem P t=some e) (hs:tsz P e=some sz) (hne:¬ l=[]):OpV P G o S (.one (.im .e0)) S.objs:=by
 obtain ⟨k1,k2,ho⟩:=isS3_some hi
 refine .pure fun a M hr=>?_
 have hp:=evalG_sound hr hx
 generalize hv:a.eval x=v at hp
 cases hp with
 | one _ _ hp=>cases hp with
   | im _ _ hp=>cases hp with
     | slnil=>exact absurd rfl hne
     | slz=>exact absurd rfl hne
     | sl _ ad cap sz' val hsp hok hcap hl hc hrep =>
       refine ⟨.slice (some ad) 0 0,?_,.one _ _ (.im _ _ (.e0 _ fun b hb=>by cases hb;exact hsp))⟩
       simp only [execOp,ho,Option.map_none,Option.map_some,Sem.run_bind,hv]
       have e1:a.eval (.const (.int k1 0))=.int k1 0:=rfl
       have e2:a.eval (.const (.int k2 0))=.int k2 0:=rfl
       rw [e1,e2,runSlice3 (telem_spec he) hs]
       rfl
def stepS (P:Program) (G:Nat→Option (List IC)) (S:DS) (op:Op) (ty:TypeId):Out:=match isS3 op with
 | some (t,x)=>match evalG G S x,telem P t with
   | some (.one (.im (.sl l))),some e=>match tsz P e with
     | some _=>if l=[] then .bad else .val (.one (.im .e0)) S.objs
     | none=>.bad
   | _,_=>.bad
 | none=>stepQ P G S op ty
def RQs (P:Program) (G:Nat→Option (List IC)) (dsts:List (Option Tmp)):List Oper→DS→(K:DS→Prop)→Tok K→Prop
 | [],S,K,_=>K S
 | o :: l,S,K,tk=>Want (wantedA dsts S o)
  (NextQ P G S.objs (stepS P G (S.keep (slotsOf o.op)) o.op o.type) (fun d=>RQs P G dsts l (S.put o.dst d) K tk) ⟨⟩)
  (RQs P G dsts l (S.put o.dst (.tup [])) K tk) ⟨⟩
end
section
variable {P:Program} {G:Nat→Option (List IC)} {ops:Array Oper}
theorem LexA_of_RQs {K:DS→Prop}:∀ (l:List Oper) (S:DS) (nt:Nat) (objs:List DObj),S.nt=nt→S.objs=objs→(∀ o∈l,∀ u,o.dst=some u→u < nt)→RQs P G (ops.toList.map (·.dst)) l S K ⟨⟩ →
 LexA P G nt objs ops (fun τ=>∃ S',S'.nt=nt∧S'.objs=objs∧tget S'.tmps=τ∧K S') l (tget S.tmps)
 | [],S,_,_,h1,h2,_,h=>⟨S,h1,h2,rfl,h⟩
 | o :: l,S,_,_,h1,h2,hd,h=>by
   subst h1
   subst h2
   rw [RQs] at h
   have hd0:∀ u,o.dst=some u→u < S.nt:=hd o (by simp)
   have rest:∀ d,RQs P G (ops.toList.map (·.dst)) l (S.put o.dst d) K ⟨⟩→LexA P G S.nt S.objs ops (fun τ=>∃ S',S'.nt=S.nt∧S'.objs=S.objs∧tget S'.tmps=τ∧K S') l (putF (tget S.tmps) o.dst d):=fun d hk=>by
    have:=LexA_of_RQs l (S.put o.dst d) S.nt S.objs put_objs.2 put_objs.1 (fun o ho=>hd o (by simp [ho])) hk
    rwa [put_tget hd0] at this
   generalize hb:wantedA (ops.toList.map (·.dst)) S o=r at h
   cases r with
   | none=>exact h.elim
   | some b =>
     refine ⟨b,wantedA_F hb,fun e=>?_,fun e=>rest _ (h.2 e)⟩
     have h3:=h.1 e
     generalize hi:isS3 o.op=y at h3
     unfold stepS at h3
     rw [hi] at h3
     cases y with
     | some p =>
       obtain ⟨t,x⟩:=p
       simp only at h3
       split at h3
       ·rename_i l0 e0 hv0 he0
        split at h3
        ·rename_i sz hs0
         split at h3
         ·exact h3.elim
         ·rename_i hne
          obtain ⟨_,hkk⟩:=h3
          exact ⟨_,OpQ_of_val (OpV_slice3 hi hv0 he0 hs0 hne),rest _ hkk⟩
        ·exact h3.elim
       ·exact h3.elim
     | none =>
     simp only at h3
     generalize hx:stepQ P G (S.keep (slotsOf o.op)) o.op o.type=x at h3
     cases x with
     | val d objs' =>
       obtain ⟨rfl,hkk⟩:=h3
       exact ⟨d,OpQ_of_val (stepQ_val hx),rest _ hkk⟩
     | call f as =>
       obtain ⟨x,ys,ts,d,as,caps,ho,hxv,has,hc,rfl⟩:=stepQ_call hx
       obtain ⟨hok,d0,hcall,hkk⟩:=h3
       exact ⟨d0,OpQ_of_call ho hxv hc has hok hcall,rest _ hkk⟩
     | cond p d objs' =>
       obtain ⟨hp,rfl,hkk⟩:=h3
       exact ⟨d,OpQ_of_val (stepQ_cond hx hp),rest _ hkk⟩
     | yield l as=>exact h3.elim
     | iter o l=>exact h3.elim
     | nilq l b=>exact h3.elim
     | gen p=>exact h3.elim
     | bad=>exact h3.elim
theorem DT_regionDs {id:Nat} {n:Cx} {l:List Oper} {S:DS} {Q:Exit→DS→Prop} (nq:Nat) (ks:List Nat) (hm:P.follows .mixedOrders=true) (hB:regionOk S.nt nq l=true)
 (h:RQs P G (l.map (·.dst)) (l.take nq) S (fun S'=>RTe P G (l.map (·.dst)) (l.drop nq) S' (fun S''=>At Q .normal ⟨⟩ (S''.keep ks)) ⟨⟩) ⟨⟩):DT P G n (.region id l.toArray true) S Q:=by
 intro hn hrd a M hr
 simp only [regionOk,Bool.and_eq_true,decide_eq_true_eq] at hB
 obtain ⟨⟨⟨⟨⟨b1,b2⟩,b3⟩,b4⟩,b5⟩,b6⟩:=hB
 have hdst:∀ o∈l,∀ u,o.dst=some u→u < S.nt:=fun o ho u hu=>by
  have:=List.all_eq_true.1 b5 o ho
  simpa [hu] using this
 have htl:(l.take nq).length=nq:=by simp;omega
 have hmask:MaskOk l.toArray (closL l []):=closL_spec l [] (fun j _=>by simp) (fun j i oj _ h=>by simp at h)
 have hwait:∀ (j i:Nat) (listed:Array Bool),nq≤j→i < nq→Closed l.toArray listed→j∈Region.ready .any l.toArray listed→listed.getD i false=true:=fun j i listed hj hi hcl hr=>by
  obtain ⟨_,oj,hoj,hall⟩:=mem_ready.1 hr
  have hlt:j < l.length:=by simpa using (Array.getElem?_eq_some_iff.1 hoj).1
  have h1:=List.all_eq_true.1 b4 j (by simpa using hlt)
  simp only [Bool.or_eq_true,decide_eq_true_eq,List.all_eq_true,List.mem_range] at h1
  rcases h1 with h1|h1
  ·omega
  ·exact hmask j i oj hoj (h1 i hi) listed hcl hall
 have hcl0:Closed l.toArray (Array.replicate l.length false):=fun k o _ hk=>by
  rw [Array.getD_eq_getD_getElem?,Array.getElem?_replicate] at hk
  split at hk<;>simp at hk
 obtain ⟨hm1,he1⟩:=RelM.same (w':={ M.w with drawn:=M.w.drawn + 1 }) hr.m rfl ⟨rfl,rfl,rfl,by first|exact Nat.le_refl _|exact Nat.le_succ _⟩
 have hlex:=LexA_of_RQs (P:=P) (G:=G) (ops:=l.toArray) (l.take nq) S S.nt S.objs rfl rfl (fun o ho=>hdst o (List.mem_of_mem_take ho)) (by simpa using h)
 have hany:=AnyA_lex (P:=P) (G:=G) (ops:=l.toArray) (nq:=nq) (Lq:=listK 0 nq (Array.replicate l.length false)) (fun j hj=>by simpa using List.all_eq_true.1 b3 j hj) hwait (l.take nq) 0 (Array.replicate l.length false) (tget S.tmps) hcl0
  (fun j hj=>by rw [htl] at hj;simp [hj]) (by omega) (by rw [htl]) (by rw [htl];exact b1) hlex
 rw [htl] at hany
 refine wpIn_region_any hm ?_
 have hsz:l.toArray.size=nq + (l.length - nq):=by simp;omega
 rw [hsz]
 have hwp:=wpAny_of_AnyA (P:=P) (G:=G) (nt:=S.nt) (objs:=S.objs) (ops:=l.toArray) (tail:=l.length - nq) (M0:={ M with w:={ M.w with drawn:=M.w.drawn + 1 } }) (ro:=n.rd.map M.β) (dfs:=a.defers)
  (Q':=fun e a' w'=>∃ S' M',M'.w=w'∧Rel G S' a' M'∧Ext n.n M M'∧NewD M a a'∧Q e S') (fun i o ho u hu=>hdst o (by simpa using Array.mem_of_getElem? ho) u hu)
  (Q:=fun L τ=>L=listK 0 nq (Array.replicate l.length false)∧∃ S',S'.nt=S.nt∧S'.objs=S.objs∧tget S'.tmps=τ∧RTe P G (l.map (·.dst)) (l.drop nq) S' (fun S''=>At Q .normal ⟨⟩ (S''.keep ks)) ⟨⟩) (by
  rintro listed τ a2 M2 hr2 he2 hd2 ⟨rfl,S',e1,e2,rfl,hk⟩
  have hrel:Rel G S' a2 M2:=⟨hr2.m,by rw [e2];exact hr2.ob,by rw [e1];exact hr2.nt,hr2.df,hr2.tm⟩
  have hn2:n.n≤M2.objs.length:=by rw [hr2.ob];exact hn
  have hdl:(l.drop nq).length=l.length - nq:=by simp
  have:=wpAny_of_RT (P:=P) (G:=G) (ops:=l.toArray) (ro:=n.rd.map M.β) (Q':=fun e a' w'=>∃ S' M',M'.w=w'∧Rel G S' a' M'∧Ext n.n M M'∧NewD M a a'∧Q e S') n.n (fun S''=>At Q .normal ⟨⟩ (S''.keep ks)) (l.drop nq) nq _ S' a2 M2 (fun j hj=>by simp) (by rw [hdl];exact b2) hrel hn2 (by simpa using RTe_sound _ _ _ hk)
   (fun S3 a3 M3 hr3 he3 hd3 hq3=>by
    obtain ⟨M4,w4,r4,e4⟩:=Weak.keep (G:=G) (n:=n) (S:=S3) (ks:=ks) (by rw [← hr3.ob];exact he3.len) a3 M3 hr3
    have hobs:M.objs.length=S.objs.length:=by rw [hr.ob]
    refine ⟨_,M4,w4,r4,?_,.same (hd3.trans hd2),hq3⟩
    exact ((he1.weaken (by rw [hobs];exact hn)).trans (he2.weaken hn)).trans (he3.trans e4))
  rw [hdl] at this
  exact this) nq (Array.replicate l.length false) (tget S.tmps) a { M with w:={ M.w with drawn:=M.w.drawn + 1 } } ⟨hm1,hr.ob,hr.nt,hr.df,fun t d ht=>by
   obtain ⟨v,h1,h2⟩:=hr.tm t d ht
   exact ⟨v,h1,h2.ext he1⟩⟩ (by rw [← hr.ob];exact Ext.refl { M with w:={ M.w with drawn:=M.w.drawn + 1 } }) rfl hany
 have hrep:Array.replicate (nq + (l.length - nq)) false=Array.replicate l.length false:=by congr 1;omega
 rw [hrep]
 exact hwp
theorem DT_regionS {id nt:Nat} {n:Cx} {l:List Oper} {S:DS} {Q:Exit→DS→Prop} (nq:Nat) (ks:List Nat) (hm:P.follows .mixedOrders=true) (hnt:S.nt=nt) (hB:regionOk nt nq l=true)
 (h:RQs P G (l.map (·.dst)) (l.take nq) S (fun S'=>RTe P G (l.map (·.dst)) (l.drop nq) S' (fun S''=>At Q .normal ⟨⟩ (S''.keep ks)) ⟨⟩) ⟨⟩):DT P G n (.region id l.toArray true) S Q:=
 DT_regionDs nq ks hm (by rw [hnt];exact hB) h
end
attribute [simp] RQs stepS isS3
end Go.Ab
