/- Part 5 of the proofs. -/
import Derived.Maps.RangeRun
import Derived.Test.YtlmlkkoapahmjaaGreatDoorS04
set_option linter.all false
set_option maxHeartbeats 100000000
namespace Go.Ab
open Go
section
variable {P:Program} {w:World} {G:Hn} {S:DS}
def fe (es:List (List Value×List IC)):List (List Value×List DC):=es.map λx=>(x.1,x.2.map .im)
theorem rc {M:MS} {l:List IC} {f:Nat->Value} (h:∀ (j:Nat) (c:IC),l[j]?=some c->RepI M.w M.ok c (f j)):RepV M (F3 (l.map .im)) (F5 ((List.range l.length).map f)):=by
 match l,h with
 | [],_=>exact .agg _ _ rfl (λj c v h=>by simp at h)
 | [c],h=>exact .one _ _ (.im _ _ (h 0 c rfl))
 | a :: b :: r,h =>
   have e:F5 ((List.range (a :: b :: r).length).map f)=.agg ((List.range (a :: b :: r).length).map f).toArray:=L0 (by simp);rw[e];refine .agg _ _ (by simp) λj c v h1 h2=>?_;have h1':((a :: b :: r).map DC.im)[j]?=some c:=h1;rw[List.getElem?_map,Option.map_eq_some_iff] at h1';obtain⟨c0,h3,rfl⟩:=h1';have hj:=e7 h3;rw[List.getElem?_toArray,List.getElem?_map,List.getElem?_range hj] at h2;cases h2;exact .im _ _ (h j c0 h3)
theorem cL:∀ {ks:List CK} {l:List Value},h9 ks l=true->∀ v∈l,v7 v=true
 | [],[],_=>by simp
 | [],_ :: _,h=>by simp[h9] at h
 | c :: _,[],h=>by cases c<;>simp[h9] at h
 | c :: ks,v :: l,h=>by
   intro u hu;cases c<;>cases v<;>simp[h9] at h
   all_goals
    rcases List.mem_cons.1 hu with rfl|hu
    ·rfl
    ·first|exact cL h.2 u hu|exact cL h u hu
theorem qT {M:MS} {ks:List CK} {es:List (List Value×List IC)} {v:Value} (hp:RepC M (.im (.mp ks es)) v) :
 ∃ b ents clock,v=.map (some b)/\M.ok b/\M.w.heap[b]?=some (.map ents clock)/\Stamps ents clock/\(∀ x∈es,h9 ks x.1=true)/\ents.size=es.length /\
  (∀ (i:Nat) (x:List Value×List IC) (e:MapEntry),es[i]?=some x->ents[i]?=some e->X2 M x e)/\Y3 (fe es) ents.toList/\(∀ x∈fe es,h9 ks x.1=true)/\ents.size=(fe es).length /\
  (∀ (i:Nat) (x:List Value×List DC) (e:MapEntry),(fe es)[i]?=some x->ents[i]?=some e->vp M x e):=by
 cases hp with
 | im _ _ hp=>cases hp with
   | mp _ _ b ents clock val h1 h2 h3 h4 h5 h6 h7 =>
     have hE:∀ (i:Nat) (x:List Value×List IC) (e:MapEntry),es[i]?=some x->ents[i]?=some e->X2 M x e:=λi x e hx he=>by
      obtain⟨a1,a2⟩:=h6 i x e hx he;refine⟨a1,cL (h4 x (List.mem_of_getElem? hx)),?_⟩;rw[a2];exact rc λj c hj=>h7 i x j c hx hj
     have hE2:∀ (i:Nat) (x:List Value×List DC) (e:MapEntry),(fe es)[i]?=some x->ents[i]?=some e->vp M x e:=λi x e hx he=>by
      simp only[fe,List.getElem?_map,Option.map_eq_some_iff] at hx;obtain⟨x0,hx0,rfl⟩:=hx;exact hE i x0 e hx0 he
     have hl:ents.size=(fe es).length:=by simp[fe,h5]
     refine⟨b,ents,clock,rfl,h1,h2,h3,h4,h5,hE,sS hl hE2,λx hx=>?_,hl,hE2⟩;simp only[fe,List.mem_map] at hx;obtain⟨x0,hx0,rfl⟩:=hx;exact h4 x0 hx0
def gC (P:Program) (G:Hn) (S:DS) (t:TypeId) (m k:Operand) (ok:Bool):Option (DV×List DObj):=
 match j5 G S m,j5 G S k,cD P t with
 | some (.one (.im (.mp ks es))),some kd,some (kt,et)=>match fb kd,A9 P kt,Bz P et with
   | some kv,some ks',some z =>
     if ks=ks'/\h9 ks kv=true/\z.all v7=true then
      some (if ok then .tup [F3 (R6 kv (fe es) (z.map an)),.one (.im (.raw (.bool (jq kv (fe es)))))] else F3 (R6 kv (fe es) (z.map an)),S.objs)
     else none
   | _,_,_=>none
 | _,_,_=>none
theorem pS {o:Oper} {t:TypeId} {m k:Operand} {ok:Bool} {d:DV} {objs':List DObj} (ho:o.op=.lookup t m k ok) (h:gC P G S t m k ok=some (d,objs')):OpV P G o S d objs':=by
 unfold gC at h;split at h
 ·rename_i ks es kd kt et hm hk ht;split at h
  ·rename_i kv ks' z h2 h3 h4;split at h
   ·rename_i hc;obtain⟨rfl,hsk,hz⟩:=hc;cases h;intro a M hr;have hp:=i9 hr hm;have hkv:=Y0 hr hk h2;generalize hv:a.eval m=v at hp;cases hp with
    | one _ _ hp =>
      obtain⟨b,ents,clock,rfl,_,a1,a2,_,_,_,a6,a3,a4,a5⟩:=qT hp;have hfind:=fO (P:=P) (w:=M.w) h3 hsk a6 a3;have hck:=λem=>U0 (P:=P) (w:=M.w) h3 hsk em;have hzero:=sK (P:=P) (w:=M.w) h4;have hzr:=aX (M:=M) hz;have hrun:∀ u b,((∃ j,R7 kv (fe es) ents.toList 0=some (j,u)/\b=true)\/(R7 kv (fe es) ents.toList 0=none/\u=F5 z/\b=false))->(execOp a.eval o).run P M.w=.ok (.value (if ok then .tuple #[u,.bool b] else u)) M.w:=by
       intro u b hu;simp only[execOp,ho,Instr.lookup,hv,hkv,Sem.run_bind,e8 (G8 ht),Result.andThen_ok,w8 a1,Sem.run_pure,hck,hfind];rcases hu with⟨j,h1,rfl⟩|⟨h1,rfl,rfl⟩
       ·rw[h1];simp
       ·rw[h1];simp[hzero]
      have fin:∀ u b,((∃ j,R7 kv (fe es) ents.toList 0=some (j,u)/\b=true)\/(R7 kv (fe es) ents.toList 0=none/\u=F5 z/\b=false))->RepV M (F3 (R6 kv (fe es) (z.map an))) u->jq kv (fe es)=b ->
       ∃ v M',((execOp a.eval o).run P M.w=.ok (.value v) M'.w\/((execOp a.eval o).run P M.w=.ok .skip M'.w/\v=undef))/\RelM G M'/\M'.objs=S.objs/\Ext M.objs.length M M' /\
        RepV M' (if ok then .tup [F3 (R6 kv (fe es) (z.map an)),.one (.im (.raw (.bool (jq kv (fe es)))))] else F3 (R6 kv (fe es) (z.map an))) v:=by
       intro u b hu hrep hb;refine⟨_,M,.inl (hrun u b hu),hr.m,hr.ob,Ext.refl M,?_⟩;cases ok
       ·simpa using hrep
       ·simp only[if_true];refine .tup _ _ rfl λj d v h5 h6=>?_;match j with
        | 0=>simp at h5 h6;subst h5;subst h6;exact hrep
        | 1=>simp at h5 h6;subst h5;subst h6;rw[hb];exact .one _ _ (.im _ _ (.raw _ rfl))
        | j+2=>simp at h5
      cases hf:R7 kv (fe es) ents.toList 0 with
      | none =>
        have h5:=(bn a6 hf).1;refine fin (F5 z) false (.inr ⟨hf,rfl,rfl⟩) (by simp[R6,h5,hzr]) (by simp[jq,h5])
      | some p =>
        obtain⟨j,u⟩:=p;obtain⟨p,x,e,rfl,h5,h6,rfl,h7,h8⟩:=bl a6 hf;refine fin e.val true (.inl ⟨_,hf,rfl⟩) ?_ (by simp[jq,h7]);simp only[R6,h7,Option.getD_some];exact(a5 p x e h5 (by simpa using h6)).2.2
   ·cases h
  ·cases h
 ·cases h
theorem U4 (ents:Array MapEntry) (seen:Array Nat):(leftOf ents seen).toList=X0 ents seen:=by
 simp[leftOf,X0]
theorem my (ents:Array MapEntry):X0 ents #[]=ents.toList:=by
 unfold X0;exact List.filter_eq_self.2 (λx _=>by simp)
theorem gu:∀ (l:List MapEntry) (i:Nat) (e:MapEntry),l.Pairwise (λx y=>x.born≠y.born)->l[i]?=some e->l.filter (λx=>!(x.born==e.born))=l.eraseIdx i
 | [],i,e,_,h=>by simp at h
 | x :: l,0,e,hp,h=>by
   simp at h;subst h;simp only[List.pairwise_cons] at hp;rw[List.filter_cons_of_neg (by simp),List.eraseIdx_cons_zero];exact List.filter_eq_self.2 λy hy=>by have:=hp.1 y hy;simp;exact λe=>this e.symm
 | x :: l,i+1,e,hp,h=>by
   simp only[List.pairwise_cons] at hp;have h':l[i]?=some e:=by simpa using h
   have hne:x.born≠e.born:=hp.1 e (List.mem_of_getElem? h');rw[List.filter_cons_of_pos (by simp[hne]),List.eraseIdx_cons_succ,gu l i e hp.2 h']
theorem N5 {ents:Array MapEntry} {clock:Nat} (h:Stamps ents clock):ents.toList.Pairwise (λx y=>x.born≠y.born):=by
 rw[List.pairwise_iff_getElem];intro i j hi hj hij he;have:=h.2 i j _ _ (by rw[<- Array.getElem?_toList,List.getElem?_eq_getElem hi]) (by rw[<- Array.getElem?_toList,List.getElem?_eq_getElem hj]) he;omega
theorem kG {ents:Array MapEntry} {clock:Nat} (h:Stamps ents clock) (seen:Array Nat) {i:Nat} {e:MapEntry} (hi:(X0 ents seen)[i]?=some e):X0 ents (seen.push e.born)=(X0 ents seen).eraseIdx i:=by
 rw[<- gu (X0 ents seen) i e ((N5 h).filter _) hi];unfold X0;rw[List.filter_filter]
 congr 1
 funext x;by_cases hx:x.born=e.born<;>simp[hx,Bool.and_comm]
def nM (P:Program) (G:Hn) (S:DS) (t:TypeId) (x:Operand):Option (DV×List DObj):=
 match j5 G S x,cD P t with
 | some (.one (.im (.mp _ es))),some _=>some (.one (.itr S.objs.length),S.objs++[.iter es none])
 | _,_=>none
theorem vt {o:Oper} {t:TypeId} {x:Operand} {d:DV} {objs':List DObj} (ho:o.op=.range t x) (h:nM P G S t x=some (d,objs')):OpV P G o S d objs':=by
 unfold nM at h;split at h
 ·rename_i ks es kt hx ht;cases h;intro a M hr;have hp:=i9 hr hx;generalize hv:a.eval x=v at hp;cases hp with
  | one _ _ hp =>
    obtain⟨b,ents,clock,rfl,hok,a1,a2,_,hsz,hE,_⟩:=qT hp;have hrun:(execOp a.eval o).run P M.w=.ok (.value (.pointer (some ⟨M.w.heap.size,0,none⟩))) (M.w.alloc (.mapIter (some b) clock #[] clock)):=by
     simp only[execOp,ho,Instr.range,hv,Sem.run_bind,e8 (G8 ht),Result.andThen_ok,w8 a1,Sem.run_pure,run_newObj_alloc]
    have he:Ext M.objs.length M (M.push (.mapIter (some b) clock #[] clock) (.iter es none)):=Ext.push _ _ hr.m.lt;refine⟨_,M.push (.mapIter (some b) clock #[] clock) (.iter es none),.inl hrun,?_,by simp[MS.push,hr.ob],he,.one _ _ (.itr _ _ rfl (by simp[MS.push,hr.ob]) λl c hlc=>by simp[MS.push,hr.ob])⟩;refine hr.m.push rfl ⟨b,#[],ents,clock,?_,(he.ok b hok).1,by rw[(he.ok b hok).2];exact a1,a2,by rw[my];simpa using hsz,λi y e hi hj=>?_,λx hx=>by cases hx⟩
    ·simp only[MS.push,if_true];exact P1
    ·rw[my] at hj;obtain⟨b1,b2,b3⟩:=hE i y e hi (by simpa using hj);exact⟨b1,b2,b3.ext he⟩
 ·cases h
theorem yR {o:Oper} {it:Operand} {oI:Nat} {left:List (List Value×List IC)} {cur:Option (List Value×List IC)} {K:DS->Prop} (ho:o.op=.next it false) (hx:j5 G S it=some (.one (.itr oI))) (hob:S.objs[oI]?=some (.iter left cur))
 (h0:left=[]->K ({ S with objs:=S.objs }.put o.dst (.tup [.one (.im (.raw (.bool false)))])))
 (h1:∀ (i:Nat) (x:List Value×List IC),left[i]?=some x->K ({ S with objs:=S.objs.set oI (.iter (left.eraseIdx i) (some x)) }.put o.dst (.tup [.one (.im (.raw (.bool true))),F3 (x.1.map an),F3 (x.2.map .im)]))):OpT P G o S K:=by
 intro ro a M hr;have hp:=i9 hr hx;have hMob:M.objs[oI]?=some (.iter left cur):=by rw[hr.ob];exact hob
 obtain⟨bm,seen,ents,clock,g1,g2,g3,g4,g5,g6,g7⟩:=hr.m.objs oI _ hMob;generalize hv:a.eval it=v at hp;cases hp with
 | one _ _ hp=>cases hp with
   | itr _ _ k1 k2 k3 =>
     obtain rfl:=k3 _ hMob rfl;have hold:∀ x∈ents.toList,x.born<clock:=λx hx=>by
      obtain⟨i,hi⟩:=List.mem_iff_getElem?.1 hx;exact g4.1 i x (by simpa using hi)
     have hexec:∀ r,(Instr.next (.pointer (some ⟨M.β oI,0,none⟩)) false o.type).run P M.w=r->(execOp a.eval o).run P M.w=r.andThen λv w=>.ok (.value v) w:=λr hr'=>by
      simp only[execOp,ho,hv,Sem.run_bind,hr'];cases r<;>rfl
     rcases run_next_at (P:=P) M.w o.type (M.β oI) bm clock clock seen ents clock g1 g3 hold (Nat.le_refl _) with⟨hz,hrun⟩|⟨e,he,w1,hw1,hrun⟩
     ·have hl:left=[]:=by
       have:(X0 ents seen).length=0:=by rw[<- U4];simpa using hz
       exact List.eq_nil_of_length_eq_zero (by omega)
      have hp2:=hr.put (d:=.tup [.one (.im (.raw (.bool false)))]) (v:=.tuple #[.bool false]) hr.m (Ext.refl M) (.tup _ _ rfl (λj d v h2 h3=>by
       match j with
       | 0=>simp at h2 h3;subst h2;subst h3;exact .one _ _ (.im _ _ (.raw _ rfl))
       | j+1=>simp at h2)) o.dst
      refine H7 (v:=.tuple #[.bool false]) (w':=M.w) (by rw[hexec _ hrun];rfl) ⟨_,M,rfl,hp2,Ext.refl M,r5 _ _ _,?_⟩;rw[hr.ob];exact h0 hl
     ·rw[U4] at he;obtain⟨i,hi⟩:=List.mem_iff_getElem?.1 he;have hilt:i<left.length:=by rw[<- g5];exact e7 hi
      have hxi:left[i]?=some left[i]:=by simp[hilt]
      have hE:=g6 i _ e hxi hi;have hw1h:w1.heap=M.w.heap:=by rcases hw1 with rfl|rfl<;>rfl
      obtain⟨hmw,hew⟩:=RelM.same (w':=w1) hr.m hw1h (by rcases hw1 with rfl|rfl<;>exact⟨rfl,rfl,rfl,by first|exact Nat.le_refl _|exact Nat.le_succ _⟩);have hMob1:({ M with w:=w1 }:MS).objs[oI]?=some (.iter left cur):=hMob;have g1':w1.heap[M.β oI]?=some (.mapIter (some bm) clock seen clock):=by rw[hw1h];exact g1
      have het:Ext M.objs.length { M with w:=w1 } (MS.turn { M with w:=w1 } oI (.mapIter (some bm) clock (seen.push e.born) clock) (.iter (left.eraseIdx i) (some left[i]))):=Ext.turn hMob1 rfl trivial g1' rfl;have hbne:bm≠M.β oI:=λe=>g2.1.2 ⟨oI,_,hMob,rfl,e.symm⟩;have hok1:(MS.turn { M with w:=w1 } oI (.mapIter (some bm) clock (seen.push e.born) clock) (.iter (left.eraseIdx i) (some left[i]))).ok bm:=((hew.trans het).ok bm g2).1;have hEx:∀ {x:List Value×List IC} {e':MapEntry},X2 M x e'->X2 (MS.turn { M with w:=w1 } oI (.mapIter (some bm) clock (seen.push e.born) clock) (.iter (left.eraseIdx i) (some left[i]))) x e':=λ⟨b1,b2,b3⟩=>⟨b1,b2,b3.ext (hew.trans het)⟩
      have hmem:e∈ents.toList:=by
       have:=he;unfold X0 at this;exact(List.mem_filter.1 this).1
      have hrel:=hmw.turn (x:=.mapIter (some bm) clock (seen.push e.born) clock) (d':=.iter (left.eraseIdx i) (some left[i])) hMob1 rfl trivial g1' rfl ⟨bm,seen.push e.born,ents,clock,by
       simp only[MS.turn];rw[Array.getElem?_setIfInBounds_self_of_lt (by rw[hw1h];exact hr.m.lt oI _ hMob rfl)],hok1,by
       rw[((hew.trans het).ok bm g2).2];exact g3,g4,by rw[kG g4 seen hi,List.length_eraseIdx,List.length_eraseIdx,g5],λj x e' hj hj'=>by
       rw[kG g4 seen hi,List.getElem?_eraseIdx] at hj';rw[List.getElem?_eraseIdx] at hj;split at hj
       ·rename_i hji;rw[if_pos hji] at hj';exact hEx (g6 j x e' hj hj')
       ·rename_i hji;rw[if_neg hji] at hj';exact hEx (g6 _ x e' hj hj'),λx hx=>by
       cases hx;exact⟨e,hmem,by simp,hEx hE⟩⟩
      have hkey:RepV (MS.turn { M with w:=w1 } oI (.mapIter (some bm) clock (seen.push e.born) clock) (.iter (left.eraseIdx i) (some left[i]))) (F3 (left[i].1.map an)) e.key:=by
       rw[hE.1];exact aX (List.all_eq_true.2 hE.2.1)
      have hval:=(hEx hE).2.2;have hp2:=hr.put (d:=.tup [.one (.im (.raw (.bool true))),F3 (left[i].1.map an),F3 (left[i].2.map .im)]) (v:=.tuple #[.bool true,e.key,e.val]) hrel (hew.trans het) (.tup _ _ rfl (λj d v h2 h3=>by
       match j with
       | 0=>simp at h2 h3;subst h2;subst h3;exact .one _ _ (.im _ _ (.raw _ rfl))
       | 1=>simp at h2 h3;subst h2;subst h3;exact hkey
       | 2=>simp at h2 h3;subst h2;subst h3;exact hval
       | j+3=>simp at h2)) o.dst
      refine H7 (by rw[hexec _ hrun];rfl) ⟨_,MS.turn { M with w:=w1 } oI (.mapIter (some bm) clock (seen.push e.born) clock) (.iter (left.eraseIdx i) (some left[i])),rfl,hp2,hew.trans het,r5 _ _ _,?_⟩;have:=h1 i left[i] hxi;simp only[MS.turn,hr.ob];exact this
def Z4 (b c:Nat):List DObj->Option (List Nat×List (List Value×List DC))
 | []=>none
 | .map (.st l c' b' :: _) es :: r=>if b'=b/\c'=c then some (l,es) else Z4 b c r
 | _ :: r=>Z4 b c r
theorem eZ {b c:Nat}:∀ {objs:List DObj} {l:List Nat} {es:List (List Value×List DC)},Z4 b c objs=some (l,es)->∃ (o:Nat) (ks:List CK),objs[o]?=some (DObj.map (.st l c b :: ks) es)
 | [],_,_,h=>by cases h
 | d :: r,l,es,h=>by
   have next:Z4 b c r=some (l,es)->∃ (o:Nat) (ks:List CK),(d :: r)[o]?=some (DObj.map (.st l c b :: ks) es):=λh=>by
    obtain⟨o,ks,h1⟩:=eZ h;exact⟨o+1,ks,h1⟩
   cases d with
   | map ks es' =>
     match ks,h with
     | [],h=>exact next h
     | .int _ :: _,h=>exact next h
     | .bool :: _,h=>exact next h
     | .st l' c' b' :: ks,h =>
       by_cases hc:b'=b/\c'=c
       ·obtain⟨rfl,rfl⟩:=hc;simp only[Z4,and_self,if_true,Option.some.injEq,Prod.mk.injEq] at h;obtain⟨rfl,rfl⟩:=h;exact⟨0,ks,rfl⟩
       ·simp only[Z4,hc,if_false] at h;exact next h
   | _=>exact next h
theorem oo {ents:Array MapEntry} {clock:Nat} (h:Stamps ents clock):(ents.toList.map (·.born)).Nodup/\∀ s∈ents.toList.map (·.born),s<clock:=by
 refine⟨?_,λs hs=>?_⟩
 ·have:=N5 h;rw[List.Nodup,List.pairwise_map];exact this
 ·obtain⟨e,he,rfl⟩:=List.mem_map.1 hs;obtain⟨i,hi⟩:=List.mem_iff_getElem?.1 he;exact h.1 i e (by simpa using hi)
theorem RelM.live {M:MS} (hm:RelM G M) {o:Nat} {ks:List CK} {es:List (List Value×List DC)} (hp:plainK ks) (ho:M.objs[o]?=some (.map ks es)) :
 ∃ ents clock,M.w.heap[M.β o]?=some (.map ents clock)/\Stamps ents clock/\ents.size=es.length /\
  RelM G { M with objs:=M.objs.set o (DObj.map (.st (ents.toList.map (·.born)) clock (M.β o) :: ks) es) } /\
  Ext M.objs.length M { M with objs:=M.objs.set o (DObj.map (.st (ents.toList.map (·.born)) clock (M.β o) :: ks) es) }:=by
 obtain⟨ents,clock,a1,a2,a3,a4,a5⟩:=hm.objs o _ ho;have hal:(DObj.map ks es).alike (DObj.map (.st (ents.toList.map (·.born)) clock (M.β o) :: ks) es):=(mQ _ _ _ ks).symm;have hw:M.turn o (.map ents clock) (DObj.map (.st (ents.toList.map (·.born)) clock (M.β o) :: ks) es)={ M with objs:=M.objs.set o (DObj.map (.st (ents.toList.map (·.born)) clock (M.β o) :: ks) es) }:=by
  simp only[MS.turn]
  congr 2
  apply Array.ext_getElem?
  intro i;rw[Array.getElem?_setIfInBounds];split
  ·rename_i h;subst h;rw[a1,if_pos ((Array.getElem?_eq_some_iff.1 a1).1)]
  ·rfl
 refine⟨ents,clock,a1,a2.1,a4,?_,?_⟩
 ·rw[<- hw];have he:=Ext.turn (x:=.map ents clock) ho rfl hal a1 rfl;refine hm.turn ho rfl hal a1 rfl ⟨ents,clock,?_,⟨a2.1,rfl,rfl,rfl⟩,a3,a4,λi x e hi hj=>?_⟩
  ·rw[hw];exact a1
  ·obtain⟨b1,b2,b3⟩:=a5 i x e hi hj;exact⟨b1,b2,b3.ext he⟩
 ·rw[<- hw];exact Ext.turn ho rfl hal a1 rfl
theorem sk {o:Oper} {t:TypeId} {x:Operand} {oM:Nat} {kt:TypeId×TypeId} {ks:List CK} {es:List (List Value×List DC)} {K:DS->Prop} (ho:o.op=.range t x) (hx:j5 G S x=some (.one (.map oM))) (ht:cD P t=some kt) (hp:plainK ks) (hob:S.objs[oM]?=some (.map ks es))
 (h:∀ (l:List Nat) (c b:Nat),l.length=es.length->l.Nodup->(∀ s∈l,s<c)->K ({ S with objs:=S.objs.set oM (DObj.map (.st l c b :: ks) es)++[DObj.liter b [] c] }.put o.dst (.one (.itr S.objs.length)))):OpT P G o S K:=by
 intro ro a M hr;have hp1:=i9 hr hx;have hMob:M.objs[oM]?=some (.map ks es):=by rw[hr.ob];exact hob
 obtain⟨ents,clock,a1,a2,a4,hm1,he1⟩:=hr.m.live hp hMob;generalize hv:a.eval x=v at hp1;cases hp1 with
 | one _ _ hp1 =>
   obtain⟨rfl,_⟩:=gc hr.m hp1 hMob;have hrun:(execOp a.eval o).run P M.w=.ok (.value (.pointer (some ⟨M.w.heap.size,0,none⟩))) (M.w.alloc (.mapIter (some (M.β oM)) clock #[] clock)):=by
    simp only[execOp,ho,Instr.range,hv,Sem.run_bind,e8 (G8 ht),Result.andThen_ok,w8 a1,Sem.run_pure,run_newObj_alloc]
   let M1:MS:={ M with objs:=M.objs.set oM (DObj.map (.st (ents.toList.map (·.born)) clock (M.β oM) :: ks) es) }
   have hlen:M1.objs.length=M.objs.length:=by simp[M1]
   have he2:Ext M1.objs.length M1 (M1.push (.mapIter (some (M.β oM)) clock #[] clock) (DObj.liter (M.β oM) [] clock)):=Ext.push _ _ hm1.lt;have hm2:RelM G (M1.push (.mapIter (some (M.β oM)) clock #[] clock) (DObj.liter (M.β oM) [] clock)):=by
    refine hm1.push rfl ?_;show (M1.push _ _).w.heap[(M1.push _ _).β M1.objs.length]?=_;simp only[MS.push,if_true];exact P1
   rw[hlen] at he2;have he:Ext M.objs.length M (M1.push (.mapIter (some (M.β oM)) clock #[] clock) (DObj.liter (M.β oM) [] clock)):=he1.trans he2;have hp2:=hr.put (d:=.one (.itr S.objs.length)) (v:=.pointer (some ⟨M.w.heap.size,0,none⟩)) hm2 he (.one _ _ (.itr _ _ rfl (by simp[MS.push,M1,hr.ob]) λd hd hi=>by simp[MS.push,M1,hr.ob])) o.dst;refine H7 hrun ⟨_,M1.push (.mapIter (some (M.β oM)) clock #[] clock) (DObj.liter (M.β oM) [] clock),rfl,hp2,he,r5 _ _ _,?_⟩;have hs:=oo a2;have:=h (ents.toList.map (·.born)) clock (M.β oM) (by simp[a4]) hs.1 hs.2;simp only[MS.push,M1,hr.ob];exact this
theorem oY {ents:Array MapEntry} {i:Nat} {e:MapEntry} (h:ents.toList[i]?=some e):(ents.toList.map (·.born))[i]?=some e.born:=by simp[h]
theorem vF {o:Oper} {it:Operand} {oI b c:Nat} {seen l:List Nat} {es:List (List Value×List DC)} {K:DS->Prop} (ho:o.op=.next it false) (hx:j5 G S it=some (.one (.itr oI))) (hob:S.objs[oI]?=some (.liter b seen c)) (hl:Z4 b c S.objs=some (l,es))
 (h0:(∀ s∈l,s∈seen)->K ({ S with objs:=S.objs }.put o.dst (.tup [.one (.im (.raw (.bool false)))])))
 (h1:∀ (i s:Nat) (x:List Value×List DC),es[i]?=some x->l[i]?=some s->s∉seen->K ({ S with objs:=S.objs.set oI (DObj.liter b (seen++[s]) c) }.put o.dst (.tup [.one (.im (.raw (.bool true))),F3 (x.1.map an),F3 x.2]))):OpT P G o S K:=by
 intro ro a M hr;have hp:=i9 hr hx;have hMob:M.objs[oI]?=some (.liter b seen c):=by rw[hr.ob];exact hob
 obtain⟨oM,ks,hlo⟩:=eZ hl;have hMlo:M.objs[oM]?=some (.map (.st l c b :: ks) es):=by rw[hr.ob];exact hlo
 have g1:M.w.heap[M.β oI]?=some (.mapIter (some b) c seen.toArray c):=hr.m.objs oI _ hMob;obtain⟨ents,clock,b1,⟨b2,b3⟩,b4,b5,b6⟩:=hr.m.objs oM _ hMlo;simp only at b3;obtain⟨b7,b8,b9⟩:=b3;subst b8;subst b9;subst b7;generalize hv:a.eval it=v at hp;cases hp with
 | one _ _ hp=>cases hp with
   | itr _ _ k1 k2 k3 =>
     obtain rfl:=k3 _ hMob rfl;have hold:∀ x∈ents.toList,x.born<clock:=λx hx=>by
      obtain⟨i,hi⟩:=List.mem_iff_getElem?.1 hx;exact b2.1 i x (by simpa using hi)
     have hexec:∀ r,(Instr.next (.pointer (some ⟨M.β oI,0,none⟩)) false o.type).run P M.w=r->(execOp a.eval o).run P M.w=r.andThen λv w=>.ok (.value v) w:=λr hr'=>by
      simp only[execOp,ho,hv,Sem.run_bind,hr'];cases r<;>rfl
     rcases run_next_at (P:=P) M.w o.type (M.β oI) (M.β oM) clock clock seen.toArray ents clock g1 b1 hold (Nat.le_refl _) with⟨hz,hrun⟩|⟨e,he,w1,hw1,hrun⟩
     ·have hall:∀ s∈ents.toList.map (·.born),s∈seen:=λs hs=>by
       obtain⟨e,he,rfl⟩:=List.mem_map.1 hs;have hnil:X0 ents seen.toArray=[]:=by
        rw[<- U4];exact List.eq_nil_of_length_eq_zero (by simpa using hz)
       unfold X0 at hnil;rw[List.filter_eq_nil_iff] at hnil;have:=hnil e he;simpa using this
      have hp2:=hr.put (d:=.tup [.one (.im (.raw (.bool false)))]) (v:=.tuple #[.bool false]) hr.m (Ext.refl M) (.tup _ _ rfl (λj d v h2 h3=>by
       match j with
       | 0=>simp at h2 h3;subst h2;subst h3;exact .one _ _ (.im _ _ (.raw _ rfl))
       | j+1=>simp at h2)) o.dst
      refine H7 (v:=.tuple #[.bool false]) (w':=M.w) (by rw[hexec _ hrun];rfl) ⟨_,M,rfl,hp2,Ext.refl M,r5 _ _ _,?_⟩;rw[hr.ob];exact h0 hall
     ·rw[U4] at he;unfold X0 at he;obtain⟨hmem,hns⟩:=List.mem_filter.1 he;obtain⟨i,hi⟩:=List.mem_iff_getElem?.1 hmem;have hilt:i<es.length:=by rw[<- b5];simpa using e7 hi
      have hxi:es[i]?=some es[i]:=by simp[hilt]
      have hE:=b6 i _ e hxi (by simpa using hi);have hw1h:w1.heap=M.w.heap:=by rcases hw1 with rfl|rfl<;>rfl
      obtain⟨hmw,hew⟩:=RelM.same (w':=w1) hr.m hw1h (by rcases hw1 with rfl|rfl<;>exact⟨rfl,rfl,rfl,by first|exact Nat.le_refl _|exact Nat.le_succ _⟩);have hMob1:({ M with w:=w1 }:MS).objs[oI]?=some (.liter (M.β oM) seen clock):=hMob;have g1':w1.heap[M.β oI]?=some (.mapIter (some (M.β oM)) clock seen.toArray clock):=by rw[hw1h];exact g1
      have hpush:seen.toArray.push e.born=(seen++[e.born]).toArray:=by simp
      rw[hpush] at hrun;have het:Ext M.objs.length { M with w:=w1 } (MS.turn { M with w:=w1 } oI (.mapIter (some (M.β oM)) clock (seen++[e.born]).toArray clock) (.liter (M.β oM) (seen++[e.born]) clock)):=Ext.turn hMob1 rfl trivial g1' rfl;have hrel:=hmw.turn (x:=.mapIter (some (M.β oM)) clock (seen++[e.born]).toArray clock) (d':=.liter (M.β oM) (seen++[e.born]) clock) hMob1 rfl trivial g1' rfl (by
       show (MS.turn { M with w:=w1 } oI _ _).w.heap[(MS.turn { M with w:=w1 } oI _ _).β oI]?=_;simp only[MS.turn];rw[Array.getElem?_setIfInBounds_self_of_lt (by rw[hw1h];exact hr.m.lt oI _ hMob rfl)])
      have hkey:RepV (MS.turn { M with w:=w1 } oI (.mapIter (some (M.β oM)) clock (seen++[e.born]).toArray clock) (.liter (M.β oM) (seen++[e.born]) clock)) (F3 (es[i].1.map an)) e.key:=by
       rw[hE.1];exact aX (List.all_eq_true.2 hE.2.1)
      have hval:=hE.2.2.ext (hew.trans het);have hp2:=hr.put (d:=.tup [.one (.im (.raw (.bool true))),F3 (es[i].1.map an),F3 es[i].2]) (v:=.tuple #[.bool true,e.key,e.val]) hrel (hew.trans het) (.tup _ _ rfl (λj d v h2 h3=>by
       match j with
       | 0=>simp at h2 h3;subst h2;subst h3;exact .one _ _ (.im _ _ (.raw _ rfl))
       | 1=>simp at h2 h3;subst h2;subst h3;exact hkey
       | 2=>simp at h2 h3;subst h2;subst h3;exact hval
       | j+3=>simp at h2)) o.dst
      refine H7 (by rw[hexec _ hrun];rfl) ⟨_,MS.turn { M with w:=w1 } oI (.mapIter (some (M.β oM)) clock (seen++[e.born]).toArray clock) (.liter (M.β oM) (seen++[e.born]) clock),rfl,hp2,hew.trans het,r5 _ _ _,?_⟩;have:=h1 i e.born es[i] hxi (oY hi) (by simpa using hns);simp only[MS.turn,hr.ob];exact this
def nP (G:Hn) (S:DS) (it:Operand):Option (DV×List DObj):=
 match j5 G S it with
 | some (.one (.itr o))=>match S.objs[o]? with
   | some (.iter _ (some x))=>some (.tup [F3 (x.1.map an),F3 (x.2.map .im)],S.objs)
   | some (.liter b seen c)=>match seen.getLast?,Z4 b c S.objs with
     | some s,some (l,es)=>match l.idxOf? s with
       | some i=>(es[i]?).map λx=>(.tup [F3 (x.1.map an),F3 x.2],S.objs)
       | none=>none
     | _,_=>none
   | _=>none
 | _=>none
theorem ru {ents:Array MapEntry} {clock:Nat} (h:Stamps ents clock) {e:MapEntry} (he:e∈ents.toList):ents.find? (·.born==e.born)=some e:=by
 rw[<- Array.find?_toList];have hpw:=N5 h;generalize ents.toList=L at he hpw;induction L with
 | nil=>simp at he
 | cons y L ih =>
   simp only[List.pairwise_cons] at hpw;rcases List.mem_cons.1 he with rfl|he
   ·simp
   ·have:=hpw.1 e he;rw[List.find?_cons_of_neg (by simpa using this)];exact ih he hpw.2
theorem sf {o:Oper} {it:Operand} {oI b c i:Nat} {seen l:List Nat} {s:Nat} {es:List (List Value×List DC)} {x:List Value×List DC} (ho:o.op=.entry it) (hx:j5 G S it=some (.one (.itr oI))) (hob:S.objs[oI]?=some (.liter b seen c))
 (hl:Z4 b c S.objs=some (l,es)) (hs:seen.getLast?=some s) (hi:l.idxOf? s=some i) (hxi:es[i]?=some x):OpV P G o S (.tup [F3 (x.1.map an),F3 x.2]) S.objs:=by
 refine OpV.pure λa M hr=>?_;have hp:=i9 hr hx;have hMob:M.objs[oI]?=some (.liter b seen c):=by rw[hr.ob];exact hob
 obtain⟨oM,ks,hlo⟩:=eZ hl;have hMlo:M.objs[oM]?=some (.map (.st l c b :: ks) es):=by rw[hr.ob];exact hlo
 have g1:M.w.heap[M.β oI]?=some (.mapIter (some b) c seen.toArray c):=hr.m.objs oI _ hMob;obtain⟨ents,clock,b1,⟨b2,b3⟩,b4,b5,b6⟩:=hr.m.objs oM _ hMlo;simp only at b3;obtain⟨b7,b8,b9⟩:=b3;subst b8;subst b9;have hli:l[i]?=some s:=by
  rw[List.idxOf?,List.findIdx?_eq_some_iff_getElem] at hi;obtain⟨h1,h2,_⟩:=hi;rw[List.getElem?_eq_getElem h1];simpa using h2
 have hib:i<ents.size:=by have:=e7 hxi;omega
 have hei:ents[i]?=some ents[i]:=by simp[hib]
 have hE:=b6 i x _ hxi hei;have hbn:ents[i].born=s:=by
  rw[<- b7,List.getElem?_map,Array.getElem?_toList,hei] at hli;simpa using hli
 generalize hv:a.eval it=v at hp;cases hp with
 | one _ _ hp=>cases hp with
   | itr _ _ k1 k2 k3 =>
     obtain rfl:=k3 _ hMob rfl;have hfind:=ru b2 (e:=ents[i]) (by simp);rw[hbn] at hfind;have hback:seen.toArray.back?=some s:=by simpa using hs
     refine⟨.tuple #[ents[i].key,ents[i].val],?_,.tup _ _ rfl (λj d v h2 h3=>?_)⟩
     ·have r1:(getObj (M.β oI)).run P M.w=.ok (.mapIter (some (M.β oM)) clock seen.toArray clock) M.w:=by simp[getObj,Sem.run,g1]
      simp only[execOp,ho,hv,Instr.entry,Sem.run_bind,r1,Result.andThen_ok,hback,w8 b1,hfind];simp[w8 b1,hfind]
     ·match j with
      | 0=>simp at h2 h3;subst h2;subst h3;rw[hE.1];exact aX (List.all_eq_true.2 hE.2.1)
      | 1=>simp at h2 h3;subst h2;subst h3;exact hE.2.2
      | j+2=>simp at h2
theorem vA {o:Oper} {it:Operand} {d:DV} {objs':List DObj} (ho:o.op=.entry it) (h:nP G S it=some (d,objs')):OpV P G o S d objs':=by
 unfold nP at h;split at h
 ·rename_i oI hx;split at h
  ·rename_i left x hob;cases h;refine OpV.pure λa M hr=>?_;have hp:=i9 hr hx;have hMob:M.objs[oI]?=some (.iter left (some x)):=by rw[hr.ob];exact hob
   obtain⟨bm,seen,ents,clock,g1,g2,g3,g4,g5,g6,g7⟩:=hr.m.objs oI _ hMob;obtain⟨e,he,hb,hE⟩:=g7 x rfl;generalize hv:a.eval it=v at hp;cases hp with
   | one _ _ hp=>cases hp with
     | itr _ _ k1 k2 k3 =>
       obtain rfl:=k3 _ hMob rfl;have hfind:ents.find? (·.born==e.born)=some e:=by
        rw[<- Array.find?_toList];have hpw:=N5 g4;generalize ents.toList=L at he hpw;induction L with
        | nil=>simp at he
        | cons y L ih =>
          simp only[List.pairwise_cons] at hpw;rcases List.mem_cons.1 he with rfl|he
          ·simp
          ·have:=hpw.1 e he;rw[List.find?_cons_of_neg (by simpa using this)];exact ih he hpw.2
       refine⟨.tuple #[e.key,e.val],?_,.tup _ _ rfl (λj d v h2 h3=>?_)⟩
       ·have r1:(getObj (M.β oI)).run P M.w=.ok (.mapIter (some bm) clock seen clock) M.w:=by simp[getObj,Sem.run,g1]
        simp[execOp,ho,hv,Instr.entry,r1,hb,w8 g3,hfind]
       ·match j with
        | 0=>simp at h2 h3;subst h2;subst h3;rw[hE.1];exact aX (List.all_eq_true.2 hE.2.1)
        | 1=>simp at h2 h3;subst h2;subst h3;exact hE.2.2
        | j+2=>simp at h2
  ·rename_i b seen c hob;split at h
   ·rename_i s l es hs hl;split at h
    ·rename_i i hi;rw[Option.map_eq_some_iff] at h;obtain⟨x,hxi,h⟩:=h;cases h;exact sf ho hx hob hl hs hi hxi
    ·cases h
   ·cases h
  ·cases h
 ·cases h
def gD (c:DC):Option Nat:=match c with
 | .im (.mp _ es)=>some es.length
 | _=>none
theorem pT {o:Oper} {t k e:TypeId} {x:Operand} {c:DC} {n:Nat} (ho:o.op=.call { callee:=.builtin .len,args:=#[x],argTypes:=#[t] }) (ht:cD P t=some (k,e)) (hx:j5 G S x=some (.one c)) (hn:gD c=some n):OpV P G o S (.one (.im (.raw (.int .i64 (n:Int))))) S.objs:=by
 unfold gD at hn;split at hn
 ·cases hn;refine OpV.pure λa M hr=>?_;have hp:=i9 hr hx;generalize hv:a.eval x=mv at hp;cases hp with
  | one _ _ hp =>
    obtain⟨b,ents,clock,rfl,_,a1,_,_,a4,_⟩:=qT hp;refine⟨.int .i64 _,?_,.one _ _ (.im _ _ (.raw _ rfl))⟩;simp only[execOp,ho,resolve,invoke,builtin,Builtin.len_,List.map_toArray,List.map_cons,List.map_nil,hv,Sem.run_bind,Sem.run_pure,Result.andThen_ok];simp[e8 (G8 ht),w8 a1,a4,goInt]
 ·cases hn
def jK (P:Program) (G:Hn) (S:DS) (t:TypeId) (x i:Operand):Option (DV×List DObj):=
 match j5 G S x,C9 (j5 G S i),eqArrOk.tarr' P t with
 | some (.agg l),some (.int _ i),some (n,e)=>match aW P e,mb P e with
   | some sz,some g=>if 0<=i/\i<n/\i.toNat*sz+sz<=l.length then (eg g ((l.drop (i.toNat*sz)).take sz)).map (·,S.objs) else none
   | _,_=>none
 | _,_,_=>none
theorem sc {o:Oper} {t:TypeId} {x i:Operand} {d:DV} {objs':List DObj} (ho:o.op=.index t x i) (h:jK P G S t x i=some (d,objs')):OpV P G o S d objs':=by
 unfold jK at h;split at h
 ·rename_i l k i n e hx hi ht;split at h
  ·rename_i sz g hs hg;split at h
   ·rename_i hc;obtain⟨hc1,hc2,hc3⟩:=hc;simp only[Option.map_eq_some_iff,Prod.mk.injEq] at h;obtain⟨d',hd,rfl,rfl⟩:=h;have hu:P.underlying t=some (.array n e):=by
     unfold eqArrOk.tarr' at ht;split at ht
     ·rename_i hu;cases ht;exact hu
     ·cases ht
    refine OpV.pure λa M hr=>?_;have hp:=i9 hr hx;have hiv:=p8 hr hi;generalize hv:a.eval x=v at hp;cases hp with
    | agg _ cs h1 h2 =>
      cases g with
      | true =>
        simp only[eg,if_true,Option.some.injEq] at hd;subst hd;refine⟨.agg (cs.extract (i.toNat*sz) (i.toNat*sz+sz)),?_,.agg _ _ (by simp;omega) λj c v hj hv'=>?_⟩
        ·simp[execOp,ho,Instr.index,hv,hiv,asIntOf,e8 hu,hc1,hc2,o5 hs,part,B6 hg]
        ·rw[List.getElem?_take] at hj;split at hj
         ·rename_i hlt;rw[List.getElem?_drop] at hj;rw[Array.getElem?_extract] at hv';split at hv'
          ·exact h2 _ c v hj hv'
          ·cases hv'
         ·cases hj
      | false =>
        simp only[eg,Bool.false_eq_true,if_false] at hd;split at hd
        ·rename_i c hcl;cases hd;have hlt:i.toNat*sz<cs.size:=by
          have:=congrArg List.length hcl;simp at this;omega
         refine⟨cs[i.toNat*sz],?_,.one _ _ (h2 (i.toNat*sz) c _ ?_ (by simp[hlt]))⟩
         ·simp[execOp,ho,Instr.index,hv,hiv,asIntOf,e8 hu,hc1,hc2,o5 hs,part,B6 hg,hlt]
         ·have:=congrArg (λl=>l[0]?) hcl;simp only[List.getElem?_take,List.getElem?_drop] at this;split at this
          ·simpa using this
          ·simp at this
        ·cases hd
   ·cases h
  ·cases h
 ·cases h
end
section
variable {P:Program} {G:Hn} {n:Cx} {S:DS} {Q:Exit->DS->Prop}
theorem O5 {b:Frame} {a:Act} {k:List Item} {cs:List Frame} {w:World} {c:Code}:step P (lone (b.atR a (.code (.scope c) :: k)) cs w)=.next (lone (b.atR a (.code c :: .inScope c :: k)) cs w):=
 step_lone_go (by simp[stepG,stepG.exec,Frame.atR])
theorem lF {b:Frame} {a:Act} {k:List Item} {cs:List Frame} {w:World} {c:Code}:step P (lone (b.atR a (.inScope c :: k)) cs w)=.next (lone (b.atR a k) cs w):=
 step_lone_go (by simp[stepG,stepG.exec,Frame.atR])
theorem ee {F:Fence} {n:Nat} {Q:Exit->Act->World->Prop} {a:Act} {w:World} {c:Code} (h:c.wpIn F n P (Exit.noGoto Q) a w):(Code.scope c).wpIn F n P Q a w:=by
 intro b k cs hro hb hr;have h0:(lone (b.atR a (.code (.scope c) :: k)) cs w).fenced P F:=fenced_calm hb hr rfl;obtain⟨e,a₁,w₁,hq,harr⟩:=h b (.inScope c :: k) cs hro hb hr;cases e with
 | normal=>exact⟨.normal,a₁,w₁,hq,.head h0 O5 (StepsIn.trans harr (.one (fenced_calm hb hr rfl) lF))⟩
 | exit id =>
   have hx:exitTo id (.inScope c :: k)=exitTo id k:=by simp[exitTo]
   exact⟨.exit id,a₁,w₁,hq,λk' hk=>.head h0 O5 (harr.1 k' (by rw[hx];exact hk)),
    λhr' hk=>let ⟨k₁,h1,h2⟩:=harr.2 hr' (by rw[hx];exact hk);⟨k₁,h1,.head h0 O5 h2⟩⟩
 | goto l=>exact hq.elim
 | ret=>exact⟨_,a₁,w₁,hq,.of_steps (.one h0 O5) harr⟩
 | panic ch=>exact⟨_,a₁,w₁,hq,.of_steps (.one h0 O5) harr⟩
 | outgrown=>exact⟨_,a₁,w₁,hq,.of_steps (.one h0 O5) harr⟩
def cN (Q:Exit->DS->Prop):Exit->DS->Prop
 | .goto _,_=>False
 | e,S=>Q e S
theorem pX {c:Code} (h:DT P G n c S (cN Q)):DT P G n (.scope c) S Q:=by
 intro hn hd a M hr;refine ee (wpIn_mono (h hn hd a M hr) ?_);rintro e a' w' ⟨S',M',hw,hr',he,hm,q⟩;cases e with
 | goto l=>exact q.elim
 | _=>exact⟨S',M',hw,hr',he,hm,q⟩
theorem At.scope_end (h:At Q .normal ⟨⟩ S):At (cN Q) .normal ⟨⟩ S:=h
theorem At.scope_ret (h:At Q .ret ⟨⟩ S):At (cN Q) .ret ⟨⟩ S:=h
theorem At.scope_exit {id:Nat} (h:At Q (.exit id) ⟨⟩ S):At (cN Q) (.exit id) ⟨⟩ S:=h
end
def N7 (es:List (List DC)) (off len:Nat) (z:DC):List (List DC):=es.take off++(List.replicate len [z]++es.drop (off+len))
theorem ji {es:List (List DC)} {off len i:Nat} {z:DC} (h:off+len<=es.length):(N7 es off len z)[i]?=if off<=i/\i<off+len then some [z] else es[i]?:=by
 unfold N7;have hl:(es.take off).length=off:=by simp;omega
 by_cases h1:i<off
 ·rw[List.getElem?_append_left (by omega),List.getElem?_take_of_lt h1,if_neg (by omega)]
 ·rw[List.getElem?_append_right (by omega),hl];by_cases h2:i<off+len
  ·rw[List.getElem?_append_left (by simp;omega),if_pos ⟨by omega,h2⟩,List.getElem?_replicate,if_pos (by omega)]
  ·rw[List.getElem?_append_right (by simp;omega),if_neg (by omega),List.getElem?_drop]
   congr 1
   simp;omega
theorem pB {es:List (List DC)} {off len:Nat} {z:DC} (h:off+len<=es.length):(N7 es off len z).length=es.length:=by
 simp[N7];omega
def nQ (P:Program) (G:Hn) (S:DS) (t:TypeId) (x:Operand):Option (DV×List DObj):=
 match j5 G S x,(match P.underlying t with|some (.slice e)=>E5 P e|_=>none) with
 | some (.one (.vec o g off len)),some [z]=>match S.objs[o]? with
   | some (.vec sz es g' nl)=>if g=g'/\sz=1/\off+len<=es.length/\v7 z=true then some (.tup [],S.objs.set o (.vec sz (N7 es off len (an z)) g' nl)) else none
   | _=>none
 | _,_=>none
theorem lE (v:Value) (n:Nat):(Builtin.zeroCells #[v] n).toList=List.replicate n v:=by
 unfold Builtin.zeroCells;refine List.ext_getElem? λi=>?_;by_cases h:i<n
 ·simp only[List.size_toArray,List.length_cons,List.length_nil,Nat.mul_one,Nat.zero_add,Nat.mod_one];rw[Array.getElem?_toList,Array.getElem?_map,List.getElem?_replicate,if_pos h,Array.getElem?_range,if_pos h];rfl
 ·simp only[List.size_toArray,List.length_cons,List.length_nil,Nat.mul_one,Nat.zero_add,Nat.mod_one];rw[Array.getElem?_toList,Array.getElem?_map,List.getElem?_replicate,if_neg h,Array.getElem?_range,if_neg h];rfl
section
variable {P:Program} {G:Hn} {S:DS}
theorem vB {o:Oper} {t:TypeId} {x:Operand} {d:DV} {objs':List DObj} (ho:o.op=.call { callee:=.builtin .clear,args:=#[x],argTypes:=#[t] }) (h:nQ P G S t x=some (d,objs')):OpV P G o S d objs':=by
 unfold nQ at h;split at h
 ·rename_i ov g off len z hx hz;split at h
  ·rename_i sz es g' nl hob0;split at h
   ·rename_i hc;obtain⟨rfl,rfl,hle,hpl⟩:=hc;cases h;intro a M hr;have hp:=i9 hr hx;have hob:M.objs[ov]?=some (.vec 1 es g nl):=by rw[hr.ob];exact hob0
    obtain⟨e,ht,hz⟩:∃ e,P.underlying t=some (.slice e)/\E5 P e=some [z]:=by
     split at hz
     ·rename_i e he;exact⟨e,he,hz⟩
     ·cases hz
    obtain⟨zv,hzr,hzc⟩:=X7 (P:=P) (w:=M.w) hz;have hzc':zv.cells=#[z]:=Array.toList_inj.1 hzc;generalize hv:a.eval x=v at hp;cases hp with
    | one _ _ hp =>
    cases hp with
    | vec _ _ _ _ _ h1 h2 h3 =>
    obtain⟨_,h3⟩:=h3 _ _ _ _ hob;obtain⟨hn,hf⟩:=h3 rfl;have hsame:len=0->N7 es off len (an z)=es:=λe=>by subst e;simp[N7]
    have stay:len=0->(execOp a.eval o).run P M.w=.ok (.value (.tuple #[])) M.w->∃ v M',((execOp a.eval o).run P M.w=.ok (.value v) M'.w\/((execOp a.eval o).run P M.w=.ok .skip M'.w/\v=undef))/\RelM G M'/\M'.objs=S.objs.set ov (.vec 1 (N7 es off len (an z)) g nl)/\Ext M.objs.length M M'/\RepV M' (.tup []) v:=λe hrun=>by
     refine⟨_,M,.inl hrun,hr.m,?_,Ext.refl M,.tup _ _ rfl (λj d v h=>by simp at h)⟩;rw[hsame e,hr.ob];refine List.ext_getElem? λi=>?_;by_cases hi:ov=i
     ·subst hi;rw[hob0,List.getElem?_set_self (e7 hob0)]
     ·rw[List.getElem?_set_ne hi]
    cases nl with
    | true =>
      obtain⟨_,e,hv2⟩:=hn rfl;refine stay e ?_;subst hv2;simp only[execOp,ho,resolve,invoke,builtin,Builtin.clear_,List.map_toArray,List.map_cons,List.map_nil,hv,Sem.run_bind,Sem.run_pure,Result.andThen_ok];simp[e8 ht]
    | false =>
      obtain⟨xo,cap,hv2,hlc,hxo,hbs⟩:=hf rfl;by_cases e:len=0
      ·refine stay e ?_;subst hv2;subst e;simp only[execOp,ho,resolve,invoke,builtin,Builtin.clear_,List.map_toArray,List.map_cons,List.map_nil,hv,Sem.run_bind,Sem.run_pure,Result.andThen_ok];simp[e8 ht]
      ·have hxe:xo=off:=by rcases hxo with h|h<;>omega
       subst hxe;obtain⟨_,hO⟩:=hr.m.objs ov _ hob;obtain⟨_,c,T,hh,hcs,hes,hrep⟩:=hO rfl;have hcl:xo+len<=c.size:=by omega
       have hst:=U1 (P:=P) (b:=M.β ov) (T:=T) (List.replicate len z) M.w c xo 0 hh (by simpa using hcl) (λv hv=>by
        rw[List.eq_of_mem_replicate hv];exact(RepI.raw (w:=M.w) (ok:=M.ok) z hpl).isOne)
       have hlt:=hr.m.lt ov _ hob rfl;have he:=Ext.turn (M:=M) (x:=.cells (A5 c (xo+0) (List.replicate len z)) T (0,0)) (d':=.vec 1 (N7 es xo len (an z)) g false) hob rfl ⟨rfl,.inl ⟨rfl,rfl⟩⟩ hh (by simp[K7,s0]);refine⟨.tuple #[],M.turn ov (.cells (A5 c (xo+0) (List.replicate len z)) T (0,0)) (.vec 1 (N7 es xo len (an z)) g false),.inl ?_,?_,by simp[MS.turn,hr.ob],he,.tup _ _ rfl (λj d v h=>by simp at h)⟩
       ·subst hv2;simp only[execOp,ho,resolve,invoke,builtin,Builtin.clear_,List.map_toArray,List.map_cons,List.map_nil,hv,Sem.run_bind,Sem.run_pure,Result.andThen_ok];cases len with
        | zero=>exact absurd rfl e
        | succ len =>
          simp only[List.getElem?_toArray,List.getElem?_cons_zero,Sem.run_bind,e8 ht,Result.andThen_ok,hzr,hzc',lE,hst,Sem.run_pure];rfl
       ·refine hr.m.turn hob rfl ⟨rfl,.inl ⟨rfl,rfl⟩⟩ hh (by simp[K7,s0]) ⟨λh=>Bool.noConfusion h,λ_=>⟨by omega,A5 c (xo+0) (List.replicate len z),T,by simp[MS.turn,Array.getElem?_setIfInBounds_self_of_lt hlt],by rw[s0,pB hle];exact hcs,λi y hy=>?_,λi y j d v hy hj hv=>?_⟩⟩
        ·rw[ji hle] at hy;split at hy
         ·cases hy;rfl
         ·exact hes i y hy
        ·rw[ji hle] at hy;rw[V0 _ _ _ _ (by simpa using hcl),Nat.add_zero] at hv;simp only[List.length_replicate] at hv;split at hy
         ·rename_i hin;cases hy;match j,hj with
          | 0,hj =>
            cases hj;rw[if_pos (by omega)] at hv;have:v=z:=by
             rw[List.getElem?_replicate] at hv;split at hv
             ·exact(Option.some.inj hv).symm
             ·cases hv
            subst this;exact Y4 hpl
         ·rename_i hin;have hj0:j=0:=by have:=hes i y hy;have:=e7 hj;omega
          subst hj0;rw[if_neg (by omega)] at hv;exact(hrep i y 0 d v hy hj hv).ext he
   ·cases h
  ·cases h
 ·cases h
end
theorem K2:∀ (l r:List CK) (X:List Value),h9 (l++r) X=true->h9 l (X.take l.length)=true/\h9 r (X.drop l.length)=true
 | [],r,X,h=>⟨by simp[h9],by simpa using h⟩
 | c :: l,r,[],h=>by cases c<;>simp[h9] at h
 | c :: l,r,v :: X,h=>by
   cases c<;>cases v<;>simp[h9] at h ⊢
   ·exact⟨⟨h.1,(K2 l r X h.2).1⟩,(K2 l r X h.2).2⟩
   ·exact K2 l r X h
theorem dx:∀ (l:List CK) (X Y:List Value),h9 l (X.take l.length)=true->h9 l (Y.take l.length)=true->v6 X Y=(v6 (X.take l.length) (Y.take l.length)&&v6 (X.drop l.length) (Y.drop l.length))
 | [],X,Y,_,_=>by simp[v6]
 | c :: l,[],_,h,_=>by cases c<;>simp[h9] at h
 | c :: l,_ :: _,[],_,h=>by cases c<;>simp[h9] at h
 | c :: l,v :: X,u :: Y,h,k=>by
   cases c<;>cases v<;>simp[h9] at h<;>cases u<;>simp[h9] at k
   ·simp[v6,dx l X Y h.2 k.2,Bool.and_assoc]
   ·simp[v6,dx l X Y h k,Bool.and_assoc]
def rp (P:Program) (f:Field):Option (List CK):=
 match dS P f with
 | some k=>some [k]
 | none=>if f.name = "_" then none else match u6 P f.type,aW P f.type with
   | some ks,some n=>if n=ks.length then some ks else none
   | _,_=>none
def jF (P:Program):List Field->Nat->Option (List CK)
 | [],_=>some []
 | f :: r,i=>if f.offset=i then match rp P f with
  | some k=>(jF P r (i+k.length)).map (k ++ ·)
  | none=>none
   else none
def nH (P:Program) (t:TypeId):Option (List CK):=
 if P.stoodInHeld t=false/\P.eqGuardType P.depth t=false then match P.underlying t with
  | some (.struct fs)=>jF P fs.toList 0
  | _=>none
 else none
section
variable {P:Program} {G:Hn} {S:DS}
theorem eB {zs:Array Value} {i:Nat} {v:Value} {r:List Value} (h:zs.toList.drop i=v :: r):zs[i]?=some v/\zs.toList.drop (i+1)=r:=by
 have h1:zs.toList[i]?=some v:=by
  have:=congrArg (λl=>l[0]?) h;simpa using this
 refine⟨by simpa using h1,?_⟩;have:=congrArg (List.drop 1) h;rw[List.drop_drop] at this;simpa using this
theorem qw {w:World} (d:Nat) (xs ys:Array Value) {f:Field} {l:List CK} (h:rp P f=some l) (hx:h9 l ((xs.toList.drop f.offset).take l.length)=true) (hy:h9 l ((ys.toList.drop f.offset).take l.length)=true) :
 f.name ≠ "_" /\ ∃ a b,(part f.type xs f.offset).run P w=.ok a w/\(part f.type ys f.offset).run P w=.ok b w/\(Op.equalIn (d+1+1) f.type a b).run P w=.ok (v6 ((xs.toList.drop f.offset).take l.length) ((ys.toList.drop f.offset).take l.length)) w:=by
 unfold rp at h;split at h
 ·rename_i k hk;cases h;unfold dS at hk;split at hk
  ·cases hk
  ·rename_i hname;refine⟨hname,?_⟩;have get:∀ (zs:Array Value),h9 [k] ((zs.toList.drop f.offset).take 1)=true->∃ v,zs[f.offset]?=some v/\(zs.toList.drop f.offset).take 1=[v]:=λzs hz=>by
    cases hh:zs.toList.drop f.offset with
    | nil=>rw[hh] at hz;cases k<;>simp[h9] at hz
    | cons v r=>exact⟨v,(eB hh).1,by simp⟩
   obtain⟨vx,hvx,ex⟩:=get xs hx;obtain⟨vy,hvy,ey⟩:=get ys hy;simp only[List.length_cons,List.length_nil,Nat.zero_add] at hx hy ⊢;rw[ex] at hx ⊢;rw[ey] at hy ⊢;have hagg:(isAgg f.type).run P w=.ok false w:=by
    split at hk
    ·rename_i hu;exact B6 (by simp[mb,hu])
    ·rename_i hu;exact B6 (by simp[mb,hu])
    ·cases hk
   have hpart:∀ (zs:Array Value) v,zs[f.offset]?=some v->(part f.type zs f.offset).run P w=.ok v w:=λzs v hz=>by
    simp[part,hagg,hz]
   refine⟨vx,vy,hpart xs vx hvx,hpart ys vy hvy,?_⟩;split at hk
   ·rename_i kk hu;cases hk;obtain⟨a,rfl⟩:∃ n,vx=.int kk n:=by
     cases vx<;>simp[h9] at hx;exact⟨_,by rw[hx]⟩
    obtain⟨b,rfl⟩:∃ n,vy=.int kk n:=by
     cases vy<;>simp[h9] at hy;exact⟨_,by rw[hy]⟩
    simp only[Op.equalIn,Sem.run_bind,e8 hu,Result.andThen_ok,if_true,v6,Bool.and_true];rfl
   ·rename_i hu;cases hk;obtain⟨a,rfl⟩:∃ n,vx=.bool n:=by
     cases vx<;>simp[h9] at hx;exact⟨_,rfl⟩
    obtain⟨b,rfl⟩:∃ n,vy=.bool n:=by
     cases vy<;>simp[h9] at hy;exact⟨_,rfl⟩
    simp only[Op.equalIn,Sem.run_bind,e8 hu,Result.andThen_ok,v6,Bool.and_true];rfl
   ·cases hk
 ·split at h
  ·cases h
  ·rename_i hname;refine⟨hname,?_⟩;split at h
   ·rename_i ks n hks hn;split at h
    ·rename_i hlen;cases h;have hks':=hks;unfold u6 at hks';split at hks'
     ·rename_i hc;split at hks'
      ·rename_i fs hu;have hagg:(isAgg f.type).run P w=.ok true w:=B6 (by simp[mb,hu]);have hpart:∀ (zs:Array Value),(part f.type zs f.offset).run P w=.ok (.agg (zs.extract f.offset (f.offset+n))) w:=λzs=>by
        simp only[part,Sem.run_bind,hagg,Result.andThen_ok,if_true,o5 hn];rfl
       refine⟨_,_,hpart xs,hpart ys,?_⟩;have hf:P.fieldsOf f.type=fs:=by simp[Program.fieldsOf,hu]
       have hex:∀ (zs:Array Value),(zs.extract f.offset (f.offset+n)).toList=(zs.toList.drop f.offset).take l.length:=λzs=>by
        rw[Array.toList_extract,List.extract_eq_take_drop,Nat.add_sub_cancel_left,hlen]
       rw[run_equalIn_struct w (d+1) f.type _ _ (by rw[hf];exact hu) hc.1,hf];have:=X6 (P:=P) (w:=w) d (xs.extract f.offset (f.offset+n)) (ys.extract f.offset (f.offset+n)) fs.toList 0 l hks' (by rw[hex];simpa using hx) (by rw[hex];simpa using hy);rw[hex,hex] at this;simpa using this
      ·cases hks'
     ·cases hks'
    ·cases h
   ·cases h
theorem eu {w:World} (d:Nat) (xs ys:Array Value):∀ (fs:List Field) (i:Nat) (ks:List CK),jF P fs i=some ks->h9 ks (xs.toList.drop i)=true->h9 ks (ys.toList.drop i)=true ->
 (Op.eqFields (d+1+1) xs ys fs).run P w=.ok (v6 (xs.toList.drop i) (ys.toList.drop i)) w
 | [],i,ks,h,hx,hy=>by
   cases h;have e1:xs.toList.drop i=[]:=by
    cases hh:xs.toList.drop i with
    | nil=>rfl
    | cons a l=>rw[hh] at hx;cases a<;>simp[h9] at hx
   have e2:ys.toList.drop i=[]:=by
    cases hh:ys.toList.drop i with
    | nil=>rfl
    | cons a l=>rw[hh] at hy;cases a<;>simp[h9] at hy
   rw[e1,e2];rfl
 | f :: fs,i,ks,h,hx,hy=>by
   simp only[jF] at h;split at h
   ·rename_i hoff;split at h
    ·rename_i l hl;rw[Option.map_eq_some_iff] at h;obtain⟨r,hr,rfl⟩:=h;obtain⟨sx1,sx2⟩:=K2 l r _ hx;obtain⟨sy1,sy2⟩:=K2 l r _ hy;subst hoff;obtain⟨hname,a,b,ha,hb,hab⟩:=qw (P:=P) (w:=w) d xs ys hl sx1 sy1;rw[dx l _ _ sx1 sy1];rw[List.drop_drop] at sx2 sy2;simp only[Op.eqFields];rw[if_pos hname];simp only[Sem.run_bind,ha,hb,hab,Result.andThen_ok];rw[List.drop_drop,List.drop_drop];generalize v6 ((xs.toList.drop f.offset).take l.length) ((ys.toList.drop f.offset).take l.length)=q;cases q
     ·simp
     ·simp only[Bool.not_true,Bool.false_eq_true,if_false,Bool.true_and];exact eu d xs ys fs _ r hr sx2 sy2
    ·cases h
   ·cases h
theorem ka {t:TypeId} {ks:List CK} (h:nH P t=some ks) {xs ys:Array Value} (hx:h9 ks xs.toList=true) (hy:h9 ks ys.toList=true) (w:World) :
 (Op.equal t (.agg xs) (.agg ys)).run P w=.ok (v6 xs.toList ys.toList) w:=by
 unfold nH at h;split at h
 ·rename_i hc;split at h
  ·rename_i fs hu;have hf:P.fieldsOf t=fs:=by simp[Program.fieldsOf,hu]
   have key:∀ d,(Op.equalIn (d+1+1+1) t (.agg xs) (.agg ys)).run P w=.ok (v6 xs.toList ys.toList) w:=λd=>by
    rw[run_equalIn_struct w (d+1+1) t xs ys (by rw[hf];exact hu) hc.1,hf];have:=eu (P:=P) (w:=w) d xs ys fs.toList 0 ks h (by simpa using hx) (by simpa using hy);simpa using this
   exact key 9997
  ·cases h
 ·cases h
theorem qx {w:World} (d:Nat) {e:TypeId} (he:P.underlying e=some .bool) (xs ys:Array Value) :
 ∀ (m i:Nat),h9 (List.replicate m .bool) ((xs.toList.drop i).take m)=true->h9 (List.replicate m .bool) ((ys.toList.drop i).take m)=true ->
 (forIn (m:=Sem) (List.range' i m 1) ((none,()):Option Bool×PUnit) λi _=>do
  if !(<- Op.equalIn (d+1) e (<- part e xs (i*1)) (<- part e ys (i*1))) then pure (ForInStep.done (some false,())) else pure (ForInStep.yield (none,()))).run P w
  = .ok (if v6 ((xs.toList.drop i).take m) ((ys.toList.drop i).take m) then (none,()) else (some false,())) w:=by
 intro m;induction m with
 | zero=>intro i _ _;simp[v6]
 | succ m ih =>
   intro i hx hy;have get:∀ (zs:Array Value),h9 (List.replicate (m+1) .bool) ((zs.toList.drop i).take (m+1))=true->∃ a,zs[i]?=some (.bool a)/\(zs.toList.drop i).take (m+1)=.bool a :: (zs.toList.drop (i+1)).take m/\h9 (List.replicate m .bool) ((zs.toList.drop (i+1)).take m)=true:=λzs hz=>by
    cases hh:zs.toList.drop i with
    | nil=>rw[hh] at hz;simp[List.replicate_succ,h9] at hz
    | cons v r =>
      obtain⟨h1,h2⟩:=eB hh;rw[hh,List.replicate_succ,List.take_succ_cons] at hz;cases v<;>simp[h9] at hz;exact⟨_,h1,by rw[h2];rfl,by rw[h2];exact hz⟩
   obtain⟨a,ha,ea,sa⟩:=get xs hx;obtain⟨b,hb,eb,sb⟩:=get ys hy;have hagg:(isAgg e).run P w=.ok false w:=B6 (by simp[mb,he]);have hpart:∀ (zs:Array Value) v,zs[i]?=some v->(part e zs (i*1)).run P w=.ok v w:=λzs v hz=>by
    simp[part,hagg,hz]
   have h1:(Op.equalIn (d+1) e (.bool a) (.bool b)).run P w=.ok (a==b) w:=by
    simp only[Op.equalIn,Sem.run_bind,e8 he,Result.andThen_ok];rfl
   rw[List.range'_succ,List.forIn_cons];simp only[Sem.run_bind,hpart xs _ ha,hpart ys _ hb,Result.andThen_ok,h1,ea,eb,v6];cases hab:(a==b)
   ·simp
   ·have:=ih (i+1) sa sb;simp only[Bool.not_true,Bool.false_eq_true,if_false,Bool.true_and];simpa using this
theorem kb {w:World} {t e:TypeId} {n:Nat} (ht:P.underlying t=some (.array n e)) (he:P.underlying e=some .bool) (hs:aW P e=some 1) {xs ys:Array Value}
 (hx:h9 (List.replicate n .bool) xs.toList=true) (hy:h9 (List.replicate n .bool) ys.toList=true):(Op.equal t (.agg xs) (.agg ys)).run P w=.ok (v6 xs.toList ys.toList) w:=by
 have lx:=E2 hx;have ly:=E2 hy;simp only[List.length_replicate] at lx ly;have tk:∀ (zs:Array Value),zs.toList.length=n->(zs.toList.drop 0).take n=zs.toList:=λzs hz=>by rw[List.drop_zero,<- hz,List.take_length]
 have key:∀ d,(Op.equalIn (d+1+1) t (.agg xs) (.agg ys)).run P w=.ok (v6 xs.toList ys.toList) w:=λd=>by
  have key:=qx (P:=P) (w:=w) d he xs ys n 0 (by rw[tk xs lx];exact hx) (by rw[tk ys ly];exact hy);rw[tk xs lx,tk ys ly] at key;rw[Op.equalIn];simp only[Sem.run_bind,e8 ht,Result.andThen_ok,o5 hs];rw[Std.Legacy.Range.forIn_eq_forIn_range'];have e0:List.range' [:n].start [:n].size [:n].step=List.range' 0 n 1:=by simp[Std.Legacy.Range.size]
  rw[e0,key];cases v6 xs.toList ys.toList<;>rfl
 exact key 9998
def xV (P:Program) (t:TypeId):Option (List CK):=match P.underlying t with
 | some (.array n e)=>match P.underlying e with
   | some .bool=>if aW P e=some 1/\P.eqGuardType P.depth t=false then some (List.replicate n .bool) else none
   | _=>none
 | _=>none
def dh (P:Program) (t:TypeId):Option (List CK):=match eqArrOk P t with
 | some ks=>some ks
 | none=>match nH P t with
   | some ks=>some ks
   | none=>xV P t
theorem mX {o:Oper} {op:BinOp} {t u:TypeId} {x y:Operand} {lx ly:List DC} {vx vy:List Value} (ho:o.op=.binOp op t x y u) (hop:op=.eql\/op=.neq) (hg:P.eqGuardType P.depth t=false)
 (hrun:∀ (xs ys:Array Value) (w:World),xs.toList=vx->ys.toList=vy->(Op.equal t (.agg xs) (.agg ys)).run P w=.ok (v6 vx vy) w)
 (hx:j5 G S x=some (.agg lx)) (hy:j5 G S y=some (.agg ly)) (rx:cR lx=some vx) (ry:cR ly=some vy) :
 OpV P G o S (.one (.im (.raw (.bool (if op=.eql then v6 vx vy else !v6 vx vy))))) S.objs:=by
 refine .pure λa M hr=>⟨_,?_,.mkraw rfl⟩
 have e1:=i9 hr hx;have e2:=i9 hr hy;generalize hvx:a.eval x=v at e1;generalize hvy:a.eval y=v' at e2;cases e1 with
 | agg _ cx h1 h2 =>
   cases e2 with
   | agg _ cy h3 h4 =>
     have f1:=K4 lx vx cx.toList rx (by simpa using h1) (λj c v hc hv=>h2 j c v hc (by simpa using hv));have f2:=K4 ly vy cy.toList ry (by simpa using h3) (λj c v hc hv=>h4 j c v hc (by simpa using hv));have heq:=hrun cx cy M.w f1 f2;have hguard:(eqGuard op t x y (.agg cx) (.agg cy)).run P M.w=.ok () M.w:=by
      rcases hop with rfl|rfl<;>simp[eqGuard,hg]
     simp only[execOp,ho,hvx,hvy,Sem.run_bind,hguard,Result.andThen_ok];rcases hop with rfl|rfl
     ·have h5:binOp .eql t (.agg cx) (.agg cy)=(do pure (.bool (<- Op.equal t (.agg cx) (.agg cy)))):=rfl;simp only[h5,Sem.run_bind,heq,Result.andThen_ok];rfl
     ·have h5:binOp .neq t (.agg cx) (.agg cy)=(do pure (.bool (!(<- Op.equal t (.agg cx) (.agg cy))))):=rfl;simp only[h5,Sem.run_bind,heq,Result.andThen_ok];rfl
theorem sd {o:Oper} {op:BinOp} {t u:TypeId} {x y:Operand} {lx ly:List DC} {vx vy:List Value} {ks:List CK} (ho:o.op=.binOp op t x y u) (hop:op=.eql\/op=.neq) (ht:dh P t=some ks)
 (hx:j5 G S x=some (.agg lx)) (hy:j5 G S y=some (.agg ly)) (rx:cR lx=some vx) (ry:cR ly=some vy) (sx:h9 ks vx=true) (sy:h9 ks vy=true) :
 OpV P G o S (.one (.im (.raw (.bool (if op=.eql then v6 vx vy else !v6 vx vy))))) S.objs:=by
 unfold dh at ht;split at ht
 ·rename_i ks' he;cases ht;exact vz ho hop he hx hy rx ry sx sy
 ·split at ht
  ·rename_i ks' he;cases ht;refine mX ho hop ?_ (λxs ys w h1 h2=>?_) hx hy rx ry
   ·unfold nH at he;split at he
    ·rename_i hc;exact hc.2
    ·cases he
   ·have:=ka he (xs:=xs) (ys:=ys) (by rw[h1];exact sx) (by rw[h2];exact sy) w;rw[h1,h2] at this;exact this
  ·unfold xV at ht;split at ht
   ·rename_i n e hu;split at ht
    ·rename_i he;split at ht
     ·rename_i hc;cases ht;refine mX ho hop hc.2 (λxs ys w h1 h2=>?_) hx hy rx ry;have:=kb (P:=P) (w:=w) hu he hc.1 (xs:=xs) (ys:=ys) (by rw[h1];exact sx) (by rw[h2];exact sy);rw[h1,h2] at this;exact this
     ·cases ht
    ·cases ht
   ·cases ht
end
end Go.Ab
