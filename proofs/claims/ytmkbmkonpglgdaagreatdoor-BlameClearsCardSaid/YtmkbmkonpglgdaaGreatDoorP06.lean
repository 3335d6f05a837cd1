/- Part 6 of the proofs: laws and walks that hold without conditions beyond those that each theorem names. -/
import Derived.Test.YtmkbmkonpglgdaaGreatDoorP05
set_option linter.all false
set_option linter.deprecated false
namespace Go.Ab
open Go
def mfind (k:List Value):List (List Value×List DC)→Option (List DC)
 | []=>none
 | x :: r=>if beqs k x.1=true then some x.2 else mfind k r
def mget (k:List Value) (es:List (List Value×List DC)) (z:List DC):List DC:=(mfind k es).getD z
def mhas (k:List Value) (es:List (List Value×List DC)):Bool:=(mfind k es).isSome
def mset (k:List Value) (v:List DC):List (List Value×List DC)→List (List Value×List DC)
 | []=>[(k,v)]
 | x :: r=>if beqs k x.1=true then (k,v) :: r else x :: mset k v r
def mdel (k:List Value):List (List Value×List DC)→List (List Value×List DC)
 | []=>[]
 | x :: r=>if beqs k x.1=true then r else x :: mdel k r
def midx (k:List Value):List (List Value×List DC)→Option Nat
 | []=>none
 | x :: r=>if beqs k x.1=true then some 0 else (midx k r).map (· + 1)
def keyOfV:DV→Option (List Value)
 | .one (.im (.raw v))=>some [v]
 | .agg l=>if l.length=1 then none else raws l
 | _=>none
def valOfV:DV→Option (List DC)
 | .one c=>some [c]
 | .agg l=>if l.length=1 then none else some l
 | _=>none
def tmap (P:Program) (t:TypeId):Option (TypeId×TypeId):=match P.underlying t with
 | some (.map k e)=>some (k,e)
 | _=>none
def tzk (P:Program) (t:TypeId):Option (List Value):=match (P.info? t).bind (·.zero) with
 | some (.agg cs)=>if cs.size=1 then none else some cs.toList
 | some v=>some [v]
 | none=>none
section
variable {P:Program} {w:World} {G:Nat→Option (List IC)} {S:DS}
theorem tmap_spec {t k e:TypeId} (h:tmap P t=some (k,e)):P.underlying t=some (.map k e):=by
 unfold tmap at h
 split at h
 ·rename_i hu;cases h;exact hu
 ·cases h
theorem run_tzk {t:TypeId} {z:List Value} (h:tzk P t=some z):(zeroValue t).run P w=.ok (keyV z) w:=by
 unfold tzk at h
 cases hi:P.info? t with
 | none=>simp [hi] at h
 | some i =>
   cases hz:i.zero with
   | none=>simp [hi,hz] at h
   | some v =>
     have hrun:(zeroValue t).run P w=.ok v w:=by
      unfold zeroValue
      simp [typeInfo,hi,hz]
     simp only [hi,Option.bind_some,hz] at h
     rw [hrun]
     split at h
     ·rename_i cs hv
      split at h
      ·cases h
      ·rename_i hne
       cases h;cases hv
       rw [keyV_agg (by simpa using hne)]
     ·rename_i hv;cases h;cases hv;rfl
     ·rename_i hv;cases hv
theorem keyOfV_sound {a:Act} {M:MS} (hr:Rel G S a M) {x:Operand} {d:DV} {k:List Value} (hx:evalG G S x=some d) (hk:keyOfV d=some k):a.eval x=keyV k:=by
 have hp:=evalG_sound hr hx
 generalize a.eval x=v at hp
 unfold keyOfV at hk
 split at hk
 ·cases hk;exact hp.raw
 ·split at hk
  ·cases hk
  ·rename_i l hne
   cases hp with
   | agg _ cs h1 h2 =>
     have:=raws_sound l k cs.toList hk (by simpa using h1) (fun j c v h3 h4=>h2 j c v h3 (by simpa using h4))
     rw [← this,keyV_agg (by simpa [← h1] using hne)]
 ·cases hk
theorem valOfV_sound {M:MS} {d:DV} {l:List DC} {v:Value} (hp:RepV M d v) (hl:valOfV d=some l):RepV M (valV l) v:=by
 unfold valOfV at hl
 split at hl
 ·cases hl;exact hp
 ·split at hl
  ·cases hl
  ·rename_i hne
   cases hl
   have:valV l=.agg l:=by
    match l,hne with
    | [],_=>rfl
    | [v],h=>simp at h
    | _ :: _ :: _,_=>rfl
   rw [this];exact hp
 ·cases hl
def fres (k:List Value):List (List Value×List DC)→List MapEntry→Nat→Option (Nat×Value)
 | x :: r,e :: l,i=>if beqs k x.1=true then some (i,e.val) else fres k r l (i + 1)
 | _,_,_=>none
def Keys (es:List (List Value×List DC)) (l:List MapEntry):Prop:=l.map (·.key)=es.map (fun x=>keyV x.1)
theorem run_asking {kt:TypeId} {ks:List CK} (h:keyShape P kt=some ks) {k:List Value} (hk:shapeOk ks k=true):∀ (es:List (List Value×List DC)) (l:List MapEntry) (i:Nat),Keys es l→(∀ x∈es,shapeOk ks x.1=true) →
 (Instr.findAsking kt (keyV k) l i).run P w=.ok (fres k es l i) w
 | [],[],i,_,_=>by simp [Instr.findAsking,fres]
 | [],e :: l,i,hk',_=>by simp [Keys] at hk'
 | x :: es,[],i,hk',_=>by simp [Keys] at hk'
 | x :: es,e :: l,i,hk',hs=>by
   simp only [Keys,List.map_cons,List.cons.injEq] at hk'
   have ih:=run_asking h hk es l (i + 1) hk'.2 (fun y hy=>hs y (by simp [hy]))
   simp only [Instr.findAsking,Sem.run_bind,hk'.1,run_equal_key h hk (hs x (by simp)),Result.andThen_ok,fres]
   cases hb:beqs k x.1
   ·simpa using ih
   ·simp
theorem findNow_int {q:IntKind} {n:Int}:∀ (es:List (List Value×List DC)) (l:List MapEntry) (i:Nat),Keys es l→(∀ x∈es,shapeOk [.int q] x.1=true) →
 Instr.findNow (.int q) (.int q n) l i=some (fres [.int q n] es l i)
 | [],[],i,_,_=>rfl
 | [],e :: l,i,hk',_=>by simp [Keys] at hk'
 | x :: es,[],i,hk',_=>by simp [Keys] at hk'
 | x :: es,e :: l,i,hk',hs=>by
   simp only [Keys,List.map_cons,List.cons.injEq] at hk'
   have ih:=findNow_int (q:=q) (n:=n) es l (i + 1) hk'.2 (fun y hy=>hs y (by simp [hy]))
   have h1:=hs x (by simp)
   have h2:=shape_len h1
   obtain ⟨x1,x2⟩:=x
   match x1,h2 with
   | [v],_ =>
     cases v<;>simp [shapeOk] at h1
     subst h1
     simp only [Instr.findNow,hk'.1,keyV,Instr.sameNow,if_true,fres,beqs,Bool.and_true]
     split
     ·rename_i hb;simp at hb;simp [hb]
     ·rename_i hb;simp at hb;simpa [hb] using ih
     ·rename_i hb;cases hb
theorem findNow_bool {n:Bool}:∀ (es:List (List Value×List DC)) (l:List MapEntry) (i:Nat),Keys es l→(∀ x∈es,shapeOk [.bool] x.1=true) →
 Instr.findNow .bool (.bool n) l i=some (fres [.bool n] es l i)
 | [],[],i,_,_=>rfl
 | [],e :: l,i,hk',_=>by simp [Keys] at hk'
 | x :: es,[],i,hk',_=>by simp [Keys] at hk'
 | x :: es,e :: l,i,hk',hs=>by
   simp only [Keys,List.map_cons,List.cons.injEq] at hk'
   have ih:=findNow_bool (n:=n) es l (i + 1) hk'.2 (fun y hy=>hs y (by simp [hy]))
   have h1:=hs x (by simp)
   have h2:=shape_len h1
   obtain ⟨x1,x2⟩:=x
   match x1,h2 with
   | [v],_ =>
     cases v<;>simp [shapeOk] at h1
     simp only [Instr.findNow,hk'.1,keyV,Instr.sameNow,fres,beqs,Bool.and_true]
     split
     ·rename_i hb;simp at hb;simp [hb]
     ·rename_i hb;simp at hb;simpa [hb] using ih
     ·rename_i hb;cases hb
theorem run_find {kt:TypeId} {ks:List CK} (h:keyShape P kt=some ks) {k:List Value} (hk:shapeOk ks k=true) {es:List (List Value×List DC)} {l:List MapEntry} (hl:Keys es l) (hs:∀ x∈es,shapeOk ks x.1=true) :
 (Instr.findKey kt (keyV k) l).run P w=.ok (fres k es l 0) w:=by
 have hask:=run_asking (w:=w) h hk es l 0 hl hs
 have h0:=h
 unfold keyShape at h
 split at h
 ·rename_i q hu
  cases h
  have h2:=shape_len hk
  match k,h2 with
  | [v],_ =>
    cases v<;>simp [shapeOk] at hk
    subst hk
    simp only [keyV,Instr.findKey,Sem.run_bind,runUnderlying hu,Result.andThen_ok,findNow_int es l 0 hl hs,Sem.run_pure]
 ·rename_i hu
  cases h
  have h2:=shape_len hk
  match k,h2 with
  | [v],_ =>
    cases v<;>simp [shapeOk] at hk
    simp only [keyV,Instr.findKey,Sem.run_bind,runUnderlying hu,Result.andThen_ok,findNow_bool es l 0 hl hs,Sem.run_pure]
 ·rename_i fs hu
  have hag:keyV k=.agg k.toArray:=by
   split at h
   ·split at h
    ·cases h
    ·rename_i hne;cases h;exact keyV_agg (by rw [shape_len hk];exact hne)
   ·cases h
  cases l with
  | nil =>
    cases es with
    | cons=>simp [Keys] at hl
    | nil=>simp [Instr.findKey,runUnderlying hu,Instr.findNow,fres]
  | cons e l =>
    have hn:Instr.findNow (.struct fs) (keyV k) (e :: l) 0=none:=by
     rw [hag];simp [Instr.findNow,Instr.sameNow]
    simp only [Instr.findKey,Sem.run_bind,runUnderlying hu,Result.andThen_ok,hn]
    exact hask
 ·rename_i n e hu
  have hag:keyV k=.agg k.toArray:=by
   split at h
   ·split at h
    ·rename_i hc;cases h;exact keyV_agg (by rw [shape_len hk];simpa using hc.2)
    ·cases h
   ·cases h
  cases l with
  | nil =>
    cases es with
    | cons=>simp [Keys] at hl
    | nil=>simp [Instr.findKey,runUnderlying hu,Instr.findNow,fres]
  | cons e' l =>
    have hn:Instr.findNow (.array n e) (keyV k) (e' :: l) 0=none:=by
     rw [hag];simp [Instr.findNow,Instr.sameNow]
    simp only [Instr.findKey,Sem.run_bind,runUnderlying hu,Result.andThen_ok,hn]
    exact hask
 ·cases h
theorem fres_none {k:List Value}:∀ {es:List (List Value×List DC)} {l:List MapEntry} {i:Nat},Keys es l→fres k es l i=none→mfind k es=none∧midx k es=none
 | [],_,_,_,_=>⟨rfl,rfl⟩
 | x :: es,[],i,h,_=>by simp [Keys] at h
 | x :: es,e :: l,i,h,hf=>by
   simp only [Keys,List.map_cons,List.cons.injEq] at h
   simp only [fres] at hf
   split at hf
   ·cases hf
   ·rename_i hb
    obtain ⟨h1,h2⟩:=fres_none h.2 hf
    simp [mfind,midx,hb,h1,h2]
theorem fres_some {k:List Value}:∀ {es:List (List Value×List DC)} {l:List MapEntry} {i j:Nat} {v:Value},Keys es l→fres k es l i=some (j,v) →
 ∃ (p:Nat) (x:List Value×List DC) (e:MapEntry),j=i + p∧es[p]?=some x∧l[p]?=some e∧v=e.val∧mfind k es=some x.2∧midx k es=some p
 | [],_,_,_,_,_,h=>by simp [fres] at h
 | x :: es,[],i,_,_,h,_=>by simp [Keys] at h
 | x :: es,e :: l,i,j,v,h,hf=>by
   simp only [Keys,List.map_cons,List.cons.injEq] at h
   simp only [fres] at hf
   split at hf
   ·rename_i hb
    cases hf
    exact ⟨0,x,e,rfl,rfl,rfl,rfl,by simp [mfind,hb],by simp [midx,hb]⟩
   ·rename_i hb
    obtain ⟨p,y,e',rfl,h1,h2,h3,h4,h5⟩:=fres_some h.2 hf
    exact ⟨p + 1,y,e',by omega,by simpa using h1,by simpa using h2,h3,by simp [mfind,hb,h4],by simp [midx,hb,h5]⟩
theorem mset_none {k:List Value} {v:List DC}:∀ {es:List (List Value×List DC)},midx k es=none→mset k v es=es ++ [(k,v)]
 | [],_=>rfl
 | x :: es,h=>by
   simp only [midx] at h
   split at h
   ·cases h
   ·rename_i hb
    simp only [Option.map_eq_none_iff] at h
    simp [mset,hb,mset_none h]
theorem mset_some {k:List Value} {v:List DC}:∀ {es:List (List Value×List DC)} {p:Nat},midx k es=some p→mset k v es=es.set p (k,v)
 | [],_,h=>by simp [midx] at h
 | x :: es,p,h=>by
   simp only [midx] at h
   split at h
   ·rename_i hb;cases h;simp [mset,hb]
   ·rename_i hb
    simp only [Option.map_eq_some_iff] at h
    obtain ⟨q,hq,rfl⟩:=h
    simp [mset,hb,mset_some hq]
theorem mdel_none {k:List Value}:∀ {es:List (List Value×List DC)},midx k es=none→mdel k es=es
 | [],_=>rfl
 | x :: es,h=>by
   simp only [midx] at h
   split at h
   ·cases h
   ·rename_i hb
    simp only [Option.map_eq_none_iff] at h
    simp [mdel,hb,mdel_none h]
theorem mdel_some {k:List Value}:∀ {es:List (List Value×List DC)} {p:Nat},midx k es=some p→mdel k es=es.eraseIdx p
 | [],_,h=>by simp [midx] at h
 | x :: es,p,h=>by
   simp only [midx] at h
   split at h
   ·rename_i hb;cases h;simp [mdel,hb]
   ·rename_i hb
    simp only [Option.map_eq_some_iff] at h
    obtain ⟨q,hq,rfl⟩:=h
    simp [mdel,hb,mdel_some hq]
theorem keys_of {M:MS} {es:List (List Value×List DC)} {ents:Array MapEntry} (hsz:ents.size=es.length) (h:∀ (i:Nat) (x:List Value×List DC) (e:MapEntry),es[i]?=some x→ents[i]?=some e→RepE M x e):Keys es ents.toList:=by
 refine List.ext_getElem? fun i=>?_
 rw [List.getElem?_map,List.getElem?_map]
 by_cases hi:i < es.length
 ·have h1:es[i]?=some es[i]:=by simp [hi]
  have h2:ents[i]?=some ents[i]:=by simp [hsz,hi]
  rw [h1,Array.getElem?_toList,h2]
  simp only [Option.map_some]
  rw [(h i _ _ h1 h2).1]
 ·rw [List.getElem?_eq_none (l:=es) (by omega),List.getElem?_eq_none (l:=ents.toList) (by simp [hsz];omega)]
  rfl
theorem zic_valV {M:MS}:∀ {z:List Value},z.all Plain=true→RepV M (valV (z.map zic)) (keyV z)
 | [],_=>.agg _ _ rfl (fun j c v h=>by simp at h)
 | [v],h=>.one _ _ (zic_sound (by simpa using h))
 | a :: b :: r,h=>by
   refine .agg _ _ (by simp) fun j c v h1 h2=>?_
   rw [← List.map_cons,List.getElem?_map,Option.map_eq_some_iff] at h1
   obtain ⟨v0,h3,rfl⟩:=h1
   rw [List.getElem?_toArray] at h2
   rw [h3] at h2;cases h2
   exact zic_sound (List.all_eq_true.1 h _ (List.mem_of_getElem? h3))
def dlookup (P:Program) (G:Nat→Option (List IC)) (S:DS) (t:TypeId) (m k:Operand) (ok:Bool):Option (DV×List DObj):=
 match evalG G S m,evalG G S k,tmap P t with
 | some (.one (.map o)),some kd,some (kt,et)=>match S.objs[o]?,keyOfV kd,keyShape P kt,tzk P et with
   | some (.map ks es),some kv,some ks',some z =>
     if ks=ks'∧shapeOk ks kv=true∧z.all Plain=true then
      some (if ok then .tup [valV (mget kv es (z.map zic)),.one (.im (.raw (.bool (mhas kv es))))] else valV (mget kv es (z.map zic)),S.objs)
     else none
   | _,_,_,_=>none
 | _,_,_=>none
def plainK:List CK→Prop
 | .st _ _ _ :: _=>False
 | _=>True
theorem plainK.base {ks:List CK} (h:plainK ks):ckBase ks=ks:=by
 unfold plainK at h
 split at h
 ·exact h.elim
 ·rename_i hn
  unfold ckBase
  split
  ·rename_i l c b r;exact absurd rfl (hn l c b r)
  ·rfl
theorem StampsK.plain {ks:List CK} (h:plainK ks) {ents:Array MapEntry} {clock b:Nat} (hs:Stamps ents clock):StampsK ks ents clock b:=by
 refine ⟨hs,?_⟩
 split
 ·exact h.elim
 ·trivial
theorem fieldsCK_plain {P:Program}:∀ {fs:List Field} {i:Nat} {ks:List CK},fieldsCK P fs i=some ks→plainK ks
 | [],_,_,h=>by cases h;trivial
 | f :: r,i,ks,h=>by
   simp only [fieldsCK] at h
   split at h
   ·split at h
    ·rename_i k l hk hl
     cases h
     unfold fieldCK at hk
     split at hk
     ·cases hk
     ·split at hk
      ·cases hk;trivial
      ·cases hk;trivial
      ·cases hk
    ·cases h
   ·cases h
theorem keyShape_plain {P:Program} {t:TypeId} {ks:List CK} (h:keyShape P t=some ks):plainK ks:=by
 unfold keyShape at h
 split at h
 ·cases h;trivial
 ·cases h;trivial
 ·split at h
  ·rename_i hks
   split at h
   ·cases h
   ·cases h
    unfold eqShape at hks
    split at hks
    ·split at hks
     ·exact fieldsCK_plain hks
     ·cases hks
    ·cases hks
  ·cases h
 ·split at h
  ·split at h
   ·cases h
    have:∀ (n:Nat) (k:IntKind),plainK (List.replicate n (.int k)):=fun n k=>by cases n<;>trivial
    exact this _ _
   ·cases h
  ·cases h
 ·cases h
theorem map_obj {M:MS} (hm:RelM G M) {o:Nat} {ks:List CK} {es:List (List Value×List DC)} {v:Value} (hp:RepC M (.map o) v) (ho:M.objs[o]?=some (.map ks es)) :
 v=.map (some (M.β o))∧∃ ents clock,M.w.heap[M.β o]?=some (.map ents clock)∧Stamps ents clock∧(∀ x∈es,shapeOk (ckBase ks) x.1=true)∧ents.size=es.length ∧
  (∀ (i:Nat) (x:List Value×List DC) (e:MapEntry),es[i]?=some x→ents[i]?=some e→RepE M x e)∧Keys es ents.toList:=by
 cases hp with
 | map _ _ h1 h2 h3 =>
   obtain ⟨ents,clock,a1,a2,a3,a4,a5⟩:=hm.objs o _ ho
   exact ⟨h3 _ _ ho,ents,clock,a1,a2.1,a3,a4,a5,keys_of a4 a5⟩
theorem run_getObj_ {w:World} {b c:Nat} {x:Array MapEntry} (h:w.heap[b]?=some (.map x c)):(getObj b).run P w=.ok (.map x c) w:=by
 simp [getObj,Sem.run,h]
theorem run_setObj_ {w:World} {b c:Nat} {x:Array MapEntry} {y:Obj} (h:w.heap[b]?=some (.map x c)):(setObj b y).run P w=.ok () { w with heap:=w.heap.setIfInBounds b y }:=by
 simp [setObj,Sem.run,h]
theorem OpV_lookup {o:Oper} {t:TypeId} {m k:Operand} {ok:Bool} {d:DV} {objs':List DObj} (ho:o.op=.lookup t m k ok) (h:dlookup P G S t m k ok=some (d,objs')):OpV P G o S d objs':=by
 unfold dlookup at h
 split at h
 ·rename_i oM kd kt et hm hk ht
  split at h
  ·rename_i ks es kv ks' z h1 h2 h3 h4
   split at h
   ·rename_i hc
    obtain ⟨rfl,hsk,hz⟩:=hc
    cases h
    intro a M hr
    have hp:=evalG_sound hr hm
    have hkv:=keyOfV_sound hr hk h2
    generalize hv:a.eval m=v at hp
    cases hp with
    | one _ _ hp =>
      obtain ⟨rfl,ents,clock,a1,a2,a3,a4,a5,a6⟩:=map_obj hr.m hp (by rw [hr.ob];exact h1)
      have hpb:=(keyShape_plain h3).base
      rw [hpb] at a3
      have hfind:=run_find (P:=P) (w:=M.w) h3 hsk a6 a3
      have hck:=fun em=>run_checkKey_ (P:=P) (w:=M.w) h3 hsk em
      have hzero:=run_tzk (P:=P) (w:=M.w) h4
      have hzr:=zic_valV (M:=M) hz
      have hrun:∀ u b,((∃ j,fres kv es ents.toList 0=some (j,u)∧b=true)∨(fres kv es ents.toList 0=none∧u=keyV z∧b=false))→(execOp a.eval o).run P M.w=.ok (.value (if ok then .tuple #[u,.bool b] else u)) M.w:=by
       intro u b hu
       simp only [execOp,ho,Instr.lookup,hv,hkv,Sem.run_bind,runUnderlying (tmap_spec ht),Result.andThen_ok,run_getObj_ a1,Sem.run_pure,hck,hfind]
       rcases hu with ⟨j,h1,rfl⟩|⟨h1,rfl,rfl⟩
       ·rw [h1];simp
       ·rw [h1];simp [hzero]
      have fin:∀ u b,((∃ j,fres kv es ents.toList 0=some (j,u)∧b=true)∨(fres kv es ents.toList 0=none∧u=keyV z∧b=false))→RepV M (valV (mget kv es (z.map zic))) u→mhas kv es=b →
       ∃ v M',((execOp a.eval o).run P M.w=.ok (.value v) M'.w∨((execOp a.eval o).run P M.w=.ok .skip M'.w∧v=undef))∧RelM G M'∧M'.objs=S.objs∧Ext M.objs.length M M' ∧
        RepV M' (if ok then .tup [valV (mget kv es (z.map zic)),.one (.im (.raw (.bool (mhas kv es))))] else valV (mget kv es (z.map zic))) v:=by
       intro u b hu hrep hb
       refine ⟨_,M,.inl (hrun u b hu),hr.m,hr.ob,Ext.refl M,?_⟩
       cases ok
       ·simpa using hrep
       ·simp only [if_true]
        refine .tup _ _ rfl fun j d v h5 h6=>?_
        match j with
        | 0=>simp at h5 h6;subst h5;subst h6;exact hrep
        | 1=>simp at h5 h6;subst h5;subst h6;rw [hb];exact .one _ _ (.im _ _ (.raw _ rfl))
        | j + 2=>simp at h5
      cases hf:fres kv es ents.toList 0 with
      | none =>
        have h5:=(fres_none a6 hf).1
        refine fin (keyV z) false ?_ (by simp [mget,h5,hzr]) (by simp [mhas,h5])
        exact .inr ⟨hf,rfl,rfl⟩
      | some p =>
        obtain ⟨j,u⟩:=p
        obtain ⟨p,x,e,rfl,h5,h6,rfl,h7,h8⟩:=fres_some a6 hf
        refine fin e.val true ?_ ?_ (by simp [mhas,h7])
        ·exact .inl ⟨_,hf,rfl⟩
        ·simp only [mget,h7,Option.getD_some]
         exact (a5 p x e h5 (by simpa using h6)).2.2
   ·cases h
  ·cases h
 ·cases h
def dmapUpdate (P:Program) (G:Nat→Option (List IC)) (S:DS) (t:TypeId) (m k v:Operand):Option (DV×List DObj):=
 match evalG G S m,evalG G S k,evalG G S v,tmap P t with
 | some (.one (.map o)),some kd,some vd,some (kt,_)=>match S.objs[o]?,keyOfV kd,keyShape P kt,valOfV vd with
   | some (.map ks es),some kv,some ks',some vl =>
     if ks=ks'∧shapeOk ks kv=true then some (.tup [],S.objs.set o (.map ks (mset kv vl es))) else none
   | _,_,_,_=>none
 | _,_,_,_=>none
theorem sameBits_keyV {ks:List CK} {k:List Value} (h:shapeOk ks k=true):Instr.sameBits 10000 (keyV k) (keyV k)=true:=by
 have one:∀ (n:Nat) (v:Value) (c:CK) (ks:List CK) (l:List Value),shapeOk (c :: ks) (v :: l)=true→Instr.sameBits n v v=true∧shapeOk ks l=true:=by
  intro n v c ks l hs
  cases c<;>cases v<;>simp [shapeOk] at hs
  ·cases n<;>simp [Instr.sameBits,hs.2]
  ·cases n<;>simp [Instr.sameBits,hs]
 have all:∀ (n:Nat) (ks:List CK) (l:List Value),shapeOk ks l=true→((l.zip l).all fun (x,y)=>Instr.sameBits n x y)=true:=by
  intro n ks
  induction ks with
  | nil=>intro l hl;cases l<;>simp [shapeOk] at hl ⊢
  | cons c ks ih =>
    intro l hl
    cases l with
    | nil=>rfl
    | cons v l =>
      obtain ⟨h1,h2⟩:=one n v c ks l hl
      have:=ih l h2
      simp only [List.zip_cons_cons,List.all_cons,h1,Bool.true_and]
      exact this
 have agg:∀ (n:Nat) (l:List Value),shapeOk ks l=true→Instr.sameBits (n + 1) (.agg l.toArray) (.agg l.toArray)=true:=fun n l hl=>by
  have:=all n ks l hl
  simp only [Instr.sameBits,beq_self_eq_true,Bool.true_and]
  exact this
 match k,h with
 | [],h=>exact agg 9999 [] h
 | [v],h =>
   cases ks with
   | nil=>simp [shapeOk] at h
   | cons c ks=>exact (one 10000 v c ks [] h).1
 | a :: b :: r,h=>exact agg 9999 (a :: b :: r) h
theorem Stamps.push {ents:Array MapEntry} {clock:Nat} (h:Stamps ents clock) (k v:Value):Stamps (ents.push { key:=k,val:=v,born:=clock }) (clock + 1):=by
 refine ⟨fun i e hi=>?_,fun i j e e' hi hj he=>?_⟩
 ·rw [Array.getElem?_push] at hi
  split at hi
  ·cases hi;simp
  ·have:=h.1 i e hi;omega
 ·rw [Array.getElem?_push] at hi hj
  split at hi
  ·split at hj
   ·omega
   ·cases hi
    have:=h.1 j e' hj;simp at he;omega
  ·split at hj
   ·cases hj
    have:=h.1 i e hi;simp at he;omega
   ·exact h.2 i j e e' hi hj he
theorem Stamps.modify {ents:Array MapEntry} {clock:Nat} (h:Stamps ents clock) (p:Nat) (f:MapEntry→MapEntry) (hf:∀ e,(f e).born=e.born):Stamps (ents.modify p f) clock:=by
 have get:∀ (i:Nat) (e:MapEntry),(ents.modify p f)[i]?=some e→∃ e0,ents[i]?=some e0∧e.born=e0.born:=fun i e hi=>by
  rw [Array.getElem?_modify] at hi
  split at hi
  ·rw [Option.map_eq_some_iff] at hi
   obtain ⟨e0,h1,rfl⟩:=hi
   exact ⟨e0,h1,hf e0⟩
  ·exact ⟨e,hi,rfl⟩
 refine ⟨fun i e hi=>?_,fun i j e e' hi hj he=>?_⟩
 ·obtain ⟨e0,h1,h2⟩:=get i e hi
  rw [h2];exact h.1 i e0 h1
 ·obtain ⟨e0,h1,h2⟩:=get i e hi
  obtain ⟨e1,h3,h4⟩:=get j e' hj
  exact h.2 i j e0 e1 h1 h3 (by rw [← h2,← h4];exact he)
theorem OpV_mapUpdate {o:Oper} {t:TypeId} {m k v:Operand} {d:DV} {objs':List DObj} (ho:o.op=.mapUpdate t m k v∨o.op=.insert t m k v) (h:dmapUpdate P G S t m k v=some (d,objs')):OpV P G o S d objs':=by
 unfold dmapUpdate at h
 split at h
 ·rename_i oM kd vd kt et hm hk hvd ht
  split at h
  ·rename_i ks es kv ks' vl h1 h2 h3 h4
   split at h
   ·rename_i hc
    obtain ⟨rfl,hsk⟩:=hc
    cases h
    intro a M hr
    have hp:=evalG_sound hr hm
    have hkv:=keyOfV_sound hr hk h2
    have hvv:=valOfV_sound (evalG_sound hr hvd) h4
    have hob:M.objs[oM]?=some (.map ks es):=by rw [hr.ob];exact h1
    generalize hv:a.eval m=mv at hp
    generalize hx:a.eval v=xv at hvv
    cases hp with
    | one _ _ hp =>
      obtain ⟨rfl,ents,clock,a1,a2,a3,a4,a5,a6⟩:=map_obj hr.m hp hob
      have hpl:=keyShape_plain h3
      have hpb:=hpl.base
      rw [hpb] at a3
      have hfind:=run_find (P:=P) (w:=M.w) h3 hsk a6 a3
      have hck:=fun em=>run_checkKey_ (P:=P) (w:=M.w) h3 hsk em
      have hplain:∀ v∈kv,Plain v=true:=by
       have:∀ (ks:List CK) (l:List Value),shapeOk ks l=true→∀ v∈l,Plain v=true:=by
        intro ks
        induction ks with
        | nil=>intro l hl;cases l<;>simp [shapeOk] at hl ⊢
        | cons c ks ih =>
          intro l hl
          cases l with
          | nil=>simp
          | cons v l =>
            intro u hu
            cases c<;>cases v<;>simp [shapeOk] at hl
            all_goals
             rcases List.mem_cons.1 hu with rfl|hu
             ·rfl
             ·first|exact ih l hl.2 u hu|exact ih l hl u hu
       exact this ks kv hsk
      have fin:∀ (X:Obj) (es':List (List Value×List DC)),(execOp a.eval o).run P M.w=.ok .skip { M.w with heap:=M.w.heap.setIfInBounds (M.β oM) X }→osize X=0→es'=mset kv vl es →
       (∀ M',Ext M.objs.length M M'→M'.w.heap[M'.β oM]?=some X→RelO M' oM (.map ks es')) →
       ∃ v M',((execOp a.eval o).run P M.w=.ok (.value v) M'.w∨((execOp a.eval o).run P M.w=.ok .skip M'.w∧v=undef))∧RelM G M'∧M'.objs=S.objs.set oM (.map ks (mset kv vl es))∧Ext M.objs.length M M'∧RepV M' (.tup []) v:=by
       rintro X es' hrun hsz rfl hrel
       have he:Ext M.objs.length M (M.turn oM X (.map ks (mset kv vl es))):=Ext.turn hob rfl rfl a1 (by rw [hsz];rfl)
       refine ⟨undef,M.turn oM X (.map ks (mset kv vl es)),.inr ⟨hrun,rfl⟩,?_,by simp [MS.turn,hr.ob],he,.tup _ _ rfl (fun j d v h=>by simp at h)⟩
       refine hr.m.turn hob rfl rfl a1 (by rw [hsz];rfl) (hrel _ he ?_)
       simp only [MS.turn]
       rw [Array.getElem?_setIfInBounds_self_of_lt (hr.m.lt oM _ hob rfl)]
      have shape':∀ x∈mset kv vl es,shapeOk ks x.1=true:=by
       cases hmi:midx kv es with
       | none => rw [mset_none hmi]; intro x hx; rcases List.mem_append.1 hx with hx | hx
                 ·exact a3 x hx
                 ·simp at hx;subst hx;exact hsk
       | some p => rw [mset_some hmi]; intro x hx
                   rcases List.mem_or_eq_of_mem_set hx with hx|rfl
                   ·exact a3 x hx
                   ·exact hsk
      cases hf:fres kv es ents.toList 0 with
      | none =>
        have h5:=(fres_none a6 hf).2
        refine fin (.map (ents.push { key:=keyV kv,val:=xv,born:=clock }) (clock + 1)) _ ?_ rfl rfl fun M' he hh=>?_
        ·rcases ho with ho|ho <;>
         ·simp only [execOp,ho,Instr.mapUpdate,hv,hx,hkv,Sem.run_bind,runUnderlying (tmap_spec ht),Result.andThen_ok,run_getObj_ a1,Sem.run_pure,hck,hfind,hf,run_setObj_ a1]
        ·refine ⟨_,_,hh,.plain hpl (a2.push _ _),by rw [hpb];exact shape',by simp [mset_none h5,a4],fun i x e hi hj=>?_⟩
         rw [mset_none h5] at hi
         rcases getElem?_snoc hi with ⟨hlt,hi⟩|⟨rfl,rfl⟩
         ·rw [Array.getElem?_push,if_neg (by omega)] at hj
          obtain ⟨b1,b2,b3⟩:=a5 i x e hi hj
          exact ⟨b1,b2,b3.ext he⟩
         ·rw [← a4] at hj
          simp at hj
          subst hj
          exact ⟨rfl,hplain,hvv.ext he⟩
      | some p =>
        obtain ⟨j,u⟩:=p
        obtain ⟨p,x,e,rfl,h5,h6,rfl,h7,h8⟩:=fres_some a6 hf
        have h6':ents[p]?=some e:=by simpa using h6
        have hey:e.key=keyV x.1:=(a5 p x e h5 h6').1
        have hsx:Instr.keyThatStays (keyV x.1) (keyV kv)=pure (keyV kv)∨True:=.inr trivial
        have hstay:∀ w,(Instr.keyThatStays e.key (keyV kv)).run P w=.ok (keyV kv) w:=by
         intro w
         have heq:beqs kv x.1=true:=by
          have:∀ (es:List (List Value×List DC)) (p:Nat) (x:List Value×List DC),midx kv es=some p→es[p]?=some x→beqs kv x.1=true:=by
           intro es
           induction es with
           | nil=>intro p x h;simp [midx] at h
           | cons y r ih =>
             intro p x h hx
             simp only [midx] at h
             split at h
             ·rename_i hb;cases h;simp at hx;subst hx;exact hb
             ·simp only [Option.map_eq_some_iff] at h
              obtain ⟨q,hq,rfl⟩:=h
              exact ih q x hq (by simpa using hx)
          exact this es p x h8 h5
         have hkk:x.1=kv:=by
          have:∀ (ks:List CK) (l r:List Value),shapeOk ks l=true→shapeOk ks r=true→beqs l r=true→r=l:=by
           intro ks
           induction ks with
           | nil=>intro l r hl hr _;cases l<;>cases r<;>simp [shapeOk] at hl hr ⊢
           | cons c ks ih =>
             intro l r hl hr hb
             cases l with
             | nil=>cases c<;>simp [shapeOk] at hl
             | cons v l=>cases r with
               | nil=>cases c<;>simp [shapeOk] at hr
               | cons u r =>
                 cases c<;>cases v<;>simp [shapeOk] at hl<;>cases u<;>simp [shapeOk] at hr<;>simp [beqs] at hb
                 ·rw [ih l r hl.2 hr.2 hb.2,hb.1,hl.1,hr.1]
                 ·rw [ih l r hl hr hb.2,hb.1]
          exact this ks kv x.1 hsk (a3 x (List.mem_of_getElem? h5)) heq
         rw [hey,hkk]
         simp [Instr.keyThatStays,sameBits_keyV hsk]
        refine fin (.map (ents.modify p fun e=>{ e with key:=keyV kv,val:=xv }) clock) _ ?_ rfl rfl fun M' he hh=>?_
        ·rcases ho with ho|ho <;>
         ·simp only [execOp,ho,Instr.mapUpdate,hv,hx,hkv,Sem.run_bind,runUnderlying (tmap_spec ht),Result.andThen_ok,run_getObj_ a1,Sem.run_pure,hck,hfind,hf,Nat.zero_add,h6',Option.map_some,Option.getD_some,hstay,run_setObj_ a1]
        ·refine ⟨_,_,hh,.plain hpl (a2.modify p _ (fun _=>rfl)),by rw [hpb];exact shape',by simp [mset_some h8,a4],fun i x' e' hi hj=>?_⟩
         rw [mset_some h8] at hi
         rw [Array.getElem?_modify] at hj
         rcases set_get hi with ⟨rfl,rfl,_⟩|⟨hne,hi⟩
         ·rw [if_pos rfl,h6'] at hj
          simp at hj
          subst hj
          exact ⟨rfl,hplain,hvv.ext he⟩
         ·rw [if_neg (Ne.symm hne)] at hj
          obtain ⟨b1,b2,b3⟩:=a5 i x' e' hi hj
          exact ⟨b1,b2,b3.ext he⟩
   ·cases h
  ·cases h
 ·cases h
def dmakeMap (P:Program) (G:Nat→Option (List IC)) (S:DS) (t:TypeId) (r:Option Operand):Option (DV×List DObj):=
 match tmap P t with
 | some (kt,_)=>match keyShape P kt,r with
   | some ks,none=>some (.one (.map S.objs.length),S.objs ++ [.map ks []])
   | some ks,some x=>match rawOf (evalG G S x) with
     | some (.int _ _)=>some (.one (.map S.objs.length),S.objs ++ [.map ks []])
     | _=>none
   | _,_=>none
 | none=>none
theorem newMap_push {M:MS} (hm:RelM G M) (ks:List CK) (hpl:plainK ks):RelM G (M.push (.map #[] 0) (.map ks [])):=by
 refine hm.push rfl ⟨#[],0,?_,.plain hpl ⟨fun i e h=>by simp at h,fun i j e e' h=>by simp at h⟩,fun x hx=>by simp at hx,rfl,fun i x e h=>by simp at h⟩
 simp only [MS.push,if_true]
 exact alloc_new
theorem OpV_makeMap {o:Oper} {t:TypeId} {r:Option Operand} {d:DV} {objs':List DObj} (ho:o.op=.makeMap t r) (h:dmakeMap P G S t r=some (d,objs')):OpV P G o S d objs':=by
 unfold dmakeMap at h
 split at h
 ·rename_i kt et ht
  have fin:∀ (ks:List CK),keyShape P kt=some ks→∀ (a:Act) (M:MS),Rel G S a M→(execOp a.eval o).run P M.w=.ok (.value (.map (some M.w.heap.size))) (M.w.alloc (.map #[] 0)) →
   ∃ v M',((execOp a.eval o).run P M.w=.ok (.value v) M'.w∨((execOp a.eval o).run P M.w=.ok .skip M'.w∧v=undef))∧RelM G M'∧M'.objs=S.objs ++ [.map ks []]∧Ext M.objs.length M M'∧RepV M' (.one (.map S.objs.length)) v:=by
   intro ks hks a M hr hrun
   refine ⟨_,M.push (.map #[] 0) (.map ks []),.inl hrun,newMap_push hr.m ks (keyShape_plain hks),by simp [MS.push,hr.ob],Ext.push _ _ hr.m.lt,.one _ _ (.map _ _ rfl (by simp [MS.push,hr.ob]) fun ks' es hes=>?_)⟩
   simp [MS.push,hr.ob]
  split at h
  ·cases h
   intro a M hr
   refine fin _ (by assumption) a M hr ?_
   simp only [execOp,ho,Instr.makeMap,Option.map_none,Sem.run_bind,Sem.run_pure,Result.andThen_ok,run_newObj_alloc]
  ·split at h
   ·rename_i hx
    cases h
    intro a M hr
    have hxe:=rawOf_sound hr hx
    refine fin _ (by assumption) a M hr ?_
    simp only [execOp,ho,Instr.makeMap,Option.map_some,Sem.run_bind,Sem.run_pure,Result.andThen_ok,run_newObj_alloc,runUnderlying (tmap_spec ht),hxe,asInt]
    simp [asIntOf]
   ·cases h
  ·cases h
 ·cases h
def stDel (k:List Value) (es:List (List Value×List DC)):List CK→List CK
 | .st l c b :: r=>.st (match midx k es with|some p=>l.eraseIdx p|none=>l) c b :: r
 | ks=>ks
theorem stDel_st (k:List Value) (es:List (List Value×List DC)) (l:List Nat) (c b:Nat) (r:List CK):stDel k es (.st l c b :: r)=.st (match midx k es with|some p=>l.eraseIdx p|none=>l) c b :: r:=rfl
theorem stDel_int (k:List Value) (es:List (List Value×List DC)) (q:IntKind) (r:List CK):stDel k es (.int q :: r)=.int q :: r:=rfl
theorem stDel_bool (k:List Value) (es:List (List Value×List DC)) (r:List CK):stDel k es (.bool :: r)=.bool :: r:=rfl
theorem ckBase_st (l:List Nat) (c b:Nat) (r:List CK):ckBase (.st l c b :: r)=ckBase r:=rfl
theorem ckBase_int (q:IntKind) (r:List CK):ckBase (.int q :: r)=.int q :: r:=rfl
theorem ckBase_bool (r:List CK):ckBase (.bool :: r)=.bool :: r:=rfl
attribute [simp] stDel_st stDel_int stDel_bool ckBase_st ckBase_int ckBase_bool
theorem ckBase_stDel (k:List Value) (es:List (List Value×List DC)) (ks:List CK):ckBase (stDel k es ks)=ckBase ks:=by
 unfold stDel;split
 ·rfl
 ·rfl
theorem StampsK.none {ks:List CK} {ents:Array MapEntry} {clock b:Nat} (h:StampsK ks ents clock b) {k:List Value} {es:List (List Value×List DC)} (hm:midx k es=none):StampsK (stDel k es ks) ents clock b:=by
 unfold stDel
 split
 ·rw [hm];exact h
 ·exact h
theorem Stamps.erase {ents:Array MapEntry} {clock:Nat} (h:Stamps ents clock) (p:Nat):Stamps (ents.eraseIdxIfInBounds p) clock:=by
 have get:∀ (i:Nat),(ents.eraseIdxIfInBounds p)[i]?=if i < p then ents[i]? else if p < ents.size then ents[i + 1]? else ents[i]?:=fun i=>by
  unfold Array.eraseIdxIfInBounds
  split
  ·rename_i hlt
   rw [Array.getElem?_eraseIdx]
  ·rename_i hge
   split<;>rfl
 refine ⟨fun i e hi=>?_,fun i j e e' hi hj he=>?_⟩
 ·rw [get] at hi
  split at hi
  ·exact h.1 i e hi
  ·split at hi
   ·exact h.1 _ e hi
   ·exact h.1 _ e hi
 ·rw [get] at hi hj
  split at hi<;>split at hj
  ·exact h.2 i j e e' hi hj he
  ·split at hj
   ·have:=h.2 i _ e e' hi hj he;omega
   ·exact h.2 i _ e e' hi hj he
  ·split at hi
   ·have:=h.2 _ j e e' hi hj he;omega
   ·exact h.2 _ j e e' hi hj he
  ·split at hi
   ·rename_i hlt
    rw [if_pos hlt] at hj
    have:=h.2 _ _ e e' hi hj he;omega
   ·rename_i hlt
    rw [if_neg hlt] at hj
    exact h.2 _ _ e e' hi hj he
theorem StampsK.erase {ks:List CK} {ents:Array MapEntry} {clock b:Nat} (h:StampsK ks ents clock b) {k:List Value} {es:List (List Value×List DC)} {p:Nat} (hm:midx k es=some p) (hlt:p < ents.size):StampsK (stDel k es ks) (ents.eraseIdxIfInBounds p) clock b:=by
 obtain ⟨h1,h2⟩:=h
 match ks,h2 with
 | [],_=>exact ⟨h1.erase p,trivial⟩
 | .int _ :: _,_=>exact ⟨h1.erase p,trivial⟩
 | .bool :: _,_=>exact ⟨h1.erase p,trivial⟩
 | .st l c b' :: r,h2 =>
   obtain ⟨h3,h4,h5⟩:=h2
   refine ⟨h1.erase p,?_,h4,h5⟩
   simp only [hm]
   rw [← h3]
   simp only [Array.eraseIdxIfInBounds,hlt,dite_true,Array.toList_eraseIdx]
   refine List.ext_getElem? fun i=>?_
   simp only [List.getElem?_map,List.getElem?_eraseIdx]
   split<;>rfl
def ddelete (P:Program) (G:Nat→Option (List IC)) (S:DS) (t:TypeId) (m k:Operand):Option (DV×List DObj):=
 match evalG G S m,evalG G S k,tmap P t with
 | some (.one (.map o)),some kd,some (kt,_)=>match S.objs[o]?,keyOfV kd,keyShape P kt with
   | some (.map ks es),some kv,some ks' =>
     if ckBase ks=ks'∧shapeOk ks' kv=true then some (.tup [],S.objs.set o (.map (stDel kv es ks) (mdel kv es))) else none
   | _,_,_=>none
 | _,_,_=>none
theorem OpV_delete {o:Oper} {t:TypeId} {u:TypeId} {m k:Operand} {d:DV} {objs':List DObj} (ho:o.op=.call { callee:=.builtin .delete,args:=#[m,k],argTypes:=#[t,u] }) (h:ddelete P G S t m k=some (d,objs')):OpV P G o S d objs':=by
 unfold ddelete at h
 split at h
 ·rename_i oM kd kt et hm hk ht
  split at h
  ·rename_i ks es kv ks' h1 h2 h3
   split at h
   ·rename_i hc
    obtain ⟨rfl,hsk⟩:=hc
    cases h
    intro a M hr
    have hp:=evalG_sound hr hm
    have hkv:=keyOfV_sound hr hk h2
    have hob:M.objs[oM]?=some (.map ks es):=by rw [hr.ob];exact h1
    generalize hv:a.eval m=mv at hp
    cases hp with
    | one _ _ hp =>
      obtain ⟨rfl,ents,clock,a1,a2,a3,a4,a5,a6⟩:=map_obj hr.m hp hob
      have hSK:StampsK ks ents clock (M.β oM):=by
       obtain ⟨ents',clock',q1,q2,_⟩:=hr.m.objs oM _ hob
       rw [a1] at q1;cases q1;exact q2
      have hfind:=run_find (P:=P) (w:=M.w) h3 hsk a6 a3
      have hck:=fun em=>run_checkKey_ (P:=P) (w:=M.w) h3 hsk em
      have fin:∀ (ents':Array MapEntry),(execOp a.eval o).run P M.w=.ok (.value (.tuple #[])) { M.w with heap:=M.w.heap.setIfInBounds (M.β oM) (.map ents' clock) } →
       (∀ M',Ext M.objs.length M M'→M'.β oM=M.β oM→M'.w.heap[M'.β oM]?=some (.map ents' clock)→RelO M' oM (.map (stDel kv es ks) (mdel kv es))) →
       ∃ v M',((execOp a.eval o).run P M.w=.ok (.value v) M'.w∨((execOp a.eval o).run P M.w=.ok .skip M'.w∧v=undef))∧RelM G M'∧M'.objs=S.objs.set oM (.map (stDel kv es ks) (mdel kv es))∧Ext M.objs.length M M'∧RepV M' (.tup []) v:=by
       rintro ents' hrun hrel
       have he:Ext M.objs.length M (M.turn oM (.map ents' clock) (.map (stDel kv es ks) (mdel kv es))):=Ext.turn hob rfl (ckBase_stDel kv es ks).symm a1 rfl
       refine ⟨_,M.turn oM (.map ents' clock) (.map (stDel kv es ks) (mdel kv es)),.inl hrun,?_,by simp [MS.turn,hr.ob],he,.tup _ _ rfl (fun j d v h=>by simp at h)⟩
       refine hr.m.turn hob rfl (ckBase_stDel kv es ks).symm a1 rfl (hrel _ he rfl ?_)
       simp only [MS.turn]
       rw [Array.getElem?_setIfInBounds_self_of_lt (hr.m.lt oM _ hob rfl)]
      cases hf:fres kv es ents.toList 0 with
      | none =>
        have h5:=(fres_none a6 hf).2
        refine fin ents ?_ fun M' he hβ hh=>?_
        ·simp only [execOp,ho,resolve,invoke,builtin,Builtin.delete_,List.map_toArray,List.map_cons,List.map_nil,hv,hkv,Sem.run_bind,Sem.run_pure,Result.andThen_ok]
         simp [runUnderlying (tmap_spec ht),run_getObj_ a1,hck,hfind,hf,run_setObj_ a1]
        ·rw [mdel_none h5]
         exact ⟨_,_,hh,by rw [hβ];exact hSK.none h5,by rw [ckBase_stDel];exact a3,a4,fun i x e hi hj=>by
          obtain ⟨b1,b2,b3⟩:=a5 i x e hi hj
          exact ⟨b1,b2,b3.ext he⟩⟩
      | some p =>
        obtain ⟨j,u⟩:=p
        obtain ⟨p,x,e,rfl,h5,h6,rfl,h7,h8⟩:=fres_some a6 hf
        have hlt:p < ents.size:=by rw [a4];exact lt_of_getElem? h5
        refine fin (ents.eraseIdxIfInBounds p) ?_ fun M' he hβ hh=>?_
        ·simp only [execOp,ho,resolve,invoke,builtin,Builtin.delete_,List.map_toArray,List.map_cons,List.map_nil,hv,hkv,Sem.run_bind,Sem.run_pure,Result.andThen_ok]
         simp [runUnderlying (tmap_spec ht),run_getObj_ a1,hck,hfind,hf,run_setObj_ a1]
        ·rw [mdel_some h8]
         have hes:ents.eraseIdxIfInBounds p=ents.eraseIdx p:=by simp [Array.eraseIdxIfInBounds,hlt]
         refine ⟨_,_,hh,by rw [hβ];exact hSK.erase h8 hlt,fun x hx=>by rw [ckBase_stDel];exact a3 x (List.mem_of_mem_eraseIdx hx),?_,fun i x' e' hi hj=>?_⟩
         ·rw [hes,Array.size_eraseIdx,a4,List.length_eraseIdx,if_pos (by rw [← a4];exact hlt)]
         ·rw [hes,Array.getElem?_eraseIdx] at hj
          rw [List.getElem?_eraseIdx] at hi
          split at hi
          ·rename_i hip;rw [if_pos hip] at hj
           obtain ⟨b1,b2,b3⟩:=a5 i x' e' hi hj
           exact ⟨b1,b2,b3.ext he⟩
          ·rename_i hip;rw [if_neg hip] at hj
           obtain ⟨b1,b2,b3⟩:=a5 _ x' e' hi hj
           exact ⟨b1,b2,b3.ext he⟩
   ·cases h
  ·cases h
 ·cases h
def dlenMap (objs:List DObj) (c:DC):Option Nat:=match c with
 | .map o=>match objs[o]? with
   | some (.map _ es)=>some es.length
   | _=>none
 | _=>none
theorem OpV_lenMap {o:Oper} {t k e:TypeId} {x:Operand} {c:DC} {n:Nat} (ho:o.op=.call { callee:=.builtin .len,args:=#[x],argTypes:=#[t] }) (ht:tmap P t=some (k,e)) (hx:evalG G S x=some (.one c)) (hn:dlenMap S.objs c=some n):OpV P G o S (.one (.im (.raw (.int .i64 (n:Int))))) S.objs:=by
 unfold dlenMap at hn
 split at hn
 ·rename_i oM
  split at hn
  ·rename_i ks es h1
   cases hn
   refine OpV.pure fun a M hr=>?_
   have hp:=evalG_sound hr hx
   generalize hv:a.eval x=mv at hp
   cases hp with
   | one _ _ hp =>
     obtain ⟨rfl,ents,clock,a1,a2,a3,a4,a5,a6⟩:=map_obj hr.m hp (by rw [hr.ob];exact h1)
     refine ⟨.int .i64 (es.length:Int),?_,.one _ _ (.im _ _ (.raw _ rfl))⟩
     simp only [execOp,ho,resolve,invoke,builtin,Builtin.len_,List.map_toArray,List.map_cons,List.map_nil,hv,Sem.run_bind,Sem.run_pure,Result.andThen_ok]
     simp [runUnderlying (tmap_spec ht),run_getObj_ a1,a4,goInt]
  ·cases hn
 ·cases hn
def eqArrOk (P:Program) (t:TypeId):Option (List CK):=match tarr' P t with
 | some _=>if P.eqGuardType P.depth t=false then keyShape P t else none
 | none=>none
where tarr' (P:Program) (t:TypeId):Option (Nat×TypeId):=match P.underlying t with
 | some (.array n e)=>some (n,e)
 | _=>none
theorem OpV_eqArr {o:Oper} {op:BinOp} {t u:TypeId} {x y:Operand} {lx ly:List DC} {vx vy:List Value} {ks:List CK} (ho:o.op=.binOp op t x y u) (hop:op=.eql∨op=.neq) (ht:eqArrOk P t=some ks)
 (hx:evalG G S x=some (.agg lx)) (hy:evalG G S y=some (.agg ly)) (rx:raws lx=some vx) (ry:raws ly=some vy) (sx:shapeOk ks vx=true) (sy:shapeOk ks vy=true) :
 OpV P G o S (.one (.im (.raw (.bool (if op=.eql then beqs vx vy else !beqs vx vy))))) S.objs:=by
 refine .pure fun a M hr=>⟨_,?_,.mkraw rfl⟩
 have e1:=evalG_sound hr hx
 have e2:=evalG_sound hr hy
 generalize hvx:a.eval x=v at e1
 generalize hvy:a.eval y=v' at e2
 cases e1 with
 | agg _ cx h1 h2 =>
   cases e2 with
   | agg _ cy h3 h4 =>
     have f1:=raws_sound lx vx cx.toList rx (by simpa using h1) (fun j c v hc hv=>h2 j c v hc (by simpa using hv))
     have f2:=raws_sound ly vy cy.toList ry (by simpa using h3) (fun j c v hc hv=>h4 j c v hc (by simpa using hv))
     have hgt:P.eqGuardType P.depth t=false∧keyShape P t=some ks∧∃ n e,P.underlying t=some (.array n e):=by
      unfold eqArrOk at ht
      split at ht
      ·rename_i ne hta
       split at ht
       ·rename_i hg
        refine ⟨hg,ht,?_⟩
        unfold eqArrOk.tarr' at hta
        split at hta
        ·rename_i n e hu;exact ⟨n,e,hu⟩
        ·cases hta
       ·cases ht
      ·cases ht
     obtain ⟨hg,hks,n,e,hu⟩:=hgt
     have heq:(Op.equal t (.agg cx) (.agg cy)).run P M.w=.ok (beqs vx vy) M.w:=by
      unfold keyShape at hks
      rw [hu] at hks
      simp only at hks
      split at hks
      ·rename_i k he
       split at hks
       ·rename_i hc
        cases hks
        have:=run_equal_array (P:=P) (w:=M.w) hu he hc.1 (xs:=cx) (ys:=cy) (by rw [f1];exact sx) (by rw [f2];exact sy)
        rw [f1,f2] at this
        exact this
       ·cases hks
      ·cases hks
     have hguard:(eqGuard op t x y (.agg cx) (.agg cy)).run P M.w=.ok () M.w:=by
      rcases hop with rfl|rfl<;>simp [eqGuard,hg]
     simp only [execOp,ho,hvx,hvy,Sem.run_bind,hguard,Result.andThen_ok]
     rcases hop with rfl|rfl
     ·have h5:binOp .eql t (.agg cx) (.agg cy)=(do pure (.bool (← Op.equal t (.agg cx) (.agg cy)))):=rfl
      simp only [h5,Sem.run_bind,heq,Result.andThen_ok]
      rfl
     ·have h5:binOp .neq t (.agg cx) (.agg cy)=(do pure (.bool (!(← Op.equal t (.agg cx) (.agg cy))))):=rfl
      simp only [h5,Sem.run_bind,heq,Result.andThen_ok]
      rfl
end
end Go.Ab
