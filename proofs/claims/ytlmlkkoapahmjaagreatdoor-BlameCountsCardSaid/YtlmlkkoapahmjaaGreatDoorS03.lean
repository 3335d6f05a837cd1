/- Part 3 of the proofs. -/
import Derived.Laws.StructEq
import Derived.Test.YtlmlkkoapahmjaaGreatDoorS02
set_option linter.all false
set_option maxHeartbeats 100000000
namespace Go.Ab
open Go
theorem ot:∀ (ds:List Nat) (w:World),SameIo w (E0 ds w)
 | [],_=>⟨rfl,rfl,rfl,by first|exact Nat.le_refl _|exact Nat.le_succ _⟩
 | D :: r,w=>by
   rw[E0];exact SameIo.trans (b:=w.putObj D (.deferred none)) ⟨rfl,rfl,rfl,by first|exact Nat.le_refl _|exact Nat.le_succ _⟩ (ot r _)
def DCall (P:Program) (G:Hn) (f:FuncId) (args:List DV) (objs:List DObj) (Q:DV->List DObj->Prop):Prop:=
 ∀ (M:MS) (vs:Array Value),RelM G M->M.objs=objs->vs.size=args.length->(∀ (j:Nat) (d:DV) (v:Value),args[j]?=some d->vs[j]?=some v->RepV M d v) ->
  Calls P f vs M.w λe w'=>∃ v d M',e=.returned v/\M'.w=w'/\RelM G M'/\RepV M' d v/\Ext objs.length M M'/\Q d M'.objs
section
variable {P:Program} {G:Hn} {S:DS}
theorem DCall.mono {f:FuncId} {args:List DV} {objs:List DObj} {Q Q':DV->List DObj->Prop} (h:DCall P G f args objs Q) (hq:∀ d objs',Q d objs'->Q' d objs'):DCall P G f args objs Q':=
 λM vs h1 h2 h3 h4=>(h M vs h1 h2 h3 h4).mono λ_ _ ⟨v,d,M',a1,a2,a3,a4,a5,a6⟩=>⟨v,d,M',a1,a2,a3,a4,a5,hq _ _ a6⟩
def F2:DV->Option (FuncId×List DV)
 | .one (.im (.fn (.func f) caps))=>some (f,caps.map λc=>.one (.im c))
 | .one (.fn (.func f) caps)=>some (f,caps.map .one)
 | _=>none
def X1 (G:Hn) (S:DS):List Operand->Option (List DV)
 | []=>some []
 | x :: r=>match j5 G S x,X1 G S r with
   | some d,some l=>some (d :: l)
   | _,_=>none
theorem F8 {a:Act} {M:MS} (hr:Rel G S a M):∀ (xs:List Operand) (ds:List DV),X1 G S xs=some ds->ds.length=xs.length/\∀ (j:Nat) (d:DV) (v:Value),ds[j]?=some d->(xs.map a.eval)[j]?=some v->RepV M d v
 | [],ds,h=>by cases h;exact⟨rfl,λj d v h=>by simp at h⟩
 | x :: xs,ds,h=>by
   simp only[X1] at h;split at h
   ·rename_i d l hd hl;cases h;obtain⟨h1,h2⟩:=F8 hr xs l hl;refine⟨by simp[h1],λj e v he hv=>?_⟩;cases j with
    | zero=>simp at he hv;subst he;subst hv;exact i9 hr hd
    | succ j=>exact h2 j e v (by simpa using he) (by simpa using hv)
   ·cases h
theorem yS {o:Oper} {K:DS->Prop} {x:Operand} {xs:Array Operand} {ts:Array TypeId} {d:DV} {f:FuncId} {caps as:List DV} (ho:o.op=.call { callee:=.value x,args:=xs,argTypes:=ts })
 (hx:j5 G S x=some d) (hc:F2 d=some (f,caps)) (ha:X1 G S xs.toList=some as) (hcall:∀ args w,(callFunc f args).run P w=.ok (.enter f args) w)
 (h:DCall P G f (as++caps) S.objs (λd objs'=>K ({ S with objs:=objs' }.put o.dst d))):OpT P G o S K:=by
 intro ro a M hr;have hp:=i9 hr hx;obtain⟨hl,hrep⟩:=F8 hr _ _ ha;generalize hv:a.eval x=v at hp
 have key:∀ (vs:Array Value),v=.func (.func f) #[] vs->vs.size=caps.length->(∀ (j:Nat) (d:DV) (u:Value),caps[j]?=some d->vs[j]?=some u->RepV M d u) ->
  o.wpIn (u9 ro) 0 P a M.w (λa' w'=>∃ S' M',M'.w=w'/\Rel G S' a' M'/\Ext M.objs.length M M'/\a'.defers=a.defers/\K S') (λ_ _ _=>False):=by
  rintro vs rfl hvs hcr;have hrun:(execOp a.eval o).run P M.w=.ok (.enter f ((xs.map a.eval)++vs)) M.w:=by
   simp only[execOp,ho,Sem.run_bind,resolve,hv,Deferred.ofValue,Sem.run_pure,Result.andThen_ok,invoke,Array.empty_append,hcall]
  refine bx hrun ?_;refine(h M _ hr.m hr.ob (by simp[hl,hvs]) λj e u he hu=>?_).mono ?_
  ·have hsz:(xs.map a.eval).size=as.length:=by simp[hl]
   by_cases hj:j<as.length
   ·rw[List.getElem?_append_left hj] at he;rw[Array.getElem?_append_left (by omega)] at hu;refine hrep j e u he ?_;rw[<- hu,<- Array.toList_map,Array.getElem?_toList]
   ·rw[List.getElem?_append_right (by omega)] at he;rw[Array.getElem?_append_right (by omega),hsz] at hu;exact hcr _ e u he hu
  ·rintro e w' ⟨v,d,M',rfl,rfl,hm,hd,he,hk⟩;have he':Ext M.objs.length M M':=by rw[hr.ob];exact he
   exact⟨v,rfl,_,M',rfl,hr.put hm he' hd o.dst,he',r5 _ _ _,hk⟩
 unfold F2 at hc;split at hc
 ·cases hc;cases hp with
  | one _ _ hp=>cases hp with
    | im _ _ hp=>cases hp with
      | fn _ _ vs h1 h2 =>
        refine key vs rfl (by simp[h1]) λj d u hj hu=>?_;rw[List.getElem?_map,Option.map_eq_some_iff] at hj;obtain⟨c,hc,rfl⟩:=hj;exact .one _ _ (.im _ _ (h2 j c u hc hu))
 ·cases hc;cases hp with
  | one _ _ hp=>cases hp with
    | fn _ _ vs h1 h2 =>
      refine key vs rfl (by simp[h1]) λj d u hj hu=>?_;rw[List.getElem?_map,Option.map_eq_some_iff] at hj;obtain⟨c,hc,rfl⟩:=hj;exact .one _ _ (h2 j c u hc hu)
 ·cases hc
theorem vH {o:Oper} {K:DS->Prop} {x:Operand} {xs:Array Operand} {ts:Array TypeId} {f:FuncId} {l:List IC} {as:List DV} (ho:o.op=.call { callee:=.value x,args:=xs,argTypes:=ts })
 (hx:j5 G S x=some (.one (.im (.bf (.func f) l)))) (ha:X1 G S xs.toList=some as) (hcall:∀ args w,(callFunc f args).run P w=.ok (.enter f args) w)
 (h:DCall P G f (l.map (λc=>DV.one (.im c))++as) S.objs (λd objs'=>K ({ S with objs:=objs' }.put o.dst d))):OpT P G o S K:=by
 intro ro a M hr;have hp:=i9 hr hx;obtain⟨hl,hrep⟩:=F8 hr _ _ ha;generalize hv:a.eval x=v at hp;cases hp with
 | one _ _ hp=>cases hp with
   | im _ _ hp=>cases hp with
     | bf _ _ vs h1 h2 =>
       have hrun:(execOp a.eval o).run P M.w=.ok (.enter f (vs++(xs.map a.eval))) M.w:=by
        simp only[execOp,ho,Sem.run_bind,resolve,hv,Deferred.ofValue,Sem.run_pure,Result.andThen_ok,invoke,Array.append_empty,hcall]
       refine bx hrun ?_;refine(h M _ hr.m hr.ob (by simp[hl,h1]) λj e u he hu=>?_).mono ?_
       ·have hsz:vs.size=(l.map (λc=>DV.one (.im c))).length:=by simp[h1]
        by_cases hj:j<vs.size
        ·rw[List.getElem?_append_left (by omega)] at he;rw[Array.getElem?_append_left hj] at hu;rw[List.getElem?_map,Option.map_eq_some_iff] at he;obtain⟨c,hc,rfl⟩:=he;exact .one _ _ (.im _ _ (h2 j c u hc hu))
        ·rw[List.getElem?_append_right (by omega)] at he;rw[Array.getElem?_append_right (by omega),hsz] at hu;refine hrep _ e u he ?_;rw[<- hu,<- Array.toList_map,Array.getElem?_toList]
       ·rintro e w' ⟨v,d,M',rfl,rfl,hm,hd,he,hk⟩;have he':Ext M.objs.length M M':=by rw[hr.ob];exact he
        exact⟨v,rfl,_,M',rfl,hr.put hm he' hd o.dst,he',r5 _ _ _,hk⟩
def cJ:List DV->Nat->List (Nat×DV)
 | [],_=>[]
 | d :: r,i=>(i,d) :: cJ r (i+1)
theorem jY:∀ (l:List DV) (i t:Nat) (d:DV),m8 (cJ l i) t=some d->i<=t/\l[t-i]?=some d
 | [],i,t,d,h=>by simp[cJ,m8] at h
 | e :: r,i,t,d,h=>by
   simp only[cJ,m8] at h;split at h
   ·rename_i hi;subst hi;cases h;exact⟨Nat.le_refl _,by simp⟩
   ·rename_i hne;obtain⟨h1,h2⟩:=jY r (i+1) t d h;refine⟨by omega,?_⟩;have:t-i=(t-(i+1))+1:=by omega
    rw[this,List.getElem?_cons_succ];exact h2
def nL (P:Program) (S:DS):ResultVar->Option DV
 | .tmp t=>m8 S.tmps t
 | .cell t ty=>match m8 S.tmps t,aW P ty,mb P ty with
   | some (.one p),some sz,some ag=>match kW S.objs p sz with
     | some l=>eg ag l
     | none=>none
   | _,_,_=>none
def L4 (P:Program) (S:DS):List ResultVar->Option (List DV)
 | []=>some []
 | x :: r=>match nL P S x,L4 P S r with
   | some d,some l=>some (d :: l)
   | _,_=>none
def L8:List DV->DV
 | [d]=>d
 | l=>.tup l
theorem qy {M:MS} (hm:RelM G M) {t:TypeId} {sz:Nat} {ag:Bool} {p:DC} {v:Value} {l:List DC} {d:DV} (hs:aW P t=some sz) (hg:mb P t=some ag) (hp:RepC M p v) (hl:kW M.objs p sz=some l) (hd:eg ag l=some d) :
 ∃ ad u,v=.pointer (some ad)/\(loadVar t ad).run P M.w=.ok u M.w/\RepV M d u:=by
 obtain⟨ad,rfl,hsp,hlen,f,hc,hrep⟩:=jg hm hp hl;cases ag with
 | true =>
   simp only[eg,if_true,Option.some.injEq] at hd;subst hd;refine⟨ad,.agg ((List.range sz).map f).toArray,rfl,?_,.agg _ _ (by simp[hlen]) λj c v h1 h2=>?_⟩
   ·simp[loadVar,B6 hg,o5 hs,bJ hsp f sz hc]
   ·simp only[List.getElem?_toArray,List.getElem?_map] at h2;have hj:j<sz:=by rw[<- hlen];exact e7 h1
    rw[List.getElem?_range hj] at h2;simp only[Option.map_some,Option.some.injEq] at h2;subst h2;exact hrep j c h1
 | false =>
   simp only[eg,Bool.false_eq_true,if_false] at hd;split at hd
   ·rename_i c;cases hd;have h0:=hc 0 (by simp at hlen;omega);refine⟨ad,f 0,rfl,?_,.one _ _ (hrep 0 c rfl)⟩;have hcell:M.w.cell? ad=some (f 0):=by
     obtain⟨b,off,s⟩:=ad;simp only at hsp;subst hsp;exact h0
    simp[loadVar,B6 hg,hcell]
   ·cases hd
def kf (tmps:Array Value):ResultVar->Sem Value
 | .tmp t=>pure (tmps.getD t undef)
 | .cell b t=>do loadVar t (<- asAddr (tmps.getD b undef))
theorem qA (fn:Func) (tmps:Array Value):results fn tmps=(do let vs <- fn.results.mapM (kf tmps);pure (if h:vs.size=1 then vs[0] else .tuple vs)):=by
 unfold results;refine congrArg (λ(F:ResultVar->Sem Value)=>((do let vs <- fn.results.mapM F;pure (if h:vs.size=1 then vs[0] else .tuple vs)):Sem Value)) ?_;funext x;cases x<;>rfl
theorem dj {a:Act} {M:MS} (hr:Rel G S a M):∀ (xs:List ResultVar) (ds:List DV),L4 P S xs=some ds ->
 ∃ vs:List Value,(xs.mapM (kf a.tmps)).run P M.w=.ok vs M.w/\ds.length=vs.length /\
  ∀ (j:Nat) (d:DV) (v:Value),ds[j]?=some d->vs[j]?=some v->RepV M d v
 | [],ds,h=>by cases h;exact⟨[],by simp,rfl,λj d v h=>by simp at h⟩
 | x :: xs,ds,h=>by
   simp only[L4] at h;split at h
   ·rename_i d l hd hl;cases h;obtain⟨vs,h1,h2,h3⟩:=dj hr xs l hl;have:∃ v,(kf a.tmps x).run P M.w=.ok v M.w/\RepV M d v:=by
     cases x with
     | tmp t =>
       obtain⟨v,e1,e2⟩:=hr.tm t d hd;exact⟨v,by simp[kf,Array.getD_eq_getD_getElem?,e1],e2⟩
     | cell b t =>
       simp only[nL] at hd;split at hd
       ·rename_i p sz ag e1 e2 e3;split at hd
        ·rename_i ll hll;obtain⟨v,e4,e5⟩:=hr.tm b _ e1;cases e5 with
         | one _ _ e5 =>
           obtain⟨ad,u,rfl,hrun,hu⟩:=qy hr.m e2 e3 e5 (by rw[hr.ob];exact hll) hd;exact⟨u,by simp[kf,Array.getD_eq_getD_getElem?,e4,asAddr,hrun],hu⟩
        ·cases hd
       ·cases hd
    obtain⟨v,e1,e2⟩:=this;refine⟨v :: vs,?_,by simp[h2],λj e u he hu=>?_⟩
    ·rw[List.mapM_cons,Sem.run_bind,e1,Result.andThen_ok,Sem.run_bind,h1];rfl
    ·cases j with
     | zero=>simp at he hu;subst he;subst hu;exact e2
     | succ j=>exact h3 j e u (by simpa using he) (by simpa using hu)
   ·cases h
def BO (P:Program) (rs:List ResultVar) (Q:DV->List DObj->Prop) (e:Exit) (S:DS):Prop:=(e=.normal\/e=.ret)/\∃ ds,L4 P S rs=some ds/\Q (L8 ds) S.objs
theorem At.fn_ret {rs:List ResultVar} {Q:DV->List DObj->Prop} {ds:List DV} (h:L4 P S rs=some ds) (hq:Q (L8 ds) S.objs):At (BO P rs Q) .ret ⟨⟩ S:=⟨.inr rfl,ds,h,hq⟩
theorem At.fn_end {rs:List ResultVar} {Q:DV->List DObj->Prop} {ds:List DV} (h:L4 P S rs=some ds) (hq:Q (L8 ds) S.objs):At (BO P rs Q) .normal ⟨⟩ S:=⟨.inl rfl,ds,h,hq⟩
theorem i8 {f:FuncId} {fn:Func} {c:Code} {nt:Nat} {args:List DV} {objs:List DObj} {Q:DV->List DObj->Prop} (hf:P.funcs[f]?=some fn) (hb:fn.body=some c) (hnt:fn.ntmps=nt) (hargs:args.length<=nt) {rs:List ResultVar} (hrs:fn.results.toList=rs)
 (h:DT P G ⟨objs.length,none⟩ c ⟨nt,cJ args 0,objs⟩ (BO P rs Q)):DCall P G f args objs Q:=by
 subst hrs;intro M vs hm hob hvs hrep;refine(callsIn_wide (n:=0)).1 (callsIn_of_wp_marks hf hb trivial ?_);have hrel:Rel G ⟨nt,cJ args 0,objs⟩ { tmps:=vs++Array.replicate (fn.ntmps-vs.size) undef,defers:=[] } M:=by
  refine⟨hm,hob,by simp[hnt,hvs];omega,⟨[],rfl,by simp,by simp⟩,λt d ht=>?_⟩;obtain⟨_,h2⟩:=jY args 0 t d ht;simp only[Nat.sub_zero] at h2;have hlt:=e7 h2;have hv:vs[t]?=some vs[t]:=by simp[hvs,hlt]
  refine⟨vs[t],?_,hrep t d _ h2 hv⟩;rw[Array.getElem?_append_left (by omega)];exact hv
 refine wpIn_mono (h (Nat.le_refl _) (λo ho=>by cases ho) _ M hrel) ?_;rintro e a' w' ⟨S',M',rfl,hr',he,hnd,hen,ds,hds,hq⟩;obtain⟨Ds,hD1,hD2,hD3⟩:=hr'.df;obtain⟨hmS,hbS,hsS⟩:=hr'.m.shut (ds:=Ds) (λD hD=>(hD3 D hD).1);have hge:∀ D∈Ds,M.w.heap.size<=D:=λD hD=>by
  rcases hnd (mark D) (by rw[hD1];exact List.mem_map.2 ⟨D,hD,rfl⟩) with h1|⟨D',h1,h2⟩
  ·cases h1
  ·simp only[mark,Deferred.mk.injEq,Target.collected.injEq,and_true] at h1;subst h1;exact h2
 have hext:Ext objs.length M { M' with w:=E0 Ds M'.w }:=by
  obtain⟨hs1,hs2⟩:=bG Ds M'.w;have hbs:∀ b,¬ M'.F b->H3 (E0 Ds M'.w) b=H3 M'.w b:=λb hb'=>by simp only[H3,hbS b hb']
  refine⟨he.len,λb hb=>?_,⟨he.other.1,he.other.2⟩,by simpa[hsS] using he.hs,he.row,λo ho sz es' g nl hv=>?_,he.map,he.lp,he.it,he.lp',he.io.trans (ot Ds M'.w)⟩
  ·obtain⟨h1,h2⟩:=he.free b hb;refine⟨⟨by simpa[hsS] using h1.1,h1.2⟩,?_⟩;rw[<- h2];exact hs2 b λhD=>absurd (hge b hD) (Nat.not_le.2 hb.1)
  ·obtain⟨sz0,es,g0,nl0,a1,a2,a3⟩:=he.vec o ho sz es' g nl hv;refine⟨sz0,es,g0,nl0,a1,a2,λe=>?_⟩;obtain⟨b1,b2,b3⟩:=a3 e;refine⟨b1,b2,λhn=>⟨(b3 hn).1,?_⟩⟩;simp only;rw[hbs _ (hr'.m.own o _ hv (by simp[DObj.blk,hn]))];exact(b3 hn).2
 have hrS:Rel G S' { a' with defers:=[] } { M' with w:=E0 Ds M'.w }:=by
  refine⟨hmS,hr'.ob,hr'.nt,⟨[],rfl,by simp,by simp⟩,λt d ht=>?_⟩;obtain⟨v,h1,h2⟩:=hr'.tm t d ht;exact⟨v,h1,h2.shut hr'.m (λD hD=>(hD3 D hD).1)⟩
 obtain⟨us,h1,h2,h3⟩:=dj hrS _ _ hds;have hres:∃ v,(results fn a'.tmps).run P (E0 Ds M'.w)=.ok v (E0 Ds M'.w)/\RepV { M' with w:=E0 Ds M'.w } (L8 ds) v:=by
  have hrun:(results fn a'.tmps).run P (E0 Ds M'.w)=.ok (if h:us.toArray.size=1 then us.toArray[0] else .tuple us.toArray) (E0 Ds M'.w):=by
   rw[qA,Array.mapM_eq_mapM_toList,Sem.run_bind,Sem.run_map,h1];rfl
  refine⟨_,hrun,?_⟩;match ds,us,h2,h3 with
  | [d],[u],_,h3=>exact h3 0 d u rfl rfl
  | [],[],_,h3=>exact .tup _ _ rfl (λj d v h=>by simp at h)
  | d1 :: d2 :: r,u1 :: u2 :: r',h2,h3 =>
    have hne:¬ ((u1 :: u2 :: r').toArray.size=1):=by simp
    rw[dif_neg hne];exact .tup _ _ (by simpa using h2) (λj d v h5 h6=>h3 j d v h5 (by simpa using h6))
 obtain⟨v,hv1,hv2⟩:=hres;have hQ:LeavesInM Fence.wide 0 P fn a'.tmps (λe w'=>∃ v d M',e=.returned v/\M'.w=w'/\RelM G M'/\RepV M' d v/\Ext objs.length M M'/\Q d M'.objs) a'.defers .returning M'.w:=by
  rw[hD1];exact sR Ds _ hD2 (λD hD=>(hD3 D hD).2) ⟨v,hv1,v,_,_,rfl,rfl,hmS,hv2,hext,by rw[<- hr'.ob] at hq;exact hq⟩
 rcases hen with rfl|rfl<;>exact hQ
end
def J4 {α β:Type} (f:α->Option β):List α->Option (List β)
 | []=>some []
 | x :: r=>match f x,J4 f r with
   | some y,some l=>some (y :: l)
   | _,_=>none
theorem O8 {α β:Type} {f:α->Option β}:∀ {l:List α} {r:List β},J4 f l=some r->r.length=l.length/\∀ (i:Nat) (y:β),r[i]?=some y->∃ x,l[i]?=some x/\f x=some y
 | [],r,h=>by cases h;exact⟨rfl,λi y h=>by simp at h⟩
 | x :: l,r,h=>by
   simp only[J4] at h;split at h
   ·rename_i y l' hy hl;cases h;obtain⟨h1,h2⟩:=O8 hl;refine⟨by simp[h1],λi z hz=>?_⟩;cases i with
    | zero=>simp at hz;subst hz;exact⟨x,rfl,hy⟩
    | succ i=>obtain⟨w,h3,h4⟩:=h2 i z (by simpa using hz);exact⟨w,by simpa using h3,h4⟩
   ·cases h
def frz:Nat->Nat->List DObj->DC->Option IC
 | 0,_,_,_=>none
 | k+1,n,objs,d=>match d with
   | .im c=>some c
   | .ptr o off=>if n<=o then match objs[o]? with
    | some (.row c)=>if off<=c.length then (J4 (frz k n objs) (c.drop off)).map .ip else none
    | _=>none
     else none
   | .ept o g i off=>if n<=o then match objs[o]? with
    | some (.vec _ es g' _)=>if g=g' then match es[i]? with
     | some x=>if off<=x.length then (J4 (frz k n objs) (x.drop off)).map .ip else none
     | none=>none
      else none
    | _=>none
     else none
   | .vec o g off len=>if n<=o then match objs[o]? with
    | some (.vec _ es g' _)=>if g=g'/\off+len<=es.length then (J4 (J4 (frz k n objs)) ((es.drop off).take len)).map .sl else none
    | _=>none
     else none
   | .fn f caps=>(J4 (frz k n objs) caps).map (.fn f)
   | .map o=>if n<=o then match objs[o]? with
    | some (.map ks es)=>(J4 (λx=>(J4 (frz k n objs) x.2).map λl=>(x.1,l)) es).map (.mp (L5 ks))
    | _=>none
     else none
   | _=>none
theorem uB {G:Hn} {M:MS} (hm:RelM G M) {n:Nat} {ok':Nat->Prop} (h1:∀ b,M.ok b->ok' b) (h2:∀ o d,n<=o->M.objs[o]?=some d->d.blk=true->ok' (M.β o)) :
 ∀ (k:Nat) (d:DC) (c:IC) (v:Value),RepC M d v->frz k n M.objs d=some c->RepI M.w ok' c v:=by
 intro k;induction k with
 | zero=>intro d c v _ h;cases h
 | succ k ih =>
   intro d c v hp h;unfold frz at h;split at h
   ·cases h;cases hp with
    | im _ _ hp=>exact hp.mono λb hb=>⟨h1 b hb,rfl⟩
   ·rename_i o off;split at h
    ·rename_i hn;split at h
     ·rename_i cs ho;split at h
      ·rename_i hle;simp only[Option.map_eq_some_iff] at h;obtain⟨l,hl,rfl⟩:=h;obtain⟨hlen,hget⟩:=O8 hl;cases hp with
       | ptr _ _ _ a1 a2 a3 =>
         obtain⟨ca,T,b1,b2,b3⟩:=hm.objs o _ ho;rw[a3 cs ho];have key:∀ (j:Nat) (y:IC),l[j]?=some y->∃ x,cs[off+j]?=some x/\frz k n M.objs x=some y/\ca[off+j]?=some ((ca[off+j]?).getD undef):=λj y hj=>by
          obtain⟨x,hx,hfx⟩:=hget j y hj;rw[List.getElem?_drop] at hx;have hlt:=e7 hx;exact⟨x,hx,hfx,by simp[b2,hlt]⟩
         refine .ip l _ (λj=>(ca[off+j]?).getD undef) rfl (h2 o _ hn ho rfl) (λj y hj=>?_) (λj y hj=>?_)
         ·obtain⟨x,_,_,h5⟩:=key j y hj;simp only[World.cell?,b1];simpa using h5
         ·obtain⟨x,h3,h4,h5⟩:=key j y hj;exact ih x y _ (b3 _ x _ h3 h5) h4
      ·cases h
     ·cases h
    ·cases h
   ·rename_i o g i off;split at h
    ·rename_i hn;split at h
     ·rename_i sz es g' nl ho;split at h
      ·rename_i hg;subst hg;split at h
       ·rename_i xs hxs;split at h
        ·rename_i hle;simp only[Option.map_eq_some_iff] at h;obtain⟨l,hl,rfl⟩:=h;obtain⟨hlen,hget⟩:=O8 hl;cases hp with
         | ept _ _ _ _ _ a1 a2 a3 =>
           obtain⟨_,a4⟩:=a3 _ _ _ _ ho;obtain⟨rfl,rfl⟩:=a4 rfl;obtain⟨_,hf⟩:=hm.objs o _ ho;obtain⟨h0,ca,T,b1,b2,b3,b4⟩:=hf rfl;have hxl:=b3 i xs hxs;have hi:=e7 hxs;have hmul:(i+1)*sz<=es.length*sz:=Nat.mul_le_mul_right sz hi;rw[Nat.add_mul,Nat.one_mul] at hmul;have key:∀ (j:Nat) (y:IC),l[j]?=some y->∃ x,xs[off+j]?=some x/\frz k n M.objs x=some y/\ca[i*sz+off+j]?=some ((ca[i*sz+off+j]?).getD undef):=λj y hj=>by
            obtain⟨x,hx,hfx⟩:=hget j y hj;rw[List.getElem?_drop] at hx;have hlt:=e7 hx;have:i*sz+off+j<ca.size:=by omega
            exact⟨x,hx,hfx,by simp[this]⟩
           refine .ip l _ (λj=>(ca[i*sz+off+j]?).getD undef) rfl (h2 o _ hn ho rfl) (λj y hj=>?_) (λj y hj=>?_)
           ·obtain⟨x,_,_,h5⟩:=key j y hj;simp only[World.cell?,b1];simpa using h5
           ·obtain⟨x,h3,h4,h5⟩:=key j y hj;exact ih x y _ (b4 i xs (off+j) x _ hxs h3 (by rw[<- Nat.add_assoc];exact h5)) h4
        ·cases h
       ·cases h
      ·cases h
     ·cases h
    ·cases h
   ·rename_i o g off len;split at h
    ·rename_i hn;split at h
     ·rename_i sz es g' nl ho;split at h
      ·rename_i hg;obtain⟨rfl,hle⟩:=hg;simp only[Option.map_eq_some_iff] at h;obtain⟨l,hl,rfl⟩:=h;obtain⟨hlen,hget⟩:=O8 hl;have hlen':l.length=len:=by rw[hlen];simp;omega
       cases hp with
       | vec _ _ _ _ _ a1 a2 a3 =>
         obtain⟨_,a4⟩:=a3 _ _ _ _ ho;obtain⟨a5,a6⟩:=a4 rfl;obtain⟨hnil,hf⟩:=hm.objs o _ ho;rcases Bool.eq_false_or_eq_true nl with hnl|hnl
         ·obtain⟨rfl,rfl,rfl⟩:=a5 hnl;have:l=[]:=List.eq_nil_of_length_eq_zero hlen';subst this;exact .slnil
         ·obtain⟨xo,cap,rfl,hlc,hxo,hbs⟩:=a6 hnl;obtain⟨h0,ca,T,b1,b2,b3,b4⟩:=hf hnl;rw[<- hlen'];have key:∀ (i:Nat) (x:List IC),l[i]?=some x->∃ e,es[off+i]?=some e/\e.length=sz/\x.length=sz/\∀ (j:Nat) (y:IC),x[j]?=some y->∃ d,e[j]?=some d/\frz k n M.objs d=some y:=λi x hi=>by
           obtain⟨e,he,hfe⟩:=hget i x hi;rw[List.getElem?_take] at he;split at he
           ·rw[List.getElem?_drop] at he;obtain⟨h3,h4⟩:=O8 hfe;have h5:=b3 _ e he;exact⟨e,he,h5,by rw[h3];exact h5,h4⟩
           ·cases he
          have cell:∀ (i:Nat) (x:List IC) (j:Nat) (y:IC),l[i]?=some x->x[j]?=some y->ca[(off+i)*sz+j]?=some ((ca[(off+i)*sz+j]?).getD undef)/\xo+i*sz+j=(off+i)*sz+j:=λi x j y hi hj=>by
           obtain⟨e,he,h5,h6,h7⟩:=key i x hi;have hlt:=e7 he;have hj2:=e7 hj;have hmul:(off+i+1)*sz<=es.length*sz:=Nat.mul_le_mul_right sz hlt;rw[Nat.add_mul,Nat.one_mul] at hmul;have hin:(off+i)*sz+j<ca.size:=by omega
           have hcap:cap≠0:=by
            rintro rfl;have:l.length=0:=by omega
            have:=e7 hi;omega
           refine⟨by simp[hin],?_⟩;rw[hxo.resolve_left hcap,Nat.add_mul]
          refine .sl l _ cap sz (λi j=>(ca[(off+i)*sz+j]?).getD undef) rfl (λ_=>h2 o _ hn ho (by simp[DObj.blk,hnl])) (by omega) (λi x hi=>(key i x hi).choose_spec.2.2.1) (λi x j y hi hj=>?_) (λi x j y hi hj=>?_)
          ·obtain⟨c1,c2⟩:=cell i x j y hi hj;simp only[World.cell?,b1];rw[c2];simpa using c1
          ·obtain⟨c1,c2⟩:=cell i x j y hi hj;obtain⟨e,he,h5,h6,h7⟩:=key i x hi;obtain⟨d,hd,hfd⟩:=h7 j y hj;exact ih d y _ (b4 _ e j d _ he hd c1) hfd
      ·cases h
     ·cases h
    ·cases h
   ·rename_i f caps;simp only[Option.map_eq_some_iff] at h;obtain⟨l,hl,rfl⟩:=h;obtain⟨hlen,hget⟩:=O8 hl;cases hp with
    | fn _ _ vs a1 a2 =>
      refine .fn f l vs (by omega) λj c v hj hv=>?_;obtain⟨x,hx,hfx⟩:=hget j c hj;exact ih x c v (a2 j x v hx hv) hfx
   ·rename_i o;split at h
    ·rename_i hn;split at h
     ·rename_i ks es ho;simp only[Option.map_eq_some_iff] at h;obtain⟨l,hl,rfl⟩:=h;obtain⟨hlen,hget⟩:=O8 hl;cases hp with
      | map _ _ a1 a2 a3 =>
        obtain⟨ents,clock,b1,b2,b3,b4,b5⟩:=hm.objs o _ ho;rw[a3 _ _ ho];have key:∀ (i:Nat) (y:List Value×List IC),l[i]?=some y->∃ x e,es[i]?=some x/\ents[i]?=some e/\y.1=x.1/\y.2.length=x.2.length/\(∀ (j:Nat) (c:IC),y.2[j]?=some c->∃ d,x.2[j]?=some d/\frz k n M.objs d=some c)/\vp M x e:=λi y hi=>by
         obtain⟨x,hx,hfx⟩:=hget i y hi;simp only[Option.map_eq_some_iff] at hfx;obtain⟨l2,hl2,rfl⟩:=hfx;obtain⟨h3,h4⟩:=O8 hl2;have hlt:i<ents.size:=by rw[b4];exact e7 hx
         have he:ents[i]?=some ents[i]:=by simp[hlt]
         exact⟨x,_,hx,he,rfl,h3,h4,b5 i x _ hx he⟩
        refine .mp (L5 ks) l (M.β o) ents clock (λi j=>(((ents[i]?).map (·.val.cells)).bind (·[j]?)).getD undef) (h2 o _ hn ho rfl) b1 b2.1 (λy hy=>?_) (by rw[b4,hlen]) (λi y e hi he=>?_) (λi y j c hi hj=>?_)
        ·obtain⟨i,hi⟩:=List.mem_iff_getElem?.1 hy;obtain⟨x,e,g1,g2,g3,_⟩:=key i y hi;rw[g3];exact b3 x (List.mem_of_getElem? g1)
        ·obtain⟨x,e',g1,g2,g3,g4,g5,g6,g7,g8⟩:=key i y hi;rw[he] at g2;cases g2;refine⟨by rw[g6,g3],?_⟩;have hcells:e.val=F5 e.val.cells.toList/\e.val.cells.size=x.2.length:=by
          generalize e.val=v at g8;match hx2:x.2,g8 with
          | [c],g8=>cases g8 with
            | one _ _ hc=>have:=hc.isOne;cases v<;>first|(exact⟨rfl,rfl⟩)|(simp[isOne] at this)
          | [],g8=>cases g8 with
            | agg _ cs hl2 _ =>
              have:cs=#[]:=Array.eq_empty_of_size_eq_zero (by simpa using hl2.symm);subst this;exact⟨rfl,rfl⟩
          | a :: b :: r,g8=>cases g8 with
            | agg _ cs hl2 _ =>
              refine⟨?_,by simpa[Value.cells] using hl2.symm⟩;simp only[Value.cells];match hcs:cs.toList with
              | []=>have:=congrArg List.length hcs;simp at this;simp[this] at hl2
              | [c]=>have:=congrArg List.length hcs;simp at this;simp[this] at hl2
              | c1 :: c2 :: r2=>simp only[F5];rw[<- hcs]
         rw[hcells.1]
         congr 1
         refine List.ext_getElem? λj=>?_;rw[List.getElem?_map];by_cases hj:j<y.2.length
         ·rw[List.getElem?_range hj];have:j<e.val.cells.size:=by rw[hcells.2,<- g4];exact hj
          simp[he,this]
         ·rw[List.getElem?_eq_none (by simp;omega),List.getElem?_eq_none (by simp;omega)];rfl
        ·obtain⟨x,e,g1,g2,g3,g4,g5,g6,g7,g8⟩:=key i y hi;obtain⟨d,hd,hfd⟩:=g5 j c hj;have:∃ v,e.val.cells[j]?=some v/\RepC M d v:=by
          generalize e.val=v at g8;match hx2:x.2,g8 with
          | [c0],g8=>cases g8 with
            | one _ _ hc =>
              rw[hx2] at hd;cases j with
              | zero =>
                simp at hd;subst hd;have:=hc.isOne;cases v<;>first|exact⟨_,rfl,hc⟩|(simp[isOne] at this)
              | succ j=>simp at hd
          | [],g8=>rw[hx2] at hd;simp at hd
          | a :: b :: r,g8=>cases g8 with
            | agg _ cs hl2 hcs =>
              rw[hx2] at hd;have hlt:j<cs.size:=by rw[<- hl2];exact e7 hd
              exact⟨cs[j],by simp[Value.cells,hlt],hcs j d _ hd (by simp[hlt])⟩
         obtain⟨v,hv1,hv2⟩:=this;have:=ih d c v hv2 hfd;simpa[g2,hv1] using this
     ·cases h
    ·cases h
   ·cases h
mutual
def DC.lt (n:Nat):DC->Bool
 | .im _=>true
 | .ptr o _=>decide (o<n)
 | .ept o _ _ _=>decide (o<n)
 | .vec o _ _ _=>decide (o<n)
 | .fn _ caps=>DC.ltL n caps
 | .map o=>decide (o<n)
 | .yld o=>decide (o<n)
 | .itr o=>decide (o<n)
 | .dead=>true
def DC.ltL (n:Nat):List DC->Bool
 | []=>true
 | c :: r=>DC.lt n c&&DC.ltL n r
end
theorem DC.ltL_get {n:Nat}:∀ {l:List DC} {j:Nat} {c:DC},DC.ltL n l=true->l[j]?=some c->DC.lt n c=true
 | [],j,c,_,h=>by simp at h
 | d :: l,j,c,h,hj=>by
   simp only[DC.ltL,Bool.and_eq_true] at h;cases j with
   | zero=>simp at hj;subst hj;exact h.1
   | succ j=>exact DC.ltL_get h.2 (by simpa using hj)
def fz (n:Nat) (objs:List DObj) (d:DC):DC:=
 match d with
 | .im c=>.im c
 | d=>if d.lt n then d else match frz 20 n objs d with
   | some c=>.im c
   | none=>.dead
mutual
def fB (n:Nat) (objs:List DObj):DV->DV
 | .one c=>.one (fz n objs c)
 | .agg l=>.agg (l.map (fz n objs))
 | .tup l=>.tup (fzVL n objs l)
def fzVL (n:Nat) (objs:List DObj):List DV->List DV
 | []=>[]
 | d :: r=>fB n objs d :: fzVL n objs r
end
theorem pk (n:Nat) (objs:List DObj):∀ (l:List DV),fzVL n objs l=l.map (fB n objs)
 | []=>rfl
 | d :: r=>by rw[fzVL,pk n objs r];rfl
theorem jE {f:DV->DV}:∀ {l:List (Nat×DV)} {t:Nat} {d:DV},m8 (l.map λx=>(x.1,f x.2)) t=some d->∃ d0,m8 l t=some d0/\d=f d0
 | [],t,d,h=>by simp[m8] at h
 | x :: l,t,d,h=>by
   simp only[List.map_cons,m8] at h ⊢;split at h
   ·rename_i ht;cases h;exact⟨x.2,by rw[if_pos ht],rfl⟩
   ·rename_i ht;obtain⟨d0,h1,h2⟩:=jE h;exact⟨d0,by rw[if_neg ht];exact h1,h2⟩
def qd (n:Nat) (objs:List DObj):DObj->DObj
 | .row c=>.row (c.map (fz n objs))
 | .vec sz es g nl=>.vec sz (es.map (·.map (fz n objs))) g nl
 | .map ks es=>.map ks (es.map λx=>(x.1,x.2.map (fz n objs)))
 | .loop r=>.loop { r with tm:=r.tm.map λx=>(x.1,fB n objs x.2) }
 | .iter l c=>.iter l c
 | .liter b s c=>.liter b s c
 | .gone=>.gone
def R9 (n:Nat) (objs:List DObj):List DObj:=(objs.take n).map (qd n objs)
theorem dQ {n:Nat} {objs:List DObj} (d:DObj):(qd n objs d).blk=d.blk:=by cases d<;>rfl
def MS.drop (M:MS) (n:Nat):MS:={ M with objs:=R9 n M.objs }
theorem v8 {n o:Nat} {objs:List DObj} {d':DObj} (h:(R9 n objs)[o]?=some d'):o<n/\∃ d,objs[o]?=some d/\d'=qd n objs d:=by
 unfold R9 at h;rw[List.getElem?_map,Option.map_eq_some_iff] at h;obtain⟨d,h1,rfl⟩:=h;rw[List.getElem?_take] at h1;split at h1
 ·exact⟨by assumption,d,h1,rfl⟩
 ·cases h1
theorem rz {n o:Nat} {objs:List DObj} {d:DObj} (hn:o<n) (h:objs[o]?=some d):(R9 n objs)[o]?=some (qd n objs d):=by
 unfold R9;rw[List.getElem?_map,List.getElem?_take,if_pos hn,h];rfl
theorem uJ {M:MS} {n b:Nat} (h:(M.drop n).live b):M.live b:=by
 obtain⟨o,d',ho,hb,hβ⟩:=h;obtain⟨_,d,h1,rfl⟩:=v8 ho;exact⟨o,d,h1,by rw[<- dQ];exact hb,hβ⟩
theorem mM {M:MS} {n b:Nat} (h:M.free b):(M.drop n).free b:=⟨h.1,λhl=>h.2 (uJ hl)⟩
theorem jH {M:MS} {n b:Nat} (h:M.ok b):(M.drop n).ok b:=⟨mM h.1,h.2⟩
theorem xY {G:Hn} {M:MS} (hm:RelM G M) {n o:Nat} {d:DObj} (hn:n<=o) (ho:M.objs[o]?=some d) (hb:d.blk=true):(M.drop n).ok (M.β o):=by
 refine⟨⟨hm.lt o d ho hb,?_⟩,hm.own o d ho hb⟩;rintro⟨p,e',hp,he,hβ⟩;obtain⟨hlt,e,h1,rfl⟩:=v8 hp;have:=hm.inj p o e d h1 ho (by rw[<- dQ];exact he) hb hβ;omega
theorem Ext.drop {M:MS} {n:Nat} (hn:n<=M.objs.length):Ext n M (M.drop n):=by
 refine⟨by simp[MS.drop,R9];omega,λb h=>⟨mM h,rfl⟩,cv M,Nat.le_refl _,λo ho c' hc=>?_,λo ho sz es' g nl hv=>?_,λo ho ks es' hm=>?_,λo ho r' hm=>?_,λo ho d' hm hi=>?_,λo ho r hm=>?_,⟨rfl,rfl,rfl,by first|exact Nat.le_refl _|exact Nat.le_succ _⟩⟩
 ·obtain⟨_,d,h1,h2⟩:=v8 hc;cases d<;>simp[qd] at h2;exact⟨⟨_,h1⟩,rfl⟩
 ·obtain⟨_,d,h1,h2⟩:=v8 hv;cases d<;>simp[qd] at h2;obtain⟨rfl,_,rfl,rfl⟩:=h2;exact⟨_,_,_,_,h1,Nat.le_refl _,λ_=>⟨rfl,rfl,λ_=>⟨rfl,rfl⟩⟩⟩
 ·obtain⟨_,d,h1,h2⟩:=v8 hm;cases d<;>simp[qd] at h2;exact⟨⟨_,_,h1⟩,rfl⟩
 ·obtain⟨_,d,h1,h2⟩:=v8 hm;cases d<;>simp[qd] at h2;exact⟨⟨_,h1⟩,rfl⟩
 ·obtain⟨_,d,h1,h2⟩:=v8 hm;exact⟨⟨_,h1,by cases d<;>simp_all [qd,DObj.isIt]⟩,rfl⟩
 ·exact⟨⟨_,rz ho hm⟩,rfl⟩
theorem RepC.drop_lt {M:MS} {n:Nat} (hn:n<=M.objs.length) {d:DC} {v:Value} (r:RepC M d v) (hl:d.lt n=true):RepC (M.drop n) d v:=by
 have hlen:(M.drop n).objs.length=n:=by simp[MS.drop,R9];omega
 induction r with
 | im c v h=>exact .im _ _ (h.mono λb hb=>⟨jH hb,rfl⟩)
 | ptr o off v h1 h2 h3 =>
   have ho:o<n:=by simpa[DC.lt] using hl
   refine .ptr o off v h1 (by omega) λc hc=>?_;obtain⟨_,d,h4,h5⟩:=v8 hc;cases d<;>simp[qd] at h5;exact h3 _ h4
 | ept o g i off v h1 h2 h3 =>
   have ho:o<n:=by simpa[DC.lt] using hl
   refine .ept o g i off v h1 (by omega) λsz es g' nl hc=>?_;obtain⟨_,d,h4,h5⟩:=v8 hc;cases d<;>simp[qd] at h5;obtain⟨rfl,_,rfl,rfl⟩:=h5;exact h3 _ _ _ _ h4
 | vec o g off len v h1 h2 h3 =>
   have ho:o<n:=by simpa[DC.lt] using hl
   refine .vec o g off len v h1 (by omega) λsz es g' nl hc=>?_;obtain⟨_,d,h4,h5⟩:=v8 hc;cases d<;>simp[qd] at h5;obtain⟨rfl,_,rfl,rfl⟩:=h5;exact h3 _ _ _ _ h4
 | fn f caps vs h1 _ ih =>
   refine .fn f caps vs h1 λj c v hj hv=>ih j c v hj hv ?_;rw[DC.lt] at hl;exact DC.ltL_get hl hj
 | map o v h1 h2 h3 =>
   have ho:o<n:=by simpa[DC.lt] using hl
   refine .map o v h1 (by omega) λks es hc=>?_;obtain⟨_,d,h4,h5⟩:=v8 hc;cases d<;>simp[qd] at h5;exact h3 _ _ h4
 | yld o v h1 h2 h3 =>
   have ho:o<n:=by simpa[DC.lt] using hl
   refine .yld o v h1 (by omega) λr hc=>?_;obtain⟨_,d,h4,h5⟩:=v8 hc;cases d<;>simp[qd] at h5;exact h3 _ h4
 | itr o v h1 h2 h3 =>
   have ho:o<n:=by simpa[DC.lt] using hl
   refine .itr o v h1 (by omega) λd' hc hi=>?_;obtain⟨_,d,h4,h5⟩:=v8 hc;exact h3 _ h4 (by cases d<;>simp_all [qd,DObj.isIt])
 | dead v h=>exact .dead v h
theorem RepC.drop {G:Hn} {M:MS} (hm:RelM G M) {n:Nat} (hn:n<=M.objs.length) {d:DC} {v:Value} (r:RepC M d v):RepC (M.drop n) (fz n M.objs d) v:=by
 have key:RepC (M.drop n) (if d.lt n then d else match frz 20 n M.objs d with
  | some c=>.im c
  | none=>.dead) v:=by
  split
  ·rename_i hl;exact r.drop_lt hn hl
  ·split
   ·rename_i c hc;exact .im _ _ (uB hm (λb hb=>jH hb) (λo d ho h1 h2=>xY hm ho h1 h2) 20 d c v r hc)
   ·exact .dead _ r.isOne
 unfold fz;cases d with
 | im c=>exact r.drop_lt hn (by simp[DC.lt])
 | _=>exact key
theorem RepV.drop {G:Hn} {M:MS} (hm:RelM G M) {n:Nat} (hn:n<=M.objs.length) {d:DV} {v:Value} (r:RepV M d v):RepV (M.drop n) (fB n M.objs d) v:=by
 induction r with
 | one c v h=>rw[fB];exact .one _ _ (h.drop hm hn)
 | agg l cs h1 h2 =>
   rw[fB];refine .agg _ _ (by simpa using h1) λj c v hc hv=>?_;rw[List.getElem?_map,Option.map_eq_some_iff] at hc;obtain⟨c0,h3,rfl⟩:=hc;exact(h2 j c0 v h3 hv).drop hm hn
 | tup l vs h1 _ ih =>
   rw[fB,pk];refine .tup _ _ (by simpa using h1) λj d v hd hv=>?_;rw[List.getElem?_map,Option.map_eq_some_iff] at hd;obtain⟨d0,h3,rfl⟩:=hd;exact ih j d0 v h3 hv
theorem RelM.drop {G:Hn} {M:MS} (hm:RelM G M) {n:Nat} (hn:n<=M.objs.length):RelM G (M.drop n):=by
 refine⟨λo d' ho=>?_,λo d' ho hb=>?_,λo o' d1 d2 ho ho' hb hb' hβ=>?_,λg l hg=>(hm.glob g l hg).mono λb hb=>⟨jH hb,rfl⟩,hm.fl,λo d' ho hb=>?_⟩
 ·obtain⟨hlt,d,h1,rfl⟩:=v8 ho;have hr:=hm.objs o d h1;cases d with
  | row cells =>
    obtain⟨c,T,a1,a2,a3⟩:=hr;refine⟨c,T,a1,by simpa using a2,λj d v hd hv=>?_⟩;rw[List.getElem?_map,Option.map_eq_some_iff] at hd;obtain⟨d0,h2,rfl⟩:=hd;exact(a3 j d0 v h2 hv).drop hm hn
  | vec sz es g nl =>
    obtain⟨a0,hf⟩:=hr;refine⟨λh=>by simp[a0 h],λhnl=>?_⟩;obtain⟨h0,c,T,a1,a2,a3,a4⟩:=hf hnl;refine⟨h0,c,T,a1,by simpa using a2,λi x hx=>?_,λi x j d v hx hd hv=>?_⟩
    ·rw[List.getElem?_map,Option.map_eq_some_iff] at hx;obtain⟨x0,h2,rfl⟩:=hx;simpa using a3 i x0 h2
    ·rw[List.getElem?_map,Option.map_eq_some_iff] at hx;obtain⟨x0,h2,rfl⟩:=hx;rw[List.getElem?_map,Option.map_eq_some_iff] at hd;obtain⟨d0,h3,rfl⟩:=hd;exact(a4 i x0 j d0 v h2 h3 hv).drop hm hn
  | map ks es =>
    obtain⟨ents,clock,a1,ast,ash,a2,a3⟩:=hr;refine⟨ents,clock,a1,ast,(λx hx=>by
     obtain⟨x0,h0,rfl⟩:=List.mem_map.1 hx;exact ash x0 h0),by simpa using a2,λi x e hx he=>?_⟩
    rw[List.getElem?_map,Option.map_eq_some_iff] at hx;obtain⟨x0,h2,rfl⟩:=hx;obtain⟨b1,b2,b3⟩:=a3 i x0 e h2 he;refine⟨b1,b2,?_⟩;have hv:F3 (x0.2.map (fz n M.objs))=fB n M.objs (F3 x0.2):=by
     match x0.2 with
     | []=>rfl
     | [c]=>rfl
     | c :: c' :: r=>rfl
    simp only;rw[hv];exact b3.drop hm hn
  | loop lr =>
    obtain⟨fn,tmps,D,a1,a2,a3⟩:=hr;refine⟨fn,tmps,D,a1,a2,λt d ht=>?_⟩;obtain⟨d0,h2,rfl⟩:=jE ht;obtain⟨v,e1,e2⟩:=a3 t d0 h2;exact⟨v,e1,e2.drop hm hn⟩
  | iter left cur =>
    obtain⟨bm,seen,ents,clock,a1,a2,a3,a4,a5,a6,a7⟩:=hr;have hE:∀ {x:List Value×List IC} {e:MapEntry},X2 M x e->X2 (M.drop n) x e:=λ{x e} ⟨b1,b2,b3⟩=>⟨b1,b2,by
     have hv:fB n M.objs (F3 (x.2.map .im))=F3 (x.2.map .im):=by
      match x.2 with
      | []=>rfl
      | [c]=>rfl
      | c :: c' :: r=>simp[F3,fB,fz]
     rw[<- hv];exact b3.drop hm hn⟩
    exact⟨bm,seen,ents,clock,a1,jH a2,a3,a4,a5,λi x e a b=>hE (a6 i x e a b),λx hx=>by
     obtain⟨e,a,b,c⟩:=a7 x hx;exact⟨e,a,b,hE c⟩⟩
  | liter b seen c=>exact hr
  | gone=>trivial
 ·obtain⟨hlt,d,h1,rfl⟩:=v8 ho;exact hm.lt o d h1 (by rw[<- dQ];exact hb)
 ·obtain⟨hlt,e1,h1,rfl⟩:=v8 ho;obtain⟨hlt',e2,h2,rfl⟩:=v8 ho';exact hm.inj o o' e1 e2 h1 h2 (by rw[<- dQ];exact hb) (by rw[<- dQ];exact hb') hβ
 ·obtain⟨hlt,d,h1,rfl⟩:=v8 ho;exact hm.own o d h1 (by rw[<- dQ];exact hb)
section
variable {P:Program} {G:Hn} {S:DS}
def DS.drop (S:DS) (n:Nat):DS:={ nt:=S.nt,tmps:=S.tmps.map λx=>(x.1,fB n S.objs x.2),objs:=R9 n S.objs }
theorem Weak.drop {n:Cx} {m:Nat} (hm:m<=S.objs.length) (hn:n.n<=m):Weak G n S (S.drop m):=by
 intro _ a M hr;have hm':m<=M.objs.length:=by rw[hr.ob];exact hm
 refine⟨M.drop m,rfl,⟨hr.m.drop hm',by simp[MS.drop,DS.drop,hr.ob],hr.nt,W5 hr.m (Ext.drop hm') hr.df,λt d ht=>?_⟩,(Ext.drop hm').weaken hn⟩;obtain⟨d0,h1,rfl⟩:=jE ht;obtain⟨v,h2,h3⟩:=hr.tm t d0 h1;exact⟨v,h2,by rw[<- hr.ob];exact h3.drop hr.m hm'⟩
theorem DCall.drop {f:FuncId} {args:List DV} {objs:List DObj} {Q:DV->List DObj->Prop} (h:DCall P G f args objs (λd objs'=>Q (fB objs.length objs' d) (R9 objs.length objs'))):DCall P G f args objs Q:=
 λM vs h1 h2 h3 h4=>(h M vs h1 h2 h3 h4).mono λ_ _ ⟨v,d,M',a1,a2,a3,a4,a5,a6⟩ =>
  ⟨v,fB objs.length M'.objs d,M'.drop objs.length,a1,a2,a3.drop a5.len,a4.drop a3 a5.len,a5.trans (Ext.drop a5.len),a6⟩
inductive ImV:DV->Prop
 | one (c:IC):ImV (.one (.im c))
 | agg (l:List DC):(∀ d∈l,∃ c,d=.im c)->ImV (.agg l)
 | tup (l:List DV):(∀ d∈l,ImV d)->ImV (.tup l)
theorem RepV.imm {M M':MS} (h:∀ b,M.ok b->M'.ok b/\M'.w.heap[b]?=M.w.heap[b]?) {d:DV} {v:Value} (r:RepV M d v) (hi:ImV d):RepV M' d v:=by
 induction r with
 | one c v hc =>
   cases hi;cases hc with
   | im _ _ hc=>exact .one _ _ (.im _ _ (hc.mono h))
 | agg l cs h1 h2 =>
   cases hi with
   | agg _ hall =>
     refine .agg _ _ h1 λj c v hj hv=>?_;obtain⟨c0,rfl⟩:=hall c (List.mem_of_getElem? hj);cases h2 j _ v hj hv with
     | im _ _ hc=>exact .im _ _ (hc.mono h)
 | tup l vs h1 _ ih =>
   cases hi with
   | tup _ hall=>exact .tup _ _ h1 λj d v hj hv=>ih j d v hj hv (hall d (List.mem_of_getElem? hj))
theorem DCall.frame {f:FuncId} {args:List DV} {d0:DV} (h:DCall P G f args [] (λd objs'=>fB 0 objs' d=d0)) (ha:∀ d∈args,ImV d) (hd:ImV d0) (objs:List DObj) :
 DCall P G f args objs (λd objs'=>d=d0/\objs'=objs):=by
 intro M vs hm hob hvs hrep;have hok:∀ b,MS.ok { w:=M.w,β:=M.β,objs:=[],F:=λb=>M.F b\/M.live b } b↔M.ok b:=λb=>by
  simp only[MS.ok,MS.free,MS.live];constructor
  ·rintro⟨⟨h1,_⟩,h2⟩;exact⟨⟨h1,λh=>h2 (.inr h)⟩,λh=>h2 (.inl h)⟩
  ·rintro⟨⟨h1,h2⟩,h3⟩;exact⟨⟨h1,by simp⟩,λh=>h.elim h3 h2⟩
 have hm0:RelM G { w:=M.w,β:=M.β,objs:=[],F:=λb=>M.F b\/M.live b }:=
  ⟨λo d ho=>by simp at ho,λo d ho=>by simp at ho,λo o' d d' ho=>by simp at ho,λg l hg=>(hm.glob g l hg).mono λb hb=>⟨(hok b).2 hb,rfl⟩,
   λb hb=>hb.elim (hm.fl b) (λ⟨o,d,h1,h2,h3⟩=>h3 ▸ hm.lt o d h1 h2),λo d ho=>by simp at ho⟩
 refine(h _ vs hm0 rfl hvs λj d v hd hv=>(hrep j d v hd hv).imm (λb hb=>⟨(hok b).2 hb,rfl⟩) (ha d (List.mem_of_getElem? hd))).mono ?_;rintro e w' ⟨v,d,M1,rfl,rfl,hm1,hv,he,hq⟩;have hv2:=hv.drop hm1 (Nat.zero_le _);rw[hq] at hv2;have hF:∀ b,M.F b\/M.live b->M1.F b:=he.other.1;have same:∀ b,b<M.w.heap.size->b<M1.w.heap.size/\M1.w.heap[b]?=M.w.heap[b]?:=λb hb=>by
  have:=he.free b ⟨hb,λ⟨o,d,h1,_⟩=>by simp at h1⟩;exact⟨this.1.1,this.2⟩
 have hlive:∀ b,MS.live { w:=M1.w,β:=M.β,objs:=M.objs,F:=M.F } b↔M.live b:=λb=>Iff.rfl;have hext:Ext M.objs.length M { w:=M1.w,β:=M.β,objs:=M.objs,F:=M.F }:=by
  refine⟨Nat.le_refl _,λb hb=>⟨⟨(same b hb.1).1,hb.2⟩,(same b hb.1).2⟩,cv M,he.hs,λo _ c' hc=>⟨⟨c',hc⟩,rfl⟩,λo _ sz es g nl hv=>⟨sz,es,g,nl,hv,Nat.le_refl _,λ_=>⟨rfl,rfl,λhn=>⟨rfl,?_⟩⟩⟩,λo _ ks es hc=>⟨⟨ks,es,hc⟩,rfl⟩,λo _ r hc=>⟨⟨r,hc⟩,rfl⟩,λo _ d hc hi=>⟨⟨d,hc,hi⟩,rfl⟩,λo _ r hc=>⟨⟨r,hc⟩,rfl⟩,he.io⟩;simp only[H3];rw[(same _ (hm.lt o _ hv (by simp[DObj.blk,hn]))).2]
 refine⟨v,d0,{ w:=M1.w,β:=M.β,objs:=M.objs,F:=M.F },rfl,rfl,?_,?_,by rw[<- hob];exact hext,rfl,hob⟩
 ·exact⟨λo d ho=>(hm.objs o d ho).ext hext (λ_=>rfl) (λhb=>(same _ (hm.lt o d ho hb)).2),λo d ho hb=>(same _ (hm.lt o d ho hb)).1,hm.inj,λg l hg=>(hm.glob g l hg).mono hext.ok,
   λb hb=>(same b (hm.fl b hb)).1,hm.own⟩
 ·refine hv2.imm (λb hb=>?_) hd;obtain⟨⟨h1,_⟩,h2⟩:=hb;have h2':¬ (M.F b\/M.live b):=λh=>h2 (hF b h);exact⟨⟨⟨h1,λh=>h2' (.inr h)⟩,λh=>h2' (.inl h)⟩,rfl⟩
end
def dS (P:Program) (f:Field):Option CK:=
 if f.name = "_" then none else match P.underlying f.type with
 | some (.int k)=>some (.int k)
 | some .bool=>some .bool
 | _=>none
def V8 (P:Program):List Field->Nat->Option (List CK)
 | [],_=>some []
 | f :: r,i=>if f.offset=i then match dS P f,V8 P r (i+1) with
  | some k,some l=>some (k :: l)
  | _,_=>none
   else none
def u6 (P:Program) (t:TypeId):Option (List CK):=
 if P.stoodInHeld t=false/\P.eqGuardType P.depth t=false then match P.underlying t with
  | some (.struct fs)=>V8 P fs.toList 0
  | _=>none
 else none
section
variable {P:Program} {G:Hn} {S:DS}
theorem X6 {w:World} (d:Nat) (xs ys:Array Value):∀ (fs:List Field) (i:Nat) (ks:List CK),V8 P fs i=some ks->h9 ks (xs.toList.drop i)=true->h9 ks (ys.toList.drop i)=true ->
 (Op.eqFields (d+1) xs ys fs).run P w=.ok (v6 (xs.toList.drop i) (ys.toList.drop i)) w
 | [],i,ks,h,hx,hy=>by
   cases h;have e1:xs.toList.drop i=[]:=by
    cases hh:xs.toList.drop i with
    | nil=>rfl
    | cons a l=>rw[hh] at hx;cases a<;>simp[h9] at hx
   have e2:ys.toList.drop i=[]:=by
    cases hh:ys.toList.drop i with
    | nil=>rfl
    | cons a l=>rw[hh] at hy;cases a<;>simp[h9] at hy
   rw[e1,e2];rfl
 | f :: fs,i,ks,h,hx,hy=>by
   simp only[V8] at h;split at h
   ·rename_i hoff;split at h
    ·rename_i k l hk hl;cases h;unfold dS at hk;split at hk
     ·cases hk
     ·rename_i hname;have get:∀ (zs:Array Value),h9 (k :: l) (zs.toList.drop i)=true->∃ v,zs[i]?=some v/\zs.toList.drop i=v :: zs.toList.drop (i+1):=λzs hz=>by
       cases hh:zs.toList.drop i with
       | nil=>rw[hh] at hz;cases k<;>simp[h9] at hz
       | cons v r =>
         have h1:zs.toList[i]?=some v:=by
          have:=congrArg (λl=>l[0]?) hh;simpa using this
         refine⟨v,by simpa using h1,?_⟩;have:=congrArg (List.drop 1) hh;rw[List.drop_drop] at this;simp only[List.drop_succ_cons,List.drop_zero] at this;rw[this]
      obtain⟨vx,hvx,ex⟩:=get xs hx;obtain⟨vy,hvy,ey⟩:=get ys hy;rw[ex] at hx ⊢;rw[ey] at hy ⊢;have hagg:(isAgg f.type).run P w=.ok false w:=by
       split at hk
       ·rename_i hu;exact B6 (by simp[mb,hu])
       ·rename_i hu;exact B6 (by simp[mb,hu])
       ·cases hk
      have hpart:∀ (zs:Array Value) v,zs[i]?=some v->(part f.type zs f.offset).run P w=.ok v w:=λzs v hz=>by
       simp[part,hagg,hoff,hz]
      simp only[Op.eqFields];rw[if_pos hname];simp only[Sem.run_bind,hpart xs vx hvx,hpart ys vy hvy,Result.andThen_ok];split at hk
      ·rename_i kk hu;cases hk;obtain⟨a,rfl⟩:∃ n,vx=.int kk n:=by
        cases vx<;>simp[h9] at hx;exact⟨_,by rw[hx.1]⟩
       obtain⟨b,rfl⟩:∃ n,vy=.int kk n:=by
        cases vy<;>simp[h9] at hy;exact⟨_,by rw[hy.1]⟩
       simp[h9] at hx hy;have h1:(Op.equalIn (d+1) f.type (.int kk a) (.int kk b)).run P w=.ok (a==b) w:=by
        simp only[Op.equalIn,Sem.run_bind,e8 hu,Result.andThen_ok,if_true];rfl
       simp only[h1,Result.andThen_ok,v6];cases hab:(a==b)
       ·simp
       ·simp only[Bool.not_true,Bool.false_eq_true,if_false,Bool.true_and];exact X6 d xs ys fs (i+1) l hl hx hy
      ·rename_i hu;cases hk;obtain⟨a,rfl⟩:∃ n,vx=.bool n:=by
        cases vx<;>simp[h9] at hx;exact⟨_,rfl⟩
       obtain⟨b,rfl⟩:∃ n,vy=.bool n:=by
        cases vy<;>simp[h9] at hy;exact⟨_,rfl⟩
       simp[h9] at hx hy;have h1:(Op.equalIn (d+1) f.type (.bool a) (.bool b)).run P w=.ok (a==b) w:=by
        simp only[Op.equalIn,Sem.run_bind,e8 hu,Result.andThen_ok];rfl
       simp only[h1,Result.andThen_ok,v6];cases hab:(a==b)
       ·simp
       ·simp only[Bool.not_true,Bool.false_eq_true,if_false,Bool.true_and];exact X6 d xs ys fs (i+1) l hl hx hy
      ·cases hk
    ·cases h
   ·cases h
theorem bb {t:TypeId} {ks:List CK} (h:u6 P t=some ks) {xs ys:Array Value} (hx:h9 ks xs.toList=true) (hy:h9 ks ys.toList=true) (w:World) :
 (Op.equal t (.agg xs) (.agg ys)).run P w=.ok (v6 xs.toList ys.toList) w:=by
 unfold u6 at h;split at h
 ·rename_i hc;split at h
  ·rename_i fs hu;have hf:P.fieldsOf t=fs:=by simp[Program.fieldsOf,hu]
   have key:∀ d,(Op.equalIn (d+1+1) t (.agg xs) (.agg ys)).run P w=.ok (v6 xs.toList ys.toList) w:=λd=>by
    rw[run_equalIn_struct w (d+1) t xs ys (by rw[hf];exact hu) hc.1,hf];have:=X6 (P:=P) (w:=w) d xs ys fs.toList 0 ks h (by simpa using hx) (by simpa using hy);simpa using this
   exact key 9998
  ·cases h
 ·cases h
def cR:List DC->Option (List Value)
 | []=>some []
 | .im (.raw v) :: r=>(cR r).map (v :: ·)
 | _=>none
theorem K4 {M:MS}:∀ (l:List DC) (vs:List Value) (cs:List Value),cR l=some vs->l.length=cs.length->(∀ (j:Nat) (c:DC) (v:Value),l[j]?=some c->cs[j]?=some v->RepC M c v)->cs=vs
 | [],vs,cs,h,hl,_=>by cases h;exact List.eq_nil_of_length_eq_zero hl.symm
 | d :: l,vs,[],_,hl,_=>by simp at hl
 | d :: l,vs,c :: cs,h,hl,hr=>by
   unfold cR at h;split at h
   ·rename_i heq;cases heq
   ·rename_i v r heq;simp only[List.cons.injEq] at heq;obtain⟨rfl,rfl⟩:=heq;simp only[Option.map_eq_some_iff] at h;obtain⟨vs',h1,rfl⟩:=h;have h2:c=v:=by
     cases hr 0 _ c rfl rfl with
     | im _ _ h=>cases h;rfl
    rw[h2,K4 l vs' cs h1 (by simpa using hl) λj d u hd hu=>hr (j+1) d u (by simpa using hd) (by simpa using hu)]
   ·cases h
theorem oa {o:Oper} {op:BinOp} {t u:TypeId} {x y:Operand} {lx ly:List DC} {vx vy:List Value} {ks:List CK} (ho:o.op=.binOp op t x y u) (hop:op=.eql\/op=.neq) (ht:u6 P t=some ks)
 (hx:j5 G S x=some (.agg lx)) (hy:j5 G S y=some (.agg ly)) (rx:cR lx=some vx) (ry:cR ly=some vy) (sx:h9 ks vx=true) (sy:h9 ks vy=true) :
 OpV P G o S (.one (.im (.raw (.bool (if op=.eql then v6 vx vy else !v6 vx vy))))) S.objs:=by
 refine .pure λa M hr=>⟨_,?_,.mkraw rfl⟩
 have e1:=i9 hr hx;have e2:=i9 hr hy;generalize hvx:a.eval x=v at e1;generalize hvy:a.eval y=v' at e2;cases e1 with
 | agg _ cx h1 h2 =>
   cases e2 with
   | agg _ cy h3 h4 =>
     have f1:=K4 lx vx cx.toList rx (by simpa using h1) (λj c v hc hv=>h2 j c v hc (by simpa using hv));have f2:=K4 ly vy cy.toList ry (by simpa using h3) (λj c v hc hv=>h4 j c v hc (by simpa using hv));have heq:=bb ht (xs:=cx) (ys:=cy) (by rw[f1];exact sx) (by rw[f2];exact sy) M.w;rw[f1,f2] at heq;have hguard:(eqGuard op t x y (.agg cx) (.agg cy)).run P M.w=.ok () M.w:=by
      unfold u6 at ht;split at ht
      ·rename_i hc;rcases hop with rfl|rfl<;>simp[eqGuard,hc.2]
      ·cases ht
     simp only[execOp,ho,hvx,hvy,Sem.run_bind,hguard,Result.andThen_ok];rcases hop with rfl|rfl
     ·have h5:binOp .eql t (.agg cx) (.agg cy)=(do pure (.bool (<- Op.equal t (.agg cx) (.agg cy)))):=rfl;simp only[h5,Sem.run_bind,heq,Result.andThen_ok];rfl
     ·have h5:binOp .neq t (.agg cx) (.agg cy)=(do pure (.bool (!(<- Op.equal t (.agg cx) (.agg cy))))):=rfl;simp only[h5,Sem.run_bind,heq,Result.andThen_ok];rfl
def AU (objs:List DObj) (x:DC):Option Bool:=
 match x with
 | .im (.sl (_ :: _))=>some false
 | .vec o g _ _=>match objs[o]? with
   | some (.vec _ _ g' nl)=>if g=g' then some nl else none
   | _=>none
 | _=>none
theorem vw {o:Oper} {op:BinOp} {t e u:TypeId} {x:Operand} {c:DC} {b:Bool} (ho:o.op=.binOp op t x (.const (.slice none 0 0)) u) (hop:op=.eql\/op=.neq) (ht:P.underlying t=some (.slice e))
 (hx:j5 G S x=some (.one c)) (hb:AU S.objs c=some b):OpV P G o S (.one (.im (.raw (.bool (if op=.eql then b else !b))))) S.objs:=by
 refine .pure λa M hr=>⟨_,?_,.mkraw rfl⟩
 have e1:=i9 hr hx;generalize hv:a.eval x=v at e1;have hval:∃ p n c,v=.slice p n c/\p.isNone=b:=by
  cases e1 with
  | one _ _ hp =>
    unfold AU at hb;split at hb
    ·cases hb;cases hp with
     | im _ _ hp=>cases hp;exact⟨_,_,_,rfl,rfl⟩
    ·rename_i ob g off len;rw[<- hr.ob] at hb;split at hb
     ·rename_i hob;split at hb
      ·rename_i hg;cases hb;cases hp with
       | vec _ _ _ _ _ h1 h2 h3 =>
         obtain⟨_,h4⟩:=h3 _ _ _ _ hob;obtain⟨h5,h6⟩:=h4 hg;cases b with
         | true=>obtain⟨_,_,rfl⟩:=h5 rfl;exact⟨_,_,_,rfl,rfl⟩
         | false=>obtain⟨xo,cap,rfl,_⟩:=h6 rfl;exact⟨_,_,_,rfl,rfl⟩
      ·cases hb
     ·cases hb
    ·cases hb
 obtain⟨p,n,cc,rfl,rfl⟩:=hval;have heq:(Op.equal t (.slice p n cc) (.slice none 0 0)).run P M.w=.ok p.isNone M.w:=by
  have key:∀ d,(Op.equalIn (d+1) t (.slice p n cc) (.slice none 0 0)).run P M.w=.ok p.isNone M.w:=λd=>by
   simp only[Op.equalIn,Sem.run_bind,e8 ht,Result.andThen_ok];cases p<;>rfl
  exact key 9999
 have hn:a.eval (.const (.slice none 0 0))=.slice none 0 0:=rfl;simp only[execOp,ho,hv,hn,Sem.run_bind,U2 (.inr (.inr (.inl ⟨_,_,_,rfl⟩))),Result.andThen_ok];rcases hop with rfl|rfl
 ·have h5:binOp .eql t (.slice p n cc) (.slice none 0 0)=(do pure (.bool (<- Op.equal t (.slice p n cc) (.slice none 0 0)))):=rfl;simp only[h5,Sem.run_bind,heq,Result.andThen_ok];rfl
 ·have h5:binOp .neq t (.slice p n cc) (.slice none 0 0)=(do pure (.bool (!(<- Op.equal t (.slice p n cc) (.slice none 0 0))))):=rfl;simp only[h5,Sem.run_bind,heq,Result.andThen_ok];rfl
theorem Br {o:Oper} {x y:Operand} {ts:Array TypeId} {k:IntKind} {a b:Int} (ho:o.op=.call { callee:=.builtin .max,args:=#[x,y],argTypes:=ts })
 (hx:C9 (j5 G S x)=some (.int k a)) (hy:C9 (j5 G S y)=some (.int k b)):OpV P G o S (.one (.im (.raw (.int k (max a b))))) S.objs:=by
 refine .pure λact M hr=>⟨_,?_,.mkraw rfl⟩
 have e1:=p8 hr hx;have e2:=p8 hr hy;have:max a b=if b > a then b else a:=by simp only[Int.max_def];split<;>split<;>omega
 simp[execOp,ho,resolve,invoke,builtin,Builtin.max_,Builtin.max2,e1,e2,this]
theorem Bq {o:Oper} {x y:Operand} {ts:Array TypeId} {k:IntKind} {a b:Int} (ho:o.op=.call { callee:=.builtin .min,args:=#[x,y],argTypes:=ts })
 (hx:C9 (j5 G S x)=some (.int k a)) (hy:C9 (j5 G S y)=some (.int k b)):OpV P G o S (.one (.im (.raw (.int k (min a b))))) S.objs:=by
 refine .pure λact M hr=>⟨_,?_,.mkraw rfl⟩
 have e1:=p8 hr hx;have e2:=p8 hr hy;have:min a b=if b<a then b else a:=by simp only[Int.min_def];split<;>split<;>omega
 simp[execOp,ho,resolve,invoke,builtin,Builtin.min_,Builtin.min2,e1,e2,this]
def ua:List DV->Option (List DC)
 | []=>some []
 | .one c :: r=>(ua r).map (c :: ·)
 | _=>none
theorem ik:∀ {l:List DV} {r:List DC},ua l=some r->l=r.map .one
 | [],r,h=>by cases h;rfl
 | .one c :: l,r,h=>by
   simp only[ua,Option.map_eq_some_iff] at h;obtain⟨r',h1,rfl⟩:=h;rw[ik h1];rfl
 | .agg _ :: l,r,h=>by cases h
 | .tup _ :: l,r,h=>by cases h
theorem nY {o:Oper} {fn:Fn} {cs:Array Operand} {ds:List DV} {caps:List DC} (ho:o.op=.makeFunc fn #[] cs) (hd:X1 G S cs.toList=some ds) (hc:ua ds=some caps):OpV P G o S (.one (.fn fn caps)) S.objs:=by
 refine .pure λa M hr=>⟨.func fn #[] (cs.map a.eval),by simp[execOp,ho,Instr.makeFunc],.one _ _ (.fn _ _ _ ?_ ?_)⟩
 ·obtain⟨h1,_⟩:=F8 hr _ _ hd;rw[ik hc] at h1;simpa using h1
 ·obtain⟨_,h2⟩:=F8 hr _ _ hd;intro j c v hj hv;have:=h2 j (.one c) v (by rw[ik hc,List.getElem?_map,hj];rfl) (by rw[<- hv,<- Array.toList_map,Array.getElem?_toList]);cases this with
  | one _ _ h=>exact h
def mD:List DV->Option (List IC)
 | []=>some []
 | .one (.im c) :: r=>(mD r).map (c :: ·)
 | _=>none
theorem fd:∀ {ds:List DV} {l:List IC},mD ds=some l->ds=l.map λc=>.one (.im c)
 | [],l,h=>by cases h;rfl
 | d :: r,l,h=>by
   unfold mD at h;split at h
   ·rename_i heq;cases heq
   ·rename_i c r' heq;cases heq;rw[Option.map_eq_some_iff] at h;obtain⟨l',h1,rfl⟩:=h;rw[fd h1];rfl
   ·cases h
theorem lV {o:Oper} {fn:Fn} {cs:Array Operand} {ds:List DV} {l:List IC} (ho:o.op=.makeFunc fn cs #[]) (hd:X1 G S cs.toList=some ds) (hc:mD ds=some l):OpV P G o S (.one (.im (.bf fn l))) S.objs:=by
 refine .pure λa M hr=>⟨.func fn (cs.map a.eval) #[],by simp[execOp,ho,Instr.makeFunc],.one _ _ (.im _ _ (.bf _ _ _ ?_ ?_))⟩
 ·obtain⟨h1,_⟩:=F8 hr _ _ hd;rw[fd hc] at h1;simpa using h1
 ·obtain⟨_,h2⟩:=F8 hr _ _ hd;intro j c v hj hv;have:=h2 j (.one (.im c)) v (by rw[fd hc,List.getElem?_map,hj];rfl) (by rw[<- hv,<- Array.toList_map,Array.getElem?_toList]);cases this with
  | one _ _ h=>cases h with
    | im _ _ h=>exact h
theorem lU {o:Oper} {t e:TypeId} {sz bytes:Nat} {z:List Value} {x y:Operand} {n:Nat} (ho:o.op=.makeSlice t x y) (ht:P.underlying t=some (.slice e)) (hs:aW P e=some sz) (h0:0<sz) (hby:aL P e=some bytes)
 (hz:E5 P e=some z) (hzl:z.length=sz) (hzp:z.all v7=true) (hx:C9 (j5 G S x)=some (.int .i64 n)) (hy:C9 (j5 G S y)=some (.int .i64 n)) (hn:n*bytes<=140737488355328) (hn2:n<=9223372036854775807) :
 OpV P G o S (.one (.vec S.objs.length 0 0 n)) (S.objs++[.vec sz (List.replicate n (z.map an)) 0 false]):=by
 intro a M hr;have e1:=p8 hr hx;have e2:=p8 hr hy;obtain⟨v,hrun,hv⟩:=X7 (w:=M.w) hz;have hvs:v.cells.size=sz:=by rw[<- Array.length_toList,hv,hzl]
 have hinf:∃ inf,P.info? e=some inf/\inf.bytes=bytes:=by
  simp only[aL,Option.map_eq_some_iff] at hby;exact hby
 obtain⟨inf,hinf,rfl⟩:=hinf;have hsize:((Array.range (n*sz)).map (v.cells[· % v.cells.size]!)).size=(List.replicate n (z.map an)).length*sz:=by simp
 obtain⟨hm,hc⟩:=iW (T:=e) (cs:=(Array.range (n*sz)).map (v.cells[· % v.cells.size]!)) (es:=List.replicate n (z.map an)) (sz:=sz) hr.m h0 hsize (λi x hx=>by
  have:=List.eq_of_mem_replicate (List.mem_of_getElem? hx);rw[this];simpa using hzl) (λi x j c u hx hj hu=>by
  have:=List.eq_of_mem_replicate (List.mem_of_getElem? hx);subst this;have hi:i<n:=by simpa using e7 hx
  have hjs:j<sz:=by simpa[hzl] using e7 hj
  have hmul:(i+1)*sz<=n*sz:=Nat.mul_le_mul_right sz hi;rw[Nat.add_mul,Nat.one_mul] at hmul;have hlt:i*sz+j<n*sz:=by omega
  simp only[Array.getElem?_map,Array.getElem?_range,hlt,if_true,Option.map_some,Option.some.injEq] at hu;have hmod:(i*sz+j) % v.cells.size=j:=by rw[hvs,Nat.mul_comm,Nat.mul_add_mod,Nat.mod_eq_of_lt hjs]
  rw[hmod,getElem!_pos v.cells j (by omega)] at hu;rw[List.getElem?_map,Option.map_eq_some_iff] at hj;obtain⟨u0,hu0,rfl⟩:=hj;have:u0=u:=by
   rw[<- hv] at hu0;rw[<- hu];have h3:v.cells.toList[j]?=some v.cells[j]:=by simp[show j<v.cells.size by omega]
   rw[h3] at hu0;exact(Option.some.inj hu0).symm
  subst this;exact Y4 (List.all_eq_true.1 hzp u0 (List.mem_of_getElem? hu0)))
 have hrl:(List.replicate n (z.map an)).length=n:=by simp
 rw[hrl] at hc;refine⟨.slice (some ⟨M.w.heap.size,0,none⟩) n n,_,.inl ?_,hm,by simp[MS.push,hr.ob],Ext.push _ _ hr.m.lt,by rw[<- hr.ob];exact .one _ _ hc⟩;have hw:IntKind.i64.wrap (n:Int)=n:=IntWalk.i64_in _ ⟨by omega,by omega⟩;have hask:(askRoom (n*inf.bytes)).run P M.w=.ok () M.w:=by
  unfold askRoom;split
  ·rfl
  ·rfl
 have ha:(asInt (.int .i64 n)).run P M.w=.ok (n:Int) M.w:=rfl;simp only[execOp,ho,Instr.makeSlice,Sem.run_bind,e8 ht,Result.andThen_ok,e1,e2,ha,typeInfo,run_program,hinf,Sem.run_pure,hw];have hb1:¬ ((n:Int)<0):=by omega
 have hb2:¬ ((inf.bytes:Int)*n > 2 ^ 48):=by
  have hm:(inf.bytes:Int)*n=((n*inf.bytes:Nat):Int):=by rw[Int.mul_comm,Int.natCast_mul]
  rw[hm];omega
 simp only[hb1,hb2,decide_false,Bool.or_false,Bool.false_eq_true,if_false,Sem.run_bind,Int.toNat_natCast,hask,Result.andThen_ok,o5 hs,gt_iff_lt,Int.lt_irrefl];by_cases hnz:n*sz=0
 ·have he0:((Array.range (n*sz)).map (λ(x:Nat)=>((#[]:Array Value)[x % (#[]:Array Value).size]!)))=(Array.range (n*sz)).map (v.cells[· % v.cells.size]!):=by rw[hnz];simp
  simp only[if_pos hnz,Sem.run_bind,Sem.run_pure,Result.andThen_ok];rw[he0];simp only[newRow,newObj,Sem.run_bind,Sem.run,Result.andThen_ok,Sem.run_pure];rfl
 ·simp only[if_neg hnz,Sem.run_bind,hrun,Result.andThen_ok,Sem.run_pure];simp only[newRow,newObj,Sem.run_bind,Sem.run,Result.andThen_ok,Sem.run_pure];rfl
end
def ii (S:DS):List Tmp->List DV->DS
 | t :: ts,d :: ds=>ii (S.put (some t) d) ts ds
 | _,_=>S
def setLp (objs:List DObj) (o:Nat) (st:LoopState) (pend:Option Code):List DObj:=match objs[o]? with
 | some (.loop r)=>objs.set o (.loop { r with st:=st,pend:=pend })
 | _=>objs
def nV (o:Nat) (C:DV->List DObj->Prop):Exit->DS->Prop
 | .normal,S=>C (.one (.im (.raw (.bool true)))) (setLp S.objs o .ready none)
 | .ret,S=>C (.one (.im (.raw (.bool false)))) (setLp S.objs o .done (some .ret))
 | .exit id,S=>C (.one (.im (.raw (.bool false)))) (setLp S.objs o .done (some (.exit id)))
 | _,_=>False
section
variable {P:Program} {G:Hn} {n:Cx} {S:DS} {Q:Exit->DS->Prop}
theorem At.yield_end {o:Nat} {C:DV->List DObj->Prop} (h:C (.one (.im (.raw (.bool true)))) (setLp S.objs o .ready none)):At (nV o C) .normal ⟨⟩ S:=h
theorem At.yield_ret {o:Nat} {C:DV->List DObj->Prop} (h:C (.one (.im (.raw (.bool false)))) (setLp S.objs o .done (some .ret))):At (nV o C) .ret ⟨⟩ S:=h
def Dt (P:Program) (G:Hn) (o m:Nat) (body:Code) (C:DV->List DObj->Prop) (S:DS):Prop:=
 DT P G ⟨m,some o⟩ body { S with objs:=setLp S.objs o .busy none } (nV o C)
def R1 (P:Program) (G:Hn) (o:Nat) (as:List DV) (objs:List DObj) (C:DV->List DObj->Prop):Option DObj->Prop
 | some (.loop r)=>r.st=.ready/\r.pend=none/\as.length=r.ps.size /\
  DT P G ⟨objs.length,some o⟩ r.asg (ii ⟨r.nt,r.tm,objs⟩ r.ps.toList as) (W8 (λS'=>(∃ r',S'.objs[o]?=some (.loop r')/\r'.st=.ready/\r'.pend=none)/\Dt P G o objs.length r.body C S') (λ_ _=>False))
 | _=>False
def lu (P:Program) (G:Hn) (o:Nat) (as:List DV) (objs:List DObj) (C:DV->List DObj->Prop) (_t:Tok C):Prop:=R1 P G o as objs C objs[o]?
theorem RelM.lpTurn {M:MS} (hm:RelM G M) {o:Nat} {r:LoopD} (ho:M.objs[o]?=some (.loop r)) {R:Loop} (hR:M.w.heap[M.β o]?=some (.loop R)) (st:LoopState) (pend:Option Code) :
 RelM G { M with w:=M.w.putObj (M.β o) (.loop { R with state:=st,pending:=pend }),objs:=setLp M.objs o st pend } /\
 Ext M.objs.length M { M with w:=M.w.putObj (M.β o) (.loop { R with state:=st,pending:=pend }),objs:=setLp M.objs o st pend }:=by
 have hset:setLp M.objs o st pend=M.objs.set o (.loop { r with st:=st,pend:=pend }):=by simp[Ab.setLp,ho]
 have hw:M.w.putObj (M.β o) (.loop { R with state:=st,pending:=pend })={ M.w with heap:=M.w.heap.setIfInBounds (M.β o) (.loop { R with state:=st,pending:=pend }) }:=rfl;have he:Ext M.objs.length M (M.turn o (.loop { R with state:=st,pending:=pend }) (.loop { r with st:=st,pend:=pend })):=Ext.turn ho rfl trivial hR rfl;have hrel:RelO (M.turn o (.loop { R with state:=st,pending:=pend }) (.loop { r with st:=st,pend:=pend })) o (.loop { r with st:=st,pend:=pend }):=by
  obtain⟨fn,tmps,D,h1,h2,h3⟩:=hm.objs o _ ho;rw[hR] at h1;cases h1;refine⟨fn,tmps,D,?_,h2,λt d ht=>?_⟩
  ·simp only[MS.turn];rw[Array.getElem?_setIfInBounds_self_of_lt (hm.lt o _ ho rfl)]
  ·obtain⟨v,e1,e2⟩:=h3 t d ht;exact⟨v,e1,e2.ext he⟩
 have:=hm.turn (x:=.loop { R with state:=st,pending:=pend }) (d':=.loop { r with st:=st,pend:=pend }) ho rfl trivial hR rfl hrel;rw[hset];exact⟨this,he⟩
theorem kj {M:MS}:∀ (ts:List Tmp) (ds:List DV) (vs:List Value) (S:DS) (a:Act),Rel G S a M->ds.length=vs.length->(∀ (j:Nat) (d:DV) (v:Value),ds[j]?=some d->vs[j]?=some v->RepV M d v) ->
 Rel G (ii S ts ds) { a with tmps:=(ts.zip vs).foldl (λt (p:Tmp×Value)=>t.setIfInBounds p.1 p.2) a.tmps } M/\(ii S ts ds).objs=S.objs
 | [],ds,vs,S,a,hr,_,_=>by cases ds<;>exact⟨hr,rfl⟩
 | t :: ts,[],[],S,a,hr,_,_=>⟨hr,rfl⟩
 | t :: ts,[],_ :: _,S,a,hr,h,_=>by simp at h
 | t :: ts,_ :: _,[],S,a,hr,h,_=>by simp at h
 | t :: ts,d :: ds,v :: vs,S,a,hr,hl,h=>by
   have hp:=hr.put hr.m (Ext.refl M) (h 0 d v rfl rfl) (some t);rw[show ({ S with objs:=M.objs }:DS)=S from by rw[hr.ob]] at hp;have:=kj ts ds vs _ _ hp (by simpa using hl) (λj d v h1 h2=>h (j+1) d v (by simpa using h1) (by simpa using h2));refine⟨this.1,this.2.trans ?_⟩;simp only[DS.put];split<;>rfl
theorem qf {α β:Type} (x:Array α) (y:Array β):(x.zip y).toList=x.toList.zip y.toList:=by simp
theorem vE {o:Oper} {K:DS->Prop} {x:Operand} {xs:Array Operand} {ts:Array TypeId} {l:Nat} {as:List DV} (ho:o.op=.call { callee:=.value x,args:=xs,argTypes:=ts })
 (hx:j5 G S x=some (.one (.yld l))) (ha:X1 G S xs.toList=some as)
 (h:lu P G l as S.objs (λd objs'=>K ({ S with objs:=objs' }.put o.dst d)) ⟨⟩):OpT P G o S K:=by
 intro ro a M hr;have hp:=i9 hr hx;obtain⟨hl,hrep⟩:=F8 hr _ _ ha;unfold lu at h;generalize hob:S.objs[l]?=ob at h;unfold R1 at h;split at h
 ·rename_i r;obtain⟨hst,hpe,hal,hb⟩:=h;have hMob:M.objs[l]?=some (.loop r):=by rw[hr.ob];exact hob
  obtain⟨fn,tmps,D,g1,g2,g3⟩:=hr.m.objs l _ hMob;generalize hv:a.eval x=v at hp;cases hp with
  | one _ _ hp=>cases hp with
    | yld _ _ h1 h2 h3 =>
      obtain rfl:=h3 r hMob;have hsz:(xs.map a.eval).size=r.ps.size:=by rw[<- hal,hl];simp
      have hyr:=run_yield (P:=P) (args:=xs.map a.eval) g1 hsz;have hrun:(execOp a.eval o).run P M.w=.ok (.round (M.β l) fn ((r.ps.zip (xs.map a.eval)).foldl (λt (p,v)=>t.setIfInBounds p v) tmps) r.asg r.body) M.w:=by
       simp only[execOp,ho,Sem.run_bind,resolve,hv,Deferred.ofValue,Sem.run_pure,Result.andThen_ok,invoke,Array.empty_append];exact hyr
      refine⟨λ_ _=>trivial,?_⟩;rw[dF _ hrun (by simp)];refine⟨λh=>absurd h (by simp[u9,Fence.wide]),?_⟩;refine RoundIn.mono (R:=λe w'=>∃ v,e=.returned v/\∃ S' M',M'.w=w'/\Rel G S' (a.put o.dst v) M'/\Ext M.objs.length M M'/\K S') (roundIn_of_wpIn trivial ?_) ?_
      ·
       obtain⟨hrel0,hob0⟩:=kj (G:=G) (M:=M) r.ps.toList as (xs.map a.eval).toList ⟨r.nt,r.tm,S.objs⟩ { tmps:=tmps,defers:=[] } ⟨hr.m,hr.ob,g2,⟨[],rfl,by simp,by simp⟩,g3⟩ (by simp[hl]) (λj d v h4 h5=>by
        refine hrep j d v h4 ?_;rw[<- h5];simp)
       have hfold:(r.ps.zip (xs.map a.eval)).foldl (λt (p,v)=>t.setIfInBounds p v) tmps=(r.ps.toList.zip (xs.map a.eval).toList).foldl (λt (p:Tmp×Value)=>t.setIfInBounds p.1 p.2) tmps:=by
        rw[<- Array.foldl_toList,qf]
       rw[hfold];have hRd:RdOk ⟨S.objs.length,some l⟩ (ii ⟨r.nt,r.tm,S.objs⟩ r.ps.toList as):=λo' e=>by
        cases e;exact⟨e7 hob,r,by rw[hob0];exact hob⟩
       have hw:=hb (by rw[hob0];exact Nat.le_refl _) hRd _ M hrel0;have hfn:(Cx.mk S.objs.length (some l)).fence M=(u9 ro).inRound (M.β l):=rfl;rw[hfn] at hw;refine wpIn_mono hw ?_;rintro e a1 w1 ⟨S1,M1,rfl,hr1,he1,hn1,hq⟩;cases e with
       | normal =>
         obtain⟨⟨r1,hr1o,hst1,hpe1⟩,hq⟩:=hq;have hM1:M1.objs[l]?=some (.loop r1):=by rw[hr1.ob];exact hr1o
         obtain⟨fn1,tmps1,D1,k1,k2,k3⟩:=hr1.m.objs l _ hM1;have hβ1:M1.β l=M.β l:=(he1.lp l (e7 hob) r1 hM1).2;rw[hβ1] at k1;have hbg:=run_beginRound (P:=P) k1 hst1;refine⟨_,hbg,?_⟩;obtain⟨hm2,he2⟩:=hr1.m.lpTurn hM1 (R:={ state:=r1.st,pending:=r1.pend,fn:=fn1,tmps:=tmps1,params:=r1.ps,assign:=r1.asg,body:=r1.body,defers:=D1 }) (by rw[hβ1];exact k1) .busy none;have hpe1':({ state:=.busy,pending:=r1.pend,fn:=fn1,tmps:=tmps1,params:=r1.ps,assign:=r1.asg,body:=r1.body,defers:=D1 }:Loop)={ state:=.busy,pending:=none,fn:=fn1,tmps:=tmps1,params:=r1.ps,assign:=r1.asg,body:=r1.body,defers:=D1 }:=by rw[hpe1]
         rw[hpe1'];rw[hβ1] at hm2 he2
         have hr2:Rel G { S1 with objs:=setLp S1.objs l .busy none } a1 { M1 with w:=M1.w.putObj (M.β l) (.loop { state:=.busy,pending:=none,fn:=fn1,tmps:=tmps1,params:=r1.ps,assign:=r1.asg,body:=r1.body,defers:=D1 }),objs:=setLp M1.objs l .busy none }:=
          ⟨hm2,by rw[hr1.ob],hr1.nt,W5 hr1.m he2 hr1.df,λt d ht=>by
           obtain⟨v,e1,e2⟩:=hr1.tm t d ht;exact⟨v,e1,e2.ext he2⟩⟩
         have hlen1:S.objs.length<=S1.objs.length:=by rw[<- hr1.ob];exact he1.len
         have hRd2:RdOk ⟨S.objs.length,some l⟩ { S1 with objs:=setLp S1.objs l .busy none }:=λo' e=>by
          cases e;refine⟨e7 hob,{ r1 with st:=.busy,pend:=none },?_⟩;simp[setLp,hr1o,List.getElem?_set_self (e7 hr1o)]
         have hq2:=hq (by simp only[setLp,hr1o,List.length_set];exact hlen1) hRd2 a1 _ hr2;have hfn2:(Cx.mk S.objs.length (some l)).fence { M1 with w:=M1.w.putObj (M.β l) (.loop { state:=.busy,pending:=none,fn:=fn1,tmps:=tmps1,params:=r1.ps,assign:=r1.asg,body:=r1.body,defers:=D1 }),objs:=setLp M1.objs l .busy none }=(u9 ro).inRound (M.β l):=by
          simp only[Cx.fence,Option.map_some,hβ1];rfl
         rw[hfn2] at hq2;refine wpIn_mono hq2 ?_;rintro e2 a2 w2 ⟨S2,M2,rfl,hr3,he3,hn3,hq3⟩;obtain⟨⟨r2,hM2⟩,hβ2⟩:=he3.lp' l (e7 hob) { r1 with st:=.busy,pend:=none } (by simp[setLp,hM1,List.getElem?_set_self (e7 hM1)]);simp only at hβ2;rw[hβ1] at hβ2;obtain⟨fn2,tmps2,D2,j1,j2,j3⟩:=hr3.m.objs l _ hM2;rw[hβ2] at j1;have hall:Ext S.objs.length M M2:=by
          refine(he1.trans ?_).trans he3;exact he2.weaken (by rw[hr1.ob];exact hlen1)
         have hro:Rel G { S with objs:=S2.objs } a M2:=⟨hr3.m,hr3.ob,hr.nt,W5 hr.m hall hr.df,λt d ht=>by
          obtain⟨v,e1,e2⟩:=hr.tm t d ht;exact⟨v,e1,e2.ext (by rw[hr.ob];exact hall)⟩⟩
         have fin:∀ (jump:Option Code) (b:Bool) (st:LoopState),jump.isNone=b->(if jump.isNone then LoopState.ready else .done)=st->K ({ S with objs:=setLp S2.objs l st jump }.put o.dst (.one (.im (.raw (.bool b))))) ->
          ∃ v w',(Instr.endRound (M.β l) jump).run P M2.w=.ok v w'/\∃ v',Ending.returned v=.returned v'/\∃ S' M',M'.w=w'/\Rel G S' (a.put o.dst v') M'/\Ext M.objs.length M M'/\K S':=by
          intro jump b st hb hstj hk;have hend:=run_endRound (P:=P) jump j1;obtain⟨hm4,he4⟩:=hr3.m.lpTurn hM2 (R:={ state:=r2.st,pending:=r2.pend,fn:=fn2,tmps:=tmps2,params:=r2.ps,assign:=r2.asg,body:=r2.body,defers:=D2 }) (by rw[hβ2];exact j1) st jump;rw[hβ2] at hm4 he4;rw[hstj,hb] at hend;refine⟨_,_,hend,_,rfl,_,{ M2 with w:=M2.w.putObj (M.β l) (.loop { state:=st,pending:=jump,fn:=fn2,tmps:=tmps2,params:=r2.ps,assign:=r2.asg,body:=r2.body,defers:=D2 }),objs:=setLp M2.objs l st jump },rfl,?_,?_,hk⟩
          ·have hro2:=hro.put hm4 he4 (d:=.one (.im (.raw (.bool b)))) (v:=.bool b) (.one _ _ (.im _ _ (.raw _ rfl))) o.dst;have e:({ S with objs:=setLp M2.objs l st jump }:DS)={ S with objs:=setLp S2.objs l st jump }:=by rw[hr3.ob]
           rw[e] at hro2;exact hro2
          ·rw[hr.ob];exact hall.trans (he4.weaken (by rw[<- hr.ob] at hall;rw[<- hr.ob];exact hall.len))
         cases e2 with
         | normal=>exact fin none true .ready rfl rfl hq3
         | ret=>exact fin (some .ret) false .done rfl rfl hq3
         | exit id=>exact fin (some (.exit id)) false .done rfl rfl hq3
         | goto t=>exact hq3.elim
         | panic c=>exact hq3.elim
         | outgrown=>exact hq3.elim
       | exit id=>exact hq.elim
       | goto t=>exact hq.elim
       | ret=>exact hq.elim
       | panic c=>exact hq.elim
       | outgrown=>exact hq.elim
      ·rintro e w' ⟨v,rfl,S',M',h4,h5,h6,h7⟩;exact⟨S',M',h4,h5,h6,r5 _ _ _,h7⟩
 ·exact h.elim
def B8 (P:Program) (G:Hn) (n:Cx) (S:DS) (Q:Exit->DS->Prop) (o:Nat) (objs:List DObj):Option DObj->Prop
 | some (.loop r)=>r.st≠.busy/\match r.pend with
   | none=>At Q .normal ⟨⟩ { S with objs:=setLp objs o .exhausted none }
   | some c=>DT P G n c { S with objs:=setLp objs o .exhausted (some c) } Q
 | _=>False
theorem R2 {g:Operand} {ps:Array Tmp} {asg body:Code} {d:DV} {f:FuncId} {caps:List DV} (hg:j5 G S g=some d) (hc:F2 d=some (f,caps)) (hok:∀ args w,(callFunc f args).run P w=.ok (.enter f args) w)
 (h:DCall P G f (.one (.yld S.objs.length) :: caps) (S.objs++[.loop { st:=.ready,pend:=none,nt:=S.nt,tm:=S.tmps,ps:=ps,asg:=asg,body:=body }]) (λ_ objs'=>B8 P G n S Q S.objs.length objs' objs'[S.objs.length]?)) :
 DT P G n (.rangeFunc g ps asg body) S Q:=by
 intro hn hRd a M hr;have hp:=i9 hr hg;have hgv:∃ lb,a.eval g=.func (.func f) #[] lb/\lb.size=caps.length/\∀ (j:Nat) (d:DV) (u:Value),caps[j]?=some d->lb[j]?=some u->RepV M d u:=by
  generalize a.eval g=v at hp;unfold F2 at hc;split at hc
  ·cases hc;cases hp with
   | one _ _ hp=>cases hp with
     | im _ _ hp=>cases hp with
       | fn _ _ vs h1 h2 =>
         refine⟨vs,rfl,by simp[h1],λj d u hj hu=>?_⟩;rw[List.getElem?_map,Option.map_eq_some_iff] at hj;obtain⟨c,hc,rfl⟩:=hj;exact .one _ _ (.im _ _ (h2 j c u hc hu))
  ·cases hc;cases hp with
   | one _ _ hp=>cases hp with
     | fn _ _ vs h1 h2 =>
       refine⟨vs,rfl,by simp[h1],λj d u hj hu=>?_⟩;rw[List.getElem?_map,Option.map_eq_some_iff] at hj;obtain⟨c,hc,rfl⟩:=hj;exact .one _ _ (h2 j c u hc hu)
  ·cases hc
 obtain⟨lb,hgv,hls,hlr⟩:=hgv;refine wpIn_rangeFunc λfn _=>?_
 have enter:∃ (l:Nat) (mk:List Deferred) (w1:World) (M1:MS),(Instr.enterLoop fn a.tmps ps asg body (n.fence M).round).run P M.w=.ok (l,mk) w1/\M1.w=w1/\RelM G M1 /\
  M1.objs=S.objs++[.loop { st:=.ready,pend:=none,nt:=S.nt,tm:=S.tmps,ps:=ps,asg:=asg,body:=body }]/\M1.β S.objs.length=l/\Ext M.objs.length M M1 /\
  (∃ ds:List Nat,mk++a.defers=ds.map mark/\ds.Nodup/\∀ D∈ds,M1.F D/\M1.w.heap[D]?=some (.deferred (some [])))/\(∀ d∈mk,∃ D,d=mark D/\M.w.heap.size<=D):=by
  cases hrd:n.rd with
  | none =>
    have hro:(n.fence M).round=none:=by simp[Cx.fence,u9,hrd]
    rw[hro];have hrun:=run_enterLoop_outer (P:=P) (w:=M.w) fn a.tmps ps asg body;have hheap0:(M.w.alloc (.deferred (some []))).heap=M.w.heap.push (.deferred (some [])):=by unfold World.alloc;rfl
    have hold:∀ b,b<M.w.heap.size->(M.w.alloc (.deferred (some []))).heap[b]?=M.w.heap[b]?:=λb hb=>by rw[hheap0,Array.getElem?_push,if_neg (Nat.ne_of_lt hb)]
    let M0:MS:={ M with w:=M.w.alloc (.deferred (some [])),F:=λb=>M.F b\/b=M.w.heap.size }
    have he0:Ext M.objs.length M M0:=by
     refine⟨Nat.le_refl _,λb hb=>⟨⟨?_,hb.2⟩,hold b hb.1⟩,⟨λb hb=>.inl hb,λb hb hF=>?_⟩,by simp[M0,hheap0],λp _ c' hc=>⟨⟨c',hc⟩,rfl⟩,λp _ sz es g nl hv=>⟨sz,es,g,nl,hv,Nat.le_refl _,λ_=>⟨rfl,rfl,λhn=>⟨rfl,?_⟩⟩⟩,λp _ ks es hm=>⟨⟨ks,es,hm⟩,rfl⟩,
      λp _ r hm=>⟨⟨r,hm⟩,rfl⟩,λp _ d hm hi=>⟨⟨d,hm,hi⟩,rfl⟩,λp _ r hm=>⟨⟨r,hm⟩,rfl⟩,⟨rfl,rfl,rfl,by first|exact Nat.le_refl _|exact Nat.le_succ _⟩⟩
     ·have:=hb.1;simp only[M0,hheap0,Array.size_push];omega
     ·rcases hF with hF|hF
      ·exact hb.2 hF
      ·have:=hb.1.1;omega
     ·simp only[H3,M0];rw[hold _ (hr.m.lt p _ hv (by simp[DObj.blk,hn]))]
    have hm0:RelM G M0:=by
     refine⟨λo d ho=>(hr.m.objs o d ho).ext he0 (λ_=>rfl) (λhb=>hold _ (hr.m.lt o d ho hb)),λo d ho hb=>?_,hr.m.inj,λg l hg=>(hr.m.glob g l hg).mono he0.ok,λb hF=>?_,λo d ho hb hF=>?_⟩
     ·have:=hr.m.lt o d ho hb;simp only[M0,hheap0,Array.size_push];omega
     ·simp only[M0,hheap0,Array.size_push];rcases hF with hF|hF
      ·have:=hr.m.fl b hF;omega
      ·omega
     ·rcases hF with hF|hF
      ·exact hr.m.own o d ho hb hF
      ·have:=hr.m.lt o d ho hb;simp only[M0] at hF;omega
    let x1:Obj:=.loop { state:=.ready,pending:=none,fn:=fn,tmps:=a.tmps,params:=ps,assign:=asg,body:=body,defers:=M.w.heap.size };let d1:DObj:=.loop { st:=.ready,pend:=none,nt:=S.nt,tm:=S.tmps,ps:=ps,asg:=asg,body:=body };have he1:=Ext.push (M:=M0) x1 d1 hm0.lt;have hβ:(M0.push x1 d1).β M0.objs.length=M.w.heap.size+1:=by simp[MS.push,M0,hheap0]
    have hm1:RelM G (M0.push x1 d1):=hm0.push rfl ⟨fn,a.tmps,M.w.heap.size,by
     rw[hβ];have:(M0.w.alloc x1).heap[M0.w.heap.size]?=some x1:=P1;simpa[M0,hheap0,MS.push] using this,hr.nt,λt d ht=>by
     obtain⟨v,e1,e2⟩:=hr.tm t d ht;exact⟨v,e1,(e2.ext he0).ext he1⟩⟩
    refine⟨_,_,_,M0.push x1 d1,hrun,rfl,hm1,by simp[MS.push,M0,d1,hr.ob],?_,he0.trans he1,?_,?_⟩
    ·rw[<- hr.ob];exact hβ
    ·obtain⟨ds,q1,q2,q3⟩:=hr.df;refine⟨M.w.heap.size :: ds,by simp[q1,mark],?_,λD hD=>?_⟩
     ·refine List.nodup_cons.2 ⟨λhD=>?_,q2⟩;have:=(Array.getElem?_eq_some_iff.1 (q3 _ hD).2).1;omega
     ·rcases List.mem_cons.1 hD with rfl|hD
      ·refine⟨.inr rfl,?_⟩;have h1:(M0.w.alloc x1).heap[M.w.heap.size]?=M0.w.heap[M.w.heap.size]?:=bY (by simp[M0,hheap0]);have h2:M0.w.heap[M.w.heap.size]?=some (.deferred (some [])):=by simp[M0,hheap0]
       exact h1.trans h2
      ·have:=W5 hm0 he1 (W5 hr.m he0 (a:={ a with defers:=[mark D] }) ⟨[D],rfl,by simp,λD' hD'=>by simp at hD';subst hD';exact q3 _ hD⟩);obtain⟨ds',z1,z2,z3⟩:=this;cases ds' with
       | nil=>simp at z1
       | cons y r =>
         simp only[List.map_cons,List.cons.injEq,mark,Deferred.mk.injEq,Target.collected.injEq,and_true] at z1;obtain⟨rfl,_⟩:=z1;exact z3 _ (by simp)
    ·intro d hd;simp only[List.mem_singleton] at hd;exact⟨M.w.heap.size,hd,Nat.le_refl _⟩
  | some l0 =>
    obtain⟨q1,r0,q2⟩:=hRd l0 hrd;have hro:(n.fence M).round=some (M.β l0):=by simp[Cx.fence,u9,hrd]
    rw[hro];obtain⟨fn0,tmps0,D0,k1,k2,k3⟩:=hr.m.objs l0 _ (by rw[hr.ob];exact q2)
    have hrun:(Instr.enterLoop fn a.tmps ps asg body (some (M.β l0))).run P M.w =
     .ok (M.w.heap.size,[]) (M.w.alloc (.loop { state:=.ready,pending:=none,fn,tmps:=a.tmps,params:=ps,assign:=asg,body,defers:=D0 })):=by
     unfold Instr.enterLoop;simp only[Sem.run_bind,run_getLoop k1,run_newObj_alloc,Result.andThen,Sem.run_pure]
    let x1:Obj:=.loop { state:=.ready,pending:=none,fn:=fn,tmps:=a.tmps,params:=ps,assign:=asg,body:=body,defers:=D0 };let d1:DObj:=.loop { st:=.ready,pend:=none,nt:=S.nt,tm:=S.tmps,ps:=ps,asg:=asg,body:=body };have he1:=Ext.push (M:=M) x1 d1 hr.m.lt;have hβ:(M.push x1 d1).β M.objs.length=M.w.heap.size:=by simp[MS.push]
    have hm1:RelM G (M.push x1 d1):=hr.m.push rfl ⟨fn,a.tmps,D0,by
     rw[hβ];exact P1,hr.nt,λt d ht=>by
     obtain⟨v,e1,e2⟩:=hr.tm t d ht;exact⟨v,e1,e2.ext he1⟩⟩
    refine⟨_,_,_,M.push x1 d1,hrun,rfl,hm1,by simp[MS.push,d1,hr.ob],by rw[<- hr.ob];exact hβ,he1,?_,by simp⟩;simpa using W5 hr.m he1 hr.df
 obtain⟨l,mk,w1,M1,hrun,rfl,hm1,hob1,hβ1,he1,hdf1,hmk⟩:=enter;have hb1:(DObj.loop { st:=.ready,pend:=none,nt:=S.nt,tm:=S.tmps,ps:=ps,asg:=asg,body:=body }).blk=true:=rfl;refine⟨l,mk,M1.w,{ target:=.fn (.func f) lb,args:=#[.func (.yield l) #[] #[]] },M1.w,f,#[.func (.yield l) #[] #[]]++lb,M1.w,hrun,?_,λ_ _=>trivial,?_,λh=>absurd h (by simp[Cx.fence,u9,Fence.wide]),?_⟩
 ·simp only[resolve,hgv];simp[go_sem]
 ·simp[invoke,go_sem,hok]
 ·have hcall:=h M1 (#[.func (.yield l) #[] #[]]++lb) hm1 hob1 (by simp[hls];omega) (λj e u he hu=>?_)
  ·refine CallsIn.mono (F:=n.fence M) (callsIn_wide.2 hcall) ?_;rintro e w' ⟨v,dv,M2,rfl,rfl,hm2,_,he2,hq⟩;unfold B8 at hq;split at hq
   ·rename_i r hr2;obtain⟨hbusy,hq⟩:=hq;obtain⟨fn2,tmps2,D2,j1,j2,j3⟩:=hm2.objs _ _ hr2;have hβ2:M2.β S.objs.length=l:=by
     have:=(he2.lp _ (by simp) r hr2).2;rw[this];exact hβ1
    rw[hβ2] at j1;have hend:=run_endLoop (P:=P) j1 hbusy;have hoL:M.objs.length=S.objs.length:=by rw[hr.ob]
    obtain⟨hm3,he3⟩:=hm2.lpTurn hr2 (R:={ state:=r.st,pending:=r.pend,fn:=fn2,tmps:=tmps2,params:=r.ps,assign:=r.asg,body:=r.body,defers:=D2 }) (by rw[hβ2];exact j1) .exhausted r.pend;rw[hβ2] at hm3 he3;have hE12:Ext M.objs.length M M2:=by
     refine he1.trans (he2.weaken ?_);simp[hoL]
    have hE:Ext M.objs.length M { M2 with w:=M2.w.putObj l (.loop { state:=.exhausted,pending:=r.pend,fn:=fn2,tmps:=tmps2,params:=r.ps,assign:=r.asg,body:=r.body,defers:=D2 }),objs:=setLp M2.objs S.objs.length .exhausted r.pend }:=
     hE12.trans (he3.weaken (Nat.le_trans hE12.len (Nat.le_refl _)))
    have hrel:Rel G { S with objs:=setLp M2.objs S.objs.length .exhausted r.pend } { a with defers:=mk++a.defers } { M2 with w:=M2.w.putObj l (.loop { state:=.exhausted,pending:=r.pend,fn:=fn2,tmps:=tmps2,params:=r.ps,assign:=r.asg,body:=r.body,defers:=D2 }),objs:=setLp M2.objs S.objs.length .exhausted r.pend }:=
     ⟨hm3,rfl,hr.nt,W5 (a:={ a with defers:=mk++a.defers }) hm2 he3 (W5 (a:={ a with defers:=mk++a.defers }) hm1 he2 hdf1),λt d ht=>by
      obtain⟨v,e1,e2⟩:=hr.tm t d ht;exact⟨v,e1,e2.ext hE⟩⟩
    have hnd:NewD M a { a with defers:=mk++a.defers }:=λd hd=>by
     rcases List.mem_append.1 hd with hd|hd
     ·exact .inr (hmk d hd)
     ·exact .inl hd
    have hEn:Ext n.n M _:=hE.weaken (by rw[hoL];exact hn);refine⟨r.pend,_,hend,?_⟩;generalize hpe:r.pend=pe at hq hrel hE hEn;cases pe with
    | none=>exact⟨_,_,rfl,hrel,hEn,hnd,hq⟩
    | some c =>
      simp only at hq ⊢;have hRd3:=hRd.ext hr.ob hrel.ob hEn;have hd:=hq (by rw[<- hrel.ob];exact hEn.len) hRd3 _ _ hrel;rw[dU hRd hr.ob hEn] at hd;refine wpIn_mono hd ?_;rintro e a2 w2 ⟨S3,M3,hw3,hr3,he4,hn3,hq3⟩;exact⟨S3,M3,hw3,hr3,hEn.trans he4,hnd.trans hEn.hs hn3,hq3⟩
   ·exact hq.elim
  ·cases j with
   | zero =>
     have hu0:u=.func (.yield l) #[] #[]:=by
      rw[Array.getElem?_append_left (by simp)] at hu;simpa using hu.symm
     simp at he;subst he;subst hu0;refine .one _ _ (.yld _ _ rfl (by rw[hob1];simp) λr hr'=>by rw[hβ1])
   | succ j =>
     have hu':lb[j]?=some u:=by
      rw[Array.getElem?_append_right (by simp)] at hu;simpa using hu
     refine(hlr j e u (by simpa using he) hu').ext he1
end
end Go.Ab
