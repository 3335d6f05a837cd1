/- Part 4 of the proofs. -/
import Derived.Test.YtlmlkkoapahmjaaGreatDoorS03
set_option linter.all false
set_option maxHeartbeats 100000000
namespace Go.Ab
open Go
section
variable {P:Program} {w:World}
theorem tF (d:Nat) {e:TypeId} {k:IntKind} (he:P.underlying e=some (.int k)) (xs ys:Array Value) :
 ∀ (m i:Nat),h9 (List.replicate m (.int k)) ((xs.toList.drop i).take m)=true->h9 (List.replicate m (.int k)) ((ys.toList.drop i).take m)=true ->
 (forIn (m:=Sem) (List.range' i m 1) ((none,()):Option Bool×PUnit) λi _=>do
  if !(<- Op.equalIn (d+1) e (<- part e xs (i*1)) (<- part e ys (i*1))) then pure (ForInStep.done (some false,())) else pure (ForInStep.yield (none,()))).run P w
  = .ok (if v6 ((xs.toList.drop i).take m) ((ys.toList.drop i).take m) then (none,()) else (some false,())) w:=by
 intro m;induction m with
 | zero=>intro i _ _;simp[v6]
 | succ m ih =>
   intro i hx hy;have get:∀ (zs:Array Value),h9 (List.replicate (m+1) (.int k)) ((zs.toList.drop i).take (m+1))=true->∃ a,zs[i]?=some (.int k a)/\(zs.toList.drop i).take (m+1)=.int k a :: (zs.toList.drop (i+1)).take m/\h9 (List.replicate m (.int k)) ((zs.toList.drop (i+1)).take m)=true:=λzs hz=>by
    cases hh:zs.toList.drop i with
    | nil=>rw[hh] at hz;simp[List.replicate_succ,h9] at hz
    | cons v r =>
      have h1:zs.toList[i]?=some v:=by
       have:=congrArg (λl=>l[0]?) hh;simpa using this
      have h2:zs.toList.drop (i+1)=r:=by
       have:=congrArg (List.drop 1) hh;rw[List.drop_drop] at this;simpa using this
      rw[hh,List.replicate_succ,List.take_succ_cons] at hz;cases v<;>simp[h9] at hz;obtain⟨rfl,hz⟩:=hz;exact⟨_,by simpa using h1,by rw[h2];rfl,by rw[h2];exact hz⟩
   obtain⟨a,ha,ea,sa⟩:=get xs hx;obtain⟨b,hb,eb,sb⟩:=get ys hy;have hagg:(isAgg e).run P w=.ok false w:=B6 (by simp[mb,he]);have hpart:∀ (zs:Array Value) v,zs[i]?=some v->(part e zs (i*1)).run P w=.ok v w:=λzs v hz=>by
    simp[part,hagg,hz]
   have h1:(Op.equalIn (d+1) e (.int k a) (.int k b)).run P w=.ok (a==b) w:=by
    simp only[Op.equalIn,Sem.run_bind,e8 he,Result.andThen_ok,if_true];rfl
   rw[List.range'_succ,List.forIn_cons];simp only[Sem.run_bind,hpart xs _ ha,hpart ys _ hb,Result.andThen_ok,h1,ea,eb,v6];cases hab:(a==b)
   ·simp
   ·have:=ih (i+1) sa sb;simp only[Bool.not_true,Bool.false_eq_true,if_false,Bool.true_and];simpa using this
theorem ci {t e:TypeId} {n:Nat} {k:IntKind} (ht:P.underlying t=some (.array n e)) (he:P.underlying e=some (.int k)) (hs:aW P e=some 1) {xs ys:Array Value}
 (hx:h9 (List.replicate n (.int k)) xs.toList=true) (hy:h9 (List.replicate n (.int k)) ys.toList=true):(Op.equal t (.agg xs) (.agg ys)).run P w=.ok (v6 xs.toList ys.toList) w:=by
 have hlen:∀ (ks:List CK) (l:List Value),h9 ks l=true->l.length=ks.length:=by
  intro ks;induction ks with
  | nil=>intro l hl;cases l<;>simp[h9] at hl ⊢
  | cons c ks ih =>
    intro l hl;cases l with
    | nil=>cases c<;>simp[h9] at hl
    | cons v l =>
      cases c<;>cases v<;>simp[h9] at hl
      ·simp[ih _ hl.2]
      ·simp[ih _ hl]
 have lx:=hlen _ _ hx;have ly:=hlen _ _ hy;simp only[List.length_replicate] at lx ly;have tk:∀ (zs:Array Value),zs.toList.length=n->(zs.toList.drop 0).take n=zs.toList:=λzs hz=>by rw[List.drop_zero,<- hz,List.take_length]
 have key:∀ d,(Op.equalIn (d+1+1) t (.agg xs) (.agg ys)).run P w=.ok (v6 xs.toList ys.toList) w:=λd=>by
  have key:=tF (P:=P) (w:=w) d he xs ys n 0 (by rw[tk xs lx];exact hx) (by rw[tk ys ly];exact hy);rw[tk xs lx,tk ys ly] at key;rw[Op.equalIn];simp only[Sem.run_bind,e8 ht,Result.andThen_ok,o5 hs];rw[Std.Legacy.Range.forIn_eq_forIn_range'];have e0:List.range' [:n].start [:n].size [:n].step=List.range' 0 n 1:=by simp[Std.Legacy.Range.size]
  rw[e0,key];cases v6 xs.toList ys.toList<;>rfl
 exact key 9998
def A9 (P:Program) (t:TypeId):Option (List CK):=match P.underlying t with
 | some (.int k)=>some [.int k]
 | some .bool=>some [.bool]
 | some (.struct _)=>match u6 P t with
   | some ks=>if ks.length=1 then none else some ks
   | none=>none
 | some (.array n e)=>match P.underlying e with
   | some (.int k)=>if aW P e=some 1/\n≠1 then some (List.replicate n (.int k)) else none
   | _=>none
 | _=>none
theorem E2:∀ {ks:List CK} {l:List Value},h9 ks l=true->l.length=ks.length
 | [],[],_=>rfl
 | [],_ :: _,h=>by simp[h9] at h
 | c :: ks,[],h=>by cases c<;>simp[h9] at h
 | c :: ks,v :: l,h=>by
   cases c<;>cases v<;>simp[h9] at h
   ·simp[E2 h.2]
   ·simp[E2 h]
theorem L0 {l:List Value} (h:l.length≠1):F5 l=.agg l.toArray:=by
 match l,h with
 | [],_=>rfl
 | [v],h=>simp at h
 | _ :: _ :: _,_=>rfl
theorem lH {t:TypeId} {ks:List CK} (h:A9 P t=some ks) {x y:List Value} (hx:h9 ks x=true) (hy:h9 ks y=true):(Op.equal t (F5 x) (F5 y)).run P w=.ok (v6 x y) w:=by
 have lx:=E2 hx;have ly:=E2 hy;unfold A9 at h;split at h
 ·rename_i k hu;cases h;match x,y,lx,ly with
  | [a],[b],_,_ =>
    cases a<;>simp[h9] at hx;cases b<;>simp[h9] at hy;subst hx;subst hy;show (Op.equalIn (9999+1) t _ _).run P w=_;have:∀ d k a b,(P.underlying t=some (.int k))->(Op.equalIn (d+1) t (.int k a) (.int k b)).run P w=.ok (a==b) w:=λd k a b hu=>by
     simp only[Op.equalIn,Sem.run_bind,e8 hu,Result.andThen_ok,if_true];rfl
    simp only[F5];rw[this 9999 _ _ _ hu];simp[v6]
 ·rename_i hu;cases h;match x,y,lx,ly with
  | [a],[b],_,_ =>
    cases a<;>simp[h9] at hx;cases b<;>simp[h9] at hy;show (Op.equalIn (9999+1) t _ _).run P w=_;have:∀ d a b,(Op.equalIn (d+1) t (.bool a) (.bool b)).run P w=.ok (a==b) w:=λd a b=>by
     simp only[Op.equalIn,Sem.run_bind,e8 hu,Result.andThen_ok];rfl
    simp only[F5];rw[this 9999];simp[v6]
 ·rename_i fs hu;split at h
  ·rename_i ks' he;split at h
   ·cases h
   ·rename_i hne;cases h;rw[L0 (by rw[lx];exact hne),L0 (by rw[ly];exact hne)];exact bb he (by simpa using hx) (by simpa using hy) w
  ·cases h
 ·rename_i n e hu;split at h
  ·rename_i k he;split at h
   ·rename_i hc;cases h;simp only[List.length_replicate] at lx ly;rw[L0 (by rw[lx];exact hc.2),L0 (by rw[ly];exact hc.2)];exact ci hu he hc.1 (by simpa using hx) (by simpa using hy)
   ·cases h
  ·cases h
 ·cases h
theorem cj (em:Bool) (n:Nat) (xs:Array Value):∀ (fs:List Field) (i:Nat) (ks:List CK),V8 P fs i=some ks->h9 ks (xs.toList.drop i)=true ->
 (forIn (m:=Sem) fs PUnit.unit λf _=>do
  if f.name ≠ "_" then Instr.checkKey em (n+1) f.type (<- part f.type xs f.offset)
  pure (ForInStep.yield PUnit.unit)).run P w=.ok PUnit.unit w
 | [],i,ks,h,hx=>by simp
 | f :: fs,i,ks,h,hx=>by
   simp only[V8] at h;split at h
   ·rename_i hoff;split at h
    ·rename_i k l hk hl;cases h;have ih:=cj em n xs fs (i+1) l hl;unfold dS at hk;split at hk
     ·cases hk
     ·rename_i hname;cases hh:xs.toList.drop i with
      | nil=>rw[hh] at hx;cases k<;>simp[h9] at hx
      | cons v r =>
        have h1:xs.toList[i]?=some v:=by
         have:=congrArg (λl=>l[0]?) hh;simpa using this
        have h2:xs.toList.drop (i+1)=r:=by
         have:=congrArg (List.drop 1) hh;rw[List.drop_drop] at this;simpa using this
        rw[hh] at hx;have hx2:h9 l r=true:=by cases k<;>cases v<;>simp[h9] at hx<;>first|exact hx.2|exact hx
        rw[<- h2] at hx2;have hagg:(isAgg f.type).run P w=.ok false w:=by
         split at hk
         ·rename_i hu;exact B6 (by simp[mb,hu])
         ·rename_i hu;exact B6 (by simp[mb,hu])
         ·cases hk
        have hpart:(part f.type xs f.offset).run P w=.ok v w:=by
         have h3:xs[i]?=some v:=by simpa using h1
         simp[part,hagg,hoff,h3]
        have hck:(Instr.checkKey em (n+1) f.type v).run P w=.ok () w:=by
         split at hk
         ·rename_i hu;simp only[Instr.checkKey,Sem.run_bind,e8 hu,Result.andThen_ok];rfl
         ·rename_i hu;simp only[Instr.checkKey,Sem.run_bind,e8 hu,Result.andThen_ok];rfl
         ·cases hk
        rw[List.forIn_cons];have ih':=ih hx2;simp only[ne_eq] at ih' hname ⊢;simp only[hname,not_false_eq_true,if_true,Sem.run_bind,hpart,hck,Result.andThen_ok];simpa using ih'
    ·cases h
   ·cases h
theorem fP (em:Bool) (n:Nat) {e:TypeId} {k:IntKind} (he:P.underlying e=some (.int k)) (hs:aW P e=some 1) (xs:Array Value):∀ (m i:Nat),i+m<=xs.size ->
 (forIn (m:=Sem) (List.range' i m 1) PUnit.unit λi _=>do
  Instr.checkKey em (n+1) e (<- part e xs (i*(<- sizeOf e)))
  pure (ForInStep.yield PUnit.unit)).run P w=.ok PUnit.unit w
 | 0,i,_=>by simp
 | m+1,i,h=>by
   have ih:=fP em n he hs xs m (i+1) (by omega);have h3:xs[i]?=some xs[i]:=by simp[show i<xs.size by omega]
   have hagg:(isAgg e).run P w=.ok false w:=B6 (by simp[mb,he]);have hpart:(part e xs (i*1)).run P w=.ok xs[i] w:=by simp[part,hagg,h3]
   have hck:∀ v,(Instr.checkKey em (n+1) e v).run P w=.ok () w:=λv=>by
    simp only[Instr.checkKey,Sem.run_bind,e8 he,Result.andThen_ok];rfl
   rw[List.range'_succ,List.forIn_cons];simp only[Sem.run_bind,o5 hs,hpart,hck,Result.andThen_ok];simpa using ih
theorem U0 {t:TypeId} {ks:List CK} (h:A9 P t=some ks) {x:List Value} (hx:h9 ks x=true) (em:Bool):(Instr.checkKey em 10000 t (F5 x)).run P w=.ok () w:=by
 have lx:=E2 hx;have key:∀ d,(Instr.checkKey em (d+1+1) t (F5 x)).run P w=.ok () w:=λd=>by
  unfold A9 at h;split at h
  ·rename_i k hu;rw[Instr.checkKey];simp only[Sem.run_bind,e8 hu,Result.andThen_ok];rfl
  ·rename_i hu;rw[Instr.checkKey];simp only[Sem.run_bind,e8 hu,Result.andThen_ok];rfl
  ·rename_i fs hu;split at h
   ·rename_i ks' he;split at h
    ·cases h
    ·rename_i hne;cases h;rw[L0 (by rw[lx];exact hne)];rw[Instr.checkKey];simp only[Sem.run_bind,e8 hu,Result.andThen_ok];unfold u6 at he;split at he
     ·split at he
      ·rename_i fs' hu';rw[hu] at hu';cases hu';rw[<- Array.forIn_toList];have:=cj (P:=P) (w:=w) em d x.toArray fs.toList 0 ks he (by simpa using hx);simp at this ⊢;rw[this];rfl
      ·cases he
     ·cases he
   ·cases h
  ·rename_i n e hu;split at h
   ·rename_i k he;split at h
    ·rename_i hc;cases h;simp only[List.length_replicate] at lx;rw[L0 (by rw[lx];exact hc.2)];rw[Instr.checkKey];simp only[Sem.run_bind,e8 hu,Result.andThen_ok];rw[Std.Legacy.Range.forIn_eq_forIn_range'];have e0:List.range' [:n].start [:n].size [:n].step=List.range' 0 n 1:=by simp[Std.Legacy.Range.size]
     rw[e0];have:=fP (P:=P) (w:=w) em d he hc.1 x.toArray n 0 (by simp[lx]);simp at this ⊢;rw[this];rfl
    ·cases h
   ·cases h
  ·cases h
 exact key 9998
end
def V4 (k:List Value):List (List Value×List DC)->Option (List DC)
 | []=>none
 | x :: r=>if v6 k x.1=true then some x.2 else V4 k r
def R6 (k:List Value) (es:List (List Value×List DC)) (z:List DC):List DC:=(V4 k es).getD z
def jq (k:List Value) (es:List (List Value×List DC)):Bool:=(V4 k es).isSome
def R5 (k:List Value) (v:List DC):List (List Value×List DC)->List (List Value×List DC)
 | []=>[(k,v)]
 | x :: r=>if v6 k x.1=true then (k,v) :: r else x :: R5 k v r
def iw (k:List Value):List (List Value×List DC)->List (List Value×List DC)
 | []=>[]
 | x :: r=>if v6 k x.1=true then r else x :: iw k r
def X9 (k:List Value):List (List Value×List DC)->Option Nat
 | []=>none
 | x :: r=>if v6 k x.1=true then some 0 else (X9 k r).map (· + 1)
def fb:DV->Option (List Value)
 | .one (.im (.raw v))=>some [v]
 | .agg l=>if l.length=1 then none else cR l
 | _=>none
def ng:DV->Option (List DC)
 | .one c=>some [c]
 | .agg l=>if l.length=1 then none else some l
 | _=>none
def cD (P:Program) (t:TypeId):Option (TypeId×TypeId):=match P.underlying t with
 | some (.map k e)=>some (k,e)
 | _=>none
def Bz (P:Program) (t:TypeId):Option (List Value):=match (P.info? t).bind (·.zero) with
 | some (.agg cs)=>if cs.size=1 then none else some cs.toList
 | some v=>some [v]
 | none=>none
section
variable {P:Program} {w:World} {G:Hn} {S:DS}
theorem G8 {t k e:TypeId} (h:cD P t=some (k,e)):P.underlying t=some (.map k e):=by
 unfold cD at h;split at h
 ·rename_i hu;cases h;exact hu
 ·cases h
theorem sK {t:TypeId} {z:List Value} (h:Bz P t=some z):(zeroValue t).run P w=.ok (F5 z) w:=by
 unfold Bz at h;cases hi:P.info? t with
 | none=>simp[hi] at h
 | some i =>
   cases hz:i.zero with
   | none=>simp[hi,hz] at h
   | some v =>
     have hrun:(zeroValue t).run P w=.ok v w:=by
      unfold zeroValue;simp[typeInfo,hi,hz]
     simp only[hi,Option.bind_some,hz] at h;rw[hrun];split at h
     ·rename_i cs hv;split at h
      ·cases h
      ·rename_i hne;cases h;cases hv;rw[L0 (by simpa using hne)]
     ·rename_i hv;cases h;cases hv;rfl
     ·rename_i hv;cases hv
theorem Y0 {a:Act} {M:MS} (hr:Rel G S a M) {x:Operand} {d:DV} {k:List Value} (hx:j5 G S x=some d) (hk:fb d=some k):a.eval x=F5 k:=by
 have hp:=i9 hr hx;generalize a.eval x=v at hp;unfold fb at hk;split at hk
 ·cases hk;exact hp.raw
 ·split at hk
  ·cases hk
  ·rename_i l hne;cases hp with
   | agg _ cs h1 h2 =>
     have:=K4 l k cs.toList hk (by simpa using h1) (λj c v h3 h4=>h2 j c v h3 (by simpa using h4));rw[<- this,L0 (by simpa[<- h1] using hne)]
 ·cases hk
theorem nf {M:MS} {d:DV} {l:List DC} {v:Value} (hp:RepV M d v) (hl:ng d=some l):RepV M (F3 l) v:=by
 unfold ng at hl;split at hl
 ·cases hl;exact hp
 ·split at hl
  ·cases hl
  ·rename_i hne;cases hl;have:F3 l=.agg l:=by
    match l,hne with
    | [],_=>rfl
    | [v],h=>simp at h
    | _ :: _ :: _,_=>rfl
   rw[this];exact hp
 ·cases hl
def R7 (k:List Value):List (List Value×List DC)->List MapEntry->Nat->Option (Nat×Value)
 | x :: r,e :: l,i=>if v6 k x.1=true then some (i,e.val) else R7 k r l (i+1)
 | _,_,_=>none
def Y3 (es:List (List Value×List DC)) (l:List MapEntry):Prop:=l.map (·.key)=es.map (λx=>F5 x.1)
theorem kc {kt:TypeId} {ks:List CK} (h:A9 P kt=some ks) {k:List Value} (hk:h9 ks k=true):∀ (es:List (List Value×List DC)) (l:List MapEntry) (i:Nat),Y3 es l->(∀ x∈es,h9 ks x.1=true) ->
 (Instr.findAsking kt (F5 k) l i).run P w=.ok (R7 k es l i) w
 | [],[],i,_,_=>by simp[Instr.findAsking,R7]
 | [],e :: l,i,hk',_=>by simp[Y3] at hk'
 | x :: es,[],i,hk',_=>by simp[Y3] at hk'
 | x :: es,e :: l,i,hk',hs=>by
   simp only[Y3,List.map_cons,List.cons.injEq] at hk';have ih:=kc h hk es l (i+1) hk'.2 (λy hy=>hs y (by simp[hy]));simp only[Instr.findAsking,Sem.run_bind,hk'.1,lH h hk (hs x (by simp)),Result.andThen_ok,R7];cases hb:v6 k x.1
   ·simpa using ih
   ·simp
theorem je {q:IntKind} {n:Int}:∀ (es:List (List Value×List DC)) (l:List MapEntry) (i:Nat),Y3 es l->(∀ x∈es,h9 [.int q] x.1=true) ->
 Instr.findNow (.int q) (.int q n) l i=some (R7 [.int q n] es l i)
 | [],[],i,_,_=>rfl
 | [],e :: l,i,hk',_=>by simp[Y3] at hk'
 | x :: es,[],i,hk',_=>by simp[Y3] at hk'
 | x :: es,e :: l,i,hk',hs=>by
   simp only[Y3,List.map_cons,List.cons.injEq] at hk';have ih:=je (q:=q) (n:=n) es l (i+1) hk'.2 (λy hy=>hs y (by simp[hy]));have h1:=hs x (by simp);have h2:=E2 h1;obtain⟨x1,x2⟩:=x;match x1,h2 with
   | [v],_ =>
     cases v<;>simp[h9] at h1;subst h1;simp only[Instr.findNow,hk'.1,F5,Instr.sameNow,if_true,R7,v6,Bool.and_true];split
     ·rename_i hb;simp at hb;simp[hb]
     ·rename_i hb;simp at hb;simpa[hb] using ih
     ·rename_i hb;cases hb
theorem gr {n:Bool}:∀ (es:List (List Value×List DC)) (l:List MapEntry) (i:Nat),Y3 es l->(∀ x∈es,h9 [.bool] x.1=true) ->
 Instr.findNow .bool (.bool n) l i=some (R7 [.bool n] es l i)
 | [],[],i,_,_=>rfl
 | [],e :: l,i,hk',_=>by simp[Y3] at hk'
 | x :: es,[],i,hk',_=>by simp[Y3] at hk'
 | x :: es,e :: l,i,hk',hs=>by
   simp only[Y3,List.map_cons,List.cons.injEq] at hk';have ih:=gr (n:=n) es l (i+1) hk'.2 (λy hy=>hs y (by simp[hy]));have h1:=hs x (by simp);have h2:=E2 h1;obtain⟨x1,x2⟩:=x;match x1,h2 with
   | [v],_ =>
     cases v<;>simp[h9] at h1;simp only[Instr.findNow,hk'.1,F5,Instr.sameNow,R7,v6,Bool.and_true];split
     ·rename_i hb;simp at hb;simp[hb]
     ·rename_i hb;simp at hb;simpa[hb] using ih
     ·rename_i hb;cases hb
theorem fO {kt:TypeId} {ks:List CK} (h:A9 P kt=some ks) {k:List Value} (hk:h9 ks k=true) {es:List (List Value×List DC)} {l:List MapEntry} (hl:Y3 es l) (hs:∀ x∈es,h9 ks x.1=true) :
 (Instr.findKey kt (F5 k) l).run P w=.ok (R7 k es l 0) w:=by
 have hask:=kc (w:=w) h hk es l 0 hl hs;have h0:=h;unfold A9 at h;split at h
 ·rename_i q hu;cases h;have h2:=E2 hk;match k,h2 with
  | [v],_ =>
    cases v<;>simp[h9] at hk;subst hk;simp only[F5,Instr.findKey,Sem.run_bind,e8 hu,Result.andThen_ok,je es l 0 hl hs,Sem.run_pure]
 ·rename_i hu;cases h;have h2:=E2 hk;match k,h2 with
  | [v],_ =>
    cases v<;>simp[h9] at hk;simp only[F5,Instr.findKey,Sem.run_bind,e8 hu,Result.andThen_ok,gr es l 0 hl hs,Sem.run_pure]
 ·rename_i fs hu;have hag:F5 k=.agg k.toArray:=by
   split at h
   ·split at h
    ·cases h
    ·rename_i hne;cases h;exact L0 (by rw[E2 hk];exact hne)
   ·cases h
  cases l with
  | nil =>
    cases es with
    | cons=>simp[Y3] at hl
    | nil=>simp[Instr.findKey,e8 hu,Instr.findNow,R7]
  | cons e l =>
    have hn:Instr.findNow (.struct fs) (F5 k) (e :: l) 0=none:=by
     rw[hag];simp[Instr.findNow,Instr.sameNow]
    simp only[Instr.findKey,Sem.run_bind,e8 hu,Result.andThen_ok,hn];exact hask
 ·rename_i n e hu;have hag:F5 k=.agg k.toArray:=by
   split at h
   ·split at h
    ·rename_i hc;cases h;exact L0 (by rw[E2 hk];simpa using hc.2)
    ·cases h
   ·cases h
  cases l with
  | nil =>
    cases es with
    | cons=>simp[Y3] at hl
    | nil=>simp[Instr.findKey,e8 hu,Instr.findNow,R7]
  | cons e' l =>
    have hn:Instr.findNow (.array n e) (F5 k) (e' :: l) 0=none:=by
     rw[hag];simp[Instr.findNow,Instr.sameNow]
    simp only[Instr.findKey,Sem.run_bind,e8 hu,Result.andThen_ok,hn];exact hask
 ·cases h
theorem bn {k:List Value}:∀ {es:List (List Value×List DC)} {l:List MapEntry} {i:Nat},Y3 es l->R7 k es l i=none->V4 k es=none/\X9 k es=none
 | [],_,_,_,_=>⟨rfl,rfl⟩
 | x :: es,[],i,h,_=>by simp[Y3] at h
 | x :: es,e :: l,i,h,hf=>by
   simp only[Y3,List.map_cons,List.cons.injEq] at h;simp only[R7] at hf;split at hf
   ·cases hf
   ·rename_i hb;obtain⟨h1,h2⟩:=bn h.2 hf;simp[V4,X9,hb,h1,h2]
theorem bl {k:List Value}:∀ {es:List (List Value×List DC)} {l:List MapEntry} {i j:Nat} {v:Value},Y3 es l->R7 k es l i=some (j,v) ->
 ∃ (p:Nat) (x:List Value×List DC) (e:MapEntry),j=i+p/\es[p]?=some x/\l[p]?=some e/\v=e.val/\V4 k es=some x.2/\X9 k es=some p
 | [],_,_,_,_,_,h=>by simp[R7] at h
 | x :: es,[],i,_,_,h,_=>by simp[Y3] at h
 | x :: es,e :: l,i,j,v,h,hf=>by
   simp only[Y3,List.map_cons,List.cons.injEq] at h;simp only[R7] at hf;split at hf
   ·rename_i hb;cases hf;exact⟨0,x,e,rfl,rfl,rfl,rfl,by simp[V4,hb],by simp[X9,hb]⟩
   ·rename_i hb;obtain⟨p,y,e',rfl,h1,h2,h3,h4,h5⟩:=bl h.2 hf;exact⟨p+1,y,e',by omega,by simpa using h1,by simpa using h2,h3,by simp[V4,hb,h4],by simp[X9,hb,h5]⟩
theorem dO {k:List Value} {v:List DC}:∀ {es:List (List Value×List DC)},X9 k es=none->R5 k v es=es++[(k,v)]
 | [],_=>rfl
 | x :: es,h=>by
   simp only[X9] at h;split at h
   ·cases h
   ·rename_i hb;simp only[Option.map_eq_none_iff] at h;simp[R5,hb,dO h]
theorem dN {k:List Value} {v:List DC}:∀ {es:List (List Value×List DC)} {p:Nat},X9 k es=some p->R5 k v es=es.set p (k,v)
 | [],_,h=>by simp[X9] at h
 | x :: es,p,h=>by
   simp only[X9] at h;split at h
   ·rename_i hb;cases h;simp[R5,hb]
   ·rename_i hb;simp only[Option.map_eq_some_iff] at h;obtain⟨q,hq,rfl⟩:=h;simp[R5,hb,dN hq]
theorem mt {k:List Value}:∀ {es:List (List Value×List DC)},X9 k es=none->iw k es=es
 | [],_=>rfl
 | x :: es,h=>by
   simp only[X9] at h;split at h
   ·cases h
   ·rename_i hb;simp only[Option.map_eq_none_iff] at h;simp[iw,hb,mt h]
theorem ms {k:List Value}:∀ {es:List (List Value×List DC)} {p:Nat},X9 k es=some p->iw k es=es.eraseIdx p
 | [],_,h=>by simp[X9] at h
 | x :: es,p,h=>by
   simp only[X9] at h;split at h
   ·rename_i hb;cases h;simp[iw,hb]
   ·rename_i hb;simp only[Option.map_eq_some_iff] at h;obtain⟨q,hq,rfl⟩:=h;simp[iw,hb,ms hq]
theorem sS {M:MS} {es:List (List Value×List DC)} {ents:Array MapEntry} (hsz:ents.size=es.length) (h:∀ (i:Nat) (x:List Value×List DC) (e:MapEntry),es[i]?=some x->ents[i]?=some e->vp M x e):Y3 es ents.toList:=by
 refine List.ext_getElem? λi=>?_;rw[List.getElem?_map,List.getElem?_map];by_cases hi:i<es.length
 ·have h1:es[i]?=some es[i]:=by simp[hi]
  have h2:ents[i]?=some ents[i]:=by simp[hsz,hi]
  rw[h1,Array.getElem?_toList,h2];simp only[Option.map_some];rw[(h i _ _ h1 h2).1]
 ·rw[List.getElem?_eq_none (l:=es) (by omega),List.getElem?_eq_none (l:=ents.toList) (by simp[hsz];omega)];rfl
theorem aX {M:MS}:∀ {z:List Value},z.all v7=true->RepV M (F3 (z.map an)) (F5 z)
 | [],_=>.agg _ _ rfl (λj c v h=>by simp at h)
 | [v],h=>.one _ _ (Y4 (by simpa using h))
 | a :: b :: r,h=>by
   refine .agg _ _ (by simp) λj c v h1 h2=>?_;rw[<- List.map_cons,List.getElem?_map,Option.map_eq_some_iff] at h1;obtain⟨v0,h3,rfl⟩:=h1;rw[List.getElem?_toArray] at h2;rw[h3] at h2;cases h2;exact Y4 (List.all_eq_true.1 h _ (List.mem_of_getElem? h3))
def jI (P:Program) (G:Hn) (S:DS) (t:TypeId) (m k:Operand) (ok:Bool):Option (DV×List DObj):=
 match j5 G S m,j5 G S k,cD P t with
 | some (.one (.map o)),some kd,some (kt,et)=>match S.objs[o]?,fb kd,A9 P kt,Bz P et with
   | some (.map ks es),some kv,some ks',some z =>
     if ks=ks'/\h9 ks kv=true/\z.all v7=true then
      some (if ok then .tup [F3 (R6 kv es (z.map an)),.one (.im (.raw (.bool (jq kv es))))] else F3 (R6 kv es (z.map an)),S.objs)
     else none
   | _,_,_,_=>none
 | _,_,_=>none
def plainK:List CK->Prop
 | .st _ _ _ :: _=>False
 | _=>True
theorem plainK.base {ks:List CK} (h:plainK ks):L5 ks=ks:=by
 unfold plainK at h;split at h
 ·exact h.elim
 ·rename_i hn;unfold L5;split
  ·rename_i l c b r;exact absurd rfl (hn l c b r)
  ·rfl
theorem StampsK.plain {ks:List CK} (h:plainK ks) {ents:Array MapEntry} {clock b:Nat} (hs:Stamps ents clock):StampsK ks ents clock b:=by
 refine⟨hs,?_⟩;split
 ·exact h.elim
 ·trivial
theorem kT {P:Program}:∀ {fs:List Field} {i:Nat} {ks:List CK},V8 P fs i=some ks->plainK ks
 | [],_,_,h=>by cases h;trivial
 | f :: r,i,ks,h=>by
   simp only[V8] at h;split at h
   ·split at h
    ·rename_i k l hk hl;cases h;unfold dS at hk;split at hk
     ·cases hk
     ·split at hk
      ·cases hk;trivial
      ·cases hk;trivial
      ·cases hk
    ·cases h
   ·cases h
theorem Z6 {P:Program} {t:TypeId} {ks:List CK} (h:A9 P t=some ks):plainK ks:=by
 unfold A9 at h;split at h
 ·cases h;trivial
 ·cases h;trivial
 ·split at h
  ·rename_i hks;split at h
   ·cases h
   ·cases h;unfold u6 at hks;split at hks
    ·split at hks
     ·exact kT hks
     ·cases hks
    ·cases hks
  ·cases h
 ·split at h
  ·split at h
   ·cases h;have:∀ (n:Nat) (k:IntKind),plainK (List.replicate n (.int k)):=λn k=>by cases n<;>trivial
    exact this _ _
   ·cases h
  ·cases h
 ·cases h
theorem gc {M:MS} (hm:RelM G M) {o:Nat} {ks:List CK} {es:List (List Value×List DC)} {v:Value} (hp:RepC M (.map o) v) (ho:M.objs[o]?=some (.map ks es)) :
 v=.map (some (M.β o))/\∃ ents clock,M.w.heap[M.β o]?=some (.map ents clock)/\Stamps ents clock/\(∀ x∈es,h9 (L5 ks) x.1=true)/\ents.size=es.length /\
  (∀ (i:Nat) (x:List Value×List DC) (e:MapEntry),es[i]?=some x->ents[i]?=some e->vp M x e)/\Y3 es ents.toList:=by
 cases hp with
 | map _ _ h1 h2 h3 =>
   obtain⟨ents,clock,a1,a2,a3,a4,a5⟩:=hm.objs o _ ho;exact⟨h3 _ _ ho,ents,clock,a1,a2.1,a3,a4,a5,sS a4 a5⟩
theorem w8 {w:World} {b c:Nat} {x:Array MapEntry} (h:w.heap[b]?=some (.map x c)):(getObj b).run P w=.ok (.map x c) w:=by
 simp[getObj,Sem.run,h]
theorem au {w:World} {b c:Nat} {x:Array MapEntry} {y:Obj} (h:w.heap[b]?=some (.map x c)):(setObj b y).run P w=.ok () { w with heap:=w.heap.setIfInBounds b y }:=by
 simp[setObj,Sem.run,h]
theorem rY {o:Oper} {t:TypeId} {m k:Operand} {ok:Bool} {d:DV} {objs':List DObj} (ho:o.op=.lookup t m k ok) (h:jI P G S t m k ok=some (d,objs')):OpV P G o S d objs':=by
 unfold jI at h;split at h
 ·rename_i oM kd kt et hm hk ht;split at h
  ·rename_i ks es kv ks' z h1 h2 h3 h4;split at h
   ·rename_i hc;obtain⟨rfl,hsk,hz⟩:=hc;cases h;intro a M hr;have hp:=i9 hr hm;have hkv:=Y0 hr hk h2;generalize hv:a.eval m=v at hp;cases hp with
    | one _ _ hp =>
      obtain⟨rfl,ents,clock,a1,a2,a3,a4,a5,a6⟩:=gc hr.m hp (by rw[hr.ob];exact h1);have hpb:=(Z6 h3).base;rw[hpb] at a3;have hfind:=fO (P:=P) (w:=M.w) h3 hsk a6 a3;have hck:=λem=>U0 (P:=P) (w:=M.w) h3 hsk em;have hzero:=sK (P:=P) (w:=M.w) h4;have hzr:=aX (M:=M) hz;have hrun:∀ u b,((∃ j,R7 kv es ents.toList 0=some (j,u)/\b=true)\/(R7 kv es ents.toList 0=none/\u=F5 z/\b=false))->(execOp a.eval o).run P M.w=.ok (.value (if ok then .tuple #[u,.bool b] else u)) M.w:=by
       intro u b hu;simp only[execOp,ho,Instr.lookup,hv,hkv,Sem.run_bind,e8 (G8 ht),Result.andThen_ok,w8 a1,Sem.run_pure,hck,hfind];rcases hu with⟨j,h1,rfl⟩|⟨h1,rfl,rfl⟩
       ·rw[h1];simp
       ·rw[h1];simp[hzero]
      have fin:∀ u b,((∃ j,R7 kv es ents.toList 0=some (j,u)/\b=true)\/(R7 kv es ents.toList 0=none/\u=F5 z/\b=false))->RepV M (F3 (R6 kv es (z.map an))) u->jq kv es=b ->
       ∃ v M',((execOp a.eval o).run P M.w=.ok (.value v) M'.w\/((execOp a.eval o).run P M.w=.ok .skip M'.w/\v=undef))/\RelM G M'/\M'.objs=S.objs/\Ext M.objs.length M M' /\
        RepV M' (if ok then .tup [F3 (R6 kv es (z.map an)),.one (.im (.raw (.bool (jq kv es))))] else F3 (R6 kv es (z.map an))) v:=by
       intro u b hu hrep hb;refine⟨_,M,.inl (hrun u b hu),hr.m,hr.ob,Ext.refl M,?_⟩;cases ok
       ·simpa using hrep
       ·simp only[if_true];refine .tup _ _ rfl λj d v h5 h6=>?_;match j with
        | 0=>simp at h5 h6;subst h5;subst h6;exact hrep
        | 1=>simp at h5 h6;subst h5;subst h6;rw[hb];exact .one _ _ (.im _ _ (.raw _ rfl))
        | j+2=>simp at h5
      cases hf:R7 kv es ents.toList 0 with
      | none =>
        have h5:=(bn a6 hf).1;refine fin (F5 z) false ?_ (by simp[R6,h5,hzr]) (by simp[jq,h5]);exact .inr ⟨hf,rfl,rfl⟩
      | some p =>
        obtain⟨j,u⟩:=p;obtain⟨p,x,e,rfl,h5,h6,rfl,h7,h8⟩:=bl a6 hf;refine fin e.val true ?_ ?_ (by simp[jq,h7])
        ·exact .inl ⟨_,hf,rfl⟩
        ·simp only[R6,h7,Option.getD_some];exact(a5 p x e h5 (by simpa using h6)).2.2
   ·cases h
  ·cases h
 ·cases h
def aa (P:Program) (G:Hn) (S:DS) (t:TypeId) (m k v:Operand):Option (DV×List DObj):=
 match j5 G S m,j5 G S k,j5 G S v,cD P t with
 | some (.one (.map o)),some kd,some vd,some (kt,_)=>match S.objs[o]?,fb kd,A9 P kt,ng vd with
   | some (.map ks es),some kv,some ks',some vl =>
     if ks=ks'/\h9 ks kv=true then some (.tup [],S.objs.set o (.map ks (R5 kv vl es))) else none
   | _,_,_,_=>none
 | _,_,_,_=>none
theorem lG {ks:List CK} {k:List Value} (h:h9 ks k=true):Instr.sameBits 10000 (F5 k) (F5 k)=true:=by
 have one:∀ (n:Nat) (v:Value) (c:CK) (ks:List CK) (l:List Value),h9 (c :: ks) (v :: l)=true->Instr.sameBits n v v=true/\h9 ks l=true:=by
  intro n v c ks l hs;cases c<;>cases v<;>simp[h9] at hs
  ·cases n<;>simp[Instr.sameBits,hs.2]
  ·cases n<;>simp[Instr.sameBits,hs]
 have all:∀ (n:Nat) (ks:List CK) (l:List Value),h9 ks l=true->((l.zip l).all λ(x,y)=>Instr.sameBits n x y)=true:=by
  intro n ks;induction ks with
  | nil=>intro l hl;cases l<;>simp[h9] at hl ⊢
  | cons c ks ih =>
    intro l hl;cases l with
    | nil=>rfl
    | cons v l =>
      obtain⟨h1,h2⟩:=one n v c ks l hl;have:=ih l h2;simp only[List.zip_cons_cons,List.all_cons,h1,Bool.true_and];exact this
 have agg:∀ (n:Nat) (l:List Value),h9 ks l=true->Instr.sameBits (n+1) (.agg l.toArray) (.agg l.toArray)=true:=λn l hl=>by
  have:=all n ks l hl;simp only[Instr.sameBits,beq_self_eq_true,Bool.true_and];exact this
 match k,h with
 | [],h=>exact agg 9999 [] h
 | [v],h =>
   cases ks with
   | nil=>simp[h9] at h
   | cons c ks=>exact(one 10000 v c ks [] h).1
 | a :: b :: r,h=>exact agg 9999 (a :: b :: r) h
theorem Stamps.push {ents:Array MapEntry} {clock:Nat} (h:Stamps ents clock) (k v:Value):Stamps (ents.push { key:=k,val:=v,born:=clock }) (clock+1):=by
 refine⟨λi e hi=>?_,λi j e e' hi hj he=>?_⟩
 ·rw[Array.getElem?_push] at hi;split at hi
  ·cases hi;simp
  ·have:=h.1 i e hi;omega
 ·rw[Array.getElem?_push] at hi hj;split at hi
  ·split at hj
   ·omega
   ·cases hi;have:=h.1 j e' hj;simp at he;omega
  ·split at hj
   ·cases hj;have:=h.1 i e hi;simp at he;omega
   ·exact h.2 i j e e' hi hj he
theorem Stamps.modify {ents:Array MapEntry} {clock:Nat} (h:Stamps ents clock) (p:Nat) (f:MapEntry->MapEntry) (hf:∀ e,(f e).born=e.born):Stamps (ents.modify p f) clock:=by
 have get:∀ (i:Nat) (e:MapEntry),(ents.modify p f)[i]?=some e->∃ e0,ents[i]?=some e0/\e.born=e0.born:=λi e hi=>by
  rw[Array.getElem?_modify] at hi;split at hi
  ·rw[Option.map_eq_some_iff] at hi;obtain⟨e0,h1,rfl⟩:=hi;exact⟨e0,h1,hf e0⟩
  ·exact⟨e,hi,rfl⟩
 refine⟨λi e hi=>?_,λi j e e' hi hj he=>?_⟩
 ·obtain⟨e0,h1,h2⟩:=get i e hi;rw[h2];exact h.1 i e0 h1
 ·obtain⟨e0,h1,h2⟩:=get i e hi;obtain⟨e1,h3,h4⟩:=get j e' hj;exact h.2 i j e0 e1 h1 h3 (by rw[<- h2,<- h4];exact he)
theorem eI {o:Oper} {t:TypeId} {m k v:Operand} {d:DV} {objs':List DObj} (ho:o.op=.mapUpdate t m k v\/o.op=.insert t m k v) (h:aa P G S t m k v=some (d,objs')):OpV P G o S d objs':=by
 unfold aa at h;split at h
 ·rename_i oM kd vd kt et hm hk hvd ht;split at h
  ·rename_i ks es kv ks' vl h1 h2 h3 h4;split at h
   ·rename_i hc;obtain⟨rfl,hsk⟩:=hc;cases h;intro a M hr;have hp:=i9 hr hm;have hkv:=Y0 hr hk h2;have hvv:=nf (i9 hr hvd) h4;have hob:M.objs[oM]?=some (.map ks es):=by rw[hr.ob];exact h1
    generalize hv:a.eval m=mv at hp;generalize hx:a.eval v=xv at hvv;cases hp with
    | one _ _ hp =>
      obtain⟨rfl,ents,clock,a1,a2,a3,a4,a5,a6⟩:=gc hr.m hp hob;have hpl:=Z6 h3;have hpb:=hpl.base;rw[hpb] at a3;have hfind:=fO (P:=P) (w:=M.w) h3 hsk a6 a3;have hck:=λem=>U0 (P:=P) (w:=M.w) h3 hsk em;have hplain:∀ v∈kv,v7 v=true:=by
       have:∀ (ks:List CK) (l:List Value),h9 ks l=true->∀ v∈l,v7 v=true:=by
        intro ks;induction ks with
        | nil=>intro l hl;cases l<;>simp[h9] at hl ⊢
        | cons c ks ih =>
          intro l hl;cases l with
          | nil=>simp
          | cons v l =>
            intro u hu;cases c<;>cases v<;>simp[h9] at hl
            all_goals
             rcases List.mem_cons.1 hu with rfl|hu
             ·rfl
             ·first|exact ih l hl.2 u hu|exact ih l hl u hu
       exact this ks kv hsk
      have fin:∀ (X:Obj) (es':List (List Value×List DC)),(execOp a.eval o).run P M.w=.ok .skip { M.w with heap:=M.w.heap.setIfInBounds (M.β oM) X }->K7 X=0->es'=R5 kv vl es ->
       (∀ M',Ext M.objs.length M M'->M'.w.heap[M'.β oM]?=some X->RelO M' oM (.map ks es')) ->
       ∃ v M',((execOp a.eval o).run P M.w=.ok (.value v) M'.w\/((execOp a.eval o).run P M.w=.ok .skip M'.w/\v=undef))/\RelM G M'/\M'.objs=S.objs.set oM (.map ks (R5 kv vl es))/\Ext M.objs.length M M'/\RepV M' (.tup []) v:=by
       rintro X es' hrun hsz rfl hrel;have he:Ext M.objs.length M (M.turn oM X (.map ks (R5 kv vl es))):=Ext.turn hob rfl rfl a1 (by rw[hsz];rfl);refine⟨undef,M.turn oM X (.map ks (R5 kv vl es)),.inr ⟨hrun,rfl⟩,?_,by simp[MS.turn,hr.ob],he,.tup _ _ rfl (λj d v h=>by simp at h)⟩;refine hr.m.turn hob rfl rfl a1 (by rw[hsz];rfl) (hrel _ he ?_);simp only[MS.turn];rw[Array.getElem?_setIfInBounds_self_of_lt (hr.m.lt oM _ hob rfl)]
      have shape':∀ x∈R5 kv vl es,h9 ks x.1=true:=by
       cases hmi:X9 kv es with
       | none => rw [dO hmi]; intro x hx; rcases List.mem_append.1 hx with hx | hx
                 ·exact a3 x hx
                 ·simp at hx;subst hx;exact hsk
       | some p => rw [dN hmi]; intro x hx
                   rcases List.mem_or_eq_of_mem_set hx with hx|rfl
                   ·exact a3 x hx
                   ·exact hsk
      cases hf:R7 kv es ents.toList 0 with
      | none =>
        have h5:=(bn a6 hf).2;refine fin (.map (ents.push { key:=F5 kv,val:=xv,born:=clock }) (clock+1)) _ ?_ rfl rfl λM' he hh=>?_
        ·rcases ho with ho|ho <;>
         ·simp only[execOp,ho,Instr.mapUpdate,hv,hx,hkv,Sem.run_bind,e8 (G8 ht),Result.andThen_ok,w8 a1,Sem.run_pure,hck,hfind,hf,au a1]
        ·refine⟨_,_,hh,.plain hpl (a2.push _ _),by rw[hpb];exact shape',by simp[dO h5,a4],λi x e hi hj=>?_⟩;rw[dO h5] at hi;rcases j6 hi with⟨hlt,hi⟩|⟨rfl,rfl⟩
         ·rw[Array.getElem?_push,if_neg (by omega)] at hj;obtain⟨b1,b2,b3⟩:=a5 i x e hi hj;exact⟨b1,b2,b3.ext he⟩
         ·rw[<- a4] at hj;simp at hj;subst hj;exact⟨rfl,hplain,hvv.ext he⟩
      | some p =>
        obtain⟨j,u⟩:=p;obtain⟨p,x,e,rfl,h5,h6,rfl,h7,h8⟩:=bl a6 hf;have h6':ents[p]?=some e:=by simpa using h6
        have hey:e.key=F5 x.1:=(a5 p x e h5 h6').1;have hsx:Instr.keyThatStays (F5 x.1) (F5 kv)=pure (F5 kv)\/True:=.inr trivial;have hstay:∀ w,(Instr.keyThatStays e.key (F5 kv)).run P w=.ok (F5 kv) w:=by
         intro w;have heq:v6 kv x.1=true:=by
          have:∀ (es:List (List Value×List DC)) (p:Nat) (x:List Value×List DC),X9 kv es=some p->es[p]?=some x->v6 kv x.1=true:=by
           intro es;induction es with
           | nil=>intro p x h;simp[X9] at h
           | cons y r ih =>
             intro p x h hx;simp only[X9] at h;split at h
             ·rename_i hb;cases h;simp at hx;subst hx;exact hb
             ·simp only[Option.map_eq_some_iff] at h;obtain⟨q,hq,rfl⟩:=h;exact ih q x hq (by simpa using hx)
          exact this es p x h8 h5
         have hkk:x.1=kv:=by
          have:∀ (ks:List CK) (l r:List Value),h9 ks l=true->h9 ks r=true->v6 l r=true->r=l:=by
           intro ks;induction ks with
           | nil=>intro l r hl hr _;cases l<;>cases r<;>simp[h9] at hl hr ⊢
           | cons c ks ih =>
             intro l r hl hr hb;cases l with
             | nil=>cases c<;>simp[h9] at hl
             | cons v l=>cases r with
               | nil=>cases c<;>simp[h9] at hr
               | cons u r =>
                 cases c<;>cases v<;>simp[h9] at hl<;>cases u<;>simp[h9] at hr<;>simp[v6] at hb
                 ·rw[ih l r hl.2 hr.2 hb.2,hb.1,hl.1,hr.1]
                 ·rw[ih l r hl hr hb.2,hb.1]
          exact this ks kv x.1 hsk (a3 x (List.mem_of_getElem? h5)) heq
         rw[hey,hkk];simp[Instr.keyThatStays,lG hsk]
        refine fin (.map (ents.modify p λe=>{ e with key:=F5 kv,val:=xv }) clock) _ ?_ rfl rfl λM' he hh=>?_
        ·rcases ho with ho|ho <;>
         ·simp only[execOp,ho,Instr.mapUpdate,hv,hx,hkv,Sem.run_bind,e8 (G8 ht),Result.andThen_ok,w8 a1,Sem.run_pure,hck,hfind,hf,Nat.zero_add,h6',Option.map_some,Option.getD_some,hstay,au a1]
        ·refine⟨_,_,hh,.plain hpl (a2.modify p _ (λ_=>rfl)),by rw[hpb];exact shape',by simp[dN h8,a4],λi x' e' hi hj=>?_⟩;rw[dN h8] at hi;rw[Array.getElem?_modify] at hj;rcases u4 hi with⟨rfl,rfl,_⟩|⟨hne,hi⟩
         ·rw[if_pos rfl,h6'] at hj;simp at hj;subst hj;exact⟨rfl,hplain,hvv.ext he⟩
         ·rw[if_neg (Ne.symm hne)] at hj;obtain⟨b1,b2,b3⟩:=a5 i x' e' hi hj;exact⟨b1,b2,b3.ext he⟩
   ·cases h
  ·cases h
 ·cases h
def gz (P:Program) (G:Hn) (S:DS) (t:TypeId) (r:Option Operand):Option (DV×List DObj):=
 match cD P t with
 | some (kt,_)=>match A9 P kt,r with
   | some ks,none=>some (.one (.map S.objs.length),S.objs++[.map ks []])
   | some ks,some x=>match C9 (j5 G S x) with
     | some (.int _ _)=>some (.one (.map S.objs.length),S.objs++[.map ks []])
     | _=>none
   | _,_=>none
 | none=>none
theorem oU {M:MS} (hm:RelM G M) (ks:List CK) (hpl:plainK ks):RelM G (M.push (.map #[] 0) (.map ks [])):=by
 refine hm.push rfl ⟨#[],0,?_,.plain hpl ⟨λi e h=>by simp at h,λi j e e' h=>by simp at h⟩,λx hx=>by simp at hx,rfl,λi x e h=>by simp at h⟩;simp only[MS.push,if_true];exact P1
theorem pR {o:Oper} {t:TypeId} {r:Option Operand} {d:DV} {objs':List DObj} (ho:o.op=.makeMap t r) (h:gz P G S t r=some (d,objs')):OpV P G o S d objs':=by
 unfold gz at h;split at h
 ·rename_i kt et ht
  have fin:∀ (ks:List CK),A9 P kt=some ks->∀ (a:Act) (M:MS),Rel G S a M->(execOp a.eval o).run P M.w=.ok (.value (.map (some M.w.heap.size))) (M.w.alloc (.map #[] 0)) ->
   ∃ v M',((execOp a.eval o).run P M.w=.ok (.value v) M'.w\/((execOp a.eval o).run P M.w=.ok .skip M'.w/\v=undef))/\RelM G M'/\M'.objs=S.objs++[.map ks []]/\Ext M.objs.length M M'/\RepV M' (.one (.map S.objs.length)) v:=by
   intro ks hks a M hr hrun;refine⟨_,M.push (.map #[] 0) (.map ks []),.inl hrun,oU hr.m ks (Z6 hks),by simp[MS.push,hr.ob],Ext.push _ _ hr.m.lt,.one _ _ (.map _ _ rfl (by simp[MS.push,hr.ob]) λks' es hes=>?_)⟩;simp[MS.push,hr.ob]
  split at h
  ·cases h;intro a M hr;refine fin _ (by assumption) a M hr ?_;simp only[execOp,ho,Instr.makeMap,Option.map_none,Sem.run_bind,Sem.run_pure,Result.andThen_ok,run_newObj_alloc]
  ·split at h
   ·rename_i hx;cases h;intro a M hr;have hxe:=p8 hr hx;refine fin _ (by assumption) a M hr ?_;simp only[execOp,ho,Instr.makeMap,Option.map_some,Sem.run_bind,Sem.run_pure,Result.andThen_ok,run_newObj_alloc,e8 (G8 ht),hxe,asInt];simp[asIntOf]
   ·cases h
  ·cases h
 ·cases h
def ba (k:List Value) (es:List (List Value×List DC)):List CK->List CK
 | .st l c b :: r=>.st (match X9 k es with|some p=>l.eraseIdx p|none=>l) c b :: r
 | ks=>ks
theorem wh (k:List Value) (es:List (List Value×List DC)) (l:List Nat) (c b:Nat) (r:List CK):ba k es (.st l c b :: r)=.st (match X9 k es with|some p=>l.eraseIdx p|none=>l) c b :: r:=rfl
theorem tD (k:List Value) (es:List (List Value×List DC)) (q:IntKind) (r:List CK):ba k es (.int q :: r)=.int q :: r:=rfl
theorem qr (k:List Value) (es:List (List Value×List DC)) (r:List CK):ba k es (.bool :: r)=.bool :: r:=rfl
theorem mQ (l:List Nat) (c b:Nat) (r:List CK):L5 (.st l c b :: r)=L5 r:=rfl
theorem rL (q:IntKind) (r:List CK):L5 (.int q :: r)=.int q :: r:=rfl
theorem pF (r:List CK):L5 (.bool :: r)=.bool :: r:=rfl
attribute [simp] wh tD qr mQ rL pF
theorem Y2 (k:List Value) (es:List (List Value×List DC)) (ks:List CK):L5 (ba k es ks)=L5 ks:=by
 unfold ba;split
 ·rfl
 ·rfl
theorem StampsK.none {ks:List CK} {ents:Array MapEntry} {clock b:Nat} (h:StampsK ks ents clock b) {k:List Value} {es:List (List Value×List DC)} (hm:X9 k es=none):StampsK (ba k es ks) ents clock b:=by
 unfold ba;split
 ·rw[hm];exact h
 ·exact h
theorem Stamps.erase {ents:Array MapEntry} {clock:Nat} (h:Stamps ents clock) (p:Nat):Stamps (ents.eraseIdxIfInBounds p) clock:=by
 have get:∀ (i:Nat),(ents.eraseIdxIfInBounds p)[i]?=if i<p then ents[i]? else if p<ents.size then ents[i+1]? else ents[i]?:=λi=>by
  unfold Array.eraseIdxIfInBounds;split
  ·rename_i hlt;rw[Array.getElem?_eraseIdx]
  ·rename_i hge;split<;>rfl
 refine⟨λi e hi=>?_,λi j e e' hi hj he=>?_⟩
 ·rw[get] at hi;split at hi
  ·exact h.1 i e hi
  ·split at hi
   ·exact h.1 _ e hi
   ·exact h.1 _ e hi
 ·rw[get] at hi hj;split at hi<;>split at hj
  ·exact h.2 i j e e' hi hj he
  ·split at hj
   ·have:=h.2 i _ e e' hi hj he;omega
   ·exact h.2 i _ e e' hi hj he
  ·split at hi
   ·have:=h.2 _ j e e' hi hj he;omega
   ·exact h.2 _ j e e' hi hj he
  ·split at hi
   ·rename_i hlt;rw[if_pos hlt] at hj;have:=h.2 _ _ e e' hi hj he;omega
   ·rename_i hlt;rw[if_neg hlt] at hj;exact h.2 _ _ e e' hi hj he
theorem StampsK.erase {ks:List CK} {ents:Array MapEntry} {clock b:Nat} (h:StampsK ks ents clock b) {k:List Value} {es:List (List Value×List DC)} {p:Nat} (hm:X9 k es=some p) (hlt:p<ents.size):StampsK (ba k es ks) (ents.eraseIdxIfInBounds p) clock b:=by
 obtain⟨h1,h2⟩:=h;match ks,h2 with
 | [],_=>exact⟨h1.erase p,trivial⟩
 | .int _ :: _,_=>exact⟨h1.erase p,trivial⟩
 | .bool :: _,_=>exact⟨h1.erase p,trivial⟩
 | .st l c b' :: r,h2 =>
   obtain⟨h3,h4,h5⟩:=h2;refine⟨h1.erase p,?_,h4,h5⟩;simp only[hm];rw[<- h3];simp only[Array.eraseIdxIfInBounds,hlt,dite_true,Array.toList_eraseIdx];refine List.ext_getElem? λi=>?_;simp only[List.getElem?_map,List.getElem?_eraseIdx];split<;>rfl
def jL (P:Program) (G:Hn) (S:DS) (t:TypeId) (m k:Operand):Option (DV×List DObj):=
 match j5 G S m,j5 G S k,cD P t with
 | some (.one (.map o)),some kd,some (kt,_)=>match S.objs[o]?,fb kd,A9 P kt with
   | some (.map ks es),some kv,some ks' =>
     if L5 ks=ks'/\h9 ks' kv=true then some (.tup [],S.objs.set o (.map (ba kv es ks) (iw kv es))) else none
   | _,_,_=>none
 | _,_,_=>none
theorem sg {o:Oper} {t:TypeId} {u:TypeId} {m k:Operand} {d:DV} {objs':List DObj} (ho:o.op=.call { callee:=.builtin .delete,args:=#[m,k],argTypes:=#[t,u] }) (h:jL P G S t m k=some (d,objs')):OpV P G o S d objs':=by
 unfold jL at h;split at h
 ·rename_i oM kd kt et hm hk ht;split at h
  ·rename_i ks es kv ks' h1 h2 h3;split at h
   ·rename_i hc;obtain⟨rfl,hsk⟩:=hc;cases h;intro a M hr;have hp:=i9 hr hm;have hkv:=Y0 hr hk h2;have hob:M.objs[oM]?=some (.map ks es):=by rw[hr.ob];exact h1
    generalize hv:a.eval m=mv at hp;cases hp with
    | one _ _ hp =>
      obtain⟨rfl,ents,clock,a1,a2,a3,a4,a5,a6⟩:=gc hr.m hp hob;have hSK:StampsK ks ents clock (M.β oM):=by
       obtain⟨ents',clock',q1,q2,_⟩:=hr.m.objs oM _ hob;rw[a1] at q1;cases q1;exact q2
      have hfind:=fO (P:=P) (w:=M.w) h3 hsk a6 a3;have hck:=λem=>U0 (P:=P) (w:=M.w) h3 hsk em
      have fin:∀ (ents':Array MapEntry),(execOp a.eval o).run P M.w=.ok (.value (.tuple #[])) { M.w with heap:=M.w.heap.setIfInBounds (M.β oM) (.map ents' clock) } ->
       (∀ M',Ext M.objs.length M M'->M'.β oM=M.β oM->M'.w.heap[M'.β oM]?=some (.map ents' clock)->RelO M' oM (.map (ba kv es ks) (iw kv es))) ->
       ∃ v M',((execOp a.eval o).run P M.w=.ok (.value v) M'.w\/((execOp a.eval o).run P M.w=.ok .skip M'.w/\v=undef))/\RelM G M'/\M'.objs=S.objs.set oM (.map (ba kv es ks) (iw kv es))/\Ext M.objs.length M M'/\RepV M' (.tup []) v:=by
       rintro ents' hrun hrel;have he:Ext M.objs.length M (M.turn oM (.map ents' clock) (.map (ba kv es ks) (iw kv es))):=Ext.turn hob rfl (Y2 kv es ks).symm a1 rfl;refine⟨_,M.turn oM (.map ents' clock) (.map (ba kv es ks) (iw kv es)),.inl hrun,?_,by simp[MS.turn,hr.ob],he,.tup _ _ rfl (λj d v h=>by simp at h)⟩;refine hr.m.turn hob rfl (Y2 kv es ks).symm a1 rfl (hrel _ he rfl ?_);simp only[MS.turn];rw[Array.getElem?_setIfInBounds_self_of_lt (hr.m.lt oM _ hob rfl)]
      cases hf:R7 kv es ents.toList 0 with
      | none =>
        have h5:=(bn a6 hf).2;refine fin ents ?_ λM' he hβ hh=>?_
        ·simp only[execOp,ho,resolve,invoke,builtin,Builtin.delete_,List.map_toArray,List.map_cons,List.map_nil,hv,hkv,Sem.run_bind,Sem.run_pure,Result.andThen_ok];simp[e8 (G8 ht),w8 a1,hck,hfind,hf,au a1]
        ·rw[mt h5];exact⟨_,_,hh,by rw[hβ];exact hSK.none h5,by rw[Y2];exact a3,a4,λi x e hi hj=>by
          obtain⟨b1,b2,b3⟩:=a5 i x e hi hj;exact⟨b1,b2,b3.ext he⟩⟩
      | some p =>
        obtain⟨j,u⟩:=p;obtain⟨p,x,e,rfl,h5,h6,rfl,h7,h8⟩:=bl a6 hf;have hlt:p<ents.size:=by rw[a4];exact e7 h5
        refine fin (ents.eraseIdxIfInBounds p) ?_ λM' he hβ hh=>?_
        ·simp only[execOp,ho,resolve,invoke,builtin,Builtin.delete_,List.map_toArray,List.map_cons,List.map_nil,hv,hkv,Sem.run_bind,Sem.run_pure,Result.andThen_ok];simp[e8 (G8 ht),w8 a1,hck,hfind,hf,au a1]
        ·rw[ms h8];have hes:ents.eraseIdxIfInBounds p=ents.eraseIdx p:=by simp[Array.eraseIdxIfInBounds,hlt]
         refine⟨_,_,hh,by rw[hβ];exact hSK.erase h8 hlt,λx hx=>by rw[Y2];exact a3 x (List.mem_of_mem_eraseIdx hx),?_,λi x' e' hi hj=>?_⟩
         ·rw[hes,Array.size_eraseIdx,a4,List.length_eraseIdx,if_pos (by rw[<- a4];exact hlt)]
         ·rw[hes,Array.getElem?_eraseIdx] at hj;rw[List.getElem?_eraseIdx] at hi;split at hi
          ·rename_i hip;rw[if_pos hip] at hj;obtain⟨b1,b2,b3⟩:=a5 i x' e' hi hj;exact⟨b1,b2,b3.ext he⟩
          ·rename_i hip;rw[if_neg hip] at hj;obtain⟨b1,b2,b3⟩:=a5 _ x' e' hi hj;exact⟨b1,b2,b3.ext he⟩
   ·cases h
  ·cases h
 ·cases h
def jJ (objs:List DObj) (c:DC):Option Nat:=match c with
 | .map o=>match objs[o]? with
   | some (.map _ es)=>some es.length
   | _=>none
 | _=>none
theorem rZ {o:Oper} {t k e:TypeId} {x:Operand} {c:DC} {n:Nat} (ho:o.op=.call { callee:=.builtin .len,args:=#[x],argTypes:=#[t] }) (ht:cD P t=some (k,e)) (hx:j5 G S x=some (.one c)) (hn:jJ S.objs c=some n):OpV P G o S (.one (.im (.raw (.int .i64 (n:Int))))) S.objs:=by
 unfold jJ at hn;split at hn
 ·rename_i oM;split at hn
  ·rename_i ks es h1;cases hn;refine OpV.pure λa M hr=>?_;have hp:=i9 hr hx;generalize hv:a.eval x=mv at hp;cases hp with
   | one _ _ hp =>
     obtain⟨rfl,ents,clock,a1,a2,a3,a4,a5,a6⟩:=gc hr.m hp (by rw[hr.ob];exact h1);refine⟨.int .i64 (es.length:Int),?_,.one _ _ (.im _ _ (.raw _ rfl))⟩;simp only[execOp,ho,resolve,invoke,builtin,Builtin.len_,List.map_toArray,List.map_cons,List.map_nil,hv,Sem.run_bind,Sem.run_pure,Result.andThen_ok];simp[e8 (G8 ht),w8 a1,a4,goInt]
  ·cases hn
 ·cases hn
def eqArrOk (P:Program) (t:TypeId):Option (List CK):=match tarr' P t with
 | some _=>if P.eqGuardType P.depth t=false then A9 P t else none
 | none=>none
where tarr' (P:Program) (t:TypeId):Option (Nat×TypeId):=match P.underlying t with
 | some (.array n e)=>some (n,e)
 | _=>none
theorem vz {o:Oper} {op:BinOp} {t u:TypeId} {x y:Operand} {lx ly:List DC} {vx vy:List Value} {ks:List CK} (ho:o.op=.binOp op t x y u) (hop:op=.eql\/op=.neq) (ht:eqArrOk P t=some ks)
 (hx:j5 G S x=some (.agg lx)) (hy:j5 G S y=some (.agg ly)) (rx:cR lx=some vx) (ry:cR ly=some vy) (sx:h9 ks vx=true) (sy:h9 ks vy=true) :
 OpV P G o S (.one (.im (.raw (.bool (if op=.eql then v6 vx vy else !v6 vx vy))))) S.objs:=by
 refine .pure λa M hr=>⟨_,?_,.mkraw rfl⟩
 have e1:=i9 hr hx;have e2:=i9 hr hy;generalize hvx:a.eval x=v at e1;generalize hvy:a.eval y=v' at e2;cases e1 with
 | agg _ cx h1 h2 =>
   cases e2 with
   | agg _ cy h3 h4 =>
     have f1:=K4 lx vx cx.toList rx (by simpa using h1) (λj c v hc hv=>h2 j c v hc (by simpa using hv));have f2:=K4 ly vy cy.toList ry (by simpa using h3) (λj c v hc hv=>h4 j c v hc (by simpa using hv));have hgt:P.eqGuardType P.depth t=false/\A9 P t=some ks/\∃ n e,P.underlying t=some (.array n e):=by
      unfold eqArrOk at ht;split at ht
      ·rename_i ne hta;split at ht
       ·rename_i hg;refine⟨hg,ht,?_⟩;unfold eqArrOk.tarr' at hta;split at hta
        ·rename_i n e hu;exact⟨n,e,hu⟩
        ·cases hta
       ·cases ht
      ·cases ht
     obtain⟨hg,hks,n,e,hu⟩:=hgt;have heq:(Op.equal t (.agg cx) (.agg cy)).run P M.w=.ok (v6 vx vy) M.w:=by
      unfold A9 at hks;rw[hu] at hks;simp only at hks;split at hks
      ·rename_i k he;split at hks
       ·rename_i hc;cases hks;have:=ci (P:=P) (w:=M.w) hu he hc.1 (xs:=cx) (ys:=cy) (by rw[f1];exact sx) (by rw[f2];exact sy);rw[f1,f2] at this;exact this
       ·cases hks
      ·cases hks
     have hguard:(eqGuard op t x y (.agg cx) (.agg cy)).run P M.w=.ok () M.w:=by
      rcases hop with rfl|rfl<;>simp[eqGuard,hg]
     simp only[execOp,ho,hvx,hvy,Sem.run_bind,hguard,Result.andThen_ok];rcases hop with rfl|rfl
     ·have h5:binOp .eql t (.agg cx) (.agg cy)=(do pure (.bool (<- Op.equal t (.agg cx) (.agg cy)))):=rfl;simp only[h5,Sem.run_bind,heq,Result.andThen_ok];rfl
     ·have h5:binOp .neq t (.agg cx) (.agg cy)=(do pure (.bool (!(<- Op.equal t (.agg cx) (.agg cy))))):=rfl;simp only[h5,Sem.run_bind,heq,Result.andThen_ok];rfl
end
end Go.Ab
