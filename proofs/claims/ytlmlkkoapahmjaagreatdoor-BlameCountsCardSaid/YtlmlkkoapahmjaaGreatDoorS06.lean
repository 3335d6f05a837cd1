/- Part 6 of the proofs. -/
import Derived.Test.YtlmlkkoapahmjaaGreatDoorS05
set_option linter.all false
set_option maxHeartbeats 100000000
namespace Go.Ab
open Go
def ar (P:Program) (t:TypeId):Option TypeId:=match P.underlying t with
 | some (.slice e)=>some e
 | _=>none
def zB (P:Program) (t:TypeId):Option (Nat×TypeId):=match P.underlying t with
 | some (.array n e)=>some (n,e)
 | _=>none
def wc (P:Program) (t:TypeId):Option IntKind:=match P.underlying t with
 | some (.int k)=>some k
 | _=>none
def sD (P:Program) (t:TypeId):Bool:=match P.underlying t with
 | some .bool=>true
 | _=>false
theorem G1 {P:Program} {t e:TypeId} (h:ar P t=some e):P.underlying t=some (.slice e):=by
 unfold ar at h;split at h
 ·rename_i hu;cases h;exact hu
 ·cases h
theorem tw {P:Program} {t e:TypeId} {n:Nat} (h:zB P t=some (n,e)):P.underlying t=some (.array n e):=by
 unfold zB at h;split at h
 ·rename_i hu;cases h;exact hu
 ·cases h
theorem ma {P:Program} {t:TypeId} {k:IntKind} (h:wc P t=some k):P.underlying t=some (.int k):=by
 unfold wc at h;split at h
 ·rename_i hu;cases h;exact hu
 ·cases h
theorem qm {P:Program} {t:TypeId} (h:sD P t=true):P.underlying t=some .bool:=by
 unfold sD at h;split at h
 ·assumption
 ·cases h
def ic (v:Value):DV:=.one (.im (.raw v))
def ql (P:Program) (t:TypeId) (f:Nat):Option (Nat×Nat×Bool):=
 match P.underlying t with
 | some (.struct fs)=>match fs[f]? with
   | some x=>match aW P x.type,mb P x.type with
     | some s,some g=>some (x.offset,s,g)
     | _,_=>none
   | none=>none
 | _=>none
def gG (P:Program) (G:Hn) (S:DS) (b:Builtin) (args:List Operand) (ts:List TypeId):Option (DV×List DObj):=
 match b,args,ts with
 | .len,[x],[t]=>match j5 G S x,ar P t with
   | some (.one c),some _=>(yb S.objs c).map λ(n:Nat)=>(ic (.int .i64 (n:Int)),S.objs)
   | some (.one c),none=>match cD P t with
     | some _=>match c with
       | .im c=>(gD (.im c)).map λ(n:Nat)=>(ic (.int .i64 (n:Int)),S.objs)
       | c=>(jJ S.objs c).map λ(n:Nat)=>(ic (.int .i64 (n:Int)),S.objs)
     | none=>none
   | _,_=>none
 | .delete,[m,k],[t,_]=>jL P G S t m k
 | .clear,[x],[t]=>nQ P G S t x
 | .max,[x,y],_=>match C9 (j5 G S x),C9 (j5 G S y) with
   | some (.int k a),some (.int k' b)=>if k=k' then some (ic (.int k (max a b)),S.objs) else none
   | _,_=>none
 | .min,[x,y],_=>match C9 (j5 G S x),C9 (j5 G S y) with
   | some (.int k a),some (.int k' b)=>if k=k' then some (ic (.int k (min a b)),S.objs) else none
   | _,_=>none
 | _,_,_=>none
def AV (P:Program) (G:Hn) (S:DS) (op:BinOp) (t:TypeId) (x y:Operand):Option (DV×List DObj):=
 if op=.eql\/op=.neq then match y with
  | .const (.slice none 0 0)=>match j5 G S x,ar P t with
    | some (.one c),some _=>(AU S.objs c).map λb=>(ic (.bool (if op=.eql then b else !b)),S.objs)
    | _,_=>none
  | y=>match j5 G S x,j5 G S y,u6 P t with
    | some (.agg lx),some (.agg ly),some ks=>match cR lx,cR ly with
      | some vx,some vy=>if h9 ks vx=true/\h9 ks vy=true then some (ic (.bool (if op=.eql then v6 vx vy else !v6 vx vy)),S.objs) else none
      | _,_=>none
    | some (.agg lx),some (.agg ly),none=>match cR lx,cR ly,dh P t with
      | some vx,some vy,some ks=>if h9 ks vx=true/\h9 ks vy=true then some (ic (.bool (if op=.eql then v6 vx vy else !v6 vx vy)),S.objs) else none
      | _,_,_=>none
    | _,_,_=>none
 else none
theorem rG {P:Program} {G:Hn} {S:DS} {o:Oper} {op:BinOp} {t u:TypeId} {x y:Operand} {d:DV} {objs':List DObj} (ho:o.op=.binOp op t x y u) (h:AV P G S op t x y=some (d,objs')):OpV P G o S d objs':=by
 unfold AV at h;split at h
 ·rename_i hop;split at h
  ·split at h
   ·rename_i h1 h2;simp only[Option.map_eq_some_iff,Prod.mk.injEq] at h;obtain⟨b,h3,rfl,rfl⟩:=h;exact vw ho hop (G1 h2) h1 h3
   ·cases h
  ·split at h
   ·rename_i h1 h2 h3;split at h
    ·rename_i h4 h5;split at h
     ·rename_i hs;cases h;exact oa ho hop h3 h1 h2 h4 h5 hs.1 hs.2
     ·cases h
    ·cases h
   ·rename_i h1 h2 h3;split at h
    ·rename_i h4 h5 h6;split at h
     ·rename_i hs;cases h;exact sd ho hop h6 h1 h2 h4 h5 hs.1 hs.2
     ·cases h
    ·cases h
   ·cases h
 ·cases h
def Z9 (P:Program) (G:Hn) (S:DS) (op:Op) (ty:TypeId):Option (DV×List DObj):=
 match op with
 | .move x=>(j5 G S x).map (·,S.objs)
 | .assign x=>match x with
   | .const (.slice none 0 0)=>match ar P ty with
     | some e=>match aW P e with
       | some sz=>some (.one (.vec S.objs.length 0 0 0),S.objs++[.vec sz [] 0 true])
       | none=>none
     | none=>none
   | x=>(j5 G S x).map (·,S.objs)
 | .pick c a b=>match C9 (j5 G S c) with
   | some (.bool t)=>(if t then j5 G S a else j5 G S b).map (·,S.objs)
   | _=>none
 | .binOp op t x y _=>match C9 (j5 G S x),C9 (j5 G S y) with
   | some (.bool b),some (.bool c)=>if sD P t=true/\(op=.eql\/op=.neq) then some (ic (.bool (if op=.eql then b==c else b != c)),S.objs) else none
   | some v,some u=>(uQ op v u).map (ic ·,S.objs)
   | _,_=>AV P G S op t x y
 | .makeFunc fn first cs=>if first.toList=[] then match X1 G S cs.toList with
  | some ds=>(ua ds).map λcaps=>(.one (.fn fn caps),S.objs)
  | none=>none
   else if cs.toList=[] then match X1 G S first.toList with
    | some ds=>(mD ds).map λl=>(.one (.im (.bf fn l)),S.objs)
    | none=>none
   else none
 | .unOp op _ x=>match C9 (j5 G S x) with
   | some v=>(pz op v).map (ic ·,S.objs)
   | none=>none
 | .convert s t x=>match C9 (j5 G S x),wc P t,wc P s with
   | some (.int _ n),some k',some _=>some (ic (.int k' (k'.wrap n)),S.objs)
   | _,_,_=>none
 | .load t x=>match j5 G S x,aW P t,mb P t with
   | some (.one p),some sz,some ag=>match kW S.objs p sz with
     | some l=>(eg ag l).map (·,S.objs)
     | none=>none
   | _,_,_=>none
 | .store t x y=>match j5 G S x,j5 G S y,aW P t with
   | some (.one p),some d,some sz=>match d.cells with
     | some l=>if l.length=sz then (kV S.objs p l).map (.tup [],·) else none
     | none=>none
   | _,_,_=>none
 | .fieldAddr t x f=>match j5 G S x,zA P t f with
   | some (.one p),some off=>if bR p S.objs=true then (rK p off).map (.one ·,S.objs) else none
   | _,_=>none
 | .indexAddr t x y=>match j5 G S x,C9 (j5 G S y) with
   | some (.one p),some (.int _ i)=>match ar P t with
     | some e=>match aW P e with
       | some sz=>(nN S.objs p i sz).map (.one ·,S.objs)
       | none=>none
     | none=>match zB P t with
       | some (n,e)=>match aW P e with
         | some sz=>if 0<=i/\i<n/\bR p S.objs=true then (rK p (i.toNat*sz)).map (.one ·,S.objs) else none
         | none=>none
       | none=>none
   | _,_=>none
 | .field t x f=>match j5 G S x,ql P t f with
   | some (.agg l),some (off,sz,g)=>if off+sz<=l.length then (eg g ((l.drop off).take sz)).map (·,S.objs) else none
   | _,_=>none
 | .extract x i=>match j5 G S x with
   | some (.tup l)=>(l[i]?).map (·,S.objs)
   | _=>none
 | .nilCheck x=>match j5 G S x with
   | some (.one (.im (.fn (.func f) caps)))=>some (.one (.im (.fn (.func f) caps)),S.objs)
   | some (.one (.fn (.func f) caps))=>some (.one (.fn (.func f) caps),S.objs)
   | some (.one c)=>if bR c S.objs=true then some (.one c,S.objs) else none
   | _=>none
 | .box _ x=>match j5 G S x with
   | some d=>d.cells.map λl=>(.one (.ptr S.objs.length 0),S.objs++[.row l])
   | none=>none
 | .alloc t=>match E5 P t with
   | some l=>if l.all v7=true then some (.one (.ptr (S.objs.length+(zcells l S.objs.length).2.length) 0),S.objs++(zcells l S.objs.length).2++[.row (zcells l S.objs.length).1]) else none
   | none=>none
 | .build t ps=>match E5 P t,l7 P t,L9 G S ps.toList with
   | some z,some pl,some qs=>if z.all v7=true then (ab (pl[·]?) (z.map an) qs).map (.agg ·,S.objs) else none
   | _,_,_=>none
 | .buildSlice t n ps=>match ar P t with
   | some e=>match aW P e,E5 P e,L9 G S ps.toList with
     | some sz,some z,some qs=>if 0<sz/\z.length=sz/\z.all v7=true/\n*sz<=16777216 then
      (ab (λi=>some (i*sz,sz)) (List.replicate (n*sz) .dead) qs).map λr=>(.one (.vec S.objs.length 0 0 n),S.objs++[.vec sz (dw sz r n) 0 false])
       else none
     | _,_,_=>none
   | none=>none
 | .slice t x lo hi none=>match j5 G S x,ar P t,qG G S lo,qG G S hi with
   | some (.one c),some e,some il,some ih=>match aW P e with
     | some sz=>(D7 S.objs c (il.getD 0) ih sz).map (.one ·,S.objs)
     | none=>none
   | _,_,_,_=>none
 | .call c=>match c.callee with
   | .builtin b=>gG P G S b c.args.toList c.argTypes.toList
   | _=>none
 | .makeMap t r=>gz P G S t r
 | .lookup t m k ok=>match j5 G S m with
   | some (.one (.im _))=>gC P G S t m k ok
   | _=>jI P G S t m k ok
 | .range t x=>nM P G S t x
 | .entry it=>nP G S it
 | .index t x i=>jK P G S t x i
 | .mapUpdate t m k v=>aa P G S t m k v
 | .insert t m k v=>aa P G S t m k v
 | _=>none
theorem lc {P:Program} {G:Hn} {S:DS} {o:Oper} {c:Call} {b:Builtin} {d:DV} {objs':List DObj} (ho:o.op=.call c) (hb:c.callee=.builtin b)
 (h:gG P G S b c.args.toList c.argTypes.toList=some (d,objs')):OpV P G o S d objs':=by
 obtain⟨cal,args,ts⟩:=c;simp only at hb h;subst hb;unfold gG at h;split at h
 ·rename_i x t hx ht;have e1:args=#[x]:=Array.toList_inj.1 hx;have e2:ts=#[t]:=Array.toList_inj.1 ht;subst e1;subst e2;split at h
  ·rename_i h1 h2;simp only[Option.map_eq_some_iff,Prod.mk.injEq] at h;obtain⟨w,h5,rfl,rfl⟩:=h;exact Bs ho (G1 h2) h1 h5
  ·rename_i h1 h2;split at h
   ·rename_i ke hke;split at h
    ·simp only[Option.map_eq_some_iff,Prod.mk.injEq] at h;obtain⟨w,h5,rfl,rfl⟩:=h;exact pT (k:=ke.1) (e:=ke.2) ho hke h1 h5
    ·simp only[Option.map_eq_some_iff,Prod.mk.injEq] at h;obtain⟨w,h5,rfl,rfl⟩:=h;exact rZ (k:=ke.1) (e:=ke.2) ho hke h1 h5
   ·cases h
  ·cases h
 ·rename_i m k t u hx ht;have e1:args=#[m,k]:=Array.toList_inj.1 hx;have e2:ts=#[t,u]:=Array.toList_inj.1 ht;subst e1;subst e2;exact sg ho h
 ·rename_i x t hx ht;have e1:args=#[x]:=Array.toList_inj.1 hx;have e2:ts=#[t]:=Array.toList_inj.1 ht;subst e1;subst e2;exact vB ho h
 ·rename_i _ _ x y hx;have e1:args=#[x,y]:=Array.toList_inj.1 hx;subst e1;split at h
  ·rename_i h1 h2;split at h
   ·rename_i hk;subst hk;cases h;exact Br ho h1 h2
   ·cases h
  ·cases h
 ·rename_i _ _ x y hx;have e1:args=#[x,y]:=Array.toList_inj.1 hx;subst e1;split at h
  ·rename_i h1 h2;split at h
   ·rename_i hk;subst hk;cases h;exact Bq ho h1 h2
   ·cases h
  ·cases h
 ·cases h
theorem P0 {P:Program} {G:Hn} {S:DS} {o:Oper} {d:DV} {objs':List DObj} (h:Z9 P G S o.op o.type=some (d,objs')):OpV P G o S d objs':=by
 obtain⟨dst,op,ty,pos,aft,grd⟩:=o;simp only at h;unfold Z9 at h;split at h
 ·simp only[Option.map_eq_some_iff,Prod.mk.injEq] at h;obtain⟨d',h1,rfl,rfl⟩:=h;exact pQ (.inl rfl) h1
 ·split at h
  ·split at h
   ·split at h
    ·cases h;exact Bp _ rfl
    ·cases h
   ·cases h
  ·simp only[Option.map_eq_some_iff,Prod.mk.injEq] at h;obtain⟨d',h1,rfl,rfl⟩:=h;exact pQ (.inr rfl) h1
 ·split at h
  ·rename_i t ht;simp only[Option.map_eq_some_iff,Prod.mk.injEq] at h;obtain⟨d',h1,rfl,rfl⟩:=h;exact yO rfl ht h1
  ·cases h
 ·split at h
  ·rename_i b c hb hc;split at h
   ·rename_i hcond;cases h;exact se rfl (qm hcond.1) hcond.2 hb hc
   ·cases h
  ·rename_i v u _ hv hu;simp only[Option.map_eq_some_iff,Prod.mk.injEq] at h;obtain⟨w,h1,rfl,rfl⟩:=h;exact Bu rfl hv hu h1
  ·exact rG rfl h
 ·split at h
  ·rename_i hf;split at h
   ·rename_i ds hds;simp only[Option.map_eq_some_iff,Prod.mk.injEq] at h;obtain⟨caps,h1,rfl,rfl⟩:=h;have hfe:=Array.toList_inj.1 (hf.trans (List.toList_toArray (as:=[])).symm);subst hfe;exact nY rfl hds h1
   ·cases h
  ·split at h
   ·rename_i hcs;split at h
    ·rename_i ds hds;simp only[Option.map_eq_some_iff,Prod.mk.injEq] at h;obtain⟨l,h1,rfl,rfl⟩:=h;have hce:=Array.toList_inj.1 (hcs.trans (List.toList_toArray (as:=[])).symm);subst hce;exact lV rfl hds h1
    ·cases h
   ·cases h
 ·split at h
  ·rename_i v hv;simp only[Option.map_eq_some_iff,Prod.mk.injEq] at h;obtain⟨w,h1,rfl,rfl⟩:=h;exact Dq rfl hv h1
  ·cases h
 ·split at h
  ·rename_i h1 h2 h3;cases h;exact yQ rfl ⟨_,ma h3⟩ (ma h2) h1
  ·cases h
 ·split at h
  ·rename_i h1 h2 h3;split at h
   ·rename_i l hl;simp only[Option.map_eq_some_iff,Prod.mk.injEq] at h;obtain⟨w,h4,rfl,rfl⟩:=h;exact yP rfl h2 h3 h1 hl h4
   ·cases h
  ·cases h
 ·split at h
  ·rename_i h1 h2 h3;split at h
   ·rename_i l hl;split at h
    ·rename_i hsz;simp only[Option.map_eq_some_iff,Prod.mk.injEq] at h;obtain⟨w,h4,rfl,rfl⟩:=h;exact vq rfl h3 h1 h2 hl hsz h4
    ·cases h
   ·cases h
  ·cases h
 ·split at h
  ·rename_i h1 h2;split at h
   ·rename_i ha;simp only[Option.map_eq_some_iff,Prod.mk.injEq] at h;obtain⟨w,h4,rfl,rfl⟩:=h;exact lW rfl h2 h1 ha h4
   ·cases h
  ·cases h
 ·split at h
  ·rename_i h1 h2;split at h
   ·rename_i e he;split at h
    ·rename_i sz hs;simp only[Option.map_eq_some_iff,Prod.mk.injEq] at h;obtain⟨w,h4,rfl,rfl⟩:=h;exact vu rfl (G1 he) hs h1 h2 h4
    ·cases h
   ·split at h
    ·rename_i n e he;split at h
     ·rename_i sz hs;split at h
      ·rename_i hc;simp only[Option.map_eq_some_iff,Prod.mk.injEq] at h;obtain⟨w,h4,rfl,rfl⟩:=h;exact nZ rfl (tw he) hs h1 h2 hc.1 hc.2.1 hc.2.2 h4
      ·cases h
     ·cases h
    ·cases h
  ·cases h
 ·split at h
  ·rename_i h1 h2;split at h
   ·rename_i hle;simp only[Option.map_eq_some_iff,Prod.mk.injEq] at h;obtain⟨w,h4,rfl,rfl⟩:=h;unfold ql at h2;split at h2
    ·rename_i fs hu;split at h2
     ·rename_i y hy;split at h2
      ·rename_i s g hs hg;cases h2;exact vv rfl hu hy rfl rfl hs hg h1 hle h4
      ·cases h2
     ·cases h2
    ·cases h2
   ·cases h
  ·cases h
 ·split at h
  ·rename_i h1;simp only[Option.map_eq_some_iff,Prod.mk.injEq] at h;obtain⟨w,h4,rfl,rfl⟩:=h;exact pU rfl h1 h4
  ·cases h
 ·split at h
  ·rename_i h1;cases h;exact ce rfl h1 (.inr (.inl ⟨_,_,rfl⟩))
  ·rename_i h1;cases h;exact ce rfl h1 (.inr (.inr ⟨_,_,rfl⟩))
  ·rename_i h1;split at h
   ·rename_i ha;cases h;exact ce rfl h1 (.inl ha)
   ·cases h
  ·cases h
 ·split at h
  ·rename_i h1;simp only[Option.map_eq_some_iff,Prod.mk.injEq] at h;obtain⟨w,h4,rfl,rfl⟩:=h;exact Bt rfl h1 h4
  ·cases h
 ·split at h
  ·rename_i h1;split at h
   ·rename_i hp;cases h;exact vD rfl h1 hp
   ·cases h
  ·cases h
 ·split at h
  ·rename_i h1 h2 h3;split at h
   ·rename_i hp;simp only[Option.map_eq_some_iff,Prod.mk.injEq] at h;obtain⟨w,h4,rfl,rfl⟩:=h;exact vC rfl h1 hp h2 h3 h4
   ·cases h
  ·cases h
 ·split at h
  ·rename_i e he;split at h
   ·rename_i h1 h2 h3;split at h
    ·rename_i hc;simp only[Option.map_eq_some_iff,Prod.mk.injEq] at h;obtain⟨w,h4,rfl,rfl⟩:=h;exact lw rfl (G1 he) h1 h2 hc.1 hc.2.1 hc.2.2.1 hc.2.2.2 h3 h4
    ·cases h
   ·cases h
  ·cases h
 ·split at h
  ·rename_i h1 h2 h3 h4;split at h
   ·rename_i sz hs;simp only[Option.map_eq_some_iff,Prod.mk.injEq] at h;obtain⟨w,h5,rfl,rfl⟩:=h;exact vr rfl (G1 h2) hs h1 h3 h4 h5
   ·cases h
  ·cases h
 ·split at h
  ·rename_i b hb;exact lc rfl hb h
  ·cases h
 ·exact pR rfl h
 ·split at h
  ·exact pS rfl h
  ·exact rY rfl h
 ·exact vt rfl h
 ·exact vA rfl h
 ·exact sc rfl h
 ·exact eI (.inl rfl) h
 ·exact eI (.inr rfl) h
 ·cases h
def D9 (P:Program) (f:FuncId):Prop:=∀ args w,(callFunc f args).run P w=.ok (.enter f args) w
inductive Kind where
 | call (x:Operand) (xs:List Operand)
 | append (t:TypeId) (x y:Operand)
 | makeSlice (t:TypeId) (x y:Operand)
 | next (it:Operand)
 | rng (t:TypeId) (x:Operand)
 | eqNil (op:BinOp) (t:TypeId) (x:Operand) (u:TypeId)
 | plain
def H2:Op->Kind
 | .call c=>match c.callee,c.args.toList,c.argTypes.toList with
   | .value x,xs,_=>.call x xs
   | .builtin .append,[x,y],[t,u]=>if t=u then .append t x y else .plain
   | _,_,_=>.plain
 | .makeSlice t x y=>.makeSlice t x y
 | .next it false=>.next it
 | .range t x=>.rng t x
 | .binOp .eql t x (.const (.slice none 0 0)) u=>.eqNil .eql t x u
 | .binOp .neq t x (.const (.slice none 0 0)) u=>.eqNil .neq t x u
 | _=>.plain
theorem V6 {op:Op} {x:Operand} {xs:List Operand} (h:H2 op=.call x xs):∃ ys ts,op=.call { callee:=.value x,args:=ys,argTypes:=ts }/\ys.toList=xs:=by
 unfold H2 at h;split at h
 ·rename_i c;obtain⟨cal,args,ts⟩:=c;split at h
  ·rename_i hc;simp only at hc;subst hc;cases h;exact⟨_,_,rfl,rfl⟩
  ·split at h<;>cases h
  ·cases h
 ·cases h
 ·cases h
 ·cases h
 ·cases h
 ·cases h
 ·cases h
theorem eC {op:Op} {t:TypeId} {x y:Operand} (h:H2 op=.append t x y):op=.call { callee:=.builtin .append,args:=#[x,y],argTypes:=#[t,t] }:=by
 unfold H2 at h;split at h
 ·rename_i c;obtain⟨cal,args,ts⟩:=c;split at h
  ·cases h
  ·rename_i h1 h2 h3;simp only at h1 h2 h3;subst h1;split at h
   ·rename_i e;subst e;cases h;rw[show args=_ from Array.toList_inj.1 (h2.trans List.toList_toArray.symm),show ts=_ from Array.toList_inj.1 (h3.trans List.toList_toArray.symm)]
   ·cases h
  ·cases h
 ·cases h
 ·cases h
 ·cases h
 ·cases h
 ·cases h
 ·cases h
theorem iz {op:Op} {t:TypeId} {x y:Operand} (h:H2 op=.makeSlice t x y):op=.makeSlice t x y:=by
 unfold H2 at h;split at h
 ·split at h
  ·cases h
  ·split at h<;>cases h
  ·cases h
 ·cases h;rfl
 ·cases h
 ·cases h
 ·cases h
 ·cases h
 ·cases h
theorem ja {op:Op} {it:Operand} (h:H2 op=.next it):op=.next it false:=by
 unfold H2 at h;split at h
 ·split at h
  ·cases h
  ·split at h<;>cases h
  ·cases h
 ·cases h
 ·cases h;rfl
 ·cases h
 ·cases h
 ·cases h
 ·cases h
theorem rb {op:Op} {t:TypeId} {x:Operand} (h:H2 op=.rng t x):op=.range t x:=by
 unfold H2 at h;split at h
 ·split at h
  ·cases h
  ·split at h<;>cases h
  ·cases h
 ·cases h
 ·cases h
 ·cases h;rfl
 ·cases h
 ·cases h
 ·cases h
theorem ny {op:Op} {b:BinOp} {t u:TypeId} {x:Operand} (h:H2 op=.eqNil b t x u):op=.binOp b t x (.const (.slice none 0 0)) u/\(b=BinOp.eql\/b=BinOp.neq):=by
 unfold H2 at h;split at h
 ·split at h
  ·cases h
  ·split at h<;>cases h
  ·cases h
 ·cases h
 ·cases h
 ·cases h
 ·cases h;exact⟨rfl,.inl rfl⟩
 ·cases h;exact⟨rfl,.inr rfl⟩
 ·cases h
theorem sm {P:Program} {G:Hn} {S:DS} {o:Oper} {op:BinOp} {t e u:TypeId} {x:Operand} {l:List (List IC)} {K:DS->Prop} (ho:o.op=.binOp op t x (.const (.slice none 0 0)) u) (hop:op=.eql\/op=.neq) (ht:P.underlying t=some (.slice e))
 (hx:j5 G S x=some (.one (.im (.sl l)))) (h:∀ b:Bool,(b=true->l=[])->K ({ S with objs:=S.objs }.put o.dst (.one (.im (.raw (.bool (if op=BinOp.eql then b else !b))))))):OpT P G o S K:=by
 intro ro a M hr;have e1:=i9 hr hx;generalize hv:a.eval x=v at e1;have hval:∃ p n c,v=.slice p n c/\(p.isNone=true->l=[]):=by
  cases e1 with
  | one _ _ hp=>cases hp with
    | im _ _ hp=>cases hp with
      | slnil=>exact⟨none,0,0,rfl,λ_=>rfl⟩
      | sl=>exact⟨_,_,_,rfl,λh=>by simp at h⟩
      | slz=>exact⟨_,_,_,rfl,λh=>by simp at h⟩
 obtain⟨p,n,cc,rfl,hp⟩:=hval;have heq:(Op.equal t (.slice p n cc) (.slice none 0 0)).run P M.w=.ok p.isNone M.w:=by
  have key:∀ d,(Op.equalIn (d+1) t (.slice p n cc) (.slice none 0 0)).run P M.w=.ok p.isNone M.w:=λd=>by
   simp only[Op.equalIn,Sem.run_bind,e8 ht,Result.andThen_ok];cases p<;>rfl
  exact key 9999
 have hn:a.eval (.const (.slice none 0 0))=.slice none 0 0:=rfl;have hrun:(execOp a.eval o).run P M.w=.ok (.value (.bool (if op=.eql then p.isNone else !p.isNone))) M.w:=by
  simp only[execOp,ho,hv,hn,Sem.run_bind,U2 (.inr (.inr (.inl ⟨_,_,_,rfl⟩))),Result.andThen_ok];rcases hop with rfl|rfl
  ·have h5:binOp .eql t (.slice p n cc) (.slice none 0 0)=(do pure (.bool (<- Op.equal t (.slice p n cc) (.slice none 0 0)))):=rfl;simp only[h5,Sem.run_bind,heq,Result.andThen_ok];rfl
  ·have h5:binOp .neq t (.slice p n cc) (.slice none 0 0)=(do pure (.bool (!(<- Op.equal t (.slice p n cc) (.slice none 0 0))))):=rfl;simp only[h5,Sem.run_bind,heq,Result.andThen_ok];rfl
 have hp2:=hr.put (d:=.one (.im (.raw (.bool (if op=.eql then p.isNone else !p.isNone))))) hr.m (Ext.refl M) (.one _ _ (.im _ _ (.raw _ rfl))) o.dst;exact H7 hrun ⟨_,M,rfl,hp2,Ext.refl M,r5 _ _ _,by rw[hr.ob];exact h _ hp⟩
def CallE (P:Program) (G:Hn) (f:FuncId) (args:List DV) (objs:List DObj) (Q:DV->List DObj->Prop) (_t:Tok Q):Prop:=DCall P G f args objs Q
def lz (b:Bool) (A B:Prop) (_t:Tok (A/\B)):Prop:=(b=true->A)/\(b=false->B)
theorem fy (A B:Prop) (t:Tok (A/\B)):lz true A B t=A:=by simp[lz]
theorem dC (A B:Prop) (t:Tok (A/\B)):lz false A B t=B:=by simp[lz]
theorem j0 {b:Bool} {A B:Prop} {t:Tok (A/\B)} (h1:b=true->A) (h2:b=false->B):lz b A B t:=⟨h1,h2⟩
attribute [simp] fy dC
inductive Out where
 | val (d:DV) (objs:List DObj)
 | call (f:FuncId) (args:List DV)
 | cond (p:Prop) (d:DV) (objs:List DObj)
 | yield (o:Nat) (args:List DV)
 | iter (o:Nat) (left:List (List Value×List IC))
 | nilq (l:List (List IC)) (neg:Bool)
 | gen (p:(DV->List DObj->Prop)->Prop)
 | bad
def zY:Option (DV×List DObj)->Out
 | some (d,objs)=>.val d objs
 | none=>.bad
def Cq:Option (FuncId×List DV)->List DV->Out
 | some (f,caps),as=>.call f (as++caps)
 | none,_=>.bad
def Em (p:Prop):Option (DC×List DObj)->Out
 | some (d,objs)=>.cond p (.one d) objs
 | none=>.bad
def DK:DC->Option Nat
 | .vec _ _ _ len=>some len
 | _=>none
def cH (P:Program) (G:Hn) (S:DS) (x:Operand) (xs:List Operand):Out:=match j5 G S x,X1 G S xs with
 | some (.one (.yld o)),some as=>.yield o as
 | some (.one (.im (.bf (.func f) l))),some as=>.gen λC=>D9 P f/\CallE P G f (l.map (λc=>DV.one (.im c))++as) S.objs C ⟨⟩
 | some d,some as=>Cq (F2 d) as
 | _,_=>.bad
def Z1 (P:Program) (G:Hn) (S:DS) (t:TypeId) (x y:Operand):Out:=match j5 G S x,j5 G S y,ar P t with
 | some (.one s),some (.one c),some e=>match aW P e,aL P e,E5 P e,dn S.objs c,DK s with
   | some sz,some bytes,some z,some xs,some len=>Em (0<sz/\z.length=sz/\(∀ e∈xs,e.length=sz)/\(len+xs.length)*bytes<=140737488355328/\len+xs.length<=9223372036854775807) (bU S.objs s xs sz)
   | _,_,_,_,_=>.bad
 | _,_,_=>.bad
def cG (P:Program) (G:Hn) (S:DS) (t:TypeId) (x y:Operand):Out:=match C9 (j5 G S x),C9 (j5 G S y),ar P t with
 | some (.int .i64 a),some (.int .i64 b),some e=>match aW P e,aL P e,E5 P e with
   | some sz,some bytes,some z=>.cond (0<sz/\z.length=sz/\z.all v7=true/\0<=a/\b=a/\a.toNat*bytes<=140737488355328/\a.toNat<=9223372036854775807)
    (.one (.vec S.objs.length 0 0 a.toNat)) (S.objs++[DObj.vec sz (List.replicate a.toNat (z.map an)) 0 false])
   | _,_,_=>.bad
 | _,_,_=>.bad
def cF (G:Hn) (S:DS) (it:Operand):Out:=match j5 G S it with
 | some (.one (.itr o))=>match S.objs[o]? with
   | some (.iter left _)=>.iter o left
   | some (.liter b seen c)=>match Z4 b c S.objs with
     | some (l,es)=>.gen λC=>((∀ s∈l,s∈seen)->C (.tup [.one (.im (.raw (.bool false)))]) S.objs) /\
      ∀ (i s:Nat) (x:List Value×List DC),es[i]?=some x->l[i]?=some s->s∉seen->C (.tup [.one (.im (.raw (.bool true))),F3 (x.1.map an),F3 x.2]) (S.objs.set o (.liter b (seen++[s]) c))
     | none=>.bad
   | _=>.bad
 | _=>.bad
def xw:List CK->Bool
 | .st _ _ _ :: _=>true
 | _=>false
theorem Az (l:List Nat) (c b:Nat) (r:List CK):xw (.st l c b :: r)=true:=rfl
theorem xu (q:IntKind) (r:List CK):xw (.int q :: r)=false:=rfl
theorem ut (r:List CK):xw (.bool :: r)=false:=rfl
attribute [simp] Az xu ut
theorem re {ks:List CK} (h:xw ks=false):plainK ks:=by
 unfold plainK;split
 ·cases h
 ·trivial
def fF (P:Program) (G:Hn) (S:DS) (t:TypeId) (x:Operand) (r:Option (DV×List DObj)):Out:=match j5 G S x,cD P t with
 | some (.one (.map o)),some _=>match S.objs[o]? with
   | some (.map ks es)=>if xw ks=false then .gen λC=>∀ (l:List Nat) (c b:Nat),l.length=es.length->l.Nodup->(∀ s∈l,s<c)->C (.one (.itr S.objs.length)) (S.objs.set o (.map (.st l c b :: ks) es)++[.liter b [] c]) else .bad
   | _=>.bad
 | _,_=>zY r
def fG (P:Program) (G:Hn) (S:DS) (op:BinOp) (t:TypeId) (x:Operand) (r:Option (DV×List DObj)):Out:=match j5 G S x,ar P t with
 | some (.one (.im (.sl l))),some _=>.nilq l (decide (op=.neq))
 | _,_=>zY r
def J7 (P:Program) (G:Hn) (S:DS) (op:Op) (ty:TypeId):Kind->Out
 | .call x xs=>cH P G S x xs
 | .append t x y=>Z1 P G S t x y
 | .makeSlice t x y=>cG P G S t x y
 | .next it=>cF G S it
 | .rng t x=>fF P G S t x (Z9 P G S op ty)
 | .eqNil b t x _=>fG P G S b t x (Z9 P G S op ty)
 | .plain=>zY (Z9 P G S op ty)
def U9 (P:Program) (G:Hn) (S:DS) (op:Op) (ty:TypeId):Out:=J7 P G S op ty (H2 op)
def Next (P:Program) (G:Hn) (objs:List DObj) (x:Out) (C:DV->List DObj->Prop) (_t:Tok C):Prop:=match x with
 | .val d objs'=>C d objs'
 | .call f as=>D9 P f/\CallE P G f as objs C ⟨⟩
 | .cond p d objs'=>p/\C d objs'
 | .yield o as=>lu P G o as objs C ⟨⟩
 | .iter o left=>(left=[]->C (.tup [.one (.im (.raw (.bool false)))]) objs) /\
  ∀ (i:Nat) (x:List Value×List IC),left[i]?=some x->C (.tup [.one (.im (.raw (.bool true))),F3 (x.1.map an),F3 (x.2.map .im)]) (objs.set o (.iter (left.eraseIdx i) (some x)))
 | .nilq l neg=>∀ b:Bool,(b=true->l=[])->C (.one (.im (.raw (.bool (b != neg))))) objs
 | .gen p=>p C
 | .bad=>False
def lT (w:Option Bool) (A B:Prop) (_t:Tok (A/\B)):Prop:=match w with
 | some b=>lz b A B ⟨⟩
 | none=>False
section
variable (P:Program) (G:Hn) (objs:List DObj) (C:DV->List DObj->Prop) (t:Tok C)
theorem yT (d:DV) (objs':List DObj):Next P G objs (.val d objs') C t=C d objs':=rfl
theorem vL (f:FuncId) (as:List DV):Next P G objs (.call f as) C t=(D9 P f/\CallE P G f as objs C ⟨⟩):=rfl
theorem vK (p:Prop) (d:DV) (objs':List DObj):Next P G objs (.cond p d objs') C t=(p/\C d objs'):=rfl
theorem sn (o:Nat) (as:List DV):Next P G objs (.yield o as) C t=lu P G o as objs C ⟨⟩:=rfl
theorem vJ (o:Nat) (left:List (List Value×List IC)):Next P G objs (.iter o left) C t=((left=[]->C (.tup [.one (.im (.raw (.bool false)))]) objs) /\
 ∀ (i:Nat) (x:List Value×List IC),left[i]?=some x->C (.tup [.one (.im (.raw (.bool true))),F3 (x.1.map an),F3 (x.2.map .im)]) (objs.set o (.iter (left.eraseIdx i) (some x)))):=rfl
theorem vI (l:List (List IC)) (neg:Bool):Next P G objs (.nilq l neg) C t=(∀ b:Bool,(b=true->l=[])->C (.one (.im (.raw (.bool (b != neg))))) objs):=rfl
theorem yU (p:(DV->List DObj->Prop)->Prop):Next P G objs (.gen p) C t=p C:=rfl
theorem yV:Next P G objs .bad C t=False:=rfl
theorem vk (A B:Prop) (t:Tok (A/\B)):lT (some true) A B t=A:=fy A B ⟨⟩
theorem rU (A B:Prop) (t:Tok (A/\B)):lT (some false) A B t=B:=dC A B ⟨⟩
theorem vm (b:Bool) (A B:Prop) (t:Tok (A/\B)):lT (some b) A B t=lz b A B ⟨⟩:=rfl
theorem vn (A B:Prop) (t:Tok (A/\B)):lT none A B t=False:=rfl
end
attribute [simp] fG vI yU fF Z4 mD cF vJ yT vL vK sn yV vk rU vm vn zY Cq Em DK U9 J7 cH Z1 cG
def nX (P:Program) (G:Hn) (dsts:List (Option Tmp)):List Oper->DS->(K:DS->Prop)->Tok K->Prop
 | [],S,K,_=>K S
 | o :: l,S,K,tk=>lT (C2 dsts S o)
  (Next P G S.objs (U9 P G S o.op o.type) (λd objs'=>nX P G dsts l (DS.put { S with objs:=objs' } o.dst d) K tk) ⟨⟩)
  (nX P G dsts l (S.put o.dst (.tup [])) K tk) ⟨⟩
section
variable {P:Program} {G:Hn} {n:Cx} {S:DS} {Q:Exit->DS->Prop}
theorem fu {dsts:List (Option Tmp)} {l:List Oper} {o:Oper} {K:DS->Prop} {C:DV->List DObj->Prop}
 (hC:∀ d objs',C d objs'->RT P G dsts l (DS.put { S with objs:=objs' } o.dst d) K) (h1:Next P G S.objs (U9 P G S o.op o.type) C ⟨⟩):OpT P G o S (λS'=>RT P G dsts l S' K):=by
 unfold U9 at h1;generalize hk:H2 o.op=k at h1;cases k with
 | call x xs =>
   simp only[J7,cH] at h1;split at h1
   ·rename_i l as hd has;obtain⟨ys,ts,ho,rfl⟩:=V6 hk;refine vE ho hd has ?_;have hm:∀ (ob:Option DObj) (C':DV->List DObj->Prop),(∀ d objs',C d objs'->C' d objs')->R1 P G l as S.objs C ob->R1 P G l as S.objs C' ob:=λob C' hcc hy=>by
     unfold R1 at hy ⊢;split at hy
     ·obtain⟨y1,y2,y3,y4⟩:=hy;refine⟨y1,y2,y3,y4.mono λe S' hq=>?_⟩;cases e with
      | normal =>
        refine⟨hq.1,DT.mono hq.2 λe S'' hq'=>?_⟩;cases e<;>first|exact hcc _ _ hq'|exact hq'
      | _=>exact hq
     ·exact hy
    exact hm _ _ (λd objs' hk=>hC _ _ hk) h1
   ·rename_i f l as hd has;obtain⟨ys,ts,ho,rfl⟩:=V6 hk;exact vH ho hd has h1.1 (DCall.mono h1.2 λd objs' hk=>hC _ _ hk)
   ·rename_i d as _ _ hd has;generalize hc:F2 d=c at h1;cases c with
    | none=>exact h1.elim
    | some p =>
      obtain⟨f,caps⟩:=p;obtain⟨ys,ts,ho,rfl⟩:=V6 hk;exact yS ho hd hc has h1.1 (DCall.mono h1.2 λd objs' hk=>hC _ _ hk)
   ·exact h1.elim
 | append t x y =>
   simp only[J7,Z1] at h1;split at h1
   ·rename_i s c e hs hc he;split at h1
    ·rename_i sz bytes z xs len h1' h2 h3 h4 h5;generalize hd:bU S.objs s xs sz=r at h1;cases r with
     | none=>exact h1.elim
     | some p =>
       obtain⟨d,objs'⟩:=p;obtain⟨⟨a1,a2,a3,a4,a6⟩,a5⟩:=h1;refine OpT.of_val (sj (eC hk) (G1 he) h1' a1 h2 h3 a2 hs hc h4 a3 hd ?_ ?_) (hC _ _ a5)
       ·rintro o g off len' rfl;cases h5;exact a4
       ·rintro o g off len' rfl;cases h5;exact a6
    ·exact h1.elim
   ·exact h1.elim
 | makeSlice t x y =>
   simp only[J7,cG] at h1;split at h1
   ·rename_i a b e hx hy he;split at h1
    ·rename_i sz bytes z g1 g2 g3;obtain⟨⟨a1,a2,a3,a4,rfl,a6,a7⟩,a8⟩:=h1;obtain⟨m,rfl⟩:=Int.eq_ofNat_of_zero_le a4;simp only[Int.toNat_natCast] at a6 a7 a8;exact OpT.of_val (lU (iz hk) (G1 he) g1 a1 g2 g3 a2 a3 hx hy a6 a7) (hC _ _ a8)
    ·exact h1.elim
   ·exact h1.elim
 | next it =>
   simp only[J7,cF] at h1;split at h1
   ·rename_i oI hit;split at h1
    ·rename_i left cur hob;exact yR (ja hk) hit hob (λe=>hC _ _ (h1.1 e)) (λi x hx=>hC _ _ (h1.2 i x hx))
    ·rename_i b seen c hob;split at h1
     ·rename_i l es hl;exact vF (ja hk) hit hob hl (λe=>hC _ _ (h1.1 e)) (λi s x hx hs hn=>hC _ _ (h1.2 i s x hx hs hn))
     ·exact h1.elim
    ·exact h1.elim
   ·exact h1.elim
 | rng t x =>
   simp only[J7,fF] at h1;split at h1
   ·rename_i oM kt hx ht;split at h1
    ·rename_i ks es hob;split at h1
     ·rename_i hs;exact sk (rb hk) hx ht (re hs) hob (λl c b h2 h3 h4=>hC _ _ (h1 l c b h2 h3 h4))
     ·exact h1.elim
    ·exact h1.elim
   ·generalize hd:Z9 P G S o.op o.type=r at h1;cases r with
    | none=>exact h1.elim
    | some p=>exact OpT.of_val (P0 hd) (hC _ _ h1)
 | eqNil b t x u =>
   simp only[J7,fG] at h1;obtain⟨hk1,hk2⟩:=ny hk;split at h1
   ·rename_i l e hx he;refine sm hk1 hk2 (G1 he) hx λc hc=>?_;have:=hC _ _ (h1 c hc);rcases hk2 with rfl|rfl
    ·simpa using this
    ·simpa using this
   ·generalize hd:Z9 P G S o.op o.type=r at h1;cases r with
    | none=>exact h1.elim
    | some p=>exact OpT.of_val (P0 hd) (hC _ _ h1)
 | plain =>
   simp only[J7] at h1;generalize hd:Z9 P G S o.op o.type=r at h1;cases r with
   | none=>exact h1.elim
   | some p=>exact OpT.of_val (P0 hd) (hC _ _ h1)
theorem J0 {dsts:List (Option Tmp)}:∀ (l:List Oper) (S:DS) (K:DS->Prop),nX P G dsts l S K ⟨⟩->RT P G dsts l S K
 | [],S,K,h=>h
 | o :: l,S,K,h=>by
   rw[nX] at h;generalize hb:C2 dsts S o=r at h;cases r with
   | none=>exact h.elim
   | some b=>exact⟨b,hb,λe=>fu (λd objs' hk=>J0 l _ K hk) (h.1 e),λe=>J0 l _ K (h.2 e)⟩
attribute [simp] fy dC
theorem sw {P:Program} {G:Hn} {f:FuncId} {args:List DV} {objs:List DObj} {d:DV} {Q:DV->List DObj->Prop} (h:∀ objs,DCall P G f args objs (λd' objs'=>d'=d/\objs'=objs)) (hq:Q d objs):DCall P G f args objs Q:=
 (h objs).mono λd' objs' ⟨h1,h2⟩=>by rw[h1,h2];exact hq
theorem gR {dsts:List (Option Tmp)} {K K':DS->Prop}:∀ {l:List Oper} {S:DS},RT P G dsts l S K->(∀ S,K S->K' S)->RT P G dsts l S K'
 | [],S,h,hk=>hk S h
 | _ :: _,_,⟨b,h1,h2,h3⟩,hk=>⟨b,h1,λe=>λro a M hr=>Oper.wpIn_mono (Q:=λ_ _ _=>False) (λ_ _ ⟨S',M',h4,h5,h6,h8,h7⟩=>⟨S',M',h4,h5,h6,h8,gR h7 hk⟩) (h2 e ro a M hr),λe=>gR (h3 e) hk⟩
def yY (l:List (Nat×DV)):List Nat->List (Nat×DV)
 | []=>[]
 | t :: r=>match m8 l t with
   | some d=>(t,d) :: yY l r
   | none=>yY l r
theorem bH {l:List (Nat×DV)}:∀ {ks:List Nat} {t:Nat} {d:DV},m8 (yY l ks) t=some d->m8 l t=some d
 | [],t,d,h=>by simp[yY,m8] at h
 | k :: r,t,d,h=>by
   simp only[yY] at h;split at h
   ·rename_i e he;simp only[m8] at h;split at h
    ·rename_i hk;subst hk;cases h;exact he
    ·exact bH h
   ·exact bH h
def DS.keep (S:DS) (ks:List Nat):DS:={ S with tmps:=yY S.tmps ks }
theorem Weak.keep {ks:List Nat}:Weak G n S (S.keep ks):=Weak.tmps λ_ _ h=>bH h
theorem B0 {id:Nat} {l:List Oper} (ks:List Nat) (h:nX P G (l.map (·.dst)) l S (λS'=>At Q .normal ⟨⟩ (S'.keep ks)) ⟨⟩):DT P G n (.region id l.toArray false) S Q:=by
 have h1:=iT (id:=id) (n:=n) (Q:=λe S'=>e=.normal/\Q .normal (S'.keep ks)) (gR (J0 l S _ h) (λS' h=>⟨rfl,h⟩));intro hn hd a M hr;refine wpIn_mono (h1 hn hd a M hr) ?_;rintro e a' w' ⟨S',M',rfl,hr',he,hnd,rfl,hq⟩;obtain⟨M2,w2,r2,e2⟩:=Weak.keep (G:=G) (n:=n) (S:=S') (ks:=ks) (by rw[<- hr'.ob];exact he.len) a' M' hr';exact⟨_,M2,w2,r2,he.trans e2,hnd,hq⟩
theorem CallE.pure {f:FuncId} {args:List DV} {objs:List DObj} {d:DV} {Q:DV->List DObj->Prop} {t:Tok Q} (h:∀ objs,DCall P G f args objs (λd' objs'=>d'=d/\objs'=objs)) (hq:Q d objs):CallE P G f args objs Q t:=sw h hq
theorem CallE.any {f:FuncId} {args:List DV} {objs:List DObj} {Q Q0:DV->List DObj->Prop} {t:Tok Q} (h:DCall P G f args objs Q0) (hq:∀ d objs',Q0 d objs'->Q d objs'):CallE P G f args objs Q t:=h.mono hq
theorem Weak.of_keep {S':DS} (ks:List Nat) (h:S.keep ks=S'):Weak G n S S':=by
 subst h;exact Weak.keep
theorem Weak.of_drop {S':DS} (ks:List Nat) (m:Nat) (hm:m<=S.objs.length) (hn:n.n<=m) (h:(S.keep ks).drop m=S'):Weak G n S S':=by
 subst h;exact Weak.keep.trans (Weak.drop hm hn)
def l8 (l:List (List IC)):List (List DC):=l.map (·.map .im)
theorem AC:l8 []=[]:=rfl
theorem L3 (l r:List (List IC)):l8 (l++r)=l8 l++l8 r:=by simp[l8]
theorem o3 (l:List (List IC)):(l8 l).length=l.length:=by simp[l8]
theorem xK (m:Nat) (objs:List DObj) (c:IC):fz m objs (.im c)=.im c:=rfl
theorem uk (m:Nat) (objs:List DObj) (l:List IC):(l.map .im).map (fz m objs)=l.map .im:=by simp[xK]
theorem CQ (m:Nat) (objs:List DObj) (l:List (List IC)):(l8 l).map (·.map (fz m objs))=l8 l:=by
 simp[l8,xK]
theorem jD (k m:Nat) (objs:List DObj):∀ (l:List IC),J4 (frz (k+1) m objs) (l.map .im)=some l
 | []=>rfl
 | c :: r=>by rw[List.map_cons,J4,jD k m objs r];rfl
theorem oX (k m:Nat) (objs:List DObj):∀ (l:List (List IC)),J4 (J4 (frz (k+1) m objs)) (l8 l)=some l
 | []=>rfl
 | c :: r=>by
   have:=oX k m objs r;simp only[l8] at this ⊢;rw[List.map_cons,J4,jD,this]
theorem eD {l:List (List IC)} {sz:Nat} (h:∀ e∈l,e.length=sz):∀ e∈l8 l,e.length=sz:=by
 intro e he;simp only[l8,List.mem_map] at he;obtain⟨e0,h0,rfl⟩:=he;simpa using h e0 h0
theorem AD (l:List (List IC)) (i:Nat):(l8 l)[i]?=(l[i]?).map (·.map .im):=by simp[l8]
end
theorem RelM.grow {G:Hn} {M:MS} {w':World} {x:Obj} (h:RelM G M) (hw:w'.heap=M.w.heap.push x) (hio:SameIo M.w w'):RelM G { M with w:=w' }/\Ext M.objs.length M { M with w:=w' }:=by
 have hold:∀ b,b<M.w.heap.size->w'.heap[b]?=M.w.heap[b]?:=λb hb=>by
  rw[hw,Array.getElem?_push,if_neg (Nat.ne_of_lt hb)]
 have he:Ext M.objs.length M { M with w:=w' }:=by
  refine⟨Nat.le_refl _,λb hb=>⟨⟨?_,hb.2⟩,hold b hb.1⟩,cv M,by simp only[hw,Array.size_push];omega,λp _ c' hc=>⟨⟨c',hc⟩,rfl⟩,λp _ sz es g nl hv=>⟨sz,es,g,nl,hv,Nat.le_refl _,λ_=>⟨rfl,rfl,λhn=>⟨rfl,?_⟩⟩⟩,λp _ ks es hm=>⟨⟨ks,es,hm⟩,rfl⟩,λp _ r hm=>⟨⟨r,hm⟩,rfl⟩,λp _ d hm hi=>⟨⟨d,hm,hi⟩,rfl⟩,λp _ r hm=>⟨⟨r,hm⟩,rfl⟩,hio⟩
  ·have:=hb.1;simp only[hw,Array.size_push];omega
  ·simp only[H3];rw[hold _ (h.lt p _ hv (by simp[DObj.blk,hn]))]
 refine⟨⟨λo d ho=>(h.objs o d ho).ext he (λ_=>rfl) (λhb=>hold _ (h.lt o d ho hb)),λo d ho hb=>?_,h.inj,λg l hg=>(h.glob g l hg).mono he.ok,λb hF=>?_,h.own⟩,he⟩
 ·have:=h.lt o d ho hb;simp only[hw,Array.size_push];omega
 ·have:=h.fl b hF;simp only[hw,Array.size_push];omega
section
variable {P:Program} {G:Hn} {S:DS}
theorem ju {o:Oper} {t e:TypeId} {sz:Nat} {z:List Value} (ho:o.op=.buildSlice t 0 #[]) (ht:P.underlying t=some (.slice e)) (hs:aW P e=some sz) (hz:E5 P e=some z) :
 OpV P G o S (.one (.im .e0)) S.objs:=by
 intro a M hrel;obtain⟨v,hrun,hv⟩:=X7 (w:=M.w) hz;have hheap:(M.w.alloc (.cells #[] e)).heap=M.w.heap.push (.cells #[] e):=by unfold World.alloc;rfl
 obtain⟨hm,he⟩:=hrel.m.grow hheap ⟨rfl,rfl,rfl,by first|exact Nat.le_refl _|exact Nat.le_succ _⟩;refine⟨.slice (some ⟨M.w.heap.size,0,none⟩) 0 0,_,.inl ?_,hm,hrel.ob,he,.one _ _ (.im _ _ (.e0 _ (λb hb=>by cases hb;rfl)))⟩;simp only[execOp,ho,Instr.buildSlice,Sem.run_bind,e8 ht,Result.andThen_ok,o5 hs];have h00:(Array.range 0).map (λ_=>(default:Value))=#[]:=by simp
 simp[Instr.fill,newRow,newObj,Sem.run,h00]
theorem pV {o:Oper} {t e:TypeId} {sz bytes:Nat} {z:List Value} {x y:Operand} {c:DC} {l:List (List IC)}
 (ho:o.op=.call { callee:=.builtin .append,args:=#[x,y],argTypes:=#[t,t] }) (ht:P.underlying t=some (.slice e)) (hs:aW P e=some sz) (h0:0<sz) (hby:aL P e=some bytes) (hz:E5 P e=some z) (hzl:z.length=sz)
 (hx:j5 G S x=some (.one (.im .e0))) (hy:j5 G S y=some (.one c)) (hel:dn S.objs c=some (l8 l)) (hsz:∀ e∈l,e.length=sz)
 (hb:l.length*bytes<=140737488355328) (hb1:l.length<=9223372036854775807):OpV P G o S (.one (.im (.sl l))) S.objs:=by
 intro a M hr;have hp:=i9 hr hx;have hq:=i9 hr hy;generalize hv:a.eval x=v at hp;generalize hu:a.eval y=u at hq;rw[<- hr.ob] at hel;cases hp with
 | one _ _ hp=>cases hq with
   | one _ _ hq =>
   cases hp with
   | im _ _ hp =>
   cases hp with
   | e0 a0 ha0 =>
   obtain⟨ax,capx,rfl,hax,f,hf,hrep⟩:=gF hr.m hq hel (eD hsz);rw[o3] at hax hf hu;have hrun:∀ w',((Builtin.append_ #[t,t] o.type #[.slice a0 0 0,.slice ax l.length capx]).run P M.w=w')->(execOp a.eval o).run P M.w=w'.andThen λv w=>.ok (.value v) w:=λw' h=>by
    simp only[execOp,ho,Sem.run_bind,resolve,invoke,builtin,List.map_toArray,List.map_cons,List.map_nil,hv,hu,Sem.run_pure,Result.andThen_ok,h]
   have hfirst:=ev (P:=P) (sz:=sz) (cap:=capx) hax f (λb hb=>⟨λhne=>(hf b hb).1 λe=>hne (by have:=congrArg List.length e;simpa[o3] using this),(hf b hb).2⟩);simp only[aL,Option.map_eq_some_iff] at hby;obtain⟨inf,hinf,rfl⟩:=hby;have hinfs:inf.size=sz:=by simp only[aW,hinf,Option.map_some,Option.some.injEq] at hs;exact hs
   simp only[E5,hinf,Option.bind_some,Option.map_eq_some_iff] at hz;obtain⟨zv,hzv,rfl⟩:=hz;by_cases hl:l.length=0
   ·have hln:l=[]:=List.length_eq_zero_iff.1 hl;subst hln;refine⟨.slice a0 0 0,M,.inl ?_,hr.m,hr.ob,Ext.refl M,.one _ _ (.im _ _ ?_)⟩
    ·rw[hrun (.ok (.slice a0 0 0) M.w)]
     ·rfl
     ·simp only[List.length_nil] at hfirst ⊢;cases a0<;>simp[Builtin.append_,e8 ht,o5 hs,Builtin.lenOf,hfirst,storeCells]
    ·cases a0 with
     | none=>exact .slnil
     | some b=>exact .sl [] b 0 sz (λ_ _=>undef) (ha0 b rfl) (λh=>absurd rfl h) (Nat.le_refl _) (λi x hx=>by simp at hx) (λi x j c hx=>by simp at hx) (λi x j c hx=>by simp at hx)
   ·have hpos:0<l.length:=Nat.pos_of_ne_zero hl;cases ax with
    | none=>exact absurd (hax rfl) hl
    | some ad =>
      have hnews:∀ (j:Nat) (v:Value),((List.range (l.length*sz)).map f)[j]?=some v->M.w.cell? (ad.add j)=some v:=λj v hj=>by
       obtain⟨h7,h8⟩:=hf ad rfl;have hlt:j<l.length*sz:=by simpa using e7 hj
       rw[G0 (h7 λe=>by simp only[List.length_eq_zero_iff,l8,List.map_eq_nil_iff] at e;subst e;simp at hlt),h8 j hlt];rw[List.getElem?_map,List.getElem?_range hlt] at hj;simpa using hj
      have fresh:∀ (cap':Nat) (zc:Array Value),l.length<=cap' ->
       (Builtin.append_ #[t,t] o.type #[.slice a0 0 0,.slice (some ad) l.length capx]).run P M.w=.ok (.slice (some ⟨M.w.heap.size,0,none⟩) l.length cap') (M.w.drew.alloc (.cells (((List.range (l.length*sz)).map f).toArray++zc) e)) ->
       ∃ v M',((execOp a.eval o).run P M.w=.ok (.value v) M'.w\/((execOp a.eval o).run P M.w=.ok .skip M'.w/\v=undef))/\RelM G M'/\M'.objs=S.objs/\Ext M.objs.length M M'/\RepV M' (.one (.im (.sl l))) v:=by
       intro cap' zc hcap happ;have hheap:(M.w.drew.alloc (.cells (((List.range (l.length*sz)).map f).toArray++zc) e)).heap=M.w.heap.push (.cells (((List.range (l.length*sz)).map f).toArray++zc) e):=by unfold World.alloc;rfl
       obtain⟨hm,he⟩:=hr.m.grow hheap ⟨rfl,rfl,rfl,by first|exact Nat.le_refl _|exact Nat.le_succ _⟩;refine⟨_,{ M with w:=M.w.drew.alloc (.cells (((List.range (l.length*sz)).map f).toArray++zc) e) },.inl (by rw[hrun _ happ];rfl),hm,hr.ob,he,.one _ _ (.im _ _ ?_)⟩;have key:∀ (i:Nat) (x:List IC) (j:Nat) (c:IC),l[i]?=some x->x[j]?=some c->i*sz+j<l.length*sz:=λi x j c hi hj=>by
        have hxl:=hsz x (List.mem_of_getElem? hi);have h1:=e7 hi;have h2:=e7 hj;have hmul:(i+1)*sz<=l.length*sz:=Nat.mul_le_mul_right sz h1;rw[Nat.add_mul,Nat.one_mul] at hmul;omega
       refine .sl l ⟨M.w.heap.size,0,none⟩ cap' sz (λi j=>f (i*sz+j)) rfl (λ_=>?_) hcap (λi x hx=>hsz x (List.mem_of_getElem? hx)) (λi x j c hi hj=>?_) (λi x j c hi hj=>?_)
       ·refine⟨⟨by simp[hheap],?_⟩,?_⟩
        ·rintro⟨o',d',ho',hb',hβ⟩;have:=hr.m.lt o' d' ho' hb';simp only at hβ;omega
        ·intro hF;have:=hr.m.fl _ hF;simp only at this;omega
       ·have hin:=key i x j c hi hj;simp only[World.cell?,hheap,Array.getElem?_push_size,Nat.zero_add];rw[Array.getElem?_append_left (by simpa using hin)];simp[hin]
       ·have hin:=key i x j c hi hj;have h1:=hrep i (x.map .im) j (.im c) (by simp[l8,hi]) (by simp[hj]);cases h1 with
        | im _ _ h1=>exact h1.mono λb hb=>⟨he.ok b hb |>.1,(he.ok b hb).2⟩
      cases a0 with
      | none =>
        have happ:=run_append_nil (P:=P) M.w t o.type e inf zv ht hinf hzv ad l.length capx ((List.range (l.length*sz)).map f) (by simp[hinfs]) hnews hpos (by omega) (by omega);have hge:=grownCap_ge M.w l.length 0 e;exact fresh (grownCap M.w l.length 0 e) (Builtin.zeroCells zv.cells (grownCap M.w l.length 0 e-l.length)) (by simpa using hge) happ
      | some b =>
        have happ:=run_append_grow (P:=P) M.w t o.type e inf zv ht hinf hzv b 0 0 [] (by simp) (λj v hj=>by simp at hj) ad l.length capx ((List.range (l.length*sz)).map f) (by simp[hinfs]) hnews (by omega) (by omega) (growslice_fits (by omega) (by rw[Nat.zero_add];exact hb));have hge:=grownCap_ge M.w (0+l.length) 0 e;refine fresh (grownCap M.w (0+l.length) 0 e) (Builtin.zeroCells zv.cells (grownCap M.w (0+l.length) 0 e-(0+l.length))) (by omega) ?_;simpa using happ
end
end Go.Ab
