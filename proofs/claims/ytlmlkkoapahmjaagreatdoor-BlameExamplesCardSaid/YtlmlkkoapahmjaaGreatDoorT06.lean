/- Part 6 of the proofs. -/
import Derived.Test.YtlmlkkoapahmjaaGreatDoorT05
set_option linter.all false
set_option maxHeartbeats 100000000
namespace Go.Ab
open Go
def X3 (P:Program) (t:TypeId):Option TypeId:=match P.underlying t with
 | some (.slice e)=>some e
 | _=>none
def AF (P:Program) (t:TypeId):Option (Nat×TypeId):=match P.underlying t with
 | some (.array n e)=>some (n,e)
 | _=>none
def wS (P:Program) (t:TypeId):Option IntKind:=match P.underlying t with
 | some (.int k)=>some k
 | _=>none
def tu (P:Program) (t:TypeId):Bool:=match P.underlying t with
 | some .bool=>true
 | _=>false
theorem E7 {P:Program} {t e:TypeId} (h:X3 P t=some e):P.underlying t=some (.slice e):=by
 unfold X3 at h;split at h
 ·rename_i hu;cases h;exact hu
 ·cases h
theorem uh {P:Program} {t e:TypeId} {n:Nat} (h:AF P t=some (n,e)):P.underlying t=some (.array n e):=by
 unfold AF at h;split at h
 ·rename_i hu;cases h;exact hu
 ·cases h
theorem lQ {P:Program} {t:TypeId} {k:IntKind} (h:wS P t=some k):P.underlying t=some (.int k):=by
 unfold wS at h;split at h
 ·rename_i hu;cases h;exact hu
 ·cases h
theorem qN {P:Program} {t:TypeId} (h:tu P t=true):P.underlying t=some .bool:=by
 unfold tu at h;split at h
 ·assumption
 ·cases h
def gJ (v:Value):DV:=.one (.im (.raw v))
def qM (P:Program) (t:TypeId) (f:Nat):Option (Nat×Nat×Bool):=
 match P.underlying t with
 | some (.struct fs)=>match fs[f]? with
   | some x=>match aq P x.type,lR P x.type with
     | some s,some g=>some (x.offset,s,g)
     | _,_=>none
   | none=>none
 | _=>none
def gq (P:Program) (G:IK) (S:DS) (b:Builtin) (args:List Operand) (ts:List TypeId):Option (DV×List DObj):=
 match b,args,ts with
 | .len,[x],[t]=>match j0 G S x,X3 P t with
   | some (.one c),some _=>(yW S.objs c).map λ(n:Nat)=>(gJ (.int .i64 (n:Int)),S.objs)
   | some (.one c),none=>match bp P t with
     | some _=>match c with
       | .im c=>(gj (.im c)).map λ(n:Nat)=>(gJ (.int .i64 (n:Int)),S.objs)
       | c=>(jB S.objs c).map λ(n:Nat)=>(gJ (.int .i64 (n:Int)),S.objs)
     | none=>none
   | _,_=>none
 | .delete,[m,k],[t,_]=>jD P G S t m k
 | .clear,[x],[t]=>nV P G S t x
 | .max,[x,y],_=>match C2 (j0 G S x),C2 (j0 G S y) with
   | some (.int k a),some (.int k' b)=>if k=k' then some (gJ (.int k (max a b)),S.objs) else none
   | _,_=>none
 | .min,[x,y],_=>match C2 (j0 G S x),C2 (j0 G S y) with
   | some (.int k a),some (.int k' b)=>if k=k' then some (gJ (.int k (min a b)),S.objs) else none
   | _,_=>none
 | _,_,_=>none
def BP (P:Program) (G:IK) (S:DS) (op:BinOp) (t:TypeId) (x y:Operand):Option (DV×List DObj):=
 if op=.eql\/op=.neq then match y with
  | .const (.slice none 0 0)=>match j0 G S x,X3 P t with
    | some (.one c),some _=>(BO S.objs c).map λb=>(gJ (.bool (if op=.eql then b else !b)),S.objs)
    | _,_=>none
  | y=>match j0 G S x,j0 G S y,u5 P t with
    | some (.agg lx),some (.agg ly),some ks=>match cI lx,cI ly with
      | some vx,some vy=>if e9 ks vx=true/\e9 ks vy=true then some (gJ (.bool (if op=.eql then u6 vx vy else !u6 vx vy)),S.objs) else none
      | _,_=>none
    | some (.agg lx),some (.agg ly),none=>match cI lx,cI ly,eW P t with
      | some vx,some vy,some ks=>if e9 ks vx=true/\e9 ks vy=true then some (gJ (.bool (if op=.eql then u6 vx vy else !u6 vx vy)),S.objs) else none
      | _,_,_=>none
    | _,_,_=>none
 else none
theorem sk {P:Program} {G:IK} {S:DS} {o:Oper} {op:BinOp} {t u:TypeId} {x y:Operand} {d:DV} {objs':List DObj} (ho:o.op=.binOp op t x y u) (h:BP P G S op t x y=some (d,objs')):OpV P G o S d objs':=by
 unfold BP at h;split at h
 ·rename_i hop;split at h
  ·split at h
   ·rename_i h1 h2;simp only[Option.map_eq_some_iff,Prod.mk.injEq] at h;obtain⟨b,h3,rfl,rfl⟩:=h;exact ws ho hop (E7 h2) h1 h3
   ·cases h
  ·split at h
   ·rename_i h1 h2 h3;split at h
    ·rename_i h4 h5;split at h
     ·rename_i hs;cases h;exact om ho hop h3 h1 h2 h4 h5 hs.1 hs.2
     ·cases h
    ·cases h
   ·rename_i h1 h2 h3;split at h
    ·rename_i h4 h5 h6;split at h
     ·rename_i hs;cases h;exact sX ho hop h6 h1 h2 h4 h5 hs.1 hs.2
     ·cases h
    ·cases h
   ·cases h
 ·cases h
def Y4 (P:Program) (G:IK) (S:DS) (op:Op) (ty:TypeId):Option (DV×List DObj):=
 match op with
 | .move x=>(j0 G S x).map (·,S.objs)
 | .assign x=>match x with
   | .const (.slice none 0 0)=>match X3 P ty with
     | some e=>match aq P e with
       | some sz=>some (.one (.vec S.objs.length 0 0 0),S.objs++[.vec sz [] 0 true])
       | none=>none
     | none=>none
   | x=>(j0 G S x).map (·,S.objs)
 | .pick c a b=>match C2 (j0 G S c) with
   | some (.bool t)=>(if t then j0 G S a else j0 G S b).map (·,S.objs)
   | _=>none
 | .binOp op t x y _=>match C2 (j0 G S x),C2 (j0 G S y) with
   | some (.bool b),some (.bool c)=>if tu P t=true/\(op=.eql\/op=.neq) then some (gJ (.bool (if op=.eql then b==c else b != c)),S.objs) else none
   | some v,some u=>(vM op v u).map (gJ ·,S.objs)
   | _,_=>BP P G S op t x y
 | .makeFunc fn first cs=>if first.toList=[] then match Y2 G S cs.toList with
  | some ds=>(uE ds).map λcaps=>(.one (.fn fn caps),S.objs)
  | none=>none
   else if cs.toList=[] then match Y2 G S first.toList with
    | some ds=>(mo ds).map λl=>(.one (.im (.bf fn l)),S.objs)
    | none=>none
   else none
 | .unOp op _ x=>match C2 (j0 G S x) with
   | some v=>(pK op v).map (gJ ·,S.objs)
   | none=>none
 | .convert s t x=>match C2 (j0 G S x),wS P t,wS P s with
   | some (.int _ n),some k',some _=>some (gJ (.int k' (k'.wrap n)),S.objs)
   | _,_,_=>none
 | .load t x=>match j0 G S x,aq P t,lR P t with
   | some (.one p),some sz,some ag=>match kF S.objs p sz with
     | some l=>(dV ag l).map (·,S.objs)
     | none=>none
   | _,_,_=>none
 | .store t x y=>match j0 G S x,j0 G S y,aq P t with
   | some (.one p),some d,some sz=>match d.cells with
     | some l=>if l.length=sz then (kE S.objs p l).map (.tup [],·) else none
     | none=>none
   | _,_,_=>none
 | .fieldAddr t x f=>match j0 G S x,AD P t f with
   | some (.one p),some off=>if bF p S.objs=true then (sq p off).map (.one ·,S.objs) else none
   | _,_=>none
 | .indexAddr t x y=>match j0 G S x,C2 (j0 G S y) with
   | some (.one p),some (.int _ i)=>match X3 P t with
     | some e=>match aq P e with
       | some sz=>(nT S.objs p i sz).map (.one ·,S.objs)
       | none=>none
     | none=>match AF P t with
       | some (n,e)=>match aq P e with
         | some sz=>if 0<=i/\i<n/\bF p S.objs=true then (sq p (i.toNat*sz)).map (.one ·,S.objs) else none
         | none=>none
       | none=>none
   | _,_=>none
 | .field t x f=>match j0 G S x,qM P t f with
   | some (.agg l),some (off,sz,g)=>if off+sz<=l.length then (dV g ((l.drop off).take sz)).map (·,S.objs) else none
   | _,_=>none
 | .extract x i=>match j0 G S x with
   | some (.tup l)=>(l[i]?).map (·,S.objs)
   | _=>none
 | .nilCheck x=>match j0 G S x with
   | some (.one (.im (.fn (.func f) caps)))=>some (.one (.im (.fn (.func f) caps)),S.objs)
   | some (.one (.fn (.func f) caps))=>some (.one (.fn (.func f) caps),S.objs)
   | some (.one c)=>if bF c S.objs=true then some (.one c,S.objs) else none
   | _=>none
 | .box _ x=>match j0 G S x with
   | some d=>d.cells.map λl=>(.one (.ptr S.objs.length 0),S.objs++[.row l])
   | none=>none
 | .alloc t=>match E2 P t with
   | some l=>if l.all w8=true then some (.one (.ptr (S.objs.length+(zcells l S.objs.length).2.length) 0),S.objs++(zcells l S.objs.length).2++[.row (zcells l S.objs.length).1]) else none
   | none=>none
 | .build t ps=>match E2 P t,l5 P t,O5 G S ps.toList with
   | some z,some pl,some qs=>if z.all w8=true then (bb (pl[·]?) (z.map Z5) qs).map (.agg ·,S.objs) else none
   | _,_,_=>none
 | .buildSlice t n ps=>match X3 P t with
   | some e=>match aq P e,E2 P e,O5 G S ps.toList with
     | some sz,some z,some qs=>if 0<sz/\z.length=sz/\z.all w8=true/\n*sz<=16777216 then
      (bb (λi=>some (i*sz,sz)) (List.replicate (n*sz) .dead) qs).map λr=>(.one (.vec S.objs.length 0 0 n),S.objs++[.vec sz (dj sz r n) 0 false])
       else none
     | _,_,_=>none
   | none=>none
 | .slice t x lo hi none=>match j0 G S x,X3 P t,rb G S lo,rb G S hi with
   | some (.one c),some e,some il,some ih=>match aq P e with
     | some sz=>(C5 S.objs c (il.getD 0) ih sz).map (.one ·,S.objs)
     | none=>none
   | _,_,_,_=>none
 | .call c=>match c.callee with
   | .builtin b=>gq P G S b c.args.toList c.argTypes.toList
   | _=>none
 | .makeMap t r=>gh P G S t r
 | .lookup t m k ok=>match j0 G S m with
   | some (.one (.im _))=>gi P G S t m k ok
   | _=>jA P G S t m k ok
 | .range t x=>nS P G S t x
 | .entry it=>nU G S it
 | .index t x i=>jC P G S t x i
 | .mapUpdate t m k v=>Y5 P G S t m k v
 | .insert t m k v=>Y5 P G S t m k v
 | _=>none
theorem kH {P:Program} {G:IK} {S:DS} {o:Oper} {c:Call} {b:Builtin} {d:DV} {objs':List DObj} (ho:o.op=.call c) (hb:c.callee=.builtin b)
 (h:gq P G S b c.args.toList c.argTypes.toList=some (d,objs')):OpV P G o S d objs':=by
 obtain⟨cal,args,ts⟩:=c;simp only at hb h;subst hb;unfold gq at h;split at h
 ·rename_i x t hx ht;have e1:args=#[x]:=Array.toList_inj.1 hx;have e2:ts=#[t]:=Array.toList_inj.1 ht;subst e1;subst e2;split at h
  ·rename_i h1 h2;simp only[Option.map_eq_some_iff,Prod.mk.injEq] at h;obtain⟨w,h5,rfl,rfl⟩:=h;exact Cq ho (E7 h2) h1 h5
  ·rename_i h1 h2;split at h
   ·rename_i ke hke;split at h
    ·simp only[Option.map_eq_some_iff,Prod.mk.injEq] at h;obtain⟨w,h5,rfl,rfl⟩:=h;exact qt (k:=ke.1) (e:=ke.2) ho hke h1 h5
    ·simp only[Option.map_eq_some_iff,Prod.mk.injEq] at h;obtain⟨w,h5,rfl,rfl⟩:=h;exact sV (k:=ke.1) (e:=ke.2) ho hke h1 h5
   ·cases h
  ·cases h
 ·rename_i m k t u hx ht;have e1:args=#[m,k]:=Array.toList_inj.1 hx;have e2:ts=#[t,u]:=Array.toList_inj.1 ht;subst e1;subst e2;exact ta ho h
 ·rename_i x t hx ht;have e1:args=#[x]:=Array.toList_inj.1 hx;have e2:ts=#[t]:=Array.toList_inj.1 ht;subst e1;subst e2;exact wv ho h
 ·rename_i _ _ x y hx;have e1:args=#[x,y]:=Array.toList_inj.1 hx;subst e1;split at h
  ·rename_i h1 h2;split at h
   ·rename_i hk;subst hk;cases h;exact Cp ho h1 h2
   ·cases h
  ·cases h
 ·rename_i _ _ x y hx;have e1:args=#[x,y]:=Array.toList_inj.1 hx;subst e1;split at h
  ·rename_i h1 h2;split at h
   ·rename_i hk;subst hk;cases h;exact Co ho h1 h2
   ·cases h
  ·cases h
 ·cases h
theorem N6 {P:Program} {G:IK} {S:DS} {o:Oper} {d:DV} {objs':List DObj} (h:Y4 P G S o.op o.type=some (d,objs')):OpV P G o S d objs':=by
 obtain⟨dst,op,ty,pos,aft,grd⟩:=o;simp only at h;unfold Y4 at h;split at h
 ·simp only[Option.map_eq_some_iff,Prod.mk.injEq] at h;obtain⟨d',h1,rfl,rfl⟩:=h;exact qp (.inl rfl) h1
 ·split at h
  ·split at h
   ·split at h
    ·cases h;exact Cn _ rfl
    ·cases h
   ·cases h
  ·simp only[Option.map_eq_some_iff,Prod.mk.injEq] at h;obtain⟨d',h1,rfl,rfl⟩:=h;exact qp (.inr rfl) h1
 ·split at h
  ·rename_i t ht;simp only[Option.map_eq_some_iff,Prod.mk.injEq] at h;obtain⟨d',h1,rfl,rfl⟩:=h;exact Af rfl ht h1
  ·cases h
 ·split at h
  ·rename_i b c hb hc;split at h
   ·rename_i hcond;cases h;exact sY rfl (qN hcond.1) hcond.2 hb hc
   ·cases h
  ·rename_i v u _ hv hu;simp only[Option.map_eq_some_iff,Prod.mk.injEq] at h;obtain⟨w,h1,rfl,rfl⟩:=h;exact Cs rfl hv hu h1
  ·exact sk rfl h
 ·split at h
  ·rename_i hf;split at h
   ·rename_i ds hds;simp only[Option.map_eq_some_iff,Prod.mk.injEq] at h;obtain⟨caps,h1,rfl,rfl⟩:=h;have hfe:=Array.toList_inj.1 (hf.trans (List.toList_toArray (as:=[])).symm);subst hfe;exact oh rfl hds h1
   ·cases h
  ·split at h
   ·rename_i hcs;split at h
    ·rename_i ds hds;simp only[Option.map_eq_some_iff,Prod.mk.injEq] at h;obtain⟨l,h1,rfl,rfl⟩:=h;have hce:=Array.toList_inj.1 (hcs.trans (List.toList_toArray (as:=[])).symm);subst hce;exact lL rfl hds h1
    ·cases h
   ·cases h
 ·split at h
  ·rename_i v hv;simp only[Option.map_eq_some_iff,Prod.mk.injEq] at h;obtain⟨w,h1,rfl,rfl⟩:=h;exact EC rfl hv h1
  ·cases h
 ·split at h
  ·rename_i h1 h2 h3;cases h;exact Ah rfl ⟨_,lQ h3⟩ (lQ h2) h1
  ·cases h
 ·split at h
  ·rename_i h1 h2 h3;split at h
   ·rename_i l hl;simp only[Option.map_eq_some_iff,Prod.mk.injEq] at h;obtain⟨w,h4,rfl,rfl⟩:=h;exact Ag rfl h2 h3 h1 hl h4
   ·cases h
  ·cases h
 ·split at h
  ·rename_i h1 h2 h3;split at h
   ·rename_i l hl;split at h
    ·rename_i hsz;simp only[Option.map_eq_some_iff,Prod.mk.injEq] at h;obtain⟨w,h4,rfl,rfl⟩:=h;exact wn rfl h3 h1 h2 hl hsz h4
    ·cases h
   ·cases h
  ·cases h
 ·split at h
  ·rename_i h1 h2;split at h
   ·rename_i ha;simp only[Option.map_eq_some_iff,Prod.mk.injEq] at h;obtain⟨w,h4,rfl,rfl⟩:=h;exact lM rfl h2 h1 ha h4
   ·cases h
  ·cases h
 ·split at h
  ·rename_i h1 h2;split at h
   ·rename_i e he;split at h
    ·rename_i sz hs;simp only[Option.map_eq_some_iff,Prod.mk.injEq] at h;obtain⟨w,h4,rfl,rfl⟩:=h;exact wq rfl (E7 he) hs h1 h2 h4
    ·cases h
   ·split at h
    ·rename_i n e he;split at h
     ·rename_i sz hs;split at h
      ·rename_i hc;simp only[Option.map_eq_some_iff,Prod.mk.injEq] at h;obtain⟨w,h4,rfl,rfl⟩:=h;exact ol rfl (uh he) hs h1 h2 hc.1 hc.2.1 hc.2.2 h4
      ·cases h
     ·cases h
    ·cases h
  ·cases h
 ·split at h
  ·rename_i h1 h2;split at h
   ·rename_i hle;simp only[Option.map_eq_some_iff,Prod.mk.injEq] at h;obtain⟨w,h4,rfl,rfl⟩:=h;unfold qM at h2;split at h2
    ·rename_i fs hu;split at h2
     ·rename_i y hy;split at h2
      ·rename_i s g hs hg;cases h2;exact wr rfl hu hy rfl rfl hs hg h1 hle h4
      ·cases h2
     ·cases h2
    ·cases h2
   ·cases h
  ·cases h
 ·split at h
  ·rename_i h1;simp only[Option.map_eq_some_iff,Prod.mk.injEq] at h;obtain⟨w,h4,rfl,rfl⟩:=h;exact qu rfl h1 h4
  ·cases h
 ·split at h
  ·rename_i h1;cases h;exact bW rfl h1 (.inr (.inl ⟨_,_,rfl⟩))
  ·rename_i h1;cases h;exact bW rfl h1 (.inr (.inr ⟨_,_,rfl⟩))
  ·rename_i h1;split at h
   ·rename_i ha;cases h;exact bW rfl h1 (.inl ha)
   ·cases h
  ·cases h
 ·split at h
  ·rename_i h1;simp only[Option.map_eq_some_iff,Prod.mk.injEq] at h;obtain⟨w,h4,rfl,rfl⟩:=h;exact Cr rfl h1 h4
  ·cases h
 ·split at h
  ·rename_i h1;split at h
   ·rename_i hp;cases h;exact wx rfl h1 hp
   ·cases h
  ·cases h
 ·split at h
  ·rename_i h1 h2 h3;split at h
   ·rename_i hp;simp only[Option.map_eq_some_iff,Prod.mk.injEq] at h;obtain⟨w,h4,rfl,rfl⟩:=h;exact ww rfl h1 hp h2 h3 h4
   ·cases h
  ·cases h
 ·split at h
  ·rename_i e he;split at h
   ·rename_i h1 h2 h3;split at h
    ·rename_i hc;simp only[Option.map_eq_some_iff,Prod.mk.injEq] at h;obtain⟨w,h4,rfl,rfl⟩:=h;exact li rfl (E7 he) h1 h2 hc.1 hc.2.1 hc.2.2.1 hc.2.2.2 h3 h4
    ·cases h
   ·cases h
  ·cases h
 ·split at h
  ·rename_i h1 h2 h3 h4;split at h
   ·rename_i sz hs;simp only[Option.map_eq_some_iff,Prod.mk.injEq] at h;obtain⟨w,h5,rfl,rfl⟩:=h;exact wo rfl (E7 h2) hs h1 h3 h4 h5
   ·cases h
  ·cases h
 ·split at h
  ·rename_i b hb;exact kH rfl hb h
  ·cases h
 ·exact qq rfl h
 ·split at h
  ·exact qr rfl h
  ·exact sU rfl h
 ·exact wp rfl h
 ·exact wu rfl h
 ·exact sW rfl h
 ·exact eC (.inl rfl) h
 ·exact eC (.inr rfl) h
 ·cases h
def C1 (P:Program) (f:FuncId):Prop:=∀ args w,(callFunc f args).run P w=.ok (.enter f args) w
inductive Kind where
 | call (x:Operand) (xs:List Operand)
 | append (t:TypeId) (x y:Operand)
 | makeSlice (t:TypeId) (x y:Operand)
 | next (it:Operand)
 | rng (t:TypeId) (x:Operand)
 | eqNil (op:BinOp) (t:TypeId) (x:Operand) (u:TypeId)
 | plain
def F5:Op->Kind
 | .call c=>match c.callee,c.args.toList,c.argTypes.toList with
   | .value x,xs,_=>.call x xs
   | .builtin .append,[x,y],[t,u]=>if t=u then .append t x y else .plain
   | _,_,_=>.plain
 | .makeSlice t x y=>.makeSlice t x y
 | .next it false=>.next it
 | .range t x=>.rng t x
 | .binOp .eql t x (.const (.slice none 0 0)) u=>.eqNil .eql t x u
 | .binOp .neq t x (.const (.slice none 0 0)) u=>.eqNil .neq t x u
 | _=>.plain
theorem T9 {op:Op} {x:Operand} {xs:List Operand} (h:F5 op=.call x xs):∃ ys ts,op=.call { callee:=.value x,args:=ys,argTypes:=ts }/\ys.toList=xs:=by
 unfold F5 at h;split at h
 ·rename_i c;obtain⟨cal,args,ts⟩:=c;split at h
  ·rename_i hc;simp only at hc;subst hc;cases h;exact⟨_,_,rfl,rfl⟩
  ·split at h<;>cases h
  ·cases h
 ·cases h
 ·cases h
 ·cases h
 ·cases h
 ·cases h
 ·cases h
theorem er {op:Op} {t:TypeId} {x y:Operand} (h:F5 op=.append t x y):op=.call { callee:=.builtin .append,args:=#[x,y],argTypes:=#[t,t] }:=by
 unfold F5 at h;split at h
 ·rename_i c;obtain⟨cal,args,ts⟩:=c;split at h
  ·cases h
  ·rename_i h1 h2 h3;simp only at h1 h2 h3;subst h1;split at h
   ·rename_i e;subst e;cases h;rw[show args=_ from Array.toList_inj.1 (h2.trans List.toList_toArray.symm),show ts=_ from Array.toList_inj.1 (h3.trans List.toList_toArray.symm)]
   ·cases h
  ·cases h
 ·cases h
 ·cases h
 ·cases h
 ·cases h
 ·cases h
 ·cases h
theorem gS {op:Op} {t:TypeId} {x y:Operand} (h:F5 op=.makeSlice t x y):op=.makeSlice t x y:=by
 unfold F5 at h;split at h
 ·split at h
  ·cases h
  ·split at h<;>cases h
  ·cases h
 ·cases h;rfl
 ·cases h
 ·cases h
 ·cases h
 ·cases h
 ·cases h
theorem iK {op:Op} {it:Operand} (h:F5 op=.next it):op=.next it false:=by
 unfold F5 at h;split at h
 ·split at h
  ·cases h
  ·split at h<;>cases h
  ·cases h
 ·cases h
 ·cases h;rfl
 ·cases h
 ·cases h
 ·cases h
 ·cases h
theorem rG {op:Op} {t:TypeId} {x:Operand} (h:F5 op=.rng t x):op=.range t x:=by
 unfold F5 at h;split at h
 ·split at h
  ·cases h
  ·split at h<;>cases h
  ·cases h
 ·cases h
 ·cases h
 ·cases h;rfl
 ·cases h
 ·cases h
 ·cases h
theorem nE {op:Op} {b:BinOp} {t u:TypeId} {x:Operand} (h:F5 op=.eqNil b t x u):op=.binOp b t x (.const (.slice none 0 0)) u/\(b=BinOp.eql\/b=BinOp.neq):=by
 unfold F5 at h;split at h
 ·split at h
  ·cases h
  ·split at h<;>cases h
  ·cases h
 ·cases h
 ·cases h
 ·cases h
 ·cases h;exact⟨rfl,.inl rfl⟩
 ·cases h;exact⟨rfl,.inr rfl⟩
 ·cases h
theorem tf {P:Program} {G:IK} {S:DS} {o:Oper} {op:BinOp} {t e u:TypeId} {x:Operand} {l:List (List IC)} {K:DS->Prop} (ho:o.op=.binOp op t x (.const (.slice none 0 0)) u) (hop:op=.eql\/op=.neq) (ht:P.underlying t=some (.slice e))
 (hx:j0 G S x=some (.one (.im (.sl l)))) (h:∀ b:Bool,(b=true->l=[])->K ({ S with objs:=S.objs }.put o.dst (.one (.im (.raw (.bool (if op=BinOp.eql then b else !b))))))):OpT P G o S K:=by
 intro ro a M hr;have e1:=i6 hr hx;generalize hv:a.eval x=v at e1;have hval:∃ p n c,v=.slice p n c/\(p.isNone=true->l=[]):=by
  cases e1 with
  | one _ _ hp=>cases hp with
    | im _ _ hp=>cases hp with
      | slnil=>exact⟨none,0,0,rfl,λ_=>rfl⟩
      | sl=>exact⟨_,_,_,rfl,λh=>by simp at h⟩
      | slz=>exact⟨_,_,_,rfl,λh=>by simp at h⟩
 obtain⟨p,n,cc,rfl,hp⟩:=hval;have heq:(Op.equal t (.slice p n cc) (.slice none 0 0)).run P M.w=.ok p.isNone M.w:=by
  have key:∀ d,(Op.equalIn (d+1) t (.slice p n cc) (.slice none 0 0)).run P M.w=.ok p.isNone M.w:=λd=>by
   simp only[Op.equalIn,Sem.run_bind,e8 ht,Result.andThen_ok];cases p<;>rfl
  exact key 9999
 have hn:a.eval (.const (.slice none 0 0))=.slice none 0 0:=rfl;have hrun:(execOp a.eval o).run P M.w=.ok (.value (.bool (if op=.eql then p.isNone else !p.isNone))) M.w:=by
  simp only[execOp,ho,hv,hn,Sem.run_bind,R8 (.inr (.inr (.inl ⟨_,_,_,rfl⟩))),Result.andThen_ok];rcases hop with rfl|rfl
  ·have h5:binOp .eql t (.slice p n cc) (.slice none 0 0)=(do pure (.bool (<- Op.equal t (.slice p n cc) (.slice none 0 0)))):=rfl;simp only[h5,Sem.run_bind,heq,Result.andThen_ok];rfl
  ·have h5:binOp .neq t (.slice p n cc) (.slice none 0 0)=(do pure (.bool (!(<- Op.equal t (.slice p n cc) (.slice none 0 0))))):=rfl;simp only[h5,Sem.run_bind,heq,Result.andThen_ok];rfl
 have hp2:=hr.put (d:=.one (.im (.raw (.bool (if op=.eql then p.isNone else !p.isNone))))) hr.m (Ext.refl M) (.one _ _ (.im _ _ (.raw _ rfl))) o.dst;exact F9 hrun ⟨_,M,rfl,hp2,Ext.refl M,p8 _ _ _,by rw[hr.ob];exact h _ hp⟩
def CallE (P:Program) (G:IK) (f:FuncId) (args:List DV) (objs:List DObj) (Q:DV->List DObj->Prop) (_t:Tok Q):Prop:=DCall P G f args objs Q
def lk (b:Bool) (A B:Prop) (_t:Tok (A/\B)):Prop:=(b=true->A)/\(b=false->B)
theorem fj (A B:Prop) (t:Tok (A/\B)):lk true A B t=A:=by simp[lk]
theorem dw (A B:Prop) (t:Tok (A/\B)):lk false A B t=B:=by simp[lk]
theorem j7 {b:Bool} {A B:Prop} {t:Tok (A/\B)} (h1:b=true->A) (h2:b=false->B):lk b A B t:=⟨h1,h2⟩
attribute [simp] fj dw
inductive Out where
 | val (d:DV) (objs:List DObj)
 | call (f:FuncId) (args:List DV)
 | cond (p:Prop) (d:DV) (objs:List DObj)
 | yield (o:Nat) (args:List DV)
 | iter (o:Nat) (left:List (List Value×List IC))
 | nilq (l:List (List IC)) (neg:Bool)
 | gen (p:(DV->List DObj->Prop)->Prop)
 | bad
def AU:Option (DV×List DObj)->Out
 | some (d,objs)=>.val d objs
 | none=>.bad
def Dj:Option (FuncId×List DV)->List DV->Out
 | some (f,caps),as=>.call f (as++caps)
 | none,_=>.bad
def Fr (p:Prop):Option (DC×List DObj)->Out
 | some (d,objs)=>.cond p (.one d) objs
 | none=>.bad
def EW:DC->Option Nat
 | .vec _ _ _ len=>some len
 | _=>none
def cB (P:Program) (G:IK) (S:DS) (x:Operand) (xs:List Operand):Out:=match j0 G S x,Y2 G S xs with
 | some (.one (.yld o)),some as=>.yield o as
 | some (.one (.im (.bf (.func f) l))),some as=>.gen λC=>C1 P f/\CallE P G f (l.map (λc=>DV.one (.im c))++as) S.objs C ⟨⟩
 | some d,some as=>Dj (E5 d) as
 | _,_=>.bad
def X5 (P:Program) (G:IK) (S:DS) (t:TypeId) (x y:Operand):Out:=match j0 G S x,j0 G S y,X3 P t with
 | some (.one s),some (.one c),some e=>match aq P e,au P e,E2 P e,dg S.objs c,EW s with
   | some sz,some bytes,some z,some xs,some len=>Fr (0<sz/\z.length=sz/\(∀ e∈xs,e.length=sz)/\(len+xs.length)*bytes<=140737488355328/\len+xs.length<=9223372036854775807) (bJ S.objs s xs sz)
   | _,_,_,_,_=>.bad
 | _,_,_=>.bad
def cz (P:Program) (G:IK) (S:DS) (t:TypeId) (x y:Operand):Out:=match C2 (j0 G S x),C2 (j0 G S y),X3 P t with
 | some (.int .i64 a),some (.int .i64 b),some e=>match aq P e,au P e,E2 P e with
   | some sz,some bytes,some z=>.cond (0<sz/\z.length=sz/\z.all w8=true/\0<=a/\b=a/\a.toNat*bytes<=140737488355328/\a.toNat<=9223372036854775807)
    (.one (.vec S.objs.length 0 0 a.toNat)) (S.objs++[DObj.vec sz (List.replicate a.toNat (z.map Z5)) 0 false])
   | _,_,_=>.bad
 | _,_,_=>.bad
def cw (G:IK) (S:DS) (it:Operand):Out:=match j0 G S it with
 | some (.one (.itr o))=>match S.objs[o]? with
   | some (.iter left _)=>.iter o left
   | some (.liter b seen c)=>match X8 b c S.objs with
     | some (l,es)=>.gen λC=>((∀ s∈l,s∈seen)->C (.tup [.one (.im (.raw (.bool false)))]) S.objs) /\
      ∀ (i s:Nat) (x:List Value×List DC),es[i]?=some x->l[i]?=some s->s∉seen->C (.tup [.one (.im (.raw (.bool true))),D7 (x.1.map Z5),D7 x.2]) (S.objs.set o (.liter b (seen++[s]) c))
     | none=>.bad
   | _=>.bad
 | _=>.bad
def yl:List CK->Bool
 | .st _ _ _ :: _=>true
 | _=>false
theorem Br (l:List Nat) (c b:Nat) (r:List CK):yl (.st l c b :: r)=true:=rfl
theorem yj (q:IntKind) (r:List CK):yl (.int q :: r)=false:=rfl
theorem uZ (r:List CK):yl (.bool :: r)=false:=rfl
attribute [simp] Br yj uZ
theorem rK {ks:List CK} (h:yl ks=false):plainK ks:=by
 unfold plainK;split
 ·cases h
 ·trivial
def ft (P:Program) (G:IK) (S:DS) (t:TypeId) (x:Operand) (r:Option (DV×List DObj)):Out:=match j0 G S x,bp P t with
 | some (.one (.map o)),some _=>match S.objs[o]? with
   | some (.map ks es)=>if yl ks=false then .gen λC=>∀ (l:List Nat) (c b:Nat),l.length=es.length->l.Nodup->(∀ s∈l,s<c)->C (.one (.itr S.objs.length)) (S.objs.set o (.map (.st l c b :: ks) es)++[.liter b [] c]) else .bad
   | _=>.bad
 | _,_=>AU r
def fu (P:Program) (G:IK) (S:DS) (op:BinOp) (t:TypeId) (x:Operand) (r:Option (DV×List DObj)):Out:=match j0 G S x,X3 P t with
 | some (.one (.im (.sl l))),some _=>.nilq l (decide (op=.neq))
 | _,_=>AU r
def H5 (P:Program) (G:IK) (S:DS) (op:Op) (ty:TypeId):Kind->Out
 | .call x xs=>cB P G S x xs
 | .append t x y=>X5 P G S t x y
 | .makeSlice t x y=>cz P G S t x y
 | .next it=>cw G S it
 | .rng t x=>ft P G S t x (Y4 P G S op ty)
 | .eqNil b t x _=>fu P G S b t x (Y4 P G S op ty)
 | .plain=>AU (Y4 P G S op ty)
def T1 (P:Program) (G:IK) (S:DS) (op:Op) (ty:TypeId):Out:=H5 P G S op ty (F5 op)
def Next (P:Program) (G:IK) (objs:List DObj) (x:Out) (C:DV->List DObj->Prop) (_t:Tok C):Prop:=match x with
 | .val d objs'=>C d objs'
 | .call f as=>C1 P f/\CallE P G f as objs C ⟨⟩
 | .cond p d objs'=>p/\C d objs'
 | .yield o as=>lc P G o as objs C ⟨⟩
 | .iter o left=>(left=[]->C (.tup [.one (.im (.raw (.bool false)))]) objs) /\
  ∀ (i:Nat) (x:List Value×List IC),left[i]?=some x->C (.tup [.one (.im (.raw (.bool true))),D7 (x.1.map Z5),D7 (x.2.map .im)]) (objs.set o (.iter (left.eraseIdx i) (some x)))
 | .nilq l neg=>∀ b:Bool,(b=true->l=[])->C (.one (.im (.raw (.bool (b != neg))))) objs
 | .gen p=>p C
 | .bad=>False
def ld (w:Option Bool) (A B:Prop) (_t:Tok (A/\B)):Prop:=match w with
 | some b=>lk b A B ⟨⟩
 | none=>False
section
variable (P:Program) (G:IK) (objs:List DObj) (C:DV->List DObj->Prop) (t:Tok C)
theorem Ak (d:DV) (objs':List DObj):Next P G objs (.val d objs') C t=C d objs':=rfl
theorem wF (f:FuncId) (as:List DV):Next P G objs (.call f as) C t=(C1 P f/\CallE P G f as objs C ⟨⟩):=rfl
theorem wE (p:Prop) (d:DV) (objs':List DObj):Next P G objs (.cond p d objs') C t=(p/\C d objs'):=rfl
theorem tg (o:Nat) (as:List DV):Next P G objs (.yield o as) C t=lc P G o as objs C ⟨⟩:=rfl
theorem wD (o:Nat) (left:List (List Value×List IC)):Next P G objs (.iter o left) C t=((left=[]->C (.tup [.one (.im (.raw (.bool false)))]) objs) /\
 ∀ (i:Nat) (x:List Value×List IC),left[i]?=some x->C (.tup [.one (.im (.raw (.bool true))),D7 (x.1.map Z5),D7 (x.2.map .im)]) (objs.set o (.iter (left.eraseIdx i) (some x)))):=rfl
theorem wC (l:List (List IC)) (neg:Bool):Next P G objs (.nilq l neg) C t=(∀ b:Bool,(b=true->l=[])->C (.one (.im (.raw (.bool (b != neg))))) objs):=rfl
theorem Am (p:(DV->List DObj->Prop)->Prop):Next P G objs (.gen p) C t=p C:=rfl
theorem An:Next P G objs .bad C t=False:=rfl
theorem wh (A B:Prop) (t:Tok (A/\B)):ld (some true) A B t=A:=fj A B ⟨⟩
theorem sT (A B:Prop) (t:Tok (A/\B)):ld (some false) A B t=B:=dw A B ⟨⟩
theorem wi (b:Bool) (A B:Prop) (t:Tok (A/\B)):ld (some b) A B t=lk b A B ⟨⟩:=rfl
theorem wj (A B:Prop) (t:Tok (A/\B)):ld none A B t=False:=rfl
end
attribute [simp] fu wC Am ft X8 mo cw wD Ak wF wE tg An wh sT wi wj AU Dj Fr EW T1 H5 cB X5 cz
def qo (P:Program) (G:IK) (dsts:List (Option Tmp)):List Oper->DS->(K:DS->Prop)->Tok K->Prop
 | [],S,K,_=>K S
 | o :: l,S,K,tk=>ld (C0 dsts S o)
  (Next P G S.objs (T1 P G S o.op o.type) (λd objs'=>qo P G dsts l (DS.put { S with objs:=objs' } o.dst d) K tk) ⟨⟩)
  (qo P G dsts l (S.put o.dst (.tup [])) K tk) ⟨⟩
section
variable {P:Program} {G:IK} {n:Cx} {S:DS} {Q:Exit->DS->Prop}
theorem fh {dsts:List (Option Tmp)} {l:List Oper} {o:Oper} {K:DS->Prop} {C:DV->List DObj->Prop}
 (hC:∀ d objs',C d objs'->RT P G dsts l (DS.put { S with objs:=objs' } o.dst d) K) (h1:Next P G S.objs (T1 P G S o.op o.type) C ⟨⟩):OpT P G o S (λS'=>RT P G dsts l S' K):=by
 unfold T1 at h1;generalize hk:F5 o.op=k at h1;cases k with
 | call x xs =>
   simp only[H5,cB] at h1;split at h1
   ·rename_i l as hd has;obtain⟨ys,ts,ho,rfl⟩:=T9 hk;refine wy ho hd has ?_;have hm:∀ (ob:Option DObj) (C':DV->List DObj->Prop),(∀ d objs',C d objs'->C' d objs')->P8 P G l as S.objs C ob->P8 P G l as S.objs C' ob:=λob C' hcc hy=>by
     unfold P8 at hy ⊢;split at hy
     ·obtain⟨y1,y2,y3,y4⟩:=hy;refine⟨y1,y2,y3,y4.mono λe S' hq=>?_⟩;cases e with
      | normal =>
        refine⟨hq.1,DT.mono hq.2 λe S'' hq'=>?_⟩;cases e<;>first|exact hcc _ _ hq'|exact hq'
      | _=>exact hq
     ·exact hy
    exact hm _ _ (λd objs' hk=>hC _ _ hk) h1
   ·rename_i f l as hd has;obtain⟨ys,ts,ho,rfl⟩:=T9 hk;exact wB ho hd has h1.1 (DCall.mono h1.2 λd objs' hk=>hC _ _ hk)
   ·rename_i d as _ _ hd has;generalize hc:E5 d=c at h1;cases c with
    | none=>exact h1.elim
    | some p =>
      obtain⟨f,caps⟩:=p;obtain⟨ys,ts,ho,rfl⟩:=T9 hk;exact Aj ho hd hc has h1.1 (DCall.mono h1.2 λd objs' hk=>hC _ _ hk)
   ·exact h1.elim
 | append t x y =>
   simp only[H5,X5] at h1;split at h1
   ·rename_i s c e hs hc he;split at h1
    ·rename_i sz bytes z xs len h1' h2 h3 h4 h5;generalize hd:bJ S.objs s xs sz=r at h1;cases r with
     | none=>exact h1.elim
     | some p =>
       obtain⟨d,objs'⟩:=p;obtain⟨⟨a1,a2,a3,a4,a6⟩,a5⟩:=h1;refine OpT.of_val (tc (er hk) (E7 he) h1' a1 h2 h3 a2 hs hc h4 a3 hd ?_ ?_) (hC _ _ a5)
       ·rintro o g off len' rfl;cases h5;exact a4
       ·rintro o g off len' rfl;cases h5;exact a6
    ·exact h1.elim
   ·exact h1.elim
 | makeSlice t x y =>
   simp only[H5,cz] at h1;split at h1
   ·rename_i a b e hx hy he;split at h1
    ·rename_i sz bytes z g1 g2 g3;obtain⟨⟨a1,a2,a3,a4,rfl,a6,a7⟩,a8⟩:=h1;obtain⟨m,rfl⟩:=Int.eq_ofNat_of_zero_le a4;simp only[Int.toNat_natCast] at a6 a7 a8;exact OpT.of_val (lK (gS hk) (E7 he) g1 a1 g2 g3 a2 a3 hx hy a6 a7) (hC _ _ a8)
    ·exact h1.elim
   ·exact h1.elim
 | next it =>
   simp only[H5,cw] at h1;split at h1
   ·rename_i oI hit;split at h1
    ·rename_i left cur hob;exact Ai (iK hk) hit hob (λe=>hC _ _ (h1.1 e)) (λi x hx=>hC _ _ (h1.2 i x hx))
    ·rename_i b seen c hob;split at h1
     ·rename_i l es hl;exact wz (iK hk) hit hob hl (λe=>hC _ _ (h1.1 e)) (λi s x hx hs hn=>hC _ _ (h1.2 i s x hx hs hn))
     ·exact h1.elim
    ·exact h1.elim
   ·exact h1.elim
 | rng t x =>
   simp only[H5,ft] at h1;split at h1
   ·rename_i oM kt hx ht;split at h1
    ·rename_i ks es hob;split at h1
     ·rename_i hs;exact td (rG hk) hx ht (rK hs) hob (λl c b h2 h3 h4=>hC _ _ (h1 l c b h2 h3 h4))
     ·exact h1.elim
    ·exact h1.elim
   ·generalize hd:Y4 P G S o.op o.type=r at h1;cases r with
    | none=>exact h1.elim
    | some p=>exact OpT.of_val (N6 hd) (hC _ _ h1)
 | eqNil b t x u =>
   simp only[H5,fu] at h1;obtain⟨hk1,hk2⟩:=nE hk;split at h1
   ·rename_i l e hx he;refine tf hk1 hk2 (E7 he) hx λc hc=>?_;have:=hC _ _ (h1 c hc);rcases hk2 with rfl|rfl
    ·simpa using this
    ·simpa using this
   ·generalize hd:Y4 P G S o.op o.type=r at h1;cases r with
    | none=>exact h1.elim
    | some p=>exact OpT.of_val (N6 hd) (hC _ _ h1)
 | plain =>
   simp only[H5] at h1;generalize hd:Y4 P G S o.op o.type=r at h1;cases r with
   | none=>exact h1.elim
   | some p=>exact OpT.of_val (N6 hd) (hC _ _ h1)
theorem N9 {dsts:List (Option Tmp)}:∀ (l:List Oper) (S:DS) (K:DS->Prop),qo P G dsts l S K ⟨⟩->RT P G dsts l S K
 | [],S,K,h=>h
 | o :: l,S,K,h=>by
   rw[qo] at h;generalize hb:C0 dsts S o=r at h;cases r with
   | none=>exact h.elim
   | some b=>exact⟨b,hb,λe=>fh (λd objs' hk=>N9 l _ K hk) (h.1 e),λe=>N9 l _ K (h.2 e)⟩
attribute [simp] fj dw
theorem tp {P:Program} {G:IK} {f:FuncId} {args:List DV} {objs:List DObj} {d:DV} {Q:DV->List DObj->Prop} (h:∀ objs,DCall P G f args objs (λd' objs'=>d'=d/\objs'=objs)) (hq:Q d objs):DCall P G f args objs Q:=
 (h objs).mono λd' objs' ⟨h1,h2⟩=>by rw[h1,h2];exact hq
theorem gC {dsts:List (Option Tmp)} {K K':DS->Prop}:∀ {l:List Oper} {S:DS},RT P G dsts l S K->(∀ S,K S->K' S)->RT P G dsts l S K'
 | [],S,h,hk=>hk S h
 | _ :: _,_,⟨b,h1,h2,h3⟩,hk=>⟨b,h1,λe=>λro a M hr=>Oper.wpIn_mono (Q:=λ_ _ _=>False) (λ_ _ ⟨S',M',h4,h5,h6,h8,h7⟩=>⟨S',M',h4,h5,h6,h8,gC h7 hk⟩) (h2 e ro a M hr),λe=>gC (h3 e) hk⟩
def As (l:List (Nat×DV)):List Nat->List (Nat×DV)
 | []=>[]
 | t :: r=>match n9 l t with
   | some d=>(t,d) :: As l r
   | none=>As l r
theorem dA {l:List (Nat×DV)}:∀ {ks:List Nat} {t:Nat} {d:DV},n9 (As l ks) t=some d->n9 l t=some d
 | [],t,d,h=>by simp[As,n9] at h
 | k :: r,t,d,h=>by
   simp only[As] at h;split at h
   ·rename_i e he;simp only[n9] at h;split at h
    ·rename_i hk;subst hk;cases h;exact he
    ·exact dA h
   ·exact dA h
def DS.keep (S:DS) (ks:List Nat):DS:={ S with tmps:=As S.tmps ks }
theorem Weak.keep {ks:List Nat}:Weak G n S (S.keep ks):=Weak.tmps λ_ _ h=>dA h
theorem A7 {id:Nat} {l:List Oper} (ks:List Nat) (h:qo P G (l.map (·.dst)) l S (λS'=>At Q .normal ⟨⟩ (S'.keep ks)) ⟨⟩):DT P G n (.region id l.toArray false) S Q:=by
 have h1:=iy (id:=id) (n:=n) (Q:=λe S'=>e=.normal/\Q .normal (S'.keep ks)) (gC (N9 l S _ h) (λS' h=>⟨rfl,h⟩));intro hn hd a M hr;refine wpIn_mono (h1 hn hd a M hr) ?_;rintro e a' w' ⟨S',M',rfl,hr',he,hnd,rfl,hq⟩;obtain⟨M2,w2,r2,e2⟩:=Weak.keep (G:=G) (n:=n) (S:=S') (ks:=ks) (by rw[<- hr'.ob];exact he.len) a' M' hr';exact⟨_,M2,w2,r2,he.trans e2,hnd,hq⟩
theorem CallE.pure {f:FuncId} {args:List DV} {objs:List DObj} {d:DV} {Q:DV->List DObj->Prop} {t:Tok Q} (h:∀ objs,DCall P G f args objs (λd' objs'=>d'=d/\objs'=objs)) (hq:Q d objs):CallE P G f args objs Q t:=tp h hq
theorem CallE.any {f:FuncId} {args:List DV} {objs:List DObj} {Q Q0:DV->List DObj->Prop} {t:Tok Q} (h:DCall P G f args objs Q0) (hq:∀ d objs',Q0 d objs'->Q d objs'):CallE P G f args objs Q t:=h.mono hq
theorem Weak.of_keep {S':DS} (ks:List Nat) (h:S.keep ks=S'):Weak G n S S':=by
 subst h;exact Weak.keep
theorem Weak.of_drop {S':DS} (ks:List Nat) (m:Nat) (hm:m<=S.objs.length) (hn:n.n<=m) (h:(S.keep ks).drop m=S'):Weak G n S S':=by
 subst h;exact Weak.keep.trans (Weak.drop hm hn)
def l6 (l:List (List IC)):List (List DC):=l.map (·.map .im)
theorem Bt:l6 []=[]:=rfl
theorem eR (l r:List (List IC)):l6 (l++r)=l6 l++l6 r:=by simp[l6]
theorem o7 (l:List (List IC)):(l6 l).length=l.length:=by simp[l6]
theorem yx (m:Nat) (objs:List DObj) (c:IC):fz m objs (.im c)=.im c:=rfl
theorem uO (m:Nat) (objs:List DObj) (l:List IC):(l.map .im).map (fz m objs)=l.map .im:=by simp[yx]
theorem DJ (m:Nat) (objs:List DObj) (l:List (List IC)):(l6 l).map (·.map (fz m objs))=l6 l:=by
 simp[l6,yx]
theorem jt (k m:Nat) (objs:List DObj):∀ (l:List IC),C3 (frz (k+1) m objs) (l.map .im)=some l
 | []=>rfl
 | c :: r=>by rw[List.map_cons,C3,jt k m objs r];rfl
theorem O9 (k m:Nat) (objs:List DObj):∀ (l:List (List IC)),C3 (C3 (frz (k+1) m objs)) (l6 l)=some l
 | []=>rfl
 | c :: r=>by
   have:=O9 k m objs r;simp only[l6] at this ⊢;rw[List.map_cons,C3,jt,this]
theorem ev {l:List (List IC)} {sz:Nat} (h:∀ e∈l,e.length=sz):∀ e∈l6 l,e.length=sz:=by
 intro e he;simp only[l6,List.mem_map] at he;obtain⟨e0,h0,rfl⟩:=he;simpa using h e0 h0
theorem Bu (l:List (List IC)) (i:Nat):(l6 l)[i]?=(l[i]?).map (·.map .im):=by simp[l6]
end
theorem RelM.grow {G:IK} {M:MS} {w':World} {x:Obj} (h:RelM G M) (hw:w'.heap=M.w.heap.push x) (hio:SameIo M.w w'):RelM G { M with w:=w' }/\Ext M.objs.length M { M with w:=w' }:=by
 have hold:∀ b,b<M.w.heap.size->w'.heap[b]?=M.w.heap[b]?:=λb hb=>by
  rw[hw,Array.getElem?_push,if_neg (Nat.ne_of_lt hb)]
 have he:Ext M.objs.length M { M with w:=w' }:=by
  refine⟨Nat.le_refl _,λb hb=>⟨⟨?_,hb.2⟩,hold b hb.1⟩,cq M,by simp only[hw,Array.size_push];omega,λp _ c' hc=>⟨⟨c',hc⟩,rfl⟩,λp _ sz es g nl hv=>⟨sz,es,g,nl,hv,Nat.le_refl _,λ_=>⟨rfl,rfl,λhn=>⟨rfl,?_⟩⟩⟩,λp _ ks es hm=>⟨⟨ks,es,hm⟩,rfl⟩,λp _ r hm=>⟨⟨r,hm⟩,rfl⟩,λp _ d hm hi=>⟨⟨d,hm,hi⟩,rfl⟩,λp _ r hm=>⟨⟨r,hm⟩,rfl⟩,hio⟩
  ·have:=hb.1;simp only[hw,Array.size_push];omega
  ·simp only[F7];rw[hold _ (h.lt p _ hv (by simp[DObj.blk,hn]))]
 refine⟨⟨λo d ho=>(h.objs o d ho).ext he (λ_=>rfl) (λhb=>hold _ (h.lt o d ho hb)),λo d ho hb=>?_,h.inj,λg l hg=>(h.glob g l hg).mono he.ok,λb hF=>?_,h.own⟩,he⟩
 ·have:=h.lt o d ho hb;simp only[hw,Array.size_push];omega
 ·have:=h.fl b hF;simp only[hw,Array.size_push];omega
section
variable {P:Program} {G:IK} {S:DS}
theorem jm {o:Oper} {t e:TypeId} {sz:Nat} {z:List Value} (ho:o.op=.buildSlice t 0 #[]) (ht:P.underlying t=some (.slice e)) (hs:aq P e=some sz) (hz:E2 P e=some z) :
 OpV P G o S (.one (.im .e0)) S.objs:=by
 intro a M hrel;obtain⟨v,hrun,hv⟩:=aa (w:=M.w) hz;have hheap:(M.w.alloc (.cells #[] e)).heap=M.w.heap.push (.cells #[] e):=by unfold World.alloc;rfl
 obtain⟨hm,he⟩:=hrel.m.grow hheap ⟨rfl,rfl,rfl,by first|exact Nat.le_refl _|exact Nat.le_succ _⟩;refine⟨.slice (some ⟨M.w.heap.size,0,none⟩) 0 0,_,.inl ?_,hm,hrel.ob,he,.one _ _ (.im _ _ (.e0 _ (λb hb=>by cases hb;rfl)))⟩;simp only[execOp,ho,Instr.buildSlice,Sem.run_bind,e8 ht,Result.andThen_ok,o3 hs];have h00:(Array.range 0).map (λ_=>(default:Value))=#[]:=by simp
 simp[Instr.fill,newRow,newObj,Sem.run,h00]
theorem qv {o:Oper} {t e:TypeId} {sz bytes:Nat} {z:List Value} {x y:Operand} {c:DC} {l:List (List IC)}
 (ho:o.op=.call { callee:=.builtin .append,args:=#[x,y],argTypes:=#[t,t] }) (ht:P.underlying t=some (.slice e)) (hs:aq P e=some sz) (h0:0<sz) (hby:au P e=some bytes) (hz:E2 P e=some z) (hzl:z.length=sz)
 (hx:j0 G S x=some (.one (.im .e0))) (hy:j0 G S y=some (.one c)) (hel:dg S.objs c=some (l6 l)) (hsz:∀ e∈l,e.length=sz)
 (hb:l.length*bytes<=140737488355328) (hb1:l.length<=9223372036854775807):OpV P G o S (.one (.im (.sl l))) S.objs:=by
 intro a M hr;have hp:=i6 hr hx;have hq:=i6 hr hy;generalize hv:a.eval x=v at hp;generalize hu:a.eval y=u at hq;rw[<- hr.ob] at hel;cases hp with
 | one _ _ hp=>cases hq with
   | one _ _ hq =>
   cases hp with
   | im _ _ hp =>
   cases hp with
   | e0 a0 ha0 =>
   obtain⟨ax,capx,rfl,hax,f,hf,hrep⟩:=gp hr.m hq hel (ev hsz);rw[o7] at hax hf hu;have hrun:∀ w',((Builtin.append_ #[t,t] o.type #[.slice a0 0 0,.slice ax l.length capx]).run P M.w=w')->(execOp a.eval o).run P M.w=w'.andThen λv w=>.ok (.value v) w:=λw' h=>by
    simp only[execOp,ho,Sem.run_bind,resolve,invoke,builtin,List.map_toArray,List.map_cons,List.map_nil,hv,hu,Sem.run_pure,Result.andThen_ok,h]
   have hfirst:=ei (P:=P) (sz:=sz) (cap:=capx) hax f (λb hb=>⟨λhne=>(hf b hb).1 λe=>hne (by have:=congrArg List.length e;simpa[o7] using this),(hf b hb).2⟩);simp only[au,Option.map_eq_some_iff] at hby;obtain⟨inf,hinf,rfl⟩:=hby;have hinfs:inf.size=sz:=by simp only[aq,hinf,Option.map_some,Option.some.injEq] at hs;exact hs
   simp only[E2,hinf,Option.bind_some,Option.map_eq_some_iff] at hz;obtain⟨zv,hzv,rfl⟩:=hz;by_cases hl:l.length=0
   ·have hln:l=[]:=List.length_eq_zero_iff.1 hl;subst hln;refine⟨.slice a0 0 0,M,.inl ?_,hr.m,hr.ob,Ext.refl M,.one _ _ (.im _ _ ?_)⟩
    ·rw[hrun (.ok (.slice a0 0 0) M.w)]
     ·rfl
     ·simp only[List.length_nil] at hfirst ⊢;cases a0<;>simp[Builtin.append_,e8 ht,o3 hs,Builtin.lenOf,hfirst,storeCells]
    ·cases a0 with
     | none=>exact .slnil
     | some b=>exact .sl [] b 0 sz (λ_ _=>undef) (ha0 b rfl) (λh=>absurd rfl h) (Nat.le_refl _) (λi x hx=>by simp at hx) (λi x j c hx=>by simp at hx) (λi x j c hx=>by simp at hx)
   ·have hpos:0<l.length:=Nat.pos_of_ne_zero hl;cases ax with
    | none=>exact absurd (hax rfl) hl
    | some ad =>
      have hnews:∀ (j:Nat) (v:Value),((List.range (l.length*sz)).map f)[j]?=some v->M.w.cell? (ad.add j)=some v:=λj v hj=>by
       obtain⟨h7,h8⟩:=hf ad rfl;have hlt:j<l.length*sz:=by simpa using e7 hj
       rw[E6 (h7 λe=>by simp only[List.length_eq_zero_iff,l6,List.map_eq_nil_iff] at e;subst e;simp at hlt),h8 j hlt];rw[List.getElem?_map,List.getElem?_range hlt] at hj;simpa using hj
      have fresh:∀ (cap':Nat) (zc:Array Value),l.length<=cap' ->
       (Builtin.append_ #[t,t] o.type #[.slice a0 0 0,.slice (some ad) l.length capx]).run P M.w=.ok (.slice (some ⟨M.w.heap.size,0,none⟩) l.length cap') (M.w.drew.alloc (.cells (((List.range (l.length*sz)).map f).toArray++zc) e)) ->
       ∃ v M',((execOp a.eval o).run P M.w=.ok (.value v) M'.w\/((execOp a.eval o).run P M.w=.ok .skip M'.w/\v=undef))/\RelM G M'/\M'.objs=S.objs/\Ext M.objs.length M M'/\RepV M' (.one (.im (.sl l))) v:=by
       intro cap' zc hcap happ;have hheap:(M.w.drew.alloc (.cells (((List.range (l.length*sz)).map f).toArray++zc) e)).heap=M.w.heap.push (.cells (((List.range (l.length*sz)).map f).toArray++zc) e):=by unfold World.alloc;rfl
       obtain⟨hm,he⟩:=hr.m.grow hheap ⟨rfl,rfl,rfl,by first|exact Nat.le_refl _|exact Nat.le_succ _⟩;refine⟨_,{ M with w:=M.w.drew.alloc (.cells (((List.range (l.length*sz)).map f).toArray++zc) e) },.inl (by rw[hrun _ happ];rfl),hm,hr.ob,he,.one _ _ (.im _ _ ?_)⟩;have key:∀ (i:Nat) (x:List IC) (j:Nat) (c:IC),l[i]?=some x->x[j]?=some c->i*sz+j<l.length*sz:=λi x j c hi hj=>by
        have hxl:=hsz x (List.mem_of_getElem? hi);have h1:=e7 hi;have h2:=e7 hj;have hmul:(i+1)*sz<=l.length*sz:=Nat.mul_le_mul_right sz h1;rw[Nat.add_mul,Nat.one_mul] at hmul;omega
       refine .sl l ⟨M.w.heap.size,0,none⟩ cap' sz (λi j=>f (i*sz+j)) rfl (λ_=>?_) hcap (λi x hx=>hsz x (List.mem_of_getElem? hx)) (λi x j c hi hj=>?_) (λi x j c hi hj=>?_)
       ·refine⟨⟨by simp[hheap],?_⟩,?_⟩
        ·rintro⟨o',d',ho',hb',hβ⟩;have:=hr.m.lt o' d' ho' hb';simp only at hβ;omega
        ·intro hF;have:=hr.m.fl _ hF;simp only at this;omega
       ·have hin:=key i x j c hi hj;simp only[World.cell?,hheap,Array.getElem?_push_size,Nat.zero_add];rw[Array.getElem?_append_left (by simpa using hin)];simp[hin]
       ·have hin:=key i x j c hi hj;have h1:=hrep i (x.map .im) j (.im c) (by simp[l6,hi]) (by simp[hj]);cases h1 with
        | im _ _ h1=>exact h1.mono λb hb=>⟨he.ok b hb |>.1,(he.ok b hb).2⟩
      cases a0 with
      | none =>
        have happ:=run_append_nil (P:=P) M.w t o.type e inf zv ht hinf hzv ad l.length capx ((List.range (l.length*sz)).map f) (by simp[hinfs]) hnews hpos (by omega) (by omega);have hge:=grownCap_ge M.w l.length 0 e;exact fresh (grownCap M.w l.length 0 e) (Builtin.zeroCells zv.cells (grownCap M.w l.length 0 e-l.length)) (by simpa using hge) happ
      | some b =>
        have happ:=run_append_grow (P:=P) M.w t o.type e inf zv ht hinf hzv b 0 0 [] (by simp) (λj v hj=>by simp at hj) ad l.length capx ((List.range (l.length*sz)).map f) (by simp[hinfs]) hnews (by omega) (by omega) (growslice_fits (by omega) (by rw[Nat.zero_add];exact hb));have hge:=grownCap_ge M.w (0+l.length) 0 e;refine fresh (grownCap M.w (0+l.length) 0 e) (Builtin.zeroCells zv.cells (grownCap M.w (0+l.length) 0 e-(0+l.length))) (by omega) ?_;simpa using happ
end
end Go.Ab
