/- Part 6 of the proofs. -/
import Derived.Test.YtlmlkkoapahmjaaGreatDoorQ05
set_option linter.all false
set_option maxHeartbeats 100000000
namespace Go.Ab
open Go
def ao (P:Program) (t:TypeId):Option TypeId:=match P.underlying t with
 | some (.slice e)=>some e
 | _=>none
def CV (P:Program) (t:TypeId):Option (Nat×TypeId):=match P.underlying t with
 | some (.array n e)=>some (n,e)
 | _=>none
def zg (P:Program) (t:TypeId):Option IntKind:=match P.underlying t with
 | some (.int k)=>some k
 | _=>none
def vo (P:Program) (t:TypeId):Bool:=match P.underlying t with
 | some .bool=>true
 | _=>false
theorem H3 {P:Program} {t e:TypeId} (h:ao P t=some e):P.underlying t=some (.slice e):=by
 unfold ao at h;split at h
 ·rename_i hu;cases h;exact hu
 ·cases h
theorem wo {P:Program} {t e:TypeId} {n:Nat} (h:CV P t=some (n,e)):P.underlying t=some (.array n e):=by
 unfold CV at h;split at h
 ·rename_i hu;cases h;exact hu
 ·cases h
theorem nL {P:Program} {t:TypeId} {k:IntKind} (h:zg P t=some k):P.underlying t=some (.int k):=by
 unfold zg at h;split at h
 ·rename_i hu;cases h;exact hu
 ·cases h
theorem sR {P:Program} {t:TypeId} (h:vo P t=true):P.underlying t=some .bool:=by
 unfold vo at h;split at h
 ·assumption
 ·cases h
def jd (v:Value):DV:=.one (.im (.raw v))
def sQ (P:Program) (t:TypeId) (f:Nat):Option (Nat×Nat×Bool):=
 match P.underlying t with
 | some (.struct fs)=>match fs[f]? with
   | some x=>match bl P x.type,nM P x.type with
     | some s,some g=>some (x.offset,s,g)
     | _,_=>none
   | none=>none
 | _=>none
def iE (P:Program) (G:LI) (S:DS) (b:Builtin) (args:List Operand) (ts:List TypeId):Option (DV×List DObj):=
 match b,args,ts with
 | .len,[x],[t]=>match j6 G S x,ao P t with
   | some (.one c),some _=>(By S.objs c).map λ(n:Nat)=>(jd (.int .i64 (n:Int)),S.objs)
   | some (.one c),none=>match cr P t with
     | some _=>match c with
       | .im c=>(iB (.im c)).map λ(n:Nat)=>(jd (.int .i64 (n:Int)),S.objs)
       | c=>(kY S.objs c).map λ(n:Nat)=>(jd (.int .i64 (n:Int)),S.objs)
     | none=>none
   | _,_=>none
 | .delete,[m,k],[t,_]=>lc P G S t m k
 | .clear,[x],[t]=>pU P G S t x
 | .max,[x,y],_=>match E7 (j6 G S x),E7 (j6 G S y) with
   | some (.int k a),some (.int k' b)=>if k=k' then some (jd (.int k (max a b)),S.objs) else none
   | _,_=>none
 | .min,[x,y],_=>match E7 (j6 G S x),E7 (j6 G S y) with
   | some (.int k a),some (.int k' b)=>if k=k' then some (jd (.int k (min a b)),S.objs) else none
   | _,_=>none
 | _,_,_=>none
def Ez (P:Program) (G:LI) (S:DS) (op:BinOp) (t:TypeId) (x y:Operand):Option (DV×List DObj):=
 if op=.eql\/op=.neq then match y with
  | .const (.slice none 0 0)=>match j6 G S x,ao P t with
    | some (.one c),some _=>(Ex S.objs c).map λb=>(jd (.bool (if op=.eql then b else !b)),S.objs)
    | _,_=>none
  | y=>match j6 G S x,j6 G S y,A6 P t with
    | some (.agg lx),some (.agg ly),some ks=>match dE lx,dE ly with
      | some vx,some vy=>if g9 ks vx=true/\g9 ks vy=true then some (jd (.bool (if op=.eql then A7 vx vy else !A7 vx vy)),S.objs) else none
      | _,_=>none
    | some (.agg lx),some (.agg ly),none=>match dE lx,dE ly,fW P t with
      | some vx,some vy,some ks=>if g9 ks vx=true/\g9 ks vy=true then some (jd (.bool (if op=.eql then A7 vx vy else !A7 vx vy)),S.objs) else none
      | _,_,_=>none
    | _,_,_=>none
 else none
theorem uq {P:Program} {G:LI} {S:DS} {o:Oper} {op:BinOp} {t u:TypeId} {x y:Operand} {d:DV} {objs':List DObj} (ho:o.op=.binOp op t x y u) (h:Ez P G S op t x y=some (d,objs')):OpV P G o S d objs':=by
 unfold Ez at h;split at h
 ·rename_i hop;split at h
  ·split at h
   ·rename_i h1 h2;simp only[Option.map_eq_some_iff,Prod.mk.injEq] at h;obtain⟨b,h3,rfl,rfl⟩:=h;exact yF ho hop (H3 h2) h1 h3
   ·cases h
  ·split at h
   ·rename_i h1 h2 h3;split at h
    ·rename_i h4 h5;split at h
     ·rename_i hs;cases h;exact qg ho hop h3 h1 h2 h4 h5 hs.1 hs.2
     ·cases h
    ·cases h
   ·rename_i h1 h2 h3;split at h
    ·rename_i h4 h5 h6;split at h
     ·rename_i hs;cases h;exact uT ho hop h6 h1 h2 h4 h5 hs.1 hs.2
     ·cases h
    ·cases h
   ·cases h
 ·cases h
def aH (P:Program) (G:LI) (S:DS) (op:Op) (ty:TypeId):Option (DV×List DObj):=
 match op with
 | .move x=>(j6 G S x).map (·,S.objs)
 | .assign x=>match x with
   | .const (.slice none 0 0)=>match ao P ty with
     | some e=>match bl P e with
       | some sz=>some (.one (.vec S.objs.length 0 0 0),S.objs++[.vec sz [] 0 true])
       | none=>none
     | none=>none
   | x=>(j6 G S x).map (·,S.objs)
 | .pick c a b=>match E7 (j6 G S c) with
   | some (.bool t)=>(if t then j6 G S a else j6 G S b).map (·,S.objs)
   | _=>none
 | .binOp op t x y _=>match E7 (j6 G S x),E7 (j6 G S y) with
   | some (.bool b),some (.bool c)=>if vo P t=true/\(op=.eql\/op=.neq) then some (jd (.bool (if op=.eql then b==c else b != c)),S.objs) else none
   | some v,some u=>(xX op v u).map (jd ·,S.objs)
   | _,_=>Ez P G S op t x y
 | .makeFunc fn first cs=>if first.toList=[] then match aF G S cs.toList with
  | some ds=>(wQ ds).map λcaps=>(.one (.fn fn caps),S.objs)
  | none=>none
   else if cs.toList=[] then match aF G S first.toList with
    | some ds=>(ot ds).map λl=>(.one (.im (.bf fn l)),S.objs)
    | none=>none
   else none
 | .unOp op _ x=>match E7 (j6 G S x) with
   | some v=>(rH op v).map (jd ·,S.objs)
   | none=>none
 | .convert s t x=>match E7 (j6 G S x),zg P t,zg P s with
   | some (.int _ n),some k',some _=>some (jd (.int k' (k'.wrap n)),S.objs)
   | _,_,_=>none
 | .load t x=>match j6 G S x,bl P t,nM P t with
   | some (.one p),some sz,some ag=>match mB S.objs p sz with
     | some l=>(fd ag l).map (·,S.objs)
     | none=>none
   | _,_,_=>none
 | .store t x y=>match j6 G S x,j6 G S y,bl P t with
   | some (.one p),some d,some sz=>match d.cells with
     | some l=>if l.length=sz then (mA S.objs p l).map (.tup [],·) else none
     | none=>none
   | _,_,_=>none
 | .fieldAddr t x f=>match j6 G S x,CU P t f with
   | some (.one p),some off=>if cH p S.objs=true then (uu p off).map (.one ·,S.objs) else none
   | _,_=>none
 | .indexAddr t x y=>match j6 G S x,E7 (j6 G S y) with
   | some (.one p),some (.int _ i)=>match ao P t with
     | some e=>match bl P e with
       | some sz=>(pS S.objs p i sz).map (.one ·,S.objs)
       | none=>none
     | none=>match CV P t with
       | some (n,e)=>match bl P e with
         | some sz=>if 0<=i/\i<n/\cH p S.objs=true then (uu p (i.toNat*sz)).map (.one ·,S.objs) else none
         | none=>none
       | none=>none
   | _,_=>none
 | .field t x f=>match j6 G S x,sQ P t f with
   | some (.agg l),some (off,sz,g)=>if off+sz<=l.length then (fd g ((l.drop off).take sz)).map (·,S.objs) else none
   | _,_=>none
 | .extract x i=>match j6 G S x with
   | some (.tup l)=>(l[i]?).map (·,S.objs)
   | _=>none
 | .nilCheck x=>match j6 G S x with
   | some (.one (.im (.fn (.func f) caps)))=>some (.one (.im (.fn (.func f) caps)),S.objs)
   | some (.one (.fn (.func f) caps))=>some (.one (.fn (.func f) caps),S.objs)
   | some (.one c)=>if cH c S.objs=true then some (.one c,S.objs) else none
   | _=>none
 | .box _ x=>match j6 G S x with
   | some d=>d.cells.map λl=>(.one (.ptr S.objs.length 0),S.objs++[.row l])
   | none=>none
 | .alloc t=>match G3 P t with
   | some l=>if l.all B8=true then some (.one (.ptr (S.objs.length+(zcells l S.objs.length).2.length) 0),S.objs++(zcells l S.objs.length).2++[.row (zcells l S.objs.length).1]) else none
   | none=>none
 | .build t ps=>match G3 P t,l9 P t,S7 G S ps.toList with
   | some z,some pl,some qs=>if z.all B8=true then (ce (pl[·]?) (z.map aU) qs).map (.agg ·,S.objs) else none
   | _,_,_=>none
 | .buildSlice t n ps=>match ao P t with
   | some e=>match bl P e,G3 P e,S7 G S ps.toList with
     | some sz,some z,some qs=>if 0<sz/\z.length=sz/\z.all B8=true/\n*sz<=16777216 then
      (ce (λi=>some (i*sz,sz)) (List.replicate (n*sz) .dead) qs).map λr=>(.one (.vec S.objs.length 0 0 n),S.objs++[.vec sz (ej sz r n) 0 false])
       else none
     | _,_,_=>none
   | none=>none
 | .slice t x lo hi none=>match j6 G S x,ao P t,tj G S lo,tj G S hi with
   | some (.one c),some e,some il,some ih=>match bl P e with
     | some sz=>(F1 S.objs c (il.getD 0) ih sz).map (.one ·,S.objs)
     | none=>none
   | _,_,_,_=>none
 | .call c=>match c.callee with
   | .builtin b=>iE P G S b c.args.toList c.argTypes.toList
   | _=>none
 | .makeMap t r=>iz P G S t r
 | .lookup t m k ok=>match j6 G S m with
   | some (.one (.im _))=>iA P G S t m k ok
   | _=>kX P G S t m k ok
 | .range t x=>pR P G S t x
 | .entry it=>pT G S it
 | .index t x i=>kZ P G S t x i
 | .mapUpdate t m k v=>aI P G S t m k v
 | .insert t m k v=>aI P G S t m k v
 | _=>none
theorem mF {P:Program} {G:LI} {S:DS} {o:Oper} {c:Call} {b:Builtin} {d:DV} {objs':List DObj} (ho:o.op=.call c) (hb:c.callee=.builtin b)
 (h:iE P G S b c.args.toList c.argTypes.toList=some (d,objs')):OpV P G o S d objs':=by
 obtain⟨cal,args,ts⟩:=c;simp only at hb h;subst hb;unfold iE at h;split at h
 ·rename_i x t hx ht;have e1:args=#[x]:=Array.toList_inj.1 hx;have e2:ts=#[t]:=Array.toList_inj.1 ht;subst e1;subst e2;split at h
  ·rename_i h1 h2;simp only[Option.map_eq_some_iff,Prod.mk.injEq] at h;obtain⟨w,h5,rfl,rfl⟩:=h;exact Fb ho (H3 h2) h1 h5
  ·rename_i h1 h2;split at h
   ·rename_i ke hke;split at h
    ·simp only[Option.map_eq_some_iff,Prod.mk.injEq] at h;obtain⟨w,h5,rfl,rfl⟩:=h;exact sv (k:=ke.1) (e:=ke.2) ho hke h1 h5
    ·simp only[Option.map_eq_some_iff,Prod.mk.injEq] at h;obtain⟨w,h5,rfl,rfl⟩:=h;exact uR (k:=ke.1) (e:=ke.2) ho hke h1 h5
   ·cases h
  ·cases h
 ·rename_i m k t u hx ht;have e1:args=#[m,k]:=Array.toList_inj.1 hx;have e2:ts=#[t,u]:=Array.toList_inj.1 ht;subst e1;subst e2;exact uW ho h
 ·rename_i x t hx ht;have e1:args=#[x]:=Array.toList_inj.1 hx;have e2:ts=#[t]:=Array.toList_inj.1 ht;subst e1;subst e2;exact yI ho h
 ·rename_i _ _ x y hx;have e1:args=#[x,y]:=Array.toList_inj.1 hx;subst e1;split at h
  ·rename_i h1 h2;split at h
   ·rename_i hk;subst hk;cases h;exact Fa ho h1 h2
   ·cases h
  ·cases h
 ·rename_i _ _ x y hx;have e1:args=#[x,y]:=Array.toList_inj.1 hx;subst e1;split at h
  ·rename_i h1 h2;split at h
   ·rename_i hk;subst hk;cases h;exact EZ ho h1 h2
   ·cases h
  ·cases h
 ·cases h
theorem R1 {P:Program} {G:LI} {S:DS} {o:Oper} {d:DV} {objs':List DObj} (h:aH P G S o.op o.type=some (d,objs')):OpV P G o S d objs':=by
 obtain⟨dst,op,ty,pos,aft,grd⟩:=o;simp only at h;unfold aH at h;split at h
 ·simp only[Option.map_eq_some_iff,Prod.mk.injEq] at h;obtain⟨d',h1,rfl,rfl⟩:=h;exact sq (.inl rfl) h1
 ·split at h
  ·split at h
   ·split at h
    ·cases h;exact EY _ rfl
    ·cases h
   ·cases h
  ·simp only[Option.map_eq_some_iff,Prod.mk.injEq] at h;obtain⟨d',h1,rfl,rfl⟩:=h;exact sq (.inr rfl) h1
 ·split at h
  ·rename_i t ht;simp only[Option.map_eq_some_iff,Prod.mk.injEq] at h;obtain⟨d',h1,rfl,rfl⟩:=h;exact Cv rfl ht h1
  ·cases h
 ·split at h
  ·rename_i b c hb hc;split at h
   ·rename_i hcond;cases h;exact uU rfl (sR hcond.1) hcond.2 hb hc
   ·cases h
  ·rename_i v u _ hv hu;simp only[Option.map_eq_some_iff,Prod.mk.injEq] at h;obtain⟨w,h1,rfl,rfl⟩:=h;exact Fd rfl hv hu h1
  ·exact uq rfl h
 ·split at h
  ·rename_i hf;split at h
   ·rename_i ds hds;simp only[Option.map_eq_some_iff,Prod.mk.injEq] at h;obtain⟨caps,h1,rfl,rfl⟩:=h;have hfe:=Array.toList_inj.1 (hf.trans (List.toList_toArray (as:=[])).symm);subst hfe;exact qe rfl hds h1
   ·cases h
  ·split at h
   ·rename_i hcs;split at h
    ·rename_i ds hds;simp only[Option.map_eq_some_iff,Prod.mk.injEq] at h;obtain⟨l,h1,rfl,rfl⟩:=h;have hce:=Array.toList_inj.1 (hcs.trans (List.toList_toArray (as:=[])).symm);subst hce;exact nF rfl hds h1
    ·cases h
   ·cases h
 ·split at h
  ·rename_i v hv;simp only[Option.map_eq_some_iff,Prod.mk.injEq] at h;obtain⟨w,h1,rfl,rfl⟩:=h;exact Hx rfl hv h1
  ·cases h
 ·split at h
  ·rename_i h1 h2 h3;cases h;exact Cy rfl ⟨_,nL h3⟩ (nL h2) h1
  ·cases h
 ·split at h
  ·rename_i h1 h2 h3;split at h
   ·rename_i l hl;simp only[Option.map_eq_some_iff,Prod.mk.injEq] at h;obtain⟨w,h4,rfl,rfl⟩:=h;exact Cw rfl h2 h3 h1 hl h4
   ·cases h
  ·cases h
 ·split at h
  ·rename_i h1 h2 h3;split at h
   ·rename_i l hl;split at h
    ·rename_i hsz;simp only[Option.map_eq_some_iff,Prod.mk.injEq] at h;obtain⟨w,h4,rfl,rfl⟩:=h;exact yx rfl h3 h1 h2 hl hsz h4
    ·cases h
   ·cases h
  ·cases h
 ·split at h
  ·rename_i h1 h2;split at h
   ·rename_i ha;simp only[Option.map_eq_some_iff,Prod.mk.injEq] at h;obtain⟨w,h4,rfl,rfl⟩:=h;exact nG rfl h2 h1 ha h4
   ·cases h
  ·cases h
 ·split at h
  ·rename_i h1 h2;split at h
   ·rename_i e he;split at h
    ·rename_i sz hs;simp only[Option.map_eq_some_iff,Prod.mk.injEq] at h;obtain⟨w,h4,rfl,rfl⟩:=h;exact yD rfl (H3 he) hs h1 h2 h4
    ·cases h
   ·split at h
    ·rename_i n e he;split at h
     ·rename_i sz hs;split at h
      ·rename_i hc;simp only[Option.map_eq_some_iff,Prod.mk.injEq] at h;obtain⟨w,h4,rfl,rfl⟩:=h;exact qf rfl (wo he) hs h1 h2 hc.1 hc.2.1 hc.2.2 h4
      ·cases h
     ·cases h
    ·cases h
  ·cases h
 ·split at h
  ·rename_i h1 h2;split at h
   ·rename_i hle;simp only[Option.map_eq_some_iff,Prod.mk.injEq] at h;obtain⟨w,h4,rfl,rfl⟩:=h;unfold sQ at h2;split at h2
    ·rename_i fs hu;split at h2
     ·rename_i y hy;split at h2
      ·rename_i s g hs hg;cases h2;exact yE rfl hu hy rfl rfl hs hg h1 hle h4
      ·cases h2
     ·cases h2
    ·cases h2
   ·cases h
  ·cases h
 ·split at h
  ·rename_i h1;simp only[Option.map_eq_some_iff,Prod.mk.injEq] at h;obtain⟨w,h4,rfl,rfl⟩:=h;exact sw rfl h1 h4
  ·cases h
 ·split at h
  ·rename_i h1;cases h;exact cS rfl h1 (.inr (.inl ⟨_,_,rfl⟩))
  ·rename_i h1;cases h;exact cS rfl h1 (.inr (.inr ⟨_,_,rfl⟩))
  ·rename_i h1;split at h
   ·rename_i ha;cases h;exact cS rfl h1 (.inl ha)
   ·cases h
  ·cases h
 ·split at h
  ·rename_i h1;simp only[Option.map_eq_some_iff,Prod.mk.injEq] at h;obtain⟨w,h4,rfl,rfl⟩:=h;exact Fc rfl h1 h4
  ·cases h
 ·split at h
  ·rename_i h1;split at h
   ·rename_i hp;cases h;exact yK rfl h1 hp
   ·cases h
  ·cases h
 ·split at h
  ·rename_i h1 h2 h3;split at h
   ·rename_i hp;simp only[Option.map_eq_some_iff,Prod.mk.injEq] at h;obtain⟨w,h4,rfl,rfl⟩:=h;exact yJ rfl h1 hp h2 h3 h4
   ·cases h
  ·cases h
 ·split at h
  ·rename_i e he;split at h
   ·rename_i h1 h2 h3;split at h
    ·rename_i hc;simp only[Option.map_eq_some_iff,Prod.mk.injEq] at h;obtain⟨w,h4,rfl,rfl⟩:=h;exact nc rfl (H3 he) h1 h2 hc.1 hc.2.1 hc.2.2.1 hc.2.2.2 h3 h4
    ·cases h
   ·cases h
  ·cases h
 ·split at h
  ·rename_i h1 h2 h3 h4;split at h
   ·rename_i sz hs;simp only[Option.map_eq_some_iff,Prod.mk.injEq] at h;obtain⟨w,h5,rfl,rfl⟩:=h;exact yy rfl (H3 h2) hs h1 h3 h4 h5
   ·cases h
  ·cases h
 ·split at h
  ·rename_i b hb;exact mF rfl hb h
  ·cases h
 ·exact sr rfl h
 ·split at h
  ·exact ss rfl h
  ·exact uQ rfl h
 ·exact yz rfl h
 ·exact yH rfl h
 ·exact uS rfl h
 ·exact fy (.inl rfl) h
 ·exact fy (.inr rfl) h
 ·cases h
def E6 (P:Program) (f:FuncId):Prop:=∀ args w,(callFunc f args).run P w=.ok (.enter f args) w
inductive Kind where
 | call (x:Operand) (xs:List Operand)
 | append (t:TypeId) (x y:Operand)
 | makeSlice (t:TypeId) (x y:Operand)
 | next (it:Operand)
 | rng (t:TypeId) (x:Operand)
 | eqNil (op:BinOp) (t:TypeId) (x:Operand) (u:TypeId)
 | plain
def I3:Op->Kind
 | .call c=>match c.callee,c.args.toList,c.argTypes.toList with
   | .value x,xs,_=>.call x xs
   | .builtin .append,[x,y],[t,u]=>if t=u then .append t x y else .plain
   | _,_,_=>.plain
 | .makeSlice t x y=>.makeSlice t x y
 | .next it false=>.next it
 | .range t x=>.rng t x
 | .binOp .eql t x (.const (.slice none 0 0)) u=>.eqNil .eql t x u
 | .binOp .neq t x (.const (.slice none 0 0)) u=>.eqNil .neq t x u
 | _=>.plain
theorem X8 {op:Op} {x:Operand} {xs:List Operand} (h:I3 op=.call x xs):∃ ys ts,op=.call { callee:=.value x,args:=ys,argTypes:=ts }/\ys.toList=xs:=by
 unfold I3 at h;split at h
 ·rename_i c;obtain⟨cal,args,ts⟩:=c;split at h
  ·rename_i hc;simp only at hc;subst hc;cases h;exact⟨_,_,rfl,rfl⟩
  ·split at h<;>cases h
  ·cases h
 ·cases h
 ·cases h
 ·cases h
 ·cases h
 ·cases h
 ·cases h
theorem fr {op:Op} {t:TypeId} {x y:Operand} (h:I3 op=.append t x y):op=.call { callee:=.builtin .append,args:=#[x,y],argTypes:=#[t,t] }:=by
 unfold I3 at h;split at h
 ·rename_i c;obtain⟨cal,args,ts⟩:=c;split at h
  ·cases h
  ·rename_i h1 h2 h3;simp only at h1 h2 h3;subst h1;split at h
   ·rename_i e;subst e;cases h;rw[show args=_ from Array.toList_inj.1 (h2.trans List.toList_toArray.symm),show ts=_ from Array.toList_inj.1 (h3.trans List.toList_toArray.symm)]
   ·cases h
  ·cases h
 ·cases h
 ·cases h
 ·cases h
 ·cases h
 ·cases h
 ·cases h
theorem jo {op:Op} {t:TypeId} {x y:Operand} (h:I3 op=.makeSlice t x y):op=.makeSlice t x y:=by
 unfold I3 at h;split at h
 ·split at h
  ·cases h
  ·split at h<;>cases h
  ·cases h
 ·cases h;rfl
 ·cases h
 ·cases h
 ·cases h
 ·cases h
 ·cases h
theorem jS {op:Op} {it:Operand} (h:I3 op=.next it):op=.next it false:=by
 unfold I3 at h;split at h
 ·split at h
  ·cases h
  ·split at h<;>cases h
  ·cases h
 ·cases h
 ·cases h;rfl
 ·cases h
 ·cases h
 ·cases h
 ·cases h
theorem tP {op:Op} {t:TypeId} {x:Operand} (h:I3 op=.rng t x):op=.range t x:=by
 unfold I3 at h;split at h
 ·split at h
  ·cases h
  ·split at h<;>cases h
  ·cases h
 ·cases h
 ·cases h
 ·cases h;rfl
 ·cases h
 ·cases h
 ·cases h
theorem pD {op:Op} {b:BinOp} {t u:TypeId} {x:Operand} (h:I3 op=.eqNil b t x u):op=.binOp b t x (.const (.slice none 0 0)) u/\(b=BinOp.eql\/b=BinOp.neq):=by
 unfold I3 at h;split at h
 ·split at h
  ·cases h
  ·split at h<;>cases h
  ·cases h
 ·cases h
 ·cases h
 ·cases h
 ·cases h;exact⟨rfl,.inl rfl⟩
 ·cases h;exact⟨rfl,.inr rfl⟩
 ·cases h
theorem vb {P:Program} {G:LI} {S:DS} {o:Oper} {op:BinOp} {t e u:TypeId} {x:Operand} {l:List (List IC)} {K:DS->Prop} (ho:o.op=.binOp op t x (.const (.slice none 0 0)) u) (hop:op=.eql\/op=.neq) (ht:P.underlying t=some (.slice e))
 (hx:j6 G S x=some (.one (.im (.sl l)))) (h:∀ b:Bool,(b=true->l=[])->K ({ S with objs:=S.objs }.put o.dst (.one (.im (.raw (.bool (if op=BinOp.eql then b else !b))))))):OpT P G o S K:=by
 intro ro a M hr;have e1:=i9 hr hx;generalize hv:a.eval x=v at e1;have hval:∃ p n c,v=.slice p n c/\(p.isNone=true->l=[]):=by
  cases e1 with
  | one _ _ hp=>cases hp with
    | im _ _ hp=>cases hp with
      | slnil=>exact⟨none,0,0,rfl,λ_=>rfl⟩
      | sl=>exact⟨_,_,_,rfl,λh=>by simp at h⟩
      | slz=>exact⟨_,_,_,rfl,λh=>by simp at h⟩
 obtain⟨p,n,cc,rfl,hp⟩:=hval;have heq:(Op.equal t (.slice p n cc) (.slice none 0 0)).run P M.w=.ok p.isNone M.w:=by
  have key:∀ d,(Op.equalIn (d+1) t (.slice p n cc) (.slice none 0 0)).run P M.w=.ok p.isNone M.w:=λd=>by
   simp only[Op.equalIn,Sem.run_bind,e8 ht,Result.andThen_ok];cases p<;>rfl
  exact key 9999
 have hn:a.eval (.const (.slice none 0 0))=.slice none 0 0:=rfl;have hrun:(execOp a.eval o).run P M.w=.ok (.value (.bool (if op=.eql then p.isNone else !p.isNone))) M.w:=by
  simp only[execOp,ho,hv,hn,Sem.run_bind,W7 (.inr (.inr (.inl ⟨_,_,_,rfl⟩))),Result.andThen_ok];rcases hop with rfl|rfl
  ·have h5:binOp .eql t (.slice p n cc) (.slice none 0 0)=(do pure (.bool (<- Op.equal t (.slice p n cc) (.slice none 0 0)))):=rfl;simp only[h5,Sem.run_bind,heq,Result.andThen_ok];rfl
  ·have h5:binOp .neq t (.slice p n cc) (.slice none 0 0)=(do pure (.bool (!(<- Op.equal t (.slice p n cc) (.slice none 0 0))))):=rfl;simp only[h5,Sem.run_bind,heq,Result.andThen_ok];rfl
 have hp2:=hr.put (d:=.one (.im (.raw (.bool (if op=.eql then p.isNone else !p.isNone))))) hr.m (Ext.refl M) (.one _ _ (.im _ _ (.raw _ rfl))) o.dst;exact I8 hrun ⟨_,M,rfl,hp2,Ext.refl M,s9 _ _ _,by rw[hr.ob];exact h _ hp⟩
def CallE (P:Program) (G:LI) (f:FuncId) (args:List DV) (objs:List DObj) (Q:DV->List DObj->Prop) (_t:Tok Q):Prop:=DCall P G f args objs Q
def ng (b:Bool) (A B:Prop) (_t:Tok (A/\B)):Prop:=(b=true->A)/\(b=false->B)
theorem gq (A B:Prop) (t:Tok (A/\B)):ng true A B t=A:=by simp[ng]
theorem ev (A B:Prop) (t:Tok (A/\B)):ng false A B t=B:=by simp[ng]
theorem j0 {b:Bool} {A B:Prop} {t:Tok (A/\B)} (h1:b=true->A) (h2:b=false->B):ng b A B t:=⟨h1,h2⟩
attribute [simp] gq ev
inductive Out where
 | val (d:DV) (objs:List DObj)
 | call (f:FuncId) (args:List DV)
 | cond (p:Prop) (d:DV) (objs:List DObj)
 | yield (o:Nat) (args:List DV)
 | iter (o:Nat) (left:List (List Value×List IC))
 | nilq (l:List (List IC)) (neg:Bool)
 | gen (p:(DV->List DObj->Prop)->Prop)
 | bad
def Dp:Option (DV×List DObj)->Out
 | some (d,objs)=>.val d objs
 | none=>.bad
def Ga:Option (FuncId×List DV)->List DV->Out
 | some (f,caps),as=>.call f (as++caps)
 | none,_=>.bad
def In (p:Prop):Option (DC×List DObj)->Out
 | some (d,objs)=>.cond p (.one d) objs
 | none=>.bad
def HO:DC->Option Nat
 | .vec _ _ _ len=>some len
 | _=>none
def dw (P:Program) (G:LI) (S:DS) (x:Operand) (xs:List Operand):Out:=match j6 G S x,aF G S xs with
 | some (.one (.yld o)),some as=>.yield o as
 | some (.one (.im (.bf (.func f) l))),some as=>.gen λC=>E6 P f/\CallE P G f (l.map (λc=>DV.one (.im c))++as) S.objs C ⟨⟩
 | some d,some as=>Ga (H0 d) as
 | _,_=>.bad
def aq (P:Program) (G:LI) (S:DS) (t:TypeId) (x y:Operand):Out:=match j6 G S x,j6 G S y,ao P t with
 | some (.one s),some (.one c),some e=>match bl P e,bo P e,G3 P e,ed S.objs c,HO s with
   | some sz,some bytes,some z,some xs,some len=>In (0<sz/\z.length=sz/\(∀ e∈xs,e.length=sz)/\(len+xs.length)*bytes<=140737488355328/\len+xs.length<=9223372036854775807) (cL S.objs s xs sz)
   | _,_,_,_,_=>.bad
 | _,_,_=>.bad
def du (P:Program) (G:LI) (S:DS) (t:TypeId) (x y:Operand):Out:=match E7 (j6 G S x),E7 (j6 G S y),ao P t with
 | some (.int .i64 a),some (.int .i64 b),some e=>match bl P e,bo P e,G3 P e with
   | some sz,some bytes,some z=>.cond (0<sz/\z.length=sz/\z.all B8=true/\0<=a/\b=a/\a.toNat*bytes<=140737488355328/\a.toNat<=9223372036854775807)
    (.one (.vec S.objs.length 0 0 a.toNat)) (S.objs++[DObj.vec sz (List.replicate a.toNat (z.map aU)) 0 false])
   | _,_,_=>.bad
 | _,_,_=>.bad
def dt (G:LI) (S:DS) (it:Operand):Out:=match j6 G S it with
 | some (.one (.itr o))=>match S.objs[o]? with
   | some (.iter left _)=>.iter o left
   | some (.liter b seen c)=>match aA b c S.objs with
     | some (l,es)=>.gen λC=>((∀ s∈l,s∈seen)->C (.tup [.one (.im (.raw (.bool false)))]) S.objs) /\
      ∀ (i s:Nat) (x:List Value×List DC),es[i]?=some x->l[i]?=some s->s∉seen->C (.tup [.one (.im (.raw (.bool true))),F8 (x.1.map aU),F8 x.2]) (S.objs.set o (.liter b (seen++[s]) c))
     | none=>.bad
   | _=>.bad
 | _=>.bad
def AO:List CK->Bool
 | .st _ _ _ :: _=>true
 | _=>false
theorem DX (l:List Nat) (c b:Nat) (r:List CK):AO (.st l c b :: r)=true:=rfl
theorem AN (q:IntKind) (r:List CK):AO (.int q :: r)=false:=rfl
theorem xn (r:List CK):AO (.bool :: r)=false:=rfl
attribute [simp] DX AN xn
theorem tS {ks:List CK} (h:AO ks=false):plainK ks:=by
 unfold plainK;split
 ·cases h
 ·trivial
def gx (P:Program) (G:LI) (S:DS) (t:TypeId) (x:Operand) (r:Option (DV×List DObj)):Out:=match j6 G S x,cr P t with
 | some (.one (.map o)),some _=>match S.objs[o]? with
   | some (.map ks es)=>if AO ks=false then .gen λC=>∀ (l:List Nat) (c b:Nat),l.length=es.length->l.Nodup->(∀ s∈l,s<c)->C (.one (.itr S.objs.length)) (S.objs.set o (.map (.st l c b :: ks) es)++[.liter b [] c]) else .bad
   | _=>.bad
 | _,_=>Dp r
def gy (P:Program) (G:LI) (S:DS) (op:BinOp) (t:TypeId) (x:Operand) (r:Option (DV×List DObj)):Out:=match j6 G S x,ao P t with
 | some (.one (.im (.sl l))),some _=>.nilq l (decide (op=.neq))
 | _,_=>Dp r
def K3 (P:Program) (G:LI) (S:DS) (op:Op) (ty:TypeId):Kind->Out
 | .call x xs=>dw P G S x xs
 | .append t x y=>aq P G S t x y
 | .makeSlice t x y=>du P G S t x y
 | .next it=>dt G S it
 | .rng t x=>gx P G S t x (aH P G S op ty)
 | .eqNil b t x _=>gy P G S b t x (aH P G S op ty)
 | .plain=>Dp (aH P G S op ty)
def X3 (P:Program) (G:LI) (S:DS) (op:Op) (ty:TypeId):Out:=K3 P G S op ty (I3 op)
def Next (P:Program) (G:LI) (objs:List DObj) (x:Out) (C:DV->List DObj->Prop) (_t:Tok C):Prop:=match x with
 | .val d objs'=>C d objs'
 | .call f as=>E6 P f/\CallE P G f as objs C ⟨⟩
 | .cond p d objs'=>p/\C d objs'
 | .yield o as=>mW P G o as objs C ⟨⟩
 | .iter o left=>(left=[]->C (.tup [.one (.im (.raw (.bool false)))]) objs) /\
  ∀ (i:Nat) (x:List Value×List IC),left[i]?=some x->C (.tup [.one (.im (.raw (.bool true))),F8 (x.1.map aU),F8 (x.2.map .im)]) (objs.set o (.iter (left.eraseIdx i) (some x)))
 | .nilq l neg=>∀ b:Bool,(b=true->l=[])->C (.one (.im (.raw (.bool (b != neg))))) objs
 | .gen p=>p C
 | .bad=>False
def mX (w:Option Bool) (A B:Prop) (_t:Tok (A/\B)):Prop:=match w with
 | some b=>ng b A B ⟨⟩
 | none=>False
section
variable (P:Program) (G:LI) (objs:List DObj) (C:DV->List DObj->Prop) (t:Tok C)
theorem CB (d:DV) (objs':List DObj):Next P G objs (.val d objs') C t=C d objs':=rfl
theorem yS (f:FuncId) (as:List DV):Next P G objs (.call f as) C t=(E6 P f/\CallE P G f as objs C ⟨⟩):=rfl
theorem yR (p:Prop) (d:DV) (objs':List DObj):Next P G objs (.cond p d objs') C t=(p/\C d objs'):=rfl
theorem vc (o:Nat) (as:List DV):Next P G objs (.yield o as) C t=mW P G o as objs C ⟨⟩:=rfl
theorem yQ (o:Nat) (left:List (List Value×List IC)):Next P G objs (.iter o left) C t=((left=[]->C (.tup [.one (.im (.raw (.bool false)))]) objs) /\
 ∀ (i:Nat) (x:List Value×List IC),left[i]?=some x->C (.tup [.one (.im (.raw (.bool true))),F8 (x.1.map aU),F8 (x.2.map .im)]) (objs.set o (.iter (left.eraseIdx i) (some x)))):=rfl
theorem yP (l:List (List IC)) (neg:Bool):Next P G objs (.nilq l neg) C t=(∀ b:Bool,(b=true->l=[])->C (.one (.im (.raw (.bool (b != neg))))) objs):=rfl
theorem CC (p:(DV->List DObj->Prop)->Prop):Next P G objs (.gen p) C t=p C:=rfl
theorem CD:Next P G objs .bad C t=False:=rfl
theorem yr (A B:Prop) (t:Tok (A/\B)):mX (some true) A B t=A:=gq A B ⟨⟩
theorem uO (A B:Prop) (t:Tok (A/\B)):mX (some false) A B t=B:=ev A B ⟨⟩
theorem yt (b:Bool) (A B:Prop) (t:Tok (A/\B)):mX (some b) A B t=ng b A B ⟨⟩:=rfl
theorem yu (A B:Prop) (t:Tok (A/\B)):mX none A B t=False:=rfl
end
attribute [simp] gy yP CC gx aA ot dt yQ CB yS yR vc CD yr uO yt yu Dp Ga In HO X3 K3 dw aq du
def sn (P:Program) (G:LI) (dsts:List (Option Tmp)):List Oper->DS->(K:DS->Prop)->Tok K->Prop
 | [],S,K,_=>K S
 | o :: l,S,K,tk=>mX (E1 dsts S o)
  (Next P G S.objs (X3 P G S o.op o.type) (λd objs'=>sn P G dsts l (DS.put { S with objs:=objs' } o.dst d) K tk) ⟨⟩)
  (sn P G dsts l (S.put o.dst (.tup [])) K tk) ⟨⟩
section
variable {P:Program} {G:LI} {n:Cx} {S:DS} {Q:Exit->DS->Prop}
theorem gl {dsts:List (Option Tmp)} {l:List Oper} {o:Oper} {K:DS->Prop} {C:DV->List DObj->Prop}
 (hC:∀ d objs',C d objs'->RT P G dsts l (DS.put { S with objs:=objs' } o.dst d) K) (h1:Next P G S.objs (X3 P G S o.op o.type) C ⟨⟩):OpT P G o S (λS'=>RT P G dsts l S' K):=by
 unfold X3 at h1;generalize hk:I3 o.op=k at h1;cases k with
 | call x xs =>
   simp only[K3,dw] at h1;split at h1
   ·rename_i l as hd has;obtain⟨ys,ts,ho,rfl⟩:=X8 hk;refine yL ho hd has ?_;have hm:∀ (ob:Option DObj) (C':DV->List DObj->Prop),(∀ d objs',C d objs'->C' d objs')->U0 P G l as S.objs C ob->U0 P G l as S.objs C' ob:=λob C' hcc hy=>by
     unfold U0 at hy ⊢;split at hy
     ·obtain⟨y1,y2,y3,y4⟩:=hy;refine⟨y1,y2,y3,y4.mono λe S' hq=>?_⟩;cases e with
      | normal =>
        refine⟨hq.1,DT.mono hq.2 λe S'' hq'=>?_⟩;cases e<;>first|exact hcc _ _ hq'|exact hq'
      | _=>exact hq
     ·exact hy
    exact hm _ _ (λd objs' hk=>hC _ _ hk) h1
   ·rename_i f l as hd has;obtain⟨ys,ts,ho,rfl⟩:=X8 hk;exact yO ho hd has h1.1 (DCall.mono h1.2 λd objs' hk=>hC _ _ hk)
   ·rename_i d as _ _ hd has;generalize hc:H0 d=c at h1;cases c with
    | none=>exact h1.elim
    | some p =>
      obtain⟨f,caps⟩:=p;obtain⟨ys,ts,ho,rfl⟩:=X8 hk;exact CA ho hd hc has h1.1 (DCall.mono h1.2 λd objs' hk=>hC _ _ hk)
   ·exact h1.elim
 | append t x y =>
   simp only[K3,aq] at h1;split at h1
   ·rename_i s c e hs hc he;split at h1
    ·rename_i sz bytes z xs len h1' h2 h3 h4 h5;generalize hd:cL S.objs s xs sz=r at h1;cases r with
     | none=>exact h1.elim
     | some p =>
       obtain⟨d,objs'⟩:=p;obtain⟨⟨a1,a2,a3,a4,a6⟩,a5⟩:=h1;refine OpT.of_val (uY (fr hk) (H3 he) h1' a1 h2 h3 a2 hs hc h4 a3 hd ?_ ?_) (hC _ _ a5)
       ·rintro o g off len' rfl;cases h5;exact a4
       ·rintro o g off len' rfl;cases h5;exact a6
    ·exact h1.elim
   ·exact h1.elim
 | makeSlice t x y =>
   simp only[K3,du] at h1;split at h1
   ·rename_i a b e hx hy he;split at h1
    ·rename_i sz bytes z g1 g2 g3;obtain⟨⟨a1,a2,a3,a4,rfl,a6,a7⟩,a8⟩:=h1;obtain⟨m,rfl⟩:=Int.eq_ofNat_of_zero_le a4;simp only[Int.toNat_natCast] at a6 a7 a8;exact OpT.of_val (nE (jo hk) (H3 he) g1 a1 g2 g3 a2 a3 hx hy a6 a7) (hC _ _ a8)
    ·exact h1.elim
   ·exact h1.elim
 | next it =>
   simp only[K3,dt] at h1;split at h1
   ·rename_i oI hit;split at h1
    ·rename_i left cur hob;exact Cz (jS hk) hit hob (λe=>hC _ _ (h1.1 e)) (λi x hx=>hC _ _ (h1.2 i x hx))
    ·rename_i b seen c hob;split at h1
     ·rename_i l es hl;exact yM (jS hk) hit hob hl (λe=>hC _ _ (h1.1 e)) (λi s x hx hs hn=>hC _ _ (h1.2 i s x hx hs hn))
     ·exact h1.elim
    ·exact h1.elim
   ·exact h1.elim
 | rng t x =>
   simp only[K3,gx] at h1;split at h1
   ·rename_i oM kt hx ht;split at h1
    ·rename_i ks es hob;split at h1
     ·rename_i hs;exact uZ (tP hk) hx ht (tS hs) hob (λl c b h2 h3 h4=>hC _ _ (h1 l c b h2 h3 h4))
     ·exact h1.elim
    ·exact h1.elim
   ·generalize hd:aH P G S o.op o.type=r at h1;cases r with
    | none=>exact h1.elim
    | some p=>exact OpT.of_val (R1 hd) (hC _ _ h1)
 | eqNil b t x u =>
   simp only[K3,gy] at h1;obtain⟨hk1,hk2⟩:=pD hk;split at h1
   ·rename_i l e hx he;refine vb hk1 hk2 (H3 he) hx λc hc=>?_;have:=hC _ _ (h1 c hc);rcases hk2 with rfl|rfl
    ·simpa using this
    ·simpa using this
   ·generalize hd:aH P G S o.op o.type=r at h1;cases r with
    | none=>exact h1.elim
    | some p=>exact OpT.of_val (R1 hd) (hC _ _ h1)
 | plain =>
   simp only[K3] at h1;generalize hd:aH P G S o.op o.type=r at h1;cases r with
   | none=>exact h1.elim
   | some p=>exact OpT.of_val (R1 hd) (hC _ _ h1)
theorem R5 {dsts:List (Option Tmp)}:∀ (l:List Oper) (S:DS) (K:DS->Prop),sn P G dsts l S K ⟨⟩->RT P G dsts l S K
 | [],S,K,h=>h
 | o :: l,S,K,h=>by
   rw[sn] at h;generalize hb:E1 dsts S o=r at h;cases r with
   | none=>exact h.elim
   | some b=>exact⟨b,hb,λe=>gl (λd objs' hk=>R5 l _ K hk) (h.1 e),λe=>R5 l _ K (h.2 e)⟩
attribute [simp] gq ev
theorem vj {P:Program} {G:LI} {f:FuncId} {args:List DV} {objs:List DObj} {d:DV} {Q:DV->List DObj->Prop} (h:∀ objs,DCall P G f args objs (λd' objs'=>d'=d/\objs'=objs)) (hq:Q d objs):DCall P G f args objs Q:=
 (h objs).mono λd' objs' ⟨h1,h2⟩=>by rw[h1,h2];exact hq
theorem iT {dsts:List (Option Tmp)} {K K':DS->Prop}:∀ {l:List Oper} {S:DS},RT P G dsts l S K->(∀ S,K S->K' S)->RT P G dsts l S K'
 | [],S,h,hk=>hk S h
 | _ :: _,_,⟨b,h1,h2,h3⟩,hk=>⟨b,h1,λe=>λro a M hr=>Oper.wpIn_mono (Q:=λ_ _ _=>False) (λ_ _ ⟨S',M',h4,h5,h6,h8,h7⟩=>⟨S',M',h4,h5,h6,h8,iT h7 hk⟩) (h2 e ro a M hr),λe=>iT (h3 e) hk⟩
def CI (l:List (Nat×DV)):List Nat->List (Nat×DV)
 | []=>[]
 | t :: r=>match o7 l t with
   | some d=>(t,d) :: CI l r
   | none=>CI l r
theorem eC {l:List (Nat×DV)}:∀ {ks:List Nat} {t:Nat} {d:DV},o7 (CI l ks) t=some d->o7 l t=some d
 | [],t,d,h=>by simp[CI,o7] at h
 | k :: r,t,d,h=>by
   simp only[CI] at h;split at h
   ·rename_i e he;simp only[o7] at h;split at h
    ·rename_i hk;subst hk;cases h;exact he
    ·exact eC h
   ·exact eC h
def DS.keep (S:DS) (ks:List Nat):DS:={ S with tmps:=CI S.tmps ks }
theorem Weak.keep {ks:List Nat}:Weak G n S (S.keep ks):=Weak.tmps λ_ _ h=>eC h
theorem C4 {id:Nat} {l:List Oper} (ks:List Nat) (h:sn P G (l.map (·.dst)) l S (λS'=>At Q .normal ⟨⟩ (S'.keep ks)) ⟨⟩):DT P G n (.region id l.toArray false) S Q:=by
 have h1:=jK (id:=id) (n:=n) (Q:=λe S'=>e=.normal/\Q .normal (S'.keep ks)) (iT (R5 l S _ h) (λS' h=>⟨rfl,h⟩));intro hn hd a M hr;refine wpIn_mono (h1 hn hd a M hr) ?_;rintro e a' w' ⟨S',M',rfl,hr',he,hnd,rfl,hq⟩;obtain⟨M2,w2,r2,e2⟩:=Weak.keep (G:=G) (n:=n) (S:=S') (ks:=ks) (by rw[<- hr'.ob];exact he.len) a' M' hr';exact⟨_,M2,w2,r2,he.trans e2,hnd,hq⟩
theorem CallE.pure {f:FuncId} {args:List DV} {objs:List DObj} {d:DV} {Q:DV->List DObj->Prop} {t:Tok Q} (h:∀ objs,DCall P G f args objs (λd' objs'=>d'=d/\objs'=objs)) (hq:Q d objs):CallE P G f args objs Q t:=vj h hq
theorem CallE.any {f:FuncId} {args:List DV} {objs:List DObj} {Q Q0:DV->List DObj->Prop} {t:Tok Q} (h:DCall P G f args objs Q0) (hq:∀ d objs',Q0 d objs'->Q d objs'):CallE P G f args objs Q t:=h.mono hq
theorem Weak.of_keep {S':DS} (ks:List Nat) (h:S.keep ks=S'):Weak G n S S':=by
 subst h;exact Weak.keep
theorem Weak.of_drop {S':DS} (ks:List Nat) (m:Nat) (hm:m<=S.objs.length) (hn:n.n<=m) (h:(S.keep ks).drop m=S'):Weak G n S S':=by
 subst h;exact Weak.keep.trans (Weak.drop hm hn)
def l5 (l:List (List IC)):List (List DC):=l.map (·.map .im)
theorem DZ:l5 []=[]:=rfl
theorem aE (l r:List (List IC)):l5 (l++r)=l5 l++l5 r:=by simp[l5]
theorem q8 (l:List (List IC)):(l5 l).length=l.length:=by simp[l5]
theorem Bd (m:Nat) (objs:List DObj) (c:IC):fz m objs (.im c)=.im c:=rfl
theorem wY (m:Nat) (objs:List DObj) (l:List IC):(l.map .im).map (fz m objs)=l.map .im:=by simp[Bd]
theorem GG (m:Nat) (objs:List DObj) (l:List (List IC)):(l5 l).map (·.map (fz m objs))=l5 l:=by
 simp[l5,Bd]
theorem kO (k m:Nat) (objs:List DObj):∀ (l:List IC),E9 (frz (k+1) m objs) (l.map .im)=some l
 | []=>rfl
 | c :: r=>by rw[List.map_cons,E9,kO k m objs r];rfl
theorem T1 (k m:Nat) (objs:List DObj):∀ (l:List (List IC)),E9 (E9 (frz (k+1) m objs)) (l5 l)=some l
 | []=>rfl
 | c :: r=>by
   have:=T1 k m objs r;simp only[l5] at this ⊢;rw[List.map_cons,E9,kO,this]
theorem fw {l:List (List IC)} {sz:Nat} (h:∀ e∈l,e.length=sz):∀ e∈l5 l,e.length=sz:=by
 intro e he;simp only[l5,List.mem_map] at he;obtain⟨e0,h0,rfl⟩:=he;simpa using h e0 h0
theorem Ea (l:List (List IC)) (i:Nat):(l5 l)[i]?=(l[i]?).map (·.map .im):=by simp[l5]
end
theorem RelM.grow {G:LI} {M:MS} {w':World} {x:Obj} (h:RelM G M) (hw:w'.heap=M.w.heap.push x) (hio:SameIo M.w w'):RelM G { M with w:=w' }/\Ext M.objs.length M { M with w:=w' }:=by
 have hold:∀ b,b<M.w.heap.size->w'.heap[b]?=M.w.heap[b]?:=λb hb=>by
  rw[hw,Array.getElem?_push,if_neg (Nat.ne_of_lt hb)]
 have he:Ext M.objs.length M { M with w:=w' }:=by
  refine⟨Nat.le_refl _,λb hb=>⟨⟨?_,hb.2⟩,hold b hb.1⟩,dj M,by simp only[hw,Array.size_push];omega,λp _ c' hc=>⟨⟨c',hc⟩,rfl⟩,λp _ sz es g nl hv=>⟨sz,es,g,nl,hv,Nat.le_refl _,λ_=>⟨rfl,rfl,λhn=>⟨rfl,?_⟩⟩⟩,λp _ ks es hm=>⟨⟨ks,es,hm⟩,rfl⟩,λp _ r hm=>⟨⟨r,hm⟩,rfl⟩,λp _ d hm hi=>⟨⟨d,hm,hi⟩,rfl⟩,λp _ r hm=>⟨⟨r,hm⟩,rfl⟩,hio⟩
  ·have:=hb.1;simp only[hw,Array.size_push];omega
  ·simp only[I5];rw[hold _ (h.lt p _ hv (by simp[DObj.blk,hn]))]
 refine⟨⟨λo d ho=>(h.objs o d ho).ext he (λ_=>rfl) (λhb=>hold _ (h.lt o d ho hb)),λo d ho hb=>?_,h.inj,λg l hg=>(h.glob g l hg).mono he.ok,λb hF=>?_,h.own⟩,he⟩
 ·have:=h.lt o d ho hb;simp only[hw,Array.size_push];omega
 ·have:=h.fl b hF;simp only[hw,Array.size_push];omega
section
variable {P:Program} {G:LI} {S:DS}
theorem kE {o:Oper} {t e:TypeId} {sz:Nat} {z:List Value} (ho:o.op=.buildSlice t 0 #[]) (ht:P.underlying t=some (.slice e)) (hs:bl P e=some sz) (hz:G3 P e=some z) :
 OpV P G o S (.one (.im .e0)) S.objs:=by
 intro a M hrel;obtain⟨v,hrun,hv⟩:=aY (w:=M.w) hz;have hheap:(M.w.alloc (.cells #[] e)).heap=M.w.heap.push (.cells #[] e):=by unfold World.alloc;rfl
 obtain⟨hm,he⟩:=hrel.m.grow hheap ⟨rfl,rfl,rfl,by first|exact Nat.le_refl _|exact Nat.le_succ _⟩;refine⟨.slice (some ⟨M.w.heap.size,0,none⟩) 0 0,_,.inl ?_,hm,hrel.ob,he,.one _ _ (.im _ _ (.e0 _ (λb hb=>by cases hb;rfl)))⟩;simp only[execOp,ho,Instr.buildSlice,Sem.run_bind,e8 ht,Result.andThen_ok,p5 hs];have h00:(Array.range 0).map (λ_=>(default:Value))=#[]:=by simp
 simp[Instr.fill,newRow,newObj,Sem.run,h00]
theorem sA {o:Oper} {t e:TypeId} {sz bytes:Nat} {z:List Value} {x y:Operand} {c:DC} {l:List (List IC)}
 (ho:o.op=.call { callee:=.builtin .append,args:=#[x,y],argTypes:=#[t,t] }) (ht:P.underlying t=some (.slice e)) (hs:bl P e=some sz) (h0:0<sz) (hby:bo P e=some bytes) (hz:G3 P e=some z) (hzl:z.length=sz)
 (hx:j6 G S x=some (.one (.im .e0))) (hy:j6 G S y=some (.one c)) (hel:ed S.objs c=some (l5 l)) (hsz:∀ e∈l,e.length=sz)
 (hb:l.length*bytes<=140737488355328) (hb1:l.length<=9223372036854775807):OpV P G o S (.one (.im (.sl l))) S.objs:=by
 intro a M hr;have hp:=i9 hr hx;have hq:=i9 hr hy;generalize hv:a.eval x=v at hp;generalize hu:a.eval y=u at hq;rw[<- hr.ob] at hel;cases hp with
 | one _ _ hp=>cases hq with
   | one _ _ hq =>
   cases hp with
   | im _ _ hp =>
   cases hp with
   | e0 a0 ha0 =>
   obtain⟨ax,capx,rfl,hax,f,hf,hrep⟩:=iD hr.m hq hel (fw hsz);rw[q8] at hax hf hu;have hrun:∀ w',((Builtin.append_ #[t,t] o.type #[.slice a0 0 0,.slice ax l.length capx]).run P M.w=w')->(execOp a.eval o).run P M.w=w'.andThen λv w=>.ok (.value v) w:=λw' h=>by
    simp only[execOp,ho,Sem.run_bind,resolve,invoke,builtin,List.map_toArray,List.map_cons,List.map_nil,hv,hu,Sem.run_pure,Result.andThen_ok,h]
   have hfirst:=fj (P:=P) (sz:=sz) (cap:=capx) hax f (λb hb=>⟨λhne=>(hf b hb).1 λe=>hne (by have:=congrArg List.length e;simpa[q8] using this),(hf b hb).2⟩);simp only[bo,Option.map_eq_some_iff] at hby;obtain⟨inf,hinf,rfl⟩:=hby;have hinfs:inf.size=sz:=by simp only[bl,hinf,Option.map_some,Option.some.injEq] at hs;exact hs
   simp only[G3,hinf,Option.bind_some,Option.map_eq_some_iff] at hz;obtain⟨zv,hzv,rfl⟩:=hz;by_cases hl:l.length=0
   ·have hln:l=[]:=List.length_eq_zero_iff.1 hl;subst hln;refine⟨.slice a0 0 0,M,.inl ?_,hr.m,hr.ob,Ext.refl M,.one _ _ (.im _ _ ?_)⟩
    ·rw[hrun (.ok (.slice a0 0 0) M.w)]
     ·rfl
     ·simp only[List.length_nil] at hfirst ⊢;cases a0<;>simp[Builtin.append_,e8 ht,p5 hs,Builtin.lenOf,hfirst,storeCells]
    ·cases a0 with
     | none=>exact .slnil
     | some b=>exact .sl [] b 0 sz (λ_ _=>undef) (ha0 b rfl) (λh=>absurd rfl h) (Nat.le_refl _) (λi x hx=>by simp at hx) (λi x j c hx=>by simp at hx) (λi x j c hx=>by simp at hx)
   ·have hpos:0<l.length:=Nat.pos_of_ne_zero hl;cases ax with
    | none=>exact absurd (hax rfl) hl
    | some ad =>
      have hnews:∀ (j:Nat) (v:Value),((List.range (l.length*sz)).map f)[j]?=some v->M.w.cell? (ad.add j)=some v:=λj v hj=>by
       obtain⟨h7,h8⟩:=hf ad rfl;have hlt:j<l.length*sz:=by simpa using e7 hj
       rw[H2 (h7 λe=>by simp only[List.length_eq_zero_iff,l5,List.map_eq_nil_iff] at e;subst e;simp at hlt),h8 j hlt];rw[List.getElem?_map,List.getElem?_range hlt] at hj;simpa using hj
      have fresh:∀ (cap':Nat) (zc:Array Value),l.length<=cap' ->
       (Builtin.append_ #[t,t] o.type #[.slice a0 0 0,.slice (some ad) l.length capx]).run P M.w=.ok (.slice (some ⟨M.w.heap.size,0,none⟩) l.length cap') (M.w.drew.alloc (.cells (((List.range (l.length*sz)).map f).toArray++zc) e)) ->
       ∃ v M',((execOp a.eval o).run P M.w=.ok (.value v) M'.w\/((execOp a.eval o).run P M.w=.ok .skip M'.w/\v=undef))/\RelM G M'/\M'.objs=S.objs/\Ext M.objs.length M M'/\RepV M' (.one (.im (.sl l))) v:=by
       intro cap' zc hcap happ;have hheap:(M.w.drew.alloc (.cells (((List.range (l.length*sz)).map f).toArray++zc) e)).heap=M.w.heap.push (.cells (((List.range (l.length*sz)).map f).toArray++zc) e):=by unfold World.alloc;rfl
       obtain⟨hm,he⟩:=hr.m.grow hheap ⟨rfl,rfl,rfl,by first|exact Nat.le_refl _|exact Nat.le_succ _⟩;refine⟨_,{ M with w:=M.w.drew.alloc (.cells (((List.range (l.length*sz)).map f).toArray++zc) e) },.inl (by rw[hrun _ happ];rfl),hm,hr.ob,he,.one _ _ (.im _ _ ?_)⟩;have key:∀ (i:Nat) (x:List IC) (j:Nat) (c:IC),l[i]?=some x->x[j]?=some c->i*sz+j<l.length*sz:=λi x j c hi hj=>by
        have hxl:=hsz x (List.mem_of_getElem? hi);have h1:=e7 hi;have h2:=e7 hj;have hmul:(i+1)*sz<=l.length*sz:=Nat.mul_le_mul_right sz h1;rw[Nat.add_mul,Nat.one_mul] at hmul;omega
       refine .sl l ⟨M.w.heap.size,0,none⟩ cap' sz (λi j=>f (i*sz+j)) rfl (λ_=>?_) hcap (λi x hx=>hsz x (List.mem_of_getElem? hx)) (λi x j c hi hj=>?_) (λi x j c hi hj=>?_)
       ·refine⟨⟨by simp[hheap],?_⟩,?_⟩
        ·rintro⟨o',d',ho',hb',hβ⟩;have:=hr.m.lt o' d' ho' hb';simp only at hβ;omega
        ·intro hF;have:=hr.m.fl _ hF;simp only at this;omega
       ·have hin:=key i x j c hi hj;simp only[World.cell?,hheap,Array.getElem?_push_size,Nat.zero_add];rw[Array.getElem?_append_left (by simpa using hin)];simp[hin]
       ·have hin:=key i x j c hi hj;have h1:=hrep i (x.map .im) j (.im c) (by simp[l5,hi]) (by simp[hj]);cases h1 with
        | im _ _ h1=>exact h1.mono λb hb=>⟨he.ok b hb |>.1,(he.ok b hb).2⟩
      cases a0 with
      | none =>
        have happ:=run_append_nil (P:=P) M.w t o.type e inf zv ht hinf hzv ad l.length capx ((List.range (l.length*sz)).map f) (by simp[hinfs]) hnews hpos (by omega) (by omega);have hge:=grownCap_ge M.w l.length 0 e;exact fresh (grownCap M.w l.length 0 e) (Builtin.zeroCells zv.cells (grownCap M.w l.length 0 e-l.length)) (by simpa using hge) happ
      | some b =>
        have happ:=run_append_grow (P:=P) M.w t o.type e inf zv ht hinf hzv b 0 0 [] (by simp) (λj v hj=>by simp at hj) ad l.length capx ((List.range (l.length*sz)).map f) (by simp[hinfs]) hnews (by omega) (by omega) (growslice_fits (by omega) (by rw[Nat.zero_add];exact hb));have hge:=grownCap_ge M.w (0+l.length) 0 e;refine fresh (grownCap M.w (0+l.length) 0 e) (Builtin.zeroCells zv.cells (grownCap M.w (0+l.length) 0 e-(0+l.length))) (by omega) ?_;simpa using happ
end
end Go.Ab
