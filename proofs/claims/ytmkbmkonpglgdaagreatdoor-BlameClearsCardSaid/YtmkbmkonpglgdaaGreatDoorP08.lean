/- Part 8 of the proofs: laws and walks that hold without conditions beyond those that each theorem names. -/
import Derived.Test.YtmkbmkonpglgdaaGreatDoorP07
set_option linter.all false
set_option linter.deprecated false
namespace Go.Ab
open Go
def telem (P:Program) (t:TypeId):Option TypeId:=match P.underlying t with
 | some (.slice e)=>some e
 | _=>none
def tarr (P:Program) (t:TypeId):Option (Nat×TypeId):=match P.underlying t with
 | some (.array n e)=>some (n,e)
 | _=>none
def tint (P:Program) (t:TypeId):Option IntKind:=match P.underlying t with
 | some (.int k)=>some k
 | _=>none
def tbool (P:Program) (t:TypeId):Bool:=match P.underlying t with
 | some .bool=>true
 | _=>false
theorem telem_spec {P:Program} {t e:TypeId} (h:telem P t=some e):P.underlying t=some (.slice e):=by
 unfold telem at h
 split at h
 ·rename_i hu;cases h;exact hu
 ·cases h
theorem tarr_spec {P:Program} {t e:TypeId} {n:Nat} (h:tarr P t=some (n,e)):P.underlying t=some (.array n e):=by
 unfold tarr at h
 split at h
 ·rename_i hu;cases h;exact hu
 ·cases h
theorem tint_spec {P:Program} {t:TypeId} {k:IntKind} (h:tint P t=some k):P.underlying t=some (.int k):=by
 unfold tint at h
 split at h
 ·rename_i hu;cases h;exact hu
 ·cases h
theorem tbool_spec {P:Program} {t:TypeId} (h:tbool P t=true):P.underlying t=some .bool:=by
 unfold tbool at h
 split at h
 ·assumption
 ·cases h
def rawD (v:Value):DV:=.one (.im (.raw v))
def tfield (P:Program) (t:TypeId) (f:Nat):Option (Nat×Nat×Bool):=
 match P.underlying t with
 | some (.struct fs)=>match fs[f]? with
   | some x=>match tsz P x.type,tag P x.type with
     | some s,some g=>some (x.offset,s,g)
     | _,_=>none
   | none=>none
 | _=>none
def dbuiltin (P:Program) (G:Nat→Option (List IC)) (S:DS) (b:Builtin) (args:List Operand) (ts:List TypeId):Option (DV×List DObj):=
 match b,args,ts with
 | .len,[x],[t]=>match evalG G S x,telem P t with
   | some (.one c),some _=>(dlen S.objs c).map fun (n:Nat)=>(rawD (.int .i64 (n:Int)),S.objs)
   | some (.one c),none=>match tmap P t with
     | some _=>match c with
       | .im c=>(dlenMapI (.im c)).map fun (n:Nat)=>(rawD (.int .i64 (n:Int)),S.objs)
       | c=>(dlenMap S.objs c).map fun (n:Nat)=>(rawD (.int .i64 (n:Int)),S.objs)
     | none=>none
   | _,_=>none
 | .delete,[m,k],[t,_]=>ddelete P G S t m k
 | .clear,[x],[t]=>dclear P G S t x
 | .max,[x,y],_=>match rawOf (evalG G S x),rawOf (evalG G S y) with
   | some (.int k a),some (.int k' b)=>if k=k' then some (rawD (.int k (max a b)),S.objs) else none
   | _,_=>none
 | .min,[x,y],_=>match rawOf (evalG G S x),rawOf (evalG G S y) with
   | some (.int k a),some (.int k' b)=>if k=k' then some (rawD (.int k (min a b)),S.objs) else none
   | _,_=>none
 | _,_,_=>none
def dcmp (P:Program) (G:Nat→Option (List IC)) (S:DS) (op:BinOp) (t:TypeId) (x y:Operand):Option (DV×List DObj):=
 if op=.eql∨op=.neq then match y with
  | .const (.slice none 0 0)=>match evalG G S x,telem P t with
    | some (.one c),some _=>(dnil S.objs c).map fun b=>(rawD (.bool (if op=.eql then b else !b)),S.objs)
    | _,_=>none
  | y=>match evalG G S x,evalG G S y,eqShape P t with
    | some (.agg lx),some (.agg ly),some ks=>match raws lx,raws ly with
      | some vx,some vy=>if shapeOk ks vx=true∧shapeOk ks vy=true then some (rawD (.bool (if op=.eql then beqs vx vy else !beqs vx vy)),S.objs) else none
      | _,_=>none
    | some (.agg lx),some (.agg ly),none=>match raws lx,raws ly,eqWide P t with
      | some vx,some vy,some ks=>if shapeOk ks vx=true∧shapeOk ks vy=true then some (rawD (.bool (if op=.eql then beqs vx vy else !beqs vx vy)),S.objs) else none
      | _,_,_=>none
    | _,_,_=>none
 else none
theorem dcmp_sound {P:Program} {G:Nat→Option (List IC)} {S:DS} {o:Oper} {op:BinOp} {t u:TypeId} {x y:Operand} {d:DV} {objs':List DObj} (ho:o.op=.binOp op t x y u) (h:dcmp P G S op t x y=some (d,objs')):OpV P G o S d objs':=by
 unfold dcmp at h
 split at h
 ·rename_i hop
  split at h
  ·split at h
   ·rename_i h1 h2
    simp only [Option.map_eq_some_iff,Prod.mk.injEq] at h
    obtain ⟨b,h3,rfl,rfl⟩:=h
    exact OpV_eqNil ho hop (telem_spec h2) h1 h3
   ·cases h
  ·split at h
   ·rename_i h1 h2 h3
    split at h
    ·rename_i h4 h5
     split at h
     ·rename_i hs;cases h;exact OpV_eqStruct ho hop h3 h1 h2 h4 h5 hs.1 hs.2
     ·cases h
    ·cases h
   ·rename_i h1 h2 h3
    split at h
    ·rename_i h4 h5 h6
     split at h
     ·rename_i hs;cases h;exact OpV_eqWide ho hop h6 h1 h2 h4 h5 hs.1 hs.2
     ·cases h
    ·cases h
   ·cases h
 ·cases h
def dstep (P:Program) (G:Nat→Option (List IC)) (S:DS) (op:Op) (ty:TypeId):Option (DV×List DObj):=
 match op with
 | .move x=>(evalG G S x).map (·,S.objs)
 | .assign x=>match x with
   | .const (.slice none 0 0)=>match telem P ty with
     | some e=>match tsz P e with
       | some sz=>some (.one (.vec S.objs.length 0 0 0),S.objs ++ [.vec sz [] 0 true])
       | none=>none
     | none=>none
   | x=>(evalG G S x).map (·,S.objs)
 | .pick c a b=>match rawOf (evalG G S c) with
   | some (.bool t)=>(if t then evalG G S a else evalG G S b).map (·,S.objs)
   | _=>none
 | .binOp op t x y _=>match rawOf (evalG G S x),rawOf (evalG G S y) with
   | some (.bool b),some (.bool c)=>if tbool P t=true∧(op=.eql∨op=.neq) then some (rawD (.bool (if op=.eql then b == c else b != c)),S.objs) else none
   | some v,some u=>(dbin op v u).map (rawD ·,S.objs)
   | _,_=>dcmp P G S op t x y
 | .makeFunc fn first cs=>if first.toList=[] then match evals G S cs.toList with
  | some ds=>(ones ds).map fun caps=>(.one (.fn fn caps),S.objs)
  | none=>none
   else if cs.toList=[] then match evals G S first.toList with
    | some ds=>(imsOf ds).map fun l=>(.one (.im (.bf fn l)),S.objs)
    | none=>none
   else none
 | .unOp op _ x=>match rawOf (evalG G S x) with
   | some v=>(dunop op v).map (rawD ·,S.objs)
   | none=>none
 | .convert s t x=>match rawOf (evalG G S x),tint P t,tint P s with
   | some (.int _ n),some k',some _=>some (rawD (.int k' (k'.wrap n)),S.objs)
   | _,_,_=>none
 | .load t x=>match evalG G S x,tsz P t,tag P t with
   | some (.one p),some sz,some ag=>match dload S.objs p sz with
     | some l=>(mkDV ag l).map (·,S.objs)
     | none=>none
   | _,_,_=>none
 | .store t x y=>match evalG G S x,evalG G S y,tsz P t with
   | some (.one p),some d,some sz=>match d.cells with
     | some l=>if l.length=sz then (dstore S.objs p l).map (.tup [],·) else none
     | none=>none
   | _,_,_=>none
 | .fieldAddr t x f=>match evalG G S x,toff P t f with
   | some (.one p),some off=>if isAddr p S.objs=true then (dadd p off).map (.one ·,S.objs) else none
   | _,_=>none
 | .indexAddr t x y=>match evalG G S x,rawOf (evalG G S y) with
   | some (.one p),some (.int _ i)=>match telem P t with
     | some e=>match tsz P e with
       | some sz=>(dindex S.objs p i sz).map (.one ·,S.objs)
       | none=>none
     | none=>match tarr P t with
       | some (n,e)=>match tsz P e with
         | some sz=>if 0≤i∧i < n∧isAddr p S.objs=true then (dadd p (i.toNat * sz)).map (.one ·,S.objs) else none
         | none=>none
       | none=>none
   | _,_=>none
 | .field t x f=>match evalG G S x,tfield P t f with
   | some (.agg l),some (off,sz,g)=>if off + sz≤l.length then (mkDV g ((l.drop off).take sz)).map (·,S.objs) else none
   | _,_=>none
 | .extract x i=>match evalG G S x with
   | some (.tup l)=>(l[i]?).map (·,S.objs)
   | _=>none
 | .nilCheck x=>match evalG G S x with
   | some (.one (.im (.fn (.func f) caps)))=>some (.one (.im (.fn (.func f) caps)),S.objs)
   | some (.one (.fn (.func f) caps))=>some (.one (.fn (.func f) caps),S.objs)
   | some (.one c)=>if isAddr c S.objs=true then some (.one c,S.objs) else none
   | _=>none
 | .box _ x=>match evalG G S x with
   | some d=>d.cells.map fun l=>(.one (.ptr S.objs.length 0),S.objs ++ [.row l])
   | none=>none
 | .alloc t=>match tzero P t with
   | some l=>if l.all Plain=true then some (.one (.ptr (S.objs.length + (zcells l S.objs.length).2.length) 0),S.objs ++ (zcells l S.objs.length).2 ++ [.row (zcells l S.objs.length).1]) else none
   | none=>none
 | .build t ps=>match tzero P t,placesOf P t,partsOf G S ps.toList with
   | some z,some pl,some qs=>if z.all Plain=true then (dfill (pl[·]?) (z.map zic) qs).map (.agg ·,S.objs) else none
   | _,_,_=>none
 | .buildSlice t n ps=>match telem P t with
   | some e=>match tsz P e,tzero P e,partsOf G S ps.toList with
     | some sz,some z,some qs=>if 0 < sz∧z.length=sz∧z.all Plain=true∧n * sz≤16777216 then
      (dfill (fun i=>some (i * sz,sz)) (List.replicate (n * sz) .dead) qs).map fun r=>(.one (.vec S.objs.length 0 0 n),S.objs ++ [.vec sz (chunk sz r n) 0 false])
       else none
     | _,_,_=>none
   | none=>none
 | .slice t x lo hi none=>match evalG G S x,telem P t,optI G S lo,optI G S hi with
   | some (.one c),some e,some il,some ih=>match tsz P e with
     | some sz=>(dslice S.objs c (il.getD 0) ih sz).map (.one ·,S.objs)
     | none=>none
   | _,_,_,_=>none
 | .call c=>match c.callee with
   | .builtin b=>dbuiltin P G S b c.args.toList c.argTypes.toList
   | _=>none
 | .makeMap t r=>dmakeMap P G S t r
 | .lookup t m k ok=>match evalG G S m with
   | some (.one (.im _))=>dlookupI P G S t m k ok
   | _=>dlookup P G S t m k ok
 | .range t x=>drange P G S t x
 | .entry it=>dentry G S it
 | .index t x i=>dindexA P G S t x i
 | .mapUpdate t m k v=>dmapUpdate P G S t m k v
 | .insert t m k v=>dmapUpdate P G S t m k v
 | _=>none
theorem dbuiltin_sound {P:Program} {G:Nat→Option (List IC)} {S:DS} {o:Oper} {c:Call} {b:Builtin} {d:DV} {objs':List DObj} (ho:o.op=.call c) (hb:c.callee=.builtin b)
 (h:dbuiltin P G S b c.args.toList c.argTypes.toList=some (d,objs')):OpV P G o S d objs':=by
 obtain ⟨cal,args,ts⟩:=c
 simp only at hb h
 subst hb
 unfold dbuiltin at h
 split at h
 ·rename_i x t hx ht
  have e1:args=#[x]:=Array.toList_inj.1 hx
  have e2:ts=#[t]:=Array.toList_inj.1 ht
  subst e1
  subst e2
  split at h
  ·rename_i h1 h2
   simp only [Option.map_eq_some_iff,Prod.mk.injEq] at h
   obtain ⟨w,h5,rfl,rfl⟩:=h
   exact OpV_len ho (telem_spec h2) h1 h5
  ·rename_i h1 h2
   split at h
   ·rename_i ke hke
    split at h
    ·simp only [Option.map_eq_some_iff,Prod.mk.injEq] at h
     obtain ⟨w,h5,rfl,rfl⟩:=h
     exact OpV_lenMapI (k:=ke.1) (e:=ke.2) ho hke h1 h5
    ·simp only [Option.map_eq_some_iff,Prod.mk.injEq] at h
     obtain ⟨w,h5,rfl,rfl⟩:=h
     exact OpV_lenMap (k:=ke.1) (e:=ke.2) ho hke h1 h5
   ·cases h
  ·cases h
 ·rename_i m k t u hx ht
  have e1:args=#[m,k]:=Array.toList_inj.1 hx
  have e2:ts=#[t,u]:=Array.toList_inj.1 ht
  subst e1
  subst e2
  exact OpV_delete ho h
 ·rename_i x t hx ht
  have e1:args=#[x]:=Array.toList_inj.1 hx
  have e2:ts=#[t]:=Array.toList_inj.1 ht
  subst e1
  subst e2
  exact OpV_clear ho h
 ·rename_i _ _ x y hx
  have e1:args=#[x,y]:=Array.toList_inj.1 hx
  subst e1
  split at h
  ·rename_i h1 h2
   split at h
   ·rename_i hk;subst hk;cases h;exact OpV_max ho h1 h2
   ·cases h
  ·cases h
 ·rename_i _ _ x y hx
  have e1:args=#[x,y]:=Array.toList_inj.1 hx
  subst e1
  split at h
  ·rename_i h1 h2
   split at h
   ·rename_i hk;subst hk;cases h;exact OpV_min ho h1 h2
   ·cases h
  ·cases h
 ·cases h
theorem dstep_sound {P:Program} {G:Nat→Option (List IC)} {S:DS} {o:Oper} {d:DV} {objs':List DObj} (h:dstep P G S o.op o.type=some (d,objs')):OpV P G o S d objs':=by
 obtain ⟨dst,op,ty,pos,aft,grd⟩:=o
 simp only at h
 unfold dstep at h
 split at h
 ·simp only [Option.map_eq_some_iff,Prod.mk.injEq] at h
  obtain ⟨d',h1,rfl,rfl⟩:=h
  exact OpV_move (.inl rfl) h1
 ·split at h
  ·split at h
   ·split at h
    ·cases h;exact OpV_nil _ rfl
    ·cases h
   ·cases h
  ·simp only [Option.map_eq_some_iff,Prod.mk.injEq] at h
   obtain ⟨d',h1,rfl,rfl⟩:=h
   exact OpV_move (.inr rfl) h1
 ·split at h
  ·rename_i t ht
   simp only [Option.map_eq_some_iff,Prod.mk.injEq] at h
   obtain ⟨d',h1,rfl,rfl⟩:=h
   exact OpV_pick rfl ht h1
  ·cases h
 ·split at h
  ·rename_i b c hb hc
   split at h
   ·rename_i hcond
    cases h
    exact OpV_eqBool rfl (tbool_spec hcond.1) hcond.2 hb hc
   ·cases h
  ·rename_i v u _ hv hu
   simp only [Option.map_eq_some_iff,Prod.mk.injEq] at h
   obtain ⟨w,h1,rfl,rfl⟩:=h
   exact OpV_bin rfl hv hu h1
  ·exact dcmp_sound rfl h
 ·split at h
  ·rename_i hf
   split at h
   ·rename_i ds hds
    simp only [Option.map_eq_some_iff,Prod.mk.injEq] at h
    obtain ⟨caps,h1,rfl,rfl⟩:=h
    have hfe:=Array.toList_inj.1 (hf.trans (List.toList_toArray (as:=[])).symm)
    subst hfe
    exact OpV_makeFunc rfl hds h1
   ·cases h
  ·split at h
   ·rename_i hcs
    split at h
    ·rename_i ds hds
     simp only [Option.map_eq_some_iff,Prod.mk.injEq] at h
     obtain ⟨l,h1,rfl,rfl⟩:=h
     have hce:=Array.toList_inj.1 (hcs.trans (List.toList_toArray (as:=[])).symm)
     subst hce
     exact OpV_makeFuncB rfl hds h1
    ·cases h
   ·cases h
 ·split at h
  ·rename_i v hv
   simp only [Option.map_eq_some_iff,Prod.mk.injEq] at h
   obtain ⟨w,h1,rfl,rfl⟩:=h
   exact OpV_un rfl hv h1
  ·cases h
 ·split at h
  ·rename_i h1 h2 h3
   cases h
   exact OpV_conv rfl ⟨_,tint_spec h3⟩ (tint_spec h2) h1
  ·cases h
 ·split at h
  ·rename_i h1 h2 h3
   split at h
   ·rename_i l hl
    simp only [Option.map_eq_some_iff,Prod.mk.injEq] at h
    obtain ⟨w,h4,rfl,rfl⟩:=h
    exact OpV_load rfl h2 h3 h1 hl h4
   ·cases h
  ·cases h
 ·split at h
  ·rename_i h1 h2 h3
   split at h
   ·rename_i l hl
    split at h
    ·rename_i hsz
     simp only [Option.map_eq_some_iff,Prod.mk.injEq] at h
     obtain ⟨w,h4,rfl,rfl⟩:=h
     exact OpV_store rfl h3 h1 h2 hl hsz h4
    ·cases h
   ·cases h
  ·cases h
 ·split at h
  ·rename_i h1 h2
   split at h
   ·rename_i ha
    simp only [Option.map_eq_some_iff,Prod.mk.injEq] at h
    obtain ⟨w,h4,rfl,rfl⟩:=h
    exact OpV_fieldAddr rfl h2 h1 ha h4
   ·cases h
  ·cases h
 ·split at h
  ·rename_i h1 h2
   split at h
   ·rename_i e he
    split at h
    ·rename_i sz hs
     simp only [Option.map_eq_some_iff,Prod.mk.injEq] at h
     obtain ⟨w,h4,rfl,rfl⟩:=h
     exact OpV_index rfl (telem_spec he) hs h1 h2 h4
    ·cases h
   ·split at h
    ·rename_i n e he
     split at h
     ·rename_i sz hs
      split at h
      ·rename_i hc
       simp only [Option.map_eq_some_iff,Prod.mk.injEq] at h
       obtain ⟨w,h4,rfl,rfl⟩:=h
       exact OpV_indexArr rfl (tarr_spec he) hs h1 h2 hc.1 hc.2.1 hc.2.2 h4
      ·cases h
     ·cases h
    ·cases h
  ·cases h
 ·split at h
  ·rename_i h1 h2
   split at h
   ·rename_i hle
    simp only [Option.map_eq_some_iff,Prod.mk.injEq] at h
    obtain ⟨w,h4,rfl,rfl⟩:=h
    unfold tfield at h2
    split at h2
    ·rename_i fs hu
     split at h2
     ·rename_i y hy
      split at h2
      ·rename_i s g hs hg
       cases h2
       exact OpV_field rfl hu hy rfl rfl hs hg h1 hle h4
      ·cases h2
     ·cases h2
    ·cases h2
   ·cases h
  ·cases h
 ·split at h
  ·rename_i h1
   simp only [Option.map_eq_some_iff,Prod.mk.injEq] at h
   obtain ⟨w,h4,rfl,rfl⟩:=h
   exact OpV_extract rfl h1 h4
  ·cases h
 ·split at h
  ·rename_i h1;cases h;exact OpV_nilCheck rfl h1 (.inr (.inl ⟨_,_,rfl⟩))
  ·rename_i h1;cases h;exact OpV_nilCheck rfl h1 (.inr (.inr ⟨_,_,rfl⟩))
  ·rename_i h1
   split at h
   ·rename_i ha;cases h;exact OpV_nilCheck rfl h1 (.inl ha)
   ·cases h
  ·cases h
 ·split at h
  ·rename_i h1
   simp only [Option.map_eq_some_iff,Prod.mk.injEq] at h
   obtain ⟨w,h4,rfl,rfl⟩:=h
   exact OpV_box rfl h1 h4
  ·cases h
 ·split at h
  ·rename_i h1
   split at h
   ·rename_i hp;cases h;exact OpV_alloc rfl h1 hp
   ·cases h
  ·cases h
 ·split at h
  ·rename_i h1 h2 h3
   split at h
   ·rename_i hp
    simp only [Option.map_eq_some_iff,Prod.mk.injEq] at h
    obtain ⟨w,h4,rfl,rfl⟩:=h
    exact OpV_build rfl h1 hp h2 h3 h4
   ·cases h
  ·cases h
 ·split at h
  ·rename_i e he
   split at h
   ·rename_i h1 h2 h3
    split at h
    ·rename_i hc
     simp only [Option.map_eq_some_iff,Prod.mk.injEq] at h
     obtain ⟨w,h4,rfl,rfl⟩:=h
     exact OpV_buildSlice rfl (telem_spec he) h1 h2 hc.1 hc.2.1 hc.2.2.1 hc.2.2.2 h3 h4
    ·cases h
   ·cases h
  ·cases h
 ·split at h
  ·rename_i h1 h2 h3 h4
   split at h
   ·rename_i sz hs
    simp only [Option.map_eq_some_iff,Prod.mk.injEq] at h
    obtain ⟨w,h5,rfl,rfl⟩:=h
    exact OpV_slice rfl (telem_spec h2) hs h1 h3 h4 h5
   ·cases h
  ·cases h
 ·split at h
  ·rename_i b hb
   exact dbuiltin_sound rfl hb h
  ·cases h
 ·exact OpV_makeMap rfl h
 ·split at h
  ·exact OpV_lookupI rfl h
  ·exact OpV_lookup rfl h
 ·exact OpV_range rfl h
 ·exact OpV_entry rfl h
 ·exact OpV_indexA rfl h
 ·exact OpV_mapUpdate (.inl rfl) h
 ·exact OpV_mapUpdate (.inr rfl) h
 ·cases h
def CallOk (P:Program) (f:FuncId):Prop:=∀ args w,(callFunc f args).run P w=.ok (.enter f args) w
inductive Kind where
 | call (x:Operand) (xs:List Operand)
 | append (t:TypeId) (x y:Operand)
 | makeSlice (t:TypeId) (x y:Operand)
 | next (it:Operand)
 | rng (t:TypeId) (x:Operand)
 | eqNil (op:BinOp) (t:TypeId) (x:Operand) (u:TypeId)
 | plain
def kindOf:Op→Kind
 | .call c=>match c.callee,c.args.toList,c.argTypes.toList with
   | .value x,xs,_=>.call x xs
   | .builtin .append,[x,y],[t,u]=>if t=u then .append t x y else .plain
   | _,_,_=>.plain
 | .makeSlice t x y=>.makeSlice t x y
 | .next it false=>.next it
 | .range t x=>.rng t x
 | .binOp .eql t x (.const (.slice none 0 0)) u=>.eqNil .eql t x u
 | .binOp .neq t x (.const (.slice none 0 0)) u=>.eqNil .neq t x u
 | _=>.plain
theorem kindOf_call {op:Op} {x:Operand} {xs:List Operand} (h:kindOf op=.call x xs):∃ ys ts,op=.call { callee:=.value x,args:=ys,argTypes:=ts }∧ys.toList=xs:=by
 unfold kindOf at h
 split at h
 ·rename_i c
  obtain ⟨cal,args,ts⟩:=c
  split at h
  ·rename_i hc
   simp only at hc
   subst hc
   cases h
   exact ⟨_,_,rfl,rfl⟩
  ·split at h<;>cases h
  ·cases h
 ·cases h
 ·cases h
 ·cases h
 ·cases h
 ·cases h
 ·cases h
theorem kindOf_append {op:Op} {t:TypeId} {x y:Operand} (h:kindOf op=.append t x y):op=.call { callee:=.builtin .append,args:=#[x,y],argTypes:=#[t,t] }:=by
 unfold kindOf at h
 split at h
 ·rename_i c
  obtain ⟨cal,args,ts⟩:=c
  split at h
  ·cases h
  ·rename_i h1 h2 h3
   simp only at h1 h2 h3
   subst h1
   split at h
   ·rename_i e
    subst e
    cases h
    rw [show args=_ from Array.toList_inj.1 (h2.trans List.toList_toArray.symm),show ts=_ from Array.toList_inj.1 (h3.trans List.toList_toArray.symm)]
   ·cases h
  ·cases h
 ·cases h
 ·cases h
 ·cases h
 ·cases h
 ·cases h
 ·cases h
theorem kindOf_makeSlice {op:Op} {t:TypeId} {x y:Operand} (h:kindOf op=.makeSlice t x y):op=.makeSlice t x y:=by
 unfold kindOf at h
 split at h
 ·split at h
  ·cases h
  ·split at h<;>cases h
  ·cases h
 ·cases h;rfl
 ·cases h
 ·cases h
 ·cases h
 ·cases h
 ·cases h
theorem kindOf_next {op:Op} {it:Operand} (h:kindOf op=.next it):op=.next it false:=by
 unfold kindOf at h
 split at h
 ·split at h
  ·cases h
  ·split at h<;>cases h
  ·cases h
 ·cases h
 ·cases h;rfl
 ·cases h
 ·cases h
 ·cases h
 ·cases h
theorem kindOf_rng {op:Op} {t:TypeId} {x:Operand} (h:kindOf op=.rng t x):op=.range t x:=by
 unfold kindOf at h
 split at h
 ·split at h
  ·cases h
  ·split at h<;>cases h
  ·cases h
 ·cases h
 ·cases h
 ·cases h;rfl
 ·cases h
 ·cases h
 ·cases h
theorem kindOf_eqNil {op:Op} {b:BinOp} {t u:TypeId} {x:Operand} (h:kindOf op=.eqNil b t x u):op=.binOp b t x (.const (.slice none 0 0)) u∧(b=BinOp.eql∨b=BinOp.neq):=by
 unfold kindOf at h
 split at h
 ·split at h
  ·cases h
  ·split at h<;>cases h
  ·cases h
 ·cases h
 ·cases h
 ·cases h
 ·cases h;exact ⟨rfl,.inl rfl⟩
 ·cases h;exact ⟨rfl,.inr rfl⟩
 ·cases h
theorem OpT_eqNilI {P:Program} {G:Nat→Option (List IC)} {S:DS} {o:Oper} {op:BinOp} {t e u:TypeId} {x:Operand} {l:List (List IC)} {K:DS→Prop} (ho:o.op=.binOp op t x (.const (.slice none 0 0)) u) (hop:op=.eql∨op=.neq) (ht:P.underlying t=some (.slice e))
 (hx:evalG G S x=some (.one (.im (.sl l)))) (h:∀ b:Bool,(b=true→l=[])→K ({ S with objs:=S.objs }.put o.dst (.one (.im (.raw (.bool (if op=BinOp.eql then b else !b))))))):OpT P G o S K:=by
 intro ro a M hr
 have e1:=evalG_sound hr hx
 generalize hv:a.eval x=v at e1
 have hval:∃ p n c,v=.slice p n c∧(p.isNone=true→l=[]):=by
  cases e1 with
  | one _ _ hp=>cases hp with
    | im _ _ hp=>cases hp with
      | slnil=>exact ⟨none,0,0,rfl,fun _=>rfl⟩
      | sl=>exact ⟨_,_,_,rfl,fun h=>by simp at h⟩
      | slz=>exact ⟨_,_,_,rfl,fun h=>by simp at h⟩
 obtain ⟨p,n,cc,rfl,hp⟩:=hval
 have heq:(Op.equal t (.slice p n cc) (.slice none 0 0)).run P M.w=.ok p.isNone M.w:=by
  have key:∀ d,(Op.equalIn (d + 1) t (.slice p n cc) (.slice none 0 0)).run P M.w=.ok p.isNone M.w:=fun d=>by
   simp only [Op.equalIn,Sem.run_bind,runUnderlying ht,Result.andThen_ok]
   cases p<;>rfl
  exact key 9999
 have hn:a.eval (.const (.slice none 0 0))=.slice none 0 0:=rfl
 have hrun:(execOp a.eval o).run P M.w=.ok (.value (.bool (if op=.eql then p.isNone else !p.isNone))) M.w:=by
  simp only [execOp,ho,hv,hn,Sem.run_bind,not_agg_guard (.inr (.inr (.inl ⟨_,_,_,rfl⟩))),Result.andThen_ok]
  rcases hop with rfl|rfl
  ·have h5:binOp .eql t (.slice p n cc) (.slice none 0 0)=(do pure (.bool (← Op.equal t (.slice p n cc) (.slice none 0 0)))):=rfl
   simp only [h5,Sem.run_bind,heq,Result.andThen_ok]
   rfl
  ·have h5:binOp .neq t (.slice p n cc) (.slice none 0 0)=(do pure (.bool (!(← Op.equal t (.slice p n cc) (.slice none 0 0))))):=rfl
   simp only [h5,Sem.run_bind,heq,Result.andThen_ok]
   rfl
 have hp2:=hr.put (d:=.one (.im (.raw (.bool (if op=.eql then p.isNone else !p.isNone))))) hr.m (Ext.refl M) (.one _ _ (.im _ _ (.raw _ rfl))) o.dst
 exact wpIn_value hrun ⟨_,M,rfl,hp2,Ext.refl M,put_defers _ _ _,by rw [hr.ob];exact h _ hp⟩
def CallE (P:Program) (G:Nat→Option (List IC)) (f:FuncId) (args:List DV) (objs:List DObj) (Q:DV→List DObj→Prop) (_t:Tok Q):Prop:=DCall P G f args objs Q
def GStop (b:Bool) (A B:Prop) (_t:Tok (A∧B)):Prop:=(b=true→A)∧(b=false→B)
theorem GStop_true (A B:Prop) (t:Tok (A∧B)):GStop true A B t=A:=by simp [GStop]
theorem GStop_false (A B:Prop) (t:Tok (A∧B)):GStop false A B t=B:=by simp [GStop]
theorem GStop_split {b:Bool} {A B:Prop} {t:Tok (A∧B)} (h1:b=true→A) (h2:b=false→B):GStop b A B t:=⟨h1,h2⟩
attribute [simp] GStop_true GStop_false
inductive Out where
 | val (d:DV) (objs:List DObj)
 | call (f:FuncId) (args:List DV)
 | cond (p:Prop) (d:DV) (objs:List DObj)
 | yield (o:Nat) (args:List DV)
 | iter (o:Nat) (left:List (List Value×List IC))
 | nilq (l:List (List IC)) (neg:Bool)
 | gen (p:(DV→List DObj→Prop)→Prop)
 | bad
def outV:Option (DV×List DObj)→Out
 | some (d,objs)=>.val d objs
 | none=>.bad
def outC:Option (FuncId×List DV)→List DV→Out
 | some (f,caps),as=>.call f (as ++ caps)
 | none,_=>.bad
def outA (p:Prop):Option (DC×List DObj)→Out
 | some (d,objs)=>.cond p (.one d) objs
 | none=>.bad
def vlen:DC→Option Nat
 | .vec _ _ _ len=>some len
 | _=>none
def stepCall (P:Program) (G:Nat→Option (List IC)) (S:DS) (x:Operand) (xs:List Operand):Out:=match evalG G S x,evals G S xs with
 | some (.one (.yld o)),some as=>.yield o as
 | some (.one (.im (.bf (.func f) l))),some as=>.gen fun C=>CallOk P f∧CallE P G f (l.map (fun c=>DV.one (.im c)) ++ as) S.objs C ⟨⟩
 | some d,some as=>outC (dcallee d) as
 | _,_=>.bad
def stepAppend (P:Program) (G:Nat→Option (List IC)) (S:DS) (t:TypeId) (x y:Operand):Out:=match evalG G S x,evalG G S y,telem P t with
 | some (.one s),some (.one c),some e=>match tsz P e,tbytes P e,tzero P e,delems S.objs c,vlen s with
   | some sz,some bytes,some z,some xs,some len=>outA (0 < sz∧z.length=sz∧(∀ e∈xs,e.length=sz)∧(len + xs.length) * bytes≤140737488355328∧len + xs.length≤9223372036854775807) (dappend S.objs s xs sz)
   | _,_,_,_,_=>.bad
 | _,_,_=>.bad
def stepMake (P:Program) (G:Nat→Option (List IC)) (S:DS) (t:TypeId) (x y:Operand):Out:=match rawOf (evalG G S x),rawOf (evalG G S y),telem P t with
 | some (.int .i64 a),some (.int .i64 b),some e=>match tsz P e,tbytes P e,tzero P e with
   | some sz,some bytes,some z=>.cond (0 < sz∧z.length=sz∧z.all Plain=true∧0≤a∧b=a∧a.toNat * bytes≤140737488355328∧a.toNat≤9223372036854775807)
    (.one (.vec S.objs.length 0 0 a.toNat)) (S.objs ++ [DObj.vec sz (List.replicate a.toNat (z.map zic)) 0 false])
   | _,_,_=>.bad
 | _,_,_=>.bad
def stepNext (G:Nat→Option (List IC)) (S:DS) (it:Operand):Out:=match evalG G S it with
 | some (.one (.itr o))=>match S.objs[o]? with
   | some (.iter left _)=>.iter o left
   | some (.liter b seen c)=>match liveOf b c S.objs with
     | some (l,es)=>.gen fun C=>((∀ s∈l,s∈seen)→C (.tup [.one (.im (.raw (.bool false)))]) S.objs) ∧
      ∀ (i s:Nat) (x:List Value×List DC),es[i]?=some x→l[i]?=some s→s∉seen→C (.tup [.one (.im (.raw (.bool true))),valV (x.1.map zic),valV x.2]) (S.objs.set o (.liter b (seen ++ [s]) c))
     | none=>.bad
   | _=>.bad
 | _=>.bad
def isSt:List CK→Bool
 | .st _ _ _ :: _=>true
 | _=>false
theorem isSt_st (l:List Nat) (c b:Nat) (r:List CK):isSt (.st l c b :: r)=true:=rfl
theorem isSt_int (q:IntKind) (r:List CK):isSt (.int q :: r)=false:=rfl
theorem isSt_bool (r:List CK):isSt (.bool :: r)=false:=rfl
attribute [simp] isSt_st isSt_int isSt_bool
theorem isSt_plain {ks:List CK} (h:isSt ks=false):plainK ks:=by
 unfold plainK
 split
 ·cases h
 ·trivial
def stepRng (P:Program) (G:Nat→Option (List IC)) (S:DS) (t:TypeId) (x:Operand) (r:Option (DV×List DObj)):Out:=match evalG G S x,tmap P t with
 | some (.one (.map o)),some _=>match S.objs[o]? with
   | some (.map ks es)=>if isSt ks=false then .gen fun C=>∀ (l:List Nat) (c b:Nat),l.length=es.length→l.Nodup→(∀ s∈l,s < c)→C (.one (.itr S.objs.length)) (S.objs.set o (.map (.st l c b :: ks) es) ++ [.liter b [] c]) else .bad
   | _=>.bad
 | _,_=>outV r
def stepNil (P:Program) (G:Nat→Option (List IC)) (S:DS) (op:BinOp) (t:TypeId) (x:Operand) (r:Option (DV×List DObj)):Out:=match evalG G S x,telem P t with
 | some (.one (.im (.sl l))),some _=>.nilq l (decide (op=.neq))
 | _,_=>outV r
def stepK (P:Program) (G:Nat→Option (List IC)) (S:DS) (op:Op) (ty:TypeId):Kind→Out
 | .call x xs=>stepCall P G S x xs
 | .append t x y=>stepAppend P G S t x y
 | .makeSlice t x y=>stepMake P G S t x y
 | .next it=>stepNext G S it
 | .rng t x=>stepRng P G S t x (dstep P G S op ty)
 | .eqNil b t x _=>stepNil P G S b t x (dstep P G S op ty)
 | .plain=>outV (dstep P G S op ty)
def stepO (P:Program) (G:Nat→Option (List IC)) (S:DS) (op:Op) (ty:TypeId):Out:=stepK P G S op ty (kindOf op)
def Next (P:Program) (G:Nat→Option (List IC)) (objs:List DObj) (x:Out) (C:DV→List DObj→Prop) (_t:Tok C):Prop:=match x with
 | .val d objs'=>C d objs'
 | .call f as=>CallOk P f∧CallE P G f as objs C ⟨⟩
 | .cond p d objs'=>p∧C d objs'
 | .yield o as=>YieldE P G o as objs C ⟨⟩
 | .iter o left=>(left=[]→C (.tup [.one (.im (.raw (.bool false)))]) objs) ∧
  ∀ (i:Nat) (x:List Value×List IC),left[i]?=some x→C (.tup [.one (.im (.raw (.bool true))),valV (x.1.map zic),valV (x.2.map .im)]) (objs.set o (.iter (left.eraseIdx i) (some x)))
 | .nilq l neg=>∀ b:Bool,(b=true→l=[])→C (.one (.im (.raw (.bool (b != neg))))) objs
 | .gen p=>p C
 | .bad=>False
def Want (w:Option Bool) (A B:Prop) (_t:Tok (A∧B)):Prop:=match w with
 | some b=>GStop b A B ⟨⟩
 | none=>False
section
variable (P:Program) (G:Nat→Option (List IC)) (objs:List DObj) (C:DV→List DObj→Prop) (t:Tok C)
theorem Next_val (d:DV) (objs':List DObj):Next P G objs (.val d objs') C t=C d objs':=rfl
theorem Next_call (f:FuncId) (as:List DV):Next P G objs (.call f as) C t=(CallOk P f∧CallE P G f as objs C ⟨⟩):=rfl
theorem Next_cond (p:Prop) (d:DV) (objs':List DObj):Next P G objs (.cond p d objs') C t=(p∧C d objs'):=rfl
theorem Next_yield (o:Nat) (as:List DV):Next P G objs (.yield o as) C t=YieldE P G o as objs C ⟨⟩:=rfl
theorem Next_iter (o:Nat) (left:List (List Value×List IC)):Next P G objs (.iter o left) C t=((left=[]→C (.tup [.one (.im (.raw (.bool false)))]) objs) ∧
 ∀ (i:Nat) (x:List Value×List IC),left[i]?=some x→C (.tup [.one (.im (.raw (.bool true))),valV (x.1.map zic),valV (x.2.map .im)]) (objs.set o (.iter (left.eraseIdx i) (some x)))):=rfl
theorem Next_nilq (l:List (List IC)) (neg:Bool):Next P G objs (.nilq l neg) C t=(∀ b:Bool,(b=true→l=[])→C (.one (.im (.raw (.bool (b != neg))))) objs):=rfl
theorem Next_gen (p:(DV→List DObj→Prop)→Prop):Next P G objs (.gen p) C t=p C:=rfl
theorem Next_bad:Next P G objs .bad C t=False:=rfl
theorem Want_true (A B:Prop) (t:Tok (A∧B)):Want (some true) A B t=A:=GStop_true A B ⟨⟩
theorem Want_false (A B:Prop) (t:Tok (A∧B)):Want (some false) A B t=B:=GStop_false A B ⟨⟩
theorem Want_some (b:Bool) (A B:Prop) (t:Tok (A∧B)):Want (some b) A B t=GStop b A B ⟨⟩:=rfl
theorem Want_none (A B:Prop) (t:Tok (A∧B)):Want none A B t=False:=rfl
end
attribute [simp] stepNil Next_nilq Next_gen stepRng liveOf imsOf stepNext Next_iter Next_val Next_call Next_cond Next_yield Next_bad Want_true Want_false Want_some Want_none outV outC outA vlen stepO stepK stepCall stepAppend stepMake
def RTe (P:Program) (G:Nat→Option (List IC)) (dsts:List (Option Tmp)):List Oper→DS→(K:DS→Prop)→Tok K→Prop
 | [],S,K,_=>K S
 | o :: l,S,K,tk=>Want (wantedA dsts S o)
  (Next P G S.objs (stepO P G S o.op o.type) (fun d objs'=>RTe P G dsts l (DS.put { S with objs:=objs' } o.dst d) K tk) ⟨⟩)
  (RTe P G dsts l (S.put o.dst (.tup [])) K tk) ⟨⟩
section
variable {P:Program} {G:Nat→Option (List IC)} {n:Cx} {S:DS} {Q:Exit→DS→Prop}
theorem Next_sound {dsts:List (Option Tmp)} {l:List Oper} {o:Oper} {K:DS→Prop} {C:DV→List DObj→Prop}
 (hC:∀ d objs',C d objs'→RT P G dsts l (DS.put { S with objs:=objs' } o.dst d) K) (h1:Next P G S.objs (stepO P G S o.op o.type) C ⟨⟩):OpT P G o S (fun S'=>RT P G dsts l S' K):=by
 unfold stepO at h1
 generalize hk:kindOf o.op=k at h1
 cases k with
 | call x xs =>
   simp only [stepK,stepCall] at h1
   split at h1
   ·rename_i l as hd has
    obtain ⟨ys,ts,ho,rfl⟩:=kindOf_call hk
    refine OpT_yield ho hd has ?_
    have hm:∀ (ob:Option DObj) (C':DV→List DObj→Prop),(∀ d objs',C d objs'→C' d objs')→YieldR P G l as S.objs C ob→YieldR P G l as S.objs C' ob:=fun ob C' hcc hy=>by
     unfold YieldR at hy ⊢
     split at hy
     ·obtain ⟨y1,y2,y3,y4⟩:=hy
      refine ⟨y1,y2,y3,y4.mono fun e S' hq=>?_⟩
      cases e with
      | normal =>
        refine ⟨hq.1,DT.mono hq.2 fun e S'' hq'=>?_⟩
        cases e<;>first|exact hcc _ _ hq'|exact hq'
      | _=>exact hq
     ·exact hy
    exact hm _ _ (fun d objs' hk=>hC _ _ hk) h1
   ·rename_i f l as hd has
    obtain ⟨ys,ts,ho,rfl⟩:=kindOf_call hk
    exact OpT_callB ho hd has h1.1 (DCall.mono h1.2 fun d objs' hk=>hC _ _ hk)
   ·rename_i d as _ _ hd has
    generalize hc:dcallee d=c at h1
    cases c with
    | none=>exact h1.elim
    | some p =>
      obtain ⟨f,caps⟩:=p
      obtain ⟨ys,ts,ho,rfl⟩:=kindOf_call hk
      exact OpT_call ho hd hc has h1.1 (DCall.mono h1.2 fun d objs' hk=>hC _ _ hk)
   ·exact h1.elim
 | append t x y =>
   simp only [stepK,stepAppend] at h1
   split at h1
   ·rename_i s c e hs hc he
    split at h1
    ·rename_i sz bytes z xs len h1' h2 h3 h4 h5
     generalize hd:dappend S.objs s xs sz=r at h1
     cases r with
     | none=>exact h1.elim
     | some p =>
       obtain ⟨d,objs'⟩:=p
       obtain ⟨⟨a1,a2,a3,a4,a6⟩,a5⟩:=h1
       refine OpT.of_val (OpV_append (kindOf_append hk) (telem_spec he) h1' a1 h2 h3 a2 hs hc h4 a3 hd ?_ ?_) (hC _ _ a5)
       ·rintro o g off len' rfl;cases h5;exact a4
       ·rintro o g off len' rfl;cases h5;exact a6
    ·exact h1.elim
   ·exact h1.elim
 | makeSlice t x y =>
   simp only [stepK,stepMake] at h1
   split at h1
   ·rename_i a b e hx hy he
    split at h1
    ·rename_i sz bytes z g1 g2 g3
     obtain ⟨⟨a1,a2,a3,a4,rfl,a6,a7⟩,a8⟩:=h1
     obtain ⟨m,rfl⟩:=Int.eq_ofNat_of_zero_le a4
     simp only [Int.toNat_natCast] at a6 a7 a8
     exact OpT.of_val (OpV_makeSlice (kindOf_makeSlice hk) (telem_spec he) g1 a1 g2 g3 a2 a3 hx hy a6 a7) (hC _ _ a8)
    ·exact h1.elim
   ·exact h1.elim
 | next it =>
   simp only [stepK,stepNext] at h1
   split at h1
   ·rename_i oI hit
    split at h1
    ·rename_i left cur hob
     exact OpT_next (kindOf_next hk) hit hob (fun e=>hC _ _ (h1.1 e)) (fun i x hx=>hC _ _ (h1.2 i x hx))
    ·rename_i b seen c hob
     split at h1
     ·rename_i l es hl
      exact OpT_nextL (kindOf_next hk) hit hob hl (fun e=>hC _ _ (h1.1 e)) (fun i s x hx hs hn=>hC _ _ (h1.2 i s x hx hs hn))
     ·exact h1.elim
    ·exact h1.elim
   ·exact h1.elim
 | rng t x =>
   simp only [stepK,stepRng] at h1
   split at h1
   ·rename_i oM kt hx ht
    split at h1
    ·rename_i ks es hob
     split at h1
     ·rename_i hs
      exact OpT_rangeL (kindOf_rng hk) hx ht (isSt_plain hs) hob (fun l c b h2 h3 h4=>hC _ _ (h1 l c b h2 h3 h4))
     ·exact h1.elim
    ·exact h1.elim
   ·generalize hd:dstep P G S o.op o.type=r at h1
    cases r with
    | none=>exact h1.elim
    | some p=>exact OpT.of_val (dstep_sound hd) (hC _ _ h1)
 | eqNil b t x u =>
   simp only [stepK,stepNil] at h1
   obtain ⟨hk1,hk2⟩:=kindOf_eqNil hk
   split at h1
   ·rename_i l e hx he
    refine OpT_eqNilI hk1 hk2 (telem_spec he) hx fun c hc=>?_
    have:=hC _ _ (h1 c hc)
    rcases hk2 with rfl|rfl
    ·simpa using this
    ·simpa using this
   ·generalize hd:dstep P G S o.op o.type=r at h1
    cases r with
    | none=>exact h1.elim
    | some p=>exact OpT.of_val (dstep_sound hd) (hC _ _ h1)
 | plain =>
   simp only [stepK] at h1
   generalize hd:dstep P G S o.op o.type=r at h1
   cases r with
   | none=>exact h1.elim
   | some p=>exact OpT.of_val (dstep_sound hd) (hC _ _ h1)
theorem RTe_sound {dsts:List (Option Tmp)}:∀ (l:List Oper) (S:DS) (K:DS→Prop),RTe P G dsts l S K ⟨⟩→RT P G dsts l S K
 | [],S,K,h=>h
 | o :: l,S,K,h=>by
   rw [RTe] at h
   generalize hb:wantedA dsts S o=r at h
   cases r with
   | none=>exact h.elim
   | some b=>exact ⟨b,hb,fun e=>Next_sound (fun d objs' hk=>RTe_sound l _ K hk) (h.1 e),fun e=>RTe_sound l _ K (h.2 e)⟩
attribute [simp] GStop_true GStop_false
theorem DCall_pure {P:Program} {G:Nat→Option (List IC)} {f:FuncId} {args:List DV} {objs:List DObj} {d:DV} {Q:DV→List DObj→Prop} (h:∀ objs,DCall P G f args objs (fun d' objs'=>d'=d∧objs'=objs)) (hq:Q d objs):DCall P G f args objs Q:=
 (h objs).mono fun d' objs' ⟨h1,h2⟩=>by rw [h1,h2];exact hq
theorem RT_mono {dsts:List (Option Tmp)} {K K':DS→Prop}:∀ {l:List Oper} {S:DS},RT P G dsts l S K→(∀ S,K S→K' S)→RT P G dsts l S K'
 | [],S,h,hk=>hk S h
 | _ :: _,_,⟨b,h1,h2,h3⟩,hk=>⟨b,h1,fun e=>fun ro a M hr=>Oper.wpIn_mono (Q:=fun _ _ _=>False) (fun _ _ ⟨S',M',h4,h5,h6,h8,h7⟩=>⟨S',M',h4,h5,h6,h8,RT_mono h7 hk⟩) (h2 e ro a M hr),fun e=>RT_mono (h3 e) hk⟩
def sel (l:List (Nat×DV)):List Nat→List (Nat×DV)
 | []=>[]
 | t :: r=>match tget l t with
   | some d=>(t,d) :: sel l r
   | none=>sel l r
theorem sel_get {l:List (Nat×DV)}:∀ {ks:List Nat} {t:Nat} {d:DV},tget (sel l ks) t=some d→tget l t=some d
 | [],t,d,h=>by simp [sel,tget] at h
 | k :: r,t,d,h=>by
   simp only [sel] at h
   split at h
   ·rename_i e he
    simp only [tget] at h
    split at h
    ·rename_i hk;subst hk;cases h;exact he
    ·exact sel_get h
   ·exact sel_get h
def DS.keep (S:DS) (ks:List Nat):DS:={ S with tmps:=sel S.tmps ks }
theorem Weak.keep {ks:List Nat}:Weak G n S (S.keep ks):=Weak.tmps fun _ _ h=>sel_get h
theorem DT_regionE {id:Nat} {l:List Oper} (ks:List Nat) (h:RTe P G (l.map (·.dst)) l S (fun S'=>At Q .normal ⟨⟩ (S'.keep ks)) ⟨⟩):DT P G n (.region id l.toArray false) S Q:=by
 have h1:=DT_region (id:=id) (n:=n) (Q:=fun e S'=>e=.normal∧Q .normal (S'.keep ks)) (RT_mono (RTe_sound l S _ h) (fun S' h=>⟨rfl,h⟩))
 intro hn hd a M hr
 refine wpIn_mono (h1 hn hd a M hr) ?_
 rintro e a' w' ⟨S',M',rfl,hr',he,hnd,rfl,hq⟩
 obtain ⟨M2,w2,r2,e2⟩:=Weak.keep (G:=G) (n:=n) (S:=S') (ks:=ks) (by rw [← hr'.ob];exact he.len) a' M' hr'
 exact ⟨_,M2,w2,r2,he.trans e2,hnd,hq⟩
theorem CallE.pure {f:FuncId} {args:List DV} {objs:List DObj} {d:DV} {Q:DV→List DObj→Prop} {t:Tok Q} (h:∀ objs,DCall P G f args objs (fun d' objs'=>d'=d∧objs'=objs)) (hq:Q d objs):CallE P G f args objs Q t:=DCall_pure h hq
theorem CallE.any {f:FuncId} {args:List DV} {objs:List DObj} {Q Q0:DV→List DObj→Prop} {t:Tok Q} (h:DCall P G f args objs Q0) (hq:∀ d objs',Q0 d objs'→Q d objs'):CallE P G f args objs Q t:=h.mono hq
theorem Weak.of_keep {S':DS} (ks:List Nat) (h:S.keep ks=S'):Weak G n S S':=by
 subst h;exact Weak.keep
theorem Weak.of_drop {S':DS} (ks:List Nat) (m:Nat) (hm:m≤S.objs.length) (hn:n.n≤m) (h:(S.keep ks).drop m=S'):Weak G n S S':=by
 subst h
 exact Weak.keep.trans (Weak.drop hm hn)
def ims (l:List (List IC)):List (List DC):=l.map (·.map .im)
theorem ims_nil:ims []=[]:=rfl
theorem ims_append (l r:List (List IC)):ims (l ++ r)=ims l ++ ims r:=by simp [ims]
theorem ims_length (l:List (List IC)):(ims l).length=l.length:=by simp [ims]
theorem fz_im (m:Nat) (objs:List DObj) (c:IC):fz m objs (.im c)=.im c:=rfl
theorem map_fz_im (m:Nat) (objs:List DObj) (l:List IC):(l.map .im).map (fz m objs)=l.map .im:=by simp [fz_im]
theorem ims_fz (m:Nat) (objs:List DObj) (l:List (List IC)):(ims l).map (·.map (fz m objs))=ims l:=by
 simp [ims,fz_im]
theorem mapO_im (k m:Nat) (objs:List DObj):∀ (l:List IC),mapO (frz (k + 1) m objs) (l.map .im)=some l
 | []=>rfl
 | c :: r=>by rw [List.map_cons,mapO,mapO_im k m objs r];rfl
theorem mapO_ims (k m:Nat) (objs:List DObj):∀ (l:List (List IC)),mapO (mapO (frz (k + 1) m objs)) (ims l)=some l
 | []=>rfl
 | c :: r=>by
   have:=mapO_ims k m objs r
   simp only [ims] at this ⊢
   rw [List.map_cons,mapO,mapO_im,this]
theorem ims_len_elems {l:List (List IC)} {sz:Nat} (h:∀ e∈l,e.length=sz):∀ e∈ims l,e.length=sz:=by
 intro e he
 simp only [ims,List.mem_map] at he
 obtain ⟨e0,h0,rfl⟩:=he
 simpa using h e0 h0
theorem ims_get (l:List (List IC)) (i:Nat):(ims l)[i]?=(l[i]?).map (·.map .im):=by simp [ims]
end
end Go.Ab
namespace Go.Ab
open Go
theorem RelM.grow {G:Nat→Option (List IC)} {M:MS} {w':World} {x:Obj} (h:RelM G M) (hw:w'.heap=M.w.heap.push x) (hio:SameIo M.w w'):RelM G { M with w:=w' }∧Ext M.objs.length M { M with w:=w' }:=by
 have hold:∀ b,b < M.w.heap.size→w'.heap[b]?=M.w.heap[b]?:=fun b hb=>by
  rw [hw,Array.getElem?_push,if_neg (Nat.ne_of_lt hb)]
 have he:Ext M.objs.length M { M with w:=w' }:=by
  refine ⟨Nat.le_refl _,fun b hb=>⟨⟨?_,hb.2⟩,hold b hb.1⟩,Fsame M,by simp only [hw,Array.size_push];omega,fun p _ c' hc=>⟨⟨c',hc⟩,rfl⟩,fun p _ sz es g nl hv=>⟨sz,es,g,nl,hv,Nat.le_refl _,fun _=>⟨rfl,rfl,fun hn=>⟨rfl,?_⟩⟩⟩,fun p _ ks es hm=>⟨⟨ks,es,hm⟩,rfl⟩,fun p _ r hm=>⟨⟨r,hm⟩,rfl⟩,fun p _ d hm hi=>⟨⟨d,hm,hi⟩,rfl⟩,fun p _ r hm=>⟨⟨r,hm⟩,rfl⟩,hio⟩
  ·have:=hb.1
   simp only [hw,Array.size_push];omega
  ·simp only [bsize]
   rw [hold _ (h.lt p _ hv (by simp [DObj.blk,hn]))]
 refine ⟨⟨fun o d ho=>(h.objs o d ho).ext he (fun _=>rfl) (fun hb=>hold _ (h.lt o d ho hb)),fun o d ho hb=>?_,h.inj,fun g l hg=>(h.glob g l hg).mono he.ok,fun b hF=>?_,h.own⟩,he⟩
 ·have:=h.lt o d ho hb
  simp only [hw,Array.size_push];omega
 ·have:=h.fl b hF
  simp only [hw,Array.size_push];omega
section
variable {P:Program} {G:Nat→Option (List IC)} {S:DS}
theorem OpV_buildSlice0 {o:Oper} {t e:TypeId} {sz:Nat} {z:List Value} (ho:o.op=.buildSlice t 0 #[]) (ht:P.underlying t=some (.slice e)) (hs:tsz P e=some sz) (hz:tzero P e=some z) :
 OpV P G o S (.one (.im .e0)) S.objs:=by
 intro a M hrel
 obtain ⟨v,hrun,hv⟩:=runZero (w:=M.w) hz
 have hheap:(M.w.alloc (.cells #[] e)).heap=M.w.heap.push (.cells #[] e):=by unfold World.alloc;rfl
 obtain ⟨hm,he⟩:=hrel.m.grow hheap ⟨rfl,rfl,rfl,by first|exact Nat.le_refl _|exact Nat.le_succ _⟩
 refine ⟨.slice (some ⟨M.w.heap.size,0,none⟩) 0 0,_,.inl ?_,hm,hrel.ob,he,.one _ _ (.im _ _ (.e0 _ (fun b hb=>by cases hb;rfl)))⟩
 simp only [execOp,ho,Instr.buildSlice,Sem.run_bind,runUnderlying ht,Result.andThen_ok,runSizeOf hs]
 have h00:(Array.range 0).map (fun _=>(default:Value))=#[]:=by simp
 simp [Instr.fill,newRow,newObj,Sem.run,h00]
theorem OpV_append0 {o:Oper} {t e:TypeId} {sz bytes:Nat} {z:List Value} {x y:Operand} {c:DC} {l:List (List IC)}
 (ho:o.op=.call { callee:=.builtin .append,args:=#[x,y],argTypes:=#[t,t] }) (ht:P.underlying t=some (.slice e)) (hs:tsz P e=some sz) (h0:0 < sz) (hby:tbytes P e=some bytes) (hz:tzero P e=some z) (hzl:z.length=sz)
 (hx:evalG G S x=some (.one (.im .e0))) (hy:evalG G S y=some (.one c)) (hel:delems S.objs c=some (ims l)) (hsz:∀ e∈l,e.length=sz)
 (hb:l.length * bytes≤140737488355328) (hb1:l.length≤9223372036854775807):OpV P G o S (.one (.im (.sl l))) S.objs:=by
 intro a M hr
 have hp:=evalG_sound hr hx
 have hq:=evalG_sound hr hy
 generalize hv:a.eval x=v at hp
 generalize hu:a.eval y=u at hq
 rw [← hr.ob] at hel
 cases hp with
 | one _ _ hp=>cases hq with
   | one _ _ hq =>
   cases hp with
   | im _ _ hp =>
   cases hp with
   | e0 a0 ha0 =>
   obtain ⟨ax,capx,rfl,hax,f,hf,hrep⟩:=delems_sound hr.m hq hel (ims_len_elems hsz)
   rw [ims_length] at hax hf hu
   have hrun:∀ w',((Builtin.append_ #[t,t] o.type #[.slice a0 0 0,.slice ax l.length capx]).run P M.w=w')→(execOp a.eval o).run P M.w=w'.andThen fun v w=>.ok (.value v) w:=fun w' h=>by
    simp only [execOp,ho,Sem.run_bind,resolve,invoke,builtin,List.map_toArray,List.map_cons,List.map_nil,hv,hu,Sem.run_pure,Result.andThen_ok,h]
   have hfirst:=runFirstCells (P:=P) (sz:=sz) (cap:=capx) hax f (fun b hb=>⟨fun hne=>(hf b hb).1 fun e=>hne (by have:=congrArg List.length e;simpa [ims_length] using this),(hf b hb).2⟩)
   simp only [tbytes,Option.map_eq_some_iff] at hby
   obtain ⟨inf,hinf,rfl⟩:=hby
   have hinfs:inf.size=sz:=by simp only [tsz,hinf,Option.map_some,Option.some.injEq] at hs;exact hs
   simp only [tzero,hinf,Option.bind_some,Option.map_eq_some_iff] at hz
   obtain ⟨zv,hzv,rfl⟩:=hz
   by_cases hl:l.length=0
   ·have hln:l=[]:=List.length_eq_zero_iff.1 hl
    subst hln
    refine ⟨.slice a0 0 0,M,.inl ?_,hr.m,hr.ob,Ext.refl M,.one _ _ (.im _ _ ?_)⟩
    ·rw [hrun (.ok (.slice a0 0 0) M.w)]
     ·rfl
     ·simp only [List.length_nil] at hfirst ⊢
      cases a0<;>simp [Builtin.append_,runUnderlying ht,runSizeOf hs,Builtin.lenOf,hfirst,storeCells]
    ·cases a0 with
     | none=>exact .slnil
     | some b=>exact .sl [] b 0 sz (fun _ _=>undef) (ha0 b rfl) (fun h=>absurd rfl h) (Nat.le_refl _) (fun i x hx=>by simp at hx) (fun i x j c hx=>by simp at hx) (fun i x j c hx=>by simp at hx)
   ·have hpos:0 < l.length:=Nat.pos_of_ne_zero hl
    cases ax with
    | none=>exact absurd (hax rfl) hl
    | some ad =>
      have hnews:∀ (j:Nat) (v:Value),((List.range (l.length * sz)).map f)[j]?=some v→M.w.cell? (ad.add j)=some v:=fun j v hj=>by
       obtain ⟨h7,h8⟩:=hf ad rfl
       have hlt:j < l.length * sz:=by simpa using lt_of_getElem? hj
       rw [addr_add (h7 fun e=>by simp only [List.length_eq_zero_iff,ims,List.map_eq_nil_iff] at e;subst e;simp at hlt),h8 j hlt]
       rw [List.getElem?_map,List.getElem?_range hlt] at hj
       simpa using hj
      have fresh:∀ (cap':Nat) (zc:Array Value),l.length≤cap' →
       (Builtin.append_ #[t,t] o.type #[.slice a0 0 0,.slice (some ad) l.length capx]).run P M.w=.ok (.slice (some ⟨M.w.heap.size,0,none⟩) l.length cap') (M.w.drew.alloc (.cells (((List.range (l.length * sz)).map f).toArray ++ zc) e)) →
       ∃ v M',((execOp a.eval o).run P M.w=.ok (.value v) M'.w∨((execOp a.eval o).run P M.w=.ok .skip M'.w∧v=undef))∧RelM G M'∧M'.objs=S.objs∧Ext M.objs.length M M'∧RepV M' (.one (.im (.sl l))) v:=by
       intro cap' zc hcap happ
       have hheap:(M.w.drew.alloc (.cells (((List.range (l.length * sz)).map f).toArray ++ zc) e)).heap=M.w.heap.push (.cells (((List.range (l.length * sz)).map f).toArray ++ zc) e):=by unfold World.alloc;rfl
       obtain ⟨hm,he⟩:=hr.m.grow hheap ⟨rfl,rfl,rfl,by first|exact Nat.le_refl _|exact Nat.le_succ _⟩
       refine ⟨_,{ M with w:=M.w.drew.alloc (.cells (((List.range (l.length * sz)).map f).toArray ++ zc) e) },.inl (by rw [hrun _ happ];rfl),hm,hr.ob,he,.one _ _ (.im _ _ ?_)⟩
       have key:∀ (i:Nat) (x:List IC) (j:Nat) (c:IC),l[i]?=some x→x[j]?=some c→i * sz + j < l.length * sz:=fun i x j c hi hj=>by
        have hxl:=hsz x (List.mem_of_getElem? hi)
        have h1:=lt_of_getElem? hi
        have h2:=lt_of_getElem? hj
        have hmul:(i + 1) * sz≤l.length * sz:=Nat.mul_le_mul_right sz h1
        rw [Nat.add_mul,Nat.one_mul] at hmul
        omega
       refine .sl l ⟨M.w.heap.size,0,none⟩ cap' sz (fun i j=>f (i * sz + j)) rfl (fun _=>?_) hcap (fun i x hx=>hsz x (List.mem_of_getElem? hx)) (fun i x j c hi hj=>?_) (fun i x j c hi hj=>?_)
       ·refine ⟨⟨by simp [hheap],?_⟩,?_⟩
        ·rintro ⟨o',d',ho',hb',hβ⟩
         have:=hr.m.lt o' d' ho' hb'
         simp only at hβ
         omega
        ·intro hF
         have:=hr.m.fl _ hF
         simp only at this;omega
       ·have hin:=key i x j c hi hj
        simp only [World.cell?,hheap,Array.getElem?_push_size,Nat.zero_add]
        rw [Array.getElem?_append_left (by simpa using hin)]
        simp [hin]
       ·have hin:=key i x j c hi hj
        have h1:=hrep i (x.map .im) j (.im c) (by simp [ims,hi]) (by simp [hj])
        cases h1 with
        | im _ _ h1=>exact h1.mono fun b hb=>⟨he.ok b hb |>.1,(he.ok b hb).2⟩
      cases a0 with
      | none =>
        have happ:=run_append_nil (P:=P) M.w t o.type e inf zv ht hinf hzv ad l.length capx ((List.range (l.length * sz)).map f) (by simp [hinfs]) hnews hpos (by omega) (by omega)
        have hge:=grownCap_ge M.w l.length 0 e
        exact fresh (grownCap M.w l.length 0 e) (Builtin.zeroCells zv.cells (grownCap M.w l.length 0 e - l.length)) (by simpa using hge) happ
      | some b =>
        have happ:=run_append_grow (P:=P) M.w t o.type e inf zv ht hinf hzv b 0 0 [] (by simp) (fun j v hj=>by simp at hj) ad l.length capx ((List.range (l.length * sz)).map f) (by simp [hinfs]) hnews (by omega) (by omega) (growslice_fits (by omega) (by rw [Nat.zero_add];exact hb))
        have hge:=grownCap_ge M.w (0 + l.length) 0 e
        refine fresh (grownCap M.w (0 + l.length) 0 e) (Builtin.zeroCells zv.cells (grownCap M.w (0 + l.length) 0 e - (0 + l.length))) (by omega) ?_
        simpa using happ
end
end Go.Ab
