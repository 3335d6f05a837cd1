/- Part 2 of the proofs. -/
import Derived.Test.YtlmlkkoapahmjaaGreatDoorS01
set_option linter.all false
set_option maxHeartbeats 100000000
namespace Go.Ab
open Go
section
variable {P:Program} {G:Hn} {S:DS}
theorem OpV.pure {o:Oper} {d:DV} (h:∀ a M,Rel G S a M->∃ v,(execOp a.eval o).run P M.w=.ok (.value v) M.w/\RepV M d v):OpV P G o S d S.objs:=by
 intro a M hr;obtain⟨v,h1,h2⟩:=h a M hr;exact⟨v,M,.inl h1,hr.m,hr.ob,Ext.refl M,h2⟩
def Df (op:BinOp) (k:IntKind) (a b:Int):Option Value:=
 match op with
 | .add=>some (.int k (k.wrap (a+b)))
 | .sub=>some (.int k (k.wrap (a-b)))
 | .mul=>some (.int k (k.wrap (a*b)))
 | .quo=>if b=0 then none else some (.int k (k.wrap (a.tdiv b)))
 | .rem=>if b=0 then none else some (.int k (a.tmod b))
 | .and=>some (.int k (k.wrap (BitVec.ofInt k.bits a &&& BitVec.ofInt k.bits b).toNat))
 | .or=>some (.int k (k.wrap (BitVec.ofInt k.bits a ||| BitVec.ofInt k.bits b).toNat))
 | .xor=>some (.int k (k.wrap (BitVec.ofInt k.bits a ^^^ BitVec.ofInt k.bits b).toNat))
 | .eql=>some (.bool (a==b))
 | .neq=>some (.bool (a != b))
 | .lss=>some (.bool (decide (a<b)))
 | .leq=>some (.bool (decide (a<=b)))
 | .gtr=>some (.bool (decide (a > b)))
 | .geq=>some (.bool (decide (a≥b)))
 | _=>none
def nK (op:BinOp) (k:IntKind) (a b:Int):Option Value:=
 if b<0 then none else match op with
 | .shl=>some (.int k (k.wrap (a*2 ^ (min b.toNat k.bits))))
 | .shr=>some (.int k (a.fdiv (2 ^ (min b.toNat k.bits))))
 | _=>none
def uQ (op:BinOp) (x y:Value):Option Value:=
 match x,y with
 | .int k a,.int k' b=>match op with
   | .shl|.shr=>nK op k a b
   | _=>if k=k' then Df op k a b else none
 | _,_=>none
theorem rH {op:BinOp} {t:TypeId} {x y v:Value} {w:World} (h:uQ op x y=some v):(binOp op t x y).run P w=.ok v w/\v7 v=true:=by
 unfold uQ at h;split at h
 ·rename_i k a k' b;split at h
  ·unfold nK at h;split at h
   ·cases h
   ·rename_i hb;simp only[Option.some.injEq] at h;subst h;simp[binOp,Op.shift,hb,v7]
  ·unfold nK at h;split at h
   ·cases h
   ·rename_i hb;simp only[Option.some.injEq] at h;subst h;simp[binOp,Op.shift,hb,v7]
  ·rename_i h1 h2;split at h
   ·rename_i hk;subst hk;unfold Df at h
    cases op<;>simp only[Option.some.injEq,reduceCtorEq] at h<;>first
     | (subst h;simp[binOp,Op.intArith,Op.intCmp,Op.intBits,v7])
     | (split at h<;>first|(cases h;done)|(rename_i hb;simp only[Option.some.injEq] at h;subst h;simp[binOp,Op.intDiv,hb,v7]))
     | exact(h1 rfl).elim
     | exact(h2 rfl).elim
   ·cases h
 ·cases h
def pz (op:UnOp) (x:Value):Option Value:=
 match op,x with
 | .not,.bool b=>some (.bool (!b))
 | .neg,.int k n=>some (.int k (k.wrap (0-n)))
 | _,_=>none
theorem py {op:UnOp} {x v:Value} {w:World} (h:pz op x=some v):(Op.unary op x).run P w=.ok v w/\v7 v=true:=by
 unfold pz at h;split at h
 ·cases h;simp[Op.unary,v7]
 ·cases h;simp[Op.unary,Op.intArith,v7]
 ·cases h
theorem RepV.raw {M:MS} {x v:Value} (h:RepV M (.one (.im (.raw x))) v):v=x:=by
 cases h with
 | one _ _ h=>cases h with
   | im _ _ h=>cases h;rfl
theorem RepV.mkraw {M:MS} {x:Value} (h:v7 x=true):RepV M (.one (.im (.raw x))) x:=.one _ _ (.im _ _ (.raw _ h))
def C9:Option DV->Option Value
 | some (.one (.im (.raw v)))=>some v
 | _=>none
theorem p8 {a:Act} {M:MS} (hr:Rel G S a M) {x:Operand} {v:Value} (h:C9 (j5 G S x)=some v):a.eval x=v:=by
 unfold C9 at h;split at h
 ·rename_i w he;cases h;exact(i9 hr he).raw
 ·cases h
theorem U2 {op:BinOp} {t:TypeId} {x y:Operand} {a b:Value} {w:World} (h:(∃ k n,a=.int k n)\/(∃ c,a=.bool c)\/(∃ p n c,a=.slice p n c)\/(∃ r,a=.map r)):(eqGuard op t x y a b).run P w=.ok () w:=by
 unfold eqGuard;rcases h with⟨k,n,rfl⟩|⟨c,rfl⟩|⟨p,n,c,rfl⟩|⟨r,rfl⟩<;>(split<;>simp)
theorem Bu {o:Oper} {op:BinOp} {t u:TypeId} {x y:Operand} {vx vy v:Value} (ho:o.op=.binOp op t x y u) (hx:C9 (j5 G S x)=some vx) (hy:C9 (j5 G S y)=some vy)
 (h:uQ op vx vy=some v):OpV P G o S (.one (.im (.raw v))) S.objs:=by
 refine .pure λa M hr=>?_;have e1:=p8 hr hx;have e2:=p8 hr hy;have hi:∃ k n,vx=.int k n:=by
  unfold uQ at h;split at h
  ·exact⟨_,_,rfl⟩
  ·cases h
 obtain⟨h1,h2⟩:=rH (P:=P) (t:=t) (w:=M.w) h;refine⟨v,?_,.mkraw h2⟩;simp only[execOp,ho,e1,e2,Sem.run_bind,U2 (.inl hi),Result.andThen_ok,h1];rfl
theorem cP {t:TypeId} {b c:Bool} {w:World} (ht:P.underlying t=some .bool):(Op.equal t (.bool b) (.bool c)).run P w=.ok (b==c) w:=by
 have key:∀ n,(Op.equalIn (n+1) t (.bool b) (.bool c)).run P w=.ok (b==c) w:=λn=>by
  simp only[Op.equalIn,Sem.run_bind,e8 ht,Result.andThen_ok];rfl
 exact key 9999
theorem se {o:Oper} {op:BinOp} {t u:TypeId} {x y:Operand} {b c:Bool} (ho:o.op=.binOp op t x y u) (ht:P.underlying t=some .bool) (hop:op=.eql\/op=.neq)
 (hx:C9 (j5 G S x)=some (.bool b)) (hy:C9 (j5 G S y)=some (.bool c)):OpV P G o S (.one (.im (.raw (.bool (if op=.eql then b==c else b != c))))) S.objs:=by
 refine .pure λa M hr=>?_;have e1:=p8 hr hx;have e2:=p8 hr hy;refine⟨_,?_,.mkraw rfl⟩;simp only[execOp,ho,e1,e2,Sem.run_bind,U2 (.inr (.inl ⟨_,rfl⟩)),Result.andThen_ok];rcases hop with rfl|rfl
 ·have h1:binOp .eql t (.bool b) (.bool c)=(do pure (.bool (<- Op.equal t (.bool b) (.bool c)))):=rfl;simp only[h1,Sem.run_bind,cP ht,Result.andThen_ok];rfl
 ·have h1:binOp .neq t (.bool b) (.bool c)=(do pure (.bool (!(<- Op.equal t (.bool b) (.bool c))))):=rfl;simp only[h1,Sem.run_bind,cP ht,Result.andThen_ok];rfl
theorem Dq {o:Oper} {op:UnOp} {t:TypeId} {x:Operand} {vx v:Value} (ho:o.op=.unOp op t x) (hx:C9 (j5 G S x)=some vx)
 (h:pz op vx=some v):OpV P G o S (.one (.im (.raw v))) S.objs:=by
 refine .pure λa M hr=>?_;have e1:=p8 hr hx;obtain⟨h1,h2⟩:=py (P:=P) (w:=M.w) h;refine⟨v,?_,.mkraw h2⟩;simp only[execOp,ho,e1,Sem.run_bind,h1,Result.andThen_ok];rfl
theorem yQ {o:Oper} {s t:TypeId} {x:Operand} {k k':IntKind} {n:Int} (ho:o.op=.convert s t x) (hs:∃ d,P.underlying s=some d) (ht:P.underlying t=some (.int k'))
 (hx:C9 (j5 G S x)=some (.int k n)):OpV P G o S (.one (.im (.raw (.int k' (k'.wrap n))))) S.objs:=by
 refine .pure λa M hr=>?_;have e1:=p8 hr hx;obtain⟨d,hs⟩:=hs;refine⟨.int k' (k'.wrap n),?_,.mkraw rfl⟩;simp[execOp,ho,e1,convert,e8 hs,e8 ht,Conv.intToInt]
theorem pQ {o:Oper} {x:Operand} {d:DV} (ho:o.op=.move x\/o.op=.assign x) (hx:j5 G S x=some d):OpV P G o S d S.objs:=by
 refine .pure λa M hr=>⟨a.eval x,?_,i9 hr hx⟩
 rcases ho with ho|ho<;>simp[execOp,ho]
theorem yO {o:Oper} {c x y:Operand} {b:Bool} {d:DV} (ho:o.op=.pick c x y) (hc:C9 (j5 G S c)=some (.bool b)) (hx:(if b then j5 G S x else j5 G S y)=some d) :
 OpV P G o S d S.objs:=by
 refine .pure λa M hr=>?_;have e1:=p8 hr hc;cases b with
 | true=>exact⟨a.eval x,by simp[execOp,ho,e1,asBool],i9 hr (by simpa using hx)⟩
 | false=>exact⟨a.eval y,by simp[execOp,ho,e1,asBool],i9 hr (by simpa using hx)⟩
theorem yP {o:Oper} {t:TypeId} {x:Operand} {p:DC} {sz:Nat} {ag:Bool} {l:List DC} {d:DV} (ho:o.op=.load t x) (hs:aW P t=some sz) (hg:mb P t=some ag)
 (hx:j5 G S x=some (.one p)) (hl:kW S.objs p sz=some l) (hd:eg ag l=some d):OpV P G o S d S.objs:=by
 refine .pure λa M hr=>?_;have hp:=i9 hr hx;generalize hv:a.eval x=v at hp;cases hp with
 | one _ _ hp =>
   obtain⟨ad,rfl,hsp,hlen,f,hc,hrep⟩:=jg hr.m hp (by rw[hr.ob];exact hl);cases ag with
   | true =>
     simp only[eg,if_true,Option.some.injEq] at hd;subst hd;refine⟨.agg ((List.range sz).map f).toArray,?_,.agg _ _ (by simp[hlen]) λj c v h1 h2=>?_⟩
     ·simp[execOp,ho,hv,Instr.loadAt,Instr.sureAddr,loadVar,B6 hg,o5 hs,bJ hsp f sz hc]
     ·simp only[List.getElem?_toArray,List.getElem?_map] at h2;have hj:j<sz:=by rw[<- hlen];exact e7 h1
      rw[List.getElem?_range hj] at h2;simp only[Option.map_some,Option.some.injEq] at h2;subst h2;exact hrep j c h1
   | false =>
     simp only[eg,Bool.false_eq_true,if_false] at hd;split at hd
     ·rename_i c;cases hd;have h0:=hc 0 (by simp at hlen;omega);refine⟨f 0,?_,.one _ _ (hrep 0 c rfl)⟩;have hcell:M.w.cell? ad=some (f 0):=by
       obtain⟨b,off,s⟩:=ad;simp only at hsp;subst hsp;exact h0
      simp[execOp,ho,hv,Instr.loadAt,Instr.sureAddr,loadVar,B6 hg,hcell]
     ·cases hd
theorem vq {o:Oper} {t:TypeId} {x y:Operand} {p:DC} {sz:Nat} {d:DV} {l:List DC} {objs':List DObj} (ho:o.op=.store t x y) (hs:aW P t=some sz)
 (hx:j5 G S x=some (.one p)) (hy:j5 G S y=some d) (hl:d.cells=some l) (hsz:l.length=sz) (hst:kV S.objs p l=some objs'):OpV P G o S (.tup []) objs':=by
 intro a M hr;have hp:=i9 hr hx;have hd:=i9 hr hy;generalize hv:a.eval x=v at hp;generalize hu:a.eval y=u at hd;have hcells:∃ vs:List Value,u.cells.toList=vs/\l.length=vs.length/\∀ (j:Nat) (d:DC) (x:Value),l[j]?=some d->vs[j]?=some x->RepC M d x:=by
  cases hd with
  | one c v hc =>
    cases hl;have h1:=hc.isOne;refine⟨[u],by cases u<;>simp_all [Value.cells,isOne],rfl,λj d x h2 h3=>?_⟩;cases j with
    | zero=>simp at h2 h3;subst h2;subst h3;exact hc
    | succ j=>simp at h2
  | agg l' cs h1 h2 =>
    cases hl;exact⟨cs.toList,rfl,by simpa using h1,λj d x h3 h4=>h2 j d x h3 (by simpa using h4)⟩
  | tup=>cases hl
 obtain⟨vs,hvs,hlen,hrep⟩:=hcells;cases hp with
 | one _ _ hp =>
   obtain⟨ad,M',rfl,hrun,hm,hob,he⟩:=nJ (P:=P) hr.m hp hlen hrep (by rw[hr.ob];exact hst);refine⟨undef,M',.inr ⟨?_,rfl⟩,hm,hob,he,.tup _ _ rfl (λj d v h=>by simp at h)⟩;have hne:¬ (u.cells.size≠sz):=by
    rw[<- Array.length_toList,hvs,<- hlen,hsz];simp
   simp only[execOp,ho,hv,hu,Instr.storeAt,Instr.sureAddr,storeVar,Sem.run_bind,Sem.run_pure,Result.andThen_ok,o5 hs];rw[if_neg hne,hvs];simp only[Result.andThen_ok,hrun]
end
section
variable {P:Program} {G:Hn} {S:DS}
def rK (p:DC) (off:Nat):Option DC:=
 match p with
 | .im (.ip l)=>if off<=l.length then some (.im (.ip (l.drop off))) else none
 | .ptr o i=>some (.ptr o (i+off))
 | .ept o g k i=>some (.ept o g k (i+off))
 | _=>none
theorem ld {M:MS} {p q:DC} {off:Nat} {v:Value} (hp:RepC M p v) (h:rK p off=some q) (hv:∃ a,v=.pointer (some a)) :
 ∃ a,v=.pointer (some a)/\RepC M q (.pointer (some (a.add off))):=by
 obtain⟨a,rfl⟩:=hv;refine⟨a,rfl,?_⟩;unfold rK at h;split at h
 ·rename_i l;split at h
  ·rename_i hle;cases h;cases hp with
   | im _ _ hp=>cases hp with
     | ip _ _ val hs hok hc hr =>
       rw[G0 hs];refine .im _ _ (.ip _ _ (λj=>val (off+j)) rfl hok (λj c hj=>?_) (λj c hj=>?_))
       ·rw[List.getElem?_drop] at hj;simp only[Nat.add_assoc];exact hc _ c hj
       ·rw[List.getElem?_drop] at hj;exact hr _ c hj
  ·cases h
 ·rename_i o i;cases h;cases hp with
  | ptr _ _ _ h1 h2 h3 =>
    refine .ptr _ _ _ rfl h2 λc hc=>?_;have:=h3 c hc;simp only[Value.pointer.injEq,Option.some.injEq] at this;subst this;rw[G0 rfl]
 ·rename_i o g k i;cases h;cases hp with
  | ept _ _ _ _ _ h1 h2 h3 =>
    refine .ept _ _ _ _ _ rfl h2 λsz es g' nl hc=>?_;obtain⟨a1,a2⟩:=h3 sz es g' nl hc;refine⟨a1,λe=>?_⟩;obtain⟨b1,b2⟩:=a2 e;refine⟨b1,?_⟩;simp only[Value.pointer.injEq,Option.some.injEq] at b2;subst b2;rw[G0 rfl,Nat.add_assoc]
 ·cases h
def bR (p:DC) (objs:List DObj):Bool:=
 match p with
 | .im (.ip _)=>true
 | .ptr o _=>match objs[o]? with|some (.row _)=>true|_=>false
 | .ept o g _ _=>match objs[o]? with|some (.vec _ _ g' _)=>g==g'|_=>false
 | _=>false
theorem bQ {M:MS} {p:DC} {v:Value} (hp:RepC M p v) (h:bR p M.objs=true):∃ a,v=.pointer (some a):=by
 unfold bR at h;split at h
 ·cases hp with
  | im _ _ hp=>cases hp;exact⟨_,rfl⟩
 ·split at h
  ·rename_i ho;cases hp with
   | ptr _ _ _ h1 h2 h3=>exact⟨_,h3 _ ho⟩
  ·cases h
 ·split at h
  ·rename_i ho;cases hp with
   | ept _ _ _ _ _ h1 h2 h3 =>
     exact⟨_,((h3 _ _ _ _ ho).2 (by simpa using h)).2⟩
  ·cases h
 ·cases h
def zA (P:Program) (t:TypeId) (f:Nat):Option Nat:=
 match P.underlying t with
 | some (.struct fs)=>match fs[f]? with
   | some x=>match aW P x.type with
     | some (_+1)=>some x.offset
     | _=>none
   | none=>none
 | _=>none
theorem lW {o:Oper} {t:TypeId} {x:Operand} {f off:Nat} {p q:DC} (ho:o.op=.fieldAddr t x f) (hf:zA P t f=some off)
 (hx:j5 G S x=some (.one p)) (ha:bR p S.objs=true) (hq:rK p off=some q):OpV P G o S (.one q) S.objs:=by
 refine .pure λa M hr=>?_;have hp:=i9 hr hx;generalize hv:a.eval x=v at hp;cases hp with
 | one _ _ hp =>
   obtain⟨ad,rfl,hrep⟩:=ld hp hq (bQ hp (by rw[hr.ob];exact ha));refine⟨_,?_,.one _ _ hrep⟩;unfold zA at hf;split at hf
   ·rename_i fs hu;split at hf
    ·rename_i y hy;split at hf
     ·rename_i k hk;cases hf;simp[execOp,ho,hv,Instr.fieldAt,e8 hu,hy,Instr.sureAddr,fieldPlace,o5 hk]
     ·cases hf
    ·cases hf
   ·cases hf
def nN (objs:List DObj) (x:DC) (i:Int) (sz:Nat):Option DC:=
 if 0<=i then match x with
  | .im (.sl l)=>match l[i.toNat]? with
    | some e=>if e.length=sz then some (.im (.ip e)) else none
    | none=>none
  | .vec o g off len=>if i.toNat<len then match objs[o]? with
   | some (.vec z _ g' _)=>if g=g'/\z=sz then some (.ept o g (off+i.toNat) 0) else none
   | _=>none
    else none
  | _=>none
 else none
theorem vu {o:Oper} {t e:TypeId} {x y:Operand} {k:IntKind} {i:Int} {sz:Nat} {p q:DC} (ho:o.op=.indexAddr t x y) (ht:P.underlying t=some (.slice e)) (hs:aW P e=some sz)
 (hx:j5 G S x=some (.one p)) (hy:C9 (j5 G S y)=some (.int k i)) (hq:nN S.objs p i sz=some q):OpV P G o S (.one q) S.objs:=by
 refine .pure λa M hr=>?_;have hp:=i9 hr hx;have e1:=p8 hr hy;generalize hv:a.eval x=v at hp;rw[<- hr.ob] at hq
 have run:∀ (ad:Addr) (len cap:Nat),0<=i->i.toNat<len->v=.slice (some ad) len cap ->
  (execOp a.eval o).run P M.w=.ok (.value (.pointer (some (ad.add (i.toNat*sz))))) M.w:=by
  rintro ad len cap h0 hlt rfl;have h1:i<(len:Int):=by omega
  simp[execOp,ho,hv,e1,Instr.indexAt,asIntOf,e8 ht,o5 hs,h0,h1]
 unfold nN at hq;split at hq
 ·rename_i h0;cases hp with
  | one _ _ hp =>
    split at hq
    ·rename_i l;split at hq
     ·rename_i z hz;split at hq
      ·rename_i hlen;cases hq;cases hp with
       | im _ _ hp =>
         cases hp with
         | slnil=>simp at hz
         | slz=>simp at hz
         | sl _ ad cap sz' val hsp hok hcap hl hc hrep =>
           have hlt:=e7 hz;have hzs:=hl _ _ hz;rw[hlen] at hzs;subst hzs;refine⟨_,run ad _ cap h0 hlt rfl,.one _ _ (.im _ _ ?_)⟩;rw[G0 hsp];exact .ip _ _ (λj=>val i.toNat j) rfl (hok (by rintro rfl;simp at hz)) (λj c hj=>hc _ _ _ _ hz hj) (λj c hj=>hrep _ _ _ _ hz hj)
      ·cases hq
     ·cases hq
    ·rename_i ob g off len;split at hq
     ·rename_i hlt;split at hq
      ·rename_i z es g' nl hob;split at hq
       ·rename_i hg;obtain⟨rfl,rfl⟩:=hg;cases hq;cases hp with
        | vec _ _ _ _ _ h1 h2 h3 =>
          obtain⟨_,h4⟩:=h3 _ _ _ _ hob;obtain⟨h5,h6⟩:=h4 rfl;cases nl with
          | true=>obtain⟨_,h7,_⟩:=h5 rfl;omega
          | false =>
            obtain⟨xo,cap,rfl,hle,hxo,hbs⟩:=h6 rfl;refine⟨_,run _ _ cap h0 hlt rfl,.one _ _ (.ept _ _ _ _ _ rfl h2 λsz es' g' nl' hob'=>?_)⟩;rw[hob] at hob';cases hob';refine⟨Nat.le_refl _,λ_=>⟨rfl,?_⟩⟩;rw[G0 rfl];rcases hxo with rfl|rfl
            ·omega
            ·simp only[Nat.add_zero,Nat.add_mul]
       ·cases hq
      ·cases hq
     ·cases hq
    ·cases hq
 ·cases hq
theorem nZ {o:Oper} {t e:TypeId} {n:Nat} {x y:Operand} {k:IntKind} {i:Int} {sz:Nat} {p q:DC} (ho:o.op=.indexAddr t x y) (ht:P.underlying t=some (.array n e)) (hs:aW P e=some sz)
 (hx:j5 G S x=some (.one p)) (hy:C9 (j5 G S y)=some (.int k i)) (h0:0<=i) (hn:i<n) (ha:bR p S.objs=true) (hq:rK p (i.toNat*sz)=some q):OpV P G o S (.one q) S.objs:=by
 refine .pure λa M hr=>?_;have hp:=i9 hr hx;have e1:=p8 hr hy;generalize hv:a.eval x=v at hp;cases hp with
 | one _ _ hp =>
   obtain⟨ad,rfl,hrep⟩:=ld hp hq (bQ hp (by rw[hr.ob];exact ha));refine⟨_,?_,.one _ _ hrep⟩;simp[execOp,ho,hv,e1,Instr.indexAt,asIntOf,Instr.sureAddr,e8 ht,o5 hs,h0,hn]
theorem vv {o:Oper} {t u:TypeId} {x:Operand} {f off sz:Nat} {ag:Bool} {fs:Array Field} {y:Field} {l:List DC} {d:DV} (ho:o.op=.field t x f) (ht:P.underlying t=some (.struct fs))
 (hf:fs[f]?=some y) (hu:y.type=u) (hoff:y.offset=off) (hs:aW P u=some sz) (hg:mb P u=some ag)
 (hx:j5 G S x=some (.agg l)) (hle:off+sz<=l.length) (hd:eg ag ((l.drop off).take sz)=some d):OpV P G o S d S.objs:=by
 refine .pure λa M hr=>?_;have hp:=i9 hr hx;subst hu;subst hoff;generalize hv:a.eval x=v at hp;cases hp with
 | agg _ cs h1 h2 =>
   cases ag with
   | true =>
     simp only[eg,if_true,Option.some.injEq] at hd;subst hd;refine⟨.agg (cs.extract y.offset (y.offset+sz)),?_,.agg _ _ (by simp;omega) λj c v h3 h4=>?_⟩
     ·simp[execOp,ho,hv,Instr.field,e8 ht,hf,asAgg,part,B6 hg,o5 hs]
     ·rw[List.getElem?_take] at h3;split at h3
      ·rw[List.getElem?_drop] at h3;rw[Array.getElem?_extract] at h4;split at h4
       ·exact h2 _ c v h3 h4
       ·cases h4
      ·cases h3
   | false =>
     simp only[eg,Bool.false_eq_true,if_false] at hd;split at hd
     ·rename_i c hc;cases hd;have h3:l[y.offset]?=some c:=by
       have:=congrArg (λz=>z[0]?) hc;simp only[List.getElem?_cons_zero] at this;rw[List.getElem?_take] at this;split at this
       ·simpa using this
       ·cases this
      have hlt:=e7 h3;have hcs:cs[y.offset]?=some cs[y.offset]:=by simp[<- h1,hlt]
      refine⟨cs[y.offset],?_,.one _ _ (h2 _ c _ h3 hcs)⟩;simp[execOp,ho,hv,Instr.field,e8 ht,hf,asAgg,part,B6 hg,hcs]
     ·cases hd
theorem pU {o:Oper} {x:Operand} {i:Nat} {l:List DV} {d:DV} (ho:o.op=.extract x i) (hx:j5 G S x=some (.tup l)) (hi:l[i]?=some d):OpV P G o S d S.objs:=by
 refine .pure λa M hr=>?_;have hp:=i9 hr hx;generalize hv:a.eval x=v at hp;cases hp with
 | tup _ vs h1 h2 =>
   have hlt:=e7 hi;have hvs:vs[i]?=some vs[i]:=by simp[<- h1,hlt]
   exact⟨vs[i],by simp[execOp,ho,hv,Instr.extract,hvs],h2 i d _ hi hvs⟩
theorem ce {o:Oper} {x:Operand} {c:DC} (ho:o.op=.nilCheck x) (hx:j5 G S x=some (.one c))
 (hc:bR c S.objs=true\/(∃ f caps,c=.im (.fn (.func f) caps))\/∃ f caps,c=.fn (.func f) caps):OpV P G o S (.one c) S.objs:=by
 refine .pure λa M hr=>?_;have hp:=i9 hr hx;refine⟨a.eval x,?_,hp⟩;generalize hv:a.eval x=v at hp;cases hp with
 | one _ _ hp =>
   rcases hc with hc|⟨f,caps,rfl⟩|⟨f,caps,rfl⟩
   ·obtain⟨ad,rfl⟩:=bQ hp (by rw[hr.ob];exact hc);simp[execOp,ho,hv]
   ·cases hp with
    | im _ _ hp=>cases hp;simp[execOp,ho,hv]
   ·cases hp;simp[execOp,ho,hv]
def yb (objs:List DObj) (x:DC):Option Nat:=
 match x with
 | .im (.sl l)=>some l.length
 | .im (.raw (.slice none 0 0))=>some 0
 | .vec o g _ len=>match objs[o]? with
   | some (.vec _ _ g' _)=>if g=g' then some len else none
   | _=>none
 | _=>none
theorem rA {M:MS} {x:DC} {v:Value} {n:Nat} (hp:RepC M x v) (h:yb M.objs x=some n):∃ a cap,v=.slice a n cap:=by
 unfold yb at h;split at h
 ·cases h;cases hp with
  | im _ _ hp=>cases hp with
    | slnil=>exact⟨_,_,rfl⟩
    | sl=>exact⟨_,_,rfl⟩
    | slz=>exact⟨_,_,rfl⟩
 ·cases h;cases hp with
  | im _ _ hp=>cases hp;exact⟨_,_,rfl⟩
 ·rename_i o g off len;split at h
  ·rename_i z es g' nl ho;split at h
   ·rename_i hg;cases h;cases hp with
    | vec _ _ _ _ _ h1 h2 h3 =>
      obtain⟨_,h4⟩:=h3 _ _ _ _ ho;obtain⟨h5,h6⟩:=h4 hg;rcases Bool.eq_false_or_eq_true nl with hn|hn
      ·obtain⟨_,rfl,rfl⟩:=h5 hn;exact⟨_,_,rfl⟩
      ·obtain⟨xo,cap,rfl,_⟩:=h6 hn;exact⟨_,_,rfl⟩
   ·cases h
  ·cases h
 ·cases h
theorem Bs {o:Oper} {x:Operand} {t e:TypeId} {c:DC} {n:Nat} (ho:o.op=.call { callee:=.builtin .len,args:=#[x],argTypes:=#[t] }) (ht:P.underlying t=some (.slice e))
 (hx:j5 G S x=some (.one c)) (hl:yb S.objs c=some n):OpV P G o S (.one (.im (.raw (.int .i64 n)))) S.objs:=by
 refine .pure λa M hr=>⟨.int .i64 n,?_,.mkraw rfl⟩
 have hp:=i9 hr hx;generalize hv:a.eval x=v at hp;cases hp with
 | one _ _ hp =>
   obtain⟨ad,cap,rfl⟩:=rA hp (by rw[hr.ob];exact hl);simp[execOp,ho,resolve,invoke,builtin,Builtin.len_,hv,e8 ht,goInt]
def D7 (objs:List DObj) (x:DC) (lo:Int) (hi:Option Int) (sz:Nat):Option DC:=
 match x with
 | .im (.sl l)=>if 0<=lo/\lo<=hi.getD l.length/\hi.getD l.length<=l.length then (if lo=0 then some (.im (.sl (l.take (hi.getD l.length).toNat))) else match l[lo.toNat]? with
  | some e=>if e.length=sz then some (.im (.sl ((l.take (hi.getD l.length).toNat).drop lo.toNat))) else none
  | none=>some (.im (.sl []))) else none
 | .vec o g off len=>if 0<=lo/\lo<=hi.getD len/\hi.getD len<=len then match objs[o]? with
  | some (.vec z _ g' _)=>if g=g'/\(z=sz\/len=0) then some (.vec o g (off+lo.toNat) ((hi.getD len).toNat-lo.toNat)) else none
  | _=>none
   else none
 | _=>none
def qG (G:Hn) (S:DS):Option Operand->Option (Option Int)
 | none=>some none
 | some x=>match C9 (j5 G S x) with
   | some (.int _ i)=>some (some i)
   | _=>none
theorem ko {a:Act} {M:MS} (hr:Rel G S a M) {x:Option Operand} {i:Option Int} (h:qG G S x=some i) :
 (i=none/\x=none)\/∃ j y k,i=some j/\x=some y/\a.eval y=.int k j:=by
 cases x with
 | none=>cases h;exact .inl ⟨rfl,rfl⟩
 | some y =>
   simp only[qG] at h;split at h
   ·rename_i k j hy;cases h;exact .inr ⟨j,y,k,rfl,rfl,p8 hr hy⟩
   ·cases h
theorem wz {t e:TypeId} {sz:Nat} (ht:P.underlying t=some (.slice e)) (hs:aW P e=some sz) {a:Option Addr} {len cap:Nat} {w:World} {klo khi:IntKind} {lo:Int} {vlo vhi:Option Value} {hi:Int}
 (hlo:(vlo=none/\lo=0)\/vlo=some (.int klo lo)) (hhi:(vhi=none/\hi=len)\/vhi=some (.int khi hi))
 (h0:0<=lo) (h1:lo<=hi) (h2:hi<=len) (hc:len<=cap) :
 (Instr.sliceAt t (.slice a len cap) vlo vhi none).run P w=.ok (.slice (if cap=lo.toNat then a else a.map (·.add (lo.toNat*sz))) (hi.toNat-lo.toNat) (cap-lo.toNat)) w:=by
 have h4:hi<=(cap:Int):=by omega
 have h5:(0:Int)<=hi:=by omega
 rcases hlo with⟨rfl,rfl⟩|rfl<;>rcases hhi with⟨rfl,rfl⟩|rfl
 ·simp[Instr.sliceAt,e8 ht,Instr.slice,Instr.sliceBounds,o5 hs]
 ·simp[Instr.sliceAt,e8 ht,Instr.slice,Instr.sliceBounds,Instr.sliceBound,asIntOf,o5 hs,h4,h5]
 ·have h6:lo<=(len:Int):=by omega
  simp[Instr.sliceAt,e8 ht,Instr.slice,Instr.sliceBounds,Instr.sliceBound,asIntOf,o5 hs,h0,h6]
 ·have h6:lo<=((hi.toNat:Nat):Int):=by omega
  have h7:lo<=max hi 0:=by omega
  simp[Instr.sliceAt,e8 ht,Instr.slice,Instr.sliceBounds,Instr.sliceBound,asIntOf,o5 hs,h0,h4,h5,h7]
theorem vr {o:Oper} {t e:TypeId} {sz:Nat} {x:Operand} {lo hi:Option Operand} {c d:DC} {il ih:Option Int} (ho:o.op=.slice t x lo hi none) (ht:P.underlying t=some (.slice e)) (hs:aW P e=some sz)
 (hx:j5 G S x=some (.one c)) (hl:qG G S lo=some il) (hh:qG G S hi=some ih) (hd:D7 S.objs c (il.getD 0) ih sz=some d):OpV P G o S (.one d) S.objs:=by
 refine .pure λa M hr=>?_;have hp:=i9 hr hx;have el:=ko hr hl;have eh:=ko hr hh;generalize hv:a.eval x=v at hp;rw[<- hr.ob] at hd
 have run:∀ (ad:Option Addr) (len cap:Nat),0<=il.getD 0->il.getD 0<=ih.getD len->ih.getD len<=len->len<=cap->v=.slice ad len cap ->
  (execOp a.eval o).run P M.w=.ok (.value (.slice (if cap=(il.getD 0).toNat then ad else ad.map (·.add ((il.getD 0).toNat*sz))) ((ih.getD len).toNat-(il.getD 0).toNat) (cap-(il.getD 0).toNat))) M.w:=by
  rintro ad len cap h0 h1 h2 h3 rfl;simp only[execOp,ho,Option.map_none,Sem.run_bind,hv];have:∃ kl kh,((lo.map a.eval=none/\il.getD 0=0)\/lo.map a.eval=some (.int kl (il.getD 0)))/\((hi.map a.eval=none/\ih.getD len=len)\/hi.map a.eval=some (.int kh (ih.getD len))):=by
   rcases el with⟨rfl,rfl⟩|⟨i,z,kz,rfl,rfl,ez⟩<;>rcases eh with⟨rfl,rfl⟩|⟨j,y,k,rfl,rfl,e⟩
   ·exact⟨.i64,.i64,.inl ⟨rfl,rfl⟩,.inl ⟨rfl,rfl⟩⟩
   ·exact⟨.i64,k,.inl ⟨rfl,rfl⟩,.inr (by simp[e])⟩
   ·exact⟨kz,.i64,.inr (by simp[ez]),.inl ⟨rfl,rfl⟩⟩
   ·exact⟨kz,k,.inr (by simp[ez]),.inr (by simp[e])⟩
  obtain⟨kl,kh,a1,a2⟩:=this;rw[wz ht hs a1 a2 h0 h1 h2 h3];rfl
 cases hp with
 | one _ _ hp =>
   unfold D7 at hd;split at hd
   ·rename_i l;split at hd
    ·rename_i hb;obtain⟨h0,h1,h2⟩:=hb;cases hp with
     | im _ _ hp =>
       have hlen:((l.take (ih.getD l.length).toNat).drop (il.getD 0).toNat).length=(ih.getD l.length).toNat-(il.getD 0).toNat:=by simp;omega
       cases hp with
       | slnil =>
         simp only[List.length_nil] at h0 h1 h2;have e1:(il.getD 0)=0:=by omega
         rw[if_pos e1] at hd;cases hd;refine⟨_,run none 0 0 h0 h1 h2 (Nat.le_refl _) rfl,.one _ _ (.im _ _ ?_)⟩;simp only[List.take_nil,e1,Int.toNat_zero,Nat.sub_zero,Option.map_none,ite_self];have e2:(ih.getD ((0:Nat):Int)).toNat=0:=by omega
         rw[e2];exact .slnil
       | slz ad cap =>
         simp only[List.length_nil] at h0 h1 h2;have e1:(il.getD 0)=0:=by omega
         rw[if_pos e1] at hd;cases hd;refine⟨_,run (some ad) 0 cap h0 h1 h2 (Nat.zero_le _) rfl,.one _ _ (.im _ _ ?_)⟩;simp only[List.take_nil,e1,Int.toNat_zero,Nat.sub_zero,Option.map_some];have e2:(ih.getD ((0:Nat):Int)).toNat=0:=by omega
         rw[e2];split<;>exact .slz _ _
       | sl _ ad cap sz' val hsp hok hcap hl hc hrep =>
         refine⟨_,run (some ad) _ cap h0 h1 h2 hcap rfl,.one _ _ ?_⟩;have nil:∀ (b:Addr) (m:Nat),b.spot=none->RepI M.w M.ok (.sl []) (.slice (some b) 0 m):=λb m hb =>
          .sl [] b m 0 (λ_ _=>undef) hb (λh=>absurd rfl h) (Nat.zero_le _) (λi x h=>by simp at h) (λi x j c h=>by simp at h) (λi x j c h=>by simp at h)
         split at hd
         ·rename_i hz;cases hd;have hlen2:(l.take (ih.getD l.length).toNat).length=(ih.getD l.length).toNat:=by simp;omega
          have e3:(if cap=(il.getD 0).toNat then some ad else Option.map (λx=>x.add ((il.getD 0).toNat*sz)) (some ad))=some ad:=by
           rw[hz];simp[Addr.add]
          rw[e3,hz,Int.toNat_zero,Nat.sub_zero,Nat.sub_zero];refine .im _ _ ?_;have m8:∀ (i:Nat) (x:List IC),(l.take (ih.getD l.length).toNat)[i]?=some x->l[i]?=some x:=λi x h=>by
           rw[List.getElem?_take] at h;split at h
           ·exact h
           ·cases h
          conv=>rhs;rw[<- hlen2]
          exact .sl _ ad cap sz' val hsp (λh=>hok (by rintro rfl;simp at h)) (by omega) (λi x h=>hl i x (m8 i x h)) (λi x j c h h'=>hc i x j c (m8 i x h) h') (λi x j c h h'=>hrep i x j c (m8 i x h) h')
         ·split at hd
          ·rename_i e he;split at hd
           ·rename_i hes;cases hd;have hz':=hl _ _ he;rw[hes] at hz';subst hz';have hlt:=e7 he;have hcz:cap≠(il.getD 0).toNat:=by omega
            rw[if_neg hcz,Option.map_some,G0 hsp,<- hlen];have m8:∀ (i:Nat) (x:List IC),((l.take (ih.getD l.length).toNat).drop (il.getD 0).toNat)[i]?=some x->l[(il.getD 0).toNat+i]?=some x:=λi x h=>by
             rw[List.getElem?_drop,List.getElem?_take] at h;split at h
             ·exact h
             ·cases h
            refine .im _ _ (.sl _ _ _ sz (λi j=>val ((il.getD 0).toNat+i) j) rfl (λ_=>hok (by rintro rfl;simp at he)) (by rw[hlen];omega) (λi x h=>hl _ x (m8 i x h)) (λi x j c h h'=>?_) (λi x j c h h'=>hrep _ x j c (m8 i x h) h'));have:=hc _ x j c (m8 i x h) h';rw[<- this];simp only[Nat.add_mul,Nat.add_assoc]
           ·cases hd
          ·rename_i hnone;cases hd;have hge:=List.getElem?_eq_none_iff.1 hnone;have e4:(ih.getD l.length).toNat-(il.getD 0).toNat=0:=by omega
           rw[e4];refine .im _ _ ?_;split
           ·exact nil _ _ hsp
           ·exact nil _ _ (by simp[G0 hsp])
    ·cases hd
   ·rename_i ob g off len;split at hd
    ·rename_i hb;obtain⟨h0,h1,h2⟩:=hb;split at hd
     ·rename_i z es g' nl hob;split at hd
      ·rename_i hg;obtain⟨rfl,hz⟩:=hg;cases hd;cases hp with
       | vec _ _ _ _ _ h3 h4 h5 =>
         obtain⟨_,h6⟩:=h5 _ _ _ _ hob;obtain⟨h7,h8⟩:=h6 rfl;rcases Bool.eq_false_or_eq_true nl with hn|hn
         ·obtain⟨rfl,rfl,rfl⟩:=h7 hn;refine⟨_,run none 0 0 h0 h1 h2 (Nat.le_refl _) rfl,.one _ _ (.vec _ _ _ _ _ rfl h4 λsz2 es2 g2 nl2 hob2=>?_)⟩;rw[hob] at hob2;cases hob2;refine⟨Nat.le_refl _,λ_=>⟨λ_=>⟨by omega,by omega,?_⟩,(λe=>by rw[hn] at e;cases e)⟩⟩;have e1:(il.getD 0)=0:=by omega
          have e2:(ih.getD ((0:Nat):Int)).toNat=0:=by omega
          simp only[e1,e2,Option.map_none,ite_self,Nat.zero_sub]
         ·obtain⟨xo,cap,rfl,hle,hxo,hbs⟩:=h8 hn;refine⟨_,run _ _ cap h0 h1 h2 hle rfl,.one _ _ (.vec _ _ _ _ _ rfl h4 λsz2 es2 g2 nl2 hob2=>?_)⟩;rw[hob] at hob2;cases hob2;refine⟨Nat.le_refl _,λ_=>⟨(λe=>by rw[hn] at e;cases e),λ_=>?_⟩⟩;have hsum:off+(il.getD 0).toNat+(cap-(il.getD 0).toNat)=off+cap:=by omega
          by_cases hcz:cap=(il.getD 0).toNat
          ·rw[if_pos hcz];exact⟨xo,cap-(il.getD 0).toNat,rfl,by omega,.inl (by omega),by rw[hsum];exact hbs⟩
          ·rw[if_neg hcz,Option.map_some,G0 rfl];refine⟨_,cap-(il.getD 0).toNat,rfl,by omega,.inr ?_,by rw[hsum];exact hbs⟩;rcases hxo with rfl|rfl
           ·omega
           ·rcases hz with rfl|rfl
            ·rw[Nat.add_mul]
            ·have e1:(il.getD 0).toNat=0:=by omega
             rw[e1];simp
      ·cases hd
     ·cases hd
    ·cases hd
   ·cases hd
end
section
variable {P:Program} {G:Hn} {S:DS}
theorem P1 {w:World} {x:Obj}:(w.alloc x).heap[w.heap.size]?=some x:=by
 unfold World.alloc;simp only[Array.getElem?_push_size]
theorem RepV.cells {M:MS} {d:DV} {v:Value} {l:List DC} (h:RepV M d v) (hl:d.cells=some l) :
 l.length=v.cells.size/\∀ (j:Nat) (c:DC) (x:Value),l[j]?=some c->v.cells[j]?=some x->RepC M c x:=by
 cases h with
 | one c v hc =>
   cases hl;have h1:=hc.isOne;have e:v.cells=#[v]:=by cases v<;>simp_all [Value.cells,isOne]
   rw[e];refine⟨rfl,λj d x h2 h3=>?_⟩;cases j with
   | zero=>simp at h2 h3;subst h2;subst h3;exact hc
   | succ j=>simp at h2
 | agg l' cs h1 h2=>cases hl;exact⟨h1,h2⟩
 | tup=>cases hl
theorem iX {M:MS} (hm:RelM G M) {cs:Array Value} {T:TypeId} {l:List DC} (hl:l.length=cs.size) (hr:∀ (j:Nat) (c:DC) (x:Value),l[j]?=some c->cs[j]?=some x->RepC M c x) :
 RelM G (M.push (.cells cs T) (.row l))/\RepC (M.push (.cells cs T) (.row l)) (.ptr M.objs.length 0) (.pointer (some ⟨M.w.heap.size,0,none⟩)):=by
 have he:=Ext.push (M:=M) (.cells cs T) (.row l) hm.lt;constructor
 ·refine hm.push rfl ⟨cs,T,?_,hl.symm,λj d v h1 h2=>(hr j d v h1 h2).ext he⟩;simp only[MS.push,if_true];exact P1
 ·exact .ptr _ _ _ rfl (by simp[MS.push]) λc _=>by simp[MS.push]
theorem Bt {o:Oper} {t:TypeId} {x:Operand} {d:DV} {l:List DC} (ho:o.op=.box t x) (hx:j5 G S x=some d) (hl:d.cells=some l) :
 OpV P G o S (.one (.ptr S.objs.length 0)) (S.objs++[.row l]):=by
 intro a M hr;have hp:=i9 hr hx;generalize hv:a.eval x=v at hp;obtain⟨h1,h2⟩:=hp.cells hl;obtain⟨hm,hc⟩:=iX (T:=t) hr.m h1 h2;refine⟨_,_,.inl ?_,hm,by simp[MS.push,hr.ob],Ext.push _ _ hr.m.lt,by rw[<- hr.ob];exact .one _ _ hc⟩;simp[execOp,ho,hv,Instr.box,newVar,newRow,newObj,Sem.run,MS.push]
def zcells:List Value->Nat->List DC×List DObj
 | [],_=>([],[])
 | .slice none 0 0 :: vs,n=>((.vec n 0 0 0) :: (zcells vs (n+1)).1,.vec 0 [] 0 true :: (zcells vs (n+1)).2)
 | v :: vs,n=>(.im (.raw v) :: (zcells vs n).1,(zcells vs n).2)
theorem X3:∀ (vs:List Value) (M:MS),RelM G M->vs.all v7=true->∃ M',M'.w=M.w/\RelM G M'/\M'.objs=M.objs++(zcells vs M.objs.length).2/\Ext M.objs.length M M' /\
 (zcells vs M.objs.length).1.length=vs.length/\∀ (j:Nat) (c:DC) (x:Value),(zcells vs M.objs.length).1[j]?=some c->vs[j]?=some x->RepC M' c x
 | [],M,hm,_=>⟨M,rfl,hm,by simp[zcells],Ext.refl M,rfl,λj c x h=>by simp[zcells] at h⟩
 | v :: vs,M,hm,hp=>by
   simp only[List.all_cons,Bool.and_eq_true] at hp;by_cases hv:v=.slice none 0 0
   ·subst hv;have hd:(DObj.vec 0 [] 0 true).blk=false:=rfl;have he:=Ext.idle (M:=M) hd;have hm':RelM G (M.idle (.vec 0 [] 0 true)):=hm.idle hd ⟨λ_=>rfl,λh=>by cases h⟩;have hlen:(M.idle (.vec 0 [] 0 true)).objs.length=M.objs.length+1:=by simp[MS.idle]
    obtain⟨M',h1,h2,h3,h4,h5,h6⟩:=X3 vs _ hm' hp.2;rw[hlen] at h3 h4 h5 h6;refine⟨M',h1,h2,by simp[h3,MS.idle,zcells],he.trans (h4.weaken (by omega)),by simp[zcells,h5],λj c x hj hx=>?_⟩;cases j with
    | zero =>
      simp[zcells] at hj hx;subst hj;subst hx;refine RepC.ext (M:=M.idle (.vec 0 [] 0 true)) (by rw[hlen];exact h4) (.vec _ _ _ _ _ rfl (by rw[hlen];omega) λsz es g nl hob=>?_);simp[MS.idle] at hob;obtain⟨rfl,rfl,rfl,rfl⟩:=hob;exact⟨Nat.le_refl _,λ_=>⟨λ_=>⟨rfl,rfl,rfl⟩,(λh=>by cases h)⟩⟩
    | succ j=>exact h6 j c x (by simpa[zcells] using hj) (by simpa using hx)
   ·have hz:∀ n,zcells (v :: vs) n=(.im (.raw v) :: (zcells vs n).1,(zcells vs n).2):=λn=>by
     exact zcells.eq_3 n v vs hv
    obtain⟨M',h1,h2,h3,h4,h5,h6⟩:=X3 vs M hm hp.2;rw[hz];refine⟨M',h1,h2,h3,h4,by simp[h5],λj c x hj hx=>?_⟩;cases j with
    | zero =>
      simp at hj hx;subst hj;subst hx;exact .im _ _ (.raw _ hp.1)
    | succ j=>exact h6 j c x (by simpa using hj) (by simpa using hx)
def E5 (P:Program) (t:TypeId):Option (List Value):=((P.info? t).bind (·.zero)).map (·.cells.toList)
theorem X7 {t:TypeId} {l:List Value} {w:World} (h:E5 P t=some l):∃ v,(zeroValue t).run P w=.ok v w/\v.cells.toList=l:=by
 simp only[E5,Option.map_eq_some_iff,Option.bind_eq_some_iff] at h;obtain⟨v,⟨i,hi,hz⟩,rfl⟩:=h;exact⟨v,by simp[zeroValue,typeInfo,hi,hz],rfl⟩
theorem vD {o:Oper} {t:TypeId} {l:List Value} (ho:o.op=.alloc t) (hz:E5 P t=some l) (hp:l.all v7=true) :
 OpV P G o S (.one (.ptr (S.objs.length+(zcells l S.objs.length).2.length) 0)) (S.objs++(zcells l S.objs.length).2++[.row (zcells l S.objs.length).1]):=by
 intro a M hr;obtain⟨M',h1,h2,h3,h4,h5,h6⟩:=X3 l M hr.m hp;obtain⟨v,hrun,hv⟩:=X7 (w:=M.w) hz;rw[<- hr.ob];subst hv;obtain⟨hm,hc⟩:=iX (T:=t) (cs:=v.cells) (l:=(zcells v.cells.toList M.objs.length).1) h2 (by simpa using h5) (λj c x hj hx=>h6 j c x hj (by simpa using hx));refine⟨.pointer (some ⟨M'.w.heap.size,0,none⟩),_,.inl ?_,hm,by simp[MS.push,h3],?_,.one _ _ ?_⟩
 ·simp[execOp,ho,Instr.alloc,hrun,newVar,newRow,newObj,Sem.run,MS.push,h1]
 ·exact h4.trans ((Ext.push _ _ h2.lt).weaken (by rw[h3];simp))
 ·have:M'.objs.length=M.objs.length+(zcells v.cells.toList M.objs.length).2.length:=by rw[h3];simp
  rw[<- this];exact hc
theorem Bp {o:Oper} (sz:Nat) (ho:o.op=.assign (.const (.slice none 0 0))):OpV P G o S (.one (.vec S.objs.length 0 0 0)) (S.objs++[.vec sz [] 0 true]):=by
 intro a M hr;have hd:(DObj.vec sz [] 0 true).blk=false:=rfl;refine⟨.slice none 0 0,M.idle (.vec sz [] 0 true),.inl (by simp[execOp,ho,Act.eval,MS.idle]),hr.m.idle hd ⟨λ_=>rfl,λh=>by cases h⟩,by simp[MS.idle,hr.ob],Ext.idle hd,.one _ _ ?_⟩;rw[<- hr.ob];refine .vec _ _ _ _ _ rfl (by simp[MS.idle]) λsz es g nl hob=>?_;simp[MS.idle] at hob;obtain⟨rfl,rfl,rfl,rfl⟩:=hob;exact⟨Nat.le_refl _,λ_=>⟨λ_=>⟨rfl,rfl,rfl⟩,(λh=>by cases h)⟩⟩
def ab (place:Nat->Option (Nat×Nat)) (c:List DC):List (Nat×List DC)->Option (List DC)
 | []=>some c
 | (i,v) :: r=>match place i with
   | some (off,size)=>if v.length=size/\off+v.length<=c.length then ab place (P8 c off v) r else none
   | none=>none
theorem nE (vs:List Value):∀ (c:Array Value) (off k:Nat),((vs.zipIdx k).foldl (λcs (x:Value×Nat)=>cs.setIfInBounds (off+x.2) x.1) c)=A5 c (off+k) vs:=by
 induction vs with
 | nil=>intro c off k;rfl
 | cons v vs ih=>intro c off k;rw[List.zipIdx_cons,List.foldl_cons,ih];rfl
theorem W0 {M:MS} {place:Nat->Option (Nat×Nat)}:∀ (ps:List (Nat×List DC)) (qs:List (Nat×Value)) (c:List DC) (ca:Array Value) (r:List DC),
 c.length=ca.size->(∀ (j:Nat) (d:DC) (x:Value),c[j]?=some d->ca[j]?=some x->RepC M d x) ->
 ps.length=qs.length->(∀ (j:Nat) (p:Nat×List DC) (q:Nat×Value),ps[j]?=some p->qs[j]?=some q->p.1=q.1/\p.2.length=q.2.cells.size/\∀ (k:Nat) (d:DC) (x:Value),p.2[k]?=some d->q.2.cells[k]?=some x->RepC M d x) ->
 ab place c ps=some r->∃ ra,Instr.fill place ca qs=some ra/\r.length=ra.size/\∀ (j:Nat) (d:DC) (x:Value),r[j]?=some d->ra[j]?=some x->RepC M d x
 | [],[],c,ca,r,hc,hr,_,_,h=>by cases h;exact⟨ca,rfl,hc,hr⟩
 | [],q :: qs,_,_,_,_,_,hl,_,_=>by simp at hl
 | p :: ps,[],_,_,_,_,_,hl,_,_=>by simp at hl
 | (i,v) :: ps,(i',u) :: qs,c,ca,r,hc,hr,hl,hall,h=>by
   obtain⟨h1,h2,h3⟩:=hall 0 _ _ rfl rfl;simp only at h1 h2 h3;subst h1;simp only[ab] at h;split at h
   ·rename_i off size hpl;split at h
    ·rename_i hcond;have hlen:(P8 c off v).length=ca.size:=by rw[T9 hcond.2,hc]
     have hu:u.cells.size=size:=by rw[<- h2];exact hcond.1
     obtain⟨ra,e1,e2,e3⟩:=W0 ps qs (P8 c off v) (A5 ca off u.cells.toList) r (by rw[s0,hlen]) (λj d x hd hx=>by
      rw[eP hcond.2] at hd;rw[V0 _ _ _ _ (by simp;omega)] at hx;by_cases hj:off<=j/\j<off+v.length
      ·rw[if_pos hj] at hd;rw[if_pos (by simp;omega)] at hx;exact h3 _ d x hd (by simpa using hx)
      ·rw[if_neg hj] at hd;rw[if_neg (by simp;omega)] at hx;exact hr j d x hd hx) (by simpa using hl) (λj p q hp hq=>hall (j+1) p q (by simpa using hp) (by simpa using hq)) h
     refine⟨ra,?_,e2,e3⟩;have hcnd:(decide (u.cells.size≠size)||decide (off+u.cells.size > ca.size))=false:=by
      have:off+u.cells.size<=ca.size:=by omega
      simp[hu];omega
     simp only[Instr.fill,hpl,hcnd,Bool.false_eq_true,if_false];rw[<- e1]
     congr 1
     have:=nE u.cells.toList ca off 0;simp only[Nat.add_zero] at this;rw[<- this,<- Array.foldl_toList,Array.toList_zipIdx]
    ·cases h
   ·cases h
def L9 (G:Hn) (S:DS):List (Nat×Operand)->Option (List (Nat×List DC))
 | []=>some []
 | (i,x) :: r=>match j5 G S x with
   | some d=>match d.cells,L9 G S r with
     | some l,some r'=>some ((i,l) :: r')
     | _,_=>none
   | none=>none
theorem N2 {a:Act} {M:MS} (hr:Rel G S a M):∀ (ps:List (Nat×Operand)) (qs:List (Nat×List DC)),L9 G S ps=some qs ->
 qs.length=(ps.map λ(x:Nat×Operand)=>(x.1,a.eval x.2)).length/\∀ (j:Nat) (p:Nat×List DC) (q:Nat×Value),qs[j]?=some p->(ps.map λ(x:Nat×Operand)=>(x.1,a.eval x.2))[j]?=some q ->
  p.1=q.1/\p.2.length=q.2.cells.size/\∀ (k:Nat) (d:DC) (x:Value),p.2[k]?=some d->q.2.cells[k]?=some x->RepC M d x
 | [],qs,h=>by cases h;exact⟨rfl,λj p q h=>by simp at h⟩
 | (i,x) :: ps,qs,h=>by
   simp only[L9] at h;split at h
   ·rename_i d hd;split at h
    ·rename_i l r' hl hr';cases h;obtain⟨h1,h2⟩:=N2 hr ps r' hr';refine⟨by simp[h1],λj p q hp hq=>?_⟩;cases j with
     | zero =>
       simp at hp hq;subst hp;subst hq;exact⟨rfl,(i9 hr hd).cells hl⟩
     | succ j=>exact h2 j p q (by simpa using hp) (by simpa using hq)
    ·cases h
   ·cases h
def l7 (P:Program) (t:TypeId):Option (List (Nat×Nat)):=
 match P.underlying t with
 | some (.struct fs)=>fs.toList.mapM λf=>(aW P f.type).map λs=>(f.offset,s)
 | some (.array n e)=>(aW P e).map λs=>(List.range n).map λi=>(i*s,s)
 | _=>none
theorem dR {p p':Nat->Option (Nat×Nat)} (h:∀ i x,p i=some x->p' i=some x):∀ (l:List (Nat×Value)) (c r:Array Value),Instr.fill p c l=some r->Instr.fill p' c l=some r
 | [],c,r,h1=>h1
 | (i,v) :: l,c,r,h1=>by
   unfold Instr.fill at h1 ⊢;cases hp:p i with
   | none=>rw[hp] at h1;cases h1
   | some x =>
     rw[hp] at h1;rw[h i x hp];simp only at h1 ⊢;split at h1
     ·cases h1
     ·rename_i hc;rw[if_neg hc];exact dR h l _ r h1
theorem cS {n s i:Nat} {x:Nat×Nat} (h:((List.range n).map λi=>(i*s,s))[i]?=some x):some (i*s,s)=some x:=by
 rw[List.getElem?_map,Option.map_eq_some_iff] at h;obtain⟨j,hj,rfl⟩:=h;obtain⟨_,e⟩:=List.getElem?_eq_some_iff.1 hj;simp at e;subst e;rfl
theorem dJ {w:World}:∀ (fs:List Field) (l:List (Nat×Nat)),fs.mapM (λf=>(aW P f.type).map λs=>(f.offset,s))=some l ->
 (fs.mapM (λf=>do pure (f.offset,<- sizeOf f.type)):Sem (List (Nat×Nat))).run P w=.ok l w
 | [],l,h=>by simp at h;subst h;simp
 | f :: fs,l,h=>by
   rw[List.mapM_cons] at h;simp only[Option.bind_eq_bind,Option.bind_eq_some_iff,Option.map_eq_some_iff] at h;obtain⟨x,⟨s,hs,rfl⟩,r,hr,h⟩:=h;simp at h;subst h;rw[List.mapM_cons];simp only[Sem.run_bind,o5 hs,Result.andThen_ok,Sem.run_pure,dJ fs r hr]
def an (v:Value):DC:=match v with
 | .slice none 0 0=>.im (.sl [])
 | v=>.im (.raw v)
theorem Y4 {M:MS} {v:Value} (h:v7 v=true):RepC M (an v) v:=by
 unfold an;split
 ·exact .im _ _ .slnil
 ·exact .im _ _ (.raw _ h)
theorem vC {o:Oper} {t:TypeId} {ps:Array (Nat×Operand)} {z:List Value} {pl:List (Nat×Nat)} {qs:List (Nat×List DC)} {r:List DC} (ho:o.op=.build t ps) (hz:E5 P t=some z) (hp:z.all v7=true)
 (hpl:l7 P t=some pl) (hq:L9 G S ps.toList=some qs) (hr:ab (pl[·]?) (z.map an) qs=some r):OpV P G o S (.agg r) S.objs:=by
 refine .pure λa M hrel=>?_;obtain⟨v,hrun,hv⟩:=X7 (w:=M.w) hz;obtain⟨h1,h2⟩:=N2 hrel _ _ hq;subst hv;obtain⟨ra,e1,e2,e3⟩:=W0 (M:=M) (place:=(pl[·]?)) qs _ (v.cells.toList.map an) v.cells r (by simp) (λj d x hd hx=>by
  rw[List.getElem?_map,Array.getElem?_toList,hx] at hd;simp at hd;subst hd;exact Y4 (List.all_eq_true.1 hp x (Array.mem_toList_iff.2 (Array.mem_of_getElem? hx)))) h1 h2 hr
 refine⟨.agg ra,?_,.agg _ _ e2 e3⟩;unfold l7 at hpl;split at hpl
 ·rename_i fs hu;have hpl':=dJ (P:=P) (w:=M.w) fs.toList pl hpl;simp only[execOp,ho,Instr.build,Sem.run_bind,hrun,Result.andThen_ok,e8 hu,Array.mapM_eq_mapM_toList,Sem.run_map,hpl'];have e1':Instr.fill (λx=>pl.toArray[x]?) v.cells (Array.map (λx=>(x.1,a.eval x.2)) ps).toList=some ra:=by simpa using e1
  simp only[e1'];rfl
 ·rename_i n e hu;obtain⟨sz,hs,rfl⟩:=Option.map_eq_some_iff.1 hpl;have e1':Instr.fill (λi=>some (i*sz,sz)) v.cells (Array.map (λx=>(x.1,a.eval x.2)) ps).toList=some ra:=by
   have:=dR (p':=λi=>some (i*sz,sz)) (λi x h=>cS h) _ _ _ e1;simpa using this
  simp only[execOp,ho,Instr.build,Sem.run_bind,hrun,Result.andThen_ok,e8 hu,o5 hs,e1'];rfl
 ·cases hpl
def dw (sz:Nat) (l:List DC):Nat->List (List DC)
 | 0=>[]
 | n+1=>l.take sz :: dw sz (l.drop sz) n
theorem iM {sz:Nat}:∀ (n:Nat) (l:List DC) (i:Nat) (x:List DC),l.length=n*sz->(dw sz l n)[i]?=some x->i<n/\x.length=sz/\∀ (j:Nat) (d:DC),x[j]?=some d->l[i*sz+j]?=some d
 | 0,l,i,x,_,h=>by simp[dw] at h
 | n+1,l,i,x,hl,h=>by
   have hmul:(n+1)*sz=n*sz+sz:=by rw[Nat.add_mul,Nat.one_mul]
   cases i with
   | zero =>
     simp[dw] at h;subst h;refine⟨by omega,by simp;omega,λj d hd=>?_⟩;rw[List.getElem?_take] at hd;split at hd
     ·simpa using hd
     ·cases hd
   | succ i =>
     simp only[dw,List.getElem?_cons_succ] at h;obtain⟨h1,h2,h3⟩:=iM n (l.drop sz) i x (by simp;omega) h;refine⟨by omega,h2,λj d hd=>?_⟩;have:=h3 j d hd;rw[List.getElem?_drop] at this;rw[<- this]
     congr 1
     rw[Nat.add_mul];omega
theorem gJ {sz:Nat}:∀ (n:Nat) (l:List DC),(dw sz l n).length=n
 | 0,_=>rfl
 | n+1,l=>by simp[dw,gJ n]
theorem iW {M:MS} (hm:RelM G M) {cs:Array Value} {T:TypeId} {es:List (List DC)} {sz:Nat} (h0:0<sz) (hl:cs.size=es.length*sz) (he:∀ (i:Nat) (x:List DC),es[i]?=some x->x.length=sz)
 (hr:∀ (i:Nat) (x:List DC) (j:Nat) (c:DC) (v:Value),es[i]?=some x->x[j]?=some c->cs[i*sz+j]?=some v->RepC M c v) :
 RelM G (M.push (.cells cs T) (.vec sz es 0 false))/\RepC (M.push (.cells cs T) (.vec sz es 0 false)) (.vec M.objs.length 0 0 es.length) (.slice (some ⟨M.w.heap.size,0,none⟩) es.length es.length):=by
 have hext:=Ext.push (M:=M) (.cells cs T) (.vec sz es 0 false) hm.lt;have hh:(M.push (.cells cs T) (.vec sz es 0 false)).w.heap[(M.push (.cells cs T) (.vec sz es 0 false)).β M.objs.length]?=some (.cells cs T (0,0)):=by
  simp only[MS.push,if_true];exact P1
 constructor
 ·exact hm.push rfl ⟨(λh=>by cases h),λ_=>⟨h0,cs,T,hh,by omega,he,λi x j d v h1 h2 h3=>(hr i x j d v h1 h2 h3).ext hext⟩⟩
 ·refine .vec _ _ _ _ _ rfl (by simp[MS.push]) λsz' es' g nl hob=>?_;have:(M.push (.cells cs T) (.vec sz es 0 false)).objs[M.objs.length]?=some (.vec sz es 0 false):=by simp[MS.push]
  rw[this] at hob;cases hob;refine⟨Nat.le_refl _,λ_=>⟨(λh=>by cases h),λ_=>⟨0,es.length,by simp[MS.push],Nat.le_refl _,.inr (by simp),?_⟩⟩⟩;simp only[H3,hh,hl,Nat.zero_add]
theorem lw {o:Oper} {t e:TypeId} {n sz:Nat} {ps:Array (Nat×Operand)} {z:List Value} {qs:List (Nat×List DC)} {r:List DC} (ho:o.op=.buildSlice t n ps) (ht:P.underlying t=some (.slice e)) (hs:aW P e=some sz) (hz:E5 P e=some z)
 (h0:0<sz) (hzl:z.length=sz) (hzp:z.all v7=true) (hb:n*sz<=16777216)
 (hq:L9 G S ps.toList=some qs) (hr:ab (λi=>some (i*sz,sz)) (List.replicate (n*sz) .dead) qs=some r) :
 OpV P G o S (.one (.vec S.objs.length 0 0 n)) (S.objs++[.vec sz (dw sz r n) 0 false]):=by
 intro a M hrel;obtain⟨v,hrun,hv⟩:=X7 (w:=M.w) hz;obtain⟨h1,h2⟩:=N2 hrel _ _ hq;have hvs:v.cells.size=sz:=by rw[<- Array.length_toList,hv,hzl]
 obtain⟨ra,e1,e2,e3⟩:=W0 (M:=M) (place:=λi=>some (i*sz,sz)) qs _ (List.replicate (n*sz) .dead) ((Array.range (n*sz)).map (v.cells[· % v.cells.size]!)) r (by simp) (λj d x hd hx=>by
  rw[List.getElem?_replicate] at hd;split at hd
  ·cases hd;refine .dead _ ?_;simp only[Array.getElem?_map,Array.getElem?_range] at hx;rename_i hj;rw[if_pos hj] at hx;simp only[Option.map_some,Option.some.injEq] at hx;subst hx;have hlt:j % v.cells.size<v.cells.size:=Nat.mod_lt _ (by omega);rw[getElem!_pos v.cells _ hlt];have hmem:v.cells[j % v.cells.size]∈z:=by rw[<- hv];simp
   have hpl:=List.all_eq_true.1 hzp _ hmem;generalize v.cells[j % v.cells.size]=u at hpl;cases u<;>first|rfl|simp[v7] at hpl
  ·cases hd) h1 h2 hr
 have hrs:ra.size=n*sz:=by
  rw[<- e2];have:∀ (qs:List (Nat×List DC)) (c r:List DC),ab (λi=>some (i*sz,sz)) c qs=some r->r.length=c.length:=by
   intro qs;induction qs with
   | nil=>intro c r h;cases h;rfl
   | cons q qs ih =>
     intro c r h;simp only[ab] at h;split at h
     ·rename_i hc;rw[ih _ _ h,T9 hc.2]
     ·cases h
  rw[this _ _ _ hr];simp
 have hcl:=gJ (sz:=sz) n r
 obtain⟨hm,hc⟩:=iW (T:=e) (cs:=ra) (es:=dw sz r n) (sz:=sz) hrel.m h0 (by rw[hcl,hrs]) (λi x hx=>(iM n r i x (by rw[e2,hrs]) hx).2.1)
  (λi x j c v hx hj hv=>e3 _ c v ((iM n r i x (by rw[e2,hrs]) hx).2.2 j c hj) hv)
 rw[hcl] at hc;refine⟨.slice (some ⟨M.w.heap.size,0,none⟩) n n,_,.inl ?_,hm,by simp[MS.push,hrel.ob],Ext.push _ _ hrel.m.lt,by rw[<- hrel.ob];exact .one _ _ hc⟩;have e1':Instr.fill (λi=>some (i*sz,sz)) ((Array.range (n*sz)).map (v.cells[· % v.cells.size]!)) (Array.map (λx=>(x.1,a.eval x.2)) ps).toList=some ra:=by simpa using e1
 have hnb:¬ (n*sz > 2 ^ 24):=by omega
 simp only[execOp,ho,Instr.buildSlice,Sem.run_bind,e8 ht,Result.andThen_ok,o5 hs,if_neg hnb];by_cases hn:n*sz=0
 ·simp only[hn,if_true,Sem.run_bind,Sem.run_pure,Result.andThen_ok];have:((Array.range 0).map (λ(x:Nat)=>((#[]:Array Value)[x % (#[]:Array Value).size]!)))=(Array.range (n*sz)).map (v.cells[· % v.cells.size]!):=by rw[hn];simp
  rw[this,e1'];simp[newRow,newObj,Sem.run,MS.push]
 ·simp only[hn,if_false,Sem.run_bind,hrun,Result.andThen_ok,Sem.run_pure,e1'];simp[newRow,newObj,Sem.run,MS.push]
end
section
variable {P:Program} {G:Hn} {S:DS}
def dn (objs:List DObj) (x:DC):Option (List (List DC)):=
 match x with
 | .im (.sl l)=>some (l.map (·.map .im))
 | .im (.raw (.slice none 0 0))=>some []
 | .vec o g off len=>match objs[o]? with
   | some (.vec _ es g' _)=>if g=g'/\off+len<=es.length then some ((es.drop off).take len) else none
   | _=>none
 | _=>none
theorem gF {M:MS} (hm:RelM G M) {x:DC} {v:Value} {xs:List (List DC)} {sz:Nat} (hp:RepC M x v) (h:dn M.objs x=some xs) (hsz:∀ e∈xs,e.length=sz) :
 ∃ a cap,v=.slice a xs.length cap/\(a=none->xs.length=0)/\∃ f:Nat->Value,(∀ b,a=some b->(xs≠[]->b.spot=none)/\∀ j,j<xs.length*sz->M.w.cell? ⟨b.block,b.off+j,none⟩=some (f j)) /\
  ∀ (i:Nat) (e:List DC) (j:Nat) (c:DC),xs[i]?=some e->e[j]?=some c->RepC M c (f (i*sz+j)):=by
 have ne:∀ (i:Nat) (e:List DC),xs[i]?=some e->e.length=sz:=λi e h=>hsz e (List.mem_of_getElem? h)
 have trivialCase:xs=[]->∀ a cap,v=.slice a 0 cap->∃ a cap,v=.slice a xs.length cap/\(a=none->xs.length=0)/\∃ f:Nat->Value,(∀ b,a=some b->(xs≠[]->b.spot=none)/\∀ j,j<xs.length*sz->M.w.cell? ⟨b.block,b.off+j,none⟩=some (f j)) /\
  ∀ (i:Nat) (e:List DC) (j:Nat) (c:DC),xs[i]?=some e->e[j]?=some c->RepC M c (f (i*sz+j)):=by
  rintro rfl a cap rfl;exact⟨a,cap,rfl,λ_=>rfl,λ_=>undef,λb h=>⟨λh=>absurd rfl h,λj hj=>by simp at hj⟩,λi e j c h=>by simp at h⟩
 have idx:∀ (n j:Nat),0<sz->j<n*sz->j / sz<n/\j % sz<sz/\j=j / sz*sz+j % sz:=λn j h0 hj=>by
  refine⟨Nat.div_lt_of_lt_mul (by rw[Nat.mul_comm];exact hj),Nat.mod_lt _ h0,?_⟩;have:=Nat.div_add_mod j sz;rw[Nat.mul_comm] at this;omega
 have pos:∀ j,j<xs.length*sz->0<sz:=λj hj=>Nat.pos_of_ne_zero (by rintro rfl;simp at hj);unfold dn at h;split at h
 ·rename_i l;simp only[Option.some.injEq] at h;cases hp with
  | im _ _ hp=>cases hp with
    | slnil=>exact trivialCase (by simp[<- h]) none 0 rfl
    | slz a cap=>exact trivialCase (by simp[<- h]) (some a) cap rfl
    | sl _ ad cap sz' val hsp hok hcap hl hc hrep =>
      have hlen:xs.length=l.length:=by simp[<- h]
      have m8:∀ (i:Nat) (e:List DC),xs[i]?=some e->∃ e0,l[i]?=some e0/\e=e0.map .im:=λi e he=>by
       rw[<- h,List.getElem?_map,Option.map_eq_some_iff] at he;obtain⟨e0,h1,rfl⟩:=he;exact⟨e0,h1,rfl⟩
      have hsz':xs≠[]->sz'=sz:=λhne=>by
       obtain⟨e,r,rfl⟩:=List.exists_cons_of_ne_nil hne;obtain⟨e0,h1,rfl⟩:=m8 0 e rfl;have:=ne 0 _ rfl;rw[List.length_map,hl 0 e0 h1] at this;exact this
      refine⟨some ad,cap,by rw[hlen],(λh=>by cases h),λj=>val (j / sz) (j % sz),λb hb=>?_,λi e j c he hj=>?_⟩
      ·cases hb;refine⟨λ_=>hsp,λj hj=>?_⟩;have h0:=pos j hj;obtain⟨h1,h2,h3⟩:=idx _ j h0 hj;have hq:∃ e,xs[j / sz]?=some e:=⟨xs[j / sz],by simp[h1]⟩
       obtain⟨e,he⟩:=hq;obtain⟨e0,he0,rfl⟩:=m8 _ e he;have hne:xs≠[]:=by rintro rfl;simp at he
       have hs:=hsz' hne;subst hs;have hl0:=hl _ _ he0;have hc0:e0[j % sz']?=some e0[j % sz']:=by simp[hl0,h2]
       have:=hc _ _ _ _ he0 hc0;rw[<- this]
       congr 2
       omega
      ·obtain⟨e0,he0,rfl⟩:=m8 i e he;have hne:xs≠[]:=by rintro rfl;simp at he
       have hs:=hsz' hne;subst hs;rw[List.getElem?_map,Option.map_eq_some_iff] at hj;obtain⟨c0,hc0,rfl⟩:=hj;have hl0:=hl _ _ he0;have hj2:j<sz':=by rw[<- hl0];exact e7 hc0
       have h0:0<sz':=by omega
       have e1:(i*sz'+j) / sz'=i:=by rw[Nat.mul_comm,Nat.mul_add_div h0,Nat.div_eq_of_lt hj2,Nat.add_zero]
       have e2:(i*sz'+j) % sz'=j:=by rw[Nat.mul_comm,Nat.mul_add_mod,Nat.mod_eq_of_lt hj2]
       simp only[e1,e2];exact .im _ _ (hrep _ _ _ _ he0 hc0)
 ·cases h;cases hp with
  | im _ _ hp=>cases hp;exact trivialCase rfl none 0 rfl
 ·rename_i o g off len;split at h
  ·rename_i z es g' nl ho;split at h
   ·rename_i hg;obtain⟨rfl,hle⟩:=hg;simp only[Option.some.injEq] at h;cases hp with
    | vec _ _ _ _ _ h1 h2 h3 =>
      obtain⟨_,h4⟩:=h3 _ _ _ _ ho;obtain⟨h5,h6⟩:=h4 rfl;have hlen:xs.length=len:=by simp[<- h];omega
      rcases Bool.eq_false_or_eq_true nl with hn|hn
      ·obtain⟨rfl,rfl,rfl⟩:=h5 hn;exact trivialCase (by simpa using hlen) none 0 rfl
      ·obtain⟨xo,cap,rfl,hlc,hxo,hbs⟩:=h6 hn;obtain⟨_,hf⟩:=hm.objs o _ ho;obtain⟨hz0,ca,T,hb1,hb2,hb3,hb4⟩:=hf hn;have m8:∀ (i:Nat) (e:List DC),xs[i]?=some e->es[off+i]?=some e:=λi e he=>by
        rw[<- h,List.getElem?_take] at he;split at he
        ·rwa [List.getElem?_drop] at he
        ·cases he
       have hz:xs≠[]->z=sz:=λhne=>by
        obtain⟨e,r,rfl⟩:=List.exists_cons_of_ne_nil hne;have:=ne 0 e rfl;rw[hb3 _ _ (m8 0 e rfl)] at this;exact this
       refine⟨some ⟨M.β o,xo,none⟩,cap,by rw[hlen],(λh=>by cases h),λj=>(ca[xo+j]?).getD undef,λb hb=>?_,λi e j c he hj=>?_⟩
       ·cases hb;refine⟨λ_=>rfl,λj hj=>?_⟩;have hne:xs≠[]:=by rintro rfl;simp at hj
        have hs:=hz hne;subst hs;have hcap:cap≠0:=by
         rintro rfl;have:len=0:=by omega
         rw[hlen,this] at hj;simp at hj
        have hxo':xo=off*z:=hxo.resolve_left hcap;have hin:xo+j<ca.size:=by
         have:(off+len)*z<=es.length*z:=Nat.mul_le_mul_right z hle;rw[Nat.add_mul] at this;rw[hlen] at hj;omega
        simp[World.cell?,hb1,hin]
       ·have hne:xs≠[]:=by rintro rfl;simp at he
        have hs:=hz hne;subst hs;have he':=m8 i e he;have hcap:cap≠0:=by
         rintro rfl;have hl0:len=0:=by omega
         have:=e7 he;omega
        have hxo':xo=off*z:=hxo.resolve_left hcap;have hj2:=e7 hj;rw[hb3 _ _ he'] at hj2;have hlt:=e7 he';have hmul:(off+i+1)*z<=es.length*z:=Nat.mul_le_mul_right z hlt;rw[Nat.add_mul,Nat.one_mul] at hmul;have hmul2:(off+i)*z=off*z+i*z:=Nat.add_mul _ _ _;have hin:xo+(i*z+j)<ca.size:=by omega
        refine hb4 (off+i) e j c _ he' hj ?_;rw[hmul2];have e3:off*z+i*z+j=xo+(i*z+j):=by omega
        rw[e3];simp[hin]
   ·cases h
  ·cases h
 ·cases h
def bU (objs:List DObj) (s:DC) (xs:List (List DC)) (sz:Nat):Option (DC×List DObj):=
 match s with
 | .vec o g off len=>match objs[o]? with
   | some (.vec z es g' nl)=>if g=g'/\off=0/\len<=es.length/\(z=sz\/nl=true) then
    (if nl=true/\xs.length=0 then some (.vec o g 0 len,objs) else some (.vec o (g+1) 0 (len+xs.length),objs.set o (.vec sz (es.take len++xs) (g+1) false)))
     else none
   | _=>none
 | _=>none
def aL (P:Program) (t:TypeId):Option Nat:=(P.info? t).map (·.bytes)
theorem ev {w:World} {sz m cap:Nat} {a:Option Addr} (ha:a=none->m=0) (f:Nat->Value) (h:∀ b,a=some b->(m≠0->b.spot=none)/\∀ j,j<m*sz->w.cell? ⟨b.block,b.off+j,none⟩=some (f j)) :
 (Builtin.firstCells sz m (.slice a m cap)).run P w=.ok ((List.range (m*sz)).map f).toArray w:=by
 cases a with
 | none=>simp[Builtin.firstCells,ha rfl]
 | some b =>
   by_cases hm:m=0
   ·subst hm;simp only[Builtin.firstCells,Nat.zero_mul];rfl
   ·simp only[Builtin.firstCells];exact bJ ((h b rfl).1 hm) f _ (h b rfl).2
theorem sj {o:Oper} {t e:TypeId} {sz bytes:Nat} {z:List Value} {x y:Operand} {s c d:DC} {xs:List (List DC)} {objs':List DObj}
 (ho:o.op=.call { callee:=.builtin .append,args:=#[x,y],argTypes:=#[t,t] }) (ht:P.underlying t=some (.slice e)) (hs:aW P e=some sz) (h0:0<sz) (hby:aL P e=some bytes) (hz:E5 P e=some z) (hzl:z.length=sz)
 (hx:j5 G S x=some (.one s)) (hy:j5 G S y=some (.one c)) (hel:dn S.objs c=some xs) (hsz:∀ e∈xs,e.length=sz)
 (hd:bU S.objs s xs sz=some (d,objs')) (hb:∀ o g off len,s=.vec o g off len->(len+xs.length)*bytes<=140737488355328) (hb1:∀ o g off len,s=.vec o g off len->len+xs.length<=9223372036854775807):OpV P G o S (.one d) objs':=by
 intro a M hr;have hp:=i9 hr hx;have hq:=i9 hr hy;generalize hv:a.eval x=v at hp;generalize hu:a.eval y=u at hq;rw[<- hr.ob] at hel hd;cases hp with
 | one _ _ hp=>cases hq with
   | one _ _ hq =>
   obtain⟨ax,capx,rfl,hax,f,hf,hrep⟩:=gF hr.m hq hel hsz;have hrun:∀ w',((Builtin.append_ #[t,t] o.type #[v,.slice ax xs.length capx]).run P M.w=w')->(execOp a.eval o).run P M.w=w'.andThen λv w=>.ok (.value v) w:=λw' h=>by
    simp only[execOp,ho,Sem.run_bind,resolve,invoke,builtin,List.map_toArray,List.map_cons,List.map_nil,hv,hu,Sem.run_pure,Result.andThen_ok,h]
   have hfirst:=ev (P:=P) (sz:=sz) (cap:=capx) hax f (λb hb=>⟨λhne=>(hf b hb).1 λe=>hne (by rw[e];rfl),(hf b hb).2⟩);have hns:∀ w,(do pure ((<- underlying t) matches .int _):Sem Bool).run P w=.ok false w:=λw=>by simp[e8 ht]
   unfold bU at hd;split at hd
   ·rename_i ob g off len;have hbound:=hb ob g off len rfl;have hbound1:=hb1 ob g off len rfl;split at hd
    ·rename_i zz es g' nl hob;split at hd
     ·rename_i hcond;obtain⟨rfl,rfl,hle,hzz⟩:=hcond;cases hp with
      | vec _ _ _ _ _ h1 h2 h3 =>
      obtain⟨_,h4⟩:=h3 _ _ _ _ hob;obtain⟨h5,h6⟩:=h4 rfl;have hβlt:ob<M.objs.length:=h2;simp only[aL,Option.map_eq_some_iff] at hby;obtain⟨inf,hinf,rfl⟩:=hby;have hinfs:inf.size=sz:=by simp only[aW,hinf,Option.map_some,Option.some.injEq] at hs;exact hs
      simp only[E5,hinf,Option.bind_some,Option.map_eq_some_iff] at hz;obtain⟨zv,hzv,rfl⟩:=hz;have newsOf:∀ (i:Nat) (e:List DC) (j:Nat) (c:DC) (v:Value),xs[i]?=some e->e[j]?=some c->((List.range (xs.length*sz)).map f)[i*sz+j]?=some v->RepC M c v:=λi e j c v he hj hv=>by
       have hl:=hsz e (List.mem_of_getElem? he);have hj2:=e7 hj;have hi:=e7 he;have hmul:(i+1)*sz<=xs.length*sz:=Nat.mul_le_mul_right sz hi;rw[Nat.add_mul,Nat.one_mul] at hmul;have hin:i*sz+j<xs.length*sz:=by omega
       rw[List.getElem?_map,List.getElem?_range hin,Option.map_some,Option.some.injEq] at hv;subst hv;exact hrep i e j c he hj
      split at hd
      ·rename_i hnl;cases hd;obtain⟨_,rfl,rfl⟩:=h5 hnl.1;refine⟨.slice none 0 0,M,.inl ?_,hr.m,rfl,Ext.refl M,.one _ _ (.vec _ _ _ _ _ h1 h2 h3)⟩;rw[hrun (.ok (.slice none 0 0) M.w)]
       ·rfl
       ·have hm0:xs.length=0:=hnl.2;rw[hm0] at hfirst ⊢;simp[Builtin.append_,e8 ht,o5 hs,Builtin.lenOf,hfirst]
      ·rename_i hnn;cases hd;have hes:∀ (i:Nat) (x:List DC),(es.take len++xs)[i]?=some x->(nl=false->∀ (i:Nat) (x:List DC),es[i]?=some x->x.length=sz)->(nl=true->es=[])->x.length=sz:=λi x hx h7 h8=>by
        by_cases hi:i<(es.take len).length
        ·rw[List.getElem?_append_left hi,List.getElem?_take] at hx;split at hx
         ·rcases Bool.eq_false_or_eq_true nl with hn|hn
          ·rw[h8 hn] at hx;simp at hx
          ·exact h7 hn i x hx
         ·cases hx
        ·rw[List.getElem?_append_right (by omega)] at hx;exact hsz x (List.mem_of_getElem? hx)
       have hnews:∀ b,ax=some b->∀ (j:Nat) (v:Value),((List.range (xs.length*sz)).map f)[j]?=some v->M.w.cell? (b.add j)=some v:=λb hb j v hj=>by
        obtain⟨h7,h8⟩:=hf b hb;have hlt:j<xs.length*sz:=by simpa using e7 hj
        rw[G0 (h7 (by rintro rfl;simp at hlt)),h8 j hlt];rw[List.getElem?_map,List.getElem?_range hlt] at hj;simpa using hj
       have fresh:∀ (olds:List Value) (cap':Nat) (zc:Array Value),olds.length=len*sz->len+xs.length<=cap'->zc.size=(cap'-(len+xs.length))*sz ->
        (nl=false->∀ (i:Nat) (x:List DC),es[i]?=some x->x.length=sz)->(nl=true->es=[]) ->
        (∀ (i:Nat) (x:List DC) (j:Nat) (d:DC) (v:Value),(es.take len)[i]?=some x->x[j]?=some d->olds[i*sz+j]?=some v->RepC M d v) ->
        (Builtin.append_ #[t,t] o.type #[v,.slice ax xs.length capx]).run P M.w=.ok (.slice (some ⟨M.w.heap.size,0,none⟩) (len+xs.length) cap') (M.w.drew.alloc (.cells (olds.toArray++((List.range (xs.length*sz)).map f).toArray++zc) e)) ->
        ∃ v M',((execOp a.eval o).run P M.w=.ok (.value v) M'.w\/((execOp a.eval o).run P M.w=.ok .skip M'.w/\v=undef)) /\
         RelM G M'/\M'.objs=M.objs.set ob (.vec sz (es.take len++xs) (g+1) false)/\Ext M.objs.length M M'/\RepV M' (.one (.vec ob (g+1) 0 (len+xs.length))) v:=by
        intro olds cap' zc hol hcap hzc h7 h8 hold happ;have hheap:(M.w.drew.alloc (.cells (olds.toArray++((List.range (xs.length*sz)).map f).toArray++zc) e)).heap=M.w.heap.push (.cells (olds.toArray++((List.range (xs.length*sz)).map f).toArray++zc) e):=by
         unfold World.alloc;rfl
        have hext:=Ext.move (sz':=sz) (es':=es.take len++xs) (nl':=false) hob (Nat.lt_succ_self g) hheap ⟨rfl,rfl,rfl,by first|exact Nat.le_refl _|exact Nat.le_succ _⟩ hr.m.lt;have hblk:(M.move ob (M.w.drew.alloc (.cells (olds.toArray++((List.range (xs.length*sz)).map f).toArray++zc) e)) (.vec sz (es.take len++xs) (g+1) false)).w.heap[(M.move ob (M.w.drew.alloc (.cells (olds.toArray++((List.range (xs.length*sz)).map f).toArray++zc) e)) (.vec sz (es.take len++xs) (g+1) false)).β ob]?=some (.cells (olds.toArray++((List.range (xs.length*sz)).map f).toArray++zc) e (0,0)):=by
         simp only[MS.move,if_true,hheap,Array.getElem?_push_size]
        have hsize:(olds.toArray++((List.range (xs.length*sz)).map f).toArray++zc).size=cap'*sz:=by
         simp only[Array.size_append,List.size_toArray,List.length_map,List.length_range,hol,hzc,<- Nat.add_mul]
         congr 1;omega
        have htl:(es.take len).length=len:=by simp;omega
        refine⟨_,M.move ob _ (.vec sz (es.take len++xs) (g+1) false),.inl (by rw[hrun _ happ];rfl),hr.m.move hob (Nat.lt_succ_self g) hheap ⟨rfl,rfl,rfl,by first|exact Nat.le_refl _|exact Nat.le_succ _⟩ ?_,rfl,hext,.one _ _ ?_⟩
        ·refine⟨(λh=>by cases h),λ_=>⟨h0,_,_,hblk,?_,λi x hx=>hes i x hx h7 h8,λi x j d v hx hd hv=>?_⟩⟩
         ·rw[hsize,List.length_append,htl];exact Nat.mul_le_mul_right sz hcap
         ·have hxl:=hes i x hx h7 h8;have hj:=e7 hd;by_cases hi:i<len
          ·rw[List.getElem?_append_left (by omega)] at hx;have hmul:(i+1)*sz<=len*sz:=Nat.mul_le_mul_right sz hi;rw[Nat.add_mul,Nat.one_mul] at hmul;refine(hold i x j d v hx hd ?_).ext hext;rw[Array.append_assoc,Array.getElem?_append_left (by simp;omega)] at hv;simpa using hv
          ·rw[List.getElem?_append_right (by omega),htl] at hx;have hi2:=e7 hx;have hmul:(i-len+1)*sz<=xs.length*sz:=Nat.mul_le_mul_right sz hi2;rw[Nat.add_mul,Nat.one_mul] at hmul;have hsub:i*sz=len*sz+(i-len)*sz:=by rw[<- Nat.add_mul];congr 1;omega
           refine(newsOf (i-len) x j d v hx hd ?_).ext hext;rw[Array.append_assoc,Array.getElem?_append_right (by simp;omega),Array.getElem?_append_left (by simp;omega)] at hv;rw[<- hv];simp only[List.getElem?_toArray,List.size_toArray,hol]
           congr 1;omega
        ·refine .vec _ _ _ _ _ rfl (by simpa[MS.move] using hβlt) λsz1 es1 g1 nl1 hob1=>?_;have:(M.move ob (M.w.drew.alloc (.cells (olds.toArray++((List.range (xs.length*sz)).map f).toArray++zc) e)) (.vec sz (es.take len++xs) (g+1) false)).objs[ob]?=some (.vec sz (es.take len++xs) (g+1) false):=by
          simp[MS.move,hβlt]
         rw[this] at hob1;cases hob1;refine⟨Nat.le_refl _,λ_=>⟨(λh=>by cases h),λ_=>⟨0,cap',by simp[MS.move],hcap,.inr (by simp),?_⟩⟩⟩;simp only[H3,hblk,hsize,Nat.zero_add]
       have hrelO:=hr.m.objs ob _ hob;obtain⟨hnil,hfull⟩:=hrelO;rcases Bool.eq_false_or_eq_true nl with hn|hn
       ·
        obtain⟨_,rfl,rfl⟩:=h5 hn;have hm0:0<xs.length:=by
         rcases Nat.eq_zero_or_pos xs.length with h|h
         ·exact absurd ⟨hn,h⟩ hnn
         ·exact h
        cases ax with
        | none=>have:=hax rfl;omega
        | some ad =>
          have happ:=run_append_nil (P:=P) M.w t o.type e inf zv ht hinf hzv ad xs.length capx ((List.range (xs.length*sz)).map f) (by simp[hinfs]) (hnews ad rfl) hm0 (by simp at hbound1;omega) (by simp at hbound;omega);have hge:=grownCap_ge M.w xs.length 0 e;refine fresh [] (grownCap M.w xs.length 0 e) (Builtin.zeroCells zv.cells (grownCap M.w xs.length 0 e-xs.length)) (by simp) (by simpa using hge) (by rw[size_zeroCells,Nat.zero_add,<- Array.length_toList,hzl]) (λh=>by rw[hn] at h;cases h) hnil (λi x j d v hx=>by simp at hx) ?_;simpa using happ
       ·obtain⟨xo,cap,rfl,hlc,hxo,hbs⟩:=h6 hn;obtain⟨_,ca,T,hb1,hb2,hb3,hb4⟩:=hfull hn;have hzs:zz=sz:=by rcases hzz with h|h;exact h;rw[hn] at h;cases h
        subst hzs;have hcas:ca.size=cap*zz:=by simp only[H3,hb1,Nat.zero_add] at hbs;exact hbs
        have hxo0:cap≠0->xo=0:=λh=>by rcases hxo with h'|h';exact absurd h' h;simpa using h'
        by_cases hroom:len+xs.length<=cap
        ·
         have hlist:((List.range (xs.length*zz)).map f).length=xs.length*zz:=by simp
         have hone:∀ v∈(List.range (xs.length*zz)).map f,isOne v=true:=λv hv=>by
          obtain⟨j,hj⟩:=List.mem_iff_getElem?.1 hv;have hlt:j<xs.length*zz:=by simpa using e7 hj
          have h1:j / zz<xs.length:=Nat.div_lt_of_lt_mul (by rw[Nat.mul_comm];exact hlt);have h2:j % zz<zz:=Nat.mod_lt _ h0;have he:xs[j / zz]?=some xs[j / zz]:=by simp[h1]
          have hel2:=hsz _ (List.mem_of_getElem? he);have hc:xs[j / zz][j % zz]?=some xs[j / zz][j % zz]:=by simp[hel2,h2]
          refine(newsOf _ _ _ _ v he hc ?_).isOne;rw[<- hj];congr 1
          have:=Nat.div_add_mod j zz;rw[Nat.mul_comm] at this;omega
         have hfit:len*zz+((List.range (xs.length*zz)).map f).length<=ca.size:=by
          rw[hlist,hcas,<- Nat.add_mul];exact Nat.mul_le_mul_right zz hroom
         have hext:=Ext.turn (x:=.cells (A5 ca (len*zz) ((List.range (xs.length*zz)).map f)) T (0,0)) (d':=.vec zz (es.take len++xs) (g+1) false) hob (by simp[DObj.blk,hn]) ⟨hn.symm,.inr (Nat.lt_succ_self g)⟩ hb1 (by simp[K7,s0]);have happ:(Builtin.append_ #[t,t] o.type #[.slice (some ⟨M.β ob,xo,none⟩) len cap,.slice ax xs.length capx]).run P M.w=.ok (.slice (some ⟨M.β ob,xo,none⟩) (len+xs.length) cap) (World.setBlock M.w (M.β ob) (.cells (A5 ca (len*zz) ((List.range (xs.length*zz)).map f)) T (0,0))):=by
          have hstore:(storeCells ((⟨M.β ob,xo,none⟩:Addr).add (len*zz)) ((List.range (xs.length*zz)).map f)).run P M.w=.ok () (World.setBlock M.w (M.β ob) (.cells (A5 ca (len*zz) ((List.range (xs.length*zz)).map f)) T (0,0))):=by
           by_cases hc0:cap=0
           ·have hx0:xs.length=0:=by omega
            simp only[hx0,Nat.zero_mul,List.range_zero,List.map_nil,storeCells,A5,aN hb1];rfl
           ·rw[G0 rfl];simp only[hxo0 hc0,Nat.zero_add];exact U1 _ M.w ca (len*zz) 0 hb1 (by omega) hone
          simp[Builtin.append_,e8 ht,o5 hs,Builtin.lenOf,hroom,hfirst,hstore]
         refine⟨_,M.turn ob _ (.vec zz (es.take len++xs) (g+1) false),.inl (by rw[hrun _ happ];rfl),hr.m.turn hob (by simp[DObj.blk,hn]) ⟨hn.symm,.inr (Nat.lt_succ_self g)⟩ hb1 (by simp[K7,s0]) ?_,rfl,hext,.one _ _ ?_⟩
         ·have htl:(es.take len).length=len:=by simp;omega
          refine⟨(λh=>by cases h),λ_=>⟨h0,_,T,X5 hb1,?_,λi x hx=>hes i x hx (λ_=>hb3) hnil,λi x j d v hx hd hv=>RepC.ext hext ?_⟩⟩
          ·rw[s0,hcas,List.length_append,htl];exact Nat.mul_le_mul_right zz hroom
          ·rw[V0 _ _ _ _ hfit,hlist] at hv;have hxl:=hes i x hx (λ_=>hb3) hnil;have hj:=e7 hd;by_cases hi:i<len
           ·rw[List.getElem?_append_left (by omega),List.getElem?_take,if_pos hi] at hx;have hmul:(i+1)*zz<=len*zz:=Nat.mul_le_mul_right zz hi;rw[Nat.add_mul,Nat.one_mul] at hmul;rw[if_neg (by omega)] at hv;exact hb4 i x j d v hx hd hv
           ·rw[List.getElem?_append_right (by omega),htl] at hx;have hi2:=e7 hx;have hmul:(i-len+1)*zz<=xs.length*zz:=Nat.mul_le_mul_right zz hi2;rw[Nat.add_mul,Nat.one_mul] at hmul;have hsub:i*zz=len*zz+(i-len)*zz:=by rw[<- Nat.add_mul];congr 1;omega
            rw[if_pos (by omega)] at hv;refine newsOf (i-len) x j d v hx hd ?_;rw[<- hv];congr 1;omega
         ·refine .vec _ _ _ _ _ rfl (by simpa[MS.turn] using hβlt) λsz1 es1 g1 nl1 hob1=>?_;have:(M.turn ob (.cells (A5 ca (len*zz) ((List.range (xs.length*zz)).map f)) T (0,0)) (.vec zz (es.take len++xs) (g+1) false)).objs[ob]?=some (.vec zz (es.take len++xs) (g+1) false):=by
           simp[MS.turn,hβlt]
          rw[this] at hob1;cases hob1;refine⟨Nat.le_refl _,λ_=>⟨(λh=>by cases h),λ_=>⟨xo,cap,rfl,hroom,by simpa using hxo,?_⟩⟩⟩;rw[fo hb1 (by simp[K7,s0])];exact hbs
        ·
         cases ax with
         | none=>have:=hax rfl;omega
         | some ad =>
           have holds:∀ (j:Nat) (v:Value),(ca.toList.take (len*zz))[j]?=some v->M.w.cell? ((⟨M.β ob,xo,none⟩:Addr).add j)=some v:=λj v hj=>by
            rw[List.getElem?_take] at hj;split at hj
            ·rename_i hlt
             have hc0 : cap ≠ 0 := by rintro rfl; have : len = 0 := by omega
                                      rw[this] at hlt;simp at hlt
             rw[G0 rfl];simp only[hxo0 hc0,Nat.zero_add];simp only[World.cell?,hb1];simpa using hj
            ·cases hj
           have hlz:len*zz<=ca.size:=by rw[hcas];exact Nat.mul_le_mul_right zz hlc
           have happ:=run_append_grow (P:=P) M.w t o.type e inf zv ht hinf hzv ⟨M.β ob,xo,none⟩ len cap (ca.toList.take (len*zz)) (by simp[hinfs];omega) holds ad xs.length capx ((List.range (xs.length*zz)).map f) (by simp[hinfs]) (hnews ad rfl) (by omega) (by omega) (growslice_fits (by omega) hbound);have hge:=grownCap_ge M.w (len+xs.length) cap e;refine fresh (ca.toList.take (len*zz)) (grownCap M.w (len+xs.length) cap e) (Builtin.zeroCells zv.cells (grownCap M.w (len+xs.length) cap e-(len+xs.length))) (by simp;omega) hge (by rw[size_zeroCells,<- Array.length_toList,hzl]) (λ_=>hb3) hnil (λi x j d v hx hd hv=>?_) happ;rw[List.getElem?_take] at hx;split at hx
           ·rw[List.getElem?_take] at hv;split at hv
            ·exact hb4 i x j d v hx hd (by simpa using hv)
            ·cases hv
           ·cases hx
     ·cases hd
    ·cases hd
   ·cases hd
end
end Go.Ab
