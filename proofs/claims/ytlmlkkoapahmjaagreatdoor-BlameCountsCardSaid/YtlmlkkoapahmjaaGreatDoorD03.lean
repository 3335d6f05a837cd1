/- Part 23 of the proofs. -/
import Derived.Shelf.SlSortCmp.InsertionK
import Derived.Test.YtlmlkkoapahmjaaGreatDoorS14
set_option linter.all false
set_option maxHeartbeats 100000000
namespace Go.Ab
open Go Go.Sort Go.Proofs
theorem RelM.grown {G:Hn} {M:MS} {w':World} {os:Array Obj} (h:RelM G M) (hw:w'.heap=M.w.heap++os) (hio:SameIo M.w w'):RelM G { M with w:=w' }/\Ext M.objs.length M { M with w:=w' }:=by
 have hold:∀ {b:Nat},b<M.w.heap.size->w'.heap[b]?=M.w.heap[b]?:=λ{b} hb=>by rw[hw];simp[Array.getElem?_append,hb]
 have hsz:M.w.heap.size<=w'.heap.size:=by rw[hw];simp
 have he:Ext M.objs.length M { M with w:=w' }:=
  ⟨Nat.le_refl _,λb hb=>⟨⟨Nat.lt_of_lt_of_le hb.1 hsz,hb.2⟩,hold hb.1⟩,cv M,hsz,λp _ c' hc=>⟨⟨c',hc⟩,rfl⟩,
   λp _ sz es g nl hv=>⟨sz,es,g,nl,hv,Nat.le_refl _,λ_=>⟨rfl,rfl,λhn=>⟨rfl,by simp only[H3];rw[hold (h.lt p _ hv (by simp[DObj.blk,hn]))]⟩⟩⟩,λp _ ks es hm=>⟨⟨ks,es,hm⟩,rfl⟩,
   λp _ r hm=>⟨⟨r,hm⟩,rfl⟩,λp _ d hm hi=>⟨⟨d,hm,hi⟩,rfl⟩,λp _ r hm=>⟨⟨r,hm⟩,rfl⟩,hio⟩
 exact⟨⟨λo d ho=>(h.objs o d ho).ext he (λ_=>rfl) (λhb=>hold (h.lt o d ho hb)),λo d ho hb=>Nat.lt_of_lt_of_le (h.lt o d ho hb) hsz,h.inj,λg l hg=>(h.glob g l hg).mono he.ok,λb hF=>Nat.lt_of_lt_of_le (h.fl b hF) hsz,h.own⟩,he⟩
theorem DCall.lays {P:Program} {g:FuncId} {args:List DV} {n:Int} (hc:DCall P (λ_=>none) g args [] (λd o=>d=.one (.im (.raw (.int .i64 n)))/\o=[])) {vs:Array Value} (hs:vs.size=args.length)
 (hr:∀ (M:MS) (j:Nat) (d:DV) (v:Value),args[j]?=some d->vs[j]?=some v->RepV M d v) (W:World):Calls P g vs W λe w'=>e=.returned (.int .i64 n)/\∃ q os',w'=grow (W.drewN q) os':=by
 have hM:RelM (λ_=>none) (⟨W,λ_=>0,[],λ_=>False⟩:MS):=
  ⟨λo d h=>by simp at h,λo d h=>by simp at h,λo o' d d' h=>by simp at h,λg l h=>(by cases h),λb h=>h.elim,λo d h=>by simp at h⟩
 refine(hc ⟨W,λ_=>0,[],λ_=>False⟩ vs hM rfl hs (hr _)).mono λe w' ⟨v,d,M',h1,h2,_,h3,h4,h5,_⟩=>?_;subst h5;refine⟨?_,?_⟩
 ·rw[h1];cases h3 with
  | one _ _ h3=>cases h3 with
    | im _ _ h3=>cases h3;rfl
 ·subst h2;have hf:∀ b,b<W.heap.size->M'.w.heap[b]?=W.heap[b]?:=λb hb=>(h4.free b ⟨hb,λ⟨o,d,ho,_⟩=>by simp at ho⟩).2;have hio:=h4.io;have hsz:W.heap.size<=M'.w.heap.size:=h4.hs;refine⟨M'.w.drawn-W.drawn,M'.w.heap.extract W.heap.size M'.w.heap.size,?_⟩;have hheap:M'.w.heap=W.heap++M'.w.heap.extract W.heap.size M'.w.heap.size:=by
   apply Array.ext_getElem?
   intro i;rw[Array.getElem?_append];split
   ·rename_i hi;exact hf i hi
   ·rename_i hi;rw[Array.getElem?_extract];split
    ·congr 1;omega
    ·exact Array.getElem?_eq_none (by omega)
  have hd:W.drawn+(M'.w.drawn-W.drawn)=M'.w.drawn:=by have h7:W.drawn<=M'.w.drawn:=hio.dr;omega
  obtain⟨i1,i2,i3,_⟩:=hio;simp only at i1 i2 i3;show M'.w=_;simp only[grow,World.drewN];rw[hd,<- hheap,<- i1,<- i2,<- i3]
def wk:IC->DC
 | .raw r=>.im (.raw r)
 | _=>.dead
structure IsEl (e:List IC) (vs:List Value):Prop where
 len:vs.length=e.length
 one:∀ v∈vs,v.oneCell'=true
 raw:∀ (j:Nat) (r v:Value),e[j]?=some (.raw r)->vs[j]?=some v->v=r/\v7 r=true
theorem xx {v:Value} (h:v.oneCell'=true):isOne v=true:=by cases v<;>first|rfl|(simp[Value.oneCell'] at h)
theorem qI {v:Value} (h:isOne v=true):v.oneCell'=true:=by cases v<;>first|rfl|(simp[isOne] at h)
theorem IsEl.rep {e:List IC} {vs:List Value} (h:IsEl e vs) (M:MS):RepV M (.agg (e.map wk)) (.agg vs.toArray):=by
 refine .agg _ _ (by simp[h.len]) λj c v h1 h2=>?_;rw[List.getElem?_map,Option.map_eq_some_iff] at h1;obtain⟨c0,h3,rfl⟩:=h1;rw[List.getElem?_toArray] at h2;have hv:=h.one v (List.mem_of_getElem? h2);cases c0 with
 | raw r =>
   obtain⟨rfl,hp⟩:=h.raw j r v h3 h2;exact .im _ _ (.raw _ hp)
 | _=>exact .dead _ (xx hv)
theorem DCall.sortF {P:Program} {G:Hn} {f g:FuncId} {T:Type} (enc:T->List IC) (k:Nat) (hk0:0<k) (henc:∀ x,(enc x).length=k) (cf:T->T->Int)
 (hO:SWO (λx y:T=>decide (cf x y<0)))
 (hc:∀ x y,DCall P (λ_=>none) g [.agg ((enc x).map wk),.agg ((enc y).map wk)] [] (λd o=>d=.one (.im (.raw (.int .i64 (cf x y))))/\o=[]))
 (hS:∀ (α:Type) [Inhabited α] (en:α->List Value) (_:∀ x,(en x).length=k) (_:∀ x,∀ v∈en x,v.oneCell'=true) (c:α->α->Int) (_:SWO (ltOf c)) (blk cap:Nat) (d:Array α) (w:World) (_:CmpLays P g #[] en k c blk 0 d.size w) (_:HoldsK en k w blk 0 d) (_:blk<w.heap.size) (_:d.size<4611686018427387904),
  Calls P f #[.slice (some ⟨blk,0,none⟩) d.size cap,.func (.func g) #[] #[]] w λe w'=>e=.returned (.tuple #[])/\∃ d' n os,PermIn 0 d.size d d'/\SortedIn (ltOf c) 0 d.size d'/\w'=sortWorldK en k w blk 0 n d' os)
 (h0:∀ (a:Option Addr) (cap:Nat) (w:World),Calls P f #[.slice a 0 cap,.func (.func g) #[] #[]] w λe w'=>e=.returned (.tuple #[])/\w'=w)
 (fc:DC) (hfc:∀ M v,RepC M fc v->v=.func (.func g) #[] #[])
 (l:List T) (gn sz:Nat) (nl:Bool) (hz:sz=k\/nl=true/\l=[]) (hl:l.length<1000000) :
 DCall P G f [.one (.vec 0 gn 0 l.length),.one fc] [.vec sz (l8 (l.map enc)) gn nl] (λd o=>d=.tup []/\∃ l':List T,l'.Perm l/\(l'.Pairwise λa b=>¬ cf b a<0)/\o=[.vec sz (l8 (l'.map enc)) gn nl]):=by
 intro M vs hM ho hsz hr;obtain⟨v,u,rfl⟩:∃ v u,vs=#[v,u]:=by
  obtain⟨vl⟩:=vs;match vl,hsz with
  | [v,u],_=>exact⟨v,u,rfl⟩
 have hv:=hr 0 _ v rfl rfl;have hu:=hr 1 _ u rfl rfl;have hu:u=.func (.func g) #[] #[]:=by cases hu with|one _ _ hu=>exact hfc _ _ hu
 subst hu;have h1:M.objs[0]?=some (.vec sz (l8 (l.map enc)) gn nl):=by rw[ho];rfl
 have hO1:=hM.objs 0 _ h1;cases hv with
 | one _ _ hv =>
 cases hv with
 | vec _ _ _ _ _ _ _ hv =>
 obtain⟨_,hv⟩:=hv _ _ _ _ h1;obtain⟨hvt,hvf⟩:=hv rfl;have hnil:∀ (a:Option Addr) (cap:Nat),l=[]->Calls P f #[.slice a 0 cap,.func (.func g) #[] #[]] M.w λe w'=>∃ v d M',e=.returned v/\M'.w=w'/\RelM G M'/\RepV M' d v/\Ext 1 M M'/\d=.tup []/\∃ l':List T,l'.Perm l/\(l'.Pairwise λa b=>¬ cf b a<0)/\M'.objs=[.vec sz (l8 (l'.map enc)) gn nl]:=λa cap hle=>by
  refine(h0 a cap M.w).mono λe w' ⟨he,hw⟩=>?_;subst hw;exact⟨_,.tup [],M,he,rfl,hM,.tup _ _ rfl (λj d v h=>by simp at h),(Ext.refl M).weaken (by simp[ho]),rfl,l,List.Perm.refl _,by subst hle;exact List.Pairwise.nil,by rw[ho]⟩
 cases nl with
 | true =>
   obtain⟨_,e,hv⟩:=hvt rfl;have e:l=[]:=List.eq_nil_of_length_eq_zero e;have:=hnil none 0 e;rw[hv];simpa using this
 | false =>
   obtain rfl:sz=k:=hz.resolve_right λh=>Bool.noConfusion h.1;obtain⟨x,cap,hv,hcap,hx,hb⟩:=hvf rfl;by_cases e:l=[]
   ·have:=hnil (some ⟨M.β 0,x,none⟩) cap e;rw[hv];subst e;simpa using this
   have hlp:0<l.length:=List.length_pos_iff.2 e;have hx0:x=0:=by rcases hx with hx|hx<;>omega
   subst hx0;obtain⟨_,hO1⟩:=hO1;obtain⟨_,c,Tt,hh,hcs,hes,hrep⟩:=hO1 rfl;have hcl:l.length*sz<=c.size:=by simpa[o3] using hcs
   have hidx:∀ {i j:Nat},i<l.length->j<sz->i*sz+j<l.length*sz:=λ{i j} hi hj=>by
    have:=Nat.mul_le_mul_right sz (show i+1<=l.length from hi);rw[Nat.add_mul,Nat.one_mul] at this;omega
   let vls:Nat->List Value:=λi=>(List.range sz).map λj=>c[i*sz+j]!;have hvl:∀ {i j:Nat},i<l.length->j<sz->(vls i)[j]?=c[i*sz+j]?:=λ{i j} hi hj=>by
    have hlt:=hidx hi hj;simp only[vls,List.getElem?_map,List.getElem?_range hj,Option.map_some];rw[getElem!_pos c _ (by omega),Array.getElem?_eq_getElem (by omega)]
   have hcell:∀ {i j:Nat} (hi:i<l.length) (cc:IC) (v:Value),(enc l[i])[j]?=some cc->c[i*sz+j]?=some v->RepI M.w M.ok cc v:=λ{i j} hi cc v hcc hcv=>by
    have:=hrep i ((enc l[i]).map .im) j (.im cc) v (by simp[l8,hi]) (by simp[hcc]) hcv;cases this with
    | im _ _ h=>exact h
   have hel:∀ {i:Nat} (hi:i<l.length),IsEl (enc l[i]) (vls i):=λ{i} hi=>by
    refine⟨by simp[vls,henc],λv hv=>?_,λj r v hr hv=>?_⟩
    ·obtain⟨j,hj⟩:=List.mem_iff_getElem?.1 hv;have hjs:j<sz:=by have:=e7 hj;simpa[vls] using this
     rw[hvl hi hjs] at hj;have hcc:(enc l[i])[j]?=some ((enc l[i])[j]'(by rw[henc];exact hjs)):=by simp[henc,hjs]
     exact qI (hcell hi _ _ hcc hj).isOne
    ·have hjs:j<sz:=by have:=e7 hv;simpa[vls] using this
     rw[hvl hi hjs] at hv;cases hcell hi _ _ hr hv with
     | raw _ hp=>exact⟨rfl,hp⟩
   let α:={ p:T×List Value // IsEl (enc p.1) p.2 }
   let el:(i:Nat)->i<l.length->α:=λi hi=>⟨(l[i],vls i),hel hi⟩
   haveI:Inhabited α:=⟨el 0 hlp⟩
   let d:Array α:=Array.ofFn λi:Fin l.length=>el i.1 i.2;have hds:d.size=l.length:=by simp[d]
   have hdg:∀ {i:Nat} (hi:i<l.length),d[i]! = el i hi:=λ{i} hi=>by
    rw[getElem!_pos d i (by omega)];simp[d]
   let en:α->List Value:=λx=>x.1.2;have hen:∀ x:α,(en x).length=sz:=λx=>by rw[x.2.len,henc]
   let cf':α->α->Int:=λx y=>cf x.1.1 y.1.1;have hO':SWO (ltOf cf'):=⟨λx=>hO.irrefl x.1.1,λx y z=>hO.trans x.1.1 y.1.1 z.1.1,λx y z=>hO.ntrans x.1.1 y.1.1 z.1.1⟩
   have hlays:CmpLays P g #[] en sz cf' (M.β 0) 0 d.size M.w:=λm os dk hdk x y=>by
    have hcall:=DCall.lays (hc x.1.1 y.1.1) (vs:=#[.agg (en x).toArray,.agg (en y).toArray] ++ #[]) (by simp) (λM j dd v h2 h3=>by
     match j with
     | 0=>simp at h2 h3;subst h2;subst h3;exact x.2.rep M
     | 1=>simp at h2 h3;subst h2;subst h3;exact y.2.rep M
     | j+2=>simp at h2) (sortWorldK en sz M.w (M.β 0) 0 m dk os)
    exact hcall
   have hlt:M.β 0<M.w.heap.size:=hM.lt 0 _ h1 rfl;have hdm:∀ {t:Nat},t<l.length*sz->t / sz<l.length:=λ{t} ht=>Nat.div_lt_of_lt_mul (by rw[Nat.mul_comm];exact ht);have hflat:∀ (dd:Array α) (t:Nat),t<dd.size*sz->(flatK en sz dd)[t]! = (en dd[t / sz]!)[t % sz]!:=λdd t h=>get_flatK en sz dd t h;have hH:HoldsK en sz M.w (M.β 0) 0 d:=λt ht=>by
    have ht:t<d.size*sz:=by simpa using ht
    rw[hflat d t ht];rw[hds] at ht;have hq:=hdm ht;have hm:t % sz<sz:=Nat.mod_lt _ hk0;have htt:t / sz*sz+t % sz=t:=by rw[Nat.mul_comm];exact Nat.div_add_mod t sz
    have hg:=hvl hq hm;rw[htt] at hg;have hct:c[t]?=some c[t]:=by simp
    refine⟨?_,?_⟩
    ·simp only[World.cell?,hh];rw[hdg hq];show c[0+t]?=some ((vls (t / sz))[t % sz]!);rw[Nat.zero_add,hct];rw[hct] at hg;rw[List.getElem!_eq_getElem?_getD,hg];rfl
    ·simp[World.frozen?,hh]
   rw[hv];have hcall:=hS α en hen (λx=>x.2.one) cf' hO' (M.β 0) cap d M.w hlays hH hlt (by omega);rw[hds] at hcall;refine hcall.mono λe' w' ⟨he,d',n,os,hperm,hsort,hw⟩=>?_;obtain⟨hps,_,hpp⟩:=hperm;rw[hds] at hps;have hpp:d'.toList.Perm d.toList:=by
    rw[show d'.extract 0 l.length=d' by rw[<- hps];exact Array.extract_size,show d.extract 0 l.length=d by rw[<- hds];exact Array.extract_size] at hpp;exact hpp
   let l':List T:=d'.toList.map (·.1.1);have hl'l:l'.length=l.length:=by simp[l',hps]
   have hdl:d.toList.map (·.1.1)=l:=by
    refine List.ext_getElem (by simp[hds]) λi h2 h3=>?_;simp[d,el]
   have hperm':l'.Perm l:=by
    have:=hpp.map (λx:α=>x.1.1);rw[hdl] at this;exact this
   have hd'g:∀ {i:Nat} (hi:i<l.length),d'[i]! = d'[i]'(by omega):=λ{i} hi=>getElem!_pos d' i (by omega);have hpair:l'.Pairwise λa b=>¬ cf b a<0:=by
    rw[List.pairwise_iff_getElem];intro i j hi hj hij;have:=hsort i j (Nat.zero_le _) hij (by omega);rw[hd'g (by omega),hd'g (by omega)] at this;simp only[ltOf,decide_eq_false_iff_not] at this;simpa[l'] using this
   have hgood:∀ x∈d'.toList,∀ (j:Nat) (cc:IC) (v:Value),(enc x.1.1)[j]?=some cc->x.1.2[j]?=some v->RepI M.w M.ok cc v:=λx hx j cc v h2 h3=>by
    have hx:=hpp.subset hx;obtain⟨i,hi⟩:=List.mem_iff_getElem?.1 hx;have hil:i<l.length:=by have:=e7 hi;simpa[hds] using this
    have:x=el i hil:=by
     have:=(List.getElem?_eq_some_iff.1 hi).2;rw[<- this];simp[d]
    subst this;have hjs:j<sz:=by have:=e7 h2;rwa [henc] at this
    exact hcell hil cc v h2 (by rw[<- hvl hil hjs];exact h3)
   have hmod:M.w.heap.modify (M.β 0) (onCells (putCells id 0 (flatK en sz d')))=M.w.heap.setIfInBounds (M.β 0) (.cells (putCells id 0 (flatK en sz d') c) Tt (0,0)):=by
    apply Array.ext_getElem?
    intro q;simp only[Array.getElem?_modify,Array.getElem?_setIfInBounds];by_cases hq:M.β 0=q
    ·subst hq;rw[if_pos rfl,if_pos rfl,if_pos hlt,hh];rfl
    ·simp[hq]
   have ha:(DObj.vec sz (l8 (l.map enc)) gn false).alike (.vec sz (l8 (l'.map enc)) gn false):=⟨rfl,.inl ⟨rfl,rfl⟩⟩
   have hs:K7 (.cells (putCells id 0 (flatK en sz d') c) Tt (0,0))=K7 (.cells c Tt (0,0)):=by simp[K7,putCells]
   have hE:=Ext.turn (d':=.vec sz (l8 (l'.map enc)) gn false) h1 rfl ha hh hs;have hput:∀ {i j:Nat} (hi:i<l.length) (_:j<sz),(putCells id 0 (flatK en sz d') c)[i*sz+j]?=some ((en d'[i]!)[j]!):=λ{i j} hi hj=>by
    have hlt2:=hidx hi hj;have hdv:(i*sz+j) / sz=i:=by
     rw[Nat.mul_comm,Nat.mul_add_div hk0,Nat.div_eq_of_lt hj,Nat.add_zero]
    have hmd:(i*sz+j) % sz=j:=by rw[Nat.mul_comm,Nat.mul_add_mod,Nat.mod_eq_of_lt hj]
    simp only[putCells,Array.getElem?_mapIdx,Array.getElem?_eq_getElem (show i*sz+j<c.size by omega),Option.map_some];rw[if_pos ⟨Nat.zero_le _,by simp[hps];omega⟩,Nat.sub_zero,hflat d' _ (by rw[hps];omega),hdv,hmd];rfl
   have hR:=RelM.turn (d':=.vec sz (l8 (l'.map enc)) gn false) hM h1 rfl ha hh hs (by
    refine⟨λh=>Bool.noConfusion h,λ_=>⟨hk0,putCells id 0 (flatK en sz d') c,Tt,by simp[MS.turn,Array.getElem?_setIfInBounds_self_of_lt hlt],by simpa[o3,hl'l,putCells] using hcl,λi x hx=>?_,λi x j dd v hx hj hv=>?_⟩⟩
    ·simp only[l8,List.getElem?_map,Option.map_map] at hx;obtain⟨y,_,rfl⟩:=Option.map_eq_some_iff.1 hx;simp[henc]
    ·simp only[l8,List.getElem?_map,Option.map_map] at hx;obtain⟨y,hy,rfl⟩:=Option.map_eq_some_iff.1 hx;have hil:i<l.length:=by have:=e7 hy;omega
     simp only[Function.comp,List.getElem?_map,Option.map_eq_some_iff] at hj;obtain⟨cc,hcc,rfl⟩:=hj;have hjs:j<sz:=by have:=e7 hcc;rwa [henc] at this
     rw[hput hil hjs,hd'g hil] at hv;have hmem:d'[i]'(by omega)∈d'.toList:=by simp
     have hye:y=(d'[i]'(by omega)).1.1:=by
      have:=(List.getElem?_eq_some_iff.1 hy).2;rw[<- this];simp[l']
     subst hye;cases hv;refine .im _ _ ((hgood _ hmem j cc _ hcc ?_).mono hE.ok);have hlen:j<(en (d'[i]'(by omega))).length:=by rw[hen];exact hjs
     show (en (d'[i]'(by omega)))[j]?=_;rw[List.getElem!_eq_getElem?_getD,List.getElem?_eq_getElem hlen];rfl)
   have hg:=RelM.grown (w':=w') (os:=os) hR (by rw[hw];simp only[sortWorldK,putRowK,grow,putRow,mapBlock,Sort.ahead,MS.turn];rw[hmod]) (by rw[hw];exact⟨rfl,rfl,rfl,Nat.le_add_right _ _⟩);refine⟨_,.tup [],_,he,?_,hg.1,.tup _ _ rfl (λj d v h=>by simp at h),?_,rfl,l',hperm',hpair,?_⟩
   ·rfl
   ·have hl1:M.objs.length=1:=by rw[ho];rfl
    have h2:=hg.2;rw[show (M.turn 0 (.cells (putCells id 0 (flatK en sz d') c) Tt (0,0)) (.vec sz (l8 (l'.map enc)) gn false)).objs.length=1 by simp[MS.turn,ho]] at h2;rw[hl1] at hE;exact hE.trans h2
   ·simp[MS.turn,ho]
end Go.Ab
