/- Part 2 of the proofs: laws and walks that hold without conditions beyond those that each theorem names. -/
import Derived.Test.YtmkbmkonpglgdaaGreatDoorP01
set_option linter.all false
set_option linter.deprecated false
namespace Go.Ab
open Go
def tsz (P:Program) (t:TypeId):Option Nat:=(P.info? t).map (·.size)
def tag (P:Program) (t:TypeId):Option Bool:=
 match P.underlying t with
 | some (.struct _)=>some true
 | some (.array _ _)=>some true
 | some _=>some false
 | none=>none
section
variable {P:Program} {w:World}
theorem runSizeOf {t n:Nat} (h:tsz P t=some n):(sizeOf t).run P w=.ok n w:=by
 simp only [tsz,Option.map_eq_some_iff] at h
 obtain ⟨i,hi,rfl⟩:=h
 simp [sizeOf,typeInfo,hi]
theorem runUnderlying {t:Nat} {d:TypeDesc} (h:P.underlying t=some d):(underlying t).run P w=.ok d w:=by
 simp [underlying,h]
theorem runIsAgg {t:Nat} {b:Bool} (h:tag P t=some b):(isAgg t).run P w=.ok b w:=by
 simp only [tag] at h
 split at h
 ·rename_i hu;cases h;simp [isAgg,runUnderlying hu]
 ·rename_i hu;cases h;simp [isAgg,runUnderlying hu]
 ·rename_i d hs ha hu
  cases h
  simp only [isAgg,Sem.run_bind,runUnderlying hu,Result.andThen_ok]
  cases d<;>first|rfl|simp_all
 ·cases h
theorem addr_add {a:Addr} (hs:a.spot=none) (i:Nat):a.add i=⟨a.block,a.off + i,none⟩:=by
 obtain ⟨b,o,s⟩:=a
 simp only at hs
 subst hs
 unfold Addr.add
 split
 ·rename_i h;subst h;rfl
 ·rfl
theorem runLoad {a:Addr} {v:Value} (h:w.cell? a=some v):(load a).run P w=.ok v w:=by
 simp [load,Sem.run,h]
theorem runLoadCellsFrom {a:Addr} (hs:a.spot=none) (f:Nat→Value):∀ (n i:Nat) (acc:Array Value),(∀ j,i≤j→j < i + n→w.cell? ⟨a.block,a.off + j,none⟩=some (f j)) →
 (loadCellsFrom a i n acc).run P w=.ok (acc ++ ((List.range' i n).map f).toArray) w
 | 0,i,acc,_=>by simp [loadCellsFrom]
 | n + 1,i,acc,h=>by
   have h0:=h i (Nat.le_refl _) (by omega)
   simp only [loadCellsFrom,Sem.run_bind,addr_add hs,runLoad h0,Result.andThen_ok]
   rw [runLoadCellsFrom hs f n (i + 1) (acc.push (f i)) (fun j h1 h2=>h j (by omega) (by omega))]
   simp [List.range'_succ]
theorem runLoadCells {a:Addr} (hs:a.spot=none) (f:Nat→Value) (n:Nat) (h:∀ j,j < n→w.cell? ⟨a.block,a.off + j,none⟩=some (f j)) :
 (loadCells a n).run P w=.ok ((List.range n).map f).toArray w:=by
 unfold loadCells
 rw [runLoadCellsFrom hs f n 0 #[] (fun j _ h2=>h j (by omega))]
 simp [List.range_eq_range']
def spliceA (c:Array Value) (off:Nat):List Value→Array Value
 | []=>c
 | v :: vs=>spliceA (c.setIfInBounds off v) (off + 1) vs
theorem spliceA_size (vs:List Value):∀ (c:Array Value) (off:Nat),(spliceA c off vs).size=c.size:=by
 induction vs with
 | nil=>intro c off;rfl
 | cons v vs ih=>intro c off;simp [spliceA,ih]
theorem spliceA_get (vs:List Value):∀ (c:Array Value) (off i:Nat),off + vs.length≤c.size →
 (spliceA c off vs)[i]?=if off≤i∧i < off + vs.length then vs[i - off]? else c[i]?:=by
 induction vs with
 | nil=>intro c off i _;simp [spliceA];omega
 | cons v vs ih =>
   intro c off i h
   simp only [List.length_cons] at h
   rw [spliceA,ih _ _ _ (by simp;omega)]
   by_cases h1:off + 1≤i∧i < off + 1 + vs.length
   ·rw [if_pos h1,if_pos (by simp;omega)]
    have:i - off=(i - (off + 1)) + 1:=by omega
    rw [this,List.getElem?_cons_succ]
   ·rw [if_neg h1]
    by_cases h2:i=off
    ·subst h2
     rw [if_pos (by simp)]
     simp [Array.getElem?_setIfInBounds_self_of_lt (show i < c.size by omega)]
    ·rw [if_neg (by simp;omega),Array.getElem?_setIfInBounds_ne (by omega)]
def World.setBlock (w:World) (b:Nat) (x:Obj):World:={ w with heap:=w.heap.setIfInBounds b x }
theorem setBlock_setBlock {b:Nat} {x y:Obj}:World.setBlock (World.setBlock w b x) b y=World.setBlock w b y:=by
 simp [World.setBlock]
theorem setBlock_same {b:Nat} {x:Obj} (h:w.heap[b]?=some x):World.setBlock w b x=w:=by
 obtain ⟨hlt,rfl⟩:=Array.getElem?_eq_some_iff.1 h
 simp [World.setBlock,Array.setIfInBounds,hlt]
theorem setBlock_get {b:Nat} {x y:Obj} (h:w.heap[b]?=some x):(World.setBlock w b y).heap[b]?=some y:=by
 obtain ⟨hlt,_⟩:=Array.getElem?_eq_some_iff.1 h
 simp [World.setBlock,Array.getElem?_setIfInBounds_self_of_lt hlt]
theorem runStore {b i:Nat} {c:Array Value} {T:TypeId} {v:Value} (hb:w.heap[b]?=some (.cells c T (0,0))) (hi:i < c.size) (hv:isOne v=true) :
 (store ⟨b,i,none⟩ v).run P w=.ok () (World.setBlock w b (.cells (c.setIfInBounds i v) T (0,0))):=by
 have h1:w.cell? ⟨b,i,none⟩=some c[i]:=by simp [World.cell?,hb,hi]
 have h2:w.frozen? ⟨b,i,none⟩=false:=by simp [World.frozen?,hb]
 have h3:w.setCell ⟨b,i,none⟩ v=World.setBlock w b (.cells (c.setIfInBounds i v) T (0,0)):=by
  have hlt:b < w.heap.size:=(Array.getElem?_eq_some_iff.1 hb).1
  simp only [World.setCell,World.setBlock]
  congr 1
  apply Array.ext_getElem?
  intro j
  rw [Array.getElem?_modify]
  by_cases hj:b=j
  ·subst hj
   rw [if_pos rfl,hb,Array.getElem?_setIfInBounds_self_of_lt hlt]
   rfl
  ·rw [if_neg hj,Array.getElem?_setIfInBounds_ne hj]
 cases v<;>simp_all [store,Sem.run,isOne]
theorem runStoreCells {b:Nat} {T:TypeId} (vs:List Value):∀ (w:World) (c:Array Value) (off i:Nat),w.heap[b]?=some (.cells c T (0,0))→off + i + vs.length≤c.size→(∀ v∈vs,isOne v=true) →
 (storeCells ⟨b,off,none⟩ vs i).run P w=.ok () (World.setBlock w b (.cells (spliceA c (off + i) vs) T (0,0))):=by
 induction vs with
 | nil=>intro w c off i hb _ _;simp [storeCells,spliceA,setBlock_same hb]
 | cons v vs ih =>
   intro w c off i hb hl ho
   simp only [List.length_cons] at hl
   simp only [storeCells,Sem.run_bind]
   rw [addr_add rfl]
   simp only
   rw [runStore hb (by omega) (ho v (by simp)),Result.andThen_ok,
    ih _ (c.setIfInBounds (off + i) v) off (i + 1) (setBlock_get hb) (by simp;omega) (fun x hx=>ho x (by simp [hx])),setBlock_setBlock]
   rfl
end
def mkDV (ag:Bool) (l:List DC):Option DV:=
 if ag then some (.agg l) else match l with
  | [c]=>some (.one c)
  | _=>none
def DV.cells:DV→Option (List DC)
 | .one c=>some [c]
 | .agg l=>some l
 | .tup _=>none
def dload (objs:List DObj) (p:DC) (sz:Nat):Option (List DC):=
 match p with
 | .im (.ip l)=>if sz≤l.length then some ((l.take sz).map .im) else none
 | .ptr o off=>match objs[o]? with
   | some (.row c)=>if off + sz≤c.length then some ((c.drop off).take sz) else none
   | _=>none
 | .ept o g i off=>match objs[o]? with
   | some (.vec _ es g' _)=>if g=g' then match es[i]? with
    | some x=>if off + sz≤x.length then some ((x.drop off).take sz) else none
    | none=>none
     else none
   | _=>none
 | _=>none
theorem dload_sound {G:Nat→Option (List IC)} {M:MS} (hm:RelM G M) {p:DC} {sz:Nat} {l:List DC} {v:Value} (hp:RepC M p v) (h:dload M.objs p sz=some l) :
 ∃ a,v=.pointer (some a)∧a.spot=none∧l.length=sz∧∃ f:Nat→Value,(∀ j,j < sz→M.w.cell? ⟨a.block,a.off + j,none⟩=some (f j))∧∀ j c,l[j]?=some c→RepC M c (f j):=by
 unfold dload at h
 split at h
 ·rename_i l0
  split at h
  ·rename_i hle
   cases h
   cases hp with
   | im _ _ hp=>cases hp with
     | ip _ a val hs hok hc hr =>
       refine ⟨a,rfl,hs,by simp;omega,val,fun j hj=>?_,fun j c hj=>?_⟩
       ·have:j < l0.length:=by omega
        exact hc j l0[j] (by simp [this])
       ·rw [List.getElem?_map] at hj
        rw [Option.map_eq_some_iff] at hj
        obtain ⟨c0,h0,rfl⟩:=hj
        rw [List.getElem?_take] at h0
        split at h0
        ·exact .im _ _ (hr j c0 h0)
        ·cases h0
  ·cases h
 ·rename_i o off
  split at h
  ·rename_i c ho
   split at h
   ·rename_i hle
    cases h
    cases hp with
    | ptr _ _ _ _ _ hv =>
      obtain ⟨ca,T,h1,h2,h3⟩:=hm.objs o _ ho
      have hcell:∀ j,j < ca.size→M.w.cell? ⟨M.β o,j,none⟩=ca[j]?:=fun j hj=>by simp [World.cell?,h1]
      refine ⟨⟨M.β o,off,none⟩,hv c ho,rfl,by simp;omega,fun j=>(ca[off + j]?).getD undef,fun j hj=>?_,fun j d hd=>?_⟩
      ·have:off + j < ca.size:=by omega
       simp only
       rw [hcell _ this];simp [this]
      ·rw [List.getElem?_take] at hd
       split at hd
       ·rw [List.getElem?_drop] at hd
        have h5:off + j < c.length:=lt_of_getElem? hd
        have:off + j < ca.size:=by omega
        exact h3 (off + j) d _ hd (by simp [this])
       ·cases hd
   ·cases h
  ·cases h
 ·rename_i o g i off
  split at h
  ·rename_i z es g' nl ho
   split at h
   ·rename_i hg
    subst hg
    split at h
    ·rename_i x hx
     split at h
     ·rename_i hle
      cases h
      cases hp with
      | ept _ _ _ _ _ _ _ hv =>
        obtain ⟨_,hv⟩:=hv z es g nl ho
        obtain ⟨rfl,rfl⟩:=hv rfl
        obtain ⟨_,hf⟩:=hm.objs o _ ho
        obtain ⟨h0,ca,T,h1,h2,h3,h4⟩:=hf rfl
        have hxl:=h3 i x hx
        have hcell:∀ j,M.w.cell? ⟨M.β o,j,none⟩=ca[j]?:=fun j=>by simp [World.cell?,h1]
        have hi:=lt_of_getElem? hx
        have hmul:(i + 1) * z≤es.length * z:=Nat.mul_le_mul_right z hi
        have hmul':(i + 1) * z=i * z + z:=by rw [Nat.add_mul,Nat.one_mul]
        refine ⟨⟨M.β o,i * z + off,none⟩,rfl,rfl,by simp;omega,fun j=>(ca[i * z + off + j]?).getD undef,fun j hj=>?_,fun j d hd=>?_⟩
        ·have:i * z + off + j < ca.size:=by omega
         simp only
         rw [hcell];simp [this]
        ·rw [List.getElem?_take] at hd
         split at hd
         ·rw [List.getElem?_drop] at hd
          have h5:off + j < x.length:=lt_of_getElem? hd
          have:i * z + off + j < ca.size:=by omega
          exact h4 i x (off + j) d _ hx hd (by simp only [← Nat.add_assoc];simp [this])
         ·cases hd
     ·cases h
    ·cases h
   ·cases h
  ·cases h
 ·cases h
def splice (c:List DC) (off:Nat) (vs:List DC):List DC:=c.take off ++ vs ++ c.drop (off + vs.length)
theorem splice_length {c:List DC} {off:Nat} {vs:List DC} (h:off + vs.length≤c.length):(splice c off vs).length=c.length:=by
 simp [splice];omega
theorem splice_get {c:List DC} {off:Nat} {vs:List DC} (h:off + vs.length≤c.length) (i:Nat) :
 (splice c off vs)[i]?=if off≤i∧i < off + vs.length then vs[i - off]? else c[i]?:=by
 unfold splice
 by_cases h1:i < off
 ·rw [if_neg (by omega),List.append_assoc,List.getElem?_append_left (by simp;omega),List.getElem?_take,if_pos h1]
 ·by_cases h2:i < off + vs.length
  ·rw [if_pos ⟨by omega,h2⟩,List.append_assoc,List.getElem?_append_right (by simp;omega)]
   have:i - (c.take off).length=i - off:=by simp;omega
   rw [this,List.getElem?_append_left (by omega)]
  ·rw [if_neg (by omega),List.getElem?_append_right (by simp;omega),List.getElem?_drop]
   congr 1
   simp;omega
def dstore (objs:List DObj) (p:DC) (vs:List DC):Option (List DObj):=
 match p with
 | .ptr o off=>match objs[o]? with
   | some (.row c)=>if off + vs.length≤c.length then some (objs.set o (.row (splice c off vs))) else none
   | _=>none
 | .ept o g i off=>match objs[o]? with
   | some (.vec z es g' nl)=>if g=g' then match es[i]? with
    | some x=>if off + vs.length≤x.length then some (objs.set o (.vec z (es.set i (splice x off vs)) g' nl)) else none
    | none=>none
     else none
   | _=>none
 | _=>none
theorem dstore_sound {P:Program} {G:Nat→Option (List IC)} {M:MS} (hm:RelM G M) {p:DC} {ds:List DC} {vs:List Value} {objs':List DObj} {v:Value} (hp:RepC M p v)
 (hl:ds.length=vs.length) (hr:∀ (j:Nat) (d:DC) (x:Value),ds[j]?=some d→vs[j]?=some x→RepC M d x) (h:dstore M.objs p ds=some objs') :
 ∃ a M',v=.pointer (some a)∧(storeCells a vs).run P M.w=.ok () M'.w∧RelM G M'∧M'.objs=objs'∧Ext M.objs.length M M':=by
 have hone:∀ x∈vs,isOne x=true:=fun x hx=>by
  obtain ⟨j,hj⟩:=List.mem_iff_getElem?.1 hx
  have hlt:=lt_of_getElem? hj
  exact (hr j ds[j] x (by simp [hl,hlt]) hj).isOne
 unfold dstore at h
 split at h
 ·rename_i o off
  split at h
  ·rename_i c ho
   split at h
   ·rename_i hle
    cases h
    cases hp with
    | ptr _ _ _ _ _ hv =>
      have hrow:=hm.objs o _ ho
      obtain ⟨ca,T,h1,h2,h3⟩:=hrow
      have he:Ext M.objs.length M (M.turn o (.cells (spliceA ca off vs) T (0,0)) (.row (splice c off ds))):=Ext.turn ho rfl trivial h1 (by simp [osize,spliceA_size])
      refine ⟨⟨M.β o,off,none⟩,M.turn o (.cells (spliceA ca off vs) T (0,0)) (.row (splice c off ds)),hv c ho,?_,hm.turn ho rfl trivial h1 (by simp [osize,spliceA_size]) ?_,rfl,he⟩
      ·rw [runStoreCells vs M.w ca off 0 h1 (by omega) hone];rfl
      ·refine ⟨spliceA ca off vs,T,setBlock_get h1,by rw [spliceA_size,splice_length hle,h2],fun j d x hd hx=>?_⟩
       rw [splice_get hle] at hd
       rw [spliceA_get _ _ _ _ (by omega)] at hx
       refine RepC.ext he ?_
       by_cases hj:off≤j∧j < off + ds.length
       ·rw [if_pos hj] at hd;rw [if_pos (by omega)] at hx
        exact hr _ d x hd hx
       ·rw [if_neg hj] at hd;rw [if_neg (by omega)] at hx
        exact h3 j d x hd hx
   ·cases h
  ·cases h
 ·rename_i o g i off
  split at h
  ·rename_i z es g' nl ho
   split at h
   ·rename_i hg
    subst hg
    split at h
    ·rename_i x hx
     split at h
     ·rename_i hle
      cases h
      cases hp with
      | ept _ _ _ _ _ _ _ hv =>
        obtain ⟨_,hv⟩:=hv z es g nl ho
        obtain ⟨rfl,rfl⟩:=hv rfl
        obtain ⟨hnil,hf⟩:=hm.objs o _ ho
        obtain ⟨h0,ca,T,h1,h2,h3,h4⟩:=hf rfl
        have hxl:=h3 i x hx
        have hi:=lt_of_getElem? hx
        have hmul:(i + 1) * z≤es.length * z:=Nat.mul_le_mul_right z hi
        have hmul':(i + 1) * z=i * z + z:=by rw [Nat.add_mul,Nat.one_mul]
        have he:Ext M.objs.length M (M.turn o (.cells (spliceA ca (i * z + off) vs) T (0,0)) (.vec z (es.set i (splice x off ds)) g false)):=
         Ext.turn ho rfl ⟨rfl,.inl ⟨rfl,rfl⟩⟩ h1 (by simp [osize,spliceA_size])
        refine ⟨⟨M.β o,i * z + off,none⟩,M.turn o (.cells (spliceA ca (i * z + off) vs) T (0,0)) (.vec z (es.set i (splice x off ds)) g false),rfl,?_,
         hm.turn ho rfl ⟨rfl,.inl ⟨rfl,rfl⟩⟩ h1 (by simp [osize,spliceA_size]) ?_,rfl,he⟩
        ·rw [runStoreCells vs M.w ca (i * z + off) 0 h1 (by omega) hone];rfl
        ·refine ⟨(fun e=>by cases e),fun _=>⟨h0,spliceA ca (i * z + off) vs,T,setBlock_get h1,by rw [spliceA_size];simpa using h2,fun k y hy=>?_,fun k y j d u hy hd hu=>?_⟩⟩
         ·rcases set_get hy with ⟨rfl,rfl,_⟩|⟨_,hy⟩
          ·rw [splice_length hle];exact hxl
          ·exact h3 k y hy
         ·refine RepC.ext he ?_
          rw [spliceA_get _ _ _ _ (by omega)] at hu
          rcases set_get hy with ⟨rfl,rfl,_⟩|⟨hne,hy⟩
          ·rw [splice_get hle] at hd
           by_cases hj:off≤j∧j < off + ds.length
           ·rw [if_pos hj] at hd;rw [if_pos (by omega)] at hu
            refine hr _ d u hd ?_
            rw [← hu];congr 1;omega
           ·rw [if_neg hj] at hd;rw [if_neg (by omega)] at hu
            exact h4 k x j d u hx hd hu
          ·have hj:=lt_of_getElem? hd
           have hyl:=h3 k y hy
           rw [if_neg] at hu
           ·exact h4 k y j d u hy hd hu
           ·intro ⟨b1,b2⟩
            rcases Nat.lt_or_gt_of_ne hne with hlt|hgt
            ·have:(k + 1) * z≤i * z:=Nat.mul_le_mul_right z hlt
             rw [Nat.add_mul,Nat.one_mul] at this;omega
            ·have:(i + 1) * z≤k * z:=Nat.mul_le_mul_right z hgt
             omega
     ·cases h
    ·cases h
   ·cases h
  ·cases h
 ·cases h
end Go.Ab
namespace Go.Ab
open Go
def DS.put (S:DS) (t:Option Tmp) (d:DV):DS:=
 match t with
 | some t=>if t < S.nt then { S with tmps:=(t,d) :: S.tmps } else S
 | none=>S
def OpV (P:Program) (G:Nat→Option (List IC)) (o:Oper) (S:DS) (d:DV) (objs':List DObj):Prop:=
 ∀ a M,Rel G S a M→∃ v M',((execOp a.eval o).run P M.w=.ok (.value v) M'.w∨((execOp a.eval o).run P M.w=.ok .skip M'.w∧v=undef)) ∧
  RelM G M'∧M'.objs=objs'∧Ext M.objs.length M M'∧RepV M' d v
def OpT (P:Program) (G:Nat→Option (List IC)) (o:Oper) (S:DS) (K:DS→Prop):Prop:=
 ∀ ro a M,Rel G S a M→o.wpIn (fenceR ro) 0 P a M.w (fun a' w'=>∃ S' M',M'.w=w'∧Rel G S' a' M'∧Ext M.objs.length M M'∧a'.defers=a.defers∧K S') (fun _ _ _=>False)
theorem defer_run {P:Program} {ρ:Operand→Value} {o:Oper} {c:Call} {w w':World} {x:Next} (ho:o.op=.defer c) (h:(execOp ρ o).run P w=.ok x w'):∃ d,x=.defer d:=by
 simp only [execOp,ho,Sem.run_bind] at h
 generalize (resolve ρ c o.type).run P w=r at h
 cases r with
 | ok d w2=>simp only [Result.andThen,Sem.run_pure,Result.ok.injEq] at h;exact ⟨d,h.1.symm⟩
 | halt x w2=>simp [Result.andThen] at h
theorem semAt_run {P:Program} {ρ:Operand→Value} {o:Oper} {w w':World} {x:Next} (ro:Option Nat) (h:(execOp ρ o).run P w=.ok x w') (hx:∀ d,x≠.defer d):(o.semAt ro ρ).run P w=.ok x w':=by
 rw [Oper.semAt_eq ro ρ o]
 ·exact h
 ·intro c hc
  obtain ⟨d,hd⟩:=defer_run hc h
  exact hx d hd
theorem LetsOut_false:¬ LetsOut (fun _ _ _=>False):=fun ⟨_,_,h⟩=>h
theorem wpIn_turn {F:Fence} {n:Nat} {P:Program} {o:Oper} {a:Act} {w:World} {K K':Act→World→Prop} {Q:Exit→Act→World→Prop} (h:o.wpIn F n P a w K (fun _ _ _=>False)) (hk:∀ a w,K a w→K' a w):o.wpIn F n P a w K' Q:=by
 unfold Oper.wpIn at *
 refine ⟨h.1,?_⟩
 have hh:=h.2
 generalize (o.semAt F.round a.eval).run P w=r at *
 cases r with
 | ok x w' =>
   cases x with
   | enter f args =>
     simp only [Oper.uponIn] at hh ⊢
     exact ⟨hh.1,hh.2.mono fun e w'' hR=>by
      cases e with
      | returned v=>exact hk _ _ hR
      | panicked c=>exact hR.elim
      | outgrown=>exact (LetsOut_false hR).elim⟩
   | round l f tmps asg body =>
     simp only [Oper.uponIn] at hh ⊢
     exact ⟨hh.1,hh.2.mono fun e w'' hR=>by
      cases e with
      | returned v=>exact hk _ _ hR
      | panicked c=>exact hR.elim
      | outgrown=>exact (LetsOut_false hR).elim⟩
   | row r args =>
     simp only [Oper.uponIn] at hh ⊢
     exact ⟨hh.1,hh.2.mono fun v w'' hR=>hk _ _ hR⟩
   | value v=>exact hk _ _ hh
   | skip=>exact hk _ _ hh
   | defer d=>exact hk _ _ hh
   | _=>exact absurd hh (by simp [Oper.uponIn])
 | halt x w'=>exact absurd hh (by cases x<;>simp [Oper.uponIn])
theorem wpIn_value {ro:Option Nat} {n:Nat} {P:Program} {o:Oper} {a:Act} {w w':World} {K:Act→World→Prop} {Q:Exit→Act→World→Prop} {v:Value} (h:(execOp a.eval o).run P w=.ok (.value v) w') (hk:K (a.put o.dst v) w') :
 o.wpIn (fenceR ro) n P a w K Q:=⟨fun _ _=>trivial,by
 rw [semAt_run _ h (by simp)]
 exact hk⟩
theorem wpIn_skip_ {ro:Option Nat} {n:Nat} {P:Program} {o:Oper} {a:Act} {w w':World} {K:Act→World→Prop} {Q:Exit→Act→World→Prop} (h:(execOp a.eval o).run P w=.ok .skip w') (hk:K (a.put o.dst undef) w') :
 o.wpIn (fenceR ro) n P a w K Q:=⟨fun _ _=>trivial,by
 rw [semAt_run _ h (by simp)]
 exact hk⟩
theorem wpIn_enter {ro:Option Nat} {P:Program} {o:Oper} {a:Act} {w w':World} {K:Act→World→Prop} {Q:Exit→Act→World→Prop} {f:FuncId} {args:Array Value} (h:(execOp a.eval o).run P w=.ok (.enter f args) w')
 (hk:Calls P f args w' fun e w2=>∃ v,e=.returned v∧K (a.put o.dst v) w2) :
 o.wpIn (fenceR ro) 0 P a w K Q:=⟨fun _ _=>trivial,by
 rw [semAt_run _ h (by simp)]
 refine ⟨fun h=>absurd h (by simp [fenceR,Fence.wide]),?_⟩
 refine CallsIn.mono (callsIn_wide.2 hk) ?_
 rintro e w2 ⟨v,rfl,hv⟩
 exact hv⟩
section
variable {P:Program} {G:Nat→Option (List IC)} {n:Cx} {S:DS} {Q:Exit→DS→Prop}
theorem put_defers (a:Act) (t:Option Tmp) (v:Value):(a.put t v).defers=a.defers:=by cases t<;>rfl
theorem Rel.put {a:Act} {M M':MS} (hr:Rel G S a M) (hm:RelM G M') (he:Ext M.objs.length M M') {d:DV} {v:Value} (hv:RepV M' d v) (t:Option Tmp) :
 Rel G ({ S with objs:=M'.objs }.put t d) (a.put t v) M':=by
 have base:Rel G { S with objs:=M'.objs } a M':=⟨hm,rfl,hr.nt,df_ext hr.m he hr.df,fun t d ht=>by
  obtain ⟨v,h1,h2⟩:=hr.tm t d ht
  exact ⟨v,h1,h2.ext he⟩⟩
 cases t with
 | none=>exact base
 | some t =>
   simp only [DS.put,Act.put]
   split
   ·rename_i hlt
    refine ⟨hm,rfl,by simpa using hr.nt,df_ext hr.m he hr.df,fun u e hu=>?_⟩
    simp only [tget] at hu
    split at hu
    ·rename_i hut
     subst hut
     cases hu
     exact ⟨v,by simp [Array.getElem?_setIfInBounds_self_of_lt (show t < a.tmps.size by rw [hr.nt];exact hlt)],hv⟩
    ·rename_i hut
     obtain ⟨x,h1,h2⟩:=base.tm u e hu
     exact ⟨x,by rw [Array.getElem?_setIfInBounds_ne hut];exact h1,h2⟩
   ·rename_i hlt
    rw [Array.setIfInBounds_eq_of_size_le (by rw [hr.nt];exact Nat.le_of_not_lt hlt)]
    exact base
theorem OpT.of_val {o:Oper} {d:DV} {objs':List DObj} {K:DS→Prop} (h:OpV P G o S d objs') (hK:K ({ S with objs:=objs' }.put o.dst d)):OpT P G o S K:=by
 intro ro a M hr
 obtain ⟨v,M',hrun,hm,ho,he,hv⟩:=h a M hr
 subst ho
 have hp:=hr.put hm he hv o.dst
 rcases hrun with hrun|⟨hrun,rfl⟩
 ·exact wpIn_value hrun ⟨_,M',rfl,hp,he,put_defers _ _ _,hK⟩
 ·exact wpIn_skip_ hrun ⟨_,M',rfl,hp,he,put_defers _ _ _,hK⟩
def wantedA (dsts:List (Option Tmp)) (S:DS) (o:Oper):Option Bool:=
 match o.guard with
 | none=>some true
 | some (j,want)=>match dsts[j]? with
   | some (some t)=>match tget S.tmps t with
     | some (.one (.im (.raw (.bool b))))=>some (b == want)
     | some (.tup _)=>some false
     | _=>none
   | _=>none
theorem wantedA_sound {ops:Array Oper} {a:Act} {M:MS} (hr:Rel G S a M) {o:Oper} {b:Bool} (h:wantedA (ops.toList.map (·.dst)) S o=some b) :
 Region.wanted o (yielded ops a.tmps)=b:=by
 unfold wantedA at h
 unfold Region.wanted
 split at h
 ·rename_i hg;cases h;simp [hg]
 ·rename_i j want hg
  simp only [hg]
  split at h
  ·rename_i t hd
   have hd':(ops[j]?).bind (·.dst)=some t:=by
    rw [List.getElem?_map,Array.getElem?_toList] at hd
    cases ho:ops[j]? with
    | none=>simp [ho] at hd
    | some x=>simp [ho] at hd;simp [hd]
   split at h
   ·rename_i b' hget
    cases h
    obtain ⟨v,h1,h2⟩:=hr.tm t _ hget
    cases h2 with
    | one _ _ h2=>cases h2 with
      | im _ _ h2 => cases h2
                     simp only [yielded,hd',Option.bind_some,h1]
                     cases b'<;>cases want<;>rfl
   ·rename_i l hget
    cases h
    obtain ⟨v,h1,h2⟩:=hr.tm t _ hget
    cases h2
    simp only [yielded,hd',Option.bind_some,h1]
    rfl
   ·cases h
  ·cases h
def RT (P:Program) (G:Nat→Option (List IC)) (dsts:List (Option Tmp)):List Oper→DS→(DS→Prop)→Prop
 | [],S,K=>K S
 | o :: l,S,K=>∃ b,wantedA dsts S o=some b∧(b=true→OpT P G o S (fun S'=>RT P G dsts l S' K))∧(b=false→RT P G dsts l (S.put o.dst (.tup [])) K)
theorem wp_of_RT {ops:Array Oper} {ro:Option Nat} {Q':Exit→Act→World→Prop} (n:Nat) (K:DS→Prop):∀ (l:List Oper) (S:DS) (a:Act) (M:MS),Rel G S a M→n≤M.objs.length →
 RT P G (ops.toList.map (·.dst)) l S K→(∀ S' a' M',Rel G S' a' M'→Ext n M M'→a'.defers=a.defers→K S'→Q' .normal a' M'.w)→wpListIn (fenceR ro) 0 P ops Q' l a M.w
 | [],S,a,M,hr,hn,h,hq=>hq S a M hr ((Ext.refl M).weaken hn) rfl h
 | o :: l,S,a,M,hr,hn,h,hq=>by
   obtain ⟨b,hw,ht,hf⟩:=h
   have hw':=wantedA_sound hr hw
   unfold wpListIn
   rw [hw']
   cases b with
   | true =>
     rw [if_pos rfl]
     refine wpIn_turn (ht rfl ro a M hr) ?_
     rintro a' w' ⟨S',M',rfl,hr',he,hd,hrt⟩
     exact wp_of_RT n K l S' a' M' hr' (Nat.le_trans hn he.len) hrt fun S2 a2 M2 hr2 he2 hd2 hk2=>hq S2 a2 M2 hr2 ((he.weaken hn).trans he2) (hd2.trans hd) hk2
   | false =>
     simp only [Bool.false_eq_true,if_false]
     have hp:=hr.put (d:=.tup []) (v:=undef) hr.m (Ext.refl M) (.tup _ _ rfl (fun j d v h=>by simp at h)) o.dst
     rw [show ({ S with objs:=M.objs }:DS)=S from by rw [hr.ob]] at hp
     exact ⟨fun _ _=>trivial,wp_of_RT n K l _ _ M hp hn (hf rfl) fun S2 a2 M2 hr2 he2 hd2 hk2=>hq S2 a2 M2 hr2 he2 (hd2.trans (put_defers _ _ _)) hk2⟩
theorem DT_region {id:Nat} {l:List Oper} (h:RT P G (l.map (·.dst)) l S (fun S'=>Q .normal S')):DT P G n (.region id l.toArray false) S Q:=by
 intro hn hd a M hr
 refine wpIn_region_lit (wp_of_RT n.n _ l S a M hr (by rw [hr.ob];exact hn) (by simpa using h) fun S' a' M' hr' he hde hk=>⟨S',M',rfl,hr',he,.same hde,hk⟩)
end
end Go.Ab
namespace Go.Ab
open Go
section
variable {P:Program} {G:Nat→Option (List IC)} {S:DS}
theorem OpV.pure {o:Oper} {d:DV} (h:∀ a M,Rel G S a M→∃ v,(execOp a.eval o).run P M.w=.ok (.value v) M.w∧RepV M d v):OpV P G o S d S.objs:=by
 intro a M hr
 obtain ⟨v,h1,h2⟩:=h a M hr
 exact ⟨v,M,.inl h1,hr.m,hr.ob,Ext.refl M,h2⟩
def dint (op:BinOp) (k:IntKind) (a b:Int):Option Value:=
 match op with
 | .add=>some (.int k (k.wrap (a + b)))
 | .sub=>some (.int k (k.wrap (a - b)))
 | .mul=>some (.int k (k.wrap (a * b)))
 | .quo=>if b=0 then none else some (.int k (k.wrap (a.tdiv b)))
 | .rem=>if b=0 then none else some (.int k (a.tmod b))
 | .and=>some (.int k (k.wrap (BitVec.ofInt k.bits a &&& BitVec.ofInt k.bits b).toNat))
 | .or=>some (.int k (k.wrap (BitVec.ofInt k.bits a ||| BitVec.ofInt k.bits b).toNat))
 | .xor=>some (.int k (k.wrap (BitVec.ofInt k.bits a ^^^ BitVec.ofInt k.bits b).toNat))
 | .eql=>some (.bool (a == b))
 | .neq=>some (.bool (a != b))
 | .lss=>some (.bool (decide (a < b)))
 | .leq=>some (.bool (decide (a≤b)))
 | .gtr=>some (.bool (decide (a > b)))
 | .geq=>some (.bool (decide (a≥b)))
 | _=>none
def dshift (op:BinOp) (k:IntKind) (a b:Int):Option Value:=
 if b < 0 then none else match op with
 | .shl=>some (.int k (k.wrap (a * 2 ^ (min b.toNat k.bits))))
 | .shr=>some (.int k (a.fdiv (2 ^ (min b.toNat k.bits))))
 | _=>none
def dbin (op:BinOp) (x y:Value):Option Value:=
 match x,y with
 | .int k a,.int k' b=>match op with
   | .shl|.shr=>dshift op k a b
   | _=>if k=k' then dint op k a b else none
 | _,_=>none
theorem dbin_sound {op:BinOp} {t:TypeId} {x y v:Value} {w:World} (h:dbin op x y=some v):(binOp op t x y).run P w=.ok v w∧Plain v=true:=by
 unfold dbin at h
 split at h
 ·rename_i k a k' b
  split at h
  ·unfold dshift at h
   split at h
   ·cases h
   ·rename_i hb
    simp only [Option.some.injEq] at h
    subst h
    simp [binOp,Op.shift,hb,Plain]
  ·unfold dshift at h
   split at h
   ·cases h
   ·rename_i hb
    simp only [Option.some.injEq] at h
    subst h
    simp [binOp,Op.shift,hb,Plain]
  ·rename_i h1 h2
   split at h
   ·rename_i hk
    subst hk
    unfold dint at h
    cases op<;>simp only [Option.some.injEq,reduceCtorEq] at h<;>first
     | (subst h;simp [binOp,Op.intArith,Op.intCmp,Op.intBits,Plain])
     | (split at h<;>first|(cases h;done)|(rename_i hb;simp only [Option.some.injEq] at h;subst h;simp [binOp,Op.intDiv,hb,Plain]))
     | exact (h1 rfl).elim
     | exact (h2 rfl).elim
   ·cases h
 ·cases h
def dunop (op:UnOp) (x:Value):Option Value:=
 match op,x with
 | .not,.bool b=>some (.bool (!b))
 | .neg,.int k n=>some (.int k (k.wrap (0 - n)))
 | _,_=>none
theorem dunop_sound {op:UnOp} {x v:Value} {w:World} (h:dunop op x=some v):(Op.unary op x).run P w=.ok v w∧Plain v=true:=by
 unfold dunop at h
 split at h
 ·cases h;simp [Op.unary,Plain]
 ·cases h;simp [Op.unary,Op.intArith,Plain]
 ·cases h
theorem RepV.raw {M:MS} {x v:Value} (h:RepV M (.one (.im (.raw x))) v):v=x:=by
 cases h with
 | one _ _ h=>cases h with
   | im _ _ h=>cases h;rfl
theorem RepV.mkraw {M:MS} {x:Value} (h:Plain x=true):RepV M (.one (.im (.raw x))) x:=.one _ _ (.im _ _ (.raw _ h))
def rawOf:Option DV→Option Value
 | some (.one (.im (.raw v)))=>some v
 | _=>none
theorem rawOf_sound {a:Act} {M:MS} (hr:Rel G S a M) {x:Operand} {v:Value} (h:rawOf (evalG G S x)=some v):a.eval x=v:=by
 unfold rawOf at h
 split at h
 ·rename_i w he
  cases h
  exact (evalG_sound hr he).raw
 ·cases h
theorem not_agg_guard {op:BinOp} {t:TypeId} {x y:Operand} {a b:Value} {w:World} (h:(∃ k n,a=.int k n)∨(∃ c,a=.bool c)∨(∃ p n c,a=.slice p n c)∨(∃ r,a=.map r)):(eqGuard op t x y a b).run P w=.ok () w:=by
 unfold eqGuard
 rcases h with ⟨k,n,rfl⟩|⟨c,rfl⟩|⟨p,n,c,rfl⟩|⟨r,rfl⟩<;>(split<;>simp)
theorem OpV_bin {o:Oper} {op:BinOp} {t u:TypeId} {x y:Operand} {vx vy v:Value} (ho:o.op=.binOp op t x y u) (hx:rawOf (evalG G S x)=some vx) (hy:rawOf (evalG G S y)=some vy)
 (h:dbin op vx vy=some v):OpV P G o S (.one (.im (.raw v))) S.objs:=by
 refine .pure fun a M hr=>?_
 have e1:=rawOf_sound hr hx
 have e2:=rawOf_sound hr hy
 have hi:∃ k n,vx=.int k n:=by
  unfold dbin at h
  split at h
  ·exact ⟨_,_,rfl⟩
  ·cases h
 obtain ⟨h1,h2⟩:=dbin_sound (P:=P) (t:=t) (w:=M.w) h
 refine ⟨v,?_,.mkraw h2⟩
 simp only [execOp,ho,e1,e2,Sem.run_bind,not_agg_guard (.inl hi),Result.andThen_ok,h1]
 rfl
theorem run_equal_bool {t:TypeId} {b c:Bool} {w:World} (ht:P.underlying t=some .bool):(Op.equal t (.bool b) (.bool c)).run P w=.ok (b == c) w:=by
 have key:∀ n,(Op.equalIn (n + 1) t (.bool b) (.bool c)).run P w=.ok (b == c) w:=fun n=>by
  simp only [Op.equalIn,Sem.run_bind,runUnderlying ht,Result.andThen_ok]
  rfl
 exact key 9999
theorem OpV_eqBool {o:Oper} {op:BinOp} {t u:TypeId} {x y:Operand} {b c:Bool} (ho:o.op=.binOp op t x y u) (ht:P.underlying t=some .bool) (hop:op=.eql∨op=.neq)
 (hx:rawOf (evalG G S x)=some (.bool b)) (hy:rawOf (evalG G S y)=some (.bool c)):OpV P G o S (.one (.im (.raw (.bool (if op=.eql then b == c else b != c))))) S.objs:=by
 refine .pure fun a M hr=>?_
 have e1:=rawOf_sound hr hx
 have e2:=rawOf_sound hr hy
 refine ⟨_,?_,.mkraw rfl⟩
 simp only [execOp,ho,e1,e2,Sem.run_bind,not_agg_guard (.inr (.inl ⟨_,rfl⟩)),Result.andThen_ok]
 rcases hop with rfl|rfl
 ·have h1:binOp .eql t (.bool b) (.bool c)=(do pure (.bool (← Op.equal t (.bool b) (.bool c)))):=rfl
  simp only [h1,Sem.run_bind,run_equal_bool ht,Result.andThen_ok]
  rfl
 ·have h1:binOp .neq t (.bool b) (.bool c)=(do pure (.bool (!(← Op.equal t (.bool b) (.bool c))))):=rfl
  simp only [h1,Sem.run_bind,run_equal_bool ht,Result.andThen_ok]
  rfl
theorem OpV_un {o:Oper} {op:UnOp} {t:TypeId} {x:Operand} {vx v:Value} (ho:o.op=.unOp op t x) (hx:rawOf (evalG G S x)=some vx)
 (h:dunop op vx=some v):OpV P G o S (.one (.im (.raw v))) S.objs:=by
 refine .pure fun a M hr=>?_
 have e1:=rawOf_sound hr hx
 obtain ⟨h1,h2⟩:=dunop_sound (P:=P) (w:=M.w) h
 refine ⟨v,?_,.mkraw h2⟩
 simp only [execOp,ho,e1,Sem.run_bind,h1,Result.andThen_ok]
 rfl
theorem OpV_conv {o:Oper} {s t:TypeId} {x:Operand} {k k':IntKind} {n:Int} (ho:o.op=.convert s t x) (hs:∃ d,P.underlying s=some d) (ht:P.underlying t=some (.int k'))
 (hx:rawOf (evalG G S x)=some (.int k n)):OpV P G o S (.one (.im (.raw (.int k' (k'.wrap n))))) S.objs:=by
 refine .pure fun a M hr=>?_
 have e1:=rawOf_sound hr hx
 obtain ⟨d,hs⟩:=hs
 refine ⟨.int k' (k'.wrap n),?_,.mkraw rfl⟩
 simp [execOp,ho,e1,convert,runUnderlying hs,runUnderlying ht,Conv.intToInt]
theorem OpV_move {o:Oper} {x:Operand} {d:DV} (ho:o.op=.move x∨o.op=.assign x) (hx:evalG G S x=some d):OpV P G o S d S.objs:=by
 refine .pure fun a M hr=>⟨a.eval x,?_,evalG_sound hr hx⟩
 rcases ho with ho|ho<;>simp [execOp,ho]
theorem OpV_pick {o:Oper} {c x y:Operand} {b:Bool} {d:DV} (ho:o.op=.pick c x y) (hc:rawOf (evalG G S c)=some (.bool b)) (hx:(if b then evalG G S x else evalG G S y)=some d) :
 OpV P G o S d S.objs:=by
 refine .pure fun a M hr=>?_
 have e1:=rawOf_sound hr hc
 cases b with
 | true=>exact ⟨a.eval x,by simp [execOp,ho,e1,asBool],evalG_sound hr (by simpa using hx)⟩
 | false=>exact ⟨a.eval y,by simp [execOp,ho,e1,asBool],evalG_sound hr (by simpa using hx)⟩
theorem OpV_load {o:Oper} {t:TypeId} {x:Operand} {p:DC} {sz:Nat} {ag:Bool} {l:List DC} {d:DV} (ho:o.op=.load t x) (hs:tsz P t=some sz) (hg:tag P t=some ag)
 (hx:evalG G S x=some (.one p)) (hl:dload S.objs p sz=some l) (hd:mkDV ag l=some d):OpV P G o S d S.objs:=by
 refine .pure fun a M hr=>?_
 have hp:=evalG_sound hr hx
 generalize hv:a.eval x=v at hp
 cases hp with
 | one _ _ hp =>
   obtain ⟨ad,rfl,hsp,hlen,f,hc,hrep⟩:=dload_sound hr.m hp (by rw [hr.ob];exact hl)
   cases ag with
   | true =>
     simp only [mkDV,if_true,Option.some.injEq] at hd
     subst hd
     refine ⟨.agg ((List.range sz).map f).toArray,?_,.agg _ _ (by simp [hlen]) fun j c v h1 h2=>?_⟩
     ·simp [execOp,ho,hv,Instr.loadAt,Instr.sureAddr,loadVar,runIsAgg hg,runSizeOf hs,runLoadCells hsp f sz hc]
     ·simp only [List.getElem?_toArray,List.getElem?_map] at h2
      have hj:j < sz:=by rw [← hlen];exact lt_of_getElem? h1
      rw [List.getElem?_range hj] at h2
      simp only [Option.map_some,Option.some.injEq] at h2
      subst h2
      exact hrep j c h1
   | false =>
     simp only [mkDV,Bool.false_eq_true,if_false] at hd
     split at hd
     ·rename_i c
      cases hd
      have h0:=hc 0 (by simp at hlen;omega)
      refine ⟨f 0,?_,.one _ _ (hrep 0 c rfl)⟩
      have hcell:M.w.cell? ad=some (f 0):=by
       obtain ⟨b,off,s⟩:=ad
       simp only at hsp
       subst hsp
       exact h0
      simp [execOp,ho,hv,Instr.loadAt,Instr.sureAddr,loadVar,runIsAgg hg,hcell]
     ·cases hd
theorem OpV_store {o:Oper} {t:TypeId} {x y:Operand} {p:DC} {sz:Nat} {d:DV} {l:List DC} {objs':List DObj} (ho:o.op=.store t x y) (hs:tsz P t=some sz)
 (hx:evalG G S x=some (.one p)) (hy:evalG G S y=some d) (hl:d.cells=some l) (hsz:l.length=sz) (hst:dstore S.objs p l=some objs'):OpV P G o S (.tup []) objs':=by
 intro a M hr
 have hp:=evalG_sound hr hx
 have hd:=evalG_sound hr hy
 generalize hv:a.eval x=v at hp
 generalize hu:a.eval y=u at hd
 have hcells:∃ vs:List Value,u.cells.toList=vs∧l.length=vs.length∧∀ (j:Nat) (d:DC) (x:Value),l[j]?=some d→vs[j]?=some x→RepC M d x:=by
  cases hd with
  | one c v hc =>
    cases hl
    have h1:=hc.isOne
    refine ⟨[u],by cases u<;>simp_all [Value.cells,isOne],rfl,fun j d x h2 h3=>?_⟩
    cases j with
    | zero=>simp at h2 h3;subst h2;subst h3;exact hc
    | succ j=>simp at h2
  | agg l' cs h1 h2 =>
    cases hl
    exact ⟨cs.toList,rfl,by simpa using h1,fun j d x h3 h4=>h2 j d x h3 (by simpa using h4)⟩
  | tup=>cases hl
 obtain ⟨vs,hvs,hlen,hrep⟩:=hcells
 cases hp with
 | one _ _ hp =>
   obtain ⟨ad,M',rfl,hrun,hm,hob,he⟩:=dstore_sound (P:=P) hr.m hp hlen hrep (by rw [hr.ob];exact hst)
   refine ⟨undef,M',.inr ⟨?_,rfl⟩,hm,hob,he,.tup _ _ rfl (fun j d v h=>by simp at h)⟩
   have hne:¬ (u.cells.size≠sz):=by
    rw [← Array.length_toList,hvs,← hlen,hsz];simp
   simp only [execOp,ho,hv,hu,Instr.storeAt,Instr.sureAddr,storeVar,Sem.run_bind,Sem.run_pure,Result.andThen_ok,runSizeOf hs]
   rw [if_neg hne,hvs]
   simp only [Result.andThen_ok,hrun]
end
end Go.Ab
namespace Go.Ab
open Go
section
variable {P:Program} {G:Nat→Option (List IC)} {S:DS}
def dadd (p:DC) (off:Nat):Option DC:=
 match p with
 | .im (.ip l)=>if off≤l.length then some (.im (.ip (l.drop off))) else none
 | .ptr o i=>some (.ptr o (i + off))
 | .ept o g k i=>some (.ept o g k (i + off))
 | _=>none
theorem dadd_sound {M:MS} {p q:DC} {off:Nat} {v:Value} (hp:RepC M p v) (h:dadd p off=some q) (hv:∃ a,v=.pointer (some a)) :
 ∃ a,v=.pointer (some a)∧RepC M q (.pointer (some (a.add off))):=by
 obtain ⟨a,rfl⟩:=hv
 refine ⟨a,rfl,?_⟩
 unfold dadd at h
 split at h
 ·rename_i l
  split at h
  ·rename_i hle
   cases h
   cases hp with
   | im _ _ hp=>cases hp with
     | ip _ _ val hs hok hc hr =>
       rw [addr_add hs]
       refine .im _ _ (.ip _ _ (fun j=>val (off + j)) rfl hok (fun j c hj=>?_) (fun j c hj=>?_))
       ·rw [List.getElem?_drop] at hj
        simp only [Nat.add_assoc]
        exact hc _ c hj
       ·rw [List.getElem?_drop] at hj
        exact hr _ c hj
  ·cases h
 ·rename_i o i
  cases h
  cases hp with
  | ptr _ _ _ h1 h2 h3 =>
    refine .ptr _ _ _ rfl h2 fun c hc=>?_
    have:=h3 c hc
    simp only [Value.pointer.injEq,Option.some.injEq] at this
    subst this
    rw [addr_add rfl]
 ·rename_i o g k i
  cases h
  cases hp with
  | ept _ _ _ _ _ h1 h2 h3 =>
    refine .ept _ _ _ _ _ rfl h2 fun sz es g' nl hc=>?_
    obtain ⟨a1,a2⟩:=h3 sz es g' nl hc
    refine ⟨a1,fun e=>?_⟩
    obtain ⟨b1,b2⟩:=a2 e
    refine ⟨b1,?_⟩
    simp only [Value.pointer.injEq,Option.some.injEq] at b2
    subst b2
    rw [addr_add rfl,Nat.add_assoc]
 ·cases h
def isAddr (p:DC) (objs:List DObj):Bool:=
 match p with
 | .im (.ip _)=>true
 | .ptr o _=>match objs[o]? with|some (.row _)=>true|_=>false
 | .ept o g _ _=>match objs[o]? with|some (.vec _ _ g' _)=>g == g'|_=>false
 | _=>false
theorem isAddr_sound {M:MS} {p:DC} {v:Value} (hp:RepC M p v) (h:isAddr p M.objs=true):∃ a,v=.pointer (some a):=by
 unfold isAddr at h
 split at h
 ·cases hp with
  | im _ _ hp=>cases hp;exact ⟨_,rfl⟩
 ·split at h
  ·rename_i ho
   cases hp with
   | ptr _ _ _ h1 h2 h3=>exact ⟨_,h3 _ ho⟩
  ·cases h
 ·split at h
  ·rename_i ho
   cases hp with
   | ept _ _ _ _ _ h1 h2 h3 =>
     exact ⟨_,((h3 _ _ _ _ ho).2 (by simpa using h)).2⟩
  ·cases h
 ·cases h
def toff (P:Program) (t:TypeId) (f:Nat):Option Nat:=
 match P.underlying t with
 | some (.struct fs)=>match fs[f]? with
   | some x=>match tsz P x.type with
     | some (_ + 1)=>some x.offset
     | _=>none
   | none=>none
 | _=>none
theorem OpV_fieldAddr {o:Oper} {t:TypeId} {x:Operand} {f off:Nat} {p q:DC} (ho:o.op=.fieldAddr t x f) (hf:toff P t f=some off)
 (hx:evalG G S x=some (.one p)) (ha:isAddr p S.objs=true) (hq:dadd p off=some q):OpV P G o S (.one q) S.objs:=by
 refine .pure fun a M hr=>?_
 have hp:=evalG_sound hr hx
 generalize hv:a.eval x=v at hp
 cases hp with
 | one _ _ hp =>
   obtain ⟨ad,rfl,hrep⟩:=dadd_sound hp hq (isAddr_sound hp (by rw [hr.ob];exact ha))
   refine ⟨_,?_,.one _ _ hrep⟩
   unfold toff at hf
   split at hf
   ·rename_i fs hu
    split at hf
    ·rename_i y hy
     split at hf
     ·rename_i k hk
      cases hf
      simp [execOp,ho,hv,Instr.fieldAt,runUnderlying hu,hy,Instr.sureAddr,fieldPlace,runSizeOf hk]
     ·cases hf
    ·cases hf
   ·cases hf
def dindex (objs:List DObj) (x:DC) (i:Int) (sz:Nat):Option DC:=
 if 0≤i then match x with
  | .im (.sl l)=>match l[i.toNat]? with
    | some e=>if e.length=sz then some (.im (.ip e)) else none
    | none=>none
  | .vec o g off len=>if i.toNat < len then match objs[o]? with
   | some (.vec z _ g' _)=>if g=g'∧z=sz then some (.ept o g (off + i.toNat) 0) else none
   | _=>none
    else none
  | _=>none
 else none
theorem OpV_index {o:Oper} {t e:TypeId} {x y:Operand} {k:IntKind} {i:Int} {sz:Nat} {p q:DC} (ho:o.op=.indexAddr t x y) (ht:P.underlying t=some (.slice e)) (hs:tsz P e=some sz)
 (hx:evalG G S x=some (.one p)) (hy:rawOf (evalG G S y)=some (.int k i)) (hq:dindex S.objs p i sz=some q):OpV P G o S (.one q) S.objs:=by
 refine .pure fun a M hr=>?_
 have hp:=evalG_sound hr hx
 have e1:=rawOf_sound hr hy
 generalize hv:a.eval x=v at hp
 rw [← hr.ob] at hq
 have run:∀ (ad:Addr) (len cap:Nat),0≤i→i.toNat < len→v=.slice (some ad) len cap →
  (execOp a.eval o).run P M.w=.ok (.value (.pointer (some (ad.add (i.toNat * sz))))) M.w:=by
  rintro ad len cap h0 hlt rfl
  have h1:i < (len:Int):=by omega
  simp [execOp,ho,hv,e1,Instr.indexAt,asIntOf,runUnderlying ht,runSizeOf hs,h0,h1]
 unfold dindex at hq
 split at hq
 ·rename_i h0
  cases hp with
  | one _ _ hp =>
    split at hq
    ·rename_i l
     split at hq
     ·rename_i z hz
      split at hq
      ·rename_i hlen
       cases hq
       cases hp with
       | im _ _ hp =>
         cases hp with
         | slnil=>simp at hz
         | slz=>simp at hz
         | sl _ ad cap sz' val hsp hok hcap hl hc hrep =>
           have hlt:=lt_of_getElem? hz
           have hzs:=hl _ _ hz
           rw [hlen] at hzs
           subst hzs
           refine ⟨_,run ad _ cap h0 hlt rfl,.one _ _ (.im _ _ ?_)⟩
           rw [addr_add hsp]
           exact .ip _ _ (fun j=>val i.toNat j) rfl (hok (by rintro rfl;simp at hz)) (fun j c hj=>hc _ _ _ _ hz hj) (fun j c hj=>hrep _ _ _ _ hz hj)
      ·cases hq
     ·cases hq
    ·rename_i ob g off len
     split at hq
     ·rename_i hlt
      split at hq
      ·rename_i z es g' nl hob
       split at hq
       ·rename_i hg
        obtain ⟨rfl,rfl⟩:=hg
        cases hq
        cases hp with
        | vec _ _ _ _ _ h1 h2 h3 =>
          obtain ⟨_,h4⟩:=h3 _ _ _ _ hob
          obtain ⟨h5,h6⟩:=h4 rfl
          cases nl with
          | true=>obtain ⟨_,h7,_⟩:=h5 rfl;omega
          | false =>
            obtain ⟨xo,cap,rfl,hle,hxo,hbs⟩:=h6 rfl
            refine ⟨_,run _ _ cap h0 hlt rfl,.one _ _ (.ept _ _ _ _ _ rfl h2 fun sz es' g' nl' hob'=>?_)⟩
            rw [hob] at hob'
            cases hob'
            refine ⟨Nat.le_refl _,fun _=>⟨rfl,?_⟩⟩
            rw [addr_add rfl]
            rcases hxo with rfl|rfl
            ·omega
            ·simp only [Nat.add_zero,Nat.add_mul]
       ·cases hq
      ·cases hq
     ·cases hq
    ·cases hq
 ·cases hq
theorem OpV_indexArr {o:Oper} {t e:TypeId} {n:Nat} {x y:Operand} {k:IntKind} {i:Int} {sz:Nat} {p q:DC} (ho:o.op=.indexAddr t x y) (ht:P.underlying t=some (.array n e)) (hs:tsz P e=some sz)
 (hx:evalG G S x=some (.one p)) (hy:rawOf (evalG G S y)=some (.int k i)) (h0:0≤i) (hn:i < n) (ha:isAddr p S.objs=true) (hq:dadd p (i.toNat * sz)=some q):OpV P G o S (.one q) S.objs:=by
 refine .pure fun a M hr=>?_
 have hp:=evalG_sound hr hx
 have e1:=rawOf_sound hr hy
 generalize hv:a.eval x=v at hp
 cases hp with
 | one _ _ hp =>
   obtain ⟨ad,rfl,hrep⟩:=dadd_sound hp hq (isAddr_sound hp (by rw [hr.ob];exact ha))
   refine ⟨_,?_,.one _ _ hrep⟩
   simp [execOp,ho,hv,e1,Instr.indexAt,asIntOf,Instr.sureAddr,runUnderlying ht,runSizeOf hs,h0,hn]
theorem OpV_field {o:Oper} {t u:TypeId} {x:Operand} {f off sz:Nat} {ag:Bool} {fs:Array Field} {y:Field} {l:List DC} {d:DV} (ho:o.op=.field t x f) (ht:P.underlying t=some (.struct fs))
 (hf:fs[f]?=some y) (hu:y.type=u) (hoff:y.offset=off) (hs:tsz P u=some sz) (hg:tag P u=some ag)
 (hx:evalG G S x=some (.agg l)) (hle:off + sz≤l.length) (hd:mkDV ag ((l.drop off).take sz)=some d):OpV P G o S d S.objs:=by
 refine .pure fun a M hr=>?_
 have hp:=evalG_sound hr hx
 subst hu
 subst hoff
 generalize hv:a.eval x=v at hp
 cases hp with
 | agg _ cs h1 h2 =>
   cases ag with
   | true =>
     simp only [mkDV,if_true,Option.some.injEq] at hd
     subst hd
     refine ⟨.agg (cs.extract y.offset (y.offset + sz)),?_,.agg _ _ (by simp;omega) fun j c v h3 h4=>?_⟩
     ·simp [execOp,ho,hv,Instr.field,runUnderlying ht,hf,asAgg,part,runIsAgg hg,runSizeOf hs]
     ·rw [List.getElem?_take] at h3
      split at h3
      ·rw [List.getElem?_drop] at h3
       rw [Array.getElem?_extract] at h4
       split at h4
       ·exact h2 _ c v h3 h4
       ·cases h4
      ·cases h3
   | false =>
     simp only [mkDV,Bool.false_eq_true,if_false] at hd
     split at hd
     ·rename_i c hc
      cases hd
      have h3:l[y.offset]?=some c:=by
       have:=congrArg (fun z=>z[0]?) hc
       simp only [List.getElem?_cons_zero] at this
       rw [List.getElem?_take] at this
       split at this
       ·simpa using this
       ·cases this
      have hlt:=lt_of_getElem? h3
      have hcs:cs[y.offset]?=some cs[y.offset]:=by simp [← h1,hlt]
      refine ⟨cs[y.offset],?_,.one _ _ (h2 _ c _ h3 hcs)⟩
      simp [execOp,ho,hv,Instr.field,runUnderlying ht,hf,asAgg,part,runIsAgg hg,hcs]
     ·cases hd
theorem OpV_extract {o:Oper} {x:Operand} {i:Nat} {l:List DV} {d:DV} (ho:o.op=.extract x i) (hx:evalG G S x=some (.tup l)) (hi:l[i]?=some d):OpV P G o S d S.objs:=by
 refine .pure fun a M hr=>?_
 have hp:=evalG_sound hr hx
 generalize hv:a.eval x=v at hp
 cases hp with
 | tup _ vs h1 h2 =>
   have hlt:=lt_of_getElem? hi
   have hvs:vs[i]?=some vs[i]:=by simp [← h1,hlt]
   exact ⟨vs[i],by simp [execOp,ho,hv,Instr.extract,hvs],h2 i d _ hi hvs⟩
theorem OpV_nilCheck {o:Oper} {x:Operand} {c:DC} (ho:o.op=.nilCheck x) (hx:evalG G S x=some (.one c))
 (hc:isAddr c S.objs=true∨(∃ f caps,c=.im (.fn (.func f) caps))∨∃ f caps,c=.fn (.func f) caps):OpV P G o S (.one c) S.objs:=by
 refine .pure fun a M hr=>?_
 have hp:=evalG_sound hr hx
 refine ⟨a.eval x,?_,hp⟩
 generalize hv:a.eval x=v at hp
 cases hp with
 | one _ _ hp =>
   rcases hc with hc|⟨f,caps,rfl⟩|⟨f,caps,rfl⟩
   ·obtain ⟨ad,rfl⟩:=isAddr_sound hp (by rw [hr.ob];exact hc)
    simp [execOp,ho,hv]
   ·cases hp with
    | im _ _ hp=>cases hp;simp [execOp,ho,hv]
   ·cases hp;simp [execOp,ho,hv]
def dlen (objs:List DObj) (x:DC):Option Nat:=
 match x with
 | .im (.sl l)=>some l.length
 | .im (.raw (.slice none 0 0))=>some 0
 | .vec o g _ len=>match objs[o]? with
   | some (.vec _ _ g' _)=>if g=g' then some len else none
   | _=>none
 | _=>none
theorem dlen_sound {M:MS} {x:DC} {v:Value} {n:Nat} (hp:RepC M x v) (h:dlen M.objs x=some n):∃ a cap,v=.slice a n cap:=by
 unfold dlen at h
 split at h
 ·cases h
  cases hp with
  | im _ _ hp=>cases hp with
    | slnil=>exact ⟨_,_,rfl⟩
    | sl=>exact ⟨_,_,rfl⟩
    | slz=>exact ⟨_,_,rfl⟩
 ·cases h
  cases hp with
  | im _ _ hp=>cases hp;exact ⟨_,_,rfl⟩
 ·rename_i o g off len
  split at h
  ·rename_i z es g' nl ho
   split at h
   ·rename_i hg
    cases h
    cases hp with
    | vec _ _ _ _ _ h1 h2 h3 =>
      obtain ⟨_,h4⟩:=h3 _ _ _ _ ho
      obtain ⟨h5,h6⟩:=h4 hg
      rcases Bool.eq_false_or_eq_true nl with hn|hn
      ·obtain ⟨_,rfl,rfl⟩:=h5 hn;exact ⟨_,_,rfl⟩
      ·obtain ⟨xo,cap,rfl,_⟩:=h6 hn;exact ⟨_,_,rfl⟩
   ·cases h
  ·cases h
 ·cases h
theorem OpV_len {o:Oper} {x:Operand} {t e:TypeId} {c:DC} {n:Nat} (ho:o.op=.call { callee:=.builtin .len,args:=#[x],argTypes:=#[t] }) (ht:P.underlying t=some (.slice e))
 (hx:evalG G S x=some (.one c)) (hl:dlen S.objs c=some n):OpV P G o S (.one (.im (.raw (.int .i64 n)))) S.objs:=by
 refine .pure fun a M hr=>⟨.int .i64 n,?_,.mkraw rfl⟩
 have hp:=evalG_sound hr hx
 generalize hv:a.eval x=v at hp
 cases hp with
 | one _ _ hp =>
   obtain ⟨ad,cap,rfl⟩:=dlen_sound hp (by rw [hr.ob];exact hl)
   simp [execOp,ho,resolve,invoke,builtin,Builtin.len_,hv,runUnderlying ht,goInt]
def dslice (objs:List DObj) (x:DC) (lo:Int) (hi:Option Int) (sz:Nat):Option DC:=
 match x with
 | .im (.sl l)=>if 0≤lo∧lo≤hi.getD l.length∧hi.getD l.length≤l.length then (if lo=0 then some (.im (.sl (l.take (hi.getD l.length).toNat))) else match l[lo.toNat]? with
  | some e=>if e.length=sz then some (.im (.sl ((l.take (hi.getD l.length).toNat).drop lo.toNat))) else none
  | none=>some (.im (.sl []))) else none
 | .vec o g off len=>if 0≤lo∧lo≤hi.getD len∧hi.getD len≤len then match objs[o]? with
  | some (.vec z _ g' _)=>if g=g'∧(z=sz∨len=0) then some (.vec o g (off + lo.toNat) ((hi.getD len).toNat - lo.toNat)) else none
  | _=>none
   else none
 | _=>none
def optI (G:Nat→Option (List IC)) (S:DS):Option Operand→Option (Option Int)
 | none=>some none
 | some x=>match rawOf (evalG G S x) with
   | some (.int _ i)=>some (some i)
   | _=>none
theorem optI_sound {a:Act} {M:MS} (hr:Rel G S a M) {x:Option Operand} {i:Option Int} (h:optI G S x=some i) :
 (i=none∧x=none)∨∃ j y k,i=some j∧x=some y∧a.eval y=.int k j:=by
 cases x with
 | none=>cases h;exact .inl ⟨rfl,rfl⟩
 | some y =>
   simp only [optI] at h
   split at h
   ·rename_i k j hy
    cases h
    exact .inr ⟨j,y,k,rfl,rfl,rawOf_sound hr hy⟩
   ·cases h
theorem runSlice {t e:TypeId} {sz:Nat} (ht:P.underlying t=some (.slice e)) (hs:tsz P e=some sz) {a:Option Addr} {len cap:Nat} {w:World} {klo khi:IntKind} {lo:Int} {vlo vhi:Option Value} {hi:Int}
 (hlo:(vlo=none∧lo=0)∨vlo=some (.int klo lo)) (hhi:(vhi=none∧hi=len)∨vhi=some (.int khi hi))
 (h0:0≤lo) (h1:lo≤hi) (h2:hi≤len) (hc:len≤cap) :
 (Instr.sliceAt t (.slice a len cap) vlo vhi none).run P w=.ok (.slice (if cap=lo.toNat then a else a.map (·.add (lo.toNat * sz))) (hi.toNat - lo.toNat) (cap - lo.toNat)) w:=by
 have h4:hi≤(cap:Int):=by omega
 have h5:(0:Int)≤hi:=by omega
 rcases hlo with ⟨rfl,rfl⟩|rfl<;>rcases hhi with ⟨rfl,rfl⟩|rfl
 ·simp [Instr.sliceAt,runUnderlying ht,Instr.slice,Instr.sliceBounds,runSizeOf hs]
 ·simp [Instr.sliceAt,runUnderlying ht,Instr.slice,Instr.sliceBounds,Instr.sliceBound,asIntOf,runSizeOf hs,h4,h5]
 ·have h6:lo≤(len:Int):=by omega
  simp [Instr.sliceAt,runUnderlying ht,Instr.slice,Instr.sliceBounds,Instr.sliceBound,asIntOf,runSizeOf hs,h0,h6]
 ·have h6:lo≤((hi.toNat:Nat):Int):=by omega
  have h7:lo≤max hi 0:=by omega
  simp [Instr.sliceAt,runUnderlying ht,Instr.slice,Instr.sliceBounds,Instr.sliceBound,asIntOf,runSizeOf hs,h0,h4,h5,h7]
theorem OpV_slice {o:Oper} {t e:TypeId} {sz:Nat} {x:Operand} {lo hi:Option Operand} {c d:DC} {il ih:Option Int} (ho:o.op=.slice t x lo hi none) (ht:P.underlying t=some (.slice e)) (hs:tsz P e=some sz)
 (hx:evalG G S x=some (.one c)) (hl:optI G S lo=some il) (hh:optI G S hi=some ih) (hd:dslice S.objs c (il.getD 0) ih sz=some d):OpV P G o S (.one d) S.objs:=by
 refine .pure fun a M hr=>?_
 have hp:=evalG_sound hr hx
 have el:=optI_sound hr hl
 have eh:=optI_sound hr hh
 generalize hv:a.eval x=v at hp
 rw [← hr.ob] at hd
 have run:∀ (ad:Option Addr) (len cap:Nat),0≤il.getD 0→il.getD 0≤ih.getD len→ih.getD len≤len→len≤cap→v=.slice ad len cap →
  (execOp a.eval o).run P M.w=.ok (.value (.slice (if cap=(il.getD 0).toNat then ad else ad.map (·.add ((il.getD 0).toNat * sz))) ((ih.getD len).toNat - (il.getD 0).toNat) (cap - (il.getD 0).toNat))) M.w:=by
  rintro ad len cap h0 h1 h2 h3 rfl
  simp only [execOp,ho,Option.map_none,Sem.run_bind,hv]
  have:∃ kl kh,((lo.map a.eval=none∧il.getD 0=0)∨lo.map a.eval=some (.int kl (il.getD 0)))∧((hi.map a.eval=none∧ih.getD len=len)∨hi.map a.eval=some (.int kh (ih.getD len))):=by
   rcases el with ⟨rfl,rfl⟩|⟨i,z,kz,rfl,rfl,ez⟩<;>rcases eh with ⟨rfl,rfl⟩|⟨j,y,k,rfl,rfl,e⟩
   ·exact ⟨.i64,.i64,.inl ⟨rfl,rfl⟩,.inl ⟨rfl,rfl⟩⟩
   ·exact ⟨.i64,k,.inl ⟨rfl,rfl⟩,.inr (by simp [e])⟩
   ·exact ⟨kz,.i64,.inr (by simp [ez]),.inl ⟨rfl,rfl⟩⟩
   ·exact ⟨kz,k,.inr (by simp [ez]),.inr (by simp [e])⟩
  obtain ⟨kl,kh,a1,a2⟩:=this
  rw [runSlice ht hs a1 a2 h0 h1 h2 h3]
  rfl
 cases hp with
 | one _ _ hp =>
   unfold dslice at hd
   split at hd
   ·rename_i l
    split at hd
    ·rename_i hb
     obtain ⟨h0,h1,h2⟩:=hb
     cases hp with
     | im _ _ hp =>
       have hlen:((l.take (ih.getD l.length).toNat).drop (il.getD 0).toNat).length=(ih.getD l.length).toNat - (il.getD 0).toNat:=by simp;omega
       cases hp with
       | slnil =>
         simp only [List.length_nil] at h0 h1 h2
         have e1:(il.getD 0)=0:=by omega
         rw [if_pos e1] at hd
         cases hd
         refine ⟨_,run none 0 0 h0 h1 h2 (Nat.le_refl _) rfl,.one _ _ (.im _ _ ?_)⟩
         simp only [List.take_nil,e1,Int.toNat_zero,Nat.sub_zero,Option.map_none,ite_self]
         have e2:(ih.getD ((0:Nat):Int)).toNat=0:=by omega
         rw [e2]
         exact .slnil
       | slz ad cap =>
         simp only [List.length_nil] at h0 h1 h2
         have e1:(il.getD 0)=0:=by omega
         rw [if_pos e1] at hd
         cases hd
         refine ⟨_,run (some ad) 0 cap h0 h1 h2 (Nat.zero_le _) rfl,.one _ _ (.im _ _ ?_)⟩
         simp only [List.take_nil,e1,Int.toNat_zero,Nat.sub_zero,Option.map_some]
         have e2:(ih.getD ((0:Nat):Int)).toNat=0:=by omega
         rw [e2]
         split<;>exact .slz _ _
       | sl _ ad cap sz' val hsp hok hcap hl hc hrep =>
         refine ⟨_,run (some ad) _ cap h0 h1 h2 hcap rfl,.one _ _ ?_⟩
         have nil:∀ (b:Addr) (m:Nat),b.spot=none→RepI M.w M.ok (.sl []) (.slice (some b) 0 m):=fun b m hb =>
          .sl [] b m 0 (fun _ _=>undef) hb (fun h=>absurd rfl h) (Nat.zero_le _) (fun i x h=>by simp at h) (fun i x j c h=>by simp at h) (fun i x j c h=>by simp at h)
         split at hd
         ·rename_i hz
          cases hd
          have hlen2:(l.take (ih.getD l.length).toNat).length=(ih.getD l.length).toNat:=by simp;omega
          have e3:(if cap=(il.getD 0).toNat then some ad else Option.map (fun x=>x.add ((il.getD 0).toNat * sz)) (some ad))=some ad:=by
           rw [hz];simp [Addr.add]
          rw [e3,hz,Int.toNat_zero,Nat.sub_zero,Nat.sub_zero]
          refine .im _ _ ?_
          have tget:∀ (i:Nat) (x:List IC),(l.take (ih.getD l.length).toNat)[i]?=some x→l[i]?=some x:=fun i x h=>by
           rw [List.getElem?_take] at h
           split at h
           ·exact h
           ·cases h
          conv=>rhs;rw [← hlen2]
          exact .sl _ ad cap sz' val hsp (fun h=>hok (by rintro rfl;simp at h)) (by omega) (fun i x h=>hl i x (tget i x h)) (fun i x j c h h'=>hc i x j c (tget i x h) h') (fun i x j c h h'=>hrep i x j c (tget i x h) h')
         ·split at hd
          ·rename_i e he
           split at hd
           ·rename_i hes
            cases hd
            have hz':=hl _ _ he
            rw [hes] at hz'
            subst hz'
            have hlt:=lt_of_getElem? he
            have hcz:cap≠(il.getD 0).toNat:=by omega
            rw [if_neg hcz,Option.map_some,addr_add hsp,← hlen]
            have tget:∀ (i:Nat) (x:List IC),((l.take (ih.getD l.length).toNat).drop (il.getD 0).toNat)[i]?=some x→l[(il.getD 0).toNat + i]?=some x:=fun i x h=>by
             rw [List.getElem?_drop,List.getElem?_take] at h
             split at h
             ·exact h
             ·cases h
            refine .im _ _ (.sl _ _ _ sz (fun i j=>val ((il.getD 0).toNat + i) j) rfl (fun _=>hok (by rintro rfl;simp at he)) (by rw [hlen];omega) (fun i x h=>hl _ x (tget i x h)) (fun i x j c h h'=>?_) (fun i x j c h h'=>hrep _ x j c (tget i x h) h'))
            have:=hc _ x j c (tget i x h) h'
            rw [← this]
            simp only [Nat.add_mul,Nat.add_assoc]
           ·cases hd
          ·rename_i hnone
           cases hd
           have hge:=List.getElem?_eq_none_iff.1 hnone
           have e4:(ih.getD l.length).toNat - (il.getD 0).toNat=0:=by omega
           rw [e4]
           refine .im _ _ ?_
           split
           ·exact nil _ _ hsp
           ·exact nil _ _ (by simp [addr_add hsp])
    ·cases hd
   ·rename_i ob g off len
    split at hd
    ·rename_i hb
     obtain ⟨h0,h1,h2⟩:=hb
     split at hd
     ·rename_i z es g' nl hob
      split at hd
      ·rename_i hg
       obtain ⟨rfl,hz⟩:=hg
       cases hd
       cases hp with
       | vec _ _ _ _ _ h3 h4 h5 =>
         obtain ⟨_,h6⟩:=h5 _ _ _ _ hob
         obtain ⟨h7,h8⟩:=h6 rfl
         rcases Bool.eq_false_or_eq_true nl with hn|hn
         ·obtain ⟨rfl,rfl,rfl⟩:=h7 hn
          refine ⟨_,run none 0 0 h0 h1 h2 (Nat.le_refl _) rfl,.one _ _ (.vec _ _ _ _ _ rfl h4 fun sz2 es2 g2 nl2 hob2=>?_)⟩
          rw [hob] at hob2
          cases hob2
          refine ⟨Nat.le_refl _,fun _=>⟨fun _=>⟨by omega,by omega,?_⟩,(fun e=>by rw [hn] at e;cases e)⟩⟩
          have e1:(il.getD 0)=0:=by omega
          have e2:(ih.getD ((0:Nat):Int)).toNat=0:=by omega
          simp only [e1,e2,Option.map_none,ite_self,Nat.zero_sub]
         ·obtain ⟨xo,cap,rfl,hle,hxo,hbs⟩:=h8 hn
          refine ⟨_,run _ _ cap h0 h1 h2 hle rfl,.one _ _ (.vec _ _ _ _ _ rfl h4 fun sz2 es2 g2 nl2 hob2=>?_)⟩
          rw [hob] at hob2
          cases hob2
          refine ⟨Nat.le_refl _,fun _=>⟨(fun e=>by rw [hn] at e;cases e),fun _=>?_⟩⟩
          have hsum:off + (il.getD 0).toNat + (cap - (il.getD 0).toNat)=off + cap:=by omega
          by_cases hcz:cap=(il.getD 0).toNat
          ·rw [if_pos hcz]
           exact ⟨xo,cap - (il.getD 0).toNat,rfl,by omega,.inl (by omega),by rw [hsum];exact hbs⟩
          ·rw [if_neg hcz,Option.map_some,addr_add rfl]
           refine ⟨_,cap - (il.getD 0).toNat,rfl,by omega,.inr ?_,by rw [hsum];exact hbs⟩
           rcases hxo with rfl|rfl
           ·omega
           ·rcases hz with rfl|rfl
            ·rw [Nat.add_mul]
            ·have e1:(il.getD 0).toNat=0:=by omega
             rw [e1];simp
      ·cases hd
     ·cases hd
    ·cases hd
   ·cases hd
end
end Go.Ab
