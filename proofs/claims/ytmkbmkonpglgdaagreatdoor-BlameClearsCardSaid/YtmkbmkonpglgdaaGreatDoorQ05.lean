/- Part 30 of the proofs: laws and walks that hold without conditions beyond those that each theorem names. -/
import Derived.Shelf.Sort.Plain
import Derived.Shelf.Slices.In.SortNone
import Derived.Test.YtmkbmkonpglgdaaGreatDoorP19
set_option linter.all false
set_option linter.deprecated false
namespace Go.Ab
open Go Go.Sort
theorem RelM.grown {G:Nat→Option (List IC)} {M:MS} {w':World} {os:Array Obj} (h:RelM G M) (hw:w'.heap=M.w.heap ++ os) (hio:SameIo M.w w'):RelM G { M with w:=w' }∧Ext M.objs.length M { M with w:=w' }:=by
 have hold:∀ {b:Nat},b < M.w.heap.size→w'.heap[b]?=M.w.heap[b]?:=fun {b} hb=>by rw [hw];simp [Array.getElem?_append,hb]
 have hsz:M.w.heap.size≤w'.heap.size:=by rw [hw];simp
 have he:Ext M.objs.length M { M with w:=w' }:=
  ⟨Nat.le_refl _,fun b hb=>⟨⟨Nat.lt_of_lt_of_le hb.1 hsz,hb.2⟩,hold hb.1⟩,Fsame M,hsz,fun p _ c' hc=>⟨⟨c',hc⟩,rfl⟩,
   fun p _ sz es g nl hv=>⟨sz,es,g,nl,hv,Nat.le_refl _,fun _=>⟨rfl,rfl,fun hn=>⟨rfl,by simp only [bsize];rw [hold (h.lt p _ hv (by simp [DObj.blk,hn]))]⟩⟩⟩,fun p _ ks es hm=>⟨⟨ks,es,hm⟩,rfl⟩,
   fun p _ r hm=>⟨⟨r,hm⟩,rfl⟩,fun p _ d hm hi=>⟨⟨d,hm,hi⟩,rfl⟩,fun p _ r hm=>⟨⟨r,hm⟩,rfl⟩,hio⟩
 exact ⟨⟨fun o d ho=>(h.objs o d ho).ext he (fun _=>rfl) (fun hb=>hold (h.lt o d ho hb)),fun o d ho hb=>Nat.lt_of_lt_of_le (h.lt o d ho hb) hsz,h.inj,fun g l hg=>(h.glob g l hg).mono he.ok,fun b hF=>Nat.lt_of_lt_of_le (h.fl b hF) hsz,h.own⟩,he⟩
theorem putCells_get {l:List Int} {c:Array Value} {i:Nat} (hi:i < l.length) (hc:i < c.size):(putCells (Value.int .i64) 0 l.toArray c)[i]?=some (.int .i64 l[i]):=by
 simp only [putCells,Array.getElem?_mapIdx,Array.getElem?_eq_getElem hc,Option.map_some]
 rw [if_pos ⟨Nat.zero_le _,by simpa using hi⟩]
 simp [hi]
theorem DCall.sort {P:Program} {G:Nat→Option (List IC)} {f:FuncId}
 (hS:∀ (blk cap:Nat) (zs:List Int) (w:World),Holds (Value.int .i64) w blk 0 zs.toArray→blk < w.heap.size→zs.length < 4611686018427387904 →
  Calls P f #[.slice (some ⟨blk,0,none⟩) zs.length cap] w fun e w'=>e=.returned (.tuple #[])∧∃ n os,w'=grow (putRow (Value.int .i64) (Sort.ahead w n) blk 0 (zs.mergeSort fun x y=>decide (x≤y)).toArray) os)
 (h0:∀ (a:Option Addr) (cap:Nat) (w:World),Calls P f #[.slice a 0 cap] w fun e w'=>e=.returned (.tuple #[])∧w'=w)
 (l:List Int) (g sz:Nat) (nl:Bool) (hz:sz=1∨nl=true∧l=[]) (hl:l.length < 1000000) :
 DCall P G f [.one (.vec 0 g 0 l.length)] [.vec sz (ims (l.map encI)) g nl] (fun d o=>d=.tup []∧o=[.vec sz (ims ((isort l).map encI)) g nl]):=by
 intro M vs hM ho hsz hr
 obtain ⟨v,rfl⟩:∃ v,vs=#[v]:=by
  obtain ⟨vl⟩:=vs
  match vl,hsz with
  | [v],_=>exact ⟨v,rfl⟩
 have hv:=hr 0 _ v rfl rfl
 have h1:M.objs[0]?=some (.vec sz (ims (l.map encI)) g nl):=by rw [ho];rfl
 have hO:=hM.objs 0 _ h1
 cases hv with
 | one _ _ hv =>
 cases hv with
 | vec _ _ _ _ _ _ _ hv =>
 obtain ⟨_,hv⟩:=hv _ _ _ _ h1
 obtain ⟨hvt,hvf⟩:=hv rfl
 have hnil:∀ (a:Option Addr) (cap:Nat),l=[]→Calls P f #[.slice a 0 cap] M.w fun e w'=>∃ v d M',e=.returned v∧M'.w=w'∧RelM G M'∧RepV M' d v∧Ext 1 M M'∧d=.tup []∧M'.objs=[.vec sz (ims ((isort l).map encI)) g nl]:=fun a cap hle=>by
  refine (h0 a cap M.w).mono fun e w' ⟨he,hw⟩=>?_
  subst hw
  refine ⟨_,.tup [],M,he,rfl,hM,.tup _ _ rfl (fun j d v h=>by simp at h),(Ext.refl M).weaken (by simp [ho]),rfl,?_⟩
  rw [ho,hle,show isort []=[] from List.mergeSort_nil]
 cases nl with
 | true =>
   obtain ⟨_,e,hv⟩:=hvt rfl
   have e:l=[]:=List.eq_nil_of_length_eq_zero e
   have:=hnil none 0 e
   rw [hv];simpa using this
 | false =>
   obtain rfl:sz=1:=hz.resolve_right fun h=>Bool.noConfusion h.1
   obtain ⟨x,cap,hv,hc,hx,hb⟩:=hvf rfl
   by_cases e:l=[]
   ·have:=hnil (some ⟨M.β 0,x,none⟩) cap e
    rw [hv];subst e;simpa using this
   have hlp:0 < l.length:=List.length_pos_iff.2 e
   have hx0:x=0:=by rcases hx with hx|hx<;>omega
   subst hx0
   obtain ⟨_,hO⟩:=hO
   obtain ⟨_,c,T,hh,hcs,hes,hrep⟩:=hO rfl
   have hcl:l.length≤c.size:=by simpa [ims_length] using hcs
   have hcell:∀ j (hj:j < l.length),c[j]?=some (.int .i64 l[j]):=fun j hj=>by
    have hjc:j < c.size:=by omega
    have:=hrep j [DC.im (.raw (.int .i64 l[j]))] 0 (.im (.raw (.int .i64 l[j]))) c[j] (by simp [ims,hj]) rfl (by simp [hjc])
    have hcj:c[j]?=some c[j]:=by simp [hjc]
    generalize c[j]=y at this hcj
    cases this with
    | im _ _ hi =>
      cases hi
      exact hcj
   have hH:Holds (Value.int .i64) M.w (M.β 0) 0 l.toArray:=fun j hj=>by
    have hj:j < l.length:=by simpa using hj
    refine ⟨?_,?_⟩
    ·simp only [World.cell?,hh]
     simp [hcell j hj,hj]
    ·simp [World.frozen?,hh]
   have hlt:M.β 0 < M.w.heap.size:=hM.lt 0 _ h1 rfl
   rw [hv]
   refine (hS (M.β 0) cap l M.w hH hlt (by omega)).mono fun e' w' ⟨he,n,os,hw⟩=>?_
   have hmod:M.w.heap.modify (M.β 0) (onCells (putCells (Value.int .i64) 0 (isort l).toArray))=M.w.heap.setIfInBounds (M.β 0) (.cells (putCells (Value.int .i64) 0 (isort l).toArray c) T (0,0)):=by
    apply Array.ext_getElem?
    intro k
    simp only [Array.getElem?_modify,Array.getElem?_setIfInBounds]
    by_cases hk:M.β 0=k
    ·subst hk;rw [if_pos rfl,if_pos rfl,if_pos hlt,hh];rfl
    ·simp [hk]
   have ha:(DObj.vec 1 (ims (l.map encI)) g false).alike (.vec 1 (ims ((isort l).map encI)) g false):=⟨rfl,.inl ⟨rfl,rfl⟩⟩
   have hs:osize (.cells (putCells (Value.int .i64) 0 (isort l).toArray c) T (0,0))=osize (.cells c T (0,0)):=by simp [osize,putCells]
   have hE:=Ext.turn (d':=.vec 1 (ims ((isort l).map encI)) g false) h1 rfl ha hh hs
   have hR:=RelM.turn (d':=.vec 1 (ims ((isort l).map encI)) g false) hM h1 rfl ha hh hs (by
    refine ⟨fun h=>Bool.noConfusion h,fun _=>⟨by omega,putCells (Value.int .i64) 0 (isort l).toArray c,T,by simp [MS.turn,Array.getElem?_setIfInBounds_self_of_lt hlt],by simpa [ims_length,isort_len,putCells] using hcl,fun i x hx=>?_,fun i x j d v hx hj hv=>?_⟩⟩
    ·simp only [ims,List.getElem?_map,Option.map_map] at hx
     obtain ⟨y,_,rfl⟩:=Option.map_eq_some_iff.1 hx
     rfl
    ·simp only [ims,List.getElem?_map,Option.map_map] at hx
     obtain ⟨y,hy,rfl⟩:=Option.map_eq_some_iff.1 hx
     have hil:i < (isort l).length:=lt_of_getElem? hy
     match j,hj with
     | 0,hj =>
       cases hj
       have hic:i < c.size:=by rw [isort_len] at hil;omega
       rw [Nat.mul_one,Nat.add_zero,putCells_get hil hic] at hv
       have e:(isort l)[i]'hil=y:=(List.getElem?_eq_some_iff.1 hy).2
       cases hv
       rw [e]
       exact .im _ _ (.raw _ rfl))
   have hg:=RelM.grown (w':=w') (os:=os) hR (by rw [hw];simp only [grow,putRow,mapBlock,Sort.ahead,MS.turn];rw [show (l.mergeSort fun x y=>decide (x≤y))=isort l from rfl,hmod]) (by rw [hw];exact ⟨rfl,rfl,rfl,Nat.le_add_right _ _⟩)
   refine ⟨_,.tup [],_,he,?_,hg.1,.tup _ _ rfl (fun j d v h=>by simp at h),?_,rfl,?_⟩
   ·rfl
   ·have hl1:M.objs.length=1:=by rw [ho];rfl
    have h2:=hg.2
    rw [show (M.turn 0 (.cells (putCells (Value.int .i64) 0 (isort l).toArray c) T (0,0)) (.vec 1 (ims ((isort l).map encI)) g false)).objs.length=1 by simp [MS.turn,ho]] at h2
    rw [hl1] at hE
    exact hE.trans h2
   ·simp [MS.turn,ho]
end Go.Ab
