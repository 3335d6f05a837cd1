/- Part 3 of the proofs: laws and walks that hold without conditions beyond those that each theorem names. -/
import Derived.Test.YtmkbmkonpglgdaaGreatDoorP02
set_option linter.all false
set_option linter.deprecated false
namespace Go.Ab
open Go
section
variable {P:Program} {G:Nat→Option (List IC)} {S:DS}
theorem alloc_new {w:World} {x:Obj}:(w.alloc x).heap[w.heap.size]?=some x:=by
 unfold World.alloc;simp only [Array.getElem?_push_size]
theorem RepV.cells {M:MS} {d:DV} {v:Value} {l:List DC} (h:RepV M d v) (hl:d.cells=some l) :
 l.length=v.cells.size∧∀ (j:Nat) (c:DC) (x:Value),l[j]?=some c→v.cells[j]?=some x→RepC M c x:=by
 cases h with
 | one c v hc =>
   cases hl
   have h1:=hc.isOne
   have e:v.cells=#[v]:=by cases v<;>simp_all [Value.cells,isOne]
   rw [e]
   refine ⟨rfl,fun j d x h2 h3=>?_⟩
   cases j with
   | zero=>simp at h2 h3;subst h2;subst h3;exact hc
   | succ j=>simp at h2
 | agg l' cs h1 h2=>cases hl;exact ⟨h1,h2⟩
 | tup=>cases hl
theorem newRow_push {M:MS} (hm:RelM G M) {cs:Array Value} {T:TypeId} {l:List DC} (hl:l.length=cs.size) (hr:∀ (j:Nat) (c:DC) (x:Value),l[j]?=some c→cs[j]?=some x→RepC M c x) :
 RelM G (M.push (.cells cs T) (.row l))∧RepC (M.push (.cells cs T) (.row l)) (.ptr M.objs.length 0) (.pointer (some ⟨M.w.heap.size,0,none⟩)):=by
 have he:=Ext.push (M:=M) (.cells cs T) (.row l) hm.lt
 constructor
 ·refine hm.push rfl ⟨cs,T,?_,hl.symm,fun j d v h1 h2=>(hr j d v h1 h2).ext he⟩
  simp only [MS.push,if_true]
  exact alloc_new
 ·exact .ptr _ _ _ rfl (by simp [MS.push]) fun c _=>by simp [MS.push]
theorem OpV_box {o:Oper} {t:TypeId} {x:Operand} {d:DV} {l:List DC} (ho:o.op=.box t x) (hx:evalG G S x=some d) (hl:d.cells=some l) :
 OpV P G o S (.one (.ptr S.objs.length 0)) (S.objs ++ [.row l]):=by
 intro a M hr
 have hp:=evalG_sound hr hx
 generalize hv:a.eval x=v at hp
 obtain ⟨h1,h2⟩:=hp.cells hl
 obtain ⟨hm,hc⟩:=newRow_push (T:=t) hr.m h1 h2
 refine ⟨_,_,.inl ?_,hm,by simp [MS.push,hr.ob],Ext.push _ _ hr.m.lt,by rw [← hr.ob];exact .one _ _ hc⟩
 simp [execOp,ho,hv,Instr.box,newVar,newRow,newObj,Sem.run,MS.push]
def zcells:List Value→Nat→List DC×List DObj
 | [],_=>([],[])
 | .slice none 0 0 :: vs,n=>((.vec n 0 0 0) :: (zcells vs (n + 1)).1,.vec 0 [] 0 true :: (zcells vs (n + 1)).2)
 | v :: vs,n=>(.im (.raw v) :: (zcells vs n).1,(zcells vs n).2)
theorem zcells_sound:∀ (vs:List Value) (M:MS),RelM G M→vs.all Plain=true→∃ M',M'.w=M.w∧RelM G M'∧M'.objs=M.objs ++ (zcells vs M.objs.length).2∧Ext M.objs.length M M' ∧
 (zcells vs M.objs.length).1.length=vs.length∧∀ (j:Nat) (c:DC) (x:Value),(zcells vs M.objs.length).1[j]?=some c→vs[j]?=some x→RepC M' c x
 | [],M,hm,_=>⟨M,rfl,hm,by simp [zcells],Ext.refl M,rfl,fun j c x h=>by simp [zcells] at h⟩
 | v :: vs,M,hm,hp=>by
   simp only [List.all_cons,Bool.and_eq_true] at hp
   by_cases hv:v=.slice none 0 0
   ·subst hv
    have hd:(DObj.vec 0 [] 0 true).blk=false:=rfl
    have he:=Ext.idle (M:=M) hd
    have hm':RelM G (M.idle (.vec 0 [] 0 true)):=hm.idle hd ⟨fun _=>rfl,fun h=>by cases h⟩
    have hlen:(M.idle (.vec 0 [] 0 true)).objs.length=M.objs.length + 1:=by simp [MS.idle]
    obtain ⟨M',h1,h2,h3,h4,h5,h6⟩:=zcells_sound vs _ hm' hp.2
    rw [hlen] at h3 h4 h5 h6
    refine ⟨M',h1,h2,by simp [h3,MS.idle,zcells],he.trans (h4.weaken (by omega)),by simp [zcells,h5],fun j c x hj hx=>?_⟩
    cases j with
    | zero =>
      simp [zcells] at hj hx
      subst hj
      subst hx
      refine RepC.ext (M:=M.idle (.vec 0 [] 0 true)) (by rw [hlen];exact h4) (.vec _ _ _ _ _ rfl (by rw [hlen];omega) fun sz es g nl hob=>?_)
      simp [MS.idle] at hob
      obtain ⟨rfl,rfl,rfl,rfl⟩:=hob
      exact ⟨Nat.le_refl _,fun _=>⟨fun _=>⟨rfl,rfl,rfl⟩,(fun h=>by cases h)⟩⟩
    | succ j=>exact h6 j c x (by simpa [zcells] using hj) (by simpa using hx)
   ·have hz:∀ n,zcells (v :: vs) n=(.im (.raw v) :: (zcells vs n).1,(zcells vs n).2):=fun n=>by
     exact zcells.eq_3 n v vs hv
    obtain ⟨M',h1,h2,h3,h4,h5,h6⟩:=zcells_sound vs M hm hp.2
    rw [hz]
    refine ⟨M',h1,h2,h3,h4,by simp [h5],fun j c x hj hx=>?_⟩
    cases j with
    | zero =>
      simp at hj hx
      subst hj
      subst hx
      exact .im _ _ (.raw _ hp.1)
    | succ j=>exact h6 j c x (by simpa using hj) (by simpa using hx)
def tzero (P:Program) (t:TypeId):Option (List Value):=((P.info? t).bind (·.zero)).map (·.cells.toList)
theorem runZero {t:TypeId} {l:List Value} {w:World} (h:tzero P t=some l):∃ v,(zeroValue t).run P w=.ok v w∧v.cells.toList=l:=by
 simp only [tzero,Option.map_eq_some_iff,Option.bind_eq_some_iff] at h
 obtain ⟨v,⟨i,hi,hz⟩,rfl⟩:=h
 exact ⟨v,by simp [zeroValue,typeInfo,hi,hz],rfl⟩
theorem OpV_alloc {o:Oper} {t:TypeId} {l:List Value} (ho:o.op=.alloc t) (hz:tzero P t=some l) (hp:l.all Plain=true) :
 OpV P G o S (.one (.ptr (S.objs.length + (zcells l S.objs.length).2.length) 0)) (S.objs ++ (zcells l S.objs.length).2 ++ [.row (zcells l S.objs.length).1]):=by
 intro a M hr
 obtain ⟨M',h1,h2,h3,h4,h5,h6⟩:=zcells_sound l M hr.m hp
 obtain ⟨v,hrun,hv⟩:=runZero (w:=M.w) hz
 rw [← hr.ob]
 subst hv
 obtain ⟨hm,hc⟩:=newRow_push (T:=t) (cs:=v.cells) (l:=(zcells v.cells.toList M.objs.length).1) h2 (by simpa using h5) (fun j c x hj hx=>h6 j c x hj (by simpa using hx))
 refine ⟨.pointer (some ⟨M'.w.heap.size,0,none⟩),_,.inl ?_,hm,by simp [MS.push,h3],?_,.one _ _ ?_⟩
 ·simp [execOp,ho,Instr.alloc,hrun,newVar,newRow,newObj,Sem.run,MS.push,h1]
 ·exact h4.trans ((Ext.push _ _ h2.lt).weaken (by rw [h3];simp))
 ·have:M'.objs.length=M.objs.length + (zcells v.cells.toList M.objs.length).2.length:=by rw [h3];simp
  rw [← this];exact hc
theorem OpV_nil {o:Oper} (sz:Nat) (ho:o.op=.assign (.const (.slice none 0 0))):OpV P G o S (.one (.vec S.objs.length 0 0 0)) (S.objs ++ [.vec sz [] 0 true]):=by
 intro a M hr
 have hd:(DObj.vec sz [] 0 true).blk=false:=rfl
 refine ⟨.slice none 0 0,M.idle (.vec sz [] 0 true),.inl (by simp [execOp,ho,Act.eval,MS.idle]),hr.m.idle hd ⟨fun _=>rfl,fun h=>by cases h⟩,by simp [MS.idle,hr.ob],Ext.idle hd,.one _ _ ?_⟩
 rw [← hr.ob]
 refine .vec _ _ _ _ _ rfl (by simp [MS.idle]) fun sz es g nl hob=>?_
 simp [MS.idle] at hob
 obtain ⟨rfl,rfl,rfl,rfl⟩:=hob
 exact ⟨Nat.le_refl _,fun _=>⟨fun _=>⟨rfl,rfl,rfl⟩,(fun h=>by cases h)⟩⟩
def dfill (place:Nat→Option (Nat×Nat)) (c:List DC):List (Nat×List DC)→Option (List DC)
 | []=>some c
 | (i,v) :: r=>match place i with
   | some (off,size)=>if v.length=size∧off + v.length≤c.length then dfill place (splice c off v) r else none
   | none=>none
theorem foldl_splice (vs:List Value):∀ (c:Array Value) (off k:Nat),((vs.zipIdx k).foldl (fun cs (x:Value×Nat)=>cs.setIfInBounds (off + x.2) x.1) c)=spliceA c (off + k) vs:=by
 induction vs with
 | nil=>intro c off k;rfl
 | cons v vs ih=>intro c off k;rw [List.zipIdx_cons,List.foldl_cons,ih];rfl
theorem dfill_sound {M:MS} {place:Nat→Option (Nat×Nat)}:∀ (ps:List (Nat×List DC)) (qs:List (Nat×Value)) (c:List DC) (ca:Array Value) (r:List DC),
 c.length=ca.size→(∀ (j:Nat) (d:DC) (x:Value),c[j]?=some d→ca[j]?=some x→RepC M d x) →
 ps.length=qs.length→(∀ (j:Nat) (p:Nat×List DC) (q:Nat×Value),ps[j]?=some p→qs[j]?=some q→p.1=q.1∧p.2.length=q.2.cells.size∧∀ (k:Nat) (d:DC) (x:Value),p.2[k]?=some d→q.2.cells[k]?=some x→RepC M d x) →
 dfill place c ps=some r→∃ ra,Instr.fill place ca qs=some ra∧r.length=ra.size∧∀ (j:Nat) (d:DC) (x:Value),r[j]?=some d→ra[j]?=some x→RepC M d x
 | [],[],c,ca,r,hc,hr,_,_,h=>by cases h;exact ⟨ca,rfl,hc,hr⟩
 | [],q :: qs,_,_,_,_,_,hl,_,_=>by simp at hl
 | p :: ps,[],_,_,_,_,_,hl,_,_=>by simp at hl
 | (i,v) :: ps,(i',u) :: qs,c,ca,r,hc,hr,hl,hall,h=>by
   obtain ⟨h1,h2,h3⟩:=hall 0 _ _ rfl rfl
   simp only at h1 h2 h3
   subst h1
   simp only [dfill] at h
   split at h
   ·rename_i off size hpl
    split at h
    ·rename_i hcond
     have hlen:(splice c off v).length=ca.size:=by rw [splice_length hcond.2,hc]
     have hu:u.cells.size=size:=by rw [← h2];exact hcond.1
     obtain ⟨ra,e1,e2,e3⟩:=dfill_sound ps qs (splice c off v) (spliceA ca off u.cells.toList) r (by rw [spliceA_size,hlen]) (fun j d x hd hx=>by
      rw [splice_get hcond.2] at hd
      rw [spliceA_get _ _ _ _ (by simp;omega)] at hx
      by_cases hj:off≤j∧j < off + v.length
      ·rw [if_pos hj] at hd;rw [if_pos (by simp;omega)] at hx
       exact h3 _ d x hd (by simpa using hx)
      ·rw [if_neg hj] at hd;rw [if_neg (by simp;omega)] at hx
       exact hr j d x hd hx) (by simpa using hl) (fun j p q hp hq=>hall (j + 1) p q (by simpa using hp) (by simpa using hq)) h
     refine ⟨ra,?_,e2,e3⟩
     have hcnd:(decide (u.cells.size≠size) || decide (off + u.cells.size > ca.size))=false:=by
      have:off + u.cells.size≤ca.size:=by omega
      simp [hu];omega
     simp only [Instr.fill,hpl,hcnd,Bool.false_eq_true,if_false]
     rw [← e1]
     congr 1
     have:=foldl_splice u.cells.toList ca off 0
     simp only [Nat.add_zero] at this
     rw [← this,← Array.foldl_toList,Array.toList_zipIdx]
    ·cases h
   ·cases h
def partsOf (G:Nat→Option (List IC)) (S:DS):List (Nat×Operand)→Option (List (Nat×List DC))
 | []=>some []
 | (i,x) :: r=>match evalG G S x with
   | some d=>match d.cells,partsOf G S r with
     | some l,some r'=>some ((i,l) :: r')
     | _,_=>none
   | none=>none
theorem partsOf_sound {a:Act} {M:MS} (hr:Rel G S a M):∀ (ps:List (Nat×Operand)) (qs:List (Nat×List DC)),partsOf G S ps=some qs →
 qs.length=(ps.map fun (x:Nat×Operand)=>(x.1,a.eval x.2)).length∧∀ (j:Nat) (p:Nat×List DC) (q:Nat×Value),qs[j]?=some p→(ps.map fun (x:Nat×Operand)=>(x.1,a.eval x.2))[j]?=some q →
  p.1=q.1∧p.2.length=q.2.cells.size∧∀ (k:Nat) (d:DC) (x:Value),p.2[k]?=some d→q.2.cells[k]?=some x→RepC M d x
 | [],qs,h=>by cases h;exact ⟨rfl,fun j p q h=>by simp at h⟩
 | (i,x) :: ps,qs,h=>by
   simp only [partsOf] at h
   split at h
   ·rename_i d hd
    split at h
    ·rename_i l r' hl hr'
     cases h
     obtain ⟨h1,h2⟩:=partsOf_sound hr ps r' hr'
     refine ⟨by simp [h1],fun j p q hp hq=>?_⟩
     cases j with
     | zero =>
       simp at hp hq
       subst hp
       subst hq
       exact ⟨rfl,(evalG_sound hr hd).cells hl⟩
     | succ j=>exact h2 j p q (by simpa using hp) (by simpa using hq)
    ·cases h
   ·cases h
def placesOf (P:Program) (t:TypeId):Option (List (Nat×Nat)):=
 match P.underlying t with
 | some (.struct fs)=>fs.toList.mapM fun f=>(tsz P f.type).map fun s=>(f.offset,s)
 | some (.array n e)=>(tsz P e).map fun s=>(List.range n).map fun i=>(i * s,s)
 | _=>none
theorem fill_mono {p p':Nat→Option (Nat×Nat)} (h:∀ i x,p i=some x→p' i=some x):∀ (l:List (Nat×Value)) (c r:Array Value),Instr.fill p c l=some r→Instr.fill p' c l=some r
 | [],c,r,h1=>h1
 | (i,v) :: l,c,r,h1=>by
   unfold Instr.fill at h1 ⊢
   cases hp:p i with
   | none=>rw [hp] at h1;cases h1
   | some x =>
     rw [hp] at h1
     rw [h i x hp]
     simp only at h1 ⊢
     split at h1
     ·cases h1
     ·rename_i hc
      rw [if_neg hc]
      exact fill_mono h l _ r h1
theorem range_place {n s i:Nat} {x:Nat×Nat} (h:((List.range n).map fun i=>(i * s,s))[i]?=some x):some (i * s,s)=some x:=by
 rw [List.getElem?_map,Option.map_eq_some_iff] at h
 obtain ⟨j,hj,rfl⟩:=h
 obtain ⟨_,e⟩:=List.getElem?_eq_some_iff.1 hj
 simp at e;subst e;rfl
theorem runPlaces {w:World}:∀ (fs:List Field) (l:List (Nat×Nat)),fs.mapM (fun f=>(tsz P f.type).map fun s=>(f.offset,s))=some l →
 (fs.mapM (fun f=>do pure (f.offset,← sizeOf f.type)):Sem (List (Nat×Nat))).run P w=.ok l w
 | [],l,h=>by simp at h;subst h;simp
 | f :: fs,l,h=>by
   rw [List.mapM_cons] at h
   simp only [Option.bind_eq_bind,Option.bind_eq_some_iff,Option.map_eq_some_iff] at h
   obtain ⟨x,⟨s,hs,rfl⟩,r,hr,h⟩:=h
   simp at h
   subst h
   rw [List.mapM_cons]
   simp only [Sem.run_bind,runSizeOf hs,Result.andThen_ok,Sem.run_pure,runPlaces fs r hr]
def zic (v:Value):DC:=match v with
 | .slice none 0 0=>.im (.sl [])
 | v=>.im (.raw v)
theorem zic_sound {M:MS} {v:Value} (h:Plain v=true):RepC M (zic v) v:=by
 unfold zic
 split
 ·exact .im _ _ .slnil
 ·exact .im _ _ (.raw _ h)
theorem OpV_build {o:Oper} {t:TypeId} {ps:Array (Nat×Operand)} {z:List Value} {pl:List (Nat×Nat)} {qs:List (Nat×List DC)} {r:List DC} (ho:o.op=.build t ps) (hz:tzero P t=some z) (hp:z.all Plain=true)
 (hpl:placesOf P t=some pl) (hq:partsOf G S ps.toList=some qs) (hr:dfill (pl[·]?) (z.map zic) qs=some r):OpV P G o S (.agg r) S.objs:=by
 refine .pure fun a M hrel=>?_
 obtain ⟨v,hrun,hv⟩:=runZero (w:=M.w) hz
 obtain ⟨h1,h2⟩:=partsOf_sound hrel _ _ hq
 subst hv
 obtain ⟨ra,e1,e2,e3⟩:=dfill_sound (M:=M) (place:=(pl[·]?)) qs _ (v.cells.toList.map zic) v.cells r (by simp) (fun j d x hd hx=>by
  rw [List.getElem?_map,Array.getElem?_toList,hx] at hd
  simp at hd
  subst hd
  exact zic_sound (List.all_eq_true.1 hp x (Array.mem_toList_iff.2 (Array.mem_of_getElem? hx)))) h1 h2 hr
 refine ⟨.agg ra,?_,.agg _ _ e2 e3⟩
 unfold placesOf at hpl
 split at hpl
 ·rename_i fs hu
  have hpl':=runPlaces (P:=P) (w:=M.w) fs.toList pl hpl
  simp only [execOp,ho,Instr.build,Sem.run_bind,hrun,Result.andThen_ok,runUnderlying hu,Array.mapM_eq_mapM_toList,Sem.run_map,hpl']
  have e1':Instr.fill (fun x=>pl.toArray[x]?) v.cells (Array.map (fun x=>(x.1,a.eval x.2)) ps).toList=some ra:=by simpa using e1
  simp only [e1']
  rfl
 ·rename_i n e hu
  obtain ⟨sz,hs,rfl⟩:=Option.map_eq_some_iff.1 hpl
  have e1':Instr.fill (fun i=>some (i * sz,sz)) v.cells (Array.map (fun x=>(x.1,a.eval x.2)) ps).toList=some ra:=by
   have:=fill_mono (p':=fun i=>some (i * sz,sz)) (fun i x h=>range_place h) _ _ _ e1
   simpa using this
  simp only [execOp,ho,Instr.build,Sem.run_bind,hrun,Result.andThen_ok,runUnderlying hu,runSizeOf hs,e1']
  rfl
 ·cases hpl
def chunk (sz:Nat) (l:List DC):Nat→List (List DC)
 | 0=>[]
 | n + 1=>l.take sz :: chunk sz (l.drop sz) n
theorem chunk_get {sz:Nat}:∀ (n:Nat) (l:List DC) (i:Nat) (x:List DC),l.length=n * sz→(chunk sz l n)[i]?=some x→i < n∧x.length=sz∧∀ (j:Nat) (d:DC),x[j]?=some d→l[i * sz + j]?=some d
 | 0,l,i,x,_,h=>by simp [chunk] at h
 | n + 1,l,i,x,hl,h=>by
   have hmul:(n + 1) * sz=n * sz + sz:=by rw [Nat.add_mul,Nat.one_mul]
   cases i with
   | zero =>
     simp [chunk] at h
     subst h
     refine ⟨by omega,by simp;omega,fun j d hd=>?_⟩
     rw [List.getElem?_take] at hd
     split at hd
     ·simpa using hd
     ·cases hd
   | succ i =>
     simp only [chunk,List.getElem?_cons_succ] at h
     obtain ⟨h1,h2,h3⟩:=chunk_get n (l.drop sz) i x (by simp;omega) h
     refine ⟨by omega,h2,fun j d hd=>?_⟩
     have:=h3 j d hd
     rw [List.getElem?_drop] at this
     rw [← this]
     congr 1
     rw [Nat.add_mul];omega
theorem chunk_length {sz:Nat}:∀ (n:Nat) (l:List DC),(chunk sz l n).length=n
 | 0,_=>rfl
 | n + 1,l=>by simp [chunk,chunk_length n]
theorem newVec_push {M:MS} (hm:RelM G M) {cs:Array Value} {T:TypeId} {es:List (List DC)} {sz:Nat} (h0:0 < sz) (hl:cs.size=es.length * sz) (he:∀ (i:Nat) (x:List DC),es[i]?=some x→x.length=sz)
 (hr:∀ (i:Nat) (x:List DC) (j:Nat) (c:DC) (v:Value),es[i]?=some x→x[j]?=some c→cs[i * sz + j]?=some v→RepC M c v) :
 RelM G (M.push (.cells cs T) (.vec sz es 0 false))∧RepC (M.push (.cells cs T) (.vec sz es 0 false)) (.vec M.objs.length 0 0 es.length) (.slice (some ⟨M.w.heap.size,0,none⟩) es.length es.length):=by
 have hext:=Ext.push (M:=M) (.cells cs T) (.vec sz es 0 false) hm.lt
 have hh:(M.push (.cells cs T) (.vec sz es 0 false)).w.heap[(M.push (.cells cs T) (.vec sz es 0 false)).β M.objs.length]?=some (.cells cs T (0,0)):=by
  simp only [MS.push,if_true]
  exact alloc_new
 constructor
 ·exact hm.push rfl ⟨(fun h=>by cases h),fun _=>⟨h0,cs,T,hh,by omega,he,fun i x j d v h1 h2 h3=>(hr i x j d v h1 h2 h3).ext hext⟩⟩
 ·refine .vec _ _ _ _ _ rfl (by simp [MS.push]) fun sz' es' g nl hob=>?_
  have:(M.push (.cells cs T) (.vec sz es 0 false)).objs[M.objs.length]?=some (.vec sz es 0 false):=by simp [MS.push]
  rw [this] at hob
  cases hob
  refine ⟨Nat.le_refl _,fun _=>⟨(fun h=>by cases h),fun _=>⟨0,es.length,by simp [MS.push],Nat.le_refl _,.inr (by simp),?_⟩⟩⟩
  simp only [bsize,hh,hl,Nat.zero_add]
theorem OpV_buildSlice {o:Oper} {t e:TypeId} {n sz:Nat} {ps:Array (Nat×Operand)} {z:List Value} {qs:List (Nat×List DC)} {r:List DC} (ho:o.op=.buildSlice t n ps) (ht:P.underlying t=some (.slice e)) (hs:tsz P e=some sz) (hz:tzero P e=some z)
 (h0:0 < sz) (hzl:z.length=sz) (hzp:z.all Plain=true) (hb:n * sz≤16777216)
 (hq:partsOf G S ps.toList=some qs) (hr:dfill (fun i=>some (i * sz,sz)) (List.replicate (n * sz) .dead) qs=some r) :
 OpV P G o S (.one (.vec S.objs.length 0 0 n)) (S.objs ++ [.vec sz (chunk sz r n) 0 false]):=by
 intro a M hrel
 obtain ⟨v,hrun,hv⟩:=runZero (w:=M.w) hz
 obtain ⟨h1,h2⟩:=partsOf_sound hrel _ _ hq
 have hvs:v.cells.size=sz:=by rw [← Array.length_toList,hv,hzl]
 obtain ⟨ra,e1,e2,e3⟩:=dfill_sound (M:=M) (place:=fun i=>some (i * sz,sz)) qs _ (List.replicate (n * sz) .dead) ((Array.range (n * sz)).map (v.cells[· % v.cells.size]!)) r (by simp) (fun j d x hd hx=>by
  rw [List.getElem?_replicate] at hd
  split at hd
  ·cases hd
   refine .dead _ ?_
   simp only [Array.getElem?_map,Array.getElem?_range] at hx
   rename_i hj
   rw [if_pos hj] at hx
   simp only [Option.map_some,Option.some.injEq] at hx
   subst hx
   have hlt:j % v.cells.size < v.cells.size:=Nat.mod_lt _ (by omega)
   rw [getElem!_pos v.cells _ hlt]
   have hmem:v.cells[j % v.cells.size]∈z:=by rw [← hv];simp
   have hpl:=List.all_eq_true.1 hzp _ hmem
   generalize v.cells[j % v.cells.size]=u at hpl
   cases u<;>first|rfl|simp [Plain] at hpl
  ·cases hd) h1 h2 hr
 have hrs:ra.size=n * sz:=by
  rw [← e2]
  have:∀ (qs:List (Nat×List DC)) (c r:List DC),dfill (fun i=>some (i * sz,sz)) c qs=some r→r.length=c.length:=by
   intro qs
   induction qs with
   | nil=>intro c r h;cases h;rfl
   | cons q qs ih =>
     intro c r h
     simp only [dfill] at h
     split at h
     ·rename_i hc;rw [ih _ _ h,splice_length hc.2]
     ·cases h
  rw [this _ _ _ hr];simp
 have hcl:=chunk_length (sz:=sz) n r
 obtain ⟨hm,hc⟩:=newVec_push (T:=e) (cs:=ra) (es:=chunk sz r n) (sz:=sz) hrel.m h0 (by rw [hcl,hrs]) (fun i x hx=>(chunk_get n r i x (by rw [e2,hrs]) hx).2.1)
  (fun i x j c v hx hj hv=>e3 _ c v ((chunk_get n r i x (by rw [e2,hrs]) hx).2.2 j c hj) hv)
 rw [hcl] at hc
 refine ⟨.slice (some ⟨M.w.heap.size,0,none⟩) n n,_,.inl ?_,hm,by simp [MS.push,hrel.ob],Ext.push _ _ hrel.m.lt,by rw [← hrel.ob];exact .one _ _ hc⟩
 have e1':Instr.fill (fun i=>some (i * sz,sz)) ((Array.range (n * sz)).map (v.cells[· % v.cells.size]!)) (Array.map (fun x=>(x.1,a.eval x.2)) ps).toList=some ra:=by simpa using e1
 have hnb:¬ (n * sz > 2 ^ 24):=by omega
 simp only [execOp,ho,Instr.buildSlice,Sem.run_bind,runUnderlying ht,Result.andThen_ok,runSizeOf hs,if_neg hnb]
 by_cases hn:n * sz=0
 ·simp only [hn,if_true,Sem.run_bind,Sem.run_pure,Result.andThen_ok]
  have:((Array.range 0).map (fun (x:Nat)=>((#[]:Array Value)[x % (#[]:Array Value).size]!)))=(Array.range (n * sz)).map (v.cells[· % v.cells.size]!):=by rw [hn];simp
  rw [this,e1']
  simp [newRow,newObj,Sem.run,MS.push]
 ·simp only [hn,if_false,Sem.run_bind,hrun,Result.andThen_ok,Sem.run_pure,e1']
  simp [newRow,newObj,Sem.run,MS.push]
end
end Go.Ab
namespace Go.Ab
open Go
section
variable {P:Program} {G:Nat→Option (List IC)} {S:DS}
def delems (objs:List DObj) (x:DC):Option (List (List DC)):=
 match x with
 | .im (.sl l)=>some (l.map (·.map .im))
 | .im (.raw (.slice none 0 0))=>some []
 | .vec o g off len=>match objs[o]? with
   | some (.vec _ es g' _)=>if g=g'∧off + len≤es.length then some ((es.drop off).take len) else none
   | _=>none
 | _=>none
theorem delems_sound {M:MS} (hm:RelM G M) {x:DC} {v:Value} {xs:List (List DC)} {sz:Nat} (hp:RepC M x v) (h:delems M.objs x=some xs) (hsz:∀ e∈xs,e.length=sz) :
 ∃ a cap,v=.slice a xs.length cap∧(a=none→xs.length=0)∧∃ f:Nat→Value,(∀ b,a=some b→(xs≠[]→b.spot=none)∧∀ j,j < xs.length * sz→M.w.cell? ⟨b.block,b.off + j,none⟩=some (f j)) ∧
  ∀ (i:Nat) (e:List DC) (j:Nat) (c:DC),xs[i]?=some e→e[j]?=some c→RepC M c (f (i * sz + j)):=by
 have ne:∀ (i:Nat) (e:List DC),xs[i]?=some e→e.length=sz:=fun i e h=>hsz e (List.mem_of_getElem? h)
 have trivialCase:xs=[]→∀ a cap,v=.slice a 0 cap→∃ a cap,v=.slice a xs.length cap∧(a=none→xs.length=0)∧∃ f:Nat→Value,(∀ b,a=some b→(xs≠[]→b.spot=none)∧∀ j,j < xs.length * sz→M.w.cell? ⟨b.block,b.off + j,none⟩=some (f j)) ∧
  ∀ (i:Nat) (e:List DC) (j:Nat) (c:DC),xs[i]?=some e→e[j]?=some c→RepC M c (f (i * sz + j)):=by
  rintro rfl a cap rfl
  exact ⟨a,cap,rfl,fun _=>rfl,fun _=>undef,fun b h=>⟨fun h=>absurd rfl h,fun j hj=>by simp at hj⟩,fun i e j c h=>by simp at h⟩
 have idx:∀ (n j:Nat),0 < sz→j < n * sz→j / sz < n∧j % sz < sz∧j=j / sz * sz + j % sz:=fun n j h0 hj=>by
  refine ⟨Nat.div_lt_of_lt_mul (by rw [Nat.mul_comm];exact hj),Nat.mod_lt _ h0,?_⟩
  have:=Nat.div_add_mod j sz
  rw [Nat.mul_comm] at this;omega
 have pos:∀ j,j < xs.length * sz→0 < sz:=fun j hj=>Nat.pos_of_ne_zero (by rintro rfl;simp at hj)
 unfold delems at h
 split at h
 ·rename_i l
  simp only [Option.some.injEq] at h
  cases hp with
  | im _ _ hp=>cases hp with
    | slnil=>exact trivialCase (by simp [← h]) none 0 rfl
    | slz a cap=>exact trivialCase (by simp [← h]) (some a) cap rfl
    | sl _ ad cap sz' val hsp hok hcap hl hc hrep =>
      have hlen:xs.length=l.length:=by simp [← h]
      have tget:∀ (i:Nat) (e:List DC),xs[i]?=some e→∃ e0,l[i]?=some e0∧e=e0.map .im:=fun i e he=>by
       rw [← h,List.getElem?_map,Option.map_eq_some_iff] at he
       obtain ⟨e0,h1,rfl⟩:=he
       exact ⟨e0,h1,rfl⟩
      have hsz':xs≠[]→sz'=sz:=fun hne=>by
       obtain ⟨e,r,rfl⟩:=List.exists_cons_of_ne_nil hne
       obtain ⟨e0,h1,rfl⟩:=tget 0 e rfl
       have:=ne 0 _ rfl
       rw [List.length_map,hl 0 e0 h1] at this
       exact this
      refine ⟨some ad,cap,by rw [hlen],(fun h=>by cases h),fun j=>val (j / sz) (j % sz),fun b hb=>?_,fun i e j c he hj=>?_⟩
      ·cases hb
       refine ⟨fun _=>hsp,fun j hj=>?_⟩
       have h0:=pos j hj
       obtain ⟨h1,h2,h3⟩:=idx _ j h0 hj
       have hq:∃ e,xs[j / sz]?=some e:=⟨xs[j / sz],by simp [h1]⟩
       obtain ⟨e,he⟩:=hq
       obtain ⟨e0,he0,rfl⟩:=tget _ e he
       have hne:xs≠[]:=by rintro rfl;simp at he
       have hs:=hsz' hne
       subst hs
       have hl0:=hl _ _ he0
       have hc0:e0[j % sz']?=some e0[j % sz']:=by simp [hl0,h2]
       have:=hc _ _ _ _ he0 hc0
       rw [← this]
       congr 2
       omega
      ·obtain ⟨e0,he0,rfl⟩:=tget i e he
       have hne:xs≠[]:=by rintro rfl;simp at he
       have hs:=hsz' hne
       subst hs
       rw [List.getElem?_map,Option.map_eq_some_iff] at hj
       obtain ⟨c0,hc0,rfl⟩:=hj
       have hl0:=hl _ _ he0
       have hj2:j < sz':=by rw [← hl0];exact lt_of_getElem? hc0
       have h0:0 < sz':=by omega
       have e1:(i * sz' + j) / sz'=i:=by rw [Nat.mul_comm,Nat.mul_add_div h0,Nat.div_eq_of_lt hj2,Nat.add_zero]
       have e2:(i * sz' + j) % sz'=j:=by rw [Nat.mul_comm,Nat.mul_add_mod,Nat.mod_eq_of_lt hj2]
       simp only [e1,e2]
       exact .im _ _ (hrep _ _ _ _ he0 hc0)
 ·cases h
  cases hp with
  | im _ _ hp=>cases hp;exact trivialCase rfl none 0 rfl
 ·rename_i o g off len
  split at h
  ·rename_i z es g' nl ho
   split at h
   ·rename_i hg
    obtain ⟨rfl,hle⟩:=hg
    simp only [Option.some.injEq] at h
    cases hp with
    | vec _ _ _ _ _ h1 h2 h3 =>
      obtain ⟨_,h4⟩:=h3 _ _ _ _ ho
      obtain ⟨h5,h6⟩:=h4 rfl
      have hlen:xs.length=len:=by simp [← h];omega
      rcases Bool.eq_false_or_eq_true nl with hn|hn
      ·obtain ⟨rfl,rfl,rfl⟩:=h5 hn
       exact trivialCase (by simpa using hlen) none 0 rfl
      ·obtain ⟨xo,cap,rfl,hlc,hxo,hbs⟩:=h6 hn
       obtain ⟨_,hf⟩:=hm.objs o _ ho
       obtain ⟨hz0,ca,T,hb1,hb2,hb3,hb4⟩:=hf hn
       have tget:∀ (i:Nat) (e:List DC),xs[i]?=some e→es[off + i]?=some e:=fun i e he=>by
        rw [← h,List.getElem?_take] at he
        split at he
        ·rwa [List.getElem?_drop] at he
        ·cases he
       have hz:xs≠[]→z=sz:=fun hne=>by
        obtain ⟨e,r,rfl⟩:=List.exists_cons_of_ne_nil hne
        have:=ne 0 e rfl
        rw [hb3 _ _ (tget 0 e rfl)] at this
        exact this
       refine ⟨some ⟨M.β o,xo,none⟩,cap,by rw [hlen],(fun h=>by cases h),fun j=>(ca[xo + j]?).getD undef,fun b hb=>?_,fun i e j c he hj=>?_⟩
       ·cases hb
        refine ⟨fun _=>rfl,fun j hj=>?_⟩
        have hne:xs≠[]:=by rintro rfl;simp at hj
        have hs:=hz hne
        subst hs
        have hcap:cap≠0:=by
         rintro rfl
         have:len=0:=by omega
         rw [hlen,this] at hj;simp at hj
        have hxo':xo=off * z:=hxo.resolve_left hcap
        have hin:xo + j < ca.size:=by
         have:(off + len) * z≤es.length * z:=Nat.mul_le_mul_right z hle
         rw [Nat.add_mul] at this
         rw [hlen] at hj
         omega
        simp [World.cell?,hb1,hin]
       ·have hne:xs≠[]:=by rintro rfl;simp at he
        have hs:=hz hne
        subst hs
        have he':=tget i e he
        have hcap:cap≠0:=by
         rintro rfl
         have hl0:len=0:=by omega
         have:=lt_of_getElem? he
         omega
        have hxo':xo=off * z:=hxo.resolve_left hcap
        have hj2:=lt_of_getElem? hj
        rw [hb3 _ _ he'] at hj2
        have hlt:=lt_of_getElem? he'
        have hmul:(off + i + 1) * z≤es.length * z:=Nat.mul_le_mul_right z hlt
        rw [Nat.add_mul,Nat.one_mul] at hmul
        have hmul2:(off + i) * z=off * z + i * z:=Nat.add_mul _ _ _
        have hin:xo + (i * z + j) < ca.size:=by omega
        refine hb4 (off + i) e j c _ he' hj ?_
        rw [hmul2]
        have e3:off * z + i * z + j=xo + (i * z + j):=by omega
        rw [e3]
        simp [hin]
   ·cases h
  ·cases h
 ·cases h
def dappend (objs:List DObj) (s:DC) (xs:List (List DC)) (sz:Nat):Option (DC×List DObj):=
 match s with
 | .vec o g off len=>match objs[o]? with
   | some (.vec z es g' nl)=>if g=g'∧off=0∧len≤es.length∧(z=sz∨nl=true) then
    (if nl=true∧xs.length=0 then some (.vec o g 0 len,objs) else some (.vec o (g + 1) 0 (len + xs.length),objs.set o (.vec sz (es.take len ++ xs) (g + 1) false)))
     else none
   | _=>none
 | _=>none
def tbytes (P:Program) (t:TypeId):Option Nat:=(P.info? t).map (·.bytes)
theorem runFirstCells {w:World} {sz m cap:Nat} {a:Option Addr} (ha:a=none→m=0) (f:Nat→Value) (h:∀ b,a=some b→(m≠0→b.spot=none)∧∀ j,j < m * sz→w.cell? ⟨b.block,b.off + j,none⟩=some (f j)) :
 (Builtin.firstCells sz m (.slice a m cap)).run P w=.ok ((List.range (m * sz)).map f).toArray w:=by
 cases a with
 | none=>simp [Builtin.firstCells,ha rfl]
 | some b =>
   by_cases hm:m=0
   ·subst hm
    simp only [Builtin.firstCells,Nat.zero_mul]
    rfl
   ·simp only [Builtin.firstCells];exact runLoadCells ((h b rfl).1 hm) f _ (h b rfl).2
theorem OpV_append {o:Oper} {t e:TypeId} {sz bytes:Nat} {z:List Value} {x y:Operand} {s c d:DC} {xs:List (List DC)} {objs':List DObj}
 (ho:o.op=.call { callee:=.builtin .append,args:=#[x,y],argTypes:=#[t,t] }) (ht:P.underlying t=some (.slice e)) (hs:tsz P e=some sz) (h0:0 < sz) (hby:tbytes P e=some bytes) (hz:tzero P e=some z) (hzl:z.length=sz)
 (hx:evalG G S x=some (.one s)) (hy:evalG G S y=some (.one c)) (hel:delems S.objs c=some xs) (hsz:∀ e∈xs,e.length=sz)
 (hd:dappend S.objs s xs sz=some (d,objs')) (hb:∀ o g off len,s=.vec o g off len→(len + xs.length) * bytes≤140737488355328) (hb1:∀ o g off len,s=.vec o g off len→len + xs.length≤9223372036854775807):OpV P G o S (.one d) objs':=by
 intro a M hr
 have hp:=evalG_sound hr hx
 have hq:=evalG_sound hr hy
 generalize hv:a.eval x=v at hp
 generalize hu:a.eval y=u at hq
 rw [← hr.ob] at hel hd
 cases hp with
 | one _ _ hp=>cases hq with
   | one _ _ hq =>
   obtain ⟨ax,capx,rfl,hax,f,hf,hrep⟩:=delems_sound hr.m hq hel hsz
   have hrun:∀ w',((Builtin.append_ #[t,t] o.type #[v,.slice ax xs.length capx]).run P M.w=w')→(execOp a.eval o).run P M.w=w'.andThen fun v w=>.ok (.value v) w:=fun w' h=>by
    simp only [execOp,ho,Sem.run_bind,resolve,invoke,builtin,List.map_toArray,List.map_cons,List.map_nil,hv,hu,Sem.run_pure,Result.andThen_ok,h]
   have hfirst:=runFirstCells (P:=P) (sz:=sz) (cap:=capx) hax f (fun b hb=>⟨fun hne=>(hf b hb).1 fun e=>hne (by rw [e];rfl),(hf b hb).2⟩)
   have hns:∀ w,(do pure ((← underlying t) matches .int _):Sem Bool).run P w=.ok false w:=fun w=>by simp [runUnderlying ht]
   unfold dappend at hd
   split at hd
   ·rename_i ob g off len
    have hbound:=hb ob g off len rfl
    have hbound1:=hb1 ob g off len rfl
    split at hd
    ·rename_i zz es g' nl hob
     split at hd
     ·rename_i hcond
      obtain ⟨rfl,rfl,hle,hzz⟩:=hcond
      cases hp with
      | vec _ _ _ _ _ h1 h2 h3 =>
      obtain ⟨_,h4⟩:=h3 _ _ _ _ hob
      obtain ⟨h5,h6⟩:=h4 rfl
      have hβlt:ob < M.objs.length:=h2
      simp only [tbytes,Option.map_eq_some_iff] at hby
      obtain ⟨inf,hinf,rfl⟩:=hby
      have hinfs:inf.size=sz:=by simp only [tsz,hinf,Option.map_some,Option.some.injEq] at hs;exact hs
      simp only [tzero,hinf,Option.bind_some,Option.map_eq_some_iff] at hz
      obtain ⟨zv,hzv,rfl⟩:=hz
      have newsOf:∀ (i:Nat) (e:List DC) (j:Nat) (c:DC) (v:Value),xs[i]?=some e→e[j]?=some c→((List.range (xs.length * sz)).map f)[i * sz + j]?=some v→RepC M c v:=fun i e j c v he hj hv=>by
       have hl:=hsz e (List.mem_of_getElem? he)
       have hj2:=lt_of_getElem? hj
       have hi:=lt_of_getElem? he
       have hmul:(i + 1) * sz≤xs.length * sz:=Nat.mul_le_mul_right sz hi
       rw [Nat.add_mul,Nat.one_mul] at hmul
       have hin:i * sz + j < xs.length * sz:=by omega
       rw [List.getElem?_map,List.getElem?_range hin,Option.map_some,Option.some.injEq] at hv
       subst hv
       exact hrep i e j c he hj
      split at hd
      ·rename_i hnl
       cases hd
       obtain ⟨_,rfl,rfl⟩:=h5 hnl.1
       refine ⟨.slice none 0 0,M,.inl ?_,hr.m,rfl,Ext.refl M,.one _ _ (.vec _ _ _ _ _ h1 h2 h3)⟩
       rw [hrun (.ok (.slice none 0 0) M.w)]
       ·rfl
       ·have hm0:xs.length=0:=hnl.2
        rw [hm0] at hfirst ⊢
        simp [Builtin.append_,runUnderlying ht,runSizeOf hs,Builtin.lenOf,hfirst]
      ·rename_i hnn
       cases hd
       have hes:∀ (i:Nat) (x:List DC),(es.take len ++ xs)[i]?=some x→(nl=false→∀ (i:Nat) (x:List DC),es[i]?=some x→x.length=sz)→(nl=true→es=[])→x.length=sz:=fun i x hx h7 h8=>by
        by_cases hi:i < (es.take len).length
        ·rw [List.getElem?_append_left hi,List.getElem?_take] at hx
         split at hx
         ·rcases Bool.eq_false_or_eq_true nl with hn|hn
          ·rw [h8 hn] at hx;simp at hx
          ·exact h7 hn i x hx
         ·cases hx
        ·rw [List.getElem?_append_right (by omega)] at hx
         exact hsz x (List.mem_of_getElem? hx)
       have hnews:∀ b,ax=some b→∀ (j:Nat) (v:Value),((List.range (xs.length * sz)).map f)[j]?=some v→M.w.cell? (b.add j)=some v:=fun b hb j v hj=>by
        obtain ⟨h7,h8⟩:=hf b hb
        have hlt:j < xs.length * sz:=by simpa using lt_of_getElem? hj
        rw [addr_add (h7 (by rintro rfl;simp at hlt)),h8 j hlt]
        rw [List.getElem?_map,List.getElem?_range hlt] at hj
        simpa using hj
       have fresh:∀ (olds:List Value) (cap':Nat) (zc:Array Value),olds.length=len * sz→len + xs.length≤cap'→zc.size=(cap' - (len + xs.length)) * sz →
        (nl=false→∀ (i:Nat) (x:List DC),es[i]?=some x→x.length=sz)→(nl=true→es=[]) →
        (∀ (i:Nat) (x:List DC) (j:Nat) (d:DC) (v:Value),(es.take len)[i]?=some x→x[j]?=some d→olds[i * sz + j]?=some v→RepC M d v) →
        (Builtin.append_ #[t,t] o.type #[v,.slice ax xs.length capx]).run P M.w=.ok (.slice (some ⟨M.w.heap.size,0,none⟩) (len + xs.length) cap') (M.w.drew.alloc (.cells (olds.toArray ++ ((List.range (xs.length * sz)).map f).toArray ++ zc) e)) →
        ∃ v M',((execOp a.eval o).run P M.w=.ok (.value v) M'.w∨((execOp a.eval o).run P M.w=.ok .skip M'.w∧v=undef)) ∧
         RelM G M'∧M'.objs=M.objs.set ob (.vec sz (es.take len ++ xs) (g + 1) false)∧Ext M.objs.length M M'∧RepV M' (.one (.vec ob (g + 1) 0 (len + xs.length))) v:=by
        intro olds cap' zc hol hcap hzc h7 h8 hold happ
        have hheap:(M.w.drew.alloc (.cells (olds.toArray ++ ((List.range (xs.length * sz)).map f).toArray ++ zc) e)).heap=M.w.heap.push (.cells (olds.toArray ++ ((List.range (xs.length * sz)).map f).toArray ++ zc) e):=by
         unfold World.alloc;rfl
        have hext:=Ext.move (sz':=sz) (es':=es.take len ++ xs) (nl':=false) hob (Nat.lt_succ_self g) hheap ⟨rfl,rfl,rfl,by first|exact Nat.le_refl _|exact Nat.le_succ _⟩ hr.m.lt
        have hblk:(M.move ob (M.w.drew.alloc (.cells (olds.toArray ++ ((List.range (xs.length * sz)).map f).toArray ++ zc) e)) (.vec sz (es.take len ++ xs) (g + 1) false)).w.heap[(M.move ob (M.w.drew.alloc (.cells (olds.toArray ++ ((List.range (xs.length * sz)).map f).toArray ++ zc) e)) (.vec sz (es.take len ++ xs) (g + 1) false)).β ob]?=some (.cells (olds.toArray ++ ((List.range (xs.length * sz)).map f).toArray ++ zc) e (0,0)):=by
         simp only [MS.move,if_true,hheap,Array.getElem?_push_size]
        have hsize:(olds.toArray ++ ((List.range (xs.length * sz)).map f).toArray ++ zc).size=cap' * sz:=by
         simp only [Array.size_append,List.size_toArray,List.length_map,List.length_range,hol,hzc,← Nat.add_mul]
         congr 1;omega
        have htl:(es.take len).length=len:=by simp;omega
        refine ⟨_,M.move ob _ (.vec sz (es.take len ++ xs) (g + 1) false),.inl (by rw [hrun _ happ];rfl),hr.m.move hob (Nat.lt_succ_self g) hheap ⟨rfl,rfl,rfl,by first|exact Nat.le_refl _|exact Nat.le_succ _⟩ ?_,rfl,hext,.one _ _ ?_⟩
        ·refine ⟨(fun h=>by cases h),fun _=>⟨h0,_,_,hblk,?_,fun i x hx=>hes i x hx h7 h8,fun i x j d v hx hd hv=>?_⟩⟩
         ·rw [hsize,List.length_append,htl];exact Nat.mul_le_mul_right sz hcap
         ·have hxl:=hes i x hx h7 h8
          have hj:=lt_of_getElem? hd
          by_cases hi:i < len
          ·rw [List.getElem?_append_left (by omega)] at hx
           have hmul:(i + 1) * sz≤len * sz:=Nat.mul_le_mul_right sz hi
           rw [Nat.add_mul,Nat.one_mul] at hmul
           refine (hold i x j d v hx hd ?_).ext hext
           rw [Array.append_assoc,Array.getElem?_append_left (by simp;omega)] at hv
           simpa using hv
          ·rw [List.getElem?_append_right (by omega),htl] at hx
           have hi2:=lt_of_getElem? hx
           have hmul:(i - len + 1) * sz≤xs.length * sz:=Nat.mul_le_mul_right sz hi2
           rw [Nat.add_mul,Nat.one_mul] at hmul
           have hsub:i * sz=len * sz + (i - len) * sz:=by rw [← Nat.add_mul];congr 1;omega
           refine (newsOf (i - len) x j d v hx hd ?_).ext hext
           rw [Array.append_assoc,Array.getElem?_append_right (by simp;omega),Array.getElem?_append_left (by simp;omega)] at hv
           rw [← hv]
           simp only [List.getElem?_toArray,List.size_toArray,hol]
           congr 1;omega
        ·refine .vec _ _ _ _ _ rfl (by simpa [MS.move] using hβlt) fun sz1 es1 g1 nl1 hob1=>?_
         have:(M.move ob (M.w.drew.alloc (.cells (olds.toArray ++ ((List.range (xs.length * sz)).map f).toArray ++ zc) e)) (.vec sz (es.take len ++ xs) (g + 1) false)).objs[ob]?=some (.vec sz (es.take len ++ xs) (g + 1) false):=by
          simp [MS.move,hβlt]
         rw [this] at hob1
         cases hob1
         refine ⟨Nat.le_refl _,fun _=>⟨(fun h=>by cases h),fun _=>⟨0,cap',by simp [MS.move],hcap,.inr (by simp),?_⟩⟩⟩
         simp only [bsize,hblk,hsize,Nat.zero_add]
       have hrelO:=hr.m.objs ob _ hob
       obtain ⟨hnil,hfull⟩:=hrelO
       rcases Bool.eq_false_or_eq_true nl with hn|hn
       ·
        obtain ⟨_,rfl,rfl⟩:=h5 hn
        have hm0:0 < xs.length:=by
         rcases Nat.eq_zero_or_pos xs.length with h|h
         ·exact absurd ⟨hn,h⟩ hnn
         ·exact h
        cases ax with
        | none=>have:=hax rfl;omega
        | some ad =>
          have happ:=run_append_nil (P:=P) M.w t o.type e inf zv ht hinf hzv ad xs.length capx ((List.range (xs.length * sz)).map f) (by simp [hinfs]) (hnews ad rfl) hm0 (by simp at hbound1;omega) (by simp at hbound;omega)
          have hge:=grownCap_ge M.w xs.length 0 e
          refine fresh [] (grownCap M.w xs.length 0 e) (Builtin.zeroCells zv.cells (grownCap M.w xs.length 0 e - xs.length)) (by simp) (by simpa using hge) (by rw [size_zeroCells,Nat.zero_add,← Array.length_toList,hzl]) (fun h=>by rw [hn] at h;cases h) hnil (fun i x j d v hx=>by simp at hx) ?_
          simpa using happ
       ·obtain ⟨xo,cap,rfl,hlc,hxo,hbs⟩:=h6 hn
        obtain ⟨_,ca,T,hb1,hb2,hb3,hb4⟩:=hfull hn
        have hzs:zz=sz:=by rcases hzz with h|h;exact h;rw [hn] at h;cases h
        subst hzs
        have hcas:ca.size=cap * zz:=by simp only [bsize,hb1,Nat.zero_add] at hbs;exact hbs
        have hxo0:cap≠0→xo=0:=fun h=>by rcases hxo with h'|h';exact absurd h' h;simpa using h'
        by_cases hroom:len + xs.length≤cap
        ·
         have hlist:((List.range (xs.length * zz)).map f).length=xs.length * zz:=by simp
         have hone:∀ v∈(List.range (xs.length * zz)).map f,isOne v=true:=fun v hv=>by
          obtain ⟨j,hj⟩:=List.mem_iff_getElem?.1 hv
          have hlt:j < xs.length * zz:=by simpa using lt_of_getElem? hj
          have h1:j / zz < xs.length:=Nat.div_lt_of_lt_mul (by rw [Nat.mul_comm];exact hlt)
          have h2:j % zz < zz:=Nat.mod_lt _ h0
          have he:xs[j / zz]?=some xs[j / zz]:=by simp [h1]
          have hel2:=hsz _ (List.mem_of_getElem? he)
          have hc:xs[j / zz][j % zz]?=some xs[j / zz][j % zz]:=by simp [hel2,h2]
          refine (newsOf _ _ _ _ v he hc ?_).isOne
          rw [← hj];congr 1
          have:=Nat.div_add_mod j zz
          rw [Nat.mul_comm] at this;omega
         have hfit:len * zz + ((List.range (xs.length * zz)).map f).length≤ca.size:=by
          rw [hlist,hcas,← Nat.add_mul];exact Nat.mul_le_mul_right zz hroom
         have hext:=Ext.turn (x:=.cells (spliceA ca (len * zz) ((List.range (xs.length * zz)).map f)) T (0,0)) (d':=.vec zz (es.take len ++ xs) (g + 1) false) hob (by simp [DObj.blk,hn]) ⟨hn.symm,.inr (Nat.lt_succ_self g)⟩ hb1 (by simp [osize,spliceA_size])
         have happ:(Builtin.append_ #[t,t] o.type #[.slice (some ⟨M.β ob,xo,none⟩) len cap,.slice ax xs.length capx]).run P M.w=.ok (.slice (some ⟨M.β ob,xo,none⟩) (len + xs.length) cap) (World.setBlock M.w (M.β ob) (.cells (spliceA ca (len * zz) ((List.range (xs.length * zz)).map f)) T (0,0))):=by
          have hstore:(storeCells ((⟨M.β ob,xo,none⟩:Addr).add (len * zz)) ((List.range (xs.length * zz)).map f)).run P M.w=.ok () (World.setBlock M.w (M.β ob) (.cells (spliceA ca (len * zz) ((List.range (xs.length * zz)).map f)) T (0,0))):=by
           by_cases hc0:cap=0
           ·have hx0:xs.length=0:=by omega
            simp only [hx0,Nat.zero_mul,List.range_zero,List.map_nil,storeCells,spliceA,setBlock_same hb1]
            rfl
           ·rw [addr_add rfl]
            simp only [hxo0 hc0,Nat.zero_add]
            exact runStoreCells _ M.w ca (len * zz) 0 hb1 (by omega) hone
          simp [Builtin.append_,runUnderlying ht,runSizeOf hs,Builtin.lenOf,hroom,hfirst,hstore]
         refine ⟨_,M.turn ob _ (.vec zz (es.take len ++ xs) (g + 1) false),.inl (by rw [hrun _ happ];rfl),hr.m.turn hob (by simp [DObj.blk,hn]) ⟨hn.symm,.inr (Nat.lt_succ_self g)⟩ hb1 (by simp [osize,spliceA_size]) ?_,rfl,hext,.one _ _ ?_⟩
         ·have htl:(es.take len).length=len:=by simp;omega
          refine ⟨(fun h=>by cases h),fun _=>⟨h0,_,T,setBlock_get hb1,?_,fun i x hx=>hes i x hx (fun _=>hb3) hnil,fun i x j d v hx hd hv=>RepC.ext hext ?_⟩⟩
          ·rw [spliceA_size,hcas,List.length_append,htl];exact Nat.mul_le_mul_right zz hroom
          ·rw [spliceA_get _ _ _ _ hfit,hlist] at hv
           have hxl:=hes i x hx (fun _=>hb3) hnil
           have hj:=lt_of_getElem? hd
           by_cases hi:i < len
           ·rw [List.getElem?_append_left (by omega),List.getElem?_take,if_pos hi] at hx
            have hmul:(i + 1) * zz≤len * zz:=Nat.mul_le_mul_right zz hi
            rw [Nat.add_mul,Nat.one_mul] at hmul
            rw [if_neg (by omega)] at hv
            exact hb4 i x j d v hx hd hv
           ·rw [List.getElem?_append_right (by omega),htl] at hx
            have hi2:=lt_of_getElem? hx
            have hmul:(i - len + 1) * zz≤xs.length * zz:=Nat.mul_le_mul_right zz hi2
            rw [Nat.add_mul,Nat.one_mul] at hmul
            have hsub:i * zz=len * zz + (i - len) * zz:=by rw [← Nat.add_mul];congr 1;omega
            rw [if_pos (by omega)] at hv
            refine newsOf (i - len) x j d v hx hd ?_
            rw [← hv];congr 1;omega
         ·refine .vec _ _ _ _ _ rfl (by simpa [MS.turn] using hβlt) fun sz1 es1 g1 nl1 hob1=>?_
          have:(M.turn ob (.cells (spliceA ca (len * zz) ((List.range (xs.length * zz)).map f)) T (0,0)) (.vec zz (es.take len ++ xs) (g + 1) false)).objs[ob]?=some (.vec zz (es.take len ++ xs) (g + 1) false):=by
           simp [MS.turn,hβlt]
          rw [this] at hob1
          cases hob1
          refine ⟨Nat.le_refl _,fun _=>⟨(fun h=>by cases h),fun _=>⟨xo,cap,rfl,hroom,by simpa using hxo,?_⟩⟩⟩
          rw [bsize_turn hb1 (by simp [osize,spliceA_size])]
          exact hbs
        ·
         cases ax with
         | none=>have:=hax rfl;omega
         | some ad =>
           have holds:∀ (j:Nat) (v:Value),(ca.toList.take (len * zz))[j]?=some v→M.w.cell? ((⟨M.β ob,xo,none⟩:Addr).add j)=some v:=fun j v hj=>by
            rw [List.getElem?_take] at hj
            split at hj
            ·rename_i hlt
             have hc0 : cap ≠ 0 := by rintro rfl; have : len = 0 := by omega
                                      rw [this] at hlt;simp at hlt
             rw [addr_add rfl]
             simp only [hxo0 hc0,Nat.zero_add]
             simp only [World.cell?,hb1]
             simpa using hj
            ·cases hj
           have hlz:len * zz≤ca.size:=by rw [hcas];exact Nat.mul_le_mul_right zz hlc
           have happ:=run_append_grow (P:=P) M.w t o.type e inf zv ht hinf hzv ⟨M.β ob,xo,none⟩ len cap (ca.toList.take (len * zz)) (by simp [hinfs];omega) holds ad xs.length capx ((List.range (xs.length * zz)).map f) (by simp [hinfs]) (hnews ad rfl) (by omega) (by omega) (growslice_fits (by omega) hbound)
           have hge:=grownCap_ge M.w (len + xs.length) cap e
           refine fresh (ca.toList.take (len * zz)) (grownCap M.w (len + xs.length) cap e) (Builtin.zeroCells zv.cells (grownCap M.w (len + xs.length) cap e - (len + xs.length))) (by simp;omega) hge (by rw [size_zeroCells,← Array.length_toList,hzl]) (fun _=>hb3) hnil (fun i x j d v hx hd hv=>?_) happ
           rw [List.getElem?_take] at hx
           split at hx
           ·rw [List.getElem?_take] at hv
            split at hv
            ·exact hb4 i x j d v hx hd (by simpa using hv)
            ·cases hv
           ·cases hx
     ·cases hd
    ·cases hd
   ·cases hd
end
end Go.Ab
namespace Go.Ab
open Go
theorem shutD_io:∀ (ds:List Nat) (w:World),SameIo w (shutD ds w)
 | [],_=>⟨rfl,rfl,rfl,by first|exact Nat.le_refl _|exact Nat.le_succ _⟩
 | D :: r,w=>by
   rw [shutD]
   exact SameIo.trans (b:=w.putObj D (.deferred none)) ⟨rfl,rfl,rfl,by first|exact Nat.le_refl _|exact Nat.le_succ _⟩ (shutD_io r _)
def DCall (P:Program) (G:Nat→Option (List IC)) (f:FuncId) (args:List DV) (objs:List DObj) (Q:DV→List DObj→Prop):Prop:=
 ∀ (M:MS) (vs:Array Value),RelM G M→M.objs=objs→vs.size=args.length→(∀ (j:Nat) (d:DV) (v:Value),args[j]?=some d→vs[j]?=some v→RepV M d v) →
  Calls P f vs M.w fun e w'=>∃ v d M',e=.returned v∧M'.w=w'∧RelM G M'∧RepV M' d v∧Ext objs.length M M'∧Q d M'.objs
section
variable {P:Program} {G:Nat→Option (List IC)} {S:DS}
theorem DCall.mono {f:FuncId} {args:List DV} {objs:List DObj} {Q Q':DV→List DObj→Prop} (h:DCall P G f args objs Q) (hq:∀ d objs',Q d objs'→Q' d objs'):DCall P G f args objs Q':=
 fun M vs h1 h2 h3 h4=>(h M vs h1 h2 h3 h4).mono fun _ _ ⟨v,d,M',a1,a2,a3,a4,a5,a6⟩=>⟨v,d,M',a1,a2,a3,a4,a5,hq _ _ a6⟩
def dcallee:DV→Option (FuncId×List DV)
 | .one (.im (.fn (.func f) caps))=>some (f,caps.map fun c=>.one (.im c))
 | .one (.fn (.func f) caps)=>some (f,caps.map .one)
 | _=>none
def evals (G:Nat→Option (List IC)) (S:DS):List Operand→Option (List DV)
 | []=>some []
 | x :: r=>match evalG G S x,evals G S r with
   | some d,some l=>some (d :: l)
   | _,_=>none
theorem evals_sound {a:Act} {M:MS} (hr:Rel G S a M):∀ (xs:List Operand) (ds:List DV),evals G S xs=some ds→ds.length=xs.length∧∀ (j:Nat) (d:DV) (v:Value),ds[j]?=some d→(xs.map a.eval)[j]?=some v→RepV M d v
 | [],ds,h=>by cases h;exact ⟨rfl,fun j d v h=>by simp at h⟩
 | x :: xs,ds,h=>by
   simp only [evals] at h
   split at h
   ·rename_i d l hd hl
    cases h
    obtain ⟨h1,h2⟩:=evals_sound hr xs l hl
    refine ⟨by simp [h1],fun j e v he hv=>?_⟩
    cases j with
    | zero=>simp at he hv;subst he;subst hv;exact evalG_sound hr hd
    | succ j=>exact h2 j e v (by simpa using he) (by simpa using hv)
   ·cases h
theorem OpT_call {o:Oper} {K:DS→Prop} {x:Operand} {xs:Array Operand} {ts:Array TypeId} {d:DV} {f:FuncId} {caps as:List DV} (ho:o.op=.call { callee:=.value x,args:=xs,argTypes:=ts })
 (hx:evalG G S x=some d) (hc:dcallee d=some (f,caps)) (ha:evals G S xs.toList=some as) (hcall:∀ args w,(callFunc f args).run P w=.ok (.enter f args) w)
 (h:DCall P G f (as ++ caps) S.objs (fun d objs'=>K ({ S with objs:=objs' }.put o.dst d))):OpT P G o S K:=by
 intro ro a M hr
 have hp:=evalG_sound hr hx
 obtain ⟨hl,hrep⟩:=evals_sound hr _ _ ha
 generalize hv:a.eval x=v at hp
 have key:∀ (vs:Array Value),v=.func (.func f) #[] vs→vs.size=caps.length→(∀ (j:Nat) (d:DV) (u:Value),caps[j]?=some d→vs[j]?=some u→RepV M d u) →
  o.wpIn (fenceR ro) 0 P a M.w (fun a' w'=>∃ S' M',M'.w=w'∧Rel G S' a' M'∧Ext M.objs.length M M'∧a'.defers=a.defers∧K S') (fun _ _ _=>False):=by
  rintro vs rfl hvs hcr
  have hrun:(execOp a.eval o).run P M.w=.ok (.enter f ((xs.map a.eval) ++ vs)) M.w:=by
   simp only [execOp,ho,Sem.run_bind,resolve,hv,Deferred.ofValue,Sem.run_pure,Result.andThen_ok,invoke,Array.empty_append,hcall]
  refine wpIn_enter hrun ?_
  refine (h M _ hr.m hr.ob (by simp [hl,hvs]) fun j e u he hu=>?_).mono ?_
  ·have hsz:(xs.map a.eval).size=as.length:=by simp [hl]
   by_cases hj:j < as.length
   ·rw [List.getElem?_append_left hj] at he
    rw [Array.getElem?_append_left (by omega)] at hu
    refine hrep j e u he ?_
    rw [← hu,← Array.toList_map,Array.getElem?_toList]
   ·rw [List.getElem?_append_right (by omega)] at he
    rw [Array.getElem?_append_right (by omega),hsz] at hu
    exact hcr _ e u he hu
  ·rintro e w' ⟨v,d,M',rfl,rfl,hm,hd,he,hk⟩
   have he':Ext M.objs.length M M':=by rw [hr.ob];exact he
   exact ⟨v,rfl,_,M',rfl,hr.put hm he' hd o.dst,he',put_defers _ _ _,hk⟩
 unfold dcallee at hc
 split at hc
 ·cases hc
  cases hp with
  | one _ _ hp=>cases hp with
    | im _ _ hp=>cases hp with
      | fn _ _ vs h1 h2 =>
        refine key vs rfl (by simp [h1]) fun j d u hj hu=>?_
        rw [List.getElem?_map,Option.map_eq_some_iff] at hj
        obtain ⟨c,hc,rfl⟩:=hj
        exact .one _ _ (.im _ _ (h2 j c u hc hu))
 ·cases hc
  cases hp with
  | one _ _ hp=>cases hp with
    | fn _ _ vs h1 h2 =>
      refine key vs rfl (by simp [h1]) fun j d u hj hu=>?_
      rw [List.getElem?_map,Option.map_eq_some_iff] at hj
      obtain ⟨c,hc,rfl⟩:=hj
      exact .one _ _ (h2 j c u hc hu)
 ·cases hc
theorem OpT_callB {o:Oper} {K:DS→Prop} {x:Operand} {xs:Array Operand} {ts:Array TypeId} {f:FuncId} {l:List IC} {as:List DV} (ho:o.op=.call { callee:=.value x,args:=xs,argTypes:=ts })
 (hx:evalG G S x=some (.one (.im (.bf (.func f) l)))) (ha:evals G S xs.toList=some as) (hcall:∀ args w,(callFunc f args).run P w=.ok (.enter f args) w)
 (h:DCall P G f (l.map (fun c=>DV.one (.im c)) ++ as) S.objs (fun d objs'=>K ({ S with objs:=objs' }.put o.dst d))):OpT P G o S K:=by
 intro ro a M hr
 have hp:=evalG_sound hr hx
 obtain ⟨hl,hrep⟩:=evals_sound hr _ _ ha
 generalize hv:a.eval x=v at hp
 cases hp with
 | one _ _ hp=>cases hp with
   | im _ _ hp=>cases hp with
     | bf _ _ vs h1 h2 =>
       have hrun:(execOp a.eval o).run P M.w=.ok (.enter f (vs ++ (xs.map a.eval))) M.w:=by
        simp only [execOp,ho,Sem.run_bind,resolve,hv,Deferred.ofValue,Sem.run_pure,Result.andThen_ok,invoke,Array.append_empty,hcall]
       refine wpIn_enter hrun ?_
       refine (h M _ hr.m hr.ob (by simp [hl,h1]) fun j e u he hu=>?_).mono ?_
       ·have hsz:vs.size=(l.map (fun c=>DV.one (.im c))).length:=by simp [h1]
        by_cases hj:j < vs.size
        ·rw [List.getElem?_append_left (by omega)] at he
         rw [Array.getElem?_append_left hj] at hu
         rw [List.getElem?_map,Option.map_eq_some_iff] at he
         obtain ⟨c,hc,rfl⟩:=he
         exact .one _ _ (.im _ _ (h2 j c u hc hu))
        ·rw [List.getElem?_append_right (by omega)] at he
         rw [Array.getElem?_append_right (by omega),hsz] at hu
         refine hrep _ e u he ?_
         rw [← hu,← Array.toList_map,Array.getElem?_toList]
       ·rintro e w' ⟨v,d,M',rfl,rfl,hm,hd,he,hk⟩
        have he':Ext M.objs.length M M':=by rw [hr.ob];exact he
        exact ⟨v,rfl,_,M',rfl,hr.put hm he' hd o.dst,he',put_defers _ _ _,hk⟩
def startT:List DV→Nat→List (Nat×DV)
 | [],_=>[]
 | d :: r,i=>(i,d) :: startT r (i + 1)
theorem startT_get:∀ (l:List DV) (i t:Nat) (d:DV),tget (startT l i) t=some d→i≤t∧l[t - i]?=some d
 | [],i,t,d,h=>by simp [startT,tget] at h
 | e :: r,i,t,d,h=>by
   simp only [startT,tget] at h
   split at h
   ·rename_i hi
    subst hi
    cases h
    exact ⟨Nat.le_refl _,by simp⟩
   ·rename_i hne
    obtain ⟨h1,h2⟩:=startT_get r (i + 1) t d h
    refine ⟨by omega,?_⟩
    have:t - i=(t - (i + 1)) + 1:=by omega
    rw [this,List.getElem?_cons_succ];exact h2
def dresult (P:Program) (S:DS):ResultVar→Option DV
 | .tmp t=>tget S.tmps t
 | .cell t ty=>match tget S.tmps t,tsz P ty,tag P ty with
   | some (.one p),some sz,some ag=>match dload S.objs p sz with
     | some l=>mkDV ag l
     | none=>none
   | _,_,_=>none
def dresults (P:Program) (S:DS):List ResultVar→Option (List DV)
 | []=>some []
 | x :: r=>match dresult P S x,dresults P S r with
   | some d,some l=>some (d :: l)
   | _,_=>none
def theResult:List DV→DV
 | [d]=>d
 | l=>.tup l
theorem runLoadVar {M:MS} (hm:RelM G M) {t:TypeId} {sz:Nat} {ag:Bool} {p:DC} {v:Value} {l:List DC} {d:DV} (hs:tsz P t=some sz) (hg:tag P t=some ag) (hp:RepC M p v) (hl:dload M.objs p sz=some l) (hd:mkDV ag l=some d) :
 ∃ ad u,v=.pointer (some ad)∧(loadVar t ad).run P M.w=.ok u M.w∧RepV M d u:=by
 obtain ⟨ad,rfl,hsp,hlen,f,hc,hrep⟩:=dload_sound hm hp hl
 cases ag with
 | true =>
   simp only [mkDV,if_true,Option.some.injEq] at hd
   subst hd
   refine ⟨ad,.agg ((List.range sz).map f).toArray,rfl,?_,.agg _ _ (by simp [hlen]) fun j c v h1 h2=>?_⟩
   ·simp [loadVar,runIsAgg hg,runSizeOf hs,runLoadCells hsp f sz hc]
   ·simp only [List.getElem?_toArray,List.getElem?_map] at h2
    have hj:j < sz:=by rw [← hlen];exact lt_of_getElem? h1
    rw [List.getElem?_range hj] at h2
    simp only [Option.map_some,Option.some.injEq] at h2
    subst h2
    exact hrep j c h1
 | false =>
   simp only [mkDV,Bool.false_eq_true,if_false] at hd
   split at hd
   ·rename_i c
    cases hd
    have h0:=hc 0 (by simp at hlen;omega)
    refine ⟨ad,f 0,rfl,?_,.one _ _ (hrep 0 c rfl)⟩
    have hcell:M.w.cell? ad=some (f 0):=by
     obtain ⟨b,off,s⟩:=ad
     simp only at hsp
     subst hsp
     exact h0
    simp [loadVar,runIsAgg hg,hcell]
   ·cases hd
def resVal (tmps:Array Value):ResultVar→Sem Value
 | .tmp t=>pure (tmps.getD t undef)
 | .cell b t=>do loadVar t (← asAddr (tmps.getD b undef))
theorem results_eq (fn:Func) (tmps:Array Value):results fn tmps=(do let vs ← fn.results.mapM (resVal tmps);pure (if h:vs.size=1 then vs[0] else .tuple vs)):=by
 unfold results
 refine congrArg (fun (F:ResultVar→Sem Value)=>((do let vs ← fn.results.mapM F;pure (if h:vs.size=1 then vs[0] else .tuple vs)):Sem Value)) ?_
 funext x
 cases x<;>rfl
theorem dresults_sound {a:Act} {M:MS} (hr:Rel G S a M):∀ (xs:List ResultVar) (ds:List DV),dresults P S xs=some ds →
 ∃ vs:List Value,(xs.mapM (resVal a.tmps)).run P M.w=.ok vs M.w∧ds.length=vs.length ∧
  ∀ (j:Nat) (d:DV) (v:Value),ds[j]?=some d→vs[j]?=some v→RepV M d v
 | [],ds,h=>by cases h;exact ⟨[],by simp,rfl,fun j d v h=>by simp at h⟩
 | x :: xs,ds,h=>by
   simp only [dresults] at h
   split at h
   ·rename_i d l hd hl
    cases h
    obtain ⟨vs,h1,h2,h3⟩:=dresults_sound hr xs l hl
    have:∃ v,(resVal a.tmps x).run P M.w=.ok v M.w∧RepV M d v:=by
     cases x with
     | tmp t =>
       obtain ⟨v,e1,e2⟩:=hr.tm t d hd
       exact ⟨v,by simp [resVal,Array.getD_eq_getD_getElem?,e1],e2⟩
     | cell b t =>
       simp only [dresult] at hd
       split at hd
       ·rename_i p sz ag e1 e2 e3
        split at hd
        ·rename_i ll hll
         obtain ⟨v,e4,e5⟩:=hr.tm b _ e1
         cases e5 with
         | one _ _ e5 =>
           obtain ⟨ad,u,rfl,hrun,hu⟩:=runLoadVar hr.m e2 e3 e5 (by rw [hr.ob];exact hll) hd
           exact ⟨u,by simp [resVal,Array.getD_eq_getD_getElem?,e4,asAddr,hrun],hu⟩
        ·cases hd
       ·cases hd
    obtain ⟨v,e1,e2⟩:=this
    refine ⟨v :: vs,?_,by simp [h2],fun j e u he hu=>?_⟩
    ·rw [List.mapM_cons,Sem.run_bind,e1,Result.andThen_ok,Sem.run_bind,h1]
     rfl
    ·cases j with
     | zero=>simp at he hu;subst he;subst hu;exact e2
     | succ j=>exact h3 j e u (by simpa using he) (by simpa using hu)
   ·cases h
def FnQ (P:Program) (rs:List ResultVar) (Q:DV→List DObj→Prop) (e:Exit) (S:DS):Prop:=(e=.normal∨e=.ret)∧∃ ds,dresults P S rs=some ds∧Q (theResult ds) S.objs
theorem At.fn_ret {rs:List ResultVar} {Q:DV→List DObj→Prop} {ds:List DV} (h:dresults P S rs=some ds) (hq:Q (theResult ds) S.objs):At (FnQ P rs Q) .ret ⟨⟩ S:=⟨.inr rfl,ds,h,hq⟩
theorem At.fn_end {rs:List ResultVar} {Q:DV→List DObj→Prop} {ds:List DV} (h:dresults P S rs=some ds) (hq:Q (theResult ds) S.objs):At (FnQ P rs Q) .normal ⟨⟩ S:=⟨.inl rfl,ds,h,hq⟩
theorem DCall_intro {f:FuncId} {fn:Func} {c:Code} {nt:Nat} {args:List DV} {objs:List DObj} {Q:DV→List DObj→Prop} (hf:P.funcs[f]?=some fn) (hb:fn.body=some c) (hnt:fn.ntmps=nt) (hargs:args.length≤nt) {rs:List ResultVar} (hrs:fn.results.toList=rs)
 (h:DT P G ⟨objs.length,none⟩ c ⟨nt,startT args 0,objs⟩ (FnQ P rs Q)):DCall P G f args objs Q:=by
 subst hrs
 intro M vs hm hob hvs hrep
 refine (callsIn_wide (n:=0)).1 (callsIn_of_wp_marks hf hb trivial ?_)
 have hrel:Rel G ⟨nt,startT args 0,objs⟩ { tmps:=vs ++ Array.replicate (fn.ntmps - vs.size) undef,defers:=[] } M:=by
  refine ⟨hm,hob,by simp [hnt,hvs];omega,⟨[],rfl,by simp,by simp⟩,fun t d ht=>?_⟩
  obtain ⟨_,h2⟩:=startT_get args 0 t d ht
  simp only [Nat.sub_zero] at h2
  have hlt:=lt_of_getElem? h2
  have hv:vs[t]?=some vs[t]:=by simp [hvs,hlt]
  refine ⟨vs[t],?_,hrep t d _ h2 hv⟩
  rw [Array.getElem?_append_left (by omega)]
  exact hv
 refine wpIn_mono (h (Nat.le_refl _) (fun o ho=>by cases ho) _ M hrel) ?_
 rintro e a' w' ⟨S',M',rfl,hr',he,hnd,hen,ds,hds,hq⟩
 obtain ⟨Ds,hD1,hD2,hD3⟩:=hr'.df
 obtain ⟨hmS,hbS,hsS⟩:=hr'.m.shut (ds:=Ds) (fun D hD=>(hD3 D hD).1)
 have hge:∀ D∈Ds,M.w.heap.size≤D:=fun D hD=>by
  rcases hnd (mark D) (by rw [hD1];exact List.mem_map.2 ⟨D,hD,rfl⟩) with h1|⟨D',h1,h2⟩
  ·cases h1
  ·simp only [mark,Deferred.mk.injEq,Target.collected.injEq,and_true] at h1;subst h1;exact h2
 have hext:Ext objs.length M { M' with w:=shutD Ds M'.w }:=by
  obtain ⟨hs1,hs2⟩:=shutD_spec Ds M'.w
  have hbs:∀ b,¬ M'.F b→bsize (shutD Ds M'.w) b=bsize M'.w b:=fun b hb'=>by simp only [bsize,hbS b hb']
  refine ⟨he.len,fun b hb=>?_,⟨he.other.1,he.other.2⟩,by simpa [hsS] using he.hs,he.row,fun o ho sz es' g nl hv=>?_,he.map,he.lp,he.it,he.lp',he.io.trans (shutD_io Ds M'.w)⟩
  ·obtain ⟨h1,h2⟩:=he.free b hb
   refine ⟨⟨by simpa [hsS] using h1.1,h1.2⟩,?_⟩
   rw [← h2]
   exact hs2 b fun hD=>absurd (hge b hD) (Nat.not_le.2 hb.1)
  ·obtain ⟨sz0,es,g0,nl0,a1,a2,a3⟩:=he.vec o ho sz es' g nl hv
   refine ⟨sz0,es,g0,nl0,a1,a2,fun e=>?_⟩
   obtain ⟨b1,b2,b3⟩:=a3 e
   refine ⟨b1,b2,fun hn=>⟨(b3 hn).1,?_⟩⟩
   simp only
   rw [hbs _ (hr'.m.own o _ hv (by simp [DObj.blk,hn]))];exact (b3 hn).2
 have hrS:Rel G S' { a' with defers:=[] } { M' with w:=shutD Ds M'.w }:=by
  refine ⟨hmS,hr'.ob,hr'.nt,⟨[],rfl,by simp,by simp⟩,fun t d ht=>?_⟩
  obtain ⟨v,h1,h2⟩:=hr'.tm t d ht
  exact ⟨v,h1,h2.shut hr'.m (fun D hD=>(hD3 D hD).1)⟩
 obtain ⟨us,h1,h2,h3⟩:=dresults_sound hrS _ _ hds
 have hres:∃ v,(results fn a'.tmps).run P (shutD Ds M'.w)=.ok v (shutD Ds M'.w)∧RepV { M' with w:=shutD Ds M'.w } (theResult ds) v:=by
  have hrun:(results fn a'.tmps).run P (shutD Ds M'.w)=.ok (if h:us.toArray.size=1 then us.toArray[0] else .tuple us.toArray) (shutD Ds M'.w):=by
   rw [results_eq,Array.mapM_eq_mapM_toList,Sem.run_bind,Sem.run_map,h1]
   rfl
  refine ⟨_,hrun,?_⟩
  match ds,us,h2,h3 with
  | [d],[u],_,h3=>exact h3 0 d u rfl rfl
  | [],[],_,h3=>exact .tup _ _ rfl (fun j d v h=>by simp at h)
  | d1 :: d2 :: r,u1 :: u2 :: r',h2,h3 =>
    have hne:¬ ((u1 :: u2 :: r').toArray.size=1):=by simp
    rw [dif_neg hne]
    exact .tup _ _ (by simpa using h2) (fun j d v h5 h6=>h3 j d v h5 (by simpa using h6))
 obtain ⟨v,hv1,hv2⟩:=hres
 have hQ:LeavesInM Fence.wide 0 P fn a'.tmps (fun e w'=>∃ v d M',e=.returned v∧M'.w=w'∧RelM G M'∧RepV M' d v∧Ext objs.length M M'∧Q d M'.objs) a'.defers .returning M'.w:=by
  rw [hD1]
  exact leavesM Ds _ hD2 (fun D hD=>(hD3 D hD).2) ⟨v,hv1,v,_,_,rfl,rfl,hmS,hv2,hext,by rw [← hr'.ob] at hq;exact hq⟩
 rcases hen with rfl|rfl<;>exact hQ
end
end Go.Ab
