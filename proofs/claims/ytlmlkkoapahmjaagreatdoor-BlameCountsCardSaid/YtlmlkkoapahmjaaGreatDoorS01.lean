/- Part 1 of the proofs. -/
import Derived.WalkKit
import Derived.Deep.Quiet
import Derived.Deep.LoopGhost
import Derived.RangeFuncLeaves
import Derived.RangeFuncRecord
import Derived.TacticsIn
import Derived.OrdersIn
set_option linter.all false
set_option maxHeartbeats 100000000
namespace Go.Ab
open Go
inductive CK where
 | int (k:IntKind)
 | bool
 /-- the entries' stamps,the clock and the block,where a map is ranged over while it is changed -/
 | st (l:List Nat) (c b:Nat)
 deriving DecidableEq
def h9:List CK->List Value->Bool
 | [],[]=>true
 | .int k :: r,.int k' _ :: s=>decide (k'=k)&&h9 r s
 | .bool :: r,.bool _ :: s=>h9 r s
 | _,_=>false
def v6:List Value->List Value->Bool
 | .int _ a :: r,.int _ b :: s=>(a==b)&&v6 r s
 | .bool a :: r,.bool b :: s=>(a==b)&&v6 r s
 | [],[]=>true
 | _,_=>false
def F5:List Value->Value
 | [v]=>v
 | l=>.agg l.toArray
def Stamps (ents:Array MapEntry) (clock:Nat):Prop:=
 (∀ (i:Nat) (e:MapEntry),ents[i]?=some e->e.born<clock)/\∀ (i j:Nat) (e e':MapEntry),ents[i]?=some e->ents[j]?=some e'->e.born=e'.born->i=j
def L5:List CK->List CK
 | .st _ _ _ :: r=>L5 r
 | l=>l
def StampsK (ks:List CK) (ents:Array MapEntry) (clock b:Nat):Prop:=
 Stamps ents clock/\match ks with
  | .st l c b' :: _=>ents.toList.map (·.born)=l/\clock=c/\b'=b
  | _=>True
inductive IC where
 | raw (v:Value)
 | sl (l:List (List IC))
 | ip (l:List IC)
 | fn (f:Fn) (caps:List IC)
 | bf (f:Fn) (first:List IC)
 | mp (ks:List CK) (es:List (List Value×List IC))
 | e0
 deriving Inhabited
inductive DC where
 | im (c:IC)
 | ptr (o off:Nat)
 | ept (o gen idx off:Nat)
 | vec (o gen off len:Nat)
 | fn (f:Fn) (caps:List DC)
 | map (o:Nat)
 | yld (o:Nat)
 | itr (o:Nat)
 | dead
 deriving Inhabited
inductive DV where
 | one (c:DC)
 | agg (l:List DC)
 | tup (l:List DV)
 deriving Inhabited
structure LoopD where
 st:LoopState
 pend:Option Code
 nt:Nat
 tm:List (Nat×DV)
 ps:Array Tmp
 asg:Code
 body:Code
inductive DObj where
 | row (c:List DC)
 | vec (sz:Nat) (es:List (List DC)) (gen:Nat) (nl:Bool)
 | map (ks:List CK) (es:List (List Value×List DC))
 | loop (r:LoopD)
 | iter (left:List (List Value×List IC)) (cur:Option (List Value×List IC))
 | liter (b:Nat) (seen:List Nat) (c:Nat)
 | gone
 deriving Inhabited
def DObj.blk:DObj->Bool
 | .row _=>true
 | .vec _ _ _ nl=>!nl
 | .map _ _=>true
 | .loop _=>true
 | .iter _ _=>true
 | .liter _ _ _=>true
 | .gone=>false
def DObj.isIt:DObj->Bool
 | .iter _ _=>true
 | .liter _ _ _=>true
 | _=>false
def v7:Value->Bool
 | .bool _|.int _ _|.string _|.pointer none|.slice none 0 0|.map none|.nilFunc|.nilIface=>true
 | _=>false
def isOne:Value->Bool
 | .agg _|.tuple _=>false
 | _=>true
inductive RepI (w:World) (ok:Nat->Prop):IC->Value->Prop
 | raw (v:Value):v7 v=true->RepI w ok (.raw v) v
 | slnil:RepI w ok (.sl []) (.slice none 0 0)
 | sl (l:List (List IC)) (a:Addr) (cap sz:Nat) (val:Nat->Nat->Value) :
  a.spot=none->(l≠[]->ok a.block)->l.length<=cap ->
  (∀ (i:Nat) (x:List IC),l[i]?=some x->x.length=sz) ->
  (∀ (i:Nat) (x:List IC) (j:Nat) (c:IC),l[i]?=some x->x[j]?=some c->w.cell? ⟨a.block,a.off+i*sz+j,none⟩=some (val i j)) ->
  (∀ (i:Nat) (x:List IC) (j:Nat) (c:IC),l[i]?=some x->x[j]?=some c->RepI w ok c (val i j)) ->
  RepI w ok (.sl l) (.slice (some a) l.length cap)
 | ip (l:List IC) (a:Addr) (val:Nat->Value) :
  a.spot=none->ok a.block ->
  (∀ (j:Nat) (c:IC),l[j]?=some c->w.cell? ⟨a.block,a.off+j,none⟩=some (val j)) ->
  (∀ (j:Nat) (c:IC),l[j]?=some c->RepI w ok c (val j)) ->
  RepI w ok (.ip l) (.pointer (some a))
 | fn (f:Fn) (caps:List IC) (vs:Array Value):caps.length=vs.size ->
  (∀ (j:Nat) (c:IC) (v:Value),caps[j]?=some c->vs[j]?=some v->RepI w ok c v)->RepI w ok (.fn f caps) (.func f #[] vs)
 | bf (f:Fn) (first:List IC) (vs:Array Value):first.length=vs.size ->
  (∀ (j:Nat) (c:IC) (v:Value),first[j]?=some c->vs[j]?=some v->RepI w ok c v)->RepI w ok (.bf f first) (.func f vs #[])
 | mp (ks:List CK) (es:List (List Value×List IC)) (b:Nat) (ents:Array MapEntry) (clock:Nat) (val:Nat->Nat->Value) :
  ok b->w.heap[b]?=some (.map ents clock)->Stamps ents clock->(∀ x∈es,h9 ks x.1=true)->ents.size=es.length ->
  (∀ (i:Nat) (x:List Value×List IC) (e:MapEntry),es[i]?=some x->ents[i]?=some e->e.key=F5 x.1/\e.val=F5 ((List.range x.2.length).map (val i))) ->
  (∀ (i:Nat) (x:List Value×List IC) (j:Nat) (c:IC),es[i]?=some x->x.2[j]?=some c->RepI w ok c (val i j))->RepI w ok (.mp ks es) (.map (some b))
 | e0 (a:Option Addr):(∀ b,a=some b->b.spot=none)->RepI w ok .e0 (.slice a 0 0)
 | slz (a:Addr) (cap:Nat):RepI w ok (.sl []) (.slice (some a) 0 cap)
structure MS where
 w:World
 β:Nat->Nat
 objs:List DObj
 /-- blocks that are another one's -/
 F:Nat->Prop
def MS.live (M:MS) (b:Nat):Prop:=∃ o d,M.objs[o]?=some d/\d.blk=true/\M.β o=b
def MS.free (M:MS) (b:Nat):Prop:=b<M.w.heap.size/\¬ M.live b
def MS.ok (M:MS) (b:Nat):Prop:=M.free b/\¬ M.F b
def H3 (w:World) (b:Nat):Nat:=
 match w.heap[b]? with
 | some (.cells c _ _)=>c.size
 | _=>0
inductive RepC (M:MS):DC->Value->Prop
 | im (c:IC) (v:Value):RepI M.w M.ok c v->RepC M (.im c) v
 | ptr (o off:Nat) (v:Value):isOne v=true->o<M.objs.length->(∀ c,M.objs[o]?=some (.row c)->v=.pointer (some ⟨M.β o,off,none⟩))->RepC M (.ptr o off) v
 | ept (o gen idx off:Nat) (v:Value):isOne v=true->o<M.objs.length ->
  (∀ sz es g nl,M.objs[o]?=some (.vec sz es g nl)->gen<=g/\(gen=g->nl=false/\v=.pointer (some ⟨M.β o,idx*sz+off,none⟩)))->RepC M (.ept o gen idx off) v
 | vec (o gen off len:Nat) (v:Value):isOne v=true->o<M.objs.length ->
  (∀ sz es g nl,M.objs[o]?=some (.vec sz es g nl)->gen<=g/\(gen=g ->
   (nl=true->off=0/\len=0/\v=.slice none 0 0) /\
   (nl=false->∃ x cap,v=.slice (some ⟨M.β o,x,none⟩) len cap/\len<=cap/\(cap=0\/x=off*sz)/\H3 M.w (M.β o)=(off+cap)*sz))) ->
  RepC M (.vec o gen off len) v
 | fn (f:Fn) (caps:List DC) (vs:Array Value):caps.length=vs.size ->
  (∀ (j:Nat) (c:DC) (v:Value),caps[j]?=some c->vs[j]?=some v->RepC M c v)->RepC M (.fn f caps) (.func f #[] vs)
 | map (o:Nat) (v:Value):isOne v=true->o<M.objs.length->(∀ ks es,M.objs[o]?=some (.map ks es)->v=.map (some (M.β o)))->RepC M (.map o) v
 | yld (o:Nat) (v:Value):isOne v=true->o<M.objs.length->(∀ r,M.objs[o]?=some (.loop r)->v=.func (.yield (M.β o)) #[] #[])->RepC M (.yld o) v
 | itr (o:Nat) (v:Value):isOne v=true->o<M.objs.length->(∀ d,M.objs[o]?=some d->d.isIt=true->v=.pointer (some ⟨M.β o,0,none⟩))->RepC M (.itr o) v
 | dead (v:Value):isOne v=true->RepC M .dead v
inductive RepV (M:MS):DV->Value->Prop
 | one (c:DC) (v:Value):RepC M c v->RepV M (.one c) v
 | agg (l:List DC) (cs:Array Value):l.length=cs.size->(∀ (j:Nat) (c:DC) (v:Value),l[j]?=some c->cs[j]?=some v->RepC M c v)->RepV M (.agg l) (.agg cs)
 | tup (l:List DV) (vs:Array Value):l.length=vs.size->(∀ (j:Nat) (d:DV) (v:Value),l[j]?=some d->vs[j]?=some v->RepV M d v)->RepV M (.tup l) (.tuple vs)
def F3:List DC->DV
 | [c]=>.one c
 | l=>.agg l
def vp (M:MS) (x:List Value×List DC) (e:MapEntry):Prop:=
 e.key=F5 x.1/\(∀ v∈x.1,v7 v=true)/\RepV M (F3 x.2) e.val
def X2 (M:MS) (x:List Value×List IC) (e:MapEntry):Prop:=
 e.key=F5 x.1/\(∀ v∈x.1,v7 v=true)/\RepV M (F3 (x.2.map .im)) e.val
def X0 (ents:Array MapEntry) (seen:Array Nat):List MapEntry:=ents.toList.filter λe=>!seen.contains e.born
def m8:List (Nat×DV)->Nat->Option DV
 | [],_=>none
 | (k,d) :: r,t=>if k=t then some d else m8 r t
def RelO (M:MS) (o:Nat):DObj->Prop
 | .row cells=>∃ c T,M.w.heap[M.β o]?=some (.cells c T (0,0))/\c.size=cells.length/\∀ (j:Nat) (d:DC) (v:Value),cells[j]?=some d->c[j]?=some v->RepC M d v
 | .vec sz es _ nl=>(nl=true->es=[])/\(nl=false->0<sz/\∃ c T,M.w.heap[M.β o]?=some (.cells c T (0,0))/\es.length*sz<=c.size /\
  (∀ (i:Nat) (x:List DC),es[i]?=some x->x.length=sz)/\∀ (i:Nat) (x:List DC) (j:Nat) (d:DC) (v:Value),es[i]?=some x->x[j]?=some d->c[i*sz+j]?=some v->RepC M d v)
 | .map ks es=>∃ ents clock,M.w.heap[M.β o]?=some (.map ents clock)/\StampsK ks ents clock (M.β o)/\(∀ x∈es,h9 (L5 ks) x.1=true)/\ents.size=es.length/\∀ (i:Nat) (x:List Value×List DC) (e:MapEntry),es[i]?=some x->ents[i]?=some e->vp M x e
 | .loop r=>∃ fn tmps D,M.w.heap[M.β o]?=some (.loop { state:=r.st,pending:=r.pend,fn:=fn,tmps:=tmps,params:=r.ps,assign:=r.asg,body:=r.body,defers:=D })/\tmps.size=r.nt /\
  (∀ (t:Nat) (d:DV),m8 r.tm t=some d->∃ v,tmps[t]?=some v/\RepV M d v)
 | .iter left cur=>∃ bm seen ents clock,M.w.heap[M.β o]?=some (.mapIter (some bm) clock seen clock)/\M.ok bm/\M.w.heap[bm]?=some (.map ents clock)/\Stamps ents clock/\(X0 ents seen).length=left.length /\
  (∀ (i:Nat) (x:List Value×List IC) (e:MapEntry),left[i]?=some x->(X0 ents seen)[i]?=some e->X2 M x e)/\(∀ x,cur=some x->∃ e∈ents.toList,seen.back?=some e.born/\X2 M x e)
 | .liter b seen c=>M.w.heap[M.β o]?=some (.mapIter (some b) c seen.toArray c)
 | .gone=>True
abbrev Hn:=Nat->Option (List IC)
structure RelM (G:Hn) (M:MS):Prop where
 objs:∀ o d,M.objs[o]?=some d->RelO M o d
 lt:∀ o d,M.objs[o]?=some d->d.blk=true->M.β o<M.w.heap.size
 inj:∀ o o' d d',M.objs[o]?=some d->M.objs[o']?=some d'->d.blk=true->d'.blk=true->M.β o=M.β o'->o=o'
 glob:∀ g l,G g=some l->RepI M.w M.ok (.ip l) (.pointer (some ⟨g,0,none⟩))
 fl:∀ b,M.F b->b<M.w.heap.size
 own:∀ o d,M.objs[o]?=some d->d.blk=true->¬ M.F (M.β o)
structure SameIo (w w':World):Prop where
 os:w'.os=w.os
 tape:w'.tape=w.tape
 output:w'.output=w.output
 dr:w.drawn<=w'.drawn
theorem SameIo.trans {a b c:World} (h:SameIo a b) (k:SameIo b c):SameIo a c:=⟨k.os.trans h.os,k.tape.trans h.tape,k.output.trans h.output,Nat.le_trans h.dr k.dr⟩
structure Ext (n:Nat) (M M':MS):Prop where
 len:n<=M'.objs.length
 free:∀ b,M.free b->M'.free b/\M'.w.heap[b]?=M.w.heap[b]?
 other:(∀ b,M.F b->M'.F b)/\∀ b,M.ok b->¬ M'.F b
 hs:M.w.heap.size<=M'.w.heap.size
 row:∀ o,o<n->∀ c',M'.objs[o]?=some (.row c')->(∃ c,M.objs[o]?=some (.row c))/\M'.β o=M.β o
 vec:∀ o,o<n->∀ sz es' g nl,M'.objs[o]?=some (.vec sz es' g nl)->∃ sz0 es g0 nl0,M.objs[o]?=some (.vec sz0 es g0 nl0)/\g0<=g /\
  (g0=g->sz0=sz/\nl0=nl/\(nl=false->M'.β o=M.β o/\H3 M'.w (M'.β o)=H3 M.w (M.β o)))
 map:∀ o,o<n->∀ ks es',M'.objs[o]?=some (.map ks es')->(∃ ks es,M.objs[o]?=some (.map ks es))/\M'.β o=M.β o
 lp:∀ o,o<n->∀ r',M'.objs[o]?=some (.loop r')->(∃ r,M.objs[o]?=some (.loop r))/\M'.β o=M.β o
 it:∀ o,o<n->∀ d',M'.objs[o]?=some d'->d'.isIt=true->(∃ d,M.objs[o]?=some d/\d.isIt=true)/\M'.β o=M.β o
 lp':∀ o,o<n->∀ r,M.objs[o]?=some (.loop r)->(∃ r',M'.objs[o]?=some (.loop r'))/\M'.β o=M.β o
 io:SameIo M.w M'.w
theorem gM {w w':World} {b:Nat} (h:w'.heap[b]?=w.heap[b]?) (i:Nat):w'.cell? ⟨b,i,none⟩=w.cell? ⟨b,i,none⟩:=by
 simp only[World.cell?,h]
theorem RepI.mono {w w':World} {ok ok':Nat->Prop} (h:∀ b,ok b->ok' b/\w'.heap[b]?=w.heap[b]?) {c:IC} {v:Value} (r:RepI w ok c v):RepI w' ok' c v:=by
 induction r with
 | raw v hv=>exact .raw v hv
 | slnil=>exact .slnil
 | sl l a cap sz val hs ho hc hl hcell _ ih =>
   refine .sl l a cap sz val hs (λhne=>(h _ (ho hne)).1) hc hl (λi x j c hi hj=>?_) ih;have hne:l≠[]:=by intro e;subst e;simp at hi
   rw[gM (h _ (ho hne)).2];exact hcell i x j c hi hj
 | ip l a val hs ho hcell _ ih =>
   refine .ip l a val hs (h _ ho).1 (λj c hj=>?_) ih;rw[gM (h _ ho).2];exact hcell j c hj
 | fn f caps vs hl _ ih=>exact .fn f caps vs hl ih
 | bf f caps vs hl _ ih=>exact .bf f caps vs hl ih
 | mp ks es b ents clock val hb hh hst hsh hsz hkv _ ih=>exact .mp ks es b ents clock val (h _ hb).1 (by rw[(h _ hb).2];exact hh) hst hsh hsz hkv ih
 | e0 a ha=>exact .e0 a ha
 | slz a cap=>exact .slz a cap
theorem Ext.ok {n:Nat} {M M':MS} (h:Ext n M M') (b:Nat) (hb:M.ok b):M'.ok b/\M'.w.heap[b]?=M.w.heap[b]?:=
 ⟨⟨(h.free b hb.1).1,h.other.2 b hb⟩,(h.free b hb.1).2⟩
theorem cv (M:MS):(∀ b,M.F b->M.F b)/\∀ b,M.ok b->¬ M.F b:=⟨λ_ h=>h,λ_ h=>h.2⟩
theorem Ext.refl (M:MS):Ext M.objs.length M M:=
 ⟨Nat.le_refl _,λ_ hb=>⟨hb,rfl⟩,cv M,Nat.le_refl _,λ_ _ c' h=>⟨⟨c',h⟩,rfl⟩,λ_ _ sz es _ nl h=>⟨sz,es,_,nl,h,Nat.le_refl _,λ_=>⟨rfl,rfl,λ_=>⟨rfl,rfl⟩⟩⟩,λ_ _ ks es h=>⟨⟨ks,es,h⟩,rfl⟩,
  λ_ _ r h=>⟨⟨r,h⟩,rfl⟩,λ_ _ d h hi=>⟨⟨d,h,hi⟩,rfl⟩,λ_ _ r h=>⟨⟨r,h⟩,rfl⟩,⟨rfl,rfl,rfl,by first|exact Nat.le_refl _|exact Nat.le_succ _⟩⟩
theorem Ext.weaken {n m:Nat} {M M':MS} (hn:n<=m) (h:Ext m M M'):Ext n M M':=
 ⟨Nat.le_trans hn h.len,h.free,h.other,h.hs,λo ho=>h.row o (Nat.lt_of_lt_of_le ho hn),λo ho=>h.vec o (Nat.lt_of_lt_of_le ho hn),λo ho=>h.map o (Nat.lt_of_lt_of_le ho hn),λo ho=>h.lp o (Nat.lt_of_lt_of_le ho hn),λo ho=>h.it o (Nat.lt_of_lt_of_le ho hn),λo ho=>h.lp' o (Nat.lt_of_lt_of_le ho hn),h.io⟩
theorem Ext.trans {n:Nat} {M M' M'':MS} (h:Ext n M M') (h':Ext n M' M''):Ext n M M'':=by
 refine⟨h'.len,λb hb=>?_,⟨λb hb=>h'.other.1 b (h.other.1 b hb),λb hb=>h'.other.2 b (h.ok b hb).1⟩,Nat.le_trans h.hs h'.hs,λo ho c' hc=>?_,λo ho sz es' g nl hv=>?_,λo ho ks es' hm=>?_,λo ho r' hm=>?_,λo ho d' hm hi=>?_,λo ho r hm=>?_,h.io.trans h'.io⟩
 ·have h1:=h.free b hb;have h2:=h'.free b h1.1;exact⟨h2.1,h2.2.trans h1.2⟩
 ·obtain⟨⟨c1,h1⟩,e1⟩:=h'.row o ho c' hc;obtain⟨h2,e2⟩:=h.row o ho c1 h1;exact⟨h2,e1.trans e2⟩
 ·obtain⟨sz1,es1,g1,nl1,h1,l1,f1⟩:=h'.vec o ho sz es' g nl hv;obtain⟨sz2,es2,g2,nl2,h2,l2,f2⟩:=h.vec o ho sz1 es1 g1 nl1 h1;refine⟨sz2,es2,g2,nl2,h2,Nat.le_trans l2 l1,λe=>?_⟩;have e1:g1=g:=by omega
  have e2:g2=g1:=by omega
  obtain⟨z1,a1,b1⟩:=f1 e1;obtain⟨z2,a2,b2⟩:=f2 e2;refine⟨z2.trans z1,a2.trans a1,λhnl=>?_⟩;obtain⟨p1,q1⟩:=b1 hnl;obtain⟨p2,q2⟩:=b2 (a1.trans hnl);exact⟨p1.trans p2,q1.trans q2⟩
 ·obtain⟨⟨k1,c1,h1⟩,e1⟩:=h'.map o ho ks es' hm;obtain⟨h2,e2⟩:=h.map o ho k1 c1 h1;exact⟨h2,e1.trans e2⟩
 ·obtain⟨⟨c1,h1⟩,e1⟩:=h'.lp o ho r' hm;obtain⟨h2,e2⟩:=h.lp o ho c1 h1;exact⟨h2,e1.trans e2⟩
 ·obtain⟨⟨d1,h1,i1⟩,e1⟩:=h'.it o ho d' hm hi;obtain⟨h2,e2⟩:=h.it o ho d1 h1 i1;exact⟨h2,e1.trans e2⟩
 ·obtain⟨⟨c1,h1⟩,e1⟩:=h.lp' o ho r hm;obtain⟨h2,e2⟩:=h'.lp' o ho c1 h1;exact⟨h2,e2.trans e1⟩
theorem RepC.ext {M M':MS} (h:Ext M.objs.length M M') {d:DC} {v:Value} (r:RepC M d v):RepC M' d v:=by
 induction r with
 | im c v hi=>exact .im c v (hi.mono h.ok)
 | ptr o off v h1 ho hc =>
   refine .ptr o off v h1 (Nat.lt_of_lt_of_le ho h.len) λc hc'=>?_;obtain⟨⟨c0,h0⟩,e⟩:=h.row o ho c hc';rw[hc c0 h0,e]
 | ept o gen idx off v h1 ho hc =>
   refine .ept o gen idx off v h1 (Nat.lt_of_lt_of_le ho h.len) λsz es g nl hc'=>?_;obtain⟨sz0,es0,g0,nl0,h0,hle,hf⟩:=h.vec o ho sz es g nl hc';obtain⟨hg,hv⟩:=hc sz0 es0 g0 nl0 h0;refine⟨Nat.le_trans hg hle,λe=>?_⟩;subst e;obtain rfl:gen=g0:=Nat.le_antisymm hg hle;obtain⟨rfl,rfl,e2⟩:=hf rfl;obtain⟨rfl,rfl⟩:=hv rfl;exact⟨rfl,by rw[(e2 rfl).1]⟩
 | vec o gen off len v h1 ho hc =>
   refine .vec o gen off len v h1 (Nat.lt_of_lt_of_le ho h.len) λsz es g nl hc'=>?_;obtain⟨sz0,es0,g0,nl0,h0,hle,hf⟩:=h.vec o ho sz es g nl hc';obtain⟨hg,hv⟩:=hc sz0 es0 g0 nl0 h0;refine⟨Nat.le_trans hg hle,λe=>?_⟩;subst e;obtain rfl:gen=g0:=Nat.le_antisymm hg hle;obtain⟨rfl,rfl,e2⟩:=hf rfl;refine⟨(hv rfl).1,λhn=>?_⟩;rw[(e2 hn).2,(e2 hn).1];exact(hv rfl).2 hn
 | fn f caps vs hl _ ih=>exact .fn f caps vs hl ih
 | map o v h1 ho hc =>
   refine .map o v h1 (Nat.lt_of_lt_of_le ho h.len) λks c hc'=>?_;obtain⟨⟨k0,c0,h0⟩,e⟩:=h.map o ho ks c hc';rw[hc k0 c0 h0,e]
 | yld o v h1 ho hc =>
   refine .yld o v h1 (Nat.lt_of_lt_of_le ho h.len) λr hr=>?_;obtain⟨⟨r0,h0⟩,e⟩:=h.lp o ho r hr;rw[hc r0 h0,e]
 | itr o v h1 ho hc =>
   refine .itr o v h1 (Nat.lt_of_lt_of_le ho h.len) λd hr hi=>?_;obtain⟨⟨d0,h0,i0⟩,e⟩:=h.it o ho d hr hi;rw[hc d0 h0 i0,e]
 | dead v h1=>exact .dead v h1
theorem RepV.ext {M M':MS} (h:Ext M.objs.length M M') {d:DV} {v:Value} (r:RepV M d v):RepV M' d v:=by
 induction r with
 | one c v hc=>exact .one c v (hc.ext h)
 | agg l cs hl hc=>exact .agg l cs hl λj c v h1 h2=>(hc j c v h1 h2).ext h
 | tup l vs hl _ ih=>exact .tup l vs hl ih
theorem RepI.isOne {w:World} {ok:Nat->Prop} {c:IC} {v:Value} (r:RepI w ok c v):isOne v=true:=by
 cases r with
 | raw v hv=>cases v<;>first|rfl|simp[v7] at hv
 | _=>rfl
theorem RepC.isOne {M:MS} {d:DC} {v:Value} (r:RepC M d v):isOne v=true:=by
 cases r with
 | im c v h=>exact h.isOne
 | fn=>rfl
 | _=>assumption
structure DS where
 nt:Nat
 tmps:List (Nat×DV)
 objs:List DObj
def mark (D:Nat):Deferred:={ target:=.collected D,args:=#[] }
structure Rel (G:Hn) (S:DS) (a:Act) (M:MS):Prop where
 m:RelM G M
 ob:M.objs=S.objs
 nt:a.tmps.size=S.nt
 df:∃ ds:List Nat,a.defers=ds.map mark/\ds.Nodup/\∀ D∈ds,M.F D/\M.w.heap[D]?=some (.deferred (some []))
 tm:∀ t d,m8 S.tmps t=some d->∃ v,a.tmps[t]?=some v/\RepV M d v
structure Cx where
 n:Nat
 rd:Option Nat
def RdOk (n:Cx) (S:DS):Prop:=∀ o,n.rd=some o->o<n.n/\∃ r,S.objs[o]?=some (.loop r)
def u9 (ro:Option Nat):Fence:={ Fence.wide with round:=ro }
def Cx.fence (n:Cx) (M:MS):Fence:=u9 (n.rd.map M.β)
def NewD (M:MS) (a a':Act):Prop:=∀ d∈a'.defers,d∈a.defers\/∃ D,d=mark D/\M.w.heap.size<=D
def DT (P:Program) (G:Hn) (n:Cx) (c:Code) (S:DS) (Q:Exit->DS->Prop):Prop:=
 n.n<=S.objs.length->RdOk n S->∀ a M,Rel G S a M->c.wpIn (n.fence M) 0 P (λe a' w'=>∃ S' M',M'.w=w'/\Rel G S' a' M'/\Ext n.n M M'/\NewD M a a'/\Q e S') a M.w
section
variable {P:Program} {G:Hn} {n:Cx} {S:DS} {Q:Exit->DS->Prop}
theorem Rel.ext_refl {n:Nat} {a:Act} {M:MS} (h:Rel G S a M) (hn:n<=S.objs.length):Ext n M M:=
 (Ext.refl M).weaken (by rw[h.ob];exact hn)
theorem NewD.refl (M:MS) (a:Act):NewD M a a:=λ_ h=>.inl h
theorem NewD.same {M:MS} {a a':Act} (h:a'.defers=a.defers):NewD M a a':=λ_ hd=>.inl (h ▸ hd)
theorem NewD.trans {M M':MS} {a a' a'':Act} (hs:M.w.heap.size<=M'.w.heap.size) (h:NewD M a a') (h':NewD M' a' a''):NewD M a a'':=λd hd=>by
 rcases h' d hd with h1|⟨D,h1,h2⟩
 ·exact h d h1
 ·exact .inr ⟨D,h1,Nat.le_trans hs h2⟩
theorem RdOk.ext {S':DS} {M M':MS} (h:RdOk n S) (ho:M.objs=S.objs) (ho':M'.objs=S'.objs) (he:Ext n.n M M'):RdOk n S':=λo hr=>by
 obtain⟨h1,r,h2⟩:=h o hr;obtain⟨⟨r',h3⟩,_⟩:=he.lp' o h1 r (by rw[ho];exact h2);exact⟨h1,r',by rw[<- ho'];exact h3⟩
theorem dU {M M':MS} (h:RdOk n S) (ho:M.objs=S.objs) (he:Ext n.n M M'):n.fence M'=n.fence M:=by
 unfold Cx.fence;cases hr:n.rd with
 | none=>rfl
 | some o =>
   obtain⟨h1,r,h2⟩:=h o hr;obtain⟨_,h3⟩:=he.lp' o h1 r (by rw[ho];exact h2);simp[h3]
theorem DT.mono {c:Code} {Q':Exit->DS->Prop} (h:DT P G n c S Q) (hq:∀ e S,Q e S->Q' e S):DT P G n c S Q':=
 λhn hd a M hr=>wpIn_mono (h hn hd a M hr) λ_ _ _ ⟨S',M',hw,hr',he,hm,q⟩=>⟨S',M',hw,hr',he,hm,hq _ _ q⟩
structure Tok.{u} {α:Sort u} (a:α):Type where
 mk ::
def At (Q:Exit->DS->Prop) (e:Exit) (_t:Tok Q) (S:DS):Prop:=Q e S
theorem tl (h:At Q .normal ⟨⟩ S):DT P G n .skip S Q:=
 λhn _ a M hr=>wpIn_skip ⟨S,M,rfl,hr,hr.ext_refl hn,.refl M a,h⟩
theorem pZ {l:Nat} (h:At Q .normal ⟨⟩ S):DT P G n (.label l) S Q:=
 λhn _ a M hr=>wpIn_label ⟨S,M,rfl,hr,hr.ext_refl hn,.refl M a,h⟩
theorem yX (h:At Q .ret ⟨⟩ S):DT P G n .ret S Q:=
 λhn _ a M hr=>wpIn_ret ⟨S,M,rfl,hr,hr.ext_refl hn,.refl M a,h⟩
theorem tn {id:Nat} (h:At Q (.exit id) ⟨⟩ S):DT P G n (.exit id) S Q:=
 λhn _ a M hr=>wpIn_exit ⟨S,M,rfl,hr,hr.ext_refl hn,.refl M a,h⟩
def W8 (next:DS->Prop) (Q:Exit->DS->Prop):Exit->DS->Prop
 | .normal,S=>next S
 | e,S=>Q e S
theorem yW {x y:Code} (h:DT P G n x S (W8 (λS'=>DT P G n y S' Q) Q)):DT P G n (.seq x y) S Q:=by
 intro hn hd a M hr;refine wpIn_seq (wpIn_mono (h hn hd a M hr) ?_);rintro e a' w' ⟨S',M',hw,hr',he,hm,q⟩;cases e with
 | normal =>
   simp only[W8] at q;simp only[Exit.then];subst hw;have hd':=hd.ext hr.ob hr'.ob he;rw[<- dU hd hr.ob he];refine wpIn_mono (q (by rw[<- hr'.ob];exact he.len) hd' a' M' hr') ?_;rintro e2 a2 w2 ⟨S2,M2,hw2,hr2,he2,hm2,q2⟩;exact⟨S2,M2,hw2,hr2,he.trans he2,hm.trans he.hs hm2,q2⟩
 | _=>exact⟨S',M',hw,hr',he,hm,q⟩
theorem At.seq {y:Code} (h:DT P G n y S Q):At (W8 (λS'=>DT P G n y S' Q) Q) .normal ⟨⟩ S:=h
theorem At.then_ret {next:DS->Prop} (h:At Q .ret ⟨⟩ S):At (W8 next Q) .ret ⟨⟩ S:=h
theorem At.then_exit {next:DS->Prop} {id:Nat} (h:At Q (.exit id) ⟨⟩ S):At (W8 next Q) (.exit id) ⟨⟩ S:=h
def j5 (G:Hn) (S:DS):Operand->Option DV
 | .tmp t=>m8 S.tmps t
 | .const (.slice none 0 0)=>some (.one (.im (.sl [])))
 | .const v=>if v7 v then some (.one (.im (.raw v))) else match v with
   | .agg cs=>if cs.toList.all v7 then some (.agg (cs.toList.map λv=>.im (.raw v))) else none
   | _=>none
 | .global g=>(G g).map λl=>.one (.im (.ip l))
 | .func f=>some (.one (.im (.fn (.func f) [])))
theorem Act.eval_tmp {a:Act} {t:Nat} {v:Value} (h:a.tmps[t]?=some v):a.eval (.tmp t)=v:=by
 simp[Act.eval,Array.getD_eq_getD_getElem?,h]
theorem i9 {a:Act} {M:MS} (hr:Rel G S a M) {x:Operand} {d:DV} (h:j5 G S x=some d):RepV M d (a.eval x):=by
 unfold j5 at h;split at h
 ·obtain⟨v,h1,h2⟩:=hr.tm _ d h;rw[Act.eval_tmp h1];exact h2
 ·cases h;exact .one _ _ (.im _ _ .slnil)
 ·split at h
  ·rename_i hp;cases h;exact .one _ _ (.im _ _ (.raw _ hp))
  ·split at h
   ·rename_i cs _;split at h
    ·rename_i hall;cases h;refine .agg _ _ (by simp) λj c v h1 h2=>?_;rw[<- Array.getElem?_toList] at h2;simp only[List.getElem?_map,h2,Option.map_some,Option.some.injEq] at h1;subst h1;exact .im _ _ (.raw _ (by
      have:=List.all_eq_true.1 hall v (List.mem_of_getElem? h2);exact this))
    ·cases h
   ·cases h
 ·simp only[Option.map_eq_some_iff] at h;obtain⟨l,hl,rfl⟩:=h;exact .one _ _ (.im _ _ (hr.m.glob _ l hl))
 ·cases h;exact .one _ _ (.im _ _ (.fn _ _ _ (by simp) (λj c v h=>by simp at h)))
theorem N9 {c:Operand} {x y:Code} {b:Bool} (hc:j5 G S c=some (.one (.im (.raw (.bool b)))))
 (ht:b=true->DT P G n x S Q) (hf:b=false->DT P G n y S Q):DT P G n (.cond c x y) S Q:=by
 intro hn hd a M hr;have h:=i9 hr hc;have hv:a.eval c=.bool b:=by
  generalize a.eval c=v at h;cases h with
  | one _ _ h=>cases h with
    | im _ _ h=>cases h;rfl
 exact wpIn_cond_split hv (λh=>ht h hn hd a M hr) (λh=>hf h hn hd a M hr)
def W7 (id:Nat) (Q:Exit->DS->Prop):Exit->DS->Prop
 | .exit id',S=>if id'=id then Q .normal S else Q (.exit id') S
 | e,S=>Q e S
theorem qa {id:Nat} {c:Code} (h:DT P G n c S (W7 id Q)):DT P G n (.block id c) S Q:=by
 intro hn hd a M hr;refine wpIn_block (wpIn_mono (h hn hd a M hr) ?_);rintro e a' w' ⟨S',M',hw,hr',he,hm,q⟩;cases e with
 | exit id' =>
   simp only[Exit.inBlock];simp only[W7] at q;split
   ·rename_i hid;simp only[hid,if_true] at q;exact⟨S',M',hw,hr',he,hm,q⟩
   ·rename_i hid;simp only[hid,if_false] at q;exact⟨S',M',hw,hr',he,hm,q⟩
 | _=>exact⟨S',M',hw,hr',he,hm,q⟩
theorem At.block_end {id:Nat} (h:At Q .normal ⟨⟩ S):At (W7 id Q) .normal ⟨⟩ S:=h
theorem At.block_ret {id:Nat} (h:At Q .ret ⟨⟩ S):At (W7 id Q) .ret ⟨⟩ S:=h
theorem At.block_exit {id:Nat} (h:At Q .normal ⟨⟩ S):At (W7 id Q) (.exit id) ⟨⟩ S:=by simpa[At,W7] using h
theorem At.block_out {id id':Nat} (hne:id'≠id) (h:At Q (.exit id') ⟨⟩ S):At (W7 id Q) (.exit id') ⟨⟩ S:=by simpa[At,W7,hne] using h
def Weak (G:Hn) (n:Cx) (S S':DS):Prop:=
 n.n<=S.objs.length->∀ a M,Rel G S a M->∃ M',M'.w=M.w/\Rel G S' a M'/\Ext n.n M M'
theorem Weak.refl:Weak G n S S:=λhn _ M hr=>⟨M,rfl,hr,hr.ext_refl hn⟩
theorem Weak.trans {S' S'':DS} (h:Weak G n S S') (h':Weak G n S' S''):Weak G n S S'':=by
 intro hn a M hr;obtain⟨M1,w1,r1,e1⟩:=h hn a M hr;obtain⟨M2,w2,r2,e2⟩:=h' (by rw[<- r1.ob];exact e1.len) a M1 r1;exact⟨M2,w2.trans w1,r2,e1.trans e2⟩
theorem Weak.tmps {l:List (Nat×DV)} (h:∀ t d,m8 l t=some d->m8 S.tmps t=some d):Weak G n S { S with tmps:=l }:=
 λhn _ M hr=>⟨M,rfl,⟨hr.m,hr.ob,hr.nt,hr.df,λt d ht=>hr.tm t d (h t d ht)⟩,hr.ext_refl hn⟩
theorem oc {c:Code} {S':DS} (hw:Weak G n S S') (h:DT P G n c S' Q):DT P G n c S Q:=by
 intro hn hd a M hr;obtain⟨M',w',r',e'⟩:=hw hn a M hr;have hd':=hd.ext hr.ob r'.ob e';rw[<- w',<- dU hd hr.ob e'];refine wpIn_mono (h (by rw[<- r'.ob];exact e'.len) hd' a M' r') ?_;rintro e a2 w2 ⟨S2,M2,hw2,hr2,he2,hm2,q2⟩;exact⟨S2,M2,hw2,hr2,e'.trans he2,(NewD.refl M a).trans e'.hs hm2,q2⟩
def yN {ι:Type} (G:Hn) (n:Cx) (I:ι->DS) (m:ι->Nat) (i:ι) (S':DS):Prop:=∃ j,m j<m i/\Weak G n S' (I j)
theorem At.round {ι:Type} {I:ι->DS} {m:ι->Nat} {i:ι} (j:ι) (h1:m j<m i) (h2:Weak G n S (I j)):At (W8 (λS'=>yN G n I m i S') Q) .normal ⟨⟩ S:=⟨j,h1,h2⟩
theorem jl {F:Fence} {k:Nat} {Q:Exit->Act->World->Prop} {a:Act} {w:World} {c:Code} (I:Nat->Act->World->Prop) (n₀:Nat) (h₀:I n₀ a w)
 (round:∀ n a w,I n a w->c.wpIn F k P (Exit.then (λa' w'=>∃ n',n'<n/\I n' a' w') Q) a w):(Code.loop c).wpIn F k P Q a w:=by
 refine wpIn_loop (λa w=>∃ n,I n a w) (λa w=>leastOf (λn=>I n a w)) ⟨n₀,h₀⟩ ?_;intro a w hI;refine wpIn_mono (round _ a w (leastOf_spec hI).1) ?_;intro e a' w' hq;cases e with
 | normal =>
   obtain⟨n',hlt,hI'⟩:=hq;exact show (∃ n,I n a' w')/\leastOf (λn=>I n a' w')<leastOf (λn=>I n a w) from ⟨⟨n',hI'⟩,Nat.lt_of_le_of_lt ((leastOf_spec ⟨n',hI'⟩).2 n' hI') hlt⟩
 | exit id=>exact hq
 | goto l=>exact hq
 | ret=>exact hq
 | panic ch=>exact hq
 | outgrown=>exact hq
theorem g9 {ι:Type} (I:ι->DS) (m:ι->Nat) (i0:ι) {c:Code} (h0:Weak G n S (I i0))
 (h:∀ i,DT P G n c (I i) (W8 (λS'=>yN G n I m i S') Q)):DT P G n (.loop c) S Q:=by
 refine oc h0 ?_;intro hn hd a M hr;refine jl (λk a' w'=>∃ i M',m i=k/\M'.w=w'/\Rel G (I i) a' M'/\Ext n.n M M'/\NewD M a a') (m i0) ⟨i0,M,rfl,rfl,hr,hr.ext_refl hn,.refl M a⟩ ?_;rintro k a' w' ⟨i,M',hm,rfl,hr',he,hnd⟩;have hd':=hd.ext hr.ob hr'.ob he;rw[<- dU hd hr.ob he];refine wpIn_mono (h i (by rw[<- hr'.ob];exact he.len) hd' a' M' hr') ?_;rintro e a2 w2 ⟨S2,M2,hw2,hr2,he2,hnd2,q2⟩;cases e with
 | normal =>
   obtain⟨j,hj,hw⟩:=q2;obtain⟨M3,w3,r3,e3⟩:=hw (by rw[<- hr2.ob];exact he2.len) a2 M2 hr2;exact⟨m j,hm ▸ hj,j,M3,rfl,w3.trans hw2,r3,(he.trans he2).trans e3,hnd.trans he.hs hnd2⟩
 | _=>exact⟨S2,M2,hw2,hr2,he.trans he2,hnd.trans he.hs hnd2,q2⟩
end
theorem RelM.F_free {G:Hn} {M:MS} (h:RelM G M) {b:Nat} (hb:M.F b):M.free b:=
 ⟨h.fl b hb,λ⟨o,d,h1,h2,h3⟩=>h.own o d h1 h2 (h3 ▸ hb)⟩
theorem W5 {G:Hn} {M M':MS} {n:Nat} (hm:RelM G M) (he:Ext n M M') {a:Act} (h:∃ ds:List Nat,a.defers=ds.map mark/\ds.Nodup/\∀ D∈ds,M.F D/\M.w.heap[D]?=some (.deferred (some []))) :
 ∃ ds:List Nat,a.defers=ds.map mark/\ds.Nodup/\∀ D∈ds,M'.F D/\M'.w.heap[D]?=some (.deferred (some [])):=by
 obtain⟨ds,h1,h2,h3⟩:=h;refine⟨ds,h1,h2,λD hD=>⟨he.other.1 D (h3 D hD).1,?_⟩⟩;rw[(he.free D (hm.F_free (h3 D hD).1)).2];exact(h3 D hD).2
def E0:List Nat->World->World
 | [],w=>w
 | D :: r,w=>E0 r (w.putObj D (.deferred none))
theorem oG (w:World) (D:Nat) (o:Obj):(w.putObj D o).heap.size=w.heap.size:=by simp[World.putObj]
theorem fU (w:World) {D b:Nat} (o:Obj) (h:b≠D):(w.putObj D o).heap[b]?=w.heap[b]?:=World.putObj_heap_other h
theorem bG:∀ (ds:List Nat) (w:World),(E0 ds w).heap.size=w.heap.size/\∀ b,b∉ds->(E0 ds w).heap[b]?=w.heap[b]?
 | [],w=>⟨rfl,λ_ _=>rfl⟩
 | D :: r,w=>by
   obtain⟨h1,h2⟩:=bG r (w.putObj D (.deferred none));refine⟨h1.trans (oG _ _ _),λb hb=>?_⟩;simp only[List.mem_cons,not_or] at hb;exact(h2 b hb.2).trans (fU _ _ hb.1)
theorem sR {P:Program} {F:Fence} {n:Nat} {fn:Func} {tmps:Array Value} {R:Ending->World->Prop}:∀ (ds:List Nat) (w:World),ds.Nodup->(∀ D∈ds,w.heap[D]?=some (.deferred (some []))) ->
 (∃ v,(results fn tmps).run P (E0 ds w)=.ok v (E0 ds w)/\R (.returned v) (E0 ds w))->LeavesInM F n P fn tmps R (ds.map mark) .returning w
 | [],w,_,_,h=>h
 | D :: r,w,hn,hd,h=>by
   simp only[List.nodup_cons] at hn;refine⟨by simp,.inl ⟨D,_,rfl,run_takeDeferred (hd D (by simp)),?_⟩⟩;refine sR r _ hn.2 (λD' hD'=>?_) h;have hne:D'≠D:=λe=>hn.1 (by rw[<- e];exact hD');rw[fU _ _ hne];exact hd D' (by simp[hD'])
theorem RepC.shut {G:Hn} {M:MS} (h:RelM G M) {ds:List Nat} (hds:∀ D∈ds,M.F D) {d:DC} {v:Value} (r:RepC M d v):RepC { M with w:=E0 ds M.w } d v:=by
 obtain⟨h1,h2⟩:=bG ds M.w;have hb:∀ b,¬ M.F b->(E0 ds M.w).heap[b]?=M.w.heap[b]?:=λb hb=>h2 b λhD=>hb (hds b hD);have hI:∀ {c:IC} {v:Value},RepI M.w M.ok c v->RepI (E0 ds M.w) (MS.ok { M with w:=E0 ds M.w }) c v:=λr=>r.mono λb hb' =>
  ⟨⟨⟨by simpa[h1] using hb'.1.1,hb'.1.2⟩,hb'.2⟩,hb b hb'.2⟩
 have hbs:∀ b,¬ M.F b->H3 (E0 ds M.w) b=H3 M.w b:=λb hb'=>by simp only[H3,hb b hb']
 induction r with
 | im c v hi=>exact .im c v (hI hi)
 | ptr o off v h1 ho hc=>exact .ptr o off v h1 ho hc
 | ept o gen idx off v h1 ho hc=>exact .ept o gen idx off v h1 ho hc
 | vec o gen off len v h1 ho hc =>
   refine .vec o gen off len v h1 ho λsz es g nl hc'=>?_;obtain⟨a1,a2⟩:=hc sz es g nl hc';refine⟨a1,λe=>⟨(a2 e).1,λhn=>?_⟩⟩;have:=(a2 e).2 hn;simp only;rw[hbs _ (h.own o _ hc' (by simp[DObj.blk,hn]))];exact this
 | fn f caps vs hl _ ih=>exact .fn f caps vs hl ih
 | map o v h1 ho hc=>exact .map o v h1 ho hc
 | yld o v h1 ho hc=>exact .yld o v h1 ho hc
 | itr o v h1 ho hc=>exact .itr o v h1 ho hc
 | dead v h1=>exact .dead v h1
theorem RepV.shut {G:Hn} {M:MS} (h:RelM G M) {ds:List Nat} (hds:∀ D∈ds,M.F D) {d:DV} {v:Value} (r:RepV M d v):RepV { M with w:=E0 ds M.w } d v:=by
 induction r with
 | one c v hc=>exact .one c v (hc.shut h hds)
 | agg l cs hl hc=>exact .agg l cs hl λj c v a1 a2=>(hc j c v a1 a2).shut h hds
 | tup l vs hl _ ih=>exact .tup l vs hl ih
theorem RelM.shut {G:Hn} {M:MS} (h:RelM G M) {ds:List Nat} (hds:∀ D∈ds,M.F D):RelM G { M with w:=E0 ds M.w }/\(∀ b,¬ M.F b->(E0 ds M.w).heap[b]?=M.w.heap[b]?)/\(E0 ds M.w).heap.size=M.w.heap.size:=by
 obtain⟨h1,h2⟩:=bG ds M.w;have hb:∀ b,¬ M.F b->(E0 ds M.w).heap[b]?=M.w.heap[b]?:=λb hb=>h2 b λhD=>hb (hds b hD);refine⟨?_,hb,h1⟩;have hI:∀ {c:IC} {v:Value},RepI M.w M.ok c v->RepI (E0 ds M.w) (MS.ok { M with w:=E0 ds M.w }) c v:=λr=>r.mono λb hb' =>
  ⟨⟨⟨by simpa[h1] using hb'.1.1,hb'.1.2⟩,hb'.2⟩,hb b hb'.2⟩
 have hC:∀ {d:DC} {v:Value},RepC M d v->RepC { M with w:=E0 ds M.w } d v:=λr=>r.shut h hds;have hV:∀ {d:DV} {v:Value},RepV M d v->RepV { M with w:=E0 ds M.w } d v:=λr=>r.shut h hds;refine⟨λo d ho=>?_,λo d ho hb=>by simpa[h1] using h.lt o d ho hb,h.inj,λg l hg=>hI (h.glob g l hg),λb hF=>by simpa[h1] using h.fl b hF,h.own⟩;have hr:=h.objs o d ho;have hh:d.blk=true->(E0 ds M.w).heap[M.β o]?=M.w.heap[M.β o]?:=λhk=>hb _ (h.own o d ho hk);cases d with
 | row cells =>
   obtain⟨c,T,a1,a2,a3⟩:=hr;exact⟨c,T,by rw[<- a1];exact hh rfl,a2,λj d v hd hv=>hC (a3 j d v hd hv)⟩
 | vec sz es g nl =>
   obtain⟨hn,hf⟩:=hr;refine⟨hn,λhnl=>?_⟩;obtain⟨h0,c,T,a1,a2,a3,a4⟩:=hf hnl;exact⟨h0,c,T,by rw[<- a1];exact hh (by simp[DObj.blk,hnl]),a2,a3,λi x j d v hx hd hv=>hC (a4 i x j d v hx hd hv)⟩
 | map ks es =>
   obtain⟨ents,clock,a1,ast,ash,a2,a3⟩:=hr;refine⟨ents,clock,by rw[<- a1];exact hh rfl,ast,ash,a2,λi x e hx he=>?_⟩;obtain⟨b1,b2,b3⟩:=a3 i x e hx he;exact⟨b1,b2,hV b3⟩
 | loop lr =>
   obtain⟨fn,tmps,D,a1,a2,a3⟩:=hr;refine⟨fn,tmps,D,by rw[<- a1];exact hh rfl,a2,λt d ht=>?_⟩;obtain⟨v,e1,e2⟩:=a3 t d ht;exact⟨v,e1,hV e2⟩
 | iter left cur =>
   obtain⟨bm,seen,ents,clock,a1,a2,a3,a4,a5,a6,a7⟩:=hr;have hE:∀ {x:List Value×List IC} {e:MapEntry},X2 M x e->X2 { M with w:=E0 ds M.w } x e:=λ⟨b1,b2,b3⟩=>⟨b1,b2,hV b3⟩
   exact⟨bm,seen,ents,clock,by rw[<- a1];exact hh rfl,⟨⟨by simpa[h1] using a2.1.1,a2.1.2⟩,a2.2⟩,by rw[<- a3];exact hb bm a2.2,a4,a5,λi x e a b=>hE (a6 i x e a b),λx hx=>by
    obtain⟨e,a,b,c⟩:=a7 x hx;exact⟨e,a,b,hE c⟩⟩
 | liter b seen c=>exact(hh rfl).trans hr
 | gone=>trivial
def MS.push (M:MS) (x:Obj) (d:DObj):MS:=
 { w:=M.w.alloc x,β:=λo=>if o=M.objs.length then M.w.heap.size else M.β o,objs:=M.objs++[d],F:=M.F }
def MS.idle (M:MS) (d:DObj):MS:={ M with objs:=M.objs++[d] }
theorem j6 {α:Type} {l:List α} {x y:α} {o:Nat} (h:(l++[x])[o]?=some y):(o<l.length/\l[o]?=some y)\/(o=l.length/\y=x):=by
 rcases Nat.lt_trichotomy o l.length with h1|h1|h1
 ·rw[List.getElem?_append_left h1] at h;exact .inl ⟨h1,h⟩
 ·subst h1;simp at h;exact .inr ⟨rfl,h.symm⟩
 ·rw[List.getElem?_append_right (by omega)] at h;have:o-l.length≠0:=by omega
  rw[List.getElem?_singleton,if_neg this] at h;cases h
theorem e7 {α:Type} {l:List α} {x:α} {o:Nat} (h:l[o]?=some x):o<l.length:=(List.getElem?_eq_some_iff.1 h).1
theorem al {w:World} {x:Obj}:(w.alloc x).heap.size=w.heap.size+1:=by
 unfold World.alloc;exact Array.size_push ..
theorem bY {w:World} {x:Obj} {b:Nat} (h:b<w.heap.size):(w.alloc x).heap[b]?=w.heap[b]?:=by
 unfold World.alloc;simp only[Array.getElem?_push,Nat.ne_of_lt h,if_false]
theorem tU {M:MS} {x:Obj} {d:DObj} {b:Nat} (h:M.free b):(M.push x d).free b/\(M.push x d).w.heap[b]?=M.w.heap[b]?:=by
 refine⟨⟨by rw[show (M.push x d).w.heap.size=_ from al];have:=h.1;omega,?_⟩,bY h.1⟩;rintro⟨o,d',ho,hb,he⟩;rcases j6 ho with⟨h1,h2⟩|⟨rfl,rfl⟩
 ·exact h.2 ⟨o,d',h2,hb,by simpa[MS.push,Nat.ne_of_lt h1] using he⟩
 ·simp[MS.push] at he;have:=h.1;omega
theorem Ext.push {M:MS} (x:Obj) (d:DObj) (hlt:∀ o d,M.objs[o]?=some d->d.blk=true->M.β o<M.w.heap.size):Ext M.objs.length M (M.push x d):=by
 refine⟨by simp[MS.push],λb hb=>tU hb,cv M,by rw[show (M.push x d).w.heap.size=_ from al];omega,λo ho c' hc=>?_,λo ho sz es' g nl hv=>?_,λo ho ks es' hm=>?_,λo ho r' hm=>?_,λo ho l' hm hi=>?_,λo ho r hm=>?_,⟨rfl,rfl,rfl,by first|exact Nat.le_refl _|exact Nat.le_succ _⟩⟩
 ·rcases j6 hc with⟨h1,h2⟩|⟨h1,_⟩
  ·exact⟨⟨c',h2⟩,by simp[MS.push,Nat.ne_of_lt h1]⟩
  ·omega
 ·rcases j6 hv with⟨h1,h2⟩|⟨h1,_⟩
  ·refine⟨sz,es',g,nl,h2,Nat.le_refl _,λ_=>⟨rfl,rfl,λhn=>?_⟩⟩;have hβ:(M.push x d).β o=M.β o:=by simp[MS.push,Nat.ne_of_lt h1]
   refine⟨hβ,?_⟩;rw[hβ];simp only[H3];rw[show (M.push x d).w.heap[M.β o]?=M.w.heap[M.β o]? from bY (hlt o _ h2 (by simp[DObj.blk,hn]))]
  ·omega
 ·rcases j6 hm with⟨h1,h2⟩|⟨h1,_⟩
  ·exact⟨⟨_,es',h2⟩,by simp[MS.push,Nat.ne_of_lt h1]⟩
  ·omega
 ·rcases j6 hm with⟨h1,h2⟩|⟨h1,_⟩
  ·exact⟨⟨r',h2⟩,by simp[MS.push,Nat.ne_of_lt h1]⟩
  ·omega
 ·rcases j6 hm with⟨h1,h2⟩|⟨h1,_⟩
  ·exact⟨⟨l',h2,hi⟩,by simp[MS.push,Nat.ne_of_lt h1]⟩
  ·omega
 ·exact⟨⟨r,by simp[MS.push,List.getElem?_append_left ho,hm]⟩,by simp[MS.push,Nat.ne_of_lt ho]⟩
theorem ux {M:MS} {d:DObj} (hd:d.blk=false) {b:Nat} (h:M.free b):(M.idle d).free b/\(M.idle d).w.heap[b]?=M.w.heap[b]?:=by
 refine⟨⟨h.1,?_⟩,rfl⟩;rintro⟨o,d',ho,hb,he⟩;rcases j6 ho with⟨h1,h2⟩|⟨rfl,rfl⟩
 ·exact h.2 ⟨o,d',h2,hb,he⟩
 ·rw[hd] at hb;cases hb
theorem Ext.idle {M:MS} {d:DObj} (hd:d.blk=false):Ext M.objs.length M (M.idle d):=by
 refine⟨by simp[MS.idle],λb hb=>ux hd hb,cv M,Nat.le_refl _,λo ho c' hc=>?_,λo ho sz es' g nl hv=>?_,λo ho ks es' hm=>?_,λo ho r' hm=>?_,λo ho l' hm hi=>?_,λo ho r hm=>?_,⟨rfl,rfl,rfl,by first|exact Nat.le_refl _|exact Nat.le_succ _⟩⟩
 ·rcases j6 hc with⟨h1,h2⟩|⟨h1,_⟩
  ·exact⟨⟨c',h2⟩,rfl⟩
  ·omega
 ·rcases j6 hv with⟨h1,h2⟩|⟨h1,_⟩
  ·exact⟨sz,es',g,nl,h2,Nat.le_refl _,λ_=>⟨rfl,rfl,λhn=>⟨rfl,rfl⟩⟩⟩
  ·omega
 ·rcases j6 hm with⟨h1,h2⟩|⟨h1,_⟩
  ·exact⟨⟨_,es',h2⟩,rfl⟩
  ·omega
 ·rcases j6 hm with⟨h1,h2⟩|⟨h1,_⟩
  ·exact⟨⟨r',h2⟩,rfl⟩
  ·omega
 ·rcases j6 hm with⟨h1,h2⟩|⟨h1,_⟩
  ·exact⟨⟨l',h2,hi⟩,rfl⟩
  ·omega
 ·exact⟨⟨r,by simp[MS.idle,List.getElem?_append_left ho,hm]⟩,rfl⟩
theorem RelO.ext {M M':MS} (h:Ext M.objs.length M M') {o:Nat} {d:DObj} (hβ:d.blk=true->M'.β o=M.β o)
 (hh:d.blk=true->M'.w.heap[M.β o]?=M.w.heap[M.β o]?) (r:RelO M o d):RelO M' o d:=by
 cases d with
 | row cells =>
   obtain⟨c,T,h1,h2,h3⟩:=r;exact⟨c,T,by rw[hβ rfl,hh rfl];exact h1,h2,λj d v hd hv=>(h3 j d v hd hv).ext h⟩
 | vec sz es g nl =>
   obtain⟨hn,hf⟩:=r;refine⟨hn,λhnl=>?_⟩;obtain⟨h0,c,T,h1,h2,h3,h4⟩:=hf hnl;exact⟨h0,c,T,by rw[hβ (by simp[DObj.blk,hnl]),hh (by simp[DObj.blk,hnl])];exact h1,h2,h3,λi x j d v hx hd hv=>(h4 i x j d v hx hd hv).ext h⟩
 | map ks es =>
   obtain⟨ents,clock,h1,hst,hsh,h2,h3⟩:=r;refine⟨ents,clock,by rw[hβ rfl,hh rfl];exact h1,by rw[hβ rfl];exact hst,hsh,h2,λi x e hx he=>?_⟩;obtain⟨a1,a2,a3⟩:=h3 i x e hx he;exact⟨a1,a2,a3.ext h⟩
 | loop lr =>
   obtain⟨fn,tmps,D,h1,h2,h3⟩:=r;refine⟨fn,tmps,D,by rw[hβ rfl,hh rfl];exact h1,h2,λt d ht=>?_⟩;obtain⟨v,e1,e2⟩:=h3 t d ht;exact⟨v,e1,e2.ext h⟩
 | iter left cur =>
   obtain⟨bm,seen,ents,clock,h1,h2,h3,h4,h5,h6,h7⟩:=r;have hE:∀ {x:List Value×List IC} {e:MapEntry},X2 M x e->X2 M' x e:=λ⟨b1,b2,b3⟩=>⟨b1,b2,b3.ext h⟩
   exact⟨bm,seen,ents,clock,by rw[hβ rfl,hh rfl];exact h1,(h.ok bm h2).1,by rw[(h.ok bm h2).2];exact h3,h4,h5,λi x e a b=>hE (h6 i x e a b),λx hx=>by
    obtain⟨e,a,b,c⟩:=h7 x hx;exact⟨e,a,b,hE c⟩⟩
 | liter b seen c=>show M'.w.heap[M'.β o]?=_;rw[hβ rfl,hh rfl];exact r
 | gone=>trivial
theorem RelM.push {G:Hn} {M:MS} {x:Obj} {d:DObj} (h:RelM G M) (hd:d.blk=true) (hn:RelO (M.push x d) M.objs.length d):RelM G (M.push x d):=by
 have he:=Ext.push (M:=M) x d h.lt;refine⟨λo d' ho=>?_,λo d' ho hb=>?_,λo o' d1 d2 ho ho' hb hb' hβ=>?_,λg l hg=>(h.glob g l hg).mono he.ok,λb hb=>?_,λo d' ho hb=>?_⟩
 ·rcases j6 ho with⟨h1,h2⟩|⟨rfl,rfl⟩
  ·exact(h.objs o d' h2).ext he (λ_=>by simp[MS.push,Nat.ne_of_lt h1]) (λhb=>bY (h.lt o d' h2 hb))
  ·exact hn
 ·rcases j6 ho with⟨h1,h2⟩|⟨rfl,rfl⟩
  ·have:=h.lt o d' h2 hb;rw[show (M.push x d).w.heap.size=_ from al];simp[MS.push,Nat.ne_of_lt h1];omega
  ·rw[show (M.push x d').w.heap.size=_ from al];simp[MS.push]
 ·rcases j6 ho with⟨h1,h2⟩|⟨rfl,rfl⟩
  ·rcases j6 ho' with⟨h3,h4⟩|⟨rfl,rfl⟩
   ·simp[MS.push,Nat.ne_of_lt h1,Nat.ne_of_lt h3] at hβ;exact h.inj o o' d1 d2 h2 h4 hb hb' hβ
   ·simp[MS.push,Nat.ne_of_lt h1] at hβ;have:=h.lt o d1 h2 hb;omega
  ·rcases j6 ho' with⟨h3,h4⟩|⟨rfl,rfl⟩
   ·simp[MS.push,Nat.ne_of_lt h3] at hβ;have:=h.lt o' d2 h4 hb';omega
   ·rfl
 ·rw[show (M.push x d).w.heap.size=_ from al];have:=h.fl b hb;omega
 ·rcases j6 ho with⟨h1,h2⟩|⟨rfl,rfl⟩
  ·have:=h.own o d' h2 hb;simpa[MS.push,Nat.ne_of_lt h1] using this
  ·intro hF;simp only[MS.push,if_true] at hF;have:=h.fl _ hF;omega
theorem RelM.idle {G:Hn} {M:MS} {d:DObj} (h:RelM G M) (hd:d.blk=false) (hn:RelO (M.idle d) M.objs.length d):RelM G (M.idle d):=by
 have he:=Ext.idle (M:=M) hd;refine⟨λo d' ho=>?_,λo d' ho hb=>?_,λo o' d1 d2 ho ho' hb hb' hβ=>?_,λg l hg=>(h.glob g l hg).mono he.ok,h.fl,λo d' ho hb=>?_⟩
 ·rcases j6 ho with⟨h1,h2⟩|⟨rfl,rfl⟩
  ·exact(h.objs o d' h2).ext he (λ_=>rfl) (λhb=>rfl)
  ·exact hn
 ·rcases j6 ho with⟨h1,h2⟩|⟨rfl,rfl⟩
  ·exact h.lt o d' h2 hb
  ·rw[hd] at hb;cases hb
 ·rcases j6 ho with⟨h1,h2⟩|⟨rfl,rfl⟩
  ·rcases j6 ho' with⟨h3,h4⟩|⟨rfl,rfl⟩
   ·exact h.inj o o' d1 d2 h2 h4 hb hb' hβ
   ·rw[hd] at hb';cases hb'
  ·rw[hd] at hb;cases hb
 ·rcases j6 ho with⟨h1,h2⟩|⟨rfl,rfl⟩
  ·exact h.own o d' h2 hb
  ·rw[hd] at hb;cases hb
def MS.turn (M:MS) (o:Nat) (x:Obj) (d:DObj):MS:=
 { M with w:={ M.w with heap:=M.w.heap.setIfInBounds (M.β o) x },objs:=M.objs.set o d }
def DObj.alike:DObj->DObj->Prop
 | .row _,.row _=>True
 | .vec sz _ g nl,.vec sz' _ g' nl'=>nl'=nl/\((sz'=sz/\g'=g)\/g<g')
 | .map ks _,.map ks' _=>L5 ks=L5 ks'
 | .loop _,.loop _=>True
 | .iter _ _,.iter _ _=>True
 | .liter _ _ _,.liter _ _ _=>True
 | _,_=>False
theorem DObj.alike_blk {d d':DObj} (h:d.alike d'):d'.blk=d.blk:=by
 cases d<;>cases d'<;>simp_all [DObj.alike,DObj.blk]
def K7:Obj->Nat
 | .cells c _ _=>c.size
 | _=>0
theorem gT {M:MS} {o b:Nat} {x:Obj} {d:DObj} (h:b≠M.β o):(M.turn o x d).w.heap[b]?=M.w.heap[b]?:=by
 simp[MS.turn,Array.getElem?_setIfInBounds_ne (Ne.symm h)]
theorem u4 {α:Type} {l:List α} {o o':Nat} {x y:α} (h:(l.set o x)[o']?=some y):(o'=o/\y=x/\o<l.length)\/(o'≠o/\l[o']?=some y):=by
 by_cases e:o'=o
 ·subst e;rw[List.getElem?_set_self'] at h;cases hl:l[o']? with
  | none=>simp[hl] at h
  | some z=>simp[hl] at h;exact .inl ⟨rfl,h.symm,e7 hl⟩
 ·rw[List.getElem?_set_ne (Ne.symm e)] at h;exact .inr ⟨e,h⟩
theorem tt {M:MS} {o:Nat} {x:Obj} {d d':DObj} (ho:M.objs[o]?=some d) (ha:d.alike d') {b:Nat}:(M.turn o x d').live b↔M.live b:=by
 constructor
 ·rintro⟨p,e,hp,hb,hβ⟩;rcases u4 hp with⟨rfl,rfl,_⟩|⟨_,h2⟩
  ·exact⟨p,d,ho,by rw[<- DObj.alike_blk ha];exact hb,hβ⟩
  ·exact⟨p,e,h2,hb,hβ⟩
 ·rintro⟨p,e,hp,hb,hβ⟩;by_cases he:p=o
  ·subst he;rw[ho] at hp;cases hp;exact⟨p,d',by simp[MS.turn,List.getElem?_set_self (e7 ho)],by rw[DObj.alike_blk ha];exact hb,hβ⟩
  ·exact⟨p,e,by simp[MS.turn,List.getElem?_set_ne (Ne.symm he),hp],hb,hβ⟩
theorem tu {M:MS} {o:Nat} {x:Obj} {d d':DObj} (ho:M.objs[o]?=some d) (hb:d.blk=true) (ha:d.alike d') {b:Nat} (h:M.free b) :
 (M.turn o x d').free b/\(M.turn o x d').w.heap[b]?=M.w.heap[b]?:=by
 refine⟨⟨by simpa[MS.turn] using h.1,λhl=>h.2 ((tt ho ha).1 hl)⟩,gT ?_⟩;rintro rfl;exact h.2 ⟨o,d,ho,hb,rfl⟩
theorem fo {M:MS} {o:Nat} {x y:Obj} {d:DObj} (hy:M.w.heap[M.β o]?=some y) (hs:K7 x=K7 y) (b:Nat):H3 (M.turn o x d).w b=H3 M.w b:=by
 by_cases e:b=M.β o
 ·subst e;have hlt:M.β o<M.w.heap.size:=(Array.getElem?_eq_some_iff.1 hy).1;have h1:(M.turn o x d).w.heap[M.β o]?=some x:=by simp[MS.turn,Array.getElem?_setIfInBounds_self_of_lt hlt]
  simp only[H3,h1,hy];cases x<;>cases y<;>simp_all [K7]
 ·simp only[H3,gT e]
theorem Ext.turn {M:MS} {o:Nat} {x y:Obj} {d d':DObj} (ho:M.objs[o]?=some d) (hb:d.blk=true) (ha:d.alike d')
 (hy:M.w.heap[M.β o]?=some y) (hs:K7 x=K7 y):Ext M.objs.length M (M.turn o x d'):=by
 refine⟨by simp[MS.turn],λb h=>tu ho hb ha h,cv M,by simp[MS.turn],λp hp c' hc=>?_,λp hp sz es' g nl hv=>?_,λp hp ks es' hm=>?_,λp hp r' hm=>?_,λp hp l' hm hi=>?_,λp hp r hm=>?_,⟨rfl,rfl,rfl,by first|exact Nat.le_refl _|exact Nat.le_succ _⟩⟩
 ·rcases u4 hc with⟨rfl,e,_⟩|⟨_,h2⟩
  ·cases d<;>cases d'<;>simp_all [DObj.alike];rfl
  ·exact⟨⟨c',h2⟩,rfl⟩
 ·rcases u4 hv with⟨rfl,e,_⟩|⟨_,h2⟩
  ·subst e;cases d<;>simp only[DObj.alike] at ha;obtain⟨rfl,⟨rfl,rfl⟩|hlt⟩:=ha
   ·exact⟨_,_,_,_,ho,Nat.le_refl _,λ_=>⟨rfl,rfl,λ_=>⟨rfl,fo hy hs _⟩⟩⟩
   ·exact⟨_,_,_,_,ho,Nat.le_of_lt hlt,λe=>absurd e (Nat.ne_of_lt hlt)⟩
  ·exact⟨sz,es',g,nl,h2,Nat.le_refl _,λ_=>⟨rfl,rfl,λ_=>⟨rfl,fo hy hs _⟩⟩⟩
 ·rcases u4 hm with⟨rfl,e,_⟩|⟨_,h2⟩
  ·cases d<;>cases d'<;>simp_all [DObj.alike];rfl
  ·exact⟨⟨_,es',h2⟩,rfl⟩
 ·rcases u4 hm with⟨rfl,e,_⟩|⟨_,h2⟩
  ·cases d<;>cases d'<;>simp_all [DObj.alike];rfl
  ·exact⟨⟨r',h2⟩,rfl⟩
 ·rcases u4 hm with⟨rfl,e,_⟩|⟨_,h2⟩
  ·subst e;exact⟨⟨d,ho,by cases d<;>cases l'<;>simp_all [DObj.alike,DObj.isIt]⟩,rfl⟩
  ·exact⟨⟨l',h2,hi⟩,rfl⟩
 ·by_cases e:p=o
  ·subst e;rw[ho] at hm;cases hm;cases d'<;>simp only[DObj.alike] at ha;exact⟨⟨_,by simp[MS.turn,List.getElem?_set_self (e7 ho)];rfl⟩,rfl⟩
  ·exact⟨⟨r,by simp[MS.turn,List.getElem?_set_ne (Ne.symm e),hm]⟩,rfl⟩
theorem RelM.turn {G:Hn} {M:MS} {o:Nat} {x y:Obj} {d d':DObj} (h:RelM G M) (ho:M.objs[o]?=some d) (hb:d.blk=true) (ha:d.alike d')
 (hy:M.w.heap[M.β o]?=some y) (hs:K7 x=K7 y) (hn:RelO (M.turn o x d') o d'):RelM G (M.turn o x d'):=by
 have he:=Ext.turn (x:=x) ho hb ha hy hs;have hb':d'.blk=true:=by rw[DObj.alike_blk ha];exact hb
 refine⟨λp e hp=>?_,λp e hp hbe=>?_,λp p' e e' hp hp' hbe hbe' hβ=>?_,λg l hg=>(h.glob g l hg).mono he.ok,λb hF=>by simpa[MS.turn] using h.fl b hF,λp e hp hbe=>?_⟩
 ·rcases u4 hp with⟨rfl,rfl,_⟩|⟨hne,h2⟩
  ·exact hn
  ·refine(h.objs p e h2).ext he (λ_=>rfl) (λhbe=>gT λhβ=>hne (h.inj p o e d h2 ho hbe hb hβ))
 ·rcases u4 hp with⟨rfl,rfl,_⟩|⟨_,h2⟩
  ·simpa[MS.turn] using h.lt p d ho hb
  ·simpa[MS.turn] using h.lt p e h2 hbe
 ·rcases u4 hp with⟨rfl,rfl,_⟩|⟨_,h2⟩
  ·rcases u4 hp' with⟨rfl,rfl,_⟩|⟨_,h4⟩
   ·rfl
   ·exact h.inj _ _ _ _ ho h4 hb hbe' hβ
  ·rcases u4 hp' with⟨rfl,rfl,_⟩|⟨_,h4⟩
   ·exact h.inj _ _ _ _ h2 ho hbe hb hβ
   ·exact h.inj _ _ _ _ h2 h4 hbe hbe' hβ
 ·rcases u4 hp with⟨rfl,rfl,_⟩|⟨_,h2⟩
  ·exact h.own p d ho hb
  ·exact h.own p e h2 hbe
def MS.move (M:MS) (o:Nat) (w':World) (d:DObj):MS:=
 { w:=w',β:=λp=>if p=o then M.w.heap.size else M.β p,objs:=M.objs.set o d,F:=M.F }
theorem ir {M:MS} {o:Nat} {w':World} {x:Obj} {d:DObj} (hw:w'.heap=M.w.heap.push x) {b:Nat} (h:b<M.w.heap.size):(M.move o w' d).w.heap[b]?=M.w.heap[b]?:=by
 simp only[MS.move,hw,Array.getElem?_push,Nat.ne_of_lt h,if_false]
theorem uf {M:MS} {o:Nat} {w':World} {x:Obj} {d:DObj} (hw:w'.heap=M.w.heap.push x) {b:Nat} (h:M.free b) :
 (M.move o w' d).free b/\(M.move o w' d).w.heap[b]?=M.w.heap[b]?:=by
 refine⟨⟨by simp[MS.move,hw];have:=h.1;omega,?_⟩,ir hw h.1⟩;rintro⟨p,e,hp,hb,hβ⟩;rcases u4 hp with⟨rfl,rfl,_⟩|⟨hne,h2⟩
 ·simp[MS.move] at hβ;have:=h.1;omega
 ·simp[MS.move,hne] at hβ;exact h.2 ⟨p,e,h2,hb,hβ⟩
theorem Ext.move {M:MS} {o:Nat} {w':World} {x:Obj} {sz sz' g g':Nat} {es es':List (List DC)} {nl nl':Bool} (ho:M.objs[o]?=some (.vec sz es g nl)) (hg:g<g') (hw:w'.heap=M.w.heap.push x) (hio:SameIo M.w w')
 (hlt:∀ o d,M.objs[o]?=some d->d.blk=true->M.β o<M.w.heap.size):Ext M.objs.length M (M.move o w' (.vec sz' es' g' nl')):=by
 refine⟨by simp[MS.move],λb h=>uf hw h,cv M,by simp[MS.move,hw],λp hp c' hc=>?_,λp hp sz1 es1 g1 nl1 hv=>?_,λp hp ks es1 hm=>?_,λp hp r' hm=>?_,λp hp l' hm hi=>?_,λp hp r hm=>?_,hio⟩
 ·rcases u4 hc with⟨rfl,e,_⟩|⟨hne,h2⟩
  ·cases e
  ·exact⟨⟨c',h2⟩,by simp[MS.move,hne]⟩
 ·rcases u4 hv with⟨rfl,e,_⟩|⟨hne,h2⟩
  ·cases e;exact⟨sz,es,g,nl,ho,Nat.le_of_lt hg,λe=>absurd e (Nat.ne_of_lt hg)⟩
  ·refine⟨sz1,es1,g1,nl1,h2,Nat.le_refl _,λ_=>⟨rfl,rfl,λhn=>?_⟩⟩;have hβ:(M.move o w' (.vec sz' es' g' nl')).β p=M.β p:=by simp[MS.move,hne]
   refine⟨hβ,?_⟩;rw[hβ];simp only[H3];rw[ir hw (hlt p _ h2 (by simp[DObj.blk,hn]))]
 ·rcases u4 hm with⟨rfl,e,_⟩|⟨hne,h2⟩
  ·cases e
  ·exact⟨⟨_,es1,h2⟩,by simp[MS.move,hne]⟩
 ·rcases u4 hm with⟨rfl,e,_⟩|⟨hne,h2⟩
  ·cases e
  ·exact⟨⟨r',h2⟩,by simp[MS.move,hne]⟩
 ·rcases u4 hm with⟨rfl,e,_⟩|⟨hne,h2⟩
  ·subst e;cases hi
  ·exact⟨⟨l',h2,hi⟩,by simp[MS.move,hne]⟩
 ·by_cases e:p=o
  ·subst e;rw[ho] at hm;cases hm
  ·exact⟨⟨r,by simp[MS.move,List.getElem?_set_ne (Ne.symm e),hm]⟩,by simp[MS.move,e]⟩
theorem RelM.move {G:Hn} {M:MS} {o:Nat} {w':World} {x:Obj} {sz sz' g g':Nat} {es es':List (List DC)} {nl nl':Bool} (h:RelM G M) (ho:M.objs[o]?=some (.vec sz es g nl)) (hg:g<g') (hw:w'.heap=M.w.heap.push x) (hio:SameIo M.w w')
 (hn:RelO (M.move o w' (.vec sz' es' g' nl')) o (.vec sz' es' g' nl')):RelM G (M.move o w' (.vec sz' es' g' nl')):=by
 have he:=Ext.move (sz':=sz') (es':=es') (nl':=nl') ho hg hw hio h.lt;refine⟨λp e hp=>?_,λp e hp hb=>?_,λp p' e e' hp hp' hb hb' hβ=>?_,λg l hg=>(h.glob g l hg).mono he.ok,λb hF=>?_,λp e hp hb=>?_⟩
 ·rcases u4 hp with⟨rfl,rfl,_⟩|⟨hne,h2⟩
  ·exact hn
  ·exact(h.objs p e h2).ext he (λ_=>by simp[MS.move,hne]) (λhb=>ir hw (h.lt p e h2 hb))
 ·rcases u4 hp with⟨rfl,rfl,_⟩|⟨hne,h2⟩
  ·simp[MS.move,hw]
  ·have:=h.lt p e h2 hb;simp[MS.move,hw,hne];omega
 ·rcases u4 hp with⟨rfl,rfl,_⟩|⟨hne,h2⟩
  ·rcases u4 hp' with⟨rfl,rfl,_⟩|⟨hne',h4⟩
   ·rfl
   ·simp[MS.move,hne'] at hβ;have:=h.lt p' e' h4 hb';omega
  ·rcases u4 hp' with⟨rfl,rfl,_⟩|⟨hne',h4⟩
   ·simp[MS.move,hne] at hβ;have:=h.lt p e h2 hb;omega
   ·simp[MS.move,hne,hne'] at hβ;exact h.inj p p' e e' h2 h4 hb hb' hβ
 ·have:=h.fl b hF;simp only[MS.move,hw,Array.size_push];omega
 ·rcases u4 hp with⟨rfl,rfl,_⟩|⟨hne,h2⟩
  ·intro hF;simp only[MS.move,if_true] at hF;have:=h.fl _ hF;omega
  ·have:=h.own p e h2 hb;simpa[MS.move,hne] using this
theorem RelM.same {G:Hn} {M:MS} {w':World} (h:RelM G M) (hw:w'.heap=M.w.heap) (hio:SameIo M.w w'):RelM G { M with w:=w' }/\Ext M.objs.length M { M with w:=w' }:=by
 have he:Ext M.objs.length M { M with w:=w' }:=
  ⟨Nat.le_refl _,λb hb=>⟨⟨by simpa[hw] using hb.1,hb.2⟩,by simp[hw]⟩,cv M,by simp[hw],λp _ c' hc=>⟨⟨c',hc⟩,rfl⟩,λp _ sz es g nl hv=>⟨sz,es,g,nl,hv,Nat.le_refl _,λ_=>⟨rfl,rfl,λ_=>⟨rfl,by simp[H3,hw]⟩⟩⟩,λp _ ks es hm=>⟨⟨ks,es,hm⟩,rfl⟩,
   λp _ r hm=>⟨⟨r,hm⟩,rfl⟩,λp _ d hm hi=>⟨⟨d,hm,hi⟩,rfl⟩,λp _ r hm=>⟨⟨r,hm⟩,rfl⟩,hio⟩
 exact⟨⟨λo d ho=>(h.objs o d ho).ext he (λ_=>rfl) (λ_=>by simp[hw]),λo d ho hb=>by simpa[hw] using h.lt o d ho hb,h.inj,λg l hg=>(h.glob g l hg).mono he.ok,λb hF=>by simpa[hw] using h.fl b hF,h.own⟩,he⟩
def aW (P:Program) (t:TypeId):Option Nat:=(P.info? t).map (·.size)
def mb (P:Program) (t:TypeId):Option Bool:=
 match P.underlying t with
 | some (.struct _)=>some true
 | some (.array _ _)=>some true
 | some _=>some false
 | none=>none
section
variable {P:Program} {w:World}
theorem o5 {t n:Nat} (h:aW P t=some n):(sizeOf t).run P w=.ok n w:=by
 simp only[aW,Option.map_eq_some_iff] at h;obtain⟨i,hi,rfl⟩:=h;simp[sizeOf,typeInfo,hi]
theorem e8 {t:Nat} {d:TypeDesc} (h:P.underlying t=some d):(underlying t).run P w=.ok d w:=by
 simp[underlying,h]
theorem B6 {t:Nat} {b:Bool} (h:mb P t=some b):(isAgg t).run P w=.ok b w:=by
 simp only[mb] at h;split at h
 ·rename_i hu;cases h;simp[isAgg,e8 hu]
 ·rename_i hu;cases h;simp[isAgg,e8 hu]
 ·rename_i d hs ha hu;cases h;simp only[isAgg,Sem.run_bind,e8 hu,Result.andThen_ok];cases d<;>first|rfl|simp_all
 ·cases h
theorem G0 {a:Addr} (hs:a.spot=none) (i:Nat):a.add i=⟨a.block,a.off+i,none⟩:=by
 obtain⟨b,o,s⟩:=a;simp only at hs;subst hs;unfold Addr.add;split
 ·rename_i h;subst h;rfl
 ·rfl
theorem zJ {a:Addr} {v:Value} (h:w.cell? a=some v):(load a).run P w=.ok v w:=by
 simp[load,Sem.run,h]
theorem bc {a:Addr} (hs:a.spot=none) (f:Nat->Value):∀ (n i:Nat) (acc:Array Value),(∀ j,i<=j->j<i+n->w.cell? ⟨a.block,a.off+j,none⟩=some (f j)) ->
 (loadCellsFrom a i n acc).run P w=.ok (acc++((List.range' i n).map f).toArray) w
 | 0,i,acc,_=>by simp[loadCellsFrom]
 | n+1,i,acc,h=>by
   have h0:=h i (Nat.le_refl _) (by omega);simp only[loadCellsFrom,Sem.run_bind,G0 hs,zJ h0,Result.andThen_ok];rw[bc hs f n (i+1) (acc.push (f i)) (λj h1 h2=>h j (by omega) (by omega))];simp[List.range'_succ]
theorem bJ {a:Addr} (hs:a.spot=none) (f:Nat->Value) (n:Nat) (h:∀ j,j<n->w.cell? ⟨a.block,a.off+j,none⟩=some (f j)) :
 (loadCells a n).run P w=.ok ((List.range n).map f).toArray w:=by
 unfold loadCells;rw[bc hs f n 0 #[] (λj _ h2=>h j (by omega))];simp[List.range_eq_range']
def A5 (c:Array Value) (off:Nat):List Value->Array Value
 | []=>c
 | v :: vs=>A5 (c.setIfInBounds off v) (off+1) vs
theorem s0 (vs:List Value):∀ (c:Array Value) (off:Nat),(A5 c off vs).size=c.size:=by
 induction vs with
 | nil=>intro c off;rfl
 | cons v vs ih=>intro c off;simp[A5,ih]
theorem V0 (vs:List Value):∀ (c:Array Value) (off i:Nat),off+vs.length<=c.size ->
 (A5 c off vs)[i]?=if off<=i/\i<off+vs.length then vs[i-off]? else c[i]?:=by
 induction vs with
 | nil=>intro c off i _;simp[A5];omega
 | cons v vs ih =>
   intro c off i h;simp only[List.length_cons] at h;rw[A5,ih _ _ _ (by simp;omega)];by_cases h1:off+1<=i/\i<off+1+vs.length
   ·rw[if_pos h1,if_pos (by simp;omega)];have:i-off=(i-(off+1))+1:=by omega
    rw[this,List.getElem?_cons_succ]
   ·rw[if_neg h1];by_cases h2:i=off
    ·subst h2;rw[if_pos (by simp)];simp[Array.getElem?_setIfInBounds_self_of_lt (show i<c.size by omega)]
    ·rw[if_neg (by simp;omega),Array.getElem?_setIfInBounds_ne (by omega)]
def World.setBlock (w:World) (b:Nat) (x:Obj):World:={ w with heap:=w.heap.setIfInBounds b x }
theorem fK {b:Nat} {x y:Obj}:World.setBlock (World.setBlock w b x) b y=World.setBlock w b y:=by
 simp[World.setBlock]
theorem aN {b:Nat} {x:Obj} (h:w.heap[b]?=some x):World.setBlock w b x=w:=by
 obtain⟨hlt,rfl⟩:=Array.getElem?_eq_some_iff.1 h;simp[World.setBlock,Array.setIfInBounds,hlt]
theorem X5 {b:Nat} {x y:Obj} (h:w.heap[b]?=some x):(World.setBlock w b y).heap[b]?=some y:=by
 obtain⟨hlt,_⟩:=Array.getElem?_eq_some_iff.1 h;simp[World.setBlock,Array.getElem?_setIfInBounds_self_of_lt hlt]
theorem wy {b i:Nat} {c:Array Value} {T:TypeId} {v:Value} (hb:w.heap[b]?=some (.cells c T (0,0))) (hi:i<c.size) (hv:isOne v=true) :
 (store ⟨b,i,none⟩ v).run P w=.ok () (World.setBlock w b (.cells (c.setIfInBounds i v) T (0,0))):=by
 have h1:w.cell? ⟨b,i,none⟩=some c[i]:=by simp[World.cell?,hb,hi]
 have h2:w.frozen? ⟨b,i,none⟩=false:=by simp[World.frozen?,hb]
 have h3:w.setCell ⟨b,i,none⟩ v=World.setBlock w b (.cells (c.setIfInBounds i v) T (0,0)):=by
  have hlt:b<w.heap.size:=(Array.getElem?_eq_some_iff.1 hb).1;simp only[World.setCell,World.setBlock]
  congr 1
  apply Array.ext_getElem?
  intro j;rw[Array.getElem?_modify];by_cases hj:b=j
  ·subst hj;rw[if_pos rfl,hb,Array.getElem?_setIfInBounds_self_of_lt hlt];rfl
  ·rw[if_neg hj,Array.getElem?_setIfInBounds_ne hj]
 cases v<;>simp_all [store,Sem.run,isOne]
theorem U1 {b:Nat} {T:TypeId} (vs:List Value):∀ (w:World) (c:Array Value) (off i:Nat),w.heap[b]?=some (.cells c T (0,0))->off+i+vs.length<=c.size->(∀ v∈vs,isOne v=true) ->
 (storeCells ⟨b,off,none⟩ vs i).run P w=.ok () (World.setBlock w b (.cells (A5 c (off+i) vs) T (0,0))):=by
 induction vs with
 | nil=>intro w c off i hb _ _;simp[storeCells,A5,aN hb]
 | cons v vs ih =>
   intro w c off i hb hl ho;simp only[List.length_cons] at hl;simp only[storeCells,Sem.run_bind];rw[G0 rfl];simp only
   rw[wy hb (by omega) (ho v (by simp)),Result.andThen_ok,
    ih _ (c.setIfInBounds (off+i) v) off (i+1) (X5 hb) (by simp;omega) (λx hx=>ho x (by simp[hx])),fK]
   rfl
end
def eg (ag:Bool) (l:List DC):Option DV:=
 if ag then some (.agg l) else match l with
  | [c]=>some (.one c)
  | _=>none
def DV.cells:DV->Option (List DC)
 | .one c=>some [c]
 | .agg l=>some l
 | .tup _=>none
def kW (objs:List DObj) (p:DC) (sz:Nat):Option (List DC):=
 match p with
 | .im (.ip l)=>if sz<=l.length then some ((l.take sz).map .im) else none
 | .ptr o off=>match objs[o]? with
   | some (.row c)=>if off+sz<=c.length then some ((c.drop off).take sz) else none
   | _=>none
 | .ept o g i off=>match objs[o]? with
   | some (.vec _ es g' _)=>if g=g' then match es[i]? with
    | some x=>if off+sz<=x.length then some ((x.drop off).take sz) else none
    | none=>none
     else none
   | _=>none
 | _=>none
theorem jg {G:Hn} {M:MS} (hm:RelM G M) {p:DC} {sz:Nat} {l:List DC} {v:Value} (hp:RepC M p v) (h:kW M.objs p sz=some l) :
 ∃ a,v=.pointer (some a)/\a.spot=none/\l.length=sz/\∃ f:Nat->Value,(∀ j,j<sz->M.w.cell? ⟨a.block,a.off+j,none⟩=some (f j))/\∀ j c,l[j]?=some c->RepC M c (f j):=by
 unfold kW at h;split at h
 ·rename_i l0;split at h
  ·rename_i hle;cases h;cases hp with
   | im _ _ hp=>cases hp with
     | ip _ a val hs hok hc hr =>
       refine⟨a,rfl,hs,by simp;omega,val,λj hj=>?_,λj c hj=>?_⟩
       ·have:j<l0.length:=by omega
        exact hc j l0[j] (by simp[this])
       ·rw[List.getElem?_map] at hj;rw[Option.map_eq_some_iff] at hj;obtain⟨c0,h0,rfl⟩:=hj;rw[List.getElem?_take] at h0;split at h0
        ·exact .im _ _ (hr j c0 h0)
        ·cases h0
  ·cases h
 ·rename_i o off;split at h
  ·rename_i c ho;split at h
   ·rename_i hle;cases h;cases hp with
    | ptr _ _ _ _ _ hv =>
      obtain⟨ca,T,h1,h2,h3⟩:=hm.objs o _ ho;have hcell:∀ j,j<ca.size->M.w.cell? ⟨M.β o,j,none⟩=ca[j]?:=λj hj=>by simp[World.cell?,h1]
      refine⟨⟨M.β o,off,none⟩,hv c ho,rfl,by simp;omega,λj=>(ca[off+j]?).getD undef,λj hj=>?_,λj d hd=>?_⟩
      ·have:off+j<ca.size:=by omega
       simp only;rw[hcell _ this];simp[this]
      ·rw[List.getElem?_take] at hd;split at hd
       ·rw[List.getElem?_drop] at hd;have h5:off+j<c.length:=e7 hd;have:off+j<ca.size:=by omega
        exact h3 (off+j) d _ hd (by simp[this])
       ·cases hd
   ·cases h
  ·cases h
 ·rename_i o g i off;split at h
  ·rename_i z es g' nl ho;split at h
   ·rename_i hg;subst hg;split at h
    ·rename_i x hx;split at h
     ·rename_i hle;cases h;cases hp with
      | ept _ _ _ _ _ _ _ hv =>
        obtain⟨_,hv⟩:=hv z es g nl ho;obtain⟨rfl,rfl⟩:=hv rfl;obtain⟨_,hf⟩:=hm.objs o _ ho;obtain⟨h0,ca,T,h1,h2,h3,h4⟩:=hf rfl;have hxl:=h3 i x hx;have hcell:∀ j,M.w.cell? ⟨M.β o,j,none⟩=ca[j]?:=λj=>by simp[World.cell?,h1]
        have hi:=e7 hx;have hmul:(i+1)*z<=es.length*z:=Nat.mul_le_mul_right z hi;have hmul':(i+1)*z=i*z+z:=by rw[Nat.add_mul,Nat.one_mul]
        refine⟨⟨M.β o,i*z+off,none⟩,rfl,rfl,by simp;omega,λj=>(ca[i*z+off+j]?).getD undef,λj hj=>?_,λj d hd=>?_⟩
        ·have:i*z+off+j<ca.size:=by omega
         simp only;rw[hcell];simp[this]
        ·rw[List.getElem?_take] at hd;split at hd
         ·rw[List.getElem?_drop] at hd;have h5:off+j<x.length:=e7 hd;have:i*z+off+j<ca.size:=by omega
          exact h4 i x (off+j) d _ hx hd (by simp only[<- Nat.add_assoc];simp[this])
         ·cases hd
     ·cases h
    ·cases h
   ·cases h
  ·cases h
 ·cases h
def P8 (c:List DC) (off:Nat) (vs:List DC):List DC:=c.take off++vs++c.drop (off+vs.length)
theorem T9 {c:List DC} {off:Nat} {vs:List DC} (h:off+vs.length<=c.length):(P8 c off vs).length=c.length:=by
 simp[P8];omega
theorem eP {c:List DC} {off:Nat} {vs:List DC} (h:off+vs.length<=c.length) (i:Nat) :
 (P8 c off vs)[i]?=if off<=i/\i<off+vs.length then vs[i-off]? else c[i]?:=by
 unfold P8;by_cases h1:i<off
 ·rw[if_neg (by omega),List.append_assoc,List.getElem?_append_left (by simp;omega),List.getElem?_take,if_pos h1]
 ·by_cases h2:i<off+vs.length
  ·rw[if_pos ⟨by omega,h2⟩,List.append_assoc,List.getElem?_append_right (by simp;omega)];have:i-(c.take off).length=i-off:=by simp;omega
   rw[this,List.getElem?_append_left (by omega)]
  ·rw[if_neg (by omega),List.getElem?_append_right (by simp;omega),List.getElem?_drop]
   congr 1
   simp;omega
def kV (objs:List DObj) (p:DC) (vs:List DC):Option (List DObj):=
 match p with
 | .ptr o off=>match objs[o]? with
   | some (.row c)=>if off+vs.length<=c.length then some (objs.set o (.row (P8 c off vs))) else none
   | _=>none
 | .ept o g i off=>match objs[o]? with
   | some (.vec z es g' nl)=>if g=g' then match es[i]? with
    | some x=>if off+vs.length<=x.length then some (objs.set o (.vec z (es.set i (P8 x off vs)) g' nl)) else none
    | none=>none
     else none
   | _=>none
 | _=>none
theorem nJ {P:Program} {G:Hn} {M:MS} (hm:RelM G M) {p:DC} {ds:List DC} {vs:List Value} {objs':List DObj} {v:Value} (hp:RepC M p v)
 (hl:ds.length=vs.length) (hr:∀ (j:Nat) (d:DC) (x:Value),ds[j]?=some d->vs[j]?=some x->RepC M d x) (h:kV M.objs p ds=some objs') :
 ∃ a M',v=.pointer (some a)/\(storeCells a vs).run P M.w=.ok () M'.w/\RelM G M'/\M'.objs=objs'/\Ext M.objs.length M M':=by
 have hone:∀ x∈vs,isOne x=true:=λx hx=>by
  obtain⟨j,hj⟩:=List.mem_iff_getElem?.1 hx;have hlt:=e7 hj;exact(hr j ds[j] x (by simp[hl,hlt]) hj).isOne
 unfold kV at h;split at h
 ·rename_i o off;split at h
  ·rename_i c ho;split at h
   ·rename_i hle;cases h;cases hp with
    | ptr _ _ _ _ _ hv =>
      have hrow:=hm.objs o _ ho;obtain⟨ca,T,h1,h2,h3⟩:=hrow;have he:Ext M.objs.length M (M.turn o (.cells (A5 ca off vs) T (0,0)) (.row (P8 c off ds))):=Ext.turn ho rfl trivial h1 (by simp[K7,s0]);refine⟨⟨M.β o,off,none⟩,M.turn o (.cells (A5 ca off vs) T (0,0)) (.row (P8 c off ds)),hv c ho,?_,hm.turn ho rfl trivial h1 (by simp[K7,s0]) ?_,rfl,he⟩
      ·rw[U1 vs M.w ca off 0 h1 (by omega) hone];rfl
      ·refine⟨A5 ca off vs,T,X5 h1,by rw[s0,T9 hle,h2],λj d x hd hx=>?_⟩;rw[eP hle] at hd;rw[V0 _ _ _ _ (by omega)] at hx;refine RepC.ext he ?_;by_cases hj:off<=j/\j<off+ds.length
       ·rw[if_pos hj] at hd;rw[if_pos (by omega)] at hx;exact hr _ d x hd hx
       ·rw[if_neg hj] at hd;rw[if_neg (by omega)] at hx;exact h3 j d x hd hx
   ·cases h
  ·cases h
 ·rename_i o g i off;split at h
  ·rename_i z es g' nl ho;split at h
   ·rename_i hg;subst hg;split at h
    ·rename_i x hx;split at h
     ·rename_i hle;cases h;cases hp with
      | ept _ _ _ _ _ _ _ hv =>
        obtain⟨_,hv⟩:=hv z es g nl ho;obtain⟨rfl,rfl⟩:=hv rfl;obtain⟨hnil,hf⟩:=hm.objs o _ ho;obtain⟨h0,ca,T,h1,h2,h3,h4⟩:=hf rfl;have hxl:=h3 i x hx;have hi:=e7 hx;have hmul:(i+1)*z<=es.length*z:=Nat.mul_le_mul_right z hi;have hmul':(i+1)*z=i*z+z:=by rw[Nat.add_mul,Nat.one_mul]
        have he:Ext M.objs.length M (M.turn o (.cells (A5 ca (i*z+off) vs) T (0,0)) (.vec z (es.set i (P8 x off ds)) g false)):=
         Ext.turn ho rfl ⟨rfl,.inl ⟨rfl,rfl⟩⟩ h1 (by simp[K7,s0])
        refine⟨⟨M.β o,i*z+off,none⟩,M.turn o (.cells (A5 ca (i*z+off) vs) T (0,0)) (.vec z (es.set i (P8 x off ds)) g false),rfl,?_,
         hm.turn ho rfl ⟨rfl,.inl ⟨rfl,rfl⟩⟩ h1 (by simp[K7,s0]) ?_,rfl,he⟩
        ·rw[U1 vs M.w ca (i*z+off) 0 h1 (by omega) hone];rfl
        ·refine⟨(λe=>by cases e),λ_=>⟨h0,A5 ca (i*z+off) vs,T,X5 h1,by rw[s0];simpa using h2,λk y hy=>?_,λk y j d u hy hd hu=>?_⟩⟩
         ·rcases u4 hy with⟨rfl,rfl,_⟩|⟨_,hy⟩
          ·rw[T9 hle];exact hxl
          ·exact h3 k y hy
         ·refine RepC.ext he ?_;rw[V0 _ _ _ _ (by omega)] at hu;rcases u4 hy with⟨rfl,rfl,_⟩|⟨hne,hy⟩
          ·rw[eP hle] at hd;by_cases hj:off<=j/\j<off+ds.length
           ·rw[if_pos hj] at hd;rw[if_pos (by omega)] at hu;refine hr _ d u hd ?_;rw[<- hu];congr 1;omega
           ·rw[if_neg hj] at hd;rw[if_neg (by omega)] at hu;exact h4 k x j d u hx hd hu
          ·have hj:=e7 hd;have hyl:=h3 k y hy;rw[if_neg] at hu
           ·exact h4 k y j d u hy hd hu
           ·intro⟨b1,b2⟩;rcases Nat.lt_or_gt_of_ne hne with hlt|hgt
            ·have:(k+1)*z<=i*z:=Nat.mul_le_mul_right z hlt;rw[Nat.add_mul,Nat.one_mul] at this;omega
            ·have:(i+1)*z<=k*z:=Nat.mul_le_mul_right z hgt;omega
     ·cases h
    ·cases h
   ·cases h
  ·cases h
 ·cases h
def DS.put (S:DS) (t:Option Tmp) (d:DV):DS:=
 match t with
 | some t=>if t<S.nt then { S with tmps:=(t,d) :: S.tmps } else S
 | none=>S
def OpV (P:Program) (G:Hn) (o:Oper) (S:DS) (d:DV) (objs':List DObj):Prop:=
 ∀ a M,Rel G S a M->∃ v M',((execOp a.eval o).run P M.w=.ok (.value v) M'.w\/((execOp a.eval o).run P M.w=.ok .skip M'.w/\v=undef)) /\
  RelM G M'/\M'.objs=objs'/\Ext M.objs.length M M'/\RepV M' d v
def OpT (P:Program) (G:Hn) (o:Oper) (S:DS) (K:DS->Prop):Prop:=
 ∀ ro a M,Rel G S a M->o.wpIn (u9 ro) 0 P a M.w (λa' w'=>∃ S' M',M'.w=w'/\Rel G S' a' M'/\Ext M.objs.length M M'/\a'.defers=a.defers/\K S') (λ_ _ _=>False)
theorem uP {P:Program} {ρ:Operand->Value} {o:Oper} {c:Call} {w w':World} {x:Next} (ho:o.op=.defer c) (h:(execOp ρ o).run P w=.ok x w'):∃ d,x=.defer d:=by
 simp only[execOp,ho,Sem.run_bind] at h;generalize (resolve ρ c o.type).run P w=r at h;cases r with
 | ok d w2=>simp only[Result.andThen,Sem.run_pure,Result.ok.injEq] at h;exact⟨d,h.1.symm⟩
 | halt x w2=>simp[Result.andThen] at h
theorem dF {P:Program} {ρ:Operand->Value} {o:Oper} {w w':World} {x:Next} (ro:Option Nat) (h:(execOp ρ o).run P w=.ok x w') (hx:∀ d,x≠.defer d):(o.semAt ro ρ).run P w=.ok x w':=by
 rw[Oper.semAt_eq ro ρ o]
 ·exact h
 ·intro c hc;obtain⟨d,hd⟩:=uP hc h;exact hx d hd
theorem U8:¬ LetsOut (λ_ _ _=>False):=λ⟨_,_,h⟩=>h
theorem Y5 {F:Fence} {n:Nat} {P:Program} {o:Oper} {a:Act} {w:World} {K K':Act->World->Prop} {Q:Exit->Act->World->Prop} (h:o.wpIn F n P a w K (λ_ _ _=>False)) (hk:∀ a w,K a w->K' a w):o.wpIn F n P a w K' Q:=by
 unfold Oper.wpIn at *;refine⟨h.1,?_⟩;have hh:=h.2;generalize (o.semAt F.round a.eval).run P w=r at *;cases r with
 | ok x w' =>
   cases x with
   | enter f args =>
     simp only[Oper.uponIn] at hh ⊢;exact⟨hh.1,hh.2.mono λe w'' hR=>by
      cases e with
      | returned v=>exact hk _ _ hR
      | panicked c=>exact hR.elim
      | outgrown=>exact(U8 hR).elim⟩
   | round l f tmps asg body =>
     simp only[Oper.uponIn] at hh ⊢;exact⟨hh.1,hh.2.mono λe w'' hR=>by
      cases e with
      | returned v=>exact hk _ _ hR
      | panicked c=>exact hR.elim
      | outgrown=>exact(U8 hR).elim⟩
   | row r args =>
     simp only[Oper.uponIn] at hh ⊢;exact⟨hh.1,hh.2.mono λv w'' hR=>hk _ _ hR⟩
   | value v=>exact hk _ _ hh
   | skip=>exact hk _ _ hh
   | defer d=>exact hk _ _ hh
   | _=>exact absurd hh (by simp[Oper.uponIn])
 | halt x w'=>exact absurd hh (by cases x<;>simp[Oper.uponIn])
theorem H7 {ro:Option Nat} {n:Nat} {P:Program} {o:Oper} {a:Act} {w w':World} {K:Act->World->Prop} {Q:Exit->Act->World->Prop} {v:Value} (h:(execOp a.eval o).run P w=.ok (.value v) w') (hk:K (a.put o.dst v) w') :
 o.wpIn (u9 ro) n P a w K Q:=⟨λ_ _=>trivial,by
 rw[dF _ h (by simp)];exact hk⟩
theorem jP {ro:Option Nat} {n:Nat} {P:Program} {o:Oper} {a:Act} {w w':World} {K:Act->World->Prop} {Q:Exit->Act->World->Prop} (h:(execOp a.eval o).run P w=.ok .skip w') (hk:K (a.put o.dst undef) w') :
 o.wpIn (u9 ro) n P a w K Q:=⟨λ_ _=>trivial,by
 rw[dF _ h (by simp)];exact hk⟩
theorem bx {ro:Option Nat} {P:Program} {o:Oper} {a:Act} {w w':World} {K:Act->World->Prop} {Q:Exit->Act->World->Prop} {f:FuncId} {args:Array Value} (h:(execOp a.eval o).run P w=.ok (.enter f args) w')
 (hk:Calls P f args w' λe w2=>∃ v,e=.returned v/\K (a.put o.dst v) w2) :
 o.wpIn (u9 ro) 0 P a w K Q:=⟨λ_ _=>trivial,by
 rw[dF _ h (by simp)];refine⟨λh=>absurd h (by simp[u9,Fence.wide]),?_⟩;refine CallsIn.mono (callsIn_wide.2 hk) ?_;rintro e w2 ⟨v,rfl,hv⟩;exact hv⟩
section
variable {P:Program} {G:Hn} {n:Cx} {S:DS} {Q:Exit->DS->Prop}
theorem r5 (a:Act) (t:Option Tmp) (v:Value):(a.put t v).defers=a.defers:=by cases t<;>rfl
theorem Rel.put {a:Act} {M M':MS} (hr:Rel G S a M) (hm:RelM G M') (he:Ext M.objs.length M M') {d:DV} {v:Value} (hv:RepV M' d v) (t:Option Tmp) :
 Rel G ({ S with objs:=M'.objs }.put t d) (a.put t v) M':=by
 have base:Rel G { S with objs:=M'.objs } a M':=⟨hm,rfl,hr.nt,W5 hr.m he hr.df,λt d ht=>by
  obtain⟨v,h1,h2⟩:=hr.tm t d ht;exact⟨v,h1,h2.ext he⟩⟩
 cases t with
 | none=>exact base
 | some t =>
   simp only[DS.put,Act.put];split
   ·rename_i hlt;refine⟨hm,rfl,by simpa using hr.nt,W5 hr.m he hr.df,λu e hu=>?_⟩;simp only[m8] at hu;split at hu
    ·rename_i hut;subst hut;cases hu;exact⟨v,by simp[Array.getElem?_setIfInBounds_self_of_lt (show t<a.tmps.size by rw[hr.nt];exact hlt)],hv⟩
    ·rename_i hut;obtain⟨x,h1,h2⟩:=base.tm u e hu;exact⟨x,by rw[Array.getElem?_setIfInBounds_ne hut];exact h1,h2⟩
   ·rename_i hlt;rw[Array.setIfInBounds_eq_of_size_le (by rw[hr.nt];exact Nat.le_of_not_lt hlt)];exact base
theorem OpT.of_val {o:Oper} {d:DV} {objs':List DObj} {K:DS->Prop} (h:OpV P G o S d objs') (hK:K ({ S with objs:=objs' }.put o.dst d)):OpT P G o S K:=by
 intro ro a M hr;obtain⟨v,M',hrun,hm,ho,he,hv⟩:=h a M hr;subst ho;have hp:=hr.put hm he hv o.dst;rcases hrun with hrun|⟨hrun,rfl⟩
 ·exact H7 hrun ⟨_,M',rfl,hp,he,r5 _ _ _,hK⟩
 ·exact jP hrun ⟨_,M',rfl,hp,he,r5 _ _ _,hK⟩
def C2 (dsts:List (Option Tmp)) (S:DS) (o:Oper):Option Bool:=
 match o.guard with
 | none=>some true
 | some (j,want)=>match dsts[j]? with
   | some (some t)=>match m8 S.tmps t with
     | some (.one (.im (.raw (.bool b))))=>some (b==want)
     | some (.tup _)=>some false
     | _=>none
   | _=>none
theorem eq {ops:Array Oper} {a:Act} {M:MS} (hr:Rel G S a M) {o:Oper} {b:Bool} (h:C2 (ops.toList.map (·.dst)) S o=some b) :
 Region.wanted o (yielded ops a.tmps)=b:=by
 unfold C2 at h;unfold Region.wanted;split at h
 ·rename_i hg;cases h;simp[hg]
 ·rename_i j want hg;simp only[hg];split at h
  ·rename_i t hd;have hd':(ops[j]?).bind (·.dst)=some t:=by
    rw[List.getElem?_map,Array.getElem?_toList] at hd;cases ho:ops[j]? with
    | none=>simp[ho] at hd
    | some x=>simp[ho] at hd;simp[hd]
   split at h
   ·rename_i b' hget;cases h;obtain⟨v,h1,h2⟩:=hr.tm t _ hget;cases h2 with
    | one _ _ h2=>cases h2 with
      | im _ _ h2 => cases h2
                     simp only[yielded,hd',Option.bind_some,h1];cases b'<;>cases want<;>rfl
   ·rename_i l hget;cases h;obtain⟨v,h1,h2⟩:=hr.tm t _ hget;cases h2;simp only[yielded,hd',Option.bind_some,h1];rfl
   ·cases h
  ·cases h
def RT (P:Program) (G:Hn) (dsts:List (Option Tmp)):List Oper->DS->(DS->Prop)->Prop
 | [],S,K=>K S
 | o :: l,S,K=>∃ b,C2 dsts S o=some b/\(b=true->OpT P G o S (λS'=>RT P G dsts l S' K))/\(b=false->RT P G dsts l (S.put o.dst (.tup [])) K)
theorem jO {ops:Array Oper} {ro:Option Nat} {Q':Exit->Act->World->Prop} (n:Nat) (K:DS->Prop):∀ (l:List Oper) (S:DS) (a:Act) (M:MS),Rel G S a M->n<=M.objs.length ->
 RT P G (ops.toList.map (·.dst)) l S K->(∀ S' a' M',Rel G S' a' M'->Ext n M M'->a'.defers=a.defers->K S'->Q' .normal a' M'.w)->wpListIn (u9 ro) 0 P ops Q' l a M.w
 | [],S,a,M,hr,hn,h,hq=>hq S a M hr ((Ext.refl M).weaken hn) rfl h
 | o :: l,S,a,M,hr,hn,h,hq=>by
   obtain⟨b,hw,ht,hf⟩:=h;have hw':=eq hr hw;unfold wpListIn;rw[hw'];cases b with
   | true =>
     rw[if_pos rfl];refine Y5 (ht rfl ro a M hr) ?_;rintro a' w' ⟨S',M',rfl,hr',he,hd,hrt⟩;exact jO n K l S' a' M' hr' (Nat.le_trans hn he.len) hrt λS2 a2 M2 hr2 he2 hd2 hk2=>hq S2 a2 M2 hr2 ((he.weaken hn).trans he2) (hd2.trans hd) hk2
   | false =>
     simp only[Bool.false_eq_true,if_false];have hp:=hr.put (d:=.tup []) (v:=undef) hr.m (Ext.refl M) (.tup _ _ rfl (λj d v h=>by simp at h)) o.dst;rw[show ({ S with objs:=M.objs }:DS)=S from by rw[hr.ob]] at hp;exact⟨λ_ _=>trivial,jO n K l _ _ M hp hn (hf rfl) λS2 a2 M2 hr2 he2 hd2 hk2=>hq S2 a2 M2 hr2 he2 (hd2.trans (r5 _ _ _)) hk2⟩
theorem iT {id:Nat} {l:List Oper} (h:RT P G (l.map (·.dst)) l S (λS'=>Q .normal S')):DT P G n (.region id l.toArray false) S Q:=by
 intro hn hd a M hr;refine wpIn_region_lit (jO n.n _ l S a M hr (by rw[hr.ob];exact hn) (by simpa using h) λS' a' M' hr' he hde hk=>⟨S',M',rfl,hr',he,.same hde,hk⟩)
end
end Go.Ab
