/- Part 10 of the proofs. -/
import Derived.ProofKit
import Derived.LaidMore
import Derived.Stop.Joined
import Derived.Carry
import Derived.OpenShut
import Derived.Test.YtlmlkkoapahmjaaGreatDoorS09
set_option linter.all false
set_option maxHeartbeats 100000000
namespace Go.Ab
open Go
def uc (W:World) (b:Nat):Prop:=b<W.heap.size
def CellsR (W:World) (cs:List Value) (l:List IC):Prop:=cs.length=l.length/\∀ (j:Nat) (c:IC) (v:Value),l[j]?=some c->cs[j]?=some v->RepI W (uc W) c v
theorem CellsR.append {W:World} {a b:List Value} {l r:List IC} (h:CellsR W a l) (k:CellsR W b r):CellsR W (a++b) (l++r):=by
 refine⟨by rw[List.length_append,List.length_append,h.1,k.1],λj c v hc hv=>?_⟩;by_cases hj:j<l.length
 ·rw[List.getElem?_append_left hj] at hc;rw[List.getElem?_append_left (by rw[h.1];exact hj)] at hv;exact h.2 j c v hc hv
 ·rw[List.getElem?_append_right (by omega)] at hc;rw[List.getElem?_append_right (by rw[h.1];omega),h.1] at hv;exact k.2 _ c v hc hv
theorem CellsR.one {W:World} {v:Value} {c:IC} (h:RepI W (uc W) c v):CellsR W [v] [c]:=
 ⟨rfl,λj c' v' hc hv=>by
  match j with
  | 0=>simp at hc hv;subst hc;subst hv;exact h
  | j+1=>simp at hc⟩
def Opens (P:Program) (t:TypeId) (S:List IC->Prop):Prop:=
 ∀ (H:Type) (enc:TypeId×Value->H) (W:World) (fuel:Nat) (cs:List Value) (x:DataW H×List MemPlace),DataW.trod enc P W 0 (λ_=>true) true fuel t cs=some x->∃ l,S l/\CellsR W cs l
theorem Opens.mono {P:Program} {t:TypeId} {S S':List IC->Prop} (h:Opens P t S) (hs:∀ l,S l->S' l):Opens P t S':=λH enc W fuel cs x hx=>by
 obtain⟨l,h1,h2⟩:=h H enc W fuel cs x hx;exact⟨l,hs l h1,h2⟩
theorem Opens.int {P:Program} {t:TypeId} {k:IntKind} (ht:P.underlying t=some (.int k)):Opens P t (λl=>∃ n:Int,(k.min<=n/\n<=k.max)/\l=[.raw (.int k n)]):=λH enc W fuel cs x hx=>by
 obtain⟨n,rfl,_,hw⟩:=DataW.trod_int ht hx;simp only[Lit.wf,Bool.and_eq_true,decide_eq_true_eq] at hw;exact⟨_,⟨n,hw,rfl⟩,.one (.raw _ rfl)⟩
theorem Opens.bool {P:Program} {t:TypeId} (ht:P.underlying t=some .bool):Opens P t (λl=>∃ b:Bool,l=[.raw (.bool b)]):=λH enc W fuel cs x hx=>by
 obtain⟨b,rfl,_⟩:=DataW.trod_bool ht hx;exact⟨_,⟨b,rfl⟩,.one (.raw _ rfl)⟩
theorem U6 {w:World} {a:Addr} {v:Value} (h:w.cell? a=some v):a.block<w.heap.size:=by
 unfold World.cell? at h;refine Nat.lt_of_not_le λhge=>?_;have:w.heap[a.block]?=none:=Array.getElem?_eq_none hge;simp[this] at h
theorem pq {α:Type} {n:Nat} {p:Nat->α->Prop} (h:∀ i,i<n->∃ a,p i a):∃ l:List α,l.length=n/\∀ (i:Nat) (a:α),l[i]?=some a->p i a:=by
 induction n with
 | zero=>exact⟨[],rfl,λi a h=>by simp at h⟩
 | succ n ih =>
   obtain⟨l,h1,h2⟩:=ih λi hi=>h i (by omega);obtain⟨a,ha⟩:=h n (by omega);refine⟨l++[a],by simp[h1],λi b hb=>?_⟩;by_cases hi:i<l.length
   ·rw[List.getElem?_append_left hi] at hb;exact h2 i b hb
   ·rw[List.getElem?_append_right (by omega)] at hb;have h0:i-l.length=0:=by
     have:=e7 hb;simp at this;omega
    rw[h0] at hb;simp at hb;subst hb;rw[show i=n by omega];exact ha
theorem Gp (b o i j:Nat):((⟨b,o,none⟩:Addr).add i).add j=⟨b,o+i+j,none⟩:=by
 unfold Addr.add;by_cases hi:i=0<;>by_cases hj:j=0<;>simp[hi,hj]
theorem Opens.slice {P:Program} {t e:TypeId} {S:List IC->Prop} {sz:Nat} (ht:P.underlying t=some (.slice e)) (hc:P.cellsOf e=sz) (h0:0<sz) (he:Opens P e S) (hS:∀ l,S l->l.length=sz) :
 Opens P t (λl=>∃ es:List (List IC),(∀ x∈es,S x)/\l=[.sl es]):=λH enc W fuel cs x hx=>by
 rcases DataW.trod_slice ht hx with⟨rfl,_⟩|⟨a,len,cap,elems,rest,n,_,rfl,_,_,hl,_,hlen,hel,_⟩
 ·exact⟨_,⟨[],by simp,rfl⟩,.one .slnil⟩
 ·rw[hc] at hel;have key:∀ i,i<len->∃ q:List IC×List Value,S q.1/\W.cells? 0 (a.add (i*sz)) sz=some q.2/\CellsR W q.2 q.1:=λi hi=>by
   have hE:=hel i hi;have hel':elems[i]?=some elems[i]:=by simp[hlen,hi]
   rw[hel',Option.bind_eq_some_iff] at hE;obtain⟨c1,hc1,hy⟩:=hE;obtain⟨l,hS1,hR⟩:=he H enc W n c1 _ hy;exact⟨(l,c1),hS1,hc1,hR⟩
  obtain⟨q,hq1,hq2⟩:=pq key;refine⟨_,⟨q.map (·.1),λx hx=>?_,rfl⟩,.one ?_⟩
  ·obtain⟨y,hy,rfl⟩:=List.mem_map.1 hx;obtain⟨i,hi⟩:=List.mem_iff_getElem?.1 hy;exact(hq2 i y hi).1
  ·by_cases hz:len=0
   ·subst hz;have:q=[]:=List.length_eq_zero_iff.1 hq1;subst this;exact .slz a cap
   ·have cell:∀ (i:Nat) (y:List IC×List Value) (j:Nat) (v:Value),q[i]?=some y->y.2[j]?=some v->j<sz->W.cell? ((a.add (i*sz)).add j)=some v:=λi y j v hy hv hj=>by
     obtain⟨_,h2,_⟩:=hq2 i y hy;obtain⟨_,_,h4⟩:=World.cells?_some h2;rw[h4 j hj];exact hv
    have hq0:0<q.length:=by omega
    have hy0:q[0]?=some q[0]:=by simp
    obtain⟨s1,s2,s3⟩:=hq2 0 q[0] hy0;obtain⟨_,s5,_⟩:=World.cells?_some s2;have hl0:0<(q[0]).2.length:=by rw[s5];exact h0
    have hv0:(q[0]).2[0]?=some (q[0]).2[0]:=by simp
    have hcell0:=cell 0 q[0] 0 _ hy0 hv0 h0;have hspot:a.spot=none:=by
     have:=World.cell?_spot hcell0;simpa[Addr.add] using this
    have hblk:a.block<W.heap.size:=by
     have:=U6 hcell0;simpa[Addr.add] using this
    have hll:(q.map (·.1)).length=len:=by simp[hq1]
    rw[<- hll];refine .sl _ a cap sz (λi j=>(((q[i]?).map (·.2)).getD [])[j]?.getD undef) hspot (λ_=>hblk) (by rw[hll];exact hl) (λi x hx=>?_) (λi x j c hx hj=>?_) (λi x j c hx hj=>?_)
    ·rw[List.getElem?_map,Option.map_eq_some_iff] at hx;obtain⟨y,hy,rfl⟩:=hx;exact hS _ (hq2 i y hy).1
    ·rw[List.getElem?_map,Option.map_eq_some_iff] at hx;obtain⟨y,hy,rfl⟩:=hx;obtain⟨t1,t2,t3⟩:=hq2 i y hy;have hjl:=e7 hj;have hjs:j<sz:=by rw[<- hS _ t1];exact hjl
     have hjl2:j<y.2.length:=by rw[t3.1];exact hjl
     have hv:y.2[j]?=some y.2[j]:=by simp[hjl2]
     have:=cell i y j _ hy hv hjs;simp only[hy,Option.map_some,Option.getD_some,hv];have ha:(⟨a.block,a.off+i*sz+j,none⟩:Addr)=(a.add (i*sz)).add j:=by
      obtain⟨b,o,s⟩:=a;simp only at hspot;subst hspot;exact(Gp b o (i*sz) j).symm
     rw[ha];exact this
    ·rw[List.getElem?_map,Option.map_eq_some_iff] at hx;obtain⟨y,hy,rfl⟩:=hx;obtain⟨t1,t2,t3⟩:=hq2 i y hy;have hjl:=e7 hj;have hjl2:j<y.2.length:=by rw[t3.1];exact hjl
     have hv:y.2[j]?=some y.2[j]:=by simp[hjl2]
     simp only[hy,Option.map_some,Option.getD_some,hv];exact t3.2 j c _ hj hv
def cE (P:Program):List Field->Nat->Nat->Bool
 | [],o,e=>decide (o=e)
 | f :: fs,o,e=>decide (f.offset=o)&&cE P fs (o+P.cellsOf f.type) e
theorem om {P:Program}:∀ {fs:List Field} {o e:Nat},cE P fs o e=true->o<=e
 | [],o,e,h=>by simp[cE] at h;omega
 | f :: fs,o,e,h=>by
   simp only[cE,Bool.and_eq_true] at h;have:=om h.2;omega
theorem gv {P:Program} {W:World} {cs:List Value}:∀ (fs:List Field) (o e:Nat) (S:Nat->List IC->Prop),cE P fs o e=true->e<=cs.length->(∀ (i:Nat) (f:Field),fs[i]?=some f->∃ l,S i l/\CellsR W ((cs.drop f.offset).take (P.cellsOf f.type)) l) ->
 ∃ ls:List (List IC),ls.length=fs.length/\(∀ (i:Nat) (l:List IC),ls[i]?=some l->S i l)/\CellsR W ((cs.drop o).take (e-o)) ls.flatten
 | [],o,e,S,ht,_,_=>by
   simp[cE] at ht;subst ht;exact⟨[],rfl,λi l h=>by simp at h,by simp[CellsR]⟩
 | f :: fs,o,e,S,ht,he,hS=>by
   simp only[cE,Bool.and_eq_true,decide_eq_true_eq] at ht;obtain⟨rfl,ht⟩:=ht;obtain⟨l,h1,h2⟩:=hS 0 f rfl;obtain⟨ls,h3,h4,h5⟩:=gv fs _ e (λi=>S (i+1)) ht he λi g hg=>hS (i+1) g (by simpa using hg);have hle:=om ht;refine⟨l :: ls,by simp[h3],λi k hk=>?_,?_⟩
   ·cases i with
    | zero=>simp at hk;subst hk;exact h1
    | succ i=>exact h4 i k (by simpa using hk)
   ·rw[List.flatten_cons];have hsplit:(cs.drop f.offset).take (e-f.offset)=(cs.drop f.offset).take (P.cellsOf f.type)++(cs.drop (f.offset+P.cellsOf f.type)).take (e-(f.offset+P.cellsOf f.type)):=by
     rw[show e-f.offset=P.cellsOf f.type+(e-(f.offset+P.cellsOf f.type)) by omega,List.take_add,List.drop_drop]
    rw[hsplit];exact h2.append h5
theorem Opens.struct {P:Program} {t:TypeId} {fs:Array Field} (ht:P.underlying t=some (.struct fs)) (htile:cE P fs.toList 0 (P.cellsOf t)=true) (S:Nat->List IC->Prop) (hS:∀ (i:Nat) (f:Field),fs.toList[i]?=some f->Opens P f.type (S i)) :
 Opens P t (λl=>∃ ls:List (List IC),ls.length=fs.size/\(∀ (i:Nat) (k:List IC),ls[i]?=some k->S i k)/\l=ls.flatten):=λH enc W fuel cs x hx=>by
 obtain⟨xs,n,_,_,hlen,hxl,hf⟩:=DataW.trod_struct ht hx;obtain⟨ls,h1,h2,h3⟩:=gv (P:=P) (W:=W) (cs:=cs) fs.toList 0 (P.cellsOf t) S htile (by omega) λi f hi=>by
  have hi':fs[i]?=some f:=by rw[<- Array.getElem?_toList];exact hi
  have hil:i<fs.size:=(Array.getElem?_eq_some_iff.1 hi').1;have h:=hf i f hi';have hx':xs[i]?=some xs[i]:=by simp[hxl,hil]
  rw[hx'] at h;exact hS i f hi H enc W n _ _ h
 refine⟨_,⟨ls,by simpa using h1,h2,rfl⟩,?_⟩;have:(cs.drop 0).take (P.cellsOf t-0)=cs:=by simp[<- hlen]
 rw[this] at h3;exact h3
def cu (W:World):MS:={ w:=W,β:=λ_=>0,objs:=[],F:=λ_=>False }
theorem nT (W:World) (b:Nat):(cu W).ok b↔uc W b:=by
 simp[MS.ok,MS.free,MS.live,cu,uc]
theorem yx {G:Hn} {W:World} (h:∀ g l,G g=some l->RepI W (uc W) (.ip l) (.pointer (some ⟨g,0,none⟩))):RelM G (cu W):=
 ⟨λo d ho=>by simp[cu] at ho,λo d ho=>by simp[cu] at ho,λo o' d d' ho=>by simp[cu] at ho,λg l hg=>(h g l hg).mono λb hb=>⟨(nT W b).2 hb,rfl⟩,λb hb=>hb.elim,λo d ho=>by simp[cu] at ho⟩
theorem RepV.ofCells {W:World} {cs:Array Value} {l:List IC} (h:CellsR W cs.toList l):RepV (cu W) (.agg (l.map .im)) (.agg cs):=by
 refine .agg _ _ (by simpa using h.1.symm) λj c v hj hv=>?_;rw[List.getElem?_map,Option.map_eq_some_iff] at hj;obtain⟨c0,hc,rfl⟩:=hj;rw[<- Array.getElem?_toList] at hv;exact .im _ _ ((h.2 j c0 v hc hv).mono λb hb=>⟨(nT W b).2 hb,rfl⟩)
theorem RepV.ofCell {W:World} {v:Value} {c:IC} (h:CellsR W [v] [c]):RepV (cu W) (.one (.im c)) v:=
 .one _ _ (.im _ _ ((h.2 0 c v rfl rfl).mono λb hb=>⟨(nT W b).2 hb,rfl⟩))
theorem DCall.calls {P:Program} {G:Hn} {f:FuncId} {args:List DV} {u:Value} {W:World} {vs:Array Value} (h:DCall P G f args [] (λd o=>d=.one (.im (.raw u))/\o=[]))
 (hG:∀ g l,G g=some l->RepI W (uc W) (.ip l) (.pointer (some ⟨g,0,none⟩))) (hs:vs.size=args.length) (ha:∀ (j:Nat) (d:DV) (v:Value),args[j]?=some d->vs[j]?=some v->RepV (cu W) d v) :
 Calls P f vs W λe W'=>e=.returned u/\Go.RowKit.Below W.heap.size W W':=by
 refine(h (cu W) vs (yx hG) rfl hs ha).mono ?_;rintro e w' ⟨v,d,M',rfl,rfl,_,hv,he,rfl,_⟩;have hvu:v=u:=by
  cases hv with
  | one _ _ hc=>cases hc with
    | im _ _ hi=>cases hi;rfl
 subst hvu;exact⟨rfl,⟨he.io.os,he.io.tape,he.io.output,he.hs,λk hk=>(he.free k ⟨hk,λ⟨o,d,h1,_⟩=>by simp[cu] at h1⟩).2⟩⟩
end Go.Ab
