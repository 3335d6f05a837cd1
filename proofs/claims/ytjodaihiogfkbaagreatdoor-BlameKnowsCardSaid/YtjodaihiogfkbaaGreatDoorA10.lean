/- Part 10 of the proofs. -/
import Derived.ProofKit
import Derived.LaidMore
import Derived.Stop.Joined
import Derived.Carry
import Derived.OpenShut
import Derived.Test.YtjodaihiogfkbaaGreatDoorProg
import Derived.KernelRfl
import Derived.Test.YtjodaihiogfkbaaGreatDoorA09
set_option linter.all false
set_option linter.deprecated false
set_option maxHeartbeats 100000000
namespace Go.Ab
open Go
def vC (W:World) (b:Nat):Prop:=b<W.heap.size
def CellsR (W:World) (cs:List Value) (l:List IC):Prop:=cs.length=l.length∧∀ (j:Nat) (c:IC) (v:Value),l[j]?=some c→cs[j]?=some v→RepI W (vC W) c v
theorem CellsR.append {W:World} {a b:List Value} {l r:List IC} (h:CellsR W a l) (k:CellsR W b r):CellsR W (a++b) (l++r):=by
 refine⟨by rw[List.length_append,List.length_append,h.1,k.1],fun j c v hc hv=>?_⟩
 by_cases hj:j<l.length
 ·rw[List.getElem?_append_left hj] at hc
  rw[List.getElem?_append_left (by rw[h.1];exact hj)] at hv
  exact h.2 j c v hc hv
 ·rw[List.getElem?_append_right (by omega)] at hc
  rw[List.getElem?_append_right (by rw[h.1];omega),h.1] at hv
  exact k.2 _ c v hc hv
theorem CellsR.one {W:World} {v:Value} {c:IC} (h:RepI W (vC W) c v):CellsR W [v] [c]:=
 ⟨rfl,fun j c' v' hc hv=>by
  match j with
  | 0=>simp at hc hv;subst hc;subst hv;exact h
  | j+1=>simp at hc⟩
def Opens (P:Program) (t:TypeId) (S:List IC→Prop):Prop:=
 ∀ (H:Type) (enc:TypeId×Value→H) (W:World) (fuel:Nat) (cs:List Value) (x:DataW H×List MemPlace),DataW.trod enc P W 0 (fun _=>true) true fuel t cs=some x→∃ l,S l∧CellsR W cs l
theorem Opens.mono {P:Program} {t:TypeId} {S S':List IC→Prop} (h:Opens P t S) (hs:∀ l,S l→S' l):Opens P t S':=fun H enc W fuel cs x hx=>by
 obtain⟨l,h1,h2⟩:=h H enc W fuel cs x hx
 exact⟨l,hs l h1,h2⟩
theorem Opens.int {P:Program} {t:TypeId} {k:IntKind} (ht:P.underlying t=some (.int k)):Opens P t (fun l=>∃ n:Int,(k.min≤n∧n≤k.max)∧l=[.raw (.int k n)]):=fun H enc W fuel cs x hx=>by
 obtain⟨n,rfl,_,hw⟩:=DataW.trod_int ht hx
 simp only[Lit.wf,Bool.and_eq_true,decide_eq_true_eq] at hw
 exact⟨_,⟨n,hw,rfl⟩,.one (.raw _ rfl)⟩
theorem Opens.bool {P:Program} {t:TypeId} (ht:P.underlying t=some .bool):Opens P t (fun l=>∃ b:Bool,l=[.raw (.bool b)]):=fun H enc W fuel cs x hx=>by
 obtain⟨b,rfl,_⟩:=DataW.trod_bool ht hx
 exact⟨_,⟨b,rfl⟩,.one (.raw _ rfl)⟩
theorem aG {w:World} {a:Addr} {v:Value} (h:w.cell? a=some v):a.block<w.heap.size:=by
 unfold World.cell? at h
 refine Nat.lt_of_not_le fun hge=>?_
 have:w.heap[a.block]?=none:=Array.getElem?_eq_none hge
 simp[this] at h
theorem oW {α:Type} {n:Nat} {p:Nat→α→Prop} (h:∀ i,i<n→∃ a,p i a):∃ l:List α,l.length=n∧∀ (i:Nat) (a:α),l[i]?=some a→p i a:=by
 induction n with
 | zero=>exact⟨[],rfl,fun i a h=>by simp at h⟩
 | succ n ih =>
   obtain⟨l,h1,h2⟩:=ih fun i hi=>h i (by omega)
   obtain⟨a,ha⟩:=h n (by omega)
   refine⟨l++[a],by simp[h1],fun i b hb=>?_⟩
   by_cases hi:i<l.length
   ·rw[List.getElem?_append_left hi] at hb;exact h2 i b hb
   ·rw[List.getElem?_append_right (by omega)] at hb
    have h0:i-l.length=0:=by
     have:=e7 hb;simp at this;omega
    rw[h0] at hb
    simp at hb;subst hb
    rw[show i=n by omega];exact ha
theorem FY (b o i j:Nat):((⟨b,o,none⟩:Addr).add i).add j=⟨b,o+i+j,none⟩:=by
 unfold Addr.add
 by_cases hi:i=0<;>by_cases hj:j=0<;>simp[hi,hj]
theorem Opens.slice {P:Program} {t e:TypeId} {S:List IC→Prop} {sz:Nat} (ht:P.underlying t=some (.slice e)) (hc:P.cellsOf e=sz) (h0:0<sz) (he:Opens P e S) (hS:∀ l,S l→l.length=sz) :
 Opens P t (fun l=>∃ es:List (List IC),(∀ x∈es,S x)∧l=[.sl es]):=fun H enc W fuel cs x hx=>by
 rcases DataW.trod_slice ht hx with⟨rfl,_⟩|⟨a,len,cap,elems,rest,n,_,rfl,_,_,hl,_,hlen,hel,_⟩
 ·exact⟨_,⟨[],by simp,rfl⟩,.one .slnil⟩
 ·rw[hc] at hel
  have key:∀ i,i<len→∃ q:List IC×List Value,S q.1∧W.cells? 0 (a.add (i*sz)) sz=some q.2∧CellsR W q.2 q.1:=fun i hi=>by
   have hE:=hel i hi
   have hel':elems[i]?=some elems[i]:=by simp[hlen,hi]
   rw[hel',Option.bind_eq_some_iff] at hE
   obtain⟨c1,hc1,hy⟩:=hE
   obtain⟨l,hS1,hR⟩:=he H enc W n c1 _ hy
   exact⟨(l,c1),hS1,hc1,hR⟩
  obtain⟨q,hq1,hq2⟩:=oW key
  refine⟨_,⟨q.map (·.1),fun x hx=>?_,rfl⟩,.one ?_⟩
  ·obtain⟨y,hy,rfl⟩:=List.mem_map.1 hx
   obtain⟨i,hi⟩:=List.mem_iff_getElem?.1 hy
   exact(hq2 i y hi).1
  ·by_cases hz:len=0
   ·subst hz
    have:q=[]:=List.length_eq_zero_iff.1 hq1
    subst this
    exact .slz a cap
   ·have cell:∀ (i:Nat) (y:List IC×List Value) (j:Nat) (v:Value),q[i]?=some y→y.2[j]?=some v→j<sz→W.cell? ((a.add (i*sz)).add j)=some v:=fun i y j v hy hv hj=>by
     obtain⟨_,h2,_⟩:=hq2 i y hy
     obtain⟨_,_,h4⟩:=World.cells?_some h2
     rw[h4 j hj];exact hv
    have hq0:0<q.length:=by omega
    have hy0:q[0]?=some q[0]:=by simp
    obtain⟨s1,s2,s3⟩:=hq2 0 q[0] hy0
    obtain⟨_,s5,_⟩:=World.cells?_some s2
    have hl0:0<(q[0]).2.length:=by rw[s5];exact h0
    have hv0:(q[0]).2[0]?=some (q[0]).2[0]:=by simp
    have hcell0:=cell 0 q[0] 0 _ hy0 hv0 h0
    have hspot:a.spot=none:=by
     have:=World.cell?_spot hcell0
     simpa[Addr.add] using this
    have hblk:a.block<W.heap.size:=by
     have:=aG hcell0
     simpa[Addr.add] using this
    have hll:(q.map (·.1)).length=len:=by simp[hq1]
    rw[← hll]
    refine .sl _ a cap sz (fun i j=>(((q[i]?).map (·.2)).getD [])[j]?.getD undef) hspot (fun _=>hblk) (by rw[hll];exact hl) (fun i x hx=>?_) (fun i x j c hx hj=>?_) (fun i x j c hx hj=>?_)
    ·rw[List.getElem?_map,Option.map_eq_some_iff] at hx
     obtain⟨y,hy,rfl⟩:=hx
     exact hS _ (hq2 i y hy).1
    ·rw[List.getElem?_map,Option.map_eq_some_iff] at hx
     obtain⟨y,hy,rfl⟩:=hx
     obtain⟨t1,t2,t3⟩:=hq2 i y hy
     have hjl:=e7 hj
     have hjs:j<sz:=by rw[← hS _ t1];exact hjl
     have hjl2:j<y.2.length:=by rw[t3.1];exact hjl
     have hv:y.2[j]?=some y.2[j]:=by simp[hjl2]
     have:=cell i y j _ hy hv hjs
     simp only[hy,Option.map_some,Option.getD_some,hv]
     have ha:(⟨a.block,a.off+i*sz+j,none⟩:Addr)=(a.add (i*sz)).add j:=by
      obtain⟨b,o,s⟩:=a
      simp only at hspot
      subst hspot
      exact(FY b o (i*sz) j).symm
     rw[ha];exact this
    ·rw[List.getElem?_map,Option.map_eq_some_iff] at hx
     obtain⟨y,hy,rfl⟩:=hx
     obtain⟨t1,t2,t3⟩:=hq2 i y hy
     have hjl:=e7 hj
     have hjl2:j<y.2.length:=by rw[t3.1];exact hjl
     have hv:y.2[j]?=some y.2[j]:=by simp[hjl2]
     simp only[hy,Option.map_some,Option.getD_some,hv]
     exact t3.2 j c _ hj hv
def cr (P:Program):List Field→Nat→Nat→Bool
 | [],o,e=>decide (o=e)
 | f :: fs,o,e=>decide (f.offset=o)&&cr P fs (o+P.cellsOf f.type) e
theorem nJ {P:Program}:∀ {fs:List Field} {o e:Nat},cr P fs o e=true→o≤e
 | [],o,e,h=>by simp[cr] at h;omega
 | f :: fs,o,e,h=>by
   simp only[cr,Bool.and_eq_true] at h
   have:=nJ h.2;omega
theorem fP {P:Program} {W:World} {cs:List Value}:∀ (fs:List Field) (o e:Nat) (S:Nat→List IC→Prop),cr P fs o e=true→e≤cs.length→(∀ (i:Nat) (f:Field),fs[i]?=some f→∃ l,S i l∧CellsR W ((cs.drop f.offset).take (P.cellsOf f.type)) l) →
 ∃ ls:List (List IC),ls.length=fs.length∧(∀ (i:Nat) (l:List IC),ls[i]?=some l→S i l)∧CellsR W ((cs.drop o).take (e-o)) ls.flatten
 | [],o,e,S,ht,_,_=>by
   simp[cr] at ht
   subst ht
   exact⟨[],rfl,fun i l h=>by simp at h,by simp[CellsR]⟩
 | f :: fs,o,e,S,ht,he,hS=>by
   simp only[cr,Bool.and_eq_true,decide_eq_true_eq] at ht
   obtain⟨rfl,ht⟩:=ht
   obtain⟨l,h1,h2⟩:=hS 0 f rfl
   obtain⟨ls,h3,h4,h5⟩:=fP fs _ e (fun i=>S (i+1)) ht he fun i g hg=>hS (i+1) g (by simpa using hg)
   have hle:=nJ ht
   refine⟨l :: ls,by simp[h3],fun i k hk=>?_,?_⟩
   ·cases i with
    | zero=>simp at hk;subst hk;exact h1
    | succ i=>exact h4 i k (by simpa using hk)
   ·rw[List.flatten_cons]
    have hsplit:(cs.drop f.offset).take (e-f.offset)=(cs.drop f.offset).take (P.cellsOf f.type)++(cs.drop (f.offset+P.cellsOf f.type)).take (e-(f.offset+P.cellsOf f.type)):=by
     rw[show e-f.offset=P.cellsOf f.type+(e-(f.offset+P.cellsOf f.type)) by omega,List.take_add,List.drop_drop]
    rw[hsplit]
    exact h2.append h5
theorem Opens.struct {P:Program} {t:TypeId} {fs:Array Field} (ht:P.underlying t=some (.struct fs)) (htile:cr P fs.toList 0 (P.cellsOf t)=true) (S:Nat→List IC→Prop) (hS:∀ (i:Nat) (f:Field),fs.toList[i]?=some f→Opens P f.type (S i)) :
 Opens P t (fun l=>∃ ls:List (List IC),ls.length=fs.size∧(∀ (i:Nat) (k:List IC),ls[i]?=some k→S i k)∧l=ls.flatten):=fun H enc W fuel cs x hx=>by
 obtain⟨xs,n,_,_,hlen,hxl,hf⟩:=DataW.trod_struct ht hx
 obtain⟨ls,h1,h2,h3⟩:=fP (P:=P) (W:=W) (cs:=cs) fs.toList 0 (P.cellsOf t) S htile (by omega) fun i f hi=>by
  have hi':fs[i]?=some f:=by rw[← Array.getElem?_toList];exact hi
  have hil:i<fs.size:=(Array.getElem?_eq_some_iff.1 hi').1
  have h:=hf i f hi'
  have hx':xs[i]?=some xs[i]:=by simp[hxl,hil]
  rw[hx'] at h
  exact hS i f hi H enc W n _ _ h
 refine⟨_,⟨ls,by simpa using h1,h2,rfl⟩,?_⟩
 have:(cs.drop 0).take (P.cellsOf t-0)=cs:=by simp[← hlen]
 rw[this] at h3;exact h3
def ci (W:World):MS:={ w:=W,β:=fun _=>0,objs:=[],F:=fun _=>False }
theorem nw (W:World) (b:Nat):(ci W).ok b↔vC W b:=by
 simp[MS.ok,MS.free,MS.live,ci,vC]
theorem ym {G:GW} {W:World} (h:∀ g l,G g=some l→RepI W (vC W) (.ip l) (.pointer (some ⟨g,0,none⟩))):RelM G (ci W):=
 ⟨fun o d ho=>by simp[ci] at ho,fun o d ho=>by simp[ci] at ho,fun o o' d d' ho=>by simp[ci] at ho,fun g l hg=>(h g l hg).mono fun b hb=>⟨(nw W b).2 hb,rfl⟩,fun b hb=>hb.elim,fun o d ho=>by simp[ci] at ho⟩
theorem RepV.ofCells {W:World} {cs:Array Value} {l:List IC} (h:CellsR W cs.toList l):RepV (ci W) (.agg (l.map .im)) (.agg cs):=by
 refine .agg _ _ (by simpa using h.1.symm) fun j c v hj hv=>?_
 rw[List.getElem?_map,Option.map_eq_some_iff] at hj
 obtain⟨c0,hc,rfl⟩:=hj
 rw[← Array.getElem?_toList] at hv
 exact .im _ _ ((h.2 j c0 v hc hv).mono fun b hb=>⟨(nw W b).2 hb,rfl⟩)
theorem RepV.ofCell {W:World} {v:Value} {c:IC} (h:CellsR W [v] [c]):RepV (ci W) (.one (.im c)) v:=
 .one _ _ (.im _ _ ((h.2 0 c v rfl rfl).mono fun b hb=>⟨(nw W b).2 hb,rfl⟩))
theorem DCall.calls {P:Program} {G:GW} {f:FuncId} {args:List DV} {u:Value} {W:World} {vs:Array Value} (h:DCall P G f args [] (fun d o=>d=.one (.im (.raw u))∧o=[]))
 (hG:∀ g l,G g=some l→RepI W (vC W) (.ip l) (.pointer (some ⟨g,0,none⟩))) (hs:vs.size=args.length) (ha:∀ (j:Nat) (d:DV) (v:Value),args[j]?=some d→vs[j]?=some v→RepV (ci W) d v) :
 Calls P f vs W fun e W'=>e=.returned u∧Go.RowKit.Below W.heap.size W W':=by
 refine(h (ci W) vs (ym hG) rfl hs ha).mono ?_
 rintro e w' ⟨v,d,M',rfl,rfl,_,hv,he,rfl,_⟩
 have hvu:v=u:=by
  cases hv with
  | one _ _ hc=>cases hc with
    | im _ _ hi=>cases hi;rfl
 subst hvu
 exact⟨rfl,⟨he.io.os,he.io.tape,he.io.output,he.hs,fun k hk=>(he.free k ⟨hk,fun ⟨o,d,h1,_⟩=>by simp[ci] at h1⟩).2⟩⟩
end Go.Ab
namespace Go.Proofs
open Go Go.Ab Tryz
abbrev yA (n:Nat) (a:Nat) (b:Bool) (c:Option Nat) (d:Option (Nat×Nat)) (e:Option IntKind) (f:Bool) (g:Nat) (z:List Value):Prop:=aI prog n=some a∧lq prog n=some b∧af prog n=c∧zi prog n=d∧vQ prog n=e∧sm prog n=f∧av prog n=some g∧E6 prog n=some z
abbrev yB (n i o a b:Nat) (c:Bool):Prop:=zg prog n i=some o∧qa prog n i=some (a,b,c)
abbrev yC (n:Nat):Prop:=D4 prog n
theorem yk {p:Prop} (h:p:=by (repeat' refine And.intro ?_ ?_)<;>kernel_rfl):p:=h
@[simp] theorem Tryz.y3:yA 3 1 false none none (some .i64) false 8 [.int .i64 0]∧yA 4 1 false none none none true 1 [.bool false]∧yA 5 1 false none none (some .u8) false 1 [.int .u8 0]∧yA 22 1 false (some 178) none none false 24 [.slice none 0 0]:=yk
@[simp] theorem Tryz.y24:yA 24 1 true none none none false 24 [.slice none 0 0]∧yB 24 0 0 0 1 false∧l6 prog 24=some [(0,1)]∧yA 25 1 false (some 95) none none false 24 [.slice none 0 0]∧yA 27 2 true none none none false 48 [.slice none 0 0,.slice none 0 0]∧yB 27 0 0 0 1 true∧yB 27 1 1 1 1 false∧l6 prog 27=some [(0,1),(1,1)]∧yA 28 1 false (some 201) none none false 24 [.slice none 0 0]:=yk
@[simp] theorem Tryz.y29:yA 29 1 false (some 221) none none false 24 [.slice none 0 0]∧yA 31 4 true none none none false 96 [.slice none 0 0,.slice none 0 0,.slice none 0 0,.slice none 0 0]∧yB 31 0 0 0 2 true∧yB 31 1 2 2 1 false∧yB 31 2 3 3 1 false∧l6 prog 31=some [(0,2),(2,1),(3,1)]∧yA 32 1 false (some 111) none none false 24 [.slice none 0 0]∧yA 34 2 true none none none false 16 [.int .i64 0,.int .i64 0]∧yB 34 0 0 0 1 false∧yB 34 1 1 1 1 false∧r9 prog 34=some [.int .i64,.int .i64]∧l6 prog 34=some [(0,1),(1,1)]:=yk
@[simp] theorem Tryz.y36:yA 36 3 true none none none false 40 [.slice none 0 0,.int .i64 0,.int .i64 0]∧yB 36 0 0 0 1 false∧yB 36 1 1 1 2 true∧l6 prog 36=some [(0,1),(1,2)]∧yA 37 1 false (some 79) none none false 24 [.slice none 0 0]∧yA 39 10 true none none none false 176 [.slice none 0 0,.slice none 0 0,.slice none 0 0,.slice none 0 0,.int .i64 0,.int .i64 0,.slice none 0 0,.int .i64 0,.int .i64 0,.slice none 0 0]∧yB 39 0 0 0 4 true∧yB 39 1 4 4 1 false∧yB 39 2 5 5 1 false∧yB 39 3 6 6 3 true∧yB 39 4 9 9 1 false∧l6 prog 39=some [(0,4),(4,1),(5,1),(6,3),(9,1)]∧yA 40 1 false (some 3) none none false 24 [.slice none 0 0]:=yk
@[simp] theorem Tryz.y42:yA 42 2 true none none none false 16 [.int .u8 0,.int .i64 0]∧yB 42 0 0 0 1 false∧yB 42 1 1 1 1 false∧r9 prog 42=some [.int .u8,.int .i64]∧l6 prog 42=some [(0,1),(1,1)]∧yA 52 1 false (some 42) none none false 24 [.slice none 0 0]∧yA 79 4 true none none none false 32 [.int .i64 0,.int .i64 0,.int .i64 0,.int .i64 0]∧yB 79 0 0 0 1 false∧yB 79 1 1 1 1 false∧yB 79 2 2 2 2 true∧r9 prog 79=none∧bG prog 79=some [.int .i64,.int .i64,.int .i64,.int .i64]∧l6 prog 79=some [(0,1),(1,1),(2,2)]∧yA 87 1 false (some 40) none none false 24 [.slice none 0 0]:=yk
@[simp] theorem Tryz.y95:yA 95 10 true none none none false 72 [.int .i64 0,.int .i64 0,.int .u8 0,.int .i64 0,.int .i64 0,.int .i64 0,.int .i64 0,.int .i64 0,.bool false,.int .u8 0]∧yB 95 0 0 0 1 false∧yB 95 1 1 1 1 false∧yB 95 2 2 2 1 false∧yB 95 3 3 3 1 false∧yB 95 4 4 4 1 false∧yB 95 5 5 5 1 false∧yB 95 6 6 6 1 false∧yB 95 7 7 7 1 false∧yB 95 8 8 8 1 false∧yB 95 9 9 9 1 false∧r9 prog 95=some [.int .i64,.int .i64,.int .u8,.int .i64,.int .i64,.int .i64,.int .i64,.int .i64,.bool,.int .u8]∧l6 prog 95=some [(0,1),(1,1),(2,1),(3,1),(4,1),(5,1),(6,1),(7,1),(8,1),(9,1)]∧yA 102 3 true none none none false 24 [.int .i64 0,.int .i64 0,.int .i64 0]∧yB 102 0 0 0 1 false∧yB 102 1 1 1 1 false∧yB 102 2 2 2 1 false∧r9 prog 102=some [.int .i64,.int .i64,.int .i64]∧l6 prog 102=some [(0,1),(1,1),(2,1)]∧yA 108 1 false (some 102) none none false 24 [.slice none 0 0]∧yA 111 3 true none none none false 24 [.int .i64 0,.int .i64 0,.bool false]∧yB 111 0 0 0 1 false∧yB 111 1 1 1 1 false∧yB 111 2 2 2 1 false∧r9 prog 111=some [.int .i64,.int .i64,.bool]∧l6 prog 111=some [(0,1),(1,1),(2,1)]:=yk
@[simp] theorem Tryz.y116:yA 116 1 false (some 123) none none false 24 [.slice none 0 0]∧yA 119 1 false (some 284) none none false 24 [.slice none 0 0]∧yA 123 1 false none none none false 8 [.pointer none]∧yA 129 1 false none none none false 8 [.map none]∧cm prog 129=some (42,5):=yk
@[simp] theorem Tryz.y143:yA 143 1 false (some 146) none none false 24 [.slice none 0 0]∧yA 145 12 true none none none false 208 [.slice none 0 0,.slice none 0 0,.slice none 0 0,.slice none 0 0,.int .i64 0,.int .i64 0,.slice none 0 0,.int .i64 0,.int .i64 0,.slice none 0 0,.bool false,.slice none 0 0]∧yB 145 0 0 0 10 true∧yB 145 1 10 10 1 false∧yB 145 2 11 11 1 false∧l6 prog 145=some [(0,10),(10,1),(11,1)]∧yA 146 1 false (some 148) none none false 24 [.slice none 0 0]∧yA 148 2 true none (some (2,4)) none false 2 [.bool false,.bool false]∧l6 prog 148=some [(0,1),(1,1)]∧eqArrOk.tarr' prog 148=some (2,4)∧r9 prog 148=none∧bG prog 148=some [.bool,.bool]:=yk
@[simp] theorem Tryz.y151:yA 151 4 true none (some (4,4)) none false 4 [.bool false,.bool false,.bool false,.bool false]∧l6 prog 151=some [(0,1),(1,1),(2,1),(3,1)]∧eqArrOk.tarr' prog 151=some (4,4)∧r9 prog 151=none∧bG prog 151=some [.bool,.bool,.bool,.bool]∧yA 165 1 false (some 36) none none false 24 [.slice none 0 0]∧yA 167 4 true none none none false 80 [.slice none 0 0,.slice none 0 0,.int .i64 0,.slice none 0 0]∧yB 167 0 0 0 1 true∧yB 167 1 1 1 1 false∧yB 167 2 2 2 1 false∧yB 167 3 3 3 1 false∧l6 prog 167=some [(0,1),(1,1),(2,1),(3,1)]∧yA 169 1 false none none none false 8 [.pointer none]:=yk
@[simp] theorem Tryz.y174:yA 174 4 true none none none false 96 [.slice none 0 0,.slice none 0 0,.slice none 0 0,.slice none 0 0]∧yB 174 0 0 0 2 true∧yB 174 1 2 2 1 false∧yB 174 2 3 3 1 false∧l6 prog 174=some [(0,2),(2,1),(3,1)]∧yA 176 1 false (some 181) none none false 24 [.slice none 0 0]∧yA 178 5 true none none none false 72 [.int .i64 0,.int .i64 0,.int .u8 0,.slice none 0 0,.slice none 0 0]∧yB 178 0 0 0 1 false∧yB 178 1 1 1 1 false∧yB 178 2 2 2 1 false∧yB 178 3 3 3 1 false∧yB 178 4 4 4 1 false∧l6 prog 178=some [(0,1),(1,1),(2,1),(3,1),(4,1)]∧yA 181 2 true none none none false 16 [.int .i64 0,.int .i64 0]∧yB 181 0 0 0 1 false∧yB 181 1 1 1 1 false∧r9 prog 181=some [.int .i64,.int .i64]∧l6 prog 181=some [(0,1),(1,1)]:=yk
@[simp] theorem Tryz.y189:yA 189 2 true none none none false 16 [.int .i64 0,.int .i64 0]∧yB 189 0 0 0 1 false∧yB 189 1 1 1 1 false∧r9 prog 189=some [.int .i64,.int .i64]∧l6 prog 189=some [(0,1),(1,1)]∧yA 192 1 false none none none false 8 [.pointer none]∧yA 198 1 false none none none false 8 [.nilFunc]∧yA 201 4 true none none none false 48 [.int .i64 0,.int .i64 0,.int .i64 0,.slice none 0 0]∧yB 201 0 0 0 1 false∧yB 201 1 1 1 1 false∧yB 201 2 2 2 1 false∧yB 201 3 3 3 1 false∧l6 prog 201=some [(0,1),(1,1),(2,1),(3,1)]:=yk
@[simp] theorem Tryz.y209:yA 209 1 false none none none false 8 [.nilFunc]∧yA 210 1 true none none none false 8 [.nilFunc]∧yB 210 0 0 0 1 false∧l6 prog 210=some [(0,1)]∧yA 211 4 true none (some (4,210)) none false 32 [.nilFunc,.nilFunc,.nilFunc,.nilFunc]∧l6 prog 211=some [(0,1),(1,1),(2,1),(3,1)]∧eqArrOk.tarr' prog 211=some (4,210)∧r9 prog 211=none∧yA 221 7 true none none none false 56 [.int .i64 0,.int .i64 0,.int .i64 0,.int .i64 0,.int .i64 0,.int .i64 0,.int .u8 0]∧yB 221 0 0 0 1 false∧yB 221 1 1 1 1 false∧yB 221 2 2 2 1 false∧yB 221 3 3 3 2 true∧yB 221 4 5 5 1 false∧yB 221 5 6 6 1 false∧r9 prog 221=none∧bG prog 221=some [.int .i64,.int .i64,.int .i64,.int .i64,.int .i64,.int .i64,.int .u8]∧l6 prog 221=some [(0,1),(1,1),(2,1),(3,2),(5,1),(6,1)]:=yk
@[simp] theorem Tryz.y254:yA 254 1 false none none none false 8 [.nilFunc]∧yA 256 1 true none none none false 8 [.nilFunc]∧yB 256 0 0 0 1 false∧l6 prog 256=some [(0,1)]∧yA 257 8 true none (some (8,256)) none false 64 [.nilFunc,.nilFunc,.nilFunc,.nilFunc,.nilFunc,.nilFunc,.nilFunc,.nilFunc]∧l6 prog 257=some [(0,1),(1,1),(2,1),(3,1),(4,1),(5,1),(6,1),(7,1)]∧eqArrOk.tarr' prog 257=some (8,256)∧r9 prog 257=none∧yA 259 1 false none none none false 8 [.pointer none]:=yk
@[simp] theorem Tryz.y267:yA 267 5 true none none none false 120 [.slice none 0 0,.slice none 0 0,.slice none 0 0,.slice none 0 0,.slice none 0 0]∧yB 267 0 0 0 4 true∧yB 267 1 4 4 1 false∧l6 prog 267=some [(0,4),(4,1)]∧yA 282 1 false none none none false 8 [.map none]∧cm prog 282=some (284,4)∧yA 284 2 true none (some (2,3)) none false 16 [.int .i64 0,.int .i64 0]∧l6 prog 284=some [(0,1),(1,1)]∧eqArrOk.tarr' prog 284=some (2,3)∧r9 prog 284=none∧bG prog 284=some [.int .i64,.int .i64]∧yA 286 2 true none none none false 48 [.slice none 0 0,.slice none 0 0]∧yB 286 0 0 0 1 true∧yB 286 1 1 1 1 false∧l6 prog 286=some [(0,1),(1,1)]:=yk
@[simp] theorem Tryz.y287:yA 287 1 false none none (some .u64) false 8 [.int .u64 0]∧yA 309 1 false none none none false 8 [.nilFunc]∧yA 310 1 true none none none false 8 [.nilFunc]∧yB 310 0 0 0 1 false∧l6 prog 310=some [(0,1)]∧yA 311 4 true none (some (4,310)) none false 32 [.nilFunc,.nilFunc,.nilFunc,.nilFunc]∧l6 prog 311=some [(0,1),(1,1),(2,1),(3,1)]∧eqArrOk.tarr' prog 311=some (4,310)∧r9 prog 311=none:=yk
@[simp] theorem Tryz.y314:yA 314 1 false none none none false 8 [.map none]∧cm prog 314=some (3,3)∧yA 323 1 false none none none false 8 [.map none]∧cm prog 323=some (3,4)∧yA 337 1 false (some 4) none none false 24 [.slice none 0 0]∧yA 347 1 false none none none false 8 [.map none]∧cm prog 347=some (3,178):=yk
@[simp] theorem Tryz.y349:yA 349 6 true none none none false 96 [.slice none 0 0,.slice none 0 0,.int .i64 0,.slice none 0 0,.map none,.map none]∧yB 349 0 0 0 4 true∧yB 349 1 4 4 1 false∧yB 349 2 5 5 1 false∧l6 prog 349=some [(0,4),(4,1),(5,1)]∧yA 351 2 true none none none false 16 [.int .i64 0,.int .i64 0]∧yB 351 0 0 0 1 false∧yB 351 1 1 1 1 false∧r9 prog 351=some [.int .i64,.int .i64]∧l6 prog 351=some [(0,1),(1,1)]∧yA 371 1 false (some 351) none none false 24 [.slice none 0 0]∧yA 375 9 true none (some (9,4)) none false 9 [.bool false,.bool false,.bool false,.bool false,.bool false,.bool false,.bool false,.bool false,.bool false]∧l6 prog 375=some [(0,1),(1,1),(2,1),(3,1),(4,1),(5,1),(6,1),(7,1),(8,1)]∧eqArrOk.tarr' prog 375=some (9,4)∧r9 prog 375=none∧bG prog 375=some [.bool,.bool,.bool,.bool,.bool,.bool,.bool,.bool,.bool]:=yk
@[simp] theorem Tryz.y377:yA 377 1 false none none none false 8 [.nilFunc]∧yA 379 1 true none none none false 8 [.nilFunc]∧yB 379 0 0 0 1 false∧l6 prog 379=some [(0,1)]∧yA 380 5 true none (some (5,379)) none false 40 [.nilFunc,.nilFunc,.nilFunc,.nilFunc,.nilFunc]∧l6 prog 380=some [(0,1),(1,1),(2,1),(3,1),(4,1)]∧eqArrOk.tarr' prog 380=some (5,379)∧r9 prog 380=none∧yA 384 1 false none none none false 8 [.nilFunc]:=yk
@[simp] theorem Tryz.y385:yA 385 1 true none none none false 8 [.nilFunc]∧yB 385 0 0 0 1 false∧l6 prog 385=some [(0,1)]∧yA 386 3 true none (some (3,385)) none false 24 [.nilFunc,.nilFunc,.nilFunc]∧l6 prog 386=some [(0,1),(1,1),(2,1)]∧eqArrOk.tarr' prog 386=some (3,385)∧r9 prog 386=none∧yA 398 1 false none none none false 8 [.nilFunc]:=yk
@[simp] theorem GS:yC 15∧yC 16∧yC 17∧yC 18∧yC 19∧yC 20∧yC 21∧yC 22:=⟨call15,call16,call17,call18,call19,call20,call21,call22⟩
@[simp] theorem GR:yC 23∧yC 24∧yC 25∧yC 37∧yC 47∧yC 50∧yC 51∧yC 52:=⟨call23,call24,call25,call37,call47,call50,call51,call52⟩
@[simp] theorem GQ:yC 60∧yC 62∧yC 63∧yC 64∧yC 65∧yC 66∧yC 67∧yC 68:=⟨call60,call62,call63,call64,call65,call66,call67,call68⟩
@[simp] theorem GP:yC 69∧yC 70∧yC 71∧yC 72∧yC 73∧yC 74∧yC 75∧yC 76:=⟨call69,call70,call71,call72,call73,call74,call75,call76⟩
@[simp] theorem GO:yC 77∧yC 84∧yC 90∧yC 91∧yC 94∧yC 95∧yC 96∧yC 97:=⟨call77,call84,call90,call91,call94,call95,call96,call97⟩
@[simp] theorem GN:yC 99∧yC 100∧yC 101∧yC 102∧yC 103∧yC 104∧yC 105∧yC 106:=⟨call99,call100,call101,call102,call103,call104,call105,call106⟩
@[simp] theorem GM:yC 107∧yC 109∧yC 110∧yC 111∧yC 113∧yC 114∧yC 116∧yC 117:=⟨call107,call109,call110,call111,call113,call114,call116,call117⟩
@[simp] theorem GL:yC 118∧yC 119∧yC 122∧yC 124∧yC 125∧yC 126∧yC 127∧yC 128:=⟨call118,call119,call122,call124,call125,call126,call127,call128⟩
@[simp] theorem GK:yC 129∧yC 130∧yC 131∧yC 132∧yC 133∧yC 134∧yC 135∧yC 136:=⟨call129,call130,call131,call132,call133,call134,call135,call136⟩
@[simp] theorem GJ:yC 137∧yC 138∧yC 139∧yC 140∧yC 145∧yC 146∧yC 147∧yC 148:=⟨call137,call138,call139,call140,call145,call146,call147,call148⟩
@[simp] theorem Gz:yC 149∧yC 150∧yC 153∧yC 154∧yC 155∧yC 156∧yC 157∧yC 164:=⟨call149,call150,call153,call154,call155,call156,call157,call164⟩
@[simp] theorem Gy:yC 165∧yC 166∧yC 167∧yC 168∧yC 169∧yC 170∧yC 171∧yC 172:=⟨call165,call166,call167,call168,call169,call170,call171,call172⟩
@[simp] theorem Gx:yC 173∧yC 174∧yC 175∧yC 176∧yC 177∧yC 178∧yC 179∧yC 180:=⟨call173,call174,call175,call176,call177,call178,call179,call180⟩
@[simp] theorem Gw:yC 181∧yC 182∧yC 183∧yC 186∧yC 187∧yC 188∧yC 189∧yC 190:=⟨call181,call182,call183,call186,call187,call188,call189,call190⟩
@[simp] theorem Gv:yC 191∧yC 193∧yC 194∧yC 195∧yC 196∧yC 197∧yC 198∧yC 199:=⟨call191,call193,call194,call195,call196,call197,call198,call199⟩
@[simp] theorem Gu:yC 202∧yC 204∧yC 205∧yC 206∧yC 207∧yC 208∧yC 209∧yC 210:=⟨call202,call204,call205,call206,call207,call208,call209,call210⟩
@[simp] theorem Gt:yC 211∧yC 212∧yC 213∧yC 214∧yC 215∧yC 216∧yC 217∧yC 218:=⟨call211,call212,call213,call214,call215,call216,call217,call218⟩
@[simp] theorem Gs:yC 219∧yC 220∧yC 222∧yC 223∧yC 224∧yC 225∧yC 226∧yC 227:=⟨call219,call220,call222,call223,call224,call225,call226,call227⟩
@[simp] theorem Gr:yC 228∧yC 229∧yC 230∧yC 234∧yC 235∧yC 236∧yC 237∧yC 238:=⟨call228,call229,call230,call234,call235,call236,call237,call238⟩
@[simp] theorem Gq:yC 239∧yC 240∧yC 251∧yC 252∧yC 253∧yC 254∧yC 255∧yC 256:=⟨call239,call240,call251,call252,call253,call254,call255,call256⟩
@[simp] theorem Gp:yC 257∧yC 258∧yC 259∧yC 260∧yC 261∧yC 262∧yC 263∧yC 265:=⟨call257,call258,call259,call260,call261,call262,call263,call265⟩
@[simp] theorem Gn:yC 266∧yC 267∧yC 268∧yC 269∧yC 278∧yC 279∧yC 281∧yC 282:=⟨call266,call267,call268,call269,call278,call279,call281,call282⟩
@[simp] theorem Gm:yC 283∧yC 284∧yC 290∧yC 291∧yC 292∧yC 293∧yC 294∧yC 295:=⟨call283,call284,call290,call291,call292,call293,call294,call295⟩
@[simp] theorem Gl:yC 296∧yC 297∧yC 298∧yC 299∧yC 301∧yC 306∧yC 307∧yC 308:=⟨call296,call297,call298,call299,call301,call306,call307,call308⟩
@[simp] theorem Gk:yC 309∧yC 311∧yC 312∧yC 313∧yC 315∧yC 316∧yC 317∧yC 319:=⟨call309,call311,call312,call313,call315,call316,call317,call319⟩
@[simp] theorem Gj:yC 320∧yC 339∧yC 340∧yC 341∧yC 342∧yC 343∧yC 344∧yC 345:=⟨call320,call339,call340,call341,call342,call343,call344,call345⟩
@[simp] theorem Gi:yC 346∧yC 347∧yC 348∧yC 349∧yC 350∧yC 351∧yC 352∧yC 353:=⟨call346,call347,call348,call349,call350,call351,call352,call353⟩
@[simp] theorem Gh:yC 354∧yC 355∧yC 356∧yC 357∧yC 358∧yC 359∧yC 360∧yC 361:=⟨call354,call355,call356,call357,call358,call359,call360,call361⟩
@[simp] theorem Gg:yC 362∧yC 363∧yC 364∧yC 365∧yC 366∧yC 367∧yC 368∧yC 369:=⟨call362,call363,call364,call365,call366,call367,call368,call369⟩
@[simp] theorem Gf:yC 370∧yC 371∧yC 372∧yC 373∧yC 374:=⟨call370,call371,call372,call373,call374⟩
@[simp] theorem Tryz.yx3:v7 prog 3=some [.int .i64]:=by kernel_rfl
@[simp] theorem Tryz.yx42:v7 prog 42=some [.int .u8,.int .i64]:=by kernel_rfl
@[simp] theorem Tryz.yx284:v7 prog 284=some [.int .i64,.int .i64]:=by kernel_rfl
@[simp] theorem Tryz.yxx3:Bo prog 3=some [.int .i64 0]:=by kernel_rfl
@[simp] theorem Tryz.yx4:Bo prog 4=some [.bool false]:=by kernel_rfl
@[simp] theorem Tryz.yx5:Bo prog 5=some [.int .u8 0]:=by kernel_rfl
@[simp] theorem Tryz.yx178:Bo prog 178=some [.int .i64 0,.int .i64 0,.int .u8 0,.slice none 0 0,.slice none 0 0]:=by kernel_rfl
end Go.Proofs
