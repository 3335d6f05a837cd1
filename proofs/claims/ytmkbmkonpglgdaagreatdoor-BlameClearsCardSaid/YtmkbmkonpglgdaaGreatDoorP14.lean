/- Part 14 of the proofs: laws and walks that hold without conditions beyond those that each theorem names. -/
import Derived.ProofKit
import Derived.LaidMore
import Derived.Stop.Joined
import Derived.Carry
import Derived.OpenShut
import Derived.Test.YtmkbmkonpglgdaaGreatDoorProg
import Derived.KernelRfl
import Derived.Test.YtmkbmkonpglgdaaGreatDoorP11
import Derived.Test.YtmkbmkonpglgdaaGreatDoorP12
import Derived.Test.YtmkbmkonpglgdaaGreatDoorP13
set_option linter.all false
set_option linter.deprecated false
namespace Go.Ab
open Go
def okW (W:World) (b:Nat):Prop:=b < W.heap.size
def CellsR (W:World) (cs:List Value) (l:List IC):Prop:=cs.length=l.length∧∀ (j:Nat) (c:IC) (v:Value),l[j]?=some c→cs[j]?=some v→RepI W (okW W) c v
theorem CellsR.append {W:World} {a b:List Value} {l r:List IC} (h:CellsR W a l) (k:CellsR W b r):CellsR W (a ++ b) (l ++ r):=by
 refine ⟨by rw [List.length_append,List.length_append,h.1,k.1],fun j c v hc hv=>?_⟩
 by_cases hj:j < l.length
 ·rw [List.getElem?_append_left hj] at hc
  rw [List.getElem?_append_left (by rw [h.1];exact hj)] at hv
  exact h.2 j c v hc hv
 ·rw [List.getElem?_append_right (by omega)] at hc
  rw [List.getElem?_append_right (by rw [h.1];omega),h.1] at hv
  exact k.2 _ c v hc hv
theorem CellsR.one {W:World} {v:Value} {c:IC} (h:RepI W (okW W) c v):CellsR W [v] [c]:=
 ⟨rfl,fun j c' v' hc hv=>by
  match j with
  | 0=>simp at hc hv;subst hc;subst hv;exact h
  | j + 1=>simp at hc⟩
def Opens (P:Program) (t:TypeId) (S:List IC→Prop):Prop:=
 ∀ (H:Type) (enc:TypeId×Value→H) (W:World) (fuel:Nat) (cs:List Value) (x:DataW H×List MemPlace),DataW.trod enc P W 0 (fun _=>true) true fuel t cs=some x→∃ l,S l∧CellsR W cs l
theorem Opens.mono {P:Program} {t:TypeId} {S S':List IC→Prop} (h:Opens P t S) (hs:∀ l,S l→S' l):Opens P t S':=fun H enc W fuel cs x hx=>by
 obtain ⟨l,h1,h2⟩:=h H enc W fuel cs x hx
 exact ⟨l,hs l h1,h2⟩
theorem Opens.int {P:Program} {t:TypeId} {k:IntKind} (ht:P.underlying t=some (.int k)):Opens P t (fun l=>∃ n:Int,(k.min≤n∧n≤k.max)∧l=[.raw (.int k n)]):=fun H enc W fuel cs x hx=>by
 obtain ⟨n,rfl,_,hw⟩:=DataW.trod_int ht hx
 simp only [Lit.wf,Bool.and_eq_true,decide_eq_true_eq] at hw
 exact ⟨_,⟨n,hw,rfl⟩,.one (.raw _ rfl)⟩
theorem Opens.bool {P:Program} {t:TypeId} (ht:P.underlying t=some .bool):Opens P t (fun l=>∃ b:Bool,l=[.raw (.bool b)]):=fun H enc W fuel cs x hx=>by
 obtain ⟨b,rfl,_⟩:=DataW.trod_bool ht hx
 exact ⟨_,⟨b,rfl⟩,.one (.raw _ rfl)⟩
theorem block_of_cell {w:World} {a:Addr} {v:Value} (h:w.cell? a=some v):a.block < w.heap.size:=by
 unfold World.cell? at h
 refine Nat.lt_of_not_le fun hge=>?_
 have:w.heap[a.block]?=none:=Array.getElem?_eq_none hge
 simp [this] at h
theorem exists_list {α:Type} {n:Nat} {p:Nat→α→Prop} (h:∀ i,i < n→∃ a,p i a):∃ l:List α,l.length=n∧∀ (i:Nat) (a:α),l[i]?=some a→p i a:=by
 induction n with
 | zero=>exact ⟨[],rfl,fun i a h=>by simp at h⟩
 | succ n ih =>
   obtain ⟨l,h1,h2⟩:=ih fun i hi=>h i (by omega)
   obtain ⟨a,ha⟩:=h n (by omega)
   refine ⟨l ++ [a],by simp [h1],fun i b hb=>?_⟩
   by_cases hi:i < l.length
   ·rw [List.getElem?_append_left hi] at hb;exact h2 i b hb
   ·rw [List.getElem?_append_right (by omega)] at hb
    have h0:i - l.length=0:=by
     have:=lt_of_getElem? hb;simp at this;omega
    rw [h0] at hb
    simp at hb;subst hb
    rw [show i=n by omega];exact ha
theorem add2 (b o i j:Nat):((⟨b,o,none⟩:Addr).add i).add j=⟨b,o + i + j,none⟩:=by
 unfold Addr.add
 by_cases hi:i=0<;>by_cases hj:j=0<;>simp [hi,hj]
theorem Opens.slice {P:Program} {t e:TypeId} {S:List IC→Prop} {sz:Nat} (ht:P.underlying t=some (.slice e)) (hc:P.cellsOf e=sz) (h0:0 < sz) (he:Opens P e S) (hS:∀ l,S l→l.length=sz) :
 Opens P t (fun l=>∃ es:List (List IC),(∀ x∈es,S x)∧l=[.sl es]):=fun H enc W fuel cs x hx=>by
 rcases DataW.trod_slice ht hx with ⟨rfl,_⟩|⟨a,len,cap,elems,rest,n,_,rfl,_,_,hl,_,hlen,hel,_⟩
 ·exact ⟨_,⟨[],by simp,rfl⟩,.one .slnil⟩
 ·rw [hc] at hel
  have key:∀ i,i < len→∃ q:List IC×List Value,S q.1∧W.cells? 0 (a.add (i * sz)) sz=some q.2∧CellsR W q.2 q.1:=fun i hi=>by
   have hE:=hel i hi
   have hel':elems[i]?=some elems[i]:=by simp [hlen,hi]
   rw [hel',Option.bind_eq_some_iff] at hE
   obtain ⟨c1,hc1,hy⟩:=hE
   obtain ⟨l,hS1,hR⟩:=he H enc W n c1 _ hy
   exact ⟨(l,c1),hS1,hc1,hR⟩
  obtain ⟨q,hq1,hq2⟩:=exists_list key
  refine ⟨_,⟨q.map (·.1),fun x hx=>?_,rfl⟩,.one ?_⟩
  ·obtain ⟨y,hy,rfl⟩:=List.mem_map.1 hx
   obtain ⟨i,hi⟩:=List.mem_iff_getElem?.1 hy
   exact (hq2 i y hi).1
  ·by_cases hz:len=0
   ·subst hz
    have:q=[]:=List.length_eq_zero_iff.1 hq1
    subst this
    exact .slz a cap
   ·have cell:∀ (i:Nat) (y:List IC×List Value) (j:Nat) (v:Value),q[i]?=some y→y.2[j]?=some v→j < sz→W.cell? ((a.add (i * sz)).add j)=some v:=fun i y j v hy hv hj=>by
     obtain ⟨_,h2,_⟩:=hq2 i y hy
     obtain ⟨_,_,h4⟩:=World.cells?_some h2
     rw [h4 j hj];exact hv
    have hq0:0 < q.length:=by omega
    have hy0:q[0]?=some q[0]:=by simp
    obtain ⟨s1,s2,s3⟩:=hq2 0 q[0] hy0
    obtain ⟨_,s5,_⟩:=World.cells?_some s2
    have hl0:0 < (q[0]).2.length:=by rw [s5];exact h0
    have hv0:(q[0]).2[0]?=some (q[0]).2[0]:=by simp
    have hcell0:=cell 0 q[0] 0 _ hy0 hv0 h0
    have hspot:a.spot=none:=by
     have:=World.cell?_spot hcell0
     simpa [Addr.add] using this
    have hblk:a.block < W.heap.size:=by
     have:=block_of_cell hcell0
     simpa [Addr.add] using this
    have hll:(q.map (·.1)).length=len:=by simp [hq1]
    rw [← hll]
    refine .sl _ a cap sz (fun i j=>(((q[i]?).map (·.2)).getD [])[j]?.getD undef) hspot (fun _=>hblk) (by rw [hll];exact hl) (fun i x hx=>?_) (fun i x j c hx hj=>?_) (fun i x j c hx hj=>?_)
    ·rw [List.getElem?_map,Option.map_eq_some_iff] at hx
     obtain ⟨y,hy,rfl⟩:=hx
     exact hS _ (hq2 i y hy).1
    ·rw [List.getElem?_map,Option.map_eq_some_iff] at hx
     obtain ⟨y,hy,rfl⟩:=hx
     obtain ⟨t1,t2,t3⟩:=hq2 i y hy
     have hjl:=lt_of_getElem? hj
     have hjs:j < sz:=by rw [← hS _ t1];exact hjl
     have hjl2:j < y.2.length:=by rw [t3.1];exact hjl
     have hv:y.2[j]?=some y.2[j]:=by simp [hjl2]
     have:=cell i y j _ hy hv hjs
     simp only [hy,Option.map_some,Option.getD_some,hv]
     have ha:(⟨a.block,a.off + i * sz + j,none⟩:Addr)=(a.add (i * sz)).add j:=by
      obtain ⟨b,o,s⟩:=a
      simp only at hspot
      subst hspot
      exact (add2 b o (i * sz) j).symm
     rw [ha];exact this
    ·rw [List.getElem?_map,Option.map_eq_some_iff] at hx
     obtain ⟨y,hy,rfl⟩:=hx
     obtain ⟨t1,t2,t3⟩:=hq2 i y hy
     have hjl:=lt_of_getElem? hj
     have hjl2:j < y.2.length:=by rw [t3.1];exact hjl
     have hv:y.2[j]?=some y.2[j]:=by simp [hjl2]
     simp only [hy,Option.map_some,Option.getD_some,hv]
     exact t3.2 j c _ hj hv
def tilesB (P:Program):List Field→Nat→Nat→Bool
 | [],o,e=>decide (o=e)
 | f :: fs,o,e=>decide (f.offset=o) && tilesB P fs (o + P.cellsOf f.type) e
theorem tiles_le {P:Program}:∀ {fs:List Field} {o e:Nat},tilesB P fs o e=true→o≤e
 | [],o,e,h=>by simp [tilesB] at h;omega
 | f :: fs,o,e,h=>by
   simp only [tilesB,Bool.and_eq_true] at h
   have:=tiles_le h.2;omega
theorem fields_cells {P:Program} {W:World} {cs:List Value}:∀ (fs:List Field) (o e:Nat) (S:Nat→List IC→Prop),tilesB P fs o e=true→e≤cs.length→(∀ (i:Nat) (f:Field),fs[i]?=some f→∃ l,S i l∧CellsR W ((cs.drop f.offset).take (P.cellsOf f.type)) l) →
 ∃ ls:List (List IC),ls.length=fs.length∧(∀ (i:Nat) (l:List IC),ls[i]?=some l→S i l)∧CellsR W ((cs.drop o).take (e - o)) ls.flatten
 | [],o,e,S,ht,_,_=>by
   simp [tilesB] at ht
   subst ht
   exact ⟨[],rfl,fun i l h=>by simp at h,by simp [CellsR]⟩
 | f :: fs,o,e,S,ht,he,hS=>by
   simp only [tilesB,Bool.and_eq_true,decide_eq_true_eq] at ht
   obtain ⟨rfl,ht⟩:=ht
   obtain ⟨l,h1,h2⟩:=hS 0 f rfl
   obtain ⟨ls,h3,h4,h5⟩:=fields_cells fs _ e (fun i=>S (i + 1)) ht he fun i g hg=>hS (i + 1) g (by simpa using hg)
   have hle:=tiles_le ht
   refine ⟨l :: ls,by simp [h3],fun i k hk=>?_,?_⟩
   ·cases i with
    | zero=>simp at hk;subst hk;exact h1
    | succ i=>exact h4 i k (by simpa using hk)
   ·rw [List.flatten_cons]
    have hsplit:(cs.drop f.offset).take (e - f.offset)=(cs.drop f.offset).take (P.cellsOf f.type) ++ (cs.drop (f.offset + P.cellsOf f.type)).take (e - (f.offset + P.cellsOf f.type)):=by
     rw [show e - f.offset=P.cellsOf f.type + (e - (f.offset + P.cellsOf f.type)) by omega,List.take_add,List.drop_drop]
    rw [hsplit]
    exact h2.append h5
theorem Opens.struct {P:Program} {t:TypeId} {fs:Array Field} (ht:P.underlying t=some (.struct fs)) (htile:tilesB P fs.toList 0 (P.cellsOf t)=true) (S:Nat→List IC→Prop) (hS:∀ (i:Nat) (f:Field),fs.toList[i]?=some f→Opens P f.type (S i)) :
 Opens P t (fun l=>∃ ls:List (List IC),ls.length=fs.size∧(∀ (i:Nat) (k:List IC),ls[i]?=some k→S i k)∧l=ls.flatten):=fun H enc W fuel cs x hx=>by
 obtain ⟨xs,n,_,_,hlen,hxl,hf⟩:=DataW.trod_struct ht hx
 obtain ⟨ls,h1,h2,h3⟩:=fields_cells (P:=P) (W:=W) (cs:=cs) fs.toList 0 (P.cellsOf t) S htile (by omega) fun i f hi=>by
  have hi':fs[i]?=some f:=by rw [← Array.getElem?_toList];exact hi
  have hil:i < fs.size:=(Array.getElem?_eq_some_iff.1 hi').1
  have h:=hf i f hi'
  have hx':xs[i]?=some xs[i]:=by simp [hxl,hil]
  rw [hx'] at h
  exact hS i f hi H enc W n _ _ h
 refine ⟨_,⟨ls,by simpa using h1,h2,rfl⟩,?_⟩
 have:(cs.drop 0).take (P.cellsOf t - 0)=cs:=by simp [← hlen]
 rw [this] at h3;exact h3
def bareM (W:World):MS:={ w:=W,β:=fun _=>0,objs:=[],F:=fun _=>False }
theorem bare_ok (W:World) (b:Nat):(bareM W).ok b↔okW W b:=by
 simp [MS.ok,MS.free,MS.live,bareM,okW]
theorem bare_rel {G:Nat→Option (List IC)} {W:World} (h:∀ g l,G g=some l→RepI W (okW W) (.ip l) (.pointer (some ⟨g,0,none⟩))):RelM G (bareM W):=
 ⟨fun o d ho=>by simp [bareM] at ho,fun o d ho=>by simp [bareM] at ho,fun o o' d d' ho=>by simp [bareM] at ho,fun g l hg=>(h g l hg).mono fun b hb=>⟨(bare_ok W b).2 hb,rfl⟩,fun b hb=>hb.elim,fun o d ho=>by simp [bareM] at ho⟩
theorem RepV.ofCells {W:World} {cs:Array Value} {l:List IC} (h:CellsR W cs.toList l):RepV (bareM W) (.agg (l.map .im)) (.agg cs):=by
 refine .agg _ _ (by simpa using h.1.symm) fun j c v hj hv=>?_
 rw [List.getElem?_map,Option.map_eq_some_iff] at hj
 obtain ⟨c0,hc,rfl⟩:=hj
 rw [← Array.getElem?_toList] at hv
 exact .im _ _ ((h.2 j c0 v hc hv).mono fun b hb=>⟨(bare_ok W b).2 hb,rfl⟩)
theorem RepV.ofCell {W:World} {v:Value} {c:IC} (h:CellsR W [v] [c]):RepV (bareM W) (.one (.im c)) v:=
 .one _ _ (.im _ _ ((h.2 0 c v rfl rfl).mono fun b hb=>⟨(bare_ok W b).2 hb,rfl⟩))
theorem DCall.calls {P:Program} {G:Nat→Option (List IC)} {f:FuncId} {args:List DV} {u:Value} {W:World} {vs:Array Value} (h:DCall P G f args [] (fun d o=>d=.one (.im (.raw u))∧o=[]))
 (hG:∀ g l,G g=some l→RepI W (okW W) (.ip l) (.pointer (some ⟨g,0,none⟩))) (hs:vs.size=args.length) (ha:∀ (j:Nat) (d:DV) (v:Value),args[j]?=some d→vs[j]?=some v→RepV (bareM W) d v) :
 Calls P f vs W fun e W'=>e=.returned u∧Go.RowKit.Below W.heap.size W W':=by
 refine (h (bareM W) vs (bare_rel hG) rfl hs ha).mono ?_
 rintro e w' ⟨v,d,M',rfl,rfl,_,hv,he,rfl,_⟩
 have hvu:v=u:=by
  cases hv with
  | one _ _ hc=>cases hc with
    | im _ _ hi=>cases hi;rfl
 subst hvu
 exact ⟨rfl,⟨he.io.os,he.io.tape,he.io.output,he.hs,fun k hk=>(he.free k ⟨hk,fun ⟨o,d,h1,_⟩=>by simp [bareM] at h1⟩).2⟩⟩
end Go.Ab
namespace Go.Proofs
open Go Go.Ab
@[simp] theorem Tryz.y3:tsz Tryz.prog 3=some 1∧tag Tryz.prog 3=some false∧telem Tryz.prog 3=none∧tarr Tryz.prog 3=none∧tint Tryz.prog 3=some .i64∧tbool Tryz.prog 3=false∧tbytes Tryz.prog 3=some 8∧tzero Tryz.prog 3=some [.int .i64 0]:=by (repeat' refine And.intro ?_ ?_)<;>kernel_rfl
@[simp] theorem Tryz.y4:tsz Tryz.prog 4=some 1∧tag Tryz.prog 4=some false∧telem Tryz.prog 4=none∧tarr Tryz.prog 4=none∧tint Tryz.prog 4=none∧tbool Tryz.prog 4=true∧tbytes Tryz.prog 4=some 1∧tzero Tryz.prog 4=some [.bool false]:=by (repeat' refine And.intro ?_ ?_)<;>kernel_rfl
@[simp] theorem Tryz.y5:tsz Tryz.prog 5=some 1∧tag Tryz.prog 5=some false∧telem Tryz.prog 5=none∧tarr Tryz.prog 5=none∧tint Tryz.prog 5=some .u8∧tbool Tryz.prog 5=false∧tbytes Tryz.prog 5=some 1∧tzero Tryz.prog 5=some [.int .u8 0]:=by (repeat' refine And.intro ?_ ?_)<;>kernel_rfl
@[simp] theorem Tryz.y22:tsz Tryz.prog 22=some 1∧tag Tryz.prog 22=some false∧telem Tryz.prog 22=some 70∧tarr Tryz.prog 22=none∧tint Tryz.prog 22=none∧tbool Tryz.prog 22=false∧tbytes Tryz.prog 22=some 24∧tzero Tryz.prog 22=some [.slice none 0 0]:=by (repeat' refine And.intro ?_ ?_)<;>kernel_rfl
@[simp] theorem Tryz.y24:tsz Tryz.prog 24=some 1∧tag Tryz.prog 24=some true∧telem Tryz.prog 24=none∧tarr Tryz.prog 24=none∧tint Tryz.prog 24=none∧tbool Tryz.prog 24=false∧tbytes Tryz.prog 24=some 24∧tzero Tryz.prog 24=some [.slice none 0 0]∧toff Tryz.prog 24 0=some 0∧tfield Tryz.prog 24 0=some (0,1,false)∧placesOf Tryz.prog 24=some [(0,1)]:=by (repeat' refine And.intro ?_ ?_)<;>kernel_rfl
@[simp] theorem Tryz.y25:tsz Tryz.prog 25=some 1∧tag Tryz.prog 25=some false∧telem Tryz.prog 25=some 76∧tarr Tryz.prog 25=none∧tint Tryz.prog 25=none∧tbool Tryz.prog 25=false∧tbytes Tryz.prog 25=some 24∧tzero Tryz.prog 25=some [.slice none 0 0]:=by (repeat' refine And.intro ?_ ?_)<;>kernel_rfl
@[simp] theorem Tryz.y27:tsz Tryz.prog 27=some 2∧tag Tryz.prog 27=some true∧telem Tryz.prog 27=none∧tarr Tryz.prog 27=none∧tint Tryz.prog 27=none∧tbool Tryz.prog 27=false∧tbytes Tryz.prog 27=some 48∧tzero Tryz.prog 27=some [.slice none 0 0,.slice none 0 0]∧toff Tryz.prog 27 0=some 0∧tfield Tryz.prog 27 0=some (0,1,true)∧toff Tryz.prog 27 1=some 1∧tfield Tryz.prog 27 1=some (1,1,false)∧placesOf Tryz.prog 27=some [(0,1),(1,1)]:=by (repeat' refine And.intro ?_ ?_)<;>kernel_rfl
@[simp] theorem Tryz.y28:tsz Tryz.prog 28=some 1∧tag Tryz.prog 28=some false∧telem Tryz.prog 28=some 78∧tarr Tryz.prog 28=none∧tint Tryz.prog 28=none∧tbool Tryz.prog 28=false∧tbytes Tryz.prog 28=some 24∧tzero Tryz.prog 28=some [.slice none 0 0]:=by (repeat' refine And.intro ?_ ?_)<;>kernel_rfl
@[simp] theorem Tryz.y29:tsz Tryz.prog 29=some 1∧tag Tryz.prog 29=some false∧telem Tryz.prog 29=some 82∧tarr Tryz.prog 29=none∧tint Tryz.prog 29=none∧tbool Tryz.prog 29=false∧tbytes Tryz.prog 29=some 24∧tzero Tryz.prog 29=some [.slice none 0 0]:=by (repeat' refine And.intro ?_ ?_)<;>kernel_rfl
@[simp] theorem Tryz.y31:tsz Tryz.prog 31=some 4∧tag Tryz.prog 31=some true∧telem Tryz.prog 31=none∧tarr Tryz.prog 31=none∧tint Tryz.prog 31=none∧tbool Tryz.prog 31=false∧tbytes Tryz.prog 31=some 96∧tzero Tryz.prog 31=some [.slice none 0 0,.slice none 0 0,.slice none 0 0,.slice none 0 0]∧toff Tryz.prog 31 0=some 0∧tfield Tryz.prog 31 0=some (0,2,true)∧toff Tryz.prog 31 1=some 2∧tfield Tryz.prog 31 1=some (2,1,false)∧toff Tryz.prog 31 2=some 3∧tfield Tryz.prog 31 2=some (3,1,false)∧placesOf Tryz.prog 31=some [(0,2),(2,1),(3,1)]:=by (repeat' refine And.intro ?_ ?_)<;>kernel_rfl
@[simp] theorem Tryz.y32:tsz Tryz.prog 32=some 1∧tag Tryz.prog 32=some false∧telem Tryz.prog 32=some 84∧tarr Tryz.prog 32=none∧tint Tryz.prog 32=none∧tbool Tryz.prog 32=false∧tbytes Tryz.prog 32=some 24∧tzero Tryz.prog 32=some [.slice none 0 0]:=by (repeat' refine And.intro ?_ ?_)<;>kernel_rfl
@[simp] theorem Tryz.y34:tsz Tryz.prog 34=some 2∧tag Tryz.prog 34=some true∧telem Tryz.prog 34=none∧tarr Tryz.prog 34=none∧tint Tryz.prog 34=none∧tbool Tryz.prog 34=false∧tbytes Tryz.prog 34=some 16∧tzero Tryz.prog 34=some [.int .i64 0,.int .i64 0]∧toff Tryz.prog 34 0=some 0∧tfield Tryz.prog 34 0=some (0,1,false)∧toff Tryz.prog 34 1=some 1∧tfield Tryz.prog 34 1=some (1,1,false)∧eqShape Tryz.prog 34=some [.int .i64,.int .i64]∧placesOf Tryz.prog 34=some [(0,1),(1,1)]:=by (repeat' refine And.intro ?_ ?_)<;>kernel_rfl
@[simp] theorem Tryz.y36:tsz Tryz.prog 36=some 3∧tag Tryz.prog 36=some true∧telem Tryz.prog 36=none∧tarr Tryz.prog 36=none∧tint Tryz.prog 36=none∧tbool Tryz.prog 36=false∧tbytes Tryz.prog 36=some 40∧tzero Tryz.prog 36=some [.slice none 0 0,.int .i64 0,.int .i64 0]∧toff Tryz.prog 36 0=some 0∧tfield Tryz.prog 36 0=some (0,1,false)∧toff Tryz.prog 36 1=some 1∧tfield Tryz.prog 36 1=some (1,2,true)∧placesOf Tryz.prog 36=some [(0,1),(1,2)]:=by (repeat' refine And.intro ?_ ?_)<;>kernel_rfl
@[simp] theorem Tryz.y37:tsz Tryz.prog 37=some 1∧tag Tryz.prog 37=some false∧telem Tryz.prog 37=some 86∧tarr Tryz.prog 37=none∧tint Tryz.prog 37=none∧tbool Tryz.prog 37=false∧tbytes Tryz.prog 37=some 24∧tzero Tryz.prog 37=some [.slice none 0 0]:=by (repeat' refine And.intro ?_ ?_)<;>kernel_rfl
@[simp] theorem Tryz.y39:tsz Tryz.prog 39=some 10∧tag Tryz.prog 39=some true∧telem Tryz.prog 39=none∧tarr Tryz.prog 39=none∧tint Tryz.prog 39=none∧tbool Tryz.prog 39=false∧tbytes Tryz.prog 39=some 176∧tzero Tryz.prog 39=some [.slice none 0 0,.slice none 0 0,.slice none 0 0,.slice none 0 0,.int .i64 0,.int .i64 0,.slice none 0 0,.int .i64 0,.int .i64 0,.slice none 0 0]∧toff Tryz.prog 39 0=some 0∧tfield Tryz.prog 39 0=some (0,4,true)∧toff Tryz.prog 39 1=some 4∧tfield Tryz.prog 39 1=some (4,1,false)∧toff Tryz.prog 39 2=some 5∧tfield Tryz.prog 39 2=some (5,1,false)∧toff Tryz.prog 39 3=some 6∧tfield Tryz.prog 39 3=some (6,3,true)∧toff Tryz.prog 39 4=some 9∧tfield Tryz.prog 39 4=some (9,1,false)∧placesOf Tryz.prog 39=some [(0,4),(4,1),(5,1),(6,3),(9,1)]:=by (repeat' refine And.intro ?_ ?_)<;>kernel_rfl
@[simp] theorem Tryz.y51:tsz Tryz.prog 51=some 1∧tag Tryz.prog 51=some false∧telem Tryz.prog 51=some 3∧tarr Tryz.prog 51=none∧tint Tryz.prog 51=none∧tbool Tryz.prog 51=false∧tbytes Tryz.prog 51=some 24∧tzero Tryz.prog 51=some [.slice none 0 0]:=by (repeat' refine And.intro ?_ ?_)<;>kernel_rfl
@[simp] theorem Tryz.y67:tsz Tryz.prog 67=some 1∧tag Tryz.prog 67=some false∧telem Tryz.prog 67=some 72∧tarr Tryz.prog 67=none∧tint Tryz.prog 67=none∧tbool Tryz.prog 67=false∧tbytes Tryz.prog 67=some 24∧tzero Tryz.prog 67=some [.slice none 0 0]:=by (repeat' refine And.intro ?_ ?_)<;>kernel_rfl
@[simp] theorem Tryz.y68:tsz Tryz.prog 68=some 1∧tag Tryz.prog 68=some false∧telem Tryz.prog 68=some 74∧tarr Tryz.prog 68=none∧tint Tryz.prog 68=none∧tbool Tryz.prog 68=false∧tbytes Tryz.prog 68=some 24∧tzero Tryz.prog 68=some [.slice none 0 0]:=by (repeat' refine And.intro ?_ ?_)<;>kernel_rfl
@[simp] theorem Tryz.y70:tsz Tryz.prog 70=some 5∧tag Tryz.prog 70=some true∧telem Tryz.prog 70=none∧tarr Tryz.prog 70=none∧tint Tryz.prog 70=none∧tbool Tryz.prog 70=false∧tbytes Tryz.prog 70=some 72∧tzero Tryz.prog 70=some [.int .i64 0,.int .i64 0,.int .u8 0,.slice none 0 0,.slice none 0 0]∧toff Tryz.prog 70 0=some 0∧tfield Tryz.prog 70 0=some (0,1,false)∧toff Tryz.prog 70 1=some 1∧tfield Tryz.prog 70 1=some (1,1,false)∧toff Tryz.prog 70 2=some 2∧tfield Tryz.prog 70 2=some (2,1,false)∧toff Tryz.prog 70 3=some 3∧tfield Tryz.prog 70 3=some (3,1,false)∧toff Tryz.prog 70 4=some 4∧tfield Tryz.prog 70 4=some (4,1,false)∧placesOf Tryz.prog 70=some [(0,1),(1,1),(2,1),(3,1),(4,1)]:=by (repeat' refine And.intro ?_ ?_)<;>kernel_rfl
@[simp] theorem Tryz.y72:tsz Tryz.prog 72=some 2∧tag Tryz.prog 72=some true∧telem Tryz.prog 72=none∧tarr Tryz.prog 72=none∧tint Tryz.prog 72=none∧tbool Tryz.prog 72=false∧tbytes Tryz.prog 72=some 16∧tzero Tryz.prog 72=some [.int .i64 0,.int .i64 0]∧toff Tryz.prog 72 0=some 0∧tfield Tryz.prog 72 0=some (0,1,false)∧toff Tryz.prog 72 1=some 1∧tfield Tryz.prog 72 1=some (1,1,false)∧eqShape Tryz.prog 72=some [.int .i64,.int .i64]∧placesOf Tryz.prog 72=some [(0,1),(1,1)]:=by (repeat' refine And.intro ?_ ?_)<;>kernel_rfl
@[simp] theorem Tryz.y74:tsz Tryz.prog 74=some 3∧tag Tryz.prog 74=some true∧telem Tryz.prog 74=none∧tarr Tryz.prog 74=none∧tint Tryz.prog 74=none∧tbool Tryz.prog 74=false∧tbytes Tryz.prog 74=some 24∧tzero Tryz.prog 74=some [.int .i64 0,.int .i64 0,.int .i64 0]∧toff Tryz.prog 74 0=some 0∧tfield Tryz.prog 74 0=some (0,1,false)∧toff Tryz.prog 74 1=some 1∧tfield Tryz.prog 74 1=some (1,1,false)∧toff Tryz.prog 74 2=some 2∧tfield Tryz.prog 74 2=some (2,1,false)∧eqShape Tryz.prog 74=some [.int .i64,.int .i64,.int .i64]∧placesOf Tryz.prog 74=some [(0,1),(1,1),(2,1)]:=by (repeat' refine And.intro ?_ ?_)<;>kernel_rfl
@[simp] theorem Tryz.y76:tsz Tryz.prog 76=some 10∧tag Tryz.prog 76=some true∧telem Tryz.prog 76=none∧tarr Tryz.prog 76=none∧tint Tryz.prog 76=none∧tbool Tryz.prog 76=false∧tbytes Tryz.prog 76=some 72∧tzero Tryz.prog 76=some [.int .i64 0,.int .i64 0,.int .u8 0,.int .i64 0,.int .i64 0,.int .i64 0,.int .i64 0,.int .i64 0,.bool false,.int .u8 0]∧toff Tryz.prog 76 0=some 0∧tfield Tryz.prog 76 0=some (0,1,false)∧toff Tryz.prog 76 1=some 1∧tfield Tryz.prog 76 1=some (1,1,false)∧toff Tryz.prog 76 2=some 2∧tfield Tryz.prog 76 2=some (2,1,false)∧toff Tryz.prog 76 3=some 3∧tfield Tryz.prog 76 3=some (3,1,false)∧toff Tryz.prog 76 4=some 4∧tfield Tryz.prog 76 4=some (4,1,false)∧toff Tryz.prog 76 5=some 5∧tfield Tryz.prog 76 5=some (5,1,false)∧toff Tryz.prog 76 6=some 6∧tfield Tryz.prog 76 6=some (6,1,false)∧toff Tryz.prog 76 7=some 7∧tfield Tryz.prog 76 7=some (7,1,false)∧toff Tryz.prog 76 8=some 8∧tfield Tryz.prog 76 8=some (8,1,false)∧toff Tryz.prog 76 9=some 9∧tfield Tryz.prog 76 9=some (9,1,false)∧eqShape Tryz.prog 76=some [.int .i64,.int .i64,.int .u8,.int .i64,.int .i64,.int .i64,.int .i64,.int .i64,.bool,.int .u8]∧placesOf Tryz.prog 76=some [(0,1),(1,1),(2,1),(3,1),(4,1),(5,1),(6,1),(7,1),(8,1),(9,1)]:=by (repeat' refine And.intro ?_ ?_)<;>kernel_rfl
@[simp] theorem Tryz.y78:tsz Tryz.prog 78=some 4∧tag Tryz.prog 78=some true∧telem Tryz.prog 78=none∧tarr Tryz.prog 78=none∧tint Tryz.prog 78=none∧tbool Tryz.prog 78=false∧tbytes Tryz.prog 78=some 48∧tzero Tryz.prog 78=some [.int .i64 0,.int .i64 0,.int .i64 0,.slice none 0 0]∧toff Tryz.prog 78 0=some 0∧tfield Tryz.prog 78 0=some (0,1,false)∧toff Tryz.prog 78 1=some 1∧tfield Tryz.prog 78 1=some (1,1,false)∧toff Tryz.prog 78 2=some 2∧tfield Tryz.prog 78 2=some (2,1,false)∧toff Tryz.prog 78 3=some 3∧tfield Tryz.prog 78 3=some (3,1,false)∧placesOf Tryz.prog 78=some [(0,1),(1,1),(2,1),(3,1)]:=by (repeat' refine And.intro ?_ ?_)<;>kernel_rfl
@[simp] theorem Tryz.y80:tsz Tryz.prog 80=some 2∧tag Tryz.prog 80=some true∧telem Tryz.prog 80=none∧tarr Tryz.prog 80=none∧tint Tryz.prog 80=none∧tbool Tryz.prog 80=false∧tbytes Tryz.prog 80=some 16∧tzero Tryz.prog 80=some [.int .i64 0,.int .i64 0]∧toff Tryz.prog 80 0=some 0∧tfield Tryz.prog 80 0=some (0,1,false)∧toff Tryz.prog 80 1=some 1∧tfield Tryz.prog 80 1=some (1,1,false)∧eqShape Tryz.prog 80=some [.int .i64,.int .i64]∧placesOf Tryz.prog 80=some [(0,1),(1,1)]:=by (repeat' refine And.intro ?_ ?_)<;>kernel_rfl
@[simp] theorem Tryz.y82:tsz Tryz.prog 82=some 7∧tag Tryz.prog 82=some true∧telem Tryz.prog 82=none∧tarr Tryz.prog 82=none∧tint Tryz.prog 82=none∧tbool Tryz.prog 82=false∧tbytes Tryz.prog 82=some 56∧tzero Tryz.prog 82=some [.int .i64 0,.int .i64 0,.int .i64 0,.int .i64 0,.int .i64 0,.int .i64 0,.int .u8 0]∧toff Tryz.prog 82 0=some 0∧tfield Tryz.prog 82 0=some (0,1,false)∧toff Tryz.prog 82 1=some 1∧tfield Tryz.prog 82 1=some (1,1,false)∧toff Tryz.prog 82 2=some 2∧tfield Tryz.prog 82 2=some (2,1,false)∧toff Tryz.prog 82 3=some 3∧tfield Tryz.prog 82 3=some (3,2,true)∧toff Tryz.prog 82 4=some 5∧tfield Tryz.prog 82 4=some (5,1,false)∧toff Tryz.prog 82 5=some 6∧tfield Tryz.prog 82 5=some (6,1,false)∧eqShape Tryz.prog 82=none∧eqWide Tryz.prog 82=some [.int .i64,.int .i64,.int .i64,.int .i64,.int .i64,.int .i64,.int .u8]∧placesOf Tryz.prog 82=some [(0,1),(1,1),(2,1),(3,2),(5,1),(6,1)]:=by (repeat' refine And.intro ?_ ?_)<;>kernel_rfl
@[simp] theorem Tryz.y84:tsz Tryz.prog 84=some 3∧tag Tryz.prog 84=some true∧telem Tryz.prog 84=none∧tarr Tryz.prog 84=none∧tint Tryz.prog 84=none∧tbool Tryz.prog 84=false∧tbytes Tryz.prog 84=some 24∧tzero Tryz.prog 84=some [.int .i64 0,.int .i64 0,.bool false]∧toff Tryz.prog 84 0=some 0∧tfield Tryz.prog 84 0=some (0,1,false)∧toff Tryz.prog 84 1=some 1∧tfield Tryz.prog 84 1=some (1,1,false)∧toff Tryz.prog 84 2=some 2∧tfield Tryz.prog 84 2=some (2,1,false)∧eqShape Tryz.prog 84=some [.int .i64,.int .i64,.bool]∧placesOf Tryz.prog 84=some [(0,1),(1,1),(2,1)]:=by (repeat' refine And.intro ?_ ?_)<;>kernel_rfl
@[simp] theorem Tryz.y86:tsz Tryz.prog 86=some 4∧tag Tryz.prog 86=some true∧telem Tryz.prog 86=none∧tarr Tryz.prog 86=none∧tint Tryz.prog 86=none∧tbool Tryz.prog 86=false∧tbytes Tryz.prog 86=some 32∧tzero Tryz.prog 86=some [.int .i64 0,.int .i64 0,.int .i64 0,.int .i64 0]∧toff Tryz.prog 86 0=some 0∧tfield Tryz.prog 86 0=some (0,1,false)∧toff Tryz.prog 86 1=some 1∧tfield Tryz.prog 86 1=some (1,1,false)∧toff Tryz.prog 86 2=some 2∧tfield Tryz.prog 86 2=some (2,2,true)∧eqShape Tryz.prog 86=none∧eqWide Tryz.prog 86=some [.int .i64,.int .i64,.int .i64,.int .i64]∧placesOf Tryz.prog 86=some [(0,1),(1,1),(2,2)]:=by (repeat' refine And.intro ?_ ?_)<;>kernel_rfl
@[simp] theorem Tryz.y112:tsz Tryz.prog 112=some 1∧tag Tryz.prog 112=some false∧telem Tryz.prog 112=none∧tarr Tryz.prog 112=none∧tint Tryz.prog 112=none∧tbool Tryz.prog 112=false∧tbytes Tryz.prog 112=some 8∧tzero Tryz.prog 112=some [.pointer none]:=by (repeat' refine And.intro ?_ ?_)<;>kernel_rfl
@[simp] theorem Tryz.y115:tsz Tryz.prog 115=some 1∧tag Tryz.prog 115=some false∧telem Tryz.prog 115=none∧tarr Tryz.prog 115=none∧tint Tryz.prog 115=none∧tbool Tryz.prog 115=false∧tbytes Tryz.prog 115=some 8∧tzero Tryz.prog 115=some [.pointer none]:=by (repeat' refine And.intro ?_ ?_)<;>kernel_rfl
@[simp] theorem Tryz.y149:tsz Tryz.prog 149=some 5∧tag Tryz.prog 149=some true∧telem Tryz.prog 149=none∧tarr Tryz.prog 149=none∧tint Tryz.prog 149=none∧tbool Tryz.prog 149=false∧tbytes Tryz.prog 149=some 120∧tzero Tryz.prog 149=some [.slice none 0 0,.slice none 0 0,.slice none 0 0,.slice none 0 0,.slice none 0 0]∧toff Tryz.prog 149 0=some 0∧tfield Tryz.prog 149 0=some (0,4,true)∧toff Tryz.prog 149 1=some 4∧tfield Tryz.prog 149 1=some (4,1,false)∧placesOf Tryz.prog 149=some [(0,4),(4,1)]:=by (repeat' refine And.intro ?_ ?_)<;>kernel_rfl
@[simp] theorem Tryz.y156:tsz Tryz.prog 156=some 2∧tag Tryz.prog 156=some true∧telem Tryz.prog 156=none∧tarr Tryz.prog 156=none∧tint Tryz.prog 156=none∧tbool Tryz.prog 156=false∧tbytes Tryz.prog 156=some 48∧tzero Tryz.prog 156=some [.slice none 0 0,.slice none 0 0]∧toff Tryz.prog 156 0=some 0∧tfield Tryz.prog 156 0=some (0,1,true)∧toff Tryz.prog 156 1=some 1∧tfield Tryz.prog 156 1=some (1,1,false)∧placesOf Tryz.prog 156=some [(0,1),(1,1)]:=by (repeat' refine And.intro ?_ ?_)<;>kernel_rfl
@[simp] theorem Tryz.y157:tsz Tryz.prog 157=some 1∧tag Tryz.prog 157=some false∧telem Tryz.prog 157=none∧tarr Tryz.prog 157=none∧tint Tryz.prog 157=none∧tbool Tryz.prog 157=false∧tbytes Tryz.prog 157=some 8∧tzero Tryz.prog 157=some [.nilFunc]:=by (repeat' refine And.intro ?_ ?_)<;>kernel_rfl
@[simp] theorem Tryz.y158:tsz Tryz.prog 158=some 1∧tag Tryz.prog 158=some true∧telem Tryz.prog 158=none∧tarr Tryz.prog 158=none∧tint Tryz.prog 158=none∧tbool Tryz.prog 158=false∧tbytes Tryz.prog 158=some 8∧tzero Tryz.prog 158=some [.nilFunc]∧toff Tryz.prog 158 0=some 0∧tfield Tryz.prog 158 0=some (0,1,false)∧placesOf Tryz.prog 158=some [(0,1)]:=by (repeat' refine And.intro ?_ ?_)<;>kernel_rfl
@[simp] theorem Tryz.y159:tsz Tryz.prog 159=some 4∧tag Tryz.prog 159=some true∧telem Tryz.prog 159=none∧tarr Tryz.prog 159=some (4,158)∧tint Tryz.prog 159=none∧tbool Tryz.prog 159=false∧tbytes Tryz.prog 159=some 32∧tzero Tryz.prog 159=some [.nilFunc,.nilFunc,.nilFunc,.nilFunc]∧placesOf Tryz.prog 159=some [(0,1),(1,1),(2,1),(3,1)]∧eqArrOk.tarr' Tryz.prog 159=some (4,158)∧eqShape Tryz.prog 159=none:=by (repeat' refine And.intro ?_ ?_)<;>kernel_rfl
@[simp] theorem Tryz.y162:tsz Tryz.prog 162=some 1∧tag Tryz.prog 162=some false∧telem Tryz.prog 162=none∧tarr Tryz.prog 162=none∧tint Tryz.prog 162=none∧tbool Tryz.prog 162=false∧tbytes Tryz.prog 162=some 8∧tzero Tryz.prog 162=some [.map none]∧tmap Tryz.prog 162=some (3,3):=by (repeat' refine And.intro ?_ ?_)<;>kernel_rfl
@[simp] theorem Tryz.y178:tsz Tryz.prog 178=some 9∧tag Tryz.prog 178=some true∧telem Tryz.prog 178=none∧tarr Tryz.prog 178=some (9,4)∧tint Tryz.prog 178=none∧tbool Tryz.prog 178=false∧tbytes Tryz.prog 178=some 9∧tzero Tryz.prog 178=some [.bool false,.bool false,.bool false,.bool false,.bool false,.bool false,.bool false,.bool false,.bool false]∧placesOf Tryz.prog 178=some [(0,1),(1,1),(2,1),(3,1),(4,1),(5,1),(6,1),(7,1),(8,1)]∧eqArrOk.tarr' Tryz.prog 178=some (9,4)∧eqShape Tryz.prog 178=none∧eqWide Tryz.prog 178=some [.bool,.bool,.bool,.bool,.bool,.bool,.bool,.bool,.bool]:=by (repeat' refine And.intro ?_ ?_)<;>kernel_rfl
@[simp] theorem Tryz.y183:tsz Tryz.prog 183=some 1∧tag Tryz.prog 183=some false∧telem Tryz.prog 183=none∧tarr Tryz.prog 183=none∧tint Tryz.prog 183=none∧tbool Tryz.prog 183=false∧tbytes Tryz.prog 183=some 8∧tzero Tryz.prog 183=some [.nilFunc]:=by (repeat' refine And.intro ?_ ?_)<;>kernel_rfl
@[simp] theorem Tryz.y185:tsz Tryz.prog 185=some 1∧tag Tryz.prog 185=some true∧telem Tryz.prog 185=none∧tarr Tryz.prog 185=none∧tint Tryz.prog 185=none∧tbool Tryz.prog 185=false∧tbytes Tryz.prog 185=some 8∧tzero Tryz.prog 185=some [.nilFunc]∧toff Tryz.prog 185 0=some 0∧tfield Tryz.prog 185 0=some (0,1,false)∧placesOf Tryz.prog 185=some [(0,1)]:=by (repeat' refine And.intro ?_ ?_)<;>kernel_rfl
@[simp] theorem Tryz.y186:tsz Tryz.prog 186=some 5∧tag Tryz.prog 186=some true∧telem Tryz.prog 186=none∧tarr Tryz.prog 186=some (5,185)∧tint Tryz.prog 186=none∧tbool Tryz.prog 186=false∧tbytes Tryz.prog 186=some 40∧tzero Tryz.prog 186=some [.nilFunc,.nilFunc,.nilFunc,.nilFunc,.nilFunc]∧placesOf Tryz.prog 186=some [(0,1),(1,1),(2,1),(3,1),(4,1)]∧eqArrOk.tarr' Tryz.prog 186=some (5,185)∧eqShape Tryz.prog 186=none:=by (repeat' refine And.intro ?_ ?_)<;>kernel_rfl
@[simp] theorem Tryz.y193:tsz Tryz.prog 193=some 1∧tag Tryz.prog 193=some false∧telem Tryz.prog 193=none∧tarr Tryz.prog 193=none∧tint Tryz.prog 193=none∧tbool Tryz.prog 193=false∧tbytes Tryz.prog 193=some 8∧tzero Tryz.prog 193=some [.map none]∧tmap Tryz.prog 193=some (3,4):=by (repeat' refine And.intro ?_ ?_)<;>kernel_rfl
@[simp] theorem Tryz.y194:tsz Tryz.prog 194=some 1∧tag Tryz.prog 194=some false∧telem Tryz.prog 194=none∧tarr Tryz.prog 194=none∧tint Tryz.prog 194=none∧tbool Tryz.prog 194=false∧tbytes Tryz.prog 194=some 8∧tzero Tryz.prog 194=some [.nilFunc]:=by (repeat' refine And.intro ?_ ?_)<;>kernel_rfl
@[simp] theorem Tryz.y199:tsz Tryz.prog 199=some 1∧tag Tryz.prog 199=some false∧telem Tryz.prog 199=none∧tarr Tryz.prog 199=none∧tint Tryz.prog 199=some .u64∧tbool Tryz.prog 199=false∧tbytes Tryz.prog 199=some 8∧tzero Tryz.prog 199=some [.int .u64 0]:=by (repeat' refine And.intro ?_ ?_)<;>kernel_rfl
@[simp] theorem Tryz.y201:tsz Tryz.prog 201=some 4∧tag Tryz.prog 201=some true∧telem Tryz.prog 201=none∧tarr Tryz.prog 201=none∧tint Tryz.prog 201=none∧tbool Tryz.prog 201=false∧tbytes Tryz.prog 201=some 96∧tzero Tryz.prog 201=some [.slice none 0 0,.slice none 0 0,.slice none 0 0,.slice none 0 0]∧toff Tryz.prog 201 0=some 0∧tfield Tryz.prog 201 0=some (0,2,true)∧toff Tryz.prog 201 1=some 2∧tfield Tryz.prog 201 1=some (2,1,false)∧toff Tryz.prog 201 2=some 3∧tfield Tryz.prog 201 2=some (3,1,false)∧placesOf Tryz.prog 201=some [(0,2),(2,1),(3,1)]:=by (repeat' refine And.intro ?_ ?_)<;>kernel_rfl
@[simp] theorem Tryz.y203:tsz Tryz.prog 203=some 1∧tag Tryz.prog 203=some true∧telem Tryz.prog 203=none∧tarr Tryz.prog 203=none∧tint Tryz.prog 203=none∧tbool Tryz.prog 203=false∧tbytes Tryz.prog 203=some 8∧tzero Tryz.prog 203=some [.nilFunc]∧toff Tryz.prog 203 0=some 0∧tfield Tryz.prog 203 0=some (0,1,false)∧placesOf Tryz.prog 203=some [(0,1)]:=by (repeat' refine And.intro ?_ ?_)<;>kernel_rfl
@[simp] theorem Tryz.y204:tsz Tryz.prog 204=some 8∧tag Tryz.prog 204=some true∧telem Tryz.prog 204=none∧tarr Tryz.prog 204=some (8,203)∧tint Tryz.prog 204=none∧tbool Tryz.prog 204=false∧tbytes Tryz.prog 204=some 64∧tzero Tryz.prog 204=some [.nilFunc,.nilFunc,.nilFunc,.nilFunc,.nilFunc,.nilFunc,.nilFunc,.nilFunc]∧placesOf Tryz.prog 204=some [(0,1),(1,1),(2,1),(3,1),(4,1),(5,1),(6,1),(7,1)]∧eqArrOk.tarr' Tryz.prog 204=some (8,203)∧eqShape Tryz.prog 204=none:=by (repeat' refine And.intro ?_ ?_)<;>kernel_rfl
@[simp] theorem Tryz.yx3:keyShape Tryz.prog 3=some [.int .i64]∧tzk Tryz.prog 3=some [.int .i64 0]:=by (repeat' refine And.intro ?_ ?_)<;>kernel_rfl
@[simp] theorem Tryz.yx4:tzk Tryz.prog 4=some [.bool false]:=by kernel_rfl
@[simp] theorem Tryz.ok5:CallOk Tryz.prog 5:=Tryz.call5
@[simp] theorem Tryz.ok6:CallOk Tryz.prog 6:=Tryz.call6
@[simp] theorem Tryz.ok11:CallOk Tryz.prog 11:=Tryz.call11
@[simp] theorem Tryz.ok12:CallOk Tryz.prog 12:=Tryz.call12
@[simp] theorem Tryz.ok13:CallOk Tryz.prog 13:=Tryz.call13
@[simp] theorem Tryz.ok14:CallOk Tryz.prog 14:=Tryz.call14
@[simp] theorem Tryz.ok15:CallOk Tryz.prog 15:=Tryz.call15
@[simp] theorem Tryz.ok16:CallOk Tryz.prog 16:=Tryz.call16
@[simp] theorem Tryz.ok17:CallOk Tryz.prog 17:=Tryz.call17
@[simp] theorem Tryz.ok18:CallOk Tryz.prog 18:=Tryz.call18
@[simp] theorem Tryz.ok19:CallOk Tryz.prog 19:=Tryz.call19
@[simp] theorem Tryz.ok20:CallOk Tryz.prog 20:=Tryz.call20
@[simp] theorem Tryz.ok21:CallOk Tryz.prog 21:=Tryz.call21
@[simp] theorem Tryz.ok22:CallOk Tryz.prog 22:=Tryz.call22
@[simp] theorem Tryz.ok24:CallOk Tryz.prog 24:=Tryz.call24
@[simp] theorem Tryz.ok25:CallOk Tryz.prog 25:=Tryz.call25
@[simp] theorem Tryz.ok26:CallOk Tryz.prog 26:=Tryz.call26
@[simp] theorem Tryz.ok27:CallOk Tryz.prog 27:=Tryz.call27
@[simp] theorem Tryz.ok28:CallOk Tryz.prog 28:=Tryz.call28
@[simp] theorem Tryz.ok29:CallOk Tryz.prog 29:=Tryz.call29
@[simp] theorem Tryz.ok30:CallOk Tryz.prog 30:=Tryz.call30
@[simp] theorem Tryz.ok31:CallOk Tryz.prog 31:=Tryz.call31
@[simp] theorem Tryz.ok32:CallOk Tryz.prog 32:=Tryz.call32
@[simp] theorem Tryz.ok33:CallOk Tryz.prog 33:=Tryz.call33
@[simp] theorem Tryz.ok34:CallOk Tryz.prog 34:=Tryz.call34
@[simp] theorem Tryz.ok35:CallOk Tryz.prog 35:=Tryz.call35
@[simp] theorem Tryz.ok36:CallOk Tryz.prog 36:=Tryz.call36
@[simp] theorem Tryz.ok37:CallOk Tryz.prog 37:=Tryz.call37
@[simp] theorem Tryz.ok38:CallOk Tryz.prog 38:=Tryz.call38
@[simp] theorem Tryz.ok39:CallOk Tryz.prog 39:=Tryz.call39
@[simp] theorem Tryz.ok40:CallOk Tryz.prog 40:=Tryz.call40
@[simp] theorem Tryz.ok41:CallOk Tryz.prog 41:=Tryz.call41
@[simp] theorem Tryz.ok42:CallOk Tryz.prog 42:=Tryz.call42
@[simp] theorem Tryz.ok43:CallOk Tryz.prog 43:=Tryz.call43
@[simp] theorem Tryz.ok44:CallOk Tryz.prog 44:=Tryz.call44
@[simp] theorem Tryz.ok45:CallOk Tryz.prog 45:=Tryz.call45
@[simp] theorem Tryz.ok46:CallOk Tryz.prog 46:=Tryz.call46
@[simp] theorem Tryz.ok47:CallOk Tryz.prog 47:=Tryz.call47
@[simp] theorem Tryz.ok48:CallOk Tryz.prog 48:=Tryz.call48
@[simp] theorem Tryz.ok49:CallOk Tryz.prog 49:=Tryz.call49
@[simp] theorem Tryz.ok50:CallOk Tryz.prog 50:=Tryz.call50
@[simp] theorem Tryz.ok51:CallOk Tryz.prog 51:=Tryz.call51
@[simp] theorem Tryz.ok52:CallOk Tryz.prog 52:=Tryz.call52
@[simp] theorem Tryz.ok53:CallOk Tryz.prog 53:=Tryz.call53
@[simp] theorem Tryz.ok54:CallOk Tryz.prog 54:=Tryz.call54
@[simp] theorem Tryz.ok55:CallOk Tryz.prog 55:=Tryz.call55
@[simp] theorem Tryz.ok56:CallOk Tryz.prog 56:=Tryz.call56
@[simp] theorem Tryz.ok57:CallOk Tryz.prog 57:=Tryz.call57
@[simp] theorem Tryz.ok58:CallOk Tryz.prog 58:=Tryz.call58
@[simp] theorem Tryz.ok59:CallOk Tryz.prog 59:=Tryz.call59
@[simp] theorem Tryz.ok60:CallOk Tryz.prog 60:=Tryz.call60
@[simp] theorem Tryz.ok61:CallOk Tryz.prog 61:=Tryz.call61
@[simp] theorem Tryz.ok62:CallOk Tryz.prog 62:=Tryz.call62
@[simp] theorem Tryz.ok63:CallOk Tryz.prog 63:=Tryz.call63
@[simp] theorem Tryz.ok64:CallOk Tryz.prog 64:=Tryz.call64
@[simp] theorem Tryz.ok65:CallOk Tryz.prog 65:=Tryz.call65
@[simp] theorem Tryz.ok66:CallOk Tryz.prog 66:=Tryz.call66
@[simp] theorem Tryz.ok67:CallOk Tryz.prog 67:=Tryz.call67
@[simp] theorem Tryz.ok68:CallOk Tryz.prog 68:=Tryz.call68
@[simp] theorem Tryz.ok69:CallOk Tryz.prog 69:=Tryz.call69
@[simp] theorem Tryz.ok70:CallOk Tryz.prog 70:=Tryz.call70
@[simp] theorem Tryz.ok71:CallOk Tryz.prog 71:=Tryz.call71
@[simp] theorem Tryz.ok72:CallOk Tryz.prog 72:=Tryz.call72
@[simp] theorem Tryz.ok73:CallOk Tryz.prog 73:=Tryz.call73
@[simp] theorem Tryz.ok74:CallOk Tryz.prog 74:=Tryz.call74
@[simp] theorem Tryz.ok75:CallOk Tryz.prog 75:=Tryz.call75
@[simp] theorem Tryz.ok76:CallOk Tryz.prog 76:=Tryz.call76
@[simp] theorem Tryz.ok77:CallOk Tryz.prog 77:=Tryz.call77
@[simp] theorem Tryz.ok78:CallOk Tryz.prog 78:=Tryz.call78
@[simp] theorem Tryz.ok79:CallOk Tryz.prog 79:=Tryz.call79
@[simp] theorem Tryz.ok80:CallOk Tryz.prog 80:=Tryz.call80
@[simp] theorem Tryz.ok81:CallOk Tryz.prog 81:=Tryz.call81
@[simp] theorem Tryz.ok82:CallOk Tryz.prog 82:=Tryz.call82
@[simp] theorem Tryz.ok83:CallOk Tryz.prog 83:=Tryz.call83
@[simp] theorem Tryz.ok84:CallOk Tryz.prog 84:=Tryz.call84
@[simp] theorem Tryz.ok85:CallOk Tryz.prog 85:=Tryz.call85
@[simp] theorem Tryz.ok86:CallOk Tryz.prog 86:=Tryz.call86
@[simp] theorem Tryz.ok87:CallOk Tryz.prog 87:=Tryz.call87
@[simp] theorem Tryz.ok88:CallOk Tryz.prog 88:=Tryz.call88
@[simp] theorem Tryz.ok89:CallOk Tryz.prog 89:=Tryz.call89
@[simp] theorem Tryz.ok90:CallOk Tryz.prog 90:=Tryz.call90
@[simp] theorem Tryz.ok91:CallOk Tryz.prog 91:=Tryz.call91
@[simp] theorem Tryz.ok92:CallOk Tryz.prog 92:=Tryz.call92
@[simp] theorem Tryz.ok93:CallOk Tryz.prog 93:=Tryz.call93
@[simp] theorem Tryz.ok94:CallOk Tryz.prog 94:=Tryz.call94
@[simp] theorem Tryz.ok95:CallOk Tryz.prog 95:=Tryz.call95
@[simp] theorem Tryz.ok96:CallOk Tryz.prog 96:=Tryz.call96
@[simp] theorem Tryz.ok97:CallOk Tryz.prog 97:=Tryz.call97
@[simp] theorem Tryz.ok98:CallOk Tryz.prog 98:=Tryz.call98
@[simp] theorem Tryz.ok99:CallOk Tryz.prog 99:=Tryz.call99
@[simp] theorem Tryz.ok100:CallOk Tryz.prog 100:=Tryz.call100
@[simp] theorem Tryz.ok101:CallOk Tryz.prog 101:=Tryz.call101
@[simp] theorem Tryz.ok102:CallOk Tryz.prog 102:=Tryz.call102
@[simp] theorem Tryz.ok103:CallOk Tryz.prog 103:=Tryz.call103
@[simp] theorem Tryz.ok104:CallOk Tryz.prog 104:=Tryz.call104
@[simp] theorem Tryz.ok105:CallOk Tryz.prog 105:=Tryz.call105
@[simp] theorem Tryz.ok107:CallOk Tryz.prog 107:=Tryz.call107
@[simp] theorem Tryz.ok108:CallOk Tryz.prog 108:=Tryz.call108
@[simp] theorem Tryz.ok109:CallOk Tryz.prog 109:=Tryz.call109
@[simp] theorem Tryz.ok110:CallOk Tryz.prog 110:=Tryz.call110
@[simp] theorem Tryz.ok111:CallOk Tryz.prog 111:=Tryz.call111
@[simp] theorem Tryz.ok112:CallOk Tryz.prog 112:=Tryz.call112
@[simp] theorem Tryz.ok113:CallOk Tryz.prog 113:=Tryz.call113
@[simp] theorem Tryz.ok114:CallOk Tryz.prog 114:=Tryz.call114
@[simp] theorem Tryz.ok115:CallOk Tryz.prog 115:=Tryz.call115
@[simp] theorem Tryz.ok116:CallOk Tryz.prog 116:=Tryz.call116
@[simp] theorem Tryz.ok117:CallOk Tryz.prog 117:=Tryz.call117
@[simp] theorem Tryz.ok121:CallOk Tryz.prog 121:=Tryz.call121
@[simp] theorem Tryz.ok122:CallOk Tryz.prog 122:=Tryz.call122
@[simp] theorem Tryz.ok123:CallOk Tryz.prog 123:=Tryz.call123
@[simp] theorem Tryz.ok124:CallOk Tryz.prog 124:=Tryz.call124
@[simp] theorem Tryz.ok125:CallOk Tryz.prog 125:=Tryz.call125
@[simp] theorem Tryz.ok126:CallOk Tryz.prog 126:=Tryz.call126
@[simp] theorem Tryz.ok127:CallOk Tryz.prog 127:=Tryz.call127
@[simp] theorem Tryz.ok128:CallOk Tryz.prog 128:=Tryz.call128
@[simp] theorem Tryz.ok129:CallOk Tryz.prog 129:=Tryz.call129
@[simp] theorem Tryz.ok140:CallOk Tryz.prog 140:=Tryz.call140
@[simp] theorem Tryz.ok146:CallOk Tryz.prog 146:=Tryz.call146
@[simp] theorem Tryz.ok166:CallOk Tryz.prog 166:=Tryz.call166
@[simp] theorem Tryz.ok167:CallOk Tryz.prog 167:=Tryz.call167
@[simp] theorem Tryz.ok168:CallOk Tryz.prog 168:=Tryz.call168
@[simp] theorem Tryz.ok169:CallOk Tryz.prog 169:=Tryz.call169
@[simp] theorem Tryz.ok170:CallOk Tryz.prog 170:=Tryz.call170
@[simp] theorem Tryz.ok171:CallOk Tryz.prog 171:=Tryz.call171
@[simp] theorem Tryz.ok172:CallOk Tryz.prog 172:=Tryz.call172
@[simp] theorem Tryz.ok173:CallOk Tryz.prog 173:=Tryz.call173
@[simp] theorem Tryz.ok174:CallOk Tryz.prog 174:=Tryz.call174
@[simp] theorem Tryz.ok175:CallOk Tryz.prog 175:=Tryz.call175
@[simp] theorem Tryz.ok176:CallOk Tryz.prog 176:=Tryz.call176
@[simp] theorem Tryz.ok177:CallOk Tryz.prog 177:=Tryz.call177
@[simp] theorem Tryz.ok178:CallOk Tryz.prog 178:=Tryz.call178
@[simp] theorem Tryz.ok179:CallOk Tryz.prog 179:=Tryz.call179
@[simp] theorem Tryz.ok180:CallOk Tryz.prog 180:=Tryz.call180
@[simp] theorem Tryz.ok181:CallOk Tryz.prog 181:=Tryz.call181
@[simp] theorem Tryz.ok182:CallOk Tryz.prog 182:=Tryz.call182
@[simp] theorem Tryz.ok183:CallOk Tryz.prog 183:=Tryz.call183
@[simp] theorem Tryz.ok184:CallOk Tryz.prog 184:=Tryz.call184
@[simp] theorem Tryz.ok185:CallOk Tryz.prog 185:=Tryz.call185
@[simp] theorem Tryz.ok186:CallOk Tryz.prog 186:=Tryz.call186
@[simp] theorem Tryz.ok187:CallOk Tryz.prog 187:=Tryz.call187
@[simp] theorem Tryz.ok188:CallOk Tryz.prog 188:=Tryz.call188
@[simp] theorem Tryz.ok189:CallOk Tryz.prog 189:=Tryz.call189
@[simp] theorem Tryz.ok190:CallOk Tryz.prog 190:=Tryz.call190
@[simp] theorem Tryz.ok191:CallOk Tryz.prog 191:=Tryz.call191
@[simp] theorem Tryz.ok192:CallOk Tryz.prog 192:=Tryz.call192
@[simp] theorem Tryz.ok193:CallOk Tryz.prog 193:=Tryz.call193
@[simp] theorem Tryz.ok194:CallOk Tryz.prog 194:=Tryz.call194
@[simp] theorem Tryz.ok195:CallOk Tryz.prog 195:=Tryz.call195
@[simp] theorem Tryz.ok196:CallOk Tryz.prog 196:=Tryz.call196
@[simp] theorem Tryz.ok197:CallOk Tryz.prog 197:=Tryz.call197
@[simp] theorem Tryz.ok198:CallOk Tryz.prog 198:=Tryz.call198
end Go.Proofs
