/- Part 14 of the proofs. -/
import Derived.Test.YtjodaihiogfkbaaGreatDoorRows
import Derived.Test.YtjodaihiogfkbaaGreatDoorV08
import Derived.Test.YtjodaihiogfkbaaGreatDoorV10
import Derived.Test.YtjodaihiogfkbaaGreatDoorV12
import Derived.Test.YtjodaihiogfkbaaGreatDoorV13
set_option linter.all false
set_option linter.deprecated false
set_option maxHeartbeats 100000000
namespace Go.Ab
open Go
theorem pC {α:Type} {enc:α→List IC} {ok:α→Prop}:∀ (es:List (List IC)),(∀ x∈es,∃ a,ok a∧x=enc a)→∃ xs:List α,(∀ x∈xs,ok x)∧es=xs.map enc
 | [],_=>⟨[],by simp,rfl⟩
 | e :: es,h=>by
   obtain⟨a,ha,rfl⟩:=h e (by simp)
   obtain⟨xs,hx,rfl⟩:=pC es fun x hx=>h x (by simp[hx])
   exact⟨a :: xs,by simpa using⟨ha,hx⟩,rfl⟩
theorem Opens.sliceOf {P:Program} {t e:TypeId} {α:Type} {enc:α→List IC} {ok:α→Prop} {sz:Nat} (ht:P.underlying t=some (.slice e)) (hc:P.cellsOf e=sz) (h0:0<sz) (hl:∀ x,(enc x).length=sz) (he:Opens P e (fun l=>∃ x,ok x∧l=enc x)) :
 Opens P t (fun l=>∃ xs:List α,(∀ x∈xs,ok x)∧l=[.sl (xs.map enc)]):=
 (Opens.slice ht hc h0 he (by rintro l ⟨x,_,rfl⟩;exact hl x)).mono (by
  rintro l ⟨es,h,rfl⟩
  obtain⟨xs,h1,rfl⟩:=pC es h
  exact⟨xs,h1,rfl⟩)
def eS (x:Issue):Prop:=0≤x.kind∧x.kind≤255
end Go.Ab
namespace Go.Proofs
open Go Go.Ab
def Rd (t:TypeId) {α:Type} (enc:α→List IC) (ok:α→Prop):Prop:=Opens Tryz.prog t (fun l=>∃ x,ok x∧l=enc x)
theorem oInt:Opens Tryz.prog 3 (fun l=>∃ n:Int,l=[rI n]):=(Opens.int Tryz.underlying3).mono (by rintro l ⟨n,_,rfl⟩;exact⟨n,rfl⟩)
theorem GC:Opens Tryz.prog 5 (fun l=>∃ n:Int,(0≤n∧n≤255)∧l=[.raw (.int .u8 n)]):=(Opens.int Tryz.underlying5).mono (by
 rintro l ⟨n,hn,rfl⟩
 exact⟨n,by simpa[IntKind.min,IntKind.max,IntKind.signed,IntKind.bits] using hn,rfl⟩)
theorem DA:Opens Tryz.prog 4 (fun l=>∃ b:Bool,l=[rB b]):=Opens.bool Tryz.underlying4
theorem Gm:Rd 3 encI (fun _=>True):=oInt.mono (by rintro l ⟨n,rfl⟩;exact⟨n,trivial,rfl⟩)
theorem vw {α:Type} {l:List α} (h:l.length=2):∃ a b,l=[a,b]:=by
 match l,h with
 | [a,b],_=>exact⟨a,b,rfl⟩
theorem Ci {α:Type} {l:List α} (h:l.length=3):∃ a b c,l=[a,b,c]:=by
 match l,h with
 | [a,b,c],_=>exact⟨a,b,c,rfl⟩
theorem Hb {α:Type} {l:List α} (h:l.length=4):∃ a b c d,l=[a,b,c,d]:=by
 match l,h with
 | [a,b,c,d],_=>exact⟨a,b,c,d,rfl⟩
theorem Ha {α:Type} {l:List α} (h:l.length=5):∃ a b c d e,l=[a,b,c,d,e]:=by
 match l,h with
 | [a,b,c,d,e],_=>exact⟨a,b,c,d,e,rfl⟩
def yc {α:Type} (d:α) (a b c:α):Nat→α|0=>a|1=>b|2=>c|_=>d
def Dx {α:Type} (z:α) (a b c d e:α):Nat→α|0=>a|1=>b|2=>c|3=>d|4=>e|_=>z
theorem Ei:Rd 181 A4 (fun _=>True):=(Opens.struct Tryz.underlying181 (by kernel_rfl) (fun _ l=>∃ n:Int,l=[rI n]) (fun i f hf=>by
 rcases i with _|_|i<;>simp at hf<;>subst hf<;>exact oInt)).mono (by
 rintro l ⟨ls,h1,h2,rfl⟩
 obtain⟨a,b,rfl⟩:=vw h1
 obtain⟨x,rfl⟩:=h2 0 a rfl
 obtain⟨y,rfl⟩:=h2 1 b rfl
 exact⟨⟨x,y⟩,trivial,rfl⟩)
theorem Gn:Rd 102 B0 (fun _=>True):=(Opens.struct Tryz.underlying102 (by kernel_rfl) (fun _ l=>∃ n:Int,l=[rI n]) (fun i f hf=>by
 rcases i with _|_|_|i<;>simp at hf<;>subst hf<;>exact oInt)).mono (by
 rintro l ⟨ls,h1,h2,rfl⟩
 obtain⟨a,b,c,rfl⟩:=Ci h1
 obtain⟨x,rfl⟩:=h2 0 a rfl
 obtain⟨y,rfl⟩:=h2 1 b rfl
 obtain⟨z,rfl⟩:=h2 2 c rfl
 exact⟨⟨x,y,z⟩,trivial,rfl⟩)
theorem Ex:Opens Tryz.prog 176 (fun l=>∃ xs:List Itm,l=[.sl (xs.map A4)]):=
 (Opens.sliceOf Tryz.underlying176 (sz:=2) (by kernel_rfl) (by decide) (fun _=>rfl) Ei).mono (by rintro l ⟨xs,_,h⟩;exact⟨xs,h⟩)
theorem GG:Opens Tryz.prog 108 (fun l=>∃ xs:List Dim,l=[.sl (xs.map B0)]):=
 (Opens.sliceOf Tryz.underlying108 (sz:=3) (by kernel_rfl) (by decide) (fun _=>rfl) Gn).mono (by rintro l ⟨xs,_,h⟩;exact⟨xs,h⟩)
theorem Dz:Opens Tryz.prog 40 (fun l=>∃ xs:List Int,l=[.sl (xs.map encI)]):=
 (Opens.sliceOf Tryz.underlying40 (sz:=1) (by kernel_rfl) (by decide) (fun _=>rfl) Gm).mono (by rintro l ⟨xs,_,h⟩;exact⟨xs,h⟩)
theorem BF:Rd 178 g9 eS:=(Opens.struct Tryz.underlying178 (by kernel_rfl) (Dx (fun _=>True) (fun l=>∃ n:Int,l=[rI n]) (fun l=>∃ n:Int,l=[rI n]) (fun l=>∃ n:Int,(0≤n∧n≤255)∧l=[.raw (.int .u8 n)]) (fun l=>∃ xs:List Itm,l=[.sl (xs.map A4)]) (fun l=>∃ xs:List Dim,l=[.sl (xs.map B0)])) (fun i f hf=>by
 rcases i with _|_|_|_|_|i<;>simp at hf<;>subst hf
 ·exact oInt
 ·exact oInt
 ·exact GC
 ·exact Ex
 ·exact GG)).mono (by
 rintro l ⟨ls,h1,h2,rfl⟩
 obtain⟨a,b,c,d,e,rfl⟩:=Ha h1
 obtain⟨x,rfl⟩:=h2 0 a rfl
 obtain⟨y,rfl⟩:=h2 1 b rfl
 obtain⟨z,hz,rfl⟩:=h2 2 c rfl
 obtain⟨u,rfl⟩:=h2 3 d rfl
 obtain⟨v,rfl⟩:=h2 4 e rfl
 exact⟨⟨x,y,z,u,v⟩,hz,rfl⟩)
theorem Et:Opens Tryz.prog 22 (fun l=>∃ xs:List Issue,(∀ x∈xs,eS x)∧l=[.sl (xs.map g9)]):=
 Opens.sliceOf Tryz.underlying22 (sz:=5) (by kernel_rfl) (by decide) (fun _=>rfl) BF
theorem GD:Opens Tryz.prog 24 (fun l=>∃ xs:List Issue,(∀ x∈xs,eS x)∧l=[.sl (xs.map g9)]):=(Opens.struct Tryz.underlying24 (by kernel_rfl) (fun _ l=>∃ xs:List Issue,(∀ x∈xs,eS x)∧l=[.sl (xs.map g9)]) (fun i f hf=>by
 rcases i with _|i<;>simp at hf<;>subst hf<;>exact Et)).mono (by
 rintro l ⟨ls,h1,h2,rfl⟩
 obtain⟨a,rfl⟩:=List.length_eq_one_iff.1 h1
 obtain⟨x,hx,rfl⟩:=h2 0 a rfl
 exact⟨x,hx,rfl⟩)
theorem R2 {P:Program} {W:World} {t e te n:Nat} {f:Field} {ps rs:Array TypeId} {cs:Array Value} {fuel:Nat} {p:List MemPlace} {names:List (List UInt8)} {fs:List FuncId} (ht:P.underlying t=some (.array n e)) (hte:P.underlying e=some (.struct #[f])) (hf0:f.offset=0) (hft:f.type=te) (hu:P.underlying te=some (.func ps rs false)) (hce:P.cellsOf e=1) (hcf:P.cellsOf te=1) (hn:names.length=n)
 (hfs:(names.zip fs).all (fun x=>x.1≠[]∧((List.range P.funcs.size).filter fun f=>(P.funcs[f]?).any (·.name.toUTF8.data.toList==x.1))=[x.2])=true) (hl:fs.length=n)
 (h:DataW.trod (funcToken P) P W 0 (fun _=>true) true fuel t cs.toList=some (.agg (names.map fun x=>.agg [.held x]),p)):∀ (j:Nat) (g:FuncId),fs[j]?=some g→cs[j]?=some (.func (.func g) #[] #[]):=by
 obtain⟨xs,m,_,ex,hlen,hxl,hel⟩:=DataW.trod_array ht h
 intro j g hg
 have hj:j<n:=by rw[← hl];exact e7 hg
 have hE:=hel j hj
 rw[hce,Nat.mul_one] at hE
 have hx:xs[j]?=some xs[j]:=by simp[hxl,hj]
 rw[hx] at hE
 obtain⟨ys,m2,_,ey,hlen2,hyl,hel2⟩:=DataW.trod_struct hte hE
 have hE2:=hel2 0 f rfl
 have hyl1:ys.length=1:=by simpa using hyl
 obtain⟨y,rfl⟩:=List.length_eq_one_iff.1 hyl1
 rw[hf0,hft,hcf] at hE2
 have hcl:j<cs.size:=by
  rcases Nat.lt_or_ge j cs.size with h1|h1
  ·exact h1
  ·simp[hce] at hlen2;omega
 have hc1:((cs.toList.drop j).take 1)=[cs[j]]:=by
  rw[List.drop_eq_getElem_cons (by simpa using hcl)];simp
 rw[hc1] at hE2
 simp only[List.drop_zero,List.take_succ_cons,List.getElem?_cons_zero,List.take_nil] at hE2
 have hnm:names[j]?=some names[j]:=by simp[hn,hj]
 have e1:(xs.map (·.1))[j]?=(names.map fun x=>DataW.agg [DataW.held x])[j]?:=by rw[(DataW.agg.inj (Prod.mk.inj ex).1)]
 rw[List.getElem?_map,List.getElem?_map,hx,hnm,ey] at e1
 simp only[Option.map_some,Option.some.injEq,DataW.agg.injEq,List.map_cons,List.map_nil,List.cons.injEq,and_true] at e1
 have hall:=List.all_eq_true.1 hfs (names[j],g) (List.mem_iff_getElem?.2 ⟨j,by rw[List.getElem?_zip_eq_some];exact⟨hnm,hg⟩⟩)
 simp only[decide_eq_true_eq] at hall
 cases hnj:names[j] with
 | nil=>exact absurd hnj hall.1
 | cons b r =>
   rw[hnj] at hall e1
   have:=func_of_trod (f0:=g) (q:=y.2) hu hall.2 (by rw[hE2,← e1])
   rw[Array.getElem?_eq_getElem hcl,this]
end Go.Proofs
namespace Go.Proofs
open Go Go.Ab
theorem qf {l:List Issue} (h:j7 l=0):∃ dep:Int→Int,∀ n∈nums l,1≤dep n∧dep n≤6∧∀ c∈cA l n,c∈nums l∧dep c<dep n:=by
 have hL:r5 l=true:=by
  cases hL:r5 l
  ·simp[j7,hL] at h
  ·rfl
 have h2:¬ X0 (C4 l) > (C4 l).length:=fun hg=>by simp[j7,hL,hg] at h
 have h6:¬ X0 (C4 l) > 6:=fun hg=>by simp[j7,hL,h2,hg] at h
 have hsc:=hL
 simp only[r5,Bool.and_eq_true] at hsc
 obtain⟨ds,hds⟩:=Option.isSome_iff_exists.1 hsc.1.1.2
 obtain⟨e,hlt,_,_,_⟩:=K0 hds
 have hall:=hsc.1.2
 rw[← e] at hall
 have hnd:ds.Nodup:=hlt.imp fun h=>Int.ne_of_lt h
 have hch:∀ n∈ds,∀ c∈cA l n,c∈ds:=fun n _ c hc=>by
  simp only[cA,List.mem_flatMap,List.mem_map] at hc
  obtain⟨x,hx,y,hy,rfl⟩:=hc
  have:=List.all_eq_true.1 (List.all_eq_true.1 hall x (List.mem_filter.1 hx).1) y hy
  simpa using this
 have e1:∀ n∈ds,Rr l (ds.length+1) n≤ds.length:=fun n hn=>Int.not_lt.1 fun hg=>h2 (by
  have:=(jC (Rr l (ds.length+1)) ds ds.length (by omega)).2 ⟨n,hn,hg⟩
  simpa[C4,← e] using this)
 have e2:∀ n∈ds,Rr l (ds.length+1) n≤6:=fun n hn=>Int.not_lt.1 fun hg=>h6 (by
  have:=(jC (Rr l (ds.length+1)) ds 6 (by omega)).2 ⟨n,hn,hg⟩
  simpa[C4,← e] using this)
 have h0:DInv l ds ([],fV ds):=by
  rw[kK hnd]
  exact⟨hnd,fun n h=>h,by simp,by simp,fun n h h'=>absurd h h'⟩
 obtain⟨hi,_⟩:=fd hch ds.length _ h0
 change DInv l ds (o6 l ds) at hi
 obtain⟨d1,d2⟩:=gr hnd hch
 have hz:(o6 l ds).2.length=0:=by
  refine Nat.eq_zero_of_not_pos fun hp=>?_
  obtain⟨n,hn,hg⟩:=d1.1 hp
  have:=e1 n hn;omega
 have hempty:∀ n,n∉(o6 l ds).2:=fun n=>by rw[List.length_eq_zero_iff.1 hz];simp
 refine⟨l9 (o6 l ds).1,fun n hn=>?_⟩
 rw[← e] at hn
 obtain⟨a,b,c⟩:=hi.val n hn (hempty n)
 have hn1:=c (ds.length+1) (by omega)
 refine⟨a,by have:=e2 n hn;omega,fun m hm=>?_⟩
 have hmd:=hch n hn m hm
 obtain⟨a',b',c'⟩:=hi.val m hmd (hempty m)
 have hm1:=c' ds.length (by omega)
 have hle:=mC (f:=Rr l ds.length) hm
 have hr:Rr l (ds.length+1) n=1+mx (Rr l ds.length) (cA l n):=rfl
 exact⟨by rw[← e];exact hmd,by omega⟩
open Go Go.Ab Tryz
variable {G:JO}
theorem uA (n lo hi:Int):zP prog G 319 [iv n,iv lo,iv hi] (bv (decide (lo≤n)&&decide (n≤hi))):=by
 refine zf func319 ntmps319 ?_
 try simp only[iv,iv,iv]
 have hs:=trivial
 repeat' first|(with_reducible first|refine zz ?_|refine zr ?_|refine zE [0,1,2,6] ?_)|simp -dsimp[hs]|with_reducible refine j0 ?_ ?_<;>intro h<;>have h0:=h<;>(try simp only[i7] at h)<;>have h2:=h<;>(try simp at h2)<;>replace hs:=za h0 (za h (za h2 hs))
 all_goals try clear hs
 all_goals simp[*]
theorem I6 (d:Dim):C9 d=true↔0≤d.nominal∧d.nominal≤1000000000∧0≤d.upper∧d.upper≤1000000000∧0≤d.lower∧d.lower≤d.upper:=by
 simp[C9];omega
theorem di {b:Bool} {p:Prop} (h:b=true↔p) (hn:¬ p):b=false:=by
 cases b
 ·rfl
 ·exact absurd (h.1 rfl) hn
theorem Bq {b:Bool} {p:Prop} (h:b=true↔p) (hn:p):b=true:=h.2 hn
theorem Hx (d:Dim):zP prog G 313 [T6 d] (bv (C9 d)):=by
 refine zf func313 ntmps313 ?_
 try simp only[T6]
 have hs:=trivial
 repeat' first|(with_reducible first|refine zz ?_|refine zr ?_|refine zE [0,1,2] ?_)|simp -dsimp[hs]|refine zp (uA (G:=G) _ _ _) ?_|with_reducible refine j0 ?_ ?_<;>intro h<;>have h0:=h<;>(try simp only[i7] at h)<;>have h2:=h<;>(try simp at h2)<;>replace hs:=za h0 (za h (za h2 hs))
 ·rw[Bool.eq_iff_iff,I6];simp;omega
 ·exact di (I6 d) (by omega)
 ·exact di (I6 d) (by omega)
theorem du (x:Issue):(zX x&&Bg x)=true↔1≤x.drawing∧x.drawing≤9999∧1≤x.letter∧x.letter≤8∧(x.kind=1∧1≤x.items.length∧x.items.length≤8∧x.dims.length=0∨2≤x.kind∧x.kind≤3∧x.dims.length≤4∧x.items.length=0):=by
 unfold zX Bg
 split
 ·simp only[Bool.and_eq_true,decide_eq_true_eq];omega
 ·simp only[Bool.and_eq_true,decide_eq_true_eq];omega
theorem nR {d:Int} {l:List Itm} {k:Nat} (hlt:k<l.length) (hno:E4 d 0 l=E4 d (pv l k) (l.drop k)) :
 E4 d 0 l=true↔(1≤l[k].drawing∧l[k].drawing≤9999∧1≤l[k].count∧l[k].count≤20∧l[k].drawing≠d∧pv l k<l[k].drawing)∧E4 d (pv l (k+1)) (l.drop (k+1))=true:=by
 have hx:l[k]?=some l[k]:=by simp[hlt]
 have hpv1:pv l (k+1)=l[k].drawing:=by simp[pv,hx]
 rw[hno,List.drop_eq_getElem_cons hlt,E4,hpv1]
 simp only[Bool.and_eq_true,decide_eq_true_eq,Bool.not_eq_true',decide_eq_false_iff_not]
 constructor
 ·rintro⟨⟨⟨⟨⟨a,b⟩,c,d⟩,e⟩,f⟩,g⟩;exact⟨⟨a,b,c,d,e,f⟩,g⟩
 ·rintro⟨⟨a,b,c,d,e,f⟩,g⟩;exact⟨⟨⟨⟨⟨a,b⟩,c,d⟩,e⟩,f⟩,g⟩
theorem I0 {b c:Bool} {p:Prop} (h:b=true↔p∧c=true) (hp:p):b=c:=by
 rw[Bool.eq_iff_iff,h];exact⟨fun h=>h.2,fun h=>⟨hp,h⟩⟩
theorem E0 {b c:Bool} {p:Prop} (h:b=true↔p∧c=true) (hp:¬ p):b=false:=di h fun h=>hp h.1
theorem bt {α:Type} {f:α→Bool} {l:List α} {k:Nat} (hlt:k<l.length) (hno:l.all f=(l.drop k).all f):l.all f=true↔f l[k]=true∧(l.drop (k+1)).all f=true:=by
 rw[hno,List.drop_eq_getElem_cons hlt,List.all_cons,Bool.and_eq_true]
theorem Cm (x:Issue) (hk:0≤x.kind∧x.kind≤255) (hl:x.items.length<1000000) (hd:x.dims.length<1000000):zP prog G 301 [O0 x] (bv (n4 x)):=by
 refine zf func301 ntmps301 ?_
 try simp only[O0]
 have hw:IntKind.i64.wrap x.kind=x.kind:=o3 (by omega) (by omega)
 have h12:=du x
 generalize hA:(zX x&&Bg x)=A at h12
 have hs:=hw
 repeat' first|(with_reducible first|refine zz ?_|refine zr ?_|refine zE [0,1,2,3,4,5,57,62,102,107,116] ?_)|simp -dsimp[hs]|refine zp (cB (G:=G) _ _ _) ?_|refine i9 ?_ ?_<;>intro h<;>try simp only[i7] at h|with_reducible refine j0 ?_ ?_<;>intro h<;>have h0:=h<;>(try simp only[i7] at h)<;>have h2:=h<;>(try simp at h2)<;>replace hs:=za h0 (za h (za h2 hs))
 all_goals try clear hs
 all_goals first
  | (have hA2 : A = false := di h12 (by clear h12 hA hw; omega)
     rw[hA2] at hA
     simp[n4,hA];done)
  | have hA2:A=true:=Bq h12 (by clear h12 hA hw;omega)
    rw[hA2] at hA
    clear h12 hA2
    refine i6 (ι:={ k:Nat // k≤x.items.length∧E4 x.drawing 0 x.items=E4 x.drawing (pv x.items k) (x.items.drop k) }) (fun p=>⟨117,[(1,.one (.ptr 0 0)),(2,bv false),(3,iv (p.1:Int))],[.row ((g9 x).map .im)]⟩) (fun p=>x.items.length-p.1) ⟨0,by simp[pv]⟩ (zv [1,2,3] (by clear hA;simp_all)) ?_
    clear hw
    rintro⟨k,hk,hno⟩
    simp only[iv,g9,rI,List.map_cons,List.map_nil]
 all_goals
  by_cases hlt:k<x.items.length
  ·have hx:x.items[k]?=some x.items[k]:=by simp[hlt]
   have hw:=zk k
   have hst:=nR hlt hno
   by_cases hk0:0<k
   ·have hkx:x.items[k-1]?=some x.items[k-1]:=by simp
    have hw3:IntKind.i64.wrap ((k:Int)-1)=((k-1:Nat):Int):=by rw[o3 (by omega) (by omega)];omega
    have hpv0:pv x.items k=x.items[k-1].drawing:=by
     obtain⟨j,rfl⟩:∃ j,k=j+1:=⟨k-1,by omega⟩
     have:x.items[j]?=some x.items[j]:=by simp
     simp[pv,this]
    rw[hpv0] at hst
    have hs:=za hx (za hw (za hw3 (za hkx (za hk0 hlt))))
    repeat' first|(with_reducible first|refine zz ?_|refine zr ?_)|simp -dsimp[hs]|refine zq (cB (G:=G) _ _ _) ?_|refine zM 7 117 33 [0,1,2,3,4,5,57,62,102,107,116] ?_|with_reducible refine zE [0,1,2,3,4,5,57,62,102,107,116] ?_|refine i9 ?_ ?_<;>intro h<;>try simp only[i7] at h|with_reducible refine j0 ?_ ?_<;>intro h<;>have h0:=h<;>(try simp only[i7] at h)<;>have h2:=h<;>(try simp at h2)<;>replace hs:=za h0 (za h (za h2 hs))
    all_goals try clear hs
    all_goals first
     | (have hf:=E0 hst (by omega);simp[n4,hf];done)
     | exact zn ⟨k+1,by omega,I0 hst (by omega)⟩ (zw [1,2,3] 1)
   ·obtain rfl:k=0:=by omega
    rw[show pv x.items 0=0 from rfl] at hst
    have hs:=za hx (za hw (za hk0 hlt))
    repeat' first|(with_reducible first|refine zz ?_|refine zr ?_)|simp -dsimp[hs]|refine zq (cB (G:=G) _ _ _) ?_|refine zM 7 117 33 [0,1,2,3,4,5,57,62,102,107,116] ?_|with_reducible refine zE [0,1,2,3,4,5,57,62,102,107,116] ?_|refine i9 ?_ ?_<;>intro h<;>try simp only[i7] at h|with_reducible refine j0 ?_ ?_<;>intro h<;>have h0:=h<;>(try simp only[i7] at h)<;>have h2:=h<;>(try simp at h2)<;>replace hs:=za h0 (za h (za h2 hs))
    all_goals try clear hs
    all_goals first
     | (have hf:=E0 hst (by omega);simp[n4,hf];done)
     | exact zn ⟨0+1,by omega,I0 hst (by omega)⟩ (zw [1,2,3] 1 (by simp;exact o3 (by omega) (by omega)))
  ·have hit:E4 x.drawing 0 x.items=true:=by rw[hno,List.drop_eq_nil_of_le (by omega)];rfl
   have hs:=hlt
   repeat' first|(with_reducible first|refine zz ?_|refine zE [0,1,2,3,4,5,57,62,102,107,116] ?_)|simp -dsimp[hs]|refine i9 ?_ ?_<;>intro h<;>try simp only[i7] at h
   all_goals try clear hs
   refine i6 (ι:={ k:Nat // k≤x.dims.length∧x.dims.all C9=(x.dims.drop k).all C9 }) (fun p=>⟨117,[(1,.one (.ptr 0 0)),(2,bv false),(5,iv (p.1:Int))],[.row ((g9 x).map .im)]⟩) (fun p=>x.dims.length-p.1) ⟨0,by simp⟩ (zv [1,2,5]) ?_
   rintro⟨j,hj,hdo⟩
   simp only[iv,g9,rI,List.map_cons,List.map_nil]
   by_cases hlj:j<x.dims.length
   ·have hx:x.dims[j]?=some x.dims[j]:=by simp[hlj]
    have hw:=zk j
    have hst:=bt hlj hdo
    have cd:=Hx (G:=G) x.dims[j]
    have hs:=za hx (za hw hlj)
    repeat' first|(with_reducible first|refine zz ?_|refine zr ?_|refine zE [0,1,2,3,4,5,57,62,102,107,116] ?_)|simp -dsimp[hs]|refine zp cd ?_|refine i9 ?_ ?_<;>intro h<;>try simp only[i7] at h
    all_goals try clear hs
    ·simp only[n4,hA,hit,Bool.true_and]
     exact E0 hst (by rw[‹C9 x.dims[j]=false›];exact Bool.false_ne_true)
    ·exact zn ⟨j+1,by omega,I0 hst ‹C9 x.dims[j]=true›⟩ (zv [1,2,5])
   ·have hdims:x.dims.all C9=true:=by rw[hdo,List.drop_eq_nil_of_le (by omega)];rfl
    have hs:=hlj
    repeat' first|(with_reducible first|refine zz ?_|refine zr ?_|refine zE [0,1,2,3,4,5,57,62,102,107,116] ?_)|simp -dsimp[hs]|refine i9 ?_ ?_<;>intro h<;>try simp only[i7] at h
    all_goals try clear hs
    simp[n4,hA,hit,hdims]
end Go.Proofs
namespace Go.Ab
open Go
@[simp] theorem HT (L:List Int) (k:Nat) (v:Int):(l8 (L.map encI)).set k [DC.im (.raw (.int .i64 v))]=l8 ((L.set k v).map encI):=by
 simp only[l8,List.map_set,encI,rI,List.map_cons,List.map_nil]
@[simp] theorem Hl (L:List Int) (k:Nat):(l8 (L.map encI))[k]?=(L[k]?).map fun v=>[DC.im (.raw (.int .i64 v))]:=by
 simp only[l8,List.getElem?_map,Option.map_map];rfl
@[simp] theorem Hk (L:List Int) (k:Nat) (h:k<(l8 (L.map encI)).length):(l8 (L.map encI))[k]=[DC.im (.raw (.int .i64 (L[k]'(by simpa[p6] using h))))]:=by
 simp[l8]
@[simp] theorem HN (n:Nat) (c:IC):List.replicate n [DC.im c]=l8 (List.replicate n [c]):=by simp[l8]
theorem jD {α β:Type} {f:α→β} {c:β} (h:∀ x,f x=c):∀ l:List α,l.map f=List.replicate l.length c
 | []=>rfl
 | x :: l=>by simp[jD h l,h x,List.replicate_succ]
@[simp] theorem Bt (n:Nat) (c:List IC):(l8 (List.replicate n c)).take n=l8 (List.replicate n c):=List.take_of_length_le (by simp[p6])
theorem kD {α β:Type} {f:α→β} {l:List α} {k:Nat} {x:α} {v:β} (hn:l.Nodup) (hk:l[k]?=some x):(l.map f).set k v=l.map (fun y=>open Classical in if y=x then v else f y):=by
 refine List.ext_getElem? fun j=>?_
 obtain⟨hlt,he⟩:=List.getElem?_eq_some_iff.1 hk
 by_cases hj:j=k
 ·subst hj
  rw[List.getElem?_set_self (by simpa using hlt),List.getElem?_map,hk];simp
 ·rw[List.getElem?_set_ne (Ne.symm hj),List.getElem?_map,List.getElem?_map]
  cases hy:l[j]? with
  | none=>rfl
  | some y =>
    have:y≠x:=fun e=>hj ((List.getElem?_inj (List.getElem?_eq_some_iff.1 hy).1 hn).1 (by rw[hy,hk,e]))
    simp[this]
end Go.Ab
namespace Go.Proofs
open Go Go.Ab Tryz
variable {G:JO}
def Rp (l:List Issue) (r:Nat) (pre:List Issue) (n:Int):Int:=if pre.any (fun x=>decide (x.drawing=n)) then 1+mx (Rr l r) (cA pre n) else 0
def Rq (l:List Issue) (r:Nat) (v:Int) (ys:List Itm):Int:=max (max v 1) (1+mx (Rr l r) (ys.map (·.drawing)))
theorem mt (f:Int→Int) (a b:List Int):mx f (a++b)=max (mx f a) (mx f b):=by
 rw[mx,List.foldl_append]
 exact aZ f b _ (T1 f a)
theorem FG (l:List Issue) (r:Nat) (v:Int):Rq l r v []=max v 1:=by
 have:mx (Rr l r) []=0:=rfl
 simp only[Rq,List.map_nil,this];omega
theorem Dg (l:List Issue) (r:Nat) (v:Int) (ys:List Itm) (y:Itm):Rq l r v (ys++[y])=max (Rq l r v ys) (1+Rr l r y.drawing):=by
 have h:=nj l r y.drawing
 have:mx (Rr l r) [y.drawing]=Rr l r y.drawing:=by simp only[mx,List.foldl_cons,List.foldl_nil];omega
 simp only[Rq,List.map_append,List.map_cons,List.map_nil,mt,this];omega
theorem Dh (l:List Issue) (r:Nat) (pre:List Issue) (x:Issue) (n:Int):Rp l r (pre++[x]) n=if n=x.drawing then Rq l r (Rp l r pre n) x.items else Rp l r pre n:=by
 by_cases hn:n=x.drawing
 ·subst hn
  rw[if_pos rfl]
  have hc:cA (pre++[x]) x.drawing=cA pre x.drawing++x.items.map (·.drawing):=by simp[cA,cK]
  have h1:=T1 (Rr l r) (cA pre x.drawing)
  have h2:=T1 (Rr l r) (x.items.map (·.drawing))
  unfold Rp
  rw[if_pos (by simp),hc,mt]
  unfold Rq
  split
  ·omega
  ·rename_i hp
   have:cA pre x.drawing=[]:=by
    simp only[cA,cK]
    rw[List.filter_eq_nil_iff.2 fun y hy=>?_]
    ·rfl
    ·intro he;exact hp (List.any_eq_true.2 ⟨y,hy,he⟩)
   have h3:mx (Rr l r) []=0:=rfl
   rw[this,h3];omega
 ·rw[if_neg hn]
  have hc:cA (pre++[x]) n=cA pre n:=by simp[cA,cK,Ne.symm hn]
  unfold Rp
  rw[hc]
  simp[Ne.symm hn]
theorem Di {l:List Issue} {n:Int} (r:Nat) (h:∃ x∈l,x.drawing=n):Rp l r l n=Rr l (r+1) n:=by
 unfold Rp
 obtain⟨x,hx,he⟩:=h
 rw[if_pos (List.any_eq_true.2 ⟨x,hx,by simpa using he⟩)];rfl
theorem eu {x:Issue} (h:n4 x=true):x.items.length≤8∧x.dims.length≤4:=by
 simp only[n4,Bool.and_assoc] at h
 rw[← Bool.and_assoc,Bool.and_eq_true] at h
 have:=(du x).1 h.1;omega
theorem pp {l:List Issue} {n:Int} (h:n∈nums l):∃ x∈l,x.drawing=n:=by
 have gen:∀ k,n∈E8 l k→∃ x∈l,x.drawing=n:=by
  intro k
  induction k with
  | zero=>intro h;cases h
  | succ k ih =>
    intro h
    simp only[E8] at h
    rcases List.mem_append.1 h with h|h
    ·exact ih h
    ·split at h
     ·rename_i x hx
      split at h
      ·rw[List.mem_singleton] at h
       exact⟨x,List.mem_of_getElem? hx,h.symm⟩
      ·cases h
     ·cases h
 exact gen _ h
theorem nM {l:List Issue} (h:r5 l=true):o7 none l=some (nums l):=by
 simp only[r5,Bool.and_eq_true] at h
 obtain⟨ds,hds⟩:=Option.isSome_iff_exists.1 h.1.1.2
 rw[hds,gN hds]
theorem kR {l:List Int} (hn:l.Nodup) {k:Nat} {x:Int} (h:l[k]?=some x):idx l x=k:=by
 refine ub h fun j hj he=>?_
 have h1:=(List.getElem?_eq_some_iff.1 h).1
 rw[← he] at h
 have:=(List.getElem?_inj h1 hn).1 h
 omega
theorem uT (l:List Issue) (hl:r5 l=true):zP prog G 266 [G7 l] (s6 (C4 l)):=by
 refine zf func266 ntmps266 ?_
 try simp only[G7]
 have hli:=hl
 simp only[r5,Bool.and_eq_true,decide_eq_true_eq,List.all_eq_true] at hli
 obtain⟨⟨⟨⟨hl1,hl60⟩,hsc⟩,hitems⟩,hn20⟩:=hli
 have c1:=gX (G:=G) l (by omega)
 have hD:C4 l=(nums l).map (Rr l ((nums l).length+1)):=rfl
 obtain⟨_,hlt',hmem,hok,_⟩:=K0 (nM hl)
 have hnd:(nums l).Nodup:=hlt'.imp fun h=>Int.ne_of_lt h
 generalize hns:nums l=ns at *
 have hs:=trivial
 repeat' first|(with_reducible first|refine zz ?_|refine And.intro (by omega) ?_|refine zE [0,1,2,3,4,5,6,7,8,9,10,19,29,53] ?_)|simp -dsimp[hs]|refine zp c1 ?_
 refine i6 (ι:={ r:Nat // r≤ns.length+1 }) (fun p=>⟨78,[(1,.one (.ptr 0 0)),(3,s6 ns),(4,s6 (ns.map (Rr l p.1))),(5,iv (p.1:Int))],[.row [.im (.sl (l.map g9))]]⟩) (fun p=>ns.length+1-p.1) ⟨0,by omega⟩ (zw [1,3,4,5] 1 (by simp[jD (f:=encI ∘ Rr l 0) (c:=[rI 0]) (fun _=>rfl)])) ?_
 rintro⟨r,hr⟩
 simp only[iv,s6]
 by_cases hrl:r≤ns.length
 ·have hw:=zk r
  have hs:=hrl
  repeat' first|(with_reducible first|refine zz ?_|refine And.intro (by omega) ?_|refine zE [0,1,2,3,4,5,6,7,8,9,10,19,29,53] ?_)|simp -dsimp[hs]|refine i9 ?_ ?_<;>intro h<;>try simp only[i7] at h
  refine i6 (ι:={ p:Nat×List Int // p.1≤l.length∧p.2=ns.map (Rp l r (l.take p.1)) }) (fun p=>⟨78,[(1,.one (.ptr 0 0)),(3,s6 ns),(4,s6 (ns.map (Rr l r))),(5,iv (r:Int)),(6,.one (.vec 1 0 0 ns.length)),(7,iv (p.1.1:Int))],[.row [.im (.sl (l.map g9))],.vec 1 (l8 (p.1.2.map encI)) 0 false]⟩) (fun p=>l.length-p.1.1) ⟨(0,List.replicate ns.length 0),by omega,(jD (fun _=>rfl) ns).symm⟩ (zv [1,3,4,5,6,7]) ?_
  rintro⟨⟨i,L⟩,hi,hL⟩
  simp only at hi hL
  simp only[iv,s6]
  by_cases hlt:i<l.length
  ·have hx:l[i]?=some l[i]:=by simp[hlt]
   have hw1:=zk i
   obtain⟨k,hk⟩:=List.mem_iff_getElem?.1 (hmem l[i] (List.getElem_mem hlt))
   have hkl:=e7 hk
   have hidx:=kR hnd hk
   have c2:=nV (G:=G) ns l[i].drawing (by omega)
   rw[hidx] at c2
   have hLk:L[k]?=some (Rp l r (l.take i) l[i].drawing):=by rw[hL,List.getElem?_map,hk];rfl
   generalize hv:Rp l r (l.take i) l[i].drawing=v at hLk
   have hit:=hitems l[i] (List.getElem_mem hlt)
   have hsm:=(eu (hok l[i] (List.getElem_mem hlt))).1
   have hs:=za hx (za hw1 (za hlt (za hkl hLk)))
   repeat' first|(with_reducible first|refine zz ?_|refine zE [0,1,2,3,4,5,6,7,8,9,10,19,29,53] ?_)|simp -dsimp[hs]|refine zp c2 ?_|refine i9 ?_ ?_<;>intro h<;>try simp only[i7] at h
   refine i6 (ι:={ p:Nat×List Int // p.1≤l[i].items.length∧p.2=L.set k (Rq l r v (l[i].items.take p.1)) }) (fun p=>⟨78,[(1,.one (.ptr 0 0)),(3,s6 ns),(4,s6 (ns.map (Rr l r))),(5,iv (r:Int)),(6,.one (.vec 1 0 0 ns.length)),(7,iv (i:Int)),(8,.one (.ptr 4 0)),(9,iv (k:Int)),(10,iv (p.1.1:Int))],[.row [.im (.sl (l.map g9))],.vec 1 (l8 (p.1.2.map encI)) 0 false,.vec 0 [] 0 true,.vec 0 [] 0 true,.row ((g9 l[i]).map .im)]⟩) (fun p=>l[i].items.length-p.1.1) ⟨(0,L.set k (max v 1)),by omega,by simp only[List.take_zero,FG]⟩ (zv [1,3,4,5,6,7,8,9,10]) ?_
   rintro⟨⟨u,L'⟩,hu,hL'⟩
   simp only at hu hL'
   simp only[iv,s6,g9,rI,List.map_cons,List.map_nil]
   have hkL:k<L.length:=e7 hLk
   by_cases hlu:u<l[i].items.length
   ·have hy:l[i].items[u]?=some l[i].items[u]:=by simp[hlu]
    have hw2:=zk u
    obtain⟨m,hm⟩:=List.mem_iff_getElem?.1 (hit l[i].items[u] (List.getElem_mem hlu))
    have hml:=e7 hm
    have hmn:ns[m]=l[i].items[u].drawing:=(List.getElem?_eq_some_iff.1 hm).2
    have hidx2:=kR hnd hm
    have c3:=nV (G:=G) ns l[i].items[u].drawing (by omega)
    rw[hidx2] at c3
    have hLk':L'[k]?=some (Rq l r v (l[i].items.take u)):=by rw[hL',List.getElem?_set_self hkL]
    have hb1:=nj l r l[i].items[u].drawing
    have hb2:=AO l r l[i].items[u].drawing
    have hw3:IntKind.i64.wrap (1+Rr l r l[i].items[u].drawing)=1+Rr l r l[i].items[u].drawing:=o3 (by omega) (by omega)
    have hnext:L'.set k (max (Rq l r v (l[i].items.take u)) (1+Rr l r l[i].items[u].drawing))=L.set k (Rq l r v (l[i].items.take (u+1))):=by
     rw[List.take_succ_eq_append_getElem hlu,Dg,hL',List.set_set]
    have hs:=za hy (za hw2 (za hlu (za hkl (za hLk' (za hm (za hml (za hmn hw3)))))))
    repeat' first|with_reducible refine zz ?_|simp -dsimp[hs]|refine zq c3 ?_|refine zM 16 78 20 [0,1,2,3,4,5,6,7,8,9,10,19,29,53] ?_|with_reducible refine zE [0,1,2,3,4,5,6,7,8,9,10,19,29,53] ?_|refine i9 ?_ ?_<;>intro h<;>try simp only[i7] at h
    exact zn ⟨(u+1,L'.set k (max (Rq l r v (l[i].items.take u)) (1+Rr l r l[i].items[u].drawing))),by omega,hnext⟩ (zv [1,3,4,5,6,7,8,9,10])
   ·have hend:L'=ns.map (Rp l r (l.take (i+1))):=by
     rw[hL',List.take_of_length_le (by omega),hL,kD hnd hk]
     refine List.map_congr_left fun n _=>?_
     rw[List.take_succ_eq_append_getElem hlt,Dh]
     split
     ·rename_i e;rw[e,hv]
     ·rfl
    have hs:=za hlu hw1
    repeat' first|(with_reducible first|refine zz ?_|refine zE [0,1,2,3,4,5,6,7,8,9,10,19,29,53] ?_)|simp -dsimp[hs]|refine i9 ?_ ?_<;>intro h<;>try simp only[i7] at h
    exact zn ⟨(i+1,L'),by omega,hend⟩ (zw [1,3,4,5,6,7] 2)
  ·have hend:L=ns.map (Rr l (r+1)):=by
    rw[hL,List.take_of_length_le (by omega)]
    refine List.map_congr_left fun n hn=>Di r ?_
    rw[← hns] at hn
    exact pp hn
   have hLn:L.length=ns.length:=by rw[hL,List.length_map]
   have hs:=za hlt hw
   repeat' first|(with_reducible first|refine zz ?_|refine zE [0,1,2,3,4,5,6,7,8,9,10,19,29,53] ?_)|simp -dsimp[hs]|refine i9 ?_ ?_<;>intro h<;>try simp only[i7] at h
   exact zn ⟨r+1,by omega⟩ (zw [1,3,4,5] 1 (by simp[← hLn];rw[hend];simp))
 ·have hs:=hrl
  repeat' first|(with_reducible first|refine zz ?_|refine zr ?_|refine zE [0,1,2,3,4,5,6,7,8,9,10,19,29,53] ?_)|simp -dsimp[hs]|refine i9 ?_ ?_<;>intro h<;>try simp only[i7] at h
  have hr1:r=ns.length+1:=by omega
  rw[hD,hr1];simp
theorem gP (x:Issue) (r:List Issue):(o7 none (x :: r)).isSome=true↔(n4 x=true∧x.letter=1)∧(o7 (some x) r).isSome=true:=by
 simp only[o7]
 by_cases h1:n4 x=false
 ·simp[h1]
 ·by_cases h2:x.letter=1
  ·simp[h1,h2]
  ·simp[h1,h2]
theorem gO (y x:Issue) (r:List Issue):(o7 (some y) (x :: r)).isSome=true↔(n4 x=true∧(y.drawing=x.drawing∧y.letter+1=x.letter∧y.kind=x.kind∨y.drawing<x.drawing∧x.letter=1))∧(o7 (some x) r).isSome=true:=by
 simp only[o7]
 by_cases h1:n4 x=false
 ·simp[h1]
 ·have h1':n4 x=true:=by simpa using h1
  by_cases hd:y.drawing=x.drawing
  ·have hlt:¬ x.drawing<x.drawing:=by omega
   by_cases h2:y.letter+1=x.letter<;>by_cases h3:y.kind=x.kind<;>simp[h1',hd,h2,h3]
  ·by_cases hg:y.drawing > x.drawing
   ·have:¬ y.drawing<x.drawing:=by omega
    simp[h1',hd,hg,this]
   ·have:y.drawing<x.drawing:=by omega
    by_cases h2:x.letter=1<;>simp[h1',hd,hg,h2,this]
theorem Cs {l:List Int} {x:Int} (h:x∉l):idx l x=-1:=yU fun j _ he=>h (List.mem_of_getElem? he)
theorem sg {l:List Int} {x:Int} (h:x∈l):0≤idx l x:=by
 unfold idx
 cases hh:l.idxOf? x with
 | none =>
   rw[List.idxOf?,List.findIdx?_eq_none_iff] at hh
   have:=hh x h;simp at this
 | some i=>simp
theorem Ct (l:List Int) (x:Int):idx l x<0↔x∉l:=by
 constructor
 ·intro h hm;have:=sg hm;omega
 ·intro h;rw[Cs h];omega
theorem aI {l:List Issue} (h:(o7 none l).isSome=false):r5 l=false:=by simp[r5,h]
theorem yy (l:List Issue) (hs:T9 l):zP prog G 265 [G7 l] (bv (r5 l)):=by
 refine zf func265 ntmps265 ?_
 try simp only[G7]
 have hl80:=hs.1
 by_cases hrange:1≤l.length∧l.length≤60
 ·have d1:decide ((1:Int)≤(l.length:Int))=true:=by simp;omega
  have d2:decide ((l.length:Int)≤60)=true:=by simp;omega
  have c0:=cB (G:=G) (l.length:Int) 1 60
  rw[d1,d2] at c0
  have hs:=trivial
  repeat' first|(with_reducible first|refine zz ?_|refine zE [0,1,2,3,4,5,6,7,8,13,18,28,31,38,44,52,53,73,84,99] ?_)|simp -dsimp[hs]|refine zp c0 ?_|refine i9 ?_ ?_<;>intro h<;>try simp only[i7] at h
  all_goals try clear hs
  refine i6 (ι:={ i:Nat // i≤l.length∧(o7 none l).isSome=(o7 (I1 l i) (l.drop i)).isSome∧∀ x∈l.take i,n4 x=true }) (fun p=>⟨103,[(1,.one (.ptr 0 0)),(2,bv false),(3,iv (p.1:Int))],[.row [.im (.sl (l.map g9))]]⟩) (fun p=>l.length-p.1) ⟨0,by simp[I1]⟩ (zv [1,2,3]) ?_
  rintro⟨i,hi,hscan,hok⟩
  simp only[iv]
  by_cases hlt:i<l.length
  ·have hx:l[i]?=some l[i]:=by simp[hlt]
   have hw:=zk i
   have hsm:=hs.2 l[i] (List.getElem_mem hlt)
   have c1:=Cm (G:=G) l[i] ⟨hsm.1,hsm.2.1⟩ (by omega) (by omega)
   rw[List.drop_eq_getElem_cons hlt] at hscan
   have hnext:I1 l (i+1)=some l[i]:=by simp[I1]
   cases hq:n4 l[i]
   ·rw[hq] at c1
    have hf:r5 l=false:=aI (by
     rw[hscan]
     cases I1 l i with
     | none=>exact E0 (gP l[i] _) (by simp[hq])
     | some y=>exact E0 (gO y l[i] _) (by simp[hq]))
    have hs:=za hx hlt
    repeat' first|(with_reducible first|refine zz ?_|refine zr ?_|refine zE [0,1,2,3,4,5,6,7,8,13,18,28,31,38,44,52,53,73,84,99] ?_)|simp -dsimp[hs]|refine zp c1 ?_|refine i9 ?_ ?_<;>intro h<;>try simp only[i7] at h
    all_goals try clear hs
    simp[hf]
   ·rw[hq] at c1
    have hokn:∀ x∈l.take (i+1),n4 x=true:=by
     rw[List.take_succ_eq_append_getElem hlt]
     intro x hx
     rcases List.mem_append.1 hx with h|h
     ·exact hok x h
     ·simp at h;rw[h];exact hq
    have hdr:1≤l[i].drawing:=by
     simp only[n4,Bool.and_assoc] at hq
     rw[← Bool.and_assoc,Bool.and_eq_true] at hq
     have:=(du _).1 hq.1;omega
    by_cases hi0:i=0
    ·subst hi0
     have hst:=gP l[0] (l.drop 1)
     simp only[I1] at hscan
     rw[Nat.zero_add] at hscan
     rw[← hscan] at hst
     have hs:=za hx (za hlt hw)
     repeat' first|(with_reducible first|refine zz ?_|refine zr ?_|refine zE [0,1,2,3,4,5,6,7,8,13,18,28,31,38,44,52,53,73,84,99] ?_)|simp -dsimp[hs]|refine zp c1 ?_|refine i9 ?_ ?_<;>intro h<;>try simp only[i7] at h|with_reducible refine j0 ?_ ?_<;>intro h<;>have h0:=h<;>(try simp only[i7] at h)<;>have h2:=h<;>(try simp at h2)<;>replace hs:=za h0 (za h (za h2 hs))
     all_goals try clear hs
     all_goals first
      | (exfalso;omega)
      | (have hf:=aI (E0 hst (by omega));simp[hf];done)
      | exact zn ⟨1,by omega,by rw[hnext];exact I0 hst ⟨hq,by omega⟩,hokn⟩ (zw [1,2,3] 1 (by simp;exact o3 (by omega) (by omega)))
    ·obtain⟨m,rfl⟩:∃ m,i=m+1:=⟨i-1,by omega⟩
     have hy:l[m]?=some l[m]:=by simp
     have hw1:IntKind.i64.wrap (((m+1:Nat):Int)-1)=m:=o3 (by omega) (by omega) |>.trans (by omega)
     have hw2:IntKind.i64.wrap (m:Int)=m:=o3 (by omega) (by omega)
     have hoky:=hok l[m] (List.mem_take_iff_getElem.2 ⟨m,by omega,rfl⟩)
     have hlet:1≤l[m].letter∧l[m].letter≤8:=by simp[n4,zX] at hoky;omega
     have hwl:IntKind.i64.wrap (l[m].letter+1)=l[m].letter+1:=o3 (by omega) (by omega)
     have hst:=gO l[m] l[m+1] (l.drop (m+1+1))
     simp only[I1,hy] at hscan
     rw[← hscan] at hst
     have hpos:(0:Int)<(m:Int)+1:=by omega
     have hlt2:(m:Int)+1<(l.length:Int):=by omega
     have hge:(0:Int)≤(m:Int)+1:=by omega
     have hs:=za hge (za hx (za hlt (za hlt2 (za hw (za hy (za hw1 (za hw2 (za hwl hpos))))))))
     repeat' first|(with_reducible first|refine zz ?_|refine zr ?_|refine zE [0,1,2,3,4,5,6,7,8,13,18,28,31,38,44,52,53,73,84,99] ?_)|simp -dsimp[hs]|refine zp c1 ?_|refine i9 ?_ ?_<;>intro h<;>try simp only[i7] at h|with_reducible refine j0 ?_ ?_<;>intro h<;>have h0:=h<;>(try simp only[i7] at h)<;>have h2:=h<;>(try simp at h2)<;>replace hs:=za h0 (za h (za h2 hs))
     all_goals try clear hs
     all_goals first
      | (exfalso;omega)
      | (have hf:=aI (E0 hst (by omega));simp[hf];done)
      | exact zn ⟨m+1+1,by omega,by rw[hnext];exact I0 hst ⟨hq,by omega⟩,hokn⟩ (zw [1,2,3] 1 (by simp;try exact o3 (by omega) (by omega)))
  ·have hsome:(o7 none l).isSome=true:=by
    rw[hscan,List.drop_eq_nil_of_le (by omega)]
    cases I1 l i<;>rfl
   have c2:=gX (G:=G) l (by omega)
   have hE:r5 l=(l.all (fun x=>x.items.all fun y=>decide (y.drawing∈nums l))&&decide ((nums l).length≤20)):=by
    simp[r5,hsome,hrange]
   have hnl:(nums l).length≤l.length:=w8 l l.length
   generalize nums l=ns at *
   have hs:=hlt
   repeat' first|(with_reducible first|refine zz ?_|refine zE [0,1,2,3,4,5,6,7,8,13,18,28,31,38,44,52,53,73,84,99] ?_)|simp -dsimp[hs]|refine zp c2 ?_|refine i9 ?_ ?_<;>intro h<;>try simp only[i7] at h
   all_goals try clear hs
   refine i6 (ι:={ i:Nat // i≤l.length∧l.all (fun x=>x.items.all fun y=>decide (y.drawing∈ns))=(l.drop i).all (fun x=>x.items.all fun y=>decide (y.drawing∈ns)) }) (fun p=>⟨103,[(1,.one (.ptr 0 0)),(2,bv false),(6,s6 ns),(7,iv (p.1:Int))],[.row [.im (.sl (l.map g9))]]⟩) (fun p=>l.length-p.1) ⟨0,by simp⟩ (zw [1,2,6,7] 1) ?_
   clear hscan hok
   rintro⟨k,hk,hall⟩
   simp only[iv,s6]
   by_cases hlk:k<l.length
   ·have hx:l[k]?=some l[k]:=by simp[hlk]
    have hw:=zk k
    have hst:=bt hlk hall
    have hsm:=hs.2 l[k] (List.getElem_mem hlk)
    have hs:=za hx (za hlk hw)
    repeat' first|(with_reducible first|refine zz ?_|refine zE [0,1,2,3,4,5,6,7,8,13,18,28,31,38,44,52,53,73,84,99] ?_)|simp -dsimp[hs]|refine i9 ?_ ?_<;>intro h<;>try simp only[i7] at h
    all_goals try clear hs
    refine i6 (ι:={ u:Nat // u≤l[k].items.length∧l[k].items.all (fun y=>decide (y.drawing∈ns))=(l[k].items.drop u).all (fun y=>decide (y.drawing∈ns)) }) (fun p=>⟨103,[(1,.one (.ptr 0 0)),(2,bv false),(6,s6 ns),(7,iv (k:Int)),(8,iv (p.1:Int))],[.row [.im (.sl (l.map g9))]]⟩) (fun p=>l[k].items.length-p.1) ⟨0,by simp⟩ (zv [1,2,6,7,8]) ?_
    rintro⟨u,hu,hall2⟩
    simp only[iv,s6]
    by_cases hlu:u<l[k].items.length
    ·have hy:l[k].items[u]?=some l[k].items[u]:=by simp[hlu]
     have hw2:=zk u
     have c3:=nV (G:=G) ns l[k].items[u].drawing (by omega)
     have hm:=Ct ns l[k].items[u].drawing
     have hst2:=bt hlu hall2
     generalize idx ns l[k].items[u].drawing=z at c3 hm
     have hs:=za hx (za hlk (za hy (za hlu hw2)))
     repeat' first|(with_reducible first|refine zz ?_|refine zr ?_|refine zE [0,1,2,3,4,5,6,7,8,13,18,28,31,38,44,52,53,73,84,99] ?_)|simp -dsimp[hs]|refine zp c3 ?_|refine i9 ?_ ?_<;>intro h<;>try simp only[i7] at h
     all_goals try clear hs
     ·have hn:=hm.1 ‹z<0›
      have h1:=E0 hst2 (by simpa using hn)
      have h2:=E0 hst (by rw[h1];exact Bool.false_ne_true)
      rw[hE,h2];rfl
     ·have hn:l[k].items[u].drawing∈ns:=Classical.byContradiction fun hn=>absurd (hm.2 hn) ‹_›
      exact zn ⟨u+1,by omega,I0 hst2 (by simpa using hn)⟩ (zv [1,2,6,7,8])
    ·have h1:l[k].items.all (fun y=>decide (y.drawing∈ns))=true:=by rw[hall2,List.drop_eq_nil_of_le (by omega)];rfl
     have hs:=za hx (za hlk (za hlu hw))
     repeat' first|(with_reducible first|refine zz ?_|refine zE [0,1,2,3,4,5,6,7,8,13,18,28,31,38,44,52,53,73,84,99] ?_)|simp -dsimp[hs]|refine i9 ?_ ?_<;>intro h<;>try simp only[i7] at h
     all_goals try clear hs
     exact zn ⟨k+1,by omega,I0 hst h1⟩ (zv [1,2,6,7])
   ·have h1:l.all (fun x=>x.items.all fun y=>decide (y.drawing∈ns))=true:=by rw[hall,List.drop_eq_nil_of_le (by omega)];rfl
    rw[h1,Bool.true_and] at hE
    have hs:=hlk
    repeat' first|(with_reducible first|refine zz ?_|refine zr ?_|refine zE [0,1,2,3,4,5,6,7,8,13,18,28,31,38,44,52,53,73,84,99] ?_)|simp -dsimp[hs]|refine i9 ?_ ?_<;>intro h<;>try simp only[i7] at h
    all_goals try clear hs
    rw[hE];simp;omega
 ·have hf:r5 l=false:=by simp only[r5];rw[decide_eq_false hrange];rfl
  have c0:=cB (G:=G) (l.length:Int) 1 60
  have hd:(decide ((1:Int)≤(l.length:Int))&&decide ((l.length:Int)≤60))=false:=by simp;omega
  rw[hd] at c0
  have hs:=trivial
  repeat' first|(with_reducible first|refine zz ?_|refine zr ?_|refine zE [0,1,2,3,4,5,6,7,8,13,18,28,31,38,44,52,53,73,84,99] ?_)|simp -dsimp[hs]|refine zp c0 ?_|refine i9 ?_ ?_<;>intro h<;>try simp only[i7] at h
  all_goals try clear hs
  simp[hf]
theorem rN {l:List Int} {k:Nat} (hlt:k<l.length) (a:Int) (h:X0 l=(l.drop k).foldl max a):X0 l=(l.drop (k+1)).foldl max (max a l[k]):=by
 rw[h,List.drop_eq_getElem_cons hlt,List.foldl_cons]
theorem xS (l:List Issue) (hs:T9 l):zP prog G 217 [G7 l] (iv (j7 l)):=by
 refine zf func217 ntmps217 ?_
 try simp only[G7]
 have c1:=yy (G:=G) l hs
 cases hL:r5 l
 ·rw[hL] at c1
  have hs:=trivial
  repeat' first|(with_reducible first|refine zz ?_|refine zr ?_|refine zE [0,1,2,3,4,5,8,14,23,28] ?_)|simp -dsimp[hs]|refine zp c1 ?_|refine i9 ?_ ?_<;>intro h<;>try simp only[i7] at h
  all_goals try clear hs
  simp[j7,hL]
 ·rw[hL] at c1
  have c2:=uT (G:=G) l hL
  have hlen:(C4 l).length≤80:=by
   have:=w8 l l.length
   have:=hs.1
   simp only[C4,List.length_map,nums];omega
  have hE:j7 l=if X0 (C4 l) > (C4 l).length then 21 else if X0 (C4 l) > 6 then 20 else 0:=by simp[j7,hL]
  generalize C4 l=D at c2 hE hlen
  have hs:=trivial
  repeat' first|(with_reducible first|refine zz ?_|refine zE [0,1,2,3,4,5,8,14,23,28] ?_)|simp -dsimp[hs]|refine zp c1 ?_|refine zp c2 ?_|refine i9 ?_ ?_<;>intro h<;>try simp only[i7] at h
  all_goals try clear hs
  refine i6 (ι:={ p:Nat×Int // p.1≤D.length∧X0 D=(D.drop p.1).foldl max p.2 }) (fun p=>⟨31,[(1,.one (.ptr 0 0)),(2,iv 0),(3,s6 D),(4,iv p.1.2),(5,iv (p.1.1:Int))],[.row [.im (.sl (l.map g9))]]⟩) (fun p=>D.length-p.1.1) ⟨(0,0),by simp[X0]⟩ (zv [1,2,3,4,5]) ?_
  rintro⟨⟨k,a⟩,hk,ha⟩
  simp only at hk ha
  simp only[iv,s6]
  by_cases hlt:k<D.length
  ·have hx:D[k]?=some D[k]:=by simp[hlt]
   have hw:=zk k
   have hs:=za hx (za hw hlt)
   repeat' first|(with_reducible first|refine zz ?_|refine zE [0,1,2,3,4,5,8,14,23,28] ?_)|simp -dsimp[hs]|refine i9 ?_ ?_<;>intro h<;>try simp only[i7] at h
   all_goals try clear hs
   exact zn ⟨(k+1,max a D[k]),by omega,rN hlt a ha⟩ (zv [1,2,3,4,5])
  ·have ha':X0 D=a:=by rw[ha,List.drop_eq_nil_of_le (by omega)];rfl
   rw[ha'] at hE
   have hs:=hlt
   repeat' first|(with_reducible first|refine zz ?_|refine zr ?_|refine zE [0,1,2,3,4,5,8,14,23,28] ?_)|simp -dsimp[hs]|refine i9 ?_ ?_<;>intro h<;>try simp only[i7] at h
   all_goals try clear hs
   all_goals rw[hE]
   ·rw[if_pos (by omega)]
   ·rw[if_neg (by omega),if_pos (by omega)]
   ·rw[if_neg (by omega),if_neg (by omega)]
def Z0 (l:List Issue) (d:Int):Int:=l.foldl (fun n x=>if x.drawing=d then max n x.letter else n) 0
theorem yF (l:List Issue) (d:Int) (hl:l.length<1000000):zP prog G 166 [G7 l,iv d] (iv (Z0 l d)):=by
 refine zf func166 ntmps166 ?_
 try simp only[G7,iv]
 have hs:=trivial
 repeat' first|(with_reducible first|refine zz ?_|refine zE [0,1,2,4,5,6,11,21] ?_)|simp -dsimp[hs]
 refine i6 (ι:={ p:Nat×Int // p.1≤l.length∧Z0 l d=(l.drop p.1).foldl (fun n x=>if x.drawing=d then max n x.letter else n) p.2 }) (fun p=>⟨31,[(1,iv d),(2,.one (.ptr 0 0)),(5,iv p.1.2),(6,iv (p.1.1:Int))],[.row [.im (.sl (l.map g9))]]⟩) (fun p=>l.length-p.1.1) ⟨(0,0),by simp[Z0]⟩ (zv [1,2,5,6]) ?_
 rintro⟨⟨k,a⟩,hk,ha⟩
 simp only at hk ha
 simp only[iv]
 by_cases hlt:k<l.length
 ·have hx:l[k]?=some l[k]:=by simp[hlt]
  have hw:=zk k
  rw[List.drop_eq_getElem_cons hlt,List.foldl_cons] at ha
  have hs:=za hx (za hw hlt)
  repeat' first|(with_reducible first|refine zz ?_|refine zE [0,1,2,4,5,6,11,21] ?_)|simp -dsimp[hs]|refine i9 ?_ ?_<;>intro h<;>try simp only[i7] at h
  ·exact zn ⟨(k+1,max a l[k].letter),by omega,by rw[ha,if_pos ‹_›]⟩ (zv [1,2,5,6])
  ·exact zn ⟨(k+1,a),by omega,by rw[ha,if_neg ‹_›]⟩ (zv [1,2,5,6])
 ·have ha':Z0 l d=a:=by rw[ha,List.drop_eq_nil_of_le (by omega)];rfl
  have hs:=hlt
  repeat' first|(with_reducible first|refine zz ?_|refine zr ?_|refine zE [0,1,2,4,5,6,11,21] ?_)|simp -dsimp[hs]|refine i9 ?_ ?_<;>intro h<;>try simp only[i7] at h
  rw[ha']
def cU (l:List Issue) (p:Int×Int):Bool:=decide (1≤p.2)&&decide (p.2≤Z0 l p.1)
def u6 (l:List Issue) (lets:List Int):Bool:=decide (lets.length=(nums l).length)&&((nums l).zip lets).all (cU l)
def u4 (l:List Issue) (lets:List Int) (d:Int):Issue:=(n8 l d ((lets[(idx (nums l) d).toNat]?).getD 0)).getD J7
end Go.Proofs
namespace Go.Proofs
open Go Go.Ab
theorem mN {l:List Issue} {d lt:Int} {y:Issue} (h:n8 l d lt=some y):y∈l∧y.drawing=d∧y.letter=lt:=by
 have h1:=List.find?_some h
 have h2:=List.mem_of_find?_eq_some h
 simp only[Bool.and_eq_true,beq_iff_eq] at h1
 exact⟨h2,h1.1,h1.2⟩
theorem zF (l:List Issue) (d lt:Int):(n8 l d lt).isSome=true↔∃ x∈l,x.drawing=d∧x.letter=lt:=by
 simp[n8,List.find?_isSome]
theorem fC:∀ (r:List Issue) (p:Option Issue) (ds:List Int),o7 p r=some ds→∀ x∈r,x.letter=1∨∃ y,(p=some y∨y∈r)∧y.drawing=x.drawing∧y.letter+1=x.letter
 | [],_,_,_,x,hx=>by cases hx
 | z :: r,p,ds,h,x,hx=>by
   have hs:(o7 p (z :: r)).isSome=true:=by rw[h];rfl
   obtain⟨ds',h1,_,_⟩:=dF h
   rcases List.mem_cons.1 hx with rfl|hx
   ·cases p with
    | none=>exact .inl ((gP x r).1 hs).1.2
    | some y =>
      rcases ((gO y x r).1 hs).1.2 with⟨a,b,_⟩|⟨_,b⟩
      ·exact .inr ⟨y,.inl rfl,a,b⟩
      ·exact .inl b
   ·rcases fC r (some z) ds' h1 x hx with h2|⟨y,h2,h3,h4⟩
    ·exact .inl h2
    ·refine .inr ⟨y,.inr ?_,h3,h4⟩
     rcases h2 with h2|h2
     ·cases h2;simp
     ·simp[h2]
theorem jh {l:List Issue} (hs:o7 none l=some (nums l)):∀ (k:Nat) (x:Issue),x∈l→x.letter=k+1→∀ j:Int,1≤j→j≤k+1→∃ y∈l,y.drawing=x.drawing∧y.letter=j
 | 0,x,hx,hk,j,h1,h2=>⟨x,hx,rfl,by omega⟩
 | k+1,x,hx,hk,j,h1,h2=>by
   by_cases hj:j=k+1+1
   ·exact⟨x,hx,rfl,by omega⟩
   ·rcases fC l none _ hs x hx with h|⟨y,hy,h3,h4⟩
    ·omega
    ·rcases hy with hy|hy
     ·cases hy
     ·obtain⟨z,hz,h5,h6⟩:=jh hs k y hy (by omega) j h1 (by omega)
      exact⟨z,hz,by omega,h6⟩
theorem cV (d:Int):∀ (l:List Issue) (a:Int),a≤l.foldl (fun n x=>if x.drawing=d then max n x.letter else n) a∧(∀ x∈l,x.drawing=d→x.letter≤l.foldl (fun n x=>if x.drawing=d then max n x.letter else n) a) ∧
 (l.foldl (fun n x=>if x.drawing=d then max n x.letter else n) a=a∨∃ x∈l,x.drawing=d∧x.letter=l.foldl (fun n x=>if x.drawing=d then max n x.letter else n) a)
 | [],a=>by simp
 | y :: l,a=>by
   obtain⟨h1,h2,h3⟩:=cV d l (if y.drawing=d then max a y.letter else a)
   simp only[List.foldl_cons]
   have h0:a≤(if y.drawing=d then max a y.letter else a):=by split<;>omega
   refine⟨by omega,fun x hx hd=>?_,?_⟩
   ·rcases List.mem_cons.1 hx with rfl|hx
    ·rw[if_pos hd] at h1 ⊢;omega
    ·exact h2 x hx hd
   ·rcases h3 with h3|⟨x,hx,hd,he⟩
    ·by_cases hy:y.drawing=d
     ·rw[if_pos hy] at h3 ⊢
      by_cases hm:a≤y.letter
      ·exact .inr ⟨y,by simp,hy,by omega⟩
      ·exact .inl (by omega)
     ·rw[if_neg hy] at h3 ⊢
      exact .inl h3
    ·exact .inr ⟨x,by simp[hx],hd,he⟩
theorem dc {l:List Issue} (h:j7 l=0) (d lt:Int):(n8 l d lt).isSome=true↔1≤lt∧lt≤Z0 l d:=by
 have hs:=H5 (G0 h)
 obtain⟨_,_,_,hok,_⟩:=K0 hs
 obtain⟨h1,h2,h3⟩:=cV d l 0
 have hlet:∀ x∈l,1≤x.letter:=fun x hx=>by
  have:=hok x hx
  simp only[n4,Bool.and_assoc] at this
  rw[← Bool.and_assoc,Bool.and_eq_true] at this
  have:=(du x).1 this.1;omega
 rw[zF]
 constructor
 ·rintro⟨x,hx,rfl,rfl⟩
  exact⟨hlet x hx,h2 x hx rfl⟩
 ·rintro⟨a,b⟩
  rcases h3 with h3|⟨x,hx,hd,he⟩
  ·simp only[Z0] at b;omega
  ·have hx1:=hlet x hx
   obtain⟨y,hy,h5,h6⟩:=jh hs (x.letter-1).toNat x hx (by omega) lt a (by simp only[Z0] at b;omega)
   exact⟨y,hy,by omega,h6⟩
theorem dC {l:List Issue} {lets:List Int} {d:Int} (h:j7 l=0) (hl:u6 l lets=true) (hd:d∈nums l):u4 l lets d∈l∧(u4 l lets d).drawing=d∧∃ (k:Nat) (lt:Int),(nums l)[k]?=some d∧lets[k]?=some lt∧n8 l d lt=some (u4 l lets d):=by
 simp only[u6,Bool.and_eq_true,decide_eq_true_eq] at hl
 obtain⟨h1,h2⟩:=hl
 obtain⟨hlt,_⟩:=E1 h
 obtain⟨k,hk⟩:=List.mem_iff_getElem?.1 hd
 have hnd:(nums l).Nodup:=hlt.imp fun h=>Int.ne_of_lt h
 have hkl:=e7 hk
 have hy:lets[k]?=some lets[k]:=by simp[h1,hkl]
 have hz:((nums l).zip lets)[k]?=some (d,lets[k]):=by
  rw[List.getElem?_zip_eq_some];exact⟨hk,hy⟩
 have hok:=List.all_eq_true.1 h2 _ (List.mem_of_getElem? hz)
 simp only[cU,Bool.and_eq_true,decide_eq_true_eq] at hok
 have hf:=(dc h d lets[k]).2 hok
 obtain⟨y,hy'⟩:=Option.isSome_iff_exists.1 hf
 have ht:u4 l lets d=y:=by
  simp only[u4,kR hnd hk,Int.toNat_natCast,hy,Option.getD_some,hy']
 obtain⟨a,b,_⟩:=mN hy'
 rw[ht]
 exact⟨a,b,k,lets[k],hk,hy,hy'⟩
theorem jW {l:List Issue} {lets:List Int} {d:Int} (h:j7 l=0) (hl:u6 l lets=true) (hd:d∈nums l):∀ y∈(u4 l lets d).items,y.drawing∈cA l d:=by
 obtain⟨h1,h2,_⟩:=dC h hl hd
 intro y hy
 simp only[cA,List.mem_flatMap,List.mem_map,cK,List.mem_filter,decide_eq_true_eq]
 exact⟨_,⟨h1,h2⟩,y,hy,rfl⟩
end Go.Proofs
namespace Go.Ab
open Go
def F7 (m:List (Int×Bool)):List (List Value×List DC):=m.map fun p=>(kI p.1,[.im (rB p.2)])
def cv (n:Int):List (Int×Bool)→Option Bool
 | []=>none
 | p :: r=>if p.1=n then some p.2 else cv n r
def sV (n:Int) (v:Bool):List (Int×Bool)→List (Int×Bool)
 | []=>[(n,v)]
 | p :: r=>if p.1=n then (n,v) :: r else p :: sV n v r
theorem li (n k:Int) (v:Bool):∀ m,cv k (sV n v m)=if n=k then some v else cv k m
 | []=>by simp[sV,cv]
 | p :: r=>by
   have ih:=li n k v r
   simp only[sV]
   split
   ·rename_i h
    simp only[cv]
    split
    ·rfl
    ·rename_i h2
     rw[if_neg (by omega)]
   ·rename_i h
    simp only[cv,ih]
    split
    ·rename_i h2
     rw[if_neg (by omega)]
    ·rfl
@[simp] theorem Ip (m:List (Int×Bool)) (n:Int):M7 [.int .i64 n] (F7 m) [.im (.raw (.bool false))]=[.im (.raw (.bool ((cv n m).getD false)))]:=by
 induction m with
 | nil=>rfl
 | cons p r ih =>
   have e:F7 (p :: r)=(kI p.1,[.im (rB p.2)]) :: F7 r:=rfl
   rw[e]
   simp only[M7,Q3,cv,af,decide_eq_true_eq] at ih ⊢
   split
   ·rfl
   ·exact ih
@[simp] theorem Il (m:List (Int×Bool)) (n:Int):jo [.int .i64 n] (F7 m)=(cv n m).isSome:=by
 induction m with
 | nil=>rfl
 | cons p r ih =>
   have e:F7 (p :: r)=(kI p.1,[.im (rB p.2)]) :: F7 r:=rfl
   rw[e]
   simp only[jo,Q3,cv,af,decide_eq_true_eq] at ih ⊢
   split
   ·rfl
   ·exact ih
@[simp] theorem Ik (m:List (Int×Bool)) (n:Int) (v:Bool):P4 [.int .i64 n] [.im (.raw (.bool v))] (F7 m)=F7 (sV n v m):=by
 induction m with
 | nil=>rfl
 | cons p r ih =>
   have e:F7 (p :: r)=(kI p.1,[.im (rB p.2)]) :: F7 r:=rfl
   rw[e]
   simp only[P4,sV,af,decide_eq_true_eq] at ih ⊢
   split
   ·rfl
   ·rw[ih];rfl
@[simp] theorem FV (m:List (Int×Bool)):(F7 m).length=m.length:=by simp[F7]
@[simp] theorem GY (n:Nat) (objs:List DObj) (m:List (Int×Bool)):((F7 m).map fun x=>(x.1,x.2.map (fz n objs)))=F7 m:=by
 simp[F7,fz,DC.lt]
@[simp] theorem GT (e:Nat→Nat) (m:List (Int×Bool)):((F7 m).map fun x=>(x.1,rnL e x.2))=F7 m:=by
 simp[F7,rnL,gR]
section
variable {P:Program} {G:JO}
theorem CallE.embed_ex {ι:Type} {f:FuncId} {args args0:List DV} {objs objs0:List DObj} {p:ι→Prop} {o1:ι→List DObj} {d0:ι→DV} {Q:DV→List DObj→Prop} {t:Tok Q} (es:List Nat) (h:DCall P G f args0 objs0 (fun d o=>∃ i,p i∧d=d0 i∧o=o1 i))
 (ha:args0.map (jl (s9 es objs.length))=args) (hl:es.length=objs0.length) (hnd:es.Nodup) (hes:∀ x∈es,x<objs.length)
 (hobj:∀ i d,objs0[i]?=some d→objs[s9 es objs.length i]?=some (cm (s9 es objs.length) d)) (hq:∀ i,p i→Q (jl (s9 es objs.length) (d0 i)) (n5 es objs (o1 i))):CallE P G f args objs Q t:=by
 subst ha
 refine(DCall.embed es h hl hnd hes hobj).mono fun d o ⟨d',o',⟨i,hp,h1,h2⟩,_,h3,h4⟩=>?_
 subst h1;subst h2;subst h3;subst h4
 exact hq i hp
end
def l4 (l:List Int):List Int:=l.mergeSort fun x y=>decide (x≤y)
theorem L7 (l:List Int):(l4 l).length=l.length:=by simp[l4]
@[simp] theorem Ie (e:Nat→Nat) (l:List (List IC)):(l8 l).map (rnL e)=l8 l:=by
 simp only[l8,List.map_map]
 exact List.map_congr_left fun x _=>by simp[eL]
@[simp] theorem HZ (n o:Nat):s9 [] n o=n+o:=by simp[s9]
attribute [simp] jl gR rnL rnVL cm fJ
def wr (L:List Int) (off len:Nat):List Int:=L.take off++(List.replicate len 0++L.drop (off+len))
theorem ql {L:List Int} {off len:Nat} (h:off+len≤L.length):(wr L off len).length=L.length:=by simp[wr];omega
@[simp] theorem FW (L:List Int) (off len:Nat):N5 (l8 (L.map encI)) off len (.im (.raw (.int .i64 0)))=l8 ((wr L off len).map encI):=by
 simp only[N5,wr,l8,List.map_append,List.map_take,List.map_drop,List.map_replicate]
 rfl
theorem QCall.thaw {P:Program} {G:JO} {f:FuncId} {args args0:List DV} {d0:DV} {objs:List DObj} {K:DV→Prop} {t:Tok K} (h:∀ objs,DCall P G f args0 objs (fun d o=>d=d0∧o=objs)) (ha:args0=args.map (eY 0 objs)) (hd:FlV d0) (hk:K d0):QCall P G f args objs K t:=
 ⟨d0,DCall.thaw h ha hd,hk⟩
end Go.Ab
namespace Go.Proofs
open Go Go.Ab
variable {G:JO}
def N3 (tk:Int→Issue):Nat→Int→Int→List (Int×Int)
 | 0,_,_=>[]
 | k+1,d,m=>if 1<(tk d).kind then [(d,m)] else (tk d).items.flatMap fun y=>N3 tk k y.drawing (IntKind.i64.wrap (m*y.count))
def FE (ns:List Int) (C:List Int) (p:Int×Int):List Int:=C.set (idx ns p.1).toNat (IntKind.i64.wrap ((C[(idx ns p.1).toNat]?).getD 0+p.2))
def FD (ns:List Int) (C:List Int) (lv:List (Int×Int)):List Int:=lv.foldl (FE ns) C
def Hy (l:List Issue) (lets:List Int) (d:Int):List Int:=FD (nums l) (List.replicate (nums l).length 0) (N3 (u4 l lets) 6 d 1)
def kr (l:List Issue) (lets:List Int) (d:Int):List Itm:=(((nums l).zip (Hy l lets d)).filter fun p=>decide (0<p.2)).map fun p=>⟨p.1,p.2⟩
end Go.Proofs
namespace Go.Ab
open Go
def IL:Issue:=⟨0,0,0,[],[]⟩
def I8 (m:List (Int×Issue)) (n:Int):Issue:=match m with
 | []=>IL
 | p :: r=>if p.1=n then p.2 else I8 r n
def ek (n:Int) (v:Issue):List (Int×Issue)→List (Int×Issue)
 | []=>[(n,v)]
 | p :: r=>if p.1=n then (n,v) :: r else p :: ek n v r
def I5 (m:List (Int×Issue)):List (List Value×List DC):=m.map fun p=>(kI p.1,(g9 p.2).map .im)
def dj (m:List (Int×Issue)):List (List Value×List IC):=m.map fun p=>(kI p.1,g9 p.2)
theorem fb (p:Int×Issue) (r:List (Int×Issue)):I5 (p :: r)=(kI p.1,(g9 p.2).map .im) :: I5 r:=rfl
@[simp] theorem HQ (m:List (Int×Issue)) (n:Int):M7 [.int .i64 n] (I5 m) [.im (.raw (.int .i64 0)),.im (.raw (.int .i64 0)),.im (.raw (.int .u8 0)),.im (.sl []),.im (.sl [])]=(g9 (I8 m n)).map .im:=by
 induction m with
 | nil=>rfl
 | cons p r ih =>
   rw[fb]
   simp only[M7,Q3,I8,af,decide_eq_true_eq] at ih ⊢
   split
   ·rfl
   ·exact ih
theorem yp (m:List (Int×Issue)) (n:Int) (v:Issue):P4 [.int .i64 n] ((g9 v).map .im) (I5 m)=I5 (ek n v m):=by
 induction m with
 | nil=>rfl
 | cons p r ih =>
   rw[fb]
   simp only[P4,ek,af,decide_eq_true_eq] at ih ⊢
   split
   ·rfl
   ·rw[ih];rfl
@[simp] theorem HP (m:List (Int×Issue)) (n a b k:Int) (i:List Itm) (d:List Dim):P4 [.int .i64 n] [.im (.raw (.int .i64 a)),.im (.raw (.int .i64 b)),.im (.raw (.int .u8 k)),.im (.sl (i.map A4)),.im (.sl (d.map B0))] (I5 m)=I5 (ek n ⟨a,b,k,i,d⟩ m):=yp m n ⟨a,b,k,i,d⟩
@[simp] theorem FU (m:List (Int×Issue)):(I5 m).length=m.length:=by simp[I5]
@[simp] theorem Cr (m:List (Int×Issue)):eW (dj m)=I5 m:=by simp[eW,dj,I5]
@[simp] theorem HR (k n:Nat) (objs:List DObj) (m:List (Int×Issue)):D4 (fun x:List Value×List DC=>(D4 (frz (k+1) n objs) x.2).map fun l=>(x.1,l)) (I5 m)=some (dj m):=by
 induction m with
 | nil=>rfl
 | cons p r ih =>
   rw[fb,D4,ih,jE];rfl
@[simp] theorem FP (n:Nat) (objs:List DObj) (m:List (Int×Issue)):((I5 m).map fun x=>(x.1,x.2.map (fz n objs)))=I5 m:=by
 simp[I5,fz,DC.lt]
theorem gY {n:Int} {v:Issue}:∀ {m:List (Int×Issue)},n∉m.map (·.1)→ek n v m=m++[(n,v)]
 | [],_=>rfl
 | p :: r,h=>by
   rw[List.map_cons,List.mem_cons,not_or] at h
   rw[ek,if_neg (Ne.symm h.1),gY h.2];rfl
theorem T2 (f:Int→Issue):∀ (ns:List Int) (n:Int),I8 (ns.map fun d=>(d,f d)) n=if n∈ns then f n else IL
 | [],n=>by simp[I8]
 | d :: ns,n=>by
   rw[List.map_cons,I8,T2 f ns n]
   by_cases h:d=n
   ·subst h;simp
   ·rw[if_neg h];simp[Ne.symm h]
@[simp] theorem Jp (e:Nat→Nat) (m:List (Int×Int)):((L9 m).map fun x=>(x.1,rnL e x.2))=L9 m:=by
 simp[L9,rnL,gR]
@[simp] theorem IN (e:Nat→Nat) (m:List (Int×Issue)):((I5 m).map fun x=>(x.1,rnL e x.2))=I5 m:=by
 simp only[I5,List.map_map]
 exact List.map_congr_left fun x _=>by simp only[Function.comp,eL]
@[simp] theorem Jo (e:Nat→Nat) (m:List Int):((I3 m).map fun x=>(x.1,rnL e x.2))=I3 m:=by
 simp[I3,rnL,gR]
end Go.Ab
namespace Go.Ab
open Go
@[simp] theorem Hp (m:List (Int×Issue)):(dj m).map (fun x=>(x.1,x.2.map DC.im))=I5 m:=Cr m
@[simp] theorem HV (m:List (Int×Int)):(Z5 m).map (fun x=>(x.1,x.2.map DC.im))=L9 m:=ET m
@[simp] theorem HU (m:List Int):(pX m).map (fun x=>(x.1,x.2.map DC.im))=I3 m:=ES m
end Go.Ab
namespace Go.Proofs
open Go Go.Ab Tryz
variable {G:JO}
def aD (l:List Issue) (lets:List Int):List (Int×Issue):=(nums l).map fun d=>(d,u4 l lets d)
theorem Bj {l:List Issue} {lets:List Int} {k:Nat} (h:j7 l=0) (hk:k<(nums l).length) (hk2:k<lets.length) (hf:(n8 l (nums l)[k] lets[k]).isSome=false):u6 l lets=false:=by
 have hn:¬ cU l ((nums l)[k],lets[k])=true:=fun hok=>by
  simp only[cU,Bool.and_eq_true,decide_eq_true_eq] at hok
  rw[(dc h _ _).2 hok] at hf;cases hf
 simp only[u6,Bool.and_eq_false_iff]
 refine .inr ?_
 rw[← Bool.not_eq_true,List.all_eq_true]
 intro hall
 refine hn (hall _ (List.mem_iff_getElem?.2 ⟨k,?_⟩))
 rw[List.getElem?_zip_eq_some];exact⟨by simp[hk],by simp[hk2]⟩
theorem xm {l:List Issue} {lets:List Int} (h:j7 l=0) (he:lets.length=(nums l).length) (hall:∀ (k:Nat) (h1:k<(nums l).length) (h2:k<lets.length),(n8 l (nums l)[k] lets[k]).isSome=true):u6 l lets=true:=by
 simp only[u6,Bool.and_eq_true,decide_eq_true_eq,List.all_eq_true]
 refine⟨he,fun p hp=>?_⟩
 obtain⟨k,hk⟩:=List.mem_iff_getElem?.1 hp
 rw[List.getElem?_zip_eq_some] at hk
 obtain⟨h1,e1⟩:=List.getElem?_eq_some_iff.1 hk.1
 obtain⟨h2,e2⟩:=List.getElem?_eq_some_iff.1 hk.2
 have:=(dc h _ _).1 (hall k h1 h2)
 rw[e1,e2] at this
 simp only[cU,Bool.and_eq_true,decide_eq_true_eq];exact this
theorem tL {l:List Issue} {lets:List Int} {k:Nat} (hnd:(nums l).Nodup) (hk:k<(nums l).length) (hk2:k<lets.length):u4 l lets (nums l)[k]=(n8 l (nums l)[k] lets[k]).getD J7:=by
 have h1:(nums l)[k]?=some (nums l)[k]:=by simp[hk]
 have h2:lets[k]?=some lets[k]:=by simp[hk2]
 simp only[u4,kR hnd h1,Int.toNat_natCast,h2,Option.getD_some]
def B5 (l:List Issue) (lets:List Int) (d:Int):Int:=if j7 l≠0 then j7 l else if u6 l lets=false then 22 else if d∈nums l then 0 else 6
def aF (l:List Issue) (lets:List Int) (d:Int):List DV:=if B5 l lets d=0 then [.one (.im (v6 l (nums l))),.one (.im (.mp [.int .i64] (dj (aD l lets)))),iv 0] else [.one (.im (.raw (.pointer none))),.one (.im (.raw (.map none))),iv (B5 l lets d)]
theorem uH (l:List Issue) (lets:List Int) (d:Int):∀ x∈aF l lets d,ImV x:=by unfold aF;split<;>simp[v6]
theorem xH (l:List Issue) (lets:List Int) (d:Int) (hG:o5 G) (hs:T9 l) (hll:lets.length<1000000) (objs:List DObj):DCall prog G 311 [G7 l,s6 lets,iv d] objs (fun rr objs'=>rr=.tup (aF l lets d)∧objs'=objs):=by
 refine DCall.frame ?_ (by simp) (by simpa using uH l lets d) objs
 refine h9 func311 rfl ntmps311 (by simp) rfl ?_
 simp only[G7,s6,iv]
 have c1:=fM l hG hs
 by_cases h0:j7 l=0
 ·simp only[bp,h0,if_true] at c1
  have hnd:(nums l).Nodup:=(E1 h0).1.imp fun h=>Int.ne_of_lt h
  have hnl:(nums l).length≤l.length:=w8 l l.length
  have hl80:=hs.1
  have hsort:=bW h0
  by_cases he:lets.length=(nums l).length
  ·have he':(lets.length:Int)=((nums l).length:Int):=by omega
   simp only[v6] at c1
   have hs:=he'
   repeat' first|(with_reducible first|refine zz ?_|refine zE [0,1,2,3,6,7,8,9,10,11,12,13,14,21,30,33,34,35,55,64] ?_)|simp -dsimp[hs]|refine zp c1 ?_|refine i9 ?_ ?_<;>intro h<;>try simp only[i7] at h
   all_goals try clear hs
   refine i6 (ι:={ k:Nat // k≤lets.length∧∀ (i:Nat) (h1:i<(nums l).length) (h2:i<lets.length),i<k→(n8 l (nums l)[i] lets[i]).isSome=true }) (fun p=>⟨67,[(1,s6 lets),(2,iv d),(6,.one (.im (.raw (.pointer none)))),(7,.one (.im (.raw (.map none)))),(8,iv 0),(9,.one (.im (v6 l (nums l)))),(11,.one (.map 1)),(33,iv (lets.length:Int)),(34,iv (p.1:Int))],[.row [.im (.sl (l.map g9))],.map [.int .i64] (I5 (((nums l).take p.1).map fun d=>(d,u4 l lets d)))]⟩) (fun p=>lets.length-p.1) ⟨0,by simp⟩ (zv [1,2,6,7,8,9,11,33,34] (by simp[v6,I5];omega)) ?_
   rintro⟨k,hk,hall⟩
   simp only[iv,s6]
   by_cases hlt:k<lets.length
   ·have hkn:k<(nums l).length:=by omega
    have hx:(nums l)[k]?=some (nums l)[k]:=by simp[hkn]
    have hy:lets[k]?=some lets[k]:=by simp[hlt]
    have hw:=zk k
    have c2:=uo (G:=G) l (nums l) (nums l)[k] lets[k] hsort (by omega)
    have hta:=tL hnd hkn hlt
    cases hf:n8 l (nums l)[k] lets[k] with
    | none =>
      have hE:B5 l lets d=22:=by simp[B5,h0,Bj h0 hkn hlt (by rw[hf];rfl)]
      simp only[hf,C3,v6,Option.isSome_none,Option.getD_none] at c2
      simp only[v6]
      have hs:=za hx (za hy (za hlt (za hkn hw)))
      repeat' first|(with_reducible first|refine zz ?_|refine zr ?_)|simp -dsimp[hs]|refine zq c2 ?_|refine C1 (id:=10) (nt:=67) 18 [16] [0,1,2,3,6,7,8,9,10,11,12,13,14,21,30,33,34,35,37,38,39,40,41,42,43,44,45,46,47,48,49,50,51,52,55,64] [0,1,2,3,6,7,8,9,10,11,12,13,14,21,30,33,34,35,55,64] mixed rfl (by kernel_rfl) ?_|with_reducible refine zE [0,1,2,3,6,7,8,9,10,11,12,13,14,21,30,33,34,35,55,64] ?_|refine i9 ?_ ?_<;>intro h<;>try simp only[i7] at h
      all_goals try clear hs
      all_goals simp[aF,hE]
    | some y =>
      rw[hf,Option.getD_some] at hta
      obtain⟨hym,hyd,_⟩:=mN hf
      simp only[hf,C3,v6,Option.isSome_some,Option.getD_some] at c2
      simp only[v6]
      have hmp:ek (nums l)[k] y (((nums l).take k).map fun d=>(d,u4 l lets d))=(((nums l).take (k+1)).map fun d=>(d,u4 l lets d)):=by
       rw[gY,List.take_succ_eq_append_getElem hkn,List.map_append,List.map_singleton,hta]
       rw[List.map_map]
       intro hm
       obtain⟨z,hz,e⟩:=List.mem_map.1 hm
       simp only[Function.comp] at e
       subst e
       obtain⟨i,hi,e⟩:=List.mem_take_iff_getElem.1 hz
       have:=(List.getElem_inj hnd).1 e;omega
      rw[← hyd] at hmp
      have hmp':ek y.drawing ⟨y.drawing,y.letter,y.kind,y.items,y.dims⟩ (((nums l).take k).map fun d=>(d,u4 l lets d))=(((nums l).take (k+1)).map fun d=>(d,u4 l lets d)):=hmp
      simp only[List.map_take] at hmp'
      have hfin:∀ (i:Nat) (h1:i<(nums l).length) (h2:i<lets.length),i<k+1→(n8 l (nums l)[i] lets[i]).isSome=true:=fun i h1 h2 hi=>by
       by_cases e:i=k
       ·subst e;rw[hf];rfl
       ·exact hall i h1 h2 (by omega)
      have hs:=za hx (za hy (za hlt (za hkn hw)))
      repeat' first|with_reducible refine zz ?_|simp -dsimp[hs]|refine zq c2 ?_|refine C1 (id:=10) (nt:=67) 18 [16] [0,1,2,3,6,7,8,9,10,11,12,13,14,21,30,33,34,35,37,38,39,40,41,42,43,44,45,46,47,48,49,50,51,52,55,64] [0,1,2,3,6,7,8,9,10,11,12,13,14,21,30,33,34,35,55,64] mixed rfl (by kernel_rfl) ?_|with_reducible refine zE [0,1,2,3,6,7,8,9,10,11,12,13,14,21,30,33,34,35,55,64] ?_|refine i9 ?_ ?_<;>intro h<;>try simp only[i7] at h
      all_goals try clear hs
      exact zn ⟨k+1,by omega,hfin⟩ (zw [1,2,6,7,8,9,11,33,34] 2 (by simp[v6,hmp']))
   ·have hlet:=xm h0 he fun i h1 h2=>hall i h1 h2 (by omega)
    have htk:(nums l).take k=nums l:=List.take_of_length_le (by omega)
    have c3:=yY (G:=G) l (nums l) d ((E1 h0).1.imp fun h=>Int.le_of_lt h) (by omega)
    have hE:B5 l lets d=if d∈nums l then 0 else 6:=by simp[B5,h0,hlet]
    simp only[v6] at c3
    rw[htk]
    by_cases hd:d∈nums l
    ·rw[if_pos hd] at hE
     simp only[hd,decide_true] at c3
     simp only[v6]
     have hs:=hlt
     repeat' first|(with_reducible first|refine zz ?_|refine zr ?_|refine zE [0,1,2,3,6,7,8,9,10,11,12,13,14,21,30,33,34,35,55,64] ?_)|simp -dsimp[hs]|refine zp c3 ?_|refine i9 ?_ ?_<;>intro h<;>try simp only[i7] at h
     all_goals try clear hs
     simp[aF,hE,aD,v6]
    ·rw[if_neg hd] at hE
     simp only[hd,decide_false] at c3
     simp only[v6]
     have hs:=hlt
     repeat' first|(with_reducible first|refine zz ?_|refine zr ?_|refine zE [0,1,2,3,6,7,8,9,10,11,12,13,14,21,30,33,34,35,55,64] ?_)|simp -dsimp[hs]|refine zp c3 ?_|refine i9 ?_ ?_<;>intro h<;>try simp only[i7] at h
     all_goals try clear hs
     simp[aF,hE]
  ·have he':¬ (lets.length:Int)=((nums l).length:Int):=by omega
   have hE:B5 l lets d=22:=by
    have:u6 l lets=false:=by simp[u6,he]
    simp[B5,h0,this]
   simp only[v6] at c1
   have hs:=he'
   repeat' first|(with_reducible first|refine zz ?_|refine zr ?_|refine zE [0,1,2,3,6,7,8,9,10,11,12,13,14,21,30,33,34,35,55,64] ?_)|simp -dsimp[hs]|refine zp c1 ?_|refine i9 ?_ ?_<;>intro h<;>try simp only[i7] at h
   all_goals try clear hs
   simp[aF,hE]
 ·have hE:B5 l lets d=j7 l:=by simp[B5,h0]
  simp only[bp,h0,if_false] at c1
  have hs:=h0
  repeat' first|(with_reducible first|refine zz ?_|refine zr ?_|refine zE [0,1,2,3,6,7,8,9,10,11,12,13,14,21,30,33,34,35,55,64] ?_)|simp -dsimp[hs]|refine zp c1 ?_|refine i9 ?_ ?_<;>intro h<;>try simp only[i7] at h
  all_goals try clear hs
  simp[aF,hE,h0]
def ju (m:List (Int×Int)) (lv:List (Int×Int)):List (Int×Int):=lv.foldl (fun m p=>L8 p.1 (IntKind.i64.wrap (l9 m p.1+p.2)) m) m
def gi (by':List (Int×Issue)) (cnt:List (Int×Int)):List DObj:=[.row [.im (.mp [.int .i64] (dj by'))],.map [.int .i64] (L9 cnt),.row [.map 1],.row [.fn (.func 312) [.ptr 0 0,.ptr 2 0,.ptr 3 0]]]
theorem sB (l:List Issue) (lets:List Int) (h0:j7 l=0) (hlet:u6 l lets=true) (dep:Int→Int) (hdep:∀ n∈nums l,1≤dep n∧dep n≤6∧∀ c∈cA l n,c∈nums l∧dep c<dep n) :
 ∀ (k:Nat) (d m:Int) (cnt:List (Int×Int)),d∈nums l→dep d≤k →
  DCall prog G 312 [iv d,iv m,.one (.ptr 0 0),.one (.ptr 2 0),.one (.ptr 3 0)] (gi (aD l lets) cnt)
   (fun r o=>r=.tup []∧o=gi (aD l lets) (ju cnt (N3 (u4 l lets) k d m))):=by
 intro k
 induction k with
 | zero=>intro d m C hd hk;have:=(hdep d hd).1;omega
 | succ k ih =>
   intro d m cnt hd hk
   have hti:=jW h0 hlet hd
   obtain⟨htm,_,_⟩:=dC h0 hlet hd
   have htok:=(K0 (H5 (G0 h0))).2.2.2.1 _ htm
   have hsm:=eu htok
   have hkd:(u4 l lets d).kind=1∨(2≤(u4 l lets d).kind∧(u4 l lets d).items.length=0):=by
    simp only[n4,Bool.and_assoc] at htok
    rw[← Bool.and_assoc,Bool.and_eq_true] at htok
    have:=(du _).1 htok.1;omega
   have hch:=(hdep d hd).2.2
   have hE:N3 (u4 l lets) (k+1) d m=if 1<(u4 l lets d).kind then [(d,m)] else (u4 l lets d).items.flatMap fun y=>N3 (u4 l lets) k y.drawing (IntKind.i64.wrap (m*y.count)):=rfl
   have hlook:I8 (aD l lets) d=u4 l lets d:=by rw[aD,T2,if_pos hd]
   generalize u4 l lets d=x at *
   refine DCall.drop ?_
   refine h9 func312 rfl ntmps312 (by simp) rfl ?_
   simp only[gi,iv]
   by_cases hkind:x.kind=1
   ·rw[if_neg (by omega)] at hE
    have hs:=za hlook hkind
    repeat' first|(with_reducible first|refine zz ?_|refine zE [0,1,2,3,4,7,9,15,22,23,24,25] ?_)|simp -dsimp[hs]|refine i9 ?_ ?_<;>intro h<;>try simp only[i7] at h
    refine i6 (ι:={ p:Nat×List (Int×Int) // p.1≤x.items.length∧ju cnt (x.items.flatMap fun y=>N3 (u4 l lets) k y.drawing (IntKind.i64.wrap (m*y.count)))=ju p.2 ((x.items.drop p.1).flatMap fun y=>N3 (u4 l lets) k y.drawing (IntKind.i64.wrap (m*y.count))) }) (fun p=>⟨37,[(1,iv m),(2,.one (.ptr 0 0)),(3,.one (.ptr 2 0)),(4,.one (.ptr 3 0)),(22,.one (.im (.sl (x.items.map A4)))),(23,iv (x.items.length:Int)),(24,iv (p.1.1:Int))],gi (aD l lets) p.1.2⟩) (fun p=>x.items.length-p.1.1) ⟨(0,cnt),by simp⟩ (zw [1,2,3,4,22,23,24] 4 (by simp[gi])) ?_
    rintro⟨⟨u,cnt'⟩,hu,hadd⟩
    simp only at hu hadd
    simp only[iv,gi]
    by_cases hlt:u<x.items.length
    ·have hx:x.items[u]?=some x.items[u]:=by simp[hlt]
     have hw:=zk u
     have hc:=hch _ (hti x.items[u] (List.getElem_mem hlt))
     have hrec:=ih x.items[u].drawing (IntKind.i64.wrap (m*x.items[u].count)) cnt' hc.1 (by omega)
     rw[List.drop_eq_getElem_cons hlt,List.flatMap_cons,ju,ju,List.foldl_append] at hadd
     simp only[iv,gi] at hrec
     have hs:=za hx (za hw hlt)
     repeat' first|(with_reducible first|refine zz ?_|refine zE [0,1,2,3,4,7,9,15,22,23,24,25] ?_)|simp -dsimp[hs]|refine CallE.embed [0,1,2,3] (hrec) ?_ ?_ ?_ ?_ ?_ ?_;(focus simp[s9];done);(focus simp;done);(focus simp;done);(focus simp;done);(focus refine n9 ?_;simp[s9,p8];done);try simp -dsimp[n5,s9,hs]|refine i9 ?_ ?_<;>intro h<;>try simp only[i7] at h
     exact zn ⟨(u+1,ju cnt' (N3 (u4 l lets) k x.items[u].drawing (IntKind.i64.wrap (m*x.items[u].count)))),by omega,hadd⟩ (zw [1,2,3,4,22,23,24] 4 (by simp[gi]))
    ·rw[List.drop_eq_nil_of_le (by omega)] at hadd
     have hs:=hlt
     repeat' first|(with_reducible first|refine zz ?_|refine ze ?_|refine zE [0,1,2,3,4,7,9,15,22,23,24,25] ?_)|simp -dsimp[hs]|refine i9 ?_ ?_<;>intro h<;>try simp only[i7] at h|with_reducible refine And.intro ?_ ?_
     rw[hE,hadd];simp[gi,ju]
   ·rw[if_pos (by omega)] at hE
    have hz:x.items.length=0:=by omega
    have hs:=za hlook (za hkind hz)
    repeat' first|(with_reducible first|refine zz ?_|refine zE [0,1,2,3,4,7,9,15,22,23,24,25] ?_)|simp -dsimp[hs]|refine i9 ?_ ?_<;>intro h<;>try simp only[i7] at h
    refine i6 (ι:=Unit) (fun _=>⟨37,[(23,iv 0),(24,iv 0)],gi (aD l lets) (ju cnt [(d,m)])⟩) (fun _=>0) () (zw [23,24] 4 (by simp[gi,ju])) ?_
    intro _
    simp only[iv,gi]
    have hs:=trivial
    repeat' first|(with_reducible first|refine zz ?_|refine ze ?_|refine zE [0,1,2,3,4,7,9,15,22,23,24,25] ?_)|simp -dsimp[hs]|refine i9 ?_ ?_<;>intro h<;>try simp only[i7] at h|with_reducible refine And.intro ?_ ?_
    rw[hE]
def lX (l:List Issue) (lets:List Int) (d:Int):List (Int×Int):=ju [] (N3 (u4 l lets) 6 d 1)
def K4 (ns:List Int) (m:List (Int×Int)):List Itm:=(ns.filter fun n=>decide (0<l9 m n)).map fun n=>⟨n,l9 m n⟩
def bk (l:List Issue) (lets:List Int) (d:Int):List Itm:=if B5 l lets d=0 then K4 (nums l) (lX l lets d) else []
theorem wa (l:List Issue) (lets:List Int) (d:Int) (hG:o5 G) (hs:T9 l) (hll:lets.length<1000000):zP prog G 299 [G7 l,s6 lets,iv d] (.tup [.one (.im (.sl ((bk l lets d).map A4))),iv (B5 l lets d)]):=by
 refine zf func299 ntmps299 ?_
 try simp only[G7,s6,iv]
 have c1:=xH (G:=G) l lets d hG hs hll
 by_cases hE:B5 l lets d=0
 ·have h0:j7 l=0:=by
   by_cases h:j7 l=0
   ·exact h
   ·simp[B5,h] at hE
  have hlet:u6 l lets=true:=by
   cases h:u6 l lets
   ·simp[B5,h0,h] at hE
   ·rfl
  have hd:d∈nums l:=Classical.byContradiction fun h=>by simp[B5,h0,hlet,h] at hE
  obtain⟨dep,hdep⟩:=qf h0
  have c2:=sB (G:=G) l lets h0 hlet dep hdep 6 d 1 [] hd (by have:=(hdep d hd).2.1;omega)
  have hR:bk l lets d=K4 (nums l) (lX l lets d):=by simp[bk,hE]
  have hnl:(nums l).length≤l.length:=w8 l l.length
  have hl80:=hs.1
  change DCall _ _ _ _ _ (fun r o=>r=.tup []∧o=gi (aD l lets) (lX l lets d)) at c2
  generalize lX l lets d=cnt at *
  simp only[aF,hE,if_true,v6] at c1
  simp only[iv,gi,show L9 []=[] from rfl] at c2
  generalize nums l=ns at *
  have hs:=trivial
  repeat' first|(with_reducible first|refine zz ?_|refine zE [0,1,2,3,6,7,8,9,10,11,12,13,15,25,35,36,37,38,44] ?_)|simp -dsimp[hs]|refine zp c1 ?_|refine CallE.embed [2,3,4,5] (c2) ?_ ?_ ?_ ?_ ?_ ?_;(focus simp[s9];done);(focus simp;done);(focus simp;done);(focus simp;done);(focus refine n9 ?_;simp[s9,p8];done);try simp -dsimp[n5,s9,hs]|refine i9 ?_ ?_<;>intro h<;>try simp only[i7] at h
  all_goals try clear hs
  refine i6 (ι:={ p:Nat×Nat×Bool×List Itm // p.1≤ns.length∧p.2.2.2.length≤p.1∧K4 ns cnt=p.2.2.2++K4 (ns.drop p.1) cnt }) (fun p=>⟨55,[(11,.one (.ptr 4 0)),(13,.one (.vec 6 p.1.2.1 0 p.1.2.2.2.length)),(35,s6 ns),(36,iv (ns.length:Int)),(37,iv (p.1.1:Int))],[.row [.im (.sl (l.map g9))],.vec 2 [] 0 true,.row [.im (.mp [.int .i64] (dj (aD l lets)))],.map [.int .i64] (L9 cnt),.row [.map 3],.row [.fn (.func 312) [.ptr 2 0,.ptr 4 0,.ptr 5 0]],.vec 2 (l8 (p.1.2.2.2.map A4)) p.1.2.1 p.1.2.2.1]⟩) (fun p=>ns.length-p.1.1) ⟨(0,0,true,[]),by simp⟩ (zv [11,13,35,36,37]) ?_
  rintro⟨⟨k,g,nl,out⟩,hk,hol,hp⟩
  simp only at hk hol hp
  simp only[iv,s6]
  by_cases hlt:k<ns.length
  ·have hx:ns[k]?=some ns[k]:=by simp[hlt]
   have hw:=zk k
   rw[List.drop_eq_getElem_cons hlt] at hp
   by_cases hpos:0<l9 cnt ns[k]
   ·rw[K4,K4,List.filter_cons_of_pos (by simpa using hpos),List.map_cons] at hp
    have hs:=za hx (za hw (za hlt hpos))
    repeat' first|(with_reducible first|refine zz ?_|refine And.intro (by omega) ?_|refine zE [0,1,2,3,6,7,8,9,10,11,12,13,15,25,35,36,37,38,44] ?_)|simp -dsimp[hs]|refine i9 ?_ ?_<;>intro h<;>try simp only[i7] at h
    all_goals try clear hs
    all_goals try omega
    exact zn ⟨(k+1,g+1,false,out++[⟨ns[k],l9 cnt ns[k]⟩]),by omega,by simp;omega,by rw[K4,hp,K4];simp⟩ (zw [11,13,35,36,37] 7)
   ·rw[K4,K4,List.filter_cons_of_neg (by simpa using hpos)] at hp
    have hs:=za hx (za hw (za hlt hpos))
    repeat' first|(with_reducible first|refine zz ?_|refine zE [0,1,2,3,6,7,8,9,10,11,12,13,15,25,35,36,37,38,44] ?_)|simp -dsimp[hs]|refine i9 ?_ ?_<;>intro h<;>try simp only[i7] at h
    all_goals try clear hs
    exact zn ⟨(k+1,g,nl,out),by omega,by show out.length≤k+1;omega,hp⟩ (zv [11,13,35,36,37])
  ·rw[List.drop_eq_nil_of_le (by omega)] at hp
   have hs:=hlt
   repeat' first|(with_reducible first|refine zz ?_|refine zr ?_|refine zE [0,1,2,3,6,7,8,9,10,11,12,13,15,25,35,36,37,38,44] ?_)|simp -dsimp[hs]|refine i9 ?_ ?_<;>intro h<;>try simp only[i7] at h
   all_goals try clear hs
   all_goals try omega
   rw[hR,hp];simp[K4,hE]
 ·have hR:bk l lets d=[]:=by simp[bk,hE]
  simp only[aF,hE,if_false] at c1
  have hs:=hE
  repeat' first|(with_reducible first|refine zz ?_|refine zr ?_|refine zE [0,1,2,3,6,7,8,9,10,11,12,13,15,25,35,36,37,38,44] ?_)|simp -dsimp[hs]|refine zp c1 ?_|refine i9 ?_ ?_<;>intro h<;>try simp only[i7] at h
  all_goals try clear hs
  simp[hR]
end Go.Proofs
namespace Go.Ab
open Go
structure Link where
 drawing:Int
 dim:Int
 back:Bool
 deriving DecidableEq
structure ChLoop where
 links:List Link
 lo:Int
 hi:Int
 deriving DecidableEq
structure Chains where
 reg:List Issue
 lets:List Int
 of:Int
 loops:List ChLoop
 deriving DecidableEq
def F8 (x:Link):List IC:=[rI x.drawing,rI x.dim,rB x.back]
def G8 (x:ChLoop):List IC:=[.sl (x.links.map F8),rI x.lo,rI x.hi]
def O9 (c:Chains):List IC:=[.sl (c.reg.map g9),.sl (c.lets.map encI),rI c.of,.sl (c.loops.map G8)]
def yz (x:Link):DV:=.agg ((F8 x).map .im)
def kF (x:ChLoop):DV:=.agg ((G8 x).map .im)
def Bh (c:Chains):DV:=.agg ((O9 c).map .im)
attribute [simp] F8 G8 O9 yz kF Bh
end Go.Ab
namespace Go.Proofs
open Go Go.Ab
variable {G:JO}
theorem vL (x lo hi:Int):DCall Tryz.prog G 216 (iv x :: [DC.ptr 0 0,DC.ptr 1 0].map .one) [.row [.im (rI lo)],.row [.im (rI hi)]] (fun d o=>d=bv (decide (x<lo)||decide (hi<x))∧o=[.row [.im (rI lo)],.row [.im (rI hi)]]):=by
 refine h9 Tryz.func216 rfl Tryz.ntmps216 (by simp) rfl ?_
 simp only[rI]
 have hs:=trivial
 repeat' first|(with_reducible first|refine zz ?_|refine zr ?_|refine zE [0,1,2,4] ?_)|simp -dsimp[hs]|with_reducible refine j0 ?_ ?_<;>intro h<;>have h0:=h<;>(try simp only[i7] at h)<;>have h2:=h<;>(try simp at h2)<;>replace hs:=za h0 (za h (za h2 hs))|with_reducible refine And.intro ?_ ?_
 all_goals try clear hs
 all_goals simp[*]
theorem bg (lo hi:Int) (l:List Int) (hl:l.length<1000000):zP Tryz.prog G 168 [iv lo,iv hi,s6 l] (bv (l.all fun x=>decide (lo≤x)&&decide (x≤hi))):=by
 refine zf Tryz.func168 Tryz.ntmps168 ?_
 try simp only[iv,iv,s6]
 have hc:=C0 (G:=G) l (fun x=>decide (x<lo)||decide (hi<x)) 216 [.ptr 0 0,.ptr 1 0] [.row [.im (rI lo)],.row [.im (rI hi)]] (by simp) (fun x _=>vL x lo hi) hl
 simp only[rI] at hc
 repeat' first|(with_reducible first|refine zz ?_|refine zx ?_|refine zE [0,1,2,3,4,6] ?_)|simp -dsimp|refine CallE.here hc ?_
 rw[Bool.eq_iff_iff];simp
 exact exists_congr fun x=>and_congr_right fun _=>by omega
def J3 (c:Chains) (D:List (Int×Int)) (B:List (Int×Issue)):IC:=.ip [.sl (c.reg.map g9),.sl (c.lets.map encI),rI c.of,.sl (c.loops.map G8),.mp [.int .i64] (Z5 D),.mp [.int .i64] (dj B)]
def sS (x:ChLoop):Bool:=decide (1≤x.links.length)&&decide (x.links.length≤8)
def qo (x:ChLoop):Bool:=(decide (-8000000000≤x.lo)&&decide (x.lo≤8000000000))&&(decide (-8000000000≤x.hi)&&decide (x.hi≤8000000000))&&decide (x.lo≤x.hi)
def W4 (D:List (Int×Int)) (B:List (Int×Issue)):List (Int×Int)→List Link→Bool
 | _,[]=>true
 | U,y :: r=>decide (l9 U y.drawing+1≤l9 D y.drawing)&&(decide (0≤y.dim)&&decide (y.dim≤((I8 B y.drawing).dims.length:Int)-1))&&W4 D B (L8 y.drawing (l9 U y.drawing+1) U) r
theorem Fu (d:IC) (x:ChLoop):zP Tryz.prog G 372 [.one (.im d),kF x] (bv (sS x)):=by
 refine zf Tryz.func372 Tryz.ntmps372 ?_
 try simp only[kF]
 have c1:=bg (G:=G) 1 8 [(x.links.length:Int)] (by simp)
 repeat' first|(with_reducible first|refine zz ?_|refine zx ?_|refine zE [1,3,4] ?_)|simp -dsimp|refine zt c1 ?_ ?_ ?_;(focus simp;done);focus (simp;done)
 rw[Bool.eq_iff_iff]
 simp[sS]
 omega
theorem zW (x:ChLoop):qo x=true↔-8000000000≤x.lo∧x.lo≤8000000000∧-8000000000≤x.hi∧x.hi≤8000000000∧x.lo≤x.hi:=by
 simp[qo];omega
theorem Ft (d:IC) (x:ChLoop):zP Tryz.prog G 373 [.one (.im d),kF x] (bv (qo x)):=by
 refine zf Tryz.func373 Tryz.ntmps373 ?_
 try simp only[kF]
 have c1:=bg (G:=G) (-8000000000) 8000000000 [x.lo,x.hi] (by simp)
 have hi:=zW x
 cases hq:([x.lo,x.hi].all fun y=>decide (-8000000000≤y)&&decide (y≤8000000000))
 ·rw[hq] at c1
  repeat' first|(with_reducible first|refine zz ?_|refine zx ?_|refine zE [1,3,4] ?_)|simp -dsimp|refine zt c1 ?_ ?_ ?_;(focus simp;done);focus (simp;done)
  all_goals simp at hq
  all_goals exact di hi (by omega)
 ·rw[hq] at c1
  repeat' first|(with_reducible first|refine zz ?_|refine zx ?_|refine zE [1,3,4] ?_)|simp -dsimp|refine zt c1 ?_ ?_ ?_;(focus simp;done);focus (simp;done)
  all_goals simp at hq
  all_goals rw[Bool.eq_iff_iff,hi]
  all_goals simp
  all_goals omega
theorem Fs (c:Chains) (D:List (Int×Int)) (B:List (Int×Issue)) (x:ChLoop) (hl:x.links.length<1000000) (hB:∀ n,(I8 B n).dims.length<1000000):zP Tryz.prog G 374 [.one (.im (J3 c D B)),kF x] (bv (W4 D B [] x.links)):=by
 refine zf Tryz.func374 Tryz.ntmps374 ?_
 try simp only[kF]
 simp only[J3]
 have hs:=trivial
 repeat' first|(with_reducible first|refine zz ?_|refine zE [0,1,3,4,5,7,10,11,12,13,48] ?_)|simp -dsimp[hs]
 refine i6 (ι:={ p:Nat×List (Int×Int) // p.1≤x.links.length∧W4 D B [] x.links=W4 D B p.2 (x.links.drop p.1)∧bd p.2 p.1 }) (fun p=>⟨50,[(0,.one (.im (J3 c D B))),(5,.one (.map 1)),(10,.one (.im (.sl (x.links.map F8)))),(11,iv (x.links.length:Int)),(12,iv (p.1.1:Int))],[.row ((G8 x).map .im),.map [.int .i64] (L9 p.1.2)]⟩) (fun p=>x.links.length-p.1.1) ⟨(0,[]),by simp[bd]⟩ (zv [0,5,10,11,12] (by simp[J3,L9])) ?_
 rintro⟨⟨k,U⟩,hk,hu,hb⟩
 simp only at hk hu hb
 simp only[iv,J3]
 by_cases hlt:k<x.links.length
 ·have hx:x.links[k]?=some x.links[k]:=by simp[hlt]
  have hw:=zk k
  have hbl:=up hb x.links[k].drawing
  have hwu:IntKind.i64.wrap (l9 U x.links[k].drawing+1)=l9 U x.links[k].drawing+1:=o3 (by omega) (by omega)
  have hput:l9 (L8 x.links[k].drawing (l9 U x.links[k].drawing+1) U) x.links[k].drawing=l9 U x.links[k].drawing+1:=by rw[Y2,if_pos rfl]
  have hBn:=hB x.links[k].drawing
  have hwd:IntKind.i64.wrap (((I8 B x.links[k].drawing).dims.length:Int)-1)=((I8 B x.links[k].drawing).dims.length:Int)-1:=o3 (by omega) (by omega)
  have c1:=bg (G:=G) 0 (((I8 B x.links[k].drawing).dims.length:Int)-1) [x.links[k].dim] (by simp)
  have hbn:bd (L8 x.links[k].drawing (l9 U x.links[k].drawing+1) U) (k+1):=tb (dU hb (by omega)) (by omega) (by omega)
  rw[List.drop_eq_getElem_cons hlt,W4] at hu
  by_cases hle:l9 U x.links[k].drawing+1≤l9 D x.links[k].drawing
  ·rw[decide_eq_true hle,Bool.true_and] at hu
   cases hq:([x.links[k].dim].all fun y=>decide (0≤y)&&decide (y≤((I8 B x.links[k].drawing).dims.length:Int)-1))
   ·rw[hq] at c1
    have hq':(decide (0≤x.links[k].dim)&&decide (x.links[k].dim≤((I8 B x.links[k].drawing).dims.length:Int)-1))=false:=by simpa using hq
    rw[hq',Bool.false_and] at hu
    have hs:=za hx (za hw (za hlt (za hwu (za hput (za hwd hle)))))
    repeat' first|(with_reducible first|refine zz ?_|refine zr ?_)|simp -dsimp[hs]|refine zq c1 ?_|refine zM 6 50 28 [0,1,3,4,5,7,10,11,12,13,48] ?_|with_reducible refine zE [0,1,3,4,5,7,10,11,12,13,48] ?_|refine i9 ?_ ?_<;>intro h<;>try simp only[i7] at h
    rw[hu]
   ·rw[hq] at c1
    have hq':(decide (0≤x.links[k].dim)&&decide (x.links[k].dim≤((I8 B x.links[k].drawing).dims.length:Int)-1))=true:=by simpa using hq
    rw[hq',Bool.true_and] at hu
    have hs:=za hx (za hw (za hlt (za hwu (za hput (za hwd hle)))))
    repeat' first|with_reducible refine zz ?_|simp -dsimp[hs]|refine zq c1 ?_|refine zM 6 50 28 [0,1,3,4,5,7,10,11,12,13,48] ?_|with_reducible refine zE [0,1,3,4,5,7,10,11,12,13,48] ?_|refine i9 ?_ ?_<;>intro h<;>try simp only[i7] at h
    exact zn ⟨(k+1,L8 x.links[k].drawing (l9 U x.links[k].drawing+1) U),by omega,hu,hbn⟩ (zw [0,5,10,11,12] 2 (by simp[J3]))
  ·rw[decide_eq_false hle,Bool.false_and,Bool.false_and] at hu
   have hs:=za hx (za hw (za hlt (za hwu (za hput (za hwd hle)))))
   repeat' first|(with_reducible first|refine zz ?_|refine zr ?_)|simp -dsimp[hs]|refine zM 6 50 28 [0,1,3,4,5,7,10,11,12,13,48] ?_|with_reducible refine zE [0,1,3,4,5,7,10,11,12,13,48] ?_|refine i9 ?_ ?_<;>intro h<;>try simp only[i7] at h
   rw[hu]
 ·rw[List.drop_eq_nil_of_le (by omega)] at hu
  have hs:=hlt
  repeat' first|(with_reducible first|refine zz ?_|refine zr ?_|refine zE [0,1,3,4,5,7,10,11,12,13,48] ?_)|simp -dsimp[hs]|refine i9 ?_ ?_<;>intro h<;>try simp only[i7] at h
  rw[hu];rfl
end Go.Proofs
