/- Part 14 of the proofs. -/
import Derived.Test.YtjodaihiogfkbaaGreatDoorRows
import Derived.Test.YtjodaihiogfkbaaGreatDoorT08
import Derived.Test.YtjodaihiogfkbaaGreatDoorT10
import Derived.Test.YtjodaihiogfkbaaGreatDoorT12
import Derived.Test.YtjodaihiogfkbaaGreatDoorT13
set_option linter.all false
set_option linter.deprecated false
set_option maxHeartbeats 100000000
namespace Go.Ab
open Go
theorem pQ {α:Type} {enc:α→List IC} {ok:α→Prop}:∀ (es:List (List IC)),(∀ x∈es,∃ a,ok a∧x=enc a)→∃ xs:List α,(∀ x∈xs,ok x)∧es=xs.map enc
 | [],_=>⟨[],by simp,rfl⟩
 | e :: es,h=>by
   obtain⟨a,ha,rfl⟩:=h e (by simp)
   obtain⟨xs,hx,rfl⟩:=pQ es fun x hx=>h x (by simp[hx])
   exact⟨a :: xs,by simpa using⟨ha,hx⟩,rfl⟩
theorem Opens.sliceOf {P:Program} {t e:TypeId} {α:Type} {enc:α→List IC} {ok:α→Prop} {sz:Nat} (ht:P.underlying t=some (.slice e)) (hc:P.cellsOf e=sz) (h0:0<sz) (hl:∀ x,(enc x).length=sz) (he:Opens P e (fun l=>∃ x,ok x∧l=enc x)) :
 Opens P t (fun l=>∃ xs:List α,(∀ x∈xs,ok x)∧l=[.sl (xs.map enc)]):=
 (Opens.slice ht hc h0 he (by rintro l ⟨x,_,rfl⟩;exact hl x)).mono (by
  rintro l ⟨es,h,rfl⟩
  obtain⟨xs,h1,rfl⟩:=pQ es h
  exact⟨xs,h1,rfl⟩)
def fh (x:Issue):Prop:=0≤x.kind∧x.kind≤255
end Go.Ab
namespace Go.Proofs
open Go Go.Ab
def Rd (t:TypeId) {α:Type} (enc:α→List IC) (ok:α→Prop):Prop:=Opens Tryz.prog t (fun l=>∃ x,ok x∧l=enc x)
theorem oInt:Opens Tryz.prog 3 (fun l=>∃ n:Int,l=[rI n]):=(Opens.int Tryz.underlying3).mono (by rintro l ⟨n,_,rfl⟩;exact⟨n,rfl⟩)
theorem GP:Opens Tryz.prog 5 (fun l=>∃ n:Int,(0≤n∧n≤255)∧l=[.raw (.int .u8 n)]):=(Opens.int Tryz.underlying5).mono (by
 rintro l ⟨n,hn,rfl⟩
 exact⟨n,by simpa[IntKind.min,IntKind.max,IntKind.signed,IntKind.bits] using hn,rfl⟩)
theorem DP:Opens Tryz.prog 4 (fun l=>∃ b:Bool,l=[rB b]):=Opens.bool Tryz.underlying4
theorem GB:Rd 3 encI (fun _=>True):=oInt.mono (by rintro l ⟨n,rfl⟩;exact⟨n,trivial,rfl⟩)
theorem vP {α:Type} {l:List α} (h:l.length=2):∃ a b,l=[a,b]:=by
 match l,h with
 | [a,b],_=>exact⟨a,b,rfl⟩
theorem Cr {α:Type} {l:List α} (h:l.length=3):∃ a b c,l=[a,b,c]:=by
 match l,h with
 | [a,b,c],_=>exact⟨a,b,c,rfl⟩
theorem Ho {α:Type} {l:List α} (h:l.length=4):∃ a b c d,l=[a,b,c,d]:=by
 match l,h with
 | [a,b,c,d],_=>exact⟨a,b,c,d,rfl⟩
theorem Hn {α:Type} {l:List α} (h:l.length=5):∃ a b c d e,l=[a,b,c,d,e]:=by
 match l,h with
 | [a,b,c,d,e],_=>exact⟨a,b,c,d,e,rfl⟩
def yu {α:Type} (d:α) (a b c:α):Nat→α|0=>a|1=>b|2=>c|_=>d
def DM {α:Type} (z:α) (a b c d e:α):Nat→α|0=>a|1=>b|2=>c|3=>d|4=>e|_=>z
theorem EA:Rd 181 A4 (fun _=>True):=(Opens.struct Tryz.underlying181 (by kernel_rfl) (fun _ l=>∃ n:Int,l=[rI n]) (fun i f hf=>by
 rcases i with _|_|i<;>simp at hf<;>subst hf<;>exact oInt)).mono (by
 rintro l ⟨ls,h1,h2,rfl⟩
 obtain⟨a,b,rfl⟩:=vP h1
 obtain⟨x,rfl⟩:=h2 0 a rfl
 obtain⟨y,rfl⟩:=h2 1 b rfl
 exact⟨⟨x,y⟩,trivial,rfl⟩)
theorem GC:Rd 102 D7 (fun _=>True):=(Opens.struct Tryz.underlying102 (by kernel_rfl) (fun _ l=>∃ n:Int,l=[rI n]) (fun i f hf=>by
 rcases i with _|_|_|i<;>simp at hf<;>subst hf<;>exact oInt)).mono (by
 rintro l ⟨ls,h1,h2,rfl⟩
 obtain⟨a,b,c,rfl⟩:=Cr h1
 obtain⟨x,rfl⟩:=h2 0 a rfl
 obtain⟨y,rfl⟩:=h2 1 b rfl
 obtain⟨z,rfl⟩:=h2 2 c rfl
 exact⟨⟨x,y,z⟩,trivial,rfl⟩)
theorem EO:Opens Tryz.prog 176 (fun l=>∃ xs:List Itm,l=[.sl (xs.map A4)]):=
 (Opens.sliceOf Tryz.underlying176 (sz:=2) (by kernel_rfl) (by decide) (fun _=>rfl) EA).mono (by rintro l ⟨xs,_,h⟩;exact⟨xs,h⟩)
theorem GT:Opens Tryz.prog 108 (fun l=>∃ xs:List Dim,l=[.sl (xs.map D7)]):=
 (Opens.sliceOf Tryz.underlying108 (sz:=3) (by kernel_rfl) (by decide) (fun _=>rfl) GC).mono (by rintro l ⟨xs,_,h⟩;exact⟨xs,h⟩)
theorem DO:Opens Tryz.prog 40 (fun l=>∃ xs:List Int,l=[.sl (xs.map encI)]):=
 (Opens.sliceOf Tryz.underlying40 (sz:=1) (by kernel_rfl) (by decide) (fun _=>rfl) GB).mono (by rintro l ⟨xs,_,h⟩;exact⟨xs,h⟩)
theorem BP:Rd 178 e9 fh:=(Opens.struct Tryz.underlying178 (by kernel_rfl) (DM (fun _=>True) (fun l=>∃ n:Int,l=[rI n]) (fun l=>∃ n:Int,l=[rI n]) (fun l=>∃ n:Int,(0≤n∧n≤255)∧l=[.raw (.int .u8 n)]) (fun l=>∃ xs:List Itm,l=[.sl (xs.map A4)]) (fun l=>∃ xs:List Dim,l=[.sl (xs.map D7)])) (fun i f hf=>by
 rcases i with _|_|_|_|_|i<;>simp at hf<;>subst hf
 ·exact oInt
 ·exact oInt
 ·exact GP
 ·exact EO
 ·exact GT)).mono (by
 rintro l ⟨ls,h1,h2,rfl⟩
 obtain⟨a,b,c,d,e,rfl⟩:=Hn h1
 obtain⟨x,rfl⟩:=h2 0 a rfl
 obtain⟨y,rfl⟩:=h2 1 b rfl
 obtain⟨z,hz,rfl⟩:=h2 2 c rfl
 obtain⟨u,rfl⟩:=h2 3 d rfl
 obtain⟨v,rfl⟩:=h2 4 e rfl
 exact⟨⟨x,y,z,u,v⟩,hz,rfl⟩)
theorem EK:Opens Tryz.prog 22 (fun l=>∃ xs:List Issue,(∀ x∈xs,fh x)∧l=[.sl (xs.map e9)]):=
 Opens.sliceOf Tryz.underlying22 (sz:=5) (by kernel_rfl) (by decide) (fun _=>rfl) BP
theorem GQ:Opens Tryz.prog 24 (fun l=>∃ xs:List Issue,(∀ x∈xs,fh x)∧l=[.sl (xs.map e9)]):=(Opens.struct Tryz.underlying24 (by kernel_rfl) (fun _ l=>∃ xs:List Issue,(∀ x∈xs,fh x)∧l=[.sl (xs.map e9)]) (fun i f hf=>by
 rcases i with _|i<;>simp at hf<;>subst hf<;>exact EK)).mono (by
 rintro l ⟨ls,h1,h2,rfl⟩
 obtain⟨a,rfl⟩:=List.length_eq_one_iff.1 h1
 obtain⟨x,hx,rfl⟩:=h2 0 a rfl
 exact⟨x,hx,rfl⟩)
theorem R8 {P:Program} {W:World} {t e te n:Nat} {f:Field} {ps rs:Array TypeId} {cs:Array Value} {fuel:Nat} {p:List MemPlace} {names:List (List UInt8)} {fs:List FuncId} (ht:P.underlying t=some (.array n e)) (hte:P.underlying e=some (.struct #[f])) (hf0:f.offset=0) (hft:f.type=te) (hu:P.underlying te=some (.func ps rs false)) (hce:P.cellsOf e=1) (hcf:P.cellsOf te=1) (hn:names.length=n)
 (hfs:(names.zip fs).all (fun x=>x.1≠[]∧((List.range P.funcs.size).filter fun f=>(P.funcs[f]?).any (·.name.toUTF8.data.toList==x.1))=[x.2])=true) (hl:fs.length=n)
 (h:DataW.trod (funcToken P) P W 0 (fun _=>true) true fuel t cs.toList=some (.agg (names.map fun x=>.agg [.held x]),p)):∀ (j:Nat) (g:FuncId),fs[j]?=some g→cs[j]?=some (.func (.func g) #[] #[]):=by
 obtain⟨xs,m,_,ex,hlen,hxl,hel⟩:=DataW.trod_array ht h
 intro j g hg
 have hj:j<n:=by rw[← hl];exact e7 hg
 have hE:=hel j hj
 rw[hce,Nat.mul_one] at hE
 have hx:xs[j]?=some xs[j]:=by simp[hxl,hj]
 rw[hx] at hE
 obtain⟨ys,m2,_,ey,hlen2,hyl,hel2⟩:=DataW.trod_struct hte hE
 have hE2:=hel2 0 f rfl
 have hyl1:ys.length=1:=by simpa using hyl
 obtain⟨y,rfl⟩:=List.length_eq_one_iff.1 hyl1
 rw[hf0,hft,hcf] at hE2
 have hcl:j<cs.size:=by
  rcases Nat.lt_or_ge j cs.size with h1|h1
  ·exact h1
  ·simp[hce] at hlen2;omega
 have hc1:((cs.toList.drop j).take 1)=[cs[j]]:=by
  rw[List.drop_eq_getElem_cons (by simpa using hcl)];simp
 rw[hc1] at hE2
 simp only[List.drop_zero,List.take_succ_cons,List.getElem?_cons_zero,List.take_nil] at hE2
 have hnm:names[j]?=some names[j]:=by simp[hn,hj]
 have e1:(xs.map (·.1))[j]?=(names.map fun x=>DataW.agg [DataW.held x])[j]?:=by rw[(DataW.agg.inj (Prod.mk.inj ex).1)]
 rw[List.getElem?_map,List.getElem?_map,hx,hnm,ey] at e1
 simp only[Option.map_some,Option.some.injEq,DataW.agg.injEq,List.map_cons,List.map_nil,List.cons.injEq,and_true] at e1
 have hall:=List.all_eq_true.1 hfs (names[j],g) (List.mem_iff_getElem?.2 ⟨j,by rw[List.getElem?_zip_eq_some];exact⟨hnm,hg⟩⟩)
 simp only[decide_eq_true_eq] at hall
 cases hnj:names[j] with
 | nil=>exact absurd hnj hall.1
 | cons b r =>
   rw[hnj] at hall e1
   have:=func_of_trod (f0:=g) (q:=y.2) hu hall.2 (by rw[hE2,← e1])
   rw[Array.getElem?_eq_getElem hcl,this]
end Go.Proofs
namespace Go.Proofs
open Go Go.Ab
theorem qt {l:List Issue} (h:l4 l=0):∃ dep:Int→Int,∀ n∈nums l,1≤dep n∧dep n≤6∧∀ c∈cI l n,c∈nums l∧dep c<dep n:=by
 have hL:s7 l=true:=by
  cases hL:s7 l
  ·simp[l4,hL] at h
  ·rfl
 have h2:¬ X4 (C4 l) > (C4 l).length:=fun hg=>by simp[l4,hL,hg] at h
 have h6:¬ X4 (C4 l) > 6:=fun hg=>by simp[l4,hL,h2,hg] at h
 have hsc:=hL
 simp only[s7,Bool.and_eq_true] at hsc
 obtain⟨ds,hds⟩:=Option.isSome_iff_exists.1 hsc.1.1.2
 obtain⟨e,hlt,_,_,_⟩:=N5 hds
 have hall:=hsc.1.2
 rw[← e] at hall
 have hnd:ds.Nodup:=hlt.imp fun h=>Int.ne_of_lt h
 have hch:∀ n∈ds,∀ c∈cI l n,c∈ds:=fun n _ c hc=>by
  simp only[cI,List.mem_flatMap,List.mem_map] at hc
  obtain⟨x,hx,y,hy,rfl⟩:=hc
  have:=List.all_eq_true.1 (List.all_eq_true.1 hall x (List.mem_filter.1 hx).1) y hy
  simpa using this
 have e1:∀ n∈ds,Rr l (ds.length+1) n≤ds.length:=fun n hn=>Int.not_lt.1 fun hg=>h2 (by
  have:=(jR (Rr l (ds.length+1)) ds ds.length (by omega)).2 ⟨n,hn,hg⟩
  simpa[C4,← e] using this)
 have e2:∀ n∈ds,Rr l (ds.length+1) n≤6:=fun n hn=>Int.not_lt.1 fun hg=>h6 (by
  have:=(jR (Rr l (ds.length+1)) ds 6 (by omega)).2 ⟨n,hn,hg⟩
  simpa[C4,← e] using this)
 have h0:DInv l ds ([],gt ds):=by
  rw[ld hnd]
  exact⟨hnd,fun n h=>h,by simp,by simp,fun n h h'=>absurd h h'⟩
 obtain⟨hi,_⟩:=fr hch ds.length _ h0
 change DInv l ds (o9 l ds) at hi
 obtain⟨d1,d2⟩:=gM hnd hch
 have hz:(o9 l ds).2.length=0:=by
  refine Nat.eq_zero_of_not_pos fun hp=>?_
  obtain⟨n,hn,hg⟩:=d1.1 hp
  have:=e1 n hn;omega
 have hempty:∀ n,n∉(o9 l ds).2:=fun n=>by rw[List.length_eq_zero_iff.1 hz];simp
 refine⟨n4 (o9 l ds).1,fun n hn=>?_⟩
 rw[← e] at hn
 obtain⟨a,b,c⟩:=hi.val n hn (hempty n)
 have hn1:=c (ds.length+1) (by omega)
 refine⟨a,by have:=e2 n hn;omega,fun m hm=>?_⟩
 have hmd:=hch n hn m hm
 obtain⟨a',b',c'⟩:=hi.val m hmd (hempty m)
 have hm1:=c' ds.length (by omega)
 have hle:=mS (f:=Rr l ds.length) hm
 have hr:Rr l (ds.length+1) n=1+mx (Rr l ds.length) (cI l n):=rfl
 exact⟨by rw[← e];exact hmd,by omega⟩
open Go Go.Ab Tryz
variable {G:Kc}
theorem uQ (n lo hi:Int):zP prog G 319 [iv n,iv lo,iv hi] (bv (decide (lo≤n)&&decide (n≤hi))):=by
 refine zf func319 ntmps319 ?_
 try simp only[iv,iv,iv]
 have hs:=trivial
 repeat' first|(with_reducible first|refine zz ?_|refine zr ?_|refine zE [0,1,2,6] ?_)|simp -dsimp[hs]|with_reducible refine j0 ?_ ?_<;>intro h<;>have h0:=h<;>(try simp only[i7] at h)<;>have h2:=h<;>(try simp at h2)<;>replace hs:=za h0 (za h (za h2 hs))
 all_goals try clear hs
 all_goals simp[*]
theorem Y7 (d:Dim):I9 d=true↔0≤d.nominal∧d.nominal≤1000000000∧0≤d.upper∧d.upper≤1000000000∧0≤d.lower∧d.lower≤d.upper:=by
 simp[I9];omega
theorem dx {b:Bool} {p:Prop} (h:b=true↔p) (hn:¬ p):b=false:=by
 cases b
 ·rfl
 ·exact absurd (h.1 rfl) hn
theorem BA {b:Bool} {p:Prop} (h:b=true↔p) (hn:p):b=true:=h.2 hn
theorem HK (d:Dim):zP prog G 313 [gL d] (bv (I9 d)):=by
 refine zf func313 ntmps313 ?_
 try simp only[gL]
 have hs:=trivial
 repeat' first|(with_reducible first|refine zz ?_|refine zr ?_|refine zE [0,1,2] ?_)|simp -dsimp[hs]|refine zp (uQ (G:=G) _ _ _) ?_|with_reducible refine j0 ?_ ?_<;>intro h<;>have h0:=h<;>(try simp only[i7] at h)<;>have h2:=h<;>(try simp at h2)<;>replace hs:=za h0 (za h (za h2 hs))
 ·rw[Bool.eq_iff_iff,Y7];simp;omega
 ·exact dx (Y7 d) (by omega)
 ·exact dx (Y7 d) (by omega)
theorem dE (x:Issue):(Ak x&&Bs x)=true↔1≤x.drawing∧x.drawing≤9999∧1≤x.letter∧x.letter≤8∧(x.kind=1∧1≤x.items.length∧x.items.length≤8∧x.dims.length=0∨2≤x.kind∧x.kind≤3∧x.dims.length≤4∧x.items.length=0):=by
 unfold Ak Bs
 split
 ·simp only[Bool.and_eq_true,decide_eq_true_eq];omega
 ·simp only[Bool.and_eq_true,decide_eq_true_eq];omega
theorem oh {d:Int} {l:List Itm} {k:Nat} (hlt:k<l.length) (hno:E7 d 0 l=E7 d (pv l k) (l.drop k)) :
 E7 d 0 l=true↔(1≤l[k].drawing∧l[k].drawing≤9999∧1≤l[k].count∧l[k].count≤20∧l[k].drawing≠d∧pv l k<l[k].drawing)∧E7 d (pv l (k+1)) (l.drop (k+1))=true:=by
 have hx:l[k]?=some l[k]:=by simp[hlt]
 have hpv1:pv l (k+1)=l[k].drawing:=by simp[pv,hx]
 rw[hno,List.drop_eq_getElem_cons hlt,E7,hpv1]
 simp only[Bool.and_eq_true,decide_eq_true_eq,Bool.not_eq_true',decide_eq_false_iff_not]
 constructor
 ·rintro⟨⟨⟨⟨⟨a,b⟩,c,d⟩,e⟩,f⟩,g⟩;exact⟨⟨a,b,c,d,e,f⟩,g⟩
 ·rintro⟨⟨a,b,c,d,e,f⟩,g⟩;exact⟨⟨⟨⟨⟨a,b⟩,c,d⟩,e⟩,f⟩,g⟩
theorem I0 {b c:Bool} {p:Prop} (h:b=true↔p∧c=true) (hp:p):b=c:=by
 rw[Bool.eq_iff_iff,h];exact⟨fun h=>h.2,fun h=>⟨hp,h⟩⟩
theorem E3 {b c:Bool} {p:Prop} (h:b=true↔p∧c=true) (hp:¬ p):b=false:=dx h fun h=>hp h.1
theorem bD {α:Type} {f:α→Bool} {l:List α} {k:Nat} (hlt:k<l.length) (hno:l.all f=(l.drop k).all f):l.all f=true↔f l[k]=true∧(l.drop (k+1)).all f=true:=by
 rw[hno,List.drop_eq_getElem_cons hlt,List.all_cons,Bool.and_eq_true]
theorem Cv (x:Issue) (hk:0≤x.kind∧x.kind≤255) (hl:x.items.length<1000000) (hd:x.dims.length<1000000):zP prog G 301 [O8 x] (bv (n7 x)):=by
 refine zf func301 ntmps301 ?_
 try simp only[O8]
 have hw:IntKind.i64.wrap x.kind=x.kind:=o4 (by omega) (by omega)
 have h12:=dE x
 generalize hA:(Ak x&&Bs x)=A at h12
 have hs:=hw
 repeat' first|(with_reducible first|refine zz ?_|refine zr ?_|refine zE [0,1,2,3,4,5,57,62,102,107,116] ?_)|simp -dsimp[hs]|refine zp (cJ (G:=G) _ _ _) ?_|refine i9 ?_ ?_<;>intro h<;>try simp only[i7] at h|with_reducible refine j0 ?_ ?_<;>intro h<;>have h0:=h<;>(try simp only[i7] at h)<;>have h2:=h<;>(try simp at h2)<;>replace hs:=za h0 (za h (za h2 hs))
 all_goals try clear hs
 all_goals first
  | (have hA2 : A = false := dx h12 (by clear h12 hA hw; omega)
     rw[hA2] at hA
     simp[n7,hA];done)
  | have hA2:A=true:=BA h12 (by clear h12 hA hw;omega)
    rw[hA2] at hA
    clear h12 hA2
    refine i6 (ι:={ k:Nat // k≤x.items.length∧E7 x.drawing 0 x.items=E7 x.drawing (pv x.items k) (x.items.drop k) }) (fun p=>⟨117,[(1,.one (.ptr 0 0)),(2,bv false),(3,iv (p.1:Int))],[.row ((e9 x).map .im)]⟩) (fun p=>x.items.length-p.1) ⟨0,by simp[pv]⟩ (zv [1,2,3] (by clear hA;simp_all)) ?_
    clear hw
    rintro⟨k,hk,hno⟩
    simp only[iv,e9,rI,List.map_cons,List.map_nil]
 all_goals
  by_cases hlt:k<x.items.length
  ·have hx:x.items[k]?=some x.items[k]:=by simp[hlt]
   have hw:=zk k
   have hst:=oh hlt hno
   by_cases hk0:0<k
   ·have hkx:x.items[k-1]?=some x.items[k-1]:=by simp
    have hw3:IntKind.i64.wrap ((k:Int)-1)=((k-1:Nat):Int):=by rw[o4 (by omega) (by omega)];omega
    have hpv0:pv x.items k=x.items[k-1].drawing:=by
     obtain⟨j,rfl⟩:∃ j,k=j+1:=⟨k-1,by omega⟩
     have:x.items[j]?=some x.items[j]:=by simp
     simp[pv,this]
    rw[hpv0] at hst
    have hs:=za hx (za hw (za hw3 (za hkx (za hk0 hlt))))
    repeat' first|(with_reducible first|refine zz ?_|refine zr ?_)|simp -dsimp[hs]|refine zq (cJ (G:=G) _ _ _) ?_|refine zM 7 117 33 [0,1,2,3,4,5,57,62,102,107,116] ?_|with_reducible refine zE [0,1,2,3,4,5,57,62,102,107,116] ?_|refine i9 ?_ ?_<;>intro h<;>try simp only[i7] at h|with_reducible refine j0 ?_ ?_<;>intro h<;>have h0:=h<;>(try simp only[i7] at h)<;>have h2:=h<;>(try simp at h2)<;>replace hs:=za h0 (za h (za h2 hs))
    all_goals try clear hs
    all_goals first
     | (have hf:=E3 hst (by omega);simp[n7,hf];done)
     | exact zn ⟨k+1,by omega,I0 hst (by omega)⟩ (zw [1,2,3] 1)
   ·obtain rfl:k=0:=by omega
    rw[show pv x.items 0=0 from rfl] at hst
    have hs:=za hx (za hw (za hk0 hlt))
    repeat' first|(with_reducible first|refine zz ?_|refine zr ?_)|simp -dsimp[hs]|refine zq (cJ (G:=G) _ _ _) ?_|refine zM 7 117 33 [0,1,2,3,4,5,57,62,102,107,116] ?_|with_reducible refine zE [0,1,2,3,4,5,57,62,102,107,116] ?_|refine i9 ?_ ?_<;>intro h<;>try simp only[i7] at h|with_reducible refine j0 ?_ ?_<;>intro h<;>have h0:=h<;>(try simp only[i7] at h)<;>have h2:=h<;>(try simp at h2)<;>replace hs:=za h0 (za h (za h2 hs))
    all_goals try clear hs
    all_goals first
     | (have hf:=E3 hst (by omega);simp[n7,hf];done)
     | exact zn ⟨0+1,by omega,I0 hst (by omega)⟩ (zw [1,2,3] 1 (by simp;exact o4 (by omega) (by omega)))
  ·have hit:E7 x.drawing 0 x.items=true:=by rw[hno,List.drop_eq_nil_of_le (by omega)];rfl
   have hs:=hlt
   repeat' first|(with_reducible first|refine zz ?_|refine zE [0,1,2,3,4,5,57,62,102,107,116] ?_)|simp -dsimp[hs]|refine i9 ?_ ?_<;>intro h<;>try simp only[i7] at h
   all_goals try clear hs
   refine i6 (ι:={ k:Nat // k≤x.dims.length∧x.dims.all I9=(x.dims.drop k).all I9 }) (fun p=>⟨117,[(1,.one (.ptr 0 0)),(2,bv false),(5,iv (p.1:Int))],[.row ((e9 x).map .im)]⟩) (fun p=>x.dims.length-p.1) ⟨0,by simp⟩ (zv [1,2,5]) ?_
   rintro⟨j,hj,hdo⟩
   simp only[iv,e9,rI,List.map_cons,List.map_nil]
   by_cases hlj:j<x.dims.length
   ·have hx:x.dims[j]?=some x.dims[j]:=by simp[hlj]
    have hw:=zk j
    have hst:=bD hlj hdo
    have cd:=HK (G:=G) x.dims[j]
    have hs:=za hx (za hw hlj)
    repeat' first|(with_reducible first|refine zz ?_|refine zr ?_|refine zE [0,1,2,3,4,5,57,62,102,107,116] ?_)|simp -dsimp[hs]|refine zp cd ?_|refine i9 ?_ ?_<;>intro h<;>try simp only[i7] at h
    all_goals try clear hs
    ·simp only[n7,hA,hit,Bool.true_and]
     exact E3 hst (by rw[‹I9 x.dims[j]=false›];exact Bool.false_ne_true)
    ·exact zn ⟨j+1,by omega,I0 hst ‹I9 x.dims[j]=true›⟩ (zv [1,2,5])
   ·have hdims:x.dims.all I9=true:=by rw[hdo,List.drop_eq_nil_of_le (by omega)];rfl
    have hs:=hlj
    repeat' first|(with_reducible first|refine zz ?_|refine zr ?_|refine zE [0,1,2,3,4,5,57,62,102,107,116] ?_)|simp -dsimp[hs]|refine i9 ?_ ?_<;>intro h<;>try simp only[i7] at h
    all_goals try clear hs
    simp[n7,hA,hit,hdims]
end Go.Proofs
namespace Go.Ab
open Go
@[simp] theorem Ii (L:List Int) (k:Nat) (v:Int):(l7 (L.map encI)).set k [DC.im (.raw (.int .i64 v))]=l7 ((L.set k v).map encI):=by
 simp only[l7,List.map_set,encI,rI,List.map_cons,List.map_nil]
@[simp] theorem Hy (L:List Int) (k:Nat):(l7 (L.map encI))[k]?=(L[k]?).map fun v=>[DC.im (.raw (.int .i64 v))]:=by
 simp only[l7,List.getElem?_map,Option.map_map];rfl
@[simp] theorem Hx (L:List Int) (k:Nat) (h:k<(l7 (L.map encI)).length):(l7 (L.map encI))[k]=[DC.im (.raw (.int .i64 (L[k]'(by simpa[q9] using h))))]:=by
 simp[l7]
@[simp] theorem Ic (n:Nat) (c:IC):List.replicate n [DC.im c]=l7 (List.replicate n [c]):=by simp[l7]
theorem jS {α β:Type} {f:α→β} {c:β} (h:∀ x,f x=c):∀ l:List α,l.map f=List.replicate l.length c
 | []=>rfl
 | x :: l=>by simp[jS h l,h x,List.replicate_succ]
@[simp] theorem BD (n:Nat) (c:List IC):(l7 (List.replicate n c)).take n=l7 (List.replicate n c):=List.take_of_length_le (by simp[q9])
theorem kW {α β:Type} {f:α→β} {l:List α} {k:Nat} {x:α} {v:β} (hn:l.Nodup) (hk:l[k]?=some x):(l.map f).set k v=l.map (fun y=>open Classical in if y=x then v else f y):=by
 refine List.ext_getElem? fun j=>?_
 obtain⟨hlt,he⟩:=List.getElem?_eq_some_iff.1 hk
 by_cases hj:j=k
 ·subst hj
  rw[List.getElem?_set_self (by simpa using hlt),List.getElem?_map,hk];simp
 ·rw[List.getElem?_set_ne (Ne.symm hj),List.getElem?_map,List.getElem?_map]
  cases hy:l[j]? with
  | none=>rfl
  | some y =>
    have:y≠x:=fun e=>hj ((List.getElem?_inj (List.getElem?_eq_some_iff.1 hy).1 hn).1 (by rw[hy,hk,e]))
    simp[this]
end Go.Ab
namespace Go.Proofs
open Go Go.Ab Tryz
variable {G:Kc}
def Rp (l:List Issue) (r:Nat) (pre:List Issue) (n:Int):Int:=if pre.any (fun x=>decide (x.drawing=n)) then 1+mx (Rr l r) (cI pre n) else 0
def Rq (l:List Issue) (r:Nat) (v:Int) (ys:List Itm):Int:=max (max v 1) (1+mx (Rr l r) (ys.map (·.drawing)))
theorem mM (f:Int→Int) (a b:List Int):mx f (a++b)=max (mx f a) (mx f b):=by
 rw[mx,List.foldl_append]
 exact be f b _ (T4 f a)
theorem FV (l:List Issue) (r:Nat) (v:Int):Rq l r v []=max v 1:=by
 have:mx (Rr l r) []=0:=rfl
 simp only[Rq,List.map_nil,this];omega
theorem Dv (l:List Issue) (r:Nat) (v:Int) (ys:List Itm) (y:Itm):Rq l r v (ys++[y])=max (Rq l r v ys) (1+Rr l r y.drawing):=by
 have h:=nC l r y.drawing
 have:mx (Rr l r) [y.drawing]=Rr l r y.drawing:=by simp only[mx,List.foldl_cons,List.foldl_nil];omega
 simp only[Rq,List.map_append,List.map_cons,List.map_nil,mM,this];omega
theorem Dw (l:List Issue) (r:Nat) (pre:List Issue) (x:Issue) (n:Int):Rp l r (pre++[x]) n=if n=x.drawing then Rq l r (Rp l r pre n) x.items else Rp l r pre n:=by
 by_cases hn:n=x.drawing
 ·subst hn
  rw[if_pos rfl]
  have hc:cI (pre++[x]) x.drawing=cI pre x.drawing++x.items.map (·.drawing):=by simp[cI,cT]
  have h1:=T4 (Rr l r) (cI pre x.drawing)
  have h2:=T4 (Rr l r) (x.items.map (·.drawing))
  unfold Rp
  rw[if_pos (by simp),hc,mM]
  unfold Rq
  split
  ·omega
  ·rename_i hp
   have:cI pre x.drawing=[]:=by
    simp only[cI,cT]
    rw[List.filter_eq_nil_iff.2 fun y hy=>?_]
    ·rfl
    ·intro he;exact hp (List.any_eq_true.2 ⟨y,hy,he⟩)
   have h3:mx (Rr l r) []=0:=rfl
   rw[this,h3];omega
 ·rw[if_neg hn]
  have hc:cI (pre++[x]) n=cI pre n:=by simp[cI,cT,Ne.symm hn]
  unfold Rp
  rw[hc]
  simp[Ne.symm hn]
theorem Dx {l:List Issue} {n:Int} (r:Nat) (h:∃ x∈l,x.drawing=n):Rp l r l n=Rr l (r+1) n:=by
 unfold Rp
 obtain⟨x,hx,he⟩:=h
 rw[if_pos (List.any_eq_true.2 ⟨x,hx,by simpa using he⟩)];rfl
theorem eK {x:Issue} (h:n7 x=true):x.items.length≤8∧x.dims.length≤4:=by
 simp only[n7,Bool.and_assoc] at h
 rw[← Bool.and_assoc,Bool.and_eq_true] at h
 have:=(dE x).1 h.1;omega
theorem pF {l:List Issue} {n:Int} (h:n∈nums l):∃ x∈l,x.drawing=n:=by
 have gen:∀ k,n∈F2 l k→∃ x∈l,x.drawing=n:=by
  intro k
  induction k with
  | zero=>intro h;cases h
  | succ k ih =>
    intro h
    simp only[F2] at h
    rcases List.mem_append.1 h with h|h
    ·exact ih h
    ·split at h
     ·rename_i x hx
      split at h
      ·rw[List.mem_singleton] at h
       exact⟨x,List.mem_of_getElem? hx,h.symm⟩
      ·cases h
     ·cases h
 exact gen _ h
theorem oa {l:List Issue} (h:s7 l=true):p5 none l=some (nums l):=by
 simp only[s7,Bool.and_eq_true] at h
 obtain⟨ds,hds⟩:=Option.isSome_iff_exists.1 h.1.1.2
 rw[hds,ij hds]
theorem lk {l:List Int} (hn:l.Nodup) {k:Nat} {x:Int} (h:l[k]?=some x):idx l x=k:=by
 refine ur h fun j hj he=>?_
 have h1:=(List.getElem?_eq_some_iff.1 h).1
 rw[← he] at h
 have:=(List.getElem?_inj h1 hn).1 h
 omega
theorem vj (l:List Issue) (hl:s7 l=true):zP prog G 266 [G9 l] (r7 (C4 l)):=by
 refine zf func266 ntmps266 ?_
 try simp only[G9]
 have hli:=hl
 simp only[s7,Bool.and_eq_true,decide_eq_true_eq,List.all_eq_true] at hli
 obtain⟨⟨⟨⟨hl1,hl60⟩,hsc⟩,hitems⟩,hn20⟩:=hli
 have c1:=iC (G:=G) l (by omega)
 have hD:C4 l=(nums l).map (Rr l ((nums l).length+1)):=rfl
 obtain⟨_,hlt',hmem,hok,_⟩:=N5 (oa hl)
 have hnd:(nums l).Nodup:=hlt'.imp fun h=>Int.ne_of_lt h
 generalize hns:nums l=ns at *
 have hs:=trivial
 repeat' first|(with_reducible first|refine zz ?_|refine And.intro (by omega) ?_|refine zE [0,1,2,3,4,5,6,7,8,9,10,19,29,53] ?_)|simp -dsimp[hs]|refine zp c1 ?_
 refine i6 (ι:={ r:Nat // r≤ns.length+1 }) (fun p=>⟨78,[(1,.one (.ptr 0 0)),(3,r7 ns),(4,r7 (ns.map (Rr l p.1))),(5,iv (p.1:Int))],[.row [.im (.sl (l.map e9))]]⟩) (fun p=>ns.length+1-p.1) ⟨0,by omega⟩ (zw [1,3,4,5] 1 (by simp[jS (f:=encI ∘ Rr l 0) (c:=[rI 0]) (fun _=>rfl)])) ?_
 rintro⟨r,hr⟩
 simp only[iv,r7]
 by_cases hrl:r≤ns.length
 ·have hw:=zk r
  have hs:=hrl
  repeat' first|(with_reducible first|refine zz ?_|refine And.intro (by omega) ?_|refine zE [0,1,2,3,4,5,6,7,8,9,10,19,29,53] ?_)|simp -dsimp[hs]|refine i9 ?_ ?_<;>intro h<;>try simp only[i7] at h
  refine i6 (ι:={ p:Nat×List Int // p.1≤l.length∧p.2=ns.map (Rp l r (l.take p.1)) }) (fun p=>⟨78,[(1,.one (.ptr 0 0)),(3,r7 ns),(4,r7 (ns.map (Rr l r))),(5,iv (r:Int)),(6,.one (.vec 1 0 0 ns.length)),(7,iv (p.1.1:Int))],[.row [.im (.sl (l.map e9))],.vec 1 (l7 (p.1.2.map encI)) 0 false]⟩) (fun p=>l.length-p.1.1) ⟨(0,List.replicate ns.length 0),by omega,(jS (fun _=>rfl) ns).symm⟩ (zv [1,3,4,5,6,7]) ?_
  rintro⟨⟨i,L⟩,hi,hL⟩
  simp only at hi hL
  simp only[iv,r7]
  by_cases hlt:i<l.length
  ·have hx:l[i]?=some l[i]:=by simp[hlt]
   have hw1:=zk i
   obtain⟨k,hk⟩:=List.mem_iff_getElem?.1 (hmem l[i] (List.getElem_mem hlt))
   have hkl:=e7 hk
   have hidx:=lk hnd hk
   have c2:=oo (G:=G) ns l[i].drawing (by omega)
   rw[hidx] at c2
   have hLk:L[k]?=some (Rp l r (l.take i) l[i].drawing):=by rw[hL,List.getElem?_map,hk];rfl
   generalize hv:Rp l r (l.take i) l[i].drawing=v at hLk
   have hit:=hitems l[i] (List.getElem_mem hlt)
   have hsm:=(eK (hok l[i] (List.getElem_mem hlt))).1
   have hs:=za hx (za hw1 (za hlt (za hkl hLk)))
   repeat' first|(with_reducible first|refine zz ?_|refine zE [0,1,2,3,4,5,6,7,8,9,10,19,29,53] ?_)|simp -dsimp[hs]|refine zp c2 ?_|refine i9 ?_ ?_<;>intro h<;>try simp only[i7] at h
   refine i6 (ι:={ p:Nat×List Int // p.1≤l[i].items.length∧p.2=L.set k (Rq l r v (l[i].items.take p.1)) }) (fun p=>⟨78,[(1,.one (.ptr 0 0)),(3,r7 ns),(4,r7 (ns.map (Rr l r))),(5,iv (r:Int)),(6,.one (.vec 1 0 0 ns.length)),(7,iv (i:Int)),(8,.one (.ptr 4 0)),(9,iv (k:Int)),(10,iv (p.1.1:Int))],[.row [.im (.sl (l.map e9))],.vec 1 (l7 (p.1.2.map encI)) 0 false,.vec 0 [] 0 true,.vec 0 [] 0 true,.row ((e9 l[i]).map .im)]⟩) (fun p=>l[i].items.length-p.1.1) ⟨(0,L.set k (max v 1)),by omega,by simp only[List.take_zero,FV]⟩ (zv [1,3,4,5,6,7,8,9,10]) ?_
   rintro⟨⟨u,L'⟩,hu,hL'⟩
   simp only at hu hL'
   simp only[iv,r7,e9,rI,List.map_cons,List.map_nil]
   have hkL:k<L.length:=e7 hLk
   by_cases hlu:u<l[i].items.length
   ·have hy:l[i].items[u]?=some l[i].items[u]:=by simp[hlu]
    have hw2:=zk u
    obtain⟨m,hm⟩:=List.mem_iff_getElem?.1 (hit l[i].items[u] (List.getElem_mem hlu))
    have hml:=e7 hm
    have hmn:ns[m]=l[i].items[u].drawing:=(List.getElem?_eq_some_iff.1 hm).2
    have hidx2:=lk hnd hm
    have c3:=oo (G:=G) ns l[i].items[u].drawing (by omega)
    rw[hidx2] at c3
    have hLk':L'[k]?=some (Rq l r v (l[i].items.take u)):=by rw[hL',List.getElem?_set_self hkL]
    have hb1:=nC l r l[i].items[u].drawing
    have hb2:=Ba l r l[i].items[u].drawing
    have hw3:IntKind.i64.wrap (1+Rr l r l[i].items[u].drawing)=1+Rr l r l[i].items[u].drawing:=o4 (by omega) (by omega)
    have hnext:L'.set k (max (Rq l r v (l[i].items.take u)) (1+Rr l r l[i].items[u].drawing))=L.set k (Rq l r v (l[i].items.take (u+1))):=by
     rw[List.take_succ_eq_append_getElem hlu,Dv,hL',List.set_set]
    have hs:=za hy (za hw2 (za hlu (za hkl (za hLk' (za hm (za hml (za hmn hw3)))))))
    repeat' first|with_reducible refine zz ?_|simp -dsimp[hs]|refine zq c3 ?_|refine zM 16 78 20 [0,1,2,3,4,5,6,7,8,9,10,19,29,53] ?_|with_reducible refine zE [0,1,2,3,4,5,6,7,8,9,10,19,29,53] ?_|refine i9 ?_ ?_<;>intro h<;>try simp only[i7] at h
    exact zn ⟨(u+1,L'.set k (max (Rq l r v (l[i].items.take u)) (1+Rr l r l[i].items[u].drawing))),by omega,hnext⟩ (zv [1,3,4,5,6,7,8,9,10])
   ·have hend:L'=ns.map (Rp l r (l.take (i+1))):=by
     rw[hL',List.take_of_length_le (by omega),hL,kW hnd hk]
     refine List.map_congr_left fun n _=>?_
     rw[List.take_succ_eq_append_getElem hlt,Dw]
     split
     ·rename_i e;rw[e,hv]
     ·rfl
    have hs:=za hlu hw1
    repeat' first|(with_reducible first|refine zz ?_|refine zE [0,1,2,3,4,5,6,7,8,9,10,19,29,53] ?_)|simp -dsimp[hs]|refine i9 ?_ ?_<;>intro h<;>try simp only[i7] at h
    exact zn ⟨(i+1,L'),by omega,hend⟩ (zw [1,3,4,5,6,7] 2)
  ·have hend:L=ns.map (Rr l (r+1)):=by
    rw[hL,List.take_of_length_le (by omega)]
    refine List.map_congr_left fun n hn=>Dx r ?_
    rw[← hns] at hn
    exact pF hn
   have hLn:L.length=ns.length:=by rw[hL,List.length_map]
   have hs:=za hlt hw
   repeat' first|(with_reducible first|refine zz ?_|refine zE [0,1,2,3,4,5,6,7,8,9,10,19,29,53] ?_)|simp -dsimp[hs]|refine i9 ?_ ?_<;>intro h<;>try simp only[i7] at h
   exact zn ⟨r+1,by omega⟩ (zw [1,3,4,5] 1 (by simp[← hLn];rw[hend];simp))
 ·have hs:=hrl
  repeat' first|(with_reducible first|refine zz ?_|refine zr ?_|refine zE [0,1,2,3,4,5,6,7,8,9,10,19,29,53] ?_)|simp -dsimp[hs]|refine i9 ?_ ?_<;>intro h<;>try simp only[i7] at h
  have hr1:r=ns.length+1:=by omega
  rw[hD,hr1];simp
theorem iq (x:Issue) (r:List Issue):(p5 none (x :: r)).isSome=true↔(n7 x=true∧x.letter=1)∧(p5 (some x) r).isSome=true:=by
 simp only[p5]
 by_cases h1:n7 x=false
 ·simp[h1]
 ·by_cases h2:x.letter=1
  ·simp[h1,h2]
  ·simp[h1,h2]
theorem ik (y x:Issue) (r:List Issue):(p5 (some y) (x :: r)).isSome=true↔(n7 x=true∧(y.drawing=x.drawing∧y.letter+1=x.letter∧y.kind=x.kind∨y.drawing<x.drawing∧x.letter=1))∧(p5 (some x) r).isSome=true:=by
 simp only[p5]
 by_cases h1:n7 x=false
 ·simp[h1]
 ·have h1':n7 x=true:=by simpa using h1
  by_cases hd:y.drawing=x.drawing
  ·have hlt:¬ x.drawing<x.drawing:=by omega
   by_cases h2:y.letter+1=x.letter<;>by_cases h3:y.kind=x.kind<;>simp[h1',hd,h2,h3]
  ·by_cases hg:y.drawing > x.drawing
   ·have:¬ y.drawing<x.drawing:=by omega
    simp[h1',hd,hg,this]
   ·have:y.drawing<x.drawing:=by omega
    by_cases h2:x.letter=1<;>simp[h1',hd,hg,h2,this]
theorem CD {l:List Int} {x:Int} (h:x∉l):idx l x=-1:=zA fun j _ he=>h (List.mem_of_getElem? he)
theorem sE {l:List Int} {x:Int} (h:x∈l):0≤idx l x:=by
 unfold idx
 cases hh:l.idxOf? x with
 | none =>
   rw[List.idxOf?,List.findIdx?_eq_none_iff] at hh
   have:=hh x h;simp at this
 | some i=>simp
theorem CE (l:List Int) (x:Int):idx l x<0↔x∉l:=by
 constructor
 ·intro h hm;have:=sE hm;omega
 ·intro h;rw[CD h];omega
theorem aL {l:List Issue} (h:(p5 none l).isSome=false):s7 l=false:=by simp[s7,h]
theorem yQ (l:List Issue) (hs:U4 l):zP prog G 265 [G9 l] (bv (s7 l)):=by
 refine zf func265 ntmps265 ?_
 try simp only[G9]
 have hl80:=hs.1
 by_cases hrange:1≤l.length∧l.length≤60
 ·have d1:decide ((1:Int)≤(l.length:Int))=true:=by simp;omega
  have d2:decide ((l.length:Int)≤60)=true:=by simp;omega
  have c0:=cJ (G:=G) (l.length:Int) 1 60
  rw[d1,d2] at c0
  have hs:=trivial
  repeat' first|(with_reducible first|refine zz ?_|refine zE [0,1,2,3,4,5,6,7,8,13,18,28,31,38,44,52,53,73,84,99] ?_)|simp -dsimp[hs]|refine zp c0 ?_|refine i9 ?_ ?_<;>intro h<;>try simp only[i7] at h
  all_goals try clear hs
  refine i6 (ι:={ i:Nat // i≤l.length∧(p5 none l).isSome=(p5 (I4 l i) (l.drop i)).isSome∧∀ x∈l.take i,n7 x=true }) (fun p=>⟨103,[(1,.one (.ptr 0 0)),(2,bv false),(3,iv (p.1:Int))],[.row [.im (.sl (l.map e9))]]⟩) (fun p=>l.length-p.1) ⟨0,by simp[I4]⟩ (zv [1,2,3]) ?_
  rintro⟨i,hi,hscan,hok⟩
  simp only[iv]
  by_cases hlt:i<l.length
  ·have hx:l[i]?=some l[i]:=by simp[hlt]
   have hw:=zk i
   have hsm:=hs.2 l[i] (List.getElem_mem hlt)
   have c1:=Cv (G:=G) l[i] ⟨hsm.1,hsm.2.1⟩ (by omega) (by omega)
   rw[List.drop_eq_getElem_cons hlt] at hscan
   have hnext:I4 l (i+1)=some l[i]:=by simp[I4]
   cases hq:n7 l[i]
   ·rw[hq] at c1
    have hf:s7 l=false:=aL (by
     rw[hscan]
     cases I4 l i with
     | none=>exact E3 (iq l[i] _) (by simp[hq])
     | some y=>exact E3 (ik y l[i] _) (by simp[hq]))
    have hs:=za hx hlt
    repeat' first|(with_reducible first|refine zz ?_|refine zr ?_|refine zE [0,1,2,3,4,5,6,7,8,13,18,28,31,38,44,52,53,73,84,99] ?_)|simp -dsimp[hs]|refine zp c1 ?_|refine i9 ?_ ?_<;>intro h<;>try simp only[i7] at h
    all_goals try clear hs
    simp[hf]
   ·rw[hq] at c1
    have hokn:∀ x∈l.take (i+1),n7 x=true:=by
     rw[List.take_succ_eq_append_getElem hlt]
     intro x hx
     rcases List.mem_append.1 hx with h|h
     ·exact hok x h
     ·simp at h;rw[h];exact hq
    have hdr:1≤l[i].drawing:=by
     simp only[n7,Bool.and_assoc] at hq
     rw[← Bool.and_assoc,Bool.and_eq_true] at hq
     have:=(dE _).1 hq.1;omega
    by_cases hi0:i=0
    ·subst hi0
     have hst:=iq l[0] (l.drop 1)
     simp only[I4] at hscan
     rw[Nat.zero_add] at hscan
     rw[← hscan] at hst
     have hs:=za hx (za hlt hw)
     repeat' first|(with_reducible first|refine zz ?_|refine zr ?_|refine zE [0,1,2,3,4,5,6,7,8,13,18,28,31,38,44,52,53,73,84,99] ?_)|simp -dsimp[hs]|refine zp c1 ?_|refine i9 ?_ ?_<;>intro h<;>try simp only[i7] at h|with_reducible refine j0 ?_ ?_<;>intro h<;>have h0:=h<;>(try simp only[i7] at h)<;>have h2:=h<;>(try simp at h2)<;>replace hs:=za h0 (za h (za h2 hs))
     all_goals try clear hs
     all_goals first
      | (exfalso;omega)
      | (have hf:=aL (E3 hst (by omega));simp[hf];done)
      | exact zn ⟨1,by omega,by rw[hnext];exact I0 hst ⟨hq,by omega⟩,hokn⟩ (zw [1,2,3] 1 (by simp;exact o4 (by omega) (by omega)))
    ·obtain⟨m,rfl⟩:∃ m,i=m+1:=⟨i-1,by omega⟩
     have hy:l[m]?=some l[m]:=by simp
     have hw1:IntKind.i64.wrap (((m+1:Nat):Int)-1)=m:=o4 (by omega) (by omega) |>.trans (by omega)
     have hw2:IntKind.i64.wrap (m:Int)=m:=o4 (by omega) (by omega)
     have hoky:=hok l[m] (List.mem_take_iff_getElem.2 ⟨m,by omega,rfl⟩)
     have hlet:1≤l[m].letter∧l[m].letter≤8:=by simp[n7,Ak] at hoky;omega
     have hwl:IntKind.i64.wrap (l[m].letter+1)=l[m].letter+1:=o4 (by omega) (by omega)
     have hst:=ik l[m] l[m+1] (l.drop (m+1+1))
     simp only[I4,hy] at hscan
     rw[← hscan] at hst
     have hpos:(0:Int)<(m:Int)+1:=by omega
     have hlt2:(m:Int)+1<(l.length:Int):=by omega
     have hge:(0:Int)≤(m:Int)+1:=by omega
     have hs:=za hge (za hx (za hlt (za hlt2 (za hw (za hy (za hw1 (za hw2 (za hwl hpos))))))))
     repeat' first|(with_reducible first|refine zz ?_|refine zr ?_|refine zE [0,1,2,3,4,5,6,7,8,13,18,28,31,38,44,52,53,73,84,99] ?_)|simp -dsimp[hs]|refine zp c1 ?_|refine i9 ?_ ?_<;>intro h<;>try simp only[i7] at h|with_reducible refine j0 ?_ ?_<;>intro h<;>have h0:=h<;>(try simp only[i7] at h)<;>have h2:=h<;>(try simp at h2)<;>replace hs:=za h0 (za h (za h2 hs))
     all_goals try clear hs
     all_goals first
      | (exfalso;omega)
      | (have hf:=aL (E3 hst (by omega));simp[hf];done)
      | exact zn ⟨m+1+1,by omega,by rw[hnext];exact I0 hst ⟨hq,by omega⟩,hokn⟩ (zw [1,2,3] 1 (by simp;try exact o4 (by omega) (by omega)))
  ·have hsome:(p5 none l).isSome=true:=by
    rw[hscan,List.drop_eq_nil_of_le (by omega)]
    cases I4 l i<;>rfl
   have c2:=iC (G:=G) l (by omega)
   have hE:s7 l=(l.all (fun x=>x.items.all fun y=>decide (y.drawing∈nums l))&&decide ((nums l).length≤20)):=by
    simp[s7,hsome,hrange]
   have hnl:(nums l).length≤l.length:=u6 l l.length
   generalize nums l=ns at *
   have hs:=hlt
   repeat' first|(with_reducible first|refine zz ?_|refine zE [0,1,2,3,4,5,6,7,8,13,18,28,31,38,44,52,53,73,84,99] ?_)|simp -dsimp[hs]|refine zp c2 ?_|refine i9 ?_ ?_<;>intro h<;>try simp only[i7] at h
   all_goals try clear hs
   refine i6 (ι:={ i:Nat // i≤l.length∧l.all (fun x=>x.items.all fun y=>decide (y.drawing∈ns))=(l.drop i).all (fun x=>x.items.all fun y=>decide (y.drawing∈ns)) }) (fun p=>⟨103,[(1,.one (.ptr 0 0)),(2,bv false),(6,r7 ns),(7,iv (p.1:Int))],[.row [.im (.sl (l.map e9))]]⟩) (fun p=>l.length-p.1) ⟨0,by simp⟩ (zw [1,2,6,7] 1) ?_
   clear hscan hok
   rintro⟨k,hk,hall⟩
   simp only[iv,r7]
   by_cases hlk:k<l.length
   ·have hx:l[k]?=some l[k]:=by simp[hlk]
    have hw:=zk k
    have hst:=bD hlk hall
    have hsm:=hs.2 l[k] (List.getElem_mem hlk)
    have hs:=za hx (za hlk hw)
    repeat' first|(with_reducible first|refine zz ?_|refine zE [0,1,2,3,4,5,6,7,8,13,18,28,31,38,44,52,53,73,84,99] ?_)|simp -dsimp[hs]|refine i9 ?_ ?_<;>intro h<;>try simp only[i7] at h
    all_goals try clear hs
    refine i6 (ι:={ u:Nat // u≤l[k].items.length∧l[k].items.all (fun y=>decide (y.drawing∈ns))=(l[k].items.drop u).all (fun y=>decide (y.drawing∈ns)) }) (fun p=>⟨103,[(1,.one (.ptr 0 0)),(2,bv false),(6,r7 ns),(7,iv (k:Int)),(8,iv (p.1:Int))],[.row [.im (.sl (l.map e9))]]⟩) (fun p=>l[k].items.length-p.1) ⟨0,by simp⟩ (zv [1,2,6,7,8]) ?_
    rintro⟨u,hu,hall2⟩
    simp only[iv,r7]
    by_cases hlu:u<l[k].items.length
    ·have hy:l[k].items[u]?=some l[k].items[u]:=by simp[hlu]
     have hw2:=zk u
     have c3:=oo (G:=G) ns l[k].items[u].drawing (by omega)
     have hm:=CE ns l[k].items[u].drawing
     have hst2:=bD hlu hall2
     generalize idx ns l[k].items[u].drawing=z at c3 hm
     have hs:=za hx (za hlk (za hy (za hlu hw2)))
     repeat' first|(with_reducible first|refine zz ?_|refine zr ?_|refine zE [0,1,2,3,4,5,6,7,8,13,18,28,31,38,44,52,53,73,84,99] ?_)|simp -dsimp[hs]|refine zp c3 ?_|refine i9 ?_ ?_<;>intro h<;>try simp only[i7] at h
     all_goals try clear hs
     ·have hn:=hm.1 ‹z<0›
      have h1:=E3 hst2 (by simpa using hn)
      have h2:=E3 hst (by rw[h1];exact Bool.false_ne_true)
      rw[hE,h2];rfl
     ·have hn:l[k].items[u].drawing∈ns:=Classical.byContradiction fun hn=>absurd (hm.2 hn) ‹_›
      exact zn ⟨u+1,by omega,I0 hst2 (by simpa using hn)⟩ (zv [1,2,6,7,8])
    ·have h1:l[k].items.all (fun y=>decide (y.drawing∈ns))=true:=by rw[hall2,List.drop_eq_nil_of_le (by omega)];rfl
     have hs:=za hx (za hlk (za hlu hw))
     repeat' first|(with_reducible first|refine zz ?_|refine zE [0,1,2,3,4,5,6,7,8,13,18,28,31,38,44,52,53,73,84,99] ?_)|simp -dsimp[hs]|refine i9 ?_ ?_<;>intro h<;>try simp only[i7] at h
     all_goals try clear hs
     exact zn ⟨k+1,by omega,I0 hst h1⟩ (zv [1,2,6,7])
   ·have h1:l.all (fun x=>x.items.all fun y=>decide (y.drawing∈ns))=true:=by rw[hall,List.drop_eq_nil_of_le (by omega)];rfl
    rw[h1,Bool.true_and] at hE
    have hs:=hlk
    repeat' first|(with_reducible first|refine zz ?_|refine zr ?_|refine zE [0,1,2,3,4,5,6,7,8,13,18,28,31,38,44,52,53,73,84,99] ?_)|simp -dsimp[hs]|refine i9 ?_ ?_<;>intro h<;>try simp only[i7] at h
    all_goals try clear hs
    rw[hE];simp;omega
 ·have hf:s7 l=false:=by simp only[s7];rw[decide_eq_false hrange];rfl
  have c0:=cJ (G:=G) (l.length:Int) 1 60
  have hd:(decide ((1:Int)≤(l.length:Int))&&decide ((l.length:Int)≤60))=false:=by simp;omega
  rw[hd] at c0
  have hs:=trivial
  repeat' first|(with_reducible first|refine zz ?_|refine zr ?_|refine zE [0,1,2,3,4,5,6,7,8,13,18,28,31,38,44,52,53,73,84,99] ?_)|simp -dsimp[hs]|refine zp c0 ?_|refine i9 ?_ ?_<;>intro h<;>try simp only[i7] at h
  all_goals try clear hs
  simp[hf]
theorem se {l:List Int} {k:Nat} (hlt:k<l.length) (a:Int) (h:X4 l=(l.drop k).foldl max a):X4 l=(l.drop (k+1)).foldl max (max a l[k]):=by
 rw[h,List.drop_eq_getElem_cons hlt,List.foldl_cons]
theorem yj (l:List Issue) (hs:U4 l):zP prog G 217 [G9 l] (iv (l4 l)):=by
 refine zf func217 ntmps217 ?_
 try simp only[G9]
 have c1:=yQ (G:=G) l hs
 cases hL:s7 l
 ·rw[hL] at c1
  have hs:=trivial
  repeat' first|(with_reducible first|refine zz ?_|refine zr ?_|refine zE [0,1,2,3,4,5,8,14,23,28] ?_)|simp -dsimp[hs]|refine zp c1 ?_|refine i9 ?_ ?_<;>intro h<;>try simp only[i7] at h
  all_goals try clear hs
  simp[l4,hL]
 ·rw[hL] at c1
  have c2:=vj (G:=G) l hL
  have hlen:(C4 l).length≤80:=by
   have:=u6 l l.length
   have:=hs.1
   simp only[C4,List.length_map,nums];omega
  have hE:l4 l=if X4 (C4 l) > (C4 l).length then 21 else if X4 (C4 l) > 6 then 20 else 0:=by simp[l4,hL]
  generalize C4 l=D at c2 hE hlen
  have hs:=trivial
  repeat' first|(with_reducible first|refine zz ?_|refine zE [0,1,2,3,4,5,8,14,23,28] ?_)|simp -dsimp[hs]|refine zp c1 ?_|refine zp c2 ?_|refine i9 ?_ ?_<;>intro h<;>try simp only[i7] at h
  all_goals try clear hs
  refine i6 (ι:={ p:Nat×Int // p.1≤D.length∧X4 D=(D.drop p.1).foldl max p.2 }) (fun p=>⟨31,[(1,.one (.ptr 0 0)),(2,iv 0),(3,r7 D),(4,iv p.1.2),(5,iv (p.1.1:Int))],[.row [.im (.sl (l.map e9))]]⟩) (fun p=>D.length-p.1.1) ⟨(0,0),by simp[X4]⟩ (zv [1,2,3,4,5]) ?_
  rintro⟨⟨k,a⟩,hk,ha⟩
  simp only at hk ha
  simp only[iv,r7]
  by_cases hlt:k<D.length
  ·have hx:D[k]?=some D[k]:=by simp[hlt]
   have hw:=zk k
   have hs:=za hx (za hw hlt)
   repeat' first|(with_reducible first|refine zz ?_|refine zE [0,1,2,3,4,5,8,14,23,28] ?_)|simp -dsimp[hs]|refine i9 ?_ ?_<;>intro h<;>try simp only[i7] at h
   all_goals try clear hs
   exact zn ⟨(k+1,max a D[k]),by omega,se hlt a ha⟩ (zv [1,2,3,4,5])
  ·have ha':X4 D=a:=by rw[ha,List.drop_eq_nil_of_le (by omega)];rfl
   rw[ha'] at hE
   have hs:=hlt
   repeat' first|(with_reducible first|refine zz ?_|refine zr ?_|refine zE [0,1,2,3,4,5,8,14,23,28] ?_)|simp -dsimp[hs]|refine i9 ?_ ?_<;>intro h<;>try simp only[i7] at h
   all_goals try clear hs
   all_goals rw[hE]
   ·rw[if_pos (by omega)]
   ·rw[if_neg (by omega),if_pos (by omega)]
   ·rw[if_neg (by omega),if_neg (by omega)]
def Z5 (l:List Issue) (d:Int):Int:=l.foldl (fun n x=>if x.drawing=d then max n x.letter else n) 0
theorem yU (l:List Issue) (d:Int) (hl:l.length<1000000):zP prog G 166 [G9 l,iv d] (iv (Z5 l d)):=by
 refine zf func166 ntmps166 ?_
 try simp only[G9,iv]
 have hs:=trivial
 repeat' first|(with_reducible first|refine zz ?_|refine zE [0,1,2,4,5,6,11,21] ?_)|simp -dsimp[hs]
 refine i6 (ι:={ p:Nat×Int // p.1≤l.length∧Z5 l d=(l.drop p.1).foldl (fun n x=>if x.drawing=d then max n x.letter else n) p.2 }) (fun p=>⟨31,[(1,iv d),(2,.one (.ptr 0 0)),(5,iv p.1.2),(6,iv (p.1.1:Int))],[.row [.im (.sl (l.map e9))]]⟩) (fun p=>l.length-p.1.1) ⟨(0,0),by simp[Z5]⟩ (zv [1,2,5,6]) ?_
 rintro⟨⟨k,a⟩,hk,ha⟩
 simp only at hk ha
 simp only[iv]
 by_cases hlt:k<l.length
 ·have hx:l[k]?=some l[k]:=by simp[hlt]
  have hw:=zk k
  rw[List.drop_eq_getElem_cons hlt,List.foldl_cons] at ha
  have hs:=za hx (za hw hlt)
  repeat' first|(with_reducible first|refine zz ?_|refine zE [0,1,2,4,5,6,11,21] ?_)|simp -dsimp[hs]|refine i9 ?_ ?_<;>intro h<;>try simp only[i7] at h
  ·exact zn ⟨(k+1,max a l[k].letter),by omega,by rw[ha,if_pos ‹_›]⟩ (zv [1,2,5,6])
  ·exact zn ⟨(k+1,a),by omega,by rw[ha,if_neg ‹_›]⟩ (zv [1,2,5,6])
 ·have ha':Z5 l d=a:=by rw[ha,List.drop_eq_nil_of_le (by omega)];rfl
  have hs:=hlt
  repeat' first|(with_reducible first|refine zz ?_|refine zr ?_|refine zE [0,1,2,4,5,6,11,21] ?_)|simp -dsimp[hs]|refine i9 ?_ ?_<;>intro h<;>try simp only[i7] at h
  rw[ha']
def dg (l:List Issue) (p:Int×Int):Bool:=decide (1≤p.2)&&decide (p.2≤Z5 l p.1)
def v7 (l:List Issue) (lets:List Int):Bool:=decide (lets.length=(nums l).length)&&((nums l).zip lets).all (dg l)
def u7 (l:List Issue) (lets:List Int) (d:Int):Issue:=(o7 l d ((lets[(idx (nums l) d).toNat]?).getD 0)).getD M9
end Go.Proofs
namespace Go.Proofs
open Go Go.Ab
theorem nh {l:List Issue} {d lt:Int} {y:Issue} (h:o7 l d lt=some y):y∈l∧y.drawing=d∧y.letter=lt:=by
 have h1:=List.find?_some h
 have h2:=List.mem_of_find?_eq_some h
 simp only[Bool.and_eq_true,beq_iff_eq] at h1
 exact⟨h2,h1.1,h1.2⟩
theorem zU (l:List Issue) (d lt:Int):(o7 l d lt).isSome=true↔∃ x∈l,x.drawing=d∧x.letter=lt:=by
 simp[o7,List.find?_isSome]
theorem fR:∀ (r:List Issue) (p:Option Issue) (ds:List Int),p5 p r=some ds→∀ x∈r,x.letter=1∨∃ y,(p=some y∨y∈r)∧y.drawing=x.drawing∧y.letter+1=x.letter
 | [],_,_,_,x,hx=>by cases hx
 | z :: r,p,ds,h,x,hx=>by
   have hs:(p5 p (z :: r)).isSome=true:=by rw[h];rfl
   obtain⟨ds',h1,_,_⟩:=dP h
   rcases List.mem_cons.1 hx with rfl|hx
   ·cases p with
    | none=>exact .inl ((iq x r).1 hs).1.2
    | some y =>
      rcases ((ik y x r).1 hs).1.2 with⟨a,b,_⟩|⟨_,b⟩
      ·exact .inr ⟨y,.inl rfl,a,b⟩
      ·exact .inl b
   ·rcases fR r (some z) ds' h1 x hx with h2|⟨y,h2,h3,h4⟩
    ·exact .inl h2
    ·refine .inr ⟨y,.inr ?_,h3,h4⟩
     rcases h2 with h2|h2
     ·cases h2;simp
     ·simp[h2]
theorem jx {l:List Issue} (hs:p5 none l=some (nums l)):∀ (k:Nat) (x:Issue),x∈l→x.letter=k+1→∀ j:Int,1≤j→j≤k+1→∃ y∈l,y.drawing=x.drawing∧y.letter=j
 | 0,x,hx,hk,j,h1,h2=>⟨x,hx,rfl,by omega⟩
 | k+1,x,hx,hk,j,h1,h2=>by
   by_cases hj:j=k+1+1
   ·exact⟨x,hx,rfl,by omega⟩
   ·rcases fR l none _ hs x hx with h|⟨y,hy,h3,h4⟩
    ·omega
    ·rcases hy with hy|hy
     ·cases hy
     ·obtain⟨z,hz,h5,h6⟩:=jx hs k y hy (by omega) j h1 (by omega)
      exact⟨z,hz,by omega,h6⟩
theorem dh (d:Int):∀ (l:List Issue) (a:Int),a≤l.foldl (fun n x=>if x.drawing=d then max n x.letter else n) a∧(∀ x∈l,x.drawing=d→x.letter≤l.foldl (fun n x=>if x.drawing=d then max n x.letter else n) a) ∧
 (l.foldl (fun n x=>if x.drawing=d then max n x.letter else n) a=a∨∃ x∈l,x.drawing=d∧x.letter=l.foldl (fun n x=>if x.drawing=d then max n x.letter else n) a)
 | [],a=>by simp
 | y :: l,a=>by
   obtain⟨h1,h2,h3⟩:=dh d l (if y.drawing=d then max a y.letter else a)
   simp only[List.foldl_cons]
   have h0:a≤(if y.drawing=d then max a y.letter else a):=by split<;>omega
   refine⟨by omega,fun x hx hd=>?_,?_⟩
   ·rcases List.mem_cons.1 hx with rfl|hx
    ·rw[if_pos hd] at h1 ⊢;omega
    ·exact h2 x hx hd
   ·rcases h3 with h3|⟨x,hx,hd,he⟩
    ·by_cases hy:y.drawing=d
     ·rw[if_pos hy] at h3 ⊢
      by_cases hm:a≤y.letter
      ·exact .inr ⟨y,by simp,hy,by omega⟩
      ·exact .inl (by omega)
     ·rw[if_neg hy] at h3 ⊢
      exact .inl h3
    ·exact .inr ⟨x,by simp[hx],hd,he⟩
theorem dq {l:List Issue} (h:l4 l=0) (d lt:Int):(o7 l d lt).isSome=true↔1≤lt∧lt≤Z5 l d:=by
 have hs:=K8 (I1 h)
 obtain⟨_,_,_,hok,_⟩:=N5 hs
 obtain⟨h1,h2,h3⟩:=dh d l 0
 have hlet:∀ x∈l,1≤x.letter:=fun x hx=>by
  have:=hok x hx
  simp only[n7,Bool.and_assoc] at this
  rw[← Bool.and_assoc,Bool.and_eq_true] at this
  have:=(dE x).1 this.1;omega
 rw[zU]
 constructor
 ·rintro⟨x,hx,rfl,rfl⟩
  exact⟨hlet x hx,h2 x hx rfl⟩
 ·rintro⟨a,b⟩
  rcases h3 with h3|⟨x,hx,hd,he⟩
  ·simp only[Z5] at b;omega
  ·have hx1:=hlet x hx
   obtain⟨y,hy,h5,h6⟩:=jx hs (x.letter-1).toNat x hx (by omega) lt a (by simp only[Z5] at b;omega)
   exact⟨y,hy,by omega,h6⟩
theorem dL {l:List Issue} {lets:List Int} {d:Int} (h:l4 l=0) (hl:v7 l lets=true) (hd:d∈nums l):u7 l lets d∈l∧(u7 l lets d).drawing=d∧∃ (k:Nat) (lt:Int),(nums l)[k]?=some d∧lets[k]?=some lt∧o7 l d lt=some (u7 l lets d):=by
 simp only[v7,Bool.and_eq_true,decide_eq_true_eq] at hl
 obtain⟨h1,h2⟩:=hl
 obtain⟨hlt,_⟩:=E4 h
 obtain⟨k,hk⟩:=List.mem_iff_getElem?.1 hd
 have hnd:(nums l).Nodup:=hlt.imp fun h=>Int.ne_of_lt h
 have hkl:=e7 hk
 have hy:lets[k]?=some lets[k]:=by simp[h1,hkl]
 have hz:((nums l).zip lets)[k]?=some (d,lets[k]):=by
  rw[List.getElem?_zip_eq_some];exact⟨hk,hy⟩
 have hok:=List.all_eq_true.1 h2 _ (List.mem_of_getElem? hz)
 simp only[dg,Bool.and_eq_true,decide_eq_true_eq] at hok
 have hf:=(dq h d lets[k]).2 hok
 obtain⟨y,hy'⟩:=Option.isSome_iff_exists.1 hf
 have ht:u7 l lets d=y:=by
  simp only[u7,lk hnd hk,Int.toNat_natCast,hy,Option.getD_some,hy']
 obtain⟨a,b,_⟩:=nh hy'
 rw[ht]
 exact⟨a,b,k,lets[k],hk,hy,hy'⟩
theorem kr {l:List Issue} {lets:List Int} {d:Int} (h:l4 l=0) (hl:v7 l lets=true) (hd:d∈nums l):∀ y∈(u7 l lets d).items,y.drawing∈cI l d:=by
 obtain⟨h1,h2,_⟩:=dL h hl hd
 intro y hy
 simp only[cI,List.mem_flatMap,List.mem_map,cT,List.mem_filter,decide_eq_true_eq]
 exact⟨_,⟨h1,h2⟩,y,hy,rfl⟩
end Go.Proofs
namespace Go.Ab
open Go
def F1 (m:List (Int×Bool)):List (List Value×List DC):=m.map fun p=>(kI p.1,[.im (rB p.2)])
def cF (n:Int):List (Int×Bool)→Option Bool
 | []=>none
 | p :: r=>if p.1=n then some p.2 else cF n r
def tn (n:Int) (v:Bool):List (Int×Bool)→List (Int×Bool)
 | []=>[(n,v)]
 | p :: r=>if p.1=n then (n,v) :: r else p :: tn n v r
theorem lH (n k:Int) (v:Bool):∀ m,cF k (tn n v m)=if n=k then some v else cF k m
 | []=>by simp[tn,cF]
 | p :: r=>by
   have ih:=lH n k v r
   simp only[tn]
   split
   ·rename_i h
    simp only[cF]
    split
    ·rfl
    ·rename_i h2
     rw[if_neg (by omega)]
   ·rename_i h
    simp only[cF,ih]
    split
    ·rename_i h2
     rw[if_neg (by omega)]
    ·rfl
@[simp] theorem IF (m:List (Int×Bool)) (n:Int):N6 [.int .i64 n] (F1 m) [.im (.raw (.bool false))]=[.im (.raw (.bool ((cF n m).getD false)))]:=by
 induction m with
 | nil=>rfl
 | cons p r ih =>
   have e:F1 (p :: r)=(kI p.1,[.im (rB p.2)]) :: F1 r:=rfl
   rw[e]
   simp only[N6,R0,cF,an,decide_eq_true_eq] at ih ⊢
   split
   ·rfl
   ·exact ih
@[simp] theorem IA (m:List (Int×Bool)) (n:Int):jF [.int .i64 n] (F1 m)=(cF n m).isSome:=by
 induction m with
 | nil=>rfl
 | cons p r ih =>
   have e:F1 (p :: r)=(kI p.1,[.im (rB p.2)]) :: F1 r:=rfl
   rw[e]
   simp only[jF,R0,cF,an,decide_eq_true_eq] at ih ⊢
   split
   ·rfl
   ·exact ih
@[simp] theorem Iz (m:List (Int×Bool)) (n:Int) (v:Bool):Q1 [.int .i64 n] [.im (.raw (.bool v))] (F1 m)=F1 (tn n v m):=by
 induction m with
 | nil=>rfl
 | cons p r ih =>
   have e:F1 (p :: r)=(kI p.1,[.im (rB p.2)]) :: F1 r:=rfl
   rw[e]
   simp only[Q1,tn,an,decide_eq_true_eq] at ih ⊢
   split
   ·rfl
   ·rw[ih];rfl
@[simp] theorem Gj (m:List (Int×Bool)):(F1 m).length=m.length:=by simp[F1]
@[simp] theorem Hl (n:Nat) (objs:List DObj) (m:List (Int×Bool)):((F1 m).map fun x=>(x.1,x.2.map (fz n objs)))=F1 m:=by
 simp[F1,fz,DC.lt]
@[simp] theorem Hg (e:Nat→Nat) (m:List (Int×Bool)):((F1 m).map fun x=>(x.1,rnL e x.2))=F1 m:=by
 simp[F1,rnL,iu]
section
variable {P:Program} {G:Kc}
theorem CallE.embed_ex {ι:Type} {f:FuncId} {args args0:List DV} {objs objs0:List DObj} {p:ι→Prop} {o1:ι→List DObj} {d0:ι→DV} {Q:DV→List DObj→Prop} {t:Tok Q} (es:List Nat) (h:DCall P G f args0 objs0 (fun d o=>∃ i,p i∧d=d0 i∧o=o1 i))
 (ha:args0.map (jB (p8 es objs.length))=args) (hl:es.length=objs0.length) (hnd:es.Nodup) (hes:∀ x∈es,x<objs.length)
 (hobj:∀ i d,objs0[i]?=some d→objs[p8 es objs.length i]?=some (cw (p8 es objs.length) d)) (hq:∀ i,p i→Q (jB (p8 es objs.length) (d0 i)) (l9 es objs (o1 i))):CallE P G f args objs Q t:=by
 subst ha
 refine(DCall.embed es h hl hnd hes hobj).mono fun d o ⟨d',o',⟨i,hp,h1,h2⟩,_,h3,h4⟩=>?_
 subst h1;subst h2;subst h3;subst h4
 exact hq i hp
end
def j6 (l:List Int):List Int:=l.mergeSort fun x y=>decide (x≤y)
theorem H3 (l:List Int):(j6 l).length=l.length:=by simp[j6]
@[simp] theorem It (e:Nat→Nat) (l:List (List IC)):(l7 l).map (rnL e)=l7 l:=by
 simp only[l7,List.map_map]
 exact List.map_congr_left fun x _=>by simp[eZ]
@[simp] theorem Io (n o:Nat):p8 [] n o=n+o:=by simp[p8]
attribute [simp] jB iu rnL rnVL cw fY
def wH (L:List Int) (off len:Nat):List Int:=L.take off++(List.replicate len 0++L.drop (off+len))
theorem qA {L:List Int} {off len:Nat} (h:off+len≤L.length):(wH L off len).length=L.length:=by simp[wH];omega
@[simp] theorem Gk (L:List Int) (off len:Nat):O3 (l7 (L.map encI)) off len (.im (.raw (.int .i64 0)))=l7 ((wH L off len).map encI):=by
 simp only[O3,wH,l7,List.map_append,List.map_take,List.map_drop,List.map_replicate]
 rfl
theorem QCall.thaw {P:Program} {G:Kc} {f:FuncId} {args args0:List DV} {d0:DV} {objs:List DObj} {K:DV→Prop} {t:Tok K} (h:∀ objs,DCall P G f args0 objs (fun d o=>d=d0∧o=objs)) (ha:args0=args.map (eO 0 objs)) (hd:FlV d0) (hk:K d0):QCall P G f args objs K t:=
 ⟨d0,DCall.thaw h ha hd,hk⟩
end Go.Ab
namespace Go.Proofs
open Go Go.Ab
variable {G:Kc}
def O2 (tk:Int→Issue):Nat→Int→Int→List (Int×Int)
 | 0,_,_=>[]
 | k+1,d,m=>if 1<(tk d).kind then [(d,m)] else (tk d).items.flatMap fun y=>O2 tk k y.drawing (IntKind.i64.wrap (m*y.count))
def FT (ns:List Int) (C:List Int) (p:Int×Int):List Int:=C.set (idx ns p.1).toNat (IntKind.i64.wrap ((C[(idx ns p.1).toNat]?).getD 0+p.2))
def FR (ns:List Int) (C:List Int) (lv:List (Int×Int)):List Int:=lv.foldl (FT ns) C
def HL (l:List Issue) (lets:List Int) (d:Int):List Int:=FR (nums l) (List.replicate (nums l).length 0) (O2 (u7 l lets) 6 d 1)
def kM (l:List Issue) (lets:List Int) (d:Int):List Itm:=(((nums l).zip (HL l lets d)).filter fun p=>decide (0<p.2)).map fun p=>⟨p.1,p.2⟩
end Go.Proofs
namespace Go.Ab
open Go
def Ja:Issue:=⟨0,0,0,[],[]⟩
def J2 (m:List (Int×Issue)) (n:Int):Issue:=match m with
 | []=>Ja
 | p :: r=>if p.1=n then p.2 else J2 r n
def eF (n:Int) (v:Issue):List (Int×Issue)→List (Int×Issue)
 | []=>[(n,v)]
 | p :: r=>if p.1=n then (n,v) :: r else p :: eF n v r
def I8 (m:List (Int×Issue)):List (List Value×List DC):=m.map fun p=>(kI p.1,(e9 p.2).map .im)
def dy (m:List (Int×Issue)):List (List Value×List IC):=m.map fun p=>(kI p.1,e9 p.2)
theorem fq (p:Int×Issue) (r:List (Int×Issue)):I8 (p :: r)=(kI p.1,(e9 p.2).map .im) :: I8 r:=rfl
@[simp] theorem If (m:List (Int×Issue)) (n:Int):N6 [.int .i64 n] (I8 m) [.im (.raw (.int .i64 0)),.im (.raw (.int .i64 0)),.im (.raw (.int .u8 0)),.im (.sl []),.im (.sl [])]=(e9 (J2 m n)).map .im:=by
 induction m with
 | nil=>rfl
 | cons p r ih =>
   rw[fq]
   simp only[N6,R0,J2,an,decide_eq_true_eq] at ih ⊢
   split
   ·rfl
   ·exact ih
theorem yJ (m:List (Int×Issue)) (n:Int) (v:Issue):Q1 [.int .i64 n] ((e9 v).map .im) (I8 m)=I8 (eF n v m):=by
 induction m with
 | nil=>rfl
 | cons p r ih =>
   rw[fq]
   simp only[Q1,eF,an,decide_eq_true_eq] at ih ⊢
   split
   ·rfl
   ·rw[ih];rfl
@[simp] theorem Ie (m:List (Int×Issue)) (n a b k:Int) (i:List Itm) (d:List Dim):Q1 [.int .i64 n] [.im (.raw (.int .i64 a)),.im (.raw (.int .i64 b)),.im (.raw (.int .u8 k)),.im (.sl (i.map A4)),.im (.sl (d.map D7))] (I8 m)=I8 (eF n ⟨a,b,k,i,d⟩ m):=yJ m n ⟨a,b,k,i,d⟩
@[simp] theorem Gi (m:List (Int×Issue)):(I8 m).length=m.length:=by simp[I8]
@[simp] theorem CC (m:List (Int×Issue)):fm (dy m)=I8 m:=by simp[fm,dy,I8]
@[simp] theorem Ig (k n:Nat) (objs:List DObj) (m:List (Int×Issue)):D6 (fun x:List Value×List DC=>(D6 (frz (k+1) n objs) x.2).map fun l=>(x.1,l)) (I8 m)=some (dy m):=by
 induction m with
 | nil=>rfl
 | cons p r ih =>
   rw[fq,D6,ih,jT];rfl
@[simp] theorem Ge (n:Nat) (objs:List DObj) (m:List (Int×Issue)):((I8 m).map fun x=>(x.1,x.2.map (fz n objs)))=I8 m:=by
 simp[I8,fz,DC.lt]
theorem iD {n:Int} {v:Issue}:∀ {m:List (Int×Issue)},n∉m.map (·.1)→eF n v m=m++[(n,v)]
 | [],_=>rfl
 | p :: r,h=>by
   rw[List.map_cons,List.mem_cons,not_or] at h
   rw[eF,if_neg (Ne.symm h.1),iD h.2];rfl
theorem T5 (f:Int→Issue):∀ (ns:List Int) (n:Int),J2 (ns.map fun d=>(d,f d)) n=if n∈ns then f n else Ja
 | [],n=>by simp[J2]
 | d :: ns,n=>by
   rw[List.map_cons,J2,T5 f ns n]
   by_cases h:d=n
   ·subst h;simp
   ·rw[if_neg h];simp[Ne.symm h]
@[simp] theorem JD (e:Nat→Nat) (m:List (Int×Int)):((N3 m).map fun x=>(x.1,rnL e x.2))=N3 m:=by
 simp[N3,rnL,iu]
@[simp] theorem Jc (e:Nat→Nat) (m:List (Int×Issue)):((I8 m).map fun x=>(x.1,rnL e x.2))=I8 m:=by
 simp only[I8,List.map_map]
 exact List.map_congr_left fun x _=>by simp only[Function.comp,eZ]
@[simp] theorem JC (e:Nat→Nat) (m:List Int):((I6 m).map fun x=>(x.1,rnL e x.2))=I6 m:=by
 simp[I6,rnL,iu]
end Go.Ab
namespace Go.Ab
open Go
@[simp] theorem HC (m:List (Int×Issue)):(dy m).map (fun x=>(x.1,x.2.map DC.im))=I8 m:=CC m
@[simp] theorem Ik (m:List (Int×Int)):(aa m).map (fun x=>(x.1,x.2.map DC.im))=N3 m:=Fk m
@[simp] theorem Ij (m:List Int):(qk m).map (fun x=>(x.1,x.2.map DC.im))=I6 m:=Fj m
end Go.Ab
namespace Go.Proofs
open Go Go.Ab Tryz
variable {G:Kc}
def aG (l:List Issue) (lets:List Int):List (Int×Issue):=(nums l).map fun d=>(d,u7 l lets d)
theorem Bv {l:List Issue} {lets:List Int} {k:Nat} (h:l4 l=0) (hk:k<(nums l).length) (hk2:k<lets.length) (hf:(o7 l (nums l)[k] lets[k]).isSome=false):v7 l lets=false:=by
 have hn:¬ dg l ((nums l)[k],lets[k])=true:=fun hok=>by
  simp only[dg,Bool.and_eq_true,decide_eq_true_eq] at hok
  rw[(dq h _ _).2 hok] at hf;cases hf
 simp only[v7,Bool.and_eq_false_iff]
 refine .inr ?_
 rw[← Bool.not_eq_true,List.all_eq_true]
 intro hall
 refine hn (hall _ (List.mem_iff_getElem?.2 ⟨k,?_⟩))
 rw[List.getElem?_zip_eq_some];exact⟨by simp[hk],by simp[hk2]⟩
theorem xG {l:List Issue} {lets:List Int} (h:l4 l=0) (he:lets.length=(nums l).length) (hall:∀ (k:Nat) (h1:k<(nums l).length) (h2:k<lets.length),(o7 l (nums l)[k] lets[k]).isSome=true):v7 l lets=true:=by
 simp only[v7,Bool.and_eq_true,decide_eq_true_eq,List.all_eq_true]
 refine⟨he,fun p hp=>?_⟩
 obtain⟨k,hk⟩:=List.mem_iff_getElem?.1 hp
 rw[List.getElem?_zip_eq_some] at hk
 obtain⟨h1,e1⟩:=List.getElem?_eq_some_iff.1 hk.1
 obtain⟨h2,e2⟩:=List.getElem?_eq_some_iff.1 hk.2
 have:=(dq h _ _).1 (hall k h1 h2)
 rw[e1,e2] at this
 simp only[dg,Bool.and_eq_true,decide_eq_true_eq];exact this
theorem ub {l:List Issue} {lets:List Int} {k:Nat} (hnd:(nums l).Nodup) (hk:k<(nums l).length) (hk2:k<lets.length):u7 l lets (nums l)[k]=(o7 l (nums l)[k] lets[k]).getD M9:=by
 have h1:(nums l)[k]?=some (nums l)[k]:=by simp[hk]
 have h2:lets[k]?=some lets[k]:=by simp[hk2]
 simp only[u7,lk hnd h1,Int.toNat_natCast,h2,Option.getD_some]
def B6 (l:List Issue) (lets:List Int) (d:Int):Int:=if l4 l≠0 then l4 l else if v7 l lets=false then 22 else if d∈nums l then 0 else 6
def aI (l:List Issue) (lets:List Int) (d:Int):List DV:=if B6 l lets d=0 then [.one (.im (w5 l (nums l))),.one (.im (.mp [.int .i64] (dy (aG l lets)))),iv 0] else [.one (.im (.raw (.pointer none))),.one (.im (.raw (.map none))),iv (B6 l lets d)]
theorem uW (l:List Issue) (lets:List Int) (d:Int):∀ x∈aI l lets d,ImV x:=by unfold aI;split<;>simp[w5]
theorem xY (l:List Issue) (lets:List Int) (d:Int) (hG:o3 G) (hs:U4 l) (hll:lets.length<1000000) (objs:List DObj):DCall prog G 311 [G9 l,r7 lets,iv d] objs (fun rr objs'=>rr=.tup (aI l lets d)∧objs'=objs):=by
 refine DCall.frame ?_ (by simp) (by simpa using uW l lets d) objs
 refine g9 func311 rfl ntmps311 (by simp) rfl ?_
 simp only[G9,r7,iv]
 have c1:=gf l hG hs
 by_cases h0:l4 l=0
 ·simp only[bA,h0,if_true] at c1
  have hnd:(nums l).Nodup:=(E4 h0).1.imp fun h=>Int.ne_of_lt h
  have hnl:(nums l).length≤l.length:=u6 l l.length
  have hl80:=hs.1
  have hsort:=ci h0
  by_cases he:lets.length=(nums l).length
  ·have he':(lets.length:Int)=((nums l).length:Int):=by omega
   simp only[w5] at c1
   have hs:=he'
   repeat' first|(with_reducible first|refine zz ?_|refine zE [0,1,2,3,6,7,8,9,10,11,12,13,14,21,30,33,34,35,55,64] ?_)|simp -dsimp[hs]|refine zp c1 ?_|refine i9 ?_ ?_<;>intro h<;>try simp only[i7] at h
   all_goals try clear hs
   refine i6 (ι:={ k:Nat // k≤lets.length∧∀ (i:Nat) (h1:i<(nums l).length) (h2:i<lets.length),i<k→(o7 l (nums l)[i] lets[i]).isSome=true }) (fun p=>⟨67,[(1,r7 lets),(2,iv d),(6,.one (.im (.raw (.pointer none)))),(7,.one (.im (.raw (.map none)))),(8,iv 0),(9,.one (.im (w5 l (nums l)))),(11,.one (.map 1)),(33,iv (lets.length:Int)),(34,iv (p.1:Int))],[.row [.im (.sl (l.map e9))],.map [.int .i64] (I8 (((nums l).take p.1).map fun d=>(d,u7 l lets d)))]⟩) (fun p=>lets.length-p.1) ⟨0,by simp⟩ (zv [1,2,6,7,8,9,11,33,34] (by simp[w5,I8];omega)) ?_
   rintro⟨k,hk,hall⟩
   simp only[iv,r7]
   by_cases hlt:k<lets.length
   ·have hkn:k<(nums l).length:=by omega
    have hx:(nums l)[k]?=some (nums l)[k]:=by simp[hkn]
    have hy:lets[k]?=some lets[k]:=by simp[hlt]
    have hw:=zk k
    have c2:=uG (G:=G) l (nums l) (nums l)[k] lets[k] hsort (by omega)
    have hta:=ub hnd hkn hlt
    cases hf:o7 l (nums l)[k] lets[k] with
    | none =>
      have hE:B6 l lets d=22:=by simp[B6,h0,Bv h0 hkn hlt (by rw[hf];rfl)]
      simp only[hf,D3,w5,Option.isSome_none,Option.getD_none] at c2
      simp only[w5]
      have hs:=za hx (za hy (za hlt (za hkn hw)))
      repeat' first|(with_reducible first|refine zz ?_|refine zr ?_)|simp -dsimp[hs]|refine zq c2 ?_|refine E5 (id:=10) (nt:=67) 18 [16] [0,1,2,3,6,7,8,9,10,11,12,13,14,21,30,33,34,35,37,38,39,40,41,42,43,44,45,46,47,48,49,50,51,52,55,64] [0,1,2,3,6,7,8,9,10,11,12,13,14,21,30,33,34,35,55,64] mixed rfl (by kernel_rfl) ?_|with_reducible refine zE [0,1,2,3,6,7,8,9,10,11,12,13,14,21,30,33,34,35,55,64] ?_|refine i9 ?_ ?_<;>intro h<;>try simp only[i7] at h
      all_goals try clear hs
      all_goals simp[aI,hE]
    | some y =>
      rw[hf,Option.getD_some] at hta
      obtain⟨hym,hyd,_⟩:=nh hf
      simp only[hf,D3,w5,Option.isSome_some,Option.getD_some] at c2
      simp only[w5]
      have hmp:eF (nums l)[k] y (((nums l).take k).map fun d=>(d,u7 l lets d))=(((nums l).take (k+1)).map fun d=>(d,u7 l lets d)):=by
       rw[iD,List.take_succ_eq_append_getElem hkn,List.map_append,List.map_singleton,hta]
       rw[List.map_map]
       intro hm
       obtain⟨z,hz,e⟩:=List.mem_map.1 hm
       simp only[Function.comp] at e
       subst e
       obtain⟨i,hi,e⟩:=List.mem_take_iff_getElem.1 hz
       have:=(List.getElem_inj hnd).1 e;omega
      rw[← hyd] at hmp
      have hmp':eF y.drawing ⟨y.drawing,y.letter,y.kind,y.items,y.dims⟩ (((nums l).take k).map fun d=>(d,u7 l lets d))=(((nums l).take (k+1)).map fun d=>(d,u7 l lets d)):=hmp
      simp only[List.map_take] at hmp'
      have hfin:∀ (i:Nat) (h1:i<(nums l).length) (h2:i<lets.length),i<k+1→(o7 l (nums l)[i] lets[i]).isSome=true:=fun i h1 h2 hi=>by
       by_cases e:i=k
       ·subst e;rw[hf];rfl
       ·exact hall i h1 h2 (by omega)
      have hs:=za hx (za hy (za hlt (za hkn hw)))
      repeat' first|with_reducible refine zz ?_|simp -dsimp[hs]|refine zq c2 ?_|refine E5 (id:=10) (nt:=67) 18 [16] [0,1,2,3,6,7,8,9,10,11,12,13,14,21,30,33,34,35,37,38,39,40,41,42,43,44,45,46,47,48,49,50,51,52,55,64] [0,1,2,3,6,7,8,9,10,11,12,13,14,21,30,33,34,35,55,64] mixed rfl (by kernel_rfl) ?_|with_reducible refine zE [0,1,2,3,6,7,8,9,10,11,12,13,14,21,30,33,34,35,55,64] ?_|refine i9 ?_ ?_<;>intro h<;>try simp only[i7] at h
      all_goals try clear hs
      exact zn ⟨k+1,by omega,hfin⟩ (zw [1,2,6,7,8,9,11,33,34] 2 (by simp[w5,hmp']))
   ·have hlet:=xG h0 he fun i h1 h2=>hall i h1 h2 (by omega)
    have htk:(nums l).take k=nums l:=List.take_of_length_le (by omega)
    have c3:=zF (G:=G) l (nums l) d ((E4 h0).1.imp fun h=>Int.le_of_lt h) (by omega)
    have hE:B6 l lets d=if d∈nums l then 0 else 6:=by simp[B6,h0,hlet]
    simp only[w5] at c3
    rw[htk]
    by_cases hd:d∈nums l
    ·rw[if_pos hd] at hE
     simp only[hd,decide_true] at c3
     simp only[w5]
     have hs:=hlt
     repeat' first|(with_reducible first|refine zz ?_|refine zr ?_|refine zE [0,1,2,3,6,7,8,9,10,11,12,13,14,21,30,33,34,35,55,64] ?_)|simp -dsimp[hs]|refine zp c3 ?_|refine i9 ?_ ?_<;>intro h<;>try simp only[i7] at h
     all_goals try clear hs
     simp[aI,hE,aG,w5]
    ·rw[if_neg hd] at hE
     simp only[hd,decide_false] at c3
     simp only[w5]
     have hs:=hlt
     repeat' first|(with_reducible first|refine zz ?_|refine zr ?_|refine zE [0,1,2,3,6,7,8,9,10,11,12,13,14,21,30,33,34,35,55,64] ?_)|simp -dsimp[hs]|refine zp c3 ?_|refine i9 ?_ ?_<;>intro h<;>try simp only[i7] at h
     all_goals try clear hs
     simp[aI,hE]
  ·have he':¬ (lets.length:Int)=((nums l).length:Int):=by omega
   have hE:B6 l lets d=22:=by
    have:v7 l lets=false:=by simp[v7,he]
    simp[B6,h0,this]
   simp only[w5] at c1
   have hs:=he'
   repeat' first|(with_reducible first|refine zz ?_|refine zr ?_|refine zE [0,1,2,3,6,7,8,9,10,11,12,13,14,21,30,33,34,35,55,64] ?_)|simp -dsimp[hs]|refine zp c1 ?_|refine i9 ?_ ?_<;>intro h<;>try simp only[i7] at h
   all_goals try clear hs
   simp[aI,hE]
 ·have hE:B6 l lets d=l4 l:=by simp[B6,h0]
  simp only[bA,h0,if_false] at c1
  have hs:=h0
  repeat' first|(with_reducible first|refine zz ?_|refine zr ?_|refine zE [0,1,2,3,6,7,8,9,10,11,12,13,14,21,30,33,34,35,55,64] ?_)|simp -dsimp[hs]|refine zp c1 ?_|refine i9 ?_ ?_<;>intro h<;>try simp only[i7] at h
  all_goals try clear hs
  simp[aI,hE,h0]
def jK (m:List (Int×Int)) (lv:List (Int×Int)):List (Int×Int):=lv.foldl (fun m p=>N2 p.1 (IntKind.i64.wrap (n4 m p.1+p.2)) m) m
def gF (by':List (Int×Issue)) (cnt:List (Int×Int)):List DObj:=[.row [.im (.mp [.int .i64] (dy by'))],.map [.int .i64] (N3 cnt),.row [.map 1],.row [.fn (.func 312) [.ptr 0 0,.ptr 2 0,.ptr 3 0]]]
theorem sQ (l:List Issue) (lets:List Int) (h0:l4 l=0) (hlet:v7 l lets=true) (dep:Int→Int) (hdep:∀ n∈nums l,1≤dep n∧dep n≤6∧∀ c∈cI l n,c∈nums l∧dep c<dep n) :
 ∀ (k:Nat) (d m:Int) (cnt:List (Int×Int)),d∈nums l→dep d≤k →
  DCall prog G 312 [iv d,iv m,.one (.ptr 0 0),.one (.ptr 2 0),.one (.ptr 3 0)] (gF (aG l lets) cnt)
   (fun r o=>r=.tup []∧o=gF (aG l lets) (jK cnt (O2 (u7 l lets) k d m))):=by
 intro k
 induction k with
 | zero=>intro d m C hd hk;have:=(hdep d hd).1;omega
 | succ k ih =>
   intro d m cnt hd hk
   have hti:=kr h0 hlet hd
   obtain⟨htm,_,_⟩:=dL h0 hlet hd
   have htok:=(N5 (K8 (I1 h0))).2.2.2.1 _ htm
   have hsm:=eK htok
   have hkd:(u7 l lets d).kind=1∨(2≤(u7 l lets d).kind∧(u7 l lets d).items.length=0):=by
    simp only[n7,Bool.and_assoc] at htok
    rw[← Bool.and_assoc,Bool.and_eq_true] at htok
    have:=(dE _).1 htok.1;omega
   have hch:=(hdep d hd).2.2
   have hE:O2 (u7 l lets) (k+1) d m=if 1<(u7 l lets d).kind then [(d,m)] else (u7 l lets d).items.flatMap fun y=>O2 (u7 l lets) k y.drawing (IntKind.i64.wrap (m*y.count)):=rfl
   have hlook:J2 (aG l lets) d=u7 l lets d:=by rw[aG,T5,if_pos hd]
   generalize u7 l lets d=x at *
   refine DCall.drop ?_
   refine g9 func312 rfl ntmps312 (by simp) rfl ?_
   simp only[gF,iv]
   by_cases hkind:x.kind=1
   ·rw[if_neg (by omega)] at hE
    have hs:=za hlook hkind
    repeat' first|(with_reducible first|refine zz ?_|refine zE [0,1,2,3,4,7,9,15,22,23,24,25] ?_)|simp -dsimp[hs]|refine i9 ?_ ?_<;>intro h<;>try simp only[i7] at h
    refine i6 (ι:={ p:Nat×List (Int×Int) // p.1≤x.items.length∧jK cnt (x.items.flatMap fun y=>O2 (u7 l lets) k y.drawing (IntKind.i64.wrap (m*y.count)))=jK p.2 ((x.items.drop p.1).flatMap fun y=>O2 (u7 l lets) k y.drawing (IntKind.i64.wrap (m*y.count))) }) (fun p=>⟨37,[(1,iv m),(2,.one (.ptr 0 0)),(3,.one (.ptr 2 0)),(4,.one (.ptr 3 0)),(22,.one (.im (.sl (x.items.map A4)))),(23,iv (x.items.length:Int)),(24,iv (p.1.1:Int))],gF (aG l lets) p.1.2⟩) (fun p=>x.items.length-p.1.1) ⟨(0,cnt),by simp⟩ (zw [1,2,3,4,22,23,24] 4 (by simp[gF])) ?_
    rintro⟨⟨u,cnt'⟩,hu,hadd⟩
    simp only at hu hadd
    simp only[iv,gF]
    by_cases hlt:u<x.items.length
    ·have hx:x.items[u]?=some x.items[u]:=by simp[hlt]
     have hw:=zk u
     have hc:=hch _ (hti x.items[u] (List.getElem_mem hlt))
     have hrec:=ih x.items[u].drawing (IntKind.i64.wrap (m*x.items[u].count)) cnt' hc.1 (by omega)
     rw[List.drop_eq_getElem_cons hlt,List.flatMap_cons,jK,jK,List.foldl_append] at hadd
     simp only[iv,gF] at hrec
     have hs:=za hx (za hw hlt)
     repeat' first|(with_reducible first|refine zz ?_|refine zE [0,1,2,3,4,7,9,15,22,23,24,25] ?_)|simp -dsimp[hs]|refine CallE.embed [0,1,2,3] (hrec) ?_ ?_ ?_ ?_ ?_ ?_;(focus simp[p8];done);(focus simp;done);(focus simp;done);(focus simp;done);(focus refine n3 ?_;simp[p8,n8];done);try simp -dsimp[l9,p8,hs]|refine i9 ?_ ?_<;>intro h<;>try simp only[i7] at h
     exact zn ⟨(u+1,jK cnt' (O2 (u7 l lets) k x.items[u].drawing (IntKind.i64.wrap (m*x.items[u].count)))),by omega,hadd⟩ (zw [1,2,3,4,22,23,24] 4 (by simp[gF]))
    ·rw[List.drop_eq_nil_of_le (by omega)] at hadd
     have hs:=hlt
     repeat' first|(with_reducible first|refine zz ?_|refine ze ?_|refine zE [0,1,2,3,4,7,9,15,22,23,24,25] ?_)|simp -dsimp[hs]|refine i9 ?_ ?_<;>intro h<;>try simp only[i7] at h|with_reducible refine And.intro ?_ ?_
     rw[hE,hadd];simp[gF,jK]
   ·rw[if_pos (by omega)] at hE
    have hz:x.items.length=0:=by omega
    have hs:=za hlook (za hkind hz)
    repeat' first|(with_reducible first|refine zz ?_|refine zE [0,1,2,3,4,7,9,15,22,23,24,25] ?_)|simp -dsimp[hs]|refine i9 ?_ ?_<;>intro h<;>try simp only[i7] at h
    refine i6 (ι:=Unit) (fun _=>⟨37,[(23,iv 0),(24,iv 0)],gF (aG l lets) (jK cnt [(d,m)])⟩) (fun _=>0) () (zw [23,24] 4 (by simp[gF,jK])) ?_
    intro _
    simp only[iv,gF]
    have hs:=trivial
    repeat' first|(with_reducible first|refine zz ?_|refine ze ?_|refine zE [0,1,2,3,4,7,9,15,22,23,24,25] ?_)|simp -dsimp[hs]|refine i9 ?_ ?_<;>intro h<;>try simp only[i7] at h|with_reducible refine And.intro ?_ ?_
    rw[hE]
def mn (l:List Issue) (lets:List Int) (d:Int):List (Int×Int):=jK [] (O2 (u7 l lets) 6 d 1)
def K5 (ns:List Int) (m:List (Int×Int)):List Itm:=(ns.filter fun n=>decide (0<n4 m n)).map fun n=>⟨n,n4 m n⟩
def br (l:List Issue) (lets:List Int) (d:Int):List Itm:=if B6 l lets d=0 then K5 (nums l) (mn l lets d) else []
theorem wt (l:List Issue) (lets:List Int) (d:Int) (hG:o3 G) (hs:U4 l) (hll:lets.length<1000000):zP prog G 299 [G9 l,r7 lets,iv d] (.tup [.one (.im (.sl ((br l lets d).map A4))),iv (B6 l lets d)]):=by
 refine zf func299 ntmps299 ?_
 try simp only[G9,r7,iv]
 have c1:=xY (G:=G) l lets d hG hs hll
 by_cases hE:B6 l lets d=0
 ·have h0:l4 l=0:=by
   by_cases h:l4 l=0
   ·exact h
   ·simp[B6,h] at hE
  have hlet:v7 l lets=true:=by
   cases h:v7 l lets
   ·simp[B6,h0,h] at hE
   ·rfl
  have hd:d∈nums l:=Classical.byContradiction fun h=>by simp[B6,h0,hlet,h] at hE
  obtain⟨dep,hdep⟩:=qt h0
  have c2:=sQ (G:=G) l lets h0 hlet dep hdep 6 d 1 [] hd (by have:=(hdep d hd).2.1;omega)
  have hR:br l lets d=K5 (nums l) (mn l lets d):=by simp[br,hE]
  have hnl:(nums l).length≤l.length:=u6 l l.length
  have hl80:=hs.1
  change DCall _ _ _ _ _ (fun r o=>r=.tup []∧o=gF (aG l lets) (mn l lets d)) at c2
  generalize mn l lets d=cnt at *
  simp only[aI,hE,if_true,w5] at c1
  simp only[iv,gF,show N3 []=[] from rfl] at c2
  generalize nums l=ns at *
  have hs:=trivial
  repeat' first|(with_reducible first|refine zz ?_|refine zE [0,1,2,3,6,7,8,9,10,11,12,13,15,25,35,36,37,38,44] ?_)|simp -dsimp[hs]|refine zp c1 ?_|refine CallE.embed [2,3,4,5] (c2) ?_ ?_ ?_ ?_ ?_ ?_;(focus simp[p8];done);(focus simp;done);(focus simp;done);(focus simp;done);(focus refine n3 ?_;simp[p8,n8];done);try simp -dsimp[l9,p8,hs]|refine i9 ?_ ?_<;>intro h<;>try simp only[i7] at h
  all_goals try clear hs
  refine i6 (ι:={ p:Nat×Nat×Bool×List Itm // p.1≤ns.length∧p.2.2.2.length≤p.1∧K5 ns cnt=p.2.2.2++K5 (ns.drop p.1) cnt }) (fun p=>⟨55,[(11,.one (.ptr 4 0)),(13,.one (.vec 6 p.1.2.1 0 p.1.2.2.2.length)),(35,r7 ns),(36,iv (ns.length:Int)),(37,iv (p.1.1:Int))],[.row [.im (.sl (l.map e9))],.vec 2 [] 0 true,.row [.im (.mp [.int .i64] (dy (aG l lets)))],.map [.int .i64] (N3 cnt),.row [.map 3],.row [.fn (.func 312) [.ptr 2 0,.ptr 4 0,.ptr 5 0]],.vec 2 (l7 (p.1.2.2.2.map A4)) p.1.2.1 p.1.2.2.1]⟩) (fun p=>ns.length-p.1.1) ⟨(0,0,true,[]),by simp⟩ (zv [11,13,35,36,37]) ?_
  rintro⟨⟨k,g,nl,out⟩,hk,hol,hp⟩
  simp only at hk hol hp
  simp only[iv,r7]
  by_cases hlt:k<ns.length
  ·have hx:ns[k]?=some ns[k]:=by simp[hlt]
   have hw:=zk k
   rw[List.drop_eq_getElem_cons hlt] at hp
   by_cases hpos:0<n4 cnt ns[k]
   ·rw[K5,K5,List.filter_cons_of_pos (by simpa using hpos),List.map_cons] at hp
    have hs:=za hx (za hw (za hlt hpos))
    repeat' first|(with_reducible first|refine zz ?_|refine And.intro (by omega) ?_|refine zE [0,1,2,3,6,7,8,9,10,11,12,13,15,25,35,36,37,38,44] ?_)|simp -dsimp[hs]|refine i9 ?_ ?_<;>intro h<;>try simp only[i7] at h
    all_goals try clear hs
    all_goals try omega
    exact zn ⟨(k+1,g+1,false,out++[⟨ns[k],n4 cnt ns[k]⟩]),by omega,by simp;omega,by rw[K5,hp,K5];simp⟩ (zw [11,13,35,36,37] 7)
   ·rw[K5,K5,List.filter_cons_of_neg (by simpa using hpos)] at hp
    have hs:=za hx (za hw (za hlt hpos))
    repeat' first|(with_reducible first|refine zz ?_|refine zE [0,1,2,3,6,7,8,9,10,11,12,13,15,25,35,36,37,38,44] ?_)|simp -dsimp[hs]|refine i9 ?_ ?_<;>intro h<;>try simp only[i7] at h
    all_goals try clear hs
    exact zn ⟨(k+1,g,nl,out),by omega,by show out.length≤k+1;omega,hp⟩ (zv [11,13,35,36,37])
  ·rw[List.drop_eq_nil_of_le (by omega)] at hp
   have hs:=hlt
   repeat' first|(with_reducible first|refine zz ?_|refine zr ?_|refine zE [0,1,2,3,6,7,8,9,10,11,12,13,15,25,35,36,37,38,44] ?_)|simp -dsimp[hs]|refine i9 ?_ ?_<;>intro h<;>try simp only[i7] at h
   all_goals try clear hs
   all_goals try omega
   rw[hR,hp];simp[K5,hE]
 ·have hR:br l lets d=[]:=by simp[br,hE]
  simp only[aI,hE,if_false] at c1
  have hs:=hE
  repeat' first|(with_reducible first|refine zz ?_|refine zr ?_|refine zE [0,1,2,3,6,7,8,9,10,11,12,13,15,25,35,36,37,38,44] ?_)|simp -dsimp[hs]|refine zp c1 ?_|refine i9 ?_ ?_<;>intro h<;>try simp only[i7] at h
  all_goals try clear hs
  simp[hR]
end Go.Proofs
namespace Go.Ab
open Go
structure Link where
 drawing:Int
 dim:Int
 back:Bool
 deriving DecidableEq
structure ChLoop where
 links:List Link
 lo:Int
 hi:Int
 deriving DecidableEq
structure Chains where
 reg:List Issue
 lets:List Int
 of:Int
 loops:List ChLoop
 deriving DecidableEq
def F8 (x:Link):List IC:=[rI x.drawing,rI x.dim,rB x.back]
def G4 (x:ChLoop):List IC:=[.sl (x.links.map F8),rI x.lo,rI x.hi]
def P6 (c:Chains):List IC:=[.sl (c.reg.map e9),.sl (c.lets.map encI),rI c.of,.sl (c.loops.map G4)]
def yR (x:Link):DV:=.agg ((F8 x).map .im)
def kY (x:ChLoop):DV:=.agg ((G4 x).map .im)
def Bt (c:Chains):DV:=.agg ((P6 c).map .im)
attribute [simp] F8 G4 P6 yR kY Bt
end Go.Ab
namespace Go.Proofs
open Go Go.Ab
variable {G:Kc}
theorem wc (x lo hi:Int):DCall Tryz.prog G 216 (iv x :: [DC.ptr 0 0,DC.ptr 1 0].map .one) [.row [.im (rI lo)],.row [.im (rI hi)]] (fun d o=>d=bv (decide (x<lo)||decide (hi<x))∧o=[.row [.im (rI lo)],.row [.im (rI hi)]]):=by
 refine g9 Tryz.func216 rfl Tryz.ntmps216 (by simp) rfl ?_
 simp only[rI]
 have hs:=trivial
 repeat' first|(with_reducible first|refine zz ?_|refine zr ?_|refine zE [0,1,2,4] ?_)|simp -dsimp[hs]|with_reducible refine j0 ?_ ?_<;>intro h<;>have h0:=h<;>(try simp only[i7] at h)<;>have h2:=h<;>(try simp at h2)<;>replace hs:=za h0 (za h (za h2 hs))|with_reducible refine And.intro ?_ ?_
 all_goals try clear hs
 all_goals simp[*]
theorem bl (lo hi:Int) (l:List Int) (hl:l.length<1000000):zP Tryz.prog G 168 [iv lo,iv hi,r7 l] (bv (l.all fun x=>decide (lo≤x)&&decide (x≤hi))):=by
 refine zf Tryz.func168 Tryz.ntmps168 ?_
 try simp only[iv,iv,r7]
 have hc:=B4 (G:=G) l (fun x=>decide (x<lo)||decide (hi<x)) 216 [.ptr 0 0,.ptr 1 0] [.row [.im (rI lo)],.row [.im (rI hi)]] (by simp) (fun x _=>wc x lo hi) hl
 simp only[rI] at hc
 repeat' first|(with_reducible first|refine zz ?_|refine zx ?_|refine zE [0,1,2,3,4,6] ?_)|simp -dsimp|refine CallE.here hc ?_
 rw[Bool.eq_iff_iff];simp
 exact exists_congr fun x=>and_congr_right fun _=>by omega
def J7 (c:Chains) (D:List (Int×Int)) (B:List (Int×Issue)):IC:=.ip [.sl (c.reg.map e9),.sl (c.lets.map encI),rI c.of,.sl (c.loops.map G4),.mp [.int .i64] (aa D),.mp [.int .i64] (dy B)]
def ti (x:ChLoop):Bool:=decide (1≤x.links.length)&&decide (x.links.length≤8)
def qD (x:ChLoop):Bool:=(decide (-8000000000≤x.lo)&&decide (x.lo≤8000000000))&&(decide (-8000000000≤x.hi)&&decide (x.hi≤8000000000))&&decide (x.lo≤x.hi)
def W8 (D:List (Int×Int)) (B:List (Int×Issue)):List (Int×Int)→List Link→Bool
 | _,[]=>true
 | U,y :: r=>decide (n4 U y.drawing+1≤n4 D y.drawing)&&(decide (0≤y.dim)&&decide (y.dim≤((J2 B y.drawing).dims.length:Int)-1))&&W8 D B (N2 y.drawing (n4 U y.drawing+1) U) r
theorem FK (d:IC) (x:ChLoop):zP Tryz.prog G 372 [.one (.im d),kY x] (bv (ti x)):=by
 refine zf Tryz.func372 Tryz.ntmps372 ?_
 try simp only[kY]
 have c1:=bl (G:=G) 1 8 [(x.links.length:Int)] (by simp)
 repeat' first|(with_reducible first|refine zz ?_|refine zx ?_|refine zE [1,3,4] ?_)|simp -dsimp|refine zt c1 ?_ ?_ ?_;(focus simp;done);focus (simp;done)
 rw[Bool.eq_iff_iff]
 simp[ti]
 omega
theorem Aj (x:ChLoop):qD x=true↔-8000000000≤x.lo∧x.lo≤8000000000∧-8000000000≤x.hi∧x.hi≤8000000000∧x.lo≤x.hi:=by
 simp[qD];omega
theorem FJ (d:IC) (x:ChLoop):zP Tryz.prog G 373 [.one (.im d),kY x] (bv (qD x)):=by
 refine zf Tryz.func373 Tryz.ntmps373 ?_
 try simp only[kY]
 have c1:=bl (G:=G) (-8000000000) 8000000000 [x.lo,x.hi] (by simp)
 have hi:=Aj x
 cases hq:([x.lo,x.hi].all fun y=>decide (-8000000000≤y)&&decide (y≤8000000000))
 ·rw[hq] at c1
  repeat' first|(with_reducible first|refine zz ?_|refine zx ?_|refine zE [1,3,4] ?_)|simp -dsimp|refine zt c1 ?_ ?_ ?_;(focus simp;done);focus (simp;done)
  all_goals simp at hq
  all_goals exact dx hi (by omega)
 ·rw[hq] at c1
  repeat' first|(with_reducible first|refine zz ?_|refine zx ?_|refine zE [1,3,4] ?_)|simp -dsimp|refine zt c1 ?_ ?_ ?_;(focus simp;done);focus (simp;done)
  all_goals simp at hq
  all_goals rw[Bool.eq_iff_iff,hi]
  all_goals simp
  all_goals omega
theorem FI (c:Chains) (D:List (Int×Int)) (B:List (Int×Issue)) (x:ChLoop) (hl:x.links.length<1000000) (hB:∀ n,(J2 B n).dims.length<1000000):zP Tryz.prog G 374 [.one (.im (J7 c D B)),kY x] (bv (W8 D B [] x.links)):=by
 refine zf Tryz.func374 Tryz.ntmps374 ?_
 try simp only[kY]
 simp only[J7]
 have hs:=trivial
 repeat' first|(with_reducible first|refine zz ?_|refine zE [0,1,3,4,5,7,10,11,12,13,48] ?_)|simp -dsimp[hs]
 refine i6 (ι:={ p:Nat×List (Int×Int) // p.1≤x.links.length∧W8 D B [] x.links=W8 D B p.2 (x.links.drop p.1)∧bd p.2 p.1 }) (fun p=>⟨50,[(0,.one (.im (J7 c D B))),(5,.one (.map 1)),(10,.one (.im (.sl (x.links.map F8)))),(11,iv (x.links.length:Int)),(12,iv (p.1.1:Int))],[.row ((G4 x).map .im),.map [.int .i64] (N3 p.1.2)]⟩) (fun p=>x.links.length-p.1.1) ⟨(0,[]),by simp[bd]⟩ (zv [0,5,10,11,12] (by simp[J7,N3])) ?_
 rintro⟨⟨k,U⟩,hk,hu,hb⟩
 simp only at hk hu hb
 simp only[iv,J7]
 by_cases hlt:k<x.links.length
 ·have hx:x.links[k]?=some x.links[k]:=by simp[hlt]
  have hw:=zk k
  have hbl:=uH hb x.links[k].drawing
  have hwu:IntKind.i64.wrap (n4 U x.links[k].drawing+1)=n4 U x.links[k].drawing+1:=o4 (by omega) (by omega)
  have hput:n4 (N2 x.links[k].drawing (n4 U x.links[k].drawing+1) U) x.links[k].drawing=n4 U x.links[k].drawing+1:=by rw[Y6,if_pos rfl]
  have hBn:=hB x.links[k].drawing
  have hwd:IntKind.i64.wrap (((J2 B x.links[k].drawing).dims.length:Int)-1)=((J2 B x.links[k].drawing).dims.length:Int)-1:=o4 (by omega) (by omega)
  have c1:=bl (G:=G) 0 (((J2 B x.links[k].drawing).dims.length:Int)-1) [x.links[k].dim] (by simp)
  have hbn:bd (N2 x.links[k].drawing (n4 U x.links[k].drawing+1) U) (k+1):=tv (ei hb (by omega)) (by omega) (by omega)
  rw[List.drop_eq_getElem_cons hlt,W8] at hu
  by_cases hle:n4 U x.links[k].drawing+1≤n4 D x.links[k].drawing
  ·rw[decide_eq_true hle,Bool.true_and] at hu
   cases hq:([x.links[k].dim].all fun y=>decide (0≤y)&&decide (y≤((J2 B x.links[k].drawing).dims.length:Int)-1))
   ·rw[hq] at c1
    have hq':(decide (0≤x.links[k].dim)&&decide (x.links[k].dim≤((J2 B x.links[k].drawing).dims.length:Int)-1))=false:=by simpa using hq
    rw[hq',Bool.false_and] at hu
    have hs:=za hx (za hw (za hlt (za hwu (za hput (za hwd hle)))))
    repeat' first|(with_reducible first|refine zz ?_|refine zr ?_)|simp -dsimp[hs]|refine zq c1 ?_|refine zM 6 50 28 [0,1,3,4,5,7,10,11,12,13,48] ?_|with_reducible refine zE [0,1,3,4,5,7,10,11,12,13,48] ?_|refine i9 ?_ ?_<;>intro h<;>try simp only[i7] at h
    rw[hu]
   ·rw[hq] at c1
    have hq':(decide (0≤x.links[k].dim)&&decide (x.links[k].dim≤((J2 B x.links[k].drawing).dims.length:Int)-1))=true:=by simpa using hq
    rw[hq',Bool.true_and] at hu
    have hs:=za hx (za hw (za hlt (za hwu (za hput (za hwd hle)))))
    repeat' first|with_reducible refine zz ?_|simp -dsimp[hs]|refine zq c1 ?_|refine zM 6 50 28 [0,1,3,4,5,7,10,11,12,13,48] ?_|with_reducible refine zE [0,1,3,4,5,7,10,11,12,13,48] ?_|refine i9 ?_ ?_<;>intro h<;>try simp only[i7] at h
    exact zn ⟨(k+1,N2 x.links[k].drawing (n4 U x.links[k].drawing+1) U),by omega,hu,hbn⟩ (zw [0,5,10,11,12] 2 (by simp[J7]))
  ·rw[decide_eq_false hle,Bool.false_and,Bool.false_and] at hu
   have hs:=za hx (za hw (za hlt (za hwu (za hput (za hwd hle)))))
   repeat' first|(with_reducible first|refine zz ?_|refine zr ?_)|simp -dsimp[hs]|refine zM 6 50 28 [0,1,3,4,5,7,10,11,12,13,48] ?_|with_reducible refine zE [0,1,3,4,5,7,10,11,12,13,48] ?_|refine i9 ?_ ?_<;>intro h<;>try simp only[i7] at h
   rw[hu]
 ·rw[List.drop_eq_nil_of_le (by omega)] at hu
  have hs:=hlt
  repeat' first|(with_reducible first|refine zz ?_|refine zr ?_|refine zE [0,1,3,4,5,7,10,11,12,13,48] ?_)|simp -dsimp[hs]|refine i9 ?_ ?_<;>intro h<;>try simp only[i7] at h
  rw[hu];rfl
end Go.Proofs
