/- Part 15 of the proofs. -/
import Derived.Test.YtpcoahkgkgmmlaaGreatDoorRows
import Derived.Test.YtpcoahkgkgmmlaaGreatDoorS08
import Derived.Test.YtpcoahkgkgmmlaaGreatDoorS09
import Derived.Test.YtpcoahkgkgmmlaaGreatDoorS11
import Derived.Test.YtpcoahkgkgmmlaaGreatDoorS13
import Derived.Test.YtpcoahkgkgmmlaaGreatDoorS14
set_option linter.all false
set_option linter.deprecated false
set_option maxHeartbeats 100000000
namespace Go.Ab
open Go
theorem oH {α:Type} {enc:α→List IC} {ok:α→Prop}:∀ (es:List (List IC)),(∀ x∈es,∃ a,ok a∧x=enc a)→∃ xs:List α,(∀ x∈xs,ok x)∧es=xs.map enc
 | [],_=>⟨[],by simp,rfl⟩
 | e :: es,h=>by
   obtain⟨a,ha,rfl⟩:=h e (by simp)
   obtain⟨xs,hx,rfl⟩:=oH es fun x hx=>h x (by simp[hx])
   exact⟨a :: xs,by simpa using⟨ha,hx⟩,rfl⟩
theorem Opens.sliceOf {P:Program} {t e:TypeId} {α:Type} {enc:α→List IC} {ok:α→Prop} {sz:Nat} (ht:P.underlying t=some (.slice e)) (hc:P.cellsOf e=sz) (h0:0<sz) (hl:∀ x,(enc x).length=sz) (he:Opens P e (fun l=>∃ x,ok x∧l=enc x)) :
 Opens P t (fun l=>∃ xs:List α,(∀ x∈xs,ok x)∧l=[.sl (xs.map enc)]):=
 (Opens.slice ht hc h0 he (by rintro l ⟨x,_,rfl⟩;exact hl x)).mono (by
  rintro l ⟨es,h,rfl⟩
  obtain⟨xs,h1,rfl⟩:=oH es h
  exact⟨xs,h1,rfl⟩)
def ie (x:Issue):Prop:=0≤x.kind∧x.kind≤255
end Go.Ab
namespace Go.Proofs
open Go Go.Ab
def Rd (t:TypeId) {α:Type} (enc:α→List IC) (ok:α→Prop):Prop:=Opens Tryz.prog t (fun l=>∃ x,ok x∧l=enc x)
theorem oInt:Opens Tryz.prog 3 (fun l=>∃ n:Int,l=[rI n]):=(Opens.int Tryz.underlying3).mono (by rintro l ⟨n,_,rfl⟩;exact⟨n,rfl⟩)
theorem DQ:Opens Tryz.prog 5 (fun l=>∃ n:Int,(0≤n∧n≤255)∧l=[.raw (.int .u8 n)]):=(Opens.int Tryz.underlying5).mono (by
 rintro l ⟨n,hn,rfl⟩
 exact⟨n,by simpa[IntKind.min,IntKind.max,IntKind.signed,IntKind.bits] using hn,rfl⟩)
theorem BR:Opens Tryz.prog 4 (fun l=>∃ b:Bool,l=[rB b]):=Opens.bool Tryz.underlying4
theorem BI:Rd 3 encI (fun _=>True):=oInt.mono (by rintro l ⟨n,rfl⟩;exact⟨n,trivial,rfl⟩)
theorem yb {α:Type} {l:List α} (h:l.length=2):∃ a b,l=[a,b]:=by
 match l,h with
 | [a,b],_=>exact⟨a,b,rfl⟩
theorem AE {α:Type} {l:List α} (h:l.length=3):∃ a b c,l=[a,b,c]:=by
 match l,h with
 | [a,b,c],_=>exact⟨a,b,c,rfl⟩
theorem Ca {α:Type} {l:List α} (h:l.length=4):∃ a b c d,l=[a,b,c,d]:=by
 match l,h with
 | [a,b,c,d],_=>exact⟨a,b,c,d,rfl⟩
theorem Df {α:Type} {l:List α} (h:l.length=5):∃ a b c d e,l=[a,b,c,d,e]:=by
 match l,h with
 | [a,b,c,d,e],_=>exact⟨a,b,c,d,e,rfl⟩
def zH {α:Type} (d:α) (a b c:α):Nat→α|0=>a|1=>b|2=>c|_=>d
def zG {α:Type} (z:α) (a b c d e:α):Nat→α|0=>a|1=>b|2=>c|3=>d|4=>e|_=>z
theorem Ao:Rd 62 l7 (fun _=>True):=(Opens.struct Tryz.underlying62 (by kernel_rfl) (fun _ l=>∃ n:Int,l=[rI n]) (fun i f hf=>by
 rcases i with _|_|i<;>simp at hf<;>subst hf<;>exact oInt)).mono (by
 rintro l ⟨ls,h1,h2,rfl⟩
 obtain⟨a,b,rfl⟩:=yb h1
 obtain⟨x,rfl⟩:=h2 0 a rfl
 obtain⟨y,rfl⟩:=h2 1 b rfl
 exact⟨⟨x,y⟩,trivial,rfl⟩)
theorem BJ:Rd 57 l6 (fun _=>True):=(Opens.struct Tryz.underlying57 (by kernel_rfl) (fun _ l=>∃ n:Int,l=[rI n]) (fun i f hf=>by
 rcases i with _|_|_|i<;>simp at hf<;>subst hf<;>exact oInt)).mono (by
 rintro l ⟨ls,h1,h2,rfl⟩
 obtain⟨a,b,c,rfl⟩:=AE h1
 obtain⟨x,rfl⟩:=h2 0 a rfl
 obtain⟨y,rfl⟩:=h2 1 b rfl
 obtain⟨z,rfl⟩:=h2 2 c rfl
 exact⟨⟨x,y,z⟩,trivial,rfl⟩)
theorem Ax:Opens Tryz.prog 44 (fun l=>∃ xs:List Itm,l=[.sl (xs.map l7)]):=
 (Opens.sliceOf Tryz.underlying44 (sz:=2) (by kernel_rfl) (by decide) (fun _=>rfl) Ao).mono (by rintro l ⟨xs,_,h⟩;exact⟨xs,h⟩)
theorem BQ:Opens Tryz.prog 45 (fun l=>∃ xs:List Dim,l=[.sl (xs.map l6)]):=
 (Opens.sliceOf Tryz.underlying45 (sz:=3) (by kernel_rfl) (by decide) (fun _=>rfl) BJ).mono (by rintro l ⟨xs,_,h⟩;exact⟨xs,h⟩)
theorem BP:Opens Tryz.prog 25 (fun l=>∃ xs:List Int,l=[.sl (xs.map encI)]):=
 (Opens.sliceOf Tryz.underlying25 (sz:=1) (by kernel_rfl) (by decide) (fun _=>rfl) BI).mono (by rintro l ⟨xs,_,h⟩;exact⟨xs,h⟩)
theorem xQ:Rd 47 j0 ie:=(Opens.struct Tryz.underlying47 (by kernel_rfl) (zG (fun _=>True) (fun l=>∃ n:Int,l=[rI n]) (fun l=>∃ n:Int,l=[rI n]) (fun l=>∃ n:Int,(0≤n∧n≤255)∧l=[.raw (.int .u8 n)]) (fun l=>∃ xs:List Itm,l=[.sl (xs.map l7)]) (fun l=>∃ xs:List Dim,l=[.sl (xs.map l6)])) (fun i f hf=>by
 rcases i with _|_|_|_|_|i<;>simp at hf<;>subst hf
 ·exact oInt
 ·exact oInt
 ·exact DQ
 ·exact Ax
 ·exact BQ)).mono (by
 rintro l ⟨ls,h1,h2,rfl⟩
 obtain⟨a,b,c,d,e,rfl⟩:=Df h1
 obtain⟨x,rfl⟩:=h2 0 a rfl
 obtain⟨y,rfl⟩:=h2 1 b rfl
 obtain⟨z,hz,rfl⟩:=h2 2 c rfl
 obtain⟨u,rfl⟩:=h2 3 d rfl
 obtain⟨v,rfl⟩:=h2 4 e rfl
 exact⟨⟨x,y,z,u,v⟩,hz,rfl⟩)
theorem Au:Opens Tryz.prog 22 (fun l=>∃ xs:List Issue,(∀ x∈xs,ie x)∧l=[.sl (xs.map j0)]):=
 Opens.sliceOf Tryz.underlying22 (sz:=5) (by kernel_rfl) (by decide) (fun _=>rfl) xQ
theorem CR:Opens Tryz.prog 24 (fun l=>∃ xs:List Issue,(∀ x∈xs,ie x)∧l=[.sl (xs.map j0)]):=(Opens.struct Tryz.underlying24 (by kernel_rfl) (fun _ l=>∃ xs:List Issue,(∀ x∈xs,ie x)∧l=[.sl (xs.map j0)]) (fun i f hf=>by
 rcases i with _|i<;>simp at hf<;>subst hf<;>exact Au)).mono (by
 rintro l ⟨ls,h1,h2,rfl⟩
 obtain⟨a,rfl⟩:=List.length_eq_one_iff.1 h1
 obtain⟨x,hx,rfl⟩:=h2 0 a rfl
 exact⟨x,hx,rfl⟩)
theorem dg {P:Program} {W:World} {t e te n:Nat} {f:Field} {ps rs:Array TypeId} {cs:Array Value} {fuel:Nat} {p:List MemPlace} {names:List (List UInt8)} {fs:List FuncId} (ht:P.underlying t=some (.array n e)) (hte:P.underlying e=some (.struct #[f])) (hf0:f.offset=0) (hft:f.type=te) (hu:P.underlying te=some (.func ps rs false)) (hce:P.cellsOf e=1) (hcf:P.cellsOf te=1) (hn:names.length=n)
 (hfs:(names.zip fs).all (fun x=>x.1≠[]∧((List.range P.funcs.size).filter fun f=>(P.funcs[f]?).any (·.name.toUTF8.data.toList==x.1))=[x.2])=true) (hl:fs.length=n)
 (h:DataW.trod (funcToken P) P W 0 (fun _=>true) true fuel t cs.toList=some (.agg (names.map fun x=>.agg [.held x]),p)):∀ (j:Nat) (g:FuncId),fs[j]?=some g→cs[j]?=some (.func (.func g) #[] #[]):=by
 obtain⟨xs,m,_,ex,hlen,hxl,hel⟩:=DataW.trod_array ht h
 intro j g hg
 have hj:j<n:=by rw[← hl];exact g9 hg
 have hE:=hel j hj
 rw[hce,Nat.mul_one] at hE
 have hx:xs[j]?=some xs[j]:=by simp[hxl,hj]
 rw[hx] at hE
 obtain⟨ys,m2,_,ey,hlen2,hyl,hel2⟩:=DataW.trod_struct hte hE
 have hE2:=hel2 0 f rfl
 have hyl1:ys.length=1:=by simpa using hyl
 obtain⟨y,rfl⟩:=List.length_eq_one_iff.1 hyl1
 rw[hf0,hft,hcf] at hE2
 have hcl:j<cs.size:=by
  rcases Nat.lt_or_ge j cs.size with h1|h1
  ·exact h1
  ·simp[hce] at hlen2;omega
 have hc1:((cs.toList.drop j).take 1)=[cs[j]]:=by
  rw[List.drop_eq_getElem_cons (by simpa using hcl)];simp
 rw[hc1] at hE2
 simp only[List.drop_zero,List.take_succ_cons,List.getElem?_cons_zero,List.take_nil] at hE2
 have hnm:names[j]?=some names[j]:=by simp[hn,hj]
 have e1:(xs.map (·.1))[j]?=(names.map fun x=>DataW.agg [DataW.held x])[j]?:=by rw[(DataW.agg.inj (Prod.mk.inj ex).1)]
 rw[List.getElem?_map,List.getElem?_map,hx,hnm,ey] at e1
 simp only[Option.map_some,Option.some.injEq,DataW.agg.injEq,List.map_cons,List.map_nil,List.cons.injEq,and_true] at e1
 have hall:=List.all_eq_true.1 hfs (names[j],g) (List.mem_iff_getElem?.2 ⟨j,by rw[List.getElem?_zip_eq_some];exact⟨hnm,hg⟩⟩)
 simp only[decide_eq_true_eq] at hall
 cases hnj:names[j] with
 | nil=>exact absurd hnj hall.1
 | cons b r =>
   rw[hnj] at hall e1
   have:=func_of_trod (f0:=g) (q:=y.2) hu hall.2 (by rw[hE2,← e1])
   rw[Array.getElem?_eq_getElem hcl,this]
end Go.Proofs
namespace Go.Proofs
open Go Go.Ab
theorem kN {l:List Issue} (h:o6 l=0):∃ dep:Int→Int,∀ n∈nums l,1≤dep n∧dep n≤6∧∀ c∈aN l n,c∈nums l∧dep c<dep n:=by
 have hL:u6 l=true:=by
  cases hL:u6 l
  ·simp[o6,hL] at h
  ·rfl
 have h2:¬ X0 (B5 l) > (B5 l).length:=fun hg=>by simp[o6,hL,hg] at h
 have h6:¬ X0 (B5 l) > 6:=fun hg=>by simp[o6,hL,h2,hg] at h
 have hsc:=hL
 simp only[u6,Bool.and_eq_true] at hsc
 obtain⟨ds,hds⟩:=Option.isSome_iff_exists.1 hsc.1.1.2
 obtain⟨e,hlt,_,_,_⟩:=F1 hds
 have hall:=hsc.1.2
 rw[← e] at hall
 have hnd:ds.Nodup:=hlt.imp fun h=>Int.ne_of_lt h
 have hch:∀ n∈ds,∀ c∈aN l n,c∈ds:=fun n _ c hc=>by
  simp only[aN,List.mem_flatMap,List.mem_map] at hc
  obtain⟨x,hx,y,hy,rfl⟩:=hc
  have:=List.all_eq_true.1 (List.all_eq_true.1 hall x (List.mem_filter.1 hx).1) y hy
  simpa using this
 have e1:∀ n∈ds,Rr l (ds.length+1) n≤ds.length:=fun n hn=>Int.not_lt.1 fun hg=>h2 (by
  have:=(jp (Rr l (ds.length+1)) ds ds.length (by omega)).2 ⟨n,hn,hg⟩
  simpa[B5,← e] using this)
 have e2:∀ n∈ds,Rr l (ds.length+1) n≤6:=fun n hn=>Int.not_lt.1 fun hg=>h6 (by
  have:=(jp (Rr l (ds.length+1)) ds 6 (by omega)).2 ⟨n,hn,hg⟩
  simpa[B5,← e] using this)
 have h0:DInv l ds ([],fV ds):=by
  rw[kA hnd]
  exact⟨hnd,fun n h=>h,by simp,by simp,fun n h h'=>absurd h h'⟩
 obtain⟨hi,_⟩:=fa hch ds.length _ h0
 change DInv l ds (r8 l ds) at hi
 obtain⟨d1,d2⟩:=gv hnd hch
 have hz:(r8 l ds).2.length=0:=by
  refine Nat.eq_zero_of_not_pos fun hp=>?_
  obtain⟨n,hn,hg⟩:=d1.1 hp
  have:=e1 n hn;omega
 have hempty:∀ n,n∉(r8 l ds).2:=fun n=>by rw[List.length_eq_zero_iff.1 hz];simp
 refine⟨n7 (r8 l ds).1,fun n hn=>?_⟩
 rw[← e] at hn
 obtain⟨a,b,c⟩:=hi.val n hn (hempty n)
 have hn1:=c (ds.length+1) (by omega)
 refine⟨a,by have:=e2 n hn;omega,fun m hm=>?_⟩
 have hmd:=hch n hn m hm
 obtain⟨a',b',c'⟩:=hi.val m hmd (hempty m)
 have hm1:=c' ds.length (by omega)
 have hle:=iK (f:=Rr l ds.length) hm
 have hr:Rr l (ds.length+1) n=1+mx (Rr l ds.length) (aN l n):=rfl
 exact⟨by rw[← e];exact hmd,by omega⟩
open Go Go.Ab Tryz
variable {G:Es}
theorem sL (n lo hi:Int):zP prog G 146 [iv n,iv lo,iv hi] (bv (decide (lo≤n)&&decide (n≤hi))):=by
 refine zf func146 ntmps146 ?_
 try simp only[iv,iv,iv]
 have hs:=trivial
 repeat' first|(with_reducible first|refine zz ?_|refine zr ?_|refine zE [0,1,2,6] ?_)|simp -dsimp[hs]|with_reducible refine o4 ?_ ?_<;>intro h<;>have h0:=h<;>(try simp only[l8] at h)<;>have h2:=h<;>(try simp at h2)<;>replace hs:=za h0 (za h (za h2 hs))
 all_goals try clear hs
 all_goals simp[*]
theorem M7 (d:Dim):D8 d=true↔0≤d.nominal∧d.nominal≤1000000000∧0≤d.upper∧d.upper≤1000000000∧0≤d.lower∧d.lower≤d.upper:=by
 simp[D8];omega
theorem bC {b:Bool} {p:Prop} (h:b=true↔p) (hn:¬ p):b=false:=by
 cases b
 ·rfl
 ·exact absurd (h.1 rfl) hn
theorem rQ {b:Bool} {p:Prop} (h:b=true↔p) (hn:p):b=true:=h.2 hn
theorem zQ (d:Dim):zP prog G 115 [H1 d] (bv (D8 d)):=by
 refine zf func115 ntmps115 ?_
 try simp only[H1]
 have hs:=trivial
 repeat' first|(with_reducible first|refine zz ?_|refine zr ?_|refine zE [0,1,2] ?_)|simp -dsimp[hs]|refine zp (sL (G:=G) _ _ _) ?_|with_reducible refine o4 ?_ ?_<;>intro h<;>have h0:=h<;>(try simp only[l8] at h)<;>have h2:=h<;>(try simp at h2)<;>replace hs:=za h0 (za h (za h2 hs))
 ·rw[Bool.eq_iff_iff,M7];simp;omega
 ·exact bC (M7 d) (by omega)
 ·exact bC (M7 d) (by omega)
theorem bF (x:Issue):(wK x&&yK x)=true↔1≤x.drawing∧x.drawing≤9999∧1≤x.letter∧x.letter≤8∧(x.kind=1∧1≤x.items.length∧x.items.length≤8∧x.dims.length=0∨2≤x.kind∧x.kind≤3∧x.dims.length≤4∧x.items.length=0):=by
 unfold wK yK
 split
 ·simp only[Bool.and_eq_true,decide_eq_true_eq];omega
 ·simp only[Bool.and_eq_true,decide_eq_true_eq];omega
theorem nh {d:Int} {l:List Itm} {k:Nat} (hlt:k<l.length) (hno:F4 d 0 l=F4 d (pv l k) (l.drop k)) :
 F4 d 0 l=true↔(1≤l[k].drawing∧l[k].drawing≤9999∧1≤l[k].count∧l[k].count≤20∧l[k].drawing≠d∧pv l k<l[k].drawing)∧F4 d (pv l (k+1)) (l.drop (k+1))=true:=by
 have hx:l[k]?=some l[k]:=by simp[hlt]
 have hpv1:pv l (k+1)=l[k].drawing:=by simp[pv,hx]
 rw[hno,List.drop_eq_getElem_cons hlt,F4,hpv1]
 simp only[Bool.and_eq_true,decide_eq_true_eq,Bool.not_eq_true',decide_eq_false_iff_not]
 constructor
 ·rintro⟨⟨⟨⟨⟨a,b⟩,c,d⟩,e⟩,f⟩,g⟩;exact⟨⟨a,b,c,d,e,f⟩,g⟩
 ·rintro⟨⟨a,b,c,d,e,f⟩,g⟩;exact⟨⟨⟨⟨⟨a,b⟩,c,d⟩,e⟩,f⟩,g⟩
theorem E9 {b c:Bool} {p:Prop} (h:b=true↔p∧c=true) (hp:p):b=c:=by
 rw[Bool.eq_iff_iff,h];exact⟨fun h=>h.2,fun h=>⟨hp,h⟩⟩
theorem A5 {b c:Bool} {p:Prop} (h:b=true↔p∧c=true) (hp:¬ p):b=false:=bC h fun h=>hp h.1
theorem V8 {α:Type} {f:α→Bool} {l:List α} {k:Nat} (hlt:k<l.length) (hno:l.all f=(l.drop k).all f):l.all f=true↔f l[k]=true∧(l.drop (k+1)).all f=true:=by
 rw[hno,List.drop_eq_getElem_cons hlt,List.all_cons,Bool.and_eq_true]
theorem yf (x:Issue) (hk:0≤x.kind∧x.kind≤255) (hl:x.items.length<1000000) (hd:x.dims.length<1000000):zP prog G 149 [E4 x] (bv (o8 x)):=by
 refine zf func149 ntmps149 ?_
 try simp only[E4]
 have hw:IntKind.i64.wrap x.kind=x.kind:=u7 (by omega) (by omega)
 have h12:=bF x
 generalize hA:(wK x&&yK x)=A at h12
 have hs:=hw
 repeat' first|(with_reducible first|refine zz ?_|refine zr ?_|refine zE [0,1,2,3,4,5,57,62,102,107,116] ?_)|simp -dsimp[hs]|refine zp (bj (G:=G) _ _ _) ?_|refine m5 ?_ ?_<;>intro h<;>try simp only[l8] at h|with_reducible refine o4 ?_ ?_<;>intro h<;>have h0:=h<;>(try simp only[l8] at h)<;>have h2:=h<;>(try simp at h2)<;>replace hs:=za h0 (za h (za h2 hs))
 all_goals try clear hs
 all_goals first
  | (have hA2 : A = false := bC h12 (by clear h12 hA hw; omega)
     rw[hA2] at hA
     simp[o8,hA];done)
  | have hA2:A=true:=rQ h12 (by clear h12 hA hw;omega)
    rw[hA2] at hA
    clear h12 hA2
    refine j7 (ι:={ k:Nat // k≤x.items.length∧F4 x.drawing 0 x.items=F4 x.drawing (pv x.items k) (x.items.drop k) }) (fun p=>⟨117,[(1,.one (.ptr 0 0)),(2,bv false),(3,iv (p.1:Int))],[.row ((j0 x).map .im)]⟩) (fun p=>x.items.length-p.1) ⟨0,by simp[pv]⟩ (zv [1,2,3] (by clear hA;simp_all)) ?_
    clear hw
    rintro⟨k,hk,hno⟩
    simp only[iv,j0,rI,List.map_cons,List.map_nil]
 all_goals
  by_cases hlt:k<x.items.length
  ·have hx:x.items[k]?=some x.items[k]:=by simp[hlt]
   have hw:=zk k
   have hst:=nh hlt hno
   by_cases hk0:0<k
   ·have hkx:x.items[k-1]?=some x.items[k-1]:=by simp
    have hw3:IntKind.i64.wrap ((k:Int)-1)=((k-1:Nat):Int):=by rw[u7 (by omega) (by omega)];omega
    have hpv0:pv x.items k=x.items[k-1].drawing:=by
     obtain⟨j,rfl⟩:∃ j,k=j+1:=⟨k-1,by omega⟩
     have:x.items[j]?=some x.items[j]:=by simp
     simp[pv,this]
    rw[hpv0] at hst
    have hs:=za hx (za hw (za hw3 (za hkx (za hk0 hlt))))
    repeat' first|(with_reducible first|refine zz ?_|refine zr ?_)|simp -dsimp[hs]|refine zq (bj (G:=G) _ _ _) ?_|refine zM 7 117 33 [0,1,2,3,4,5,57,62,102,107,116] ?_|with_reducible refine zE [0,1,2,3,4,5,57,62,102,107,116] ?_|refine m5 ?_ ?_<;>intro h<;>try simp only[l8] at h|with_reducible refine o4 ?_ ?_<;>intro h<;>have h0:=h<;>(try simp only[l8] at h)<;>have h2:=h<;>(try simp at h2)<;>replace hs:=za h0 (za h (za h2 hs))
    all_goals try clear hs
    all_goals first
     | (have hf:=A5 hst (by omega);simp[o8,hf];done)
     | exact zn ⟨k+1,by omega,E9 hst (by omega)⟩ (zw [1,2,3] 1)
   ·obtain rfl:k=0:=by omega
    rw[show pv x.items 0=0 from rfl] at hst
    have hs:=za hx (za hw (za hk0 hlt))
    repeat' first|(with_reducible first|refine zz ?_|refine zr ?_)|simp -dsimp[hs]|refine zq (bj (G:=G) _ _ _) ?_|refine zM 7 117 33 [0,1,2,3,4,5,57,62,102,107,116] ?_|with_reducible refine zE [0,1,2,3,4,5,57,62,102,107,116] ?_|refine m5 ?_ ?_<;>intro h<;>try simp only[l8] at h|with_reducible refine o4 ?_ ?_<;>intro h<;>have h0:=h<;>(try simp only[l8] at h)<;>have h2:=h<;>(try simp at h2)<;>replace hs:=za h0 (za h (za h2 hs))
    all_goals try clear hs
    all_goals first
     | (have hf:=A5 hst (by omega);simp[o8,hf];done)
     | exact zn ⟨0+1,by omega,E9 hst (by omega)⟩ (zw [1,2,3] 1 (by simp;exact u7 (by omega) (by omega)))
  ·have hit:F4 x.drawing 0 x.items=true:=by rw[hno,List.drop_eq_nil_of_le (by omega)];rfl
   have hs:=hlt
   repeat' first|(with_reducible first|refine zz ?_|refine zE [0,1,2,3,4,5,57,62,102,107,116] ?_)|simp -dsimp[hs]|refine m5 ?_ ?_<;>intro h<;>try simp only[l8] at h
   all_goals try clear hs
   refine j7 (ι:={ k:Nat // k≤x.dims.length∧x.dims.all D8=(x.dims.drop k).all D8 }) (fun p=>⟨117,[(1,.one (.ptr 0 0)),(2,bv false),(5,iv (p.1:Int))],[.row ((j0 x).map .im)]⟩) (fun p=>x.dims.length-p.1) ⟨0,by simp⟩ (zv [1,2,5]) ?_
   rintro⟨j,hj,hdo⟩
   simp only[iv,j0,rI,List.map_cons,List.map_nil]
   by_cases hlj:j<x.dims.length
   ·have hx:x.dims[j]?=some x.dims[j]:=by simp[hlj]
    have hw:=zk j
    have hst:=V8 hlj hdo
    have cd:=zQ (G:=G) x.dims[j]
    have hs:=za hx (za hw hlj)
    repeat' first|(with_reducible first|refine zz ?_|refine zr ?_|refine zE [0,1,2,3,4,5,57,62,102,107,116] ?_)|simp -dsimp[hs]|refine zp cd ?_|refine m5 ?_ ?_<;>intro h<;>try simp only[l8] at h
    all_goals try clear hs
    ·simp only[o8,hA,hit,Bool.true_and]
     exact A5 hst (by rw[‹D8 x.dims[j]=false›];exact Bool.false_ne_true)
    ·exact zn ⟨j+1,by omega,E9 hst ‹D8 x.dims[j]=true›⟩ (zv [1,2,5])
   ·have hdims:x.dims.all D8=true:=by rw[hdo,List.drop_eq_nil_of_le (by omega)];rfl
    have hs:=hlj
    repeat' first|(with_reducible first|refine zz ?_|refine zr ?_|refine zE [0,1,2,3,4,5,57,62,102,107,116] ?_)|simp -dsimp[hs]|refine m5 ?_ ?_<;>intro h<;>try simp only[l8] at h
    all_goals try clear hs
    simp[o8,hA,hit,hdims]
end Go.Proofs
namespace Go.Ab
open Go
@[simp] theorem CD (L:List Int) (k:Nat) (v:Int):(o7 (L.map encI)).set k [DC.im (.raw (.int .i64 v))]=o7 ((L.set k v).map encI):=by
 simp only[o7,List.map_set,encI,rI,List.map_cons,List.map_nil]
@[simp] theorem Cf (L:List Int) (k:Nat):(o7 (L.map encI))[k]?=(L[k]?).map fun v=>[DC.im (.raw (.int .i64 v))]:=by
 simp only[o7,List.getElem?_map,Option.map_map];rfl
@[simp] theorem Ce (L:List Int) (k:Nat) (h:k<(o7 (L.map encI)).length):(o7 (L.map encI))[k]=[DC.im (.raw (.int .i64 (L[k]'(by simpa[p6] using h))))]:=by
 simp[o7]
@[simp] theorem Cy (n:Nat) (c:IC):List.replicate n [DC.im c]=o7 (List.replicate n [c]):=by simp[o7]
theorem jq {α β:Type} {f:α→β} {c:β} (h:∀ x,f x=c):∀ l:List α,l.map f=List.replicate l.length c
 | []=>rfl
 | x :: l=>by simp[jq h l,h x,List.replicate_succ]
@[simp] theorem xG (n:Nat) (c:List IC):(o7 (List.replicate n c)).take n=o7 (List.replicate n c):=List.take_of_length_le (by simp[p6])
theorem kw {α β:Type} {f:α→β} {l:List α} {k:Nat} {x:α} {v:β} (hn:l.Nodup) (hk:l[k]?=some x):(l.map f).set k v=l.map (fun y=>open Classical in if y=x then v else f y):=by
 refine List.ext_getElem? fun j=>?_
 obtain⟨hlt,he⟩:=List.getElem?_eq_some_iff.1 hk
 by_cases hj:j=k
 ·subst hj
  rw[List.getElem?_set_self (by simpa using hlt),List.getElem?_map,hk];simp
 ·rw[List.getElem?_set_ne (Ne.symm hj),List.getElem?_map,List.getElem?_map]
  cases hy:l[j]? with
  | none=>rfl
  | some y =>
    have:y≠x:=fun e=>hj ((List.getElem?_inj (List.getElem?_eq_some_iff.1 hy).1 hn).1 (by rw[hy,hk,e]))
    simp[this]
end Go.Ab
namespace Go.Proofs
open Go Go.Ab Tryz
variable {G:Es}
def Rp (l:List Issue) (r:Nat) (pre:List Issue) (n:Int):Int:=if pre.any (fun x=>decide (x.drawing=n)) then 1+mx (Rr l r) (aN pre n) else 0
def Rq (l:List Issue) (r:Nat) (v:Int) (ys:List Itm):Int:=max (max v 1) (1+mx (Rr l r) (ys.map (·.drawing)))
theorem ma (f:Int→Int) (a b:List Int):mx f (a++b)=max (mx f a) (mx f b):=by
 rw[mx,List.foldl_append]
 exact bt f b _ (L9 f a)
theorem Bh (l:List Issue) (r:Nat) (v:Int):Rq l r v []=max v 1:=by
 have:mx (Rr l r) []=0:=rfl
 simp only[Rq,List.map_nil,this];omega
theorem yT (l:List Issue) (r:Nat) (v:Int) (ys:List Itm) (y:Itm):Rq l r v (ys++[y])=max (Rq l r v ys) (1+Rr l r y.drawing):=by
 have h:=mK l r y.drawing
 have:mx (Rr l r) [y.drawing]=Rr l r y.drawing:=by simp only[mx,List.foldl_cons,List.foldl_nil];omega
 simp only[Rq,List.map_append,List.map_cons,List.map_nil,ma,this];omega
theorem yU (l:List Issue) (r:Nat) (pre:List Issue) (x:Issue) (n:Int):Rp l r (pre++[x]) n=if n=x.drawing then Rq l r (Rp l r pre n) x.items else Rp l r pre n:=by
 by_cases hn:n=x.drawing
 ·subst hn
  rw[if_pos rfl]
  have hc:aN (pre++[x]) x.drawing=aN pre x.drawing++x.items.map (·.drawing):=by simp[aN,cw]
  have h1:=L9 (Rr l r) (aN pre x.drawing)
  have h2:=L9 (Rr l r) (x.items.map (·.drawing))
  unfold Rp
  rw[if_pos (by simp),hc,ma]
  unfold Rq
  split
  ·omega
  ·rename_i hp
   have:aN pre x.drawing=[]:=by
    simp only[aN,cw]
    rw[List.filter_eq_nil_iff.2 fun y hy=>?_]
    ·rfl
    ·intro he;exact hp (List.any_eq_true.2 ⟨y,hy,he⟩)
   have h3:mx (Rr l r) []=0:=rfl
   rw[this,h3];omega
 ·rw[if_neg hn]
  have hc:aN (pre++[x]) n=aN pre n:=by simp[aN,cw,Ne.symm hn]
  unfold Rp
  rw[hc]
  simp[Ne.symm hn]
theorem yV {l:List Issue} {n:Int} (r:Nat) (h:∃ x∈l,x.drawing=n):Rp l r l n=Rr l (r+1) n:=by
 unfold Rp
 obtain⟨x,hx,he⟩:=h
 rw[if_pos (List.any_eq_true.2 ⟨x,hx,by simpa using he⟩)];rfl
theorem aY {x:Issue} (h:o8 x=true):x.items.length≤8∧x.dims.length≤4:=by
 simp only[o8,Bool.and_assoc] at h
 rw[← Bool.and_assoc,Bool.and_eq_true] at h
 have:=(bF x).1 h.1;omega
theorem vP {l:List Issue} {n:Int} (h:n∈nums l):∃ x∈l,x.drawing=n:=by
 have gen:∀ k,n∈E8 l k→∃ x∈l,x.drawing=n:=by
  intro k
  induction k with
  | zero=>intro h;cases h
  | succ k ih =>
    intro h
    simp only[E8] at h
    rcases List.mem_append.1 h with h|h
    ·exact ih h
    ·split at h
     ·rename_i x hx
      split at h
      ·rw[List.mem_singleton] at h
       exact⟨x,List.mem_of_getElem? hx,h.symm⟩
      ·cases h
     ·cases h
 exact gen _ h
theorem nf {l:List Issue} (h:u6 l=true):o3 none l=some (nums l):=by
 simp only[u6,Bool.and_eq_true] at h
 obtain⟨ds,hds⟩:=Option.isSome_iff_exists.1 h.1.1.2
 rw[hds,dC hds]
theorem bW {l:List Int} (hn:l.Nodup) {k:Nat} {x:Int} (h:l[k]?=some x):idx l x=k:=by
 refine sm h fun j hj he=>?_
 have h1:=(List.getElem?_eq_some_iff.1 h).1
 rw[← he] at h
 have:=(List.getElem?_inj h1 hn).1 h
 omega
theorem tn (l:List Issue) (hl:u6 l=true):zP prog G 121 [C8 l] (H0 (B5 l)):=by
 refine zf func121 ntmps121 ?_
 try simp only[C8]
 have hli:=hl
 simp only[u6,Bool.and_eq_true,decide_eq_true_eq,List.all_eq_true] at hli
 obtain⟨⟨⟨⟨hl1,hl60⟩,hsc⟩,hitems⟩,hn20⟩:=hli
 have c1:=L8 (G:=G) l (by omega)
 have hD:B5 l=(nums l).map (Rr l ((nums l).length+1)):=rfl
 obtain⟨_,hlt',hmem,hok,_⟩:=F1 (nf hl)
 have hnd:(nums l).Nodup:=hlt'.imp fun h=>Int.ne_of_lt h
 generalize hns:nums l=ns at *
 have hs:=trivial
 repeat' first|(with_reducible first|refine zz ?_|refine And.intro (by omega) ?_|refine zE [0,1,2,3,4,5,6,7,8,9,10,19,29,53] ?_)|simp -dsimp[hs]|refine zp c1 ?_
 refine j7 (ι:={ r:Nat // r≤ns.length+1 }) (fun p=>⟨78,[(1,.one (.ptr 0 0)),(3,H0 ns),(4,H0 (ns.map (Rr l p.1))),(5,iv (p.1:Int))],[.row [.im (.sl (l.map j0))]]⟩) (fun p=>ns.length+1-p.1) ⟨0,by omega⟩ (zw [1,3,4,5] 1 (by simp[jq (f:=encI ∘ Rr l 0) (c:=[rI 0]) (fun _=>rfl)])) ?_
 rintro⟨r,hr⟩
 simp only[iv,H0]
 by_cases hrl:r≤ns.length
 ·have hw:=zk r
  have hs:=hrl
  repeat' first|(with_reducible first|refine zz ?_|refine And.intro (by omega) ?_|refine zE [0,1,2,3,4,5,6,7,8,9,10,19,29,53] ?_)|simp -dsimp[hs]|refine m5 ?_ ?_<;>intro h<;>try simp only[l8] at h
  refine j7 (ι:={ p:Nat×List Int // p.1≤l.length∧p.2=ns.map (Rp l r (l.take p.1)) }) (fun p=>⟨78,[(1,.one (.ptr 0 0)),(3,H0 ns),(4,H0 (ns.map (Rr l r))),(5,iv (r:Int)),(6,.one (.vec 1 0 0 ns.length)),(7,iv (p.1.1:Int))],[.row [.im (.sl (l.map j0))],.vec 1 (o7 (p.1.2.map encI)) 0 false]⟩) (fun p=>l.length-p.1.1) ⟨(0,List.replicate ns.length 0),by omega,(jq (fun _=>rfl) ns).symm⟩ (zv [1,3,4,5,6,7]) ?_
  rintro⟨⟨i,L⟩,hi,hL⟩
  simp only at hi hL
  simp only[iv,H0]
  by_cases hlt:i<l.length
  ·have hx:l[i]?=some l[i]:=by simp[hlt]
   have hw1:=zk i
   obtain⟨k,hk⟩:=List.mem_iff_getElem?.1 (hmem l[i] (List.getElem_mem hlt))
   have hkl:=g9 hk
   have hidx:=bW hnd hk
   have c2:=bV (G:=G) ns l[i].drawing (by omega)
   rw[hidx] at c2
   have hLk:L[k]?=some (Rp l r (l.take i) l[i].drawing):=by rw[hL,List.getElem?_map,hk];rfl
   generalize hv:Rp l r (l.take i) l[i].drawing=v at hLk
   have hit:=hitems l[i] (List.getElem_mem hlt)
   have hsm:=(aY (hok l[i] (List.getElem_mem hlt))).1
   have hs:=za hx (za hw1 (za hlt (za hkl hLk)))
   repeat' first|(with_reducible first|refine zz ?_|refine zE [0,1,2,3,4,5,6,7,8,9,10,19,29,53] ?_)|simp -dsimp[hs]|refine zp c2 ?_|refine m5 ?_ ?_<;>intro h<;>try simp only[l8] at h
   refine j7 (ι:={ p:Nat×List Int // p.1≤l[i].items.length∧p.2=L.set k (Rq l r v (l[i].items.take p.1)) }) (fun p=>⟨78,[(1,.one (.ptr 0 0)),(3,H0 ns),(4,H0 (ns.map (Rr l r))),(5,iv (r:Int)),(6,.one (.vec 1 0 0 ns.length)),(7,iv (i:Int)),(8,.one (.ptr 4 0)),(9,iv (k:Int)),(10,iv (p.1.1:Int))],[.row [.im (.sl (l.map j0))],.vec 1 (o7 (p.1.2.map encI)) 0 false,.vec 0 [] 0 true,.vec 0 [] 0 true,.row ((j0 l[i]).map .im)]⟩) (fun p=>l[i].items.length-p.1.1) ⟨(0,L.set k (max v 1)),by omega,by simp only[List.take_zero,Bh]⟩ (zv [1,3,4,5,6,7,8,9,10]) ?_
   rintro⟨⟨u,L'⟩,hu,hL'⟩
   simp only at hu hL'
   simp only[iv,H0,j0,rI,List.map_cons,List.map_nil]
   have hkL:k<L.length:=g9 hLk
   by_cases hlu:u<l[i].items.length
   ·have hy:l[i].items[u]?=some l[i].items[u]:=by simp[hlu]
    have hw2:=zk u
    obtain⟨m,hm⟩:=List.mem_iff_getElem?.1 (hit l[i].items[u] (List.getElem_mem hlu))
    have hml:=g9 hm
    have hmn:ns[m]=l[i].items[u].drawing:=(List.getElem?_eq_some_iff.1 hm).2
    have hidx2:=bW hnd hm
    have c3:=bV (G:=G) ns l[i].items[u].drawing (by omega)
    rw[hidx2] at c3
    have hLk':L'[k]?=some (Rq l r v (l[i].items.take u)):=by rw[hL',List.getElem?_set_self hkL]
    have hb1:=mK l r l[i].items[u].drawing
    have hb2:=xc l r l[i].items[u].drawing
    have hw3:IntKind.i64.wrap (1+Rr l r l[i].items[u].drawing)=1+Rr l r l[i].items[u].drawing:=u7 (by omega) (by omega)
    have hnext:L'.set k (max (Rq l r v (l[i].items.take u)) (1+Rr l r l[i].items[u].drawing))=L.set k (Rq l r v (l[i].items.take (u+1))):=by
     rw[List.take_succ_eq_append_getElem hlu,yT,hL',List.set_set]
    have hs:=za hy (za hw2 (za hlu (za hkl (za hLk' (za hm (za hml (za hmn hw3)))))))
    repeat' first|with_reducible refine zz ?_|simp -dsimp[hs]|refine zq c3 ?_|refine zM 16 78 20 [0,1,2,3,4,5,6,7,8,9,10,19,29,53] ?_|with_reducible refine zE [0,1,2,3,4,5,6,7,8,9,10,19,29,53] ?_|refine m5 ?_ ?_<;>intro h<;>try simp only[l8] at h
    exact zn ⟨(u+1,L'.set k (max (Rq l r v (l[i].items.take u)) (1+Rr l r l[i].items[u].drawing))),by omega,hnext⟩ (zv [1,3,4,5,6,7,8,9,10])
   ·have hend:L'=ns.map (Rp l r (l.take (i+1))):=by
     rw[hL',List.take_of_length_le (by omega),hL,kw hnd hk]
     refine List.map_congr_left fun n _=>?_
     rw[List.take_succ_eq_append_getElem hlt,yU]
     split
     ·rename_i e;rw[e,hv]
     ·rfl
    have hs:=za hlu hw1
    repeat' first|(with_reducible first|refine zz ?_|refine zE [0,1,2,3,4,5,6,7,8,9,10,19,29,53] ?_)|simp -dsimp[hs]|refine m5 ?_ ?_<;>intro h<;>try simp only[l8] at h
    exact zn ⟨(i+1,L'),by omega,hend⟩ (zw [1,3,4,5,6,7] 2)
  ·have hend:L=ns.map (Rr l (r+1)):=by
    rw[hL,List.take_of_length_le (by omega)]
    refine List.map_congr_left fun n hn=>yV r ?_
    rw[← hns] at hn
    exact vP hn
   have hLn:L.length=ns.length:=by rw[hL,List.length_map]
   have hs:=za hlt hw
   repeat' first|(with_reducible first|refine zz ?_|refine zE [0,1,2,3,4,5,6,7,8,9,10,19,29,53] ?_)|simp -dsimp[hs]|refine m5 ?_ ?_<;>intro h<;>try simp only[l8] at h
   exact zn ⟨r+1,by omega⟩ (zw [1,3,4,5] 1 (by simp[← hLn];rw[hend];simp))
 ·have hs:=hrl
  repeat' first|(with_reducible first|refine zz ?_|refine zr ?_|refine zE [0,1,2,3,4,5,6,7,8,9,10,19,29,53] ?_)|simp -dsimp[hs]|refine m5 ?_ ?_<;>intro h<;>try simp only[l8] at h
  have hr1:r=ns.length+1:=by omega
  rw[hD,hr1];simp
theorem dE (x:Issue) (r:List Issue):(o3 none (x :: r)).isSome=true↔(o8 x=true∧x.letter=1)∧(o3 (some x) r).isSome=true:=by
 simp only[o3]
 by_cases h1:o8 x=false
 ·simp[h1]
 ·by_cases h2:x.letter=1
  ·simp[h1,h2]
  ·simp[h1,h2]
theorem dD (y x:Issue) (r:List Issue):(o3 (some y) (x :: r)).isSome=true↔(o8 x=true∧(y.drawing=x.drawing∧y.letter+1=x.letter∧y.kind=x.kind∨y.drawing<x.drawing∧x.letter=1))∧(o3 (some x) r).isSome=true:=by
 simp only[o3]
 by_cases h1:o8 x=false
 ·simp[h1]
 ·have h1':o8 x=true:=by simpa using h1
  by_cases hd:y.drawing=x.drawing
  ·have hlt:¬ x.drawing<x.drawing:=by omega
   by_cases h2:y.letter+1=x.letter<;>by_cases h3:y.kind=x.kind<;>simp[h1',hd,h2,h3]
  ·by_cases hg:y.drawing > x.drawing
   ·have:¬ y.drawing<x.drawing:=by omega
    simp[h1',hd,hg,this]
   ·have:y.drawing<x.drawing:=by omega
    by_cases h2:x.letter=1<;>simp[h1',hd,hg,h2,this]
theorem ym {l:List Int} {x:Int} (h:x∉l):idx l x=-1:=wm fun j _ he=>h (List.mem_of_getElem? he)
theorem eV {l:List Int} {x:Int} (h:x∈l):0≤idx l x:=by
 unfold idx
 cases hh:l.idxOf? x with
 | none =>
   rw[List.idxOf?,List.findIdx?_eq_none_iff] at hh
   have:=hh x h;simp at this
 | some i=>simp
theorem sn (l:List Int) (x:Int):idx l x<0↔x∉l:=by
 constructor
 ·intro h hm;have:=eV hm;omega
 ·intro h;rw[ym h];omega
theorem aX {l:List Issue} (h:(o3 none l).isSome=false):u6 l=false:=by simp[u6,h]
theorem vZ (l:List Issue) (hs:W9 l):zP prog G 120 [C8 l] (bv (u6 l)):=by
 refine zf func120 ntmps120 ?_
 try simp only[C8]
 have hl80:=hs.1
 by_cases hrange:1≤l.length∧l.length≤60
 ·have d1:decide ((1:Int)≤(l.length:Int))=true:=by simp;omega
  have d2:decide ((l.length:Int)≤60)=true:=by simp;omega
  have c0:=bj (G:=G) (l.length:Int) 1 60
  rw[d1,d2] at c0
  have hs:=trivial
  repeat' first|(with_reducible first|refine zz ?_|refine zE [0,1,2,3,4,5,6,7,8,13,18,28,31,38,44,52,53,73,84,99] ?_)|simp -dsimp[hs]|refine zp c0 ?_|refine m5 ?_ ?_<;>intro h<;>try simp only[l8] at h
  all_goals try clear hs
  refine j7 (ι:={ i:Nat // i≤l.length∧(o3 none l).isSome=(o3 (J0 l i) (l.drop i)).isSome∧∀ x∈l.take i,o8 x=true }) (fun p=>⟨103,[(1,.one (.ptr 0 0)),(2,bv false),(3,iv (p.1:Int))],[.row [.im (.sl (l.map j0))]]⟩) (fun p=>l.length-p.1) ⟨0,by simp[J0]⟩ (zv [1,2,3]) ?_
  rintro⟨i,hi,hscan,hok⟩
  simp only[iv]
  by_cases hlt:i<l.length
  ·have hx:l[i]?=some l[i]:=by simp[hlt]
   have hw:=zk i
   have hsm:=hs.2 l[i] (List.getElem_mem hlt)
   have c1:=yf (G:=G) l[i] ⟨hsm.1,hsm.2.1⟩ (by omega) (by omega)
   rw[List.drop_eq_getElem_cons hlt] at hscan
   have hnext:J0 l (i+1)=some l[i]:=by simp[J0]
   cases hq:o8 l[i]
   ·rw[hq] at c1
    have hf:u6 l=false:=aX (by
     rw[hscan]
     cases J0 l i with
     | none=>exact A5 (dE l[i] _) (by simp[hq])
     | some y=>exact A5 (dD y l[i] _) (by simp[hq]))
    have hs:=za hx hlt
    repeat' first|(with_reducible first|refine zz ?_|refine zr ?_|refine zE [0,1,2,3,4,5,6,7,8,13,18,28,31,38,44,52,53,73,84,99] ?_)|simp -dsimp[hs]|refine zp c1 ?_|refine m5 ?_ ?_<;>intro h<;>try simp only[l8] at h
    all_goals try clear hs
    simp[hf]
   ·rw[hq] at c1
    have hokn:∀ x∈l.take (i+1),o8 x=true:=by
     rw[List.take_succ_eq_append_getElem hlt]
     intro x hx
     rcases List.mem_append.1 hx with h|h
     ·exact hok x h
     ·simp at h;rw[h];exact hq
    have hdr:1≤l[i].drawing:=by
     simp only[o8,Bool.and_assoc] at hq
     rw[← Bool.and_assoc,Bool.and_eq_true] at hq
     have:=(bF _).1 hq.1;omega
    by_cases hi0:i=0
    ·subst hi0
     have hst:=dE l[0] (l.drop 1)
     simp only[J0] at hscan
     rw[Nat.zero_add] at hscan
     rw[← hscan] at hst
     have hs:=za hx (za hlt hw)
     repeat' first|(with_reducible first|refine zz ?_|refine zr ?_|refine zE [0,1,2,3,4,5,6,7,8,13,18,28,31,38,44,52,53,73,84,99] ?_)|simp -dsimp[hs]|refine zp c1 ?_|refine m5 ?_ ?_<;>intro h<;>try simp only[l8] at h|with_reducible refine o4 ?_ ?_<;>intro h<;>have h0:=h<;>(try simp only[l8] at h)<;>have h2:=h<;>(try simp at h2)<;>replace hs:=za h0 (za h (za h2 hs))
     all_goals try clear hs
     all_goals first
      | (exfalso;omega)
      | (have hf:=aX (A5 hst (by omega));simp[hf];done)
      | exact zn ⟨1,by omega,by rw[hnext];exact E9 hst ⟨hq,by omega⟩,hokn⟩ (zw [1,2,3] 1 (by simp;exact u7 (by omega) (by omega)))
    ·obtain⟨m,rfl⟩:∃ m,i=m+1:=⟨i-1,by omega⟩
     have hy:l[m]?=some l[m]:=by simp
     have hw1:IntKind.i64.wrap (((m+1:Nat):Int)-1)=m:=u7 (by omega) (by omega) |>.trans (by omega)
     have hw2:IntKind.i64.wrap (m:Int)=m:=u7 (by omega) (by omega)
     have hoky:=hok l[m] (List.mem_take_iff_getElem.2 ⟨m,by omega,rfl⟩)
     have hlet:1≤l[m].letter∧l[m].letter≤8:=by simp[o8,wK] at hoky;omega
     have hwl:IntKind.i64.wrap (l[m].letter+1)=l[m].letter+1:=u7 (by omega) (by omega)
     have hst:=dD l[m] l[m+1] (l.drop (m+1+1))
     simp only[J0,hy] at hscan
     rw[← hscan] at hst
     have hpos:(0:Int)<(m:Int)+1:=by omega
     have hlt2:(m:Int)+1<(l.length:Int):=by omega
     have hge:(0:Int)≤(m:Int)+1:=by omega
     have hs:=za hge (za hx (za hlt (za hlt2 (za hw (za hy (za hw1 (za hw2 (za hwl hpos))))))))
     repeat' first|(with_reducible first|refine zz ?_|refine zr ?_|refine zE [0,1,2,3,4,5,6,7,8,13,18,28,31,38,44,52,53,73,84,99] ?_)|simp -dsimp[hs]|refine zp c1 ?_|refine m5 ?_ ?_<;>intro h<;>try simp only[l8] at h|with_reducible refine o4 ?_ ?_<;>intro h<;>have h0:=h<;>(try simp only[l8] at h)<;>have h2:=h<;>(try simp at h2)<;>replace hs:=za h0 (za h (za h2 hs))
     all_goals try clear hs
     all_goals first
      | (exfalso;omega)
      | (have hf:=aX (A5 hst (by omega));simp[hf];done)
      | exact zn ⟨m+1+1,by omega,by rw[hnext];exact E9 hst ⟨hq,by omega⟩,hokn⟩ (zw [1,2,3] 1 (by simp;try exact u7 (by omega) (by omega)))
  ·have hsome:(o3 none l).isSome=true:=by
    rw[hscan,List.drop_eq_nil_of_le (by omega)]
    cases J0 l i<;>rfl
   have c2:=L8 (G:=G) l (by omega)
   have hE:u6 l=(l.all (fun x=>x.items.all fun y=>decide (y.drawing∈nums l))&&decide ((nums l).length≤20)):=by
    simp[u6,hsome,hrange]
   have hnl:(nums l).length≤l.length:=p8 l l.length
   generalize nums l=ns at *
   have hs:=hlt
   repeat' first|(with_reducible first|refine zz ?_|refine zE [0,1,2,3,4,5,6,7,8,13,18,28,31,38,44,52,53,73,84,99] ?_)|simp -dsimp[hs]|refine zp c2 ?_|refine m5 ?_ ?_<;>intro h<;>try simp only[l8] at h
   all_goals try clear hs
   refine j7 (ι:={ i:Nat // i≤l.length∧l.all (fun x=>x.items.all fun y=>decide (y.drawing∈ns))=(l.drop i).all (fun x=>x.items.all fun y=>decide (y.drawing∈ns)) }) (fun p=>⟨103,[(1,.one (.ptr 0 0)),(2,bv false),(6,H0 ns),(7,iv (p.1:Int))],[.row [.im (.sl (l.map j0))]]⟩) (fun p=>l.length-p.1) ⟨0,by simp⟩ (zw [1,2,6,7] 1) ?_
   clear hscan hok
   rintro⟨k,hk,hall⟩
   simp only[iv,H0]
   by_cases hlk:k<l.length
   ·have hx:l[k]?=some l[k]:=by simp[hlk]
    have hw:=zk k
    have hst:=V8 hlk hall
    have hsm:=hs.2 l[k] (List.getElem_mem hlk)
    have hs:=za hx (za hlk hw)
    repeat' first|(with_reducible first|refine zz ?_|refine zE [0,1,2,3,4,5,6,7,8,13,18,28,31,38,44,52,53,73,84,99] ?_)|simp -dsimp[hs]|refine m5 ?_ ?_<;>intro h<;>try simp only[l8] at h
    all_goals try clear hs
    refine j7 (ι:={ u:Nat // u≤l[k].items.length∧l[k].items.all (fun y=>decide (y.drawing∈ns))=(l[k].items.drop u).all (fun y=>decide (y.drawing∈ns)) }) (fun p=>⟨103,[(1,.one (.ptr 0 0)),(2,bv false),(6,H0 ns),(7,iv (k:Int)),(8,iv (p.1:Int))],[.row [.im (.sl (l.map j0))]]⟩) (fun p=>l[k].items.length-p.1) ⟨0,by simp⟩ (zv [1,2,6,7,8]) ?_
    rintro⟨u,hu,hall2⟩
    simp only[iv,H0]
    by_cases hlu:u<l[k].items.length
    ·have hy:l[k].items[u]?=some l[k].items[u]:=by simp[hlu]
     have hw2:=zk u
     have c3:=bV (G:=G) ns l[k].items[u].drawing (by omega)
     have hm:=sn ns l[k].items[u].drawing
     have hst2:=V8 hlu hall2
     generalize idx ns l[k].items[u].drawing=z at c3 hm
     have hs:=za hx (za hlk (za hy (za hlu hw2)))
     repeat' first|(with_reducible first|refine zz ?_|refine zr ?_|refine zE [0,1,2,3,4,5,6,7,8,13,18,28,31,38,44,52,53,73,84,99] ?_)|simp -dsimp[hs]|refine zp c3 ?_|refine m5 ?_ ?_<;>intro h<;>try simp only[l8] at h
     all_goals try clear hs
     ·have hn:=hm.1 ‹z<0›
      have h1:=A5 hst2 (by simpa using hn)
      have h2:=A5 hst (by rw[h1];exact Bool.false_ne_true)
      rw[hE,h2];rfl
     ·have hn:l[k].items[u].drawing∈ns:=Classical.byContradiction fun hn=>absurd (hm.2 hn) ‹_›
      exact zn ⟨u+1,by omega,E9 hst2 (by simpa using hn)⟩ (zv [1,2,6,7,8])
    ·have h1:l[k].items.all (fun y=>decide (y.drawing∈ns))=true:=by rw[hall2,List.drop_eq_nil_of_le (by omega)];rfl
     have hs:=za hx (za hlk (za hlu hw))
     repeat' first|(with_reducible first|refine zz ?_|refine zE [0,1,2,3,4,5,6,7,8,13,18,28,31,38,44,52,53,73,84,99] ?_)|simp -dsimp[hs]|refine m5 ?_ ?_<;>intro h<;>try simp only[l8] at h
     all_goals try clear hs
     exact zn ⟨k+1,by omega,E9 hst h1⟩ (zv [1,2,6,7])
   ·have h1:l.all (fun x=>x.items.all fun y=>decide (y.drawing∈ns))=true:=by rw[hall,List.drop_eq_nil_of_le (by omega)];rfl
    rw[h1,Bool.true_and] at hE
    have hs:=hlk
    repeat' first|(with_reducible first|refine zz ?_|refine zr ?_|refine zE [0,1,2,3,4,5,6,7,8,13,18,28,31,38,44,52,53,73,84,99] ?_)|simp -dsimp[hs]|refine m5 ?_ ?_<;>intro h<;>try simp only[l8] at h
    all_goals try clear hs
    rw[hE];simp;omega
 ·have hf:u6 l=false:=by simp only[u6];rw[decide_eq_false hrange];rfl
  have c0:=bj (G:=G) (l.length:Int) 1 60
  have hd:(decide ((1:Int)≤(l.length:Int))&&decide ((l.length:Int)≤60))=false:=by simp;omega
  rw[hd] at c0
  have hs:=trivial
  repeat' first|(with_reducible first|refine zz ?_|refine zr ?_|refine zE [0,1,2,3,4,5,6,7,8,13,18,28,31,38,44,52,53,73,84,99] ?_)|simp -dsimp[hs]|refine zp c0 ?_|refine m5 ?_ ?_<;>intro h<;>try simp only[l8] at h
  all_goals try clear hs
  simp[hf]
theorem qz {l:List Int} {k:Nat} (hlt:k<l.length) (a:Int) (h:X0 l=(l.drop k).foldl max a):X0 l=(l.drop (k+1)).foldl max (max a l[k]):=by
 rw[h,List.drop_eq_getElem_cons hlt,List.foldl_cons]
theorem vH (l:List Issue) (hs:W9 l):zP prog G 80 [C8 l] (iv (o6 l)):=by
 refine zf func80 ntmps80 ?_
 try simp only[C8]
 have c1:=vZ (G:=G) l hs
 cases hL:u6 l
 ·rw[hL] at c1
  have hs:=trivial
  repeat' first|(with_reducible first|refine zz ?_|refine zr ?_|refine zE [0,1,2,3,4,5,8,14,23,28] ?_)|simp -dsimp[hs]|refine zp c1 ?_|refine m5 ?_ ?_<;>intro h<;>try simp only[l8] at h
  all_goals try clear hs
  simp[o6,hL]
 ·rw[hL] at c1
  have c2:=tn (G:=G) l hL
  have hlen:(B5 l).length≤80:=by
   have:=p8 l l.length
   have:=hs.1
   simp only[B5,List.length_map,nums];omega
  have hE:o6 l=if X0 (B5 l) > (B5 l).length then 21 else if X0 (B5 l) > 6 then 20 else 0:=by simp[o6,hL]
  generalize B5 l=D at c2 hE hlen
  have hs:=trivial
  repeat' first|(with_reducible first|refine zz ?_|refine zE [0,1,2,3,4,5,8,14,23,28] ?_)|simp -dsimp[hs]|refine zp c1 ?_|refine zp c2 ?_|refine m5 ?_ ?_<;>intro h<;>try simp only[l8] at h
  all_goals try clear hs
  refine j7 (ι:={ p:Nat×Int // p.1≤D.length∧X0 D=(D.drop p.1).foldl max p.2 }) (fun p=>⟨31,[(1,.one (.ptr 0 0)),(2,iv 0),(3,H0 D),(4,iv p.1.2),(5,iv (p.1.1:Int))],[.row [.im (.sl (l.map j0))]]⟩) (fun p=>D.length-p.1.1) ⟨(0,0),by simp[X0]⟩ (zv [1,2,3,4,5]) ?_
  rintro⟨⟨k,a⟩,hk,ha⟩
  simp only at hk ha
  simp only[iv,H0]
  by_cases hlt:k<D.length
  ·have hx:D[k]?=some D[k]:=by simp[hlt]
   have hw:=zk k
   have hs:=za hx (za hw hlt)
   repeat' first|(with_reducible first|refine zz ?_|refine zE [0,1,2,3,4,5,8,14,23,28] ?_)|simp -dsimp[hs]|refine m5 ?_ ?_<;>intro h<;>try simp only[l8] at h
   all_goals try clear hs
   exact zn ⟨(k+1,max a D[k]),by omega,qz hlt a ha⟩ (zv [1,2,3,4,5])
  ·have ha':X0 D=a:=by rw[ha,List.drop_eq_nil_of_le (by omega)];rfl
   rw[ha'] at hE
   have hs:=hlt
   repeat' first|(with_reducible first|refine zz ?_|refine zr ?_|refine zE [0,1,2,3,4,5,8,14,23,28] ?_)|simp -dsimp[hs]|refine m5 ?_ ?_<;>intro h<;>try simp only[l8] at h
   all_goals try clear hs
   all_goals rw[hE]
   ·rw[if_pos (by omega)]
   ·rw[if_neg (by omega),if_pos (by omega)]
   ·rw[if_neg (by omega),if_neg (by omega)]
def C3 (l:List Issue) (d:Int):Int:=l.foldl (fun n x=>if x.drawing=d then max n x.letter else n) 0
theorem oN (l:List Issue) (d:Int) (hl:l.length<1000000):zP prog G 18 [C8 l,iv d] (iv (C3 l d)):=by
 refine zf func18 ntmps18 ?_
 try simp only[C8,iv]
 have hs:=trivial
 repeat' first|(with_reducible first|refine zz ?_|refine zE [0,1,2,4,5,6,11,21] ?_)|simp -dsimp[hs]
 refine j7 (ι:={ p:Nat×Int // p.1≤l.length∧C3 l d=(l.drop p.1).foldl (fun n x=>if x.drawing=d then max n x.letter else n) p.2 }) (fun p=>⟨31,[(1,iv d),(2,.one (.ptr 0 0)),(5,iv p.1.2),(6,iv (p.1.1:Int))],[.row [.im (.sl (l.map j0))]]⟩) (fun p=>l.length-p.1.1) ⟨(0,0),by simp[C3]⟩ (zv [1,2,5,6]) ?_
 rintro⟨⟨k,a⟩,hk,ha⟩
 simp only at hk ha
 simp only[iv]
 by_cases hlt:k<l.length
 ·have hx:l[k]?=some l[k]:=by simp[hlt]
  have hw:=zk k
  rw[List.drop_eq_getElem_cons hlt,List.foldl_cons] at ha
  have hs:=za hx (za hw hlt)
  repeat' first|(with_reducible first|refine zz ?_|refine zE [0,1,2,4,5,6,11,21] ?_)|simp -dsimp[hs]|refine m5 ?_ ?_<;>intro h<;>try simp only[l8] at h
  ·exact zn ⟨(k+1,max a l[k].letter),by omega,by rw[ha,if_pos ‹_›]⟩ (zv [1,2,5,6])
  ·exact zn ⟨(k+1,a),by omega,by rw[ha,if_neg ‹_›]⟩ (zv [1,2,5,6])
 ·have ha':C3 l d=a:=by rw[ha,List.drop_eq_nil_of_le (by omega)];rfl
  have hs:=hlt
  repeat' first|(with_reducible first|refine zz ?_|refine zr ?_|refine zE [0,1,2,4,5,6,11,21] ?_)|simp -dsimp[hs]|refine m5 ?_ ?_<;>intro h<;>try simp only[l8] at h
  rw[ha']
def K8 (l:List Issue) (p:Int×Int):Bool:=decide (1≤p.2)&&decide (p.2≤C3 l p.1)
def o5 (l:List Issue) (lets:List Int):Bool:=decide (lets.length=(nums l).length)&&((nums l).zip lets).all (K8 l)
theorem tG (l:List Issue) (lets:List Int) (hl:l.length<1000000) (hll:lets.length<1000000):zP prog G 122 [C8 l,H0 lets] (bv (o5 l lets)):=by
 refine zf func122 ntmps122 ?_
 try simp only[C8,H0]
 have c1:=L8 (G:=G) l (by omega)
 have hE:o5 l lets=(decide (lets.length=(nums l).length)&&((nums l).zip lets).all (K8 l)):=rfl
 generalize nums l=ns at c1 hE
 by_cases he:lets.length=ns.length
 ·rw[decide_eq_true he,Bool.true_and] at hE
  have he':(lets.length:Int)=(ns.length:Int):=by omega
  have hs:=he'
  repeat' first|(with_reducible first|refine zz ?_|refine zE [0,1,2,4,5,6,13,17,31] ?_)|simp -dsimp[hs]|refine zp c1 ?_|refine m5 ?_ ?_<;>intro h<;>try simp only[l8] at h
  refine j7 (ι:={ k:Nat // k≤ns.length∧(ns.zip lets).all (K8 l)=((ns.zip lets).drop k).all (K8 l) }) (fun p=>⟨32,[(1,H0 lets),(2,.one (.ptr 0 0)),(5,H0 ns),(6,iv (p.1:Int))],[.row [.im (.sl (l.map j0))]]⟩) (fun p=>ns.length-p.1) ⟨0,by simp⟩ (zw [1,2,5,6] 1) ?_
  rintro⟨k,hk,ha⟩
  simp only[iv,H0]
  by_cases hlt:k<ns.length
  ·have hx:ns[k]?=some ns[k]:=by simp[hlt]
   have hlt2:k<lets.length:=by omega
   have hy:lets[k]?=some lets[k]:=by simp[hlt2]
   have hw:=zk k
   have hz:k<(ns.zip lets).length:=by simp;omega
   have hst:=V8 hz ha
   rw[List.getElem_zip] at hst
   have c2:=oN (G:=G) l ns[k] hl
   have c3:=bj (G:=G) lets[k] 1 (C3 l ns[k])
   have hq':K8 l (ns[k],lets[k])=(decide (1≤lets[k])&&decide (lets[k]≤C3 l ns[k])):=rfl
   cases hq:K8 l (ns[k],lets[k])
   ·rw[← hq',hq] at c3
    have hs:=za hx (za hy (za hw (za hlt hlt2)))
    repeat' first|(with_reducible first|refine zz ?_|refine zr ?_)|simp -dsimp[hs]|refine zq c2 ?_|refine zq c3 ?_|refine zM 7 32 12 [0,1,2,4,5,6,13,17,31] ?_|with_reducible refine zE [0,1,2,4,5,6,13,17,31] ?_|refine m5 ?_ ?_<;>intro h<;>try simp only[l8] at h
    rw[hE,A5 hst (by rw[hq];exact Bool.false_ne_true)]
   ·rw[← hq',hq] at c3
    have hs:=za hx (za hy (za hw (za hlt hlt2)))
    repeat' first|with_reducible refine zz ?_|simp -dsimp[hs]|refine zq c2 ?_|refine zq c3 ?_|refine zM 7 32 12 [0,1,2,4,5,6,13,17,31] ?_|with_reducible refine zE [0,1,2,4,5,6,13,17,31] ?_|refine m5 ?_ ?_<;>intro h<;>try simp only[l8] at h
    exact zn ⟨k+1,by omega,E9 hst hq⟩ (zv [1,2,5,6])
  ·have h1:(ns.zip lets).all (K8 l)=true:=by rw[ha,List.drop_eq_nil_of_le (by simp;omega)];rfl
   have hs:=hlt
   repeat' first|(with_reducible first|refine zz ?_|refine zr ?_|refine zE [0,1,2,4,5,6,13,17,31] ?_)|simp -dsimp[hs]|refine m5 ?_ ?_<;>intro h<;>try simp only[l8] at h
   rw[hE,h1]
 ·have he':¬ (lets.length:Int)=(ns.length:Int):=by omega
  rw[decide_eq_false he,Bool.false_and] at hE
  have hs:=he'
  repeat' first|(with_reducible first|refine zz ?_|refine zr ?_|refine zE [0,1,2,4,5,6,13,17,31] ?_)|simp -dsimp[hs]|refine zp c1 ?_|refine m5 ?_ ?_<;>intro h<;>try simp only[l8] at h
  rw[hE]
def j8 (l:List Issue) (lets:List Int) (d:Int):Issue:=(A1 l d ((lets[(idx (nums l) d).toNat]?).getD 0)).getD R6
theorem dz (l:List Issue) (lets:List Int) (d:Int) (hl:l.length<1000000) (hd:d∈nums l) (hll:lets.length=(nums l).length):zP prog G 15 [C8 l,H0 lets,iv d] (E4 (j8 l lets d)):=by
 refine zf func15 ntmps15 ?_
 try simp only[C8,H0,iv]
 have c1:=L8 (G:=G) l (by omega)
 have hnl:(nums l).length≤l.length:=p8 l l.length
 have hE:j8 l lets d=(A1 l d ((lets[(idx (nums l) d).toNat]?).getD 0)).getD R6:=rfl
 generalize nums l=ns at *
 have c2:=bV (G:=G) ns d (by omega)
 have h0:=eV hd
 have hi:(idx ns d).toNat<ns.length:=by
  obtain⟨k,hk⟩:=List.mem_iff_getElem?.1 hd
  unfold idx
  cases hh:ns.idxOf? d with
  | none =>
    rw[List.idxOf?,List.findIdx?_eq_none_iff] at hh
    have:=hh d hd;simp at this
  | some i =>
    rw[List.idxOf?,List.findIdx?_eq_some_iff_getElem] at hh
    simpa using hh.1
 generalize hidx:idx ns d=z at *
 obtain⟨k,rfl⟩:∃ k:Nat,z=k:=⟨z.toNat,by omega⟩
 simp only[Int.toNat_natCast] at hi hE
 have hkl:k<lets.length:=by omega
 have hy:lets[k]?=some lets[k]:=by simp[hkl]
 rw[hy,Option.getD_some] at hE
 have c3:=AV (G:=G) l d lets[k] hl
 rw[← hE] at c3
 simp only[D7] at c3
 have hs:=za hy hkl
 repeat' first|(with_reducible first|refine zz ?_|refine zr ?_)|simp -dsimp[hs]|refine zq c1 ?_|refine zq c2 ?_|refine zq c3 ?_|refine p9 (id:=1) (nt:=24) 15 [13] [0,1,2,3,6,7,9,10,11,12,13,14,15,16,17,18,19,20,21] [0,1,2,3,6,7] mixed rfl (by kernel_rfl) ?_|with_reducible refine zE [0,1,2,3,6,7] ?_
end Go.Proofs
namespace Go.Proofs
open Go Go.Ab
theorem T0 {l:List Issue} {d lt:Int} {y:Issue} (h:A1 l d lt=some y):y∈l∧y.drawing=d∧y.letter=lt:=by
 have h1:=List.find?_some h
 have h2:=List.mem_of_find?_eq_some h
 simp only[Bool.and_eq_true,beq_iff_eq] at h1
 exact⟨h2,h1.1,h1.2⟩
theorem kH (l:List Issue) (d lt:Int):(A1 l d lt).isSome=true↔∃ x∈l,x.drawing=d∧x.letter=lt:=by
 simp[A1,List.find?_isSome]
theorem fy:∀ (r:List Issue) (p:Option Issue) (ds:List Int),o3 p r=some ds→∀ x∈r,x.letter=1∨∃ y,(p=some y∨y∈r)∧y.drawing=x.drawing∧y.letter+1=x.letter
 | [],_,_,_,x,hx=>by cases hx
 | z :: r,p,ds,h,x,hx=>by
   have hs:(o3 p (z :: r)).isSome=true:=by rw[h];rfl
   obtain⟨ds',h1,_,_⟩:=dB h
   rcases List.mem_cons.1 hx with rfl|hx
   ·cases p with
    | none=>exact .inl ((dE x r).1 hs).1.2
    | some y =>
      rcases ((dD y x r).1 hs).1.2 with⟨a,b,_⟩|⟨_,b⟩
      ·exact .inr ⟨y,.inl rfl,a,b⟩
      ·exact .inl b
   ·rcases fy r (some z) ds' h1 x hx with h2|⟨y,h2,h3,h4⟩
    ·exact .inl h2
    ·refine .inr ⟨y,.inr ?_,h3,h4⟩
     rcases h2 with h2|h2
     ·cases h2;simp
     ·simp[h2]
theorem iW {l:List Issue} (hs:o3 none l=some (nums l)):∀ (k:Nat) (x:Issue),x∈l→x.letter=k+1→∀ j:Int,1≤j→j≤k+1→∃ y∈l,y.drawing=x.drawing∧y.letter=j
 | 0,x,hx,hk,j,h1,h2=>⟨x,hx,rfl,by omega⟩
 | k+1,x,hx,hk,j,h1,h2=>by
   by_cases hj:j=k+1+1
   ·exact⟨x,hx,rfl,by omega⟩
   ·rcases fy l none _ hs x hx with h|⟨y,hy,h3,h4⟩
    ·omega
    ·rcases hy with hy|hy
     ·cases hy
     ·obtain⟨z,hz,h5,h6⟩:=iW hs k y hy (by omega) j h1 (by omega)
      exact⟨z,hz,by omega,h6⟩
theorem V0 (d:Int):∀ (l:List Issue) (a:Int),a≤l.foldl (fun n x=>if x.drawing=d then max n x.letter else n) a∧(∀ x∈l,x.drawing=d→x.letter≤l.foldl (fun n x=>if x.drawing=d then max n x.letter else n) a) ∧
 (l.foldl (fun n x=>if x.drawing=d then max n x.letter else n) a=a∨∃ x∈l,x.drawing=d∧x.letter=l.foldl (fun n x=>if x.drawing=d then max n x.letter else n) a)
 | [],a=>by simp
 | y :: l,a=>by
   obtain⟨h1,h2,h3⟩:=V0 d l (if y.drawing=d then max a y.letter else a)
   simp only[List.foldl_cons]
   have h0:a≤(if y.drawing=d then max a y.letter else a):=by split<;>omega
   refine⟨by omega,fun x hx hd=>?_,?_⟩
   ·rcases List.mem_cons.1 hx with rfl|hx
    ·rw[if_pos hd] at h1 ⊢;omega
    ·exact h2 x hx hd
   ·rcases h3 with h3|⟨x,hx,hd,he⟩
    ·by_cases hy:y.drawing=d
     ·rw[if_pos hy] at h3 ⊢
      by_cases hm:a≤y.letter
      ·exact .inr ⟨y,by simp,hy,by omega⟩
      ·exact .inl (by omega)
     ·rw[if_neg hy] at h3 ⊢
      exact .inl h3
    ·exact .inr ⟨x,by simp[hx],hd,he⟩
theorem cV {l:List Issue} (h:o6 l=0) (d lt:Int):(A1 l d lt).isSome=true↔1≤lt∧lt≤C3 l d:=by
 have hs:=x6 (r9 h)
 obtain⟨_,_,_,hok,_⟩:=F1 hs
 obtain⟨h1,h2,h3⟩:=V0 d l 0
 have hlet:∀ x∈l,1≤x.letter:=fun x hx=>by
  have:=hok x hx
  simp only[o8,Bool.and_assoc] at this
  rw[← Bool.and_assoc,Bool.and_eq_true] at this
  have:=(bF x).1 this.1;omega
 rw[kH]
 constructor
 ·rintro⟨x,hx,rfl,rfl⟩
  exact⟨hlet x hx,h2 x hx rfl⟩
 ·rintro⟨a,b⟩
  rcases h3 with h3|⟨x,hx,hd,he⟩
  ·simp only[C3] at b;omega
  ·have hx1:=hlet x hx
   obtain⟨y,hy,h5,h6⟩:=iW hs (x.letter-1).toNat x hx (by omega) lt a (by simp only[C3] at b;omega)
   exact⟨y,hy,by omega,h6⟩
theorem A7 {l:List Issue} {lets:List Int} {d:Int} (h:o6 l=0) (hl:o5 l lets=true) (hd:d∈nums l):j8 l lets d∈l∧(j8 l lets d).drawing=d∧∃ (k:Nat) (lt:Int),(nums l)[k]?=some d∧lets[k]?=some lt∧A1 l d lt=some (j8 l lets d):=by
 simp only[o5,Bool.and_eq_true,decide_eq_true_eq] at hl
 obtain⟨h1,h2⟩:=hl
 obtain⟨hlt,_⟩:=u4 h
 obtain⟨k,hk⟩:=List.mem_iff_getElem?.1 hd
 have hnd:(nums l).Nodup:=hlt.imp fun h=>Int.ne_of_lt h
 have hkl:=g9 hk
 have hy:lets[k]?=some lets[k]:=by simp[h1,hkl]
 have hz:((nums l).zip lets)[k]?=some (d,lets[k]):=by
  rw[List.getElem?_zip_eq_some];exact⟨hk,hy⟩
 have hok:=List.all_eq_true.1 h2 _ (List.mem_of_getElem? hz)
 simp only[K8,Bool.and_eq_true,decide_eq_true_eq] at hok
 have hf:=(cV h d lets[k]).2 hok
 obtain⟨y,hy'⟩:=Option.isSome_iff_exists.1 hf
 have ht:j8 l lets d=y:=by
  simp only[j8,bW hnd hk,Int.toNat_natCast,hy,Option.getD_some,hy']
 obtain⟨a,b,_⟩:=T0 hy'
 rw[ht]
 exact⟨a,b,k,lets[k],hk,hy,hy'⟩
theorem eJ {l:List Issue} {lets:List Int} {d:Int} (h:o6 l=0) (hl:o5 l lets=true) (hd:d∈nums l):∀ y∈(j8 l lets d).items,y.drawing∈aN l d:=by
 obtain⟨h1,h2,_⟩:=A7 h hl hd
 intro y hy
 simp only[aN,List.mem_flatMap,List.mem_map,cw,List.mem_filter,decide_eq_true_eq]
 exact⟨_,⟨h1,h2⟩,y,hy,rfl⟩
end Go.Proofs
namespace Go.Ab
open Go
def R5 (m:List (Int×Bool)):List (List Value×List DC):=m.map fun p=>(kI p.1,[.im (rB p.2)])
def mI (n:Int):List (Int×Bool)→Option Bool
 | []=>none
 | p :: r=>if p.1=n then some p.2 else mI n r
def wO (n:Int) (v:Bool):List (Int×Bool)→List (Int×Bool)
 | []=>[(n,v)]
 | p :: r=>if p.1=n then (n,v) :: r else p :: wO n v r
@[simp] theorem CZ (m:List (Int×Bool)) (n:Int):aC [.int .i64 n] (R5 m) [.im (.raw (.bool false))]=[.im (.raw (.bool ((mI n m).getD false)))]:=by
 induction m with
 | nil=>rfl
 | cons p r ih =>
   have e:R5 (p :: r)=(kI p.1,[.im (rB p.2)]) :: R5 r:=rfl
   rw[e]
   simp only[aC,bu,mI,bc,decide_eq_true_eq] at ih ⊢
   split
   ·rfl
   ·exact ih
@[simp] theorem CW (m:List (Int×Bool)) (n:Int):jc [.int .i64 n] (R5 m)=(mI n m).isSome:=by
 induction m with
 | nil=>rfl
 | cons p r ih =>
   have e:R5 (p :: r)=(kI p.1,[.im (rB p.2)]) :: R5 r:=rfl
   rw[e]
   simp only[jc,bu,mI,bc,decide_eq_true_eq] at ih ⊢
   split
   ·rfl
   ·exact ih
@[simp] theorem CV (m:List (Int×Bool)) (n:Int) (v:Bool):S6 [.int .i64 n] [.im (.raw (.bool v))] (R5 m)=R5 (wO n v m):=by
 induction m with
 | nil=>rfl
 | cons p r ih =>
   have e:R5 (p :: r)=(kI p.1,[.im (rB p.2)]) :: R5 r:=rfl
   rw[e]
   simp only[S6,wO,bc,decide_eq_true_eq] at ih ⊢
   split
   ·rfl
   ·rw[ih];rfl
@[simp] theorem Bv (m:List (Int×Bool)):(R5 m).length=m.length:=by simp[R5]
@[simp] theorem BX (n:Nat) (objs:List DObj) (m:List (Int×Bool)):((R5 m).map fun x=>(x.1,x.2.map (fz n objs)))=R5 m:=by
 simp[R5,fz,DC.lt]
@[simp] theorem BT (e:Nat→Nat) (m:List (Int×Bool)):((R5 m).map fun x=>(x.1,rnL e x.2))=R5 m:=by
 simp[R5,rnL,P8]
section
variable {P:Program} {G:Es}
theorem CallE.embed_ex {ι:Type} {f:FuncId} {args args0:List DV} {objs objs0:List DObj} {p:ι→Prop} {o1:ι→List DObj} {d0:ι→DV} {Q:DV→List DObj→Prop} {t:Tok Q} (es:List Nat) (h:DCall P G f args0 objs0 (fun d o=>∃ i,p i∧d=d0 i∧o=o1 i))
 (ha:args0.map (bN (C4 es objs.length))=args) (hl:es.length=objs0.length) (hnd:es.Nodup) (hes:∀ x∈es,x<objs.length)
 (hobj:∀ i d,objs0[i]?=some d→objs[C4 es objs.length i]?=some (N0 (C4 es objs.length) d)) (hq:∀ i,p i→Q (bN (C4 es objs.length) (d0 i)) (s8 es objs (o1 i))):CallE P G f args objs Q t:=by
 subst ha
 refine(DCall.embed es h hl hnd hes hobj).mono fun d o ⟨d',o',⟨i,hp,h1,h2⟩,_,h3,h4⟩=>?_
 subst h1;subst h2;subst h3;subst h4
 exact hq i hp
end
@[simp] theorem CP (e:Nat→Nat) (l:List (List IC)):(o7 l).map (rnL e)=o7 l:=by
 simp only[o7,List.map_map]
 exact List.map_congr_left fun x _=>by simp[jW]
@[simp] theorem CG (n o:Nat):C4 [] n o=n+o:=by simp[C4]
attribute [simp] bN P8 rnL rnVL N0 fH
def Cm (L:List Int) (off len:Nat):List Int:=L.take off++(List.replicate len 0++L.drop (off+len))
@[simp] theorem Bw (L:List Int) (off len:Nat):O2 (o7 (L.map encI)) off len (.im (.raw (.int .i64 0)))=o7 ((Cm L off len).map encI):=by
 simp only[O2,Cm,o7,List.map_append,List.map_take,List.map_drop,List.map_replicate]
 rfl
theorem QCall.thaw {P:Program} {G:Es} {f:FuncId} {args args0:List DV} {d0:DV} {objs:List DObj} {K:DV→Prop} {t:Tok K} (h:∀ objs,DCall P G f args0 objs (fun d o=>d=d0∧o=objs)) (ha:args0=args.map (aK 0 objs)) (hd:FlV d0) (hk:K d0):QCall P G f args objs K t:=
 ⟨d0,DCall.thaw h ha hd,hk⟩
end Go.Ab
namespace Go.Proofs
open Go Go.Ab Tryz
variable {G:Es}
def C6 (tk:Int→Issue):Nat→Int→Int→List (Int×Int)
 | 0,_,_=>[]
 | k+1,d,m=>if 1<(tk d).kind then [(d,m)] else (tk d).items.flatMap fun y=>C6 tk k y.drawing (IntKind.i64.wrap (m*y.count))
def ur (ns:List Int) (C:List Int) (p:Int×Int):List Int:=C.set (idx ns p.1).toNat (IntKind.i64.wrap ((C[(idx ns p.1).toNat]?).getD 0+p.2))
def gC (ns:List Int) (C:List Int) (lv:List (Int×Int)):List Int:=lv.foldl (ur ns) C
theorem dj (ns:List Int):∀ (lv:List (Int×Int)) (C:List Int),(gC ns C lv).length=C.length
 | [],_=>rfl
 | p :: lv,C=>by
   have:=dj ns lv (ur ns C p)
   simp only[gC,List.foldl_cons] at this ⊢
   rw[this];simp[ur]
theorem xS (l:List Issue) (lets:List Int) (hl:l.length<1000000) (h0:o6 l=0) (hlet:o5 l lets=true) (dep:Int→Int) (hdep:∀ n∈nums l,1≤dep n∧dep n≤6∧∀ c∈aN l n,c∈nums l∧dep c<dep n) :
 ∀ (k:Nat) (d m:Int) (C:List Int),d∈nums l→dep d≤k→C.length=(nums l).length →
  DCall prog G 114 [C8 l,H0 lets,iv d,iv m,.one (.vec 0 0 0 (nums l).length)] [.vec 1 (o7 (C.map encI)) 0 false]
   (fun r o=>r=.tup []∧o=[.vec 1 (o7 ((gC (nums l) C (C6 (j8 l lets) k d m)).map encI)) 0 false]):=by
 intro k
 induction k with
 | zero=>intro d m C hd hk;have:=(hdep d hd).1;omega
 | succ k ih =>
   intro d m C hd hk hC
   have hll:lets.length=(nums l).length:=by
    simp only[o5,Bool.and_eq_true,decide_eq_true_eq] at hlet;exact hlet.1
   have ct:=dz (G:=G) l lets d hl hd hll
   have hti:=eJ h0 hlet hd
   obtain⟨htm,_,_⟩:=A7 h0 hlet hd
   have htok:=(F1 (x6 (r9 h0))).2.2.2.1 _ htm
   have hsm:=aY htok
   have hch:=(hdep d hd).2.2
   have hE:C6 (j8 l lets) (k+1) d m=if 1<(j8 l lets d).kind then [(d,m)] else (j8 l lets d).items.flatMap fun y=>C6 (j8 l lets) k y.drawing (IntKind.i64.wrap (m*y.count)):=rfl
   generalize j8 l lets d=x at *
   refine DCall.drop ?_
   refine l5 func114 rfl ntmps114 (by simp) rfl ?_
   simp only[C8,H0,iv]
   by_cases hkind:1<x.kind
   ·rw[if_pos hkind] at hE
    have c1:=L8 (G:=G) l hl
    have hnl:(nums l).length≤l.length:=p8 l l.length
    have c2:=bV (G:=G) (nums l) d (by omega)
    obtain⟨j,hj⟩:=List.mem_iff_getElem?.1 hd
    have hnd:(nums l).Nodup:=(u4 h0).1.imp fun h=>Int.ne_of_lt h
    have hidx:=bW hnd hj
    have hjl:=g9 hj
    rw[hidx] at c2
    have hCj:C[j]?=some C[j]:=by simp[hC,hjl]
    have hs:=za hkind (za hCj hjl)
    repeat' first|(with_reducible first|refine zz ?_|refine zr ?_|refine zE [0,1,2,3,4,5,10,11,18,33] ?_)|simp -dsimp[hs]|refine zp ct ?_|refine zp c1 ?_|refine zp c2 ?_|refine m5 ?_ ?_<;>intro h<;>try simp only[l8] at h|with_reducible refine And.intro ?_ ?_
    rw[hE]
    simp[gC,ur,hidx,hCj]
   ·rw[if_neg hkind] at hE
    have hs:=hkind
    repeat' first|(with_reducible first|refine zz ?_|refine zE [0,1,2,3,4,5,10,11,18,33] ?_)|simp -dsimp[hs]|refine zp ct ?_|refine m5 ?_ ?_<;>intro h<;>try simp only[l8] at h
    refine j7 (ι:={ p:Nat×List Int // p.1≤x.items.length∧p.2.length=(nums l).length∧gC (nums l) C (x.items.flatMap fun y=>C6 (j8 l lets) k y.drawing (IntKind.i64.wrap (m*y.count)))=gC (nums l) p.2 ((x.items.drop p.1).flatMap fun y=>C6 (j8 l lets) k y.drawing (IntKind.i64.wrap (m*y.count))) }) (fun p=>⟨54,[(1,H0 lets),(3,iv m),(4,.one (.vec 0 0 0 (nums l).length)),(5,.one (.ptr 1 0)),(10,.one (.ptr 4 0)),(11,iv (p.1.1:Int))],[.vec 1 (o7 (p.1.2.map encI)) 0 false,.row [.im (.sl (l.map j0))],.vec 0 [] 0 true,.vec 0 [] 0 true,.row ((j0 x).map .im)]⟩) (fun p=>x.items.length-p.1.1) ⟨(0,C),by simp[hC]⟩ (zv [1,3,4,5,10,11]) ?_
    rintro⟨⟨u,C'⟩,hu,hC',hadd⟩
    simp only at hu hC' hadd
    simp only[iv,H0,j0,rI,List.map_cons,List.map_nil]
    by_cases hlt:u<x.items.length
    ·have hx:x.items[u]?=some x.items[u]:=by simp[hlt]
     have hw:=zk u
     have hc:=hch _ (hti x.items[u] (List.getElem_mem hlt))
     have hrec:=ih x.items[u].drawing (IntKind.i64.wrap (m*x.items[u].count)) C' hc.1 (by omega) hC'
     rw[List.drop_eq_getElem_cons hlt,List.flatMap_cons,gC,gC,List.foldl_append] at hadd
     simp only[C8,H0,iv] at hrec
     have hs:=za hx (za hw hlt)
     repeat' first|with_reducible refine zz ?_|simp -dsimp[hs]|refine CallE.embed [0] (hrec) ?_ ?_ ?_ ?_ ?_ ?_;(focus simp[C4];done);(focus simp;done);(focus simp;done);(focus simp;done);(focus refine A3 ?_;simp[C4,B7];done);try simp -dsimp[s8,C4,hs]|refine zM 7 54 17 [0,1,2,3,4,5,10,11,18,33] ?_|with_reducible refine zE [0,1,2,3,4,5,10,11,18,33] ?_|refine m5 ?_ ?_<;>intro h<;>try simp only[l8] at h
     exact zn ⟨(u+1,gC (nums l) C' (C6 (j8 l lets) k x.items[u].drawing (IntKind.i64.wrap (m*x.items[u].count)))),by omega,by rw[dj];exact hC',hadd⟩ (zv [1,3,4,5,10,11])
    ·rw[List.drop_eq_nil_of_le (by omega)] at hadd
     have hs:=hlt
     repeat' first|(with_reducible first|refine zz ?_|refine ze ?_|refine zE [0,1,2,3,4,5,10,11,18,33] ?_)|simp -dsimp[hs]|refine m5 ?_ ?_<;>intro h<;>try simp only[l8] at h|with_reducible refine And.intro ?_ ?_
     rw[hE,hadd];simp[gC]
def lG (l:List Issue) (lets:List Int) (d:Int):List Int:=gC (nums l) (List.replicate (nums l).length 0) (C6 (j8 l lets) 6 d 1)
def E7 (l:List Issue) (lets:List Int) (d:Int):List Itm:=(((nums l).zip (lG l lets d)).filter fun p=>decide (0<p.2)).map fun p=>⟨p.1,p.2⟩
theorem oz (l:List Issue) (lets:List Int) (d:Int) (hl:l.length<1000000) (h0:o6 l=0) (hlet:o5 l lets=true) (hd:d∈nums l):zP prog G 69 [C8 l,H0 lets,iv d] (.one (.im (.sl ((E7 l lets d).map l7)))):=by
 refine zf func69 ntmps69 ?_
 try simp only[C8,H0,iv]
 obtain⟨dep,hdep⟩:=kN h0
 have c1:=L8 (G:=G) l hl
 have hnl:(nums l).length≤l.length:=p8 l l.length
 have c2:=xS (G:=G) l lets hl h0 hlet dep hdep 6 d 1 (List.replicate (nums l).length 0) hd (by have:=(hdep d hd).2.1;omega) (by simp)
 have hcl:(lG l lets d).length=(nums l).length:=by simp[lG,dj]
 have hE:E7 l lets d=(((nums l).zip (lG l lets d)).filter fun p=>decide (0<p.2)).map fun p=>⟨p.1,p.2⟩:=rfl
 change DCall _ _ _ _ _ (fun r o=>r=.tup []∧o=[.vec 1 (o7 ((lG l lets d).map encI)) 0 false]) at c2
 generalize lG l lets d=C at *
 generalize nums l=ns at *
 simp only[C8,H0,iv] at c2
 have hs:=trivial
 repeat' first|(with_reducible first|refine zz ?_|refine And.intro (by omega) ?_|refine zE [0,1,2,3,6,7,8,9,10,24,31] ?_)|simp -dsimp[hs]|refine zp c1 ?_|refine CallE.embed [2] (c2) ?_ ?_ ?_ ?_ ?_ ?_;(focus simp[C4];done);(focus simp;done);(focus simp;done);(focus simp;done);(focus refine A3 ?_;simp[C4,B7];done);try simp -dsimp[s8,C4,hs]
 refine j7 (ι:={ p:Nat×Nat×Bool×List Itm // p.1≤ns.length∧p.2.2.2.length≤p.1∧E7 l lets d=p.2.2.2++(((ns.zip C).drop p.1).filter fun p=>decide (0<p.2)).map fun p=>⟨p.1,p.2⟩ }) (fun p=>⟨45,[(7,H0 ns),(8,.one (.vec 2 0 0 ns.length)),(9,.one (.vec 3 p.1.2.1 0 p.1.2.2.2.length)),(10,iv (p.1.1:Int))],[.row [.im (.sl (l.map j0))],.vec 2 [] 0 true,.vec 1 (o7 (C.map encI)) 0 false,.vec 2 (o7 (p.1.2.2.2.map l7)) p.1.2.1 p.1.2.2.1]⟩) (fun p=>ns.length-p.1.1) ⟨(0,0,true,[]),by simp[hE]⟩ (zv [7,8,9,10]) ?_
 rintro⟨⟨k,g,nl,out⟩,hk,hol,hp⟩
 simp only at hk hol hp
 simp only[iv,H0]
 by_cases hlt:k<ns.length
 ·have hx:ns[k]?=some ns[k]:=by simp[hlt]
  have hkC:k<C.length:=by omega
  have hy:C[k]?=some C[k]:=by simp[hkC]
  have hw:=zk k
  have hz:k<(ns.zip C).length:=by simp;omega
  rw[List.drop_eq_getElem_cons hz,List.getElem_zip] at hp
  by_cases hpos:0<C[k]
  ·rw[List.filter_cons_of_pos (by simpa using hpos),List.map_cons] at hp
   have hs:=za hx (za hy (za hw (za hlt (za hkC hpos))))
   repeat' first|(with_reducible first|refine zz ?_|refine And.intro (by omega) ?_)|simp -dsimp[hs]|refine zM 9 45 11 [0,1,2,3,6,7,8,9,10,24,31] ?_|with_reducible refine zE [0,1,2,3,6,7,8,9,10,24,31] ?_|refine m5 ?_ ?_<;>intro h<;>try simp only[l8] at h
   all_goals try omega
   exact zn ⟨(k+1,g+1,false,out++[⟨ns[k],C[k]⟩]),by omega,by simp;omega,by rw[hp];simp⟩ (zw [7,8,9,10] 4)
  ·rw[List.filter_cons_of_neg (by simpa using hpos)] at hp
   have hs:=za hx (za hy (za hw (za hlt (za hkC hpos))))
   repeat' first|(with_reducible first|refine zz ?_|refine zE [0,1,2,3,6,7,8,9,10,24,31] ?_)|simp -dsimp[hs]|refine m5 ?_ ?_<;>intro h<;>try simp only[l8] at h
   exact zn ⟨(k+1,g,nl,out),by omega,by show out.length≤k+1;omega,hp⟩ (zv [7,8,9,10])
 ·rw[List.drop_eq_nil_of_le (by simp;omega)] at hp
  have hs:=hlt
  repeat' first|(with_reducible first|refine zz ?_|refine zr ?_|refine zE [0,1,2,3,6,7,8,9,10,24,31] ?_)|simp -dsimp[hs]|refine m5 ?_ ?_<;>intro h<;>try simp only[l8] at h
  all_goals try omega
  rw[hp];simp
end Go.Proofs
namespace Go.Ab
open Go
def Dt:Issue:=⟨0,0,0,[],[]⟩
def p4 (m:List (Int×Issue)) (n:Int):Issue:=match m with
 | []=>Dt
 | p :: r=>if p.1=n then p.2 else p4 r n
def eB (n:Int) (v:Issue):List (Int×Issue)→List (Int×Issue)
 | []=>[(n,v)]
 | p :: r=>if p.1=n then (n,v) :: r else p :: eB n v r
def J3 (m:List (Int×Issue)):List (List Value×List DC):=m.map fun p=>(kI p.1,(j0 p.2).map .im)
def ai (m:List (Int×Issue)):List (List Value×List IC):=m.map fun p=>(kI p.1,j0 p.2)
theorem eW (p:Int×Issue) (r:List (Int×Issue)):J3 (p :: r)=(kI p.1,(j0 p.2).map .im) :: J3 r:=rfl
@[simp] theorem CA (m:List (Int×Issue)) (n:Int):aC [.int .i64 n] (J3 m) [.im (.raw (.int .i64 0)),.im (.raw (.int .i64 0)),.im (.raw (.int .u8 0)),.im (.sl []),.im (.sl [])]=(j0 (p4 m n)).map .im:=by
 induction m with
 | nil=>rfl
 | cons p r ih =>
   rw[eW]
   simp only[aC,bu,p4,bc,decide_eq_true_eq] at ih ⊢
   split
   ·rfl
   ·exact ih
theorem vS (m:List (Int×Issue)) (n:Int) (v:Issue):S6 [.int .i64 n] ((j0 v).map .im) (J3 m)=J3 (eB n v m):=by
 induction m with
 | nil=>rfl
 | cons p r ih =>
   rw[eW]
   simp only[S6,eB,bc,decide_eq_true_eq] at ih ⊢
   split
   ·rfl
   ·rw[ih];rfl
@[simp] theorem Cz (m:List (Int×Issue)) (n a b k:Int) (i:List Itm) (d:List Dim):S6 [.int .i64 n] [.im (.raw (.int .i64 a)),.im (.raw (.int .i64 b)),.im (.raw (.int .u8 k)),.im (.sl (i.map l7)),.im (.sl (d.map l6))] (J3 m)=J3 (eB n ⟨a,b,k,i,d⟩ m):=vS m n ⟨a,b,k,i,d⟩
@[simp] theorem Bu (m:List (Int×Issue)):(J3 m).length=m.length:=by simp[J3]
@[simp] theorem yl (m:List (Int×Issue)):ga (ai m)=J3 m:=by simp[ga,ai,J3]
@[simp] theorem CB (k n:Nat) (objs:List DObj) (m:List (Int×Issue)):G2 (fun x:List Value×List DC=>(G2 (frz (k+1) n objs) x.2).map fun l=>(x.1,l)) (J3 m)=some (ai m):=by
 induction m with
 | nil=>rfl
 | cons p r ih =>
   rw[eW,G2,ih,jr];rfl
@[simp] theorem Bp (n:Nat) (objs:List DObj) (m:List (Int×Issue)):((J3 m).map fun x=>(x.1,x.2.map (fz n objs)))=J3 m:=by
 simp[J3,fz,DC.lt]
theorem gX {n:Int} {v:Issue}:∀ {m:List (Int×Issue)},n∉m.map (·.1)→eB n v m=m++[(n,v)]
 | [],_=>rfl
 | p :: r,h=>by
   rw[List.map_cons,List.mem_cons,not_or] at h
   rw[eB,if_neg (Ne.symm h.1),gX h.2];rfl
theorem F9 (f:Int→Issue):∀ (ns:List Int) (n:Int),p4 (ns.map fun d=>(d,f d)) n=if n∈ns then f n else Dt
 | [],n=>by simp[p4]
 | d :: ns,n=>by
   rw[List.map_cons,p4,F9 f ns n]
   by_cases h:d=n
   ·subst h;simp
   ·rw[if_neg h];simp[Ne.symm h]
@[simp] theorem DN (e:Nat→Nat) (m:List (Int×Int)):((N2 m).map fun x=>(x.1,rnL e x.2))=N2 m:=by
 simp[N2,rnL,P8]
@[simp] theorem Dw (e:Nat→Nat) (m:List (Int×Issue)):((J3 m).map fun x=>(x.1,rnL e x.2))=J3 m:=by
 simp only[J3,List.map_map]
 exact List.map_congr_left fun x _=>by simp only[Function.comp,jW]
@[simp] theorem DM (e:Nat→Nat) (m:List Int):((L0 m).map fun x=>(x.1,rnL e x.2))=L0 m:=by
 simp[L0,rnL,P8]
end Go.Ab
namespace Go.Ab
open Go
@[simp] theorem Ch (m:List (Int×Issue)):(ai m).map (fun x=>(x.1,x.2.map DC.im))=J3 m:=yl m
@[simp] theorem CF (m:List (Int×Int)):(R4 m).map (fun x=>(x.1,x.2.map DC.im))=N2 m:=AI m
@[simp] theorem CE (m:List Int):(pc m).map (fun x=>(x.1,x.2.map DC.im))=L0 m:=AH m
end Go.Ab
namespace Go.Proofs
open Go Go.Ab Tryz
variable {G:Es}
def C9 (l:List Issue) (lets:List Int):List (Int×Issue):=(nums l).map fun d=>(d,j8 l lets d)
theorem xC {l:List Issue} {lets:List Int} {k:Nat} (h:o6 l=0) (hk:k<(nums l).length) (hk2:k<lets.length) (hf:(A1 l (nums l)[k] lets[k]).isSome=false):o5 l lets=false:=by
 have hn:¬ K8 l ((nums l)[k],lets[k])=true:=fun hok=>by
  simp only[K8,Bool.and_eq_true,decide_eq_true_eq] at hok
  rw[(cV h _ _).2 hok] at hf;cases hf
 simp only[o5,Bool.and_eq_false_iff]
 refine .inr ?_
 rw[← Bool.not_eq_true,List.all_eq_true]
 intro hall
 refine hn (hall _ (List.mem_iff_getElem?.2 ⟨k,?_⟩))
 rw[List.getElem?_zip_eq_some];exact⟨by simp[hk],by simp[hk2]⟩
theorem nO {l:List Issue} {lets:List Int} (h:o6 l=0) (he:lets.length=(nums l).length) (hall:∀ (k:Nat) (h1:k<(nums l).length) (h2:k<lets.length),(A1 l (nums l)[k] lets[k]).isSome=true):o5 l lets=true:=by
 simp only[o5,Bool.and_eq_true,decide_eq_true_eq,List.all_eq_true]
 refine⟨he,fun p hp=>?_⟩
 obtain⟨k,hk⟩:=List.mem_iff_getElem?.1 hp
 rw[List.getElem?_zip_eq_some] at hk
 obtain⟨h1,e1⟩:=List.getElem?_eq_some_iff.1 hk.1
 obtain⟨h2,e2⟩:=List.getElem?_eq_some_iff.1 hk.2
 have:=(cV h _ _).1 (hall k h1 h2)
 rw[e1,e2] at this
 simp only[K8,Bool.and_eq_true,decide_eq_true_eq];exact this
theorem rS {l:List Issue} {lets:List Int} {k:Nat} (hnd:(nums l).Nodup) (hk:k<(nums l).length) (hk2:k<lets.length):j8 l lets (nums l)[k]=(A1 l (nums l)[k] lets[k]).getD R6:=by
 have h1:(nums l)[k]?=some (nums l)[k]:=by simp[hk]
 have h2:lets[k]?=some lets[k]:=by simp[hk2]
 simp only[j8,bW hnd h1,Int.toNat_natCast,h2,Option.getD_some]
def B3 (l:List Issue) (lets:List Int) (d:Int):Int:=if o6 l≠0 then o6 l else if o5 l lets=false then 22 else if d∈nums l then 0 else 6
def aR (l:List Issue) (lets:List Int) (d:Int):List DV:=if B3 l lets d=0 then [.one (.im (A2 l (nums l))),.one (.im (.mp [.int .i64] (ai (C9 l lets)))),iv 0] else [.one (.im (.raw (.pointer none))),.one (.im (.raw (.map none))),iv (B3 l lets d)]
theorem sT (l:List Issue) (lets:List Int) (d:Int):∀ x∈aR l lets d,ImV x:=by unfold aR;split<;>simp[A2]
theorem vB (l:List Issue) (lets:List Int) (d:Int) (hG:I6 G) (hs:W9 l) (hll:lets.length<1000000) (objs:List DObj):DCall prog G 124 [C8 l,H0 lets,iv d] objs (fun rr objs'=>rr=.tup (aR l lets d)∧objs'=objs):=by
 refine DCall.frame ?_ (by simp) (by simpa using sT l lets d) objs
 refine l5 func124 rfl ntmps124 (by simp) rfl ?_
 simp only[C8,H0,iv]
 have c1:=fM l hG hs
 by_cases h0:o6 l=0
 ·simp only[bH,h0,if_true] at c1
  have hnd:(nums l).Nodup:=(u4 h0).1.imp fun h=>Int.ne_of_lt h
  have hnl:(nums l).length≤l.length:=p8 l l.length
  have hl80:=hs.1
  have hsort:=bY h0
  by_cases he:lets.length=(nums l).length
  ·have he':(lets.length:Int)=((nums l).length:Int):=by omega
   simp only[A2] at c1
   have hs:=he'
   repeat' first|(with_reducible first|refine zz ?_|refine zE [0,1,2,3,6,7,8,9,10,11,12,13,14,21,30,33,34,35,55,64] ?_)|simp -dsimp[hs]|refine zp c1 ?_|refine m5 ?_ ?_<;>intro h<;>try simp only[l8] at h
   all_goals try clear hs
   refine j7 (ι:={ k:Nat // k≤lets.length∧∀ (i:Nat) (h1:i<(nums l).length) (h2:i<lets.length),i<k→(A1 l (nums l)[i] lets[i]).isSome=true }) (fun p=>⟨67,[(1,H0 lets),(2,iv d),(6,.one (.im (.raw (.pointer none)))),(7,.one (.im (.raw (.map none)))),(8,iv 0),(9,.one (.im (A2 l (nums l)))),(11,.one (.map 1)),(33,iv (lets.length:Int)),(34,iv (p.1:Int))],[.row [.im (.sl (l.map j0))],.map [.int .i64] (J3 (((nums l).take p.1).map fun d=>(d,j8 l lets d)))]⟩) (fun p=>lets.length-p.1) ⟨0,by simp⟩ (zv [1,2,6,7,8,9,11,33,34] (by simp[A2,J3];omega)) ?_
   rintro⟨k,hk,hall⟩
   simp only[iv,H0]
   by_cases hlt:k<lets.length
   ·have hkn:k<(nums l).length:=by omega
    have hx:(nums l)[k]?=some (nums l)[k]:=by simp[hkn]
    have hy:lets[k]?=some lets[k]:=by simp[hlt]
    have hw:=zk k
    have c2:=sC (G:=G) l (nums l) (nums l)[k] lets[k] hsort (by omega)
    have hta:=rS hnd hkn hlt
    cases hf:A1 l (nums l)[k] lets[k] with
    | none =>
      have hE:B3 l lets d=22:=by simp[B3,h0,xC h0 hkn hlt (by rw[hf];rfl)]
      simp only[hf,D7,A2,Option.isSome_none,Option.getD_none] at c2
      simp only[A2]
      have hs:=za hx (za hy (za hlt (za hkn hw)))
      repeat' first|(with_reducible first|refine zz ?_|refine zr ?_)|simp -dsimp[hs]|refine zq c2 ?_|refine p9 (id:=10) (nt:=67) 18 [16] [0,1,2,3,6,7,8,9,10,11,12,13,14,21,30,33,34,35,37,38,39,40,41,42,43,44,45,46,47,48,49,50,51,52,55,64] [0,1,2,3,6,7,8,9,10,11,12,13,14,21,30,33,34,35,55,64] mixed rfl (by kernel_rfl) ?_|with_reducible refine zE [0,1,2,3,6,7,8,9,10,11,12,13,14,21,30,33,34,35,55,64] ?_|refine m5 ?_ ?_<;>intro h<;>try simp only[l8] at h
      all_goals try clear hs
      all_goals simp[aR,hE]
    | some y =>
      rw[hf,Option.getD_some] at hta
      obtain⟨hym,hyd,_⟩:=T0 hf
      simp only[hf,D7,A2,Option.isSome_some,Option.getD_some] at c2
      simp only[A2]
      have hmp:eB (nums l)[k] y (((nums l).take k).map fun d=>(d,j8 l lets d))=(((nums l).take (k+1)).map fun d=>(d,j8 l lets d)):=by
       rw[gX,List.take_succ_eq_append_getElem hkn,List.map_append,List.map_singleton,hta]
       rw[List.map_map]
       intro hm
       obtain⟨z,hz,e⟩:=List.mem_map.1 hm
       simp only[Function.comp] at e
       subst e
       obtain⟨i,hi,e⟩:=List.mem_take_iff_getElem.1 hz
       have:=(List.getElem_inj hnd).1 e;omega
      rw[← hyd] at hmp
      have hmp':eB y.drawing ⟨y.drawing,y.letter,y.kind,y.items,y.dims⟩ (((nums l).take k).map fun d=>(d,j8 l lets d))=(((nums l).take (k+1)).map fun d=>(d,j8 l lets d)):=hmp
      simp only[List.map_take] at hmp'
      have hfin:∀ (i:Nat) (h1:i<(nums l).length) (h2:i<lets.length),i<k+1→(A1 l (nums l)[i] lets[i]).isSome=true:=fun i h1 h2 hi=>by
       by_cases e:i=k
       ·subst e;rw[hf];rfl
       ·exact hall i h1 h2 (by omega)
      have hs:=za hx (za hy (za hlt (za hkn hw)))
      repeat' first|with_reducible refine zz ?_|simp -dsimp[hs]|refine zq c2 ?_|refine p9 (id:=10) (nt:=67) 18 [16] [0,1,2,3,6,7,8,9,10,11,12,13,14,21,30,33,34,35,37,38,39,40,41,42,43,44,45,46,47,48,49,50,51,52,55,64] [0,1,2,3,6,7,8,9,10,11,12,13,14,21,30,33,34,35,55,64] mixed rfl (by kernel_rfl) ?_|with_reducible refine zE [0,1,2,3,6,7,8,9,10,11,12,13,14,21,30,33,34,35,55,64] ?_|refine m5 ?_ ?_<;>intro h<;>try simp only[l8] at h
      all_goals try clear hs
      exact zn ⟨k+1,by omega,hfin⟩ (zw [1,2,6,7,8,9,11,33,34] 2 (by simp[A2,hmp']))
   ·have hlet:=nO h0 he fun i h1 h2=>hall i h1 h2 (by omega)
    have htk:(nums l).take k=nums l:=List.take_of_length_le (by omega)
    have c3:=wn (G:=G) l (nums l) d ((u4 h0).1.imp fun h=>Int.le_of_lt h) (by omega)
    have hE:B3 l lets d=if d∈nums l then 0 else 6:=by simp[B3,h0,hlet]
    simp only[A2] at c3
    rw[htk]
    by_cases hd:d∈nums l
    ·rw[if_pos hd] at hE
     simp only[hd,decide_true] at c3
     simp only[A2]
     have hs:=hlt
     repeat' first|(with_reducible first|refine zz ?_|refine zr ?_|refine zE [0,1,2,3,6,7,8,9,10,11,12,13,14,21,30,33,34,35,55,64] ?_)|simp -dsimp[hs]|refine zp c3 ?_|refine m5 ?_ ?_<;>intro h<;>try simp only[l8] at h
     all_goals try clear hs
     simp[aR,hE,C9,A2]
    ·rw[if_neg hd] at hE
     simp only[hd,decide_false] at c3
     simp only[A2]
     have hs:=hlt
     repeat' first|(with_reducible first|refine zz ?_|refine zr ?_|refine zE [0,1,2,3,6,7,8,9,10,11,12,13,14,21,30,33,34,35,55,64] ?_)|simp -dsimp[hs]|refine zp c3 ?_|refine m5 ?_ ?_<;>intro h<;>try simp only[l8] at h
     all_goals try clear hs
     simp[aR,hE]
  ·have he':¬ (lets.length:Int)=((nums l).length:Int):=by omega
   have hE:B3 l lets d=22:=by
    have:o5 l lets=false:=by simp[o5,he]
    simp[B3,h0,this]
   simp only[A2] at c1
   have hs:=he'
   repeat' first|(with_reducible first|refine zz ?_|refine zr ?_|refine zE [0,1,2,3,6,7,8,9,10,11,12,13,14,21,30,33,34,35,55,64] ?_)|simp -dsimp[hs]|refine zp c1 ?_|refine m5 ?_ ?_<;>intro h<;>try simp only[l8] at h
   all_goals try clear hs
   simp[aR,hE]
 ·have hE:B3 l lets d=o6 l:=by simp[B3,h0]
  simp only[bH,h0,if_false] at c1
  have hs:=h0
  repeat' first|(with_reducible first|refine zz ?_|refine zr ?_|refine zE [0,1,2,3,6,7,8,9,10,11,12,13,14,21,30,33,34,35,55,64] ?_)|simp -dsimp[hs]|refine zp c1 ?_|refine m5 ?_ ?_<;>intro h<;>try simp only[l8] at h
  all_goals try clear hs
  simp[aR,hE,h0]
end Go.Proofs
