/- Part 14 of the proofs. -/
import Derived.Test.YtlmlkkoapahmjaaGreatDoorRows
import Derived.Test.YtlmlkkoapahmjaaGreatDoorS08
import Derived.Test.YtlmlkkoapahmjaaGreatDoorS09
import Derived.Test.YtlmlkkoapahmjaaGreatDoorS10
import Derived.Test.YtlmlkkoapahmjaaGreatDoorS12
import Derived.Test.YtlmlkkoapahmjaaGreatDoorS13
set_option linter.all false
set_option maxHeartbeats 100000000
namespace Go.Ab
open Go
theorem oZ {α:Type} {enc:α->List IC} {ok:α->Prop}:∀ (es:List (List IC)),(∀ x∈es,∃ a,ok a/\x=enc a)->∃ xs:List α,(∀ x∈xs,ok x)/\es=xs.map enc
 | [],_=>⟨[],by simp,rfl⟩
 | e :: es,h=>by
   obtain⟨a,ha,rfl⟩:=h e (by simp);obtain⟨xs,hx,rfl⟩:=oZ es λx hx=>h x (by simp[hx]);exact⟨a :: xs,by simpa using⟨ha,hx⟩,rfl⟩
theorem Opens.sliceOf {P:Program} {t e:TypeId} {α:Type} {enc:α->List IC} {ok:α->Prop} {sz:Nat} (ht:P.underlying t=some (.slice e)) (hc:P.cellsOf e=sz) (h0:0<sz) (hl:∀ x,(enc x).length=sz) (he:Opens P e (λl=>∃ x,ok x/\l=enc x)) :
 Opens P t (λl=>∃ xs:List α,(∀ x∈xs,ok x)/\l=[.sl (xs.map enc)]):=
 (Opens.slice ht hc h0 he (by rintro l ⟨x,_,rfl⟩;exact hl x)).mono (by
  rintro l ⟨es,h,rfl⟩;obtain⟨xs,h1,rfl⟩:=oZ es h;exact⟨xs,h1,rfl⟩)
def fa (x:Issue):Prop:=0<=x.kind/\x.kind<=255
end Go.Ab
namespace Go.Proofs
open Go Go.Ab
def Rd (t:TypeId) {α:Type} (enc:α->List IC) (ok:α->Prop):Prop:=Opens Tryz.prog t (λl=>∃ x,ok x/\l=enc x)
theorem oInt:Opens Tryz.prog 3 (λl=>∃ n:Int,l=[rI n]):=(Opens.int Tryz.underlying3).mono (by rintro l ⟨n,_,rfl⟩;exact⟨n,rfl⟩)
theorem En:Opens Tryz.prog 5 (λl=>∃ n:Int,(0<=n/\n<=255)/\l=[.raw (.int .u8 n)]):=(Opens.int Tryz.underlying5).mono (by
 rintro l ⟨n,hn,rfl⟩;exact⟨n,by simpa[IntKind.min,IntKind.max,IntKind.signed,IntKind.bits] using hn,rfl⟩)
theorem BE:Opens Tryz.prog 4 (λl=>∃ b:Bool,l=[rB b]):=Opens.bool Tryz.underlying4
theorem DZ:Rd 3 encI (λ_=>True):=oInt.mono (by rintro l ⟨n,rfl⟩;exact⟨n,trivial,rfl⟩)
theorem uq {α:Type} {l:List α} (h:l.length=2):∃ a b,l=[a,b]:=by
 match l,h with
 | [a,b],_=>exact⟨a,b,rfl⟩
theorem Aq {α:Type} {l:List α} (h:l.length=3):∃ a b c,l=[a,b,c]:=by
 match l,h with
 | [a,b,c],_=>exact⟨a,b,c,rfl⟩
theorem EP {α:Type} {l:List α} (h:l.length=4):∃ a b c d,l=[a,b,c,d]:=by
 match l,h with
 | [a,b,c,d],_=>exact⟨a,b,c,d,rfl⟩
theorem EO {α:Type} {l:List α} (h:l.length=5):∃ a b c d e,l=[a,b,c,d,e]:=by
 match l,h with
 | [a,b,c,d,e],_=>exact⟨a,b,c,d,e,rfl⟩
def wU {α:Type} (d:α) (a b c:α):Nat->α|0=>a|1=>b|2=>c|_=>d
def BB {α:Type} (z:α) (a b c d e:α):Nat->α|0=>a|1=>b|2=>c|3=>d|4=>e|_=>z
theorem Ch:Rd 145 p7 (λ_=>True):=(Opens.struct Tryz.underlying145 (by kernel_rfl) (λ_ l=>∃ n:Int,l=[rI n]) (λi f hf=>by
 rcases i with _|_|i<;>simp at hf<;>subst hf<;>exact oInt)).mono (by
 rintro l ⟨ls,h1,h2,rfl⟩;obtain⟨a,b,rfl⟩:=uq h1;obtain⟨x,rfl⟩:=h2 0 a rfl;obtain⟨y,rfl⟩:=h2 1 b rfl;exact⟨⟨x,y⟩,trivial,rfl⟩)
theorem Ea:Rd 99 B3 (λ_=>True):=(Opens.struct Tryz.underlying99 (by kernel_rfl) (λ_ l=>∃ n:Int,l=[rI n]) (λi f hf=>by
 rcases i with _|_|_|i<;>simp at hf<;>subst hf<;>exact oInt)).mono (by
 rintro l ⟨ls,h1,h2,rfl⟩;obtain⟨a,b,c,rfl⟩:=Aq h1;obtain⟨x,rfl⟩:=h2 0 a rfl;obtain⟨y,rfl⟩:=h2 1 b rfl;obtain⟨z,rfl⟩:=h2 2 c rfl;exact⟨⟨x,y,z⟩,trivial,rfl⟩)
theorem Cz:Opens Tryz.prog 146 (λl=>∃ xs:List Itm,l=[.sl (xs.map p7)]):=
 (Opens.sliceOf Tryz.underlying146 (sz:=2) (by kernel_rfl) (by decide) (λ_=>rfl) Ch).mono (by rintro l ⟨xs,_,h⟩;exact⟨xs,h⟩)
theorem Es:Opens Tryz.prog 147 (λl=>∃ xs:List Dim,l=[.sl (xs.map B3)]):=
 (Opens.sliceOf Tryz.underlying147 (sz:=3) (by kernel_rfl) (by decide) (λ_=>rfl) Ea).mono (by rintro l ⟨xs,_,h⟩;exact⟨xs,h⟩)
theorem BD:Opens Tryz.prog 43 (λl=>∃ xs:List Int,l=[.sl (xs.map encI)]):=
 (Opens.sliceOf Tryz.underlying43 (sz:=1) (by kernel_rfl) (by decide) (λ_=>rfl) DZ).mono (by rintro l ⟨xs,_,h⟩;exact⟨xs,h⟩)
theorem zR:Rd 149 e9 fa:=(Opens.struct Tryz.underlying149 (by kernel_rfl) (BB (λ_=>True) (λl=>∃ n:Int,l=[rI n]) (λl=>∃ n:Int,l=[rI n]) (λl=>∃ n:Int,(0<=n/\n<=255)/\l=[.raw (.int .u8 n)]) (λl=>∃ xs:List Itm,l=[.sl (xs.map p7)]) (λl=>∃ xs:List Dim,l=[.sl (xs.map B3)])) (λi f hf=>by
 rcases i with _|_|_|_|_|i<;>simp at hf<;>subst hf
 ·exact oInt
 ·exact oInt
 ·exact En
 ·exact Cz
 ·exact Es)).mono (by
 rintro l ⟨ls,h1,h2,rfl⟩;obtain⟨a,b,c,d,e,rfl⟩:=EO h1;obtain⟨x,rfl⟩:=h2 0 a rfl;obtain⟨y,rfl⟩:=h2 1 b rfl;obtain⟨z,hz,rfl⟩:=h2 2 c rfl;obtain⟨u,rfl⟩:=h2 3 d rfl;obtain⟨v,rfl⟩:=h2 4 e rfl;exact⟨⟨x,y,z,u,v⟩,hz,rfl⟩)
theorem Cu:Opens Tryz.prog 22 (λl=>∃ xs:List Issue,(∀ x∈xs,fa x)/\l=[.sl (xs.map e9)]):=
 Opens.sliceOf Tryz.underlying22 (sz:=5) (by kernel_rfl) (by decide) (λ_=>rfl) zR
theorem Eo:Opens Tryz.prog 24 (λl=>∃ xs:List Issue,(∀ x∈xs,fa x)/\l=[.sl (xs.map e9)]):=(Opens.struct Tryz.underlying24 (by kernel_rfl) (λ_ l=>∃ xs:List Issue,(∀ x∈xs,fa x)/\l=[.sl (xs.map e9)]) (λi f hf=>by
 rcases i with _|i<;>simp at hf<;>subst hf<;>exact Cu)).mono (by
 rintro l ⟨ls,h1,h2,rfl⟩;obtain⟨a,rfl⟩:=List.length_eq_one_iff.1 h1;obtain⟨x,hx,rfl⟩:=h2 0 a rfl;exact⟨x,hx,rfl⟩)
theorem Q7 {P:Program} {W:World} {t e te n:Nat} {f:Field} {ps rs:Array TypeId} {cs:Array Value} {fuel:Nat} {p:List MemPlace} {names:List (List UInt8)} {fs:List FuncId} (ht:P.underlying t=some (.array n e)) (hte:P.underlying e=some (.struct #[f])) (hf0:f.offset=0) (hft:f.type=te) (hu:P.underlying te=some (.func ps rs false)) (hce:P.cellsOf e=1) (hcf:P.cellsOf te=1) (hn:names.length=n)
 (hfs:(names.zip fs).all (λx=>x.1≠[]/\((List.range P.funcs.size).filter λf=>(P.funcs[f]?).any (·.name.toUTF8.data.toList==x.1))=[x.2])=true) (hl:fs.length=n)
 (h:DataW.trod (funcToken P) P W 0 (λ_=>true) true fuel t cs.toList=some (.agg (names.map λx=>.agg [.held x]),p)):∀ (j:Nat) (g:FuncId),fs[j]?=some g->cs[j]?=some (.func (.func g) #[] #[]):=by
 obtain⟨xs,m,_,ex,hlen,hxl,hel⟩:=DataW.trod_array ht h;intro j g hg;have hj:j<n:=by rw[<- hl];exact e7 hg
 have hE:=hel j hj;rw[hce,Nat.mul_one] at hE;have hx:xs[j]?=some xs[j]:=by simp[hxl,hj]
 rw[hx] at hE;obtain⟨ys,m2,_,ey,hlen2,hyl,hel2⟩:=DataW.trod_struct hte hE;have hE2:=hel2 0 f rfl;have hyl1:ys.length=1:=by simpa using hyl
 obtain⟨y,rfl⟩:=List.length_eq_one_iff.1 hyl1;rw[hf0,hft,hcf] at hE2;have hcl:j<cs.size:=by
  rcases Nat.lt_or_ge j cs.size with h1|h1
  ·exact h1
  ·simp[hce] at hlen2;omega
 have hc1:((cs.toList.drop j).take 1)=[cs[j]]:=by
  rw[List.drop_eq_getElem_cons (by simpa using hcl)];simp
 rw[hc1] at hE2;simp only[List.drop_zero,List.take_succ_cons,List.getElem?_cons_zero,List.take_nil] at hE2;have hnm:names[j]?=some names[j]:=by simp[hn,hj]
 have e1:(xs.map (·.1))[j]?=(names.map λx=>DataW.agg [DataW.held x])[j]?:=by rw[(DataW.agg.inj (Prod.mk.inj ex).1)]
 rw[List.getElem?_map,List.getElem?_map,hx,hnm,ey] at e1;simp only[Option.map_some,Option.some.injEq,DataW.agg.injEq,List.map_cons,List.map_nil,List.cons.injEq,and_true] at e1;have hall:=List.all_eq_true.1 hfs (names[j],g) (List.mem_iff_getElem?.2 ⟨j,by rw[List.getElem?_zip_eq_some];exact⟨hnm,hg⟩⟩);simp only[decide_eq_true_eq] at hall;cases hnj:names[j] with
 | nil=>exact absurd hnj hall.1
 | cons b r =>
   rw[hnj] at hall e1;have:=func_of_trod (f0:=g) (q:=y.2) hu hall.2 (by rw[hE2,<- e1]);rw[Array.getElem?_eq_getElem hcl,this]
end Go.Proofs
namespace Go.Proofs
open Go Go.Ab
theorem kY {l:List Issue} (h:j8 l=0):∃ dep:Int->Int,∀ n∈nums l,1<=dep n/\dep n<=6/\∀ c∈cp l n,c∈nums l/\dep c<dep n:=by
 have hL:q9 l=true:=by
  cases hL:q9 l
  ·simp[j8,hL] at h
  ·rfl
 have h2:¬ W9 (C5 l) > (C5 l).length:=λhg=>by simp[j8,hL,hg] at h
 have h6:¬ W9 (C5 l) > 6:=λhg=>by simp[j8,hL,h2,hg] at h
 have hsc:=hL;simp only[q9,Bool.and_eq_true] at hsc;obtain⟨ds,hds⟩:=Option.isSome_iff_exists.1 hsc.1.1.2;obtain⟨e,hlt,_,_,_⟩:=I2 hds;have hall:=hsc.1.2;rw[<- e] at hall;have hnd:ds.Nodup:=hlt.imp λh=>Int.ne_of_lt h;have hch:∀ n∈ds,∀ c∈cp l n,c∈ds:=λn _ c hc=>by
  simp only[cp,List.mem_flatMap,List.mem_map] at hc;obtain⟨x,hx,y,hy,rfl⟩:=hc;have:=List.all_eq_true.1 (List.all_eq_true.1 hall x (List.mem_filter.1 hx).1) y hy;simpa using this
 have e1:∀ n∈ds,Rr l (ds.length+1) n<=ds.length:=λn hn=>Int.not_lt.1 λhg=>h2 (by
  have:=(jB (Rr l (ds.length+1)) ds ds.length (by omega)).2 ⟨n,hn,hg⟩;simpa[C5,<- e] using this)
 have e2:∀ n∈ds,Rr l (ds.length+1) n<=6:=λn hn=>Int.not_lt.1 λhg=>h6 (by
  have:=(jB (Rr l (ds.length+1)) ds 6 (by omega)).2 ⟨n,hn,hg⟩;simpa[C5,<- e] using this)
 have h0:DInv l ds ([],gg ds):=by
  rw[kH hnd];exact⟨hnd,λn h=>h,by simp,by simp,λn h h'=>absurd h h'⟩
 obtain⟨hi,_⟩:=fj hch ds.length _ h0;change DInv l ds (o6 l ds) at hi;obtain⟨d1,d2⟩:=gE hnd hch;have hz:(o6 l ds).2.length=0:=by
  refine Nat.eq_zero_of_not_pos λhp=>?_;obtain⟨n,hn,hg⟩:=d1.1 hp;have:=e1 n hn;omega
 have hempty:∀ n,n∉(o6 l ds).2:=λn=>by rw[List.length_eq_zero_iff.1 hz];simp
 refine⟨m5 (o6 l ds).1,λn hn=>?_⟩;rw[<- e] at hn;obtain⟨a,b,c⟩:=hi.val n hn (hempty n);have hn1:=c (ds.length+1) (by omega);refine⟨a,by have:=e2 n hn;omega,λm hm=>?_⟩;have hmd:=hch n hn m hm;obtain⟨a',b',c'⟩:=hi.val m hmd (hempty m);have hm1:=c' ds.length (by omega);have hle:=mz (f:=Rr l ds.length) hm;have hr:Rr l (ds.length+1) n=1+mx (Rr l ds.length) (cp l n):=rfl;exact⟨by rw[<- e];exact hmd,by omega⟩
open Go Go.Ab Tryz
variable {G:Hn}
theorem tq (n lo hi:Int):zP prog G 288 [iv n,iv lo,iv hi] (bv (decide (lo<=n)&&decide (n<=hi))):=by
 refine zf func288 ntmps288 ?_;try simp only[iv,iv,iv]
 have hs:=trivial;repeat' first|(with_reducible first|refine zz ?_|refine zr ?_|refine zE [0,1,2,6] ?_)|simp -dsimp[hs]|with_reducible refine j0 ?_ ?_<;>intro h<;>have h0:=h<;>(try simp only[i6] at h)<;>have h2:=h<;>(try simp at h2)<;>replace hs:=za h0 (za h (za h2 hs))
 all_goals try clear hs
 all_goals simp[*]
theorem T5 (d:Dim):H6 d=true↔0<=d.nominal/\d.nominal<=1000000000/\0<=d.upper/\d.upper<=1000000000/\0<=d.lower/\d.lower<=d.upper:=by
 simp[H6];omega
theorem bo {b:Bool} {p:Prop} (h:b=true↔p) (hn:¬ p):b=false:=by
 cases b
 ·rfl
 ·exact absurd (h.1 rfl) hn
theorem sC {b:Bool} {p:Prop} (h:b=true↔p) (hn:p):b=true:=h.2 hn
theorem Fg (d:Dim):zP prog G 280 [iF d] (bv (H6 d)):=by
 refine zf func280 ntmps280 ?_;try simp only[iF]
 have hs:=trivial;repeat' first|(with_reducible first|refine zz ?_|refine zr ?_|refine zE [0,1,2] ?_)|simp -dsimp[hs]|refine zp (tq (G:=G) _ _ _) ?_|with_reducible refine j0 ?_ ?_<;>intro h<;>have h0:=h<;>(try simp only[i6] at h)<;>have h2:=h<;>(try simp at h2)<;>replace hs:=za h0 (za h (za h2 hs))
 ·rw[Bool.eq_iff_iff,T5];simp;omega
 ·exact bo (T5 d) (by omega)
 ·exact bo (T5 d) (by omega)
theorem du (x:Issue):(vR x&&zb x)=true↔1<=x.drawing/\x.drawing<=9999/\1<=x.letter/\x.letter<=8/\(x.kind=1/\1<=x.items.length/\x.items.length<=8/\x.dims.length=0\/2<=x.kind/\x.kind<=3/\x.dims.length<=4/\x.items.length=0):=by
 unfold vR zb;split
 ·simp only[Bool.and_eq_true,decide_eq_true_eq];omega
 ·simp only[Bool.and_eq_true,decide_eq_true_eq];omega
theorem nz {d:Int} {l:List Itm} {k:Nat} (hlt:k<l.length) (hno:F1 d 0 l=F1 d (pv l k) (l.drop k)) :
 F1 d 0 l=true↔(1<=l[k].drawing/\l[k].drawing<=9999/\1<=l[k].count/\l[k].count<=20/\l[k].drawing≠d/\pv l k<l[k].drawing)/\F1 d (pv l (k+1)) (l.drop (k+1))=true:=by
 have hx:l[k]?=some l[k]:=by simp[hlt]
 have hpv1:pv l (k+1)=l[k].drawing:=by simp[pv,hx]
 rw[hno,List.drop_eq_getElem_cons hlt,F1,hpv1];simp only[Bool.and_eq_true,decide_eq_true_eq,Bool.not_eq_true',decide_eq_false_iff_not];constructor
 ·rintro⟨⟨⟨⟨⟨a,b⟩,c,d⟩,e⟩,f⟩,g⟩;exact⟨⟨a,b,c,d,e,f⟩,g⟩
 ·rintro⟨⟨a,b,c,d,e,f⟩,g⟩;exact⟨⟨⟨⟨⟨a,b⟩,c,d⟩,e⟩,f⟩,g⟩
theorem C8 {b c:Bool} {p:Prop} (h:b=true↔p/\c=true) (hp:p):b=c:=by
 rw[Bool.eq_iff_iff,h];exact⟨λh=>h.2,λh=>⟨hp,h⟩⟩
theorem u3 {b c:Bool} {p:Prop} (h:b=true↔p/\c=true) (hp:¬ p):b=false:=bo h λh=>hp h.1
theorem R0 {α:Type} {f:α->Bool} {l:List α} {k:Nat} (hlt:k<l.length) (hno:l.all f=(l.drop k).all f):l.all f=true↔f l[k]=true/\(l.drop (k+1)).all f=true:=by
 rw[hno,List.drop_eq_getElem_cons hlt,List.all_cons,Bool.and_eq_true]
@[simp] abbrev LA:List Nat:=[0,1,2,3,4,5,57,62,102,107,116]
theorem Ay (x:Issue) (hk:0<=x.kind/\x.kind<=255) (hl:x.items.length<1000000) (hd:x.dims.length<1000000):zP prog G 267 [J5 x] (bv (n4 x)):=by
 refine zf func267 ntmps267 ?_;try simp only[J5]
 have hw:IntKind.i64.wrap x.kind=x.kind:=m9 (by omega) (by omega);have h12:=du x;generalize hA:(vR x&&zb x)=A at h12;have hs:=hw;repeat' first|(with_reducible first|refine zz ?_|refine zr ?_|refine zE LA ?_)|simp -dsimp[hs]|refine zp (aY (G:=G) _ _ _) ?_|refine i7 ?_ ?_<;>intro h<;>try exact h.elim|with_reducible refine j0 ?_ ?_<;>intro h<;>have h0:=h<;>(try simp only[i6] at h)<;>have h2:=h<;>(try simp at h2)<;>replace hs:=za h0 (za h (za h2 hs))
 all_goals try clear hs
 all_goals first
  | (have hA2 : A = false := bo h12 (by clear h12 hA hw; omega)
     rw[hA2] at hA;simp[n4,hA];done)
  | have hA2:A=true:=sC h12 (by clear h12 hA hw;omega)
    rw[hA2] at hA;clear h12 hA2;refine g9 (ι:={ k:Nat // k<=x.items.length/\F1 x.drawing 0 x.items=F1 x.drawing (pv x.items k) (x.items.drop k) }) (λp=>⟨117,[(1,.one (.ptr 0 0)),(2,bv false),(3,iv (p.1:Int))],[.row ((e9 x).map .im)]⟩) (λp=>x.items.length-p.1) ⟨0,by simp[pv]⟩ (zv [1,2,3] (by clear hA;simp_all)) ?_;clear hw;rintro⟨k,hk,hno⟩;simp only[iv,e9,rI,List.map_cons,List.map_nil]
 all_goals
  by_cases hlt:k<x.items.length
  ·have hx:x.items[k]?=some x.items[k]:=by simp[hlt]
   have hw:=zk k;have hst:=nz hlt hno;by_cases hk0:0<k
   ·have hkx:x.items[k-1]?=some x.items[k-1]:=by simp
    have hw3:IntKind.i64.wrap ((k:Int)-1)=((k-1:Nat):Int):=by rw[m9 (by omega) (by omega)];omega
    have hpv0:pv x.items k=x.items[k-1].drawing:=by
     obtain⟨j,rfl⟩:∃ j,k=j+1:=⟨k-1,by omega⟩
     have:x.items[j]?=some x.items[j]:=by simp
     simp[pv,this]
    rw[hpv0] at hst;have hs:=za hx (za hw (za hw3 (za hkx (za hk0 hlt))));repeat' first|(with_reducible first|refine zz ?_|refine zr ?_)|simp -dsimp[hs]|refine zq (aY (G:=G) _ _ _) ?_|refine zM 7 117 33 LA ?_|with_reducible refine zE LA ?_|refine i7 ?_ ?_<;>intro h<;>try exact h.elim|with_reducible refine j0 ?_ ?_<;>intro h<;>have h0:=h<;>(try simp only[i6] at h)<;>have h2:=h<;>(try simp at h2)<;>replace hs:=za h0 (za h (za h2 hs))
    all_goals try clear hs
    all_goals first
     | (have hf:=u3 hst (by omega);simp[n4,hf];done)
     | exact zn ⟨k+1,by omega,C8 hst (by omega)⟩ (zw [1,2,3] 1)
   ·obtain rfl:k=0:=by omega
    rw[show pv x.items 0=0 from rfl] at hst;have hs:=za hx (za hw (za hk0 hlt));repeat' first|(with_reducible first|refine zz ?_|refine zr ?_)|simp -dsimp[hs]|refine zq (aY (G:=G) _ _ _) ?_|refine zM 7 117 33 LA ?_|with_reducible refine zE LA ?_|refine i7 ?_ ?_<;>intro h<;>try exact h.elim|with_reducible refine j0 ?_ ?_<;>intro h<;>have h0:=h<;>(try simp only[i6] at h)<;>have h2:=h<;>(try simp at h2)<;>replace hs:=za h0 (za h (za h2 hs))
    all_goals try clear hs
    all_goals first
     | (have hf:=u3 hst (by omega);simp[n4,hf];done)
     | exact zn ⟨0+1,by omega,C8 hst (by omega)⟩ (zw [1,2,3] 1 (by simp;exact m9 (by omega) (by omega)))
  ·have hit:F1 x.drawing 0 x.items=true:=by rw[hno,List.drop_eq_nil_of_le (by omega)];rfl
   have hs:=hlt;repeat' first|(with_reducible first|refine zz ?_|refine zE LA ?_)|simp -dsimp[hs]|refine i7 ?_ ?_<;>intro h<;>try exact h.elim
   all_goals try clear hs
   refine g9 (ι:={ k:Nat // k<=x.dims.length/\x.dims.all H6=(x.dims.drop k).all H6 }) (λp=>⟨117,[(1,.one (.ptr 0 0)),(2,bv false),(5,iv (p.1:Int))],[.row ((e9 x).map .im)]⟩) (λp=>x.dims.length-p.1) ⟨0,by simp⟩ (zv [1,2,5]) ?_;rintro⟨j,hj,hdo⟩;simp only[iv,e9,rI,List.map_cons,List.map_nil];by_cases hlj:j<x.dims.length
   ·have hx:x.dims[j]?=some x.dims[j]:=by simp[hlj]
    have hw:=zk j;have hst:=R0 hlj hdo;have cd:=Fg (G:=G) x.dims[j];have hs:=za hx (za hw hlj);repeat' first|(with_reducible first|refine zz ?_|refine zr ?_|refine zE LA ?_)|simp -dsimp[hs]|refine zp cd ?_|refine i7 ?_ ?_<;>intro h<;>try exact h.elim
    all_goals try clear hs
    ·simp only[n4,hA,hit,Bool.true_and];exact u3 hst (by rw[‹H6 x.dims[j]=false›];exact Bool.false_ne_true)
    ·exact zn ⟨j+1,by omega,C8 hst ‹H6 x.dims[j]=true›⟩ (zv [1,2,5])
   ·have hdims:x.dims.all H6=true:=by rw[hdo,List.drop_eq_nil_of_le (by omega)];rfl
    have hs:=hlj;repeat' first|(with_reducible first|refine zz ?_|refine zr ?_|refine zE LA ?_)|simp -dsimp[hs]|refine i7 ?_ ?_<;>intro h<;>try exact h.elim
    all_goals try clear hs
    simp[n4,hA,hit,hdims]
end Go.Proofs
namespace Go.Ab
open Go
@[simp] theorem Fw (L:List Int) (k:Nat) (v:Int):(l8 (L.map encI)).set k [DC.im (.raw (.int .i64 v))]=l8 ((L.set k v).map encI):=by
 simp only[l8,List.map_set,encI,rI,List.map_cons,List.map_nil]
@[simp] theorem EV (L:List Int) (k:Nat):(l8 (L.map encI))[k]?=(L[k]?).map λv=>[DC.im (.raw (.int .i64 v))]:=by
 simp only[l8,List.getElem?_map,Option.map_map];rfl
@[simp] theorem EU (L:List Int) (k:Nat) (h:k<(l8 (L.map encI)).length):(l8 (L.map encI))[k]=[DC.im (.raw (.int .i64 (L[k]'(by simpa[o3] using h))))]:=by
 simp[l8]
@[simp] theorem Fr (n:Nat) (c:IC):List.replicate n [DC.im c]=l8 (List.replicate n [c]):=by simp[l8]
theorem jC {α β:Type} {f:α->β} {c:β} (h:∀ x,f x=c):∀ l:List α,l.map f=List.replicate l.length c
 | []=>rfl
 | x :: l=>by simp[jC h l,h x,List.replicate_succ]
@[simp] theorem zC (n:Nat) (c:List IC):(l8 (List.replicate n c)).take n=l8 (List.replicate n c):=List.take_of_length_le (by simp[o3])
theorem kA {α β:Type} {f:α->β} {l:List α} {k:Nat} {x:α} {v:β} (hn:l.Nodup) (hk:l[k]?=some x):(l.map f).set k v=l.map (λy=>open Classical in if y=x then v else f y):=by
 refine List.ext_getElem? λj=>?_;obtain⟨hlt,he⟩:=List.getElem?_eq_some_iff.1 hk;by_cases hj:j=k
 ·subst hj;rw[List.getElem?_set_self (by simpa using hlt),List.getElem?_map,hk];simp
 ·rw[List.getElem?_set_ne (Ne.symm hj),List.getElem?_map,List.getElem?_map];cases hy:l[j]? with
  | none=>rfl
  | some y =>
    have:y≠x:=λe=>hj ((List.getElem?_inj (List.getElem?_eq_some_iff.1 hy).1 hn).1 (by rw[hy,hk,e]));simp[this]
end Go.Ab
namespace Go.Proofs
open Go Go.Ab Tryz
variable {G:Hn}
def Rp (l:List Issue) (r:Nat) (pre:List Issue) (n:Int):Int:=if pre.any (λx=>decide (x.drawing=n)) then 1+mx (Rr l r) (cp pre n) else 0
def Rq (l:List Issue) (r:Nat) (v:Int) (ys:List Itm):Int:=max (max v 1) (1+mx (Rr l r) (ys.map (·.drawing)))
theorem mn (f:Int->Int) (a b:List Int):mx f (a++b)=max (mx f a) (mx f b):=by
 rw[mx,List.foldl_append];exact bg f b _ (T0 f a)
theorem Dp (l:List Issue) (r:Nat) (v:Int):Rq l r v []=max v 1:=by
 have:mx (Rr l r) []=0:=rfl;simp only[Rq,List.map_nil,this];omega
theorem Bl (l:List Issue) (r:Nat) (v:Int) (ys:List Itm) (y:Itm):Rq l r v (ys++[y])=max (Rq l r v ys) (1+Rr l r y.drawing):=by
 have h:=mW l r y.drawing;have:mx (Rr l r) [y.drawing]=Rr l r y.drawing:=by simp only[mx,List.foldl_cons,List.foldl_nil];omega
 simp only[Rq,List.map_append,List.map_cons,List.map_nil,mn,this];omega
theorem Bm (l:List Issue) (r:Nat) (pre:List Issue) (x:Issue) (n:Int):Rp l r (pre++[x]) n=if n=x.drawing then Rq l r (Rp l r pre n) x.items else Rp l r pre n:=by
 by_cases hn:n=x.drawing
 ·subst hn;rw[if_pos rfl];have hc:cp (pre++[x]) x.drawing=cp pre x.drawing++x.items.map (·.drawing):=by simp[cp,cM]
  have h1:=T0 (Rr l r) (cp pre x.drawing);have h2:=T0 (Rr l r) (x.items.map (·.drawing));unfold Rp;rw[if_pos (by simp),hc,mn];unfold Rq;split
  ·omega
  ·rename_i hp;have:cp pre x.drawing=[]:=by
    simp only[cp,cM];rw[List.filter_eq_nil_iff.2 λy hy=>?_]
    ·rfl
    ·intro he;exact hp (List.any_eq_true.2 ⟨y,hy,he⟩)
   have h3:mx (Rr l r) []=0:=rfl;rw[this,h3];omega
 ·rw[if_neg hn];have hc:cp (pre++[x]) n=cp pre n:=by simp[cp,cM,Ne.symm hn]
  unfold Rp;rw[hc];simp[Ne.symm hn]
theorem Bn {l:List Issue} {n:Int} (r:Nat) (h:∃ x∈l,x.drawing=n):Rp l r l n=Rr l (r+1) n:=by
 unfold Rp;obtain⟨x,hx,he⟩:=h;rw[if_pos (List.any_eq_true.2 ⟨x,hx,by simpa using he⟩)];rfl
theorem aR {x:Issue} (h:n4 x=true):x.items.length<=8/\x.dims.length<=4:=by
 simp only[n4,Bool.and_assoc] at h;rw[<- Bool.and_assoc,Bool.and_eq_true] at h;have:=(du x).1 h.1;omega
theorem oR {l:List Issue} {n:Int} (h:n∈nums l):∃ x∈l,x.drawing=n:=by
 have gen:∀ k,n∈E6 l k->∃ x∈l,x.drawing=n:=by
  intro k;induction k with
  | zero=>intro h;cases h
  | succ k ih =>
    intro h;simp only[E6] at h;rcases List.mem_append.1 h with h|h
    ·exact ih h
    ·split at h
     ·rename_i x hx;split at h
      ·rw[List.mem_singleton] at h;exact⟨x,List.mem_of_getElem? hx,h.symm⟩
      ·cases h
     ·cases h
 exact gen _ h
theorem nx {l:List Issue} (h:q9 l=true):o7 none l=some (nums l):=by
 simp only[q9,Bool.and_eq_true] at h;obtain⟨ds,hds⟩:=Option.isSome_iff_exists.1 h.1.1.2;rw[hds,gX hds]
theorem ff {l:List Int} (hn:l.Nodup) {k:Nat} {x:Int} (h:l[k]?=some x):idx l x=k:=by
 refine sU h λj hj he=>?_;have h1:=(List.getElem?_eq_some_iff.1 h).1;rw[<- he] at h;have:=(List.getElem?_inj h1 hn).1 h;omega
@[simp] abbrev LB:List Nat:=[0,1,2,3,4,5,6,7,8,9,10,19,29,53]
theorem tJ (l:List Issue) (hl:q9 l=true):zP prog G 230 [A6 l] (n9 (C5 l)):=by
 refine zf func230 ntmps230 ?_;try simp only[A6]
 have hli:=hl;simp only[q9,Bool.and_eq_true,decide_eq_true_eq,List.all_eq_true] at hli;obtain⟨⟨⟨⟨hl1,hl60⟩,hsc⟩,hitems⟩,hn20⟩:=hli;have c1:=H0 (G:=G) l (by omega);have hD:C5 l=(nums l).map (Rr l ((nums l).length+1)):=rfl;obtain⟨_,hlt',hmem,hok,_⟩:=I2 (nx hl);have hnd:(nums l).Nodup:=hlt'.imp λh=>Int.ne_of_lt h;generalize hns:nums l=ns at *;have hs:=trivial;repeat' first|(with_reducible first|refine zz ?_|refine And.intro (by omega) ?_|refine zE LB ?_)|simp -dsimp[hs]|refine zp c1 ?_
 refine g9 (ι:={ r:Nat // r<=ns.length+1 }) (λp=>⟨78,[(1,.one (.ptr 0 0)),(3,n9 ns),(4,n9 (ns.map (Rr l p.1))),(5,iv (p.1:Int))],[.row [.im (.sl (l.map e9))]]⟩) (λp=>ns.length+1-p.1) ⟨0,by omega⟩ (zw [1,3,4,5] 1 (by simp[jC (f:=encI ∘ Rr l 0) (c:=[rI 0]) (λ_=>rfl)])) ?_;rintro⟨r,hr⟩;simp only[iv,n9];by_cases hrl:r<=ns.length
 ·have hw:=zk r;have hs:=hrl;repeat' first|(with_reducible first|refine zz ?_|refine And.intro (by omega) ?_|refine zE LB ?_)|simp -dsimp[hs]|refine i7 ?_ ?_<;>intro h<;>try exact h.elim
  refine g9 (ι:={ p:Nat×List Int // p.1<=l.length/\p.2=ns.map (Rp l r (l.take p.1)) }) (λp=>⟨78,[(1,.one (.ptr 0 0)),(3,n9 ns),(4,n9 (ns.map (Rr l r))),(5,iv (r:Int)),(6,.one (.vec 1 0 0 ns.length)),(7,iv (p.1.1:Int))],[.row [.im (.sl (l.map e9))],.vec 1 (l8 (p.1.2.map encI)) 0 false]⟩) (λp=>l.length-p.1.1) ⟨(0,List.replicate ns.length 0),by omega,(jC (λ_=>rfl) ns).symm⟩ (zv [1,3,4,5,6,7]) ?_;rintro⟨⟨i,L⟩,hi,hL⟩;simp only at hi hL;simp only[iv,n9];by_cases hlt:i<l.length
  ·have hx:l[i]?=some l[i]:=by simp[hlt]
   have hw1:=zk i;obtain⟨k,hk⟩:=List.mem_iff_getElem?.1 (hmem l[i] (List.getElem_mem hlt));have hkl:=e7 hk;have hidx:=ff hnd hk;have c2:=bS (G:=G) ns l[i].drawing (by omega);rw[hidx] at c2;have hLk:L[k]?=some (Rp l r (l.take i) l[i].drawing):=by rw[hL,List.getElem?_map,hk];rfl
   generalize hv:Rp l r (l.take i) l[i].drawing=v at hLk;have hit:=hitems l[i] (List.getElem_mem hlt);have hsm:=(aR (hok l[i] (List.getElem_mem hlt))).1;have hs:=za hx (za hw1 (za hlt (za hkl hLk)));repeat' first|(with_reducible first|refine zz ?_|refine zE LB ?_)|simp -dsimp[hs]|refine zp c2 ?_|refine i7 ?_ ?_<;>intro h<;>try exact h.elim
   refine g9 (ι:={ p:Nat×List Int // p.1<=l[i].items.length/\p.2=L.set k (Rq l r v (l[i].items.take p.1)) }) (λp=>⟨78,[(1,.one (.ptr 0 0)),(3,n9 ns),(4,n9 (ns.map (Rr l r))),(5,iv (r:Int)),(6,.one (.vec 1 0 0 ns.length)),(7,iv (i:Int)),(8,.one (.ptr 4 0)),(9,iv (k:Int)),(10,iv (p.1.1:Int))],[.row [.im (.sl (l.map e9))],.vec 1 (l8 (p.1.2.map encI)) 0 false,.vec 0 [] 0 true,.vec 0 [] 0 true,.row ((e9 l[i]).map .im)]⟩) (λp=>l[i].items.length-p.1.1) ⟨(0,L.set k (max v 1)),by omega,by simp only[List.take_zero,Dp]⟩ (zv [1,3,4,5,6,7,8,9,10]) ?_;rintro⟨⟨u,L'⟩,hu,hL'⟩;simp only at hu hL';simp only[iv,n9,e9,rI,List.map_cons,List.map_nil];have hkL:k<L.length:=e7 hLk;by_cases hlu:u<l[i].items.length
   ·have hy:l[i].items[u]?=some l[i].items[u]:=by simp[hlu]
    have hw2:=zk u;obtain⟨m,hm⟩:=List.mem_iff_getElem?.1 (hit l[i].items[u] (List.getElem_mem hlu));have hml:=e7 hm;have hmn:ns[m]=l[i].items[u].drawing:=(List.getElem?_eq_some_iff.1 hm).2;have hidx2:=ff hnd hm;have c3:=bS (G:=G) ns l[i].items[u].drawing (by omega);rw[hidx2] at c3;have hLk':L'[k]?=some (Rq l r v (l[i].items.take u)):=by rw[hL',List.getElem?_set_self hkL]
    have hb1:=mW l r l[i].items[u].drawing;have hb2:=yM l r l[i].items[u].drawing;have hw3:IntKind.i64.wrap (1+Rr l r l[i].items[u].drawing)=1+Rr l r l[i].items[u].drawing:=m9 (by omega) (by omega);have hnext:L'.set k (max (Rq l r v (l[i].items.take u)) (1+Rr l r l[i].items[u].drawing))=L.set k (Rq l r v (l[i].items.take (u+1))):=by
     rw[List.take_succ_eq_append_getElem hlu,Bl,hL',List.set_set]
    have hs:=za hy (za hw2 (za hlu (za hkl (za hLk' (za hm (za hml (za hmn hw3)))))));repeat' first|with_reducible refine zz ?_|simp -dsimp[hs]|refine zq c3 ?_|refine zM 16 78 20 LB ?_|with_reducible refine zE LB ?_|refine i7 ?_ ?_<;>intro h<;>try exact h.elim
    exact zn ⟨(u+1,L'.set k (max (Rq l r v (l[i].items.take u)) (1+Rr l r l[i].items[u].drawing))),by omega,hnext⟩ (zv [1,3,4,5,6,7,8,9,10])
   ·have hend:L'=ns.map (Rp l r (l.take (i+1))):=by
     rw[hL',List.take_of_length_le (by omega),hL,kA hnd hk];refine List.map_congr_left λn _=>?_;rw[List.take_succ_eq_append_getElem hlt,Bm];split
     ·rename_i e;rw[e,hv]
     ·rfl
    have hs:=za hlu hw1;repeat' first|(with_reducible first|refine zz ?_|refine zE LB ?_)|simp -dsimp[hs]|refine i7 ?_ ?_<;>intro h<;>try exact h.elim
    exact zn ⟨(i+1,L'),by omega,hend⟩ (zw [1,3,4,5,6,7] 2)
  ·have hend:L=ns.map (Rr l (r+1)):=by
    rw[hL,List.take_of_length_le (by omega)];refine List.map_congr_left λn hn=>Bn r ?_;rw[<- hns] at hn;exact oR hn
   have hLn:L.length=ns.length:=by rw[hL,List.length_map]
   have hs:=za hlt hw;repeat' first|(with_reducible first|refine zz ?_|refine zE LB ?_)|simp -dsimp[hs]|refine i7 ?_ ?_<;>intro h<;>try exact h.elim
   exact zn ⟨r+1,by omega⟩ (zw [1,3,4,5] 1 (by simp[<- hLn];rw[hend];simp))
 ·have hs:=hrl;repeat' first|(with_reducible first|refine zz ?_|refine zr ?_|refine zE LB ?_)|simp -dsimp[hs]|refine i7 ?_ ?_<;>intro h<;>try exact h.elim
  have hr1:r=ns.length+1:=by omega
  rw[hD,hr1];simp
theorem gZ (x:Issue) (r:List Issue):(o7 none (x :: r)).isSome=true↔(n4 x=true/\x.letter=1)/\(o7 (some x) r).isSome=true:=by
 simp only[o7];by_cases h1:n4 x=false
 ·simp[h1]
 ·by_cases h2:x.letter=1
  ·simp[h1,h2]
  ·simp[h1,h2]
theorem gY (y x:Issue) (r:List Issue):(o7 (some y) (x :: r)).isSome=true↔(n4 x=true/\(y.drawing=x.drawing/\y.letter+1=x.letter/\y.kind=x.kind\/y.drawing<x.drawing/\x.letter=1))/\(o7 (some x) r).isSome=true:=by
 simp only[o7];by_cases h1:n4 x=false
 ·simp[h1]
 ·have h1':n4 x=true:=by simpa using h1
  by_cases hd:y.drawing=x.drawing
  ·have hlt:¬ x.drawing<x.drawing:=by omega
   by_cases h2:y.letter+1=x.letter<;>by_cases h3:y.kind=x.kind<;>simp[h1',hd,h2,h3]
  ·by_cases hg:y.drawing > x.drawing
   ·have:¬ y.drawing<x.drawing:=by omega
    simp[h1',hd,hg,this]
   ·have:y.drawing<x.drawing:=by omega
    by_cases h2:x.letter=1<;>simp[h1',hd,hg,h2,this]
theorem AF {l:List Int} {x:Int} (h:x∉l):idx l x=-1:=xD λj _ he=>h (List.mem_of_getElem? he)
theorem kO {l:List Int} {x:Int} (h:x∈l):0<=idx l x:=by
 unfold idx;cases hh:l.idxOf? x with
 | none =>
   rw[List.idxOf?,List.findIdx?_eq_none_iff] at hh;have:=hh x h;simp at this
 | some i=>simp
theorem sV (l:List Int) (x:Int):idx l x<0↔x∉l:=by
 constructor
 ·intro h hm;have:=kO hm;omega
 ·intro h;rw[AF h];omega
theorem aQ {l:List Issue} (h:(o7 none l).isSome=false):q9 l=false:=by simp[q9,h]
@[simp] abbrev Ls:List Nat:=[0,1,2,3,4,5,6,7,8,13,18,28,31,38,44,52,53,73,84,99]
theorem xm (l:List Issue) (hs:T6 l):zP prog G 229 [A6 l] (bv (q9 l)):=by
 refine zf func229 ntmps229 ?_;try simp only[A6]
 have hl80:=hs.1;by_cases hrange:1<=l.length/\l.length<=60
 ·have d1:decide ((1:Int)<=(l.length:Int))=true:=by simp;omega
  have d2:decide ((l.length:Int)<=60)=true:=by simp;omega
  have c0:=aY (G:=G) (l.length:Int) 1 60;rw[d1,d2] at c0;have hs:=trivial;repeat' first|(with_reducible first|refine zz ?_|refine zE Ls ?_)|simp -dsimp[hs]|refine zp c0 ?_|refine i7 ?_ ?_<;>intro h<;>try exact h.elim
  all_goals try clear hs
  refine g9 (ι:={ i:Nat // i<=l.length/\(o7 none l).isSome=(o7 (I3 l i) (l.drop i)).isSome/\∀ x∈l.take i,n4 x=true }) (λp=>⟨103,[(1,.one (.ptr 0 0)),(2,bv false),(3,iv (p.1:Int))],[.row [.im (.sl (l.map e9))]]⟩) (λp=>l.length-p.1) ⟨0,by simp[I3]⟩ (zv [1,2,3]) ?_;rintro⟨i,hi,hscan,hok⟩;simp only[iv];by_cases hlt:i<l.length
  ·have hx:l[i]?=some l[i]:=by simp[hlt]
   have hw:=zk i;have hsm:=hs.2 l[i] (List.getElem_mem hlt);have c1:=Ay (G:=G) l[i] ⟨hsm.1,hsm.2.1⟩ (by omega) (by omega);rw[List.drop_eq_getElem_cons hlt] at hscan;have hnext:I3 l (i+1)=some l[i]:=by simp[I3]
   cases hq:n4 l[i]
   ·rw[hq] at c1;have hf:q9 l=false:=aQ (by
     rw[hscan];cases I3 l i with
     | none=>exact u3 (gZ l[i] _) (by simp[hq])
     | some y=>exact u3 (gY y l[i] _) (by simp[hq]))
    have hs:=za hx hlt;repeat' first|(with_reducible first|refine zz ?_|refine zr ?_|refine zE Ls ?_)|simp -dsimp[hs]|refine zp c1 ?_|refine i7 ?_ ?_<;>intro h<;>try exact h.elim
    all_goals try clear hs
    simp[hf]
   ·rw[hq] at c1;have hokn:∀ x∈l.take (i+1),n4 x=true:=by
     rw[List.take_succ_eq_append_getElem hlt];intro x hx;rcases List.mem_append.1 hx with h|h
     ·exact hok x h
     ·simp at h;rw[h];exact hq
    have hdr:1<=l[i].drawing:=by
     simp only[n4,Bool.and_assoc] at hq;rw[<- Bool.and_assoc,Bool.and_eq_true] at hq;have:=(du _).1 hq.1;omega
    by_cases hi0:i=0
    ·subst hi0;have hst:=gZ l[0] (l.drop 1);simp only[I3] at hscan;rw[Nat.zero_add] at hscan;rw[<- hscan] at hst;have hs:=za hx (za hlt hw);repeat' first|(with_reducible first|refine zz ?_|refine zr ?_|refine zE Ls ?_)|simp -dsimp[hs]|refine zp c1 ?_|refine i7 ?_ ?_<;>intro h<;>try exact h.elim|with_reducible refine j0 ?_ ?_<;>intro h<;>have h0:=h<;>(try simp only[i6] at h)<;>have h2:=h<;>(try simp at h2)<;>replace hs:=za h0 (za h (za h2 hs))
     all_goals try clear hs
     all_goals first
      | (exfalso;omega)
      | (have hf:=aQ (u3 hst (by omega));simp[hf];done)
      | exact zn ⟨1,by omega,by rw[hnext];exact C8 hst ⟨hq,by omega⟩,hokn⟩ (zw [1,2,3] 1 (by simp;exact m9 (by omega) (by omega)))
    ·obtain⟨m,rfl⟩:∃ m,i=m+1:=⟨i-1,by omega⟩
     have hy:l[m]?=some l[m]:=by simp
     have hw1:IntKind.i64.wrap (((m+1:Nat):Int)-1)=m:=m9 (by omega) (by omega) |>.trans (by omega);have hw2:IntKind.i64.wrap (m:Int)=m:=m9 (by omega) (by omega);have hoky:=hok l[m] (List.mem_take_iff_getElem.2 ⟨m,by omega,rfl⟩);have hlet:1<=l[m].letter/\l[m].letter<=8:=by simp[n4,vR] at hoky;omega
     have hwl:IntKind.i64.wrap (l[m].letter+1)=l[m].letter+1:=m9 (by omega) (by omega);have hst:=gY l[m] l[m+1] (l.drop (m+1+1));simp only[I3,hy] at hscan;rw[<- hscan] at hst;have hpos:(0:Int)<(m:Int)+1:=by omega
     have hlt2:(m:Int)+1<(l.length:Int):=by omega
     have hge:(0:Int)<=(m:Int)+1:=by omega
     have hs:=za hge (za hx (za hlt (za hlt2 (za hw (za hy (za hw1 (za hw2 (za hwl hpos))))))));repeat' first|(with_reducible first|refine zz ?_|refine zr ?_|refine zE Ls ?_)|simp -dsimp[hs]|refine zp c1 ?_|refine i7 ?_ ?_<;>intro h<;>try exact h.elim|with_reducible refine j0 ?_ ?_<;>intro h<;>have h0:=h<;>(try simp only[i6] at h)<;>have h2:=h<;>(try simp at h2)<;>replace hs:=za h0 (za h (za h2 hs))
     all_goals try clear hs
     all_goals first
      | (exfalso;omega)
      | (have hf:=aQ (u3 hst (by omega));simp[hf];done)
      | exact zn ⟨m+1+1,by omega,by rw[hnext];exact C8 hst ⟨hq,by omega⟩,hokn⟩ (zw [1,2,3] 1 (by simp;try exact m9 (by omega) (by omega)))
  ·have hsome:(o7 none l).isSome=true:=by
    rw[hscan,List.drop_eq_nil_of_le (by omega)];cases I3 l i<;>rfl
   have c2:=H0 (G:=G) l (by omega);have hE:q9 l=(l.all (λx=>x.items.all λy=>decide (y.drawing∈nums l))&&decide ((nums l).length<=20)):=by
    simp[q9,hsome,hrange]
   have hnl:(nums l).length<=l.length:=n3 l l.length;generalize nums l=ns at *;have hs:=hlt;repeat' first|(with_reducible first|refine zz ?_|refine zE Ls ?_)|simp -dsimp[hs]|refine zp c2 ?_|refine i7 ?_ ?_<;>intro h<;>try exact h.elim
   all_goals try clear hs
   refine g9 (ι:={ i:Nat // i<=l.length/\l.all (λx=>x.items.all λy=>decide (y.drawing∈ns))=(l.drop i).all (λx=>x.items.all λy=>decide (y.drawing∈ns)) }) (λp=>⟨103,[(1,.one (.ptr 0 0)),(2,bv false),(6,n9 ns),(7,iv (p.1:Int))],[.row [.im (.sl (l.map e9))]]⟩) (λp=>l.length-p.1) ⟨0,by simp⟩ (zw [1,2,6,7] 1) ?_;clear hscan hok;rintro⟨k,hk,hall⟩;simp only[iv,n9];by_cases hlk:k<l.length
   ·have hx:l[k]?=some l[k]:=by simp[hlk]
    have hw:=zk k;have hst:=R0 hlk hall;have hsm:=hs.2 l[k] (List.getElem_mem hlk);have hs:=za hx (za hlk hw);repeat' first|(with_reducible first|refine zz ?_|refine zE Ls ?_)|simp -dsimp[hs]|refine i7 ?_ ?_<;>intro h<;>try exact h.elim
    all_goals try clear hs
    refine g9 (ι:={ u:Nat // u<=l[k].items.length/\l[k].items.all (λy=>decide (y.drawing∈ns))=(l[k].items.drop u).all (λy=>decide (y.drawing∈ns)) }) (λp=>⟨103,[(1,.one (.ptr 0 0)),(2,bv false),(6,n9 ns),(7,iv (k:Int)),(8,iv (p.1:Int))],[.row [.im (.sl (l.map e9))]]⟩) (λp=>l[k].items.length-p.1) ⟨0,by simp⟩ (zv [1,2,6,7,8]) ?_;rintro⟨u,hu,hall2⟩;simp only[iv,n9];by_cases hlu:u<l[k].items.length
    ·have hy:l[k].items[u]?=some l[k].items[u]:=by simp[hlu]
     have hw2:=zk u;have c3:=bS (G:=G) ns l[k].items[u].drawing (by omega);have hm:=sV ns l[k].items[u].drawing;have hst2:=R0 hlu hall2;generalize idx ns l[k].items[u].drawing=z at c3 hm;have hs:=za hx (za hlk (za hy (za hlu hw2)));repeat' first|(with_reducible first|refine zz ?_|refine zr ?_|refine zE Ls ?_)|simp -dsimp[hs]|refine zp c3 ?_|refine i7 ?_ ?_<;>intro h<;>try exact h.elim
     all_goals try clear hs
     ·have hn:=hm.1 ‹z<0›;have h1:=u3 hst2 (by simpa using hn);have h2:=u3 hst (by rw[h1];exact Bool.false_ne_true);rw[hE,h2];rfl
     ·have hn:l[k].items[u].drawing∈ns:=Classical.byContradiction λhn=>absurd (hm.2 hn) ‹_›;exact zn ⟨u+1,by omega,C8 hst2 (by simpa using hn)⟩ (zv [1,2,6,7,8])
    ·have h1:l[k].items.all (λy=>decide (y.drawing∈ns))=true:=by rw[hall2,List.drop_eq_nil_of_le (by omega)];rfl
     have hs:=za hx (za hlk (za hlu hw));repeat' first|(with_reducible first|refine zz ?_|refine zE Ls ?_)|simp -dsimp[hs]|refine i7 ?_ ?_<;>intro h<;>try exact h.elim
     all_goals try clear hs
     exact zn ⟨k+1,by omega,C8 hst h1⟩ (zv [1,2,6,7])
   ·have h1:l.all (λx=>x.items.all λy=>decide (y.drawing∈ns))=true:=by rw[hall,List.drop_eq_nil_of_le (by omega)];rfl
    rw[h1,Bool.true_and] at hE;have hs:=hlk;repeat' first|(with_reducible first|refine zz ?_|refine zr ?_|refine zE Ls ?_)|simp -dsimp[hs]|refine i7 ?_ ?_<;>intro h<;>try exact h.elim
    all_goals try clear hs
    rw[hE];simp;omega
 ·have hf:q9 l=false:=by simp only[q9];rw[decide_eq_false hrange];rfl
  have c0:=aY (G:=G) (l.length:Int) 1 60;have hd:(decide ((1:Int)<=(l.length:Int))&&decide ((l.length:Int)<=60))=false:=by simp;omega
  rw[hd] at c0;have hs:=trivial;repeat' first|(with_reducible first|refine zz ?_|refine zr ?_|refine zE Ls ?_)|simp -dsimp[hs]|refine zp c0 ?_|refine i7 ?_ ?_<;>intro h<;>try exact h.elim
  all_goals try clear hs
  simp[hf]
theorem qQ {l:List Int} {k:Nat} (hlt:k<l.length) (a:Int) (h:W9 l=(l.drop k).foldl max a):W9 l=(l.drop (k+1)).foldl max (max a l[k]):=by
 rw[h,List.drop_eq_getElem_cons hlt,List.foldl_cons]
@[simp] abbrev KB:List Nat:=[0,1,2,3,4,5,8,14,23,28]
theorem oA (l:List Issue) (hs:T6 l):zP prog G 180 [A6 l] (iv (j8 l)):=by
 refine zf func180 ntmps180 ?_;try simp only[A6]
 have c1:=xm (G:=G) l hs;cases hL:q9 l
 ·rw[hL] at c1;have hs:=trivial;repeat' first|(with_reducible first|refine zz ?_|refine zr ?_|refine zE KB ?_)|simp -dsimp[hs]|refine zp c1 ?_|refine i7 ?_ ?_<;>intro h<;>try exact h.elim
  all_goals try clear hs
  simp[j8,hL]
 ·rw[hL] at c1;have c2:=tJ (G:=G) l hL;have hlen:(C5 l).length<=80:=by
   have:=n3 l l.length;have:=hs.1;simp only[C5,List.length_map,nums];omega
  have hE:j8 l=if W9 (C5 l) > (C5 l).length then 21 else if W9 (C5 l) > 6 then 20 else 0:=by simp[j8,hL]
  generalize C5 l=D at c2 hE hlen;have hs:=trivial;repeat' first|(with_reducible first|refine zz ?_|refine zE KB ?_)|simp -dsimp[hs]|refine zp c1 ?_|refine zp c2 ?_|refine i7 ?_ ?_<;>intro h<;>try exact h.elim
  all_goals try clear hs
  refine g9 (ι:={ p:Nat×Int // p.1<=D.length/\W9 D=(D.drop p.1).foldl max p.2 }) (λp=>⟨31,[(1,.one (.ptr 0 0)),(2,iv 0),(3,n9 D),(4,iv p.1.2),(5,iv (p.1.1:Int))],[.row [.im (.sl (l.map e9))]]⟩) (λp=>D.length-p.1.1) ⟨(0,0),by simp[W9]⟩ (zv [1,2,3,4,5]) ?_;rintro⟨⟨k,a⟩,hk,ha⟩;simp only at hk ha;simp only[iv,n9];by_cases hlt:k<D.length
  ·have hx:D[k]?=some D[k]:=by simp[hlt]
   have hw:=zk k;have hs:=za hx (za hw hlt);repeat' first|(with_reducible first|refine zz ?_|refine zE KB ?_)|simp -dsimp[hs]|refine i7 ?_ ?_<;>intro h<;>try exact h.elim
   all_goals try clear hs
   exact zn ⟨(k+1,max a D[k]),by omega,qQ hlt a ha⟩ (zv [1,2,3,4,5])
  ·have ha':W9 D=a:=by rw[ha,List.drop_eq_nil_of_le (by omega)];rfl
   rw[ha'] at hE;have hs:=hlt;repeat' first|(with_reducible first|refine zz ?_|refine zr ?_|refine zE KB ?_)|simp -dsimp[hs]|refine i7 ?_ ?_<;>intro h<;>try exact h.elim
   all_goals try clear hs
   all_goals rw[hE]
   ·rw[if_pos (by omega)]
   ·rw[if_neg (by omega),if_pos (by omega)]
   ·rw[if_neg (by omega),if_neg (by omega)]
def T2 (l:List Issue) (d:Int):Int:=l.foldl (λn x=>if x.drawing=d then max n x.letter else n) 0
@[simp] abbrev Jd:List Nat:=[0,1,2,4,5,6,11,21]
theorem pb (l:List Issue) (d:Int) (hl:l.length<1000000):zP prog G 136 [A6 l,iv d] (iv (T2 l d)):=by
 refine zf func136 ntmps136 ?_;try simp only[A6,iv]
 have hs:=trivial;repeat' first|(with_reducible first|refine zz ?_|refine zE Jd ?_)|simp -dsimp[hs]
 refine g9 (ι:={ p:Nat×Int // p.1<=l.length/\T2 l d=(l.drop p.1).foldl (λn x=>if x.drawing=d then max n x.letter else n) p.2 }) (λp=>⟨31,[(1,iv d),(2,.one (.ptr 0 0)),(5,iv p.1.2),(6,iv (p.1.1:Int))],[.row [.im (.sl (l.map e9))]]⟩) (λp=>l.length-p.1.1) ⟨(0,0),by simp[T2]⟩ (zv [1,2,5,6]) ?_;rintro⟨⟨k,a⟩,hk,ha⟩;simp only at hk ha;simp only[iv];by_cases hlt:k<l.length
 ·have hx:l[k]?=some l[k]:=by simp[hlt]
  have hw:=zk k;rw[List.drop_eq_getElem_cons hlt,List.foldl_cons] at ha;have hs:=za hx (za hw hlt);repeat' first|(with_reducible first|refine zz ?_|refine zE Jd ?_)|simp -dsimp[hs]|refine i7 ?_ ?_<;>intro h<;>try exact h.elim
  ·exact zn ⟨(k+1,max a l[k].letter),by omega,by rw[ha,if_pos ‹_›]⟩ (zv [1,2,5,6])
  ·exact zn ⟨(k+1,a),by omega,by rw[ha,if_neg ‹_›]⟩ (zv [1,2,5,6])
 ·have ha':T2 l d=a:=by rw[ha,List.drop_eq_nil_of_le (by omega)];rfl
  have hs:=hlt;repeat' first|(with_reducible first|refine zz ?_|refine zr ?_|refine zE Jd ?_)|simp -dsimp[hs]|refine i7 ?_ ?_<;>intro h<;>try exact h.elim
  rw[ha']
def K9 (l:List Issue) (p:Int×Int):Bool:=decide (1<=p.2)&&decide (p.2<=T2 l p.1)
def n5 (l:List Issue) (lets:List Int):Bool:=decide (lets.length=(nums l).length)&&((nums l).zip lets).all (K9 l)
@[simp] abbrev LM:List Nat:=[0,1,2,4,5,6,13,17,31]
theorem uo (l:List Issue) (lets:List Int) (hl:l.length<1000000) (hll:lets.length<1000000):zP prog G 87 [A6 l,n9 lets] (bv (n5 l lets)):=by
 refine zf func87 ntmps87 ?_;try simp only[A6,n9]
 have c1:=H0 (G:=G) l (by omega);have hE:n5 l lets=(decide (lets.length=(nums l).length)&&((nums l).zip lets).all (K9 l)):=rfl;generalize nums l=ns at c1 hE;by_cases he:lets.length=ns.length
 ·rw[decide_eq_true he,Bool.true_and] at hE;have he':(lets.length:Int)=(ns.length:Int):=by omega
  have hs:=he';repeat' first|(with_reducible first|refine zz ?_|refine zE LM ?_)|simp -dsimp[hs]|refine zp c1 ?_|refine i7 ?_ ?_<;>intro h<;>try exact h.elim
  refine g9 (ι:={ k:Nat // k<=ns.length/\(ns.zip lets).all (K9 l)=((ns.zip lets).drop k).all (K9 l) }) (λp=>⟨32,[(1,n9 lets),(2,.one (.ptr 0 0)),(5,n9 ns),(6,iv (p.1:Int))],[.row [.im (.sl (l.map e9))]]⟩) (λp=>ns.length-p.1) ⟨0,by simp⟩ (zw [1,2,5,6] 1) ?_;rintro⟨k,hk,ha⟩;simp only[iv,n9];by_cases hlt:k<ns.length
  ·have hx:ns[k]?=some ns[k]:=by simp[hlt]
   have hlt2:k<lets.length:=by omega
   have hy:lets[k]?=some lets[k]:=by simp[hlt2]
   have hw:=zk k;have hz:k<(ns.zip lets).length:=by simp;omega
   have hst:=R0 hz ha;rw[List.getElem_zip] at hst;have c2:=pb (G:=G) l ns[k] hl;have c3:=aY (G:=G) lets[k] 1 (T2 l ns[k]);have hq':K9 l (ns[k],lets[k])=(decide (1<=lets[k])&&decide (lets[k]<=T2 l ns[k])):=rfl;cases hq:K9 l (ns[k],lets[k])
   ·rw[<- hq',hq] at c3;have hs:=za hx (za hy (za hw (za hlt hlt2)));repeat' first|(with_reducible first|refine zz ?_|refine zr ?_)|simp -dsimp[hs]|refine zq c2 ?_|refine zq c3 ?_|refine zM 7 32 12 LM ?_|with_reducible refine zE LM ?_|refine i7 ?_ ?_<;>intro h<;>try exact h.elim
    rw[hE,u3 hst (by rw[hq];exact Bool.false_ne_true)]
   ·rw[<- hq',hq] at c3;have hs:=za hx (za hy (za hw (za hlt hlt2)));repeat' first|with_reducible refine zz ?_|simp -dsimp[hs]|refine zq c2 ?_|refine zq c3 ?_|refine zM 7 32 12 LM ?_|with_reducible refine zE LM ?_|refine i7 ?_ ?_<;>intro h<;>try exact h.elim
    exact zn ⟨k+1,by omega,C8 hst hq⟩ (zv [1,2,5,6])
  ·have h1:(ns.zip lets).all (K9 l)=true:=by rw[ha,List.drop_eq_nil_of_le (by simp;omega)];rfl
   have hs:=hlt;repeat' first|(with_reducible first|refine zz ?_|refine zr ?_|refine zE LM ?_)|simp -dsimp[hs]|refine i7 ?_ ?_<;>intro h<;>try exact h.elim
   rw[hE,h1]
 ·have he':¬ (lets.length:Int)=(ns.length:Int):=by omega
  rw[decide_eq_false he,Bool.false_and] at hE;have hs:=he';repeat' first|(with_reducible first|refine zz ?_|refine zr ?_|refine zE LM ?_)|simp -dsimp[hs]|refine zp c1 ?_|refine i7 ?_ ?_<;>intro h<;>try exact h.elim
  rw[hE]
def o4 (l:List Issue) (lets:List Int) (d:Int):Issue:=(o2 l d ((lets[(idx (nums l) d).toNat]?).getD 0)).getD J1
theorem ni (l:List Issue) (lets:List Int) (d:Int) (hl:l.length<1000000) (hd:d∈nums l) (hll:lets.length=(nums l).length):zP prog G 286 [A6 l,n9 lets,iv d] (J5 (o4 l lets d)):=by
 refine zf func286 ntmps286 ?_;try simp only[A6,n9,iv]
 have c1:=H0 (G:=G) l (by omega);have hnl:(nums l).length<=l.length:=n3 l l.length;have hE:o4 l lets d=(o2 l d ((lets[(idx (nums l) d).toNat]?).getD 0)).getD J1:=rfl;generalize nums l=ns at *;have c2:=bS (G:=G) ns d (by omega);have h0:=kO hd;have hi:(idx ns d).toNat<ns.length:=by
  obtain⟨k,hk⟩:=List.mem_iff_getElem?.1 hd;unfold idx;cases hh:ns.idxOf? d with
  | none =>
    rw[List.idxOf?,List.findIdx?_eq_none_iff] at hh;have:=hh d hd;simp at this
  | some i =>
    rw[List.idxOf?,List.findIdx?_eq_some_iff_getElem] at hh;simpa using hh.1
 generalize hidx:idx ns d=z at *;obtain⟨k,rfl⟩:∃ k:Nat,z=k:=⟨z.toNat,by omega⟩
 simp only[Int.toNat_natCast] at hi hE;have hkl:k<lets.length:=by omega
 have hy:lets[k]?=some lets[k]:=by simp[hkl]
 rw[hy,Option.getD_some] at hE;have c3:=kR (G:=G) l d lets[k] hl;rw[<- hE] at c3;simp only[B1] at c3;have hs:=za hy hkl;repeat' first|(with_reducible first|refine zz ?_|refine zr ?_)|simp -dsimp[hs]|refine zq c1 ?_|refine zq c2 ?_|refine zq c3 ?_|refine q8 (id:=1) (nt:=24) 15 [13] [0,1,2,3,6,7,9,10,11,12,13,14,15,16,17,18,19,20,21] [0,1,2,3,6,7] mixed rfl (by kernel_rfl) ?_|with_reducible refine zE [0,1,2,3,6,7] ?_
end Go.Proofs
namespace Go.Proofs
open Go Go.Ab
theorem mJ {l:List Issue} {d lt:Int} {y:Issue} (h:o2 l d lt=some y):y∈l/\y.drawing=d/\y.letter=lt:=by
 have h1:=List.find?_some h;have h2:=List.mem_of_find?_eq_some h;simp only[Bool.and_eq_true,beq_iff_eq] at h1;exact⟨h2,h1.1,h1.2⟩
theorem xS (l:List Issue) (d lt:Int):(o2 l d lt).isSome=true↔∃ x∈l,x.drawing=d/\x.letter=lt:=by
 simp[o2,List.find?_isSome]
theorem fN:∀ (r:List Issue) (p:Option Issue) (ds:List Int),o7 p r=some ds->∀ x∈r,x.letter=1\/∃ y,(p=some y\/y∈r)/\y.drawing=x.drawing/\y.letter+1=x.letter
 | [],_,_,_,x,hx=>by cases hx
 | z :: r,p,ds,h,x,hx=>by
   have hs:(o7 p (z :: r)).isSome=true:=by rw[h];rfl
   obtain⟨ds',h1,_,_⟩:=dI h;rcases List.mem_cons.1 hx with rfl|hx
   ·cases p with
    | none=>exact .inl ((gZ x r).1 hs).1.2
    | some y =>
      rcases ((gY y x r).1 hs).1.2 with⟨a,b,_⟩|⟨_,b⟩
      ·exact .inr ⟨y,.inl rfl,a,b⟩
      ·exact .inl b
   ·rcases fN r (some z) ds' h1 x hx with h2|⟨y,h2,h3,h4⟩
    ·exact .inl h2
    ·refine .inr ⟨y,.inr ?_,h3,h4⟩;rcases h2 with h2|h2
     ·cases h2;simp
     ·simp[h2]
theorem jj {l:List Issue} (hs:o7 none l=some (nums l)):∀ (k:Nat) (x:Issue),x∈l->x.letter=k+1->∀ j:Int,1<=j->j<=k+1->∃ y∈l,y.drawing=x.drawing/\y.letter=j
 | 0,x,hx,hk,j,h1,h2=>⟨x,hx,rfl,by omega⟩
 | k+1,x,hx,hk,j,h1,h2=>by
   by_cases hj:j=k+1+1
   ·exact⟨x,hx,rfl,by omega⟩
   ·rcases fN l none _ hs x hx with h|⟨y,hy,h3,h4⟩
    ·omega
    ·rcases hy with hy|hy
     ·cases hy
     ·obtain⟨z,hz,h5,h6⟩:=jj hs k y hy (by omega) j h1 (by omega);exact⟨z,hz,by omega,h6⟩
theorem cY (d:Int):∀ (l:List Issue) (a:Int),a<=l.foldl (λn x=>if x.drawing=d then max n x.letter else n) a/\(∀ x∈l,x.drawing=d->x.letter<=l.foldl (λn x=>if x.drawing=d then max n x.letter else n) a) /\
 (l.foldl (λn x=>if x.drawing=d then max n x.letter else n) a=a\/∃ x∈l,x.drawing=d/\x.letter=l.foldl (λn x=>if x.drawing=d then max n x.letter else n) a)
 | [],a=>by simp
 | y :: l,a=>by
   obtain⟨h1,h2,h3⟩:=cY d l (if y.drawing=d then max a y.letter else a);simp only[List.foldl_cons];have h0:a<=(if y.drawing=d then max a y.letter else a):=by split<;>omega
   refine⟨by omega,λx hx hd=>?_,?_⟩
   ·rcases List.mem_cons.1 hx with rfl|hx
    ·rw[if_pos hd] at h1 ⊢;omega
    ·exact h2 x hx hd
   ·rcases h3 with h3|⟨x,hx,hd,he⟩
    ·by_cases hy:y.drawing=d
     ·rw[if_pos hy] at h3 ⊢;by_cases hm:a<=y.letter
      ·exact .inr ⟨y,by simp,hy,by omega⟩
      ·exact .inl (by omega)
     ·rw[if_neg hy] at h3 ⊢;exact .inl h3
    ·exact .inr ⟨x,by simp[hx],hd,he⟩
theorem de {l:List Issue} (h:j8 l=0) (d lt:Int):(o2 l d lt).isSome=true↔1<=lt/\lt<=T2 l d:=by
 have hs:=F7 (D8 h);obtain⟨_,_,_,hok,_⟩:=I2 hs;obtain⟨h1,h2,h3⟩:=cY d l 0;have hlet:∀ x∈l,1<=x.letter:=λx hx=>by
  have:=hok x hx;simp only[n4,Bool.and_assoc] at this;rw[<- Bool.and_assoc,Bool.and_eq_true] at this;have:=(du x).1 this.1;omega
 rw[xS];constructor
 ·rintro⟨x,hx,rfl,rfl⟩;exact⟨hlet x hx,h2 x hx rfl⟩
 ·rintro⟨a,b⟩;rcases h3 with h3|⟨x,hx,hd,he⟩
  ·simp only[T2] at b;omega
  ·have hx1:=hlet x hx;obtain⟨y,hy,h5,h6⟩:=jj hs (x.letter-1).toNat x hx (by omega) lt a (by simp only[T2] at b;omega);exact⟨y,hy,by omega,h6⟩
theorem Y6 {l:List Issue} {lets:List Int} {d:Int} (h:j8 l=0) (hl:n5 l lets=true) (hd:d∈nums l):o4 l lets d∈l/\(o4 l lets d).drawing=d/\∃ (k:Nat) (lt:Int),(nums l)[k]?=some d/\lets[k]?=some lt/\o2 l d lt=some (o4 l lets d):=by
 simp only[n5,Bool.and_eq_true,decide_eq_true_eq] at hl;obtain⟨h1,h2⟩:=hl;obtain⟨hlt,_⟩:=C0 h;obtain⟨k,hk⟩:=List.mem_iff_getElem?.1 hd;have hnd:(nums l).Nodup:=hlt.imp λh=>Int.ne_of_lt h;have hkl:=e7 hk;have hy:lets[k]?=some lets[k]:=by simp[h1,hkl]
 have hz:((nums l).zip lets)[k]?=some (d,lets[k]):=by
  rw[List.getElem?_zip_eq_some];exact⟨hk,hy⟩
 have hok:=List.all_eq_true.1 h2 _ (List.mem_of_getElem? hz);simp only[K9,Bool.and_eq_true,decide_eq_true_eq] at hok;have hf:=(de h d lets[k]).2 hok;obtain⟨y,hy'⟩:=Option.isSome_iff_exists.1 hf;have ht:o4 l lets d=y:=by
  simp only[o4,ff hnd hk,Int.toNat_natCast,hy,Option.getD_some,hy']
 obtain⟨a,b,_⟩:=mJ hy';rw[ht];exact⟨a,b,k,lets[k],hk,hy,hy'⟩
theorem eL {l:List Issue} {lets:List Int} {d:Int} (h:j8 l=0) (hl:n5 l lets=true) (hd:d∈nums l):∀ y∈(o4 l lets d).items,y.drawing∈cp l d:=by
 obtain⟨h1,h2,_⟩:=Y6 h hl hd;intro y hy;simp only[cp,List.mem_flatMap,List.mem_map,cM,List.mem_filter,decide_eq_true_eq];exact⟨_,⟨h1,h2⟩,y,hy,rfl⟩
end Go.Proofs
namespace Go.Ab
open Go
def I9 (m:List (Int×Bool)):List (List Value×List DC):=m.map λp=>(kI p.1,[.im (rB p.2)])
def cr (n:Int):List (Int×Bool)->Option Bool
 | []=>none
 | p :: r=>if p.1=n then some p.2 else cr n r
def rN (n:Int) (v:Bool):List (Int×Bool)->List (Int×Bool)
 | []=>[(n,v)]
 | p :: r=>if p.1=n then (n,v) :: r else p :: rN n v r
theorem lj (n k:Int) (v:Bool):∀ m,cr k (rN n v m)=if n=k then some v else cr k m
 | []=>by simp[rN,cr]
 | p :: r=>by
   have ih:=lj n k v r;simp only[rN];split
   ·rename_i h;simp only[cr];split
    ·rfl
    ·rename_i h2;rw[if_neg (by omega)]
   ·rename_i h;simp only[cr,ih];split
    ·rename_i h2;rw[if_neg (by omega)]
    ·rfl
@[simp] theorem FP (m:List (Int×Bool)) (n:Int):R6 [.int .i64 n] (I9 m) [.im (.raw (.bool false))]=[.im (.raw (.bool ((cr n m).getD false)))]:=by
 induction m with
 | nil=>rfl
 | cons p r ih =>
   have e:I9 (p :: r)=(kI p.1,[.im (rB p.2)]) :: I9 r:=rfl;rw[e];simp only[R6,V4,cr,ai,decide_eq_true_eq] at ih ⊢;split
   ·rfl
   ·exact ih
@[simp] theorem FL (m:List (Int×Bool)) (n:Int):jq [.int .i64 n] (I9 m)=(cr n m).isSome:=by
 induction m with
 | nil=>rfl
 | cons p r ih =>
   have e:I9 (p :: r)=(kI p.1,[.im (rB p.2)]) :: I9 r:=rfl;rw[e];simp only[jq,V4,cr,ai,decide_eq_true_eq] at ih ⊢;split
   ·rfl
   ·exact ih
@[simp] theorem FK (m:List (Int×Bool)) (n:Int) (v:Bool):R5 [.int .i64 n] [.im (.raw (.bool v))] (I9 m)=I9 (rN n v m):=by
 induction m with
 | nil=>rfl
 | cons p r ih =>
   have e:I9 (p :: r)=(kI p.1,[.im (rB p.2)]) :: I9 r:=rfl;rw[e];simp only[R5,rN,ai,decide_eq_true_eq] at ih ⊢;split
   ·rfl
   ·rw[ih];rfl
@[simp] theorem DF (m:List (Int×Bool)):(I9 m).length=m.length:=by simp[I9]
@[simp] theorem EK (n:Nat) (objs:List DObj) (m:List (Int×Bool)):((I9 m).map λx=>(x.1,x.2.map (fz n objs)))=I9 m:=by
 simp[I9,fz,DC.lt]
@[simp] theorem EF (e:Nat->Nat) (m:List (Int×Bool)):((I9 m).map λx=>(x.1,rnL e x.2))=I9 m:=by
 simp[I9,rnL,jz]
section
variable {P:Program} {G:Hn}
theorem CallE.embed_ex {ι:Type} {f:FuncId} {args args0:List DV} {objs objs0:List DObj} {p:ι->Prop} {o1:ι->List DObj} {d0:ι->DV} {Q:DV->List DObj->Prop} {t:Tok Q} (es:List Nat) (h:DCall P G f args0 objs0 (λd o=>∃ i,p i/\d=d0 i/\o=o1 i))
 (ha:args0.map (jx (D6 es objs.length))=args) (hl:es.length=objs0.length) (hnd:es.Nodup) (hes:∀ x∈es,x<objs.length)
 (hobj:∀ i d,objs0[i]?=some d->objs[D6 es objs.length i]?=some (eQ (D6 es objs.length) d)) (hq:∀ i,p i->Q (jx (D6 es objs.length) (d0 i)) (u7 es objs (o1 i))):CallE P G f args objs Q t:=by
 subst ha;refine(DCall.embed es h hl hnd hes hobj).mono λd o ⟨d',o',⟨i,hp,h1,h2⟩,_,h3,h4⟩=>?_;subst h1;subst h2;subst h3;subst h4;exact hq i hp
end
def l4 (l:List Int):List Int:=l.mergeSort λx y=>decide (x<=y)
theorem T3 (l:List Int):(l4 l).length=l.length:=by simp[l4]
@[simp] theorem FE (e:Nat->Nat) (l:List (List IC)):(l8 l).map (rnL e)=l8 l:=by
 simp only[l8,List.map_map];exact List.map_congr_left λx _=>by simp[nn]
@[simp] theorem FA (n o:Nat):D6 [] n o=n+o:=by simp[D6]
attribute [simp] jx jz rnL rnVL eQ ig
def yg (L:List Int) (off len:Nat):List Int:=L.take off++(List.replicate len 0++L.drop (off+len))
theorem yf {L:List Int} {off len:Nat} (h:off+len<=L.length):(yg L off len).length=L.length:=by simp[yg];omega
@[simp] theorem DG (L:List Int) (off len:Nat):N7 (l8 (L.map encI)) off len (.im (.raw (.int .i64 0)))=l8 ((yg L off len).map encI):=by
 simp only[N7,yg,l8,List.map_append,List.map_take,List.map_drop,List.map_replicate];rfl
theorem QCall.thaw {P:Program} {G:Hn} {f:FuncId} {args args0:List DV} {d0:DV} {objs:List DObj} {K:DV->Prop} {t:Tok K} (h:∀ objs,DCall P G f args0 objs (λd o=>d=d0/\o=objs)) (ha:args0=args.map (fB 0 objs)) (hd:FlV d0) (hk:K d0):QCall P G f args objs K t:=
 ⟨d0,DCall.thaw h ha hd,hk⟩
end Go.Ab
namespace Go.Proofs
open Go Go.Ab Tryz
variable {G:Hn}
def F0 (tk:Int->Issue):Nat->Int->Int->List (Int×Int)
 | 0,_,_=>[]
 | k+1,d,m=>if 1<(tk d).kind then [(d,m)] else (tk d).items.flatMap λy=>F0 tk k y.drawing (IntKind.i64.wrap (m*y.count))
def vi (ns:List Int) (C:List Int) (p:Int×Int):List Int:=C.set (idx ns p.1).toNat (IntKind.i64.wrap ((C[(idx ns p.1).toNat]?).getD 0+p.2))
def iQ (ns:List Int) (C:List Int) (lv:List (Int×Int)):List Int:=lv.foldl (vi ns) C
theorem dz (ns:List Int):∀ (lv:List (Int×Int)) (C:List Int),(iQ ns C lv).length=C.length
 | [],_=>rfl
 | p :: lv,C=>by
   have:=dz ns lv (vi ns C p);simp only[iQ,List.foldl_cons] at this ⊢;rw[this];simp[vi]
@[simp] abbrev Kk:List Nat:=[0,1,2,3,4,5,10,11,18,33]
theorem zW (l:List Issue) (lets:List Int) (hl:l.length<1000000) (h0:j8 l=0) (hlet:n5 l lets=true) (dep:Int->Int) (hdep:∀ n∈nums l,1<=dep n/\dep n<=6/\∀ c∈cp l n,c∈nums l/\dep c<dep n) :
 ∀ (k:Nat) (d m:Int) (C:List Int),d∈nums l->dep d<=k->C.length=(nums l).length ->
  DCall prog G 289 [A6 l,n9 lets,iv d,iv m,.one (.vec 0 0 0 (nums l).length)] [.vec 1 (l8 (C.map encI)) 0 false]
   (λr o=>r=.tup []/\o=[.vec 1 (l8 ((iQ (nums l) C (F0 (o4 l lets) k d m)).map encI)) 0 false]):=by
 intro k;induction k with
 | zero=>intro d m C hd hk;have:=(hdep d hd).1;omega
 | succ k ih =>
   intro d m C hd hk hC;have hll:lets.length=(nums l).length:=by
    simp only[n5,Bool.and_eq_true,decide_eq_true_eq] at hlet;exact hlet.1
   have ct:=ni (G:=G) l lets d hl hd hll;have hti:=eL h0 hlet hd;obtain⟨htm,_,_⟩:=Y6 h0 hlet hd;have htok:=(I2 (F7 (D8 h0))).2.2.2.1 _ htm;have hsm:=aR htok;have hch:=(hdep d hd).2.2;have hE:F0 (o4 l lets) (k+1) d m=if 1<(o4 l lets d).kind then [(d,m)] else (o4 l lets d).items.flatMap λy=>F0 (o4 l lets) k y.drawing (IntKind.i64.wrap (m*y.count)):=rfl;generalize o4 l lets d=x at *;refine DCall.drop ?_;refine i8 func289 rfl ntmps289 (by simp) rfl ?_;simp only[A6,n9,iv];by_cases hkind:1<x.kind
   ·rw[if_pos hkind] at hE;have c1:=H0 (G:=G) l hl;have hnl:(nums l).length<=l.length:=n3 l l.length;have c2:=bS (G:=G) (nums l) d (by omega);obtain⟨j,hj⟩:=List.mem_iff_getElem?.1 hd;have hnd:(nums l).Nodup:=(C0 h0).1.imp λh=>Int.ne_of_lt h;have hidx:=ff hnd hj;have hjl:=e7 hj;rw[hidx] at c2;have hCj:C[j]?=some C[j]:=by simp[hC,hjl]
    have hs:=za hkind (za hCj hjl);repeat' first|(with_reducible first|refine zz ?_|refine zr ?_|refine zE Kk ?_)|simp -dsimp[hs]|refine zp ct ?_|refine zp c1 ?_|refine zp c2 ?_|refine i7 ?_ ?_<;>intro h<;>try exact h.elim|with_reducible refine And.intro ?_ ?_
    rw[hE];simp[iQ,vi,hidx,hCj]
   ·rw[if_neg hkind] at hE;have hs:=hkind;repeat' first|(with_reducible first|refine zz ?_|refine zE Kk ?_)|simp -dsimp[hs]|refine zp ct ?_|refine i7 ?_ ?_<;>intro h<;>try exact h.elim
    refine g9 (ι:={ p:Nat×List Int // p.1<=x.items.length/\p.2.length=(nums l).length/\iQ (nums l) C (x.items.flatMap λy=>F0 (o4 l lets) k y.drawing (IntKind.i64.wrap (m*y.count)))=iQ (nums l) p.2 ((x.items.drop p.1).flatMap λy=>F0 (o4 l lets) k y.drawing (IntKind.i64.wrap (m*y.count))) }) (λp=>⟨54,[(1,n9 lets),(3,iv m),(4,.one (.vec 0 0 0 (nums l).length)),(5,.one (.ptr 1 0)),(10,.one (.ptr 4 0)),(11,iv (p.1.1:Int))],[.vec 1 (l8 (p.1.2.map encI)) 0 false,.row [.im (.sl (l.map e9))],.vec 0 [] 0 true,.vec 0 [] 0 true,.row ((e9 x).map .im)]⟩) (λp=>x.items.length-p.1.1) ⟨(0,C),by simp[hC]⟩ (zv [1,3,4,5,10,11]) ?_;rintro⟨⟨u,C'⟩,hu,hC',hadd⟩;simp only at hu hC' hadd;simp only[iv,n9,e9,rI,List.map_cons,List.map_nil];by_cases hlt:u<x.items.length
    ·have hx:x.items[u]?=some x.items[u]:=by simp[hlt]
     have hw:=zk u;have hc:=hch _ (hti x.items[u] (List.getElem_mem hlt));have hrec:=ih x.items[u].drawing (IntKind.i64.wrap (m*x.items[u].count)) C' hc.1 (by omega) hC';rw[List.drop_eq_getElem_cons hlt,List.flatMap_cons,iQ,iQ,List.foldl_append] at hadd;simp only[A6,n9,iv] at hrec;have hs:=za hx (za hw hlt);repeat' first|with_reducible refine zz ?_|simp -dsimp[hs]|refine CallE.embed [0] (hrec) ?_ ?_ ?_ ?_ ?_ ?_;(focus simp[D6];done);(focus simp;done);(focus simp;done);(focus simp;done);(focus refine C4 ?_;simp[D6,D5];done);try simp -dsimp[u7,D6,hs]|refine zM 7 54 17 Kk ?_|with_reducible refine zE Kk ?_|refine i7 ?_ ?_<;>intro h<;>try exact h.elim
     exact zn ⟨(u+1,iQ (nums l) C' (F0 (o4 l lets) k x.items[u].drawing (IntKind.i64.wrap (m*x.items[u].count)))),by omega,by rw[dz];exact hC',hadd⟩ (zv [1,3,4,5,10,11])
    ·rw[List.drop_eq_nil_of_le (by omega)] at hadd;have hs:=hlt;repeat' first|(with_reducible first|refine zz ?_|refine ze ?_|refine zE Kk ?_)|simp -dsimp[hs]|refine i7 ?_ ?_<;>intro h<;>try exact h.elim|with_reducible refine And.intro ?_ ?_
     rw[hE,hadd];simp[iQ]
def pD (l:List Issue) (lets:List Int) (d:Int):List Int:=iQ (nums l) (List.replicate (nums l).length 0) (F0 (o4 l lets) 6 d 1)
def S8 (l:List Issue) (lets:List Int) (d:Int):List Itm:=(((nums l).zip (pD l lets d)).filter λp=>decide (0<p.2)).map λp=>⟨p.1,p.2⟩
@[simp] abbrev Kl:List Nat:=[0,1,2,3,6,7,8,9,10,24,31]
theorem wW (l:List Issue) (lets:List Int) (d:Int) (hl:l.length<1000000) (h0:j8 l=0) (hlet:n5 l lets=true) (hd:d∈nums l):zP prog G 284 [A6 l,n9 lets,iv d] (.one (.im (.sl ((S8 l lets d).map p7)))):=by
 refine zf func284 ntmps284 ?_;try simp only[A6,n9,iv]
 obtain⟨dep,hdep⟩:=kY h0;have c1:=H0 (G:=G) l hl;have hnl:(nums l).length<=l.length:=n3 l l.length;have c2:=zW (G:=G) l lets hl h0 hlet dep hdep 6 d 1 (List.replicate (nums l).length 0) hd (by have:=(hdep d hd).2.1;omega) (by simp);have hcl:(pD l lets d).length=(nums l).length:=by simp[pD,dz]
 have hE:S8 l lets d=(((nums l).zip (pD l lets d)).filter λp=>decide (0<p.2)).map λp=>⟨p.1,p.2⟩:=rfl;change DCall _ _ _ _ _ (λr o=>r=.tup []/\o=[.vec 1 (l8 ((pD l lets d).map encI)) 0 false]) at c2;generalize pD l lets d=C at *;generalize nums l=ns at *;simp only[A6,n9,iv] at c2;have hs:=trivial;repeat' first|(with_reducible first|refine zz ?_|refine And.intro (by omega) ?_|refine zE Kl ?_)|simp -dsimp[hs]|refine zp c1 ?_|refine CallE.embed [2] (c2) ?_ ?_ ?_ ?_ ?_ ?_;(focus simp[D6];done);(focus simp;done);(focus simp;done);(focus simp;done);(focus refine C4 ?_;simp[D6,D5];done);try simp -dsimp[u7,D6,hs]
 refine g9 (ι:={ p:Nat×Nat×Bool×List Itm // p.1<=ns.length/\p.2.2.2.length<=p.1/\S8 l lets d=p.2.2.2++(((ns.zip C).drop p.1).filter λp=>decide (0<p.2)).map λp=>⟨p.1,p.2⟩ }) (λp=>⟨45,[(7,n9 ns),(8,.one (.vec 2 0 0 ns.length)),(9,.one (.vec 3 p.1.2.1 0 p.1.2.2.2.length)),(10,iv (p.1.1:Int))],[.row [.im (.sl (l.map e9))],.vec 2 [] 0 true,.vec 1 (l8 (C.map encI)) 0 false,.vec 2 (l8 (p.1.2.2.2.map p7)) p.1.2.1 p.1.2.2.1]⟩) (λp=>ns.length-p.1.1) ⟨(0,0,true,[]),by simp[hE]⟩ (zv [7,8,9,10]) ?_;rintro⟨⟨k,g,nl,out⟩,hk,hol,hp⟩;simp only at hk hol hp;simp only[iv,n9];by_cases hlt:k<ns.length
 ·have hx:ns[k]?=some ns[k]:=by simp[hlt]
  have hkC:k<C.length:=by omega
  have hy:C[k]?=some C[k]:=by simp[hkC]
  have hw:=zk k;have hz:k<(ns.zip C).length:=by simp;omega
  rw[List.drop_eq_getElem_cons hz,List.getElem_zip] at hp;by_cases hpos:0<C[k]
  ·rw[List.filter_cons_of_pos (by simpa using hpos),List.map_cons] at hp;have hs:=za hx (za hy (za hw (za hlt (za hkC hpos))));repeat' first|(with_reducible first|refine zz ?_|refine And.intro (by omega) ?_)|simp -dsimp[hs]|refine zM 9 45 11 Kl ?_|with_reducible refine zE Kl ?_|refine i7 ?_ ?_<;>intro h<;>try exact h.elim
   all_goals try omega
   exact zn ⟨(k+1,g+1,false,out++[⟨ns[k],C[k]⟩]),by omega,by simp;omega,by rw[hp];simp⟩ (zw [7,8,9,10] 4)
  ·rw[List.filter_cons_of_neg (by simpa using hpos)] at hp;have hs:=za hx (za hy (za hw (za hlt (za hkC hpos))));repeat' first|(with_reducible first|refine zz ?_|refine zE Kl ?_)|simp -dsimp[hs]|refine i7 ?_ ?_<;>intro h<;>try exact h.elim
   exact zn ⟨(k+1,g,nl,out),by omega,by show out.length<=k+1;omega,hp⟩ (zv [7,8,9,10])
 ·rw[List.drop_eq_nil_of_le (by simp;omega)] at hp;have hs:=hlt;repeat' first|(with_reducible first|refine zz ?_|refine zr ?_|refine zE Kl ?_)|simp -dsimp[hs]|refine i7 ?_ ?_<;>intro h<;>try exact h.elim
  all_goals try omega
  rw[hp];simp
end Go.Proofs
namespace Go.Ab
open Go
def Gq:Issue:=⟨0,0,0,[],[]⟩
def J3 (m:List (Int×Issue)) (n:Int):Issue:=match m with
 | []=>Gq
 | p :: r=>if p.1=n then p.2 else J3 r n
def eA (n:Int) (v:Issue):List (Int×Issue)->List (Int×Issue)
 | []=>[(n,v)]
 | p :: r=>if p.1=n then (n,v) :: r else p :: eA n v r
def I8 (m:List (Int×Issue)):List (List Value×List DC):=m.map λp=>(kI p.1,(e9 p.2).map .im)
def di (m:List (Int×Issue)):List (List Value×List IC):=m.map λp=>(kI p.1,e9 p.2)
theorem fh (p:Int×Issue) (r:List (Int×Issue)):I8 (p :: r)=(kI p.1,(e9 p.2).map .im) :: I8 r:=rfl
@[simp] theorem Fu (m:List (Int×Issue)) (n:Int):R6 [.int .i64 n] (I8 m) [.im (.raw (.int .i64 0)),.im (.raw (.int .i64 0)),.im (.raw (.int .u8 0)),.im (.sl []),.im (.sl [])]=(e9 (J3 m n)).map .im:=by
 induction m with
 | nil=>rfl
 | cons p r ih =>
   rw[fh];simp only[R6,V4,J3,ai,decide_eq_true_eq] at ih ⊢;split
   ·rfl
   ·exact ih
theorem xg (m:List (Int×Issue)) (n:Int) (v:Issue):R5 [.int .i64 n] ((e9 v).map .im) (I8 m)=I8 (eA n v m):=by
 induction m with
 | nil=>rfl
 | cons p r ih =>
   rw[fh];simp only[R5,eA,ai,decide_eq_true_eq] at ih ⊢;split
   ·rfl
   ·rw[ih];rfl
@[simp] theorem Ft (m:List (Int×Issue)) (n a b k:Int) (i:List Itm) (d:List Dim):R5 [.int .i64 n] [.im (.raw (.int .i64 a)),.im (.raw (.int .i64 b)),.im (.raw (.int .u8 k)),.im (.sl (i.map p7)),.im (.sl (d.map B3))] (I8 m)=I8 (eA n ⟨a,b,k,i,d⟩ m):=xg m n ⟨a,b,k,i,d⟩
@[simp] theorem DE (m:List (Int×Issue)):(I8 m).length=m.length:=by simp[I8]
@[simp] theorem AE (m:List (Int×Issue)):fe (di m)=I8 m:=by simp[fe,di,I8]
@[simp] theorem Fv (k n:Nat) (objs:List DObj) (m:List (Int×Issue)):J4 (λx:List Value×List DC=>(J4 (frz (k+1) n objs) x.2).map λl=>(x.1,l)) (I8 m)=some (di m):=by
 induction m with
 | nil=>rfl
 | cons p r ih =>
   rw[fh,J4,ih,jD];rfl
@[simp] theorem Dz (n:Nat) (objs:List DObj) (m:List (Int×Issue)):((I8 m).map λx=>(x.1,x.2.map (fz n objs)))=I8 m:=by
 simp[I8,fz,DC.lt]
theorem iq {n:Int} {v:Issue}:∀ {m:List (Int×Issue)},n∉m.map (·.1)->eA n v m=m++[(n,v)]
 | [],_=>rfl
 | p :: r,h=>by
   rw[List.map_cons,List.mem_cons,not_or] at h;rw[eA,if_neg (Ne.symm h.1),iq h.2];rfl
theorem T1 (f:Int->Issue):∀ (ns:List Int) (n:Int),J3 (ns.map λd=>(d,f d)) n=if n∈ns then f n else Gq
 | [],n=>by simp[J3]
 | d :: ns,n=>by
   rw[List.map_cons,J3,T1 f ns n];by_cases h:d=n
   ·subst h;simp
   ·rw[if_neg h];simp[Ne.symm h]
@[simp] theorem GS (e:Nat->Nat) (m:List (Int×Int)):((N0 m).map λx=>(x.1,rnL e x.2))=N0 m:=by
 simp[N0,rnL,jz]
@[simp] theorem Gs (e:Nat->Nat) (m:List (Int×Issue)):((I8 m).map λx=>(x.1,rnL e x.2))=I8 m:=by
 simp only[I8,List.map_map];exact List.map_congr_left λx _=>by simp only[Function.comp,nn]
@[simp] theorem GR (e:Nat->Nat) (m:List Int):((I6 m).map λx=>(x.1,rnL e x.2))=I6 m:=by
 simp[I6,rnL,jz]
end Go.Ab
namespace Go.Ab
open Go
@[simp] theorem EZ (m:List (Int×Issue)):(di m).map (λx=>(x.1,x.2.map DC.im))=I8 m:=AE m
@[simp] theorem Fy (m:List (Int×Int)):(Z8 m).map (λx=>(x.1,x.2.map DC.im))=N0 m:=CS m
@[simp] theorem Fx (m:List Int):(pu m).map (λx=>(x.1,x.2.map DC.im))=I6 m:=CR m
end Go.Ab
namespace Go.Proofs
open Go Go.Ab Tryz
variable {G:Hn}
def aK (l:List Issue) (lets:List Int):List (Int×Issue):=(nums l).map λd=>(d,o4 l lets d)
theorem zg {l:List Issue} {lets:List Int} {k:Nat} (h:j8 l=0) (hk:k<(nums l).length) (hk2:k<lets.length) (hf:(o2 l (nums l)[k] lets[k]).isSome=false):n5 l lets=false:=by
 have hn:¬ K9 l ((nums l)[k],lets[k])=true:=λhok=>by
  simp only[K9,Bool.and_eq_true,decide_eq_true_eq] at hok;rw[(de h _ _).2 hok] at hf;cases hf
 simp only[n5,Bool.and_eq_false_iff];refine .inr ?_;rw[<- Bool.not_eq_true,List.all_eq_true];intro hall;refine hn (hall _ (List.mem_iff_getElem?.2 ⟨k,?_⟩));rw[List.getElem?_zip_eq_some];exact⟨by simp[hk],by simp[hk2]⟩
theorem vT {l:List Issue} {lets:List Int} (h:j8 l=0) (he:lets.length=(nums l).length) (hall:∀ (k:Nat) (h1:k<(nums l).length) (h2:k<lets.length),(o2 l (nums l)[k] lets[k]).isSome=true):n5 l lets=true:=by
 simp only[n5,Bool.and_eq_true,decide_eq_true_eq,List.all_eq_true];refine⟨he,λp hp=>?_⟩;obtain⟨k,hk⟩:=List.mem_iff_getElem?.1 hp;rw[List.getElem?_zip_eq_some] at hk;obtain⟨h1,e1⟩:=List.getElem?_eq_some_iff.1 hk.1;obtain⟨h2,e2⟩:=List.getElem?_eq_some_iff.1 hk.2;have:=(de h _ _).1 (hall k h1 h2);rw[e1,e2] at this;simp only[K9,Bool.and_eq_true,decide_eq_true_eq];exact this
theorem sE {l:List Issue} {lets:List Int} {k:Nat} (hnd:(nums l).Nodup) (hk:k<(nums l).length) (hk2:k<lets.length):o4 l lets (nums l)[k]=(o2 l (nums l)[k] lets[k]).getD J1:=by
 have h1:(nums l)[k]?=some (nums l)[k]:=by simp[hk]
 have h2:lets[k]?=some lets[k]:=by simp[hk2]
 simp only[o4,ff hnd h1,Int.toNat_natCast,h2,Option.getD_some]
def A8 (l:List Issue) (lets:List Int) (d:Int):Int:=if j8 l≠0 then j8 l else if n5 l lets=false then 22 else if d∈nums l then 0 else 6
def aM (l:List Issue) (lets:List Int) (d:Int):List DV:=if A8 l lets d=0 then [.one (.im (s8 l (nums l))),.one (.im (.mp [.int .i64] (di (aK l lets)))),iv 0] else [.one (.im (.raw (.pointer none))),.one (.im (.raw (.map none))),iv (A8 l lets d)]
theorem tx (l:List Issue) (lets:List Int) (d:Int):∀ x∈aM l lets d,ImV x:=by unfold aM;split<;>simp[s8]
@[simp] abbrev Lx:List Nat:=[0,1,2,3,6,7,8,9,10,11,12,13,14,21,30,33,34,35,55,64]
@[simp] abbrev Jt:List Nat:=[0,1,2,3,6,7,8,9,10,11,12,13,14,21,30,33,34,35,37,38,39,40,41,42,43,44,45,46,47,48,49,50,51,52,55,64]
theorem wx (l:List Issue) (lets:List Int) (d:Int) (hG:s9 G) (hs:T6 l) (hll:lets.length<1000000) (objs:List DObj):DCall prog G 281 [A6 l,n9 lets,iv d] objs (λrr objs'=>rr=.tup (aM l lets d)/\objs'=objs):=by
 refine DCall.frame ?_ (by simp) (by simpa using tx l lets d) objs;refine i8 func281 rfl ntmps281 (by simp) rfl ?_;simp only[A6,n9,iv];have c1:=fX l hG hs;by_cases h0:j8 l=0
 ·simp only[bt,h0,if_true] at c1;have hnd:(nums l).Nodup:=(C0 h0).1.imp λh=>Int.ne_of_lt h;have hnl:(nums l).length<=l.length:=n3 l l.length;have hl80:=hs.1;have hsort:=bX h0;by_cases he:lets.length=(nums l).length
  ·have he':(lets.length:Int)=((nums l).length:Int):=by omega
   simp only[s8] at c1;have hs:=he';repeat' first|(with_reducible first|refine zz ?_|refine zE Lx ?_)|simp -dsimp[hs]|refine zp c1 ?_|refine i7 ?_ ?_<;>intro h<;>try exact h.elim
   all_goals try clear hs
   refine g9 (ι:={ k:Nat // k<=lets.length/\∀ (i:Nat) (h1:i<(nums l).length) (h2:i<lets.length),i<k->(o2 l (nums l)[i] lets[i]).isSome=true }) (λp=>⟨67,[(1,n9 lets),(2,iv d),(6,.one (.im (.raw (.pointer none)))),(7,.one (.im (.raw (.map none)))),(8,iv 0),(9,.one (.im (s8 l (nums l)))),(11,.one (.map 1)),(33,iv (lets.length:Int)),(34,iv (p.1:Int))],[.row [.im (.sl (l.map e9))],.map [.int .i64] (I8 (((nums l).take p.1).map λd=>(d,o4 l lets d)))]⟩) (λp=>lets.length-p.1) ⟨0,by simp⟩ (zv [1,2,6,7,8,9,11,33,34] (by simp[s8,I8];omega)) ?_;rintro⟨k,hk,hall⟩;simp only[iv,n9];by_cases hlt:k<lets.length
   ·have hkn:k<(nums l).length:=by omega
    have hx:(nums l)[k]?=some (nums l)[k]:=by simp[hkn]
    have hy:lets[k]?=some lets[k]:=by simp[hlt]
    have hw:=zk k;have c2:=td (G:=G) l (nums l) (nums l)[k] lets[k] hsort (by omega);have hta:=sE hnd hkn hlt;cases hf:o2 l (nums l)[k] lets[k] with
    | none =>
      have hE:A8 l lets d=22:=by simp[A8,h0,zg h0 hkn hlt (by rw[hf];rfl)]
      simp only[hf,B1,s8,Option.isSome_none,Option.getD_none] at c2;simp only[s8];have hs:=za hx (za hy (za hlt (za hkn hw)));repeat' first|(with_reducible first|refine zz ?_|refine zr ?_)|simp -dsimp[hs]|refine zq c2 ?_|refine q8 (id:=10) (nt:=67) 18 [16] Jt Lx mixed rfl (by kernel_rfl) ?_|with_reducible refine zE Lx ?_|refine i7 ?_ ?_<;>intro h<;>try exact h.elim
      all_goals try clear hs
      all_goals simp[aM,hE]
    | some y =>
      rw[hf,Option.getD_some] at hta;obtain⟨hym,hyd,_⟩:=mJ hf;simp only[hf,B1,s8,Option.isSome_some,Option.getD_some] at c2;simp only[s8];have hmp:eA (nums l)[k] y (((nums l).take k).map λd=>(d,o4 l lets d))=(((nums l).take (k+1)).map λd=>(d,o4 l lets d)):=by
       rw[iq,List.take_succ_eq_append_getElem hkn,List.map_append,List.map_singleton,hta];rw[List.map_map];intro hm;obtain⟨z,hz,e⟩:=List.mem_map.1 hm;simp only[Function.comp] at e;subst e;obtain⟨i,hi,e⟩:=List.mem_take_iff_getElem.1 hz;have:=(List.getElem_inj hnd).1 e;omega
      rw[<- hyd] at hmp;have hmp':eA y.drawing ⟨y.drawing,y.letter,y.kind,y.items,y.dims⟩ (((nums l).take k).map λd=>(d,o4 l lets d))=(((nums l).take (k+1)).map λd=>(d,o4 l lets d)):=hmp;simp only[List.map_take] at hmp';have hfin:∀ (i:Nat) (h1:i<(nums l).length) (h2:i<lets.length),i<k+1->(o2 l (nums l)[i] lets[i]).isSome=true:=λi h1 h2 hi=>by
       by_cases e:i=k
       ·subst e;rw[hf];rfl
       ·exact hall i h1 h2 (by omega)
      have hs:=za hx (za hy (za hlt (za hkn hw)));repeat' first|with_reducible refine zz ?_|simp -dsimp[hs]|refine zq c2 ?_|refine q8 (id:=10) (nt:=67) 18 [16] Jt Lx mixed rfl (by kernel_rfl) ?_|with_reducible refine zE Lx ?_|refine i7 ?_ ?_<;>intro h<;>try exact h.elim
      all_goals try clear hs
      exact zn ⟨k+1,by omega,hfin⟩ (zw [1,2,6,7,8,9,11,33,34] 2 (by simp[s8,hmp']))
   ·have hlet:=vT h0 he λi h1 h2=>hall i h1 h2 (by omega);have htk:(nums l).take k=nums l:=List.take_of_length_le (by omega);have c3:=xG (G:=G) l (nums l) d ((C0 h0).1.imp λh=>Int.le_of_lt h) (by omega);have hE:A8 l lets d=if d∈nums l then 0 else 6:=by simp[A8,h0,hlet]
    simp only[s8] at c3;rw[htk];by_cases hd:d∈nums l
    ·rw[if_pos hd] at hE;simp only[hd,decide_true] at c3;simp only[s8];have hs:=hlt;repeat' first|(with_reducible first|refine zz ?_|refine zr ?_|refine zE Lx ?_)|simp -dsimp[hs]|refine zp c3 ?_|refine i7 ?_ ?_<;>intro h<;>try exact h.elim
     all_goals try clear hs
     simp[aM,hE,aK,s8]
    ·rw[if_neg hd] at hE;simp only[hd,decide_false] at c3;simp only[s8];have hs:=hlt;repeat' first|(with_reducible first|refine zz ?_|refine zr ?_|refine zE Lx ?_)|simp -dsimp[hs]|refine zp c3 ?_|refine i7 ?_ ?_<;>intro h<;>try exact h.elim
     all_goals try clear hs
     simp[aM,hE]
  ·have he':¬ (lets.length:Int)=((nums l).length:Int):=by omega
   have hE:A8 l lets d=22:=by
    have:n5 l lets=false:=by simp[n5,he]
    simp[A8,h0,this]
   simp only[s8] at c1;have hs:=he';repeat' first|(with_reducible first|refine zz ?_|refine zr ?_|refine zE Lx ?_)|simp -dsimp[hs]|refine zp c1 ?_|refine i7 ?_ ?_<;>intro h<;>try exact h.elim
   all_goals try clear hs
   simp[aM,hE]
 ·have hE:A8 l lets d=j8 l:=by simp[A8,h0]
  simp only[bt,h0,if_false] at c1;have hs:=h0;repeat' first|(with_reducible first|refine zz ?_|refine zr ?_|refine zE Lx ?_)|simp -dsimp[hs]|refine zp c1 ?_|refine i7 ?_ ?_<;>intro h<;>try exact h.elim
  all_goals try clear hs
  simp[aM,hE,h0]
end Go.Proofs
