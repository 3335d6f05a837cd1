/- Part 14 of the proofs. -/
import Derived.Test.YtjodaihiogfkbaaGreatDoorRows
import Derived.Test.YtjodaihiogfkbaaGreatDoorU08
import Derived.Test.YtjodaihiogfkbaaGreatDoorU09
import Derived.Test.YtjodaihiogfkbaaGreatDoorU10
import Derived.Test.YtjodaihiogfkbaaGreatDoorU12
import Derived.Test.YtjodaihiogfkbaaGreatDoorU13
set_option linter.all false
set_option maxHeartbeats 100000000
namespace Go.Ab
open Go
theorem rK {α:Type} {enc:α->List IC} {ok:α->Prop}:∀ (es:List (List IC)),(∀ x∈es,∃ a,ok a/\x=enc a)->∃ xs:List α,(∀ x∈xs,ok x)/\es=xs.map enc
 | [],_=>⟨[],by simp,rfl⟩
 | e :: es,h=>by
   obtain⟨a,ha,rfl⟩:=h e (by simp);obtain⟨xs,hx,rfl⟩:=rK es λx hx=>h x (by simp[hx]);exact⟨a :: xs,by simpa using⟨ha,hx⟩,rfl⟩
theorem Opens.sliceOf {P:Program} {t e:TypeId} {α:Type} {enc:α->List IC} {ok:α->Prop} {sz:Nat} (ht:P.underlying t=some (.slice e)) (hc:P.cellsOf e=sz) (h0:0<sz) (hl:∀ x,(enc x).length=sz) (he:Opens P e (λl=>∃ x,ok x/\l=enc x)) :
 Opens P t (λl=>∃ xs:List α,(∀ x∈xs,ok x)/\l=[.sl (xs.map enc)]):=
 (Opens.slice ht hc h0 he (by rintro l ⟨x,_,rfl⟩;exact hl x)).mono (by
  rintro l ⟨es,h,rfl⟩;obtain⟨xs,h1,rfl⟩:=rK es h;exact⟨xs,h1,rfl⟩)
def gw (x:Issue):Prop:=0<=x.kind/\x.kind<=255
end Go.Ab
namespace Go.Proofs
open Go Go.Ab
def Rd (t:TypeId) {α:Type} (enc:α->List IC) (ok:α->Prop):Prop:=Opens Tryz.prog t (λl=>∃ x,ok x/\l=enc x)
theorem oInt:Opens Tryz.prog 3 (λl=>∃ n:Int,l=[rI n]):=(Opens.int Tryz.underlying3).mono (by rintro l ⟨n,_,rfl⟩;exact⟨n,rfl⟩)
theorem Jm:Opens Tryz.prog 5 (λl=>∃ n:Int,(0<=n/\n<=255)/\l=[.raw (.int .u8 n)]):=(Opens.int Tryz.underlying5).mono (by
 rintro l ⟨n,hn,rfl⟩;exact⟨n,by simpa[IntKind.min,IntKind.max,IntKind.signed,IntKind.bits] using hn,rfl⟩)
theorem Gl:Opens Tryz.prog 4 (λl=>∃ b:Bool,l=[rB b]):=Opens.bool Tryz.underlying4
theorem IY:Rd 3 encI (λ_=>True):=oInt.mono (by rintro l ⟨n,rfl⟩;exact⟨n,trivial,rfl⟩)
theorem xQ {α:Type} {l:List α} (h:l.length=2):∃ a b,l=[a,b]:=by
 match l,h with
 | [a,b],_=>exact⟨a,b,rfl⟩
theorem EQ {α:Type} {l:List α} (h:l.length=3):∃ a b c,l=[a,b,c]:=by
 match l,h with
 | [a,b,c],_=>exact⟨a,b,c,rfl⟩
theorem JM {α:Type} {l:List α} (h:l.length=4):∃ a b c d,l=[a,b,c,d]:=by
 match l,h with
 | [a,b,c,d],_=>exact⟨a,b,c,d,rfl⟩
theorem JL {α:Type} {l:List α} (h:l.length=5):∃ a b c d e,l=[a,b,c,d,e]:=by
 match l,h with
 | [a,b,c,d,e],_=>exact⟨a,b,c,d,e,rfl⟩
def Ba {α:Type} (d:α) (a b c:α):Nat->α|0=>a|1=>b|2=>c|_=>d
def Gi {α:Type} (z:α) (a b c d e:α):Nat->α|0=>a|1=>b|2=>c|3=>d|4=>e|_=>z
theorem GT:Rd 181 A1 (λ_=>True):=(Opens.struct Tryz.underlying181 (by kernel_rfl) (λ_ l=>∃ n:Int,l=[rI n]) (λi f hf=>by
 rcases i with _|_|i<;>simp at hf<;>subst hf<;>exact oInt)).mono (by
 rintro l ⟨ls,h1,h2,rfl⟩;obtain⟨a,b,rfl⟩:=xQ h1;obtain⟨x,rfl⟩:=h2 0 a rfl;obtain⟨y,rfl⟩:=h2 1 b rfl;exact⟨⟨x,y⟩,trivial,rfl⟩)
theorem IZ:Rd 102 D3 (λ_=>True):=(Opens.struct Tryz.underlying102 (by kernel_rfl) (λ_ l=>∃ n:Int,l=[rI n]) (λi f hf=>by
 rcases i with _|_|_|i<;>simp at hf<;>subst hf<;>exact oInt)).mono (by
 rintro l ⟨ls,h1,h2,rfl⟩;obtain⟨a,b,c,rfl⟩:=EQ h1;obtain⟨x,rfl⟩:=h2 0 a rfl;obtain⟨y,rfl⟩:=h2 1 b rfl;obtain⟨z,rfl⟩:=h2 2 c rfl;exact⟨⟨x,y,z⟩,trivial,rfl⟩)
theorem Hh:Opens Tryz.prog 176 (λl=>∃ xs:List Itm,l=[.sl (xs.map A1)]):=
 (Opens.sliceOf Tryz.underlying176 (sz:=2) (by kernel_rfl) (by decide) (λ_=>rfl) GT).mono (by rintro l ⟨xs,_,h⟩;exact⟨xs,h⟩)
theorem Jq:Opens Tryz.prog 108 (λl=>∃ xs:List Dim,l=[.sl (xs.map D3)]):=
 (Opens.sliceOf Tryz.underlying108 (sz:=3) (by kernel_rfl) (by decide) (λ_=>rfl) IZ).mono (by rintro l ⟨xs,_,h⟩;exact⟨xs,h⟩)
theorem Gk:Opens Tryz.prog 40 (λl=>∃ xs:List Int,l=[.sl (xs.map encI)]):=
 (Opens.sliceOf Tryz.underlying40 (sz:=1) (by kernel_rfl) (by decide) (λ_=>rfl) IY).mono (by rintro l ⟨xs,_,h⟩;exact⟨xs,h⟩)
theorem Ej:Rd 178 e8 gw:=(Opens.struct Tryz.underlying178 (by kernel_rfl) (Gi (λ_=>True) (λl=>∃ n:Int,l=[rI n]) (λl=>∃ n:Int,l=[rI n]) (λl=>∃ n:Int,(0<=n/\n<=255)/\l=[.raw (.int .u8 n)]) (λl=>∃ xs:List Itm,l=[.sl (xs.map A1)]) (λl=>∃ xs:List Dim,l=[.sl (xs.map D3)])) (λi f hf=>by
 rcases i with _|_|_|_|_|i<;>simp at hf<;>subst hf
 ·exact oInt
 ·exact oInt
 ·exact Jm
 ·exact Hh
 ·exact Jq)).mono (by
 rintro l ⟨ls,h1,h2,rfl⟩;obtain⟨a,b,c,d,e,rfl⟩:=JL h1;obtain⟨x,rfl⟩:=h2 0 a rfl;obtain⟨y,rfl⟩:=h2 1 b rfl;obtain⟨z,hz,rfl⟩:=h2 2 c rfl;obtain⟨u,rfl⟩:=h2 3 d rfl;obtain⟨v,rfl⟩:=h2 4 e rfl;exact⟨⟨x,y,z,u,v⟩,hz,rfl⟩)
theorem Hd:Opens Tryz.prog 22 (λl=>∃ xs:List Issue,(∀ x∈xs,gw x)/\l=[.sl (xs.map e8)]):=
 Opens.sliceOf Tryz.underlying22 (sz:=5) (by kernel_rfl) (by decide) (λ_=>rfl) Ej
theorem Jn:Opens Tryz.prog 24 (λl=>∃ xs:List Issue,(∀ x∈xs,gw x)/\l=[.sl (xs.map e8)]):=(Opens.struct Tryz.underlying24 (by kernel_rfl) (λ_ l=>∃ xs:List Issue,(∀ x∈xs,gw x)/\l=[.sl (xs.map e8)]) (λi f hf=>by
 rcases i with _|i<;>simp at hf<;>subst hf<;>exact Hd)).mono (by
 rintro l ⟨ls,h1,h2,rfl⟩;obtain⟨a,rfl⟩:=List.length_eq_one_iff.1 h1;obtain⟨x,hx,rfl⟩:=h2 0 a rfl;exact⟨x,hx,rfl⟩)
theorem U9 {P:Program} {W:World} {t e te n:Nat} {f:Field} {ps rs:Array TypeId} {cs:Array Value} {fuel:Nat} {p:List MemPlace} {names:List (List UInt8)} {fs:List FuncId} (ht:P.underlying t=some (.array n e)) (hte:P.underlying e=some (.struct #[f])) (hf0:f.offset=0) (hft:f.type=te) (hu:P.underlying te=some (.func ps rs false)) (hce:P.cellsOf e=1) (hcf:P.cellsOf te=1) (hn:names.length=n)
 (hfs:(names.zip fs).all (λx=>x.1≠[]/\((List.range P.funcs.size).filter λf=>(P.funcs[f]?).any (·.name.toUTF8.data.toList==x.1))=[x.2])=true) (hl:fs.length=n)
 (h:DataW.trod (funcToken P) P W 0 (λ_=>true) true fuel t cs.toList=some (.agg (names.map λx=>.agg [.held x]),p)):∀ (j:Nat) (g:FuncId),fs[j]?=some g->cs[j]?=some (.func (.func g) #[] #[]):=by
 obtain⟨xs,m,_,ex,hlen,hxl,hel⟩:=DataW.trod_array ht h;intro j g hg;have hj:j<n:=by rw[<- hl];exact e7 hg
 have hE:=hel j hj;rw[hce,Nat.mul_one] at hE;have hx:xs[j]?=some xs[j]:=by simp[hxl,hj]
 rw[hx] at hE;obtain⟨ys,m2,_,ey,hlen2,hyl,hel2⟩:=DataW.trod_struct hte hE;have hE2:=hel2 0 f rfl;have hyl1:ys.length=1:=by simpa using hyl
 obtain⟨y,rfl⟩:=List.length_eq_one_iff.1 hyl1;rw[hf0,hft,hcf] at hE2;have hcl:j<cs.size:=by
  rcases Nat.lt_or_ge j cs.size with h1|h1
  ·exact h1
  ·simp[hce] at hlen2;omega
 have hc1:((cs.toList.drop j).take 1)=[cs[j]]:=by
  rw[List.drop_eq_getElem_cons (by simpa using hcl)];simp
 rw[hc1] at hE2;simp only[List.drop_zero,List.take_succ_cons,List.getElem?_cons_zero,List.take_nil] at hE2;have hnm:names[j]?=some names[j]:=by simp[hn,hj]
 have e1:(xs.map (·.1))[j]?=(names.map λx=>DataW.agg [DataW.held x])[j]?:=by rw[(DataW.agg.inj (Prod.mk.inj ex).1)]
 rw[List.getElem?_map,List.getElem?_map,hx,hnm,ey] at e1;simp only[Option.map_some,Option.some.injEq,DataW.agg.injEq,List.map_cons,List.map_nil,List.cons.injEq,and_true] at e1;have hall:=List.all_eq_true.1 hfs (names[j],g) (List.mem_iff_getElem?.2 ⟨j,by rw[List.getElem?_zip_eq_some];exact⟨hnm,hg⟩⟩);simp only[decide_eq_true_eq] at hall;cases hnj:names[j] with
 | nil=>exact absurd hnj hall.1
 | cons b r =>
   rw[hnj] at hall e1;have:=func_of_trod (f0:=g) (q:=y.2) hu hall.2 (by rw[hE2,<- e1]);rw[Array.getElem?_eq_getElem hcl,this]
end Go.Proofs
namespace Go.Proofs
open Go Go.Ab
theorem ss {l:List Issue} (h:l6 l=0):∃ dep:Int->Int,∀ n∈nums l,1<=dep n/\dep n<=6/\∀ c∈dJ l n,c∈nums l/\dep c<dep n:=by
 have hL:r8 l=true:=by
  cases hL:r8 l
  ·simp[l6,hL] at h
  ·rfl
 have h2:¬ af (D8 l) > (D8 l).length:=λhg=>by simp[l6,hL,hg] at h
 have h6:¬ af (D8 l) > 6:=λhg=>by simp[l6,hL,h2,hg] at h
 have hsc:=hL;simp only[r8,Bool.and_eq_true] at hsc;obtain⟨ds,hds⟩:=Option.isSome_iff_exists.1 hsc.1.1.2;obtain⟨e,hlt,_,_,_⟩:=P6 hds;have hall:=hsc.1.2;rw[<- e] at hall;have hnd:ds.Nodup:=hlt.imp λh=>Int.ne_of_lt h;have hch:∀ n∈ds,∀ c∈dJ l n,c∈ds:=λn _ c hc=>by
  simp only[dJ,List.mem_flatMap,List.mem_map] at hc;obtain⟨x,hx,y,hy,rfl⟩:=hc;have:=List.all_eq_true.1 (List.all_eq_true.1 hall x (List.mem_filter.1 hx).1) y hy;simpa using this
 have e1:∀ n∈ds,Rr l (ds.length+1) n<=ds.length:=λn hn=>Int.not_lt.1 λhg=>h2 (by
  have:=(lh (Rr l (ds.length+1)) ds ds.length (by omega)).2 ⟨n,hn,hg⟩;simpa[D8,<- e] using this)
 have e2:∀ n∈ds,Rr l (ds.length+1) n<=6:=λn hn=>Int.not_lt.1 λhg=>h6 (by
  have:=(lh (Rr l (ds.length+1)) ds 6 (by omega)).2 ⟨n,hn,hg⟩;simpa[D8,<- e] using this)
 have h0:DInv l ds ([],iK ds):=by
  rw[mA hnd];exact⟨hnd,λn h=>h,by simp,by simp,λn h h'=>absurd h h'⟩
 obtain⟨hi,_⟩:=gI hch ds.length _ h0;change DInv l ds (q9 l ds) at hi;obtain⟨d1,d2⟩:=ja hnd hch;have hz:(q9 l ds).2.length=0:=by
  refine Nat.eq_zero_of_not_pos λhp=>?_;obtain⟨n,hn,hg⟩:=d1.1 hp;have:=e1 n hn;omega
 have hempty:∀ n,n∉(q9 l ds).2:=λn=>by rw[List.length_eq_zero_iff.1 hz];simp
 refine⟨n7 (q9 l ds).1,λn hn=>?_⟩;rw[<- e] at hn;obtain⟨a,b,c⟩:=hi.val n hn (hempty n);have hn1:=c (ds.length+1) (by omega);refine⟨a,by have:=e2 n hn;omega,λm hm=>?_⟩;have hmd:=hch n hn m hm;obtain⟨a',b',c'⟩:=hi.val m hmd (hempty m);have hm1:=c' ds.length (by omega);have hle:=oG (f:=Rr l ds.length) hm;have hr:Rr l (ds.length+1) n=1+mx (Rr l ds.length) (dJ l n):=rfl;exact⟨by rw[<- e];exact hmd,by omega⟩
open Go Go.Ab Tryz
variable {G:MF}
theorem wL (n lo hi:Int):zP prog G 319 [iv n,iv lo,iv hi] (bv (decide (lo<=n)&&decide (n<=hi))):=by
 refine zf func319 ntmps319 ?_;try simp only[iv,iv,iv]
 have hs:=trivial;repeat' first|(with_reducible first|refine zz ?_|refine zr ?_|refine zE [0,1,2,6] ?_)|simp -dsimp[hs]|with_reducible refine j0 ?_ ?_<;>intro h<;>have h0:=h<;>(try simp only[i7] at h)<;>have h2:=h<;>(try simp at h2)<;>replace hs:=za h0 (za h (za h2 hs))
 all_goals try clear hs
 all_goals simp[*]
theorem aH (d:Dim):K1 d=true↔0<=d.nominal/\d.nominal<=1000000000/\0<=d.upper/\d.upper<=1000000000/\0<=d.lower/\d.lower<=d.upper:=by
 simp[K1];omega
theorem eG {b:Bool} {p:Prop} (h:b=true↔p) (hn:¬ p):b=false:=by
 cases b
 ·rfl
 ·exact absurd (h.1 rfl) hn
theorem DO {b:Bool} {p:Prop} (h:b=true↔p) (hn:p):b=true:=h.2 hn
theorem Kj (d:Dim):zP prog G 313 [iZ d] (bv (K1 d)):=by
 refine zf func313 ntmps313 ?_;try simp only[iZ]
 have hs:=trivial;repeat' first|(with_reducible first|refine zz ?_|refine zr ?_|refine zE [0,1,2] ?_)|simp -dsimp[hs]|refine zp (wL (G:=G) _ _ _) ?_|with_reducible refine j0 ?_ ?_<;>intro h<;>have h0:=h<;>(try simp only[i7] at h)<;>have h2:=h<;>(try simp at h2)<;>replace hs:=za h0 (za h (za h2 hs))
 ·rw[Bool.eq_iff_iff,aH];simp;omega
 ·exact eG (aH d) (by omega)
 ·exact eG (aH d) (by omega)
theorem eO (x:Issue):(CB x&&DD x)=true↔1<=x.drawing/\x.drawing<=9999/\1<=x.letter/\x.letter<=8/\(x.kind=1/\1<=x.items.length/\x.items.length<=8/\x.dims.length=0\/2<=x.kind/\x.kind<=3/\x.dims.length<=4/\x.items.length=0):=by
 unfold CB DD;split
 ·simp only[Bool.and_eq_true,decide_eq_true_eq];omega
 ·simp only[Bool.and_eq_true,decide_eq_true_eq];omega
theorem qc {d:Int} {l:List Itm} {k:Nat} (hlt:k<l.length) (hno:G1 d 0 l=G1 d (pv l k) (l.drop k)) :
 G1 d 0 l=true↔(1<=l[k].drawing/\l[k].drawing<=9999/\1<=l[k].count/\l[k].count<=20/\l[k].drawing≠d/\pv l k<l[k].drawing)/\G1 d (pv l (k+1)) (l.drop (k+1))=true:=by
 have hx:l[k]?=some l[k]:=by simp[hlt]
 have hpv1:pv l (k+1)=l[k].drawing:=by simp[pv,hx]
 rw[hno,List.drop_eq_getElem_cons hlt,G1,hpv1];simp only[Bool.and_eq_true,decide_eq_true_eq,Bool.not_eq_true',decide_eq_false_iff_not];constructor
 ·rintro⟨⟨⟨⟨⟨a,b⟩,c,d⟩,e⟩,f⟩,g⟩;exact⟨⟨a,b,c,d,e,f⟩,g⟩
 ·rintro⟨⟨a,b,c,d,e,f⟩,g⟩;exact⟨⟨⟨⟨⟨a,b⟩,c,d⟩,e⟩,f⟩,g⟩
theorem J2 {b c:Bool} {p:Prop} (h:b=true↔p/\c=true) (hp:p):b=c:=by
 rw[Bool.eq_iff_iff,h];exact⟨λh=>h.2,λh=>⟨hp,h⟩⟩
theorem F8 {b c:Bool} {p:Prop} (h:b=true↔p/\c=true) (hp:¬ p):b=false:=eG h λh=>hp h.1
theorem cL {α:Type} {f:α->Bool} {l:List α} {k:Nat} (hlt:k<l.length) (hno:l.all f=(l.drop k).all f):l.all f=true↔f l[k]=true/\(l.drop (k+1)).all f=true:=by
 rw[hno,List.drop_eq_getElem_cons hlt,List.all_cons,Bool.and_eq_true]
@[simp] abbrev Qy:List Nat:=[0,1,2,3,4,5,57,62,102,107,116]
theorem EW (x:Issue) (hk:0<=x.kind/\x.kind<=255) (hl:x.items.length<1000000) (hd:x.dims.length<1000000):zP prog G 301 [N9 x] (bv (o7 x)):=by
 refine zf func301 ntmps301 ?_;try simp only[N9]
 have hw:IntKind.i64.wrap x.kind=x.kind:=p9 (by omega) (by omega);have h12:=eO x;generalize hA:(CB x&&DD x)=A at h12;have hs:=hw;repeat' first|(with_reducible first|refine zz ?_|refine zr ?_|refine zE Qy ?_)|simp -dsimp[hs]|refine zp (dK (G:=G) _ _ _) ?_|refine i9 ?_ ?_<;>intro h<;>try exact h.elim|with_reducible refine j0 ?_ ?_<;>intro h<;>have h0:=h<;>(try simp only[i7] at h)<;>have h2:=h<;>(try simp at h2)<;>replace hs:=za h0 (za h (za h2 hs))
 all_goals try clear hs
 all_goals first
  | (have hA2 : A = false := eG h12 (by clear h12 hA hw; omega)
     rw[hA2] at hA;simp[o7,hA];done)
  | have hA2:A=true:=DO h12 (by clear h12 hA hw;omega)
    rw[hA2] at hA;clear h12 hA2;refine i6 (ι:={ k:Nat // k<=x.items.length/\G1 x.drawing 0 x.items=G1 x.drawing (pv x.items k) (x.items.drop k) }) (λp=>⟨117,[(1,.one (.ptr 0 0)),(2,bv false),(3,iv (p.1:Int))],[.row ((e8 x).map .im)]⟩) (λp=>x.items.length-p.1) ⟨0,by simp[pv]⟩ (zv [1,2,3] (by clear hA;simp_all)) ?_;clear hw;rintro⟨k,hk,hno⟩;simp only[iv,e8,rI,List.map_cons,List.map_nil]
 all_goals
  by_cases hlt:k<x.items.length
  ·have hx:x.items[k]?=some x.items[k]:=by simp[hlt]
   have hw:=zk k;have hst:=qc hlt hno;by_cases hk0:0<k
   ·have hkx:x.items[k-1]?=some x.items[k-1]:=by simp
    have hw3:IntKind.i64.wrap ((k:Int)-1)=((k-1:Nat):Int):=by rw[p9 (by omega) (by omega)];omega
    have hpv0:pv x.items k=x.items[k-1].drawing:=by
     obtain⟨j,rfl⟩:∃ j,k=j+1:=⟨k-1,by omega⟩
     have:x.items[j]?=some x.items[j]:=by simp
     simp[pv,this]
    rw[hpv0] at hst;have hs:=za hx (za hw (za hw3 (za hkx (za hk0 hlt))));repeat' first|(with_reducible first|refine zz ?_|refine zr ?_)|simp -dsimp[hs]|refine zq (dK (G:=G) _ _ _) ?_|refine zM 7 117 33 Qy ?_|with_reducible refine zE Qy ?_|refine i9 ?_ ?_<;>intro h<;>try exact h.elim|with_reducible refine j0 ?_ ?_<;>intro h<;>have h0:=h<;>(try simp only[i7] at h)<;>have h2:=h<;>(try simp at h2)<;>replace hs:=za h0 (za h (za h2 hs))
    all_goals try clear hs
    all_goals first
     | (have hf:=F8 hst (by omega);simp[o7,hf];done)
     | exact zn ⟨k+1,by omega,J2 hst (by omega)⟩ (zw [1,2,3] 1)
   ·obtain rfl:k=0:=by omega
    rw[show pv x.items 0=0 from rfl] at hst;have hs:=za hx (za hw (za hk0 hlt));repeat' first|(with_reducible first|refine zz ?_|refine zr ?_)|simp -dsimp[hs]|refine zq (dK (G:=G) _ _ _) ?_|refine zM 7 117 33 Qy ?_|with_reducible refine zE Qy ?_|refine i9 ?_ ?_<;>intro h<;>try exact h.elim|with_reducible refine j0 ?_ ?_<;>intro h<;>have h0:=h<;>(try simp only[i7] at h)<;>have h2:=h<;>(try simp at h2)<;>replace hs:=za h0 (za h (za h2 hs))
    all_goals try clear hs
    all_goals first
     | (have hf:=F8 hst (by omega);simp[o7,hf];done)
     | exact zn ⟨0+1,by omega,J2 hst (by omega)⟩ (zw [1,2,3] 1 (by simp;exact p9 (by omega) (by omega)))
  ·have hit:G1 x.drawing 0 x.items=true:=by rw[hno,List.drop_eq_nil_of_le (by omega)];rfl
   have hs:=hlt;repeat' first|(with_reducible first|refine zz ?_|refine zE Qy ?_)|simp -dsimp[hs]|refine i9 ?_ ?_<;>intro h<;>try exact h.elim
   all_goals try clear hs
   refine i6 (ι:={ k:Nat // k<=x.dims.length/\x.dims.all K1=(x.dims.drop k).all K1 }) (λp=>⟨117,[(1,.one (.ptr 0 0)),(2,bv false),(5,iv (p.1:Int))],[.row ((e8 x).map .im)]⟩) (λp=>x.dims.length-p.1) ⟨0,by simp⟩ (zv [1,2,5]) ?_;rintro⟨j,hj,hdo⟩;simp only[iv,e8,rI,List.map_cons,List.map_nil];by_cases hlj:j<x.dims.length
   ·have hx:x.dims[j]?=some x.dims[j]:=by simp[hlj]
    have hw:=zk j;have hst:=cL hlj hdo;have cd:=Kj (G:=G) x.dims[j];have hs:=za hx (za hw hlj);repeat' first|(with_reducible first|refine zz ?_|refine zr ?_|refine zE Qy ?_)|simp -dsimp[hs]|refine zp cd ?_|refine i9 ?_ ?_<;>intro h<;>try exact h.elim
    all_goals try clear hs
    ·simp only[o7,hA,hit,Bool.true_and];exact F8 hst (by rw[‹K1 x.dims[j]=false›];exact Bool.false_ne_true)
    ·exact zn ⟨j+1,by omega,J2 hst ‹K1 x.dims[j]=true›⟩ (zv [1,2,5])
   ·have hdims:x.dims.all K1=true:=by rw[hdo,List.drop_eq_nil_of_le (by omega)];rfl
    have hs:=hlj;repeat' first|(with_reducible first|refine zz ?_|refine zr ?_|refine zE Qy ?_)|simp -dsimp[hs]|refine i9 ?_ ?_<;>intro h<;>try exact h.elim
    all_goals try clear hs
    simp[o7,hA,hit,hdims]
end Go.Proofs
namespace Go.Ab
open Go
@[simp] theorem KD (L:List Int) (k:Nat) (v:Int):(l7 (L.map encI)).set k [DC.im (.raw (.int .i64 v))]=l7 ((L.set k v).map encI):=by
 simp only[l7,List.map_set,encI,rI,List.map_cons,List.map_nil]
@[simp] theorem JW (L:List Int) (k:Nat):(l7 (L.map encI))[k]?=(L[k]?).map λv=>[DC.im (.raw (.int .i64 v))]:=by
 simp only[l7,List.getElem?_map,Option.map_map];rfl
@[simp] theorem JV (L:List Int) (k:Nat) (h:k<(l7 (L.map encI)).length):(l7 (L.map encI))[k]=[DC.im (.raw (.int .i64 (L[k]'(by simpa[q8] using h))))]:=by
 simp[l7]
@[simp] theorem Kx (n:Nat) (c:IC):List.replicate n [DC.im c]=l7 (List.replicate n [c]):=by simp[l7]
theorem li {α β:Type} {f:α->β} {c:β} (h:∀ x,f x=c):∀ l:List α,l.map f=List.replicate l.length c
 | []=>rfl
 | x :: l=>by simp[li h l,h x,List.replicate_succ]
@[simp] theorem DR (n:Nat) (c:List IC):(l7 (List.replicate n c)).take n=l7 (List.replicate n c):=List.take_of_length_le (by simp[q8])
theorem ms {α β:Type} {f:α->β} {l:List α} {k:Nat} {x:α} {v:β} (hn:l.Nodup) (hk:l[k]?=some x):(l.map f).set k v=l.map (λy=>open Classical in if y=x then v else f y):=by
 refine List.ext_getElem? λj=>?_;obtain⟨hlt,he⟩:=List.getElem?_eq_some_iff.1 hk;by_cases hj:j=k
 ·subst hj;rw[List.getElem?_set_self (by simpa using hlt),List.getElem?_map,hk];simp
 ·rw[List.getElem?_set_ne (Ne.symm hj),List.getElem?_map,List.getElem?_map];cases hy:l[j]? with
  | none=>rfl
  | some y =>
    have:y≠x:=λe=>hj ((List.getElem?_inj (List.getElem?_eq_some_iff.1 hy).1 hn).1 (by rw[hy,hk,e]));simp[this]
end Go.Ab
namespace Go.Proofs
open Go Go.Ab Tryz
variable {G:MF}
def Rp (l:List Issue) (r:Nat) (pre:List Issue) (n:Int):Int:=if pre.any (λx=>decide (x.drawing=n)) then 1+mx (Rr l r) (dJ pre n) else 0
def Rq (l:List Issue) (r:Nat) (v:Int) (ys:List Itm):Int:=max (max v 1) (1+mx (Rr l r) (ys.map (·.drawing)))
theorem ot (f:Int->Int) (a b:List Int):mx f (a++b)=max (mx f a) (mx f b):=by
 rw[mx,List.foldl_append];exact cv f b _ (W5 f a)
theorem Ip (l:List Issue) (r:Nat) (v:Int):Rq l r v []=max v 1:=by
 have:mx (Rr l r) []=0:=rfl;simp only[Rq,List.map_nil,this];omega
theorem FT (l:List Issue) (r:Nat) (v:Int) (ys:List Itm) (y:Itm):Rq l r v (ys++[y])=max (Rq l r v ys) (1+Rr l r y.drawing):=by
 have h:=py l r y.drawing;have:mx (Rr l r) [y.drawing]=Rr l r y.drawing:=by simp only[mx,List.foldl_cons,List.foldl_nil];omega
 simp only[Rq,List.map_append,List.map_cons,List.map_nil,ot,this];omega
theorem FU (l:List Issue) (r:Nat) (pre:List Issue) (x:Issue) (n:Int):Rp l r (pre++[x]) n=if n=x.drawing then Rq l r (Rp l r pre n) x.items else Rp l r pre n:=by
 by_cases hn:n=x.drawing
 ·subst hn;rw[if_pos rfl];have hc:dJ (pre++[x]) x.drawing=dJ pre x.drawing++x.items.map (·.drawing):=by simp[dJ,dV]
  have h1:=W5 (Rr l r) (dJ pre x.drawing);have h2:=W5 (Rr l r) (x.items.map (·.drawing));unfold Rp;rw[if_pos (by simp),hc,ot];unfold Rq;split
  ·omega
  ·rename_i hp;have:dJ pre x.drawing=[]:=by
    simp only[dJ,dV];rw[List.filter_eq_nil_iff.2 λy hy=>?_]
    ·rfl
    ·intro he;exact hp (List.any_eq_true.2 ⟨y,hy,he⟩)
   have h3:mx (Rr l r) []=0:=rfl;rw[this,h3];omega
 ·rw[if_neg hn];have hc:dJ (pre++[x]) n=dJ pre n:=by simp[dJ,dV,Ne.symm hn]
  unfold Rp;rw[hc];simp[Ne.symm hn]
theorem FV {l:List Issue} {n:Int} (r:Nat) (h:∃ x∈l,x.drawing=n):Rp l r l n=Rr l (r+1) n:=by
 unfold Rp;obtain⟨x,hx,he⟩:=h;rw[if_pos (List.any_eq_true.2 ⟨x,hx,by simpa using he⟩)];rfl
theorem fW {x:Issue} (h:o7 x=true):x.items.length<=8/\x.dims.length<=4:=by
 simp only[o7,Bool.and_assoc] at h;rw[<- Bool.and_assoc,Bool.and_eq_true] at h;have:=(eO x).1 h.1;omega
theorem rz {l:List Issue} {n:Int} (h:n∈nums l):∃ x∈l,x.drawing=n:=by
 have gen:∀ k,n∈E3 l k->∃ x∈l,x.drawing=n:=by
  intro k;induction k with
  | zero=>intro h;cases h
  | succ k ih =>
    intro h;simp only[E3] at h;rcases List.mem_append.1 h with h|h
    ·exact ih h
    ·split at h
     ·rename_i x hx;split at h
      ·rw[List.mem_singleton] at h;exact⟨x,List.mem_of_getElem? hx,h.symm⟩
      ·cases h
     ·cases h
 exact gen _ h
theorem pW {l:List Issue} (h:r8 l=true):r5 none l=some (nums l):=by
 simp only[r8,Bool.and_eq_true] at h;obtain⟨ds,hds⟩:=Option.isSome_iff_exists.1 h.1.1.2;rw[hds,jt hds]
theorem jL {l:List Int} (hn:l.Nodup) {k:Nat} {x:Int} (h:l[k]?=some x):idx l x=k:=by
 refine wp h λj hj he=>?_;have h1:=(List.getElem?_eq_some_iff.1 h).1;rw[<- he] at h;have:=(List.getElem?_inj h1 hn).1 h;omega
@[simp] abbrev Qz:List Nat:=[0,1,2,3,4,5,6,7,8,9,10,19,29,53]
theorem xl (l:List Issue) (hl:r8 l=true):zP prog G 266 [H0 l] (v8 (D8 l)):=by
 refine zf func266 ntmps266 ?_;try simp only[H0]
 have hli:=hl;simp only[r8,Bool.and_eq_true,decide_eq_true_eq,List.all_eq_true] at hli;obtain⟨⟨⟨⟨hl1,hl60⟩,hsc⟩,hitems⟩,hn20⟩:=hli;have c1:=jB (G:=G) l (by omega);have hD:D8 l=(nums l).map (Rr l ((nums l).length+1)):=rfl;obtain⟨_,hlt',hmem,hok,_⟩:=P6 (pW hl);have hnd:(nums l).Nodup:=hlt'.imp λh=>Int.ne_of_lt h;generalize hns:nums l=ns at *;have hs:=trivial;repeat' first|(with_reducible first|refine zz ?_|refine And.intro (by omega) ?_|refine zE Qz ?_)|simp -dsimp[hs]|refine zp c1 ?_
 refine i6 (ι:={ r:Nat // r<=ns.length+1 }) (λp=>⟨78,[(1,.one (.ptr 0 0)),(3,v8 ns),(4,v8 (ns.map (Rr l p.1))),(5,iv (p.1:Int))],[.row [.im (.sl (l.map e8))]]⟩) (λp=>ns.length+1-p.1) ⟨0,by omega⟩ (zw [1,3,4,5] 1 (by simp[li (f:=encI ∘ Rr l 0) (c:=[rI 0]) (λ_=>rfl)])) ?_;rintro⟨r,hr⟩;simp only[iv,v8];by_cases hrl:r<=ns.length
 ·have hw:=zk r;have hs:=hrl;repeat' first|(with_reducible first|refine zz ?_|refine And.intro (by omega) ?_|refine zE Qz ?_)|simp -dsimp[hs]|refine i9 ?_ ?_<;>intro h<;>try exact h.elim
  refine i6 (ι:={ p:Nat×List Int // p.1<=l.length/\p.2=ns.map (Rp l r (l.take p.1)) }) (λp=>⟨78,[(1,.one (.ptr 0 0)),(3,v8 ns),(4,v8 (ns.map (Rr l r))),(5,iv (r:Int)),(6,.one (.vec 1 0 0 ns.length)),(7,iv (p.1.1:Int))],[.row [.im (.sl (l.map e8))],.vec 1 (l7 (p.1.2.map encI)) 0 false]⟩) (λp=>l.length-p.1.1) ⟨(0,List.replicate ns.length 0),by omega,(li (λ_=>rfl) ns).symm⟩ (zv [1,3,4,5,6,7]) ?_;rintro⟨⟨i,L⟩,hi,hL⟩;simp only at hi hL;simp only[iv,v8];by_cases hlt:i<l.length
  ·have hx:l[i]?=some l[i]:=by simp[hlt]
   have hw1:=zk i;obtain⟨k,hk⟩:=List.mem_iff_getElem?.1 (hmem l[i] (List.getElem_mem hlt));have hkl:=e7 hk;have hidx:=jL hnd hk;have c2:=qf (G:=G) ns l[i].drawing (by omega);rw[hidx] at c2;have hLk:L[k]?=some (Rp l r (l.take i) l[i].drawing):=by rw[hL,List.getElem?_map,hk];rfl
   generalize hv:Rp l r (l.take i) l[i].drawing=v at hLk;have hit:=hitems l[i] (List.getElem_mem hlt);have hsm:=(fW (hok l[i] (List.getElem_mem hlt))).1;have hs:=za hx (za hw1 (za hlt (za hkl hLk)));repeat' first|(with_reducible first|refine zz ?_|refine zE Qz ?_)|simp -dsimp[hs]|refine zp c2 ?_|refine i9 ?_ ?_<;>intro h<;>try exact h.elim
   refine i6 (ι:={ p:Nat×List Int // p.1<=l[i].items.length/\p.2=L.set k (Rq l r v (l[i].items.take p.1)) }) (λp=>⟨78,[(1,.one (.ptr 0 0)),(3,v8 ns),(4,v8 (ns.map (Rr l r))),(5,iv (r:Int)),(6,.one (.vec 1 0 0 ns.length)),(7,iv (i:Int)),(8,.one (.ptr 4 0)),(9,iv (k:Int)),(10,iv (p.1.1:Int))],[.row [.im (.sl (l.map e8))],.vec 1 (l7 (p.1.2.map encI)) 0 false,.vec 0 [] 0 true,.vec 0 [] 0 true,.row ((e8 l[i]).map .im)]⟩) (λp=>l[i].items.length-p.1.1) ⟨(0,L.set k (max v 1)),by omega,by simp only[List.take_zero,Ip]⟩ (zv [1,3,4,5,6,7,8,9,10]) ?_;rintro⟨⟨u,L'⟩,hu,hL'⟩;simp only at hu hL';simp only[iv,v8,e8,rI,List.map_cons,List.map_nil];have hkL:k<L.length:=e7 hLk;by_cases hlu:u<l[i].items.length
   ·have hy:l[i].items[u]?=some l[i].items[u]:=by simp[hlu]
    have hw2:=zk u;obtain⟨m,hm⟩:=List.mem_iff_getElem?.1 (hit l[i].items[u] (List.getElem_mem hlu));have hml:=e7 hm;have hmn:ns[m]=l[i].items[u].drawing:=(List.getElem?_eq_some_iff.1 hm).2;have hidx2:=jL hnd hm;have c3:=qf (G:=G) ns l[i].items[u].drawing (by omega);rw[hidx2] at c3;have hLk':L'[k]?=some (Rq l r v (l[i].items.take u)):=by rw[hL',List.getElem?_set_self hkL]
    have hb1:=py l r l[i].items[u].drawing;have hb2:=Dm l r l[i].items[u].drawing;have hw3:IntKind.i64.wrap (1+Rr l r l[i].items[u].drawing)=1+Rr l r l[i].items[u].drawing:=p9 (by omega) (by omega);have hnext:L'.set k (max (Rq l r v (l[i].items.take u)) (1+Rr l r l[i].items[u].drawing))=L.set k (Rq l r v (l[i].items.take (u+1))):=by
     rw[List.take_succ_eq_append_getElem hlu,FT,hL',List.set_set]
    have hs:=za hy (za hw2 (za hlu (za hkl (za hLk' (za hm (za hml (za hmn hw3)))))));repeat' first|with_reducible refine zz ?_|simp -dsimp[hs]|refine zq c3 ?_|refine zM 16 78 20 Qz ?_|with_reducible refine zE Qz ?_|refine i9 ?_ ?_<;>intro h<;>try exact h.elim
    exact zn ⟨(u+1,L'.set k (max (Rq l r v (l[i].items.take u)) (1+Rr l r l[i].items[u].drawing))),by omega,hnext⟩ (zv [1,3,4,5,6,7,8,9,10])
   ·have hend:L'=ns.map (Rp l r (l.take (i+1))):=by
     rw[hL',List.take_of_length_le (by omega),hL,ms hnd hk];refine List.map_congr_left λn _=>?_;rw[List.take_succ_eq_append_getElem hlt,FU];split
     ·rename_i e;rw[e,hv]
     ·rfl
    have hs:=za hlu hw1;repeat' first|(with_reducible first|refine zz ?_|refine zE Qz ?_)|simp -dsimp[hs]|refine i9 ?_ ?_<;>intro h<;>try exact h.elim
    exact zn ⟨(i+1,L'),by omega,hend⟩ (zw [1,3,4,5,6,7] 2)
  ·have hend:L=ns.map (Rr l (r+1)):=by
    rw[hL,List.take_of_length_le (by omega)];refine List.map_congr_left λn hn=>FV r ?_;rw[<- hns] at hn;exact rz hn
   have hLn:L.length=ns.length:=by rw[hL,List.length_map]
   have hs:=za hlt hw;repeat' first|(with_reducible first|refine zz ?_|refine zE Qz ?_)|simp -dsimp[hs]|refine i9 ?_ ?_<;>intro h<;>try exact h.elim
   exact zn ⟨r+1,by omega⟩ (zw [1,3,4,5] 1 (by simp[<- hLn];rw[hend];simp))
 ·have hs:=hrl;repeat' first|(with_reducible first|refine zz ?_|refine zr ?_|refine zE Qz ?_)|simp -dsimp[hs]|refine i9 ?_ ?_<;>intro h<;>try exact h.elim
  have hr1:r=ns.length+1:=by omega
  rw[hD,hr1];simp
theorem jv (x:Issue) (r:List Issue):(r5 none (x :: r)).isSome=true↔(o7 x=true/\x.letter=1)/\(r5 (some x) r).isSome=true:=by
 simp only[r5];by_cases h1:o7 x=false
 ·simp[h1]
 ·by_cases h2:x.letter=1
  ·simp[h1,h2]
  ·simp[h1,h2]
theorem ju (y x:Issue) (r:List Issue):(r5 (some y) (x :: r)).isSome=true↔(o7 x=true/\(y.drawing=x.drawing/\y.letter+1=x.letter/\y.kind=x.kind\/y.drawing<x.drawing/\x.letter=1))/\(r5 (some x) r).isSome=true:=by
 simp only[r5];by_cases h1:o7 x=false
 ·simp[h1]
 ·have h1':o7 x=true:=by simpa using h1
  by_cases hd:y.drawing=x.drawing
  ·have hlt:¬ x.drawing<x.drawing:=by omega
   by_cases h2:y.letter+1=x.letter<;>by_cases h3:y.kind=x.kind<;>simp[h1',hd,h2,h3]
  ·by_cases hg:y.drawing > x.drawing
   ·have:¬ y.drawing<x.drawing:=by omega
    simp[h1',hd,hg,this]
   ·have:y.drawing<x.drawing:=by omega
    by_cases h2:x.letter=1<;>simp[h1',hd,hg,h2,this]
theorem Fd {l:List Int} {x:Int} (h:x∉l):idx l x=-1:=BT λj _ he=>h (List.mem_of_getElem? he)
theorem ux {l:List Int} {x:Int} (h:x∈l):0<=idx l x:=by
 unfold idx;cases hh:l.idxOf? x with
 | none =>
   rw[List.idxOf?,List.findIdx?_eq_none_iff] at hh;have:=hh x h;simp at this
 | some i=>simp
theorem Fe (l:List Int) (x:Int):idx l x<0↔x∉l:=by
 constructor
 ·intro h hm;have:=ux hm;omega
 ·intro h;rw[Fd h];omega
theorem bW {l:List Issue} (h:(r5 none l).isSome=false):r8 l=false:=by simp[r8,h]
@[simp] abbrev Qm:List Nat:=[0,1,2,3,4,5,6,7,8,13,18,28,31,38,44,52,53,73,84,99]
theorem Bz (l:List Issue) (hs:X3 l):zP prog G 265 [H0 l] (bv (r8 l)):=by
 refine zf func265 ntmps265 ?_;try simp only[H0]
 have hl80:=hs.1;by_cases hrange:1<=l.length/\l.length<=60
 ·have d1:decide ((1:Int)<=(l.length:Int))=true:=by simp;omega
  have d2:decide ((l.length:Int)<=60)=true:=by simp;omega
  have c0:=dK (G:=G) (l.length:Int) 1 60;rw[d1,d2] at c0;have hs:=trivial;repeat' first|(with_reducible first|refine zz ?_|refine zE Qm ?_)|simp -dsimp[hs]|refine zp c0 ?_|refine i9 ?_ ?_<;>intro h<;>try exact h.elim
  all_goals try clear hs
  refine i6 (ι:={ i:Nat // i<=l.length/\(r5 none l).isSome=(r5 (J5 l i) (l.drop i)).isSome/\∀ x∈l.take i,o7 x=true }) (λp=>⟨103,[(1,.one (.ptr 0 0)),(2,bv false),(3,iv (p.1:Int))],[.row [.im (.sl (l.map e8))]]⟩) (λp=>l.length-p.1) ⟨0,by simp[J5]⟩ (zv [1,2,3]) ?_;rintro⟨i,hi,hscan,hok⟩;simp only[iv];by_cases hlt:i<l.length
  ·have hx:l[i]?=some l[i]:=by simp[hlt]
   have hw:=zk i;have hsm:=hs.2 l[i] (List.getElem_mem hlt);have c1:=EW (G:=G) l[i] ⟨hsm.1,hsm.2.1⟩ (by omega) (by omega);rw[List.drop_eq_getElem_cons hlt] at hscan;have hnext:J5 l (i+1)=some l[i]:=by simp[J5]
   cases hq:o7 l[i]
   ·rw[hq] at c1;have hf:r8 l=false:=bW (by
     rw[hscan];cases J5 l i with
     | none=>exact F8 (jv l[i] _) (by simp[hq])
     | some y=>exact F8 (ju y l[i] _) (by simp[hq]))
    have hs:=za hx hlt;repeat' first|(with_reducible first|refine zz ?_|refine zr ?_|refine zE Qm ?_)|simp -dsimp[hs]|refine zp c1 ?_|refine i9 ?_ ?_<;>intro h<;>try exact h.elim
    all_goals try clear hs
    simp[hf]
   ·rw[hq] at c1;have hokn:∀ x∈l.take (i+1),o7 x=true:=by
     rw[List.take_succ_eq_append_getElem hlt];intro x hx;rcases List.mem_append.1 hx with h|h
     ·exact hok x h
     ·simp at h;rw[h];exact hq
    have hdr:1<=l[i].drawing:=by
     simp only[o7,Bool.and_assoc] at hq;rw[<- Bool.and_assoc,Bool.and_eq_true] at hq;have:=(eO _).1 hq.1;omega
    by_cases hi0:i=0
    ·subst hi0;have hst:=jv l[0] (l.drop 1);simp only[J5] at hscan;rw[Nat.zero_add] at hscan;rw[<- hscan] at hst;have hs:=za hx (za hlt hw);repeat' first|(with_reducible first|refine zz ?_|refine zr ?_|refine zE Qm ?_)|simp -dsimp[hs]|refine zp c1 ?_|refine i9 ?_ ?_<;>intro h<;>try exact h.elim|with_reducible refine j0 ?_ ?_<;>intro h<;>have h0:=h<;>(try simp only[i7] at h)<;>have h2:=h<;>(try simp at h2)<;>replace hs:=za h0 (za h (za h2 hs))
     all_goals try clear hs
     all_goals first
      | (exfalso;omega)
      | (have hf:=bW (F8 hst (by omega));simp[hf];done)
      | exact zn ⟨1,by omega,by rw[hnext];exact J2 hst ⟨hq,by omega⟩,hokn⟩ (zw [1,2,3] 1 (by simp;exact p9 (by omega) (by omega)))
    ·obtain⟨m,rfl⟩:∃ m,i=m+1:=⟨i-1,by omega⟩
     have hy:l[m]?=some l[m]:=by simp
     have hw1:IntKind.i64.wrap (((m+1:Nat):Int)-1)=m:=p9 (by omega) (by omega) |>.trans (by omega);have hw2:IntKind.i64.wrap (m:Int)=m:=p9 (by omega) (by omega);have hoky:=hok l[m] (List.mem_take_iff_getElem.2 ⟨m,by omega,rfl⟩);have hlet:1<=l[m].letter/\l[m].letter<=8:=by simp[o7,CB] at hoky;omega
     have hwl:IntKind.i64.wrap (l[m].letter+1)=l[m].letter+1:=p9 (by omega) (by omega);have hst:=ju l[m] l[m+1] (l.drop (m+1+1));simp only[J5,hy] at hscan;rw[<- hscan] at hst;have hpos:(0:Int)<(m:Int)+1:=by omega
     have hlt2:(m:Int)+1<(l.length:Int):=by omega
     have hge:(0:Int)<=(m:Int)+1:=by omega
     have hs:=za hge (za hx (za hlt (za hlt2 (za hw (za hy (za hw1 (za hw2 (za hwl hpos))))))));repeat' first|(with_reducible first|refine zz ?_|refine zr ?_|refine zE Qm ?_)|simp -dsimp[hs]|refine zp c1 ?_|refine i9 ?_ ?_<;>intro h<;>try exact h.elim|with_reducible refine j0 ?_ ?_<;>intro h<;>have h0:=h<;>(try simp only[i7] at h)<;>have h2:=h<;>(try simp at h2)<;>replace hs:=za h0 (za h (za h2 hs))
     all_goals try clear hs
     all_goals first
      | (exfalso;omega)
      | (have hf:=bW (F8 hst (by omega));simp[hf];done)
      | exact zn ⟨m+1+1,by omega,by rw[hnext];exact J2 hst ⟨hq,by omega⟩,hokn⟩ (zw [1,2,3] 1 (by simp;try exact p9 (by omega) (by omega)))
  ·have hsome:(r5 none l).isSome=true:=by
    rw[hscan,List.drop_eq_nil_of_le (by omega)];cases J5 l i<;>rfl
   have c2:=jB (G:=G) l (by omega);have hE:r8 l=(l.all (λx=>x.items.all λy=>decide (y.drawing∈nums l))&&decide ((nums l).length<=20)):=by
    simp[r8,hsome,hrange]
   have hnl:(nums l).length<=l.length:=w5 l l.length;generalize nums l=ns at *;have hs:=hlt;repeat' first|(with_reducible first|refine zz ?_|refine zE Qm ?_)|simp -dsimp[hs]|refine zp c2 ?_|refine i9 ?_ ?_<;>intro h<;>try exact h.elim
   all_goals try clear hs
   refine i6 (ι:={ i:Nat // i<=l.length/\l.all (λx=>x.items.all λy=>decide (y.drawing∈ns))=(l.drop i).all (λx=>x.items.all λy=>decide (y.drawing∈ns)) }) (λp=>⟨103,[(1,.one (.ptr 0 0)),(2,bv false),(6,v8 ns),(7,iv (p.1:Int))],[.row [.im (.sl (l.map e8))]]⟩) (λp=>l.length-p.1) ⟨0,by simp⟩ (zw [1,2,6,7] 1) ?_;clear hscan hok;rintro⟨k,hk,hall⟩;simp only[iv,v8];by_cases hlk:k<l.length
   ·have hx:l[k]?=some l[k]:=by simp[hlk]
    have hw:=zk k;have hst:=cL hlk hall;have hsm:=hs.2 l[k] (List.getElem_mem hlk);have hs:=za hx (za hlk hw);repeat' first|(with_reducible first|refine zz ?_|refine zE Qm ?_)|simp -dsimp[hs]|refine i9 ?_ ?_<;>intro h<;>try exact h.elim
    all_goals try clear hs
    refine i6 (ι:={ u:Nat // u<=l[k].items.length/\l[k].items.all (λy=>decide (y.drawing∈ns))=(l[k].items.drop u).all (λy=>decide (y.drawing∈ns)) }) (λp=>⟨103,[(1,.one (.ptr 0 0)),(2,bv false),(6,v8 ns),(7,iv (k:Int)),(8,iv (p.1:Int))],[.row [.im (.sl (l.map e8))]]⟩) (λp=>l[k].items.length-p.1) ⟨0,by simp⟩ (zv [1,2,6,7,8]) ?_;rintro⟨u,hu,hall2⟩;simp only[iv,v8];by_cases hlu:u<l[k].items.length
    ·have hy:l[k].items[u]?=some l[k].items[u]:=by simp[hlu]
     have hw2:=zk u;have c3:=qf (G:=G) ns l[k].items[u].drawing (by omega);have hm:=Fe ns l[k].items[u].drawing;have hst2:=cL hlu hall2;generalize idx ns l[k].items[u].drawing=z at c3 hm;have hs:=za hx (za hlk (za hy (za hlu hw2)));repeat' first|(with_reducible first|refine zz ?_|refine zr ?_|refine zE Qm ?_)|simp -dsimp[hs]|refine zp c3 ?_|refine i9 ?_ ?_<;>intro h<;>try exact h.elim
     all_goals try clear hs
     ·have hn:=hm.1 ‹z<0›;have h1:=F8 hst2 (by simpa using hn);have h2:=F8 hst (by rw[h1];exact Bool.false_ne_true);rw[hE,h2];rfl
     ·have hn:l[k].items[u].drawing∈ns:=Classical.byContradiction λhn=>absurd (hm.2 hn) ‹_›;exact zn ⟨u+1,by omega,J2 hst2 (by simpa using hn)⟩ (zv [1,2,6,7,8])
    ·have h1:l[k].items.all (λy=>decide (y.drawing∈ns))=true:=by rw[hall2,List.drop_eq_nil_of_le (by omega)];rfl
     have hs:=za hx (za hlk (za hlu hw));repeat' first|(with_reducible first|refine zz ?_|refine zE Qm ?_)|simp -dsimp[hs]|refine i9 ?_ ?_<;>intro h<;>try exact h.elim
     all_goals try clear hs
     exact zn ⟨k+1,by omega,J2 hst h1⟩ (zv [1,2,6,7])
   ·have h1:l.all (λx=>x.items.all λy=>decide (y.drawing∈ns))=true:=by rw[hall,List.drop_eq_nil_of_le (by omega)];rfl
    rw[h1,Bool.true_and] at hE;have hs:=hlk;repeat' first|(with_reducible first|refine zz ?_|refine zr ?_|refine zE Qm ?_)|simp -dsimp[hs]|refine i9 ?_ ?_<;>intro h<;>try exact h.elim
    all_goals try clear hs
    rw[hE];simp;omega
 ·have hf:r8 l=false:=by simp only[r8];rw[decide_eq_false hrange];rfl
  have c0:=dK (G:=G) (l.length:Int) 1 60;have hd:(decide ((1:Int)<=(l.length:Int))&&decide ((l.length:Int)<=60))=false:=by simp;omega
  rw[hd] at c0;have hs:=trivial;repeat' first|(with_reducible first|refine zz ?_|refine zr ?_|refine zE Qm ?_)|simp -dsimp[hs]|refine zp c0 ?_|refine i9 ?_ ?_<;>intro h<;>try exact h.elim
  all_goals try clear hs
  simp[hf]
theorem ue {l:List Int} {k:Nat} (hlt:k<l.length) (a:Int) (h:af l=(l.drop k).foldl max a):af l=(l.drop (k+1)).foldl max (max a l[k]):=by
 rw[h,List.drop_eq_getElem_cons hlt,List.foldl_cons]
@[simp] abbrev Wo:List Nat:=[0,1,2,3,4,5,8,14,23,28]
theorem AQ (l:List Issue) (hs:X3 l):zP prog G 217 [H0 l] (iv (l6 l)):=by
 refine zf func217 ntmps217 ?_;try simp only[H0]
 have c1:=Bz (G:=G) l hs;cases hL:r8 l
 ·rw[hL] at c1;have hs:=trivial;repeat' first|(with_reducible first|refine zz ?_|refine zr ?_|refine zE Wo ?_)|simp -dsimp[hs]|refine zp c1 ?_|refine i9 ?_ ?_<;>intro h<;>try exact h.elim
  all_goals try clear hs
  simp[l6,hL]
 ·rw[hL] at c1;have c2:=xl (G:=G) l hL;have hlen:(D8 l).length<=80:=by
   have:=w5 l l.length;have:=hs.1;simp only[D8,List.length_map,nums];omega
  have hE:l6 l=if af (D8 l) > (D8 l).length then 21 else if af (D8 l) > 6 then 20 else 0:=by simp[l6,hL]
  generalize D8 l=D at c2 hE hlen;have hs:=trivial;repeat' first|(with_reducible first|refine zz ?_|refine zE Wo ?_)|simp -dsimp[hs]|refine zp c1 ?_|refine zp c2 ?_|refine i9 ?_ ?_<;>intro h<;>try exact h.elim
  all_goals try clear hs
  refine i6 (ι:={ p:Nat×Int // p.1<=D.length/\af D=(D.drop p.1).foldl max p.2 }) (λp=>⟨31,[(1,.one (.ptr 0 0)),(2,iv 0),(3,v8 D),(4,iv p.1.2),(5,iv (p.1.1:Int))],[.row [.im (.sl (l.map e8))]]⟩) (λp=>D.length-p.1.1) ⟨(0,0),by simp[af]⟩ (zv [1,2,3,4,5]) ?_;rintro⟨⟨k,a⟩,hk,ha⟩;simp only at hk ha;simp only[iv,v8];by_cases hlt:k<D.length
  ·have hx:D[k]?=some D[k]:=by simp[hlt]
   have hw:=zk k;have hs:=za hx (za hw hlt);repeat' first|(with_reducible first|refine zz ?_|refine zE Wo ?_)|simp -dsimp[hs]|refine i9 ?_ ?_<;>intro h<;>try exact h.elim
   all_goals try clear hs
   exact zn ⟨(k+1,max a D[k]),by omega,ue hlt a ha⟩ (zv [1,2,3,4,5])
  ·have ha':af D=a:=by rw[ha,List.drop_eq_nil_of_le (by omega)];rfl
   rw[ha'] at hE;have hs:=hlt;repeat' first|(with_reducible first|refine zz ?_|refine zr ?_|refine zE Wo ?_)|simp -dsimp[hs]|refine i9 ?_ ?_<;>intro h<;>try exact h.elim
   all_goals try clear hs
   all_goals rw[hE]
   ·rw[if_pos (by omega)]
   ·rw[if_neg (by omega),if_pos (by omega)]
   ·rw[if_neg (by omega),if_neg (by omega)]
def aW (l:List Issue) (d:Int):Int:=l.foldl (λn x=>if x.drawing=d then max n x.letter else n) 0
@[simp] abbrev WF:List Nat:=[0,1,2,4,5,6,11,21]
theorem BE (l:List Issue) (d:Int) (hl:l.length<1000000):zP prog G 166 [H0 l,iv d] (iv (aW l d)):=by
 refine zf func166 ntmps166 ?_;try simp only[H0,iv]
 have hs:=trivial;repeat' first|(with_reducible first|refine zz ?_|refine zE WF ?_)|simp -dsimp[hs]
 refine i6 (ι:={ p:Nat×Int // p.1<=l.length/\aW l d=(l.drop p.1).foldl (λn x=>if x.drawing=d then max n x.letter else n) p.2 }) (λp=>⟨31,[(1,iv d),(2,.one (.ptr 0 0)),(5,iv p.1.2),(6,iv (p.1.1:Int))],[.row [.im (.sl (l.map e8))]]⟩) (λp=>l.length-p.1.1) ⟨(0,0),by simp[aW]⟩ (zv [1,2,5,6]) ?_;rintro⟨⟨k,a⟩,hk,ha⟩;simp only at hk ha;simp only[iv];by_cases hlt:k<l.length
 ·have hx:l[k]?=some l[k]:=by simp[hlt]
  have hw:=zk k;rw[List.drop_eq_getElem_cons hlt,List.foldl_cons] at ha;have hs:=za hx (za hw hlt);repeat' first|(with_reducible first|refine zz ?_|refine zE WF ?_)|simp -dsimp[hs]|refine i9 ?_ ?_<;>intro h<;>try exact h.elim
  ·exact zn ⟨(k+1,max a l[k].letter),by omega,by rw[ha,if_pos ‹_›]⟩ (zv [1,2,5,6])
  ·exact zn ⟨(k+1,a),by omega,by rw[ha,if_neg ‹_›]⟩ (zv [1,2,5,6])
 ·have ha':aW l d=a:=by rw[ha,List.drop_eq_nil_of_le (by omega)];rfl
  have hs:=hlt;repeat' first|(with_reducible first|refine zz ?_|refine zr ?_|refine zE WF ?_)|simp -dsimp[hs]|refine i9 ?_ ?_<;>intro h<;>try exact h.elim
  rw[ha']
def eo (l:List Issue) (p:Int×Int):Bool:=decide (1<=p.2)&&decide (p.2<=aW l p.1)
def w9 (l:List Issue) (lets:List Int):Bool:=decide (lets.length=(nums l).length)&&((nums l).zip lets).all (eo l)
def v7 (l:List Issue) (lets:List Int) (d:Int):Issue:=(p6 l d ((lets[(idx (nums l) d).toNat]?).getD 0)).getD K4
end Go.Proofs
namespace Go.Proofs
open Go Go.Ab
theorem oU {l:List Issue} {d lt:Int} {y:Issue} (h:p6 l d lt=some y):y∈l/\y.drawing=d/\y.letter=lt:=by
 have h1:=List.find?_some h;have h2:=List.mem_of_find?_eq_some h;simp only[Bool.and_eq_true,beq_iff_eq] at h1;exact⟨h2,h1.1,h1.2⟩
theorem Ck (l:List Issue) (d lt:Int):(p6 l d lt).isSome=true↔∃ x∈l,x.drawing=d/\x.letter=lt:=by
 simp[p6,List.find?_isSome]
theorem ij:∀ (r:List Issue) (p:Option Issue) (ds:List Int),r5 p r=some ds->∀ x∈r,x.letter=1\/∃ y,(p=some y\/y∈r)/\y.drawing=x.drawing/\y.letter+1=x.letter
 | [],_,_,_,x,hx=>by cases hx
 | z :: r,p,ds,h,x,hx=>by
   have hs:(r5 p (z :: r)).isSome=true:=by rw[h];rfl
   obtain⟨ds',h1,_,_⟩:=fe h;rcases List.mem_cons.1 hx with rfl|hx
   ·cases p with
    | none=>exact .inl ((jv x r).1 hs).1.2
    | some y =>
      rcases ((ju y x r).1 hs).1.2 with⟨a,b,_⟩|⟨_,b⟩
      ·exact .inr ⟨y,.inl rfl,a,b⟩
      ·exact .inl b
   ·rcases ij r (some z) ds' h1 x hx with h2|⟨y,h2,h3,h4⟩
    ·exact .inl h2
    ·refine .inr ⟨y,.inr ?_,h3,h4⟩;rcases h2 with h2|h2
     ·cases h2;simp
     ·simp[h2]
theorem kH {l:List Issue} (hs:r5 none l=some (nums l)):∀ (k:Nat) (x:Issue),x∈l->x.letter=k+1->∀ j:Int,1<=j->j<=k+1->∃ y∈l,y.drawing=x.drawing/\y.letter=j
 | 0,x,hx,hk,j,h1,h2=>⟨x,hx,rfl,by omega⟩
 | k+1,x,hx,hk,j,h1,h2=>by
   by_cases hj:j=k+1+1
   ·exact⟨x,hx,rfl,by omega⟩
   ·rcases ij l none _ hs x hx with h|⟨y,hy,h3,h4⟩
    ·omega
    ·rcases hy with hy|hy
     ·cases hy
     ·obtain⟨z,hz,h5,h6⟩:=kH hs k y hy (by omega) j h1 (by omega);exact⟨z,hz,by omega,h6⟩
theorem ep (d:Int):∀ (l:List Issue) (a:Int),a<=l.foldl (λn x=>if x.drawing=d then max n x.letter else n) a/\(∀ x∈l,x.drawing=d->x.letter<=l.foldl (λn x=>if x.drawing=d then max n x.letter else n) a) /\
 (l.foldl (λn x=>if x.drawing=d then max n x.letter else n) a=a\/∃ x∈l,x.drawing=d/\x.letter=l.foldl (λn x=>if x.drawing=d then max n x.letter else n) a)
 | [],a=>by simp
 | y :: l,a=>by
   obtain⟨h1,h2,h3⟩:=ep d l (if y.drawing=d then max a y.letter else a);simp only[List.foldl_cons];have h0:a<=(if y.drawing=d then max a y.letter else a):=by split<;>omega
   refine⟨by omega,λx hx hd=>?_,?_⟩
   ·rcases List.mem_cons.1 hx with rfl|hx
    ·rw[if_pos hd] at h1 ⊢;omega
    ·exact h2 x hx hd
   ·rcases h3 with h3|⟨x,hx,hd,he⟩
    ·by_cases hy:y.drawing=d
     ·rw[if_pos hy] at h3 ⊢;by_cases hm:a<=y.letter
      ·exact .inr ⟨y,by simp,hy,by omega⟩
      ·exact .inl (by omega)
     ·rw[if_neg hy] at h3 ⊢;exact .inl h3
    ·exact .inr ⟨x,by simp[hx],hd,he⟩
theorem eC {l:List Issue} (h:l6 l=0) (d lt:Int):(p6 l d lt).isSome=true↔1<=lt/\lt<=aW l d:=by
 have hs:=N6 (J3 h);obtain⟨_,_,_,hok,_⟩:=P6 hs;obtain⟨h1,h2,h3⟩:=ep d l 0;have hlet:∀ x∈l,1<=x.letter:=λx hx=>by
  have:=hok x hx;simp only[o7,Bool.and_assoc] at this;rw[<- Bool.and_assoc,Bool.and_eq_true] at this;have:=(eO x).1 this.1;omega
 rw[Ck];constructor
 ·rintro⟨x,hx,rfl,rfl⟩;exact⟨hlet x hx,h2 x hx rfl⟩
 ·rintro⟨a,b⟩;rcases h3 with h3|⟨x,hx,hd,he⟩
  ·simp only[aW] at b;omega
  ·have hx1:=hlet x hx;obtain⟨y,hy,h5,h6⟩:=kH hs (x.letter-1).toNat x hx (by omega) lt a (by simp only[aW] at b;omega);exact⟨y,hy,by omega,h6⟩
theorem eX {l:List Issue} {lets:List Int} {d:Int} (h:l6 l=0) (hl:w9 l lets=true) (hd:d∈nums l):v7 l lets d∈l/\(v7 l lets d).drawing=d/\∃ (k:Nat) (lt:Int),(nums l)[k]?=some d/\lets[k]?=some lt/\p6 l d lt=some (v7 l lets d):=by
 simp only[w9,Bool.and_eq_true,decide_eq_true_eq] at hl;obtain⟨h1,h2⟩:=hl;obtain⟨hlt,_⟩:=E4 h;obtain⟨k,hk⟩:=List.mem_iff_getElem?.1 hd;have hnd:(nums l).Nodup:=hlt.imp λh=>Int.ne_of_lt h;have hkl:=e7 hk;have hy:lets[k]?=some lets[k]:=by simp[h1,hkl]
 have hz:((nums l).zip lets)[k]?=some (d,lets[k]):=by
  rw[List.getElem?_zip_eq_some];exact⟨hk,hy⟩
 have hok:=List.all_eq_true.1 h2 _ (List.mem_of_getElem? hz);simp only[eo,Bool.and_eq_true,decide_eq_true_eq] at hok;have hf:=(eC h d lets[k]).2 hok;obtain⟨y,hy'⟩:=Option.isSome_iff_exists.1 hf;have ht:v7 l lets d=y:=by
  simp only[v7,jL hnd hk,Int.toNat_natCast,hy,Option.getD_some,hy']
 obtain⟨a,b,_⟩:=oU hy';rw[ht];exact⟨a,b,k,lets[k],hk,hy,hy'⟩
theorem lP {l:List Issue} {lets:List Int} {d:Int} (h:l6 l=0) (hl:w9 l lets=true) (hd:d∈nums l):∀ y∈(v7 l lets d).items,y.drawing∈dJ l d:=by
 obtain⟨h1,h2,_⟩:=eX h hl hd;intro y hy;simp only[dJ,List.mem_flatMap,List.mem_map,dV,List.mem_filter,decide_eq_true_eq];exact⟨_,⟨h1,h2⟩,y,hy,rfl⟩
end Go.Proofs
namespace Go.Ab
open Go
def H2 (m:List (Int×Bool)):List (List Value×List DC):=m.map λp=>(kI p.1,[.im (rB p.2)])
def dF (n:Int):List (Int×Bool)->Option Bool
 | []=>none
 | p :: r=>if p.1=n then some p.2 else dF n r
def vi (n:Int) (v:Bool):List (Int×Bool)->List (Int×Bool)
 | []=>[(n,v)]
 | p :: r=>if p.1=n then (n,v) :: r else p :: vi n v r
theorem mX (n k:Int) (v:Bool):∀ m,dF k (vi n v m)=if n=k then some v else dF k m
 | []=>by simp[vi,dF]
 | p :: r=>by
   have ih:=mX n k v r;simp only[vi];split
   ·rename_i h;simp only[dF];split
    ·rfl
    ·rename_i h2;rw[if_neg (by omega)]
   ·rename_i h;simp only[dF,ih];split
    ·rename_i h2;rw[if_neg (by omega)]
    ·rfl
@[simp] theorem La (m:List (Int×Bool)) (n:Int):P8 [.int .i64 n] (H2 m) [.im (.raw (.bool false))]=[.im (.raw (.bool ((dF n m).getD false)))]:=by
 induction m with
 | nil=>rfl
 | cons p r ih =>
   have e:H2 (p :: r)=(kI p.1,[.im (rB p.2)]) :: H2 r:=rfl;rw[e];simp only[P8,U2,dF,bn,decide_eq_true_eq] at ih ⊢;split
   ·rfl
   ·exact ih
@[simp] theorem KW (m:List (Int×Bool)) (n:Int):kO [.int .i64 n] (H2 m)=(dF n m).isSome:=by
 induction m with
 | nil=>rfl
 | cons p r ih =>
   have e:H2 (p :: r)=(kI p.1,[.im (rB p.2)]) :: H2 r:=rfl;rw[e];simp only[kO,U2,dF,bn,decide_eq_true_eq] at ih ⊢;split
   ·rfl
   ·exact ih
@[simp] theorem KV (m:List (Int×Bool)) (n:Int) (v:Bool):T6 [.int .i64 n] [.im (.raw (.bool v))] (H2 m)=H2 (vi n v m):=by
 induction m with
 | nil=>rfl
 | cons p r ih =>
   have e:H2 (p :: r)=(kI p.1,[.im (rB p.2)]) :: H2 r:=rfl;rw[e];simp only[T6,vi,bn,decide_eq_true_eq] at ih ⊢;split
   ·rfl
   ·rw[ih];rfl
@[simp] theorem IF (m:List (Int×Bool)):(H2 m).length=m.length:=by simp[H2]
@[simp] theorem JI (n:Nat) (objs:List DObj) (m:List (Int×Bool)):((H2 m).map λx=>(x.1,x.2.map (fz n objs)))=H2 m:=by
 simp[H2,fz,DC.lt]
@[simp] theorem JD (e:Nat->Nat) (m:List (Int×Bool)):((H2 m).map λx=>(x.1,rnL e x.2))=H2 m:=by
 simp[H2,rnL,jw]
section
variable {P:Program} {G:MF}
theorem CallE.embed_ex {ι:Type} {f:FuncId} {args args0:List DV} {objs objs0:List DObj} {p:ι->Prop} {o1:ι->List DObj} {d0:ι->DV} {Q:DV->List DObj->Prop} {t:Tok Q} (es:List Nat) (h:DCall P G f args0 objs0 (λd o=>∃ i,p i/\d=d0 i/\o=o1 i))
 (ha:args0.map (kM (v6 es objs.length))=args) (hl:es.length=objs0.length) (hnd:es.Nodup) (hes:∀ x∈es,x<objs.length)
 (hobj:∀ i d,objs0[i]?=some d->objs[v6 es objs.length i]?=some (dC (v6 es objs.length) d)) (hq:∀ i,p i->Q (kM (v6 es objs.length) (d0 i)) (o6 es objs (o1 i))):CallE P G f args objs Q t:=by
 subst ha;refine(DCall.embed es h hl hnd hes hobj).mono λd o ⟨d',o',⟨i,hp,h1,h2⟩,_,h3,h4⟩=>?_;subst h1;subst h2;subst h3;subst h4;exact hq i hp
end
def l5 (l:List Int):List Int:=l.mergeSort λx y=>decide (x<=y)
theorem O9 (l:List Int):(l5 l).length=l.length:=by simp[l5]
@[simp] theorem KO (e:Nat->Nat) (l:List (List IC)):(l7 l).map (rnL e)=l7 l:=by
 simp only[l7,List.map_map];exact List.map_congr_left λx _=>by simp[gp]
@[simp] theorem KI (n o:Nat):v6 [] n o=n+o:=by simp[v6]
attribute [simp] kM jw rnL rnVL dC iA
def yN (L:List Int) (off len:Nat):List Int:=L.take off++(List.replicate len 0++L.drop (off+len))
theorem sE {L:List Int} {off len:Nat} (h:off+len<=L.length):(yN L off len).length=L.length:=by simp[yN];omega
@[simp] theorem IG (L:List Int) (off len:Nat):R0 (l7 (L.map encI)) off len (.im (.raw (.int .i64 0)))=l7 ((yN L off len).map encI):=by
 simp only[R0,yN,l7,List.map_append,List.map_take,List.map_drop,List.map_replicate];rfl
theorem QCall.thaw {P:Program} {G:MF} {f:FuncId} {args args0:List DV} {d0:DV} {objs:List DObj} {K:DV->Prop} {t:Tok K} (h:∀ objs,DCall P G f args0 objs (λd o=>d=d0/\o=objs)) (ha:args0=args.map (gC 0 objs)) (hd:FlV d0) (hk:K d0):QCall P G f args objs K t:=
 ⟨d0,DCall.thaw h ha hd,hk⟩
end Go.Ab
namespace Go.Proofs
open Go Go.Ab
variable {G:MF}
def Q8 (tk:Int->Issue):Nat->Int->Int->List (Int×Int)
 | 0,_,_=>[]
 | k+1,d,m=>if 1<(tk d).kind then [(d,m)] else (tk d).items.flatMap λy=>Q8 tk k y.drawing (IntKind.i64.wrap (m*y.count))
def Io (ns:List Int) (C:List Int) (p:Int×Int):List Int:=C.set (idx ns p.1).toNat (IntKind.i64.wrap ((C[(idx ns p.1).toNat]?).getD 0+p.2))
def In (ns:List Int) (C:List Int) (lv:List (Int×Int)):List Int:=lv.foldl (Io ns) C
def Kk (l:List Issue) (lets:List Int) (d:Int):List Int:=In (nums l) (List.replicate (nums l).length 0) (Q8 (v7 l lets) 6 d 1)
def mg (l:List Issue) (lets:List Int) (d:Int):List Itm:=(((nums l).zip (Kk l lets d)).filter λp=>decide (0<p.2)).map λp=>⟨p.1,p.2⟩
end Go.Proofs
namespace Go.Ab
open Go
def Lz:Issue:=⟨0,0,0,[],[]⟩
def K5 (m:List (Int×Issue)) (n:Int):Issue:=match m with
 | []=>Lz
 | p :: r=>if p.1=n then p.2 else K5 r n
def fS (n:Int) (v:Issue):List (Int×Issue)->List (Int×Issue)
 | []=>[(n,v)]
 | p :: r=>if p.1=n then (n,v) :: r else p :: fS n v r
def K0 (m:List (Int×Issue)):List (List Value×List DC):=m.map λp=>(kI p.1,(e8 p.2).map .im)
def eH (m:List (Int×Issue)):List (List Value×List IC):=m.map λp=>(kI p.1,e8 p.2)
theorem gG (p:Int×Issue) (r:List (Int×Issue)):K0 (p :: r)=(kI p.1,(e8 p.2).map .im) :: K0 r:=rfl
@[simp] theorem KA (m:List (Int×Issue)) (n:Int):P8 [.int .i64 n] (K0 m) [.im (.raw (.int .i64 0)),.im (.raw (.int .i64 0)),.im (.raw (.int .u8 0)),.im (.sl []),.im (.sl [])]=(e8 (K5 m n)).map .im:=by
 induction m with
 | nil=>rfl
 | cons p r ih =>
   rw[gG];simp only[P8,U2,K5,bn,decide_eq_true_eq] at ih ⊢;split
   ·rfl
   ·exact ih
theorem Bp (m:List (Int×Issue)) (n:Int) (v:Issue):T6 [.int .i64 n] ((e8 v).map .im) (K0 m)=K0 (fS n v m):=by
 induction m with
 | nil=>rfl
 | cons p r ih =>
   rw[gG];simp only[T6,fS,bn,decide_eq_true_eq] at ih ⊢;split
   ·rfl
   ·rw[ih];rfl
@[simp] theorem Kz (m:List (Int×Issue)) (n a b k:Int) (i:List Itm) (d:List Dim):T6 [.int .i64 n] [.im (.raw (.int .i64 a)),.im (.raw (.int .i64 b)),.im (.raw (.int .u8 k)),.im (.sl (i.map A1)),.im (.sl (d.map D3))] (K0 m)=K0 (fS n ⟨a,b,k,i,d⟩ m):=Bp m n ⟨a,b,k,i,d⟩
@[simp] theorem IE (m:List (Int×Issue)):(K0 m).length=m.length:=by simp[K0]
@[simp] theorem Fc (m:List (Int×Issue)):gz (eH m)=K0 m:=by simp[gz,eH,K0]
@[simp] theorem KB (k n:Nat) (objs:List DObj) (m:List (Int×Issue)):E9 (λx:List Value×List DC=>(E9 (frz (k+1) n objs) x.2).map λl=>(x.1,l)) (K0 m)=some (eH m):=by
 induction m with
 | nil=>rfl
 | cons p r ih =>
   rw[gG,E9,ih,lj];rfl
@[simp] theorem Iy (n:Nat) (objs:List DObj) (m:List (Int×Issue)):((K0 m).map λx=>(x.1,x.2.map (fz n objs)))=K0 m:=by
 simp[K0,fz,DC.lt]
theorem jC {n:Int} {v:Issue}:∀ {m:List (Int×Issue)},n∉m.map (·.1)->fS n v m=m++[(n,v)]
 | [],_=>rfl
 | p :: r,h=>by
   rw[List.map_cons,List.mem_cons,not_or] at h;rw[fS,if_neg (Ne.symm h.1),jC h.2];rfl
theorem W6 (f:Int->Issue):∀ (ns:List Int) (n:Int),K5 (ns.map λd=>(d,f d)) n=if n∈ns then f n else Lz
 | [],n=>by simp[K5]
 | d :: ns,n=>by
   rw[List.map_cons,K5,W6 f ns n];by_cases h:d=n
   ·subst h;simp
   ·rw[if_neg h];simp[Ne.symm h]
@[simp] theorem Mg (e:Nat->Nat) (m:List (Int×Int)):((P3 m).map λx=>(x.1,rnL e x.2))=P3 m:=by
 simp[P3,rnL,jw]
@[simp] theorem LB (e:Nat->Nat) (m:List (Int×Issue)):((K0 m).map λx=>(x.1,rnL e x.2))=K0 m:=by
 simp only[K0,List.map_map];exact List.map_congr_left λx _=>by simp only[Function.comp,gp]
@[simp] theorem Mf (e:Nat->Nat) (m:List Int):((J8 m).map λx=>(x.1,rnL e x.2))=J8 m:=by
 simp[J8,rnL,jw]
end Go.Ab
namespace Go.Ab
open Go
@[simp] theorem Ka (m:List (Int×Issue)):(eH m).map (λx=>(x.1,x.2.map DC.im))=K0 m:=Fc m
@[simp] theorem KF (m:List (Int×Int)):(ba m).map (λx=>(x.1,x.2.map DC.im))=P3 m:=HC m
@[simp] theorem KE (m:List Int):(sh m).map (λx=>(x.1,x.2.map DC.im))=J8 m:=HB m
end Go.Ab
namespace Go.Proofs
open Go Go.Ab Tryz
variable {G:MF}
def bP (l:List Issue) (lets:List Int):List (Int×Issue):=(nums l).map λd=>(d,v7 l lets d)
theorem DG {l:List Issue} {lets:List Int} {k:Nat} (h:l6 l=0) (hk:k<(nums l).length) (hk2:k<lets.length) (hf:(p6 l (nums l)[k] lets[k]).isSome=false):w9 l lets=false:=by
 have hn:¬ eo l ((nums l)[k],lets[k])=true:=λhok=>by
  simp only[eo,Bool.and_eq_true,decide_eq_true_eq] at hok;rw[(eC h _ _).2 hok] at hf;cases hf
 simp only[w9,Bool.and_eq_false_iff];refine .inr ?_;rw[<- Bool.not_eq_true,List.all_eq_true];intro hall;refine hn (hall _ (List.mem_iff_getElem?.2 ⟨k,?_⟩));rw[List.getElem?_zip_eq_some];exact⟨by simp[hk],by simp[hk2]⟩
theorem Ad {l:List Issue} {lets:List Int} (h:l6 l=0) (he:lets.length=(nums l).length) (hall:∀ (k:Nat) (h1:k<(nums l).length) (h2:k<lets.length),(p6 l (nums l)[k] lets[k]).isSome=true):w9 l lets=true:=by
 simp only[w9,Bool.and_eq_true,decide_eq_true_eq,List.all_eq_true];refine⟨he,λp hp=>?_⟩;obtain⟨k,hk⟩:=List.mem_iff_getElem?.1 hp;rw[List.getElem?_zip_eq_some] at hk;obtain⟨h1,e1⟩:=List.getElem?_eq_some_iff.1 hk.1;obtain⟨h2,e2⟩:=List.getElem?_eq_some_iff.1 hk.2;have:=(eC h _ _).1 (hall k h1 h2);rw[e1,e2] at this;simp only[eo,Bool.and_eq_true,decide_eq_true_eq];exact this
theorem vW {l:List Issue} {lets:List Int} {k:Nat} (hnd:(nums l).Nodup) (hk:k<(nums l).length) (hk2:k<lets.length):v7 l lets (nums l)[k]=(p6 l (nums l)[k] lets[k]).getD K4:=by
 have h1:(nums l)[k]?=some (nums l)[k]:=by simp[hk]
 have h2:lets[k]?=some lets[k]:=by simp[hk2]
 simp only[v7,jL hnd h1,Int.toNat_natCast,h2,Option.getD_some]
def C1 (l:List Issue) (lets:List Int) (d:Int):Int:=if l6 l≠0 then l6 l else if w9 l lets=false then 22 else if d∈nums l then 0 else 6
def bR (l:List Issue) (lets:List Int) (d:Int):List DV:=if C1 l lets d=0 then [.one (.im (A3 l (nums l))),.one (.im (.mp [.int .i64] (eH (bP l lets)))),iv 0] else [.one (.im (.raw (.pointer none))),.one (.im (.raw (.map none))),iv (C1 l lets d)]
theorem wS (l:List Issue) (lets:List Int) (d:Int):∀ x∈bR l lets d,ImV x:=by unfold bR;split<;>simp[A3]
@[simp] abbrev Qt:List Nat:=[0,1,2,3,6,7,8,9,10,11,12,13,14,21,30,33,34,35,55,64]
@[simp] abbrev Yb:List Nat:=[0,1,2,3,6,7,8,9,10,11,12,13,14,21,30,33,34,35,37,38,39,40,41,42,43,44,45,46,47,48,49,50,51,52,55,64]
theorem AE (l:List Issue) (lets:List Int) (d:Int) (hG:p5 G) (hs:X3 l) (hll:lets.length<1000000) (objs:List DObj):DCall prog G 311 [H0 l,v8 lets,iv d] objs (λrr objs'=>rr=.tup (bR l lets d)/\objs'=objs):=by
 refine DCall.frame ?_ (by simp) (by simpa using wS l lets d) objs;refine g9 func311 rfl ntmps311 (by simp) rfl ?_;simp only[H0,v8,iv];have c1:=iC l hG hs;by_cases h0:l6 l=0
 ·simp only[cK,h0,if_true] at c1;have hnd:(nums l).Nodup:=(E4 h0).1.imp λh=>Int.ne_of_lt h;have hnl:(nums l).length<=l.length:=w5 l l.length;have hl80:=hs.1;have hsort:=dt h0;by_cases he:lets.length=(nums l).length
  ·have he':(lets.length:Int)=((nums l).length:Int):=by omega
   simp only[A3] at c1;have hs:=he';repeat' first|(with_reducible first|refine zz ?_|refine zE Qt ?_)|simp -dsimp[hs]|refine zp c1 ?_|refine i9 ?_ ?_<;>intro h<;>try exact h.elim
   all_goals try clear hs
   refine i6 (ι:={ k:Nat // k<=lets.length/\∀ (i:Nat) (h1:i<(nums l).length) (h2:i<lets.length),i<k->(p6 l (nums l)[i] lets[i]).isSome=true }) (λp=>⟨67,[(1,v8 lets),(2,iv d),(6,.one (.im (.raw (.pointer none)))),(7,.one (.im (.raw (.map none)))),(8,iv 0),(9,.one (.im (A3 l (nums l)))),(11,.one (.map 1)),(33,iv (lets.length:Int)),(34,iv (p.1:Int))],[.row [.im (.sl (l.map e8))],.map [.int .i64] (K0 (((nums l).take p.1).map λd=>(d,v7 l lets d)))]⟩) (λp=>lets.length-p.1) ⟨0,by simp⟩ (zv [1,2,6,7,8,9,11,33,34] (by simp[A3,K0];omega)) ?_;rintro⟨k,hk,hall⟩;simp only[iv,v8];by_cases hlt:k<lets.length
   ·have hkn:k<(nums l).length:=by omega
    have hx:(nums l)[k]?=some (nums l)[k]:=by simp[hkn]
    have hy:lets[k]?=some lets[k]:=by simp[hlt]
    have hw:=zk k;have c2:=wB (G:=G) l (nums l) (nums l)[k] lets[k] hsort (by omega);have hta:=vW hnd hkn hlt;cases hf:p6 l (nums l)[k] lets[k] with
    | none =>
      have hE:C1 l lets d=22:=by simp[C1,h0,DG h0 hkn hlt (by rw[hf];rfl)]
      simp only[hf,E0,A3,Option.isSome_none,Option.getD_none] at c2;simp only[A3];have hs:=za hx (za hy (za hlt (za hkn hw)));repeat' first|(with_reducible first|refine zz ?_|refine zr ?_)|simp -dsimp[hs]|refine zq c2 ?_|refine F9 (id:=10) (nt:=67) 18 [16] Yb Qt mixed rfl (by kernel_rfl) ?_|with_reducible refine zE Qt ?_|refine i9 ?_ ?_<;>intro h<;>try exact h.elim
      all_goals try clear hs
      all_goals simp[bR,hE]
    | some y =>
      rw[hf,Option.getD_some] at hta;obtain⟨hym,hyd,_⟩:=oU hf;simp only[hf,E0,A3,Option.isSome_some,Option.getD_some] at c2;simp only[A3];have hmp:fS (nums l)[k] y (((nums l).take k).map λd=>(d,v7 l lets d))=(((nums l).take (k+1)).map λd=>(d,v7 l lets d)):=by
       rw[jC,List.take_succ_eq_append_getElem hkn,List.map_append,List.map_singleton,hta];rw[List.map_map];intro hm;obtain⟨z,hz,e⟩:=List.mem_map.1 hm;simp only[Function.comp] at e;subst e;obtain⟨i,hi,e⟩:=List.mem_take_iff_getElem.1 hz;have:=(List.getElem_inj hnd).1 e;omega
      rw[<- hyd] at hmp;have hmp':fS y.drawing ⟨y.drawing,y.letter,y.kind,y.items,y.dims⟩ (((nums l).take k).map λd=>(d,v7 l lets d))=(((nums l).take (k+1)).map λd=>(d,v7 l lets d)):=hmp;simp only[List.map_take] at hmp';have hfin:∀ (i:Nat) (h1:i<(nums l).length) (h2:i<lets.length),i<k+1->(p6 l (nums l)[i] lets[i]).isSome=true:=λi h1 h2 hi=>by
       by_cases e:i=k
       ·subst e;rw[hf];rfl
       ·exact hall i h1 h2 (by omega)
      have hs:=za hx (za hy (za hlt (za hkn hw)));repeat' first|with_reducible refine zz ?_|simp -dsimp[hs]|refine zq c2 ?_|refine F9 (id:=10) (nt:=67) 18 [16] Yb Qt mixed rfl (by kernel_rfl) ?_|with_reducible refine zE Qt ?_|refine i9 ?_ ?_<;>intro h<;>try exact h.elim
      all_goals try clear hs
      exact zn ⟨k+1,by omega,hfin⟩ (zw [1,2,6,7,8,9,11,33,34] 2 (by simp[A3,hmp']))
   ·have hlet:=Ad h0 he λi h1 h2=>hall i h1 h2 (by omega);have htk:(nums l).take k=nums l:=List.take_of_length_le (by omega);have c3:=BX (G:=G) l (nums l) d ((E4 h0).1.imp λh=>Int.le_of_lt h) (by omega);have hE:C1 l lets d=if d∈nums l then 0 else 6:=by simp[C1,h0,hlet]
    simp only[A3] at c3;rw[htk];by_cases hd:d∈nums l
    ·rw[if_pos hd] at hE;simp only[hd,decide_true] at c3;simp only[A3];have hs:=hlt;repeat' first|(with_reducible first|refine zz ?_|refine zr ?_|refine zE Qt ?_)|simp -dsimp[hs]|refine zp c3 ?_|refine i9 ?_ ?_<;>intro h<;>try exact h.elim
     all_goals try clear hs
     simp[bR,hE,bP,A3]
    ·rw[if_neg hd] at hE;simp only[hd,decide_false] at c3;simp only[A3];have hs:=hlt;repeat' first|(with_reducible first|refine zz ?_|refine zr ?_|refine zE Qt ?_)|simp -dsimp[hs]|refine zp c3 ?_|refine i9 ?_ ?_<;>intro h<;>try exact h.elim
     all_goals try clear hs
     simp[bR,hE]
  ·have he':¬ (lets.length:Int)=((nums l).length:Int):=by omega
   have hE:C1 l lets d=22:=by
    have:w9 l lets=false:=by simp[w9,he]
    simp[C1,h0,this]
   simp only[A3] at c1;have hs:=he';repeat' first|(with_reducible first|refine zz ?_|refine zr ?_|refine zE Qt ?_)|simp -dsimp[hs]|refine zp c1 ?_|refine i9 ?_ ?_<;>intro h<;>try exact h.elim
   all_goals try clear hs
   simp[bR,hE]
 ·have hE:C1 l lets d=l6 l:=by simp[C1,h0]
  simp only[cK,h0,if_false] at c1;have hs:=h0;repeat' first|(with_reducible first|refine zz ?_|refine zr ?_|refine zE Qt ?_)|simp -dsimp[hs]|refine zp c1 ?_|refine i9 ?_ ?_<;>intro h<;>try exact h.elim
  all_goals try clear hs
  simp[bR,hE,h0]
def kX (m:List (Int×Int)) (lv:List (Int×Int)):List (Int×Int):=lv.foldl (λm p=>P2 p.1 (IntKind.i64.wrap (n7 m p.1+p.2)) m) m
def iU (by':List (Int×Issue)) (cnt:List (Int×Int)):List DObj:=[.row [.im (.mp [.int .i64] (eH by'))],.map [.int .i64] (P3 cnt),.row [.map 1],.row [.fn (.func 312) [.ptr 0 0,.ptr 2 0,.ptr 3 0]]]
@[simp] abbrev QZ:List Nat:=[0,1,2,3,4,7,9,15,22,23,24,25]
theorem uK (l:List Issue) (lets:List Int) (h0:l6 l=0) (hlet:w9 l lets=true) (dep:Int->Int) (hdep:∀ n∈nums l,1<=dep n/\dep n<=6/\∀ c∈dJ l n,c∈nums l/\dep c<dep n) :
 ∀ (k:Nat) (d m:Int) (cnt:List (Int×Int)),d∈nums l->dep d<=k ->
  DCall prog G 312 [iv d,iv m,.one (.ptr 0 0),.one (.ptr 2 0),.one (.ptr 3 0)] (iU (bP l lets) cnt)
   (λr o=>r=.tup []/\o=iU (bP l lets) (kX cnt (Q8 (v7 l lets) k d m))):=by
 intro k;induction k with
 | zero=>intro d m C hd hk;have:=(hdep d hd).1;omega
 | succ k ih =>
   intro d m cnt hd hk;have hti:=lP h0 hlet hd;obtain⟨htm,_,_⟩:=eX h0 hlet hd;have htok:=(P6 (N6 (J3 h0))).2.2.2.1 _ htm;have hsm:=fW htok;have hkd:(v7 l lets d).kind=1\/(2<=(v7 l lets d).kind/\(v7 l lets d).items.length=0):=by
    simp only[o7,Bool.and_assoc] at htok;rw[<- Bool.and_assoc,Bool.and_eq_true] at htok;have:=(eO _).1 htok.1;omega
   have hch:=(hdep d hd).2.2;have hE:Q8 (v7 l lets) (k+1) d m=if 1<(v7 l lets d).kind then [(d,m)] else (v7 l lets d).items.flatMap λy=>Q8 (v7 l lets) k y.drawing (IntKind.i64.wrap (m*y.count)):=rfl;have hlook:K5 (bP l lets) d=v7 l lets d:=by rw[bP,W6,if_pos hd]
   generalize v7 l lets d=x at *;refine DCall.drop ?_;refine g9 func312 rfl ntmps312 (by simp) rfl ?_;simp only[iU,iv];by_cases hkind:x.kind=1
   ·rw[if_neg (by omega)] at hE;have hs:=za hlook hkind;repeat' first|(with_reducible first|refine zz ?_|refine zE QZ ?_)|simp -dsimp[hs]|refine i9 ?_ ?_<;>intro h<;>try exact h.elim
    refine i6 (ι:={ p:Nat×List (Int×Int) // p.1<=x.items.length/\kX cnt (x.items.flatMap λy=>Q8 (v7 l lets) k y.drawing (IntKind.i64.wrap (m*y.count)))=kX p.2 ((x.items.drop p.1).flatMap λy=>Q8 (v7 l lets) k y.drawing (IntKind.i64.wrap (m*y.count))) }) (λp=>⟨37,[(1,iv m),(2,.one (.ptr 0 0)),(3,.one (.ptr 2 0)),(4,.one (.ptr 3 0)),(22,.one (.im (.sl (x.items.map A1)))),(23,iv (x.items.length:Int)),(24,iv (p.1.1:Int))],iU (bP l lets) p.1.2⟩) (λp=>x.items.length-p.1.1) ⟨(0,cnt),by simp⟩ (zw [1,2,3,4,22,23,24] 4 (by simp[iU])) ?_;rintro⟨⟨u,cnt'⟩,hu,hadd⟩;simp only at hu hadd;simp only[iv,iU];by_cases hlt:u<x.items.length
    ·have hx:x.items[u]?=some x.items[u]:=by simp[hlt]
     have hw:=zk u;have hc:=hch _ (hti x.items[u] (List.getElem_mem hlt));have hrec:=ih x.items[u].drawing (IntKind.i64.wrap (m*x.items[u].count)) cnt' hc.1 (by omega);rw[List.drop_eq_getElem_cons hlt,List.flatMap_cons,kX,kX,List.foldl_append] at hadd;simp only[iv,iU] at hrec;have hs:=za hx (za hw hlt);repeat' first|(with_reducible first|refine zz ?_|refine zE QZ ?_)|simp -dsimp[hs]|refine CallE.embed [0,1,2,3] (hrec) ?_ ?_ ?_ ?_ ?_ ?_;(focus simp[v6];done);(focus simp;done);(focus simp;done);(focus simp;done);(focus refine o9 ?_;simp[v6,s8];done);try simp -dsimp[o6,v6,hs]|refine i9 ?_ ?_<;>intro h<;>try exact h.elim
     exact zn ⟨(u+1,kX cnt' (Q8 (v7 l lets) k x.items[u].drawing (IntKind.i64.wrap (m*x.items[u].count)))),by omega,hadd⟩ (zw [1,2,3,4,22,23,24] 4 (by simp[iU]))
    ·rw[List.drop_eq_nil_of_le (by omega)] at hadd;have hs:=hlt;repeat' first|(with_reducible first|refine zz ?_|refine ze ?_|refine zE QZ ?_)|simp -dsimp[hs]|refine i9 ?_ ?_<;>intro h<;>try exact h.elim|with_reducible refine And.intro ?_ ?_
     rw[hE,hadd];simp[iU,kX]
   ·rw[if_pos (by omega)] at hE;have hz:x.items.length=0:=by omega
    have hs:=za hlook (za hkind hz);repeat' first|(with_reducible first|refine zz ?_|refine zE QZ ?_)|simp -dsimp[hs]|refine i9 ?_ ?_<;>intro h<;>try exact h.elim
    refine i6 (ι:=Unit) (λ_=>⟨37,[(23,iv 0),(24,iv 0)],iU (bP l lets) (kX cnt [(d,m)])⟩) (λ_=>0) () (zw [23,24] 4 (by simp[iU,kX])) ?_;intro _;simp only[iv,iU];have hs:=trivial;repeat' first|(with_reducible first|refine zz ?_|refine ze ?_|refine zE QZ ?_)|simp -dsimp[hs]|refine i9 ?_ ?_<;>intro h<;>try exact h.elim|with_reducible refine And.intro ?_ ?_
    rw[hE]
def nK (l:List Issue) (lets:List Int) (d:Int):List (Int×Int):=kX [] (Q8 (v7 l lets) 6 d 1)
def N0 (ns:List Int) (m:List (Int×Int)):List Itm:=(ns.filter λn=>decide (0<n7 m n)).map λn=>⟨n,n7 m n⟩
def cG (l:List Issue) (lets:List Int) (d:Int):List Itm:=if C1 l lets d=0 then N0 (nums l) (nK l lets d) else []
@[simp] abbrev Wa:List Nat:=[0,1,2,3,6,7,8,9,10,11,12,13,15,25,35,36,37,38,44]
theorem yw (l:List Issue) (lets:List Int) (d:Int) (hG:p5 G) (hs:X3 l) (hll:lets.length<1000000):zP prog G 299 [H0 l,v8 lets,iv d] (.tup [.one (.im (.sl ((cG l lets d).map A1))),iv (C1 l lets d)]):=by
 refine zf func299 ntmps299 ?_;try simp only[H0,v8,iv]
 have c1:=AE (G:=G) l lets d hG hs hll;by_cases hE:C1 l lets d=0
 ·have h0:l6 l=0:=by
   by_cases h:l6 l=0
   ·exact h
   ·simp[C1,h] at hE
  have hlet:w9 l lets=true:=by
   cases h:w9 l lets
   ·simp[C1,h0,h] at hE
   ·rfl
  have hd:d∈nums l:=Classical.byContradiction λh=>by simp[C1,h0,hlet,h] at hE
  obtain⟨dep,hdep⟩:=ss h0;have c2:=uK (G:=G) l lets h0 hlet dep hdep 6 d 1 [] hd (by have:=(hdep d hd).2.1;omega);have hR:cG l lets d=N0 (nums l) (nK l lets d):=by simp[cG,hE]
  have hnl:(nums l).length<=l.length:=w5 l l.length;have hl80:=hs.1;change DCall _ _ _ _ _ (λr o=>r=.tup []/\o=iU (bP l lets) (nK l lets d)) at c2;generalize nK l lets d=cnt at *;simp only[bR,hE,if_true,A3] at c1;simp only[iv,iU,show P3 []=[] from rfl] at c2;generalize nums l=ns at *;have hs:=trivial;repeat' first|(with_reducible first|refine zz ?_|refine zE Wa ?_)|simp -dsimp[hs]|refine zp c1 ?_|refine CallE.embed [2,3,4,5] (c2) ?_ ?_ ?_ ?_ ?_ ?_;(focus simp[v6];done);(focus simp;done);(focus simp;done);(focus simp;done);(focus refine o9 ?_;simp[v6,s8];done);try simp -dsimp[o6,v6,hs]|refine i9 ?_ ?_<;>intro h<;>try exact h.elim
  all_goals try clear hs
  refine i6 (ι:={ p:Nat×Nat×Bool×List Itm // p.1<=ns.length/\p.2.2.2.length<=p.1/\N0 ns cnt=p.2.2.2++N0 (ns.drop p.1) cnt }) (λp=>⟨55,[(11,.one (.ptr 4 0)),(13,.one (.vec 6 p.1.2.1 0 p.1.2.2.2.length)),(35,v8 ns),(36,iv (ns.length:Int)),(37,iv (p.1.1:Int))],[.row [.im (.sl (l.map e8))],.vec 2 [] 0 true,.row [.im (.mp [.int .i64] (eH (bP l lets)))],.map [.int .i64] (P3 cnt),.row [.map 3],.row [.fn (.func 312) [.ptr 2 0,.ptr 4 0,.ptr 5 0]],.vec 2 (l7 (p.1.2.2.2.map A1)) p.1.2.1 p.1.2.2.1]⟩) (λp=>ns.length-p.1.1) ⟨(0,0,true,[]),by simp⟩ (zv [11,13,35,36,37]) ?_;rintro⟨⟨k,g,nl,out⟩,hk,hol,hp⟩;simp only at hk hol hp;simp only[iv,v8];by_cases hlt:k<ns.length
  ·have hx:ns[k]?=some ns[k]:=by simp[hlt]
   have hw:=zk k;rw[List.drop_eq_getElem_cons hlt] at hp;by_cases hpos:0<n7 cnt ns[k]
   ·rw[N0,N0,List.filter_cons_of_pos (by simpa using hpos),List.map_cons] at hp;have hs:=za hx (za hw (za hlt hpos));repeat' first|(with_reducible first|refine zz ?_|refine And.intro (by omega) ?_|refine zE Wa ?_)|simp -dsimp[hs]|refine i9 ?_ ?_<;>intro h<;>try exact h.elim
    all_goals try clear hs
    all_goals try omega
    exact zn ⟨(k+1,g+1,false,out++[⟨ns[k],n7 cnt ns[k]⟩]),by omega,by simp;omega,by rw[N0,hp,N0];simp⟩ (zw [11,13,35,36,37] 7)
   ·rw[N0,N0,List.filter_cons_of_neg (by simpa using hpos)] at hp;have hs:=za hx (za hw (za hlt hpos));repeat' first|(with_reducible first|refine zz ?_|refine zE Wa ?_)|simp -dsimp[hs]|refine i9 ?_ ?_<;>intro h<;>try exact h.elim
    all_goals try clear hs
    exact zn ⟨(k+1,g,nl,out),by omega,by show out.length<=k+1;omega,hp⟩ (zv [11,13,35,36,37])
  ·rw[List.drop_eq_nil_of_le (by omega)] at hp;have hs:=hlt;repeat' first|(with_reducible first|refine zz ?_|refine zr ?_|refine zE Wa ?_)|simp -dsimp[hs]|refine i9 ?_ ?_<;>intro h<;>try exact h.elim
   all_goals try clear hs
   all_goals try omega
   rw[hR,hp];simp[N0,hE]
 ·have hR:cG l lets d=[]:=by simp[cG,hE]
  simp only[bR,hE,if_false] at c1;have hs:=hE;repeat' first|(with_reducible first|refine zz ?_|refine zr ?_|refine zE Wa ?_)|simp -dsimp[hs]|refine zp c1 ?_|refine i9 ?_ ?_<;>intro h<;>try exact h.elim
  all_goals try clear hs
  simp[hR]
end Go.Proofs
namespace Go.Ab
open Go
structure Link where
 drawing:Int
 dim:Int
 back:Bool
 deriving DecidableEq
structure ChLoop where
 links:List Link
 lo:Int
 hi:Int
 deriving DecidableEq
structure Chains where
 reg:List Issue
 lets:List Int
 of:Int
 loops:List ChLoop
 deriving DecidableEq
def H3 (x:Link):List IC:=[rI x.drawing,rI x.dim,rB x.back]
def H9 (x:ChLoop):List IC:=[.sl (x.links.map H3),rI x.lo,rI x.hi]
def T0 (c:Chains):List IC:=[.sl (c.reg.map e8),.sl (c.lets.map encI),rI c.of,.sl (c.loops.map H9)]
def BA (x:Link):DV:=.agg ((H3 x).map .im)
def mu (x:ChLoop):DV:=.agg ((H9 x).map .im)
def DE (c:Chains):DV:=.agg ((T0 c).map .im)
attribute [simp] H3 H9 T0 BA mu DE
end Go.Ab
namespace Go.Proofs
open Go Go.Ab
variable {G:MF}
theorem yd (x lo hi:Int):DCall Tryz.prog G 216 (iv x :: [DC.ptr 0 0,DC.ptr 1 0].map .one) [.row [.im (rI lo)],.row [.im (rI hi)]] (λd o=>d=bv (decide (x<lo)||decide (hi<x))/\o=[.row [.im (rI lo)],.row [.im (rI hi)]]):=by
 refine g9 Tryz.func216 rfl Tryz.ntmps216 (by simp) rfl ?_;simp only[rI];have hs:=trivial;repeat' first|(with_reducible first|refine zz ?_|refine zr ?_|refine zE [0,1,2,4] ?_)|simp -dsimp[hs]|with_reducible refine j0 ?_ ?_<;>intro h<;>have h0:=h<;>(try simp only[i7] at h)<;>have h2:=h<;>(try simp at h2)<;>replace hs:=za h0 (za h (za h2 hs))|with_reducible refine And.intro ?_ ?_
 all_goals try clear hs
 all_goals simp[*]
theorem cC (lo hi:Int) (l:List Int) (hl:l.length<1000000):zP Tryz.prog G 168 [iv lo,iv hi,v8 l] (bv (l.all λx=>decide (lo<=x)&&decide (x<=hi))):=by
 refine zf Tryz.func168 Tryz.ntmps168 ?_;try simp only[iv,iv,v8]
 have hc:=D4 (G:=G) l (λx=>decide (x<lo)||decide (hi<x)) 216 [.ptr 0 0,.ptr 1 0] [.row [.im (rI lo)],.row [.im (rI hi)]] (by simp) (λx _=>yd x lo hi) hl;simp only[rI] at hc;repeat' first|(with_reducible first|refine zz ?_|refine zx ?_|refine zE [0,1,2,3,4,6] ?_)|simp -dsimp|refine CallE.here hc ?_
 rw[Bool.eq_iff_iff];simp;exact exists_congr λx=>and_congr_right λ_=>by omega
def L3 (c:Chains) (D:List (Int×Int)) (B:List (Int×Issue)):IC:=.ip [.sl (c.reg.map e8),.sl (c.lets.map encI),rI c.of,.sl (c.loops.map H9),.mp [.int .i64] (ba D),.mp [.int .i64] (eH B)]
def vg (x:ChLoop):Bool:=decide (1<=x.links.length)&&decide (x.links.length<=8)
def sH (x:ChLoop):Bool:=(decide (-8000000000<=x.lo)&&decide (x.lo<=8000000000))&&(decide (-8000000000<=x.hi)&&decide (x.hi<=8000000000))&&decide (x.lo<=x.hi)
def Z8 (D:List (Int×Int)) (B:List (Int×Issue)):List (Int×Int)->List Link->Bool
 | _,[]=>true
 | U,y :: r=>decide (n7 U y.drawing+1<=n7 D y.drawing)&&(decide (0<=y.dim)&&decide (y.dim<=((K5 B y.drawing).dims.length:Int)-1))&&Z8 D B (P2 y.drawing (n7 U y.drawing+1) U) r
theorem Ie (d:IC) (x:ChLoop):zP Tryz.prog G 372 [.one (.im d),mu x] (bv (vg x)):=by
 refine zf Tryz.func372 Tryz.ntmps372 ?_;try simp only[mu]
 have c1:=cC (G:=G) 1 8 [(x.links.length:Int)] (by simp);repeat' first|(with_reducible first|refine zz ?_|refine zx ?_|refine zE [1,3,4] ?_)|simp -dsimp|refine zt c1 ?_ ?_ ?_;(focus simp;done);focus (simp;done)
 rw[Bool.eq_iff_iff];simp[vg];omega
theorem CA (x:ChLoop):sH x=true↔-8000000000<=x.lo/\x.lo<=8000000000/\-8000000000<=x.hi/\x.hi<=8000000000/\x.lo<=x.hi:=by
 simp[sH];omega
theorem Id (d:IC) (x:ChLoop):zP Tryz.prog G 373 [.one (.im d),mu x] (bv (sH x)):=by
 refine zf Tryz.func373 Tryz.ntmps373 ?_;try simp only[mu]
 have c1:=cC (G:=G) (-8000000000) 8000000000 [x.lo,x.hi] (by simp);have hi:=CA x;cases hq:([x.lo,x.hi].all λy=>decide (-8000000000<=y)&&decide (y<=8000000000))
 ·rw[hq] at c1;repeat' first|(with_reducible first|refine zz ?_|refine zx ?_|refine zE [1,3,4] ?_)|simp -dsimp|refine zt c1 ?_ ?_ ?_;(focus simp;done);focus (simp;done)
  all_goals simp at hq
  all_goals exact eG hi (by omega)
 ·rw[hq] at c1;repeat' first|(with_reducible first|refine zz ?_|refine zx ?_|refine zE [1,3,4] ?_)|simp -dsimp|refine zt c1 ?_ ?_ ?_;(focus simp;done);focus (simp;done)
  all_goals simp at hq
  all_goals rw[Bool.eq_iff_iff,hi]
  all_goals simp
  all_goals omega
@[simp] abbrev QA:List Nat:=[0,1,3,4,5,7,10,11,12,13,48]
theorem Ic (c:Chains) (D:List (Int×Int)) (B:List (Int×Issue)) (x:ChLoop) (hl:x.links.length<1000000) (hB:∀ n,(K5 B n).dims.length<1000000):zP Tryz.prog G 374 [.one (.im (L3 c D B)),mu x] (bv (Z8 D B [] x.links)):=by
 refine zf Tryz.func374 Tryz.ntmps374 ?_;try simp only[mu]
 simp only[L3];have hs:=trivial;repeat' first|(with_reducible first|refine zz ?_|refine zE QA ?_)|simp -dsimp[hs]
 refine i6 (ι:={ p:Nat×List (Int×Int) // p.1<=x.links.length/\Z8 D B [] x.links=Z8 D B p.2 (x.links.drop p.1)/\bd p.2 p.1 }) (λp=>⟨50,[(0,.one (.im (L3 c D B))),(5,.one (.map 1)),(10,.one (.im (.sl (x.links.map H3)))),(11,iv (x.links.length:Int)),(12,iv (p.1.1:Int))],[.row ((H9 x).map .im),.map [.int .i64] (P3 p.1.2)]⟩) (λp=>x.links.length-p.1.1) ⟨(0,[]),by simp[bd]⟩ (zv [0,5,10,11,12] (by simp[L3,P3])) ?_;rintro⟨⟨k,U⟩,hk,hu,hb⟩;simp only at hk hu hb;simp only[iv,L3];by_cases hlt:k<x.links.length
 ·have hx:x.links[k]?=some x.links[k]:=by simp[hlt]
  have hw:=zk k;have hbl:=wC hb x.links[k].drawing;have hwu:IntKind.i64.wrap (n7 U x.links[k].drawing+1)=n7 U x.links[k].drawing+1:=p9 (by omega) (by omega);have hput:n7 (P2 x.links[k].drawing (n7 U x.links[k].drawing+1) U) x.links[k].drawing=n7 U x.links[k].drawing+1:=by rw[aG,if_pos rfl]
  have hBn:=hB x.links[k].drawing;have hwd:IntKind.i64.wrap (((K5 B x.links[k].drawing).dims.length:Int)-1)=((K5 B x.links[k].drawing).dims.length:Int)-1:=p9 (by omega) (by omega);have c1:=cC (G:=G) 0 (((K5 B x.links[k].drawing).dims.length:Int)-1) [x.links[k].dim] (by simp);have hbn:bd (P2 x.links[k].drawing (n7 U x.links[k].drawing+1) U) (k+1):=vp (fC hb (by omega)) (by omega) (by omega);rw[List.drop_eq_getElem_cons hlt,Z8] at hu;by_cases hle:n7 U x.links[k].drawing+1<=n7 D x.links[k].drawing
  ·rw[decide_eq_true hle,Bool.true_and] at hu;cases hq:([x.links[k].dim].all λy=>decide (0<=y)&&decide (y<=((K5 B x.links[k].drawing).dims.length:Int)-1))
   ·rw[hq] at c1;have hq':(decide (0<=x.links[k].dim)&&decide (x.links[k].dim<=((K5 B x.links[k].drawing).dims.length:Int)-1))=false:=by simpa using hq
    rw[hq',Bool.false_and] at hu;have hs:=za hx (za hw (za hlt (za hwu (za hput (za hwd hle)))));repeat' first|(with_reducible first|refine zz ?_|refine zr ?_)|simp -dsimp[hs]|refine zq c1 ?_|refine zM 6 50 28 QA ?_|with_reducible refine zE QA ?_|refine i9 ?_ ?_<;>intro h<;>try exact h.elim
    rw[hu]
   ·rw[hq] at c1;have hq':(decide (0<=x.links[k].dim)&&decide (x.links[k].dim<=((K5 B x.links[k].drawing).dims.length:Int)-1))=true:=by simpa using hq
    rw[hq',Bool.true_and] at hu;have hs:=za hx (za hw (za hlt (za hwu (za hput (za hwd hle)))));repeat' first|with_reducible refine zz ?_|simp -dsimp[hs]|refine zq c1 ?_|refine zM 6 50 28 QA ?_|with_reducible refine zE QA ?_|refine i9 ?_ ?_<;>intro h<;>try exact h.elim
    exact zn ⟨(k+1,P2 x.links[k].drawing (n7 U x.links[k].drawing+1) U),by omega,hu,hbn⟩ (zw [0,5,10,11,12] 2 (by simp[L3]))
  ·rw[decide_eq_false hle,Bool.false_and,Bool.false_and] at hu;have hs:=za hx (za hw (za hlt (za hwu (za hput (za hwd hle)))));repeat' first|(with_reducible first|refine zz ?_|refine zr ?_)|simp -dsimp[hs]|refine zM 6 50 28 QA ?_|with_reducible refine zE QA ?_|refine i9 ?_ ?_<;>intro h<;>try exact h.elim
   rw[hu]
 ·rw[List.drop_eq_nil_of_le (by omega)] at hu;have hs:=hlt;repeat' first|(with_reducible first|refine zz ?_|refine zr ?_|refine zE QA ?_)|simp -dsimp[hs]|refine i9 ?_ ?_<;>intro h<;>try exact h.elim
  rw[hu];rfl
end Go.Proofs
