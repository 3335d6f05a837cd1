/- Part 14 of the proofs. -/
import Derived.Test.YtlmlkkoapahmjaaGreatDoorRows
import Derived.Test.YtlmlkkoapahmjaaGreatDoorR08
import Derived.Test.YtlmlkkoapahmjaaGreatDoorR10
import Derived.Test.YtlmlkkoapahmjaaGreatDoorR12
import Derived.Test.YtlmlkkoapahmjaaGreatDoorR13
set_option linter.all false
set_option maxHeartbeats 100000000
namespace Go.Ab
open Go
theorem rq {α:Type} {enc:α->List IC} {ok:α->Prop}:∀ (es:List (List IC)),(∀ x∈es,∃ a,ok a/\x=enc a)->∃ xs:List α,(∀ x∈xs,ok x)/\es=xs.map enc
 | [],_=>⟨[],by simp,rfl⟩
 | e :: es,h=>by
   obtain⟨a,ha,rfl⟩:=h e (by simp);obtain⟨xs,hx,rfl⟩:=rq es λx hx=>h x (by simp[hx]);exact⟨a :: xs,by simpa using⟨ha,hx⟩,rfl⟩
theorem Opens.sliceOf {P:Program} {t e:TypeId} {α:Type} {enc:α->List IC} {ok:α->Prop} {sz:Nat} (ht:P.underlying t=some (.slice e)) (hc:P.cellsOf e=sz) (h0:0<sz) (hl:∀ x,(enc x).length=sz) (he:Opens P e (λl=>∃ x,ok x/\l=enc x)) :
 Opens P t (λl=>∃ xs:List α,(∀ x∈xs,ok x)/\l=[.sl (xs.map enc)]):=
 (Opens.slice ht hc h0 he (by rintro l ⟨x,_,rfl⟩;exact hl x)).mono (by
  rintro l ⟨es,h,rfl⟩;obtain⟨xs,h1,rfl⟩:=rq es h;exact⟨xs,h1,rfl⟩)
def fX (x:Issue):Prop:=0<=x.kind/\x.kind<=255
end Go.Ab
namespace Go.Proofs
open Go Go.Ab
def Rd (t:TypeId) {α:Type} (enc:α->List IC) (ok:α->Prop):Prop:=Opens Tryz.prog t (λl=>∃ x,ok x/\l=enc x)
theorem oInt:Opens Tryz.prog 3 (λl=>∃ n:Int,l=[rI n]):=(Opens.int Tryz.underlying3).mono (by rintro l ⟨n,_,rfl⟩;exact⟨n,rfl⟩)
theorem IG:Opens Tryz.prog 5 (λl=>∃ n:Int,(0<=n/\n<=255)/\l=[.raw (.int .u8 n)]):=(Opens.int Tryz.underlying5).mono (by
 rintro l ⟨n,hn,rfl⟩;exact⟨n,by simpa[IntKind.min,IntKind.max,IntKind.signed,IntKind.bits] using hn,rfl⟩)
theorem FC:Opens Tryz.prog 4 (λl=>∃ b:Bool,l=[rB b]):=Opens.bool Tryz.underlying4
theorem Ir:Rd 3 encI (λ_=>True):=oInt.mono (by rintro l ⟨n,rfl⟩;exact⟨n,trivial,rfl⟩)
theorem xi {α:Type} {l:List α} (h:l.length=2):∃ a b,l=[a,b]:=by
 match l,h with
 | [a,b],_=>exact⟨a,b,rfl⟩
theorem Ee {α:Type} {l:List α} (h:l.length=3):∃ a b c,l=[a,b,c]:=by
 match l,h with
 | [a,b,c],_=>exact⟨a,b,c,rfl⟩
theorem Jj {α:Type} {l:List α} (h:l.length=4):∃ a b c d,l=[a,b,c,d]:=by
 match l,h with
 | [a,b,c,d],_=>exact⟨a,b,c,d,rfl⟩
theorem Ji {α:Type} {l:List α} (h:l.length=5):∃ a b c d e,l=[a,b,c,d,e]:=by
 match l,h with
 | [a,b,c,d,e],_=>exact⟨a,b,c,d,e,rfl⟩
def Av {α:Type} (d:α) (a b c:α):Nat->α|0=>a|1=>b|2=>c|_=>d
def Fz {α:Type} (z:α) (a b c d e:α):Nat->α|0=>a|1=>b|2=>c|3=>d|4=>e|_=>z
theorem Gl:Rd 145 A2 (λ_=>True):=(Opens.struct Tryz.underlying145 (by kernel_rfl) (λ_ l=>∃ n:Int,l=[rI n]) (λi f hf=>by
 rcases i with _|_|i<;>simp at hf<;>subst hf<;>exact oInt)).mono (by
 rintro l ⟨ls,h1,h2,rfl⟩;obtain⟨a,b,rfl⟩:=xi h1;obtain⟨x,rfl⟩:=h2 0 a rfl;obtain⟨y,rfl⟩:=h2 1 b rfl;exact⟨⟨x,y⟩,trivial,rfl⟩)
theorem Is:Rd 99 D5 (λ_=>True):=(Opens.struct Tryz.underlying99 (by kernel_rfl) (λ_ l=>∃ n:Int,l=[rI n]) (λi f hf=>by
 rcases i with _|_|_|i<;>simp at hf<;>subst hf<;>exact oInt)).mono (by
 rintro l ⟨ls,h1,h2,rfl⟩;obtain⟨a,b,c,rfl⟩:=Ee h1;obtain⟨x,rfl⟩:=h2 0 a rfl;obtain⟨y,rfl⟩:=h2 1 b rfl;obtain⟨z,rfl⟩:=h2 2 c rfl;exact⟨⟨x,y,z⟩,trivial,rfl⟩)
theorem GB:Opens Tryz.prog 146 (λl=>∃ xs:List Itm,l=[.sl (xs.map A2)]):=
 (Opens.sliceOf Tryz.underlying146 (sz:=2) (by kernel_rfl) (by decide) (λ_=>rfl) Gl).mono (by rintro l ⟨xs,_,h⟩;exact⟨xs,h⟩)
theorem IL:Opens Tryz.prog 147 (λl=>∃ xs:List Dim,l=[.sl (xs.map D5)]):=
 (Opens.sliceOf Tryz.underlying147 (sz:=3) (by kernel_rfl) (by decide) (λ_=>rfl) Is).mono (by rintro l ⟨xs,_,h⟩;exact⟨xs,h⟩)
theorem FB:Opens Tryz.prog 43 (λl=>∃ xs:List Int,l=[.sl (xs.map encI)]):=
 (Opens.sliceOf Tryz.underlying43 (sz:=1) (by kernel_rfl) (by decide) (λ_=>rfl) Ir).mono (by rintro l ⟨xs,_,h⟩;exact⟨xs,h⟩)
theorem Dx:Rd 149 e9 fX:=(Opens.struct Tryz.underlying149 (by kernel_rfl) (Fz (λ_=>True) (λl=>∃ n:Int,l=[rI n]) (λl=>∃ n:Int,l=[rI n]) (λl=>∃ n:Int,(0<=n/\n<=255)/\l=[.raw (.int .u8 n)]) (λl=>∃ xs:List Itm,l=[.sl (xs.map A2)]) (λl=>∃ xs:List Dim,l=[.sl (xs.map D5)])) (λi f hf=>by
 rcases i with _|_|_|_|_|i<;>simp at hf<;>subst hf
 ·exact oInt
 ·exact oInt
 ·exact IG
 ·exact GB
 ·exact IL)).mono (by
 rintro l ⟨ls,h1,h2,rfl⟩;obtain⟨a,b,c,d,e,rfl⟩:=Ji h1;obtain⟨x,rfl⟩:=h2 0 a rfl;obtain⟨y,rfl⟩:=h2 1 b rfl;obtain⟨z,hz,rfl⟩:=h2 2 c rfl;obtain⟨u,rfl⟩:=h2 3 d rfl;obtain⟨v,rfl⟩:=h2 4 e rfl;exact⟨⟨x,y,z,u,v⟩,hz,rfl⟩)
theorem Gx:Opens Tryz.prog 22 (λl=>∃ xs:List Issue,(∀ x∈xs,fX x)/\l=[.sl (xs.map e9)]):=
 Opens.sliceOf Tryz.underlying22 (sz:=5) (by kernel_rfl) (by decide) (λ_=>rfl) Dx
theorem II:Opens Tryz.prog 24 (λl=>∃ xs:List Issue,(∀ x∈xs,fX x)/\l=[.sl (xs.map e9)]):=(Opens.struct Tryz.underlying24 (by kernel_rfl) (λ_ l=>∃ xs:List Issue,(∀ x∈xs,fX x)/\l=[.sl (xs.map e9)]) (λi f hf=>by
 rcases i with _|i<;>simp at hf<;>subst hf<;>exact Gx)).mono (by
 rintro l ⟨ls,h1,h2,rfl⟩;obtain⟨a,rfl⟩:=List.length_eq_one_iff.1 h1;obtain⟨x,hx,rfl⟩:=h2 0 a rfl;exact⟨x,hx,rfl⟩)
theorem T8 {P:Program} {W:World} {t e te n:Nat} {f:Field} {ps rs:Array TypeId} {cs:Array Value} {fuel:Nat} {p:List MemPlace} {names:List (List UInt8)} {fs:List FuncId} (ht:P.underlying t=some (.array n e)) (hte:P.underlying e=some (.struct #[f])) (hf0:f.offset=0) (hft:f.type=te) (hu:P.underlying te=some (.func ps rs false)) (hce:P.cellsOf e=1) (hcf:P.cellsOf te=1) (hn:names.length=n)
 (hfs:(names.zip fs).all (λx=>x.1≠[]/\((List.range P.funcs.size).filter λf=>(P.funcs[f]?).any (·.name.toUTF8.data.toList==x.1))=[x.2])=true) (hl:fs.length=n)
 (h:DataW.trod (funcToken P) P W 0 (λ_=>true) true fuel t cs.toList=some (.agg (names.map λx=>.agg [.held x]),p)):∀ (j:Nat) (g:FuncId),fs[j]?=some g->cs[j]?=some (.func (.func g) #[] #[]):=by
 obtain⟨xs,m,_,ex,hlen,hxl,hel⟩:=DataW.trod_array ht h;intro j g hg;have hj:j<n:=by rw[<- hl];exact e7 hg
 have hE:=hel j hj;rw[hce,Nat.mul_one] at hE;have hx:xs[j]?=some xs[j]:=by simp[hxl,hj]
 rw[hx] at hE;obtain⟨ys,m2,_,ey,hlen2,hyl,hel2⟩:=DataW.trod_struct hte hE;have hE2:=hel2 0 f rfl;have hyl1:ys.length=1:=by simpa using hyl
 obtain⟨y,rfl⟩:=List.length_eq_one_iff.1 hyl1;rw[hf0,hft,hcf] at hE2;have hcl:j<cs.size:=by
  rcases Nat.lt_or_ge j cs.size with h1|h1
  ·exact h1
  ·simp[hce] at hlen2;omega
 have hc1:((cs.toList.drop j).take 1)=[cs[j]]:=by
  rw[List.drop_eq_getElem_cons (by simpa using hcl)];simp
 rw[hc1] at hE2;simp only[List.drop_zero,List.take_succ_cons,List.getElem?_cons_zero,List.take_nil] at hE2;have hnm:names[j]?=some names[j]:=by simp[hn,hj]
 have e1:(xs.map (·.1))[j]?=(names.map λx=>DataW.agg [DataW.held x])[j]?:=by rw[(DataW.agg.inj (Prod.mk.inj ex).1)]
 rw[List.getElem?_map,List.getElem?_map,hx,hnm,ey] at e1;simp only[Option.map_some,Option.some.injEq,DataW.agg.injEq,List.map_cons,List.map_nil,List.cons.injEq,and_true] at e1;have hall:=List.all_eq_true.1 hfs (names[j],g) (List.mem_iff_getElem?.2 ⟨j,by rw[List.getElem?_zip_eq_some];exact⟨hnm,hg⟩⟩);simp only[decide_eq_true_eq] at hall;cases hnj:names[j] with
 | nil=>exact absurd hnj hall.1
 | cons b r =>
   rw[hnj] at hall e1;have:=func_of_trod (f0:=g) (q:=y.2) hu hall.2 (by rw[hE2,<- e1]);rw[Array.getElem?_eq_getElem hcl,this]
end Go.Proofs
namespace Go.Proofs
open Go Go.Ab
theorem rX {l:List Issue} (h:j8 l=0):∃ dep:Int->Int,∀ n∈nums l,1<=dep n/\dep n<=6/\∀ c∈dw l n,c∈nums l/\dep c<dep n:=by
 have hL:u4 l=true:=by
  cases hL:u4 l
  ·simp[j8,hL] at h
  ·rfl
 have h2:¬ Z1 (D9 l) > (D9 l).length:=λhg=>by simp[j8,hL,hg] at h
 have h6:¬ Z1 (D9 l) > 6:=λhg=>by simp[j8,hL,h2,hg] at h
 have hsc:=hL;simp only[u4,Bool.and_eq_true] at hsc;obtain⟨ds,hds⟩:=Option.isSome_iff_exists.1 hsc.1.1.2;obtain⟨e,hlt,_,_,_⟩:=P0 hds;have hall:=hsc.1.2;rw[<- e] at hall;have hnd:ds.Nodup:=hlt.imp λh=>Int.ne_of_lt h;have hch:∀ n∈ds,∀ c∈dw l n,c∈ds:=λn _ c hc=>by
  simp only[dw,List.mem_flatMap,List.mem_map] at hc;obtain⟨x,hx,y,hy,rfl⟩:=hc;have:=List.all_eq_true.1 (List.all_eq_true.1 hall x (List.mem_filter.1 hx).1) y hy;simpa using this
 have e1:∀ n∈ds,Rr l (ds.length+1) n<=ds.length:=λn hn=>Int.not_lt.1 λhg=>h2 (by
  have:=(kK (Rr l (ds.length+1)) ds ds.length (by omega)).2 ⟨n,hn,hg⟩;simpa[D9,<- e] using this)
 have e2:∀ n∈ds,Rr l (ds.length+1) n<=6:=λn hn=>Int.not_lt.1 λhg=>h6 (by
  have:=(kK (Rr l (ds.length+1)) ds 6 (by omega)).2 ⟨n,hn,hg⟩;simpa[D9,<- e] using this)
 have h0:DInv l ds ([],ik ds):=by
  rw[mb hnd];exact⟨hnd,λn h=>h,by simp,by simp,λn h h'=>absurd h h'⟩
 obtain⟨hi,_⟩:=gj hch ds.length _ h0;change DInv l ds (p9 l ds) at hi;obtain⟨d1,d2⟩:=iP hnd hch;have hz:(p9 l ds).2.length=0:=by
  refine Nat.eq_zero_of_not_pos λhp=>?_;obtain⟨n,hn,hg⟩:=d1.1 hp;have:=e1 n hn;omega
 have hempty:∀ n,n∉(p9 l ds).2:=λn=>by rw[List.length_eq_zero_iff.1 hz];simp
 refine⟨n7 (p9 l ds).1,λn hn=>?_⟩;rw[<- e] at hn;obtain⟨a,b,c⟩:=hi.val n hn (hempty n);have hn1:=c (ds.length+1) (by omega);refine⟨a,by have:=e2 n hn;omega,λm hm=>?_⟩;have hmd:=hch n hn m hm;obtain⟨a',b',c'⟩:=hi.val m hmd (hempty m);have hm1:=c' ds.length (by omega);have hle:=oa (f:=Rr l ds.length) hm;have hr:Rr l (ds.length+1) n=1+mx (Rr l ds.length) (dw l n):=rfl;exact⟨by rw[<- e];exact hmd,by omega⟩
open Go Go.Ab Tryz
variable {G:LY}
theorem wo (n lo hi:Int):zP prog G 288 [iv n,iv lo,iv hi] (bv (decide (lo<=n)&&decide (n<=hi))):=by
 refine zf func288 ntmps288 ?_;try simp only[iv,iv,iv]
 have hs:=trivial;repeat' first|(with_reducible first|refine zz ?_|refine zr ?_|refine zE [0,1,2,6] ?_)|simp -dsimp[hs]|with_reducible refine j0 ?_ ?_<;>intro h<;>have h0:=h<;>(try simp only[i7] at h)<;>have h2:=h<;>(try simp at h2)<;>replace hs:=za h0 (za h (za h2 hs))
 all_goals try clear hs
 all_goals simp[*]
theorem an (d:Dim):J9 d=true↔0<=d.nominal/\d.nominal<=1000000000/\0<=d.upper/\d.upper<=1000000000/\0<=d.lower/\d.lower<=d.upper:=by
 simp[J9];omega
theorem ei {b:Bool} {p:Prop} (h:b=true↔p) (hn:¬ p):b=false:=by
 cases b
 ·rfl
 ·exact absurd (h.1 rfl) hn
theorem Dd {b:Bool} {p:Prop} (h:b=true↔p) (hn:p):b=true:=h.2 hn
theorem JG (d:Dim):zP prog G 280 [iO d] (bv (J9 d)):=by
 refine zf func280 ntmps280 ?_;try simp only[iO]
 have hs:=trivial;repeat' first|(with_reducible first|refine zz ?_|refine zr ?_|refine zE [0,1,2] ?_)|simp -dsimp[hs]|refine zp (wo (G:=G) _ _ _) ?_|with_reducible refine j0 ?_ ?_<;>intro h<;>have h0:=h<;>(try simp only[i7] at h)<;>have h2:=h<;>(try simp at h2)<;>replace hs:=za h0 (za h (za h2 hs))
 ·rw[Bool.eq_iff_iff,an];simp;omega
 ·exact ei (an d) (by omega)
 ·exact ei (an d) (by omega)
theorem eu (x:Issue):(BR x&&CT x)=true↔1<=x.drawing/\x.drawing<=9999/\1<=x.letter/\x.letter<=8/\(x.kind=1/\1<=x.items.length/\x.items.length<=8/\x.dims.length=0\/2<=x.kind/\x.kind<=3/\x.dims.length<=4/\x.items.length=0):=by
 unfold BR CT;split
 ·simp only[Bool.and_eq_true,decide_eq_true_eq];omega
 ·simp only[Bool.and_eq_true,decide_eq_true_eq];omega
theorem pH {d:Int} {l:List Itm} {k:Nat} (hlt:k<l.length) (hno:G0 d 0 l=G0 d (pv l k) (l.drop k)) :
 G0 d 0 l=true↔(1<=l[k].drawing/\l[k].drawing<=9999/\1<=l[k].count/\l[k].count<=20/\l[k].drawing≠d/\pv l k<l[k].drawing)/\G0 d (pv l (k+1)) (l.drop (k+1))=true:=by
 have hx:l[k]?=some l[k]:=by simp[hlt]
 have hpv1:pv l (k+1)=l[k].drawing:=by simp[pv,hx]
 rw[hno,List.drop_eq_getElem_cons hlt,G0,hpv1];simp only[Bool.and_eq_true,decide_eq_true_eq,Bool.not_eq_true',decide_eq_false_iff_not];constructor
 ·rintro⟨⟨⟨⟨⟨a,b⟩,c,d⟩,e⟩,f⟩,g⟩;exact⟨⟨a,b,c,d,e,f⟩,g⟩
 ·rintro⟨⟨a,b,c,d,e,f⟩,g⟩;exact⟨⟨⟨⟨⟨a,b⟩,c,d⟩,e⟩,f⟩,g⟩
theorem J2 {b c:Bool} {p:Prop} (h:b=true↔p/\c=true) (hp:p):b=c:=by
 rw[Bool.eq_iff_iff,h];exact⟨λh=>h.2,λh=>⟨hp,h⟩⟩
theorem F4 {b c:Bool} {p:Prop} (h:b=true↔p/\c=true) (hp:¬ p):b=false:=ei h λh=>hp h.1
theorem cu {α:Type} {f:α->Bool} {l:List α} {k:Nat} (hlt:k<l.length) (hno:l.all f=(l.drop k).all f):l.all f=true↔f l[k]=true/\(l.drop (k+1)).all f=true:=by
 rw[hno,List.drop_eq_getElem_cons hlt,List.all_cons,Bool.and_eq_true]
@[simp] abbrev Qw:List Nat:=[0,1,2,3,4,5,57,62,102,107,116]
theorem Ek (x:Issue) (hk:0<=x.kind/\x.kind<=255) (hl:x.items.length<1000000) (hd:x.dims.length<1000000):zP prog G 267 [N3 x] (bv (o5 x)):=by
 refine zf func267 ntmps267 ?_;try simp only[N3]
 have hw:IntKind.i64.wrap x.kind=x.kind:=o7 (by omega) (by omega);have h12:=eu x;generalize hA:(BR x&&CT x)=A at h12;have hs:=hw;repeat' first|(with_reducible first|refine zz ?_|refine zr ?_|refine zE Qw ?_)|simp -dsimp[hs]|refine zp (dy (G:=G) _ _ _) ?_|refine i8 ?_ ?_<;>intro h<;>try exact h.elim|with_reducible refine j0 ?_ ?_<;>intro h<;>have h0:=h<;>(try simp only[i7] at h)<;>have h2:=h<;>(try simp at h2)<;>replace hs:=za h0 (za h (za h2 hs))
 all_goals try clear hs
 all_goals first
  | (have hA2 : A = false := ei h12 (by clear h12 hA hw; omega)
     rw[hA2] at hA;simp[o5,hA];done)
  | have hA2:A=true:=Dd h12 (by clear h12 hA hw;omega)
    rw[hA2] at hA;clear h12 hA2;refine i6 (ι:={ k:Nat // k<=x.items.length/\G0 x.drawing 0 x.items=G0 x.drawing (pv x.items k) (x.items.drop k) }) (λp=>⟨117,[(1,.one (.ptr 0 0)),(2,bv false),(3,iv (p.1:Int))],[.row ((e9 x).map .im)]⟩) (λp=>x.items.length-p.1) ⟨0,by simp[pv]⟩ (zv [1,2,3] (by clear hA;simp_all)) ?_;clear hw;rintro⟨k,hk,hno⟩;simp only[iv,e9,rI,List.map_cons,List.map_nil]
 all_goals
  by_cases hlt:k<x.items.length
  ·have hx:x.items[k]?=some x.items[k]:=by simp[hlt]
   have hw:=zk k;have hst:=pH hlt hno;by_cases hk0:0<k
   ·have hkx:x.items[k-1]?=some x.items[k-1]:=by simp
    have hw3:IntKind.i64.wrap ((k:Int)-1)=((k-1:Nat):Int):=by rw[o7 (by omega) (by omega)];omega
    have hpv0:pv x.items k=x.items[k-1].drawing:=by
     obtain⟨j,rfl⟩:∃ j,k=j+1:=⟨k-1,by omega⟩
     have:x.items[j]?=some x.items[j]:=by simp
     simp[pv,this]
    rw[hpv0] at hst;have hs:=za hx (za hw (za hw3 (za hkx (za hk0 hlt))));repeat' first|(with_reducible first|refine zz ?_|refine zr ?_)|simp -dsimp[hs]|refine zq (dy (G:=G) _ _ _) ?_|refine zM 7 117 33 Qw ?_|with_reducible refine zE Qw ?_|refine i8 ?_ ?_<;>intro h<;>try exact h.elim|with_reducible refine j0 ?_ ?_<;>intro h<;>have h0:=h<;>(try simp only[i7] at h)<;>have h2:=h<;>(try simp at h2)<;>replace hs:=za h0 (za h (za h2 hs))
    all_goals try clear hs
    all_goals first
     | (have hf:=F4 hst (by omega);simp[o5,hf];done)
     | exact zn ⟨k+1,by omega,J2 hst (by omega)⟩ (zw [1,2,3] 1)
   ·obtain rfl:k=0:=by omega
    rw[show pv x.items 0=0 from rfl] at hst;have hs:=za hx (za hw (za hk0 hlt));repeat' first|(with_reducible first|refine zz ?_|refine zr ?_)|simp -dsimp[hs]|refine zq (dy (G:=G) _ _ _) ?_|refine zM 7 117 33 Qw ?_|with_reducible refine zE Qw ?_|refine i8 ?_ ?_<;>intro h<;>try exact h.elim|with_reducible refine j0 ?_ ?_<;>intro h<;>have h0:=h<;>(try simp only[i7] at h)<;>have h2:=h<;>(try simp at h2)<;>replace hs:=za h0 (za h (za h2 hs))
    all_goals try clear hs
    all_goals first
     | (have hf:=F4 hst (by omega);simp[o5,hf];done)
     | exact zn ⟨0+1,by omega,J2 hst (by omega)⟩ (zw [1,2,3] 1 (by simp;exact o7 (by omega) (by omega)))
  ·have hit:G0 x.drawing 0 x.items=true:=by rw[hno,List.drop_eq_nil_of_le (by omega)];rfl
   have hs:=hlt;repeat' first|(with_reducible first|refine zz ?_|refine zE Qw ?_)|simp -dsimp[hs]|refine i8 ?_ ?_<;>intro h<;>try exact h.elim
   all_goals try clear hs
   refine i6 (ι:={ k:Nat // k<=x.dims.length/\x.dims.all J9=(x.dims.drop k).all J9 }) (λp=>⟨117,[(1,.one (.ptr 0 0)),(2,bv false),(5,iv (p.1:Int))],[.row ((e9 x).map .im)]⟩) (λp=>x.dims.length-p.1) ⟨0,by simp⟩ (zv [1,2,5]) ?_;rintro⟨j,hj,hdo⟩;simp only[iv,e9,rI,List.map_cons,List.map_nil];by_cases hlj:j<x.dims.length
   ·have hx:x.dims[j]?=some x.dims[j]:=by simp[hlj]
    have hw:=zk j;have hst:=cu hlj hdo;have cd:=JG (G:=G) x.dims[j];have hs:=za hx (za hw hlj);repeat' first|(with_reducible first|refine zz ?_|refine zr ?_|refine zE Qw ?_)|simp -dsimp[hs]|refine zp cd ?_|refine i8 ?_ ?_<;>intro h<;>try exact h.elim
    all_goals try clear hs
    ·simp only[o5,hA,hit,Bool.true_and];exact F4 hst (by rw[‹J9 x.dims[j]=false›];exact Bool.false_ne_true)
    ·exact zn ⟨j+1,by omega,J2 hst ‹J9 x.dims[j]=true›⟩ (zv [1,2,5])
   ·have hdims:x.dims.all J9=true:=by rw[hdo,List.drop_eq_nil_of_le (by omega)];rfl
    have hs:=hlj;repeat' first|(with_reducible first|refine zz ?_|refine zr ?_|refine zE Qw ?_)|simp -dsimp[hs]|refine i8 ?_ ?_<;>intro h<;>try exact h.elim
    all_goals try clear hs
    simp[o5,hA,hit,hdims]
end Go.Proofs
namespace Go.Ab
open Go
@[simp] theorem Kc (L:List Int) (k:Nat) (v:Int):(n3 (L.map encI)).set k [DC.im (.raw (.int .i64 v))]=n3 ((L.set k v).map encI):=by
 simp only[n3,List.map_set,encI,rI,List.map_cons,List.map_nil]
@[simp] theorem Jt (L:List Int) (k:Nat):(n3 (L.map encI))[k]?=(L[k]?).map λv=>[DC.im (.raw (.int .i64 v))]:=by
 simp only[n3,List.getElem?_map,Option.map_map];rfl
@[simp] theorem Js (L:List Int) (k:Nat) (h:k<(n3 (L.map encI)).length):(n3 (L.map encI))[k]=[DC.im (.raw (.int .i64 (L[k]'(by simpa[r8] using h))))]:=by
 simp[n3]
@[simp] theorem JX (n:Nat) (c:IC):List.replicate n [DC.im c]=n3 (List.replicate n [c]):=by simp[n3]
theorem kL {α β:Type} {f:α->β} {c:β} (h:∀ x,f x=c):∀ l:List α,l.map f=List.replicate l.length c
 | []=>rfl
 | x :: l=>by simp[kL h l,h x,List.replicate_succ]
@[simp] theorem Dg (n:Nat) (c:List IC):(n3 (List.replicate n c)).take n=n3 (List.replicate n c):=List.take_of_length_le (by simp[r8])
theorem lV {α β:Type} {f:α->β} {l:List α} {k:Nat} {x:α} {v:β} (hn:l.Nodup) (hk:l[k]?=some x):(l.map f).set k v=l.map (λy=>open Classical in if y=x then v else f y):=by
 refine List.ext_getElem? λj=>?_;obtain⟨hlt,he⟩:=List.getElem?_eq_some_iff.1 hk;by_cases hj:j=k
 ·subst hj;rw[List.getElem?_set_self (by simpa using hlt),List.getElem?_map,hk];simp
 ·rw[List.getElem?_set_ne (Ne.symm hj),List.getElem?_map,List.getElem?_map];cases hy:l[j]? with
  | none=>rfl
  | some y =>
    have:y≠x:=λe=>hj ((List.getElem?_inj (List.getElem?_eq_some_iff.1 hy).1 hn).1 (by rw[hy,hk,e]));simp[this]
end Go.Ab
namespace Go.Proofs
open Go Go.Ab Tryz
variable {G:LY}
def Rp (l:List Issue) (r:Nat) (pre:List Issue) (n:Int):Int:=if pre.any (λx=>decide (x.drawing=n)) then 1+mx (Rr l r) (dw pre n) else 0
def Rq (l:List Issue) (r:Nat) (v:Int) (ys:List Itm):Int:=max (max v 1) (1+mx (Rr l r) (ys.map (·.drawing)))
theorem nM (f:Int->Int) (a b:List Int):mx f (a++b)=max (mx f a) (mx f b):=by
 rw[mx,List.foldl_append];exact bX f b _ (V6 f a)
theorem HM (l:List Issue) (r:Nat) (v:Int):Rq l r v []=max v 1:=by
 have:mx (Rr l r) []=0:=rfl;simp only[Rq,List.map_nil,this];omega
theorem Fi (l:List Issue) (r:Nat) (v:Int) (ys:List Itm) (y:Itm):Rq l r v (ys++[y])=max (Rq l r v ys) (1+Rr l r y.drawing):=by
 have h:=oV l r y.drawing;have:mx (Rr l r) [y.drawing]=Rr l r y.drawing:=by simp only[mx,List.foldl_cons,List.foldl_nil];omega
 simp only[Rq,List.map_append,List.map_cons,List.map_nil,nM,this];omega
theorem Fj (l:List Issue) (r:Nat) (pre:List Issue) (x:Issue) (n:Int):Rp l r (pre++[x]) n=if n=x.drawing then Rq l r (Rp l r pre n) x.items else Rp l r pre n:=by
 by_cases hn:n=x.drawing
 ·subst hn;rw[if_pos rfl];have hc:dw (pre++[x]) x.drawing=dw pre x.drawing++x.items.map (·.drawing):=by simp[dw,dI]
  have h1:=V6 (Rr l r) (dw pre x.drawing);have h2:=V6 (Rr l r) (x.items.map (·.drawing));unfold Rp;rw[if_pos (by simp),hc,nM];unfold Rq;split
  ·omega
  ·rename_i hp;have:dw pre x.drawing=[]:=by
    simp only[dw,dI];rw[List.filter_eq_nil_iff.2 λy hy=>?_]
    ·rfl
    ·intro he;exact hp (List.any_eq_true.2 ⟨y,hy,he⟩)
   have h3:mx (Rr l r) []=0:=rfl;rw[this,h3];omega
 ·rw[if_neg hn];have hc:dw (pre++[x]) n=dw pre n:=by simp[dw,dI,Ne.symm hn]
  unfold Rp;rw[hc];simp[Ne.symm hn]
theorem Fk {l:List Issue} {n:Int} (r:Nat) (h:∃ x∈l,x.drawing=n):Rp l r l n=Rr l (r+1) n:=by
 unfold Rp;obtain⟨x,hx,he⟩:=h;rw[if_pos (List.any_eq_true.2 ⟨x,hx,by simpa using he⟩)];rfl
theorem fE {x:Issue} (h:o5 x=true):x.items.length<=8/\x.dims.length<=4:=by
 simp only[o5,Bool.and_assoc] at h;rw[<- Bool.and_assoc,Bool.and_eq_true] at h;have:=(eu x).1 h.1;omega
theorem rb {l:List Issue} {n:Int} (h:n∈nums l):∃ x∈l,x.drawing=n:=by
 have gen:∀ k,n∈G4 l k->∃ x∈l,x.drawing=n:=by
  intro k;induction k with
  | zero=>intro h;cases h
  | succ k ih =>
    intro h;simp only[G4] at h;rcases List.mem_append.1 h with h|h
    ·exact ih h
    ·split at h
     ·rename_i x hx;split at h
      ·rw[List.mem_singleton] at h;exact⟨x,List.mem_of_getElem? hx,h.symm⟩
      ·cases h
     ·cases h
 exact gen _ h
theorem pB {l:List Issue} (h:u4 l=true):q8 none l=some (nums l):=by
 simp only[u4,Bool.and_eq_true] at h;obtain⟨ds,hds⟩:=Option.isSome_iff_exists.1 h.1.1.2;rw[hds,jl hds]
theorem jB {l:List Int} (hn:l.Nodup) {k:Nat} {x:Int} (h:l[k]?=some x):idx l x=k:=by
 refine vO h λj hj he=>?_;have h1:=(List.getElem?_eq_some_iff.1 h).1;rw[<- he] at h;have:=(List.getElem?_inj h1 hn).1 h;omega
@[simp] abbrev Qx:List Nat:=[0,1,2,3,4,5,6,7,8,9,10,19,29,53]
theorem wF (l:List Issue) (hl:u4 l=true):zP prog G 230 [G8 l] (v6 (D9 l)):=by
 refine zf func230 ntmps230 ?_;try simp only[G8]
 have hli:=hl;simp only[u4,Bool.and_eq_true,decide_eq_true_eq,List.all_eq_true] at hli;obtain⟨⟨⟨⟨hl1,hl60⟩,hsc⟩,hitems⟩,hn20⟩:=hli;have c1:=ju (G:=G) l (by omega);have hD:D9 l=(nums l).map (Rr l ((nums l).length+1)):=rfl;obtain⟨_,hlt',hmem,hok,_⟩:=P0 (pB hl);have hnd:(nums l).Nodup:=hlt'.imp λh=>Int.ne_of_lt h;generalize hns:nums l=ns at *;have hs:=trivial;repeat' first|(with_reducible first|refine zz ?_|refine And.intro (by omega) ?_|refine zE Qx ?_)|simp -dsimp[hs]|refine zp c1 ?_
 refine i6 (ι:={ r:Nat // r<=ns.length+1 }) (λp=>⟨78,[(1,.one (.ptr 0 0)),(3,v6 ns),(4,v6 (ns.map (Rr l p.1))),(5,iv (p.1:Int))],[.row [.im (.sl (l.map e9))]]⟩) (λp=>ns.length+1-p.1) ⟨0,by omega⟩ (zw [1,3,4,5] 1 (by simp[kL (f:=encI ∘ Rr l 0) (c:=[rI 0]) (λ_=>rfl)])) ?_;rintro⟨r,hr⟩;simp only[iv,v6];by_cases hrl:r<=ns.length
 ·have hw:=zk r;have hs:=hrl;repeat' first|(with_reducible first|refine zz ?_|refine And.intro (by omega) ?_|refine zE Qx ?_)|simp -dsimp[hs]|refine i8 ?_ ?_<;>intro h<;>try exact h.elim
  refine i6 (ι:={ p:Nat×List Int // p.1<=l.length/\p.2=ns.map (Rp l r (l.take p.1)) }) (λp=>⟨78,[(1,.one (.ptr 0 0)),(3,v6 ns),(4,v6 (ns.map (Rr l r))),(5,iv (r:Int)),(6,.one (.vec 1 0 0 ns.length)),(7,iv (p.1.1:Int))],[.row [.im (.sl (l.map e9))],.vec 1 (n3 (p.1.2.map encI)) 0 false]⟩) (λp=>l.length-p.1.1) ⟨(0,List.replicate ns.length 0),by omega,(kL (λ_=>rfl) ns).symm⟩ (zv [1,3,4,5,6,7]) ?_;rintro⟨⟨i,L⟩,hi,hL⟩;simp only at hi hL;simp only[iv,v6];by_cases hlt:i<l.length
  ·have hx:l[i]?=some l[i]:=by simp[hlt]
   have hw1:=zk i;obtain⟨k,hk⟩:=List.mem_iff_getElem?.1 (hmem l[i] (List.getElem_mem hlt));have hkl:=e7 hk;have hidx:=jB hnd hk;have c2:=pK (G:=G) ns l[i].drawing (by omega);rw[hidx] at c2;have hLk:L[k]?=some (Rp l r (l.take i) l[i].drawing):=by rw[hL,List.getElem?_map,hk];rfl
   generalize hv:Rp l r (l.take i) l[i].drawing=v at hLk;have hit:=hitems l[i] (List.getElem_mem hlt);have hsm:=(fE (hok l[i] (List.getElem_mem hlt))).1;have hs:=za hx (za hw1 (za hlt (za hkl hLk)));repeat' first|(with_reducible first|refine zz ?_|refine zE Qx ?_)|simp -dsimp[hs]|refine zp c2 ?_|refine i8 ?_ ?_<;>intro h<;>try exact h.elim
   refine i6 (ι:={ p:Nat×List Int // p.1<=l[i].items.length/\p.2=L.set k (Rq l r v (l[i].items.take p.1)) }) (λp=>⟨78,[(1,.one (.ptr 0 0)),(3,v6 ns),(4,v6 (ns.map (Rr l r))),(5,iv (r:Int)),(6,.one (.vec 1 0 0 ns.length)),(7,iv (i:Int)),(8,.one (.ptr 4 0)),(9,iv (k:Int)),(10,iv (p.1.1:Int))],[.row [.im (.sl (l.map e9))],.vec 1 (n3 (p.1.2.map encI)) 0 false,.vec 0 [] 0 true,.vec 0 [] 0 true,.row ((e9 l[i]).map .im)]⟩) (λp=>l[i].items.length-p.1.1) ⟨(0,L.set k (max v 1)),by omega,by simp only[List.take_zero,HM]⟩ (zv [1,3,4,5,6,7,8,9,10]) ?_;rintro⟨⟨u,L'⟩,hu,hL'⟩;simp only at hu hL';simp only[iv,v6,e9,rI,List.map_cons,List.map_nil];have hkL:k<L.length:=e7 hLk;by_cases hlu:u<l[i].items.length
   ·have hy:l[i].items[u]?=some l[i].items[u]:=by simp[hlu]
    have hw2:=zk u;obtain⟨m,hm⟩:=List.mem_iff_getElem?.1 (hit l[i].items[u] (List.getElem_mem hlu));have hml:=e7 hm;have hmn:ns[m]=l[i].items[u].drawing:=(List.getElem?_eq_some_iff.1 hm).2;have hidx2:=jB hnd hm;have c3:=pK (G:=G) ns l[i].items[u].drawing (by omega);rw[hidx2] at c3;have hLk':L'[k]?=some (Rq l r v (l[i].items.take u)):=by rw[hL',List.getElem?_set_self hkL]
    have hb1:=oV l r l[i].items[u].drawing;have hb2:=CD l r l[i].items[u].drawing;have hw3:IntKind.i64.wrap (1+Rr l r l[i].items[u].drawing)=1+Rr l r l[i].items[u].drawing:=o7 (by omega) (by omega);have hnext:L'.set k (max (Rq l r v (l[i].items.take u)) (1+Rr l r l[i].items[u].drawing))=L.set k (Rq l r v (l[i].items.take (u+1))):=by
     rw[List.take_succ_eq_append_getElem hlu,Fi,hL',List.set_set]
    have hs:=za hy (za hw2 (za hlu (za hkl (za hLk' (za hm (za hml (za hmn hw3)))))));repeat' first|with_reducible refine zz ?_|simp -dsimp[hs]|refine zq c3 ?_|refine zM 16 78 20 Qx ?_|with_reducible refine zE Qx ?_|refine i8 ?_ ?_<;>intro h<;>try exact h.elim
    exact zn ⟨(u+1,L'.set k (max (Rq l r v (l[i].items.take u)) (1+Rr l r l[i].items[u].drawing))),by omega,hnext⟩ (zv [1,3,4,5,6,7,8,9,10])
   ·have hend:L'=ns.map (Rp l r (l.take (i+1))):=by
     rw[hL',List.take_of_length_le (by omega),hL,lV hnd hk];refine List.map_congr_left λn _=>?_;rw[List.take_succ_eq_append_getElem hlt,Fj];split
     ·rename_i e;rw[e,hv]
     ·rfl
    have hs:=za hlu hw1;repeat' first|(with_reducible first|refine zz ?_|refine zE Qx ?_)|simp -dsimp[hs]|refine i8 ?_ ?_<;>intro h<;>try exact h.elim
    exact zn ⟨(i+1,L'),by omega,hend⟩ (zw [1,3,4,5,6,7] 2)
  ·have hend:L=ns.map (Rr l (r+1)):=by
    rw[hL,List.take_of_length_le (by omega)];refine List.map_congr_left λn hn=>Fk r ?_;rw[<- hns] at hn;exact rb hn
   have hLn:L.length=ns.length:=by rw[hL,List.length_map]
   have hs:=za hlt hw;repeat' first|(with_reducible first|refine zz ?_|refine zE Qx ?_)|simp -dsimp[hs]|refine i8 ?_ ?_<;>intro h<;>try exact h.elim
   exact zn ⟨r+1,by omega⟩ (zw [1,3,4,5] 1 (by simp[<- hLn];rw[hend];simp))
 ·have hs:=hrl;repeat' first|(with_reducible first|refine zz ?_|refine zr ?_|refine zE Qx ?_)|simp -dsimp[hs]|refine i8 ?_ ?_<;>intro h<;>try exact h.elim
  have hr1:r=ns.length+1:=by omega
  rw[hD,hr1];simp
theorem jn (x:Issue) (r:List Issue):(q8 none (x :: r)).isSome=true↔(o5 x=true/\x.letter=1)/\(q8 (some x) r).isSome=true:=by
 simp only[q8];by_cases h1:o5 x=false
 ·simp[h1]
 ·by_cases h2:x.letter=1
  ·simp[h1,h2]
  ·simp[h1,h2]
theorem jm (y x:Issue) (r:List Issue):(q8 (some y) (x :: r)).isSome=true↔(o5 x=true/\(y.drawing=x.drawing/\y.letter+1=x.letter/\y.kind=x.kind\/y.drawing<x.drawing/\x.letter=1))/\(q8 (some x) r).isSome=true:=by
 simp only[q8];by_cases h1:o5 x=false
 ·simp[h1]
 ·have h1':o5 x=true:=by simpa using h1
  by_cases hd:y.drawing=x.drawing
  ·have hlt:¬ x.drawing<x.drawing:=by omega
   by_cases h2:y.letter+1=x.letter<;>by_cases h3:y.kind=x.kind<;>simp[h1',hd,h2,h3]
  ·by_cases hg:y.drawing > x.drawing
   ·have:¬ y.drawing<x.drawing:=by omega
    simp[h1',hd,hg,this]
   ·have:y.drawing<x.drawing:=by omega
    by_cases h2:x.letter=1<;>simp[h1',hd,hg,h2,this]
theorem Es {l:List Int} {x:Int} (h:x∉l):idx l x=-1:=Bl λj _ he=>h (List.mem_of_getElem? he)
theorem tZ {l:List Int} {x:Int} (h:x∈l):0<=idx l x:=by
 unfold idx;cases hh:l.idxOf? x with
 | none =>
   rw[List.idxOf?,List.findIdx?_eq_none_iff] at hh;have:=hh x h;simp at this
 | some i=>simp
theorem Et (l:List Int) (x:Int):idx l x<0↔x∉l:=by
 constructor
 ·intro h hm;have:=tZ hm;omega
 ·intro h;rw[Es h];omega
theorem bD {l:List Issue} (h:(q8 none l).isSome=false):u4 l=false:=by simp[u4,h]
@[simp] abbrev Qm:List Nat:=[0,1,2,3,4,5,6,7,8,13,18,28,31,38,44,52,53,73,84,99]
theorem AS (l:List Issue) (hs:W4 l):zP prog G 229 [G8 l] (bv (u4 l)):=by
 refine zf func229 ntmps229 ?_;try simp only[G8]
 have hl80:=hs.1;by_cases hrange:1<=l.length/\l.length<=60
 ·have d1:decide ((1:Int)<=(l.length:Int))=true:=by simp;omega
  have d2:decide ((l.length:Int)<=60)=true:=by simp;omega
  have c0:=dy (G:=G) (l.length:Int) 1 60;rw[d1,d2] at c0;have hs:=trivial;repeat' first|(with_reducible first|refine zz ?_|refine zE Qm ?_)|simp -dsimp[hs]|refine zp c0 ?_|refine i8 ?_ ?_<;>intro h<;>try exact h.elim
  all_goals try clear hs
  refine i6 (ι:={ i:Nat // i<=l.length/\(q8 none l).isSome=(q8 (J4 l i) (l.drop i)).isSome/\∀ x∈l.take i,o5 x=true }) (λp=>⟨103,[(1,.one (.ptr 0 0)),(2,bv false),(3,iv (p.1:Int))],[.row [.im (.sl (l.map e9))]]⟩) (λp=>l.length-p.1) ⟨0,by simp[J4]⟩ (zv [1,2,3]) ?_;rintro⟨i,hi,hscan,hok⟩;simp only[iv];by_cases hlt:i<l.length
  ·have hx:l[i]?=some l[i]:=by simp[hlt]
   have hw:=zk i;have hsm:=hs.2 l[i] (List.getElem_mem hlt);have c1:=Ek (G:=G) l[i] ⟨hsm.1,hsm.2.1⟩ (by omega) (by omega);rw[List.drop_eq_getElem_cons hlt] at hscan;have hnext:J4 l (i+1)=some l[i]:=by simp[J4]
   cases hq:o5 l[i]
   ·rw[hq] at c1;have hf:u4 l=false:=bD (by
     rw[hscan];cases J4 l i with
     | none=>exact F4 (jn l[i] _) (by simp[hq])
     | some y=>exact F4 (jm y l[i] _) (by simp[hq]))
    have hs:=za hx hlt;repeat' first|(with_reducible first|refine zz ?_|refine zr ?_|refine zE Qm ?_)|simp -dsimp[hs]|refine zp c1 ?_|refine i8 ?_ ?_<;>intro h<;>try exact h.elim
    all_goals try clear hs
    simp[hf]
   ·rw[hq] at c1;have hokn:∀ x∈l.take (i+1),o5 x=true:=by
     rw[List.take_succ_eq_append_getElem hlt];intro x hx;rcases List.mem_append.1 hx with h|h
     ·exact hok x h
     ·simp at h;rw[h];exact hq
    have hdr:1<=l[i].drawing:=by
     simp only[o5,Bool.and_assoc] at hq;rw[<- Bool.and_assoc,Bool.and_eq_true] at hq;have:=(eu _).1 hq.1;omega
    by_cases hi0:i=0
    ·subst hi0;have hst:=jn l[0] (l.drop 1);simp only[J4] at hscan;rw[Nat.zero_add] at hscan;rw[<- hscan] at hst;have hs:=za hx (za hlt hw);repeat' first|(with_reducible first|refine zz ?_|refine zr ?_|refine zE Qm ?_)|simp -dsimp[hs]|refine zp c1 ?_|refine i8 ?_ ?_<;>intro h<;>try exact h.elim|with_reducible refine j0 ?_ ?_<;>intro h<;>have h0:=h<;>(try simp only[i7] at h)<;>have h2:=h<;>(try simp at h2)<;>replace hs:=za h0 (za h (za h2 hs))
     all_goals try clear hs
     all_goals first
      | (exfalso;omega)
      | (have hf:=bD (F4 hst (by omega));simp[hf];done)
      | exact zn ⟨1,by omega,by rw[hnext];exact J2 hst ⟨hq,by omega⟩,hokn⟩ (zw [1,2,3] 1 (by simp;exact o7 (by omega) (by omega)))
    ·obtain⟨m,rfl⟩:∃ m,i=m+1:=⟨i-1,by omega⟩
     have hy:l[m]?=some l[m]:=by simp
     have hw1:IntKind.i64.wrap (((m+1:Nat):Int)-1)=m:=o7 (by omega) (by omega) |>.trans (by omega);have hw2:IntKind.i64.wrap (m:Int)=m:=o7 (by omega) (by omega);have hoky:=hok l[m] (List.mem_take_iff_getElem.2 ⟨m,by omega,rfl⟩);have hlet:1<=l[m].letter/\l[m].letter<=8:=by simp[o5,BR] at hoky;omega
     have hwl:IntKind.i64.wrap (l[m].letter+1)=l[m].letter+1:=o7 (by omega) (by omega);have hst:=jm l[m] l[m+1] (l.drop (m+1+1));simp only[J4,hy] at hscan;rw[<- hscan] at hst;have hpos:(0:Int)<(m:Int)+1:=by omega
     have hlt2:(m:Int)+1<(l.length:Int):=by omega
     have hge:(0:Int)<=(m:Int)+1:=by omega
     have hs:=za hge (za hx (za hlt (za hlt2 (za hw (za hy (za hw1 (za hw2 (za hwl hpos))))))));repeat' first|(with_reducible first|refine zz ?_|refine zr ?_|refine zE Qm ?_)|simp -dsimp[hs]|refine zp c1 ?_|refine i8 ?_ ?_<;>intro h<;>try exact h.elim|with_reducible refine j0 ?_ ?_<;>intro h<;>have h0:=h<;>(try simp only[i7] at h)<;>have h2:=h<;>(try simp at h2)<;>replace hs:=za h0 (za h (za h2 hs))
     all_goals try clear hs
     all_goals first
      | (exfalso;omega)
      | (have hf:=bD (F4 hst (by omega));simp[hf];done)
      | exact zn ⟨m+1+1,by omega,by rw[hnext];exact J2 hst ⟨hq,by omega⟩,hokn⟩ (zw [1,2,3] 1 (by simp;try exact o7 (by omega) (by omega)))
  ·have hsome:(q8 none l).isSome=true:=by
    rw[hscan,List.drop_eq_nil_of_le (by omega)];cases J4 l i<;>rfl
   have c2:=ju (G:=G) l (by omega);have hE:u4 l=(l.all (λx=>x.items.all λy=>decide (y.drawing∈nums l))&&decide ((nums l).length<=20)):=by
    simp[u4,hsome,hrange]
   have hnl:(nums l).length<=l.length:=A7 l l.length;generalize nums l=ns at *;have hs:=hlt;repeat' first|(with_reducible first|refine zz ?_|refine zE Qm ?_)|simp -dsimp[hs]|refine zp c2 ?_|refine i8 ?_ ?_<;>intro h<;>try exact h.elim
   all_goals try clear hs
   refine i6 (ι:={ i:Nat // i<=l.length/\l.all (λx=>x.items.all λy=>decide (y.drawing∈ns))=(l.drop i).all (λx=>x.items.all λy=>decide (y.drawing∈ns)) }) (λp=>⟨103,[(1,.one (.ptr 0 0)),(2,bv false),(6,v6 ns),(7,iv (p.1:Int))],[.row [.im (.sl (l.map e9))]]⟩) (λp=>l.length-p.1) ⟨0,by simp⟩ (zw [1,2,6,7] 1) ?_;clear hscan hok;rintro⟨k,hk,hall⟩;simp only[iv,v6];by_cases hlk:k<l.length
   ·have hx:l[k]?=some l[k]:=by simp[hlk]
    have hw:=zk k;have hst:=cu hlk hall;have hsm:=hs.2 l[k] (List.getElem_mem hlk);have hs:=za hx (za hlk hw);repeat' first|(with_reducible first|refine zz ?_|refine zE Qm ?_)|simp -dsimp[hs]|refine i8 ?_ ?_<;>intro h<;>try exact h.elim
    all_goals try clear hs
    refine i6 (ι:={ u:Nat // u<=l[k].items.length/\l[k].items.all (λy=>decide (y.drawing∈ns))=(l[k].items.drop u).all (λy=>decide (y.drawing∈ns)) }) (λp=>⟨103,[(1,.one (.ptr 0 0)),(2,bv false),(6,v6 ns),(7,iv (k:Int)),(8,iv (p.1:Int))],[.row [.im (.sl (l.map e9))]]⟩) (λp=>l[k].items.length-p.1) ⟨0,by simp⟩ (zv [1,2,6,7,8]) ?_;rintro⟨u,hu,hall2⟩;simp only[iv,v6];by_cases hlu:u<l[k].items.length
    ·have hy:l[k].items[u]?=some l[k].items[u]:=by simp[hlu]
     have hw2:=zk u;have c3:=pK (G:=G) ns l[k].items[u].drawing (by omega);have hm:=Et ns l[k].items[u].drawing;have hst2:=cu hlu hall2;generalize idx ns l[k].items[u].drawing=z at c3 hm;have hs:=za hx (za hlk (za hy (za hlu hw2)));repeat' first|(with_reducible first|refine zz ?_|refine zr ?_|refine zE Qm ?_)|simp -dsimp[hs]|refine zp c3 ?_|refine i8 ?_ ?_<;>intro h<;>try exact h.elim
     all_goals try clear hs
     ·have hn:=hm.1 ‹z<0›;have h1:=F4 hst2 (by simpa using hn);have h2:=F4 hst (by rw[h1];exact Bool.false_ne_true);rw[hE,h2];rfl
     ·have hn:l[k].items[u].drawing∈ns:=Classical.byContradiction λhn=>absurd (hm.2 hn) ‹_›;exact zn ⟨u+1,by omega,J2 hst2 (by simpa using hn)⟩ (zv [1,2,6,7,8])
    ·have h1:l[k].items.all (λy=>decide (y.drawing∈ns))=true:=by rw[hall2,List.drop_eq_nil_of_le (by omega)];rfl
     have hs:=za hx (za hlk (za hlu hw));repeat' first|(with_reducible first|refine zz ?_|refine zE Qm ?_)|simp -dsimp[hs]|refine i8 ?_ ?_<;>intro h<;>try exact h.elim
     all_goals try clear hs
     exact zn ⟨k+1,by omega,J2 hst h1⟩ (zv [1,2,6,7])
   ·have h1:l.all (λx=>x.items.all λy=>decide (y.drawing∈ns))=true:=by rw[hall,List.drop_eq_nil_of_le (by omega)];rfl
    rw[h1,Bool.true_and] at hE;have hs:=hlk;repeat' first|(with_reducible first|refine zz ?_|refine zr ?_|refine zE Qm ?_)|simp -dsimp[hs]|refine i8 ?_ ?_<;>intro h<;>try exact h.elim
    all_goals try clear hs
    rw[hE];simp;omega
 ·have hf:u4 l=false:=by simp only[u4];rw[decide_eq_false hrange];rfl
  have c0:=dy (G:=G) (l.length:Int) 1 60;have hd:(decide ((1:Int)<=(l.length:Int))&&decide ((l.length:Int)<=60))=false:=by simp;omega
  rw[hd] at c0;have hs:=trivial;repeat' first|(with_reducible first|refine zz ?_|refine zr ?_|refine zE Qm ?_)|simp -dsimp[hs]|refine zp c0 ?_|refine i8 ?_ ?_<;>intro h<;>try exact h.elim
  all_goals try clear hs
  simp[hf]
theorem tJ {l:List Int} {k:Nat} (hlt:k<l.length) (a:Int) (h:Z1 l=(l.drop k).foldl max a):Z1 l=(l.drop (k+1)).foldl max (max a l[k]):=by
 rw[h,List.drop_eq_getElem_cons hlt,List.foldl_cons]
@[simp] abbrev Wq:List Nat:=[0,1,2,3,4,5,8,14,23,28]
theorem Aj (l:List Issue) (hs:W4 l):zP prog G 180 [G8 l] (iv (j8 l)):=by
 refine zf func180 ntmps180 ?_;try simp only[G8]
 have c1:=AS (G:=G) l hs;cases hL:u4 l
 ·rw[hL] at c1;have hs:=trivial;repeat' first|(with_reducible first|refine zz ?_|refine zr ?_|refine zE Wq ?_)|simp -dsimp[hs]|refine zp c1 ?_|refine i8 ?_ ?_<;>intro h<;>try exact h.elim
  all_goals try clear hs
  simp[j8,hL]
 ·rw[hL] at c1;have c2:=wF (G:=G) l hL;have hlen:(D9 l).length<=80:=by
   have:=A7 l l.length;have:=hs.1;simp only[D9,List.length_map,nums];omega
  have hE:j8 l=if Z1 (D9 l) > (D9 l).length then 21 else if Z1 (D9 l) > 6 then 20 else 0:=by simp[j8,hL]
  generalize D9 l=D at c2 hE hlen;have hs:=trivial;repeat' first|(with_reducible first|refine zz ?_|refine zE Wq ?_)|simp -dsimp[hs]|refine zp c1 ?_|refine zp c2 ?_|refine i8 ?_ ?_<;>intro h<;>try exact h.elim
  all_goals try clear hs
  refine i6 (ι:={ p:Nat×Int // p.1<=D.length/\Z1 D=(D.drop p.1).foldl max p.2 }) (λp=>⟨31,[(1,.one (.ptr 0 0)),(2,iv 0),(3,v6 D),(4,iv p.1.2),(5,iv (p.1.1:Int))],[.row [.im (.sl (l.map e9))]]⟩) (λp=>D.length-p.1.1) ⟨(0,0),by simp[Z1]⟩ (zv [1,2,3,4,5]) ?_;rintro⟨⟨k,a⟩,hk,ha⟩;simp only at hk ha;simp only[iv,v6];by_cases hlt:k<D.length
  ·have hx:D[k]?=some D[k]:=by simp[hlt]
   have hw:=zk k;have hs:=za hx (za hw hlt);repeat' first|(with_reducible first|refine zz ?_|refine zE Wq ?_)|simp -dsimp[hs]|refine i8 ?_ ?_<;>intro h<;>try exact h.elim
   all_goals try clear hs
   exact zn ⟨(k+1,max a D[k]),by omega,tJ hlt a ha⟩ (zv [1,2,3,4,5])
  ·have ha':Z1 D=a:=by rw[ha,List.drop_eq_nil_of_le (by omega)];rfl
   rw[ha'] at hE;have hs:=hlt;repeat' first|(with_reducible first|refine zz ?_|refine zr ?_|refine zE Wq ?_)|simp -dsimp[hs]|refine i8 ?_ ?_<;>intro h<;>try exact h.elim
   all_goals try clear hs
   all_goals rw[hE]
   ·rw[if_pos (by omega)]
   ·rw[if_neg (by omega),if_pos (by omega)]
   ·rw[if_neg (by omega),if_neg (by omega)]
def aF (l:List Issue) (d:Int):Int:=l.foldl (λn x=>if x.drawing=d then max n x.letter else n) 0
@[simp] abbrev WH:List Nat:=[0,1,2,4,5,6,11,21]
theorem AW (l:List Issue) (d:Int) (hl:l.length<1000000):zP prog G 136 [G8 l,iv d] (iv (aF l d)):=by
 refine zf func136 ntmps136 ?_;try simp only[G8,iv]
 have hs:=trivial;repeat' first|(with_reducible first|refine zz ?_|refine zE WH ?_)|simp -dsimp[hs]
 refine i6 (ι:={ p:Nat×Int // p.1<=l.length/\aF l d=(l.drop p.1).foldl (λn x=>if x.drawing=d then max n x.letter else n) p.2 }) (λp=>⟨31,[(1,iv d),(2,.one (.ptr 0 0)),(5,iv p.1.2),(6,iv (p.1.1:Int))],[.row [.im (.sl (l.map e9))]]⟩) (λp=>l.length-p.1.1) ⟨(0,0),by simp[aF]⟩ (zv [1,2,5,6]) ?_;rintro⟨⟨k,a⟩,hk,ha⟩;simp only at hk ha;simp only[iv];by_cases hlt:k<l.length
 ·have hx:l[k]?=some l[k]:=by simp[hlt]
  have hw:=zk k;rw[List.drop_eq_getElem_cons hlt,List.foldl_cons] at ha;have hs:=za hx (za hw hlt);repeat' first|(with_reducible first|refine zz ?_|refine zE WH ?_)|simp -dsimp[hs]|refine i8 ?_ ?_<;>intro h<;>try exact h.elim
  ·exact zn ⟨(k+1,max a l[k].letter),by omega,by rw[ha,if_pos ‹_›]⟩ (zv [1,2,5,6])
  ·exact zn ⟨(k+1,a),by omega,by rw[ha,if_neg ‹_›]⟩ (zv [1,2,5,6])
 ·have ha':aF l d=a:=by rw[ha,List.drop_eq_nil_of_le (by omega)];rfl
  have hs:=hlt;repeat' first|(with_reducible first|refine zz ?_|refine zr ?_|refine zE WH ?_)|simp -dsimp[hs]|refine i8 ?_ ?_<;>intro h<;>try exact h.elim
  rw[ha']
def dU (l:List Issue) (p:Int×Int):Bool:=decide (1<=p.2)&&decide (p.2<=aF l p.1)
def A1 (l:List Issue) (lets:List Int):Bool:=decide (lets.length=(nums l).length)&&((nums l).zip lets).all (dU l)
def u9 (l:List Issue) (lets:List Int) (d:Int):Issue:=(p6 l d ((lets[(idx (nums l) d).toNat]?).getD 0)).getD K1
end Go.Proofs
namespace Go.Proofs
open Go Go.Ab
theorem ow {l:List Issue} {d lt:Int} {y:Issue} (h:p6 l d lt=some y):y∈l/\y.drawing=d/\y.letter=lt:=by
 have h1:=List.find?_some h;have h2:=List.mem_of_find?_eq_some h;simp only[Bool.and_eq_true,beq_iff_eq] at h1;exact⟨h2,h1.1,h1.2⟩
theorem BA (l:List Issue) (d lt:Int):(p6 l d lt).isSome=true↔∃ x∈l,x.drawing=d/\x.letter=lt:=by
 simp[p6,List.find?_isSome]
theorem gM:∀ (r:List Issue) (p:Option Issue) (ds:List Int),q8 p r=some ds->∀ x∈r,x.letter=1\/∃ y,(p=some y\/y∈r)/\y.drawing=x.drawing/\y.letter+1=x.letter
 | [],_,_,_,x,hx=>by cases hx
 | z :: r,p,ds,h,x,hx=>by
   have hs:(q8 p (z :: r)).isSome=true:=by rw[h];rfl
   obtain⟨ds',h1,_,_⟩:=eN h;rcases List.mem_cons.1 hx with rfl|hx
   ·cases p with
    | none=>exact .inl ((jn x r).1 hs).1.2
    | some y =>
      rcases ((jm y x r).1 hs).1.2 with⟨a,b,_⟩|⟨_,b⟩
      ·exact .inr ⟨y,.inl rfl,a,b⟩
      ·exact .inl b
   ·rcases gM r (some z) ds' h1 x hx with h2|⟨y,h2,h3,h4⟩
    ·exact .inl h2
    ·refine .inr ⟨y,.inr ?_,h3,h4⟩;rcases h2 with h2|h2
     ·cases h2;simp
     ·simp[h2]
theorem kn {l:List Issue} (hs:q8 none l=some (nums l)):∀ (k:Nat) (x:Issue),x∈l->x.letter=k+1->∀ j:Int,1<=j->j<=k+1->∃ y∈l,y.drawing=x.drawing/\y.letter=j
 | 0,x,hx,hk,j,h1,h2=>⟨x,hx,rfl,by omega⟩
 | k+1,x,hx,hk,j,h1,h2=>by
   by_cases hj:j=k+1+1
   ·exact⟨x,hx,rfl,by omega⟩
   ·rcases gM l none _ hs x hx with h|⟨y,hy,h3,h4⟩
    ·omega
    ·rcases hy with hy|hy
     ·cases hy
     ·obtain⟨z,hz,h5,h6⟩:=kn hs k y hy (by omega) j h1 (by omega);exact⟨z,hz,by omega,h6⟩
theorem dV (d:Int):∀ (l:List Issue) (a:Int),a<=l.foldl (λn x=>if x.drawing=d then max n x.letter else n) a/\(∀ x∈l,x.drawing=d->x.letter<=l.foldl (λn x=>if x.drawing=d then max n x.letter else n) a) /\
 (l.foldl (λn x=>if x.drawing=d then max n x.letter else n) a=a\/∃ x∈l,x.drawing=d/\x.letter=l.foldl (λn x=>if x.drawing=d then max n x.letter else n) a)
 | [],a=>by simp
 | y :: l,a=>by
   obtain⟨h1,h2,h3⟩:=dV d l (if y.drawing=d then max a y.letter else a);simp only[List.foldl_cons];have h0:a<=(if y.drawing=d then max a y.letter else a):=by split<;>omega
   refine⟨by omega,λx hx hd=>?_,?_⟩
   ·rcases List.mem_cons.1 hx with rfl|hx
    ·rw[if_pos hd] at h1 ⊢;omega
    ·exact h2 x hx hd
   ·rcases h3 with h3|⟨x,hx,hd,he⟩
    ·by_cases hy:y.drawing=d
     ·rw[if_pos hy] at h3 ⊢;by_cases hm:a<=y.letter
      ·exact .inr ⟨y,by simp,hy,by omega⟩
      ·exact .inl (by omega)
     ·rw[if_neg hy] at h3 ⊢;exact .inl h3
    ·exact .inr ⟨x,by simp[hx],hd,he⟩
theorem ed {l:List Issue} (h:j8 l=0) (d lt:Int):(p6 l d lt).isSome=true↔1<=lt/\lt<=aF l d:=by
 have hs:=M9 (J3 h);obtain⟨_,_,_,hok,_⟩:=P0 hs;obtain⟨h1,h2,h3⟩:=dV d l 0;have hlet:∀ x∈l,1<=x.letter:=λx hx=>by
  have:=hok x hx;simp only[o5,Bool.and_assoc] at this;rw[<- Bool.and_assoc,Bool.and_eq_true] at this;have:=(eu x).1 this.1;omega
 rw[BA];constructor
 ·rintro⟨x,hx,rfl,rfl⟩;exact⟨hlet x hx,h2 x hx rfl⟩
 ·rintro⟨a,b⟩;rcases h3 with h3|⟨x,hx,hd,he⟩
  ·simp only[aF] at b;omega
  ·have hx1:=hlet x hx;obtain⟨y,hy,h5,h6⟩:=kn hs (x.letter-1).toNat x hx (by omega) lt a (by simp only[aF] at b;omega);exact⟨y,hy,by omega,h6⟩
theorem eJ {l:List Issue} {lets:List Int} {d:Int} (h:j8 l=0) (hl:A1 l lets=true) (hd:d∈nums l):u9 l lets d∈l/\(u9 l lets d).drawing=d/\∃ (k:Nat) (lt:Int),(nums l)[k]?=some d/\lets[k]?=some lt/\p6 l d lt=some (u9 l lets d):=by
 simp only[A1,Bool.and_eq_true,decide_eq_true_eq] at hl;obtain⟨h1,h2⟩:=hl;obtain⟨hlt,_⟩:=E1 h;obtain⟨k,hk⟩:=List.mem_iff_getElem?.1 hd;have hnd:(nums l).Nodup:=hlt.imp λh=>Int.ne_of_lt h;have hkl:=e7 hk;have hy:lets[k]?=some lets[k]:=by simp[h1,hkl]
 have hz:((nums l).zip lets)[k]?=some (d,lets[k]):=by
  rw[List.getElem?_zip_eq_some];exact⟨hk,hy⟩
 have hok:=List.all_eq_true.1 h2 _ (List.mem_of_getElem? hz);simp only[dU,Bool.and_eq_true,decide_eq_true_eq] at hok;have hf:=(ed h d lets[k]).2 hok;obtain⟨y,hy'⟩:=Option.isSome_iff_exists.1 hf;have ht:u9 l lets d=y:=by
  simp only[u9,jB hnd hk,Int.toNat_natCast,hy,Option.getD_some,hy']
 obtain⟨a,b,_⟩:=ow hy';rw[ht];exact⟨a,b,k,lets[k],hk,hy,hy'⟩
theorem lk {l:List Issue} {lets:List Int} {d:Int} (h:j8 l=0) (hl:A1 l lets=true) (hd:d∈nums l):∀ y∈(u9 l lets d).items,y.drawing∈dw l d:=by
 obtain⟨h1,h2,_⟩:=eJ h hl hd;intro y hy;simp only[dw,List.mem_flatMap,List.mem_map,dI,List.mem_filter,decide_eq_true_eq];exact⟨_,⟨h1,h2⟩,y,hy,rfl⟩
end Go.Proofs
namespace Go.Ab
open Go
def H1 (m:List (Int×Bool)):List (List Value×List DC):=m.map λp=>(kI p.1,[.im (rB p.2)])
def dl (n:Int):List (Int×Bool)->Option Bool
 | []=>none
 | p :: r=>if p.1=n then some p.2 else dl n r
def uG (n:Int) (v:Bool):List (Int×Bool)->List (Int×Bool)
 | []=>[(n,v)]
 | p :: r=>if p.1=n then (n,v) :: r else p :: uG n v r
theorem mH (n k:Int) (v:Bool):∀ m,dl k (uG n v m)=if n=k then some v else dl k m
 | []=>by simp[uG,dl]
 | p :: r=>by
   have ih:=mH n k v r;simp only[uG];split
   ·rename_i h;simp only[dl];split
    ·rfl
    ·rename_i h2;rw[if_neg (by omega)]
   ·rename_i h;simp only[dl,ih];split
    ·rename_i h2;rw[if_neg (by omega)]
    ·rfl
@[simp] theorem Kw (m:List (Int×Bool)) (n:Int):P1 [.int .i64 n] (H1 m) [.im (.raw (.bool false))]=[.im (.raw (.bool ((dl n m).getD false)))]:=by
 induction m with
 | nil=>rfl
 | cons p r ih =>
   have e:H1 (p :: r)=(kI p.1,[.im (rB p.2)]) :: H1 r:=rfl;rw[e];simp only[P1,T2,dl,aV,decide_eq_true_eq] at ih ⊢;split
   ·rfl
   ·exact ih
@[simp] theorem Ks (m:List (Int×Bool)) (n:Int):kx [.int .i64 n] (H1 m)=(dl n m).isSome:=by
 induction m with
 | nil=>rfl
 | cons p r ih =>
   have e:H1 (p :: r)=(kI p.1,[.im (rB p.2)]) :: H1 r:=rfl;rw[e];simp only[kx,T2,dl,aV,decide_eq_true_eq] at ih ⊢;split
   ·rfl
   ·exact ih
@[simp] theorem Kr (m:List (Int×Bool)) (n:Int) (v:Bool):R8 [.int .i64 n] [.im (.raw (.bool v))] (H1 m)=H1 (uG n v m):=by
 induction m with
 | nil=>rfl
 | cons p r ih =>
   have e:H1 (p :: r)=(kI p.1,[.im (rB p.2)]) :: H1 r:=rfl;rw[e];simp only[R8,uG,aV,decide_eq_true_eq] at ih ⊢;split
   ·rfl
   ·rw[ih];rfl
@[simp] theorem Ib (m:List (Int×Bool)):(H1 m).length=m.length:=by simp[H1]
@[simp] theorem Jf (n:Nat) (objs:List DObj) (m:List (Int×Bool)):((H1 m).map λx=>(x.1,x.2.map (fz n objs)))=H1 m:=by
 simp[H1,fz,DC.lt]
@[simp] theorem Ja (e:Nat->Nat) (m:List (Int×Bool)):((H1 m).map λx=>(x.1,rnL e x.2))=H1 m:=by
 simp[H1,rnL,gR]
section
variable {P:Program} {G:LY}
theorem CallE.embed_ex {ι:Type} {f:FuncId} {args args0:List DV} {objs objs0:List DObj} {p:ι->Prop} {o1:ι->List DObj} {d0:ι->DV} {Q:DV->List DObj->Prop} {t:Tok Q} (es:List Nat) (h:DCall P G f args0 objs0 (λd o=>∃ i,p i/\d=d0 i/\o=o1 i))
 (ha:args0.map (jS (u7 es objs.length))=args) (hl:es.length=objs0.length) (hnd:es.Nodup) (hes:∀ x∈es,x<objs.length)
 (hobj:∀ i d,objs0[i]?=some d->objs[u7 es objs.length i]?=some (cv (u7 es objs.length) d)) (hq:∀ i,p i->Q (jS (u7 es objs.length) (d0 i)) (o6 es objs (o1 i))):CallE P G f args objs Q t:=by
 subst ha;refine(DCall.embed es h hl hnd hes hobj).mono λd o ⟨d',o',⟨i,hp,h1,h2⟩,_,h3,h4⟩=>?_;subst h1;subst h2;subst h3;subst h4;exact hq i hp
end
def l6 (l:List Int):List Int:=l.mergeSort λx y=>decide (x<=y)
theorem O1 (l:List Int):(l6 l).length=l.length:=by simp[l6]
@[simp] theorem Kl (e:Nat->Nat) (l:List (List IC)):(n3 l).map (rnL e)=n3 l:=by
 simp only[n3,List.map_map];exact List.map_congr_left λx _=>by simp[fO]
@[simp] theorem Kh (n o:Nat):u7 [] n o=n+o:=by simp[u7]
attribute [simp] jS gR rnL rnVL cv gV
def yg (L:List Int) (off len:Nat):List Int:=L.take off++(List.replicate len 0++L.drop (off+len))
theorem sg {L:List Int} {off len:Nat} (h:off+len<=L.length):(yg L off len).length=L.length:=by simp[yg];omega
@[simp] theorem Ic (L:List Int) (off len:Nat):P7 (n3 (L.map encI)) off len (.im (.raw (.int .i64 0)))=n3 ((yg L off len).map encI):=by
 simp only[P7,yg,n3,List.map_append,List.map_take,List.map_drop,List.map_replicate];rfl
theorem QCall.thaw {P:Program} {G:LY} {f:FuncId} {args args0:List DV} {d0:DV} {objs:List DObj} {K:DV->Prop} {t:Tok K} (h:∀ objs,DCall P G f args0 objs (λd o=>d=d0/\o=objs)) (ha:args0=args.map (gf 0 objs)) (hd:FlV d0) (hk:K d0):QCall P G f args objs K t:=
 ⟨d0,DCall.thaw h ha hd,hk⟩
end Go.Ab
namespace Go.Proofs
open Go Go.Ab
variable {G:LY}
def P5 (tk:Int->Issue):Nat->Int->Int->List (Int×Int)
 | 0,_,_=>[]
 | k+1,d,m=>if 1<(tk d).kind then [(d,m)] else (tk d).items.flatMap λy=>P5 tk k y.drawing (IntKind.i64.wrap (m*y.count))
def HK (ns:List Int) (C:List Int) (p:Int×Int):List Int:=C.set (idx ns p.1).toNat (IntKind.i64.wrap ((C[(idx ns p.1).toNat]?).getD 0+p.2))
def HJ (ns:List Int) (C:List Int) (lv:List (Int×Int)):List Int:=lv.foldl (HK ns) C
def JH (l:List Issue) (lets:List Int) (d:Int):List Int:=HJ (nums l) (List.replicate (nums l).length 0) (P5 (u9 l lets) 6 d 1)
def lM (l:List Issue) (lets:List Int) (d:Int):List Itm:=(((nums l).zip (JH l lets d)).filter λp=>decide (0<p.2)).map λp=>⟨p.1,p.2⟩
end Go.Proofs
namespace Go.Ab
open Go
def KW:Issue:=⟨0,0,0,[],[]⟩
def K3 (m:List (Int×Issue)) (n:Int):Issue:=match m with
 | []=>KW
 | p :: r=>if p.1=n then p.2 else K3 r n
def fB (n:Int) (v:Issue):List (Int×Issue)->List (Int×Issue)
 | []=>[(n,v)]
 | p :: r=>if p.1=n then (n,v) :: r else p :: fB n v r
def J8 (m:List (Int×Issue)):List (List Value×List DC):=m.map λp=>(kI p.1,(e9 p.2).map .im)
def ej (m:List (Int×Issue)):List (List Value×List IC):=m.map λp=>(kI p.1,e9 p.2)
theorem gi (p:Int×Issue) (r:List (Int×Issue)):J8 (p :: r)=(kI p.1,(e9 p.2).map .im) :: J8 r:=rfl
@[simp] theorem Ka (m:List (Int×Issue)) (n:Int):P1 [.int .i64 n] (J8 m) [.im (.raw (.int .i64 0)),.im (.raw (.int .i64 0)),.im (.raw (.int .u8 0)),.im (.sl []),.im (.sl [])]=(e9 (K3 m n)).map .im:=by
 induction m with
 | nil=>rfl
 | cons p r ih =>
   rw[gi];simp only[P1,T2,K3,aV,decide_eq_true_eq] at ih ⊢;split
   ·rfl
   ·exact ih
theorem AH (m:List (Int×Issue)) (n:Int) (v:Issue):R8 [.int .i64 n] ((e9 v).map .im) (J8 m)=J8 (fB n v m):=by
 induction m with
 | nil=>rfl
 | cons p r ih =>
   rw[gi];simp only[R8,fB,aV,decide_eq_true_eq] at ih ⊢;split
   ·rfl
   ·rw[ih];rfl
@[simp] theorem JZ (m:List (Int×Issue)) (n a b k:Int) (i:List Itm) (d:List Dim):R8 [.int .i64 n] [.im (.raw (.int .i64 a)),.im (.raw (.int .i64 b)),.im (.raw (.int .u8 k)),.im (.sl (i.map A2)),.im (.sl (d.map D5))] (J8 m)=J8 (fB n ⟨a,b,k,i,d⟩ m):=AH m n ⟨a,b,k,i,d⟩
@[simp] theorem Ia (m:List (Int×Issue)):(J8 m).length=m.length:=by simp[J8]
@[simp] theorem Er (m:List (Int×Issue)):ge (ej m)=J8 m:=by simp[ge,ej,J8]
@[simp] theorem Kb (k n:Nat) (objs:List DObj) (m:List (Int×Issue)):E7 (λx:List Value×List DC=>(E7 (frz (k+1) n objs) x.2).map λl=>(x.1,l)) (J8 m)=some (ej m):=by
 induction m with
 | nil=>rfl
 | cons p r ih =>
   rw[gi,E7,ih,kM];rfl
@[simp] theorem HV (n:Nat) (objs:List DObj) (m:List (Int×Issue)):((J8 m).map λx=>(x.1,x.2.map (fz n objs)))=J8 m:=by
 simp[J8,fz,DC.lt]
theorem jv {n:Int} {v:Issue}:∀ {m:List (Int×Issue)},n∉m.map (·.1)->fB n v m=m++[(n,v)]
 | [],_=>rfl
 | p :: r,h=>by
   rw[List.map_cons,List.mem_cons,not_or] at h;rw[fB,if_neg (Ne.symm h.1),jv h.2];rfl
theorem V7 (f:Int->Issue):∀ (ns:List Int) (n:Int),K3 (ns.map λd=>(d,f d)) n=if n∈ns then f n else KW
 | [],n=>by simp[K3]
 | d :: ns,n=>by
   rw[List.map_cons,K3,V7 f ns n];by_cases h:d=n
   ·subst h;simp
   ·rw[if_neg h];simp[Ne.symm h]
@[simp] theorem LA (e:Nat->Nat) (m:List (Int×Int)):((O7 m).map λx=>(x.1,rnL e x.2))=O7 m:=by
 simp[O7,rnL,gR]
@[simp] theorem KY (e:Nat->Nat) (m:List (Int×Issue)):((J8 m).map λx=>(x.1,rnL e x.2))=J8 m:=by
 simp only[J8,List.map_map];exact List.map_congr_left λx _=>by simp only[Function.comp,fO]
@[simp] theorem Lz (e:Nat->Nat) (m:List Int):((J6 m).map λx=>(x.1,rnL e x.2))=J6 m:=by
 simp[J6,rnL,gR]
end Go.Ab
namespace Go.Ab
open Go
@[simp] theorem Jx (m:List (Int×Issue)):(ej m).map (λx=>(x.1,x.2.map DC.im))=J8 m:=Er m
@[simp] theorem Ke (m:List (Int×Int)):(aL m).map (λx=>(x.1,x.2.map DC.im))=O7 m:=GY m
@[simp] theorem Kd (m:List Int):(rS m).map (λx=>(x.1,x.2.map DC.im))=J6 m:=GX m
end Go.Ab
namespace Go.Proofs
open Go Go.Ab Tryz
variable {G:LY}
def br (l:List Issue) (lets:List Int):List (Int×Issue):=(nums l).map λd=>(d,u9 l lets d)
theorem CX {l:List Issue} {lets:List Int} {k:Nat} (h:j8 l=0) (hk:k<(nums l).length) (hk2:k<lets.length) (hf:(p6 l (nums l)[k] lets[k]).isSome=false):A1 l lets=false:=by
 have hn:¬ dU l ((nums l)[k],lets[k])=true:=λhok=>by
  simp only[dU,Bool.and_eq_true,decide_eq_true_eq] at hok;rw[(ed h _ _).2 hok] at hf;cases hf
 simp only[A1,Bool.and_eq_false_iff];refine .inr ?_;rw[<- Bool.not_eq_true,List.all_eq_true];intro hall;refine hn (hall _ (List.mem_iff_getElem?.2 ⟨k,?_⟩));rw[List.getElem?_zip_eq_some];exact⟨by simp[hk],by simp[hk2]⟩
theorem zj {l:List Issue} {lets:List Int} (h:j8 l=0) (he:lets.length=(nums l).length) (hall:∀ (k:Nat) (h1:k<(nums l).length) (h2:k<lets.length),(p6 l (nums l)[k] lets[k]).isSome=true):A1 l lets=true:=by
 simp only[A1,Bool.and_eq_true,decide_eq_true_eq,List.all_eq_true];refine⟨he,λp hp=>?_⟩;obtain⟨k,hk⟩:=List.mem_iff_getElem?.1 hp;rw[List.getElem?_zip_eq_some] at hk;obtain⟨h1,e1⟩:=List.getElem?_eq_some_iff.1 hk.1;obtain⟨h2,e2⟩:=List.getElem?_eq_some_iff.1 hk.2;have:=(ed h _ _).1 (hall k h1 h2);rw[e1,e2] at this;simp only[dU,Bool.and_eq_true,decide_eq_true_eq];exact this
theorem vr {l:List Issue} {lets:List Int} {k:Nat} (hnd:(nums l).Nodup) (hk:k<(nums l).length) (hk2:k<lets.length):u9 l lets (nums l)[k]=(p6 l (nums l)[k] lets[k]).getD K1:=by
 have h1:(nums l)[k]?=some (nums l)[k]:=by simp[hk]
 have h2:lets[k]?=some lets[k]:=by simp[hk2]
 simp only[u9,jB hnd h1,Int.toNat_natCast,h2,Option.getD_some]
def C4 (l:List Issue) (lets:List Int) (d:Int):Int:=if j8 l≠0 then j8 l else if A1 l lets=false then 22 else if d∈nums l then 0 else 6
def bu (l:List Issue) (lets:List Int) (d:Int):List DV:=if C4 l lets d=0 then [.one (.im (A4 l (nums l))),.one (.im (.mp [.int .i64] (ej (br l lets)))),iv 0] else [.one (.im (.raw (.pointer none))),.one (.im (.raw (.map none))),iv (C4 l lets d)]
theorem wv (l:List Issue) (lets:List Int) (d:Int):∀ x∈bu l lets d,ImV x:=by unfold bu;split<;>simp[A4]
@[simp] abbrev Qt:List Nat:=[0,1,2,3,6,7,8,9,10,11,12,13,14,21,30,33,34,35,55,64]
@[simp] abbrev Yc:List Nat:=[0,1,2,3,6,7,8,9,10,11,12,13,14,21,30,33,34,35,37,38,39,40,41,42,43,44,45,46,47,48,49,50,51,52,55,64]
theorem zW (l:List Issue) (lets:List Int) (d:Int) (hG:p8 G) (hs:W4 l) (hll:lets.length<1000000) (objs:List DObj):DCall prog G 281 [G8 l,v6 lets,iv d] objs (λrr objs'=>rr=.tup (bu l lets d)/\objs'=objs):=by
 refine DCall.frame ?_ (by simp) (by simpa using wv l lets d) objs;refine g9 func281 rfl ntmps281 (by simp) rfl ?_;simp only[G8,v6,iv];have c1:=gX l hG hs;by_cases h0:j8 l=0
 ·simp only[ct,h0,if_true] at c1;have hnd:(nums l).Nodup:=(E1 h0).1.imp λh=>Int.ne_of_lt h;have hnl:(nums l).length<=l.length:=A7 l l.length;have hl80:=hs.1;have hsort:=cW h0;by_cases he:lets.length=(nums l).length
  ·have he':(lets.length:Int)=((nums l).length:Int):=by omega
   simp only[A4] at c1;have hs:=he';repeat' first|(with_reducible first|refine zz ?_|refine zE Qt ?_)|simp -dsimp[hs]|refine zp c1 ?_|refine i8 ?_ ?_<;>intro h<;>try exact h.elim
   all_goals try clear hs
   refine i6 (ι:={ k:Nat // k<=lets.length/\∀ (i:Nat) (h1:i<(nums l).length) (h2:i<lets.length),i<k->(p6 l (nums l)[i] lets[i]).isSome=true }) (λp=>⟨67,[(1,v6 lets),(2,iv d),(6,.one (.im (.raw (.pointer none)))),(7,.one (.im (.raw (.map none)))),(8,iv 0),(9,.one (.im (A4 l (nums l)))),(11,.one (.map 1)),(33,iv (lets.length:Int)),(34,iv (p.1:Int))],[.row [.im (.sl (l.map e9))],.map [.int .i64] (J8 (((nums l).take p.1).map λd=>(d,u9 l lets d)))]⟩) (λp=>lets.length-p.1) ⟨0,by simp⟩ (zv [1,2,6,7,8,9,11,33,34] (by simp[A4,J8];omega)) ?_;rintro⟨k,hk,hall⟩;simp only[iv,v6];by_cases hlt:k<lets.length
   ·have hkn:k<(nums l).length:=by omega
    have hx:(nums l)[k]?=some (nums l)[k]:=by simp[hkn]
    have hy:lets[k]?=some lets[k]:=by simp[hlt]
    have hw:=zk k;have c2:=wb (G:=G) l (nums l) (nums l)[k] lets[k] hsort (by omega);have hta:=vr hnd hkn hlt;cases hf:p6 l (nums l)[k] lets[k] with
    | none =>
      have hE:C4 l lets d=22:=by simp[C4,h0,CX h0 hkn hlt (by rw[hf];rfl)]
      simp only[hf,E0,A4,Option.isSome_none,Option.getD_none] at c2;simp only[A4];have hs:=za hx (za hy (za hlt (za hkn hw)));repeat' first|(with_reducible first|refine zz ?_|refine zr ?_)|simp -dsimp[hs]|refine zq c2 ?_|refine F8 (id:=10) (nt:=67) 18 [16] Yc Qt mixed rfl (by kernel_rfl) ?_|with_reducible refine zE Qt ?_|refine i8 ?_ ?_<;>intro h<;>try exact h.elim
      all_goals try clear hs
      all_goals simp[bu,hE]
    | some y =>
      rw[hf,Option.getD_some] at hta;obtain⟨hym,hyd,_⟩:=ow hf;simp only[hf,E0,A4,Option.isSome_some,Option.getD_some] at c2;simp only[A4];have hmp:fB (nums l)[k] y (((nums l).take k).map λd=>(d,u9 l lets d))=(((nums l).take (k+1)).map λd=>(d,u9 l lets d)):=by
       rw[jv,List.take_succ_eq_append_getElem hkn,List.map_append,List.map_singleton,hta];rw[List.map_map];intro hm;obtain⟨z,hz,e⟩:=List.mem_map.1 hm;simp only[Function.comp] at e;subst e;obtain⟨i,hi,e⟩:=List.mem_take_iff_getElem.1 hz;have:=(List.getElem_inj hnd).1 e;omega
      rw[<- hyd] at hmp;have hmp':fB y.drawing ⟨y.drawing,y.letter,y.kind,y.items,y.dims⟩ (((nums l).take k).map λd=>(d,u9 l lets d))=(((nums l).take (k+1)).map λd=>(d,u9 l lets d)):=hmp;simp only[List.map_take] at hmp';have hfin:∀ (i:Nat) (h1:i<(nums l).length) (h2:i<lets.length),i<k+1->(p6 l (nums l)[i] lets[i]).isSome=true:=λi h1 h2 hi=>by
       by_cases e:i=k
       ·subst e;rw[hf];rfl
       ·exact hall i h1 h2 (by omega)
      have hs:=za hx (za hy (za hlt (za hkn hw)));repeat' first|with_reducible refine zz ?_|simp -dsimp[hs]|refine zq c2 ?_|refine F8 (id:=10) (nt:=67) 18 [16] Yc Qt mixed rfl (by kernel_rfl) ?_|with_reducible refine zE Qt ?_|refine i8 ?_ ?_<;>intro h<;>try exact h.elim
      all_goals try clear hs
      exact zn ⟨k+1,by omega,hfin⟩ (zw [1,2,6,7,8,9,11,33,34] 2 (by simp[A4,hmp']))
   ·have hlet:=zj h0 he λi h1 h2=>hall i h1 h2 (by omega);have htk:(nums l).take k=nums l:=List.take_of_length_le (by omega);have c3:=Bp (G:=G) l (nums l) d ((E1 h0).1.imp λh=>Int.le_of_lt h) (by omega);have hE:C4 l lets d=if d∈nums l then 0 else 6:=by simp[C4,h0,hlet]
    simp only[A4] at c3;rw[htk];by_cases hd:d∈nums l
    ·rw[if_pos hd] at hE;simp only[hd,decide_true] at c3;simp only[A4];have hs:=hlt;repeat' first|(with_reducible first|refine zz ?_|refine zr ?_|refine zE Qt ?_)|simp -dsimp[hs]|refine zp c3 ?_|refine i8 ?_ ?_<;>intro h<;>try exact h.elim
     all_goals try clear hs
     simp[bu,hE,br,A4]
    ·rw[if_neg hd] at hE;simp only[hd,decide_false] at c3;simp only[A4];have hs:=hlt;repeat' first|(with_reducible first|refine zz ?_|refine zr ?_|refine zE Qt ?_)|simp -dsimp[hs]|refine zp c3 ?_|refine i8 ?_ ?_<;>intro h<;>try exact h.elim
     all_goals try clear hs
     simp[bu,hE]
  ·have he':¬ (lets.length:Int)=((nums l).length:Int):=by omega
   have hE:C4 l lets d=22:=by
    have:A1 l lets=false:=by simp[A1,he]
    simp[C4,h0,this]
   simp only[A4] at c1;have hs:=he';repeat' first|(with_reducible first|refine zz ?_|refine zr ?_|refine zE Qt ?_)|simp -dsimp[hs]|refine zp c1 ?_|refine i8 ?_ ?_<;>intro h<;>try exact h.elim
   all_goals try clear hs
   simp[bu,hE]
 ·have hE:C4 l lets d=j8 l:=by simp[C4,h0]
  simp only[ct,h0,if_false] at c1;have hs:=h0;repeat' first|(with_reducible first|refine zz ?_|refine zr ?_|refine zE Qt ?_)|simp -dsimp[hs]|refine zp c1 ?_|refine i8 ?_ ?_<;>intro h<;>try exact h.elim
  all_goals try clear hs
  simp[bu,hE,h0]
def kC (m:List (Int×Int)) (lv:List (Int×Int)):List (Int×Int):=lv.foldl (λm p=>O5 p.1 (IntKind.i64.wrap (n7 m p.1+p.2)) m) m
def iI (by':List (Int×Issue)) (cnt:List (Int×Int)):List DObj:=[.row [.im (.mp [.int .i64] (ej by'))],.map [.int .i64] (O7 cnt),.row [.map 1],.row [.fn (.func 282) [.ptr 0 0,.ptr 2 0,.ptr 3 0]]]
@[simp] abbrev QY:List Nat:=[0,1,2,3,4,7,9,15,22,23,24,25]
theorem uk (l:List Issue) (lets:List Int) (h0:j8 l=0) (hlet:A1 l lets=true) (dep:Int->Int) (hdep:∀ n∈nums l,1<=dep n/\dep n<=6/\∀ c∈dw l n,c∈nums l/\dep c<dep n) :
 ∀ (k:Nat) (d m:Int) (cnt:List (Int×Int)),d∈nums l->dep d<=k ->
  DCall prog G 282 [iv d,iv m,.one (.ptr 0 0),.one (.ptr 2 0),.one (.ptr 3 0)] (iI (br l lets) cnt)
   (λr o=>r=.tup []/\o=iI (br l lets) (kC cnt (P5 (u9 l lets) k d m))):=by
 intro k;induction k with
 | zero=>intro d m C hd hk;have:=(hdep d hd).1;omega
 | succ k ih =>
   intro d m cnt hd hk;have hti:=lk h0 hlet hd;obtain⟨htm,_,_⟩:=eJ h0 hlet hd;have htok:=(P0 (M9 (J3 h0))).2.2.2.1 _ htm;have hsm:=fE htok;have hkd:(u9 l lets d).kind=1\/(2<=(u9 l lets d).kind/\(u9 l lets d).items.length=0):=by
    simp only[o5,Bool.and_assoc] at htok;rw[<- Bool.and_assoc,Bool.and_eq_true] at htok;have:=(eu _).1 htok.1;omega
   have hch:=(hdep d hd).2.2;have hE:P5 (u9 l lets) (k+1) d m=if 1<(u9 l lets d).kind then [(d,m)] else (u9 l lets d).items.flatMap λy=>P5 (u9 l lets) k y.drawing (IntKind.i64.wrap (m*y.count)):=rfl;have hlook:K3 (br l lets) d=u9 l lets d:=by rw[br,V7,if_pos hd]
   generalize u9 l lets d=x at *;refine DCall.drop ?_;refine g9 func282 rfl ntmps282 (by simp) rfl ?_;simp only[iI,iv];by_cases hkind:x.kind=1
   ·rw[if_neg (by omega)] at hE;have hs:=za hlook hkind;repeat' first|(with_reducible first|refine zz ?_|refine zE QY ?_)|simp -dsimp[hs]|refine i8 ?_ ?_<;>intro h<;>try exact h.elim
    refine i6 (ι:={ p:Nat×List (Int×Int) // p.1<=x.items.length/\kC cnt (x.items.flatMap λy=>P5 (u9 l lets) k y.drawing (IntKind.i64.wrap (m*y.count)))=kC p.2 ((x.items.drop p.1).flatMap λy=>P5 (u9 l lets) k y.drawing (IntKind.i64.wrap (m*y.count))) }) (λp=>⟨37,[(1,iv m),(2,.one (.ptr 0 0)),(3,.one (.ptr 2 0)),(4,.one (.ptr 3 0)),(22,.one (.im (.sl (x.items.map A2)))),(23,iv (x.items.length:Int)),(24,iv (p.1.1:Int))],iI (br l lets) p.1.2⟩) (λp=>x.items.length-p.1.1) ⟨(0,cnt),by simp⟩ (zw [1,2,3,4,22,23,24] 4 (by simp[iI])) ?_;rintro⟨⟨u,cnt'⟩,hu,hadd⟩;simp only at hu hadd;simp only[iv,iI];by_cases hlt:u<x.items.length
    ·have hx:x.items[u]?=some x.items[u]:=by simp[hlt]
     have hw:=zk u;have hc:=hch _ (hti x.items[u] (List.getElem_mem hlt));have hrec:=ih x.items[u].drawing (IntKind.i64.wrap (m*x.items[u].count)) cnt' hc.1 (by omega);rw[List.drop_eq_getElem_cons hlt,List.flatMap_cons,kC,kC,List.foldl_append] at hadd;simp only[iv,iI] at hrec;have hs:=za hx (za hw hlt);repeat' first|(with_reducible first|refine zz ?_|refine zE QY ?_)|simp -dsimp[hs]|refine CallE.embed [0,1,2,3] (hrec) ?_ ?_ ?_ ?_ ?_ ?_;(focus simp[u7];done);(focus simp;done);(focus simp;done);(focus simp;done);(focus refine o9 ?_;simp[u7,r9];done);try simp -dsimp[o6,u7,hs]|refine i8 ?_ ?_<;>intro h<;>try exact h.elim
     exact zn ⟨(u+1,kC cnt' (P5 (u9 l lets) k x.items[u].drawing (IntKind.i64.wrap (m*x.items[u].count)))),by omega,hadd⟩ (zw [1,2,3,4,22,23,24] 4 (by simp[iI]))
    ·rw[List.drop_eq_nil_of_le (by omega)] at hadd;have hs:=hlt;repeat' first|(with_reducible first|refine zz ?_|refine ze ?_|refine zE QY ?_)|simp -dsimp[hs]|refine i8 ?_ ?_<;>intro h<;>try exact h.elim|with_reducible refine And.intro ?_ ?_
     rw[hE,hadd];simp[iI,kC]
   ·rw[if_pos (by omega)] at hE;have hz:x.items.length=0:=by omega
    have hs:=za hlook (za hkind hz);repeat' first|(with_reducible first|refine zz ?_|refine zE QY ?_)|simp -dsimp[hs]|refine i8 ?_ ?_<;>intro h<;>try exact h.elim
    refine i6 (ι:=Unit) (λ_=>⟨37,[(23,iv 0),(24,iv 0)],iI (br l lets) (kC cnt [(d,m)])⟩) (λ_=>0) () (zw [23,24] 4 (by simp[iI,kC])) ?_;intro _;simp only[iv,iI];have hs:=trivial;repeat' first|(with_reducible first|refine zz ?_|refine ze ?_|refine zE QY ?_)|simp -dsimp[hs]|refine i8 ?_ ?_<;>intro h<;>try exact h.elim|with_reducible refine And.intro ?_ ?_
    rw[hE]
def nr (l:List Issue) (lets:List Int) (d:Int):List (Int×Int):=kC [] (P5 (u9 l lets) 6 d 1)
def L9 (ns:List Int) (m:List (Int×Int)):List Itm:=(ns.filter λn=>decide (0<n7 m n)).map λn=>⟨n,n7 m n⟩
def co (l:List Issue) (lets:List Int) (d:Int):List Itm:=if C4 l lets d=0 then L9 (nums l) (nr l lets d) else []
@[simp] abbrev QZ:List Nat:=[0,1,2,3,6,7,8,9,10,11,12,13,15,25,35,36,37,38,44]
theorem xR (l:List Issue) (lets:List Int) (d:Int) (hG:p8 G) (hs:W4 l) (hll:lets.length<1000000):zP prog G 269 [G8 l,v6 lets,iv d] (.tup [.one (.im (.sl ((co l lets d).map A2))),iv (C4 l lets d)]):=by
 refine zf func269 ntmps269 ?_;try simp only[G8,v6,iv]
 have c1:=zW (G:=G) l lets d hG hs hll;by_cases hE:C4 l lets d=0
 ·have h0:j8 l=0:=by
   by_cases h:j8 l=0
   ·exact h
   ·simp[C4,h] at hE
  have hlet:A1 l lets=true:=by
   cases h:A1 l lets
   ·simp[C4,h0,h] at hE
   ·rfl
  have hd:d∈nums l:=Classical.byContradiction λh=>by simp[C4,h0,hlet,h] at hE
  obtain⟨dep,hdep⟩:=rX h0;have c2:=uk (G:=G) l lets h0 hlet dep hdep 6 d 1 [] hd (by have:=(hdep d hd).2.1;omega);have hR:co l lets d=L9 (nums l) (nr l lets d):=by simp[co,hE]
  have hnl:(nums l).length<=l.length:=A7 l l.length;have hl80:=hs.1;change DCall _ _ _ _ _ (λr o=>r=.tup []/\o=iI (br l lets) (nr l lets d)) at c2;generalize nr l lets d=cnt at *;simp only[bu,hE,if_true,A4] at c1;simp only[iv,iI,show O7 []=[] from rfl] at c2;generalize nums l=ns at *;have hs:=trivial;repeat' first|(with_reducible first|refine zz ?_|refine zE QZ ?_)|simp -dsimp[hs]|refine zp c1 ?_|refine CallE.embed [2,3,4,5] (c2) ?_ ?_ ?_ ?_ ?_ ?_;(focus simp[u7];done);(focus simp;done);(focus simp;done);(focus simp;done);(focus refine o9 ?_;simp[u7,r9];done);try simp -dsimp[o6,u7,hs]|refine i8 ?_ ?_<;>intro h<;>try exact h.elim
  all_goals try clear hs
  refine i6 (ι:={ p:Nat×Nat×Bool×List Itm // p.1<=ns.length/\p.2.2.2.length<=p.1/\L9 ns cnt=p.2.2.2++L9 (ns.drop p.1) cnt }) (λp=>⟨55,[(11,.one (.ptr 4 0)),(13,.one (.vec 6 p.1.2.1 0 p.1.2.2.2.length)),(35,v6 ns),(36,iv (ns.length:Int)),(37,iv (p.1.1:Int))],[.row [.im (.sl (l.map e9))],.vec 2 [] 0 true,.row [.im (.mp [.int .i64] (ej (br l lets)))],.map [.int .i64] (O7 cnt),.row [.map 3],.row [.fn (.func 282) [.ptr 2 0,.ptr 4 0,.ptr 5 0]],.vec 2 (n3 (p.1.2.2.2.map A2)) p.1.2.1 p.1.2.2.1]⟩) (λp=>ns.length-p.1.1) ⟨(0,0,true,[]),by simp⟩ (zv [11,13,35,36,37]) ?_;rintro⟨⟨k,g,nl,out⟩,hk,hol,hp⟩;simp only at hk hol hp;simp only[iv,v6];by_cases hlt:k<ns.length
  ·have hx:ns[k]?=some ns[k]:=by simp[hlt]
   have hw:=zk k;rw[List.drop_eq_getElem_cons hlt] at hp;by_cases hpos:0<n7 cnt ns[k]
   ·rw[L9,L9,List.filter_cons_of_pos (by simpa using hpos),List.map_cons] at hp;have hs:=za hx (za hw (za hlt hpos));repeat' first|(with_reducible first|refine zz ?_|refine And.intro (by omega) ?_|refine zE QZ ?_)|simp -dsimp[hs]|refine i8 ?_ ?_<;>intro h<;>try exact h.elim
    all_goals try clear hs
    all_goals try omega
    exact zn ⟨(k+1,g+1,false,out++[⟨ns[k],n7 cnt ns[k]⟩]),by omega,by simp;omega,by rw[L9,hp,L9];simp⟩ (zw [11,13,35,36,37] 7)
   ·rw[L9,L9,List.filter_cons_of_neg (by simpa using hpos)] at hp;have hs:=za hx (za hw (za hlt hpos));repeat' first|(with_reducible first|refine zz ?_|refine zE QZ ?_)|simp -dsimp[hs]|refine i8 ?_ ?_<;>intro h<;>try exact h.elim
    all_goals try clear hs
    exact zn ⟨(k+1,g,nl,out),by omega,by show out.length<=k+1;omega,hp⟩ (zv [11,13,35,36,37])
  ·rw[List.drop_eq_nil_of_le (by omega)] at hp;have hs:=hlt;repeat' first|(with_reducible first|refine zz ?_|refine zr ?_|refine zE QZ ?_)|simp -dsimp[hs]|refine i8 ?_ ?_<;>intro h<;>try exact h.elim
   all_goals try clear hs
   all_goals try omega
   rw[hR,hp];simp[L9,hE]
 ·have hR:co l lets d=[]:=by simp[co,hE]
  simp only[bu,hE,if_false] at c1;have hs:=hE;repeat' first|(with_reducible first|refine zz ?_|refine zr ?_|refine zE QZ ?_)|simp -dsimp[hs]|refine zp c1 ?_|refine i8 ?_ ?_<;>intro h<;>try exact h.elim
  all_goals try clear hs
  simp[hR]
end Go.Proofs
namespace Go.Ab
open Go
structure Link where
 drawing:Int
 dim:Int
 back:Bool
 deriving DecidableEq
structure ChLoop where
 links:List Link
 lo:Int
 hi:Int
 deriving DecidableEq
structure Chains where
 reg:List Issue
 lets:List Int
 of:Int
 loops:List ChLoop
 deriving DecidableEq
def H2 (x:Link):List IC:=[rI x.drawing,rI x.dim,rB x.back]
def I3 (x:ChLoop):List IC:=[.sl (x.links.map H2),rI x.lo,rI x.hi]
def R4 (c:Chains):List IC:=[.sl (c.reg.map e9),.sl (c.lets.map encI),rI c.of,.sl (c.loops.map I3)]
def AT (x:Link):DV:=.agg ((H2 x).map .im)
def lX (x:ChLoop):DV:=.agg ((I3 x).map .im)
def CU (c:Chains):DV:=.agg ((R4 c).map .im)
attribute [simp] H2 I3 R4 AT lX CU
end Go.Ab
namespace Go.Proofs
open Go Go.Ab
variable {G:LY}
theorem xA (x lo hi:Int):DCall Tryz.prog G 189 (iv x :: [DC.ptr 0 0,DC.ptr 1 0].map .one) [.row [.im (rI lo)],.row [.im (rI hi)]] (λd o=>d=bv (decide (x<lo)||decide (hi<x))/\o=[.row [.im (rI lo)],.row [.im (rI hi)]]):=by
 refine g9 Tryz.func189 rfl Tryz.ntmps189 (by simp) rfl ?_;simp only[rI];have hs:=trivial;repeat' first|(with_reducible first|refine zz ?_|refine zr ?_|refine zE [0,1,2,4] ?_)|simp -dsimp[hs]|with_reducible refine j0 ?_ ?_<;>intro h<;>have h0:=h<;>(try simp only[i7] at h)<;>have h2:=h<;>(try simp at h2)<;>replace hs:=za h0 (za h (za h2 hs))|with_reducible refine And.intro ?_ ?_
 all_goals try clear hs
 all_goals simp[*]
theorem cg (lo hi:Int) (l:List Int) (hl:l.length<1000000):zP Tryz.prog G 142 [iv lo,iv hi,v6 l] (bv (l.all λx=>decide (lo<=x)&&decide (x<=hi))):=by
 refine zf Tryz.func142 Tryz.ntmps142 ?_;try simp only[iv,iv,v6]
 have hc:=D6 (G:=G) l (λx=>decide (x<lo)||decide (hi<x)) 189 [.ptr 0 0,.ptr 1 0] [.row [.im (rI lo)],.row [.im (rI hi)]] (by simp) (λx _=>xA x lo hi) hl;simp only[rI] at hc;repeat' first|(with_reducible first|refine zz ?_|refine zx ?_|refine zE [0,1,2,3,4,6] ?_)|simp -dsimp|refine CallE.here hc ?_
 rw[Bool.eq_iff_iff];simp;exact exists_congr λx=>and_congr_right λ_=>by omega
def K8 (c:Chains) (D:List (Int×Int)) (B:List (Int×Issue)):IC:=.ip [.sl (c.reg.map e9),.sl (c.lets.map encI),rI c.of,.sl (c.loops.map I3),.mp [.int .i64] (aL D),.mp [.int .i64] (ej B)]
def uD (x:ChLoop):Bool:=decide (1<=x.links.length)&&decide (x.links.length<=8)
def sk (x:ChLoop):Bool:=(decide (-8000000000<=x.lo)&&decide (x.lo<=8000000000))&&(decide (-8000000000<=x.hi)&&decide (x.hi<=8000000000))&&decide (x.lo<=x.hi)
def Y6 (D:List (Int×Int)) (B:List (Int×Issue)):List (Int×Int)->List Link->Bool
 | _,[]=>true
 | U,y :: r=>decide (n7 U y.drawing+1<=n7 D y.drawing)&&(decide (0<=y.dim)&&decide (y.dim<=((K3 B y.drawing).dims.length:Int)-1))&&Y6 D B (O5 y.drawing (n7 U y.drawing+1) U) r
theorem HA (d:IC) (x:ChLoop):zP Tryz.prog G 345 [.one (.im d),lX x] (bv (uD x)):=by
 refine zf Tryz.func345 Tryz.ntmps345 ?_;try simp only[lX]
 have c1:=cg (G:=G) 1 8 [(x.links.length:Int)] (by simp);repeat' first|(with_reducible first|refine zz ?_|refine zx ?_|refine zE [1,3,4] ?_)|simp -dsimp|refine zt c1 ?_ ?_ ?_;(focus simp;done);focus (simp;done)
 rw[Bool.eq_iff_iff];simp[uD];omega
theorem BQ (x:ChLoop):sk x=true↔-8000000000<=x.lo/\x.lo<=8000000000/\-8000000000<=x.hi/\x.hi<=8000000000/\x.lo<=x.hi:=by
 simp[sk];omega
theorem Hz (d:IC) (x:ChLoop):zP Tryz.prog G 346 [.one (.im d),lX x] (bv (sk x)):=by
 refine zf Tryz.func346 Tryz.ntmps346 ?_;try simp only[lX]
 have c1:=cg (G:=G) (-8000000000) 8000000000 [x.lo,x.hi] (by simp);have hi:=BQ x;cases hq:([x.lo,x.hi].all λy=>decide (-8000000000<=y)&&decide (y<=8000000000))
 ·rw[hq] at c1;repeat' first|(with_reducible first|refine zz ?_|refine zx ?_|refine zE [1,3,4] ?_)|simp -dsimp|refine zt c1 ?_ ?_ ?_;(focus simp;done);focus (simp;done)
  all_goals simp at hq
  all_goals exact ei hi (by omega)
 ·rw[hq] at c1;repeat' first|(with_reducible first|refine zz ?_|refine zx ?_|refine zE [1,3,4] ?_)|simp -dsimp|refine zt c1 ?_ ?_ ?_;(focus simp;done);focus (simp;done)
  all_goals simp at hq
  all_goals rw[Bool.eq_iff_iff,hi]
  all_goals simp
  all_goals omega
@[simp] abbrev Qy:List Nat:=[0,1,3,4,5,7,10,11,12,13,48]
theorem Hy (c:Chains) (D:List (Int×Int)) (B:List (Int×Issue)) (x:ChLoop) (hl:x.links.length<1000000) (hB:∀ n,(K3 B n).dims.length<1000000):zP Tryz.prog G 347 [.one (.im (K8 c D B)),lX x] (bv (Y6 D B [] x.links)):=by
 refine zf Tryz.func347 Tryz.ntmps347 ?_;try simp only[lX]
 simp only[K8];have hs:=trivial;repeat' first|(with_reducible first|refine zz ?_|refine zE Qy ?_)|simp -dsimp[hs]
 refine i6 (ι:={ p:Nat×List (Int×Int) // p.1<=x.links.length/\Y6 D B [] x.links=Y6 D B p.2 (x.links.drop p.1)/\bd p.2 p.1 }) (λp=>⟨50,[(0,.one (.im (K8 c D B))),(5,.one (.map 1)),(10,.one (.im (.sl (x.links.map H2)))),(11,iv (x.links.length:Int)),(12,iv (p.1.1:Int))],[.row ((I3 x).map .im),.map [.int .i64] (O7 p.1.2)]⟩) (λp=>x.links.length-p.1.1) ⟨(0,[]),by simp[bd]⟩ (zv [0,5,10,11,12] (by simp[K8,O7])) ?_;rintro⟨⟨k,U⟩,hk,hu,hb⟩;simp only at hk hu hb;simp only[iv,K8];by_cases hlt:k<x.links.length
 ·have hx:x.links[k]?=some x.links[k]:=by simp[hlt]
  have hw:=zk k;have hbl:=wc hb x.links[k].drawing;have hwu:IntKind.i64.wrap (n7 U x.links[k].drawing+1)=n7 U x.links[k].drawing+1:=o7 (by omega) (by omega);have hput:n7 (O5 x.links[k].drawing (n7 U x.links[k].drawing+1) U) x.links[k].drawing=n7 U x.links[k].drawing+1:=by rw[ak,if_pos rfl]
  have hBn:=hB x.links[k].drawing;have hwd:IntKind.i64.wrap (((K3 B x.links[k].drawing).dims.length:Int)-1)=((K3 B x.links[k].drawing).dims.length:Int)-1:=o7 (by omega) (by omega);have c1:=cg (G:=G) 0 (((K3 B x.links[k].drawing).dims.length:Int)-1) [x.links[k].dim] (by simp);have hbn:bd (O5 x.links[k].drawing (n7 U x.links[k].drawing+1) U) (k+1):=uM (fe hb (by omega)) (by omega) (by omega);rw[List.drop_eq_getElem_cons hlt,Y6] at hu;by_cases hle:n7 U x.links[k].drawing+1<=n7 D x.links[k].drawing
  ·rw[decide_eq_true hle,Bool.true_and] at hu;cases hq:([x.links[k].dim].all λy=>decide (0<=y)&&decide (y<=((K3 B x.links[k].drawing).dims.length:Int)-1))
   ·rw[hq] at c1;have hq':(decide (0<=x.links[k].dim)&&decide (x.links[k].dim<=((K3 B x.links[k].drawing).dims.length:Int)-1))=false:=by simpa using hq
    rw[hq',Bool.false_and] at hu;have hs:=za hx (za hw (za hlt (za hwu (za hput (za hwd hle)))));repeat' first|(with_reducible first|refine zz ?_|refine zr ?_)|simp -dsimp[hs]|refine zq c1 ?_|refine zM 6 50 28 Qy ?_|with_reducible refine zE Qy ?_|refine i8 ?_ ?_<;>intro h<;>try exact h.elim
    rw[hu]
   ·rw[hq] at c1;have hq':(decide (0<=x.links[k].dim)&&decide (x.links[k].dim<=((K3 B x.links[k].drawing).dims.length:Int)-1))=true:=by simpa using hq
    rw[hq',Bool.true_and] at hu;have hs:=za hx (za hw (za hlt (za hwu (za hput (za hwd hle)))));repeat' first|with_reducible refine zz ?_|simp -dsimp[hs]|refine zq c1 ?_|refine zM 6 50 28 Qy ?_|with_reducible refine zE Qy ?_|refine i8 ?_ ?_<;>intro h<;>try exact h.elim
    exact zn ⟨(k+1,O5 x.links[k].drawing (n7 U x.links[k].drawing+1) U),by omega,hu,hbn⟩ (zw [0,5,10,11,12] 2 (by simp[K8]))
  ·rw[decide_eq_false hle,Bool.false_and,Bool.false_and] at hu;have hs:=za hx (za hw (za hlt (za hwu (za hput (za hwd hle)))));repeat' first|(with_reducible first|refine zz ?_|refine zr ?_)|simp -dsimp[hs]|refine zM 6 50 28 Qy ?_|with_reducible refine zE Qy ?_|refine i8 ?_ ?_<;>intro h<;>try exact h.elim
   rw[hu]
 ·rw[List.drop_eq_nil_of_le (by omega)] at hu;have hs:=hlt;repeat' first|(with_reducible first|refine zz ?_|refine zr ?_|refine zE Qy ?_)|simp -dsimp[hs]|refine i8 ?_ ?_<;>intro h<;>try exact h.elim
  rw[hu];rfl
end Go.Proofs
