/- Part 14 of the proofs. -/
import Derived.Test.YtjodaihiogfkbaaGreatDoorRows
import Derived.Test.YtjodaihiogfkbaaGreatDoorR08
import Derived.Test.YtjodaihiogfkbaaGreatDoorR10
import Derived.Test.YtjodaihiogfkbaaGreatDoorR12
import Derived.Test.YtjodaihiogfkbaaGreatDoorR13
set_option linter.all false
set_option linter.deprecated false
set_option maxHeartbeats 100000000
namespace Go.Ab
open Go
theorem qc {α:Type} {enc:α→List IC} {ok:α→Prop}:∀ (es:List (List IC)),(∀ x∈es,∃ a,ok a∧x=enc a)→∃ xs:List α,(∀ x∈xs,ok x)∧es=xs.map enc
 | [],_=>⟨[],by simp,rfl⟩
 | e :: es,h=>by
   obtain⟨a,ha,rfl⟩:=h e (by simp)
   obtain⟨xs,hx,rfl⟩:=qc es fun x hx=>h x (by simp[hx])
   exact⟨a :: xs,by simpa using⟨ha,hx⟩,rfl⟩
theorem Opens.sliceOf {P:Program} {t e:TypeId} {α:Type} {enc:α→List IC} {ok:α→Prop} {sz:Nat} (ht:P.underlying t=some (.slice e)) (hc:P.cellsOf e=sz) (h0:0<sz) (hl:∀ x,(enc x).length=sz) (he:Opens P e (fun l=>∃ x,ok x∧l=enc x)) :
 Opens P t (fun l=>∃ xs:List α,(∀ x∈xs,ok x)∧l=[.sl (xs.map enc)]):=
 (Opens.slice ht hc h0 he (by rintro l ⟨x,_,rfl⟩;exact hl x)).mono (by
  rintro l ⟨es,h,rfl⟩
  obtain⟨xs,h1,rfl⟩:=qc es h
  exact⟨xs,h1,rfl⟩)
def fp (x:Issue):Prop:=0≤x.kind∧x.kind≤255
end Go.Ab
namespace Go.Proofs
open Go Go.Ab
def Rd (t:TypeId) {α:Type} (enc:α→List IC) (ok:α→Prop):Prop:=Opens Tryz.prog t (fun l=>∃ x,ok x∧l=enc x)
theorem oInt:Opens Tryz.prog 3 (fun l=>∃ n:Int,l=[rI n]):=(Opens.int Tryz.underlying3).mono (by rintro l ⟨n,_,rfl⟩;exact⟨n,rfl⟩)
theorem Hp:Opens Tryz.prog 5 (fun l=>∃ n:Int,(0≤n∧n≤255)∧l=[.raw (.int .u8 n)]):=(Opens.int Tryz.underlying5).mono (by
 rintro l ⟨n,hn,rfl⟩
 exact⟨n,by simpa[IntKind.min,IntKind.max,IntKind.signed,IntKind.bits] using hn,rfl⟩)
theorem Ep:Opens Tryz.prog 4 (fun l=>∃ b:Bool,l=[rB b]):=Opens.bool Tryz.underlying4
theorem Hb:Rd 3 encI (fun _=>True):=oInt.mono (by rintro l ⟨n,rfl⟩;exact⟨n,trivial,rfl⟩)
theorem wg {α:Type} {l:List α} (h:l.length=2):∃ a b,l=[a,b]:=by
 match l,h with
 | [a,b],_=>exact⟨a,b,rfl⟩
theorem CR {α:Type} {l:List α} (h:l.length=3):∃ a b c,l=[a,b,c]:=by
 match l,h with
 | [a,b,c],_=>exact⟨a,b,c,rfl⟩
theorem HQ {α:Type} {l:List α} (h:l.length=4):∃ a b c d,l=[a,b,c,d]:=by
 match l,h with
 | [a,b,c,d],_=>exact⟨a,b,c,d,rfl⟩
theorem HP {α:Type} {l:List α} (h:l.length=5):∃ a b c d e,l=[a,b,c,d,e]:=by
 match l,h with
 | [a,b,c,d,e],_=>exact⟨a,b,c,d,e,rfl⟩
def yU {α:Type} (d:α) (a b c:α):Nat→α|0=>a|1=>b|2=>c|_=>d
def Em {α:Type} (z:α) (a b c d e:α):Nat→α|0=>a|1=>b|2=>c|3=>d|4=>e|_=>z
theorem EW:Rd 181 B5 (fun _=>True):=(Opens.struct Tryz.underlying181 (by kernel_rfl) (fun _ l=>∃ n:Int,l=[rI n]) (fun i f hf=>by
 rcases i with _|_|i<;>simp at hf<;>subst hf<;>exact oInt)).mono (by
 rintro l ⟨ls,h1,h2,rfl⟩
 obtain⟨a,b,rfl⟩:=wg h1
 obtain⟨x,rfl⟩:=h2 0 a rfl
 obtain⟨y,rfl⟩:=h2 1 b rfl
 exact⟨⟨x,y⟩,trivial,rfl⟩)
theorem Hc:Rd 102 E5 (fun _=>True):=(Opens.struct Tryz.underlying102 (by kernel_rfl) (fun _ l=>∃ n:Int,l=[rI n]) (fun i f hf=>by
 rcases i with _|_|_|i<;>simp at hf<;>subst hf<;>exact oInt)).mono (by
 rintro l ⟨ls,h1,h2,rfl⟩
 obtain⟨a,b,c,rfl⟩:=CR h1
 obtain⟨x,rfl⟩:=h2 0 a rfl
 obtain⟨y,rfl⟩:=h2 1 b rfl
 obtain⟨z,rfl⟩:=h2 2 c rfl
 exact⟨⟨x,y,z⟩,trivial,rfl⟩)
theorem Fk:Opens Tryz.prog 176 (fun l=>∃ xs:List Itm,l=[.sl (xs.map B5)]):=
 (Opens.sliceOf Tryz.underlying176 (sz:=2) (by kernel_rfl) (by decide) (fun _=>rfl) EW).mono (by rintro l ⟨xs,_,h⟩;exact⟨xs,h⟩)
theorem Hu:Opens Tryz.prog 108 (fun l=>∃ xs:List Dim,l=[.sl (xs.map E5)]):=
 (Opens.sliceOf Tryz.underlying108 (sz:=3) (by kernel_rfl) (by decide) (fun _=>rfl) Hc).mono (by rintro l ⟨xs,_,h⟩;exact⟨xs,h⟩)
theorem Eo:Opens Tryz.prog 40 (fun l=>∃ xs:List Int,l=[.sl (xs.map encI)]):=
 (Opens.sliceOf Tryz.underlying40 (sz:=1) (by kernel_rfl) (by decide) (fun _=>rfl) Hb).mono (by rintro l ⟨xs,_,h⟩;exact⟨xs,h⟩)
theorem Cn:Rd 178 g9 fp:=(Opens.struct Tryz.underlying178 (by kernel_rfl) (Em (fun _=>True) (fun l=>∃ n:Int,l=[rI n]) (fun l=>∃ n:Int,l=[rI n]) (fun l=>∃ n:Int,(0≤n∧n≤255)∧l=[.raw (.int .u8 n)]) (fun l=>∃ xs:List Itm,l=[.sl (xs.map B5)]) (fun l=>∃ xs:List Dim,l=[.sl (xs.map E5)])) (fun i f hf=>by
 rcases i with _|_|_|_|_|i<;>simp at hf<;>subst hf
 ·exact oInt
 ·exact oInt
 ·exact Hp
 ·exact Fk
 ·exact Hu)).mono (by
 rintro l ⟨ls,h1,h2,rfl⟩
 obtain⟨a,b,c,d,e,rfl⟩:=HP h1
 obtain⟨x,rfl⟩:=h2 0 a rfl
 obtain⟨y,rfl⟩:=h2 1 b rfl
 obtain⟨z,hz,rfl⟩:=h2 2 c rfl
 obtain⟨u,rfl⟩:=h2 3 d rfl
 obtain⟨v,rfl⟩:=h2 4 e rfl
 exact⟨⟨x,y,z,u,v⟩,hz,rfl⟩)
theorem Fg:Opens Tryz.prog 22 (fun l=>∃ xs:List Issue,(∀ x∈xs,fp x)∧l=[.sl (xs.map g9)]):=
 Opens.sliceOf Tryz.underlying22 (sz:=5) (by kernel_rfl) (by decide) (fun _=>rfl) Cn
theorem Hr:Opens Tryz.prog 24 (fun l=>∃ xs:List Issue,(∀ x∈xs,fp x)∧l=[.sl (xs.map g9)]):=(Opens.struct Tryz.underlying24 (by kernel_rfl) (fun _ l=>∃ xs:List Issue,(∀ x∈xs,fp x)∧l=[.sl (xs.map g9)]) (fun i f hf=>by
 rcases i with _|i<;>simp at hf<;>subst hf<;>exact Fg)).mono (by
 rintro l ⟨ls,h1,h2,rfl⟩
 obtain⟨a,rfl⟩:=List.length_eq_one_iff.1 h1
 obtain⟨x,hx,rfl⟩:=h2 0 a rfl
 exact⟨x,hx,rfl⟩)
theorem T4 {P:Program} {W:World} {t e te n:Nat} {f:Field} {ps rs:Array TypeId} {cs:Array Value} {fuel:Nat} {p:List MemPlace} {names:List (List UInt8)} {fs:List FuncId} (ht:P.underlying t=some (.array n e)) (hte:P.underlying e=some (.struct #[f])) (hf0:f.offset=0) (hft:f.type=te) (hu:P.underlying te=some (.func ps rs false)) (hce:P.cellsOf e=1) (hcf:P.cellsOf te=1) (hn:names.length=n)
 (hfs:(names.zip fs).all (fun x=>x.1≠[]∧((List.range P.funcs.size).filter fun f=>(P.funcs[f]?).any (·.name.toUTF8.data.toList==x.1))=[x.2])=true) (hl:fs.length=n)
 (h:DataW.trod (funcToken P) P W 0 (fun _=>true) true fuel t cs.toList=some (.agg (names.map fun x=>.agg [.held x]),p)):∀ (j:Nat) (g:FuncId),fs[j]?=some g→cs[j]?=some (.func (.func g) #[] #[]):=by
 obtain⟨xs,m,_,ex,hlen,hxl,hel⟩:=DataW.trod_array ht h
 intro j g hg
 have hj:j<n:=by rw[← hl];exact e7 hg
 have hE:=hel j hj
 rw[hce,Nat.mul_one] at hE
 have hx:xs[j]?=some xs[j]:=by simp[hxl,hj]
 rw[hx] at hE
 obtain⟨ys,m2,_,ey,hlen2,hyl,hel2⟩:=DataW.trod_struct hte hE
 have hE2:=hel2 0 f rfl
 have hyl1:ys.length=1:=by simpa using hyl
 obtain⟨y,rfl⟩:=List.length_eq_one_iff.1 hyl1
 rw[hf0,hft,hcf] at hE2
 have hcl:j<cs.size:=by
  rcases Nat.lt_or_ge j cs.size with h1|h1
  ·exact h1
  ·simp[hce] at hlen2;omega
 have hc1:((cs.toList.drop j).take 1)=[cs[j]]:=by
  rw[List.drop_eq_getElem_cons (by simpa using hcl)];simp
 rw[hc1] at hE2
 simp only[List.drop_zero,List.take_succ_cons,List.getElem?_cons_zero,List.take_nil] at hE2
 have hnm:names[j]?=some names[j]:=by simp[hn,hj]
 have e1:(xs.map (·.1))[j]?=(names.map fun x=>DataW.agg [DataW.held x])[j]?:=by rw[(DataW.agg.inj (Prod.mk.inj ex).1)]
 rw[List.getElem?_map,List.getElem?_map,hx,hnm,ey] at e1
 simp only[Option.map_some,Option.some.injEq,DataW.agg.injEq,List.map_cons,List.map_nil,List.cons.injEq,and_true] at e1
 have hall:=List.all_eq_true.1 hfs (names[j],g) (List.mem_iff_getElem?.2 ⟨j,by rw[List.getElem?_zip_eq_some];exact⟨hnm,hg⟩⟩)
 simp only[decide_eq_true_eq] at hall
 cases hnj:names[j] with
 | nil=>exact absurd hnj hall.1
 | cons b r =>
   rw[hnj] at hall e1
   have:=func_of_trod (f0:=g) (q:=y.2) hu hall.2 (by rw[hE2,← e1])
   rw[Array.getElem?_eq_getElem hcl,this]
end Go.Proofs
namespace Go.Proofs
open Go Go.Ab
theorem qB {l:List Issue} (h:j8 l=0):∃ dep:Int→Int,∀ n∈nums l,1≤dep n∧dep n≤6∧∀ c∈cQ l n,c∈nums l∧dep c<dep n:=by
 have hL:u3 l=true:=by
  cases hL:u3 l
  ·simp[j8,hL] at h
  ·rfl
 have h2:¬ Y3 (D4 l) > (D4 l).length:=fun hg=>by simp[j8,hL,hg] at h
 have h6:¬ Y3 (D4 l) > 6:=fun hg=>by simp[j8,hL,h2,hg] at h
 have hsc:=hL
 simp only[u3,Bool.and_eq_true] at hsc
 obtain⟨ds,hds⟩:=Option.isSome_iff_exists.1 hsc.1.1.2
 obtain⟨e,hlt,_,_,_⟩:=O2 hds
 have hall:=hsc.1.2
 rw[← e] at hall
 have hnd:ds.Nodup:=hlt.imp fun h=>Int.ne_of_lt h
 have hch:∀ n∈ds,∀ c∈cQ l n,c∈ds:=fun n _ c hc=>by
  simp only[cQ,List.mem_flatMap,List.mem_map] at hc
  obtain⟨x,hx,y,hy,rfl⟩:=hc
  have:=List.all_eq_true.1 (List.all_eq_true.1 hall x (List.mem_filter.1 hx).1) y hy
  simpa using this
 have e1:∀ n∈ds,Rr l (ds.length+1) n≤ds.length:=fun n hn=>Int.not_lt.1 fun hg=>h2 (by
  have:=(jN (Rr l (ds.length+1)) ds ds.length (by omega)).2 ⟨n,hn,hg⟩
  simpa[D4,← e] using this)
 have e2:∀ n∈ds,Rr l (ds.length+1) n≤6:=fun n hn=>Int.not_lt.1 fun hg=>h6 (by
  have:=(jN (Rr l (ds.length+1)) ds 6 (by omega)).2 ⟨n,hn,hg⟩
  simpa[D4,← e] using this)
 have h0:DInv l ds ([],gv ds):=by
  rw[ld hnd]
  exact⟨hnd,fun n h=>h,by simp,by simp,fun n h h'=>absurd h h'⟩
 obtain⟨hi,_⟩:=fB hch ds.length _ h0
 change DInv l ds (p6 l ds) at hi
 obtain⟨d1,d2⟩:=gM hnd hch
 have hz:(p6 l ds).2.length=0:=by
  refine Nat.eq_zero_of_not_pos fun hp=>?_
  obtain⟨n,hn,hg⟩:=d1.1 hp
  have:=e1 n hn;omega
 have hempty:∀ n,n∉(p6 l ds).2:=fun n=>by rw[List.length_eq_zero_iff.1 hz];simp
 refine⟨l9 (p6 l ds).1,fun n hn=>?_⟩
 rw[← e] at hn
 obtain⟨a,b,c⟩:=hi.val n hn (hempty n)
 have hn1:=c (ds.length+1) (by omega)
 refine⟨a,by have:=e2 n hn;omega,fun m hm=>?_⟩
 have hmd:=hch n hn m hm
 obtain⟨a',b',c'⟩:=hi.val m hmd (hempty m)
 have hm1:=c' ds.length (by omega)
 have hle:=nc (f:=Rr l ds.length) hm
 have hr:Rr l (ds.length+1) n=1+mx (Rr l ds.length) (cQ l n):=rfl
 exact⟨by rw[← e];exact hmd,by omega⟩
open Go Go.Ab Tryz
variable {G:KB}
theorem vf (n lo hi:Int):zP prog G 319 [iv n,iv lo,iv hi] (bv (decide (lo≤n)&&decide (n≤hi))):=by
 refine zf func319 ntmps319 ?_
 try simp only[iv,iv,iv]
 have hs:=trivial
 repeat' first|(with_reducible first|refine zz ?_|refine zr ?_|refine zE [0,1,2,6] ?_)|simp -dsimp[hs]|with_reducible refine j0 ?_ ?_<;>intro h<;>have h0:=h<;>(try simp only[i7] at h)<;>have h2:=h<;>(try simp at h2)<;>replace hs:=za h0 (za h (za h2 hs))
 all_goals try clear hs
 all_goals simp[*]
theorem Z7 (d:Dim):J5 d=true↔0≤d.nominal∧d.nominal≤1000000000∧0≤d.upper∧d.upper≤1000000000∧0≤d.lower∧d.lower≤d.upper:=by
 simp[J5];omega
theorem dI {b:Bool} {p:Prop} (h:b=true↔p) (hn:¬ p):b=false:=by
 cases b
 ·rfl
 ·exact absurd (h.1 rfl) hn
theorem BZ {b:Bool} {p:Prop} (h:b=true↔p) (hn:p):b=true:=h.2 hn
theorem In (d:Dim):zP prog G 313 [gL d] (bv (J5 d)):=by
 refine zf func313 ntmps313 ?_
 try simp only[gL]
 have hs:=trivial
 repeat' first|(with_reducible first|refine zz ?_|refine zr ?_|refine zE [0,1,2] ?_)|simp -dsimp[hs]|refine zp (vf (G:=G) _ _ _) ?_|with_reducible refine j0 ?_ ?_<;>intro h<;>have h0:=h<;>(try simp only[i7] at h)<;>have h2:=h<;>(try simp at h2)<;>replace hs:=za h0 (za h (za h2 hs))
 ·rw[Bool.eq_iff_iff,Z7];simp;omega
 ·exact dI (Z7 d) (by omega)
 ·exact dI (Z7 d) (by omega)
theorem dP (x:Issue):(AO x&&BP x)=true↔1≤x.drawing∧x.drawing≤9999∧1≤x.letter∧x.letter≤8∧(x.kind=1∧1≤x.items.length∧x.items.length≤8∧x.dims.length=0∨2≤x.kind∧x.kind≤3∧x.dims.length≤4∧x.items.length=0):=by
 unfold AO BP
 split
 ·simp only[Bool.and_eq_true,decide_eq_true_eq];omega
 ·simp only[Bool.and_eq_true,decide_eq_true_eq];omega
theorem oB {d:Int} {l:List Itm} {k:Nat} (hlt:k<l.length) (hno:F7 d 0 l=F7 d (pv l k) (l.drop k)) :
 F7 d 0 l=true↔(1≤l[k].drawing∧l[k].drawing≤9999∧1≤l[k].count∧l[k].count≤20∧l[k].drawing≠d∧pv l k<l[k].drawing)∧F7 d (pv l (k+1)) (l.drop (k+1))=true:=by
 have hx:l[k]?=some l[k]:=by simp[hlt]
 have hpv1:pv l (k+1)=l[k].drawing:=by simp[pv,hx]
 rw[hno,List.drop_eq_getElem_cons hlt,F7,hpv1]
 simp only[Bool.and_eq_true,decide_eq_true_eq,Bool.not_eq_true',decide_eq_false_iff_not]
 constructor
 ·rintro⟨⟨⟨⟨⟨a,b⟩,c,d⟩,e⟩,f⟩,g⟩;exact⟨⟨a,b,c,d,e,f⟩,g⟩
 ·rintro⟨⟨a,b,c,d,e,f⟩,g⟩;exact⟨⟨⟨⟨⟨a,b⟩,c,d⟩,e⟩,f⟩,g⟩
theorem I8 {b c:Bool} {p:Prop} (h:b=true↔p∧c=true) (hp:p):b=c:=by
 rw[Bool.eq_iff_iff,h];exact⟨fun h=>h.2,fun h=>⟨hp,h⟩⟩
theorem F3 {b c:Bool} {p:Prop} (h:b=true↔p∧c=true) (hp:¬ p):b=false:=dI h fun h=>hp h.1
theorem bN {α:Type} {f:α→Bool} {l:List α} {k:Nat} (hlt:k<l.length) (hno:l.all f=(l.drop k).all f):l.all f=true↔f l[k]=true∧(l.drop (k+1)).all f=true:=by
 rw[hno,List.drop_eq_getElem_cons hlt,List.all_cons,Bool.and_eq_true]
theorem CU (x:Issue) (hk:0≤x.kind∧x.kind≤255) (hl:x.items.length<1000000) (hd:x.dims.length<1000000):zP prog G 301 [P6 x] (bv (o3 x)):=by
 refine zf func301 ntmps301 ?_
 try simp only[P6]
 have hw:IntKind.i64.wrap x.kind=x.kind:=o5 (by omega) (by omega)
 have h12:=dP x
 generalize hA:(AO x&&BP x)=A at h12
 have hs:=hw
 repeat' first|(with_reducible first|refine zz ?_|refine zr ?_|refine zE [0,1,2,3,4,5,57,62,102,107,116] ?_)|simp -dsimp[hs]|refine zp (cS (G:=G) _ _ _) ?_|refine i9 ?_ ?_<;>intro h<;>try simp only[i7] at h|with_reducible refine j0 ?_ ?_<;>intro h<;>have h0:=h<;>(try simp only[i7] at h)<;>have h2:=h<;>(try simp at h2)<;>replace hs:=za h0 (za h (za h2 hs))
 all_goals try clear hs
 all_goals first
  | (have hA2 : A = false := dI h12 (by clear h12 hA hw; omega)
     rw[hA2] at hA
     simp[o3,hA];done)
  | have hA2:A=true:=BZ h12 (by clear h12 hA hw;omega)
    rw[hA2] at hA
    clear h12 hA2
    refine i6 (ι:={ k:Nat // k≤x.items.length∧F7 x.drawing 0 x.items=F7 x.drawing (pv x.items k) (x.items.drop k) }) (fun p=>⟨117,[(1,.one (.ptr 0 0)),(2,bv false),(3,iv (p.1:Int))],[.row ((g9 x).map .im)]⟩) (fun p=>x.items.length-p.1) ⟨0,by simp[pv]⟩ (zv [1,2,3] (by clear hA;simp_all)) ?_
    clear hw
    rintro⟨k,hk,hno⟩
    simp only[iv,g9,rI,List.map_cons,List.map_nil]
 all_goals
  by_cases hlt:k<x.items.length
  ·have hx:x.items[k]?=some x.items[k]:=by simp[hlt]
   have hw:=zk k
   have hst:=oB hlt hno
   by_cases hk0:0<k
   ·have hkx:x.items[k-1]?=some x.items[k-1]:=by simp
    have hw3:IntKind.i64.wrap ((k:Int)-1)=((k-1:Nat):Int):=by rw[o5 (by omega) (by omega)];omega
    have hpv0:pv x.items k=x.items[k-1].drawing:=by
     obtain⟨j,rfl⟩:∃ j,k=j+1:=⟨k-1,by omega⟩
     have:x.items[j]?=some x.items[j]:=by simp
     simp[pv,this]
    rw[hpv0] at hst
    have hs:=za hx (za hw (za hw3 (za hkx (za hk0 hlt))))
    repeat' first|(with_reducible first|refine zz ?_|refine zr ?_)|simp -dsimp[hs]|refine zq (cS (G:=G) _ _ _) ?_|refine zM 7 117 33 [0,1,2,3,4,5,57,62,102,107,116] ?_|with_reducible refine zE [0,1,2,3,4,5,57,62,102,107,116] ?_|refine i9 ?_ ?_<;>intro h<;>try simp only[i7] at h|with_reducible refine j0 ?_ ?_<;>intro h<;>have h0:=h<;>(try simp only[i7] at h)<;>have h2:=h<;>(try simp at h2)<;>replace hs:=za h0 (za h (za h2 hs))
    all_goals try clear hs
    all_goals first
     | (have hf:=F3 hst (by omega);simp[o3,hf];done)
     | exact zn ⟨k+1,by omega,I8 hst (by omega)⟩ (zw [1,2,3] 1)
   ·obtain rfl:k=0:=by omega
    rw[show pv x.items 0=0 from rfl] at hst
    have hs:=za hx (za hw (za hk0 hlt))
    repeat' first|(with_reducible first|refine zz ?_|refine zr ?_)|simp -dsimp[hs]|refine zq (cS (G:=G) _ _ _) ?_|refine zM 7 117 33 [0,1,2,3,4,5,57,62,102,107,116] ?_|with_reducible refine zE [0,1,2,3,4,5,57,62,102,107,116] ?_|refine i9 ?_ ?_<;>intro h<;>try simp only[i7] at h|with_reducible refine j0 ?_ ?_<;>intro h<;>have h0:=h<;>(try simp only[i7] at h)<;>have h2:=h<;>(try simp at h2)<;>replace hs:=za h0 (za h (za h2 hs))
    all_goals try clear hs
    all_goals first
     | (have hf:=F3 hst (by omega);simp[o3,hf];done)
     | exact zn ⟨0+1,by omega,I8 hst (by omega)⟩ (zw [1,2,3] 1 (by simp;exact o5 (by omega) (by omega)))
  ·have hit:F7 x.drawing 0 x.items=true:=by rw[hno,List.drop_eq_nil_of_le (by omega)];rfl
   have hs:=hlt
   repeat' first|(with_reducible first|refine zz ?_|refine zE [0,1,2,3,4,5,57,62,102,107,116] ?_)|simp -dsimp[hs]|refine i9 ?_ ?_<;>intro h<;>try simp only[i7] at h
   all_goals try clear hs
   refine i6 (ι:={ k:Nat // k≤x.dims.length∧x.dims.all J5=(x.dims.drop k).all J5 }) (fun p=>⟨117,[(1,.one (.ptr 0 0)),(2,bv false),(5,iv (p.1:Int))],[.row ((g9 x).map .im)]⟩) (fun p=>x.dims.length-p.1) ⟨0,by simp⟩ (zv [1,2,5]) ?_
   rintro⟨j,hj,hdo⟩
   simp only[iv,g9,rI,List.map_cons,List.map_nil]
   by_cases hlj:j<x.dims.length
   ·have hx:x.dims[j]?=some x.dims[j]:=by simp[hlj]
    have hw:=zk j
    have hst:=bN hlj hdo
    have cd:=In (G:=G) x.dims[j]
    have hs:=za hx (za hw hlj)
    repeat' first|(with_reducible first|refine zz ?_|refine zr ?_|refine zE [0,1,2,3,4,5,57,62,102,107,116] ?_)|simp -dsimp[hs]|refine zp cd ?_|refine i9 ?_ ?_<;>intro h<;>try simp only[i7] at h
    all_goals try clear hs
    ·simp only[o3,hA,hit,Bool.true_and]
     exact F3 hst (by rw[‹J5 x.dims[j]=false›];exact Bool.false_ne_true)
    ·exact zn ⟨j+1,by omega,I8 hst ‹J5 x.dims[j]=true›⟩ (zv [1,2,5])
   ·have hdims:x.dims.all J5=true:=by rw[hdo,List.drop_eq_nil_of_le (by omega)];rfl
    have hs:=hlj
    repeat' first|(with_reducible first|refine zz ?_|refine zr ?_|refine zE [0,1,2,3,4,5,57,62,102,107,116] ?_)|simp -dsimp[hs]|refine i9 ?_ ?_<;>intro h<;>try simp only[i7] at h
    all_goals try clear hs
    simp[o3,hA,hit,hdims]
end Go.Proofs
namespace Go.Ab
open Go
@[simp] theorem II (L:List Int) (k:Nat) (v:Int):(l8 (L.map encI)).set k [DC.im (.raw (.int .i64 v))]=l8 ((L.set k v).map encI):=by
 simp only[l8,List.map_set,encI,rI,List.map_cons,List.map_nil]
@[simp] theorem Ia (L:List Int) (k:Nat):(l8 (L.map encI))[k]?=(L[k]?).map fun v=>[DC.im (.raw (.int .i64 v))]:=by
 simp only[l8,List.getElem?_map,Option.map_map];rfl
@[simp] theorem HZ (L:List Int) (k:Nat) (h:k<(l8 (L.map encI)).length):(l8 (L.map encI))[k]=[DC.im (.raw (.int .i64 (L[k]'(by simpa[q9] using h))))]:=by
 simp[l8]
@[simp] theorem ID (n:Nat) (c:IC):List.replicate n [DC.im c]=l8 (List.replicate n [c]):=by simp[l8]
theorem jO {α β:Type} {f:α→β} {c:β} (h:∀ x,f x=c):∀ l:List α,l.map f=List.replicate l.length c
 | []=>rfl
 | x :: l=>by simp[jO h l,h x,List.replicate_succ]
@[simp] theorem Cc (n:Nat) (c:List IC):(l8 (List.replicate n c)).take n=l8 (List.replicate n c):=List.take_of_length_le (by simp[q9])
theorem kW {α β:Type} {f:α→β} {l:List α} {k:Nat} {x:α} {v:β} (hn:l.Nodup) (hk:l[k]?=some x):(l.map f).set k v=l.map (fun y=>open Classical in if y=x then v else f y):=by
 refine List.ext_getElem? fun j=>?_
 obtain⟨hlt,he⟩:=List.getElem?_eq_some_iff.1 hk
 by_cases hj:j=k
 ·subst hj
  rw[List.getElem?_set_self (by simpa using hlt),List.getElem?_map,hk];simp
 ·rw[List.getElem?_set_ne (Ne.symm hj),List.getElem?_map,List.getElem?_map]
  cases hy:l[j]? with
  | none=>rfl
  | some y =>
    have:y≠x:=fun e=>hj ((List.getElem?_inj (List.getElem?_eq_some_iff.1 hy).1 hn).1 (by rw[hy,hk,e]))
    simp[this]
end Go.Ab
namespace Go.Proofs
open Go Go.Ab Tryz
variable {G:KB}
def Rp (l:List Issue) (r:Nat) (pre:List Issue) (n:Int):Int:=if pre.any (fun x=>decide (x.drawing=n)) then 1+mx (Rr l r) (cQ pre n) else 0
def Rq (l:List Issue) (r:Nat) (v:Int) (ys:List Itm):Int:=max (max v 1) (1+mx (Rr l r) (ys.map (·.drawing)))
theorem mQ (f:Int→Int) (a b:List Int):mx f (a++b)=max (mx f a) (mx f b):=by
 rw[mx,List.foldl_append]
 exact bw f b _ (V0 f a)
theorem Gw (l:List Issue) (r:Nat) (v:Int):Rq l r v []=max v 1:=by
 have:mx (Rr l r) []=0:=rfl
 simp only[Rq,List.map_nil,this];omega
theorem DW (l:List Issue) (r:Nat) (v:Int) (ys:List Itm) (y:Itm):Rq l r v (ys++[y])=max (Rq l r v ys) (1+Rr l r y.drawing):=by
 have h:=nN l r y.drawing
 have:mx (Rr l r) [y.drawing]=Rr l r y.drawing:=by simp only[mx,List.foldl_cons,List.foldl_nil];omega
 simp only[Rq,List.map_append,List.map_cons,List.map_nil,mQ,this];omega
theorem DX (l:List Issue) (r:Nat) (pre:List Issue) (x:Issue) (n:Int):Rp l r (pre++[x]) n=if n=x.drawing then Rq l r (Rp l r pre n) x.items else Rp l r pre n:=by
 by_cases hn:n=x.drawing
 ·subst hn
  rw[if_pos rfl]
  have hc:cQ (pre++[x]) x.drawing=cQ pre x.drawing++x.items.map (·.drawing):=by simp[cQ,dc]
  have h1:=V0 (Rr l r) (cQ pre x.drawing)
  have h2:=V0 (Rr l r) (x.items.map (·.drawing))
  unfold Rp
  rw[if_pos (by simp),hc,mQ]
  unfold Rq
  split
  ·omega
  ·rename_i hp
   have:cQ pre x.drawing=[]:=by
    simp only[cQ,dc]
    rw[List.filter_eq_nil_iff.2 fun y hy=>?_]
    ·rfl
    ·intro he;exact hp (List.any_eq_true.2 ⟨y,hy,he⟩)
   have h3:mx (Rr l r) []=0:=rfl
   rw[this,h3];omega
 ·rw[if_neg hn]
  have hc:cQ (pre++[x]) n=cQ pre n:=by simp[cQ,dc,Ne.symm hn]
  unfold Rp
  rw[hc]
  simp[Ne.symm hn]
theorem DY {l:List Issue} {n:Int} (r:Nat) (h:∃ x∈l,x.drawing=n):Rp l r l n=Rr l (r+1) n:=by
 unfold Rp
 obtain⟨x,hx,he⟩:=h
 rw[if_pos (List.any_eq_true.2 ⟨x,hx,by simpa using he⟩)];rfl
theorem eS {x:Issue} (h:o3 x=true):x.items.length≤8∧x.dims.length≤4:=by
 simp only[o3,Bool.and_assoc] at h
 rw[← Bool.and_assoc,Bool.and_eq_true] at h
 have:=(dP x).1 h.1;omega
theorem pS {l:List Issue} {n:Int} (h:n∈nums l):∃ x∈l,x.drawing=n:=by
 have gen:∀ k,n∈G1 l k→∃ x∈l,x.drawing=n:=by
  intro k
  induction k with
  | zero=>intro h;cases h
  | succ k ih =>
    intro h
    simp only[G1] at h
    rcases List.mem_append.1 h with h|h
    ·exact ih h
    ·split at h
     ·rename_i x hx
      split at h
      ·rw[List.mem_singleton] at h
       exact⟨x,List.mem_of_getElem? hx,h.symm⟩
      ·cases h
     ·cases h
 exact gen _ h
theorem ow {l:List Issue} (h:u3 l=true):p7 none l=some (nums l):=by
 simp only[u3,Bool.and_eq_true] at h
 obtain⟨ds,hds⟩:=Option.isSome_iff_exists.1 h.1.1.2
 rw[hds,ir hds]
theorem iM {l:List Int} (hn:l.Nodup) {k:Nat} {x:Int} (h:l[k]?=some x):idx l x=k:=by
 refine uE h fun j hj he=>?_
 have h1:=(List.getElem?_eq_some_iff.1 h).1
 rw[← he] at h
 have:=(List.getElem?_inj h1 hn).1 h
 omega
theorem vB (l:List Issue) (hl:u3 l=true):zP prog G 266 [I1 l] (u9 (D4 l)):=by
 refine zf func266 ntmps266 ?_
 try simp only[I1]
 have hli:=hl
 simp only[u3,Bool.and_eq_true,decide_eq_true_eq,List.all_eq_true] at hli
 obtain⟨⟨⟨⟨hl1,hl60⟩,hsc⟩,hitems⟩,hn20⟩:=hli
 have c1:=iE (G:=G) l (by omega)
 have hD:D4 l=(nums l).map (Rr l ((nums l).length+1)):=rfl
 obtain⟨_,hlt',hmem,hok,_⟩:=O2 (ow hl)
 have hnd:(nums l).Nodup:=hlt'.imp fun h=>Int.ne_of_lt h
 generalize hns:nums l=ns at *
 have hs:=trivial
 repeat' first|(with_reducible first|refine zz ?_|refine And.intro (by omega) ?_|refine zE [0,1,2,3,4,5,6,7,8,9,10,19,29,53] ?_)|simp -dsimp[hs]|refine zp c1 ?_
 refine i6 (ι:={ r:Nat // r≤ns.length+1 }) (fun p=>⟨78,[(1,.one (.ptr 0 0)),(3,u9 ns),(4,u9 (ns.map (Rr l p.1))),(5,iv (p.1:Int))],[.row [.im (.sl (l.map g9))]]⟩) (fun p=>ns.length+1-p.1) ⟨0,by omega⟩ (zw [1,3,4,5] 1 (by simp[jO (f:=encI ∘ Rr l 0) (c:=[rI 0]) (fun _=>rfl)])) ?_
 rintro⟨r,hr⟩
 simp only[iv,u9]
 by_cases hrl:r≤ns.length
 ·have hw:=zk r
  have hs:=hrl
  repeat' first|(with_reducible first|refine zz ?_|refine And.intro (by omega) ?_|refine zE [0,1,2,3,4,5,6,7,8,9,10,19,29,53] ?_)|simp -dsimp[hs]|refine i9 ?_ ?_<;>intro h<;>try simp only[i7] at h
  refine i6 (ι:={ p:Nat×List Int // p.1≤l.length∧p.2=ns.map (Rp l r (l.take p.1)) }) (fun p=>⟨78,[(1,.one (.ptr 0 0)),(3,u9 ns),(4,u9 (ns.map (Rr l r))),(5,iv (r:Int)),(6,.one (.vec 1 0 0 ns.length)),(7,iv (p.1.1:Int))],[.row [.im (.sl (l.map g9))],.vec 1 (l8 (p.1.2.map encI)) 0 false]⟩) (fun p=>l.length-p.1.1) ⟨(0,List.replicate ns.length 0),by omega,(jO (fun _=>rfl) ns).symm⟩ (zv [1,3,4,5,6,7]) ?_
  rintro⟨⟨i,L⟩,hi,hL⟩
  simp only at hi hL
  simp only[iv,u9]
  by_cases hlt:i<l.length
  ·have hx:l[i]?=some l[i]:=by simp[hlt]
   have hw1:=zk i
   obtain⟨k,hk⟩:=List.mem_iff_getElem?.1 (hmem l[i] (List.getElem_mem hlt))
   have hkl:=e7 hk
   have hidx:=iM hnd hk
   have c2:=oE (G:=G) ns l[i].drawing (by omega)
   rw[hidx] at c2
   have hLk:L[k]?=some (Rp l r (l.take i) l[i].drawing):=by rw[hL,List.getElem?_map,hk];rfl
   generalize hv:Rp l r (l.take i) l[i].drawing=v at hLk
   have hit:=hitems l[i] (List.getElem_mem hlt)
   have hsm:=(eS (hok l[i] (List.getElem_mem hlt))).1
   have hs:=za hx (za hw1 (za hlt (za hkl hLk)))
   repeat' first|(with_reducible first|refine zz ?_|refine zE [0,1,2,3,4,5,6,7,8,9,10,19,29,53] ?_)|simp -dsimp[hs]|refine zp c2 ?_|refine i9 ?_ ?_<;>intro h<;>try simp only[i7] at h
   refine i6 (ι:={ p:Nat×List Int // p.1≤l[i].items.length∧p.2=L.set k (Rq l r v (l[i].items.take p.1)) }) (fun p=>⟨78,[(1,.one (.ptr 0 0)),(3,u9 ns),(4,u9 (ns.map (Rr l r))),(5,iv (r:Int)),(6,.one (.vec 1 0 0 ns.length)),(7,iv (i:Int)),(8,.one (.ptr 4 0)),(9,iv (k:Int)),(10,iv (p.1.1:Int))],[.row [.im (.sl (l.map g9))],.vec 1 (l8 (p.1.2.map encI)) 0 false,.vec 0 [] 0 true,.vec 0 [] 0 true,.row ((g9 l[i]).map .im)]⟩) (fun p=>l[i].items.length-p.1.1) ⟨(0,L.set k (max v 1)),by omega,by simp only[List.take_zero,Gw]⟩ (zv [1,3,4,5,6,7,8,9,10]) ?_
   rintro⟨⟨u,L'⟩,hu,hL'⟩
   simp only at hu hL'
   simp only[iv,u9,g9,rI,List.map_cons,List.map_nil]
   have hkL:k<L.length:=e7 hLk
   by_cases hlu:u<l[i].items.length
   ·have hy:l[i].items[u]?=some l[i].items[u]:=by simp[hlu]
    have hw2:=zk u
    obtain⟨m,hm⟩:=List.mem_iff_getElem?.1 (hit l[i].items[u] (List.getElem_mem hlu))
    have hml:=e7 hm
    have hmn:ns[m]=l[i].items[u].drawing:=(List.getElem?_eq_some_iff.1 hm).2
    have hidx2:=iM hnd hm
    have c3:=oE (G:=G) ns l[i].items[u].drawing (by omega)
    rw[hidx2] at c3
    have hLk':L'[k]?=some (Rq l r v (l[i].items.take u)):=by rw[hL',List.getElem?_set_self hkL]
    have hb1:=nN l r l[i].items[u].drawing
    have hb2:=Bz l r l[i].items[u].drawing
    have hw3:IntKind.i64.wrap (1+Rr l r l[i].items[u].drawing)=1+Rr l r l[i].items[u].drawing:=o5 (by omega) (by omega)
    have hnext:L'.set k (max (Rq l r v (l[i].items.take u)) (1+Rr l r l[i].items[u].drawing))=L.set k (Rq l r v (l[i].items.take (u+1))):=by
     rw[List.take_succ_eq_append_getElem hlu,DW,hL',List.set_set]
    have hs:=za hy (za hw2 (za hlu (za hkl (za hLk' (za hm (za hml (za hmn hw3)))))))
    repeat' first|with_reducible refine zz ?_|simp -dsimp[hs]|refine zq c3 ?_|refine zM 16 78 20 [0,1,2,3,4,5,6,7,8,9,10,19,29,53] ?_|with_reducible refine zE [0,1,2,3,4,5,6,7,8,9,10,19,29,53] ?_|refine i9 ?_ ?_<;>intro h<;>try simp only[i7] at h
    exact zn ⟨(u+1,L'.set k (max (Rq l r v (l[i].items.take u)) (1+Rr l r l[i].items[u].drawing))),by omega,hnext⟩ (zv [1,3,4,5,6,7,8,9,10])
   ·have hend:L'=ns.map (Rp l r (l.take (i+1))):=by
     rw[hL',List.take_of_length_le (by omega),hL,kW hnd hk]
     refine List.map_congr_left fun n _=>?_
     rw[List.take_succ_eq_append_getElem hlt,DX]
     split
     ·rename_i e;rw[e,hv]
     ·rfl
    have hs:=za hlu hw1
    repeat' first|(with_reducible first|refine zz ?_|refine zE [0,1,2,3,4,5,6,7,8,9,10,19,29,53] ?_)|simp -dsimp[hs]|refine i9 ?_ ?_<;>intro h<;>try simp only[i7] at h
    exact zn ⟨(i+1,L'),by omega,hend⟩ (zw [1,3,4,5,6,7] 2)
  ·have hend:L=ns.map (Rr l (r+1)):=by
    rw[hL,List.take_of_length_le (by omega)]
    refine List.map_congr_left fun n hn=>DY r ?_
    rw[← hns] at hn
    exact pS hn
   have hLn:L.length=ns.length:=by rw[hL,List.length_map]
   have hs:=za hlt hw
   repeat' first|(with_reducible first|refine zz ?_|refine zE [0,1,2,3,4,5,6,7,8,9,10,19,29,53] ?_)|simp -dsimp[hs]|refine i9 ?_ ?_<;>intro h<;>try simp only[i7] at h
   exact zn ⟨r+1,by omega⟩ (zw [1,3,4,5] 1 (by simp[← hLn];rw[hend];simp))
 ·have hs:=hrl
  repeat' first|(with_reducible first|refine zz ?_|refine zr ?_|refine zE [0,1,2,3,4,5,6,7,8,9,10,19,29,53] ?_)|simp -dsimp[hs]|refine i9 ?_ ?_<;>intro h<;>try simp only[i7] at h
  have hr1:r=ns.length+1:=by omega
  rw[hD,hr1];simp
theorem iw (x:Issue) (r:List Issue):(p7 none (x :: r)).isSome=true↔(o3 x=true∧x.letter=1)∧(p7 (some x) r).isSome=true:=by
 simp only[p7]
 by_cases h1:o3 x=false
 ·simp[h1]
 ·by_cases h2:x.letter=1
  ·simp[h1,h2]
  ·simp[h1,h2]
theorem iu (y x:Issue) (r:List Issue):(p7 (some y) (x :: r)).isSome=true↔(o3 x=true∧(y.drawing=x.drawing∧y.letter+1=x.letter∧y.kind=x.kind∨y.drawing<x.drawing∧x.letter=1))∧(p7 (some x) r).isSome=true:=by
 simp only[p7]
 by_cases h1:o3 x=false
 ·simp[h1]
 ·have h1':o3 x=true:=by simpa using h1
  by_cases hd:y.drawing=x.drawing
  ·have hlt:¬ x.drawing<x.drawing:=by omega
   by_cases h2:y.letter+1=x.letter<;>by_cases h3:y.kind=x.kind<;>simp[h1',hd,h2,h3]
  ·by_cases hg:y.drawing > x.drawing
   ·have:¬ y.drawing<x.drawing:=by omega
    simp[h1',hd,hg,this]
   ·have:y.drawing<x.drawing:=by omega
    by_cases h2:x.letter=1<;>simp[h1',hd,hg,h2,this]
theorem Db {l:List Int} {x:Int} (h:x∉l):idx l x=-1:=Af fun j _ he=>h (List.mem_of_getElem? he)
theorem sM {l:List Int} {x:Int} (h:x∈l):0≤idx l x:=by
 unfold idx
 cases hh:l.idxOf? x with
 | none =>
   rw[List.idxOf?,List.findIdx?_eq_none_iff] at hh
   have:=hh x h;simp at this
 | some i=>simp
theorem Dc (l:List Int) (x:Int):idx l x<0↔x∉l:=by
 constructor
 ·intro h hm;have:=sM hm;omega
 ·intro h;rw[Db h];omega
theorem ba {l:List Issue} (h:(p7 none l).isSome=false):u3 l=false:=by simp[u3,h]
theorem zI (l:List Issue) (hs:V7 l):zP prog G 265 [I1 l] (bv (u3 l)):=by
 refine zf func265 ntmps265 ?_
 try simp only[I1]
 have hl80:=hs.1
 by_cases hrange:1≤l.length∧l.length≤60
 ·have d1:decide ((1:Int)≤(l.length:Int))=true:=by simp;omega
  have d2:decide ((l.length:Int)≤60)=true:=by simp;omega
  have c0:=cS (G:=G) (l.length:Int) 1 60
  rw[d1,d2] at c0
  have hs:=trivial
  repeat' first|(with_reducible first|refine zz ?_|refine zE [0,1,2,3,4,5,6,7,8,13,18,28,31,38,44,52,53,73,84,99] ?_)|simp -dsimp[hs]|refine zp c0 ?_|refine i9 ?_ ?_<;>intro h<;>try simp only[i7] at h
  all_goals try clear hs
  refine i6 (ι:={ i:Nat // i≤l.length∧(p7 none l).isSome=(p7 (J0 l i) (l.drop i)).isSome∧∀ x∈l.take i,o3 x=true }) (fun p=>⟨103,[(1,.one (.ptr 0 0)),(2,bv false),(3,iv (p.1:Int))],[.row [.im (.sl (l.map g9))]]⟩) (fun p=>l.length-p.1) ⟨0,by simp[J0]⟩ (zv [1,2,3]) ?_
  rintro⟨i,hi,hscan,hok⟩
  simp only[iv]
  by_cases hlt:i<l.length
  ·have hx:l[i]?=some l[i]:=by simp[hlt]
   have hw:=zk i
   have hsm:=hs.2 l[i] (List.getElem_mem hlt)
   have c1:=CU (G:=G) l[i] ⟨hsm.1,hsm.2.1⟩ (by omega) (by omega)
   rw[List.drop_eq_getElem_cons hlt] at hscan
   have hnext:J0 l (i+1)=some l[i]:=by simp[J0]
   cases hq:o3 l[i]
   ·rw[hq] at c1
    have hf:u3 l=false:=ba (by
     rw[hscan]
     cases J0 l i with
     | none=>exact F3 (iw l[i] _) (by simp[hq])
     | some y=>exact F3 (iu y l[i] _) (by simp[hq]))
    have hs:=za hx hlt
    repeat' first|(with_reducible first|refine zz ?_|refine zr ?_|refine zE [0,1,2,3,4,5,6,7,8,13,18,28,31,38,44,52,53,73,84,99] ?_)|simp -dsimp[hs]|refine zp c1 ?_|refine i9 ?_ ?_<;>intro h<;>try simp only[i7] at h
    all_goals try clear hs
    simp[hf]
   ·rw[hq] at c1
    have hokn:∀ x∈l.take (i+1),o3 x=true:=by
     rw[List.take_succ_eq_append_getElem hlt]
     intro x hx
     rcases List.mem_append.1 hx with h|h
     ·exact hok x h
     ·simp at h;rw[h];exact hq
    have hdr:1≤l[i].drawing:=by
     simp only[o3,Bool.and_assoc] at hq
     rw[← Bool.and_assoc,Bool.and_eq_true] at hq
     have:=(dP _).1 hq.1;omega
    by_cases hi0:i=0
    ·subst hi0
     have hst:=iw l[0] (l.drop 1)
     simp only[J0] at hscan
     rw[Nat.zero_add] at hscan
     rw[← hscan] at hst
     have hs:=za hx (za hlt hw)
     repeat' first|(with_reducible first|refine zz ?_|refine zr ?_|refine zE [0,1,2,3,4,5,6,7,8,13,18,28,31,38,44,52,53,73,84,99] ?_)|simp -dsimp[hs]|refine zp c1 ?_|refine i9 ?_ ?_<;>intro h<;>try simp only[i7] at h|with_reducible refine j0 ?_ ?_<;>intro h<;>have h0:=h<;>(try simp only[i7] at h)<;>have h2:=h<;>(try simp at h2)<;>replace hs:=za h0 (za h (za h2 hs))
     all_goals try clear hs
     all_goals first
      | (exfalso;omega)
      | (have hf:=ba (F3 hst (by omega));simp[hf];done)
      | exact zn ⟨1,by omega,by rw[hnext];exact I8 hst ⟨hq,by omega⟩,hokn⟩ (zw [1,2,3] 1 (by simp;exact o5 (by omega) (by omega)))
    ·obtain⟨m,rfl⟩:∃ m,i=m+1:=⟨i-1,by omega⟩
     have hy:l[m]?=some l[m]:=by simp
     have hw1:IntKind.i64.wrap (((m+1:Nat):Int)-1)=m:=o5 (by omega) (by omega) |>.trans (by omega)
     have hw2:IntKind.i64.wrap (m:Int)=m:=o5 (by omega) (by omega)
     have hoky:=hok l[m] (List.mem_take_iff_getElem.2 ⟨m,by omega,rfl⟩)
     have hlet:1≤l[m].letter∧l[m].letter≤8:=by simp[o3,AO] at hoky;omega
     have hwl:IntKind.i64.wrap (l[m].letter+1)=l[m].letter+1:=o5 (by omega) (by omega)
     have hst:=iu l[m] l[m+1] (l.drop (m+1+1))
     simp only[J0,hy] at hscan
     rw[← hscan] at hst
     have hpos:(0:Int)<(m:Int)+1:=by omega
     have hlt2:(m:Int)+1<(l.length:Int):=by omega
     have hge:(0:Int)≤(m:Int)+1:=by omega
     have hs:=za hge (za hx (za hlt (za hlt2 (za hw (za hy (za hw1 (za hw2 (za hwl hpos))))))))
     repeat' first|(with_reducible first|refine zz ?_|refine zr ?_|refine zE [0,1,2,3,4,5,6,7,8,13,18,28,31,38,44,52,53,73,84,99] ?_)|simp -dsimp[hs]|refine zp c1 ?_|refine i9 ?_ ?_<;>intro h<;>try simp only[i7] at h|with_reducible refine j0 ?_ ?_<;>intro h<;>have h0:=h<;>(try simp only[i7] at h)<;>have h2:=h<;>(try simp at h2)<;>replace hs:=za h0 (za h (za h2 hs))
     all_goals try clear hs
     all_goals first
      | (exfalso;omega)
      | (have hf:=ba (F3 hst (by omega));simp[hf];done)
      | exact zn ⟨m+1+1,by omega,by rw[hnext];exact I8 hst ⟨hq,by omega⟩,hokn⟩ (zw [1,2,3] 1 (by simp;try exact o5 (by omega) (by omega)))
  ·have hsome:(p7 none l).isSome=true:=by
    rw[hscan,List.drop_eq_nil_of_le (by omega)]
    cases J0 l i<;>rfl
   have c2:=iE (G:=G) l (by omega)
   have hE:u3 l=(l.all (fun x=>x.items.all fun y=>decide (y.drawing∈nums l))&&decide ((nums l).length≤20)):=by
    simp[u3,hsome,hrange]
   have hnl:(nums l).length≤l.length:=A5 l l.length
   generalize nums l=ns at *
   have hs:=hlt
   repeat' first|(with_reducible first|refine zz ?_|refine zE [0,1,2,3,4,5,6,7,8,13,18,28,31,38,44,52,53,73,84,99] ?_)|simp -dsimp[hs]|refine zp c2 ?_|refine i9 ?_ ?_<;>intro h<;>try simp only[i7] at h
   all_goals try clear hs
   refine i6 (ι:={ i:Nat // i≤l.length∧l.all (fun x=>x.items.all fun y=>decide (y.drawing∈ns))=(l.drop i).all (fun x=>x.items.all fun y=>decide (y.drawing∈ns)) }) (fun p=>⟨103,[(1,.one (.ptr 0 0)),(2,bv false),(6,u9 ns),(7,iv (p.1:Int))],[.row [.im (.sl (l.map g9))]]⟩) (fun p=>l.length-p.1) ⟨0,by simp⟩ (zw [1,2,6,7] 1) ?_
   clear hscan hok
   rintro⟨k,hk,hall⟩
   simp only[iv,u9]
   by_cases hlk:k<l.length
   ·have hx:l[k]?=some l[k]:=by simp[hlk]
    have hw:=zk k
    have hst:=bN hlk hall
    have hsm:=hs.2 l[k] (List.getElem_mem hlk)
    have hs:=za hx (za hlk hw)
    repeat' first|(with_reducible first|refine zz ?_|refine zE [0,1,2,3,4,5,6,7,8,13,18,28,31,38,44,52,53,73,84,99] ?_)|simp -dsimp[hs]|refine i9 ?_ ?_<;>intro h<;>try simp only[i7] at h
    all_goals try clear hs
    refine i6 (ι:={ u:Nat // u≤l[k].items.length∧l[k].items.all (fun y=>decide (y.drawing∈ns))=(l[k].items.drop u).all (fun y=>decide (y.drawing∈ns)) }) (fun p=>⟨103,[(1,.one (.ptr 0 0)),(2,bv false),(6,u9 ns),(7,iv (k:Int)),(8,iv (p.1:Int))],[.row [.im (.sl (l.map g9))]]⟩) (fun p=>l[k].items.length-p.1) ⟨0,by simp⟩ (zv [1,2,6,7,8]) ?_
    rintro⟨u,hu,hall2⟩
    simp only[iv,u9]
    by_cases hlu:u<l[k].items.length
    ·have hy:l[k].items[u]?=some l[k].items[u]:=by simp[hlu]
     have hw2:=zk u
     have c3:=oE (G:=G) ns l[k].items[u].drawing (by omega)
     have hm:=Dc ns l[k].items[u].drawing
     have hst2:=bN hlu hall2
     generalize idx ns l[k].items[u].drawing=z at c3 hm
     have hs:=za hx (za hlk (za hy (za hlu hw2)))
     repeat' first|(with_reducible first|refine zz ?_|refine zr ?_|refine zE [0,1,2,3,4,5,6,7,8,13,18,28,31,38,44,52,53,73,84,99] ?_)|simp -dsimp[hs]|refine zp c3 ?_|refine i9 ?_ ?_<;>intro h<;>try simp only[i7] at h
     all_goals try clear hs
     ·have hn:=hm.1 ‹z<0›
      have h1:=F3 hst2 (by simpa using hn)
      have h2:=F3 hst (by rw[h1];exact Bool.false_ne_true)
      rw[hE,h2];rfl
     ·have hn:l[k].items[u].drawing∈ns:=Classical.byContradiction fun hn=>absurd (hm.2 hn) ‹_›
      exact zn ⟨u+1,by omega,I8 hst2 (by simpa using hn)⟩ (zv [1,2,6,7,8])
    ·have h1:l[k].items.all (fun y=>decide (y.drawing∈ns))=true:=by rw[hall2,List.drop_eq_nil_of_le (by omega)];rfl
     have hs:=za hx (za hlk (za hlu hw))
     repeat' first|(with_reducible first|refine zz ?_|refine zE [0,1,2,3,4,5,6,7,8,13,18,28,31,38,44,52,53,73,84,99] ?_)|simp -dsimp[hs]|refine i9 ?_ ?_<;>intro h<;>try simp only[i7] at h
     all_goals try clear hs
     exact zn ⟨k+1,by omega,I8 hst h1⟩ (zv [1,2,6,7])
   ·have h1:l.all (fun x=>x.items.all fun y=>decide (y.drawing∈ns))=true:=by rw[hall,List.drop_eq_nil_of_le (by omega)];rfl
    rw[h1,Bool.true_and] at hE
    have hs:=hlk
    repeat' first|(with_reducible first|refine zz ?_|refine zr ?_|refine zE [0,1,2,3,4,5,6,7,8,13,18,28,31,38,44,52,53,73,84,99] ?_)|simp -dsimp[hs]|refine i9 ?_ ?_<;>intro h<;>try simp only[i7] at h
    all_goals try clear hs
    rw[hE];simp;omega
 ·have hf:u3 l=false:=by simp only[u3];rw[decide_eq_false hrange];rfl
  have c0:=cS (G:=G) (l.length:Int) 1 60
  have hd:(decide ((1:Int)≤(l.length:Int))&&decide ((l.length:Int)≤60))=false:=by simp;omega
  rw[hd] at c0
  have hs:=trivial
  repeat' first|(with_reducible first|refine zz ?_|refine zr ?_|refine zE [0,1,2,3,4,5,6,7,8,13,18,28,31,38,44,52,53,73,84,99] ?_)|simp -dsimp[hs]|refine zp c0 ?_|refine i9 ?_ ?_<;>intro h<;>try simp only[i7] at h
  all_goals try clear hs
  simp[hf]
theorem sn {l:List Int} {k:Nat} (hlt:k<l.length) (a:Int) (h:Y3 l=(l.drop k).foldl max a):Y3 l=(l.drop (k+1)).foldl max (max a l[k]):=by
 rw[h,List.drop_eq_getElem_cons hlt,List.foldl_cons]
theorem yK (l:List Issue) (hs:V7 l):zP prog G 217 [I1 l] (iv (j8 l)):=by
 refine zf func217 ntmps217 ?_
 try simp only[I1]
 have c1:=zI (G:=G) l hs
 cases hL:u3 l
 ·rw[hL] at c1
  have hs:=trivial
  repeat' first|(with_reducible first|refine zz ?_|refine zr ?_|refine zE [0,1,2,3,4,5,8,14,23,28] ?_)|simp -dsimp[hs]|refine zp c1 ?_|refine i9 ?_ ?_<;>intro h<;>try simp only[i7] at h
  all_goals try clear hs
  simp[j8,hL]
 ·rw[hL] at c1
  have c2:=vB (G:=G) l hL
  have hlen:(D4 l).length≤80:=by
   have:=A5 l l.length
   have:=hs.1
   simp only[D4,List.length_map,nums];omega
  have hE:j8 l=if Y3 (D4 l) > (D4 l).length then 21 else if Y3 (D4 l) > 6 then 20 else 0:=by simp[j8,hL]
  generalize D4 l=D at c2 hE hlen
  have hs:=trivial
  repeat' first|(with_reducible first|refine zz ?_|refine zE [0,1,2,3,4,5,8,14,23,28] ?_)|simp -dsimp[hs]|refine zp c1 ?_|refine zp c2 ?_|refine i9 ?_ ?_<;>intro h<;>try simp only[i7] at h
  all_goals try clear hs
  refine i6 (ι:={ p:Nat×Int // p.1≤D.length∧Y3 D=(D.drop p.1).foldl max p.2 }) (fun p=>⟨31,[(1,.one (.ptr 0 0)),(2,iv 0),(3,u9 D),(4,iv p.1.2),(5,iv (p.1.1:Int))],[.row [.im (.sl (l.map g9))]]⟩) (fun p=>D.length-p.1.1) ⟨(0,0),by simp[Y3]⟩ (zv [1,2,3,4,5]) ?_
  rintro⟨⟨k,a⟩,hk,ha⟩
  simp only at hk ha
  simp only[iv,u9]
  by_cases hlt:k<D.length
  ·have hx:D[k]?=some D[k]:=by simp[hlt]
   have hw:=zk k
   have hs:=za hx (za hw hlt)
   repeat' first|(with_reducible first|refine zz ?_|refine zE [0,1,2,3,4,5,8,14,23,28] ?_)|simp -dsimp[hs]|refine i9 ?_ ?_<;>intro h<;>try simp only[i7] at h
   all_goals try clear hs
   exact zn ⟨(k+1,max a D[k]),by omega,sn hlt a ha⟩ (zv [1,2,3,4,5])
  ·have ha':Y3 D=a:=by rw[ha,List.drop_eq_nil_of_le (by omega)];rfl
   rw[ha'] at hE
   have hs:=hlt
   repeat' first|(with_reducible first|refine zz ?_|refine zr ?_|refine zE [0,1,2,3,4,5,8,14,23,28] ?_)|simp -dsimp[hs]|refine i9 ?_ ?_<;>intro h<;>try simp only[i7] at h
   all_goals try clear hs
   all_goals rw[hE]
   ·rw[if_pos (by omega)]
   ·rw[if_neg (by omega),if_pos (by omega)]
   ·rw[if_neg (by omega),if_neg (by omega)]
def aj (l:List Issue) (d:Int):Int:=l.foldl (fun n x=>if x.drawing=d then max n x.letter else n) 0
theorem zN (l:List Issue) (d:Int) (hl:l.length<1000000):zP prog G 166 [I1 l,iv d] (iv (aj l d)):=by
 refine zf func166 ntmps166 ?_
 try simp only[I1,iv]
 have hs:=trivial
 repeat' first|(with_reducible first|refine zz ?_|refine zE [0,1,2,4,5,6,11,21] ?_)|simp -dsimp[hs]
 refine i6 (ι:={ p:Nat×Int // p.1≤l.length∧aj l d=(l.drop p.1).foldl (fun n x=>if x.drawing=d then max n x.letter else n) p.2 }) (fun p=>⟨31,[(1,iv d),(2,.one (.ptr 0 0)),(5,iv p.1.2),(6,iv (p.1.1:Int))],[.row [.im (.sl (l.map g9))]]⟩) (fun p=>l.length-p.1.1) ⟨(0,0),by simp[aj]⟩ (zv [1,2,5,6]) ?_
 rintro⟨⟨k,a⟩,hk,ha⟩
 simp only at hk ha
 simp only[iv]
 by_cases hlt:k<l.length
 ·have hx:l[k]?=some l[k]:=by simp[hlt]
  have hw:=zk k
  rw[List.drop_eq_getElem_cons hlt,List.foldl_cons] at ha
  have hs:=za hx (za hw hlt)
  repeat' first|(with_reducible first|refine zz ?_|refine zE [0,1,2,4,5,6,11,21] ?_)|simp -dsimp[hs]|refine i9 ?_ ?_<;>intro h<;>try simp only[i7] at h
  ·exact zn ⟨(k+1,max a l[k].letter),by omega,by rw[ha,if_pos ‹_›]⟩ (zv [1,2,5,6])
  ·exact zn ⟨(k+1,a),by omega,by rw[ha,if_neg ‹_›]⟩ (zv [1,2,5,6])
 ·have ha':aj l d=a:=by rw[ha,List.drop_eq_nil_of_le (by omega)];rfl
  have hs:=hlt
  repeat' first|(with_reducible first|refine zz ?_|refine zr ?_|refine zE [0,1,2,4,5,6,11,21] ?_)|simp -dsimp[hs]|refine i9 ?_ ?_<;>intro h<;>try simp only[i7] at h
  rw[ha']
def dw (l:List Issue) (p:Int×Int):Bool:=decide (1≤p.2)&&decide (p.2≤aj l p.1)
def w5 (l:List Issue) (lets:List Int):Bool:=decide (lets.length=(nums l).length)&&((nums l).zip lets).all (dw l)
def u5 (l:List Issue) (lets:List Int) (d:Int):Issue:=(o6 l d ((lets[(idx (nums l) d).toNat]?).getD 0)).getD J7
end Go.Proofs
namespace Go.Proofs
open Go Go.Ab
theorem nr {l:List Issue} {d lt:Int} {y:Issue} (h:o6 l d lt=some y):y∈l∧y.drawing=d∧y.letter=lt:=by
 have h1:=List.find?_some h
 have h2:=List.mem_of_find?_eq_some h
 simp only[Bool.and_eq_true,beq_iff_eq] at h1
 exact⟨h2,h1.1,h1.2⟩
theorem Ay (l:List Issue) (d lt:Int):(o6 l d lt).isSome=true↔∃ x∈l,x.drawing=d∧x.letter=lt:=by
 simp[o6,List.find?_isSome]
theorem fV:∀ (r:List Issue) (p:Option Issue) (ds:List Int),p7 p r=some ds→∀ x∈r,x.letter=1∨∃ y,(p=some y∨y∈r)∧y.drawing=x.drawing∧y.letter+1=x.letter
 | [],_,_,_,x,hx=>by cases hx
 | z :: r,p,ds,h,x,hx=>by
   have hs:(p7 p (z :: r)).isSome=true:=by rw[h];rfl
   obtain⟨ds',h1,_,_⟩:=ec h
   rcases List.mem_cons.1 hx with rfl|hx
   ·cases p with
    | none=>exact .inl ((iw x r).1 hs).1.2
    | some y =>
      rcases ((iu y x r).1 hs).1.2 with⟨a,b,_⟩|⟨_,b⟩
      ·exact .inr ⟨y,.inl rfl,a,b⟩
      ·exact .inl b
   ·rcases fV r (some z) ds' h1 x hx with h2|⟨y,h2,h3,h4⟩
    ·exact .inl h2
    ·refine .inr ⟨y,.inr ?_,h3,h4⟩
     rcases h2 with h2|h2
     ·cases h2;simp
     ·simp[h2]
theorem jv {l:List Issue} (hs:p7 none l=some (nums l)):∀ (k:Nat) (x:Issue),x∈l→x.letter=k+1→∀ j:Int,1≤j→j≤k+1→∃ y∈l,y.drawing=x.drawing∧y.letter=j
 | 0,x,hx,hk,j,h1,h2=>⟨x,hx,rfl,by omega⟩
 | k+1,x,hx,hk,j,h1,h2=>by
   by_cases hj:j=k+1+1
   ·exact⟨x,hx,rfl,by omega⟩
   ·rcases fV l none _ hs x hx with h|⟨y,hy,h3,h4⟩
    ·omega
    ·rcases hy with hy|hy
     ·cases hy
     ·obtain⟨z,hz,h5,h6⟩:=jv hs k y hy (by omega) j h1 (by omega)
      exact⟨z,hz,by omega,h6⟩
theorem dx (d:Int):∀ (l:List Issue) (a:Int),a≤l.foldl (fun n x=>if x.drawing=d then max n x.letter else n) a∧(∀ x∈l,x.drawing=d→x.letter≤l.foldl (fun n x=>if x.drawing=d then max n x.letter else n) a) ∧
 (l.foldl (fun n x=>if x.drawing=d then max n x.letter else n) a=a∨∃ x∈l,x.drawing=d∧x.letter=l.foldl (fun n x=>if x.drawing=d then max n x.letter else n) a)
 | [],a=>by simp
 | y :: l,a=>by
   obtain⟨h1,h2,h3⟩:=dx d l (if y.drawing=d then max a y.letter else a)
   simp only[List.foldl_cons]
   have h0:a≤(if y.drawing=d then max a y.letter else a):=by split<;>omega
   refine⟨by omega,fun x hx hd=>?_,?_⟩
   ·rcases List.mem_cons.1 hx with rfl|hx
    ·rw[if_pos hd] at h1 ⊢;omega
    ·exact h2 x hx hd
   ·rcases h3 with h3|⟨x,hx,hd,he⟩
    ·by_cases hy:y.drawing=d
     ·rw[if_pos hy] at h3 ⊢
      by_cases hm:a≤y.letter
      ·exact .inr ⟨y,by simp,hy,by omega⟩
      ·exact .inl (by omega)
     ·rw[if_neg hy] at h3 ⊢
      exact .inl h3
    ·exact .inr ⟨x,by simp[hx],hd,he⟩
theorem dE {l:List Issue} (h:j8 l=0) (d lt:Int):(o6 l d lt).isSome=true↔1≤lt∧lt≤aj l d:=by
 have hs:=L7 (I9 h)
 obtain⟨_,_,_,hok,_⟩:=O2 hs
 obtain⟨h1,h2,h3⟩:=dx d l 0
 have hlet:∀ x∈l,1≤x.letter:=fun x hx=>by
  have:=hok x hx
  simp only[o3,Bool.and_assoc] at this
  rw[← Bool.and_assoc,Bool.and_eq_true] at this
  have:=(dP x).1 this.1;omega
 rw[Ay]
 constructor
 ·rintro⟨x,hx,rfl,rfl⟩
  exact⟨hlet x hx,h2 x hx rfl⟩
 ·rintro⟨a,b⟩
  rcases h3 with h3|⟨x,hx,hd,he⟩
  ·simp only[aj] at b;omega
  ·have hx1:=hlet x hx
   obtain⟨y,hy,h5,h6⟩:=jv hs (x.letter-1).toNat x hx (by omega) lt a (by simp only[aj] at b;omega)
   exact⟨y,hy,by omega,h6⟩
theorem dX {l:List Issue} {lets:List Int} {d:Int} (h:j8 l=0) (hl:w5 l lets=true) (hd:d∈nums l):u5 l lets d∈l∧(u5 l lets d).drawing=d∧∃ (k:Nat) (lt:Int),(nums l)[k]?=some d∧lets[k]?=some lt∧o6 l d lt=some (u5 l lets d):=by
 simp only[w5,Bool.and_eq_true,decide_eq_true_eq] at hl
 obtain⟨h1,h2⟩:=hl
 obtain⟨hlt,_⟩:=D9 h
 obtain⟨k,hk⟩:=List.mem_iff_getElem?.1 hd
 have hnd:(nums l).Nodup:=hlt.imp fun h=>Int.ne_of_lt h
 have hkl:=e7 hk
 have hy:lets[k]?=some lets[k]:=by simp[h1,hkl]
 have hz:((nums l).zip lets)[k]?=some (d,lets[k]):=by
  rw[List.getElem?_zip_eq_some];exact⟨hk,hy⟩
 have hok:=List.all_eq_true.1 h2 _ (List.mem_of_getElem? hz)
 simp only[dw,Bool.and_eq_true,decide_eq_true_eq] at hok
 have hf:=(dE h d lets[k]).2 hok
 obtain⟨y,hy'⟩:=Option.isSome_iff_exists.1 hf
 have ht:u5 l lets d=y:=by
  simp only[u5,iM hnd hk,Int.toNat_natCast,hy,Option.getD_some,hy']
 obtain⟨a,b,_⟩:=nr hy'
 rw[ht]
 exact⟨a,b,k,lets[k],hk,hy,hy'⟩
theorem ko {l:List Issue} {lets:List Int} {d:Int} (h:j8 l=0) (hl:w5 l lets=true) (hd:d∈nums l):∀ y∈(u5 l lets d).items,y.drawing∈cQ l d:=by
 obtain⟨h1,h2,_⟩:=dX h hl hd
 intro y hy
 simp only[cQ,List.mem_flatMap,List.mem_map,dc,List.mem_filter,decide_eq_true_eq]
 exact⟨_,⟨h1,h2⟩,y,hy,rfl⟩
end Go.Proofs
namespace Go.Ab
open Go
def G7 (m:List (Int×Bool)):List (List Value×List DC):=m.map fun p=>(kI p.1,[.im (rB p.2)])
def cL (n:Int):List (Int×Bool)→Option Bool
 | []=>none
 | p :: r=>if p.1=n then some p.2 else cL n r
def tB (n:Int) (v:Bool):List (Int×Bool)→List (Int×Bool)
 | []=>[(n,v)]
 | p :: r=>if p.1=n then (n,v) :: r else p :: tB n v r
theorem lL (n k:Int) (v:Bool):∀ m,cL k (tB n v m)=if n=k then some v else cL k m
 | []=>by simp[tB,cL]
 | p :: r=>by
   have ih:=lL n k v r
   simp only[tB]
   split
   ·rename_i h
    simp only[cL]
    split
    ·rfl
    ·rename_i h2
     rw[if_neg (by omega)]
   ·rename_i h
    simp only[cL,ih]
    split
    ·rename_i h2
     rw[if_neg (by omega)]
    ·rfl
@[simp] theorem Jd (m:List (Int×Bool)) (n:Int):O3 [.int .i64 n] (G7 m) [.im (.raw (.bool false))]=[.im (.raw (.bool ((cL n m).getD false)))]:=by
 induction m with
 | nil=>rfl
 | cons p r ih =>
   have e:G7 (p :: r)=(kI p.1,[.im (rB p.2)]) :: G7 r:=rfl
   rw[e]
   simp only[O3,S7,cL,aD,decide_eq_true_eq] at ih ⊢
   split
   ·rfl
   ·exact ih
@[simp] theorem IZ (m:List (Int×Bool)) (n:Int):jA [.int .i64 n] (G7 m)=(cL n m).isSome:=by
 induction m with
 | nil=>rfl
 | cons p r ih =>
   have e:G7 (p :: r)=(kI p.1,[.im (rB p.2)]) :: G7 r:=rfl
   rw[e]
   simp only[jA,S7,cL,aD,decide_eq_true_eq] at ih ⊢
   split
   ·rfl
   ·exact ih
@[simp] theorem IY (m:List (Int×Bool)) (n:Int) (v:Bool):R4 [.int .i64 n] [.im (.raw (.bool v))] (G7 m)=G7 (tB n v m):=by
 induction m with
 | nil=>rfl
 | cons p r ih =>
   have e:G7 (p :: r)=(kI p.1,[.im (rB p.2)]) :: G7 r:=rfl
   rw[e]
   simp only[R4,tB,aD,decide_eq_true_eq] at ih ⊢
   split
   ·rfl
   ·rw[ih];rfl
@[simp] theorem GK (m:List (Int×Bool)):(G7 m).length=m.length:=by simp[G7]
@[simp] theorem HM (n:Nat) (objs:List DObj) (m:List (Int×Bool)):((G7 m).map fun x=>(x.1,x.2.map (fz n objs)))=G7 m:=by
 simp[G7,fz,DC.lt]
@[simp] theorem HH (e:Nat→Nat) (m:List (Int×Bool)):((G7 m).map fun x=>(x.1,rnL e x.2))=G7 m:=by
 simp[G7,rnL,iz]
section
variable {P:Program} {G:KB}
theorem CallE.embed_ex {ι:Type} {f:FuncId} {args args0:List DV} {objs objs0:List DObj} {p:ι→Prop} {o1:ι→List DObj} {d0:ι→DV} {Q:DV→List DObj→Prop} {t:Tok Q} (es:List Nat) (h:DCall P G f args0 objs0 (fun d o=>∃ i,p i∧d=d0 i∧o=o1 i))
 (ha:args0.map (jz (u7 es objs.length))=args) (hl:es.length=objs0.length) (hnd:es.Nodup) (hes:∀ x∈es,x<objs.length)
 (hobj:∀ i d,objs0[i]?=some d→objs[u7 es objs.length i]?=some (cF (u7 es objs.length) d)) (hq:∀ i,p i→Q (jz (u7 es objs.length) (d0 i)) (o4 es objs (o1 i))):CallE P G f args objs Q t:=by
 subst ha
 refine(DCall.embed es h hl hnd hes hobj).mono fun d o ⟨d',o',⟨i,hp,h1,h2⟩,_,h3,h4⟩=>?_
 subst h1;subst h2;subst h3;subst h4
 exact hq i hp
end
def l4 (l:List Int):List Int:=l.mergeSort fun x y=>decide (x≤y)
theorem N4 (l:List Int):(l4 l).length=l.length:=by simp[l4]
@[simp] theorem IS (e:Nat→Nat) (l:List (List IC)):(l8 l).map (rnL e)=l8 l:=by
 simp only[l8,List.map_map]
 exact List.map_congr_left fun x _=>by simp[ff]
@[simp] theorem IN (n o:Nat):u7 [] n o=n+o:=by simp[u7]
attribute [simp] jz iz rnL rnVL cF gf
def wY (L:List Int) (off len:Nat):List Int:=L.take off++(List.replicate len 0++L.drop (off+len))
theorem qJ {L:List Int} {off len:Nat} (h:off+len≤L.length):(wY L off len).length=L.length:=by simp[wY];omega
@[simp] theorem GL (L:List Int) (off len:Nat):P0 (l8 (L.map encI)) off len (.im (.raw (.int .i64 0)))=l8 ((wY L off len).map encI):=by
 simp only[P0,wY,l8,List.map_append,List.map_take,List.map_drop,List.map_replicate]
 rfl
theorem QCall.thaw {P:Program} {G:KB} {f:FuncId} {args args0:List DV} {d0:DV} {objs:List DObj} {K:DV→Prop} {t:Tok K} (h:∀ objs,DCall P G f args0 objs (fun d o=>d=d0∧o=objs)) (ha:args0=args.map (fw 0 objs)) (hd:FlV d0) (hk:K d0):QCall P G f args objs K t:=
 ⟨d0,DCall.thaw h ha hd,hk⟩
end Go.Ab
namespace Go.Proofs
open Go Go.Ab
variable {G:KB}
def O8 (tk:Int→Issue):Nat→Int→Int→List (Int×Int)
 | 0,_,_=>[]
 | k+1,d,m=>if 1<(tk d).kind then [(d,m)] else (tk d).items.flatMap fun y=>O8 tk k y.drawing (IntKind.i64.wrap (m*y.count))
def Gu (ns:List Int) (C:List Int) (p:Int×Int):List Int:=C.set (idx ns p.1).toNat (IntKind.i64.wrap ((C[(idx ns p.1).toNat]?).getD 0+p.2))
def Gt (ns:List Int) (C:List Int) (lv:List (Int×Int)):List Int:=lv.foldl (Gu ns) C
def Io (l:List Issue) (lets:List Int) (d:Int):List Int:=Gt (nums l) (List.replicate (nums l).length 0) (O8 (u5 l lets) 6 d 1)
def kK (l:List Issue) (lets:List Int) (d:Int):List Itm:=(((nums l).zip (Io l lets d)).filter fun p=>decide (0<p.2)).map fun p=>⟨p.1,p.2⟩
end Go.Proofs
namespace Go.Ab
open Go
def JA:Issue:=⟨0,0,0,[],[]⟩
def K0 (m:List (Int×Issue)) (n:Int):Issue:=match m with
 | []=>JA
 | p :: r=>if p.1=n then p.2 else K0 r n
def eN (n:Int) (v:Issue):List (Int×Issue)→List (Int×Issue)
 | []=>[(n,v)]
 | p :: r=>if p.1=n then (n,v) :: r else p :: eN n v r
def J4 (m:List (Int×Issue)):List (List Value×List DC):=m.map fun p=>(kI p.1,(g9 p.2).map .im)
def dJ (m:List (Int×Issue)):List (List Value×List IC):=m.map fun p=>(kI p.1,g9 p.2)
theorem fA (p:Int×Issue) (r:List (Int×Issue)):J4 (p :: r)=(kI p.1,(g9 p.2).map .im) :: J4 r:=rfl
@[simp] theorem IG (m:List (Int×Issue)) (n:Int):O3 [.int .i64 n] (J4 m) [.im (.raw (.int .i64 0)),.im (.raw (.int .i64 0)),.im (.raw (.int .u8 0)),.im (.sl []),.im (.sl [])]=(g9 (K0 m n)).map .im:=by
 induction m with
 | nil=>rfl
 | cons p r ih =>
   rw[fA]
   simp only[O3,S7,K0,aD,decide_eq_true_eq] at ih ⊢
   split
   ·rfl
   ·exact ih
theorem zo (m:List (Int×Issue)) (n:Int) (v:Issue):R4 [.int .i64 n] ((g9 v).map .im) (J4 m)=J4 (eN n v m):=by
 induction m with
 | nil=>rfl
 | cons p r ih =>
   rw[fA]
   simp only[R4,eN,aD,decide_eq_true_eq] at ih ⊢
   split
   ·rfl
   ·rw[ih];rfl
@[simp] theorem IF (m:List (Int×Issue)) (n a b k:Int) (i:List Itm) (d:List Dim):R4 [.int .i64 n] [.im (.raw (.int .i64 a)),.im (.raw (.int .i64 b)),.im (.raw (.int .u8 k)),.im (.sl (i.map B5)),.im (.sl (d.map E5))] (J4 m)=J4 (eN n ⟨a,b,k,i,d⟩ m):=zo m n ⟨a,b,k,i,d⟩
@[simp] theorem GJ (m:List (Int×Issue)):(J4 m).length=m.length:=by simp[J4]
@[simp] theorem Da (m:List (Int×Issue)):fu (dJ m)=J4 m:=by simp[fu,dJ,J4]
@[simp] theorem IH (k n:Nat) (objs:List DObj) (m:List (Int×Issue)):E4 (fun x:List Value×List DC=>(E4 (frz (k+1) n objs) x.2).map fun l=>(x.1,l)) (J4 m)=some (dJ m):=by
 induction m with
 | nil=>rfl
 | cons p r ih =>
   rw[fA,E4,ih,jP];rfl
@[simp] theorem GF (n:Nat) (objs:List DObj) (m:List (Int×Issue)):((J4 m).map fun x=>(x.1,x.2.map (fz n objs)))=J4 m:=by
 simp[J4,fz,DC.lt]
theorem iF {n:Int} {v:Issue}:∀ {m:List (Int×Issue)},n∉m.map (·.1)→eN n v m=m++[(n,v)]
 | [],_=>rfl
 | p :: r,h=>by
   rw[List.map_cons,List.mem_cons,not_or] at h
   rw[eN,if_neg (Ne.symm h.1),iF h.2];rfl
theorem V1 (f:Int→Issue):∀ (ns:List Int) (n:Int),K0 (ns.map fun d=>(d,f d)) n=if n∈ns then f n else JA
 | [],n=>by simp[K0]
 | d :: ns,n=>by
   rw[List.map_cons,K0,V1 f ns n]
   by_cases h:d=n
   ·subst h;simp
   ·rw[if_neg h];simp[Ne.symm h]
@[simp] theorem Kd (e:Nat→Nat) (m:List (Int×Int)):((N8 m).map fun x=>(x.1,rnL e x.2))=N8 m:=by
 simp[N8,rnL,iz]
@[simp] theorem JC (e:Nat→Nat) (m:List (Int×Issue)):((J4 m).map fun x=>(x.1,rnL e x.2))=J4 m:=by
 simp only[J4,List.map_map]
 exact List.map_congr_left fun x _=>by simp only[Function.comp,ff]
@[simp] theorem Kc (e:Nat→Nat) (m:List Int):((J2 m).map fun x=>(x.1,rnL e x.2))=J2 m:=by
 simp[J2,rnL,iz]
end Go.Ab
namespace Go.Ab
open Go
@[simp] theorem Ie (m:List (Int×Issue)):(dJ m).map (fun x=>(x.1,x.2.map DC.im))=J4 m:=Da m
@[simp] theorem IK (m:List (Int×Int)):(ar m).map (fun x=>(x.1,x.2.map DC.im))=N8 m:=FH m
@[simp] theorem IJ (m:List Int):(qv m).map (fun x=>(x.1,x.2.map DC.im))=J2 m:=FG m
end Go.Ab
namespace Go.Proofs
open Go Go.Ab Tryz
variable {G:KB}
def aV (l:List Issue) (lets:List Int):List (Int×Issue):=(nums l).map fun d=>(d,u5 l lets d)
theorem BT {l:List Issue} {lets:List Int} {k:Nat} (h:j8 l=0) (hk:k<(nums l).length) (hk2:k<lets.length) (hf:(o6 l (nums l)[k] lets[k]).isSome=false):w5 l lets=false:=by
 have hn:¬ dw l ((nums l)[k],lets[k])=true:=fun hok=>by
  simp only[dw,Bool.and_eq_true,decide_eq_true_eq] at hok
  rw[(dE h _ _).2 hok] at hf;cases hf
 simp only[w5,Bool.and_eq_false_iff]
 refine .inr ?_
 rw[← Bool.not_eq_true,List.all_eq_true]
 intro hall
 refine hn (hall _ (List.mem_iff_getElem?.2 ⟨k,?_⟩))
 rw[List.getElem?_zip_eq_some];exact⟨by simp[hk],by simp[hk2]⟩
theorem ya {l:List Issue} {lets:List Int} (h:j8 l=0) (he:lets.length=(nums l).length) (hall:∀ (k:Nat) (h1:k<(nums l).length) (h2:k<lets.length),(o6 l (nums l)[k] lets[k]).isSome=true):w5 l lets=true:=by
 simp only[w5,Bool.and_eq_true,decide_eq_true_eq,List.all_eq_true]
 refine⟨he,fun p hp=>?_⟩
 obtain⟨k,hk⟩:=List.mem_iff_getElem?.1 hp
 rw[List.getElem?_zip_eq_some] at hk
 obtain⟨h1,e1⟩:=List.getElem?_eq_some_iff.1 hk.1
 obtain⟨h2,e2⟩:=List.getElem?_eq_some_iff.1 hk.2
 have:=(dE h _ _).1 (hall k h1 h2)
 rw[e1,e2] at this
 simp only[dw,Bool.and_eq_true,decide_eq_true_eq];exact this
theorem ul {l:List Issue} {lets:List Int} {k:Nat} (hnd:(nums l).Nodup) (hk:k<(nums l).length) (hk2:k<lets.length):u5 l lets (nums l)[k]=(o6 l (nums l)[k] lets[k]).getD J7:=by
 have h1:(nums l)[k]?=some (nums l)[k]:=by simp[hk]
 have h2:lets[k]?=some lets[k]:=by simp[hk2]
 simp only[u5,iM hnd h1,Int.toNat_natCast,h2,Option.getD_some]
def C3 (l:List Issue) (lets:List Int) (d:Int):Int:=if j8 l≠0 then j8 l else if w5 l lets=false then 22 else if d∈nums l then 0 else 6
def aX (l:List Issue) (lets:List Int) (d:Int):List DV:=if C3 l lets d=0 then [.one (.im (A1 l (nums l))),.one (.im (.mp [.int .i64] (dJ (aV l lets)))),iv 0] else [.one (.im (.raw (.pointer none))),.one (.im (.raw (.map none))),iv (C3 l lets d)]
theorem vn (l:List Issue) (lets:List Int) (d:Int):∀ x∈aX l lets d,ImV x:=by unfold aX;split<;>simp[A1]
theorem yv (l:List Issue) (lets:List Int) (d:Int) (hG:p9 G) (hs:V7 l) (hll:lets.length<1000000) (objs:List DObj):DCall prog G 311 [I1 l,u9 lets,iv d] objs (fun rr objs'=>rr=.tup (aX l lets d)∧objs'=objs):=by
 refine DCall.frame ?_ (by simp) (by simpa using vn l lets d) objs
 refine h9 func311 rfl ntmps311 (by simp) rfl ?_
 simp only[I1,u9,iv]
 have c1:=gi l hG hs
 by_cases h0:j8 l=0
 ·simp only[bK,h0,if_true] at c1
  have hnd:(nums l).Nodup:=(D9 h0).1.imp fun h=>Int.ne_of_lt h
  have hnl:(nums l).length≤l.length:=A5 l l.length
  have hl80:=hs.1
  have hsort:=cv h0
  by_cases he:lets.length=(nums l).length
  ·have he':(lets.length:Int)=((nums l).length:Int):=by omega
   simp only[A1] at c1
   have hs:=he'
   repeat' first|(with_reducible first|refine zz ?_|refine zE [0,1,2,3,6,7,8,9,10,11,12,13,14,21,30,33,34,35,55,64] ?_)|simp -dsimp[hs]|refine zp c1 ?_|refine i9 ?_ ?_<;>intro h<;>try simp only[i7] at h
   all_goals try clear hs
   refine i6 (ι:={ k:Nat // k≤lets.length∧∀ (i:Nat) (h1:i<(nums l).length) (h2:i<lets.length),i<k→(o6 l (nums l)[i] lets[i]).isSome=true }) (fun p=>⟨67,[(1,u9 lets),(2,iv d),(6,.one (.im (.raw (.pointer none)))),(7,.one (.im (.raw (.map none)))),(8,iv 0),(9,.one (.im (A1 l (nums l)))),(11,.one (.map 1)),(33,iv (lets.length:Int)),(34,iv (p.1:Int))],[.row [.im (.sl (l.map g9))],.map [.int .i64] (J4 (((nums l).take p.1).map fun d=>(d,u5 l lets d)))]⟩) (fun p=>lets.length-p.1) ⟨0,by simp⟩ (zv [1,2,6,7,8,9,11,33,34] (by simp[A1,J4];omega)) ?_
   rintro⟨k,hk,hall⟩
   simp only[iv,u9]
   by_cases hlt:k<lets.length
   ·have hkn:k<(nums l).length:=by omega
    have hx:(nums l)[k]?=some (nums l)[k]:=by simp[hkn]
    have hy:lets[k]?=some lets[k]:=by simp[hlt]
    have hw:=zk k
    have c2:=uS (G:=G) l (nums l) (nums l)[k] lets[k] hsort (by omega)
    have hta:=ul hnd hkn hlt
    cases hf:o6 l (nums l)[k] lets[k] with
    | none =>
      have hE:C3 l lets d=22:=by simp[C3,h0,BT h0 hkn hlt (by rw[hf];rfl)]
      simp only[hf,D6,A1,Option.isSome_none,Option.getD_none] at c2
      simp only[A1]
      have hs:=za hx (za hy (za hlt (za hkn hw)))
      repeat' first|(with_reducible first|refine zz ?_|refine zr ?_)|simp -dsimp[hs]|refine zq c2 ?_|refine E0 (id:=10) (nt:=67) 18 [16] [0,1,2,3,6,7,8,9,10,11,12,13,14,21,30,33,34,35,37,38,39,40,41,42,43,44,45,46,47,48,49,50,51,52,55,64] [0,1,2,3,6,7,8,9,10,11,12,13,14,21,30,33,34,35,55,64] mixed rfl (by kernel_rfl) ?_|with_reducible refine zE [0,1,2,3,6,7,8,9,10,11,12,13,14,21,30,33,34,35,55,64] ?_|refine i9 ?_ ?_<;>intro h<;>try simp only[i7] at h
      all_goals try clear hs
      all_goals simp[aX,hE]
    | some y =>
      rw[hf,Option.getD_some] at hta
      obtain⟨hym,hyd,_⟩:=nr hf
      simp only[hf,D6,A1,Option.isSome_some,Option.getD_some] at c2
      simp only[A1]
      have hmp:eN (nums l)[k] y (((nums l).take k).map fun d=>(d,u5 l lets d))=(((nums l).take (k+1)).map fun d=>(d,u5 l lets d)):=by
       rw[iF,List.take_succ_eq_append_getElem hkn,List.map_append,List.map_singleton,hta]
       rw[List.map_map]
       intro hm
       obtain⟨z,hz,e⟩:=List.mem_map.1 hm
       simp only[Function.comp] at e
       subst e
       obtain⟨i,hi,e⟩:=List.mem_take_iff_getElem.1 hz
       have:=(List.getElem_inj hnd).1 e;omega
      rw[← hyd] at hmp
      have hmp':eN y.drawing ⟨y.drawing,y.letter,y.kind,y.items,y.dims⟩ (((nums l).take k).map fun d=>(d,u5 l lets d))=(((nums l).take (k+1)).map fun d=>(d,u5 l lets d)):=hmp
      simp only[List.map_take] at hmp'
      have hfin:∀ (i:Nat) (h1:i<(nums l).length) (h2:i<lets.length),i<k+1→(o6 l (nums l)[i] lets[i]).isSome=true:=fun i h1 h2 hi=>by
       by_cases e:i=k
       ·subst e;rw[hf];rfl
       ·exact hall i h1 h2 (by omega)
      have hs:=za hx (za hy (za hlt (za hkn hw)))
      repeat' first|with_reducible refine zz ?_|simp -dsimp[hs]|refine zq c2 ?_|refine E0 (id:=10) (nt:=67) 18 [16] [0,1,2,3,6,7,8,9,10,11,12,13,14,21,30,33,34,35,37,38,39,40,41,42,43,44,45,46,47,48,49,50,51,52,55,64] [0,1,2,3,6,7,8,9,10,11,12,13,14,21,30,33,34,35,55,64] mixed rfl (by kernel_rfl) ?_|with_reducible refine zE [0,1,2,3,6,7,8,9,10,11,12,13,14,21,30,33,34,35,55,64] ?_|refine i9 ?_ ?_<;>intro h<;>try simp only[i7] at h
      all_goals try clear hs
      exact zn ⟨k+1,by omega,hfin⟩ (zw [1,2,6,7,8,9,11,33,34] 2 (by simp[A1,hmp']))
   ·have hlet:=ya h0 he fun i h1 h2=>hall i h1 h2 (by omega)
    have htk:(nums l).take k=nums l:=List.take_of_length_le (by omega)
    have c3:=Aj (G:=G) l (nums l) d ((D9 h0).1.imp fun h=>Int.le_of_lt h) (by omega)
    have hE:C3 l lets d=if d∈nums l then 0 else 6:=by simp[C3,h0,hlet]
    simp only[A1] at c3
    rw[htk]
    by_cases hd:d∈nums l
    ·rw[if_pos hd] at hE
     simp only[hd,decide_true] at c3
     simp only[A1]
     have hs:=hlt
     repeat' first|(with_reducible first|refine zz ?_|refine zr ?_|refine zE [0,1,2,3,6,7,8,9,10,11,12,13,14,21,30,33,34,35,55,64] ?_)|simp -dsimp[hs]|refine zp c3 ?_|refine i9 ?_ ?_<;>intro h<;>try simp only[i7] at h
     all_goals try clear hs
     simp[aX,hE,aV,A1]
    ·rw[if_neg hd] at hE
     simp only[hd,decide_false] at c3
     simp only[A1]
     have hs:=hlt
     repeat' first|(with_reducible first|refine zz ?_|refine zr ?_|refine zE [0,1,2,3,6,7,8,9,10,11,12,13,14,21,30,33,34,35,55,64] ?_)|simp -dsimp[hs]|refine zp c3 ?_|refine i9 ?_ ?_<;>intro h<;>try simp only[i7] at h
     all_goals try clear hs
     simp[aX,hE]
  ·have he':¬ (lets.length:Int)=((nums l).length:Int):=by omega
   have hE:C3 l lets d=22:=by
    have:w5 l lets=false:=by simp[w5,he]
    simp[C3,h0,this]
   simp only[A1] at c1
   have hs:=he'
   repeat' first|(with_reducible first|refine zz ?_|refine zr ?_|refine zE [0,1,2,3,6,7,8,9,10,11,12,13,14,21,30,33,34,35,55,64] ?_)|simp -dsimp[hs]|refine zp c1 ?_|refine i9 ?_ ?_<;>intro h<;>try simp only[i7] at h
   all_goals try clear hs
   simp[aX,hE]
 ·have hE:C3 l lets d=j8 l:=by simp[C3,h0]
  simp only[bK,h0,if_false] at c1
  have hs:=h0
  repeat' first|(with_reducible first|refine zz ?_|refine zr ?_|refine zE [0,1,2,3,6,7,8,9,10,11,12,13,14,21,30,33,34,35,55,64] ?_)|simp -dsimp[hs]|refine zp c1 ?_|refine i9 ?_ ?_<;>intro h<;>try simp only[i7] at h
  all_goals try clear hs
  simp[aX,hE,h0]
def jG (m:List (Int×Int)) (lv:List (Int×Int)):List (Int×Int):=lv.foldl (fun m p=>N7 p.1 (IntKind.i64.wrap (l9 m p.1+p.2)) m) m
def gG (by':List (Int×Issue)) (cnt:List (Int×Int)):List DObj:=[.row [.im (.mp [.int .i64] (dJ by'))],.map [.int .i64] (N8 cnt),.row [.map 1],.row [.fn (.func 312) [.ptr 0 0,.ptr 2 0,.ptr 3 0]]]
theorem sZ (l:List Issue) (lets:List Int) (h0:j8 l=0) (hlet:w5 l lets=true) (dep:Int→Int) (hdep:∀ n∈nums l,1≤dep n∧dep n≤6∧∀ c∈cQ l n,c∈nums l∧dep c<dep n) :
 ∀ (k:Nat) (d m:Int) (cnt:List (Int×Int)),d∈nums l→dep d≤k →
  DCall prog G 312 [iv d,iv m,.one (.ptr 0 0),.one (.ptr 2 0),.one (.ptr 3 0)] (gG (aV l lets) cnt)
   (fun r o=>r=.tup []∧o=gG (aV l lets) (jG cnt (O8 (u5 l lets) k d m))):=by
 intro k
 induction k with
 | zero=>intro d m C hd hk;have:=(hdep d hd).1;omega
 | succ k ih =>
   intro d m cnt hd hk
   have hti:=ko h0 hlet hd
   obtain⟨htm,_,_⟩:=dX h0 hlet hd
   have htok:=(O2 (L7 (I9 h0))).2.2.2.1 _ htm
   have hsm:=eS htok
   have hkd:(u5 l lets d).kind=1∨(2≤(u5 l lets d).kind∧(u5 l lets d).items.length=0):=by
    simp only[o3,Bool.and_assoc] at htok
    rw[← Bool.and_assoc,Bool.and_eq_true] at htok
    have:=(dP _).1 htok.1;omega
   have hch:=(hdep d hd).2.2
   have hE:O8 (u5 l lets) (k+1) d m=if 1<(u5 l lets d).kind then [(d,m)] else (u5 l lets d).items.flatMap fun y=>O8 (u5 l lets) k y.drawing (IntKind.i64.wrap (m*y.count)):=rfl
   have hlook:K0 (aV l lets) d=u5 l lets d:=by rw[aV,V1,if_pos hd]
   generalize u5 l lets d=x at *
   refine DCall.drop ?_
   refine h9 func312 rfl ntmps312 (by simp) rfl ?_
   simp only[gG,iv]
   by_cases hkind:x.kind=1
   ·rw[if_neg (by omega)] at hE
    have hs:=za hlook hkind
    repeat' first|(with_reducible first|refine zz ?_|refine zE [0,1,2,3,4,7,9,15,22,23,24,25] ?_)|simp -dsimp[hs]|refine i9 ?_ ?_<;>intro h<;>try simp only[i7] at h
    refine i6 (ι:={ p:Nat×List (Int×Int) // p.1≤x.items.length∧jG cnt (x.items.flatMap fun y=>O8 (u5 l lets) k y.drawing (IntKind.i64.wrap (m*y.count)))=jG p.2 ((x.items.drop p.1).flatMap fun y=>O8 (u5 l lets) k y.drawing (IntKind.i64.wrap (m*y.count))) }) (fun p=>⟨37,[(1,iv m),(2,.one (.ptr 0 0)),(3,.one (.ptr 2 0)),(4,.one (.ptr 3 0)),(22,.one (.im (.sl (x.items.map B5)))),(23,iv (x.items.length:Int)),(24,iv (p.1.1:Int))],gG (aV l lets) p.1.2⟩) (fun p=>x.items.length-p.1.1) ⟨(0,cnt),by simp⟩ (zw [1,2,3,4,22,23,24] 4 (by simp[gG])) ?_
    rintro⟨⟨u,cnt'⟩,hu,hadd⟩
    simp only at hu hadd
    simp only[iv,gG]
    by_cases hlt:u<x.items.length
    ·have hx:x.items[u]?=some x.items[u]:=by simp[hlt]
     have hw:=zk u
     have hc:=hch _ (hti x.items[u] (List.getElem_mem hlt))
     have hrec:=ih x.items[u].drawing (IntKind.i64.wrap (m*x.items[u].count)) cnt' hc.1 (by omega)
     rw[List.drop_eq_getElem_cons hlt,List.flatMap_cons,jG,jG,List.foldl_append] at hadd
     simp only[iv,gG] at hrec
     have hs:=za hx (za hw hlt)
     repeat' first|(with_reducible first|refine zz ?_|refine zE [0,1,2,3,4,7,9,15,22,23,24,25] ?_)|simp -dsimp[hs]|refine CallE.embed [0,1,2,3] (hrec) ?_ ?_ ?_ ?_ ?_ ?_;(focus simp[u7];done);(focus simp;done);(focus simp;done);(focus simp;done);(focus refine o7 ?_;simp[u7,r8];done);try simp -dsimp[o4,u7,hs]|refine i9 ?_ ?_<;>intro h<;>try simp only[i7] at h
     exact zn ⟨(u+1,jG cnt' (O8 (u5 l lets) k x.items[u].drawing (IntKind.i64.wrap (m*x.items[u].count)))),by omega,hadd⟩ (zw [1,2,3,4,22,23,24] 4 (by simp[gG]))
    ·rw[List.drop_eq_nil_of_le (by omega)] at hadd
     have hs:=hlt
     repeat' first|(with_reducible first|refine zz ?_|refine ze ?_|refine zE [0,1,2,3,4,7,9,15,22,23,24,25] ?_)|simp -dsimp[hs]|refine i9 ?_ ?_<;>intro h<;>try simp only[i7] at h|with_reducible refine And.intro ?_ ?_
     rw[hE,hadd];simp[gG,jG]
   ·rw[if_pos (by omega)] at hE
    have hz:x.items.length=0:=by omega
    have hs:=za hlook (za hkind hz)
    repeat' first|(with_reducible first|refine zz ?_|refine zE [0,1,2,3,4,7,9,15,22,23,24,25] ?_)|simp -dsimp[hs]|refine i9 ?_ ?_<;>intro h<;>try simp only[i7] at h
    refine i6 (ι:=Unit) (fun _=>⟨37,[(23,iv 0),(24,iv 0)],gG (aV l lets) (jG cnt [(d,m)])⟩) (fun _=>0) () (zw [23,24] 4 (by simp[gG,jG])) ?_
    intro _
    simp only[iv,gG]
    have hs:=trivial
    repeat' first|(with_reducible first|refine zz ?_|refine ze ?_|refine zE [0,1,2,3,4,7,9,15,22,23,24,25] ?_)|simp -dsimp[hs]|refine i9 ?_ ?_<;>intro h<;>try simp only[i7] at h|with_reducible refine And.intro ?_ ?_
    rw[hE]
def my (l:List Issue) (lets:List Int) (d:Int):List (Int×Int):=jG [] (O8 (u5 l lets) 6 d 1)
def L5 (ns:List Int) (m:List (Int×Int)):List Itm:=(ns.filter fun n=>decide (0<l9 m n)).map fun n=>⟨n,l9 m n⟩
def bH (l:List Issue) (lets:List Int) (d:Int):List Itm:=if C3 l lets d=0 then L5 (nums l) (my l lets d) else []
theorem wJ (l:List Issue) (lets:List Int) (d:Int) (hG:p9 G) (hs:V7 l) (hll:lets.length<1000000):zP prog G 299 [I1 l,u9 lets,iv d] (.tup [.one (.im (.sl ((bH l lets d).map B5))),iv (C3 l lets d)]):=by
 refine zf func299 ntmps299 ?_
 try simp only[I1,u9,iv]
 have c1:=yv (G:=G) l lets d hG hs hll
 by_cases hE:C3 l lets d=0
 ·have h0:j8 l=0:=by
   by_cases h:j8 l=0
   ·exact h
   ·simp[C3,h] at hE
  have hlet:w5 l lets=true:=by
   cases h:w5 l lets
   ·simp[C3,h0,h] at hE
   ·rfl
  have hd:d∈nums l:=Classical.byContradiction fun h=>by simp[C3,h0,hlet,h] at hE
  obtain⟨dep,hdep⟩:=qB h0
  have c2:=sZ (G:=G) l lets h0 hlet dep hdep 6 d 1 [] hd (by have:=(hdep d hd).2.1;omega)
  have hR:bH l lets d=L5 (nums l) (my l lets d):=by simp[bH,hE]
  have hnl:(nums l).length≤l.length:=A5 l l.length
  have hl80:=hs.1
  change DCall _ _ _ _ _ (fun r o=>r=.tup []∧o=gG (aV l lets) (my l lets d)) at c2
  generalize my l lets d=cnt at *
  simp only[aX,hE,if_true,A1] at c1
  simp only[iv,gG,show N8 []=[] from rfl] at c2
  generalize nums l=ns at *
  have hs:=trivial
  repeat' first|(with_reducible first|refine zz ?_|refine zE [0,1,2,3,6,7,8,9,10,11,12,13,15,25,35,36,37,38,44] ?_)|simp -dsimp[hs]|refine zp c1 ?_|refine CallE.embed [2,3,4,5] (c2) ?_ ?_ ?_ ?_ ?_ ?_;(focus simp[u7];done);(focus simp;done);(focus simp;done);(focus simp;done);(focus refine o7 ?_;simp[u7,r8];done);try simp -dsimp[o4,u7,hs]|refine i9 ?_ ?_<;>intro h<;>try simp only[i7] at h
  all_goals try clear hs
  refine i6 (ι:={ p:Nat×Nat×Bool×List Itm // p.1≤ns.length∧p.2.2.2.length≤p.1∧L5 ns cnt=p.2.2.2++L5 (ns.drop p.1) cnt }) (fun p=>⟨55,[(11,.one (.ptr 4 0)),(13,.one (.vec 6 p.1.2.1 0 p.1.2.2.2.length)),(35,u9 ns),(36,iv (ns.length:Int)),(37,iv (p.1.1:Int))],[.row [.im (.sl (l.map g9))],.vec 2 [] 0 true,.row [.im (.mp [.int .i64] (dJ (aV l lets)))],.map [.int .i64] (N8 cnt),.row [.map 3],.row [.fn (.func 312) [.ptr 2 0,.ptr 4 0,.ptr 5 0]],.vec 2 (l8 (p.1.2.2.2.map B5)) p.1.2.1 p.1.2.2.1]⟩) (fun p=>ns.length-p.1.1) ⟨(0,0,true,[]),by simp⟩ (zv [11,13,35,36,37]) ?_
  rintro⟨⟨k,g,nl,out⟩,hk,hol,hp⟩
  simp only at hk hol hp
  simp only[iv,u9]
  by_cases hlt:k<ns.length
  ·have hx:ns[k]?=some ns[k]:=by simp[hlt]
   have hw:=zk k
   rw[List.drop_eq_getElem_cons hlt] at hp
   by_cases hpos:0<l9 cnt ns[k]
   ·rw[L5,L5,List.filter_cons_of_pos (by simpa using hpos),List.map_cons] at hp
    have hs:=za hx (za hw (za hlt hpos))
    repeat' first|(with_reducible first|refine zz ?_|refine And.intro (by omega) ?_|refine zE [0,1,2,3,6,7,8,9,10,11,12,13,15,25,35,36,37,38,44] ?_)|simp -dsimp[hs]|refine i9 ?_ ?_<;>intro h<;>try simp only[i7] at h
    all_goals try clear hs
    all_goals try omega
    exact zn ⟨(k+1,g+1,false,out++[⟨ns[k],l9 cnt ns[k]⟩]),by omega,by simp;omega,by rw[L5,hp,L5];simp⟩ (zw [11,13,35,36,37] 7)
   ·rw[L5,L5,List.filter_cons_of_neg (by simpa using hpos)] at hp
    have hs:=za hx (za hw (za hlt hpos))
    repeat' first|(with_reducible first|refine zz ?_|refine zE [0,1,2,3,6,7,8,9,10,11,12,13,15,25,35,36,37,38,44] ?_)|simp -dsimp[hs]|refine i9 ?_ ?_<;>intro h<;>try simp only[i7] at h
    all_goals try clear hs
    exact zn ⟨(k+1,g,nl,out),by omega,by show out.length≤k+1;omega,hp⟩ (zv [11,13,35,36,37])
  ·rw[List.drop_eq_nil_of_le (by omega)] at hp
   have hs:=hlt
   repeat' first|(with_reducible first|refine zz ?_|refine zr ?_|refine zE [0,1,2,3,6,7,8,9,10,11,12,13,15,25,35,36,37,38,44] ?_)|simp -dsimp[hs]|refine i9 ?_ ?_<;>intro h<;>try simp only[i7] at h
   all_goals try clear hs
   all_goals try omega
   rw[hR,hp];simp[L5,hE]
 ·have hR:bH l lets d=[]:=by simp[bH,hE]
  simp only[aX,hE,if_false] at c1
  have hs:=hE
  repeat' first|(with_reducible first|refine zz ?_|refine zr ?_|refine zE [0,1,2,3,6,7,8,9,10,11,12,13,15,25,35,36,37,38,44] ?_)|simp -dsimp[hs]|refine zp c1 ?_|refine i9 ?_ ?_<;>intro h<;>try simp only[i7] at h
  all_goals try clear hs
  simp[hR]
end Go.Proofs
namespace Go.Ab
open Go
structure Link where
 drawing:Int
 dim:Int
 back:Bool
 deriving DecidableEq
structure ChLoop where
 links:List Link
 lo:Int
 hi:Int
 deriving DecidableEq
structure Chains where
 reg:List Issue
 lets:List Int
 of:Int
 loops:List ChLoop
 deriving DecidableEq
def G8 (x:Link):List IC:=[rI x.drawing,rI x.dim,rB x.back]
def H9 (x:ChLoop):List IC:=[.sl (x.links.map G8),rI x.lo,rI x.hi]
def Q9 (c:Chains):List IC:=[.sl (c.reg.map g9),.sl (c.lets.map encI),rI c.of,.sl (c.loops.map H9)]
def zJ (x:Link):DV:=.agg ((G8 x).map .im)
def kY (x:ChLoop):DV:=.agg ((H9 x).map .im)
def BQ (c:Chains):DV:=.agg ((Q9 c).map .im)
attribute [simp] G8 H9 Q9 zJ kY BQ
end Go.Ab
namespace Go.Proofs
open Go Go.Ab
variable {G:KB}
theorem wu (x lo hi:Int):DCall Tryz.prog G 216 (iv x :: [DC.ptr 0 0,DC.ptr 1 0].map .one) [.row [.im (rI lo)],.row [.im (rI hi)]] (fun d o=>d=bv (decide (x<lo)||decide (hi<x))∧o=[.row [.im (rI lo)],.row [.im (rI hi)]]):=by
 refine h9 Tryz.func216 rfl Tryz.ntmps216 (by simp) rfl ?_
 simp only[rI]
 have hs:=trivial
 repeat' first|(with_reducible first|refine zz ?_|refine zr ?_|refine zE [0,1,2,4] ?_)|simp -dsimp[hs]|with_reducible refine j0 ?_ ?_<;>intro h<;>have h0:=h<;>(try simp only[i7] at h)<;>have h2:=h<;>(try simp at h2)<;>replace hs:=za h0 (za h (za h2 hs))|with_reducible refine And.intro ?_ ?_
 all_goals try clear hs
 all_goals simp[*]
theorem bD (lo hi:Int) (l:List Int) (hl:l.length<1000000):zP Tryz.prog G 168 [iv lo,iv hi,u9 l] (bv (l.all fun x=>decide (lo≤x)&&decide (x≤hi))):=by
 refine zf Tryz.func168 Tryz.ntmps168 ?_
 try simp only[iv,iv,u9]
 have hc:=C9 (G:=G) l (fun x=>decide (x<lo)||decide (hi<x)) 216 [.ptr 0 0,.ptr 1 0] [.row [.im (rI lo)],.row [.im (rI hi)]] (by simp) (fun x _=>wu x lo hi) hl
 simp only[rI] at hc
 repeat' first|(with_reducible first|refine zz ?_|refine zx ?_|refine zE [0,1,2,3,4,6] ?_)|simp -dsimp|refine CallE.here hc ?_
 rw[Bool.eq_iff_iff];simp
 exact exists_congr fun x=>and_congr_right fun _=>by omega
def K4 (c:Chains) (D:List (Int×Int)) (B:List (Int×Issue)):IC:=.ip [.sl (c.reg.map g9),.sl (c.lets.map encI),rI c.of,.sl (c.loops.map H9),.mp [.int .i64] (ar D),.mp [.int .i64] (dJ B)]
def tw (x:ChLoop):Bool:=decide (1≤x.links.length)&&decide (x.links.length≤8)
def qM (x:ChLoop):Bool:=(decide (-8000000000≤x.lo)&&decide (x.lo≤8000000000))&&(decide (-8000000000≤x.hi)&&decide (x.hi≤8000000000))&&decide (x.lo≤x.hi)
def X8 (D:List (Int×Int)) (B:List (Int×Issue)):List (Int×Int)→List Link→Bool
 | _,[]=>true
 | U,y :: r=>decide (l9 U y.drawing+1≤l9 D y.drawing)&&(decide (0≤y.dim)&&decide (y.dim≤((K0 B y.drawing).dims.length:Int)-1))&&X8 D B (N7 y.drawing (l9 U y.drawing+1) U) r
theorem Gi (d:IC) (x:ChLoop):zP Tryz.prog G 372 [.one (.im d),kY x] (bv (tw x)):=by
 refine zf Tryz.func372 Tryz.ntmps372 ?_
 try simp only[kY]
 have c1:=bD (G:=G) 1 8 [(x.links.length:Int)] (by simp)
 repeat' first|(with_reducible first|refine zz ?_|refine zx ?_|refine zE [1,3,4] ?_)|simp -dsimp|refine zt c1 ?_ ?_ ?_;(focus simp;done);focus (simp;done)
 rw[Bool.eq_iff_iff]
 simp[tw]
 omega
theorem AN (x:ChLoop):qM x=true↔-8000000000≤x.lo∧x.lo≤8000000000∧-8000000000≤x.hi∧x.hi≤8000000000∧x.lo≤x.hi:=by
 simp[qM];omega
theorem Gh (d:IC) (x:ChLoop):zP Tryz.prog G 373 [.one (.im d),kY x] (bv (qM x)):=by
 refine zf Tryz.func373 Tryz.ntmps373 ?_
 try simp only[kY]
 have c1:=bD (G:=G) (-8000000000) 8000000000 [x.lo,x.hi] (by simp)
 have hi:=AN x
 cases hq:([x.lo,x.hi].all fun y=>decide (-8000000000≤y)&&decide (y≤8000000000))
 ·rw[hq] at c1
  repeat' first|(with_reducible first|refine zz ?_|refine zx ?_|refine zE [1,3,4] ?_)|simp -dsimp|refine zt c1 ?_ ?_ ?_;(focus simp;done);focus (simp;done)
  all_goals simp at hq
  all_goals exact dI hi (by omega)
 ·rw[hq] at c1
  repeat' first|(with_reducible first|refine zz ?_|refine zx ?_|refine zE [1,3,4] ?_)|simp -dsimp|refine zt c1 ?_ ?_ ?_;(focus simp;done);focus (simp;done)
  all_goals simp at hq
  all_goals rw[Bool.eq_iff_iff,hi]
  all_goals simp
  all_goals omega
theorem Gg (c:Chains) (D:List (Int×Int)) (B:List (Int×Issue)) (x:ChLoop) (hl:x.links.length<1000000) (hB:∀ n,(K0 B n).dims.length<1000000):zP Tryz.prog G 374 [.one (.im (K4 c D B)),kY x] (bv (X8 D B [] x.links)):=by
 refine zf Tryz.func374 Tryz.ntmps374 ?_
 try simp only[kY]
 simp only[K4]
 have hs:=trivial
 repeat' first|(with_reducible first|refine zz ?_|refine zE [0,1,3,4,5,7,10,11,12,13,48] ?_)|simp -dsimp[hs]
 refine i6 (ι:={ p:Nat×List (Int×Int) // p.1≤x.links.length∧X8 D B [] x.links=X8 D B p.2 (x.links.drop p.1)∧bd p.2 p.1 }) (fun p=>⟨50,[(0,.one (.im (K4 c D B))),(5,.one (.map 1)),(10,.one (.im (.sl (x.links.map G8)))),(11,iv (x.links.length:Int)),(12,iv (p.1.1:Int))],[.row ((H9 x).map .im),.map [.int .i64] (N8 p.1.2)]⟩) (fun p=>x.links.length-p.1.1) ⟨(0,[]),by simp[bd]⟩ (zv [0,5,10,11,12] (by simp[K4,N8])) ?_
 rintro⟨⟨k,U⟩,hk,hu,hb⟩
 simp only at hk hu hb
 simp only[iv,K4]
 by_cases hlt:k<x.links.length
 ·have hx:x.links[k]?=some x.links[k]:=by simp[hlt]
  have hw:=zk k
  have hbl:=uT hb x.links[k].drawing
  have hwu:IntKind.i64.wrap (l9 U x.links[k].drawing+1)=l9 U x.links[k].drawing+1:=o5 (by omega) (by omega)
  have hput:l9 (N7 x.links[k].drawing (l9 U x.links[k].drawing+1) U) x.links[k].drawing=l9 U x.links[k].drawing+1:=by rw[Z6,if_pos rfl]
  have hBn:=hB x.links[k].drawing
  have hwd:IntKind.i64.wrap (((K0 B x.links[k].drawing).dims.length:Int)-1)=((K0 B x.links[k].drawing).dims.length:Int)-1:=o5 (by omega) (by omega)
  have c1:=bD (G:=G) 0 (((K0 B x.links[k].drawing).dims.length:Int)-1) [x.links[k].dim] (by simp)
  have hbn:bd (N7 x.links[k].drawing (l9 U x.links[k].drawing+1) U) (k+1):=tH (eA hb (by omega)) (by omega) (by omega)
  rw[List.drop_eq_getElem_cons hlt,X8] at hu
  by_cases hle:l9 U x.links[k].drawing+1≤l9 D x.links[k].drawing
  ·rw[decide_eq_true hle,Bool.true_and] at hu
   cases hq:([x.links[k].dim].all fun y=>decide (0≤y)&&decide (y≤((K0 B x.links[k].drawing).dims.length:Int)-1))
   ·rw[hq] at c1
    have hq':(decide (0≤x.links[k].dim)&&decide (x.links[k].dim≤((K0 B x.links[k].drawing).dims.length:Int)-1))=false:=by simpa using hq
    rw[hq',Bool.false_and] at hu
    have hs:=za hx (za hw (za hlt (za hwu (za hput (za hwd hle)))))
    repeat' first|(with_reducible first|refine zz ?_|refine zr ?_)|simp -dsimp[hs]|refine zq c1 ?_|refine zM 6 50 28 [0,1,3,4,5,7,10,11,12,13,48] ?_|with_reducible refine zE [0,1,3,4,5,7,10,11,12,13,48] ?_|refine i9 ?_ ?_<;>intro h<;>try simp only[i7] at h
    rw[hu]
   ·rw[hq] at c1
    have hq':(decide (0≤x.links[k].dim)&&decide (x.links[k].dim≤((K0 B x.links[k].drawing).dims.length:Int)-1))=true:=by simpa using hq
    rw[hq',Bool.true_and] at hu
    have hs:=za hx (za hw (za hlt (za hwu (za hput (za hwd hle)))))
    repeat' first|with_reducible refine zz ?_|simp -dsimp[hs]|refine zq c1 ?_|refine zM 6 50 28 [0,1,3,4,5,7,10,11,12,13,48] ?_|with_reducible refine zE [0,1,3,4,5,7,10,11,12,13,48] ?_|refine i9 ?_ ?_<;>intro h<;>try simp only[i7] at h
    exact zn ⟨(k+1,N7 x.links[k].drawing (l9 U x.links[k].drawing+1) U),by omega,hu,hbn⟩ (zw [0,5,10,11,12] 2 (by simp[K4]))
  ·rw[decide_eq_false hle,Bool.false_and,Bool.false_and] at hu
   have hs:=za hx (za hw (za hlt (za hwu (za hput (za hwd hle)))))
   repeat' first|(with_reducible first|refine zz ?_|refine zr ?_)|simp -dsimp[hs]|refine zM 6 50 28 [0,1,3,4,5,7,10,11,12,13,48] ?_|with_reducible refine zE [0,1,3,4,5,7,10,11,12,13,48] ?_|refine i9 ?_ ?_<;>intro h<;>try simp only[i7] at h
   rw[hu]
 ·rw[List.drop_eq_nil_of_le (by omega)] at hu
  have hs:=hlt
  repeat' first|(with_reducible first|refine zz ?_|refine zr ?_|refine zE [0,1,3,4,5,7,10,11,12,13,48] ?_)|simp -dsimp[hs]|refine i9 ?_ ?_<;>intro h<;>try simp only[i7] at h
  rw[hu];rfl
end Go.Proofs
