/- Part 20 of the proofs. -/
import Derived.Test.YtlmlkkoapahmjaaGreatDoorQ08
import Derived.Test.YtlmlkkoapahmjaaGreatDoorQ14
import Derived.Test.YtlmlkkoapahmjaaGreatDoorQ15
import Derived.Test.YtlmlkkoapahmjaaGreatDoorQ17
import Derived.Test.YtlmlkkoapahmjaaGreatDoorQ18
set_option linter.all false
set_option maxHeartbeats 100000000
namespace Go.Proofs
open Go Go.Ab
theorem IS {α:Type} {l:List α} (h:l.length=10):∃ a b c d e f g i j k,l=[a,b,c,d,e,f,g,i,j,k]:=by
 match l,h with
 | [a,b,c,d,e,f,g,i,j,k],_=>exact⟨a,b,c,d,e,f,g,i,j,k,rfl⟩
def tv (x:Note):Prop:=0<=x.ways/\x.ways<=255/\0<=x.signed/\x.signed<=255
def Iu:Nat->List IC->Prop
 | 2=>λl=>∃ n:Int,(0<=n/\n<=255)/\l=[.raw (.int .u8 n)]
 | 8=>λl=>∃ b:Bool,l=[rB b]
 | 9=>λl=>∃ n:Int,(0<=n/\n<=255)/\l=[.raw (.int .u8 n)]
 | _=>λl=>∃ n:Int,l=[rI n]
theorem FQ:Rd 153 l6 tv:=(Opens.struct Tryz.underlying153 (by kernel_rfl) Iu (λi f hf=>by
 rcases i with _|_|_|_|_|_|_|_|_|_|i<;>simp at hf<;>subst hf
 ·exact oInt
 ·exact oInt
 ·exact Io
 ·exact oInt
 ·exact oInt
 ·exact oInt
 ·exact oInt
 ·exact oInt
 ·exact Fr
 ·exact Io)).mono (by
 rintro l ⟨ls,h1,h2,rfl⟩;obtain⟨a,b,c,d,e,f,g,i,j,k,rfl⟩:=IS h1;obtain⟨x0,rfl⟩:=h2 0 a rfl;obtain⟨x1,rfl⟩:=h2 1 b rfl;obtain⟨x2,k2,rfl⟩:=h2 2 c rfl;obtain⟨x3,rfl⟩:=h2 3 d rfl;obtain⟨x4,rfl⟩:=h2 4 e rfl;obtain⟨x5,rfl⟩:=h2 5 f rfl;obtain⟨x6,rfl⟩:=h2 6 g rfl;obtain⟨x7,rfl⟩:=h2 7 i rfl;obtain⟨x8,rfl⟩:=h2 8 j rfl;obtain⟨x9,k9,rfl⟩:=h2 9 k rfl;exact⟨⟨x0,x1,x2,x3,x4,x5,x6,x7,x8,x9⟩,⟨k9.1,k9.2,k2.1,k2.2⟩,rfl⟩)
theorem Gf:Opens Tryz.prog 25 (λl=>∃ xs:List Note,(∀ x∈xs,tv x)/\l=[.sl (xs.map l6)]):=
 Opens.sliceOf Tryz.underlying25 (sz:=10) (by kernel_rfl) (by decide) (λ_=>rfl) FQ
def Gj:Nat->List IC->Prop
 | 0=>λl=>∃ xs:List Issue,(∀ x∈xs,fP x)/\l=[.sl (xs.map e9)]
 | _=>λl=>∃ xs:List Note,(∀ x∈xs,tv x)/\l=[.sl (xs.map l6)]
theorem Di:Rd 27 p7 wa:=(Opens.struct Tryz.underlying27 (by kernel_rfl) Gj (λi f hf=>by
 rcases i with _|_|i<;>simp at hf<;>subst hf
 ·exact Iq
 ·exact Gf)).mono (by
 rintro l ⟨ls,h1,h2,rfl⟩;obtain⟨a,b,rfl⟩:=xe h1;obtain⟨x,hx,rfl⟩:=h2 0 a rfl;obtain⟨y,hy,rfl⟩:=h2 1 b rfl;exact⟨⟨x,y⟩,⟨hx,hy⟩,rfl⟩)
theorem Lo {α:Type} {l:List α} (h:l.length=7):∃ a b c d e f g,l=[a,b,c,d,e,f,g]:=by
 match l,h with
 | [a,b,c,d,e,f,g],_=>exact⟨a,b,c,d,e,f,g,rfl⟩
theorem Kn {α:Type} {l:List α} (h:l.length=6):∃ a b c d e f,l=[a,b,c,d,e,f]:=by
 match l,h with
 | [a,b,c,d,e,f],_=>exact⟨a,b,c,d,e,f,rfl⟩
theorem Ir:Opens Tryz.prog 78 (λl=>∃ n m:Int,l=[rI n,rI m]):=(Opens.struct Tryz.underlying78 (by kernel_rfl) (λ_ l=>∃ n:Int,l=[rI n]) (λi f hf=>by
 rcases i with _|_|i<;>simp at hf<;>subst hf<;>exact oInt)).mono (by
 rintro l ⟨ls,h1,h2,rfl⟩;obtain⟨a,b,rfl⟩:=xe h1;obtain⟨x,rfl⟩:=h2 0 a rfl;obtain⟨y,rfl⟩:=h2 1 b rfl;exact⟨x,y,rfl⟩)
def Ee:Nat->List IC->Prop
 | 3=>λl=>∃ xs:List Int,l=[.sl (xs.map Ab.encI)]
 | _=>λl=>∃ n:Int,l=[rI n]
theorem zX:Rd 155 o6 (λ_=>True):=(Opens.struct Tryz.underlying155 (by kernel_rfl) Ee (λi f hf=>by
 rcases i with _|_|_|_|i<;>simp at hf<;>subst hf
 ·exact oInt
 ·exact oInt
 ·exact oInt
 ·exact Fq)).mono (by
 rintro l ⟨ls,h1,h2,rfl⟩;obtain⟨a,b,c,d,rfl⟩:=IR h1;obtain⟨x,rfl⟩:=h2 0 a rfl;obtain⟨y,rfl⟩:=h2 1 b rfl;obtain⟨z,rfl⟩:=h2 2 c rfl;obtain⟨u,rfl⟩:=h2 3 d rfl;exact⟨⟨x,y,z,u⟩,trivial,rfl⟩)
theorem Aq:Opens Tryz.prog 28 (λl=>∃ xs:List Holder,l=[.sl (xs.map o6)]):=
 (Opens.sliceOf Tryz.underlying28 (sz:=4) (by kernel_rfl) (by decide) (λ_=>rfl) zX).mono (by rintro l ⟨xs,_,h⟩;exact⟨xs,h⟩)
def FV:Nat->List IC->Prop
 | 3=>λl=>∃ n m:Int,l=[rI n,rI m]
 | 5=>λl=>∃ n:Int,(0<=n/\n<=255)/\l=[.raw (.int .u8 n)]
 | _=>λl=>∃ n:Int,l=[rI n]
theorem Dg:Rd 80 A4 kK:=(Opens.struct Tryz.underlying80 (by kernel_rfl) FV (λi f hf=>by
 rcases i with _|_|_|_|_|_|i<;>simp at hf<;>subst hf
 ·exact oInt
 ·exact oInt
 ·exact oInt
 ·exact Ir
 ·exact oInt
 ·exact Io)).mono (by
 rintro l ⟨ls,h1,h2,rfl⟩;obtain⟨a,b,c,d,e,f,rfl⟩:=Kn h1;obtain⟨x0,rfl⟩:=h2 0 a rfl;obtain⟨x1,rfl⟩:=h2 1 b rfl;obtain⟨x2,rfl⟩:=h2 2 c rfl;obtain⟨x3,x4,rfl⟩:=h2 3 d rfl;obtain⟨x5,rfl⟩:=h2 4 e rfl;obtain⟨x6,k6,rfl⟩:=h2 5 f rfl;exact⟨⟨x0,x1,x2,x3,x4,x5,x6⟩,k6,rfl⟩)
theorem Dw:Opens Tryz.prog 29 (λl=>∃ xs:List Print,(∀ x∈xs,kK x)/\l=[.sl (xs.map A4)]):=
 Opens.sliceOf Tryz.underlying29 (sz:=7) (by kernel_rfl) (by decide) (λ_=>rfl) Dg
def Dm:Nat->List IC->Prop
 | 0=>λl=>∃ x:Notes,wa x/\l=p7 x
 | 1=>λl=>∃ xs:List Holder,l=[.sl (xs.map o6)]
 | _=>λl=>∃ xs:List Print,(∀ x∈xs,kK x)/\l=[.sl (xs.map A4)]
theorem zV:Rd 31 p6 ki:=(Opens.struct Tryz.underlying31 (by kernel_rfl) Dm (λi f hf=>by
 rcases i with _|_|_|i<;>simp at hf<;>subst hf
 ·exact Di
 ·exact Aq
 ·exact Dw)).mono (by
 rintro l ⟨ls,h1,h2,rfl⟩;obtain⟨a,b,c,rfl⟩:=DP h1;obtain⟨x,hx,rfl⟩:=h2 0 a rfl;obtain⟨y,rfl⟩:=h2 1 b rfl;obtain⟨z,hz,rfl⟩:=h2 2 c rfl;exact⟨⟨x,y,z⟩,⟨hx,hz⟩,rfl⟩)
theorem Dh:Rd 69 w5 (λ_=>True):=(Opens.struct Tryz.underlying69 (by kernel_rfl) (Ai (λ_=>True) (λl=>∃ n:Int,l=[rI n]) (λl=>∃ n:Int,l=[rI n]) (λl=>∃ n m:Int,l=[rI n,rI m])) (λi f hf=>by
 rcases i with _|_|_|i<;>simp at hf<;>subst hf
 ·exact oInt
 ·exact oInt
 ·exact Is)).mono (by
 rintro l ⟨ls,h1,h2,rfl⟩;obtain⟨a,b,c,rfl⟩:=DP h1;obtain⟨x,rfl⟩:=h2 0 a rfl;obtain⟨y,rfl⟩:=h2 1 b rfl;obtain⟨z,u,rfl⟩:=h2 2 c rfl;exact⟨⟨x,y,z,u⟩,trivial,rfl⟩)
theorem Dx:Opens Tryz.prog 37 (λl=>∃ xs:List Piece,l=[.sl (xs.map w5)]):=
 (Opens.sliceOf Tryz.underlying37 (sz:=4) (by kernel_rfl) (by decide) (λ_=>rfl) Dh).mono (by rintro l ⟨xs,_,h⟩;exact⟨xs,h⟩)
def Jx:Nat->List IC->Prop
 | 0=>λl=>∃ x:Prints,ki x/\l=p6 x
 | 3=>λl=>∃ x:ChLoop,True/\l=G8 x
 | 4=>λl=>∃ xs:List Piece,l=[.sl (xs.map w5)]
 | _=>λl=>∃ n:Int,l=[rI n]
theorem FU:Rd 39 j4 (λc=>ki c.p):=(Opens.struct Tryz.underlying39 (by kernel_rfl) Jx (λi f hf=>by
 rcases i with _|_|_|_|_|i<;>simp at hf<;>subst hf
 ·exact zV
 ·exact oInt
 ·exact oInt
 ·exact zW
 ·exact Dx)).mono (by
 rintro l ⟨ls,h1,h2,rfl⟩;obtain⟨a,b,c,d,e,rfl⟩:=IQ h1;obtain⟨x,hx,rfl⟩:=h2 0 a rfl;obtain⟨y,rfl⟩:=h2 1 b rfl;obtain⟨z,rfl⟩:=h2 2 c rfl;obtain⟨u,-,rfl⟩:=h2 3 d rfl;obtain⟨v,rfl⟩:=h2 4 e rfl;exact⟨⟨x,y,z,u,v⟩,hx,rfl⟩)
theorem pu {H:Type} {enc:TypeId×Value->H} {P:Program} {w:World} {base:Nat} {sp:Nat->Bool} {held:Bool} {fuel:Nat} {t:TypeId} {ps rs:Array TypeId} {va:Bool} {v:Value} {q:List MemPlace}
 (ht:P.underlying t=some (.func ps rs va)) (h:DataW.trod enc P w base sp held fuel t [v]=some (.nil,q)):v=.nilFunc:=by
 cases fuel with
 | zero=>simp[DataW.trod] at h
 | succ n=>cases v<;>simp[DataW.trod,ht] at h<;>rfl
theorem nC {P:Program} {W:World} {t e te n:Nat} {f:Field} {cs:Array Value} {fuel:Nat} {p:List MemPlace} {L:List (DataW (List UInt8))} (ht:P.underlying t=some (.array n e)) (hte:P.underlying e=some (.struct #[f])) (hf0:f.offset=0) (hft:f.type=te) (hce:P.cellsOf e=1) (hcf:P.cellsOf te=1)
 (h:DataW.trod (funcToken P) P W 0 (λ_=>true) true fuel t cs.toList=some (.agg L,p)) (j:Nat) (hj:j<n):∃ (c:Value) (m2:Nat) (y:DataW (List UInt8)×List MemPlace),cs[j]?=some c/\L[j]?=some (.agg [y.1])/\DataW.trod (funcToken P) P W 0 (λ_=>true) true m2 te [c]=some (y.1,y.2):=by
 obtain⟨xs,m,_,ex,hlen,hxl,hel⟩:=DataW.trod_array ht h;have hE:=hel j hj;rw[hce,Nat.mul_one] at hE;have hx:xs[j]?=some xs[j]:=by simp[hxl,hj]
 rw[hx] at hE;obtain⟨ys,m2,_,ey,hlen2,hyl,hel2⟩:=DataW.trod_struct hte hE;have hE2:=hel2 0 f rfl;have hyl1:ys.length=1:=by simpa using hyl
 obtain⟨y,rfl⟩:=List.length_eq_one_iff.1 hyl1;rw[hf0,hft,hcf] at hE2;have hcl:j<cs.size:=by
  rcases Nat.lt_or_ge j cs.size with h1|h1
  ·exact h1
  ·simp[hce] at hlen2;omega
 have hc1:((cs.toList.drop j).take 1)=[cs[j]]:=by
  rw[List.drop_eq_getElem_cons (by simpa using hcl)];simp
 rw[hc1] at hE2;simp only[List.drop_zero,List.take_succ_cons,List.getElem?_cons_zero,List.take_nil] at hE2;have e1:(xs.map (·.1))[j]?=L[j]?:=by rw[(DataW.agg.inj (Prod.mk.inj ex).1)]
 rw[List.getElem?_map,hx,ey] at e1;exact⟨cs[j],_,y,Array.getElem?_eq_getElem hcl,by rw[<- e1];rfl,hE2⟩
theorem rb {P:Program} {W:World} {t e te:Nat} {f:Field} {ps rs:Array TypeId} {cs:Array Value} {fuel:Nat} {p:List MemPlace} {b1 b2 b3:UInt8} {r1 r2 r3:List UInt8} {f1 f2 f3:FuncId} (ht:P.underlying t=some (.array 4 e)) (hte:P.underlying e=some (.struct #[f])) (hf0:f.offset=0) (hft:f.type=te) (hu:P.underlying te=some (.func ps rs false)) (hce:P.cellsOf e=1) (hcf:P.cellsOf te=1)
 (h1:((List.range P.funcs.size).filter λf=>(P.funcs[f]?).any (·.name.toUTF8.data.toList==b1 :: r1))=[f1]) (h2:((List.range P.funcs.size).filter λf=>(P.funcs[f]?).any (·.name.toUTF8.data.toList==b2 :: r2))=[f2]) (h3:((List.range P.funcs.size).filter λf=>(P.funcs[f]?).any (·.name.toUTF8.data.toList==b3 :: r3))=[f3])
 (h:DataW.trod (funcToken P) P W 0 (λ_=>true) true fuel t cs.toList=some (.agg [.agg [.nil],.agg [.held (b1 :: r1)],.agg [.held (b2 :: r2)],.agg [.held (b3 :: r3)]],p)):∀ (j:Nat) (v:Value),[Value.nilFunc,.func (.func f1) #[] #[],.func (.func f2) #[] #[],.func (.func f3) #[] #[]][j]?=some v->cs[j]?=some v:=by
 have get:=nC ht hte hf0 hft hce hcf h;obtain⟨c0,m0,y0,a0,e0,t0⟩:=get 0 (by omega);obtain⟨c1,m1,y1,a1,e1,t1⟩:=get 1 (by omega);obtain⟨c2,m2,y2,a2,e2,t2⟩:=get 2 (by omega);obtain⟨c3,m3,y3,a3,e3,t3⟩:=get 3 (by omega);simp at e0 e1 e2 e3;rw[<- e0] at t0;rw[<- e1] at t1;rw[<- e2] at t2;rw[<- e3] at t3;intro j v hj;rcases j with _|_|_|_|j
 ·simp at hj;subst hj;rw[a0,pu hu t0]
 ·simp at hj;subst hj;rw[a1,func_of_trod (f0:=f1) (q:=y1.2) hu h1 t1]
 ·simp at hj;subst hj;rw[a2,func_of_trod (f0:=f2) (q:=y2.2) hu h2 t2]
 ·simp at hj;subst hj;rw[a3,func_of_trod (f0:=f3) (q:=y3.2) hu h3 t3]
 ·simp at hj
theorem wz {W:World} {g:Nat} {f1 f2 f3:FuncId} (h:∀ (j:Nat) (v:Value),[Value.nilFunc,.func (.func f1) #[] #[],.func (.func f2) #[] #[],.func (.func f3) #[] #[]][j]?=some v->W.cell? ⟨g,j,.none⟩=some v):RepI W (wS W) (.ip [.raw .nilFunc,.fn (.func f1) [],.fn (.func f2) [],.fn (.func f3) []]) (.pointer (some ⟨g,0,.none⟩)):=by
 have hb:g<W.heap.size:=W9 (a:=⟨g,0,.none⟩) (h 0 _ rfl);refine .ip _ _ (λj=>([Value.nilFunc,.func (.func f1) #[] #[],.func (.func f2) #[] #[],.func (.func f3) #[] #[]][j]?).getD undef) rfl hb (λj c hj=>?_) (λj c hj=>?_)
 ·have hl:=e7 hj;have hl':j < [Value.nilFunc,.func (.func f1) #[] #[],.func (.func f2) #[] #[],.func (.func f3) #[] #[]].length:=hl;have hv:=List.getElem?_eq_getElem hl';rw[hv,Option.getD_some];simpa using h j _ hv
 ·have hl:=e7 hj;have hl':j<4:=hl;have hfn:∀ f,RepI W (wS W) (.fn (.func f) []) (.func (.func f) #[] #[]):=λf=>RepI.fn (w:=W) (ok:=wS W) (.func f) [] #[] rfl (λj c v h=>by simp at h);rcases j with _|_|_|_|j<;>first|omega|(simp at hj ⊢;subst hj;first|exact hfn _|exact .raw _ rfl)
theorem jr {P:Program} {W:World} {n:String} {t e:Nat} {a b:Bool} (ht:P.underlying t=some (.array 2 e)) (he:P.underlying e=some .bool) (hct:P.cellsOf t=2) (hce:P.cellsOf e=1) (htg:∀ g,P.globalNamed n=some g->(P.globals[g]?).map (·.type)=some t) (h:laidMetH P [(n,.agg [.lit (.bool a),.lit (.bool b)])] W):∃ cs,W.var? P n=some cs/\∀ (j:Nat) (v:Value),[Value.bool a,.bool b][j]?=some v->cs[j]?=some v:=by
 have h1:laidMet P [(n,.agg [.lit (.bool a),.lit (.bool b)])] W:=h;obtain⟨ps,hL,_,_⟩:=h1;obtain⟨g,t',cs,fuel,p,q,hg,ht',hv,hd,_,_⟩:=hL;have:=htg g hg;rw[this] at ht';cases ht';obtain⟨xs,m,_,ex,hlen,hxl,hel⟩:=DataW.trod_array ht hd;rw[hct] at hlen;obtain⟨v0,v1,hvs⟩:∃ v0 v1,cs.toList=[v0,v1]:=by
  match hc:cs.toList,hlen with
  | [v0,v1],_=>exact⟨v0,v1,rfl⟩
 obtain⟨x0,x1,rfl⟩:∃ x0 x1,xs=[x0,x1]:=by
  match xs,hxl with
  | [x0,x1],_=>exact⟨x0,x1,rfl⟩
 have ex1:=(Prod.mk.inj ex).1;simp only[List.map_cons,List.map_nil,DataW.agg.injEq,List.cons.injEq,and_true] at ex1;have e0:=hel 0 (by omega);have e1:=hel 1 (by omega);rw[hce,hvs] at e0 e1;simp only[Nat.zero_mul,Nat.one_mul,List.drop_zero,List.drop_succ_cons,List.take_succ_cons,List.take_zero,List.getElem?_cons_zero,List.getElem?_cons_succ] at e0 e1;obtain⟨b0,k0,l0⟩:=DataW.trod_bool he e0;obtain⟨b1,k1,l1⟩:=DataW.trod_bool he e1;simp only[List.cons.injEq,and_true] at k0 k1;rw[l0,l1] at ex1;obtain⟨q0,q1⟩:=ex1;simp only[DataW.lit.injEq,Lit.bool.injEq] at q0 q1;refine⟨cs,hv,λj v hj=>?_⟩;rw[<- Array.getElem?_toList,hvs,k0,k1,<- q0,<- q1];exact hj
theorem po {W:World} {g:Nat} {a b:Bool} (h:∀ (j:Nat) (v:Value),[Value.bool a,.bool b][j]?=some v->W.cell? ⟨g,j,.none⟩=some v):RepI W (wS W) (.ip [.raw (.bool a),.raw (.bool b)]) (.pointer (some ⟨g,0,.none⟩)):=by
 have hb:g<W.heap.size:=W9 (a:=⟨g,0,.none⟩) (h 0 _ rfl);refine .ip _ _ (λj=>([Value.bool a,.bool b][j]?).getD undef) rfl hb (λj c hj=>?_) (λj c hj=>?_)
 ·have hl:=e7 hj;have hl':j < [Value.bool a,.bool b].length:=hl;have hv:=List.getElem?_eq_getElem hl';rw[hv,Option.getD_some];simpa using h j _ hv
 ·have hl:=e7 hj;have hl':j<2:=hl;rcases j with _|_|j<;>first|omega|(simp at hj ⊢;subst hj;exact .raw _ rfl)
end Go.Proofs
namespace Go.Ab
open Go
abbrev F4:=Bool×Bool
def D6 (f:F4):List IC:=[.raw (.bool f.1),.raw (.bool f.2)]
def jV (f:F4):DV:=.agg ((D6 f).map .im)
structure Desk where
 c:Case
 notes:Bool
 faults:List (List F4)
def K2 (l:List F4):List IC:=[.sl (l.map D6)]
def T6 (d:Desk):List IC:=j4 d.c++[.raw (.bool d.notes),.sl (d.faults.map K2)]
def bc (d:Desk):IC:=.ip (T6 d)
attribute [simp] D6 jV K2
def aS (L:List F4) (so:Bool) (f:F4):List F4:=if so=true/\f∉L then L++[f] else L
end Go.Ab
namespace Go.Proofs
open Go Go.Ab
variable {G:LI}
@[simp] abbrev QG:List Nat:=[0,1,3,4,5,7,8,9,16]
theorem oq (l:List F4) (n:F4) (hl:l.length<1000000):zP Tryz.prog G 159 [.one (.im (.sl (l.map D6))),jV n] (iv (I9 (λx=>decide (n=x)) l)):=by
 refine zf Tryz.func159 Tryz.ntmps159 ?_;try simp only[iv]
 simp only[jV,D6,List.map_cons,List.map_nil];have hs:=trivial;repeat' first|with_reducible refine zz ?_|with_reducible refine zE QG ?_;try simp -dsimp[hs]
 all_goals try simp -dsimp[hs]
 refine i6 (ι:={ k:Nat // k<=l.length/\∀ (j:Nat) (x:F4),j<k->l[j]?=some x->decide (n=x)=false }) (λi=>⟨19,[(0,.one (.im (.sl (l.map D6)))),(3,.one (.ptr 0 0)),(7,iv (l.length:Int)),(8,iv (i.1:Int))],[.row [.im (.raw (.bool n.1)),.im (.raw (.bool n.2))]]⟩) (λi=>l.length-i.1) ⟨0,by simp⟩ (zv [0,3,7,8]) ?_;rintro⟨i,hi,hno⟩;simp only[iv];by_cases hlt:i<l.length
 ·have hx0:l[i]?=some l[i]:=by simp[hlt]
  have hw:=zk i;generalize hx:l[i]=x at *;obtain⟨n1,n2⟩:=n;obtain⟨x1,x2⟩:=x;have hs:True:=trivial;by_cases hq:(n1,n2)=(x1,x2)
  ·obtain⟨rfl,rfl⟩:=Prod.mk.inj hq;have hs:=za hx (za hw hlt);repeat' first|(with_reducible first|refine zz ?_|refine zr ?_)|(first|refine zM 4 19 6 QG ?_|with_reducible refine zE QG ?_);try simp -dsimp[hs]|refine i8 ?_ ?_<;>intro h<;>try exact h.elim
   all_goals try simp -dsimp[hs]
   all_goals exact(M8 hx0 (by simp) hno).symm
  ·have hst:∀ (j:Nat) (y:F4),j<i+1->l[j]?=some y->decide ((n1,n2)=y)=false:=λj y hj hjx=>by
    by_cases e:j=i
    ·subst e;rw[hx0] at hjx;cases hjx;exact decide_eq_false hq
    ·exact hno j y (by omega) hjx
   have hb:((n1==x1)&&((n2==x2)&&true))=false:=by
    cases n1<;>cases n2<;>cases x1<;>cases x2<;>simp_all
   cases n1<;>cases n2<;>cases x1<;>cases x2
   all_goals first
    | exact absurd rfl hq
    | skip
   all_goals
    have hs:=za hx (za hw hlt);repeat' first|with_reducible refine zz ?_|(first|refine zM 4 19 6 QG ?_|with_reducible refine zE QG ?_);try simp -dsimp[hs]|refine i8 ?_ ?_<;>intro h<;>try exact h.elim
    all_goals try simp -dsimp[hs]
   all_goals exact zn ⟨i+1,by omega,hst⟩ (zv [0,3,7,8])
 ·have hs:=hlt;repeat' first|(with_reducible first|refine zz ?_|refine zr ?_)|with_reducible refine zE QG ?_;try simp -dsimp[hs]|refine i8 ?_ ?_<;>intro h<;>try exact h.elim
  all_goals try simp -dsimp[hs]
  exact(T5 λj x hjx=>hno j x (by have:=e7 hjx;omega) hjx).symm
theorem iJ (l:List F4) (n:F4) (hl:l.length<1000000):zP Tryz.prog G 107 [.one (.im (.sl (l.map D6))),jV n] (bv (decide (n∈l))):=by
 refine zf Tryz.func107 Tryz.ntmps107 ?_;try simp only[iv]
 have hc:=oq (G:=G) l n hl;simp only[jV,D6,List.map_cons,List.map_nil] at hc ⊢;repeat' first|(with_reducible first|refine zz ?_|refine zx ?_)|(first|refine zp hc ?_|with_reducible refine zE [0,1,3,4] ?_);try simp -dsimp
 all_goals try simp -dsimp
 have h1:=B0 (λx=>decide (n=x)) l;rw[<- decide_eq_true_iff (p:=0<=_),h1];simp
theorem Cn (L:List F4) (g sz:Nat) (nl so:Bool) (f:F4) (hl:L.length<1000) (hz:sz=2\/nl=true):DCall Tryz.prog G 106 (bv so :: jV f :: [DC.ptr 0 0].map .one) [.row [.vec 1 g 0 L.length],.vec sz (l5 (L.map D6)) g nl] (λd o=>∃ i:Nat×Nat×Bool,(i.2.1=2\/i.2.2=true)/\d=.tup []/\o=[.row [.vec 1 i.1 0 (aS L so f).length],.vec i.2.1 (l5 ((aS L so f).map D6)) i.1 i.2.2]):=by
 refine DCall.drop ?_;refine h9 Tryz.func106 rfl Tryz.ntmps106 (by simp) rfl ?_;have c1:=iJ (G:=G) L f (by omega);simp only[jV,D6,List.map_cons,List.map_nil,bv] at c1 ⊢;have htk:List.take L.length (l5 (L.map D6))=l5 (L.map D6):=List.take_of_length_le (by simp[l5]);have hs:True:=trivial;cases so
 ·have hs:=trivial;repeat' first|(with_reducible first|refine zz ?_|refine ze ?_)|with_reducible refine zE [0,1,2,4,11] ?_;try simp -dsimp[hs]|refine i8 ?_ ?_<;>intro h<;>try exact h.elim
  all_goals try simp -dsimp[hs]
  all_goals rw[show aS L false f=L by simp[aS]]
  all_goals rcases hz with h|h
  all_goals first
   | exact⟨g,sz,.inl ⟨h,⟨rfl,rfl⟩,rfl,rfl,rfl⟩⟩
   | exact⟨g,sz,.inr ⟨⟨rfl,rfl⟩,rfl,rfl,rfl,h⟩⟩
 ·by_cases hf:f∈L
  ·rw[decide_eq_true hf] at c1;have hs:=htk;repeat' first|(with_reducible first|refine zz ?_|refine ze ?_)|refine zt c1 ?_ ?_ ?_;(focus simp;done);(focus simp;done);try simp -dsimp[hs]|with_reducible refine zE [0,1,2,4,11] ?_;try simp -dsimp[hs]|refine i8 ?_ ?_<;>intro h<;>try exact h.elim
   all_goals try simp -dsimp[hs]
   all_goals rw[show aS L true f=L by simp[aS,hf]]
   all_goals rcases hz with h|h
   all_goals first
    | exact⟨g,sz,.inl ⟨h,⟨rfl,rfl⟩,rfl,rfl,rfl⟩⟩
    | exact⟨g,sz,.inr ⟨⟨rfl,rfl⟩,rfl,rfl,rfl,h⟩⟩
  ·rw[decide_eq_false hf] at c1;have hE:aS L true f=L++[f]:=by unfold aS;rw[if_pos ⟨rfl,hf⟩]
   have hs:=za htk hz;repeat' first|(with_reducible first|refine zz ?_|refine And.intro (by omega) ?_|refine ze ?_)|refine zt c1 ?_ ?_ ?_;(focus simp;done);(focus simp;done);try simp -dsimp[hs]|with_reducible refine zE [0,1,2,4,11] ?_;try simp -dsimp[hs]|refine i8 ?_ ?_<;>intro h<;>try exact h.elim
   all_goals try simp -dsimp[hs]
   all_goals simp[hE,l5]
end Go.Proofs
namespace Go.Ab
open Go
structure Susp where
 kind:Int
 index:Int
 deriving DecidableEq
def j5 (s:Susp):List IC:=[.raw (.int .u8 s.kind),rI s.index]
def C3 (s:Susp):DV:=.agg ((j5 s).map .im)
def A3 (l:List Susp):DV:=.one (.im (.sl (l.map j5)))
attribute [simp] j5 C3 A3
def U9 (d:Desk):List IC:=[bc d]
def kC (d:Desk):DV:=.one (.im (bc d))
def aJ (l:List Desk):DV:=.one (.im (.sl (l.map U9)))
attribute [simp] U9 kC aJ
def qQ (d:Desk) (s:Susp) (so:Bool):Bool:=if s.kind=1 then d.notes==so else if s.kind=2 then (d.faults.getD s.index.toNat []).any λf=>f.1==so else (d.faults.getD s.index.toNat []).any λf=>f.2==so
def L9 (l:List Desk) (s:Susp):Int:=if (l.any λd=>qQ d s true)=false then 0 else if (l.any λd=>qQ d s false)=false then 2 else 1
def sG (n:Nat) (s:Susp):Bool:=if s.kind=1 then decide (s.index=0) else (decide (2<=s.kind)&&decide (s.kind<=3))&&(decide (0<=s.index)&&decide (s.index<=(n:Int)-1))
def cR (n:Nat) (s:Susp):Prop:=s.kind=1\/((s.kind=2\/s.kind=3)/\0<=s.index/\s.index<n)
theorem AQ {n:Nat} {s:Susp} (h:sG n s=true):cR n s:=by
 unfold sG at h;unfold cR;split at h
 ·exact .inl ‹_›
 ·simp only[Bool.and_eq_true,decide_eq_true_eq] at h;omega
end Go.Ab
namespace Go.Proofs
open Go Go.Ab
variable {G:LI}
def cF (G:LI):Prop:=G 1=some [.raw .nilFunc,.fn (.func 308) [],.fn (.func 309) [],.fn (.func 312) []]
@[simp] abbrev LN:List Nat:=[0,1,4,5,7,8,9,16]
theorem pH (l:List F4) (p:F4->Bool) (k:Nat) (caps:List DC) (objs:List DObj) (hok:E6 Tryz.prog k) (hf:∀ x∈l,DCall Tryz.prog G k (jV x :: caps.map .one) objs (λd o=>d=bv (p x)/\o=objs)) (hl:l.length<1000000):DCall Tryz.prog G 314 [.one (.im (.sl (l.map D6))),.one (.fn (.func k) caps)] objs (λd o=>d=iv (I9 p l)/\o=objs):=by
 refine h9 Tryz.func314 rfl Tryz.ntmps314 (by simp) rfl ?_;have hs:=trivial;repeat' first|(with_reducible first|refine zz ?_|refine zE LN ?_)|simp -dsimp[hs]
 refine i6 (ι:={ k:Nat // k<=l.length/\∀ j x,j<k->l[j]?=some x->p x=false }) (λi=>⟨19,[(0,.one (.im (.sl (l.map D6)))),(1,.one (.fn (.func k) caps)),(7,iv (l.length:Int)),(8,iv (i.1:Int))],objs⟩) (λi=>l.length-i.1) ⟨0,by simp⟩ (zv [0,1,7,8]) ?_;rintro⟨i,hi,hno⟩;simp only[iv];by_cases hlt:i<l.length
 ·have hx:l[i]?=some l[i]:=by simp[hlt]
  have hw:=zk i;have hc:=hf l[i] (by simp);simp only[jV,D6,List.map_cons,List.map_nil,bv,rI] at hc;have hs:=za hx (za hw hok);repeat' first|(with_reducible first|refine zz ?_|refine And.intro (by omega) ?_|refine zr ?_|refine zE LN ?_)|simp -dsimp[hs]|refine CallE.here hc ?_|refine i8 ?_ ?_<;>intro h<;>try exact h.elim|with_reducible refine And.intro ?_ ?_
  all_goals try omega
  ·exact(M8 hx (by assumption) hno).symm
  ·exact At.round ⟨i+1,by omega,λj x hj hjx=>by
    by_cases e:j=i
    ·subst e;rw[hx] at hjx;cases hjx;assumption
    ·exact hno j x (by omega) hjx⟩ (by simp;omega) (zv [0,1,7,8])
 ·have hs:=trivial;repeat' first|(with_reducible first|refine zz ?_|refine zr ?_|refine zE LN ?_)|simp -dsimp[hs]|refine i8 ?_ ?_<;>intro h<;>try exact h.elim|with_reducible refine And.intro ?_ ?_
  all_goals try omega
  exact(T5 λj x hjx=>hno j x (by have:=e7 hjx;omega) hjx).symm
theorem db (l:List F4) (p:F4->Bool) (k:Nat) (caps:List DC) (objs:List DObj) (hok:E6 Tryz.prog k) (hf:∀ x∈l,DCall Tryz.prog G k (jV x :: caps.map .one) objs (λd o=>d=bv (p x)/\o=objs)) (hl:l.length<1000000):DCall Tryz.prog G 310 [.one (.im (.sl (l.map D6))),.one (.fn (.func k) caps)] objs (λd o=>d=bv (l.any p)/\o=objs):=by
 refine h9 Tryz.func310 rfl Tryz.ntmps310 (by simp) rfl ?_;have hc:=pH l p k caps objs hok hf hl;repeat' first|(with_reducible first|refine zz ?_|refine zx ?_|refine zE [0,1,4] ?_)|simp -dsimp|refine CallE.here hc ?_|with_reducible refine And.intro ?_ ?_
 simp[B0]
theorem pI (l:List Desk) (p:Desk->Bool) (k:Nat) (caps:List DC) (objs:List DObj) (hok:E6 Tryz.prog k) (hf:∀ x∈l,DCall Tryz.prog G k (kC x :: caps.map .one) objs (λd o=>d=bv (p x)/\o=objs)) (hl:l.length<1000000):DCall Tryz.prog G 109 [.one (.im (.sl (l.map U9))),.one (.fn (.func k) caps)] objs (λd o=>d=iv (I9 p l)/\o=objs):=by
 refine h9 Tryz.func109 rfl Tryz.ntmps109 (by simp) rfl ?_;have hs:=trivial;repeat' first|(with_reducible first|refine zz ?_|refine zE LN ?_)|simp -dsimp[hs]
 refine i6 (ι:={ k:Nat // k<=l.length/\∀ j x,j<k->l[j]?=some x->p x=false }) (λi=>⟨19,[(0,.one (.im (.sl (l.map U9)))),(1,.one (.fn (.func k) caps)),(7,iv (l.length:Int)),(8,iv (i.1:Int))],objs⟩) (λi=>l.length-i.1) ⟨0,by simp⟩ (zv [0,1,7,8]) ?_;rintro⟨i,hi,hno⟩;simp only[iv];by_cases hlt:i<l.length
 ·have hx:l[i]?=some l[i]:=by simp[hlt]
  have hw:=zk i;have hc:=hf l[i] (by simp);simp only[kC,List.map_cons,List.map_nil,bv,rI] at hc;have hs:=za hx (za hw hok);repeat' first|(with_reducible first|refine zz ?_|refine And.intro (by omega) ?_|refine zr ?_|refine zE LN ?_)|simp -dsimp[hs]|refine CallE.here hc ?_|refine i8 ?_ ?_<;>intro h<;>try exact h.elim|with_reducible refine And.intro ?_ ?_
  all_goals try omega
  ·exact(M8 hx (by assumption) hno).symm
  ·exact At.round ⟨i+1,by omega,λj x hj hjx=>by
    by_cases e:j=i
    ·subst e;rw[hx] at hjx;cases hjx;assumption
    ·exact hno j x (by omega) hjx⟩ (by simp;omega) (zv [0,1,7,8])
 ·have hs:=trivial;repeat' first|(with_reducible first|refine zz ?_|refine zr ?_|refine zE LN ?_)|simp -dsimp[hs]|refine i8 ?_ ?_<;>intro h<;>try exact h.elim|with_reducible refine And.intro ?_ ?_
  all_goals try omega
  exact(T5 λj x hjx=>hno j x (by have:=e7 hjx;omega) hjx).symm
theorem dc (l:List Desk) (p:Desk->Bool) (k:Nat) (caps:List DC) (objs:List DObj) (hok:E6 Tryz.prog k) (hf:∀ x∈l,DCall Tryz.prog G k (kC x :: caps.map .one) objs (λd o=>d=bv (p x)/\o=objs)) (hl:l.length<1000000):DCall Tryz.prog G 62 [.one (.im (.sl (l.map U9))),.one (.fn (.func k) caps)] objs (λd o=>d=bv (l.any p)/\o=objs):=by
 refine h9 Tryz.func62 rfl Tryz.ntmps62 (by simp) rfl ?_;have hc:=pI l p k caps objs hok hf hl;repeat' first|(with_reducible first|refine zz ?_|refine zx ?_|refine zE [0,1,4] ?_)|simp -dsimp|refine CallE.here hc ?_|with_reducible refine And.intro ?_ ?_
 simp[B0]
theorem GD (so:Bool) (f:F4):DCall Tryz.prog G 311 (jV f :: [DC.ptr 0 0].map .one) [.row [.im (.raw (.bool so))]] (λd o=>d=bv (f.1==so)/\o=[.row [.im (.raw (.bool so))]]):=by
 refine DCall.drop ?_;refine h9 Tryz.func311 rfl Tryz.ntmps311 (by simp) rfl ?_;simp only[jV,D6];repeat' first|(with_reducible first|refine zz ?_|refine zx ?_|refine zE [0,1,2,3] ?_)|simp -dsimp|with_reducible refine And.intro ?_ ?_
theorem GC (so:Bool) (f:F4):DCall Tryz.prog G 313 (jV f :: [DC.ptr 0 0].map .one) [.row [.im (.raw (.bool so))]] (λd o=>d=bv (f.2==so)/\o=[.row [.im (.raw (.bool so))]]):=by
 refine DCall.drop ?_;refine h9 Tryz.func313 rfl Tryz.ntmps313 (by simp) rfl ?_;simp only[jV,D6];repeat' first|(with_reducible first|refine zz ?_|refine zx ?_|refine zE [0,1,2,3] ?_)|simp -dsimp|with_reducible refine And.intro ?_ ?_
theorem IV (d:Desk) (i:Int) (so:Bool):zP Tryz.prog G 308 [kC d,iv i,bv so] (bv (d.notes==so)):=by
 refine zf Tryz.func308 Tryz.ntmps308 ?_;try simp only[iv,bv]
 simp only[kC,bc,T6];repeat' first|(with_reducible first|refine zz ?_|refine zx ?_|refine zE [0,2,6] ?_)|simp -dsimp
theorem IU (d:Desk) (i:Nat) (so:Bool) (h:i<d.faults.length) (hl:∀ x∈d.faults,x.length<1000000):zP Tryz.prog G 309 [kC d,iv (i:Int),bv so] (bv ((d.faults.getD i []).any λf=>f.1==so)):=by
 refine zf Tryz.func309 Tryz.ntmps309 ?_;try simp only[iv,bv]
 simp only[kC,bc,T6];have c1:=db (G:=G) d.faults[i] (λf=>f.1==so) 311 [.ptr 0 0] [.row [.im (.raw (.bool so))]] (by simp) (λf _=>GD so f) (hl _ (List.getElem_mem h));have hg:d.faults.getD i []=d.faults[i]:=by simp[h]
 have hx:d.faults[i]?=some d.faults[i]:=by simp[h]
 rw[hg];generalize hxe:d.faults[i]=x at *;have hs:=za hx (za hxe h);repeat' first|(with_reducible first|refine zz ?_|refine zr ?_|refine zE [0,1,2,5,6] ?_)|simp -dsimp[hs]|refine zh c1 ?_
theorem IT (d:Desk) (i:Nat) (so:Bool) (h:i<d.faults.length) (hl:∀ x∈d.faults,x.length<1000000):zP Tryz.prog G 312 [kC d,iv (i:Int),bv so] (bv ((d.faults.getD i []).any λf=>f.2==so)):=by
 refine zf Tryz.func312 Tryz.ntmps312 ?_;try simp only[iv,bv]
 simp only[kC,bc,T6];have c1:=db (G:=G) d.faults[i] (λf=>f.2==so) 313 [.ptr 0 0] [.row [.im (.raw (.bool so))]] (by simp) (λf _=>GC so f) (hl _ (List.getElem_mem h));have hg:d.faults.getD i []=d.faults[i]:=by simp[h]
 have hx:d.faults[i]?=some d.faults[i]:=by simp[h]
 rw[hg];generalize hxe:d.faults[i]=x at *;have hs:=za hx (za hxe h);repeat' first|(with_reducible first|refine zz ?_|refine zr ?_|refine zE [0,1,2,5,6] ?_)|simp -dsimp[hs]|refine zh c1 ?_
structure DkOk (n:Nat) (d:Desk):Prop where
 n:d.faults.length=n
 l:∀ x∈d.faults,x.length<1000000
theorem xj (n:Nat) (s:Susp) (hs:cR n s) (so:Bool) (hK:cF G) (d:Desk) (hd:DkOk n d):DCall Tryz.prog G 98 (kC d :: [DC.ptr 0 0,DC.ptr 1 0].map .one) [.row ((j5 s).map .im),.row [.im (.raw (.bool so))]] (λr o=>r=bv (qQ d s so)/\o=[.row ((j5 s).map .im),.row [.im (.raw (.bool so))]]):=by
 refine DCall.drop ?_;have hK':G 1=some [.raw .nilFunc,.fn (.func 308) [],.fn (.func 309) [],.fn (.func 312) []]:=hK;have c1:=IV (G:=G) d s.index so;obtain⟨k,i⟩:=s;unfold qQ;simp only at c1;rcases hs with h|⟨h|h,h1,h2⟩
 all_goals
  simp only at h;subst h
 ·simp only[if_true];refine h9 Tryz.func98 rfl Tryz.ntmps98 (by simp) rfl ?_;simp only[kC] at c1;have hs:=hK';repeat' first|(with_reducible first|refine zz ?_|refine zr ?_)|simp -dsimp[hs]|refine zp c1 ?_|refine zM 1 15 9 [0,1,2,4] ?_|with_reducible refine zE [0,1,2,4] ?_|with_reducible refine And.intro ?_ ?_
  all_goals try clear hs
 ·simp only at h1 h2;obtain⟨j,rfl⟩:=Int.eq_ofNat_of_zero_le h1;have c2:=IU (G:=G) d j so (by rw[hd.n];omega) hd.l;refine h9 Tryz.func98 rfl Tryz.ntmps98 (by simp) rfl ?_;simp only[kC] at c2;have hs:=hK';repeat' first|(with_reducible first|refine zz ?_|refine zr ?_)|simp -dsimp[hs]|refine zp c2 ?_|refine zM 1 15 9 [0,1,2,4] ?_|with_reducible refine zE [0,1,2,4] ?_|with_reducible refine And.intro ?_ ?_
  all_goals try clear hs
 ·simp only at h1 h2;obtain⟨j,rfl⟩:=Int.eq_ofNat_of_zero_le h1;have c2:=IT (G:=G) d j so (by rw[hd.n];omega) hd.l;refine h9 Tryz.func98 rfl Tryz.ntmps98 (by simp) rfl ?_;simp only[kC] at c2;have hs:=hK';repeat' first|(with_reducible first|refine zz ?_|refine zr ?_)|simp -dsimp[hs]|refine zp c2 ?_|refine zM 1 15 9 [0,1,2,4] ?_|with_reducible refine zE [0,1,2,4] ?_|with_reducible refine And.intro ?_ ?_
  all_goals try clear hs
end Go.Proofs
namespace Go.Proofs
open Go Go.Ab
def HS:Nat->List IC->Prop
 | 0=>λl=>∃ n:Int,(0<=n/\n<=255)/\l=[.raw (.int .u8 n)]
 | _=>λl=>∃ n:Int,l=[rI n]
theorem JV:Rd 54 j5 (λs=>0<=s.kind/\s.kind<=255):=(Opens.struct Tryz.underlying54 (by kernel_rfl) HS (λi f hf=>by
 rcases i with _|_|i<;>simp at hf<;>subst hf
 ·exact Io
 ·exact oInt)).mono (by
 rintro l ⟨ls,h1,h2,rfl⟩;obtain⟨a,b,rfl⟩:=xe h1;obtain⟨x,hx,rfl⟩:=h2 0 a rfl;obtain⟨y,rfl⟩:=h2 1 b rfl;exact⟨⟨x,y⟩,hx,rfl⟩)
open Go Go.Ab Tryz
variable {G:LI}
def nN (c:Case) (y:Link) (lt:Int):Option Dim:=(n9 c.p.n.reg y.drawing lt).bind λx=>x.dims[y.dim.toNat]?
@[simp] abbrev QH:List Nat:=[0,1,2,3,6,7,8,9,10,38]
theorem vU (c:Case) (k:Nat) (y:Link) (lt:Int) (hy0:c.loop.links[k]?=some y) (hd:0<=y.dim) (h0:l4 c.p.n.reg=0) (hG:o3 G) (hk:KC c):zP prog G 82 [l7 c,iv (k:Int),iv lt] (.tup [fY ((nN c y lt).getD CN),bv (nN c y lt).isSome]):=by
 refine zf func82 ntmps82 ?_;try simp only[iv,iv]
 have hlt:k<c.loop.links.length:=e7 hy0;have hy:c.loop.links[k]=y:=(List.getElem?_eq_some_iff.1 hy0).2;have c1:=Ci (G:=G) c.p.n.reg y.drawing lt hG hk.p.n.1;obtain⟨j,hj⟩:=Int.eq_ofNat_of_zero_le hd;simp only[F9,D9] at c1;unfold nN;unfold atR yZ at c1;rw[if_pos h0,if_neg (by simp[h0])] at c1;have hdn:y.dim.toNat=j:=by rw[hj];simp
 cases hfi:n9 c.p.n.reg y.drawing lt with
 | none =>
   rw[hfi] at c1;simp only[Option.isSome_none,Option.getD_none,Bool.false_eq_true,if_false,I7] at c1;have hs:=za hy hlt;repeat' first|(with_reducible first|refine zz ?_|refine zr ?_|refine zE QH ?_)|simp -dsimp[hs]|refine zp c1 ?_|refine i8 ?_ ?_<;>intro h<;>try exact h.elim
   all_goals exact⟨rfl,rfl,rfl⟩
 | some x =>
   rw[hfi] at c1;simp only[Option.isSome_some,Option.getD_some,if_true] at c1;simp only[Option.bind_some,hdn];by_cases hx:j<x.dims.length
   ·have hx1:x.dims[j]?=some x.dims[j]:=by simp[hx]
    have hxi:¬ ((x.dims.length:Int)<=(j:Int)):=by omega
    rw[hx1];generalize hz:x.dims[j]=z at *;simp only[Option.isSome_some,Option.getD_some];have hs:=za hy (za hlt (za hj (za hx (za hxi (za hz hx1)))));repeat' first|(with_reducible first|refine zz ?_|refine zr ?_|refine zE QH ?_)|simp -dsimp[hs]|refine zp c1 ?_|refine i8 ?_ ?_<;>intro h<;>try exact h.elim
   ·have hxi:(x.dims.length:Int)<=(j:Int):=by omega
    rw[List.getElem?_eq_none (by omega)];simp only[Option.isSome_none,Option.getD_none];have hs:=za hy (za hlt (za hj hxi));repeat' first|(with_reducible first|refine zz ?_|refine zr ?_|refine zE QH ?_)|simp -dsimp[hs]|refine zp c1 ?_|refine i8 ?_ ?_<;>intro h<;>try exact h.elim
    all_goals exact⟨rfl,rfl,rfl⟩
theorem qV {c:Case} {n:Int} (h:Z9 c n=0):p9 c=0/\0<=n/\n<c.pieces.length:=by
 unfold Z9 at h;by_cases h0:p9 c=0
 ·rw[if_neg (by simp[h0])] at h;by_cases h1:0<=n/\n<c.pieces.length
  ·exact⟨h0,h1⟩
  ·rw[if_neg h1] at h;exact absurd h (by decide)
 ·rw[if_pos h0] at h;exact absurd h h0
theorem eX {c:Case} (h:aM c=true) {k:Nat} {y:Link} (hy:c.loop.links[k]?=some y):0<=y.dim/\y.dim<=3:=by
 have hok:=I4 h;have hlt:=e7 hy;have hlen:=hok.e;rw[N1,Bool.and_eq_true,List.all_eq_true] at h;have h3:k<(c.loop.links.zip c.pieces).length:=by rw[List.length_zip];omega
 have:=h.2 _ (List.getElem_mem h3);rw[List.getElem_zip] at this;simp only[I2,Bool.and_eq_true,decide_eq_true_eq] at this;rw[(List.getElem?_eq_some_iff.1 hy).2] at this;exact this.2.1
def K6 (c:Case) (y:Link) (s:Int×Int) (lt:Int):Int×Int:=match nN c y lt with
 | some d=>(max s.1 d.lower,min s.2 d.upper)
 | none=>s
noncomputable def mJ (c:Case) (n:Int):Int×Int:=match c.pieces[n.toNat]?,c.loop.links[n.toNat]? with
 | some x,some y=>(kw c n).foldl (K6 c y) (x.lo,x.hi)
 | _,_=>(0,0)
noncomputable def nA (c:Case) (n:Int):Int:=if Z9 c n≠0 then Z9 c n else if (mJ c n).2<(mJ c n).1 then 6 else 0
noncomputable def pZ (c:Case) (n:Int):Int×Int:=if nA c n=0 then mJ c n else (0,0)
theorem BD (c:Case) (y:Link) (s:Int×Int) {L:List Int} {k:Nat} (h:k<L.length):(L.take (k+1)).foldl (K6 c y) s=K6 c y ((L.take k).foldl (K6 c y) s) L[k]:=by
 rw[List.take_succ_eq_append_getElem h,List.foldl_append];rfl
@[simp] abbrev QJ:List Nat:=[0,1,2,4,5,6,7,8,10,11,12,20,29,30,31,32,42,59]
@[simp] abbrev WC:List Nat:=[1,2,4,8,29,30,31]
theorem Ch (c:Case) (n:Int) (hG:o3 G) (hN:E0 G) (hS:u4 G) (hR:w0 G) (hk:KC c):zP prog G 36 [l7 c,iv n] (.tup [D9 (pZ c n).1 (pZ c n).2,iv (nA c n)]):=by
 refine zf func36 ntmps36 ?_;try simp only[iv]
 have c1:=mQ (G:=G) c n hG hN hS hR hk;simp only[l7,j4] at c1;by_cases h0:Z9 c n=0
 ·obtain⟨he,hn0,hn1⟩:=qV h0;obtain⟨hp0,hcb⟩:=A1 he;have hr0:=(A9 hp0).2.2;have hlen:=(I4 hcb).e;obtain⟨k,rfl⟩:=Int.eq_ofNat_of_zero_le hn0;have hlt1:k<c.pieces.length:=by omega
  have hlt2:k<c.loop.links.length:=by omega
  have hx0:c.pieces[k]?=some c.pieces[k]:=by simp[hlt1]
  have hy0:c.loop.links[k]?=some c.loop.links[k]:=by simp[hlt2]
  have hyd:=eX hcb hy0;have hE:nA c (k:Int)=if (mJ c (k:Int)).2<(mJ c (k:Int)).1 then 6 else 0:=by unfold nA;rw[if_neg (by simp[h0])]
  have hO:pZ c (k:Int)=if (if (mJ c (k:Int)).2<(mJ c (k:Int)).1 then (6:Int) else 0)=0 then mJ c (k:Int) else (0,0):=by unfold pZ;rw[hE]
  have hS':mJ c (k:Int)=(kw c (k:Int)).foldl (K6 c c.loop.links[k]) (c.pieces[k].lo,c.pieces[k].hi):=by
   unfold mJ;rw[Int.toNat_natCast,hx0,hy0]
  have hll:=AH c (k:Int);have hpl:=hk.p.p.q;rw[hS'] at hE hO;rw[<- hE] at hO;clear hS';generalize nA c (k:Int)=E at *;generalize pZ c (k:Int)=O at *;rw[h0] at c1;have c2:=λlt=>vU (G:=G) c k _ lt hy0 hyd.1 hr0 hG hk;generalize hx:c.pieces[k]=x at *;generalize c.loop.links[k]=y at *;generalize kw c (k:Int)=L at *;simp only[l7,j4] at c2;have hs:=za hx (za hlt1 h0);repeat' first|(with_reducible first|refine zz ?_|refine zE QJ ?_)|simp -dsimp[hs]|refine zp c1 ?_|refine i8 ?_ ?_<;>intro h<;>try exact h.elim
  all_goals try clear hs
  obtain⟨S0,hS0⟩:∃ S0:Int×Int,S0=(x.lo,x.hi):=⟨_,rfl⟩
  rw[<- hS0] at hE hO;refine i6 (ι:={ q:Nat // q<=L.length }) (λq=>⟨62,[(1,iv (k:Int)),(2,.one (.ptr 0 0)),(4,.one (.ptr 1 0)),(8,.one (.ptr 2 0)),(29,.one (.im (.sl (L.map Ab.encI)))),(30,iv (L.length:Int)),(31,iv (q.1:Int))],[.row ((j4 c).map .im),.row [.im (rI 0),.im (rI 0)],.row [.im (rI ((L.take q.1).foldl (K6 c y) S0).1),.im (rI ((L.take q.1).foldl (K6 c y) S0).2)]]⟩) (λq=>L.length-q.1) ⟨0,by simp⟩ (zv WC (by simp[hS0])) ?_;rintro⟨q,hq1⟩;simp only[iv];by_cases hlq:q<L.length
  ·have hw:=zk q;have hst:=BD c y S0 hlq;have c3:=c2 L[q];generalize hv:L[q]=v at *;generalize (L.take q).foldl (K6 c y) S0=s at *;cases hd:nN c y v with
   | none =>
     have hst2:K6 c y s v=s:=by unfold K6;rw[hd]
     rw[hst2] at hst;rw[hd] at c3;simp only[Option.isSome_none,Option.getD_none] at c3;have hs:=za hv (za hlq hw);repeat' first|(with_reducible first|refine zz ?_|refine zE QJ ?_)|simp -dsimp[hs]|refine zp c3 ?_|refine i8 ?_ ?_<;>intro h<;>try exact h.elim
     all_goals try clear hs
     all_goals exact zn ⟨q+1,by omega⟩ (zw WC 3 (by simp[hst]))
   | some z =>
     have hst2:K6 c y s v=(max s.1 z.lower,min s.2 z.upper):=by unfold K6;rw[hd]
     rw[hst2] at hst;rw[hd] at c3;simp only[Option.isSome_some,Option.getD_some] at c3;have hs:=za hv (za hlq hw);repeat' first|(with_reducible first|refine zz ?_|refine zE QJ ?_)|simp -dsimp[hs]|refine zp c3 ?_|refine i8 ?_ ?_<;>intro h<;>try exact h.elim
     all_goals try clear hs
     all_goals exact zn ⟨q+1,by omega⟩ (zw WC 3 (by simp[hst]))
  ·obtain rfl:q=L.length:=by omega
   simp only[List.take_length];generalize L.foldl (K6 c y) S0=s at *;by_cases hs2:s.2<s.1
   ·rw[if_pos hs2] at hE;subst hE;rw[if_neg (show ¬ (6:Int)=0 by decide)] at hO;subst hO;have hs:=za hlq hs2;repeat' first|(with_reducible first|refine zz ?_|refine zr ?_|refine zE QJ ?_)|simp -dsimp[hs]|refine i8 ?_ ?_<;>intro h<;>try exact h.elim
    all_goals try clear hs
   ·rw[if_neg hs2] at hE;subst hE;rw[if_pos (show (0:Int)=0 from rfl)] at hO;subst hO;have hs:=za hlq hs2;repeat' first|(with_reducible first|refine zz ?_|refine zr ?_|refine zE QJ ?_)|simp -dsimp[hs]|refine i8 ?_ ?_<;>intro h<;>try exact h.elim
    all_goals try clear hs
 ·have hE:nA c n=Z9 c n:=by unfold nA;rw[if_pos h0]
  have hO:pZ c n=(0,0):=by unfold pZ;rw[if_neg (by rw[hE];exact h0)]
  rw[hE,hO];have hs:=h0;repeat' first|(with_reducible first|refine zz ?_|refine zr ?_|refine zE QJ ?_)|simp -dsimp[hs]|refine zp c1 ?_|refine i8 ?_ ?_<;>intro h<;>try exact h.elim
  all_goals try clear hs
attribute [simp] r9 cX v6 A8 nilV K0 ZK
def Y7 (c:Case) (s:List Int) (d:Int):Int:=gY c.p.n.notes (T4 s [] c.machine c.p.n.notes) d
def aV (c:Case) (s:List Int):Chains:=⟨c.p.n.reg,u6 c.p.n s c.machine,c.of,[c.loop]⟩
def kL (c:Case) (s:List Int):Bool:=!decide (E4 (aV c s) 0=0) || !decide (K7 (aV c s) 0=2)
def sJ (c:Case) (y:Link) (x:Piece) (l:Int):Bool:=match nN c y l with
 | none=>true
 | some z=>decide (x.lo<=z.upper)&&decide (z.lower<=x.hi)
def xD (c:Case) (y:Link) (x:Piece) (l:Int):Bool:=match nN c y l with
 | none=>false
 | some z=>!U6 x.lo x.hi z.lower z.upper
def H5 (c:Case) (y:Link) (x:Piece) (o:Int) (L:List F4) (l:Int):List F4:=aS (aS L (sJ c y x l) (!decide (l=o),false)) (xD c y x l) (!decide (l=o),true)
noncomputable def jq (c:Case) (s:List Int) (k:Nat):List F4:=match c.pieces[k]?,c.loop.links[k]? with
 | some x,some y=>(C6 c k).foldl (H5 c y x (Y7 c s y.drawing)) []
 | _,_=>[]
noncomputable def B9 (c:Case) (s:List Int):Desk:=⟨c,kL c s,(List.range c.pieces.length).map (jq c s)⟩
theorem mV (L:List F4) (so:Bool) (f:F4):(aS L so f).length<=L.length+1:=by
 unfold aS;split<;>simp
theorem tZ (c:Case) (y:Link) (x:Piece) (o:Int) (L:List F4) (l:Int):(H5 c y x o L l).length<=L.length+2:=Nat.le_trans (mV _ _ _) (Nat.succ_le_succ (mV _ _ _))
theorem dP (c:Case) (y:Link) (x:Piece) (o:Int):∀ (l:List Int) (L:List F4),(l.foldl (H5 c y x o) L).length<=L.length+2*l.length
 | [],_=>by simp
 | a :: l,L=>by
   rw[List.foldl_cons,List.length_cons];have h1:=dP c y x o l (H5 c y x o L a);have h2:=tZ c y x o L a;omega
theorem Em (c:Case) (y:Link) (x:Piece) (o:Int) {L:List Int} {k:Nat} (h:k<L.length):(L.take (k+1)).foldl (H5 c y x o) []=H5 c y x o ((L.take k).foldl (H5 c y x o) []) L[k]:=by
 rw[List.take_succ_eq_append_getElem h,List.foldl_append];rfl
theorem eK (c:Case) (k:Nat):(C6 c k).length<=c.p.prints.length+1:=by
 unfold C6;split
 ·unfold P6;split
  ·exact li _ _ _ _
  ·simp
 ·simp
theorem eW {c:Case} (h0:l4 c.p.n.reg=0) (h:aM c=true) {k:Nat} (h1:k<c.pieces.length) (h2:k<c.loop.links.length):c.loop.links[k].drawing∈nums c.p.n.reg:=by
 rw[N1,Bool.and_eq_true,List.all_eq_true] at h;have h3:k<(c.loop.links.zip c.pieces).length:=by rw[List.length_zip];omega
 have:=h.2 _ (List.getElem_mem h3);rw[List.getElem_zip] at this;simp only[I2,Bool.and_eq_true] at this;have h4:=this.1;cases hf:n9 c.p.n.reg c.loop.links[k].drawing 1 with
 | none=>rw[hf] at h4;simp at h4
 | some z =>
   have hz:=List.find?_some hf;simp only[Bool.and_eq_true,beq_iff_eq] at hz;rw[<- hz.1];exact(D4 h0).2 z (List.mem_of_find?_eq_some hf)
@[simp] abbrev LV:List Nat:=[0,1,2,4,5,6,8,9,10,11,13,14,16,17,19,20,21,22,71,72,73,93,94,95,96]
@[simp] abbrev WD:List Nat:=[2,5,6,11,13,14,16,17,71,72,93,94,95]
theorem oX (c:Case) (s:List Int) (he:p9 c=0) (ht:G1 (j8 (j7 c.p.n.notes)) s=true) (hsl:s.length<1000) (hG:o3 G) (hN:E0 G) (hS:u4 G) (hR:w0 G) (hC:J0 G) (hk:KC c):zP prog G 56 [l7 c,q9 s] (.one (.im (bc (B9 c s)))):=by
 refine zf func56 ntmps56 ?_;try simp only[q9]
 obtain⟨hp0,hcb⟩:=A1 he;obtain⟨hn0,hpb,hr0⟩:=A9 hp0;have hok:=I4 hcb;have hlen:=hok.e;have hl8:=hok.l;have hpl:=hk.p.p.q;have hmc:1<=c.machine/\c.machine<=999:=by
  rw[N1,Bool.and_eq_true] at hcb;have:=hcb.1;simp only[ek,Bool.and_eq_true,decide_eq_true_eq] at this;exact this.2.1
 have hA:D5 c.p.n s c.machine=0:=by
  unfold D5;rw[if_neg (by simp[hn0]),if_neg (by rw[ht];decide),if_pos hmc]
 have c1:=fL (G:=G) c.p.n s c.machine hG hN hS hk.p.n hsl;rw[hA,if_pos rfl,fO] at c1;have hnl:=s7 c.p.n.reg c.p.n.reg.length;have hr80:=hk.p.n.1.1;have hown:(u6 c.p.n s c.machine).length=(nums c.p.n.reg).length:=by unfold u6;rw[List.length_map]
 have hsc:jH (aV c s):=⟨hk.p.n.1,by show (u6 c.p.n s c.machine).length<=80;rw[hown,nums];omega,by simp[aV],λx hx=>by simp[aV] at hx;subst hx;omega⟩
 have c2:=nW (G:=G) (aV c s) 0 hG hC hsc JY;have hnb:kL c s=(!decide (E4 (aV c s) 0=0) || !decide (K7 (aV c s) 0=2)):=rfl;have c3:=cK (G:=G) c.p.n.reg hG hk.p.n.1;have hdr:ec c.p.n.reg=nums c.p.n.reg:=by unfold ec;rw[if_pos hr0]
 rw[hdr,hr0] at c3;have hD:B9 c s=⟨c,kL c s,(List.range c.pieces.length).map (jq c s)⟩:=rfl;have hE:bc (B9 c s)=.ip (j4 c++[.raw (.bool (kL c s)),.sl (((List.range c.pieces.length).map (jq c s)).map K2)]):=by rw[hD];rfl
 rw[hE];clear hD hE;have hcs:(¬ E4 (aV c s) 0=0/\True/\kL c s=true)\/(E4 (aV c s) 0=0/\K7 (aV c s) 0=2/\kL c s=false)\/(E4 (aV c s) 0=0/\¬ K7 (aV c s) 0=2/\kL c s=true):=by
  rw[hnb];by_cases g1:E4 (aV c s) 0=0<;>by_cases g2:K7 (aV c s) 0=2<;>simp[g1,g2]
 have hfl:∀ k,k<c.pieces.length->∀ x y,c.pieces[k]?=some x->c.loop.links[k]?=some y->jq c s k=(C6 c k).foldl (H5 c y x (Y7 c s y.drawing)) []:=λk _ x y hx hy=>by unfold jq;rw[hx,hy]
 have hown2:∀ d,d∈nums c.p.n.reg->(u6 c.p.n s c.machine)[lb (nums c.p.n.reg) d]?=some (Y7 c s d):=λd hd=>by
  have h1:=(tG ((D4 hr0).1.imp λh=>Int.le_of_lt h)).1 hd;unfold u6 Y7;rw[List.getElem?_map,h1];rfl
 generalize E4 (aV c s) 0=le at *;generalize K7 (aV c s) 0=ck at *;generalize kL c s=nb at *;simp only[BG,aV,N7,G8,F9,o5,p7,l7,j4,List.map_cons,List.map_nil] at c1 c2 c3 ⊢;generalize u6 c.p.n s c.machine=LT at *;have hs:True:=trivial;rcases hcs with⟨g1,g2,gn⟩|⟨g1,g2,gn⟩|⟨g1,g2,gn⟩
 all_goals
  have hs:=za g1 g2;repeat' first|with_reducible refine zz ?_|simp -dsimp[hs]|refine zp c1 ?_|refine zt c2 ?_ ?_ ?_;(focus simp;done);focus (simp;done)|refine zp c3 ?_|with_reducible refine Q5 (id:=1) (nt:=172) LV rfl ?_;simp -dsimp[hs]|with_reducible refine zE LV ?_
  all_goals try clear hs
 all_goals
  refine i6 (ι:={ q:Nat×Nat×Nat×Bool // q.1<=c.pieces.length/\(q.2.2.1=1\/q.2.2.2=true) }) (λq=>⟨172,[(2,.one (.ptr 0 0)),(5,.one (.ptr 8 0)),(6,q9 LT),(11,q9 (nums c.p.n.reg)),(71,iv (c.pieces.length:Int)),(72,iv (q.1.1:Int))],[.row ((j4 c).map .im),.vec 0 [] 0 true,.vec 0 [] 0 true,.vec 0 [] 0 true,.vec 0 [] 0 true,.vec 0 [] 0 true,.vec 0 [] 0 true,.vec q.1.2.2.1 (l5 (((List.range q.1.1).map (jq c s)).map K2)) q.1.2.1 q.1.2.2.2,.row ((j4 c).map .im++[.im (.raw (.bool nb)),.vec 7 q.1.2.1 0 q.1.1]),.vec 0 [] 0 true,.row [.im (.sl (c.p.n.reg.map e9))]]⟩) (λq=>c.pieces.length-q.1.1) ⟨(0,0,0,true),by simp⟩ (zw [2,5,6,11,71,72] 11 (by simp[gn,l5])) ?_;clear c1 c2 g1 g2 gn;rintro⟨⟨k,g,sz,nl⟩,hk1,hz⟩;simp only at hk1 hz;simp only[iv];by_cases hlt:k<c.pieces.length
  ·have hlt2:k<c.loop.links.length:=by omega
   have hw:=zk k;have hx0:c.pieces[k]?=some c.pieces[k]:=by simp[hlt]
   have hy0:c.loop.links[k]?=some c.loop.links[k]:=by simp[hlt2]
   have hyd:=eX hcb hy0;have hFk:=hfl k hlt _ _ hx0 hy0;have hdm:c.loop.links[k].drawing∈nums c.p.n.reg:=eW hr0 hcb hlt hlt2;have hol:=hown2 _ hdm;have c4:=oR (G:=G) (nums c.p.n.reg) c.loop.links[k].drawing ((D4 hr0).1.imp λh=>Int.le_of_lt h) (by rw[nums];omega);have c5:=AC (G:=G) c k hlt hlt2 hG hN hS hR hk;have c6:=λlt=>vU (G:=G) c k _ lt hy0 hyd.1 hr0 hG hk;have hml:=eK c k;have hfold:=λj=>dP c c.loop.links[k] c.pieces[k] (Y7 c s c.loop.links[k].drawing) ((C6 c k).take j) [];generalize hx:c.pieces[k]=x at *;generalize hy:c.loop.links[k]=y at *;generalize Y7 c s y.drawing=o at *;generalize lb (nums c.p.n.reg) y.drawing=at0 at *;have hlo:at0<LT.length:=e7 hol;have hLo:LT[at0]=o:=(List.getElem?_eq_some_iff.1 hol).2;generalize hM:C6 c k=M at *;simp only[l7,j4] at c5 c6;have hs:=za hx (za hy (za hlt (za hlt2 hw)));repeat' first|(with_reducible first|refine zz ?_|refine zE LV ?_)|simp -dsimp[hs]|refine zp c4 ?_|refine zp c5 ?_|refine i8 ?_ ?_<;>intro h<;>try exact h.elim
   all_goals try clear hs
   refine i6 (ι:={ p:Nat×Nat×Nat×Bool // p.1<=M.length/\(p.2.2.1=2\/p.2.2.2=true) }) (λp=>⟨172,[(2,.one (.ptr 0 0)),(5,.one (.ptr 8 0)),(6,q9 LT),(11,q9 (nums c.p.n.reg)),(13,iv (k:Int)),(14,iv (at0:Int)),(16,.one (.ptr 12 0)),(17,.one (.fn (.func 106) [.ptr 12 0])),(71,iv (c.pieces.length:Int)),(72,iv (k:Int)),(93,q9 M),(94,iv (M.length:Int)),(95,iv (p.1.1:Int))],[.row ((j4 c).map .im),.vec 0 [] 0 true,.vec 0 [] 0 true,.vec 0 [] 0 true,.vec 0 [] 0 true,.vec 0 [] 0 true,.vec 0 [] 0 true,.vec sz (l5 (((List.range k).map (jq c s)).map K2)) g nl,.row ((j4 c).map .im++[.im (.raw (.bool nb)),.vec 7 g 0 k]),.vec 0 [] 0 true,.row [.im (.sl (c.p.n.reg.map e9))],.vec p.1.2.2.1 (l5 (((M.take p.1.1).foldl (H5 c y x o) []).map D6)) p.1.2.1 p.1.2.2.2,.row [.vec 11 p.1.2.1 0 ((M.take p.1.1).foldl (H5 c y x o) []).length]]⟩) (λp=>M.length-p.1.1) ⟨(0,0,0,true),by simp⟩ (zv WD (by simp[l5])) ?_;rintro⟨⟨j,g2,sz2,nl2⟩,hj,hz2⟩;simp only at hj hz2;simp only[iv,q9];by_cases hlj:j<M.length
   ·have hwj:=zk j;have hst:=Em c y x o hlj;have hfj:=hfold j;have c7:=c6 M[j];generalize hv:M[j]=v at *;generalize (M.take j).foldl (H5 c y x o) []=F at *;rw[List.length_take,List.length_nil] at hfj;have hF1:=mV F (sJ c y x v) (!decide (v=o),false);have c8:=Cn (G:=G) F g2 sz2 nl2 (sJ c y x v) (!decide (v=o),false) (by omega) hz2;have c9:=λg sz nl hz=>Cn (G:=G) (aS F (sJ c y x v) (!decide (v=o),false)) g sz nl (xD c y x v) (!decide (v=o),true) (by omega) hz;rw[show H5 c y x o F v=aS (aS F (sJ c y x v) (!decide (v=o),false)) (xD c y x v) (!decide (v=o),true) from rfl] at hst;simp only[jV,D6,bv,List.map_cons,List.map_nil] at c8 c9;have hcs:(nN c y v=none/\sJ c y x v=true/\xD c y x v=false)\/∃ z,nN c y v=some z/\sJ c y x v=(decide (x.lo<=z.upper)&&decide (z.lower<=x.hi))/\xD c y x v=!U6 x.lo x.hi z.lower z.upper:=by
     unfold sJ xD;cases nN c y v with
     | none=>exact .inl ⟨rfl,rfl,rfl⟩
     | some z=>exact .inr ⟨z,rfl,rfl,rfl⟩
    generalize sJ c y x v=b1 at *;generalize xD c y x v=b2 at *;rcases hcs with⟨e1,rfl,rfl⟩|⟨z,e1,e2,e3⟩
    ·rw[e1] at c7;simp only[Option.isSome_none,Option.getD_none,CN] at c7;have hs:=za hx (za hy (za hv (za hlt (za hlt2 (za hlj (za hwj (za hlo hLo)))))));repeat' first|with_reducible refine zz ?_|simp -dsimp[hs]|refine zp c7 ?_|refine CallE.embed_ex [12,11] (c8) ?_ ?_ ?_ ?_ ?_ ?_;(focus simp[u9];done);(focus simp;done);(focus simp;done);(focus simp;done);(focus refine o4 ?_;simp[u9,r5];done);intro mmA hmmA;try simp -dsimp[n8,u9,hs]|refine CallE.embed_ex [12,11] ((c9 mmA.1 mmA.2.1 mmA.2.2 hmmA)) ?_ ?_ ?_ ?_ ?_ ?_;(focus simp[u9];done);(focus simp;done);(focus simp;done);(focus simp;done);(focus refine o4 ?_;simp[u9,r5];done);intro mmB hmmB;try simp -dsimp[n8,u9,hs]|refine zM 18 172 24 LV ?_|refine zM 19 172 18 LV ?_|with_reducible refine zE LV ?_|refine i8 ?_ ?_<;>intro h<;>try exact h.elim
     all_goals try clear hs
     all_goals exact zn ⟨(j+1,mmB.1,mmB.2.1,mmB.2.2),by simp only;omega,hmmB⟩ (zw WD 13 (by simp[hst]))
    ·rw[e1] at c7;simp only[Option.isSome_some,Option.getD_some] at c7;have c10:=bU (G:=G) x.lo x.hi z.lower z.upper;generalize U6 x.lo x.hi z.lower z.upper=ib at *;have hcs2:(x.lo<=z.upper/\z.lower<=x.hi/\b1=true)\/(x.lo<=z.upper/\¬ z.lower<=x.hi/\b1=false)\/(¬ x.lo<=z.upper/\True/\b1=false):=by
      by_cases q1:x.lo<=z.upper<;>by_cases q2:z.lower<=x.hi<;>simp[q1,q2,e2]
     clear e2;subst e3;simp only[D9] at c10;rcases hcs2 with⟨q1,q2,rfl⟩|⟨q1,q2,rfl⟩|⟨q1,q2,rfl⟩
     all_goals
      have hs:=za hx (za hy (za hv (za hlt (za hlt2 (za hlj (za hwj (za hlo (za hLo (za q1 q2)))))))));repeat' first|with_reducible refine zz ?_|simp -dsimp[hs]|refine zp c7 ?_|refine zq c10 ?_|refine CallE.embed_ex [12,11] (c8) ?_ ?_ ?_ ?_ ?_ ?_;(focus simp[u9];done);(focus simp;done);(focus simp;done);(focus simp;done);(focus refine o4 ?_;simp[u9,r5];done);intro mmA hmmA;try simp -dsimp[n8,u9,hs]|refine CallE.embed_ex [12,11] ((c9 mmA.1 mmA.2.1 mmA.2.2 hmmA)) ?_ ?_ ?_ ?_ ?_ ?_;(focus simp[u9];done);(focus simp;done);(focus simp;done);(focus simp;done);(focus refine o4 ?_;simp[u9,r5];done);intro mmB hmmB;try simp -dsimp[n8,u9,hs]|refine zM 18 172 24 LV ?_|refine zM 19 172 18 LV ?_|with_reducible refine zE LV ?_|refine i8 ?_ ?_<;>intro h<;>try exact h.elim
      all_goals try clear hs
     all_goals exact zn ⟨(j+1,mmB.1,mmB.2.1,mmB.2.2),by simp only;omega,hmmB⟩ (zw WD 13 (by simp[hst]))
   ·obtain rfl:j=M.length:=by omega
    simp only[List.take_length];have hfM:=hfold M.length;rw[List.take_length,List.length_nil] at hfM;have hrs:((List.range (k+1)).map (jq c s)).map K2=((List.range k).map (jq c s)).map K2++[[.sl ((M.foldl (H5 c y x o) []).map D6)]]:=by
     rw[List.range_succ,List.map_append,List.map_append];simp[hFk]
    have hrl:(((List.range k).map (jq c s)).map K2).length=k:=by simp
    generalize M.foldl (H5 c y x o) []=F at *;generalize ((List.range k).map (jq c s)).map K2=Fqs at *;have htk:List.take F.length (l5 (F.map D6))=l5 (F.map D6):=List.take_of_length_le (by simp[l5]);have htkF:List.take k (l5 Fqs)=l5 Fqs:=List.take_of_length_le (by simp[l5,hrl]);have hrs2:l5 (((List.range (k+1)).map (jq c s)).map K2)=l5 Fqs++[[.im (.sl (F.map D6))]]:=by rw[hrs];simp[l5]
    have hrs3:=hrs2;rw[List.map_map] at hrs3;clear hrs;have hs:=za hlj (za hz (za hw hrl));repeat' first|(with_reducible first|refine zz ?_|refine And.intro (by omega) ?_)|simp -dsimp[hs]|refine vg (id:=21) (nt:=172) [0,1,2,3,4,5,6,7,8,9,10] 6 [([0,1,2,3,4],[0,1,2,4,5,6,8,9,10,11,13,14,16,17,19,20,21,22,71,72,73,93,94,95,96,165]),([0],[0,1,2,4,5,6,8,9,10,11,13,14,16,17,19,20,21,22,71,72,73,93,94,95,96,164,166])] LV mixed rfl (by kernel_rfl) (by kernel_rfl) ?_|with_reducible refine zE LV ?_|refine i8 ?_ ?_<;>intro h<;>try exact h.elim
    all_goals try clear hs
    all_goals exact zn ⟨(k+1,g+1,1,false),by simp only;omega,.inl rfl⟩ (zw [2,5,6,11,71,72] 11 (by simp[htk,htkF,hrs3]))
  ·obtain rfl:k=c.pieces.length:=by omega
   have hrl:(((List.range c.pieces.length).map (jq c s)).map K2).length=c.pieces.length:=by simp
   generalize hFS:((List.range c.pieces.length).map (jq c s)).map K2=Fqs at *;have htk:List.take c.pieces.length (l5 Fqs)=l5 Fqs:=List.take_of_length_le (by simp[l5,hrl]);have hs:=za hlt (za htk hrl);repeat' first|(with_reducible first|refine zz ?_|refine zr ?_|refine zE LV ?_)|simp -dsimp[hs]|refine i8 ?_ ?_<;>intro h<;>try exact h.elim
   all_goals try clear hs
   all_goals rw[<- hFS]
   all_goals simp
attribute [simp] r9 cX v6 A8 nilV K0 ZK
noncomputable def fx (c:Case) (O:List Int) (k:Nat):List Desk:=(ko O k).map (B9 c)
noncomputable def n7 (c:Case):List Desk:=(H9 (j8 (j7 c.p.n.notes))).map (B9 c)
theorem xS (c:Case) (O:List Int) (k:Nat):(fx c O k).length=k:=by simp[fx,lw]
theorem uo (c:Case) (O:List Int) (k:Nat):fx c O (k+1)=fx c O k++[B9 c (U4 O k O.length)]:=by simp[fx,nK]
theorem um (c:Case) (O:List Int):fx c O 0=[]:=rfl
theorem nR (N:List Int) (s:Nat):∀ k,k<=N.length->(U4 N s k).Sublist (N.take k)
 | 0,_=>by simp[U4]
 | k+1,hk=>by
   have hk':k<N.length:=hk;rw[eD,List.take_succ_eq_append_getElem hk',show N.getD k 0=N[k] by simp[hk']];refine(nR N s k (by omega)).append ?_;split
   ·exact List.Sublist.refl _
   ·exact List.nil_sublist _
theorem gG (O:List Int) (k:Nat):(U4 O k O.length).Sublist O:=by
 have:=nR O k O.length (Nat.le_refl _);rwa [List.take_length] at this
theorem ln {O t:List Int} (hO:O.Pairwise (· < ·)) (ht:t.Sublist O):G1 O t=true:=by
 refine lq λi v hv=>⟨ht.subset (List.mem_of_getElem? hv),λj u hj hu=>?_⟩
 subst hj;obtain⟨h1,h2⟩:=List.getElem?_eq_some_iff.1 hv;obtain⟨h3,h4⟩:=List.getElem?_eq_some_iff.1 hu;have:=List.pairwise_iff_getElem.1 (hO.sublist ht) j (j+1) h3 h1 (by omega);omega
theorem yi (c:Case):zP prog G 95 [l7 c] (.one (.im (.fn (.func 155) [.ip (j4 c)]))):=by
 refine zf func95 ntmps95 ?_;try simp only[iv]
 simp only[l7,j4];repeat' first|(with_reducible first|refine zz ?_|refine zx ?_|refine zE [0,1,2] ?_)|simp -dsimp
@[simp] abbrev LY:List Nat:=[0,1,2,3,4,5,6,7,8,9,13,14,15,16,21,32,33,34,36,37,38,39,47,58]
@[simp] abbrev WE:List Nat:=[0,1,3,6,7,32,33,36,37,38]
theorem uK (c:Case) (he:p9 c=0) (hG:o3 G) (hN:E0 G) (hS:u4 G) (hR:w0 G) (hC:J0 G) (hk:KC c):zP prog G 154 [.one (.im (.raw (.slice none 0 0))),.one (.im (.fn (.func 155) [.ip (j4 c)]))] (aJ (n7 c)):=by
 refine zf func154 ntmps154 ?_;try simp only[iv]
 obtain⟨hp0,hcb⟩:=A1 he;obtain⟨hn0,hpb,hr0⟩:=A9 hp0;have hnk:=au hn0;have hn12:=hnk.2.1;have hO5:(j8 (j7 c.p.n.notes)).length<=5:=by rw[pG];exact hnk.2.2.2
 have hstr:=ic (dI hnk.2.2.1);have hE:n7 c=fx c (j8 (j7 c.p.n.notes)) (2 ^ (j8 (j7 c.p.n.notes)).length):=rfl;rw[hE];clear hE;have c1:=λk=>oX (G:=G) c (U4 (j8 (j7 c.p.n.notes)) k (j8 (j7 c.p.n.notes)).length) he (ln hstr (gG _ k)) (by have:=gF (j8 (j7 c.p.n.notes)) k (j8 (j7 c.p.n.notes)).length;omega) hG hN hS hR hC hk;have hcn:j4 c=[.sl (c.p.n.reg.map e9),.sl (c.p.n.notes.map l6)]++(j4 c).drop 2:=rfl;simp only[aJ];have hs:=trivial;repeat' first|(with_reducible first|refine zz ?_|refine zE [0,1,2,4,5,6,7] ?_)|simp -dsimp[hs]
 all_goals try clear hs
 refine wb (Weak.nilCell 0 0 rfl rfl) ?_;have hs:True:=trivial;all_goals try simp -dsimp[hs]
 all_goals try clear hs
 refine U3 (f:=155) (by simp;exact rfl) (by rfl) call155 ?_;generalize hR:LoopD.mk _ _ _ _ _ _ _=R;have hR1:R.st=.ready:=by rw[<- hR]
 have hR2:R.pend=none:=by rw[<- hR]
 have hR3:R.at .ready none=R:=by rw[<- hR];rfl
 have hR4:=(congrArg LoopD.nt hR).symm;have hR5:=(congrArg LoopD.tm hR).symm;have hR6:=(congrArg LoopD.ps hR).symm;have hR7:=(congrArg LoopD.asg hR).symm;have hR8:=(congrArg LoopD.body hR).symm;dsimp only at hR4 hR5 hR6 hR7 hR8;clear hR;refine h9 func155 rfl ntmps155 (by simp) rfl ?_;have hR10:∀ objs:List DObj,(R.tm.map λx=>(x.1,fU 4 objs x.2))=R.tm:=by intro objs;rw[hR5];simp
 have hR9:∀ objs:List DObj,(R.tm.map λx=>(x.1,fU 5 objs x.2))=R.tm:=by intro objs;rw[hR5];simp
 have hs:=za hR1 (za hR2 hR3);repeat' first|(with_reducible first|refine zz ?_|refine zE LY ?_)|simp -dsimp[hs]
 all_goals try clear hs
 refine i6 (ι:={ p:Nat×Nat×Nat×Bool // p.1<=c.p.n.notes.length/\(p.2.2.1=1\/p.2.2.2=true/\j7 (c.p.n.notes.take p.1)=[]) }) (λp=>⟨60,[(0,.one (.yld 3)),(1,.one (.im (.ip (j4 c)))),(3,.one (.vec 4 p.1.2.1 0 (j7 (c.p.n.notes.take p.1.1)).length)),(13,.one (.im (.sl (c.p.n.notes.map l6)))),(14,iv (c.p.n.notes.length:Int)),(15,iv (p.1.1:Int))],[.row [.vec 2 0 0 0],.vec 1 [] 0 true,.vec 0 [] 0 true,.loop R,.vec p.1.2.2.1 (l5 ((j7 (c.p.n.notes.take p.1.1)).map Ab.encI)) p.1.2.1 p.1.2.2.2]⟩) (λp=>c.p.n.notes.length-p.1.1) ⟨(0,0,1,true),by simp[j7]⟩ (zv [0,1,3,13,14,15] (by simp[j7,l5])) ?_;rintro⟨⟨k,g,sz,nl⟩,hk,hz⟩;simp only at hk hz;simp only[iv];have hz':sz=1\/nl=true:=hz.imp id And.left;by_cases hlt:k<c.p.n.notes.length
 ·have hx0:c.p.n.notes[k]?=some c.p.n.notes[k]:=by simp[hlt]
  have hw:=zk k;have hos:=cB c.p.n.notes k hlt;have hol:=ai (c.p.n.notes.take k);rw[List.length_take] at hol;generalize hx:c.p.n.notes[k]=x at *;by_cases hsg:x.signed=1
  ·rw[if_pos hsg] at hos;have hs:=za hR1 (za hR2 (za hR3 (za hx (za hlt (za hsg (za hw hz'))))));repeat' first|(with_reducible first|refine zz ?_|refine And.intro (by omega) ?_|refine zE LY ?_)|simp -dsimp[hs]|refine i8 ?_ ?_<;>intro h<;>try exact h.elim
   all_goals try clear hs
   exact zn ⟨(k+1,g+1,1,false),by omega,.inl rfl⟩ (zw [0,1,3,13,14,15] 5 (by clear hR4 hR5 hR6 hR7 hR8;simp[hos,hR1,hR2,hR3,hR9,LoopD.at_eta]))
  ·rw[if_neg hsg,List.append_nil] at hos;have hszn:sz=1\/nl=true/\j7 (c.p.n.notes.take (k+1))=[]:=by rw[hos];exact hz
   have hs:=za hR1 (za hR2 (za hR3 (za hx (za hlt (za hsg hw)))));repeat' first|(with_reducible first|refine zz ?_|refine zE LY ?_)|simp -dsimp[hs]|refine i8 ?_ ?_<;>intro h<;>try exact h.elim
   all_goals try clear hs
   exact zn ⟨(k+1,g,sz,nl),by omega,hszn⟩ (zw [0,1,3,13,14,15] 5 (by clear hR4 hR5 hR6 hR7 hR8;simp[hos,hR1,hR2,hR3,hR9,LoopD.at_eta]))
 ·obtain rfl:k=c.p.n.notes.length:=by omega
  simp only[List.take_length] at hz ⊢;have hol:=ai c.p.n.notes;have c2:=hS (j7 c.p.n.notes) g sz nl hz (by omega);have hil:=N6 (j7 c.p.n.notes);have htk:(l5 ((j8 (j7 c.p.n.notes)).map Ab.encI)).take (j7 c.p.n.notes).length=l5 ((j8 (j7 c.p.n.notes)).map Ab.encI):=List.take_of_length_le (by simp[q8,hil]);clear hz;rw[<- hil] at c2 htk;rw[<- hil];generalize j8 (j7 c.p.n.notes)=O at *;have hPe:(2:Nat) ^ O.length<=2 ^ 5:=Nat.pow_le_pow_right (by omega) hO5;have hmin:min O.length 64=O.length:=by omega
  have hb64:IntKind.i64.bits=64:=rfl;have hlnn:¬ ((O.length:Int)<0):=by omega
  have hsh:IntKind.i64.wrap ((2:Int) ^ O.length)=((2 ^ O.length:Nat):Int):=by
   rw[show ((2:Int) ^ O.length)=((2 ^ O.length:Nat):Int) by simp];exact(λ(P:Nat) (h:P<=2 ^ 5)=>(n4 (by omega) (by omega):IntKind.i64.wrap (P:Int)=(P:Int))) _ hPe
  generalize hP:2 ^ O.length=P at *;have hs:=za hR1 (za hR2 (za hR3 (za hlt (za hmin (za hb64 (za hlnn hsh))))));repeat' first|(with_reducible first|refine zz ?_|refine zE LY ?_)|simp -dsimp[hs]|refine CallE.embed [4] (c2) ?_ ?_ ?_ ?_ ?_ ?_;(focus simp[u9];done);(focus simp;done);(focus simp;done);(focus simp;done);(focus refine o4 ?_;simp[u9,r5];done);try simp -dsimp[n8,u9,hs]|refine i8 ?_ ?_<;>intro h<;>try exact h.elim
  all_goals try clear hs
  clear c2 hlt;refine i6 (ι:={ p:Nat×Nat×Nat×Bool // p.1<=P/\((p.2.2.1=1/\p.2.2.2=false)\/(p.2.2.1=0/\p.2.2.2=true/\p.1=0)) }) (λp=>⟨60,[(0,.one (.yld 3)),(1,.one (.im (.ip (j4 c)))),(3,q9 O),(32,iv (P:Int)),(33,iv (p.1.1:Int))],[.row [.vec 2 p.1.2.1 0 p.1.1],.vec 1 [] 0 true,.vec p.1.2.2.1 (l5 ((fx c O p.1.1).map U9)) p.1.2.1 p.1.2.2.2,.loop R]⟩) (λp=>P-p.1.1) ⟨(0,0,0,true),by simp⟩ (zw [0,1,3,32,33] 4 (by clear hR4 hR5 hR6 hR7 hR8;simp[um,hR1,hR2,hR3,hR10,LoopD.at_eta,htk,hz'])) ?_;rintro⟨⟨k,g1,sz1,nl1⟩,hk,hz⟩;simp only at hk hz;simp only[iv,q9];have hkl:=xS c O k;by_cases hlt:k<P
  ·have hw:=zk k;have hst:=uo c O k;have hc1:=c1 k;have hz0:U4 O k 0=[]:=by simp[U4]
   generalize fx c O k=L at *;have hs:=za hR1 (za hR2 (za hR3 hlt));repeat' first|(with_reducible first|refine zz ?_|refine zE LY ?_)|simp -dsimp[hs]|refine i8 ?_ ?_<;>intro h<;>try exact h.elim
   all_goals try clear hs
   refine i6 (ι:={ p:Nat×Nat×Bool // p.1<=O.length }) (λp=>⟨60,[(0,.one (.yld 3)),(1,.one (.im (.ip (j4 c)))),(3,q9 O),(6,iv (k:Int)),(7,.one (.vec 4 p.1.2.1 0 (U4 O k p.1.1).length)),(32,iv (P:Int)),(33,iv (k:Int)),(36,q9 O),(37,iv (O.length:Int)),(38,iv (p.1.1:Int))],[.row [.vec 2 g1 0 k],.vec 1 [] 0 true,.vec sz1 (l5 (L.map U9)) g1 nl1,.loop R,.vec 1 (l5 ((U4 O k p.1.1).map Ab.encI)) p.1.2.1 p.1.2.2]⟩) (λp=>O.length-p.1.1) ⟨(0,0,true),by simp⟩ (zv WE (by simp[hz0,l5])) ?_;rintro⟨⟨i,g2,nl2⟩,hi⟩;simp only at hi;simp only[iv,q9];by_cases hil:i<O.length
   ·have hwi:=zk i;have hi63:min i 64=i:=by omega
    have hin:¬ ((i:Int)<0):=by omega
    have hbit:=BT k i;have hSl:=gF O k i;have hsu:U4 O k (i+1)=U4 O k i++(if k.testBit i=true then [O[i]] else []):=by
     rw[eD,show O.getD i 0=O[i] by simp[hil]]
    generalize hx:O[i]=x at *;generalize U4 O k i=S at *;cases hb:k.testBit i
    ·rw[hb] at hbit hsu;simp at hbit;rw[if_neg Bool.false_ne_true,List.append_nil] at hsu;have hs:=za hR1 (za hR2 (za hR3 (za hx (za hil (za hwi (za hin (za hi63 (za hb64 hbit))))))));repeat' first|(with_reducible first|refine zz ?_|refine zE LY ?_)|simp -dsimp[hs]|refine i8 ?_ ?_<;>intro h<;>try exact h.elim
     all_goals try clear hs
     all_goals exact zn ⟨(i+1,g2,nl2),by simp only;omega⟩ (zw WE 5 (by clear hR4 hR5 hR6 hR7 hR8;simp[hsu,hR1,hR2,hR3,hR9,LoopD.at_eta]))
    ·rw[hb] at hbit hsu;simp at hbit;rw[if_pos rfl] at hsu;have hs:=za hR1 (za hR2 (za hR3 (za hx (za hil (za hwi (za hin (za hi63 (za hb64 hbit))))))));repeat' first|(with_reducible first|refine zz ?_|refine And.intro (by omega) ?_|refine zE LY ?_)|simp -dsimp[hs]|refine i8 ?_ ?_<;>intro h<;>try exact h.elim
     all_goals try clear hs
     all_goals exact zn ⟨(i+1,g2+1,false),by simp only;omega⟩ (zw WE 5 (by clear hR4 hR5 hR6 hR7 hR8;simp[hsu,hR1,hR2,hR3,hR9,LoopD.at_eta]))
   ·obtain rfl:i=O.length:=by omega
    generalize U4 O k O.length=S at *;simp only[l7,j4] at hc1;have hSt:(l5 (S.map Ab.encI)).take S.length=l5 (S.map Ab.encI):=List.take_of_length_le (by simp[q8]);rcases hz with⟨rfl,rfl⟩|⟨rfl,rfl,rfl⟩
    ·subst hkl;have hs:=za hR1 (za hR2 (za hR3 (za hil hw)));repeat' first|(with_reducible first|refine zz ?_|refine And.intro (by omega) ?_|refine zE LY ?_)|simp -dsimp[hs]|with_reducible refine At.yield_end ?_;simp -dsimp[hs]|refine bh ?_ ?_<;>simp -dsimp[hs]|refine R4 ?_;simp -dsimp[U0,hR4,hR5,hR6,hR7,hR8,hs]|refine CallE.freeze 4 (hc1 [.row [.vec 2 g1 0 L.length],.vec 1 [] 0 true,.vec 1 (l5 (L.map U9)) g1 false,.loop R]) ?_ ?_ ?_ ?_ ?_ ?_;(focus simp[hR10];done);(focus simp[hSt];done);(focus simp;done);(focus rfl);(focus simp;done);try simp -dsimp[v6]|refine i8 ?_ ?_<;>intro h<;>try exact h.elim
     all_goals try clear hs
     all_goals exact zn ⟨(L.length+1,g1+1,1,false),by omega,.inl ⟨rfl,rfl⟩⟩ (zw [0,1,3,32,33] 4 (by clear hR4 hR5 hR6 hR7 hR8;simp[hst,hR1,hR2,hR3,hR9,hR10,LoopD.at_eta]))
    ·obtain rfl:=List.eq_nil_of_length_eq_zero hkl;have hw1:IntKind.i64.wrap 1=1:=n4 (by omega) (by omega);have hs:=za hR1 (za hR2 (za hR3 (za hil (za hw hw1))));repeat' first|(with_reducible first|refine zz ?_|refine zE LY ?_)|simp -dsimp[hs]|with_reducible refine At.yield_end ?_;simp -dsimp[hs]|refine bh ?_ ?_<;>simp -dsimp[hs]|refine R4 ?_;simp -dsimp[U0,hR4,hR5,hR6,hR7,hR8,hs]|refine CallE.freeze 4 (hc1 [.row [.vec 2 g1 0 0],.vec 1 [] 0 true,.vec 0 [] g1 true,.loop R]) ?_ ?_ ?_ ?_ ?_ ?_;(focus simp[hR10];done);(focus simp[hSt];done);(focus simp;done);(focus rfl);(focus simp;done);try simp -dsimp[v6]|refine i8 ?_ ?_<;>intro h<;>try exact h.elim
     all_goals try clear hs
     all_goals exact zn ⟨(1,g1+1,1,false),by omega,.inl ⟨rfl,rfl⟩⟩ (zw [0,1,3,32,33] 4 (by clear hR4 hR5 hR6 hR7 hR8;simp[hst,hw1,hR1,hR2,hR3,hR9,hR10,LoopD.at_eta]))
  ·obtain rfl:k=P:=by omega
   obtain⟨rfl,rfl⟩:=hz.resolve_right (by have:=Nat.one_le_two_pow (n:=O.length);omega);generalize fx c O k=L at *;subst hkl;have hs:=za hR1 (za hR2 (za hR3 hlt));repeat' first|(with_reducible first|refine zz ?_|refine zr ?_ (by simp -dsimp[C9,hs];exact rfl)|refine ze ?_ (by simp -dsimp[C9,hs];exact rfl)|refine zE LY ?_)|simp -dsimp[C9,hs]|with_reducible show C9 _ _ _ _ _ _ _ _;simp -dsimp[C9,hs]|refine i8 ?_ ?_<;>intro h<;>try exact h.elim
   all_goals try clear hs
   all_goals simp
theorem rN (c:Case) (he:p9 c=0) (hG:o3 G) (hN:E0 G) (hS:u4 G) (hR:w0 G) (hC:J0 G) (hk:KC c):zP prog G 94 [.one (.im (.fn (.func 155) [.ip (j4 c)]))] (aJ (n7 c)):=by
 refine zf func94 ntmps94 ?_;try simp only[iv]
 have c1:=uK (G:=G) c he hG hN hS hR hC hk;simp only[j4] at c1 ⊢;repeat' first|(with_reducible first|refine zz ?_|refine zx ?_)|simp -dsimp|refine zp c1 ?_|with_reducible refine vh [0,2] ?_;simp -dsimp
noncomputable def J2 (c:Case):Int:=if p9 c≠0 then p9 c else if cZ c≠0 then 101 else 0
noncomputable def qi (c:Case):List Desk:=if J2 c=0 then n7 c else []
theorem N4 {c:Case} (h:J2 c=0):p9 c=0/\cZ c=0:=by
 unfold J2 at h;by_cases h0:p9 c=0
 ·rw[if_neg (by simp[h0])] at h;refine⟨h0,Classical.byContradiction λh1=>?_⟩;rw[if_pos h1] at h;exact absurd h (by decide)
 ·rw[if_pos h0] at h;exact absurd h h0
@[simp] abbrev WF:List Nat:=[0,1,2,3,4,5,12,15]
theorem eZ (c:Case) (hG:o3 G) (hN:E0 G) (hS:u4 G) (hR:w0 G) (hC:J0 G) (hk:KC c):zP prog G 48 [l7 c] (.tup [aJ (qi c),iv (J2 c)]):=by
 refine zf func48 ntmps48 ?_;try simp only[iv]
 have c1:=vX (G:=G) c hG hN hS hR hk;by_cases h0:p9 c=0
 ·by_cases h1:cZ c=0
  ·have hE:J2 c=0:=by unfold J2;rw[if_neg (by simp[h0]),if_neg (by simp[h1])]
   have hO:qi c=n7 c:=by unfold qi;rw[if_pos hE]
   have c2:=yi (G:=G) c;have c3:=rN (G:=G) c h0 hG hN hS hR hC hk;rw[hE,hO];rw[h0,h1] at c1;simp only[l7,j4,aJ] at c1 c2 c3 ⊢;have hs:=trivial;repeat' first|(with_reducible first|refine zz ?_|refine zr ?_|refine zE WF ?_)|simp -dsimp[hs]|refine zp c1 ?_|refine zp c2 ?_|refine zp c3 ?_|refine i8 ?_ ?_<;>intro h<;>try exact h.elim
  ·have hE:J2 c=101:=by unfold J2;rw[if_neg (by simp[h0]),if_pos h1]
   have hO:qi c=[]:=by unfold qi;rw[if_neg (by rw[hE];decide)]
   rw[hE,hO];rw[h0] at c1;simp only[l7,j4] at c1 ⊢;have hs:=h1;repeat' first|(with_reducible first|refine zz ?_|refine zr ?_|refine zE WF ?_)|simp -dsimp[hs]|refine zp c1 ?_|refine i8 ?_ ?_<;>intro h<;>try exact h.elim
 ·have hE:J2 c=p9 c:=by unfold J2;rw[if_pos h0]
  have hO:qi c=[]:=by unfold qi;rw[if_neg (by rw[hE];exact h0)]
  rw[hE,hO];simp only[l7,j4] at c1 ⊢;have hs:=h0;repeat' first|(with_reducible first|refine zz ?_|refine zr ?_|refine zE WF ?_)|simp -dsimp[hs]|refine zp c1 ?_|refine i8 ?_ ?_<;>intro h<;>try exact h.elim
theorem En (c:Case) (s:List Int) (k:Nat):(jq c s k).length<=2*(c.p.prints.length+1):=by
 unfold jq;have h1:=eK c k;split
 ·rename_i x y _ _;have h2:=dP c y x (Y7 c s y.drawing) (C6 c k) [];rw[List.length_nil] at h2;omega
 ·simp
theorem vS {c:Case} (hk:KC c) (s:List Int):DkOk c.pieces.length (B9 c s):=by
 refine⟨by simp[B9],λx hx=>?_⟩;simp only[B9,List.mem_map] at hx;obtain⟨k,_,rfl⟩:=hx;have:=En c s k;have:=hk.p.p.q;omega
theorem Y2 {c:Case} (hk:KC c):∀ d∈n7 c,DkOk c.pieces.length d:=by
 intro d hd;obtain⟨s,_,rfl⟩:=List.mem_map.1 hd;exact vS hk s
theorem an {c:Case} (h:p9 c=0):1<=(n7 c).length/\(n7 c).length<=32:=by
 obtain⟨hp0,_⟩:=A1 h;obtain⟨hn0,_,_⟩:=A9 hp0;have hO5:(j8 (j7 c.p.n.notes)).length<=5:=by rw[pG];exact(au hn0).2.2.2
 have hPe:(2:Nat) ^ (j8 (j7 c.p.n.notes)).length<=2 ^ 5:=Nat.pow_le_pow_right (by omega) hO5;have h1:1<=(2:Nat) ^ (j8 (j7 c.p.n.notes)).length:=Nat.one_le_two_pow;unfold n7;rw[List.length_map,aW];omega
end Go.Proofs
