/- Part 19 of the proofs. -/
import Derived.Test.YtlmlkkoapahmjaaGreatDoorT08
import Derived.Test.YtlmlkkoapahmjaaGreatDoorT13
import Derived.Test.YtlmlkkoapahmjaaGreatDoorT14
import Derived.Test.YtlmlkkoapahmjaaGreatDoorT16
import Derived.Test.YtlmlkkoapahmjaaGreatDoorT17
set_option linter.all false
set_option maxHeartbeats 100000000
namespace Go.Proofs
open Go Go.Ab
theorem FY {α:Type} {l:List α} (h:l.length=10):∃ a b c d e f g i j k,l=[a,b,c,d,e,f,g,i,j,k]:=by
 match l,h with
 | [a,b,c,d,e,f,g,i,j,k],_=>exact⟨a,b,c,d,e,f,g,i,j,k,rfl⟩
def rj (x:Note):Prop:=0<=x.ways/\x.ways<=255/\0<=x.signed/\x.signed<=255
def Fy:Nat->List IC->Prop
 | 2=>λl=>∃ n:Int,(0<=n/\n<=255)/\l=[.raw (.int .u8 n)]
 | 8=>λl=>∃ b:Bool,l=[rB b]
 | 9=>λl=>∃ n:Int,(0<=n/\n<=255)/\l=[.raw (.int .u8 n)]
 | _=>λl=>∃ n:Int,l=[rI n]
theorem Dd:Rd 153 j8 rj:=(Opens.struct Tryz.underlying153 (by kernel_rfl) Fy (λi f hf=>by
 rcases i with _|_|_|_|_|_|_|_|_|_|i<;>simp at hf<;>subst hf
 ·exact oInt
 ·exact oInt
 ·exact Ft
 ·exact oInt
 ·exact oInt
 ·exact oInt
 ·exact oInt
 ·exact oInt
 ·exact CD
 ·exact Ft)).mono (by
 rintro l ⟨ls,h1,h2,rfl⟩;obtain⟨a,b,c,d,e,f,g,i,j,k,rfl⟩:=FY h1;obtain⟨x0,rfl⟩:=h2 0 a rfl;obtain⟨x1,rfl⟩:=h2 1 b rfl;obtain⟨x2,k2,rfl⟩:=h2 2 c rfl;obtain⟨x3,rfl⟩:=h2 3 d rfl;obtain⟨x4,rfl⟩:=h2 4 e rfl;obtain⟨x5,rfl⟩:=h2 5 f rfl;obtain⟨x6,rfl⟩:=h2 6 g rfl;obtain⟨x7,rfl⟩:=h2 7 i rfl;obtain⟨x8,rfl⟩:=h2 8 j rfl;obtain⟨x9,k9,rfl⟩:=h2 9 k rfl;exact⟨⟨x0,x1,x2,x3,x4,x5,x6,x7,x8,x9⟩,⟨k9.1,k9.2,k2.1,k2.2⟩,rfl⟩)
theorem Do:Opens Tryz.prog 25 (λl=>∃ xs:List Note,(∀ x∈xs,rj x)/\l=[.sl (xs.map j8)]):=
 Opens.sliceOf Tryz.underlying25 (sz:=10) (by kernel_rfl) (by decide) (λ_=>rfl) Dd
def Dt:Nat->List IC->Prop
 | 0=>λl=>∃ xs:List Issue,(∀ x∈xs,eP x)/\l=[.sl (xs.map h9)]
 | _=>λl=>∃ xs:List Note,(∀ x∈xs,rj x)/\l=[.sl (xs.map j8)]
theorem AP:Rd 27 A2 tW:=(Opens.struct Tryz.underlying27 (by kernel_rfl) Dt (λi f hf=>by
 rcases i with _|_|i<;>simp at hf<;>subst hf
 ·exact Fu
 ·exact Do)).mono (by
 rintro l ⟨ls,h1,h2,rfl⟩;obtain⟨a,b,rfl⟩:=uQ h1;obtain⟨x,hx,rfl⟩:=h2 0 a rfl;obtain⟨y,hy,rfl⟩:=h2 1 b rfl;exact⟨⟨x,y⟩,⟨hx,hy⟩,rfl⟩)
theorem Ir {α:Type} {l:List α} (h:l.length=7):∃ a b c d e f g,l=[a,b,c,d,e,f,g]:=by
 match l,h with
 | [a,b,c,d,e,f,g],_=>exact⟨a,b,c,d,e,f,g,rfl⟩
theorem Hx {α:Type} {l:List α} (h:l.length=6):∃ a b c d e f,l=[a,b,c,d,e,f]:=by
 match l,h with
 | [a,b,c,d,e,f],_=>exact⟨a,b,c,d,e,f,rfl⟩
theorem Fv:Opens Tryz.prog 78 (λl=>∃ n m:Int,l=[rI n,rI m]):=(Opens.struct Tryz.underlying78 (by kernel_rfl) (λ_ l=>∃ n:Int,l=[rI n]) (λi f hf=>by
 rcases i with _|_|i<;>simp at hf<;>subst hf<;>exact oInt)).mono (by
 rintro l ⟨ls,h1,h2,rfl⟩;obtain⟨a,b,rfl⟩:=uQ h1;obtain⟨x,rfl⟩:=h2 0 a rfl;obtain⟨y,rfl⟩:=h2 1 b rfl;exact⟨x,y,rfl⟩)
def Bx:Nat->List IC->Prop
 | 3=>λl=>∃ xs:List Int,l=[.sl (xs.map Ab.encI)]
 | _=>λl=>∃ n:Int,l=[rI n]
theorem xx:Rd 155 n7 (λ_=>True):=(Opens.struct Tryz.underlying155 (by kernel_rfl) Bx (λi f hf=>by
 rcases i with _|_|_|_|i<;>simp at hf<;>subst hf
 ·exact oInt
 ·exact oInt
 ·exact oInt
 ·exact CC)).mono (by
 rintro l ⟨ls,h1,h2,rfl⟩;obtain⟨a,b,c,d,rfl⟩:=FX h1;obtain⟨x,rfl⟩:=h2 0 a rfl;obtain⟨y,rfl⟩:=h2 1 b rfl;obtain⟨z,rfl⟩:=h2 2 c rfl;obtain⟨u,rfl⟩:=h2 3 d rfl;exact⟨⟨x,y,z,u⟩,trivial,rfl⟩)
theorem xL:Opens Tryz.prog 28 (λl=>∃ xs:List Holder,l=[.sl (xs.map n7)]):=
 (Opens.sliceOf Tryz.underlying28 (sz:=4) (by kernel_rfl) (by decide) (λ_=>rfl) xx).mono (by rintro l ⟨xs,_,h⟩;exact⟨xs,h⟩)
def Dg:Nat->List IC->Prop
 | 3=>λl=>∃ n m:Int,l=[rI n,rI m]
 | 5=>λl=>∃ n:Int,(0<=n/\n<=255)/\l=[.raw (.int .u8 n)]
 | _=>λl=>∃ n:Int,l=[rI n]
theorem AN:Rd 80 p6 jr:=(Opens.struct Tryz.underlying80 (by kernel_rfl) Dg (λi f hf=>by
 rcases i with _|_|_|_|_|_|i<;>simp at hf<;>subst hf
 ·exact oInt
 ·exact oInt
 ·exact oInt
 ·exact Fv
 ·exact oInt
 ·exact Ft)).mono (by
 rintro l ⟨ls,h1,h2,rfl⟩;obtain⟨a,b,c,d,e,f,rfl⟩:=Hx h1;obtain⟨x0,rfl⟩:=h2 0 a rfl;obtain⟨x1,rfl⟩:=h2 1 b rfl;obtain⟨x2,rfl⟩:=h2 2 c rfl;obtain⟨x3,x4,rfl⟩:=h2 3 d rfl;obtain⟨x5,rfl⟩:=h2 4 e rfl;obtain⟨x6,k6,rfl⟩:=h2 5 f rfl;exact⟨⟨x0,x1,x2,x3,x4,x5,x6⟩,k6,rfl⟩)
theorem AY:Opens Tryz.prog 29 (λl=>∃ xs:List Print,(∀ x∈xs,jr x)/\l=[.sl (xs.map p6)]):=
 Opens.sliceOf Tryz.underlying29 (sz:=7) (by kernel_rfl) (by decide) (λ_=>rfl) AN
def AS:Nat->List IC->Prop
 | 0=>λl=>∃ x:Notes,tW x/\l=A2 x
 | 1=>λl=>∃ xs:List Holder,l=[.sl (xs.map n7)]
 | _=>λl=>∃ xs:List Print,(∀ x∈xs,jr x)/\l=[.sl (xs.map p6)]
theorem xu:Rd 31 A8 mT:=(Opens.struct Tryz.underlying31 (by kernel_rfl) AS (λi f hf=>by
 rcases i with _|_|_|i<;>simp at hf<;>subst hf
 ·exact AP
 ·exact xL
 ·exact AY)).mono (by
 rintro l ⟨ls,h1,h2,rfl⟩;obtain⟨a,b,c,rfl⟩:=Bn h1;obtain⟨x,hx,rfl⟩:=h2 0 a rfl;obtain⟨y,rfl⟩:=h2 1 b rfl;obtain⟨z,hz,rfl⟩:=h2 2 c rfl;exact⟨⟨x,y,z⟩,⟨hx,hz⟩,rfl⟩)
theorem AO:Rd 69 u7 (λ_=>True):=(Opens.struct Tryz.underlying69 (by kernel_rfl) (xG (λ_=>True) (λl=>∃ n:Int,l=[rI n]) (λl=>∃ n:Int,l=[rI n]) (λl=>∃ n m:Int,l=[rI n,rI m])) (λi f hf=>by
 rcases i with _|_|_|i<;>simp at hf<;>subst hf
 ·exact oInt
 ·exact oInt
 ·exact Fw)).mono (by
 rintro l ⟨ls,h1,h2,rfl⟩;obtain⟨a,b,c,rfl⟩:=Bn h1;obtain⟨x,rfl⟩:=h2 0 a rfl;obtain⟨y,rfl⟩:=h2 1 b rfl;obtain⟨z,u,rfl⟩:=h2 2 c rfl;exact⟨⟨x,y,z,u⟩,trivial,rfl⟩)
theorem AZ:Opens Tryz.prog 37 (λl=>∃ xs:List Piece,l=[.sl (xs.map u7)]):=
 (Opens.sliceOf Tryz.underlying37 (sz:=4) (by kernel_rfl) (by decide) (λ_=>rfl) AO).mono (by rintro l ⟨xs,_,h⟩;exact⟨xs,h⟩)
def GF:Nat->List IC->Prop
 | 0=>λl=>∃ x:Prints,mT x/\l=A8 x
 | 3=>λl=>∃ x:ChLoop,True/\l=F2 x
 | 4=>λl=>∃ xs:List Piece,l=[.sl (xs.map u7)]
 | _=>λl=>∃ n:Int,l=[rI n]
theorem Hg:Rd 39 i9 (λc=>mT c.p):=(Opens.struct Tryz.underlying39 (by kernel_rfl) GF (λi f hf=>by
 rcases i with _|_|_|_|_|i<;>simp at hf<;>subst hf
 ·exact xu
 ·exact oInt
 ·exact oInt
 ·exact xw
 ·exact AZ)).mono (by
 rintro l ⟨ls,h1,h2,rfl⟩;obtain⟨a,b,c,d,e,rfl⟩:=FW h1;obtain⟨x,hx,rfl⟩:=h2 0 a rfl;obtain⟨y,rfl⟩:=h2 1 b rfl;obtain⟨z,rfl⟩:=h2 2 c rfl;obtain⟨u,-,rfl⟩:=h2 3 d rfl;obtain⟨v,rfl⟩:=h2 4 e rfl;exact⟨⟨x,y,z,u,v⟩,hx,rfl⟩)
theorem nx {H:Type} {enc:TypeId×Value->H} {P:Program} {w:World} {base:Nat} {sp:Nat->Bool} {held:Bool} {fuel:Nat} {t:TypeId} {ps rs:Array TypeId} {va:Bool} {v:Value} {q:List MemPlace}
 (ht:P.underlying t=some (.func ps rs va)) (h:DataW.trod enc P w base sp held fuel t [v]=some (.nil,q)):v=.nilFunc:=by
 cases fuel with
 | zero=>simp[DataW.trod] at h
 | succ n=>cases v<;>simp[DataW.trod,ht] at h<;>rfl
theorem lJ {P:Program} {W:World} {t e te n:Nat} {f:Field} {cs:Array Value} {fuel:Nat} {p:List MemPlace} {L:List (DataW (List UInt8))} (ht:P.underlying t=some (.array n e)) (hte:P.underlying e=some (.struct #[f])) (hf0:f.offset=0) (hft:f.type=te) (hce:P.cellsOf e=1) (hcf:P.cellsOf te=1)
 (h:DataW.trod (funcToken P) P W 0 (λ_=>true) true fuel t cs.toList=some (.agg L,p)) (j:Nat) (hj:j<n):∃ (c:Value) (m2:Nat) (y:DataW (List UInt8)×List MemPlace),cs[j]?=some c/\L[j]?=some (.agg [y.1])/\DataW.trod (funcToken P) P W 0 (λ_=>true) true m2 te [c]=some (y.1,y.2):=by
 obtain⟨xs,m,_,ex,hlen,hxl,hel⟩:=DataW.trod_array ht h;have hE:=hel j hj;rw[hce,Nat.mul_one] at hE;have hx:xs[j]?=some xs[j]:=by simp[hxl,hj]
 rw[hx] at hE;obtain⟨ys,m2,_,ey,hlen2,hyl,hel2⟩:=DataW.trod_struct hte hE;have hE2:=hel2 0 f rfl;have hyl1:ys.length=1:=by simpa using hyl
 obtain⟨y,rfl⟩:=List.length_eq_one_iff.1 hyl1;rw[hf0,hft,hcf] at hE2;have hcl:j<cs.size:=by
  rcases Nat.lt_or_ge j cs.size with h1|h1
  ·exact h1
  ·simp[hce] at hlen2;omega
 have hc1:((cs.toList.drop j).take 1)=[cs[j]]:=by
  rw[List.drop_eq_getElem_cons (by simpa using hcl)];simp
 rw[hc1] at hE2;simp only[List.drop_zero,List.take_succ_cons,List.getElem?_cons_zero,List.take_nil] at hE2;have e1:(xs.map (·.1))[j]?=L[j]?:=by rw[(DataW.agg.inj (Prod.mk.inj ex).1)]
 rw[List.getElem?_map,hx,ey] at e1;exact⟨cs[j],_,y,Array.getElem?_eq_getElem hcl,by rw[<- e1];rfl,hE2⟩
theorem pp {P:Program} {W:World} {t e te:Nat} {f:Field} {ps rs:Array TypeId} {cs:Array Value} {fuel:Nat} {p:List MemPlace} {b1 b2 b3:UInt8} {r1 r2 r3:List UInt8} {f1 f2 f3:FuncId} (ht:P.underlying t=some (.array 4 e)) (hte:P.underlying e=some (.struct #[f])) (hf0:f.offset=0) (hft:f.type=te) (hu:P.underlying te=some (.func ps rs false)) (hce:P.cellsOf e=1) (hcf:P.cellsOf te=1)
 (h1:((List.range P.funcs.size).filter λf=>(P.funcs[f]?).any (·.name.toUTF8.data.toList==b1 :: r1))=[f1]) (h2:((List.range P.funcs.size).filter λf=>(P.funcs[f]?).any (·.name.toUTF8.data.toList==b2 :: r2))=[f2]) (h3:((List.range P.funcs.size).filter λf=>(P.funcs[f]?).any (·.name.toUTF8.data.toList==b3 :: r3))=[f3])
 (h:DataW.trod (funcToken P) P W 0 (λ_=>true) true fuel t cs.toList=some (.agg [.agg [.nil],.agg [.held (b1 :: r1)],.agg [.held (b2 :: r2)],.agg [.held (b3 :: r3)]],p)):∀ (j:Nat) (v:Value),[Value.nilFunc,.func (.func f1) #[] #[],.func (.func f2) #[] #[],.func (.func f3) #[] #[]][j]?=some v->cs[j]?=some v:=by
 have get:=lJ ht hte hf0 hft hce hcf h;obtain⟨c0,m0,y0,a0,e0,t0⟩:=get 0 (by omega);obtain⟨c1,m1,y1,a1,e1,t1⟩:=get 1 (by omega);obtain⟨c2,m2,y2,a2,e2,t2⟩:=get 2 (by omega);obtain⟨c3,m3,y3,a3,e3,t3⟩:=get 3 (by omega);simp at e0 e1 e2 e3;rw[<- e0] at t0;rw[<- e1] at t1;rw[<- e2] at t2;rw[<- e3] at t3;intro j v hj;rcases j with _|_|_|_|j
 ·simp at hj;subst hj;rw[a0,nx hu t0]
 ·simp at hj;subst hj;rw[a1,func_of_trod (f0:=f1) (q:=y1.2) hu h1 t1]
 ·simp at hj;subst hj;rw[a2,func_of_trod (f0:=f2) (q:=y2.2) hu h2 t2]
 ·simp at hj;subst hj;rw[a3,func_of_trod (f0:=f3) (q:=y3.2) hu h3 t3]
 ·simp at hj
theorem uu {W:World} {g:Nat} {f1 f2 f3:FuncId} (h:∀ (j:Nat) (v:Value),[Value.nilFunc,.func (.func f1) #[] #[],.func (.func f2) #[] #[],.func (.func f3) #[] #[]][j]?=some v->W.cell? ⟨g,j,.none⟩=some v):RepI W (uG W) (.ip [.raw .nilFunc,.fn (.func f1) [],.fn (.func f2) [],.fn (.func f3) []]) (.pointer (some ⟨g,0,.none⟩)):=by
 have hb:g<W.heap.size:=S7 (a:=⟨g,0,.none⟩) (h 0 _ rfl);refine .ip _ _ (λj=>([Value.nilFunc,.func (.func f1) #[] #[],.func (.func f2) #[] #[],.func (.func f3) #[] #[]][j]?).getD undef) rfl hb (λj c hj=>?_) (λj c hj=>?_)
 ·have hl:=e7 hj;have hl':j < [Value.nilFunc,.func (.func f1) #[] #[],.func (.func f2) #[] #[],.func (.func f3) #[] #[]].length:=hl;have hv:=List.getElem?_eq_getElem hl';rw[hv,Option.getD_some];simpa using h j _ hv
 ·have hl:=e7 hj;have hl':j<4:=hl;have hfn:∀ f,RepI W (uG W) (.fn (.func f) []) (.func (.func f) #[] #[]):=λf=>RepI.fn (w:=W) (ok:=uG W) (.func f) [] #[] rfl (λj c v h=>by simp at h);rcases j with _|_|_|_|j<;>first|omega|(simp at hj ⊢;subst hj;first|exact hfn _|exact .raw _ rfl)
theorem gU {P:Program} {W:World} {n:String} {t e:Nat} {a b:Bool} (ht:P.underlying t=some (.array 2 e)) (he:P.underlying e=some .bool) (hct:P.cellsOf t=2) (hce:P.cellsOf e=1) (htg:∀ g,P.globalNamed n=some g->(P.globals[g]?).map (·.type)=some t) (h:laidMetH P [(n,.agg [.lit (.bool a),.lit (.bool b)])] W):∃ cs,W.var? P n=some cs/\∀ (j:Nat) (v:Value),[Value.bool a,.bool b][j]?=some v->cs[j]?=some v:=by
 have h1:laidMet P [(n,.agg [.lit (.bool a),.lit (.bool b)])] W:=h;obtain⟨ps,hL,_,_⟩:=h1;obtain⟨g,t',cs,fuel,p,q,hg,ht',hv,hd,_,_⟩:=hL;have:=htg g hg;rw[this] at ht';cases ht';obtain⟨xs,m,_,ex,hlen,hxl,hel⟩:=DataW.trod_array ht hd;rw[hct] at hlen;obtain⟨v0,v1,hvs⟩:∃ v0 v1,cs.toList=[v0,v1]:=by
  match hc:cs.toList,hlen with
  | [v0,v1],_=>exact⟨v0,v1,rfl⟩
 obtain⟨x0,x1,rfl⟩:∃ x0 x1,xs=[x0,x1]:=by
  match xs,hxl with
  | [x0,x1],_=>exact⟨x0,x1,rfl⟩
 have ex1:=(Prod.mk.inj ex).1;simp only[List.map_cons,List.map_nil,DataW.agg.injEq,List.cons.injEq,and_true] at ex1;have e0:=hel 0 (by omega);have e1:=hel 1 (by omega);rw[hce,hvs] at e0 e1;simp only[Nat.zero_mul,Nat.one_mul,List.drop_zero,List.drop_succ_cons,List.take_succ_cons,List.take_zero,List.getElem?_cons_zero,List.getElem?_cons_succ] at e0 e1;obtain⟨b0,k0,l0⟩:=DataW.trod_bool he e0;obtain⟨b1,k1,l1⟩:=DataW.trod_bool he e1;simp only[List.cons.injEq,and_true] at k0 k1;rw[l0,l1] at ex1;obtain⟨q0,q1⟩:=ex1;simp only[DataW.lit.injEq,Lit.bool.injEq] at q0 q1;refine⟨cs,hv,λj v hj=>?_⟩;rw[<- Array.getElem?_toList,hvs,k0,k1,<- q0,<- q1];exact hj
theorem no {W:World} {g:Nat} {a b:Bool} (h:∀ (j:Nat) (v:Value),[Value.bool a,.bool b][j]?=some v->W.cell? ⟨g,j,.none⟩=some v):RepI W (uG W) (.ip [.raw (.bool a),.raw (.bool b)]) (.pointer (some ⟨g,0,.none⟩)):=by
 have hb:g<W.heap.size:=S7 (a:=⟨g,0,.none⟩) (h 0 _ rfl);refine .ip _ _ (λj=>([Value.bool a,.bool b][j]?).getD undef) rfl hb (λj c hj=>?_) (λj c hj=>?_)
 ·have hl:=e7 hj;have hl':j < [Value.bool a,.bool b].length:=hl;have hv:=List.getElem?_eq_getElem hl';rw[hv,Option.getD_some];simpa using h j _ hv
 ·have hl:=e7 hj;have hl':j<2:=hl;rcases j with _|_|j<;>first|omega|(simp at hj ⊢;subst hj;exact .raw _ rfl)
end Go.Proofs
namespace Go.Ab
open Go
abbrev L3:=Bool×Bool
def B7 (f:L3):List IC:=[.raw (.bool f.1),.raw (.bool f.2)]
def iN (f:L3):DV:=.agg ((B7 f).map .im)
structure Desk where
 c:Case
 notes:Bool
 faults:List (List L3)
def H3 (l:List L3):List IC:=[.sl (l.map B7)]
def P1 (d:Desk):List IC:=i9 d.c++[.raw (.bool d.notes),.sl (d.faults.map H3)]
def ah (d:Desk):IC:=.ip (P1 d)
attribute [simp] B7 iN H3
def bU (L:List L3) (so:Bool) (f:L3):List L3:=if so=true/\f∉L then L++[f] else L
end Go.Ab
namespace Go.Proofs
open Go Go.Ab
variable {G:IK}
@[simp] abbrev LJ:List Nat:=[0,1,3,4,5,7,8,9,16]
theorem mn (l:List L3) (n:L3) (hl:l.length<1000000):zP Tryz.prog G 159 [.one (.im (.sl (l.map B7))),iN n] (iv (J4 (λx=>decide (n=x)) l)):=by
 refine zf Tryz.func159 Tryz.ntmps159 ?_;try simp only[iv]
 simp only[iN,B7,List.map_cons,List.map_nil];have hs:=trivial;repeat' first|with_reducible refine zz ?_|with_reducible refine zE LJ ?_;try simp -dsimp[hs]
 all_goals try simp -dsimp[hs]
 refine i7 (ι:={ k:Nat // k<=l.length/\∀ (j:Nat) (x:L3),j<k->l[j]?=some x->decide (n=x)=false }) (λi=>⟨19,[(0,.one (.im (.sl (l.map B7)))),(3,.one (.ptr 0 0)),(7,iv (l.length:Int)),(8,iv (i.1:Int))],[.row [.im (.raw (.bool n.1)),.im (.raw (.bool n.2))]]⟩) (λi=>l.length-i.1) ⟨0,by simp⟩ (zv [0,3,7,8]) ?_;rintro⟨i,hi,hno⟩;simp only[iv];by_cases hlt:i<l.length
 ·have hx0:l[i]?=some l[i]:=by simp[hlt]
  have hw:=zk i;generalize hx:l[i]=x at *;obtain⟨n1,n2⟩:=n;obtain⟨x1,x2⟩:=x;have hs:True:=trivial;by_cases hq:(n1,n2)=(x1,x2)
  ·obtain⟨rfl,rfl⟩:=Prod.mk.inj hq;have hs:=za hx (za hw hlt);repeat' first|(with_reducible first|refine zz ?_|refine zr ?_)|(first|refine zM 4 19 6 LJ ?_|with_reducible refine zE LJ ?_);try simp -dsimp[hs]|refine j4 ?_ ?_<;>intro h<;>try exact h.elim
   all_goals try simp -dsimp[hs]
   all_goals exact(K2 hx0 (by simp) hno).symm
  ·have hst:∀ (j:Nat) (y:L3),j<i+1->l[j]?=some y->decide ((n1,n2)=y)=false:=λj y hj hjx=>by
    by_cases e:j=i
    ·subst e;rw[hx0] at hjx;cases hjx;exact decide_eq_false hq
    ·exact hno j y (by omega) hjx
   have hb:((n1==x1)&&((n2==x2)&&true))=false:=by
    cases n1<;>cases n2<;>cases x1<;>cases x2<;>simp_all
   cases n1<;>cases n2<;>cases x1<;>cases x2
   all_goals first
    | exact absurd rfl hq
    | skip
   all_goals
    have hs:=za hx (za hw hlt);repeat' first|with_reducible refine zz ?_|(first|refine zM 4 19 6 LJ ?_|with_reducible refine zE LJ ?_);try simp -dsimp[hs]|refine j4 ?_ ?_<;>intro h<;>try exact h.elim
    all_goals try simp -dsimp[hs]
   all_goals exact zn ⟨i+1,by omega,hst⟩ (zv [0,3,7,8])
 ·have hs:=hlt;repeat' first|(with_reducible first|refine zz ?_|refine zr ?_)|with_reducible refine zE LJ ?_;try simp -dsimp[hs]|refine j4 ?_ ?_<;>intro h<;>try exact h.elim
  all_goals try simp -dsimp[hs]
  exact(S6 λj x hjx=>hno j x (by have:=e7 hjx;omega) hjx).symm
theorem gu (l:List L3) (n:L3) (hl:l.length<1000000):zP Tryz.prog G 107 [.one (.im (.sl (l.map B7))),iN n] (bv (decide (n∈l))):=by
 refine zf Tryz.func107 Tryz.ntmps107 ?_;try simp only[iv]
 have hc:=mn (G:=G) l n hl;simp only[iN,B7,List.map_cons,List.map_nil] at hc ⊢;repeat' first|(with_reducible first|refine zz ?_|refine zx ?_)|(first|refine zp hc ?_|with_reducible refine zE [0,1,3,4] ?_);try simp -dsimp
 all_goals try simp -dsimp
 have h1:=A1 (λx=>decide (n=x)) l;rw[<- decide_eq_true_iff (p:=0<=_),h1];simp
theorem zW (L:List L3) (g sz:Nat) (nl so:Bool) (f:L3) (hl:L.length<1000) (hz:sz=2\/nl=true):DCall Tryz.prog G 106 (bv so :: iN f :: [DC.ptr 0 0].map .one) [.row [.vec 1 g 0 L.length],.vec sz (l6 (L.map B7)) g nl] (λd o=>∃ i:Nat×Nat×Bool,(i.2.1=2\/i.2.2=true)/\d=.tup []/\o=[.row [.vec 1 i.1 0 (bU L so f).length],.vec i.2.1 (l6 ((bU L so f).map B7)) i.1 i.2.2]):=by
 refine DCall.drop ?_;refine g9 Tryz.func106 rfl Tryz.ntmps106 (by simp) rfl ?_;have c1:=gu (G:=G) L f (by omega);simp only[iN,B7,List.map_cons,List.map_nil,bv] at c1 ⊢;have htk:List.take L.length (l6 (L.map B7))=l6 (L.map B7):=List.take_of_length_le (by simp[l6]);have hs:True:=trivial;cases so
 ·have hs:=trivial;repeat' first|(with_reducible first|refine zz ?_|refine ze ?_)|with_reducible refine zE [0,1,2,4,11] ?_;try simp -dsimp[hs]|refine j4 ?_ ?_<;>intro h<;>try exact h.elim
  all_goals try simp -dsimp[hs]
  all_goals rw[show bU L false f=L by simp[bU]]
  all_goals rcases hz with h|h
  all_goals first
   | exact⟨g,sz,.inl ⟨h,⟨rfl,rfl⟩,rfl,rfl,rfl⟩⟩
   | exact⟨g,sz,.inr ⟨⟨rfl,rfl⟩,rfl,rfl,rfl,h⟩⟩
 ·by_cases hf:f∈L
  ·rw[decide_eq_true hf] at c1;have hs:=htk;repeat' first|(with_reducible first|refine zz ?_|refine ze ?_)|refine zt c1 ?_ ?_ ?_;(focus simp;done);(focus simp;done);try simp -dsimp[hs]|with_reducible refine zE [0,1,2,4,11] ?_;try simp -dsimp[hs]|refine j4 ?_ ?_<;>intro h<;>try exact h.elim
   all_goals try simp -dsimp[hs]
   all_goals rw[show bU L true f=L by simp[bU,hf]]
   all_goals rcases hz with h|h
   all_goals first
    | exact⟨g,sz,.inl ⟨h,⟨rfl,rfl⟩,rfl,rfl,rfl⟩⟩
    | exact⟨g,sz,.inr ⟨⟨rfl,rfl⟩,rfl,rfl,rfl,h⟩⟩
  ·rw[decide_eq_false hf] at c1;have hE:bU L true f=L++[f]:=by unfold bU;rw[if_pos ⟨rfl,hf⟩]
   have hs:=za htk hz;repeat' first|(with_reducible first|refine zz ?_|refine And.intro (by omega) ?_|refine ze ?_)|refine zt c1 ?_ ?_ ?_;(focus simp;done);(focus simp;done);try simp -dsimp[hs]|with_reducible refine zE [0,1,2,4,11] ?_;try simp -dsimp[hs]|refine j4 ?_ ?_<;>intro h<;>try exact h.elim
   all_goals try simp -dsimp[hs]
   all_goals simp[hE,l6]
end Go.Proofs
namespace Go.Ab
open Go
structure Susp where
 kind:Int
 index:Int
 deriving DecidableEq
def j6 (s:Susp):List IC:=[.raw (.int .u8 s.kind),rI s.index]
def D8 (s:Susp):DV:=.agg ((j6 s).map .im)
def B4 (l:List Susp):DV:=.one (.im (.sl (l.map j6)))
attribute [simp] j6 D8 B4
def Q6 (d:Desk):List IC:=[ah d]
def ji (d:Desk):DV:=.one (.im (ah d))
def Y6 (l:List Desk):DV:=.one (.im (.sl (l.map Q6)))
attribute [simp] Q6 ji Y6
def pg (d:Desk) (s:Susp) (so:Bool):Bool:=if s.kind=1 then d.notes==so else if s.kind=2 then (d.faults.getD s.index.toNat []).any λf=>f.1==so else (d.faults.getD s.index.toNat []).any λf=>f.2==so
def E8 (l:List Desk) (s:Susp):Int:=if (l.any λd=>pg d s true)=false then 0 else if (l.any λd=>pg d s false)=false then 2 else 1
def qC (n:Nat) (s:Susp):Bool:=if s.kind=1 then decide (s.index=0) else (decide (2<=s.kind)&&decide (s.kind<=3))&&(decide (0<=s.index)&&decide (s.index<=(n:Int)-1))
def bV (n:Nat) (s:Susp):Prop:=s.kind=1\/((s.kind=2\/s.kind=3)/\0<=s.index/\s.index<n)
theorem yn {n:Nat} {s:Susp} (h:qC n s=true):bV n s:=by
 unfold qC at h;unfold bV;split at h
 ·exact .inl ‹_›
 ·simp only[Bool.and_eq_true,decide_eq_true_eq] at h;omega
end Go.Ab
namespace Go.Proofs
open Go Go.Ab
variable {G:IK}
def bD (G:IK):Prop:=G 1=some [.raw .nilFunc,.fn (.func 308) [],.fn (.func 309) [],.fn (.func 312) []]
@[simp] abbrev Ld:List Nat:=[0,1,4,5,7,8,9,16]
theorem nH (l:List L3) (p:L3->Bool) (k:Nat) (caps:List DC) (objs:List DObj) (hok:C1 Tryz.prog k) (hf:∀ x∈l,DCall Tryz.prog G k (iN x :: caps.map .one) objs (λd o=>d=bv (p x)/\o=objs)) (hl:l.length<1000000):DCall Tryz.prog G 314 [.one (.im (.sl (l.map B7))),.one (.fn (.func k) caps)] objs (λd o=>d=iv (J4 p l)/\o=objs):=by
 refine g9 Tryz.func314 rfl Tryz.ntmps314 (by simp) rfl ?_;have hs:=trivial;repeat' first|(with_reducible first|refine zz ?_|refine zE Ld ?_)|simp -dsimp[hs]
 refine i7 (ι:={ k:Nat // k<=l.length/\∀ j x,j<k->l[j]?=some x->p x=false }) (λi=>⟨19,[(0,.one (.im (.sl (l.map B7)))),(1,.one (.fn (.func k) caps)),(7,iv (l.length:Int)),(8,iv (i.1:Int))],objs⟩) (λi=>l.length-i.1) ⟨0,by simp⟩ (zv [0,1,7,8]) ?_;rintro⟨i,hi,hno⟩;simp only[iv];by_cases hlt:i<l.length
 ·have hx:l[i]?=some l[i]:=by simp[hlt]
  have hw:=zk i;have hc:=hf l[i] (by simp);simp only[iN,B7,List.map_cons,List.map_nil,bv,rI] at hc;have hs:=za hx (za hw hok);repeat' first|(with_reducible first|refine zz ?_|refine And.intro (by omega) ?_|refine zr ?_|refine zE Ld ?_)|simp -dsimp[hs]|refine CallE.here hc ?_|refine j4 ?_ ?_<;>intro h<;>try exact h.elim|with_reducible refine And.intro ?_ ?_
  all_goals try omega
  ·exact(K2 hx (by assumption) hno).symm
  ·exact At.round ⟨i+1,by omega,λj x hj hjx=>by
    by_cases e:j=i
    ·subst e;rw[hx] at hjx;cases hjx;assumption
    ·exact hno j x (by omega) hjx⟩ (by simp;omega) (zv [0,1,7,8])
 ·have hs:=trivial;repeat' first|(with_reducible first|refine zz ?_|refine zr ?_|refine zE Ld ?_)|simp -dsimp[hs]|refine j4 ?_ ?_<;>intro h<;>try exact h.elim|with_reducible refine And.intro ?_ ?_
  all_goals try omega
  exact(S6 λj x hjx=>hno j x (by have:=e7 hjx;omega) hjx).symm
theorem cg (l:List L3) (p:L3->Bool) (k:Nat) (caps:List DC) (objs:List DObj) (hok:C1 Tryz.prog k) (hf:∀ x∈l,DCall Tryz.prog G k (iN x :: caps.map .one) objs (λd o=>d=bv (p x)/\o=objs)) (hl:l.length<1000000):DCall Tryz.prog G 310 [.one (.im (.sl (l.map B7))),.one (.fn (.func k) caps)] objs (λd o=>d=bv (l.any p)/\o=objs):=by
 refine g9 Tryz.func310 rfl Tryz.ntmps310 (by simp) rfl ?_;have hc:=nH l p k caps objs hok hf hl;repeat' first|(with_reducible first|refine zz ?_|refine zx ?_|refine zE [0,1,4] ?_)|simp -dsimp|refine CallE.here hc ?_|with_reducible refine And.intro ?_ ?_
 simp[A1]
theorem nI (l:List Desk) (p:Desk->Bool) (k:Nat) (caps:List DC) (objs:List DObj) (hok:C1 Tryz.prog k) (hf:∀ x∈l,DCall Tryz.prog G k (ji x :: caps.map .one) objs (λd o=>d=bv (p x)/\o=objs)) (hl:l.length<1000000):DCall Tryz.prog G 109 [.one (.im (.sl (l.map Q6))),.one (.fn (.func k) caps)] objs (λd o=>d=iv (J4 p l)/\o=objs):=by
 refine g9 Tryz.func109 rfl Tryz.ntmps109 (by simp) rfl ?_;have hs:=trivial;repeat' first|(with_reducible first|refine zz ?_|refine zE Ld ?_)|simp -dsimp[hs]
 refine i7 (ι:={ k:Nat // k<=l.length/\∀ j x,j<k->l[j]?=some x->p x=false }) (λi=>⟨19,[(0,.one (.im (.sl (l.map Q6)))),(1,.one (.fn (.func k) caps)),(7,iv (l.length:Int)),(8,iv (i.1:Int))],objs⟩) (λi=>l.length-i.1) ⟨0,by simp⟩ (zv [0,1,7,8]) ?_;rintro⟨i,hi,hno⟩;simp only[iv];by_cases hlt:i<l.length
 ·have hx:l[i]?=some l[i]:=by simp[hlt]
  have hw:=zk i;have hc:=hf l[i] (by simp);simp only[ji,List.map_cons,List.map_nil,bv,rI] at hc;have hs:=za hx (za hw hok);repeat' first|(with_reducible first|refine zz ?_|refine And.intro (by omega) ?_|refine zr ?_|refine zE Ld ?_)|simp -dsimp[hs]|refine CallE.here hc ?_|refine j4 ?_ ?_<;>intro h<;>try exact h.elim|with_reducible refine And.intro ?_ ?_
  all_goals try omega
  ·exact(K2 hx (by assumption) hno).symm
  ·exact At.round ⟨i+1,by omega,λj x hj hjx=>by
    by_cases e:j=i
    ·subst e;rw[hx] at hjx;cases hjx;assumption
    ·exact hno j x (by omega) hjx⟩ (by simp;omega) (zv [0,1,7,8])
 ·have hs:=trivial;repeat' first|(with_reducible first|refine zz ?_|refine zr ?_|refine zE Ld ?_)|simp -dsimp[hs]|refine j4 ?_ ?_<;>intro h<;>try exact h.elim|with_reducible refine And.intro ?_ ?_
  all_goals try omega
  exact(S6 λj x hjx=>hno j x (by have:=e7 hjx;omega) hjx).symm
theorem ci (l:List Desk) (p:Desk->Bool) (k:Nat) (caps:List DC) (objs:List DObj) (hok:C1 Tryz.prog k) (hf:∀ x∈l,DCall Tryz.prog G k (ji x :: caps.map .one) objs (λd o=>d=bv (p x)/\o=objs)) (hl:l.length<1000000):DCall Tryz.prog G 62 [.one (.im (.sl (l.map Q6))),.one (.fn (.func k) caps)] objs (λd o=>d=bv (l.any p)/\o=objs):=by
 refine g9 Tryz.func62 rfl Tryz.ntmps62 (by simp) rfl ?_;have hc:=nI l p k caps objs hok hf hl;repeat' first|(with_reducible first|refine zz ?_|refine zx ?_|refine zE [0,1,4] ?_)|simp -dsimp|refine CallE.here hc ?_|with_reducible refine And.intro ?_ ?_
 simp[A1]
theorem DH (so:Bool) (f:L3):DCall Tryz.prog G 311 (iN f :: [DC.ptr 0 0].map .one) [.row [.im (.raw (.bool so))]] (λd o=>d=bv (f.1==so)/\o=[.row [.im (.raw (.bool so))]]):=by
 refine DCall.drop ?_;refine g9 Tryz.func311 rfl Tryz.ntmps311 (by simp) rfl ?_;simp only[iN,B7];repeat' first|(with_reducible first|refine zz ?_|refine zx ?_|refine zE [0,1,2,3] ?_)|simp -dsimp|with_reducible refine And.intro ?_ ?_
theorem DG (so:Bool) (f:L3):DCall Tryz.prog G 313 (iN f :: [DC.ptr 0 0].map .one) [.row [.im (.raw (.bool so))]] (λd o=>d=bv (f.2==so)/\o=[.row [.im (.raw (.bool so))]]):=by
 refine DCall.drop ?_;refine g9 Tryz.func313 rfl Tryz.ntmps313 (by simp) rfl ?_;simp only[iN,B7];repeat' first|(with_reducible first|refine zz ?_|refine zx ?_|refine zE [0,1,2,3] ?_)|simp -dsimp|with_reducible refine And.intro ?_ ?_
theorem Gb (d:Desk) (i:Int) (so:Bool):zP Tryz.prog G 308 [ji d,iv i,bv so] (bv (d.notes==so)):=by
 refine zf Tryz.func308 Tryz.ntmps308 ?_;try simp only[iv,bv]
 simp only[ji,ah,P1];repeat' first|(with_reducible first|refine zz ?_|refine zx ?_|refine zE [0,2,6] ?_)|simp -dsimp
theorem Ga (d:Desk) (i:Nat) (so:Bool) (h:i<d.faults.length) (hl:∀ x∈d.faults,x.length<1000000):zP Tryz.prog G 309 [ji d,iv (i:Int),bv so] (bv ((d.faults.getD i []).any λf=>f.1==so)):=by
 refine zf Tryz.func309 Tryz.ntmps309 ?_;try simp only[iv,bv]
 simp only[ji,ah,P1];have c1:=cg (G:=G) d.faults[i] (λf=>f.1==so) 311 [.ptr 0 0] [.row [.im (.raw (.bool so))]] (by simp) (λf _=>DH so f) (hl _ (List.getElem_mem h));have hg:d.faults.getD i []=d.faults[i]:=by simp[h]
 have hx:d.faults[i]?=some d.faults[i]:=by simp[h]
 rw[hg];generalize hxe:d.faults[i]=x at *;have hs:=za hx (za hxe h);repeat' first|(with_reducible first|refine zz ?_|refine zr ?_|refine zE [0,1,2,5,6] ?_)|simp -dsimp[hs]|refine zh c1 ?_
theorem FZ (d:Desk) (i:Nat) (so:Bool) (h:i<d.faults.length) (hl:∀ x∈d.faults,x.length<1000000):zP Tryz.prog G 312 [ji d,iv (i:Int),bv so] (bv ((d.faults.getD i []).any λf=>f.2==so)):=by
 refine zf Tryz.func312 Tryz.ntmps312 ?_;try simp only[iv,bv]
 simp only[ji,ah,P1];have c1:=cg (G:=G) d.faults[i] (λf=>f.2==so) 313 [.ptr 0 0] [.row [.im (.raw (.bool so))]] (by simp) (λf _=>DG so f) (hl _ (List.getElem_mem h));have hg:d.faults.getD i []=d.faults[i]:=by simp[h]
 have hx:d.faults[i]?=some d.faults[i]:=by simp[h]
 rw[hg];generalize hxe:d.faults[i]=x at *;have hs:=za hx (za hxe h);repeat' first|(with_reducible first|refine zz ?_|refine zr ?_|refine zE [0,1,2,5,6] ?_)|simp -dsimp[hs]|refine zh c1 ?_
structure DkOk (n:Nat) (d:Desk):Prop where
 n:d.faults.length=n
 l:∀ x∈d.faults,x.length<1000000
theorem uV (n:Nat) (s:Susp) (hs:bV n s) (so:Bool) (hK:bD G) (d:Desk) (hd:DkOk n d):DCall Tryz.prog G 98 (ji d :: [DC.ptr 0 0,DC.ptr 1 0].map .one) [.row ((j6 s).map .im),.row [.im (.raw (.bool so))]] (λr o=>r=bv (pg d s so)/\o=[.row ((j6 s).map .im),.row [.im (.raw (.bool so))]]):=by
 refine DCall.drop ?_;have hK':G 1=some [.raw .nilFunc,.fn (.func 308) [],.fn (.func 309) [],.fn (.func 312) []]:=hK;have c1:=Gb (G:=G) d s.index so;obtain⟨k,i⟩:=s;unfold pg;simp only at c1;rcases hs with h|⟨h|h,h1,h2⟩
 all_goals
  simp only at h;subst h
 ·simp only[if_true];refine g9 Tryz.func98 rfl Tryz.ntmps98 (by simp) rfl ?_;simp only[ji] at c1;have hs:=hK';repeat' first|(with_reducible first|refine zz ?_|refine zr ?_)|simp -dsimp[hs]|refine zp c1 ?_|refine zM 1 15 9 [0,1,2,4] ?_|with_reducible refine zE [0,1,2,4] ?_|with_reducible refine And.intro ?_ ?_
  all_goals try clear hs
 ·simp only at h1 h2;obtain⟨j,rfl⟩:=Int.eq_ofNat_of_zero_le h1;have c2:=Ga (G:=G) d j so (by rw[hd.n];omega) hd.l;refine g9 Tryz.func98 rfl Tryz.ntmps98 (by simp) rfl ?_;simp only[ji] at c2;have hs:=hK';repeat' first|(with_reducible first|refine zz ?_|refine zr ?_)|simp -dsimp[hs]|refine zp c2 ?_|refine zM 1 15 9 [0,1,2,4] ?_|with_reducible refine zE [0,1,2,4] ?_|with_reducible refine And.intro ?_ ?_
  all_goals try clear hs
 ·simp only at h1 h2;obtain⟨j,rfl⟩:=Int.eq_ofNat_of_zero_le h1;have c2:=FZ (G:=G) d j so (by rw[hd.n];omega) hd.l;refine g9 Tryz.func98 rfl Tryz.ntmps98 (by simp) rfl ?_;simp only[ji] at c2;have hs:=hK';repeat' first|(with_reducible first|refine zz ?_|refine zr ?_)|simp -dsimp[hs]|refine zp c2 ?_|refine zM 1 15 9 [0,1,2,4] ?_|with_reducible refine zE [0,1,2,4] ?_|with_reducible refine And.intro ?_ ?_
  all_goals try clear hs
end Go.Proofs
namespace Go.Proofs
open Go Go.Ab
def Fa:Nat->List IC->Prop
 | 0=>λl=>∃ n:Int,(0<=n/\n<=255)/\l=[.raw (.int .u8 n)]
 | _=>λl=>∃ n:Int,l=[rI n]
theorem Hf:Rd 54 j6 (λs=>0<=s.kind/\s.kind<=255):=(Opens.struct Tryz.underlying54 (by kernel_rfl) Fa (λi f hf=>by
 rcases i with _|_|i<;>simp at hf<;>subst hf
 ·exact Ft
 ·exact oInt)).mono (by
 rintro l ⟨ls,h1,h2,rfl⟩;obtain⟨a,b,rfl⟩:=uQ h1;obtain⟨x,hx,rfl⟩:=h2 0 a rfl;obtain⟨y,rfl⟩:=h2 1 b rfl;exact⟨⟨x,y⟩,hx,rfl⟩)
open Go Go.Ab Tryz
variable {G:IK}
def Ar (c:Case) (y:Link) (lt:Int):Option Dim:=(B6 c.p.n.reg y.drawing lt).bind λx=>x.dims[y.dim.toNat]?
@[simp] abbrev Kx:List Nat:=[0,1,2,3,6,7,8,9,10,38]
theorem tR (c:Case) (k:Nat) (y:Link) (lt:Int) (hy0:c.loop.links[k]?=some y) (hd:0<=y.dim) (h0:l9 c.p.n.reg=0) (hG:o4 G) (hk:KC c):zP prog G 82 [n5 c,iv (k:Int),iv lt] (.tup [gk ((Ar c y lt).getD CR),bv (Ar c y lt).isSome]):=by
 refine zf func82 ntmps82 ?_;try simp only[iv,iv]
 have hlt:k<c.loop.links.length:=e7 hy0;have hy:c.loop.links[k]=y:=(List.getElem?_eq_some_iff.1 hy0).2;have c1:=Cg (G:=G) c.p.n.reg y.drawing lt hG hk.p.n.1;obtain⟨j,hj⟩:=Int.eq_ofNat_of_zero_le hd;simp only[Z7,D3] at c1;unfold Ar;unfold atR Ch at c1;rw[if_pos h0,if_neg (by simp[h0])] at c1;have hdn:y.dim.toNat=j:=by rw[hj];simp
 cases hfi:B6 c.p.n.reg y.drawing lt with
 | none =>
   rw[hfi] at c1;simp only[Option.isSome_none,Option.getD_none,Bool.false_eq_true,if_false,an] at c1;have hs:=za hy hlt;repeat' first|(with_reducible first|refine zz ?_|refine zr ?_|refine zE Kx ?_)|simp -dsimp[hs]|refine zp c1 ?_|refine j4 ?_ ?_<;>intro h<;>try exact h.elim
   all_goals exact⟨rfl,rfl,rfl⟩
 | some x =>
   rw[hfi] at c1;simp only[Option.isSome_some,Option.getD_some,if_true] at c1;simp only[Option.bind_some,hdn];by_cases hx:j<x.dims.length
   ·have hx1:x.dims[j]?=some x.dims[j]:=by simp[hx]
    have hxi:¬ ((x.dims.length:Int)<=(j:Int)):=by omega
    rw[hx1];generalize hz:x.dims[j]=z at *;simp only[Option.isSome_some,Option.getD_some];have hs:=za hy (za hlt (za hj (za hx (za hxi (za hz hx1)))));repeat' first|(with_reducible first|refine zz ?_|refine zr ?_|refine zE Kx ?_)|simp -dsimp[hs]|refine zp c1 ?_|refine j4 ?_ ?_<;>intro h<;>try exact h.elim
   ·have hxi:(x.dims.length:Int)<=(j:Int):=by omega
    rw[List.getElem?_eq_none (by omega)];simp only[Option.isSome_none,Option.getD_none];have hs:=za hy (za hlt (za hj hxi));repeat' first|(with_reducible first|refine zz ?_|refine zr ?_|refine zE Kx ?_)|simp -dsimp[hs]|refine zp c1 ?_|refine j4 ?_ ?_<;>intro h<;>try exact h.elim
    all_goals exact⟨rfl,rfl,rfl⟩
theorem pm {c:Case} {n:Int} (h:T8 c n=0):q9 c=0/\0<=n/\n<c.pieces.length:=by
 unfold T8 at h;by_cases h0:q9 c=0
 ·rw[if_neg (by simp[h0])] at h;by_cases h1:0<=n/\n<c.pieces.length
  ·exact⟨h0,h1⟩
  ·rw[if_neg h1] at h;exact absurd h (by decide)
 ·rw[if_pos h0] at h;exact absurd h h0
theorem mL {c:Case} (h:eA c=true) {k:Nat} {y:Link} (hy:c.loop.links[k]?=some y):0<=y.dim/\y.dim<=3:=by
 have hok:=U5 h;have hlt:=e7 hy;have hlen:=hok.e;rw[Z0,Bool.and_eq_true,List.all_eq_true] at h;have h3:k<(c.loop.links.zip c.pieces).length:=by rw[List.length_zip];omega
 have:=h.2 _ (List.getElem_mem h3);rw[List.getElem_zip] at this;simp only[V3,Bool.and_eq_true,decide_eq_true_eq] at this;rw[(List.getElem?_eq_some_iff.1 hy).2] at this;exact this.2.1
def G2 (c:Case) (y:Link) (s:Int×Int) (lt:Int):Int×Int:=match Ar c y lt with
 | some d=>(max s.1 d.lower,min s.2 d.upper)
 | none=>s
noncomputable def jj (c:Case) (n:Int):Int×Int:=match c.pieces[n.toNat]?,c.loop.links[n.toNat]? with
 | some x,some y=>(fR c n).foldl (G2 c y) (x.lo,x.hi)
 | _,_=>(0,0)
noncomputable def gv (c:Case) (n:Int):Int:=if T8 c n≠0 then T8 c n else if (jj c n).2<(jj c n).1 then 6 else 0
noncomputable def kL (c:Case) (n:Int):Int×Int:=if gv c n=0 then jj c n else (0,0)
theorem zd (c:Case) (y:Link) (s:Int×Int) {L:List Int} {k:Nat} (h:k<L.length):(L.take (k+1)).foldl (G2 c y) s=G2 c y ((L.take k).foldl (G2 c y) s) L[k]:=by
 rw[List.take_succ_eq_append_getElem h,List.foldl_append];rfl
@[simp] abbrev LK:List Nat:=[0,1,2,4,5,6,7,8,10,11,12,20,29,30,31,32,42,59]
@[simp] abbrev Ky:List Nat:=[1,2,4,8,29,30,31]
theorem kV (c:Case) (n:Int) (hG:o4 G) (hN:C7 G) (hS:s8 G) (hR:u3 G) (hk:KC c):zP prog G 36 [n5 c,iv n] (.tup [D3 (kL c n).1 (kL c n).2,iv (gv c n)]):=by
 refine zf func36 ntmps36 ?_;try simp only[iv]
 have c1:=bQ (G:=G) c n hG hN hS hR hk;simp only[n5,i9] at c1;by_cases h0:T8 c n=0
 ·obtain⟨he,hn0,hn1⟩:=pm h0;obtain⟨hp0,hcb⟩:=H0 he;have hr0:=(I3 hp0).2.2;have hlen:=(U5 hcb).e;obtain⟨k,rfl⟩:=Int.eq_ofNat_of_zero_le hn0;have hlt1:k<c.pieces.length:=by omega
  have hlt2:k<c.loop.links.length:=by omega
  have hx0:c.pieces[k]?=some c.pieces[k]:=by simp[hlt1]
  have hy0:c.loop.links[k]?=some c.loop.links[k]:=by simp[hlt2]
  have hyd:=mL hcb hy0;have hE:gv c (k:Int)=if (jj c (k:Int)).2<(jj c (k:Int)).1 then 6 else 0:=by unfold gv;rw[if_neg (by simp[h0])]
  have hO:kL c (k:Int)=if (if (jj c (k:Int)).2<(jj c (k:Int)).1 then (6:Int) else 0)=0 then jj c (k:Int) else (0,0):=by unfold kL;rw[hE]
  have hS':jj c (k:Int)=(fR c (k:Int)).foldl (G2 c c.loop.links[k]) (c.pieces[k].lo,c.pieces[k].hi):=by
   unfold jj;rw[Int.toNat_natCast,hx0,hy0]
  have hll:=yc c (k:Int);have hpl:=hk.p.p.q;rw[hS'] at hE hO;rw[<- hE] at hO;clear hS';generalize gv c (k:Int)=E at *;generalize kL c (k:Int)=O at *;rw[h0] at c1;have c2:=λlt=>tR (G:=G) c k _ lt hy0 hyd.1 hr0 hG hk;generalize hx:c.pieces[k]=x at *;generalize c.loop.links[k]=y at *;generalize fR c (k:Int)=L at *;simp only[n5,i9] at c2;have hs:=za hx (za hlt1 h0);repeat' first|(with_reducible first|refine zz ?_|refine zE LK ?_)|simp -dsimp[hs]|refine zp c1 ?_|refine j4 ?_ ?_<;>intro h<;>try exact h.elim
  all_goals try clear hs
  obtain⟨S0,hS0⟩:∃ S0:Int×Int,S0=(x.lo,x.hi):=⟨_,rfl⟩
  rw[<- hS0] at hE hO;refine i7 (ι:={ q:Nat // q<=L.length }) (λq=>⟨62,[(1,iv (k:Int)),(2,.one (.ptr 0 0)),(4,.one (.ptr 1 0)),(8,.one (.ptr 2 0)),(29,.one (.im (.sl (L.map Ab.encI)))),(30,iv (L.length:Int)),(31,iv (q.1:Int))],[.row ((i9 c).map .im),.row [.im (rI 0),.im (rI 0)],.row [.im (rI ((L.take q.1).foldl (G2 c y) S0).1),.im (rI ((L.take q.1).foldl (G2 c y) S0).2)]]⟩) (λq=>L.length-q.1) ⟨0,by simp⟩ (zv Ky (by simp[hS0])) ?_;rintro⟨q,hq1⟩;simp only[iv];by_cases hlq:q<L.length
  ·have hw:=zk q;have hst:=zd c y S0 hlq;have c3:=c2 L[q];generalize hv:L[q]=v at *;generalize (L.take q).foldl (G2 c y) S0=s at *;cases hd:Ar c y v with
   | none =>
     have hst2:G2 c y s v=s:=by unfold G2;rw[hd]
     rw[hst2] at hst;rw[hd] at c3;simp only[Option.isSome_none,Option.getD_none] at c3;have hs:=za hv (za hlq hw);repeat' first|(with_reducible first|refine zz ?_|refine zE LK ?_)|simp -dsimp[hs]|refine zp c3 ?_|refine j4 ?_ ?_<;>intro h<;>try exact h.elim
     all_goals try clear hs
     all_goals exact zn ⟨q+1,by omega⟩ (zw Ky 3 (by simp[hst]))
   | some z =>
     have hst2:G2 c y s v=(max s.1 z.lower,min s.2 z.upper):=by unfold G2;rw[hd]
     rw[hst2] at hst;rw[hd] at c3;simp only[Option.isSome_some,Option.getD_some] at c3;have hs:=za hv (za hlq hw);repeat' first|(with_reducible first|refine zz ?_|refine zE LK ?_)|simp -dsimp[hs]|refine zp c3 ?_|refine j4 ?_ ?_<;>intro h<;>try exact h.elim
     all_goals try clear hs
     all_goals exact zn ⟨q+1,by omega⟩ (zw Ky 3 (by simp[hst]))
  ·obtain rfl:q=L.length:=by omega
   simp only[List.take_length];generalize L.foldl (G2 c y) S0=s at *;by_cases hs2:s.2<s.1
   ·rw[if_pos hs2] at hE;subst hE;rw[if_neg (show ¬ (6:Int)=0 by decide)] at hO;subst hO;have hs:=za hlq hs2;repeat' first|(with_reducible first|refine zz ?_|refine zr ?_|refine zE LK ?_)|simp -dsimp[hs]|refine j4 ?_ ?_<;>intro h<;>try exact h.elim
    all_goals try clear hs
   ·rw[if_neg hs2] at hE;subst hE;rw[if_pos (show (0:Int)=0 from rfl)] at hO;subst hO;have hs:=za hlq hs2;repeat' first|(with_reducible first|refine zz ?_|refine zr ?_|refine zE LK ?_)|simp -dsimp[hs]|refine j4 ?_ ?_<;>intro h<;>try exact h.elim
    all_goals try clear hs
 ·have hE:gv c n=T8 c n:=by unfold gv;rw[if_pos h0]
  have hO:kL c n=(0,0):=by unfold kL;rw[if_neg (by rw[hE];exact h0)]
  rw[hE,hO];have hs:=h0;repeat' first|(with_reducible first|refine zz ?_|refine zr ?_|refine zE LK ?_)|simp -dsimp[hs]|refine zp c1 ?_|refine j4 ?_ ?_<;>intro h<;>try exact h.elim
  all_goals try clear hs
attribute [simp] p5 cr s6 w0 nilV H9 ZK
def kg (c:Case) (s:List Int) (d:Int):Int:=nB c.p.n.notes (U0 s [] c.machine c.p.n.notes) d
def ou (c:Case) (s:List Int):Chains:=⟨c.p.n.reg,T7 c.p.n s c.machine,c.of,[c.loop]⟩
def xM (c:Case) (s:List Int):Bool:=!decide (E0 (ou c s) 0=0) || !decide (P4 (ou c s) 0=2)
def yy (c:Case) (y:Link) (x:Piece) (l:Int):Bool:=match Ar c y l with
 | none=>true
 | some z=>decide (x.lo<=z.upper)&&decide (z.lower<=x.hi)
def BF (c:Case) (y:Link) (x:Piece) (l:Int):Bool:=match Ar c y l with
 | none=>false
 | some z=>!W8 x.lo x.hi z.lower z.upper
def F6 (c:Case) (y:Link) (x:Piece) (o:Int) (L:List L3) (l:Int):List L3:=bU (bU L (yy c y x l) (!decide (l=o),false)) (BF c y x l) (!decide (l=o),true)
noncomputable def gD (c:Case) (s:List Int) (k:Nat):List L3:=match c.pieces[k]?,c.loop.links[k]? with
 | some x,some y=>(H7 c k).foldl (F6 c y x (kg c s y.drawing)) []
 | _,_=>[]
noncomputable def G1 (c:Case) (s:List Int):Desk:=⟨c,xM c s,(List.range c.pieces.length).map (gD c s)⟩
theorem la (L:List L3) (so:Bool) (f:L3):(bU L so f).length<=L.length+1:=by
 unfold bU;split<;>simp
theorem rP (c:Case) (y:Link) (x:Piece) (o:Int) (L:List L3) (l:Int):(F6 c y x o L l).length<=L.length+2:=Nat.le_trans (la _ _ _) (Nat.succ_le_succ (la _ _ _))
theorem cS (c:Case) (y:Link) (x:Piece) (o:Int):∀ (l:List Int) (L:List L3),(l.foldl (F6 c y x o) L).length<=L.length+2*l.length
 | [],_=>by simp
 | a :: l,L=>by
   rw[List.foldl_cons,List.length_cons];have h1:=cS c y x o l (F6 c y x o L a);have h2:=rP c y x o L a;omega
theorem BD (c:Case) (y:Link) (x:Piece) (o:Int) {L:List Int} {k:Nat} (h:k<L.length):(L.take (k+1)).foldl (F6 c y x o) []=F6 c y x o ((L.take k).foldl (F6 c y x o) []) L[k]:=by
 rw[List.take_succ_eq_append_getElem h,List.foldl_append];rfl
theorem mf (c:Case) (k:Nat):(H7 c k).length<=c.p.prints.length+1:=by
 unfold H7;split
 ·unfold G0;split
  ·exact jH _ _ _ _
  ·simp
 ·simp
theorem mK {c:Case} (h0:l9 c.p.n.reg=0) (h:eA c=true) {k:Nat} (h1:k<c.pieces.length) (h2:k<c.loop.links.length):c.loop.links[k].drawing∈nums c.p.n.reg:=by
 rw[Z0,Bool.and_eq_true,List.all_eq_true] at h;have h3:k<(c.loop.links.zip c.pieces).length:=by rw[List.length_zip];omega
 have:=h.2 _ (List.getElem_mem h3);rw[List.getElem_zip] at this;simp only[V3,Bool.and_eq_true] at this;have h4:=this.1;cases hf:B6 c.p.n.reg c.loop.links[k].drawing 1 with
 | none=>rw[hf] at h4;simp at h4
 | some z =>
   have hz:=List.find?_some hf;simp only[Bool.and_eq_true,beq_iff_eq] at hz;rw[<- hz.1];exact(E9 h0).2 z (List.mem_of_find?_eq_some hf)
@[simp] abbrev Lj:List Nat:=[0,1,2,4,5,6,8,9,10,11,13,14,16,17,19,20,21,22,71,72,73,93,94,95,96]
@[simp] abbrev Kz:List Nat:=[2,5,6,11,13,14,16,17,71,72,93,94,95]
theorem mR (c:Case) (s:List Int) (he:q9 c=0) (ht:H1 (j9 (l8 c.p.n.notes)) s=true) (hsl:s.length<1000) (hG:o4 G) (hN:C7 G) (hS:s8 G) (hR:u3 G) (hC:I9 G) (hk:KC c):zP prog G 56 [n5 c,A4 s] (.one (.im (ah (G1 c s)))):=by
 refine zf func56 ntmps56 ?_;try simp only[A4]
 obtain⟨hp0,hcb⟩:=H0 he;obtain⟨hn0,hpb,hr0⟩:=I3 hp0;have hok:=U5 hcb;have hlen:=hok.e;have hl8:=hok.l;have hpl:=hk.p.p.q;have hmc:1<=c.machine/\c.machine<=999:=by
  rw[Z0,Bool.and_eq_true] at hcb;have:=hcb.1;simp only[kN,Bool.and_eq_true,decide_eq_true_eq] at this;exact this.2.1
 have hA:D4 c.p.n s c.machine=0:=by
  unfold D4;rw[if_neg (by simp[hn0]),if_neg (by rw[ht];decide),if_pos hmc]
 have c1:=rk (G:=G) c.p.n s c.machine hG hN hS hk.p.n hsl;rw[hA,if_pos rfl,rC] at c1;have hnl:=B8 c.p.n.reg c.p.n.reg.length;have hr80:=hk.p.n.1.1;have hown:(T7 c.p.n s c.machine).length=(nums c.p.n.reg).length:=by unfold T7;rw[List.length_map]
 have hsc:lg (ou c s):=⟨hk.p.n.1,by show (T7 c.p.n s c.machine).length<=80;rw[hown,nums];omega,by simp[ou],λx hx=>by simp[ou] at hx;subst hx;omega⟩
 have c2:=uD (G:=G) (ou c s) 0 hG hC hsc Io;have hnb:xM c s=(!decide (E0 (ou c s) 0=0) || !decide (P4 (ou c s) 0=2)):=rfl;have c3:=bI (G:=G) c.p.n.reg hG hk.p.n.1;have hdr:de c.p.n.reg=nums c.p.n.reg:=by unfold de;rw[if_pos hr0]
 rw[hdr,hr0] at c3;have hD:G1 c s=⟨c,xM c s,(List.range c.pieces.length).map (gD c s)⟩:=rfl;have hE:ah (G1 c s)=.ip (i9 c++[.raw (.bool (xM c s)),.sl (((List.range c.pieces.length).map (gD c s)).map H3)]):=by rw[hD];rfl
 rw[hE];clear hD hE;have hcs:(¬ E0 (ou c s) 0=0/\True/\xM c s=true)\/(E0 (ou c s) 0=0/\P4 (ou c s) 0=2/\xM c s=false)\/(E0 (ou c s) 0=0/\¬ P4 (ou c s) 0=2/\xM c s=true):=by
  rw[hnb];by_cases g1:E0 (ou c s) 0=0<;>by_cases g2:P4 (ou c s) 0=2<;>simp[g1,g2]
 have hfl:∀ k,k<c.pieces.length->∀ x y,c.pieces[k]?=some x->c.loop.links[k]?=some y->gD c s k=(H7 c k).foldl (F6 c y x (kg c s y.drawing)) []:=λk _ x y hx hy=>by unfold gD;rw[hx,hy]
 have hown2:∀ d,d∈nums c.p.n.reg->(T7 c.p.n s c.machine)[lb (nums c.p.n.reg) d]?=some (kg c s d):=λd hd=>by
  have h1:=(ru ((E9 hr0).1.imp λh=>Int.le_of_lt h)).1 hd;unfold T7 kg;rw[List.getElem?_map,h1];rfl
 generalize E0 (ou c s) 0=le at *;generalize P4 (ou c s) 0=ck at *;generalize xM c s=nb at *;simp only[Aw,ou,N5,F2,Z7,w9,A2,n5,i9,List.map_cons,List.map_nil] at c1 c2 c3 ⊢;generalize T7 c.p.n s c.machine=LT at *;have hs:True:=trivial;rcases hcs with⟨g1,g2,gn⟩|⟨g1,g2,gn⟩|⟨g1,g2,gn⟩
 all_goals
  have hs:=za g1 g2;repeat' first|with_reducible refine zz ?_|simp -dsimp[hs]|refine zp c1 ?_|refine zt c2 ?_ ?_ ?_;(focus simp;done);focus (simp;done)|refine zp c3 ?_|with_reducible refine M7 (id:=1) (nt:=172) Lj rfl ?_;simp -dsimp[hs]|with_reducible refine zE Lj ?_
  all_goals try clear hs
 all_goals
  refine i7 (ι:={ q:Nat×Nat×Nat×Bool // q.1<=c.pieces.length/\(q.2.2.1=1\/q.2.2.2=true) }) (λq=>⟨172,[(2,.one (.ptr 0 0)),(5,.one (.ptr 8 0)),(6,A4 LT),(11,A4 (nums c.p.n.reg)),(71,iv (c.pieces.length:Int)),(72,iv (q.1.1:Int))],[.row ((i9 c).map .im),.vec 0 [] 0 true,.vec 0 [] 0 true,.vec 0 [] 0 true,.vec 0 [] 0 true,.vec 0 [] 0 true,.vec 0 [] 0 true,.vec q.1.2.2.1 (l6 (((List.range q.1.1).map (gD c s)).map H3)) q.1.2.1 q.1.2.2.2,.row ((i9 c).map .im++[.im (.raw (.bool nb)),.vec 7 q.1.2.1 0 q.1.1]),.vec 0 [] 0 true,.row [.im (.sl (c.p.n.reg.map h9))]]⟩) (λq=>c.pieces.length-q.1.1) ⟨(0,0,0,true),by simp⟩ (zw [2,5,6,11,71,72] 11 (by simp[gn,l6])) ?_;clear c1 c2 g1 g2 gn;rintro⟨⟨k,g,sz,nl⟩,hk1,hz⟩;simp only at hk1 hz;simp only[iv];by_cases hlt:k<c.pieces.length
  ·have hlt2:k<c.loop.links.length:=by omega
   have hw:=zk k;have hx0:c.pieces[k]?=some c.pieces[k]:=by simp[hlt]
   have hy0:c.loop.links[k]?=some c.loop.links[k]:=by simp[hlt2]
   have hyd:=mL hcb hy0;have hFk:=hfl k hlt _ _ hx0 hy0;have hdm:c.loop.links[k].drawing∈nums c.p.n.reg:=mK hr0 hcb hlt hlt2;have hol:=hown2 _ hdm;have c4:=mM (G:=G) (nums c.p.n.reg) c.loop.links[k].drawing ((E9 hr0).1.imp λh=>Int.le_of_lt h) (by rw[nums];omega);have c5:=xX (G:=G) c k hlt hlt2 hG hN hS hR hk;have c6:=λlt=>tR (G:=G) c k _ lt hy0 hyd.1 hr0 hG hk;have hml:=mf c k;have hfold:=λj=>cS c c.loop.links[k] c.pieces[k] (kg c s c.loop.links[k].drawing) ((H7 c k).take j) [];generalize hx:c.pieces[k]=x at *;generalize hy:c.loop.links[k]=y at *;generalize kg c s y.drawing=o at *;generalize lb (nums c.p.n.reg) y.drawing=at0 at *;have hlo:at0<LT.length:=e7 hol;have hLo:LT[at0]=o:=(List.getElem?_eq_some_iff.1 hol).2;generalize hM:H7 c k=M at *;simp only[n5,i9] at c5 c6;have hs:=za hx (za hy (za hlt (za hlt2 hw)));repeat' first|(with_reducible first|refine zz ?_|refine zE Lj ?_)|simp -dsimp[hs]|refine zp c4 ?_|refine zp c5 ?_|refine j4 ?_ ?_<;>intro h<;>try exact h.elim
   all_goals try clear hs
   refine i7 (ι:={ p:Nat×Nat×Nat×Bool // p.1<=M.length/\(p.2.2.1=2\/p.2.2.2=true) }) (λp=>⟨172,[(2,.one (.ptr 0 0)),(5,.one (.ptr 8 0)),(6,A4 LT),(11,A4 (nums c.p.n.reg)),(13,iv (k:Int)),(14,iv (at0:Int)),(16,.one (.ptr 12 0)),(17,.one (.fn (.func 106) [.ptr 12 0])),(71,iv (c.pieces.length:Int)),(72,iv (k:Int)),(93,A4 M),(94,iv (M.length:Int)),(95,iv (p.1.1:Int))],[.row ((i9 c).map .im),.vec 0 [] 0 true,.vec 0 [] 0 true,.vec 0 [] 0 true,.vec 0 [] 0 true,.vec 0 [] 0 true,.vec 0 [] 0 true,.vec sz (l6 (((List.range k).map (gD c s)).map H3)) g nl,.row ((i9 c).map .im++[.im (.raw (.bool nb)),.vec 7 g 0 k]),.vec 0 [] 0 true,.row [.im (.sl (c.p.n.reg.map h9))],.vec p.1.2.2.1 (l6 (((M.take p.1.1).foldl (F6 c y x o) []).map B7)) p.1.2.1 p.1.2.2.2,.row [.vec 11 p.1.2.1 0 ((M.take p.1.1).foldl (F6 c y x o) []).length]]⟩) (λp=>M.length-p.1.1) ⟨(0,0,0,true),by simp⟩ (zv Kz (by simp[l6])) ?_;rintro⟨⟨j,g2,sz2,nl2⟩,hj,hz2⟩;simp only at hj hz2;simp only[iv,A4];by_cases hlj:j<M.length
   ·have hwj:=zk j;have hst:=BD c y x o hlj;have hfj:=hfold j;have c7:=c6 M[j];generalize hv:M[j]=v at *;generalize (M.take j).foldl (F6 c y x o) []=F at *;rw[List.length_take,List.length_nil] at hfj;have hF1:=la F (yy c y x v) (!decide (v=o),false);have c8:=zW (G:=G) F g2 sz2 nl2 (yy c y x v) (!decide (v=o),false) (by omega) hz2;have c9:=λg sz nl hz=>zW (G:=G) (bU F (yy c y x v) (!decide (v=o),false)) g sz nl (BF c y x v) (!decide (v=o),true) (by omega) hz;rw[show F6 c y x o F v=bU (bU F (yy c y x v) (!decide (v=o),false)) (BF c y x v) (!decide (v=o),true) from rfl] at hst;simp only[iN,B7,bv,List.map_cons,List.map_nil] at c8 c9;have hcs:(Ar c y v=none/\yy c y x v=true/\BF c y x v=false)\/∃ z,Ar c y v=some z/\yy c y x v=(decide (x.lo<=z.upper)&&decide (z.lower<=x.hi))/\BF c y x v=!W8 x.lo x.hi z.lower z.upper:=by
     unfold yy BF;cases Ar c y v with
     | none=>exact .inl ⟨rfl,rfl,rfl⟩
     | some z=>exact .inr ⟨z,rfl,rfl,rfl⟩
    generalize yy c y x v=b1 at *;generalize BF c y x v=b2 at *;rcases hcs with⟨e1,rfl,rfl⟩|⟨z,e1,e2,e3⟩
    ·rw[e1] at c7;simp only[Option.isSome_none,Option.getD_none,CR] at c7;have hs:=za hx (za hy (za hv (za hlt (za hlt2 (za hlj (za hwj (za hlo hLo)))))));repeat' first|with_reducible refine zz ?_|simp -dsimp[hs]|refine zp c7 ?_|refine CallE.embed_ex [12,11] (c8) ?_ ?_ ?_ ?_ ?_ ?_;(focus simp[p7];done);(focus simp;done);(focus simp;done);(focus simp;done);(focus refine n4 ?_;simp[p7,o6];done);intro mmA hmmA;try simp -dsimp[n3,p7,hs]|refine CallE.embed_ex [12,11] ((c9 mmA.1 mmA.2.1 mmA.2.2 hmmA)) ?_ ?_ ?_ ?_ ?_ ?_;(focus simp[p7];done);(focus simp;done);(focus simp;done);(focus simp;done);(focus refine n4 ?_;simp[p7,o6];done);intro mmB hmmB;try simp -dsimp[n3,p7,hs]|refine zM 18 172 24 Lj ?_|refine zM 19 172 18 Lj ?_|with_reducible refine zE Lj ?_|refine j4 ?_ ?_<;>intro h<;>try exact h.elim
     all_goals try clear hs
     all_goals exact zn ⟨(j+1,mmB.1,mmB.2.1,mmB.2.2),by simp only;omega,hmmB⟩ (zw Kz 13 (by simp[hst]))
    ·rw[e1] at c7;simp only[Option.isSome_some,Option.getD_some] at c7;have c10:=aU (G:=G) x.lo x.hi z.lower z.upper;generalize W8 x.lo x.hi z.lower z.upper=ib at *;have hcs2:(x.lo<=z.upper/\z.lower<=x.hi/\b1=true)\/(x.lo<=z.upper/\¬ z.lower<=x.hi/\b1=false)\/(¬ x.lo<=z.upper/\True/\b1=false):=by
      by_cases q1:x.lo<=z.upper<;>by_cases q2:z.lower<=x.hi<;>simp[q1,q2,e2]
     clear e2;subst e3;simp only[D3] at c10;rcases hcs2 with⟨q1,q2,rfl⟩|⟨q1,q2,rfl⟩|⟨q1,q2,rfl⟩
     all_goals
      have hs:=za hx (za hy (za hv (za hlt (za hlt2 (za hlj (za hwj (za hlo (za hLo (za q1 q2)))))))));repeat' first|with_reducible refine zz ?_|simp -dsimp[hs]|refine zp c7 ?_|refine zq c10 ?_|refine CallE.embed_ex [12,11] (c8) ?_ ?_ ?_ ?_ ?_ ?_;(focus simp[p7];done);(focus simp;done);(focus simp;done);(focus simp;done);(focus refine n4 ?_;simp[p7,o6];done);intro mmA hmmA;try simp -dsimp[n3,p7,hs]|refine CallE.embed_ex [12,11] ((c9 mmA.1 mmA.2.1 mmA.2.2 hmmA)) ?_ ?_ ?_ ?_ ?_ ?_;(focus simp[p7];done);(focus simp;done);(focus simp;done);(focus simp;done);(focus refine n4 ?_;simp[p7,o6];done);intro mmB hmmB;try simp -dsimp[n3,p7,hs]|refine zM 18 172 24 Lj ?_|refine zM 19 172 18 Lj ?_|with_reducible refine zE Lj ?_|refine j4 ?_ ?_<;>intro h<;>try exact h.elim
      all_goals try clear hs
     all_goals exact zn ⟨(j+1,mmB.1,mmB.2.1,mmB.2.2),by simp only;omega,hmmB⟩ (zw Kz 13 (by simp[hst]))
   ·obtain rfl:j=M.length:=by omega
    simp only[List.take_length];have hfM:=hfold M.length;rw[List.take_length,List.length_nil] at hfM;have hrs:((List.range (k+1)).map (gD c s)).map H3=((List.range k).map (gD c s)).map H3++[[.sl ((M.foldl (F6 c y x o) []).map B7)]]:=by
     rw[List.range_succ,List.map_append,List.map_append];simp[hFk]
    have hrl:(((List.range k).map (gD c s)).map H3).length=k:=by simp
    generalize M.foldl (F6 c y x o) []=F at *;generalize ((List.range k).map (gD c s)).map H3=Fqs at *;have htk:List.take F.length (l6 (F.map B7))=l6 (F.map B7):=List.take_of_length_le (by simp[l6]);have htkF:List.take k (l6 Fqs)=l6 Fqs:=List.take_of_length_le (by simp[l6,hrl]);have hrs2:l6 (((List.range (k+1)).map (gD c s)).map H3)=l6 Fqs++[[.im (.sl (F.map B7))]]:=by rw[hrs];simp[l6]
    have hrs3:=hrs2;rw[List.map_map] at hrs3;clear hrs;have hs:=za hlj (za hz (za hw hrl));repeat' first|(with_reducible first|refine zz ?_|refine And.intro (by omega) ?_)|simp -dsimp[hs]|refine fk (id:=21) (nt:=172) [0,1,2,3,4,5,6,7,8,9,10] 6 [([0,1,2,3,4],[0,1,2,4,5,6,8,9,10,11,13,14,16,17,19,20,21,22,71,72,73,93,94,95,96,165]),([0],[0,1,2,4,5,6,8,9,10,11,13,14,16,17,19,20,21,22,71,72,73,93,94,95,96,164,166])] Lj mixed rfl (by kernel_rfl) (by kernel_rfl) ?_|with_reducible refine zE Lj ?_|refine j4 ?_ ?_<;>intro h<;>try exact h.elim
    all_goals try clear hs
    all_goals exact zn ⟨(k+1,g+1,1,false),by simp only;omega,.inl rfl⟩ (zw [2,5,6,11,71,72] 11 (by simp[htk,htkF,hrs3]))
  ·obtain rfl:k=c.pieces.length:=by omega
   have hrl:(((List.range c.pieces.length).map (gD c s)).map H3).length=c.pieces.length:=by simp
   generalize hFS:((List.range c.pieces.length).map (gD c s)).map H3=Fqs at *;have htk:List.take c.pieces.length (l6 Fqs)=l6 Fqs:=List.take_of_length_le (by simp[l6,hrl]);have hs:=za hlt (za htk hrl);repeat' first|(with_reducible first|refine zz ?_|refine zr ?_|refine zE Lj ?_)|simp -dsimp[hs]|refine j4 ?_ ?_<;>intro h<;>try exact h.elim
   all_goals try clear hs
   all_goals rw[<- hFS]
   all_goals simp
attribute [simp] p5 cr s6 w0 nilV H9 ZK
noncomputable def ew (c:Case) (O:List Int) (k:Nat):List Desk:=(qJ O k).map (G1 c)
noncomputable def n8 (c:Case):List Desk:=(fp (j9 (l8 c.p.n.notes))).map (G1 c)
theorem vH (c:Case) (O:List Int) (k:Nat):(ew c O k).length=k:=by simp[ew,oB]
theorem si (c:Case) (O:List Int) (k:Nat):ew c O (k+1)=ew c O k++[G1 c (aL O k O.length)]:=by simp[ew,ue]
theorem sh (c:Case) (O:List Int):ew c O 0=[]:=rfl
theorem lV (N:List Int) (s:Nat):∀ k,k<=N.length->(aL N s k).Sublist (N.take k)
 | 0,_=>by simp[aL]
 | k+1,hk=>by
   have hk':k<N.length:=hk;rw[gF,List.take_succ_eq_append_getElem hk',show N.getD k 0=N[k] by simp[hk']];refine(lV N s k (by omega)).append ?_;split
   ·exact List.Sublist.refl _
   ·exact List.nil_sublist _
theorem nm (O:List Int) (k:Nat):(aL O k O.length).Sublist O:=by
 have:=lV O k O.length (Nat.le_refl _);rwa [List.take_length] at this
theorem qH {O t:List Int} (hO:O.Pairwise (· < ·)) (ht:t.Sublist O):H1 O t=true:=by
 refine jJ λi v hv=>⟨ht.subset (List.mem_of_getElem? hv),λj u hj hu=>?_⟩
 subst hj;obtain⟨h1,h2⟩:=List.getElem?_eq_some_iff.1 hv;obtain⟨h3,h4⟩:=List.getElem?_eq_some_iff.1 hu;have:=List.pairwise_iff_getElem.1 (hO.sublist ht) j (j+1) h3 h1 (by omega);omega
theorem vY (c:Case):zP prog G 95 [n5 c] (.one (.im (.fn (.func 155) [.ip (i9 c)]))):=by
 refine zf func95 ntmps95 ?_;try simp only[iv]
 simp only[n5,i9];repeat' first|(with_reducible first|refine zz ?_|refine zx ?_|refine zE [0,1,2] ?_)|simp -dsimp
@[simp] abbrev Ll:List Nat:=[0,1,2,3,4,5,6,7,8,9,13,14,15,16,21,32,33,34,36,37,38,39,47,58]
@[simp] abbrev KA:List Nat:=[0,1,3,6,7,32,33,36,37,38]
theorem sP (c:Case) (he:q9 c=0) (hG:o4 G) (hN:C7 G) (hS:s8 G) (hR:u3 G) (hC:I9 G) (hk:KC c):zP prog G 154 [.one (.im (.raw (.slice none 0 0))),.one (.im (.fn (.func 155) [.ip (i9 c)]))] (Y6 (n8 c)):=by
 refine zf func154 ntmps154 ?_;try simp only[iv]
 obtain⟨hp0,hcb⟩:=H0 he;obtain⟨hn0,hpb,hr0⟩:=I3 hp0;have hnk:=fK hn0;have hn12:=hnk.2.1;have hO5:(j9 (l8 c.p.n.notes)).length<=5:=by rw[yh];exact hnk.2.2.2
 have hstr:=nF (iD hnk.2.2.1);have hE:n8 c=ew c (j9 (l8 c.p.n.notes)) (2 ^ (j9 (l8 c.p.n.notes)).length):=rfl;rw[hE];clear hE;have c1:=λk=>mR (G:=G) c (aL (j9 (l8 c.p.n.notes)) k (j9 (l8 c.p.n.notes)).length) he (qH hstr (nm _ k)) (by have:=oQ (j9 (l8 c.p.n.notes)) k (j9 (l8 c.p.n.notes)).length;omega) hG hN hS hR hC hk;have hcn:i9 c=[.sl (c.p.n.reg.map h9),.sl (c.p.n.notes.map j8)]++(i9 c).drop 2:=rfl;simp only[Y6];have hs:=trivial;repeat' first|(with_reducible first|refine zz ?_|refine zE [0,1,2,4,5,6,7] ?_)|simp -dsimp[hs]
 all_goals try clear hs
 refine oo (Weak.nilCell 0 0 rfl rfl) ?_;have hs:True:=trivial;all_goals try simp -dsimp[hs]
 all_goals try clear hs
 refine P9 (f:=155) (by simp;exact rfl) (by rfl) call155 ?_;generalize hR:LoopD.mk _ _ _ _ _ _ _=R;have hR1:R.st=.ready:=by rw[<- hR]
 have hR2:R.pend=none:=by rw[<- hR]
 have hR3:R.at .ready none=R:=by rw[<- hR];rfl
 have hR4:=(congrArg LoopD.nt hR).symm;have hR5:=(congrArg LoopD.tm hR).symm;have hR6:=(congrArg LoopD.ps hR).symm;have hR7:=(congrArg LoopD.asg hR).symm;have hR8:=(congrArg LoopD.body hR).symm;dsimp only at hR4 hR5 hR6 hR7 hR8;clear hR;refine g9 func155 rfl ntmps155 (by simp) rfl ?_;have hR10:∀ objs:List DObj,(R.tm.map λx=>(x.1,eU 4 objs x.2))=R.tm:=by intro objs;rw[hR5];simp
 have hR9:∀ objs:List DObj,(R.tm.map λx=>(x.1,eU 5 objs x.2))=R.tm:=by intro objs;rw[hR5];simp
 have hs:=za hR1 (za hR2 hR3);repeat' first|(with_reducible first|refine zz ?_|refine zE Ll ?_)|simp -dsimp[hs]
 all_goals try clear hs
 refine i7 (ι:={ p:Nat×Nat×Nat×Bool // p.1<=c.p.n.notes.length/\(p.2.2.1=1\/p.2.2.2=true/\l8 (c.p.n.notes.take p.1)=[]) }) (λp=>⟨60,[(0,.one (.yld 3)),(1,.one (.im (.ip (i9 c)))),(3,.one (.vec 4 p.1.2.1 0 (l8 (c.p.n.notes.take p.1.1)).length)),(13,.one (.im (.sl (c.p.n.notes.map j8)))),(14,iv (c.p.n.notes.length:Int)),(15,iv (p.1.1:Int))],[.row [.vec 2 0 0 0],.vec 1 [] 0 true,.vec 0 [] 0 true,.loop R,.vec p.1.2.2.1 (l6 ((l8 (c.p.n.notes.take p.1.1)).map Ab.encI)) p.1.2.1 p.1.2.2.2]⟩) (λp=>c.p.n.notes.length-p.1.1) ⟨(0,0,1,true),by simp[l8]⟩ (zv [0,1,3,13,14,15] (by simp[l8,l6])) ?_;rintro⟨⟨k,g,sz,nl⟩,hk,hz⟩;simp only at hk hz;simp only[iv];have hz':sz=1\/nl=true:=hz.imp id And.left;by_cases hlt:k<c.p.n.notes.length
 ·have hx0:c.p.n.notes[k]?=some c.p.n.notes[k]:=by simp[hlt]
  have hw:=zk k;have hos:=eL c.p.n.notes k hlt;have hol:=aQ (c.p.n.notes.take k);rw[List.length_take] at hol;generalize hx:c.p.n.notes[k]=x at *;by_cases hsg:x.signed=1
  ·rw[if_pos hsg] at hos;have hs:=za hR1 (za hR2 (za hR3 (za hx (za hlt (za hsg (za hw hz'))))));repeat' first|(with_reducible first|refine zz ?_|refine And.intro (by omega) ?_|refine zE Ll ?_)|simp -dsimp[hs]|refine j4 ?_ ?_<;>intro h<;>try exact h.elim
   all_goals try clear hs
   exact zn ⟨(k+1,g+1,1,false),by omega,.inl rfl⟩ (zw [0,1,3,13,14,15] 5 (by clear hR4 hR5 hR6 hR7 hR8;simp[hos,hR1,hR2,hR3,hR9,LoopD.at_eta]))
  ·rw[if_neg hsg,List.append_nil] at hos;have hszn:sz=1\/nl=true/\l8 (c.p.n.notes.take (k+1))=[]:=by rw[hos];exact hz
   have hs:=za hR1 (za hR2 (za hR3 (za hx (za hlt (za hsg hw)))));repeat' first|(with_reducible first|refine zz ?_|refine zE Ll ?_)|simp -dsimp[hs]|refine j4 ?_ ?_<;>intro h<;>try exact h.elim
   all_goals try clear hs
   exact zn ⟨(k+1,g,sz,nl),by omega,hszn⟩ (zw [0,1,3,13,14,15] 5 (by clear hR4 hR5 hR6 hR7 hR8;simp[hos,hR1,hR2,hR3,hR9,LoopD.at_eta]))
 ·obtain rfl:k=c.p.n.notes.length:=by omega
  simp only[List.take_length] at hz ⊢;have hol:=aQ c.p.n.notes;have c2:=hS (l8 c.p.n.notes) g sz nl hz (by omega);have hil:=J3 (l8 c.p.n.notes);have htk:(l6 ((j9 (l8 c.p.n.notes)).map Ab.encI)).take (l8 c.p.n.notes).length=l6 ((j9 (l8 c.p.n.notes)).map Ab.encI):=List.take_of_length_le (by simp[o7,hil]);clear hz;rw[<- hil] at c2 htk;rw[<- hil];generalize j9 (l8 c.p.n.notes)=O at *;have hPe:(2:Nat) ^ O.length<=2 ^ 5:=Nat.pow_le_pow_right (by omega) hO5;have hmin:min O.length 64=O.length:=by omega
  have hb64:IntKind.i64.bits=64:=rfl;have hlnn:¬ ((O.length:Int)<0):=by omega
  have hsh:IntKind.i64.wrap ((2:Int) ^ O.length)=((2 ^ O.length:Nat):Int):=by
   rw[show ((2:Int) ^ O.length)=((2 ^ O.length:Nat):Int) by simp];exact(λ(P:Nat) (h:P<=2 ^ 5)=>(r9 (by omega) (by omega):IntKind.i64.wrap (P:Int)=(P:Int))) _ hPe
  generalize hP:2 ^ O.length=P at *;have hs:=za hR1 (za hR2 (za hR3 (za hlt (za hmin (za hb64 (za hlnn hsh))))));repeat' first|(with_reducible first|refine zz ?_|refine zE Ll ?_)|simp -dsimp[hs]|refine CallE.embed [4] (c2) ?_ ?_ ?_ ?_ ?_ ?_;(focus simp[p7];done);(focus simp;done);(focus simp;done);(focus simp;done);(focus refine n4 ?_;simp[p7,o6];done);try simp -dsimp[n3,p7,hs]|refine j4 ?_ ?_<;>intro h<;>try exact h.elim
  all_goals try clear hs
  clear c2 hlt;refine i7 (ι:={ p:Nat×Nat×Nat×Bool // p.1<=P/\((p.2.2.1=1/\p.2.2.2=false)\/(p.2.2.1=0/\p.2.2.2=true/\p.1=0)) }) (λp=>⟨60,[(0,.one (.yld 3)),(1,.one (.im (.ip (i9 c)))),(3,A4 O),(32,iv (P:Int)),(33,iv (p.1.1:Int))],[.row [.vec 2 p.1.2.1 0 p.1.1],.vec 1 [] 0 true,.vec p.1.2.2.1 (l6 ((ew c O p.1.1).map Q6)) p.1.2.1 p.1.2.2.2,.loop R]⟩) (λp=>P-p.1.1) ⟨(0,0,0,true),by simp⟩ (zw [0,1,3,32,33] 4 (by clear hR4 hR5 hR6 hR7 hR8;simp[sh,hR1,hR2,hR3,hR10,LoopD.at_eta,htk,hz'])) ?_;rintro⟨⟨k,g1,sz1,nl1⟩,hk,hz⟩;simp only at hk hz;simp only[iv,A4];have hkl:=vH c O k;by_cases hlt:k<P
  ·have hw:=zk k;have hst:=si c O k;have hc1:=c1 k;have hz0:aL O k 0=[]:=by simp[aL]
   generalize ew c O k=L at *;have hs:=za hR1 (za hR2 (za hR3 hlt));repeat' first|(with_reducible first|refine zz ?_|refine zE Ll ?_)|simp -dsimp[hs]|refine j4 ?_ ?_<;>intro h<;>try exact h.elim
   all_goals try clear hs
   refine i7 (ι:={ p:Nat×Nat×Bool // p.1<=O.length }) (λp=>⟨60,[(0,.one (.yld 3)),(1,.one (.im (.ip (i9 c)))),(3,A4 O),(6,iv (k:Int)),(7,.one (.vec 4 p.1.2.1 0 (aL O k p.1.1).length)),(32,iv (P:Int)),(33,iv (k:Int)),(36,A4 O),(37,iv (O.length:Int)),(38,iv (p.1.1:Int))],[.row [.vec 2 g1 0 k],.vec 1 [] 0 true,.vec sz1 (l6 (L.map Q6)) g1 nl1,.loop R,.vec 1 (l6 ((aL O k p.1.1).map Ab.encI)) p.1.2.1 p.1.2.2]⟩) (λp=>O.length-p.1.1) ⟨(0,0,true),by simp⟩ (zv KA (by simp[hz0,l6])) ?_;rintro⟨⟨i,g2,nl2⟩,hi⟩;simp only at hi;simp only[iv,A4];by_cases hil:i<O.length
   ·have hwi:=zk i;have hi63:min i 64=i:=by omega
    have hin:¬ ((i:Int)<0):=by omega
    have hbit:=Ew k i;have hSl:=oQ O k i;have hsu:aL O k (i+1)=aL O k i++(if k.testBit i=true then [O[i]] else []):=by
     rw[gF,show O.getD i 0=O[i] by simp[hil]]
    generalize hx:O[i]=x at *;generalize aL O k i=S at *;cases hb:k.testBit i
    ·rw[hb] at hbit hsu;simp at hbit;rw[if_neg Bool.false_ne_true,List.append_nil] at hsu;have hs:=za hR1 (za hR2 (za hR3 (za hx (za hil (za hwi (za hin (za hi63 (za hb64 hbit))))))));repeat' first|(with_reducible first|refine zz ?_|refine zE Ll ?_)|simp -dsimp[hs]|refine j4 ?_ ?_<;>intro h<;>try exact h.elim
     all_goals try clear hs
     all_goals exact zn ⟨(i+1,g2,nl2),by simp only;omega⟩ (zw KA 5 (by clear hR4 hR5 hR6 hR7 hR8;simp[hsu,hR1,hR2,hR3,hR9,LoopD.at_eta]))
    ·rw[hb] at hbit hsu;simp at hbit;rw[if_pos rfl] at hsu;have hs:=za hR1 (za hR2 (za hR3 (za hx (za hil (za hwi (za hin (za hi63 (za hb64 hbit))))))));repeat' first|(with_reducible first|refine zz ?_|refine And.intro (by omega) ?_|refine zE Ll ?_)|simp -dsimp[hs]|refine j4 ?_ ?_<;>intro h<;>try exact h.elim
     all_goals try clear hs
     all_goals exact zn ⟨(i+1,g2+1,false),by simp only;omega⟩ (zw KA 5 (by clear hR4 hR5 hR6 hR7 hR8;simp[hsu,hR1,hR2,hR3,hR9,LoopD.at_eta]))
   ·obtain rfl:i=O.length:=by omega
    generalize aL O k O.length=S at *;simp only[n5,i9] at hc1;have hSt:(l6 (S.map Ab.encI)).take S.length=l6 (S.map Ab.encI):=List.take_of_length_le (by simp[o7]);rcases hz with⟨rfl,rfl⟩|⟨rfl,rfl,rfl⟩
    ·subst hkl;have hs:=za hR1 (za hR2 (za hR3 (za hil hw)));repeat' first|(with_reducible first|refine zz ?_|refine And.intro (by omega) ?_|refine zE Ll ?_)|simp -dsimp[hs]|with_reducible refine At.yield_end ?_;simp -dsimp[hs]|refine am ?_ ?_<;>simp -dsimp[hs]|refine N8 ?_;simp -dsimp[P8,hR4,hR5,hR6,hR7,hR8,hs]|refine CallE.freeze 4 (hc1 [.row [.vec 2 g1 0 L.length],.vec 1 [] 0 true,.vec 1 (l6 (L.map Q6)) g1 false,.loop R]) ?_ ?_ ?_ ?_ ?_ ?_;(focus simp[hR10];done);(focus simp[hSt];done);(focus simp;done);(focus rfl);(focus simp;done);try simp -dsimp[s6]|refine j4 ?_ ?_<;>intro h<;>try exact h.elim
     all_goals try clear hs
     all_goals exact zn ⟨(L.length+1,g1+1,1,false),by omega,.inl ⟨rfl,rfl⟩⟩ (zw [0,1,3,32,33] 4 (by clear hR4 hR5 hR6 hR7 hR8;simp[hst,hR1,hR2,hR3,hR9,hR10,LoopD.at_eta]))
    ·obtain rfl:=List.eq_nil_of_length_eq_zero hkl;have hw1:IntKind.i64.wrap 1=1:=r9 (by omega) (by omega);have hs:=za hR1 (za hR2 (za hR3 (za hil (za hw hw1))));repeat' first|(with_reducible first|refine zz ?_|refine zE Ll ?_)|simp -dsimp[hs]|with_reducible refine At.yield_end ?_;simp -dsimp[hs]|refine am ?_ ?_<;>simp -dsimp[hs]|refine N8 ?_;simp -dsimp[P8,hR4,hR5,hR6,hR7,hR8,hs]|refine CallE.freeze 4 (hc1 [.row [.vec 2 g1 0 0],.vec 1 [] 0 true,.vec 0 [] g1 true,.loop R]) ?_ ?_ ?_ ?_ ?_ ?_;(focus simp[hR10];done);(focus simp[hSt];done);(focus simp;done);(focus rfl);(focus simp;done);try simp -dsimp[s6]|refine j4 ?_ ?_<;>intro h<;>try exact h.elim
     all_goals try clear hs
     all_goals exact zn ⟨(1,g1+1,1,false),by omega,.inl ⟨rfl,rfl⟩⟩ (zw [0,1,3,32,33] 4 (by clear hR4 hR5 hR6 hR7 hR8;simp[hst,hw1,hR1,hR2,hR3,hR9,hR10,LoopD.at_eta]))
  ·obtain rfl:k=P:=by omega
   obtain⟨rfl,rfl⟩:=hz.resolve_right (by have:=Nat.one_le_two_pow (n:=O.length);omega);generalize ew c O k=L at *;subst hkl;have hs:=za hR1 (za hR2 (za hR3 hlt));repeat' first|(with_reducible first|refine zz ?_|refine zr ?_ (by simp -dsimp[B1,hs];exact rfl)|refine ze ?_ (by simp -dsimp[B1,hs];exact rfl)|refine zE Ll ?_)|simp -dsimp[B1,hs]|with_reducible show B1 _ _ _ _ _ _ _ _;simp -dsimp[B1,hs]|refine j4 ?_ ?_<;>intro h<;>try exact h.elim
   all_goals try clear hs
   all_goals simp
theorem pQ (c:Case) (he:q9 c=0) (hG:o4 G) (hN:C7 G) (hS:s8 G) (hR:u3 G) (hC:I9 G) (hk:KC c):zP prog G 94 [.one (.im (.fn (.func 155) [.ip (i9 c)]))] (Y6 (n8 c)):=by
 refine zf func94 ntmps94 ?_;try simp only[iv]
 have c1:=sP (G:=G) c he hG hN hS hR hC hk;simp only[i9] at c1 ⊢;repeat' first|(with_reducible first|refine zz ?_|refine zx ?_)|simp -dsimp|refine zp c1 ?_|with_reducible refine tj [0,2] ?_;simp -dsimp
noncomputable def G9 (c:Case):Int:=if q9 c≠0 then q9 c else if W0 c≠0 then 101 else 0
noncomputable def ot (c:Case):List Desk:=if G9 c=0 then n8 c else []
theorem U6 {c:Case} (h:G9 c=0):q9 c=0/\W0 c=0:=by
 unfold G9 at h;by_cases h0:q9 c=0
 ·rw[if_neg (by simp[h0])] at h;refine⟨h0,Classical.byContradiction λh1=>?_⟩;rw[if_pos h1] at h;exact absurd h (by decide)
 ·rw[if_pos h0] at h;exact absurd h h0
@[simp] abbrev KB:List Nat:=[0,1,2,3,4,5,12,15]
theorem dS (c:Case) (hG:o4 G) (hN:C7 G) (hS:s8 G) (hR:u3 G) (hC:I9 G) (hk:KC c):zP prog G 48 [n5 c] (.tup [Y6 (ot c),iv (G9 c)]):=by
 refine zf func48 ntmps48 ?_;try simp only[iv]
 have c1:=od (G:=G) c hG hN hS hR hk;by_cases h0:q9 c=0
 ·by_cases h1:W0 c=0
  ·have hE:G9 c=0:=by unfold G9;rw[if_neg (by simp[h0]),if_neg (by simp[h1])]
   have hO:ot c=n8 c:=by unfold ot;rw[if_pos hE]
   have c2:=vY (G:=G) c;have c3:=pQ (G:=G) c h0 hG hN hS hR hC hk;rw[hE,hO];rw[h0,h1] at c1;simp only[n5,i9,Y6] at c1 c2 c3 ⊢;have hs:=trivial;repeat' first|(with_reducible first|refine zz ?_|refine zr ?_|refine zE KB ?_)|simp -dsimp[hs]|refine zp c1 ?_|refine zp c2 ?_|refine zp c3 ?_|refine j4 ?_ ?_<;>intro h<;>try exact h.elim
  ·have hE:G9 c=101:=by unfold G9;rw[if_neg (by simp[h0]),if_pos h1]
   have hO:ot c=[]:=by unfold ot;rw[if_neg (by rw[hE];decide)]
   rw[hE,hO];rw[h0] at c1;simp only[n5,i9] at c1 ⊢;have hs:=h1;repeat' first|(with_reducible first|refine zz ?_|refine zr ?_|refine zE KB ?_)|simp -dsimp[hs]|refine zp c1 ?_|refine j4 ?_ ?_<;>intro h<;>try exact h.elim
 ·have hE:G9 c=q9 c:=by unfold G9;rw[if_pos h0]
  have hO:ot c=[]:=by unfold ot;rw[if_neg (by rw[hE];exact h0)]
  rw[hE,hO];simp only[n5,i9] at c1 ⊢;have hs:=h0;repeat' first|(with_reducible first|refine zz ?_|refine zr ?_|refine zE KB ?_)|simp -dsimp[hs]|refine zp c1 ?_|refine j4 ?_ ?_<;>intro h<;>try exact h.elim
theorem BE (c:Case) (s:List Int) (k:Nat):(gD c s k).length<=2*(c.p.prints.length+1):=by
 unfold gD;have h1:=mf c k;split
 ·rename_i x y _ _;have h2:=cS c y x (kg c s y.drawing) (H7 c k) [];rw[List.length_nil] at h2;omega
 ·simp
theorem tP {c:Case} (hk:KC c) (s:List Int):DkOk c.pieces.length (G1 c s):=by
 refine⟨by simp[G1],λx hx=>?_⟩;simp only[G1,List.mem_map] at hx;obtain⟨k,_,rfl⟩:=hx;have:=BE c s k;have:=hk.p.p.q;omega
theorem Y7 {c:Case} (hk:KC c):∀ d∈n8 c,DkOk c.pieces.length d:=by
 intro d hd;obtain⟨s,_,rfl⟩:=List.mem_map.1 hd;exact tP hk s
theorem bc {c:Case} (h:q9 c=0):1<=(n8 c).length/\(n8 c).length<=32:=by
 obtain⟨hp0,_⟩:=H0 h;obtain⟨hn0,_,_⟩:=I3 hp0;have hO5:(j9 (l8 c.p.n.notes)).length<=5:=by rw[yh];exact(fK hn0).2.2.2
 have hPe:(2:Nat) ^ (j9 (l8 c.p.n.notes)).length<=2 ^ 5:=Nat.pow_le_pow_right (by omega) hO5;have h1:1<=(2:Nat) ^ (j9 (l8 c.p.n.notes)).length:=Nat.one_le_two_pow;unfold n8;rw[List.length_map,oy];omega
end Go.Proofs
namespace Go.Ab
open Go
end Go.Ab
namespace Go.Proofs
open Go Go.Ab
variable {G:IK}
attribute [simp] p5 cr K4 ic s6 w0 nilV H9 ZK
theorem W6 (n l:Int) (d:Dim):zP Tryz.prog G 79 [iv n,iv l,gk d] (Q3 { drawing:=n,letter:=l,kind:=2,items:=[],dims:=[d] }):=by
 refine zf Tryz.func79 Tryz.ntmps79 ?_;try simp only[iv,iv,gk]
 repeat' first|(with_reducible first|refine zz ?_|refine zx ?_|refine zE [0,1,2,5,6] ?_)|simp -dsimp
theorem L6 (a b:Int):zP Tryz.prog G 28 [iv a,iv b] (D3 a b):=by
 refine zf Tryz.func28 Tryz.ntmps28 ?_;try simp only[iv,iv]
 repeat' first|(with_reducible first|refine zz ?_|refine zx ?_|refine zE [0,1,4] ?_)|simp -dsimp
theorem V1 (a b d e f g:Int):zP Tryz.prog G 80 [iv a,iv b,iv d,iv e,iv f,wJ g] (aB ⟨a,b,d,e,f,-1,g⟩):=by
 refine zf Tryz.func80 Tryz.ntmps80 ?_;try simp only[iv,iv,iv,iv,iv,wJ]
 repeat' first|(with_reducible first|refine zz ?_|refine zx ?_|refine zE [0,1,2,3,4,5,12] ?_)|simp -dsimp
theorem wY  : zP Tryz.prog G 34 [] (D8 ⟨1,0⟩):=by
 refine zf Tryz.func34 Tryz.ntmps34 ?_;try simp only[iv]
 repeat' first|(with_reducible first|refine zz ?_|refine zx ?_|refine zE [0] ?_)|simp -dsimp
theorem nf (n:Int):zP Tryz.prog G 32 [iv n] (D8 ⟨2,n⟩):=by
 refine zf Tryz.func32 Tryz.ntmps32 ?_;try simp only[iv]
 repeat' first|(with_reducible first|refine zz ?_|refine zx ?_|refine zE [0,2] ?_)|simp -dsimp
theorem qO (n:Int):zP Tryz.prog G 33 [iv n] (D8 ⟨3,n⟩):=by
 refine zf Tryz.func33 Tryz.ntmps33 ?_;try simp only[iv]
 repeat' first|(with_reducible first|refine zz ?_|refine zx ?_|refine zE [0,2] ?_)|simp -dsimp
def boltR:List Issue:=[{ drawing:=1,letter:=1,kind:=1,items:=[⟨2,1⟩,⟨3,1⟩],dims:=[] },{ drawing:=2,letter:=1,kind:=2,items:=[],dims:=[⟨105,100,110⟩] },{ drawing:=2,letter:=2,kind:=2,items:=[],dims:=[⟨102,100,104⟩] },{ drawing:=3,letter:=1,kind:=2,items:=[],dims:=[⟨94,90,98⟩] }]
def boltP:Prints:={ n:={ reg:=boltR,notes:=[⟨5,10,2,2,2,7,999,0,false,0⟩] },holders:=[⟨1,1,999,[2,3]⟩,⟨2,1,999,[2]⟩],prints:=[⟨1,1,1,2,1,-1,0⟩,⟨2,1,1,3,1,-1,0⟩,⟨3,1,2,2,1,-1,0⟩,⟨4,12,2,2,2,-1,1⟩] }
def boltC:Case:={ p:=boltP,machine:=8,of:=1,loop:={ links:=[⟨2,0,false⟩,⟨3,0,true⟩],lo:=0,hi:=14 },pieces:=[⟨2,20,106,107⟩,⟨1,20,90,91⟩] }
theorem zF  : zP Tryz.prog G 31 [] (n5 boltC):=by
 refine zf Tryz.func31 Tryz.ntmps31 ?_;try simp only[iv]
 have c1:=W6 (G:=G) 2 1 ⟨105,100,110⟩;have c2:=W6 (G:=G) 2 2 ⟨102,100,104⟩;have c3:=W6 (G:=G) 3 1 ⟨94,90,98⟩;have d1:=V1 (G:=G) 1 1 1 2 1 0;have d2:=V1 (G:=G) 2 1 1 3 1 0;have d3:=V1 (G:=G) 3 1 2 2 1 0;have d4:=V1 (G:=G) 4 12 2 2 2 1;have e1:=L6 (G:=G) 0 14;have e2:=L6 (G:=G) 106 107;have e3:=L6 (G:=G) 90 91;simp only[gk,B9,Q3,h9,aB,p6,D3,rI,List.map_cons,List.map_nil] at c1 c2 c3 d1 d2 d3 d4 e1 e2 e3;repeat' first|(with_reducible first|refine zz ?_|refine zx ?_)|simp -dsimp|refine zp c1 ?_|refine zp c2 ?_|refine zp c3 ?_|refine zq d1 ?_|refine zq d2 ?_|refine zq d3 ?_|refine zq d4 ?_|refine zq e1 ?_|refine zq e2 ?_|refine zq e3 ?_|refine zM 3 45 30 [0,1,2] ?_|with_reducible refine zE [0,1,2] ?_
 all_goals (repeat' apply And.intro)<;>rfl
end Go.Proofs
