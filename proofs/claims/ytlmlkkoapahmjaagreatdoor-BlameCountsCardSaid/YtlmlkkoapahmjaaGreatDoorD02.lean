/- Part 22 of the proofs. -/
import Derived.Test.YtlmlkkoapahmjaaGreatDoorS09
import Derived.Test.YtlmlkkoapahmjaaGreatDoorS14
import Derived.Test.YtlmlkkoapahmjaaGreatDoorS15
import Derived.Test.YtlmlkkoapahmjaaGreatDoorS17
import Derived.Test.YtlmlkkoapahmjaaGreatDoorS18
import Derived.Test.YtlmlkkoapahmjaaGreatDoorS19
import Derived.Test.YtlmlkkoapahmjaaGreatDoorS20
set_option linter.all false
set_option maxHeartbeats 100000000
namespace Go.Proofs
open Go Go.Ab
theorem EQ {α:Type} {l:List α} (h:l.length=10):∃ a b c d e f g i j k,l=[a,b,c,d,e,f,g,i,j,k]:=by
 match l,h with
 | [a,b,c,d,e,f,g,i,j,k],_=>exact⟨a,b,c,d,e,f,g,i,j,k,rfl⟩
def qM (x:Note):Prop:=0<=x.ways/\x.ways<=255/\0<=x.signed/\x.signed<=255
def Et:Nat->List IC->Prop
 | 2=>λl=>∃ n:Int,(0<=n/\n<=255)/\l=[.raw (.int .u8 n)]
 | 8=>λl=>∃ b:Bool,l=[rB b]
 | 9=>λl=>∃ n:Int,(0<=n/\n<=255)/\l=[.raw (.int .u8 n)]
 | _=>λl=>∃ n:Int,l=[rI n]
theorem Cf:Rd 153 n8 qM:=(Opens.struct Tryz.underlying153 (by kernel_rfl) Et (λi f hf=>by
 rcases i with _|_|_|_|_|_|_|_|_|_|i<;>simp at hf<;>subst hf
 ·exact oInt
 ·exact oInt
 ·exact En
 ·exact oInt
 ·exact oInt
 ·exact oInt
 ·exact oInt
 ·exact oInt
 ·exact BE
 ·exact En)).mono (by
 rintro l ⟨ls,h1,h2,rfl⟩;obtain⟨a,b,c,d,e,f,g,i,j,k,rfl⟩:=EQ h1;obtain⟨x0,rfl⟩:=h2 0 a rfl;obtain⟨x1,rfl⟩:=h2 1 b rfl;obtain⟨x2,k2,rfl⟩:=h2 2 c rfl;obtain⟨x3,rfl⟩:=h2 3 d rfl;obtain⟨x4,rfl⟩:=h2 4 e rfl;obtain⟨x5,rfl⟩:=h2 5 f rfl;obtain⟨x6,rfl⟩:=h2 6 g rfl;obtain⟨x7,rfl⟩:=h2 7 i rfl;obtain⟨x8,rfl⟩:=h2 8 j rfl;obtain⟨x9,k9,rfl⟩:=h2 9 k rfl;exact⟨⟨x0,x1,x2,x3,x4,x5,x6,x7,x8,x9⟩,⟨k9.1,k9.2,k2.1,k2.2⟩,rfl⟩)
theorem Cv:Opens Tryz.prog 25 (λl=>∃ xs:List Note,(∀ x∈xs,qM x)/\l=[.sl (xs.map n8)]):=
 Opens.sliceOf Tryz.underlying25 (sz:=10) (by kernel_rfl) (by decide) (λ_=>rfl) Cf
def CA:Nat->List IC->Prop
 | 0=>λl=>∃ xs:List Issue,(∀ x∈xs,fa x)/\l=[.sl (xs.map e9)]
 | _=>λl=>∃ xs:List Note,(∀ x∈xs,qM x)/\l=[.sl (xs.map n8)]
theorem zQ:Rd 27 m7 tj:=(Opens.struct Tryz.underlying27 (by kernel_rfl) CA (λi f hf=>by
 rcases i with _|_|i<;>simp at hf<;>subst hf
 ·exact Eo
 ·exact Cv)).mono (by
 rintro l ⟨ls,h1,h2,rfl⟩;obtain⟨a,b,rfl⟩:=uq h1;obtain⟨x,hx,rfl⟩:=h2 0 a rfl;obtain⟨y,hy,rfl⟩:=h2 1 b rfl;exact⟨⟨x,y⟩,⟨hx,hy⟩,rfl⟩)
theorem GX {α:Type} {l:List α} (h:l.length=7):∃ a b c d e f g,l=[a,b,c,d,e,f,g]:=by
 match l,h with
 | [a,b,c,d,e,f,g],_=>exact⟨a,b,c,d,e,f,g,rfl⟩
theorem FW {α:Type} {l:List α} (h:l.length=6):∃ a b c d e f,l=[a,b,c,d,e,f]:=by
 match l,h with
 | [a,b,c,d,e,f],_=>exact⟨a,b,c,d,e,f,rfl⟩
theorem Ep:Opens Tryz.prog 78 (λl=>∃ n m:Int,l=[rI n,rI m]):=(Opens.struct Tryz.underlying78 (by kernel_rfl) (λ_ l=>∃ n:Int,l=[rI n]) (λi f hf=>by
 rcases i with _|_|i<;>simp at hf<;>subst hf<;>exact oInt)).mono (by
 rintro l ⟨ls,h1,h2,rfl⟩;obtain⟨a,b,rfl⟩:=uq h1;obtain⟨x,rfl⟩:=h2 0 a rfl;obtain⟨y,rfl⟩:=h2 1 b rfl;exact⟨x,y,rfl⟩)
def AG:Nat->List IC->Prop
 | 3=>λl=>∃ xs:List Int,l=[.sl (xs.map Ab.encI)]
 | _=>λl=>∃ n:Int,l=[rI n]
theorem wI:Rd 155 o8 (λ_=>True):=(Opens.struct Tryz.underlying155 (by kernel_rfl) AG (λi f hf=>by
 rcases i with _|_|_|_|i<;>simp at hf<;>subst hf
 ·exact oInt
 ·exact oInt
 ·exact oInt
 ·exact BD)).mono (by
 rintro l ⟨ls,h1,h2,rfl⟩;obtain⟨a,b,c,d,rfl⟩:=EP h1;obtain⟨x,rfl⟩:=h2 0 a rfl;obtain⟨y,rfl⟩:=h2 1 b rfl;obtain⟨z,rfl⟩:=h2 2 c rfl;obtain⟨u,rfl⟩:=h2 3 d rfl;exact⟨⟨x,y,z,u⟩,trivial,rfl⟩)
theorem xb:Opens Tryz.prog 28 (λl=>∃ xs:List Holder,l=[.sl (xs.map o8)]):=
 (Opens.sliceOf Tryz.underlying28 (sz:=4) (by kernel_rfl) (by decide) (λ_=>rfl) wI).mono (by rintro l ⟨xs,_,h⟩;exact⟨xs,h⟩)
def Cl:Nat->List IC->Prop
 | 3=>λl=>∃ n m:Int,l=[rI n,rI m]
 | 5=>λl=>∃ n:Int,(0<=n/\n<=255)/\l=[.raw (.int .u8 n)]
 | _=>λl=>∃ n:Int,l=[rI n]
theorem zN:Rd 80 A0 jA:=(Opens.struct Tryz.underlying80 (by kernel_rfl) Cl (λi f hf=>by
 rcases i with _|_|_|_|_|_|i<;>simp at hf<;>subst hf
 ·exact oInt
 ·exact oInt
 ·exact oInt
 ·exact Ep
 ·exact oInt
 ·exact En)).mono (by
 rintro l ⟨ls,h1,h2,rfl⟩;obtain⟨a,b,c,d,e,f,rfl⟩:=FW h1;obtain⟨x0,rfl⟩:=h2 0 a rfl;obtain⟨x1,rfl⟩:=h2 1 b rfl;obtain⟨x2,rfl⟩:=h2 2 c rfl;obtain⟨x3,x4,rfl⟩:=h2 3 d rfl;obtain⟨x5,rfl⟩:=h2 4 e rfl;obtain⟨x6,k6,rfl⟩:=h2 5 f rfl;exact⟨⟨x0,x1,x2,x3,x4,x5,x6⟩,k6,rfl⟩)
theorem Ad:Opens Tryz.prog 29 (λl=>∃ xs:List Print,(∀ x∈xs,jA x)/\l=[.sl (xs.map A0)]):=
 Opens.sliceOf Tryz.underlying29 (sz:=7) (by kernel_rfl) (by decide) (λ_=>rfl) zN
def zV:Nat->List IC->Prop
 | 0=>λl=>∃ x:Notes,tj x/\l=m7 x
 | 1=>λl=>∃ xs:List Holder,l=[.sl (xs.map o8)]
 | _=>λl=>∃ xs:List Print,(∀ x∈xs,jA x)/\l=[.sl (xs.map A0)]
theorem wG:Rd 31 m6 pP:=(Opens.struct Tryz.underlying31 (by kernel_rfl) zV (λi f hf=>by
 rcases i with _|_|_|i<;>simp at hf<;>subst hf
 ·exact zQ
 ·exact xb
 ·exact Ad)).mono (by
 rintro l ⟨ls,h1,h2,rfl⟩;obtain⟨a,b,c,rfl⟩:=Aq h1;obtain⟨x,hx,rfl⟩:=h2 0 a rfl;obtain⟨y,rfl⟩:=h2 1 b rfl;obtain⟨z,hz,rfl⟩:=h2 2 c rfl;exact⟨⟨x,y,z⟩,⟨hx,hz⟩,rfl⟩)
theorem zO:Rd 69 I7 (λ_=>True):=(Opens.struct Tryz.underlying69 (by kernel_rfl) (wU (λ_=>True) (λl=>∃ n:Int,l=[rI n]) (λl=>∃ n:Int,l=[rI n]) (λl=>∃ n m:Int,l=[rI n,rI m])) (λi f hf=>by
 rcases i with _|_|_|i<;>simp at hf<;>subst hf
 ·exact oInt
 ·exact oInt
 ·exact Er)).mono (by
 rintro l ⟨ls,h1,h2,rfl⟩;obtain⟨a,b,c,rfl⟩:=Aq h1;obtain⟨x,rfl⟩:=h2 0 a rfl;obtain⟨y,rfl⟩:=h2 1 b rfl;obtain⟨z,u,rfl⟩:=h2 2 c rfl;exact⟨⟨x,y,z,u⟩,trivial,rfl⟩)
theorem Ae:Opens Tryz.prog 37 (λl=>∃ xs:List Piece,l=[.sl (xs.map I7)]):=
 (Opens.sliceOf Tryz.underlying37 (sz:=4) (by kernel_rfl) (by decide) (λ_=>rfl) zO).mono (by rintro l ⟨xs,_,h⟩;exact⟨xs,h⟩)
def Fm:Nat->List IC->Prop
 | 0=>λl=>∃ x:Prints,pP x/\l=m6 x
 | 3=>λl=>∃ x:ChLoop,True/\l=D4 x
 | 4=>λl=>∃ xs:List Piece,l=[.sl (xs.map I7)]
 | _=>λl=>∃ n:Int,l=[rI n]
theorem Ci:Rd 39 j4 (λc=>pP c.p):=(Opens.struct Tryz.underlying39 (by kernel_rfl) Fm (λi f hf=>by
 rcases i with _|_|_|_|_|i<;>simp at hf<;>subst hf
 ·exact wG
 ·exact oInt
 ·exact oInt
 ·exact wH
 ·exact Ae)).mono (by
 rintro l ⟨ls,h1,h2,rfl⟩;obtain⟨a,b,c,d,e,rfl⟩:=EO h1;obtain⟨x,hx,rfl⟩:=h2 0 a rfl;obtain⟨y,rfl⟩:=h2 1 b rfl;obtain⟨z,rfl⟩:=h2 2 c rfl;obtain⟨u,-,rfl⟩:=h2 3 d rfl;obtain⟨v,rfl⟩:=h2 4 e rfl;exact⟨⟨x,y,z,u,v⟩,hx,rfl⟩)
theorem nv {H:Type} {enc:TypeId×Value->H} {P:Program} {w:World} {base:Nat} {sp:Nat->Bool} {held:Bool} {fuel:Nat} {t:TypeId} {ps rs:Array TypeId} {va:Bool} {v:Value} {q:List MemPlace}
 (ht:P.underlying t=some (.func ps rs va)) (h:DataW.trod enc P w base sp held fuel t [v]=some (.nil,q)):v=.nilFunc:=by
 cases fuel with
 | zero=>simp[DataW.trod] at h
 | succ n=>cases v<;>simp[DataW.trod,ht] at h<;>rfl
theorem lR {P:Program} {W:World} {t e te n:Nat} {f:Field} {cs:Array Value} {fuel:Nat} {p:List MemPlace} {L:List (DataW (List UInt8))} (ht:P.underlying t=some (.array n e)) (hte:P.underlying e=some (.struct #[f])) (hf0:f.offset=0) (hft:f.type=te) (hce:P.cellsOf e=1) (hcf:P.cellsOf te=1)
 (h:DataW.trod (funcToken P) P W 0 (λ_=>true) true fuel t cs.toList=some (.agg L,p)) (j:Nat) (hj:j<n):∃ (c:Value) (m2:Nat) (y:DataW (List UInt8)×List MemPlace),cs[j]?=some c/\L[j]?=some (.agg [y.1])/\DataW.trod (funcToken P) P W 0 (λ_=>true) true m2 te [c]=some (y.1,y.2):=by
 obtain⟨xs,m,_,ex,hlen,hxl,hel⟩:=DataW.trod_array ht h;have hE:=hel j hj;rw[hce,Nat.mul_one] at hE;have hx:xs[j]?=some xs[j]:=by simp[hxl,hj]
 rw[hx] at hE;obtain⟨ys,m2,_,ey,hlen2,hyl,hel2⟩:=DataW.trod_struct hte hE;have hE2:=hel2 0 f rfl;have hyl1:ys.length=1:=by simpa using hyl
 obtain⟨y,rfl⟩:=List.length_eq_one_iff.1 hyl1;rw[hf0,hft,hcf] at hE2;have hcl:j<cs.size:=by
  rcases Nat.lt_or_ge j cs.size with h1|h1
  ·exact h1
  ·simp[hce] at hlen2;omega
 have hc1:((cs.toList.drop j).take 1)=[cs[j]]:=by
  rw[List.drop_eq_getElem_cons (by simpa using hcl)];simp
 rw[hc1] at hE2;simp only[List.drop_zero,List.take_succ_cons,List.getElem?_cons_zero,List.take_nil] at hE2;have e1:(xs.map (·.1))[j]?=L[j]?:=by rw[(DataW.agg.inj (Prod.mk.inj ex).1)]
 rw[List.getElem?_map,hx,ey] at e1;exact⟨cs[j],_,y,Array.getElem?_eq_getElem hcl,by rw[<- e1];rfl,hE2⟩
theorem BG {P:Program} {W:World} {t e te:Nat} {f:Field} {ps rs:Array TypeId} {cs:Array Value} {fuel:Nat} {p:List MemPlace} {b1 b2 b3:UInt8} {r1 r2 r3:List UInt8} {f1 f2 f3:FuncId} (ht:P.underlying t=some (.array 4 e)) (hte:P.underlying e=some (.struct #[f])) (hf0:f.offset=0) (hft:f.type=te) (hu:P.underlying te=some (.func ps rs false)) (hce:P.cellsOf e=1) (hcf:P.cellsOf te=1)
 (h1:((List.range P.funcs.size).filter λf=>(P.funcs[f]?).any (·.name.toUTF8.data.toList==b1 :: r1))=[f1]) (h2:((List.range P.funcs.size).filter λf=>(P.funcs[f]?).any (·.name.toUTF8.data.toList==b2 :: r2))=[f2]) (h3:((List.range P.funcs.size).filter λf=>(P.funcs[f]?).any (·.name.toUTF8.data.toList==b3 :: r3))=[f3])
 (h:DataW.trod (funcToken P) P W 0 (λ_=>true) true fuel t cs.toList=some (.agg [.agg [.nil],.agg [.held (b1 :: r1)],.agg [.held (b2 :: r2)],.agg [.held (b3 :: r3)]],p)):∀ (j:Nat) (v:Value),[Value.nilFunc,.func (.func f1) #[] #[],.func (.func f2) #[] #[],.func (.func f3) #[] #[]][j]?=some v->cs[j]?=some v:=by
 have get:=lR ht hte hf0 hft hce hcf h;obtain⟨c0,m0,y0,a0,e0,t0⟩:=get 0 (by omega);obtain⟨c1,m1,y1,a1,e1,t1⟩:=get 1 (by omega);obtain⟨c2,m2,y2,a2,e2,t2⟩:=get 2 (by omega);obtain⟨c3,m3,y3,a3,e3,t3⟩:=get 3 (by omega);simp at e0 e1 e2 e3;rw[<- e0] at t0;rw[<- e1] at t1;rw[<- e2] at t2;rw[<- e3] at t3;intro j v hj;rcases j with _|_|_|_|j
 ·simp at hj;subst hj;rw[a0,nv hu t0]
 ·simp at hj;subst hj;rw[a1,func_of_trod (f0:=f1) (q:=y1.2) hu h1 t1]
 ·simp at hj;subst hj;rw[a2,func_of_trod (f0:=f2) (q:=y2.2) hu h2 t2]
 ·simp at hj;subst hj;rw[a3,func_of_trod (f0:=f3) (q:=y3.2) hu h3 t3]
 ·simp at hj
theorem Du {W:World} {g:Nat} {f1 f2 f3:FuncId} (h:∀ (j:Nat) (v:Value),[Value.nilFunc,.func (.func f1) #[] #[],.func (.func f2) #[] #[],.func (.func f3) #[] #[]][j]?=some v->W.cell? ⟨g,j,.none⟩=some v):RepI W (uc W) (.ip [.raw .nilFunc,.fn (.func f1) [],.fn (.func f2) [],.fn (.func f3) []]) (.pointer (some ⟨g,0,.none⟩)):=by
 have hb:g<W.heap.size:=U6 (a:=⟨g,0,.none⟩) (h 0 _ rfl);refine .ip _ _ (λj=>([Value.nilFunc,.func (.func f1) #[] #[],.func (.func f2) #[] #[],.func (.func f3) #[] #[]][j]?).getD undef) rfl hb (λj c hj=>?_) (λj c hj=>?_)
 ·have hl:=e7 hj;have hl':j < [Value.nilFunc,.func (.func f1) #[] #[],.func (.func f2) #[] #[],.func (.func f3) #[] #[]].length:=hl;have hv:=List.getElem?_eq_getElem hl';rw[hv,Option.getD_some];simpa using h j _ hv
 ·have hl:=e7 hj;have hl':j<4:=hl;have hfn:∀ f,RepI W (uc W) (.fn (.func f) []) (.func (.func f) #[] #[]):=λf=>RepI.fn (w:=W) (ok:=uc W) (.func f) [] #[] rfl (λj c v h=>by simp at h);rcases j with _|_|_|_|j<;>first|omega|(simp at hj ⊢;subst hj;first|exact hfn _|exact .raw _ rfl)
theorem iB {P:Program} {W:World} {n:String} {t e:Nat} {a b:Bool} (ht:P.underlying t=some (.array 2 e)) (he:P.underlying e=some .bool) (hct:P.cellsOf t=2) (hce:P.cellsOf e=1) (htg:∀ g,P.globalNamed n=some g->(P.globals[g]?).map (·.type)=some t) (h:laidMetH P [(n,.agg [.lit (.bool a),.lit (.bool b)])] W):∃ cs,W.var? P n=some cs/\∀ (j:Nat) (v:Value),[Value.bool a,.bool b][j]?=some v->cs[j]?=some v:=by
 have h1:laidMet P [(n,.agg [.lit (.bool a),.lit (.bool b)])] W:=h;obtain⟨ps,hL,_,_⟩:=h1;obtain⟨g,t',cs,fuel,p,q,hg,ht',hv,hd,_,_⟩:=hL;have:=htg g hg;rw[this] at ht';cases ht';obtain⟨xs,m,_,ex,hlen,hxl,hel⟩:=DataW.trod_array ht hd;rw[hct] at hlen;obtain⟨v0,v1,hvs⟩:∃ v0 v1,cs.toList=[v0,v1]:=by
  match hc:cs.toList,hlen with
  | [v0,v1],_=>exact⟨v0,v1,rfl⟩
 obtain⟨x0,x1,rfl⟩:∃ x0 x1,xs=[x0,x1]:=by
  match xs,hxl with
  | [x0,x1],_=>exact⟨x0,x1,rfl⟩
 have ex1:=(Prod.mk.inj ex).1;simp only[List.map_cons,List.map_nil,DataW.agg.injEq,List.cons.injEq,and_true] at ex1;have e0:=hel 0 (by omega);have e1:=hel 1 (by omega);rw[hce,hvs] at e0 e1;simp only[Nat.zero_mul,Nat.one_mul,List.drop_zero,List.drop_succ_cons,List.take_succ_cons,List.take_zero,List.getElem?_cons_zero,List.getElem?_cons_succ] at e0 e1;obtain⟨b0,k0,l0⟩:=DataW.trod_bool he e0;obtain⟨b1,k1,l1⟩:=DataW.trod_bool he e1;simp only[List.cons.injEq,and_true] at k0 k1;rw[l0,l1] at ex1;obtain⟨q0,q1⟩:=ex1;simp only[DataW.lit.injEq,Lit.bool.injEq] at q0 q1;refine⟨cs,hv,λj v hj=>?_⟩;rw[<- Array.getElem?_toList,hvs,k0,k1,<- q0,<- q1];exact hj
theorem no {W:World} {g:Nat} {a b:Bool} (h:∀ (j:Nat) (v:Value),[Value.bool a,.bool b][j]?=some v->W.cell? ⟨g,j,.none⟩=some v):RepI W (uc W) (.ip [.raw (.bool a),.raw (.bool b)]) (.pointer (some ⟨g,0,.none⟩)):=by
 have hb:g<W.heap.size:=U6 (a:=⟨g,0,.none⟩) (h 0 _ rfl);refine .ip _ _ (λj=>([Value.bool a,.bool b][j]?).getD undef) rfl hb (λj c hj=>?_) (λj c hj=>?_)
 ·have hl:=e7 hj;have hl':j < [Value.bool a,.bool b].length:=hl;have hv:=List.getElem?_eq_getElem hl';rw[hv,Option.getD_some];simpa using h j _ hv
 ·have hl:=e7 hj;have hl':j<2:=hl;rcases j with _|_|j<;>first|omega|(simp at hj ⊢;subst hj;exact .raw _ rfl)
end Go.Proofs
namespace Go.Ab
open Go
abbrev N8:=Bool×Bool
def D3 (f:N8):List IC:=[.raw (.bool f.1),.raw (.bool f.2)]
def lN (f:N8):DV:=.agg ((D3 f).map .im)
structure Desk where
 c:Case
 notes:Bool
 faults:List (List N8)
def J6 (l:List N8):List IC:=[.sl (l.map D3)]
def aC (d:Desk):List IC:=j4 d.c++[.raw (.bool d.notes),.sl (d.faults.map J6)]
def dm (d:Desk):IC:=.ip (aC d)
attribute [simp] D3 lN J6
def am (L:List N8) (so:Bool) (f:N8):List N8:=if so=true/\f∉L then L++[f] else L
end Go.Ab
namespace Go.Proofs
open Go Go.Ab
variable {G:Hn}
@[simp] abbrev Ke:List Nat:=[0,1,3,4,5,7,8,9,16]
theorem mB (l:List N8) (n:N8) (hl:l.length<1000000):zP Tryz.prog G 159 [.one (.im (.sl (l.map D3))),lN n] (iv (I5 (λx=>decide (n=x)) l)):=by
 refine zf Tryz.func159 Tryz.ntmps159 ?_;try simp only[iv]
 simp only[lN,D3,List.map_cons,List.map_nil];have hs:=trivial;repeat' first|with_reducible refine zz ?_|with_reducible refine zE Ke ?_;try simp -dsimp[hs]
 all_goals try simp -dsimp[hs]
 refine g9 (ι:={ k:Nat // k<=l.length/\∀ (j:Nat) (x:N8),j<k->l[j]?=some x->decide (n=x)=false }) (λi=>⟨19,[(0,.one (.im (.sl (l.map D3)))),(3,.one (.ptr 0 0)),(7,iv (l.length:Int)),(8,iv (i.1:Int))],[.row [.im (.raw (.bool n.1)),.im (.raw (.bool n.2))]]⟩) (λi=>l.length-i.1) ⟨0,by simp⟩ (zv [0,3,7,8]) ?_;rintro⟨i,hi,hno⟩;simp only[iv];by_cases hlt:i<l.length
 ·have hx0:l[i]?=some l[i]:=by simp[hlt]
  have hw:=zk i;generalize hx:l[i]=x at *;obtain⟨n1,n2⟩:=n;obtain⟨x1,x2⟩:=x;have hs:True:=trivial;by_cases hq:(n1,n2)=(x1,x2)
  ·obtain⟨rfl,rfl⟩:=Prod.mk.inj hq;have hs:=za hx (za hw hlt);repeat' first|(with_reducible first|refine zz ?_|refine zr ?_)|(first|refine zM 4 19 6 Ke ?_|with_reducible refine zE Ke ?_);try simp -dsimp[hs]|refine i7 ?_ ?_<;>intro h<;>try exact h.elim
   all_goals try simp -dsimp[hs]
   all_goals exact(I4 hx0 (by simp) hno).symm
  ·have hst:∀ (j:Nat) (y:N8),j<i+1->l[j]?=some y->decide ((n1,n2)=y)=false:=λj y hj hjx=>by
    by_cases e:j=i
    ·subst e;rw[hx0] at hjx;cases hjx;exact decide_eq_false hq
    ·exact hno j y (by omega) hjx
   have hb:((n1==x1)&&((n2==x2)&&true))=false:=by
    cases n1<;>cases n2<;>cases x1<;>cases x2<;>simp_all
   cases n1<;>cases n2<;>cases x1<;>cases x2
   all_goals first
    | exact absurd rfl hq
    | skip
   all_goals
    have hs:=za hx (za hw hlt);repeat' first|with_reducible refine zz ?_|(first|refine zM 4 19 6 Ke ?_|with_reducible refine zE Ke ?_);try simp -dsimp[hs]|refine i7 ?_ ?_<;>intro h<;>try exact h.elim
    all_goals try simp -dsimp[hs]
   all_goals exact zn ⟨i+1,by omega,hst⟩ (zv [0,3,7,8])
 ·have hs:=hlt;repeat' first|(with_reducible first|refine zz ?_|refine zr ?_)|with_reducible refine zE Ke ?_;try simp -dsimp[hs]|refine i7 ?_ ?_<;>intro h<;>try exact h.elim
  all_goals try simp -dsimp[hs]
  exact(Q4 λj x hjx=>hno j x (by have:=e7 hjx;omega) hjx).symm
theorem gI (l:List N8) (n:N8) (hl:l.length<1000000):zP Tryz.prog G 107 [.one (.im (.sl (l.map D3))),lN n] (bv (decide (n∈l))):=by
 refine zf Tryz.func107 Tryz.ntmps107 ?_;try simp only[iv]
 have hc:=mB (G:=G) l n hl;simp only[lN,D3,List.map_cons,List.map_nil] at hc ⊢;repeat' first|(with_reducible first|refine zz ?_|refine zx ?_)|(first|refine zp hc ?_|with_reducible refine zE [0,1,3,4] ?_);try simp -dsimp
 all_goals try simp -dsimp
 have h1:=w9 (λx=>decide (n=x)) l;rw[<- decide_eq_true_iff (p:=0<=_),h1];simp
theorem yI (L:List N8) (g sz:Nat) (nl so:Bool) (f:N8) (hl:L.length<1000) (hz:sz=2\/nl=true):DCall Tryz.prog G 106 (bv so :: lN f :: [DC.ptr 0 0].map .one) [.row [.vec 1 g 0 L.length],.vec sz (l8 (L.map D3)) g nl] (λd o=>∃ i:Nat×Nat×Bool,(i.2.1=2\/i.2.2=true)/\d=.tup []/\o=[.row [.vec 1 i.1 0 (am L so f).length],.vec i.2.1 (l8 ((am L so f).map D3)) i.1 i.2.2]):=by
 refine DCall.drop ?_;refine i8 Tryz.func106 rfl Tryz.ntmps106 (by simp) rfl ?_;have c1:=gI (G:=G) L f (by omega);simp only[lN,D3,List.map_cons,List.map_nil,bv] at c1 ⊢;have htk:List.take L.length (l8 (L.map D3))=l8 (L.map D3):=List.take_of_length_le (by simp[l8]);have hs:True:=trivial;cases so
 ·have hs:=trivial;repeat' first|(with_reducible first|refine zz ?_|refine ze ?_)|with_reducible refine zE [0,1,2,4,11] ?_;try simp -dsimp[hs]|refine i7 ?_ ?_<;>intro h<;>try exact h.elim
  all_goals try simp -dsimp[hs]
  all_goals rw[show am L false f=L by simp[am]]
  all_goals rcases hz with h|h
  all_goals first
   | exact⟨g,sz,.inl ⟨h,⟨rfl,rfl⟩,rfl,rfl,rfl⟩⟩
   | exact⟨g,sz,.inr ⟨⟨rfl,rfl⟩,rfl,rfl,rfl,h⟩⟩
 ·by_cases hf:f∈L
  ·rw[decide_eq_true hf] at c1;have hs:=htk;repeat' first|(with_reducible first|refine zz ?_|refine ze ?_)|refine zt c1 ?_ ?_ ?_;(focus simp;done);(focus simp;done);try simp -dsimp[hs]|with_reducible refine zE [0,1,2,4,11] ?_;try simp -dsimp[hs]|refine i7 ?_ ?_<;>intro h<;>try exact h.elim
   all_goals try simp -dsimp[hs]
   all_goals rw[show am L true f=L by simp[am,hf]]
   all_goals rcases hz with h|h
   all_goals first
    | exact⟨g,sz,.inl ⟨h,⟨rfl,rfl⟩,rfl,rfl,rfl⟩⟩
    | exact⟨g,sz,.inr ⟨⟨rfl,rfl⟩,rfl,rfl,rfl,h⟩⟩
  ·rw[decide_eq_false hf] at c1;have hE:am L true f=L++[f]:=by unfold am;rw[if_pos ⟨rfl,hf⟩]
   have hs:=za htk hz;repeat' first|(with_reducible first|refine zz ?_|refine And.intro (by omega) ?_|refine ze ?_)|refine zt c1 ?_ ?_ ?_;(focus simp;done);(focus simp;done);try simp -dsimp[hs]|with_reducible refine zE [0,1,2,4,11] ?_;try simp -dsimp[hs]|refine i7 ?_ ?_<;>intro h<;>try exact h.elim
   all_goals try simp -dsimp[hs]
   all_goals simp[hE,l8]
end Go.Proofs
namespace Go.Ab
open Go
structure Susp where
 kind:Int
 index:Int
 deriving DecidableEq
def j9 (s:Susp):List IC:=[.raw (.int .u8 s.kind),rI s.index]
def Y9 (s:Susp):DV:=.agg ((j9 s).map .im)
def s7 (l:List Susp):DV:=.one (.im (.sl (l.map j9)))
attribute [simp] j9 Y9 s7
def aB (d:Desk):List IC:=[dm d]
def rC (d:Desk):DV:=.one (.im (dm d))
def jr (l:List Desk):DV:=.one (.im (.sl (l.map aB)))
attribute [simp] aB rC jr
def iR (n:Nat) (s:Susp):Prop:=s.kind=1\/((s.kind=2\/s.kind=3)/\0<=s.index/\s.index<n)
end Go.Ab
namespace Go.Proofs
open Go Go.Ab
variable {G:Hn}
@[simp] abbrev Ld:List Nat:=[0,1,4,5,7,8,9,16]
theorem AA (l:List N8) (p:N8->Bool) (k:Nat) (caps:List DC) (objs:List DObj) (hok:D9 Tryz.prog k) (hf:∀ x∈l,DCall Tryz.prog G k (lN x :: caps.map .one) objs (λd o=>d=bv (p x)/\o=objs)) (hl:l.length<1000000):DCall Tryz.prog G 314 [.one (.im (.sl (l.map D3))),.one (.fn (.func k) caps)] objs (λd o=>d=iv (I5 p l)/\o=objs):=by
 refine i8 Tryz.func314 rfl Tryz.ntmps314 (by simp) rfl ?_;have hs:=trivial;repeat' first|(with_reducible first|refine zz ?_|refine zE Ld ?_)|simp -dsimp[hs]
 refine g9 (ι:={ k:Nat // k<=l.length/\∀ j x,j<k->l[j]?=some x->p x=false }) (λi=>⟨19,[(0,.one (.im (.sl (l.map D3)))),(1,.one (.fn (.func k) caps)),(7,iv (l.length:Int)),(8,iv (i.1:Int))],objs⟩) (λi=>l.length-i.1) ⟨0,by simp⟩ (zv [0,1,7,8]) ?_;rintro⟨i,hi,hno⟩;simp only[iv];by_cases hlt:i<l.length
 ·have hx:l[i]?=some l[i]:=by simp[hlt]
  have hw:=zk i;have hc:=hf l[i] (by simp);simp only[lN,D3,List.map_cons,List.map_nil,bv,rI] at hc;have hs:=za hx (za hw hok);repeat' first|(with_reducible first|refine zz ?_|refine And.intro (by omega) ?_|refine zr ?_|refine zE Ld ?_)|simp -dsimp[hs]|refine CallE.here hc ?_|refine i7 ?_ ?_<;>intro h<;>try exact h.elim|with_reducible refine And.intro ?_ ?_
  all_goals try omega
  ·exact(I4 hx (by assumption) hno).symm
  ·exact At.round ⟨i+1,by omega,λj x hj hjx=>by
    by_cases e:j=i
    ·subst e;rw[hx] at hjx;cases hjx;assumption
    ·exact hno j x (by omega) hjx⟩ (by simp;omega) (zv [0,1,7,8])
 ·have hs:=trivial;repeat' first|(with_reducible first|refine zz ?_|refine zr ?_|refine zE Ld ?_)|simp -dsimp[hs]|refine i7 ?_ ?_<;>intro h<;>try exact h.elim|with_reducible refine And.intro ?_ ?_
  all_goals try omega
  exact(Q4 λj x hjx=>hno j x (by have:=e7 hjx;omega) hjx).symm
theorem nD (l:List Desk) (p:Desk->Bool) (k:Nat) (caps:List DC) (objs:List DObj) (hok:D9 Tryz.prog k) (hf:∀ x∈l,DCall Tryz.prog G k (rC x :: caps.map .one) objs (λd o=>d=bv (p x)/\o=objs)) (hl:l.length<1000000):DCall Tryz.prog G 109 [.one (.im (.sl (l.map aB))),.one (.fn (.func k) caps)] objs (λd o=>d=iv (I5 p l)/\o=objs):=by
 refine i8 Tryz.func109 rfl Tryz.ntmps109 (by simp) rfl ?_;have hs:=trivial;repeat' first|(with_reducible first|refine zz ?_|refine zE Ld ?_)|simp -dsimp[hs]
 refine g9 (ι:={ k:Nat // k<=l.length/\∀ j x,j<k->l[j]?=some x->p x=false }) (λi=>⟨19,[(0,.one (.im (.sl (l.map aB)))),(1,.one (.fn (.func k) caps)),(7,iv (l.length:Int)),(8,iv (i.1:Int))],objs⟩) (λi=>l.length-i.1) ⟨0,by simp⟩ (zv [0,1,7,8]) ?_;rintro⟨i,hi,hno⟩;simp only[iv];by_cases hlt:i<l.length
 ·have hx:l[i]?=some l[i]:=by simp[hlt]
  have hw:=zk i;have hc:=hf l[i] (by simp);simp only[rC,List.map_cons,List.map_nil,bv,rI] at hc;have hs:=za hx (za hw hok);repeat' first|(with_reducible first|refine zz ?_|refine And.intro (by omega) ?_|refine zr ?_|refine zE Ld ?_)|simp -dsimp[hs]|refine CallE.here hc ?_|refine i7 ?_ ?_<;>intro h<;>try exact h.elim|with_reducible refine And.intro ?_ ?_
  all_goals try omega
  ·exact(I4 hx (by assumption) hno).symm
  ·exact At.round ⟨i+1,by omega,λj x hj hjx=>by
    by_cases e:j=i
    ·subst e;rw[hx] at hjx;cases hjx;assumption
    ·exact hno j x (by omega) hjx⟩ (by simp;omega) (zv [0,1,7,8])
 ·have hs:=trivial;repeat' first|(with_reducible first|refine zz ?_|refine zr ?_|refine zE Ld ?_)|simp -dsimp[hs]|refine i7 ?_ ?_<;>intro h<;>try exact h.elim|with_reducible refine And.intro ?_ ?_
  all_goals try omega
  exact(Q4 λj x hjx=>hno j x (by have:=e7 hjx;omega) hjx).symm
theorem js (l:List Desk) (p:Desk->Bool) (k:Nat) (caps:List DC) (objs:List DObj) (hok:D9 Tryz.prog k) (hf:∀ x∈l,DCall Tryz.prog G k (rC x :: caps.map .one) objs (λd o=>d=bv (p x)/\o=objs)) (hl:l.length<1000000):DCall Tryz.prog G 62 [.one (.im (.sl (l.map aB))),.one (.fn (.func k) caps)] objs (λd o=>d=bv (l.any p)/\o=objs):=by
 refine i8 Tryz.func62 rfl Tryz.ntmps62 (by simp) rfl ?_;have hc:=nD l p k caps objs hok hf hl;repeat' first|(with_reducible first|refine zz ?_|refine zx ?_|refine zE [0,1,4] ?_)|simp -dsimp|refine CallE.here hc ?_|with_reducible refine And.intro ?_ ?_
 simp[w9]
structure DkOk (n:Nat) (d:Desk):Prop where
 n:d.faults.length=n
 l:∀ x∈d.faults,x.length<1000000
end Go.Proofs
namespace Go.Proofs
open Go Go.Ab
def DP:Nat->List IC->Prop
 | 0=>λl=>∃ n:Int,(0<=n/\n<=255)/\l=[.raw (.int .u8 n)]
 | _=>λl=>∃ n:Int,l=[rI n]
theorem FG:Rd 54 j9 (λs=>0<=s.kind/\s.kind<=255):=(Opens.struct Tryz.underlying54 (by kernel_rfl) DP (λi f hf=>by
 rcases i with _|_|i<;>simp at hf<;>subst hf
 ·exact En
 ·exact oInt)).mono (by
 rintro l ⟨ls,h1,h2,rfl⟩;obtain⟨a,b,rfl⟩:=uq h1;obtain⟨x,hx,rfl⟩:=h2 0 a rfl;obtain⟨y,rfl⟩:=h2 1 b rfl;exact⟨⟨x,y⟩,hx,rfl⟩)
open Go Go.Ab Tryz
variable {G:Hn}
def sF (c:Case) (y:Link) (lt:Int):Option Dim:=(o2 c.p.n.reg y.drawing lt).bind λx=>x.dims[y.dim.toNat]?
@[simp] abbrev Kf:List Nat:=[0,1,2,3,6,7,8,9,10,38]
theorem Bc (c:Case) (k:Nat) (y:Link) (lt:Int) (hy0:c.loop.links[k]?=some y) (hd:0<=y.dim) (h0:j8 c.p.n.reg=0) (hG:s9 G) (hk:KC c):zP prog G 82 [n7 c,iv (k:Int),iv lt] (.tup [iF ((sF c y lt).getD vV),bv (sF c y lt).isSome]):=by
 refine zf func82 ntmps82 ?_;try simp only[iv,iv]
 have hlt:k<c.loop.links.length:=e7 hy0;have hy:c.loop.links[k]=y:=(List.getElem?_eq_some_iff.1 hy0).2;have c1:=Bg (G:=G) c.p.n.reg y.drawing lt hG hk.p.n.1;obtain⟨j,hj⟩:=Int.eq_ofNat_of_zero_le hd;simp only[A6,B1] at c1;unfold sF;unfold atR zd at c1;rw[if_pos h0,if_neg (by simp[h0])] at c1;have hdn:y.dim.toNat=j:=by rw[hj];simp
 cases hfi:o2 c.p.n.reg y.drawing lt with
 | none =>
   rw[hfi] at c1;simp only[Option.isSome_none,Option.getD_none,Bool.false_eq_true,if_false,J1] at c1;have hs:=za hy hlt;repeat' first|(with_reducible first|refine zz ?_|refine zr ?_|refine zE Kf ?_)|simp -dsimp[hs]|refine zp c1 ?_|refine i7 ?_ ?_<;>intro h<;>try exact h.elim
   all_goals exact⟨rfl,rfl,rfl⟩
 | some x =>
   rw[hfi] at c1;simp only[Option.isSome_some,Option.getD_some,if_true] at c1;simp only[Option.bind_some,hdn];by_cases hx:j<x.dims.length
   ·have hx1:x.dims[j]?=some x.dims[j]:=by simp[hx]
    have hxi:¬ ((x.dims.length:Int)<=(j:Int)):=by omega
    rw[hx1];generalize hz:x.dims[j]=z at *;simp only[Option.isSome_some,Option.getD_some];have hs:=za hy (za hlt (za hj (za hx (za hxi (za hz hx1)))));repeat' first|(with_reducible first|refine zz ?_|refine zr ?_|refine zE Kf ?_)|simp -dsimp[hs]|refine zp c1 ?_|refine i7 ?_ ?_<;>intro h<;>try exact h.elim
   ·have hxi:(x.dims.length:Int)<=(j:Int):=by omega
    rw[List.getElem?_eq_none (by omega)];simp only[Option.isSome_none,Option.getD_none];have hs:=za hy (za hlt (za hj hxi));repeat' first|(with_reducible first|refine zz ?_|refine zr ?_|refine zE Kf ?_)|simp -dsimp[hs]|refine zp c1 ?_|refine i7 ?_ ?_<;>intro h<;>try exact h.elim
    all_goals exact⟨rfl,rfl,rfl⟩
theorem wJ (c:Case) (k:Nat) (y:Link) (lt:Int) (hy0:c.loop.links[k]?=some y) (hd:0<=y.dim) (hk:KC c):zP prog G 116 [n7 c,iv (k:Int),iv lt] (.tup [iF ((sF c y lt).getD vV),bv (sF c y lt).isSome]):=by
 refine zf func116 ntmps116 ?_;try simp only[iv,iv]
 have hlt:k<c.loop.links.length:=e7 hy0;have hy:c.loop.links[k]=y:=(List.getElem?_eq_some_iff.1 hy0).2;have c1:=kR (G:=G) c.p.n.reg y.drawing lt (by have:=hk.p.p.l;omega);obtain⟨j,hj⟩:=Int.eq_ofNat_of_zero_le hd;simp only[A6,B1] at c1;unfold sF;have hdn:y.dim.toNat=j:=by rw[hj];simp
 cases hfi:o2 c.p.n.reg y.drawing lt with
 | none =>
   rw[hfi] at c1;simp only[Option.isSome_none,Option.getD_none,J1] at c1;have hs:=za hy hlt;repeat' first|(with_reducible first|refine zz ?_|refine zr ?_|refine zE Kf ?_)|simp -dsimp[hs]|refine zp c1 ?_|refine i7 ?_ ?_<;>intro h<;>try exact h.elim
   all_goals exact⟨rfl,rfl,rfl⟩
 | some x =>
   rw[hfi] at c1;simp only[Option.isSome_some,Option.getD_some] at c1;simp only[Option.bind_some,hdn];by_cases hx:j<x.dims.length
   ·have hx1:x.dims[j]?=some x.dims[j]:=by simp[hx]
    have hxi:¬ ((x.dims.length:Int)<=(j:Int)):=by omega
    rw[hx1];generalize hz:x.dims[j]=z at *;simp only[Option.isSome_some,Option.getD_some];have hs:=za hy (za hlt (za hj (za hx (za hxi (za hz hx1)))));repeat' first|(with_reducible first|refine zz ?_|refine zr ?_|refine zE Kf ?_)|simp -dsimp[hs]|refine zp c1 ?_|refine i7 ?_ ?_<;>intro h<;>try exact h.elim
   ·have hxi:(x.dims.length:Int)<=(j:Int):=by omega
    rw[List.getElem?_eq_none (by omega)];simp only[Option.isSome_none,Option.getD_none];have hs:=za hy (za hlt (za hj hxi));repeat' first|(with_reducible first|refine zz ?_|refine zr ?_|refine zE Kf ?_)|simp -dsimp[hs]|refine zp c1 ?_|refine i7 ?_ ?_<;>intro h<;>try exact h.elim
    all_goals exact⟨rfl,rfl,rfl⟩
theorem mR {c:Case} (h:ah c=true) {k:Nat} {y:Link} (hy:c.loop.links[k]?=some y):0<=y.dim/\y.dim<=3:=by
 have hok:=N4 h;have hlt:=e7 hy;have hlen:=hok.e;rw[L6,Bool.and_eq_true,List.all_eq_true] at h;have h3:k<(c.loop.links.zip c.pieces).length:=by rw[List.length_zip];omega
 have:=h.2 _ (List.getElem_mem h3);rw[List.getElem_zip] at this;simp only[H1,Bool.and_eq_true,decide_eq_true_eq] at this;rw[(List.getElem?_eq_some_iff.1 hy).2] at this;exact this.2.1
attribute [simp] w0 fA w5 C7 nilV Q2 ZK
def kn (c:Case) (s:List Int) (d:Int):Int:=az c.p.n.notes (E3 s [] c.machine c.p.n.notes) d
def dZ (c:Case) (s:List Int):Chains:=⟨c.p.n.reg,B7 c.p.n s c.machine,c.of,[c.loop]⟩
def lC (c:Case) (s:List Int):Bool:=!decide (u5 (dZ c s) 0=0) || !decide (C6 (dZ c s) 0=2)
def qe (c:Case) (y:Link) (x:Piece) (l:Int):Bool:=match sF c y l with
 | none=>true
 | some z=>decide (x.lo<=z.upper)&&decide (z.lower<=x.hi)
def sY (c:Case) (y:Link) (x:Piece) (l:Int):Bool:=match sF c y l with
 | none=>false
 | some z=>!ap x.lo x.hi z.lower z.upper
def F6 (c:Case) (y:Link) (x:Piece) (o:Int) (L:List N8) (l:Int):List N8:=am (am L (qe c y x l) (!decide (l=o),false)) (sY c y x l) (!decide (l=o),true)
noncomputable def W4 (c:Case) (s:List Int) (k:Nat):List N8:=match c.pieces[k]?,c.loop.links[k]? with
 | some x,some y=>(Z3 c k).foldl (F6 c y x (kn c s y.drawing)) []
 | _,_=>[]
noncomputable def m4 (c:Case) (s:List Int):Desk:=⟨c,lC c s,(List.range c.pieces.length).map (W4 c s)⟩
theorem lq (L:List N8) (so:Bool) (f:N8):(am L so f).length<=L.length+1:=by
 unfold am;split<;>simp
theorem rk (c:Case) (y:Link) (x:Piece) (o:Int) (L:List N8) (l:Int):(F6 c y x o L l).length<=L.length+2:=Nat.le_trans (lq _ _ _) (Nat.succ_le_succ (lq _ _ _))
theorem db (c:Case) (y:Link) (x:Piece) (o:Int):∀ (l:List Int) (L:List N8),(l.foldl (F6 c y x o) L).length<=L.length+2*l.length
 | [],_=>by simp
 | a :: l,L=>by
   rw[List.foldl_cons,List.length_cons];have h1:=db c y x o l (F6 c y x o L a);have h2:=rk c y x o L a;omega
theorem sX (c:Case) (y:Link) (x:Piece) (o:Int) {L:List Int} {k:Nat} (h:k<L.length):(L.take (k+1)).foldl (F6 c y x o) []=F6 c y x o ((L.take k).foldl (F6 c y x o) []) L[k]:=by
 rw[List.take_succ_eq_append_getElem h,List.foldl_append];rfl
theorem iy (c:Case) (k:Nat):(Z3 c k).length<=c.p.prints.length+1:=by
 unfold Z3;split
 ·unfold M8;split
  ·exact qi _ _ _ _
  ·simp
 ·simp
theorem iN {c:Case} (h0:j8 c.p.n.reg=0) (h:ah c=true) {k:Nat} (h1:k<c.pieces.length) (h2:k<c.loop.links.length):c.loop.links[k].drawing∈nums c.p.n.reg:=by
 rw[L6,Bool.and_eq_true,List.all_eq_true] at h;have h3:k<(c.loop.links.zip c.pieces).length:=by rw[List.length_zip];omega
 have:=h.2 _ (List.getElem_mem h3);rw[List.getElem_zip] at this;simp only[H1,Bool.and_eq_true] at this;have h4:=this.1;cases hf:o2 c.p.n.reg c.loop.links[k].drawing 1 with
 | none=>rw[hf] at h4;simp at h4
 | some z =>
   have hz:=List.find?_some hf;simp only[Bool.and_eq_true,beq_iff_eq] at hz;rw[<- hz.1];exact(C0 h0).2 z (List.mem_of_find?_eq_some hf)
@[simp] abbrev Lo:List Nat:=[0,1,2,4,5,6,8,9,10,11,13,14,16,17,19,20,21,22,71,72,73,93,94,95,96]
@[simp] abbrev Jm:List Nat:=[2,5,6,11,13,14,16,17,71,72,93,94,95]
theorem uZ (c:Case) (s:List Int) (he:A4 c=0) (ht:F4 (l4 (j7 c.p.n.notes)) s=true) (hsl:s.length<1000) (hG:s9 G) (hN:N3 G) (hS:E7 G) (hR:E9 G) (hC:W6 G) (hk:KC c):zP prog G 56 [n7 c,n9 s] (.one (.im (dm (m4 c s)))):=by
 refine zf func56 ntmps56 ?_;try simp only[n9]
 obtain⟨hp0,hcb⟩:=C1 he;obtain⟨hn0,hpb,hr0⟩:=B2 hp0;have hok:=N4 hcb;have hlen:=hok.e;have hl8:=hok.l;have hpl:=hk.p.p.q;have hmc:1<=c.machine/\c.machine<=999:=by
  rw[L6,Bool.and_eq_true] at hcb;have:=hcb.1;simp only[cq,Bool.and_eq_true,decide_eq_true_eq] at this;exact this.2.1
 have hA:w7 c.p.n s c.machine=0:=by
  unfold w7;rw[if_neg (by simp[hn0]),if_neg (by rw[ht];decide),if_pos hmc]
 have c1:=qN (G:=G) c.p.n s c.machine hG hN hS hk.p.n hsl;rw[hA,if_pos rfl,qV] at c1;have hnl:=n3 c.p.n.reg c.p.n.reg.length;have hr80:=hk.p.n.1.1;have hown:(B7 c.p.n s c.machine).length=(nums c.p.n.reg).length:=by unfold B7;rw[List.length_map]
 have hsc:T7 (dZ c s):=⟨hk.p.n.1,by show (B7 c.p.n s c.machine).length<=80;rw[hown,nums];omega,by simp[dZ],λx hx=>by simp[dZ] at hx;subst hx;omega⟩
 have c2:=tX (G:=G) (dZ c s) 0 hG hC hsc Gv;have hnb:lC c s=(!decide (u5 (dZ c s) 0=0) || !decide (C6 (dZ c s) 0=2)):=rfl;have c3:=bT (G:=G) c.p.n.reg hG hk.p.n.1;have hdr:dl c.p.n.reg=nums c.p.n.reg:=by unfold dl;rw[if_pos hr0]
 rw[hdr,hr0] at c3;have hD:m4 c s=⟨c,lC c s,(List.range c.pieces.length).map (W4 c s)⟩:=rfl;have hE:dm (m4 c s)=.ip (j4 c++[.raw (.bool (lC c s)),.sl (((List.range c.pieces.length).map (W4 c s)).map J6)]):=by rw[hD];rfl
 rw[hE];clear hD hE;have hcs:(¬ u5 (dZ c s) 0=0/\True/\lC c s=true)\/(u5 (dZ c s) 0=0/\C6 (dZ c s) 0=2/\lC c s=false)\/(u5 (dZ c s) 0=0/\¬ C6 (dZ c s) 0=2/\lC c s=true):=by
  rw[hnb];by_cases g1:u5 (dZ c s) 0=0<;>by_cases g2:C6 (dZ c s) 0=2<;>simp[g1,g2]
 have hfl:∀ k,k<c.pieces.length->∀ x y,c.pieces[k]?=some x->c.loop.links[k]?=some y->W4 c s k=(Z3 c k).foldl (F6 c y x (kn c s y.drawing)) []:=λk _ x y hx hy=>by unfold W4;rw[hx,hy]
 have hown2:∀ d,d∈nums c.p.n.reg->(B7 c.p.n s c.machine)[lb (nums c.p.n.reg) d]?=some (kn c s d):=λd hd=>by
  have h1:=(qS ((C0 hr0).1.imp λh=>Int.le_of_lt h)).1 hd;unfold B7 kn;rw[List.getElem?_map,h1];rfl
 generalize u5 (dZ c s) 0=le at *;generalize C6 (dZ c s) 0=ck at *;generalize lC c s=nb at *;simp only[iL,dZ,E4,D4,A6,l6,m7,n7,j4,List.map_cons,List.map_nil] at c1 c2 c3 ⊢;generalize B7 c.p.n s c.machine=LT at *;have hs:True:=trivial;rcases hcs with⟨g1,g2,gn⟩|⟨g1,g2,gn⟩|⟨g1,g2,gn⟩
 all_goals
  have hs:=za g1 g2;repeat' first|with_reducible refine zz ?_|simp -dsimp[hs]|refine zp c1 ?_|refine zt c2 ?_ ?_ ?_;(focus simp;done);focus (simp;done)|refine zp c3 ?_|with_reducible refine O2 (id:=1) (nt:=172) Lo rfl ?_;simp -dsimp[hs]|with_reducible refine zE Lo ?_
  all_goals try clear hs
 all_goals
  refine g9 (ι:={ q:Nat×Nat×Nat×Bool // q.1<=c.pieces.length/\(q.2.2.1=1\/q.2.2.2=true) }) (λq=>⟨172,[(2,.one (.ptr 0 0)),(5,.one (.ptr 8 0)),(6,n9 LT),(11,n9 (nums c.p.n.reg)),(71,iv (c.pieces.length:Int)),(72,iv (q.1.1:Int))],[.row ((j4 c).map .im),.vec 0 [] 0 true,.vec 0 [] 0 true,.vec 0 [] 0 true,.vec 0 [] 0 true,.vec 0 [] 0 true,.vec 0 [] 0 true,.vec q.1.2.2.1 (l8 (((List.range q.1.1).map (W4 c s)).map J6)) q.1.2.1 q.1.2.2.2,.row ((j4 c).map .im++[.im (.raw (.bool nb)),.vec 7 q.1.2.1 0 q.1.1]),.vec 0 [] 0 true,.row [.im (.sl (c.p.n.reg.map e9))]]⟩) (λq=>c.pieces.length-q.1.1) ⟨(0,0,0,true),by simp⟩ (zw [2,5,6,11,71,72] 11 (by simp[gn,l8])) ?_;clear c1 c2 g1 g2 gn;rintro⟨⟨k,g,sz,nl⟩,hk1,hz⟩;simp only at hk1 hz;simp only[iv];by_cases hlt:k<c.pieces.length
  ·have hlt2:k<c.loop.links.length:=by omega
   have hw:=zk k;have hx0:c.pieces[k]?=some c.pieces[k]:=by simp[hlt]
   have hy0:c.loop.links[k]?=some c.loop.links[k]:=by simp[hlt2]
   have hyd:=mR hcb hy0;have hFk:=hfl k hlt _ _ hx0 hy0;have hdm:c.loop.links[k].drawing∈nums c.p.n.reg:=iN hr0 hcb hlt hlt2;have hol:=hown2 _ hdm;have c4:=mS (G:=G) (nums c.p.n.reg) c.loop.links[k].drawing ((C0 hr0).1.imp λh=>Int.le_of_lt h) (by rw[nums];omega);have c5:=CJ (G:=G) c k hlt hlt2 hG hN hS hR hk;have c6:=λlt=>Bc (G:=G) c k _ lt hy0 hyd.1 hr0 hG hk;have hml:=iy c k;have hfold:=λj=>db c c.loop.links[k] c.pieces[k] (kn c s c.loop.links[k].drawing) ((Z3 c k).take j) [];generalize hx:c.pieces[k]=x at *;generalize hy:c.loop.links[k]=y at *;generalize kn c s y.drawing=o at *;generalize lb (nums c.p.n.reg) y.drawing=at0 at *;have hlo:at0<LT.length:=e7 hol;have hLo:LT[at0]=o:=(List.getElem?_eq_some_iff.1 hol).2;generalize hM:Z3 c k=M at *;simp only[n7,j4] at c5 c6;have hs:=za hx (za hy (za hlt (za hlt2 hw)));repeat' first|(with_reducible first|refine zz ?_|refine zE Lo ?_)|simp -dsimp[hs]|refine zp c4 ?_|refine zp c5 ?_|refine i7 ?_ ?_<;>intro h<;>try exact h.elim
   all_goals try clear hs
   refine g9 (ι:={ p:Nat×Nat×Nat×Bool // p.1<=M.length/\(p.2.2.1=2\/p.2.2.2=true) }) (λp=>⟨172,[(2,.one (.ptr 0 0)),(5,.one (.ptr 8 0)),(6,n9 LT),(11,n9 (nums c.p.n.reg)),(13,iv (k:Int)),(14,iv (at0:Int)),(16,.one (.ptr 12 0)),(17,.one (.fn (.func 106) [.ptr 12 0])),(71,iv (c.pieces.length:Int)),(72,iv (k:Int)),(93,n9 M),(94,iv (M.length:Int)),(95,iv (p.1.1:Int))],[.row ((j4 c).map .im),.vec 0 [] 0 true,.vec 0 [] 0 true,.vec 0 [] 0 true,.vec 0 [] 0 true,.vec 0 [] 0 true,.vec 0 [] 0 true,.vec sz (l8 (((List.range k).map (W4 c s)).map J6)) g nl,.row ((j4 c).map .im++[.im (.raw (.bool nb)),.vec 7 g 0 k]),.vec 0 [] 0 true,.row [.im (.sl (c.p.n.reg.map e9))],.vec p.1.2.2.1 (l8 (((M.take p.1.1).foldl (F6 c y x o) []).map D3)) p.1.2.1 p.1.2.2.2,.row [.vec 11 p.1.2.1 0 ((M.take p.1.1).foldl (F6 c y x o) []).length]]⟩) (λp=>M.length-p.1.1) ⟨(0,0,0,true),by simp⟩ (zv Jm (by simp[l8])) ?_;rintro⟨⟨j,g2,sz2,nl2⟩,hj,hz2⟩;simp only at hj hz2;simp only[iv,n9];by_cases hlj:j<M.length
   ·have hwj:=zk j;have hst:=sX c y x o hlj;have hfj:=hfold j;have c7:=c6 M[j];generalize hv:M[j]=v at *;generalize (M.take j).foldl (F6 c y x o) []=F at *;rw[List.length_take,List.length_nil] at hfj;have hF1:=lq F (qe c y x v) (!decide (v=o),false);have c8:=yI (G:=G) F g2 sz2 nl2 (qe c y x v) (!decide (v=o),false) (by omega) hz2;have c9:=λg sz nl hz=>yI (G:=G) (am F (qe c y x v) (!decide (v=o),false)) g sz nl (sY c y x v) (!decide (v=o),true) (by omega) hz;rw[show F6 c y x o F v=am (am F (qe c y x v) (!decide (v=o),false)) (sY c y x v) (!decide (v=o),true) from rfl] at hst;simp only[lN,D3,bv,List.map_cons,List.map_nil] at c8 c9;have hcs:(sF c y v=none/\qe c y x v=true/\sY c y x v=false)\/∃ z,sF c y v=some z/\qe c y x v=(decide (x.lo<=z.upper)&&decide (z.lower<=x.hi))/\sY c y x v=!ap x.lo x.hi z.lower z.upper:=by
     unfold qe sY;cases sF c y v with
     | none=>exact .inl ⟨rfl,rfl,rfl⟩
     | some z=>exact .inr ⟨z,rfl,rfl,rfl⟩
    generalize qe c y x v=b1 at *;generalize sY c y x v=b2 at *;rcases hcs with⟨e1,rfl,rfl⟩|⟨z,e1,e2,e3⟩
    ·rw[e1] at c7;simp only[Option.isSome_none,Option.getD_none,vV] at c7;have hs:=za hx (za hy (za hv (za hlt (za hlt2 (za hlj (za hwj (za hlo hLo)))))));repeat' first|with_reducible refine zz ?_|simp -dsimp[hs]|refine zp c7 ?_|refine CallE.embed_ex [12,11] (c8) ?_ ?_ ?_ ?_ ?_ ?_;(focus simp[D6];done);(focus simp;done);(focus simp;done);(focus simp;done);(focus refine C4 ?_;simp[D6,D5];done);intro mmA hmmA;try simp -dsimp[u7,D6,hs]|refine CallE.embed_ex [12,11] ((c9 mmA.1 mmA.2.1 mmA.2.2 hmmA)) ?_ ?_ ?_ ?_ ?_ ?_;(focus simp[D6];done);(focus simp;done);(focus simp;done);(focus simp;done);(focus refine C4 ?_;simp[D6,D5];done);intro mmB hmmB;try simp -dsimp[u7,D6,hs]|refine zM 18 172 24 Lo ?_|refine zM 19 172 18 Lo ?_|with_reducible refine zE Lo ?_|refine i7 ?_ ?_<;>intro h<;>try exact h.elim
     all_goals try clear hs
     all_goals exact zn ⟨(j+1,mmB.1,mmB.2.1,mmB.2.2),by simp only;omega,hmmB⟩ (zw Jm 13 (by simp[hst]))
    ·rw[e1] at c7;simp only[Option.isSome_some,Option.getD_some] at c7;have c10:=gk (G:=G) x.lo x.hi z.lower z.upper;generalize ap x.lo x.hi z.lower z.upper=ib at *;have hcs2:(x.lo<=z.upper/\z.lower<=x.hi/\b1=true)\/(x.lo<=z.upper/\¬ z.lower<=x.hi/\b1=false)\/(¬ x.lo<=z.upper/\True/\b1=false):=by
      by_cases q1:x.lo<=z.upper<;>by_cases q2:z.lower<=x.hi<;>simp[q1,q2,e2]
     clear e2;subst e3;simp only[B1] at c10;rcases hcs2 with⟨q1,q2,rfl⟩|⟨q1,q2,rfl⟩|⟨q1,q2,rfl⟩
     all_goals
      have hs:=za hx (za hy (za hv (za hlt (za hlt2 (za hlj (za hwj (za hlo (za hLo (za q1 q2)))))))));repeat' first|with_reducible refine zz ?_|simp -dsimp[hs]|refine zp c7 ?_|refine zq c10 ?_|refine CallE.embed_ex [12,11] (c8) ?_ ?_ ?_ ?_ ?_ ?_;(focus simp[D6];done);(focus simp;done);(focus simp;done);(focus simp;done);(focus refine C4 ?_;simp[D6,D5];done);intro mmA hmmA;try simp -dsimp[u7,D6,hs]|refine CallE.embed_ex [12,11] ((c9 mmA.1 mmA.2.1 mmA.2.2 hmmA)) ?_ ?_ ?_ ?_ ?_ ?_;(focus simp[D6];done);(focus simp;done);(focus simp;done);(focus simp;done);(focus refine C4 ?_;simp[D6,D5];done);intro mmB hmmB;try simp -dsimp[u7,D6,hs]|refine zM 18 172 24 Lo ?_|refine zM 19 172 18 Lo ?_|with_reducible refine zE Lo ?_|refine i7 ?_ ?_<;>intro h<;>try exact h.elim
      all_goals try clear hs
     all_goals exact zn ⟨(j+1,mmB.1,mmB.2.1,mmB.2.2),by simp only;omega,hmmB⟩ (zw Jm 13 (by simp[hst]))
   ·obtain rfl:j=M.length:=by omega
    simp only[List.take_length];have hfM:=hfold M.length;rw[List.take_length,List.length_nil] at hfM;have hrs:((List.range (k+1)).map (W4 c s)).map J6=((List.range k).map (W4 c s)).map J6++[[.sl ((M.foldl (F6 c y x o) []).map D3)]]:=by
     rw[List.range_succ,List.map_append,List.map_append];simp[hFk]
    have hrl:(((List.range k).map (W4 c s)).map J6).length=k:=by simp
    generalize M.foldl (F6 c y x o) []=F at *;generalize ((List.range k).map (W4 c s)).map J6=Fqs at *;have htk:List.take F.length (l8 (F.map D3))=l8 (F.map D3):=List.take_of_length_le (by simp[l8]);have htkF:List.take k (l8 Fqs)=l8 Fqs:=List.take_of_length_le (by simp[l8,hrl]);have hrs2:l8 (((List.range (k+1)).map (W4 c s)).map J6)=l8 Fqs++[[.im (.sl (F.map D3))]]:=by rw[hrs];simp[l8]
    have hrs3:=hrs2;rw[List.map_map] at hrs3;clear hrs;have hs:=za hlj (za hz (za hw hrl));repeat' first|(with_reducible first|refine zz ?_|refine And.intro (by omega) ?_)|simp -dsimp[hs]|refine ss (id:=21) (nt:=172) [0,1,2,3,4,5,6,7,8,9,10] 6 [([0,1,2,3,4],[0,1,2,4,5,6,8,9,10,11,13,14,16,17,19,20,21,22,71,72,73,93,94,95,96,165]),([0],[0,1,2,4,5,6,8,9,10,11,13,14,16,17,19,20,21,22,71,72,73,93,94,95,96,164,166])] Lo mixed rfl (by kernel_rfl) (by kernel_rfl) ?_|with_reducible refine zE Lo ?_|refine i7 ?_ ?_<;>intro h<;>try exact h.elim
    all_goals try clear hs
    all_goals exact zn ⟨(k+1,g+1,1,false),by simp only;omega,.inl rfl⟩ (zw [2,5,6,11,71,72] 11 (by simp[htk,htkF,hrs3]))
  ·obtain rfl:k=c.pieces.length:=by omega
   have hrl:(((List.range c.pieces.length).map (W4 c s)).map J6).length=c.pieces.length:=by simp
   generalize hFS:((List.range c.pieces.length).map (W4 c s)).map J6=Fqs at *;have htk:List.take c.pieces.length (l8 Fqs)=l8 Fqs:=List.take_of_length_le (by simp[l8,hrl]);have hs:=za hlt (za htk hrl);repeat' first|(with_reducible first|refine zz ?_|refine zr ?_|refine zE Lo ?_)|simp -dsimp[hs]|refine i7 ?_ ?_<;>intro h<;>try exact h.elim
   all_goals try clear hs
   all_goals rw[<- hFS]
   all_goals simp
attribute [simp] w0 fA w5 C7 nilV Q2 ZK
noncomputable def eF (c:Case) (O:List Int) (k:Nat):List Desk:=(jm O k).map (m4 c)
noncomputable def r8 (c:Case):List Desk:=(E8 (l4 (j7 c.p.n.notes))).map (m4 c)
theorem uM (c:Case) (O:List Int) (k:Nat):(eF c O k).length=k:=by simp[eF,jV]
theorem rE (c:Case) (O:List Int) (k:Nat):eF c O (k+1)=eF c O k++[m4 c (R4 O k O.length)]:=by simp[eF,lZ]
theorem rD (c:Case) (O:List Int):eF c O 0=[]:=rfl
theorem mf (N:List Int) (s:Nat):∀ k,k<=N.length->(R4 N s k).Sublist (N.take k)
 | 0,_=>by simp[R4]
 | k+1,hk=>by
   have hk':k<N.length:=hk;rw[dH,List.take_succ_eq_append_getElem hk',show N.getD k 0=N[k] by simp[hk']];refine(mf N s k (by omega)).append ?_;split
   ·exact List.Sublist.refl _
   ·exact List.nil_sublist _
theorem fM (O:List Int) (k:Nat):(R4 O k O.length).Sublist O:=by
 have:=mf O k O.length (Nat.le_refl _);rwa [List.take_length] at this
theorem jT {O t:List Int} (hO:O.Pairwise (· < ·)) (ht:t.Sublist O):F4 O t=true:=by
 refine eK λi v hv=>⟨ht.subset (List.mem_of_getElem? hv),λj u hj hu=>?_⟩
 subst hj;obtain⟨h1,h2⟩:=List.getElem?_eq_some_iff.1 hv;obtain⟨h3,h4⟩:=List.getElem?_eq_some_iff.1 hu;have:=List.pairwise_iff_getElem.1 (hO.sublist ht) j (j+1) h3 h1 (by omega);omega
theorem uY (c:Case):zP prog G 95 [n7 c] (.one (.im (.fn (.func 155) [.ip (j4 c)]))):=by
 refine zf func95 ntmps95 ?_;try simp only[iv]
 simp only[n7,j4];repeat' first|(with_reducible first|refine zz ?_|refine zx ?_|refine zE [0,1,2] ?_)|simp -dsimp
@[simp] abbrev Lu:List Nat:=[0,1,2,3,4,5,6,7,8,9,13,14,15,16,21,32,33,34,36,37,38,39,47,58]
@[simp] abbrev Jn:List Nat:=[0,1,3,6,7,32,33,36,37,38]
theorem rS (c:Case) (he:A4 c=0) (hG:s9 G) (hN:N3 G) (hS:E7 G) (hR:E9 G) (hC:W6 G) (hk:KC c):zP prog G 154 [.one (.im (.raw (.slice none 0 0))),.one (.im (.fn (.func 155) [.ip (j4 c)]))] (jr (r8 c)):=by
 refine zf func154 ntmps154 ?_;try simp only[iv]
 obtain⟨hp0,hcb⟩:=C1 he;obtain⟨hn0,hpb,hr0⟩:=B2 hp0;have hnk:=V3 hn0;have hn12:=hnk.2.1;have hO5:(l4 (j7 c.p.n.notes)).length<=5:=by rw[nB];exact hnk.2.2.2
 have hstr:=gi (cV hnk.2.2.1);have hE:r8 c=eF c (l4 (j7 c.p.n.notes)) (2 ^ (l4 (j7 c.p.n.notes)).length):=rfl;rw[hE];clear hE;have c1:=λk=>uZ (G:=G) c (R4 (l4 (j7 c.p.n.notes)) k (l4 (j7 c.p.n.notes)).length) he (jT hstr (fM _ k)) (by have:=fL (l4 (j7 c.p.n.notes)) k (l4 (j7 c.p.n.notes)).length;omega) hG hN hS hR hC hk;have hcn:j4 c=[.sl (c.p.n.reg.map e9),.sl (c.p.n.notes.map n8)]++(j4 c).drop 2:=rfl;simp only[jr];have hs:=trivial;repeat' first|(with_reducible first|refine zz ?_|refine zE [0,1,2,4,5,6,7] ?_)|simp -dsimp[hs]
 all_goals try clear hs
 refine oc (Weak.nilCell 0 0 rfl rfl) ?_;have hs:True:=trivial;all_goals try simp -dsimp[hs]
 all_goals try clear hs
 refine R2 (f:=155) (by simp;exact rfl) (by rfl) call155 ?_;generalize hR:LoopD.mk _ _ _ _ _ _ _=R;have hR1:R.st=.ready:=by rw[<- hR]
 have hR2:R.pend=none:=by rw[<- hR]
 have hR3:R.at .ready none=R:=by rw[<- hR];rfl
 have hR4:=(congrArg LoopD.nt hR).symm;have hR5:=(congrArg LoopD.tm hR).symm;have hR6:=(congrArg LoopD.ps hR).symm;have hR7:=(congrArg LoopD.asg hR).symm;have hR8:=(congrArg LoopD.body hR).symm;dsimp only at hR4 hR5 hR6 hR7 hR8;clear hR;refine i8 func155 rfl ntmps155 (by simp) rfl ?_;have hR10:∀ objs:List DObj,(R.tm.map λx=>(x.1,fB 4 objs x.2))=R.tm:=by intro objs;rw[hR5];simp
 have hR9:∀ objs:List DObj,(R.tm.map λx=>(x.1,fB 5 objs x.2))=R.tm:=by intro objs;rw[hR5];simp
 have hs:=za hR1 (za hR2 hR3);repeat' first|(with_reducible first|refine zz ?_|refine zE Lu ?_)|simp -dsimp[hs]
 all_goals try clear hs
 refine g9 (ι:={ p:Nat×Nat×Nat×Bool // p.1<=c.p.n.notes.length/\(p.2.2.1=1\/p.2.2.2=true/\j7 (c.p.n.notes.take p.1)=[]) }) (λp=>⟨60,[(0,.one (.yld 3)),(1,.one (.im (.ip (j4 c)))),(3,.one (.vec 4 p.1.2.1 0 (j7 (c.p.n.notes.take p.1.1)).length)),(13,.one (.im (.sl (c.p.n.notes.map n8)))),(14,iv (c.p.n.notes.length:Int)),(15,iv (p.1.1:Int))],[.row [.vec 2 0 0 0],.vec 1 [] 0 true,.vec 0 [] 0 true,.loop R,.vec p.1.2.2.1 (l8 ((j7 (c.p.n.notes.take p.1.1)).map Ab.encI)) p.1.2.1 p.1.2.2.2]⟩) (λp=>c.p.n.notes.length-p.1.1) ⟨(0,0,1,true),by simp[j7]⟩ (zv [0,1,3,13,14,15] (by simp[j7,l8])) ?_;rintro⟨⟨k,g,sz,nl⟩,hk,hz⟩;simp only at hk hz;simp only[iv];have hz':sz=1\/nl=true:=hz.imp id And.left;by_cases hlt:k<c.p.n.notes.length
 ·have hx0:c.p.n.notes[k]?=some c.p.n.notes[k]:=by simp[hlt]
  have hw:=zk k;have hos:=bN c.p.n.notes k hlt;have hol:=Y7 (c.p.n.notes.take k);rw[List.length_take] at hol;generalize hx:c.p.n.notes[k]=x at *;by_cases hsg:x.signed=1
  ·rw[if_pos hsg] at hos;have hs:=za hR1 (za hR2 (za hR3 (za hx (za hlt (za hsg (za hw hz'))))));repeat' first|(with_reducible first|refine zz ?_|refine And.intro (by omega) ?_|refine zE Lu ?_)|simp -dsimp[hs]|refine i7 ?_ ?_<;>intro h<;>try exact h.elim
   all_goals try clear hs
   exact zn ⟨(k+1,g+1,1,false),by omega,.inl rfl⟩ (zw [0,1,3,13,14,15] 5 (by clear hR4 hR5 hR6 hR7 hR8;simp[hos,hR1,hR2,hR3,hR9,LoopD.at_eta]))
  ·rw[if_neg hsg,List.append_nil] at hos;have hszn:sz=1\/nl=true/\j7 (c.p.n.notes.take (k+1))=[]:=by rw[hos];exact hz
   have hs:=za hR1 (za hR2 (za hR3 (za hx (za hlt (za hsg hw)))));repeat' first|(with_reducible first|refine zz ?_|refine zE Lu ?_)|simp -dsimp[hs]|refine i7 ?_ ?_<;>intro h<;>try exact h.elim
   all_goals try clear hs
   exact zn ⟨(k+1,g,sz,nl),by omega,hszn⟩ (zw [0,1,3,13,14,15] 5 (by clear hR4 hR5 hR6 hR7 hR8;simp[hos,hR1,hR2,hR3,hR9,LoopD.at_eta]))
 ·obtain rfl:k=c.p.n.notes.length:=by omega
  simp only[List.take_length] at hz ⊢;have hol:=Y7 c.p.n.notes;have c2:=hS (j7 c.p.n.notes) g sz nl hz (by omega);have hil:=T3 (j7 c.p.n.notes);have htk:(l8 ((l4 (j7 c.p.n.notes)).map Ab.encI)).take (j7 c.p.n.notes).length=l8 ((l4 (j7 c.p.n.notes)).map Ab.encI):=List.take_of_length_le (by simp[o3,hil]);clear hz;rw[<- hil] at c2 htk;rw[<- hil];generalize l4 (j7 c.p.n.notes)=O at *;have hPe:(2:Nat) ^ O.length<=2 ^ 5:=Nat.pow_le_pow_right (by omega) hO5;have hmin:min O.length 64=O.length:=by omega
  have hb64:IntKind.i64.bits=64:=rfl;have hlnn:¬ ((O.length:Int)<0):=by omega
  have hsh:IntKind.i64.wrap ((2:Int) ^ O.length)=((2 ^ O.length:Nat):Int):=by
   rw[show ((2:Int) ^ O.length)=((2 ^ O.length:Nat):Int) by simp];exact(λ(P:Nat) (h:P<=2 ^ 5)=>(m9 (by omega) (by omega):IntKind.i64.wrap (P:Int)=(P:Int))) _ hPe
  generalize hP:2 ^ O.length=P at *;have hs:=za hR1 (za hR2 (za hR3 (za hlt (za hmin (za hb64 (za hlnn hsh))))));repeat' first|(with_reducible first|refine zz ?_|refine zE Lu ?_)|simp -dsimp[hs]|refine CallE.embed [4] (c2) ?_ ?_ ?_ ?_ ?_ ?_;(focus simp[D6];done);(focus simp;done);(focus simp;done);(focus simp;done);(focus refine C4 ?_;simp[D6,D5];done);try simp -dsimp[u7,D6,hs]|refine i7 ?_ ?_<;>intro h<;>try exact h.elim
  all_goals try clear hs
  clear c2 hlt;refine g9 (ι:={ p:Nat×Nat×Nat×Bool // p.1<=P/\((p.2.2.1=1/\p.2.2.2=false)\/(p.2.2.1=0/\p.2.2.2=true/\p.1=0)) }) (λp=>⟨60,[(0,.one (.yld 3)),(1,.one (.im (.ip (j4 c)))),(3,n9 O),(32,iv (P:Int)),(33,iv (p.1.1:Int))],[.row [.vec 2 p.1.2.1 0 p.1.1],.vec 1 [] 0 true,.vec p.1.2.2.1 (l8 ((eF c O p.1.1).map aB)) p.1.2.1 p.1.2.2.2,.loop R]⟩) (λp=>P-p.1.1) ⟨(0,0,0,true),by simp⟩ (zw [0,1,3,32,33] 4 (by clear hR4 hR5 hR6 hR7 hR8;simp[rD,hR1,hR2,hR3,hR10,LoopD.at_eta,htk,hz'])) ?_;rintro⟨⟨k,g1,sz1,nl1⟩,hk,hz⟩;simp only at hk hz;simp only[iv,n9];have hkl:=uM c O k;by_cases hlt:k<P
  ·have hw:=zk k;have hst:=rE c O k;have hc1:=c1 k;have hz0:R4 O k 0=[]:=by simp[R4]
   generalize eF c O k=L at *;have hs:=za hR1 (za hR2 (za hR3 hlt));repeat' first|(with_reducible first|refine zz ?_|refine zE Lu ?_)|simp -dsimp[hs]|refine i7 ?_ ?_<;>intro h<;>try exact h.elim
   all_goals try clear hs
   refine g9 (ι:={ p:Nat×Nat×Bool // p.1<=O.length }) (λp=>⟨60,[(0,.one (.yld 3)),(1,.one (.im (.ip (j4 c)))),(3,n9 O),(6,iv (k:Int)),(7,.one (.vec 4 p.1.2.1 0 (R4 O k p.1.1).length)),(32,iv (P:Int)),(33,iv (k:Int)),(36,n9 O),(37,iv (O.length:Int)),(38,iv (p.1.1:Int))],[.row [.vec 2 g1 0 k],.vec 1 [] 0 true,.vec sz1 (l8 (L.map aB)) g1 nl1,.loop R,.vec 1 (l8 ((R4 O k p.1.1).map Ab.encI)) p.1.2.1 p.1.2.2]⟩) (λp=>O.length-p.1.1) ⟨(0,0,true),by simp⟩ (zv Jn (by simp[hz0,l8])) ?_;rintro⟨⟨i,g2,nl2⟩,hi⟩;simp only at hi;simp only[iv,n9];by_cases hil:i<O.length
   ·have hwi:=zk i;have hi63:min i 64=i:=by omega
    have hin:¬ ((i:Int)<0):=by omega
    have hbit:=yo k i;have hSl:=fL O k i;have hsu:R4 O k (i+1)=R4 O k i++(if k.testBit i=true then [O[i]] else []):=by
     rw[dH,show O.getD i 0=O[i] by simp[hil]]
    generalize hx:O[i]=x at *;generalize R4 O k i=S at *;cases hb:k.testBit i
    ·rw[hb] at hbit hsu;simp at hbit;rw[if_neg Bool.false_ne_true,List.append_nil] at hsu;have hs:=za hR1 (za hR2 (za hR3 (za hx (za hil (za hwi (za hin (za hi63 (za hb64 hbit))))))));repeat' first|(with_reducible first|refine zz ?_|refine zE Lu ?_)|simp -dsimp[hs]|refine i7 ?_ ?_<;>intro h<;>try exact h.elim
     all_goals try clear hs
     all_goals exact zn ⟨(i+1,g2,nl2),by simp only;omega⟩ (zw Jn 5 (by clear hR4 hR5 hR6 hR7 hR8;simp[hsu,hR1,hR2,hR3,hR9,LoopD.at_eta]))
    ·rw[hb] at hbit hsu;simp at hbit;rw[if_pos rfl] at hsu;have hs:=za hR1 (za hR2 (za hR3 (za hx (za hil (za hwi (za hin (za hi63 (za hb64 hbit))))))));repeat' first|(with_reducible first|refine zz ?_|refine And.intro (by omega) ?_|refine zE Lu ?_)|simp -dsimp[hs]|refine i7 ?_ ?_<;>intro h<;>try exact h.elim
     all_goals try clear hs
     all_goals exact zn ⟨(i+1,g2+1,false),by simp only;omega⟩ (zw Jn 5 (by clear hR4 hR5 hR6 hR7 hR8;simp[hsu,hR1,hR2,hR3,hR9,LoopD.at_eta]))
   ·obtain rfl:i=O.length:=by omega
    generalize R4 O k O.length=S at *;simp only[n7,j4] at hc1;have hSt:(l8 (S.map Ab.encI)).take S.length=l8 (S.map Ab.encI):=List.take_of_length_le (by simp[o3]);rcases hz with⟨rfl,rfl⟩|⟨rfl,rfl,rfl⟩
    ·subst hkl;have hs:=za hR1 (za hR2 (za hR3 (za hil hw)));repeat' first|(with_reducible first|refine zz ?_|refine And.intro (by omega) ?_|refine zE Lu ?_)|simp -dsimp[hs]|with_reducible refine At.yield_end ?_;simp -dsimp[hs]|refine aG ?_ ?_<;>simp -dsimp[hs]|refine P2 ?_;simp -dsimp[R1,hR4,hR5,hR6,hR7,hR8,hs]|refine CallE.freeze 4 (hc1 [.row [.vec 2 g1 0 L.length],.vec 1 [] 0 true,.vec 1 (l8 (L.map aB)) g1 false,.loop R]) ?_ ?_ ?_ ?_ ?_ ?_;(focus simp[hR10];done);(focus simp[hSt];done);(focus simp;done);(focus rfl);(focus simp;done);try simp -dsimp[w5]|refine i7 ?_ ?_<;>intro h<;>try exact h.elim
     all_goals try clear hs
     all_goals exact zn ⟨(L.length+1,g1+1,1,false),by omega,.inl ⟨rfl,rfl⟩⟩ (zw [0,1,3,32,33] 4 (by clear hR4 hR5 hR6 hR7 hR8;simp[hst,hR1,hR2,hR3,hR9,hR10,LoopD.at_eta]))
    ·obtain rfl:=List.eq_nil_of_length_eq_zero hkl;have hw1:IntKind.i64.wrap 1=1:=m9 (by omega) (by omega);have hs:=za hR1 (za hR2 (za hR3 (za hil (za hw hw1))));repeat' first|(with_reducible first|refine zz ?_|refine zE Lu ?_)|simp -dsimp[hs]|with_reducible refine At.yield_end ?_;simp -dsimp[hs]|refine aG ?_ ?_<;>simp -dsimp[hs]|refine P2 ?_;simp -dsimp[R1,hR4,hR5,hR6,hR7,hR8,hs]|refine CallE.freeze 4 (hc1 [.row [.vec 2 g1 0 0],.vec 1 [] 0 true,.vec 0 [] g1 true,.loop R]) ?_ ?_ ?_ ?_ ?_ ?_;(focus simp[hR10];done);(focus simp[hSt];done);(focus simp;done);(focus rfl);(focus simp;done);try simp -dsimp[w5]|refine i7 ?_ ?_<;>intro h<;>try exact h.elim
     all_goals try clear hs
     all_goals exact zn ⟨(1,g1+1,1,false),by omega,.inl ⟨rfl,rfl⟩⟩ (zw [0,1,3,32,33] 4 (by clear hR4 hR5 hR6 hR7 hR8;simp[hst,hw1,hR1,hR2,hR3,hR9,hR10,LoopD.at_eta]))
  ·obtain rfl:k=P:=by omega
   obtain⟨rfl,rfl⟩:=hz.resolve_right (by have:=Nat.one_le_two_pow (n:=O.length);omega);generalize eF c O k=L at *;subst hkl;have hs:=za hR1 (za hR2 (za hR3 hlt));repeat' first|(with_reducible first|refine zz ?_|refine zr ?_ (by simp -dsimp[B8,hs];exact rfl)|refine ze ?_ (by simp -dsimp[B8,hs];exact rfl)|refine zE Lu ?_)|simp -dsimp[B8,hs]|with_reducible show B8 _ _ _ _ _ _ _ _;simp -dsimp[B8,hs]|refine i7 ?_ ?_<;>intro h<;>try exact h.elim
   all_goals try clear hs
   all_goals simp
theorem pC (c:Case) (he:A4 c=0) (hG:s9 G) (hN:N3 G) (hS:E7 G) (hR:E9 G) (hC:W6 G) (hk:KC c):zP prog G 94 [.one (.im (.fn (.func 155) [.ip (j4 c)]))] (jr (r8 c)):=by
 refine zf func94 ntmps94 ?_;try simp only[iv]
 have c1:=rS (G:=G) c he hG hN hS hR hC hk;simp only[j4] at c1 ⊢;repeat' first|(with_reducible first|refine zz ?_|refine zx ?_)|simp -dsimp|refine zp c1 ?_|with_reducible refine su [0,2] ?_;simp -dsimp
noncomputable def R8 (c:Case):Int:=if A4 c≠0 then A4 c else if aA c≠0 then 101 else 0
noncomputable def tZ (c:Case):List Desk:=if R8 c=0 then r8 c else []
theorem Q9 {c:Case} (h:R8 c=0):A4 c=0/\aA c=0:=by
 unfold R8 at h;by_cases h0:A4 c=0
 ·rw[if_neg (by simp[h0])] at h;refine⟨h0,Classical.byContradiction λh1=>?_⟩;rw[if_pos h1] at h;exact absurd h (by decide)
 ·rw[if_pos h0] at h;exact absurd h h0
@[simp] abbrev Jo:List Nat:=[0,1,2,3,4,5,12,15]
theorem nU (c:Case) (hG:s9 G) (hN:N3 G) (hS:E7 G) (hR:E9 G) (hC:W6 G) (hk:KC c):zP prog G 48 [n7 c] (.tup [jr (tZ c),iv (R8 c)]):=by
 refine zf func48 ntmps48 ?_;try simp only[iv]
 have c1:=Bf (G:=G) c hG hN hS hR hk;by_cases h0:A4 c=0
 ·by_cases h1:aA c=0
  ·have hE:R8 c=0:=by unfold R8;rw[if_neg (by simp[h0]),if_neg (by simp[h1])]
   have hO:tZ c=r8 c:=by unfold tZ;rw[if_pos hE]
   have c2:=uY (G:=G) c;have c3:=pC (G:=G) c h0 hG hN hS hR hC hk;rw[hE,hO];rw[h0,h1] at c1;simp only[n7,j4,jr] at c1 c2 c3 ⊢;have hs:=trivial;repeat' first|(with_reducible first|refine zz ?_|refine zr ?_|refine zE Jo ?_)|simp -dsimp[hs]|refine zp c1 ?_|refine zp c2 ?_|refine zp c3 ?_|refine i7 ?_ ?_<;>intro h<;>try exact h.elim
  ·have hE:R8 c=101:=by unfold R8;rw[if_neg (by simp[h0]),if_pos h1]
   have hO:tZ c=[]:=by unfold tZ;rw[if_neg (by rw[hE];decide)]
   rw[hE,hO];rw[h0] at c1;simp only[n7,j4] at c1 ⊢;have hs:=h1;repeat' first|(with_reducible first|refine zz ?_|refine zr ?_|refine zE Jo ?_)|simp -dsimp[hs]|refine zp c1 ?_|refine i7 ?_ ?_<;>intro h<;>try exact h.elim
 ·have hE:R8 c=A4 c:=by unfold R8;rw[if_pos h0]
  have hO:tZ c=[]:=by unfold tZ;rw[if_neg (by rw[hE];exact h0)]
  rw[hE,hO];simp only[n7,j4] at c1 ⊢;have hs:=h0;repeat' first|(with_reducible first|refine zz ?_|refine zr ?_|refine zE Jo ?_)|simp -dsimp[hs]|refine zp c1 ?_|refine i7 ?_ ?_<;>intro h<;>try exact h.elim
theorem AM (c:Case) (s:List Int) (k:Nat):(W4 c s k).length<=2*(c.p.prints.length+1):=by
 unfold W4;have h1:=iy c k;split
 ·rename_i x y _ _;have h2:=db c y x (kn c s y.drawing) (Z3 c k) [];rw[List.length_nil] at h2;omega
 ·simp
theorem nO {c:Case} (hk:KC c) (s:List Int):DkOk c.pieces.length (m4 c s):=by
 refine⟨by simp[m4],λx hx=>?_⟩;simp only[m4,List.mem_map] at hx;obtain⟨k,_,rfl⟩:=hx;have:=AM c s k;have:=hk.p.p.q;omega
theorem bq {c:Case} (hk:KC c):∀ d∈r8 c,DkOk c.pieces.length d:=by
 intro d hd;obtain⟨s,_,rfl⟩:=List.mem_map.1 hd;exact nO hk s
theorem dW {c:Case} (h:A4 c=0):1<=(r8 c).length/\(r8 c).length<=32:=by
 obtain⟨hp0,_⟩:=C1 h;obtain⟨hn0,_,_⟩:=B2 hp0;have hO5:(l4 (j7 c.p.n.notes)).length<=5:=by rw[nB];exact(V3 hn0).2.2.2
 have hPe:(2:Nat) ^ (l4 (j7 c.p.n.notes)).length<=2 ^ 5:=Nat.pow_le_pow_right (by omega) hO5;have h1:1<=(2:Nat) ^ (l4 (j7 c.p.n.notes)).length:=Nat.one_le_two_pow;unfold r8;rw[List.length_map,cC];omega
end Go.Proofs
