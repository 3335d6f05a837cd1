/- Part 20 of the proofs. -/
import Derived.Test.YtjodaihiogfkbaaGreatDoorT08
import Derived.Test.YtjodaihiogfkbaaGreatDoorT14
import Derived.Test.YtjodaihiogfkbaaGreatDoorT15
import Derived.Test.YtjodaihiogfkbaaGreatDoorT17
import Derived.Test.YtjodaihiogfkbaaGreatDoorT18
set_option linter.all false
set_option linter.deprecated false
set_option maxHeartbeats 100000000
namespace Go.Proofs
open Go Go.Ab
theorem Hp {α:Type} {l:List α} (h:l.length=10):∃ a b c d e f g i j k,l=[a,b,c,d,e,f,g,i,j,k]:=by
 match l,h with
 | [a,b,c,d,e,f,g,i,j,k],_=>exact⟨a,b,c,d,e,f,g,i,j,k,rfl⟩
def rX (x:Note):Prop:=0≤x.ways∧x.ways≤255∧0≤x.signed∧x.signed≤255
def GU:Nat→List IC→Prop
 | 2=>fun l=>∃ n:Int,(0≤n∧n≤255)∧l=[.raw (.int .u8 n)]
 | 8=>fun l=>∃ b:Bool,l=[rB b]
 | 9=>fun l=>∃ n:Int,(0≤n∧n≤255)∧l=[.raw (.int .u8 n)]
 | _=>fun l=>∃ n:Int,l=[rI n]
theorem Ey:Rd 95 l5 rX:=(Opens.struct Tryz.underlying95 (by kernel_rfl) GU (fun i f hf=>by
 rcases i with _|_|_|_|_|_|_|_|_|_|i<;>simp at hf<;>subst hf
 ·exact oInt
 ·exact oInt
 ·exact GP
 ·exact oInt
 ·exact oInt
 ·exact oInt
 ·exact oInt
 ·exact oInt
 ·exact DP
 ·exact GP)).mono (by
 rintro l ⟨ls,h1,h2,rfl⟩
 obtain⟨a,b,c,d,e,f,g,i,j,k,rfl⟩:=Hp h1
 obtain⟨x0,rfl⟩:=h2 0 a rfl
 obtain⟨x1,rfl⟩:=h2 1 b rfl
 obtain⟨x2,k2,rfl⟩:=h2 2 c rfl
 obtain⟨x3,rfl⟩:=h2 3 d rfl
 obtain⟨x4,rfl⟩:=h2 4 e rfl
 obtain⟨x5,rfl⟩:=h2 5 f rfl
 obtain⟨x6,rfl⟩:=h2 6 g rfl
 obtain⟨x7,rfl⟩:=h2 7 i rfl
 obtain⟨x8,rfl⟩:=h2 8 j rfl
 obtain⟨x9,k9,rfl⟩:=h2 9 k rfl
 exact⟨⟨x0,x1,x2,x3,x4,x5,x6,x7,x8,x9⟩,⟨k9.1,k9.2,k2.1,k2.2⟩,rfl⟩)
theorem EL:Opens Tryz.prog 25 (fun l=>∃ xs:List Note,(∀ x∈xs,rX x)∧l=[.sl (xs.map l5)]):=
 Opens.sliceOf Tryz.underlying25 (sz:=10) (by kernel_rfl) (by decide) (fun _=>rfl) Ey
def EP:Nat→List IC→Prop
 | 0=>fun l=>∃ xs:List Issue,(∀ x∈xs,fh x)∧l=[.sl (xs.map e9)]
 | _=>fun l=>∃ xs:List Note,(∀ x∈xs,rX x)∧l=[.sl (xs.map l5)]
theorem BO:Rd 27 u5 uK:=(Opens.struct Tryz.underlying27 (by kernel_rfl) EP (fun i f hf=>by
 rcases i with _|_|i<;>simp at hf<;>subst hf
 ·exact GQ
 ·exact EL)).mono (by
 rintro l ⟨ls,h1,h2,rfl⟩
 obtain⟨a,b,rfl⟩:=vP h1
 obtain⟨x,hx,rfl⟩:=h2 0 a rfl
 obtain⟨y,hy,rfl⟩:=h2 1 b rfl
 exact⟨⟨x,y⟩,⟨hx,hy⟩,rfl⟩)
theorem JJ {α:Type} {l:List α} (h:l.length=7):∃ a b c d e f g,l=[a,b,c,d,e,f,g]:=by
 match l,h with
 | [a,b,c,d,e,f,g],_=>exact⟨a,b,c,d,e,f,g,rfl⟩
theorem IL {α:Type} {l:List α} (h:l.length=6):∃ a b c d e f,l=[a,b,c,d,e,f]:=by
 match l,h with
 | [a,b,c,d,e,f],_=>exact⟨a,b,c,d,e,f,rfl⟩
theorem GR:Opens Tryz.prog 189 (fun l=>∃ n m:Int,l=[rI n,rI m]):=(Opens.struct Tryz.underlying189 (by kernel_rfl) (fun _ l=>∃ n:Int,l=[rI n]) (fun i f hf=>by
 rcases i with _|_|i<;>simp at hf<;>subst hf<;>exact oInt)).mono (by
 rintro l ⟨ls,h1,h2,rfl⟩
 obtain⟨a,b,rfl⟩:=vP h1
 obtain⟨x,rfl⟩:=h2 0 a rfl
 obtain⟨y,rfl⟩:=h2 1 b rfl
 exact⟨x,y,rfl⟩)
def CF:Nat→List IC→Prop
 | 3=>fun l=>∃ xs:List Int,l=[.sl (xs.map Ab.encI)]
 | _=>fun l=>∃ n:Int,l=[rI n]
theorem yi:Rd 201 o6 (fun _=>True):=(Opens.struct Tryz.underlying201 (by kernel_rfl) CF (fun i f hf=>by
 rcases i with _|_|_|_|i<;>simp at hf<;>subst hf
 ·exact oInt
 ·exact oInt
 ·exact oInt
 ·exact DO)).mono (by
 rintro l ⟨ls,h1,h2,rfl⟩
 obtain⟨a,b,c,d,rfl⟩:=Ho h1
 obtain⟨x,rfl⟩:=h2 0 a rfl
 obtain⟨y,rfl⟩:=h2 1 b rfl
 obtain⟨z,rfl⟩:=h2 2 c rfl
 obtain⟨u,rfl⟩:=h2 3 d rfl
 exact⟨⟨x,y,z,u⟩,trivial,rfl⟩)
theorem yz:Opens Tryz.prog 28 (fun l=>∃ xs:List Holder,l=[.sl (xs.map o6)]):=
 (Opens.sliceOf Tryz.underlying28 (sz:=4) (by kernel_rfl) (by decide) (fun _=>rfl) yi).mono (by rintro l ⟨xs,_,h⟩;exact⟨xs,h⟩)
def EC:Nat→List IC→Prop
 | 3=>fun l=>∃ n m:Int,l=[rI n,rI m]
 | 5=>fun l=>∃ n:Int,(0≤n∧n≤255)∧l=[.raw (.int .u8 n)]
 | _=>fun l=>∃ n:Int,l=[rI n]
theorem BM:Rd 221 w8 jQ:=(Opens.struct Tryz.underlying221 (by kernel_rfl) EC (fun i f hf=>by
 rcases i with _|_|_|_|_|_|i<;>simp at hf<;>subst hf
 ·exact oInt
 ·exact oInt
 ·exact oInt
 ·exact GR
 ·exact oInt
 ·exact GP)).mono (by
 rintro l ⟨ls,h1,h2,rfl⟩
 obtain⟨a,b,c,d,e,f,rfl⟩:=IL h1
 obtain⟨x0,rfl⟩:=h2 0 a rfl
 obtain⟨x1,rfl⟩:=h2 1 b rfl
 obtain⟨x2,rfl⟩:=h2 2 c rfl
 obtain⟨x3,x4,rfl⟩:=h2 3 d rfl
 obtain⟨x5,rfl⟩:=h2 4 e rfl
 obtain⟨x6,k6,rfl⟩:=h2 5 f rfl
 exact⟨⟨x0,x1,x2,x3,x4,x5,x6⟩,k6,rfl⟩)
theorem Ca:Opens Tryz.prog 29 (fun l=>∃ xs:List Print,(∀ x∈xs,jQ x)∧l=[.sl (xs.map w8)]):=
 Opens.sliceOf Tryz.underlying29 (sz:=7) (by kernel_rfl) (by decide) (fun _=>rfl) BM
def BS:Nat→List IC→Prop
 | 0=>fun l=>∃ x:Notes,uK x∧l=u5 x
 | 1=>fun l=>∃ xs:List Holder,l=[.sl (xs.map o6)]
 | _=>fun l=>∃ xs:List Print,(∀ x∈xs,jQ x)∧l=[.sl (xs.map w8)]
theorem yg:Rd 31 o5 ic:=(Opens.struct Tryz.underlying31 (by kernel_rfl) BS (fun i f hf=>by
 rcases i with _|_|_|i<;>simp at hf<;>subst hf
 ·exact BO
 ·exact yz
 ·exact Ca)).mono (by
 rintro l ⟨ls,h1,h2,rfl⟩
 obtain⟨a,b,c,rfl⟩:=Cr h1
 obtain⟨x,hx,rfl⟩:=h2 0 a rfl
 obtain⟨y,rfl⟩:=h2 1 b rfl
 obtain⟨z,hz,rfl⟩:=h2 2 c rfl
 exact⟨⟨x,y,z⟩,⟨hx,hz⟩,rfl⟩)
theorem BN:Rd 79 A2 (fun _=>True):=(Opens.struct Tryz.underlying79 (by kernel_rfl) (yu (fun _=>True) (fun l=>∃ n:Int,l=[rI n]) (fun l=>∃ n:Int,l=[rI n]) (fun l=>∃ n m:Int,l=[rI n,rI m])) (fun i f hf=>by
 rcases i with _|_|_|i<;>simp at hf<;>subst hf
 ·exact oInt
 ·exact oInt
 ·exact GS)).mono (by
 rintro l ⟨ls,h1,h2,rfl⟩
 obtain⟨a,b,c,rfl⟩:=Cr h1
 obtain⟨x,rfl⟩:=h2 0 a rfl
 obtain⟨y,rfl⟩:=h2 1 b rfl
 obtain⟨z,u,rfl⟩:=h2 2 c rfl
 exact⟨⟨x,y,z,u⟩,trivial,rfl⟩)
theorem Cb:Opens Tryz.prog 37 (fun l=>∃ xs:List Piece,l=[.sl (xs.map A2)]):=
 (Opens.sliceOf Tryz.underlying37 (sz:=4) (by kernel_rfl) (by decide) (fun _=>rfl) BN).mono (by rintro l ⟨xs,_,h⟩;exact⟨xs,h⟩)
def HU:Nat→List IC→Prop
 | 0=>fun l=>∃ x:Prints,ic x∧l=o5 x
 | 3=>fun l=>∃ x:ChLoop,True∧l=G4 x
 | 4=>fun l=>∃ xs:List Piece,l=[.sl (xs.map A2)]
 | _=>fun l=>∃ n:Int,l=[rI n]
theorem EB:Rd 39 j4 (fun c=>ic c.p):=(Opens.struct Tryz.underlying39 (by kernel_rfl) HU (fun i f hf=>by
 rcases i with _|_|_|_|_|i<;>simp at hf<;>subst hf
 ·exact yg
 ·exact oInt
 ·exact oInt
 ·exact yh
 ·exact Cb)).mono (by
 rintro l ⟨ls,h1,h2,rfl⟩
 obtain⟨a,b,c,d,e,rfl⟩:=Hn h1
 obtain⟨x,hx,rfl⟩:=h2 0 a rfl
 obtain⟨y,rfl⟩:=h2 1 b rfl
 obtain⟨z,rfl⟩:=h2 2 c rfl
 obtain⟨u,-,rfl⟩:=h2 3 d rfl
 obtain⟨v,rfl⟩:=h2 4 e rfl
 exact⟨⟨x,y,z,u,v⟩,hx,rfl⟩)
theorem nV {H:Type} {enc:TypeId×Value→H} {P:Program} {w:World} {base:Nat} {sp:Nat→Bool} {held:Bool} {fuel:Nat} {t:TypeId} {ps rs:Array TypeId} {va:Bool} {v:Value} {q:List MemPlace}
 (ht:P.underlying t=some (.func ps rs va)) (h:DataW.trod enc P w base sp held fuel t [v]=some (.nil,q)):v=.nilFunc:=by
 cases fuel with
 | zero=>simp[DataW.trod] at h
 | succ n=>cases v<;>simp[DataW.trod,ht] at h<;>rfl
theorem mr {P:Program} {W:World} {t e te n:Nat} {f:Field} {cs:Array Value} {fuel:Nat} {p:List MemPlace} {L:List (DataW (List UInt8))} (ht:P.underlying t=some (.array n e)) (hte:P.underlying e=some (.struct #[f])) (hf0:f.offset=0) (hft:f.type=te) (hce:P.cellsOf e=1) (hcf:P.cellsOf te=1)
 (h:DataW.trod (funcToken P) P W 0 (fun _=>true) true fuel t cs.toList=some (.agg L,p)) (j:Nat) (hj:j<n):∃ (c:Value) (m2:Nat) (y:DataW (List UInt8)×List MemPlace),cs[j]?=some c∧L[j]?=some (.agg [y.1])∧DataW.trod (funcToken P) P W 0 (fun _=>true) true m2 te [c]=some (y.1,y.2):=by
 obtain⟨xs,m,_,ex,hlen,hxl,hel⟩:=DataW.trod_array ht h
 have hE:=hel j hj
 rw[hce,Nat.mul_one] at hE
 have hx:xs[j]?=some xs[j]:=by simp[hxl,hj]
 rw[hx] at hE
 obtain⟨ys,m2,_,ey,hlen2,hyl,hel2⟩:=DataW.trod_struct hte hE
 have hE2:=hel2 0 f rfl
 have hyl1:ys.length=1:=by simpa using hyl
 obtain⟨y,rfl⟩:=List.length_eq_one_iff.1 hyl1
 rw[hf0,hft,hcf] at hE2
 have hcl:j<cs.size:=by
  rcases Nat.lt_or_ge j cs.size with h1|h1
  ·exact h1
  ·simp[hce] at hlen2;omega
 have hc1:((cs.toList.drop j).take 1)=[cs[j]]:=by
  rw[List.drop_eq_getElem_cons (by simpa using hcl)];simp
 rw[hc1] at hE2
 simp only[List.drop_zero,List.take_succ_cons,List.getElem?_cons_zero,List.take_nil] at hE2
 have e1:(xs.map (·.1))[j]?=L[j]?:=by rw[(DataW.agg.inj (Prod.mk.inj ex).1)]
 rw[List.getElem?_map,hx,ey] at e1
 exact⟨cs[j],_,y,Array.getElem?_eq_getElem hcl,by rw[← e1];rfl,hE2⟩
theorem pV {P:Program} {W:World} {t e te:Nat} {f:Field} {ps rs:Array TypeId} {cs:Array Value} {fuel:Nat} {p:List MemPlace} {b1 b2 b3:UInt8} {r1 r2 r3:List UInt8} {f1 f2 f3:FuncId} (ht:P.underlying t=some (.array 4 e)) (hte:P.underlying e=some (.struct #[f])) (hf0:f.offset=0) (hft:f.type=te) (hu:P.underlying te=some (.func ps rs false)) (hce:P.cellsOf e=1) (hcf:P.cellsOf te=1)
 (h1:((List.range P.funcs.size).filter fun f=>(P.funcs[f]?).any (·.name.toUTF8.data.toList==b1 :: r1))=[f1]) (h2:((List.range P.funcs.size).filter fun f=>(P.funcs[f]?).any (·.name.toUTF8.data.toList==b2 :: r2))=[f2]) (h3:((List.range P.funcs.size).filter fun f=>(P.funcs[f]?).any (·.name.toUTF8.data.toList==b3 :: r3))=[f3])
 (h:DataW.trod (funcToken P) P W 0 (fun _=>true) true fuel t cs.toList=some (.agg [.agg [.nil],.agg [.held (b1 :: r1)],.agg [.held (b2 :: r2)],.agg [.held (b3 :: r3)]],p)):∀ (j:Nat) (v:Value),[Value.nilFunc,.func (.func f1) #[] #[],.func (.func f2) #[] #[],.func (.func f3) #[] #[]][j]?=some v→cs[j]?=some v:=by
 have get:=mr ht hte hf0 hft hce hcf h
 obtain⟨c0,m0,y0,a0,e0,t0⟩:=get 0 (by omega)
 obtain⟨c1,m1,y1,a1,e1,t1⟩:=get 1 (by omega)
 obtain⟨c2,m2,y2,a2,e2,t2⟩:=get 2 (by omega)
 obtain⟨c3,m3,y3,a3,e3,t3⟩:=get 3 (by omega)
 simp at e0 e1 e2 e3
 rw[← e0] at t0
 rw[← e1] at t1
 rw[← e2] at t2
 rw[← e3] at t3
 intro j v hj
 rcases j with _|_|_|_|j
 ·simp at hj;subst hj;rw[a0,nV hu t0]
 ·simp at hj;subst hj;rw[a1,func_of_trod (f0:=f1) (q:=y1.2) hu h1 t1]
 ·simp at hj;subst hj;rw[a2,func_of_trod (f0:=f2) (q:=y2.2) hu h2 t2]
 ·simp at hj;subst hj;rw[a3,func_of_trod (f0:=f3) (q:=y3.2) hu h3 t3]
 ·simp at hj
theorem vi {W:World} {g:Nat} {f1 f2 f3:FuncId} (h:∀ (j:Nat) (v:Value),[Value.nilFunc,.func (.func f1) #[] #[],.func (.func f2) #[] #[],.func (.func f3) #[] #[]][j]?=some v→W.cell? ⟨g,j,.none⟩=some v):RepI W (vF W) (.ip [.raw .nilFunc,.fn (.func f1) [],.fn (.func f2) [],.fn (.func f3) []]) (.pointer (some ⟨g,0,.none⟩)):=by
 have hb:g<W.heap.size:=V1 (a:=⟨g,0,.none⟩) (h 0 _ rfl)
 refine .ip _ _ (fun j=>([Value.nilFunc,.func (.func f1) #[] #[],.func (.func f2) #[] #[],.func (.func f3) #[] #[]][j]?).getD undef) rfl hb (fun j c hj=>?_) (fun j c hj=>?_)
 ·have hl:=e7 hj
  have hl':j < [Value.nilFunc,.func (.func f1) #[] #[],.func (.func f2) #[] #[],.func (.func f3) #[] #[]].length:=hl
  have hv:=List.getElem?_eq_getElem hl'
  rw[hv,Option.getD_some]
  simpa using h j _ hv
 ·have hl:=e7 hj
  have hl':j<4:=hl
  have hfn:∀ f,RepI W (vF W) (.fn (.func f) []) (.func (.func f) #[] #[]):=fun f=>RepI.fn (w:=W) (ok:=vF W) (.func f) [] #[] rfl (fun j c v h=>by simp at h)
  rcases j with _|_|_|_|j<;>first|omega|(simp at hj ⊢;subst hj;first|exact hfn _|exact .raw _ rfl)
theorem iM {P:Program} {W:World} {n:String} {t e:Nat} {a b:Bool} (ht:P.underlying t=some (.array 2 e)) (he:P.underlying e=some .bool) (hct:P.cellsOf t=2) (hce:P.cellsOf e=1) (htg:∀ g,P.globalNamed n=some g→(P.globals[g]?).map (·.type)=some t) (h:laidMetH P [(n,.agg [.lit (.bool a),.lit (.bool b)])] W):∃ cs,W.var? P n=some cs∧∀ (j:Nat) (v:Value),[Value.bool a,.bool b][j]?=some v→cs[j]?=some v:=by
 have h1:laidMet P [(n,.agg [.lit (.bool a),.lit (.bool b)])] W:=h
 obtain⟨ps,hL,_,_⟩:=h1
 obtain⟨g,t',cs,fuel,p,q,hg,ht',hv,hd,_,_⟩:=hL
 have:=htg g hg
 rw[this] at ht'
 cases ht'
 obtain⟨xs,m,_,ex,hlen,hxl,hel⟩:=DataW.trod_array ht hd
 rw[hct] at hlen
 obtain⟨v0,v1,hvs⟩:∃ v0 v1,cs.toList=[v0,v1]:=by
  match hc:cs.toList,hlen with
  | [v0,v1],_=>exact⟨v0,v1,rfl⟩
 obtain⟨x0,x1,rfl⟩:∃ x0 x1,xs=[x0,x1]:=by
  match xs,hxl with
  | [x0,x1],_=>exact⟨x0,x1,rfl⟩
 have ex1:=(Prod.mk.inj ex).1
 simp only[List.map_cons,List.map_nil,DataW.agg.injEq,List.cons.injEq,and_true] at ex1
 have e0:=hel 0 (by omega)
 have e1:=hel 1 (by omega)
 rw[hce,hvs] at e0 e1
 simp only[Nat.zero_mul,Nat.one_mul,List.drop_zero,List.drop_succ_cons,List.take_succ_cons,List.take_zero,List.getElem?_cons_zero,List.getElem?_cons_succ] at e0 e1
 obtain⟨b0,k0,l0⟩:=DataW.trod_bool he e0
 obtain⟨b1,k1,l1⟩:=DataW.trod_bool he e1
 simp only[List.cons.injEq,and_true] at k0 k1
 rw[l0,l1] at ex1
 obtain⟨q0,q1⟩:=ex1
 simp only[DataW.lit.injEq,Lit.bool.injEq] at q0 q1
 refine⟨cs,hv,fun j v hj=>?_⟩
 rw[← Array.getElem?_toList,hvs,k0,k1,← q0,← q1]
 exact hj
theorem nQ {W:World} {g:Nat} {a b:Bool} (h:∀ (j:Nat) (v:Value),[Value.bool a,.bool b][j]?=some v→W.cell? ⟨g,j,.none⟩=some v):RepI W (vF W) (.ip [.raw (.bool a),.raw (.bool b)]) (.pointer (some ⟨g,0,.none⟩)):=by
 have hb:g<W.heap.size:=V1 (a:=⟨g,0,.none⟩) (h 0 _ rfl)
 refine .ip _ _ (fun j=>([Value.bool a,.bool b][j]?).getD undef) rfl hb (fun j c hj=>?_) (fun j c hj=>?_)
 ·have hl:=e7 hj
  have hl':j < [Value.bool a,.bool b].length:=hl
  have hv:=List.getElem?_eq_getElem hl'
  rw[hv,Option.getD_some]
  simpa using h j _ hv
 ·have hl:=e7 hj
  have hl':j<2:=hl
  rcases j with _|_|j<;>first|omega|(simp at hj ⊢;subst hj;exact .raw _ rfl)
end Go.Proofs
namespace Go.Ab
open Go
abbrev J4:=Bool×Bool
def C3 (f:J4):List IC:=[.raw (.bool f.1),.raw (.bool f.2)]
def jo (f:J4):DV:=.agg ((C3 f).map .im)
structure Desk where
 c:Case
 notes:Bool
 faults:List (List J4)
def J3 (l:List J4):List IC:=[.sl (l.map C3)]
def R5 (d:Desk):List IC:=j4 d.c++[.raw (.bool d.notes),.sl (d.faults.map J3)]
def aA (d:Desk):IC:=.ip (R5 d)
attribute [simp] C3 jo J3
def ap (L:List J4) (so:Bool) (f:J4):List J4:=if so=true∧f∉L then L++[f] else L
end Go.Ab
namespace Go.Proofs
open Go Go.Ab
variable {G:Kc}
theorem mU (l:List J4) (n:J4) (hl:l.length<1000000):zP Tryz.prog G 198 [.one (.im (.sl (l.map C3))),jo n] (iv (H9 (fun x=>decide (n=x)) l)):=by
 refine zf Tryz.func198 Tryz.ntmps198 ?_
 try simp only[iv]
 simp only[jo,C3,List.map_cons,List.map_nil]
 have hs:=trivial
 repeat' first|with_reducible refine zz ?_|with_reducible refine zE [0,1,3,4,5,7,8,9,16] ?_;try simp -dsimp[hs]
 all_goals try simp -dsimp[hs]
 refine i6 (ι:={ k:Nat // k≤l.length∧∀ (j:Nat) (x:J4),j<k→l[j]?=some x→decide (n=x)=false }) (fun i=>⟨19,[(0,.one (.im (.sl (l.map C3)))),(3,.one (.ptr 0 0)),(7,iv (l.length:Int)),(8,iv (i.1:Int))],[.row [.im (.raw (.bool n.1)),.im (.raw (.bool n.2))]]⟩) (fun i=>l.length-i.1) ⟨0,by simp⟩ (zv [0,3,7,8]) ?_
 rintro⟨i,hi,hno⟩
 simp only[iv]
 by_cases hlt:i<l.length
 ·have hx0:l[i]?=some l[i]:=by simp[hlt]
  have hw:=zk i
  generalize hx:l[i]=x at *
  obtain⟨n1,n2⟩:=n
  obtain⟨x1,x2⟩:=x
  have hs:True:=trivial
  by_cases hq:(n1,n2)=(x1,x2)
  ·obtain⟨rfl,rfl⟩:=Prod.mk.inj hq
   have hs:=za hx (za hw hlt)
   repeat' first|(with_reducible first|refine zz ?_|refine zr ?_)|(first|refine zM 4 19 6 [0,1,3,4,5,7,8,9,16] ?_|with_reducible refine zE [0,1,3,4,5,7,8,9,16] ?_);try simp -dsimp[hs]|refine i9 ?_ ?_<;>intro h<;>try simp only[i7] at h
   all_goals try simp -dsimp[hs]
   all_goals exact(L0 hx0 (by simp) hno).symm
  ·have hst:∀ (j:Nat) (y:J4),j<i+1→l[j]?=some y→decide ((n1,n2)=y)=false:=fun j y hj hjx=>by
    by_cases e:j=i
    ·subst e;rw[hx0] at hjx;cases hjx;exact decide_eq_false hq
    ·exact hno j y (by omega) hjx
   have hb:((n1==x1)&&((n2==x2)&&true))=false:=by
    cases n1<;>cases n2<;>cases x1<;>cases x2<;>simp_all
   cases n1<;>cases n2<;>cases x1<;>cases x2
   all_goals first
    | exact absurd rfl hq
    | skip
   all_goals
    have hs:=za hx (za hw hlt)
    repeat' first|with_reducible refine zz ?_|(first|refine zM 4 19 6 [0,1,3,4,5,7,8,9,16] ?_|with_reducible refine zE [0,1,3,4,5,7,8,9,16] ?_);try simp -dsimp[hs]|refine i9 ?_ ?_<;>intro h<;>try simp only[i7] at h
    all_goals try simp -dsimp[hs]
   all_goals exact zn ⟨i+1,by omega,hst⟩ (zv [0,3,7,8])
 ·have hs:=hlt
  repeat' first|(with_reducible first|refine zz ?_|refine zr ?_)|with_reducible refine zE [0,1,3,4,5,7,8,9,16] ?_;try simp -dsimp[hs]|refine i9 ?_ ?_<;>intro h<;>try simp only[i7] at h
  all_goals try simp -dsimp[hs]
  exact(R4 fun j x hjx=>hno j x (by have:=e7 hjx;omega) hjx).symm
theorem gR (l:List J4) (n:J4) (hl:l.length<1000000):zP Tryz.prog G 135 [.one (.im (.sl (l.map C3))),jo n] (bv (decide (n∈l))):=by
 refine zf Tryz.func135 Tryz.ntmps135 ?_
 try simp only[iv]
 have hc:=mU (G:=G) l n hl
 simp only[jo,C3,List.map_cons,List.map_nil] at hc ⊢
 repeat' first|(with_reducible first|refine zz ?_|refine zx ?_)|(first|refine zp hc ?_|with_reducible refine zE [0,1,3,4] ?_);try simp -dsimp
 all_goals try simp -dsimp
 have h1:=A3 (fun x=>decide (n=x)) l
 rw[← decide_eq_true_iff (p:=0≤_),h1]
 simp
theorem AT (L:List J4) (g sz:Nat) (nl so:Bool) (f:J4) (hl:L.length<1000) (hz:sz=2∨nl=true):DCall Tryz.prog G 134 (bv so :: jo f :: [DC.ptr 0 0].map .one) [.row [.vec 1 g 0 L.length],.vec sz (l7 (L.map C3)) g nl] (fun d o=>∃ i:Nat×Nat×Bool,(i.2.1=2∨i.2.2=true)∧d=.tup []∧o=[.row [.vec 1 i.1 0 (ap L so f).length],.vec i.2.1 (l7 ((ap L so f).map C3)) i.1 i.2.2]):=by
 refine DCall.drop ?_
 refine g9 Tryz.func134 rfl Tryz.ntmps134 (by simp) rfl ?_
 have c1:=gR (G:=G) L f (by omega)
 simp only[jo,C3,List.map_cons,List.map_nil,bv] at c1 ⊢
 have htk:List.take L.length (l7 (L.map C3))=l7 (L.map C3):=List.take_of_length_le (by simp[l7])
 have hs:True:=trivial
 cases so
 ·have hs:=trivial
  repeat' first|(with_reducible first|refine zz ?_|refine ze ?_)|with_reducible refine zE [0,1,2,4,11] ?_;try simp -dsimp[hs]|refine i9 ?_ ?_<;>intro h<;>try simp only[i7] at h
  all_goals try simp -dsimp[hs]
  all_goals rw[show ap L false f=L by simp[ap]]
  all_goals rcases hz with h|h
  all_goals first
   | exact⟨g,sz,.inl ⟨h,⟨rfl,rfl⟩,rfl,rfl,rfl⟩⟩
   | exact⟨g,sz,.inr ⟨⟨rfl,rfl⟩,rfl,rfl,rfl,h⟩⟩
 ·by_cases hf:f∈L
  ·rw[decide_eq_true hf] at c1
   have hs:=htk
   repeat' first|(with_reducible first|refine zz ?_|refine ze ?_)|refine zt c1 ?_ ?_ ?_;(focus simp;done);(focus simp;done);try simp -dsimp[hs]|with_reducible refine zE [0,1,2,4,11] ?_;try simp -dsimp[hs]|refine i9 ?_ ?_<;>intro h<;>try simp only[i7] at h
   all_goals try simp -dsimp[hs]
   all_goals rw[show ap L true f=L by simp[ap,hf]]
   all_goals rcases hz with h|h
   all_goals first
    | exact⟨g,sz,.inl ⟨h,⟨rfl,rfl⟩,rfl,rfl,rfl⟩⟩
    | exact⟨g,sz,.inr ⟨⟨rfl,rfl⟩,rfl,rfl,rfl,h⟩⟩
  ·rw[decide_eq_false hf] at c1
   have hE:ap L true f=L++[f]:=by unfold ap;rw[if_pos ⟨rfl,hf⟩]
   have hs:=za htk hz
   repeat' first|(with_reducible first|refine zz ?_|refine And.intro (by omega) ?_|refine ze ?_)|refine zt c1 ?_ ?_ ?_;(focus simp;done);(focus simp;done);try simp -dsimp[hs]|with_reducible refine zE [0,1,2,4,11] ?_;try simp -dsimp[hs]|refine i9 ?_ ?_<;>intro h<;>try simp only[i7] at h
   all_goals try simp -dsimp[hs]
   all_goals simp[hE,l7]
end Go.Proofs
namespace Go.Ab
open Go
structure Susp where
 kind:Int
 index:Int
 deriving DecidableEq
def j9 (s:Susp):List IC:=[.raw (.int .u8 s.kind),rI s.index]
def E9 (s:Susp):DV:=.agg ((j9 s).map .im)
def C5 (l:List Susp):DV:=.one (.im (.sl (l.map j9)))
attribute [simp] j9 E9 C5
def T0 (d:Desk):List IC:=[aA d]
def jJ (d:Desk):DV:=.one (.im (aA d))
def ae (l:List Desk):DV:=.one (.im (.sl (l.map T0)))
attribute [simp] T0 jJ ae
def iI (d:Desk) (s:Susp) (so:Bool):Bool:=if s.kind=1 then d.notes==so else if s.kind=2 then (d.faults.getD s.index.toNat []).any fun f=>f.1==so else (d.faults.getD s.index.toNat []).any fun f=>f.2==so
def G2 (l:List Desk) (s:Susp):Int:=if (l.any fun d=>iI d s true)=false then 0 else if (l.any fun d=>iI d s false)=false then 2 else 1
def oZ (n:Nat) (s:Susp):Bool:=if s.kind=1 then decide (s.index=0) else (decide (2≤s.kind)&&decide (s.kind≤3))&&(decide (0≤s.index)&&decide (s.index≤(n:Int)-1))
def cq (n:Nat) (s:Susp):Prop:=s.kind=1∨((s.kind=2∨s.kind=3)∧0≤s.index∧s.index<n)
theorem zi {n:Nat} {s:Susp} (h:oZ n s=true):cq n s:=by
 unfold oZ at h
 unfold cq
 split at h
 ·exact .inl ‹_›
 ·simp only[Bool.and_eq_true,decide_eq_true_eq] at h
  omega
end Go.Ab
namespace Go.Proofs
open Go Go.Ab
variable {G:Kc}
def bV (G:Kc):Prop:=G 1=some [.raw .nilFunc,.fn (.func 339) [],.fn (.func 340) [],.fn (.func 343) []]
theorem oq (l:List J4) (p:J4→Bool) (k:Nat) (caps:List DC) (objs:List DObj) (hok:D4 Tryz.prog k) (hf:∀ x∈l,DCall Tryz.prog G k (jo x :: caps.map .one) objs (fun d o=>d=bv (p x)∧o=objs)) (hl:l.length<1000000):DCall Tryz.prog G 345 [.one (.im (.sl (l.map C3))),.one (.fn (.func k) caps)] objs (fun d o=>d=iv (H9 p l)∧o=objs):=by
 refine g9 Tryz.func345 rfl Tryz.ntmps345 (by simp) rfl ?_
 have hs:=trivial
 repeat' first|(with_reducible first|refine zz ?_|refine zE [0,1,4,5,7,8,9,16] ?_)|simp -dsimp[hs]
 refine i6 (ι:={ k:Nat // k≤l.length∧∀ j x,j<k→l[j]?=some x→p x=false }) (fun i=>⟨19,[(0,.one (.im (.sl (l.map C3)))),(1,.one (.fn (.func k) caps)),(7,iv (l.length:Int)),(8,iv (i.1:Int))],objs⟩) (fun i=>l.length-i.1) ⟨0,by simp⟩ (zv [0,1,7,8]) ?_
 rintro⟨i,hi,hno⟩
 simp only[iv]
 by_cases hlt:i<l.length
 ·have hx:l[i]?=some l[i]:=by simp[hlt]
  have hw:=zk i
  have hc:=hf l[i] (by simp)
  simp only[jo,C3,List.map_cons,List.map_nil,bv,rI] at hc
  have hs:=za hx (za hw hok)
  repeat' first|(with_reducible first|refine zz ?_|refine And.intro (by omega) ?_|refine zr ?_|refine zE [0,1,4,5,7,8,9,16] ?_)|simp -dsimp[hs]|refine CallE.here hc ?_|refine i9 ?_ ?_<;>intro h<;>try simp only[i7] at h|with_reducible refine And.intro ?_ ?_
  all_goals try omega
  ·exact(L0 hx (by assumption) hno).symm
  ·exact At.round ⟨i+1,by omega,fun j x hj hjx=>by
    by_cases e:j=i
    ·subst e;rw[hx] at hjx;cases hjx;assumption
    ·exact hno j x (by omega) hjx⟩ (by simp;omega) (zv [0,1,7,8])
 ·have hs:=trivial
  repeat' first|(with_reducible first|refine zz ?_|refine zr ?_|refine zE [0,1,4,5,7,8,9,16] ?_)|simp -dsimp[hs]|refine i9 ?_ ?_<;>intro h<;>try simp only[i7] at h|with_reducible refine And.intro ?_ ?_
  all_goals try omega
  exact(R4 fun j x hjx=>hno j x (by have:=e7 hjx;omega) hjx).symm
theorem cB (l:List J4) (p:J4→Bool) (k:Nat) (caps:List DC) (objs:List DObj) (hok:D4 Tryz.prog k) (hf:∀ x∈l,DCall Tryz.prog G k (jo x :: caps.map .one) objs (fun d o=>d=bv (p x)∧o=objs)) (hl:l.length<1000000):DCall Tryz.prog G 341 [.one (.im (.sl (l.map C3))),.one (.fn (.func k) caps)] objs (fun d o=>d=bv (l.any p)∧o=objs):=by
 refine g9 Tryz.func341 rfl Tryz.ntmps341 (by simp) rfl ?_
 have hc:=oq l p k caps objs hok hf hl
 repeat' first|(with_reducible first|refine zz ?_|refine zx ?_|refine zE [0,1,4] ?_)|simp -dsimp|refine CallE.here hc ?_|with_reducible refine And.intro ?_ ?_
 simp[A3]
theorem ot (l:List Desk) (p:Desk→Bool) (k:Nat) (caps:List DC) (objs:List DObj) (hok:D4 Tryz.prog k) (hf:∀ x∈l,DCall Tryz.prog G k (jJ x :: caps.map .one) objs (fun d o=>d=bv (p x)∧o=objs)) (hl:l.length<1000000):DCall Tryz.prog G 140 [.one (.im (.sl (l.map T0))),.one (.fn (.func k) caps)] objs (fun d o=>d=iv (H9 p l)∧o=objs):=by
 refine g9 Tryz.func140 rfl Tryz.ntmps140 (by simp) rfl ?_
 have hs:=trivial
 repeat' first|(with_reducible first|refine zz ?_|refine zE [0,1,4,5,7,8,9,16] ?_)|simp -dsimp[hs]
 refine i6 (ι:={ k:Nat // k≤l.length∧∀ j x,j<k→l[j]?=some x→p x=false }) (fun i=>⟨19,[(0,.one (.im (.sl (l.map T0)))),(1,.one (.fn (.func k) caps)),(7,iv (l.length:Int)),(8,iv (i.1:Int))],objs⟩) (fun i=>l.length-i.1) ⟨0,by simp⟩ (zv [0,1,7,8]) ?_
 rintro⟨i,hi,hno⟩
 simp only[iv]
 by_cases hlt:i<l.length
 ·have hx:l[i]?=some l[i]:=by simp[hlt]
  have hw:=zk i
  have hc:=hf l[i] (by simp)
  simp only[jJ,List.map_cons,List.map_nil,bv,rI] at hc
  have hs:=za hx (za hw hok)
  repeat' first|(with_reducible first|refine zz ?_|refine And.intro (by omega) ?_|refine zr ?_|refine zE [0,1,4,5,7,8,9,16] ?_)|simp -dsimp[hs]|refine CallE.here hc ?_|refine i9 ?_ ?_<;>intro h<;>try simp only[i7] at h|with_reducible refine And.intro ?_ ?_
  all_goals try omega
  ·exact(L0 hx (by assumption) hno).symm
  ·exact At.round ⟨i+1,by omega,fun j x hj hjx=>by
    by_cases e:j=i
    ·subst e;rw[hx] at hjx;cases hjx;assumption
    ·exact hno j x (by omega) hjx⟩ (by simp;omega) (zv [0,1,7,8])
 ·have hs:=trivial
  repeat' first|(with_reducible first|refine zz ?_|refine zr ?_|refine zE [0,1,4,5,7,8,9,16] ?_)|simp -dsimp[hs]|refine i9 ?_ ?_<;>intro h<;>try simp only[i7] at h|with_reducible refine And.intro ?_ ?_
  all_goals try omega
  exact(R4 fun j x hjx=>hno j x (by have:=e7 hjx;omega) hjx).symm
theorem cC (l:List Desk) (p:Desk→Bool) (k:Nat) (caps:List DC) (objs:List DObj) (hok:D4 Tryz.prog k) (hf:∀ x∈l,DCall Tryz.prog G k (jJ x :: caps.map .one) objs (fun d o=>d=bv (p x)∧o=objs)) (hl:l.length<1000000):DCall Tryz.prog G 77 [.one (.im (.sl (l.map T0))),.one (.fn (.func k) caps)] objs (fun d o=>d=bv (l.any p)∧o=objs):=by
 refine g9 Tryz.func77 rfl Tryz.ntmps77 (by simp) rfl ?_
 have hc:=ot l p k caps objs hok hf hl
 repeat' first|(with_reducible first|refine zz ?_|refine zx ?_|refine zE [0,1,4] ?_)|simp -dsimp|refine CallE.here hc ?_|with_reducible refine And.intro ?_ ?_
 simp[A3]
theorem Ff (so:Bool) (f:J4):DCall Tryz.prog G 342 (jo f :: [DC.ptr 0 0].map .one) [.row [.im (.raw (.bool so))]] (fun d o=>d=bv (f.1==so)∧o=[.row [.im (.raw (.bool so))]]):=by
 refine DCall.drop ?_
 refine g9 Tryz.func342 rfl Tryz.ntmps342 (by simp) rfl ?_
 simp only[jo,C3]
 repeat' first|(with_reducible first|refine zz ?_|refine zx ?_|refine zE [0,1,2,3] ?_)|simp -dsimp|with_reducible refine And.intro ?_ ?_
theorem Fe (so:Bool) (f:J4):DCall Tryz.prog G 344 (jo f :: [DC.ptr 0 0].map .one) [.row [.im (.raw (.bool so))]] (fun d o=>d=bv (f.2==so)∧o=[.row [.im (.raw (.bool so))]]):=by
 refine DCall.drop ?_
 refine g9 Tryz.func344 rfl Tryz.ntmps344 (by simp) rfl ?_
 simp only[jo,C3]
 repeat' first|(with_reducible first|refine zz ?_|refine zx ?_|refine zE [0,1,2,3] ?_)|simp -dsimp|with_reducible refine And.intro ?_ ?_
theorem Hs (d:Desk) (i:Int) (so:Bool):zP Tryz.prog G 339 [jJ d,iv i,bv so] (bv (d.notes==so)):=by
 refine zf Tryz.func339 Tryz.ntmps339 ?_
 try simp only[iv,bv]
 simp only[jJ,aA,R5]
 repeat' first|(with_reducible first|refine zz ?_|refine zx ?_|refine zE [0,2,6] ?_)|simp -dsimp
theorem Hr (d:Desk) (i:Nat) (so:Bool) (h:i<d.faults.length) (hl:∀ x∈d.faults,x.length<1000000):zP Tryz.prog G 340 [jJ d,iv (i:Int),bv so] (bv ((d.faults.getD i []).any fun f=>f.1==so)):=by
 refine zf Tryz.func340 Tryz.ntmps340 ?_
 try simp only[iv,bv]
 simp only[jJ,aA,R5]
 have c1:=cB (G:=G) d.faults[i] (fun f=>f.1==so) 342 [.ptr 0 0] [.row [.im (.raw (.bool so))]] (by simp) (fun f _=>Ff so f) (hl _ (List.getElem_mem h))
 have hg:d.faults.getD i []=d.faults[i]:=by simp[h]
 have hx:d.faults[i]?=some d.faults[i]:=by simp[h]
 rw[hg]
 generalize hxe:d.faults[i]=x at *
 have hs:=za hx (za hxe h)
 repeat' first|(with_reducible first|refine zz ?_|refine zr ?_|refine zE [0,1,2,5,6] ?_)|simp -dsimp[hs]|refine zh c1 ?_
theorem Hq (d:Desk) (i:Nat) (so:Bool) (h:i<d.faults.length) (hl:∀ x∈d.faults,x.length<1000000):zP Tryz.prog G 343 [jJ d,iv (i:Int),bv so] (bv ((d.faults.getD i []).any fun f=>f.2==so)):=by
 refine zf Tryz.func343 Tryz.ntmps343 ?_
 try simp only[iv,bv]
 simp only[jJ,aA,R5]
 have c1:=cB (G:=G) d.faults[i] (fun f=>f.2==so) 344 [.ptr 0 0] [.row [.im (.raw (.bool so))]] (by simp) (fun f _=>Fe so f) (hl _ (List.getElem_mem h))
 have hg:d.faults.getD i []=d.faults[i]:=by simp[h]
 have hx:d.faults[i]?=some d.faults[i]:=by simp[h]
 rw[hg]
 generalize hxe:d.faults[i]=x at *
 have hs:=za hx (za hxe h)
 repeat' first|(with_reducible first|refine zz ?_|refine zr ?_|refine zE [0,1,2,5,6] ?_)|simp -dsimp[hs]|refine zh c1 ?_
structure DkOk (n:Nat) (d:Desk):Prop where
 n:d.faults.length=n
 l:∀ x∈d.faults,x.length<1000000
theorem vU (n:Nat) (s:Susp) (hs:cq n s) (so:Bool) (hK:bV G) (d:Desk) (hd:DkOk n d):DCall Tryz.prog G 131 (jJ d :: [DC.ptr 0 0,DC.ptr 1 0].map .one) [.row ((j9 s).map .im),.row [.im (.raw (.bool so))]] (fun r o=>r=bv (iI d s so)∧o=[.row ((j9 s).map .im),.row [.im (.raw (.bool so))]]):=by
 refine DCall.drop ?_
 have hK':G 1=some [.raw .nilFunc,.fn (.func 339) [],.fn (.func 340) [],.fn (.func 343) []]:=hK
 have c1:=Hs (G:=G) d s.index so
 obtain⟨k,i⟩:=s
 unfold iI
 simp only at c1
 rcases hs with h|⟨h|h,h1,h2⟩
 all_goals
  simp only at h
  subst h
 ·simp only[if_true]
  refine g9 Tryz.func131 rfl Tryz.ntmps131 (by simp) rfl ?_
  simp only[jJ] at c1
  have hs:=hK'
  repeat' first|(with_reducible first|refine zz ?_|refine zr ?_)|simp -dsimp[hs]|refine zp c1 ?_|refine zM 1 15 9 [0,1,2,4] ?_|with_reducible refine zE [0,1,2,4] ?_|with_reducible refine And.intro ?_ ?_
  all_goals try clear hs
 ·simp only at h1 h2
  obtain⟨j,rfl⟩:=Int.eq_ofNat_of_zero_le h1
  have c2:=Hr (G:=G) d j so (by rw[hd.n];omega) hd.l
  refine g9 Tryz.func131 rfl Tryz.ntmps131 (by simp) rfl ?_
  simp only[jJ] at c2
  have hs:=hK'
  repeat' first|(with_reducible first|refine zz ?_|refine zr ?_)|simp -dsimp[hs]|refine zp c2 ?_|refine zM 1 15 9 [0,1,2,4] ?_|with_reducible refine zE [0,1,2,4] ?_|with_reducible refine And.intro ?_ ?_
  all_goals try clear hs
 ·simp only at h1 h2
  obtain⟨j,rfl⟩:=Int.eq_ofNat_of_zero_le h1
  have c2:=Hq (G:=G) d j so (by rw[hd.n];omega) hd.l
  refine g9 Tryz.func131 rfl Tryz.ntmps131 (by simp) rfl ?_
  simp only[jJ] at c2
  have hs:=hK'
  repeat' first|(with_reducible first|refine zz ?_|refine zr ?_)|simp -dsimp[hs]|refine zp c2 ?_|refine zM 1 15 9 [0,1,2,4] ?_|with_reducible refine zE [0,1,2,4] ?_|with_reducible refine And.intro ?_ ?_
  all_goals try clear hs
end Go.Proofs
namespace Go.Proofs
open Go Go.Ab
def Gt:Nat→List IC→Prop
 | 0=>fun l=>∃ n:Int,(0≤n∧n≤255)∧l=[.raw (.int .u8 n)]
 | _=>fun l=>∃ n:Int,l=[rI n]
theorem Iu:Rd 42 j9 (fun s=>0≤s.kind∧s.kind≤255):=(Opens.struct Tryz.underlying42 (by kernel_rfl) Gt (fun i f hf=>by
 rcases i with _|_|i<;>simp at hf<;>subst hf
 ·exact GP
 ·exact oInt)).mono (by
 rintro l ⟨ls,h1,h2,rfl⟩
 obtain⟨a,b,rfl⟩:=vP h1
 obtain⟨x,hx,rfl⟩:=h2 0 a rfl
 obtain⟨y,rfl⟩:=h2 1 b rfl
 exact⟨⟨x,y⟩,hx,rfl⟩)
open Go Go.Ab Tryz
variable {G:Kc}
def xM (c:Case) (y:Link) (lt:Int):Option Dim:=(o7 c.p.n.reg y.drawing lt).bind fun x=>x.dims[y.dim.toNat]?
theorem uF (c:Case) (k:Nat) (y:Link) (lt:Int) (hy0:c.loop.links[k]?=some y) (hd:0≤y.dim) (h0:l4 c.p.n.reg=0) (hG:o3 G) (hk:KC c):zP prog G 99 [n5 c,iv (k:Int),iv lt] (.tup [gL ((xM c y lt).getD Eg),bv (xM c y lt).isSome]):=by
 refine zf func99 ntmps99 ?_
 try simp only[iv,iv]
 have hlt:k<c.loop.links.length:=e7 hy0
 have hy:c.loop.links[k]=y:=(List.getElem?_eq_some_iff.1 hy0).2
 have c1:=Dn (G:=G) c.p.n.reg y.drawing lt hG hk.p.n.1
 obtain⟨j,hj⟩:=Int.eq_ofNat_of_zero_le hd
 simp only[G9,D3] at c1
 unfold xM
 unfold atR Bu at c1
 rw[if_pos h0,if_neg (by simp[h0])] at c1
 have hdn:y.dim.toNat=j:=by rw[hj];simp
 cases hfi:o7 c.p.n.reg y.drawing lt with
 | none =>
   rw[hfi] at c1
   simp only[Option.isSome_none,Option.getD_none,Bool.false_eq_true,if_false,M9] at c1
   have hs:=za hy hlt
   repeat' first|(with_reducible first|refine zz ?_|refine zr ?_|refine zE [0,1,2,3,6,7,8,9,10,38] ?_)|simp -dsimp[hs]|refine zp c1 ?_|refine i9 ?_ ?_<;>intro h<;>try simp only[i7] at h
   all_goals exact⟨rfl,rfl,rfl⟩
 | some x =>
   rw[hfi] at c1
   simp only[Option.isSome_some,Option.getD_some,if_true] at c1
   simp only[Option.bind_some,hdn]
   by_cases hx:j<x.dims.length
   ·have hx1:x.dims[j]?=some x.dims[j]:=by simp[hx]
    have hxi:¬ ((x.dims.length:Int)≤(j:Int)):=by omega
    rw[hx1]
    generalize hz:x.dims[j]=z at *
    simp only[Option.isSome_some,Option.getD_some]
    have hs:=za hy (za hlt (za hj (za hx (za hxi (za hz hx1)))))
    repeat' first|(with_reducible first|refine zz ?_|refine zr ?_|refine zE [0,1,2,3,6,7,8,9,10,38] ?_)|simp -dsimp[hs]|refine zp c1 ?_|refine i9 ?_ ?_<;>intro h<;>try simp only[i7] at h
   ·have hxi:(x.dims.length:Int)≤(j:Int):=by omega
    rw[List.getElem?_eq_none (by omega)]
    simp only[Option.isSome_none,Option.getD_none]
    have hs:=za hy (za hlt (za hj hxi))
    repeat' first|(with_reducible first|refine zz ?_|refine zr ?_|refine zE [0,1,2,3,6,7,8,9,10,38] ?_)|simp -dsimp[hs]|refine zp c1 ?_|refine i9 ?_ ?_<;>intro h<;>try simp only[i7] at h
    all_goals exact⟨rfl,rfl,rfl⟩
theorem pR {c:Case} {n:Int} (h:T6 c n=0):r9 c=0∧0≤n∧n<c.pieces.length:=by
 unfold T6 at h
 by_cases h0:r9 c=0
 ·rw[if_neg (by simp[h0])] at h
  by_cases h1:0≤n∧n<c.pieces.length
  ·exact⟨h0,h1⟩
  ·rw[if_neg h1] at h;exact absurd h (by decide)
 ·rw[if_pos h0] at h;exact absurd h h0
theorem nv {c:Case} (h:aj c=true) {k:Nat} {y:Link} (hy:c.loop.links[k]?=some y):0≤y.dim∧y.dim≤3:=by
 have hok:=L7 h
 have hlt:=e7 hy
 have hlen:=hok.e
 rw[J0,Bool.and_eq_true,List.all_eq_true] at h
 have h3:k<(c.loop.links.zip c.pieces).length:=by rw[List.length_zip];omega
 have:=h.2 _ (List.getElem_mem h3)
 rw[List.getElem_zip] at this
 simp only[H1,Bool.and_eq_true,decide_eq_true_eq] at this
 rw[(List.getElem?_eq_some_iff.1 hy).2] at this
 exact this.2.1
def J8 (c:Case) (y:Link) (s:Int×Int) (lt:Int):Int×Int:=match xM c y lt with
 | some d=>(max s.1 d.lower,min s.2 d.upper)
 | none=>s
noncomputable def iY (c:Case) (n:Int):Int×Int:=match c.pieces[n.toNat]?,c.loop.links[n.toNat]? with
 | some x,some y=>(gr c n).foldl (J8 c y) (x.lo,x.hi)
 | _,_=>(0,0)
noncomputable def mo (c:Case) (n:Int):Int:=if T6 c n≠0 then T6 c n else if (iY c n).2<(iY c n).1 then 6 else 0
noncomputable def oP (c:Case) (n:Int):Int×Int:=if mo c n=0 then iY c n else (0,0)
theorem Ai (c:Case) (y:Link) (s:Int×Int) {L:List Int} {k:Nat} (h:k<L.length):(L.take (k+1)).foldl (J8 c y) s=J8 c y ((L.take k).foldl (J8 c y) s) L[k]:=by
 rw[List.take_succ_eq_append_getElem h,List.foldl_append]
 rfl
theorem AN (c:Case) (n:Int) (hG:o3 G) (hN:C7 G) (hS:u3 G) (hR:v6 G) (hk:KC c):zP prog G 44 [n5 c,iv n] (.tup [D3 (oP c n).1 (oP c n).2,iv (mo c n)]):=by
 refine zf func44 ntmps44 ?_
 try simp only[iv]
 have c1:=fB (G:=G) c n hG hN hS hR hk
 simp only[n5,j4] at c1
 by_cases h0:T6 c n=0
 ·obtain⟨he,hn0,hn1⟩:=pR h0
  obtain⟨hp0,hcb⟩:=B8 he
  have hr0:=(C6 hp0).2.2
  have hlen:=(L7 hcb).e
  obtain⟨k,rfl⟩:=Int.eq_ofNat_of_zero_le hn0
  have hlt1:k<c.pieces.length:=by omega
  have hlt2:k<c.loop.links.length:=by omega
  have hx0:c.pieces[k]?=some c.pieces[k]:=by simp[hlt1]
  have hy0:c.loop.links[k]?=some c.loop.links[k]:=by simp[hlt2]
  have hyd:=nv hcb hy0
  have hE:mo c (k:Int)=if (iY c (k:Int)).2<(iY c (k:Int)).1 then 6 else 0:=by unfold mo;rw[if_neg (by simp[h0])]
  have hO:oP c (k:Int)=if (if (iY c (k:Int)).2<(iY c (k:Int)).1 then (6:Int) else 0)=0 then iY c (k:Int) else (0,0):=by unfold oP;rw[hE]
  have hS':iY c (k:Int)=(gr c (k:Int)).foldl (J8 c c.loop.links[k]) (c.pieces[k].lo,c.pieces[k].hi):=by
   unfold iY;rw[Int.toNat_natCast,hx0,hy0]
  have hll:=yS c (k:Int)
  have hpl:=hk.p.p.q
  rw[hS'] at hE hO
  rw[← hE] at hO
  clear hS'
  generalize mo c (k:Int)=E at *
  generalize oP c (k:Int)=O at *
  rw[h0] at c1
  have c2:=fun lt=>uF (G:=G) c k _ lt hy0 hyd.1 hr0 hG hk
  generalize hx:c.pieces[k]=x at *
  generalize c.loop.links[k]=y at *
  generalize gr c (k:Int)=L at *
  simp only[n5,j4] at c2
  have hs:=za hx (za hlt1 h0)
  repeat' first|(with_reducible first|refine zz ?_|refine zE [0,1,2,4,5,6,7,8,10,11,12,20,29,30,31,32,42,59] ?_)|simp -dsimp[hs]|refine zp c1 ?_|refine i9 ?_ ?_<;>intro h<;>try simp only[i7] at h
  all_goals try clear hs
  obtain⟨S0,hS0⟩:∃ S0:Int×Int,S0=(x.lo,x.hi):=⟨_,rfl⟩
  rw[← hS0] at hE hO
  refine i6 (ι:={ q:Nat // q≤L.length }) (fun q=>⟨62,[(1,iv (k:Int)),(2,.one (.ptr 0 0)),(4,.one (.ptr 1 0)),(8,.one (.ptr 2 0)),(29,.one (.im (.sl (L.map Ab.encI)))),(30,iv (L.length:Int)),(31,iv (q.1:Int))],[.row ((j4 c).map .im),.row [.im (rI 0),.im (rI 0)],.row [.im (rI ((L.take q.1).foldl (J8 c y) S0).1),.im (rI ((L.take q.1).foldl (J8 c y) S0).2)]]⟩) (fun q=>L.length-q.1) ⟨0,by simp⟩ (zv [1,2,4,8,29,30,31] (by simp[hS0])) ?_
  rintro⟨q,hq1⟩
  simp only[iv]
  by_cases hlq:q<L.length
  ·have hw:=zk q
   have hst:=Ai c y S0 hlq
   have c3:=c2 L[q]
   generalize hv:L[q]=v at *
   generalize (L.take q).foldl (J8 c y) S0=s at *
   cases hd:xM c y v with
   | none =>
     have hst2:J8 c y s v=s:=by unfold J8;rw[hd]
     rw[hst2] at hst
     rw[hd] at c3
     simp only[Option.isSome_none,Option.getD_none] at c3
     have hs:=za hv (za hlq hw)
     repeat' first|(with_reducible first|refine zz ?_|refine zE [0,1,2,4,5,6,7,8,10,11,12,20,29,30,31,32,42,59] ?_)|simp -dsimp[hs]|refine zp c3 ?_|refine i9 ?_ ?_<;>intro h<;>try simp only[i7] at h
     all_goals try clear hs
     all_goals exact zn ⟨q+1,by omega⟩ (zw [1,2,4,8,29,30,31] 3 (by simp[hst]))
   | some z =>
     have hst2:J8 c y s v=(max s.1 z.lower,min s.2 z.upper):=by unfold J8;rw[hd]
     rw[hst2] at hst
     rw[hd] at c3
     simp only[Option.isSome_some,Option.getD_some] at c3
     have hs:=za hv (za hlq hw)
     repeat' first|(with_reducible first|refine zz ?_|refine zE [0,1,2,4,5,6,7,8,10,11,12,20,29,30,31,32,42,59] ?_)|simp -dsimp[hs]|refine zp c3 ?_|refine i9 ?_ ?_<;>intro h<;>try simp only[i7] at h
     all_goals try clear hs
     all_goals exact zn ⟨q+1,by omega⟩ (zw [1,2,4,8,29,30,31] 3 (by simp[hst]))
  ·obtain rfl:q=L.length:=by omega
   simp only[List.take_length]
   generalize L.foldl (J8 c y) S0=s at *
   by_cases hs2:s.2<s.1
   ·rw[if_pos hs2] at hE;subst hE;rw[if_neg (show ¬ (6:Int)=0 by decide)] at hO;subst hO
    have hs:=za hlq hs2
    repeat' first|(with_reducible first|refine zz ?_|refine zr ?_|refine zE [0,1,2,4,5,6,7,8,10,11,12,20,29,30,31,32,42,59] ?_)|simp -dsimp[hs]|refine i9 ?_ ?_<;>intro h<;>try simp only[i7] at h
    all_goals try clear hs
   ·rw[if_neg hs2] at hE;subst hE;rw[if_pos (show (0:Int)=0 from rfl)] at hO;subst hO
    have hs:=za hlq hs2
    repeat' first|(with_reducible first|refine zz ?_|refine zr ?_|refine zE [0,1,2,4,5,6,7,8,10,11,12,20,29,30,31,32,42,59] ?_)|simp -dsimp[hs]|refine i9 ?_ ?_<;>intro h<;>try simp only[i7] at h
    all_goals try clear hs
 ·have hE:mo c n=T6 c n:=by unfold mo;rw[if_pos h0]
  have hO:oP c n=(0,0):=by unfold oP;rw[if_neg (by rw[hE];exact h0)]
  rw[hE,hO]
  have hs:=h0
  repeat' first|(with_reducible first|refine zz ?_|refine zr ?_|refine zE [0,1,2,4,5,6,7,8,10,11,12,20,29,30,31,32,42,59] ?_)|simp -dsimp[hs]|refine zp c1 ?_|refine i9 ?_ ?_<;>intro h<;>try simp only[i7] at h
  all_goals try clear hs
attribute [simp] q8 bF r5 w7 nilV H8 ZK
def jC (c:Case) (s:List Int) (d:Int):Int:=gq c.p.n.notes (T9 s [] c.machine c.p.n.notes) d
def pa (c:Case) (s:List Int):Chains:=⟨c.p.n.reg,W1 c.p.n s c.machine,c.of,[c.loop]⟩
def Cc (c:Case) (s:List Int):Bool:=!decide (F3 (pa c s) 0=0) || !decide (R7 (pa c s) 0=2)
def rj (c:Case) (y:Link) (x:Piece) (l:Int):Bool:=match xM c y l with
 | none=>true
 | some z=>decide (x.lo≤z.upper)&&decide (z.lower≤x.hi)
def uu (c:Case) (y:Link) (x:Piece) (l:Int):Bool:=match xM c y l with
 | none=>false
 | some z=>!S8 x.lo x.hi z.lower z.upper
def G3 (c:Case) (y:Link) (x:Piece) (o:Int) (L:List J4) (l:Int):List J4:=ap (ap L (rj c y x l) (!decide (l=o),false)) (uu c y x l) (!decide (l=o),true)
noncomputable def jp (c:Case) (s:List Int) (k:Nat):List J4:=match c.pieces[k]?,c.loop.links[k]? with
 | some x,some y=>(E0 c k).foldl (G3 c y x (jC c s y.drawing)) []
 | _,_=>[]
noncomputable def H4 (c:Case) (s:List Int):Desk:=⟨c,Cc c s,(List.range c.pieces.length).map (jp c s)⟩
theorem lN (L:List J4) (so:Bool) (f:J4):(ap L so f).length≤L.length+1:=by
 unfold ap;split<;>simp
theorem sI (c:Case) (y:Link) (x:Piece) (o:Int) (L:List J4) (l:Int):(G3 c y x o L l).length≤L.length+2:=Nat.le_trans (lN _ _ _) (Nat.succ_le_succ (lN _ _ _))
theorem dj (c:Case) (y:Link) (x:Piece) (o:Int):∀ (l:List Int) (L:List J4),(l.foldl (G3 c y x o) L).length≤L.length+2*l.length
 | [],_=>by simp
 | a :: l,L=>by
   rw[List.foldl_cons,List.length_cons]
   have h1:=dj c y x o l (G3 c y x o L a)
   have h2:=sI c y x o L a
   omega
theorem CO (c:Case) (y:Link) (x:Piece) (o:Int) {L:List Int} {k:Nat} (h:k<L.length):(L.take (k+1)).foldl (G3 c y x o) []=G3 c y x o ((L.take k).foldl (G3 c y x o) []) L[k]:=by
 rw[List.take_succ_eq_append_getElem h,List.foldl_append]
 rfl
theorem iJ (c:Case) (k:Nat):(E0 c k).length≤c.p.prints.length+1:=by
 unfold E0
 split
 ·unfold N1
  split
  ·exact eT _ _ _ _
  ·simp
 ·simp
theorem bx {c:Case} (h0:l4 c.p.n.reg=0) (h:aj c=true) {k:Nat} (h1:k<c.pieces.length) (h2:k<c.loop.links.length):c.loop.links[k].drawing∈nums c.p.n.reg:=by
 rw[J0,Bool.and_eq_true,List.all_eq_true] at h
 have h3:k<(c.loop.links.zip c.pieces).length:=by rw[List.length_zip];omega
 have:=h.2 _ (List.getElem_mem h3)
 rw[List.getElem_zip] at this
 simp only[H1,Bool.and_eq_true] at this
 have h4:=this.1
 cases hf:o7 c.p.n.reg c.loop.links[k].drawing 1 with
 | none=>rw[hf] at h4;simp at h4
 | some z =>
   have hz:=List.find?_some hf
   simp only[Bool.and_eq_true,beq_iff_eq] at hz
   rw[← hz.1]
   exact(E4 h0).2 z (List.mem_of_find?_eq_some hf)
theorem nA (c:Case) (s:List Int) (he:r9 c=0) (ht:G7 (j6 (j8 c.p.n.notes)) s=true) (hsl:s.length<1000) (hG:o3 G) (hN:C7 G) (hS:u3 G) (hR:v6 G) (hC:L6 G) (hk:KC c):zP prog G 68 [n5 c,r7 s] (.one (.im (aA (H4 c s)))):=by
 refine zf func68 ntmps68 ?_
 try simp only[r7]
 obtain⟨hp0,hcb⟩:=B8 he
 obtain⟨hn0,hpb,hr0⟩:=C6 hp0
 have hok:=L7 hcb
 have hlen:=hok.e
 have hl8:=hok.l
 have hpl:=hk.p.p.q
 have hmc:1≤c.machine∧c.machine≤999:=by
  rw[J0,Bool.and_eq_true] at hcb
  have:=hcb.1
  simp only[dG,Bool.and_eq_true,decide_eq_true_eq] at this
  exact this.2.1
 have hA:C0 c.p.n s c.machine=0:=by
  unfold C0;rw[if_neg (by simp[hn0]),if_neg (by rw[ht];decide),if_pos hmc]
 have c1:=rY (G:=G) c.p.n s c.machine hG hN hS hk.p.n hsl
 rw[hA,if_pos rfl,sn] at c1
 have hnl:=u6 c.p.n.reg c.p.n.reg.length
 have hr80:=hk.p.n.1.1
 have hown:(W1 c.p.n s c.machine).length=(nums c.p.n.reg).length:=by unfold W1;rw[List.length_map]
 have hsc:lR (pa c s):=⟨hk.p.n.1,by show (W1 c.p.n s c.machine).length≤80;rw[hown,nums];omega,by simp[pa],fun x hx=>by simp[pa] at hx;subst hx;omega⟩
 have c2:=vC (G:=G) (pa c s) 0 hG hC hsc JG
 have hnb:Cc c s=(!decide (F3 (pa c s) 0=0) || !decide (R7 (pa c s) 0=2)):=rfl
 have c3:=cb (G:=G) c.p.n.reg hG hk.p.n.1
 have hdr:dA c.p.n.reg=nums c.p.n.reg:=by unfold dA;rw[if_pos hr0]
 rw[hdr,hr0] at c3
 have hD:H4 c s=⟨c,Cc c s,(List.range c.pieces.length).map (jp c s)⟩:=rfl
 have hE:aA (H4 c s)=.ip (j4 c++[.raw (.bool (Cc c s)),.sl (((List.range c.pieces.length).map (jp c s)).map J3)]):=by rw[hD];rfl
 rw[hE]
 clear hD hE
 have hcs:(¬ F3 (pa c s) 0=0∧True∧Cc c s=true)∨(F3 (pa c s) 0=0∧R7 (pa c s) 0=2∧Cc c s=false)∨(F3 (pa c s) 0=0∧¬ R7 (pa c s) 0=2∧Cc c s=true):=by
  rw[hnb]
  by_cases g1:F3 (pa c s) 0=0<;>by_cases g2:R7 (pa c s) 0=2<;>simp[g1,g2]
 have hfl:∀ k,k<c.pieces.length→∀ x y,c.pieces[k]?=some x→c.loop.links[k]?=some y→jp c s k=(E0 c k).foldl (G3 c y x (jC c s y.drawing)) []:=fun k _ x y hx hy=>by unfold jp;rw[hx,hy]
 have hown2:∀ d,d∈nums c.p.n.reg→(W1 c.p.n s c.machine)[lb (nums c.p.n.reg) d]?=some (jC c s d):=fun d hd=>by
  have h1:=(si ((E4 hr0).1.imp fun h=>Int.le_of_lt h)).1 hd
  unfold W1 jC
  rw[List.getElem?_map,h1]
  rfl
 generalize F3 (pa c s) 0=le at *
 generalize R7 (pa c s) 0=ck at *
 generalize Cc c s=nb at *
 simp only[Bt,pa,P6,G4,G9,p7,u5,n5,j4,List.map_cons,List.map_nil] at c1 c2 c3 ⊢
 generalize W1 c.p.n s c.machine=LT at *
 have hs:True:=trivial
 rcases hcs with⟨g1,g2,gn⟩|⟨g1,g2,gn⟩|⟨g1,g2,gn⟩
 all_goals
  have hs:=za g1 g2
  repeat' first|with_reducible refine zz ?_|simp -dsimp[hs]|refine zp c1 ?_|refine zt c2 ?_ ?_ ?_;(focus simp;done);focus (simp;done)|refine zp c3 ?_|with_reducible refine P0 (id:=1) (nt:=172) [0,1,2,4,5,6,8,9,10,11,13,14,16,17,19,20,21,22,71,72,73,93,94,95,96] rfl ?_;simp -dsimp[hs]|with_reducible refine zE [0,1,2,4,5,6,8,9,10,11,13,14,16,17,19,20,21,22,71,72,73,93,94,95,96] ?_
  all_goals try clear hs
 all_goals
  refine i6 (ι:={ q:Nat×Nat×Nat×Bool // q.1≤c.pieces.length∧(q.2.2.1=1∨q.2.2.2=true) }) (fun q=>⟨172,[(2,.one (.ptr 0 0)),(5,.one (.ptr 8 0)),(6,r7 LT),(11,r7 (nums c.p.n.reg)),(71,iv (c.pieces.length:Int)),(72,iv (q.1.1:Int))],[.row ((j4 c).map .im),.vec 0 [] 0 true,.vec 0 [] 0 true,.vec 0 [] 0 true,.vec 0 [] 0 true,.vec 0 [] 0 true,.vec 0 [] 0 true,.vec q.1.2.2.1 (l7 (((List.range q.1.1).map (jp c s)).map J3)) q.1.2.1 q.1.2.2.2,.row ((j4 c).map .im++[.im (.raw (.bool nb)),.vec 7 q.1.2.1 0 q.1.1]),.vec 0 [] 0 true,.row [.im (.sl (c.p.n.reg.map e9))]]⟩) (fun q=>c.pieces.length-q.1.1) ⟨(0,0,0,true),by simp⟩ (zw [2,5,6,11,71,72] 11 (by simp[gn,l7])) ?_
  clear c1 c2 g1 g2 gn
  rintro⟨⟨k,g,sz,nl⟩,hk1,hz⟩
  simp only at hk1 hz
  simp only[iv]
  by_cases hlt:k<c.pieces.length
  ·have hlt2:k<c.loop.links.length:=by omega
   have hw:=zk k
   have hx0:c.pieces[k]?=some c.pieces[k]:=by simp[hlt]
   have hy0:c.loop.links[k]?=some c.loop.links[k]:=by simp[hlt2]
   have hyd:=nv hcb hy0
   have hFk:=hfl k hlt _ _ hx0 hy0
   have hdm:c.loop.links[k].drawing∈nums c.p.n.reg:=bx hr0 hcb hlt hlt2
   have hol:=hown2 _ hdm
   have c4:=nw (G:=G) (nums c.p.n.reg) c.loop.links[k].drawing ((E4 hr0).1.imp fun h=>Int.le_of_lt h) (by rw[nums];omega)
   have c5:=yN (G:=G) c k hlt hlt2 hG hN hS hR hk
   have c6:=fun lt=>uF (G:=G) c k _ lt hy0 hyd.1 hr0 hG hk
   have hml:=iJ c k
   have hfold:=fun j=>dj c c.loop.links[k] c.pieces[k] (jC c s c.loop.links[k].drawing) ((E0 c k).take j) []
   generalize hx:c.pieces[k]=x at *
   generalize hy:c.loop.links[k]=y at *
   generalize jC c s y.drawing=o at *
   generalize lb (nums c.p.n.reg) y.drawing=at0 at *
   have hlo:at0<LT.length:=e7 hol
   have hLo:LT[at0]=o:=(List.getElem?_eq_some_iff.1 hol).2
   generalize hM:E0 c k=M at *
   simp only[n5,j4] at c5 c6
   have hs:=za hx (za hy (za hlt (za hlt2 hw)))
   repeat' first|(with_reducible first|refine zz ?_|refine zE [0,1,2,4,5,6,8,9,10,11,13,14,16,17,19,20,21,22,71,72,73,93,94,95,96] ?_)|simp -dsimp[hs]|refine zp c4 ?_|refine zp c5 ?_|refine i9 ?_ ?_<;>intro h<;>try simp only[i7] at h
   all_goals try clear hs
   refine i6 (ι:={ p:Nat×Nat×Nat×Bool // p.1≤M.length∧(p.2.2.1=2∨p.2.2.2=true) }) (fun p=>⟨172,[(2,.one (.ptr 0 0)),(5,.one (.ptr 8 0)),(6,r7 LT),(11,r7 (nums c.p.n.reg)),(13,iv (k:Int)),(14,iv (at0:Int)),(16,.one (.ptr 12 0)),(17,.one (.fn (.func 134) [.ptr 12 0])),(71,iv (c.pieces.length:Int)),(72,iv (k:Int)),(93,r7 M),(94,iv (M.length:Int)),(95,iv (p.1.1:Int))],[.row ((j4 c).map .im),.vec 0 [] 0 true,.vec 0 [] 0 true,.vec 0 [] 0 true,.vec 0 [] 0 true,.vec 0 [] 0 true,.vec 0 [] 0 true,.vec sz (l7 (((List.range k).map (jp c s)).map J3)) g nl,.row ((j4 c).map .im++[.im (.raw (.bool nb)),.vec 7 g 0 k]),.vec 0 [] 0 true,.row [.im (.sl (c.p.n.reg.map e9))],.vec p.1.2.2.1 (l7 (((M.take p.1.1).foldl (G3 c y x o) []).map C3)) p.1.2.1 p.1.2.2.2,.row [.vec 11 p.1.2.1 0 ((M.take p.1.1).foldl (G3 c y x o) []).length]]⟩) (fun p=>M.length-p.1.1) ⟨(0,0,0,true),by simp⟩ (zv [2,5,6,11,13,14,16,17,71,72,93,94,95] (by simp[l7])) ?_
   rintro⟨⟨j,g2,sz2,nl2⟩,hj,hz2⟩
   simp only at hj hz2
   simp only[iv,r7]
   by_cases hlj:j<M.length
   ·have hwj:=zk j
    have hst:=CO c y x o hlj
    have hfj:=hfold j
    have c7:=c6 M[j]
    generalize hv:M[j]=v at *
    generalize (M.take j).foldl (G3 c y x o) []=F at *
    rw[List.length_take,List.length_nil] at hfj
    have hF1:=lN F (rj c y x v) (!decide (v=o),false)
    have c8:=AT (G:=G) F g2 sz2 nl2 (rj c y x v) (!decide (v=o),false) (by omega) hz2
    have c9:=fun g sz nl hz=>AT (G:=G) (ap F (rj c y x v) (!decide (v=o),false)) g sz nl (uu c y x v) (!decide (v=o),true) (by omega) hz
    rw[show G3 c y x o F v=ap (ap F (rj c y x v) (!decide (v=o),false)) (uu c y x v) (!decide (v=o),true) from rfl] at hst
    simp only[jo,C3,bv,List.map_cons,List.map_nil] at c8 c9
    have hcs:(xM c y v=none∧rj c y x v=true∧uu c y x v=false)∨∃ z,xM c y v=some z∧rj c y x v=(decide (x.lo≤z.upper)&&decide (z.lower≤x.hi))∧uu c y x v=!S8 x.lo x.hi z.lower z.upper:=by
     unfold rj uu
     cases xM c y v with
     | none=>exact .inl ⟨rfl,rfl,rfl⟩
     | some z=>exact .inr ⟨z,rfl,rfl,rfl⟩
    generalize rj c y x v=b1 at *
    generalize uu c y x v=b2 at *
    rcases hcs with⟨e1,rfl,rfl⟩|⟨z,e1,e2,e3⟩
    ·rw[e1] at c7
     simp only[Option.isSome_none,Option.getD_none,Eg] at c7
     have hs:=za hx (za hy (za hv (za hlt (za hlt2 (za hlj (za hwj (za hlo hLo)))))))
     repeat' first|with_reducible refine zz ?_|simp -dsimp[hs]|refine zp c7 ?_|refine CallE.embed_ex [12,11] (c8) ?_ ?_ ?_ ?_ ?_ ?_;(focus simp[p8];done);(focus simp;done);(focus simp;done);(focus simp;done);(focus refine n3 ?_;simp[p8,n8];done);intro mmA hmmA;try simp -dsimp[l9,p8,hs]|refine CallE.embed_ex [12,11] ((c9 mmA.1 mmA.2.1 mmA.2.2 hmmA)) ?_ ?_ ?_ ?_ ?_ ?_;(focus simp[p8];done);(focus simp;done);(focus simp;done);(focus simp;done);(focus refine n3 ?_;simp[p8,n8];done);intro mmB hmmB;try simp -dsimp[l9,p8,hs]|refine zM 18 172 24 [0,1,2,4,5,6,8,9,10,11,13,14,16,17,19,20,21,22,71,72,73,93,94,95,96] ?_|refine zM 19 172 18 [0,1,2,4,5,6,8,9,10,11,13,14,16,17,19,20,21,22,71,72,73,93,94,95,96] ?_|with_reducible refine zE [0,1,2,4,5,6,8,9,10,11,13,14,16,17,19,20,21,22,71,72,73,93,94,95,96] ?_|refine i9 ?_ ?_<;>intro h<;>try simp only[i7] at h
     all_goals try clear hs
     all_goals exact zn ⟨(j+1,mmB.1,mmB.2.1,mmB.2.2),by simp only;omega,hmmB⟩ (zw [2,5,6,11,13,14,16,17,71,72,93,94,95] 13 (by simp[hst]))
    ·rw[e1] at c7
     simp only[Option.isSome_some,Option.getD_some] at c7
     have c10:=bk (G:=G) x.lo x.hi z.lower z.upper
     generalize S8 x.lo x.hi z.lower z.upper=ib at *
     have hcs2:(x.lo≤z.upper∧z.lower≤x.hi∧b1=true)∨(x.lo≤z.upper∧¬ z.lower≤x.hi∧b1=false)∨(¬ x.lo≤z.upper∧True∧b1=false):=by
      by_cases q1:x.lo≤z.upper<;>by_cases q2:z.lower≤x.hi<;>simp[q1,q2,e2]
     clear e2
     subst e3
     simp only[D3] at c10
     rcases hcs2 with⟨q1,q2,rfl⟩|⟨q1,q2,rfl⟩|⟨q1,q2,rfl⟩
     all_goals
      have hs:=za hx (za hy (za hv (za hlt (za hlt2 (za hlj (za hwj (za hlo (za hLo (za q1 q2)))))))))
      repeat' first|with_reducible refine zz ?_|simp -dsimp[hs]|refine zp c7 ?_|refine zq c10 ?_|refine CallE.embed_ex [12,11] (c8) ?_ ?_ ?_ ?_ ?_ ?_;(focus simp[p8];done);(focus simp;done);(focus simp;done);(focus simp;done);(focus refine n3 ?_;simp[p8,n8];done);intro mmA hmmA;try simp -dsimp[l9,p8,hs]|refine CallE.embed_ex [12,11] ((c9 mmA.1 mmA.2.1 mmA.2.2 hmmA)) ?_ ?_ ?_ ?_ ?_ ?_;(focus simp[p8];done);(focus simp;done);(focus simp;done);(focus simp;done);(focus refine n3 ?_;simp[p8,n8];done);intro mmB hmmB;try simp -dsimp[l9,p8,hs]|refine zM 18 172 24 [0,1,2,4,5,6,8,9,10,11,13,14,16,17,19,20,21,22,71,72,73,93,94,95,96] ?_|refine zM 19 172 18 [0,1,2,4,5,6,8,9,10,11,13,14,16,17,19,20,21,22,71,72,73,93,94,95,96] ?_|with_reducible refine zE [0,1,2,4,5,6,8,9,10,11,13,14,16,17,19,20,21,22,71,72,73,93,94,95,96] ?_|refine i9 ?_ ?_<;>intro h<;>try simp only[i7] at h
      all_goals try clear hs
     all_goals exact zn ⟨(j+1,mmB.1,mmB.2.1,mmB.2.2),by simp only;omega,hmmB⟩ (zw [2,5,6,11,13,14,16,17,71,72,93,94,95] 13 (by simp[hst]))
   ·obtain rfl:j=M.length:=by omega
    simp only[List.take_length]
    have hfM:=hfold M.length
    rw[List.take_length,List.length_nil] at hfM
    have hrs:((List.range (k+1)).map (jp c s)).map J3=((List.range k).map (jp c s)).map J3++[[.sl ((M.foldl (G3 c y x o) []).map C3)]]:=by
     rw[List.range_succ,List.map_append,List.map_append]
     simp[hFk]
    have hrl:(((List.range k).map (jp c s)).map J3).length=k:=by simp
    generalize M.foldl (G3 c y x o) []=F at *
    generalize ((List.range k).map (jp c s)).map J3=Fqs at *
    have htk:List.take F.length (l7 (F.map C3))=l7 (F.map C3):=List.take_of_length_le (by simp[l7])
    have htkF:List.take k (l7 Fqs)=l7 Fqs:=List.take_of_length_le (by simp[l7,hrl])
    have hrs2:l7 (((List.range (k+1)).map (jp c s)).map J3)=l7 Fqs++[[.im (.sl (F.map C3))]]:=by rw[hrs];simp[l7]
    have hrs3:=hrs2
    rw[List.map_map] at hrs3
    clear hrs
    have hs:=za hlj (za hz (za hw hrl))
    repeat' first|(with_reducible first|refine zz ?_|refine And.intro (by omega) ?_)|simp -dsimp[hs]|refine fF (id:=21) (nt:=172) [0,1,2,3,4,5,6,7,8,9,10] 6 [([0,1,2,3,4],[0,1,2,4,5,6,8,9,10,11,13,14,16,17,19,20,21,22,71,72,73,93,94,95,96,165]),([0],[0,1,2,4,5,6,8,9,10,11,13,14,16,17,19,20,21,22,71,72,73,93,94,95,96,164,166])] [0,1,2,4,5,6,8,9,10,11,13,14,16,17,19,20,21,22,71,72,73,93,94,95,96] mixed rfl (by kernel_rfl) (by kernel_rfl) ?_|with_reducible refine zE [0,1,2,4,5,6,8,9,10,11,13,14,16,17,19,20,21,22,71,72,73,93,94,95,96] ?_|refine i9 ?_ ?_<;>intro h<;>try simp only[i7] at h
    all_goals try clear hs
    all_goals exact zn ⟨(k+1,g+1,1,false),by simp only;omega,.inl rfl⟩ (zw [2,5,6,11,71,72] 11 (by simp[htk,htkF,hrs3]))
  ·obtain rfl:k=c.pieces.length:=by omega
   have hrl:(((List.range c.pieces.length).map (jp c s)).map J3).length=c.pieces.length:=by simp
   generalize hFS:((List.range c.pieces.length).map (jp c s)).map J3=Fqs at *
   have htk:List.take c.pieces.length (l7 Fqs)=l7 Fqs:=List.take_of_length_le (by simp[l7,hrl])
   have hs:=za hlt (za htk hrl)
   repeat' first|(with_reducible first|refine zz ?_|refine zr ?_|refine zE [0,1,2,4,5,6,8,9,10,11,13,14,16,17,19,20,21,22,71,72,73,93,94,95,96] ?_)|simp -dsimp[hs]|refine i9 ?_ ?_<;>intro h<;>try simp only[i7] at h
   all_goals try clear hs
   all_goals rw[← hFS]
   all_goals simp
attribute [simp] q8 bF r5 w7 nilV H8 ZK
noncomputable def eP (c:Case) (O:List Int) (k:Nat):List Desk:=(pi O k).map (H4 c)
noncomputable def n9 (c:Case):List Desk:=(N9 (j6 (j8 c.p.n.notes))).map (H4 c)
theorem wA (c:Case) (O:List Int) (k:Nat):(eP c O k).length=k:=by simp[eP,kq]
theorem sX (c:Case) (O:List Int) (k:Nat):eP c O (k+1)=eP c O k++[H4 c (O6 O k O.length)]:=by simp[eP,mA]
theorem sW (c:Case) (O:List Int):eP c O 0=[]:=rfl
theorem mG (N:List Int) (s:Nat):∀ k,k≤N.length→(O6 N s k).Sublist (N.take k)
 | 0,_=>by simp[O6]
 | k+1,hk=>by
   have hk':k<N.length:=hk
   rw[dO,List.take_succ_eq_append_getElem hk',show N.getD k 0=N[k] by simp[hk']]
   refine(mG N s k (by omega)).append ?_
   split
   ·exact List.Sublist.refl _
   ·exact List.nil_sublist _
theorem nO (O:List Int) (k:Nat):(O6 O k O.length).Sublist O:=by
 have:=mG O k O.length (Nat.le_refl _)
 rwa [List.take_length] at this
theorem rq {O t:List Int} (hO:O.Pairwise (· < ·)) (ht:t.Sublist O):G7 O t=true:=by
 refine kn fun i v hv=>⟨ht.subset (List.mem_of_getElem? hv),fun j u hj hu=>?_⟩
 subst hj
 obtain⟨h1,h2⟩:=List.getElem?_eq_some_iff.1 hv
 obtain⟨h3,h4⟩:=List.getElem?_eq_some_iff.1 hu
 have:=List.pairwise_iff_getElem.1 (hO.sublist ht) j (j+1) h3 h1 (by omega)
 omega
theorem wP (c:Case):zP prog G 127 [n5 c] (.one (.im (.fn (.func 192) [.ip (j4 c)]))):=by
 refine zf func127 ntmps127 ?_
 try simp only[iv]
 simp only[n5,j4]
 repeat' first|(with_reducible first|refine zz ?_|refine zx ?_|refine zE [0,1,2] ?_)|simp -dsimp
theorem tx (c:Case) (he:r9 c=0) (hG:o3 G) (hN:C7 G) (hS:u3 G) (hR:v6 G) (hC:L6 G) (hk:KC c):zP prog G 191 [.one (.im (.raw (.slice none 0 0))),.one (.im (.fn (.func 192) [.ip (j4 c)]))] (ae (n9 c)):=by
 refine zf func191 ntmps191 ?_
 try simp only[iv]
 obtain⟨hp0,hcb⟩:=B8 he
 obtain⟨hn0,hpb,hr0⟩:=C6 hp0
 have hnk:=bc hn0
 have hn12:=hnk.2.1
 have hO5:(j6 (j8 c.p.n.notes)).length≤5:=by rw[om];exact hnk.2.2.2
 have hstr:=ol (jg hnk.2.2.1)
 have hE:n9 c=eP c (j6 (j8 c.p.n.notes)) (2 ^ (j6 (j8 c.p.n.notes)).length):=rfl
 rw[hE]
 clear hE
 have c1:=fun k=>nA (G:=G) c (O6 (j6 (j8 c.p.n.notes)) k (j6 (j8 c.p.n.notes)).length) he (rq hstr (nO _ k)) (by have:=fQ (j6 (j8 c.p.n.notes)) k (j6 (j8 c.p.n.notes)).length;omega) hG hN hS hR hC hk
 have hcn:j4 c=[.sl (c.p.n.reg.map e9),.sl (c.p.n.notes.map l5)]++(j4 c).drop 2:=rfl
 simp only[ae]
 have hs:=trivial
 repeat' first|(with_reducible first|refine zz ?_|refine zE [0,1,2,4,5,6,7] ?_)|simp -dsimp[hs]
 all_goals try clear hs
 refine uL (Weak.nilCell 0 0 rfl rfl) ?_
 have hs:True:=trivial
 all_goals try simp -dsimp[hs]
 all_goals try clear hs
 refine M8 (f:=192) (by simp;exact rfl) (by rfl) call192 ?_
 generalize hR:LoopD.mk _ _ _ _ _ _ _=R
 have hR1:R.st=.ready:=by rw[← hR]
 have hR2:R.pend=none:=by rw[← hR]
 have hR3:R.at .ready none=R:=by rw[← hR];rfl
 have hR4:=(congrArg LoopD.nt hR).symm
 have hR5:=(congrArg LoopD.tm hR).symm
 have hR6:=(congrArg LoopD.ps hR).symm
 have hR7:=(congrArg LoopD.asg hR).symm
 have hR8:=(congrArg LoopD.body hR).symm
 dsimp only at hR4 hR5 hR6 hR7 hR8
 clear hR
 refine g9 func192 rfl ntmps192 (by simp) rfl ?_
 have hR10:∀ objs:List DObj,(R.tm.map fun x=>(x.1,eO 4 objs x.2))=R.tm:=by intro objs;rw[hR5];simp
 have hR9:∀ objs:List DObj,(R.tm.map fun x=>(x.1,eO 5 objs x.2))=R.tm:=by intro objs;rw[hR5];simp
 have hs:=za hR1 (za hR2 hR3)
 repeat' first|(with_reducible first|refine zz ?_|refine zE [0,1,2,3,4,5,6,7,8,9,13,14,15,16,21,32,33,34,36,37,38,39,47,58] ?_)|simp -dsimp[hs]
 all_goals try clear hs
 refine i6 (ι:={ p:Nat×Nat×Nat×Bool // p.1≤c.p.n.notes.length∧(p.2.2.1=1∨p.2.2.2=true∧j8 (c.p.n.notes.take p.1)=[]) }) (fun p=>⟨60,[(0,.one (.yld 3)),(1,.one (.im (.ip (j4 c)))),(3,.one (.vec 4 p.1.2.1 0 (j8 (c.p.n.notes.take p.1.1)).length)),(13,.one (.im (.sl (c.p.n.notes.map l5)))),(14,iv (c.p.n.notes.length:Int)),(15,iv (p.1.1:Int))],[.row [.vec 2 0 0 0],.vec 1 [] 0 true,.vec 0 [] 0 true,.loop R,.vec p.1.2.2.1 (l7 ((j8 (c.p.n.notes.take p.1.1)).map Ab.encI)) p.1.2.1 p.1.2.2.2]⟩) (fun p=>c.p.n.notes.length-p.1.1) ⟨(0,0,1,true),by simp[j8]⟩ (zv [0,1,3,13,14,15] (by simp[j8,l7])) ?_
 rintro⟨⟨k,g,sz,nl⟩,hk,hz⟩
 simp only at hk hz
 simp only[iv]
 have hz':sz=1∨nl=true:=hz.imp id And.left
 by_cases hlt:k<c.p.n.notes.length
 ·have hx0:c.p.n.notes[k]?=some c.p.n.notes[k]:=by simp[hlt]
  have hw:=zk k
  have hos:=bQ c.p.n.notes k hlt
  have hol:=Y5 (c.p.n.notes.take k)
  rw[List.length_take] at hol
  generalize hx:c.p.n.notes[k]=x at *
  by_cases hsg:x.signed=1
  ·rw[if_pos hsg] at hos
   have hs:=za hR1 (za hR2 (za hR3 (za hx (za hlt (za hsg (za hw hz'))))))
   repeat' first|(with_reducible first|refine zz ?_|refine And.intro (by omega) ?_|refine zE [0,1,2,3,4,5,6,7,8,9,13,14,15,16,21,32,33,34,36,37,38,39,47,58] ?_)|simp -dsimp[hs]|refine i9 ?_ ?_<;>intro h<;>try simp only[i7] at h
   all_goals try clear hs
   exact zn ⟨(k+1,g+1,1,false),by omega,.inl rfl⟩ (zw [0,1,3,13,14,15] 5 (by clear hR4 hR5 hR6 hR7 hR8;simp[hos,hR1,hR2,hR3,hR9,LoopD.at_eta]))
  ·rw[if_neg hsg,List.append_nil] at hos
   have hszn:sz=1∨nl=true∧j8 (c.p.n.notes.take (k+1))=[]:=by rw[hos];exact hz
   have hs:=za hR1 (za hR2 (za hR3 (za hx (za hlt (za hsg hw)))))
   repeat' first|(with_reducible first|refine zz ?_|refine zE [0,1,2,3,4,5,6,7,8,9,13,14,15,16,21,32,33,34,36,37,38,39,47,58] ?_)|simp -dsimp[hs]|refine i9 ?_ ?_<;>intro h<;>try simp only[i7] at h
   all_goals try clear hs
   exact zn ⟨(k+1,g,sz,nl),by omega,hszn⟩ (zw [0,1,3,13,14,15] 5 (by clear hR4 hR5 hR6 hR7 hR8;simp[hos,hR1,hR2,hR3,hR9,LoopD.at_eta]))
 ·obtain rfl:k=c.p.n.notes.length:=by omega
  simp only[List.take_length] at hz ⊢
  have hol:=Y5 c.p.n.notes
  have c2:=hS (j8 c.p.n.notes) g sz nl hz (by omega)
  have hil:=H3 (j8 c.p.n.notes)
  have htk:(l7 ((j6 (j8 c.p.n.notes)).map Ab.encI)).take (j8 c.p.n.notes).length=l7 ((j6 (j8 c.p.n.notes)).map Ab.encI):=List.take_of_length_le (by simp[q9,hil])
  clear hz
  rw[← hil] at c2 htk
  rw[← hil]
  generalize j6 (j8 c.p.n.notes)=O at *
  have hPe:(2:Nat) ^ O.length≤2 ^ 5:=Nat.pow_le_pow_right (by omega) hO5
  have hmin:min O.length 64=O.length:=by omega
  have hb64:IntKind.i64.bits=64:=rfl
  have hlnn:¬ ((O.length:Int)<0):=by omega
  have hsh:IntKind.i64.wrap ((2:Int) ^ O.length)=((2 ^ O.length:Nat):Int):=by
   rw[show ((2:Int) ^ O.length)=((2 ^ O.length:Nat):Int) by simp]
   exact(fun (P:Nat) (h:P≤2 ^ 5)=>(o4 (by omega) (by omega):IntKind.i64.wrap (P:Int)=(P:Int))) _ hPe
  generalize hP:2 ^ O.length=P at *
  have hs:=za hR1 (za hR2 (za hR3 (za hlt (za hmin (za hb64 (za hlnn hsh))))))
  repeat' first|(with_reducible first|refine zz ?_|refine zE [0,1,2,3,4,5,6,7,8,9,13,14,15,16,21,32,33,34,36,37,38,39,47,58] ?_)|simp -dsimp[hs]|refine CallE.embed [4] (c2) ?_ ?_ ?_ ?_ ?_ ?_;(focus simp[p8];done);(focus simp;done);(focus simp;done);(focus simp;done);(focus refine n3 ?_;simp[p8,n8];done);try simp -dsimp[l9,p8,hs]|refine i9 ?_ ?_<;>intro h<;>try simp only[i7] at h
  all_goals try clear hs
  clear c2 hlt
  refine i6 (ι:={ p:Nat×Nat×Nat×Bool // p.1≤P∧((p.2.2.1=1∧p.2.2.2=false)∨(p.2.2.1=0∧p.2.2.2=true∧p.1=0)) }) (fun p=>⟨60,[(0,.one (.yld 3)),(1,.one (.im (.ip (j4 c)))),(3,r7 O),(32,iv (P:Int)),(33,iv (p.1.1:Int))],[.row [.vec 2 p.1.2.1 0 p.1.1],.vec 1 [] 0 true,.vec p.1.2.2.1 (l7 ((eP c O p.1.1).map T0)) p.1.2.1 p.1.2.2.2,.loop R]⟩) (fun p=>P-p.1.1) ⟨(0,0,0,true),by simp⟩ (zw [0,1,3,32,33] 4 (by clear hR4 hR5 hR6 hR7 hR8;simp[sW,hR1,hR2,hR3,hR10,LoopD.at_eta,htk,hz'])) ?_
  rintro⟨⟨k,g1,sz1,nl1⟩,hk,hz⟩
  simp only at hk hz
  simp only[iv,r7]
  have hkl:=wA c O k
  by_cases hlt:k<P
  ·have hw:=zk k
   have hst:=sX c O k
   have hc1:=c1 k
   have hz0:O6 O k 0=[]:=by simp[O6]
   generalize eP c O k=L at *
   have hs:=za hR1 (za hR2 (za hR3 hlt))
   repeat' first|(with_reducible first|refine zz ?_|refine zE [0,1,2,3,4,5,6,7,8,9,13,14,15,16,21,32,33,34,36,37,38,39,47,58] ?_)|simp -dsimp[hs]|refine i9 ?_ ?_<;>intro h<;>try simp only[i7] at h
   all_goals try clear hs
   refine i6 (ι:={ p:Nat×Nat×Bool // p.1≤O.length }) (fun p=>⟨60,[(0,.one (.yld 3)),(1,.one (.im (.ip (j4 c)))),(3,r7 O),(6,iv (k:Int)),(7,.one (.vec 4 p.1.2.1 0 (O6 O k p.1.1).length)),(32,iv (P:Int)),(33,iv (k:Int)),(36,r7 O),(37,iv (O.length:Int)),(38,iv (p.1.1:Int))],[.row [.vec 2 g1 0 k],.vec 1 [] 0 true,.vec sz1 (l7 (L.map T0)) g1 nl1,.loop R,.vec 1 (l7 ((O6 O k p.1.1).map Ab.encI)) p.1.2.1 p.1.2.2]⟩) (fun p=>O.length-p.1.1) ⟨(0,0,true),by simp⟩ (zv [0,1,3,6,7,32,33,36,37,38] (by simp[hz0,l7])) ?_
   rintro⟨⟨i,g2,nl2⟩,hi⟩
   simp only at hi
   simp only[iv,r7]
   by_cases hil:i<O.length
   ·have hwi:=zk i
    have hi63:min i 64=i:=by omega
    have hin:¬ ((i:Int)<0):=by omega
    have hbit:=Az k i
    have hSl:=fQ O k i
    have hsu:O6 O k (i+1)=O6 O k i++(if k.testBit i=true then [O[i]] else []):=by
     rw[dO,show O.getD i 0=O[i] by simp[hil]]
    generalize hx:O[i]=x at *
    generalize O6 O k i=S at *
    cases hb:k.testBit i
    ·rw[hb] at hbit hsu
     simp at hbit
     rw[if_neg Bool.false_ne_true,List.append_nil] at hsu
     have hs:=za hR1 (za hR2 (za hR3 (za hx (za hil (za hwi (za hin (za hi63 (za hb64 hbit))))))))
     repeat' first|(with_reducible first|refine zz ?_|refine zE [0,1,2,3,4,5,6,7,8,9,13,14,15,16,21,32,33,34,36,37,38,39,47,58] ?_)|simp -dsimp[hs]|refine i9 ?_ ?_<;>intro h<;>try simp only[i7] at h
     all_goals try clear hs
     all_goals exact zn ⟨(i+1,g2,nl2),by simp only;omega⟩ (zw [0,1,3,6,7,32,33,36,37,38] 5 (by clear hR4 hR5 hR6 hR7 hR8;simp[hsu,hR1,hR2,hR3,hR9,LoopD.at_eta]))
    ·rw[hb] at hbit hsu
     simp at hbit
     rw[if_pos rfl] at hsu
     have hs:=za hR1 (za hR2 (za hR3 (za hx (za hil (za hwi (za hin (za hi63 (za hb64 hbit))))))))
     repeat' first|(with_reducible first|refine zz ?_|refine And.intro (by omega) ?_|refine zE [0,1,2,3,4,5,6,7,8,9,13,14,15,16,21,32,33,34,36,37,38,39,47,58] ?_)|simp -dsimp[hs]|refine i9 ?_ ?_<;>intro h<;>try simp only[i7] at h
     all_goals try clear hs
     all_goals exact zn ⟨(i+1,g2+1,false),by simp only;omega⟩ (zw [0,1,3,6,7,32,33,36,37,38] 5 (by clear hR4 hR5 hR6 hR7 hR8;simp[hsu,hR1,hR2,hR3,hR9,LoopD.at_eta]))
   ·obtain rfl:i=O.length:=by omega
    generalize O6 O k O.length=S at *
    simp only[n5,j4] at hc1
    have hSt:(l7 (S.map Ab.encI)).take S.length=l7 (S.map Ab.encI):=List.take_of_length_le (by simp[q9])
    rcases hz with⟨rfl,rfl⟩|⟨rfl,rfl,rfl⟩
    ·subst hkl
     have hs:=za hR1 (za hR2 (za hR3 (za hil hw)))
     repeat' first|(with_reducible first|refine zz ?_|refine And.intro (by omega) ?_|refine zE [0,1,2,3,4,5,6,7,8,9,13,14,15,16,21,32,33,34,36,37,38,39,47,58] ?_)|simp -dsimp[hs]|with_reducible refine At.yield_end ?_;simp -dsimp[hs]|refine V5 ?_ ?_<;>simp -dsimp[hs]|refine J1 ?_;simp -dsimp[N4,hR4,hR5,hR6,hR7,hR8,hs]|refine CallE.freeze 4 (hc1 [.row [.vec 2 g1 0 L.length],.vec 1 [] 0 true,.vec 1 (l7 (L.map T0)) g1 false,.loop R]) ?_ ?_ ?_ ?_ ?_ ?_;(focus simp[hR10];done);(focus simp[hSt];done);(focus simp;done);(focus rfl);(focus simp;done);try simp -dsimp[r5]|refine i9 ?_ ?_<;>intro h<;>try simp only[i7] at h
     all_goals try clear hs
     all_goals exact zn ⟨(L.length+1,g1+1,1,false),by omega,.inl ⟨rfl,rfl⟩⟩ (zw [0,1,3,32,33] 4 (by clear hR4 hR5 hR6 hR7 hR8;simp[hst,hR1,hR2,hR3,hR9,hR10,LoopD.at_eta]))
    ·obtain rfl:=List.eq_nil_of_length_eq_zero hkl
     have hw1:IntKind.i64.wrap 1=1:=o4 (by omega) (by omega)
     have hs:=za hR1 (za hR2 (za hR3 (za hil (za hw hw1))))
     repeat' first|(with_reducible first|refine zz ?_|refine zE [0,1,2,3,4,5,6,7,8,9,13,14,15,16,21,32,33,34,36,37,38,39,47,58] ?_)|simp -dsimp[hs]|with_reducible refine At.yield_end ?_;simp -dsimp[hs]|refine V5 ?_ ?_<;>simp -dsimp[hs]|refine J1 ?_;simp -dsimp[N4,hR4,hR5,hR6,hR7,hR8,hs]|refine CallE.freeze 4 (hc1 [.row [.vec 2 g1 0 0],.vec 1 [] 0 true,.vec 0 [] g1 true,.loop R]) ?_ ?_ ?_ ?_ ?_ ?_;(focus simp[hR10];done);(focus simp[hSt];done);(focus simp;done);(focus rfl);(focus simp;done);try simp -dsimp[r5]|refine i9 ?_ ?_<;>intro h<;>try simp only[i7] at h
     all_goals try clear hs
     all_goals exact zn ⟨(1,g1+1,1,false),by omega,.inl ⟨rfl,rfl⟩⟩ (zw [0,1,3,32,33] 4 (by clear hR4 hR5 hR6 hR7 hR8;simp[hst,hw1,hR1,hR2,hR3,hR9,hR10,LoopD.at_eta]))
  ·obtain rfl:k=P:=by omega
   obtain⟨rfl,rfl⟩:=hz.resolve_right (by have:=Nat.one_le_two_pow (n:=O.length);omega)
   generalize eP c O k=L at *
   subst hkl
   have hs:=za hR1 (za hR2 (za hR3 hlt))
   repeat' first|(with_reducible first|refine zz ?_|refine zr ?_ (by simp -dsimp[B0,hs];exact rfl)|refine ze ?_ (by simp -dsimp[B0,hs];exact rfl)|refine zE [0,1,2,3,4,5,6,7,8,9,13,14,15,16,21,32,33,34,36,37,38,39,47,58] ?_)|simp -dsimp[B0,hs]|with_reducible show B0 _ _ _ _ _ _ _ _;simp -dsimp[B0,hs]|refine i9 ?_ ?_<;>intro h<;>try simp only[i7] at h
   all_goals try clear hs
   all_goals simp
theorem qx (c:Case) (he:r9 c=0) (hG:o3 G) (hN:C7 G) (hS:u3 G) (hR:v6 G) (hC:L6 G) (hk:KC c):zP prog G 126 [.one (.im (.fn (.func 192) [.ip (j4 c)]))] (ae (n9 c)):=by
 refine zf func126 ntmps126 ?_
 try simp only[iv]
 have c1:=tx (G:=G) c he hG hN hS hR hC hk
 simp only[j4] at c1 ⊢
 repeat' first|(with_reducible first|refine zz ?_|refine zx ?_)|simp -dsimp|refine zp c1 ?_|with_reducible refine tS [0,2] ?_;simp -dsimp
noncomputable def J9 (c:Case):Int:=if r9 c≠0 then r9 c else if dn c≠0 then 101 else 0
noncomputable def oY (c:Case):List Desk:=if J9 c=0 then n9 c else []
theorem S4 {c:Case} (h:J9 c=0):r9 c=0∧dn c=0:=by
 unfold J9 at h
 by_cases h0:r9 c=0
 ·rw[if_neg (by simp[h0])] at h
  refine⟨h0,Classical.byContradiction fun h1=>?_⟩
  rw[if_pos h1] at h
  exact absurd h (by decide)
 ·rw[if_pos h0] at h;exact absurd h h0
theorem ej (c:Case) (hG:o3 G) (hN:C7 G) (hS:u3 G) (hR:v6 G) (hC:L6 G) (hk:KC c):zP prog G 64 [n5 c] (.tup [ae (oY c),iv (J9 c)]):=by
 refine zf func64 ntmps64 ?_
 try simp only[iv]
 have c1:=uI (G:=G) c hG hN hS hR hk
 by_cases h0:r9 c=0
 ·by_cases h1:dn c=0
  ·have hE:J9 c=0:=by unfold J9;rw[if_neg (by simp[h0]),if_neg (by simp[h1])]
   have hO:oY c=n9 c:=by unfold oY;rw[if_pos hE]
   have c2:=wP (G:=G) c
   have c3:=qx (G:=G) c h0 hG hN hS hR hC hk
   rw[hE,hO]
   rw[h0,h1] at c1
   simp only[n5,j4,ae] at c1 c2 c3 ⊢
   have hs:=trivial
   repeat' first|(with_reducible first|refine zz ?_|refine zr ?_|refine zE [0,1,2,3,4,5,12,15] ?_)|simp -dsimp[hs]|refine zp c1 ?_|refine zp c2 ?_|refine zp c3 ?_|refine i9 ?_ ?_<;>intro h<;>try simp only[i7] at h
  ·have hE:J9 c=101:=by unfold J9;rw[if_neg (by simp[h0]),if_pos h1]
   have hO:oY c=[]:=by unfold oY;rw[if_neg (by rw[hE];decide)]
   rw[hE,hO]
   rw[h0] at c1
   simp only[n5,j4] at c1 ⊢
   have hs:=h1
   repeat' first|(with_reducible first|refine zz ?_|refine zr ?_|refine zE [0,1,2,3,4,5,12,15] ?_)|simp -dsimp[hs]|refine zp c1 ?_|refine i9 ?_ ?_<;>intro h<;>try simp only[i7] at h
 ·have hE:J9 c=r9 c:=by unfold J9;rw[if_pos h0]
  have hO:oY c=[]:=by unfold oY;rw[if_neg (by rw[hE];exact h0)]
  rw[hE,hO]
  simp only[n5,j4] at c1 ⊢
  have hs:=h0
  repeat' first|(with_reducible first|refine zz ?_|refine zr ?_|refine zE [0,1,2,3,4,5,12,15] ?_)|simp -dsimp[hs]|refine zp c1 ?_|refine i9 ?_ ?_<;>intro h<;>try simp only[i7] at h
theorem CQ (c:Case) (s:List Int) (k:Nat):(jp c s k).length≤2*(c.p.prints.length+1):=by
 unfold jp
 have h1:=iJ c k
 split
 ·rename_i x y _ _
  have h2:=dj c y x (jC c s y.drawing) (E0 c k) []
  rw[List.length_nil] at h2
  omega
 ·simp
theorem uB {c:Case} (hk:KC c) (s:List Int):DkOk c.pieces.length (H4 c s):=by
 refine⟨by simp[H4],fun x hx=>?_⟩
 simp only[H4,List.mem_map] at hx
 obtain⟨k,_,rfl⟩:=hx
 have:=CQ c s k
 have:=hk.p.p.q
 omega
theorem af {c:Case} (hk:KC c):∀ d∈n9 c,DkOk c.pieces.length d:=by
 intro d hd
 obtain⟨s,_,rfl⟩:=List.mem_map.1 hd
 exact uB hk s
theorem bw {c:Case} (h:r9 c=0):1≤(n9 c).length∧(n9 c).length≤32:=by
 obtain⟨hp0,_⟩:=B8 h
 obtain⟨hn0,_,_⟩:=C6 hp0
 have hO5:(j6 (j8 c.p.n.notes)).length≤5:=by rw[om];exact(bc hn0).2.2.2
 have hPe:(2:Nat) ^ (j6 (j8 c.p.n.notes)).length≤2 ^ 5:=Nat.pow_le_pow_right (by omega) hO5
 have h1:1≤(2:Nat) ^ (j6 (j8 c.p.n.notes)).length:=Nat.one_le_two_pow
 unfold n9
 rw[List.length_map,cL]
 omega
end Go.Proofs
namespace Go.Ab
open Go
end Go.Ab
namespace Go.Proofs
open Go Go.Ab
variable {G:Kc}
attribute [simp] q8 bF L4 eq r5 w7 nilV H8 ZK
theorem nZ (n l:Int) (d:Dim):zP Tryz.prog G 151 [iv n,iv l,gL d] (O8 { drawing:=n,letter:=l,kind:=2,items:=[],dims:=[d] }):=by
 refine zf Tryz.func151 Tryz.ntmps151 ?_
 try simp only[iv,iv,gL]
 repeat' first|(with_reducible first|refine zz ?_|refine zx ?_|refine zE [0,1,2,5,6] ?_)|simp -dsimp
theorem eW (a b:Int):zP Tryz.prog G 42 [iv a,iv b] (D3 a b):=by
 refine zf Tryz.func42 Tryz.ntmps42 ?_
 try simp only[iv,iv]
 repeat' first|(with_reducible first|refine zz ?_|refine zx ?_|refine zE [0,1,4] ?_)|simp -dsimp
theorem nN (a b d e f g:Int):zP Tryz.prog G 152 [iv a,iv b,iv d,iv e,iv f,tZ g] (cY ⟨a,b,d,e,f,-1,g⟩):=by
 refine zf Tryz.func152 Tryz.ntmps152 ?_
 try simp only[iv,iv,iv,iv,iv,tZ]
 repeat' first|(with_reducible first|refine zz ?_|refine zx ?_|refine zE [0,1,2,3,4,5,12] ?_)|simp -dsimp
theorem Ei  : zP Tryz.prog G 49 [] (E9 ⟨1,0⟩):=by
 refine zf Tryz.func49 Tryz.ntmps49 ?_
 try simp only[iv]
 repeat' first|(with_reducible first|refine zz ?_|refine zx ?_|refine zE [0] ?_)|simp -dsimp
theorem rz (n:Int):zP Tryz.prog G 61 [iv n] (E9 ⟨2,n⟩):=by
 refine zf Tryz.func61 Tryz.ntmps61 ?_
 try simp only[iv]
 repeat' first|(with_reducible first|refine zz ?_|refine zx ?_|refine zE [0,2] ?_)|simp -dsimp
theorem Ej (n:Int):zP Tryz.prog G 46 [iv n] (E9 ⟨3,n⟩):=by
 refine zf Tryz.func46 Tryz.ntmps46 ?_
 try simp only[iv]
 repeat' first|(with_reducible first|refine zz ?_|refine zx ?_|refine zE [0,2] ?_)|simp -dsimp
def HW:List Issue:=[{ drawing:=1,letter:=1,kind:=1,items:=[⟨2,1⟩,⟨3,1⟩],dims:=[] },{ drawing:=2,letter:=1,kind:=2,items:=[],dims:=[⟨105,100,110⟩] },{ drawing:=2,letter:=2,kind:=2,items:=[],dims:=[⟨102,100,104⟩] },{ drawing:=3,letter:=1,kind:=2,items:=[],dims:=[⟨94,90,98⟩] }]
def boltP:Prints:={ n:={ reg:=HW,notes:=[⟨5,10,2,2,2,7,999,0,false,0⟩] },holders:=[⟨1,1,999,[2,3]⟩,⟨2,1,999,[2]⟩],prints:=[⟨1,1,1,2,1,-1,0⟩,⟨2,1,1,3,1,-1,0⟩,⟨3,1,2,2,1,-1,0⟩,⟨4,12,2,2,2,-1,1⟩] }
def boltC:Case:={ p:=boltP,machine:=8,of:=1,loop:={ links:=[⟨2,0,false⟩,⟨3,0,true⟩],lo:=0,hi:=14 },pieces:=[⟨2,20,106,107⟩,⟨1,20,90,91⟩] }
theorem FO  : zP Tryz.prog G 92 [] (n5 boltC):=by
 refine zf Tryz.func92 Tryz.ntmps92 ?_
 try simp only[iv]
 have c1:=nZ (G:=G) 2 1 ⟨105,100,110⟩
 have c2:=nZ (G:=G) 2 2 ⟨102,100,104⟩
 have c3:=nZ (G:=G) 3 1 ⟨94,90,98⟩
 have d1:=nN (G:=G) 1 1 1 2 1 0
 have d2:=nN (G:=G) 2 1 1 3 1 0
 have d3:=nN (G:=G) 3 1 2 2 1 0
 have d4:=nN (G:=G) 4 12 2 2 2 1
 have e1:=eW (G:=G) 0 14
 have e2:=eW (G:=G) 106 107
 have e3:=eW (G:=G) 90 91
 simp only[gL,D7,O8,e9,cY,w8,D3,rI,List.map_cons,List.map_nil] at c1 c2 c3 d1 d2 d3 d4 e1 e2 e3
 repeat' first|(with_reducible first|refine zz ?_|refine zx ?_)|simp -dsimp|refine zp c1 ?_|refine zp c2 ?_|refine zp c3 ?_|refine zq d1 ?_|refine zq d2 ?_|refine zq d3 ?_|refine zq d4 ?_|refine zq e1 ?_|refine zq e2 ?_|refine zq e3 ?_|refine zM 3 45 30 [0,1,2] ?_|with_reducible refine zE [0,1,2] ?_
 all_goals (repeat' apply And.intro)<;>rfl
def HY (c:Case):Bool:=decide ((S6 (c.loop.links.zip c.pieces)).2<c.loop.lo)||decide (c.loop.hi<(S6 (c.loop.links.zip c.pieces)).1)
theorem Do (c:Case) (h0:r9 c=0):zP Tryz.prog G 53 [n5 c] (bv (HY c)):=by
 refine zf Tryz.func53 Tryz.ntmps53 ?_
 try simp only[iv]
 have hok:=L7 (B8 h0).2
 have hlen:=hok.e
 have hl8:=hok.l
 simp only[n5,j4,rI,List.map_cons,List.map_nil]
 have hs:=trivial
 repeat' first|(with_reducible first|refine zz ?_|refine zE [0,1,2,3,4,5,6,8,9,10,11,21] ?_)|simp -dsimp[hs]
 refine i6 (ι:={ k:Nat // k≤c.pieces.length }) (fun q=>⟨57,[(1,.one (.ptr 0 0)),(3,iv (S6 ((c.loop.links.zip c.pieces).take q.1)).1),(4,iv (S6 ((c.loop.links.zip c.pieces).take q.1)).2),(8,.one (.im (.sl (c.pieces.map A2)))),(9,iv (c.pieces.length:Int)),(10,iv (q.1:Int))],[.row ((j4 c).map .im)]⟩) (fun q=>c.pieces.length-q.1) ⟨0,by simp⟩ (zv [1,3,4,8,9,10] (by simp[S6])) ?_
 rintro⟨k,hk1⟩
 simp only[iv]
 by_cases hlt:k<c.pieces.length
 ·have hlt2:k<c.loop.links.length:=by omega
  have hw:=zk k
  have hb1:=nJ hok (Nat.le_of_lt hlt)
  have hb2:=nJ hok (show k+1≤c.pieces.length by omega)
  have hst:=pb hok hlt hlt2
  have hp:=nF hok hlt
  unfold V3 at hp
  rw[hst] at hb2
  generalize hx:c.pieces[k]=x at *
  generalize hy:c.loop.links[k]=y at *
  generalize S6 ((c.loop.links.zip c.pieces).take k)=s at *
  unfold H7 at hst hb2
  cases hbk:y.back
  ·rw[if_neg (by simp[hbk])] at hst hb2
   simp only at hb2
   have hw1:IntKind.i64.wrap (s.1+x.lo)=s.1+x.lo:=o4 (by omega) (by omega)
   have hw2:IntKind.i64.wrap (s.2+x.hi)=s.2+x.hi:=o4 (by omega) (by omega)
   have hs:=za hx (za hy (za hlt (za hlt2 (za hw (za hw1 (za hw2 hbk))))))
   repeat' first|with_reducible refine zz ?_|simp -dsimp[hs]|refine zM 7 57 12 [0,1,2,3,4,5,6,8,9,10,11,21] ?_|with_reducible refine zE [0,1,2,3,4,5,6,8,9,10,11,21] ?_|refine i9 ?_ ?_<;>intro h<;>try simp only[i7] at h
   all_goals exact zn ⟨k+1,by omega⟩ (zw [1,3,4,8,9,10] 1 (by simp[hst]))
  ·rw[if_pos hbk] at hst hb2
   simp only at hb2
   have hw1:IntKind.i64.wrap (s.1-x.hi)=s.1-x.hi:=o4 (by omega) (by omega)
   have hw2:IntKind.i64.wrap (s.2-x.lo)=s.2-x.lo:=o4 (by omega) (by omega)
   have hs:=za hx (za hy (za hlt (za hlt2 (za hw (za hw1 (za hw2 hbk))))))
   repeat' first|with_reducible refine zz ?_|simp -dsimp[hs]|refine zM 6 57 12 [0,1,2,3,4,5,6,8,9,10,11,21] ?_|with_reducible refine zE [0,1,2,3,4,5,6,8,9,10,11,21] ?_|refine i9 ?_ ?_<;>intro h<;>try simp only[i7] at h
   all_goals exact zn ⟨k+1,by omega⟩ (zw [1,3,4,8,9,10] 1 (by simp[hst]))
 ·obtain rfl:k=c.pieces.length:=by omega
  have hall:(c.loop.links.zip c.pieces).take c.pieces.length=c.loop.links.zip c.pieces:=List.take_of_length_le (by rw[List.length_zip];omega)
  rw[hall]
  unfold HY
  generalize S6 (c.loop.links.zip c.pieces)=s at *
  by_cases h1:s.2<c.loop.lo
  ·have hs:=za hlt h1
   repeat' first|(with_reducible first|refine zz ?_|refine zr ?_|refine zE [0,1,2,3,4,5,6,8,9,10,11,21] ?_)|simp -dsimp[hs]|refine i9 ?_ ?_<;>intro h<;>try simp only[i7] at h
  ·have hs:=za hlt h1
   repeat' first|(with_reducible first|refine zz ?_|refine zr ?_|refine zE [0,1,2,3,4,5,6,8,9,10,11,21] ?_)|simp -dsimp[hs]|refine i9 ?_ ?_<;>intro h<;>try simp only[i7] at h
   all_goals simp[h1]
noncomputable def iw (c:Case):Bool:=bM c&&(decide (r9 c=0)&&HY c)
theorem BL (c:Case) (hp:ic c.p):zP Tryz.prog G 33 [n5 c] (bv (iw c)):=by
 refine zf Tryz.func33 Tryz.ntmps33 ?_
 try simp only[iv]
 have c1:=wj (G:=G) c
 unfold iw
 cases hq:bM c
 ·rw[hq] at c1
  simp only[n5,j4,rI,List.map_cons,List.map_nil] at c1 ⊢
  have hs:=trivial
  repeat' first|(with_reducible first|refine zz ?_|refine zr ?_|refine zE [0,1,2] ?_)|simp -dsimp[hs]|refine zp c1 ?_
 ·obtain⟨hsk,hk⟩:=Bk hp hq
  rw[hq] at c1
  have c2:=vo (G:=G) c hk
  by_cases h0:r9 c=0
  ·have c3:=Do (G:=G) c h0
   rw[h0] at c2 ⊢
   generalize HY c=A at *
   simp only[n5,j4,rI,List.map_cons,List.map_nil] at c1 c2 c3 ⊢
   have hs:=trivial
   repeat' first|(with_reducible first|refine zz ?_|refine zr ?_|refine zE [0,1,2] ?_)|simp -dsimp[hs]|refine zp c1 ?_|refine zp c2 ?_|refine zp c3 ?_
  ·simp only[n5,j4,rI,List.map_cons,List.map_nil] at c1 c2 ⊢
   rw[decide_eq_false h0]
   have hs:=h0
   repeat' first|(with_reducible first|refine zz ?_|refine zr ?_|refine zE [0,1,2] ?_)|simp -dsimp[hs]|refine zp c1 ?_|refine zp c2 ?_
theorem rN {c:Case} (hp:ic c.p) (h:iw c=true):tD c∧KC c∧J9 c=0:=by
 unfold iw at h
 simp only[Bool.and_eq_true,decide_eq_true_eq] at h
 obtain⟨h1,h2,h3⟩:=h
 obtain⟨a,b⟩:=Bk hp h1
 refine⟨a,b,?_⟩
 unfold J9
 rw[if_neg (by simp[h2]),if_neg ?_]
 simp only[HY,Bool.or_eq_true,decide_eq_true_eq] at h3
 unfold dn bK uv
 rw[if_pos h2,if_pos h2,if_pos (by omega)]
 simp
end Go.Proofs
