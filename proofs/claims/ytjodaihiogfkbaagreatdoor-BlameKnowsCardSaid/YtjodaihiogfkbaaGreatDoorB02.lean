/- Part 21 of the proofs. -/
import Derived.Test.YtjodaihiogfkbaaGreatDoorA09
import Derived.Test.YtjodaihiogfkbaaGreatDoorA13
import Derived.Test.YtjodaihiogfkbaaGreatDoorA14
import Derived.Test.YtjodaihiogfkbaaGreatDoorA16
import Derived.Test.YtjodaihiogfkbaaGreatDoorA17
import Derived.Test.YtjodaihiogfkbaaGreatDoorA18
import Derived.Test.YtjodaihiogfkbaaGreatDoorA19
set_option linter.all false
set_option linter.deprecated false
set_option maxHeartbeats 100000000
namespace Go.Proofs
open Go Go.Ab
theorem EA {α:Type} {l:List α} (h:l.length=10):∃ a b c d e f g i j k,l=[a,b,c,d,e,f,g,i,j,k]:=by
 match l,h with
 | [a,b,c,d,e,f,g,i,j,k],_=>exact⟨a,b,c,d,e,f,g,i,j,k,rfl⟩
def qz (x:Note):Prop:=0≤x.ways∧x.ways≤255∧0≤x.signed∧x.signed≤255
def Ed:Nat→List IC→Prop
 | 2=>fun l=>∃ n:Int,(0≤n∧n≤255)∧l=[.raw (.int .u8 n)]
 | 8=>fun l=>∃ b:Bool,l=[rB b]
 | 9=>fun l=>∃ n:Int,(0≤n∧n≤255)∧l=[.raw (.int .u8 n)]
 | _=>fun l=>∃ n:Int,l=[rI n]
theorem BR:Rd 95 l9 qz:=(Opens.struct Tryz.underlying95 (by kernel_rfl) Ed (fun i f hf=>by
 rcases i with _|_|_|_|_|_|_|_|_|_|i<;>simp at hf<;>subst hf
 ·exact oInt
 ·exact oInt
 ·exact DY
 ·exact oInt
 ·exact oInt
 ·exact oInt
 ·exact oInt
 ·exact oInt
 ·exact Br
 ·exact DY)).mono (by
 rintro l ⟨ls,h1,h2,rfl⟩
 obtain⟨a,b,c,d,e,f,g,i,j,k,rfl⟩:=EA h1
 obtain⟨x0,rfl⟩:=h2 0 a rfl
 obtain⟨x1,rfl⟩:=h2 1 b rfl
 obtain⟨x2,k2,rfl⟩:=h2 2 c rfl
 obtain⟨x3,rfl⟩:=h2 3 d rfl
 obtain⟨x4,rfl⟩:=h2 4 e rfl
 obtain⟨x5,rfl⟩:=h2 5 f rfl
 obtain⟨x6,rfl⟩:=h2 6 g rfl
 obtain⟨x7,rfl⟩:=h2 7 i rfl
 obtain⟨x8,rfl⟩:=h2 8 j rfl
 obtain⟨x9,k9,rfl⟩:=h2 9 k rfl
 exact⟨⟨x0,x1,x2,x3,x4,x5,x6,x7,x8,x9⟩,⟨k9.1,k9.2,k2.1,k2.2⟩,rfl⟩)
theorem Ch:Opens Tryz.prog 25 (fun l=>∃ xs:List Note,(∀ x∈xs,qz x)∧l=[.sl (xs.map l9)]):=
 Opens.sliceOf Tryz.underlying25 (sz:=10) (by kernel_rfl) (by decide) (fun _=>rfl) BR
def Cl:Nat→List IC→Prop
 | 0=>fun l=>∃ xs:List Issue,(∀ x∈xs,eE x)∧l=[.sl (xs.map e9)]
 | _=>fun l=>∃ xs:List Note,(∀ x∈xs,qz x)∧l=[.sl (xs.map l9)]
theorem zJ:Rd 27 m4 sW:=(Opens.struct Tryz.underlying27 (by kernel_rfl) Cl (fun i f hf=>by
 rcases i with _|_|i<;>simp at hf<;>subst hf
 ·exact DZ
 ·exact Ch)).mono (by
 rintro l ⟨ls,h1,h2,rfl⟩
 obtain⟨a,b,rfl⟩:=tZ h1
 obtain⟨x,hx,rfl⟩:=h2 0 a rfl
 obtain⟨y,hy,rfl⟩:=h2 1 b rfl
 exact⟨⟨x,y⟩,⟨hx,hy⟩,rfl⟩)
theorem GG {α:Type} {l:List α} (h:l.length=7):∃ a b c d e f g,l=[a,b,c,d,e,f,g]:=by
 match l,h with
 | [a,b,c,d,e,f,g],_=>exact⟨a,b,c,d,e,f,g,rfl⟩
theorem FG {α:Type} {l:List α} (h:l.length=6):∃ a b c d e f,l=[a,b,c,d,e,f]:=by
 match l,h with
 | [a,b,c,d,e,f],_=>exact⟨a,b,c,d,e,f,rfl⟩
theorem Ea:Opens Tryz.prog 189 (fun l=>∃ n m:Int,l=[rI n,rI m]):=(Opens.struct Tryz.underlying189 (by kernel_rfl) (fun _ l=>∃ n:Int,l=[rI n]) (fun i f hf=>by
 rcases i with _|_|i<;>simp at hf<;>subst hf<;>exact oInt)).mono (by
 rintro l ⟨ls,h1,h2,rfl⟩
 obtain⟨a,b,rfl⟩:=tZ h1
 obtain⟨x,rfl⟩:=h2 0 a rfl
 obtain⟨y,rfl⟩:=h2 1 b rfl
 exact⟨x,y,rfl⟩)
def Az:Nat→List IC→Prop
 | 3=>fun l=>∃ xs:List Int,l=[.sl (xs.map l7)]
 | _=>fun l=>∃ n:Int,l=[rI n]
theorem wv:Rd 201 o7 (fun _=>True):=(Opens.struct Tryz.underlying201 (by kernel_rfl) Az (fun i f hf=>by
 rcases i with _|_|_|_|i<;>simp at hf<;>subst hf
 ·exact oInt
 ·exact oInt
 ·exact oInt
 ·exact wP)).mono (by
 rintro l ⟨ls,h1,h2,rfl⟩
 obtain⟨a,b,c,d,rfl⟩:=Ez h1
 obtain⟨x,rfl⟩:=h2 0 a rfl
 obtain⟨y,rfl⟩:=h2 1 b rfl
 obtain⟨z,rfl⟩:=h2 2 c rfl
 obtain⟨u,rfl⟩:=h2 3 d rfl
 exact⟨⟨x,y,z,u⟩,trivial,rfl⟩)
theorem wQ:Opens Tryz.prog 28 (fun l=>∃ xs:List Holder,l=[.sl (xs.map o7)]):=
 (Opens.sliceOf Tryz.underlying28 (sz:=4) (by kernel_rfl) (by decide) (fun _=>rfl) wv).mono (by rintro l ⟨xs,_,h⟩;exact⟨xs,h⟩)
def BX:Nat→List IC→Prop
 | 3=>fun l=>∃ n m:Int,l=[rI n,rI m]
 | 5=>fun l=>∃ n:Int,(0≤n∧n≤255)∧l=[.raw (.int .u8 n)]
 | _=>fun l=>∃ n:Int,l=[rI n]
theorem zH:Rd 221 w7 iR:=(Opens.struct Tryz.underlying221 (by kernel_rfl) BX (fun i f hf=>by
 rcases i with _|_|_|_|_|_|i<;>simp at hf<;>subst hf
 ·exact oInt
 ·exact oInt
 ·exact oInt
 ·exact Ea
 ·exact oInt
 ·exact DY)).mono (by
 rintro l ⟨ls,h1,h2,rfl⟩
 obtain⟨a,b,c,d,e,f,rfl⟩:=FG h1
 obtain⟨x0,rfl⟩:=h2 0 a rfl
 obtain⟨x1,rfl⟩:=h2 1 b rfl
 obtain⟨x2,rfl⟩:=h2 2 c rfl
 obtain⟨x3,x4,rfl⟩:=h2 3 d rfl
 obtain⟨x5,rfl⟩:=h2 4 e rfl
 obtain⟨x6,k6,rfl⟩:=h2 5 f rfl
 exact⟨⟨x0,x1,x2,x3,x4,x5,x6⟩,k6,rfl⟩)
theorem zY:Opens Tryz.prog 29 (fun l=>∃ xs:List Print,(∀ x∈xs,iR x)∧l=[.sl (xs.map w7)]):=
 Opens.sliceOf Tryz.underlying29 (sz:=7) (by kernel_rfl) (by decide) (fun _=>rfl) zH
def zR:Nat→List IC→Prop
 | 0=>fun l=>∃ x:Notes,sW x∧l=m4 x
 | 1=>fun l=>∃ xs:List Holder,l=[.sl (xs.map o7)]
 | _=>fun l=>∃ xs:List Print,(∀ x∈xs,iR x)∧l=[.sl (xs.map w7)]
theorem wt:Rd 31 m8 pC:=(Opens.struct Tryz.underlying31 (by kernel_rfl) zR (fun i f hf=>by
 rcases i with _|_|_|i<;>simp at hf<;>subst hf
 ·exact zJ
 ·exact wQ
 ·exact zY)).mono (by
 rintro l ⟨ls,h1,h2,rfl⟩
 obtain⟨a,b,c,rfl⟩:=Ak h1
 obtain⟨x,hx,rfl⟩:=h2 0 a rfl
 obtain⟨y,rfl⟩:=h2 1 b rfl
 obtain⟨z,hz,rfl⟩:=h2 2 c rfl
 exact⟨⟨x,y,z⟩,⟨hx,hz⟩,rfl⟩)
theorem zI:Rd 79 I7 (fun _=>True):=(Opens.struct Tryz.underlying79 (by kernel_rfl) (wI (fun _=>True) (fun l=>∃ n:Int,l=[rI n]) (fun l=>∃ n:Int,l=[rI n]) (fun l=>∃ n m:Int,l=[rI n,rI m])) (fun i f hf=>by
 rcases i with _|_|_|i<;>simp at hf<;>subst hf
 ·exact oInt
 ·exact oInt
 ·exact Eb)).mono (by
 rintro l ⟨ls,h1,h2,rfl⟩
 obtain⟨a,b,c,rfl⟩:=Ak h1
 obtain⟨x,rfl⟩:=h2 0 a rfl
 obtain⟨y,rfl⟩:=h2 1 b rfl
 obtain⟨z,u,rfl⟩:=h2 2 c rfl
 exact⟨⟨x,y,z,u⟩,trivial,rfl⟩)
theorem zZ:Opens Tryz.prog 37 (fun l=>∃ xs:List Piece,l=[.sl (xs.map I7)]):=
 (Opens.sliceOf Tryz.underlying37 (sz:=4) (by kernel_rfl) (by decide) (fun _=>rfl) zI).mono (by rintro l ⟨xs,_,h⟩;exact⟨xs,h⟩)
def EY:Nat→List IC→Prop
 | 0=>fun l=>∃ x:Prints,pC x∧l=m8 x
 | 3=>fun l=>∃ x:ChLoop,True∧l=D7 x
 | 4=>fun l=>∃ xs:List Piece,l=[.sl (xs.map I7)]
 | _=>fun l=>∃ n:Int,l=[rI n]
theorem BU:Rd 39 j4 (fun c=>pC c.p):=(Opens.struct Tryz.underlying39 (by kernel_rfl) EY (fun i f hf=>by
 rcases i with _|_|_|_|_|i<;>simp at hf<;>subst hf
 ·exact wt
 ·exact oInt
 ·exact oInt
 ·exact wu
 ·exact zZ)).mono (by
 rintro l ⟨ls,h1,h2,rfl⟩
 obtain⟨a,b,c,d,e,rfl⟩:=Ey h1
 obtain⟨x,hx,rfl⟩:=h2 0 a rfl
 obtain⟨y,rfl⟩:=h2 1 b rfl
 obtain⟨z,rfl⟩:=h2 2 c rfl
 obtain⟨u,-,rfl⟩:=h2 3 d rfl
 obtain⟨v,rfl⟩:=h2 4 e rfl
 exact⟨⟨x,y,z,u,v⟩,hx,rfl⟩)
theorem mI {H:Type} {enc:TypeId×Value→H} {P:Program} {w:World} {base:Nat} {sp:Nat→Bool} {held:Bool} {fuel:Nat} {t:TypeId} {ps rs:Array TypeId} {va:Bool} {v:Value} {q:List MemPlace}
 (ht:P.underlying t=some (.func ps rs va)) (h:DataW.trod enc P w base sp held fuel t [v]=some (.nil,q)):v=.nilFunc:=by
 cases fuel with
 | zero=>simp[DataW.trod] at h
 | succ n=>cases v<;>simp[DataW.trod,ht] at h<;>rfl
theorem lf {P:Program} {W:World} {t e te n:Nat} {f:Field} {cs:Array Value} {fuel:Nat} {p:List MemPlace} {L:List (DataW (List UInt8))} (ht:P.underlying t=some (.array n e)) (hte:P.underlying e=some (.struct #[f])) (hf0:f.offset=0) (hft:f.type=te) (hce:P.cellsOf e=1) (hcf:P.cellsOf te=1)
 (h:DataW.trod (funcToken P) P W 0 (fun _=>true) true fuel t cs.toList=some (.agg L,p)) (j:Nat) (hj:j<n):∃ (c:Value) (m2:Nat) (y:DataW (List UInt8)×List MemPlace),cs[j]?=some c∧L[j]?=some (.agg [y.1])∧DataW.trod (funcToken P) P W 0 (fun _=>true) true m2 te [c]=some (y.1,y.2):=by
 obtain⟨xs,m,_,ex,hlen,hxl,hel⟩:=DataW.trod_array ht h
 have hE:=hel j hj
 rw[hce,Nat.mul_one] at hE
 have hx:xs[j]?=some xs[j]:=by simp[hxl,hj]
 rw[hx] at hE
 obtain⟨ys,m2,_,ey,hlen2,hyl,hel2⟩:=DataW.trod_struct hte hE
 have hE2:=hel2 0 f rfl
 have hyl1:ys.length=1:=by simpa using hyl
 obtain⟨y,rfl⟩:=List.length_eq_one_iff.1 hyl1
 rw[hf0,hft,hcf] at hE2
 have hcl:j<cs.size:=by
  rcases Nat.lt_or_ge j cs.size with h1|h1
  ·exact h1
  ·simp[hce] at hlen2;omega
 have hc1:((cs.toList.drop j).take 1)=[cs[j]]:=by
  rw[List.drop_eq_getElem_cons (by simpa using hcl)];simp
 rw[hc1] at hE2
 simp only[List.drop_zero,List.take_succ_cons,List.getElem?_cons_zero,List.take_nil] at hE2
 have e1:(xs.map (·.1))[j]?=L[j]?:=by rw[(DataW.agg.inj (Prod.mk.inj ex).1)]
 rw[List.getElem?_map,hx,ey] at e1
 exact⟨cs[j],_,y,Array.getElem?_eq_getElem hcl,by rw[← e1];rfl,hE2⟩
theorem oK {P:Program} {W:World} {t e te:Nat} {f:Field} {ps rs:Array TypeId} {cs:Array Value} {fuel:Nat} {p:List MemPlace} {b1 b2 b3:UInt8} {r1 r2 r3:List UInt8} {f1 f2 f3:FuncId} (ht:P.underlying t=some (.array 4 e)) (hte:P.underlying e=some (.struct #[f])) (hf0:f.offset=0) (hft:f.type=te) (hu:P.underlying te=some (.func ps rs false)) (hce:P.cellsOf e=1) (hcf:P.cellsOf te=1)
 (h1:((List.range P.funcs.size).filter fun f=>(P.funcs[f]?).any (·.name.toUTF8.data.toList==b1 :: r1))=[f1]) (h2:((List.range P.funcs.size).filter fun f=>(P.funcs[f]?).any (·.name.toUTF8.data.toList==b2 :: r2))=[f2]) (h3:((List.range P.funcs.size).filter fun f=>(P.funcs[f]?).any (·.name.toUTF8.data.toList==b3 :: r3))=[f3])
 (h:DataW.trod (funcToken P) P W 0 (fun _=>true) true fuel t cs.toList=some (.agg [.agg [.nil],.agg [.held (b1 :: r1)],.agg [.held (b2 :: r2)],.agg [.held (b3 :: r3)]],p)):∀ (j:Nat) (v:Value),[Value.nilFunc,.func (.func f1) #[] #[],.func (.func f2) #[] #[],.func (.func f3) #[] #[]][j]?=some v→cs[j]?=some v:=by
 have get:=lf ht hte hf0 hft hce hcf h
 obtain⟨c0,m0,y0,a0,e0,t0⟩:=get 0 (by omega)
 obtain⟨c1,m1,y1,a1,e1,t1⟩:=get 1 (by omega)
 obtain⟨c2,m2,y2,a2,e2,t2⟩:=get 2 (by omega)
 obtain⟨c3,m3,y3,a3,e3,t3⟩:=get 3 (by omega)
 simp at e0 e1 e2 e3
 rw[← e0] at t0
 rw[← e1] at t1
 rw[← e2] at t2
 rw[← e3] at t3
 intro j v hj
 rcases j with _|_|_|_|j
 ·simp at hj;subst hj;rw[a0,mI hu t0]
 ·simp at hj;subst hj;rw[a1,func_of_trod (f0:=f1) (q:=y1.2) hu h1 t1]
 ·simp at hj;subst hj;rw[a2,func_of_trod (f0:=f2) (q:=y2.2) hu h2 t2]
 ·simp at hj;subst hj;rw[a3,func_of_trod (f0:=f3) (q:=y3.2) hu h3 t3]
 ·simp at hj
theorem tv {W:World} {g:Nat} {f1 f2 f3:FuncId} (h:∀ (j:Nat) (v:Value),[Value.nilFunc,.func (.func f1) #[] #[],.func (.func f2) #[] #[],.func (.func f3) #[] #[]][j]?=some v→W.cell? ⟨g,j,.none⟩=some v):RepI W (vC W) (.ip [.raw .nilFunc,.fn (.func f1) [],.fn (.func f2) [],.fn (.func f3) []]) (.pointer (some ⟨g,0,.none⟩)):=by
 have hb:g<W.heap.size:=aG (a:=⟨g,0,.none⟩) (h 0 _ rfl)
 refine .ip _ _ (fun j=>([Value.nilFunc,.func (.func f1) #[] #[],.func (.func f2) #[] #[],.func (.func f3) #[] #[]][j]?).getD undef) rfl hb (fun j c hj=>?_) (fun j c hj=>?_)
 ·have hl:=e7 hj
  have hl':j < [Value.nilFunc,.func (.func f1) #[] #[],.func (.func f2) #[] #[],.func (.func f3) #[] #[]].length:=hl
  have hv:=List.getElem?_eq_getElem hl'
  rw[hv,Option.getD_some]
  simpa using h j _ hv
 ·have hl:=e7 hj
  have hl':j<4:=hl
  have hfn:∀ f,RepI W (vC W) (.fn (.func f) []) (.func (.func f) #[] #[]):=fun f=>RepI.fn (w:=W) (ok:=vC W) (.func f) [] #[] rfl (fun j c v h=>by simp at h)
  rcases j with _|_|_|_|j<;>first|omega|(simp at hj ⊢;subst hj;first|exact hfn _|exact .raw _ rfl)
end Go.Proofs
namespace Go.Ab
open Go
abbrev dg:=Bool×Bool
def J0 (f:dg):List IC:=[.raw (.bool f.1),.raw (.bool f.2)]
def qU (f:dg):DV:=.agg ((J0 f).map .im)
structure Desk where
 c:Case
 notes:Bool
 faults:List (List dg)
def V7 (l:List dg):List IC:=[.sl (l.map J0)]
def iY (d:Desk):List IC:=j4 d.c++[.raw (.bool d.notes),.sl (d.faults.map V7)]
def ko (d:Desk):IC:=.ip (iY d)
attribute [simp] J0 qU V7
def bQ (L:List dg) (so:Bool) (f:dg):List dg:=if so=true∧f∉L then L++[f] else L
end Go.Ab
namespace Go.Proofs
open Go Go.Ab
variable {G:GW}
theorem ug (l:List dg) (n:dg) (hl:l.length<1000000):zP Tryz.prog G 198 [.one (.im (.sl (l.map J0))),qU n] (iv (G7 (fun x=>decide (n=x)) l)):=by
 refine zf Tryz.func198 Tryz.ntmps198 ?_
 try simp only[iv]
 simp only[qU,J0,List.map_cons,List.map_nil]
 have hs:=trivial
 repeat' first|with_reducible refine zz ?_|with_reducible refine zE [0,1,3,4,5,7,8,9,16] ?_;try simp -dsimp[hs]
 all_goals try (simp -dsimp[hs];trace "PRS R31 1")
 refine g9 (ι:={ k:Nat // k≤l.length∧∀ (j:Nat) (x:dg),j<k→l[j]?=some x→decide (n=x)=false }) (fun i=>⟨19,[(0,.one (.im (.sl (l.map J0)))),(3,.one (.ptr 0 0)),(7,iv (l.length:Int)),(8,iv (i.1:Int))],[.row [.im (.raw (.bool n.1)),.im (.raw (.bool n.2))]]⟩) (fun i=>l.length-i.1) ⟨0,by simp⟩ (zv [0,3,7,8]) ?_
 rintro⟨i,hi,hno⟩
 simp only[iv]
 by_cases hlt:i<l.length
 ·have hx0:l[i]?=some l[i]:=by simp[hlt]
  have hw:=zk i
  generalize hx:l[i]=x at *
  obtain⟨n1,n2⟩:=n
  obtain⟨x1,x2⟩:=x
  have hs:True:=trivial
  by_cases hq:(n1,n2)=(x1,x2)
  ·obtain⟨rfl,rfl⟩:=Prod.mk.inj hq
   have hs:=za hx (za hw hlt)
   repeat' first|(with_reducible first|refine zz ?_|refine zr ?_)|(first|refine zM 4 19 6 [0,1,3,4,5,7,8,9,16] ?_|with_reducible refine zE [0,1,3,4,5,7,8,9,16] ?_);try simp -dsimp[hs]|refine i8 ?_ ?_<;>intro h<;>try simp only[i6] at h
   all_goals try (simp -dsimp[hs];trace "PRS R31 2")
   all_goals exact(I5 hx0 (by simp) hno).symm
  ·have hst:∀ (j:Nat) (y:dg),j<i+1→l[j]?=some y→decide ((n1,n2)=y)=false:=fun j y hj hjx=>by
    by_cases e:j=i
    ·subst e;rw[hx0] at hjx;cases hjx;exact decide_eq_false hq
    ·exact hno j y (by omega) hjx
   have hb:((n1==x1)&&((n2==x2)&&true))=false:=by
    cases n1<;>cases n2<;>cases x1<;>cases x2<;>simp_all
   cases n1<;>cases n2<;>cases x1<;>cases x2
   all_goals first
    | exact absurd rfl hq
    | skip
   all_goals
    have hs:=za hx (za hw hlt)
    repeat' first|with_reducible refine zz ?_|(first|refine zM 4 19 6 [0,1,3,4,5,7,8,9,16] ?_|with_reducible refine zE [0,1,3,4,5,7,8,9,16] ?_);try simp -dsimp[hs]|refine i8 ?_ ?_<;>intro h<;>try simp only[i6] at h
    all_goals try (simp -dsimp[hs];trace "PRS R31 3")
   all_goals exact zn ⟨i+1,by omega,hst⟩ (zv [0,3,7,8])
 ·have hs:=hlt
  repeat' first|(with_reducible first|refine zz ?_|refine zr ?_)|with_reducible refine zE [0,1,3,4,5,7,8,9,16] ?_;try simp -dsimp[hs]|refine i8 ?_ ?_<;>intro h<;>try simp only[i6] at h
  all_goals try (simp -dsimp[hs];trace "PRS R31 4")
  exact(Q3 fun j x hjx=>hno j x (by have:=e7 hjx;omega) hjx).symm
theorem nr (l:List dg) (n:dg) (hl:l.length<1000000):zP Tryz.prog G 135 [.one (.im (.sl (l.map J0))),qU n] (bv (decide (n∈l))):=by
 refine zf Tryz.func135 Tryz.ntmps135 ?_
 try simp only[iv]
 have hc:=ug (G:=G) l n hl
 simp only[qU,J0,List.map_cons,List.map_nil] at hc ⊢
 have hs:=trivial
 repeat' first|(with_reducible first|refine zz ?_|refine zr ?_)|(first|refine zp hc ?_|with_reducible refine zE [0,1,3,4] ?_);try simp -dsimp[hs]
 all_goals try (simp -dsimp[hs];trace "PRS R31 5")
 have h1:=u7 (fun x=>decide (n=x)) l
 rw[← decide_eq_true_iff (p:=0≤_),h1]
 simp
theorem yx (L:List dg) (g sz:Nat) (nl so:Bool) (f:dg) (hl:L.length<1000) (hz:sz=2∨nl=true):DCall Tryz.prog G 134 (bv so :: qU f :: [DC.ptr 0 0].map .one) [.row [.vec 1 g 0 L.length],.vec sz (n4 (L.map J0)) g nl] (fun d o=>∃ i:Nat×Nat×Bool,(i.2.1=2∨i.2.2=true)∧d=.tup []∧o=[.row [.vec 1 i.1 0 (bQ L so f).length],.vec i.2.1 (n4 ((bQ L so f).map J0)) i.1 i.2.2]):=by
 refine DCall.drop ?_
 refine i7 Tryz.func134 rfl Tryz.ntmps134 (by simp) rfl ?_
 have c1:=nr (G:=G) L f (by omega)
 simp only[qU,J0,List.map_cons,List.map_nil,bv] at c1 ⊢
 have htk:List.take L.length (n4 (L.map J0))=n4 (L.map J0):=List.take_of_length_le (by simp[n4])
 have hs:True:=trivial
 cases so
 ·have hs:=trivial
  repeat' first|(with_reducible first|refine zz ?_|refine ze ?_)|with_reducible refine zE [0,1,2,4,11] ?_;try simp -dsimp[hs]|refine i8 ?_ ?_<;>intro h<;>try simp only[i6] at h
  all_goals try (simp -dsimp[hs];trace "PRS R31 6")
  all_goals rw[show bQ L false f=L by simp[bQ]]
  all_goals rcases hz with h|h
  all_goals first
   | exact⟨g,sz,.inl ⟨h,⟨rfl,rfl⟩,rfl,rfl,rfl⟩⟩
   | exact⟨g,sz,.inr ⟨⟨rfl,rfl⟩,rfl,rfl,rfl,h⟩⟩
 ·by_cases hf:f∈L
  ·rw[decide_eq_true hf] at c1
   have hs:=htk
   repeat' first|(with_reducible first|refine zz ?_|refine ze ?_)|refine zt c1 ?_ ?_ ?_;(focus simp;done);(focus simp;done);try simp -dsimp[hs]|with_reducible refine zE [0,1,2,4,11] ?_;try simp -dsimp[hs]|refine i8 ?_ ?_<;>intro h<;>try simp only[i6] at h
   all_goals try (simp -dsimp[hs];trace "PRS R31 7")
   all_goals rw[show bQ L true f=L by simp[bQ,hf]]
   all_goals rcases hz with h|h
   all_goals first
    | exact⟨g,sz,.inl ⟨h,⟨rfl,rfl⟩,rfl,rfl,rfl⟩⟩
    | exact⟨g,sz,.inr ⟨⟨rfl,rfl⟩,rfl,rfl,rfl,h⟩⟩
  ·rw[decide_eq_false hf] at c1
   have hE:bQ L true f=L++[f]:=by unfold bQ;rw[if_pos ⟨rfl,hf⟩]
   have hs:=za htk hz
   repeat' first|(with_reducible first|refine zz ?_|refine And.intro (by omega) ?_|refine ze ?_)|refine zt c1 ?_ ?_ ?_;(focus simp;done);(focus simp;done);try simp -dsimp[hs]|with_reducible refine zE [0,1,2,4,11] ?_;try simp -dsimp[hs]|refine i8 ?_ ?_<;>intro h<;>try simp only[i6] at h
   all_goals try (simp -dsimp[hs];trace "PRS R31 8")
   all_goals simp[hE,n4]
end Go.Proofs
namespace Go.Ab
open Go
structure Susp where
 kind:Int
 index:Int
 deriving DecidableEq
def l5 (s:Susp):List IC:=[.raw (.int .u8 s.kind),rI s.index]
def B5 (s:Susp):DV:=.agg ((l5 s).map .im)
def R9 (l:List Susp):DV:=.one (.im (.sl (l.map l5)))
attribute [simp] l5 B5 R9
def bY (d:Desk):List IC:=[ko d]
def sP (d:Desk):DV:=.one (.im (ko d))
def cp (l:List Desk):DV:=.one (.im (.sl (l.map bY)))
attribute [simp] bY sP cp
def U8 (d:Desk) (s:Susp) (so:Bool):Bool:=if s.kind=1 then d.notes==so else if s.kind=2 then (d.faults.getD s.index.toNat []).any fun f=>f.1==so else (d.faults.getD s.index.toNat []).any fun f=>f.2==so
def Q2 (l:List Desk) (s:Susp):Int:=if (l.any fun d=>U8 d s true)=false then 0 else if (l.any fun d=>U8 d s false)=false then 2 else 1
def pQ (n:Nat) (s:Susp):Bool:=if s.kind=1 then decide (s.index=0) else (decide (2≤s.kind)&&decide (s.kind≤3))&&(decide (0≤s.index)&&decide (s.index≤(n:Int)-1))
def bR (n:Nat) (s:Susp):Prop:=s.kind=1∨((s.kind=2∨s.kind=3)∧0≤s.index∧s.index<n)
theorem mS {n:Nat} {s:Susp} (h:pQ n s=true):bR n s:=by
 unfold pQ at h
 unfold bR
 split at h
 ·exact .inl ‹_›
 ·simp only[Bool.and_eq_true,decide_eq_true_eq] at h
  omega
end Go.Ab
namespace Go.Proofs
open Go Go.Ab
variable {G:GW}
def eD (G:GW):Prop:=G 1=some [.raw .nilFunc,.fn (.func 339) [],.fn (.func 340) [],.fn (.func 343) []]
theorem mT (l:List dg) (p:dg→Bool) (k:Nat) (caps:List DC) (objs:List DObj) (hok:D4 Tryz.prog k) (hf:∀ x∈l,DCall Tryz.prog G k (qU x :: caps.map .one) objs (fun d o=>d=bv (p x)∧o=objs)) (hl:l.length<1000000):DCall Tryz.prog G 345 [.one (.im (.sl (l.map J0))),.one (.fn (.func k) caps)] objs (fun d o=>d=iv (G7 p l)∧o=objs):=by
 refine i7 Tryz.func345 rfl Tryz.ntmps345 (by simp) rfl ?_
 have hs:=trivial
 repeat' first|(with_reducible first|refine zz ?_|refine zE [0,1,4,5,7,8,9,16] ?_)|simp -dsimp[hs]
 refine g9 (ι:={ k:Nat // k≤l.length∧∀ j x,j<k→l[j]?=some x→p x=false }) (fun i=>⟨19,[(0,.one (.im (.sl (l.map J0)))),(1,.one (.fn (.func k) caps)),(7,iv (l.length:Int)),(8,iv (i.1:Int))],objs⟩) (fun i=>l.length-i.1) ⟨0,by simp⟩ (zv [0,1,7,8]) ?_
 rintro⟨i,hi,hno⟩
 simp only[iv]
 by_cases hlt:i<l.length
 ·have hx:l[i]?=some l[i]:=by simp[hlt]
  have hw:=zk i
  have hc:=hf l[i] (by simp)
  simp only[qU,J0,List.map_cons,List.map_nil,bv,rI] at hc
  have hs:=za hx (za hw hok)
  repeat' first|(with_reducible first|refine zz ?_|refine And.intro (by omega) ?_|refine zr ?_|refine zE [0,1,4,5,7,8,9,16] ?_)|simp -dsimp[hs]|refine CallE.here hc ?_|refine i8 ?_ ?_<;>intro h<;>try simp only[i6] at h|with_reducible refine And.intro ?_ ?_
  all_goals try omega
  ·exact(I5 hx (by assumption) hno).symm
  ·exact At.round ⟨i+1,by omega,fun j x hj hjx=>by
    by_cases e:j=i
    ·subst e;rw[hx] at hjx;cases hjx;assumption
    ·exact hno j x (by omega) hjx⟩ (by simp;omega) (zv [0,1,7,8])
 ·have hs:=trivial
  repeat' first|(with_reducible first|refine zz ?_|refine zr ?_|refine zE [0,1,4,5,7,8,9,16] ?_)|simp -dsimp[hs]|refine i8 ?_ ?_<;>intro h<;>try simp only[i6] at h|with_reducible refine And.intro ?_ ?_
  all_goals try omega
  exact(Q3 fun j x hjx=>hno j x (by have:=e7 hjx;omega) hjx).symm
theorem bZ (l:List dg) (p:dg→Bool) (k:Nat) (caps:List DC) (objs:List DObj) (hok:D4 Tryz.prog k) (hf:∀ x∈l,DCall Tryz.prog G k (qU x :: caps.map .one) objs (fun d o=>d=bv (p x)∧o=objs)) (hl:l.length<1000000):DCall Tryz.prog G 341 [.one (.im (.sl (l.map J0))),.one (.fn (.func k) caps)] objs (fun d o=>d=bv (l.any p)∧o=objs):=by
 refine i7 Tryz.func341 rfl Tryz.ntmps341 (by simp) rfl ?_
 have hc:=mT l p k caps objs hok hf hl
 repeat' first|(with_reducible first|refine zz ?_|refine zx ?_|refine zE [0,1,4] ?_)|simp -dsimp|refine CallE.here hc ?_|with_reducible refine And.intro ?_ ?_
 simp[u7]
theorem mU (l:List Desk) (p:Desk→Bool) (k:Nat) (caps:List DC) (objs:List DObj) (hok:D4 Tryz.prog k) (hf:∀ x∈l,DCall Tryz.prog G k (sP x :: caps.map .one) objs (fun d o=>d=bv (p x)∧o=objs)) (hl:l.length<1000000):DCall Tryz.prog G 140 [.one (.im (.sl (l.map bY))),.one (.fn (.func k) caps)] objs (fun d o=>d=iv (G7 p l)∧o=objs):=by
 refine i7 Tryz.func140 rfl Tryz.ntmps140 (by simp) rfl ?_
 have hs:=trivial
 repeat' first|(with_reducible first|refine zz ?_|refine zE [0,1,4,5,7,8,9,16] ?_)|simp -dsimp[hs]
 refine g9 (ι:={ k:Nat // k≤l.length∧∀ j x,j<k→l[j]?=some x→p x=false }) (fun i=>⟨19,[(0,.one (.im (.sl (l.map bY)))),(1,.one (.fn (.func k) caps)),(7,iv (l.length:Int)),(8,iv (i.1:Int))],objs⟩) (fun i=>l.length-i.1) ⟨0,by simp⟩ (zv [0,1,7,8]) ?_
 rintro⟨i,hi,hno⟩
 simp only[iv]
 by_cases hlt:i<l.length
 ·have hx:l[i]?=some l[i]:=by simp[hlt]
  have hw:=zk i
  have hc:=hf l[i] (by simp)
  simp only[sP,List.map_cons,List.map_nil,bv,rI] at hc
  have hs:=za hx (za hw hok)
  repeat' first|(with_reducible first|refine zz ?_|refine And.intro (by omega) ?_|refine zr ?_|refine zE [0,1,4,5,7,8,9,16] ?_)|simp -dsimp[hs]|refine CallE.here hc ?_|refine i8 ?_ ?_<;>intro h<;>try simp only[i6] at h|with_reducible refine And.intro ?_ ?_
  all_goals try omega
  ·exact(I5 hx (by assumption) hno).symm
  ·exact At.round ⟨i+1,by omega,fun j x hj hjx=>by
    by_cases e:j=i
    ·subst e;rw[hx] at hjx;cases hjx;assumption
    ·exact hno j x (by omega) hjx⟩ (by simp;omega) (zv [0,1,7,8])
 ·have hs:=trivial
  repeat' first|(with_reducible first|refine zz ?_|refine zr ?_|refine zE [0,1,4,5,7,8,9,16] ?_)|simp -dsimp[hs]|refine i8 ?_ ?_<;>intro h<;>try simp only[i6] at h|with_reducible refine And.intro ?_ ?_
  all_goals try omega
  exact(Q3 fun j x hjx=>hno j x (by have:=e7 hjx;omega) hjx).symm
theorem iI (l:List Desk) (p:Desk→Bool) (k:Nat) (caps:List DC) (objs:List DObj) (hok:D4 Tryz.prog k) (hf:∀ x∈l,DCall Tryz.prog G k (sP x :: caps.map .one) objs (fun d o=>d=bv (p x)∧o=objs)) (hl:l.length<1000000):DCall Tryz.prog G 77 [.one (.im (.sl (l.map bY))),.one (.fn (.func k) caps)] objs (fun d o=>d=bv (l.any p)∧o=objs):=by
 refine i7 Tryz.func77 rfl Tryz.ntmps77 (by simp) rfl ?_
 have hc:=mU l p k caps objs hok hf hl
 repeat' first|(with_reducible first|refine zz ?_|refine zx ?_|refine zE [0,1,4] ?_)|simp -dsimp|refine CallE.here hc ?_|with_reducible refine And.intro ?_ ?_
 simp[u7]
theorem CA (so:Bool) (f:dg):DCall Tryz.prog G 342 (qU f :: [DC.ptr 0 0].map .one) [.row [.im (.raw (.bool so))]] (fun d o=>d=bv (f.1==so)∧o=[.row [.im (.raw (.bool so))]]):=by
 refine DCall.drop ?_
 refine i7 Tryz.func342 rfl Tryz.ntmps342 (by simp) rfl ?_
 simp only[qU,J0]
 repeat' first|(with_reducible first|refine zz ?_|refine zx ?_|refine zE [0,1,2,3] ?_)|simp -dsimp|with_reducible refine And.intro ?_ ?_
theorem Cz (so:Bool) (f:dg):DCall Tryz.prog G 344 (qU f :: [DC.ptr 0 0].map .one) [.row [.im (.raw (.bool so))]] (fun d o=>d=bv (f.2==so)∧o=[.row [.im (.raw (.bool so))]]):=by
 refine DCall.drop ?_
 refine i7 Tryz.func344 rfl Tryz.ntmps344 (by simp) rfl ?_
 simp only[qU,J0]
 repeat' first|(with_reducible first|refine zz ?_|refine zx ?_|refine zE [0,1,2,3] ?_)|simp -dsimp|with_reducible refine And.intro ?_ ?_
theorem ED (d:Desk) (i:Int) (so:Bool):zP Tryz.prog G 339 [sP d,iv i,bv so] (bv (d.notes==so)):=by
 refine zf Tryz.func339 Tryz.ntmps339 ?_
 try simp only[iv,bv]
 simp only[sP,ko,iY]
 repeat' first|(with_reducible first|refine zz ?_|refine zx ?_|refine zE [0,2,6] ?_)|simp -dsimp
theorem EC (d:Desk) (i:Nat) (so:Bool) (h:i<d.faults.length) (hl:∀ x∈d.faults,x.length<1000000):zP Tryz.prog G 340 [sP d,iv (i:Int),bv so] (bv ((d.faults.getD i []).any fun f=>f.1==so)):=by
 refine zf Tryz.func340 Tryz.ntmps340 ?_
 try simp only[iv,bv]
 simp only[sP,ko,iY]
 have c1:=bZ (G:=G) d.faults[i] (fun f=>f.1==so) 342 [.ptr 0 0] [.row [.im (.raw (.bool so))]] (by simp) (fun f _=>CA so f) (hl _ (List.getElem_mem h))
 have hg:d.faults.getD i []=d.faults[i]:=by simp[h]
 have hx:d.faults[i]?=some d.faults[i]:=by simp[h]
 rw[hg]
 generalize hxe:d.faults[i]=x at *
 have hs:=za hx (za hxe h)
 repeat' first|(with_reducible first|refine zz ?_|refine zr ?_|refine zE [0,1,2,5,6] ?_)|simp -dsimp[hs]|refine zh c1 ?_
theorem EB (d:Desk) (i:Nat) (so:Bool) (h:i<d.faults.length) (hl:∀ x∈d.faults,x.length<1000000):zP Tryz.prog G 343 [sP d,iv (i:Int),bv so] (bv ((d.faults.getD i []).any fun f=>f.2==so)):=by
 refine zf Tryz.func343 Tryz.ntmps343 ?_
 try simp only[iv,bv]
 simp only[sP,ko,iY]
 have c1:=bZ (G:=G) d.faults[i] (fun f=>f.2==so) 344 [.ptr 0 0] [.row [.im (.raw (.bool so))]] (by simp) (fun f _=>Cz so f) (hl _ (List.getElem_mem h))
 have hg:d.faults.getD i []=d.faults[i]:=by simp[h]
 have hx:d.faults[i]?=some d.faults[i]:=by simp[h]
 rw[hg]
 generalize hxe:d.faults[i]=x at *
 have hs:=za hx (za hxe h)
 repeat' first|(with_reducible first|refine zz ?_|refine zr ?_|refine zE [0,1,2,5,6] ?_)|simp -dsimp[hs]|refine zh c1 ?_
structure DkOk (n:Nat) (d:Desk):Prop where
 n:d.faults.length=n
 l:∀ x∈d.faults,x.length<1000000
theorem ue (n:Nat) (s:Susp) (hs:bR n s) (so:Bool) (hK:eD G) (d:Desk) (hd:DkOk n d):DCall Tryz.prog G 131 (sP d :: [DC.ptr 0 0,DC.ptr 1 0].map .one) [.row ((l5 s).map .im),.row [.im (.raw (.bool so))]] (fun r o=>r=bv (U8 d s so)∧o=[.row ((l5 s).map .im),.row [.im (.raw (.bool so))]]):=by
 refine DCall.drop ?_
 have hK':G 1=some [.raw .nilFunc,.fn (.func 339) [],.fn (.func 340) [],.fn (.func 343) []]:=hK
 have c1:=ED (G:=G) d s.index so
 obtain⟨k,i⟩:=s
 unfold U8
 simp only at c1
 rcases hs with h|⟨h|h,h1,h2⟩
 all_goals
  simp only at h
  subst h
 ·simp only[if_true]
  refine i7 Tryz.func131 rfl Tryz.ntmps131 (by simp) rfl ?_
  simp only[sP] at c1
  have hs:=hK'
  repeat' first|(with_reducible first|refine zz ?_|refine zr ?_)|simp -dsimp[hs]|refine zp c1 ?_|refine zM 1 15 9 [0,1,2,4] ?_|with_reducible refine zE [0,1,2,4] ?_|with_reducible refine And.intro ?_ ?_
  all_goals try clear hs
 ·simp only at h1 h2
  obtain⟨j,rfl⟩:=Int.eq_ofNat_of_zero_le h1
  have c2:=EC (G:=G) d j so (by rw[hd.n];omega) hd.l
  refine i7 Tryz.func131 rfl Tryz.ntmps131 (by simp) rfl ?_
  simp only[sP] at c2
  have hs:=hK'
  repeat' first|(with_reducible first|refine zz ?_|refine zr ?_)|simp -dsimp[hs]|refine zp c2 ?_|refine zM 1 15 9 [0,1,2,4] ?_|with_reducible refine zE [0,1,2,4] ?_|with_reducible refine And.intro ?_ ?_
  all_goals try clear hs
 ·simp only at h1 h2
  obtain⟨j,rfl⟩:=Int.eq_ofNat_of_zero_le h1
  have c2:=EB (G:=G) d j so (by rw[hd.n];omega) hd.l
  refine i7 Tryz.func131 rfl Tryz.ntmps131 (by simp) rfl ?_
  simp only[sP] at c2
  have hs:=hK'
  repeat' first|(with_reducible first|refine zz ?_|refine zr ?_)|simp -dsimp[hs]|refine zp c2 ?_|refine zM 1 15 9 [0,1,2,4] ?_|with_reducible refine zE [0,1,2,4] ?_|with_reducible refine And.intro ?_ ?_
  all_goals try clear hs
end Go.Proofs
namespace Go.Proofs
open Go Go.Ab
def Dx:Nat→List IC→Prop
 | 0=>fun l=>∃ n:Int,(0≤n∧n≤255)∧l=[.raw (.int .u8 n)]
 | _=>fun l=>∃ n:Int,l=[rI n]
theorem BQ:Rd 42 l5 (fun s=>0≤s.kind∧s.kind≤255):=(Opens.struct Tryz.underlying42 (by kernel_rfl) Dx (fun i f hf=>by
 rcases i with _|_|i<;>simp at hf<;>subst hf
 ·exact DY
 ·exact oInt)).mono (by
 rintro l ⟨ls,h1,h2,rfl⟩
 obtain⟨a,b,rfl⟩:=tZ h1
 obtain⟨x,hx,rfl⟩:=h2 0 a rfl
 obtain⟨y,rfl⟩:=h2 1 b rfl
 exact⟨⟨x,y⟩,hx,rfl⟩)
open Go Go.Ab Tryz
variable {G:GW}
def sq (c:Case) (y:Link) (lt:Int):Option Dim:=(n9 c.p.n.reg y.drawing lt).bind fun x=>x.dims[y.dim.toNat]?
theorem AU (c:Case) (k:Nat) (y:Link) (lt:Int) (hy0:c.loop.links[k]?=some y) (hd:0≤y.dim) (h0:j9 c.p.n.reg=0) (hG:s6 G) (hk:KC c):zP prog G 99 [m6 c,iv (k:Int),iv lt] (.tup [gN ((sq c y lt).getD vK),bv (sq c y lt).isSome]):=by
 refine zf func99 ntmps99 ?_
 try simp only[iv,iv]
 have hlt:k<c.loop.links.length:=e7 hy0
 have hy:c.loop.links[k]=y:=(List.getElem?_eq_some_iff.1 hy0).2
 have c1:=AY (G:=G) c.p.n.reg y.drawing lt hG hk.p.n.1
 obtain⟨j,hj⟩:=Int.eq_ofNat_of_zero_le hd
 simp only[A8,C9] at c1
 unfold sq
 unfold atR yT at c1
 rw[if_pos h0,if_neg (by simp[h0])] at c1
 have hdn:y.dim.toNat=j:=by rw[hj];simp
 cases hfi:n9 c.p.n.reg y.drawing lt with
 | none =>
   rw[hfi] at c1
   simp only[Option.isSome_none,Option.getD_none,Bool.false_eq_true,if_false,J2] at c1
   have hs:=za hy hlt
   repeat' first|(with_reducible first|refine zz ?_|refine zr ?_|refine zE [0,1,2,3,6,7,8,9,10,38] ?_)|simp -dsimp[hs]|refine zp c1 ?_|refine i8 ?_ ?_<;>intro h<;>try simp only[i6] at h
   all_goals exact⟨rfl,rfl,rfl⟩
 | some x =>
   rw[hfi] at c1
   simp only[Option.isSome_some,Option.getD_some,if_true] at c1
   simp only[Option.bind_some,hdn]
   by_cases hx:j<x.dims.length
   ·have hx1:x.dims[j]?=some x.dims[j]:=by simp[hx]
    have hxi:¬ ((x.dims.length:Int)≤(j:Int)):=by omega
    rw[hx1]
    generalize hz:x.dims[j]=z at *
    simp only[Option.isSome_some,Option.getD_some]
    have hs:=za hy (za hlt (za hj (za hx (za hxi (za hz hx1)))))
    repeat' first|(with_reducible first|refine zz ?_|refine zr ?_|refine zE [0,1,2,3,6,7,8,9,10,38] ?_)|simp -dsimp[hs]|refine zp c1 ?_|refine i8 ?_ ?_<;>intro h<;>try simp only[i6] at h
   ·have hxi:(x.dims.length:Int)≤(j:Int):=by omega
    rw[List.getElem?_eq_none (by omega)]
    simp only[Option.isSome_none,Option.getD_none]
    have hs:=za hy (za hlt (za hj hxi))
    repeat' first|(with_reducible first|refine zz ?_|refine zr ?_|refine zE [0,1,2,3,6,7,8,9,10,38] ?_)|simp -dsimp[hs]|refine zp c1 ?_|refine i8 ?_ ?_<;>intro h<;>try simp only[i6] at h
    all_goals exact⟨rfl,rfl,rfl⟩
theorem ww (c:Case) (k:Nat) (y:Link) (lt:Int) (hy0:c.loop.links[k]?=some y) (hd:0≤y.dim) (hk:KC c):zP prog G 150 [m6 c,iv (k:Int),iv lt] (.tup [gN ((sq c y lt).getD vK),bv (sq c y lt).isSome]):=by
 refine zf func150 ntmps150 ?_
 try simp only[iv,iv]
 have hlt:k<c.loop.links.length:=e7 hy0
 have hy:c.loop.links[k]=y:=(List.getElem?_eq_some_iff.1 hy0).2
 have c1:=kg (G:=G) c.p.n.reg y.drawing lt (by have:=hk.p.p.l;omega)
 obtain⟨j,hj⟩:=Int.eq_ofNat_of_zero_le hd
 simp only[A8,C9] at c1
 unfold sq
 have hdn:y.dim.toNat=j:=by rw[hj];simp
 cases hfi:n9 c.p.n.reg y.drawing lt with
 | none =>
   rw[hfi] at c1
   simp only[Option.isSome_none,Option.getD_none,J2] at c1
   have hs:=za hy hlt
   repeat' first|(with_reducible first|refine zz ?_|refine zr ?_|refine zE [0,1,2,3,6,7,8,9,10,38] ?_)|simp -dsimp[hs]|refine zp c1 ?_|refine i8 ?_ ?_<;>intro h<;>try simp only[i6] at h
   all_goals exact⟨rfl,rfl,rfl⟩
 | some x =>
   rw[hfi] at c1
   simp only[Option.isSome_some,Option.getD_some] at c1
   simp only[Option.bind_some,hdn]
   by_cases hx:j<x.dims.length
   ·have hx1:x.dims[j]?=some x.dims[j]:=by simp[hx]
    have hxi:¬ ((x.dims.length:Int)≤(j:Int)):=by omega
    rw[hx1]
    generalize hz:x.dims[j]=z at *
    simp only[Option.isSome_some,Option.getD_some]
    have hs:=za hy (za hlt (za hj (za hx (za hxi (za hz hx1)))))
    repeat' first|(with_reducible first|refine zz ?_|refine zr ?_|refine zE [0,1,2,3,6,7,8,9,10,38] ?_)|simp -dsimp[hs]|refine zp c1 ?_|refine i8 ?_ ?_<;>intro h<;>try simp only[i6] at h
   ·have hxi:(x.dims.length:Int)≤(j:Int):=by omega
    rw[List.getElem?_eq_none (by omega)]
    simp only[Option.isSome_none,Option.getD_none]
    have hs:=za hy (za hlt (za hj hxi))
    repeat' first|(with_reducible first|refine zz ?_|refine zr ?_|refine zE [0,1,2,3,6,7,8,9,10,38] ?_)|simp -dsimp[hs]|refine zp c1 ?_|refine i8 ?_ ?_<;>intro h<;>try simp only[i6] at h
    all_goals exact⟨rfl,rfl,rfl⟩
theorem mj {c:Case} (h:Z9 c=true) {k:Nat} {y:Link} (hy:c.loop.links[k]?=some y):0≤y.dim∧y.dim≤3:=by
 have hok:=V4 h
 have hlt:=e7 hy
 have hlen:=hok.e
 rw[N1,Bool.and_eq_true,List.all_eq_true] at h
 have h3:k<(c.loop.links.zip c.pieces).length:=by rw[List.length_zip];omega
 have:=h.2 _ (List.getElem_mem h3)
 rw[List.getElem_zip] at this
 simp only[H2,Bool.and_eq_true,decide_eq_true_eq] at this
 rw[(List.getElem?_eq_some_iff.1 hy).2] at this
 exact this.2.1
attribute [simp] D6 lD E8 N8 nilV bu ZK
def jD (c:Case) (s:List Int) (d:Int):Int:=ak c.p.n.notes (E4 s [] c.machine c.p.n.notes) d
def dF (c:Case) (s:List Int):Chains:=⟨c.p.n.reg,B7 c.p.n s c.machine,c.of,[c.loop]⟩
def pP (c:Case) (s:List Int):Bool:=!decide (u4 (dF c s) 0=0) || !decide (C6 (dF c s) 0=2)
def sK (c:Case) (y:Link) (x:Piece) (l:Int):Bool:=match sq c y l with
 | none=>true
 | some z=>decide (x.lo≤z.upper)&&decide (z.lower≤x.hi)
def vF (c:Case) (y:Link) (x:Piece) (l:Int):Bool:=match sq c y l with
 | none=>false
 | some z=>!aC x.lo x.hi z.lower z.upper
def H4 (c:Case) (y:Link) (x:Piece) (o:Int) (L:List dg) (l:Int):List dg:=bQ (bQ L (sK c y x l) (!decide (l=o),false)) (vF c y x l) (!decide (l=o),true)
noncomputable def dZ (c:Case) (s:List Int) (k:Nat):List dg:=match c.pieces[k]?,c.loop.links[k]? with
 | some x,some y=>(aR c k).foldl (H4 c y x (jD c s y.drawing)) []
 | _,_=>[]
noncomputable def w0 (c:Case) (s:List Int):Desk:=⟨c,pP c s,(List.range c.pieces.length).map (dZ c s)⟩
theorem kF (L:List dg) (so:Bool) (f:dg):(bQ L so f).length≤L.length+1:=by
 unfold bQ;split<;>simp
theorem qV (c:Case) (y:Link) (x:Piece) (o:Int) (L:List dg) (l:Int):(H4 c y x o L l).length≤L.length+2:=Nat.le_trans (kF _ _ _) (Nat.succ_le_succ (kF _ _ _))
theorem cN (c:Case) (y:Link) (x:Piece) (o:Int):∀ (l:List Int) (L:List dg),(l.foldl (H4 c y x o) L).length≤L.length+2*l.length
 | [],_=>by simp
 | a :: l,L=>by
   rw[List.foldl_cons,List.length_cons]
   have h1:=cN c y x o l (H4 c y x o L a)
   have h2:=qV c y x o L a
   omega
theorem sJ (c:Case) (y:Link) (x:Piece) (o:Int) {L:List Int} {k:Nat} (h:k<L.length):(L.take (k+1)).foldl (H4 c y x o) []=H4 c y x o ((L.take k).foldl (H4 c y x o) []) L[k]:=by
 rw[List.take_succ_eq_append_getElem h,List.foldl_append]
 rfl
theorem gI (c:Case) (k:Nat):(aR c k).length≤c.p.prints.length+1:=by
 unfold aR
 split
 ·unfold N7
  split
  ·exact pX _ _ _ _
  ·simp
 ·simp
theorem mi {c:Case} (h0:j9 c.p.n.reg=0) (h:Z9 c=true) {k:Nat} (h1:k<c.pieces.length) (h2:k<c.loop.links.length):c.loop.links[k].drawing∈nums c.p.n.reg:=by
 rw[N1,Bool.and_eq_true,List.all_eq_true] at h
 have h3:k<(c.loop.links.zip c.pieces).length:=by rw[List.length_zip];omega
 have:=h.2 _ (List.getElem_mem h3)
 rw[List.getElem_zip] at this
 simp only[H2,Bool.and_eq_true] at this
 have h4:=this.1
 cases hf:n9 c.p.n.reg c.loop.links[k].drawing 1 with
 | none=>rw[hf] at h4;simp at h4
 | some z =>
   have hz:=List.find?_some hf
   simp only[Bool.and_eq_true,beq_iff_eq] at hz
   rw[← hz.1]
   exact(C2 h0).2 z (List.mem_of_find?_eq_some hf)
theorem mn (c:Case) (s:List Int) (he:B8 c=0) (ht:C0 (j8 (j6 c.p.n.notes)) s=true) (hsl:s.length<1000) (hG:s6 G) (hN:M7 G) (hS:C8 G) (hR:F0 G) (hC:V9 G) (hk:KC c):zP prog G 68 [m6 c,n7 s] (.one (.im (ko (w0 c s)))):=by
 refine zf func68 ntmps68 ?_
 try simp only[n7]
 obtain⟨hp0,hcb⟩:=F6 he
 obtain⟨hn0,hpb,hr0⟩:=E1 hp0
 have hok:=V4 hcb
 have hlen:=hok.e
 have hl8:=hok.l
 have hpl:=hk.p.p.q
 have hmc:1≤c.machine∧c.machine≤999:=by
  rw[N1,Bool.and_eq_true] at hcb
  have:=hcb.1
  simp only[ce,Bool.and_eq_true,decide_eq_true_eq] at this
  exact this.2.1
 have hA:r5 c.p.n s c.machine=0:=by
  unfold r5;rw[if_neg (by simp[hn0]),if_neg (by rw[ht];decide),if_pos hmc]
 have c1:=qA (G:=G) c.p.n s c.machine hG hN hS hk.p.n hsl
 rw[hA,if_pos rfl,qI] at c1
 have hnl:=n0 c.p.n.reg c.p.n.reg.length
 have hr80:=hk.p.n.1.1
 have hown:(B7 c.p.n s c.machine).length=(nums c.p.n.reg).length:=by unfold B7;rw[List.length_map]
 have hsc:T3 (dF c s):=⟨hk.p.n.1,by show (B7 c.p.n s c.machine).length≤80;rw[hown,nums];omega,by simp[dF],fun x hx=>by simp[dF] at hx;subst hx;omega⟩
 have c2:=tN (G:=G) (dF c s) 0 hG hC hsc Ge
 have hnb:pP c s=(!decide (u4 (dF c s) 0=0) || !decide (C6 (dF c s) 0=2)):=rfl
 have c3:=bH (G:=G) c.p.n.reg hG hk.p.n.1
 have hdr:cR c.p.n.reg=nums c.p.n.reg:=by unfold cR;rw[if_pos hr0]
 rw[hdr,hr0] at c3
 have hD:w0 c s=⟨c,pP c s,(List.range c.pieces.length).map (dZ c s)⟩:=rfl
 have hE:ko (w0 c s)=.ip (j4 c++[.raw (.bool (pP c s)),.sl (((List.range c.pieces.length).map (dZ c s)).map V7)]):=by rw[hD];rfl
 rw[hE]
 clear hD hE
 have hcs:(¬ u4 (dF c s) 0=0∧True∧pP c s=true)∨(u4 (dF c s) 0=0∧C6 (dF c s) 0=2∧pP c s=false)∨(u4 (dF c s) 0=0∧¬ C6 (dF c s) 0=2∧pP c s=true):=by
  rw[hnb]
  by_cases g1:u4 (dF c s) 0=0<;>by_cases g2:C6 (dF c s) 0=2<;>simp[g1,g2]
 have hfl:∀ k,k<c.pieces.length→∀ x y,c.pieces[k]?=some x→c.loop.links[k]?=some y→dZ c s k=(aR c k).foldl (H4 c y x (jD c s y.drawing)) []:=fun k _ x y hx hy=>by unfold dZ;rw[hx,hy]
 have hown2:∀ d,d∈nums c.p.n.reg→(B7 c.p.n s c.machine)[lb (nums c.p.n.reg) d]?=some (jD c s d):=fun d hd=>by
  have h1:=(qF ((C2 hr0).1.imp fun h=>Int.le_of_lt h)).1 hd
  unfold B7 jD
  rw[List.getElem?_map,h1]
  rfl
 generalize u4 (dF c s) 0=le at *
 generalize C6 (dF c s) 0=ck at *
 generalize pP c s=nb at *
 simp only[gS,dF,E5,D7,A8,l4,m4,m6,j4,List.map_cons,List.map_nil] at c1 c2 c3 ⊢
 generalize B7 c.p.n s c.machine=LT at *
 have hs:True:=trivial
 rcases hcs with⟨g1,g2,gn⟩|⟨g1,g2,gn⟩|⟨g1,g2,gn⟩
 all_goals
  have hs:=za g1 g2
  repeat' first|with_reducible refine zz ?_|simp -dsimp[hs]|refine zp c1 ?_|refine zt c2 ?_ ?_ ?_;(focus simp;done);focus (simp;done)|refine zp c3 ?_|with_reducible refine O1 (id:=1) (nt:=172) [0,1,2,4,5,6,8,9,10,11,13,14,16,17,19,20,21,22,71,72,73,93,94,95,96] rfl ?_;simp -dsimp[hs]|with_reducible refine zE [0,1,2,4,5,6,8,9,10,11,13,14,16,17,19,20,21,22,71,72,73,93,94,95,96] ?_
  all_goals try clear hs
 all_goals
  refine g9 (ι:={ q:Nat×Nat×Nat×Bool // q.1≤c.pieces.length∧(q.2.2.1=1∨q.2.2.2=true) }) (fun q=>⟨172,[(2,.one (.ptr 0 0)),(5,.one (.ptr 8 0)),(6,n7 LT),(11,n7 (nums c.p.n.reg)),(71,iv (c.pieces.length:Int)),(72,iv (q.1.1:Int))],[.row ((j4 c).map .im),.vec 0 [] 0 true,.vec 0 [] 0 true,.vec 0 [] 0 true,.vec 0 [] 0 true,.vec 0 [] 0 true,.vec 0 [] 0 true,.vec q.1.2.2.1 (n4 (((List.range q.1.1).map (dZ c s)).map V7)) q.1.2.1 q.1.2.2.2,.row ((j4 c).map .im++[.im (.raw (.bool nb)),.vec 7 q.1.2.1 0 q.1.1]),.vec 0 [] 0 true,.row [.im (.sl (c.p.n.reg.map e9))]]⟩) (fun q=>c.pieces.length-q.1.1) ⟨(0,0,0,true),by simp⟩ (zw [2,5,6,11,71,72] 11 (by simp[gn,n4])) ?_
  clear c1 c2 g1 g2 gn
  rintro⟨⟨k,g,sz,nl⟩,hk1,hz⟩
  simp only at hk1 hz
  simp only[iv]
  by_cases hlt:k<c.pieces.length
  ·have hlt2:k<c.loop.links.length:=by omega
   have hw:=zk k
   have hx0:c.pieces[k]?=some c.pieces[k]:=by simp[hlt]
   have hy0:c.loop.links[k]?=some c.loop.links[k]:=by simp[hlt2]
   have hyd:=mj hcb hy0
   have hFk:=hfl k hlt _ _ hx0 hy0
   have hdm:c.loop.links[k].drawing∈nums c.p.n.reg:=mi hr0 hcb hlt hlt2
   have hol:=hown2 _ hdm
   have c4:=ml (G:=G) (nums c.p.n.reg) c.loop.links[k].drawing ((C2 hr0).1.imp fun h=>Int.le_of_lt h) (by rw[nums];omega)
   have c5:=Ct (G:=G) c k hlt hlt2 hG hN hS hR hk
   have c6:=fun lt=>AU (G:=G) c k _ lt hy0 hyd.1 hr0 hG hk
   have hml:=gI c k
   have hfold:=fun j=>cN c c.loop.links[k] c.pieces[k] (jD c s c.loop.links[k].drawing) ((aR c k).take j) []
   generalize hx:c.pieces[k]=x at *
   generalize hy:c.loop.links[k]=y at *
   generalize jD c s y.drawing=o at *
   generalize lb (nums c.p.n.reg) y.drawing=at0 at *
   have hlo:at0<LT.length:=e7 hol
   have hLo:LT[at0]=o:=(List.getElem?_eq_some_iff.1 hol).2
   generalize hM:aR c k=M at *
   simp only[m6,j4] at c5 c6
   have hs:=za hx (za hy (za hlt (za hlt2 hw)))
   repeat' first|(with_reducible first|refine zz ?_|refine zE [0,1,2,4,5,6,8,9,10,11,13,14,16,17,19,20,21,22,71,72,73,93,94,95,96] ?_)|simp -dsimp[hs]|refine zp c4 ?_|refine zp c5 ?_|refine i8 ?_ ?_<;>intro h<;>try simp only[i6] at h
   all_goals try clear hs
   refine g9 (ι:={ p:Nat×Nat×Nat×Bool // p.1≤M.length∧(p.2.2.1=2∨p.2.2.2=true) }) (fun p=>⟨172,[(2,.one (.ptr 0 0)),(5,.one (.ptr 8 0)),(6,n7 LT),(11,n7 (nums c.p.n.reg)),(13,iv (k:Int)),(14,iv (at0:Int)),(16,.one (.ptr 12 0)),(17,.one (.fn (.func 134) [.ptr 12 0])),(71,iv (c.pieces.length:Int)),(72,iv (k:Int)),(93,n7 M),(94,iv (M.length:Int)),(95,iv (p.1.1:Int))],[.row ((j4 c).map .im),.vec 0 [] 0 true,.vec 0 [] 0 true,.vec 0 [] 0 true,.vec 0 [] 0 true,.vec 0 [] 0 true,.vec 0 [] 0 true,.vec sz (n4 (((List.range k).map (dZ c s)).map V7)) g nl,.row ((j4 c).map .im++[.im (.raw (.bool nb)),.vec 7 g 0 k]),.vec 0 [] 0 true,.row [.im (.sl (c.p.n.reg.map e9))],.vec p.1.2.2.1 (n4 (((M.take p.1.1).foldl (H4 c y x o) []).map J0)) p.1.2.1 p.1.2.2.2,.row [.vec 11 p.1.2.1 0 ((M.take p.1.1).foldl (H4 c y x o) []).length]]⟩) (fun p=>M.length-p.1.1) ⟨(0,0,0,true),by simp⟩ (zv [2,5,6,11,13,14,16,17,71,72,93,94,95] (by simp[n4])) ?_
   rintro⟨⟨j,g2,sz2,nl2⟩,hj,hz2⟩
   simp only at hj hz2
   simp only[iv,n7]
   by_cases hlj:j<M.length
   ·have hwj:=zk j
    have hst:=sJ c y x o hlj
    have hfj:=hfold j
    have c7:=c6 M[j]
    generalize hv:M[j]=v at *
    generalize (M.take j).foldl (H4 c y x o) []=F at *
    rw[List.length_take,List.length_nil] at hfj
    have hF1:=kF F (sK c y x v) (!decide (v=o),false)
    have c8:=yx (G:=G) F g2 sz2 nl2 (sK c y x v) (!decide (v=o),false) (by omega) hz2
    have c9:=fun g sz nl hz=>yx (G:=G) (bQ F (sK c y x v) (!decide (v=o),false)) g sz nl (vF c y x v) (!decide (v=o),true) (by omega) hz
    rw[show H4 c y x o F v=bQ (bQ F (sK c y x v) (!decide (v=o),false)) (vF c y x v) (!decide (v=o),true) from rfl] at hst
    simp only[qU,J0,bv,List.map_cons,List.map_nil] at c8 c9
    have hcs:(sq c y v=none∧sK c y x v=true∧vF c y x v=false)∨∃ z,sq c y v=some z∧sK c y x v=(decide (x.lo≤z.upper)&&decide (z.lower≤x.hi))∧vF c y x v=!aC x.lo x.hi z.lower z.upper:=by
     unfold sK vF
     cases sq c y v with
     | none=>exact .inl ⟨rfl,rfl,rfl⟩
     | some z=>exact .inr ⟨z,rfl,rfl,rfl⟩
    generalize sK c y x v=b1 at *
    generalize vF c y x v=b2 at *
    rcases hcs with⟨e1,rfl,rfl⟩|⟨z,e1,e2,e3⟩
    ·rw[e1] at c7
     simp only[Option.isSome_none,Option.getD_none,vK] at c7
     have hs:=za hx (za hy (za hv (za hlt (za hlt2 (za hlj (za hwj (za hlo hLo)))))))
     repeat' first|with_reducible refine zz ?_|simp -dsimp[hs]|refine zp c7 ?_|refine CallE.embed_ex [12,11] (c8) ?_ ?_ ?_ ?_ ?_ ?_;(focus simp[w9];done);(focus simp;done);(focus simp;done);(focus simp;done);(focus refine s0 ?_;simp[w9,v8];done);intro mmA hmmA;try simp -dsimp[p9,w9,hs]|refine CallE.embed_ex [12,11] ((c9 mmA.1 mmA.2.1 mmA.2.2 hmmA)) ?_ ?_ ?_ ?_ ?_ ?_;(focus simp[w9];done);(focus simp;done);(focus simp;done);(focus simp;done);(focus refine s0 ?_;simp[w9,v8];done);intro mmB hmmB;try simp -dsimp[p9,w9,hs]|refine zM 18 172 24 [0,1,2,4,5,6,8,9,10,11,13,14,16,17,19,20,21,22,71,72,73,93,94,95,96] ?_|refine zM 19 172 18 [0,1,2,4,5,6,8,9,10,11,13,14,16,17,19,20,21,22,71,72,73,93,94,95,96] ?_|with_reducible refine zE [0,1,2,4,5,6,8,9,10,11,13,14,16,17,19,20,21,22,71,72,73,93,94,95,96] ?_|refine i8 ?_ ?_<;>intro h<;>try simp only[i6] at h
     all_goals try clear hs
     all_goals exact zn ⟨(j+1,mmB.1,mmB.2.1,mmB.2.2),by simp only;omega,hmmB⟩ (zw [2,5,6,11,13,14,16,17,71,72,93,94,95] 13 (by simp[hst]))
    ·rw[e1] at c7
     simp only[Option.isSome_some,Option.getD_some] at c7
     have c10:=fK (G:=G) x.lo x.hi z.lower z.upper
     generalize aC x.lo x.hi z.lower z.upper=ib at *
     have hcs2:(x.lo≤z.upper∧z.lower≤x.hi∧b1=true)∨(x.lo≤z.upper∧¬ z.lower≤x.hi∧b1=false)∨(¬ x.lo≤z.upper∧True∧b1=false):=by
      by_cases q1:x.lo≤z.upper<;>by_cases q2:z.lower≤x.hi<;>simp[q1,q2,e2]
     clear e2
     subst e3
     simp only[C9] at c10
     rcases hcs2 with⟨q1,q2,rfl⟩|⟨q1,q2,rfl⟩|⟨q1,q2,rfl⟩
     all_goals
      have hs:=za hx (za hy (za hv (za hlt (za hlt2 (za hlj (za hwj (za hlo (za hLo (za q1 q2)))))))))
      repeat' first|with_reducible refine zz ?_|simp -dsimp[hs]|refine zp c7 ?_|refine zq c10 ?_|refine CallE.embed_ex [12,11] (c8) ?_ ?_ ?_ ?_ ?_ ?_;(focus simp[w9];done);(focus simp;done);(focus simp;done);(focus simp;done);(focus refine s0 ?_;simp[w9,v8];done);intro mmA hmmA;try simp -dsimp[p9,w9,hs]|refine CallE.embed_ex [12,11] ((c9 mmA.1 mmA.2.1 mmA.2.2 hmmA)) ?_ ?_ ?_ ?_ ?_ ?_;(focus simp[w9];done);(focus simp;done);(focus simp;done);(focus simp;done);(focus refine s0 ?_;simp[w9,v8];done);intro mmB hmmB;try simp -dsimp[p9,w9,hs]|refine zM 18 172 24 [0,1,2,4,5,6,8,9,10,11,13,14,16,17,19,20,21,22,71,72,73,93,94,95,96] ?_|refine zM 19 172 18 [0,1,2,4,5,6,8,9,10,11,13,14,16,17,19,20,21,22,71,72,73,93,94,95,96] ?_|with_reducible refine zE [0,1,2,4,5,6,8,9,10,11,13,14,16,17,19,20,21,22,71,72,73,93,94,95,96] ?_|refine i8 ?_ ?_<;>intro h<;>try simp only[i6] at h
      all_goals try clear hs
     all_goals exact zn ⟨(j+1,mmB.1,mmB.2.1,mmB.2.2),by simp only;omega,hmmB⟩ (zw [2,5,6,11,13,14,16,17,71,72,93,94,95] 13 (by simp[hst]))
   ·obtain rfl:j=M.length:=by omega
    simp only[List.take_length]
    have hfM:=hfold M.length
    rw[List.take_length,List.length_nil] at hfM
    have hrs:((List.range (k+1)).map (dZ c s)).map V7=((List.range k).map (dZ c s)).map V7++[[.sl ((M.foldl (H4 c y x o) []).map J0)]]:=by
     rw[List.range_succ,List.map_append,List.map_append]
     simp[hFk]
    have hrl:(((List.range k).map (dZ c s)).map V7).length=k:=by simp
    generalize M.foldl (H4 c y x o) []=F at *
    generalize ((List.range k).map (dZ c s)).map V7=Fqs at *
    have htk:List.take F.length (n4 (F.map J0))=n4 (F.map J0):=List.take_of_length_le (by simp[n4])
    have htkF:List.take k (n4 Fqs)=n4 Fqs:=List.take_of_length_le (by simp[n4,hrl])
    have hrs2:n4 (((List.range (k+1)).map (dZ c s)).map V7)=n4 Fqs++[[.im (.sl (F.map J0))]]:=by rw[hrs];simp[n4]
    have hrs3:=hrs2
    rw[List.map_map] at hrs3
    clear hrs
    have hs:=za hlj (za hz (za hw hrl))
    repeat' first|(with_reducible first|refine zz ?_|refine And.intro (by omega) ?_)|simp -dsimp[hs]|refine sf (id:=21) (nt:=172) [0,1,2,3,4,5,6,7,8,9,10] 6 [([0,1,2,3,4],[0,1,2,4,5,6,8,9,10,11,13,14,16,17,19,20,21,22,71,72,73,93,94,95,96,165]),([0],[0,1,2,4,5,6,8,9,10,11,13,14,16,17,19,20,21,22,71,72,73,93,94,95,96,164,166])] [0,1,2,4,5,6,8,9,10,11,13,14,16,17,19,20,21,22,71,72,73,93,94,95,96] mixed rfl (by kernel_rfl) (by kernel_rfl) ?_|with_reducible refine zE [0,1,2,4,5,6,8,9,10,11,13,14,16,17,19,20,21,22,71,72,73,93,94,95,96] ?_|refine i8 ?_ ?_<;>intro h<;>try simp only[i6] at h
    all_goals try clear hs
    all_goals exact zn ⟨(k+1,g+1,1,false),by simp only;omega,.inl rfl⟩ (zw [2,5,6,11,71,72] 11 (by simp[htk,htkF,hrs3]))
  ·obtain rfl:k=c.pieces.length:=by omega
   have hrl:(((List.range c.pieces.length).map (dZ c s)).map V7).length=c.pieces.length:=by simp
   generalize hFS:((List.range c.pieces.length).map (dZ c s)).map V7=Fqs at *
   have htk:List.take c.pieces.length (n4 Fqs)=n4 Fqs:=List.take_of_length_le (by simp[n4,hrl])
   have hs:=za hlt (za htk hrl)
   repeat' first|(with_reducible first|refine zz ?_|refine zr ?_|refine zE [0,1,2,4,5,6,8,9,10,11,13,14,16,17,19,20,21,22,71,72,73,93,94,95,96] ?_)|simp -dsimp[hs]|refine i8 ?_ ?_<;>intro h<;>try simp only[i6] at h
   all_goals try clear hs
   all_goals rw[← hFS]
   all_goals simp
attribute [simp] D6 lD E8 N8 nilV bu ZK
noncomputable def ed (c:Case) (O:List Int) (k:Nat):List Desk:=(iC O k).map (w0 c)
noncomputable def E9 (c:Case):List Desk:=(P4 (j8 (j6 c.p.n.notes))).map (w0 c)
theorem uB (c:Case) (O:List Int) (k:Nat):(ed c O k).length=k:=by simp[ed,jn]
theorem rh (c:Case) (O:List Int) (k:Nat):ed c O (k+1)=ed c O k++[w0 c (R2 O k O.length)]:=by simp[ed,lm]
theorem rg (c:Case) (O:List Int):ed c O 0=[]:=rfl
theorem lA (N:List Int) (s:Nat):∀ k,k≤N.length→(R2 N s k).Sublist (N.take k)
 | 0,_=>by simp[R2]
 | k+1,hk=>by
   have hk':k<N.length:=hk
   rw[dm,List.take_succ_eq_append_getElem hk',show N.getD k 0=N[k] by simp[hk']]
   refine(lA N s k (by omega)).append ?_
   split
   ·exact List.Sublist.refl _
   ·exact List.nil_sublist _
theorem fh (O:List Int) (k:Nat):(R2 O k O.length).Sublist O:=by
 have:=lA O k O.length (Nat.le_refl _)
 rwa [List.take_length] at this
theorem jl {O t:List Int} (hO:O.Pairwise (· < ·)) (ht:t.Sublist O):C0 O t=true:=by
 refine eg fun i v hv=>⟨ht.subset (List.mem_of_getElem? hv),fun j u hj hu=>?_⟩
 subst hj
 obtain⟨h1,h2⟩:=List.getElem?_eq_some_iff.1 hv
 obtain⟨h3,h4⟩:=List.getElem?_eq_some_iff.1 hu
 have:=List.pairwise_iff_getElem.1 (hO.sublist ht) j (j+1) h3 h1 (by omega)
 omega
theorem uN (c:Case):zP prog G 127 [m6 c] (.one (.im (.fn (.func 192) [.ip (j4 c)]))):=by
 refine zf func127 ntmps127 ?_
 try simp only[iv]
 simp only[m6,j4]
 repeat' first|(with_reducible first|refine zz ?_|refine zx ?_|refine zE [0,1,2] ?_)|simp -dsimp
theorem rF (c:Case) (he:B8 c=0) (hG:s6 G) (hN:M7 G) (hS:C8 G) (hR:F0 G) (hC:V9 G) (hk:KC c):zP prog G 191 [.one (.im (.raw (.slice none 0 0))),.one (.im (.fn (.func 192) [.ip (j4 c)]))] (cp (E9 c)):=by
 refine zf func191 ntmps191 ?_
 try simp only[iv]
 obtain⟨hp0,hcb⟩:=F6 he
 obtain⟨hn0,hpb,hr0⟩:=E1 hp0
 have hnk:=Y4 hn0
 have hn12:=hnk.2.1
 have hO5:(j8 (j6 c.p.n.notes)).length≤5:=by rw[mQ];exact hnk.2.2.2
 have hstr:=fI (cJ hnk.2.2.1)
 have hE:E9 c=ed c (j8 (j6 c.p.n.notes)) (2 ^ (j8 (j6 c.p.n.notes)).length):=rfl
 rw[hE]
 clear hE
 have c1:=fun k=>mn (G:=G) c (R2 (j8 (j6 c.p.n.notes)) k (j8 (j6 c.p.n.notes)).length) he (jl hstr (fh _ k)) (by have:=fg (j8 (j6 c.p.n.notes)) k (j8 (j6 c.p.n.notes)).length;omega) hG hN hS hR hC hk
 have hcn:j4 c=[.sl (c.p.n.reg.map e9),.sl (c.p.n.notes.map l9)]++(j4 c).drop 2:=rfl
 simp only[cp]
 have hs:=trivial
 repeat' first|(with_reducible first|refine zz ?_|refine zE [0,1,2,4,5,6,7] ?_)|simp -dsimp[hs]
 all_goals try clear hs
 refine nE (Weak.nilCell 0 0 rfl rfl) ?_
 have hs:True:=trivial
 all_goals try simp -dsimp[hs]
 all_goals try clear hs
 refine Q9 (f:=192) (by simp;exact rfl) (by rfl) call192 ?_
 generalize hR:LoopD.mk _ _ _ _ _ _ _=R
 have hR1:R.st=.ready:=by rw[← hR]
 have hR2:R.pend=none:=by rw[← hR]
 have hR3:R.at .ready none=R:=by rw[← hR];rfl
 have hR4:=(congrArg LoopD.nt hR).symm
 have hR5:=(congrArg LoopD.tm hR).symm
 have hR6:=(congrArg LoopD.ps hR).symm
 have hR7:=(congrArg LoopD.asg hR).symm
 have hR8:=(congrArg LoopD.body hR).symm
 dsimp only at hR4 hR5 hR6 hR7 hR8
 clear hR
 refine i7 func192 rfl ntmps192 (by simp) rfl ?_
 have hR10:∀ objs:List DObj,(R.tm.map fun x=>(x.1,eV 4 objs x.2))=R.tm:=by intro objs;rw[hR5];simp
 have hR9:∀ objs:List DObj,(R.tm.map fun x=>(x.1,eV 5 objs x.2))=R.tm:=by intro objs;rw[hR5];simp
 have hs:=za hR1 (za hR2 hR3)
 repeat' first|(with_reducible first|refine zz ?_|refine zE [0,1,2,3,4,5,6,7,8,9,13,14,15,16,21,32,33,34,36,37,38,39,47,58] ?_)|simp -dsimp[hs]
 all_goals try clear hs
 refine g9 (ι:={ p:Nat×Nat×Nat×Bool // p.1≤c.p.n.notes.length∧(p.2.2.1=1∨p.2.2.2=true∧j6 (c.p.n.notes.take p.1)=[]) }) (fun p=>⟨60,[(0,.one (.yld 3)),(1,.one (.im (.ip (j4 c)))),(3,.one (.vec 4 p.1.2.1 0 (j6 (c.p.n.notes.take p.1.1)).length)),(13,.one (.im (.sl (c.p.n.notes.map l9)))),(14,iv (c.p.n.notes.length:Int)),(15,iv (p.1.1:Int))],[.row [.vec 2 0 0 0],.vec 1 [] 0 true,.vec 0 [] 0 true,.loop R,.vec p.1.2.2.1 (n4 ((j6 (c.p.n.notes.take p.1.1)).map l7)) p.1.2.1 p.1.2.2.2]⟩) (fun p=>c.p.n.notes.length-p.1.1) ⟨(0,0,1,true),by simp[j6]⟩ (zv [0,1,3,13,14,15] (by simp[j6,n4])) ?_
 rintro⟨⟨k,g,sz,nl⟩,hk,hz⟩
 simp only at hk hz
 simp only[iv]
 have hz':sz=1∨nl=true:=hz.imp id And.left
 by_cases hlt:k<c.p.n.notes.length
 ·have hx0:c.p.n.notes[k]?=some c.p.n.notes[k]:=by simp[hlt]
  have hw:=zk k
  have hos:=bt c.p.n.notes k hlt
  have hol:=Y0 (c.p.n.notes.take k)
  rw[List.length_take] at hol
  generalize hx:c.p.n.notes[k]=x at *
  by_cases hsg:x.signed=1
  ·rw[if_pos hsg] at hos
   have hs:=za hR1 (za hR2 (za hR3 (za hx (za hlt (za hsg (za hw hz'))))))
   repeat' first|(with_reducible first|refine zz ?_|refine And.intro (by omega) ?_|refine zE [0,1,2,3,4,5,6,7,8,9,13,14,15,16,21,32,33,34,36,37,38,39,47,58] ?_)|simp -dsimp[hs]|refine i8 ?_ ?_<;>intro h<;>try simp only[i6] at h
   all_goals try clear hs
   exact zn ⟨(k+1,g+1,1,false),by omega,.inl rfl⟩ (zw [0,1,3,13,14,15] 5 (by clear hR4 hR5 hR6 hR7 hR8;simp[hos,hR1,hR2,hR3,hR9,LoopD.at_eta]))
  ·rw[if_neg hsg,List.append_nil] at hos
   have hszn:sz=1∨nl=true∧j6 (c.p.n.notes.take (k+1))=[]:=by rw[hos];exact hz
   have hs:=za hR1 (za hR2 (za hR3 (za hx (za hlt (za hsg hw)))))
   repeat' first|(with_reducible first|refine zz ?_|refine zE [0,1,2,3,4,5,6,7,8,9,13,14,15,16,21,32,33,34,36,37,38,39,47,58] ?_)|simp -dsimp[hs]|refine i8 ?_ ?_<;>intro h<;>try simp only[i6] at h
   all_goals try clear hs
   exact zn ⟨(k+1,g,sz,nl),by omega,hszn⟩ (zw [0,1,3,13,14,15] 5 (by clear hR4 hR5 hR6 hR7 hR8;simp[hos,hR1,hR2,hR3,hR9,LoopD.at_eta]))
 ·obtain rfl:k=c.p.n.notes.length:=by omega
  simp only[List.take_length] at hz ⊢
  have hol:=Y0 c.p.n.notes
  have c2:=hS (j6 c.p.n.notes) g sz nl hz (by omega)
  have hil:=L8 (j6 c.p.n.notes)
  have htk:(n4 ((j8 (j6 c.p.n.notes)).map l7)).take (j6 c.p.n.notes).length=n4 ((j8 (j6 c.p.n.notes)).map l7):=List.take_of_length_le (by simp[o2,hil])
  clear hz
  rw[← hil] at c2 htk
  rw[← hil]
  generalize j8 (j6 c.p.n.notes)=O at *
  have hPe:(2:Nat) ^ O.length≤2 ^ 5:=Nat.pow_le_pow_right (by omega) hO5
  have hmin:min O.length 64=O.length:=by omega
  have hb64:IntKind.i64.bits=64:=rfl
  have hlnn:¬ ((O.length:Int)<0):=by omega
  have hsh:IntKind.i64.wrap ((2:Int) ^ O.length)=((2 ^ O.length:Nat):Int):=by
   rw[show ((2:Int) ^ O.length)=((2 ^ O.length:Nat):Int) by simp]
   exact(fun (P:Nat) (h:P≤2 ^ 5)=>(n8 (by omega) (by omega):IntKind.i64.wrap (P:Int)=(P:Int))) _ hPe
  generalize hP:2 ^ O.length=P at *
  have hs:=za hR1 (za hR2 (za hR3 (za hlt (za hmin (za hb64 (za hlnn hsh))))))
  repeat' first|(with_reducible first|refine zz ?_|refine zE [0,1,2,3,4,5,6,7,8,9,13,14,15,16,21,32,33,34,36,37,38,39,47,58] ?_)|simp -dsimp[hs]|refine CallE.embed [4] (c2) ?_ ?_ ?_ ?_ ?_ ?_;(focus simp[w9];done);(focus simp;done);(focus simp;done);(focus simp;done);(focus refine s0 ?_;simp[w9,v8];done);try simp -dsimp[p9,w9,hs]|refine i8 ?_ ?_<;>intro h<;>try simp only[i6] at h
  all_goals try clear hs
  clear c2 hlt
  refine g9 (ι:={ p:Nat×Nat×Nat×Bool // p.1≤P∧((p.2.2.1=1∧p.2.2.2=false)∨(p.2.2.1=0∧p.2.2.2=true∧p.1=0)) }) (fun p=>⟨60,[(0,.one (.yld 3)),(1,.one (.im (.ip (j4 c)))),(3,n7 O),(32,iv (P:Int)),(33,iv (p.1.1:Int))],[.row [.vec 2 p.1.2.1 0 p.1.1],.vec 1 [] 0 true,.vec p.1.2.2.1 (n4 ((ed c O p.1.1).map bY)) p.1.2.1 p.1.2.2.2,.loop R]⟩) (fun p=>P-p.1.1) ⟨(0,0,0,true),by simp⟩ (zw [0,1,3,32,33] 4 (by clear hR4 hR5 hR6 hR7 hR8;simp[rg,hR1,hR2,hR3,hR10,LoopD.at_eta,htk,hz'])) ?_
  rintro⟨⟨k,g1,sz1,nl1⟩,hk,hz⟩
  simp only at hk hz
  simp only[iv,n7]
  have hkl:=uB c O k
  by_cases hlt:k<P
  ·have hw:=zk k
   have hst:=rh c O k
   have hc1:=c1 k
   have hz0:R2 O k 0=[]:=by simp[R2]
   generalize ed c O k=L at *
   have hs:=za hR1 (za hR2 (za hR3 hlt))
   repeat' first|(with_reducible first|refine zz ?_|refine zE [0,1,2,3,4,5,6,7,8,9,13,14,15,16,21,32,33,34,36,37,38,39,47,58] ?_)|simp -dsimp[hs]|refine i8 ?_ ?_<;>intro h<;>try simp only[i6] at h
   all_goals try clear hs
   refine g9 (ι:={ p:Nat×Nat×Bool // p.1≤O.length }) (fun p=>⟨60,[(0,.one (.yld 3)),(1,.one (.im (.ip (j4 c)))),(3,n7 O),(6,iv (k:Int)),(7,.one (.vec 4 p.1.2.1 0 (R2 O k p.1.1).length)),(32,iv (P:Int)),(33,iv (k:Int)),(36,n7 O),(37,iv (O.length:Int)),(38,iv (p.1.1:Int))],[.row [.vec 2 g1 0 k],.vec 1 [] 0 true,.vec sz1 (n4 (L.map bY)) g1 nl1,.loop R,.vec 1 (n4 ((R2 O k p.1.1).map l7)) p.1.2.1 p.1.2.2]⟩) (fun p=>O.length-p.1.1) ⟨(0,0,true),by simp⟩ (zv [0,1,3,6,7,32,33,36,37,38] (by simp[hz0,n4])) ?_
   rintro⟨⟨i,g2,nl2⟩,hi⟩
   simp only at hi
   simp only[iv,n7]
   by_cases hil:i<O.length
   ·have hwi:=zk i
    have hi63:min i 64=i:=by omega
    have hin:¬ ((i:Int)<0):=by omega
    have hbit:=yg k i
    have hSl:=fg O k i
    have hsu:R2 O k (i+1)=R2 O k i++(if k.testBit i=true then [O[i]] else []):=by
     rw[dm,show O.getD i 0=O[i] by simp[hil]]
    generalize hx:O[i]=x at *
    generalize R2 O k i=S at *
    cases hb:k.testBit i
    ·rw[hb] at hbit hsu
     simp at hbit
     rw[if_neg Bool.false_ne_true,List.append_nil] at hsu
     have hs:=za hR1 (za hR2 (za hR3 (za hx (za hil (za hwi (za hin (za hi63 (za hb64 hbit))))))))
     repeat' first|(with_reducible first|refine zz ?_|refine zE [0,1,2,3,4,5,6,7,8,9,13,14,15,16,21,32,33,34,36,37,38,39,47,58] ?_)|simp -dsimp[hs]|refine i8 ?_ ?_<;>intro h<;>try simp only[i6] at h
     all_goals try clear hs
     all_goals exact zn ⟨(i+1,g2,nl2),by simp only;omega⟩ (zw [0,1,3,6,7,32,33,36,37,38] 5 (by clear hR4 hR5 hR6 hR7 hR8;simp[hsu,hR1,hR2,hR3,hR9,LoopD.at_eta]))
    ·rw[hb] at hbit hsu
     simp at hbit
     rw[if_pos rfl] at hsu
     have hs:=za hR1 (za hR2 (za hR3 (za hx (za hil (za hwi (za hin (za hi63 (za hb64 hbit))))))))
     repeat' first|(with_reducible first|refine zz ?_|refine And.intro (by omega) ?_|refine zE [0,1,2,3,4,5,6,7,8,9,13,14,15,16,21,32,33,34,36,37,38,39,47,58] ?_)|simp -dsimp[hs]|refine i8 ?_ ?_<;>intro h<;>try simp only[i6] at h
     all_goals try clear hs
     all_goals exact zn ⟨(i+1,g2+1,false),by simp only;omega⟩ (zw [0,1,3,6,7,32,33,36,37,38] 5 (by clear hR4 hR5 hR6 hR7 hR8;simp[hsu,hR1,hR2,hR3,hR9,LoopD.at_eta]))
   ·obtain rfl:i=O.length:=by omega
    generalize R2 O k O.length=S at *
    simp only[m6,j4] at hc1
    have hSt:(n4 (S.map l7)).take S.length=n4 (S.map l7):=List.take_of_length_le (by simp[o2])
    rcases hz with⟨rfl,rfl⟩|⟨rfl,rfl,rfl⟩
    ·subst hkl
     have hs:=za hR1 (za hR2 (za hR3 (za hil hw)))
     repeat' first|(with_reducible first|refine zz ?_|refine And.intro (by omega) ?_|refine zE [0,1,2,3,4,5,6,7,8,9,13,14,15,16,21,32,33,34,36,37,38,39,47,58] ?_)|simp -dsimp[hs]|with_reducible refine At.yield_end ?_;simp -dsimp[hs]|refine ap ?_ ?_<;>simp -dsimp[hs]|refine O9 ?_;simp -dsimp[Q8,hR4,hR5,hR6,hR7,hR8,hs]|refine CallE.freeze 4 (hc1 [.row [.vec 2 g1 0 L.length],.vec 1 [] 0 true,.vec 1 (n4 (L.map bY)) g1 false,.loop R]) ?_ ?_ ?_ ?_ ?_ ?_;(focus simp[hR10];done);(focus simp[hSt];done);(focus simp;done);(focus rfl);(focus simp;done);try simp -dsimp[E8]|refine i8 ?_ ?_<;>intro h<;>try simp only[i6] at h
     all_goals try clear hs
     all_goals exact zn ⟨(L.length+1,g1+1,1,false),by omega,.inl ⟨rfl,rfl⟩⟩ (zw [0,1,3,32,33] 4 (by clear hR4 hR5 hR6 hR7 hR8;simp[hst,hR1,hR2,hR3,hR9,hR10,LoopD.at_eta]))
    ·obtain rfl:=List.eq_nil_of_length_eq_zero hkl
     have hw1:IntKind.i64.wrap 1=1:=n8 (by omega) (by omega)
     have hs:=za hR1 (za hR2 (za hR3 (za hil (za hw hw1))))
     repeat' first|(with_reducible first|refine zz ?_|refine zE [0,1,2,3,4,5,6,7,8,9,13,14,15,16,21,32,33,34,36,37,38,39,47,58] ?_)|simp -dsimp[hs]|with_reducible refine At.yield_end ?_;simp -dsimp[hs]|refine ap ?_ ?_<;>simp -dsimp[hs]|refine O9 ?_;simp -dsimp[Q8,hR4,hR5,hR6,hR7,hR8,hs]|refine CallE.freeze 4 (hc1 [.row [.vec 2 g1 0 0],.vec 1 [] 0 true,.vec 0 [] g1 true,.loop R]) ?_ ?_ ?_ ?_ ?_ ?_;(focus simp[hR10];done);(focus simp[hSt];done);(focus simp;done);(focus rfl);(focus simp;done);try simp -dsimp[E8]|refine i8 ?_ ?_<;>intro h<;>try simp only[i6] at h
     all_goals try clear hs
     all_goals exact zn ⟨(1,g1+1,1,false),by omega,.inl ⟨rfl,rfl⟩⟩ (zw [0,1,3,32,33] 4 (by clear hR4 hR5 hR6 hR7 hR8;simp[hst,hw1,hR1,hR2,hR3,hR9,hR10,LoopD.at_eta]))
  ·obtain rfl:k=P:=by omega
   obtain⟨rfl,rfl⟩:=hz.resolve_right (by have:=Nat.one_le_two_pow (n:=O.length);omega)
   generalize ed c O k=L at *
   subst hkl
   have hs:=za hR1 (za hR2 (za hR3 hlt))
   repeat' first|(with_reducible first|refine zz ?_|refine zr ?_ (by simp -dsimp[B9,hs];exact rfl)|refine ze ?_ (by simp -dsimp[B9,hs];exact rfl)|refine zE [0,1,2,3,4,5,6,7,8,9,13,14,15,16,21,32,33,34,36,37,38,39,47,58] ?_)|simp -dsimp[B9,hs]|with_reducible show B9 _ _ _ _ _ _ _ _;simp -dsimp[B9,hs]|refine i8 ?_ ?_<;>intro h<;>try simp only[i6] at h
   all_goals try clear hs
   all_goals simp
theorem ph (c:Case) (he:B8 c=0) (hG:s6 G) (hN:M7 G) (hS:C8 G) (hR:F0 G) (hC:V9 G) (hk:KC c):zP prog G 126 [.one (.im (.fn (.func 192) [.ip (j4 c)]))] (cp (E9 c)):=by
 refine zf func126 ntmps126 ?_
 try simp only[iv]
 have c1:=rF (G:=G) c he hG hN hS hR hC hk
 simp only[j4] at c1 ⊢
 repeat' first|(with_reducible first|refine zz ?_|refine zx ?_)|simp -dsimp|refine zp c1 ?_|with_reducible refine sg [0,2] ?_;simp -dsimp
noncomputable def P2 (c:Case):Int:=if B8 c≠0 then B8 c else if al c≠0 then 101 else 0
noncomputable def vB (c:Case):List Desk:=if P2 c=0 then E9 c else []
theorem bb {c:Case} (h:P2 c=0):B8 c=0∧al c=0:=by
 unfold P2 at h
 by_cases h0:B8 c=0
 ·rw[if_neg (by simp[h0])] at h
  refine⟨h0,Classical.byContradiction fun h1=>?_⟩
  rw[if_pos h1] at h
  exact absurd h (by decide)
 ·rw[if_pos h0] at h;exact absurd h h0
theorem nx (c:Case) (hG:s6 G) (hN:M7 G) (hS:C8 G) (hR:F0 G) (hC:V9 G) (hk:KC c):zP prog G 64 [m6 c] (.tup [cp (vB c),iv (P2 c)]):=by
 refine zf func64 ntmps64 ?_
 try simp only[iv]
 have c1:=AX (G:=G) c hG hN hS hR hk
 by_cases h0:B8 c=0
 ·by_cases h1:al c=0
  ·have hE:P2 c=0:=by unfold P2;rw[if_neg (by simp[h0]),if_neg (by simp[h1])]
   have hO:vB c=E9 c:=by unfold vB;rw[if_pos hE]
   have c2:=uN (G:=G) c
   have c3:=ph (G:=G) c h0 hG hN hS hR hC hk
   rw[hE,hO]
   rw[h0,h1] at c1
   simp only[m6,j4,cp] at c1 c2 c3 ⊢
   have hs:=trivial
   repeat' first|(with_reducible first|refine zz ?_|refine zr ?_|refine zE [0,1,2,3,4,5,12,15] ?_)|simp -dsimp[hs]|refine zp c1 ?_|refine zp c2 ?_|refine zp c3 ?_|refine i8 ?_ ?_<;>intro h<;>try simp only[i6] at h
  ·have hE:P2 c=101:=by unfold P2;rw[if_neg (by simp[h0]),if_pos h1]
   have hO:vB c=[]:=by unfold vB;rw[if_neg (by rw[hE];decide)]
   rw[hE,hO]
   rw[h0] at c1
   simp only[m6,j4] at c1 ⊢
   have hs:=h1
   repeat' first|(with_reducible first|refine zz ?_|refine zr ?_|refine zE [0,1,2,3,4,5,12,15] ?_)|simp -dsimp[hs]|refine zp c1 ?_|refine i8 ?_ ?_<;>intro h<;>try simp only[i6] at h
 ·have hE:P2 c=B8 c:=by unfold P2;rw[if_pos h0]
  have hO:vB c=[]:=by unfold vB;rw[if_neg (by rw[hE];exact h0)]
  rw[hE,hO]
  simp only[m6,j4] at c1 ⊢
  have hs:=h0
  repeat' first|(with_reducible first|refine zz ?_|refine zr ?_|refine zE [0,1,2,3,4,5,12,15] ?_)|simp -dsimp[hs]|refine zp c1 ?_|refine i8 ?_ ?_<;>intro h<;>try simp only[i6] at h
theorem AF (c:Case) (s:List Int) (k:Nat):(dZ c s k).length≤2*(c.p.prints.length+1):=by
 unfold dZ
 have h1:=gI c k
 split
 ·rename_i x y _ _
  have h2:=cN c y x (jD c s y.drawing) (aR c k) []
  rw[List.length_nil] at h2
  omega
 ·simp
theorem sR {c:Case} (hk:KC c) (s:List Int):DkOk c.pieces.length (w0 c s):=by
 refine⟨by simp[w0],fun x hx=>?_⟩
 simp only[w0,List.mem_map] at hx
 obtain⟨k,_,rfl⟩:=hx
 have:=AF c s k
 have:=hk.p.p.q
 omega
theorem pf {c:Case} (hk:KC c):∀ d∈E9 c,DkOk c.pieces.length d:=by
 intro d hd
 obtain⟨s,_,rfl⟩:=List.mem_map.1 hd
 exact sR hk s
theorem ma {c:Case} (h:B8 c=0):1≤(E9 c).length∧(E9 c).length≤32:=by
 obtain⟨hp0,_⟩:=F6 h
 obtain⟨hn0,_,_⟩:=E1 hp0
 have hO5:(j8 (j6 c.p.n.notes)).length≤5:=by rw[mQ];exact(Y4 hn0).2.2.2
 have hPe:(2:Nat) ^ (j8 (j6 c.p.n.notes)).length≤2 ^ 5:=Nat.pow_le_pow_right (by omega) hO5
 have h1:1≤(2:Nat) ^ (j8 (j6 c.p.n.notes)).length:=Nat.one_le_two_pow
 unfold E9
 rw[List.length_map,hZ]
 omega
end Go.Proofs
