/- Part 22 of the proofs. -/
import Derived.Test.YtpcoahkgkgmmlaaGreatDoorR09
import Derived.Test.YtpcoahkgkgmmlaaGreatDoorR14
import Derived.Test.YtpcoahkgkgmmlaaGreatDoorR19
import Derived.Test.YtpcoahkgkgmmlaaGreatDoorR20
set_option linter.all false
set_option linter.deprecated false
set_option maxHeartbeats 100000000
namespace Go.Proofs
open Go Go.Ab
theorem nC {H:Type} {enc:TypeId×Value→H} {P:Program} {w:World} {base:Nat} {sp:Nat→Bool} {held:Bool} {fuel:Nat} {t:TypeId} {ps rs:Array TypeId} {va:Bool} {v:Value} {q:List MemPlace}
 (ht:P.underlying t=some (.func ps rs va)) (h:DataW.trod enc P w base sp held fuel t [v]=some (.nil,q)):v=.nilFunc:=by
 cases fuel with
 | zero=>simp[DataW.trod] at h
 | succ n=>cases v<;>simp[DataW.trod,ht] at h<;>rfl
theorem fr {P:Program} {W:World} {e ti ts tf m:Nat} {f0 f1 f2 f3:Field} {v0 v1 v2 v3:Value} {d0 d1 d2 d3:DataW (List UInt8)} {q:List MemPlace} (hte:P.underlying e=some (.struct #[f0,f1,f2,f3])) (h0:f0.offset=0∧f0.type=ti) (h1:f1.offset=1∧f1.type=ti) (h2:f2.offset=2∧f2.type=ts) (h3:f3.offset=3∧f3.type=tf)
 (hci:P.cellsOf ti=1) (hcs:P.cellsOf ts=1) (hcf:P.cellsOf tf=1) (hi:P.underlying ti=some (.int .i64)) (hs:P.underlying ts=some .string) (h:DataW.trod (funcToken P) P W 0 (fun _=>true) true m e [v0,v1,v2,v3]=some (.agg [d0,d1,d2,d3],q)) :
 (∃ n,v0=.int .i64 n∧d0=.lit (.int .i64 n))∧(∃ n,v1=.int .i64 n∧d1=.lit (.int .i64 n))∧(∃ s:ByteArray,v2=.string s∧d2=.lit (.string s.data.toList))∧∃ k q',DataW.trod (funcToken P) P W 0 (fun _=>true) true k tf [v3]=some (d3,q'):=by
 obtain⟨xs,n,_,ex,_,hxl,hel⟩:=DataW.trod_struct hte h
 have ex1:=(Prod.mk.inj ex).1
 obtain⟨x0,x1,x2,x3,rfl⟩:=Az (by simpa using hxl:xs.length=4)
 simp only[List.map_cons,List.map_nil,DataW.agg.injEq,List.cons.injEq,and_true] at ex1
 obtain⟨rfl,rfl,rfl,rfl⟩:=ex1
 have e0:=hel 0 f0 rfl
 have e1:=hel 1 f1 rfl
 have e2:=hel 2 f2 rfl
 have e3:=hel 3 f3 rfl
 rw[h0.1,h0.2,hci] at e0
 rw[h1.1,h1.2,hci] at e1
 rw[h2.1,h2.2,hcs] at e2
 rw[h3.1,h3.2,hcf] at e3
 simp only[List.drop_zero,List.drop_succ_cons,List.take_succ_cons,List.take_zero,List.getElem?_cons_zero,List.getElem?_cons_succ] at e0 e1 e2 e3
 obtain⟨n0,a0,b0,_⟩:=DataW.trod_int hi e0
 obtain⟨n1,a1,b1,_⟩:=DataW.trod_int hi e1
 obtain⟨s,a2,b2,_⟩:=DataW.trod_string hs e2
 refine⟨⟨n0,by simpa using a0,by rw[b0]⟩,⟨n1,by simpa using a1,by rw[b1]⟩,⟨s,by simpa using a2,by rw[b2]⟩,n,x3.2,e3⟩
theorem jK {s:ByteArray} {l:List UInt8} (h:(DataW.lit (.string l):DataW (List UInt8))=.lit (.string s.data.toList)):s=⟨⟨l⟩⟩:=by
 cases s with
 | mk d=>cases d with
   | mk t=>simp at h;rw[h]
theorem AA {α:Type} {l:List α} (h:l.length=12):∃ a b c d e f g i j k m n,l=[a,b,c,d,e,f,g,i,j,k,m,n]:=by
 match l,h with
 | [a,b,c,d,e,f,g,i,j,k,m,n],_=>exact⟨a,b,c,d,e,f,g,i,j,k,m,n,rfl⟩
def cp (f:FuncId):List Value:=[.int .i64 0,.int .i64 0,.string ⟨⟨[]⟩⟩,.nilFunc,.int .i64 100,.int .i64 3,.string ⟨⟨[109,109]⟩⟩,.func (.func f) #[] #[],.int .i64 254,.int .i64 4,.string ⟨⟨[105,110]⟩⟩,.func (.func f) #[] #[]]
def gS (f:FuncId):List IC:=[rI 0,rI 0,.raw (.string ⟨⟨[]⟩⟩),.raw .nilFunc,rI 100,rI 3,.raw (.string ⟨⟨[109,109]⟩⟩),.fn (.func f) [],rI 254,rI 4,.raw (.string ⟨⟨[105,110]⟩⟩),.fn (.func f) []]
theorem mY {P:Program} {W:World} {t e ti ts tf fuel:Nat} {f0 f1 f2 f3:Field} {ps rs:Array TypeId} {cs:Array Value} {p:List MemPlace} {b:UInt8} {r:List UInt8} {f:FuncId} (ht:P.underlying t=some (.array 3 e)) (hct:P.cellsOf t=12) (hce:P.cellsOf e=4) (hte:P.underlying e=some (.struct #[f0,f1,f2,f3])) (h0:f0.offset=0∧f0.type=ti) (h1:f1.offset=1∧f1.type=ti) (h2:f2.offset=2∧f2.type=ts) (h3:f3.offset=3∧f3.type=tf)
 (hci:P.cellsOf ti=1) (hcs:P.cellsOf ts=1) (hcf:P.cellsOf tf=1) (hi:P.underlying ti=some (.int .i64)) (hs:P.underlying ts=some .string) (hu:P.underlying tf=some (.func ps rs false)) (hone:((List.range P.funcs.size).filter fun f=>(P.funcs[f]?).any (·.name.toUTF8.data.toList==b :: r))=[f])
 (h:DataW.trod (funcToken P) P W 0 (fun _=>true) true fuel t cs.toList=some (.agg [.agg [.lit (.int .i64 0),.lit (.int .i64 0),.lit (.string []),.nil],.agg [.lit (.int .i64 100),.lit (.int .i64 3),.lit (.string [109,109]),.held (b :: r)],.agg [.lit (.int .i64 254),.lit (.int .i64 4),.lit (.string [105,110]),.held (b :: r)]],p)):cs.toList=cp f:=by
 obtain⟨xs,m,_,ex,hlen,hxl,hel⟩:=DataW.trod_array ht h
 rw[hct] at hlen
 obtain⟨v0,v1,v2,v3,v4,v5,v6,v7,v8,v9,v10,v11,hv⟩:=AA hlen
 rw[hv] at hel ⊢
 obtain⟨x0,x1,x2,rfl⟩:=yP hxl
 have ex1:=(Prod.mk.inj ex).1
 simp only[List.map_cons,List.map_nil,DataW.agg.injEq,List.cons.injEq,and_true] at ex1
 obtain⟨q0,q1,q2⟩:=ex1
 have e0:=hel 0 (by omega)
 have e1:=hel 1 (by omega)
 have e2:=hel 2 (by omega)
 rw[hce] at e0 e1 e2
 simp only[Nat.zero_mul,Nat.one_mul,Nat.reduceMul,List.drop_zero,List.drop_succ_cons,List.take_succ_cons,List.take_zero,List.getElem?_cons_zero,List.getElem?_cons_succ] at e0 e1 e2
 obtain⟨⟨n0,rfl,k0⟩,⟨n1,rfl,k1⟩,⟨s0,rfl,k2⟩,_,_,k3⟩:=fr hte h0 h1 h2 h3 hci hcs hcf hi hs (e0.trans (by rw[show x0=(x0.1,x0.2) from rfl,← q0]))
 obtain⟨⟨n2,rfl,k4⟩,⟨n3,rfl,k5⟩,⟨s1,rfl,k6⟩,_,_,k7⟩:=fr hte h0 h1 h2 h3 hci hcs hcf hi hs (e1.trans (by rw[show x1=(x1.1,x1.2) from rfl,← q1]))
 obtain⟨⟨n4,rfl,k8⟩,⟨n5,rfl,k9⟩,⟨s2,rfl,k10⟩,_,_,k11⟩:=fr hte h0 h1 h2 h3 hci hcs hcf hi hs (e2.trans (by rw[show x2=(x2.1,x2.2) from rfl,← q2]))
 rw[jK k2,jK k6,jK k10,nC hu k3,func_of_trod hu hone k7,func_of_trod hu hone k11]
 simp only[DataW.lit.injEq,Lit.int.injEq,true_and] at k0 k1 k4 k5 k8 k9
 subst k0 k1 k4 k5 k8 k9
 rfl
theorem rR {W:World} {g:Nat} {f:FuncId} (h:∀ (j:Nat) (v:Value),(cp f)[j]?=some v→W.cell? ⟨g,j,.none⟩=some v):RepI W (tY W) (.ip (gS f)) (.pointer (some ⟨g,0,.none⟩)):=by
 have hb:g<W.heap.size:=ab (a:=⟨g,0,.none⟩) (h 0 _ rfl)
 refine .ip _ _ (fun j=>((cp f)[j]?).getD undef) rfl hb (fun j c hj=>?_) (fun j c hj=>?_)
 ·have hl:=e7 hj
  have hl':j<(cp f).length:=hl
  have hv:=List.getElem?_eq_getElem hl'
  rw[hv,Option.getD_some]
  simpa using h j _ hv
 ·have hl:=e7 hj
  have hl':j<12:=hl
  have hfn:RepI W (tY W) (.fn (.func f) []) (.func (.func f) #[] #[]):=RepI.fn (w:=W) (ok:=tY W) (.func f) [] #[] rfl (fun j c v h=>by simp at h)
  rcases j with _|_|_|_|_|_|_|_|_|_|_|_|j<;>first|omega|(simp[gS,cp,rI] at hj ⊢;subst hj;first|exact hfn|exact .raw _ rfl)
theorem Ap:Opens Tryz.prog 30 (fun l=>∃ xs:List Int,(∀ n∈xs,0≤n∧n≤4294967295)∧l=[.sl (xs.map eR)]):=
 Opens.sliceOf Tryz.underlying30 (sz:=1) (by kernel_rfl) (by decide) (fun _=>rfl) ((Opens.int Tryz.underlying119).mono (by
  rintro l ⟨n,hn,rfl⟩
  exact⟨n,by simpa[IntKind.min,IntKind.max,IntKind.signed,IntKind.bits] using hn,rfl⟩))
theorem wu (G:Cr) (h:G 2=some (gS 212)):bx G (.raw (.string ⟨⟨[]⟩⟩)) (.raw (.string ⟨⟨[109,109]⟩⟩)) (.raw (.string ⟨⟨[105,110]⟩⟩)):=h
variable {G:Cr}
attribute [simp] p9 dO F1 U3 A1 C3 nilV N6 ZK
def loopv (x:ChLoop):DV:=.agg ((j9 x).map .im)
end Go.Proofs
namespace Go.Proofs
open Go Go.Ab
def yt:List Link→List Int→Int
 | x :: l,n :: s=>iP x n+yt l s
 | _,_=>0
def pre (p:Option Issue) (x:Issue):List Int:=match p with|some y=>if y.drawing=x.drawing then [] else [x.drawing]|none=>[x.drawing]
def good (p:Option Issue) (x:Issue):Prop:=m3 x=true∧match p with|some y=>y.drawing=x.drawing∧y.letter+1=x.letter∧y.kind=x.kind∨y.drawing<x.drawing∧x.letter=1|none=>x.letter=1
theorem kK {p:Option Issue} {x:Issue} {r:List Issue} (h:good p x):l4 p (x :: r)=(l4 (some x) r).map (pre p x ++ ·):=by
 obtain⟨h1,h2⟩:=h
 cases p with
 | none=>simp only at h2;simp[l4,h1,h2,pre]
 | some y =>
   simp only at h2
   rcases h2 with⟨a,b,c⟩|⟨a,b⟩
   ·simp[l4,h1,a,b,c,pre]
   ·have h3:¬ y.drawing=x.drawing:=by omega
    have h4:¬ y.drawing > x.drawing:=by omega
    simp[l4,h1,h3,h4,b,pre]
theorem scan_iff {p:Option Issue} {x:Issue} {r:List Issue} {ds:List Int}:l4 p (x :: r)=some ds↔good p x∧∃ ds',l4 (some x) r=some ds'∧ds=pre p x++ds':=by
 constructor
 ·intro h
  have hg:good p x:=by
   have hs:(l4 p (x :: r)).isSome=true:=by rw[h];rfl
   cases p with
   | none=>exact((cw x r).1 hs).1
   | some y=>exact((cv y x r).1 hs).1
  rw[kK hg,Option.map_eq_some_iff] at h
  obtain⟨ds',h1,h2⟩:=h
  exact⟨hg,ds',h1,h2.symm⟩
 ·rintro⟨hg,ds',h1,rfl⟩
  rw[kK hg,h1];rfl
theorem kJ:∀ (l:List Issue) (p:Option Issue) (ds:List Int),l4 p l=some ds→(∀ y,p=some y→∀ a∈l,a.drawing=y.drawing→a.kind=y.kind)∧∀ a∈l,∀ b∈l,a.drawing=b.drawing→a.kind=b.kind
 | [],p,ds,_=>by simp
 | x :: r,p,ds,h=>by
   obtain⟨hg,ds',h1,_⟩:=scan_iff.1 h
   obtain⟨i1,i2⟩:=kJ r (some x) ds' h1
   have i1:=i1 x rfl
   have hsp:=(ao r (some x) ds' h1).2.2.1 x rfl
   refine⟨fun y hy a ha hd=>?_,fun a ha b hb hd=>?_⟩
   ·subst hy
    rcases hg.2 with⟨e1,_,e3⟩|⟨e1,_⟩
    ·rcases List.mem_cons.1 ha with rfl|ha
     ·exact e3.symm
     ·rw[i1 a ha (by omega),e3]
    ·rcases List.mem_cons.1 ha with rfl|ha
     ·omega
     ·have:=hsp a ha;omega
   ·rcases List.mem_cons.1 ha with ea|ha'<;>rcases List.mem_cons.1 hb with eb|hb'
    ·rw[ea,eb]
    ·rw[ea] at hd ⊢;exact(i1 b hb' hd.symm).symm
    ·rw[eb] at hd ⊢;exact i1 a ha' hd
    ·exact i2 a ha' b hb' hd
def gL (N:Int→List Issue):List Issue→List Issue
 | []=>[]
 | [x]=>x :: N x.drawing
 | x :: y :: r=>if x.drawing=y.drawing then x :: gL N (y :: r) else x :: (N x.drawing++gL N (y :: r))
theorem sO (N:Int→List Issue) (y:Issue) (r:List Issue):∃ s,gL N (y :: r)=y :: s:=by
 cases r with
 | nil=>exact⟨_,rfl⟩
 | cons z r =>
   rw[gL];split
   ·exact⟨_,rfl⟩
   ·exact⟨_,rfl⟩
theorem rN {x z y:Issue} {s:List Issue} (h1:z.drawing=x.drawing) (h2:x.drawing<y.drawing):l4 (some z) (y :: s)=l4 (some x) (y :: s):=by
 have n1:¬ z.drawing=y.drawing:=by omega
 have n2:¬ x.drawing=y.drawing:=by omega
 have n3:¬ z.drawing > y.drawing:=by omega
 have n4:¬ x.drawing > y.drawing:=by omega
 simp only[l4,n1,n2,n3,n4,if_false]
theorem no {N:Int→List Issue} (hN1:∀ d,(N d).length≤1):∀ (l:List Issue) (p:Option Issue) (ds:List Int),l4 p l=some ds→(∀ y,p=some y→0≤y.letter) →
 (∀ x∈l,∀ z∈N x.drawing,z.drawing=x.drawing∧m3 z=true∧z.kind=x.kind∧z.letter=fH p x.drawing+C0 l x.drawing+1)→l4 p (gL N l)=some ds
 | [],p,ds,h,_,_=>h
 | [x],p,ds,h,hp,hN=>by
   obtain⟨hg,ds',h1,h2⟩:=scan_iff.1 h
   have hds':ds'=[]:=by simpa[l4] using h1.symm
   subst hds'
   rw[gL,scan_iff]
   refine⟨hg,[],?_,h2⟩
   have hlen:=hN1 x.drawing
   have hNx:=hN x (by simp)
   cases hz:N x.drawing with
   | nil=>simp[l4]
   | cons z t =>
     rw[hz] at hlen hNx
     have ht:t=[]:=by cases t with|nil=>rfl|cons _ _=>simp at hlen
     subst ht
     obtain⟨z1,z2,z3,z4⟩:=hNx z (by simp)
     rw[cK,if_pos rfl] at z4
     have hx:x.letter=fH p x.drawing+1:=by
      have:=hg.2
      cases p with
      | none=>simpa[fH] using this
      | some y =>
        simp only at this
        rcases this with⟨a,b,_⟩|⟨a,b⟩
        ·simp only[fH,if_pos a];omega
        ·simp only[fH];rw[if_neg (by omega)];omega
     have:C0 [] x.drawing=0:=rfl
     rw[scan_iff]
     exact⟨⟨z2,.inl ⟨z1.symm,by omega,z3.symm⟩⟩,[],by simp[l4],by simp[pre,z1]⟩
 | x :: y :: r,p,ds,h,hp,hN=>by
   obtain⟨hg,ds',h1,h2⟩:=scan_iff.1 h
   have hkeys:=ap (x :: y :: r) p ds h hp
   have hx1:1≤x.letter:=(hkeys.2.2 x (by simp)).1
   have hx:x.letter=fH p x.drawing+1:=by
    have:=hg.2
    cases p with
    | none=>simpa[fH] using this
    | some y =>
      simp only at this
      rcases this with⟨a,b,_⟩|⟨a,b⟩
      ·simp only[fH,if_pos a];omega
      ·simp only[fH];rw[if_neg (by omega)];omega
   have ih:=no hN1 (y :: r) (some x) ds' h1 (fun y e=>by cases e;omega) (fun w hw z hz=>by
    obtain⟨z1,z2,z3,z4⟩:=hN w (List.mem_cons_of_mem _ hw) z hz
    refine⟨z1,z2,z3,?_⟩
    rw[z4,cK]
    have hxw:=(List.pairwise_cons.1 hkeys.2.1).1 w hw
    by_cases e:x.drawing=w.drawing
    ·rw[if_pos e,fH,if_pos e,← e,hx];omega
    ·rw[if_neg e,fH,if_neg e]
     have:fH p w.drawing=0:=by
      cases p with
      | none=>rfl
      | some y0 =>
        have h3:=hkeys.1 y0 rfl x (by simp)
        simp only[fH];rw[if_neg (by omega)]
     omega)
   obtain⟨s,hs⟩:=sO N y r
   rw[gL]
   split
   ·rw[scan_iff];exact⟨hg,ds',ih,h2⟩
   ·rename_i hxy
    have hlt:x.drawing<y.drawing:=by
     have:=(List.pairwise_cons.1 hkeys.2.1).1 y (by simp);omega
    have hlen:=hN1 x.drawing
    have hNx:=hN x (by simp)
    rw[scan_iff]
    refine⟨hg,ds',?_,h2⟩
    cases hz:N x.drawing with
    | nil=>exact ih
    | cons z t =>
      rw[hz] at hlen hNx
      have ht:t=[]:=by cases t with|nil=>rfl|cons _ _=>simp at hlen
      subst ht
      obtain⟨z1,z2,z3,z4⟩:=hNx z (by simp)
      have hc0:C0 (y :: r) x.drawing=0:=by
       unfold C0
       rw[List.filter_eq_nil_iff.2 fun w hw=>by
        have:=(List.pairwise_cons.1 hkeys.2.1).1 w hw
        have h4:=(ao (y :: r) (some x) ds' h1).2.1
        rw[List.map_cons,List.pairwise_cons] at h4
        rcases List.mem_cons.1 hw with rfl|hw
        ·simp;omega
        ·have:=h4.1 w.drawing (List.mem_map.2 ⟨w,hw,rfl⟩);simp;omega]
       rfl
      rw[cK,if_pos rfl,hc0] at z4
      show l4 (some x) (z :: gL N (y :: r))=some ds'
      rw[scan_iff]
      refine⟨⟨z2,.inl ⟨z1.symm,by omega,z3.symm⟩⟩,ds',?_,by simp[pre,z1]⟩
      rw[hs,rN z1 hlt,← hs];exact ih
def dd:List Issue→List Int
 | []=>[]
 | [x]=>[x.drawing]
 | x :: y :: r=>if x.drawing=y.drawing then dd (y :: r) else x.drawing :: dd (y :: r)
theorem lu (N:Int→List Issue):∀ l,(gL N l).Perm (l++(dd l).flatMap N)
 | []=>.refl _
 | [x]=>by simp[gL,dd]
 | x :: y :: r=>by
   have ih:=lu N (y :: r)
   rw[gL,dd]
   split
   ·exact ih.cons x
   ·rw[List.flatMap_cons]
    refine List.Perm.cons x ?_
    refine((List.Perm.refl (N x.drawing)).append ih).trans ?_
    show (N x.drawing++((y :: r)++_)).Perm ((y :: r)++(N x.drawing++_))
    rw[← List.append_assoc,← List.append_assoc]
    exact(List.perm_append_comm).append_right _
theorem qH:∀ (l:List Issue) (p:Option Issue) (ds:List Int),l4 p l=some ds→dd l=match l with|[]=>ds|x :: _=>match p with|some y=>if y.drawing=x.drawing then x.drawing :: ds else ds|none=>ds
 | [],p,ds,h=>by
   have:ds=[]:=by cases p<;>simpa[l4] using h.symm
   subst this;rfl
 | [x],p,ds,h=>by
   obtain⟨hg,ds',h1,h2⟩:=scan_iff.1 h
   have hds':ds'=[]:=by simpa[l4] using h1.symm
   subst hds'
   rw[h2,dd]
   cases p with
   | none=>rfl
   | some y=>simp only[pre];split<;>rfl
 | x :: y :: r,p,ds,h=>by
   obtain⟨hg,ds',h1,h2⟩:=scan_iff.1 h
   have ih:=qH (y :: r) (some x) ds' h1
   simp only at ih
   rw[dd,h2]
   have key:(if x.drawing=y.drawing then dd (y :: r) else x.drawing :: dd (y :: r))=x.drawing :: ds':=by
    split
    ·rename_i e;rw[ih,if_pos e,e]
    ·rename_i e;rw[ih,if_neg e]
   rw[key]
   cases p with
   | none=>rfl
   | some z=>simp only[pre];split<;>rfl
theorem ut {l:List Issue} {ds:List Int} (h:l4 none l=some ds):dd l=ds:=by
 have:=qH l none ds h
 cases l with
 | nil=>exact this
 | cons x r=>exact this
theorem lY {l:List Issue} {ds:List Int} (h:l4 none l=some ds):K8 l:=by
 have:=(ap l none ds h (fun y e=>by cases e)).2.1
 refine this.imp fun {a b} h=>?_
 rw[ba];omega
theorem yJ {f g:Int→Int} {l l':List Int} (hfg:∀ c∈l,f c=g c) (h:∀ c,c∈l↔c∈l'):mx f l=mx g l':=by
 rw[nE hfg]
 exact Int.le_antisymm (jg (J2 _ _) fun c hc=>gw ((h c).1 hc)) (jg (J2 _ _) fun c hc=>gw ((h c).2 hc))
theorem vZ {l l':List Issue} (h:∀ n c,c∈Y6 l n↔c∈Y6 l' n):∀ (k:Nat) (n:Int),Rr l k n=Rr l' k n
 | 0,_=>rfl
 | k+1,n=>by rw[Rr,Rr,yJ (fun c _=>vZ h k c) (h n)]
theorem jp {tk tk':Int→Issue} (h:∀ n,(tk n).kind=(tk' n).kind∧(tk n).items=(tk' n).items):∀ (k:Nat) (d m:Int),p8 tk k d m=p8 tk' k d m
 | 0,_,_=>rfl
 | k+1,d,m=>by
   rw[p8,p8,(h d).1,(h d).2]
   simp only[jp h k]
def V4 (reg:List Issue) (B:List (Int×Issue)) (f:Issue→List Dim×Int) (n:Int):List Issue:=if (f (m9 B n)).1=(m9 B n).dims then [] else [di reg (m9 B n) n (f (m9 B n)).1]
theorem mO {reg:List Issue} {B:List (Int×Issue)} {f:Issue→List Dim×Int}:∀ (r:List Int) (i:Nat) (R:List Issue) (L:List Int),(X5 reg B f r i R L).2.2=0 →
 (∀ n∈r,(f (m9 B n)).2=0)∧(X5 reg B f r i R L).1=R++r.flatMap (V4 reg B f)∧(∀ j,j<i→(X5 reg B f r i R L).2.1[j]?=L[j]?) ∧
 ∀ (k:Nat) (n:Int),r[k]?=some n→i+k<L.length→(X5 reg B f r i R L).2.1[i+k]?=if (f (m9 B n)).1=(m9 B n).dims then L[i+k]? else some ((C0 reg n:Int)+1)
 | [],i,R,L,_=>by simp[X5]
 | n :: r,i,R,L,h=>by
   unfold X5 at h ⊢
   split at h
   ·rename_i h0;exact absurd h h0
   ·rename_i h0
    have h0:(f (m9 B n)).2=0:=Classical.byContradiction h0
    rw[if_neg (by simp[h0])]
    split at h
    ·rename_i he
     obtain⟨a,b,d,e⟩:=mO r (i+1) R L h
     rw[if_pos he]
     refine⟨fun m hm=>?_,?_,fun j hj=>d j (by omega),fun k m hk hl=>?_⟩
     ·rcases List.mem_cons.1 hm with rfl|hm
      ·exact h0
      ·exact a m hm
     ·rw[b,List.flatMap_cons,V4,if_pos he];simp
     ·cases k with
      | zero =>
        simp at hk;subst hk
        rw[if_pos he];exact d (i+0) (by omega)
      | succ k =>
        have:=e k m (by simpa using hk) (by omega)
        rw[show i+(k+1)=i+1+k by omega];exact this
    ·rename_i he
     obtain⟨a,b,d,e⟩:=mO r (i+1) _ _ h
     rw[if_neg he]
     refine⟨fun m hm=>?_,?_,fun j hj=>?_,fun k m hk hl=>?_⟩
     ·rcases List.mem_cons.1 hm with rfl|hm
      ·exact h0
      ·exact a m hm
     ·rw[b,List.flatMap_cons]
      have:V4 reg B f n=[di reg (m9 B n) n (f (m9 B n)).1]:=by rw[V4,if_neg he]
      rw[this];simp
     ·rw[d j (by omega),List.getElem?_set_ne (by omega)]
     ·cases k with
      | zero =>
        simp at hk;subst hk
        rw[if_neg he,d (i+0) (by omega),Nat.add_zero,List.getElem?_set_self (by omega)]
      | succ k =>
        have:=e k m (by simpa using hk) (by rw[List.length_set];omega)
        rw[show i+(k+1)=i+1+k by omega,this,List.getElem?_set_ne (by omega)]
def BO (c:Chains) (f:Issue→List Dim×Int):Prop:=∀ n∈nums c.reg,(f (i6 c.reg c.lets n)).2=0→(f (i6 c.reg c.lets n)).1.length=(i6 c.reg c.lets n).dims.length∧∀ d∈(f (i6 c.reg c.lets n)).1,A4 d=true
def fK (c:Chains) (f:Issue→List Dim×Int) (n:Int):Issue:=if (f (i6 c.reg c.lets n)).1=(i6 c.reg c.lets n).dims then i6 c.reg c.lets n else di c.reg (i6 c.reg c.lets n) n (f (i6 c.reg c.lets n)).1
theorem gX (c:Chains) (f:Issue→List Dim×Int) (n:Int):(fK c f n).kind=(i6 c.reg c.lets n).kind∧(fK c f n).items=(i6 c.reg c.lets n).items∧(fK c f n).drawing=(i6 c.reg c.lets n).drawing∧(fK c f n).dims=(f (i6 c.reg c.lets n)).1:=by
 unfold fK;split
 ·rename_i h;exact⟨rfl,rfl,rfl,h.symm⟩
 ·exact⟨rfl,rfl,rfl,rfl⟩
theorem Y2 (x:Issue):m3 x=true↔(1≤x.drawing∧x.drawing≤9999∧1≤x.letter∧x.letter≤8∧(x.kind=1∧1≤x.items.length∧x.items.length≤8∧x.dims.length=0∨2≤x.kind∧x.kind≤3∧x.dims.length≤4∧x.items.length=0))∧C4 x.drawing 0 x.items=true∧∀ d∈x.dims,A4 d=true:=by
 rw[m3,Bool.and_eq_true,Bool.and_eq_true,aF,List.all_eq_true,and_assoc]
theorem rh {l:List Issue} {n c:Int}:c∈Y6 l n↔∃ x∈l,x.drawing=n∧∃ y∈x.items,y.drawing=c:=by
 simp only[Y6,br,List.mem_flatMap,List.mem_filter,decide_eq_true_eq,List.mem_map,and_assoc]
theorem kE {l:List Issue} {lets:List Int} {n:Int} (h:l8 l=0) (hn:n∉nums l):i6 l lets n=O6:=by
 have:q8 l n ((lets[(idx (nums l) n).toNat]?).getD 0)=none:=by
  rw[q8,List.find?_eq_none]
  intro x hx
  have:=(A5 h).2 x hx
  simp only[Bool.and_eq_true,beq_iff_eq,not_and]
  intro e;subst e;exact absurd this hn
 rw[i6,this];rfl
structure Changed (c:Chains) (f:Issue→List Dim×Int):Prop where
 reg:l8 (i9 c f).reg=0
 nums:nums (i9 c f).reg=nums c.reg
 mem:∀ x,x∈(i9 c f).reg↔x∈c.reg∨∃ n∈Go.Proofs.nums c.reg,(f (i6 c.reg c.lets n)).1≠(i6 c.reg c.lets n).dims∧x=di c.reg (i6 c.reg c.lets n) n (f (i6 c.reg c.lets n)).1
 len:(i9 c f).reg.length=c.reg.length+((Go.Proofs.nums c.reg).filter fun n=>decide ((f (i6 c.reg c.lets n)).1≠(i6 c.reg c.lets n).dims)).length
 letl:(i9 c f).lets.length=c.lets.length
 letAt:∀ (k:Nat) (n:Int),(Go.Proofs.nums c.reg)[k]?=some n→(i9 c f).lets[k]?=if (f (i6 c.reg c.lets n)).1=(i6 c.reg c.lets n).dims then c.lets[k]? else some ((C0 c.reg n:Int)+1)
 lets:m4 (i9 c f).reg (i9 c f).lets=true
 take:∀ n∈Go.Proofs.nums c.reg,i6 (i9 c f).reg (i9 c f).lets n=fK c f n
 err:∀ n∈Go.Proofs.nums c.reg,(f (i6 c.reg c.lets n)).2=0
 chE:j6 (i9 c f)=0
 ok:OkC (i9 c f)
 small:r7 (i9 c f)
 smallG:jS (i9 c f)
theorem oo {c:Chains} {f:Issue→List Dim×Int} (h0:j6 c=0) (hsm:r7 c) (hf:BO c f) (hE:w5 c f=0):Changed c f:=by
 have hOk:=mV h0
 have hB:∀ n∈nums c.reg,m9 (B0 c.reg c.lets) n=i6 c.reg c.lets n:=fun n hn=>by rw[B0,E9,if_pos hn]
 have hgo:=ot f hOk hsm
 have hE1:(J9 c f).2.2=0:=Classical.byContradiction fun h=>by rw[w5,if_pos h] at hE;exact h hE
 have hE2:¬ (60<(J9 c f).1.length∨((J9 c f).2.1.any fun n=>decide (8<n))=true):=fun h=>by
  rw[w5,if_neg (by simp[hE1]),if_pos h] at hE;cases hE
 obtain⟨g1,g2,_,g4⟩:=mO (nums c.reg) 0 c.reg c.lets hE1
 have hll:c.lets.length=(nums c.reg).length:=by
  have:=hOk.lets
  simp only[m4,Bool.and_eq_true,decide_eq_true_eq] at this;exact this.1
 have g1':∀ n∈nums c.reg,(f (i6 c.reg c.lets n)).2=0:=fun n hn=>by have:=g1 n hn;rwa [hB n hn] at this
 have hfo:=fun n hn=>hf n hn (g1' n hn)
 have hletAt:∀ (k:Nat) (n:Int),(nums c.reg)[k]?=some n→(i9 c f).lets[k]?=if (f (i6 c.reg c.lets n)).1=(i6 c.reg c.lets n).dims then c.lets[k]? else some ((C0 c.reg n:Int)+1):=fun k n hk=>by
  have:=g4 k n hk (by have:=e7 hk;omega)
  rw[hB n (List.mem_of_getElem? hk),Nat.zero_add] at this
  exact this
 have hNmem:∀ n∈nums c.reg,∀ z,z∈V4 c.reg (B0 c.reg c.lets) f n↔(f (i6 c.reg c.lets n)).1≠(i6 c.reg c.lets n).dims∧z=di c.reg (i6 c.reg c.lets n) n (f (i6 c.reg c.lets n)).1:=fun n hn z=>by
  rw[V4,hB n hn];split
  ·rename_i h;simp[h]
  ·rename_i h;simp[h]
 have hN1:∀ d,(V4 c.reg (B0 c.reg c.lets) f d).length≤1:=fun d=>by rw[V4];split<;>simp
 have hscan:=u4 (p4 hOk.reg)
 have hnd:(nums c.reg).Nodup:=(A5 hOk.reg).1.imp fun h=>Int.ne_of_lt h
 have hlet8:∀ n∈nums c.reg,(f (i6 c.reg c.lets n)).1≠(i6 c.reg c.lets n).dims→(C0 c.reg n:Int)+1≤8:=fun n hn hne=>by
  obtain⟨k,hk⟩:=List.mem_iff_getElem?.1 hn
  have h1:=hletAt k n hk
  rw[if_neg hne] at h1
  refine Classical.byContradiction fun hgt=>hE2 (.inr ?_)
  rw[List.any_eq_true]
  exact⟨_,List.mem_of_getElem? h1,by simp;omega⟩
 have hTk:=fun n hn=>B2 hOk.reg hOk.lets (d:=n) hn
 have hokI:=(B7 hscan).2.2.2.1
 have hNok:∀ x∈c.reg,∀ z∈V4 c.reg (B0 c.reg c.lets) f x.drawing,z.drawing=x.drawing∧m3 z=true∧z.kind=x.kind∧z.letter=fH none x.drawing+C0 c.reg x.drawing+1:=fun x hx z hz=>by
  have hn:=(A5 hOk.reg).2 x hx
  obtain⟨hne,rfl⟩:=(hNmem _ hn z).1 hz
  obtain⟨t1,t2,_⟩:=hTk _ hn
  have t3:=(Y2 _).1 (hokI _ t1)
  have t4:=hfo _ hn
  have t5:=hlet8 _ hn hne
  have tk:=(kJ c.reg none _ hscan).2 _ t1 x hx t2
  generalize i6 c.reg c.lets x.drawing=T at *
  refine⟨t2,(Y2 _).2 ?_,tk,by simp[di,fH]⟩
  simp only[di]
  exact⟨⟨t3.1.1,t3.1.2.1,by omega,t5,by have:=t3.1.2.2.2.2;rw[t4.1];exact this⟩,t3.2.1,t4.2⟩
 have hext:=no hN1 c.reg none _ hscan (fun y e=>by cases e) hNok
 have hperm:=lu (V4 c.reg (B0 c.reg c.lets) f) c.reg
 rw[ut hscan] at hperm
 have hraw:(J9 c f).1=c.reg++(nums c.reg).flatMap (V4 c.reg (B0 c.reg c.lets) f):=g2
 have hreg:(i9 c f).reg=gL (V4 c.reg (B0 c.reg c.lets) f) c.reg:=by
  show cS _=_
  rw[hraw]
  refine(dX hperm ?_ (lY hext)).symm
  rw[← hraw];exact hgo.2.1
 have hperm':(i9 c f).reg.Perm (c.reg++(nums c.reg).flatMap (V4 c.reg (B0 c.reg c.lets) f)):=by rw[hreg];exact hperm
 rw[← hreg] at hext
 have hnums:nums (i9 c f).reg=nums c.reg:=(cu hext).symm
 have hmem:∀ x,x∈(i9 c f).reg↔x∈c.reg∨∃ n∈nums c.reg,(f (i6 c.reg c.lets n)).1≠(i6 c.reg c.lets n).dims∧x=di c.reg (i6 c.reg c.lets n) n (f (i6 c.reg c.lets n)).1:=fun x=>by
  rw[hperm'.mem_iff,List.mem_append,List.mem_flatMap]
  refine or_congr Iff.rfl (exists_congr fun n=>and_congr_right fun hn=>hNmem n hn x)
 have hfl:∀ ns:List Int,(∀ n∈ns,n∈nums c.reg)→(ns.flatMap (V4 c.reg (B0 c.reg c.lets) f)).length=(ns.filter fun n=>decide ((f (i6 c.reg c.lets n)).1≠(i6 c.reg c.lets n).dims)).length:=fun ns=>by
  induction ns with
  | nil=>intro _;rfl
  | cons n ns ih =>
    intro hns
    rw[List.flatMap_cons,List.length_append,ih fun m hm=>hns m (List.mem_cons_of_mem _ hm),V4,hB n (hns n (by simp)),List.filter_cons]
    by_cases h:(f (i6 c.reg c.lets n)).1=(i6 c.reg c.lets n).dims
    ·simp[h]
    ·simp[h];omega
 have hlen:(i9 c f).reg.length=c.reg.length+((nums c.reg).filter fun n=>decide ((f (i6 c.reg c.lets n)).1≠(i6 c.reg c.lets n).dims)).length:=by
  rw[hperm'.length_eq,List.length_append,hfl _ fun n hn=>hn]
 have hchI:∀ n d,d∈Y6 (i9 c f).reg n↔d∈Y6 c.reg n:=fun n d=>by
  rw[rh,rh]
  constructor
  ·rintro⟨x,hx,h1,h2⟩
   rcases (hmem x).1 hx with hx|⟨m,hm,_,rfl⟩
   ·exact⟨x,hx,h1,h2⟩
   ·obtain⟨t1,t2,_⟩:=hTk m hm
    exact⟨_,t1,h1,h2⟩
  ·rintro⟨x,hx,h1,h2⟩
   exact⟨x,(hmem x).2 (.inl hx),h1,h2⟩
 have hchk:l8 (i9 c f).reg=0:=by
  have hL:o8 (i9 c f).reg=true:=by
   have h1:=p4 hOk.reg
   simp only[o8,Bool.and_eq_true,decide_eq_true_eq] at h1 ⊢
   rw[hext,hnums]
   refine⟨⟨⟨⟨?_,?_⟩,rfl⟩,?_⟩,h1.2⟩
   ·rw[hlen];omega
   ·have:(i9 c f).reg.length=(J9 c f).1.length:=fy _
    omega
   ·rw[List.all_eq_true]
    intro x hx
    have h2:=h1.1.2
    rw[List.all_eq_true] at h2
    rcases (hmem x).1 hx with hx|⟨m,hm,_,rfl⟩
    ·exact h2 x hx
    ·obtain⟨t1,t2,_⟩:=hTk m hm
     have h3:=h2 _ t1
     exact h3
  have hD:w7 (i9 c f).reg=w7 c.reg:=by
   rw[w7,w7,hnums]
   exact List.map_congr_left fun n _=>vZ (fun n d=>hchI n d) _ n
  have h1:=hOk.reg
  rw[l8,if_neg (by simp[p4 hOk.reg])] at h1
  rw[l8,if_neg (by simp[hL]),hD];exact h1
 have hletl:(i9 c f).lets.length=c.lets.length:=hgo.2.2.2
 have hfind:∀ (k:Nat) (n lt:Int),(nums c.reg)[k]?=some n→(i9 c f).lets[k]?=some lt→fK c f n∈(i9 c f).reg∧(fK c f n).drawing=n∧(fK c f n).letter=lt:=fun k n lt hk hlt=>by
  have hn:=List.mem_of_getElem? hk
  obtain⟨t1,t2,k',lt',e1,e2,e3⟩:=hTk n hn
  obtain rfl:k'=k:=(List.getElem?_inj (e7 e1) hnd).1 (e1.trans hk.symm)
  have h1:=hletAt k' n hk
  rw[hlt] at h1
  unfold fK
  split
  ·rename_i h
   rw[if_pos h,e2] at h1
   cases h1
   obtain⟨_,_,f3⟩:=aB e3
   exact⟨(hmem _).2 (.inl t1),t2,f3⟩
  ·rename_i h
   rw[if_neg h] at h1
   cases h1
   exact⟨(hmem _).2 (.inr ⟨n,hn,h,rfl⟩),t2,rfl⟩
 have hlets:m4 (i9 c f).reg (i9 c f).lets=true:=by
  refine iy hchk (by rw[hletl,hnums,hll]) fun k h1 h2=>?_
  have e1:(nums c.reg)[k]?=some (nums (i9 c f).reg)[k]:=by rw[← hnums];exact List.getElem?_eq_getElem h1
  obtain⟨a,b,d⟩:=hfind k _ _ e1 (List.getElem?_eq_getElem h2)
  exact(jw _ _ _).2 ⟨_,a,b,d⟩
 have htake:∀ n∈nums c.reg,i6 (i9 c f).reg (i9 c f).lets n=fK c f n:=fun n hn=>by
  obtain⟨t1,t2,k,lt,e1,e2,e3⟩:=B2 hchk hlets (d:=n) (by rw[hnums];exact hn)
  obtain⟨_,_,f3⟩:=aB e3
  rw[hnums] at e1
  obtain⟨a,b,d⟩:=hfind k n lt e1 e2
  exact(bM hchk).1 _ t1 _ a (by rw[t2,b]) (by rw[f3,d])
 have hki:∀ n,(i6 (i9 c f).reg (i9 c f).lets n).kind=(i6 c.reg c.lets n).kind∧(i6 (i9 c f).reg (i9 c f).lets n).items=(i6 c.reg c.lets n).items:=fun n=>by
  by_cases hn:n∈nums c.reg
  ·rw[htake n hn];exact⟨(gX c f n).1,(gX c f n).2.1⟩
  ·rw[kE hchk (by rw[hnums];exact hn),kE hOk.reg hn];exact⟨rfl,rfl⟩
 have hparts:C9 (i9 c f).reg (i9 c f).lets (i9 c f).of=C9 c.reg c.lets c.of:=by
  rw[C9,C9,gO,gO,hnums]
  show (((nums c.reg).zip (fi (nums c.reg) _ (p8 (i6 (i9 c f).reg (i9 c f).lets) 6 c.of 1))).filter _).map _=_
  rw[jp hki]
 have hch:j6 (i9 c f)=0:=by
  have h1:=h0
  rw[J6 hOk.reg] at h1
  rw[J6 hchk]
  split at h1
  ·rename_i h
   rw[if_pos]
   obtain⟨a,b,d,e⟩:=h
   refine⟨hlets,by rw[hnums];exact b,d,?_⟩
   rw[List.all_eq_true] at e ⊢
   intro x hx
   have e1:=e x hx
   simp only[E1,Bool.and_eq_true,List.all_eq_true] at e1 ⊢
   refine⟨e1.1,fun y hy=>?_⟩
   have e2:=e1.2 y hy
   have hyn:=(hOk.link x hx y hy).1
   have hdl:(i6 (i9 c f).reg (i9 c f).lets y.drawing).dims.length=(i6 c.reg c.lets y.drawing).dims.length:=by
    rw[htake _ hyn,(gX c f _).2.2.2,(hfo _ hyn).1]
   rw[J4] at e2 ⊢
   rw[hparts,hdl];exact e2
  ·cases h1
 have hokI':=(B7 hext).2.2.2.1
 have hSmR:T3 (i9 c f).reg:=by
  refine⟨?_,fun x hx=>?_⟩
  ·have:(i9 c f).reg.length=(J9 c f).1.length:=fy _
   omega
  ·have h1:=(Y2 x).1 (hokI' x hx)
   omega
 exact⟨hchk,hnums,hmem,hlen,hletl,hletAt,hlets,htake,g1',hch,mV hch,⟨hSmR,by rw[hletl];exact hsm.2.1,hsm.2.2⟩,⟨⟨hSmR.1,fun x hx=>(hSmR.2 x hx).2.2⟩,by rw[hletl];exact hsm.2.1,hsm.2.2⟩⟩
def bo (m:List (Int×Bool)) (n:Int):Bool:=(ce n m).getD false
theorem ms (a n:Int) (v:Bool) (m:List (Int×Bool)):bo (jL a v m) n=if a=n then v else bo m n:=by
 unfold bo;rw[jM];split<;>rfl
def ak (n:Int) (m:List (Int×Bool)) (y:Itm):List (Int×Bool):=jL y.drawing (bo m y.drawing||bo m n) m
def iJ (tk:Int→Issue) (m:List (Int×Bool)) (n:Int):List (Int×Bool):=(tk n).items.foldl (ak n) m
def uy (tk:Int→Issue) (ns:List Int) (m:List (Int×Bool)):List (Int×Bool):=ns.foldl (iJ tk) m
def O4 (tk:Int→Issue) (ns:List Int) (d:Int):Nat→List (Int×Bool)
 | 0=>jL d true []
 | k+1=>uy tk ns (O4 tk ns d k)
theorem iF {n k:Int} {m:List (Int×Bool)} {y:Itm} (h:bo m k=true):bo (ak n m y) k=true:=by
 rw[ak,ms];split
 ·rename_i e;rw[e,h];rfl
 ·exact h
theorem aW {n k:Int}:∀ (l:List Itm) {m:List (Int×Bool)},bo m k=true→bo (l.foldl (ak n) m) k=true
 | [],_,h=>h
 | y :: l,_,h=>aW l (iF h)
theorem ju {n:Int}:∀ (l:List Itm) {m:List (Int×Bool)},bo m n=true→∀ y∈l,bo (l.foldl (ak n) m) y.drawing=true
 | y :: l,m,h,z,hz=>by
   rw[List.foldl_cons]
   rcases List.mem_cons.1 hz with rfl|hz
   ·exact aW l (by rw[ak,ms,if_pos rfl,h,Bool.or_true])
   ·exact ju l (iF h) z hz
theorem dx {tk:Int→Issue} {k:Int}:∀ (l:List Int) {m:List (Int×Bool)},bo m k=true→bo (l.foldl (iJ tk) m) k=true
 | [],_,h=>h
 | n :: l,_,h=>dx l (aW _ h)
theorem jv {tk:Int→Issue} {k:Int}:∀ (l:List Int) {m:List (Int×Bool)},bo m k=true→k∈l→∀ y∈(tk k).items,bo (l.foldl (iJ tk) m) y.drawing=true
 | n :: l,m,h,hk,y,hy=>by
   rw[List.foldl_cons]
   rcases List.mem_cons.1 hk with rfl|hk
   ·exact dx l (ju _ h y hy)
   ·exact jv l (aW _ h) hk y hy
theorem kB {tk:Int→Issue} {ns:List Int} {d n:Int} {j:Nat}:∀ k,bo (O4 tk ns d j) n=true→bo (O4 tk ns d (j+k)) n=true
 | 0,h=>h
 | k+1,h=>dx ns (kB k h)
theorem qz {tk:Int→Issue} {ns:List Int} {d n:Int} {j k:Nat} (hjk:j≤k) (h:bo (O4 tk ns d j) n=true):bo (O4 tk ns d k) n=true:=by
 have:=kB (k-j) h
 rwa [show j+(k-j)=k by omega] at this
theorem eD {tk tk':Int→Issue} {S:Nat→Int→Prop} {N:Nat} (hS:∀ j n,j<N→S j n→tk' n=tk n∧∀ y∈(tk n).items,S (j+1) y.drawing) :
 ∀ (k j:Nat) (d m:Int),j+k≤N→S j d→p8 tk' k d m=p8 tk k d m∧∀ p∈p8 tk k d m,∃ i,i<N∧S i p.1
 | 0,_,_,_,_,_=>⟨rfl,fun p hp=>by cases hp⟩
 | k+1,j,d,m,hj,hd=>by
   obtain⟨h1,h2⟩:=hS j d (by omega) hd
   rw[p8,p8,h1]
   split
   ·exact⟨rfl,fun p hp=>by rw[List.mem_singleton] at hp;rw[hp];exact⟨j,by omega,hd⟩⟩
   ·have ih:=fun (y:Itm) (hy:y∈(tk d).items)=>eD hS k (j+1) y.drawing (IntKind.i64.wrap (m*y.count)) (by omega) (h2 y hy)
    refine⟨?_,fun p hp=>?_⟩
    ·simp only[List.flatMap]
     exact congrArg _ (List.map_congr_left fun y hy=>(ih y hy).1)
    ·obtain⟨y,hy,hp⟩:=List.mem_flatMap.1 hp
     exact(ih y hy).2 p hp
theorem lG:∀ (lv:List (Int×Int)) (m:List (Int×Int)) (d:Int),(∀ p∈lv,p.1≠d)→l6 (fh m lv) d=l6 m d
 | [],_,_,_=>rfl
 | p :: lv,m,d,h=>by
   have h1:=lG lv (J3 p.1 (IntKind.i64.wrap (l6 m p.1+p.2)) m) d fun q hq=>h q (by simp[hq])
   simp only[fh,List.foldl_cons] at h1 ⊢
   rw[h1,P1,if_neg (Ne.symm (h p (by simp)))]
structure Turned (c:Chains) (L:List Int):Prop where
 len:L.length=c.lets.length
 same:∀ (k:Nat) (n:Int),(nums c.reg)[k]?=some n→bo (O4 (i6 c.reg c.lets) (nums c.reg) c.of 6) n=true→L[k]?=c.lets[k]?
 ok:∀ (k:Nat) (n lt:Int),(nums c.reg)[k]?=some n→L[k]?=some lt→1≤lt∧lt≤s9 c.reg n
theorem iD {c:Chains} {L:List Int} (h0:j6 c=0) (hsm:r7 c) (hT:Turned c L) :
 j6 { c with lets:=L }=0∧r7 { c with lets:=L }∧∀ x∈c.loops,H7 { c with lets:=L } x=H7 c x:=by
 have hOk:=mV h0
 obtain⟨dep,hdep⟩:=eW hOk.reg
 have hnd:(nums c.reg).Nodup:=(A5 hOk.reg).1.imp fun h=>Int.ne_of_lt h
 have hll:c.lets.length=(nums c.reg).length:=by
  have:=hOk.lets
  simp only[m4,Bool.and_eq_true,decide_eq_true_eq] at this;exact this.1
 have hlets:m4 c.reg L=true:=by
  refine iy hOk.reg (by rw[hT.len,hll]) fun k h1 h2=>?_
  exact(L8 hOk.reg _ _).2 (hT.ok k _ _ (List.getElem?_eq_getElem h1) (List.getElem?_eq_getElem h2))
 have htake:∀ n∈nums c.reg,bo (O4 (i6 c.reg c.lets) (nums c.reg) c.of 6) n=true→i6 c.reg L n=i6 c.reg c.lets n:=fun n hn hu=>by
  obtain⟨k,hk⟩:=List.mem_iff_getElem?.1 hn
  simp only[i6,du hnd hk,Int.toNat_natCast,hT.same k n hk hu]
 have hagree:=eD (tk:=i6 c.reg c.lets) (tk':=i6 c.reg L) (S:=fun j n=>n∈nums c.reg∧bo (O4 (i6 c.reg c.lets) (nums c.reg) c.of j) n=true) (N:=6) (fun j n hj ⟨h1,h2⟩=>by
  refine⟨htake n h1 (qz (by omega) h2),fun y hy=>⟨?_,?_⟩⟩
  ·exact((hdep n h1).2.2 _ (aK hOk.reg hOk.lets h1 y hy)).1
  ·exact jv _ h2 h1 y hy) 6 0 c.of 1 (by omega) ⟨hOk.of,by rw[O4,ms,if_pos rfl]⟩
 have hparts:C9 c.reg L c.of=C9 c.reg c.lets c.of:=by
  rw[C9,C9,gO,gO,hagree.1]
 have hlink:∀ d,1≤I7 (C9 c.reg c.lets c.of) d→i6 c.reg L d=i6 c.reg c.lets d:=fun d hd=>by
  have hdn:=bP hOk.reg hOk.lets hOk.of hd
  refine Classical.byContradiction fun hne=>?_
  have hno:∀ p∈p8 (i6 c.reg c.lets) 6 c.of 1,p.1≠d:=fun p hp e=>by
   obtain⟨i,hi,h1,h2⟩:=hagree.2 p hp
   rw[e] at h1 h2
   exact hne (htake d h1 (qz (by omega) h2))
  have hz:l6 (gN c.reg c.lets c.of) d=0:=by rw[gN,lG _ _ _ hno];rfl
  rw[jc hOk.reg hOk.lets hOk.of,Y5] at hd
  ·omega
  ·intro hm
   simp only[H2,List.map_map] at hm
   obtain⟨n,h1,h2⟩:=List.mem_map.1 hm
   simp only[Function.comp] at h2
   have:=(List.mem_filter.1 h1).2
   rw[h2,hz] at this
   simp at this
 have h1:=h0
 rw[J6 hOk.reg] at h1
 have hlk:∀ x∈c.loops,∀ y∈x.links,i6 c.reg L y.drawing=i6 c.reg c.lets y.drawing:=fun x hx y hy=>by
  split at h1
  ·rename_i h
   have e:=List.all_eq_true.1 h.2.2.2 x hx
   simp only[E1,Bool.and_eq_true,List.all_eq_true] at e
   have e2:=e.2 y hy
   simp only[J4,Bool.and_eq_true,decide_eq_true_eq] at e2
   have:=fa hy
   exact hlink _ (by omega)
  ·cases h1
 refine⟨?_,⟨hsm.1,by show L.length≤80;rw[hT.len];exact hsm.2.1,hsm.2.2⟩,fun x hx=>?_⟩
 ·rw[J6 (c:={ c with lets:=L }) hOk.reg]
  split at h1
  ·rename_i h
   rw[if_pos]
   obtain⟨a,b,d,e⟩:=h
   refine⟨hlets,b,d,?_⟩
   rw[List.all_eq_true] at e ⊢
   intro x hx
   have e1:=e x hx
   simp only[E1,Bool.and_eq_true,List.all_eq_true] at e1 ⊢
   refine⟨e1.1,fun y hy=>?_⟩
   have e2:=e1.2 y hy
   rw[J4] at e2 ⊢
   show (decide ((T1 x.links y.drawing:Int)≤I7 (C9 c.reg L c.of) y.drawing)&&(decide (0≤y.dim)&&decide (y.dim≤((i6 c.reg L y.drawing).dims.length:Int)-1)))=true
   rw[hparts,hlk x hx y hy];exact e2
  ·cases h1
 ·refine List.map_congr_left fun y hy=>?_
  show ((i6 c.reg L y.drawing).dims[y.dim.toNat]?).getD rp=_
  rw[hlk x hx y hy];rfl
theorem lS {c:Chains} {L:List Int} (h0:j6 c=0) (hsm:r7 c) (hT:Turned c L) (k:Nat):kN { c with lets:=L } (k:Int)=kN c k∧kO { c with lets:=L } (k:Int)=kO c k∧A0 { c with lets:=L } (k:Int)=A0 c k:=by
 obtain⟨h1,h2,h3⟩:=iD h0 hsm hT
 have hE:A0 { c with lets:=L } (k:Int)=A0 c k:=by
  simp only[A0,h1,h0]
 refine⟨?_,?_,hE⟩
 ·rw[kN,kN,hE,zR,zR]
  cases hx:c.loops[(k:Int).toNat]? with
  | none=>rfl
  | some x=>simp only[h3 x (List.mem_of_getElem? hx)]
 ·rw[kO,kO,hE,zV,zV]
  cases hx:c.loops[(k:Int).toNat]? with
  | none=>rfl
  | some x=>simp only[h3 x (List.mem_of_getElem? hx)]
theorem js {c:Chains} (hOk:OkC c) {x:Issue} (hx:x∈c.reg):∀ d∈x.dims,A4 d=true:=((Y2 x).1 ((B7 (u4 (p4 hOk.reg))).2.2.2.1 x hx)).2.2
theorem yr {c:Chains} (hOk:OkC c) (l:List Spot) {g:Int} (h0:0≤g):BO c (Z1 l g):=fun n hn _=>by
 obtain⟨t1,_⟩:=B2 hOk.reg hOk.lets hn
 have hd:=js hOk t1
 generalize i6 c.reg c.lets n=T at *
 refine⟨dU l g T,fun d h=>?_⟩
 obtain⟨k,hk⟩:=List.mem_iff_getElem?.1 h
 have hkl:k<T.dims.length:=by have:=e7 hk;rwa [Z1,dU] at this
 have h1:=lU l g T hkl
 simp only[Z1] at hk
 rw[hk] at h1
 have h2:=hd _ (List.getElem_mem hkl)
 cases h1
 split
 ·exact nc h2 h0
 ·exact h2
theorem jJ {reg:List Issue} {B:List (Int×Issue)} {f:Issue→List Dim×Int} (h:∀ x,(f x).2=0):∀ (r:List Int) (i:Nat) (R:List Issue) (L:List Int),(X5 reg B f r i R L).2.2=0
 | [],_,_,_=>rfl
 | n :: r,i,R,L=>by
   unfold X5
   rw[if_neg (by simp[h])]
   split
   ·exact jJ h r _ _ _
   ·exact jJ h r _ _ _
theorem jf {S:List Spot}:∀ (l:List Spot) (p:Option Spot),(∀ x∈l,x∈S)→SortedS l→(∀ y,p=some y→∀ x∈l,G1 y x=true)→wq S p l=true
 | [],p,_,_,_=>qK S p
 | x :: r,p,h1,h2,h3=>by
   have h2':=List.pairwise_cons.1 h2
   rw[nB,jf r (some x) (fun y hy=>h1 y (List.mem_cons_of_mem _ hy)) h2'.2 (fun y e=>by cases e;exact h2'.1),Bool.and_true,Bool.and_eq_true]
   refine⟨by simp[ib,h1 x (by simp)],?_⟩
   cases p with
   | none=>rfl
   | some y=>simp only[decide_eq_true_eq];exact ordS_lt.2 (h3 y rfl x (by simp))
theorem wP {S l:List Spot} (hS:SortedS S) (h:l.Sublist S):wq S none l=true:=
 jf l none (fun _ hx=>h.subset hx) (hS.sublist h) (fun y e=>by cases e)
theorem bq (c:Chains):SortedS (m5 c):=ci _ _
theorem rF {c:Chains} (h0:j6 c=0) {l:List Spot} (hl:l.Sublist (m5 c)) {g:Int} (g0:0≤g) (g1:g≤1000000000):(aj c l g=0∧w5 c (Z1 l g)=0∧bC c l g=i9 c (Z1 l g))∨aj c l g=9:=by
 have hE:aj c l g=w5 c (Z1 l g):=by rw[aj,if_neg (by simp[h0]),if_pos ⟨wP (bq c) hl,g0,g1⟩]
 have h2:(J9 c (Z1 l g)).2.2=0:=jJ (fun x=>rfl) _ _ _ _
 have hE2:w5 c (Z1 l g)=0∨w5 c (Z1 l g)=9:=by
  rw[w5,if_neg (by simp[h2])];split<;>simp
 rcases hE2 with h|h
 ·exact .inl ⟨by rw[hE,h],h,by rw[bC,if_pos (by rw[hE,h])]⟩
 ·exact .inr (by rw[hE,h])
theorem ka {c:Chains} (h0:j6 c=0) (hsm:r7 c) {l:List Spot} {g:Int} (g0:0≤g) (hE:w5 c (Z1 l g)=0):Changed c (Z1 l g):=oo h0 hsm (yr (mV h0) l g0) hE
structure ProofOf (c:Chains) (L:Nat) (x:ChLoop) (S:List Int):Prop where
 at':c.loops[L]?=some x
 len:S.length=x.links.length
 within:∀ (k:Nat) (y:Link) (n:Int),x.links[k]?=some y→S[k]?=some n→(I6 c y).lower≤n∧n≤(I6 c y).upper
 near:∀ (k:Nat) (y:Link) (n:Int),x.links[k]?=some y→S[k]?=some n→H1 y∈m5 c→n-V5 (I6 c y)≤w9 c+1∧V5 (I6 c y)-n≤w9 c+1
 out:yt x.links S<x.lo∨x.hi<yt x.links S
end Go.Proofs
namespace Go.Ab
open Go
theorem tq (s i:Nat):IntKind.u16.wrap ((BitVec.ofInt 16 ((s:Int).fdiv (2 ^ i)) &&& BitVec.ofInt 16 1).toNat:Int)=if s.testBit i=true then 1 else 0:=by
 have e1:(s:Int).fdiv (2 ^ i)=((s / 2 ^ i:Nat):Int):=by
  rw[Int.fdiv_eq_ediv_of_nonneg _ (by exact Int.pow_nonneg (by omega))]
  simp
 have e2:(BitVec.ofInt 16 ((s / 2 ^ i:Nat):Int) &&& BitVec.ofInt 16 1).toNat=(s / 2 ^ i) % 2:=by
  have h1:(BitVec.ofInt 16 1)=1#16:=by decide
  rw[h1,BitVec.ofInt_natCast,BitVec.toNat_and,BitVec.toNat_ofNat,BitVec.toNat_ofNat]
  rw[show (1 % 2 ^ 16:Nat)=1 by decide,Nat.and_one_is_mod]
  omega
 rw[e1,e2,Nat.testBit_eq_decide_div_mod_eq]
 rcases Nat.mod_two_eq_zero_or_one (s / 2 ^ i) with h|h
 ·rw[h];simp;decide
 ·rw[h];simp;decide
end Go.Ab
namespace Go.Proofs
open Go Go.Ab
end Go.Proofs
namespace Go.Ab
open Go
end Go.Ab
namespace Go.Proofs
open Go Go.Ab
def R1 (p:Nat→Bool) (l:List Spot):Nat→List Spot
 | 0=>[]
 | k+1=>R1 p l k++(match l[k]? with
   | some x=>if p k then [x] else []
   | none=>[])
theorem pB {p:Nat→Bool} {l:List Spot} {k:Nat} {x:Spot} (h:l[k]?=some x):R1 p l (k+1)=R1 p l k++if p k then [x] else []:=by rw[R1,h]
theorem kX (p:Nat→Bool) (l:List Spot):∀ k,(R1 p l k).length≤k
 | 0=>Nat.le_refl _
 | k+1=>by
   have:=kX p l k
   rw[R1,List.length_append]
   split
   ·split<;>simp<;>omega
   ·simp;omega
theorem kW {p:Nat→Bool} {l:List Spot}:∀ k,(R1 p l k).Sublist (l.take k)
 | 0=>by simp[R1]
 | k+1=>by
   rw[R1,List.take_add_one]
   refine List.Sublist.append (kW k) ?_
   cases l[k]? with
   | none=>simp
   | some x=>simp only[Option.toList_some];split<;>simp
theorem sk (p:Nat→Bool) (l:List Spot):(R1 p l l.length).Sublist l:=by
 have:=kW (p:=p) (l:=l) l.length
 rwa [List.take_length] at this
end Go.Proofs
namespace Go.Proofs
open Go Go.Ab
theorem zI {c:Chains} {f:Issue→List Dim×Int} (hX:Changed c f) {y:Issue} (hy:y∈c.reg):atR (i9 c f).reg y.drawing y.letter=y∧zZ (i9 c f).reg y.drawing y.letter=0:=by
 have hm:=(hX.mem y).2 (.inl hy)
 have hs:(q8 (i9 c f).reg y.drawing y.letter).isSome=true:=(jw _ _ _).2 ⟨y,hm,rfl,rfl⟩
 obtain⟨z,hz⟩:=Option.isSome_iff_exists.1 hs
 obtain⟨a,b,d⟩:=aB hz
 have:z=y:=(bM hX.reg).1 z a y hm b d
 subst this
 exact⟨by rw[atR,if_pos hX.reg,hz];rfl,by rw[zZ,if_neg (by simp[hX.reg]),if_pos hs]⟩
theorem qV:∀ (l:List Int) (a M:Int),l.Pairwise (· < ·)→(∀ x∈l,a<x∧x≤M)→a≤M→(l.length:Int)≤M-a
 | [],a,M,_,_,h=>by simp;omega
 | x :: r,a,M,h,hb,_=>by
   rw[List.pairwise_cons] at h
   have h1:=hb x (by simp)
   have:=qV r x M h.2 (fun y hy=>⟨h.1 y hy,(hb y (by simp[hy])).2⟩) h1.2
   rw[List.length_cons];omega
theorem nM {l:List Issue} (h:l8 l=0) (d:Int):s9 l d=(C0 l d:Int):=by
 obtain⟨h1,h2,h3⟩:=bR d l 0
 obtain⟨_,k2,k3⟩:=ap l none _ (u4 (p4 h)) (fun y e=>by cases e)
 have hle:s9 l d≤(C0 l d:Int):=by
  rcases h3 with h3|⟨x,hx,hd,he⟩
  ·rw[s9,h3];omega
  ·have:=(bM h).2 x hx
   rw[hd] at this
   rw[s9,← he];omega
 have hge:(C0 l d:Int)≤s9 l d:=by
  have:=qV ((l.filter fun x=>decide (x.drawing=d)).map (·.letter)) 0 (s9 l d) ?_ ?_ h1
  ·rw[List.length_map] at this
   unfold C0;omega
  ·rw[List.pairwise_map]
   refine(k2.filter _).imp_of_mem fun {a b} ha hb hab=>?_
   have ha:=(List.mem_filter.1 ha).2
   have hb:=(List.mem_filter.1 hb).2
   simp only[decide_eq_true_eq] at ha hb
   omega
  ·intro n hn
   obtain⟨x,hx,rfl⟩:=List.mem_map.1 hn
   obtain⟨hx,hd⟩:=List.mem_filter.1 hx
   have hd:=of_decide_eq_true hd
   exact⟨by have:=(bM h).2 x hx;omega,h2 x hx hd⟩
 omega
def X6 (l:List Spot) (s:Spot) (d:Dim) (g:Int) (j:Nat):Dim:=if s∈l.take j then C2 d g else d
theorem ru (l:List Spot) (s:Spot) (d:Dim) (g:Int):X6 l s d g 0=d:=by simp[X6]
theorem ub {l:List Spot} {s:Spot} {d:Dim} {g:Int} {j:Nat} (hn:l.Nodup) (h:l[j]?=some s):X6 l s d g j=d∧X6 l s d g (j+1)=C2 d g:=by
 have hlt:=e7 h
 have hno:s∉l.take j:=fun hm=>by
  obtain⟨i,hi⟩:=List.mem_iff_getElem?.1 hm
  have hij:i<j:=by have:=e7 hi;rw[List.length_take] at this;omega
  rw[List.getElem?_take_of_lt hij] at hi
  have:=(List.getElem?_inj (e7 hi) hn).1 (hi.trans h.symm)
  omega
 refine⟨by rw[X6,if_neg hno],by rw[X6,if_pos];rw[List.take_add_one,h];simp⟩
theorem rv {l:List Spot} {s t:Spot} {d:Dim} {g:Int} {j:Nat} (h:l[j]?=some t) (hne:t≠s):X6 l s d g (j+1)=X6 l s d g j:=by
 unfold X6
 rw[List.take_add_one,h]
 simp only[Option.toList_some,List.mem_append,List.mem_singleton]
 by_cases hm:s∈l.take j
 ·rw[if_pos hm,if_pos (.inl hm)]
 ·rw[if_neg hm,if_neg (fun e=>e.elim hm fun e=>hne e.symm)]
theorem uc (l:List Spot) (s:Spot) (d:Dim) (g:Int):X6 l s d g l.length=if ib l s then C2 d g else d:=by
 rw[X6,List.take_length]
 by_cases h:s∈l<;>simp[ib,h]
def cZ (A B:List Dim) (k:Nat):Bool:=decide (B.take k≠A.take k)
theorem sX {A B:List Dim} {k:Nat} {a b:Dim} (ha:A[k]?=some a) (hb:B[k]?=some b):cZ A B (k+1)=(cZ A B k||decide (b≠a)):=by
 unfold cZ
 rw[List.take_add_one,List.take_add_one,ha,hb]
 simp only[Option.toList_some]
 have hA:=e7 ha
 have hB:=e7 hb
 have hl:(B.take k).length=(A.take k).length:=by simp;omega
 have key:(B.take k++[b]=A.take k++[a])↔(B.take k=A.take k∧b=a):=by
  constructor
  ·intro e
   obtain⟨e1,e2⟩:=List.append_inj e hl
   simp only[List.cons.injEq,and_true] at e2
   exact⟨e1,e2⟩
  ·rintro⟨e1,e2⟩
   rw[e1,e2]
 by_cases h1:B.take k=A.take k<;>by_cases h2:b=a<;>simp[key,h1,h2]
theorem vH {A B:List Dim} (h:B.length=A.length):cZ A B A.length=decide (B≠A):=by
 unfold cZ
 rw[List.take_length,List.take_of_length_le (by omega)]
def Y0 (c:Chains) (f:Issue→List Dim×Int) (i:Nat):Nat:=(((nums c.reg).take i).filter fun n=>decide ((f (i6 c.reg c.lets n)).1≠(i6 c.reg c.lets n).dims)).length
theorem si {c:Chains} {f:Issue→List Dim×Int} {i:Nat} {n:Int} (h:(nums c.reg)[i]?=some n):Y0 c f (i+1)=Y0 c f i+(if (f (i6 c.reg c.lets n)).1≠(i6 c.reg c.lets n).dims then 1 else 0):=by
 unfold Y0
 rw[List.take_add_one,h,List.filter_append,List.length_append]
 simp only[Option.toList_some,List.filter_cons,List.filter_nil]
 by_cases e:(f (i6 c.reg c.lets n)).1=(i6 c.reg c.lets n).dims<;>simp[e]
theorem uS {c:Chains} {f:Issue→List Dim×Int} (hX:Changed c f):(i9 c f).reg.length=c.reg.length+Y0 c f (nums c.reg).length:=by
 rw[hX.len,Y0,List.take_length]
theorem qN (c:Chains) (f:Issue→List Dim×Int) (i:Nat):Y0 c f i≤i:=by
 unfold Y0
 have:=List.length_filter_le (fun n=>decide ((f (i6 c.reg c.lets n)).1≠(i6 c.reg c.lets n).dims)) ((nums c.reg).take i)
 rw[List.length_take] at this;omega
def M9 (c:Chains) (u:Int→Bool) (ch:Nat→Int) (i:Nat):List Int:=(c.lets.mapIdx fun k lt=>if k<i then (match (nums c.reg)[k]? with|some n=>if u n then lt else 1+(ch k) % s9 c.reg n|none=>lt) else lt)
theorem rC (c:Chains) (u:Int→Bool) (ch:Nat→Int):M9 c u ch 0=c.lets:=by
 refine List.ext_getElem? fun k=>?_
 simp only[M9,List.getElem?_mapIdx]
 cases c.lets[k]?<;>simp
theorem iE (c:Chains) (u:Int→Bool) (ch:Nat→Int) (i:Nat):(M9 c u ch i).length=c.lets.length:=by simp[M9]
theorem rD {c:Chains} {u:Int→Bool} {ch:Nat→Int} {i:Nat} {n:Int} (h:(nums c.reg)[i]?=some n) (hu:u n=true):M9 c u ch (i+1)=M9 c u ch i:=by
 refine List.ext_getElem? fun k=>?_
 simp only[M9,List.getElem?_mapIdx]
 cases c.lets[k]? with
 | none=>rfl
 | some lt =>
   simp only[Option.map_some,Option.some.injEq]
   by_cases hk:k<i
   ·rw[if_pos hk,if_pos (by omega)]
   ·by_cases hk2:k=i
    ·subst hk2
     rw[if_neg hk,if_pos (by omega),h]
     simp only[hu,if_true]
    ·rw[if_neg hk,if_neg (by omega)]
theorem turn_free {c:Chains} {u:Int→Bool} {ch:Nat→Int} {i:Nat} {n:Int} (h:(nums c.reg)[i]?=some n) (hu:u n=false):M9 c u ch (i+1)=(M9 c u ch i).set i (1+(ch i) % s9 c.reg n):=by
 refine List.ext_getElem? fun k=>?_
 rw[List.getElem?_set]
 simp only[M9,List.getElem?_mapIdx,List.length_mapIdx]
 by_cases hk2:i=k
 ·subst hk2
  rw[if_pos rfl]
  by_cases hl:i<c.lets.length
  ·rw[if_pos hl,List.getElem?_eq_getElem hl]
   simp only[Option.map_some,Option.some.injEq,h,hu]
   rw[if_pos (by omega)];rfl
  ·rw[if_neg hl,List.getElem?_eq_none (l:=c.lets) (by omega)];rfl
 ·rw[if_neg hk2]
  cases c.lets[k]? with
  | none=>rfl
  | some lt =>
    simp only[Option.map_some,Option.some.injEq]
    by_cases hk:k<i
    ·rw[if_pos hk,if_pos (by omega)]
    ·rw[if_neg hk,if_neg (by omega)]
theorem qA {c:Chains} {u:Int→Bool} {ch:Nat→Int} {i k:Nat} {n:Int} (hk:(nums c.reg)[k]?=some n) (hl:k<c.lets.length) (hi:k<i):(M9 c u ch i)[k]?=some (if u n=true then c.lets[k] else 1+ch k % s9 c.reg n):=by
 have e:c.lets[k]?=some c.lets[k]:=List.getElem?_eq_getElem hl
 rw[M9,List.getElem?_mapIdx,e,Option.map_some,if_pos hi,hk]
theorem na {c:Chains} (h0:j6 c=0) {ch:Nat→Int}:Turned c (M9 c (bo (O4 (i6 c.reg c.lets) (nums c.reg) c.of 6)) ch (nums c.reg).length):=by
 have hOk:=mV h0
 have hll:c.lets.length=(nums c.reg).length:=by
  have:=hOk.lets
  simp only[m4,Bool.and_eq_true,decide_eq_true_eq] at this;exact this.1
 have hnd:(nums c.reg).Nodup:=(A5 hOk.reg).1.imp fun h=>Int.ne_of_lt h
 refine⟨iE _ _ _ _,fun k n hk hu=>?_,fun k n lt hk hl=>?_⟩
 ·have hkl:=e7 hk
  rw[qA hk (by omega) hkl,if_pos hu]
  exact(List.getElem?_eq_getElem (by omega)).symm
 ·have hkl:=e7 hk
  have hkl2:k<c.lets.length:=by omega
  rw[qA hk hkl2 hkl] at hl
  have hl:=Option.some.inj hl
  obtain⟨t1,t2,k',lt',e1,e2,e3⟩:=B2 hOk.reg hOk.lets (List.mem_of_getElem? hk)
  obtain rfl:k'=k:=(List.getElem?_inj (e7 e1) hnd).1 (e1.trans hk.symm)
  have hf:=(L8 hOk.reg n lt').1 (by rw[e3];rfl)
  have e2:c.lets[k']=lt':=by rw[List.getElem?_eq_getElem hkl2] at e2;exact Option.some.inj e2
  split at hl
  ·rw[← hl,e2];exact hf
  ·have h1:=Int.emod_nonneg (ch k') (show s9 c.reg n≠0 by omega)
   have h2:=Int.emod_lt_of_pos (ch k') (show 0<s9 c.reg n by omega)
   omega
structure Wider (c Y:Chains) (k:Nat) (x:ChLoop) (a b:Int):Prop where
 chE:j6 Y=0
 small:r7 Y
 closes:∀ so g,aH c so g=true→aH Y so g=true
 spots:m5 Y=m5 c
 loose:s8 Y=s8 c
 lo:A0 Y (k:Int)=0∧kN Y k=kN c k∧kO Y k=kO c k∧bb Y k=if a≤kN c k∧kO c k≤b then 2 else if kO c k<a∨b<kN c k then 0 else 1
variable {G:Cr}
attribute [simp] p9 dO F1 U3 A1 C3 nilV N6 ZK
attribute [simp] p9 dO F1 U3 A1 C3 nilV N6 ZK
@[simp] def dT (n:Int):DV:=.one (.im (.raw (.int .u16 n)))
attribute [simp] p9 dO F1 U3 A1 C3 nilV N6 ZK
attribute [simp] p9 dO F1 U3 A1 C3 nilV N6 ZK
attribute [simp] p9 dO F1 U3 A1 C3 nilV N6 ZK
attribute [simp] p9 dO F1 U3 A1 C3 nilV N6 ZK
open Go Go.Ab Tryz
attribute [simp] p9 dO F1 U3 A1 C3 nilV N6 ZK Aa
def Af (g:Nat) (c:Chains):List DC:=[.im (.sl (c.reg.map e8)),.vec 5 1 0 c.lets.length,.im (rI c.of),.vec 8 g 0 c.loops.length]
def Bg (m:Nat×Nat×Bool) (c:Chains):List DObj:=[.row ((u7 c).map .im),.vec 0 [] 0 true,.vec 0 [] 0 true,.vec 0 [] 0 true,.row (Af m.1 c),.vec 1 (p6 (c.lets.map Ab.encI)) 1 false,.vec 0 [] 0 true,.vec 0 [] 0 true,.vec m.2.1 (p6 (c.loops.map j9)) m.1 m.2.2,.row (Af m.1 c)]
def zJ (c:Chains) (d:DV) (o:List DObj):Prop:=∃ m:Nat×Nat×Bool,True∧d=.agg (Af m.1 c)∧o=Bg m c
theorem wv (c:Chains) (hs:jS c):DCall prog G 19 [M7 c] [] (zJ c):=by
 refine j5 func19 rfl ntmps19 (by simp) rfl ?_
 have c1:=yq (G:=G) c.reg hs.1
 have hl:=hs.2.2.1
 have hl2:=hs.2.1
 have hs:=trivial
 repeat' first|(with_reducible first|refine zz ?_|refine And.intro (by omega) ?_)|simp -dsimp[hs]|refine zq c1 ?_|refine oJ (id:=1) (nt:=43) [0,1,2,4,5,7,8,10,3,6,9,11] 8 [([0,1,2,3,4,5,6,7],[0,1,2,4,19]),([5,6,7],[0,1,2,4,7,8,10,19]),([7],[0,1,2,4,7,11,13,19])] [0,1,2,3,4,19] mixed rfl (by kernel_rfl) (by kernel_rfl) ?_|with_reducible refine zE [0,1,2,3,4,19] ?_
 all_goals try clear hs
 refine i7 (ι:={ p:Nat×Nat×Nat×Bool // p.1≤c.loops.length∧(p.2.2.1=3∨p.2.2.2=true∧p.1=0) }) (fun p=>⟨43,[(1,.one (.ptr 0 0)),(2,.one (.ptr 4 0)),(3,.one (.ptr 9 0)),(4,iv (p.1.1:Int))],[.row ((u7 c).map .im),.vec 0 [] 0 true,.vec 0 [] 0 true,.vec 0 [] 0 true,.row [.vec 1 0 0 0,.vec 2 0 0 0,.im (rI 0),.vec 3 0 0 0],.vec 1 (p6 (c.lets.map Ab.encI)) 1 false,.vec 0 [] 0 true,.vec 0 [] 0 true,.vec p.1.2.2.1 (p6 ((c.loops.take p.1.1).map j9)) p.1.2.1 p.1.2.2.2,.row [.im (.sl (c.reg.map e8)),.vec 5 1 0 c.lets.length,.im (rI c.of),.vec 8 p.1.2.1 0 p.1.1]]⟩) (fun p=>c.loops.length-p.1.1) ⟨(0,0,0,true),by simp⟩ (zv [1,2,3,4] (by simp[M7])) ?_
 rintro⟨⟨k,g,sz,nl⟩,hk,hz⟩
 simp only at hk hz
 simp only[iv]
 have htk:(p6 ((c.loops.map j9).take k)).take k=p6 ((c.loops.map j9).take k):=List.take_of_length_le (by simp[o3];omega)
 by_cases hlt:k<c.loops.length
 ·have hx:c.loops[k]?=some c.loops[k]:=by simp[hlt]
  have hw:=zk k
  have hmin:min k c.loops.length=k:=Nat.min_eq_left (by omega)
  have hln:=hs.2.2.2 c.loops[k] (List.getElem_mem hlt)
  have hsn:(c.loops.map j9).take (k+1)=(c.loops.map j9).take k++[j9 c.loops[k]]:=by
   rw[List.take_add_one];simp[hx]
  have hz2:sz=3∨nl=true:=hz.imp id And.left
  have hs:=za hx (za hw (za hlt (za hz2 hmin)))
  repeat' first|(with_reducible first|refine zz ?_|refine And.intro (by omega) ?_)|simp -dsimp[hs]|refine zM 5 43 18 [0,1,2,3,4,19] ?_|with_reducible refine zE [0,1,2,3,4,19] ?_|refine j7 ?_ ?_<;>intro h<;>try simp only[j0] at h
  all_goals try clear hs
  all_goals try omega
  exact zn ⟨(k+1,g+1,3,false),by simp;omega⟩ (zw [1,2,3,4] 10 (by simp[hsn,htk,aU]))
 ·have hkl:k=c.loops.length:=by omega
  subst hkl
  have hall:(c.loops.map j9).take c.loops.length=c.loops.map j9:=List.take_of_length_le (by simp)
  rw[hall] at htk
  have hs:=za hall htk
  repeat' first|(with_reducible first|refine zz ?_|refine zr ?_|refine zE [0,1,2,3,4,19] ?_)|simp -dsimp[hs]|refine j7 ?_ ?_<;>intro h<;>try simp only[j0] at h
  all_goals try clear hs
  all_goals exact⟨(g,sz,nl),trivial,rfl,rfl⟩
theorem ww (c:Chains) (hs:jS c):DCall prog G 19 [M7 c] [] (fun d o=>∃ m:Nat×Nat×Bool,True∧d=.agg (Af m.1 c)∧o=Bg m c):=wv c hs
end Go.Proofs
