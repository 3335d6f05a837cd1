/- Part 21 of the proofs. -/
import Derived.Test.YtpcoahkgkgmmlaaGreatDoorS10
import Derived.Test.YtpcoahkgkgmmlaaGreatDoorS15
import Derived.Test.YtpcoahkgkgmmlaaGreatDoorS16
import Derived.Test.YtpcoahkgkgmmlaaGreatDoorS19
set_option linter.all false
set_option linter.deprecated false
set_option maxHeartbeats 100000000
namespace Go.Proofs
open Go Go.Ab
theorem oA {H:Type} {enc:TypeId×Value→H} {P:Program} {w:World} {base:Nat} {sp:Nat→Bool} {held:Bool} {fuel:Nat} {t:TypeId} {ps rs:Array TypeId} {va:Bool} {v:Value} {q:List MemPlace}
 (ht:P.underlying t=some (.func ps rs va)) (h:DataW.trod enc P w base sp held fuel t [v]=some (.nil,q)):v=.nilFunc:=by
 cases fuel with
 | zero=>simp[DataW.trod] at h
 | succ n=>cases v<;>simp[DataW.trod,ht] at h<;>rfl
theorem gG {P:Program} {W:World} {e ti ts tf m:Nat} {f0 f1 f2 f3:Field} {v0 v1 v2 v3:Value} {d0 d1 d2 d3:DataW (List UInt8)} {q:List MemPlace} (hte:P.underlying e=some (.struct #[f0,f1,f2,f3])) (h0:f0.offset=0∧f0.type=ti) (h1:f1.offset=1∧f1.type=ti) (h2:f2.offset=2∧f2.type=ts) (h3:f3.offset=3∧f3.type=tf)
 (hci:P.cellsOf ti=1) (hcs:P.cellsOf ts=1) (hcf:P.cellsOf tf=1) (hi:P.underlying ti=some (.int .i64)) (hs:P.underlying ts=some .string) (h:DataW.trod (funcToken P) P W 0 (fun _=>true) true m e [v0,v1,v2,v3]=some (.agg [d0,d1,d2,d3],q)) :
 (∃ n,v0=.int .i64 n∧d0=.lit (.int .i64 n))∧(∃ n,v1=.int .i64 n∧d1=.lit (.int .i64 n))∧(∃ s:ByteArray,v2=.string s∧d2=.lit (.string s.data.toList))∧∃ k q',DataW.trod (funcToken P) P W 0 (fun _=>true) true k tf [v3]=some (d3,q'):=by
 obtain⟨xs,n,_,ex,_,hxl,hel⟩:=DataW.trod_struct hte h
 have ex1:=(Prod.mk.inj ex).1
 obtain⟨x0,x1,x2,x3,rfl⟩:=Ca (by simpa using hxl:xs.length=4)
 simp only[List.map_cons,List.map_nil,DataW.agg.injEq,List.cons.injEq,and_true] at ex1
 obtain⟨rfl,rfl,rfl,rfl⟩:=ex1
 have e0:=hel 0 f0 rfl
 have e1:=hel 1 f1 rfl
 have e2:=hel 2 f2 rfl
 have e3:=hel 3 f3 rfl
 rw[h0.1,h0.2,hci] at e0
 rw[h1.1,h1.2,hci] at e1
 rw[h2.1,h2.2,hcs] at e2
 rw[h3.1,h3.2,hcf] at e3
 simp only[List.drop_zero,List.drop_succ_cons,List.take_succ_cons,List.take_zero,List.getElem?_cons_zero,List.getElem?_cons_succ] at e0 e1 e2 e3
 obtain⟨n0,a0,b0,_⟩:=DataW.trod_int hi e0
 obtain⟨n1,a1,b1,_⟩:=DataW.trod_int hi e1
 obtain⟨s,a2,b2,_⟩:=DataW.trod_string hs e2
 refine⟨⟨n0,by simpa using a0,by rw[b0]⟩,⟨n1,by simpa using a1,by rw[b1]⟩,⟨s,by simpa using a2,by rw[b2]⟩,n,x3.2,e3⟩
theorem kY {s:ByteArray} {l:List UInt8} (h:(DataW.lit (.string l):DataW (List UInt8))=.lit (.string s.data.toList)):s=⟨⟨l⟩⟩:=by
 cases s with
 | mk d=>cases d with
   | mk t=>simp at h;rw[h]
theorem Cb {α:Type} {l:List α} (h:l.length=12):∃ a b c d e f g i j k m n,l=[a,b,c,d,e,f,g,i,j,k,m,n]:=by
 match l,h with
 | [a,b,c,d,e,f,g,i,j,k,m,n],_=>exact⟨a,b,c,d,e,f,g,i,j,k,m,n,rfl⟩
def dx (f:FuncId):List Value:=[.int .i64 0,.int .i64 0,.string ⟨⟨[]⟩⟩,.nilFunc,.int .i64 100,.int .i64 3,.string ⟨⟨[109,109]⟩⟩,.func (.func f) #[] #[],.int .i64 254,.int .i64 4,.string ⟨⟨[105,110]⟩⟩,.func (.func f) #[] #[]]
def ji (f:FuncId):List IC:=[rI 0,rI 0,.raw (.string ⟨⟨[]⟩⟩),.raw .nilFunc,rI 100,rI 3,.raw (.string ⟨⟨[109,109]⟩⟩),.fn (.func f) [],rI 254,rI 4,.raw (.string ⟨⟨[105,110]⟩⟩),.fn (.func f) []]
theorem nQ {P:Program} {W:World} {t e ti ts tf fuel:Nat} {f0 f1 f2 f3:Field} {ps rs:Array TypeId} {cs:Array Value} {p:List MemPlace} {b:UInt8} {r:List UInt8} {f:FuncId} (ht:P.underlying t=some (.array 3 e)) (hct:P.cellsOf t=12) (hce:P.cellsOf e=4) (hte:P.underlying e=some (.struct #[f0,f1,f2,f3])) (h0:f0.offset=0∧f0.type=ti) (h1:f1.offset=1∧f1.type=ti) (h2:f2.offset=2∧f2.type=ts) (h3:f3.offset=3∧f3.type=tf)
 (hci:P.cellsOf ti=1) (hcs:P.cellsOf ts=1) (hcf:P.cellsOf tf=1) (hi:P.underlying ti=some (.int .i64)) (hs:P.underlying ts=some .string) (hu:P.underlying tf=some (.func ps rs false)) (hone:((List.range P.funcs.size).filter fun f=>(P.funcs[f]?).any (·.name.toUTF8.data.toList==b :: r))=[f])
 (h:DataW.trod (funcToken P) P W 0 (fun _=>true) true fuel t cs.toList=some (.agg [.agg [.lit (.int .i64 0),.lit (.int .i64 0),.lit (.string []),.nil],.agg [.lit (.int .i64 100),.lit (.int .i64 3),.lit (.string [109,109]),.held (b :: r)],.agg [.lit (.int .i64 254),.lit (.int .i64 4),.lit (.string [105,110]),.held (b :: r)]],p)):cs.toList=dx f:=by
 obtain⟨xs,m,_,ex,hlen,hxl,hel⟩:=DataW.trod_array ht h
 rw[hct] at hlen
 obtain⟨v0,v1,v2,v3,v4,v5,v6,v7,v8,v9,v10,v11,hv⟩:=Cb hlen
 rw[hv] at hel ⊢
 obtain⟨x0,x1,x2,rfl⟩:=AE hxl
 have ex1:=(Prod.mk.inj ex).1
 simp only[List.map_cons,List.map_nil,DataW.agg.injEq,List.cons.injEq,and_true] at ex1
 obtain⟨q0,q1,q2⟩:=ex1
 have e0:=hel 0 (by omega)
 have e1:=hel 1 (by omega)
 have e2:=hel 2 (by omega)
 rw[hce] at e0 e1 e2
 simp only[Nat.zero_mul,Nat.one_mul,Nat.reduceMul,List.drop_zero,List.drop_succ_cons,List.take_succ_cons,List.take_zero,List.getElem?_cons_zero,List.getElem?_cons_succ] at e0 e1 e2
 obtain⟨⟨n0,rfl,k0⟩,⟨n1,rfl,k1⟩,⟨s0,rfl,k2⟩,_,_,k3⟩:=gG hte h0 h1 h2 h3 hci hcs hcf hi hs (e0.trans (by rw[show x0=(x0.1,x0.2) from rfl,← q0]))
 obtain⟨⟨n2,rfl,k4⟩,⟨n3,rfl,k5⟩,⟨s1,rfl,k6⟩,_,_,k7⟩:=gG hte h0 h1 h2 h3 hci hcs hcf hi hs (e1.trans (by rw[show x1=(x1.1,x1.2) from rfl,← q1]))
 obtain⟨⟨n4,rfl,k8⟩,⟨n5,rfl,k9⟩,⟨s2,rfl,k10⟩,_,_,k11⟩:=gG hte h0 h1 h2 h3 hci hcs hcf hi hs (e2.trans (by rw[show x2=(x2.1,x2.2) from rfl,← q2]))
 rw[kY k2,kY k6,kY k10,oA hu k3,func_of_trod hu hone k7,func_of_trod hu hone k11]
 simp only[DataW.lit.injEq,Lit.int.injEq,true_and] at k0 k1 k4 k5 k8 k9
 subst k0 k1 k4 k5 k8 k9
 rfl
theorem td {W:World} {g:Nat} {f:FuncId} (h:∀ (j:Nat) (v:Value),(dx f)[j]?=some v→W.cell? ⟨g,j,.none⟩=some v):RepI W (uU W) (.ip (ji f)) (.pointer (some ⟨g,0,.none⟩)):=by
 have hb:g<W.heap.size:=bb (a:=⟨g,0,.none⟩) (h 0 _ rfl)
 refine .ip _ _ (fun j=>((dx f)[j]?).getD undef) rfl hb (fun j c hj=>?_) (fun j c hj=>?_)
 ·have hl:=g9 hj
  have hl':j<(dx f).length:=hl
  have hv:=List.getElem?_eq_getElem hl'
  rw[hv,Option.getD_some]
  simpa using h j _ hv
 ·have hl:=g9 hj
  have hl':j<12:=hl
  have hfn:RepI W (uU W) (.fn (.func f) []) (.func (.func f) #[] #[]):=RepI.fn (w:=W) (ok:=uU W) (.func f) [] #[] rfl (fun j c v h=>by simp at h)
  rcases j with _|_|_|_|_|_|_|_|_|_|_|_|j<;>first|omega|(simp[ji,dx,rI] at hj ⊢;subst hj;first|exact hfn|exact .raw _ rfl)
theorem Dy:Opens Tryz.prog 30 (fun l=>∃ xs:List Int,(∀ n∈xs,0≤n∧n≤4294967295)∧l=[.sl (xs.map Dl)]):=
 Opens.sliceOf Tryz.underlying30 (sz:=1) (by kernel_rfl) (by decide) (fun _=>rfl) ((Opens.int Tryz.underlying119).mono (by
  rintro l ⟨n,hn,rfl⟩
  exact⟨n,by simpa[IntKind.min,IntKind.max,IntKind.signed,IntKind.bits] using hn,rfl⟩))
theorem xD (G:Es) (h:G 2=some (ji 212)):aE G (.raw (.string ⟨⟨[]⟩⟩)) (.raw (.string ⟨⟨[109,109]⟩⟩)) (.raw (.string ⟨⟨[105,110]⟩⟩)):=h
theorem Ak:Rd 38 m6 (fun _=>True):=(Opens.struct Tryz.underlying38 (by kernel_rfl) (fun _ l=>∃ n:Int,l=[rI n]) (fun i f hf=>by
 rcases i with _|_|i<;>simp at hf<;>subst hf<;>exact oInt)).mono (by
 rintro l ⟨ls,h1,h2,rfl⟩
 obtain⟨a,b,rfl⟩:=yb h1
 obtain⟨x,rfl⟩:=h2 0 a rfl
 obtain⟨y,rfl⟩:=h2 1 b rfl
 exact⟨⟨x,y⟩,trivial,rfl⟩)
theorem As:Opens Tryz.prog 33 (fun l=>∃ xs:List Spot,l=[.sl (xs.map m6)]):=
 (Opens.sliceOf Tryz.underlying33 (sz:=2) (by kernel_rfl) (by decide) (fun _=>rfl) Ak).mono (by rintro l ⟨xs,_,h⟩;exact⟨xs,h⟩)
def pre (p:Option Issue) (x:Issue):List Int:=match p with|some y=>if y.drawing=x.drawing then [] else [x.drawing]|none=>[x.drawing]
def good (p:Option Issue) (x:Issue):Prop:=o8 x=true∧match p with|some y=>y.drawing=x.drawing∧y.letter+1=x.letter∧y.kind=x.kind∨y.drawing<x.drawing∧x.letter=1|none=>x.letter=1
theorem lQ {p:Option Issue} {x:Issue} {r:List Issue} (h:good p x):o3 p (x :: r)=(o3 (some x) r).map (pre p x ++ ·):=by
 obtain⟨h1,h2⟩:=h
 cases p with
 | none=>simp only at h2;simp[o3,h1,h2,pre]
 | some y =>
   simp only at h2
   rcases h2 with⟨a,b,c⟩|⟨a,b⟩
   ·simp[o3,h1,a,b,c,pre]
   ·have h3:¬ y.drawing=x.drawing:=by omega
    have h4:¬ y.drawing > x.drawing:=by omega
    simp[o3,h1,h3,h4,b,pre]
theorem scan_iff {p:Option Issue} {x:Issue} {r:List Issue} {ds:List Int}:o3 p (x :: r)=some ds↔good p x∧∃ ds',o3 (some x) r=some ds'∧ds=pre p x++ds':=by
 constructor
 ·intro h
  have hg:good p x:=by
   have hs:(o3 p (x :: r)).isSome=true:=by rw[h];rfl
   cases p with
   | none=>exact((dE x r).1 hs).1
   | some y=>exact((dD y x r).1 hs).1
  rw[lQ hg,Option.map_eq_some_iff] at h
  obtain⟨ds',h1,h2⟩:=h
  exact⟨hg,ds',h1,h2.symm⟩
 ·rintro⟨hg,ds',h1,rfl⟩
  rw[lQ hg,h1];rfl
theorem lP:∀ (l:List Issue) (p:Option Issue) (ds:List Int),o3 p l=some ds→(∀ y,p=some y→∀ a∈l,a.drawing=y.drawing→a.kind=y.kind)∧∀ a∈l,∀ b∈l,a.drawing=b.drawing→a.kind=b.kind
 | [],p,ds,_=>by simp
 | x :: r,p,ds,h=>by
   obtain⟨hg,ds',h1,_⟩:=scan_iff.1 h
   obtain⟨i1,i2⟩:=lP r (some x) ds' h1
   have i1:=i1 x rfl
   have hsp:=(bn r (some x) ds' h1).2.2.1 x rfl
   refine⟨fun y hy a ha hd=>?_,fun a ha b hb hd=>?_⟩
   ·subst hy
    rcases hg.2 with⟨e1,_,e3⟩|⟨e1,_⟩
    ·rcases List.mem_cons.1 ha with rfl|ha
     ·exact e3.symm
     ·rw[i1 a ha (by omega),e3]
    ·rcases List.mem_cons.1 ha with rfl|ha
     ·omega
     ·have:=hsp a ha;omega
   ·rcases List.mem_cons.1 ha with ea|ha'<;>rcases List.mem_cons.1 hb with eb|hb'
    ·rw[ea,eb]
    ·rw[ea] at hd ⊢;exact(i1 b hb' hd.symm).symm
    ·rw[eb] at hd ⊢;exact i1 a ha' hd
    ·exact i2 a ha' b hb' hd
def jd (N:Int→List Issue):List Issue→List Issue
 | []=>[]
 | [x]=>x :: N x.drawing
 | x :: y :: r=>if x.drawing=y.drawing then x :: jd N (y :: r) else x :: (N x.drawing++jd N (y :: r))
theorem ua (N:Int→List Issue) (y:Issue) (r:List Issue):∃ s,jd N (y :: r)=y :: s:=by
 cases r with
 | nil=>exact⟨_,rfl⟩
 | cons z r =>
   rw[jd];split
   ·exact⟨_,rfl⟩
   ·exact⟨_,rfl⟩
theorem ta {x z y:Issue} {s:List Issue} (h1:z.drawing=x.drawing) (h2:x.drawing<y.drawing):o3 (some z) (y :: s)=o3 (some x) (y :: s):=by
 have n1:¬ z.drawing=y.drawing:=by omega
 have n2:¬ x.drawing=y.drawing:=by omega
 have n3:¬ z.drawing > y.drawing:=by omega
 have n4:¬ x.drawing > y.drawing:=by omega
 simp only[o3,n1,n2,n3,n4,if_false]
theorem nZ {N:Int→List Issue} (hN1:∀ d,(N d).length≤1):∀ (l:List Issue) (p:Option Issue) (ds:List Int),o3 p l=some ds→(∀ y,p=some y→0≤y.letter) →
 (∀ x∈l,∀ z∈N x.drawing,z.drawing=x.drawing∧o8 z=true∧z.kind=x.kind∧z.letter=gU p x.drawing+B6 l x.drawing+1)→o3 p (jd N l)=some ds
 | [],p,ds,h,_,_=>h
 | [x],p,ds,h,hp,hN=>by
   obtain⟨hg,ds',h1,h2⟩:=scan_iff.1 h
   have hds':ds'=[]:=by simpa[o3] using h1.symm
   subst hds'
   rw[jd,scan_iff]
   refine⟨hg,[],?_,h2⟩
   have hlen:=hN1 x.drawing
   have hNx:=hN x (by simp)
   cases hz:N x.drawing with
   | nil=>simp[o3]
   | cons z t =>
     rw[hz] at hlen hNx
     have ht:t=[]:=by cases t with|nil=>rfl|cons _ _=>simp at hlen
     subst ht
     obtain⟨z1,z2,z3,z4⟩:=hNx z (by simp)
     rw[dY,if_pos rfl] at z4
     have hx:x.letter=gU p x.drawing+1:=by
      have:=hg.2
      cases p with
      | none=>simpa[gU] using this
      | some y =>
        simp only at this
        rcases this with⟨a,b,_⟩|⟨a,b⟩
        ·simp only[gU,if_pos a];omega
        ·simp only[gU];rw[if_neg (by omega)];omega
     have:B6 [] x.drawing=0:=rfl
     rw[scan_iff]
     exact⟨⟨z2,.inl ⟨z1.symm,by omega,z3.symm⟩⟩,[],by simp[o3],by simp[pre,z1]⟩
 | x :: y :: r,p,ds,h,hp,hN=>by
   obtain⟨hg,ds',h1,h2⟩:=scan_iff.1 h
   have hkeys:=bo (x :: y :: r) p ds h hp
   have hx1:1≤x.letter:=(hkeys.2.2 x (by simp)).1
   have hx:x.letter=gU p x.drawing+1:=by
    have:=hg.2
    cases p with
    | none=>simpa[gU] using this
    | some y =>
      simp only at this
      rcases this with⟨a,b,_⟩|⟨a,b⟩
      ·simp only[gU,if_pos a];omega
      ·simp only[gU];rw[if_neg (by omega)];omega
   have ih:=nZ hN1 (y :: r) (some x) ds' h1 (fun y e=>by cases e;omega) (fun w hw z hz=>by
    obtain⟨z1,z2,z3,z4⟩:=hN w (List.mem_cons_of_mem _ hw) z hz
    refine⟨z1,z2,z3,?_⟩
    rw[z4,dY]
    have hxw:=(List.pairwise_cons.1 hkeys.2.1).1 w hw
    by_cases e:x.drawing=w.drawing
    ·rw[if_pos e,gU,if_pos e,← e,hx];omega
    ·rw[if_neg e,gU,if_neg e]
     have:gU p w.drawing=0:=by
      cases p with
      | none=>rfl
      | some y0 =>
        have h3:=hkeys.1 y0 rfl x (by simp)
        simp only[gU];rw[if_neg (by omega)]
     omega)
   obtain⟨s,hs⟩:=ua N y r
   rw[jd]
   split
   ·rw[scan_iff];exact⟨hg,ds',ih,h2⟩
   ·rename_i hxy
    have hlt:x.drawing<y.drawing:=by
     have:=(List.pairwise_cons.1 hkeys.2.1).1 y (by simp);omega
    have hlen:=hN1 x.drawing
    have hNx:=hN x (by simp)
    rw[scan_iff]
    refine⟨hg,ds',?_,h2⟩
    cases hz:N x.drawing with
    | nil=>exact ih
    | cons z t =>
      rw[hz] at hlen hNx
      have ht:t=[]:=by cases t with|nil=>rfl|cons _ _=>simp at hlen
      subst ht
      obtain⟨z1,z2,z3,z4⟩:=hNx z (by simp)
      have hc0:B6 (y :: r) x.drawing=0:=by
       unfold B6
       rw[List.filter_eq_nil_iff.2 fun w hw=>by
        have:=(List.pairwise_cons.1 hkeys.2.1).1 w hw
        have h4:=(bn (y :: r) (some x) ds' h1).2.1
        rw[List.map_cons,List.pairwise_cons] at h4
        rcases List.mem_cons.1 hw with rfl|hw
        ·simp;omega
        ·have:=h4.1 w.drawing (List.mem_map.2 ⟨w,hw,rfl⟩);simp;omega]
       rfl
      rw[dY,if_pos rfl,hc0] at z4
      show o3 (some x) (z :: jd N (y :: r))=some ds'
      rw[scan_iff]
      refine⟨⟨z2,.inl ⟨z1.symm,by omega,z3.symm⟩⟩,ds',?_,by simp[pre,z1]⟩
      rw[hs,ta z1 hlt,← hs];exact ih
def dd:List Issue→List Int
 | []=>[]
 | [x]=>[x.drawing]
 | x :: y :: r=>if x.drawing=y.drawing then dd (y :: r) else x.drawing :: dd (y :: r)
theorem mw (N:Int→List Issue):∀ l,(jd N l).Perm (l++(dd l).flatMap N)
 | []=>.refl _
 | [x]=>by simp[jd,dd]
 | x :: y :: r=>by
   have ih:=mw N (y :: r)
   rw[jd,dd]
   split
   ·exact ih.cons x
   ·rw[List.flatMap_cons]
    refine List.Perm.cons x ?_
    refine((List.Perm.refl (N x.drawing)).append ih).trans ?_
    show (N x.drawing++((y :: r)++_)).Perm ((y :: r)++(N x.drawing++_))
    rw[← List.append_assoc,← List.append_assoc]
    exact(List.perm_append_comm).append_right _
theorem rX:∀ (l:List Issue) (p:Option Issue) (ds:List Int),o3 p l=some ds→dd l=match l with|[]=>ds|x :: _=>match p with|some y=>if y.drawing=x.drawing then x.drawing :: ds else ds|none=>ds
 | [],p,ds,h=>by
   have:ds=[]:=by cases p<;>simpa[o3] using h.symm
   subst this;rfl
 | [x],p,ds,h=>by
   obtain⟨hg,ds',h1,h2⟩:=scan_iff.1 h
   have hds':ds'=[]:=by simpa[o3] using h1.symm
   subst hds'
   rw[h2,dd]
   cases p with
   | none=>rfl
   | some y=>simp only[pre];split<;>rfl
 | x :: y :: r,p,ds,h=>by
   obtain⟨hg,ds',h1,h2⟩:=scan_iff.1 h
   have ih:=rX (y :: r) (some x) ds' h1
   simp only at ih
   rw[dd,h2]
   have key:(if x.drawing=y.drawing then dd (y :: r) else x.drawing :: dd (y :: r))=x.drawing :: ds':=by
    split
    ·rename_i e;rw[ih,if_pos e,e]
    ·rename_i e;rw[ih,if_neg e]
   rw[key]
   cases p with
   | none=>rfl
   | some z=>simp only[pre];split<;>rfl
theorem vz {l:List Issue} {ds:List Int} (h:o3 none l=some ds):dd l=ds:=by
 have:=rX l none ds h
 cases l with
 | nil=>exact this
 | cons x r=>exact this
theorem bK {l:List Issue} {ds:List Int} (h:o3 none l=some ds):D5 l:=by
 have:=(bo l none ds h (fun y e=>by cases e)).2.1
 refine this.imp fun {a b} h=>?_
 rw[K0];omega
theorem Ay {f g:Int→Int} {l l':List Int} (hfg:∀ c∈l,f c=g c) (h:∀ c,c∈l↔c∈l'):mx f l=mx g l':=by
 rw[oC hfg]
 exact Int.le_antisymm (kr (L9 _ _) fun c hc=>iK ((h c).1 hc)) (kr (L9 _ _) fun c hc=>iK ((h c).2 hc))
theorem xd {l l':List Issue} (h:∀ n c,c∈aN l n↔c∈aN l' n):∀ (k:Nat) (n:Int),Rr l k n=Rr l' k n
 | 0,_=>rfl
 | k+1,n=>by rw[Rr,Rr,Ay (fun c _=>xd h k c) (h n)]
theorem kC {tk tk':Int→Issue} (h:∀ n,(tk n).kind=(tk' n).kind∧(tk n).items=(tk' n).items):∀ (k:Nat) (d m:Int),C6 tk k d m=C6 tk' k d m
 | 0,_,_=>rfl
 | k+1,d,m=>by
   rw[C6,C6,(h d).1,(h d).2]
   simp only[kC h k]
def U8 (reg:List Issue) (B:List (Int×Issue)) (f:Issue→List Dim×Int) (n:Int):List Issue:=if (f (p4 B n)).1=(p4 B n).dims then [] else [K7 reg (p4 B n) n (f (p4 B n)).1]
theorem jD {reg:List Issue} {B:List (Int×Issue)} {f:Issue→List Dim×Int}:∀ (r:List Int) (i:Nat) (R:List Issue) (L:List Int),(R0 reg B f r i R L).2.2=0 →
 (∀ n∈r,(f (p4 B n)).2=0)∧(R0 reg B f r i R L).1=R++r.flatMap (U8 reg B f)∧(∀ j,j<i→(R0 reg B f r i R L).2.1[j]?=L[j]?) ∧
 ∀ (k:Nat) (n:Int),r[k]?=some n→i+k<L.length→(R0 reg B f r i R L).2.1[i+k]?=if (f (p4 B n)).1=(p4 B n).dims then L[i+k]? else some ((B6 reg n:Int)+1)
 | [],i,R,L,_=>by simp[R0]
 | n :: r,i,R,L,h=>by
   unfold R0 at h ⊢
   split at h
   ·rename_i h0;exact absurd h h0
   ·rename_i h0
    have h0:(f (p4 B n)).2=0:=Classical.byContradiction h0
    rw[if_neg (by simp[h0])]
    split at h
    ·rename_i he
     obtain⟨a,b,d,e⟩:=jD r (i+1) R L h
     rw[if_pos he]
     refine⟨fun m hm=>?_,?_,fun j hj=>d j (by omega),fun k m hk hl=>?_⟩
     ·rcases List.mem_cons.1 hm with rfl|hm
      ·exact h0
      ·exact a m hm
     ·rw[b,List.flatMap_cons,U8,if_pos he];simp
     ·cases k with
      | zero =>
        simp at hk;subst hk
        rw[if_pos he];exact d (i+0) (by omega)
      | succ k =>
        have:=e k m (by simpa using hk) (by omega)
        rw[show i+(k+1)=i+1+k by omega];exact this
    ·rename_i he
     obtain⟨a,b,d,e⟩:=jD r (i+1) _ _ h
     rw[if_neg he]
     refine⟨fun m hm=>?_,?_,fun j hj=>?_,fun k m hk hl=>?_⟩
     ·rcases List.mem_cons.1 hm with rfl|hm
      ·exact h0
      ·exact a m hm
     ·rw[b,List.flatMap_cons]
      have:U8 reg B f n=[K7 reg (p4 B n) n (f (p4 B n)).1]:=by rw[U8,if_neg he]
      rw[this];simp
     ·rw[d j (by omega),List.getElem?_set_ne (by omega)]
     ·cases k with
      | zero =>
        simp at hk;subst hk
        rw[if_neg he,d (i+0) (by omega),Nat.add_zero,List.getElem?_set_self (by omega)]
      | succ k =>
        have:=e k m (by simpa using hk) (by rw[List.length_set];omega)
        rw[show i+(k+1)=i+1+k by omega,this,List.getElem?_set_ne (by omega)]
def CL (c:Chains) (f:Issue→List Dim×Int):Prop:=∀ n∈nums c.reg,(f (j8 c.reg c.lets n)).2=0→(f (j8 c.reg c.lets n)).1.length=(j8 c.reg c.lets n).dims.length∧∀ d∈(f (j8 c.reg c.lets n)).1,D8 d=true
def kq (c:Chains) (f:Issue→List Dim×Int) (n:Int):Issue:=if (f (j8 c.reg c.lets n)).1=(j8 c.reg c.lets n).dims then j8 c.reg c.lets n else K7 c.reg (j8 c.reg c.lets n) n (f (j8 c.reg c.lets n)).1
theorem jo (c:Chains) (f:Issue→List Dim×Int) (n:Int):(kq c f n).kind=(j8 c.reg c.lets n).kind∧(kq c f n).items=(j8 c.reg c.lets n).items∧(kq c f n).drawing=(j8 c.reg c.lets n).drawing∧(kq c f n).dims=(f (j8 c.reg c.lets n)).1:=by
 unfold kq;split
 ·rename_i h;exact⟨rfl,rfl,rfl,h.symm⟩
 ·exact⟨rfl,rfl,rfl,rfl⟩
theorem V2 (x:Issue):o8 x=true↔(1≤x.drawing∧x.drawing≤9999∧1≤x.letter∧x.letter≤8∧(x.kind=1∧1≤x.items.length∧x.items.length≤8∧x.dims.length=0∨2≤x.kind∧x.kind≤3∧x.dims.length≤4∧x.items.length=0))∧F4 x.drawing 0 x.items=true∧∀ d∈x.dims,D8 d=true:=by
 rw[o8,Bool.and_eq_true,Bool.and_eq_true,bF,List.all_eq_true,and_assoc]
theorem sB {l:List Issue} {n c:Int}:c∈aN l n↔∃ x∈l,x.drawing=n∧∃ y∈x.items,y.drawing=c:=by
 simp only[aN,cw,List.mem_flatMap,List.mem_filter,decide_eq_true_eq,List.mem_map,and_assoc]
theorem lM {l:List Issue} {lets:List Int} {n:Int} (h:o6 l=0) (hn:n∉nums l):j8 l lets n=R6:=by
 have:A1 l n ((lets[(idx (nums l) n).toNat]?).getD 0)=none:=by
  rw[A1,List.find?_eq_none]
  intro x hx
  have:=(u4 h).2 x hx
  simp only[Bool.and_eq_true,beq_iff_eq,not_and]
  intro e;subst e;exact absurd this hn
 rw[j8,this];rfl
structure Changed (c:Chains) (f:Issue→List Dim×Int):Prop where
 reg:o6 (l9 c f).reg=0
 nums:nums (l9 c f).reg=nums c.reg
 mem:∀ x,x∈(l9 c f).reg↔x∈c.reg∨∃ n∈Go.Proofs.nums c.reg,(f (j8 c.reg c.lets n)).1≠(j8 c.reg c.lets n).dims∧x=K7 c.reg (j8 c.reg c.lets n) n (f (j8 c.reg c.lets n)).1
 len:(l9 c f).reg.length=c.reg.length+((Go.Proofs.nums c.reg).filter fun n=>decide ((f (j8 c.reg c.lets n)).1≠(j8 c.reg c.lets n).dims)).length
 letl:(l9 c f).lets.length=c.lets.length
 letAt:∀ (k:Nat) (n:Int),(Go.Proofs.nums c.reg)[k]?=some n→(l9 c f).lets[k]?=if (f (j8 c.reg c.lets n)).1=(j8 c.reg c.lets n).dims then c.lets[k]? else some ((B6 c.reg n:Int)+1)
 lets:o5 (l9 c f).reg (l9 c f).lets=true
 take:∀ n∈Go.Proofs.nums c.reg,j8 (l9 c f).reg (l9 c f).lets n=kq c f n
 err:∀ n∈Go.Proofs.nums c.reg,(f (j8 c.reg c.lets n)).2=0
 chE:p7 (l9 c f)=0
 ok:OkC (l9 c f)
 small:w9 (l9 c f)
 smallG:ay (l9 c f)
theorem iU {c:Chains} {f:Issue→List Dim×Int} (h0:p7 c=0) (hsm:w9 c) (hf:CL c f) (hE:A0 c f=0):Changed c f:=by
 have hOk:=vO h0
 have hB:∀ n∈nums c.reg,p4 (C9 c.reg c.lets) n=j8 c.reg c.lets n:=fun n hn=>by rw[C9,F9,if_pos hn]
 have hgo:=kX f hOk hsm
 have hE1:(D3 c f).2.2=0:=Classical.byContradiction fun h=>by rw[A0,if_pos h] at hE;exact h hE
 have hE2:¬ (60<(D3 c f).1.length∨((D3 c f).2.1.any fun n=>decide (8<n))=true):=fun h=>by
  rw[A0,if_neg (by simp[hE1]),if_pos h] at hE;cases hE
 obtain⟨g1,g2,_,g4⟩:=jD (nums c.reg) 0 c.reg c.lets hE1
 have hll:c.lets.length=(nums c.reg).length:=by
  have:=hOk.lets
  simp only[o5,Bool.and_eq_true,decide_eq_true_eq] at this;exact this.1
 have g1':∀ n∈nums c.reg,(f (j8 c.reg c.lets n)).2=0:=fun n hn=>by have:=g1 n hn;rwa [hB n hn] at this
 have hfo:=fun n hn=>hf n hn (g1' n hn)
 have hletAt:∀ (k:Nat) (n:Int),(nums c.reg)[k]?=some n→(l9 c f).lets[k]?=if (f (j8 c.reg c.lets n)).1=(j8 c.reg c.lets n).dims then c.lets[k]? else some ((B6 c.reg n:Int)+1):=fun k n hk=>by
  have:=g4 k n hk (by have:=g9 hk;omega)
  rw[hB n (List.mem_of_getElem? hk),Nat.zero_add] at this
  exact this
 have hNmem:∀ n∈nums c.reg,∀ z,z∈U8 c.reg (C9 c.reg c.lets) f n↔(f (j8 c.reg c.lets n)).1≠(j8 c.reg c.lets n).dims∧z=K7 c.reg (j8 c.reg c.lets n) n (f (j8 c.reg c.lets n)).1:=fun n hn z=>by
  rw[U8,hB n hn];split
  ·rename_i h;simp[h]
  ·rename_i h;simp[h]
 have hN1:∀ d,(U8 c.reg (C9 c.reg c.lets) f d).length≤1:=fun d=>by rw[U8];split<;>simp
 have hscan:=x6 (r9 hOk.reg)
 have hnd:(nums c.reg).Nodup:=(u4 hOk.reg).1.imp fun h=>Int.ne_of_lt h
 have hlet8:∀ n∈nums c.reg,(f (j8 c.reg c.lets n)).1≠(j8 c.reg c.lets n).dims→(B6 c.reg n:Int)+1≤8:=fun n hn hne=>by
  obtain⟨k,hk⟩:=List.mem_iff_getElem?.1 hn
  have h1:=hletAt k n hk
  rw[if_neg hne] at h1
  refine Classical.byContradiction fun hgt=>hE2 (.inr ?_)
  rw[List.any_eq_true]
  exact⟨_,List.mem_of_getElem? h1,by simp;omega⟩
 have hTk:=fun n hn=>A7 hOk.reg hOk.lets (d:=n) hn
 have hokI:=(F1 hscan).2.2.2.1
 have hNok:∀ x∈c.reg,∀ z∈U8 c.reg (C9 c.reg c.lets) f x.drawing,z.drawing=x.drawing∧o8 z=true∧z.kind=x.kind∧z.letter=gU none x.drawing+B6 c.reg x.drawing+1:=fun x hx z hz=>by
  have hn:=(u4 hOk.reg).2 x hx
  obtain⟨hne,rfl⟩:=(hNmem _ hn z).1 hz
  obtain⟨t1,t2,_⟩:=hTk _ hn
  have t3:=(V2 _).1 (hokI _ t1)
  have t4:=hfo _ hn
  have t5:=hlet8 _ hn hne
  have tk:=(lP c.reg none _ hscan).2 _ t1 x hx t2
  generalize j8 c.reg c.lets x.drawing=T at *
  refine⟨t2,(V2 _).2 ?_,tk,by simp[K7,gU]⟩
  simp only[K7]
  exact⟨⟨t3.1.1,t3.1.2.1,by omega,t5,by have:=t3.1.2.2.2.2;rw[t4.1];exact this⟩,t3.2.1,t4.2⟩
 have hext:=nZ hN1 c.reg none _ hscan (fun y e=>by cases e) hNok
 have hperm:=mw (U8 c.reg (C9 c.reg c.lets) f) c.reg
 rw[vz hscan] at hperm
 have hraw:(D3 c f).1=c.reg++(nums c.reg).flatMap (U8 c.reg (C9 c.reg c.lets) f):=g2
 have hreg:(l9 c f).reg=jd (U8 c.reg (C9 c.reg c.lets) f) c.reg:=by
  show x5 _=_
  rw[hraw]
  refine(I5 hperm ?_ (bK hext)).symm
  rw[← hraw];exact hgo.2.1
 have hperm':(l9 c f).reg.Perm (c.reg++(nums c.reg).flatMap (U8 c.reg (C9 c.reg c.lets) f)):=by rw[hreg];exact hperm
 rw[← hreg] at hext
 have hnums:nums (l9 c f).reg=nums c.reg:=(dC hext).symm
 have hmem:∀ x,x∈(l9 c f).reg↔x∈c.reg∨∃ n∈nums c.reg,(f (j8 c.reg c.lets n)).1≠(j8 c.reg c.lets n).dims∧x=K7 c.reg (j8 c.reg c.lets n) n (f (j8 c.reg c.lets n)).1:=fun x=>by
  rw[hperm'.mem_iff,List.mem_append,List.mem_flatMap]
  refine or_congr Iff.rfl (exists_congr fun n=>and_congr_right fun hn=>hNmem n hn x)
 have hfl:∀ ns:List Int,(∀ n∈ns,n∈nums c.reg)→(ns.flatMap (U8 c.reg (C9 c.reg c.lets) f)).length=(ns.filter fun n=>decide ((f (j8 c.reg c.lets n)).1≠(j8 c.reg c.lets n).dims)).length:=fun ns=>by
  induction ns with
  | nil=>intro _;rfl
  | cons n ns ih =>
    intro hns
    rw[List.flatMap_cons,List.length_append,ih fun m hm=>hns m (List.mem_cons_of_mem _ hm),U8,hB n (hns n (by simp)),List.filter_cons]
    by_cases h:(f (j8 c.reg c.lets n)).1=(j8 c.reg c.lets n).dims
    ·simp[h]
    ·simp[h];omega
 have hlen:(l9 c f).reg.length=c.reg.length+((nums c.reg).filter fun n=>decide ((f (j8 c.reg c.lets n)).1≠(j8 c.reg c.lets n).dims)).length:=by
  rw[hperm'.length_eq,List.length_append,hfl _ fun n hn=>hn]
 have hchI:∀ n d,d∈aN (l9 c f).reg n↔d∈aN c.reg n:=fun n d=>by
  rw[sB,sB]
  constructor
  ·rintro⟨x,hx,h1,h2⟩
   rcases (hmem x).1 hx with hx|⟨m,hm,_,rfl⟩
   ·exact⟨x,hx,h1,h2⟩
   ·obtain⟨t1,t2,_⟩:=hTk m hm
    exact⟨_,t1,h1,h2⟩
  ·rintro⟨x,hx,h1,h2⟩
   exact⟨x,(hmem x).2 (.inl hx),h1,h2⟩
 have hchk:o6 (l9 c f).reg=0:=by
  have hL:u6 (l9 c f).reg=true:=by
   have h1:=r9 hOk.reg
   simp only[u6,Bool.and_eq_true,decide_eq_true_eq] at h1 ⊢
   rw[hext,hnums]
   refine⟨⟨⟨⟨?_,?_⟩,rfl⟩,?_⟩,h1.2⟩
   ·rw[hlen];omega
   ·have:(l9 c f).reg.length=(D3 c f).1.length:=R8 _
    omega
   ·rw[List.all_eq_true]
    intro x hx
    have h2:=h1.1.2
    rw[List.all_eq_true] at h2
    rcases (hmem x).1 hx with hx|⟨m,hm,_,rfl⟩
    ·exact h2 x hx
    ·obtain⟨t1,t2,_⟩:=hTk m hm
     have h3:=h2 _ t1
     exact h3
  have hD:B5 (l9 c f).reg=B5 c.reg:=by
   rw[B5,B5,hnums]
   exact List.map_congr_left fun n _=>xd (fun n d=>hchI n d) _ n
  have h1:=hOk.reg
  rw[o6,if_neg (by simp[r9 hOk.reg])] at h1
  rw[o6,if_neg (by simp[hL]),hD];exact h1
 have hletl:(l9 c f).lets.length=c.lets.length:=hgo.2.2.2
 have hfind:∀ (k:Nat) (n lt:Int),(nums c.reg)[k]?=some n→(l9 c f).lets[k]?=some lt→kq c f n∈(l9 c f).reg∧(kq c f n).drawing=n∧(kq c f n).letter=lt:=fun k n lt hk hlt=>by
  have hn:=List.mem_of_getElem? hk
  obtain⟨t1,t2,k',lt',e1,e2,e3⟩:=hTk n hn
  obtain rfl:k'=k:=(List.getElem?_inj (g9 e1) hnd).1 (e1.trans hk.symm)
  have h1:=hletAt k' n hk
  rw[hlt] at h1
  unfold kq
  split
  ·rename_i h
   rw[if_pos h,e2] at h1
   cases h1
   obtain⟨_,_,f3⟩:=T0 e3
   exact⟨(hmem _).2 (.inl t1),t2,f3⟩
  ·rename_i h
   rw[if_neg h] at h1
   cases h1
   exact⟨(hmem _).2 (.inr ⟨n,hn,h,rfl⟩),t2,rfl⟩
 have hlets:o5 (l9 c f).reg (l9 c f).lets=true:=by
  refine nO hchk (by rw[hletl,hnums,hll]) fun k h1 h2=>?_
  have e1:(nums c.reg)[k]?=some (nums (l9 c f).reg)[k]:=by rw[← hnums];exact List.getElem?_eq_getElem h1
  obtain⟨a,b,d⟩:=hfind k _ _ e1 (List.getElem?_eq_getElem h2)
  exact(kH _ _ _).2 ⟨_,a,b,d⟩
 have htake:∀ n∈nums c.reg,j8 (l9 c f).reg (l9 c f).lets n=kq c f n:=fun n hn=>by
  obtain⟨t1,t2,k,lt,e1,e2,e3⟩:=A7 hchk hlets (d:=n) (by rw[hnums];exact hn)
  obtain⟨_,_,f3⟩:=T0 e3
  rw[hnums] at e1
  obtain⟨a,b,d⟩:=hfind k n lt e1 e2
  exact(U7 hchk).1 _ t1 _ a (by rw[t2,b]) (by rw[f3,d])
 have hki:∀ n,(j8 (l9 c f).reg (l9 c f).lets n).kind=(j8 c.reg c.lets n).kind∧(j8 (l9 c f).reg (l9 c f).lets n).items=(j8 c.reg c.lets n).items:=fun n=>by
  by_cases hn:n∈nums c.reg
  ·rw[htake n hn];exact⟨(jo c f n).1,(jo c f n).2.1⟩
  ·rw[lM hchk (by rw[hnums];exact hn),lM hOk.reg hn];exact⟨rfl,rfl⟩
 have hparts:E7 (l9 c f).reg (l9 c f).lets (l9 c f).of=E7 c.reg c.lets c.of:=by
  rw[E7,E7,lG,lG,hnums]
  show (((nums c.reg).zip (gC (nums c.reg) _ (C6 (j8 (l9 c f).reg (l9 c f).lets) 6 c.of 1))).filter _).map _=_
  rw[kC hki]
 have hch:p7 (l9 c f)=0:=by
  have h1:=h0
  rw[Y8 hOk.reg] at h1
  rw[Y8 hchk]
  split at h1
  ·rename_i h
   rw[if_pos]
   obtain⟨a,b,d,e⟩:=h
   refine⟨hlets,by rw[hnums];exact b,d,?_⟩
   rw[List.all_eq_true] at e ⊢
   intro x hx
   have e1:=e x hx
   simp only[I7,Bool.and_eq_true,List.all_eq_true] at e1 ⊢
   refine⟨e1.1,fun y hy=>?_⟩
   have e2:=e1.2 y hy
   have hyn:=(hOk.link x hx y hy).1
   have hdl:(j8 (l9 c f).reg (l9 c f).lets y.drawing).dims.length=(j8 c.reg c.lets y.drawing).dims.length:=by
    rw[htake _ hyn,(jo c f _).2.2.2,(hfo _ hyn).1]
   rw[Q6] at e2 ⊢
   rw[hparts,hdl];exact e2
  ·cases h1
 have hokI':=(F1 hext).2.2.2.1
 have hSmR:W9 (l9 c f).reg:=by
  refine⟨?_,fun x hx=>?_⟩
  ·have:(l9 c f).reg.length=(D3 c f).1.length:=R8 _
   omega
  ·have h1:=(V2 x).1 (hokI' x hx)
   omega
 exact⟨hchk,hnums,hmem,hlen,hletl,hletAt,hlets,htake,g1',hch,vO hch,⟨hSmR,by rw[hletl];exact hsm.2.1,hsm.2.2⟩,⟨⟨hSmR.1,fun x hx=>(hSmR.2 x hx).2.2⟩,by rw[hletl];exact hsm.2.1,hsm.2.2⟩⟩
theorem O7 {c:Chains} (hOk:OkC c) {x:Issue} (hx:x∈c.reg):∀ d∈x.dims,D8 d=true:=((V2 x).1 ((F1 (x6 (r9 hOk.reg))).2.2.2.1 x hx)).2.2
theorem vc {c:Chains} (hOk:OkC c) (l:List Spot) {g:Int} (h0:0≤g):CL c (lq l g):=fun n hn _=>by
 obtain⟨t1,_⟩:=A7 hOk.reg hOk.lets hn
 have hd:=O7 hOk t1
 generalize j8 c.reg c.lets n=T at *
 refine⟨dy l g T,fun d h=>?_⟩
 obtain⟨k,hk⟩:=List.mem_iff_getElem?.1 h
 have hkl:k<T.dims.length:=by have:=g9 hk;rwa [lq,dy] at this
 have h1:=jk l g T hkl
 simp only[lq] at hk
 rw[hk] at h1
 have h2:=hd _ (List.getElem_mem hkl)
 cases h1
 split
 ·exact vb h2 h0
 ·exact h2
theorem ln {c:Chains} (h0:p7 c=0) (hsm:w9 c) {l:List Spot} {g:Int} (g0:0≤g) (hE:A0 c (lq l g)=0):Changed c (lq l g):=iU h0 hsm (vc (vO h0) l g0) hE
variable {G:Es}
attribute [simp] r5 aT D9 J6 o9 x7 nilV H2 ZK
def loopv (x:ChLoop):DV:=.agg ((j5 x).map .im)
end Go.Proofs
namespace Go.Proofs
open Go Go.Ab
def zZ:List Link→List Int→Int
 | x :: l,n :: s=>Dv x n+zZ l s
 | _,_=>0
structure ProofOf (c:Chains) (L:Nat) (x:ChLoop) (S:List Int):Prop where
 at':c.loops[L]?=some x
 len:S.length=x.links.length
 within:∀ (k:Nat) (y:Link) (n:Int),x.links[k]?=some y→S[k]?=some n→(kM c y).lower≤n∧n≤(kM c y).upper
 near:∀ (k:Nat) (y:Link) (n:Int),x.links[k]?=some y→S[k]?=some n→x4 y∈w8 c→n-Z9 (kM c y)≤wp c+1∧Z9 (kM c y)-n≤wp c+1
 out:zZ x.links S<x.lo∨x.hi<zZ x.links S
end Go.Proofs
namespace Go.Ab
open Go
end Go.Ab
namespace Go.Proofs
open Go Go.Ab
end Go.Proofs
namespace Go.Ab
open Go
end Go.Ab
namespace Go.Proofs
open Go Go.Ab
end Go.Proofs
namespace Go.Proofs
open Go Go.Ab
structure Wider (c Y:Chains) (k:Nat) (x:ChLoop) (a b:Int):Prop where
 chE:p7 Y=0
 small:w9 Y
 closes:∀ so g,yP c so g=true→yP Y so g=true
 spots:w8 Y=w8 c
 loose:O6 Y=O6 c
 lo:nc Y (k:Int)=0∧Bm Y k=Bm c k∧Bn Y k=Bn c k∧yJ Y k=if a≤Bm c k∧Bn c k≤b then 2 else if Bn c k<a∨b<Bm c k then 0 else 1
variable {G:Es}
attribute [simp] r5 aT D9 J6 o9 x7 nilV H2 ZK
attribute [simp] r5 aT D9 J6 o9 x7 nilV H2 ZK
structure Kd where
 is:Bool
 kind:Int
def zL (x:Kd):List IC:=[rB x.is,.raw (.int .u8 x.kind)]
def Dz (x:Kd):DV:=.agg ((zL x).map .im)
theorem ug (x:Kd):(zL x).length=2:=rfl
theorem AF (x:Kd):ImV (Dz x):=by simp[Dz]
attribute [simp] ug AF
attribute [simp] r5 aT D9 J6 o9 x7 nilV H2 ZK
end Go.Proofs
namespace Go.Proofs
open Go Go.Ab
def Dg (m:List (Int×Bool)) (n:Int):Bool:=(mI n m).getD false
def BF (n:Int) (m:List (Int×Bool)) (y:Itm):List (Int×Bool):=wO y.drawing (Dg m y.drawing||Dg m n) m
def BG (tk:Int→Issue) (m:List (Int×Bool)) (n:Int):List (Int×Bool):=(tk n).items.foldl (BF n) m
def Ah (tk:Int→Issue) (ns:List Int) (m:List (Int×Bool)):List (Int×Bool):=ns.foldl (BG tk) m
def zC (tk:Int→Issue) (ns:List Int) (d:Int):Nat→List (Int×Bool)
 | 0=>wO d true []
 | k+1=>Ah tk ns (zC tk ns d k)
structure Turned (c:Chains) (L:List Int):Prop where
 len:L.length=c.lets.length
 same:∀ (k:Nat) (n:Int),(nums c.reg)[k]?=some n→Dg (zC (j8 c.reg c.lets) (nums c.reg) c.of 6) n=true→L[k]?=c.lets[k]?
 ok:∀ (k:Nat) (n lt:Int),(nums c.reg)[k]?=some n→L[k]?=some lt→1≤lt∧lt≤C3 c.reg n
theorem sj:∀ (l:List Int) (a M:Int),l.Pairwise (· < ·)→(∀ x∈l,a<x∧x≤M)→a≤M→(l.length:Int)≤M-a
 | [],a,M,_,_,h=>by simp;omega
 | x :: r,a,M,h,hb,_=>by
   rw[List.pairwise_cons] at h
   have h1:=hb x (by simp)
   have:=sj r x M h.2 (fun y hy=>⟨h.1 y hy,(hb y (by simp[hy])).2⟩) h1.2
   rw[List.length_cons];omega
theorem wb {l:List Issue} (h:o6 l=0) (d:Int):C3 l d=(B6 l d:Int):=by
 obtain⟨h1,h2,h3⟩:=V0 d l 0
 obtain⟨_,k2,k3⟩:=bo l none _ (x6 (r9 h)) (fun y e=>by cases e)
 have hle:C3 l d≤(B6 l d:Int):=by
  rcases h3 with h3|⟨x,hx,hd,he⟩
  ·rw[C3,h3];omega
  ·have:=(U7 h).2 x hx
   rw[hd] at this
   rw[C3,← he];omega
 have hge:(B6 l d:Int)≤C3 l d:=by
  have:=sj ((l.filter fun x=>decide (x.drawing=d)).map (·.letter)) 0 (C3 l d) ?_ ?_ h1
  ·rw[List.length_map] at this
   unfold B6;omega
  ·rw[List.pairwise_map]
   refine(k2.filter _).imp_of_mem fun {a b} ha hb hab=>?_
   have ha:=(List.mem_filter.1 ha).2
   have hb:=(List.mem_filter.1 hb).2
   simp only[decide_eq_true_eq] at ha hb
   omega
  ·intro n hn
   obtain⟨x,hx,rfl⟩:=List.mem_map.1 hn
   obtain⟨hx,hd⟩:=List.mem_filter.1 hx
   have hd:=of_decide_eq_true hd
   exact⟨by have:=(U7 h).2 x hx;omega,h2 x hx hd⟩
 omega
def uZ (c:Chains) (u:Int→Bool) (ch:Nat→Int) (i:Nat):List Int:=(c.lets.mapIdx fun k lt=>if k<i then (match (nums c.reg)[k]? with|some n=>if u n then lt else 1+(ch k) % C3 c.reg n|none=>lt) else lt)
theorem turn_free {c:Chains} {u:Int→Bool} {ch:Nat→Int} {i:Nat} {n:Int} (h:(nums c.reg)[i]?=some n) (hu:u n=false):uZ c u ch (i+1)=(uZ c u ch i).set i (1+(ch i) % C3 c.reg n):=by
 refine List.ext_getElem? fun k=>?_
 rw[List.getElem?_set]
 simp only[uZ,List.getElem?_mapIdx,List.length_mapIdx]
 by_cases hk2:i=k
 ·subst hk2
  rw[if_pos rfl]
  by_cases hl:i<c.lets.length
  ·rw[if_pos hl,List.getElem?_eq_getElem hl]
   simp only[Option.map_some,Option.some.injEq,h,hu]
   rw[if_pos (by omega)];rfl
  ·rw[if_neg hl,List.getElem?_eq_none (l:=c.lets) (by omega)];rfl
 ·rw[if_neg hk2]
  cases c.lets[k]? with
  | none=>rfl
  | some lt =>
    simp only[Option.map_some,Option.some.injEq]
    by_cases hk:k<i
    ·rw[if_pos hk,if_pos (by omega)]
    ·rw[if_neg hk,if_neg (by omega)]
theorem sA (x:Issue):∀ l:List Issue,dd (l++[x])=dd l++(if (l.getLast?).map Issue.drawing=some x.drawing then [] else [x.drawing])
 | []=>by simp[dd]
 | [y]=>by by_cases h:y.drawing=x.drawing<;>simp[dd,h]
 | y :: z :: r=>by
   have ih:=sA x (z :: r)
   have hl:(y :: z :: r).getLast?=(z :: r).getLast?:=by simp[List.getLast?_cons_cons]
   rw[hl]
   simp only[List.cons_append,dd] at ih ⊢
   split
   ·exact ih
   ·rw[ih];rfl
theorem lZ (l:List Issue):∀ k,k≤l.length→E8 l k=dd (l.take k)
 | 0,_=>by simp[E8,dd]
 | k+1,h=>by
   have hk:k<l.length:=h
   rw[E8,lZ l k (by omega),List.take_succ_eq_append_getElem hk,sA,List.getElem?_eq_getElem hk]
   congr 1
   cases k with
   | zero=>simp
   | succ j =>
     have e:(l.take (j+1)).getLast?=l[j]?:=by
      rw[List.getLast?_eq_getElem?,List.length_take,Nat.min_eq_left (by omega),List.getElem?_take]
      simp
     rw[e]
     by_cases h1:(l[j]?).map Issue.drawing=some l[j+1].drawing
     ·simp[h1]
     ·simp[h1]
theorem mZ (l:List Issue):nums l=dd l:=by
 rw[nums,lZ l l.length (Nat.le_refl _),List.take_length]
theorem nB:∀ (l:List Issue) (d:Int),d∈dd l↔∃ x∈l,x.drawing=d
 | [],d=>by simp[dd]
 | [x],d=>by simp[dd,eq_comm]
 | x :: y :: r,d=>by
   have ih:=nB (y :: r) d
   rw[dd]
   split
   ·rename_i h
    rw[ih]
    constructor
    ·rintro⟨z,hz,e⟩;exact⟨z,List.mem_cons_of_mem _ hz,e⟩
    ·rintro⟨z,hz,e⟩
     rcases List.mem_cons.1 hz with rfl|hz
     ·exact⟨y,List.mem_cons_self,by omega⟩
     ·exact⟨z,hz,e⟩
   ·rw[List.mem_cons,ih]
    constructor
    ·rintro (rfl|⟨z,hz,e⟩)
     ·exact⟨x,List.mem_cons_self,rfl⟩
     ·exact⟨z,List.mem_cons_of_mem _ hz,e⟩
    ·rintro⟨z,hz,e⟩
     rcases List.mem_cons.1 hz with rfl|hz
     ·exact .inl e.symm
     ·exact .inr ⟨z,hz,e⟩
theorem zR:∀ l:List Issue,l.Pairwise (fun a b=>a.drawing≤b.drawing)→(dd l).Pairwise (· < ·)
 | [],_=>by simp[dd]
 | [x],_=>by simp[dd]
 | x :: y :: r,h=>by
   rw[List.pairwise_cons] at h
   have ih:=zR (y :: r) h.2
   rw[dd]
   split
   ·exact ih
   ·rename_i hne
    refine List.pairwise_cons.2 ⟨fun d hd=>?_,ih⟩
    obtain⟨z,hz,rfl⟩:=(nB _ _).1 hd
    have h1:=h.1 y List.mem_cons_self
    have h2:=h.1 z hz
    rcases List.mem_cons.1 hz with rfl|hz
    ·omega
    ·have:=(List.pairwise_cons.1 h.2).1 z hz
     omega
theorem vW:∀ (l m:List Int),l.Pairwise (· < ·)→m.Pairwise (· < ·)→(∀ d,d∈l↔d∈m)→l=m
 | [],[],_,_,_=>rfl
 | [],y :: m,_,_,h=>absurd ((h y).2 List.mem_cons_self) (by simp)
 | x :: l,[],_,_,h=>absurd ((h x).1 List.mem_cons_self) (by simp)
 | x :: l,y :: m,hl,hm,h=>by
   rw[List.pairwise_cons] at hl hm
   have e:x=y:=by
    have h1:=List.mem_cons.1 ((h x).1 List.mem_cons_self)
    have h2:=List.mem_cons.1 ((h y).2 List.mem_cons_self)
    rcases h1 with h1|h1
    ·exact h1
    ·rcases h2 with h2|h2
     ·exact h2.symm
     ·have:=hl.1 y h2;have:=hm.1 x h1;omega
   subst e
   congr 1
   refine vW l m hl.2 hm.2 fun d=>?_
   constructor
   ·intro hd
    rcases List.mem_cons.1 ((h d).1 (List.mem_cons_of_mem _ hd)) with e|hd'
    ·have:=hl.1 d hd;omega
    ·exact hd'
   ·intro hd
    rcases List.mem_cons.1 ((h d).2 (List.mem_cons_of_mem _ hd)) with e|hd'
    ·have:=hm.1 d hd;omega
    ·exact hd'
theorem sY {l:List Issue} (h:D5 l):l.Pairwise (fun a b=>a.drawing≤b.drawing):=
 h.imp fun {a b} h=>by rw[K0] at h;omega
def eT (x:Issue):List Issue→List Issue
 | []=>[x]
 | y :: r=>if aD y x<0 then y :: eT x r else x :: y :: r
def gT (x:Issue):List Issue→Nat
 | []=>0
 | y :: r=>if aD y x<0 then gT x r+1 else 0
theorem sd (x:Issue):∀ l,gT x l≤l.length
 | []=>Nat.le_refl _
 | y :: r=>by
   have:=sd x r
   unfold gT;split<;>simp<;>omega
theorem oT (x:Issue):∀ l,eT x l=l.take (gT x l)++x :: l.drop (gT x l)
 | []=>rfl
 | y :: r=>by
   unfold eT gT
   split
   ·rw[oT x r];rfl
   ·rfl
theorem lY (x:Issue):∀ (l:List Issue) (n:Nat) (y:Issue),n≤gT x l→l[n]?=some y→(aD y x<0→n+1≤gT x l)∧(¬ aD y x<0→n=gT x l)
 | [],_,_,_,h=>by simp at h
 | z :: r,0,y,_,h=>by
   simp at h;subst h
   unfold gT
   constructor
   ·intro h;rw[if_pos h];omega
   ·intro h;rw[if_neg h]
 | z :: r,n+1,y,hn,h=>by
   unfold gT at hn ⊢
   split at hn
   ·rename_i hz
    obtain⟨a,b⟩:=lY x r n y (by omega) (by simpa using h)
    rw[if_pos hz]
    exact⟨fun h=>by have:=a h;omega,fun h=>by have:=b h;omega⟩
   ·omega
theorem bw (x:Issue):∀ l,(eT x l).Perm (x :: l)
 | []=>.refl _
 | y :: r=>by
   unfold eT
   split
   ·exact((bw x r).cons y).trans (.swap x y r)
   ·exact .refl _
theorem iN (x:Issue):∀ l,D5 l→D5 (eT x l)
 | [],_=>by simp[eT,D5]
 | y :: r,h=>by
   have h':D5 (y :: r):=h
   unfold D5 at h
   rw[List.pairwise_cons] at h
   unfold eT
   split
   ·rename_i hc
    unfold D5
    rw[List.pairwise_cons]
    refine⟨fun b hb=>?_,iN x r h.2⟩
    rcases List.mem_cons.1 ((bw x r).mem_iff.1 hb) with rfl|hb
    ·rw[K0] at hc ⊢;omega
    ·exact h.1 b hb
   ·rename_i hc
    unfold D5
    rw[List.pairwise_cons]
    refine⟨fun b hb=>?_,h'⟩
    rcases List.mem_cons.1 hb with rfl|hb
    ·exact hc
    ·have:=h.1 b hb
     rw[K0] at this hc ⊢
     omega
theorem qI {R:List Issue} {x:Issue} (hk:N4 (R++[x])):eT x (x5 R)=x5 (R++[x]):=by
 refine I5 ?_ hk (iN x _ (X5 R))
 exact(bw x _).trans (((E0 R).cons x).trans (List.perm_append_comm (l₁:=[x]) (l₂:=R)))
theorem wu {l:List Issue} {y:Issue} {d lt:Int} (hk:N4 l) (hy:y∈l) (h1:y.drawing=d) (h2:y.letter=lt):A1 l d lt=some y:=by
 obtain⟨z,hz⟩:=Option.isSome_iff_exists.1 ((kH l d lt).2 ⟨y,hy,h1,h2⟩)
 obtain⟨a,b,e⟩:=T0 hz
 rw[hz,hk z a y hy (by omega) (by omega)]
structure RInv (c:Chains) (r:List Int) (R:List Issue) (L:List Int):Prop where
 sub:∀ x∈c.reg,x∈R
 old:∀ x∈R,x.drawing∈r→x∈c.reg
 key:N4 R
 num:∀ x∈R,x.drawing∈nums c.reg
 len:L.length=c.lets.length
 lat:∀ (k:Nat) (n:Int),(nums c.reg)[k]?=some n→n∈r→L[k]?=c.lets[k]?
 siz:∀ x∈R,x.items.length≤16∧x.dims.length≤8
 cnt:R.length+r.length≤c.reg.length+(nums c.reg).length
theorem lS {c:Chains} (hOk:OkC c) (hsm:w9 c) {r:List Int} (hr:r.length≤(nums c.reg).length):RInv c r c.reg c.lets where
 sub:=fun _ h=>h
 old:=fun _ h _=>h
 key:=(U7 hOk.reg).1
 num:=(u4 hOk.reg).2
 len:=rfl
 lat:=fun _ _ _ _=>rfl
 siz:=fun x hx=>by have:=hsm.1.2 x hx;omega
 cnt:=by omega
theorem dH {c:Chains} (hOk:OkC c) {r:List Int} {R:List Issue} {L:List Int} (h:RInv c r R L):nums (x5 R)=nums c.reg:=by
 refine vW _ _ ?_ (u4 hOk.reg).1 fun d=>?_
 ·rw[mZ];exact zR _ (sY (X5 R))
 ·rw[mZ,nB]
  constructor
  ·rintro⟨x,hx,rfl⟩;exact h.num x ((E0 R).mem_iff.1 hx)
  ·intro hd
   rw[mZ,nB] at hd
   obtain⟨x,hx,e⟩:=hd
   exact⟨x,(E0 R).mem_iff.2 (h.sub x hx),e⟩
theorem oO {l l':List Issue} (hp:l'.Perm l) (h:N4 l):N4 l':=fun a ha b hb=>h a (hp.mem_iff.1 ha) b (hp.mem_iff.1 hb)
theorem gP {c:Chains} (hOk:OkC c) {r:List Int} {R:List Issue} {L:List Int} (h:RInv c r R L) {n:Int} (hn:n∈nums c.reg) (hr:n∈r):j8 (x5 R) L n=j8 c.reg c.lets n:=by
 obtain⟨t1,t2,k,lt,hk,hlt,hf⟩:=A7 hOk.reg hOk.lets hn
 have hnd:(nums c.reg).Nodup:=(u4 hOk.reg).1.imp fun h=>Int.ne_of_lt h
 have hL:L[k]?=some lt:=by rw[h.lat k n hk hr,hlt]
 have h3:=(T0 hf).2.2
 have h4:=wu (oO (E0 R) h.key) ((E0 R).mem_iff.2 (h.sub _ t1)) t2 h3
 generalize j8 c.reg c.lets n=T at *
 unfold j8
 rw[dH hOk h,bW hnd hk,Int.toNat_natCast,hL,Option.getD_some,h4]
 rfl
theorem gQ {c:Chains} (hOk:OkC c) {r:List Int} {R:List Issue} {L:List Int} (h:RInv c r R L) {n:Int} (hr:n∈r):C3 (x5 R) n=(B6 c.reg n:Int):=by
 rw[← wb hOk.reg]
 obtain⟨a1,a2,a3⟩:=V0 n (x5 R) 0
 obtain⟨b1,b2,b3⟩:=V0 n c.reg 0
 have hs:∀ x∈x5 R,x.drawing=n→x∈c.reg:=fun x hx e=>h.old x ((E0 R).mem_iff.1 hx) (by rw[e];exact hr)
 have hs2:∀ x∈c.reg,x∈x5 R:=fun x hx=>(E0 R).mem_iff.2 (h.sub x hx)
 unfold C3
 rcases a3 with a3|⟨x,hx,hd,he⟩<;>rcases b3 with b3|⟨y,hy,hd2,he2⟩
 ·rw[a3,b3]
 ·have:=a2 y (hs2 y hy) hd2
  omega
 ·have:=b2 x (hs x hx hd) hd
  omega
 ·have h1:=a2 y (hs2 y hy) hd2
  have h2:=b2 x (hs x hx hd) hd
  omega
theorem lT {c:Chains} {n:Int} {r:List Int} {R:List Issue} {L:List Int} (h:RInv c (n :: r) R L):RInv c r R L where
 sub:=h.sub
 old:=fun x hx hd=>h.old x hx (List.mem_cons_of_mem _ hd)
 key:=h.key
 num:=h.num
 len:=h.len
 lat:=fun k m hk hm=>h.lat k m hk (List.mem_cons_of_mem _ hm)
 siz:=h.siz
 cnt:=by have:=h.cnt;simp only[List.length_cons] at this;omega
theorem tc {c:Chains} (hOk:OkC c) (hsm:w9 c) {n:Int} {r:List Int} {R:List Issue} {L:List Int} (h:RInv c (n :: r) R L) (hn:n∈nums c.reg) (hr:n∉r) {ds:List Dim} (hds:ds.length≤8) :
 N4 (R++[K7 c.reg (j8 c.reg c.lets n) n ds])∧RInv c r (R++[K7 c.reg (j8 c.reg c.lets n) n ds]) (L.set (idx (nums c.reg) n).toNat ((B6 c.reg n:Int)+1)):=by
 obtain⟨t1,t2,k,lt,hk,hlt,hf⟩:=A7 hOk.reg hOk.lets hn
 have hnd:(nums c.reg).Nodup:=(u4 hOk.reg).1.imp fun h=>Int.ne_of_lt h
 have hd:(K7 c.reg (j8 c.reg c.lets n) n ds).drawing=n:=t2
 have hl:(K7 c.reg (j8 c.reg c.lets n) n ds).letter=(B6 c.reg n:Int)+1:=rfl
 have hit:(K7 c.reg (j8 c.reg c.lets n) n ds).items=(j8 c.reg c.lets n).items:=rfl
 have hdm:(K7 c.reg (j8 c.reg c.lets n) n ds).dims=ds:=rfl
 have hsz:=hsm.1.2 _ t1
 generalize K7 c.reg (j8 c.reg c.lets n) n ds=y at *
 have hno:∀ x∈R,x.drawing=n→x.letter≤(B6 c.reg n:Int):=fun x hx e=>by
  have:=(U7 hOk.reg).2 x (h.old x hx (by rw[e];exact List.mem_cons_self))
  rw[e] at this;exact this.2
 have hK:N4 (R++[y]):=fun a ha b hb e1 e2=>by
  rcases List.mem_append.1 ha with ha|ha<;>rcases List.mem_append.1 hb with hb|hb
  ·exact h.key a ha b hb e1 e2
  ·simp at hb;subst hb
   have:=hno a (by assumption) (by omega);omega
  ·simp at ha;subst ha
   have:=hno b (by assumption) (by omega);omega
  ·simp at ha hb;rw[ha,hb]
 rw[bW hnd hk,Int.toNat_natCast]
 refine⟨hK,⟨fun x hx=>List.mem_append_left _ (h.sub x hx),fun x hx hm=>?_,hK,fun x hx=>?_,by rw[List.length_set];exact h.len,fun j m hj hm=>?_,fun x hx=>?_,?_⟩⟩
 ·rcases List.mem_append.1 hx with hx|hx
  ·exact h.old x hx (List.mem_cons_of_mem _ hm)
  ·simp at hx;subst hx
   rw[hd] at hm;exact absurd hm hr
 ·rcases List.mem_append.1 hx with hx|hx
  ·exact h.num x hx
  ·simp at hx;subst hx
   rw[hd];exact hn
 ·have hne:k≠j:=by
   rintro rfl
   rw[hk] at hj;cases hj;exact hr hm
  rw[List.getElem?_set_ne hne]
  exact h.lat j m hj (List.mem_cons_of_mem _ hm)
 ·rcases List.mem_append.1 hx with hx|hx
  ·exact h.siz x hx
  ·simp at hx;subst hx
   rw[hit,hdm];omega
 ·have:=h.cnt
  simp only[List.length_append,List.length_cons,List.length_nil] at this ⊢
  omega
def jb (c:Chains) (f:Issue→List Dim×Int):List Int→List Issue→List Int→List Issue×List Int×Int
 | [],R,L=>(R,L,0)
 | n :: r,R,L=>if (f (j8 c.reg c.lets n)).2≠0 then (R,L,(f (j8 c.reg c.lets n)).2) else if (f (j8 c.reg c.lets n)).1=(j8 c.reg c.lets n).dims then jb c f r R L else
   jb c f r (R++[K7 c.reg (j8 c.reg c.lets n) n (f (j8 c.reg c.lets n)).1]) (L.set (idx (nums c.reg) n).toNat ((B6 c.reg n:Int)+1))
theorem jZ {c:Chains} (hOk:OkC c) (f:Issue→List Dim×Int):∀ (r:List Int) (i:Nat) (R:List Issue) (L:List Int),(nums c.reg).drop i=r→R0 c.reg (C9 c.reg c.lets) f r i R L=jb c f r R L
 | [],_,_,_,_=>rfl
 | n :: r,i,R,L,hr=>by
   have hnd:(nums c.reg).Nodup:=(u4 hOk.reg).1.imp fun h=>Int.ne_of_lt h
   have hi:(nums c.reg)[i]?=some n:=by
    have:((nums c.reg).drop i)[0]?=some n:=by rw[hr];rfl
    rw[List.getElem?_drop] at this;simpa using this
   have hm:n∈nums c.reg:=List.mem_of_getElem? hi
   have hB:p4 (C9 c.reg c.lets) n=j8 c.reg c.lets n:=by rw[C9,F9,if_pos hm]
   have hd:(nums c.reg).drop (i+1)=r:=by
    rw[← List.drop_drop,hr];rfl
   rw[R0,jb,hB,bW hnd hi,Int.toNat_natCast]
   split
   ·rfl
   ·split
    ·exact jZ hOk f r (i+1) _ _ hd
    ·exact jZ hOk f r (i+1) _ _ hd
theorem jY {c:Chains} {f:Issue→List Dim×Int} {p:Int→Bool}:∀ (l:List Int) (R:List Issue) (L:List Int),(∀ n∈l,p n=false→f (j8 c.reg c.lets n)=((j8 c.reg c.lets n).dims,0))→jb c f (l.filter p) R L=jb c f l R L
 | [],_,_,_=>rfl
 | n :: r,R,L,h=>by
   have ih:=fun R L=>jY (f:=f) r R L fun m hm=>h m (List.mem_cons_of_mem _ hm)
   rw[List.filter_cons]
   cases hp:p n
   ·have:=h n List.mem_cons_self hp
    rw[if_neg (by simp),ih]
    conv=>rhs;rw[jb]
    rw[this];simp
   ·rw[if_pos rfl,jb,jb,ih,ih]
def aL (R:List Issue):Bool:=decide (60<R.length)||R.any fun x=>decide (8<x.letter)
theorem wT {l l':List Issue} (hp:l'.Perm l) (p:Issue→Bool):l'.any p=l.any p:=by
 rw[Bool.eq_iff_iff,List.any_eq_true,List.any_eq_true]
 exact⟨fun ⟨x,hx,h⟩=>⟨x,hp.mem_iff.1 hx,h⟩,fun ⟨x,hx,h⟩=>⟨x,hp.mem_iff.2 hx,h⟩⟩
theorem tW (R:List Issue):aL (x5 R)=aL R:=by
 unfold aL
 rw[R8,wT (E0 R)]
theorem yr {c:Chains} (hOk:OkC c) {f:Issue→List Dim×Int} (h0:(D3 c f).2.2=0):aL (D3 c f).1=true↔60<(D3 c f).1.length∨((D3 c f).2.1.any fun n=>decide (8<n))=true:=by
 obtain⟨_,g2,_,g4⟩:=jD (nums c.reg) 0 c.reg c.lets h0
 have hll:c.lets.length=(nums c.reg).length:=by
  have:=hOk.lets
  simp only[o5,Bool.and_eq_true,decide_eq_true_eq] at this;exact this.1
 have hB:∀ n∈nums c.reg,p4 (C9 c.reg c.lets) n=j8 c.reg c.lets n:=fun n hn=>by rw[C9,F9,if_pos hn]
 have hLl:(D3 c f).2.1.length=c.lets.length:=by
  have:∀ (r:List Int) (i:Nat) (R:List Issue) (L:List Int),(R0 c.reg (C9 c.reg c.lets) f r i R L).2.1.length=L.length:=by
   intro r
   induction r with
   | nil=>intros;rfl
   | cons n r ih =>
     intro i R L
     rw[R0]
     split
     ·rfl
     ·split
      ·exact ih _ _ _
      ·rw[ih,List.length_set]
  exact this _ _ _ _
 change (D3 c f).1=_ at g2
 change ∀ (k:Nat) (n:Int),(nums c.reg)[k]?=some n→0+k<c.lets.length→(D3 c f).2.1[0+k]?=_ at g4
 unfold aL
 rw[Bool.or_eq_true,decide_eq_true_eq]
 refine or_congr_right ?_
 rw[List.any_eq_true,List.any_eq_true]
 constructor
 ·rintro⟨x,hx,hl⟩
  rw[g2] at hx
  have hl:=of_decide_eq_true hl
  rcases List.mem_append.1 hx with hx|hx
  ·have:=fF hOk hx;omega
  ·obtain⟨n,hn,hx⟩:=List.mem_flatMap.1 hx
   obtain⟨k,hk⟩:=List.mem_iff_getElem?.1 hn
   unfold U8 at hx
   split at hx
   ·cases hx
   ·rename_i hne
    simp at hx;subst hx
    have:=g4 k n hk (by have:=g9 hk;omega)
    rw[if_neg hne] at this
    exact⟨_,List.mem_of_getElem? this,decide_eq_true hl⟩
 ·rintro⟨m,hm,hl⟩
  have hl:=of_decide_eq_true hl
  obtain⟨k,hk⟩:=List.mem_iff_getElem?.1 hm
  have hkl:k<(nums c.reg).length:=by have:=g9 hk;omega
  obtain⟨n,hn⟩:∃ n,(nums c.reg)[k]?=some n:=⟨_,List.getElem?_eq_getElem hkl⟩
  have hnm:=List.mem_of_getElem? hn
  have:=g4 k n hn (by omega)
  rw[Nat.zero_add,hk] at this
  split at this
  ·exfalso
   obtain⟨t1,t2,j,lt,hj,hlt,hf⟩:=A7 hOk.reg hOk.lets hnm
   have hnd:(nums c.reg).Nodup:=(u4 hOk.reg).1.imp fun h=>Int.ne_of_lt h
   have hjk:j=k:=(List.getElem?_inj (g9 hj) hnd).1 (hj.trans hn.symm)
   subst hjk
   rw[hlt] at this
   cases this
   have h3:=(T0 hf).2.2
   have:=fF hOk t1
   omega
  ·rename_i hne
   cases this
   refine⟨K7 c.reg (p4 (C9 c.reg c.lets) n) n (f (p4 (C9 c.reg c.lets) n)).1,?_,decide_eq_true hl⟩
   rw[g2]
   refine List.mem_append_right _ (List.mem_flatMap.2 ⟨n,hnm,?_⟩)
   rw[U8,if_neg hne];simp
theorem iH {c:Chains} (hOk:OkC c) (f:Issue→List Dim×Int):A0 c f=(if (jb c f (nums c.reg) c.reg c.lets).2.2≠0 then (jb c f (nums c.reg) c.reg c.lets).2.2 else if aL (x5 (jb c f (nums c.reg) c.reg c.lets).1)=true then 9 else 0) ∧
 l9 c f={ reg:=x5 (jb c f (nums c.reg) c.reg c.lets).1,lets:=(jb c f (nums c.reg) c.reg c.lets).2.1,of:=c.of,loops:=c.loops }:=by
 have e:D3 c f=jb c f (nums c.reg) c.reg c.lets:=jZ hOk f (nums c.reg) 0 c.reg c.lets (by simp)
 refine⟨?_,by rw[l9,e]⟩
 rw[A0,tW,← e]
 by_cases h0:(D3 c f).2.2=0
 ·have h2:=yr hOk h0
  have h3:¬ (D3 c f).2.2≠0:=fun h=>h h0
  rw[if_neg h3,if_neg h3]
  by_cases h1:aL (D3 c f).1=true
  ·rw[if_pos h1,if_pos (h2.1 h1)]
  ·rw[if_neg h1,if_neg fun h=>h1 (h2.2 h)]
 ·rw[if_pos h0,if_pos h0]
variable {G:Es}
attribute [simp] r5 aT D9 J6 o9 x7 nilV H2 ZK
attribute [simp] r5 aT D9 J6 o9 x7 nilV H2 ZK
@[simp] def DL (n:Int):DV:=.one (.im (.raw (.int .u16 n)))
attribute [simp] r5 aT D9 J6 o9 x7 nilV H2 ZK
attribute [simp] r5 aT D9 J6 o9 x7 nilV H2 ZK
attribute [simp] r5 aT D9 J6 o9 x7 nilV H2 ZK By
open Go Go.Ab Tryz
attribute [simp] r5 aT D9 J6 o9 x7 nilV H2 ZK By
theorem wX {n s:Int} (h0:0≤n) (h2:1≤s):(n+s-1) / s*s=gM n s:=by
 have e:=Int.ediv_mul_add_emod n s
 have m0:0≤n % s:=Int.emod_nonneg _ (by omega)
 have m1:n % s<s:=Int.emod_lt_of_pos _ (by omega)
 unfold gM
 have hc:s*(n / s)=n / s*s:=Int.mul_comm _ _
 have hd:s*(n / s+1)=n / s*s+s:=by rw[Int.mul_add,hc];omega
 generalize n / s=q at *
 generalize n % s=m at *
 split
 ·rename_i hz
  have h:=((Int.ediv_emod_unique (a:=n+s-1) (b:=s) (r:=s-1) (q:=q) (by omega)).2 ⟨by omega,by omega,by omega⟩).1
  rw[h];omega
 ·rename_i hz
  have h:=((Int.ediv_emod_unique (a:=n+s-1) (b:=s) (r:=m-1) (q:=q+1) (by omega)).2 ⟨by omega,by omega,by omega⟩).1
  rw[h,Int.mul_comm];omega
theorem ss {n s:Int}:n / s*s=ja n s:=by
 have e:=Int.ediv_mul_add_emod n s
 unfold ja;omega
theorem jJ {n s:Int} (h0:0≤n):n.tdiv s=n / s:=Int.tdiv_eq_ediv_of_nonneg h0
theorem cY {n s:Int} (h0:0≤n) (h2:1≤s):0≤n / s∧n / s≤n:=by
 have e:=Int.ediv_mul_add_emod n s
 have m0:0≤n % s:=Int.emod_nonneg _ (by omega)
 have h5:0≤n / s:=Int.ediv_nonneg h0 (by omega)
 have h6:n / s*1≤n / s*s:=Int.mul_le_mul_of_nonneg_left h2 h5
 omega
theorem yR (n s:Int) (h0:0≤n) (h1:n≤1000000000) (h2:1≤s) (h3:s≤1000):zP prog G 147 [iv n,iv s] (iv (gM n s)):=by
 refine zf func147 ntmps147 ?_
 try simp only[iv,iv]
 have hs0:¬ s=0:=by omega
 have hm:=wX h0 h2
 have hq:=cY (n:=n+s-1) (s:=s) (by omega) h2
 have ht:=jJ (n:=n+s-1) (s:=s) (by omega)
 have hr:=aU (n:=n) (s:=s) h0 h2
 rw[← ht] at hm hq
 have w1:IntKind.i64.wrap (n+s)=n+s:=u7 (by omega) (by omega)
 have w2:IntKind.i64.wrap (n+s-1)=n+s-1:=u7 (by omega) (by omega)
 have w3:IntKind.i64.wrap ((n+s-1).tdiv s)=(n+s-1).tdiv s:=u7 (by omega) (by omega)
 have w4:IntKind.i64.wrap (gM n s)=gM n s:=u7 (by omega) (by omega)
 have hs:=za hs0 (za w1 (za w2 (za w3 (za w4 hm))))
 repeat' first|(with_reducible first|refine zz ?_|refine zr ?_|refine zE [0,1,4] ?_)|simp -dsimp[hs]
theorem Aa (n:Int) (hn:n=1∨n=2):zP prog G 116 [jj n] (iv (W2 n)):=by
 refine zf func116 ntmps116 ?_
 try simp only[jj]
 rcases hn with rfl|rfl
 ·repeat' first|(with_reducible first|refine zz ?_|refine zx ?_|refine zE [0,2,3,4,6] ?_)|simp -dsimp|refine m5 ?_ ?_<;>intro h<;>try simp only[l8] at h
  all_goals simp[W2]
 ·repeat' first|(with_reducible first|refine zz ?_|refine zx ?_|refine zE [0,2,3,4,6] ?_)|simp -dsimp|refine m5 ?_ ?_<;>intro h<;>try simp only[l8] at h
  all_goals simp[W2]
theorem vI (d:Dim) (s:Int) (hd:D8 d=true) (h2:1≤s) (h3:s≤1000):zP prog G 117 [H1 d,iv s] (.tup [H1 (aw d s),bv (decide (gM d.lower s≤ja d.upper s))]):=by
 refine zf func117 ntmps117 ?_
 try simp only[H1,iv]
 rw[M7] at hd
 have hs0:¬ s=0:=by omega
 have c1:=yR (G:=G) d.lower s (by omega) (by omega) h2 h3
 have hN:=aU (n:=d.nominal) (s:=s) (by omega) h2
 have hL:=aU (n:=d.lower) (s:=s) (by omega) h2
 have hU:=aU (n:=d.upper) (s:=s) (by omega) h2
 have hn1:=ss (n:=d.nominal) (s:=s)
 have hu1:=ss (n:=d.upper) (s:=s)
 have hn2:=jJ (n:=d.nominal) (s:=s) (by omega)
 have hu2:=jJ (n:=d.upper) (s:=s) (by omega)
 have hn3:=cY (n:=d.nominal) (s:=s) (by omega) h2
 have hu3:=cY (n:=d.upper) (s:=s) (by omega) h2
 rw[← hn2] at hn1 hn3
 rw[← hu2] at hu1 hu3
 have hrup:gM d.nominal s=ja d.nominal s∧ja d.nominal s=d.nominal∨gM d.nominal s=ja d.nominal s+s:=by
  unfold gM ja;split<;>omega
 unfold aw
 generalize gM d.lower s=lo at *
 generalize ja d.upper s=hi at *
 generalize ja d.nominal s=dn at *
 generalize gM d.nominal s=up at *
 have w1:IntKind.i64.wrap (d.nominal.tdiv s)=d.nominal.tdiv s:=u7 (by omega) (by omega)
 have w2:IntKind.i64.wrap (d.upper.tdiv s)=d.upper.tdiv s:=u7 (by omega) (by omega)
 have w3:IntKind.i64.wrap dn=dn:=u7 (by omega) (by omega)
 have w4:IntKind.i64.wrap hi=hi:=u7 (by omega) (by omega)
 have w5:IntKind.i64.wrap (dn+s)=dn+s:=u7 (by omega) (by omega)
 have w6:IntKind.i64.wrap (dn+s-d.nominal)=dn+s-d.nominal:=u7 (by omega) (by omega)
 have w7:IntKind.i64.wrap (d.nominal-dn)=d.nominal-dn:=u7 (by omega) (by omega)
 by_cases hb:dn+s≤1000000000
 ·by_cases hc:dn+s-d.nominal<d.nominal-dn
  ·rw[if_neg (by omega),show up=dn+s by omega]
   have hs:=za hs0 (za hn1 (za hu1 (za w1 (za w2 (za w3 (za w4 (za w5 (za w6 (za w7 (za hb hc))))))))))
   repeat' first|(with_reducible first|refine zz ?_|refine zr ?_)|simp -dsimp[hs]|refine zq c1 ?_|refine p9 (id:=5) (nt:=50) 13 [] [0,1,2,4,5,6,7,8,30,32,33,34,35,36,37,38,39,40,41,42,43] [0,1,2,4,5,6,7,8,30] mixed rfl (by kernel_rfl) ?_|refine p9 (id:=6) (nt:=50) 6 [1,2,3,4,5] [0,1,2,4,5,6,7,8,30,44] [0,1,2,4,5,6,7,8,30] mixed rfl (by kernel_rfl) ?_|with_reducible refine zE [0,1,2,4,5,6,7,8,30] ?_|refine m5 ?_ ?_<;>intro h<;>try simp only[l8] at h
  ·have hif:(if up > 1000000000∨d.nominal-dn≤up-d.nominal then dn else up)=dn:=by split<;>omega
   rw[hif]
   have hs:=za hs0 (za hn1 (za hu1 (za w1 (za w2 (za w3 (za w4 (za w5 (za w6 (za w7 (za hb hc))))))))))
   repeat' first|(with_reducible first|refine zz ?_|refine zr ?_)|simp -dsimp[hs]|refine zq c1 ?_|refine p9 (id:=5) (nt:=50) 13 [] [0,1,2,4,5,6,7,8,30,32,33,34,35,36,37,38,39,40,41,42,43] [0,1,2,4,5,6,7,8,30] mixed rfl (by kernel_rfl) ?_|refine p9 (id:=6) (nt:=50) 6 [1,2,3,4,5] [0,1,2,4,5,6,7,8,30,44] [0,1,2,4,5,6,7,8,30] mixed rfl (by kernel_rfl) ?_|with_reducible refine zE [0,1,2,4,5,6,7,8,30] ?_|refine m5 ?_ ?_<;>intro h<;>try simp only[l8] at h
 ·have hif:(if up > 1000000000∨d.nominal-dn≤up-d.nominal then dn else up)=dn:=by split<;>omega
  rw[hif]
  have hs:=za hs0 (za hn1 (za hu1 (za w1 (za w2 (za w3 (za w4 (za w5 (za w6 (za w7 hb)))))))))
  repeat' first|(with_reducible first|refine zz ?_|refine zr ?_)|simp -dsimp[hs]|refine zq c1 ?_|refine p9 (id:=5) (nt:=50) 13 [] [0,1,2,4,5,6,7,8,30,32,33,34,35,36,37,38,39,40,41,42,43] [0,1,2,4,5,6,7,8,30] mixed rfl (by kernel_rfl) ?_|refine p9 (id:=6) (nt:=50) 6 [1,2,3,4,5] [0,1,2,4,5,6,7,8,30,44] [0,1,2,4,5,6,7,8,30] mixed rfl (by kernel_rfl) ?_|with_reducible refine zE [0,1,2,4,5,6,7,8,30] ?_|refine m5 ?_ ?_<;>intro h<;>try simp only[l8] at h
theorem qq (d:Dim) (n:Int) (hd:D8 d=true) (hn:n=1∨n=2):zP prog G 70 [H1 d,jj n] (.tup [H1 (dX d n),iv (pP d n)]):=by
 refine zf func70 ntmps70 ?_
 try simp only[H1,jj]
 have c1:=zQ (G:=G) d
 rw[hd] at c1
 have c2:=Aa (G:=G) n hn
 have hs:1≤W2 n∧W2 n≤254:=by unfold W2;split<;>omega
 have c3:=vI (G:=G) d (W2 n) hd hs.1 (by omega)
 have hlo:gM d.lower (W2 n)=(aw d (W2 n)).lower:=rfl
 have hhi:ja d.upper (W2 n)=(aw d (W2 n)).upper:=rfl
 rw[hlo,hhi] at c3
 unfold dX pP
 have hs0:¬ W2 n=0:=by omega
 generalize aw d (W2 n)=x at *
 generalize W2 n=s at *
 simp only[H1,l6,List.map_cons,List.map_nil] at c1 c3
 by_cases hle:x.lower≤x.upper
 ·rw[if_pos hle,if_pos hle]
  rw[decide_eq_true hle] at c3
  have hs:=hs0
  repeat' first|(with_reducible first|refine zz ?_|refine zr ?_)|simp -dsimp[hs]|refine zp c1 ?_|refine zp c2 ?_|refine zq c2 ?_|refine zq c3 ?_|refine p9 (id:=5) (nt:=27) 8 [6] [0,1,2,4,5,6,7,10,14,16,17,18,19,20,21,24] [0,1,2,4,5,6,7,10,14,24] mixed rfl (by kernel_rfl) ?_|with_reducible refine zE [0,1,2,4,5,6,7,10,14,24] ?_|refine m5 ?_ ?_<;>intro h<;>try simp only[l8] at h
  all_goals try clear hs
 ·rw[if_neg hle,if_neg hle]
  rw[decide_eq_false hle] at c3
  have hs:=hs0
  repeat' first|(with_reducible first|refine zz ?_|refine zr ?_)|simp -dsimp[hs]|refine zp c1 ?_|refine zp c2 ?_|refine zq c2 ?_|refine zq c3 ?_|refine p9 (id:=5) (nt:=27) 8 [6] [0,1,2,4,5,6,7,10,14,16,17,18,19,20,21,24] [0,1,2,4,5,6,7,10,14,24] mixed rfl (by kernel_rfl) ?_|with_reducible refine zE [0,1,2,4,5,6,7,10,14,24] ?_|refine m5 ?_ ?_<;>intro h<;>try simp only[l8] at h
  all_goals try clear hs
  all_goals simp[sJ]
theorem iG (a b:List Dim) (hl:a.length=b.length) (hb:b.length<1000000):zP prog G 64 [.one (.im (.sl (a.map l6))),.one (.im (.sl (b.map l6)))] (bv (decide (a=b))):=by
 refine zf func64 ntmps64 ?_
 try simp only[iv]
 have hs:=trivial
 repeat' first|(with_reducible first|refine zz ?_|refine zE [0,1,4,5,9,20] ?_)|simp -dsimp[hs]
 refine j7 (ι:={ k:Nat // k≤b.length∧a.take k=b.take k }) (fun p=>⟨21,[(0,.one (.im (.sl (a.map l6)))),(1,.one (.im (.sl (b.map l6)))),(5,iv (p.1:Int))],[]⟩) (fun p=>b.length-p.1) ⟨0,by simp⟩ (zv [0,1,5]) ?_
 rintro⟨k,hk,he⟩
 simp only[iv]
 by_cases hlt:k<b.length
 ·have hw:=zk k
  have hka:k<a.length:=by omega
  have hta:a.take (k+1)=a.take k++[a[k]]:=List.take_succ_eq_append_getElem hka
  have htb:b.take (k+1)=b.take k++[b[k]]:=List.take_succ_eq_append_getElem hlt
  generalize hx:a[k]=x at *
  generalize hy:b[k]=y at *
  by_cases hxy:x=y
  ·have hs:=za hx (za hy (za hlt (za hka (za hw hxy))))
   repeat' first|with_reducible refine zz ?_|simp -dsimp[hs]|refine zM 4 21 9 [0,1,4,5,9,20] ?_|with_reducible refine zE [0,1,4,5,9,20] ?_|refine m5 ?_ ?_<;>intro h<;>try simp only[l8] at h
   all_goals exact zn ⟨k+1,by omega,by rw[hta,htb,he,hxy]⟩ (zv [0,1,5])
  ·have hne:¬ a=b:=fun e=>hxy (by subst e;rw[← hx,← hy])
   have hxy':=mt (sw x y).1 hxy
   have hs:=za hx (za hy (za hlt (za hka hxy')))
   repeat' first|(with_reducible first|refine zz ?_|refine zr ?_)|simp -dsimp[hs]|refine zM 4 21 9 [0,1,4,5,9,20] ?_|with_reducible refine zE [0,1,4,5,9,20] ?_|refine m5 ?_ ?_<;>intro h<;>try simp only[l8] at h
   all_goals first|exact hne|(exact absurd (by assumption) hxy')|simp[hne]
 ·obtain rfl:k=b.length:=by omega
  rw[List.take_length,← hl,List.take_length] at he
  have hla:¬ b.length<a.length:=by omega
  have hs:=za hlt (za hla hl)
  repeat' first|(with_reducible first|refine zz ?_|refine zr ?_|refine zE [0,1,4,5,9,20] ?_)|simp -dsimp[hs]|refine m5 ?_ ?_<;>intro h<;>try simp only[l8] at h
  all_goals simp[he]
theorem wU {R:List Issue} {p:Issue→Bool} {k:Nat} {x:Issue} (h:R[k]?=some x):(R.drop k).any p=(p x||(R.drop (k+1)).any p):=by
 have hlt:=g9 h
 rw[List.drop_eq_getElem_cons hlt,List.any_cons]
 rw[List.getElem?_eq_getElem hlt] at h
 cases h;rfl
theorem sc (c:Chains) (hl:c.reg.length<1000000):zP prog G 66 [M9 c] (bv (aL c.reg)):=by
 refine zf func66 ntmps66 ?_
 try simp only[M9]
 by_cases h60:60<c.reg.length
 ·have h60':(60:Int)<(c.reg.length:Int):=by omega
  have hE:aL c.reg=true:=by simp[aL,h60]
  rw[hE]
  have hs:=h60'
  repeat' first|(with_reducible first|refine zz ?_|refine zr ?_|refine zE [0,1,2,3,8,14,24] ?_)|simp -dsimp[hs]|refine m5 ?_ ?_<;>intro h<;>try simp only[l8] at h
  all_goals try clear hs
 ·have h60':¬ (60:Int)<(c.reg.length:Int):=by omega
  have hE:aL c.reg=c.reg.any fun x=>decide (8<x.letter):=by simp[aL,h60]
  rw[hE]
  clear hE
  obtain⟨F,hF⟩:∃ F,F=c.reg.any fun x=>decide (8<x.letter):=⟨_,rfl⟩
  rw[← hF]
  have hs:=h60'
  repeat' first|(with_reducible first|refine zz ?_|refine zE [0,1,2,3,8,14,24] ?_)|simp -dsimp[hs]|refine m5 ?_ ?_<;>intro h<;>try simp only[l8] at h
  all_goals try clear hs
  refine j7 (ι:={ k:Nat // k≤c.reg.length∧F=(c.reg.drop k).any fun x=>decide (8<x.letter) }) (fun p=>⟨25,[(1,.one (.ptr 0 0)),(3,iv (p.1:Int))],[.row ((p5 c).map .im)]⟩) (fun p=>c.reg.length-p.1) ⟨0,by simp[hF]⟩ (zv [1,3]) ?_
  clear hF
  rintro⟨k,hk,he⟩
  simp only[iv]
  by_cases hlt:k<c.reg.length
  ·have hw:=zk k
   have hx:c.reg[k]?=some c.reg[k]:=by simp[hlt]
   rw[wU hx] at he
   generalize hxe:c.reg[k]=x at *
   by_cases h8:8<x.letter
   ·rw[decide_eq_true h8,Bool.true_or] at he
    subst he
    have hs:=za hx (za hxe (za hlt h8))
    repeat' first|(with_reducible first|refine zz ?_|refine zr ?_|refine zE [0,1,2,3,8,14,24] ?_)|simp -dsimp[hs]|refine m5 ?_ ?_<;>intro h<;>try simp only[l8] at h
    all_goals try clear hs
   ·rw[decide_eq_false h8,Bool.false_or] at he
    have hs:=za hx (za hxe (za hlt (za h8 hw)))
    repeat' first|(with_reducible first|refine zz ?_|refine zE [0,1,2,3,8,14,24] ?_)|simp -dsimp[hs]|refine m5 ?_ ?_<;>intro h<;>try simp only[l8] at h
    all_goals try clear hs
    all_goals exact zn ⟨k+1,by omega,he⟩ (zv [1,3])
  ·rw[List.drop_eq_nil_of_le (by omega)] at he
   have he:F=false:=he
   subst he
   have hs:=hlt
   repeat' first|(with_reducible first|refine zz ?_|refine zr ?_|refine zE [0,1,2,3,8,14,24] ?_)|simp -dsimp[hs]|refine m5 ?_ ?_<;>intro h<;>try simp only[l8] at h
   all_goals try clear hs
theorem oq (x:Issue):zP prog G 13 [E4 x] (D7 x.drawing x.letter):=by
 refine zf func13 ntmps13 ?_
 try simp only[E4]
 simp only[E4,j0,rI,List.map_cons,List.map_nil]
 repeat' first|(with_reducible first|refine zz ?_|refine zx ?_|refine zE [0,1,2] ?_)|simp -dsimp
theorem xZ (a b:Issue):zP prog G 112 [D7 a.drawing a.letter,D7 b.drawing b.letter] (bv (decide (aD a b<0))):=by
 refine zf func112 ntmps112 ?_
 try simp only[D7,D7]
 have hE:decide (aD a b<0)=(decide (a.drawing<b.drawing)||(decide (a.drawing=b.drawing)&&decide (a.letter<b.letter))):=by
  rw[Bool.eq_iff_iff];simp[K0]
 rw[hE]
 by_cases h1:a.drawing<b.drawing
 ·have hs:=h1
  repeat' first|(with_reducible first|refine zz ?_|refine zr ?_|refine zE [0,1,2,3,4] ?_)|simp -dsimp[hs]
  all_goals simp[h1]
 ·by_cases h2:a.drawing=b.drawing
  ·by_cases h3:a.letter<b.letter
   ·have hs:=za h1 (za h2 h3)
    repeat' first|(with_reducible first|refine zz ?_|refine zr ?_|refine zE [0,1,2,3,4] ?_)|simp -dsimp[hs]
    all_goals simp[h2,h3]
   ·have hs:=za h1 (za h2 h3)
    repeat' first|(with_reducible first|refine zz ?_|refine zr ?_|refine zE [0,1,2,3,4] ?_)|simp -dsimp[hs]
    all_goals simp[h2,h3]
  ·have hs:=za h1 h2
   repeat' first|(with_reducible first|refine zz ?_|refine zr ?_|refine zE [0,1,2,3,4] ?_)|simp -dsimp[hs]
   all_goals simp[h1,h2]
def Cv (m:Nat×Nat×Bool) (l:List Issue):List DObj:=[.row [.im (.sl (l.map j0))],.vec 0 [] 0 true,.row [.vec 3 m.1 0 l.length],.vec m.2.1 (o7 (l.map j0)) m.1 m.2.2,.row [.vec 3 m.1 0 l.length]]
def Ec (l:List Issue) (d:DV) (o:List DObj):Prop:=∃ m:Nat×Nat×Bool,(m.2.1=5∨m.2.2=true∧l=[])∧d=.agg [.vec 3 m.1 0 l.length]∧o=Cv m l
theorem uX (l:List Issue) (hl1:l.length<1000) (hl2:∀ x∈l,x.items.length≤16∧x.dims.length≤8):DCall prog G 54 [C8 l] [] (Ec l):=by
 refine l5 func54 rfl ntmps54 (by simp) rfl ?_
 simp only[C8]
 have hs:=trivial
 repeat' first|(with_reducible first|refine zz ?_|refine zE [0,1,2,3,4,9] ?_)|simp -dsimp[hs]
 all_goals try clear hs
 refine j7 (ι:={ p:Nat×Nat×Nat×Bool // p.1≤l.length∧(p.2.2.1=5∨p.2.2.2=true∧p.1=0) }) (fun p=>⟨24,[(1,.one (.ptr 0 0)),(2,.one (.ptr 2 0)),(3,.one (.ptr 4 0)),(4,iv (p.1.1:Int))],[.row [.im (.sl (l.map j0))],.vec 0 [] 0 true,.row [.vec 1 0 0 0],.vec p.1.2.2.1 (o7 ((l.take p.1.1).map j0)) p.1.2.1 p.1.2.2.2,.row [.vec 3 p.1.2.1 0 p.1.1]]⟩) (fun p=>l.length-p.1.1) ⟨(0,0,0,true),by simp⟩ (zv [1,2,3,4] (by simp[iv])) ?_
 rintro⟨⟨k,g,sz,nl⟩,hk,hz⟩
 simp only at hk hz
 simp only[iv]
 have htk:(o7 ((l.map j0).take k)).take k=o7 ((l.map j0).take k):=List.take_of_length_le (by simp[p6];omega)
 by_cases hlt:k<l.length
 ·have hx:l[k]?=some l[k]:=by simp[hlt]
  have hw:=zk k
  have hc:=fun objs=>cC (G:=G) l[k] (hl2 _ (by simp)).1 (hl2 _ (by simp)).2 objs
  have hmin:min k l.length=k:=Nat.min_eq_left (by omega)
  have hz2:sz=5∨nl=true:=hz.imp id And.left
  simp only[ni] at hc
  have hs:=za hx (za hw (za hz2 hmin))
  repeat' first|(with_reducible first|refine zz ?_|refine And.intro (by omega) ?_|refine zr ?_ (by simp -dsimp[j0,rI,hs];exact rfl))|simp -dsimp[j0,rI,hs]|refine az hc ?_|refine zM 5 24 9 [0,1,2,3,4,9] ?_|with_reducible refine zE [0,1,2,3,4,9] ?_|refine m5 ?_ ?_<;>intro h<;>try simp only[l8] at h
  all_goals try clear hs
  all_goals try omega
  refine At.round ⟨(k+1,g+1,5,false),by simp;omega⟩ (by simp;omega) (Weak.of_drop [1,2,3,4] 5 (by simp) (by simp) ?_)
  have hs:(l.map j0).take (k+1)=(l.map j0).take k++[j0 l[k]]:=by
   rw[List.take_add_one];simp[hx]
  simp[hs,htk,O8,j0,rI]
 ·have hkl:k=l.length:=by omega
  subst hkl
  have hall:(l.map j0).take l.length=l.map j0:=List.take_of_length_le (by simp)
  rw[hall] at htk
  have hs:=za hall htk
  repeat' first|(with_reducible first|refine zz ?_|refine zr ?_|refine zE [0,1,2,3,4,9] ?_)|simp -dsimp[hs]|refine m5 ?_ ?_<;>intro h<;>try simp only[l8] at h
  all_goals try clear hs
  all_goals exact⟨(g,sz,nl),hz.imp id fun h=>⟨h.1,List.eq_nil_of_length_eq_zero h.2⟩,rfl,rfl⟩
theorem uY (l:List Issue) (hl1:l.length<1000) (hl2:∀ x∈l,x.items.length≤16∧x.dims.length≤8):DCall prog G 54 [C8 l] [] (fun d o=>∃ m:Nat×Nat×Bool,(m.2.1=5∨m.2.2=true∧l=[])∧d=.agg [.vec 3 m.1 0 l.length]∧o=Cv m l):=uX l hl1 hl2
attribute [simp] r5 aT D9 J6 o9 x7 nilV H2 ZK By Bg
def DB (c:Chains) (d:DV) (o:List DObj):Prop:=∃ (or gr sr:Nat) (nr:Bool) (ol gl oo go so:Nat) (no:Bool),d=.agg [.vec or gr 0 c.reg.length,.vec ol gl 0 c.lets.length,.im (.raw (.int .i64 c.of)),.vec oo go 0 c.loops.length] ∧
 o[or]?=some (.vec sr (o7 (c.reg.map j0)) gr nr)∧(sr=5∨nr=true∧c.reg=[])∧o[ol]?=some (.vec 1 (o7 (c.lets.map Ab.encI)) gl false)∧o[oo]?=some (.vec so (o7 (c.loops.map j5)) go no)∧or≠ol∧or≠oo∧ol≠oo
theorem xE (c:Chains) (h1:c.reg.length<1000) (h2:∀ x∈c.reg,x.items.length≤16∧x.dims.length≤8) (hl2:c.lets.length≤80) (hl:c.loops.length≤10) (hls:∀ x∈c.loops,x.links.length≤12):DCall prog G 19 [M9 c] [] (DB c):=by
 generalize hQ:DB c=Q
 refine l5 func19 rfl ntmps19 (by simp) rfl ?_
 have c1:=uY (G:=G) c.reg h1 h2
 have hs:=trivial
 repeat' first|(with_reducible first|refine zz ?_|refine And.intro (by omega) ?_)|simp -dsimp[Cv,hs]|refine CallE.embed_ex [] (c1) ?_ ?_ ?_ ?_ ?_ ?_;(focus simp[C4];done);(focus simp;done);(focus simp;done);(focus simp;done);(focus refine A3 ?_;simp[C4,B7];done);intro mmA hmmA;try simp -dsimp[s8,C4,Cv,hs]|refine rL (id:=1) (nt:=43) [0,1,4,5,7,8,10,2,3,6,9,11] 7 11 (.cand 7 [2,3,4,5,6] [0,1,2,4,6,19] (.cand 8 [2,3,4,5,6] [0,1,2,4,7,19] (.cand 9 [4,5,6] [0,1,2,4,7,8,10,19] (.cand 10 [6] [0,1,2,4,7,11,13,19] .leaf .stop) .stop) .stop) (.cand 8 [0,1,2,3,4,5,6] [0,1,2,4,19] (.cand 7 [2,3,4,5,6] [0,1,2,4,6,8,19] (.cand 9 [4,5,6] [0,1,2,4,7,8,10,19] (.cand 10 [6] [0,1,2,4,7,11,13,19] .leaf .stop) .stop) .stop) .stop)) [0,1,2,3,4,19] mixed rfl (by kernel_rfl) (by kernel_rfl) ?_|with_reducible refine zE [0,1,2,3,4,19] ?_|with_reducible refine And.intro ?_ ?_
 ·refine j7 (ι:={ p:Nat×Nat×Nat×Bool // p.1≤c.loops.length∧(p.2.2.1=3∨p.2.2.2=true∧p.1=0) }) (fun p=>⟨43,[(1,.one (.ptr 0 0)),(2,.one (.ptr 4 0)),(3,.one (.ptr 14 0)),(4,iv (p.1.1:Int))],[.row ((p5 c).map .im),.vec 0 [] 0 true,.vec 0 [] 0 true,.vec 0 [] 0 true,.row [.vec 1 0 0 0,.vec 2 0 0 0,.im (rI 0),.vec 3 0 0 0],.row [.im (.sl (c.reg.map j0))],.vec 0 [] 0 true,.row [.vec 8 mmA.1 0 c.reg.length],.vec mmA.2.1 (o7 (c.reg.map j0)) mmA.1 mmA.2.2,.row [.vec 8 mmA.1 0 c.reg.length],.vec 1 (o7 (c.lets.map Ab.encI)) 1 false,.vec 0 [] 0 true,.vec 0 [] 0 true,.vec p.1.2.2.1 (o7 ((c.loops.take p.1.1).map j5)) p.1.2.1 p.1.2.2.2,.row [.vec 8 mmA.1 0 c.reg.length,.vec 10 1 0 c.lets.length,.im (rI c.of),.vec 13 p.1.2.1 0 p.1.1]]⟩) (fun p=>c.loops.length-p.1.1) ⟨(0,0,0,true),by simp⟩ (zv [1,2,3,4] (by simp[M9])) ?_
  rintro⟨⟨k,g,sz,nl⟩,hk,hz⟩
  simp only at hk hz
  simp only[iv]
  have htk:(o7 ((c.loops.map j5).take k)).take k=o7 ((c.loops.map j5).take k):=List.take_of_length_le (by simp[p6];omega)
  by_cases hlt:k<c.loops.length
  ·have hx:c.loops[k]?=some c.loops[k]:=by simp[hlt]
   have hw:=zk k
   have hmin:min k c.loops.length=k:=Nat.min_eq_left (by omega)
   have hln:=hls c.loops[k] (List.getElem_mem hlt)
   have hsn:(c.loops.map j5).take (k+1)=(c.loops.map j5).take k++[j5 c.loops[k]]:=by
    rw[List.take_add_one];simp[hx]
   have hz2:sz=3∨nl=true:=hz.imp id And.left
   have hs:=za hx (za hw (za hlt (za hz2 hmin)))
   repeat' first|(with_reducible first|refine zz ?_|refine And.intro (by omega) ?_)|simp -dsimp[hs]|refine zM 5 43 18 [0,1,2,3,4,19] ?_|with_reducible refine zE [0,1,2,3,4,19] ?_|refine m5 ?_ ?_<;>intro h<;>try simp only[l8] at h
   all_goals try omega
   exact zn ⟨(k+1,g+1,3,false),by simp;omega⟩ (zw [1,2,3,4] 15 (by simp[hsn,htk,O8]))
  ·have hkl:k=c.loops.length:=by omega
   subst hkl
   have hall:(c.loops.map j5).take c.loops.length=c.loops.map j5:=List.take_of_length_le (by simp)
   rw[hall] at htk
   have hs:=za hall htk
   repeat' first|(with_reducible first|refine zz ?_|refine zr ?_|refine zE [0,1,2,3,4,19] ?_)|simp -dsimp[hs]|refine m5 ?_ ?_<;>intro h<;>try simp only[l8] at h
   subst hQ
   exact⟨8,mmA.1,mmA.2.1,mmA.2.2,10,1,13,g,sz,nl,rfl,rfl,hmmA,rfl,by simp[hall],by decide,by decide,by decide⟩
 ·refine j7 (ι:={ p:Nat×Nat×Nat×Bool // p.1≤c.loops.length∧(p.2.2.1=3∨p.2.2.2=true∧p.1=0) }) (fun p=>⟨43,[(1,.one (.ptr 0 0)),(2,.one (.ptr 4 0)),(3,.one (.ptr 14 0)),(4,iv (p.1.1:Int))],[.row ((p5 c).map .im),.vec 0 [] 0 true,.vec 0 [] 0 true,.vec 0 [] 0 true,.row [.vec 1 0 0 0,.vec 2 0 0 0,.im (rI 0),.vec 3 0 0 0],.vec 1 (o7 (c.lets.map Ab.encI)) 1 false,.row [.im (.sl (c.reg.map j0))],.vec 0 [] 0 true,.row [.vec 9 mmA.1 0 c.reg.length],.vec mmA.2.1 (o7 (c.reg.map j0)) mmA.1 mmA.2.2,.row [.vec 9 mmA.1 0 c.reg.length],.vec 0 [] 0 true,.vec 0 [] 0 true,.vec p.1.2.2.1 (o7 ((c.loops.take p.1.1).map j5)) p.1.2.1 p.1.2.2.2,.row [.vec 9 mmA.1 0 c.reg.length,.vec 5 1 0 c.lets.length,.im (rI c.of),.vec 13 p.1.2.1 0 p.1.1]]⟩) (fun p=>c.loops.length-p.1.1) ⟨(0,0,0,true),by simp⟩ (zv [1,2,3,4] (by simp[M9])) ?_
  rintro⟨⟨k,g,sz,nl⟩,hk,hz⟩
  simp only at hk hz
  simp only[iv]
  have htk:(o7 ((c.loops.map j5).take k)).take k=o7 ((c.loops.map j5).take k):=List.take_of_length_le (by simp[p6];omega)
  by_cases hlt:k<c.loops.length
  ·have hx:c.loops[k]?=some c.loops[k]:=by simp[hlt]
   have hw:=zk k
   have hmin:min k c.loops.length=k:=Nat.min_eq_left (by omega)
   have hln:=hls c.loops[k] (List.getElem_mem hlt)
   have hsn:(c.loops.map j5).take (k+1)=(c.loops.map j5).take k++[j5 c.loops[k]]:=by
    rw[List.take_add_one];simp[hx]
   have hz2:sz=3∨nl=true:=hz.imp id And.left
   have hs:=za hx (za hw (za hlt (za hz2 hmin)))
   repeat' first|(with_reducible first|refine zz ?_|refine And.intro (by omega) ?_)|simp -dsimp[hs]|refine zM 5 43 18 [0,1,2,3,4,19] ?_|with_reducible refine zE [0,1,2,3,4,19] ?_|refine m5 ?_ ?_<;>intro h<;>try simp only[l8] at h
   all_goals try omega
   exact zn ⟨(k+1,g+1,3,false),by simp;omega⟩ (zw [1,2,3,4] 15 (by simp[hsn,htk,O8]))
  ·have hkl:k=c.loops.length:=by omega
   subst hkl
   have hall:(c.loops.map j5).take c.loops.length=c.loops.map j5:=List.take_of_length_le (by simp)
   rw[hall] at htk
   have hs:=za hall htk
   repeat' first|(with_reducible first|refine zz ?_|refine zr ?_|refine zE [0,1,2,3,4,19] ?_)|simp -dsimp[hs]|refine m5 ?_ ?_<;>intro h<;>try simp only[l8] at h
   subst hQ
   exact⟨9,mmA.1,mmA.2.1,mmA.2.2,5,1,13,g,sz,nl,rfl,rfl,hmmA,rfl,by simp[hall],by decide,by decide,by decide⟩
end Go.Proofs
