/- Part 17 of the proofs. -/
import Derived.Test.YtjodaihiogfkbaaGreatDoorT08
import Derived.Test.YtjodaihiogfkbaaGreatDoorT09
import Derived.Test.YtjodaihiogfkbaaGreatDoorT14
import Derived.Test.YtjodaihiogfkbaaGreatDoorT15
import Derived.Test.YtjodaihiogfkbaaGreatDoorT16
set_option linter.all false
set_option linter.deprecated false
set_option maxHeartbeats 100000000
namespace Go.Proofs
open Go Go.Ab Tryz
variable {G:Kc}
def EH (x:Print) (d:Int):Bool:=decide (x.day≤d) && !(!decide (x.back=-1)&&decide (x.back≤d)) && !decide (x.lost=2)
def rD (d i w:Int) (x:Print):Bool:=EH x d&&(decide (x.holder=i)&&decide (x.drawing=w))
def Z1 (d i w:Int) (l:List Print):List Int:=(l.filter fun x=>rD d i w x&&decide (x.lost=1)).map (·.letter)
def aV (d i w:Int) (l:List Print):Int:=(l.filter fun x=>rD d i w x && !decide (x.lost=1)).foldl (fun a x=>max a x.letter) 0
theorem GN (b:IC) (n:Int):zP prog G 182 [.one (.im b),iv n] (.one (.im (.fn (.func 231) [.ip [b],.ip [rI n]]))):=by
 refine zf func182 ntmps182 ?_
 try simp only[iv]
 repeat' first|(with_reducible first|refine zz ?_|refine zx ?_|refine zE [0,1,2,3,4] ?_)|simp -dsimp
def N0 (d i w:Int) (l:List Print):List Int:=(o2 (j6 (Z1 d i w l++[aV d i w l]))).drop (H9 (fun x=>decide (aV d i w l=x)) (o2 (j6 (Z1 d i w l++[aV d i w l])))).toNat
theorem vB (d i w:Int) {l:List Print} {k:Nat} (h:k<l.length):Z1 d i w (l.take (k+1))=Z1 d i w (l.take k)++(if (rD d i w l[k]&&decide (l[k].lost=1))=true then [l[k].letter] else []):=by
 unfold Z1
 rw[List.take_succ_eq_append_getElem h,List.filter_append,List.map_append]
 congr 1
 split<;>simp_all
theorem uX (d i w:Int) {l:List Print} {k:Nat} (h:k<l.length):aV d i w (l.take (k+1))=if (rD d i w l[k] && !decide (l[k].lost=1))=true then max (aV d i w (l.take k)) l[k].letter else aV d i w (l.take k):=by
 unfold aV
 rw[List.take_succ_eq_append_getElem h,List.filter_append,List.foldl_append]
 split<;>simp_all
theorem qf {α:Type} (q:α→Bool) (l:List α):H9 q l<l.length∨l=[]:=by
 unfold H9
 split
 ·rename_i j h
  rw[List.findIdx?_eq_some_iff_getElem] at h
  obtain⟨hlt,_⟩:=h
  left;omega
 ·cases l with
  | nil=>exact .inr rfl
  | cons a r=>left;simp;omega
theorem kL (d i w:Int) (l:List Print):(Z1 d i w l).length≤l.length:=by
 unfold Z1
 rw[List.length_map];exact List.length_filter_le _ _
theorem tX (p:Prints) (d i w:Int) (hS:u3 G) (hl:p.prints.length<900):zP prog G 119 [.one (.im (l6 p)),iv d,iv i,iv w] (r7 (N0 d i w p.prints)):=by
 refine zf func119 ntmps119 ?_
 try simp only[iv,iv,iv]
 simp only[l6]
 have c1:=GN (G:=G) (l6 p) d
 simp only[l6] at c1
 have hs:=trivial
 repeat' first|(with_reducible first|refine zz ?_|refine zE [0,1,2,3,6,7,8,9,10,12,13,16,18,29,32] ?_)|simp -dsimp[hs]|refine zp c1 ?_
 all_goals try clear hs
 refine M8 (f:=231) (by simp;exact rfl) (by rfl) call231 ?_
 generalize hR:LoopD.mk _ _ _ _ _ _ _=R
 have hR1:R.st=.ready:=by rw[← hR]
 have hR2:R.pend=none:=by rw[← hR]
 have hR3:R.at .ready none=R:=by rw[← hR];rfl
 have hR4:=(congrArg LoopD.nt hR).symm
 have hR5:=(congrArg LoopD.tm hR).symm
 have hR6:=(congrArg LoopD.ps hR).symm
 have hR7:=(congrArg LoopD.asg hR).symm
 have hR8:=(congrArg LoopD.body hR).symm
 dsimp only at hR4 hR5 hR6 hR7 hR8
 clear hR
 refine g9 func231 rfl ntmps231 (by simp) rfl ?_
 have hR9:∀ objs:List DObj,(R.tm.map fun x=>(x.1,eO 7 objs x.2))=R.tm:=by intro objs;rw[hR5];simp
 have hs:=za hR1 (za hR2 hR3)
 repeat' first|(with_reducible first|refine zz ?_|refine zE [0,1,2,3,4,5,6,7,8,9,10,11,12,13,14,16,18,29,32,46] ?_)|simp -dsimp[hs]
 all_goals try clear hs
 refine i6 (ι:={ q:Nat×Nat×Nat×Bool // q.1≤p.prints.length∧(q.2.2.1=1∨q.2.2.2=true∧Z1 d i w (p.prints.take q.1)=[]) }) (fun q=>⟨48,[(0,.one (.yld 6)),(2,.one (.im (.ip [rI d]))),(11,.one (.im (.sl (p.prints.map w8)))),(12,iv (p.prints.length:Int)),(13,iv (q.1.1:Int))],[.row [.im (rI i)],.row [.im (rI w)],.vec 1 [] 0 true,.row [.im (rI (aV d i w (p.prints.take q.1.1)))],.vec q.1.2.2.1 (l7 ((Z1 d i w (p.prints.take q.1.1)).map encI)) q.1.2.1 q.1.2.2.2,.row [.vec 4 q.1.2.1 0 (Z1 d i w (p.prints.take q.1.1)).length],.loop R]⟩) (fun q=>p.prints.length-q.1.1) ⟨(0,0,0,true),by simp[Z1]⟩ (zv [0,2,11,12,13] (by simp[Z1,aV])) ?_
 rintro⟨⟨k,g,sz,nl⟩,hk,hz⟩
 simp only at hk hz
 simp only[iv]
 by_cases hlt:k<p.prints.length
 ·have hw:=zk k
  have hst1:=vB d i w hlt
  have hst2:=uX d i w hlt
  have hpl:=kL d i w (p.prints.take k)
  rw[List.length_take] at hpl
  have hz':sz=1∨nl=true:=hz.imp id And.left
  generalize hx:p.prints[k]=x at *
  cases hsel:rD d i w x
  ·rw[hsel] at hst1 hst2
   simp only[Bool.false_and,Bool.false_eq_true,if_false,List.append_nil] at hst1 hst2
   simp only[rD,EH] at hsel
   simp at hsel
   have hz2:sz=1∨nl=true∧Z1 d i w (p.prints.take (k+1))=[]:=by rw[hst1];exact hz
   clear c1
   have hs:=za hR1 (za hR2 (za hR3 (za hx (za hlt (za hw hz')))))
   repeat' first|(with_reducible first|refine zz ?_|refine And.intro (by omega) ?_|refine zE [0,1,2,3,4,5,6,7,8,9,10,11,12,13,14,16,18,29,32,46] ?_)|simp -dsimp[hs]|with_reducible refine At.yield_end ?_;simp -dsimp[hs]|refine V5 ?_ ?_<;>simp -dsimp[hs]|refine J1 ?_;simp -dsimp[N4,hR4,hR5,hR6,hR7,hR8,hs]|refine i9 ?_ ?_<;>intro h<;>try simp only[i7] at h|with_reducible refine j0 ?_ ?_<;>intro h<;>have h0:=h<;>(try simp only[i7] at h)<;>have h2:=h<;>(try simp at h2)<;>replace hs:=za h0 (za h (za h2 hs))
   all_goals try clear hs
   all_goals first
    | (exfalso;omega)
    | exact zn ⟨(k+1,g,sz,nl),by simp only;omega,hz2⟩ (zw [0,2,11,12,13] 7 (by simp[hst1,hst2,hR9]))
  ·rw[hsel] at hst1 hst2
   simp only[Bool.true_and] at hst1 hst2
   have hq:=hsel
   simp only[rD,EH] at hq
   simp at hq
   obtain⟨⟨⟨q1,q2⟩,q3⟩,q4,q5⟩:=hq
   have hbk:((x.back=-1)∧True)∨(¬ x.back=-1∧¬ x.back≤d):=by
    by_cases hb:x.back=-1
    ·exact .inl ⟨hb,trivial⟩
    ·exact .inr ⟨hb,by omega⟩
   clear hsel q2 c1
   have hs:True:=trivial
   by_cases hl1:x.lost=1
   ·simp only[hl1,decide_true,if_true,Bool.not_true,Bool.false_eq_true,if_false] at hst1 hst2
    rcases hbk with⟨hb1,hb2⟩|⟨hb1,hb2⟩
    all_goals
     have hs:=za hR1 (za hR2 (za hR3 (za hx (za hlt (za hw (za hz' (za q1 (za q3 (za q4 (za q5 (za hb1 (za hb2 hl1))))))))))))
     repeat' first|(with_reducible first|refine zz ?_|refine And.intro (by omega) ?_|refine zE [0,1,2,3,4,5,6,7,8,9,10,11,12,13,14,16,18,29,32,46] ?_)|simp -dsimp[hs]|with_reducible refine At.yield_end ?_;simp -dsimp[hs]|refine V5 ?_ ?_<;>simp -dsimp[hs]|refine J1 ?_;simp -dsimp[N4,hR4,hR5,hR6,hR7,hR8,hs]|refine i9 ?_ ?_<;>intro h<;>try simp only[i7] at h
     all_goals try clear hs
    all_goals exact zn ⟨(k+1,g+1,1,false),by simp only;omega,.inl rfl⟩ (zw [0,2,11,12,13] 7 (by simp[hst1,hst2,hR9]))
   ·simp only[hl1,decide_false,Bool.false_eq_true,if_false,List.append_nil,Bool.not_false,if_true] at hst1 hst2
    have hz2:sz=1∨nl=true∧Z1 d i w (p.prints.take (k+1))=[]:=by rw[hst1];exact hz
    rcases hbk with⟨hb1,hb2⟩|⟨hb1,hb2⟩
    all_goals
     have hs:=za hR1 (za hR2 (za hR3 (za hx (za hlt (za hw (za hz' (za q1 (za q3 (za q4 (za q5 (za hb1 (za hb2 hl1))))))))))))
     repeat' first|(with_reducible first|refine zz ?_|refine zE [0,1,2,3,4,5,6,7,8,9,10,11,12,13,14,16,18,29,32,46] ?_)|simp -dsimp[hs]|with_reducible refine At.yield_end ?_;simp -dsimp[hs]|refine V5 ?_ ?_<;>simp -dsimp[hs]|refine J1 ?_;simp -dsimp[N4,hR4,hR5,hR6,hR7,hR8,hs]|refine i9 ?_ ?_<;>intro h<;>try simp only[i7] at h
     all_goals try clear hs
    all_goals exact zn ⟨(k+1,g,sz,nl),by simp only;omega,hz2⟩ (zw [0,2,11,12,13] 7 (by simp[hst1,hst2,hR9]))
 ·obtain rfl:k=p.prints.length:=by omega
  rw[List.take_length] at *
  have hz':sz=1∨nl=true:=hz.imp id And.left
  have hpl:=kL d i w p.prints
  clear c1
  have hs:=za hR1 (za hR2 (za hR3 (za hlt hz')))
  repeat' first|(with_reducible first|refine zz ?_|refine And.intro (by omega) ?_|refine ze ?_ (by simp -dsimp[B0,hs];exact rfl)|refine zE [0,1,2,3,4,5,6,7,8,9,10,11,12,13,14,16,18,29,32,46] ?_)|simp -dsimp[B0,hs]|with_reducible show B0 _ _ _ _ _ _ _ _;simp -dsimp[B0,hs]|refine i9 ?_ ?_<;>intro h<;>try simp only[i7] at h
  all_goals try clear hs
  obtain⟨L,hL1⟩:∃ L,L=Z1 d i w p.prints++[aV d i w p.prints]:=⟨_,rfl⟩
  have hE:N0 d i w p.prints=(o2 (j6 L)).drop (H9 (fun x=>decide (aV d i w p.prints=x)) (o2 (j6 L))).toNat:=by rw[hL1];rfl
  have hv:aV d i w p.prints∈L:=by rw[hL1];simp
  generalize aV d i w p.prints=v at *
  have hLn:(Z1 d i w p.prints).length+1=L.length:=by rw[hL1];simp
  have hLi:l7 ((Z1 d i w p.prints).map encI)++[[DC.im (IC.raw (Value.int .i64 v))]]=l7 (L.map encI):=by rw[hL1];simp[fj,l7]
  rw[hE]
  clear hL1 hE
  generalize Z1 d i w p.prints=Q at *
  have c1:=hS L (g+1) 1 false (.inl rfl) (by omega)
  have hil:=H3 L
  have c2:=iX (G:=G) (j6 L) (g+1) (by omega)
  have hdl:=O9 (j6 L)
  rw[hil] at c2
  have c3:=pY (G:=G) (o2 (j6 L)) v (by omega)
  have hs:True:=trivial
  rw[hLi]
  simp only[hLn]
  have hs:=za hR1 (za hR2 (za hR3 (za hlt (za hLn hLi))))
  repeat' first|(with_reducible first|refine zz ?_|refine zE [0,1,2,3,4,5,6,7,8,9,10,11,12,13,14,16,18,29,32,46] ?_)|simp -dsimp[hs]|refine CallE.embed [4] (c1) ?_ ?_ ?_ ?_ ?_ ?_;(focus simp[p8];done);(focus simp;done);(focus simp;done);(focus simp;done);(focus refine n3 ?_;simp[p8,n8];done);try simp -dsimp[l9,p8,hs]|refine CallE.embed_ex [4] (c2) ?_ ?_ ?_ ?_ ?_ ?_;(focus simp[p8];done);(focus simp;done);(focus simp;done);(focus simp;done);(focus refine n3 ?_;simp[p8,n8];done);intro mma hmma;try simp -dsimp[l9,p8,hs]
  all_goals try clear hs
  obtain⟨ha1,ha2⟩:=hmma
  clear c1 c2
  generalize hD:o2 (j6 L)=D at *
  have hdm:D.length≤mma.length:=by omega
  have hfi:=qf (fun x=>decide (v=x)) D
  have hvd:D.any (fun x=>decide (v=x))=true:=by
   rw[List.any_eq_true]
   refine⟨v,?_,by simp⟩
   rw[← hD,ai]
   exact isort_mem.2 hv
  rw[← A3] at hvd
  have hf0:0≤H9 (fun x=>decide (v=x)) D:=of_decide_eq_true hvd
  obtain⟨f,hf⟩:=Int.eq_ofNat_of_zero_le hf0
  rw[hf] at c3 hfi
  have hfd:f≤D.length:=by
   rcases hfi with h|h
   ·omega
   ·rw[h] at hf;simp[H9] at hf
  rw[hf,Int.toNat_natCast]
  have htk:(l7 (mma.map encI)).take D.length=l7 (D.map encI):=by rw[show (l7 (mma.map encI)).take D.length=l7 ((mma.map encI).take D.length) by simp[l7,List.map_take],← List.map_take,ha2]
  have hs:True:=trivial
  all_goals try simp -dsimp[hR1,hR2,hR3,htk,hdm,hfd,ha1,hs]
  all_goals try clear hs
  have hdL:D.length≤L.length:=by omega
  have htd:List.take (D.length-f) (List.drop f (l7 (mma.map encI)))=l7 ((D.drop f).map encI):=by
   rw[← List.drop_take,htk];simp[l7,List.map_drop]
  refine CallE.thaw c3 ?_ ?_ ?_
  ·simp[htk,hdm,hfd,ha1,hdL]
  ·simp
  simp -dsimp[htk,hdm,hfd,ha1]
  have hs:=za hR1 (za hR2 (za hR3 (za htk (za hdm (za hfd (za ha1 (za hdL htd)))))))
  repeat' first|(with_reducible first|refine zz ?_|refine zr ?_)|simp -dsimp[hs]
  all_goals try clear hs
attribute [simp] r5 w7
noncomputable def N1 (p:Prints) (d i w:Int):List Int:=if I3 p d 1 i w=0 then N0 d i w p.prints else []
theorem pw (p:Prints) (d i w:Int) (hG:o3 G) (hN:C7 G) (hS:u3 G) (hR:v6 G) (hk:KP p):zP prog G 60 [C1 p,iv d,iv i,iv w] (.tup [r7 (N1 p d i w),iv (I3 p d 1 i w)]):=by
 refine zf func60 ntmps60 ?_
 try simp only[iv,iv,iv]
 have c1:=px p d 1 i w hG hN hS hR hk
 have c2:=tX p d i w hS (by have:=hk.p.q;omega)
 by_cases h0:I3 p d 1 i w=0
 ·have hW:N1 p d i w=N0 d i w p.prints:=by unfold N1;rw[if_pos h0]
  simp only[cp,h0,if_true] at c1
  rw[hW,h0]
  simp only[l6] at c1 c2
  have c1':=c1 []
  simp only[C1,o5,r7,iv,List.map_cons,List.map_nil,encI,rI] at c1'
  have hs:=trivial
  repeat' first|(with_reducible first|refine zz ?_|refine zr ?_|refine zE [0,1,2,3,4,8,9,10,11,22] ?_)|simp -dsimp[hs]|refine CallE.freeze 0 c1' ?_ ?_ ?_ ?_ ?_ ?_;(focus simp;done);(focus simp;done);(focus simp;done);(focus rfl);(focus simp;done);try simp -dsimp[r5]|refine zp c2 ?_|refine i9 ?_ ?_<;>intro h<;>try simp only[i7] at h
 ·have hW:N1 p d i w=[]:=by unfold N1;rw[if_neg h0]
  simp only[cp,h0,if_false] at c1
  rw[hW]
  have c1':=c1 []
  simp only[C1,o5,r7,iv,List.map_cons,List.map_nil,encI,rI] at c1'
  have hs:=h0
  repeat' first|(with_reducible first|refine zz ?_|refine zr ?_|refine zE [0,1,2,3,4,8,9,10,11,22] ?_)|simp -dsimp[hs]|refine CallE.freeze 0 c1' ?_ ?_ ?_ ?_ ?_ ?_;(focus simp;done);(focus simp;done);(focus simp;done);(focus rfl);(focus simp;done);try simp -dsimp[r5]|refine i9 ?_ ?_<;>intro h<;>try simp only[i7] at h
open Go Go.Ab
def Eg:Dim:=⟨0,0,0⟩
def cA (c:Chains) (x:Link):Dim:=((u7 c.reg c.lets x.drawing).dims[x.dim.toNat]?).getD Eg
structure OkC (c:Chains):Prop where
 reg:l4 c.reg=0
 lets:v7 c.reg c.lets=true
 of:c.of∈nums c.reg
 num:1≤c.loops.length∧c.loops.length≤6
 gap:∀ x∈c.loops,x.links.length≤8∧qD x=true
 link:∀ x∈c.loops,∀ y∈x.links,y.drawing∈nums c.reg∧0≤y.dim∧y.dim<(u7 c.reg c.lets y.drawing).dims.length
def aJ (c:Chains) (x:ChLoop):List Dim:=x.links.map (cA c)
def W4 (high:Bool) (x:Link) (d:Dim):Int:=if high != x.back then d.upper else d.lower
def pr (x:Link) (n:Int):Int:=if x.back then -n else n
def qj (links:List Link) (l:List Dim) (high:Bool):List Int:=(links.zip l).map fun p=>W4 high p.1 p.2
def gH (links:List Link) (l:List Dim) (high:Bool):Int:=(links.zip l).foldl (fun s p=>s+pr p.1 (W4 high p.1 p.2)) 0
theorem qq {c:Chains} (h:OkC c) {x:ChLoop} (hx:x∈c.loops) {y:Link} (hy:y∈x.links):I9 (cA c y)=true∧(u7 c.reg c.lets y.drawing).dims[y.dim.toNat]?=some (cA c y):=by
 obtain⟨h1,h2,h3⟩:=h.link x hx y hy
 obtain⟨hm,_⟩:=dL h.reg h.lets h1
 have hok:=(N5 (K8 (I1 h.reg))).2.2.2.1 _ hm
 have hlt:y.dim.toNat<(u7 c.reg c.lets y.drawing).dims.length:=by omega
 have he:(u7 c.reg c.lets y.drawing).dims[y.dim.toNat]?=some (u7 c.reg c.lets y.drawing).dims[y.dim.toNat]:=by simp[hlt]
 have hd:cA c y=(u7 c.reg c.lets y.drawing).dims[y.dim.toNat]:=by rw[cA,he,Option.getD_some]
 simp only[n7,Bool.and_eq_true] at hok
 rw[hd]
 exact⟨List.all_eq_true.1 hok.2 _ (List.getElem_mem hlt),he⟩
def dD (l:List Itm) (d:Int):Int:=match l with
 | []=>0
 | y :: r=>if y.drawing=d then y.count else dD r d
theorem CW {high:Bool} {x:Link} {d:Dim} (h:I9 d=true):0≤W4 high x d∧W4 high x d≤1000000000:=by
 have:=(Y7 d).1 h
 unfold W4;split<;>omega
theorem Ep {high:Bool} {x:Link} {d:Dim} (h:I9 d=true):-1000000000≤pr x (W4 high x d)∧pr x (W4 high x d)≤1000000000:=by
 have:=CW (high:=high) (x:=x) h
 unfold pr;split<;>omega
theorem pm {c:Chains} (h:OkC c) {n:Nat} (hn:n<c.loops.length):(aJ c c.loops[n]).length=c.loops[n].links.length∧∀ d∈aJ c c.loops[n],I9 d=true:=by
 refine⟨by simp[aJ],fun d hd=>?_⟩
 obtain⟨y,hy,rfl⟩:=List.mem_map.1 hd
 exact(qq h (List.getElem_mem hn) hy).1
theorem nn (c:Chains):∃ X,az c=.one (.im X):=by unfold az;split<;>exact⟨_,rfl⟩
def F3 (c:Chains) (n:Int):Int:=if A5 c≠0 then A5 c else if 0≤n∧n<c.loops.length then 0 else 2
theorem Cp (c:Chains) (n:Int) (hG:o3 G) (hC:L6 G) (hs:lR c):zP prog G 212 [Bt c,iv n] (.tup [az c,iv (F3 c n)]):=by
 refine zf func212 ntmps212 ?_
 try simp only[Bt,iv]
 have c1:=Ap c hG hC hs
 have hl:=hs.2.2.1
 have hw:IntKind.i64.wrap ((c.loops.length:Int)-1)=(c.loops.length:Int)-1:=o4 (by omega) (by omega)
 have c2:=bl (G:=G) 0 ((c.loops.length:Int)-1) [n] (by simp)
 have hE:F3 c n=if A5 c≠0 then A5 c else if 0≤n∧n<c.loops.length then 0 else 2:=rfl
 obtain⟨X,hX⟩:=nn c
 rw[hX]
 rw[hX] at c1
 by_cases h0:A5 c=0
 ·rw[h0] at c1 hE
  by_cases hr:0≤n∧n<c.loops.length
  ·have hq:([n].all fun x=>decide (0≤x)&&decide (x≤(c.loops.length:Int)-1))=true:=by simp;omega
   rw[hq] at c2
   have hs:=hw
   repeat' first|(with_reducible first|refine zz ?_|refine zr ?_|refine zE [0,1,2,4,5,6,7,24] ?_)|simp -dsimp[hs]|refine zp c1 ?_|refine zt c2 ?_ ?_ ?_;(focus simp;done);focus (simp;done)|refine i9 ?_ ?_<;>intro h<;>try simp only[i7] at h
   all_goals try clear hs
   simp[hE,hr]
  ·have hq:([n].all fun x=>decide (0≤x)&&decide (x≤(c.loops.length:Int)-1))=false:=by simp;omega
   rw[hq] at c2
   have hs:=hw
   repeat' first|(with_reducible first|refine zz ?_|refine zr ?_|refine zE [0,1,2,4,5,6,7,24] ?_)|simp -dsimp[hs]|refine zp c1 ?_|refine zt c2 ?_ ?_ ?_;(focus simp;done);focus (simp;done)|refine i9 ?_ ?_<;>intro h<;>try simp only[i7] at h
   all_goals try clear hs
   simp[hE,hr]
 ·have hs:=h0
  repeat' first|(with_reducible first|refine zz ?_|refine zr ?_|refine zE [0,1,2,4,5,6,7,24] ?_)|simp -dsimp[hs]|refine zp c1 ?_|refine i9 ?_ ?_<;>intro h<;>try simp only[i7] at h
  all_goals try clear hs
  simp[hE,h0]
theorem Ch (d k:Int):zP prog G 215 [D3 d k] (bv false):=by
 refine zf func215 ntmps215 ?_
 try simp only[D3]
 repeat' first|(with_reducible first|refine zz ?_|refine zx ?_|refine zE [0,2] ?_)|simp -dsimp
theorem Em (x:Link):zP prog G 263 [yR x] (D3 x.drawing x.dim):=by
 refine zf func263 ntmps263 ?_
 try simp only[yR]
 repeat' first|(with_reducible first|refine zz ?_|refine zx ?_|refine zE [0,1,2] ?_)|simp -dsimp
def fd:IC:=.fn (.func 215) []
theorem yp (c:Chains) (D:List (Int×Int)) (n:Nat) (hn:n<c.loops.length) (h:OkC c):zP prog G 214 [.one (.im (J7 c D (aG c.reg c.lets))),iv (n:Int),iv 0,.one (.im fd)] (.one (.im (.sl ((aJ c c.loops[n]).map D7)))):=by
 refine zf func214 ntmps214 ?_
 try simp only[iv,iv]
 have hx:c.loops[n]?=some c.loops[n]:=by simp[hn]
 have hln:=h.gap c.loops[n] (List.getElem_mem hn)
 have hok:=fun y hy=>qq h (List.getElem_mem hn) (y:=y) hy
 have hlk:=h.link c.loops[n] (List.getElem_mem hn)
 have hE:aJ c c.loops[n]=c.loops[n].links.map (cA c):=rfl
 simp only[J7,fd]
 have hs:=za hx hn
 repeat' first|(with_reducible first|refine zz ?_|refine zE [0,1,2,3,8,9,11,12,21,22,23,24,42] ?_)|simp -dsimp[hs]
 generalize hls:c.loops[n].links=ls at *
 refine i6 (ι:={ p:Nat×Nat×Bool×List Dim // p.1≤ls.length∧p.2.2.2=(ls.take p.1).map (cA c) }) (fun p=>⟨52,[(0,.one (.im (J7 c D (aG c.reg c.lets)))),(2,iv 0),(3,.one (.im fd)),(9,.one (.vec 1 p.1.2.1 0 p.1.2.2.2.length)),(21,.one (.im (.sl (ls.map F8)))),(22,iv (ls.length:Int)),(23,iv (p.1.1:Int))],[.vec 3 [] 0 true,.vec 3 (l7 (p.1.2.2.2.map D7)) p.1.2.1 p.1.2.2.1]⟩) (fun p=>ls.length-p.1.1) ⟨(0,0,true,[]),by simp⟩ (zv [0,2,3,9,21,22,23] (by simp[J7,fd])) ?_
 rintro⟨⟨k,g,nl,out⟩,hk,ho⟩
 simp only at hk ho
 simp only[iv,J7,fd]
 have hol:out.length=k:=by rw[ho];simp;omega
 by_cases hlt:k<ls.length
 ·have hy:ls[k]?=some ls[k]:=by simp[hlt]
  have hw:=zk k
  obtain⟨l1,l2,l3⟩:=hlk ls[k] (List.getElem_mem hlt)
  obtain⟨_,he⟩:=hok ls[k] (List.getElem_mem hlt)
  have hlook:J2 (aG c.reg c.lets) ls[k].drawing=u7 c.reg c.lets ls[k].drawing:=by rw[aG,T5,if_pos l1]
  obtain⟨j,hj⟩:∃ j:Nat,ls[k].dim=j:=⟨ls[k].dim.toNat,by omega⟩
  rw[hj,Int.toNat_natCast] at he
  have hjl:=e7 he
  have hje:=(List.getElem?_eq_some_iff.1 he).2
  have c2:=Em (G:=G) ⟨ls[k].drawing,j,ls[k].back⟩
  have c3:=Ch (G:=G) ls[k].drawing j
  simp only[D3] at c2 c3
  have hon:out++[cA c ls[k]]=(ls.take (k+1)).map (cA c):=by rw[List.take_succ_eq_append_getElem hlt,List.map_append,ho];rfl
  have hs:=za hy (za hw (za hlt (za hlook (za hj (za hjl (za he hje))))))
  repeat' first|(with_reducible first|refine zz ?_|refine And.intro (by omega) ?_)|simp -dsimp[hs]|refine zp c2 ?_|refine zp c3 ?_|refine E5 (id:=5) (nt:=52) 13 [] [0,1,2,3,8,9,11,12,21,22,23,24,27,28,29,30,31,32,33,34,35,36,37,38,42] [0,1,2,3,8,9,11,12,21,22,23,24,42] mixed rfl (by kernel_rfl) ?_|with_reducible refine zE [0,1,2,3,8,9,11,12,21,22,23,24,42] ?_|refine i9 ?_ ?_<;>intro h<;>try simp only[i7] at h
  all_goals try omega
  exact zn ⟨(k+1,g+1,false,out++[cA c ls[k]]),by omega,hon⟩ (zw [0,2,3,9,21,22,23] 2 (by simp[J7,fd]))
 ·have hs:=hlt
  repeat' first|(with_reducible first|refine zz ?_|refine zr ?_|refine zE [0,1,2,3,8,9,11,12,21,22,23,24,42] ?_)|simp -dsimp[hs]|refine i9 ?_ ?_<;>intro h<;>try simp only[i7] at h
  all_goals try omega
  rw[hE,ho,List.take_of_length_le (by omega)]
theorem yv (c:Chains) (D:List (Int×Int)) (B:List (Int×Issue)) (n:Nat) (hn:n<c.loops.length) (l:List Dim) (high:Bool) (hl:c.loops[n].links.length≤12) (he:l.length=c.loops[n].links.length) (hd:∀ d∈l,I9 d=true):zP prog G 262 [.one (.im (J7 c D B)),iv (n:Int),.one (.im (.sl (l.map D7))),bv high] (.tup [r7 (qj c.loops[n].links l high),iv (gH c.loops[n].links l high)]):=by
 refine zf func262 ntmps262 ?_
 try simp only[iv,bv]
 have hxn:c.loops[n]?=some c.loops[n]:=by simp[hn]
 simp only[J7]
 have hs:=za hxn hn
 repeat' first|(with_reducible first|refine zz ?_|refine zE [0,1,2,3,8,9,10,11,12,13,14,15,24,25,26,27,37,41] ?_)|simp -dsimp[hs]
 all_goals try clear hs
 generalize c.loops[n].links=ls at *
 refine i6 (ι:={ p:Nat×Nat×Bool×List Int×Int // p.1≤ls.length∧p.2.2.2.1.length=p.1∧qj ls l high=p.2.2.2.1++((ls.zip l).drop p.1).map (fun q=>W4 high q.1 q.2)∧gH ls l high=((ls.zip l).drop p.1).foldl (fun s q=>s+pr q.1 (W4 high q.1 q.2)) p.2.2.2.2∧-1000000000*(p.1:Int)≤p.2.2.2.2∧p.2.2.2.2≤1000000000*(p.1:Int) }) (fun p=>⟨59,[(2,.one (.im (.sl (l.map D7)))),(3,bv high),(10,iv p.1.2.2.2.2),(11,.one (.vec 1 p.1.2.1 0 p.1.2.2.2.1.length)),(24,.one (.im (.sl (ls.map F8)))),(25,iv (ls.length:Int)),(26,iv (p.1.1:Int))],[.vec 1 [] 0 true,.vec 1 (l7 (p.1.2.2.2.1.map encI)) p.1.2.1 p.1.2.2.1]⟩) (fun p=>ls.length-p.1.1) ⟨(0,0,true,[],0),by simp[qj,gH]⟩ (zv [2,3,10,11,24,25,26]) ?_
 rintro⟨⟨k,g,nl,out,s⟩,hk,hol,ho,hs,hb1,hb2⟩
 simp only at hk hol ho hs hb1 hb2
 simp only[iv,bv]
 by_cases hlt:k<ls.length
 ·have hkl:k<l.length:=by omega
  have hx:ls[k]?=some ls[k]:=by simp[hlt]
  have hy:l[k]?=some l[k]:=by simp[hkl]
  have hw:=zk k
  have hz:k<(ls.zip l).length:=by simp;omega
  rw[List.drop_eq_getElem_cons hz,List.getElem_zip,List.map_cons] at ho
  rw[List.drop_eq_getElem_cons hz,List.getElem_zip,List.foldl_cons] at hs
  have hdk:=hd l[k] (List.getElem_mem hkl)
  have hdl:=(Y7 _).1 hdk
  have hsb:=Ep (high:=high) (x:=ls[k]) hdk
  have hws:IntKind.i64.wrap (s+pr ls[k] (W4 high ls[k] l[k]))=s+pr ls[k] (W4 high ls[k] l[k]):=o4 (by omega) (by omega)
  have hon:qj ls l high=(out++[W4 high ls[k] l[k]])++((ls.zip l).drop (k+1)).map (fun q=>W4 high q.1 q.2):=by rw[ho];simp
  have hwl:IntKind.i64.wrap (-l[k].lower)=-l[k].lower:=o4 (by omega) (by omega)
  have hwu:IntKind.i64.wrap (-l[k].upper)=-l[k].upper:=o4 (by omega) (by omega)
  have hwl1:IntKind.i64.wrap l[k].lower=l[k].lower:=o4 (by omega) (by omega)
  have hwu1:IntKind.i64.wrap l[k].upper=l[k].upper:=o4 (by omega) (by omega)
  have hfin:k+1≤ls.length∧(out++[W4 high ls[k] l[k]]).length=k+1∧qj ls l high=(out++[W4 high ls[k] l[k]])++((ls.zip l).drop (k+1)).map (fun q=>W4 high q.1 q.2)∧gH ls l high=((ls.zip l).drop (k+1)).foldl (fun s q=>s+pr q.1 (W4 high q.1 q.2)) (s+pr ls[k] (W4 high ls[k] l[k]))∧-1000000000*((k+1:Nat):Int)≤s+pr ls[k] (W4 high ls[k] l[k])∧s+pr ls[k] (W4 high ls[k] l[k])≤1000000000*((k+1:Nat):Int):=⟨by omega,by simp;omega,hon,hs,by omega,by omega⟩
  cases hbk:ls[k].back<;>cases high
  all_goals have hN:∀ h,W4 h ls[k] l[k]=if h != ls[k].back then l[k].upper else l[k].lower:=fun _=>rfl
  all_goals have hS:∀ n,pr ls[k] n=if ls[k].back then -n else n:=fun _=>rfl
  all_goals simp only[hN,hS,hbk,bne_self_eq_false,Bool.false_eq_true,if_false,if_true,Bool.true_bne,Bool.false_bne,Bool.not_false] at hws hfin
  all_goals clear hN hS
  ·have hs:=za hx (za hy (za hw (za hlt (za hkl (za hbk (za hws (za hwl1 hwu1)))))))
   repeat' first|(with_reducible first|refine zz ?_|refine And.intro (by omega) ?_|refine zE [0,1,2,3,8,9,10,11,12,13,14,15,24,25,26,27,37,41] ?_)|simp -dsimp[hs]|refine i9 ?_ ?_<;>intro h<;>try simp only[i7] at h
   all_goals try clear hs
   all_goals try omega
   exact zn ⟨(k+1,g+1,false,out++[l[k].lower],s+l[k].lower),hfin⟩ (zw [2,3,10,11,24,25,26] 2)
  ·have hs:=za hx (za hy (za hw (za hlt (za hkl (za hbk (za hws (za hwl1 hwu1)))))))
   repeat' first|(with_reducible first|refine zz ?_|refine And.intro (by omega) ?_|refine zE [0,1,2,3,8,9,10,11,12,13,14,15,24,25,26,27,37,41] ?_)|simp -dsimp[hs]|refine i9 ?_ ?_<;>intro h<;>try simp only[i7] at h
   all_goals try clear hs
   all_goals try omega
   exact zn ⟨(k+1,g+1,false,out++[l[k].upper],s+l[k].upper),hfin⟩ (zw [2,3,10,11,24,25,26] 2)
  ·have hs:=za hx (za hy (za hw (za hlt (za hkl (za hbk (za hws (za hwl hwu)))))))
   repeat' first|(with_reducible first|refine zz ?_|refine And.intro (by omega) ?_|refine zE [0,1,2,3,8,9,10,11,12,13,14,15,24,25,26,27,37,41] ?_)|simp -dsimp[hs]|refine i9 ?_ ?_<;>intro h<;>try simp only[i7] at h
   all_goals try clear hs
   all_goals try omega
   exact zn ⟨(k+1,g+1,false,out++[l[k].upper],s + -l[k].upper),hfin⟩ (zw [2,3,10,11,24,25,26] 2)
  ·have hs:=za hx (za hy (za hw (za hlt (za hkl (za hbk (za hws (za hwl hwu)))))))
   repeat' first|(with_reducible first|refine zz ?_|refine And.intro (by omega) ?_|refine zE [0,1,2,3,8,9,10,11,12,13,14,15,24,25,26,27,37,41] ?_)|simp -dsimp[hs]|refine i9 ?_ ?_<;>intro h<;>try simp only[i7] at h
   all_goals try clear hs
   all_goals try omega
   exact zn ⟨(k+1,g+1,false,out++[l[k].lower],s + -l[k].lower),hfin⟩ (zw [2,3,10,11,24,25,26] 2)
 ·rw[List.drop_eq_nil_of_le (by simp;omega)] at ho hs
  have hs:=hlt
  repeat' first|(with_reducible first|refine zz ?_|refine zr ?_|refine zE [0,1,2,3,8,9,10,11,12,13,14,15,24,25,26,27,37,41] ?_)|simp -dsimp[hs]|refine i9 ?_ ?_<;>intro h<;>try simp only[i7] at h
  all_goals try clear hs
  all_goals try omega
  rw[ho,hs];simp
theorem yq (c:Chains) (D:List (Int×Int)) (B:List (Int×Issue)) (n:Nat) (hn:n<c.loops.length) (l:List Dim) (hl:c.loops[n].links.length≤12) (he:l.length=c.loops[n].links.length) (hd:∀ d∈l,I9 d=true):zP prog G 213 [.one (.im (J7 c D B)),iv (n:Int),.one (.im (.sl (l.map D7)))] (D3 (gH c.loops[n].links l false) (gH c.loops[n].links l true)):=by
 refine zf func213 ntmps213 ?_
 try simp only[iv]
 have c2:=yv (G:=G) c D B n hn l false hl he hd
 have c3:=yv (G:=G) c D B n hn l true hl he hd
 repeat' first|(with_reducible first|refine zz ?_|refine zx ?_|refine zE [0,1,2,6,8,10] ?_)|simp -dsimp|refine zp c2 ?_|refine zp c3 ?_
def Ih (c:Chains) (n:Int):Int:=match c.loops[n.toNat]? with|some x=>gH x.links (aJ c x) false|none=>0
def Im (c:Chains) (n:Int):Int:=match c.loops[n.toNat]? with|some x=>gH x.links (aJ c x) true|none=>0
def Bp (c:Chains) (n:Int):Int:=if F3 c n=0 then Ih c n else 0
def Bq (c:Chains) (n:Int):Int:=if F3 c n=0 then Im c n else 0
theorem yw (c:Chains) (n:Int) (hG:o3 G) (hC:L6 G) (hs:lR c) (hok:A5 c=0→OkC c):zP prog G 167 [Bt c,iv n] (.tup [D3 (Bp c n) (Bq c n),iv (F3 c n)]):=by
 refine zf func167 ntmps167 ?_
 try simp only[Bt,iv]
 have c1:=Cp c n hG hC hs
 by_cases hE:F3 c n=0
 ·have h0:A5 c=0:=by
   by_cases h:A5 c=0
   ·exact h
   ·simp[F3,h] at hE
  have hr:0≤n∧n<c.loops.length:=Classical.byContradiction fun h=>by simp[F3,h0,h] at hE
  obtain⟨k,rfl⟩:∃ k:Nat,n=k:=⟨n.toNat,by omega⟩
  have hk:k<c.loops.length:=by omega
  have h:=hok h0
  have hx:c.loops[k]?=some c.loops[k]:=by simp[hk]
  have c2:=yp (G:=G) c (R6 c) k hk h
  obtain⟨hsl,hsd⟩:=pm h hk
  have hln:=(h.gap c.loops[k] (List.getElem_mem hk)).1
  have c3:=yq (G:=G) c (R6 c) (aG c.reg c.lets) k hk (aJ c c.loops[k]) (by omega) hsl hsd
  have h1:Ih c (k:Int)=gH c.loops[k].links (aJ c c.loops[k]) false:=by simp only[Ih,Int.toNat_natCast,hx]
  have h2:Im c (k:Int)=gH c.loops[k].links (aJ c c.loops[k]) true:=by simp only[Im,Int.toNat_natCast,hx]
  rw[← h1,← h2] at c3
  rw[hE] at c1
  simp only[az,h0,if_true,J7] at c1
  rw[Bp,Bq,if_pos hE,if_pos hE]
  simp only[J7,fd,D3] at c2 c3
  have hs:=trivial
  repeat' first|(with_reducible first|refine zz ?_|refine zr ?_|refine zE [0,1,2,4,5,6,7,15] ?_)|simp -dsimp[hs]|refine zp c1 ?_|refine zp c2 ?_|refine zp c3 ?_|refine i9 ?_ ?_<;>intro h<;>try simp only[i7] at h
  all_goals try clear hs
  all_goals simp[hE]
 ·obtain⟨X,hX⟩:=nn c
  rw[hX] at c1
  rw[Bp,Bq,if_neg hE,if_neg hE]
  have hs:=hE
  repeat' first|(with_reducible first|refine zz ?_|refine zr ?_|refine zE [0,1,2,4,5,6,7,15] ?_)|simp -dsimp[hs]|refine zp c1 ?_|refine i9 ?_ ?_<;>intro h<;>try simp only[i7] at h
  all_goals try clear hs
theorem nj (h1:Bool):∀ (q:List (Link×Dim)) (a b:Int),(∀ p∈q,I9 p.2=true)→a≤b→q.foldl (fun s p=>s+pr p.1 (W4 false p.1 p.2)) a≤q.foldl (fun s p=>s+pr p.1 (W4 true p.1 p.2)) b
 | [],a,b,_,h=>h
 | p :: q,a,b,hd,h=>by
   rw[List.foldl_cons,List.foldl_cons]
   refine nj h1 q _ _ (fun p hp=>hd p (by simp[hp])) ?_
   have hp:=(Y7 _).1 (hd p (by simp))
   have:pr p.1 (W4 false p.1 p.2)≤pr p.1 (W4 true p.1 p.2):=by
    unfold pr W4
    cases p.1.back<;>simp<;>omega
   omega
theorem Hm {ls:List Link} {l:List Dim} (hd:∀ d∈l,I9 d=true):gH ls l false≤gH ls l true:=
 nj true _ 0 0 (fun _ hp=>hd _ (List.of_mem_zip hp).2) (Int.le_refl _)
def Jg (c:Chains) (n:Int):Int:=match c.loops[n.toNat]? with
 | some x=>if x.lo≤Bp c n∧Bq c n≤x.hi then 2 else if Bq c n<x.lo∨x.hi<Bp c n then 0 else 1
 | none=>0
def R7 (c:Chains) (n:Int):Int:=if F3 c n=0 then Jg c n else 0
def tZ (n:Int):DV:=.one (.im (.raw (.int .u8 n)))
attribute [simp] tZ
theorem jk {c:Chains} {n:Int} (h:F3 c n=0):A5 c=0∧∃ k:Nat,n=k∧k<c.loops.length:=by
 have h0:A5 c=0:=by
  by_cases h':A5 c=0
  ·exact h'
  ·simp[F3,h'] at h
 have hr:0≤n∧n<c.loops.length:=Classical.byContradiction fun h'=>by simp[F3,h0,h'] at h
 exact⟨h0,n.toNat,by omega,by omega⟩
theorem yf {c:Chains} {n:Int} (h:F3 c n=0) (hok:A5 c=0→OkC c):Bp c n≤Bq c n:=by
 obtain⟨h0,k,rfl,hk⟩:=jk h
 have hx:c.loops[k]?=some c.loops[k]:=by simp[hk]
 obtain⟨hsl,hsd⟩:=pm (hok h0) hk
 rw[Bp,Bq,if_pos h,if_pos h]
 simp only[Ih,Im,Int.toNat_natCast,hx]
 exact Hm hsd
theorem vC (c:Chains) (n:Int) (hG:o3 G) (hC:L6 G) (hs:lR c) (hok:A5 c=0→OkC c):zP prog G 103 [Bt c,iv n] (.tup [tZ (R7 c n),iv (F3 c n)]):=by
 refine zf func103 ntmps103 ?_
 try simp only[Bt,iv]
 have c1:=yw c n hG hC hs hok
 by_cases hE:F3 c n=0
 ·have hle:=yf hE hok
  obtain⟨h0,k,rfl,hk⟩:=jk hE
  have hx:c.loops[k]?=some c.loops[k]:=by simp[hk]
  have hK:R7 c (k:Int)=if c.loops[k].lo≤Bp c (k:Int)∧Bq c (k:Int)≤c.loops[k].hi then 2 else if Bq c (k:Int)<c.loops[k].lo∨c.loops[k].hi<Bp c (k:Int) then 0 else 1:=by simp only[R7,Jg,Int.toNat_natCast,hx,if_pos hE]
  generalize Bp c (k:Int)=a at *
  generalize Bq c (k:Int)=b at *
  have c2:=bl (G:=G) c.loops[k].lo c.loops[k].hi [a,b] (by simp)
  simp only[D3,hE] at c1
  by_cases hin:c.loops[k].lo≤a∧b≤c.loops[k].hi
  ·have hq:([a,b].all fun x=>decide (c.loops[k].lo≤x)&&decide (x≤c.loops[k].hi))=true:=by simp;omega
   rw[if_pos hin] at hK
   rw[hq] at c2
   have hs:=za hx hk
   repeat' first|(with_reducible first|refine zz ?_|refine zr ?_|refine zE [0,1,2,4,5,6,7,8,16,24,35] ?_)|simp -dsimp[hs]|refine zp c1 ?_|refine zt c2 ?_ ?_ ?_;(focus simp;done);focus (simp;done)|refine i9 ?_ ?_<;>intro h<;>try simp only[i7] at h
   all_goals try clear hs
   all_goals simp[hK,hE]
  ·have hq:([a,b].all fun x=>decide (c.loops[k].lo≤x)&&decide (x≤c.loops[k].hi))=false:=by simp;omega
   rw[if_neg hin] at hK
   rw[hq] at c2
   have hs:=za hx hk
   repeat' first|(with_reducible first|refine zz ?_|refine zr ?_|refine zE [0,1,2,4,5,6,7,8,16,24,35] ?_)|simp -dsimp[hs]|refine zp c1 ?_|refine zt c2 ?_ ?_ ?_;(focus simp;done);focus (simp;done)|refine i9 ?_ ?_<;>intro h<;>try simp only[i7] at h
   all_goals try clear hs
   all_goals first
    | (exfalso;omega)
    | (rw[if_pos (by omega)] at hK;simp[hK,hE];done)
    | (rw[if_neg (by omega)] at hK;simp[hK,hE])
 ·have hK:R7 c n=0:=by simp[R7,hE]
  have hs:=hE
  repeat' first|(with_reducible first|refine zz ?_|refine zr ?_|refine zE [0,1,2,4,5,6,7,8,16,24,35] ?_)|simp -dsimp[hs]|refine zp c1 ?_|refine i9 ?_ ?_<;>intro h<;>try simp only[i7] at h
  all_goals try clear hs
  all_goals simp[hK]
end Go.Proofs
namespace Go.Proofs
open Go Go.Ab
theorem lf {l:List Issue} {lets:List Int} (h0:l4 l=0) (hlet:v7 l lets=true) {dep:Int→Int} (hdep:∀ n∈nums l,1≤dep n∧dep n≤6∧∀ c∈cI l n,c∈nums l∧dep c<dep n) :
 ∀ (k:Nat) (d m:Int),d∈nums l→∀ p∈O2 (u7 l lets) k d m,p.1∈nums l
 | 0,_,_,_,p,hp=>by cases hp
 | k+1,d,m,hd,p,hp=>by
   rw[O2] at hp
   split at hp
   ·rw[List.mem_singleton] at hp;rw[hp];exact hd
   ·obtain⟨y,hy,hp⟩:=List.mem_flatMap.1 hp
    have hc:=(hdep d hd).2.2 _ (kr h0 hlet hd y hy)
    exact lf h0 hlet hdep k _ _ hc.1 p hp
theorem nB {ns:List Int} (hnd:ns.Nodup):∀ (lv:List (Int×Int)) (m:List (Int×Int)),(∀ p∈lv,p.1∈ns)→FR ns (ns.map (n4 m)) lv=ns.map (n4 (jK m lv))
 | [],_,_=>rfl
 | p :: lv,m,h=>by
   have h1:=nB hnd lv (N2 p.1 (IntKind.i64.wrap (n4 m p.1+p.2)) m) fun q hq=>h q (by simp[hq])
   obtain⟨j,hj⟩:=List.mem_iff_getElem?.1 (h p (by simp))
   have he:FT ns (ns.map (n4 m)) p=ns.map (n4 (N2 p.1 (IntKind.i64.wrap (n4 m p.1+p.2)) m)):=by
    simp only[FT,lk hnd hj,Int.toNat_natCast,List.getElem?_map,hj,Option.map_some,Option.getD_some]
    rw[kW hnd hj]
    refine List.map_congr_left fun n _=>?_
    rw[Y6]
    by_cases e:n=p.1<;>simp[e]
   simp only[FR,jK,List.foldl_cons] at h1 ⊢
   rw[he];exact h1
theorem eS (f:Int→Int):∀ ns:List Int,((ns.zip (ns.map f)).filter fun p=>decide (0<p.2)).map (fun p=>(⟨p.1,p.2⟩:Itm))=(ns.filter fun n=>decide (0<f n)).map fun n=>⟨n,f n⟩
 | []=>rfl
 | n :: ns=>by
   simp only[List.map_cons,List.zip_cons_cons,List.filter_cons]
   by_cases h:0<f n
   ·simp only[h,decide_true,if_true,List.map_cons,eS f ns]
   ·simp only[h,decide_false,Bool.false_eq_true,if_false,eS f ns]
theorem pC {l:List Issue} {lets:List Int} {d:Int} (h0:l4 l=0) (hlet:v7 l lets=true) (hd:d∈nums l):kM l lets d=K5 (nums l) (mn l lets d):=by
 obtain⟨dep,hdep⟩:=qt h0
 have hnd:(nums l).Nodup:=(E4 h0).1.imp fun h=>Int.ne_of_lt h
 have h1:=nB hnd (O2 (u7 l lets) 6 d 1) [] (lf h0 hlet hdep 6 d 1 hd)
 have h2:(nums l).map (n4 [])=List.replicate (nums l).length 0:=jS (fun _=>rfl) _
 rw[h2] at h1
 have h3:HL l lets d=(nums l).map (n4 (mn l lets d)):=h1
 rw[kM,h3,eS];rfl
theorem kZ:∀ (ps:List Itm) (m:List (Int×Int)) (d:Int),(ps.map (·.drawing)).Nodup→n4 (ps.foldl (fun m x=>N2 x.drawing x.count m) m) d=if d∈ps.map (·.drawing) then dD ps d else n4 m d
 | [],m,d,_=>by simp
 | y :: ps,m,d,h=>by
   rw[List.map_cons,List.nodup_cons] at h
   rw[List.foldl_cons,kZ ps _ d h.2,Y6,dD]
   by_cases e:d=y.drawing
   ·subst e
    rw[if_neg h.1,if_pos rfl,if_pos (by simp),if_pos rfl]
   ·rw[if_neg e,if_neg (Ne.symm e)]
    by_cases hm:d∈ps.map (·.drawing)
    ·rw[if_pos hm,if_pos (by simp only[List.map_cons,List.mem_cons];exact .inr hm)]
    ·rw[if_neg hm,if_neg (by simp only[List.map_cons,List.mem_cons];exact fun h=>h.elim e hm)]
theorem dC:∀ (ps:List Itm) (d:Int),d∉ps.map (·.drawing)→dD ps d=0
 | [],_,_=>rfl
 | y :: ps,d,h=>by
   rw[List.map_cons,List.mem_cons,not_or] at h
   rw[dD,if_neg (Ne.symm h.1)];exact dC ps d h.2
def oO (ls:List Link) (d:Int):Nat:=(ls.filter fun y=>decide (y.drawing=d)).length
theorem eg (y:Link) (r:List Link) (d:Int):oO (y :: r) d=(if y.drawing=d then 1 else 0)+oO r d:=by
 unfold oO
 by_cases h:y.drawing=d
 ·rw[List.filter_cons_of_pos (by simpa using h),if_pos h,List.length_cons];omega
 ·rw[List.filter_cons_of_neg (by simpa using h),if_neg h];omega
theorem qz {ls:List Link} {y:Link} (h:y∈ls):1≤oO ls y.drawing:=
 List.length_pos_of_mem (List.mem_filter.2 ⟨h,by simp⟩)
theorem wG {ls:List Link} {d:Int} (h:∀ y∈ls,y.drawing≠d):oO ls d=0:=by
 unfold oO
 rw[List.filter_eq_nil_iff.2 fun y hy=>by simpa using h y hy];rfl
def uA (B:List (Int×Issue)) (y:Link):Bool:=decide (0≤y.dim)&&decide (y.dim≤((J2 B y.drawing).dims.length:Int)-1)
theorem km (D:List (Int×Int)) (B:List (Int×Issue)):∀ (r:List Link) (U:List (Int×Int)),W8 D B U r=true↔∀ y∈r,uA B y=true∧n4 U y.drawing+oO r y.drawing≤n4 D y.drawing
 | [],U=>by simp[W8]
 | y :: r,U=>by
   have ih:=km D B r (N2 y.drawing (n4 U y.drawing+1) U)
   have hu:W8 D B U (y :: r)=(decide (n4 U y.drawing+1≤n4 D y.drawing)&&uA B y&&W8 D B (N2 y.drawing (n4 U y.drawing+1) U) r):=rfl
   rw[hu,Bool.and_eq_true,Bool.and_eq_true,decide_eq_true_eq,ih]
   constructor
   ·rintro⟨⟨h1,h2⟩,h3⟩ z hz
    have key:∀ z∈r,uA B z=true∧n4 U z.drawing+oO (y :: r) z.drawing≤n4 D z.drawing:=fun z hz=>by
     obtain⟨a,b⟩:=h3 z hz
     rw[Y6] at b
     rw[eg]
     refine⟨a,?_⟩
     by_cases e:z.drawing=y.drawing
     ·rw[if_pos e] at b;rw[if_pos e.symm];rw[e] at b ⊢;omega
     ·rw[if_neg e] at b;rw[if_neg (Ne.symm e)];omega
    rcases List.mem_cons.1 hz with rfl|hz
    ·refine⟨h2,?_⟩
     by_cases hex:∃ w∈r,w.drawing=z.drawing
     ·obtain⟨w,hw,e⟩:=hex
      have:=(key w hw).2
      rw[e] at this;exact this
     ·rw[eg,if_pos rfl,wG fun w hw e=>hex ⟨w,hw,e⟩];omega
    ·exact key z hz
   ·intro h
    obtain⟨a,b⟩:=h y (by simp)
    rw[eg,if_pos rfl] at b
    refine⟨⟨by omega,a⟩,fun z hz=>?_⟩
    obtain⟨a',b'⟩:=h z (by simp[hz])
    refine⟨a',?_⟩
    rw[eg] at b'
    rw[Y6]
    by_cases e:z.drawing=y.drawing
    ·rw[if_pos e.symm,e] at b';rw[if_pos e,e];omega
    ·rw[if_neg (Ne.symm e)] at b';rw[if_neg e];omega
def oc (c:Chains) (ls:List Link) (y:Link):Bool:=decide ((oO ls y.drawing:Int)≤dD (kM c.reg c.lets c.of) y.drawing)&&(decide (0≤y.dim)&&decide (y.dim≤((u7 c.reg c.lets y.drawing).dims.length:Int)-1))
def bR (c:Chains) (x:ChLoop):Bool:=ti x&&qD x&&x.links.all (oc c x.links)
theorem kN {c:Chains} {d:Int} (h0:l4 c.reg=0) (hlet:v7 c.reg c.lets=true) (hof:c.of∈nums c.reg) (hc:1≤dD (kM c.reg c.lets c.of) d):d∈nums c.reg:=by
 refine Classical.byContradiction fun hn=>?_
 rw[pC h0 hlet hof,dC] at hc
 ·omega
 ·intro hm
  simp only[K5,List.map_map] at hm
  obtain⟨n,h1,h2⟩:=List.mem_map.1 hm
  simp only[Function.comp] at h2
  exact hn (h2 ▸ (List.mem_filter.1 h1).1)
theorem vO {c:Chains} (h0:l4 c.reg=0) (hlet:v7 c.reg c.lets=true) (hof:c.of∈nums c.reg) (x:ChLoop):O1 (R6 c) (aG c.reg c.lets) x=bR c x:=by
 have hnd:(nums c.reg).Nodup:=(E4 h0).1.imp fun h=>Int.ne_of_lt h
 have hT:B6 c.reg c.lets c.of=0:=by simp[B6,h0,hlet,hof]
 have hD:∀ d,n4 (R6 c) d=dD (kM c.reg c.lets c.of) d:=fun d=>by
  rw[pC h0 hlet hof]
  have hE:br c.reg c.lets c.of=K5 (nums c.reg) (mn c.reg c.lets c.of):=by rw[br,if_pos hT]
  have hn:((K5 (nums c.reg) (mn c.reg c.lets c.of)).map (·.drawing)).Nodup:=by
   simp only[K5,List.map_map]
   have:(fun x:Itm=>x.drawing) ∘ (fun n=>(⟨n,n4 (mn c.reg c.lets c.of) n⟩:Itm))=id:=rfl
   rw[this,List.map_id]
   exact hnd.filter _
  rw[R6,hE,kZ _ _ _ hn]
  split
  ·rfl
  ·rw[dC _ _ ‹_›];rfl
 unfold O1 bR
 congr 1
 rw[Bool.eq_iff_iff,km,List.all_eq_true]
 refine forall_congr' fun y=>forall_congr' fun hy=>?_
 simp only[oc,uA,Bool.and_eq_true,decide_eq_true_eq,hD]
 have hp:=qz hy
 have hz:n4 [] y.drawing=0:=rfl
 constructor
 ·rintro⟨h1,h2⟩
  have hm:=kN (d:=y.drawing) h0 hlet hof (by omega)
  rw[aG,T5,if_pos hm] at h1
  exact⟨by omega,h1⟩
 ·rintro⟨h1,h2⟩
  have hm:=kN (d:=y.drawing) h0 hlet hof (by omega)
  rw[aG,T5,if_pos hm]
  exact⟨h2,by omega⟩
theorem oQ {c:Chains} (h0:l4 c.reg=0):A5 c=(if v7 c.reg c.lets=true∧c.of∈nums c.reg∧(1≤c.loops.length∧c.loops.length≤6)∧c.loops.all (bR c)=true then 0 else 60):=by
 unfold A5
 rw[if_neg (by simp[h0])]
 by_cases hlet:v7 c.reg c.lets=true
 ·by_cases hof:c.of∈nums c.reg
  ·have hT:B6 c.reg c.lets c.of=0:=by simp[B6,h0,hlet,hof]
   have hL:c.loops.all (O1 (R6 c) (aG c.reg c.lets))=c.loops.all (bR c):=by
    congr 1;exact funext fun x=>vO h0 hlet hof x
   rw[hL]
   by_cases hn:1≤c.loops.length∧c.loops.length≤6
   ·rw[if_neg (by simp[hT];omega)]
    by_cases ha:c.loops.all (bR c)=true
    ·rw[if_pos ha,if_pos ⟨hlet,hof,hn,ha⟩]
    ·rw[if_neg ha,if_neg fun h=>ha h.2.2.2]
   ·rw[if_pos (.inr hn),if_neg fun h=>hn h.2.2.1]
  ·have hT:B6 c.reg c.lets c.of≠0:=by simp[B6,h0,hlet,hof]
   rw[if_pos (.inl hT),if_neg fun h=>hof h.2.1]
 ·have hT:B6 c.reg c.lets c.of≠0:=by
   have:v7 c.reg c.lets=false:=by simpa using hlet
   simp[B6,h0,this]
  rw[if_pos (.inl hT),if_neg fun h=>hlet h.1]
theorem JG {c:Chains} (h:A5 c=0):OkC c:=by
 have h0:l4 c.reg=0:=Classical.byContradiction fun h'=>by simp[A5,h'] at h
 rw[oQ h0] at h
 split at h
 ·rename_i hc
  obtain⟨a,b,d,e⟩:=hc
  rw[List.all_eq_true] at e
  refine⟨h0,a,b,d,fun x hx=>?_,fun x hx y hy=>?_⟩
  ·have:=e x hx
   simp only[bR,ti,Bool.and_eq_true,decide_eq_true_eq] at this
   exact⟨this.1.1.2,this.1.2⟩
  ·have:=e x hx
   simp only[bR,Bool.and_eq_true,List.all_eq_true] at this
   have:=this.2 y hy
   simp only[oc,Bool.and_eq_true,decide_eq_true_eq] at this
   have hp:=qz hy
   exact⟨kN h0 a b (by omega),this.2.1,by omega⟩
 ·cases h
variable {G:Kc}
end Go.Proofs
namespace Go.Ab
open Go
structure Spot where
 drawing:Int
 dim:Int
 deriving DecidableEq
def jX (x:Spot):List IC:=[rI x.drawing,rI x.dim]
def El (l:List Spot):DV:=.one (.im (.sl (l.map jX)))
attribute [simp] jX El
def tt (a b:Spot):Bool:=decide (a.drawing<b.drawing)||(decide (a.drawing=b.drawing)&&decide (a.dim<b.dim))
def zj (x:Spot):List Spot→Nat
 | []=>0
 | y :: r=>if tt y x then zj x r+1 else 0
def IM (x:Spot) (l:List Spot):List Spot:=l.take (zj x l)++x :: l.drop (zj x l)
def IX (f:Spot→Bool) (out:List Spot) (x:Spot):List Spot:=if f x=false∨x∈out then out else IM x out
def IW (f:Spot→Bool) (l:List Spot):List Spot:=l.foldl (IX f) []
def kS (x:Spot):List Value:=[.int .i64 x.drawing,.int .i64 x.dim]
def ww (l:List Spot):List (List Value×List DC):=l.map fun x=>(kS x,[.im (rB true)])
def DZ (l:List Spot):List (List Value×List IC):=l.map fun x=>(kS x,[rB true])
@[simp] theorem IJ (k n:Nat) (objs:List DObj) (l:List Spot):D6 (fun x:List Value×List DC=>(D6 (frz (k+1) n objs) x.2).map fun l=>(x.1,l)) (ww l)=some (DZ l):=by
 induction l with
 | nil=>rfl
 | cons p r ih =>
   have e:ww (p :: r)=(kS p,[.im (rB true)]) :: ww r:=rfl
   rw[e]
   simp[D6,ih,DZ]
@[simp] theorem Hj (n:Nat) (objs:List DObj) (l:List Spot):((ww l).map fun x=>(x.1,x.2.map (fz n objs)))=ww l:=by
 simp[ww,fz,DC.lt]
@[simp] theorem Hz (L:List Spot) (k:Nat) (h:k<(l7 (L.map jX)).length):(l7 (L.map jX))[k]=[DC.im (.raw (.int .i64 (L[k]'(by simpa[q9] using h)).drawing)),DC.im (.raw (.int .i64 (L[k]'(by simpa[q9] using h)).dim))]:=by
 simp[l7]
end Go.Ab
namespace Go.Proofs
open Go Go.Ab
def xP (y:Link):Spot:=⟨y.drawing,y.dim⟩
def Hd (d:Dim):Int:=min (max d.nominal d.lower) d.upper
def Eh (d:Dim) (g:Int):Dim:=⟨d.nominal,max d.lower (Hd d-g),min d.upper (Hd d+g)⟩
def IS (c:Chains) (so:Spot→Bool) (g:Int) (y:Link):Dim:=if so (xP y) then Eh (cA c y) g else cA c y
def Jb (c:Chains) (so:Spot→Bool) (g:Int) (x:ChLoop):List Dim:=x.links.map (IS c so g)
def JI (c:Chains) (so:Spot→Bool) (g:Int) (x:ChLoop):Int:=gH x.links (Jb c so g x) false
def JM (c:Chains) (so:Spot→Bool) (g:Int) (x:ChLoop):Int:=gH x.links (Jb c so g x) true
def De (c:Chains) (so:Spot→Bool) (g:Int) (x:ChLoop):Bool:=decide (x.lo≤JI c so g x)&&decide (JM c so g x≤x.hi)
def IV (c:Chains) (so:Spot→Bool) (g:Int):Bool:=c.loops.all (De c so g)
def jN (c:Chains):List Spot:=c.loops.flatMap fun x=>x.links.map xP
def Fc (c:Chains) (x:Spot):Bool:=decide ((u7 c.reg c.lets x.drawing).kind≠3)
def qO (c:Chains):List Spot:=IW (Fc c) (jN c)
def gs (p:Int→Bool):Nat→Int→Int→Int
 | 0,lo,_=>lo
 | k+1,lo,hi=>if lo<hi then (if p (hi-(hi-lo) / 2) then gs p k (hi-(hi-lo) / 2) hi else gs p k lo (hi-(hi-lo) / 2-1)) else lo
def He (l:List Spot) (set:Nat):Nat→List Spot
 | 0=>[]
 | k+1=>He l set k++(match l[k]? with
   | some x=>if set.testBit k then [x] else []
   | none=>[])
def lexB:List Spot→List Spot→Bool
 | a :: l,b :: m=>if a=b then lexB l m else tt a b
 | _,_=>false
def xQ (a b:List Spot):Bool:=decide (a.length<b.length)||(decide (a.length=b.length)&&lexB a b)
def Dm (best:Option (List Spot)) (x:List Spot):Bool:=match best with
 | none=>true
 | some b=>xQ x b
def Gv (good:List Spot→Bool) (best:Option (List Spot)) (x:List Spot):Option (List Spot):=if Dm best x&&good x then some x else best
def Er (all:List Spot) (k:Nat):List (List Spot):=(List.range k).map fun s=>He all s all.length
def JL (l:List Spot):Spot→Bool:=fun x=>decide (x∈l)
def HE (c:Chains) (x:List Spot):Bool:=IV c (JL x) 0
def zW (c:Chains) (b0:Option (List Spot)) (k:Nat):Option (List Spot):=(Er (qO c) k).foldl (Gv (HE c)) b0
def IR (c:Chains):Option (List Spot):=zW c none (2 ^ (qO c).length)
open Go Go.Ab Tryz
variable {G:Kc}
def SoF (G:Kc) (c:Chains) (fv:IC) (so:Spot→Bool):Prop:=
 (∃ (f:FuncId) (caps:List IC),fv=.fn (.func f) caps∧D4 prog f∧∀ x∈jN c,∀ objs,DCall prog G f (D3 x.drawing x.dim :: caps.map fun c=>.one (.im c)) objs (fun d o=>d=bv (so x)∧o=objs)) ∨
 (∃ (f:FuncId) (l:List IC),fv=.bf (.func f) l∧D4 prog f∧∀ x∈jN c,∀ objs,DCall prog G f ((l.map fun c=>DV.one (.im c))++[D3 x.drawing x.dim]) objs (fun d o=>d=bv (so x)∧o=objs))
def jE:List Int→Int
 | []=>0
 | x :: r=>if x=0 then jE r else x
theorem DN (l:List Int) (hl:l.length<1000000):zP prog G 84 [r7 l] (iv (jE l)):=by
 refine zf func84 ntmps84 ?_
 try simp only[r7]
 have hs:=trivial
 repeat' first|(with_reducible first|refine zz ?_|refine zE [0,2,3,5,6,7,8,9,14] ?_)|simp -dsimp[hs]
 refine i6 (ι:={ p:Nat // p≤l.length∧jE l=jE (l.drop p) }) (fun p=>⟨18,[(3,iv 0),(6,.one (.im (.sl (l.map encI)))),(7,iv (l.length:Int)),(8,iv (p.1:Int))],[]⟩) (fun p=>l.length-p.1) ⟨0,by simp⟩ (zv [3,6,7,8]) ?_
 rintro⟨k,hk,hu⟩
 simp only[iv]
 by_cases hlt:k<l.length
 ·have hw:=zk k
  rw[List.drop_eq_getElem_cons hlt,jE] at hu
  generalize hx:l[k]=x at *
  have hs:=za hx (za hw hlt)
  repeat' first|(with_reducible first|refine zz ?_|refine zr ?_|refine zE [0,2,3,5,6,7,8,9,14] ?_)|simp -dsimp[hs]|refine i9 ?_ ?_<;>intro h<;>try simp only[i7] at h
  ·rw[hu,if_neg (by assumption)]
  ·rw[if_pos (by assumption)] at hu
   exact zn ⟨k+1,by omega,hu⟩ (zv [3,6,7,8])
 ·rw[List.drop_eq_nil_of_le (by omega)] at hu
  have hs:=hlt
  repeat' first|(with_reducible first|refine zz ?_|refine zr ?_|refine zE [0,2,3,5,6,7,8,9,14] ?_)|simp -dsimp[hs]|refine i9 ?_ ?_<;>intro h<;>try simp only[i7] at h
  rw[hu];rfl
attribute [simp] q8 bF r5 w7 nilV H8 ZK
theorem SoF.congr {c:Chains} {fv:IC} {so so':Spot→Bool} (h:SoF G c fv so) (he:∀ x∈jN c,so x=so' x):SoF G c fv so':=by
 rcases h with⟨f,caps,h1,h2,h3⟩|⟨f,caps,h1,h2,h3⟩
 ·exact .inl ⟨f,caps,h1,h2,fun x hx objs=>(h3 x hx objs).mono fun d o ⟨a,b⟩=>⟨by rw[a,he x hx],b⟩⟩
 ·exact .inr ⟨f,caps,h1,h2,fun x hx objs=>(h3 x hx objs).mono fun d o ⟨a,b⟩=>⟨by rw[a,he x hx],b⟩⟩
attribute [simp] q8 bF r5 w7 nilV H8 ZK
attribute [simp] q8 bF L4 eq r5 w7 nilV H8 ZK
@[simp] theorem Gg (L:List ChLoop) (k:Nat) (h:k<(l7 (L.map G4)).length):(l7 (L.map G4))[k]=[DC.im (.sl ((L[k]'(by simpa[q9] using h)).links.map F8)),DC.im (.raw (.int .i64 (L[k]'(by simpa[q9] using h)).lo)),DC.im (.raw (.int .i64 (L[k]'(by simpa[q9] using h)).hi))]:=by
 simp[l7,G4,rI]
@[simp] theorem Gf (L:List Issue) (k:Nat) (h:k<(l7 (L.map e9)).length):(l7 (L.map e9))[k]=(e9 (L[k]'(by simpa[q9] using h))).map .im:=by
 simp[l7]
def bU (l:List Issue) (d:Int):DV:=if l4 l=0∧d∈nums l then .one (.im (w5 l (nums l))) else .one (.im (.raw (.pointer none)))
theorem vT (l:List Issue) (d:Int):ImV (bU l d):=by unfold bU;split<;>simp[w5]
attribute [simp] vT
def Z6 (l:List Issue) (d:Int):Int:=if l4 l≠0 then l4 l else if d∈nums l then 0 else 6
theorem Cu (l:List Issue) (d:Int) (hG:o3 G) (hs:U4 l):zP prog G 209 [G9 l,iv d] (.tup [bU l d,iv (Z6 l d)]):=by
 refine zf func209 ntmps209 ?_
 try simp only[G9,iv]
 have c1:=gf l hG hs
 by_cases h0:l4 l=0
 ·simp only[bA,h0,if_true] at c1
  have c2:=zF (G:=G) l (nums l) d ((E4 h0).1.imp fun h=>Int.le_of_lt h) (by have:=hs.1;have:=u6 l l.length;unfold nums;omega)
  by_cases hm:d∈nums l
  ·simp only[hm,decide_true,w5] at c1 c2
   have hs:=trivial
   repeat' first|(with_reducible first|refine zz ?_|refine zr ?_|refine zE [0,1,2,4,5,6,7,14,19] ?_)|simp -dsimp[hs]|refine zp c1 ?_|refine zp c2 ?_|refine i9 ?_ ?_<;>intro h<;>try simp only[i7] at h
   all_goals try clear hs
   all_goals simp[bU,Z6,h0,hm,w5]
  ·simp only[hm,decide_false,w5] at c1 c2
   have hs:=trivial
   repeat' first|(with_reducible first|refine zz ?_|refine zr ?_|refine zE [0,1,2,4,5,6,7,14,19] ?_)|simp -dsimp[hs]|refine zp c1 ?_|refine zp c2 ?_|refine i9 ?_ ?_<;>intro h<;>try simp only[i7] at h
   all_goals try clear hs
   all_goals simp[bU,Z6,h0,hm,w5]
 ·simp only[bA,h0,if_false] at c1
  have hs:=h0
  repeat' first|(with_reducible first|refine zz ?_|refine zr ?_|refine zE [0,1,2,4,5,6,7,14,19] ?_)|simp -dsimp[hs]|refine zp c1 ?_|refine i9 ?_ ?_<;>intro h<;>try simp only[i7] at h
  all_goals try clear hs
  all_goals simp[bU,Z6,h0]
def er (l:List Issue) (d:Int):Nat:=(l.filter fun x=>decide (x.drawing=d)).length
theorem BG {l:List Issue} {d:Int} (hs:(l.map (·.drawing)).Pairwise (·≤·)):er l d=er (l.drop (lb (l.map (·.drawing)) d)) d:=by
 conv=>lhs;rw[← List.take_append_drop (lb (l.map (·.drawing)) d) l]
 simp only[er,List.filter_append]
 rw[List.filter_eq_nil_iff.2 fun x hx=>?_]
 ·rfl
 ·have:=rE hs x hx
  simp;omega
theorem Cs (l:List Issue) (ds:List Int) (d:Int) (hs:(l.map (·.drawing)).Pairwise (·≤·)) (hl:l.length<1000000):zP prog G 210 [.one (.im (w5 l ds)),iv d] (iv (er l d:Int)):=by
 refine zf func210 ntmps210 ?_
 try simp only[iv]
 simp only[w5]
 have c1:=lh (G:=G) (w5 l ds) d
 simp only[w5] at c1
 have hs:=trivial
 repeat' first|(with_reducible first|refine zz ?_|refine zE [0,1,4,5,8] ?_)|simp -dsimp[hs]|refine zp c1 ?_
 all_goals try clear hs
 refine M8 (f:=280) (by simp;exact rfl) (by rfl) call280 ?_
 generalize hR:LoopD.mk _ _ _ _ _ _ _=R
 have hR1:R.st=.ready:=by rw[← hR]
 have hR2:R.pend=none:=by rw[← hR]
 have hR3:R.at .ready none=R:=by rw[← hR];rfl
 have hR4:=(congrArg LoopD.nt hR).symm
 have hR5:=(congrArg LoopD.tm hR).symm
 have hR6:=(congrArg LoopD.ps hR).symm
 have hR7:=(congrArg LoopD.asg hR).symm
 have hR8:=(congrArg LoopD.body hR).symm
 dsimp only at hR4 hR5 hR6 hR7 hR8
 clear hR
 refine g9 func280 rfl ntmps280 (by simp) rfl ?_
 have hR9:∀ objs:List DObj,(R.tm.map fun x=>(x.1,eO 2 objs x.2))=R.tm:=by intro objs;rw[hR5];simp
 have hlb:=pS (l.map (·.drawing)) d
 rw[List.length_map] at hlb
 have c2:=fx (G:=G) l d hs hl
 have hs:=za hR1 (za hR2 (za hR3 hlb))
 repeat' first|with_reducible refine zz ?_|simp -dsimp[hs]|refine zq c2 ?_|refine zM 0 41 12 [0,1,2,4,7,24,25,26,27,39] ?_|with_reducible refine zE [0,1,2,4,5,7,8,24,25,26,27,39] ?_
 all_goals try clear hs
 rw[← List.map_drop]
 have hge:=rF (d:=d) hs
 have hss:((l.drop (lb (l.map (·.drawing)) d)).map (·.drawing)).Pairwise (·≤·):=by rw[List.map_drop];exact hs.drop
 have hsl:l.length-lb (l.map (·.drawing)) d=(l.drop (lb (l.map (·.drawing)) d)).length:=by simp
 rw[hsl]
 have hsl2:(l.drop (lb (l.map (·.drawing)) d)).length<1000000:=by simp;omega
 rw[BG hs]
 generalize l.drop (lb (l.map (·.drawing)) d)=s at hge hss hsl2 ⊢
 refine i6 (ι:={ k:Nat // k≤s.length∧k+er (s.drop k) d=er s d }) (fun p=>⟨41,[(0,.one (.yld 1)),(2,.one (.im (.ip [rI d]))),(24,.one (.im (.sl (s.map e9)))),(25,iv (s.length:Int)),(26,iv (p.1:Int))],[.row [.im (rI (p.1:Int))],.loop R]⟩) (fun p=>s.length-p.1) ⟨0,by simp⟩ (zv [0,2,24,25,26]) ?_
 rintro⟨k,hk,hno⟩
 simp only[iv]
 by_cases hlt:k<s.length
 ·have hx:s[k]?=some s[k]:=by simp[hlt]
  have hw:=zk k
  have hcons:s.drop k=s[k] :: s.drop (k+1):=List.drop_eq_getElem_cons hlt
  by_cases hd:s[k].drawing=d
  ·have hno':k+1+er (s.drop (k+1)) d=er s d:=by
    rw[← hno,er,er,hcons,List.filter_cons_of_pos (by simp[hd]),List.length_cons];omega
   have hs:=za hR1 (za hR2 (za hR3 (za hx (za hw (za hd hlt)))))
   repeat' first|(with_reducible first|refine zz ?_|refine zE [0,1,2,4,5,7,8,24,25,26,27,39] ?_)|simp -dsimp[hs]|with_reducible refine At.yield_end ?_;simp -dsimp[hs]|refine V5 ?_ ?_<;>simp -dsimp[hs]|refine J1 ?_;simp -dsimp[N4,hR4,hR5,hR6,hR7,hR8,hs]|refine i9 ?_ ?_<;>intro h<;>try simp only[i7] at h
   all_goals try clear hs
   all_goals exact zn ⟨k+1,by omega,hno'⟩ (zw [0,2,24,25,26] 2 (by simp[hR9]))
  ·have hnone:er (s.drop k) d=0:=by
    simp only[er,List.length_eq_zero_iff,List.filter_eq_nil_iff]
    intro x hxm
    obtain⟨i,hi⟩:=List.mem_iff_getElem?.1 hxm
    rw[List.getElem?_drop] at hi
    have h1:s[k].drawing≤x.drawing:=by
     rcases Nat.eq_zero_or_pos i with rfl|hp
     ·rw[Nat.add_zero,hx] at hi;cases hi;exact Int.le_refl _
     ·have hlt2:=(List.getElem?_eq_some_iff.1 hi).1
      have:=(List.pairwise_iff_getElem.1 hss) k (k+i) (by simpa using hlt) (by simpa using hlt2) (by omega)
      have h6:=(List.getElem?_eq_some_iff.1 hi).2
      simp at this;rw[h6] at this;exact this
    have h2:=hge s[k] (List.getElem_mem hlt)
    simp;omega
   have hN:er s d=k:=by omega
   have hs:=za hR1 (za hR2 (za hR3 (za hx (za hw (za hd hlt)))))
   repeat' first|(with_reducible first|refine zz ?_|refine zr ?_ (by simp -dsimp[B0,hs];exact rfl)|refine zE [0,1,2,4,5,7,8,24,25,26,27,39] ?_)|simp -dsimp[B0,hs]|with_reducible show B0 _ _ _ _ _ _ _ _;simp -dsimp[B0,hs]|refine i9 ?_ ?_<;>intro h<;>try simp only[i7] at h
   all_goals try clear hs
   all_goals simp[hN]
 ·have hN:er s d=k:=by rw[← hno,List.drop_eq_nil_of_le (by omega)];simp[er]
  have hs:=za hR1 (za hR2 (za hR3 hlt))
  repeat' first|(with_reducible first|refine zz ?_|refine zr ?_ (by simp -dsimp[B0,hs];exact rfl)|refine ze ?_ (by simp -dsimp[B0,hs];exact rfl)|refine zE [0,1,2,4,5,7,8,24,25,26,27,39] ?_)|simp -dsimp[B0,hs]|with_reducible show B0 _ _ _ _ _ _ _ _;simp -dsimp[B0,hs]|refine i9 ?_ ?_<;>intro h<;>try simp only[i7] at h
  all_goals try clear hs
  all_goals simp[hN]
def yT (l:List Issue) (d:Int):Int:=if Z6 l d=0 then (er l d:Int) else 0
theorem BV (l:List Issue) (d:Int) (hG:o3 G) (hs:U4 l):zP prog G 154 [G9 l,iv d] (.tup [iv (yT l d),iv (Z6 l d)]):=by
 refine zf func154 ntmps154 ?_
 try simp only[G9,iv]
 have c1:=Cu (G:=G) l d hG hs
 by_cases h0:Z6 l d=0
 ·have hk:l4 l=0∧d∈nums l:=by
   unfold Z6 at h0
   by_cases h1:l4 l=0
   ·refine⟨h1,?_⟩
    rw[if_neg (by simp[h1])] at h0
    by_cases h2:d∈nums l
    ·exact h2
    ·rw[if_neg h2] at h0;cases h0
   ·rw[if_pos h1] at h0;exact absurd h0 h1
  have c2:=Cs (G:=G) l (nums l) d (ci hk.1) (by have:=hs.1;omega)
  rw[bU,if_pos hk,h0] at c1
  rw[yT,if_pos h0,h0]
  simp only[w5] at c1 c2
  have hs:=trivial
  repeat' first|(with_reducible first|refine zz ?_|refine zr ?_|refine zE [0,1,2,4,5,6,7,15] ?_)|simp -dsimp[hs]|refine zp c1 ?_|refine zp c2 ?_|refine i9 ?_ ?_<;>intro h<;>try simp only[i7] at h
  all_goals try clear hs
 ·rw[yT,if_neg h0]
  generalize hX:bU l d=X at c1
  have hXo:∃ x,X=.one (.im x):=by subst hX;unfold bU;split<;>exact⟨_,rfl⟩
  obtain⟨x,rfl⟩:=hXo
  generalize Z6 l d=e at *
  have hs:=h0
  repeat' first|(with_reducible first|refine zz ?_|refine zr ?_|refine zE [0,1,2,4,5,6,7,15] ?_)|simp -dsimp[hs]|refine zp c1 ?_|refine i9 ?_ ?_<;>intro h<;>try simp only[i7] at h
  all_goals try clear hs
end Go.Proofs
namespace Go.Ab
open Go
structure Piece where
 holder:Int
 day:Int
 lo:Int
 hi:Int
 deriving DecidableEq
structure Case where
 p:Prints
 machine:Int
 of:Int
 loop:ChLoop
 pieces:List Piece
 deriving DecidableEq
def A2 (x:Piece):List IC:=[rI x.holder,rI x.day,rI x.lo,rI x.hi]
def j4 (c:Case):List IC:=[.sl (c.p.n.reg.map e9),.sl (c.p.n.notes.map l5),.sl (c.p.holders.map o6),.sl (c.p.prints.map w8),rI c.machine,rI c.of,.sl (c.loop.links.map F8),rI c.loop.lo,rI c.loop.hi,.sl (c.pieces.map A2)]
def EF (x:Piece):DV:=.agg ((A2 x).map .im)
def n5 (c:Case):DV:=.agg ((j4 c).map .im)
attribute [simp] A2 j4 EF n5
end Go.Ab
namespace Go.Proofs
open Go Go.Ab
variable {G:Kc}
theorem wd (x lo hi:Int):DCall Tryz.prog G 157 (iv x :: [DC.ptr 0 0,DC.ptr 1 0].map .one) [.row [.im (rI lo)],.row [.im (rI hi)]] (fun d o=>d=bv (decide (x<lo)||decide (hi<x))∧o=[.row [.im (rI lo)],.row [.im (rI hi)]]):=by
 refine g9 Tryz.func157 rfl Tryz.ntmps157 (by simp) rfl ?_
 simp only[rI]
 have hs:=trivial
 repeat' first|(with_reducible first|refine zz ?_|refine zr ?_|refine zE [0,1,2,4] ?_)|simp -dsimp[hs]|with_reducible refine j0 ?_ ?_<;>intro h<;>have h0:=h<;>(try simp only[i7] at h)<;>have h2:=h<;>(try simp at h2)<;>replace hs:=za h0 (za h (za h2 hs))|with_reducible refine And.intro ?_ ?_
 all_goals try clear hs
 all_goals simp[*]
theorem N7 (lo hi:Int) (l:List Int) (hl:l.length<1000000):zP Tryz.prog G 96 [iv lo,iv hi,r7 l] (bv (l.all fun x=>decide (lo≤x)&&decide (x≤hi))):=by
 refine zf Tryz.func96 Tryz.ntmps96 ?_
 try simp only[iv,iv,r7]
 have hc:=B4 (G:=G) l (fun x=>decide (x<lo)||decide (hi<x)) 157 [.ptr 0 0,.ptr 1 0] [.row [.im (rI lo)],.row [.im (rI hi)]] (by simp) (fun x _=>wd x lo hi) hl
 simp only[rI] at hc
 repeat' first|(with_reducible first|refine zz ?_|refine zx ?_|refine zE [0,1,2,3,4,6] ?_)|simp -dsimp|refine CallE.here hc ?_
 rw[Bool.eq_iff_iff];simp
 exact exists_congr fun x=>and_congr_right fun _=>by omega
def S8 (lo hi a b:Int):Bool:=decide (a≤lo∧lo≤b∧a≤hi∧hi≤b∧lo≤hi)
theorem bk (lo hi a b:Int):zP Tryz.prog G 97 [D3 lo hi,iv a,iv b] (bv (S8 lo hi a b)):=by
 refine zf Tryz.func97 Tryz.ntmps97 ?_
 try simp only[D3,iv,iv]
 have c1:=N7 (G:=G) a b [lo,hi] (by simp)
 generalize hb:([lo,hi].all fun y=>decide (a≤y)&&decide (y≤b))=q at c1
 cases q
 ·repeat' first|(with_reducible first|refine zz ?_|refine zx ?_|refine zE [0,1,2,3,6] ?_)|simp -dsimp|refine zt c1 ?_ ?_ ?_;(focus simp;done);focus (simp;done)
  all_goals simp at hb
  all_goals simp[S8]
  all_goals omega
 ·simp at hb
  repeat' first|(with_reducible first|refine zz ?_|refine zx ?_|refine zE [0,1,2,3,6] ?_)|simp -dsimp|refine zt c1 ?_ ?_ ?_;(focus simp;done);focus (simp;done)
  all_goals simp[S8]
  all_goals first|omega|(rw[Bool.eq_iff_iff];simp;omega)
end Go.Proofs
namespace Go.Proofs
open Go Go.Ab
variable {G:Kc}
def H1 (c:Case) (l:Link) (x:Piece):Bool:=(match o7 c.p.n.reg l.drawing 1 with|some y=>!decide (y.kind=1)|none=>false)&&(decide (0≤l.dim∧l.dim≤3)&&((c.p.holders.any fun y=>decide (y.id=x.holder))&&(decide (0≤x.day∧x.day≤14610)&&S8 x.lo x.hi 0 1000000000)))
def aj (c:Case):Bool:=decide (c.of∈nums c.p.n.reg)&&(decide (1≤c.machine∧c.machine≤999)&&(decide (1≤c.loop.links.length∧c.loop.links.length≤8)&&(decide (c.pieces.length=c.loop.links.length)&&(S8 c.loop.lo c.loop.hi (-8000000000) 8000000000&&(c.loop.links.zip c.pieces).all fun q=>H1 c q.1 q.2))))
noncomputable def r9 (c:Case):Int:=if s9 c.p≠0 then s9 c.p else if aj c=true then 0 else 100
structure KC (c:Case):Prop where
 p:KP c.p
 l:c.loop.links.length≤16
 q:c.pieces.length≤16
open Go Go.Ab Tryz
theorem B8 {c:Case} (h:r9 c=0):s9 c.p=0∧aj c=true:=by
 unfold r9 at h
 by_cases h0:s9 c.p=0
 ·rw[if_neg (by simp[h0])] at h
  refine⟨h0,?_⟩
  by_cases h1:aj c=true
  ·exact h1
  ·rw[if_neg h1] at h;exact absurd h (by decide)
 ·rw[if_pos h0] at h;exact absurd h h0
theorem C6 {p:Prints} (h:s9 p=0):s6 p.n=0∧F6 p=true∧l4 p.n.reg=0:=by
 have hn:s6 p.n=0:=by
  refine Classical.byContradiction fun h1=>?_
  unfold s9 at h;rw[if_pos h1] at h;exact h1 h
 refine⟨hn,?_,?_⟩
 ·refine Classical.byContradiction fun h1=>?_
  unfold s9 at h;rw[if_neg (by simp[hn]),if_neg h1] at h;exact absurd h (by decide)
 ·refine Classical.byContradiction fun h1=>?_
  unfold s6 at hn;rw[if_pos h1] at hn;exact h1 hn
def dG (c:Case):Bool:=decide (c.of∈nums c.p.n.reg)&&(decide (1≤c.machine∧c.machine≤999)&&(decide (1≤c.loop.links.length∧c.loop.links.length≤8)&&(decide (c.pieces.length=c.loop.links.length)&&S8 c.loop.lo c.loop.hi (-8000000000) 8000000000)))
theorem J0 (c:Case):aj c=(dG c&&(c.loop.links.zip c.pieces).all fun q=>H1 c q.1 q.2):=by
 simp only[aj,dG,Bool.and_assoc]
theorem fG {α β:Type} {f:α×β→Bool} {l:List α} {m:List β} {k:Nat} (h1:k<l.length) (h2:k<m.length) (hno:(l.zip m).all f=((l.zip m).drop k).all f):(l.zip m).all f=true↔f (l[k],m[k])=true∧((l.zip m).drop (k+1)).all f=true:=by
 have h3:k<(l.zip m).length:=by rw[List.length_zip];omega
 have:=bD h3 hno
 rw[List.getElem_zip] at this
 exact this
theorem wS (x:Piece) (y:Holder):DCall prog G 156 (jn y :: [DC.ptr 0 0].map .one) [.row ((A2 x).map .im)] (fun d o=>d=bv (decide (y.id=x.holder))∧o=[.row ((A2 x).map .im)]):=by
 refine DCall.drop ?_
 refine g9 func156 rfl ntmps156 (by simp) rfl ?_
 simp only[jn,o6,A2,rI]
 repeat' first|(with_reducible first|refine zz ?_|refine zx ?_|refine zE [0,1,2,3] ?_)|simp -dsimp|with_reducible refine And.intro ?_ ?_
theorem dU {c:Case} (h0:l4 c.p.n.reg=0) (l:Link) (x:Piece):H1 c l x=true↔Bu c.p.n.reg l.drawing 1=0∧¬ (atR c.p.n.reg l.drawing 1).kind=1∧([l.dim].all fun y=>decide (0≤y)&&decide (y≤3))=true∧(c.p.holders.any fun y=>decide (y.id=x.holder))=true∧([x.day].all fun y=>decide (0≤y)&&decide (y≤14610))=true∧S8 x.lo x.hi 0 1000000000=true:=by
 unfold H1 Bu atR
 rw[if_neg (by simp[h0]),if_pos h0]
 cases o7 c.p.n.reg l.drawing 1 with
 | none=>simp
 | some y=>simp[and_assoc]
theorem gY (c:Case) (hG:o3 G) (hN:C7 G) (hS:u3 G) (hR:v6 G) (hk:KC c):zP prog G 95 [n5 c] (iv (r9 c)):=by
 refine zf func95 ntmps95 ?_
 try simp only[iv]
 have hl:=hk.l
 have hq:=hk.q
 have hhl:=hk.p.p.h
 have c1:=yn (G:=G) c.p hG hN hS hR hk.p
 simp only[C1,o5] at c1
 by_cases h0:s9 c.p=0
 ·obtain⟨hn0,hpb,hr0⟩:=C6 h0
  rw[h0] at c1
  have hE:r9 c=if aj c=true then 0 else 100:=by unfold r9;rw[if_neg (by simp[h0])]
  have c2:=BV (G:=G) c.p.n.reg c.of hG hk.p.n.1
  have hLE:Z6 c.p.n.reg c.of=if c.of∈nums c.p.n.reg then 0 else 6:=by unfold Z6;rw[if_neg (by simp[hr0])]
  rw[hLE] at c2
  have c3:=N7 (G:=G) 1 999 [c.machine] (by simp)
  have c4:=N7 (G:=G) 1 8 [(c.loop.links.length:Int)] (by simp)
  have c5:=bk (G:=G) c.loop.lo c.loop.hi (-8000000000) 8000000000
  simp only[G9,D3] at c2 c5
  cases h5:dG c
  ·have hB:aj c=false:=by rw[J0,h5,Bool.false_and]
   rw[hE,hB]
   simp only[dG] at h5
   generalize hb3:([c.machine].all fun y=>decide (1≤y)&&decide (y≤999))=b3 at c3
   generalize hb4:([(c.loop.links.length:Int)].all fun y=>decide (1≤y)&&decide (y≤8))=b4 at c4
   generalize hb5:S8 c.loop.lo c.loop.hi (-8000000000) 8000000000=b5 at c5 h5
   have hs:True:=trivial
   by_cases hm:c.of∈nums c.p.n.reg
   ·rw[if_pos hm] at c2
    by_cases hlen:c.pieces.length=c.loop.links.length
    ·cases b3<;>cases b4<;>cases b5
     all_goals
      have hs:=hlen
      repeat' first|(with_reducible first|refine zz ?_|refine zr ?_|refine zE [0,1,2,3,4,6,7,8,9,10,11,12,17,64,67,68,69,70,118] ?_)|simp -dsimp[hs]|refine zp c1 ?_|refine zp c2 ?_|refine zt c3 ?_ ?_ ?_;(focus simp;done);focus (simp;done)|refine zt c4 ?_ ?_ ?_;(focus simp;done);focus (simp;done)|refine zp c5 ?_|refine i9 ?_ ?_<;>intro h<;>try simp only[i7] at h
      all_goals try clear hs
     all_goals exfalso
     all_goals simp[hm,hlen] at h5 hb3 hb4
     all_goals omega
    ·cases b3<;>cases b4<;>cases b5
     all_goals
      have hs:=hlen
      repeat' first|(with_reducible first|refine zz ?_|refine zr ?_|refine zE [0,1,2,3,4,6,7,8,9,10,11,12,17,64,67,68,69,70,118] ?_)|simp -dsimp[hs]|refine zp c1 ?_|refine zp c2 ?_|refine zt c3 ?_ ?_ ?_;(focus simp;done);focus (simp;done)|refine zt c4 ?_ ?_ ?_;(focus simp;done);focus (simp;done)|refine zp c5 ?_|refine i9 ?_ ?_<;>intro h<;>try simp only[i7] at h|with_reducible refine j0 ?_ ?_<;>intro h<;>have h0:=h<;>(try simp only[i7] at h)<;>have h2:=h<;>(try simp at h2)<;>replace hs:=za h0 (za h (za h2 hs))
      all_goals try clear hs
     all_goals exfalso
     all_goals omega
   ·rw[if_neg hm] at c2
    have hs:=trivial
    repeat' first|(with_reducible first|refine zz ?_|refine zr ?_|refine zE [0,1,2,3,4,6,7,8,9,10,11,12,17,64,67,68,69,70,118] ?_)|simp -dsimp[hs]|refine zp c1 ?_|refine zp c2 ?_|refine i9 ?_ ?_<;>intro h<;>try simp only[i7] at h
    all_goals try clear hs
  ·rw[J0,h5,Bool.true_and] at hE
   rw[hE]
   simp only[dG,Bool.and_eq_true,decide_eq_true_eq] at h5
   obtain⟨hm,⟨hm1,hm2⟩,⟨hl1,hl2⟩,hlen,hgap⟩:=h5
   rw[if_pos hm] at c2
   rw[hgap] at c5
   rw[show ([c.machine].all fun y=>decide (1≤y)&&decide (y≤999))=true by simp;omega] at c3
   rw[show ([(c.loop.links.length:Int)].all fun y=>decide (1≤y)&&decide (y≤8))=true by simp;omega] at c4
   have hs:=hlen
   repeat' first|(with_reducible first|refine zz ?_|refine zE [0,1,2,3,4,6,7,8,9,10,11,12,17,64,67,68,69,70,118] ?_)|simp -dsimp[hs]|refine zp c1 ?_|refine zp c2 ?_|refine zt c3 ?_ ?_ ?_;(focus simp;done);focus (simp;done)|refine zt c4 ?_ ?_ ?_;(focus simp;done);focus (simp;done)|refine zp c5 ?_|refine i9 ?_ ?_<;>intro h<;>try simp only[i7] at h
   all_goals try clear hs
   have hno:((c.loop.links.zip c.pieces).all fun q=>H1 c q.1 q.2)=((c.loop.links.zip c.pieces).drop 0).all fun q=>H1 c q.1 q.2:=rfl
   clear c1 c2 c3 c4 c5
   generalize hA:((c.loop.links.zip c.pieces).all fun q=>H1 c q.1 q.2)=A at *
   refine i6 (ι:={ k:Nat // k≤c.loop.links.length∧A=((c.loop.links.zip c.pieces).drop k).all fun q=>H1 c q.1 q.2 }) (fun q=>⟨120,[(1,.one (.ptr 0 0)),(4,.one (.ptr 2 0)),(67,.one (.im (.sl (c.loop.links.map F8)))),(68,iv (c.loop.links.length:Int)),(69,iv (q.1:Int))],[.row ((j4 c).map .im),.vec 0 [] 0 true,.row [.im (.sl (c.p.n.reg.map e9))],.vec 1 [[.im (rI c.machine)]] 0 false,.vec 1 [[.im (rI (c.loop.links.length:Int))]] 0 false]⟩) (fun q=>c.loop.links.length-q.1) ⟨0,by simp,hno⟩ (zv [1,4,67,68,69]) ?_
   rintro⟨k,hk1,hrest⟩
   simp only[iv]
   by_cases hlt:k<c.loop.links.length
   ·have hlt2:k<c.pieces.length:=by omega
    have hw:=zk k
    have hst:=fG (f:=fun q=>H1 c q.1 q.2) hlt hlt2 (hA.trans hrest)
    rw[hA] at hst
    simp only at hst
    rw[dU hr0] at hst
    clear hno
    generalize hx:c.pieces[k]=x at *
    generalize hy:c.loop.links[k]=y at *
    have c6:=Dn (G:=G) c.p.n.reg y.drawing 1 hG hk.p.n.1
    have c7:=gQ (G:=G) c.p.holders (fun y=>decide (y.id=x.holder)) 156 [.ptr 0 0] [.row ((A2 x).map .im)] (by simp) (fun y _=>wS x y) (by omega)
    have c8:=N7 (G:=G) 0 3 [y.dim] (by simp)
    have c9:=N7 (G:=G) 0 14610 [x.day] (by simp)
    have c10:=bk (G:=G) x.lo x.hi 0 1000000000
    simp only[G9,D3] at c6 c10
    simp only[A2,rI,List.map_cons,List.map_nil] at c7
    generalize (c.p.holders.any fun y=>decide (y.id=x.holder))=b2 at *
    generalize ([y.dim].all fun y=>decide (0≤y)&&decide (y≤3))=b1 at *
    generalize ([x.day].all fun y=>decide (0≤y)&&decide (y≤14610))=b3 at *
    generalize S8 x.lo x.hi 0 1000000000=b4 at *
    generalize Bu c.p.n.reg y.drawing 1=e at *
    generalize atR c.p.n.reg y.drawing 1=z at *
    have hcs:(e=0∧¬ z.kind=1∧b1=true∧b2=true∧b3=true∧b4=true)∨(A=false∧((¬ e=0∧True∧True∧True∧True∧True)∨(e=0∧z.kind=1∧True∧True∧True∧True)∨(e=0∧¬ z.kind=1∧b1=false∧True∧True∧True)∨(e=0∧¬ z.kind=1∧b1=true∧b2=false∧True∧True)∨(e=0∧¬ z.kind=1∧b1=true∧b2=true∧b3=false∧True)∨(e=0∧¬ z.kind=1∧b1=true∧b2=true∧b3=true∧b4=false))):=by
     by_cases g1:e=0<;>by_cases g2:z.kind=1<;>cases b1<;>cases b2<;>cases b3<;>cases b4<;>simp_all
    have hs:True:=trivial
    rcases hcs with⟨g1,g2,g3,g4,g5,g6⟩|⟨gA,hcs⟩
    ·have hs:=za hx (za hy (za hlt (za hlt2 (za hw (za g1 (za g2 (za g3 (za g4 (za g5 g6)))))))))
     repeat' first|(with_reducible first|refine zz ?_|refine zE [0,1,2,3,4,6,7,8,9,10,11,12,17,64,67,68,69,70,118] ?_)|simp -dsimp[hs]|refine zp c6 ?_|refine CallE.embed [9] (c7) ?_ ?_ ?_ ?_ ?_ ?_;(focus simp[p8];done);(focus simp;done);(focus simp;done);(focus simp;done);(focus refine n3 ?_;simp[p8,n8];done);try simp -dsimp[l9,p8,hs]|refine zt c8 ?_ ?_ ?_;(focus simp;done);focus (simp;done)|refine zt c9 ?_ ?_ ?_;(focus simp;done);focus (simp;done)|refine zp c10 ?_|refine i9 ?_ ?_<;>intro h<;>try simp only[i7] at h
     all_goals try clear hs
     all_goals exact zn ⟨k+1,by omega,by rw[Bool.eq_iff_iff];exact hst.trans ⟨fun h=>h.2,fun h=>⟨⟨g1,g2,g3,g4,g5,g6⟩,h⟩⟩⟩ (zw [1,4,67,68,69] 5)
    ·rcases hcs with⟨g1,g2,g3,g4,g5,g6⟩|⟨g1,g2,g3,g4,g5,g6⟩|⟨g1,g2,g3,g4,g5,g6⟩|⟨g1,g2,g3,g4,g5,g6⟩|⟨g1,g2,g3,g4,g5,g6⟩|⟨g1,g2,g3,g4,g5,g6⟩
     all_goals
      have hs:=za hx (za hy (za hlt (za hlt2 (za hw (za g1 (za g2 (za g3 (za g4 (za g5 g6)))))))))
      repeat' first|(with_reducible first|refine zz ?_|refine zr ?_|refine zE [0,1,2,3,4,6,7,8,9,10,11,12,17,64,67,68,69,70,118] ?_)|simp -dsimp[hs]|refine zp c6 ?_|refine CallE.embed [9] (c7) ?_ ?_ ?_ ?_ ?_ ?_;(focus simp[p8];done);(focus simp;done);(focus simp;done);(focus simp;done);(focus refine n3 ?_;simp[p8,n8];done);try simp -dsimp[l9,p8,hs]|refine zt c8 ?_ ?_ ?_;(focus simp;done);focus (simp;done)|refine zt c9 ?_ ?_ ?_;(focus simp;done);focus (simp;done)|refine zp c10 ?_|refine i9 ?_ ?_<;>intro h<;>try simp only[i7] at h
      all_goals try clear hs
     all_goals exact gA
   ·obtain rfl:k=c.loop.links.length:=by omega
    have hA1:A=true:=by rw[hrest,List.drop_eq_nil_of_le (by rw[List.length_zip];omega)];rfl
    subst hA1
    have hs:=hlt
    repeat' first|(with_reducible first|refine zz ?_|refine zr ?_|refine zE [0,1,2,3,4,6,7,8,9,10,11,12,17,64,67,68,69,70,118] ?_)|simp -dsimp[hs]|refine i9 ?_ ?_<;>intro h<;>try simp only[i7] at h
    all_goals try clear hs
 ·have hE:r9 c=s9 c.p:=by unfold r9;rw[if_pos h0]
  rw[hE]
  have hs:=h0
  repeat' first|(with_reducible first|refine zz ?_|refine zr ?_|refine zE [0,1,2,3,4,6,7,8,9,10,11,12,17,64,67,68,69,70,118] ?_)|simp -dsimp[hs]|refine zp c1 ?_|refine i9 ?_ ?_<;>intro h<;>try simp only[i7] at h
  all_goals try clear hs
def H7 (s:Int×Int) (q:Link×Piece):Int×Int:=if q.1.back=true then (s.1-q.2.hi,s.2-q.2.lo) else (s.1+q.2.lo,s.2+q.2.hi)
def S6 (l:List (Link×Piece)):Int×Int:=l.foldl H7 (0,0)
theorem uZ {l:List (Link×Piece)} {k:Nat} (h:k<l.length):S6 (l.take (k+1))=H7 (S6 (l.take k)) l[k]:=by
 unfold S6
 rw[List.take_succ_eq_append_getElem h,List.foldl_append]
 rfl
def V3 (x:Piece):Prop:=0≤x.lo∧x.lo≤x.hi∧x.hi≤1000000000
theorem uY (l:List (Link×Piece)):∀ s:Int×Int,s.1≤s.2→(∀ q∈l,V3 q.2)→(l.foldl H7 s).1≤(l.foldl H7 s).2∧s.1-1000000000*(l.length:Int)≤(l.foldl H7 s).1∧(l.foldl H7 s).2≤s.2+1000000000*(l.length:Int):=by
 induction l with
 | nil=>intro s h _;simp[h]
 | cons q l ih =>
   intro s h hq
   have h1:=hq q List.mem_cons_self
   unfold V3 at h1
   have hst:(H7 s q).1≤(H7 s q).2∧s.1-1000000000≤(H7 s q).1∧(H7 s q).2≤s.2+1000000000:=by
    unfold H7
    split<;>simp only<;>omega
   have:=ih (H7 s q) hst.1 (fun y hy=>hq y (List.mem_cons_of_mem _ hy))
   rw[List.foldl_cons,List.length_cons]
   omega
theorem kw {l:List (Link×Piece)} (h:∀ q∈l,V3 q.2):(S6 l).1≤(S6 l).2∧- (1000000000*(l.length:Int))≤(S6 l).1∧(S6 l).2≤1000000000*(l.length:Int):=by
 have:=uY l (0,0) (Int.le_refl _) h
 unfold S6
 simp only at this
 omega
structure CaseOk (c:Case):Prop where
 e:c.pieces.length=c.loop.links.length
 l:1≤c.loop.links.length∧c.loop.links.length≤8
 p:∀ q∈c.loop.links.zip c.pieces,V3 q.2
 g:-8000000000≤c.loop.lo∧c.loop.lo≤c.loop.hi∧c.loop.hi≤8000000000
theorem L7 {c:Case} (h:aj c=true):CaseOk c:=by
 rw[J0,dG] at h
 simp only[Bool.and_eq_true,decide_eq_true_eq,S8,List.all_eq_true] at h
 obtain⟨⟨_,_,h3,h4,h5⟩,h6⟩:=h
 refine⟨h4,h3,fun q hq=>?_,by omega⟩
 have:=h6 q hq
 simp only[H1,Bool.and_eq_true,S8,decide_eq_true_eq] at this
 unfold V3
 omega
noncomputable def bK (c:Case):Int×Int:=if r9 c=0 then S6 (c.loop.links.zip c.pieces) else (0,0)
theorem nE {c:Case} (h:CaseOk c) {k:Nat} (hk:k≤c.pieces.length):((c.loop.links.zip c.pieces).take k).length=k:=by
 rw[List.length_take,List.length_zip];have:=h.e;omega
theorem nJ {c:Case} (h:CaseOk c) {k:Nat} (hk:k≤c.pieces.length):(S6 ((c.loop.links.zip c.pieces).take k)).1≤(S6 ((c.loop.links.zip c.pieces).take k)).2∧-8000000000≤(S6 ((c.loop.links.zip c.pieces).take k)).1∧(S6 ((c.loop.links.zip c.pieces).take k)).2≤8000000000:=by
 have h1:=kw (l:=(c.loop.links.zip c.pieces).take k) fun q hq=>h.p q (List.mem_of_mem_take hq)
 rw[nE h hk] at h1
 have:=h.l;have:=h.e
 omega
theorem pb {c:Case} (h:CaseOk c) {k:Nat} (h1:k<c.pieces.length) (h2:k<c.loop.links.length):S6 ((c.loop.links.zip c.pieces).take (k+1))=H7 (S6 ((c.loop.links.zip c.pieces).take k)) (c.loop.links[k],c.pieces[k]):=by
 have h3:k<(c.loop.links.zip c.pieces).length:=by rw[List.length_zip];omega
 rw[uZ h3,List.getElem_zip]
theorem nF {c:Case} (h:CaseOk c) {k:Nat} (h1:k<c.pieces.length):V3 c.pieces[k]:=by
 have h2:k<c.loop.links.length:=by have:=h.e;omega
 have h3:k<(c.loop.links.zip c.pieces).length:=by rw[List.length_zip];omega
 have:=h.p _ (List.getElem_mem h3)
 rw[List.getElem_zip] at this
 exact this
theorem AH (c:Case) (hG:o3 G) (hN:C7 G) (hS:u3 G) (hR:v6 G) (hk:KC c):zP prog G 51 [n5 c] (.tup [D3 (bK c).1 (bK c).2,iv (r9 c)]):=by
 refine zf func51 ntmps51 ?_
 try simp only[iv]
 have c1:=gY (G:=G) c hG hN hS hR hk
 simp only[n5,j4] at c1
 by_cases h0:r9 c=0
 ·have hok:=L7 (B8 h0).2
  have hE:bK c=S6 (c.loop.links.zip c.pieces):=by unfold bK;rw[if_pos h0]
  rw[hE]
  rw[h0] at c1 ⊢
  have hlen:=hok.e
  have hl8:=hok.l
  have hs:=trivial
  repeat' first|(with_reducible first|refine zz ?_|refine zE [0,1,2,3,4,5,6,7,8,9,13,17,18,19,20,36] ?_)|simp -dsimp[hs]|refine zp c1 ?_|refine i9 ?_ ?_<;>intro h<;>try simp only[i7] at h
  refine i6 (ι:={ k:Nat // k≤c.pieces.length }) (fun q=>⟨52,[(1,.one (.ptr 0 0)),(2,.one (.ptr 1 0)),(5,.one (.ptr 2 0)),(17,.one (.im (.sl (c.pieces.map A2)))),(18,iv (c.pieces.length:Int)),(19,iv (q.1:Int))],[.row ((j4 c).map .im),.row [.im (rI 0),.im (rI 0)],.row [.im (rI (S6 ((c.loop.links.zip c.pieces).take q.1)).1),.im (rI (S6 ((c.loop.links.zip c.pieces).take q.1)).2)]]⟩) (fun q=>c.pieces.length-q.1) ⟨0,by simp⟩ (zv [1,2,5,17,18,19] (by simp[S6])) ?_
  rintro⟨k,hk1⟩
  simp only[iv]
  by_cases hlt:k<c.pieces.length
  ·have hlt2:k<c.loop.links.length:=by omega
   have hw:=zk k
   have hb1:=nJ hok (Nat.le_of_lt hlt)
   have hb2:=nJ hok (show k+1≤c.pieces.length by omega)
   have hst:=pb hok hlt hlt2
   have hp:=nF hok hlt
   unfold V3 at hp
   rw[hst] at hb2
   generalize hx:c.pieces[k]=x at *
   generalize hy:c.loop.links[k]=y at *
   generalize S6 ((c.loop.links.zip c.pieces).take k)=s at *
   unfold H7 at hst hb2
   cases hbk:y.back
   ·rw[if_neg (by simp[hbk])] at hst hb2
    simp only at hb2
    have hw1:IntKind.i64.wrap (s.1+x.lo)=s.1+x.lo:=o4 (by omega) (by omega)
    have hw2:IntKind.i64.wrap (s.2+x.hi)=s.2+x.hi:=o4 (by omega) (by omega)
    have hs:=za hx (za hy (za hlt (za hlt2 (za hw (za hw1 (za hw2 hbk))))))
    repeat' first|with_reducible refine zz ?_|simp -dsimp[hs]|refine zM 8 52 8 [0,1,2,3,4,5,6,7,8,9,13,17,18,19,20,36] ?_|with_reducible refine zE [0,1,2,3,4,5,6,7,8,9,13,17,18,19,20,36] ?_|refine i9 ?_ ?_<;>intro h<;>try simp only[i7] at h
    all_goals exact zn ⟨k+1,by omega⟩ (zw [1,2,5,17,18,19] 3 (by simp[hst]))
   ·rw[if_pos hbk] at hst hb2
    simp only at hb2
    have hw1:IntKind.i64.wrap (-x.hi)=-x.hi:=o4 (by omega) (by omega)
    have hw2:IntKind.i64.wrap (-x.lo)=-x.lo:=o4 (by omega) (by omega)
    have hw3:IntKind.i64.wrap (s.1 + -x.hi)=s.1-x.hi:=by rw[o4 (by omega) (by omega)];omega
    have hw4:IntKind.i64.wrap (s.2 + -x.lo)=s.2-x.lo:=by rw[o4 (by omega) (by omega)];omega
    have hs:=za hx (za hy (za hlt (za hlt2 (za hw (za hw1 (za hw2 (za hw3 (za hw4 hbk))))))))
    repeat' first|with_reducible refine zz ?_|simp -dsimp[hs]|refine zM 8 52 8 [0,1,2,3,4,5,6,7,8,9,13,17,18,19,20,36] ?_|with_reducible refine zE [0,1,2,3,4,5,6,7,8,9,13,17,18,19,20,36] ?_|refine i9 ?_ ?_<;>intro h<;>try simp only[i7] at h
    all_goals exact zn ⟨k+1,by omega⟩ (zw [1,2,5,17,18,19] 3 (by simp[hst]))
  ·obtain rfl:k=c.pieces.length:=by omega
   have hall:(c.loop.links.zip c.pieces).take c.pieces.length=c.loop.links.zip c.pieces:=List.take_of_length_le (by rw[List.length_zip];omega)
   rw[hall]
   have hs:=hlt
   repeat' first|(with_reducible first|refine zz ?_|refine zr ?_|refine zE [0,1,2,3,4,5,6,7,8,9,13,17,18,19,20,36] ?_)|simp -dsimp[hs]|refine i9 ?_ ?_<;>intro h<;>try simp only[i7] at h
 ·have hE:bK c=(0,0):=by unfold bK;rw[if_neg h0]
  rw[hE]
  have hs:=h0
  repeat' first|(with_reducible first|refine zz ?_|refine zr ?_|refine zE [0,1,2,3,4,5,6,7,8,9,13,17,18,19,20,36] ?_)|simp -dsimp[hs]|refine zp c1 ?_|refine i9 ?_ ?_<;>intro h<;>try simp only[i7] at h
def uv (c:Case) (s:Int×Int):Int:=if s.2<c.loop.lo∨s.1 > c.loop.hi then 0 else if c.loop.lo≤s.1∧s.2≤c.loop.hi then 2 else 1
noncomputable def dn (c:Case):Int:=if r9 c=0 then uv c (bK c) else 0
theorem zT {c:Case} {s:Int×Int} (h:s.1≤s.2):S8 s.1 s.2 c.loop.lo c.loop.hi=decide (c.loop.lo≤s.1∧s.2≤c.loop.hi):=by
 unfold S8
 rw[decide_eq_decide]
 omega
theorem uI (c:Case) (hG:o3 G) (hN:C7 G) (hS:u3 G) (hR:v6 G) (hk:KC c):zP prog G 52 [n5 c] (.tup [tZ (dn c),iv (r9 c)]):=by
 refine zf func52 ntmps52 ?_
 try simp only[iv]
 have c1:=AH (G:=G) c hG hN hS hR hk
 simp only[n5,j4,D3] at c1
 by_cases h0:r9 c=0
 ·have hok:=L7 (B8 h0).2
  have hE:dn c=uv c (bK c):=by unfold dn;rw[if_pos h0]
  have hS:bK c=S6 (c.loop.links.zip c.pieces):=by unfold bK;rw[if_pos h0]
  have hle:(bK c).1≤(bK c).2:=by rw[hS];exact(kw hok.p).1
  have c2:=bk (G:=G) (bK c).1 (bK c).2 c.loop.lo c.loop.hi
  rw[zT (c:=c) (s:=bK c) hle] at c2
  rw[hE]
  rw[h0] at c1 ⊢
  unfold uv
  generalize bK c=s at *
  simp only[D3] at c2
  by_cases h1:s.2<c.loop.lo∨s.1 > c.loop.hi
  ·rw[if_pos h1]
   by_cases h2:s.2<c.loop.lo
   ·have hs:=h2
    repeat' first|(with_reducible first|refine zz ?_|refine zr ?_|refine zE [0,1,2,3,4,5,6,15,33] ?_)|simp -dsimp[hs]|refine zp c1 ?_|refine i9 ?_ ?_<;>intro h<;>try simp only[i7] at h
   ·have h3:c.loop.hi<s.1:=by omega
    have hs:=za h2 h3
    repeat' first|(with_reducible first|refine zz ?_|refine zr ?_|refine zE [0,1,2,3,4,5,6,15,33] ?_)|simp -dsimp[hs]|refine zp c1 ?_|refine i9 ?_ ?_<;>intro h<;>try simp only[i7] at h
  ·rw[if_neg h1]
   have h2:¬ s.2<c.loop.lo:=by omega
   have h3:¬ c.loop.hi<s.1:=by omega
   by_cases h4:c.loop.lo≤s.1∧s.2≤c.loop.hi
   ·rw[if_pos h4]
    rw[decide_eq_true h4] at c2
    have hs:=za h2 h3
    repeat' first|(with_reducible first|refine zz ?_|refine zr ?_|refine zE [0,1,2,3,4,5,6,15,33] ?_)|simp -dsimp[hs]|refine zp c1 ?_|refine zp c2 ?_|refine i9 ?_ ?_<;>intro h<;>try simp only[i7] at h
   ·rw[if_neg h4]
    rw[decide_eq_false h4] at c2
    have hs:=za h2 h3
    repeat' first|(with_reducible first|refine zz ?_|refine zr ?_|refine zE [0,1,2,3,4,5,6,15,33] ?_)|simp -dsimp[hs]|refine zp c1 ?_|refine zp c2 ?_|refine i9 ?_ ?_<;>intro h<;>try simp only[i7] at h
 ·have hE:dn c=0:=by unfold dn;rw[if_neg h0]
  rw[hE]
  have hs:=h0
  repeat' first|(with_reducible first|refine zz ?_|refine zr ?_|refine zE [0,1,2,3,4,5,6,15,33] ?_)|simp -dsimp[hs]|refine zp c1 ?_|refine i9 ?_ ?_<;>intro h<;>try simp only[i7] at h
end Go.Proofs
