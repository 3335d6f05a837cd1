/- Part 17 of the proofs. -/
import Derived.Test.YtjodaihiogfkbaaGreatDoorV08
import Derived.Test.YtjodaihiogfkbaaGreatDoorV09
import Derived.Test.YtjodaihiogfkbaaGreatDoorV14
import Derived.Test.YtjodaihiogfkbaaGreatDoorV15
import Derived.Test.YtjodaihiogfkbaaGreatDoorV16
set_option linter.all false
set_option linter.deprecated false
set_option maxHeartbeats 100000000
namespace Go.Proofs
open Go Go.Ab Tryz
variable {G:JO}
def Ep (x:Print) (d:Int):Bool:=decide (x.day≤d) && !(!decide (x.back=-1)&&decide (x.back≤d)) && !decide (x.lost=2)
def rg (d i w:Int) (x:Print):Bool:=Ep x d&&(decide (x.holder=i)&&decide (x.drawing=w))
def Y6 (d i w:Int) (l:List Print):List Int:=(l.filter fun x=>rg d i w x&&decide (x.lost=1)).map (·.letter)
def aR (d i w:Int) (l:List Print):Int:=(l.filter fun x=>rg d i w x && !decide (x.lost=1)).foldl (fun a x=>max a x.letter) 0
theorem GA (b:IC) (n:Int):zP prog G 182 [.one (.im b),iv n] (.one (.im (.fn (.func 231) [.ip [b],.ip [rI n]]))):=by
 refine zf func182 ntmps182 ?_
 try simp only[iv]
 repeat' first|(with_reducible first|refine zz ?_|refine zx ?_|refine zE [0,1,2,3,4] ?_)|simp -dsimp
def aA (d i w:Int) (l:List Print):List Int:=(p9 (l4 (Y6 d i w l++[aR d i w l]))).drop (H9 (fun x=>decide (aR d i w l=x)) (p9 (l4 (Y6 d i w l++[aR d i w l])))).toNat
theorem vg (d i w:Int) {l:List Print} {k:Nat} (h:k<l.length):Y6 d i w (l.take (k+1))=Y6 d i w (l.take k)++(if (rg d i w l[k]&&decide (l[k].lost=1))=true then [l[k].letter] else []):=by
 unfold Y6
 rw[List.take_succ_eq_append_getElem h,List.filter_append,List.map_append]
 congr 1
 split<;>simp_all
theorem uI (d i w:Int) {l:List Print} {k:Nat} (h:k<l.length):aR d i w (l.take (k+1))=if (rg d i w l[k] && !decide (l[k].lost=1))=true then max (aR d i w (l.take k)) l[k].letter else aR d i w (l.take k):=by
 unfold aR
 rw[List.take_succ_eq_append_getElem h,List.filter_append,List.foldl_append]
 split<;>simp_all
theorem pS {α:Type} (q:α→Bool) (l:List α):H9 q l<l.length∨l=[]:=by
 unfold H9
 split
 ·rename_i j h
  rw[List.findIdx?_eq_some_iff_getElem] at h
  obtain⟨hlt,_⟩:=h
  left;omega
 ·cases l with
  | nil=>exact .inr rfl
  | cons a r=>left;simp;omega
theorem kq (d i w:Int) (l:List Print):(Y6 d i w l).length≤l.length:=by
 unfold Y6
 rw[List.length_map];exact List.length_filter_le _ _
theorem Bl (p:Prints) (d i w:Int) (hS:u9 G) (hl:p.prints.length<900):zP prog G 119 [.one (.im (l6 p)),iv d,iv i,iv w] (s6 (aA d i w p.prints)):=by
 refine zf func119 ntmps119 ?_
 try simp only[iv,iv,iv]
 simp only[l6]
 have c1:=GA (G:=G) (l6 p) d
 simp only[l6] at c1
 have hs:=trivial
 repeat' first|(with_reducible first|refine zz ?_|refine zE [0,1,2,3,6,7,8,9,10,12,13,16,18,29,32] ?_)|simp -dsimp[hs]|refine zp c1 ?_
 all_goals try clear hs
 refine R8 (f:=231) (by simp;exact rfl) (by rfl) call231 ?_
 generalize hR:LoopD.mk _ _ _ _ _ _ _=R
 have hR1:R.st=.ready:=by rw[← hR]
 have hR2:R.pend=none:=by rw[← hR]
 have hR3:R.at .ready none=R:=by rw[← hR];rfl
 have hR4:=(congrArg LoopD.nt hR).symm
 have hR5:=(congrArg LoopD.tm hR).symm
 have hR6:=(congrArg LoopD.ps hR).symm
 have hR7:=(congrArg LoopD.asg hR).symm
 have hR8:=(congrArg LoopD.body hR).symm
 dsimp only at hR4 hR5 hR6 hR7 hR8
 clear hR
 refine h9 func231 rfl ntmps231 (by simp) rfl ?_
 have hR9:∀ objs:List DObj,(R.tm.map fun x=>(x.1,eY 7 objs x.2))=R.tm:=by intro objs;rw[hR5];simp
 have hs:=za hR1 (za hR2 hR3)
 repeat' first|(with_reducible first|refine zz ?_|refine zE [0,1,2,3,4,5,6,7,8,9,10,11,12,13,14,16,18,29,32,46] ?_)|simp -dsimp[hs]
 all_goals try clear hs
 refine i6 (ι:={ q:Nat×Nat×Nat×Bool // q.1≤p.prints.length∧(q.2.2.1=1∨q.2.2.2=true∧Y6 d i w (p.prints.take q.1)=[]) }) (fun q=>⟨48,[(0,.one (.yld 6)),(2,.one (.im (.ip [rI d]))),(11,.one (.im (.sl (p.prints.map w5)))),(12,iv (p.prints.length:Int)),(13,iv (q.1.1:Int))],[.row [.im (rI i)],.row [.im (rI w)],.vec 1 [] 0 true,.row [.im (rI (aR d i w (p.prints.take q.1.1)))],.vec q.1.2.2.1 (l8 ((Y6 d i w (p.prints.take q.1.1)).map encI)) q.1.2.1 q.1.2.2.2,.row [.vec 4 q.1.2.1 0 (Y6 d i w (p.prints.take q.1.1)).length],.loop R]⟩) (fun q=>p.prints.length-q.1.1) ⟨(0,0,0,true),by simp[Y6]⟩ (zv [0,2,11,12,13] (by simp[Y6,aR])) ?_
 rintro⟨⟨k,g,sz,nl⟩,hk,hz⟩
 simp only at hk hz
 simp only[iv]
 by_cases hlt:k<p.prints.length
 ·have hw:=zk k
  have hst1:=vg d i w hlt
  have hst2:=uI d i w hlt
  have hpl:=kq d i w (p.prints.take k)
  rw[List.length_take] at hpl
  have hz':sz=1∨nl=true:=hz.imp id And.left
  generalize hx:p.prints[k]=x at *
  cases hsel:rg d i w x
  ·rw[hsel] at hst1 hst2
   simp only[Bool.false_and,Bool.false_eq_true,if_false,List.append_nil] at hst1 hst2
   simp only[rg,Ep] at hsel
   simp at hsel
   have hz2:sz=1∨nl=true∧Y6 d i w (p.prints.take (k+1))=[]:=by rw[hst1];exact hz
   clear c1
   have hs:=za hR1 (za hR2 (za hR3 (za hx (za hlt (za hw hz')))))
   repeat' first|(with_reducible first|refine zz ?_|refine And.intro (by omega) ?_|refine zE [0,1,2,3,4,5,6,7,8,9,10,11,12,13,14,16,18,29,32,46] ?_)|simp -dsimp[hs]|with_reducible refine At.yield_end ?_;simp -dsimp[hs]|refine ay ?_ ?_<;>simp -dsimp[hs]|refine P2 ?_;simp -dsimp[R7,hR4,hR5,hR6,hR7,hR8,hs]|refine i9 ?_ ?_<;>intro h<;>try simp only[i7] at h|with_reducible refine j0 ?_ ?_<;>intro h<;>have h0:=h<;>(try simp only[i7] at h)<;>have h2:=h<;>(try simp at h2)<;>replace hs:=za h0 (za h (za h2 hs))
   all_goals try clear hs
   all_goals first
    | (exfalso;omega)
    | exact zn ⟨(k+1,g,sz,nl),by simp only;omega,hz2⟩ (zw [0,2,11,12,13] 7 (by simp[hst1,hst2,hR9]))
  ·rw[hsel] at hst1 hst2
   simp only[Bool.true_and] at hst1 hst2
   have hq:=hsel
   simp only[rg,Ep] at hq
   simp at hq
   obtain⟨⟨⟨q1,q2⟩,q3⟩,q4,q5⟩:=hq
   have hbk:((x.back=-1)∧True)∨(¬ x.back=-1∧¬ x.back≤d):=by
    by_cases hb:x.back=-1
    ·exact .inl ⟨hb,trivial⟩
    ·exact .inr ⟨hb,by omega⟩
   clear hsel q2 c1
   have hs:True:=trivial
   by_cases hl1:x.lost=1
   ·simp only[hl1,decide_true,if_true,Bool.not_true,Bool.false_eq_true,if_false] at hst1 hst2
    rcases hbk with⟨hb1,hb2⟩|⟨hb1,hb2⟩
    all_goals
     have hs:=za hR1 (za hR2 (za hR3 (za hx (za hlt (za hw (za hz' (za q1 (za q3 (za q4 (za q5 (za hb1 (za hb2 hl1))))))))))))
     repeat' first|(with_reducible first|refine zz ?_|refine And.intro (by omega) ?_|refine zE [0,1,2,3,4,5,6,7,8,9,10,11,12,13,14,16,18,29,32,46] ?_)|simp -dsimp[hs]|with_reducible refine At.yield_end ?_;simp -dsimp[hs]|refine ay ?_ ?_<;>simp -dsimp[hs]|refine P2 ?_;simp -dsimp[R7,hR4,hR5,hR6,hR7,hR8,hs]|refine i9 ?_ ?_<;>intro h<;>try simp only[i7] at h
     all_goals try clear hs
    all_goals exact zn ⟨(k+1,g+1,1,false),by simp only;omega,.inl rfl⟩ (zw [0,2,11,12,13] 7 (by simp[hst1,hst2,hR9]))
   ·simp only[hl1,decide_false,Bool.false_eq_true,if_false,List.append_nil,Bool.not_false,if_true] at hst1 hst2
    have hz2:sz=1∨nl=true∧Y6 d i w (p.prints.take (k+1))=[]:=by rw[hst1];exact hz
    rcases hbk with⟨hb1,hb2⟩|⟨hb1,hb2⟩
    all_goals
     have hs:=za hR1 (za hR2 (za hR3 (za hx (za hlt (za hw (za hz' (za q1 (za q3 (za q4 (za q5 (za hb1 (za hb2 hl1))))))))))))
     repeat' first|(with_reducible first|refine zz ?_|refine zE [0,1,2,3,4,5,6,7,8,9,10,11,12,13,14,16,18,29,32,46] ?_)|simp -dsimp[hs]|with_reducible refine At.yield_end ?_;simp -dsimp[hs]|refine ay ?_ ?_<;>simp -dsimp[hs]|refine P2 ?_;simp -dsimp[R7,hR4,hR5,hR6,hR7,hR8,hs]|refine i9 ?_ ?_<;>intro h<;>try simp only[i7] at h
     all_goals try clear hs
    all_goals exact zn ⟨(k+1,g,sz,nl),by simp only;omega,hz2⟩ (zw [0,2,11,12,13] 7 (by simp[hst1,hst2,hR9]))
 ·obtain rfl:k=p.prints.length:=by omega
  rw[List.take_length] at *
  have hz':sz=1∨nl=true:=hz.imp id And.left
  have hpl:=kq d i w p.prints
  clear c1
  have hs:=za hR1 (za hR2 (za hR3 (za hlt hz')))
  repeat' first|(with_reducible first|refine zz ?_|refine And.intro (by omega) ?_|refine ze ?_ (by simp -dsimp[B9,hs];exact rfl)|refine zE [0,1,2,3,4,5,6,7,8,9,10,11,12,13,14,16,18,29,32,46] ?_)|simp -dsimp[B9,hs]|with_reducible show B9 _ _ _ _ _ _ _ _;simp -dsimp[B9,hs]|refine i9 ?_ ?_<;>intro h<;>try simp only[i7] at h
  all_goals try clear hs
  obtain⟨L,hL1⟩:∃ L,L=Y6 d i w p.prints++[aR d i w p.prints]:=⟨_,rfl⟩
  have hE:aA d i w p.prints=(p9 (l4 L)).drop (H9 (fun x=>decide (aR d i w p.prints=x)) (p9 (l4 L))).toNat:=by rw[hL1];rfl
  have hv:aR d i w p.prints∈L:=by rw[hL1];simp
  generalize aR d i w p.prints=v at *
  have hLn:(Y6 d i w p.prints).length+1=L.length:=by rw[hL1];simp
  have hLi:l8 ((Y6 d i w p.prints).map encI)++[[DC.im (IC.raw (Value.int .i64 v))]]=l8 (L.map encI):=by rw[hL1];simp[eU,l8]
  rw[hE]
  clear hL1 hE
  generalize Y6 d i w p.prints=Q at *
  have c1:=hS L (g+1) 1 false (.inl rfl) (by omega)
  have hil:=L7 L
  have c2:=mT (G:=G) (l4 L) (g+1) (by omega)
  have hdl:=ab (l4 L)
  rw[hil] at c2
  have c3:=pJ (G:=G) (p9 (l4 L)) v (by omega)
  have hs:True:=trivial
  rw[hLi]
  simp only[hLn]
  have hs:=za hR1 (za hR2 (za hR3 (za hlt (za hLn hLi))))
  repeat' first|(with_reducible first|refine zz ?_|refine zE [0,1,2,3,4,5,6,7,8,9,10,11,12,13,14,16,18,29,32,46] ?_)|simp -dsimp[hs]|refine CallE.embed [4] (c1) ?_ ?_ ?_ ?_ ?_ ?_;(focus simp[s9];done);(focus simp;done);(focus simp;done);(focus simp;done);(focus refine n9 ?_;simp[s9,p8];done);try simp -dsimp[n5,s9,hs]|refine CallE.embed_ex [4] (c2) ?_ ?_ ?_ ?_ ?_ ?_;(focus simp[s9];done);(focus simp;done);(focus simp;done);(focus simp;done);(focus refine n9 ?_;simp[s9,p8];done);intro mma hmma;try simp -dsimp[n5,s9,hs]
  all_goals try clear hs
  obtain⟨ha1,ha2⟩:=hmma
  clear c1 c2
  generalize hD:p9 (l4 L)=D at *
  have hdm:D.length≤mma.length:=by omega
  have hfi:=pS (fun x=>decide (v=x)) D
  have hvd:D.any (fun x=>decide (v=x))=true:=by
   rw[List.any_eq_true]
   refine⟨v,?_,by simp⟩
   rw[← hD,fe]
   exact isort_mem.2 hv
  rw[← A3] at hvd
  have hf0:0≤H9 (fun x=>decide (v=x)) D:=of_decide_eq_true hvd
  obtain⟨f,hf⟩:=Int.eq_ofNat_of_zero_le hf0
  rw[hf] at c3 hfi
  have hfd:f≤D.length:=by
   rcases hfi with h|h
   ·omega
   ·rw[h] at hf;simp[H9] at hf
  rw[hf,Int.toNat_natCast]
  have htk:(l8 (mma.map encI)).take D.length=l8 (D.map encI):=by rw[show (l8 (mma.map encI)).take D.length=l8 ((mma.map encI).take D.length) by simp[l8,List.map_take],← List.map_take,ha2]
  have hs:True:=trivial
  all_goals try simp -dsimp[hR1,hR2,hR3,htk,hdm,hfd,ha1,hs]
  all_goals try clear hs
  have hdL:D.length≤L.length:=by omega
  have htd:List.take (D.length-f) (List.drop f (l8 (mma.map encI)))=l8 ((D.drop f).map encI):=by
   rw[← List.drop_take,htk];simp[l8,List.map_drop]
  refine CallE.thaw c3 ?_ ?_ ?_
  ·simp[htk,hdm,hfd,ha1,hdL]
  ·simp
  simp -dsimp[htk,hdm,hfd,ha1]
  have hs:=za hR1 (za hR2 (za hR3 (za htk (za hdm (za hfd (za ha1 (za hdL htd)))))))
  repeat' first|(with_reducible first|refine zz ?_|refine zr ?_)|simp -dsimp[hs]
  all_goals try clear hs
attribute [simp] r9 v8
noncomputable def N8 (p:Prints) (d i w:Int):List Int:=if R6 p d 1 i w=0 then aA d i w p.prints else []
theorem xU (p:Prints) (d i w:Int) (hG:o5 G) (hN:D7 G) (hS:u9 G) (hR:v7 G) (hk:KP p):zP prog G 60 [D3 p,iv d,iv i,iv w] (.tup [s6 (N8 p d i w),iv (R6 p d 1 i w)]):=by
 refine zf func60 ntmps60 ?_
 try simp only[iv,iv,iv]
 have c1:=xX p d 1 i w hG hN hS hR hk
 have c2:=Bl p d i w hS (by have:=hk.p.q;omega)
 by_cases h0:R6 p d 1 i w=0
 ·have hW:N8 p d i w=aA d i w p.prints:=by unfold N8;rw[if_pos h0]
  simp only[dz,h0,if_true] at c1
  rw[hW,h0]
  simp only[l6] at c1 c2
  have c1':=c1 []
  simp only[D3,p7,s6,iv,List.map_cons,List.map_nil,encI,rI] at c1'
  have hs:=trivial
  repeat' first|(with_reducible first|refine zz ?_|refine zr ?_|refine zE [0,1,2,3,4,8,9,10,11,22] ?_)|simp -dsimp[hs]|refine CallE.freeze 0 c1' ?_ ?_ ?_ ?_ ?_ ?_;(focus simp;done);(focus simp;done);(focus simp;done);(focus rfl);(focus simp;done);try simp -dsimp[r9]|refine zp c2 ?_|refine i9 ?_ ?_<;>intro h<;>try simp only[i7] at h
 ·have hW:N8 p d i w=[]:=by unfold N8;rw[if_neg h0]
  simp only[dz,h0,if_false] at c1
  rw[hW]
  have c1':=c1 []
  simp only[D3,p7,s6,iv,List.map_cons,List.map_nil,encI,rI] at c1'
  have hs:=h0
  repeat' first|(with_reducible first|refine zz ?_|refine zr ?_|refine zE [0,1,2,3,4,8,9,10,11,22] ?_)|simp -dsimp[hs]|refine CallE.freeze 0 c1' ?_ ?_ ?_ ?_ ?_ ?_;(focus simp;done);(focus simp;done);(focus simp;done);(focus rfl);(focus simp;done);try simp -dsimp[r9]|refine i9 ?_ ?_<;>intro h<;>try simp only[i7] at h
open Go Go.Ab
def Bk:Dim:=⟨0,0,0⟩
def cp (c:Chains) (x:Link):Dim:=((u4 c.reg c.lets x.drawing).dims[x.dim.toNat]?).getD Bk
structure OkC (c:Chains):Prop where
 reg:j7 c.reg=0
 lets:u6 c.reg c.lets=true
 of:c.of∈nums c.reg
 num:1≤c.loops.length∧c.loops.length≤6
 gap:∀ x∈c.loops,x.links.length≤8∧qo x=true
 link:∀ x∈c.loops,∀ y∈x.links,y.drawing∈nums c.reg∧0≤y.dim∧y.dim<(u4 c.reg c.lets y.drawing).dims.length
def aG (c:Chains) (x:ChLoop):List Dim:=x.links.map (cp c)
def W0 (high:Bool) (x:Link) (d:Dim):Int:=if high != x.back then d.upper else d.lower
def pa (x:Link) (n:Int):Int:=if x.back then -n else n
def pW (links:List Link) (l:List Dim) (high:Bool):List Int:=(links.zip l).map fun p=>W0 high p.1 p.2
def gk (links:List Link) (l:List Dim) (high:Bool):Int:=(links.zip l).foldl (fun s p=>s+pa p.1 (W0 high p.1 p.2)) 0
theorem qd {c:Chains} (h:OkC c) {x:ChLoop} (hx:x∈c.loops) {y:Link} (hy:y∈x.links):C9 (cp c y)=true∧(u4 c.reg c.lets y.drawing).dims[y.dim.toNat]?=some (cp c y):=by
 obtain⟨h1,h2,h3⟩:=h.link x hx y hy
 obtain⟨hm,_⟩:=dC h.reg h.lets h1
 have hok:=(K0 (H5 (G0 h.reg))).2.2.2.1 _ hm
 have hlt:y.dim.toNat<(u4 c.reg c.lets y.drawing).dims.length:=by omega
 have he:(u4 c.reg c.lets y.drawing).dims[y.dim.toNat]?=some (u4 c.reg c.lets y.drawing).dims[y.dim.toNat]:=by simp[hlt]
 have hd:cp c y=(u4 c.reg c.lets y.drawing).dims[y.dim.toNat]:=by rw[cp,he,Option.getD_some]
 simp only[n4,Bool.and_eq_true] at hok
 rw[hd]
 exact⟨List.all_eq_true.1 hok.2 _ (List.getElem_mem hlt),he⟩
def dt (l:List Itm) (d:Int):Int:=match l with
 | []=>0
 | y :: r=>if y.drawing=d then y.count else dt r d
theorem CL {high:Bool} {x:Link} {d:Dim} (h:C9 d=true):0≤W0 high x d∧W0 high x d≤1000000000:=by
 have:=(I6 d).1 h
 unfold W0;split<;>omega
theorem DY {high:Bool} {x:Link} {d:Dim} (h:C9 d=true):-1000000000≤pa x (W0 high x d)∧pa x (W0 high x d)≤1000000000:=by
 have:=CL (high:=high) (x:=x) h
 unfold pa;split<;>omega
theorem oW {c:Chains} (h:OkC c) {n:Nat} (hn:n<c.loops.length):(aG c c.loops[n]).length=c.loops[n].links.length∧∀ d∈aG c c.loops[n],C9 d=true:=by
 refine⟨by simp[aG],fun d hd=>?_⟩
 obtain⟨y,hy,rfl⟩:=List.mem_map.1 hd
 exact(qd h (List.getElem_mem hn) hy).1
theorem mS (c:Chains):∃ X,aq c=.one (.im X):=by unfold aq;split<;>exact⟨_,rfl⟩
def E9 (c:Chains) (n:Int):Int:=if A5 c≠0 then A5 c else if 0≤n∧n<c.loops.length then 0 else 2
theorem Cg (c:Chains) (n:Int) (hG:o5 G) (hC:L4 G) (hs:lC c):zP prog G 212 [Bh c,iv n] (.tup [aq c,iv (E9 c n)]):=by
 refine zf func212 ntmps212 ?_
 try simp only[Bh,iv]
 have c1:=Ac c hG hC hs
 have hl:=hs.2.2.1
 have hw:IntKind.i64.wrap ((c.loops.length:Int)-1)=(c.loops.length:Int)-1:=o3 (by omega) (by omega)
 have c2:=bg (G:=G) 0 ((c.loops.length:Int)-1) [n] (by simp)
 have hE:E9 c n=if A5 c≠0 then A5 c else if 0≤n∧n<c.loops.length then 0 else 2:=rfl
 obtain⟨X,hX⟩:=mS c
 rw[hX]
 rw[hX] at c1
 by_cases h0:A5 c=0
 ·rw[h0] at c1 hE
  by_cases hr:0≤n∧n<c.loops.length
  ·have hq:([n].all fun x=>decide (0≤x)&&decide (x≤(c.loops.length:Int)-1))=true:=by simp;omega
   rw[hq] at c2
   have hs:=hw
   repeat' first|(with_reducible first|refine zz ?_|refine zr ?_|refine zE [0,1,2,4,5,6,7,24] ?_)|simp -dsimp[hs]|refine zp c1 ?_|refine zt c2 ?_ ?_ ?_;(focus simp;done);focus (simp;done)|refine i9 ?_ ?_<;>intro h<;>try simp only[i7] at h
   all_goals try clear hs
   simp[hE,hr]
  ·have hq:([n].all fun x=>decide (0≤x)&&decide (x≤(c.loops.length:Int)-1))=false:=by simp;omega
   rw[hq] at c2
   have hs:=hw
   repeat' first|(with_reducible first|refine zz ?_|refine zr ?_|refine zE [0,1,2,4,5,6,7,24] ?_)|simp -dsimp[hs]|refine zp c1 ?_|refine zt c2 ?_ ?_ ?_;(focus simp;done);focus (simp;done)|refine i9 ?_ ?_<;>intro h<;>try simp only[i7] at h
   all_goals try clear hs
   simp[hE,hr]
 ·have hs:=h0
  repeat' first|(with_reducible first|refine zz ?_|refine zr ?_|refine zE [0,1,2,4,5,6,7,24] ?_)|simp -dsimp[hs]|refine zp c1 ?_|refine i9 ?_ ?_<;>intro h<;>try simp only[i7] at h
  all_goals try clear hs
  simp[hE,h0]
theorem BW (d k:Int):zP prog G 215 [C3 d k] (bv false):=by
 refine zf func215 ntmps215 ?_
 try simp only[C3]
 repeat' first|(with_reducible first|refine zz ?_|refine zx ?_|refine zE [0,2] ?_)|simp -dsimp
theorem DW (x:Link):zP prog G 263 [yz x] (C3 x.drawing x.dim):=by
 refine zf func263 ntmps263 ?_
 try simp only[yz]
 repeat' first|(with_reducible first|refine zz ?_|refine zx ?_|refine zE [0,1,2] ?_)|simp -dsimp
def eO:IC:=.fn (.func 215) []
theorem xY (c:Chains) (D:List (Int×Int)) (n:Nat) (hn:n<c.loops.length) (h:OkC c):zP prog G 214 [.one (.im (J3 c D (aD c.reg c.lets))),iv (n:Int),iv 0,.one (.im eO)] (.one (.im (.sl ((aG c c.loops[n]).map B0)))):=by
 refine zf func214 ntmps214 ?_
 try simp only[iv,iv]
 have hx:c.loops[n]?=some c.loops[n]:=by simp[hn]
 have hln:=h.gap c.loops[n] (List.getElem_mem hn)
 have hok:=fun y hy=>qd h (List.getElem_mem hn) (y:=y) hy
 have hlk:=h.link c.loops[n] (List.getElem_mem hn)
 have hE:aG c c.loops[n]=c.loops[n].links.map (cp c):=rfl
 simp only[J3,eO]
 have hs:=za hx hn
 repeat' first|(with_reducible first|refine zz ?_|refine zE [0,1,2,3,8,9,11,12,21,22,23,24,42] ?_)|simp -dsimp[hs]
 generalize hls:c.loops[n].links=ls at *
 refine i6 (ι:={ p:Nat×Nat×Bool×List Dim // p.1≤ls.length∧p.2.2.2=(ls.take p.1).map (cp c) }) (fun p=>⟨52,[(0,.one (.im (J3 c D (aD c.reg c.lets)))),(2,iv 0),(3,.one (.im eO)),(9,.one (.vec 1 p.1.2.1 0 p.1.2.2.2.length)),(21,.one (.im (.sl (ls.map F8)))),(22,iv (ls.length:Int)),(23,iv (p.1.1:Int))],[.vec 3 [] 0 true,.vec 3 (l8 (p.1.2.2.2.map B0)) p.1.2.1 p.1.2.2.1]⟩) (fun p=>ls.length-p.1.1) ⟨(0,0,true,[]),by simp⟩ (zv [0,2,3,9,21,22,23] (by simp[J3,eO])) ?_
 rintro⟨⟨k,g,nl,out⟩,hk,ho⟩
 simp only at hk ho
 simp only[iv,J3,eO]
 have hol:out.length=k:=by rw[ho];simp;omega
 by_cases hlt:k<ls.length
 ·have hy:ls[k]?=some ls[k]:=by simp[hlt]
  have hw:=zk k
  obtain⟨l1,l2,l3⟩:=hlk ls[k] (List.getElem_mem hlt)
  obtain⟨_,he⟩:=hok ls[k] (List.getElem_mem hlt)
  have hlook:I8 (aD c.reg c.lets) ls[k].drawing=u4 c.reg c.lets ls[k].drawing:=by rw[aD,T2,if_pos l1]
  obtain⟨j,hj⟩:∃ j:Nat,ls[k].dim=j:=⟨ls[k].dim.toNat,by omega⟩
  rw[hj,Int.toNat_natCast] at he
  have hjl:=e7 he
  have hje:=(List.getElem?_eq_some_iff.1 he).2
  have c2:=DW (G:=G) ⟨ls[k].drawing,j,ls[k].back⟩
  have c3:=BW (G:=G) ls[k].drawing j
  simp only[C3] at c2 c3
  have hon:out++[cp c ls[k]]=(ls.take (k+1)).map (cp c):=by rw[List.take_succ_eq_append_getElem hlt,List.map_append,ho];rfl
  have hs:=za hy (za hw (za hlt (za hlook (za hj (za hjl (za he hje))))))
  repeat' first|(with_reducible first|refine zz ?_|refine And.intro (by omega) ?_)|simp -dsimp[hs]|refine zp c2 ?_|refine zp c3 ?_|refine C1 (id:=5) (nt:=52) 13 [] [0,1,2,3,8,9,11,12,21,22,23,24,27,28,29,30,31,32,33,34,35,36,37,38,42] [0,1,2,3,8,9,11,12,21,22,23,24,42] mixed rfl (by kernel_rfl) ?_|with_reducible refine zE [0,1,2,3,8,9,11,12,21,22,23,24,42] ?_|refine i9 ?_ ?_<;>intro h<;>try simp only[i7] at h
  all_goals try omega
  exact zn ⟨(k+1,g+1,false,out++[cp c ls[k]]),by omega,hon⟩ (zw [0,2,3,9,21,22,23] 2 (by simp[J3,eO]))
 ·have hs:=hlt
  repeat' first|(with_reducible first|refine zz ?_|refine zr ?_|refine zE [0,1,2,3,8,9,11,12,21,22,23,24,42] ?_)|simp -dsimp[hs]|refine i9 ?_ ?_<;>intro h<;>try simp only[i7] at h
  all_goals try omega
  rw[hE,ho,List.take_of_length_le (by omega)]
theorem yd (c:Chains) (D:List (Int×Int)) (B:List (Int×Issue)) (n:Nat) (hn:n<c.loops.length) (l:List Dim) (high:Bool) (hl:c.loops[n].links.length≤12) (he:l.length=c.loops[n].links.length) (hd:∀ d∈l,C9 d=true):zP prog G 262 [.one (.im (J3 c D B)),iv (n:Int),.one (.im (.sl (l.map B0))),bv high] (.tup [s6 (pW c.loops[n].links l high),iv (gk c.loops[n].links l high)]):=by
 refine zf func262 ntmps262 ?_
 try simp only[iv,bv]
 have hxn:c.loops[n]?=some c.loops[n]:=by simp[hn]
 simp only[J3]
 have hs:=za hxn hn
 repeat' first|(with_reducible first|refine zz ?_|refine zE [0,1,2,3,8,9,10,11,12,13,14,15,24,25,26,27,37,41] ?_)|simp -dsimp[hs]
 all_goals try clear hs
 generalize c.loops[n].links=ls at *
 refine i6 (ι:={ p:Nat×Nat×Bool×List Int×Int // p.1≤ls.length∧p.2.2.2.1.length=p.1∧pW ls l high=p.2.2.2.1++((ls.zip l).drop p.1).map (fun q=>W0 high q.1 q.2)∧gk ls l high=((ls.zip l).drop p.1).foldl (fun s q=>s+pa q.1 (W0 high q.1 q.2)) p.2.2.2.2∧-1000000000*(p.1:Int)≤p.2.2.2.2∧p.2.2.2.2≤1000000000*(p.1:Int) }) (fun p=>⟨59,[(2,.one (.im (.sl (l.map B0)))),(3,bv high),(10,iv p.1.2.2.2.2),(11,.one (.vec 1 p.1.2.1 0 p.1.2.2.2.1.length)),(24,.one (.im (.sl (ls.map F8)))),(25,iv (ls.length:Int)),(26,iv (p.1.1:Int))],[.vec 1 [] 0 true,.vec 1 (l8 (p.1.2.2.2.1.map encI)) p.1.2.1 p.1.2.2.1]⟩) (fun p=>ls.length-p.1.1) ⟨(0,0,true,[],0),by simp[pW,gk]⟩ (zv [2,3,10,11,24,25,26]) ?_
 rintro⟨⟨k,g,nl,out,s⟩,hk,hol,ho,hs,hb1,hb2⟩
 simp only at hk hol ho hs hb1 hb2
 simp only[iv,bv]
 by_cases hlt:k<ls.length
 ·have hkl:k<l.length:=by omega
  have hx:ls[k]?=some ls[k]:=by simp[hlt]
  have hy:l[k]?=some l[k]:=by simp[hkl]
  have hw:=zk k
  have hz:k<(ls.zip l).length:=by simp;omega
  rw[List.drop_eq_getElem_cons hz,List.getElem_zip,List.map_cons] at ho
  rw[List.drop_eq_getElem_cons hz,List.getElem_zip,List.foldl_cons] at hs
  have hdk:=hd l[k] (List.getElem_mem hkl)
  have hdl:=(I6 _).1 hdk
  have hsb:=DY (high:=high) (x:=ls[k]) hdk
  have hws:IntKind.i64.wrap (s+pa ls[k] (W0 high ls[k] l[k]))=s+pa ls[k] (W0 high ls[k] l[k]):=o3 (by omega) (by omega)
  have hon:pW ls l high=(out++[W0 high ls[k] l[k]])++((ls.zip l).drop (k+1)).map (fun q=>W0 high q.1 q.2):=by rw[ho];simp
  have hwl:IntKind.i64.wrap (-l[k].lower)=-l[k].lower:=o3 (by omega) (by omega)
  have hwu:IntKind.i64.wrap (-l[k].upper)=-l[k].upper:=o3 (by omega) (by omega)
  have hwl1:IntKind.i64.wrap l[k].lower=l[k].lower:=o3 (by omega) (by omega)
  have hwu1:IntKind.i64.wrap l[k].upper=l[k].upper:=o3 (by omega) (by omega)
  have hfin:k+1≤ls.length∧(out++[W0 high ls[k] l[k]]).length=k+1∧pW ls l high=(out++[W0 high ls[k] l[k]])++((ls.zip l).drop (k+1)).map (fun q=>W0 high q.1 q.2)∧gk ls l high=((ls.zip l).drop (k+1)).foldl (fun s q=>s+pa q.1 (W0 high q.1 q.2)) (s+pa ls[k] (W0 high ls[k] l[k]))∧-1000000000*((k+1:Nat):Int)≤s+pa ls[k] (W0 high ls[k] l[k])∧s+pa ls[k] (W0 high ls[k] l[k])≤1000000000*((k+1:Nat):Int):=⟨by omega,by simp;omega,hon,hs,by omega,by omega⟩
  cases hbk:ls[k].back<;>cases high
  all_goals have hN:∀ h,W0 h ls[k] l[k]=if h != ls[k].back then l[k].upper else l[k].lower:=fun _=>rfl
  all_goals have hS:∀ n,pa ls[k] n=if ls[k].back then -n else n:=fun _=>rfl
  all_goals simp only[hN,hS,hbk,bne_self_eq_false,Bool.false_eq_true,if_false,if_true,Bool.true_bne,Bool.false_bne,Bool.not_false] at hws hfin
  all_goals clear hN hS
  ·have hs:=za hx (za hy (za hw (za hlt (za hkl (za hbk (za hws (za hwl1 hwu1)))))))
   repeat' first|(with_reducible first|refine zz ?_|refine And.intro (by omega) ?_|refine zE [0,1,2,3,8,9,10,11,12,13,14,15,24,25,26,27,37,41] ?_)|simp -dsimp[hs]|refine i9 ?_ ?_<;>intro h<;>try simp only[i7] at h
   all_goals try clear hs
   all_goals try omega
   exact zn ⟨(k+1,g+1,false,out++[l[k].lower],s+l[k].lower),hfin⟩ (zw [2,3,10,11,24,25,26] 2)
  ·have hs:=za hx (za hy (za hw (za hlt (za hkl (za hbk (za hws (za hwl1 hwu1)))))))
   repeat' first|(with_reducible first|refine zz ?_|refine And.intro (by omega) ?_|refine zE [0,1,2,3,8,9,10,11,12,13,14,15,24,25,26,27,37,41] ?_)|simp -dsimp[hs]|refine i9 ?_ ?_<;>intro h<;>try simp only[i7] at h
   all_goals try clear hs
   all_goals try omega
   exact zn ⟨(k+1,g+1,false,out++[l[k].upper],s+l[k].upper),hfin⟩ (zw [2,3,10,11,24,25,26] 2)
  ·have hs:=za hx (za hy (za hw (za hlt (za hkl (za hbk (za hws (za hwl hwu)))))))
   repeat' first|(with_reducible first|refine zz ?_|refine And.intro (by omega) ?_|refine zE [0,1,2,3,8,9,10,11,12,13,14,15,24,25,26,27,37,41] ?_)|simp -dsimp[hs]|refine i9 ?_ ?_<;>intro h<;>try simp only[i7] at h
   all_goals try clear hs
   all_goals try omega
   exact zn ⟨(k+1,g+1,false,out++[l[k].upper],s + -l[k].upper),hfin⟩ (zw [2,3,10,11,24,25,26] 2)
  ·have hs:=za hx (za hy (za hw (za hlt (za hkl (za hbk (za hws (za hwl hwu)))))))
   repeat' first|(with_reducible first|refine zz ?_|refine And.intro (by omega) ?_|refine zE [0,1,2,3,8,9,10,11,12,13,14,15,24,25,26,27,37,41] ?_)|simp -dsimp[hs]|refine i9 ?_ ?_<;>intro h<;>try simp only[i7] at h
   all_goals try clear hs
   all_goals try omega
   exact zn ⟨(k+1,g+1,false,out++[l[k].lower],s + -l[k].lower),hfin⟩ (zw [2,3,10,11,24,25,26] 2)
 ·rw[List.drop_eq_nil_of_le (by simp;omega)] at ho hs
  have hs:=hlt
  repeat' first|(with_reducible first|refine zz ?_|refine zr ?_|refine zE [0,1,2,3,8,9,10,11,12,13,14,15,24,25,26,27,37,41] ?_)|simp -dsimp[hs]|refine i9 ?_ ?_<;>intro h<;>try simp only[i7] at h
  all_goals try clear hs
  all_goals try omega
  rw[ho,hs];simp
theorem xZ (c:Chains) (D:List (Int×Int)) (B:List (Int×Issue)) (n:Nat) (hn:n<c.loops.length) (l:List Dim) (hl:c.loops[n].links.length≤12) (he:l.length=c.loops[n].links.length) (hd:∀ d∈l,C9 d=true):zP prog G 213 [.one (.im (J3 c D B)),iv (n:Int),.one (.im (.sl (l.map B0)))] (C3 (gk c.loops[n].links l false) (gk c.loops[n].links l true)):=by
 refine zf func213 ntmps213 ?_
 try simp only[iv]
 have c2:=yd (G:=G) c D B n hn l false hl he hd
 have c3:=yd (G:=G) c D B n hn l true hl he hd
 repeat' first|(with_reducible first|refine zz ?_|refine zx ?_|refine zE [0,1,2,6,8,10] ?_)|simp -dsimp|refine zp c2 ?_|refine zp c3 ?_
def HS (c:Chains) (n:Int):Int:=match c.loops[n.toNat]? with|some x=>gk x.links (aG c x) false|none=>0
def HX (c:Chains) (n:Int):Int:=match c.loops[n.toNat]? with|some x=>gk x.links (aG c x) true|none=>0
def Bd (c:Chains) (n:Int):Int:=if E9 c n=0 then HS c n else 0
def Be (c:Chains) (n:Int):Int:=if E9 c n=0 then HX c n else 0
theorem ye (c:Chains) (n:Int) (hG:o5 G) (hC:L4 G) (hs:lC c) (hok:A5 c=0→OkC c):zP prog G 167 [Bh c,iv n] (.tup [C3 (Bd c n) (Be c n),iv (E9 c n)]):=by
 refine zf func167 ntmps167 ?_
 try simp only[Bh,iv]
 have c1:=Cg c n hG hC hs
 by_cases hE:E9 c n=0
 ·have h0:A5 c=0:=by
   by_cases h:A5 c=0
   ·exact h
   ·simp[E9,h] at hE
  have hr:0≤n∧n<c.loops.length:=Classical.byContradiction fun h=>by simp[E9,h0,h] at hE
  obtain⟨k,rfl⟩:∃ k:Nat,n=k:=⟨n.toNat,by omega⟩
  have hk:k<c.loops.length:=by omega
  have h:=hok h0
  have hx:c.loops[k]?=some c.loops[k]:=by simp[hk]
  have c2:=xY (G:=G) c (R0 c) k hk h
  obtain⟨hsl,hsd⟩:=oW h hk
  have hln:=(h.gap c.loops[k] (List.getElem_mem hk)).1
  have c3:=xZ (G:=G) c (R0 c) (aD c.reg c.lets) k hk (aG c c.loops[k]) (by omega) hsl hsd
  have h1:HS c (k:Int)=gk c.loops[k].links (aG c c.loops[k]) false:=by simp only[HS,Int.toNat_natCast,hx]
  have h2:HX c (k:Int)=gk c.loops[k].links (aG c c.loops[k]) true:=by simp only[HX,Int.toNat_natCast,hx]
  rw[← h1,← h2] at c3
  rw[hE] at c1
  simp only[aq,h0,if_true,J3] at c1
  rw[Bd,Be,if_pos hE,if_pos hE]
  simp only[J3,eO,C3] at c2 c3
  have hs:=trivial
  repeat' first|(with_reducible first|refine zz ?_|refine zr ?_|refine zE [0,1,2,4,5,6,7,15] ?_)|simp -dsimp[hs]|refine zp c1 ?_|refine zp c2 ?_|refine zp c3 ?_|refine i9 ?_ ?_<;>intro h<;>try simp only[i7] at h
  all_goals try clear hs
  all_goals simp[hE]
 ·obtain⟨X,hX⟩:=mS c
  rw[hX] at c1
  rw[Bd,Be,if_neg hE,if_neg hE]
  have hs:=hE
  repeat' first|(with_reducible first|refine zz ?_|refine zr ?_|refine zE [0,1,2,4,5,6,7,15] ?_)|simp -dsimp[hs]|refine zp c1 ?_|refine i9 ?_ ?_<;>intro h<;>try simp only[i7] at h
  all_goals try clear hs
theorem mP (h1:Bool):∀ (q:List (Link×Dim)) (a b:Int),(∀ p∈q,C9 p.2=true)→a≤b→q.foldl (fun s p=>s+pa p.1 (W0 false p.1 p.2)) a≤q.foldl (fun s p=>s+pa p.1 (W0 true p.1 p.2)) b
 | [],a,b,_,h=>h
 | p :: q,a,b,hd,h=>by
   rw[List.foldl_cons,List.foldl_cons]
   refine mP h1 q _ _ (fun p hp=>hd p (by simp[hp])) ?_
   have hp:=(I6 _).1 (hd p (by simp))
   have:pa p.1 (W0 false p.1 p.2)≤pa p.1 (W0 true p.1 p.2):=by
    unfold pa W0
    cases p.1.back<;>simp<;>omega
   omega
theorem GZ {ls:List Link} {l:List Dim} (hd:∀ d∈l,C9 d=true):gk ls l false≤gk ls l true:=
 mP true _ 0 0 (fun _ hp=>hd _ (List.of_mem_zip hp).2) (Int.le_refl _)
def IS (c:Chains) (n:Int):Int:=match c.loops[n.toNat]? with
 | some x=>if x.lo≤Bd c n∧Be c n≤x.hi then 2 else if Be c n<x.lo∨x.hi<Bd c n then 0 else 1
 | none=>0
def R1 (c:Chains) (n:Int):Int:=if E9 c n=0 then IS c n else 0
def uC (n:Int):DV:=.one (.im (.raw (.int .u8 n)))
attribute [simp] uC
theorem iU {c:Chains} {n:Int} (h:E9 c n=0):A5 c=0∧∃ k:Nat,n=k∧k<c.loops.length:=by
 have h0:A5 c=0:=by
  by_cases h':A5 c=0
  ·exact h'
  ·simp[E9,h'] at h
 have hr:0≤n∧n<c.loops.length:=Classical.byContradiction fun h'=>by simp[E9,h0,h'] at h
 exact⟨h0,n.toNat,by omega,by omega⟩
theorem xO {c:Chains} {n:Int} (h:E9 c n=0) (hok:A5 c=0→OkC c):Bd c n≤Be c n:=by
 obtain⟨h0,k,rfl,hk⟩:=iU h
 have hx:c.loops[k]?=some c.loops[k]:=by simp[hk]
 obtain⟨hsl,hsd⟩:=oW (hok h0) hk
 rw[Bd,Be,if_pos h,if_pos h]
 simp only[HS,HX,Int.toNat_natCast,hx]
 exact GZ hsd
theorem vh (c:Chains) (n:Int) (hG:o5 G) (hC:L4 G) (hs:lC c) (hok:A5 c=0→OkC c):zP prog G 103 [Bh c,iv n] (.tup [uC (R1 c n),iv (E9 c n)]):=by
 refine zf func103 ntmps103 ?_
 try simp only[Bh,iv]
 have c1:=ye c n hG hC hs hok
 by_cases hE:E9 c n=0
 ·have hle:=xO hE hok
  obtain⟨h0,k,rfl,hk⟩:=iU hE
  have hx:c.loops[k]?=some c.loops[k]:=by simp[hk]
  have hK:R1 c (k:Int)=if c.loops[k].lo≤Bd c (k:Int)∧Be c (k:Int)≤c.loops[k].hi then 2 else if Be c (k:Int)<c.loops[k].lo∨c.loops[k].hi<Bd c (k:Int) then 0 else 1:=by simp only[R1,IS,Int.toNat_natCast,hx,if_pos hE]
  generalize Bd c (k:Int)=a at *
  generalize Be c (k:Int)=b at *
  have c2:=bg (G:=G) c.loops[k].lo c.loops[k].hi [a,b] (by simp)
  simp only[C3,hE] at c1
  by_cases hin:c.loops[k].lo≤a∧b≤c.loops[k].hi
  ·have hq:([a,b].all fun x=>decide (c.loops[k].lo≤x)&&decide (x≤c.loops[k].hi))=true:=by simp;omega
   rw[if_pos hin] at hK
   rw[hq] at c2
   have hs:=za hx hk
   repeat' first|(with_reducible first|refine zz ?_|refine zr ?_|refine zE [0,1,2,4,5,6,7,8,16,24,35] ?_)|simp -dsimp[hs]|refine zp c1 ?_|refine zt c2 ?_ ?_ ?_;(focus simp;done);focus (simp;done)|refine i9 ?_ ?_<;>intro h<;>try simp only[i7] at h
   all_goals try clear hs
   all_goals simp[hK,hE]
  ·have hq:([a,b].all fun x=>decide (c.loops[k].lo≤x)&&decide (x≤c.loops[k].hi))=false:=by simp;omega
   rw[if_neg hin] at hK
   rw[hq] at c2
   have hs:=za hx hk
   repeat' first|(with_reducible first|refine zz ?_|refine zr ?_|refine zE [0,1,2,4,5,6,7,8,16,24,35] ?_)|simp -dsimp[hs]|refine zp c1 ?_|refine zt c2 ?_ ?_ ?_;(focus simp;done);focus (simp;done)|refine i9 ?_ ?_<;>intro h<;>try simp only[i7] at h
   all_goals try clear hs
   all_goals first
    | (exfalso;omega)
    | (rw[if_pos (by omega)] at hK;simp[hK,hE];done)
    | (rw[if_neg (by omega)] at hK;simp[hK,hE])
 ·have hK:R1 c n=0:=by simp[R1,hE]
  have hs:=hE
  repeat' first|(with_reducible first|refine zz ?_|refine zr ?_|refine zE [0,1,2,4,5,6,7,8,16,24,35] ?_)|simp -dsimp[hs]|refine zp c1 ?_|refine i9 ?_ ?_<;>intro h<;>try simp only[i7] at h
  all_goals try clear hs
  all_goals simp[hK]
end Go.Proofs
namespace Go.Proofs
open Go Go.Ab
theorem kL {l:List Issue} {lets:List Int} (h0:j7 l=0) (hlet:u6 l lets=true) {dep:Int→Int} (hdep:∀ n∈nums l,1≤dep n∧dep n≤6∧∀ c∈cA l n,c∈nums l∧dep c<dep n) :
 ∀ (k:Nat) (d m:Int),d∈nums l→∀ p∈N3 (u4 l lets) k d m,p.1∈nums l
 | 0,_,_,_,p,hp=>by cases hp
 | k+1,d,m,hd,p,hp=>by
   rw[N3] at hp
   split at hp
   ·rw[List.mem_singleton] at hp;rw[hp];exact hd
   ·obtain⟨y,hy,hp⟩:=List.mem_flatMap.1 hp
    have hc:=(hdep d hd).2.2 _ (jW h0 hlet hd y hy)
    exact kL h0 hlet hdep k _ _ hc.1 p hp
theorem ni {ns:List Int} (hnd:ns.Nodup):∀ (lv:List (Int×Int)) (m:List (Int×Int)),(∀ p∈lv,p.1∈ns)→FD ns (ns.map (l9 m)) lv=ns.map (l9 (ju m lv))
 | [],_,_=>rfl
 | p :: lv,m,h=>by
   have h1:=ni hnd lv (L8 p.1 (IntKind.i64.wrap (l9 m p.1+p.2)) m) fun q hq=>h q (by simp[hq])
   obtain⟨j,hj⟩:=List.mem_iff_getElem?.1 (h p (by simp))
   have he:FE ns (ns.map (l9 m)) p=ns.map (l9 (L8 p.1 (IntKind.i64.wrap (l9 m p.1+p.2)) m)):=by
    simp only[FE,kR hnd hj,Int.toNat_natCast,List.getElem?_map,hj,Option.map_some,Option.getD_some]
    rw[kD hnd hj]
    refine List.map_congr_left fun n _=>?_
    rw[Y2]
    by_cases e:n=p.1<;>simp[e]
   simp only[FD,ju,List.foldl_cons] at h1 ⊢
   rw[he];exact h1
theorem eF (f:Int→Int):∀ ns:List Int,((ns.zip (ns.map f)).filter fun p=>decide (0<p.2)).map (fun p=>(⟨p.1,p.2⟩:Itm))=(ns.filter fun n=>decide (0<f n)).map fun n=>⟨n,f n⟩
 | []=>rfl
 | n :: ns=>by
   simp only[List.map_cons,List.zip_cons_cons,List.filter_cons]
   by_cases h:0<f n
   ·simp only[h,decide_true,if_true,List.map_cons,eF f ns]
   ·simp only[h,decide_false,Bool.false_eq_true,if_false,eF f ns]
theorem pm {l:List Issue} {lets:List Int} {d:Int} (h0:j7 l=0) (hlet:u6 l lets=true) (hd:d∈nums l):kr l lets d=K4 (nums l) (lX l lets d):=by
 obtain⟨dep,hdep⟩:=qf h0
 have hnd:(nums l).Nodup:=(E1 h0).1.imp fun h=>Int.ne_of_lt h
 have h1:=ni hnd (N3 (u4 l lets) 6 d 1) [] (kL h0 hlet hdep 6 d 1 hd)
 have h2:(nums l).map (l9 [])=List.replicate (nums l).length 0:=jD (fun _=>rfl) _
 rw[h2] at h1
 have h3:Hy l lets d=(nums l).map (l9 (lX l lets d)):=h1
 rw[kr,h3,eF];rfl
theorem kG:∀ (ps:List Itm) (m:List (Int×Int)) (d:Int),(ps.map (·.drawing)).Nodup→l9 (ps.foldl (fun m x=>L8 x.drawing x.count m) m) d=if d∈ps.map (·.drawing) then dt ps d else l9 m d
 | [],m,d,_=>by simp
 | y :: ps,m,d,h=>by
   rw[List.map_cons,List.nodup_cons] at h
   rw[List.foldl_cons,kG ps _ d h.2,Y2,dt]
   by_cases e:d=y.drawing
   ·subst e
    rw[if_neg h.1,if_pos rfl,if_pos (by simp),if_pos rfl]
   ·rw[if_neg e,if_neg (Ne.symm e)]
    by_cases hm:d∈ps.map (·.drawing)
    ·rw[if_pos hm,if_pos (by simp only[List.map_cons,List.mem_cons];exact .inr hm)]
    ·rw[if_neg hm,if_neg (by simp only[List.map_cons,List.mem_cons];exact fun h=>h.elim e hm)]
theorem dq:∀ (ps:List Itm) (d:Int),d∉ps.map (·.drawing)→dt ps d=0
 | [],_,_=>rfl
 | y :: ps,d,h=>by
   rw[List.map_cons,List.mem_cons,not_or] at h
   rw[dt,if_neg (Ne.symm h.1)];exact dq ps d h.2
def oz (ls:List Link) (d:Int):Nat:=(ls.filter fun y=>decide (y.drawing=d)).length
theorem dT (y:Link) (r:List Link) (d:Int):oz (y :: r) d=(if y.drawing=d then 1 else 0)+oz r d:=by
 unfold oz
 by_cases h:y.drawing=d
 ·rw[List.filter_cons_of_pos (by simpa using h),if_pos h,List.length_cons];omega
 ·rw[List.filter_cons_of_neg (by simpa using h),if_neg h];omega
theorem qk {ls:List Link} {y:Link} (h:y∈ls):1≤oz ls y.drawing:=
 List.length_pos_of_mem (List.mem_filter.2 ⟨h,by simp⟩)
theorem wq {ls:List Link} {d:Int} (h:∀ y∈ls,y.drawing≠d):oz ls d=0:=by
 unfold oz
 rw[List.filter_eq_nil_iff.2 fun y hy=>by simpa using h y hy];rfl
def uj (B:List (Int×Issue)) (y:Link):Bool:=decide (0≤y.dim)&&decide (y.dim≤((I8 B y.drawing).dims.length:Int)-1)
theorem jT (D:List (Int×Int)) (B:List (Int×Issue)):∀ (r:List Link) (U:List (Int×Int)),W4 D B U r=true↔∀ y∈r,uj B y=true∧l9 U y.drawing+oz r y.drawing≤l9 D y.drawing
 | [],U=>by simp[W4]
 | y :: r,U=>by
   have ih:=jT D B r (L8 y.drawing (l9 U y.drawing+1) U)
   have hu:W4 D B U (y :: r)=(decide (l9 U y.drawing+1≤l9 D y.drawing)&&uj B y&&W4 D B (L8 y.drawing (l9 U y.drawing+1) U) r):=rfl
   rw[hu,Bool.and_eq_true,Bool.and_eq_true,decide_eq_true_eq,ih]
   constructor
   ·rintro⟨⟨h1,h2⟩,h3⟩ z hz
    have key:∀ z∈r,uj B z=true∧l9 U z.drawing+oz (y :: r) z.drawing≤l9 D z.drawing:=fun z hz=>by
     obtain⟨a,b⟩:=h3 z hz
     rw[Y2] at b
     rw[dT]
     refine⟨a,?_⟩
     by_cases e:z.drawing=y.drawing
     ·rw[if_pos e] at b;rw[if_pos e.symm];rw[e] at b ⊢;omega
     ·rw[if_neg e] at b;rw[if_neg (Ne.symm e)];omega
    rcases List.mem_cons.1 hz with rfl|hz
    ·refine⟨h2,?_⟩
     by_cases hex:∃ w∈r,w.drawing=z.drawing
     ·obtain⟨w,hw,e⟩:=hex
      have:=(key w hw).2
      rw[e] at this;exact this
     ·rw[dT,if_pos rfl,wq fun w hw e=>hex ⟨w,hw,e⟩];omega
    ·exact key z hz
   ·intro h
    obtain⟨a,b⟩:=h y (by simp)
    rw[dT,if_pos rfl] at b
    refine⟨⟨by omega,a⟩,fun z hz=>?_⟩
    obtain⟨a',b'⟩:=h z (by simp[hz])
    refine⟨a',?_⟩
    rw[dT] at b'
    rw[Y2]
    by_cases e:z.drawing=y.drawing
    ·rw[if_pos e.symm,e] at b';rw[if_pos e,e];omega
    ·rw[if_neg (Ne.symm e)] at b';rw[if_neg e];omega
def nN (c:Chains) (ls:List Link) (y:Link):Bool:=decide ((oz ls y.drawing:Int)≤dt (kr c.reg c.lets c.of) y.drawing)&&(decide (0≤y.dim)&&decide (y.dim≤((u4 c.reg c.lets y.drawing).dims.length:Int)-1))
def bK (c:Chains) (x:ChLoop):Bool:=sS x&&qo x&&x.links.all (nN c x.links)
theorem ku {c:Chains} {d:Int} (h0:j7 c.reg=0) (hlet:u6 c.reg c.lets=true) (hof:c.of∈nums c.reg) (hc:1≤dt (kr c.reg c.lets c.of) d):d∈nums c.reg:=by
 refine Classical.byContradiction fun hn=>?_
 rw[pm h0 hlet hof,dq] at hc
 ·omega
 ·intro hm
  simp only[K4,List.map_map] at hm
  obtain⟨n,h1,h2⟩:=List.mem_map.1 hm
  simp only[Function.comp] at h2
  exact hn (h2 ▸ (List.mem_filter.1 h1).1)
theorem vv {c:Chains} (h0:j7 c.reg=0) (hlet:u6 c.reg c.lets=true) (hof:c.of∈nums c.reg) (x:ChLoop):N2 (R0 c) (aD c.reg c.lets) x=bK c x:=by
 have hnd:(nums c.reg).Nodup:=(E1 h0).1.imp fun h=>Int.ne_of_lt h
 have hT:B5 c.reg c.lets c.of=0:=by simp[B5,h0,hlet,hof]
 have hD:∀ d,l9 (R0 c) d=dt (kr c.reg c.lets c.of) d:=fun d=>by
  rw[pm h0 hlet hof]
  have hE:bk c.reg c.lets c.of=K4 (nums c.reg) (lX c.reg c.lets c.of):=by rw[bk,if_pos hT]
  have hn:((K4 (nums c.reg) (lX c.reg c.lets c.of)).map (·.drawing)).Nodup:=by
   simp only[K4,List.map_map]
   have:(fun x:Itm=>x.drawing) ∘ (fun n=>(⟨n,l9 (lX c.reg c.lets c.of) n⟩:Itm))=id:=rfl
   rw[this,List.map_id]
   exact hnd.filter _
  rw[R0,hE,kG _ _ _ hn]
  split
  ·rfl
  ·rw[dq _ _ ‹_›];rfl
 unfold N2 bK
 congr 1
 rw[Bool.eq_iff_iff,jT,List.all_eq_true]
 refine forall_congr' fun y=>forall_congr' fun hy=>?_
 simp only[nN,uj,Bool.and_eq_true,decide_eq_true_eq,hD]
 have hp:=qk hy
 have hz:l9 [] y.drawing=0:=rfl
 constructor
 ·rintro⟨h1,h2⟩
  have hm:=ku (d:=y.drawing) h0 hlet hof (by omega)
  rw[aD,T2,if_pos hm] at h1
  exact⟨by omega,h1⟩
 ·rintro⟨h1,h2⟩
  have hm:=ku (d:=y.drawing) h0 hlet hof (by omega)
  rw[aD,T2,if_pos hm]
  exact⟨h2,by omega⟩
theorem oB {c:Chains} (h0:j7 c.reg=0):A5 c=(if u6 c.reg c.lets=true∧c.of∈nums c.reg∧(1≤c.loops.length∧c.loops.length≤6)∧c.loops.all (bK c)=true then 0 else 60):=by
 unfold A5
 rw[if_neg (by simp[h0])]
 by_cases hlet:u6 c.reg c.lets=true
 ·by_cases hof:c.of∈nums c.reg
  ·have hT:B5 c.reg c.lets c.of=0:=by simp[B5,h0,hlet,hof]
   have hL:c.loops.all (N2 (R0 c) (aD c.reg c.lets))=c.loops.all (bK c):=by
    congr 1;exact funext fun x=>vv h0 hlet hof x
   rw[hL]
   by_cases hn:1≤c.loops.length∧c.loops.length≤6
   ·rw[if_neg (by simp[hT];omega)]
    by_cases ha:c.loops.all (bK c)=true
    ·rw[if_pos ha,if_pos ⟨hlet,hof,hn,ha⟩]
    ·rw[if_neg ha,if_neg fun h=>ha h.2.2.2]
   ·rw[if_pos (.inr hn),if_neg fun h=>hn h.2.2.1]
  ·have hT:B5 c.reg c.lets c.of≠0:=by simp[B5,h0,hlet,hof]
   rw[if_pos (.inl hT),if_neg fun h=>hof h.2.1]
 ·have hT:B5 c.reg c.lets c.of≠0:=by
   have:u6 c.reg c.lets=false:=by simpa using hlet
   simp[B5,h0,this]
  rw[if_pos (.inl hT),if_neg fun h=>hlet h.1]
theorem Js {c:Chains} (h:A5 c=0):OkC c:=by
 have h0:j7 c.reg=0:=Classical.byContradiction fun h'=>by simp[A5,h'] at h
 rw[oB h0] at h
 split at h
 ·rename_i hc
  obtain⟨a,b,d,e⟩:=hc
  rw[List.all_eq_true] at e
  refine⟨h0,a,b,d,fun x hx=>?_,fun x hx y hy=>?_⟩
  ·have:=e x hx
   simp only[bK,sS,Bool.and_eq_true,decide_eq_true_eq] at this
   exact⟨this.1.1.2,this.1.2⟩
  ·have:=e x hx
   simp only[bK,Bool.and_eq_true,List.all_eq_true] at this
   have:=this.2 y hy
   simp only[nN,Bool.and_eq_true,decide_eq_true_eq] at this
   have hp:=qk hy
   exact⟨ku h0 a b (by omega),this.2.1,by omega⟩
 ·cases h
variable {G:JO}
end Go.Proofs
namespace Go.Ab
open Go
structure Spot where
 drawing:Int
 dim:Int
 deriving DecidableEq
def jI (x:Spot):List IC:=[rI x.drawing,rI x.dim]
def DU (l:List Spot):DV:=.one (.im (.sl (l.map jI)))
attribute [simp] jI DU
def sZ (a b:Spot):Bool:=decide (a.drawing<b.drawing)||(decide (a.drawing=b.drawing)&&decide (a.dim<b.dim))
def yQ (x:Spot):List Spot→Nat
 | []=>0
 | y :: r=>if sZ y x then yQ x r+1 else 0
def Iw (x:Spot) (l:List Spot):List Spot:=l.take (yQ x l)++x :: l.drop (yQ x l)
def II (f:Spot→Bool) (out:List Spot) (x:Spot):List Spot:=if f x=false∨x∈out then out else Iw x out
def IH (f:Spot→Bool) (l:List Spot):List Spot:=l.foldl (II f) []
def kS (x:Spot):List Value:=[.int .i64 x.drawing,.int .i64 x.dim]
def wd (l:List Spot):List (List Value×List DC):=l.map fun x=>(kS x,[.im (rB true)])
def DI (l:List Spot):List (List Value×List IC):=l.map fun x=>(kS x,[rB true])
@[simp] theorem It (k n:Nat) (objs:List DObj) (l:List Spot):D4 (fun x:List Value×List DC=>(D4 (frz (k+1) n objs) x.2).map fun l=>(x.1,l)) (wd l)=some (DI l):=by
 induction l with
 | nil=>rfl
 | cons p r ih =>
   have e:wd (p :: r)=(kS p,[.im (rB true)]) :: wd r:=rfl
   rw[e]
   simp[D4,ih,DI]
@[simp] theorem GW (n:Nat) (objs:List DObj) (l:List Spot):((wd l).map fun x=>(x.1,x.2.map (fz n objs)))=wd l:=by
 simp[wd,fz,DC.lt]
@[simp] theorem Hm (L:List Spot) (k:Nat) (h:k<(l8 (L.map jI)).length):(l8 (L.map jI))[k]=[DC.im (.raw (.int .i64 (L[k]'(by simpa[p6] using h)).drawing)),DC.im (.raw (.int .i64 (L[k]'(by simpa[p6] using h)).dim))]:=by
 simp[l8]
end Go.Ab
namespace Go.Proofs
open Go Go.Ab
def xy (y:Link):Spot:=⟨y.drawing,y.dim⟩
def GQ (d:Dim):Int:=min (max d.nominal d.lower) d.upper
def DP (d:Dim) (g:Int):Dim:=⟨d.nominal,max d.lower (GQ d-g),min d.upper (GQ d+g)⟩
def IB (c:Chains) (so:Spot→Bool) (g:Int) (y:Link):Dim:=if so (xy y) then DP (cp c y) g else cp c y
def IM (c:Chains) (so:Spot→Bool) (g:Int) (x:ChLoop):List Dim:=x.links.map (IB c so g)
def Ju (c:Chains) (so:Spot→Bool) (g:Int) (x:ChLoop):Int:=gk x.links (IM c so g x) false
def Jy (c:Chains) (so:Spot→Bool) (g:Int) (x:ChLoop):Int:=gk x.links (IM c so g x) true
def CS (c:Chains) (so:Spot→Bool) (g:Int) (x:ChLoop):Bool:=decide (x.lo≤Ju c so g x)&&decide (Jy c so g x≤x.hi)
def IG (c:Chains) (so:Spot→Bool) (g:Int):Bool:=c.loops.all (CS c so g)
def jy (c:Chains):List Spot:=c.loops.flatMap fun x=>x.links.map xy
def EL (c:Chains) (x:Spot):Bool:=decide ((u4 c.reg c.lets x.drawing).kind≠3)
def qA (c:Chains):List Spot:=IH (EL c) (jy c)
def gs (p:Int→Bool):Nat→Int→Int→Int
 | 0,lo,_=>lo
 | k+1,lo,hi=>if lo<hi then (if p (hi-(hi-lo) / 2) then gs p k (hi-(hi-lo) / 2) hi else gs p k lo (hi-(hi-lo) / 2-1)) else lo
def GR (l:List Spot) (set:Nat):Nat→List Spot
 | 0=>[]
 | k+1=>GR l set k++(match l[k]? with
   | some x=>if set.testBit k then [x] else []
   | none=>[])
def lexB:List Spot→List Spot→Bool
 | a :: l,b :: m=>if a=b then lexB l m else sZ a b
 | _,_=>false
def xz (a b:List Spot):Bool:=decide (a.length<b.length)||(decide (a.length=b.length)&&lexB a b)
def Da (best:Option (List Spot)) (x:List Spot):Bool:=match best with
 | none=>true
 | some b=>xz x b
def Gg (good:List Spot→Bool) (best:Option (List Spot)) (x:List Spot):Option (List Spot):=if Da best x&&good x then some x else best
def DZ (all:List Spot) (k:Nat):List (List Spot):=(List.range k).map fun s=>GR all s all.length
def Jx (l:List Spot):Spot→Bool:=fun x=>decide (x∈l)
def Hr (c:Chains) (x:List Spot):Bool:=IG c (Jx x) 0
def zH (c:Chains) (b0:Option (List Spot)) (k:Nat):Option (List Spot):=(DZ (qA c) k).foldl (Gg (Hr c)) b0
def IA (c:Chains):Option (List Spot):=zH c none (2 ^ (qA c).length)
open Go Go.Ab Tryz
variable {G:JO}
def SoF (G:JO) (c:Chains) (fv:IC) (so:Spot→Bool):Prop:=
 (∃ (f:FuncId) (caps:List IC),fv=.fn (.func f) caps∧C7 prog f∧∀ x∈jy c,∀ objs,DCall prog G f (C3 x.drawing x.dim :: caps.map fun c=>.one (.im c)) objs (fun d o=>d=bv (so x)∧o=objs)) ∨
 (∃ (f:FuncId) (l:List IC),fv=.bf (.func f) l∧C7 prog f∧∀ x∈jy c,∀ objs,DCall prog G f ((l.map fun c=>DV.one (.im c))++[C3 x.drawing x.dim]) objs (fun d o=>d=bv (so x)∧o=objs))
def jn:List Int→Int
 | []=>0
 | x :: r=>if x=0 then jn r else x
theorem Dy (l:List Int) (hl:l.length<1000000):zP prog G 84 [s6 l] (iv (jn l)):=by
 refine zf func84 ntmps84 ?_
 try simp only[s6]
 have hs:=trivial
 repeat' first|(with_reducible first|refine zz ?_|refine zE [0,2,3,5,6,7,8,9,14] ?_)|simp -dsimp[hs]
 refine i6 (ι:={ p:Nat // p≤l.length∧jn l=jn (l.drop p) }) (fun p=>⟨18,[(3,iv 0),(6,.one (.im (.sl (l.map encI)))),(7,iv (l.length:Int)),(8,iv (p.1:Int))],[]⟩) (fun p=>l.length-p.1) ⟨0,by simp⟩ (zv [3,6,7,8]) ?_
 rintro⟨k,hk,hu⟩
 simp only[iv]
 by_cases hlt:k<l.length
 ·have hw:=zk k
  rw[List.drop_eq_getElem_cons hlt,jn] at hu
  generalize hx:l[k]=x at *
  have hs:=za hx (za hw hlt)
  repeat' first|(with_reducible first|refine zz ?_|refine zr ?_|refine zE [0,2,3,5,6,7,8,9,14] ?_)|simp -dsimp[hs]|refine i9 ?_ ?_<;>intro h<;>try simp only[i7] at h
  ·rw[hu,if_neg (by assumption)]
  ·rw[if_pos (by assumption)] at hu
   exact zn ⟨k+1,by omega,hu⟩ (zv [3,6,7,8])
 ·rw[List.drop_eq_nil_of_le (by omega)] at hu
  have hs:=hlt
  repeat' first|(with_reducible first|refine zz ?_|refine zr ?_|refine zE [0,2,3,5,6,7,8,9,14] ?_)|simp -dsimp[hs]|refine i9 ?_ ?_<;>intro h<;>try simp only[i7] at h
  rw[hu];rfl
attribute [simp] p5 bw r9 v8 nilV H8 ZK
theorem SoF.congr {c:Chains} {fv:IC} {so so':Spot→Bool} (h:SoF G c fv so) (he:∀ x∈jy c,so x=so' x):SoF G c fv so':=by
 rcases h with⟨f,caps,h1,h2,h3⟩|⟨f,caps,h1,h2,h3⟩
 ·exact .inl ⟨f,caps,h1,h2,fun x hx objs=>(h3 x hx objs).mono fun d o ⟨a,b⟩=>⟨by rw[a,he x hx],b⟩⟩
 ·exact .inr ⟨f,caps,h1,h2,fun x hx objs=>(h3 x hx objs).mono fun d o ⟨a,b⟩=>⟨by rw[a,he x hx],b⟩⟩
attribute [simp] p5 bw r9 v8 nilV H8 ZK
attribute [simp] p5 bw L0 dZ r9 v8 nilV H8 ZK
@[simp] theorem FR (L:List ChLoop) (k:Nat) (h:k<(l8 (L.map G8)).length):(l8 (L.map G8))[k]=[DC.im (.sl ((L[k]'(by simpa[p6] using h)).links.map F8)),DC.im (.raw (.int .i64 (L[k]'(by simpa[p6] using h)).lo)),DC.im (.raw (.int .i64 (L[k]'(by simpa[p6] using h)).hi))]:=by
 simp[l8,G8,rI]
@[simp] theorem FQ (L:List Issue) (k:Nat) (h:k<(l8 (L.map g9)).length):(l8 (L.map g9))[k]=(g9 (L[k]'(by simpa[p6] using h))).map .im:=by
 simp[l8]
def bN (l:List Issue) (d:Int):DV:=if j7 l=0∧d∈nums l then .one (.im (v6 l (nums l))) else .one (.im (.raw (.pointer none)))
theorem vC (l:List Issue) (d:Int):ImV (bN l d):=by unfold bN;split<;>simp[v6]
attribute [simp] vC
def Z1 (l:List Issue) (d:Int):Int:=if j7 l≠0 then j7 l else if d∈nums l then 0 else 6
theorem Cl (l:List Issue) (d:Int) (hG:o5 G) (hs:T9 l):zP prog G 209 [G7 l,iv d] (.tup [bN l d,iv (Z1 l d)]):=by
 refine zf func209 ntmps209 ?_
 try simp only[G7,iv]
 have c1:=fM l hG hs
 by_cases h0:j7 l=0
 ·simp only[bp,h0,if_true] at c1
  have c2:=yY (G:=G) l (nums l) d ((E1 h0).1.imp fun h=>Int.le_of_lt h) (by have:=hs.1;have:=w8 l l.length;unfold nums;omega)
  by_cases hm:d∈nums l
  ·simp only[hm,decide_true,v6] at c1 c2
   have hs:=trivial
   repeat' first|(with_reducible first|refine zz ?_|refine zr ?_|refine zE [0,1,2,4,5,6,7,14,19] ?_)|simp -dsimp[hs]|refine zp c1 ?_|refine zp c2 ?_|refine i9 ?_ ?_<;>intro h<;>try simp only[i7] at h
   all_goals try clear hs
   all_goals simp[bN,Z1,h0,hm,v6]
  ·simp only[hm,decide_false,v6] at c1 c2
   have hs:=trivial
   repeat' first|(with_reducible first|refine zz ?_|refine zr ?_|refine zE [0,1,2,4,5,6,7,14,19] ?_)|simp -dsimp[hs]|refine zp c1 ?_|refine zp c2 ?_|refine i9 ?_ ?_<;>intro h<;>try simp only[i7] at h
   all_goals try clear hs
   all_goals simp[bN,Z1,h0,hm,v6]
 ·simp only[bp,h0,if_false] at c1
  have hs:=h0
  repeat' first|(with_reducible first|refine zz ?_|refine zr ?_|refine zE [0,1,2,4,5,6,7,14,19] ?_)|simp -dsimp[hs]|refine zp c1 ?_|refine i9 ?_ ?_<;>intro h<;>try simp only[i7] at h
  all_goals try clear hs
  all_goals simp[bN,Z1,h0]
def ec (l:List Issue) (d:Int):Nat:=(l.filter fun x=>decide (x.drawing=d)).length
theorem Bv {l:List Issue} {d:Int} (hs:(l.map (·.drawing)).Pairwise (·≤·)):ec l d=ec (l.drop (lb (l.map (·.drawing)) d)) d:=by
 conv=>lhs;rw[← List.take_append_drop (lb (l.map (·.drawing)) d) l]
 simp only[ec,List.filter_append]
 rw[List.filter_eq_nil_iff.2 fun x hx=>?_]
 ·rfl
 ·have:=rh hs x hx
  simp;omega
theorem Cj (l:List Issue) (ds:List Int) (d:Int) (hs:(l.map (·.drawing)).Pairwise (·≤·)) (hl:l.length<1000000):zP prog G 210 [.one (.im (v6 l ds)),iv d] (iv (ec l d:Int)):=by
 refine zf func210 ntmps210 ?_
 try simp only[iv]
 simp only[v6]
 have c1:=kN (G:=G) (v6 l ds) d
 simp only[v6] at c1
 have hs:=trivial
 repeat' first|(with_reducible first|refine zz ?_|refine zE [0,1,4,5,8] ?_)|simp -dsimp[hs]|refine zp c1 ?_
 all_goals try clear hs
 refine R8 (f:=280) (by simp;exact rfl) (by rfl) call280 ?_
 generalize hR:LoopD.mk _ _ _ _ _ _ _=R
 have hR1:R.st=.ready:=by rw[← hR]
 have hR2:R.pend=none:=by rw[← hR]
 have hR3:R.at .ready none=R:=by rw[← hR];rfl
 have hR4:=(congrArg LoopD.nt hR).symm
 have hR5:=(congrArg LoopD.tm hR).symm
 have hR6:=(congrArg LoopD.ps hR).symm
 have hR7:=(congrArg LoopD.asg hR).symm
 have hR8:=(congrArg LoopD.body hR).symm
 dsimp only at hR4 hR5 hR6 hR7 hR8
 clear hR
 refine h9 func280 rfl ntmps280 (by simp) rfl ?_
 have hR9:∀ objs:List DObj,(R.tm.map fun x=>(x.1,eY 2 objs x.2))=R.tm:=by intro objs;rw[hR5];simp
 have hlb:=pE (l.map (·.drawing)) d
 rw[List.length_map] at hlb
 have c2:=fi (G:=G) l d hs hl
 have hs:=za hR1 (za hR2 (za hR3 hlb))
 repeat' first|with_reducible refine zz ?_|simp -dsimp[hs]|refine zq c2 ?_|refine zM 0 41 12 [0,1,2,4,7,24,25,26,27,39] ?_|with_reducible refine zE [0,1,2,4,5,7,8,24,25,26,27,39] ?_
 all_goals try clear hs
 rw[← List.map_drop]
 have hge:=ri (d:=d) hs
 have hss:((l.drop (lb (l.map (·.drawing)) d)).map (·.drawing)).Pairwise (·≤·):=by rw[List.map_drop];exact hs.drop
 have hsl:l.length-lb (l.map (·.drawing)) d=(l.drop (lb (l.map (·.drawing)) d)).length:=by simp
 rw[hsl]
 have hsl2:(l.drop (lb (l.map (·.drawing)) d)).length<1000000:=by simp;omega
 rw[Bv hs]
 generalize l.drop (lb (l.map (·.drawing)) d)=s at hge hss hsl2 ⊢
 refine i6 (ι:={ k:Nat // k≤s.length∧k+ec (s.drop k) d=ec s d }) (fun p=>⟨41,[(0,.one (.yld 1)),(2,.one (.im (.ip [rI d]))),(24,.one (.im (.sl (s.map g9)))),(25,iv (s.length:Int)),(26,iv (p.1:Int))],[.row [.im (rI (p.1:Int))],.loop R]⟩) (fun p=>s.length-p.1) ⟨0,by simp⟩ (zv [0,2,24,25,26]) ?_
 rintro⟨k,hk,hno⟩
 simp only[iv]
 by_cases hlt:k<s.length
 ·have hx:s[k]?=some s[k]:=by simp[hlt]
  have hw:=zk k
  have hcons:s.drop k=s[k] :: s.drop (k+1):=List.drop_eq_getElem_cons hlt
  by_cases hd:s[k].drawing=d
  ·have hno':k+1+ec (s.drop (k+1)) d=ec s d:=by
    rw[← hno,ec,ec,hcons,List.filter_cons_of_pos (by simp[hd]),List.length_cons];omega
   have hs:=za hR1 (za hR2 (za hR3 (za hx (za hw (za hd hlt)))))
   repeat' first|(with_reducible first|refine zz ?_|refine zE [0,1,2,4,5,7,8,24,25,26,27,39] ?_)|simp -dsimp[hs]|with_reducible refine At.yield_end ?_;simp -dsimp[hs]|refine ay ?_ ?_<;>simp -dsimp[hs]|refine P2 ?_;simp -dsimp[R7,hR4,hR5,hR6,hR7,hR8,hs]|refine i9 ?_ ?_<;>intro h<;>try simp only[i7] at h
   all_goals try clear hs
   all_goals exact zn ⟨k+1,by omega,hno'⟩ (zw [0,2,24,25,26] 2 (by simp[hR9]))
  ·have hnone:ec (s.drop k) d=0:=by
    simp only[ec,List.length_eq_zero_iff,List.filter_eq_nil_iff]
    intro x hxm
    obtain⟨i,hi⟩:=List.mem_iff_getElem?.1 hxm
    rw[List.getElem?_drop] at hi
    have h1:s[k].drawing≤x.drawing:=by
     rcases Nat.eq_zero_or_pos i with rfl|hp
     ·rw[Nat.add_zero,hx] at hi;cases hi;exact Int.le_refl _
     ·have hlt2:=(List.getElem?_eq_some_iff.1 hi).1
      have:=(List.pairwise_iff_getElem.1 hss) k (k+i) (by simpa using hlt) (by simpa using hlt2) (by omega)
      have h6:=(List.getElem?_eq_some_iff.1 hi).2
      simp at this;rw[h6] at this;exact this
    have h2:=hge s[k] (List.getElem_mem hlt)
    simp;omega
   have hN:ec s d=k:=by omega
   have hs:=za hR1 (za hR2 (za hR3 (za hx (za hw (za hd hlt)))))
   repeat' first|(with_reducible first|refine zz ?_|refine zr ?_ (by simp -dsimp[B9,hs];exact rfl)|refine zE [0,1,2,4,5,7,8,24,25,26,27,39] ?_)|simp -dsimp[B9,hs]|with_reducible show B9 _ _ _ _ _ _ _ _;simp -dsimp[B9,hs]|refine i9 ?_ ?_<;>intro h<;>try simp only[i7] at h
   all_goals try clear hs
   all_goals simp[hN]
 ·have hN:ec s d=k:=by rw[← hno,List.drop_eq_nil_of_le (by omega)];simp[ec]
  have hs:=za hR1 (za hR2 (za hR3 hlt))
  repeat' first|(with_reducible first|refine zz ?_|refine zr ?_ (by simp -dsimp[B9,hs];exact rfl)|refine ze ?_ (by simp -dsimp[B9,hs];exact rfl)|refine zE [0,1,2,4,5,7,8,24,25,26,27,39] ?_)|simp -dsimp[B9,hs]|with_reducible show B9 _ _ _ _ _ _ _ _;simp -dsimp[B9,hs]|refine i9 ?_ ?_<;>intro h<;>try simp only[i7] at h
  all_goals try clear hs
  all_goals simp[hN]
def yE (l:List Issue) (d:Int):Int:=if Z1 l d=0 then (ec l d:Int) else 0
theorem BK (l:List Issue) (d:Int) (hG:o5 G) (hs:T9 l):zP prog G 154 [G7 l,iv d] (.tup [iv (yE l d),iv (Z1 l d)]):=by
 refine zf func154 ntmps154 ?_
 try simp only[G7,iv]
 have c1:=Cl (G:=G) l d hG hs
 by_cases h0:Z1 l d=0
 ·have hk:j7 l=0∧d∈nums l:=by
   unfold Z1 at h0
   by_cases h1:j7 l=0
   ·refine⟨h1,?_⟩
    rw[if_neg (by simp[h1])] at h0
    by_cases h2:d∈nums l
    ·exact h2
    ·rw[if_neg h2] at h0;cases h0
   ·rw[if_pos h1] at h0;exact absurd h0 h1
  have c2:=Cj (G:=G) l (nums l) d (bW hk.1) (by have:=hs.1;omega)
  rw[bN,if_pos hk,h0] at c1
  rw[yE,if_pos h0,h0]
  simp only[v6] at c1 c2
  have hs:=trivial
  repeat' first|(with_reducible first|refine zz ?_|refine zr ?_|refine zE [0,1,2,4,5,6,7,15] ?_)|simp -dsimp[hs]|refine zp c1 ?_|refine zp c2 ?_|refine i9 ?_ ?_<;>intro h<;>try simp only[i7] at h
  all_goals try clear hs
 ·rw[yE,if_neg h0]
  generalize hX:bN l d=X at c1
  have hXo:∃ x,X=.one (.im x):=by subst hX;unfold bN;split<;>exact⟨_,rfl⟩
  obtain⟨x,rfl⟩:=hXo
  generalize Z1 l d=e at *
  have hs:=h0
  repeat' first|(with_reducible first|refine zz ?_|refine zr ?_|refine zE [0,1,2,4,5,6,7,15] ?_)|simp -dsimp[hs]|refine zp c1 ?_|refine i9 ?_ ?_<;>intro h<;>try simp only[i7] at h
  all_goals try clear hs
end Go.Proofs
namespace Go.Ab
open Go
structure Piece where
 holder:Int
 day:Int
 lo:Int
 hi:Int
 deriving DecidableEq
structure Case where
 p:Prints
 machine:Int
 of:Int
 loop:ChLoop
 pieces:List Piece
 deriving DecidableEq
def A2 (x:Piece):List IC:=[rI x.holder,rI x.day,rI x.lo,rI x.hi]
def j4 (c:Case):List IC:=[.sl (c.p.n.reg.map g9),.sl (c.p.n.notes.map j9),.sl (c.p.holders.map o2),.sl (c.p.prints.map w5),rI c.machine,rI c.of,.sl (c.loop.links.map F8),rI c.loop.lo,rI c.loop.hi,.sl (c.pieces.map A2)]
def En (x:Piece):DV:=.agg ((A2 x).map .im)
def n3 (c:Case):DV:=.agg ((j4 c).map .im)
attribute [simp] A2 j4 En n3
end Go.Ab
namespace Go.Proofs
open Go Go.Ab
variable {G:JO}
theorem vM (x lo hi:Int):DCall Tryz.prog G 157 (iv x :: [DC.ptr 0 0,DC.ptr 1 0].map .one) [.row [.im (rI lo)],.row [.im (rI hi)]] (fun d o=>d=bv (decide (x<lo)||decide (hi<x))∧o=[.row [.im (rI lo)],.row [.im (rI hi)]]):=by
 refine h9 Tryz.func157 rfl Tryz.ntmps157 (by simp) rfl ?_
 simp only[rI]
 have hs:=trivial
 repeat' first|(with_reducible first|refine zz ?_|refine zr ?_|refine zE [0,1,2,4] ?_)|simp -dsimp[hs]|with_reducible refine j0 ?_ ?_<;>intro h<;>have h0:=h<;>(try simp only[i7] at h)<;>have h2:=h<;>(try simp at h2)<;>replace hs:=za h0 (za h (za h2 hs))|with_reducible refine And.intro ?_ ?_
 all_goals try clear hs
 all_goals simp[*]
theorem M8 (lo hi:Int) (l:List Int) (hl:l.length<1000000):zP Tryz.prog G 96 [iv lo,iv hi,s6 l] (bv (l.all fun x=>decide (lo≤x)&&decide (x≤hi))):=by
 refine zf Tryz.func96 Tryz.ntmps96 ?_
 try simp only[iv,iv,s6]
 have hc:=C0 (G:=G) l (fun x=>decide (x<lo)||decide (hi<x)) 157 [.ptr 0 0,.ptr 1 0] [.row [.im (rI lo)],.row [.im (rI hi)]] (by simp) (fun x _=>vM x lo hi) hl
 simp only[rI] at hc
 repeat' first|(with_reducible first|refine zz ?_|refine zx ?_|refine zE [0,1,2,3,4,6] ?_)|simp -dsimp|refine CallE.here hc ?_
 rw[Bool.eq_iff_iff];simp
 exact exists_congr fun x=>and_congr_right fun _=>by omega
def O1 (lo hi a b:Int):Bool:=decide (a≤lo∧lo≤b∧a≤hi∧hi≤b∧lo≤hi)
theorem be (lo hi a b:Int):zP Tryz.prog G 97 [C3 lo hi,iv a,iv b] (bv (O1 lo hi a b)):=by
 refine zf Tryz.func97 Tryz.ntmps97 ?_
 try simp only[C3,iv,iv]
 have c1:=M8 (G:=G) a b [lo,hi] (by simp)
 generalize hb:([lo,hi].all fun y=>decide (a≤y)&&decide (y≤b))=q at c1
 cases q
 ·repeat' first|(with_reducible first|refine zz ?_|refine zx ?_|refine zE [0,1,2,3,6] ?_)|simp -dsimp|refine zt c1 ?_ ?_ ?_;(focus simp;done);focus (simp;done)
  all_goals simp at hb
  all_goals simp[O1]
  all_goals omega
 ·simp at hb
  repeat' first|(with_reducible first|refine zz ?_|refine zx ?_|refine zE [0,1,2,3,6] ?_)|simp -dsimp|refine zt c1 ?_ ?_ ?_;(focus simp;done);focus (simp;done)
  all_goals simp[O1]
  all_goals first|omega|(rw[Bool.eq_iff_iff];simp;omega)
end Go.Proofs
namespace Go.Proofs
open Go Go.Ab
variable {G:JO}
def H1 (c:Case) (l:Link) (x:Piece):Bool:=(match n8 c.p.n.reg l.drawing 1 with|some y=>!decide (y.kind=1)|none=>false)&&(decide (0≤l.dim∧l.dim≤3)&&((c.p.holders.any fun y=>decide (y.id=x.holder))&&(decide (0≤x.day∧x.day≤14610)&&O1 x.lo x.hi 0 1000000000)))
def ac (c:Case):Bool:=decide (c.of∈nums c.p.n.reg)&&(decide (1≤c.machine∧c.machine≤999)&&(decide (1≤c.loop.links.length∧c.loop.links.length≤8)&&(decide (c.pieces.length=c.loop.links.length)&&(O1 c.loop.lo c.loop.hi (-8000000000) 8000000000&&(c.loop.links.zip c.pieces).all fun q=>H1 c q.1 q.2))))
noncomputable def s8 (c:Case):Int:=if r8 c.p≠0 then r8 c.p else if ac c=true then 0 else 100
structure KC (c:Case):Prop where
 p:KP c.p
 l:c.loop.links.length≤16
 q:c.pieces.length≤16
open Go Go.Ab Tryz
theorem F1 {c:Case} (h:s8 c=0):r8 c.p=0∧ac c=true:=by
 unfold s8 at h
 by_cases h0:r8 c.p=0
 ·rw[if_neg (by simp[h0])] at h
  refine⟨h0,?_⟩
  by_cases h1:ac c=true
  ·exact h1
  ·rw[if_neg h1] at h;exact absurd h (by decide)
 ·rw[if_pos h0] at h;exact absurd h h0
theorem F3 {p:Prints} (h:r8 p=0):u3 p.n=0∧F4 p=true∧j7 p.n.reg=0:=by
 have hn:u3 p.n=0:=by
  refine Classical.byContradiction fun h1=>?_
  unfold r8 at h;rw[if_pos h1] at h;exact h1 h
 refine⟨hn,?_,?_⟩
 ·refine Classical.byContradiction fun h1=>?_
  unfold r8 at h;rw[if_neg (by simp[hn]),if_neg h1] at h;exact absurd h (by decide)
 ·refine Classical.byContradiction fun h1=>?_
  unfold u3 at hn;rw[if_pos h1] at hn;exact h1 hn
def eC (c:Case):Bool:=decide (c.of∈nums c.p.n.reg)&&(decide (1≤c.machine∧c.machine≤999)&&(decide (1≤c.loop.links.length∧c.loop.links.length≤8)&&(decide (c.pieces.length=c.loop.links.length)&&O1 c.loop.lo c.loop.hi (-8000000000) 8000000000)))
theorem R3 (c:Case):ac c=(eC c&&(c.loop.links.zip c.pieces).all fun q=>H1 c q.1 q.2):=by
 simp only[ac,eC,Bool.and_assoc]
theorem fp {α β:Type} {f:α×β→Bool} {l:List α} {m:List β} {k:Nat} (h1:k<l.length) (h2:k<m.length) (hno:(l.zip m).all f=((l.zip m).drop k).all f):(l.zip m).all f=true↔f (l[k],m[k])=true∧((l.zip m).drop (k+1)).all f=true:=by
 have h3:k<(l.zip m).length:=by rw[List.length_zip];omega
 have:=bt h3 hno
 rw[List.getElem_zip] at this
 exact this
theorem wC (x:Piece) (y:Holder):DCall prog G 156 (iX y :: [DC.ptr 0 0].map .one) [.row ((A2 x).map .im)] (fun d o=>d=bv (decide (y.id=x.holder))∧o=[.row ((A2 x).map .im)]):=by
 refine DCall.drop ?_
 refine h9 func156 rfl ntmps156 (by simp) rfl ?_
 simp only[iX,o2,A2,rI]
 repeat' first|(with_reducible first|refine zz ?_|refine zx ?_|refine zE [0,1,2,3] ?_)|simp -dsimp|with_reducible refine And.intro ?_ ?_
theorem mA {c:Case} (h0:j7 c.p.n.reg=0) (l:Link) (x:Piece):H1 c l x=true↔AC c.p.n.reg l.drawing 1=0∧¬ (atR c.p.n.reg l.drawing 1).kind=1∧([l.dim].all fun y=>decide (0≤y)&&decide (y≤3))=true∧(c.p.holders.any fun y=>decide (y.id=x.holder))=true∧([x.day].all fun y=>decide (0≤y)&&decide (y≤14610))=true∧O1 x.lo x.hi 0 1000000000=true:=by
 unfold H1 AC atR
 rw[if_neg (by simp[h0]),if_pos h0]
 cases n8 c.p.n.reg l.drawing 1 with
 | none=>simp
 | some y=>simp[and_assoc]
theorem gF (c:Case) (hG:o5 G) (hN:D7 G) (hS:u9 G) (hR:v7 G) (hk:KC c):zP prog G 95 [n3 c] (iv (s8 c)):=by
 refine zf func95 ntmps95 ?_
 try simp only[iv]
 have hl:=hk.l
 have hq:=hk.q
 have hhl:=hk.p.p.h
 have c1:=xV (G:=G) c.p hG hN hS hR hk.p
 simp only[D3,p7] at c1
 by_cases h0:r8 c.p=0
 ·obtain⟨hn0,hpb,hr0⟩:=F3 h0
  rw[h0] at c1
  have hE:s8 c=if ac c=true then 0 else 100:=by unfold s8;rw[if_neg (by simp[h0])]
  have c2:=BK (G:=G) c.p.n.reg c.of hG hk.p.n.1
  have hLE:Z1 c.p.n.reg c.of=if c.of∈nums c.p.n.reg then 0 else 6:=by unfold Z1;rw[if_neg (by simp[hr0])]
  rw[hLE] at c2
  have c3:=M8 (G:=G) 1 999 [c.machine] (by simp)
  have c4:=M8 (G:=G) 1 8 [(c.loop.links.length:Int)] (by simp)
  have c5:=be (G:=G) c.loop.lo c.loop.hi (-8000000000) 8000000000
  simp only[G7,C3] at c2 c5
  cases h5:eC c
  ·have hB:ac c=false:=by rw[R3,h5,Bool.false_and]
   rw[hE,hB]
   simp only[eC] at h5
   generalize hb3:([c.machine].all fun y=>decide (1≤y)&&decide (y≤999))=b3 at c3
   generalize hb4:([(c.loop.links.length:Int)].all fun y=>decide (1≤y)&&decide (y≤8))=b4 at c4
   generalize hb5:O1 c.loop.lo c.loop.hi (-8000000000) 8000000000=b5 at c5 h5
   have hs:True:=trivial
   by_cases hm:c.of∈nums c.p.n.reg
   ·rw[if_pos hm] at c2
    by_cases hlen:c.pieces.length=c.loop.links.length
    ·cases b3<;>cases b4<;>cases b5
     all_goals
      have hs:=hlen
      repeat' first|(with_reducible first|refine zz ?_|refine zr ?_|refine zE [0,1,2,3,4,6,7,8,9,10,11,12,17,64,67,68,69,70,118] ?_)|simp -dsimp[hs]|refine zp c1 ?_|refine zp c2 ?_|refine zt c3 ?_ ?_ ?_;(focus simp;done);focus (simp;done)|refine zt c4 ?_ ?_ ?_;(focus simp;done);focus (simp;done)|refine zp c5 ?_|refine i9 ?_ ?_<;>intro h<;>try simp only[i7] at h
      all_goals try clear hs
     all_goals exfalso
     all_goals simp[hm,hlen] at h5 hb3 hb4
     all_goals omega
    ·cases b3<;>cases b4<;>cases b5
     all_goals
      have hs:=hlen
      repeat' first|(with_reducible first|refine zz ?_|refine zr ?_|refine zE [0,1,2,3,4,6,7,8,9,10,11,12,17,64,67,68,69,70,118] ?_)|simp -dsimp[hs]|refine zp c1 ?_|refine zp c2 ?_|refine zt c3 ?_ ?_ ?_;(focus simp;done);focus (simp;done)|refine zt c4 ?_ ?_ ?_;(focus simp;done);focus (simp;done)|refine zp c5 ?_|refine i9 ?_ ?_<;>intro h<;>try simp only[i7] at h|with_reducible refine j0 ?_ ?_<;>intro h<;>have h0:=h<;>(try simp only[i7] at h)<;>have h2:=h<;>(try simp at h2)<;>replace hs:=za h0 (za h (za h2 hs))
      all_goals try clear hs
     all_goals exfalso
     all_goals omega
   ·rw[if_neg hm] at c2
    have hs:=trivial
    repeat' first|(with_reducible first|refine zz ?_|refine zr ?_|refine zE [0,1,2,3,4,6,7,8,9,10,11,12,17,64,67,68,69,70,118] ?_)|simp -dsimp[hs]|refine zp c1 ?_|refine zp c2 ?_|refine i9 ?_ ?_<;>intro h<;>try simp only[i7] at h
    all_goals try clear hs
  ·rw[R3,h5,Bool.true_and] at hE
   rw[hE]
   simp only[eC,Bool.and_eq_true,decide_eq_true_eq] at h5
   obtain⟨hm,⟨hm1,hm2⟩,⟨hl1,hl2⟩,hlen,hgap⟩:=h5
   rw[if_pos hm] at c2
   rw[hgap] at c5
   rw[show ([c.machine].all fun y=>decide (1≤y)&&decide (y≤999))=true by simp;omega] at c3
   rw[show ([(c.loop.links.length:Int)].all fun y=>decide (1≤y)&&decide (y≤8))=true by simp;omega] at c4
   have hs:=hlen
   repeat' first|(with_reducible first|refine zz ?_|refine zE [0,1,2,3,4,6,7,8,9,10,11,12,17,64,67,68,69,70,118] ?_)|simp -dsimp[hs]|refine zp c1 ?_|refine zp c2 ?_|refine zt c3 ?_ ?_ ?_;(focus simp;done);focus (simp;done)|refine zt c4 ?_ ?_ ?_;(focus simp;done);focus (simp;done)|refine zp c5 ?_|refine i9 ?_ ?_<;>intro h<;>try simp only[i7] at h
   all_goals try clear hs
   have hno:((c.loop.links.zip c.pieces).all fun q=>H1 c q.1 q.2)=((c.loop.links.zip c.pieces).drop 0).all fun q=>H1 c q.1 q.2:=rfl
   clear c1 c2 c3 c4 c5
   generalize hA:((c.loop.links.zip c.pieces).all fun q=>H1 c q.1 q.2)=A at *
   refine i6 (ι:={ k:Nat // k≤c.loop.links.length∧A=((c.loop.links.zip c.pieces).drop k).all fun q=>H1 c q.1 q.2 }) (fun q=>⟨120,[(1,.one (.ptr 0 0)),(4,.one (.ptr 2 0)),(67,.one (.im (.sl (c.loop.links.map F8)))),(68,iv (c.loop.links.length:Int)),(69,iv (q.1:Int))],[.row ((j4 c).map .im),.vec 0 [] 0 true,.row [.im (.sl (c.p.n.reg.map g9))],.vec 1 [[.im (rI c.machine)]] 0 false,.vec 1 [[.im (rI (c.loop.links.length:Int))]] 0 false]⟩) (fun q=>c.loop.links.length-q.1) ⟨0,by simp,hno⟩ (zv [1,4,67,68,69]) ?_
   rintro⟨k,hk1,hrest⟩
   simp only[iv]
   by_cases hlt:k<c.loop.links.length
   ·have hlt2:k<c.pieces.length:=by omega
    have hw:=zk k
    have hst:=fp (f:=fun q=>H1 c q.1 q.2) hlt hlt2 (hA.trans hrest)
    rw[hA] at hst
    simp only at hst
    rw[mA hr0] at hst
    clear hno
    generalize hx:c.pieces[k]=x at *
    generalize hy:c.loop.links[k]=y at *
    have c6:=AB (G:=G) c.p.n.reg y.drawing 1 hG hk.p.n.1
    have c7:=gw (G:=G) c.p.holders (fun y=>decide (y.id=x.holder)) 156 [.ptr 0 0] [.row ((A2 x).map .im)] (by simp) (fun y _=>wC x y) (by omega)
    have c8:=M8 (G:=G) 0 3 [y.dim] (by simp)
    have c9:=M8 (G:=G) 0 14610 [x.day] (by simp)
    have c10:=be (G:=G) x.lo x.hi 0 1000000000
    simp only[G7,C3] at c6 c10
    simp only[A2,rI,List.map_cons,List.map_nil] at c7
    generalize (c.p.holders.any fun y=>decide (y.id=x.holder))=b2 at *
    generalize ([y.dim].all fun y=>decide (0≤y)&&decide (y≤3))=b1 at *
    generalize ([x.day].all fun y=>decide (0≤y)&&decide (y≤14610))=b3 at *
    generalize O1 x.lo x.hi 0 1000000000=b4 at *
    generalize AC c.p.n.reg y.drawing 1=e at *
    generalize atR c.p.n.reg y.drawing 1=z at *
    have hcs:(e=0∧¬ z.kind=1∧b1=true∧b2=true∧b3=true∧b4=true)∨(A=false∧((¬ e=0∧True∧True∧True∧True∧True)∨(e=0∧z.kind=1∧True∧True∧True∧True)∨(e=0∧¬ z.kind=1∧b1=false∧True∧True∧True)∨(e=0∧¬ z.kind=1∧b1=true∧b2=false∧True∧True)∨(e=0∧¬ z.kind=1∧b1=true∧b2=true∧b3=false∧True)∨(e=0∧¬ z.kind=1∧b1=true∧b2=true∧b3=true∧b4=false))):=by
     by_cases g1:e=0<;>by_cases g2:z.kind=1<;>cases b1<;>cases b2<;>cases b3<;>cases b4<;>simp_all
    have hs:True:=trivial
    rcases hcs with⟨g1,g2,g3,g4,g5,g6⟩|⟨gA,hcs⟩
    ·have hs:=za hx (za hy (za hlt (za hlt2 (za hw (za g1 (za g2 (za g3 (za g4 (za g5 g6)))))))))
     repeat' first|(with_reducible first|refine zz ?_|refine zE [0,1,2,3,4,6,7,8,9,10,11,12,17,64,67,68,69,70,118] ?_)|simp -dsimp[hs]|refine zp c6 ?_|refine CallE.embed [9] (c7) ?_ ?_ ?_ ?_ ?_ ?_;(focus simp[s9];done);(focus simp;done);(focus simp;done);(focus simp;done);(focus refine n9 ?_;simp[s9,p8];done);try simp -dsimp[n5,s9,hs]|refine zt c8 ?_ ?_ ?_;(focus simp;done);focus (simp;done)|refine zt c9 ?_ ?_ ?_;(focus simp;done);focus (simp;done)|refine zp c10 ?_|refine i9 ?_ ?_<;>intro h<;>try simp only[i7] at h
     all_goals try clear hs
     all_goals exact zn ⟨k+1,by omega,by rw[Bool.eq_iff_iff];exact hst.trans ⟨fun h=>h.2,fun h=>⟨⟨g1,g2,g3,g4,g5,g6⟩,h⟩⟩⟩ (zw [1,4,67,68,69] 5)
    ·rcases hcs with⟨g1,g2,g3,g4,g5,g6⟩|⟨g1,g2,g3,g4,g5,g6⟩|⟨g1,g2,g3,g4,g5,g6⟩|⟨g1,g2,g3,g4,g5,g6⟩|⟨g1,g2,g3,g4,g5,g6⟩|⟨g1,g2,g3,g4,g5,g6⟩
     all_goals
      have hs:=za hx (za hy (za hlt (za hlt2 (za hw (za g1 (za g2 (za g3 (za g4 (za g5 g6)))))))))
      repeat' first|(with_reducible first|refine zz ?_|refine zr ?_|refine zE [0,1,2,3,4,6,7,8,9,10,11,12,17,64,67,68,69,70,118] ?_)|simp -dsimp[hs]|refine zp c6 ?_|refine CallE.embed [9] (c7) ?_ ?_ ?_ ?_ ?_ ?_;(focus simp[s9];done);(focus simp;done);(focus simp;done);(focus simp;done);(focus refine n9 ?_;simp[s9,p8];done);try simp -dsimp[n5,s9,hs]|refine zt c8 ?_ ?_ ?_;(focus simp;done);focus (simp;done)|refine zt c9 ?_ ?_ ?_;(focus simp;done);focus (simp;done)|refine zp c10 ?_|refine i9 ?_ ?_<;>intro h<;>try simp only[i7] at h
      all_goals try clear hs
     all_goals exact gA
   ·obtain rfl:k=c.loop.links.length:=by omega
    have hA1:A=true:=by rw[hrest,List.drop_eq_nil_of_le (by rw[List.length_zip];omega)];rfl
    subst hA1
    have hs:=hlt
    repeat' first|(with_reducible first|refine zz ?_|refine zr ?_|refine zE [0,1,2,3,4,6,7,8,9,10,11,12,17,64,67,68,69,70,118] ?_)|simp -dsimp[hs]|refine i9 ?_ ?_<;>intro h<;>try simp only[i7] at h
    all_goals try clear hs
 ·have hE:s8 c=r8 c.p:=by unfold s8;rw[if_pos h0]
  rw[hE]
  have hs:=h0
  repeat' first|(with_reducible first|refine zz ?_|refine zr ?_|refine zE [0,1,2,3,4,6,7,8,9,10,11,12,17,64,67,68,69,70,118] ?_)|simp -dsimp[hs]|refine zp c1 ?_|refine i9 ?_ ?_<;>intro h<;>try simp only[i7] at h
  all_goals try clear hs
def H7 (s:Int×Int) (q:Link×Piece):Int×Int:=if q.1.back=true then (s.1-q.2.hi,s.2-q.2.lo) else (s.1+q.2.lo,s.2+q.2.hi)
def R9 (l:List (Link×Piece)):Int×Int:=l.foldl H7 (0,0)
theorem uK {l:List (Link×Piece)} {k:Nat} (h:k<l.length):R9 (l.take (k+1))=H7 (R9 (l.take k)) l[k]:=by
 unfold R9
 rw[List.take_succ_eq_append_getElem h,List.foldl_append]
 rfl
def U8 (x:Piece):Prop:=0≤x.lo∧x.lo≤x.hi∧x.hi≤1000000000
theorem uJ (l:List (Link×Piece)):∀ s:Int×Int,s.1≤s.2→(∀ q∈l,U8 q.2)→(l.foldl H7 s).1≤(l.foldl H7 s).2∧s.1-1000000000*(l.length:Int)≤(l.foldl H7 s).1∧(l.foldl H7 s).2≤s.2+1000000000*(l.length:Int):=by
 induction l with
 | nil=>intro s h _;simp[h]
 | cons q l ih =>
   intro s h hq
   have h1:=hq q List.mem_cons_self
   unfold U8 at h1
   have hst:(H7 s q).1≤(H7 s q).2∧s.1-1000000000≤(H7 s q).1∧(H7 s q).2≤s.2+1000000000:=by
    unfold H7
    split<;>simp only<;>omega
   have:=ih (H7 s q) hst.1 (fun y hy=>hq y (List.mem_cons_of_mem _ hy))
   rw[List.foldl_cons,List.length_cons]
   omega
theorem jY {l:List (Link×Piece)} (h:∀ q∈l,U8 q.2):(R9 l).1≤(R9 l).2∧- (1000000000*(l.length:Int))≤(R9 l).1∧(R9 l).2≤1000000000*(l.length:Int):=by
 have:=uJ l (0,0) (Int.le_refl _) h
 unfold R9
 simp only at this
 omega
structure CaseOk (c:Case):Prop where
 e:c.pieces.length=c.loop.links.length
 l:1≤c.loop.links.length∧c.loop.links.length≤8
 p:∀ q∈c.loop.links.zip c.pieces,U8 q.2
 g:-8000000000≤c.loop.lo∧c.loop.lo≤c.loop.hi∧c.loop.hi≤8000000000
theorem N0 {c:Case} (h:ac c=true):CaseOk c:=by
 rw[R3,eC] at h
 simp only[Bool.and_eq_true,decide_eq_true_eq,O1,List.all_eq_true] at h
 obtain⟨⟨_,_,h3,h4,h5⟩,h6⟩:=h
 refine⟨h4,h3,fun q hq=>?_,by omega⟩
 have:=h6 q hq
 simp only[H1,Bool.and_eq_true,O1,decide_eq_true_eq] at this
 unfold U8
 omega
noncomputable def bD (c:Case):Int×Int:=if s8 c=0 then R9 (c.loop.links.zip c.pieces) else (0,0)
theorem nm {c:Case} (h:CaseOk c) {k:Nat} (hk:k≤c.pieces.length):((c.loop.links.zip c.pieces).take k).length=k:=by
 rw[List.length_take,List.length_zip];have:=h.e;omega
theorem nu {c:Case} (h:CaseOk c) {k:Nat} (hk:k≤c.pieces.length):(R9 ((c.loop.links.zip c.pieces).take k)).1≤(R9 ((c.loop.links.zip c.pieces).take k)).2∧-8000000000≤(R9 ((c.loop.links.zip c.pieces).take k)).1∧(R9 ((c.loop.links.zip c.pieces).take k)).2≤8000000000:=by
 have h1:=jY (l:=(c.loop.links.zip c.pieces).take k) fun q hq=>h.p q (List.mem_of_mem_take hq)
 rw[nm h hk] at h1
 have:=h.l;have:=h.e
 omega
theorem oN {c:Case} (h:CaseOk c) {k:Nat} (h1:k<c.pieces.length) (h2:k<c.loop.links.length):R9 ((c.loop.links.zip c.pieces).take (k+1))=H7 (R9 ((c.loop.links.zip c.pieces).take k)) (c.loop.links[k],c.pieces[k]):=by
 have h3:k<(c.loop.links.zip c.pieces).length:=by rw[List.length_zip];omega
 rw[uK h3,List.getElem_zip]
theorem nn {c:Case} (h:CaseOk c) {k:Nat} (h1:k<c.pieces.length):U8 c.pieces[k]:=by
 have h2:k<c.loop.links.length:=by have:=h.e;omega
 have h3:k<(c.loop.links.zip c.pieces).length:=by rw[List.length_zip];omega
 have:=h.p _ (List.getElem_mem h3)
 rw[List.getElem_zip] at this
 exact this
theorem As (c:Case) (hG:o5 G) (hN:D7 G) (hS:u9 G) (hR:v7 G) (hk:KC c):zP prog G 51 [n3 c] (.tup [C3 (bD c).1 (bD c).2,iv (s8 c)]):=by
 refine zf func51 ntmps51 ?_
 try simp only[iv]
 have c1:=gF (G:=G) c hG hN hS hR hk
 simp only[n3,j4] at c1
 by_cases h0:s8 c=0
 ·have hok:=N0 (F1 h0).2
  have hE:bD c=R9 (c.loop.links.zip c.pieces):=by unfold bD;rw[if_pos h0]
  rw[hE]
  rw[h0] at c1 ⊢
  have hlen:=hok.e
  have hl8:=hok.l
  have hs:=trivial
  repeat' first|(with_reducible first|refine zz ?_|refine zE [0,1,2,3,4,5,6,7,8,9,13,17,18,19,20,36] ?_)|simp -dsimp[hs]|refine zp c1 ?_|refine i9 ?_ ?_<;>intro h<;>try simp only[i7] at h
  refine i6 (ι:={ k:Nat // k≤c.pieces.length }) (fun q=>⟨52,[(1,.one (.ptr 0 0)),(2,.one (.ptr 1 0)),(5,.one (.ptr 2 0)),(17,.one (.im (.sl (c.pieces.map A2)))),(18,iv (c.pieces.length:Int)),(19,iv (q.1:Int))],[.row ((j4 c).map .im),.row [.im (rI 0),.im (rI 0)],.row [.im (rI (R9 ((c.loop.links.zip c.pieces).take q.1)).1),.im (rI (R9 ((c.loop.links.zip c.pieces).take q.1)).2)]]⟩) (fun q=>c.pieces.length-q.1) ⟨0,by simp⟩ (zv [1,2,5,17,18,19] (by simp[R9])) ?_
  rintro⟨k,hk1⟩
  simp only[iv]
  by_cases hlt:k<c.pieces.length
  ·have hlt2:k<c.loop.links.length:=by omega
   have hw:=zk k
   have hb1:=nu hok (Nat.le_of_lt hlt)
   have hb2:=nu hok (show k+1≤c.pieces.length by omega)
   have hst:=oN hok hlt hlt2
   have hp:=nn hok hlt
   unfold U8 at hp
   rw[hst] at hb2
   generalize hx:c.pieces[k]=x at *
   generalize hy:c.loop.links[k]=y at *
   generalize R9 ((c.loop.links.zip c.pieces).take k)=s at *
   unfold H7 at hst hb2
   cases hbk:y.back
   ·rw[if_neg (by simp[hbk])] at hst hb2
    simp only at hb2
    have hw1:IntKind.i64.wrap (s.1+x.lo)=s.1+x.lo:=o3 (by omega) (by omega)
    have hw2:IntKind.i64.wrap (s.2+x.hi)=s.2+x.hi:=o3 (by omega) (by omega)
    have hs:=za hx (za hy (za hlt (za hlt2 (za hw (za hw1 (za hw2 hbk))))))
    repeat' first|with_reducible refine zz ?_|simp -dsimp[hs]|refine zM 8 52 8 [0,1,2,3,4,5,6,7,8,9,13,17,18,19,20,36] ?_|with_reducible refine zE [0,1,2,3,4,5,6,7,8,9,13,17,18,19,20,36] ?_|refine i9 ?_ ?_<;>intro h<;>try simp only[i7] at h
    all_goals exact zn ⟨k+1,by omega⟩ (zw [1,2,5,17,18,19] 3 (by simp[hst]))
   ·rw[if_pos hbk] at hst hb2
    simp only at hb2
    have hw1:IntKind.i64.wrap (-x.hi)=-x.hi:=o3 (by omega) (by omega)
    have hw2:IntKind.i64.wrap (-x.lo)=-x.lo:=o3 (by omega) (by omega)
    have hw3:IntKind.i64.wrap (s.1 + -x.hi)=s.1-x.hi:=by rw[o3 (by omega) (by omega)];omega
    have hw4:IntKind.i64.wrap (s.2 + -x.lo)=s.2-x.lo:=by rw[o3 (by omega) (by omega)];omega
    have hs:=za hx (za hy (za hlt (za hlt2 (za hw (za hw1 (za hw2 (za hw3 (za hw4 hbk))))))))
    repeat' first|with_reducible refine zz ?_|simp -dsimp[hs]|refine zM 8 52 8 [0,1,2,3,4,5,6,7,8,9,13,17,18,19,20,36] ?_|with_reducible refine zE [0,1,2,3,4,5,6,7,8,9,13,17,18,19,20,36] ?_|refine i9 ?_ ?_<;>intro h<;>try simp only[i7] at h
    all_goals exact zn ⟨k+1,by omega⟩ (zw [1,2,5,17,18,19] 3 (by simp[hst]))
  ·obtain rfl:k=c.pieces.length:=by omega
   have hall:(c.loop.links.zip c.pieces).take c.pieces.length=c.loop.links.zip c.pieces:=List.take_of_length_le (by rw[List.length_zip];omega)
   rw[hall]
   have hs:=hlt
   repeat' first|(with_reducible first|refine zz ?_|refine zr ?_|refine zE [0,1,2,3,4,5,6,7,8,9,13,17,18,19,20,36] ?_)|simp -dsimp[hs]|refine i9 ?_ ?_<;>intro h<;>try simp only[i7] at h
 ·have hE:bD c=(0,0):=by unfold bD;rw[if_neg h0]
  rw[hE]
  have hs:=h0
  repeat' first|(with_reducible first|refine zz ?_|refine zr ?_|refine zE [0,1,2,3,4,5,6,7,8,9,13,17,18,19,20,36] ?_)|simp -dsimp[hs]|refine zp c1 ?_|refine i9 ?_ ?_<;>intro h<;>try simp only[i7] at h
def ue (c:Case) (s:Int×Int):Int:=if s.2<c.loop.lo∨s.1 > c.loop.hi then 0 else if c.loop.lo≤s.1∧s.2≤c.loop.hi then 2 else 1
noncomputable def db (c:Case):Int:=if s8 c=0 then ue c (bD c) else 0
theorem zD {c:Case} {s:Int×Int} (h:s.1≤s.2):O1 s.1 s.2 c.loop.lo c.loop.hi=decide (c.loop.lo≤s.1∧s.2≤c.loop.hi):=by
 unfold O1
 rw[decide_eq_decide]
 omega
theorem uq (c:Case) (hG:o5 G) (hN:D7 G) (hS:u9 G) (hR:v7 G) (hk:KC c):zP prog G 52 [n3 c] (.tup [uC (db c),iv (s8 c)]):=by
 refine zf func52 ntmps52 ?_
 try simp only[iv]
 have c1:=As (G:=G) c hG hN hS hR hk
 simp only[n3,j4,C3] at c1
 by_cases h0:s8 c=0
 ·have hok:=N0 (F1 h0).2
  have hE:db c=ue c (bD c):=by unfold db;rw[if_pos h0]
  have hS:bD c=R9 (c.loop.links.zip c.pieces):=by unfold bD;rw[if_pos h0]
  have hle:(bD c).1≤(bD c).2:=by rw[hS];exact(jY hok.p).1
  have c2:=be (G:=G) (bD c).1 (bD c).2 c.loop.lo c.loop.hi
  rw[zD (c:=c) (s:=bD c) hle] at c2
  rw[hE]
  rw[h0] at c1 ⊢
  unfold ue
  generalize bD c=s at *
  simp only[C3] at c2
  by_cases h1:s.2<c.loop.lo∨s.1 > c.loop.hi
  ·rw[if_pos h1]
   by_cases h2:s.2<c.loop.lo
   ·have hs:=h2
    repeat' first|(with_reducible first|refine zz ?_|refine zr ?_|refine zE [0,1,2,3,4,5,6,15,33] ?_)|simp -dsimp[hs]|refine zp c1 ?_|refine i9 ?_ ?_<;>intro h<;>try simp only[i7] at h
   ·have h3:c.loop.hi<s.1:=by omega
    have hs:=za h2 h3
    repeat' first|(with_reducible first|refine zz ?_|refine zr ?_|refine zE [0,1,2,3,4,5,6,15,33] ?_)|simp -dsimp[hs]|refine zp c1 ?_|refine i9 ?_ ?_<;>intro h<;>try simp only[i7] at h
  ·rw[if_neg h1]
   have h2:¬ s.2<c.loop.lo:=by omega
   have h3:¬ c.loop.hi<s.1:=by omega
   by_cases h4:c.loop.lo≤s.1∧s.2≤c.loop.hi
   ·rw[if_pos h4]
    rw[decide_eq_true h4] at c2
    have hs:=za h2 h3
    repeat' first|(with_reducible first|refine zz ?_|refine zr ?_|refine zE [0,1,2,3,4,5,6,15,33] ?_)|simp -dsimp[hs]|refine zp c1 ?_|refine zp c2 ?_|refine i9 ?_ ?_<;>intro h<;>try simp only[i7] at h
   ·rw[if_neg h4]
    rw[decide_eq_false h4] at c2
    have hs:=za h2 h3
    repeat' first|(with_reducible first|refine zz ?_|refine zr ?_|refine zE [0,1,2,3,4,5,6,15,33] ?_)|simp -dsimp[hs]|refine zp c1 ?_|refine zp c2 ?_|refine i9 ?_ ?_<;>intro h<;>try simp only[i7] at h
 ·have hE:db c=0:=by unfold db;rw[if_neg h0]
  rw[hE]
  have hs:=h0
  repeat' first|(with_reducible first|refine zz ?_|refine zr ?_|refine zE [0,1,2,3,4,5,6,15,33] ?_)|simp -dsimp[hs]|refine zp c1 ?_|refine i9 ?_ ?_<;>intro h<;>try simp only[i7] at h
end Go.Proofs
