/- Part 17 of the proofs. -/
import Derived.Test.YtjodaihiogfkbaaGreatDoorP08
import Derived.Test.YtjodaihiogfkbaaGreatDoorP09
import Derived.Test.YtjodaihiogfkbaaGreatDoorP14
import Derived.Test.YtjodaihiogfkbaaGreatDoorP15
import Derived.Test.YtjodaihiogfkbaaGreatDoorP16
set_option linter.all false
set_option linter.deprecated false
set_option maxHeartbeats 100000000
namespace Go.Proofs
open Go Go.Ab Tryz
variable {G:GW}
def FQ (x:Print) (d:Int):Bool:=decide (x.day≤d) && !(!decide (x.back=-1)&&decide (x.back≤d)) && !decide (x.lost=2)
def sw (d i w:Int) (x:Print):Bool:=FQ x d&&(decide (x.holder=i)&&decide (x.drawing=w))
def aj (d i w:Int) (l:List Print):List Int:=(l.filter fun x=>sw d i w x&&decide (x.lost=1)).map (·.letter)
def bt (d i w:Int) (l:List Print):Int:=(l.filter fun x=>sw d i w x && !decide (x.lost=1)).foldl (fun a x=>max a x.letter) 0
theorem HV (b:IC) (n:Int):zP prog G 182 [.one (.im b),iv n] (.one (.im (.fn (.func 231) [.ip [b],.ip [rI n]]))):=by
 refine zf func182 ntmps182 ?_
 try simp only[iv]
 repeat' first|(with_reducible first|refine zz ?_|refine zx ?_|refine zE [0,1,2,3,4] ?_)|simp -dsimp
def aX (d i w:Int) (l:List Print):List Int:=(r9 (l4 (aj d i w l++[bt d i w l]))).drop (I4 (fun x=>decide (bt d i w l=x)) (r9 (l4 (aj d i w l++[bt d i w l])))).toNat
theorem wr (d i w:Int) {l:List Print} {k:Nat} (h:k<l.length):aj d i w (l.take (k+1))=aj d i w (l.take k)++(if (sw d i w l[k]&&decide (l[k].lost=1))=true then [l[k].letter] else []):=by
 unfold aj
 rw[List.take_succ_eq_append_getElem h,List.filter_append,List.map_append]
 congr 1
 split<;>simp_all
theorem vU (d i w:Int) {l:List Print} {k:Nat} (h:k<l.length):bt d i w (l.take (k+1))=if (sw d i w l[k] && !decide (l[k].lost=1))=true then max (bt d i w (l.take k)) l[k].letter else bt d i w (l.take k):=by
 unfold bt
 rw[List.take_succ_eq_append_getElem h,List.filter_append,List.foldl_append]
 split<;>simp_all
theorem qR {α:Type} (q:α→Bool) (l:List α):I4 q l<l.length∨l=[]:=by
 unfold I4
 split
 ·rename_i j h
  rw[List.findIdx?_eq_some_iff_getElem] at h
  obtain⟨hlt,_⟩:=h
  left;omega
 ·cases l with
  | nil=>exact .inr rfl
  | cons a r=>left;simp;omega
theorem lg (d i w:Int) (l:List Print):(aj d i w l).length≤l.length:=by
 unfold aj
 rw[List.length_map];exact List.length_filter_le _ _
theorem CC (p:Prints) (d i w:Int) (hS:w7 G) (hl:p.prints.length<900):zP prog G 119 [.one (.im (l6 p)),iv d,iv i,iv w] (u9 (aX d i w p.prints)):=by
 refine zf func119 ntmps119 ?_
 try simp only[iv,iv,iv]
 simp only[l6]
 have c1:=HV (G:=G) (l6 p) d
 simp only[l6] at c1
 have hs:=trivial
 repeat' first|(with_reducible first|refine zz ?_|refine zE [0,1,2,3,6,7,8,9,10,12,13,16,18,29,32] ?_)|simp -dsimp[hs]|refine zp c1 ?_
 all_goals try clear hs
 refine T8 (f:=231) (by simp;exact rfl) (by rfl) call231 ?_
 generalize hR:LoopD.mk _ _ _ _ _ _ _=R
 have hR1:R.st=.ready:=by rw[← hR]
 have hR2:R.pend=none:=by rw[← hR]
 have hR3:R.at .ready none=R:=by rw[← hR];rfl
 have hR4:=(congrArg LoopD.nt hR).symm
 have hR5:=(congrArg LoopD.tm hR).symm
 have hR6:=(congrArg LoopD.ps hR).symm
 have hR7:=(congrArg LoopD.asg hR).symm
 have hR8:=(congrArg LoopD.body hR).symm
 dsimp only at hR4 hR5 hR6 hR7 hR8
 clear hR
 refine h9 func231 rfl ntmps231 (by simp) rfl ?_
 have hR9:∀ objs:List DObj,(R.tm.map fun x=>(x.1,fG 7 objs x.2))=R.tm:=by intro objs;rw[hR5];simp
 have hs:=za hR1 (za hR2 hR3)
 repeat' first|(with_reducible first|refine zz ?_|refine zE [0,1,2,3,4,5,6,7,8,9,10,11,12,13,14,16,18,29,32,46] ?_)|simp -dsimp[hs]
 all_goals try clear hs
 refine i6 (ι:={ q:Nat×Nat×Nat×Bool // q.1≤p.prints.length∧(q.2.2.1=1∨q.2.2.2=true∧aj d i w (p.prints.take q.1)=[]) }) (fun q=>⟨48,[(0,.one (.yld 6)),(2,.one (.im (.ip [rI d]))),(11,.one (.im (.sl (p.prints.map A0)))),(12,iv (p.prints.length:Int)),(13,iv (q.1.1:Int))],[.row [.im (rI i)],.row [.im (rI w)],.vec 1 [] 0 true,.row [.im (rI (bt d i w (p.prints.take q.1.1)))],.vec q.1.2.2.1 (l8 ((aj d i w (p.prints.take q.1.1)).map encI)) q.1.2.1 q.1.2.2.2,.row [.vec 4 q.1.2.1 0 (aj d i w (p.prints.take q.1.1)).length],.loop R]⟩) (fun q=>p.prints.length-q.1.1) ⟨(0,0,0,true),by simp[aj]⟩ (zv [0,2,11,12,13] (by simp[aj,bt])) ?_
 rintro⟨⟨k,g,sz,nl⟩,hk,hz⟩
 simp only at hk hz
 simp only[iv]
 by_cases hlt:k<p.prints.length
 ·have hw:=zk k
  have hst1:=wr d i w hlt
  have hst2:=vU d i w hlt
  have hpl:=lg d i w (p.prints.take k)
  rw[List.length_take] at hpl
  have hz':sz=1∨nl=true:=hz.imp id And.left
  generalize hx:p.prints[k]=x at *
  cases hsel:sw d i w x
  ·rw[hsel] at hst1 hst2
   simp only[Bool.false_and,Bool.false_eq_true,if_false,List.append_nil] at hst1 hst2
   simp only[sw,FQ] at hsel
   simp at hsel
   have hz2:sz=1∨nl=true∧aj d i w (p.prints.take (k+1))=[]:=by rw[hst1];exact hz
   clear c1
   have hs:=za hR1 (za hR2 (za hR3 (za hx (za hlt (za hw hz')))))
   repeat' first|(with_reducible first|refine zz ?_|refine And.intro (by omega) ?_|refine zE [0,1,2,3,4,5,6,7,8,9,10,11,12,13,14,16,18,29,32,46] ?_)|simp -dsimp[hs]|with_reducible refine At.yield_end ?_;simp -dsimp[hs]|refine aV ?_ ?_<;>simp -dsimp[hs]|refine Q8 ?_;simp -dsimp[T7,hR4,hR5,hR6,hR7,hR8,hs]|refine i9 ?_ ?_<;>intro h<;>try simp only[i7] at h|with_reducible refine j0 ?_ ?_<;>intro h<;>have h0:=h<;>(try simp only[i7] at h)<;>have h2:=h<;>(try simp at h2)<;>replace hs:=za h0 (za h (za h2 hs))
   all_goals try clear hs
   all_goals first
    | (exfalso;omega)
    | exact zn ⟨(k+1,g,sz,nl),by simp only;omega,hz2⟩ (zw [0,2,11,12,13] 7 (by simp[hst1,hst2,hR9]))
  ·rw[hsel] at hst1 hst2
   simp only[Bool.true_and] at hst1 hst2
   have hq:=hsel
   simp only[sw,FQ] at hq
   simp at hq
   obtain⟨⟨⟨q1,q2⟩,q3⟩,q4,q5⟩:=hq
   have hbk:((x.back=-1)∧True)∨(¬ x.back=-1∧¬ x.back≤d):=by
    by_cases hb:x.back=-1
    ·exact .inl ⟨hb,trivial⟩
    ·exact .inr ⟨hb,by omega⟩
   clear hsel q2 c1
   have hs:True:=trivial
   by_cases hl1:x.lost=1
   ·simp only[hl1,decide_true,if_true,Bool.not_true,Bool.false_eq_true,if_false] at hst1 hst2
    rcases hbk with⟨hb1,hb2⟩|⟨hb1,hb2⟩
    all_goals
     have hs:=za hR1 (za hR2 (za hR3 (za hx (za hlt (za hw (za hz' (za q1 (za q3 (za q4 (za q5 (za hb1 (za hb2 hl1))))))))))))
     repeat' first|(with_reducible first|refine zz ?_|refine And.intro (by omega) ?_|refine zE [0,1,2,3,4,5,6,7,8,9,10,11,12,13,14,16,18,29,32,46] ?_)|simp -dsimp[hs]|with_reducible refine At.yield_end ?_;simp -dsimp[hs]|refine aV ?_ ?_<;>simp -dsimp[hs]|refine Q8 ?_;simp -dsimp[T7,hR4,hR5,hR6,hR7,hR8,hs]|refine i9 ?_ ?_<;>intro h<;>try simp only[i7] at h
     all_goals try clear hs
    all_goals exact zn ⟨(k+1,g+1,1,false),by simp only;omega,.inl rfl⟩ (zw [0,2,11,12,13] 7 (by simp[hst1,hst2,hR9]))
   ·simp only[hl1,decide_false,Bool.false_eq_true,if_false,List.append_nil,Bool.not_false,if_true] at hst1 hst2
    have hz2:sz=1∨nl=true∧aj d i w (p.prints.take (k+1))=[]:=by rw[hst1];exact hz
    rcases hbk with⟨hb1,hb2⟩|⟨hb1,hb2⟩
    all_goals
     have hs:=za hR1 (za hR2 (za hR3 (za hx (za hlt (za hw (za hz' (za q1 (za q3 (za q4 (za q5 (za hb1 (za hb2 hl1))))))))))))
     repeat' first|(with_reducible first|refine zz ?_|refine zE [0,1,2,3,4,5,6,7,8,9,10,11,12,13,14,16,18,29,32,46] ?_)|simp -dsimp[hs]|with_reducible refine At.yield_end ?_;simp -dsimp[hs]|refine aV ?_ ?_<;>simp -dsimp[hs]|refine Q8 ?_;simp -dsimp[T7,hR4,hR5,hR6,hR7,hR8,hs]|refine i9 ?_ ?_<;>intro h<;>try simp only[i7] at h
     all_goals try clear hs
    all_goals exact zn ⟨(k+1,g,sz,nl),by simp only;omega,hz2⟩ (zw [0,2,11,12,13] 7 (by simp[hst1,hst2,hR9]))
 ·obtain rfl:k=p.prints.length:=by omega
  rw[List.take_length] at *
  have hz':sz=1∨nl=true:=hz.imp id And.left
  have hpl:=lg d i w p.prints
  clear c1
  have hs:=za hR1 (za hR2 (za hR3 (za hlt hz')))
  repeat' first|(with_reducible first|refine zz ?_|refine And.intro (by omega) ?_|refine ze ?_ (by simp -dsimp[B6,hs];exact rfl)|refine zE [0,1,2,3,4,5,6,7,8,9,10,11,12,13,14,16,18,29,32,46] ?_)|simp -dsimp[B6,hs]|with_reducible show B6 _ _ _ _ _ _ _ _;simp -dsimp[B6,hs]|refine i9 ?_ ?_<;>intro h<;>try simp only[i7] at h
  all_goals try clear hs
  obtain⟨L,hL1⟩:∃ L,L=aj d i w p.prints++[bt d i w p.prints]:=⟨_,rfl⟩
  have hE:aX d i w p.prints=(r9 (l4 L)).drop (I4 (fun x=>decide (bt d i w p.prints=x)) (r9 (l4 L))).toNat:=by rw[hL1];rfl
  have hv:bt d i w p.prints∈L:=by rw[hL1];simp
  generalize bt d i w p.prints=v at *
  have hLn:(aj d i w p.prints).length+1=L.length:=by rw[hL1];simp
  have hLi:l8 ((aj d i w p.prints).map encI)++[[DC.im (IC.raw (Value.int .i64 v))]]=l8 (L.map encI):=by rw[hL1];simp[fD,l8]
  rw[hE]
  clear hL1 hE
  generalize aj d i w p.prints=Q at *
  have c1:=hS L (g+1) 1 false (.inl rfl) (by omega)
  have hil:=M9 L
  have c2:=nU (G:=G) (l4 L) (g+1) (by omega)
  have hdl:=aG (l4 L)
  rw[hil] at c2
  have c3:=qK (G:=G) (r9 (l4 L)) v (by omega)
  have hs:True:=trivial
  rw[hLi]
  simp only[hLn]
  have hs:=za hR1 (za hR2 (za hR3 (za hlt (za hLn hLi))))
  repeat' first|(with_reducible first|refine zz ?_|refine zE [0,1,2,3,4,5,6,7,8,9,10,11,12,13,14,16,18,29,32,46] ?_)|simp -dsimp[hs]|refine CallE.embed [4] (c1) ?_ ?_ ?_ ?_ ?_ ?_;(focus simp[u7];done);(focus simp;done);(focus simp;done);(focus simp;done);(focus refine n9 ?_;simp[u7,r8];done);try simp -dsimp[n5,u7,hs]|refine CallE.embed_ex [4] (c2) ?_ ?_ ?_ ?_ ?_ ?_;(focus simp[u7];done);(focus simp;done);(focus simp;done);(focus simp;done);(focus refine n9 ?_;simp[u7,r8];done);intro mma hmma;try simp -dsimp[n5,u7,hs]
  all_goals try clear hs
  obtain⟨ha1,ha2⟩:=hmma
  clear c1 c2
  generalize hD:r9 (l4 L)=D at *
  have hdm:D.length≤mma.length:=by omega
  have hfi:=qR (fun x=>decide (v=x)) D
  have hvd:D.any (fun x=>decide (v=x))=true:=by
   rw[List.any_eq_true]
   refine⟨v,?_,by simp⟩
   rw[← hD,fL]
   exact isort_mem.2 hv
  rw[← A8] at hvd
  have hf0:0≤I4 (fun x=>decide (v=x)) D:=of_decide_eq_true hvd
  obtain⟨f,hf⟩:=Int.eq_ofNat_of_zero_le hf0
  rw[hf] at c3 hfi
  have hfd:f≤D.length:=by
   rcases hfi with h|h
   ·omega
   ·rw[h] at hf;simp[I4] at hf
  rw[hf,Int.toNat_natCast]
  have htk:(l8 (mma.map encI)).take D.length=l8 (D.map encI):=by rw[show (l8 (mma.map encI)).take D.length=l8 ((mma.map encI).take D.length) by simp[l8,List.map_take],← List.map_take,ha2]
  have hs:True:=trivial
  all_goals try simp -dsimp[hR1,hR2,hR3,htk,hdm,hfd,ha1,hs]
  all_goals try clear hs
  have hdL:D.length≤L.length:=by omega
  have htd:List.take (D.length-f) (List.drop f (l8 (mma.map encI)))=l8 ((D.drop f).map encI):=by
   rw[← List.drop_take,htk];simp[l8,List.map_drop]
  refine CallE.thaw c3 ?_ ?_ ?_
  ·simp[htk,hdm,hfd,ha1,hdL]
  ·simp
  simp -dsimp[htk,hdm,hfd,ha1]
  have hs:=za hR1 (za hR2 (za hR3 (za htk (za hdm (za hfd (za ha1 (za hdL htd)))))))
  repeat' first|(with_reducible first|refine zz ?_|refine zr ?_)|simp -dsimp[hs]
  all_goals try clear hs
attribute [simp] A3 C2
noncomputable def O9 (p:Prints) (d i w:Int):List Int:=if T6 p d 1 i w=0 then aX d i w p.prints else []
theorem zJ (p:Prints) (d i w:Int) (hG:q8 G) (hN:E6 G) (hS:w7 G) (hR:w9 G) (hk:KP p):zP prog G 60 [E1 p,iv d,iv i,iv w] (.tup [u9 (O9 p d i w),iv (T6 p d 1 i w)]):=by
 refine zf func60 ntmps60 ?_
 try simp only[iv,iv,iv]
 have c1:=zN p d 1 i w hG hN hS hR hk
 have c2:=CC p d i w hS (by have:=hk.p.q;omega)
 by_cases h0:T6 p d 1 i w=0
 ·have hW:O9 p d i w=aX d i w p.prints:=by unfold O9;rw[if_pos h0]
  simp only[ec,h0,if_true] at c1
  rw[hW,h0]
  simp only[l6] at c1 c2
  have c1':=c1 []
  simp only[E1,r7,u9,iv,List.map_cons,List.map_nil,encI,rI] at c1'
  have hs:=trivial
  repeat' first|(with_reducible first|refine zz ?_|refine zr ?_|refine zE [0,1,2,3,4,8,9,10,11,22] ?_)|simp -dsimp[hs]|refine CallE.freeze 0 c1' ?_ ?_ ?_ ?_ ?_ ?_;(focus simp;done);(focus simp;done);(focus simp;done);(focus rfl);(focus simp;done);try simp -dsimp[A3]|refine zp c2 ?_|refine i9 ?_ ?_<;>intro h<;>try simp only[i7] at h
 ·have hW:O9 p d i w=[]:=by unfold O9;rw[if_neg h0]
  simp only[ec,h0,if_false] at c1
  rw[hW]
  have c1':=c1 []
  simp only[E1,r7,u9,iv,List.map_cons,List.map_nil,encI,rI] at c1'
  have hs:=h0
  repeat' first|(with_reducible first|refine zz ?_|refine zr ?_|refine zE [0,1,2,3,4,8,9,10,11,22] ?_)|simp -dsimp[hs]|refine CallE.freeze 0 c1' ?_ ?_ ?_ ?_ ?_ ?_;(focus simp;done);(focus simp;done);(focus simp;done);(focus rfl);(focus simp;done);try simp -dsimp[A3]|refine i9 ?_ ?_<;>intro h<;>try simp only[i7] at h
open Go Go.Ab
def Fq:Dim:=⟨0,0,0⟩
def U4 (c:Chains) (x:Link):Dim:=((u5 c.reg c.lets x.drawing).dims[x.dim.toNat]?).getD Fq
structure OkC (c:Chains):Prop where
 reg:j8 c.reg=0
 lets:w0 c.reg c.lets=true
 of:c.of∈nums c.reg
 num:1≤c.loops.length∧c.loops.length≤6
 gap:∀ x∈c.loops,x.links.length≤8∧rt x=true
 link:∀ x∈c.loops,∀ y∈x.links,y.drawing∈nums c.reg∧0≤y.dim∧y.dim<(u5 c.reg c.lets y.drawing).dims.length
def bg (c:Chains) (x:ChLoop):List Dim:=x.links.map (U4 c)
def P2 (high:Bool) (x:Link) (d:Dim):Int:=if high != x.back then d.upper else d.lower
def mz (x:Link) (n:Int):Int:=if x.back then -n else n
def qV (links:List Link) (l:List Dim) (high:Bool):List Int:=(links.zip l).map fun p=>P2 high p.1 p.2
def cW (links:List Link) (l:List Dim) (high:Bool):Int:=(links.zip l).foldl (fun s p=>s+mz p.1 (P2 high p.1 p.2)) 0
theorem lS {c:Chains} (h:OkC c) {x:ChLoop} (hx:x∈c.loops) {y:Link} (hy:y∈x.links):J3 (U4 c y)=true∧(u5 c.reg c.lets y.drawing).dims[y.dim.toNat]?=some (U4 c y):=by
 obtain⟨h1,h2,h3⟩:=h.link x hx y hy
 obtain⟨hm,_⟩:=ef h.reg h.lets h1
 have hok:=(N5 (L3 (I6 h.reg))).2.2.2.1 _ hm
 have hlt:y.dim.toNat<(u5 c.reg c.lets y.drawing).dims.length:=by omega
 have he:(u5 c.reg c.lets y.drawing).dims[y.dim.toNat]?=some (u5 c.reg c.lets y.drawing).dims[y.dim.toNat]:=by simp[hlt]
 have hd:U4 c y=(u5 c.reg c.lets y.drawing).dims[y.dim.toNat]:=by rw[U4,he,Option.getD_some]
 simp only[n4,Bool.and_eq_true] at hok
 rw[hd]
 exact⟨List.all_eq_true.1 hok.2 _ (List.getElem_mem hlt),he⟩
def dV (l:List Itm) (d:Int):Int:=match l with
 | []=>0
 | y :: r=>if y.drawing=d then y.count else dV r d
theorem Ei {high:Bool} {x:Link} {d:Dim} (h:J3 d=true):0≤P2 high x d∧P2 high x d≤1000000000:=by
 have:=(ab d).1 h
 unfold P2;split<;>omega
theorem Fz {high:Bool} {x:Link} {d:Dim} (h:J3 d=true):-1000000000≤mz x (P2 high x d)∧mz x (P2 high x d)≤1000000000:=by
 have:=Ei (high:=high) (x:=x) h
 unfold mz;split<;>omega
theorem qc {c:Chains} (h:OkC c) {n:Nat} (hn:n<c.loops.length):(bg c c.loops[n]).length=c.loops[n].links.length∧∀ d∈bg c c.loops[n],J3 d=true:=by
 refine⟨by simp[bg],fun d hd=>?_⟩
 obtain⟨y,hy,rfl⟩:=List.mem_map.1 hd
 exact(lS h (List.getElem_mem hn) hy).1
theorem nT (c:Chains):∃ X,aR c=.one (.im X):=by unfold aR;split<;>exact⟨_,rfl⟩
def E9 (c:Chains) (n:Int):Int:=if B0 c≠0 then B0 c else if 0≤n∧n<c.loops.length then 0 else 2
theorem Dy (c:Chains) (n:Int) (hG:q8 G) (hC:L9 G) (hs:ms c):zP prog G 212 [Cy c,iv n] (.tup [aR c,iv (E9 c n)]):=by
 refine zf func212 ntmps212 ?_
 try simp only[Cy,iv]
 have c1:=Bz c hG hC hs
 have hl:=hs.2.2.1
 have hw:IntKind.i64.wrap ((c.loops.length:Int)-1)=(c.loops.length:Int)-1:=p6 (by omega) (by omega)
 have c2:=bL (G:=G) 0 ((c.loops.length:Int)-1) [n] (by simp)
 have hE:E9 c n=if B0 c≠0 then B0 c else if 0≤n∧n<c.loops.length then 0 else 2:=rfl
 obtain⟨X,hX⟩:=nT c
 rw[hX]
 rw[hX] at c1
 by_cases h0:B0 c=0
 ·rw[h0] at c1 hE
  by_cases hr:0≤n∧n<c.loops.length
  ·have hq:([n].all fun x=>decide (0≤x)&&decide (x≤(c.loops.length:Int)-1))=true:=by simp;omega
   rw[hq] at c2
   have hs:=hw
   repeat' first|(with_reducible first|refine zz ?_|refine zr ?_|refine zE [0,1,2,4,5,6,7,24] ?_)|simp -dsimp[hs]|refine zp c1 ?_|refine zt c2 ?_ ?_ ?_;(focus simp;done);focus (simp;done)|refine i9 ?_ ?_<;>intro h<;>try simp only[i7] at h
   all_goals try clear hs
   simp[hE,hr]
  ·have hq:([n].all fun x=>decide (0≤x)&&decide (x≤(c.loops.length:Int)-1))=false:=by simp;omega
   rw[hq] at c2
   have hs:=hw
   repeat' first|(with_reducible first|refine zz ?_|refine zr ?_|refine zE [0,1,2,4,5,6,7,24] ?_)|simp -dsimp[hs]|refine zp c1 ?_|refine zt c2 ?_ ?_ ?_;(focus simp;done);focus (simp;done)|refine i9 ?_ ?_<;>intro h<;>try simp only[i7] at h
   all_goals try clear hs
   simp[hE,hr]
 ·have hs:=h0
  repeat' first|(with_reducible first|refine zz ?_|refine zr ?_|refine zE [0,1,2,4,5,6,7,24] ?_)|simp -dsimp[hs]|refine zp c1 ?_|refine i9 ?_ ?_<;>intro h<;>try simp only[i7] at h
  all_goals try clear hs
  simp[hE,h0]
theorem Do (d k:Int):zP prog G 215 [D4 d k] (bv false):=by
 refine zf func215 ntmps215 ?_
 try simp only[D4]
 repeat' first|(with_reducible first|refine zz ?_|refine zx ?_|refine zE [0,2] ?_)|simp -dsimp
theorem Fx (x:Link):zP prog G 263 [As x] (D4 x.drawing x.dim):=by
 refine zf func263 ntmps263 ?_
 try simp only[As]
 repeat' first|(with_reducible first|refine zz ?_|refine zx ?_|refine zE [0,1,2] ?_)|simp -dsimp
def fx:IC:=.fn (.func 215) []
theorem zO (c:Chains) (D:List (Int×Int)) (n:Nat) (hn:n<c.loops.length) (h:OkC c):zP prog G 214 [.one (.im (K1 c D (ba c.reg c.lets))),iv (n:Int),iv 0,.one (.im fx)] (.one (.im (.sl ((bg c c.loops[n]).map E3)))):=by
 refine zf func214 ntmps214 ?_
 try simp only[iv,iv]
 have hx:c.loops[n]?=some c.loops[n]:=by simp[hn]
 have hln:=h.gap c.loops[n] (List.getElem_mem hn)
 have hok:=fun y hy=>lS h (List.getElem_mem hn) (y:=y) hy
 have hlk:=h.link c.loops[n] (List.getElem_mem hn)
 have hE:bg c c.loops[n]=c.loops[n].links.map (U4 c):=rfl
 simp only[K1,fx]
 have hs:=za hx hn
 repeat' first|(with_reducible first|refine zz ?_|refine zE [0,1,2,3,8,9,11,12,21,22,23,24,42] ?_)|simp -dsimp[hs]
 generalize hls:c.loops[n].links=ls at *
 refine i6 (ι:={ p:Nat×Nat×Bool×List Dim // p.1≤ls.length∧p.2.2.2=(ls.take p.1).map (U4 c) }) (fun p=>⟨52,[(0,.one (.im (K1 c D (ba c.reg c.lets)))),(2,iv 0),(3,.one (.im fx)),(9,.one (.vec 1 p.1.2.1 0 p.1.2.2.2.length)),(21,.one (.im (.sl (ls.map G3)))),(22,iv (ls.length:Int)),(23,iv (p.1.1:Int))],[.vec 3 [] 0 true,.vec 3 (l8 (p.1.2.2.2.map E3)) p.1.2.1 p.1.2.2.1]⟩) (fun p=>ls.length-p.1.1) ⟨(0,0,true,[]),by simp⟩ (zv [0,2,3,9,21,22,23] (by simp[K1,fx])) ?_
 rintro⟨⟨k,g,nl,out⟩,hk,ho⟩
 simp only at hk ho
 simp only[iv,K1,fx]
 have hol:out.length=k:=by rw[ho];simp;omega
 by_cases hlt:k<ls.length
 ·have hy:ls[k]?=some ls[k]:=by simp[hlt]
  have hw:=zk k
  obtain⟨l1,l2,l3⟩:=hlk ls[k] (List.getElem_mem hlt)
  obtain⟨_,he⟩:=hok ls[k] (List.getElem_mem hlt)
  have hlook:J7 (ba c.reg c.lets) ls[k].drawing=u5 c.reg c.lets ls[k].drawing:=by rw[ba,V0,if_pos l1]
  obtain⟨j,hj⟩:∃ j:Nat,ls[k].dim=j:=⟨ls[k].dim.toNat,by omega⟩
  rw[hj,Int.toNat_natCast] at he
  have hjl:=e7 he
  have hje:=(List.getElem?_eq_some_iff.1 he).2
  have c2:=Fx (G:=G) ⟨ls[k].drawing,j,ls[k].back⟩
  have c3:=Do (G:=G) ls[k].drawing j
  simp only[D4] at c2 c3
  have hon:out++[U4 c ls[k]]=(ls.take (k+1)).map (U4 c):=by rw[List.take_succ_eq_append_getElem hlt,List.map_append,ho];rfl
  have hs:=za hy (za hw (za hlt (za hlook (za hj (za hjl (za he hje))))))
  repeat' first|(with_reducible first|refine zz ?_|refine And.intro (by omega) ?_)|simp -dsimp[hs]|refine zp c2 ?_|refine zp c3 ?_|refine H1 (id:=5) (nt:=52) 13 [] [0,1,2,3,8,9,11,12,21,22,23,24,27,28,29,30,31,32,33,34,35,36,37,38,42] [0,1,2,3,8,9,11,12,21,22,23,24,42] mixed rfl (by kernel_rfl) ?_|with_reducible refine zE [0,1,2,3,8,9,11,12,21,22,23,24,42] ?_|refine i9 ?_ ?_<;>intro h<;>try simp only[i7] at h
  all_goals try omega
  exact zn ⟨(k+1,g+1,false,out++[U4 c ls[k]]),by omega,hon⟩ (zw [0,2,3,9,21,22,23] 2 (by simp[K1,fx]))
 ·have hs:=hlt
  repeat' first|(with_reducible first|refine zz ?_|refine zr ?_|refine zE [0,1,2,3,8,9,11,12,21,22,23,24,42] ?_)|simp -dsimp[hs]|refine i9 ?_ ?_<;>intro h<;>try simp only[i7] at h
  all_goals try omega
  rw[hE,ho,List.take_of_length_le (by omega)]
theorem zU (c:Chains) (D:List (Int×Int)) (B:List (Int×Issue)) (n:Nat) (hn:n<c.loops.length) (l:List Dim) (high:Bool) (hl:c.loops[n].links.length≤12) (he:l.length=c.loops[n].links.length) (hd:∀ d∈l,J3 d=true):zP prog G 262 [.one (.im (K1 c D B)),iv (n:Int),.one (.im (.sl (l.map E3))),bv high] (.tup [u9 (qV c.loops[n].links l high),iv (cW c.loops[n].links l high)]):=by
 refine zf func262 ntmps262 ?_
 try simp only[iv,bv]
 have hxn:c.loops[n]?=some c.loops[n]:=by simp[hn]
 simp only[K1]
 have hs:=za hxn hn
 repeat' first|(with_reducible first|refine zz ?_|refine zE [0,1,2,3,8,9,10,11,12,13,14,15,24,25,26,27,37,41] ?_)|simp -dsimp[hs]
 all_goals try clear hs
 generalize c.loops[n].links=ls at *
 refine i6 (ι:={ p:Nat×Nat×Bool×List Int×Int // p.1≤ls.length∧p.2.2.2.1.length=p.1∧qV ls l high=p.2.2.2.1++((ls.zip l).drop p.1).map (fun q=>P2 high q.1 q.2)∧cW ls l high=((ls.zip l).drop p.1).foldl (fun s q=>s+mz q.1 (P2 high q.1 q.2)) p.2.2.2.2∧-1000000000*(p.1:Int)≤p.2.2.2.2∧p.2.2.2.2≤1000000000*(p.1:Int) }) (fun p=>⟨59,[(2,.one (.im (.sl (l.map E3)))),(3,bv high),(10,iv p.1.2.2.2.2),(11,.one (.vec 1 p.1.2.1 0 p.1.2.2.2.1.length)),(24,.one (.im (.sl (ls.map G3)))),(25,iv (ls.length:Int)),(26,iv (p.1.1:Int))],[.vec 1 [] 0 true,.vec 1 (l8 (p.1.2.2.2.1.map encI)) p.1.2.1 p.1.2.2.1]⟩) (fun p=>ls.length-p.1.1) ⟨(0,0,true,[],0),by simp[qV,cW]⟩ (zv [2,3,10,11,24,25,26]) ?_
 rintro⟨⟨k,g,nl,out,s⟩,hk,hol,ho,hs,hb1,hb2⟩
 simp only at hk hol ho hs hb1 hb2
 simp only[iv,bv]
 by_cases hlt:k<ls.length
 ·have hkl:k<l.length:=by omega
  have hx:ls[k]?=some ls[k]:=by simp[hlt]
  have hy:l[k]?=some l[k]:=by simp[hkl]
  have hw:=zk k
  have hz:k<(ls.zip l).length:=by simp;omega
  rw[List.drop_eq_getElem_cons hz,List.getElem_zip,List.map_cons] at ho
  rw[List.drop_eq_getElem_cons hz,List.getElem_zip,List.foldl_cons] at hs
  have hdk:=hd l[k] (List.getElem_mem hkl)
  have hdl:=(ab _).1 hdk
  have hsb:=Fz (high:=high) (x:=ls[k]) hdk
  have hws:IntKind.i64.wrap (s+mz ls[k] (P2 high ls[k] l[k]))=s+mz ls[k] (P2 high ls[k] l[k]):=p6 (by omega) (by omega)
  have hon:qV ls l high=(out++[P2 high ls[k] l[k]])++((ls.zip l).drop (k+1)).map (fun q=>P2 high q.1 q.2):=by rw[ho];simp
  have hwl:IntKind.i64.wrap (-l[k].lower)=-l[k].lower:=p6 (by omega) (by omega)
  have hwu:IntKind.i64.wrap (-l[k].upper)=-l[k].upper:=p6 (by omega) (by omega)
  have hwl1:IntKind.i64.wrap l[k].lower=l[k].lower:=p6 (by omega) (by omega)
  have hwu1:IntKind.i64.wrap l[k].upper=l[k].upper:=p6 (by omega) (by omega)
  have hfin:k+1≤ls.length∧(out++[P2 high ls[k] l[k]]).length=k+1∧qV ls l high=(out++[P2 high ls[k] l[k]])++((ls.zip l).drop (k+1)).map (fun q=>P2 high q.1 q.2)∧cW ls l high=((ls.zip l).drop (k+1)).foldl (fun s q=>s+mz q.1 (P2 high q.1 q.2)) (s+mz ls[k] (P2 high ls[k] l[k]))∧-1000000000*((k+1:Nat):Int)≤s+mz ls[k] (P2 high ls[k] l[k])∧s+mz ls[k] (P2 high ls[k] l[k])≤1000000000*((k+1:Nat):Int):=⟨by omega,by simp;omega,hon,hs,by omega,by omega⟩
  cases hbk:ls[k].back<;>cases high
  all_goals have hN:∀ h,P2 h ls[k] l[k]=if h != ls[k].back then l[k].upper else l[k].lower:=fun _=>rfl
  all_goals have hS:∀ n,mz ls[k] n=if ls[k].back then -n else n:=fun _=>rfl
  all_goals simp only[hN,hS,hbk,bne_self_eq_false,Bool.false_eq_true,if_false,if_true,Bool.true_bne,Bool.false_bne,Bool.not_false] at hws hfin
  all_goals clear hN hS
  ·have hs:=za hx (za hy (za hw (za hlt (za hkl (za hbk (za hws (za hwl1 hwu1)))))))
   repeat' first|(with_reducible first|refine zz ?_|refine And.intro (by omega) ?_|refine zE [0,1,2,3,8,9,10,11,12,13,14,15,24,25,26,27,37,41] ?_)|simp -dsimp[hs]|refine i9 ?_ ?_<;>intro h<;>try simp only[i7] at h
   all_goals try clear hs
   all_goals try omega
   exact zn ⟨(k+1,g+1,false,out++[l[k].lower],s+l[k].lower),hfin⟩ (zw [2,3,10,11,24,25,26] 2)
  ·have hs:=za hx (za hy (za hw (za hlt (za hkl (za hbk (za hws (za hwl1 hwu1)))))))
   repeat' first|(with_reducible first|refine zz ?_|refine And.intro (by omega) ?_|refine zE [0,1,2,3,8,9,10,11,12,13,14,15,24,25,26,27,37,41] ?_)|simp -dsimp[hs]|refine i9 ?_ ?_<;>intro h<;>try simp only[i7] at h
   all_goals try clear hs
   all_goals try omega
   exact zn ⟨(k+1,g+1,false,out++[l[k].upper],s+l[k].upper),hfin⟩ (zw [2,3,10,11,24,25,26] 2)
  ·have hs:=za hx (za hy (za hw (za hlt (za hkl (za hbk (za hws (za hwl hwu)))))))
   repeat' first|(with_reducible first|refine zz ?_|refine And.intro (by omega) ?_|refine zE [0,1,2,3,8,9,10,11,12,13,14,15,24,25,26,27,37,41] ?_)|simp -dsimp[hs]|refine i9 ?_ ?_<;>intro h<;>try simp only[i7] at h
   all_goals try clear hs
   all_goals try omega
   exact zn ⟨(k+1,g+1,false,out++[l[k].upper],s + -l[k].upper),hfin⟩ (zw [2,3,10,11,24,25,26] 2)
  ·have hs:=za hx (za hy (za hw (za hlt (za hkl (za hbk (za hws (za hwl hwu)))))))
   repeat' first|(with_reducible first|refine zz ?_|refine And.intro (by omega) ?_|refine zE [0,1,2,3,8,9,10,11,12,13,14,15,24,25,26,27,37,41] ?_)|simp -dsimp[hs]|refine i9 ?_ ?_<;>intro h<;>try simp only[i7] at h
   all_goals try clear hs
   all_goals try omega
   exact zn ⟨(k+1,g+1,false,out++[l[k].lower],s + -l[k].lower),hfin⟩ (zw [2,3,10,11,24,25,26] 2)
 ·rw[List.drop_eq_nil_of_le (by simp;omega)] at ho hs
  have hs:=hlt
  repeat' first|(with_reducible first|refine zz ?_|refine zr ?_|refine zE [0,1,2,3,8,9,10,11,12,13,14,15,24,25,26,27,37,41] ?_)|simp -dsimp[hs]|refine i9 ?_ ?_<;>intro h<;>try simp only[i7] at h
  all_goals try clear hs
  all_goals try omega
  rw[ho,hs];simp
theorem zQ (c:Chains) (D:List (Int×Int)) (B:List (Int×Issue)) (n:Nat) (hn:n<c.loops.length) (l:List Dim) (hl:c.loops[n].links.length≤12) (he:l.length=c.loops[n].links.length) (hd:∀ d∈l,J3 d=true):zP prog G 213 [.one (.im (K1 c D B)),iv (n:Int),.one (.im (.sl (l.map E3)))] (D4 (cW c.loops[n].links l false) (cW c.loops[n].links l true)):=by
 refine zf func213 ntmps213 ?_
 try simp only[iv]
 have c2:=zU (G:=G) c D B n hn l false hl he hd
 have c3:=zU (G:=G) c D B n hn l true hl he hd
 repeat' first|(with_reducible first|refine zz ?_|refine zx ?_|refine zE [0,1,2,6,8,10] ?_)|simp -dsimp|refine zp c2 ?_|refine zp c3 ?_
def Iv (c:Chains) (n:Int):Int:=match c.loops[n.toNat]? with|some x=>cW x.links (bg c x) false|none=>0
def IP (c:Chains) (n:Int):Int:=match c.loops[n.toNat]? with|some x=>cW x.links (bg c x) true|none=>0
def wj (c:Chains) (n:Int):Int:=if E9 c n=0 then Iv c n else 0
def wl (c:Chains) (n:Int):Int:=if E9 c n=0 then IP c n else 0
theorem zV (c:Chains) (n:Int) (hG:q8 G) (hC:L9 G) (hs:ms c) (hok:B0 c=0→OkC c):zP prog G 167 [Cy c,iv n] (.tup [D4 (wj c n) (wl c n),iv (E9 c n)]):=by
 refine zf func167 ntmps167 ?_
 try simp only[Cy,iv]
 have c1:=Dy c n hG hC hs
 by_cases hE:E9 c n=0
 ·have h0:B0 c=0:=by
   by_cases h:B0 c=0
   ·exact h
   ·simp[E9,h] at hE
  have hr:0≤n∧n<c.loops.length:=Classical.byContradiction fun h=>by simp[E9,h0,h] at hE
  obtain⟨k,rfl⟩:∃ k:Nat,n=k:=⟨n.toNat,by omega⟩
  have hk:k<c.loops.length:=by omega
  have h:=hok h0
  have hx:c.loops[k]?=some c.loops[k]:=by simp[hk]
  have c2:=zO (G:=G) c (T2 c) k hk h
  obtain⟨hsl,hsd⟩:=qc h hk
  have hln:=(h.gap c.loops[k] (List.getElem_mem hk)).1
  have c3:=zQ (G:=G) c (T2 c) (ba c.reg c.lets) k hk (bg c c.loops[k]) (by omega) hsl hsd
  have h1:Iv c (k:Int)=cW c.loops[k].links (bg c c.loops[k]) false:=by simp only[Iv,Int.toNat_natCast,hx]
  have h2:IP c (k:Int)=cW c.loops[k].links (bg c c.loops[k]) true:=by simp only[IP,Int.toNat_natCast,hx]
  rw[← h1,← h2] at c3
  rw[hE] at c1
  simp only[aR,h0,if_true,K1] at c1
  rw[wj,wl,if_pos hE,if_pos hE]
  simp only[K1,fx,D4] at c2 c3
  have hs:=trivial
  repeat' first|(with_reducible first|refine zz ?_|refine zr ?_|refine zE [0,1,2,4,5,6,7,15] ?_)|simp -dsimp[hs]|refine zp c1 ?_|refine zp c2 ?_|refine zp c3 ?_|refine i9 ?_ ?_<;>intro h<;>try simp only[i7] at h
  all_goals try clear hs
  all_goals simp[hE]
 ·obtain⟨X,hX⟩:=nT c
  rw[hX] at c1
  rw[wj,wl,if_neg hE,if_neg hE]
  have hs:=hE
  repeat' first|(with_reducible first|refine zz ?_|refine zr ?_|refine zE [0,1,2,4,5,6,7,15] ?_)|simp -dsimp[hs]|refine zp c1 ?_|refine i9 ?_ ?_<;>intro h<;>try simp only[i7] at h
  all_goals try clear hs
theorem nQ (h1:Bool):∀ (q:List (Link×Dim)) (a b:Int),(∀ p∈q,J3 p.2=true)→a≤b→q.foldl (fun s p=>s+mz p.1 (P2 false p.1 p.2)) a≤q.foldl (fun s p=>s+mz p.1 (P2 true p.1 p.2)) b
 | [],a,b,_,h=>h
 | p :: q,a,b,hd,h=>by
   rw[List.foldl_cons,List.foldl_cons]
   refine nQ h1 q _ _ (fun p hp=>hd p (by simp[hp])) ?_
   have hp:=(ab _).1 (hd p (by simp))
   have:mz p.1 (P2 false p.1 p.2)≤mz p.1 (P2 true p.1 p.2):=by
    unfold mz P2
    cases p.1.back<;>simp<;>omega
   omega
theorem Iu {ls:List Link} {l:List Dim} (hd:∀ d∈l,J3 d=true):cW ls l false≤cW ls l true:=
 nQ true _ 0 0 (fun _ hp=>hd _ (List.of_mem_zip hp).2) (Int.le_refl _)
def JZ (c:Chains) (n:Int):Int:=match c.loops[n.toNat]? with
 | some x=>if x.lo≤wj c n∧wl c n≤x.hi then 2 else if wl c n<x.lo∨x.hi<wj c n then 0 else 1
 | none=>0
def O7 (c:Chains) (n:Int):Int:=if E9 c n=0 then JZ c n else 0
def yI (n:Int):DV:=.one (.im (.raw (.int .u8 n)))
attribute [simp] yI
theorem dC {c:Chains} {n:Int} (h:E9 c n=0):B0 c=0∧∃ k:Nat,n=k∧k<c.loops.length:=by
 have h0:B0 c=0:=by
  by_cases h':B0 c=0
  ·exact h'
  ·simp[E9,h'] at h
 have hr:0≤n∧n<c.loops.length:=Classical.byContradiction fun h'=>by simp[E9,h0,h'] at h
 exact⟨h0,n.toNat,by omega,by omega⟩
theorem zC {c:Chains} {n:Int} (h:E9 c n=0) (hok:B0 c=0→OkC c):wj c n≤wl c n:=by
 obtain⟨h0,k,rfl,hk⟩:=dC h
 have hx:c.loops[k]?=some c.loops[k]:=by simp[hk]
 obtain⟨hsl,hsd⟩:=qc (hok h0) hk
 rw[wj,wl,if_pos h,if_pos h]
 simp only[Iv,IP,Int.toNat_natCast,hx]
 exact Iu hsd
theorem ws (c:Chains) (n:Int) (hG:q8 G) (hC:L9 G) (hs:ms c) (hok:B0 c=0→OkC c):zP prog G 103 [Cy c,iv n] (.tup [yI (O7 c n),iv (E9 c n)]):=by
 refine zf func103 ntmps103 ?_
 try simp only[Cy,iv]
 have c1:=zV c n hG hC hs hok
 by_cases hE:E9 c n=0
 ·have hle:=zC hE hok
  obtain⟨h0,k,rfl,hk⟩:=dC hE
  have hx:c.loops[k]?=some c.loops[k]:=by simp[hk]
  have hK:O7 c (k:Int)=if c.loops[k].lo≤wj c (k:Int)∧wl c (k:Int)≤c.loops[k].hi then 2 else if wl c (k:Int)<c.loops[k].lo∨c.loops[k].hi<wj c (k:Int) then 0 else 1:=by simp only[O7,JZ,Int.toNat_natCast,hx,if_pos hE]
  generalize wj c (k:Int)=a at *
  generalize wl c (k:Int)=b at *
  have c2:=bL (G:=G) c.loops[k].lo c.loops[k].hi [a,b] (by simp)
  simp only[D4,hE] at c1
  by_cases hin:c.loops[k].lo≤a∧b≤c.loops[k].hi
  ·have hq:([a,b].all fun x=>decide (c.loops[k].lo≤x)&&decide (x≤c.loops[k].hi))=true:=by simp;omega
   rw[if_pos hin] at hK
   rw[hq] at c2
   have hs:=za hx hk
   repeat' first|(with_reducible first|refine zz ?_|refine zr ?_|refine zE [0,1,2,4,5,6,7,8,16,24,35] ?_)|simp -dsimp[hs]|refine zp c1 ?_|refine zt c2 ?_ ?_ ?_;(focus simp;done);focus (simp;done)|refine i9 ?_ ?_<;>intro h<;>try simp only[i7] at h
   all_goals try clear hs
   all_goals simp[hK,hE]
  ·have hq:([a,b].all fun x=>decide (c.loops[k].lo≤x)&&decide (x≤c.loops[k].hi))=false:=by simp;omega
   rw[if_neg hin] at hK
   rw[hq] at c2
   have hs:=za hx hk
   repeat' first|(with_reducible first|refine zz ?_|refine zr ?_|refine zE [0,1,2,4,5,6,7,8,16,24,35] ?_)|simp -dsimp[hs]|refine zp c1 ?_|refine zt c2 ?_ ?_ ?_;(focus simp;done);focus (simp;done)|refine i9 ?_ ?_<;>intro h<;>try simp only[i7] at h
   all_goals try clear hs
   all_goals first
    | (exfalso;omega)
    | (rw[if_pos (by omega)] at hK;simp[hK,hE];done)
    | (rw[if_neg (by omega)] at hK;simp[hK,hE])
 ·have hK:O7 c n=0:=by simp[O7,hE]
  have hs:=hE
  repeat' first|(with_reducible first|refine zz ?_|refine zr ?_|refine zE [0,1,2,4,5,6,7,8,16,24,35] ?_)|simp -dsimp[hs]|refine zp c1 ?_|refine i9 ?_ ?_<;>intro h<;>try simp only[i7] at h
  all_goals try clear hs
  all_goals simp[hK]
end Go.Proofs
namespace Go.Proofs
open Go Go.Ab
theorem lF {l:List Issue} {lets:List Int} (h0:j8 l=0) (hlet:w0 l lets=true) {dep:Int→Int} (hdep:∀ n∈nums l,1≤dep n∧dep n≤6∧∀ c∈cX l n,c∈nums l∧dep c<dep n) :
 ∀ (k:Nat) (d m:Int),d∈nums l→∀ p∈O4 (u5 l lets) k d m,p.1∈nums l
 | 0,_,_,_,p,hp=>by cases hp
 | k+1,d,m,hd,p,hp=>by
   rw[O4] at hp
   split at hp
   ·rw[List.mem_singleton] at hp;rw[hp];exact hd
   ·obtain⟨y,hy,hp⟩:=List.mem_flatMap.1 hp
    have hc:=(hdep d hd).2.2 _ (kK h0 hlet hd y hy)
    exact lF h0 hlet hdep k _ _ hc.1 p hp
theorem ou {ns:List Int} (hnd:ns.Nodup):∀ (lv:List (Int×Int)) (m:List (Int×Int)),(∀ p∈lv,p.1∈ns)→Hh ns (ns.map (l9 m)) lv=ns.map (l9 (jY m lv))
 | [],_,_=>rfl
 | p :: lv,m,h=>by
   have h1:=ou hnd lv (N1 p.1 (IntKind.i64.wrap (l9 m p.1+p.2)) m) fun q hq=>h q (by simp[hq])
   obtain⟨j,hj⟩:=List.mem_iff_getElem?.1 (h p (by simp))
   have he:Hi ns (ns.map (l9 m)) p=ns.map (l9 (N1 p.1 (IntKind.i64.wrap (l9 m p.1+p.2)) m)):=by
    simp only[Hi,iV hnd hj,Int.toNat_natCast,List.getElem?_map,hj,Option.map_some,Option.getD_some]
    rw[lw hnd hj]
    refine List.map_congr_left fun n _=>?_
    rw[aa]
    by_cases e:n=p.1<;>simp[e]
   simp only[Hh,jY,List.foldl_cons] at h1 ⊢
   rw[he];exact h1
theorem fk (f:Int→Int):∀ ns:List Int,((ns.zip (ns.map f)).filter fun p=>decide (0<p.2)).map (fun p=>(⟨p.1,p.2⟩:Itm))=(ns.filter fun n=>decide (0<f n)).map fun n=>⟨n,f n⟩
 | []=>rfl
 | n :: ns=>by
   simp only[List.map_cons,List.zip_cons_cons,List.filter_cons]
   by_cases h:0<f n
   ·simp only[h,decide_true,if_true,List.map_cons,fk f ns]
   ·simp only[h,decide_false,Bool.false_eq_true,if_false,fk f ns]
theorem qp {l:List Issue} {lets:List Int} {d:Int} (h0:j8 l=0) (hlet:w0 l lets=true) (hd:d∈nums l):lh l lets d=K9 (nums l) (mN l lets d):=by
 obtain⟨dep,hdep⟩:=rf h0
 have hnd:(nums l).Nodup:=(D8 h0).1.imp fun h=>Int.ne_of_lt h
 have h1:=ou hnd (O4 (u5 l lets) 6 d 1) [] (lF h0 hlet hdep 6 d 1 hd)
 have h2:(nums l).map (l9 [])=List.replicate (nums l).length 0:=km (fun _=>rfl) _
 rw[h2] at h1
 have h3:IX l lets d=(nums l).map (l9 (mN l lets d)):=h1
 rw[lh,h3,fk];rfl
theorem lB:∀ (ps:List Itm) (m:List (Int×Int)) (d:Int),(ps.map (·.drawing)).Nodup→l9 (ps.foldl (fun m x=>N1 x.drawing x.count m) m) d=if d∈ps.map (·.drawing) then dV ps d else l9 m d
 | [],m,d,_=>by simp
 | y :: ps,m,d,h=>by
   rw[List.map_cons,List.nodup_cons] at h
   rw[List.foldl_cons,lB ps _ d h.2,aa,dV]
   by_cases e:d=y.drawing
   ·subst e
    rw[if_neg h.1,if_pos rfl,if_pos (by simp),if_pos rfl]
   ·rw[if_neg e,if_neg (Ne.symm e)]
    by_cases hm:d∈ps.map (·.drawing)
    ·rw[if_pos hm,if_pos (by simp only[List.map_cons,List.mem_cons];exact .inr hm)]
    ·rw[if_neg hm,if_neg (by simp only[List.map_cons,List.mem_cons];exact fun h=>h.elim e hm)]
theorem dU:∀ (ps:List Itm) (d:Int),d∉ps.map (·.drawing)→dV ps d=0
 | [],_,_=>rfl
 | y :: ps,d,h=>by
   rw[List.map_cons,List.mem_cons,not_or] at h
   rw[dV,if_neg (Ne.symm h.1)];exact dU ps d h.2
def pB (ls:List Link) (d:Int):Nat:=(ls.filter fun y=>decide (y.drawing=d)).length
theorem eI (y:Link) (r:List Link) (d:Int):pB (y :: r) d=(if y.drawing=d then 1 else 0)+pB r d:=by
 unfold pB
 by_cases h:y.drawing=d
 ·rw[List.filter_cons_of_pos (by simpa using h),if_pos h,List.length_cons];omega
 ·rw[List.filter_cons_of_neg (by simpa using h),if_neg h];omega
theorem rk {ls:List Link} {y:Link} (h:y∈ls):1≤pB ls y.drawing:=
 List.length_pos_of_mem (List.mem_filter.2 ⟨h,by simp⟩)
theorem xF {ls:List Link} {d:Int} (h:∀ y∈ls,y.drawing≠d):pB ls d=0:=by
 unfold pB
 rw[List.filter_eq_nil_iff.2 fun y hy=>by simpa using h y hy];rfl
def vu (B:List (Int×Issue)) (y:Link):Bool:=decide (0≤y.dim)&&decide (y.dim≤((J7 B y.drawing).dims.length:Int)-1)
theorem kG (D:List (Int×Int)) (B:List (Int×Issue)):∀ (r:List Link) (U:List (Int×Int)),Y2 D B U r=true↔∀ y∈r,vu B y=true∧l9 U y.drawing+pB r y.drawing≤l9 D y.drawing
 | [],U=>by simp[Y2]
 | y :: r,U=>by
   have ih:=kG D B r (N1 y.drawing (l9 U y.drawing+1) U)
   have hu:Y2 D B U (y :: r)=(decide (l9 U y.drawing+1≤l9 D y.drawing)&&vu B y&&Y2 D B (N1 y.drawing (l9 U y.drawing+1) U) r):=rfl
   rw[hu,Bool.and_eq_true,Bool.and_eq_true,decide_eq_true_eq,ih]
   constructor
   ·rintro⟨⟨h1,h2⟩,h3⟩ z hz
    have key:∀ z∈r,vu B z=true∧l9 U z.drawing+pB (y :: r) z.drawing≤l9 D z.drawing:=fun z hz=>by
     obtain⟨a,b⟩:=h3 z hz
     rw[aa] at b
     rw[eI]
     refine⟨a,?_⟩
     by_cases e:z.drawing=y.drawing
     ·rw[if_pos e] at b;rw[if_pos e.symm];rw[e] at b ⊢;omega
     ·rw[if_neg e] at b;rw[if_neg (Ne.symm e)];omega
    rcases List.mem_cons.1 hz with rfl|hz
    ·refine⟨h2,?_⟩
     by_cases hex:∃ w∈r,w.drawing=z.drawing
     ·obtain⟨w,hw,e⟩:=hex
      have:=(key w hw).2
      rw[e] at this;exact this
     ·rw[eI,if_pos rfl,xF fun w hw e=>hex ⟨w,hw,e⟩];omega
    ·exact key z hz
   ·intro h
    obtain⟨a,b⟩:=h y (by simp)
    rw[eI,if_pos rfl] at b
    refine⟨⟨by omega,a⟩,fun z hz=>?_⟩
    obtain⟨a',b'⟩:=h z (by simp[hz])
    refine⟨a',?_⟩
    rw[eI] at b'
    rw[aa]
    by_cases e:z.drawing=y.drawing
    ·rw[if_pos e.symm,e] at b';rw[if_pos e,e];omega
    ·rw[if_neg (Ne.symm e)] at b';rw[if_neg e];omega
def oX (c:Chains) (ls:List Link) (y:Link):Bool:=decide ((pB ls y.drawing:Int)≤dV (lh c.reg c.lets c.of) y.drawing)&&(decide (0≤y.dim)&&decide (y.dim≤((u5 c.reg c.lets y.drawing).dims.length:Int)-1))
def cr (c:Chains) (x:ChLoop):Bool:=tW x&&rt x&&x.links.all (oX c x.links)
theorem li {c:Chains} {d:Int} (h0:j8 c.reg=0) (hlet:w0 c.reg c.lets=true) (hof:c.of∈nums c.reg) (hc:1≤dV (lh c.reg c.lets c.of) d):d∈nums c.reg:=by
 refine Classical.byContradiction fun hn=>?_
 rw[qp h0 hlet hof,dU] at hc
 ·omega
 ·intro hm
  simp only[K9,List.map_map] at hm
  obtain⟨n,h1,h2⟩:=List.mem_map.1 hm
  simp only[Function.comp] at h2
  exact hn (h2 ▸ (List.mem_filter.1 h1).1)
theorem wE {c:Chains} (h0:j8 c.reg=0) (hlet:w0 c.reg c.lets=true) (hof:c.of∈nums c.reg) (x:ChLoop):O3 (T2 c) (ba c.reg c.lets) x=cr c x:=by
 have hnd:(nums c.reg).Nodup:=(D8 h0).1.imp fun h=>Int.ne_of_lt h
 have hT:C0 c.reg c.lets c.of=0:=by simp[C0,h0,hlet,hof]
 have hD:∀ d,l9 (T2 c) d=dV (lh c.reg c.lets c.of) d:=fun d=>by
  rw[qp h0 hlet hof]
  have hE:bQ c.reg c.lets c.of=K9 (nums c.reg) (mN c.reg c.lets c.of):=by rw[bQ,if_pos hT]
  have hn:((K9 (nums c.reg) (mN c.reg c.lets c.of)).map (·.drawing)).Nodup:=by
   simp only[K9,List.map_map]
   have:(fun x:Itm=>x.drawing) ∘ (fun n=>(⟨n,l9 (mN c.reg c.lets c.of) n⟩:Itm))=id:=rfl
   rw[this,List.map_id]
   exact hnd.filter _
  rw[T2,hE,lB _ _ _ hn]
  split
  ·rfl
  ·rw[dU _ _ ‹_›];rfl
 unfold O3 cr
 congr 1
 rw[Bool.eq_iff_iff,kG,List.all_eq_true]
 refine forall_congr' fun y=>forall_congr' fun hy=>?_
 simp only[oX,vu,Bool.and_eq_true,decide_eq_true_eq,hD]
 have hp:=rk hy
 have hz:l9 [] y.drawing=0:=rfl
 constructor
 ·rintro⟨h1,h2⟩
  have hm:=li (d:=y.drawing) h0 hlet hof (by omega)
  rw[ba,V0,if_pos hm] at h1
  exact⟨by omega,h1⟩
 ·rintro⟨h1,h2⟩
  have hm:=li (d:=y.drawing) h0 hlet hof (by omega)
  rw[ba,V0,if_pos hm]
  exact⟨h2,by omega⟩
theorem pE {c:Chains} (h0:j8 c.reg=0):B0 c=(if w0 c.reg c.lets=true∧c.of∈nums c.reg∧(1≤c.loops.length∧c.loops.length≤6)∧c.loops.all (cr c)=true then 0 else 60):=by
 unfold B0
 rw[if_neg (by simp[h0])]
 by_cases hlet:w0 c.reg c.lets=true
 ·by_cases hof:c.of∈nums c.reg
  ·have hT:C0 c.reg c.lets c.of=0:=by simp[C0,h0,hlet,hof]
   have hL:c.loops.all (O3 (T2 c) (ba c.reg c.lets))=c.loops.all (cr c):=by
    congr 1;exact funext fun x=>wE h0 hlet hof x
   rw[hL]
   by_cases hn:1≤c.loops.length∧c.loops.length≤6
   ·rw[if_neg (by simp[hT];omega)]
    by_cases ha:c.loops.all (cr c)=true
    ·rw[if_pos ha,if_pos ⟨hlet,hof,hn,ha⟩]
    ·rw[if_neg ha,if_neg fun h=>ha h.2.2.2]
   ·rw[if_pos (.inr hn),if_neg fun h=>hn h.2.2.1]
  ·have hT:C0 c.reg c.lets c.of≠0:=by simp[C0,h0,hlet,hof]
   rw[if_pos (.inl hT),if_neg fun h=>hof h.2.1]
 ·have hT:C0 c.reg c.lets c.of≠0:=by
   have:w0 c.reg c.lets=false:=by simpa using hlet
   simp[C0,h0,this]
  rw[if_pos (.inl hT),if_neg fun h=>hlet h.1]
theorem Km {c:Chains} (h:B0 c=0):OkC c:=by
 have h0:j8 c.reg=0:=Classical.byContradiction fun h'=>by simp[B0,h'] at h
 rw[pE h0] at h
 split at h
 ·rename_i hc
  obtain⟨a,b,d,e⟩:=hc
  rw[List.all_eq_true] at e
  refine⟨h0,a,b,d,fun x hx=>?_,fun x hx y hy=>?_⟩
  ·have:=e x hx
   simp only[cr,tW,Bool.and_eq_true,decide_eq_true_eq] at this
   exact⟨this.1.1.2,this.1.2⟩
  ·have:=e x hx
   simp only[cr,Bool.and_eq_true,List.all_eq_true] at this
   have:=this.2 y hy
   simp only[oX,Bool.and_eq_true,decide_eq_true_eq] at this
   have hp:=rk hy
   exact⟨li h0 a b (by omega),this.2.1,by omega⟩
 ·cases h
variable {G:GW}
end Go.Proofs
namespace Go.Ab
open Go
structure Spot where
 drawing:Int
 dim:Int
 deriving DecidableEq
def kr (x:Spot):List IC:=[rI x.drawing,rI x.dim]
def Fw (l:List Spot):DV:=.one (.im (.sl (l.map kr)))
attribute [simp] kr Fw
def ud (a b:Spot):Bool:=decide (a.drawing<b.drawing)||(decide (a.drawing=b.drawing)&&decide (a.dim<b.dim))
def AH (x:Spot):List Spot→Nat
 | []=>0
 | y :: r=>if ud y x then AH x r+1 else 0
def JS (x:Spot) (l:List Spot):List Spot:=l.take (AH x l)++x :: l.drop (AH x l)
def Kf (f:Spot→Bool) (out:List Spot) (x:Spot):List Spot:=if f x=false∨x∈out then out else JS x out
def Ke (f:Spot→Bool) (l:List Spot):List Spot:=l.foldl (Kf f) []
def kS (x:Spot):List Value:=[.int .i64 x.drawing,.int .i64 x.dim]
def xt (l:List Spot):List (List Value×List DC):=l.map fun x=>(kS x,[.im (rB true)])
def Fi (l:List Spot):List (List Value×List IC):=l.map fun x=>(kS x,[rB true])
@[simp] theorem JP (k n:Nat) (objs:List DObj) (l:List Spot):E2 (fun x:List Value×List DC=>(E2 (frz (k+1) n objs) x.2).map fun l=>(x.1,l)) (xt l)=some (Fi l):=by
 induction l with
 | nil=>rfl
 | cons p r ih =>
   have e:xt (p :: r)=(kS p,[.im (rB true)]) :: xt r:=rfl
   rw[e]
   simp[E2,ih,Fi]
@[simp] theorem Ir (n:Nat) (objs:List DObj) (l:List Spot):((xt l).map fun x=>(x.1,x.2.map (fz n objs)))=xt l:=by
 simp[xt,fz,DC.lt]
@[simp] theorem IJ (L:List Spot) (k:Nat) (h:k<(l8 (L.map kr)).length):(l8 (L.map kr))[k]=[DC.im (.raw (.int .i64 (L[k]'(by simpa[r5] using h)).drawing)),DC.im (.raw (.int .i64 (L[k]'(by simpa[r5] using h)).dim))]:=by
 simp[l8]
end Go.Ab
namespace Go.Proofs
open Go Go.Ab
def yR (y:Link):Spot:=⟨y.drawing,y.dim⟩
def Il (d:Dim):Int:=min (max d.nominal d.lower) d.upper
def Fr (d:Dim) (g:Int):Dim:=⟨d.nominal,max d.lower (Il d-g),min d.upper (Il d+g)⟩
def JX (c:Chains) (so:Spot→Bool) (g:Int) (y:Link):Dim:=if so (yR y) then Fr (U4 c y) g else U4 c y
def Kj (c:Chains) (so:Spot→Bool) (g:Int) (x:ChLoop):List Dim:=x.links.map (JX c so g)
def KO (c:Chains) (so:Spot→Bool) (g:Int) (x:ChLoop):Int:=cW x.links (Kj c so g x) false
def KT (c:Chains) (so:Spot→Bool) (g:Int) (x:ChLoop):Int:=cW x.links (Kj c so g x) true
def Er (c:Chains) (so:Spot→Bool) (g:Int) (x:ChLoop):Bool:=decide (x.lo≤KO c so g x)&&decide (KT c so g x≤x.hi)
def Kd (c:Chains) (so:Spot→Bool) (g:Int):Bool:=c.loops.all (Er c so g)
def kb (c:Chains):List Spot:=c.loops.flatMap fun x=>x.links.map yR
def Gn (c:Chains) (x:Spot):Bool:=decide ((u5 c.reg c.lets x.drawing).kind≠3)
def rJ (c:Chains):List Spot:=Ke (Gn c) (kb c)
def gs (p:Int→Bool):Nat→Int→Int→Int
 | 0,lo,_=>lo
 | k+1,lo,hi=>if lo<hi then (if p (hi-(hi-lo) / 2) then gs p k (hi-(hi-lo) / 2) hi else gs p k lo (hi-(hi-lo) / 2-1)) else lo
def Im (l:List Spot) (set:Nat):Nat→List Spot
 | 0=>[]
 | k+1=>Im l set k++(match l[k]? with
   | some x=>if set.testBit k then [x] else []
   | none=>[])
def lexB:List Spot→List Spot→Bool
 | a :: l,b :: m=>if a=b then lexB l m else ud a b
 | _,_=>false
def yT (a b:List Spot):Bool:=decide (a.length<b.length)||(decide (a.length=b.length)&&lexB a b)
def EA (best:Option (List Spot)) (x:List Spot):Bool:=match best with
 | none=>true
 | some b=>yT x b
def HG (good:List Spot→Bool) (best:Option (List Spot)) (x:List Spot):Option (List Spot):=if EA best x&&good x then some x else best
def FA (all:List Spot) (k:Nat):List (List Spot):=(List.range k).map fun s=>Im all s all.length
def KS (l:List Spot):Spot→Bool:=fun x=>decide (x∈l)
def IQ (c:Chains) (x:List Spot):Bool:=Kd c (KS x) 0
def Bg (c:Chains) (b0:Option (List Spot)) (k:Nat):Option (List Spot):=(FA (rJ c) k).foldl (HG (IQ c)) b0
def JW (c:Chains):Option (List Spot):=Bg c none (2 ^ (rJ c).length)
open Go Go.Ab Tryz
variable {G:GW}
def SoF (G:GW) (c:Chains) (fv:IC) (so:Spot→Bool):Prop:=
 (∃ (f:FuncId) (caps:List IC),fv=.fn (.func f) caps∧D9 prog f∧∀ x∈kb c,∀ objs,DCall prog G f (D4 x.drawing x.dim :: caps.map fun c=>.one (.im c)) objs (fun d o=>d=bv (so x)∧o=objs)) ∨
 (∃ (f:FuncId) (l:List IC),fv=.bf (.func f) l∧D9 prog f∧∀ x∈kb c,∀ objs,DCall prog G f ((l.map fun c=>DV.one (.im c))++[D4 x.drawing x.dim]) objs (fun d o=>d=bv (so x)∧o=objs))
def U7:List Int→Int
 | []=>0
 | x :: r=>if x=0 then U7 r else x
theorem Fa (l:List Int) (hl:l.length<1000000):zP prog G 84 [u9 l] (iv (U7 l)):=by
 refine zf func84 ntmps84 ?_
 try simp only[u9]
 have hs:=trivial
 repeat' first|(with_reducible first|refine zz ?_|refine zE [0,2,3,5,6,7,8,9,14] ?_)|simp -dsimp[hs]
 refine i6 (ι:={ p:Nat // p≤l.length∧U7 l=U7 (l.drop p) }) (fun p=>⟨18,[(3,iv 0),(6,.one (.im (.sl (l.map encI)))),(7,iv (l.length:Int)),(8,iv (p.1:Int))],[]⟩) (fun p=>l.length-p.1) ⟨0,by simp⟩ (zv [3,6,7,8]) ?_
 rintro⟨k,hk,hu⟩
 simp only[iv]
 by_cases hlt:k<l.length
 ·have hw:=zk k
  rw[List.drop_eq_getElem_cons hlt,U7] at hu
  generalize hx:l[k]=x at *
  have hs:=za hx (za hw hlt)
  repeat' first|(with_reducible first|refine zz ?_|refine zr ?_|refine zE [0,2,3,5,6,7,8,9,14] ?_)|simp -dsimp[hs]|refine i9 ?_ ?_<;>intro h<;>try simp only[i7] at h
  ·rw[hu,if_neg (by assumption)]
  ·rw[if_pos (by assumption)] at hu
   exact zn ⟨k+1,by omega,hu⟩ (zv [3,6,7,8])
 ·rw[List.drop_eq_nil_of_le (by omega)] at hu
  have hs:=hlt
  repeat' first|(with_reducible first|refine zz ?_|refine zr ?_|refine zE [0,2,3,5,6,7,8,9,14] ?_)|simp -dsimp[hs]|refine i9 ?_ ?_<;>intro h<;>try simp only[i7] at h
  rw[hu];rfl
attribute [simp] u4 eq A3 C2 nilV N0 ZK
theorem SoF.congr {c:Chains} {fv:IC} {so so':Spot→Bool} (h:SoF G c fv so) (he:∀ x∈kb c,so x=so' x):SoF G c fv so':=by
 rcases h with⟨f,caps,h1,h2,h3⟩|⟨f,caps,h1,h2,h3⟩
 ·exact .inl ⟨f,caps,h1,h2,fun x hx objs=>(h3 x hx objs).mono fun d o ⟨a,b⟩=>⟨by rw[a,he x hx],b⟩⟩
 ·exact .inr ⟨f,caps,h1,h2,fun x hx objs=>(h3 x hx objs).mono fun d o ⟨a,b⟩=>⟨by rw[a,he x hx],b⟩⟩
attribute [simp] u4 eq A3 C2 nilV N0 ZK
attribute [simp] u4 eq T1 mM A3 C2 nilV N0 ZK
@[simp] theorem Hu (L:List ChLoop) (k:Nat) (h:k<(l8 (L.map H3)).length):(l8 (L.map H3))[k]=[DC.im (.sl ((L[k]'(by simpa[r5] using h)).links.map G3)),DC.im (.raw (.int .i64 (L[k]'(by simpa[r5] using h)).lo)),DC.im (.raw (.int .i64 (L[k]'(by simpa[r5] using h)).hi))]:=by
 simp[l8,H3,rI]
@[simp] theorem Ht (L:List Issue) (k:Nat) (h:k<(l8 (L.map g9)).length):(l8 (L.map g9))[k]=(g9 (L[k]'(by simpa[r5] using h))).map .im:=by
 simp[l8]
def cu (l:List Issue) (d:Int):DV:=if j8 l=0∧d∈nums l then .one (.im (w8 l (nums l))) else .one (.im (.raw (.pointer none)))
theorem wL (l:List Issue) (d:Int):ImV (cu l d):=by unfold cu;split<;>simp[w8]
attribute [simp] wL
def au (l:List Issue) (d:Int):Int:=if j8 l≠0 then j8 l else if d∈nums l then 0 else 6
theorem DE (l:List Issue) (d:Int) (hG:q8 G) (hs:V6 l):zP prog G 209 [H5 l,iv d] (.tup [cu l d,iv (au l d)]):=by
 refine zf func209 ntmps209 ?_
 try simp only[H5,iv]
 have c1:=gv l hG hs
 by_cases h0:j8 l=0
 ·simp only[bU,h0,if_true] at c1
  have c2:=AQ (G:=G) l (nums l) d ((D8 h0).1.imp fun h=>Int.le_of_lt h) (by have:=hs.1;have:=A2 l l.length;unfold nums;omega)
  by_cases hm:d∈nums l
  ·simp only[hm,decide_true,w8] at c1 c2
   have hs:=trivial
   repeat' first|(with_reducible first|refine zz ?_|refine zr ?_|refine zE [0,1,2,4,5,6,7,14,19] ?_)|simp -dsimp[hs]|refine zp c1 ?_|refine zp c2 ?_|refine i9 ?_ ?_<;>intro h<;>try simp only[i7] at h
   all_goals try clear hs
   all_goals simp[cu,au,h0,hm,w8]
  ·simp only[hm,decide_false,w8] at c1 c2
   have hs:=trivial
   repeat' first|(with_reducible first|refine zz ?_|refine zr ?_|refine zE [0,1,2,4,5,6,7,14,19] ?_)|simp -dsimp[hs]|refine zp c1 ?_|refine zp c2 ?_|refine i9 ?_ ?_<;>intro h<;>try simp only[i7] at h
   all_goals try clear hs
   all_goals simp[cu,au,h0,hm,w8]
 ·simp only[bU,h0,if_false] at c1
  have hs:=h0
  repeat' first|(with_reducible first|refine zz ?_|refine zr ?_|refine zE [0,1,2,4,5,6,7,14,19] ?_)|simp -dsimp[hs]|refine zp c1 ?_|refine i9 ?_ ?_<;>intro h<;>try simp only[i7] at h
  all_goals try clear hs
  all_goals simp[cu,au,h0]
def eQ (l:List Issue) (d:Int):Nat:=(l.filter fun x=>decide (x.drawing=d)).length
theorem CP {l:List Issue} {d:Int} (hs:(l.map (·.drawing)).Pairwise (·≤·)):eQ l d=eQ (l.drop (lb (l.map (·.drawing)) d)) d:=by
 conv=>lhs;rw[← List.take_append_drop (lb (l.map (·.drawing)) d) l]
 simp only[eQ,List.filter_append]
 rw[List.filter_eq_nil_iff.2 fun x hx=>?_]
 ·rfl
 ·have:=sA hs x hx
  simp;omega
theorem DB (l:List Issue) (ds:List Int) (d:Int) (hs:(l.map (·.drawing)).Pairwise (·≤·)) (hl:l.length<1000000):zP prog G 210 [.one (.im (w8 l ds)),iv d] (iv (eQ l d:Int)):=by
 refine zf func210 ntmps210 ?_
 try simp only[iv]
 simp only[w8]
 have c1:=lJ (G:=G) (w8 l ds) d
 simp only[w8] at c1
 have hs:=trivial
 repeat' first|(with_reducible first|refine zz ?_|refine zE [0,1,4,5,8] ?_)|simp -dsimp[hs]|refine zp c1 ?_
 all_goals try clear hs
 refine T8 (f:=280) (by simp;exact rfl) (by rfl) call280 ?_
 generalize hR:LoopD.mk _ _ _ _ _ _ _=R
 have hR1:R.st=.ready:=by rw[← hR]
 have hR2:R.pend=none:=by rw[← hR]
 have hR3:R.at .ready none=R:=by rw[← hR];rfl
 have hR4:=(congrArg LoopD.nt hR).symm
 have hR5:=(congrArg LoopD.tm hR).symm
 have hR6:=(congrArg LoopD.ps hR).symm
 have hR7:=(congrArg LoopD.asg hR).symm
 have hR8:=(congrArg LoopD.body hR).symm
 dsimp only at hR4 hR5 hR6 hR7 hR8
 clear hR
 refine h9 func280 rfl ntmps280 (by simp) rfl ?_
 have hR9:∀ objs:List DObj,(R.tm.map fun x=>(x.1,fG 2 objs x.2))=R.tm:=by intro objs;rw[hR5];simp
 have hlb:=qF (l.map (·.drawing)) d
 rw[List.length_map] at hlb
 have c2:=fQ (G:=G) l d hs hl
 have hs:=za hR1 (za hR2 (za hR3 hlb))
 repeat' first|with_reducible refine zz ?_|simp -dsimp[hs]|refine zq c2 ?_|refine zM 0 41 12 [0,1,2,4,7,24,25,26,27,39] ?_|with_reducible refine zE [0,1,2,4,5,7,8,24,25,26,27,39] ?_
 all_goals try clear hs
 rw[← List.map_drop]
 have hge:=sB (d:=d) hs
 have hss:((l.drop (lb (l.map (·.drawing)) d)).map (·.drawing)).Pairwise (·≤·):=by rw[List.map_drop];exact hs.drop
 have hsl:l.length-lb (l.map (·.drawing)) d=(l.drop (lb (l.map (·.drawing)) d)).length:=by simp
 rw[hsl]
 have hsl2:(l.drop (lb (l.map (·.drawing)) d)).length<1000000:=by simp;omega
 rw[CP hs]
 generalize l.drop (lb (l.map (·.drawing)) d)=s at hge hss hsl2 ⊢
 refine i6 (ι:={ k:Nat // k≤s.length∧k+eQ (s.drop k) d=eQ s d }) (fun p=>⟨41,[(0,.one (.yld 1)),(2,.one (.im (.ip [rI d]))),(24,.one (.im (.sl (s.map g9)))),(25,iv (s.length:Int)),(26,iv (p.1:Int))],[.row [.im (rI (p.1:Int))],.loop R]⟩) (fun p=>s.length-p.1) ⟨0,by simp⟩ (zv [0,2,24,25,26]) ?_
 rintro⟨k,hk,hno⟩
 simp only[iv]
 by_cases hlt:k<s.length
 ·have hx:s[k]?=some s[k]:=by simp[hlt]
  have hw:=zk k
  have hcons:s.drop k=s[k] :: s.drop (k+1):=List.drop_eq_getElem_cons hlt
  by_cases hd:s[k].drawing=d
  ·have hno':k+1+eQ (s.drop (k+1)) d=eQ s d:=by
    rw[← hno,eQ,eQ,hcons,List.filter_cons_of_pos (by simp[hd]),List.length_cons];omega
   have hs:=za hR1 (za hR2 (za hR3 (za hx (za hw (za hd hlt)))))
   repeat' first|(with_reducible first|refine zz ?_|refine zE [0,1,2,4,5,7,8,24,25,26,27,39] ?_)|simp -dsimp[hs]|with_reducible refine At.yield_end ?_;simp -dsimp[hs]|refine aV ?_ ?_<;>simp -dsimp[hs]|refine Q8 ?_;simp -dsimp[T7,hR4,hR5,hR6,hR7,hR8,hs]|refine i9 ?_ ?_<;>intro h<;>try simp only[i7] at h
   all_goals try clear hs
   all_goals exact zn ⟨k+1,by omega,hno'⟩ (zw [0,2,24,25,26] 2 (by simp[hR9]))
  ·have hnone:eQ (s.drop k) d=0:=by
    simp only[eQ,List.length_eq_zero_iff,List.filter_eq_nil_iff]
    intro x hxm
    obtain⟨i,hi⟩:=List.mem_iff_getElem?.1 hxm
    rw[List.getElem?_drop] at hi
    have h1:s[k].drawing≤x.drawing:=by
     rcases Nat.eq_zero_or_pos i with rfl|hp
     ·rw[Nat.add_zero,hx] at hi;cases hi;exact Int.le_refl _
     ·have hlt2:=(List.getElem?_eq_some_iff.1 hi).1
      have:=(List.pairwise_iff_getElem.1 hss) k (k+i) (by simpa using hlt) (by simpa using hlt2) (by omega)
      have h6:=(List.getElem?_eq_some_iff.1 hi).2
      simp at this;rw[h6] at this;exact this
    have h2:=hge s[k] (List.getElem_mem hlt)
    simp;omega
   have hN:eQ s d=k:=by omega
   have hs:=za hR1 (za hR2 (za hR3 (za hx (za hw (za hd hlt)))))
   repeat' first|(with_reducible first|refine zz ?_|refine zr ?_ (by simp -dsimp[B6,hs];exact rfl)|refine zE [0,1,2,4,5,7,8,24,25,26,27,39] ?_)|simp -dsimp[B6,hs]|with_reducible show B6 _ _ _ _ _ _ _ _;simp -dsimp[B6,hs]|refine i9 ?_ ?_<;>intro h<;>try simp only[i7] at h
   all_goals try clear hs
   all_goals simp[hN]
 ·have hN:eQ s d=k:=by rw[← hno,List.drop_eq_nil_of_le (by omega)];simp[eQ]
  have hs:=za hR1 (za hR2 (za hR3 hlt))
  repeat' first|(with_reducible first|refine zz ?_|refine zr ?_ (by simp -dsimp[B6,hs];exact rfl)|refine ze ?_ (by simp -dsimp[B6,hs];exact rfl)|refine zE [0,1,2,4,5,7,8,24,25,26,27,39] ?_)|simp -dsimp[B6,hs]|with_reducible show B6 _ _ _ _ _ _ _ _;simp -dsimp[B6,hs]|refine i9 ?_ ?_<;>intro h<;>try simp only[i7] at h
  all_goals try clear hs
  all_goals simp[hN]
def Av (l:List Issue) (d:Int):Int:=if au l d=0 then (eQ l d:Int) else 0
theorem Dc (l:List Issue) (d:Int) (hG:q8 G) (hs:V6 l):zP prog G 154 [H5 l,iv d] (.tup [iv (Av l d),iv (au l d)]):=by
 refine zf func154 ntmps154 ?_
 try simp only[H5,iv]
 have c1:=DE (G:=G) l d hG hs
 by_cases h0:au l d=0
 ·have hk:j8 l=0∧d∈nums l:=by
   unfold au at h0
   by_cases h1:j8 l=0
   ·refine⟨h1,?_⟩
    rw[if_neg (by simp[h1])] at h0
    by_cases h2:d∈nums l
    ·exact h2
    ·rw[if_neg h2] at h0;cases h0
   ·rw[if_pos h1] at h0;exact absurd h0 h1
  have c2:=DB (G:=G) l (nums l) d (cF hk.1) (by have:=hs.1;omega)
  rw[cu,if_pos hk,h0] at c1
  rw[Av,if_pos h0,h0]
  simp only[w8] at c1 c2
  have hs:=trivial
  repeat' first|(with_reducible first|refine zz ?_|refine zr ?_|refine zE [0,1,2,4,5,6,7,15] ?_)|simp -dsimp[hs]|refine zp c1 ?_|refine zp c2 ?_|refine i9 ?_ ?_<;>intro h<;>try simp only[i7] at h
  all_goals try clear hs
 ·rw[Av,if_neg h0]
  generalize hX:cu l d=X at c1
  have hXo:∃ x,X=.one (.im x):=by subst hX;unfold cu;split<;>exact⟨_,rfl⟩
  obtain⟨x,rfl⟩:=hXo
  generalize au l d=e at *
  have hs:=h0
  repeat' first|(with_reducible first|refine zz ?_|refine zr ?_|refine zE [0,1,2,4,5,6,7,15] ?_)|simp -dsimp[hs]|refine zp c1 ?_|refine i9 ?_ ?_<;>intro h<;>try simp only[i7] at h
  all_goals try clear hs
end Go.Proofs
namespace Go.Ab
open Go
structure Piece where
 holder:Int
 day:Int
 lo:Int
 hi:Int
 deriving DecidableEq
structure Case where
 p:Prints
 machine:Int
 of:Int
 loop:ChLoop
 pieces:List Piece
 deriving DecidableEq
def A7 (x:Piece):List IC:=[rI x.holder,rI x.day,rI x.lo,rI x.hi]
def j4 (c:Case):List IC:=[.sl (c.p.n.reg.map g9),.sl (c.p.n.notes.map j9),.sl (c.p.holders.map o9),.sl (c.p.prints.map A0),rI c.machine,rI c.of,.sl (c.loop.links.map G3),rI c.loop.lo,rI c.loop.hi,.sl (c.pieces.map A7)]
def FO (x:Piece):DV:=.agg ((A7 x).map .im)
def n3 (c:Case):DV:=.agg ((j4 c).map .im)
attribute [simp] A7 j4 FO n3
end Go.Ab
namespace Go.Proofs
open Go Go.Ab
variable {G:GW}
theorem wV (x lo hi:Int):DCall Tryz.prog G 157 (iv x :: [DC.ptr 0 0,DC.ptr 1 0].map .one) [.row [.im (rI lo)],.row [.im (rI hi)]] (fun d o=>d=bv (decide (x<lo)||decide (hi<x))∧o=[.row [.im (rI lo)],.row [.im (rI hi)]]):=by
 refine h9 Tryz.func157 rfl Tryz.ntmps157 (by simp) rfl ?_
 simp only[rI]
 have hs:=trivial
 repeat' first|(with_reducible first|refine zz ?_|refine zr ?_|refine zE [0,1,2,4] ?_)|simp -dsimp[hs]|with_reducible refine j0 ?_ ?_<;>intro h<;>have h0:=h<;>(try simp only[i7] at h)<;>have h2:=h<;>(try simp at h2)<;>replace hs:=za h0 (za h (za h2 hs))|with_reducible refine And.intro ?_ ?_
 all_goals try clear hs
 all_goals simp[*]
theorem N8 (lo hi:Int) (l:List Int) (hl:l.length<1000000):zP Tryz.prog G 96 [iv lo,iv hi,u9 l] (bv (l.all fun x=>decide (lo≤x)&&decide (x≤hi))):=by
 refine zf Tryz.func96 Tryz.ntmps96 ?_
 try simp only[iv,iv,u9]
 have hc:=C6 (G:=G) l (fun x=>decide (x<lo)||decide (hi<x)) 157 [.ptr 0 0,.ptr 1 0] [.row [.im (rI lo)],.row [.im (rI hi)]] (by simp) (fun x _=>wV x lo hi) hl
 simp only[rI] at hc
 repeat' first|(with_reducible first|refine zz ?_|refine zx ?_|refine zE [0,1,2,3,4,6] ?_)|simp -dsimp|refine CallE.here hc ?_
 rw[Bool.eq_iff_iff];simp
 exact exists_congr fun x=>and_congr_right fun _=>by omega
def V1 (lo hi a b:Int):Bool:=decide (a≤lo∧lo≤b∧a≤hi∧hi≤b∧lo≤hi)
theorem bK (lo hi a b:Int):zP Tryz.prog G 97 [D4 lo hi,iv a,iv b] (bv (V1 lo hi a b)):=by
 refine zf Tryz.func97 Tryz.ntmps97 ?_
 try simp only[D4,iv,iv]
 have c1:=N8 (G:=G) a b [lo,hi] (by simp)
 generalize hb:([lo,hi].all fun y=>decide (a≤y)&&decide (y≤b))=q at c1
 cases q
 ·repeat' first|(with_reducible first|refine zz ?_|refine zx ?_|refine zE [0,1,2,3,6] ?_)|simp -dsimp|refine zt c1 ?_ ?_ ?_;(focus simp;done);focus (simp;done)
  all_goals simp at hb
  all_goals simp[V1]
  all_goals omega
 ·simp at hb
  repeat' first|(with_reducible first|refine zz ?_|refine zx ?_|refine zE [0,1,2,3,6] ?_)|simp -dsimp|refine zt c1 ?_ ?_ ?_;(focus simp;done);focus (simp;done)
  all_goals simp[V1]
  all_goals first|omega|(rw[Bool.eq_iff_iff];simp;omega)
end Go.Proofs
namespace Go.Proofs
open Go Go.Ab
variable {G:GW}
def H7 (c:Case) (l:Link) (x:Piece):Bool:=(match n8 c.p.n.reg l.drawing 1 with|some y=>!decide (y.kind=1)|none=>false)&&(decide (0≤l.dim∧l.dim≤3)&&((c.p.holders.any fun y=>decide (y.id=x.holder))&&(decide (0≤x.day∧x.day≤14610)&&V1 x.lo x.hi 0 1000000000)))
def aH (c:Case):Bool:=decide (c.of∈nums c.p.n.reg)&&(decide (1≤c.machine∧c.machine≤999)&&(decide (1≤c.loop.links.length∧c.loop.links.length≤8)&&(decide (c.pieces.length=c.loop.links.length)&&(V1 c.loop.lo c.loop.hi (-8000000000) 8000000000&&(c.loop.links.zip c.pieces).all fun q=>H7 c q.1 q.2))))
noncomputable def v6 (c:Case):Int:=if u3 c.p≠0 then u3 c.p else if aH c=true then 0 else 100
structure KC (c:Case):Prop where
 p:KP c.p
 l:c.loop.links.length≤16
 q:c.pieces.length≤16
open Go Go.Ab Tryz
theorem F8 {c:Case} (h:v6 c=0):u3 c.p=0∧aH c=true:=by
 unfold v6 at h
 by_cases h0:u3 c.p=0
 ·rw[if_neg (by simp[h0])] at h
  refine⟨h0,?_⟩
  by_cases h1:aH c=true
  ·exact h1
  ·rw[if_neg h1] at h;exact absurd h (by decide)
 ·rw[if_pos h0] at h;exact absurd h h0
theorem I0 {p:Prints} (h:u3 p=0):v7 p.n=0∧G0 p=true∧j8 p.n.reg=0:=by
 have hn:v7 p.n=0:=by
  refine Classical.byContradiction fun h1=>?_
  unfold u3 at h;rw[if_pos h1] at h;exact h1 h
 refine⟨hn,?_,?_⟩
 ·refine Classical.byContradiction fun h1=>?_
  unfold u3 at h;rw[if_neg (by simp[hn]),if_neg h1] at h;exact absurd h (by decide)
 ·refine Classical.byContradiction fun h1=>?_
  unfold v7 at hn;rw[if_pos h1] at hn;exact h1 hn
def fh (c:Case):Bool:=decide (c.of∈nums c.p.n.reg)&&(decide (1≤c.machine∧c.machine≤999)&&(decide (1≤c.loop.links.length∧c.loop.links.length≤8)&&(decide (c.pieces.length=c.loop.links.length)&&V1 c.loop.lo c.loop.hi (-8000000000) 8000000000)))
theorem T4 (c:Case):aH c=(fh c&&(c.loop.links.zip c.pieces).all fun q=>H7 c q.1 q.2):=by
 simp only[aH,fh,Bool.and_assoc]
theorem fV {α β:Type} {f:α×β→Bool} {l:List α} {m:List β} {k:Nat} (h1:k<l.length) (h2:k<m.length) (hno:(l.zip m).all f=((l.zip m).drop k).all f):(l.zip m).all f=true↔f (l[k],m[k])=true∧((l.zip m).drop (k+1)).all f=true:=by
 have h3:k<(l.zip m).length:=by rw[List.length_zip];omega
 have:=bX h3 hno
 rw[List.getElem_zip] at this
 exact this
theorem xO (x:Piece) (y:Holder):DCall prog G 156 (jz y :: [DC.ptr 0 0].map .one) [.row ((A7 x).map .im)] (fun d o=>d=bv (decide (y.id=x.holder))∧o=[.row ((A7 x).map .im)]):=by
 refine DCall.drop ?_
 refine h9 func156 rfl ntmps156 (by simp) rfl ?_
 simp only[jz,o9,A7,rI]
 repeat' first|(with_reducible first|refine zz ?_|refine zx ?_|refine zE [0,1,2,3] ?_)|simp -dsimp|with_reducible refine And.intro ?_ ?_
theorem nz {c:Case} (h0:j8 c.p.n.reg=0) (l:Link) (x:Piece):H7 c l x=true↔Cz c.p.n.reg l.drawing 1=0∧¬ (atR c.p.n.reg l.drawing 1).kind=1∧([l.dim].all fun y=>decide (0≤y)&&decide (y≤3))=true∧(c.p.holders.any fun y=>decide (y.id=x.holder))=true∧([x.day].all fun y=>decide (0≤y)&&decide (y≤14610))=true∧V1 x.lo x.hi 0 1000000000=true:=by
 unfold H7 Cz atR
 rw[if_neg (by simp[h0]),if_pos h0]
 cases n8 c.p.n.reg l.drawing 1 with
 | none=>simp
 | some y=>simp[and_assoc]
theorem iu (c:Case) (hG:q8 G) (hN:E6 G) (hS:w7 G) (hR:w9 G) (hk:KC c):zP prog G 95 [n3 c] (iv (v6 c)):=by
 refine zf func95 ntmps95 ?_
 try simp only[iv]
 have hl:=hk.l
 have hq:=hk.q
 have hhl:=hk.p.p.h
 have c1:=zK (G:=G) c.p hG hN hS hR hk.p
 simp only[E1,r7] at c1
 by_cases h0:u3 c.p=0
 ·obtain⟨hn0,hpb,hr0⟩:=I0 h0
  rw[h0] at c1
  have hE:v6 c=if aH c=true then 0 else 100:=by unfold v6;rw[if_neg (by simp[h0])]
  have c2:=Dc (G:=G) c.p.n.reg c.of hG hk.p.n.1
  have hLE:au c.p.n.reg c.of=if c.of∈nums c.p.n.reg then 0 else 6:=by unfold au;rw[if_neg (by simp[hr0])]
  rw[hLE] at c2
  have c3:=N8 (G:=G) 1 999 [c.machine] (by simp)
  have c4:=N8 (G:=G) 1 8 [(c.loop.links.length:Int)] (by simp)
  have c5:=bK (G:=G) c.loop.lo c.loop.hi (-8000000000) 8000000000
  simp only[H5,D4] at c2 c5
  cases h5:fh c
  ·have hB:aH c=false:=by rw[T4,h5,Bool.false_and]
   rw[hE,hB]
   simp only[fh] at h5
   generalize hb3:([c.machine].all fun y=>decide (1≤y)&&decide (y≤999))=b3 at c3
   generalize hb4:([(c.loop.links.length:Int)].all fun y=>decide (1≤y)&&decide (y≤8))=b4 at c4
   generalize hb5:V1 c.loop.lo c.loop.hi (-8000000000) 8000000000=b5 at c5 h5
   have hs:True:=trivial
   by_cases hm:c.of∈nums c.p.n.reg
   ·rw[if_pos hm] at c2
    by_cases hlen:c.pieces.length=c.loop.links.length
    ·cases b3<;>cases b4<;>cases b5
     all_goals
      have hs:=hlen
      repeat' first|(with_reducible first|refine zz ?_|refine zr ?_|refine zE [0,1,2,3,4,6,7,8,9,10,11,12,17,64,67,68,69,70,118] ?_)|simp -dsimp[hs]|refine zp c1 ?_|refine zp c2 ?_|refine zt c3 ?_ ?_ ?_;(focus simp;done);focus (simp;done)|refine zt c4 ?_ ?_ ?_;(focus simp;done);focus (simp;done)|refine zp c5 ?_|refine i9 ?_ ?_<;>intro h<;>try simp only[i7] at h
      all_goals try clear hs
     all_goals exfalso
     all_goals simp[hm,hlen] at h5 hb3 hb4
     all_goals omega
    ·cases b3<;>cases b4<;>cases b5
     all_goals
      have hs:=hlen
      repeat' first|(with_reducible first|refine zz ?_|refine zr ?_|refine zE [0,1,2,3,4,6,7,8,9,10,11,12,17,64,67,68,69,70,118] ?_)|simp -dsimp[hs]|refine zp c1 ?_|refine zp c2 ?_|refine zt c3 ?_ ?_ ?_;(focus simp;done);focus (simp;done)|refine zt c4 ?_ ?_ ?_;(focus simp;done);focus (simp;done)|refine zp c5 ?_|refine i9 ?_ ?_<;>intro h<;>try simp only[i7] at h|with_reducible refine j0 ?_ ?_<;>intro h<;>have h0:=h<;>(try simp only[i7] at h)<;>have h2:=h<;>(try simp at h2)<;>replace hs:=za h0 (za h (za h2 hs))
      all_goals try clear hs
     all_goals exfalso
     all_goals omega
   ·rw[if_neg hm] at c2
    have hs:=trivial
    repeat' first|(with_reducible first|refine zz ?_|refine zr ?_|refine zE [0,1,2,3,4,6,7,8,9,10,11,12,17,64,67,68,69,70,118] ?_)|simp -dsimp[hs]|refine zp c1 ?_|refine zp c2 ?_|refine i9 ?_ ?_<;>intro h<;>try simp only[i7] at h
    all_goals try clear hs
  ·rw[T4,h5,Bool.true_and] at hE
   rw[hE]
   simp only[fh,Bool.and_eq_true,decide_eq_true_eq] at h5
   obtain⟨hm,⟨hm1,hm2⟩,⟨hl1,hl2⟩,hlen,hgap⟩:=h5
   rw[if_pos hm] at c2
   rw[hgap] at c5
   rw[show ([c.machine].all fun y=>decide (1≤y)&&decide (y≤999))=true by simp;omega] at c3
   rw[show ([(c.loop.links.length:Int)].all fun y=>decide (1≤y)&&decide (y≤8))=true by simp;omega] at c4
   have hs:=hlen
   repeat' first|(with_reducible first|refine zz ?_|refine zE [0,1,2,3,4,6,7,8,9,10,11,12,17,64,67,68,69,70,118] ?_)|simp -dsimp[hs]|refine zp c1 ?_|refine zp c2 ?_|refine zt c3 ?_ ?_ ?_;(focus simp;done);focus (simp;done)|refine zt c4 ?_ ?_ ?_;(focus simp;done);focus (simp;done)|refine zp c5 ?_|refine i9 ?_ ?_<;>intro h<;>try simp only[i7] at h
   all_goals try clear hs
   have hno:((c.loop.links.zip c.pieces).all fun q=>H7 c q.1 q.2)=((c.loop.links.zip c.pieces).drop 0).all fun q=>H7 c q.1 q.2:=rfl
   clear c1 c2 c3 c4 c5
   generalize hA:((c.loop.links.zip c.pieces).all fun q=>H7 c q.1 q.2)=A at *
   refine i6 (ι:={ k:Nat // k≤c.loop.links.length∧A=((c.loop.links.zip c.pieces).drop k).all fun q=>H7 c q.1 q.2 }) (fun q=>⟨120,[(1,.one (.ptr 0 0)),(4,.one (.ptr 2 0)),(67,.one (.im (.sl (c.loop.links.map G3)))),(68,iv (c.loop.links.length:Int)),(69,iv (q.1:Int))],[.row ((j4 c).map .im),.vec 0 [] 0 true,.row [.im (.sl (c.p.n.reg.map g9))],.vec 1 [[.im (rI c.machine)]] 0 false,.vec 1 [[.im (rI (c.loop.links.length:Int))]] 0 false]⟩) (fun q=>c.loop.links.length-q.1) ⟨0,by simp,hno⟩ (zv [1,4,67,68,69]) ?_
   rintro⟨k,hk1,hrest⟩
   simp only[iv]
   by_cases hlt:k<c.loop.links.length
   ·have hlt2:k<c.pieces.length:=by omega
    have hw:=zk k
    have hst:=fV (f:=fun q=>H7 c q.1 q.2) hlt hlt2 (hA.trans hrest)
    rw[hA] at hst
    simp only at hst
    rw[nz hr0] at hst
    clear hno
    generalize hx:c.pieces[k]=x at *
    generalize hy:c.loop.links[k]=y at *
    have c6:=EB (G:=G) c.p.n.reg y.drawing 1 hG hk.p.n.1
    have c7:=ia (G:=G) c.p.holders (fun y=>decide (y.id=x.holder)) 156 [.ptr 0 0] [.row ((A7 x).map .im)] (by simp) (fun y _=>xO x y) (by omega)
    have c8:=N8 (G:=G) 0 3 [y.dim] (by simp)
    have c9:=N8 (G:=G) 0 14610 [x.day] (by simp)
    have c10:=bK (G:=G) x.lo x.hi 0 1000000000
    simp only[H5,D4] at c6 c10
    simp only[A7,rI,List.map_cons,List.map_nil] at c7
    generalize (c.p.holders.any fun y=>decide (y.id=x.holder))=b2 at *
    generalize ([y.dim].all fun y=>decide (0≤y)&&decide (y≤3))=b1 at *
    generalize ([x.day].all fun y=>decide (0≤y)&&decide (y≤14610))=b3 at *
    generalize V1 x.lo x.hi 0 1000000000=b4 at *
    generalize Cz c.p.n.reg y.drawing 1=e at *
    generalize atR c.p.n.reg y.drawing 1=z at *
    have hcs:(e=0∧¬ z.kind=1∧b1=true∧b2=true∧b3=true∧b4=true)∨(A=false∧((¬ e=0∧True∧True∧True∧True∧True)∨(e=0∧z.kind=1∧True∧True∧True∧True)∨(e=0∧¬ z.kind=1∧b1=false∧True∧True∧True)∨(e=0∧¬ z.kind=1∧b1=true∧b2=false∧True∧True)∨(e=0∧¬ z.kind=1∧b1=true∧b2=true∧b3=false∧True)∨(e=0∧¬ z.kind=1∧b1=true∧b2=true∧b3=true∧b4=false))):=by
     by_cases g1:e=0<;>by_cases g2:z.kind=1<;>cases b1<;>cases b2<;>cases b3<;>cases b4<;>simp_all
    have hs:True:=trivial
    rcases hcs with⟨g1,g2,g3,g4,g5,g6⟩|⟨gA,hcs⟩
    ·have hs:=za hx (za hy (za hlt (za hlt2 (za hw (za g1 (za g2 (za g3 (za g4 (za g5 g6)))))))))
     repeat' first|(with_reducible first|refine zz ?_|refine zE [0,1,2,3,4,6,7,8,9,10,11,12,17,64,67,68,69,70,118] ?_)|simp -dsimp[hs]|refine zp c6 ?_|refine CallE.embed [9] (c7) ?_ ?_ ?_ ?_ ?_ ?_;(focus simp[u7];done);(focus simp;done);(focus simp;done);(focus simp;done);(focus refine n9 ?_;simp[u7,r8];done);try simp -dsimp[n5,u7,hs]|refine zt c8 ?_ ?_ ?_;(focus simp;done);focus (simp;done)|refine zt c9 ?_ ?_ ?_;(focus simp;done);focus (simp;done)|refine zp c10 ?_|refine i9 ?_ ?_<;>intro h<;>try simp only[i7] at h
     all_goals try clear hs
     all_goals exact zn ⟨k+1,by omega,by rw[Bool.eq_iff_iff];exact hst.trans ⟨fun h=>h.2,fun h=>⟨⟨g1,g2,g3,g4,g5,g6⟩,h⟩⟩⟩ (zw [1,4,67,68,69] 5)
    ·rcases hcs with⟨g1,g2,g3,g4,g5,g6⟩|⟨g1,g2,g3,g4,g5,g6⟩|⟨g1,g2,g3,g4,g5,g6⟩|⟨g1,g2,g3,g4,g5,g6⟩|⟨g1,g2,g3,g4,g5,g6⟩|⟨g1,g2,g3,g4,g5,g6⟩
     all_goals
      have hs:=za hx (za hy (za hlt (za hlt2 (za hw (za g1 (za g2 (za g3 (za g4 (za g5 g6)))))))))
      repeat' first|(with_reducible first|refine zz ?_|refine zr ?_|refine zE [0,1,2,3,4,6,7,8,9,10,11,12,17,64,67,68,69,70,118] ?_)|simp -dsimp[hs]|refine zp c6 ?_|refine CallE.embed [9] (c7) ?_ ?_ ?_ ?_ ?_ ?_;(focus simp[u7];done);(focus simp;done);(focus simp;done);(focus simp;done);(focus refine n9 ?_;simp[u7,r8];done);try simp -dsimp[n5,u7,hs]|refine zt c8 ?_ ?_ ?_;(focus simp;done);focus (simp;done)|refine zt c9 ?_ ?_ ?_;(focus simp;done);focus (simp;done)|refine zp c10 ?_|refine i9 ?_ ?_<;>intro h<;>try simp only[i7] at h
      all_goals try clear hs
     all_goals exact gA
   ·obtain rfl:k=c.loop.links.length:=by omega
    have hA1:A=true:=by rw[hrest,List.drop_eq_nil_of_le (by rw[List.length_zip];omega)];rfl
    subst hA1
    have hs:=hlt
    repeat' first|(with_reducible first|refine zz ?_|refine zr ?_|refine zE [0,1,2,3,4,6,7,8,9,10,11,12,17,64,67,68,69,70,118] ?_)|simp -dsimp[hs]|refine i9 ?_ ?_<;>intro h<;>try simp only[i7] at h
    all_goals try clear hs
 ·have hE:v6 c=u3 c.p:=by unfold v6;rw[if_pos h0]
  rw[hE]
  have hs:=h0
  repeat' first|(with_reducible first|refine zz ?_|refine zr ?_|refine zE [0,1,2,3,4,6,7,8,9,10,11,12,17,64,67,68,69,70,118] ?_)|simp -dsimp[hs]|refine zp c1 ?_|refine i9 ?_ ?_<;>intro h<;>try simp only[i7] at h
  all_goals try clear hs
def D6 (s:Int×Int) (q:Link×Piece):Int×Int:=if q.1.back=true then (s.1-q.2.hi,s.2-q.2.lo) else (s.1+q.2.lo,s.2+q.2.hi)
def R2 (l:List (Link×Piece)):Int×Int:=l.foldl D6 (0,0)
theorem vW {l:List (Link×Piece)} {k:Nat} (h:k<l.length):R2 (l.take (k+1))=D6 (R2 (l.take k)) l[k]:=by
 unfold R2
 rw[List.take_succ_eq_append_getElem h,List.foldl_append]
 rfl
def Z6 (x:Piece):Prop:=0≤x.lo∧x.lo≤x.hi∧x.hi≤1000000000
theorem vV (l:List (Link×Piece)):∀ s:Int×Int,s.1≤s.2→(∀ q∈l,Z6 q.2)→(l.foldl D6 s).1≤(l.foldl D6 s).2∧s.1-1000000000*(l.length:Int)≤(l.foldl D6 s).1∧(l.foldl D6 s).2≤s.2+1000000000*(l.length:Int):=by
 induction l with
 | nil=>intro s h _;simp[h]
 | cons q l ih =>
   intro s h hq
   have h1:=hq q List.mem_cons_self
   unfold Z6 at h1
   have hst:(D6 s q).1≤(D6 s q).2∧s.1-1000000000≤(D6 s q).1∧(D6 s q).2≤s.2+1000000000:=by
    unfold D6
    split<;>simp only<;>omega
   have:=ih (D6 s q) hst.1 (fun y hy=>hq y (List.mem_cons_of_mem _ hy))
   rw[List.foldl_cons,List.length_cons]
   omega
theorem kM {l:List (Link×Piece)} (h:∀ q∈l,Z6 q.2):(R2 l).1≤(R2 l).2∧- (1000000000*(l.length:Int))≤(R2 l).1∧(R2 l).2≤1000000000*(l.length:Int):=by
 have:=vV l (0,0) (Int.le_refl _) h
 unfold R2
 simp only at this
 omega
structure CaseOk (c:Case):Prop where
 e:c.pieces.length=c.loop.links.length
 l:1≤c.loop.links.length∧c.loop.links.length≤8
 p:∀ q∈c.loop.links.zip c.pieces,Z6 q.2
 g:-8000000000≤c.loop.lo∧c.loop.lo≤c.loop.hi∧c.loop.hi≤8000000000
theorem O0 {c:Case} (h:aH c=true):CaseOk c:=by
 rw[T4,fh] at h
 simp only[Bool.and_eq_true,decide_eq_true_eq,V1,List.all_eq_true] at h
 obtain⟨⟨_,_,h3,h4,h5⟩,h6⟩:=h
 refine⟨h4,h3,fun q hq=>?_,by omega⟩
 have:=h6 q hq
 simp only[H7,Bool.and_eq_true,V1,decide_eq_true_eq] at this
 unfold Z6
 omega
noncomputable def bu (c:Case):Int×Int:=if v6 c=0 then R2 (c.loop.links.zip c.pieces) else (0,0)
theorem oy {c:Case} (h:CaseOk c) {k:Nat} (hk:k≤c.pieces.length):((c.loop.links.zip c.pieces).take k).length=k:=by
 rw[List.length_take,List.length_zip];have:=h.e;omega
theorem oC {c:Case} (h:CaseOk c) {k:Nat} (hk:k≤c.pieces.length):(R2 ((c.loop.links.zip c.pieces).take k)).1≤(R2 ((c.loop.links.zip c.pieces).take k)).2∧-8000000000≤(R2 ((c.loop.links.zip c.pieces).take k)).1∧(R2 ((c.loop.links.zip c.pieces).take k)).2≤8000000000:=by
 have h1:=kM (l:=(c.loop.links.zip c.pieces).take k) fun q hq=>h.p q (List.mem_of_mem_take hq)
 rw[oy h hk] at h1
 have:=h.l;have:=h.e
 omega
theorem pP {c:Case} (h:CaseOk c) {k:Nat} (h1:k<c.pieces.length) (h2:k<c.loop.links.length):R2 ((c.loop.links.zip c.pieces).take (k+1))=D6 (R2 ((c.loop.links.zip c.pieces).take k)) (c.loop.links[k],c.pieces[k]):=by
 have h3:k<(c.loop.links.zip c.pieces).length:=by rw[List.length_zip];omega
 rw[vW h3,List.getElem_zip]
theorem sg {c:Case} (h:CaseOk c) {k:Nat} (h1:k<c.pieces.length):Z6 c.pieces[k]:=by
 have h2:k<c.loop.links.length:=by have:=h.e;omega
 have h3:k<(c.loop.links.zip c.pieces).length:=by rw[List.length_zip];omega
 have:=h.p _ (List.getElem_mem h3)
 rw[List.getElem_zip] at this
 exact this
theorem BP (c:Case) (hG:q8 G) (hN:E6 G) (hS:w7 G) (hR:w9 G) (hk:KC c):zP prog G 51 [n3 c] (.tup [D4 (bu c).1 (bu c).2,iv (v6 c)]):=by
 refine zf func51 ntmps51 ?_
 try simp only[iv]
 have c1:=iu (G:=G) c hG hN hS hR hk
 simp only[n3,j4] at c1
 by_cases h0:v6 c=0
 ·have hok:=O0 (F8 h0).2
  have hE:bu c=R2 (c.loop.links.zip c.pieces):=by unfold bu;rw[if_pos h0]
  rw[hE]
  rw[h0] at c1 ⊢
  have hlen:=hok.e
  have hl8:=hok.l
  have hs:=trivial
  repeat' first|(with_reducible first|refine zz ?_|refine zE [0,1,2,3,4,5,6,7,8,9,13,17,18,19,20,36] ?_)|simp -dsimp[hs]|refine zp c1 ?_|refine i9 ?_ ?_<;>intro h<;>try simp only[i7] at h
  refine i6 (ι:={ k:Nat // k≤c.pieces.length }) (fun q=>⟨52,[(1,.one (.ptr 0 0)),(2,.one (.ptr 1 0)),(5,.one (.ptr 2 0)),(17,.one (.im (.sl (c.pieces.map A7)))),(18,iv (c.pieces.length:Int)),(19,iv (q.1:Int))],[.row ((j4 c).map .im),.row [.im (rI 0),.im (rI 0)],.row [.im (rI (R2 ((c.loop.links.zip c.pieces).take q.1)).1),.im (rI (R2 ((c.loop.links.zip c.pieces).take q.1)).2)]]⟩) (fun q=>c.pieces.length-q.1) ⟨0,by simp⟩ (zv [1,2,5,17,18,19] (by simp[R2])) ?_
  rintro⟨k,hk1⟩
  simp only[iv]
  by_cases hlt:k<c.pieces.length
  ·have hlt2:k<c.loop.links.length:=by omega
   have hw:=zk k
   have hb1:=oC hok (Nat.le_of_lt hlt)
   have hb2:=oC hok (show k+1≤c.pieces.length by omega)
   have hst:=pP hok hlt hlt2
   have hp:=sg hok hlt
   unfold Z6 at hp
   rw[hst] at hb2
   generalize hx:c.pieces[k]=x at *
   generalize hy:c.loop.links[k]=y at *
   generalize R2 ((c.loop.links.zip c.pieces).take k)=s at *
   unfold D6 at hst hb2
   cases hbk:y.back
   ·rw[if_neg (by simp[hbk])] at hst hb2
    simp only at hb2
    have hw1:IntKind.i64.wrap (s.1+x.lo)=s.1+x.lo:=p6 (by omega) (by omega)
    have hw2:IntKind.i64.wrap (s.2+x.hi)=s.2+x.hi:=p6 (by omega) (by omega)
    have hs:=za hx (za hy (za hlt (za hlt2 (za hw (za hw1 (za hw2 hbk))))))
    repeat' first|with_reducible refine zz ?_|simp -dsimp[hs]|refine zM 8 52 8 [0,1,2,3,4,5,6,7,8,9,13,17,18,19,20,36] ?_|with_reducible refine zE [0,1,2,3,4,5,6,7,8,9,13,17,18,19,20,36] ?_|refine i9 ?_ ?_<;>intro h<;>try simp only[i7] at h
    all_goals exact zn ⟨k+1,by omega⟩ (zw [1,2,5,17,18,19] 3 (by simp[hst]))
   ·rw[if_pos hbk] at hst hb2
    simp only at hb2
    have hw1:IntKind.i64.wrap (-x.hi)=-x.hi:=p6 (by omega) (by omega)
    have hw2:IntKind.i64.wrap (-x.lo)=-x.lo:=p6 (by omega) (by omega)
    have hw3:IntKind.i64.wrap (s.1 + -x.hi)=s.1-x.hi:=by rw[p6 (by omega) (by omega)];omega
    have hw4:IntKind.i64.wrap (s.2 + -x.lo)=s.2-x.lo:=by rw[p6 (by omega) (by omega)];omega
    have hs:=za hx (za hy (za hlt (za hlt2 (za hw (za hw1 (za hw2 (za hw3 (za hw4 hbk))))))))
    repeat' first|with_reducible refine zz ?_|simp -dsimp[hs]|refine zM 8 52 8 [0,1,2,3,4,5,6,7,8,9,13,17,18,19,20,36] ?_|with_reducible refine zE [0,1,2,3,4,5,6,7,8,9,13,17,18,19,20,36] ?_|refine i9 ?_ ?_<;>intro h<;>try simp only[i7] at h
    all_goals exact zn ⟨k+1,by omega⟩ (zw [1,2,5,17,18,19] 3 (by simp[hst]))
  ·obtain rfl:k=c.pieces.length:=by omega
   have hall:(c.loop.links.zip c.pieces).take c.pieces.length=c.loop.links.zip c.pieces:=List.take_of_length_le (by rw[List.length_zip];omega)
   rw[hall]
   have hs:=hlt
   repeat' first|(with_reducible first|refine zz ?_|refine zr ?_|refine zE [0,1,2,3,4,5,6,7,8,9,13,17,18,19,20,36] ?_)|simp -dsimp[hs]|refine i9 ?_ ?_<;>intro h<;>try simp only[i7] at h
 ·have hE:bu c=(0,0):=by unfold bu;rw[if_neg h0]
  rw[hE]
  have hs:=h0
  repeat' first|(with_reducible first|refine zz ?_|refine zr ?_|refine zE [0,1,2,3,4,5,6,7,8,9,13,17,18,19,20,36] ?_)|simp -dsimp[hs]|refine zp c1 ?_|refine i9 ?_ ?_<;>intro h<;>try simp only[i7] at h
def qQ (c:Case) (s:Int×Int):Int:=if s.2<c.loop.lo∨s.1 > c.loop.hi then 0 else if c.loop.lo≤s.1∧s.2≤c.loop.hi then 2 else 1
noncomputable def cN (c:Case):Int:=if v6 c=0 then qQ c (bu c) else 0
theorem Bd {c:Case} {s:Int×Int} (h:s.1≤s.2):V1 s.1 s.2 c.loop.lo c.loop.hi=decide (c.loop.lo≤s.1∧s.2≤c.loop.hi):=by
 unfold V1
 rw[decide_eq_decide]
 omega
theorem vC (c:Case) (hG:q8 G) (hN:E6 G) (hS:w7 G) (hR:w9 G) (hk:KC c):zP prog G 52 [n3 c] (.tup [yI (cN c),iv (v6 c)]):=by
 refine zf func52 ntmps52 ?_
 try simp only[iv]
 have c1:=BP (G:=G) c hG hN hS hR hk
 simp only[n3,j4,D4] at c1
 by_cases h0:v6 c=0
 ·have hok:=O0 (F8 h0).2
  have hE:cN c=qQ c (bu c):=by unfold cN;rw[if_pos h0]
  have hS:bu c=R2 (c.loop.links.zip c.pieces):=by unfold bu;rw[if_pos h0]
  have hle:(bu c).1≤(bu c).2:=by rw[hS];exact(kM hok.p).1
  have c2:=bK (G:=G) (bu c).1 (bu c).2 c.loop.lo c.loop.hi
  rw[Bd (c:=c) (s:=bu c) hle] at c2
  rw[hE]
  rw[h0] at c1 ⊢
  unfold qQ
  generalize bu c=s at *
  simp only[D4] at c2
  by_cases h1:s.2<c.loop.lo∨s.1 > c.loop.hi
  ·rw[if_pos h1]
   by_cases h2:s.2<c.loop.lo
   ·have hs:=h2
    repeat' first|(with_reducible first|refine zz ?_|refine zr ?_|refine zE [0,1,2,3,4,5,6,15,33] ?_)|simp -dsimp[hs]|refine zp c1 ?_|refine i9 ?_ ?_<;>intro h<;>try simp only[i7] at h
   ·have h3:c.loop.hi<s.1:=by omega
    have hs:=za h2 h3
    repeat' first|(with_reducible first|refine zz ?_|refine zr ?_|refine zE [0,1,2,3,4,5,6,15,33] ?_)|simp -dsimp[hs]|refine zp c1 ?_|refine i9 ?_ ?_<;>intro h<;>try simp only[i7] at h
  ·rw[if_neg h1]
   have h2:¬ s.2<c.loop.lo:=by omega
   have h3:¬ c.loop.hi<s.1:=by omega
   by_cases h4:c.loop.lo≤s.1∧s.2≤c.loop.hi
   ·rw[if_pos h4]
    rw[decide_eq_true h4] at c2
    have hs:=za h2 h3
    repeat' first|(with_reducible first|refine zz ?_|refine zr ?_|refine zE [0,1,2,3,4,5,6,15,33] ?_)|simp -dsimp[hs]|refine zp c1 ?_|refine zp c2 ?_|refine i9 ?_ ?_<;>intro h<;>try simp only[i7] at h
   ·rw[if_neg h4]
    rw[decide_eq_false h4] at c2
    have hs:=za h2 h3
    repeat' first|(with_reducible first|refine zz ?_|refine zr ?_|refine zE [0,1,2,3,4,5,6,15,33] ?_)|simp -dsimp[hs]|refine zp c1 ?_|refine zp c2 ?_|refine i9 ?_ ?_<;>intro h<;>try simp only[i7] at h
 ·have hE:cN c=0:=by unfold cN;rw[if_neg h0]
  rw[hE]
  have hs:=h0
  repeat' first|(with_reducible first|refine zz ?_|refine zr ?_|refine zE [0,1,2,3,4,5,6,15,33] ?_)|simp -dsimp[hs]|refine zp c1 ?_|refine i9 ?_ ?_<;>intro h<;>try simp only[i7] at h
end Go.Proofs
