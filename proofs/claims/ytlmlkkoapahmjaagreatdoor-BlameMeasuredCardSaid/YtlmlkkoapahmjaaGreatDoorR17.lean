/- Part 17 of the proofs. -/
import Derived.Test.YtlmlkkoapahmjaaGreatDoorR08
import Derived.Test.YtlmlkkoapahmjaaGreatDoorR09
import Derived.Test.YtlmlkkoapahmjaaGreatDoorR14
import Derived.Test.YtlmlkkoapahmjaaGreatDoorR15
import Derived.Test.YtlmlkkoapahmjaaGreatDoorR16
set_option linter.all false
set_option maxHeartbeats 100000000
namespace Go.Proofs
open Go Go.Ab Tryz
variable {G:LY}
def Gu (x:Print) (d:Int):Bool:=decide (x.day<=d) && !(!decide (x.back=-1)&&decide (x.back<=d)) && !decide (x.lost=2)
def tj (d i w:Int) (x:Print):Bool:=Gu x d&&(decide (x.holder=i)&&decide (x.drawing=w))
def az (d i w:Int) (l:List Print):List Int:=(l.filter λx=>tj d i w x&&decide (x.lost=1)).map (·.letter)
def bP (d i w:Int) (l:List Print):Int:=(l.filter λx=>tj d i w x && !decide (x.lost=1)).foldl (λa x=>max a x.letter) 0
theorem IE (b:IC) (n:Int):zP prog G 147 [.one (.im b),iv n] (.one (.im (.fn (.func 192) [.ip [b],.ip [rI n]]))):=by
 refine zf func147 ntmps147 ?_;try simp only[iv]
 repeat' first|(with_reducible first|refine zz ?_|refine zx ?_|refine zE [0,1,2,3,4] ?_)|simp -dsimp
def bp (d i w:Int) (l:List Print):List Int:=(s7 (l6 (az d i w l++[bP d i w l]))).drop (J1 (λx=>decide (bP d i w l=x)) (s7 (l6 (az d i w l++[bP d i w l])))).toNat
theorem wS (d i w:Int) {l:List Print} {k:Nat} (h:k<l.length):az d i w (l.take (k+1))=az d i w (l.take k)++(if (tj d i w l[k]&&decide (l[k].lost=1))=true then [l[k].letter] else []):=by
 unfold az;rw[List.take_succ_eq_append_getElem h,List.filter_append,List.map_append]
 congr 1
 split<;>simp_all
theorem ww (d i w:Int) {l:List Print} {k:Nat} (h:k<l.length):bP d i w (l.take (k+1))=if (tj d i w l[k] && !decide (l[k].lost=1))=true then max (bP d i w (l.take k)) l[k].letter else bP d i w (l.take k):=by
 unfold bP;rw[List.take_succ_eq_append_getElem h,List.filter_append,List.foldl_append];split<;>simp_all
theorem rN {α:Type} (q:α->Bool) (l:List α):J1 q l<l.length\/l=[]:=by
 unfold J1;split
 ·rename_i j h;rw[List.findIdx?_eq_some_iff_getElem] at h;obtain⟨hlt,_⟩:=h;left;omega
 ·cases l with
  | nil=>exact .inr rfl
  | cons a r=>left;simp;omega
theorem lL (d i w:Int) (l:List Print):(az d i w l).length<=l.length:=by
 unfold az;rw[List.length_map];exact List.length_filter_le _ _
@[simp] abbrev QO:List Nat:=[0,1,2,3,4,5,6,7,8,9,10,11,12,13,14,16,18,29,32,46]
theorem CY (p:Prints) (d i w:Int) (hS:v8 G) (hl:p.prints.length<900):zP prog G 90 [.one (.im (l8 p)),iv d,iv i,iv w] (v6 (bp d i w p.prints)):=by
 refine zf func90 ntmps90 ?_;try simp only[iv,iv,iv]
 simp only[l8];have c1:=IE (G:=G) (l8 p) d;simp only[l8] at c1;have hs:=trivial;repeat' first|(with_reducible first|refine zz ?_|refine zE [0,1,2,3,6,7,8,9,10,12,13,16,18,29,32] ?_)|simp -dsimp[hs]|refine zp c1 ?_
 all_goals try clear hs
 refine U6 (f:=192) (by simp;exact rfl) (by rfl) call192 ?_;generalize hR:LoopD.mk _ _ _ _ _ _ _=R;have hR1:R.st=.ready:=by rw[<- hR]
 have hR2:R.pend=none:=by rw[<- hR]
 have hR3:R.at .ready none=R:=by rw[<- hR];rfl
 have hR4:=(congrArg LoopD.nt hR).symm;have hR5:=(congrArg LoopD.tm hR).symm;have hR6:=(congrArg LoopD.ps hR).symm;have hR7:=(congrArg LoopD.asg hR).symm;have hR8:=(congrArg LoopD.body hR).symm;dsimp only at hR4 hR5 hR6 hR7 hR8;clear hR;refine g9 func192 rfl ntmps192 (by simp) rfl ?_;have hR9:∀ objs:List DObj,(R.tm.map λx=>(x.1,gf 7 objs x.2))=R.tm:=by intro objs;rw[hR5];simp
 have hs:=za hR1 (za hR2 hR3);repeat' first|(with_reducible first|refine zz ?_|refine zE QO ?_)|simp -dsimp[hs]
 all_goals try clear hs
 refine i6 (ι:={ q:Nat×Nat×Nat×Bool // q.1<=p.prints.length/\(q.2.2.1=1\/q.2.2.2=true/\az d i w (p.prints.take q.1)=[]) }) (λq=>⟨48,[(0,.one (.yld 6)),(2,.one (.im (.ip [rI d]))),(11,.one (.im (.sl (p.prints.map A6)))),(12,iv (p.prints.length:Int)),(13,iv (q.1.1:Int))],[.row [.im (rI i)],.row [.im (rI w)],.vec 1 [] 0 true,.row [.im (rI (bP d i w (p.prints.take q.1.1)))],.vec q.1.2.2.1 (n3 ((az d i w (p.prints.take q.1.1)).map encI)) q.1.2.1 q.1.2.2.2,.row [.vec 4 q.1.2.1 0 (az d i w (p.prints.take q.1.1)).length],.loop R]⟩) (λq=>p.prints.length-q.1.1) ⟨(0,0,0,true),by simp[az]⟩ (zv [0,2,11,12,13] (by simp[az,bP])) ?_;rintro⟨⟨k,g,sz,nl⟩,hk,hz⟩;simp only at hk hz;simp only[iv];by_cases hlt:k<p.prints.length
 ·have hw:=zk k;have hst1:=wS d i w hlt;have hst2:=ww d i w hlt;have hpl:=lL d i w (p.prints.take k);rw[List.length_take] at hpl;have hz':sz=1\/nl=true:=hz.imp id And.left;generalize hx:p.prints[k]=x at *;cases hsel:tj d i w x
  ·rw[hsel] at hst1 hst2;simp only[Bool.false_and,Bool.false_eq_true,if_false,List.append_nil] at hst1 hst2;simp only[tj,Gu] at hsel;simp at hsel;have hz2:sz=1\/nl=true/\az d i w (p.prints.take (k+1))=[]:=by rw[hst1];exact hz
   clear c1;have hs:=za hR1 (za hR2 (za hR3 (za hx (za hlt (za hw hz')))));repeat' first|(with_reducible first|refine zz ?_|refine And.intro (by omega) ?_|refine zE QO ?_)|simp -dsimp[hs]|with_reducible refine At.yield_end ?_;simp -dsimp[hs]|refine bn ?_ ?_<;>simp -dsimp[hs]|refine R7 ?_;simp -dsimp[U3,hR4,hR5,hR6,hR7,hR8,hs]|refine i8 ?_ ?_<;>intro h<;>try exact h.elim|with_reducible refine j0 ?_ ?_<;>intro h<;>have h0:=h<;>(try simp only[i7] at h)<;>have h2:=h<;>(try simp at h2)<;>replace hs:=za h0 (za h (za h2 hs))
   all_goals try clear hs
   all_goals first
    | (exfalso;omega)
    | exact zn ⟨(k+1,g,sz,nl),by simp only;omega,hz2⟩ (zw [0,2,11,12,13] 7 (by simp[hst1,hst2,hR9]))
  ·rw[hsel] at hst1 hst2;simp only[Bool.true_and] at hst1 hst2;have hq:=hsel;simp only[tj,Gu] at hq;simp at hq;obtain⟨⟨⟨q1,q2⟩,q3⟩,q4,q5⟩:=hq;have hbk:((x.back=-1)/\True)\/(¬ x.back=-1/\¬ x.back<=d):=by
    by_cases hb:x.back=-1
    ·exact .inl ⟨hb,trivial⟩
    ·exact .inr ⟨hb,by omega⟩
   clear hsel q2 c1;have hs:True:=trivial;by_cases hl1:x.lost=1
   ·simp only[hl1,decide_true,if_true,Bool.not_true,Bool.false_eq_true,if_false] at hst1 hst2;rcases hbk with⟨hb1,hb2⟩|⟨hb1,hb2⟩
    all_goals
     have hs:=za hR1 (za hR2 (za hR3 (za hx (za hlt (za hw (za hz' (za q1 (za q3 (za q4 (za q5 (za hb1 (za hb2 hl1))))))))))));repeat' first|(with_reducible first|refine zz ?_|refine And.intro (by omega) ?_|refine zE QO ?_)|simp -dsimp[hs]|with_reducible refine At.yield_end ?_;simp -dsimp[hs]|refine bn ?_ ?_<;>simp -dsimp[hs]|refine R7 ?_;simp -dsimp[U3,hR4,hR5,hR6,hR7,hR8,hs]|refine i8 ?_ ?_<;>intro h<;>try exact h.elim
     all_goals try clear hs
    all_goals exact zn ⟨(k+1,g+1,1,false),by simp only;omega,.inl rfl⟩ (zw [0,2,11,12,13] 7 (by simp[hst1,hst2,hR9]))
   ·simp only[hl1,decide_false,Bool.false_eq_true,if_false,List.append_nil,Bool.not_false,if_true] at hst1 hst2;have hz2:sz=1\/nl=true/\az d i w (p.prints.take (k+1))=[]:=by rw[hst1];exact hz
    rcases hbk with⟨hb1,hb2⟩|⟨hb1,hb2⟩
    all_goals
     have hs:=za hR1 (za hR2 (za hR3 (za hx (za hlt (za hw (za hz' (za q1 (za q3 (za q4 (za q5 (za hb1 (za hb2 hl1))))))))))));repeat' first|(with_reducible first|refine zz ?_|refine zE QO ?_)|simp -dsimp[hs]|with_reducible refine At.yield_end ?_;simp -dsimp[hs]|refine bn ?_ ?_<;>simp -dsimp[hs]|refine R7 ?_;simp -dsimp[U3,hR4,hR5,hR6,hR7,hR8,hs]|refine i8 ?_ ?_<;>intro h<;>try exact h.elim
     all_goals try clear hs
    all_goals exact zn ⟨(k+1,g,sz,nl),by simp only;omega,hz2⟩ (zw [0,2,11,12,13] 7 (by simp[hst1,hst2,hR9]))
 ·obtain rfl:k=p.prints.length:=by omega
  rw[List.take_length] at *;have hz':sz=1\/nl=true:=hz.imp id And.left;have hpl:=lL d i w p.prints;clear c1;have hs:=za hR1 (za hR2 (za hR3 (za hlt hz')));repeat' first|(with_reducible first|refine zz ?_|refine And.intro (by omega) ?_|refine ze ?_ (by simp -dsimp[D4,hs];exact rfl)|refine zE QO ?_)|simp -dsimp[D4,hs]|with_reducible show D4 _ _ _ _ _ _ _ _;simp -dsimp[D4,hs]|refine i8 ?_ ?_<;>intro h<;>try exact h.elim
  all_goals try clear hs
  obtain⟨L,hL1⟩:∃ L,L=az d i w p.prints++[bP d i w p.prints]:=⟨_,rfl⟩
  have hE:bp d i w p.prints=(s7 (l6 L)).drop (J1 (λx=>decide (bP d i w p.prints=x)) (s7 (l6 L))).toNat:=by rw[hL1];rfl
  have hv:bP d i w p.prints∈L:=by rw[hL1];simp
  generalize bP d i w p.prints=v at *;have hLn:(az d i w p.prints).length+1=L.length:=by rw[hL1];simp
  have hLi:n3 ((az d i w p.prints).map encI)++[[DC.im (IC.raw (Value.int .i64 v))]]=n3 (L.map encI):=by rw[hL1];simp[cR,n3]
  rw[hE];clear hL1 hE;generalize az d i w p.prints=Q at *;have c1:=hS L (g+1) 1 false (.inl rfl) (by omega);have hil:=O1 L;have c2:=oD (G:=G) (l6 L) (g+1) (by omega);have hdl:=aR (l6 L);rw[hil] at c2;have c3:=rG (G:=G) (s7 (l6 L)) v (by omega);have hs:True:=trivial;rw[hLi];simp only[hLn];have hs:=za hR1 (za hR2 (za hR3 (za hlt (za hLn hLi))));repeat' first|(with_reducible first|refine zz ?_|refine zE QO ?_)|simp -dsimp[hs]|refine CallE.embed [4] (c1) ?_ ?_ ?_ ?_ ?_ ?_;(focus simp[u7];done);(focus simp;done);(focus simp;done);(focus simp;done);(focus refine o9 ?_;simp[u7,r9];done);try simp -dsimp[o6,u7,hs]|refine CallE.embed_ex [4] (c2) ?_ ?_ ?_ ?_ ?_ ?_;(focus simp[u7];done);(focus simp;done);(focus simp;done);(focus simp;done);(focus refine o9 ?_;simp[u7,r9];done);intro mma hmma;try simp -dsimp[o6,u7,hs]
  all_goals try clear hs
  obtain⟨ha1,ha2⟩:=hmma;clear c1 c2;generalize hD:s7 (l6 L)=D at *;have hdm:D.length<=mma.length:=by omega
  have hfi:=rN (λx=>decide (v=x)) D;have hvd:D.any (λx=>decide (v=x))=true:=by
   rw[List.any_eq_true];refine⟨v,?_,by simp⟩;rw[<- hD,gk];exact isort_mem.2 hv
  rw[<- B6] at hvd;have hf0:0<=J1 (λx=>decide (v=x)) D:=of_decide_eq_true hvd;obtain⟨f,hf⟩:=Int.eq_ofNat_of_zero_le hf0;rw[hf] at c3 hfi;have hfd:f<=D.length:=by
   rcases hfi with h|h
   ·omega
   ·rw[h] at hf;simp[J1] at hf
  rw[hf,Int.toNat_natCast];have htk:(n3 (mma.map encI)).take D.length=n3 (D.map encI):=by rw[show (n3 (mma.map encI)).take D.length=n3 ((mma.map encI).take D.length) by simp[n3,List.map_take],<- List.map_take,ha2]
  have hs:True:=trivial;all_goals try simp -dsimp[hR1,hR2,hR3,htk,hdm,hfd,ha1,hs]
  all_goals try clear hs
  have hdL:D.length<=L.length:=by omega
  have htd:List.take (D.length-f) (List.drop f (n3 (mma.map encI)))=n3 ((D.drop f).map encI):=by
   rw[<- List.drop_take,htk];simp[n3,List.map_drop]
  refine CallE.thaw c3 ?_ ?_ ?_
  ·simp[htk,hdm,hfd,ha1,hdL]
  ·simp
  simp -dsimp[htk,hdm,hfd,ha1];have hs:=za hR1 (za hR2 (za hR3 (za htk (za hdm (za hfd (za ha1 (za hdL htd)))))));repeat' first|(with_reducible first|refine zz ?_|refine zr ?_)|simp -dsimp[hs]
  all_goals try clear hs
attribute [simp] u6 A5
noncomputable def O4 (p:Prints) (d i w:Int):List Int:=if U2 p d 1 i w=0 then bp d i w p.prints else []
theorem Am (p:Prints) (d i w:Int) (hG:p8 G) (hN:E5 G) (hS:v8 G) (hR:A0 G) (hk:KP p):zP prog G 45 [C9 p,iv d,iv i,iv w] (.tup [v6 (O4 p d i w),iv (U2 p d 1 i w)]):=by
 refine zf func45 ntmps45 ?_;try simp only[iv,iv,iv]
 have c1:=Ap p d 1 i w hG hN hS hR hk;have c2:=CY p d i w hS (by have:=hk.p.q;omega);by_cases h0:U2 p d 1 i w=0
 ·have hW:O4 p d i w=bp d i w p.prints:=by unfold O4;rw[if_pos h0]
  simp only[eE,h0,if_true] at c1;rw[hW,h0];simp only[l8] at c1 c2;have c1':=c1 [];simp only[C9,o8,v6,iv,List.map_cons,List.map_nil,encI,rI] at c1';have hs:=trivial;repeat' first|(with_reducible first|refine zz ?_|refine zr ?_|refine zE [0,1,2,3,4,8,9,10,11,22] ?_)|simp -dsimp[hs]|refine CallE.freeze 0 c1' ?_ ?_ ?_ ?_ ?_ ?_;(focus simp;done);(focus simp;done);(focus simp;done);(focus rfl);(focus simp;done);try simp -dsimp[u6]|refine zp c2 ?_|refine i8 ?_ ?_<;>intro h<;>try exact h.elim
 ·have hW:O4 p d i w=[]:=by unfold O4;rw[if_neg h0]
  simp only[eE,h0,if_false] at c1;rw[hW];have c1':=c1 [];simp only[C9,o8,v6,iv,List.map_cons,List.map_nil,encI,rI] at c1';have hs:=h0;repeat' first|(with_reducible first|refine zz ?_|refine zr ?_|refine zE [0,1,2,3,4,8,9,10,11,22] ?_)|simp -dsimp[hs]|refine CallE.freeze 0 c1' ?_ ?_ ?_ ?_ ?_ ?_;(focus simp;done);(focus simp;done);(focus simp;done);(focus rfl);(focus simp;done);try simp -dsimp[u6]|refine i8 ?_ ?_<;>intro h<;>try exact h.elim
open Go Go.Ab
def FQ:Dim:=⟨0,0,0⟩
def V0 (c:Chains) (x:Link):Dim:=((u9 c.reg c.lets x.drawing).dims[x.dim.toNat]?).getD FQ
structure OkC (c:Chains):Prop where
 reg:j8 c.reg=0
 lets:A1 c.reg c.lets=true
 of:c.of∈nums c.reg
 num:1<=c.loops.length/\c.loops.length<=6
 gap:∀ x∈c.loops,x.links.length<=8/\sk x=true
 link:∀ x∈c.loops,∀ y∈x.links,y.drawing∈nums c.reg/\0<=y.dim/\y.dim<(u9 c.reg c.lets y.drawing).dims.length
def bx (c:Chains) (x:ChLoop):List Dim:=x.links.map (V0 c)
def Q5 (high:Bool) (x:Link) (d:Dim):Int:=if high != x.back then d.upper else d.lower
def mY (x:Link) (n:Int):Int:=if x.back then -n else n
def rR (links:List Link) (l:List Dim) (high:Bool):List Int:=(links.zip l).map λp=>Q5 high p.1 p.2
def du (links:List Link) (l:List Dim) (high:Bool):Int:=(links.zip l).foldl (λs p=>s+mY p.1 (Q5 high p.1 p.2)) 0
theorem mt {c:Chains} (h:OkC c) {x:ChLoop} (hx:x∈c.loops) {y:Link} (hy:y∈x.links):J9 (V0 c y)=true/\(u9 c.reg c.lets y.drawing).dims[y.dim.toNat]?=some (V0 c y):=by
 obtain⟨h1,h2,h3⟩:=h.link x hx y hy;obtain⟨hm,_⟩:=eJ h.reg h.lets h1;have hok:=(P0 (M9 (J3 h.reg))).2.2.2.1 _ hm;have hlt:y.dim.toNat<(u9 c.reg c.lets y.drawing).dims.length:=by omega
 have he:(u9 c.reg c.lets y.drawing).dims[y.dim.toNat]?=some (u9 c.reg c.lets y.drawing).dims[y.dim.toNat]:=by simp[hlt]
 have hd:V0 c y=(u9 c.reg c.lets y.drawing).dims[y.dim.toNat]:=by rw[V0,he,Option.getD_some]
 simp only[o5,Bool.and_eq_true] at hok;rw[hd];exact⟨List.all_eq_true.1 hok.2 _ (List.getElem_mem hlt),he⟩
def er (l:List Itm) (d:Int):Int:=match l with
 | []=>0
 | y :: r=>if y.drawing=d then y.count else er r d
theorem EJ {high:Bool} {x:Link} {d:Dim} (h:J9 d=true):0<=Q5 high x d/\Q5 high x d<=1000000000:=by
 have:=(an d).1 h;unfold Q5;split<;>omega
theorem Ga {high:Bool} {x:Link} {d:Dim} (h:J9 d=true):-1000000000<=mY x (Q5 high x d)/\mY x (Q5 high x d)<=1000000000:=by
 have:=EJ (high:=high) (x:=x) h;unfold mY;split<;>omega
theorem qH {c:Chains} (h:OkC c) {n:Nat} (hn:n<c.loops.length):(bx c c.loops[n]).length=c.loops[n].links.length/\∀ d∈bx c c.loops[n],J9 d=true:=by
 refine⟨by simp[bx],λd hd=>?_⟩;obtain⟨y,hy,rfl⟩:=List.mem_map.1 hd;exact(mt h (List.getElem_mem hn) hy).1
theorem oB (c:Chains):∃ X,bh c=.one (.im X):=by unfold bh;split<;>exact⟨_,rfl⟩
def F3 (c:Chains) (n:Int):Int:=if B7 c≠0 then B7 c else if 0<=n/\n<c.loops.length then 0 else 2
@[simp] abbrev WM:List Nat:=[0,1,2,4,5,6,7,24]
theorem Ea (c:Chains) (n:Int) (hG:p8 G) (hC:K5 G) (hs:mT c):zP prog G 185 [CU c,iv n] (.tup [bh c,iv (F3 c n)]):=by
 refine zf func185 ntmps185 ?_;try simp only[CU,iv]
 have c1:=BV c hG hC hs;have hl:=hs.2.2.1;have hw:IntKind.i64.wrap ((c.loops.length:Int)-1)=(c.loops.length:Int)-1:=o7 (by omega) (by omega);have c2:=cg (G:=G) 0 ((c.loops.length:Int)-1) [n] (by simp);have hE:F3 c n=if B7 c≠0 then B7 c else if 0<=n/\n<c.loops.length then 0 else 2:=rfl;obtain⟨X,hX⟩:=oB c;rw[hX];rw[hX] at c1;by_cases h0:B7 c=0
 ·rw[h0] at c1 hE;by_cases hr:0<=n/\n<c.loops.length
  ·have hq:([n].all λx=>decide (0<=x)&&decide (x<=(c.loops.length:Int)-1))=true:=by simp;omega
   rw[hq] at c2;have hs:=hw;repeat' first|(with_reducible first|refine zz ?_|refine zr ?_|refine zE WM ?_)|simp -dsimp[hs]|refine zp c1 ?_|refine zt c2 ?_ ?_ ?_;(focus simp;done);focus (simp;done)|refine i8 ?_ ?_<;>intro h<;>try exact h.elim
   all_goals try clear hs
   simp[hE,hr]
  ·have hq:([n].all λx=>decide (0<=x)&&decide (x<=(c.loops.length:Int)-1))=false:=by simp;omega
   rw[hq] at c2;have hs:=hw;repeat' first|(with_reducible first|refine zz ?_|refine zr ?_|refine zE WM ?_)|simp -dsimp[hs]|refine zp c1 ?_|refine zt c2 ?_ ?_ ?_;(focus simp;done);focus (simp;done)|refine i8 ?_ ?_<;>intro h<;>try exact h.elim
   all_goals try clear hs
   simp[hE,hr]
 ·have hs:=h0;repeat' first|(with_reducible first|refine zz ?_|refine zr ?_|refine zE WM ?_)|simp -dsimp[hs]|refine zp c1 ?_|refine i8 ?_ ?_<;>intro h<;>try exact h.elim
  all_goals try clear hs
  simp[hE,h0]
theorem DP (d k:Int):zP prog G 188 [E0 d k] (bv false):=by
 refine zf func188 ntmps188 ?_;try simp only[E0]
 repeat' first|(with_reducible first|refine zz ?_|refine zx ?_|refine zE [0,2] ?_)|simp -dsimp
theorem FY (x:Link):zP prog G 236 [AT x] (E0 x.drawing x.dim):=by
 refine zf func236 ntmps236 ?_;try simp only[AT]
 repeat' first|(with_reducible first|refine zz ?_|refine zx ?_|refine zE [0,1,2] ?_)|simp -dsimp
def fR:IC:=.fn (.func 188) []
@[simp] abbrev Ww:List Nat:=[0,1,2,3,8,9,11,12,21,22,23,24,42]
theorem Aq (c:Chains) (D:List (Int×Int)) (n:Nat) (hn:n<c.loops.length) (h:OkC c):zP prog G 187 [.one (.im (K8 c D (br c.reg c.lets))),iv (n:Int),iv 0,.one (.im fR)] (.one (.im (.sl ((bx c c.loops[n]).map D5)))):=by
 refine zf func187 ntmps187 ?_;try simp only[iv,iv]
 have hx:c.loops[n]?=some c.loops[n]:=by simp[hn]
 have hln:=h.gap c.loops[n] (List.getElem_mem hn);have hok:=λy hy=>mt h (List.getElem_mem hn) (y:=y) hy;have hlk:=h.link c.loops[n] (List.getElem_mem hn);have hE:bx c c.loops[n]=c.loops[n].links.map (V0 c):=rfl;simp only[K8,fR];have hs:=za hx hn;repeat' first|(with_reducible first|refine zz ?_|refine zE Ww ?_)|simp -dsimp[hs]
 generalize hls:c.loops[n].links=ls at *;refine i6 (ι:={ p:Nat×Nat×Bool×List Dim // p.1<=ls.length/\p.2.2.2=(ls.take p.1).map (V0 c) }) (λp=>⟨52,[(0,.one (.im (K8 c D (br c.reg c.lets)))),(2,iv 0),(3,.one (.im fR)),(9,.one (.vec 1 p.1.2.1 0 p.1.2.2.2.length)),(21,.one (.im (.sl (ls.map H2)))),(22,iv (ls.length:Int)),(23,iv (p.1.1:Int))],[.vec 3 [] 0 true,.vec 3 (n3 (p.1.2.2.2.map D5)) p.1.2.1 p.1.2.2.1]⟩) (λp=>ls.length-p.1.1) ⟨(0,0,true,[]),by simp⟩ (zv [0,2,3,9,21,22,23] (by simp[K8,fR])) ?_;rintro⟨⟨k,g,nl,out⟩,hk,ho⟩;simp only at hk ho;simp only[iv,K8,fR];have hol:out.length=k:=by rw[ho];simp;omega
 by_cases hlt:k<ls.length
 ·have hy:ls[k]?=some ls[k]:=by simp[hlt]
  have hw:=zk k;obtain⟨l1,l2,l3⟩:=hlk ls[k] (List.getElem_mem hlt);obtain⟨_,he⟩:=hok ls[k] (List.getElem_mem hlt);have hlook:K3 (br c.reg c.lets) ls[k].drawing=u9 c.reg c.lets ls[k].drawing:=by rw[br,V7,if_pos l1]
  obtain⟨j,hj⟩:∃ j:Nat,ls[k].dim=j:=⟨ls[k].dim.toNat,by omega⟩
  rw[hj,Int.toNat_natCast] at he;have hjl:=e7 he;have hje:=(List.getElem?_eq_some_iff.1 he).2;have c2:=FY (G:=G) ⟨ls[k].drawing,j,ls[k].back⟩;have c3:=DP (G:=G) ls[k].drawing j;simp only[E0] at c2 c3;have hon:out++[V0 c ls[k]]=(ls.take (k+1)).map (V0 c):=by rw[List.take_succ_eq_append_getElem hlt,List.map_append,ho];rfl
  have hs:=za hy (za hw (za hlt (za hlook (za hj (za hjl (za he hje))))));repeat' first|(with_reducible first|refine zz ?_|refine And.intro (by omega) ?_)|simp -dsimp[hs]|refine zp c2 ?_|refine zp c3 ?_|refine F8 (id:=5) (nt:=52) 13 [] [0,1,2,3,8,9,11,12,21,22,23,24,27,28,29,30,31,32,33,34,35,36,37,38,42] Ww mixed rfl (by kernel_rfl) ?_|with_reducible refine zE Ww ?_|refine i8 ?_ ?_<;>intro h<;>try exact h.elim
  all_goals try omega
  exact zn ⟨(k+1,g+1,false,out++[V0 c ls[k]]),by omega,hon⟩ (zw [0,2,3,9,21,22,23] 2 (by simp[K8,fR]))
 ·have hs:=hlt;repeat' first|(with_reducible first|refine zz ?_|refine zr ?_|refine zE Ww ?_)|simp -dsimp[hs]|refine i8 ?_ ?_<;>intro h<;>try exact h.elim
  all_goals try omega
  rw[hE,ho,List.take_of_length_le (by omega)]
@[simp] abbrev QP:List Nat:=[0,1,2,3,8,9,10,11,12,13,14,15,24,25,26,27,37,41]
@[simp] abbrev Wx:List Nat:=[2,3,10,11,24,25,26]
theorem Aw (c:Chains) (D:List (Int×Int)) (B:List (Int×Issue)) (n:Nat) (hn:n<c.loops.length) (l:List Dim) (high:Bool) (hl:c.loops[n].links.length<=12) (he:l.length=c.loops[n].links.length) (hd:∀ d∈l,J9 d=true):zP prog G 235 [.one (.im (K8 c D B)),iv (n:Int),.one (.im (.sl (l.map D5))),bv high] (.tup [v6 (rR c.loops[n].links l high),iv (du c.loops[n].links l high)]):=by
 refine zf func235 ntmps235 ?_;try simp only[iv,bv]
 have hxn:c.loops[n]?=some c.loops[n]:=by simp[hn]
 simp only[K8];have hs:=za hxn hn;repeat' first|(with_reducible first|refine zz ?_|refine zE QP ?_)|simp -dsimp[hs]
 all_goals try clear hs
 generalize c.loops[n].links=ls at *;refine i6 (ι:={ p:Nat×Nat×Bool×List Int×Int // p.1<=ls.length/\p.2.2.2.1.length=p.1/\rR ls l high=p.2.2.2.1++((ls.zip l).drop p.1).map (λq=>Q5 high q.1 q.2)/\du ls l high=((ls.zip l).drop p.1).foldl (λs q=>s+mY q.1 (Q5 high q.1 q.2)) p.2.2.2.2/\-1000000000*(p.1:Int)<=p.2.2.2.2/\p.2.2.2.2<=1000000000*(p.1:Int) }) (λp=>⟨59,[(2,.one (.im (.sl (l.map D5)))),(3,bv high),(10,iv p.1.2.2.2.2),(11,.one (.vec 1 p.1.2.1 0 p.1.2.2.2.1.length)),(24,.one (.im (.sl (ls.map H2)))),(25,iv (ls.length:Int)),(26,iv (p.1.1:Int))],[.vec 1 [] 0 true,.vec 1 (n3 (p.1.2.2.2.1.map encI)) p.1.2.1 p.1.2.2.1]⟩) (λp=>ls.length-p.1.1) ⟨(0,0,true,[],0),by simp[rR,du]⟩ (zv [2,3,10,11,24,25,26]) ?_;rintro⟨⟨k,g,nl,out,s⟩,hk,hol,ho,hs,hb1,hb2⟩;simp only at hk hol ho hs hb1 hb2;simp only[iv,bv];by_cases hlt:k<ls.length
 ·have hkl:k<l.length:=by omega
  have hx:ls[k]?=some ls[k]:=by simp[hlt]
  have hy:l[k]?=some l[k]:=by simp[hkl]
  have hw:=zk k;have hz:k<(ls.zip l).length:=by simp;omega
  rw[List.drop_eq_getElem_cons hz,List.getElem_zip,List.map_cons] at ho;rw[List.drop_eq_getElem_cons hz,List.getElem_zip,List.foldl_cons] at hs;have hdk:=hd l[k] (List.getElem_mem hkl);have hdl:=(an _).1 hdk;have hsb:=Ga (high:=high) (x:=ls[k]) hdk;have hws:IntKind.i64.wrap (s+mY ls[k] (Q5 high ls[k] l[k]))=s+mY ls[k] (Q5 high ls[k] l[k]):=o7 (by omega) (by omega);have hon:rR ls l high=(out++[Q5 high ls[k] l[k]])++((ls.zip l).drop (k+1)).map (λq=>Q5 high q.1 q.2):=by rw[ho];simp
  have hwl:IntKind.i64.wrap (-l[k].lower)=-l[k].lower:=o7 (by omega) (by omega);have hwu:IntKind.i64.wrap (-l[k].upper)=-l[k].upper:=o7 (by omega) (by omega);have hwl1:IntKind.i64.wrap l[k].lower=l[k].lower:=o7 (by omega) (by omega);have hwu1:IntKind.i64.wrap l[k].upper=l[k].upper:=o7 (by omega) (by omega);have hfin:k+1<=ls.length/\(out++[Q5 high ls[k] l[k]]).length=k+1/\rR ls l high=(out++[Q5 high ls[k] l[k]])++((ls.zip l).drop (k+1)).map (λq=>Q5 high q.1 q.2)/\du ls l high=((ls.zip l).drop (k+1)).foldl (λs q=>s+mY q.1 (Q5 high q.1 q.2)) (s+mY ls[k] (Q5 high ls[k] l[k]))/\-1000000000*((k+1:Nat):Int)<=s+mY ls[k] (Q5 high ls[k] l[k])/\s+mY ls[k] (Q5 high ls[k] l[k])<=1000000000*((k+1:Nat):Int):=⟨by omega,by simp;omega,hon,hs,by omega,by omega⟩
  cases hbk:ls[k].back<;>cases high;all_goals have hN:∀ h,Q5 h ls[k] l[k]=if h != ls[k].back then l[k].upper else l[k].lower:=λ_=>rfl
  all_goals have hS:∀ n,mY ls[k] n=if ls[k].back then -n else n:=λ_=>rfl
  all_goals simp only[hN,hS,hbk,bne_self_eq_false,Bool.false_eq_true,if_false,if_true,Bool.true_bne,Bool.false_bne,Bool.not_false] at hws hfin
  all_goals clear hN hS
  ·have hs:=za hx (za hy (za hw (za hlt (za hkl (za hbk (za hws (za hwl1 hwu1)))))));repeat' first|(with_reducible first|refine zz ?_|refine And.intro (by omega) ?_|refine zE QP ?_)|simp -dsimp[hs]|refine i8 ?_ ?_<;>intro h<;>try exact h.elim
   all_goals try clear hs
   all_goals try omega
   exact zn ⟨(k+1,g+1,false,out++[l[k].lower],s+l[k].lower),hfin⟩ (zw Wx 2)
  ·have hs:=za hx (za hy (za hw (za hlt (za hkl (za hbk (za hws (za hwl1 hwu1)))))));repeat' first|(with_reducible first|refine zz ?_|refine And.intro (by omega) ?_|refine zE QP ?_)|simp -dsimp[hs]|refine i8 ?_ ?_<;>intro h<;>try exact h.elim
   all_goals try clear hs
   all_goals try omega
   exact zn ⟨(k+1,g+1,false,out++[l[k].upper],s+l[k].upper),hfin⟩ (zw Wx 2)
  ·have hs:=za hx (za hy (za hw (za hlt (za hkl (za hbk (za hws (za hwl hwu)))))));repeat' first|(with_reducible first|refine zz ?_|refine And.intro (by omega) ?_|refine zE QP ?_)|simp -dsimp[hs]|refine i8 ?_ ?_<;>intro h<;>try exact h.elim
   all_goals try clear hs
   all_goals try omega
   exact zn ⟨(k+1,g+1,false,out++[l[k].upper],s + -l[k].upper),hfin⟩ (zw Wx 2)
  ·have hs:=za hx (za hy (za hw (za hlt (za hkl (za hbk (za hws (za hwl hwu)))))));repeat' first|(with_reducible first|refine zz ?_|refine And.intro (by omega) ?_|refine zE QP ?_)|simp -dsimp[hs]|refine i8 ?_ ?_<;>intro h<;>try exact h.elim
   all_goals try clear hs
   all_goals try omega
   exact zn ⟨(k+1,g+1,false,out++[l[k].lower],s + -l[k].lower),hfin⟩ (zw Wx 2)
 ·rw[List.drop_eq_nil_of_le (by simp;omega)] at ho hs;have hs:=hlt;repeat' first|(with_reducible first|refine zz ?_|refine zr ?_|refine zE QP ?_)|simp -dsimp[hs]|refine i8 ?_ ?_<;>intro h<;>try exact h.elim
  all_goals try clear hs
  all_goals try omega
  rw[ho,hs];simp
theorem Ar (c:Chains) (D:List (Int×Int)) (B:List (Int×Issue)) (n:Nat) (hn:n<c.loops.length) (l:List Dim) (hl:c.loops[n].links.length<=12) (he:l.length=c.loops[n].links.length) (hd:∀ d∈l,J9 d=true):zP prog G 186 [.one (.im (K8 c D B)),iv (n:Int),.one (.im (.sl (l.map D5)))] (E0 (du c.loops[n].links l false) (du c.loops[n].links l true)):=by
 refine zf func186 ntmps186 ?_;try simp only[iv]
 have c2:=Aw (G:=G) c D B n hn l false hl he hd;have c3:=Aw (G:=G) c D B n hn l true hl he hd;repeat' first|(with_reducible first|refine zz ?_|refine zx ?_|refine zE [0,1,2,6,8,10] ?_)|simp -dsimp|refine zp c2 ?_|refine zp c3 ?_
def Jh (c:Chains) (n:Int):Int:=match c.loops[n.toNat]? with|some x=>du x.links (bx c x) false|none=>0
def Jz (c:Chains) (n:Int):Int:=match c.loops[n.toNat]? with|some x=>du x.links (bx c x) true|none=>0
def wJ (c:Chains) (n:Int):Int:=if F3 c n=0 then Jh c n else 0
def wK (c:Chains) (n:Int):Int:=if F3 c n=0 then Jz c n else 0
@[simp] abbrev QQ:List Nat:=[0,1,2,4,5,6,7,15]
theorem Ax (c:Chains) (n:Int) (hG:p8 G) (hC:K5 G) (hs:mT c) (hok:B7 c=0->OkC c):zP prog G 141 [CU c,iv n] (.tup [E0 (wJ c n) (wK c n),iv (F3 c n)]):=by
 refine zf func141 ntmps141 ?_;try simp only[CU,iv]
 have c1:=Ea c n hG hC hs;by_cases hE:F3 c n=0
 ·have h0:B7 c=0:=by
   by_cases h:B7 c=0
   ·exact h
   ·simp[F3,h] at hE
  have hr:0<=n/\n<c.loops.length:=Classical.byContradiction λh=>by simp[F3,h0,h] at hE
  obtain⟨k,rfl⟩:∃ k:Nat,n=k:=⟨n.toNat,by omega⟩
  have hk:k<c.loops.length:=by omega
  have h:=hok h0;have hx:c.loops[k]?=some c.loops[k]:=by simp[hk]
  have c2:=Aq (G:=G) c (T7 c) k hk h;obtain⟨hsl,hsd⟩:=qH h hk;have hln:=(h.gap c.loops[k] (List.getElem_mem hk)).1;have c3:=Ar (G:=G) c (T7 c) (br c.reg c.lets) k hk (bx c c.loops[k]) (by omega) hsl hsd;have h1:Jh c (k:Int)=du c.loops[k].links (bx c c.loops[k]) false:=by simp only[Jh,Int.toNat_natCast,hx]
  have h2:Jz c (k:Int)=du c.loops[k].links (bx c c.loops[k]) true:=by simp only[Jz,Int.toNat_natCast,hx]
  rw[<- h1,<- h2] at c3;rw[hE] at c1;simp only[bh,h0,if_true,K8] at c1;rw[wJ,wK,if_pos hE,if_pos hE];simp only[K8,fR,E0] at c2 c3;have hs:=trivial;repeat' first|(with_reducible first|refine zz ?_|refine zr ?_|refine zE QQ ?_)|simp -dsimp[hs]|refine zp c1 ?_|refine zp c2 ?_|refine zp c3 ?_|refine i8 ?_ ?_<;>intro h<;>try exact h.elim
  all_goals try clear hs
  all_goals simp[hE]
 ·obtain⟨X,hX⟩:=oB c;rw[hX] at c1;rw[wJ,wK,if_neg hE,if_neg hE];have hs:=hE;repeat' first|(with_reducible first|refine zz ?_|refine zr ?_|refine zE QQ ?_)|simp -dsimp[hs]|refine zp c1 ?_|refine i8 ?_ ?_<;>intro h<;>try exact h.elim
  all_goals try clear hs
theorem oy (h1:Bool):∀ (q:List (Link×Dim)) (a b:Int),(∀ p∈q,J9 p.2=true)->a<=b->q.foldl (λs p=>s+mY p.1 (Q5 false p.1 p.2)) a<=q.foldl (λs p=>s+mY p.1 (Q5 true p.1 p.2)) b
 | [],a,b,_,h=>h
 | p :: q,a,b,hd,h=>by
   rw[List.foldl_cons,List.foldl_cons];refine oy h1 q _ _ (λp hp=>hd p (by simp[hp])) ?_;have hp:=(an _).1 (hd p (by simp));have:mY p.1 (Q5 false p.1 p.2)<=mY p.1 (Q5 true p.1 p.2):=by
    unfold mY Q5;cases p.1.back<;>simp<;>omega
   omega
theorem Jg {ls:List Link} {l:List Dim} (hd:∀ d∈l,J9 d=true):du ls l false<=du ls l true:=
 oy true _ 0 0 (λ_ hp=>hd _ (List.of_mem_zip hp).2) (Int.le_refl _)
def KL (c:Chains) (n:Int):Int:=match c.loops[n.toNat]? with
 | some x=>if x.lo<=wJ c n/\wK c n<=x.hi then 2 else if wK c n<x.lo\/x.hi<wJ c n then 0 else 1
 | none=>0
def P8 (c:Chains) (n:Int):Int:=if F3 c n=0 then KL c n else 0
def wq (n:Int):DV:=.one (.im (.raw (.int .u8 n)))
attribute [simp] wq
theorem dT {c:Chains} {n:Int} (h:F3 c n=0):B7 c=0/\∃ k:Nat,n=k/\k<c.loops.length:=by
 have h0:B7 c=0:=by
  by_cases h':B7 c=0
  ·exact h'
  ·simp[F3,h'] at h
 have hr:0<=n/\n<c.loops.length:=Classical.byContradiction λh'=>by simp[F3,h0,h'] at h
 exact⟨h0,n.toNat,by omega,by omega⟩
theorem Af {c:Chains} {n:Int} (h:F3 c n=0) (hok:B7 c=0->OkC c):wJ c n<=wK c n:=by
 obtain⟨h0,k,rfl,hk⟩:=dT h;have hx:c.loops[k]?=some c.loops[k]:=by simp[hk]
 obtain⟨hsl,hsd⟩:=qH (hok h0) hk;rw[wJ,wK,if_pos h,if_pos h];simp only[Jh,Jz,Int.toNat_natCast,hx];exact Jg hsd
@[simp] abbrev WN:List Nat:=[0,1,2,4,5,6,7,8,16,24,35]
theorem wT (c:Chains) (n:Int) (hG:p8 G) (hC:K5 G) (hs:mT c) (hok:B7 c=0->OkC c):zP prog G 88 [CU c,iv n] (.tup [wq (P8 c n),iv (F3 c n)]):=by
 refine zf func88 ntmps88 ?_;try simp only[CU,iv]
 have c1:=Ax c n hG hC hs hok;by_cases hE:F3 c n=0
 ·have hle:=Af hE hok;obtain⟨h0,k,rfl,hk⟩:=dT hE;have hx:c.loops[k]?=some c.loops[k]:=by simp[hk]
  have hK:P8 c (k:Int)=if c.loops[k].lo<=wJ c (k:Int)/\wK c (k:Int)<=c.loops[k].hi then 2 else if wK c (k:Int)<c.loops[k].lo\/c.loops[k].hi<wJ c (k:Int) then 0 else 1:=by simp only[P8,KL,Int.toNat_natCast,hx,if_pos hE]
  generalize wJ c (k:Int)=a at *;generalize wK c (k:Int)=b at *;have c2:=cg (G:=G) c.loops[k].lo c.loops[k].hi [a,b] (by simp);simp only[E0,hE] at c1;by_cases hin:c.loops[k].lo<=a/\b<=c.loops[k].hi
  ·have hq:([a,b].all λx=>decide (c.loops[k].lo<=x)&&decide (x<=c.loops[k].hi))=true:=by simp;omega
   rw[if_pos hin] at hK;rw[hq] at c2;have hs:=za hx hk;repeat' first|(with_reducible first|refine zz ?_|refine zr ?_|refine zE WN ?_)|simp -dsimp[hs]|refine zp c1 ?_|refine zt c2 ?_ ?_ ?_;(focus simp;done);focus (simp;done)|refine i8 ?_ ?_<;>intro h<;>try exact h.elim
   all_goals try clear hs
   all_goals simp[hK,hE]
  ·have hq:([a,b].all λx=>decide (c.loops[k].lo<=x)&&decide (x<=c.loops[k].hi))=false:=by simp;omega
   rw[if_neg hin] at hK;rw[hq] at c2;have hs:=za hx hk;repeat' first|(with_reducible first|refine zz ?_|refine zr ?_|refine zE WN ?_)|simp -dsimp[hs]|refine zp c1 ?_|refine zt c2 ?_ ?_ ?_;(focus simp;done);focus (simp;done)|refine i8 ?_ ?_<;>intro h<;>try exact h.elim
   all_goals try clear hs
   all_goals first
    | (exfalso;omega)
    | (rw[if_pos (by omega)] at hK;simp[hK,hE];done)
    | (rw[if_neg (by omega)] at hK;simp[hK,hE])
 ·have hK:P8 c n=0:=by simp[P8,hE]
  have hs:=hE;repeat' first|(with_reducible first|refine zz ?_|refine zr ?_|refine zE WN ?_)|simp -dsimp[hs]|refine zp c1 ?_|refine i8 ?_ ?_<;>intro h<;>try exact h.elim
  all_goals try clear hs
  all_goals simp[hK]
end Go.Proofs
namespace Go.Proofs
open Go Go.Ab
theorem mc {l:List Issue} {lets:List Int} (h0:j8 l=0) (hlet:A1 l lets=true) {dep:Int->Int} (hdep:∀ n∈nums l,1<=dep n/\dep n<=6/\∀ c∈dw l n,c∈nums l/\dep c<dep n) :
 ∀ (k:Nat) (d m:Int),d∈nums l->∀ p∈P5 (u9 l lets) k d m,p.1∈nums l
 | 0,_,_,_,p,hp=>by cases hp
 | k+1,d,m,hd,p,hp=>by
   rw[P5] at hp;split at hp
   ·rw[List.mem_singleton] at hp;rw[hp];exact hd
   ·obtain⟨y,hy,hp⟩:=List.mem_flatMap.1 hp;have hc:=(hdep d hd).2.2 _ (lk h0 hlet hd y hy);exact mc h0 hlet hdep k _ _ hc.1 p hp
theorem oU {ns:List Int} (hnd:ns.Nodup):∀ (lv:List (Int×Int)) (m:List (Int×Int)),(∀ p∈lv,p.1∈ns)->HJ ns (ns.map (n7 m)) lv=ns.map (n7 (kC m lv))
 | [],_,_=>rfl
 | p :: lv,m,h=>by
   have h1:=oU hnd lv (O5 p.1 (IntKind.i64.wrap (n7 m p.1+p.2)) m) λq hq=>h q (by simp[hq]);obtain⟨j,hj⟩:=List.mem_iff_getElem?.1 (h p (by simp));have he:HK ns (ns.map (n7 m)) p=ns.map (n7 (O5 p.1 (IntKind.i64.wrap (n7 m p.1+p.2)) m)):=by
    simp only[HK,jB hnd hj,Int.toNat_natCast,List.getElem?_map,hj,Option.map_some,Option.getD_some];rw[lV hnd hj];refine List.map_congr_left λn _=>?_;rw[ak];by_cases e:n=p.1<;>simp[e]
   simp only[HJ,kC,List.foldl_cons] at h1 ⊢;rw[he];exact h1
theorem fL (f:Int->Int):∀ ns:List Int,((ns.zip (ns.map f)).filter λp=>decide (0<p.2)).map (λp=>(⟨p.1,p.2⟩:Itm))=(ns.filter λn=>decide (0<f n)).map λn=>⟨n,f n⟩
 | []=>rfl
 | n :: ns=>by
   simp only[List.map_cons,List.zip_cons_cons,List.filter_cons];by_cases h:0<f n
   ·simp only[h,decide_true,if_true,List.map_cons,fL f ns]
   ·simp only[h,decide_false,Bool.false_eq_true,if_false,fL f ns]
theorem qX {l:List Issue} {lets:List Int} {d:Int} (h0:j8 l=0) (hlet:A1 l lets=true) (hd:d∈nums l):lM l lets d=L9 (nums l) (nr l lets d):=by
 obtain⟨dep,hdep⟩:=rX h0;have hnd:(nums l).Nodup:=(E1 h0).1.imp λh=>Int.ne_of_lt h;have h1:=oU hnd (P5 (u9 l lets) 6 d 1) [] (mc h0 hlet hdep 6 d 1 hd);have h2:(nums l).map (n7 [])=List.replicate (nums l).length 0:=kL (λ_=>rfl) _;rw[h2] at h1;have h3:JH l lets d=(nums l).map (n7 (nr l lets d)):=h1;rw[lM,h3,fL];rfl
theorem lY:∀ (ps:List Itm) (m:List (Int×Int)) (d:Int),(ps.map (·.drawing)).Nodup->n7 (ps.foldl (λm x=>O5 x.drawing x.count m) m) d=if d∈ps.map (·.drawing) then er ps d else n7 m d
 | [],m,d,_=>by simp
 | y :: ps,m,d,h=>by
   rw[List.map_cons,List.nodup_cons] at h;rw[List.foldl_cons,lY ps _ d h.2,ak,er];by_cases e:d=y.drawing
   ·subst e;rw[if_neg h.1,if_pos rfl,if_pos (by simp),if_pos rfl]
   ·rw[if_neg e,if_neg (Ne.symm e)];by_cases hm:d∈ps.map (·.drawing)
    ·rw[if_pos hm,if_pos (by simp only[List.map_cons,List.mem_cons];exact .inr hm)]
    ·rw[if_neg hm,if_neg (by simp only[List.map_cons,List.mem_cons];exact λh=>h.elim e hm)]
theorem eq:∀ (ps:List Itm) (d:Int),d∉ps.map (·.drawing)->er ps d=0
 | [],_,_=>rfl
 | y :: ps,d,h=>by
   rw[List.map_cons,List.mem_cons,not_or] at h;rw[er,if_neg (Ne.symm h.1)];exact eq ps d h.2
def qd (ls:List Link) (d:Int):Nat:=(ls.filter λy=>decide (y.drawing=d)).length
theorem fd (y:Link) (r:List Link) (d:Int):qd (y :: r) d=(if y.drawing=d then 1 else 0)+qd r d:=by
 unfold qd;by_cases h:y.drawing=d
 ·rw[List.filter_cons_of_pos (by simpa using h),if_pos h,List.length_cons];omega
 ·rw[List.filter_cons_of_neg (by simpa using h),if_neg h];omega
theorem sd {ls:List Link} {y:Link} (h:y∈ls):1<=qd ls y.drawing:=
 List.length_pos_of_mem (List.mem_filter.2 ⟨h,by simp⟩)
theorem yf {ls:List Link} {d:Int} (h:∀ y∈ls,y.drawing≠d):qd ls d=0:=by
 unfold qd;rw[List.filter_eq_nil_iff.2 λy hy=>by simpa using h y hy];rfl
def vX (B:List (Int×Issue)) (y:Link):Bool:=decide (0<=y.dim)&&decide (y.dim<=((K3 B y.drawing).dims.length:Int)-1)
theorem lg (D:List (Int×Int)) (B:List (Int×Issue)):∀ (r:List Link) (U:List (Int×Int)),Y6 D B U r=true↔∀ y∈r,vX B y=true/\n7 U y.drawing+qd r y.drawing<=n7 D y.drawing
 | [],U=>by simp[Y6]
 | y :: r,U=>by
   have ih:=lg D B r (O5 y.drawing (n7 U y.drawing+1) U);have hu:Y6 D B U (y :: r)=(decide (n7 U y.drawing+1<=n7 D y.drawing)&&vX B y&&Y6 D B (O5 y.drawing (n7 U y.drawing+1) U) r):=rfl;rw[hu,Bool.and_eq_true,Bool.and_eq_true,decide_eq_true_eq,ih];constructor
   ·rintro⟨⟨h1,h2⟩,h3⟩ z hz;have key:∀ z∈r,vX B z=true/\n7 U z.drawing+qd (y :: r) z.drawing<=n7 D z.drawing:=λz hz=>by
     obtain⟨a,b⟩:=h3 z hz;rw[ak] at b;rw[fd];refine⟨a,?_⟩;by_cases e:z.drawing=y.drawing
     ·rw[if_pos e] at b;rw[if_pos e.symm];rw[e] at b ⊢;omega
     ·rw[if_neg e] at b;rw[if_neg (Ne.symm e)];omega
    rcases List.mem_cons.1 hz with rfl|hz
    ·refine⟨h2,?_⟩;by_cases hex:∃ w∈r,w.drawing=z.drawing
     ·obtain⟨w,hw,e⟩:=hex;have:=(key w hw).2;rw[e] at this;exact this
     ·rw[fd,if_pos rfl,yf λw hw e=>hex ⟨w,hw,e⟩];omega
    ·exact key z hz
   ·intro h;obtain⟨a,b⟩:=h y (by simp);rw[fd,if_pos rfl] at b;refine⟨⟨by omega,a⟩,λz hz=>?_⟩;obtain⟨a',b'⟩:=h z (by simp[hz]);refine⟨a',?_⟩;rw[fd] at b';rw[ak];by_cases e:z.drawing=y.drawing
    ·rw[if_pos e.symm,e] at b';rw[if_pos e,e];omega
    ·rw[if_neg (Ne.symm e)] at b';rw[if_neg e];omega
def pC (c:Chains) (ls:List Link) (y:Link):Bool:=decide ((qd ls y.drawing:Int)<=er (lM c.reg c.lets c.of) y.drawing)&&(decide (0<=y.dim)&&decide (y.dim<=((u9 c.reg c.lets y.drawing).dims.length:Int)-1))
def cL (c:Chains) (x:ChLoop):Bool:=uD x&&sk x&&x.links.all (pC c x.links)
theorem lN {c:Chains} {d:Int} (h0:j8 c.reg=0) (hlet:A1 c.reg c.lets=true) (hof:c.of∈nums c.reg) (hc:1<=er (lM c.reg c.lets c.of) d):d∈nums c.reg:=by
 refine Classical.byContradiction λhn=>?_;rw[qX h0 hlet hof,eq] at hc
 ·omega
 ·intro hm;simp only[L9,List.map_map] at hm;obtain⟨n,h1,h2⟩:=List.mem_map.1 hm;simp only[Function.comp] at h2;exact hn (h2 ▸ (List.mem_filter.1 h1).1)
theorem xh {c:Chains} (h0:j8 c.reg=0) (hlet:A1 c.reg c.lets=true) (hof:c.of∈nums c.reg) (x:ChLoop):P4 (T7 c) (br c.reg c.lets) x=cL c x:=by
 have hnd:(nums c.reg).Nodup:=(E1 h0).1.imp λh=>Int.ne_of_lt h;have hT:C4 c.reg c.lets c.of=0:=by simp[C4,h0,hlet,hof]
 have hD:∀ d,n7 (T7 c) d=er (lM c.reg c.lets c.of) d:=λd=>by
  rw[qX h0 hlet hof];have hE:co c.reg c.lets c.of=L9 (nums c.reg) (nr c.reg c.lets c.of):=by rw[co,if_pos hT]
  have hn:((L9 (nums c.reg) (nr c.reg c.lets c.of)).map (·.drawing)).Nodup:=by
   simp only[L9,List.map_map];have:(λx:Itm=>x.drawing) ∘ (λn=>(⟨n,n7 (nr c.reg c.lets c.of) n⟩:Itm))=id:=rfl;rw[this,List.map_id];exact hnd.filter _
  rw[T7,hE,lY _ _ _ hn];split
  ·rfl
  ·rw[eq _ _ ‹_›];rfl
 unfold P4 cL
 congr 1
 rw[Bool.eq_iff_iff,lg,List.all_eq_true];refine forall_congr' λy=>forall_congr' λhy=>?_;simp only[pC,vX,Bool.and_eq_true,decide_eq_true_eq,hD];have hp:=sd hy;have hz:n7 [] y.drawing=0:=rfl;constructor
 ·rintro⟨h1,h2⟩;have hm:=lN (d:=y.drawing) h0 hlet hof (by omega);rw[br,V7,if_pos hm] at h1;exact⟨by omega,h1⟩
 ·rintro⟨h1,h2⟩;have hm:=lN (d:=y.drawing) h0 hlet hof (by omega);rw[br,V7,if_pos hm];exact⟨h2,by omega⟩
theorem qg {c:Chains} (h0:j8 c.reg=0):B7 c=(if A1 c.reg c.lets=true/\c.of∈nums c.reg/\(1<=c.loops.length/\c.loops.length<=6)/\c.loops.all (cL c)=true then 0 else 60):=by
 unfold B7;rw[if_neg (by simp[h0])];by_cases hlet:A1 c.reg c.lets=true
 ·by_cases hof:c.of∈nums c.reg
  ·have hT:C4 c.reg c.lets c.of=0:=by simp[C4,h0,hlet,hof]
   have hL:c.loops.all (P4 (T7 c) (br c.reg c.lets))=c.loops.all (cL c):=by
    congr 1;exact funext λx=>xh h0 hlet hof x
   rw[hL];by_cases hn:1<=c.loops.length/\c.loops.length<=6
   ·rw[if_neg (by simp[hT];omega)];by_cases ha:c.loops.all (cL c)=true
    ·rw[if_pos ha,if_pos ⟨hlet,hof,hn,ha⟩]
    ·rw[if_neg ha,if_neg λh=>ha h.2.2.2]
   ·rw[if_pos (.inr hn),if_neg λh=>hn h.2.2.1]
  ·have hT:C4 c.reg c.lets c.of≠0:=by simp[C4,h0,hlet,hof]
   rw[if_pos (.inl hT),if_neg λh=>hof h.2.1]
 ·have hT:C4 c.reg c.lets c.of≠0:=by
   have:A1 c.reg c.lets=false:=by simpa using hlet
   simp[C4,h0,this]
  rw[if_pos (.inl hT),if_neg λh=>hlet h.1]
theorem Lb {c:Chains} (h:B7 c=0):OkC c:=by
 have h0:j8 c.reg=0:=Classical.byContradiction λh'=>by simp[B7,h'] at h
 rw[qg h0] at h;split at h
 ·rename_i hc;obtain⟨a,b,d,e⟩:=hc;rw[List.all_eq_true] at e;refine⟨h0,a,b,d,λx hx=>?_,λx hx y hy=>?_⟩
  ·have:=e x hx;simp only[cL,uD,Bool.and_eq_true,decide_eq_true_eq] at this;exact⟨this.1.1.2,this.1.2⟩
  ·have:=e x hx;simp only[cL,Bool.and_eq_true,List.all_eq_true] at this;have:=this.2 y hy;simp only[pC,Bool.and_eq_true,decide_eq_true_eq] at this;have hp:=sd hy;exact⟨lN h0 a b (by omega),this.2.1,by omega⟩
 ·cases h
variable {G:LY}
end Go.Proofs
namespace Go.Ab
open Go
structure Spot where
 drawing:Int
 dim:Int
 deriving DecidableEq
def kQ (x:Spot):List IC:=[rI x.drawing,rI x.dim]
def FX (l:List Spot):DV:=.one (.im (.sl (l.map kQ)))
attribute [simp] kQ FX
def uK (a b:Spot):Bool:=decide (a.drawing<b.drawing)||(decide (a.drawing=b.drawing)&&decide (a.dim<b.dim))
def Bh (x:Spot):List Spot->Nat
 | []=>0
 | y :: r=>if uK y x then Bh x r+1 else 0
def KE (x:Spot) (l:List Spot):List Spot:=l.take (Bh x l)++x :: l.drop (Bh x l)
def KT (f:Spot->Bool) (out:List Spot) (x:Spot):List Spot:=if f x=false\/x∈out then out else KE x out
def KS (f:Spot->Bool) (l:List Spot):List Spot:=l.foldl (KT f) []
def kS (x:Spot):List Value:=[.int .i64 x.drawing,.int .i64 x.dim]
def xU (l:List Spot):List (List Value×List DC):=l.map λx=>(kS x,[.im (rB true)])
def FJ (l:List Spot):List (List Value×List IC):=l.map λx=>(kS x,[rB true])
@[simp] theorem KA (k n:Nat) (objs:List DObj) (l:List Spot):E7 (λx:List Value×List DC=>(E7 (frz (k+1) n objs) x.2).map λl=>(x.1,l)) (xU l)=some (FJ l):=by
 induction l with
 | nil=>rfl
 | cons p r ih =>
   have e:xU (p :: r)=(kS p,[.im (rB true)]) :: xU r:=rfl;rw[e];simp[E7,ih,FJ]
@[simp] theorem Jd (n:Nat) (objs:List DObj) (l:List Spot):((xU l).map λx=>(x.1,x.2.map (fz n objs)))=xU l:=by
 simp[xU,fz,DC.lt]
@[simp] theorem Ju (L:List Spot) (k:Nat) (h:k<(n3 (L.map kQ)).length):(n3 (L.map kQ))[k]=[DC.im (.raw (.int .i64 (L[k]'(by simpa[r8] using h)).drawing)),DC.im (.raw (.int .i64 (L[k]'(by simpa[r8] using h)).dim))]:=by
 simp[n3]
end Go.Ab
namespace Go.Proofs
open Go Go.Ab
def zI (y:Link):Spot:=⟨y.drawing,y.dim⟩
def IX (d:Dim):Int:=min (max d.nominal d.lower) d.upper
def FR (d:Dim) (g:Int):Dim:=⟨d.nominal,max d.lower (IX d-g),min d.upper (IX d+g)⟩
def KJ (c:Chains) (so:Spot->Bool) (g:Int) (y:Link):Dim:=if so (zI y) then FR (V0 c y) g else V0 c y
def KX (c:Chains) (so:Spot->Bool) (g:Int) (x:ChLoop):List Dim:=x.links.map (KJ c so g)
def LF (c:Chains) (so:Spot->Bool) (g:Int) (x:ChLoop):Int:=du x.links (KX c so g x) false
def LI (c:Chains) (so:Spot->Bool) (g:Int) (x:ChLoop):Int:=du x.links (KX c so g x) true
def ER (c:Chains) (so:Spot->Bool) (g:Int) (x:ChLoop):Bool:=decide (x.lo<=LF c so g x)&&decide (LI c so g x<=x.hi)
def KR (c:Chains) (so:Spot->Bool) (g:Int):Bool:=c.loops.all (ER c so g)
def kF (c:Chains):List Spot:=c.loops.flatMap λx=>x.links.map zI
def GP (c:Chains) (x:Spot):Bool:=decide ((u9 c.reg c.lets x.drawing).kind≠3)
def sE (c:Chains):List Spot:=KS (GP c) (kF c)
def gs (p:Int->Bool):Nat->Int->Int->Int
 | 0,lo,_=>lo
 | k+1,lo,hi=>if lo<hi then (if p (hi-(hi-lo) / 2) then gs p k (hi-(hi-lo) / 2) hi else gs p k lo (hi-(hi-lo) / 2-1)) else lo
def IY (l:List Spot) (set:Nat):Nat->List Spot
 | 0=>[]
 | k+1=>IY l set k++(match l[k]? with
   | some x=>if set.testBit k then [x] else []
   | none=>[])
def lexB:List Spot->List Spot->Bool
 | a :: l,b :: m=>if a=b then lexB l m else uK a b
 | _,_=>false
def zJ (a b:List Spot):Bool:=decide (a.length<b.length)||(decide (a.length=b.length)&&lexB a b)
def Fa (best:Option (List Spot)) (x:List Spot):Bool:=match best with
 | none=>true
 | some b=>zJ x b
def Il (good:List Spot->Bool) (best:Option (List Spot)) (x:List Spot):Option (List Spot):=if Fa best x&&good x then some x else best
def Gb (all:List Spot) (k:Nat):List (List Spot):=(List.range k).map λs=>IY all s all.length
def LH (l:List Spot):Spot->Bool:=λx=>decide (x∈l)
def JA (c:Chains) (x:List Spot):Bool:=KR c (LH x) 0
def BC (c:Chains) (b0:Option (List Spot)) (k:Nat):Option (List Spot):=(Gb (sE c) k).foldl (Il (JA c)) b0
def KI (c:Chains):Option (List Spot):=BC c none (2 ^ (sE c).length)
open Go Go.Ab Tryz
variable {G:LY}
def SoF (G:LY) (c:Chains) (fv:IC) (so:Spot->Bool):Prop:=
 (∃ (f:FuncId) (caps:List IC),fv=.fn (.func f) caps/\E2 prog f/\∀ x∈kF c,∀ objs,DCall prog G f (E0 x.drawing x.dim :: caps.map λc=>.one (.im c)) objs (λd o=>d=bv (so x)/\o=objs)) \/
 (∃ (f:FuncId) (l:List IC),fv=.bf (.func f) l/\E2 prog f/\∀ x∈kF c,∀ objs,DCall prog G f ((l.map λc=>DV.one (.im c))++[E0 x.drawing x.dim]) objs (λd o=>d=bv (so x)/\o=objs))
def V4:List Int->Int
 | []=>0
 | x :: r=>if x=0 then V4 r else x
@[simp] abbrev QN:List Nat:=[0,2,3,5,6,7,8,9,14]
theorem FA (l:List Int) (hl:l.length<1000000):zP prog G 59 [v6 l] (iv (V4 l)):=by
 refine zf func59 ntmps59 ?_;try simp only[v6]
 have hs:=trivial;repeat' first|(with_reducible first|refine zz ?_|refine zE QN ?_)|simp -dsimp[hs]
 refine i6 (ι:={ p:Nat // p<=l.length/\V4 l=V4 (l.drop p) }) (λp=>⟨18,[(3,iv 0),(6,.one (.im (.sl (l.map encI)))),(7,iv (l.length:Int)),(8,iv (p.1:Int))],[]⟩) (λp=>l.length-p.1) ⟨0,by simp⟩ (zv [3,6,7,8]) ?_;rintro⟨k,hk,hu⟩;simp only[iv];by_cases hlt:k<l.length
 ·have hw:=zk k;rw[List.drop_eq_getElem_cons hlt,V4] at hu;generalize hx:l[k]=x at *;have hs:=za hx (za hw hlt);repeat' first|(with_reducible first|refine zz ?_|refine zr ?_|refine zE QN ?_)|simp -dsimp[hs]|refine i8 ?_ ?_<;>intro h<;>try exact h.elim
  ·rw[hu,if_neg (by assumption)]
  ·rw[if_pos (by assumption)] at hu;exact zn ⟨k+1,by omega,hu⟩ (zv [3,6,7,8])
 ·rw[List.drop_eq_nil_of_le (by omega)] at hu;have hs:=hlt;repeat' first|(with_reducible first|refine zz ?_|refine zr ?_|refine zE QN ?_)|simp -dsimp[hs]|refine i8 ?_ ?_<;>intro h<;>try exact h.elim
  rw[hu];rfl
attribute [simp] p5 cw u6 A5 nilV J0 ZK
theorem SoF.congr {c:Chains} {fv:IC} {so so':Spot->Bool} (h:SoF G c fv so) (he:∀ x∈kF c,so x=so' x):SoF G c fv so':=by
 rcases h with⟨f,caps,h1,h2,h3⟩|⟨f,caps,h1,h2,h3⟩
 ·exact .inl ⟨f,caps,h1,h2,λx hx objs=>(h3 x hx objs).mono λd o ⟨a,b⟩=>⟨by rw[a,he x hx],b⟩⟩
 ·exact .inr ⟨f,caps,h1,h2,λx hx objs=>(h3 x hx objs).mono λd o ⟨a,b⟩=>⟨by rw[a,he x hx],b⟩⟩
attribute [simp] p5 cw u6 A5 nilV J0 ZK
attribute [simp] p5 cw N7 fm u6 A5 nilV J0 ZK
@[simp] theorem HY (L:List ChLoop) (k:Nat) (h:k<(n3 (L.map I3)).length):(n3 (L.map I3))[k]=[DC.im (.sl ((L[k]'(by simpa[r8] using h)).links.map H2)),DC.im (.raw (.int .i64 (L[k]'(by simpa[r8] using h)).lo)),DC.im (.raw (.int .i64 (L[k]'(by simpa[r8] using h)).hi))]:=by
 simp[n3,I3,rI]
@[simp] theorem HX (L:List Issue) (k:Nat) (h:k<(n3 (L.map e9)).length):(n3 (L.map e9))[k]=(e9 (L[k]'(by simpa[r8] using h))).map .im:=by
 simp[n3]
def cN (l:List Issue) (d:Int):DV:=if j8 l=0/\d∈nums l then .one (.im (A4 l (nums l))) else .one (.im (.raw (.pointer none)))
theorem xp (l:List Issue) (d:Int):ImV (cN l d):=by unfold cN;split<;>simp[A4]
attribute [simp] xp
def aG (l:List Issue) (d:Int):Int:=if j8 l≠0 then j8 l else if d∈nums l then 0 else 6
@[simp] abbrev WO:List Nat:=[0,1,2,4,5,6,7,14,19]
theorem Eg (l:List Issue) (d:Int) (hG:p8 G) (hs:W4 l):zP prog G 176 [G8 l,iv d] (.tup [cN l d,iv (aG l d)]):=by
 refine zf func176 ntmps176 ?_;try simp only[G8,iv]
 have c1:=gX l hG hs;by_cases h0:j8 l=0
 ·simp only[ct,h0,if_true] at c1;have c2:=Bp (G:=G) l (nums l) d ((E1 h0).1.imp λh=>Int.le_of_lt h) (by have:=hs.1;have:=A7 l l.length;unfold nums;omega);by_cases hm:d∈nums l
  ·simp only[hm,decide_true,A4] at c1 c2;have hs:=trivial;repeat' first|(with_reducible first|refine zz ?_|refine zr ?_|refine zE WO ?_)|simp -dsimp[hs]|refine zp c1 ?_|refine zp c2 ?_|refine i8 ?_ ?_<;>intro h<;>try exact h.elim
   all_goals try clear hs
   all_goals simp[cN,aG,h0,hm,A4]
  ·simp only[hm,decide_false,A4] at c1 c2;have hs:=trivial;repeat' first|(with_reducible first|refine zz ?_|refine zr ?_|refine zE WO ?_)|simp -dsimp[hs]|refine zp c1 ?_|refine zp c2 ?_|refine i8 ?_ ?_<;>intro h<;>try exact h.elim
   all_goals try clear hs
   all_goals simp[cN,aG,h0,hm,A4]
 ·simp only[ct,h0,if_false] at c1;have hs:=h0;repeat' first|(with_reducible first|refine zz ?_|refine zr ?_|refine zE WO ?_)|simp -dsimp[hs]|refine zp c1 ?_|refine i8 ?_ ?_<;>intro h<;>try exact h.elim
  all_goals try clear hs
  all_goals simp[cN,aG,h0]
def fq (l:List Issue) (d:Int):Nat:=(l.filter λx=>decide (x.drawing=d)).length
theorem Dm {l:List Issue} {d:Int} (hs:(l.map (·.drawing)).Pairwise (·<=·)):fq l d=fq (l.drop (lb (l.map (·.drawing)) d)) d:=by
 conv=>lhs;rw[<- List.take_append_drop (lb (l.map (·.drawing)) d) l]
 simp only[fq,List.filter_append];rw[List.filter_eq_nil_iff.2 λx hx=>?_]
 ·rfl
 ·have:=tl hs x hx;simp;omega
@[simp] abbrev Wy:List Nat:=[0,1,2,4,5,7,8,24,25,26,27,39]
theorem Ef (l:List Issue) (ds:List Int) (d:Int) (hs:(l.map (·.drawing)).Pairwise (·<=·)) (hl:l.length<1000000):zP prog G 177 [.one (.im (A4 l ds)),iv d] (iv (fq l d:Int)):=by
 refine zf func177 ntmps177 ?_;try simp only[iv]
 simp only[A4];have c1:=me (G:=G) (A4 l ds) d;simp only[A4] at c1;have hs:=trivial;repeat' first|(with_reducible first|refine zz ?_|refine zE [0,1,4,5,8] ?_)|simp -dsimp[hs]|refine zp c1 ?_
 all_goals try clear hs
 refine U6 (f:=249) (by simp;exact rfl) (by rfl) call249 ?_;generalize hR:LoopD.mk _ _ _ _ _ _ _=R;have hR1:R.st=.ready:=by rw[<- hR]
 have hR2:R.pend=none:=by rw[<- hR]
 have hR3:R.at .ready none=R:=by rw[<- hR];rfl
 have hR4:=(congrArg LoopD.nt hR).symm;have hR5:=(congrArg LoopD.tm hR).symm;have hR6:=(congrArg LoopD.ps hR).symm;have hR7:=(congrArg LoopD.asg hR).symm;have hR8:=(congrArg LoopD.body hR).symm;dsimp only at hR4 hR5 hR6 hR7 hR8;clear hR;refine g9 func249 rfl ntmps249 (by simp) rfl ?_;have hR9:∀ objs:List DObj,(R.tm.map λx=>(x.1,gf 2 objs x.2))=R.tm:=by intro objs;rw[hR5];simp
 have hlb:=rv (l.map (·.drawing)) d;rw[List.length_map] at hlb;have c2:=gt (G:=G) l d hs hl;have hs:=za hR1 (za hR2 (za hR3 hlb));repeat' first|with_reducible refine zz ?_|simp -dsimp[hs]|refine zq c2 ?_|refine zM 0 41 12 [0,1,2,4,7,24,25,26,27,39] ?_|with_reducible refine zE Wy ?_
 all_goals try clear hs
 rw[<- List.map_drop];have hge:=tn (d:=d) hs;have hss:((l.drop (lb (l.map (·.drawing)) d)).map (·.drawing)).Pairwise (·<=·):=by rw[List.map_drop];exact hs.drop
 have hsl:l.length-lb (l.map (·.drawing)) d=(l.drop (lb (l.map (·.drawing)) d)).length:=by simp
 rw[hsl];have hsl2:(l.drop (lb (l.map (·.drawing)) d)).length<1000000:=by simp;omega
 rw[Dm hs];generalize l.drop (lb (l.map (·.drawing)) d)=s at hge hss hsl2 ⊢;refine i6 (ι:={ k:Nat // k<=s.length/\k+fq (s.drop k) d=fq s d }) (λp=>⟨41,[(0,.one (.yld 1)),(2,.one (.im (.ip [rI d]))),(24,.one (.im (.sl (s.map e9)))),(25,iv (s.length:Int)),(26,iv (p.1:Int))],[.row [.im (rI (p.1:Int))],.loop R]⟩) (λp=>s.length-p.1) ⟨0,by simp⟩ (zv [0,2,24,25,26]) ?_;rintro⟨k,hk,hno⟩;simp only[iv];by_cases hlt:k<s.length
 ·have hx:s[k]?=some s[k]:=by simp[hlt]
  have hw:=zk k;have hcons:s.drop k=s[k] :: s.drop (k+1):=List.drop_eq_getElem_cons hlt;by_cases hd:s[k].drawing=d
  ·have hno':k+1+fq (s.drop (k+1)) d=fq s d:=by
    rw[<- hno,fq,fq,hcons,List.filter_cons_of_pos (by simp[hd]),List.length_cons];omega
   have hs:=za hR1 (za hR2 (za hR3 (za hx (za hw (za hd hlt)))));repeat' first|(with_reducible first|refine zz ?_|refine zE Wy ?_)|simp -dsimp[hs]|with_reducible refine At.yield_end ?_;simp -dsimp[hs]|refine bn ?_ ?_<;>simp -dsimp[hs]|refine R7 ?_;simp -dsimp[U3,hR4,hR5,hR6,hR7,hR8,hs]|refine i8 ?_ ?_<;>intro h<;>try exact h.elim
   all_goals try clear hs
   all_goals exact zn ⟨k+1,by omega,hno'⟩ (zw [0,2,24,25,26] 2 (by simp[hR9]))
  ·have hnone:fq (s.drop k) d=0:=by
    simp only[fq,List.length_eq_zero_iff,List.filter_eq_nil_iff];intro x hxm;obtain⟨i,hi⟩:=List.mem_iff_getElem?.1 hxm;rw[List.getElem?_drop] at hi;have h1:s[k].drawing<=x.drawing:=by
     rcases Nat.eq_zero_or_pos i with rfl|hp
     ·rw[Nat.add_zero,hx] at hi;cases hi;exact Int.le_refl _
     ·have hlt2:=(List.getElem?_eq_some_iff.1 hi).1;have:=(List.pairwise_iff_getElem.1 hss) k (k+i) (by simpa using hlt) (by simpa using hlt2) (by omega);have h6:=(List.getElem?_eq_some_iff.1 hi).2;simp at this;rw[h6] at this;exact this
    have h2:=hge s[k] (List.getElem_mem hlt);simp;omega
   have hN:fq s d=k:=by omega
   have hs:=za hR1 (za hR2 (za hR3 (za hx (za hw (za hd hlt)))));repeat' first|(with_reducible first|refine zz ?_|refine zr ?_ (by simp -dsimp[D4,hs];exact rfl)|refine zE Wy ?_)|simp -dsimp[D4,hs]|with_reducible show D4 _ _ _ _ _ _ _ _;simp -dsimp[D4,hs]|refine i8 ?_ ?_<;>intro h<;>try exact h.elim
   all_goals try clear hs
   all_goals simp[hN]
 ·have hN:fq s d=k:=by rw[<- hno,List.drop_eq_nil_of_le (by omega)];simp[fq]
  have hs:=za hR1 (za hR2 (za hR3 hlt));repeat' first|(with_reducible first|refine zz ?_|refine zr ?_ (by simp -dsimp[D4,hs];exact rfl)|refine ze ?_ (by simp -dsimp[D4,hs];exact rfl)|refine zE Wy ?_)|simp -dsimp[D4,hs]|with_reducible show D4 _ _ _ _ _ _ _ _;simp -dsimp[D4,hs]|refine i8 ?_ ?_<;>intro h<;>try exact h.elim
  all_goals try clear hs
  all_goals simp[hN]
def AV (l:List Issue) (d:Int):Int:=if aG l d=0 then (fq l d:Int) else 0
theorem DD (l:List Issue) (d:Int) (hG:p8 G) (hs:W4 l):zP prog G 119 [G8 l,iv d] (.tup [iv (AV l d),iv (aG l d)]):=by
 refine zf func119 ntmps119 ?_;try simp only[G8,iv]
 have c1:=Eg (G:=G) l d hG hs;by_cases h0:aG l d=0
 ·have hk:j8 l=0/\d∈nums l:=by
   unfold aG at h0;by_cases h1:j8 l=0
   ·refine⟨h1,?_⟩;rw[if_neg (by simp[h1])] at h0;by_cases h2:d∈nums l
    ·exact h2
    ·rw[if_neg h2] at h0;cases h0
   ·rw[if_pos h1] at h0;exact absurd h0 h1
  have c2:=Ef (G:=G) l (nums l) d (cW hk.1) (by have:=hs.1;omega);rw[cN,if_pos hk,h0] at c1;rw[AV,if_pos h0,h0];simp only[A4] at c1 c2;have hs:=trivial;repeat' first|(with_reducible first|refine zz ?_|refine zr ?_|refine zE QQ ?_)|simp -dsimp[hs]|refine zp c1 ?_|refine zp c2 ?_|refine i8 ?_ ?_<;>intro h<;>try exact h.elim
  all_goals try clear hs
 ·rw[AV,if_neg h0];generalize hX:cN l d=X at c1;have hXo:∃ x,X=.one (.im x):=by subst hX;unfold cN;split<;>exact⟨_,rfl⟩
  obtain⟨x,rfl⟩:=hXo;generalize aG l d=e at *;have hs:=h0;repeat' first|(with_reducible first|refine zz ?_|refine zr ?_|refine zE QQ ?_)|simp -dsimp[hs]|refine zp c1 ?_|refine i8 ?_ ?_<;>intro h<;>try exact h.elim
  all_goals try clear hs
end Go.Proofs
namespace Go.Ab
open Go
structure Piece where
 holder:Int
 day:Int
 lo:Int
 hi:Int
 deriving DecidableEq
structure Case where
 p:Prints
 machine:Int
 of:Int
 loop:ChLoop
 pieces:List Piece
 deriving DecidableEq
def B1 (x:Piece):List IC:=[rI x.holder,rI x.day,rI x.lo,rI x.hi]
def j4 (c:Case):List IC:=[.sl (c.p.n.reg.map e9),.sl (c.p.n.notes.map j9),.sl (c.p.holders.map p7),.sl (c.p.prints.map A6),rI c.machine,rI c.of,.sl (c.loop.links.map H2),rI c.loop.lo,rI c.loop.hi,.sl (c.pieces.map B1)]
def Gs (x:Piece):DV:=.agg ((B1 x).map .im)
def n4 (c:Case):DV:=.agg ((j4 c).map .im)
attribute [simp] B1 j4 Gs n4
end Go.Ab
namespace Go.Proofs
open Go Go.Ab
variable {G:LY}
theorem xB (x lo hi:Int):DCall Tryz.prog G 123 (iv x :: [DC.ptr 0 0,DC.ptr 1 0].map .one) [.row [.im (rI lo)],.row [.im (rI hi)]] (λd o=>d=bv (decide (x<lo)||decide (hi<x))/\o=[.row [.im (rI lo)],.row [.im (rI hi)]]):=by
 refine g9 Tryz.func123 rfl Tryz.ntmps123 (by simp) rfl ?_;simp only[rI];have hs:=trivial;repeat' first|(with_reducible first|refine zz ?_|refine zr ?_|refine zE [0,1,2,4] ?_)|simp -dsimp[hs]|with_reducible refine j0 ?_ ?_<;>intro h<;>have h0:=h<;>(try simp only[i7] at h)<;>have h2:=h<;>(try simp at h2)<;>replace hs:=za h0 (za h (za h2 hs))|with_reducible refine And.intro ?_ ?_
 all_goals try clear hs
 all_goals simp[*]
theorem P2 (lo hi:Int) (l:List Int) (hl:l.length<1000000):zP Tryz.prog G 76 [iv lo,iv hi,v6 l] (bv (l.all λx=>decide (lo<=x)&&decide (x<=hi))):=by
 refine zf Tryz.func76 Tryz.ntmps76 ?_;try simp only[iv,iv,v6]
 have hc:=D6 (G:=G) l (λx=>decide (x<lo)||decide (hi<x)) 123 [.ptr 0 0,.ptr 1 0] [.row [.im (rI lo)],.row [.im (rI hi)]] (by simp) (λx _=>xB x lo hi) hl;simp only[rI] at hc;repeat' first|(with_reducible first|refine zz ?_|refine zx ?_|refine zE [0,1,2,3,4,6] ?_)|simp -dsimp|refine CallE.here hc ?_
 rw[Bool.eq_iff_iff];simp;exact exists_congr λx=>and_congr_right λ_=>by omega
def O6 (lo hi a b:Int):Bool:=decide (a<=lo/\lo<=b/\a<=hi/\hi<=b/\lo<=hi)
theorem ce (lo hi a b:Int):zP Tryz.prog G 77 [E0 lo hi,iv a,iv b] (bv (O6 lo hi a b)):=by
 refine zf Tryz.func77 Tryz.ntmps77 ?_;try simp only[E0,iv,iv]
 have c1:=P2 (G:=G) a b [lo,hi] (by simp);generalize hb:([lo,hi].all λy=>decide (a<=y)&&decide (y<=b))=q at c1;cases q
 ·repeat' first|(with_reducible first|refine zz ?_|refine zx ?_|refine zE [0,1,2,3,6] ?_)|simp -dsimp|refine zt c1 ?_ ?_ ?_;(focus simp;done);focus (simp;done)
  all_goals simp at hb
  all_goals simp[O6]
  all_goals omega
 ·simp at hb;repeat' first|(with_reducible first|refine zz ?_|refine zx ?_|refine zE [0,1,2,3,6] ?_)|simp -dsimp|refine zt c1 ?_ ?_ ?_;(focus simp;done);focus (simp;done)
  all_goals simp[O6]
  all_goals first|omega|(rw[Bool.eq_iff_iff];simp;omega)
end Go.Proofs
namespace Go.Proofs
open Go Go.Ab
variable {G:LY}
def H7 (c:Case) (l:Link) (x:Piece):Bool:=(match p6 c.p.n.reg l.drawing 1 with|some y=>!decide (y.kind=1)|none=>false)&&(decide (0<=l.dim/\l.dim<=3)&&((c.p.holders.any λy=>decide (y.id=x.holder))&&(decide (0<=x.day/\x.day<=14610)&&O6 x.lo x.hi 0 1000000000)))
def Z3 (c:Case):Bool:=decide (c.of∈nums c.p.n.reg)&&(decide (1<=c.machine/\c.machine<=999)&&(decide (1<=c.loop.links.length/\c.loop.links.length<=8)&&(decide (c.pieces.length=c.loop.links.length)&&(O6 c.loop.lo c.loop.hi (-8000000000) 8000000000&&(c.loop.links.zip c.pieces).all λq=>H7 c q.1 q.2))))
noncomputable def s9 (c:Case):Int:=if u3 c.p≠0 then u3 c.p else if Z3 c=true then 0 else 100
structure KC (c:Case):Prop where
 p:KP c.p
 l:c.loop.links.length<=16
 q:c.pieces.length<=16
open Go Go.Ab Tryz
theorem C2 {c:Case} (h:s9 c=0):u3 c.p=0/\Z3 c=true:=by
 unfold s9 at h;by_cases h0:u3 c.p=0
 ·rw[if_neg (by simp[h0])] at h;refine⟨h0,?_⟩;by_cases h1:Z3 c=true
  ·exact h1
  ·rw[if_neg h1] at h;exact absurd h (by decide)
 ·rw[if_pos h0] at h;exact absurd h h0
theorem I9 {p:Prints} (h:u3 p=0):v7 p.n=0/\G9 p=true/\j8 p.n.reg=0:=by
 have hn:v7 p.n=0:=by
  refine Classical.byContradiction λh1=>?_;unfold u3 at h;rw[if_pos h1] at h;exact h1 h
 refine⟨hn,?_,?_⟩
 ·refine Classical.byContradiction λh1=>?_;unfold u3 at h;rw[if_neg (by simp[hn]),if_neg h1] at h;exact absurd h (by decide)
 ·refine Classical.byContradiction λh1=>?_;unfold v7 at hn;rw[if_pos h1] at hn;exact h1 hn
def fI (c:Case):Bool:=decide (c.of∈nums c.p.n.reg)&&(decide (1<=c.machine/\c.machine<=999)&&(decide (1<=c.loop.links.length/\c.loop.links.length<=8)&&(decide (c.pieces.length=c.loop.links.length)&&O6 c.loop.lo c.loop.hi (-8000000000) 8000000000)))
theorem T9 (c:Case):Z3 c=(fI c&&(c.loop.links.zip c.pieces).all λq=>H7 c q.1 q.2):=by
 simp only[Z3,fI,Bool.and_assoc]
theorem gC {α β:Type} {f:α×β->Bool} {l:List α} {m:List β} {k:Nat} (h1:k<l.length) (h2:k<m.length) (hno:(l.zip m).all f=((l.zip m).drop k).all f):(l.zip m).all f=true↔f (l[k],m[k])=true/\((l.zip m).drop (k+1)).all f=true:=by
 have h3:k<(l.zip m).length:=by rw[List.length_zip];omega
 have:=cu h3 hno;rw[List.getElem_zip] at this;exact this
theorem yq (x:Piece) (y:Holder):DCall prog G 121 (jZ y :: [DC.ptr 0 0].map .one) [.row ((B1 x).map .im)] (λd o=>d=bv (decide (y.id=x.holder))/\o=[.row ((B1 x).map .im)]):=by
 refine DCall.drop ?_;refine g9 func121 rfl ntmps121 (by simp) rfl ?_;simp only[jZ,p7,B1,rI];repeat' first|(with_reducible first|refine zz ?_|refine zx ?_|refine zE [0,1,2,3] ?_)|simp -dsimp|with_reducible refine And.intro ?_ ?_
theorem nX {c:Case} (h0:j8 c.p.n.reg=0) (l:Link) (x:Piece):H7 c l x=true↔CV c.p.n.reg l.drawing 1=0/\¬ (atR c.p.n.reg l.drawing 1).kind=1/\([l.dim].all λy=>decide (0<=y)&&decide (y<=3))=true/\(c.p.holders.any λy=>decide (y.id=x.holder))=true/\([x.day].all λy=>decide (0<=y)&&decide (y<=14610))=true/\O6 x.lo x.hi 0 1000000000=true:=by
 unfold H7 CV atR;rw[if_neg (by simp[h0]),if_pos h0];cases p6 c.p.n.reg l.drawing 1 with
 | none=>simp
 | some y=>simp[and_assoc]
@[simp] abbrev QB:List Nat:=[0,1,2,3,4,6,7,8,9,10,11,12,17,64,67,68,69,70,118]
theorem jb (c:Case) (hG:p8 G) (hN:E5 G) (hS:v8 G) (hR:A0 G) (hk:KC c):zP prog G 75 [n4 c] (iv (s9 c)):=by
 refine zf func75 ntmps75 ?_;try simp only[iv]
 have hl:=hk.l;have hq:=hk.q;have hhl:=hk.p.p.h;have c1:=An (G:=G) c.p hG hN hS hR hk.p;simp only[C9,o8] at c1;by_cases h0:u3 c.p=0
 ·obtain⟨hn0,hpb,hr0⟩:=I9 h0;rw[h0] at c1;have hE:s9 c=if Z3 c=true then 0 else 100:=by unfold s9;rw[if_neg (by simp[h0])]
  have c2:=DD (G:=G) c.p.n.reg c.of hG hk.p.n.1;have hLE:aG c.p.n.reg c.of=if c.of∈nums c.p.n.reg then 0 else 6:=by unfold aG;rw[if_neg (by simp[hr0])]
  rw[hLE] at c2;have c3:=P2 (G:=G) 1 999 [c.machine] (by simp);have c4:=P2 (G:=G) 1 8 [(c.loop.links.length:Int)] (by simp);have c5:=ce (G:=G) c.loop.lo c.loop.hi (-8000000000) 8000000000;simp only[G8,E0] at c2 c5;cases h5:fI c
  ·have hB:Z3 c=false:=by rw[T9,h5,Bool.false_and]
   rw[hE,hB];simp only[fI] at h5;generalize hb3:([c.machine].all λy=>decide (1<=y)&&decide (y<=999))=b3 at c3;generalize hb4:([(c.loop.links.length:Int)].all λy=>decide (1<=y)&&decide (y<=8))=b4 at c4;generalize hb5:O6 c.loop.lo c.loop.hi (-8000000000) 8000000000=b5 at c5 h5;have hs:True:=trivial;by_cases hm:c.of∈nums c.p.n.reg
   ·rw[if_pos hm] at c2;by_cases hlen:c.pieces.length=c.loop.links.length
    ·cases b3<;>cases b4<;>cases b5
     all_goals
      have hs:=hlen;repeat' first|(with_reducible first|refine zz ?_|refine zr ?_|refine zE QB ?_)|simp -dsimp[hs]|refine zp c1 ?_|refine zp c2 ?_|refine zt c3 ?_ ?_ ?_;(focus simp;done);focus (simp;done)|refine zt c4 ?_ ?_ ?_;(focus simp;done);focus (simp;done)|refine zp c5 ?_|refine i8 ?_ ?_<;>intro h<;>try exact h.elim
      all_goals try clear hs
     all_goals exfalso
     all_goals simp[hm,hlen] at h5 hb3 hb4
     all_goals omega
    ·cases b3<;>cases b4<;>cases b5
     all_goals
      have hs:=hlen;repeat' first|(with_reducible first|refine zz ?_|refine zr ?_|refine zE QB ?_)|simp -dsimp[hs]|refine zp c1 ?_|refine zp c2 ?_|refine zt c3 ?_ ?_ ?_;(focus simp;done);focus (simp;done)|refine zt c4 ?_ ?_ ?_;(focus simp;done);focus (simp;done)|refine zp c5 ?_|refine i8 ?_ ?_<;>intro h<;>try exact h.elim|with_reducible refine j0 ?_ ?_<;>intro h<;>have h0:=h<;>(try simp only[i7] at h)<;>have h2:=h<;>(try simp at h2)<;>replace hs:=za h0 (za h (za h2 hs))
      all_goals try clear hs
     all_goals exfalso
     all_goals omega
   ·rw[if_neg hm] at c2;have hs:=trivial;repeat' first|(with_reducible first|refine zz ?_|refine zr ?_|refine zE QB ?_)|simp -dsimp[hs]|refine zp c1 ?_|refine zp c2 ?_|refine i8 ?_ ?_<;>intro h<;>try exact h.elim
    all_goals try clear hs
  ·rw[T9,h5,Bool.true_and] at hE;rw[hE];simp only[fI,Bool.and_eq_true,decide_eq_true_eq] at h5;obtain⟨hm,⟨hm1,hm2⟩,⟨hl1,hl2⟩,hlen,hgap⟩:=h5;rw[if_pos hm] at c2;rw[hgap] at c5;rw[show ([c.machine].all λy=>decide (1<=y)&&decide (y<=999))=true by simp;omega] at c3;rw[show ([(c.loop.links.length:Int)].all λy=>decide (1<=y)&&decide (y<=8))=true by simp;omega] at c4;have hs:=hlen;repeat' first|(with_reducible first|refine zz ?_|refine zE QB ?_)|simp -dsimp[hs]|refine zp c1 ?_|refine zp c2 ?_|refine zt c3 ?_ ?_ ?_;(focus simp;done);focus (simp;done)|refine zt c4 ?_ ?_ ?_;(focus simp;done);focus (simp;done)|refine zp c5 ?_|refine i8 ?_ ?_<;>intro h<;>try exact h.elim
   all_goals try clear hs
   have hno:((c.loop.links.zip c.pieces).all λq=>H7 c q.1 q.2)=((c.loop.links.zip c.pieces).drop 0).all λq=>H7 c q.1 q.2:=rfl;clear c1 c2 c3 c4 c5;generalize hA:((c.loop.links.zip c.pieces).all λq=>H7 c q.1 q.2)=A at *;refine i6 (ι:={ k:Nat // k<=c.loop.links.length/\A=((c.loop.links.zip c.pieces).drop k).all λq=>H7 c q.1 q.2 }) (λq=>⟨120,[(1,.one (.ptr 0 0)),(4,.one (.ptr 2 0)),(67,.one (.im (.sl (c.loop.links.map H2)))),(68,iv (c.loop.links.length:Int)),(69,iv (q.1:Int))],[.row ((j4 c).map .im),.vec 0 [] 0 true,.row [.im (.sl (c.p.n.reg.map e9))],.vec 1 [[.im (rI c.machine)]] 0 false,.vec 1 [[.im (rI (c.loop.links.length:Int))]] 0 false]⟩) (λq=>c.loop.links.length-q.1) ⟨0,by simp,hno⟩ (zv [1,4,67,68,69]) ?_;rintro⟨k,hk1,hrest⟩;simp only[iv];by_cases hlt:k<c.loop.links.length
   ·have hlt2:k<c.pieces.length:=by omega
    have hw:=zk k;have hst:=gC (f:=λq=>H7 c q.1 q.2) hlt hlt2 (hA.trans hrest);rw[hA] at hst;simp only at hst;rw[nX hr0] at hst;clear hno;generalize hx:c.pieces[k]=x at *;generalize hy:c.loop.links[k]=y at *;have c6:=Fb (G:=G) c.p.n.reg y.drawing 1 hG hk.p.n.1;have c7:=iT (G:=G) c.p.holders (λy=>decide (y.id=x.holder)) 121 [.ptr 0 0] [.row ((B1 x).map .im)] (by simp) (λy _=>yq x y) (by omega);have c8:=P2 (G:=G) 0 3 [y.dim] (by simp);have c9:=P2 (G:=G) 0 14610 [x.day] (by simp);have c10:=ce (G:=G) x.lo x.hi 0 1000000000;simp only[G8,E0] at c6 c10;simp only[B1,rI,List.map_cons,List.map_nil] at c7;generalize (c.p.holders.any λy=>decide (y.id=x.holder))=b2 at *;generalize ([y.dim].all λy=>decide (0<=y)&&decide (y<=3))=b1 at *;generalize ([x.day].all λy=>decide (0<=y)&&decide (y<=14610))=b3 at *;generalize O6 x.lo x.hi 0 1000000000=b4 at *;generalize CV c.p.n.reg y.drawing 1=e at *;generalize atR c.p.n.reg y.drawing 1=z at *;have hcs:(e=0/\¬ z.kind=1/\b1=true/\b2=true/\b3=true/\b4=true)\/(A=false/\((¬ e=0/\True/\True/\True/\True/\True)\/(e=0/\z.kind=1/\True/\True/\True/\True)\/(e=0/\¬ z.kind=1/\b1=false/\True/\True/\True)\/(e=0/\¬ z.kind=1/\b1=true/\b2=false/\True/\True)\/(e=0/\¬ z.kind=1/\b1=true/\b2=true/\b3=false/\True)\/(e=0/\¬ z.kind=1/\b1=true/\b2=true/\b3=true/\b4=false))):=by
     by_cases g1:e=0<;>by_cases g2:z.kind=1<;>cases b1<;>cases b2<;>cases b3<;>cases b4<;>simp_all
    have hs:True:=trivial;rcases hcs with⟨g1,g2,g3,g4,g5,g6⟩|⟨gA,hcs⟩
    ·have hs:=za hx (za hy (za hlt (za hlt2 (za hw (za g1 (za g2 (za g3 (za g4 (za g5 g6)))))))));repeat' first|(with_reducible first|refine zz ?_|refine zE QB ?_)|simp -dsimp[hs]|refine zp c6 ?_|refine CallE.embed [9] (c7) ?_ ?_ ?_ ?_ ?_ ?_;(focus simp[u7];done);(focus simp;done);(focus simp;done);(focus simp;done);(focus refine o9 ?_;simp[u7,r9];done);try simp -dsimp[o6,u7,hs]|refine zt c8 ?_ ?_ ?_;(focus simp;done);focus (simp;done)|refine zt c9 ?_ ?_ ?_;(focus simp;done);focus (simp;done)|refine zp c10 ?_|refine i8 ?_ ?_<;>intro h<;>try exact h.elim
     all_goals try clear hs
     all_goals exact zn ⟨k+1,by omega,by rw[Bool.eq_iff_iff];exact hst.trans ⟨λh=>h.2,λh=>⟨⟨g1,g2,g3,g4,g5,g6⟩,h⟩⟩⟩ (zw [1,4,67,68,69] 5)
    ·rcases hcs with⟨g1,g2,g3,g4,g5,g6⟩|⟨g1,g2,g3,g4,g5,g6⟩|⟨g1,g2,g3,g4,g5,g6⟩|⟨g1,g2,g3,g4,g5,g6⟩|⟨g1,g2,g3,g4,g5,g6⟩|⟨g1,g2,g3,g4,g5,g6⟩
     all_goals
      have hs:=za hx (za hy (za hlt (za hlt2 (za hw (za g1 (za g2 (za g3 (za g4 (za g5 g6)))))))));repeat' first|(with_reducible first|refine zz ?_|refine zr ?_|refine zE QB ?_)|simp -dsimp[hs]|refine zp c6 ?_|refine CallE.embed [9] (c7) ?_ ?_ ?_ ?_ ?_ ?_;(focus simp[u7];done);(focus simp;done);(focus simp;done);(focus simp;done);(focus refine o9 ?_;simp[u7,r9];done);try simp -dsimp[o6,u7,hs]|refine zt c8 ?_ ?_ ?_;(focus simp;done);focus (simp;done)|refine zt c9 ?_ ?_ ?_;(focus simp;done);focus (simp;done)|refine zp c10 ?_|refine i8 ?_ ?_<;>intro h<;>try exact h.elim
      all_goals try clear hs
     all_goals exact gA
   ·obtain rfl:k=c.loop.links.length:=by omega
    have hA1:A=true:=by rw[hrest,List.drop_eq_nil_of_le (by rw[List.length_zip];omega)];rfl
    subst hA1;have hs:=hlt;repeat' first|(with_reducible first|refine zz ?_|refine zr ?_|refine zE QB ?_)|simp -dsimp[hs]|refine i8 ?_ ?_<;>intro h<;>try exact h.elim
    all_goals try clear hs
 ·have hE:s9 c=u3 c.p:=by unfold s9;rw[if_pos h0]
  rw[hE];have hs:=h0;repeat' first|(with_reducible first|refine zz ?_|refine zr ?_|refine zE QB ?_)|simp -dsimp[hs]|refine zp c1 ?_|refine i8 ?_ ?_<;>intro h<;>try exact h.elim
  all_goals try clear hs
def B5 (s:Int×Int) (q:Link×Piece):Int×Int:=if q.1.back=true then (s.1-q.2.hi,s.2-q.2.lo) else (s.1+q.2.lo,s.2+q.2.hi)
def O9 (l:List (Link×Piece)):Int×Int:=l.foldl B5 (0,0)
theorem wy {l:List (Link×Piece)} {k:Nat} (h:k<l.length):O9 (l.take (k+1))=B5 (O9 (l.take k)) l[k]:=by
 unfold O9;rw[List.take_succ_eq_append_getElem h,List.foldl_append];rfl
def U5 (x:Piece):Prop:=0<=x.lo/\x.lo<=x.hi/\x.hi<=1000000000
theorem wx (l:List (Link×Piece)):∀ s:Int×Int,s.1<=s.2->(∀ q∈l,U5 q.2)->(l.foldl B5 s).1<=(l.foldl B5 s).2/\s.1-1000000000*(l.length:Int)<=(l.foldl B5 s).1/\(l.foldl B5 s).2<=s.2+1000000000*(l.length:Int):=by
 induction l with
 | nil=>intro s h _;simp[h]
 | cons q l ih =>
   intro s h hq;have h1:=hq q List.mem_cons_self;unfold U5 at h1;have hst:(B5 s q).1<=(B5 s q).2/\s.1-1000000000<=(B5 s q).1/\(B5 s q).2<=s.2+1000000000:=by
    unfold B5;split<;>simp only<;>omega
   have:=ih (B5 s q) hst.1 (λy hy=>hq y (List.mem_cons_of_mem _ hy));rw[List.foldl_cons,List.length_cons];omega
theorem lq {l:List (Link×Piece)} (h:∀ q∈l,U5 q.2):(O9 l).1<=(O9 l).2/\- (1000000000*(l.length:Int))<=(O9 l).1/\(O9 l).2<=1000000000*(l.length:Int):=by
 have:=wx l (0,0) (Int.le_refl _) h;unfold O9;simp only at this;omega
structure CaseOk (c:Case):Prop where
 e:c.pieces.length=c.loop.links.length
 l:1<=c.loop.links.length/\c.loop.links.length<=8
 p:∀ q∈c.loop.links.zip c.pieces,U5 q.2
 g:-8000000000<=c.loop.lo/\c.loop.lo<=c.loop.hi/\c.loop.hi<=8000000000
theorem F5 {c:Case} (h:Z3 c=true):CaseOk c:=by
 rw[T9,fI] at h;simp only[Bool.and_eq_true,decide_eq_true_eq,O6,List.all_eq_true] at h;obtain⟨⟨_,_,h3,h4,h5⟩,h6⟩:=h;refine⟨h4,h3,λq hq=>?_,by omega⟩;have:=h6 q hq;simp only[H7,Bool.and_eq_true,O6,decide_eq_true_eq] at this;unfold U5;omega
noncomputable def ba (c:Case):Int×Int:=if s9 c=0 then O9 (c.loop.links.zip c.pieces) else (0,0)
theorem oY {c:Case} (h:CaseOk c) {k:Nat} (hk:k<=c.pieces.length):((c.loop.links.zip c.pieces).take k).length=k:=by
 rw[List.length_take,List.length_zip];have:=h.e;omega
theorem pg {c:Case} (h:CaseOk c) {k:Nat} (hk:k<=c.pieces.length):(O9 ((c.loop.links.zip c.pieces).take k)).1<=(O9 ((c.loop.links.zip c.pieces).take k)).2/\-8000000000<=(O9 ((c.loop.links.zip c.pieces).take k)).1/\(O9 ((c.loop.links.zip c.pieces).take k)).2<=8000000000:=by
 have h1:=lq (l:=(c.loop.links.zip c.pieces).take k) λq hq=>h.p q (List.mem_of_mem_take hq);rw[oY h hk] at h1;have:=h.l;have:=h.e;omega
theorem qw {c:Case} (h:CaseOk c) {k:Nat} (h1:k<c.pieces.length) (h2:k<c.loop.links.length):O9 ((c.loop.links.zip c.pieces).take (k+1))=B5 (O9 ((c.loop.links.zip c.pieces).take k)) (c.loop.links[k],c.pieces[k]):=by
 have h3:k<(c.loop.links.zip c.pieces).length:=by rw[List.length_zip];omega
 rw[wy h3,List.getElem_zip]
theorem kY {c:Case} (h:CaseOk c) {k:Nat} (h1:k<c.pieces.length):U5 c.pieces[k]:=by
 have h2:k<c.loop.links.length:=by have:=h.e;omega
 have h3:k<(c.loop.links.zip c.pieces).length:=by rw[List.length_zip];omega
 have:=h.p _ (List.getElem_mem h3);rw[List.getElem_zip] at this;exact this
@[simp] abbrev QD:List Nat:=[0,1,2,3,4,5,6,7,8,9,13,17,18,19,20,36]
theorem Cl (c:Case) (hG:p8 G) (hN:E5 G) (hS:v8 G) (hR:A0 G) (hk:KC c):zP prog G 38 [n4 c] (.tup [E0 (ba c).1 (ba c).2,iv (s9 c)]):=by
 refine zf func38 ntmps38 ?_;try simp only[iv]
 have c1:=jb (G:=G) c hG hN hS hR hk;simp only[n4,j4] at c1;by_cases h0:s9 c=0
 ·have hok:=F5 (C2 h0).2;have hE:ba c=O9 (c.loop.links.zip c.pieces):=by unfold ba;rw[if_pos h0]
  rw[hE];rw[h0] at c1 ⊢;have hlen:=hok.e;have hl8:=hok.l;have hs:=trivial;repeat' first|(with_reducible first|refine zz ?_|refine zE QD ?_)|simp -dsimp[hs]|refine zp c1 ?_|refine i8 ?_ ?_<;>intro h<;>try exact h.elim
  refine i6 (ι:={ k:Nat // k<=c.pieces.length }) (λq=>⟨52,[(1,.one (.ptr 0 0)),(2,.one (.ptr 1 0)),(5,.one (.ptr 2 0)),(17,.one (.im (.sl (c.pieces.map B1)))),(18,iv (c.pieces.length:Int)),(19,iv (q.1:Int))],[.row ((j4 c).map .im),.row [.im (rI 0),.im (rI 0)],.row [.im (rI (O9 ((c.loop.links.zip c.pieces).take q.1)).1),.im (rI (O9 ((c.loop.links.zip c.pieces).take q.1)).2)]]⟩) (λq=>c.pieces.length-q.1) ⟨0,by simp⟩ (zv [1,2,5,17,18,19] (by simp[O9])) ?_;rintro⟨k,hk1⟩;simp only[iv];by_cases hlt:k<c.pieces.length
  ·have hlt2:k<c.loop.links.length:=by omega
   have hw:=zk k;have hb1:=pg hok (Nat.le_of_lt hlt);have hb2:=pg hok (show k+1<=c.pieces.length by omega);have hst:=qw hok hlt hlt2;have hp:=kY hok hlt;unfold U5 at hp;rw[hst] at hb2;generalize hx:c.pieces[k]=x at *;generalize hy:c.loop.links[k]=y at *;generalize O9 ((c.loop.links.zip c.pieces).take k)=s at *;unfold B5 at hst hb2;cases hbk:y.back
   ·rw[if_neg (by simp[hbk])] at hst hb2;simp only at hb2;have hw1:IntKind.i64.wrap (s.1+x.lo)=s.1+x.lo:=o7 (by omega) (by omega);have hw2:IntKind.i64.wrap (s.2+x.hi)=s.2+x.hi:=o7 (by omega) (by omega);have hs:=za hx (za hy (za hlt (za hlt2 (za hw (za hw1 (za hw2 hbk))))));repeat' first|with_reducible refine zz ?_|simp -dsimp[hs]|refine zM 8 52 8 QD ?_|with_reducible refine zE QD ?_|refine i8 ?_ ?_<;>intro h<;>try exact h.elim
    all_goals exact zn ⟨k+1,by omega⟩ (zw [1,2,5,17,18,19] 3 (by simp[hst]))
   ·rw[if_pos hbk] at hst hb2;simp only at hb2;have hw1:IntKind.i64.wrap (-x.hi)=-x.hi:=o7 (by omega) (by omega);have hw2:IntKind.i64.wrap (-x.lo)=-x.lo:=o7 (by omega) (by omega);have hw3:IntKind.i64.wrap (s.1 + -x.hi)=s.1-x.hi:=by rw[o7 (by omega) (by omega)];omega
    have hw4:IntKind.i64.wrap (s.2 + -x.lo)=s.2-x.lo:=by rw[o7 (by omega) (by omega)];omega
    have hs:=za hx (za hy (za hlt (za hlt2 (za hw (za hw1 (za hw2 (za hw3 (za hw4 hbk))))))));repeat' first|with_reducible refine zz ?_|simp -dsimp[hs]|refine zM 8 52 8 QD ?_|with_reducible refine zE QD ?_|refine i8 ?_ ?_<;>intro h<;>try exact h.elim
    all_goals exact zn ⟨k+1,by omega⟩ (zw [1,2,5,17,18,19] 3 (by simp[hst]))
  ·obtain rfl:k=c.pieces.length:=by omega
   have hall:(c.loop.links.zip c.pieces).take c.pieces.length=c.loop.links.zip c.pieces:=List.take_of_length_le (by rw[List.length_zip];omega);rw[hall];have hs:=hlt;repeat' first|(with_reducible first|refine zz ?_|refine zr ?_|refine zE QD ?_)|simp -dsimp[hs]|refine i8 ?_ ?_<;>intro h<;>try exact h.elim
 ·have hE:ba c=(0,0):=by unfold ba;rw[if_neg h0]
  rw[hE];have hs:=h0;repeat' first|(with_reducible first|refine zz ?_|refine zr ?_|refine zE QD ?_)|simp -dsimp[hs]|refine zp c1 ?_|refine i8 ?_ ?_<;>intro h<;>try exact h.elim
def mi (c:Case) (s:Int×Int):Int:=if s.2<c.loop.lo\/s.1 > c.loop.hi then 0 else if c.loop.lo<=s.1/\s.2<=c.loop.hi then 2 else 1
noncomputable def aJ (c:Case):Int:=if s9 c=0 then mi c (ba c) else 0
theorem Bz {c:Case} {s:Int×Int} (h:s.1<=s.2):O6 s.1 s.2 c.loop.lo c.loop.hi=decide (c.loop.lo<=s.1/\s.2<=c.loop.hi):=by
 unfold O6;rw[decide_eq_decide];omega
@[simp] abbrev Wd:List Nat:=[0,1,2,3,4,5,6,15,33]
theorem wd (c:Case) (hG:p8 G) (hN:E5 G) (hS:v8 G) (hR:A0 G) (hk:KC c):zP prog G 39 [n4 c] (.tup [wq (aJ c),iv (s9 c)]):=by
 refine zf func39 ntmps39 ?_;try simp only[iv]
 have c1:=Cl (G:=G) c hG hN hS hR hk;simp only[n4,j4,E0] at c1;by_cases h0:s9 c=0
 ·have hok:=F5 (C2 h0).2;have hE:aJ c=mi c (ba c):=by unfold aJ;rw[if_pos h0]
  have hS:ba c=O9 (c.loop.links.zip c.pieces):=by unfold ba;rw[if_pos h0]
  have hle:(ba c).1<=(ba c).2:=by rw[hS];exact(lq hok.p).1
  have c2:=ce (G:=G) (ba c).1 (ba c).2 c.loop.lo c.loop.hi;rw[Bz (c:=c) (s:=ba c) hle] at c2;rw[hE];rw[h0] at c1 ⊢;unfold mi;generalize ba c=s at *;simp only[E0] at c2;by_cases h1:s.2<c.loop.lo\/s.1 > c.loop.hi
  ·rw[if_pos h1];by_cases h2:s.2<c.loop.lo
   ·have hs:=h2;repeat' first|(with_reducible first|refine zz ?_|refine zr ?_|refine zE Wd ?_)|simp -dsimp[hs]|refine zp c1 ?_|refine i8 ?_ ?_<;>intro h<;>try exact h.elim
   ·have h3:c.loop.hi<s.1:=by omega
    have hs:=za h2 h3;repeat' first|(with_reducible first|refine zz ?_|refine zr ?_|refine zE Wd ?_)|simp -dsimp[hs]|refine zp c1 ?_|refine i8 ?_ ?_<;>intro h<;>try exact h.elim
  ·rw[if_neg h1];have h2:¬ s.2<c.loop.lo:=by omega
   have h3:¬ c.loop.hi<s.1:=by omega
   by_cases h4:c.loop.lo<=s.1/\s.2<=c.loop.hi
   ·rw[if_pos h4];rw[decide_eq_true h4] at c2;have hs:=za h2 h3;repeat' first|(with_reducible first|refine zz ?_|refine zr ?_|refine zE Wd ?_)|simp -dsimp[hs]|refine zp c1 ?_|refine zp c2 ?_|refine i8 ?_ ?_<;>intro h<;>try exact h.elim
   ·rw[if_neg h4];rw[decide_eq_false h4] at c2;have hs:=za h2 h3;repeat' first|(with_reducible first|refine zz ?_|refine zr ?_|refine zE Wd ?_)|simp -dsimp[hs]|refine zp c1 ?_|refine zp c2 ?_|refine i8 ?_ ?_<;>intro h<;>try exact h.elim
 ·have hE:aJ c=0:=by unfold aJ;rw[if_neg h0]
  rw[hE];have hs:=h0;repeat' first|(with_reducible first|refine zz ?_|refine zr ?_|refine zE Wd ?_)|simp -dsimp[hs]|refine zp c1 ?_|refine i8 ?_ ?_<;>intro h<;>try exact h.elim
end Go.Proofs
