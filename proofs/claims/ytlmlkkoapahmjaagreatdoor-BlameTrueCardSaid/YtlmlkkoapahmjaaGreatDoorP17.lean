/- Part 17 of the proofs. -/
import Derived.Test.YtlmlkkoapahmjaaGreatDoorP08
import Derived.Test.YtlmlkkoapahmjaaGreatDoorP09
import Derived.Test.YtlmlkkoapahmjaaGreatDoorP14
import Derived.Test.YtlmlkkoapahmjaaGreatDoorP15
import Derived.Test.YtlmlkkoapahmjaaGreatDoorP16
set_option linter.all false
set_option maxHeartbeats 100000000
namespace Go.Proofs
open Go Go.Ab Tryz
variable {G:LS}
@[simp] abbrev Qd:List Nat:=[0,2,3,4,5,8,13,25,32,44]
theorem oP (l:List Int) (g:Nat) (hl:l.length<1000):DCall prog G 149 [.one (.vec 0 g 0 l.length)] [.vec 1 (l5 (l.map encI)) g false] (λd o=>∃ S:List Int,(S.length=l.length/\S.take (r8 l).length=r8 l)/\d=.one (.vec 0 g 0 (r8 l).length)/\o=[.vec 1 (l5 (S.map encI)) g false]):=by
 refine DCall.drop ?_;refine h9 func149 rfl ntmps149 (by simp) rfl ?_;by_cases h2:l.length<2
 ·have hli:(l.length:Int)<2:=by omega
  have hs:=hli;repeat' first|(with_reducible first|refine zz ?_|refine zr ?_|refine zE Qd ?_)|simp -dsimp[hs]|refine i8 ?_ ?_<;>intro h<;>try exact h.elim
  have hd:r8 l=l:=by
   match l,h2 with
   | [],_=>rfl
   | [a],_=>rfl
  exact⟨l,⟨rfl,by rw[hd,List.take_length]⟩,by rw[hd],rfl⟩
 ·have hli:¬ (l.length:Int)<2:=by omega
  have hs:=hli;repeat' first|(with_reducible first|refine zz ?_|refine zE Qd ?_)|simp -dsimp[hs]|refine i8 ?_ ?_<;>intro h<;>try exact h.elim
  refine i6 (ι:={ k:Nat // 1<=k/\k<=l.length/\r8 (l.take k)=l.take k }) (λp=>⟨61,[(0,.one (.vec 0 g 0 l.length)),(3,iv (p.1:Int))],[.vec 1 (l5 (l.map encI)) g false]⟩) (λp=>l.length-p.1) ⟨1,by omega,by omega,by cases l with|nil=>rfl|cons a r=>simp[r8]⟩ (zw [0,3] 1) ?_;rintro⟨k,hk1,hk,hdk⟩;simp only[iv];by_cases hlt:k<l.length
  ·have hw:=zk k;obtain⟨j,rfl⟩:∃ j,k=j+1:=⟨k-1,by omega⟩
   have hj:j<l.length:=by omega
   have hst:=mE hlt;rw[hdk] at hst;have hwj:IntKind.i64.wrap (((j+1:Nat):Int)-1)=(j:Int):=by rw[n4 (by omega) (by omega)];omega
   have hwj2:IntKind.i64.wrap (j:Int)=(j:Int):=n4 (by omega) (by omega);have hp0:(0:Int)<=(j:Int)+1:=by omega
   have hp1:(j:Int)+1<=l.length:=by omega
   have hp2:(j:Int)+1<l.length:=by omega
   by_cases he:l[j]=l[j+1]
   ·have he':l[j+1]=l[j]:=he.symm;rw[if_pos he] at hst;have hs:=za hlt (za hj (za hw (za hwj (za hwj2 (za hp0 (za hp1 (za hp2 he')))))));repeat' first|with_reducible refine zz ?_|simp -dsimp[hs]|refine zM 6 61 10 Qd ?_|with_reducible refine zE Qd ?_|refine i8 ?_ ?_<;>intro h<;>try exact h.elim
    refine i6 (ι:={ p:Nat×Nat×List Int // 1<=p.1/\j+1+p.1<=l.length/\p.2.1<=j+p.1/\p.2.2.length=l.length/\p.2.2.take p.2.1=r8 (l.take (j+1+p.1))/\p.2.2.drop (j+p.1)=l.drop (j+p.1) }) (λp=>⟨61,[(0,.one (.vec 0 g 0 l.length)),(3,iv (p.1.2.1:Int)),(4,.one (.vec 0 g (j+1) (l.length-(j+1)))),(5,iv (p.1.1:Int))],[.vec 1 (l5 (p.1.2.2.map encI)) g false]⟩) (λp=>l.length-p.1.1) ⟨(1,j+1,l),by simp only;omega,by simp only;omega,by simp only;omega,rfl,hst.symm,rfl⟩ (zv [0,3,4,5]) ?_;rintro⟨⟨q,w,S⟩,hq1,hqN,hwq,hSl,hSt,hSd⟩;simp only at hq1 hqN hwq hSl hSt hSd;simp only[iv];by_cases hlq:j+1+q<l.length
    ·have hq':q<l.length-(j+1):=by omega
     have hq1':q-1<l.length-(j+1):=by omega
     have hqw:=zk q;have hww:=zk w;have hqm:IntKind.i64.wrap ((q:Int)-1)=((q-1:Nat):Int):=by rw[n4 (by omega) (by omega)];omega
     have hs1:j+1+q<S.length:=by omega
     have hs0:j+1+(q-1)<S.length:=by omega
     have hwl:w<l.length:=by omega
     have hds:r8 (l.take (j+1+(q+1)))=if l[j+q]=l[j+1+q] then r8 (l.take (j+1+q)) else r8 (l.take (j+1+q))++[l[j+1+q]]:=by
      have:=mE (l:=l) (k:=j+q) (by omega);simp only[show j+q+1=j+1+q by omega,show j+q+2=j+1+(q+1) by omega] at this;exact this
     rw[<- hSt] at hds;have e1:S[j+1+q]=l[j+1+q]:=by
      have:=congrArg (λL:List Int=>L[1]?) hSd;simp only[List.getElem?_drop] at this;rw[show j+q+1=j+1+q by omega,List.getElem?_eq_getElem hs1,List.getElem?_eq_getElem hlq] at this;exact Option.some.inj this
     have e0:S[j+1+(q-1)]=l[j+q]:=by
      have:=congrArg (λL:List Int=>L[0]?) hSd;simp only[List.getElem?_drop,Nat.add_zero] at this;rw[List.getElem?_eq_getElem (show j+q<S.length by omega),List.getElem?_eq_getElem (show j+q<l.length by omega)] at this;have e:=Option.some.inj this;rw[<- e];congr 1;omega
     have hdr:S.drop (j+(q+1))=l.drop (j+(q+1)):=by
      have:=congrArg (List.drop 1) hSd;rw[List.drop_drop,List.drop_drop] at this;exact this
     have hset:=λv:Int=>qM (v:=v) (show w<S.length by omega);have hdset:∀ v:Int,(S.set w v).drop (j+(q+1))=l.drop (j+(q+1)):=λv=>by
      rw[List.drop_set_of_lt (by omega)];exact hdr
     generalize l[j+q]=u at *;generalize l[j+1+q]=v at *;have e0':S[j+1+(q-1)]?=some u:=by rw[List.getElem?_eq_getElem hs0,e0]
     have e1':S[j+1+q]?=some v:=by rw[List.getElem?_eq_getElem hs1,e1]
     by_cases huv:u=v
     ·have hvu:v=u:=huv.symm;rw[if_pos huv] at hds;have hs:=za hq' (za hq1' (za hSl (za hlq (za hqw (za hww (za hqm (za hs1 (za hs0 (za hwl (za e1 (za e0 (za e0' (za e1' hvu)))))))))))));repeat' first|with_reducible refine zz ?_|simp -dsimp[hs]|refine zM 11 61 10 Qd ?_|with_reducible refine zE Qd ?_|refine i8 ?_ ?_<;>intro h<;>try exact h.elim
      all_goals exact zn ⟨(q+1,w,S),by simp only;omega,by simp only;omega,by simp only;omega,hSl,hds.symm,hdr⟩ (zv [0,3,4,5])
     ·have hvu:¬ v=u:=λh=>huv h.symm;rw[if_neg huv,<- hset v] at hds;have hs:=za hq' (za hq1' (za hSl (za hlq (za hqw (za hww (za hqm (za hs1 (za hs0 (za hwl (za e1 (za e0 (za e0' (za e1' hvu)))))))))))));repeat' first|with_reducible refine zz ?_|simp -dsimp[hs]|refine zM 11 61 10 Qd ?_|with_reducible refine zE Qd ?_|refine i8 ?_ ?_<;>intro h<;>try exact h.elim
      all_goals exact zn ⟨(q+1,w+1,S.set w v),by simp only;omega,by simp only;omega,by simp only;omega,by simpa using hSl,hds.symm,hdset v⟩ (zv [0,3,4,5])
    ·have hq':¬ q<l.length-(j+1):=by omega
     have hw0:w<=l.length:=by omega
     have hs:=za hq' (za hw0 hSl);repeat' first|(with_reducible first|refine zz ?_|refine zr ?_|refine zE Qd ?_)|simp -dsimp[hs]|refine i8 ?_ ?_<;>intro h<;>try exact h.elim
     have hN:j+1+q=l.length:=by omega
     rw[hN,List.take_length] at hSt;have hwd:w=(r8 l).length:=by rw[<- hSt];simp;omega
     exact⟨yj S w (l.length-w),⟨by rw[se (by omega)];exact hSl,by rw[<- hwd,<- hSt];exact List.take_left' (by simp;omega)⟩,by rw[hwd],rfl⟩
   ·have he':¬ l[j+1]=l[j]:=λh=>he h.symm;rw[if_neg he] at hst;have hs:=za hlt (za hj (za hw (za hwj (za hwj2 (za hp0 (za hp1 (za hp2 he')))))));repeat' first|with_reducible refine zz ?_|simp -dsimp[hs]|refine zM 6 61 10 Qd ?_|with_reducible refine zE Qd ?_|refine i8 ?_ ?_<;>intro h<;>try exact h.elim
    exact zn ⟨j+2,by omega,by omega,by rw[hst,show j+2=j+1+1 from rfl,List.take_succ_eq_append_getElem hlt]⟩ (zv [0,3] (by simp;exact hw))
  ·obtain rfl:k=l.length:=by omega
   rw[List.take_length] at hdk;have hs:=hlt;repeat' first|(with_reducible first|refine zz ?_|refine zr ?_|refine zE Qd ?_)|simp -dsimp[hs]|refine i8 ?_ ?_<;>intro h<;>try exact h.elim
   exact⟨l,⟨rfl,by rw[hdk,List.take_length]⟩,by rw[hdk],rfl⟩
def Gq (x:Print) (d:Int):Bool:=decide (x.day<=d) && !(!decide (x.back=-1)&&decide (x.back<=d)) && !decide (x.lost=2)
def tj (d i w:Int) (x:Print):Bool:=Gq x d&&(decide (x.holder=i)&&decide (x.drawing=w))
def aq (d i w:Int) (l:List Print):List Int:=(l.filter λx=>tj d i w x&&decide (x.lost=1)).map (·.letter)
def bI (d i w:Int) (l:List Print):Int:=(l.filter λx=>tj d i w x && !decide (x.lost=1)).foldl (λa x=>max a x.letter) 0
theorem Iy (b:IC) (n:Int):zP prog G 147 [.one (.im b),iv n] (.one (.im (.fn (.func 192) [.ip [b],.ip [rI n]]))):=by
 refine zf func147 ntmps147 ?_;try simp only[iv]
 repeat' first|(with_reducible first|refine zz ?_|refine zx ?_|refine zE [0,1,2,3,4] ?_)|simp -dsimp
def bl (d i w:Int) (l:List Print):List Int:=(r8 (j8 (aq d i w l++[bI d i w l]))).drop (J1 (λx=>decide (bI d i w l=x)) (r8 (j8 (aq d i w l++[bI d i w l])))).toNat
theorem wU (d i w:Int) {l:List Print} {k:Nat} (h:k<l.length):aq d i w (l.take (k+1))=aq d i w (l.take k)++(if (tj d i w l[k]&&decide (l[k].lost=1))=true then [l[k].letter] else []):=by
 unfold aq;rw[List.take_succ_eq_append_getElem h,List.filter_append,List.map_append]
 congr 1
 split<;>simp_all
theorem wv (d i w:Int) {l:List Print} {k:Nat} (h:k<l.length):bI d i w (l.take (k+1))=if (tj d i w l[k] && !decide (l[k].lost=1))=true then max (bI d i w (l.take k)) l[k].letter else bI d i w (l.take k):=by
 unfold bI;rw[List.take_succ_eq_append_getElem h,List.filter_append,List.foldl_append];split<;>simp_all
theorem rH {α:Type} (q:α->Bool) (l:List α):J1 q l<l.length\/l=[]:=by
 unfold J1;split
 ·rename_i j h;rw[List.findIdx?_eq_some_iff_getElem] at h;obtain⟨hlt,_⟩:=h;left;omega
 ·cases l with
  | nil=>exact .inr rfl
  | cons a r=>left;simp;omega
theorem lV (d i w:Int) (l:List Print):(aq d i w l).length<=l.length:=by
 unfold aq;rw[List.length_map];exact List.length_filter_le _ _
@[simp] abbrev QM:List Nat:=[0,1,2,3,4,5,6,7,8,9,10,11,12,13,14,16,18,29,32,46]
theorem Dc (p:Prints) (d i w:Int) (hS:u5 G) (hl:p.prints.length<900):zP prog G 90 [.one (.im (l8 p)),iv d,iv i,iv w] (r5 (bl d i w p.prints)):=by
 refine zf func90 ntmps90 ?_;try simp only[iv,iv,iv]
 simp only[l8];have c1:=Iy (G:=G) (l8 p) d;simp only[l8] at c1;have hs:=trivial;repeat' first|(with_reducible first|refine zz ?_|refine zE [0,1,2,3,6,7,8,9,10,12,13,16,18,29,32] ?_)|simp -dsimp[hs]|refine zp c1 ?_
 all_goals try clear hs
 refine U3 (f:=192) (by simp;exact rfl) (by rfl) call192 ?_;generalize hR:LoopD.mk _ _ _ _ _ _ _=R;have hR1:R.st=.ready:=by rw[<- hR]
 have hR2:R.pend=none:=by rw[<- hR]
 have hR3:R.at .ready none=R:=by rw[<- hR];rfl
 have hR4:=(congrArg LoopD.nt hR).symm;have hR5:=(congrArg LoopD.tm hR).symm;have hR6:=(congrArg LoopD.ps hR).symm;have hR7:=(congrArg LoopD.asg hR).symm;have hR8:=(congrArg LoopD.body hR).symm;dsimp only at hR4 hR5 hR6 hR7 hR8;clear hR;refine h9 func192 rfl ntmps192 (by simp) rfl ?_;have hR9:∀ objs:List DObj,(R.tm.map λx=>(x.1,fZ 7 objs x.2))=R.tm:=by intro objs;rw[hR5];simp
 have hs:=za hR1 (za hR2 hR3);repeat' first|(with_reducible first|refine zz ?_|refine zE QM ?_)|simp -dsimp[hs]
 all_goals try clear hs
 refine i6 (ι:={ q:Nat×Nat×Nat×Bool // q.1<=p.prints.length/\(q.2.2.1=1\/q.2.2.2=true/\aq d i w (p.prints.take q.1)=[]) }) (λq=>⟨48,[(0,.one (.yld 6)),(2,.one (.im (.ip [rI d]))),(11,.one (.im (.sl (p.prints.map A4)))),(12,iv (p.prints.length:Int)),(13,iv (q.1.1:Int))],[.row [.im (rI i)],.row [.im (rI w)],.vec 1 [] 0 true,.row [.im (rI (bI d i w (p.prints.take q.1.1)))],.vec q.1.2.2.1 (l5 ((aq d i w (p.prints.take q.1.1)).map encI)) q.1.2.1 q.1.2.2.2,.row [.vec 4 q.1.2.1 0 (aq d i w (p.prints.take q.1.1)).length],.loop R]⟩) (λq=>p.prints.length-q.1.1) ⟨(0,0,0,true),by simp[aq]⟩ (zv [0,2,11,12,13] (by simp[aq,bI])) ?_;rintro⟨⟨k,g,sz,nl⟩,hk,hz⟩;simp only at hk hz;simp only[iv];by_cases hlt:k<p.prints.length
 ·have hw:=zk k;have hst1:=wU d i w hlt;have hst2:=wv d i w hlt;have hpl:=lV d i w (p.prints.take k);rw[List.length_take] at hpl;have hz':sz=1\/nl=true:=hz.imp id And.left;generalize hx:p.prints[k]=x at *;cases hsel:tj d i w x
  ·rw[hsel] at hst1 hst2;simp only[Bool.false_and,Bool.false_eq_true,if_false,List.append_nil] at hst1 hst2;simp only[tj,Gq] at hsel;simp at hsel;have hz2:sz=1\/nl=true/\aq d i w (p.prints.take (k+1))=[]:=by rw[hst1];exact hz
   clear c1;have hs:=za hR1 (za hR2 (za hR3 (za hx (za hlt (za hw hz')))));repeat' first|(with_reducible first|refine zz ?_|refine And.intro (by omega) ?_|refine zE QM ?_)|simp -dsimp[hs]|with_reducible refine At.yield_end ?_;simp -dsimp[hs]|refine bj ?_ ?_<;>simp -dsimp[hs]|refine R3 ?_;simp -dsimp[U0,hR4,hR5,hR6,hR7,hR8,hs]|refine i8 ?_ ?_<;>intro h<;>try exact h.elim|with_reducible refine j5 ?_ ?_<;>intro h<;>have h0:=h<;>(try simp only[i7] at h)<;>have h2:=h<;>(try simp at h2)<;>replace hs:=za h0 (za h (za h2 hs))
   all_goals try clear hs
   all_goals first
    | (exfalso;omega)
    | exact zn ⟨(k+1,g,sz,nl),by simp only;omega,hz2⟩ (zw [0,2,11,12,13] 7 (by simp[hst1,hst2,hR9]))
  ·rw[hsel] at hst1 hst2;simp only[Bool.true_and] at hst1 hst2;have hq:=hsel;simp only[tj,Gq] at hq;simp at hq;obtain⟨⟨⟨q1,q2⟩,q3⟩,q4,q5⟩:=hq;have hbk:((x.back=-1)/\True)\/(¬ x.back=-1/\¬ x.back<=d):=by
    by_cases hb:x.back=-1
    ·exact .inl ⟨hb,trivial⟩
    ·exact .inr ⟨hb,by omega⟩
   clear hsel q2 c1;have hs:True:=trivial;by_cases hl1:x.lost=1
   ·simp only[hl1,decide_true,if_true,Bool.not_true,Bool.false_eq_true,if_false] at hst1 hst2;rcases hbk with⟨hb1,hb2⟩|⟨hb1,hb2⟩
    all_goals
     have hs:=za hR1 (za hR2 (za hR3 (za hx (za hlt (za hw (za hz' (za q1 (za q3 (za q4 (za q5 (za hb1 (za hb2 hl1))))))))))));repeat' first|(with_reducible first|refine zz ?_|refine And.intro (by omega) ?_|refine zE QM ?_)|simp -dsimp[hs]|with_reducible refine At.yield_end ?_;simp -dsimp[hs]|refine bj ?_ ?_<;>simp -dsimp[hs]|refine R3 ?_;simp -dsimp[U0,hR4,hR5,hR6,hR7,hR8,hs]|refine i8 ?_ ?_<;>intro h<;>try exact h.elim
     all_goals try clear hs
    all_goals exact zn ⟨(k+1,g+1,1,false),by simp only;omega,.inl rfl⟩ (zw [0,2,11,12,13] 7 (by simp[hst1,hst2,hR9]))
   ·simp only[hl1,decide_false,Bool.false_eq_true,if_false,List.append_nil,Bool.not_false,if_true] at hst1 hst2;have hz2:sz=1\/nl=true/\aq d i w (p.prints.take (k+1))=[]:=by rw[hst1];exact hz
    rcases hbk with⟨hb1,hb2⟩|⟨hb1,hb2⟩
    all_goals
     have hs:=za hR1 (za hR2 (za hR3 (za hx (za hlt (za hw (za hz' (za q1 (za q3 (za q4 (za q5 (za hb1 (za hb2 hl1))))))))))));repeat' first|(with_reducible first|refine zz ?_|refine zE QM ?_)|simp -dsimp[hs]|with_reducible refine At.yield_end ?_;simp -dsimp[hs]|refine bj ?_ ?_<;>simp -dsimp[hs]|refine R3 ?_;simp -dsimp[U0,hR4,hR5,hR6,hR7,hR8,hs]|refine i8 ?_ ?_<;>intro h<;>try exact h.elim
     all_goals try clear hs
    all_goals exact zn ⟨(k+1,g,sz,nl),by simp only;omega,hz2⟩ (zw [0,2,11,12,13] 7 (by simp[hst1,hst2,hR9]))
 ·obtain rfl:k=p.prints.length:=by omega
  rw[List.take_length] at *;have hz':sz=1\/nl=true:=hz.imp id And.left;have hpl:=lV d i w p.prints;clear c1;have hs:=za hR1 (za hR2 (za hR3 (za hlt hz')));repeat' first|(with_reducible first|refine zz ?_|refine And.intro (by omega) ?_|refine ze ?_ (by simp -dsimp[D3,hs];exact rfl)|refine zE QM ?_)|simp -dsimp[D3,hs]|with_reducible show D3 _ _ _ _ _ _ _ _;simp -dsimp[D3,hs]|refine i8 ?_ ?_<;>intro h<;>try exact h.elim
  all_goals try clear hs
  obtain⟨L,hL1⟩:∃ L,L=aq d i w p.prints++[bI d i w p.prints]:=⟨_,rfl⟩
  have hE:bl d i w p.prints=(r8 (j8 L)).drop (J1 (λx=>decide (bI d i w p.prints=x)) (r8 (j8 L))).toNat:=by rw[hL1];rfl
  have hv:bI d i w p.prints∈L:=by rw[hL1];simp
  generalize bI d i w p.prints=v at *;have hLn:(aq d i w p.prints).length+1=L.length:=by rw[hL1];simp
  have hLi:l5 ((aq d i w p.prints).map encI)++[[DC.im (IC.raw (Value.int .i64 v))]]=l5 (L.map encI):=by rw[hL1];simp[aD,l5]
  rw[hE];clear hL1 hE;generalize aq d i w p.prints=Q at *;have c1:=hS L (g+1) 1 false (.inl rfl) (by omega);have hil:=N7 L;have c2:=oP (G:=G) (j8 L) (g+1) (by omega);have hdl:=aM (j8 L);rw[hil] at c2;have c3:=rv (G:=G) (r8 (j8 L)) v (by omega);have hs:True:=trivial;rw[hLi];simp only[hLn];have hs:=za hR1 (za hR2 (za hR3 (za hlt (za hLn hLi))));repeat' first|(with_reducible first|refine zz ?_|refine zE QM ?_)|simp -dsimp[hs]|refine CallE.embed [4] (c1) ?_ ?_ ?_ ?_ ?_ ?_;(focus simp[v6];done);(focus simp;done);(focus simp;done);(focus simp;done);(focus refine o5 ?_;simp[v6,r7];done);try simp -dsimp[n7,v6,hs]|refine CallE.embed_ex [4] (c2) ?_ ?_ ?_ ?_ ?_ ?_;(focus simp[v6];done);(focus simp;done);(focus simp;done);(focus simp;done);(focus refine o5 ?_;simp[v6,r7];done);intro mma hmma;try simp -dsimp[n7,v6,hs]
  all_goals try clear hs
  obtain⟨ha1,ha2⟩:=hmma;clear c1 c2;generalize hD:r8 (j8 L)=D at *;have hdm:D.length<=mma.length:=by omega
  have hfi:=rH (λx=>decide (v=x)) D;have hvd:D.any (λx=>decide (v=x))=true:=by
   rw[List.any_eq_true];refine⟨v,?_,by simp⟩;rw[<- hD,gi];exact isort_mem.2 hv
  rw[<- B0] at hvd;have hf0:0<=J1 (λx=>decide (v=x)) D:=of_decide_eq_true hvd;obtain⟨f,hf⟩:=Int.eq_ofNat_of_zero_le hf0;rw[hf] at c3 hfi;have hfd:f<=D.length:=by
   rcases hfi with h|h
   ·omega
   ·rw[h] at hf;simp[J1] at hf
  rw[hf,Int.toNat_natCast];have htk:(l5 (mma.map encI)).take D.length=l5 (D.map encI):=by rw[show (l5 (mma.map encI)).take D.length=l5 ((mma.map encI).take D.length) by simp[l5,List.map_take],<- List.map_take,ha2]
  have hs:True:=trivial;all_goals try simp -dsimp[hR1,hR2,hR3,htk,hdm,hfd,ha1,hs]
  all_goals try clear hs
  have hdL:D.length<=L.length:=by omega
  have htd:List.take (D.length-f) (List.drop f (l5 (mma.map encI)))=l5 ((D.drop f).map encI):=by
   rw[<- List.drop_take,htk];simp[l5,List.map_drop]
  refine CallE.thaw c3 ?_ ?_ ?_
  ·simp[htk,hdm,hfd,ha1,hdL]
  ·simp
  simp -dsimp[htk,hdm,hfd,ha1];have hs:=za hR1 (za hR2 (za hR3 (za htk (za hdm (za hfd (za ha1 (za hdL htd)))))));repeat' first|(with_reducible first|refine zz ?_|refine zr ?_)|simp -dsimp[hs]
  all_goals try clear hs
attribute [simp] w5 B6
noncomputable def P5 (p:Prints) (d i w:Int):List Int:=if O1 p d 1 i w=0 then bl d i w p.prints else []
theorem lS (p:Prints) (d i w:Int) (hG:o4 G) (hN:E2 G) (hS:u5 G) (hR:w0 G) (hk:KP p):zP prog G 45 [D8 p,iv d,iv i,iv w] (.tup [r5 (P5 p d i w),iv (O1 p d 1 i w)]):=by
 refine zf func45 ntmps45 ?_;try simp only[iv,iv,iv]
 have c1:=Ap p d 1 i w hG hN hS hR hk;have c2:=Dc p d i w hS (by have:=hk.p.q;omega);by_cases h0:O1 p d 1 i w=0
 ·have hW:P5 p d i w=bl d i w p.prints:=by unfold P5;rw[if_pos h0]
  simp only[eC,h0,if_true] at c1;rw[hW,h0];simp only[l8] at c1 c2;have c1':=c1 [];simp only[D8,p7,r5,iv,List.map_cons,List.map_nil,encI,rI] at c1';have hs:=trivial;repeat' first|(with_reducible first|refine zz ?_|refine zr ?_|refine zE [0,1,2,3,4,8,9,10,11,22] ?_)|simp -dsimp[hs]|refine CallE.freeze 0 c1' ?_ ?_ ?_ ?_ ?_ ?_;(focus simp;done);(focus simp;done);(focus simp;done);(focus rfl);(focus simp;done);try simp -dsimp[w5]|refine zp c2 ?_|refine i8 ?_ ?_<;>intro h<;>try exact h.elim
 ·have hW:P5 p d i w=[]:=by unfold P5;rw[if_neg h0]
  simp only[eC,h0,if_false] at c1;rw[hW];have c1':=c1 [];simp only[D8,p7,r5,iv,List.map_cons,List.map_nil,encI,rI] at c1';have hs:=h0;repeat' first|(with_reducible first|refine zz ?_|refine zr ?_|refine zE [0,1,2,3,4,8,9,10,11,22] ?_)|simp -dsimp[hs]|refine CallE.freeze 0 c1' ?_ ?_ ?_ ?_ ?_ ?_;(focus simp;done);(focus simp;done);(focus simp;done);(focus rfl);(focus simp;done);try simp -dsimp[w5]|refine i8 ?_ ?_<;>intro h<;>try exact h.elim
open Go Go.Ab
def Db:Dim:=⟨0,0,0⟩
def V0 (c:Chains) (x:Link):Dim:=((u6 c.reg c.lets x.drawing).dims[x.dim.toNat]?).getD Db
structure OkC (c:Chains):Prop where
 reg:l4 c.reg=0
 lets:s7 c.reg c.lets=true
 of:c.of∈nums c.reg
 num:1<=c.loops.length/\c.loops.length<=6
 gap:∀ x∈c.loops,x.links.length<=8/\sh x=true
 link:∀ x∈c.loops,∀ y∈x.links,y.drawing∈nums c.reg/\0<=y.dim/\y.dim<(u6 c.reg c.lets y.drawing).dims.length
def bt (c:Chains) (x:ChLoop):List Dim:=x.links.map (V0 c)
def P9 (high:Bool) (x:Link) (d:Dim):Int:=if high != x.back then d.upper else d.lower
def nj (x:Link) (n:Int):Int:=if x.back then -n else n
def rN (links:List Link) (l:List Dim) (high:Bool):List Int:=(links.zip l).map λp=>P9 high p.1 p.2
def dw (links:List Link) (l:List Dim) (high:Bool):Int:=(links.zip l).foldl (λs p=>s+nj p.1 (P9 high p.1 p.2)) 0
theorem mC {c:Chains} (h:OkC c) {x:ChLoop} (hx:x∈c.loops) {y:Link} (hy:y∈x.links):K0 (V0 c y)=true/\(u6 c.reg c.lets y.drawing).dims[y.dim.toNat]?=some (V0 c y):=by
 obtain⟨h1,h2,h3⟩:=h.link x hx y hy;obtain⟨hm,_⟩:=eF h.reg h.lets h1;have hok:=(L5 (I7 (H2 h.reg))).2.2.2.1 _ hm;have hlt:y.dim.toNat<(u6 c.reg c.lets y.drawing).dims.length:=by omega
 have he:(u6 c.reg c.lets y.drawing).dims[y.dim.toNat]?=some (u6 c.reg c.lets y.drawing).dims[y.dim.toNat]:=by simp[hlt]
 have hd:V0 c y=(u6 c.reg c.lets y.drawing).dims[y.dim.toNat]:=by rw[V0,he,Option.getD_some]
 simp only[n5,Bool.and_eq_true] at hok;rw[hd];exact⟨List.all_eq_true.1 hok.2 _ (List.getElem_mem hlt),he⟩
def er (l:List Itm) (d:Int):Int:=match l with
 | []=>0
 | y :: r=>if y.drawing=d then y.count else er r d
theorem EJ {high:Bool} {x:Link} {d:Dim} (h:K0 d=true):0<=P9 high x d/\P9 high x d<=1000000000:=by
 have:=(aj d).1 h;unfold P9;split<;>omega
theorem FV {high:Bool} {x:Link} {d:Dim} (h:K0 d=true):-1000000000<=nj x (P9 high x d)/\nj x (P9 high x d)<=1000000000:=by
 have:=EJ (high:=high) (x:=x) h;unfold nj;split<;>omega
theorem qH {c:Chains} (h:OkC c) {n:Nat} (hn:n<c.loops.length):(bt c c.loops[n]).length=c.loops[n].links.length/\∀ d∈bt c c.loops[n],K0 d=true:=by
 refine⟨by simp[bt],λd hd=>?_⟩;obtain⟨y,hy,rfl⟩:=List.mem_map.1 hd;exact(mC h (List.getElem_mem hn) hy).1
theorem oO (c:Chains):∃ X,bc c=.one (.im X):=by unfold bc;split<;>exact⟨_,rfl⟩
def E7 (c:Chains) (n:Int):Int:=if B4 c≠0 then B4 c else if 0<=n/\n<c.loops.length then 0 else 2
@[simp] abbrev WH:List Nat:=[0,1,2,4,5,6,7,24]
theorem Ee (c:Chains) (n:Int) (hG:o4 G) (hC:J2 G) (hs:jK c):zP prog G 185 [BS c,iv n] (.tup [bc c,iv (E7 c n)]):=by
 refine zf func185 ntmps185 ?_;try simp only[BS,iv]
 have c1:=BW c hG hC hs;have hl:=hs.2.2.1;have hw:IntKind.i64.wrap ((c.loops.length:Int)-1)=(c.loops.length:Int)-1:=n4 (by omega) (by omega);have c2:=bZ (G:=G) 0 ((c.loops.length:Int)-1) [n] (by simp);have hE:E7 c n=if B4 c≠0 then B4 c else if 0<=n/\n<c.loops.length then 0 else 2:=rfl;obtain⟨X,hX⟩:=oO c;rw[hX];rw[hX] at c1;by_cases h0:B4 c=0
 ·rw[h0] at c1 hE;by_cases hr:0<=n/\n<c.loops.length
  ·have hq:([n].all λx=>decide (0<=x)&&decide (x<=(c.loops.length:Int)-1))=true:=by simp;omega
   rw[hq] at c2;have hs:=hw;repeat' first|(with_reducible first|refine zz ?_|refine zr ?_|refine zE WH ?_)|simp -dsimp[hs]|refine zp c1 ?_|refine zt c2 ?_ ?_ ?_;(focus simp;done);focus (simp;done)|refine i8 ?_ ?_<;>intro h<;>try exact h.elim
   all_goals try clear hs
   simp[hE,hr]
  ·have hq:([n].all λx=>decide (0<=x)&&decide (x<=(c.loops.length:Int)-1))=false:=by simp;omega
   rw[hq] at c2;have hs:=hw;repeat' first|(with_reducible first|refine zz ?_|refine zr ?_|refine zE WH ?_)|simp -dsimp[hs]|refine zp c1 ?_|refine zt c2 ?_ ?_ ?_;(focus simp;done);focus (simp;done)|refine i8 ?_ ?_<;>intro h<;>try exact h.elim
   all_goals try clear hs
   simp[hE,hr]
 ·have hs:=h0;repeat' first|(with_reducible first|refine zz ?_|refine zr ?_|refine zE WH ?_)|simp -dsimp[hs]|refine zp c1 ?_|refine i8 ?_ ?_<;>intro h<;>try exact h.elim
  all_goals try clear hs
  simp[hE,h0]
theorem DU (d k:Int):zP prog G 188 [E1 d k] (bv false):=by
 refine zf func188 ntmps188 ?_;try simp only[E1]
 repeat' first|(with_reducible first|refine zz ?_|refine zx ?_|refine zE [0,2] ?_)|simp -dsimp
theorem FT (x:Link):zP prog G 236 [AR x] (E1 x.drawing x.dim):=by
 refine zf func236 ntmps236 ?_;try simp only[AR]
 repeat' first|(with_reducible first|refine zz ?_|refine zx ?_|refine zE [0,1,2] ?_)|simp -dsimp
def fP:IC:=.fn (.func 188) []
@[simp] abbrev Wr:List Nat:=[0,1,2,3,8,9,11,12,21,22,23,24,42]
theorem Aq (c:Chains) (D:List (Int×Int)) (n:Nat) (hn:n<c.loops.length) (h:OkC c):zP prog G 187 [.one (.im (K6 c D (bp c.reg c.lets))),iv (n:Int),iv 0,.one (.im fP)] (.one (.im (.sl ((bt c c.loops[n]).map F2)))):=by
 refine zf func187 ntmps187 ?_;try simp only[iv,iv]
 have hx:c.loops[n]?=some c.loops[n]:=by simp[hn]
 have hln:=h.gap c.loops[n] (List.getElem_mem hn);have hok:=λy hy=>mC h (List.getElem_mem hn) (y:=y) hy;have hlk:=h.link c.loops[n] (List.getElem_mem hn);have hE:bt c c.loops[n]=c.loops[n].links.map (V0 c):=rfl;simp only[K6,fP];have hs:=za hx hn;repeat' first|(with_reducible first|refine zz ?_|refine zE Wr ?_)|simp -dsimp[hs]
 generalize hls:c.loops[n].links=ls at *;refine i6 (ι:={ p:Nat×Nat×Bool×List Dim // p.1<=ls.length/\p.2.2.2=(ls.take p.1).map (V0 c) }) (λp=>⟨52,[(0,.one (.im (K6 c D (bp c.reg c.lets)))),(2,iv 0),(3,.one (.im fP)),(9,.one (.vec 1 p.1.2.1 0 p.1.2.2.2.length)),(21,.one (.im (.sl (ls.map H0)))),(22,iv (ls.length:Int)),(23,iv (p.1.1:Int))],[.vec 3 [] 0 true,.vec 3 (l5 (p.1.2.2.2.map F2)) p.1.2.1 p.1.2.2.1]⟩) (λp=>ls.length-p.1.1) ⟨(0,0,true,[]),by simp⟩ (zv [0,2,3,9,21,22,23] (by simp[K6,fP])) ?_;rintro⟨⟨k,g,nl,out⟩,hk,ho⟩;simp only at hk ho;simp only[iv,K6,fP];have hol:out.length=k:=by rw[ho];simp;omega
 by_cases hlt:k<ls.length
 ·have hy:ls[k]?=some ls[k]:=by simp[hlt]
  have hw:=zk k;obtain⟨l1,l2,l3⟩:=hlk ls[k] (List.getElem_mem hlt);obtain⟨_,he⟩:=hok ls[k] (List.getElem_mem hlt);have hlook:K2 (bp c.reg c.lets) ls[k].drawing=u6 c.reg c.lets ls[k].drawing:=by rw[bp,V5,if_pos l1]
  obtain⟨j,hj⟩:∃ j:Nat,ls[k].dim=j:=⟨ls[k].dim.toNat,by omega⟩
  rw[hj,Int.toNat_natCast] at he;have hjl:=e7 he;have hje:=(List.getElem?_eq_some_iff.1 he).2;have c2:=FT (G:=G) ⟨ls[k].drawing,j,ls[k].back⟩;have c3:=DU (G:=G) ls[k].drawing j;simp only[E1] at c2 c3;have hon:out++[V0 c ls[k]]=(ls.take (k+1)).map (V0 c):=by rw[List.take_succ_eq_append_getElem hlt,List.map_append,ho];rfl
  have hs:=za hy (za hw (za hlt (za hlook (za hj (za hjl (za he hje))))));repeat' first|(with_reducible first|refine zz ?_|refine And.intro (by omega) ?_)|simp -dsimp[hs]|refine zp c2 ?_|refine zp c3 ?_|refine H7 (id:=5) (nt:=52) 13 [] [0,1,2,3,8,9,11,12,21,22,23,24,27,28,29,30,31,32,33,34,35,36,37,38,42] Wr mixed rfl (by kernel_rfl) ?_|with_reducible refine zE Wr ?_|refine i8 ?_ ?_<;>intro h<;>try exact h.elim
  all_goals try omega
  exact zn ⟨(k+1,g+1,false,out++[V0 c ls[k]]),by omega,hon⟩ (zw [0,2,3,9,21,22,23] 2 (by simp[K6,fP]))
 ·have hs:=hlt;repeat' first|(with_reducible first|refine zz ?_|refine zr ?_|refine zE Wr ?_)|simp -dsimp[hs]|refine i8 ?_ ?_<;>intro h<;>try exact h.elim
  all_goals try omega
  rw[hE,ho,List.take_of_length_le (by omega)]
@[simp] abbrev QN:List Nat:=[0,1,2,3,8,9,10,11,12,13,14,15,24,25,26,27,37,41]
@[simp] abbrev Ws:List Nat:=[2,3,10,11,24,25,26]
theorem Aw (c:Chains) (D:List (Int×Int)) (B:List (Int×Issue)) (n:Nat) (hn:n<c.loops.length) (l:List Dim) (high:Bool) (hl:c.loops[n].links.length<=12) (he:l.length=c.loops[n].links.length) (hd:∀ d∈l,K0 d=true):zP prog G 235 [.one (.im (K6 c D B)),iv (n:Int),.one (.im (.sl (l.map F2))),bv high] (.tup [r5 (rN c.loops[n].links l high),iv (dw c.loops[n].links l high)]):=by
 refine zf func235 ntmps235 ?_;try simp only[iv,bv]
 have hxn:c.loops[n]?=some c.loops[n]:=by simp[hn]
 simp only[K6];have hs:=za hxn hn;repeat' first|(with_reducible first|refine zz ?_|refine zE QN ?_)|simp -dsimp[hs]
 all_goals try clear hs
 generalize c.loops[n].links=ls at *;refine i6 (ι:={ p:Nat×Nat×Bool×List Int×Int // p.1<=ls.length/\p.2.2.2.1.length=p.1/\rN ls l high=p.2.2.2.1++((ls.zip l).drop p.1).map (λq=>P9 high q.1 q.2)/\dw ls l high=((ls.zip l).drop p.1).foldl (λs q=>s+nj q.1 (P9 high q.1 q.2)) p.2.2.2.2/\-1000000000*(p.1:Int)<=p.2.2.2.2/\p.2.2.2.2<=1000000000*(p.1:Int) }) (λp=>⟨59,[(2,.one (.im (.sl (l.map F2)))),(3,bv high),(10,iv p.1.2.2.2.2),(11,.one (.vec 1 p.1.2.1 0 p.1.2.2.2.1.length)),(24,.one (.im (.sl (ls.map H0)))),(25,iv (ls.length:Int)),(26,iv (p.1.1:Int))],[.vec 1 [] 0 true,.vec 1 (l5 (p.1.2.2.2.1.map encI)) p.1.2.1 p.1.2.2.1]⟩) (λp=>ls.length-p.1.1) ⟨(0,0,true,[],0),by simp[rN,dw]⟩ (zv [2,3,10,11,24,25,26]) ?_;rintro⟨⟨k,g,nl,out,s⟩,hk,hol,ho,hs,hb1,hb2⟩;simp only at hk hol ho hs hb1 hb2;simp only[iv,bv];by_cases hlt:k<ls.length
 ·have hkl:k<l.length:=by omega
  have hx:ls[k]?=some ls[k]:=by simp[hlt]
  have hy:l[k]?=some l[k]:=by simp[hkl]
  have hw:=zk k;have hz:k<(ls.zip l).length:=by simp;omega
  rw[List.drop_eq_getElem_cons hz,List.getElem_zip,List.map_cons] at ho;rw[List.drop_eq_getElem_cons hz,List.getElem_zip,List.foldl_cons] at hs;have hdk:=hd l[k] (List.getElem_mem hkl);have hdl:=(aj _).1 hdk;have hsb:=FV (high:=high) (x:=ls[k]) hdk;have hws:IntKind.i64.wrap (s+nj ls[k] (P9 high ls[k] l[k]))=s+nj ls[k] (P9 high ls[k] l[k]):=n4 (by omega) (by omega);have hon:rN ls l high=(out++[P9 high ls[k] l[k]])++((ls.zip l).drop (k+1)).map (λq=>P9 high q.1 q.2):=by rw[ho];simp
  have hwl:IntKind.i64.wrap (-l[k].lower)=-l[k].lower:=n4 (by omega) (by omega);have hwu:IntKind.i64.wrap (-l[k].upper)=-l[k].upper:=n4 (by omega) (by omega);have hwl1:IntKind.i64.wrap l[k].lower=l[k].lower:=n4 (by omega) (by omega);have hwu1:IntKind.i64.wrap l[k].upper=l[k].upper:=n4 (by omega) (by omega);have hfin:k+1<=ls.length/\(out++[P9 high ls[k] l[k]]).length=k+1/\rN ls l high=(out++[P9 high ls[k] l[k]])++((ls.zip l).drop (k+1)).map (λq=>P9 high q.1 q.2)/\dw ls l high=((ls.zip l).drop (k+1)).foldl (λs q=>s+nj q.1 (P9 high q.1 q.2)) (s+nj ls[k] (P9 high ls[k] l[k]))/\-1000000000*((k+1:Nat):Int)<=s+nj ls[k] (P9 high ls[k] l[k])/\s+nj ls[k] (P9 high ls[k] l[k])<=1000000000*((k+1:Nat):Int):=⟨by omega,by simp;omega,hon,hs,by omega,by omega⟩
  cases hbk:ls[k].back<;>cases high;all_goals have hN:∀ h,P9 h ls[k] l[k]=if h != ls[k].back then l[k].upper else l[k].lower:=λ_=>rfl
  all_goals have hS:∀ n,nj ls[k] n=if ls[k].back then -n else n:=λ_=>rfl
  all_goals simp only[hN,hS,hbk,bne_self_eq_false,Bool.false_eq_true,if_false,if_true,Bool.true_bne,Bool.false_bne,Bool.not_false] at hws hfin
  all_goals clear hN hS
  ·have hs:=za hx (za hy (za hw (za hlt (za hkl (za hbk (za hws (za hwl1 hwu1)))))));repeat' first|(with_reducible first|refine zz ?_|refine And.intro (by omega) ?_|refine zE QN ?_)|simp -dsimp[hs]|refine i8 ?_ ?_<;>intro h<;>try exact h.elim
   all_goals try clear hs
   all_goals try omega
   exact zn ⟨(k+1,g+1,false,out++[l[k].lower],s+l[k].lower),hfin⟩ (zw Ws 2)
  ·have hs:=za hx (za hy (za hw (za hlt (za hkl (za hbk (za hws (za hwl1 hwu1)))))));repeat' first|(with_reducible first|refine zz ?_|refine And.intro (by omega) ?_|refine zE QN ?_)|simp -dsimp[hs]|refine i8 ?_ ?_<;>intro h<;>try exact h.elim
   all_goals try clear hs
   all_goals try omega
   exact zn ⟨(k+1,g+1,false,out++[l[k].upper],s+l[k].upper),hfin⟩ (zw Ws 2)
  ·have hs:=za hx (za hy (za hw (za hlt (za hkl (za hbk (za hws (za hwl hwu)))))));repeat' first|(with_reducible first|refine zz ?_|refine And.intro (by omega) ?_|refine zE QN ?_)|simp -dsimp[hs]|refine i8 ?_ ?_<;>intro h<;>try exact h.elim
   all_goals try clear hs
   all_goals try omega
   exact zn ⟨(k+1,g+1,false,out++[l[k].upper],s + -l[k].upper),hfin⟩ (zw Ws 2)
  ·have hs:=za hx (za hy (za hw (za hlt (za hkl (za hbk (za hws (za hwl hwu)))))));repeat' first|(with_reducible first|refine zz ?_|refine And.intro (by omega) ?_|refine zE QN ?_)|simp -dsimp[hs]|refine i8 ?_ ?_<;>intro h<;>try exact h.elim
   all_goals try clear hs
   all_goals try omega
   exact zn ⟨(k+1,g+1,false,out++[l[k].lower],s + -l[k].lower),hfin⟩ (zw Ws 2)
 ·rw[List.drop_eq_nil_of_le (by simp;omega)] at ho hs;have hs:=hlt;repeat' first|(with_reducible first|refine zz ?_|refine zr ?_|refine zE QN ?_)|simp -dsimp[hs]|refine i8 ?_ ?_<;>intro h<;>try exact h.elim
  all_goals try clear hs
  all_goals try omega
  rw[ho,hs];simp
theorem Ar (c:Chains) (D:List (Int×Int)) (B:List (Int×Issue)) (n:Nat) (hn:n<c.loops.length) (l:List Dim) (hl:c.loops[n].links.length<=12) (he:l.length=c.loops[n].links.length) (hd:∀ d∈l,K0 d=true):zP prog G 186 [.one (.im (K6 c D B)),iv (n:Int),.one (.im (.sl (l.map F2)))] (E1 (dw c.loops[n].links l false) (dw c.loops[n].links l true)):=by
 refine zf func186 ntmps186 ?_;try simp only[iv]
 have c2:=Aw (G:=G) c D B n hn l false hl he hd;have c3:=Aw (G:=G) c D B n hn l true hl he hd;repeat' first|(with_reducible first|refine zz ?_|refine zx ?_|refine zE [0,1,2,6,8,10] ?_)|simp -dsimp|refine zp c2 ?_|refine zp c3 ?_
def Jb (c:Chains) (n:Int):Int:=match c.loops[n.toNat]? with|some x=>dw x.links (bt c x) false|none=>0
def Jt (c:Chains) (n:Int):Int:=match c.loops[n.toNat]? with|some x=>dw x.links (bt c x) true|none=>0
def wK (c:Chains) (n:Int):Int:=if E7 c n=0 then Jb c n else 0
def wL (c:Chains) (n:Int):Int:=if E7 c n=0 then Jt c n else 0
@[simp] abbrev QO:List Nat:=[0,1,2,4,5,6,7,15]
theorem Ax (c:Chains) (n:Int) (hG:o4 G) (hC:J2 G) (hs:jK c) (hok:B4 c=0->OkC c):zP prog G 141 [BS c,iv n] (.tup [E1 (wK c n) (wL c n),iv (E7 c n)]):=by
 refine zf func141 ntmps141 ?_;try simp only[BS,iv]
 have c1:=Ee c n hG hC hs;by_cases hE:E7 c n=0
 ·have h0:B4 c=0:=by
   by_cases h:B4 c=0
   ·exact h
   ·simp[E7,h] at hE
  have hr:0<=n/\n<c.loops.length:=Classical.byContradiction λh=>by simp[E7,h0,h] at hE
  obtain⟨k,rfl⟩:∃ k:Nat,n=k:=⟨n.toNat,by omega⟩
  have hk:k<c.loops.length:=by omega
  have h:=hok h0;have hx:c.loops[k]?=some c.loops[k]:=by simp[hk]
  have c2:=Aq (G:=G) c (T6 c) k hk h;obtain⟨hsl,hsd⟩:=qH h hk;have hln:=(h.gap c.loops[k] (List.getElem_mem hk)).1;have c3:=Ar (G:=G) c (T6 c) (bp c.reg c.lets) k hk (bt c c.loops[k]) (by omega) hsl hsd;have h1:Jb c (k:Int)=dw c.loops[k].links (bt c c.loops[k]) false:=by simp only[Jb,Int.toNat_natCast,hx]
  have h2:Jt c (k:Int)=dw c.loops[k].links (bt c c.loops[k]) true:=by simp only[Jt,Int.toNat_natCast,hx]
  rw[<- h1,<- h2] at c3;rw[hE] at c1;simp only[bc,h0,if_true,K6] at c1;rw[wK,wL,if_pos hE,if_pos hE];simp only[K6,fP,E1] at c2 c3;have hs:=trivial;repeat' first|(with_reducible first|refine zz ?_|refine zr ?_|refine zE QO ?_)|simp -dsimp[hs]|refine zp c1 ?_|refine zp c2 ?_|refine zp c3 ?_|refine i8 ?_ ?_<;>intro h<;>try exact h.elim
  all_goals try clear hs
  all_goals simp[hE]
 ·obtain⟨X,hX⟩:=oO c;rw[hX] at c1;rw[wK,wL,if_neg hE,if_neg hE];have hs:=hE;repeat' first|(with_reducible first|refine zz ?_|refine zr ?_|refine zE QO ?_)|simp -dsimp[hs]|refine zp c1 ?_|refine i8 ?_ ?_<;>intro h<;>try exact h.elim
  all_goals try clear hs
theorem oK (h1:Bool):∀ (q:List (Link×Dim)) (a b:Int),(∀ p∈q,K0 p.2=true)->a<=b->q.foldl (λs p=>s+nj p.1 (P9 false p.1 p.2)) a<=q.foldl (λs p=>s+nj p.1 (P9 true p.1 p.2)) b
 | [],a,b,_,h=>h
 | p :: q,a,b,hd,h=>by
   rw[List.foldl_cons,List.foldl_cons];refine oK h1 q _ _ (λp hp=>hd p (by simp[hp])) ?_;have hp:=(aj _).1 (hd p (by simp));have:nj p.1 (P9 false p.1 p.2)<=nj p.1 (P9 true p.1 p.2):=by
    unfold nj P9;cases p.1.back<;>simp<;>omega
   omega
theorem Ja {ls:List Link} {l:List Dim} (hd:∀ d∈l,K0 d=true):dw ls l false<=dw ls l true:=
 oK true _ 0 0 (λ_ hp=>hd _ (List.of_mem_zip hp).2) (Int.le_refl _)
def KG (c:Chains) (n:Int):Int:=match c.loops[n.toNat]? with
 | some x=>if x.lo<=wK c n/\wL c n<=x.hi then 2 else if wL c n<x.lo\/x.hi<wK c n then 0 else 1
 | none=>0
def K8 (c:Chains) (n:Int):Int:=if E7 c n=0 then KG c n else 0
def sY (n:Int):DV:=.one (.im (.raw (.int .u8 n)))
attribute [simp] sY
theorem dU {c:Chains} {n:Int} (h:E7 c n=0):B4 c=0/\∃ k:Nat,n=k/\k<c.loops.length:=by
 have h0:B4 c=0:=by
  by_cases h':B4 c=0
  ·exact h'
  ·simp[E7,h'] at h
 have hr:0<=n/\n<c.loops.length:=Classical.byContradiction λh'=>by simp[E7,h0,h'] at h
 exact⟨h0,n.toNat,by omega,by omega⟩
theorem Ag {c:Chains} {n:Int} (h:E7 c n=0) (hok:B4 c=0->OkC c):wK c n<=wL c n:=by
 obtain⟨h0,k,rfl,hk⟩:=dU h;have hx:c.loops[k]?=some c.loops[k]:=by simp[hk]
 obtain⟨hsl,hsd⟩:=qH (hok h0) hk;rw[wK,wL,if_pos h,if_pos h];simp only[Jb,Jt,Int.toNat_natCast,hx];exact Ja hsd
@[simp] abbrev WI:List Nat:=[0,1,2,4,5,6,7,8,16,24,35]
theorem nX (c:Chains) (n:Int) (hG:o4 G) (hC:J2 G) (hs:jK c) (hok:B4 c=0->OkC c):zP prog G 88 [BS c,iv n] (.tup [sY (K8 c n),iv (E7 c n)]):=by
 refine zf func88 ntmps88 ?_;try simp only[BS,iv]
 have c1:=Ax c n hG hC hs hok;by_cases hE:E7 c n=0
 ·have hle:=Ag hE hok;obtain⟨h0,k,rfl,hk⟩:=dU hE;have hx:c.loops[k]?=some c.loops[k]:=by simp[hk]
  have hK:K8 c (k:Int)=if c.loops[k].lo<=wK c (k:Int)/\wL c (k:Int)<=c.loops[k].hi then 2 else if wL c (k:Int)<c.loops[k].lo\/c.loops[k].hi<wK c (k:Int) then 0 else 1:=by simp only[K8,KG,Int.toNat_natCast,hx,if_pos hE]
  generalize wK c (k:Int)=a at *;generalize wL c (k:Int)=b at *;have c2:=bZ (G:=G) c.loops[k].lo c.loops[k].hi [a,b] (by simp);simp only[E1,hE] at c1;by_cases hin:c.loops[k].lo<=a/\b<=c.loops[k].hi
  ·have hq:([a,b].all λx=>decide (c.loops[k].lo<=x)&&decide (x<=c.loops[k].hi))=true:=by simp;omega
   rw[if_pos hin] at hK;rw[hq] at c2;have hs:=za hx hk;repeat' first|(with_reducible first|refine zz ?_|refine zr ?_|refine zE WI ?_)|simp -dsimp[hs]|refine zp c1 ?_|refine zt c2 ?_ ?_ ?_;(focus simp;done);focus (simp;done)|refine i8 ?_ ?_<;>intro h<;>try exact h.elim
   all_goals try clear hs
   all_goals simp[hK,hE]
  ·have hq:([a,b].all λx=>decide (c.loops[k].lo<=x)&&decide (x<=c.loops[k].hi))=false:=by simp;omega
   rw[if_neg hin] at hK;rw[hq] at c2;have hs:=za hx hk;repeat' first|(with_reducible first|refine zz ?_|refine zr ?_|refine zE WI ?_)|simp -dsimp[hs]|refine zp c1 ?_|refine zt c2 ?_ ?_ ?_;(focus simp;done);focus (simp;done)|refine i8 ?_ ?_<;>intro h<;>try exact h.elim
   all_goals try clear hs
   all_goals first
    | (exfalso;omega)
    | (rw[if_pos (by omega)] at hK;simp[hK,hE];done)
    | (rw[if_neg (by omega)] at hK;simp[hK,hE])
 ·have hK:K8 c n=0:=by simp[K8,hE]
  have hs:=hE;repeat' first|(with_reducible first|refine zz ?_|refine zr ?_|refine zE WI ?_)|simp -dsimp[hs]|refine zp c1 ?_|refine i8 ?_ ?_<;>intro h<;>try exact h.elim
  all_goals try clear hs
  all_goals simp[hK]
end Go.Proofs
namespace Go.Proofs
open Go Go.Ab
theorem mn {l:List Issue} {lets:List Int} (h0:l4 l=0) (hlet:s7 l lets=true) {dep:Int->Int} (hdep:∀ n∈nums l,1<=dep n/\dep n<=6/\∀ c∈dx l n,c∈nums l/\dep c<dep n) :
 ∀ (k:Nat) (d m:Int),d∈nums l->∀ p∈O9 (u6 l lets) k d m,p.1∈nums l
 | 0,_,_,_,p,hp=>by cases hp
 | k+1,d,m,hd,p,hp=>by
   rw[O9] at hp;split at hp
   ·rw[List.mem_singleton] at hp;rw[hp];exact hd
   ·obtain⟨y,hy,hp⟩:=List.mem_flatMap.1 hp;have hc:=(hdep d hd).2.2 _ (lD h0 hlet hd y hy);exact mn h0 hlet hdep k _ _ hc.1 p hp
theorem pf {ns:List Int} (hnd:ns.Nodup):∀ (lv:List (Int×Int)) (m:List (Int×Int)),(∀ p∈lv,p.1∈ns)->HF ns (ns.map (n3 m)) lv=ns.map (n3 (kG m lv))
 | [],_,_=>rfl
 | p :: lv,m,h=>by
   have h1:=pf hnd lv (N9 p.1 (IntKind.i64.wrap (n3 m p.1+p.2)) m) λq hq=>h q (by simp[hq]);obtain⟨j,hj⟩:=List.mem_iff_getElem?.1 (h p (by simp));have he:HG ns (ns.map (n3 m)) p=ns.map (n3 (N9 p.1 (IntKind.i64.wrap (n3 m p.1+p.2)) m)):=by
    simp only[HG,fY hnd hj,Int.toNat_natCast,List.getElem?_map,hj,Option.map_some,Option.getD_some];rw[me hnd hj];refine List.map_congr_left λn _=>?_;rw[ai];by_cases e:n=p.1<;>simp[e]
   simp only[HF,kG,List.foldl_cons] at h1 ⊢;rw[he];exact h1
theorem fH (f:Int->Int):∀ ns:List Int,((ns.zip (ns.map f)).filter λp=>decide (0<p.2)).map (λp=>(⟨p.1,p.2⟩:Itm))=(ns.filter λn=>decide (0<f n)).map λn=>⟨n,f n⟩
 | []=>rfl
 | n :: ns=>by
   simp only[List.map_cons,List.zip_cons_cons,List.filter_cons];by_cases h:0<f n
   ·simp only[h,decide_true,if_true,List.map_cons,fH f ns]
   ·simp only[h,decide_false,Bool.false_eq_true,if_false,fH f ns]
theorem qS {l:List Issue} {lets:List Int} {d:Int} (h0:l4 l=0) (hlet:s7 l lets=true) (hd:d∈nums l):lW l lets d=L9 (nums l) (nB l lets d):=by
 obtain⟨dep,hdep⟩:=rV h0;have hnd:(nums l).Nodup:=(D5 h0).1.imp λh=>Int.ne_of_lt h;have h1:=pf hnd (O9 (u6 l lets) 6 d 1) [] (mn h0 hlet hdep 6 d 1 hd);have h2:(nums l).map (n3 [])=List.replicate (nums l).length 0:=kQ (λ_=>rfl) _;rw[h2] at h1;have h3:JA l lets d=(nums l).map (n3 (nB l lets d)):=h1;rw[lW,h3,fH];rfl
theorem mh:∀ (ps:List Itm) (m:List (Int×Int)) (d:Int),(ps.map (·.drawing)).Nodup->n3 (ps.foldl (λm x=>N9 x.drawing x.count m) m) d=if d∈ps.map (·.drawing) then er ps d else n3 m d
 | [],m,d,_=>by simp
 | y :: ps,m,d,h=>by
   rw[List.map_cons,List.nodup_cons] at h;rw[List.foldl_cons,mh ps _ d h.2,ai,er];by_cases e:d=y.drawing
   ·subst e;rw[if_neg h.1,if_pos rfl,if_pos (by simp),if_pos rfl]
   ·rw[if_neg e,if_neg (Ne.symm e)];by_cases hm:d∈ps.map (·.drawing)
    ·rw[if_pos hm,if_pos (by simp only[List.map_cons,List.mem_cons];exact .inr hm)]
    ·rw[if_neg hm,if_neg (by simp only[List.map_cons,List.mem_cons];exact λh=>h.elim e hm)]
theorem eq:∀ (ps:List Itm) (d:Int),d∉ps.map (·.drawing)->er ps d=0
 | [],_,_=>rfl
 | y :: ps,d,h=>by
   rw[List.map_cons,List.mem_cons,not_or] at h;rw[er,if_neg (Ne.symm h.1)];exact eq ps d h.2
def qf (ls:List Link) (d:Int):Nat:=(ls.filter λy=>decide (y.drawing=d)).length
theorem fb (y:Link) (r:List Link) (d:Int):qf (y :: r) d=(if y.drawing=d then 1 else 0)+qf r d:=by
 unfold qf;by_cases h:y.drawing=d
 ·rw[List.filter_cons_of_pos (by simpa using h),if_pos h,List.length_cons];omega
 ·rw[List.filter_cons_of_neg (by simpa using h),if_neg h];omega
theorem sc {ls:List Link} {y:Link} (h:y∈ls):1<=qf ls y.drawing:=
 List.length_pos_of_mem (List.mem_filter.2 ⟨h,by simp⟩)
theorem yi {ls:List Link} {d:Int} (h:∀ y∈ls,y.drawing≠d):qf ls d=0:=by
 unfold qf;rw[List.filter_eq_nil_iff.2 λy hy=>by simpa using h y hy];rfl
def vW (B:List (Int×Issue)) (y:Link):Bool:=decide (0<=y.dim)&&decide (y.dim<=((K2 B y.drawing).dims.length:Int)-1)
theorem lq (D:List (Int×Int)) (B:List (Int×Issue)):∀ (r:List Link) (U:List (Int×Int)),Y4 D B U r=true↔∀ y∈r,vW B y=true/\n3 U y.drawing+qf r y.drawing<=n3 D y.drawing
 | [],U=>by simp[Y4]
 | y :: r,U=>by
   have ih:=lq D B r (N9 y.drawing (n3 U y.drawing+1) U);have hu:Y4 D B U (y :: r)=(decide (n3 U y.drawing+1<=n3 D y.drawing)&&vW B y&&Y4 D B (N9 y.drawing (n3 U y.drawing+1) U) r):=rfl;rw[hu,Bool.and_eq_true,Bool.and_eq_true,decide_eq_true_eq,ih];constructor
   ·rintro⟨⟨h1,h2⟩,h3⟩ z hz;have key:∀ z∈r,vW B z=true/\n3 U z.drawing+qf (y :: r) z.drawing<=n3 D z.drawing:=λz hz=>by
     obtain⟨a,b⟩:=h3 z hz;rw[ai] at b;rw[fb];refine⟨a,?_⟩;by_cases e:z.drawing=y.drawing
     ·rw[if_pos e] at b;rw[if_pos e.symm];rw[e] at b ⊢;omega
     ·rw[if_neg e] at b;rw[if_neg (Ne.symm e)];omega
    rcases List.mem_cons.1 hz with rfl|hz
    ·refine⟨h2,?_⟩;by_cases hex:∃ w∈r,w.drawing=z.drawing
     ·obtain⟨w,hw,e⟩:=hex;have:=(key w hw).2;rw[e] at this;exact this
     ·rw[fb,if_pos rfl,yi λw hw e=>hex ⟨w,hw,e⟩];omega
    ·exact key z hz
   ·intro h;obtain⟨a,b⟩:=h y (by simp);rw[fb,if_pos rfl] at b;refine⟨⟨by omega,a⟩,λz hz=>?_⟩;obtain⟨a',b'⟩:=h z (by simp[hz]);refine⟨a',?_⟩;rw[fb] at b';rw[ai];by_cases e:z.drawing=y.drawing
    ·rw[if_pos e.symm,e] at b';rw[if_pos e,e];omega
    ·rw[if_neg (Ne.symm e)] at b';rw[if_neg e];omega
def pH (c:Chains) (ls:List Link) (y:Link):Bool:=decide ((qf ls y.drawing:Int)<=er (lW c.reg c.lets c.of) y.drawing)&&(decide (0<=y.dim)&&decide (y.dim<=((u6 c.reg c.lets y.drawing).dims.length:Int)-1))
def cE (c:Chains) (x:ChLoop):Bool:=uH x&&sh x&&x.links.all (pH c x.links)
theorem lX {c:Chains} {d:Int} (h0:l4 c.reg=0) (hlet:s7 c.reg c.lets=true) (hof:c.of∈nums c.reg) (hc:1<=er (lW c.reg c.lets c.of) d):d∈nums c.reg:=by
 refine Classical.byContradiction λhn=>?_;rw[qS h0 hlet hof,eq] at hc
 ·omega
 ·intro hm;simp only[L9,List.map_map] at hm;obtain⟨n,h1,h2⟩:=List.mem_map.1 hm;simp only[Function.comp] at h2;exact hn (h2 ▸ (List.mem_filter.1 h1).1)
theorem xj {c:Chains} (h0:l4 c.reg=0) (hlet:s7 c.reg c.lets=true) (hof:c.of∈nums c.reg) (x:ChLoop):O8 (T6 c) (bp c.reg c.lets) x=cE c x:=by
 have hnd:(nums c.reg).Nodup:=(D5 h0).1.imp λh=>Int.ne_of_lt h;have hT:C4 c.reg c.lets c.of=0:=by simp[C4,h0,hlet,hof]
 have hD:∀ d,n3 (T6 c) d=er (lW c.reg c.lets c.of) d:=λd=>by
  rw[qS h0 hlet hof];have hE:ci c.reg c.lets c.of=L9 (nums c.reg) (nB c.reg c.lets c.of):=by rw[ci,if_pos hT]
  have hn:((L9 (nums c.reg) (nB c.reg c.lets c.of)).map (·.drawing)).Nodup:=by
   simp only[L9,List.map_map];have:(λx:Itm=>x.drawing) ∘ (λn=>(⟨n,n3 (nB c.reg c.lets c.of) n⟩:Itm))=id:=rfl;rw[this,List.map_id];exact hnd.filter _
  rw[T6,hE,mh _ _ _ hn];split
  ·rfl
  ·rw[eq _ _ ‹_›];rfl
 unfold O8 cE
 congr 1
 rw[Bool.eq_iff_iff,lq,List.all_eq_true];refine forall_congr' λy=>forall_congr' λhy=>?_;simp only[pH,vW,Bool.and_eq_true,decide_eq_true_eq,hD];have hp:=sc hy;have hz:n3 [] y.drawing=0:=rfl;constructor
 ·rintro⟨h1,h2⟩;have hm:=lX (d:=y.drawing) h0 hlet hof (by omega);rw[bp,V5,if_pos hm] at h1;exact⟨by omega,h1⟩
 ·rintro⟨h1,h2⟩;have hm:=lX (d:=y.drawing) h0 hlet hof (by omega);rw[bp,V5,if_pos hm];exact⟨h2,by omega⟩
theorem qi {c:Chains} (h0:l4 c.reg=0):B4 c=(if s7 c.reg c.lets=true/\c.of∈nums c.reg/\(1<=c.loops.length/\c.loops.length<=6)/\c.loops.all (cE c)=true then 0 else 60):=by
 unfold B4;rw[if_neg (by simp[h0])];by_cases hlet:s7 c.reg c.lets=true
 ·by_cases hof:c.of∈nums c.reg
  ·have hT:C4 c.reg c.lets c.of=0:=by simp[C4,h0,hlet,hof]
   have hL:c.loops.all (O8 (T6 c) (bp c.reg c.lets))=c.loops.all (cE c):=by
    congr 1;exact funext λx=>xj h0 hlet hof x
   rw[hL];by_cases hn:1<=c.loops.length/\c.loops.length<=6
   ·rw[if_neg (by simp[hT];omega)];by_cases ha:c.loops.all (cE c)=true
    ·rw[if_pos ha,if_pos ⟨hlet,hof,hn,ha⟩]
    ·rw[if_neg ha,if_neg λh=>ha h.2.2.2]
   ·rw[if_pos (.inr hn),if_neg λh=>hn h.2.2.1]
  ·have hT:C4 c.reg c.lets c.of≠0:=by simp[C4,h0,hlet,hof]
   rw[if_pos (.inl hT),if_neg λh=>hof h.2.1]
 ·have hT:C4 c.reg c.lets c.of≠0:=by
   have:s7 c.reg c.lets=false:=by simpa using hlet
   simp[C4,h0,this]
  rw[if_pos (.inl hT),if_neg λh=>hlet h.1]
theorem Ki {c:Chains} (h:B4 c=0):OkC c:=by
 have h0:l4 c.reg=0:=Classical.byContradiction λh'=>by simp[B4,h'] at h
 rw[qi h0] at h;split at h
 ·rename_i hc;obtain⟨a,b,d,e⟩:=hc;rw[List.all_eq_true] at e;refine⟨h0,a,b,d,λx hx=>?_,λx hx y hy=>?_⟩
  ·have:=e x hx;simp only[cE,uH,Bool.and_eq_true,decide_eq_true_eq] at this;exact⟨this.1.1.2,this.1.2⟩
  ·have:=e x hx;simp only[cE,Bool.and_eq_true,List.all_eq_true] at this;have:=this.2 y hy;simp only[pH,Bool.and_eq_true,decide_eq_true_eq] at this;have hp:=sc hy;exact⟨lX h0 a b (by omega),this.2.1,by omega⟩
 ·cases h
variable {G:LS}
end Go.Proofs
namespace Go.Ab
open Go
structure Spot where
 drawing:Int
 dim:Int
 deriving DecidableEq
def kX (x:Spot):List IC:=[rI x.drawing,rI x.dim]
def FR (l:List Spot):DV:=.one (.im (.sl (l.map kX)))
attribute [simp] kX FR
def uN (a b:Spot):Bool:=decide (a.drawing<b.drawing)||(decide (a.drawing=b.drawing)&&decide (a.dim<b.dim))
def Be (x:Spot):List Spot->Nat
 | []=>0
 | y :: r=>if uN y x then Be x r+1 else 0
def Ky (x:Spot) (l:List Spot):List Spot:=l.take (Be x l)++x :: l.drop (Be x l)
def KO (f:Spot->Bool) (out:List Spot) (x:Spot):List Spot:=if f x=false\/x∈out then out else Ky x out
def KN (f:Spot->Bool) (l:List Spot):List Spot:=l.foldl (KO f) []
def kS (x:Spot):List Value:=[.int .i64 x.drawing,.int .i64 x.dim]
def xY (l:List Spot):List (List Value×List DC):=l.map λx=>(kS x,[.im (rB true)])
def FG (l:List Spot):List (List Value×List IC):=l.map λx=>(kS x,[rB true])
@[simp] theorem Ku (k n:Nat) (objs:List DObj) (l:List Spot):F1 (λx:List Value×List DC=>(F1 (frz (k+1) n objs) x.2).map λl=>(x.1,l)) (xY l)=some (FG l):=by
 induction l with
 | nil=>rfl
 | cons p r ih =>
   have e:xY (p :: r)=(kS p,[.im (rB true)]) :: xY r:=rfl;rw[e];simp[F1,ih,FG]
@[simp] theorem IX (n:Nat) (objs:List DObj) (l:List Spot):((xY l).map λx=>(x.1,x.2.map (fz n objs)))=xY l:=by
 simp[xY,fz,DC.lt]
@[simp] theorem Jo (L:List Spot) (k:Nat) (h:k<(l5 (L.map kX)).length):(l5 (L.map kX))[k]=[DC.im (.raw (.int .i64 (L[k]'(by simpa[q9] using h)).drawing)),DC.im (.raw (.int .i64 (L[k]'(by simpa[q9] using h)).dim))]:=by
 simp[l5]
end Go.Ab
namespace Go.Proofs
open Go Go.Ab
def zL (y:Link):Spot:=⟨y.drawing,y.dim⟩
def IR (d:Dim):Int:=min (max d.nominal d.lower) d.upper
def FO (d:Dim) (g:Int):Dim:=⟨d.nominal,max d.lower (IR d-g),min d.upper (IR d+g)⟩
def KF (c:Chains) (so:Spot->Bool) (g:Int) (y:Link):Dim:=if so (zL y) then FO (V0 c y) g else V0 c y
def KT (c:Chains) (so:Spot->Bool) (g:Int) (x:ChLoop):List Dim:=x.links.map (KF c so g)
def Lz (c:Chains) (so:Spot->Bool) (g:Int) (x:ChLoop):Int:=dw x.links (KT c so g x) false
def LD (c:Chains) (so:Spot->Bool) (g:Int) (x:ChLoop):Int:=dw x.links (KT c so g x) true
def ET (c:Chains) (so:Spot->Bool) (g:Int) (x:ChLoop):Bool:=decide (x.lo<=Lz c so g x)&&decide (LD c so g x<=x.hi)
def KM (c:Chains) (so:Spot->Bool) (g:Int):Bool:=c.loops.all (ET c so g)
def kK (c:Chains):List Spot:=c.loops.flatMap λx=>x.links.map zL
def GM (c:Chains) (x:Spot):Bool:=decide ((u6 c.reg c.lets x.drawing).kind≠3)
def sB (c:Chains):List Spot:=KN (GM c) (kK c)
def gs (p:Int->Bool):Nat->Int->Int->Int
 | 0,lo,_=>lo
 | k+1,lo,hi=>if lo<hi then (if p (hi-(hi-lo) / 2) then gs p k (hi-(hi-lo) / 2) hi else gs p k lo (hi-(hi-lo) / 2-1)) else lo
def IS (l:List Spot) (set:Nat):Nat->List Spot
 | 0=>[]
 | k+1=>IS l set k++(match l[k]? with
   | some x=>if set.testBit k then [x] else []
   | none=>[])
def lexB:List Spot->List Spot->Bool
 | a :: l,b :: m=>if a=b then lexB l m else uN a b
 | _,_=>false
def zN (a b:List Spot):Bool:=decide (a.length<b.length)||(decide (a.length=b.length)&&lexB a b)
def Fb (best:Option (List Spot)) (x:List Spot):Bool:=match best with
 | none=>true
 | some b=>zN x b
def Ig (good:List Spot->Bool) (best:Option (List Spot)) (x:List Spot):Option (List Spot):=if Fb best x&&good x then some x else best
def FW (all:List Spot) (k:Nat):List (List Spot):=(List.range k).map λs=>IS all s all.length
def LC (l:List Spot):Spot->Bool:=λx=>decide (x∈l)
def Ju (c:Chains) (x:List Spot):Bool:=KM c (LC x) 0
def BA (c:Chains) (b0:Option (List Spot)) (k:Nat):Option (List Spot):=(FW (sB c) k).foldl (Ig (Ju c)) b0
def KE (c:Chains):Option (List Spot):=BA c none (2 ^ (sB c).length)
open Go Go.Ab Tryz
variable {G:LS}
def SoF (G:LS) (c:Chains) (fv:IC) (so:Spot->Bool):Prop:=
 (∃ (f:FuncId) (caps:List IC),fv=.fn (.func f) caps/\E9 prog f/\∀ x∈kK c,∀ objs,DCall prog G f (E1 x.drawing x.dim :: caps.map λc=>.one (.im c)) objs (λd o=>d=bv (so x)/\o=objs)) \/
 (∃ (f:FuncId) (l:List IC),fv=.bf (.func f) l/\E9 prog f/\∀ x∈kK c,∀ objs,DCall prog G f ((l.map λc=>DV.one (.im c))++[E1 x.drawing x.dim]) objs (λd o=>d=bv (so x)/\o=objs))
def V2:List Int->Int
 | []=>0
 | x :: r=>if x=0 then V2 r else x
@[simp] abbrev QL:List Nat:=[0,2,3,5,6,7,8,9,14]
theorem FA (l:List Int) (hl:l.length<1000000):zP prog G 59 [r5 l] (iv (V2 l)):=by
 refine zf func59 ntmps59 ?_;try simp only[r5]
 have hs:=trivial;repeat' first|(with_reducible first|refine zz ?_|refine zE QL ?_)|simp -dsimp[hs]
 refine i6 (ι:={ p:Nat // p<=l.length/\V2 l=V2 (l.drop p) }) (λp=>⟨18,[(3,iv 0),(6,.one (.im (.sl (l.map encI)))),(7,iv (l.length:Int)),(8,iv (p.1:Int))],[]⟩) (λp=>l.length-p.1) ⟨0,by simp⟩ (zv [3,6,7,8]) ?_;rintro⟨k,hk,hu⟩;simp only[iv];by_cases hlt:k<l.length
 ·have hw:=zk k;rw[List.drop_eq_getElem_cons hlt,V2] at hu;generalize hx:l[k]=x at *;have hs:=za hx (za hw hlt);repeat' first|(with_reducible first|refine zz ?_|refine zr ?_|refine zE QL ?_)|simp -dsimp[hs]|refine i8 ?_ ?_<;>intro h<;>try exact h.elim
  ·rw[hu,if_neg (by assumption)]
  ·rw[if_pos (by assumption)] at hu;exact zn ⟨k+1,by omega,hu⟩ (zv [3,6,7,8])
 ·rw[List.drop_eq_nil_of_le (by omega)] at hu;have hs:=hlt;repeat' first|(with_reducible first|refine zz ?_|refine zr ?_|refine zE QL ?_)|simp -dsimp[hs]|refine i8 ?_ ?_<;>intro h<;>try exact h.elim
  rw[hu];rfl
attribute [simp] s6 du w5 B6 nilV K9 ZK
theorem SoF.congr {c:Chains} {fv:IC} {so so':Spot->Bool} (h:SoF G c fv so) (he:∀ x∈kK c,so x=so' x):SoF G c fv so':=by
 rcases h with⟨f,caps,h1,h2,h3⟩|⟨f,caps,h1,h2,h3⟩
 ·exact .inl ⟨f,caps,h1,h2,λx hx objs=>(h3 x hx objs).mono λd o ⟨a,b⟩=>⟨by rw[a,he x hx],b⟩⟩
 ·exact .inr ⟨f,caps,h1,h2,λx hx objs=>(h3 x hx objs).mono λd o ⟨a,b⟩=>⟨by rw[a,he x hx],b⟩⟩
attribute [simp] s6 du w5 B6 nilV K9 ZK
attribute [simp] s6 du O6 jy w5 B6 nilV K9 ZK
@[simp] theorem HT (L:List ChLoop) (k:Nat) (h:k<(l5 (L.map G9)).length):(l5 (L.map G9))[k]=[DC.im (.sl ((L[k]'(by simpa[q9] using h)).links.map H0)),DC.im (.raw (.int .i64 (L[k]'(by simpa[q9] using h)).lo)),DC.im (.raw (.int .i64 (L[k]'(by simpa[q9] using h)).hi))]:=by
 simp[l5,G9,rI]
@[simp] theorem HS (L:List Issue) (k:Nat) (h:k<(l5 (L.map e9)).length):(l5 (L.map e9))[k]=(e9 (L[k]'(by simpa[q9] using h))).map .im:=by
 simp[l5]
def cG (l:List Issue) (d:Int):DV:=if l4 l=0/\d∈nums l then .one (.im (A3 l (nums l))) else .one (.im (.raw (.pointer none)))
theorem xt (l:List Issue) (d:Int):ImV (cG l d):=by unfold cG;split<;>simp[A3]
attribute [simp] xt
def aA (l:List Issue) (d:Int):Int:=if l4 l≠0 then l4 l else if d∈nums l then 0 else 6
@[simp] abbrev WJ:List Nat:=[0,1,2,4,5,6,7,14,19]
theorem Ei (l:List Issue) (d:Int) (hG:o4 G) (hs:W1 l):zP prog G 176 [G1 l,iv d] (.tup [cG l d,iv (aA l d)]):=by
 refine zf func176 ntmps176 ?_;try simp only[G1,iv]
 have c1:=gT l hG hs;by_cases h0:l4 l=0
 ·simp only[co,h0,if_true] at c1;have c2:=Bm (G:=G) l (nums l) d ((D5 h0).1.imp λh=>Int.le_of_lt h) (by have:=hs.1;have:=s8 l l.length;unfold nums;omega);by_cases hm:d∈nums l
  ·simp only[hm,decide_true,A3] at c1 c2;have hs:=trivial;repeat' first|(with_reducible first|refine zz ?_|refine zr ?_|refine zE WJ ?_)|simp -dsimp[hs]|refine zp c1 ?_|refine zp c2 ?_|refine i8 ?_ ?_<;>intro h<;>try exact h.elim
   all_goals try clear hs
   all_goals simp[cG,aA,h0,hm,A3]
  ·simp only[hm,decide_false,A3] at c1 c2;have hs:=trivial;repeat' first|(with_reducible first|refine zz ?_|refine zr ?_|refine zE WJ ?_)|simp -dsimp[hs]|refine zp c1 ?_|refine zp c2 ?_|refine i8 ?_ ?_<;>intro h<;>try exact h.elim
   all_goals try clear hs
   all_goals simp[cG,aA,h0,hm,A3]
 ·simp only[co,h0,if_false] at c1;have hs:=h0;repeat' first|(with_reducible first|refine zz ?_|refine zr ?_|refine zE WJ ?_)|simp -dsimp[hs]|refine zp c1 ?_|refine i8 ?_ ?_<;>intro h<;>try exact h.elim
  all_goals try clear hs
  all_goals simp[cG,aA,h0]
def fm (l:List Issue) (d:Int):Nat:=(l.filter λx=>decide (x.drawing=d)).length
theorem Do {l:List Issue} {d:Int} (hs:(l.map (·.drawing)).Pairwise (·<=·)):fm l d=fm (l.drop (lb (l.map (·.drawing)) d)) d:=by
 conv=>lhs;rw[<- List.take_append_drop (lb (l.map (·.drawing)) d) l]
 simp only[fm,List.filter_append];rw[List.filter_eq_nil_iff.2 λx hx=>?_]
 ·rfl
 ·have:=tl hs x hx;simp;omega
@[simp] abbrev Wt:List Nat:=[0,1,2,4,5,7,8,24,25,26,27,39]
theorem Eh (l:List Issue) (ds:List Int) (d:Int) (hs:(l.map (·.drawing)).Pairwise (·<=·)) (hl:l.length<1000000):zP prog G 177 [.one (.im (A3 l ds)),iv d] (iv (fm l d:Int)):=by
 refine zf func177 ntmps177 ?_;try simp only[iv]
 simp only[A3];have c1:=ms (G:=G) (A3 l ds) d;simp only[A3] at c1;have hs:=trivial;repeat' first|(with_reducible first|refine zz ?_|refine zE [0,1,4,5,8] ?_)|simp -dsimp[hs]|refine zp c1 ?_
 all_goals try clear hs
 refine U3 (f:=249) (by simp;exact rfl) (by rfl) call249 ?_;generalize hR:LoopD.mk _ _ _ _ _ _ _=R;have hR1:R.st=.ready:=by rw[<- hR]
 have hR2:R.pend=none:=by rw[<- hR]
 have hR3:R.at .ready none=R:=by rw[<- hR];rfl
 have hR4:=(congrArg LoopD.nt hR).symm;have hR5:=(congrArg LoopD.tm hR).symm;have hR6:=(congrArg LoopD.ps hR).symm;have hR7:=(congrArg LoopD.asg hR).symm;have hR8:=(congrArg LoopD.body hR).symm;dsimp only at hR4 hR5 hR6 hR7 hR8;clear hR;refine h9 func249 rfl ntmps249 (by simp) rfl ?_;have hR9:∀ objs:List DObj,(R.tm.map λx=>(x.1,fZ 2 objs x.2))=R.tm:=by intro objs;rw[hR5];simp
 have hlb:=rk (l.map (·.drawing)) d;rw[List.length_map] at hlb;have c2:=gq (G:=G) l d hs hl;have hs:=za hR1 (za hR2 (za hR3 hlb));repeat' first|with_reducible refine zz ?_|simp -dsimp[hs]|refine zq c2 ?_|refine zM 0 41 12 [0,1,2,4,7,24,25,26,27,39] ?_|with_reducible refine zE Wt ?_
 all_goals try clear hs
 rw[<- List.map_drop];have hge:=tn (d:=d) hs;have hss:((l.drop (lb (l.map (·.drawing)) d)).map (·.drawing)).Pairwise (·<=·):=by rw[List.map_drop];exact hs.drop
 have hsl:l.length-lb (l.map (·.drawing)) d=(l.drop (lb (l.map (·.drawing)) d)).length:=by simp
 rw[hsl];have hsl2:(l.drop (lb (l.map (·.drawing)) d)).length<1000000:=by simp;omega
 rw[Do hs];generalize l.drop (lb (l.map (·.drawing)) d)=s at hge hss hsl2 ⊢;refine i6 (ι:={ k:Nat // k<=s.length/\k+fm (s.drop k) d=fm s d }) (λp=>⟨41,[(0,.one (.yld 1)),(2,.one (.im (.ip [rI d]))),(24,.one (.im (.sl (s.map e9)))),(25,iv (s.length:Int)),(26,iv (p.1:Int))],[.row [.im (rI (p.1:Int))],.loop R]⟩) (λp=>s.length-p.1) ⟨0,by simp⟩ (zv [0,2,24,25,26]) ?_;rintro⟨k,hk,hno⟩;simp only[iv];by_cases hlt:k<s.length
 ·have hx:s[k]?=some s[k]:=by simp[hlt]
  have hw:=zk k;have hcons:s.drop k=s[k] :: s.drop (k+1):=List.drop_eq_getElem_cons hlt;by_cases hd:s[k].drawing=d
  ·have hno':k+1+fm (s.drop (k+1)) d=fm s d:=by
    rw[<- hno,fm,fm,hcons,List.filter_cons_of_pos (by simp[hd]),List.length_cons];omega
   have hs:=za hR1 (za hR2 (za hR3 (za hx (za hw (za hd hlt)))));repeat' first|(with_reducible first|refine zz ?_|refine zE Wt ?_)|simp -dsimp[hs]|with_reducible refine At.yield_end ?_;simp -dsimp[hs]|refine bj ?_ ?_<;>simp -dsimp[hs]|refine R3 ?_;simp -dsimp[U0,hR4,hR5,hR6,hR7,hR8,hs]|refine i8 ?_ ?_<;>intro h<;>try exact h.elim
   all_goals try clear hs
   all_goals exact zn ⟨k+1,by omega,hno'⟩ (zw [0,2,24,25,26] 2 (by simp[hR9]))
  ·have hnone:fm (s.drop k) d=0:=by
    simp only[fm,List.length_eq_zero_iff,List.filter_eq_nil_iff];intro x hxm;obtain⟨i,hi⟩:=List.mem_iff_getElem?.1 hxm;rw[List.getElem?_drop] at hi;have h1:s[k].drawing<=x.drawing:=by
     rcases Nat.eq_zero_or_pos i with rfl|hp
     ·rw[Nat.add_zero,hx] at hi;cases hi;exact Int.le_refl _
     ·have hlt2:=(List.getElem?_eq_some_iff.1 hi).1;have:=(List.pairwise_iff_getElem.1 hss) k (k+i) (by simpa using hlt) (by simpa using hlt2) (by omega);have h6:=(List.getElem?_eq_some_iff.1 hi).2;simp at this;rw[h6] at this;exact this
    have h2:=hge s[k] (List.getElem_mem hlt);simp;omega
   have hN:fm s d=k:=by omega
   have hs:=za hR1 (za hR2 (za hR3 (za hx (za hw (za hd hlt)))));repeat' first|(with_reducible first|refine zz ?_|refine zr ?_ (by simp -dsimp[D3,hs];exact rfl)|refine zE Wt ?_)|simp -dsimp[D3,hs]|with_reducible show D3 _ _ _ _ _ _ _ _;simp -dsimp[D3,hs]|refine i8 ?_ ?_<;>intro h<;>try exact h.elim
   all_goals try clear hs
   all_goals simp[hN]
 ·have hN:fm s d=k:=by rw[<- hno,List.drop_eq_nil_of_le (by omega)];simp[fm]
  have hs:=za hR1 (za hR2 (za hR3 hlt));repeat' first|(with_reducible first|refine zz ?_|refine zr ?_ (by simp -dsimp[D3,hs];exact rfl)|refine ze ?_ (by simp -dsimp[D3,hs];exact rfl)|refine zE Wt ?_)|simp -dsimp[D3,hs]|with_reducible show D3 _ _ _ _ _ _ _ _;simp -dsimp[D3,hs]|refine i8 ?_ ?_<;>intro h<;>try exact h.elim
  all_goals try clear hs
  all_goals simp[hN]
def AT (l:List Issue) (d:Int):Int:=if aA l d=0 then (fm l d:Int) else 0
theorem DE (l:List Issue) (d:Int) (hG:o4 G) (hs:W1 l):zP prog G 119 [G1 l,iv d] (.tup [iv (AT l d),iv (aA l d)]):=by
 refine zf func119 ntmps119 ?_;try simp only[G1,iv]
 have c1:=Ei (G:=G) l d hG hs;by_cases h0:aA l d=0
 ·have hk:l4 l=0/\d∈nums l:=by
   unfold aA at h0;by_cases h1:l4 l=0
   ·refine⟨h1,?_⟩;rw[if_neg (by simp[h1])] at h0;by_cases h2:d∈nums l
    ·exact h2
    ·rw[if_neg h2] at h0;cases h0
   ·rw[if_pos h1] at h0;exact absurd h0 h1
  have c2:=Eh (G:=G) l (nums l) d (cR hk.1) (by have:=hs.1;omega);rw[cG,if_pos hk,h0] at c1;rw[AT,if_pos h0,h0];simp only[A3] at c1 c2;have hs:=trivial;repeat' first|(with_reducible first|refine zz ?_|refine zr ?_|refine zE QO ?_)|simp -dsimp[hs]|refine zp c1 ?_|refine zp c2 ?_|refine i8 ?_ ?_<;>intro h<;>try exact h.elim
  all_goals try clear hs
 ·rw[AT,if_neg h0];generalize hX:cG l d=X at c1;have hXo:∃ x,X=.one (.im x):=by subst hX;unfold cG;split<;>exact⟨_,rfl⟩
  obtain⟨x,rfl⟩:=hXo;generalize aA l d=e at *;have hs:=h0;repeat' first|(with_reducible first|refine zz ?_|refine zr ?_|refine zE QO ?_)|simp -dsimp[hs]|refine zp c1 ?_|refine i8 ?_ ?_<;>intro h<;>try exact h.elim
  all_goals try clear hs
end Go.Proofs
namespace Go.Ab
open Go
structure Piece where
 holder:Int
 day:Int
 lo:Int
 hi:Int
 deriving DecidableEq
structure Case where
 p:Prints
 machine:Int
 of:Int
 loop:ChLoop
 pieces:List Piece
 deriving DecidableEq
def w9 (x:Piece):List IC:=[rI x.holder,rI x.day,rI x.lo,rI x.hi]
def j0 (c:Case):List IC:=[.sl (c.p.n.reg.map e9),.sl (c.p.n.notes.map l6),.sl (c.p.holders.map o7),.sl (c.p.prints.map A4),rI c.machine,rI c.of,.sl (c.loop.links.map H0),rI c.loop.lo,rI c.loop.hi,.sl (c.pieces.map w9)]
def Gl (x:Piece):DV:=.agg ((w9 x).map .im)
def l7 (c:Case):DV:=.agg ((j0 c).map .im)
attribute [simp] w9 j0 Gl l7
end Go.Ab
namespace Go.Proofs
open Go Go.Ab
variable {G:LS}
theorem xE (x lo hi:Int):DCall Tryz.prog G 123 (iv x :: [DC.ptr 0 0,DC.ptr 1 0].map .one) [.row [.im (rI lo)],.row [.im (rI hi)]] (λd o=>d=bv (decide (x<lo)||decide (hi<x))/\o=[.row [.im (rI lo)],.row [.im (rI hi)]]):=by
 refine h9 Tryz.func123 rfl Tryz.ntmps123 (by simp) rfl ?_;simp only[rI];have hs:=trivial;repeat' first|(with_reducible first|refine zz ?_|refine zr ?_|refine zE [0,1,2,4] ?_)|simp -dsimp[hs]|with_reducible refine j5 ?_ ?_<;>intro h<;>have h0:=h<;>(try simp only[i7] at h)<;>have h2:=h<;>(try simp at h2)<;>replace hs:=za h0 (za h (za h2 hs))|with_reducible refine And.intro ?_ ?_
 all_goals try clear hs
 all_goals simp[*]
theorem O4 (lo hi:Int) (l:List Int) (hl:l.length<1000000):zP Tryz.prog G 76 [iv lo,iv hi,r5 l] (bv (l.all λx=>decide (lo<=x)&&decide (x<=hi))):=by
 refine zf Tryz.func76 Tryz.ntmps76 ?_;try simp only[iv,iv,r5]
 have hc:=D4 (G:=G) l (λx=>decide (x<lo)||decide (hi<x)) 123 [.ptr 0 0,.ptr 1 0] [.row [.im (rI lo)],.row [.im (rI hi)]] (by simp) (λx _=>xE x lo hi) hl;simp only[rI] at hc;repeat' first|(with_reducible first|refine zz ?_|refine zx ?_|refine zE [0,1,2,3,4,6] ?_)|simp -dsimp|refine CallE.here hc ?_
 rw[Bool.eq_iff_iff];simp;exact exists_congr λx=>and_congr_right λ_=>by omega
def U6 (lo hi a b:Int):Bool:=decide (a<=lo/\lo<=b/\a<=hi/\hi<=b/\lo<=hi)
theorem bY (lo hi a b:Int):zP Tryz.prog G 77 [E1 lo hi,iv a,iv b] (bv (U6 lo hi a b)):=by
 refine zf Tryz.func77 Tryz.ntmps77 ?_;try simp only[E1,iv,iv]
 have c1:=O4 (G:=G) a b [lo,hi] (by simp);generalize hb:([lo,hi].all λy=>decide (a<=y)&&decide (y<=b))=q at c1;cases q
 ·repeat' first|(with_reducible first|refine zz ?_|refine zx ?_|refine zE [0,1,2,3,6] ?_)|simp -dsimp|refine zt c1 ?_ ?_ ?_;(focus simp;done);focus (simp;done)
  all_goals simp at hb
  all_goals simp[U6]
  all_goals omega
 ·simp at hb;repeat' first|(with_reducible first|refine zz ?_|refine zx ?_|refine zE [0,1,2,3,6] ?_)|simp -dsimp|refine zt c1 ?_ ?_ ?_;(focus simp;done);focus (simp;done)
  all_goals simp[U6]
  all_goals first|omega|(rw[Bool.eq_iff_iff];simp;omega)
end Go.Proofs
namespace Go.Proofs
open Go Go.Ab
variable {G:LS}
def I2 (c:Case) (l:Link) (x:Piece):Bool:=(match n9 c.p.n.reg l.drawing 1 with|some y=>!decide (y.kind=1)|none=>false)&&(decide (0<=l.dim/\l.dim<=3)&&((c.p.holders.any λy=>decide (y.id=x.holder))&&(decide (0<=x.day/\x.day<=14610)&&U6 x.lo x.hi 0 1000000000)))
def aN (c:Case):Bool:=decide (c.of∈nums c.p.n.reg)&&(decide (1<=c.machine/\c.machine<=999)&&(decide (1<=c.loop.links.length/\c.loop.links.length<=8)&&(decide (c.pieces.length=c.loop.links.length)&&(U6 c.loop.lo c.loop.hi (-8000000000) 8000000000&&(c.loop.links.zip c.pieces).all λq=>I2 c q.1 q.2))))
noncomputable def q8 (c:Case):Int:=if u4 c.p≠0 then u4 c.p else if aN c=true then 0 else 100
structure KC (c:Case):Prop where
 p:KP c.p
 l:c.loop.links.length<=16
 q:c.pieces.length<=16
open Go Go.Ab Tryz
theorem A2 {c:Case} (h:q8 c=0):u4 c.p=0/\aN c=true:=by
 unfold q8 at h;by_cases h0:u4 c.p=0
 ·rw[if_neg (by simp[h0])] at h;refine⟨h0,?_⟩;by_cases h1:aN c=true
  ·exact h1
  ·rw[if_neg h1] at h;exact absurd h (by decide)
 ·rw[if_pos h0] at h;exact absurd h h0
theorem A9 {p:Prints} (h:u4 p=0):v7 p.n=0/\G5 p=true/\l4 p.n.reg=0:=by
 have hn:v7 p.n=0:=by
  refine Classical.byContradiction λh1=>?_;unfold u4 at h;rw[if_pos h1] at h;exact h1 h
 refine⟨hn,?_,?_⟩
 ·refine Classical.byContradiction λh1=>?_;unfold u4 at h;rw[if_neg (by simp[hn]),if_neg h1] at h;exact absurd h (by decide)
 ·refine Classical.byContradiction λh1=>?_;unfold v7 at hn;rw[if_pos h1] at hn;exact h1 hn
def ew (c:Case):Bool:=decide (c.of∈nums c.p.n.reg)&&(decide (1<=c.machine/\c.machine<=999)&&(decide (1<=c.loop.links.length/\c.loop.links.length<=8)&&(decide (c.pieces.length=c.loop.links.length)&&U6 c.loop.lo c.loop.hi (-8000000000) 8000000000)))
theorem N4 (c:Case):aN c=(ew c&&(c.loop.links.zip c.pieces).all λq=>I2 c q.1 q.2):=by
 simp only[aN,ew,Bool.and_assoc]
theorem gv {α β:Type} {f:α×β->Bool} {l:List α} {m:List β} {k:Nat} (h1:k<l.length) (h2:k<m.length) (hno:(l.zip m).all f=((l.zip m).drop k).all f):(l.zip m).all f=true↔f (l[k],m[k])=true/\((l.zip m).drop (k+1)).all f=true:=by
 have h3:k<(l.zip m).length:=by rw[List.length_zip];omega
 have:=aS h3 hno;rw[List.getElem_zip] at this;exact this
theorem yw (x:Piece) (y:Holder):DCall prog G 121 (jW y :: [DC.ptr 0 0].map .one) [.row ((w9 x).map .im)] (λd o=>d=bv (decide (y.id=x.holder))/\o=[.row ((w9 x).map .im)]):=by
 refine DCall.drop ?_;refine h9 func121 rfl ntmps121 (by simp) rfl ?_;simp only[jW,o7,w9,rI];repeat' first|(with_reducible first|refine zz ?_|refine zx ?_|refine zE [0,1,2,3] ?_)|simp -dsimp|with_reducible refine And.intro ?_ ?_
theorem jo {c:Case} (h0:l4 c.p.n.reg=0) (l:Link) (x:Piece):I2 c l x=true↔zA c.p.n.reg l.drawing 1=0/\¬ (atR c.p.n.reg l.drawing 1).kind=1/\([l.dim].all λy=>decide (0<=y)&&decide (y<=3))=true/\(c.p.holders.any λy=>decide (y.id=x.holder))=true/\([x.day].all λy=>decide (0<=y)&&decide (y<=14610))=true/\U6 x.lo x.hi 0 1000000000=true:=by
 unfold I2 zA atR;rw[if_neg (by simp[h0]),if_pos h0];cases n9 c.p.n.reg l.drawing 1 with
 | none=>simp
 | some y=>simp[and_assoc]
@[simp] abbrev Qy:List Nat:=[0,1,2,3,4,6,7,8,9,10,11,12,17,64,67,68,69,70,118]
theorem iS (c:Case) (hG:o4 G) (hN:E2 G) (hS:u5 G) (hR:w0 G) (hk:KC c):zP prog G 75 [l7 c] (iv (q8 c)):=by
 refine zf func75 ntmps75 ?_;try simp only[iv]
 have hl:=hk.l;have hq:=hk.q;have hhl:=hk.p.p.h;have c1:=An (G:=G) c.p hG hN hS hR hk.p;simp only[D8,p7] at c1;by_cases h0:u4 c.p=0
 ·obtain⟨hn0,hpb,hr0⟩:=A9 h0;rw[h0] at c1;have hE:q8 c=if aN c=true then 0 else 100:=by unfold q8;rw[if_neg (by simp[h0])]
  have c2:=DE (G:=G) c.p.n.reg c.of hG hk.p.n.1;have hLE:aA c.p.n.reg c.of=if c.of∈nums c.p.n.reg then 0 else 6:=by unfold aA;rw[if_neg (by simp[hr0])]
  rw[hLE] at c2;have c3:=O4 (G:=G) 1 999 [c.machine] (by simp);have c4:=O4 (G:=G) 1 8 [(c.loop.links.length:Int)] (by simp);have c5:=bY (G:=G) c.loop.lo c.loop.hi (-8000000000) 8000000000;simp only[G1,E1] at c2 c5;cases h5:ew c
  ·have hB:aN c=false:=by rw[N4,h5,Bool.false_and]
   rw[hE,hB];simp only[ew] at h5;generalize hb3:([c.machine].all λy=>decide (1<=y)&&decide (y<=999))=b3 at c3;generalize hb4:([(c.loop.links.length:Int)].all λy=>decide (1<=y)&&decide (y<=8))=b4 at c4;generalize hb5:U6 c.loop.lo c.loop.hi (-8000000000) 8000000000=b5 at c5 h5;have hs:True:=trivial;by_cases hm:c.of∈nums c.p.n.reg
   ·rw[if_pos hm] at c2;by_cases hlen:c.pieces.length=c.loop.links.length
    ·cases b3<;>cases b4<;>cases b5
     all_goals
      have hs:=hlen;repeat' first|(with_reducible first|refine zz ?_|refine zr ?_|refine zE Qy ?_)|simp -dsimp[hs]|refine zp c1 ?_|refine zp c2 ?_|refine zt c3 ?_ ?_ ?_;(focus simp;done);focus (simp;done)|refine zt c4 ?_ ?_ ?_;(focus simp;done);focus (simp;done)|refine zp c5 ?_|refine i8 ?_ ?_<;>intro h<;>try exact h.elim
      all_goals try clear hs
     all_goals exfalso
     all_goals simp[hm,hlen] at h5 hb3 hb4
     all_goals omega
    ·cases b3<;>cases b4<;>cases b5
     all_goals
      have hs:=hlen;repeat' first|(with_reducible first|refine zz ?_|refine zr ?_|refine zE Qy ?_)|simp -dsimp[hs]|refine zp c1 ?_|refine zp c2 ?_|refine zt c3 ?_ ?_ ?_;(focus simp;done);focus (simp;done)|refine zt c4 ?_ ?_ ?_;(focus simp;done);focus (simp;done)|refine zp c5 ?_|refine i8 ?_ ?_<;>intro h<;>try exact h.elim|with_reducible refine j5 ?_ ?_<;>intro h<;>have h0:=h<;>(try simp only[i7] at h)<;>have h2:=h<;>(try simp at h2)<;>replace hs:=za h0 (za h (za h2 hs))
      all_goals try clear hs
     all_goals exfalso
     all_goals omega
   ·rw[if_neg hm] at c2;have hs:=trivial;repeat' first|(with_reducible first|refine zz ?_|refine zr ?_|refine zE Qy ?_)|simp -dsimp[hs]|refine zp c1 ?_|refine zp c2 ?_|refine i8 ?_ ?_<;>intro h<;>try exact h.elim
    all_goals try clear hs
  ·rw[N4,h5,Bool.true_and] at hE;rw[hE];simp only[ew,Bool.and_eq_true,decide_eq_true_eq] at h5;obtain⟨hm,⟨hm1,hm2⟩,⟨hl1,hl2⟩,hlen,hgap⟩:=h5;rw[if_pos hm] at c2;rw[hgap] at c5;rw[show ([c.machine].all λy=>decide (1<=y)&&decide (y<=999))=true by simp;omega] at c3;rw[show ([(c.loop.links.length:Int)].all λy=>decide (1<=y)&&decide (y<=8))=true by simp;omega] at c4;have hs:=hlen;repeat' first|(with_reducible first|refine zz ?_|refine zE Qy ?_)|simp -dsimp[hs]|refine zp c1 ?_|refine zp c2 ?_|refine zt c3 ?_ ?_ ?_;(focus simp;done);focus (simp;done)|refine zt c4 ?_ ?_ ?_;(focus simp;done);focus (simp;done)|refine zp c5 ?_|refine i8 ?_ ?_<;>intro h<;>try exact h.elim
   all_goals try clear hs
   have hno:((c.loop.links.zip c.pieces).all λq=>I2 c q.1 q.2)=((c.loop.links.zip c.pieces).drop 0).all λq=>I2 c q.1 q.2:=rfl;clear c1 c2 c3 c4 c5;generalize hA:((c.loop.links.zip c.pieces).all λq=>I2 c q.1 q.2)=A at *;refine i6 (ι:={ k:Nat // k<=c.loop.links.length/\A=((c.loop.links.zip c.pieces).drop k).all λq=>I2 c q.1 q.2 }) (λq=>⟨120,[(1,.one (.ptr 0 0)),(4,.one (.ptr 2 0)),(67,.one (.im (.sl (c.loop.links.map H0)))),(68,iv (c.loop.links.length:Int)),(69,iv (q.1:Int))],[.row ((j0 c).map .im),.vec 0 [] 0 true,.row [.im (.sl (c.p.n.reg.map e9))],.vec 1 [[.im (rI c.machine)]] 0 false,.vec 1 [[.im (rI (c.loop.links.length:Int))]] 0 false]⟩) (λq=>c.loop.links.length-q.1) ⟨0,by simp,hno⟩ (zv [1,4,67,68,69]) ?_;rintro⟨k,hk1,hrest⟩;simp only[iv];by_cases hlt:k<c.loop.links.length
   ·have hlt2:k<c.pieces.length:=by omega
    have hw:=zk k;have hst:=gv (f:=λq=>I2 c q.1 q.2) hlt hlt2 (hA.trans hrest);rw[hA] at hst;simp only at hst;rw[jo hr0] at hst;clear hno;generalize hx:c.pieces[k]=x at *;generalize hy:c.loop.links[k]=y at *;have c6:=Cv (G:=G) c.p.n.reg y.drawing 1 hG hk.p.n.1;have c7:=iK (G:=G) c.p.holders (λy=>decide (y.id=x.holder)) 121 [.ptr 0 0] [.row ((w9 x).map .im)] (by simp) (λy _=>yw x y) (by omega);have c8:=O4 (G:=G) 0 3 [y.dim] (by simp);have c9:=O4 (G:=G) 0 14610 [x.day] (by simp);have c10:=bY (G:=G) x.lo x.hi 0 1000000000;simp only[G1,E1] at c6 c10;simp only[w9,rI,List.map_cons,List.map_nil] at c7;generalize (c.p.holders.any λy=>decide (y.id=x.holder))=b2 at *;generalize ([y.dim].all λy=>decide (0<=y)&&decide (y<=3))=b1 at *;generalize ([x.day].all λy=>decide (0<=y)&&decide (y<=14610))=b3 at *;generalize U6 x.lo x.hi 0 1000000000=b4 at *;generalize zA c.p.n.reg y.drawing 1=e at *;generalize atR c.p.n.reg y.drawing 1=z at *;have hcs:(e=0/\¬ z.kind=1/\b1=true/\b2=true/\b3=true/\b4=true)\/(A=false/\((¬ e=0/\True/\True/\True/\True/\True)\/(e=0/\z.kind=1/\True/\True/\True/\True)\/(e=0/\¬ z.kind=1/\b1=false/\True/\True/\True)\/(e=0/\¬ z.kind=1/\b1=true/\b2=false/\True/\True)\/(e=0/\¬ z.kind=1/\b1=true/\b2=true/\b3=false/\True)\/(e=0/\¬ z.kind=1/\b1=true/\b2=true/\b3=true/\b4=false))):=by
     by_cases g1:e=0<;>by_cases g2:z.kind=1<;>cases b1<;>cases b2<;>cases b3<;>cases b4<;>simp_all
    have hs:True:=trivial;rcases hcs with⟨g1,g2,g3,g4,g5,g6⟩|⟨gA,hcs⟩
    ·have hs:=za hx (za hy (za hlt (za hlt2 (za hw (za g1 (za g2 (za g3 (za g4 (za g5 g6)))))))));repeat' first|(with_reducible first|refine zz ?_|refine zE Qy ?_)|simp -dsimp[hs]|refine zp c6 ?_|refine CallE.embed [9] (c7) ?_ ?_ ?_ ?_ ?_ ?_;(focus simp[v6];done);(focus simp;done);(focus simp;done);(focus simp;done);(focus refine o5 ?_;simp[v6,r7];done);try simp -dsimp[n7,v6,hs]|refine zt c8 ?_ ?_ ?_;(focus simp;done);focus (simp;done)|refine zt c9 ?_ ?_ ?_;(focus simp;done);focus (simp;done)|refine zp c10 ?_|refine i8 ?_ ?_<;>intro h<;>try exact h.elim
     all_goals try clear hs
     all_goals exact zn ⟨k+1,by omega,by rw[Bool.eq_iff_iff];exact hst.trans ⟨λh=>h.2,λh=>⟨⟨g1,g2,g3,g4,g5,g6⟩,h⟩⟩⟩ (zw [1,4,67,68,69] 5)
    ·rcases hcs with⟨g1,g2,g3,g4,g5,g6⟩|⟨g1,g2,g3,g4,g5,g6⟩|⟨g1,g2,g3,g4,g5,g6⟩|⟨g1,g2,g3,g4,g5,g6⟩|⟨g1,g2,g3,g4,g5,g6⟩|⟨g1,g2,g3,g4,g5,g6⟩
     all_goals
      have hs:=za hx (za hy (za hlt (za hlt2 (za hw (za g1 (za g2 (za g3 (za g4 (za g5 g6)))))))));repeat' first|(with_reducible first|refine zz ?_|refine zr ?_|refine zE Qy ?_)|simp -dsimp[hs]|refine zp c6 ?_|refine CallE.embed [9] (c7) ?_ ?_ ?_ ?_ ?_ ?_;(focus simp[v6];done);(focus simp;done);(focus simp;done);(focus simp;done);(focus refine o5 ?_;simp[v6,r7];done);try simp -dsimp[n7,v6,hs]|refine zt c8 ?_ ?_ ?_;(focus simp;done);focus (simp;done)|refine zt c9 ?_ ?_ ?_;(focus simp;done);focus (simp;done)|refine zp c10 ?_|refine i8 ?_ ?_<;>intro h<;>try exact h.elim
      all_goals try clear hs
     all_goals exact gA
   ·obtain rfl:k=c.loop.links.length:=by omega
    have hA1:A=true:=by rw[hrest,List.drop_eq_nil_of_le (by rw[List.length_zip];omega)];rfl
    subst hA1;have hs:=hlt;repeat' first|(with_reducible first|refine zz ?_|refine zr ?_|refine zE Qy ?_)|simp -dsimp[hs]|refine i8 ?_ ?_<;>intro h<;>try exact h.elim
    all_goals try clear hs
 ·have hE:q8 c=u4 c.p:=by unfold q8;rw[if_pos h0]
  rw[hE];have hs:=h0;repeat' first|(with_reducible first|refine zz ?_|refine zr ?_|refine zE Qy ?_)|simp -dsimp[hs]|refine zp c1 ?_|refine i8 ?_ ?_<;>intro h<;>try exact h.elim
  all_goals try clear hs
end Go.Proofs
