/- Part 17 of the proofs. -/
import Derived.Test.YtlmlkkoapahmjaaGreatDoorQ08
import Derived.Test.YtlmlkkoapahmjaaGreatDoorQ09
import Derived.Test.YtlmlkkoapahmjaaGreatDoorQ14
import Derived.Test.YtlmlkkoapahmjaaGreatDoorQ15
import Derived.Test.YtlmlkkoapahmjaaGreatDoorQ16
set_option linter.all false
set_option maxHeartbeats 100000000
namespace Go.Proofs
open Go Go.Ab Tryz
variable {G:LI}
@[simp] abbrev LU:List Nat:=[0,2,3,4,5,8,13,25,32,44]
theorem oK (l:List Int) (g:Nat) (hl:l.length<1000):DCall prog G 149 [.one (.vec 0 g 0 l.length)] [.vec 1 (l5 (l.map encI)) g false] (λd o=>∃ S:List Int,(S.length=l.length/\S.take (r7 l).length=r7 l)/\d=.one (.vec 0 g 0 (r7 l).length)/\o=[.vec 1 (l5 (S.map encI)) g false]):=by
 refine DCall.drop ?_;refine h9 func149 rfl ntmps149 (by simp) rfl ?_;by_cases h2:l.length<2
 ·have hli:(l.length:Int)<2:=by omega
  have hs:=hli;repeat' first|(with_reducible first|refine zz ?_|refine zr ?_|refine zE LU ?_)|simp -dsimp[hs]|refine i8 ?_ ?_<;>intro h<;>try exact h.elim
  have hd:r7 l=l:=by
   match l,h2 with
   | [],_=>rfl
   | [a],_=>rfl
  exact⟨l,⟨rfl,by rw[hd,List.take_length]⟩,by rw[hd],rfl⟩
 ·have hli:¬ (l.length:Int)<2:=by omega
  have hs:=hli;repeat' first|(with_reducible first|refine zz ?_|refine zE LU ?_)|simp -dsimp[hs]|refine i8 ?_ ?_<;>intro h<;>try exact h.elim
  refine i6 (ι:={ k:Nat // 1<=k/\k<=l.length/\r7 (l.take k)=l.take k }) (λp=>⟨61,[(0,.one (.vec 0 g 0 l.length)),(3,iv (p.1:Int))],[.vec 1 (l5 (l.map encI)) g false]⟩) (λp=>l.length-p.1) ⟨1,by omega,by omega,by cases l with|nil=>rfl|cons a r=>simp[r7]⟩ (zw [0,3] 1) ?_;rintro⟨k,hk1,hk,hdk⟩;simp only[iv];by_cases hlt:k<l.length
  ·have hw:=zk k;obtain⟨j,rfl⟩:∃ j,k=j+1:=⟨k-1,by omega⟩
   have hj:j<l.length:=by omega
   have hst:=mE hlt;rw[hdk] at hst;have hwj:IntKind.i64.wrap (((j+1:Nat):Int)-1)=(j:Int):=by rw[n4 (by omega) (by omega)];omega
   have hwj2:IntKind.i64.wrap (j:Int)=(j:Int):=n4 (by omega) (by omega);have hp0:(0:Int)<=(j:Int)+1:=by omega
   have hp1:(j:Int)+1<=l.length:=by omega
   have hp2:(j:Int)+1<l.length:=by omega
   by_cases he:l[j]=l[j+1]
   ·have he':l[j+1]=l[j]:=he.symm;rw[if_pos he] at hst;have hs:=za hlt (za hj (za hw (za hwj (za hwj2 (za hp0 (za hp1 (za hp2 he')))))));repeat' first|with_reducible refine zz ?_|simp -dsimp[hs]|refine zM 6 61 10 LU ?_|with_reducible refine zE LU ?_|refine i8 ?_ ?_<;>intro h<;>try exact h.elim
    refine i6 (ι:={ p:Nat×Nat×List Int // 1<=p.1/\j+1+p.1<=l.length/\p.2.1<=j+p.1/\p.2.2.length=l.length/\p.2.2.take p.2.1=r7 (l.take (j+1+p.1))/\p.2.2.drop (j+p.1)=l.drop (j+p.1) }) (λp=>⟨61,[(0,.one (.vec 0 g 0 l.length)),(3,iv (p.1.2.1:Int)),(4,.one (.vec 0 g (j+1) (l.length-(j+1)))),(5,iv (p.1.1:Int))],[.vec 1 (l5 (p.1.2.2.map encI)) g false]⟩) (λp=>l.length-p.1.1) ⟨(1,j+1,l),by simp only;omega,by simp only;omega,by simp only;omega,rfl,hst.symm,rfl⟩ (zv [0,3,4,5]) ?_;rintro⟨⟨q,w,S⟩,hq1,hqN,hwq,hSl,hSt,hSd⟩;simp only at hq1 hqN hwq hSl hSt hSd;simp only[iv];by_cases hlq:j+1+q<l.length
    ·have hq':q<l.length-(j+1):=by omega
     have hq1':q-1<l.length-(j+1):=by omega
     have hqw:=zk q;have hww:=zk w;have hqm:IntKind.i64.wrap ((q:Int)-1)=((q-1:Nat):Int):=by rw[n4 (by omega) (by omega)];omega
     have hs1:j+1+q<S.length:=by omega
     have hs0:j+1+(q-1)<S.length:=by omega
     have hwl:w<l.length:=by omega
     have hds:r7 (l.take (j+1+(q+1)))=if l[j+q]=l[j+1+q] then r7 (l.take (j+1+q)) else r7 (l.take (j+1+q))++[l[j+1+q]]:=by
      have:=mE (l:=l) (k:=j+q) (by omega);simp only[show j+q+1=j+1+q by omega,show j+q+2=j+1+(q+1) by omega] at this;exact this
     rw[<- hSt] at hds;have e1:S[j+1+q]=l[j+1+q]:=by
      have:=congrArg (λL:List Int=>L[1]?) hSd;simp only[List.getElem?_drop] at this;rw[show j+q+1=j+1+q by omega,List.getElem?_eq_getElem hs1,List.getElem?_eq_getElem hlq] at this;exact Option.some.inj this
     have e0:S[j+1+(q-1)]=l[j+q]:=by
      have:=congrArg (λL:List Int=>L[0]?) hSd;simp only[List.getElem?_drop,Nat.add_zero] at this;rw[List.getElem?_eq_getElem (show j+q<S.length by omega),List.getElem?_eq_getElem (show j+q<l.length by omega)] at this;have e:=Option.some.inj this;rw[<- e];congr 1;omega
     have hdr:S.drop (j+(q+1))=l.drop (j+(q+1)):=by
      have:=congrArg (List.drop 1) hSd;rw[List.drop_drop,List.drop_drop] at this;exact this
     have hset:=λv:Int=>qz (v:=v) (show w<S.length by omega);have hdset:∀ v:Int,(S.set w v).drop (j+(q+1))=l.drop (j+(q+1)):=λv=>by
      rw[List.drop_set_of_lt (by omega)];exact hdr
     generalize l[j+q]=u at *;generalize l[j+1+q]=v at *;have e0':S[j+1+(q-1)]?=some u:=by rw[List.getElem?_eq_getElem hs0,e0]
     have e1':S[j+1+q]?=some v:=by rw[List.getElem?_eq_getElem hs1,e1]
     by_cases huv:u=v
     ·have hvu:v=u:=huv.symm;rw[if_pos huv] at hds;have hs:=za hq' (za hq1' (za hSl (za hlq (za hqw (za hww (za hqm (za hs1 (za hs0 (za hwl (za e1 (za e0 (za e0' (za e1' hvu)))))))))))));repeat' first|with_reducible refine zz ?_|simp -dsimp[hs]|refine zM 11 61 10 LU ?_|with_reducible refine zE LU ?_|refine i8 ?_ ?_<;>intro h<;>try exact h.elim
      all_goals exact zn ⟨(q+1,w,S),by simp only;omega,by simp only;omega,by simp only;omega,hSl,hds.symm,hdr⟩ (zv [0,3,4,5])
     ·have hvu:¬ v=u:=λh=>huv h.symm;rw[if_neg huv,<- hset v] at hds;have hs:=za hq' (za hq1' (za hSl (za hlq (za hqw (za hww (za hqm (za hs1 (za hs0 (za hwl (za e1 (za e0 (za e0' (za e1' hvu)))))))))))));repeat' first|with_reducible refine zz ?_|simp -dsimp[hs]|refine zM 11 61 10 LU ?_|with_reducible refine zE LU ?_|refine i8 ?_ ?_<;>intro h<;>try exact h.elim
      all_goals exact zn ⟨(q+1,w+1,S.set w v),by simp only;omega,by simp only;omega,by simp only;omega,by simpa using hSl,hds.symm,hdset v⟩ (zv [0,3,4,5])
    ·have hq':¬ q<l.length-(j+1):=by omega
     have hw0:w<=l.length:=by omega
     have hs:=za hq' (za hw0 hSl);repeat' first|(with_reducible first|refine zz ?_|refine zr ?_|refine zE LU ?_)|simp -dsimp[hs]|refine i8 ?_ ?_<;>intro h<;>try exact h.elim
     have hN:j+1+q=l.length:=by omega
     rw[hN,List.take_length] at hSt;have hwd:w=(r7 l).length:=by rw[<- hSt];simp;omega
     exact⟨xZ S w (l.length-w),⟨by rw[rQ (by omega)];exact hSl,by rw[<- hwd,<- hSt];exact List.take_left' (by simp;omega)⟩,by rw[hwd],rfl⟩
   ·have he':¬ l[j+1]=l[j]:=λh=>he h.symm;rw[if_neg he] at hst;have hs:=za hlt (za hj (za hw (za hwj (za hwj2 (za hp0 (za hp1 (za hp2 he')))))));repeat' first|with_reducible refine zz ?_|simp -dsimp[hs]|refine zM 6 61 10 LU ?_|with_reducible refine zE LU ?_|refine i8 ?_ ?_<;>intro h<;>try exact h.elim
    exact zn ⟨j+2,by omega,by omega,by rw[hst,show j+2=j+1+1 from rfl,List.take_succ_eq_append_getElem hlt]⟩ (zv [0,3] (by simp;exact hw))
  ·obtain rfl:k=l.length:=by omega
   rw[List.take_length] at hdk;have hs:=hlt;repeat' first|(with_reducible first|refine zz ?_|refine zr ?_|refine zE LU ?_)|simp -dsimp[hs]|refine i8 ?_ ?_<;>intro h<;>try exact h.elim
   exact⟨l,⟨rfl,by rw[hdk,List.take_length]⟩,by rw[hdk],rfl⟩
def Gb (x:Print) (d:Int):Bool:=decide (x.day<=d) && !(!decide (x.back=-1)&&decide (x.back<=d)) && !decide (x.lost=2)
def sW (d i w:Int) (x:Print):Bool:=Gb x d&&(decide (x.holder=i)&&decide (x.drawing=w))
def ar (d i w:Int) (l:List Print):List Int:=(l.filter λx=>sW d i w x&&decide (x.lost=1)).map (·.letter)
def bF (d i w:Int) (l:List Print):Int:=(l.filter λx=>sW d i w x && !decide (x.lost=1)).foldl (λa x=>max a x.letter) 0
theorem Im (b:IC) (n:Int):zP prog G 147 [.one (.im b),iv n] (.one (.im (.fn (.func 192) [.ip [b],.ip [rI n]]))):=by
 refine zf func147 ntmps147 ?_;try simp only[iv]
 repeat' first|(with_reducible first|refine zz ?_|refine zx ?_|refine zE [0,1,2,3,4] ?_)|simp -dsimp
def bj (d i w:Int) (l:List Print):List Int:=(r7 (j8 (ar d i w l++[bF d i w l]))).drop (I9 (λx=>decide (bF d i w l=x)) (r7 (j8 (ar d i w l++[bF d i w l])))).toNat
theorem wP (d i w:Int) {l:List Print} {k:Nat} (h:k<l.length):ar d i w (l.take (k+1))=ar d i w (l.take k)++(if (sW d i w l[k]&&decide (l[k].lost=1))=true then [l[k].letter] else []):=by
 unfold ar;rw[List.take_succ_eq_append_getElem h,List.filter_append,List.map_append]
 congr 1
 split<;>simp_all
theorem wq (d i w:Int) {l:List Print} {k:Nat} (h:k<l.length):bF d i w (l.take (k+1))=if (sW d i w l[k] && !decide (l[k].lost=1))=true then max (bF d i w (l.take k)) l[k].letter else bF d i w (l.take k):=by
 unfold bF;rw[List.take_succ_eq_append_getElem h,List.filter_append,List.foldl_append];split<;>simp_all
theorem rp {α:Type} (q:α->Bool) (l:List α):I9 q l<l.length\/l=[]:=by
 unfold I9;split
 ·rename_i j h;rw[List.findIdx?_eq_some_iff_getElem] at h;obtain⟨hlt,_⟩:=h;left;omega
 ·cases l with
  | nil=>exact .inr rfl
  | cons a r=>left;simp;omega
theorem lT (d i w:Int) (l:List Print):(ar d i w l).length<=l.length:=by
 unfold ar;rw[List.length_map];exact List.length_filter_le _ _
@[simp] abbrev QC:List Nat:=[0,1,2,3,4,5,6,7,8,9,10,11,12,13,14,16,18,29,32,46]
theorem CO (p:Prints) (d i w:Int) (hS:u4 G) (hl:p.prints.length<900):zP prog G 90 [.one (.im (l8 p)),iv d,iv i,iv w] (q9 (bj d i w p.prints)):=by
 refine zf func90 ntmps90 ?_;try simp only[iv,iv,iv]
 simp only[l8];have c1:=Im (G:=G) (l8 p) d;simp only[l8] at c1;have hs:=trivial;repeat' first|(with_reducible first|refine zz ?_|refine zE [0,1,2,3,6,7,8,9,10,12,13,16,18,29,32] ?_)|simp -dsimp[hs]|refine zp c1 ?_
 all_goals try clear hs
 refine U3 (f:=192) (by simp;exact rfl) (by rfl) call192 ?_;generalize hR:LoopD.mk _ _ _ _ _ _ _=R;have hR1:R.st=.ready:=by rw[<- hR]
 have hR2:R.pend=none:=by rw[<- hR]
 have hR3:R.at .ready none=R:=by rw[<- hR];rfl
 have hR4:=(congrArg LoopD.nt hR).symm;have hR5:=(congrArg LoopD.tm hR).symm;have hR6:=(congrArg LoopD.ps hR).symm;have hR7:=(congrArg LoopD.asg hR).symm;have hR8:=(congrArg LoopD.body hR).symm;dsimp only at hR4 hR5 hR6 hR7 hR8;clear hR;refine h9 func192 rfl ntmps192 (by simp) rfl ?_;have hR9:∀ objs:List DObj,(R.tm.map λx=>(x.1,fU 7 objs x.2))=R.tm:=by intro objs;rw[hR5];simp
 have hs:=za hR1 (za hR2 hR3);repeat' first|(with_reducible first|refine zz ?_|refine zE QC ?_)|simp -dsimp[hs]
 all_goals try clear hs
 refine i6 (ι:={ q:Nat×Nat×Nat×Bool // q.1<=p.prints.length/\(q.2.2.1=1\/q.2.2.2=true/\ar d i w (p.prints.take q.1)=[]) }) (λq=>⟨48,[(0,.one (.yld 6)),(2,.one (.im (.ip [rI d]))),(11,.one (.im (.sl (p.prints.map A4)))),(12,iv (p.prints.length:Int)),(13,iv (q.1.1:Int))],[.row [.im (rI i)],.row [.im (rI w)],.vec 1 [] 0 true,.row [.im (rI (bF d i w (p.prints.take q.1.1)))],.vec q.1.2.2.1 (l5 ((ar d i w (p.prints.take q.1.1)).map encI)) q.1.2.1 q.1.2.2.2,.row [.vec 4 q.1.2.1 0 (ar d i w (p.prints.take q.1.1)).length],.loop R]⟩) (λq=>p.prints.length-q.1.1) ⟨(0,0,0,true),by simp[ar]⟩ (zv [0,2,11,12,13] (by simp[ar,bF])) ?_;rintro⟨⟨k,g,sz,nl⟩,hk,hz⟩;simp only at hk hz;simp only[iv];by_cases hlt:k<p.prints.length
 ·have hw:=zk k;have hst1:=wP d i w hlt;have hst2:=wq d i w hlt;have hpl:=lT d i w (p.prints.take k);rw[List.length_take] at hpl;have hz':sz=1\/nl=true:=hz.imp id And.left;generalize hx:p.prints[k]=x at *;cases hsel:sW d i w x
  ·rw[hsel] at hst1 hst2;simp only[Bool.false_and,Bool.false_eq_true,if_false,List.append_nil] at hst1 hst2;simp only[sW,Gb] at hsel;simp at hsel;have hz2:sz=1\/nl=true/\ar d i w (p.prints.take (k+1))=[]:=by rw[hst1];exact hz
   clear c1;have hs:=za hR1 (za hR2 (za hR3 (za hx (za hlt (za hw hz')))));repeat' first|(with_reducible first|refine zz ?_|refine And.intro (by omega) ?_|refine zE QC ?_)|simp -dsimp[hs]|with_reducible refine At.yield_end ?_;simp -dsimp[hs]|refine bh ?_ ?_<;>simp -dsimp[hs]|refine R4 ?_;simp -dsimp[U0,hR4,hR5,hR6,hR7,hR8,hs]|refine i8 ?_ ?_<;>intro h<;>try exact h.elim|with_reducible refine j0 ?_ ?_<;>intro h<;>have h0:=h<;>(try simp only[i7] at h)<;>have h2:=h<;>(try simp at h2)<;>replace hs:=za h0 (za h (za h2 hs))
   all_goals try clear hs
   all_goals first
    | (exfalso;omega)
    | exact zn ⟨(k+1,g,sz,nl),by simp only;omega,hz2⟩ (zw [0,2,11,12,13] 7 (by simp[hst1,hst2,hR9]))
  ·rw[hsel] at hst1 hst2;simp only[Bool.true_and] at hst1 hst2;have hq:=hsel;simp only[sW,Gb] at hq;simp at hq;obtain⟨⟨⟨q1,q2⟩,q3⟩,q4,q5⟩:=hq;have hbk:((x.back=-1)/\True)\/(¬ x.back=-1/\¬ x.back<=d):=by
    by_cases hb:x.back=-1
    ·exact .inl ⟨hb,trivial⟩
    ·exact .inr ⟨hb,by omega⟩
   clear hsel q2 c1;have hs:True:=trivial;by_cases hl1:x.lost=1
   ·simp only[hl1,decide_true,if_true,Bool.not_true,Bool.false_eq_true,if_false] at hst1 hst2;rcases hbk with⟨hb1,hb2⟩|⟨hb1,hb2⟩
    all_goals
     have hs:=za hR1 (za hR2 (za hR3 (za hx (za hlt (za hw (za hz' (za q1 (za q3 (za q4 (za q5 (za hb1 (za hb2 hl1))))))))))));repeat' first|(with_reducible first|refine zz ?_|refine And.intro (by omega) ?_|refine zE QC ?_)|simp -dsimp[hs]|with_reducible refine At.yield_end ?_;simp -dsimp[hs]|refine bh ?_ ?_<;>simp -dsimp[hs]|refine R4 ?_;simp -dsimp[U0,hR4,hR5,hR6,hR7,hR8,hs]|refine i8 ?_ ?_<;>intro h<;>try exact h.elim
     all_goals try clear hs
    all_goals exact zn ⟨(k+1,g+1,1,false),by simp only;omega,.inl rfl⟩ (zw [0,2,11,12,13] 7 (by simp[hst1,hst2,hR9]))
   ·simp only[hl1,decide_false,Bool.false_eq_true,if_false,List.append_nil,Bool.not_false,if_true] at hst1 hst2;have hz2:sz=1\/nl=true/\ar d i w (p.prints.take (k+1))=[]:=by rw[hst1];exact hz
    rcases hbk with⟨hb1,hb2⟩|⟨hb1,hb2⟩
    all_goals
     have hs:=za hR1 (za hR2 (za hR3 (za hx (za hlt (za hw (za hz' (za q1 (za q3 (za q4 (za q5 (za hb1 (za hb2 hl1))))))))))));repeat' first|(with_reducible first|refine zz ?_|refine zE QC ?_)|simp -dsimp[hs]|with_reducible refine At.yield_end ?_;simp -dsimp[hs]|refine bh ?_ ?_<;>simp -dsimp[hs]|refine R4 ?_;simp -dsimp[U0,hR4,hR5,hR6,hR7,hR8,hs]|refine i8 ?_ ?_<;>intro h<;>try exact h.elim
     all_goals try clear hs
    all_goals exact zn ⟨(k+1,g,sz,nl),by simp only;omega,hz2⟩ (zw [0,2,11,12,13] 7 (by simp[hst1,hst2,hR9]))
 ·obtain rfl:k=p.prints.length:=by omega
  rw[List.take_length] at *;have hz':sz=1\/nl=true:=hz.imp id And.left;have hpl:=lT d i w p.prints;clear c1;have hs:=za hR1 (za hR2 (za hR3 (za hlt hz')));repeat' first|(with_reducible first|refine zz ?_|refine And.intro (by omega) ?_|refine ze ?_ (by simp -dsimp[C9,hs];exact rfl)|refine zE QC ?_)|simp -dsimp[C9,hs]|with_reducible show C9 _ _ _ _ _ _ _ _;simp -dsimp[C9,hs]|refine i8 ?_ ?_<;>intro h<;>try exact h.elim
  all_goals try clear hs
  obtain⟨L,hL1⟩:∃ L,L=ar d i w p.prints++[bF d i w p.prints]:=⟨_,rfl⟩
  have hE:bj d i w p.prints=(r7 (j8 L)).drop (I9 (λx=>decide (bF d i w p.prints=x)) (r7 (j8 L))).toNat:=by rw[hL1];rfl
  have hv:bF d i w p.prints∈L:=by rw[hL1];simp
  generalize bF d i w p.prints=v at *;have hLn:(ar d i w p.prints).length+1=L.length:=by rw[hL1];simp
  have hLi:l5 ((ar d i w p.prints).map encI)++[[DC.im (IC.raw (Value.int .i64 v))]]=l5 (L.map encI):=by rw[hL1];simp[aE,l5]
  rw[hE];clear hL1 hE;generalize ar d i w p.prints=Q at *;have c1:=hS L (g+1) 1 false (.inl rfl) (by omega);have hil:=N6 L;have c2:=oK (G:=G) (j8 L) (g+1) (by omega);have hdl:=aL (j8 L);rw[hil] at c2;have c3:=rf (G:=G) (r7 (j8 L)) v (by omega);have hs:True:=trivial;rw[hLi];simp only[hLn];have hs:=za hR1 (za hR2 (za hR3 (za hlt (za hLn hLi))));repeat' first|(with_reducible first|refine zz ?_|refine zE QC ?_)|simp -dsimp[hs]|refine CallE.embed [4] (c1) ?_ ?_ ?_ ?_ ?_ ?_;(focus simp[u9];done);(focus simp;done);(focus simp;done);(focus simp;done);(focus refine o4 ?_;simp[u9,r5];done);try simp -dsimp[n8,u9,hs]|refine CallE.embed_ex [4] (c2) ?_ ?_ ?_ ?_ ?_ ?_;(focus simp[u9];done);(focus simp;done);(focus simp;done);(focus simp;done);(focus refine o4 ?_;simp[u9,r5];done);intro mma hmma;try simp -dsimp[n8,u9,hs]
  all_goals try clear hs
  obtain⟨ha1,ha2⟩:=hmma;clear c1 c2;generalize hD:r7 (j8 L)=D at *;have hdm:D.length<=mma.length:=by omega
  have hfi:=rp (λx=>decide (v=x)) D;have hvd:D.any (λx=>decide (v=x))=true:=by
   rw[List.any_eq_true];refine⟨v,?_,by simp⟩;rw[<- hD,gc];exact isort_mem.2 hv
  rw[<- B0] at hvd;have hf0:0<=I9 (λx=>decide (v=x)) D:=of_decide_eq_true hvd;obtain⟨f,hf⟩:=Int.eq_ofNat_of_zero_le hf0;rw[hf] at c3 hfi;have hfd:f<=D.length:=by
   rcases hfi with h|h
   ·omega
   ·rw[h] at hf;simp[I9] at hf
  rw[hf,Int.toNat_natCast];have htk:(l5 (mma.map encI)).take D.length=l5 (D.map encI):=by rw[show (l5 (mma.map encI)).take D.length=l5 ((mma.map encI).take D.length) by simp[l5,List.map_take],<- List.map_take,ha2]
  have hs:True:=trivial;all_goals try simp -dsimp[hR1,hR2,hR3,htk,hdm,hfd,ha1,hs]
  all_goals try clear hs
  have hdL:D.length<=L.length:=by omega
  have htd:List.take (D.length-f) (List.drop f (l5 (mma.map encI)))=l5 ((D.drop f).map encI):=by
   rw[<- List.drop_take,htk];simp[l5,List.map_drop]
  refine CallE.thaw c3 ?_ ?_ ?_
  ·simp[htk,hdm,hfd,ha1,hdL]
  ·simp
  simp -dsimp[htk,hdm,hfd,ha1];have hs:=za hR1 (za hR2 (za hR3 (za htk (za hdm (za hfd (za ha1 (za hdL htd)))))));repeat' first|(with_reducible first|refine zz ?_|refine zr ?_)|simp -dsimp[hs]
  all_goals try clear hs
attribute [simp] v6 A8
noncomputable def P6 (p:Prints) (d i w:Int):List Int:=if O3 p d 1 i w=0 then bj d i w p.prints else []
theorem lQ (p:Prints) (d i w:Int) (hG:o3 G) (hN:E0 G) (hS:u4 G) (hR:w0 G) (hk:KP p):zP prog G 45 [D7 p,iv d,iv i,iv w] (.tup [q9 (P6 p d i w),iv (O3 p d 1 i w)]):=by
 refine zf func45 ntmps45 ?_;try simp only[iv,iv,iv]
 have c1:=Ad p d 1 i w hG hN hS hR hk;have c2:=CO p d i w hS (by have:=hk.p.q;omega);by_cases h0:O3 p d 1 i w=0
 ·have hW:P6 p d i w=bj d i w p.prints:=by unfold P6;rw[if_pos h0]
  simp only[eq,h0,if_true] at c1;rw[hW,h0];simp only[l8] at c1 c2;have c1':=c1 [];simp only[D7,p6,q9,iv,List.map_cons,List.map_nil,encI,rI] at c1';have hs:=trivial;repeat' first|(with_reducible first|refine zz ?_|refine zr ?_|refine zE [0,1,2,3,4,8,9,10,11,22] ?_)|simp -dsimp[hs]|refine CallE.freeze 0 c1' ?_ ?_ ?_ ?_ ?_ ?_;(focus simp;done);(focus simp;done);(focus simp;done);(focus rfl);(focus simp;done);try simp -dsimp[v6]|refine zp c2 ?_|refine i8 ?_ ?_<;>intro h<;>try exact h.elim
 ·have hW:P6 p d i w=[]:=by unfold P6;rw[if_neg h0]
  simp only[eq,h0,if_false] at c1;rw[hW];have c1':=c1 [];simp only[D7,p6,q9,iv,List.map_cons,List.map_nil,encI,rI] at c1';have hs:=h0;repeat' first|(with_reducible first|refine zz ?_|refine zr ?_|refine zE [0,1,2,3,4,8,9,10,11,22] ?_)|simp -dsimp[hs]|refine CallE.freeze 0 c1' ?_ ?_ ?_ ?_ ?_ ?_;(focus simp;done);(focus simp;done);(focus simp;done);(focus rfl);(focus simp;done);try simp -dsimp[v6]|refine i8 ?_ ?_<;>intro h<;>try exact h.elim
open Go Go.Ab
def CN:Dim:=⟨0,0,0⟩
def V1 (c:Chains) (x:Link):Dim:=((u5 c.reg c.lets x.drawing).dims[x.dim.toNat]?).getD CN
structure OkC (c:Chains):Prop where
 reg:l4 c.reg=0
 lets:s6 c.reg c.lets=true
 of:c.of∈nums c.reg
 num:1<=c.loops.length/\c.loops.length<=6
 gap:∀ x∈c.loops,x.links.length<=8/\rT x=true
 link:∀ x∈c.loops,∀ y∈x.links,y.drawing∈nums c.reg/\0<=y.dim/\y.dim<(u5 c.reg c.lets y.drawing).dims.length
def bq (c:Chains) (x:ChLoop):List Dim:=x.links.map (V1 c)
def Q1 (high:Bool) (x:Link) (d:Dim):Int:=if high != x.back then d.upper else d.lower
def ni (x:Link) (n:Int):Int:=if x.back then -n else n
def rz (links:List Link) (l:List Dim) (high:Bool):List Int:=(links.zip l).map λp=>Q1 high p.1 p.2
def dl (links:List Link) (l:List Dim) (high:Bool):Int:=(links.zip l).foldl (λs p=>s+ni p.1 (Q1 high p.1 p.2)) 0
theorem mC {c:Chains} (h:OkC c) {x:ChLoop} (hx:x∈c.loops) {y:Link} (hy:y∈x.links):J9 (V1 c y)=true/\(u5 c.reg c.lets y.drawing).dims[y.dim.toNat]?=some (V1 c y):=by
 obtain⟨h1,h2,h3⟩:=h.link x hx y hy;obtain⟨hm,_⟩:=eA h.reg h.lets h1;have hok:=(L0 (I6 (H1 h.reg))).2.2.2.1 _ hm;have hlt:y.dim.toNat<(u5 c.reg c.lets y.drawing).dims.length:=by omega
 have he:(u5 c.reg c.lets y.drawing).dims[y.dim.toNat]?=some (u5 c.reg c.lets y.drawing).dims[y.dim.toNat]:=by simp[hlt]
 have hd:V1 c y=(u5 c.reg c.lets y.drawing).dims[y.dim.toNat]:=by rw[V1,he,Option.getD_some]
 simp only[n5,Bool.and_eq_true] at hok;rw[hd];exact⟨List.all_eq_true.1 hok.2 _ (List.getElem_mem hlt),he⟩
def ef (l:List Itm) (d:Int):Int:=match l with
 | []=>0
 | y :: r=>if y.drawing=d then y.count else ef r d
theorem Eu {high:Bool} {x:Link} {d:Dim} (h:J9 d=true):0<=Q1 high x d/\Q1 high x d<=1000000000:=by
 have:=(ak d).1 h;unfold Q1;split<;>omega
theorem FI {high:Bool} {x:Link} {d:Dim} (h:J9 d=true):-1000000000<=ni x (Q1 high x d)/\ni x (Q1 high x d)<=1000000000:=by
 have:=Eu (high:=high) (x:=x) h;unfold ni;split<;>omega
theorem qu {c:Chains} (h:OkC c) {n:Nat} (hn:n<c.loops.length):(bq c c.loops[n]).length=c.loops[n].links.length/\∀ d∈bq c c.loops[n],J9 d=true:=by
 refine⟨by simp[bq],λd hd=>?_⟩;obtain⟨y,hy,rfl⟩:=List.mem_map.1 hd;exact(mC h (List.getElem_mem hn) hy).1
theorem oJ (c:Chains):∃ X,bb c=.one (.im X):=by unfold bb;split<;>exact⟨_,rfl⟩
def E4 (c:Chains) (n:Int):Int:=if B4 c≠0 then B4 c else if 0<=n/\n<c.loops.length then 0 else 2
@[simp] abbrev Wy:List Nat:=[0,1,2,4,5,6,7,24]
theorem DN (c:Chains) (n:Int) (hG:o3 G) (hC:J0 G) (hs:jH c):zP prog G 185 [BG c,iv n] (.tup [bb c,iv (E4 c n)]):=by
 refine zf func185 ntmps185 ?_;try simp only[BG,iv]
 have c1:=BK c hG hC hs;have hl:=hs.2.2.1;have hw:IntKind.i64.wrap ((c.loops.length:Int)-1)=(c.loops.length:Int)-1:=n4 (by omega) (by omega);have c2:=bV (G:=G) 0 ((c.loops.length:Int)-1) [n] (by simp);have hE:E4 c n=if B4 c≠0 then B4 c else if 0<=n/\n<c.loops.length then 0 else 2:=rfl;obtain⟨X,hX⟩:=oJ c;rw[hX];rw[hX] at c1;by_cases h0:B4 c=0
 ·rw[h0] at c1 hE;by_cases hr:0<=n/\n<c.loops.length
  ·have hq:([n].all λx=>decide (0<=x)&&decide (x<=(c.loops.length:Int)-1))=true:=by simp;omega
   rw[hq] at c2;have hs:=hw;repeat' first|(with_reducible first|refine zz ?_|refine zr ?_|refine zE Wy ?_)|simp -dsimp[hs]|refine zp c1 ?_|refine zt c2 ?_ ?_ ?_;(focus simp;done);focus (simp;done)|refine i8 ?_ ?_<;>intro h<;>try exact h.elim
   all_goals try clear hs
   simp[hE,hr]
  ·have hq:([n].all λx=>decide (0<=x)&&decide (x<=(c.loops.length:Int)-1))=false:=by simp;omega
   rw[hq] at c2;have hs:=hw;repeat' first|(with_reducible first|refine zz ?_|refine zr ?_|refine zE Wy ?_)|simp -dsimp[hs]|refine zp c1 ?_|refine zt c2 ?_ ?_ ?_;(focus simp;done);focus (simp;done)|refine i8 ?_ ?_<;>intro h<;>try exact h.elim
   all_goals try clear hs
   simp[hE,hr]
 ·have hs:=h0;repeat' first|(with_reducible first|refine zz ?_|refine zr ?_|refine zE Wy ?_)|simp -dsimp[hs]|refine zp c1 ?_|refine i8 ?_ ?_<;>intro h<;>try exact h.elim
  all_goals try clear hs
  simp[hE,h0]
theorem DE (d k:Int):zP prog G 188 [D9 d k] (bv false):=by
 refine zf func188 ntmps188 ?_;try simp only[D9]
 repeat' first|(with_reducible first|refine zz ?_|refine zx ?_|refine zE [0,2] ?_)|simp -dsimp
theorem FG (x:Link):zP prog G 236 [AG x] (D9 x.drawing x.dim):=by
 refine zf func236 ntmps236 ?_;try simp only[AG]
 repeat' first|(with_reducible first|refine zz ?_|refine zx ?_|refine zE [0,1,2] ?_)|simp -dsimp
def fK:IC:=.fn (.func 188) []
@[simp] abbrev Wi:List Nat:=[0,1,2,3,8,9,11,12,21,22,23,24,42]
theorem Ae (c:Chains) (D:List (Int×Int)) (n:Nat) (hn:n<c.loops.length) (h:OkC c):zP prog G 187 [.one (.im (K5 c D (bn c.reg c.lets))),iv (n:Int),iv 0,.one (.im fK)] (.one (.im (.sl ((bq c c.loops[n]).map F0)))):=by
 refine zf func187 ntmps187 ?_;try simp only[iv,iv]
 have hx:c.loops[n]?=some c.loops[n]:=by simp[hn]
 have hln:=h.gap c.loops[n] (List.getElem_mem hn);have hok:=λy hy=>mC h (List.getElem_mem hn) (y:=y) hy;have hlk:=h.link c.loops[n] (List.getElem_mem hn);have hE:bq c c.loops[n]=c.loops[n].links.map (V1 c):=rfl;simp only[K5,fK];have hs:=za hx hn;repeat' first|(with_reducible first|refine zz ?_|refine zE Wi ?_)|simp -dsimp[hs]
 generalize hls:c.loops[n].links=ls at *;refine i6 (ι:={ p:Nat×Nat×Bool×List Dim // p.1<=ls.length/\p.2.2.2=(ls.take p.1).map (V1 c) }) (λp=>⟨52,[(0,.one (.im (K5 c D (bn c.reg c.lets)))),(2,iv 0),(3,.one (.im fK)),(9,.one (.vec 1 p.1.2.1 0 p.1.2.2.2.length)),(21,.one (.im (.sl (ls.map G9)))),(22,iv (ls.length:Int)),(23,iv (p.1.1:Int))],[.vec 3 [] 0 true,.vec 3 (l5 (p.1.2.2.2.map F0)) p.1.2.1 p.1.2.2.1]⟩) (λp=>ls.length-p.1.1) ⟨(0,0,true,[]),by simp⟩ (zv [0,2,3,9,21,22,23] (by simp[K5,fK])) ?_;rintro⟨⟨k,g,nl,out⟩,hk,ho⟩;simp only at hk ho;simp only[iv,K5,fK];have hol:out.length=k:=by rw[ho];simp;omega
 by_cases hlt:k<ls.length
 ·have hy:ls[k]?=some ls[k]:=by simp[hlt]
  have hw:=zk k;obtain⟨l1,l2,l3⟩:=hlk ls[k] (List.getElem_mem hlt);obtain⟨_,he⟩:=hok ls[k] (List.getElem_mem hlt);have hlook:K1 (bn c.reg c.lets) ls[k].drawing=u5 c.reg c.lets ls[k].drawing:=by rw[bn,V6,if_pos l1]
  obtain⟨j,hj⟩:∃ j:Nat,ls[k].dim=j:=⟨ls[k].dim.toNat,by omega⟩
  rw[hj,Int.toNat_natCast] at he;have hjl:=e7 he;have hje:=(List.getElem?_eq_some_iff.1 he).2;have c2:=FG (G:=G) ⟨ls[k].drawing,j,ls[k].back⟩;have c3:=DE (G:=G) ls[k].drawing j;simp only[D9] at c2 c3;have hon:out++[V1 c ls[k]]=(ls.take (k+1)).map (V1 c):=by rw[List.take_succ_eq_append_getElem hlt,List.map_append,ho];rfl
  have hs:=za hy (za hw (za hlt (za hlook (za hj (za hjl (za he hje))))));repeat' first|(with_reducible first|refine zz ?_|refine And.intro (by omega) ?_)|simp -dsimp[hs]|refine zp c2 ?_|refine zp c3 ?_|refine H7 (id:=5) (nt:=52) 13 [] [0,1,2,3,8,9,11,12,21,22,23,24,27,28,29,30,31,32,33,34,35,36,37,38,42] Wi mixed rfl (by kernel_rfl) ?_|with_reducible refine zE Wi ?_|refine i8 ?_ ?_<;>intro h<;>try exact h.elim
  all_goals try omega
  exact zn ⟨(k+1,g+1,false,out++[V1 c ls[k]]),by omega,hon⟩ (zw [0,2,3,9,21,22,23] 2 (by simp[K5,fK]))
 ·have hs:=hlt;repeat' first|(with_reducible first|refine zz ?_|refine zr ?_|refine zE Wi ?_)|simp -dsimp[hs]|refine i8 ?_ ?_<;>intro h<;>try exact h.elim
  all_goals try omega
  rw[hE,ho,List.take_of_length_le (by omega)]
@[simp] abbrev QD:List Nat:=[0,1,2,3,8,9,10,11,12,13,14,15,24,25,26,27,37,41]
@[simp] abbrev Wj:List Nat:=[2,3,10,11,24,25,26]
theorem Aj (c:Chains) (D:List (Int×Int)) (B:List (Int×Issue)) (n:Nat) (hn:n<c.loops.length) (l:List Dim) (high:Bool) (hl:c.loops[n].links.length<=12) (he:l.length=c.loops[n].links.length) (hd:∀ d∈l,J9 d=true):zP prog G 235 [.one (.im (K5 c D B)),iv (n:Int),.one (.im (.sl (l.map F0))),bv high] (.tup [q9 (rz c.loops[n].links l high),iv (dl c.loops[n].links l high)]):=by
 refine zf func235 ntmps235 ?_;try simp only[iv,bv]
 have hxn:c.loops[n]?=some c.loops[n]:=by simp[hn]
 simp only[K5];have hs:=za hxn hn;repeat' first|(with_reducible first|refine zz ?_|refine zE QD ?_)|simp -dsimp[hs]
 all_goals try clear hs
 generalize c.loops[n].links=ls at *;refine i6 (ι:={ p:Nat×Nat×Bool×List Int×Int // p.1<=ls.length/\p.2.2.2.1.length=p.1/\rz ls l high=p.2.2.2.1++((ls.zip l).drop p.1).map (λq=>Q1 high q.1 q.2)/\dl ls l high=((ls.zip l).drop p.1).foldl (λs q=>s+ni q.1 (Q1 high q.1 q.2)) p.2.2.2.2/\-1000000000*(p.1:Int)<=p.2.2.2.2/\p.2.2.2.2<=1000000000*(p.1:Int) }) (λp=>⟨59,[(2,.one (.im (.sl (l.map F0)))),(3,bv high),(10,iv p.1.2.2.2.2),(11,.one (.vec 1 p.1.2.1 0 p.1.2.2.2.1.length)),(24,.one (.im (.sl (ls.map G9)))),(25,iv (ls.length:Int)),(26,iv (p.1.1:Int))],[.vec 1 [] 0 true,.vec 1 (l5 (p.1.2.2.2.1.map encI)) p.1.2.1 p.1.2.2.1]⟩) (λp=>ls.length-p.1.1) ⟨(0,0,true,[],0),by simp[rz,dl]⟩ (zv [2,3,10,11,24,25,26]) ?_;rintro⟨⟨k,g,nl,out,s⟩,hk,hol,ho,hs,hb1,hb2⟩;simp only at hk hol ho hs hb1 hb2;simp only[iv,bv];by_cases hlt:k<ls.length
 ·have hkl:k<l.length:=by omega
  have hx:ls[k]?=some ls[k]:=by simp[hlt]
  have hy:l[k]?=some l[k]:=by simp[hkl]
  have hw:=zk k;have hz:k<(ls.zip l).length:=by simp;omega
  rw[List.drop_eq_getElem_cons hz,List.getElem_zip,List.map_cons] at ho;rw[List.drop_eq_getElem_cons hz,List.getElem_zip,List.foldl_cons] at hs;have hdk:=hd l[k] (List.getElem_mem hkl);have hdl:=(ak _).1 hdk;have hsb:=FI (high:=high) (x:=ls[k]) hdk;have hws:IntKind.i64.wrap (s+ni ls[k] (Q1 high ls[k] l[k]))=s+ni ls[k] (Q1 high ls[k] l[k]):=n4 (by omega) (by omega);have hon:rz ls l high=(out++[Q1 high ls[k] l[k]])++((ls.zip l).drop (k+1)).map (λq=>Q1 high q.1 q.2):=by rw[ho];simp
  have hwl:IntKind.i64.wrap (-l[k].lower)=-l[k].lower:=n4 (by omega) (by omega);have hwu:IntKind.i64.wrap (-l[k].upper)=-l[k].upper:=n4 (by omega) (by omega);have hwl1:IntKind.i64.wrap l[k].lower=l[k].lower:=n4 (by omega) (by omega);have hwu1:IntKind.i64.wrap l[k].upper=l[k].upper:=n4 (by omega) (by omega);have hfin:k+1<=ls.length/\(out++[Q1 high ls[k] l[k]]).length=k+1/\rz ls l high=(out++[Q1 high ls[k] l[k]])++((ls.zip l).drop (k+1)).map (λq=>Q1 high q.1 q.2)/\dl ls l high=((ls.zip l).drop (k+1)).foldl (λs q=>s+ni q.1 (Q1 high q.1 q.2)) (s+ni ls[k] (Q1 high ls[k] l[k]))/\-1000000000*((k+1:Nat):Int)<=s+ni ls[k] (Q1 high ls[k] l[k])/\s+ni ls[k] (Q1 high ls[k] l[k])<=1000000000*((k+1:Nat):Int):=⟨by omega,by simp;omega,hon,hs,by omega,by omega⟩
  cases hbk:ls[k].back<;>cases high;all_goals have hN:∀ h,Q1 h ls[k] l[k]=if h != ls[k].back then l[k].upper else l[k].lower:=λ_=>rfl
  all_goals have hS:∀ n,ni ls[k] n=if ls[k].back then -n else n:=λ_=>rfl
  all_goals simp only[hN,hS,hbk,bne_self_eq_false,Bool.false_eq_true,if_false,if_true,Bool.true_bne,Bool.false_bne,Bool.not_false] at hws hfin
  all_goals clear hN hS
  ·have hs:=za hx (za hy (za hw (za hlt (za hkl (za hbk (za hws (za hwl1 hwu1)))))));repeat' first|(with_reducible first|refine zz ?_|refine And.intro (by omega) ?_|refine zE QD ?_)|simp -dsimp[hs]|refine i8 ?_ ?_<;>intro h<;>try exact h.elim
   all_goals try clear hs
   all_goals try omega
   exact zn ⟨(k+1,g+1,false,out++[l[k].lower],s+l[k].lower),hfin⟩ (zw Wj 2)
  ·have hs:=za hx (za hy (za hw (za hlt (za hkl (za hbk (za hws (za hwl1 hwu1)))))));repeat' first|(with_reducible first|refine zz ?_|refine And.intro (by omega) ?_|refine zE QD ?_)|simp -dsimp[hs]|refine i8 ?_ ?_<;>intro h<;>try exact h.elim
   all_goals try clear hs
   all_goals try omega
   exact zn ⟨(k+1,g+1,false,out++[l[k].upper],s+l[k].upper),hfin⟩ (zw Wj 2)
  ·have hs:=za hx (za hy (za hw (za hlt (za hkl (za hbk (za hws (za hwl hwu)))))));repeat' first|(with_reducible first|refine zz ?_|refine And.intro (by omega) ?_|refine zE QD ?_)|simp -dsimp[hs]|refine i8 ?_ ?_<;>intro h<;>try exact h.elim
   all_goals try clear hs
   all_goals try omega
   exact zn ⟨(k+1,g+1,false,out++[l[k].upper],s + -l[k].upper),hfin⟩ (zw Wj 2)
  ·have hs:=za hx (za hy (za hw (za hlt (za hkl (za hbk (za hws (za hwl hwu)))))));repeat' first|(with_reducible first|refine zz ?_|refine And.intro (by omega) ?_|refine zE QD ?_)|simp -dsimp[hs]|refine i8 ?_ ?_<;>intro h<;>try exact h.elim
   all_goals try clear hs
   all_goals try omega
   exact zn ⟨(k+1,g+1,false,out++[l[k].lower],s + -l[k].lower),hfin⟩ (zw Wj 2)
 ·rw[List.drop_eq_nil_of_le (by simp;omega)] at ho hs;have hs:=hlt;repeat' first|(with_reducible first|refine zz ?_|refine zr ?_|refine zE QD ?_)|simp -dsimp[hs]|refine i8 ?_ ?_<;>intro h<;>try exact h.elim
  all_goals try clear hs
  all_goals try omega
  rw[ho,hs];simp
theorem Af (c:Chains) (D:List (Int×Int)) (B:List (Int×Issue)) (n:Nat) (hn:n<c.loops.length) (l:List Dim) (hl:c.loops[n].links.length<=12) (he:l.length=c.loops[n].links.length) (hd:∀ d∈l,J9 d=true):zP prog G 186 [.one (.im (K5 c D B)),iv (n:Int),.one (.im (.sl (l.map F0)))] (D9 (dl c.loops[n].links l false) (dl c.loops[n].links l true)):=by
 refine zf func186 ntmps186 ?_;try simp only[iv]
 have c2:=Aj (G:=G) c D B n hn l false hl he hd;have c3:=Aj (G:=G) c D B n hn l true hl he hd;repeat' first|(with_reducible first|refine zz ?_|refine zx ?_|refine zE [0,1,2,6,8,10] ?_)|simp -dsimp|refine zp c2 ?_|refine zp c3 ?_
def IP (c:Chains) (n:Int):Int:=match c.loops[n.toNat]? with|some x=>dl x.links (bq c x) false|none=>0
def Jh (c:Chains) (n:Int):Int:=match c.loops[n.toNat]? with|some x=>dl x.links (bq c x) true|none=>0
def wF (c:Chains) (n:Int):Int:=if E4 c n=0 then IP c n else 0
def wG (c:Chains) (n:Int):Int:=if E4 c n=0 then Jh c n else 0
@[simp] abbrev QE:List Nat:=[0,1,2,4,5,6,7,15]
theorem Ak (c:Chains) (n:Int) (hG:o3 G) (hC:J0 G) (hs:jH c) (hok:B4 c=0->OkC c):zP prog G 141 [BG c,iv n] (.tup [D9 (wF c n) (wG c n),iv (E4 c n)]):=by
 refine zf func141 ntmps141 ?_;try simp only[BG,iv]
 have c1:=DN c n hG hC hs;by_cases hE:E4 c n=0
 ·have h0:B4 c=0:=by
   by_cases h:B4 c=0
   ·exact h
   ·simp[E4,h] at hE
  have hr:0<=n/\n<c.loops.length:=Classical.byContradiction λh=>by simp[E4,h0,h] at hE
  obtain⟨k,rfl⟩:∃ k:Nat,n=k:=⟨n.toNat,by omega⟩
  have hk:k<c.loops.length:=by omega
  have h:=hok h0;have hx:c.loops[k]?=some c.loops[k]:=by simp[hk]
  have c2:=Ae (G:=G) c (T7 c) k hk h;obtain⟨hsl,hsd⟩:=qu h hk;have hln:=(h.gap c.loops[k] (List.getElem_mem hk)).1;have c3:=Af (G:=G) c (T7 c) (bn c.reg c.lets) k hk (bq c c.loops[k]) (by omega) hsl hsd;have h1:IP c (k:Int)=dl c.loops[k].links (bq c c.loops[k]) false:=by simp only[IP,Int.toNat_natCast,hx]
  have h2:Jh c (k:Int)=dl c.loops[k].links (bq c c.loops[k]) true:=by simp only[Jh,Int.toNat_natCast,hx]
  rw[<- h1,<- h2] at c3;rw[hE] at c1;simp only[bb,h0,if_true,K5] at c1;rw[wF,wG,if_pos hE,if_pos hE];simp only[K5,fK,D9] at c2 c3;have hs:=trivial;repeat' first|(with_reducible first|refine zz ?_|refine zr ?_|refine zE QE ?_)|simp -dsimp[hs]|refine zp c1 ?_|refine zp c2 ?_|refine zp c3 ?_|refine i8 ?_ ?_<;>intro h<;>try exact h.elim
  all_goals try clear hs
  all_goals simp[hE]
 ·obtain⟨X,hX⟩:=oJ c;rw[hX] at c1;rw[wF,wG,if_neg hE,if_neg hE];have hs:=hE;repeat' first|(with_reducible first|refine zz ?_|refine zr ?_|refine zE QE ?_)|simp -dsimp[hs]|refine zp c1 ?_|refine i8 ?_ ?_<;>intro h<;>try exact h.elim
  all_goals try clear hs
theorem oF (h1:Bool):∀ (q:List (Link×Dim)) (a b:Int),(∀ p∈q,J9 p.2=true)->a<=b->q.foldl (λs p=>s+ni p.1 (Q1 false p.1 p.2)) a<=q.foldl (λs p=>s+ni p.1 (Q1 true p.1 p.2)) b
 | [],a,b,_,h=>h
 | p :: q,a,b,hd,h=>by
   rw[List.foldl_cons,List.foldl_cons];refine oF h1 q _ _ (λp hp=>hd p (by simp[hp])) ?_;have hp:=(ak _).1 (hd p (by simp));have:ni p.1 (Q1 false p.1 p.2)<=ni p.1 (Q1 true p.1 p.2):=by
    unfold ni Q1;cases p.1.back<;>simp<;>omega
   omega
theorem IN {ls:List Link} {l:List Dim} (hd:∀ d∈l,J9 d=true):dl ls l false<=dl ls l true:=
 oF true _ 0 0 (λ_ hp=>hd _ (List.of_mem_zip hp).2) (Int.le_refl _)
def Ku (c:Chains) (n:Int):Int:=match c.loops[n.toNat]? with
 | some x=>if x.lo<=wF c n/\wG c n<=x.hi then 2 else if wG c n<x.lo\/x.hi<wF c n then 0 else 1
 | none=>0
def K7 (c:Chains) (n:Int):Int:=if E4 c n=0 then Ku c n else 0
def sN (n:Int):DV:=.one (.im (.raw (.int .u8 n)))
attribute [simp] sN
theorem dM {c:Chains} {n:Int} (h:E4 c n=0):B4 c=0/\∃ k:Nat,n=k/\k<c.loops.length:=by
 have h0:B4 c=0:=by
  by_cases h':B4 c=0
  ·exact h'
  ·simp[E4,h'] at h
 have hr:0<=n/\n<c.loops.length:=Classical.byContradiction λh'=>by simp[E4,h0,h'] at h
 exact⟨h0,n.toNat,by omega,by omega⟩
theorem zU {c:Chains} {n:Int} (h:E4 c n=0) (hok:B4 c=0->OkC c):wF c n<=wG c n:=by
 obtain⟨h0,k,rfl,hk⟩:=dM h;have hx:c.loops[k]?=some c.loops[k]:=by simp[hk]
 obtain⟨hsl,hsd⟩:=qu (hok h0) hk;rw[wF,wG,if_pos h,if_pos h];simp only[IP,Jh,Int.toNat_natCast,hx];exact IN hsd
@[simp] abbrev Wz:List Nat:=[0,1,2,4,5,6,7,8,16,24,35]
theorem nW (c:Chains) (n:Int) (hG:o3 G) (hC:J0 G) (hs:jH c) (hok:B4 c=0->OkC c):zP prog G 88 [BG c,iv n] (.tup [sN (K7 c n),iv (E4 c n)]):=by
 refine zf func88 ntmps88 ?_;try simp only[BG,iv]
 have c1:=Ak c n hG hC hs hok;by_cases hE:E4 c n=0
 ·have hle:=zU hE hok;obtain⟨h0,k,rfl,hk⟩:=dM hE;have hx:c.loops[k]?=some c.loops[k]:=by simp[hk]
  have hK:K7 c (k:Int)=if c.loops[k].lo<=wF c (k:Int)/\wG c (k:Int)<=c.loops[k].hi then 2 else if wG c (k:Int)<c.loops[k].lo\/c.loops[k].hi<wF c (k:Int) then 0 else 1:=by simp only[K7,Ku,Int.toNat_natCast,hx,if_pos hE]
  generalize wF c (k:Int)=a at *;generalize wG c (k:Int)=b at *;have c2:=bV (G:=G) c.loops[k].lo c.loops[k].hi [a,b] (by simp);simp only[D9,hE] at c1;by_cases hin:c.loops[k].lo<=a/\b<=c.loops[k].hi
  ·have hq:([a,b].all λx=>decide (c.loops[k].lo<=x)&&decide (x<=c.loops[k].hi))=true:=by simp;omega
   rw[if_pos hin] at hK;rw[hq] at c2;have hs:=za hx hk;repeat' first|(with_reducible first|refine zz ?_|refine zr ?_|refine zE Wz ?_)|simp -dsimp[hs]|refine zp c1 ?_|refine zt c2 ?_ ?_ ?_;(focus simp;done);focus (simp;done)|refine i8 ?_ ?_<;>intro h<;>try exact h.elim
   all_goals try clear hs
   all_goals simp[hK,hE]
  ·have hq:([a,b].all λx=>decide (c.loops[k].lo<=x)&&decide (x<=c.loops[k].hi))=false:=by simp;omega
   rw[if_neg hin] at hK;rw[hq] at c2;have hs:=za hx hk;repeat' first|(with_reducible first|refine zz ?_|refine zr ?_|refine zE Wz ?_)|simp -dsimp[hs]|refine zp c1 ?_|refine zt c2 ?_ ?_ ?_;(focus simp;done);focus (simp;done)|refine i8 ?_ ?_<;>intro h<;>try exact h.elim
   all_goals try clear hs
   all_goals first
    | (exfalso;omega)
    | (rw[if_pos (by omega)] at hK;simp[hK,hE];done)
    | (rw[if_neg (by omega)] at hK;simp[hK,hE])
 ·have hK:K7 c n=0:=by simp[K7,hE]
  have hs:=hE;repeat' first|(with_reducible first|refine zz ?_|refine zr ?_|refine zE Wz ?_)|simp -dsimp[hs]|refine zp c1 ?_|refine i8 ?_ ?_<;>intro h<;>try exact h.elim
  all_goals try clear hs
  all_goals simp[hK]
end Go.Proofs
namespace Go.Proofs
open Go Go.Ab
theorem mn {l:List Issue} {lets:List Int} (h0:l4 l=0) (hlet:s6 l lets=true) {dep:Int->Int} (hdep:∀ n∈nums l,1<=dep n/\dep n<=6/\∀ c∈dm l n,c∈nums l/\dep c<dep n) :
 ∀ (k:Nat) (d m:Int),d∈nums l->∀ p∈P0 (u5 l lets) k d m,p.1∈nums l
 | 0,_,_,_,p,hp=>by cases hp
 | k+1,d,m,hd,p,hp=>by
   rw[P0] at hp;split at hp
   ·rw[List.mem_singleton] at hp;rw[hp];exact hd
   ·obtain⟨y,hy,hp⟩:=List.mem_flatMap.1 hp;have hc:=(hdep d hd).2.2 _ (lA h0 hlet hd y hy);exact mn h0 hlet hdep k _ _ hc.1 p hp
theorem oZ {ns:List Int} (hnd:ns.Nodup):∀ (lv:List (Int×Int)) (m:List (Int×Int)),(∀ p∈lv,p.1∈ns)->Ht ns (ns.map (n3 m)) lv=ns.map (n3 (kD m lv))
 | [],_,_=>rfl
 | p :: lv,m,h=>by
   have h1:=oZ hnd lv (N8 p.1 (IntKind.i64.wrap (n3 m p.1+p.2)) m) λq hq=>h q (by simp[hq]);obtain⟨j,hj⟩:=List.mem_iff_getElem?.1 (h p (by simp));have he:Hu ns (ns.map (n3 m)) p=ns.map (n3 (N8 p.1 (IntKind.i64.wrap (n3 m p.1+p.2)) m)):=by
    simp only[Hu,fT hnd hj,Int.toNat_natCast,List.getElem?_map,hj,Option.map_some,Option.getD_some];rw[me hnd hj];refine List.map_congr_left λn _=>?_;rw[aj];by_cases e:n=p.1<;>simp[e]
   simp only[Ht,kD,List.foldl_cons] at h1 ⊢;rw[he];exact h1
theorem fA (f:Int->Int):∀ ns:List Int,((ns.zip (ns.map f)).filter λp=>decide (0<p.2)).map (λp=>(⟨p.1,p.2⟩:Itm))=(ns.filter λn=>decide (0<f n)).map λn=>⟨n,f n⟩
 | []=>rfl
 | n :: ns=>by
   simp only[List.map_cons,List.zip_cons_cons,List.filter_cons];by_cases h:0<f n
   ·simp only[h,decide_true,if_true,List.map_cons,fA f ns]
   ·simp only[h,decide_false,Bool.false_eq_true,if_false,fA f ns]
theorem qH {l:List Issue} {lets:List Int} {d:Int} (h0:l4 l=0) (hlet:s6 l lets=true) (hd:d∈nums l):lU l lets d=L6 (nums l) (nz l lets d):=by
 obtain⟨dep,hdep⟩:=rJ h0;have hnd:(nums l).Nodup:=(D4 h0).1.imp λh=>Int.ne_of_lt h;have h1:=oZ hnd (P0 (u5 l lets) 6 d 1) [] (mn h0 hlet hdep 6 d 1 hd);have h2:(nums l).map (n3 [])=List.replicate (nums l).length 0:=kN (λ_=>rfl) _;rw[h2] at h1;have h3:Jo l lets d=(nums l).map (n3 (nz l lets d)):=h1;rw[lU,h3,fA];rfl
theorem mh:∀ (ps:List Itm) (m:List (Int×Int)) (d:Int),(ps.map (·.drawing)).Nodup->n3 (ps.foldl (λm x=>N8 x.drawing x.count m) m) d=if d∈ps.map (·.drawing) then ef ps d else n3 m d
 | [],m,d,_=>by simp
 | y :: ps,m,d,h=>by
   rw[List.map_cons,List.nodup_cons] at h;rw[List.foldl_cons,mh ps _ d h.2,aj,ef];by_cases e:d=y.drawing
   ·subst e;rw[if_neg h.1,if_pos rfl,if_pos (by simp),if_pos rfl]
   ·rw[if_neg e,if_neg (Ne.symm e)];by_cases hm:d∈ps.map (·.drawing)
    ·rw[if_pos hm,if_pos (by simp only[List.map_cons,List.mem_cons];exact .inr hm)]
    ·rw[if_neg hm,if_neg (by simp only[List.map_cons,List.mem_cons];exact λh=>h.elim e hm)]
theorem ee:∀ (ps:List Itm) (d:Int),d∉ps.map (·.drawing)->ef ps d=0
 | [],_,_=>rfl
 | y :: ps,d,h=>by
   rw[List.map_cons,List.mem_cons,not_or] at h;rw[ef,if_neg (Ne.symm h.1)];exact ee ps d h.2
def pX (ls:List Link) (d:Int):Nat:=(ls.filter λy=>decide (y.drawing=d)).length
theorem eV (y:Link) (r:List Link) (d:Int):pX (y :: r) d=(if y.drawing=d then 1 else 0)+pX r d:=by
 unfold pX;by_cases h:y.drawing=d
 ·rw[List.filter_cons_of_pos (by simpa using h),if_pos h,List.length_cons];omega
 ·rw[List.filter_cons_of_neg (by simpa using h),if_neg h];omega
theorem rO {ls:List Link} {y:Link} (h:y∈ls):1<=pX ls y.drawing:=
 List.length_pos_of_mem (List.mem_filter.2 ⟨h,by simp⟩)
theorem xY {ls:List Link} {d:Int} (h:∀ y∈ls,y.drawing≠d):pX ls d=0:=by
 unfold pX;rw[List.filter_eq_nil_iff.2 λy hy=>by simpa using h y hy];rfl
def vQ (B:List (Int×Issue)) (y:Link):Bool:=decide (0<=y.dim)&&decide (y.dim<=((K1 B y.drawing).dims.length:Int)-1)
theorem lj (D:List (Int×Int)) (B:List (Int×Issue)):∀ (r:List Link) (U:List (Int×Int)),Y6 D B U r=true↔∀ y∈r,vQ B y=true/\n3 U y.drawing+pX r y.drawing<=n3 D y.drawing
 | [],U=>by simp[Y6]
 | y :: r,U=>by
   have ih:=lj D B r (N8 y.drawing (n3 U y.drawing+1) U);have hu:Y6 D B U (y :: r)=(decide (n3 U y.drawing+1<=n3 D y.drawing)&&vQ B y&&Y6 D B (N8 y.drawing (n3 U y.drawing+1) U) r):=rfl;rw[hu,Bool.and_eq_true,Bool.and_eq_true,decide_eq_true_eq,ih];constructor
   ·rintro⟨⟨h1,h2⟩,h3⟩ z hz;have key:∀ z∈r,vQ B z=true/\n3 U z.drawing+pX (y :: r) z.drawing<=n3 D z.drawing:=λz hz=>by
     obtain⟨a,b⟩:=h3 z hz;rw[aj] at b;rw[eV];refine⟨a,?_⟩;by_cases e:z.drawing=y.drawing
     ·rw[if_pos e] at b;rw[if_pos e.symm];rw[e] at b ⊢;omega
     ·rw[if_neg e] at b;rw[if_neg (Ne.symm e)];omega
    rcases List.mem_cons.1 hz with rfl|hz
    ·refine⟨h2,?_⟩;by_cases hex:∃ w∈r,w.drawing=z.drawing
     ·obtain⟨w,hw,e⟩:=hex;have:=(key w hw).2;rw[e] at this;exact this
     ·rw[eV,if_pos rfl,xY λw hw e=>hex ⟨w,hw,e⟩];omega
    ·exact key z hz
   ·intro h;obtain⟨a,b⟩:=h y (by simp);rw[eV,if_pos rfl] at b;refine⟨⟨by omega,a⟩,λz hz=>?_⟩;obtain⟨a',b'⟩:=h z (by simp[hz]);refine⟨a',?_⟩;rw[eV] at b';rw[aj];by_cases e:z.drawing=y.drawing
    ·rw[if_pos e.symm,e] at b';rw[if_pos e,e];omega
    ·rw[if_neg (Ne.symm e)] at b';rw[if_neg e];omega
def pA (c:Chains) (ls:List Link) (y:Link):Bool:=decide ((pX ls y.drawing:Int)<=ef (lU c.reg c.lets c.of) y.drawing)&&(decide (0<=y.dim)&&decide (y.dim<=((u5 c.reg c.lets y.drawing).dims.length:Int)-1))
def cC (c:Chains) (x:ChLoop):Bool:=uA x&&rT x&&x.links.all (pA c x.links)
theorem lV {c:Chains} {d:Int} (h0:l4 c.reg=0) (hlet:s6 c.reg c.lets=true) (hof:c.of∈nums c.reg) (hc:1<=ef (lU c.reg c.lets c.of) d):d∈nums c.reg:=by
 refine Classical.byContradiction λhn=>?_;rw[qH h0 hlet hof,ee] at hc
 ·omega
 ·intro hm;simp only[L6,List.map_map] at hm;obtain⟨n,h1,h2⟩:=List.mem_map.1 hm;simp only[Function.comp] at h2;exact hn (h2 ▸ (List.mem_filter.1 h1).1)
theorem wZ {c:Chains} (h0:l4 c.reg=0) (hlet:s6 c.reg c.lets=true) (hof:c.of∈nums c.reg) (x:ChLoop):O9 (T7 c) (bn c.reg c.lets) x=cC c x:=by
 have hnd:(nums c.reg).Nodup:=(D4 h0).1.imp λh=>Int.ne_of_lt h;have hT:C2 c.reg c.lets c.of=0:=by simp[C2,h0,hlet,hof]
 have hD:∀ d,n3 (T7 c) d=ef (lU c.reg c.lets c.of) d:=λd=>by
  rw[qH h0 hlet hof];have hE:bZ c.reg c.lets c.of=L6 (nums c.reg) (nz c.reg c.lets c.of):=by rw[bZ,if_pos hT]
  have hn:((L6 (nums c.reg) (nz c.reg c.lets c.of)).map (·.drawing)).Nodup:=by
   simp only[L6,List.map_map];have:(λx:Itm=>x.drawing) ∘ (λn=>(⟨n,n3 (nz c.reg c.lets c.of) n⟩:Itm))=id:=rfl;rw[this,List.map_id];exact hnd.filter _
  rw[T7,hE,mh _ _ _ hn];split
  ·rfl
  ·rw[ee _ _ ‹_›];rfl
 unfold O9 cC
 congr 1
 rw[Bool.eq_iff_iff,lj,List.all_eq_true];refine forall_congr' λy=>forall_congr' λhy=>?_;simp only[pA,vQ,Bool.and_eq_true,decide_eq_true_eq,hD];have hp:=rO hy;have hz:n3 [] y.drawing=0:=rfl;constructor
 ·rintro⟨h1,h2⟩;have hm:=lV (d:=y.drawing) h0 hlet hof (by omega);rw[bn,V6,if_pos hm] at h1;exact⟨by omega,h1⟩
 ·rintro⟨h1,h2⟩;have hm:=lV (d:=y.drawing) h0 hlet hof (by omega);rw[bn,V6,if_pos hm];exact⟨h2,by omega⟩
theorem qa {c:Chains} (h0:l4 c.reg=0):B4 c=(if s6 c.reg c.lets=true/\c.of∈nums c.reg/\(1<=c.loops.length/\c.loops.length<=6)/\c.loops.all (cC c)=true then 0 else 60):=by
 unfold B4;rw[if_neg (by simp[h0])];by_cases hlet:s6 c.reg c.lets=true
 ·by_cases hof:c.of∈nums c.reg
  ·have hT:C2 c.reg c.lets c.of=0:=by simp[C2,h0,hlet,hof]
   have hL:c.loops.all (O9 (T7 c) (bn c.reg c.lets))=c.loops.all (cC c):=by
    congr 1;exact funext λx=>wZ h0 hlet hof x
   rw[hL];by_cases hn:1<=c.loops.length/\c.loops.length<=6
   ·rw[if_neg (by simp[hT];omega)];by_cases ha:c.loops.all (cC c)=true
    ·rw[if_pos ha,if_pos ⟨hlet,hof,hn,ha⟩]
    ·rw[if_neg ha,if_neg λh=>ha h.2.2.2]
   ·rw[if_pos (.inr hn),if_neg λh=>hn h.2.2.1]
  ·have hT:C2 c.reg c.lets c.of≠0:=by simp[C2,h0,hlet,hof]
   rw[if_pos (.inl hT),if_neg λh=>hof h.2.1]
 ·have hT:C2 c.reg c.lets c.of≠0:=by
   have:s6 c.reg c.lets=false:=by simpa using hlet
   simp[C2,h0,this]
  rw[if_pos (.inl hT),if_neg λh=>hlet h.1]
theorem JY {c:Chains} (h:B4 c=0):OkC c:=by
 have h0:l4 c.reg=0:=Classical.byContradiction λh'=>by simp[B4,h'] at h
 rw[qa h0] at h;split at h
 ·rename_i hc;obtain⟨a,b,d,e⟩:=hc;rw[List.all_eq_true] at e;refine⟨h0,a,b,d,λx hx=>?_,λx hx y hy=>?_⟩
  ·have:=e x hx;simp only[cC,uA,Bool.and_eq_true,decide_eq_true_eq] at this;exact⟨this.1.1.2,this.1.2⟩
  ·have:=e x hx;simp only[cC,Bool.and_eq_true,List.all_eq_true] at this;have:=this.2 y hy;simp only[pA,Bool.and_eq_true,decide_eq_true_eq] at this;have hp:=rO hy;exact⟨lV h0 a b (by omega),this.2.1,by omega⟩
 ·cases h
variable {G:LI}
end Go.Proofs
namespace Go.Ab
open Go
structure Spot where
 drawing:Int
 dim:Int
 deriving DecidableEq
def kV (x:Spot):List IC:=[rI x.drawing,rI x.dim]
def FF (l:List Spot):DV:=.one (.im (.sl (l.map kV)))
attribute [simp] kV FF
def uG (a b:Spot):Bool:=decide (a.drawing<b.drawing)||(decide (a.drawing=b.drawing)&&decide (a.dim<b.dim))
def AS (x:Spot):List Spot->Nat
 | []=>0
 | y :: r=>if uG y x then AS x r+1 else 0
def Ko (x:Spot) (l:List Spot):List Spot:=l.take (AS x l)++x :: l.drop (AS x l)
def KA (f:Spot->Bool) (out:List Spot) (x:Spot):List Spot:=if f x=false\/x∈out then out else Ko x out
def Kz (f:Spot->Bool) (l:List Spot):List Spot:=l.foldl (KA f) []
def kS (x:Spot):List Value:=[.int .i64 x.drawing,.int .i64 x.dim]
def xO (l:List Spot):List (List Value×List DC):=l.map λx=>(kS x,[.im (rB true)])
def Fw (l:List Spot):List (List Value×List IC):=l.map λx=>(kS x,[rB true])
@[simp] theorem Kk (k n:Nat) (objs:List DObj) (l:List Spot):E9 (λx:List Value×List DC=>(E9 (frz (k+1) n objs) x.2).map λl=>(x.1,l)) (xO l)=some (Fw l):=by
 induction l with
 | nil=>rfl
 | cons p r ih =>
   have e:xO (p :: r)=(kS p,[.im (rB true)]) :: xO r:=rfl;rw[e];simp[E9,ih,Fw]
@[simp] theorem IK (n:Nat) (objs:List DObj) (l:List Spot):((xO l).map λx=>(x.1,x.2.map (fz n objs)))=xO l:=by
 simp[xO,fz,DC.lt]
@[simp] theorem Jc (L:List Spot) (k:Nat) (h:k<(l5 (L.map kV)).length):(l5 (L.map kV))[k]=[DC.im (.raw (.int .i64 (L[k]'(by simpa[q8] using h)).drawing)),DC.im (.raw (.int .i64 (L[k]'(by simpa[q8] using h)).dim))]:=by
 simp[l5]
end Go.Ab
namespace Go.Proofs
open Go Go.Ab
def zA (y:Link):Spot:=⟨y.drawing,y.dim⟩
def IE (d:Dim):Int:=min (max d.nominal d.lower) d.upper
def FD (d:Dim) (g:Int):Dim:=⟨d.nominal,max d.lower (IE d-g),min d.upper (IE d+g)⟩
def Kt (c:Chains) (so:Spot->Bool) (g:Int) (y:Link):Dim:=if so (zA y) then FD (V1 c y) g else V1 c y
def KF (c:Chains) (so:Spot->Bool) (g:Int) (x:ChLoop):List Dim:=x.links.map (Kt c so g)
def Lm (c:Chains) (so:Spot->Bool) (g:Int) (x:ChLoop):Int:=dl x.links (KF c so g x) false
def Ls (c:Chains) (so:Spot->Bool) (g:Int) (x:ChLoop):Int:=dl x.links (KF c so g x) true
def ED (c:Chains) (so:Spot->Bool) (g:Int) (x:ChLoop):Bool:=decide (x.lo<=Lm c so g x)&&decide (Ls c so g x<=x.hi)
def Ky (c:Chains) (so:Spot->Bool) (g:Int):Bool:=c.loops.all (ED c so g)
def kG (c:Chains):List Spot:=c.loops.flatMap λx=>x.links.map zA
def Gz (c:Chains) (x:Spot):Bool:=decide ((u5 c.reg c.lets x.drawing).kind≠3)
def sg (c:Chains):List Spot:=Kz (Gz c) (kG c)
def gs (p:Int->Bool):Nat->Int->Int->Int
 | 0,lo,_=>lo
 | k+1,lo,hi=>if lo<hi then (if p (hi-(hi-lo) / 2) then gs p k (hi-(hi-lo) / 2) hi else gs p k lo (hi-(hi-lo) / 2-1)) else lo
def IF (l:List Spot) (set:Nat):Nat->List Spot
 | 0=>[]
 | k+1=>IF l set k++(match l[k]? with
   | some x=>if set.testBit k then [x] else []
   | none=>[])
def lexB:List Spot->List Spot->Bool
 | a :: l,b :: m=>if a=b then lexB l m else uG a b
 | _,_=>false
def zB (a b:List Spot):Bool:=decide (a.length<b.length)||(decide (a.length=b.length)&&lexB a b)
def EL (best:Option (List Spot)) (x:List Spot):Bool:=match best with
 | none=>true
 | some b=>zB x b
def HU (good:List Spot->Bool) (best:Option (List Spot)) (x:List Spot):Option (List Spot):=if EL best x&&good x then some x else best
def FJ (all:List Spot) (k:Nat):List (List Spot):=(List.range k).map λs=>IF all s all.length
def Lr (l:List Spot):Spot->Bool:=λx=>decide (x∈l)
def Ji (c:Chains) (x:List Spot):Bool:=Ky c (Lr x) 0
def Bo (c:Chains) (b0:Option (List Spot)) (k:Nat):Option (List Spot):=(FJ (sg c) k).foldl (HU (Ji c)) b0
def Ks (c:Chains):Option (List Spot):=Bo c none (2 ^ (sg c).length)
open Go Go.Ab Tryz
variable {G:LI}
def SoF (G:LI) (c:Chains) (fv:IC) (so:Spot->Bool):Prop:=
 (∃ (f:FuncId) (caps:List IC),fv=.fn (.func f) caps/\E6 prog f/\∀ x∈kG c,∀ objs,DCall prog G f (D9 x.drawing x.dim :: caps.map λc=>.one (.im c)) objs (λd o=>d=bv (so x)/\o=objs)) \/
 (∃ (f:FuncId) (l:List IC),fv=.bf (.func f) l/\E6 prog f/\∀ x∈kG c,∀ objs,DCall prog G f ((l.map λc=>DV.one (.im c))++[D9 x.drawing x.dim]) objs (λd o=>d=bv (so x)/\o=objs))
def O4:List Int->Int
 | []=>0
 | x :: r=>if x=0 then O4 r else x
@[simp] abbrev QB:List Nat:=[0,2,3,5,6,7,8,9,14]
theorem Fp (l:List Int) (hl:l.length<1000000):zP prog G 59 [q9 l] (iv (O4 l)):=by
 refine zf func59 ntmps59 ?_;try simp only[q9]
 have hs:=trivial;repeat' first|(with_reducible first|refine zz ?_|refine zE QB ?_)|simp -dsimp[hs]
 refine i6 (ι:={ p:Nat // p<=l.length/\O4 l=O4 (l.drop p) }) (λp=>⟨18,[(3,iv 0),(6,.one (.im (.sl (l.map encI)))),(7,iv (l.length:Int)),(8,iv (p.1:Int))],[]⟩) (λp=>l.length-p.1) ⟨0,by simp⟩ (zv [3,6,7,8]) ?_;rintro⟨k,hk,hu⟩;simp only[iv];by_cases hlt:k<l.length
 ·have hw:=zk k;rw[List.drop_eq_getElem_cons hlt,O4] at hu;generalize hx:l[k]=x at *;have hs:=za hx (za hw hlt);repeat' first|(with_reducible first|refine zz ?_|refine zr ?_|refine zE QB ?_)|simp -dsimp[hs]|refine i8 ?_ ?_<;>intro h<;>try exact h.elim
  ·rw[hu,if_neg (by assumption)]
  ·rw[if_pos (by assumption)] at hu;exact zn ⟨k+1,by omega,hu⟩ (zv [3,6,7,8])
 ·rw[List.drop_eq_nil_of_le (by omega)] at hu;have hs:=hlt;repeat' first|(with_reducible first|refine zz ?_|refine zr ?_|refine zE QB ?_)|simp -dsimp[hs]|refine i8 ?_ ?_<;>intro h<;>try exact h.elim
  rw[hu];rfl
attribute [simp] r9 cX v6 A8 nilV K0 ZK
theorem SoF.congr {c:Chains} {fv:IC} {so so':Spot->Bool} (h:SoF G c fv so) (he:∀ x∈kG c,so x=so' x):SoF G c fv so':=by
 rcases h with⟨f,caps,h1,h2,h3⟩|⟨f,caps,h1,h2,h3⟩
 ·exact .inl ⟨f,caps,h1,h2,λx hx objs=>(h3 x hx objs).mono λd o ⟨a,b⟩=>⟨by rw[a,he x hx],b⟩⟩
 ·exact .inr ⟨f,caps,h1,h2,λx hx objs=>(h3 x hx objs).mono λd o ⟨a,b⟩=>⟨by rw[a,he x hx],b⟩⟩
attribute [simp] r9 cX v6 A8 nilV K0 ZK
attribute [simp] r9 cX O1 iG v6 A8 nilV K0 ZK
@[simp] theorem HH (L:List ChLoop) (k:Nat) (h:k<(l5 (L.map G8)).length):(l5 (L.map G8))[k]=[DC.im (.sl ((L[k]'(by simpa[q8] using h)).links.map G9)),DC.im (.raw (.int .i64 (L[k]'(by simpa[q8] using h)).lo)),DC.im (.raw (.int .i64 (L[k]'(by simpa[q8] using h)).hi))]:=by
 simp[l5,G8,rI]
@[simp] theorem HG (L:List Issue) (k:Nat) (h:k<(l5 (L.map e9)).length):(l5 (L.map e9))[k]=(e9 (L[k]'(by simpa[q8] using h))).map .im:=by
 simp[l5]
def cE (l:List Issue) (d:Int):DV:=if l4 l=0/\d∈nums l then .one (.im (A2 l (nums l))) else .one (.im (.raw (.pointer none)))
theorem xi (l:List Issue) (d:Int):ImV (cE l d):=by unfold cE;split<;>simp[A2]
attribute [simp] xi
def aB (l:List Issue) (d:Int):Int:=if l4 l≠0 then l4 l else if d∈nums l then 0 else 6
@[simp] abbrev WA:List Nat:=[0,1,2,4,5,6,7,14,19]
theorem DR (l:List Issue) (d:Int) (hG:o3 G) (hs:W2 l):zP prog G 176 [F9 l,iv d] (.tup [cE l d,iv (aB l d)]):=by
 refine zf func176 ntmps176 ?_;try simp only[F9,iv]
 have c1:=gQ l hG hs;by_cases h0:l4 l=0
 ·simp only[cg,h0,if_true] at c1;have c2:=Ba (G:=G) l (nums l) d ((D4 h0).1.imp λh=>Int.le_of_lt h) (by have:=hs.1;have:=s7 l l.length;unfold nums;omega);by_cases hm:d∈nums l
  ·simp only[hm,decide_true,A2] at c1 c2;have hs:=trivial;repeat' first|(with_reducible first|refine zz ?_|refine zr ?_|refine zE WA ?_)|simp -dsimp[hs]|refine zp c1 ?_|refine zp c2 ?_|refine i8 ?_ ?_<;>intro h<;>try exact h.elim
   all_goals try clear hs
   all_goals simp[cE,aB,h0,hm,A2]
  ·simp only[hm,decide_false,A2] at c1 c2;have hs:=trivial;repeat' first|(with_reducible first|refine zz ?_|refine zr ?_|refine zE WA ?_)|simp -dsimp[hs]|refine zp c1 ?_|refine zp c2 ?_|refine i8 ?_ ?_<;>intro h<;>try exact h.elim
   all_goals try clear hs
   all_goals simp[cE,aB,h0,hm,A2]
 ·simp only[cg,h0,if_false] at c1;have hs:=h0;repeat' first|(with_reducible first|refine zz ?_|refine zr ?_|refine zE WA ?_)|simp -dsimp[hs]|refine zp c1 ?_|refine i8 ?_ ?_<;>intro h<;>try exact h.elim
  all_goals try clear hs
  all_goals simp[cE,aB,h0]
def fe (l:List Issue) (d:Int):Nat:=(l.filter λx=>decide (x.drawing=d)).length
theorem Da {l:List Issue} {d:Int} (hs:(l.map (·.drawing)).Pairwise (·<=·)):fe l d=fe (l.drop (lb (l.map (·.drawing)) d)) d:=by
 conv=>lhs;rw[<- List.take_append_drop (lb (l.map (·.drawing)) d) l]
 simp only[fe,List.filter_append];rw[List.filter_eq_nil_iff.2 λx hx=>?_]
 ·rfl
 ·have:=sX hs x hx;simp;omega
@[simp] abbrev Wk:List Nat:=[0,1,2,4,5,7,8,24,25,26,27,39]
theorem DQ (l:List Issue) (ds:List Int) (d:Int) (hs:(l.map (·.drawing)).Pairwise (·<=·)) (hl:l.length<1000000):zP prog G 177 [.one (.im (A2 l ds)),iv d] (iv (fe l d:Int)):=by
 refine zf func177 ntmps177 ?_;try simp only[iv]
 simp only[A2];have c1:=ms (G:=G) (A2 l ds) d;simp only[A2] at c1;have hs:=trivial;repeat' first|(with_reducible first|refine zz ?_|refine zE [0,1,4,5,8] ?_)|simp -dsimp[hs]|refine zp c1 ?_
 all_goals try clear hs
 refine U3 (f:=249) (by simp;exact rfl) (by rfl) call249 ?_;generalize hR:LoopD.mk _ _ _ _ _ _ _=R;have hR1:R.st=.ready:=by rw[<- hR]
 have hR2:R.pend=none:=by rw[<- hR]
 have hR3:R.at .ready none=R:=by rw[<- hR];rfl
 have hR4:=(congrArg LoopD.nt hR).symm;have hR5:=(congrArg LoopD.tm hR).symm;have hR6:=(congrArg LoopD.ps hR).symm;have hR7:=(congrArg LoopD.asg hR).symm;have hR8:=(congrArg LoopD.body hR).symm;dsimp only at hR4 hR5 hR6 hR7 hR8;clear hR;refine h9 func249 rfl ntmps249 (by simp) rfl ?_;have hR9:∀ objs:List DObj,(R.tm.map λx=>(x.1,fU 2 objs x.2))=R.tm:=by intro objs;rw[hR5];simp
 have hlb:=qX (l.map (·.drawing)) d;rw[List.length_map] at hlb;have c2:=gi (G:=G) l d hs hl;have hs:=za hR1 (za hR2 (za hR3 hlb));repeat' first|with_reducible refine zz ?_|simp -dsimp[hs]|refine zq c2 ?_|refine zM 0 41 12 [0,1,2,4,7,24,25,26,27,39] ?_|with_reducible refine zE Wk ?_
 all_goals try clear hs
 rw[<- List.map_drop];have hge:=sY (d:=d) hs;have hss:((l.drop (lb (l.map (·.drawing)) d)).map (·.drawing)).Pairwise (·<=·):=by rw[List.map_drop];exact hs.drop
 have hsl:l.length-lb (l.map (·.drawing)) d=(l.drop (lb (l.map (·.drawing)) d)).length:=by simp
 rw[hsl];have hsl2:(l.drop (lb (l.map (·.drawing)) d)).length<1000000:=by simp;omega
 rw[Da hs];generalize l.drop (lb (l.map (·.drawing)) d)=s at hge hss hsl2 ⊢;refine i6 (ι:={ k:Nat // k<=s.length/\k+fe (s.drop k) d=fe s d }) (λp=>⟨41,[(0,.one (.yld 1)),(2,.one (.im (.ip [rI d]))),(24,.one (.im (.sl (s.map e9)))),(25,iv (s.length:Int)),(26,iv (p.1:Int))],[.row [.im (rI (p.1:Int))],.loop R]⟩) (λp=>s.length-p.1) ⟨0,by simp⟩ (zv [0,2,24,25,26]) ?_;rintro⟨k,hk,hno⟩;simp only[iv];by_cases hlt:k<s.length
 ·have hx:s[k]?=some s[k]:=by simp[hlt]
  have hw:=zk k;have hcons:s.drop k=s[k] :: s.drop (k+1):=List.drop_eq_getElem_cons hlt;by_cases hd:s[k].drawing=d
  ·have hno':k+1+fe (s.drop (k+1)) d=fe s d:=by
    rw[<- hno,fe,fe,hcons,List.filter_cons_of_pos (by simp[hd]),List.length_cons];omega
   have hs:=za hR1 (za hR2 (za hR3 (za hx (za hw (za hd hlt)))));repeat' first|(with_reducible first|refine zz ?_|refine zE Wk ?_)|simp -dsimp[hs]|with_reducible refine At.yield_end ?_;simp -dsimp[hs]|refine bh ?_ ?_<;>simp -dsimp[hs]|refine R4 ?_;simp -dsimp[U0,hR4,hR5,hR6,hR7,hR8,hs]|refine i8 ?_ ?_<;>intro h<;>try exact h.elim
   all_goals try clear hs
   all_goals exact zn ⟨k+1,by omega,hno'⟩ (zw [0,2,24,25,26] 2 (by simp[hR9]))
  ·have hnone:fe (s.drop k) d=0:=by
    simp only[fe,List.length_eq_zero_iff,List.filter_eq_nil_iff];intro x hxm;obtain⟨i,hi⟩:=List.mem_iff_getElem?.1 hxm;rw[List.getElem?_drop] at hi;have h1:s[k].drawing<=x.drawing:=by
     rcases Nat.eq_zero_or_pos i with rfl|hp
     ·rw[Nat.add_zero,hx] at hi;cases hi;exact Int.le_refl _
     ·have hlt2:=(List.getElem?_eq_some_iff.1 hi).1;have:=(List.pairwise_iff_getElem.1 hss) k (k+i) (by simpa using hlt) (by simpa using hlt2) (by omega);have h6:=(List.getElem?_eq_some_iff.1 hi).2;simp at this;rw[h6] at this;exact this
    have h2:=hge s[k] (List.getElem_mem hlt);simp;omega
   have hN:fe s d=k:=by omega
   have hs:=za hR1 (za hR2 (za hR3 (za hx (za hw (za hd hlt)))));repeat' first|(with_reducible first|refine zz ?_|refine zr ?_ (by simp -dsimp[C9,hs];exact rfl)|refine zE Wk ?_)|simp -dsimp[C9,hs]|with_reducible show C9 _ _ _ _ _ _ _ _;simp -dsimp[C9,hs]|refine i8 ?_ ?_<;>intro h<;>try exact h.elim
   all_goals try clear hs
   all_goals simp[hN]
 ·have hN:fe s d=k:=by rw[<- hno,List.drop_eq_nil_of_le (by omega)];simp[fe]
  have hs:=za hR1 (za hR2 (za hR3 hlt));repeat' first|(with_reducible first|refine zz ?_|refine zr ?_ (by simp -dsimp[C9,hs];exact rfl)|refine ze ?_ (by simp -dsimp[C9,hs];exact rfl)|refine zE Wk ?_)|simp -dsimp[C9,hs]|with_reducible show C9 _ _ _ _ _ _ _ _;simp -dsimp[C9,hs]|refine i8 ?_ ?_<;>intro h<;>try exact h.elim
  all_goals try clear hs
  all_goals simp[hN]
def AI (l:List Issue) (d:Int):Int:=if aB l d=0 then (fe l d:Int) else 0
theorem Do (l:List Issue) (d:Int) (hG:o3 G) (hs:W2 l):zP prog G 119 [F9 l,iv d] (.tup [iv (AI l d),iv (aB l d)]):=by
 refine zf func119 ntmps119 ?_;try simp only[F9,iv]
 have c1:=DR (G:=G) l d hG hs;by_cases h0:aB l d=0
 ·have hk:l4 l=0/\d∈nums l:=by
   unfold aB at h0;by_cases h1:l4 l=0
   ·refine⟨h1,?_⟩;rw[if_neg (by simp[h1])] at h0;by_cases h2:d∈nums l
    ·exact h2
    ·rw[if_neg h2] at h0;cases h0
   ·rw[if_pos h1] at h0;exact absurd h0 h1
  have c2:=DQ (G:=G) l (nums l) d (cP hk.1) (by have:=hs.1;omega);rw[cE,if_pos hk,h0] at c1;rw[AI,if_pos h0,h0];simp only[A2] at c1 c2;have hs:=trivial;repeat' first|(with_reducible first|refine zz ?_|refine zr ?_|refine zE QE ?_)|simp -dsimp[hs]|refine zp c1 ?_|refine zp c2 ?_|refine i8 ?_ ?_<;>intro h<;>try exact h.elim
  all_goals try clear hs
 ·rw[AI,if_neg h0];generalize hX:cE l d=X at c1;have hXo:∃ x,X=.one (.im x):=by subst hX;unfold cE;split<;>exact⟨_,rfl⟩
  obtain⟨x,rfl⟩:=hXo;generalize aB l d=e at *;have hs:=h0;repeat' first|(with_reducible first|refine zz ?_|refine zr ?_|refine zE QE ?_)|simp -dsimp[hs]|refine zp c1 ?_|refine i8 ?_ ?_<;>intro h<;>try exact h.elim
  all_goals try clear hs
end Go.Proofs
namespace Go.Ab
open Go
structure Piece where
 holder:Int
 day:Int
 lo:Int
 hi:Int
 deriving DecidableEq
structure Case where
 p:Prints
 machine:Int
 of:Int
 loop:ChLoop
 pieces:List Piece
 deriving DecidableEq
def w5 (x:Piece):List IC:=[rI x.holder,rI x.day,rI x.lo,rI x.hi]
def j4 (c:Case):List IC:=[.sl (c.p.n.reg.map e9),.sl (c.p.n.notes.map l6),.sl (c.p.holders.map o6),.sl (c.p.prints.map A4),rI c.machine,rI c.of,.sl (c.loop.links.map G9),rI c.loop.lo,rI c.loop.hi,.sl (c.pieces.map w5)]
def FY (x:Piece):DV:=.agg ((w5 x).map .im)
def l7 (c:Case):DV:=.agg ((j4 c).map .im)
attribute [simp] w5 j4 FY l7
end Go.Ab
namespace Go.Proofs
open Go Go.Ab
variable {G:LI}
theorem xu (x lo hi:Int):DCall Tryz.prog G 123 (iv x :: [DC.ptr 0 0,DC.ptr 1 0].map .one) [.row [.im (rI lo)],.row [.im (rI hi)]] (λd o=>d=bv (decide (x<lo)||decide (hi<x))/\o=[.row [.im (rI lo)],.row [.im (rI hi)]]):=by
 refine h9 Tryz.func123 rfl Tryz.ntmps123 (by simp) rfl ?_;simp only[rI];have hs:=trivial;repeat' first|(with_reducible first|refine zz ?_|refine zr ?_|refine zE [0,1,2,4] ?_)|simp -dsimp[hs]|with_reducible refine j0 ?_ ?_<;>intro h<;>have h0:=h<;>(try simp only[i7] at h)<;>have h2:=h<;>(try simp at h2)<;>replace hs:=za h0 (za h (za h2 hs))|with_reducible refine And.intro ?_ ?_
 all_goals try clear hs
 all_goals simp[*]
theorem O6 (lo hi:Int) (l:List Int) (hl:l.length<1000000):zP Tryz.prog G 76 [iv lo,iv hi,q9 l] (bv (l.all λx=>decide (lo<=x)&&decide (x<=hi))):=by
 refine zf Tryz.func76 Tryz.ntmps76 ?_;try simp only[iv,iv,q9]
 have hc:=D3 (G:=G) l (λx=>decide (x<lo)||decide (hi<x)) 123 [.ptr 0 0,.ptr 1 0] [.row [.im (rI lo)],.row [.im (rI hi)]] (by simp) (λx _=>xu x lo hi) hl;simp only[rI] at hc;repeat' first|(with_reducible first|refine zz ?_|refine zx ?_|refine zE [0,1,2,3,4,6] ?_)|simp -dsimp|refine CallE.here hc ?_
 rw[Bool.eq_iff_iff];simp;exact exists_congr λx=>and_congr_right λ_=>by omega
def U6 (lo hi a b:Int):Bool:=decide (a<=lo/\lo<=b/\a<=hi/\hi<=b/\lo<=hi)
theorem bU (lo hi a b:Int):zP Tryz.prog G 77 [D9 lo hi,iv a,iv b] (bv (U6 lo hi a b)):=by
 refine zf Tryz.func77 Tryz.ntmps77 ?_;try simp only[D9,iv,iv]
 have c1:=O6 (G:=G) a b [lo,hi] (by simp);generalize hb:([lo,hi].all λy=>decide (a<=y)&&decide (y<=b))=q at c1;cases q
 ·repeat' first|(with_reducible first|refine zz ?_|refine zx ?_|refine zE [0,1,2,3,6] ?_)|simp -dsimp|refine zt c1 ?_ ?_ ?_;(focus simp;done);focus (simp;done)
  all_goals simp at hb
  all_goals simp[U6]
  all_goals omega
 ·simp at hb;repeat' first|(with_reducible first|refine zz ?_|refine zx ?_|refine zE [0,1,2,3,6] ?_)|simp -dsimp|refine zt c1 ?_ ?_ ?_;(focus simp;done);focus (simp;done)
  all_goals simp[U6]
  all_goals first|omega|(rw[Bool.eq_iff_iff];simp;omega)
end Go.Proofs
namespace Go.Proofs
open Go Go.Ab
variable {G:LI}
def I2 (c:Case) (l:Link) (x:Piece):Bool:=(match n9 c.p.n.reg l.drawing 1 with|some y=>!decide (y.kind=1)|none=>false)&&(decide (0<=l.dim/\l.dim<=3)&&((c.p.holders.any λy=>decide (y.id=x.holder))&&(decide (0<=x.day/\x.day<=14610)&&U6 x.lo x.hi 0 1000000000)))
def aM (c:Case):Bool:=decide (c.of∈nums c.p.n.reg)&&(decide (1<=c.machine/\c.machine<=999)&&(decide (1<=c.loop.links.length/\c.loop.links.length<=8)&&(decide (c.pieces.length=c.loop.links.length)&&(U6 c.loop.lo c.loop.hi (-8000000000) 8000000000&&(c.loop.links.zip c.pieces).all λq=>I2 c q.1 q.2))))
noncomputable def p9 (c:Case):Int:=if u3 c.p≠0 then u3 c.p else if aM c=true then 0 else 100
structure KC (c:Case):Prop where
 p:KP c.p
 l:c.loop.links.length<=16
 q:c.pieces.length<=16
open Go Go.Ab Tryz
theorem A1 {c:Case} (h:p9 c=0):u3 c.p=0/\aM c=true:=by
 unfold p9 at h;by_cases h0:u3 c.p=0
 ·rw[if_neg (by simp[h0])] at h;refine⟨h0,?_⟩;by_cases h1:aM c=true
  ·exact h1
  ·rw[if_neg h1] at h;exact absurd h (by decide)
 ·rw[if_pos h0] at h;exact absurd h h0
theorem A9 {p:Prints} (h:u3 p=0):v7 p.n=0/\G4 p=true/\l4 p.n.reg=0:=by
 have hn:v7 p.n=0:=by
  refine Classical.byContradiction λh1=>?_;unfold u3 at h;rw[if_pos h1] at h;exact h1 h
 refine⟨hn,?_,?_⟩
 ·refine Classical.byContradiction λh1=>?_;unfold u3 at h;rw[if_neg (by simp[hn]),if_neg h1] at h;exact absurd h (by decide)
 ·refine Classical.byContradiction λh1=>?_;unfold v7 at hn;rw[if_pos h1] at hn;exact h1 hn
def ek (c:Case):Bool:=decide (c.of∈nums c.p.n.reg)&&(decide (1<=c.machine/\c.machine<=999)&&(decide (1<=c.loop.links.length/\c.loop.links.length<=8)&&(decide (c.pieces.length=c.loop.links.length)&&U6 c.loop.lo c.loop.hi (-8000000000) 8000000000)))
theorem N1 (c:Case):aM c=(ek c&&(c.loop.links.zip c.pieces).all λq=>I2 c q.1 q.2):=by
 simp only[aM,ek,Bool.and_assoc]
theorem gr {α β:Type} {f:α×β->Bool} {l:List α} {m:List β} {k:Nat} (h1:k<l.length) (h2:k<m.length) (hno:(l.zip m).all f=((l.zip m).drop k).all f):(l.zip m).all f=true↔f (l[k],m[k])=true/\((l.zip m).drop (k+1)).all f=true:=by
 have h3:k<(l.zip m).length:=by rw[List.length_zip];omega
 have:=aQ h3 hno;rw[List.getElem_zip] at this;exact this
theorem yl (x:Piece) (y:Holder):DCall prog G 121 (jU y :: [DC.ptr 0 0].map .one) [.row ((w5 x).map .im)] (λd o=>d=bv (decide (y.id=x.holder))/\o=[.row ((w5 x).map .im)]):=by
 refine DCall.drop ?_;refine h9 func121 rfl ntmps121 (by simp) rfl ?_;simp only[jU,o6,w5,rI];repeat' first|(with_reducible first|refine zz ?_|refine zx ?_|refine zE [0,1,2,3] ?_)|simp -dsimp|with_reducible refine And.intro ?_ ?_
theorem jn {c:Case} (h0:l4 c.p.n.reg=0) (l:Link) (x:Piece):I2 c l x=true↔yZ c.p.n.reg l.drawing 1=0/\¬ (atR c.p.n.reg l.drawing 1).kind=1/\([l.dim].all λy=>decide (0<=y)&&decide (y<=3))=true/\(c.p.holders.any λy=>decide (y.id=x.holder))=true/\([x.day].all λy=>decide (0<=y)&&decide (y<=14610))=true/\U6 x.lo x.hi 0 1000000000=true:=by
 unfold I2 yZ atR;rw[if_neg (by simp[h0]),if_pos h0];cases n9 c.p.n.reg l.drawing 1 with
 | none=>simp
 | some y=>simp[and_assoc]
@[simp] abbrev Qo:List Nat:=[0,1,2,3,4,6,7,8,9,10,11,12,17,64,67,68,69,70,118]
theorem iR (c:Case) (hG:o3 G) (hN:E0 G) (hS:u4 G) (hR:w0 G) (hk:KC c):zP prog G 75 [l7 c] (iv (p9 c)):=by
 refine zf func75 ntmps75 ?_;try simp only[iv]
 have hl:=hk.l;have hq:=hk.q;have hhl:=hk.p.p.h;have c1:=Aa (G:=G) c.p hG hN hS hR hk.p;simp only[D7,p6] at c1;by_cases h0:u3 c.p=0
 ·obtain⟨hn0,hpb,hr0⟩:=A9 h0;rw[h0] at c1;have hE:p9 c=if aM c=true then 0 else 100:=by unfold p9;rw[if_neg (by simp[h0])]
  have c2:=Do (G:=G) c.p.n.reg c.of hG hk.p.n.1;have hLE:aB c.p.n.reg c.of=if c.of∈nums c.p.n.reg then 0 else 6:=by unfold aB;rw[if_neg (by simp[hr0])]
  rw[hLE] at c2;have c3:=O6 (G:=G) 1 999 [c.machine] (by simp);have c4:=O6 (G:=G) 1 8 [(c.loop.links.length:Int)] (by simp);have c5:=bU (G:=G) c.loop.lo c.loop.hi (-8000000000) 8000000000;simp only[F9,D9] at c2 c5;cases h5:ek c
  ·have hB:aM c=false:=by rw[N1,h5,Bool.false_and]
   rw[hE,hB];simp only[ek] at h5;generalize hb3:([c.machine].all λy=>decide (1<=y)&&decide (y<=999))=b3 at c3;generalize hb4:([(c.loop.links.length:Int)].all λy=>decide (1<=y)&&decide (y<=8))=b4 at c4;generalize hb5:U6 c.loop.lo c.loop.hi (-8000000000) 8000000000=b5 at c5 h5;have hs:True:=trivial;by_cases hm:c.of∈nums c.p.n.reg
   ·rw[if_pos hm] at c2;by_cases hlen:c.pieces.length=c.loop.links.length
    ·cases b3<;>cases b4<;>cases b5
     all_goals
      have hs:=hlen;repeat' first|(with_reducible first|refine zz ?_|refine zr ?_|refine zE Qo ?_)|simp -dsimp[hs]|refine zp c1 ?_|refine zp c2 ?_|refine zt c3 ?_ ?_ ?_;(focus simp;done);focus (simp;done)|refine zt c4 ?_ ?_ ?_;(focus simp;done);focus (simp;done)|refine zp c5 ?_|refine i8 ?_ ?_<;>intro h<;>try exact h.elim
      all_goals try clear hs
     all_goals exfalso
     all_goals simp[hm,hlen] at h5 hb3 hb4
     all_goals omega
    ·cases b3<;>cases b4<;>cases b5
     all_goals
      have hs:=hlen;repeat' first|(with_reducible first|refine zz ?_|refine zr ?_|refine zE Qo ?_)|simp -dsimp[hs]|refine zp c1 ?_|refine zp c2 ?_|refine zt c3 ?_ ?_ ?_;(focus simp;done);focus (simp;done)|refine zt c4 ?_ ?_ ?_;(focus simp;done);focus (simp;done)|refine zp c5 ?_|refine i8 ?_ ?_<;>intro h<;>try exact h.elim|with_reducible refine j0 ?_ ?_<;>intro h<;>have h0:=h<;>(try simp only[i7] at h)<;>have h2:=h<;>(try simp at h2)<;>replace hs:=za h0 (za h (za h2 hs))
      all_goals try clear hs
     all_goals exfalso
     all_goals omega
   ·rw[if_neg hm] at c2;have hs:=trivial;repeat' first|(with_reducible first|refine zz ?_|refine zr ?_|refine zE Qo ?_)|simp -dsimp[hs]|refine zp c1 ?_|refine zp c2 ?_|refine i8 ?_ ?_<;>intro h<;>try exact h.elim
    all_goals try clear hs
  ·rw[N1,h5,Bool.true_and] at hE;rw[hE];simp only[ek,Bool.and_eq_true,decide_eq_true_eq] at h5;obtain⟨hm,⟨hm1,hm2⟩,⟨hl1,hl2⟩,hlen,hgap⟩:=h5;rw[if_pos hm] at c2;rw[hgap] at c5;rw[show ([c.machine].all λy=>decide (1<=y)&&decide (y<=999))=true by simp;omega] at c3;rw[show ([(c.loop.links.length:Int)].all λy=>decide (1<=y)&&decide (y<=8))=true by simp;omega] at c4;have hs:=hlen;repeat' first|(with_reducible first|refine zz ?_|refine zE Qo ?_)|simp -dsimp[hs]|refine zp c1 ?_|refine zp c2 ?_|refine zt c3 ?_ ?_ ?_;(focus simp;done);focus (simp;done)|refine zt c4 ?_ ?_ ?_;(focus simp;done);focus (simp;done)|refine zp c5 ?_|refine i8 ?_ ?_<;>intro h<;>try exact h.elim
   all_goals try clear hs
   have hno:((c.loop.links.zip c.pieces).all λq=>I2 c q.1 q.2)=((c.loop.links.zip c.pieces).drop 0).all λq=>I2 c q.1 q.2:=rfl;clear c1 c2 c3 c4 c5;generalize hA:((c.loop.links.zip c.pieces).all λq=>I2 c q.1 q.2)=A at *;refine i6 (ι:={ k:Nat // k<=c.loop.links.length/\A=((c.loop.links.zip c.pieces).drop k).all λq=>I2 c q.1 q.2 }) (λq=>⟨120,[(1,.one (.ptr 0 0)),(4,.one (.ptr 2 0)),(67,.one (.im (.sl (c.loop.links.map G9)))),(68,iv (c.loop.links.length:Int)),(69,iv (q.1:Int))],[.row ((j4 c).map .im),.vec 0 [] 0 true,.row [.im (.sl (c.p.n.reg.map e9))],.vec 1 [[.im (rI c.machine)]] 0 false,.vec 1 [[.im (rI (c.loop.links.length:Int))]] 0 false]⟩) (λq=>c.loop.links.length-q.1) ⟨0,by simp,hno⟩ (zv [1,4,67,68,69]) ?_;rintro⟨k,hk1,hrest⟩;simp only[iv];by_cases hlt:k<c.loop.links.length
   ·have hlt2:k<c.pieces.length:=by omega
    have hw:=zk k;have hst:=gr (f:=λq=>I2 c q.1 q.2) hlt hlt2 (hA.trans hrest);rw[hA] at hst;simp only at hst;rw[jn hr0] at hst;clear hno;generalize hx:c.pieces[k]=x at *;generalize hy:c.loop.links[k]=y at *;have c6:=Ci (G:=G) c.p.n.reg y.drawing 1 hG hk.p.n.1;have c7:=iI (G:=G) c.p.holders (λy=>decide (y.id=x.holder)) 121 [.ptr 0 0] [.row ((w5 x).map .im)] (by simp) (λy _=>yl x y) (by omega);have c8:=O6 (G:=G) 0 3 [y.dim] (by simp);have c9:=O6 (G:=G) 0 14610 [x.day] (by simp);have c10:=bU (G:=G) x.lo x.hi 0 1000000000;simp only[F9,D9] at c6 c10;simp only[w5,rI,List.map_cons,List.map_nil] at c7;generalize (c.p.holders.any λy=>decide (y.id=x.holder))=b2 at *;generalize ([y.dim].all λy=>decide (0<=y)&&decide (y<=3))=b1 at *;generalize ([x.day].all λy=>decide (0<=y)&&decide (y<=14610))=b3 at *;generalize U6 x.lo x.hi 0 1000000000=b4 at *;generalize yZ c.p.n.reg y.drawing 1=e at *;generalize atR c.p.n.reg y.drawing 1=z at *;have hcs:(e=0/\¬ z.kind=1/\b1=true/\b2=true/\b3=true/\b4=true)\/(A=false/\((¬ e=0/\True/\True/\True/\True/\True)\/(e=0/\z.kind=1/\True/\True/\True/\True)\/(e=0/\¬ z.kind=1/\b1=false/\True/\True/\True)\/(e=0/\¬ z.kind=1/\b1=true/\b2=false/\True/\True)\/(e=0/\¬ z.kind=1/\b1=true/\b2=true/\b3=false/\True)\/(e=0/\¬ z.kind=1/\b1=true/\b2=true/\b3=true/\b4=false))):=by
     by_cases g1:e=0<;>by_cases g2:z.kind=1<;>cases b1<;>cases b2<;>cases b3<;>cases b4<;>simp_all
    have hs:True:=trivial;rcases hcs with⟨g1,g2,g3,g4,g5,g6⟩|⟨gA,hcs⟩
    ·have hs:=za hx (za hy (za hlt (za hlt2 (za hw (za g1 (za g2 (za g3 (za g4 (za g5 g6)))))))));repeat' first|(with_reducible first|refine zz ?_|refine zE Qo ?_)|simp -dsimp[hs]|refine zp c6 ?_|refine CallE.embed [9] (c7) ?_ ?_ ?_ ?_ ?_ ?_;(focus simp[u9];done);(focus simp;done);(focus simp;done);(focus simp;done);(focus refine o4 ?_;simp[u9,r5];done);try simp -dsimp[n8,u9,hs]|refine zt c8 ?_ ?_ ?_;(focus simp;done);focus (simp;done)|refine zt c9 ?_ ?_ ?_;(focus simp;done);focus (simp;done)|refine zp c10 ?_|refine i8 ?_ ?_<;>intro h<;>try exact h.elim
     all_goals try clear hs
     all_goals exact zn ⟨k+1,by omega,by rw[Bool.eq_iff_iff];exact hst.trans ⟨λh=>h.2,λh=>⟨⟨g1,g2,g3,g4,g5,g6⟩,h⟩⟩⟩ (zw [1,4,67,68,69] 5)
    ·rcases hcs with⟨g1,g2,g3,g4,g5,g6⟩|⟨g1,g2,g3,g4,g5,g6⟩|⟨g1,g2,g3,g4,g5,g6⟩|⟨g1,g2,g3,g4,g5,g6⟩|⟨g1,g2,g3,g4,g5,g6⟩|⟨g1,g2,g3,g4,g5,g6⟩
     all_goals
      have hs:=za hx (za hy (za hlt (za hlt2 (za hw (za g1 (za g2 (za g3 (za g4 (za g5 g6)))))))));repeat' first|(with_reducible first|refine zz ?_|refine zr ?_|refine zE Qo ?_)|simp -dsimp[hs]|refine zp c6 ?_|refine CallE.embed [9] (c7) ?_ ?_ ?_ ?_ ?_ ?_;(focus simp[u9];done);(focus simp;done);(focus simp;done);(focus simp;done);(focus refine o4 ?_;simp[u9,r5];done);try simp -dsimp[n8,u9,hs]|refine zt c8 ?_ ?_ ?_;(focus simp;done);focus (simp;done)|refine zt c9 ?_ ?_ ?_;(focus simp;done);focus (simp;done)|refine zp c10 ?_|refine i8 ?_ ?_<;>intro h<;>try exact h.elim
      all_goals try clear hs
     all_goals exact gA
   ·obtain rfl:k=c.loop.links.length:=by omega
    have hA1:A=true:=by rw[hrest,List.drop_eq_nil_of_le (by rw[List.length_zip];omega)];rfl
    subst hA1;have hs:=hlt;repeat' first|(with_reducible first|refine zz ?_|refine zr ?_|refine zE Qo ?_)|simp -dsimp[hs]|refine i8 ?_ ?_<;>intro h<;>try exact h.elim
    all_goals try clear hs
 ·have hE:p9 c=u3 c.p:=by unfold p9;rw[if_pos h0]
  rw[hE];have hs:=h0;repeat' first|(with_reducible first|refine zz ?_|refine zr ?_|refine zE Qo ?_)|simp -dsimp[hs]|refine zp c1 ?_|refine i8 ?_ ?_<;>intro h<;>try exact h.elim
  all_goals try clear hs
end Go.Proofs
