/- Part 17 of the proofs. -/
import Derived.Test.YtjodaihiogfkbaaGreatDoorQ08
import Derived.Test.YtjodaihiogfkbaaGreatDoorQ09
import Derived.Test.YtjodaihiogfkbaaGreatDoorQ14
import Derived.Test.YtjodaihiogfkbaaGreatDoorQ15
import Derived.Test.YtjodaihiogfkbaaGreatDoorQ16
set_option linter.all false
set_option linter.deprecated false
set_option maxHeartbeats 100000000
namespace Go.Proofs
open Go Go.Ab Tryz
variable {G:GW}
theorem no (l:List Int) (g:Nat) (hl:l.length<1000):DCall prog G 183 [.one (.vec 0 g 0 l.length)] [.vec 1 (l8 (l.map encI)) g false] (fun d o=>∃ S:List Int,(S.length=l.length∧S.take (q8 l).length=q8 l)∧d=.one (.vec 0 g 0 (q8 l).length)∧o=[.vec 1 (l8 (S.map encI)) g false]):=by
 refine DCall.drop ?_
 refine h9 func183 rfl ntmps183 (by simp) rfl ?_
 by_cases h2:l.length<2
 ·have hli:(l.length:Int)<2:=by omega
  have hs:=hli
  repeat' first|(with_reducible first|refine zz ?_|refine zr ?_|refine zE [0,2,3,4,5,8,13,25,32,44] ?_)|simp -dsimp[hs]|refine i9 ?_ ?_<;>intro h<;>try simp only[i7] at h
  have hd:q8 l=l:=by
   match l,h2 with
   | [],_=>rfl
   | [a],_=>rfl
  exact⟨l,⟨rfl,by rw[hd,List.take_length]⟩,by rw[hd],rfl⟩
 ·have hli:¬ (l.length:Int)<2:=by omega
  have hs:=hli
  repeat' first|(with_reducible first|refine zz ?_|refine zE [0,2,3,4,5,8,13,25,32,44] ?_)|simp -dsimp[hs]|refine i9 ?_ ?_<;>intro h<;>try simp only[i7] at h
  refine i6 (ι:={ k:Nat // 1≤k∧k≤l.length∧q8 (l.take k)=l.take k }) (fun p=>⟨61,[(0,.one (.vec 0 g 0 l.length)),(3,iv (p.1:Int))],[.vec 1 (l8 (l.map encI)) g false]⟩) (fun p=>l.length-p.1) ⟨1,by omega,by omega,by cases l with|nil=>rfl|cons a r=>simp[q8]⟩ (zw [0,3] 1) ?_
  rintro⟨k,hk1,hk,hdk⟩
  simp only[iv]
  by_cases hlt:k<l.length
  ·have hw:=zk k
   obtain⟨j,rfl⟩:∃ j,k=j+1:=⟨k-1,by omega⟩
   have hj:j<l.length:=by omega
   have hst:=lq hlt
   rw[hdk] at hst
   have hwj:IntKind.i64.wrap (((j+1:Nat):Int)-1)=(j:Int):=by rw[n8 (by omega) (by omega)];omega
   have hwj2:IntKind.i64.wrap (j:Int)=(j:Int):=n8 (by omega) (by omega)
   have hp0:(0:Int)≤(j:Int)+1:=by omega
   have hp1:(j:Int)+1≤l.length:=by omega
   have hp2:(j:Int)+1<l.length:=by omega
   by_cases he:l[j]=l[j+1]
   ·have he':l[j+1]=l[j]:=he.symm
    rw[if_pos he] at hst
    have hs:=za hlt (za hj (za hw (za hwj (za hwj2 (za hp0 (za hp1 (za hp2 he')))))))
    repeat' first|with_reducible refine zz ?_|simp -dsimp[hs]|refine zM 6 61 10 [0,2,3,4,5,8,13,25,32,44] ?_|with_reducible refine zE [0,2,3,4,5,8,13,25,32,44] ?_|refine i9 ?_ ?_<;>intro h<;>try simp only[i7] at h
    refine i6 (ι:={ p:Nat×Nat×List Int // 1≤p.1∧j+1+p.1≤l.length∧p.2.1≤j+p.1∧p.2.2.length=l.length∧p.2.2.take p.2.1=q8 (l.take (j+1+p.1))∧p.2.2.drop (j+p.1)=l.drop (j+p.1) }) (fun p=>⟨61,[(0,.one (.vec 0 g 0 l.length)),(3,iv (p.1.2.1:Int)),(4,.one (.vec 0 g (j+1) (l.length-(j+1)))),(5,iv (p.1.1:Int))],[.vec 1 (l8 (p.1.2.2.map encI)) g false]⟩) (fun p=>l.length-p.1.1) ⟨(1,j+1,l),by simp only;omega,by simp only;omega,by simp only;omega,rfl,hst.symm,rfl⟩ (zv [0,3,4,5]) ?_
    rintro⟨⟨q,w,S⟩,hq1,hqN,hwq,hSl,hSt,hSd⟩
    simp only at hq1 hqN hwq hSl hSt hSd
    simp only[iv]
    by_cases hlq:j+1+q<l.length
    ·have hq':q<l.length-(j+1):=by omega
     have hq1':q-1<l.length-(j+1):=by omega
     have hqw:=zk q
     have hww:=zk w
     have hqm:IntKind.i64.wrap ((q:Int)-1)=((q-1:Nat):Int):=by rw[n8 (by omega) (by omega)];omega
     have hs1:j+1+q<S.length:=by omega
     have hs0:j+1+(q-1)<S.length:=by omega
     have hwl:w<l.length:=by omega
     have hds:q8 (l.take (j+1+(q+1)))=if l[j+q]=l[j+1+q] then q8 (l.take (j+1+q)) else q8 (l.take (j+1+q))++[l[j+1+q]]:=by
      have:=lq (l:=l) (k:=j+q) (by omega)
      simp only[show j+q+1=j+1+q by omega,show j+q+2=j+1+(q+1) by omega] at this
      exact this
     rw[← hSt] at hds
     have e1:S[j+1+q]=l[j+1+q]:=by
      have:=congrArg (fun L:List Int=>L[1]?) hSd
      simp only[List.getElem?_drop] at this
      rw[show j+q+1=j+1+q by omega,List.getElem?_eq_getElem hs1,List.getElem?_eq_getElem hlq] at this
      exact Option.some.inj this
     have e0:S[j+1+(q-1)]=l[j+q]:=by
      have:=congrArg (fun L:List Int=>L[0]?) hSd
      simp only[List.getElem?_drop,Nat.add_zero] at this
      rw[List.getElem?_eq_getElem (show j+q<S.length by omega),List.getElem?_eq_getElem (show j+q<l.length by omega)] at this
      have e:=Option.some.inj this
      rw[← e];congr 1;omega
     have hdr:S.drop (j+(q+1))=l.drop (j+(q+1)):=by
      have:=congrArg (List.drop 1) hSd
      rw[List.drop_drop,List.drop_drop] at this
      exact this
     have hset:=fun v:Int=>pt (v:=v) (show w<S.length by omega)
     have hdset:∀ v:Int,(S.set w v).drop (j+(q+1))=l.drop (j+(q+1)):=fun v=>by
      rw[List.drop_set_of_lt (by omega)];exact hdr
     generalize l[j+q]=u at *
     generalize l[j+1+q]=v at *
     have e0':S[j+1+(q-1)]?=some u:=by rw[List.getElem?_eq_getElem hs0,e0]
     have e1':S[j+1+q]?=some v:=by rw[List.getElem?_eq_getElem hs1,e1]
     by_cases huv:u=v
     ·have hvu:v=u:=huv.symm
      rw[if_pos huv] at hds
      have hs:=za hq' (za hq1' (za hSl (za hlq (za hqw (za hww (za hqm (za hs1 (za hs0 (za hwl (za e1 (za e0 (za e0' (za e1' hvu)))))))))))))
      repeat' first|with_reducible refine zz ?_|simp -dsimp[hs]|refine zM 11 61 10 [0,2,3,4,5,8,13,25,32,44] ?_|with_reducible refine zE [0,2,3,4,5,8,13,25,32,44] ?_|refine i9 ?_ ?_<;>intro h<;>try simp only[i7] at h
      all_goals exact zn ⟨(q+1,w,S),by simp only;omega,by simp only;omega,by simp only;omega,hSl,hds.symm,hdr⟩ (zv [0,3,4,5])
     ·have hvu:¬ v=u:=fun h=>huv h.symm
      rw[if_neg huv,← hset v] at hds
      have hs:=za hq' (za hq1' (za hSl (za hlq (za hqw (za hww (za hqm (za hs1 (za hs0 (za hwl (za e1 (za e0 (za e0' (za e1' hvu)))))))))))))
      repeat' first|with_reducible refine zz ?_|simp -dsimp[hs]|refine zM 11 61 10 [0,2,3,4,5,8,13,25,32,44] ?_|with_reducible refine zE [0,2,3,4,5,8,13,25,32,44] ?_|refine i9 ?_ ?_<;>intro h<;>try simp only[i7] at h
      all_goals exact zn ⟨(q+1,w+1,S.set w v),by simp only;omega,by simp only;omega,by simp only;omega,by simpa using hSl,hds.symm,hdset v⟩ (zv [0,3,4,5])
    ·have hq':¬ q<l.length-(j+1):=by omega
     have hw0:w≤l.length:=by omega
     have hs:=za hq' (za hw0 hSl)
     repeat' first|(with_reducible first|refine zz ?_|refine zr ?_|refine zE [0,2,3,4,5,8,13,25,32,44] ?_)|simp -dsimp[hs]|refine i9 ?_ ?_<;>intro h<;>try simp only[i7] at h
     have hN:j+1+q=l.length:=by omega
     rw[hN,List.take_length] at hSt
     have hwd:w=(q8 l).length:=by rw[← hSt];simp;omega
     exact⟨wy S w (l.length-w),⟨by rw[qw (by omega)];exact hSl,by rw[← hwd,← hSt];exact List.take_left' (by simp;omega)⟩,by rw[hwd],rfl⟩
   ·have he':¬ l[j+1]=l[j]:=fun h=>he h.symm
    rw[if_neg he] at hst
    have hs:=za hlt (za hj (za hw (za hwj (za hwj2 (za hp0 (za hp1 (za hp2 he')))))))
    repeat' first|with_reducible refine zz ?_|simp -dsimp[hs]|refine zM 6 61 10 [0,2,3,4,5,8,13,25,32,44] ?_|with_reducible refine zE [0,2,3,4,5,8,13,25,32,44] ?_|refine i9 ?_ ?_<;>intro h<;>try simp only[i7] at h
    exact zn ⟨j+2,by omega,by omega,by rw[hst,show j+2=j+1+1 from rfl,List.take_succ_eq_append_getElem hlt]⟩ (zv [0,3] (by simp;exact hw))
  ·obtain rfl:k=l.length:=by omega
   rw[List.take_length] at hdk
   have hs:=hlt
   repeat' first|(with_reducible first|refine zz ?_|refine zr ?_|refine zE [0,2,3,4,5,8,13,25,32,44] ?_)|simp -dsimp[hs]|refine i9 ?_ ?_<;>intro h<;>try simp only[i7] at h
   exact⟨l,⟨rfl,by rw[hdk,List.take_length]⟩,by rw[hdk],rfl⟩
def EE (x:Print) (d:Int):Bool:=decide (x.day≤d) && !(!decide (x.back=-1)&&decide (x.back≤d)) && !decide (x.lost=2)
def ru (d i w:Int) (x:Print):Bool:=EE x d&&(decide (x.holder=i)&&decide (x.drawing=w))
def Y9 (d i w:Int) (l:List Print):List Int:=(l.filter fun x=>ru d i w x&&decide (x.lost=1)).map (·.letter)
def aW (d i w:Int) (l:List Print):Int:=(l.filter fun x=>ru d i w x && !decide (x.lost=1)).foldl (fun a x=>max a x.letter) 0
theorem GN (b:IC) (n:Int):zP prog G 182 [.one (.im b),iv n] (.one (.im (.fn (.func 231) [.ip [b],.ip [rI n]]))):=by
 refine zf func182 ntmps182 ?_
 try simp only[iv]
 repeat' first|(with_reducible first|refine zz ?_|refine zx ?_|refine zE [0,1,2,3,4] ?_)|simp -dsimp
def aE (d i w:Int) (l:List Print):List Int:=(q8 (j7 (Y9 d i w l++[aW d i w l]))).drop (H9 (fun x=>decide (aW d i w l=x)) (q8 (j7 (Y9 d i w l++[aW d i w l])))).toNat
theorem vo (d i w:Int) {l:List Print} {k:Nat} (h:k<l.length):Y9 d i w (l.take (k+1))=Y9 d i w (l.take k)++(if (ru d i w l[k]&&decide (l[k].lost=1))=true then [l[k].letter] else []):=by
 unfold Y9
 rw[List.take_succ_eq_append_getElem h,List.filter_append,List.map_append]
 congr 1
 split<;>simp_all
theorem uP (d i w:Int) {l:List Print} {k:Nat} (h:k<l.length):aW d i w (l.take (k+1))=if (ru d i w l[k] && !decide (l[k].lost=1))=true then max (aW d i w (l.take k)) l[k].letter else aW d i w (l.take k):=by
 unfold aW
 rw[List.take_succ_eq_append_getElem h,List.filter_append,List.foldl_append]
 split<;>simp_all
theorem qc {α:Type} (q:α→Bool) (l:List α):H9 q l<l.length∨l=[]:=by
 unfold H9
 split
 ·rename_i j h
  rw[List.findIdx?_eq_some_iff_getElem] at h
  obtain⟨hlt,_⟩:=h
  left;omega
 ·cases l with
  | nil=>exact .inr rfl
  | cons a r=>left;simp;omega
theorem kC (d i w:Int) (l:List Print):(Y9 d i w l).length≤l.length:=by
 unfold Y9
 rw[List.length_map];exact List.length_filter_le _ _
theorem By (p:Prints) (d i w:Int) (hS:u7 G) (hl:p.prints.length<900):zP prog G 119 [.one (.im (l6 p)),iv d,iv i,iv w] (r8 (aE d i w p.prints)):=by
 refine zf func119 ntmps119 ?_
 try simp only[iv,iv,iv]
 simp only[l6]
 have c1:=GN (G:=G) (l6 p) d
 simp only[l6] at c1
 have hs:=trivial
 repeat' first|(with_reducible first|refine zz ?_|refine zE [0,1,2,3,6,7,8,9,10,12,13,16,18,29,32] ?_)|simp -dsimp[hs]|refine zp c1 ?_
 all_goals try clear hs
 refine S4 (f:=231) (by simp;exact rfl) (by rfl) call231 ?_
 generalize hR:LoopD.mk _ _ _ _ _ _ _=R
 have hR1:R.st=.ready:=by rw[← hR]
 have hR2:R.pend=none:=by rw[← hR]
 have hR3:R.at .ready none=R:=by rw[← hR];rfl
 have hR4:=(congrArg LoopD.nt hR).symm
 have hR5:=(congrArg LoopD.tm hR).symm
 have hR6:=(congrArg LoopD.ps hR).symm
 have hR7:=(congrArg LoopD.asg hR).symm
 have hR8:=(congrArg LoopD.body hR).symm
 dsimp only at hR4 hR5 hR6 hR7 hR8
 clear hR
 refine h9 func231 rfl ntmps231 (by simp) rfl ?_
 have hR9:∀ objs:List DObj,(R.tm.map fun x=>(x.1,fe 7 objs x.2))=R.tm:=by intro objs;rw[hR5];simp
 have hs:=za hR1 (za hR2 hR3)
 repeat' first|(with_reducible first|refine zz ?_|refine zE [0,1,2,3,4,5,6,7,8,9,10,11,12,13,14,16,18,29,32,46] ?_)|simp -dsimp[hs]
 all_goals try clear hs
 refine i6 (ι:={ q:Nat×Nat×Nat×Bool // q.1≤p.prints.length∧(q.2.2.1=1∨q.2.2.2=true∧Y9 d i w (p.prints.take q.1)=[]) }) (fun q=>⟨48,[(0,.one (.yld 6)),(2,.one (.im (.ip [rI d]))),(11,.one (.im (.sl (p.prints.map w5)))),(12,iv (p.prints.length:Int)),(13,iv (q.1.1:Int))],[.row [.im (rI i)],.row [.im (rI w)],.vec 1 [] 0 true,.row [.im (rI (aW d i w (p.prints.take q.1.1)))],.vec q.1.2.2.1 (l8 ((Y9 d i w (p.prints.take q.1.1)).map encI)) q.1.2.1 q.1.2.2.2,.row [.vec 4 q.1.2.1 0 (Y9 d i w (p.prints.take q.1.1)).length],.loop R]⟩) (fun q=>p.prints.length-q.1.1) ⟨(0,0,0,true),by simp[Y9]⟩ (zv [0,2,11,12,13] (by simp[Y9,aW])) ?_
 rintro⟨⟨k,g,sz,nl⟩,hk,hz⟩
 simp only at hk hz
 simp only[iv]
 by_cases hlt:k<p.prints.length
 ·have hw:=zk k
  have hst1:=vo d i w hlt
  have hst2:=uP d i w hlt
  have hpl:=kC d i w (p.prints.take k)
  rw[List.length_take] at hpl
  have hz':sz=1∨nl=true:=hz.imp id And.left
  generalize hx:p.prints[k]=x at *
  cases hsel:ru d i w x
  ·rw[hsel] at hst1 hst2
   simp only[Bool.false_and,Bool.false_eq_true,if_false,List.append_nil] at hst1 hst2
   simp only[ru,EE] at hsel
   simp at hsel
   have hz2:sz=1∨nl=true∧Y9 d i w (p.prints.take (k+1))=[]:=by rw[hst1];exact hz
   clear c1
   have hs:=za hR1 (za hR2 (za hR3 (za hx (za hlt (za hw hz')))))
   repeat' first|(with_reducible first|refine zz ?_|refine And.intro (by omega) ?_|refine zE [0,1,2,3,4,5,6,7,8,9,10,11,12,13,14,16,18,29,32,46] ?_)|simp -dsimp[hs]|with_reducible refine At.yield_end ?_;simp -dsimp[hs]|refine aC ?_ ?_<;>simp -dsimp[hs]|refine P4 ?_;simp -dsimp[R9,hR4,hR5,hR6,hR7,hR8,hs]|refine i9 ?_ ?_<;>intro h<;>try simp only[i7] at h|with_reducible refine j0 ?_ ?_<;>intro h<;>have h0:=h<;>(try simp only[i7] at h)<;>have h2:=h<;>(try simp at h2)<;>replace hs:=za h0 (za h (za h2 hs))
   all_goals try clear hs
   all_goals first
    | (exfalso;omega)
    | exact zn ⟨(k+1,g,sz,nl),by simp only;omega,hz2⟩ (zw [0,2,11,12,13] 7 (by simp[hst1,hst2,hR9]))
  ·rw[hsel] at hst1 hst2
   simp only[Bool.true_and] at hst1 hst2
   have hq:=hsel
   simp only[ru,EE] at hq
   simp at hq
   obtain⟨⟨⟨q1,q2⟩,q3⟩,q4,q5⟩:=hq
   have hbk:((x.back=-1)∧True)∨(¬ x.back=-1∧¬ x.back≤d):=by
    by_cases hb:x.back=-1
    ·exact .inl ⟨hb,trivial⟩
    ·exact .inr ⟨hb,by omega⟩
   clear hsel q2 c1
   have hs:True:=trivial
   by_cases hl1:x.lost=1
   ·simp only[hl1,decide_true,if_true,Bool.not_true,Bool.false_eq_true,if_false] at hst1 hst2
    rcases hbk with⟨hb1,hb2⟩|⟨hb1,hb2⟩
    all_goals
     have hs:=za hR1 (za hR2 (za hR3 (za hx (za hlt (za hw (za hz' (za q1 (za q3 (za q4 (za q5 (za hb1 (za hb2 hl1))))))))))))
     repeat' first|(with_reducible first|refine zz ?_|refine And.intro (by omega) ?_|refine zE [0,1,2,3,4,5,6,7,8,9,10,11,12,13,14,16,18,29,32,46] ?_)|simp -dsimp[hs]|with_reducible refine At.yield_end ?_;simp -dsimp[hs]|refine aC ?_ ?_<;>simp -dsimp[hs]|refine P4 ?_;simp -dsimp[R9,hR4,hR5,hR6,hR7,hR8,hs]|refine i9 ?_ ?_<;>intro h<;>try simp only[i7] at h
     all_goals try clear hs
    all_goals exact zn ⟨(k+1,g+1,1,false),by simp only;omega,.inl rfl⟩ (zw [0,2,11,12,13] 7 (by simp[hst1,hst2,hR9]))
   ·simp only[hl1,decide_false,Bool.false_eq_true,if_false,List.append_nil,Bool.not_false,if_true] at hst1 hst2
    have hz2:sz=1∨nl=true∧Y9 d i w (p.prints.take (k+1))=[]:=by rw[hst1];exact hz
    rcases hbk with⟨hb1,hb2⟩|⟨hb1,hb2⟩
    all_goals
     have hs:=za hR1 (za hR2 (za hR3 (za hx (za hlt (za hw (za hz' (za q1 (za q3 (za q4 (za q5 (za hb1 (za hb2 hl1))))))))))))
     repeat' first|(with_reducible first|refine zz ?_|refine zE [0,1,2,3,4,5,6,7,8,9,10,11,12,13,14,16,18,29,32,46] ?_)|simp -dsimp[hs]|with_reducible refine At.yield_end ?_;simp -dsimp[hs]|refine aC ?_ ?_<;>simp -dsimp[hs]|refine P4 ?_;simp -dsimp[R9,hR4,hR5,hR6,hR7,hR8,hs]|refine i9 ?_ ?_<;>intro h<;>try simp only[i7] at h
     all_goals try clear hs
    all_goals exact zn ⟨(k+1,g,sz,nl),by simp only;omega,hz2⟩ (zw [0,2,11,12,13] 7 (by simp[hst1,hst2,hR9]))
 ·obtain rfl:k=p.prints.length:=by omega
  rw[List.take_length] at *
  have hz':sz=1∨nl=true:=hz.imp id And.left
  have hpl:=kC d i w p.prints
  clear c1
  have hs:=za hR1 (za hR2 (za hR3 (za hlt hz')))
  repeat' first|(with_reducible first|refine zz ?_|refine And.intro (by omega) ?_|refine ze ?_ (by simp -dsimp[B9,hs];exact rfl)|refine zE [0,1,2,3,4,5,6,7,8,9,10,11,12,13,14,16,18,29,32,46] ?_)|simp -dsimp[B9,hs]|with_reducible show B9 _ _ _ _ _ _ _ _;simp -dsimp[B9,hs]|refine i9 ?_ ?_<;>intro h<;>try simp only[i7] at h
  all_goals try clear hs
  obtain⟨L,hL1⟩:∃ L,L=Y9 d i w p.prints++[aW d i w p.prints]:=⟨_,rfl⟩
  have hE:aE d i w p.prints=(q8 (j7 L)).drop (H9 (fun x=>decide (aW d i w p.prints=x)) (q8 (j7 L))).toNat:=by rw[hL1];rfl
  have hv:aW d i w p.prints∈L:=by rw[hL1];simp
  generalize aW d i w p.prints=v at *
  have hLn:(Y9 d i w p.prints).length+1=L.length:=by rw[hL1];simp
  have hLi:l8 ((Y9 d i w p.prints).map encI)++[[DC.im (IC.raw (Value.int .i64 v))]]=l8 (L.map encI):=by rw[hL1];simp[fa,l8]
  rw[hE]
  clear hL1 hE
  generalize Y9 d i w p.prints=Q at *
  have c1:=hS L (g+1) 1 false (.inl rfl) (by omega)
  have hil:=L4 L
  have c2:=no (G:=G) (j7 L) (g+1) (by omega)
  have hdl:=af (j7 L)
  rw[hil] at c2
  have c3:=pV (G:=G) (q8 (j7 L)) v (by omega)
  have hs:True:=trivial
  rw[hLi]
  simp only[hLn]
  have hs:=za hR1 (za hR2 (za hR3 (za hlt (za hLn hLi))))
  repeat' first|(with_reducible first|refine zz ?_|refine zE [0,1,2,3,4,5,6,7,8,9,10,11,12,13,14,16,18,29,32,46] ?_)|simp -dsimp[hs]|refine CallE.embed [4] (c1) ?_ ?_ ?_ ?_ ?_ ?_;(focus simp[u3];done);(focus simp;done);(focus simp;done);(focus simp;done);(focus refine n7 ?_;simp[u3,p9];done);try simp -dsimp[n5,u3,hs]|refine CallE.embed_ex [4] (c2) ?_ ?_ ?_ ?_ ?_ ?_;(focus simp[u3];done);(focus simp;done);(focus simp;done);(focus simp;done);(focus refine n7 ?_;simp[u3,p9];done);intro mma hmma;try simp -dsimp[n5,u3,hs]
  all_goals try clear hs
  obtain⟨ha1,ha2⟩:=hmma
  clear c1 c2
  generalize hD:q8 (j7 L)=D at *
  have hdm:D.length≤mma.length:=by omega
  have hfi:=qc (fun x=>decide (v=x)) D
  have hvd:D.any (fun x=>decide (v=x))=true:=by
   rw[List.any_eq_true]
   refine⟨v,?_,by simp⟩
   rw[← hD,fj]
   exact isort_mem.2 hv
  rw[← A2] at hvd
  have hf0:0≤H9 (fun x=>decide (v=x)) D:=of_decide_eq_true hvd
  obtain⟨f,hf⟩:=Int.eq_ofNat_of_zero_le hf0
  rw[hf] at c3 hfi
  have hfd:f≤D.length:=by
   rcases hfi with h|h
   ·omega
   ·rw[h] at hf;simp[H9] at hf
  rw[hf,Int.toNat_natCast]
  have htk:(l8 (mma.map encI)).take D.length=l8 (D.map encI):=by rw[show (l8 (mma.map encI)).take D.length=l8 ((mma.map encI).take D.length) by simp[l8,List.map_take],← List.map_take,ha2]
  have hs:True:=trivial
  all_goals try simp -dsimp[hR1,hR2,hR3,htk,hdm,hfd,ha1,hs]
  all_goals try clear hs
  have hdL:D.length≤L.length:=by omega
  have htd:List.take (D.length-f) (List.drop f (l8 (mma.map encI)))=l8 ((D.drop f).map encI):=by
   rw[← List.drop_take,htk];simp[l8,List.map_drop]
  refine CallE.thaw c3 ?_ ?_ ?_
  ·simp[htk,hdm,hfd,ha1,hdL]
  ·simp
  simp -dsimp[htk,hdm,hfd,ha1]
  have hs:=za hR1 (za hR2 (za hR3 (za htk (za hdm (za hfd (za ha1 (za hdL htd)))))))
  repeat' first|(with_reducible first|refine zz ?_|refine zr ?_)|simp -dsimp[hs]
  all_goals try clear hs
attribute [simp] u5 A1
noncomputable def O1 (p:Prints) (d i w:Int):List Int:=if R8 p d 1 i w=0 then aE d i w p.prints else []
theorem yf (p:Prints) (d i w:Int) (hG:o4 G) (hN:D6 G) (hS:u7 G) (hR:w0 G) (hk:KP p):zP prog G 60 [D7 p,iv d,iv i,iv w] (.tup [r8 (O1 p d i w),iv (R8 p d 1 i w)]):=by
 refine zf func60 ntmps60 ?_
 try simp only[iv,iv,iv]
 have c1:=yi p d 1 i w hG hN hS hR hk
 have c2:=By p d i w hS (by have:=hk.p.q;omega)
 by_cases h0:R8 p d 1 i w=0
 ·have hW:O1 p d i w=aE d i w p.prints:=by unfold O1;rw[if_pos h0]
  simp only[dF,h0,if_true] at c1
  rw[hW,h0]
  simp only[l6] at c1 c2
  have c1':=c1 []
  simp only[D7,p8,r8,iv,List.map_cons,List.map_nil,encI,rI] at c1'
  have hs:=trivial
  repeat' first|(with_reducible first|refine zz ?_|refine zr ?_|refine zE [0,1,2,3,4,8,9,10,11,22] ?_)|simp -dsimp[hs]|refine CallE.freeze 0 c1' ?_ ?_ ?_ ?_ ?_ ?_;(focus simp;done);(focus simp;done);(focus simp;done);(focus rfl);(focus simp;done);try simp -dsimp[u5]|refine zp c2 ?_|refine i9 ?_ ?_<;>intro h<;>try simp only[i7] at h
 ·have hW:O1 p d i w=[]:=by unfold O1;rw[if_neg h0]
  simp only[dF,h0,if_false] at c1
  rw[hW]
  have c1':=c1 []
  simp only[D7,p8,r8,iv,List.map_cons,List.map_nil,encI,rI] at c1'
  have hs:=h0
  repeat' first|(with_reducible first|refine zz ?_|refine zr ?_|refine zE [0,1,2,3,4,8,9,10,11,22] ?_)|simp -dsimp[hs]|refine CallE.freeze 0 c1' ?_ ?_ ?_ ?_ ?_ ?_;(focus simp;done);(focus simp;done);(focus simp;done);(focus rfl);(focus simp;done);try simp -dsimp[u5]|refine i9 ?_ ?_<;>intro h<;>try simp only[i7] at h
open Go Go.Ab
def Ef:Dim:=⟨0,0,0⟩
def cv (c:Chains) (x:Link):Dim:=((u9 c.reg c.lets x.drawing).dims[x.dim.toNat]?).getD Ef
structure OkC (c:Chains):Prop where
 reg:j9 c.reg=0
 lets:r7 c.reg c.lets=true
 of:c.of∈nums c.reg
 num:1≤c.loops.length∧c.loops.length≤6
 gap:∀ x∈c.loops,x.links.length≤8∧qz x=true
 link:∀ x∈c.loops,∀ y∈x.links,y.drawing∈nums c.reg∧0≤y.dim∧y.dim<(u9 c.reg c.lets y.drawing).dims.length
def aK (c:Chains) (x:ChLoop):List Dim:=x.links.map (cv c)
def W0 (high:Bool) (x:Link) (d:Dim):Int:=if high != x.back then d.upper else d.lower
def pr (x:Link) (n:Int):Int:=if x.back then -n else n
def qg (links:List Link) (l:List Dim) (high:Bool):List Int:=(links.zip l).map fun p=>W0 high p.1 p.2
def gu (links:List Link) (l:List Dim) (high:Bool):Int:=(links.zip l).foldl (fun s p=>s+pr p.1 (W0 high p.1 p.2)) 0
theorem qn {c:Chains} (h:OkC c) {x:ChLoop} (hx:x∈c.loops) {y:Link} (hy:y∈x.links):I5 (cv c y)=true∧(u9 c.reg c.lets y.drawing).dims[y.dim.toNat]?=some (cv c y):=by
 obtain⟨h1,h2,h3⟩:=h.link x hx y hy
 obtain⟨hm,_⟩:=dI h.reg h.lets h1
 have hok:=(J9 (H5 (G1 h.reg))).2.2.2.1 _ hm
 have hlt:y.dim.toNat<(u9 c.reg c.lets y.drawing).dims.length:=by omega
 have he:(u9 c.reg c.lets y.drawing).dims[y.dim.toNat]?=some (u9 c.reg c.lets y.drawing).dims[y.dim.toNat]:=by simp[hlt]
 have hd:cv c y=(u9 c.reg c.lets y.drawing).dims[y.dim.toNat]:=by rw[cv,he,Option.getD_some]
 simp only[n4,Bool.and_eq_true] at hok
 rw[hd]
 exact⟨List.all_eq_true.1 hok.2 _ (List.getElem_mem hlt),he⟩
def dz (l:List Itm) (d:Int):Int:=match l with
 | []=>0
 | y :: r=>if y.drawing=d then y.count else dz r d
theorem CZ {high:Bool} {x:Link} {d:Dim} (h:I5 d=true):0≤W0 high x d∧W0 high x d≤1000000000:=by
 have:=(Y5 d).1 h
 unfold W0;split<;>omega
theorem Em {high:Bool} {x:Link} {d:Dim} (h:I5 d=true):-1000000000≤pr x (W0 high x d)∧pr x (W0 high x d)≤1000000000:=by
 have:=CZ (high:=high) (x:=x) h
 unfold pr;split<;>omega
theorem pm {c:Chains} (h:OkC c) {n:Nat} (hn:n<c.loops.length):(aK c c.loops[n]).length=c.loops[n].links.length∧∀ d∈aK c c.loops[n],I5 d=true:=by
 refine⟨by simp[aK],fun d hd=>?_⟩
 obtain⟨y,hy,rfl⟩:=List.mem_map.1 hd
 exact(qn h (List.getElem_mem hn) hy).1
theorem nn (c:Chains):∃ X,ay c=.one (.im X):=by unfold ay;split<;>exact⟨_,rfl⟩
def D9 (c:Chains) (n:Int):Int:=if A4 c≠0 then A4 c else if 0≤n∧n<c.loops.length then 0 else 2
theorem Ct (c:Chains) (n:Int) (hG:o4 G) (hC:J0 G) (hs:iN c):zP prog G 212 [Ao c,iv n] (.tup [ay c,iv (D9 c n)]):=by
 refine zf func212 ntmps212 ?_
 try simp only[Ao,iv]
 have c1:=As c hG hC hs
 have hl:=hs.2.2.1
 have hw:IntKind.i64.wrap ((c.loops.length:Int)-1)=(c.loops.length:Int)-1:=n8 (by omega) (by omega)
 have c2:=bl (G:=G) 0 ((c.loops.length:Int)-1) [n] (by simp)
 have hE:D9 c n=if A4 c≠0 then A4 c else if 0≤n∧n<c.loops.length then 0 else 2:=rfl
 obtain⟨X,hX⟩:=nn c
 rw[hX]
 rw[hX] at c1
 by_cases h0:A4 c=0
 ·rw[h0] at c1 hE
  by_cases hr:0≤n∧n<c.loops.length
  ·have hq:([n].all fun x=>decide (0≤x)&&decide (x≤(c.loops.length:Int)-1))=true:=by simp;omega
   rw[hq] at c2
   have hs:=hw
   repeat' first|(with_reducible first|refine zz ?_|refine zr ?_|refine zE [0,1,2,4,5,6,7,24] ?_)|simp -dsimp[hs]|refine zp c1 ?_|refine zt c2 ?_ ?_ ?_;(focus simp;done);focus (simp;done)|refine i9 ?_ ?_<;>intro h<;>try simp only[i7] at h
   all_goals try clear hs
   simp[hE,hr]
  ·have hq:([n].all fun x=>decide (0≤x)&&decide (x≤(c.loops.length:Int)-1))=false:=by simp;omega
   rw[hq] at c2
   have hs:=hw
   repeat' first|(with_reducible first|refine zz ?_|refine zr ?_|refine zE [0,1,2,4,5,6,7,24] ?_)|simp -dsimp[hs]|refine zp c1 ?_|refine zt c2 ?_ ?_ ?_;(focus simp;done);focus (simp;done)|refine i9 ?_ ?_<;>intro h<;>try simp only[i7] at h
   all_goals try clear hs
   simp[hE,hr]
 ·have hs:=h0
  repeat' first|(with_reducible first|refine zz ?_|refine zr ?_|refine zE [0,1,2,4,5,6,7,24] ?_)|simp -dsimp[hs]|refine zp c1 ?_|refine i9 ?_ ?_<;>intro h<;>try simp only[i7] at h
  all_goals try clear hs
  simp[hE,h0]
theorem Ck (d k:Int):zP prog G 215 [C7 d k] (bv false):=by
 refine zf func215 ntmps215 ?_
 try simp only[C7]
 repeat' first|(with_reducible first|refine zz ?_|refine zx ?_|refine zE [0,2] ?_)|simp -dsimp
theorem Ek (x:Link):zP prog G 263 [yS x] (C7 x.drawing x.dim):=by
 refine zf func263 ntmps263 ?_
 try simp only[yS]
 repeat' first|(with_reducible first|refine zz ?_|refine zx ?_|refine zE [0,1,2] ?_)|simp -dsimp
def eV:IC:=.fn (.func 215) []
theorem yj (c:Chains) (D:List (Int×Int)) (n:Nat) (hn:n<c.loops.length) (h:OkC c):zP prog G 214 [.one (.im (J4 c D (aH c.reg c.lets))),iv (n:Int),iv 0,.one (.im eV)] (.one (.im (.sl ((aK c c.loops[n]).map E0)))):=by
 refine zf func214 ntmps214 ?_
 try simp only[iv,iv]
 have hx:c.loops[n]?=some c.loops[n]:=by simp[hn]
 have hln:=h.gap c.loops[n] (List.getElem_mem hn)
 have hok:=fun y hy=>qn h (List.getElem_mem hn) (y:=y) hy
 have hlk:=h.link c.loops[n] (List.getElem_mem hn)
 have hE:aK c c.loops[n]=c.loops[n].links.map (cv c):=rfl
 simp only[J4,eV]
 have hs:=za hx hn
 repeat' first|(with_reducible first|refine zz ?_|refine zE [0,1,2,3,8,9,11,12,21,22,23,24,42] ?_)|simp -dsimp[hs]
 generalize hls:c.loops[n].links=ls at *
 refine i6 (ι:={ p:Nat×Nat×Bool×List Dim // p.1≤ls.length∧p.2.2.2=(ls.take p.1).map (cv c) }) (fun p=>⟨52,[(0,.one (.im (J4 c D (aH c.reg c.lets)))),(2,iv 0),(3,.one (.im eV)),(9,.one (.vec 1 p.1.2.1 0 p.1.2.2.2.length)),(21,.one (.im (.sl (ls.map F9)))),(22,iv (ls.length:Int)),(23,iv (p.1.1:Int))],[.vec 3 [] 0 true,.vec 3 (l8 (p.1.2.2.2.map E0)) p.1.2.1 p.1.2.2.1]⟩) (fun p=>ls.length-p.1.1) ⟨(0,0,true,[]),by simp⟩ (zv [0,2,3,9,21,22,23] (by simp[J4,eV])) ?_
 rintro⟨⟨k,g,nl,out⟩,hk,ho⟩
 simp only at hk ho
 simp only[iv,J4,eV]
 have hol:out.length=k:=by rw[ho];simp;omega
 by_cases hlt:k<ls.length
 ·have hy:ls[k]?=some ls[k]:=by simp[hlt]
  have hw:=zk k
  obtain⟨l1,l2,l3⟩:=hlk ls[k] (List.getElem_mem hlt)
  obtain⟨_,he⟩:=hok ls[k] (List.getElem_mem hlt)
  have hlook:I7 (aH c.reg c.lets) ls[k].drawing=u9 c.reg c.lets ls[k].drawing:=by rw[aH,T5,if_pos l1]
  obtain⟨j,hj⟩:∃ j:Nat,ls[k].dim=j:=⟨ls[k].dim.toNat,by omega⟩
  rw[hj,Int.toNat_natCast] at he
  have hjl:=e7 he
  have hje:=(List.getElem?_eq_some_iff.1 he).2
  have c2:=Ek (G:=G) ⟨ls[k].drawing,j,ls[k].back⟩
  have c3:=Ck (G:=G) ls[k].drawing j
  simp only[C7] at c2 c3
  have hon:out++[cv c ls[k]]=(ls.take (k+1)).map (cv c):=by rw[List.take_succ_eq_append_getElem hlt,List.map_append,ho];rfl
  have hs:=za hy (za hw (za hlt (za hlook (za hj (za hjl (za he hje))))))
  repeat' first|(with_reducible first|refine zz ?_|refine And.intro (by omega) ?_)|simp -dsimp[hs]|refine zp c2 ?_|refine zp c3 ?_|refine G7 (id:=5) (nt:=52) 13 [] [0,1,2,3,8,9,11,12,21,22,23,24,27,28,29,30,31,32,33,34,35,36,37,38,42] [0,1,2,3,8,9,11,12,21,22,23,24,42] mixed rfl (by kernel_rfl) ?_|with_reducible refine zE [0,1,2,3,8,9,11,12,21,22,23,24,42] ?_|refine i9 ?_ ?_<;>intro h<;>try simp only[i7] at h
  all_goals try omega
  exact zn ⟨(k+1,g+1,false,out++[cv c ls[k]]),by omega,hon⟩ (zw [0,2,3,9,21,22,23] 2 (by simp[J4,eV]))
 ·have hs:=hlt
  repeat' first|(with_reducible first|refine zz ?_|refine zr ?_|refine zE [0,1,2,3,8,9,11,12,21,22,23,24,42] ?_)|simp -dsimp[hs]|refine i9 ?_ ?_<;>intro h<;>try simp only[i7] at h
  all_goals try omega
  rw[hE,ho,List.take_of_length_le (by omega)]
theorem yp (c:Chains) (D:List (Int×Int)) (B:List (Int×Issue)) (n:Nat) (hn:n<c.loops.length) (l:List Dim) (high:Bool) (hl:c.loops[n].links.length≤12) (he:l.length=c.loops[n].links.length) (hd:∀ d∈l,I5 d=true):zP prog G 262 [.one (.im (J4 c D B)),iv (n:Int),.one (.im (.sl (l.map E0))),bv high] (.tup [r8 (qg c.loops[n].links l high),iv (gu c.loops[n].links l high)]):=by
 refine zf func262 ntmps262 ?_
 try simp only[iv,bv]
 have hxn:c.loops[n]?=some c.loops[n]:=by simp[hn]
 simp only[J4]
 have hs:=za hxn hn
 repeat' first|(with_reducible first|refine zz ?_|refine zE [0,1,2,3,8,9,10,11,12,13,14,15,24,25,26,27,37,41] ?_)|simp -dsimp[hs]
 all_goals try clear hs
 generalize c.loops[n].links=ls at *
 refine i6 (ι:={ p:Nat×Nat×Bool×List Int×Int // p.1≤ls.length∧p.2.2.2.1.length=p.1∧qg ls l high=p.2.2.2.1++((ls.zip l).drop p.1).map (fun q=>W0 high q.1 q.2)∧gu ls l high=((ls.zip l).drop p.1).foldl (fun s q=>s+pr q.1 (W0 high q.1 q.2)) p.2.2.2.2∧-1000000000*(p.1:Int)≤p.2.2.2.2∧p.2.2.2.2≤1000000000*(p.1:Int) }) (fun p=>⟨59,[(2,.one (.im (.sl (l.map E0)))),(3,bv high),(10,iv p.1.2.2.2.2),(11,.one (.vec 1 p.1.2.1 0 p.1.2.2.2.1.length)),(24,.one (.im (.sl (ls.map F9)))),(25,iv (ls.length:Int)),(26,iv (p.1.1:Int))],[.vec 1 [] 0 true,.vec 1 (l8 (p.1.2.2.2.1.map encI)) p.1.2.1 p.1.2.2.1]⟩) (fun p=>ls.length-p.1.1) ⟨(0,0,true,[],0),by simp[qg,gu]⟩ (zv [2,3,10,11,24,25,26]) ?_
 rintro⟨⟨k,g,nl,out,s⟩,hk,hol,ho,hs,hb1,hb2⟩
 simp only at hk hol ho hs hb1 hb2
 simp only[iv,bv]
 by_cases hlt:k<ls.length
 ·have hkl:k<l.length:=by omega
  have hx:ls[k]?=some ls[k]:=by simp[hlt]
  have hy:l[k]?=some l[k]:=by simp[hkl]
  have hw:=zk k
  have hz:k<(ls.zip l).length:=by simp;omega
  rw[List.drop_eq_getElem_cons hz,List.getElem_zip,List.map_cons] at ho
  rw[List.drop_eq_getElem_cons hz,List.getElem_zip,List.foldl_cons] at hs
  have hdk:=hd l[k] (List.getElem_mem hkl)
  have hdl:=(Y5 _).1 hdk
  have hsb:=Em (high:=high) (x:=ls[k]) hdk
  have hws:IntKind.i64.wrap (s+pr ls[k] (W0 high ls[k] l[k]))=s+pr ls[k] (W0 high ls[k] l[k]):=n8 (by omega) (by omega)
  have hon:qg ls l high=(out++[W0 high ls[k] l[k]])++((ls.zip l).drop (k+1)).map (fun q=>W0 high q.1 q.2):=by rw[ho];simp
  have hwl:IntKind.i64.wrap (-l[k].lower)=-l[k].lower:=n8 (by omega) (by omega)
  have hwu:IntKind.i64.wrap (-l[k].upper)=-l[k].upper:=n8 (by omega) (by omega)
  have hwl1:IntKind.i64.wrap l[k].lower=l[k].lower:=n8 (by omega) (by omega)
  have hwu1:IntKind.i64.wrap l[k].upper=l[k].upper:=n8 (by omega) (by omega)
  have hfin:k+1≤ls.length∧(out++[W0 high ls[k] l[k]]).length=k+1∧qg ls l high=(out++[W0 high ls[k] l[k]])++((ls.zip l).drop (k+1)).map (fun q=>W0 high q.1 q.2)∧gu ls l high=((ls.zip l).drop (k+1)).foldl (fun s q=>s+pr q.1 (W0 high q.1 q.2)) (s+pr ls[k] (W0 high ls[k] l[k]))∧-1000000000*((k+1:Nat):Int)≤s+pr ls[k] (W0 high ls[k] l[k])∧s+pr ls[k] (W0 high ls[k] l[k])≤1000000000*((k+1:Nat):Int):=⟨by omega,by simp;omega,hon,hs,by omega,by omega⟩
  cases hbk:ls[k].back<;>cases high
  all_goals have hN:∀ h,W0 h ls[k] l[k]=if h != ls[k].back then l[k].upper else l[k].lower:=fun _=>rfl
  all_goals have hS:∀ n,pr ls[k] n=if ls[k].back then -n else n:=fun _=>rfl
  all_goals simp only[hN,hS,hbk,bne_self_eq_false,Bool.false_eq_true,if_false,if_true,Bool.true_bne,Bool.false_bne,Bool.not_false] at hws hfin
  all_goals clear hN hS
  ·have hs:=za hx (za hy (za hw (za hlt (za hkl (za hbk (za hws (za hwl1 hwu1)))))))
   repeat' first|(with_reducible first|refine zz ?_|refine And.intro (by omega) ?_|refine zE [0,1,2,3,8,9,10,11,12,13,14,15,24,25,26,27,37,41] ?_)|simp -dsimp[hs]|refine i9 ?_ ?_<;>intro h<;>try simp only[i7] at h
   all_goals try clear hs
   all_goals try omega
   exact zn ⟨(k+1,g+1,false,out++[l[k].lower],s+l[k].lower),hfin⟩ (zw [2,3,10,11,24,25,26] 2)
  ·have hs:=za hx (za hy (za hw (za hlt (za hkl (za hbk (za hws (za hwl1 hwu1)))))))
   repeat' first|(with_reducible first|refine zz ?_|refine And.intro (by omega) ?_|refine zE [0,1,2,3,8,9,10,11,12,13,14,15,24,25,26,27,37,41] ?_)|simp -dsimp[hs]|refine i9 ?_ ?_<;>intro h<;>try simp only[i7] at h
   all_goals try clear hs
   all_goals try omega
   exact zn ⟨(k+1,g+1,false,out++[l[k].upper],s+l[k].upper),hfin⟩ (zw [2,3,10,11,24,25,26] 2)
  ·have hs:=za hx (za hy (za hw (za hlt (za hkl (za hbk (za hws (za hwl hwu)))))))
   repeat' first|(with_reducible first|refine zz ?_|refine And.intro (by omega) ?_|refine zE [0,1,2,3,8,9,10,11,12,13,14,15,24,25,26,27,37,41] ?_)|simp -dsimp[hs]|refine i9 ?_ ?_<;>intro h<;>try simp only[i7] at h
   all_goals try clear hs
   all_goals try omega
   exact zn ⟨(k+1,g+1,false,out++[l[k].upper],s + -l[k].upper),hfin⟩ (zw [2,3,10,11,24,25,26] 2)
  ·have hs:=za hx (za hy (za hw (za hlt (za hkl (za hbk (za hws (za hwl hwu)))))))
   repeat' first|(with_reducible first|refine zz ?_|refine And.intro (by omega) ?_|refine zE [0,1,2,3,8,9,10,11,12,13,14,15,24,25,26,27,37,41] ?_)|simp -dsimp[hs]|refine i9 ?_ ?_<;>intro h<;>try simp only[i7] at h
   all_goals try clear hs
   all_goals try omega
   exact zn ⟨(k+1,g+1,false,out++[l[k].lower],s + -l[k].lower),hfin⟩ (zw [2,3,10,11,24,25,26] 2)
 ·rw[List.drop_eq_nil_of_le (by simp;omega)] at ho hs
  have hs:=hlt
  repeat' first|(with_reducible first|refine zz ?_|refine zr ?_|refine zE [0,1,2,3,8,9,10,11,12,13,14,15,24,25,26,27,37,41] ?_)|simp -dsimp[hs]|refine i9 ?_ ?_<;>intro h<;>try simp only[i7] at h
  all_goals try clear hs
  all_goals try omega
  rw[ho,hs];simp
theorem yl (c:Chains) (D:List (Int×Int)) (B:List (Int×Issue)) (n:Nat) (hn:n<c.loops.length) (l:List Dim) (hl:c.loops[n].links.length≤12) (he:l.length=c.loops[n].links.length) (hd:∀ d∈l,I5 d=true):zP prog G 213 [.one (.im (J4 c D B)),iv (n:Int),.one (.im (.sl (l.map E0)))] (C7 (gu c.loops[n].links l false) (gu c.loops[n].links l true)):=by
 refine zf func213 ntmps213 ?_
 try simp only[iv]
 have c2:=yp (G:=G) c D B n hn l false hl he hd
 have c3:=yp (G:=G) c D B n hn l true hl he hd
 repeat' first|(with_reducible first|refine zz ?_|refine zx ?_|refine zE [0,1,2,6,8,10] ?_)|simp -dsimp|refine zp c2 ?_|refine zp c3 ?_
def Ie (c:Chains) (n:Int):Int:=match c.loops[n.toNat]? with|some x=>gu x.links (aK c x) false|none=>0
def Ij (c:Chains) (n:Int):Int:=match c.loops[n.toNat]? with|some x=>gu x.links (aK c x) true|none=>0
def Bt (c:Chains) (n:Int):Int:=if D9 c n=0 then Ie c n else 0
def Bu (c:Chains) (n:Int):Int:=if D9 c n=0 then Ij c n else 0
theorem yq (c:Chains) (n:Int) (hG:o4 G) (hC:J0 G) (hs:iN c) (hok:A4 c=0→OkC c):zP prog G 167 [Ao c,iv n] (.tup [C7 (Bt c n) (Bu c n),iv (D9 c n)]):=by
 refine zf func167 ntmps167 ?_
 try simp only[Ao,iv]
 have c1:=Ct c n hG hC hs
 by_cases hE:D9 c n=0
 ·have h0:A4 c=0:=by
   by_cases h:A4 c=0
   ·exact h
   ·simp[D9,h] at hE
  have hr:0≤n∧n<c.loops.length:=Classical.byContradiction fun h=>by simp[D9,h0,h] at hE
  obtain⟨k,rfl⟩:∃ k:Nat,n=k:=⟨n.toNat,by omega⟩
  have hk:k<c.loops.length:=by omega
  have h:=hok h0
  have hx:c.loops[k]?=some c.loops[k]:=by simp[hk]
  have c2:=yj (G:=G) c (R4 c) k hk h
  obtain⟨hsl,hsd⟩:=pm h hk
  have hln:=(h.gap c.loops[k] (List.getElem_mem hk)).1
  have c3:=yl (G:=G) c (R4 c) (aH c.reg c.lets) k hk (aK c c.loops[k]) (by omega) hsl hsd
  have h1:Ie c (k:Int)=gu c.loops[k].links (aK c c.loops[k]) false:=by simp only[Ie,Int.toNat_natCast,hx]
  have h2:Ij c (k:Int)=gu c.loops[k].links (aK c c.loops[k]) true:=by simp only[Ij,Int.toNat_natCast,hx]
  rw[← h1,← h2] at c3
  rw[hE] at c1
  simp only[ay,h0,if_true,J4] at c1
  rw[Bt,Bu,if_pos hE,if_pos hE]
  simp only[J4,eV,C7] at c2 c3
  have hs:=trivial
  repeat' first|(with_reducible first|refine zz ?_|refine zr ?_|refine zE [0,1,2,4,5,6,7,15] ?_)|simp -dsimp[hs]|refine zp c1 ?_|refine zp c2 ?_|refine zp c3 ?_|refine i9 ?_ ?_<;>intro h<;>try simp only[i7] at h
  all_goals try clear hs
  all_goals simp[hE]
 ·obtain⟨X,hX⟩:=nn c
  rw[hX] at c1
  rw[Bt,Bu,if_neg hE,if_neg hE]
  have hs:=hE
  repeat' first|(with_reducible first|refine zz ?_|refine zr ?_|refine zE [0,1,2,4,5,6,7,15] ?_)|simp -dsimp[hs]|refine zp c1 ?_|refine i9 ?_ ?_<;>intro h<;>try simp only[i7] at h
  all_goals try clear hs
theorem nj (h1:Bool):∀ (q:List (Link×Dim)) (a b:Int),(∀ p∈q,I5 p.2=true)→a≤b→q.foldl (fun s p=>s+pr p.1 (W0 false p.1 p.2)) a≤q.foldl (fun s p=>s+pr p.1 (W0 true p.1 p.2)) b
 | [],a,b,_,h=>h
 | p :: q,a,b,hd,h=>by
   rw[List.foldl_cons,List.foldl_cons]
   refine nj h1 q _ _ (fun p hp=>hd p (by simp[hp])) ?_
   have hp:=(Y5 _).1 (hd p (by simp))
   have:pr p.1 (W0 false p.1 p.2)≤pr p.1 (W0 true p.1 p.2):=by
    unfold pr W0
    cases p.1.back<;>simp<;>omega
   omega
theorem Hm {ls:List Link} {l:List Dim} (hd:∀ d∈l,I5 d=true):gu ls l false≤gu ls l true:=
 nj true _ 0 0 (fun _ hp=>hd _ (List.of_mem_zip hp).2) (Int.le_refl _)
def Jh (c:Chains) (n:Int):Int:=match c.loops[n.toNat]? with
 | some x=>if x.lo≤Bt c n∧Bu c n≤x.hi then 2 else if Bu c n<x.lo∨x.hi<Bt c n then 0 else 1
 | none=>0
def L6 (c:Chains) (n:Int):Int:=if D9 c n=0 then Jh c n else 0
def xB (n:Int):DV:=.one (.im (.raw (.int .u8 n)))
attribute [simp] xB
theorem iY {c:Chains} {n:Int} (h:D9 c n=0):A4 c=0∧∃ k:Nat,n=k∧k<c.loops.length:=by
 have h0:A4 c=0:=by
  by_cases h':A4 c=0
  ·exact h'
  ·simp[D9,h'] at h
 have hr:0≤n∧n<c.loops.length:=Classical.byContradiction fun h'=>by simp[D9,h0,h'] at h
 exact⟨h0,n.toNat,by omega,by omega⟩
theorem xZ {c:Chains} {n:Int} (h:D9 c n=0) (hok:A4 c=0→OkC c):Bt c n≤Bu c n:=by
 obtain⟨h0,k,rfl,hk⟩:=iY h
 have hx:c.loops[k]?=some c.loops[k]:=by simp[hk]
 obtain⟨hsl,hsd⟩:=pm (hok h0) hk
 rw[Bt,Bu,if_pos h,if_pos h]
 simp only[Ie,Ij,Int.toNat_natCast,hx]
 exact Hm hsd
theorem mH (c:Chains) (n:Int) (hG:o4 G) (hC:J0 G) (hs:iN c) (hok:A4 c=0→OkC c):zP prog G 103 [Ao c,iv n] (.tup [xB (L6 c n),iv (D9 c n)]):=by
 refine zf func103 ntmps103 ?_
 try simp only[Ao,iv]
 have c1:=yq c n hG hC hs hok
 by_cases hE:D9 c n=0
 ·have hle:=xZ hE hok
  obtain⟨h0,k,rfl,hk⟩:=iY hE
  have hx:c.loops[k]?=some c.loops[k]:=by simp[hk]
  have hK:L6 c (k:Int)=if c.loops[k].lo≤Bt c (k:Int)∧Bu c (k:Int)≤c.loops[k].hi then 2 else if Bu c (k:Int)<c.loops[k].lo∨c.loops[k].hi<Bt c (k:Int) then 0 else 1:=by simp only[L6,Jh,Int.toNat_natCast,hx,if_pos hE]
  generalize Bt c (k:Int)=a at *
  generalize Bu c (k:Int)=b at *
  have c2:=bl (G:=G) c.loops[k].lo c.loops[k].hi [a,b] (by simp)
  simp only[C7,hE] at c1
  by_cases hin:c.loops[k].lo≤a∧b≤c.loops[k].hi
  ·have hq:([a,b].all fun x=>decide (c.loops[k].lo≤x)&&decide (x≤c.loops[k].hi))=true:=by simp;omega
   rw[if_pos hin] at hK
   rw[hq] at c2
   have hs:=za hx hk
   repeat' first|(with_reducible first|refine zz ?_|refine zr ?_|refine zE [0,1,2,4,5,6,7,8,16,24,35] ?_)|simp -dsimp[hs]|refine zp c1 ?_|refine zt c2 ?_ ?_ ?_;(focus simp;done);focus (simp;done)|refine i9 ?_ ?_<;>intro h<;>try simp only[i7] at h
   all_goals try clear hs
   all_goals simp[hK,hE]
  ·have hq:([a,b].all fun x=>decide (c.loops[k].lo≤x)&&decide (x≤c.loops[k].hi))=false:=by simp;omega
   rw[if_neg hin] at hK
   rw[hq] at c2
   have hs:=za hx hk
   repeat' first|(with_reducible first|refine zz ?_|refine zr ?_|refine zE [0,1,2,4,5,6,7,8,16,24,35] ?_)|simp -dsimp[hs]|refine zp c1 ?_|refine zt c2 ?_ ?_ ?_;(focus simp;done);focus (simp;done)|refine i9 ?_ ?_<;>intro h<;>try simp only[i7] at h
   all_goals try clear hs
   all_goals first
    | (exfalso;omega)
    | (rw[if_pos (by omega)] at hK;simp[hK,hE];done)
    | (rw[if_neg (by omega)] at hK;simp[hK,hE])
 ·have hK:L6 c n=0:=by simp[L6,hE]
  have hs:=hE
  repeat' first|(with_reducible first|refine zz ?_|refine zr ?_|refine zE [0,1,2,4,5,6,7,8,16,24,35] ?_)|simp -dsimp[hs]|refine zp c1 ?_|refine i9 ?_ ?_<;>intro h<;>try simp only[i7] at h
  all_goals try clear hs
  all_goals simp[hK]
end Go.Proofs
namespace Go.Proofs
open Go Go.Ab
theorem kY {l:List Issue} {lets:List Int} (h0:j9 l=0) (hlet:r7 l lets=true) {dep:Int→Int} (hdep:∀ n∈nums l,1≤dep n∧dep n≤6∧∀ c∈cG l n,c∈nums l∧dep c<dep n) :
 ∀ (k:Nat) (d m:Int),d∈nums l→∀ p∈N6 (u9 l lets) k d m,p.1∈nums l
 | 0,_,_,_,p,hp=>by cases hp
 | k+1,d,m,hd,p,hp=>by
   rw[N6] at hp
   split at hp
   ·rw[List.mem_singleton] at hp;rw[hp];exact hd
   ·obtain⟨y,hy,hp⟩:=List.mem_flatMap.1 hp
    have hc:=(hdep d hd).2.2 _ (kf h0 hlet hd y hy)
    exact kY h0 hlet hdep k _ _ hc.1 p hp
theorem nD {ns:List Int} (hnd:ns.Nodup):∀ (lv:List (Int×Int)) (m:List (Int×Int)),(∀ p∈lv,p.1∈ns)→FR ns (ns.map (l9 m)) lv=ns.map (l9 (jA m lv))
 | [],_,_=>rfl
 | p :: lv,m,h=>by
   have h1:=nD hnd lv (L8 p.1 (IntKind.i64.wrap (l9 m p.1+p.2)) m) fun q hq=>h q (by simp[hq])
   obtain⟨j,hj⟩:=List.mem_iff_getElem?.1 (h p (by simp))
   have he:FT ns (ns.map (l9 m)) p=ns.map (l9 (L8 p.1 (IntKind.i64.wrap (l9 m p.1+p.2)) m)):=by
    simp only[FT,lg hnd hj,Int.toNat_natCast,List.getElem?_map,hj,Option.map_some,Option.getD_some]
    rw[kN hnd hj]
    refine List.map_congr_left fun n _=>?_
    rw[Y4]
    by_cases e:n=p.1<;>simp[e]
   simp only[FR,jA,List.foldl_cons] at h1 ⊢
   rw[he];exact h1
theorem eM (f:Int→Int):∀ ns:List Int,((ns.zip (ns.map f)).filter fun p=>decide (0<p.2)).map (fun p=>(⟨p.1,p.2⟩:Itm))=(ns.filter fun n=>decide (0<f n)).map fun n=>⟨n,f n⟩
 | []=>rfl
 | n :: ns=>by
   simp only[List.map_cons,List.zip_cons_cons,List.filter_cons]
   by_cases h:0<f n
   ·simp only[h,decide_true,if_true,List.map_cons,eM f ns]
   ·simp only[h,decide_false,Bool.false_eq_true,if_false,eM f ns]
theorem pA {l:List Issue} {lets:List Int} {d:Int} (h0:j9 l=0) (hlet:r7 l lets=true) (hd:d∈nums l):kD l lets d=K3 (nums l) (mh l lets d):=by
 obtain⟨dep,hdep⟩:=qp h0
 have hnd:(nums l).Nodup:=(E5 h0).1.imp fun h=>Int.ne_of_lt h
 have h1:=nD hnd (N6 (u9 l lets) 6 d 1) [] (kY h0 hlet hdep 6 d 1 hd)
 have h2:(nums l).map (l9 [])=List.replicate (nums l).length 0:=jI (fun _=>rfl) _
 rw[h2] at h1
 have h3:HK l lets d=(nums l).map (l9 (mh l lets d)):=h1
 rw[kD,h3,eM];rfl
theorem kR:∀ (ps:List Itm) (m:List (Int×Int)) (d:Int),(ps.map (·.drawing)).Nodup→l9 (ps.foldl (fun m x=>L8 x.drawing x.count m) m) d=if d∈ps.map (·.drawing) then dz ps d else l9 m d
 | [],m,d,_=>by simp
 | y :: ps,m,d,h=>by
   rw[List.map_cons,List.nodup_cons] at h
   rw[List.foldl_cons,kR ps _ d h.2,Y4,dz]
   by_cases e:d=y.drawing
   ·subst e
    rw[if_neg h.1,if_pos rfl,if_pos (by simp),if_pos rfl]
   ·rw[if_neg e,if_neg (Ne.symm e)]
    by_cases hm:d∈ps.map (·.drawing)
    ·rw[if_pos hm,if_pos (by simp only[List.map_cons,List.mem_cons];exact .inr hm)]
    ·rw[if_neg hm,if_neg (by simp only[List.map_cons,List.mem_cons];exact fun h=>h.elim e hm)]
theorem dy:∀ (ps:List Itm) (d:Int),d∉ps.map (·.drawing)→dz ps d=0
 | [],_,_=>rfl
 | y :: ps,d,h=>by
   rw[List.map_cons,List.mem_cons,not_or] at h
   rw[dz,if_neg (Ne.symm h.1)];exact dy ps d h.2
def oN (ls:List Link) (d:Int):Nat:=(ls.filter fun y=>decide (y.drawing=d)).length
theorem ed (y:Link) (r:List Link) (d:Int):oN (y :: r) d=(if y.drawing=d then 1 else 0)+oN r d:=by
 unfold oN
 by_cases h:y.drawing=d
 ·rw[List.filter_cons_of_pos (by simpa using h),if_pos h,List.length_cons];omega
 ·rw[List.filter_cons_of_neg (by simpa using h),if_neg h];omega
theorem qv {ls:List Link} {y:Link} (h:y∈ls):1≤oN ls y.drawing:=
 List.length_pos_of_mem (List.mem_filter.2 ⟨h,by simp⟩)
theorem wx {ls:List Link} {d:Int} (h:∀ y∈ls,y.drawing≠d):oN ls d=0:=by
 unfold oN
 rw[List.filter_eq_nil_iff.2 fun y hy=>by simpa using h y hy];rfl
def ur (B:List (Int×Issue)) (y:Link):Bool:=decide (0≤y.dim)&&decide (y.dim≤((I7 B y.drawing).dims.length:Int)-1)
theorem jY (D:List (Int×Int)) (B:List (Int×Issue)):∀ (r:List Link) (U:List (Int×Int)),W4 D B U r=true↔∀ y∈r,ur B y=true∧l9 U y.drawing+oN r y.drawing≤l9 D y.drawing
 | [],U=>by simp[W4]
 | y :: r,U=>by
   have ih:=jY D B r (L8 y.drawing (l9 U y.drawing+1) U)
   have hu:W4 D B U (y :: r)=(decide (l9 U y.drawing+1≤l9 D y.drawing)&&ur B y&&W4 D B (L8 y.drawing (l9 U y.drawing+1) U) r):=rfl
   rw[hu,Bool.and_eq_true,Bool.and_eq_true,decide_eq_true_eq,ih]
   constructor
   ·rintro⟨⟨h1,h2⟩,h3⟩ z hz
    have key:∀ z∈r,ur B z=true∧l9 U z.drawing+oN (y :: r) z.drawing≤l9 D z.drawing:=fun z hz=>by
     obtain⟨a,b⟩:=h3 z hz
     rw[Y4] at b
     rw[ed]
     refine⟨a,?_⟩
     by_cases e:z.drawing=y.drawing
     ·rw[if_pos e] at b;rw[if_pos e.symm];rw[e] at b ⊢;omega
     ·rw[if_neg e] at b;rw[if_neg (Ne.symm e)];omega
    rcases List.mem_cons.1 hz with rfl|hz
    ·refine⟨h2,?_⟩
     by_cases hex:∃ w∈r,w.drawing=z.drawing
     ·obtain⟨w,hw,e⟩:=hex
      have:=(key w hw).2
      rw[e] at this;exact this
     ·rw[ed,if_pos rfl,wx fun w hw e=>hex ⟨w,hw,e⟩];omega
    ·exact key z hz
   ·intro h
    obtain⟨a,b⟩:=h y (by simp)
    rw[ed,if_pos rfl] at b
    refine⟨⟨by omega,a⟩,fun z hz=>?_⟩
    obtain⟨a',b'⟩:=h z (by simp[hz])
    refine⟨a',?_⟩
    rw[ed] at b'
    rw[Y4]
    by_cases e:z.drawing=y.drawing
    ·rw[if_pos e.symm,e] at b';rw[if_pos e,e];omega
    ·rw[if_neg (Ne.symm e)] at b';rw[if_neg e];omega
def od (c:Chains) (ls:List Link) (y:Link):Bool:=decide ((oN ls y.drawing:Int)≤dz (kD c.reg c.lets c.of) y.drawing)&&(decide (0≤y.dim)&&decide (y.dim≤((u9 c.reg c.lets y.drawing).dims.length:Int)-1))
def bN (c:Chains) (x:ChLoop):Bool:=td x&&qz x&&x.links.all (od c x.links)
theorem kE {c:Chains} {d:Int} (h0:j9 c.reg=0) (hlet:r7 c.reg c.lets=true) (hof:c.of∈nums c.reg) (hc:1≤dz (kD c.reg c.lets c.of) d):d∈nums c.reg:=by
 refine Classical.byContradiction fun hn=>?_
 rw[pA h0 hlet hof,dy] at hc
 ·omega
 ·intro hm
  simp only[K3,List.map_map] at hm
  obtain⟨n,h1,h2⟩:=List.mem_map.1 hm
  simp only[Function.comp] at h2
  exact hn (h2 ▸ (List.mem_filter.1 h1).1)
theorem vD {c:Chains} (h0:j9 c.reg=0) (hlet:r7 c.reg c.lets=true) (hof:c.of∈nums c.reg) (x:ChLoop):N5 (R4 c) (aH c.reg c.lets) x=bN c x:=by
 have hnd:(nums c.reg).Nodup:=(E5 h0).1.imp fun h=>Int.ne_of_lt h
 have hT:B1 c.reg c.lets c.of=0:=by simp[B1,h0,hlet,hof]
 have hD:∀ d,l9 (R4 c) d=dz (kD c.reg c.lets c.of) d:=fun d=>by
  rw[pA h0 hlet hof]
  have hE:bq c.reg c.lets c.of=K3 (nums c.reg) (mh c.reg c.lets c.of):=by rw[bq,if_pos hT]
  have hn:((K3 (nums c.reg) (mh c.reg c.lets c.of)).map (·.drawing)).Nodup:=by
   simp only[K3,List.map_map]
   have:(fun x:Itm=>x.drawing) ∘ (fun n=>(⟨n,l9 (mh c.reg c.lets c.of) n⟩:Itm))=id:=rfl
   rw[this,List.map_id]
   exact hnd.filter _
  rw[R4,hE,kR _ _ _ hn]
  split
  ·rfl
  ·rw[dy _ _ ‹_›];rfl
 unfold N5 bN
 congr 1
 rw[Bool.eq_iff_iff,jY,List.all_eq_true]
 refine forall_congr' fun y=>forall_congr' fun hy=>?_
 simp only[od,ur,Bool.and_eq_true,decide_eq_true_eq,hD]
 have hp:=qv hy
 have hz:l9 [] y.drawing=0:=rfl
 constructor
 ·rintro⟨h1,h2⟩
  have hm:=kE (d:=y.drawing) h0 hlet hof (by omega)
  rw[aH,T5,if_pos hm] at h1
  exact⟨by omega,h1⟩
 ·rintro⟨h1,h2⟩
  have hm:=kE (d:=y.drawing) h0 hlet hof (by omega)
  rw[aH,T5,if_pos hm]
  exact⟨h2,by omega⟩
theorem oP {c:Chains} (h0:j9 c.reg=0):A4 c=(if r7 c.reg c.lets=true∧c.of∈nums c.reg∧(1≤c.loops.length∧c.loops.length≤6)∧c.loops.all (bN c)=true then 0 else 60):=by
 unfold A4
 rw[if_neg (by simp[h0])]
 by_cases hlet:r7 c.reg c.lets=true
 ·by_cases hof:c.of∈nums c.reg
  ·have hT:B1 c.reg c.lets c.of=0:=by simp[B1,h0,hlet,hof]
   have hL:c.loops.all (N5 (R4 c) (aH c.reg c.lets))=c.loops.all (bN c):=by
    congr 1;exact funext fun x=>vD h0 hlet hof x
   rw[hL]
   by_cases hn:1≤c.loops.length∧c.loops.length≤6
   ·rw[if_neg (by simp[hT];omega)]
    by_cases ha:c.loops.all (bN c)=true
    ·rw[if_pos ha,if_pos ⟨hlet,hof,hn,ha⟩]
    ·rw[if_neg ha,if_neg fun h=>ha h.2.2.2]
   ·rw[if_pos (.inr hn),if_neg fun h=>hn h.2.2.1]
  ·have hT:B1 c.reg c.lets c.of≠0:=by simp[B1,h0,hlet,hof]
   rw[if_pos (.inl hT),if_neg fun h=>hof h.2.1]
 ·have hT:B1 c.reg c.lets c.of≠0:=by
   have:r7 c.reg c.lets=false:=by simpa using hlet
   simp[B1,h0,this]
  rw[if_pos (.inl hT),if_neg fun h=>hlet h.1]
theorem Jf {c:Chains} (h:A4 c=0):OkC c:=by
 have h0:j9 c.reg=0:=Classical.byContradiction fun h'=>by simp[A4,h'] at h
 rw[oP h0] at h
 split at h
 ·rename_i hc
  obtain⟨a,b,d,e⟩:=hc
  rw[List.all_eq_true] at e
  refine⟨h0,a,b,d,fun x hx=>?_,fun x hx y hy=>?_⟩
  ·have:=e x hx
   simp only[bN,td,Bool.and_eq_true,decide_eq_true_eq] at this
   exact⟨this.1.1.2,this.1.2⟩
  ·have:=e x hx
   simp only[bN,Bool.and_eq_true,List.all_eq_true] at this
   have:=this.2 y hy
   simp only[od,Bool.and_eq_true,decide_eq_true_eq] at this
   have hp:=qv hy
   exact⟨kE h0 a b (by omega),this.2.1,by omega⟩
 ·cases h
variable {G:GW}
end Go.Proofs
namespace Go.Ab
open Go
structure Spot where
 drawing:Int
 dim:Int
 deriving DecidableEq
def jN (x:Spot):List IC:=[rI x.drawing,rI x.dim]
def Ej (l:List Spot):DV:=.one (.im (.sl (l.map jN)))
attribute [simp] jN Ej
def tl (a b:Spot):Bool:=decide (a.drawing<b.drawing)||(decide (a.drawing=b.drawing)&&decide (a.dim<b.dim))
def zj (x:Spot):List Spot→Nat
 | []=>0
 | y :: r=>if tl y x then zj x r+1 else 0
def IL (x:Spot) (l:List Spot):List Spot:=l.take (zj x l)++x :: l.drop (zj x l)
def IX (f:Spot→Bool) (out:List Spot) (x:Spot):List Spot:=if f x=false∨x∈out then out else IL x out
def IW (f:Spot→Bool) (l:List Spot):List Spot:=l.foldl (IX f) []
def kS (x:Spot):List Value:=[.int .i64 x.drawing,.int .i64 x.dim]
def wm (l:List Spot):List (List Value×List DC):=l.map fun x=>(kS x,[.im (rB true)])
def DY (l:List Spot):List (List Value×List IC):=l.map fun x=>(kS x,[rB true])
@[simp] theorem IH (k n:Nat) (objs:List DObj) (l:List Spot):D8 (fun x:List Value×List DC=>(D8 (frz (k+1) n objs) x.2).map fun l=>(x.1,l)) (wm l)=some (DY l):=by
 induction l with
 | nil=>rfl
 | cons p r ih =>
   have e:wm (p :: r)=(kS p,[.im (rB true)]) :: wm r:=rfl
   rw[e]
   simp[D8,ih,DY]
@[simp] theorem Hj (n:Nat) (objs:List DObj) (l:List Spot):((wm l).map fun x=>(x.1,x.2.map (fz n objs)))=wm l:=by
 simp[wm,fz,DC.lt]
@[simp] theorem Hz (L:List Spot) (k:Nat) (h:k<(l8 (L.map jN)).length):(l8 (L.map jN))[k]=[DC.im (.raw (.int .i64 (L[k]'(by simpa[p7] using h)).drawing)),DC.im (.raw (.int .i64 (L[k]'(by simpa[p7] using h)).dim))]:=by
 simp[l8]
end Go.Ab
namespace Go.Proofs
open Go Go.Ab
def xJ (y:Link):Spot:=⟨y.drawing,y.dim⟩
def Hd (d:Dim):Int:=min (max d.nominal d.lower) d.upper
def Eg (d:Dim) (g:Int):Dim:=⟨d.nominal,max d.lower (Hd d-g),min d.upper (Hd d+g)⟩
def IR (c:Chains) (so:Spot→Bool) (g:Int) (y:Link):Dim:=if so (xJ y) then Eg (cv c y) g else cv c y
def Jb (c:Chains) (so:Spot→Bool) (g:Int) (x:ChLoop):List Dim:=x.links.map (IR c so g)
def JH (c:Chains) (so:Spot→Bool) (g:Int) (x:ChLoop):Int:=gu x.links (Jb c so g x) false
def JL (c:Chains) (so:Spot→Bool) (g:Int) (x:ChLoop):Int:=gu x.links (Jb c so g x) true
def Dg (c:Chains) (so:Spot→Bool) (g:Int) (x:ChLoop):Bool:=decide (x.lo≤JH c so g x)&&decide (JL c so g x≤x.hi)
def IV (c:Chains) (so:Spot→Bool) (g:Int):Bool:=c.loops.all (Dg c so g)
def jD (c:Chains):List Spot:=c.loops.flatMap fun x=>x.links.map xJ
def Fa (c:Chains) (x:Spot):Bool:=decide ((u9 c.reg c.lets x.drawing).kind≠3)
def qL (c:Chains):List Spot:=IW (Fa c) (jD c)
def gs (p:Int→Bool):Nat→Int→Int→Int
 | 0,lo,_=>lo
 | k+1,lo,hi=>if lo<hi then (if p (hi-(hi-lo) / 2) then gs p k (hi-(hi-lo) / 2) hi else gs p k lo (hi-(hi-lo) / 2-1)) else lo
def He (l:List Spot) (set:Nat):Nat→List Spot
 | 0=>[]
 | k+1=>He l set k++(match l[k]? with
   | some x=>if set.testBit k then [x] else []
   | none=>[])
def lexB:List Spot→List Spot→Bool
 | a :: l,b :: m=>if a=b then lexB l m else tl a b
 | _,_=>false
def xK (a b:List Spot):Bool:=decide (a.length<b.length)||(decide (a.length=b.length)&&lexB a b)
def Do (best:Option (List Spot)) (x:List Spot):Bool:=match best with
 | none=>true
 | some b=>xK x b
def Gv (good:List Spot→Bool) (best:Option (List Spot)) (x:List Spot):Option (List Spot):=if Do best x&&good x then some x else best
def En (all:List Spot) (k:Nat):List (List Spot):=(List.range k).map fun s=>He all s all.length
def JK (l:List Spot):Spot→Bool:=fun x=>decide (x∈l)
def HE (c:Chains) (x:List Spot):Bool:=IV c (JK x) 0
def zW (c:Chains) (b0:Option (List Spot)) (k:Nat):Option (List Spot):=(En (qL c) k).foldl (Gv (HE c)) b0
def IQ (c:Chains):Option (List Spot):=zW c none (2 ^ (qL c).length)
open Go Go.Ab Tryz
variable {G:GW}
def SoF (G:GW) (c:Chains) (fv:IC) (so:Spot→Bool):Prop:=
 (∃ (f:FuncId) (caps:List IC),fv=.fn (.func f) caps∧D4 prog f∧∀ x∈jD c,∀ objs,DCall prog G f (C7 x.drawing x.dim :: caps.map fun c=>.one (.im c)) objs (fun d o=>d=bv (so x)∧o=objs)) ∨
 (∃ (f:FuncId) (l:List IC),fv=.bf (.func f) l∧D4 prog f∧∀ x∈jD c,∀ objs,DCall prog G f ((l.map fun c=>DV.one (.im c))++[C7 x.drawing x.dim]) objs (fun d o=>d=bv (so x)∧o=objs))
def js:List Int→Int
 | []=>0
 | x :: r=>if x=0 then js r else x
theorem DO (l:List Int) (hl:l.length<1000000):zP prog G 84 [r8 l] (iv (js l)):=by
 refine zf func84 ntmps84 ?_
 try simp only[r8]
 have hs:=trivial
 repeat' first|(with_reducible first|refine zz ?_|refine zE [0,2,3,5,6,7,8,9,14] ?_)|simp -dsimp[hs]
 refine i6 (ι:={ p:Nat // p≤l.length∧js l=js (l.drop p) }) (fun p=>⟨18,[(3,iv 0),(6,.one (.im (.sl (l.map encI)))),(7,iv (l.length:Int)),(8,iv (p.1:Int))],[]⟩) (fun p=>l.length-p.1) ⟨0,by simp⟩ (zv [3,6,7,8]) ?_
 rintro⟨k,hk,hu⟩
 simp only[iv]
 by_cases hlt:k<l.length
 ·have hw:=zk k
  rw[List.drop_eq_getElem_cons hlt,js] at hu
  generalize hx:l[k]=x at *
  have hs:=za hx (za hw hlt)
  repeat' first|(with_reducible first|refine zz ?_|refine zr ?_|refine zE [0,2,3,5,6,7,8,9,14] ?_)|simp -dsimp[hs]|refine i9 ?_ ?_<;>intro h<;>try simp only[i7] at h
  ·rw[hu,if_neg (by assumption)]
  ·rw[if_pos (by assumption)] at hu
   exact zn ⟨k+1,by omega,hu⟩ (zv [3,6,7,8])
 ·rw[List.drop_eq_nil_of_le (by omega)] at hu
  have hs:=hlt
  repeat' first|(with_reducible first|refine zz ?_|refine zr ?_|refine zE [0,2,3,5,6,7,8,9,14] ?_)|simp -dsimp[hs]|refine i9 ?_ ?_<;>intro h<;>try simp only[i7] at h
  rw[hu];rfl
attribute [simp] r5 ct u5 A1 nilV I6 ZK
theorem SoF.congr {c:Chains} {fv:IC} {so so':Spot→Bool} (h:SoF G c fv so) (he:∀ x∈jD c,so x=so' x):SoF G c fv so':=by
 rcases h with⟨f,caps,h1,h2,h3⟩|⟨f,caps,h1,h2,h3⟩
 ·exact .inl ⟨f,caps,h1,h2,fun x hx objs=>(h3 x hx objs).mono fun d o ⟨a,b⟩=>⟨by rw[a,he x hx],b⟩⟩
 ·exact .inr ⟨f,caps,h1,h2,fun x hx objs=>(h3 x hx objs).mono fun d o ⟨a,b⟩=>⟨by rw[a,he x hx],b⟩⟩
attribute [simp] r5 ct u5 A1 nilV I6 ZK
attribute [simp] r5 ct M7 gF u5 A1 nilV I6 ZK
@[simp] theorem Gg (L:List ChLoop) (k:Nat) (h:k<(l8 (L.map F8)).length):(l8 (L.map F8))[k]=[DC.im (.sl ((L[k]'(by simpa[p7] using h)).links.map F9)),DC.im (.raw (.int .i64 (L[k]'(by simpa[p7] using h)).lo)),DC.im (.raw (.int .i64 (L[k]'(by simpa[p7] using h)).hi))]:=by
 simp[l8,F8,rI]
@[simp] theorem Gf (L:List Issue) (k:Nat) (h:k<(l8 (L.map e9)).length):(l8 (L.map e9))[k]=(e9 (L[k]'(by simpa[p7] using h))).map .im:=by
 simp[l8]
def bQ (l:List Issue) (d:Int):DV:=if j9 l=0∧d∈nums l then .one (.im (v8 l (nums l))) else .one (.im (.raw (.pointer none)))
theorem vJ (l:List Issue) (d:Int):ImV (bQ l d):=by unfold bQ;split<;>simp[v8]
attribute [simp] vJ
def Z4 (l:List Issue) (d:Int):Int:=if j9 l≠0 then j9 l else if d∈nums l then 0 else 6
theorem Cz (l:List Issue) (d:Int) (hG:o4 G) (hs:U2 l):zP prog G 209 [F4 l,iv d] (.tup [bQ l d,iv (Z4 l d)]):=by
 refine zf func209 ntmps209 ?_
 try simp only[F4,iv]
 have c1:=fS l hG hs
 by_cases h0:j9 l=0
 ·simp only[bw,h0,if_true] at c1
  have c2:=zF (G:=G) l (nums l) d ((E5 h0).1.imp fun h=>Int.le_of_lt h) (by have:=hs.1;have:=u4 l l.length;unfold nums;omega)
  by_cases hm:d∈nums l
  ·simp only[hm,decide_true,v8] at c1 c2
   have hs:=trivial
   repeat' first|(with_reducible first|refine zz ?_|refine zr ?_|refine zE [0,1,2,4,5,6,7,14,19] ?_)|simp -dsimp[hs]|refine zp c1 ?_|refine zp c2 ?_|refine i9 ?_ ?_<;>intro h<;>try simp only[i7] at h
   all_goals try clear hs
   all_goals simp[bQ,Z4,h0,hm,v8]
  ·simp only[hm,decide_false,v8] at c1 c2
   have hs:=trivial
   repeat' first|(with_reducible first|refine zz ?_|refine zr ?_|refine zE [0,1,2,4,5,6,7,14,19] ?_)|simp -dsimp[hs]|refine zp c1 ?_|refine zp c2 ?_|refine i9 ?_ ?_<;>intro h<;>try simp only[i7] at h
   all_goals try clear hs
   all_goals simp[bQ,Z4,h0,hm,v8]
 ·simp only[bw,h0,if_false] at c1
  have hs:=h0
  repeat' first|(with_reducible first|refine zz ?_|refine zr ?_|refine zE [0,1,2,4,5,6,7,14,19] ?_)|simp -dsimp[hs]|refine zp c1 ?_|refine i9 ?_ ?_<;>intro h<;>try simp only[i7] at h
  all_goals try clear hs
  all_goals simp[bQ,Z4,h0]
def eo (l:List Issue) (d:Int):Nat:=(l.filter fun x=>decide (x.drawing=d)).length
theorem BI {l:List Issue} {d:Int} (hs:(l.map (·.drawing)).Pairwise (·≤·)):eo l d=eo (l.drop (lb (l.map (·.drawing)) d)) d:=by
 conv=>lhs;rw[← List.take_append_drop (lb (l.map (·.drawing)) d) l]
 simp only[eo,List.filter_append]
 rw[List.filter_eq_nil_iff.2 fun x hx=>?_]
 ·rfl
 ·have:=rv hs x hx
  simp;omega
theorem Cw (l:List Issue) (ds:List Int) (d:Int) (hs:(l.map (·.drawing)).Pairwise (·≤·)) (hl:l.length<1000000):zP prog G 210 [.one (.im (v8 l ds)),iv d] (iv (eo l d:Int)):=by
 refine zf func210 ntmps210 ?_
 try simp only[iv]
 simp only[v8]
 have c1:=lc (G:=G) (v8 l ds) d
 simp only[v8] at c1
 have hs:=trivial
 repeat' first|(with_reducible first|refine zz ?_|refine zE [0,1,4,5,8] ?_)|simp -dsimp[hs]|refine zp c1 ?_
 all_goals try clear hs
 refine S4 (f:=280) (by simp;exact rfl) (by rfl) call280 ?_
 generalize hR:LoopD.mk _ _ _ _ _ _ _=R
 have hR1:R.st=.ready:=by rw[← hR]
 have hR2:R.pend=none:=by rw[← hR]
 have hR3:R.at .ready none=R:=by rw[← hR];rfl
 have hR4:=(congrArg LoopD.nt hR).symm
 have hR5:=(congrArg LoopD.tm hR).symm
 have hR6:=(congrArg LoopD.ps hR).symm
 have hR7:=(congrArg LoopD.asg hR).symm
 have hR8:=(congrArg LoopD.body hR).symm
 dsimp only at hR4 hR5 hR6 hR7 hR8
 clear hR
 refine h9 func280 rfl ntmps280 (by simp) rfl ?_
 have hR9:∀ objs:List DObj,(R.tm.map fun x=>(x.1,fe 2 objs x.2))=R.tm:=by intro objs;rw[hR5];simp
 have hlb:=pP (l.map (·.drawing)) d
 rw[List.length_map] at hlb
 have c2:=fp (G:=G) l d hs hl
 have hs:=za hR1 (za hR2 (za hR3 hlb))
 repeat' first|with_reducible refine zz ?_|simp -dsimp[hs]|refine zq c2 ?_|refine zM 0 41 12 [0,1,2,4,7,24,25,26,27,39] ?_|with_reducible refine zE [0,1,2,4,5,7,8,24,25,26,27,39] ?_
 all_goals try clear hs
 rw[← List.map_drop]
 have hge:=rz (d:=d) hs
 have hss:((l.drop (lb (l.map (·.drawing)) d)).map (·.drawing)).Pairwise (·≤·):=by rw[List.map_drop];exact hs.drop
 have hsl:l.length-lb (l.map (·.drawing)) d=(l.drop (lb (l.map (·.drawing)) d)).length:=by simp
 rw[hsl]
 have hsl2:(l.drop (lb (l.map (·.drawing)) d)).length<1000000:=by simp;omega
 rw[BI hs]
 generalize l.drop (lb (l.map (·.drawing)) d)=s at hge hss hsl2 ⊢
 refine i6 (ι:={ k:Nat // k≤s.length∧k+eo (s.drop k) d=eo s d }) (fun p=>⟨41,[(0,.one (.yld 1)),(2,.one (.im (.ip [rI d]))),(24,.one (.im (.sl (s.map e9)))),(25,iv (s.length:Int)),(26,iv (p.1:Int))],[.row [.im (rI (p.1:Int))],.loop R]⟩) (fun p=>s.length-p.1) ⟨0,by simp⟩ (zv [0,2,24,25,26]) ?_
 rintro⟨k,hk,hno⟩
 simp only[iv]
 by_cases hlt:k<s.length
 ·have hx:s[k]?=some s[k]:=by simp[hlt]
  have hw:=zk k
  have hcons:s.drop k=s[k] :: s.drop (k+1):=List.drop_eq_getElem_cons hlt
  by_cases hd:s[k].drawing=d
  ·have hno':k+1+eo (s.drop (k+1)) d=eo s d:=by
    rw[← hno,eo,eo,hcons,List.filter_cons_of_pos (by simp[hd]),List.length_cons];omega
   have hs:=za hR1 (za hR2 (za hR3 (za hx (za hw (za hd hlt)))))
   repeat' first|(with_reducible first|refine zz ?_|refine zE [0,1,2,4,5,7,8,24,25,26,27,39] ?_)|simp -dsimp[hs]|with_reducible refine At.yield_end ?_;simp -dsimp[hs]|refine aC ?_ ?_<;>simp -dsimp[hs]|refine P4 ?_;simp -dsimp[R9,hR4,hR5,hR6,hR7,hR8,hs]|refine i9 ?_ ?_<;>intro h<;>try simp only[i7] at h
   all_goals try clear hs
   all_goals exact zn ⟨k+1,by omega,hno'⟩ (zw [0,2,24,25,26] 2 (by simp[hR9]))
  ·have hnone:eo (s.drop k) d=0:=by
    simp only[eo,List.length_eq_zero_iff,List.filter_eq_nil_iff]
    intro x hxm
    obtain⟨i,hi⟩:=List.mem_iff_getElem?.1 hxm
    rw[List.getElem?_drop] at hi
    have h1:s[k].drawing≤x.drawing:=by
     rcases Nat.eq_zero_or_pos i with rfl|hp
     ·rw[Nat.add_zero,hx] at hi;cases hi;exact Int.le_refl _
     ·have hlt2:=(List.getElem?_eq_some_iff.1 hi).1
      have:=(List.pairwise_iff_getElem.1 hss) k (k+i) (by simpa using hlt) (by simpa using hlt2) (by omega)
      have h6:=(List.getElem?_eq_some_iff.1 hi).2
      simp at this;rw[h6] at this;exact this
    have h2:=hge s[k] (List.getElem_mem hlt)
    simp;omega
   have hN:eo s d=k:=by omega
   have hs:=za hR1 (za hR2 (za hR3 (za hx (za hw (za hd hlt)))))
   repeat' first|(with_reducible first|refine zz ?_|refine zr ?_ (by simp -dsimp[B9,hs];exact rfl)|refine zE [0,1,2,4,5,7,8,24,25,26,27,39] ?_)|simp -dsimp[B9,hs]|with_reducible show B9 _ _ _ _ _ _ _ _;simp -dsimp[B9,hs]|refine i9 ?_ ?_<;>intro h<;>try simp only[i7] at h
   all_goals try clear hs
   all_goals simp[hN]
 ·have hN:eo s d=k:=by rw[← hno,List.drop_eq_nil_of_le (by omega)];simp[eo]
  have hs:=za hR1 (za hR2 (za hR3 hlt))
  repeat' first|(with_reducible first|refine zz ?_|refine zr ?_ (by simp -dsimp[B9,hs];exact rfl)|refine ze ?_ (by simp -dsimp[B9,hs];exact rfl)|refine zE [0,1,2,4,5,7,8,24,25,26,27,39] ?_)|simp -dsimp[B9,hs]|with_reducible show B9 _ _ _ _ _ _ _ _;simp -dsimp[B9,hs]|refine i9 ?_ ?_<;>intro h<;>try simp only[i7] at h
  all_goals try clear hs
  all_goals simp[hN]
def yU (l:List Issue) (d:Int):Int:=if Z4 l d=0 then (eo l d:Int) else 0
theorem BW (l:List Issue) (d:Int) (hG:o4 G) (hs:U2 l):zP prog G 154 [F4 l,iv d] (.tup [iv (yU l d),iv (Z4 l d)]):=by
 refine zf func154 ntmps154 ?_
 try simp only[F4,iv]
 have c1:=Cz (G:=G) l d hG hs
 by_cases h0:Z4 l d=0
 ·have hk:j9 l=0∧d∈nums l:=by
   unfold Z4 at h0
   by_cases h1:j9 l=0
   ·refine⟨h1,?_⟩
    rw[if_neg (by simp[h1])] at h0
    by_cases h2:d∈nums l
    ·exact h2
    ·rw[if_neg h2] at h0;cases h0
   ·rw[if_pos h1] at h0;exact absurd h0 h1
  have c2:=Cw (G:=G) l (nums l) d (bZ hk.1) (by have:=hs.1;omega)
  rw[bQ,if_pos hk,h0] at c1
  rw[yU,if_pos h0,h0]
  simp only[v8] at c1 c2
  have hs:=trivial
  repeat' first|(with_reducible first|refine zz ?_|refine zr ?_|refine zE [0,1,2,4,5,6,7,15] ?_)|simp -dsimp[hs]|refine zp c1 ?_|refine zp c2 ?_|refine i9 ?_ ?_<;>intro h<;>try simp only[i7] at h
  all_goals try clear hs
 ·rw[yU,if_neg h0]
  generalize hX:bQ l d=X at c1
  have hXo:∃ x,X=.one (.im x):=by subst hX;unfold bQ;split<;>exact⟨_,rfl⟩
  obtain⟨x,rfl⟩:=hXo
  generalize Z4 l d=e at *
  have hs:=h0
  repeat' first|(with_reducible first|refine zz ?_|refine zr ?_|refine zE [0,1,2,4,5,6,7,15] ?_)|simp -dsimp[hs]|refine zp c1 ?_|refine i9 ?_ ?_<;>intro h<;>try simp only[i7] at h
  all_goals try clear hs
end Go.Proofs
namespace Go.Ab
open Go
structure Piece where
 holder:Int
 day:Int
 lo:Int
 hi:Int
 deriving DecidableEq
structure Case where
 p:Prints
 machine:Int
 of:Int
 loop:ChLoop
 pieces:List Piece
 deriving DecidableEq
def A0 (x:Piece):List IC:=[rI x.holder,rI x.day,rI x.lo,rI x.hi]
def j4 (c:Case):List IC:=[.sl (c.p.n.reg.map e9),.sl (c.p.n.notes.map l5),.sl (c.p.holders.map o2),.sl (c.p.prints.map w5),rI c.machine,rI c.of,.sl (c.loop.links.map F9),rI c.loop.lo,rI c.loop.hi,.sl (c.pieces.map A0)]
def EC (x:Piece):DV:=.agg ((A0 x).map .im)
def n3 (c:Case):DV:=.agg ((j4 c).map .im)
attribute [simp] A0 j4 EC n3
end Go.Ab
namespace Go.Proofs
open Go Go.Ab
variable {G:GW}
theorem vT (x lo hi:Int):DCall Tryz.prog G 157 (iv x :: [DC.ptr 0 0,DC.ptr 1 0].map .one) [.row [.im (rI lo)],.row [.im (rI hi)]] (fun d o=>d=bv (decide (x<lo)||decide (hi<x))∧o=[.row [.im (rI lo)],.row [.im (rI hi)]]):=by
 refine h9 Tryz.func157 rfl Tryz.ntmps157 (by simp) rfl ?_
 simp only[rI]
 have hs:=trivial
 repeat' first|(with_reducible first|refine zz ?_|refine zr ?_|refine zE [0,1,2,4] ?_)|simp -dsimp[hs]|with_reducible refine j0 ?_ ?_<;>intro h<;>have h0:=h<;>(try simp only[i7] at h)<;>have h2:=h<;>(try simp at h2)<;>replace hs:=za h0 (za h (za h2 hs))|with_reducible refine And.intro ?_ ?_
 all_goals try clear hs
 all_goals simp[*]
theorem N0 (lo hi:Int) (l:List Int) (hl:l.length<1000000):zP Tryz.prog G 96 [iv lo,iv hi,r8 l] (bv (l.all fun x=>decide (lo≤x)&&decide (x≤hi))):=by
 refine zf Tryz.func96 Tryz.ntmps96 ?_
 try simp only[iv,iv,r8]
 have hc:=C0 (G:=G) l (fun x=>decide (x<lo)||decide (hi<x)) 157 [.ptr 0 0,.ptr 1 0] [.row [.im (rI lo)],.row [.im (rI hi)]] (by simp) (fun x _=>vT x lo hi) hl
 simp only[rI] at hc
 repeat' first|(with_reducible first|refine zz ?_|refine zx ?_|refine zE [0,1,2,3,4,6] ?_)|simp -dsimp|refine CallE.here hc ?_
 rw[Bool.eq_iff_iff];simp
 exact exists_congr fun x=>and_congr_right fun _=>by omega
def T6 (lo hi a b:Int):Bool:=decide (a≤lo∧lo≤b∧a≤hi∧hi≤b∧lo≤hi)
theorem bk (lo hi a b:Int):zP Tryz.prog G 97 [C7 lo hi,iv a,iv b] (bv (T6 lo hi a b)):=by
 refine zf Tryz.func97 Tryz.ntmps97 ?_
 try simp only[C7,iv,iv]
 have c1:=N0 (G:=G) a b [lo,hi] (by simp)
 generalize hb:([lo,hi].all fun y=>decide (a≤y)&&decide (y≤b))=q at c1
 cases q
 ·repeat' first|(with_reducible first|refine zz ?_|refine zx ?_|refine zE [0,1,2,3,6] ?_)|simp -dsimp|refine zt c1 ?_ ?_ ?_;(focus simp;done);focus (simp;done)
  all_goals simp at hb
  all_goals simp[T6]
  all_goals omega
 ·simp at hb
  repeat' first|(with_reducible first|refine zz ?_|refine zx ?_|refine zE [0,1,2,3,6] ?_)|simp -dsimp|refine zt c1 ?_ ?_ ?_;(focus simp;done);focus (simp;done)
  all_goals simp[T6]
  all_goals first|omega|(rw[Bool.eq_iff_iff];simp;omega)
end Go.Proofs
namespace Go.Proofs
open Go Go.Ab
variable {G:GW}
def H2 (c:Case) (l:Link) (x:Piece):Bool:=(match n9 c.p.n.reg l.drawing 1 with|some y=>!decide (y.kind=1)|none=>false)&&(decide (0≤l.dim∧l.dim≤3)&&((c.p.holders.any fun y=>decide (y.id=x.holder))&&(decide (0≤x.day∧x.day≤14610)&&T6 x.lo x.hi 0 1000000000)))
def ah (c:Case):Bool:=decide (c.of∈nums c.p.n.reg)&&(decide (1≤c.machine∧c.machine≤999)&&(decide (1≤c.loop.links.length∧c.loop.links.length≤8)&&(decide (c.pieces.length=c.loop.links.length)&&(T6 c.loop.lo c.loop.hi (-8000000000) 8000000000&&(c.loop.links.zip c.pieces).all fun q=>H2 c q.1 q.2))))
noncomputable def s6 (c:Case):Int:=if s8 c.p≠0 then s8 c.p else if ah c=true then 0 else 100
structure KC (c:Case):Prop where
 p:KP c.p
 l:c.loop.links.length≤16
 q:c.pieces.length≤16
open Go Go.Ab Tryz
theorem C1 {c:Case} (h:s6 c=0):s8 c.p=0∧ah c=true:=by
 unfold s6 at h
 by_cases h0:s8 c.p=0
 ·rw[if_neg (by simp[h0])] at h
  refine⟨h0,?_⟩
  by_cases h1:ah c=true
  ·exact h1
  ·rw[if_neg h1] at h;exact absurd h (by decide)
 ·rw[if_pos h0] at h;exact absurd h h0
theorem C5 {p:Prints} (h:s8 p=0):u6 p.n=0∧F5 p=true∧j9 p.n.reg=0:=by
 have hn:u6 p.n=0:=by
  refine Classical.byContradiction fun h1=>?_
  unfold s8 at h;rw[if_pos h1] at h;exact h1 h
 refine⟨hn,?_,?_⟩
 ·refine Classical.byContradiction fun h1=>?_
  unfold s8 at h;rw[if_neg (by simp[hn]),if_neg h1] at h;exact absurd h (by decide)
 ·refine Classical.byContradiction fun h1=>?_
  unfold u6 at hn;rw[if_pos h1] at hn;exact h1 hn
def dC (c:Case):Bool:=decide (c.of∈nums c.p.n.reg)&&(decide (1≤c.machine∧c.machine≤999)&&(decide (1≤c.loop.links.length∧c.loop.links.length≤8)&&(decide (c.pieces.length=c.loop.links.length)&&T6 c.loop.lo c.loop.hi (-8000000000) 8000000000)))
theorem N3 (c:Case):ah c=(dC c&&(c.loop.links.zip c.pieces).all fun q=>H2 c q.1 q.2):=by
 simp only[ah,dC,Bool.and_assoc]
theorem fu {α β:Type} {f:α×β→Bool} {l:List α} {m:List β} {k:Nat} (h1:k<l.length) (h2:k<m.length) (hno:(l.zip m).all f=((l.zip m).drop k).all f):(l.zip m).all f=true↔f (l[k],m[k])=true∧((l.zip m).drop (k+1)).all f=true:=by
 have h3:k<(l.zip m).length:=by rw[List.length_zip];omega
 have:=an h3 hno
 rw[List.getElem_zip] at this
 exact this
theorem wL (x:Piece) (y:Holder):DCall prog G 156 (jb y :: [DC.ptr 0 0].map .one) [.row ((A0 x).map .im)] (fun d o=>d=bv (decide (y.id=x.holder))∧o=[.row ((A0 x).map .im)]):=by
 refine DCall.drop ?_
 refine h9 func156 rfl ntmps156 (by simp) rfl ?_
 simp only[jb,o2,A0,rI]
 repeat' first|(with_reducible first|refine zz ?_|refine zx ?_|refine zE [0,1,2,3] ?_)|simp -dsimp|with_reducible refine And.intro ?_ ?_
theorem mQ {c:Case} (h0:j9 c.p.n.reg=0) (l:Link) (x:Piece):H2 c l x=true↔AS c.p.n.reg l.drawing 1=0∧¬ (atR c.p.n.reg l.drawing 1).kind=1∧([l.dim].all fun y=>decide (0≤y)&&decide (y≤3))=true∧(c.p.holders.any fun y=>decide (y.id=x.holder))=true∧([x.day].all fun y=>decide (0≤y)&&decide (y≤14610))=true∧T6 x.lo x.hi 0 1000000000=true:=by
 unfold H2 AS atR
 rw[if_neg (by simp[h0]),if_pos h0]
 cases n9 c.p.n.reg l.drawing 1 with
 | none=>simp
 | some y=>simp[and_assoc]
theorem gP (c:Case) (hG:o4 G) (hN:D6 G) (hS:u7 G) (hR:w0 G) (hk:KC c):zP prog G 95 [n3 c] (iv (s6 c)):=by
 refine zf func95 ntmps95 ?_
 try simp only[iv]
 have hl:=hk.l
 have hq:=hk.q
 have hhl:=hk.p.p.h
 have c1:=yg (G:=G) c.p hG hN hS hR hk.p
 simp only[D7,p8] at c1
 by_cases h0:s8 c.p=0
 ·obtain⟨hn0,hpb,hr0⟩:=C5 h0
  rw[h0] at c1
  have hE:s6 c=if ah c=true then 0 else 100:=by unfold s6;rw[if_neg (by simp[h0])]
  have c2:=BW (G:=G) c.p.n.reg c.of hG hk.p.n.1
  have hLE:Z4 c.p.n.reg c.of=if c.of∈nums c.p.n.reg then 0 else 6:=by unfold Z4;rw[if_neg (by simp[hr0])]
  rw[hLE] at c2
  have c3:=N0 (G:=G) 1 999 [c.machine] (by simp)
  have c4:=N0 (G:=G) 1 8 [(c.loop.links.length:Int)] (by simp)
  have c5:=bk (G:=G) c.loop.lo c.loop.hi (-8000000000) 8000000000
  simp only[F4,C7] at c2 c5
  cases h5:dC c
  ·have hB:ah c=false:=by rw[N3,h5,Bool.false_and]
   rw[hE,hB]
   simp only[dC] at h5
   generalize hb3:([c.machine].all fun y=>decide (1≤y)&&decide (y≤999))=b3 at c3
   generalize hb4:([(c.loop.links.length:Int)].all fun y=>decide (1≤y)&&decide (y≤8))=b4 at c4
   generalize hb5:T6 c.loop.lo c.loop.hi (-8000000000) 8000000000=b5 at c5 h5
   have hs:True:=trivial
   by_cases hm:c.of∈nums c.p.n.reg
   ·rw[if_pos hm] at c2
    by_cases hlen:c.pieces.length=c.loop.links.length
    ·cases b3<;>cases b4<;>cases b5
     all_goals
      have hs:=hlen
      repeat' first|(with_reducible first|refine zz ?_|refine zr ?_|refine zE [0,1,2,3,4,6,7,8,9,10,11,12,17,64,67,68,69,70,118] ?_)|simp -dsimp[hs]|refine zp c1 ?_|refine zp c2 ?_|refine zt c3 ?_ ?_ ?_;(focus simp;done);focus (simp;done)|refine zt c4 ?_ ?_ ?_;(focus simp;done);focus (simp;done)|refine zp c5 ?_|refine i9 ?_ ?_<;>intro h<;>try simp only[i7] at h
      all_goals try clear hs
     all_goals exfalso
     all_goals simp[hm,hlen] at h5 hb3 hb4
     all_goals omega
    ·cases b3<;>cases b4<;>cases b5
     all_goals
      have hs:=hlen
      repeat' first|(with_reducible first|refine zz ?_|refine zr ?_|refine zE [0,1,2,3,4,6,7,8,9,10,11,12,17,64,67,68,69,70,118] ?_)|simp -dsimp[hs]|refine zp c1 ?_|refine zp c2 ?_|refine zt c3 ?_ ?_ ?_;(focus simp;done);focus (simp;done)|refine zt c4 ?_ ?_ ?_;(focus simp;done);focus (simp;done)|refine zp c5 ?_|refine i9 ?_ ?_<;>intro h<;>try simp only[i7] at h|with_reducible refine j0 ?_ ?_<;>intro h<;>have h0:=h<;>(try simp only[i7] at h)<;>have h2:=h<;>(try simp at h2)<;>replace hs:=za h0 (za h (za h2 hs))
      all_goals try clear hs
     all_goals exfalso
     all_goals omega
   ·rw[if_neg hm] at c2
    have hs:=trivial
    repeat' first|(with_reducible first|refine zz ?_|refine zr ?_|refine zE [0,1,2,3,4,6,7,8,9,10,11,12,17,64,67,68,69,70,118] ?_)|simp -dsimp[hs]|refine zp c1 ?_|refine zp c2 ?_|refine i9 ?_ ?_<;>intro h<;>try simp only[i7] at h
    all_goals try clear hs
  ·rw[N3,h5,Bool.true_and] at hE
   rw[hE]
   simp only[dC,Bool.and_eq_true,decide_eq_true_eq] at h5
   obtain⟨hm,⟨hm1,hm2⟩,⟨hl1,hl2⟩,hlen,hgap⟩:=h5
   rw[if_pos hm] at c2
   rw[hgap] at c5
   rw[show ([c.machine].all fun y=>decide (1≤y)&&decide (y≤999))=true by simp;omega] at c3
   rw[show ([(c.loop.links.length:Int)].all fun y=>decide (1≤y)&&decide (y≤8))=true by simp;omega] at c4
   have hs:=hlen
   repeat' first|(with_reducible first|refine zz ?_|refine zE [0,1,2,3,4,6,7,8,9,10,11,12,17,64,67,68,69,70,118] ?_)|simp -dsimp[hs]|refine zp c1 ?_|refine zp c2 ?_|refine zt c3 ?_ ?_ ?_;(focus simp;done);focus (simp;done)|refine zt c4 ?_ ?_ ?_;(focus simp;done);focus (simp;done)|refine zp c5 ?_|refine i9 ?_ ?_<;>intro h<;>try simp only[i7] at h
   all_goals try clear hs
   have hno:((c.loop.links.zip c.pieces).all fun q=>H2 c q.1 q.2)=((c.loop.links.zip c.pieces).drop 0).all fun q=>H2 c q.1 q.2:=rfl
   clear c1 c2 c3 c4 c5
   generalize hA:((c.loop.links.zip c.pieces).all fun q=>H2 c q.1 q.2)=A at *
   refine i6 (ι:={ k:Nat // k≤c.loop.links.length∧A=((c.loop.links.zip c.pieces).drop k).all fun q=>H2 c q.1 q.2 }) (fun q=>⟨120,[(1,.one (.ptr 0 0)),(4,.one (.ptr 2 0)),(67,.one (.im (.sl (c.loop.links.map F9)))),(68,iv (c.loop.links.length:Int)),(69,iv (q.1:Int))],[.row ((j4 c).map .im),.vec 0 [] 0 true,.row [.im (.sl (c.p.n.reg.map e9))],.vec 1 [[.im (rI c.machine)]] 0 false,.vec 1 [[.im (rI (c.loop.links.length:Int))]] 0 false]⟩) (fun q=>c.loop.links.length-q.1) ⟨0,by simp,hno⟩ (zv [1,4,67,68,69]) ?_
   rintro⟨k,hk1,hrest⟩
   simp only[iv]
   by_cases hlt:k<c.loop.links.length
   ·have hlt2:k<c.pieces.length:=by omega
    have hw:=zk k
    have hst:=fu (f:=fun q=>H2 c q.1 q.2) hlt hlt2 (hA.trans hrest)
    rw[hA] at hst
    simp only at hst
    rw[mQ hr0] at hst
    clear hno
    generalize hx:c.pieces[k]=x at *
    generalize hy:c.loop.links[k]=y at *
    have c6:=Dp (G:=G) c.p.n.reg y.drawing 1 hG hk.p.n.1
    have c7:=gG (G:=G) c.p.holders (fun y=>decide (y.id=x.holder)) 156 [.ptr 0 0] [.row ((A0 x).map .im)] (by simp) (fun y _=>wL x y) (by omega)
    have c8:=N0 (G:=G) 0 3 [y.dim] (by simp)
    have c9:=N0 (G:=G) 0 14610 [x.day] (by simp)
    have c10:=bk (G:=G) x.lo x.hi 0 1000000000
    simp only[F4,C7] at c6 c10
    simp only[A0,rI,List.map_cons,List.map_nil] at c7
    generalize (c.p.holders.any fun y=>decide (y.id=x.holder))=b2 at *
    generalize ([y.dim].all fun y=>decide (0≤y)&&decide (y≤3))=b1 at *
    generalize ([x.day].all fun y=>decide (0≤y)&&decide (y≤14610))=b3 at *
    generalize T6 x.lo x.hi 0 1000000000=b4 at *
    generalize AS c.p.n.reg y.drawing 1=e at *
    generalize atR c.p.n.reg y.drawing 1=z at *
    have hcs:(e=0∧¬ z.kind=1∧b1=true∧b2=true∧b3=true∧b4=true)∨(A=false∧((¬ e=0∧True∧True∧True∧True∧True)∨(e=0∧z.kind=1∧True∧True∧True∧True)∨(e=0∧¬ z.kind=1∧b1=false∧True∧True∧True)∨(e=0∧¬ z.kind=1∧b1=true∧b2=false∧True∧True)∨(e=0∧¬ z.kind=1∧b1=true∧b2=true∧b3=false∧True)∨(e=0∧¬ z.kind=1∧b1=true∧b2=true∧b3=true∧b4=false))):=by
     by_cases g1:e=0<;>by_cases g2:z.kind=1<;>cases b1<;>cases b2<;>cases b3<;>cases b4<;>simp_all
    have hs:True:=trivial
    rcases hcs with⟨g1,g2,g3,g4,g5,g6⟩|⟨gA,hcs⟩
    ·have hs:=za hx (za hy (za hlt (za hlt2 (za hw (za g1 (za g2 (za g3 (za g4 (za g5 g6)))))))))
     repeat' first|(with_reducible first|refine zz ?_|refine zE [0,1,2,3,4,6,7,8,9,10,11,12,17,64,67,68,69,70,118] ?_)|simp -dsimp[hs]|refine zp c6 ?_|refine CallE.embed [9] (c7) ?_ ?_ ?_ ?_ ?_ ?_;(focus simp[u3];done);(focus simp;done);(focus simp;done);(focus simp;done);(focus refine n7 ?_;simp[u3,p9];done);try simp -dsimp[n5,u3,hs]|refine zt c8 ?_ ?_ ?_;(focus simp;done);focus (simp;done)|refine zt c9 ?_ ?_ ?_;(focus simp;done);focus (simp;done)|refine zp c10 ?_|refine i9 ?_ ?_<;>intro h<;>try simp only[i7] at h
     all_goals try clear hs
     all_goals exact zn ⟨k+1,by omega,by rw[Bool.eq_iff_iff];exact hst.trans ⟨fun h=>h.2,fun h=>⟨⟨g1,g2,g3,g4,g5,g6⟩,h⟩⟩⟩ (zw [1,4,67,68,69] 5)
    ·rcases hcs with⟨g1,g2,g3,g4,g5,g6⟩|⟨g1,g2,g3,g4,g5,g6⟩|⟨g1,g2,g3,g4,g5,g6⟩|⟨g1,g2,g3,g4,g5,g6⟩|⟨g1,g2,g3,g4,g5,g6⟩|⟨g1,g2,g3,g4,g5,g6⟩
     all_goals
      have hs:=za hx (za hy (za hlt (za hlt2 (za hw (za g1 (za g2 (za g3 (za g4 (za g5 g6)))))))))
      repeat' first|(with_reducible first|refine zz ?_|refine zr ?_|refine zE [0,1,2,3,4,6,7,8,9,10,11,12,17,64,67,68,69,70,118] ?_)|simp -dsimp[hs]|refine zp c6 ?_|refine CallE.embed [9] (c7) ?_ ?_ ?_ ?_ ?_ ?_;(focus simp[u3];done);(focus simp;done);(focus simp;done);(focus simp;done);(focus refine n7 ?_;simp[u3,p9];done);try simp -dsimp[n5,u3,hs]|refine zt c8 ?_ ?_ ?_;(focus simp;done);focus (simp;done)|refine zt c9 ?_ ?_ ?_;(focus simp;done);focus (simp;done)|refine zp c10 ?_|refine i9 ?_ ?_<;>intro h<;>try simp only[i7] at h
      all_goals try clear hs
     all_goals exact gA
   ·obtain rfl:k=c.loop.links.length:=by omega
    have hA1:A=true:=by rw[hrest,List.drop_eq_nil_of_le (by rw[List.length_zip];omega)];rfl
    subst hA1
    have hs:=hlt
    repeat' first|(with_reducible first|refine zz ?_|refine zr ?_|refine zE [0,1,2,3,4,6,7,8,9,10,11,12,17,64,67,68,69,70,118] ?_)|simp -dsimp[hs]|refine i9 ?_ ?_<;>intro h<;>try simp only[i7] at h
    all_goals try clear hs
 ·have hE:s6 c=s8 c.p:=by unfold s6;rw[if_pos h0]
  rw[hE]
  have hs:=h0
  repeat' first|(with_reducible first|refine zz ?_|refine zr ?_|refine zE [0,1,2,3,4,6,7,8,9,10,11,12,17,64,67,68,69,70,118] ?_)|simp -dsimp[hs]|refine zp c1 ?_|refine i9 ?_ ?_<;>intro h<;>try simp only[i7] at h
  all_goals try clear hs
end Go.Proofs
