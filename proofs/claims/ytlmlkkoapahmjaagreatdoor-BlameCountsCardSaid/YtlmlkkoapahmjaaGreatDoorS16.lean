/- Part 16 of the proofs. -/
import Derived.Test.YtlmlkkoapahmjaaGreatDoorS14
import Derived.Test.YtlmlkkoapahmjaaGreatDoorS15
set_option linter.all false
set_option maxHeartbeats 100000000
namespace Go.Proofs
open Go Go.Ab Tryz
variable {G:Hn}
theorem DY {n:Notes} {i:Nat} {x:Note} (h:¬ (1<=x.number/\x.number<=9999/\0<=x.day/\x.day<=14610/\x.signed<=2/\1<=x.frm/\x.frm<=x.to/\x.to<=999/\x.ways<=3)):lB n i x=false:=by
 have:Cc x=false:=by
  rw[<- Bool.not_eq_true];simp only[Cc,Bool.and_eq_true,decide_eq_true_eq];omega
 simp[lB,this]
theorem DX {n:Notes} {i:Nat} {x:Note} {f:Bool} (hf:(o2 n.reg x.drawing x.letter).isSome=f) (h:¬ ((x.drawing=0/\x.letter=0->x.cancels≠0)/\(¬ (x.drawing=0/\x.letter=0)->f=true))):lB n i x=false:=by
 have:Cb n.reg x=false:=by
  rw[<- Bool.not_eq_true];unfold Cb;rw[hf];split<;>simp_all
 simp[lB,this]
theorem DW {n:Notes} {i:Nat} {x:Note} (h:x.letter<2/\(x.useUp=true\/0<x.ways)):lB n i x=false:=by
 have:Ca x=false:=by
  obtain⟨h1,h2⟩:=h;rw[Ca,Bool.not_eq_false'];rcases h2 with h2|h2<;>simp[h1,h2]
 simp[lB,this]
theorem DU {n:Notes} {i:Nat} {x:Note} (h:sP n.notes i x=false):lB n i x=false:=by simp[lB,h]
theorem DR {n:Notes} {i:Nat} {x:Note} {f:Bool} (hf:(o2 n.reg x.drawing x.letter).isSome=f) (h:1<=x.number/\x.number<=9999/\0<=x.day/\x.day<=14610/\x.signed<=2/\1<=x.frm/\x.frm<=x.to/\x.to<=999/\x.ways<=3)
 (hb:(x.drawing=0/\x.letter=0->x.cancels≠0)/\(¬ (x.drawing=0/\x.letter=0)->f=true)) (hd:¬ (x.letter<2/\(x.useUp=true\/0<x.ways))) (he:sP n.notes i x=true):lB n i x=(yZ n.notes i x&&vP n.notes i x):=by
 have h1:Cc x=true:=by simp only[Cc,Bool.and_eq_true,decide_eq_true_eq];omega
 have h2:Cb n.reg x=true:=by
  unfold Cb;rw[hf];split<;>simp_all
 have h3:Ca x=true:=by
  rw[Ca,Bool.not_eq_true',<- Bool.not_eq_true];simpa using hd
 simp[lB,h1,h2,h3,he]
def BM (l:List Note) (x:Note) (k:Nat):Bool:=decide (x.cancels=0)||(l.take k).any λy=>decide (y.number=x.cancels)
theorem yp {l:List Note} {x:Note} {k:Nat} (hk:k<l.length):BM l x (k+1)=(BM l x k||decide (l[k].number=x.cancels)):=by
 unfold BM;rw[List.take_succ_eq_append_getElem hk,List.any_append];simp[Bool.or_assoc]
def kx (l:List Note) (x:Note) (k:Nat):Prop:=((l.take k).any λy=>decide (y.number=x.number))=false
theorem oS {l:List Note} {x:Note} {k:Nat} (hk:k<l.length) (h:kx l x k) (h2:¬ l[k].number=x.number):kx l x (k+1):=by
 unfold kx at *;rw[List.take_succ_eq_append_getElem hk,List.any_append,h];simp[h2]
theorem Ai {l:List Note} {x:Note} {k i:Nat} (hki:k<i) (hk:k<l.length) (h2:l[k].number=x.number):sP l i x=false:=by
 unfold sP;rw[Bool.not_eq_false',List.any_eq_true];exact⟨l[k],List.mem_take_iff_getElem.2 ⟨k,by omega,rfl⟩,by simp[h2]⟩
@[simp] abbrev KF:List Nat:=[0,1,2,4,5,7,8,9,10,11,49,57,60,73,85,91,103,113]
theorem Af (n:Notes) (i:Nat) (x:Note) (hx:n.notes[i]?=some x) (hl:n.notes.length<1000) (hr:n.reg.length<1000):zP prog G 231 [l6 n,iv (i:Int)] (bv (lB n i x)):=by
 refine zf func231 ntmps231 ?_;try simp only[l6,iv]
 have hi:i<n.notes.length:=e7 hx;have hxe:n.notes[i]=x:=(List.getElem?_eq_some_iff.1 hx).2;have c1:=aZ (G:=G) x.number 1 9999;have c2:=aZ (G:=G) x.day 0 14610;have c3:=aZ (G:=G) x.frm 1 x.to;have c4:=kR (G:=G) n.reg x.drawing x.letter (by omega);simp only[B1] at c4;generalize hf:(o2 n.reg x.drawing x.letter).isSome=f at *;have c5:∀ (h:x.drawing=0) objs,DCall prog G 137 [A6 n.reg,B1 0 x.letter] objs (λr objs'=>r=.tup [J5 ((o2 n.reg x.drawing x.letter).getD J1),bv f]/\objs'=objs):=λh=>by
  rw[h] at c4 ⊢;exact c4
 simp only[B1] at c5;have hs:=za hxe hi;repeat' first|(with_reducible first|refine zz ?_|refine zr ?_|refine zE KF ?_)|simp -dsimp[hs]|refine zp c1 ?_|refine zp c2 ?_|refine zp c3 ?_|refine zp c4 ?_|refine zp (c5 ‹_›) ?_|refine i7 ?_ ?_<;>intro h<;>try exact h.elim|with_reducible refine j0 ?_ ?_<;>intro h<;>have h0:=h<;>(try simp only[i6] at h)<;>have h2:=h<;>(try simp at h2)<;>replace hs:=za h0 (za h (za h2 hs))
 all_goals try clear hs
 all_goals clear c1 c2 c3 c4 c5 hx
 all_goals try (refine DY ?_;omega)
 all_goals try (refine DX hf ?_;clear hf hxe;simp_all;done)
 all_goals try (refine DW ?_;clear hf hxe;simp_all;done)
 all_goals
  have hF:sP n.notes i x=true->lB n i x=(yZ n.notes i x&&vP n.notes i x):=by
   refine DR hf (by omega) ?_ ?_
   ·clear hxe hf;simp_all
   ·clear hxe hf;simp_all;try omega
 all_goals refine g9 (ι:={ k:Nat // k<=i/\kx n.notes x k }) (λp=>⟨143,[(1,iv (i:Int)),(2,.one (.ptr 0 0)),(5,.one (.ptr 1 0)),(8,bv (BM n.notes x p.1)),(9,iv (p.1:Int))],[.row ((m7 n).map .im),.row ((n8 x).map .im)]⟩) (λp=>i-p.1) ⟨0,by simp[kx]⟩ (zw [1,2,5,8,9] 2 (by clear hF hf hxe;simp[BM, *])) ?_
 all_goals
  rintro⟨k,hk,hno⟩;simp only[iv,bv];by_cases hlt:k<i
  ·have hlk:k<n.notes.length:=by omega
   have hw:=zk k;have hsu:=yp (x:=x) hlk;have hn2:=oS hlk hno;have hbad:=Ai (x:=x) hlt hlk;generalize hy:n.notes[k]=y at *;generalize hb:BM n.notes x k=b at *;cases b
   all_goals
    have hs:=za hxe (za hi (za hy (za hlt (za hlk hw))));repeat' first|(with_reducible first|refine zz ?_|refine zr ?_|refine zE KF ?_)|simp -dsimp[hs]|refine i7 ?_ ?_<;>intro h<;>try exact h.elim
    all_goals try clear hs
   all_goals try (rw[show lB n i x=false from DU (hbad (by assumption))];done)
   all_goals exact zn ⟨k+1,by omega,hn2 (by assumption)⟩ (zw [1,2,5,8,9] 2 (by simp[hsu]))
  ·have e:k=i:=by omega
   subst e;have hT:=hF (by unfold sP;rw[show ((n.notes.take k).any λy=>decide (y.number=x.number))=false from hno];rfl);rw[show yZ n.notes k x=BM n.notes x k from rfl] at hT;by_cases h00:k=0
   ·have hk0:(k:Int)=0:=by omega
    have hs:=za hlt hk0;repeat' first|(with_reducible first|refine zz ?_|refine zr ?_|refine zE KF ?_)|simp -dsimp[hs]|refine i7 ?_ ?_<;>intro h<;>try exact h.elim
    all_goals try clear hs
    rw[hT,vP,if_pos h00,Bool.and_true]
   ·have hk1:k-1<n.notes.length:=by omega
    have hk0:¬ (k:Int)=0:=by omega
    have hw:IntKind.i64.wrap ((k:Int)-1)=((k-1:Nat):Int):=by rw[m9 (by omega) (by omega)];omega
    have h8:vP n.notes k x=yv n.notes[k-1] x:=by rw[vP,if_neg h00,List.getElem?_eq_getElem hk1]
    rw[h8] at hT;generalize hy:n.notes[k-1]=y at *;generalize hb:BM n.notes x k=b at *;cases b
    all_goals
     have hs:=za hxe (za hi (za hy (za hk1 (za hw (za hk0 h00)))));repeat' first|(with_reducible first|refine zz ?_|refine zr ?_|refine zE KF ?_)|simp -dsimp[hs]|refine i7 ?_ ?_<;>intro h<;>try exact h.elim|with_reducible refine j0 ?_ ?_<;>intro h<;>have h0:=h<;>(try simp only[i6] at h)<;>have h2:=h<;>(try simp at h2)<;>replace hs:=za h0 (za h (za h2 hs))
     all_goals try clear hs
    all_goals rw[hT]
    all_goals try (rfl;done)
    all_goals (rw[Bool.true_and,Bool.eq_iff_iff];simp only[yv,Bool.or_eq_true,Bool.and_eq_true,decide_eq_true_eq,iff_true,iff_false,Bool.false_eq_true];omega)
def ti (n:Notes):Prop:=T6 n.reg/\n.notes.length<=16/\∀ x∈n.notes,0<=x.ways/\x.ways<=255/\0<=x.signed/\x.signed<=255
theorem kq {l:List Note} {k:Nat} (h:k<l.length):((j7 (l.take (k+1))).length:Int)=(j7 (l.take k)).length+(if l[k].signed=1 then 1 else 0):=by
 rw[bN l k h];split<;>simp
def fQ (n:Notes):Bool:=decide (n.notes.length<=12)&&(List.range n.notes.length).all (λi=>match n.notes[i]? with|some x=>lB n i x|none=>true)&&decide ((j7 n.notes).length<=5)
theorem rnotesB_iff {n:Notes}:fQ n=true↔n.notes.length<=12/\(∀ (i:Nat) (x:Note),n.notes[i]?=some x->lB n i x=true)/\(j7 n.notes).length<=5:=by
 simp only[fQ,Bool.and_eq_true,decide_eq_true_eq,List.all_eq_true,List.mem_range,and_assoc];refine and_congr_right λ_=>and_congr_left λ_=>⟨λh i x hx=>?_,λh i hi=>?_⟩
 ·have:=h i (List.getElem?_eq_some_iff.1 hx).1;rw[hx] at this;exact this
 ·rw[List.getElem?_eq_getElem hi];exact h i _ (List.getElem?_eq_getElem hi)
theorem tG {n:Notes} (h0:j8 n.reg=0) (hx:∀ x∈n.notes,0<=x.ways):fQ n=cW n:=by
 rw[Bool.eq_iff_iff,rnotesB_iff,notesB_iff];refine and_congr_right λ_=>and_congr_left λ_=>forall_congr' λi=>forall_congr' λx=>?_;exact⟨λh hi=>by rw[<- wE h0 (hx x (List.mem_of_getElem? hi))];exact h hi,λh hi=>by rw[wE h0 (hx x (List.mem_of_getElem? hi))];exact h hi⟩
@[simp] abbrev Ko:List Nat:=[0,1,2,3,4,8,13,19,26]
theorem ud (n:Notes) (hs:ti n):zP prog G 181 [l6 n] (bv (fQ n)):=by
 refine zf func181 ntmps181 ?_;try simp only[l6]
 obtain⟨hsr,hsn,hsx⟩:=hs;have hr:=hsr.1;by_cases hl:n.notes.length<=12
 ·have hli:¬ (12:Int)<n.notes.length:=by omega
  have hs:=hli;repeat' first|(with_reducible first|refine zz ?_|refine zE Ko ?_)|simp -dsimp[hs]|refine i7 ?_ ?_<;>intro h<;>try exact h.elim
  all_goals try clear hs
  refine g9 (ι:={ k:Nat // k<=n.notes.length/\∀ (j:Nat) (x:Note),j<k->n.notes[j]?=some x->lB n j x=true }) (λp=>⟨31,[(1,.one (.ptr 0 0)),(3,iv ((j7 (n.notes.take p.1)).length:Int)),(4,iv (p.1:Int))],[.row ((m7 n).map .im)]⟩) (λp=>n.notes.length-p.1) ⟨0,by simp⟩ (zv [1,3,4] (by simp[j7])) ?_;rintro⟨k,hk,hok⟩;simp only[iv];by_cases hlt:k<n.notes.length
  ·have hx0:n.notes[k]?=some n.notes[k]:=by simp[hlt]
   have hw:=zk k;have hos:=kq hlt;have hol:=Y7 (n.notes.take k);rw[List.length_take] at hol;have hw2:IntKind.i64.wrap (((j7 (n.notes.take k)).length:Int)+1)=((j7 (n.notes.take k)).length:Int)+1:=m9 (by omega) (by omega);have hsx':=hsx n.notes[k] (List.getElem_mem hlt);generalize hx:n.notes[k]=x at *;have c1:=Af (G:=G) n k x hx0 (by omega) (by omega);have hbad:lB n k x=false->fQ n=false:=λh=>by
    rw[<- Bool.not_eq_true];intro hb;have:=(rnotesB_iff.1 hb).2.1 k x hx0;rw[h] at this;cases this
   have hstep:lB n k x=true->∀ (j:Nat) (z:Note),j<k+1->n.notes[j]?=some z->lB n j z=true:=λh j z hj hz=>by
    by_cases e:j=k
    ·subst e;rw[hx0] at hz;cases hz;exact h
    ·exact hok j z (by omega) hz
   generalize lB n k x=q at *;cases q
   ·have hs:=za hx (za hlt hw);repeat' first|(with_reducible first|refine zz ?_|refine zr ?_|refine zE Ko ?_)|simp -dsimp[hs]|refine zp c1 ?_|refine i7 ?_ ?_<;>intro h<;>try exact h.elim
    all_goals try clear hs
    exact hbad rfl
   ·have hs:=za hx (za hlt (za hw hw2));repeat' first|(with_reducible first|refine zz ?_|refine zE Ko ?_)|simp -dsimp[hs]|refine zp c1 ?_|refine i7 ?_ ?_<;>intro h<;>try exact h.elim
    all_goals try clear hs
    all_goals exact zn ⟨k+1,by omega,hstep rfl⟩ (zv [1,3,4] (by simp[hos, *]))
  ·have e:k=n.notes.length:=by omega
   subst e;rw[List.take_length];have hs:=hlt;repeat' first|(with_reducible first|refine zz ?_|refine zr ?_|refine zE Ko ?_)|simp -dsimp[hs]|refine i7 ?_ ?_<;>intro h<;>try exact h.elim
   all_goals try clear hs
   rw[Bool.eq_iff_iff,rnotesB_iff];simp only[decide_eq_true_eq];constructor
   ·intro h;exact⟨hl,λj x hx=>hok j x (e7 hx) hx,by omega⟩
   ·intro h;have:=h.2.2;omega
 ·have hli:(12:Int)<n.notes.length:=by omega
  have hs:=hli;repeat' first|(with_reducible first|refine zz ?_|refine zr ?_|refine zE Ko ?_)|simp -dsimp[hs]|refine i7 ?_ ?_<;>intro h<;>try exact h.elim
  all_goals try clear hs
  exact Bool.eq_false_iff.2 λh=>hl (rnotesB_iff.1 h).1
theorem xc (n:Notes) (hs:ti n) (h0:j8 n.reg=0) (objs:List DObj):DCall prog G 181 [l6 n] objs (λrr objs'=>rr=bv (cW n)/\objs'=objs):=by
 rw[<- tG h0 λx hx=>(hs.2.2 x hx).1];exact ud n hs objs
theorem pH (n:Notes) (hs:ti n):zP prog G 133 [l6 n] (iv (r7 n)):=by
 refine zf func133 ntmps133 ?_;try simp only[l6]
 have c1:=oA (G:=G) n.reg hs.1;by_cases h0:j8 n.reg=0
 ·have c2:=xc (G:=G) n hs h0;have hE:r7 n=if cW n then 0 else 30:=by unfold r7;rw[if_neg (by simp[h0])]
  rw[h0] at c1;generalize cW n=q at *;cases q
  ·have hs:=trivial;repeat' first|(with_reducible first|refine zz ?_|refine zr ?_|refine zE [0,1,2,3,8,12] ?_)|simp -dsimp[hs]|refine zp c1 ?_|refine zp c2 ?_|refine i7 ?_ ?_<;>intro h<;>try exact h.elim
   all_goals try clear hs
   all_goals simp[hE]
  ·have hs:=trivial;repeat' first|(with_reducible first|refine zz ?_|refine zr ?_|refine zE [0,1,2,3,8,12] ?_)|simp -dsimp[hs]|refine zp c1 ?_|refine zp c2 ?_|refine i7 ?_ ?_<;>intro h<;>try exact h.elim
   all_goals try clear hs
   all_goals simp[hE]
 ·have hE:r7 n=j8 n.reg:=by unfold r7;rw[if_pos h0]
  have hs:=h0;repeat' first|(with_reducible first|refine zz ?_|refine zr ?_|refine zE [0,1,2,3,8,12] ?_)|simp -dsimp[hs]|refine zp c1 ?_|refine i7 ?_ ?_<;>intro h<;>try exact h.elim
  all_goals try clear hs
  all_goals simp[hE]
def N3 (G:Hn):Prop:=G 5=some [.fn (.func 325) [],.fn (.func 326) [],.fn (.func 327) [],.fn (.func 328) [],.fn (.func 329) [],.fn (.func 330) [],.fn (.func 333) [],.fn (.func 335) []]
def E7 (G:Hn):Prop:=∀ (l:List Int) (g sz:Nat) (nl:Bool),(sz=1\/nl=true/\l=[])->l.length<1000000->DCall prog G 148 [.one (.vec 0 g 0 l.length)] [.vec sz (l8 (l.map encI)) g nl] (λd o=>d=.tup []/\o=[.vec sz (l8 ((l4 l).map encI)) g nl])
def O9 (n:Notes):IC:=.ip [.sl (n.reg.map e9),.sl (n.notes.map n8),.sl ((nums n.reg).map encI),.sl ((l4 (j7 n.notes)).map encI)]
def co (n:Notes):DV:=if r7 n=0 then .one (.im (O9 n)) else .one (.im (.raw (.pointer none)))
theorem xT (n:Notes):ImV (co n):=by unfold co;split<;>simp[O9]
attribute [simp] xT
theorem qK {n:Notes} {i:Nat} {x:Note} (h0:j8 n.reg=0) (hx:n.notes[i]?=some x) (h:ue n i x=false):r7 n=30:=by
 unfold r7;rw[if_neg (by simp[h0]),if_neg];intro hb;have:=(notesB_iff.1 hb).2.1 i x hx;rw[h] at this;cases this
@[simp] abbrev Lp:List Nat:=[0,1,2,3,4,5,6,7,8,9,11,19,24,30,31,32,33,37,38,39,46,50,71]
@[simp] abbrev Jf:List Nat:=[1,2,3,6,7,30,31,32]
theorem oP (n:Notes) (hG:s9 G) (hN:N3 G) (hS:E7 G) (hs:ti n):zP prog G 160 [l6 n] (.tup [co n,iv (r7 n)]):=by
 refine zf func160 ntmps160 ?_;try simp only[l6]
 have hN':G 5=some [.fn (.func 325) [],.fn (.func 326) [],.fn (.func 327) [],.fn (.func 328) [],.fn (.func 329) [],.fn (.func 330) [],.fn (.func 333) [],.fn (.func 335) []]:=hN;obtain⟨hsr,hsn,hsx⟩:=hs;have c1:=bT n.reg hG hsr;by_cases h0:j8 n.reg=0
 ·rw[h0,show dl n.reg=nums n.reg by simp[dl,h0]] at c1;by_cases hl:n.notes.length<=12
  ·have hli:¬ (12:Int)<n.notes.length:=by omega
   have hE:r7 n=if cW n then 0 else 30:=by unfold r7;rw[if_neg (by simp[h0])]
   have hs:=hli;repeat' first|with_reducible refine zz ?_|simp -dsimp[hs]|refine zp c1 ?_|with_reducible refine O2 (id:=6) (nt:=78) Lp rfl ?_;simp -dsimp[hs]|with_reducible refine zE Lp ?_|refine i7 ?_ ?_<;>intro h<;>try exact h.elim
   all_goals try clear hs
   refine g9 (ι:={ p:Nat×Nat×Nat×Bool // p.1<=n.notes.length/\(p.2.2.1=1\/p.2.2.2=true/\j7 (n.notes.take p.1)=[])/\∀ (j:Nat) (x:Note),j<p.1->n.notes[j]?=some x->ue n j x=true }) (λp=>⟨78,[(1,.one (.ptr 0 0)),(2,.one (.im (.raw (.pointer none)))),(3,iv 0),(6,.one (.ptr 5 0)),(7,bv false),(30,.one (.im (.sl (n.notes.map n8)))),(31,iv (n.notes.length:Int)),(32,iv (p.1.1:Int))],[.row ((m7 n).map .im),.vec 0 [] 0 true,.vec 0 [] 0 true,.vec 0 [] 0 true,.vec p.1.2.2.1 (l8 ((j7 (n.notes.take p.1.1)).map encI)) p.1.2.1 p.1.2.2.2,.row [.im (.sl (n.reg.map e9)),.im (.sl (n.notes.map n8)),.im (.sl ((nums n.reg).map encI)),.vec 4 p.1.2.1 0 (j7 (n.notes.take p.1.1)).length]]⟩) (λp=>n.notes.length-p.1.1) ⟨(0,0,0,true),by simp[j7]⟩ (zw Jf 6 (by simp[j7])) ?_;rintro⟨⟨k,g,sz,nl⟩,hk,hsz,hok⟩;simp only at hk hsz hok;simp only[iv,bv];by_cases hlt:k<n.notes.length
   ·have hx0:n.notes[k]?=some n.notes[k]:=by simp[hlt]
    have hw:=zk k;have hos:=bN n.notes k hlt;have hol:=Y7 (n.notes.take k);rw[List.length_take] at hol;generalize hx:n.notes[k]=x at *;have k1:=EB (G:=G) n k x hx0;have k2:=EA (G:=G) n k x hx0;have k3:=Ez (G:=G) n k x hx0;have k4:=Ey (G:=G) n k x hx0 hG hsr;have k5:=Ex (G:=G) n k x hx0;have k6:=Ew (G:=G) n k x hx0 (by omega);have k7:=Ev (G:=G) n k x hx0 (by omega);have k8:=Eu (G:=G) n k x hx0 (by omega);rw[show CG x=oT n k x 0 from rfl] at k1;rw[show CF x=oT n k x 1 from rfl] at k2;rw[show CE x=oT n k x 2 from rfl] at k3;rw[show BF n.reg x=oT n k x 3 from rfl] at k4;rw[show CD x=oT n k x 4 from rfl] at k5;rw[show yZ n.notes k x=oT n k x 5 from rfl] at k6;rw[show sP n.notes k x=oT n k x 6 from rfl] at k7;rw[show vP n.notes k x=oT n k x 7 from rfl] at k8;have hbad:∀ c,oT n k x c=false->r7 n=30:=λc h=>qK h0 hx0 (Ag h);have hstep:ue n k x=true->∀ (j:Nat) (z:Note),j<k+1->n.notes[j]?=some z->ue n j z=true:=λh j z hj hz=>by
     by_cases e:j=k
     ·subst e;rw[hx0] at hz;cases hz;exact h
     ·exact hok j z (by omega) hz
    have hs:=za hx (za hlt hN');repeat' first|(with_reducible first|refine zz ?_|refine zE Lp ?_)|simp -dsimp[hs]|refine i7 ?_ ?_<;>intro h<;>try exact h.elim
    all_goals try clear hs
    refine g9 (ι:={ c:Nat // c<=8/\∀ e<c,oT n k x e=true }) (λp=>⟨78,[(1,.one (.ptr 0 0)),(2,.one (.im (.raw (.pointer none)))),(3,iv 0),(6,.one (.ptr 5 0)),(7,bv false),(8,iv (k:Int)),(9,.one (.ptr 6 0)),(30,.one (.im (.sl (n.notes.map n8)))),(31,iv (n.notes.length:Int)),(32,iv (k:Int)),(37,.agg [.im (.fn (.func 325) []),.im (.fn (.func 326) []),.im (.fn (.func 327) []),.im (.fn (.func 328) []),.im (.fn (.func 329) []),.im (.fn (.func 330) []),.im (.fn (.func 333) []),.im (.fn (.func 335) [])]),(38,iv (p.1:Int))],[.row ((m7 n).map .im),.vec 0 [] 0 true,.vec 0 [] 0 true,.vec 0 [] 0 true,.vec sz (l8 ((j7 (n.notes.take k)).map encI)) g nl,.row [.im (.sl (n.reg.map e9)),.im (.sl (n.notes.map n8)),.im (.sl ((nums n.reg).map encI)),.vec 4 g 0 (j7 (n.notes.take k)).length],.row ((n8 x).map .im)]⟩) (λp=>8-p.1) ⟨0,by simp⟩ (zv [1,2,3,6,7,8,9,30,31,32,37,38]) ?_;rintro⟨c,hc,hcc⟩;simp only[iv,bv];by_cases hc8:c<8
    ·have hm:oT n k x c=true->∀ e<c+1,oT n k x e=true:=λh e he=>by
      rcases Nat.lt_succ_iff_lt_or_eq.1 he with h1|rfl
      ·exact hcc e h1
      ·exact h
     have hbc:=hbad c;have hi8:c=0\/c=1\/c=2\/c=3\/c=4\/c=5\/c=6\/c=7:=by omega
     rcases hi8 with rfl|rfl|rfl|rfl|rfl|rfl|rfl|rfl
     all_goals
      have hs:=hli;repeat' first|(with_reducible first|refine zz ?_|refine Gu (by decide) ?_|refine zr ?_|refine zE Lp ?_)|simp -dsimp[hs]|refine zp k1 ?_|refine zp k2 ?_|refine zp k3 ?_|refine zp k4 ?_|refine zp k5 ?_|refine zp k6 ?_|refine zp k7 ?_|refine zp k8 ?_|refine i7 ?_ ?_<;>intro h<;>try exact h.elim
      all_goals try clear hs
     all_goals try (have h30:=hbc (by assumption);simp[co,h30];done)
     all_goals exact At.round ⟨_,by omega,hm (by assumption)⟩ (by simp) (zw [1,2,3,6,7,8,9,30,31,32,37,38] 7 (by simp;exact m9 (by omega) (by omega)))
    ·obtain rfl:c=8:=by omega
     have hok1:=hstep (Ah hcc);have hsz':sz=1\/nl=true:=hsz.imp id And.left;clear k1 k2 k3 k4 k5 k6 k7 k8;by_cases hsg:x.signed=1
     ·rw[if_pos hsg] at hos;have hs:=za hx (za hlt (za hsg (za hw hsz')));repeat' first|(with_reducible first|refine zz ?_|refine And.intro (by omega) ?_)|simp -dsimp[hs]|refine q8 (id:=18) (nt:=78) 8 [0] [0,1,2,3,4,5,6,7,8,9,11,19,24,30,31,32,33,37,38,39,46,50,52,53,54,55,56,57,58,71] Lp mixed rfl (by kernel_rfl) ?_|with_reducible refine zE Lp ?_|refine i7 ?_ ?_<;>intro h<;>try exact h.elim
      all_goals try clear hs
      exact zn ⟨(k+1,g+1,1,false),by omega,.inl rfl,hok1⟩ (zw Jf 6 (by simp[hos]))
     ·rw[if_neg hsg,List.append_nil] at hos;have hszn:sz=1\/nl=true/\j7 (n.notes.take (k+1))=[]:=by rw[hos];exact hsz
      have hs:=za hx (za hlt (za hsg hw));repeat' first|(with_reducible first|refine zz ?_|refine zE Lp ?_)|simp -dsimp[hs]|refine i7 ?_ ?_<;>intro h<;>try exact h.elim
      all_goals try clear hs
      exact zn ⟨(k+1,g,sz,nl),by omega,hszn,hok1⟩ (zw Jf 6 (by simp[hos]))
   ·obtain rfl:k=n.notes.length:=by omega
    rw[List.take_length] at *;have hall:gP n:=λi x hx=>hok i x (e7 hx) hx;have hol:=Y7 n.notes;have c2:=hS (j7 n.notes) g sz nl hsz (by omega);have hil:=T3 (j7 n.notes);by_cases h5:(j7 n.notes).length<=5
    ·have hE0:r7 n=0:=by rw[hE,if_pos (notesB_iff.2 ⟨hl,hall,h5⟩)]
     have h5i:¬ (5:Int)<(j7 n.notes).length:=by omega
     have hsz':sz=1\/nl=true:=hsz.imp id And.left;have htk:(l8 ((l4 (j7 n.notes)).map encI)).take (j7 n.notes).length=l8 ((l4 (j7 n.notes)).map encI):=List.take_of_length_le (by simp[o3,hil]);have hs:=za hlt (za h5i (za hsz' (za htk hil)));repeat' first|(with_reducible first|refine zz ?_|refine zr ?_|refine zE Lp ?_)|simp -dsimp[hs]|refine CallE.embed [4] (c2) ?_ ?_ ?_ ?_ ?_ ?_;(focus simp[D6];done);(focus simp;done);(focus simp;done);(focus simp;done);(focus refine C4 ?_;simp[D6,D5];done);try simp -dsimp[u7,D6,hs]|refine i7 ?_ ?_<;>intro h<;>try exact h.elim
     all_goals try clear hs
     all_goals simp[co,hE0,O9,hil,htk]
    ·have hE0:r7 n=30:=by rw[hE,if_neg λh=>h5 (notesB_iff.1 h).2.2]
     have h5i:(5:Int)<(j7 n.notes).length:=by omega
     have hs:=za hlt h5i;repeat' first|(with_reducible first|refine zz ?_|refine zr ?_|refine zE Lp ?_)|simp -dsimp[hs]|refine i7 ?_ ?_<;>intro h<;>try exact h.elim
     all_goals try clear hs
     all_goals simp[co,hE0]
  ·have hE:r7 n=30:=by
    unfold r7;rw[if_neg (by simp[h0]),if_neg λh=>hl (notesB_iff.1 h).1]
   have hli:(12:Int)<n.notes.length:=by omega
   have hs:=hli;repeat' first|(with_reducible first|refine zz ?_|refine zr ?_|refine zE Lp ?_)|simp -dsimp[hs]|refine zp c1 ?_|refine i7 ?_ ?_<;>intro h<;>try exact h.elim
   all_goals try clear hs
   all_goals simp[co,hE]
 ·have hE:r7 n=j8 n.reg:=by unfold r7;rw[if_pos h0]
  have hs:=h0;repeat' first|(with_reducible first|refine zz ?_|refine zr ?_|refine zE Lp ?_)|simp -dsimp[hs]|refine zp c1 ?_|refine i7 ?_ ?_<;>intro h<;>try exact h.elim
  all_goals try clear hs
  all_goals simp[co,hE,h0]
theorem xe (n:Notes) (hG:s9 G) (hN:N3 G) (hS:E7 G) (hs:ti n):zP prog G 227 [l6 n] (iv (r7 n)):=by
 refine zf func227 ntmps227 ?_;try simp only[l6]
 have c1:=oP n hG hN hS hs;have hs:=trivial;repeat' first|(with_reducible first|refine zz ?_|refine zr ?_|refine zE [0,1,2,4] ?_)|simp -dsimp[hs]|refine zp c1 ?_
 all_goals try clear hs
theorem tE {O:List Int} {j:Nat} (hd:O.Nodup) (hj:j<O.length):nk O[j] (O.take j)=O.take (j+1):=by
 unfold nk;rw[if_neg,List.take_succ_eq_append_getElem hj];intro hm;obtain⟨i,hi,e⟩:=List.mem_take_iff_getElem.1 hm;have:=(List.getElem_inj hd).1 e;omega
@[simp] abbrev LD:List Nat:=[0,1,4,5,7,8,9,14,15,16,17,23,24,25,26,46]
theorem zu (a b c:IC) (O s:List Int) (hd:O.Nodup) (hO:O.length<1000) (hsl:s.length<1000):zP prog G 161 [.one (.im (.ip [a,b,c,.sl (O.map encI)])),n9 s] (iv (if F4 O s then 0 else 31)):=by
 refine zf func161 ntmps161 ?_;try simp only[n9]
 have hs:=trivial;repeat' first|(with_reducible first|refine zz ?_|refine zE LD ?_)|simp -dsimp[hs]
 refine g9 (ι:={ j:Nat // j<=O.length }) (λp=>⟨50,[(1,n9 s),(4,iv 0),(5,.one (.map 0)),(14,.one (.im (.sl (O.map encI)))),(15,iv (O.length:Int)),(16,iv (p.1:Int))],[.map [.int .i64] (I6 (O.take p.1))]⟩) (λp=>O.length-p.1) ⟨0,by omega⟩ (zv [1,4,5,14,15,16] (by simp[I6])) ?_;rintro⟨j,hj⟩;simp only[iv,n9];by_cases hlt:j<O.length
 ·have hw:=zk j;have hst:=tE hd hlt;generalize hx:O[j]=x at *;have hs:=za hx (za hlt (za hw hst));repeat' first|(with_reducible first|refine zz ?_|refine zE LD ?_)|simp -dsimp[hs]|refine i7 ?_ ?_<;>intro h<;>try exact h.elim
  exact zn ⟨j+1,by omega⟩ (zv [1,4,5,14,15,16] (by simp[hst]))
 ·obtain rfl:j=O.length:=by omega
  rw[List.take_length];have hs:=hlt;repeat' first|(with_reducible first|refine zz ?_|refine zE LD ?_)|simp -dsimp[hs]|refine i7 ?_ ?_<;>intro h<;>try exact h.elim
  refine g9 (ι:={ p:Nat×List Int // p.1<=s.length/\p.2.Nodup/\(∀ m,m∈p.2↔m∈O/\m∉s.take p.1)/\bC O s p.1 }) (λp=>⟨50,[(1,n9 s),(5,.one (.map 0)),(23,n9 s),(24,iv (s.length:Int)),(25,iv (p.1.1:Int))],[.map [.int .i64] (I6 p.1.2)]⟩) (λp=>s.length-p.1.1) ⟨(0,O),by simp,hd,by simp,λi v h=>by omega⟩ (zv [1,5,23,24,25]) ?_;rintro⟨⟨i,L⟩,hi,hLd,hLm,hto⟩;simp only at hi hLd hLm hto;simp only[iv,n9];by_cases hlt2:i<s.length
  ·have hx0:s[i]?=some s[i]:=by simp[hlt2]
   have hw:=zk i;have hLv:=hLm s[i];have hLn:∀ m,m∈L.erase s[i]↔m∈O/\m∉s.take (i+1):=λm=>by
    rw[hLd.mem_erase_iff,hLm,List.take_succ_eq_append_getElem hlt2];simp only[List.mem_append,List.mem_singleton,not_or];exact⟨λh=>⟨h.2.1,h.2.2,h.1⟩,λh=>⟨h.2.2,h.1,h.2.1⟩⟩
   have hLe:=hLd.erase s[i];generalize hv:s[i]=v at *;by_cases hmem:v∈L
   ·have hmd:decide (v∈L)=true:=by simp[hmem]
    by_cases h00:i=0
    ·have hnext:=X4 hto hx0 (hLv.1 hmem).1 (λj u e=>by omega);subst h00;have hs:=za hv (za hlt2 (za hmd hmem));repeat' first|(with_reducible first|refine zz ?_|refine zE LD ?_)|simp -dsimp[hs]|refine i7 ?_ ?_<;>intro h<;>try exact h.elim
     exact zn ⟨(0+1,L.erase v),by omega,hLe,hLn,hnext⟩ (zv [1,5,23,24,25] (by simp;exact m9 (by omega) (by omega)))
    ·have hq:i-1<s.length:=by omega
     have hwq:IntKind.i64.wrap ((i:Int)-1)=((i-1:Nat):Int):=by rw[m9 (by omega) (by omega)];omega
     have hi0:(0:Int)<(i:Int):=by omega
     have hin0:0<i:=by omega
     have hu0:s[i-1]?=some s[i-1]:=by simp[hq]
     have hnin:s[i-1]≠v:=λe=>(hLv.1 hmem).2 (e ▸ List.mem_take_iff_getElem.2 ⟨i-1,by omega,rfl⟩);generalize hu:s[i-1]=u at *;by_cases hlu:v<u
     ·have hb:=dE (o:=O) hx0 (.inr ⟨i-1,u,by omega,hu0,by omega⟩);have hs:=za hv (za hu (za hq (za hlt2 (za hw (za hwq (za hmd (za hmem (za hi0 (za hin0 hlu)))))))));repeat' first|(with_reducible first|refine zz ?_|refine zr ?_|refine zE LD ?_)|simp -dsimp[hs]|refine i7 ?_ ?_<;>intro h<;>try exact h.elim
      all_goals simp[hb]
     ·have hnext:=X4 hto hx0 (hLv.1 hmem).1 (λj u' e hu'=>by
       obtain rfl:i-1=j:=by omega
       rw[hu0] at hu';cases hu';omega)
      have hs:=za hv (za hu (za hq (za hlt2 (za hw (za hwq (za hmd (za hmem (za hi0 (za hin0 hlu)))))))));repeat' first|(with_reducible first|refine zz ?_|refine zE LD ?_)|simp -dsimp[hs]|refine i7 ?_ ?_<;>intro h<;>try exact h.elim
      exact zn ⟨(i+1,L.erase v),by omega,hLe,hLn,hnext⟩ (zv [1,5,23,24,25])
   ·have hmd:decide (v∈L)=false:=by simp[hmem]
    have hb:F4 O s=false:=by
     refine dE hx0 ?_;by_cases ho:v∈O
     ·refine .inr ?_;cases i with
      | zero=>exact absurd (hLv.2 ⟨ho,by simp⟩) hmem
      | succ q =>
        have hq:q<s.length:=by omega
        refine⟨q,s[q],rfl,by simp[hq],Int.not_lt.1 λhlt3=>hmem (hLv.2 ⟨ho,ol hto hq hlt3⟩)⟩
     ·exact .inl ho
    have hs:=za hv (za hlt2 (za hmd hmem));repeat' first|(with_reducible first|refine zz ?_|refine zr ?_|refine zE LD ?_)|simp -dsimp[hs]|refine i7 ?_ ?_<;>intro h<;>try exact h.elim
    all_goals simp[hb]
  ·have hb:F4 O s=true:=eK (iU (by rwa [show i=s.length by omega] at hto));have hs:=hlt2;repeat' first|(with_reducible first|refine zz ?_|refine zr ?_|refine zE LD ?_)|simp -dsimp[hs]|refine i7 ?_ ?_<;>intro h<;>try exact h.elim
   all_goals simp[hb]
def w7 (n:Notes) (s:List Int) (m:Int):Int:=if r7 n≠0 then r7 n else if F4 (l4 (j7 n.notes)) s=false then 31 else if 1<=m/\m<=999 then 0 else 2
def aj (n:Notes) (s:List Int) (m:Int):DV:=if w7 n s m=0 then .one (.im (O9 n)) else .one (.im (.raw (.pointer none)))
theorem ve (n:Notes) (s:List Int) (m:Int):ImV (aj n s m):=by unfold aj;split<;>simp[O9]
attribute [simp] ve
theorem V3 {n:Notes} (h:r7 n=0):j8 n.reg=0/\n.notes.length<=12/\gP n/\(j7 n.notes).length<=5:=by
 unfold r7 at h;split at h
 ·contradiction
 ·split at h
  ·rename_i h1 h2;exact⟨by simpa using h1,notesB_iff.1 h2⟩
  ·cases h
@[simp] abbrev KG:List Nat:=[0,1,2,3,6,7,8,9,10,17,23,28]
theorem Bh (n:Notes) (s:List Int) (m:Int) (hG:s9 G) (hN:N3 G) (hS:E7 G) (hs:ti n) (hsl:s.length<1000):zP prog G 102 [l6 n,n9 s,iv m] (.tup [aj n s m,iv (w7 n s m)]):=by
 refine zf func102 ntmps102 ?_;try simp only[l6,n9,iv]
 have c1:=oP n hG hN hS hs;by_cases h0:r7 n=0
 ·rw[h0,show co n=.one (.im (O9 n)) by unfold co;rw[if_pos h0]] at c1;have hok:=V3 h0;have hnl:=hs.2.1;have hol:=Y7 n.notes;have c2:=zu (G:=G) (.sl (n.reg.map e9)) (.sl (n.notes.map n8)) (.sl ((nums n.reg).map encI)) (l4 (j7 n.notes)) s (pc (cV hok.2.2.1)) (by rw[T3];omega) hsl;have c3:=gl (G:=G) 1 999 [m] (by simp);have hE:w7 n s m=if F4 (l4 (j7 n.notes)) s=false then 31 else if 1<=m/\m<=999 then 0 else 2:=by unfold w7;rw[if_neg (by simp[h0])]
  simp only[O9] at c1;cases ht:F4 (l4 (j7 n.notes)) s
  ·rw[ht] at c2 hE;have hE:w7 n s m=31:=by rw[hE];rfl
   have hs:=trivial;repeat' first|(with_reducible first|refine zz ?_|refine zr ?_|refine zE KG ?_)|simp -dsimp[hs]|refine zp c1 ?_|refine zp c2 ?_|refine i7 ?_ ?_<;>intro h<;>try exact h.elim
   all_goals try clear hs
   all_goals simp[aj,hE]
  ·rw[ht] at c2 hE;by_cases hm:1<=m/\m<=999
   ·have hE:w7 n s m=0:=by rw[hE,if_neg (by simp),if_pos hm]
    have hin:([m].all λx=>decide (1<=x)&&decide (x<=999))=true:=by simp[hm]
    rw[hin] at c3;have hs:=trivial;repeat' first|(with_reducible first|refine zz ?_|refine zr ?_|refine zE KG ?_)|simp -dsimp[hs]|refine zp c1 ?_|refine zp c2 ?_|refine zt c3 ?_ ?_ ?_;(focus simp;done);focus (simp;done)|refine i7 ?_ ?_<;>intro h<;>try exact h.elim
    all_goals try clear hs
    all_goals simp[aj,hE,O9]
   ·have hE:w7 n s m=2:=by rw[hE,if_neg (by simp),if_neg hm]
    have hin:([m].all λx=>decide (1<=x)&&decide (x<=999))=false:=by simp;omega
    rw[hin] at c3;have hs:=trivial;repeat' first|(with_reducible first|refine zz ?_|refine zr ?_|refine zE KG ?_)|simp -dsimp[hs]|refine zp c1 ?_|refine zp c2 ?_|refine zt c3 ?_ ?_ ?_;(focus simp;done);focus (simp;done)|refine i7 ?_ ?_<;>intro h<;>try exact h.elim
    all_goals try clear hs
    all_goals simp[aj,hE]
 ·rw[show co n=.one (.im (.raw (.pointer none))) by unfold co;rw[if_neg h0]] at c1;have hE:w7 n s m=r7 n:=by unfold w7;rw[if_pos h0]
  have hs:=h0;repeat' first|(with_reducible first|refine zz ?_|refine zr ?_|refine zE KG ?_)|simp -dsimp[hs]|refine zp c1 ?_|refine i7 ?_ ?_<;>intro h<;>try exact h.elim
  all_goals try clear hs
  all_goals simp[aj,hE,h0]
def De (n:Notes) (s:List Int) (m d:Int):Int:=if w7 n s m≠0 then w7 n s m else if d∈nums n.reg then 0 else 6
def xZ (n:Notes) (s:List Int) (m d:Int):DV:=if De n s m d=0 then .one (.im (O9 n)) else .one (.im (.raw (.pointer none)))
theorem uL (n:Notes) (s:List Int) (m d:Int):ImV (xZ n s m d):=by unfold xZ;split<;>simp[O9]
attribute [simp] uL
end Go.Proofs
namespace Go.Ab
open Go
structure Holder where
 id:Int
 frm:Int
 to:Int
 draws:List Int
 deriving DecidableEq
structure Print where
 number:Int
 day:Int
 holder:Int
 drawing:Int
 letter:Int
 back:Int
 lost:Int
 deriving DecidableEq
structure Prints where
 n:Notes
 holders:List Holder
 prints:List Print
 deriving DecidableEq
def o8 (x:Holder):List IC:=[rI x.id,rI x.frm,rI x.to,.sl (x.draws.map encI)]
def A0 (x:Print):List IC:=[rI x.number,rI x.day,rI x.holder,rI x.drawing,rI x.letter,rI x.back,.raw (.int .u8 x.lost)]
def m6 (p:Prints):List IC:=[.sl (p.n.reg.map e9),.sl (p.n.notes.map n8),.sl (p.holders.map o8),.sl (p.prints.map A0)]
def jb (x:Holder):DV:=.agg ((o8 x).map .im)
def bL (x:Print):DV:=.agg ((A0 x).map .im)
def r9 (p:Prints):DV:=.agg ((m6 p).map .im)
attribute [simp] o8 A0 m6 jb bL r9
end Go.Ab
namespace Go.Proofs
open Go Go.Ab
variable {G:Hn}
theorem rg (x lo hi:Int):DCall Tryz.prog G 238 (iv x :: [DC.ptr 0 0,DC.ptr 1 0].map .one) [.row [.im (rI lo)],.row [.im (rI hi)]] (λd o=>d=bv (decide (x<lo)||decide (hi<x))/\o=[.row [.im (rI lo)],.row [.im (rI hi)]]):=by
 refine i8 Tryz.func238 rfl Tryz.ntmps238 (by simp) rfl ?_;simp only[rI];have hs:=trivial;repeat' first|(with_reducible first|refine zz ?_|refine zr ?_|refine zE [0,1,2,4] ?_)|simp -dsimp[hs]|with_reducible refine j0 ?_ ?_<;>intro h<;>have h0:=h<;>(try simp only[i6] at h)<;>have h2:=h<;>(try simp at h2)<;>replace hs:=za h0 (za h (za h2 hs))|with_reducible refine And.intro ?_ ?_
 all_goals try clear hs
 all_goals simp[*]
theorem T4 (lo hi:Int) (l:List Int) (hl:l.length<1000000):zP Tryz.prog G 190 [iv lo,iv hi,n9 l] (bv (l.all λx=>decide (lo<=x)&&decide (x<=hi))):=by
 refine zf Tryz.func190 Tryz.ntmps190 ?_;try simp only[iv,iv,n9]
 have hc:=B9 (G:=G) l (λx=>decide (x<lo)||decide (hi<x)) 238 [.ptr 0 0,.ptr 1 0] [.row [.im (rI lo)],.row [.im (rI hi)]] (by simp) (λx _=>rg x lo hi) hl;simp only[rI] at hc;repeat' first|(with_reducible first|refine zz ?_|refine zx ?_|refine zE [0,1,2,3,4,6] ?_)|simp -dsimp|refine CallE.here hc ?_
 rw[Bool.eq_iff_iff];simp;exact exists_congr λx=>and_congr_right λ_=>by omega
@[simp] abbrev Lc:List Nat:=[0,1,4,5,7,8,9,16]
theorem cZ (l:List Holder) (p:Holder->Bool) (k:Nat) (caps:List DC) (objs:List DObj) (hok:D9 Tryz.prog k) (hf:∀ x∈l,DCall Tryz.prog G k (jb x :: caps.map .one) objs (λd o=>d=bv (p x)/\o=objs)) (hl:l.length<1000000):DCall Tryz.prog G 178 [.one (.im (.sl (l.map o8))),.one (.fn (.func k) caps)] objs (λd o=>d=iv (I5 p l)/\o=objs):=by
 refine i8 Tryz.func178 rfl Tryz.ntmps178 (by simp) rfl ?_;have hs:=trivial;repeat' first|(with_reducible first|refine zz ?_|refine zE Lc ?_)|simp -dsimp[hs]
 refine g9 (ι:={ k:Nat // k<=l.length/\∀ j x,j<k->l[j]?=some x->p x=false }) (λi=>⟨19,[(0,.one (.im (.sl (l.map o8)))),(1,.one (.fn (.func k) caps)),(7,iv (l.length:Int)),(8,iv (i.1:Int))],objs⟩) (λi=>l.length-i.1) ⟨0,by simp⟩ (zv [0,1,7,8]) ?_;rintro⟨i,hi,hno⟩;simp only[iv];by_cases hlt:i<l.length
 ·have hx:l[i]?=some l[i]:=by simp[hlt]
  have hw:=zk i;have hc:=hf l[i] (by simp);simp only[jb,o8,List.map_cons,List.map_nil,bv,rI] at hc;have hs:=za hx (za hw hok);repeat' first|(with_reducible first|refine zz ?_|refine And.intro (by omega) ?_|refine zr ?_|refine zE Lc ?_)|simp -dsimp[hs]|refine CallE.here hc ?_|refine i7 ?_ ?_<;>intro h<;>try exact h.elim|with_reducible refine And.intro ?_ ?_
  all_goals try omega
  ·exact(I4 hx (by assumption) hno).symm
  ·exact At.round ⟨i+1,by omega,λj x hj hjx=>by
    by_cases e:j=i
    ·subst e;rw[hx] at hjx;cases hjx;assumption
    ·exact hno j x (by omega) hjx⟩ (by simp;omega) (zv [0,1,7,8])
 ·have hs:=trivial;repeat' first|(with_reducible first|refine zz ?_|refine zr ?_|refine zE Lc ?_)|simp -dsimp[hs]|refine i7 ?_ ?_<;>intro h<;>try exact h.elim|with_reducible refine And.intro ?_ ?_
  all_goals try omega
  exact(Q4 λj x hjx=>hno j x (by have:=e7 hjx;omega) hjx).symm
theorem gH (l:List Holder) (p:Holder->Bool) (k:Nat) (caps:List DC) (objs:List DObj) (hok:D9 Tryz.prog k) (hf:∀ x∈l,DCall Tryz.prog G k (jb x :: caps.map .one) objs (λd o=>d=bv (p x)/\o=objs)) (hl:l.length<1000000):DCall Tryz.prog G 120 [.one (.im (.sl (l.map o8))),.one (.fn (.func k) caps)] objs (λd o=>d=bv (l.any p)/\o=objs):=by
 refine i8 Tryz.func120 rfl Tryz.ntmps120 (by simp) rfl ?_;have hc:=cZ l p k caps objs hok hf hl;repeat' first|(with_reducible first|refine zz ?_|refine zx ?_|refine zE [0,1,4] ?_)|simp -dsimp|refine CallE.here hc ?_|with_reducible refine And.intro ?_ ?_
 simp[w9]
theorem lK (l:List Issue) (p:Issue->Bool) (k:Nat) (caps:List DC) (objs:List DObj) (hok:D9 Tryz.prog k) (hf:∀ x∈l,DCall Tryz.prog G k (J5 x :: caps.map .one) objs (λd o=>d=bv (p x)/\o=objs)) (hl:l.length<1000000):DCall Tryz.prog G 344 [.one (.im (.sl (l.map e9))),.one (.fn (.func k) caps)] objs (λd o=>d=iv (I5 p l)/\o=objs):=by
 refine i8 Tryz.func344 rfl Tryz.ntmps344 (by simp) rfl ?_;have hs:=trivial;repeat' first|(with_reducible first|refine zz ?_|refine zE Lc ?_)|simp -dsimp[hs]
 refine g9 (ι:={ k:Nat // k<=l.length/\∀ j x,j<k->l[j]?=some x->p x=false }) (λi=>⟨19,[(0,.one (.im (.sl (l.map e9)))),(1,.one (.fn (.func k) caps)),(7,iv (l.length:Int)),(8,iv (i.1:Int))],objs⟩) (λi=>l.length-i.1) ⟨0,by simp⟩ (zv [0,1,7,8]) ?_;rintro⟨i,hi,hno⟩;simp only[iv];by_cases hlt:i<l.length
 ·have hx:l[i]?=some l[i]:=by simp[hlt]
  have hw:=zk i;have hc:=hf l[i] (by simp);simp only[J5,e9,List.map_cons,List.map_nil,bv,rI] at hc;have hs:=za hx (za hw hok);repeat' first|(with_reducible first|refine zz ?_|refine And.intro (by omega) ?_|refine zr ?_|refine zE Lc ?_)|simp -dsimp[hs]|refine CallE.here hc ?_|refine i7 ?_ ?_<;>intro h<;>try exact h.elim|with_reducible refine And.intro ?_ ?_
  all_goals try omega
  ·exact(I4 hx (by assumption) hno).symm
  ·exact At.round ⟨i+1,by omega,λj x hj hjx=>by
    by_cases e:j=i
    ·subst e;rw[hx] at hjx;cases hjx;assumption
    ·exact hno j x (by omega) hjx⟩ (by simp;omega) (zv [0,1,7,8])
 ·have hs:=trivial;repeat' first|(with_reducible first|refine zz ?_|refine zr ?_|refine zE Lc ?_)|simp -dsimp[hs]|refine i7 ?_ ?_<;>intro h<;>try exact h.elim|with_reducible refine And.intro ?_ ?_
  all_goals try omega
  exact(Q4 λj x hjx=>hno j x (by have:=e7 hjx;omega) hjx).symm
theorem iH (l:List Issue) (p:Issue->Bool) (k:Nat) (caps:List DC) (objs:List DObj) (hok:D9 Tryz.prog k) (hf:∀ x∈l,DCall Tryz.prog G k (J5 x :: caps.map .one) objs (λd o=>d=bv (p x)/\o=objs)) (hl:l.length<1000000):DCall Tryz.prog G 340 [.one (.im (.sl (l.map e9))),.one (.fn (.func k) caps)] objs (λd o=>d=bv (l.any p)/\o=objs):=by
 refine i8 Tryz.func340 rfl Tryz.ntmps340 (by simp) rfl ?_;have hc:=lK l p k caps objs hok hf hl;repeat' first|(with_reducible first|refine zz ?_|refine zx ?_|refine zE [0,1,4] ?_)|simp -dsimp|refine CallE.here hc ?_|with_reducible refine And.intro ?_ ?_
 simp[w9]
def l9 (p:Prints):IC:=.ip [.sl (p.n.reg.map e9),.sl (p.n.notes.map n8),.sl (p.holders.map o8),.sl (p.prints.map A0),.sl ((nums p.n.reg).map encI)]
theorem uy (n:Int) (y:Holder):DCall Tryz.prog G 191 (jb y :: [DC.ptr 0 0].map .one) [.row [.im (rI n)]] (λd o=>d=bv (decide (y.id=n))/\o=[.row [.im (rI n)]]):=by
 refine DCall.drop ?_;refine i8 Tryz.func191 rfl Tryz.ntmps191 (by simp) rfl ?_;simp only[jb,o8,rI];repeat' first|(with_reducible first|refine zz ?_|refine zx ?_|refine zE [0,1,2,3] ?_)|simp -dsimp|with_reducible refine And.intro ?_ ?_
theorem pi (p:Prints) (n:Int) (hl:p.holders.length<1000000):zP Tryz.prog G 144 [.one (.im (l9 p)),iv n] (iv (I5 (λy=>decide (y.id=n)) p.holders)):=by
 refine zf Tryz.func144 Tryz.ntmps144 ?_;try simp only[iv]
 simp only[l9];have c1:=cZ (G:=G) p.holders (λy=>decide (y.id=n)) 191 [.ptr 0 0] [.row [.im (rI n)]] (by simp) (λy _=>uy n y) hl;simp only[rI] at c1;repeat' first|(with_reducible first|refine zz ?_|refine zx ?_|refine zE [0,1,3,4] ?_)|simp -dsimp|refine zh c1 ?_
def Dx (x:Print):Bool:=(decide (1<=x.number)&&decide (x.number<=9999))&&(decide (0<=x.day)&&decide (x.day<=14610))
theorem Ek (d:IC) (x:Print):zP Tryz.prog G 337 [.one (.im d),bL x] (bv (Dx x)):=by
 refine zf Tryz.func337 Tryz.ntmps337 ?_;try simp only[iv]
 have c1:=T4 (G:=G) 1 9999 [x.number] (by simp);have c2:=T4 (G:=G) 0 14610 [x.day] (by simp);have hs:=trivial;repeat' first|(with_reducible first|refine zz ?_|refine zr ?_|refine zE [1,3,4] ?_)|simp -dsimp[hs]|refine zt c1 ?_ ?_ ?_;(focus simp;done);focus (simp;done)|refine zt c2 ?_ ?_ ?_;(focus simp;done);focus (simp;done)|with_reducible refine j0 ?_ ?_<;>intro h<;>have h0:=h<;>(try simp only[i6] at h)<;>have h2:=h<;>(try simp at h2)<;>replace hs:=za h0 (za h (za h2 hs))
 all_goals try clear hs
 all_goals simp_all [Dx]
 all_goals omega
def Ej (l:List Holder) (x:Print):Bool:=l.any λy=>decide (y.id=x.holder)
theorem Ei (p:Prints) (x:Print) (hl:p.holders.length<1000000):zP Tryz.prog G 338 [.one (.im (l9 p)),bL x] (bv (Ej p.holders x)):=by
 refine zf Tryz.func338 Tryz.ntmps338 ?_;try simp only[iv]
 have c1:=pi (G:=G) p x.holder hl;simp only[l9] at c1 ⊢;repeat' first|(with_reducible first|refine zz ?_|refine zx ?_|refine zE [0,1,3,4] ?_)|simp -dsimp|refine zp c1 ?_
 rw[w9];rfl
def Co (l:List Issue) (x:Print):Bool:=l.any λy=>decide (x.drawing=y.drawing/\x.letter=y.letter)
theorem Cn (x:Print) (y:Issue):DCall Tryz.prog G 341 (J5 y :: [DC.ptr 0 0].map .one) [.row ((A0 x).map .im)] (λd o=>d=bv (decide (x.drawing=y.drawing/\x.letter=y.letter))/\o=[.row ((A0 x).map .im)]):=by
 refine DCall.drop ?_;refine i8 Tryz.func341 rfl Tryz.ntmps341 (by simp) rfl ?_;simp only[J5,e9,A0,rI];repeat' first|(with_reducible first|refine zz ?_|refine zx ?_|refine zE [0,1,2,3] ?_)|simp -dsimp|with_reducible refine And.intro ?_ ?_
theorem Eh (p:Prints) (x:Print) (hl:p.n.reg.length<1000000):zP Tryz.prog G 339 [.one (.im (l9 p)),bL x] (bv (Co p.n.reg x)):=by
 refine zf Tryz.func339 Tryz.ntmps339 ?_;try simp only[iv]
 simp only[l9];have c1:=iH (G:=G) p.n.reg (λy=>decide (x.drawing=y.drawing/\x.letter=y.letter)) 341 [.ptr 0 0] [.row ((A0 x).map .im)] (by simp) (λy _=>Cn x y) hl;simp only[A0,rI,List.map_cons,List.map_nil] at c1;repeat' first|(with_reducible first|refine zz ?_|refine zx ?_|refine zE [0,1,3,4] ?_)|simp -dsimp|refine zh c1 ?_
 simp[Co]
def Cm (x:Print):Bool:=decide (x.lost<=2)
theorem Eg (d:IC) (x:Print):zP Tryz.prog G 342 [.one (.im d),bL x] (bv (Cm x)):=by
 refine zf Tryz.func342 Tryz.ntmps342 ?_;try simp only[iv]
 repeat' first|(with_reducible first|refine zz ?_|refine zx ?_|refine zE [1,3,4] ?_)|simp -dsimp
 all_goals simp[Cm]
def Dw (x:Print):Bool:=decide (x.back=-1)||(decide (x.day<=x.back)&&decide (x.back<=14610))&&decide (x.lost=0)
theorem Ef (d:IC) (x:Print):zP Tryz.prog G 343 [.one (.im d),bL x] (bv (Dw x)):=by
 refine zf Tryz.func343 Tryz.ntmps343 ?_;try simp only[iv]
 have c1:=T4 (G:=G) x.day 14610 [x.back] (by simp);have hs:=trivial;repeat' first|(with_reducible first|refine zz ?_|refine zr ?_|refine zE [1,3,4] ?_)|simp -dsimp[hs]|refine zt c1 ?_ ?_ ?_;(focus simp;done);focus (simp;done)|with_reducible refine j0 ?_ ?_<;>intro h<;>have h0:=h<;>(try simp only[i6] at h)<;>have h2:=h<;>(try simp at h2)<;>replace hs:=za h0 (za h (za h2 hs))
 all_goals try clear hs
 all_goals simp_all [Dw]
 all_goals omega
end Go.Proofs
namespace Go.Proofs
open Go Go.Ab Tryz
variable {G:Hn}
def AH (D l:List Int) (k:Nat) (d:Int):Prop:=d∈D/\(0<k->∀ e,l[k-1]?=some e->e<d)
def Gc (l:List Holder) (i:Nat) (x:Holder):Prop:=(1<=x.id/\x.id<=9999)/\(0<i->∀ y,l[i-1]?=some y->y.id<x.id)/\(1<=x.frm/\x.frm<=999)/\(1<=x.to/\x.to<=999)/\x.frm<=x.to/\x.draws.length<=8
def qc (D:List Int) (l:List Holder) (i:Nat) (x:Holder):Prop:=Gc l i x/\∀ k d,x.draws[k]?=some d->AH D x.draws k d
def wS (p:Prints) (x:Print):Nat->Bool
 | 0=>Dx x
 | 1=>Ej p.holders x
 | 2=>Co p.n.reg x
 | 3=>Cm x
 | _=>Dw x
def tW (p:Prints) (i:Nat) (x:Print):Prop:=(0<i->∀ y,p.prints[i-1]?=some y->y.number<x.number)/\∀ c,c<5->wS p x c=true
structure PrintsOk (p:Prints):Prop where
 hl:p.holders.length<=6
 pl:p.prints.length<=30
 h:∀ i x,p.holders[i]?=some x->qc (nums p.n.reg) p.holders i x
 q:∀ i x,p.prints[i]?=some x->tW p i x
noncomputable def C3 (p:Prints):Bool:=open Classical in decide (PrintsOk p)
theorem oJ (p:Prints):C3 p=true↔PrintsOk p:=by simp[C3]
theorem K5 {p:Prints} (h:¬ PrintsOk p):C3 p=false:=by simp[C3,h]
theorem iV {p:Prints} (h:PrintsOk p):C3 p=true:=by simp[C3,h]
structure SmallP (p:Prints):Prop where
 r:(nums p.n.reg).length<1000
 l:p.n.reg.length<1000
 h:p.holders.length<=8
 q:p.prints.length<=40
 d:∀ x∈p.holders,x.draws.length<=20
 lo:∀ x∈p.prints,0<=x.lost/\x.lost<=255
def E9 (G:Hn):Prop:=G 6=some [.fn (.func 337) [],.fn (.func 338) [],.fn (.func 339) [],.fn (.func 342) [],.fn (.func 343) []]
@[simp] abbrev Lh:List Nat:=[0,2,3,4,5,6,7,8,9,11,27,32,33,34,35,84,86,87,88,89,113,120,121,122,123,143,144,145,146,154]
theorem zL (p:Prints) (hR:E9 G) (hs:SmallP p):zP prog G 228 [.one (.im (l9 p))] (bv (C3 p)):=by
 refine zf func228 ntmps228 ?_;try simp only[iv]
 have hR':G 6=some [.fn (.func 337) [],.fn (.func 338) [],.fn (.func 339) [],.fn (.func 342) [],.fn (.func 343) []]:=hR;obtain⟨hsr,hsl,hsh,hsq,hsd,hslo⟩:=hs;by_cases h6:¬ p.holders.length<=6
 ·have h6':(6:Int)<p.holders.length:=by omega
  have hno:=K5 (p:=p) λh=>h6 h.hl;simp only[l9];have hs:=h6';repeat' first|(with_reducible first|refine zz ?_|refine zr ?_|refine zE Lh ?_)|simp -dsimp[hs]|refine i7 ?_ ?_<;>intro h<;>try exact h.elim
  all_goals try clear hs
  all_goals simp[hno]
 by_cases h30:¬ p.prints.length<=30
 ·replace h6:=Classical.not_not.1 h6;have h6':¬ (6:Int)<p.holders.length:=by omega
  have h30':(30:Int)<p.prints.length:=by omega
  have hno:=K5 (p:=p) λh=>h30 h.pl;simp only[l9];have hs:=za h6' h30';repeat' first|(with_reducible first|refine zz ?_|refine zr ?_|refine zE Lh ?_)|simp -dsimp[hs]|refine i7 ?_ ?_<;>intro h<;>try exact h.elim
  all_goals try clear hs
  all_goals simp[hno]
 replace h6:=Classical.not_not.1 h6;replace h30:=Classical.not_not.1 h30;have h6':¬ (6:Int)<p.holders.length:=by omega
 have h30':¬ (30:Int)<p.prints.length:=by omega
 simp only[l9];have hs:=za h6' h30';repeat' first|(with_reducible first|refine zz ?_|refine zE Lh ?_)|simp -dsimp[hs]|refine i7 ?_ ?_<;>intro h<;>try exact h.elim
 all_goals try clear hs
 refine g9 (ι:={ k:Nat // k<=p.holders.length/\∀ (j:Nat) (x:Holder),j<k->p.holders[j]?=some x->qc (nums p.n.reg) p.holders j x }) (λq=>⟨158,[(0,.one (.im (l9 p))),(32,.one (.im (.sl (p.holders.map o8)))),(33,iv (p.holders.length:Int)),(34,iv (q.1:Int))],[]⟩) (λq=>p.holders.length-q.1) ⟨0,by simp⟩ (zv [0,32,33,34] (by simp[l9])) ?_;rintro⟨k,hk,hok⟩;simp only[iv,l9];by_cases hlt:k<p.holders.length
 ·have hx0:p.holders[k]?=some p.holders[k]:=by simp[hlt]
  have hw:=zk k;have hdl:=hsd p.holders[k] (List.getElem_mem hlt);generalize hx:p.holders[k]=x at *;have hbad:¬ qc (nums p.n.reg) p.holders k x->C3 p=false:=λh=>K5 λh'=>h (h'.h k x hx0);have hstep:qc (nums p.n.reg) p.holders k x->∀ (j:Nat) (z:Holder),j<k+1->p.holders[j]?=some z->qc (nums p.n.reg) p.holders j z:=λh j z hj hz=>by
   by_cases e:j=k
   ·subst e;rw[hx0] at hz;cases hz;exact h
   ·exact hok j z (by omega) hz
  have c1:=T4 (G:=G) 1 9999 [x.id] (by simp);have c2:=T4 (G:=G) 1 999 [x.frm,x.to] (by simp);have c3:=λd=>bW (G:=G) (nums p.n.reg) d (by omega);have hs:True:=trivial;by_cases hA:Gc p.holders k x
  ·have hA':=hA;obtain⟨a1,a3,a4,a6,a8,a9⟩:=hA;have e1:([x.id].all λy=>decide (1<=y)&&decide (y<=9999))=true:=by simp;omega
   have e2:([x.frm,x.to].all λy=>decide (1<=y)&&decide (y<=999))=true:=by simp;omega
   rw[e1] at c1;rw[e2] at c2;have a8':¬ x.to<x.frm:=by omega
   have a9':¬ (8:Int)<x.draws.length:=by omega
   have hcs:(¬ 0<k/\True/\∃ _:True,True)\/(0<k/\IntKind.i64.wrap ((k:Int)-1)=((k-1:Nat):Int)/\∃ h:k-1<p.holders.length,¬ x.id<=(p.holders[k-1]'h).id):=by
    rcases Nat.eq_zero_or_pos k with h0|h0
    ·exact .inl ⟨by omega,trivial,trivial,trivial⟩
    ·have h1:k-1<p.holders.length:=by omega
     exact .inr ⟨by omega,by rw[m9 (by omega) (by omega)];omega,h1,by have:=a3 h0 _ (List.getElem?_eq_getElem h1);omega⟩
   rcases hcs with⟨hk0,hwm,hi1,hlt1⟩|⟨hk0,hwm,hi1,hlt1⟩
   all_goals
    have hs:=za hx (za hlt (za a8' (za a9' (za hk0 (za hwm (za hi1 hlt1))))));repeat' first|with_reducible refine zz ?_|simp -dsimp[hs]|refine zq c1 ?_|refine zq c2 ?_|refine zM 6 158 46 Lh ?_|with_reducible refine zE Lh ?_|refine i7 ?_ ?_<;>intro h<;>try exact h.elim
    all_goals try clear hs
   all_goals
    refine g9 (ι:={ j:Nat // j<=x.draws.length/\∀ (i:Nat) (d:Int),i<j->x.draws[i]?=some d->AH (nums p.n.reg) x.draws i d }) (λq=>⟨158,[(0,.one (.im (l9 p))),(4,.one (.ptr 1 0)),(32,.one (.im (.sl (p.holders.map o8)))),(33,iv (p.holders.length:Int)),(34,iv (k:Int)),(86,.one (.im (.sl (x.draws.map encI)))),(87,iv (x.draws.length:Int)),(88,iv (q.1:Int))],[.vec 0 [] 0 true,.row ((o8 x).map .im)]⟩) (λq=>x.draws.length-q.1) ⟨0,by simp⟩ (zv [0,4,32,33,34,86,87,88] (by simp[l9])) ?_;rintro⟨j,hj,hjok⟩;simp only[iv,l9];by_cases hlj:j<x.draws.length
    ·have hx1:x.draws[j]?=some x.draws[j]:=by simp[hlj]
     have hwj:=zk j;have c4:=c3 x.draws[j];have hcj:(¬ 0<j/\True/\∃ _:True,True)\/(0<j/\IntKind.i64.wrap ((j:Int)-1)=((j-1:Nat):Int)/\∃ h:j-1<x.draws.length,True):=by
      rcases Nat.eq_zero_or_pos j with h0|h0
      ·exact .inl ⟨by omega,trivial,trivial,trivial⟩
      ·exact .inr ⟨by omega,by rw[m9 (by omega) (by omega)];omega,by omega,trivial⟩
     have hbadj:¬ AH (nums p.n.reg) x.draws j x.draws[j]->C3 p=false:=λh=>hbad λh'=>h (h'.2 j _ hx1);have hstj:AH (nums p.n.reg) x.draws j x.draws[j]->∀ (i:Nat) (d:Int),i<j+1->x.draws[i]?=some d->AH (nums p.n.reg) x.draws i d:=λh i d hi hd=>by
      by_cases e:i=j
      ·subst e;rw[hx1] at hd;cases hd;exact h
      ·exact hjok i d (by omega) hd
     clear hstep;rcases hcj with⟨hj0,hwmj,hij,-⟩|⟨hj0,hwmj,hij,-⟩
     all_goals
      have hs:=za hx1 (za hlj (za hj0 (za hwmj (za hij hwj))));repeat' first|(with_reducible first|refine zz ?_|refine zr ?_|refine zE Lh ?_)|simp -dsimp[hs]|refine zp c4 ?_|refine i7 ?_ ?_<;>intro h<;>try exact h.elim|with_reducible refine j0 ?_ ?_<;>intro h<;>have h0:=h<;>(try simp only[i6] at h)<;>have h2:=h<;>(try simp at h2)<;>replace hs:=za h0 (za h (za h2 hs))
      all_goals try clear hs
     all_goals first
      | exact zn ⟨j+1,by omega,hstj ⟨of_decide_eq_true (by assumption),λh1 e he=>by first|omega|(obtain⟨_,rfl⟩:=List.getElem?_eq_some_iff.1 he;omega)⟩⟩ (zv [0,4,32,33,34,86,87,88])
      | (refine hbadj λhh=>?_;have:=hh.1;simp_all;done)
      | (refine hbadj λhh=>?_;have:=hh.2 (by omega) _ (List.getElem?_eq_getElem hij);omega)
    ·have hs:=za hlj hw;repeat' first|(with_reducible first|refine zz ?_|refine zE Lh ?_)|simp -dsimp[hs]|refine i7 ?_ ?_<;>intro h<;>try exact h.elim
     all_goals try clear hs
     exact zn ⟨k+1,by omega,hstep ⟨hA',λi d hd=>hjok i d (by have:=e7 hd;omega) hd⟩⟩ (zw [0,32,33,34] 0)
  ·have hno:=hbad λh=>hA h.1;generalize hb1:([x.id].all λy=>decide (1<=y)&&decide (y<=9999))=b1 at c1;generalize hb2:([x.frm,x.to].all λy=>decide (1<=y)&&decide (y<=999))=b2 at c2;have hcs:(¬ 0<k/\True/\∃ _:True,True)\/(0<k/\IntKind.i64.wrap ((k:Int)-1)=((k-1:Nat):Int)/\∃ h:k-1<p.holders.length,True):=by
    rcases Nat.eq_zero_or_pos k with h0|h0
    ·exact .inl ⟨by omega,trivial,trivial,trivial⟩
    ·exact .inr ⟨by omega,by rw[m9 (by omega) (by omega)];omega,by omega,trivial⟩
   rcases hcs with⟨hk0,hwm,hi1,-⟩|⟨hk0,hwm,hi1,-⟩<;>cases b1<;>cases b2
   all_goals
    have hs:=za hx (za hlt (za hk0 (za hwm hi1)));repeat' first|(with_reducible first|refine zz ?_|refine zr ?_)|simp -dsimp[hs]|refine zq c1 ?_|refine zq c2 ?_|refine zM 6 158 46 Lh ?_|with_reducible refine zE Lh ?_|refine i7 ?_ ?_<;>intro h<;>try exact h.elim|with_reducible refine j0 ?_ ?_<;>intro h<;>have h0:=h<;>(try simp only[i6] at h)<;>have h2:=h<;>(try simp at h2)<;>replace hs:=za h0 (za h (za h2 hs))
    all_goals try clear hs
   all_goals try (first|exact hno|exact hno.symm)
   ·refine absurd ?_ hA;simp at hb1 hb2;exact⟨by omega,λh1=>by omega,by omega,by omega,by omega,by omega⟩
   ·refine absurd ?_ hA;simp at hb1 hb2;exact⟨by omega,λh1 y hy=>by
     obtain⟨_,rfl⟩:=List.getElem?_eq_some_iff.1 hy
     simp_all<;>omega,by omega,by omega,by omega,by omega⟩
 ·have hkl:k=p.holders.length:=by omega
  have hall:∀ i x,p.holders[i]?=some x->qc (nums p.n.reg) p.holders i x:=λi x hx=>hok i x (by have:=e7 hx;omega) hx;have hs:=hlt;repeat' first|(with_reducible first|refine zz ?_|refine zE Lh ?_)|simp -dsimp[hs]|refine i7 ?_ ?_<;>intro h<;>try exact h.elim
  all_goals try clear hs
  refine g9 (ι:={ k:Nat // k<=p.prints.length/\∀ (j:Nat) (x:Print),j<k->p.prints[j]?=some x->tW p j x }) (λq=>⟨158,[(0,.one (.im (l9 p))),(7,bv true),(120,.one (.im (.sl (p.prints.map A0)))),(121,iv (p.prints.length:Int)),(122,iv (q.1:Int))],[]⟩) (λq=>p.prints.length-q.1) ⟨0,by simp⟩ (zv [0,7,120,121,122] (by simp[l9])) ?_;clear hlt hok hk hkl k;rintro⟨k,hk,hok⟩;simp only[iv,bv,l9];by_cases hlt:k<p.prints.length
  ·have hx0:p.prints[k]?=some p.prints[k]:=by simp[hlt]
   have hw:=zk k;have hll:=hslo p.prints[k] (List.getElem_mem hlt);generalize hx:p.prints[k]=x at *;have hbad:¬ tW p k x->C3 p=false:=λh=>K5 λh'=>h (h'.q k x hx0);have hstep:tW p k x->∀ (j:Nat) (z:Print),j<k+1->p.prints[j]?=some z->tW p j z:=λh j z hj hz=>by
    by_cases e:j=k
    ·subst e;rw[hx0] at hz;cases hz;exact h
    ·exact hok j z (by omega) hz
   have hs:True:=trivial;have hcs:(¬ 0<k/\True/\∃ _:True,True)\/(0<k/\IntKind.i64.wrap ((k:Int)-1)=((k-1:Nat):Int)/\∃ h:k-1<p.prints.length,True):=by
    rcases Nat.eq_zero_or_pos k with h0|h0
    ·exact .inl ⟨by omega,trivial,trivial,trivial⟩
    ·exact .inr ⟨by omega,by rw[m9 (by omega) (by omega)];omega,by omega,trivial⟩
   rcases hcs with⟨hk0,hwm,hi1,-⟩|⟨hk0,hwm,hi1,-⟩
   all_goals
    have hs:=za hx (za hlt (za hk0 (za hwm (za hi1 hR'))));repeat' first|(with_reducible first|refine zz ?_|refine zr ?_)|simp -dsimp[hs]|refine zM 19 158 17 Lh ?_|with_reducible refine zE Lh ?_|refine i7 ?_ ?_<;>intro h<;>try exact h.elim
    all_goals try clear hs
   all_goals try (exact hbad λhh=>by have:=hh.1 hk0 _ (List.getElem?_eq_getElem hi1);omega)
   all_goals
    have hord:0<k->∀ y,p.prints[k-1]?=some y->y.number<x.number:=λh1 y hy=>by
     first|omega|(obtain⟨_,rfl⟩:=List.getElem?_eq_some_iff.1 hy;omega)
    have k1:=λd=>Ek (G:=G) d x;have k2:=Ei (G:=G) p x (by omega);have k3:=Eh (G:=G) p x (by omega);have k4:=λd=>Eg (G:=G) d x;have k5:=λd=>Ef (G:=G) d x;replace k1:=k1 (l9 p);replace k4:=k4 (l9 p);replace k5:=k5 (l9 p);rw[show Dx x=wS p x 0 from rfl] at k1;rw[show Ej p.holders x=wS p x 1 from rfl] at k2;rw[show Co p.n.reg x=wS p x 2 from rfl] at k3;rw[show Cm x=wS p x 3 from rfl] at k4;rw[show Dw x=wS p x 4 from rfl] at k5;simp only[l9] at k1 k2 k3 k4 k5;refine g9 (ι:={ c:Nat // c<=5/\∀ e<c,wS p x e=true }) (λq=>⟨158,[(0,.one (.im (l9 p))),(7,bv true),(9,.one (.ptr 0 0)),(120,.one (.im (.sl (p.prints.map A0)))),(121,iv (p.prints.length:Int)),(122,iv (k:Int)),(144,.agg [.im (.fn (.func 337) []),.im (.fn (.func 338) []),.im (.fn (.func 339) []),.im (.fn (.func 342) []),.im (.fn (.func 343) [])]),(145,iv (q.1:Int))],[.row ((A0 x).map .im)]⟩) (λq=>5-q.1) ⟨0,by simp⟩ (zv [0,7,9,120,121,122,144,145] (by simp[l9])) ?_;rintro⟨c,hc,hcc⟩;simp only[iv,bv,l9];by_cases hc5:c<5
    ·have hm:wS p x c=true->∀ e<c+1,wS p x e=true:=λh e he=>by
      rcases Nat.lt_succ_iff_lt_or_eq.1 he with h1|rfl
      ·exact hcc e h1
      ·exact h
     have hbc:wS p x c=false->C3 p=false:=λh=>hbad λhh=>by rw[hh.2 c hc5] at h;cases h
     clear hstep;have hi5:c=0\/c=1\/c=2\/c=3\/c=4:=by omega
     rcases hi5 with rfl|rfl|rfl|rfl|rfl
     all_goals
      have hs:=hlt;repeat' first|(with_reducible first|refine zz ?_|refine Gu (by decide) ?_|refine zr ?_|refine zE Lh ?_)|simp -dsimp[hs]|refine zp k1 ?_|refine zp k2 ?_|refine zp k3 ?_|refine zp k4 ?_|refine zp k5 ?_|refine i7 ?_ ?_<;>intro h<;>try exact h.elim
      all_goals try clear hs
     all_goals first
      | exact At.round ⟨_,by omega,hm (by assumption)⟩ (by simp) (zw [0,7,9,120,121,122,144,145] 1 (by simp[‹wS p x _=true›];exact m9 (by omega) (by omega)))
      | exact hbc (by assumption)
      | (rw[hbc (by assumption)];assumption)
    ·obtain rfl:c=5:=by omega
     clear k1 k2 k3 k4 k5;have hs:=za hlt hw;repeat' first|(with_reducible first|refine zz ?_|refine zE Lh ?_)|simp -dsimp[hs]|refine i7 ?_ ?_<;>intro h<;>try exact h.elim
     all_goals try clear hs
     exact zn ⟨k+1,by omega,hstep ⟨hord,hcc⟩⟩ (zw [0,7,120,121,122] 0)
  ·have hyes:C3 p=true:=iV ⟨h6,h30,hall,λi x hx=>hok i x (by have:=e7 hx;omega) hx⟩;have hs:=hlt;repeat' first|(with_reducible first|refine zz ?_|refine zr ?_|refine zE Lh ?_)|simp -dsimp[hs]|refine i7 ?_ ?_<;>intro h<;>try exact h.elim
   all_goals try clear hs
   all_goals simp[hyes]
noncomputable def p6 (p:Prints):Int:=if r7 p.n≠0 then r7 p.n else if C3 p=true then 0 else 70
noncomputable def Q1 (p:Prints):DV:=if p6 p=0 then .one (.im (l9 p)) else .one (.im (.raw (.pointer none)))
theorem qJ (p:Prints):ImV (Q1 p):=by unfold Q1;split<;>simp[l9]
attribute [simp] qJ
structure KP (p:Prints):Prop where
 n:ti p.n
 p:SmallP p
@[simp] abbrev Kp:List Nat:=[0,1,2,3,4,5,10,27]
theorem sL (p:Prints) (hG:s9 G) (hN:N3 G) (hS:E7 G) (hR:E9 G) (hk:KP p):zP prog G 175 [r9 p] (.tup [Q1 p,iv (p6 p)]):=by
 refine zf func175 ntmps175 ?_;try simp only[iv]
 have c1:=xe p.n hG hN hS hk.n;have c2:=bT p.n.reg hG hk.n.1;have c3:=zL p hR hk.p;by_cases h0:r7 p.n=0
 ·have hr0:j8 p.n.reg=0:=by
   refine Classical.byContradiction λh=>?_;unfold r7 at h0;rw[if_pos h] at h0;exact h h0
  rw[hr0,show dl p.n.reg=nums p.n.reg by simp[dl,hr0]] at c2;simp only[h0] at c1;by_cases hp:C3 p=true
  ·have hE:p6 p=0:=by unfold p6;rw[if_neg (by simp[h0]),if_pos hp]
   have hO:Q1 p=.one (.im (l9 p)):=by unfold Q1;rw[if_pos hE]
   rw[hp] at c3;rw[hE,hO];simp only[l9] at c3 ⊢;have hs:=trivial;repeat' first|(with_reducible first|refine zz ?_|refine zr ?_)|simp -dsimp[hs]|refine zp c1 ?_|refine zp c2 ?_|refine zt c3 ?_ ?_ ?_;(focus simp;done);focus (simp;done)|with_reducible refine O2 (id:=4) (nt:=29) Kp rfl ?_;simp -dsimp[hs]|with_reducible refine zE Kp ?_|refine i7 ?_ ?_<;>intro h<;>try exact h.elim
  ·have hE:p6 p=70:=by unfold p6;rw[if_neg (by simp[h0]),if_neg hp]
   have hO:Q1 p=.one (.im (.raw (.pointer none))):=by unfold Q1;rw[if_neg (by simp[hE])]
   rw[Bool.not_eq_true] at hp;rw[hp] at c3;rw[hE,hO];simp only[l9] at c3 ⊢;have hs:=trivial;repeat' first|(with_reducible first|refine zz ?_|refine zr ?_)|simp -dsimp[hs]|refine zp c1 ?_|refine zp c2 ?_|refine zt c3 ?_ ?_ ?_;(focus simp;done);focus (simp;done)|with_reducible refine O2 (id:=4) (nt:=29) Kp rfl ?_;simp -dsimp[hs]|with_reducible refine zE Kp ?_|refine i7 ?_ ?_<;>intro h<;>try exact h.elim
 ·have hE:p6 p=r7 p.n:=by unfold p6;rw[if_pos h0]
  have hO:Q1 p=.one (.im (.raw (.pointer none))):=by unfold Q1;rw[if_neg (by rw[hE];exact h0)]
  rw[hE,hO];have hs:=h0;repeat' first|(with_reducible first|refine zz ?_|refine zr ?_|refine zE Kp ?_)|simp -dsimp[hs]|refine zp c1 ?_|refine i7 ?_ ?_<;>intro h<;>try exact h.elim
theorem wM (p:Prints) (hG:s9 G) (hN:N3 G) (hS:E7 G) (hR:E9 G) (hk:KP p):zP prog G 118 [r9 p] (iv (p6 p)):=by
 refine zf func118 ntmps118 ?_;try simp only[iv]
 have c1:=sL p hG hN hS hR hk;repeat' first|(with_reducible first|refine zz ?_|refine zx ?_|refine zE [0,1,2,4] ?_)|simp -dsimp|refine zp c1 ?_
def rJ (d m:Int):Bool:=(decide (0<=d)&&decide (d<=14610))&&(decide (1<=m)&&decide (m<=999))
noncomputable def B5 (p:Prints) (d m:Int):Int:=if p6 p≠0 then p6 p else if rJ d m=true then 0 else 2
noncomputable def Q8 (p:Prints) (d m:Int):DV:=if B5 p d m=0 then .one (.im (l9 p)) else .one (.im (.raw (.pointer none)))
theorem rR (p:Prints) (d m:Int):ImV (Q8 p d m):=by unfold Q8;split<;>simp[l9]
attribute [simp] rR
@[simp] abbrev KH:List Nat:=[0,1,2,3,6,7,8,9,16,27]
theorem wN (p:Prints) (d m:Int) (hG:s9 G) (hN:N3 G) (hS:E7 G) (hR:E9 G) (hk:KP p):zP prog G 143 [r9 p,iv d,iv m] (.tup [Q8 p d m,iv (B5 p d m)]):=by
 refine zf func143 ntmps143 ?_;try simp only[iv,iv]
 have c1:=sL p hG hN hS hR hk;have c2:=T4 (G:=G) 0 14610 [d] (by simp);have c3:=T4 (G:=G) 1 999 [m] (by simp);by_cases h0:p6 p=0
 ·simp only[Q1,h0,if_true] at c1;by_cases hd:rJ d m=true
  ·have hE:B5 p d m=0:=by unfold B5;rw[if_neg (by simp[h0]),if_pos hd]
   have hO:Q8 p d m=.one (.im (l9 p)):=by unfold Q8;rw[if_pos hE]
   simp only[rJ,Bool.and_eq_true,decide_eq_true_eq] at hd;rw[show ([d].all λy=>decide (0<=y)&&decide (y<=14610))=true by simp;omega] at c2;rw[show ([m].all λy=>decide (1<=y)&&decide (y<=999))=true by simp;omega] at c3;rw[hE,hO];simp only[l9] at c1 ⊢;have hs:=trivial;repeat' first|(with_reducible first|refine zz ?_|refine zr ?_|refine zE KH ?_)|simp -dsimp[hs]|refine zp c1 ?_|refine zt c2 ?_ ?_ ?_;(focus simp;done);focus (simp;done)|refine zt c3 ?_ ?_ ?_;(focus simp;done);focus (simp;done)|refine i7 ?_ ?_<;>intro h<;>try exact h.elim
  ·have hE:B5 p d m=2:=by unfold B5;rw[if_neg (by simp[h0]),if_neg hd]
   have hO:Q8 p d m=.one (.im (.raw (.pointer none))):=by unfold Q8;rw[if_neg (by simp[hE])]
   simp only[rJ,Bool.and_eq_true,decide_eq_true_eq] at hd;rw[hE,hO];simp only[l9] at c1 ⊢;by_cases hd1:0<=d/\d<=14610
   ·rw[show ([d].all λy=>decide (0<=y)&&decide (y<=14610))=true by simp;omega] at c2;rw[show ([m].all λy=>decide (1<=y)&&decide (y<=999))=false by simp;omega] at c3;have hs:=trivial;repeat' first|(with_reducible first|refine zz ?_|refine zr ?_|refine zE KH ?_)|simp -dsimp[hs]|refine zp c1 ?_|refine zt c2 ?_ ?_ ?_;(focus simp;done);focus (simp;done)|refine zt c3 ?_ ?_ ?_;(focus simp;done);focus (simp;done)|refine i7 ?_ ?_<;>intro h<;>try exact h.elim
   ·rw[show ([d].all λy=>decide (0<=y)&&decide (y<=14610))=false by simp;omega] at c2;have hs:=trivial;repeat' first|(with_reducible first|refine zz ?_|refine zr ?_|refine zE KH ?_)|simp -dsimp[hs]|refine zp c1 ?_|refine zt c2 ?_ ?_ ?_;(focus simp;done);focus (simp;done)|refine i7 ?_ ?_<;>intro h<;>try exact h.elim
 ·have hE:B5 p d m=p6 p:=by unfold B5;rw[if_pos h0]
  have hO:Q8 p d m=.one (.im (.raw (.pointer none))):=by unfold Q8;rw[if_neg (by rw[hE];exact h0)]
  simp only[Q1,h0,if_false] at c1;rw[hE,hO];have hs:=h0;repeat' first|(with_reducible first|refine zz ?_|refine zr ?_|refine zE KH ?_)|simp -dsimp[hs]|refine zp c1 ?_|refine i7 ?_ ?_<;>intro h<;>try exact h.elim
noncomputable def G3 (p:Prints) (d m i w:Int):Int:=if B5 p d m≠0 then B5 p d m else if (p.holders.any λy=>decide (y.id=i))=true/\w∈nums p.n.reg then 0 else 6
noncomputable def dA (p:Prints) (d m i w:Int):DV:=if G3 p d m i w=0 then .one (.im (l9 p)) else .one (.im (.raw (.pointer none)))
theorem vj (p:Prints) (d m i w:Int):ImV (dA p d m i w):=by unfold dA;split<;>simp[l9]
attribute [simp] vj
theorem yJ (p:Prints) (v:Int) (hl:(nums p.n.reg).length<1000):DCall prog G 145 (iv v :: [DC.ptr 1 0].map .one) [.row ((m6 p).map .im),.row [.im (l9 p)]] (λd o=>d=bv (!decide (v∈nums p.n.reg))/\o=[.row ((m6 p).map .im),.row [.im (l9 p)]]):=by
 refine DCall.drop ?_;have c1:=bW (G:=G) (nums p.n.reg) v (by omega);simp only[l9,m6];refine i8 func145 rfl ntmps145 (by simp) rfl ?_;repeat' first|(with_reducible first|refine zz ?_|refine zx ?_|refine zE [0,1,3] ?_)|simp -dsimp|refine zp c1 ?_|with_reducible refine And.intro ?_ ?_
theorem nF {α:Type} (q:α->Bool) (l:List α):decide (I5 q l<0)=!l.any q:=by
 rw[<- w9];by_cases h:0<=I5 q l
 ·have h1:¬ I5 q l<0:=by omega
  simp[h,h1]
 ·have h1:I5 q l<0:=by omega
  simp[h,h1]
@[simp] abbrev Kq:List Nat:=[0,1,2,3,4,5,10,11,12,13,22,32]
theorem wO (p:Prints) (d m i w:Int) (hG:s9 G) (hN:N3 G) (hS:E7 G) (hR:E9 G) (hk:KP p):zP prog G 89 [r9 p,iv d,iv m,iv i,n9 [w]] (.tup [dA p d m i w,iv (G3 p d m i w)]):=by
 refine zf func89 ntmps89 ?_;try simp only[iv,iv,iv,n9]
 have c1:=wN p d m hG hN hS hR hk;have hr:=hk.p.r;have hh:=hk.p.h;by_cases h0:B5 p d m=0
 ·have c2:=pi (G:=G) p i (by omega);have c3:=B9 (G:=G) [w] (λv=>!decide (v∈nums p.n.reg)) 145 [.ptr 1 0] [.row ((m6 p).map .im),.row [.im (l9 p)]] (by simp) (λv _=>yJ p v hr) (by simp);have hf:=nF (λy:Holder=>decide (y.id=i)) p.holders;have hE:G3 p d m i w=if (p.holders.any λy=>decide (y.id=i))=true/\w∈nums p.n.reg then 0 else 6:=by unfold G3;rw[if_neg (by simp[h0])]
  simp only[Q8,h0,if_true] at c1;unfold dA;rw[hE];generalize I5 (λy:Holder=>decide (y.id=i)) p.holders=f at *;generalize hb:(p.holders.any λy=>decide (y.id=i))=b at *;by_cases hw:w∈nums p.n.reg
  ·simp only[hw,List.any_cons,List.any_nil,decide_true,Bool.not_true,Bool.or_false] at c3;cases b
   ·have hf':f<0:=by simpa using hf
    simp only[l9,m6,List.map_cons,List.map_nil] at c1 c2 c3 ⊢;have hs:=hf';repeat' first|(with_reducible first|refine zz ?_|refine zr ?_|refine zE Kq ?_)|simp -dsimp[hs]|refine zp c1 ?_|refine zp c2 ?_|refine i7 ?_ ?_<;>intro h<;>try exact h.elim
   ·have hf':¬ f<0:=by simpa using hf
    simp only[l9,m6,List.map_cons,List.map_nil] at c1 c2 c3 ⊢;have hs:=za hf' hw;repeat' first|(with_reducible first|refine zz ?_|refine zr ?_|refine zE Kq ?_)|simp -dsimp[hs]|refine zp c1 ?_|refine zp c2 ?_|refine zh c3 ?_|refine i7 ?_ ?_<;>intro h<;>try exact h.elim
  ·simp only[hw,List.any_cons,List.any_nil,decide_false,Bool.not_false,Bool.or_false] at c3;cases b
   ·have hf':f<0:=by simpa using hf
    simp only[l9,m6,List.map_cons,List.map_nil] at c1 c2 c3 ⊢;have hs:=hf';repeat' first|(with_reducible first|refine zz ?_|refine zr ?_|refine zE Kq ?_)|simp -dsimp[hs]|refine zp c1 ?_|refine zp c2 ?_|refine i7 ?_ ?_<;>intro h<;>try exact h.elim
   ·have hf':¬ f<0:=by simpa using hf
    simp only[l9,m6,List.map_cons,List.map_nil] at c1 c2 c3 ⊢;have hs:=za hf' hw;repeat' first|(with_reducible first|refine zz ?_|refine zr ?_|refine zE Kq ?_)|simp -dsimp[hs]|refine zp c1 ?_|refine zp c2 ?_|refine zh c3 ?_|refine i7 ?_ ?_<;>intro h<;>try exact h.elim
 ·have hE:G3 p d m i w=B5 p d m:=by unfold G3;rw[if_pos h0]
  have hO:dA p d m i w=.one (.im (.raw (.pointer none))):=by unfold dA;rw[if_neg (by rw[hE];exact h0)]
  simp only[Q8,h0,if_false] at c1;rw[hE,hO];have hs:=h0;repeat' first|(with_reducible first|refine zz ?_|refine zr ?_|refine zE Kq ?_)|simp -dsimp[hs]|refine zp c1 ?_|refine i7 ?_ ?_<;>intro h<;>try exact h.elim
def frcCaps:List DC:=[.ptr 5 0,.ptr 0 0,.ptr 1 0,.ptr 2 0,.ptr 3 0,.ptr 6 0]
def U5 (n:Notes) (s w:List Int) (m:Int) (M:List (Int×Bool)):List DObj:=[.row [.im (O9 n)],.row [.im (.sl (s.map encI))],.row [.im (.sl (w.map encI))],.row [.im (rI m)],.map [.int .i64] (I9 M),.row [.map 4],.row [.fn (.func 214) frcCaps]]
theorem AR (n:Notes) (s w:List Int) (m:Int):DCall prog G 164 [.one (.im (O9 n)),n9 s,n9 w,iv m] [] (λd o=>d=.one (.fn (.func 214) frcCaps)/\o=U5 n s w m []):=by
 refine i8 func164 rfl ntmps164 (by simp) rfl ?_;simp only[n9,iv];repeat' first|(with_reducible first|refine zz ?_|refine zx ?_|refine zE [0,1,2,3,4,5,6,7,8,9,10] ?_)|simp -dsimp|with_reducible refine And.intro ?_ ?_
 ·rfl
 ·simp[U5,frcCaps,I9]
def G5 (n:Notes) (s w:List Int) (m:Int) (i:Nat):Bool:=((E3 s w m n.notes)[i]?).getD false
def ConsM (n:Notes) (s w:List Int) (m:Int) (M:List (Int×Bool)):Prop:=∀ (k:Nat) (b:Bool),cr (k:Int) M=some b->G5 n s w m k=b
theorem ConsM.nil (n:Notes) (s w:List Int) (m:Int):ConsM n s w m []:=λk b h=>by cases h
theorem ConsM.put {n:Notes} {s w:List Int} {m:Int} {M:List (Int×Bool)} (h:ConsM n s w m M) (i:Nat) {b:Bool} (hb:G5 n s w m i=b):ConsM n s w m (rN (i:Int) b M):=λk c hk=>by
 rw[lj] at hk;split at hk
 ·rename_i e;obtain rfl:i=k:=by omega
  cases hk;exact hb
 ·exact h k c hk
theorem xO {n:Notes} {s w:List Int} {m:Int} {i:Nat} (hi:i<n.notes.length):G5 n s w m i=(pm s w m n.notes[i]&&ei n.notes[i].number (n.notes.drop (i+1)) ((E3 s w m n.notes).drop (i+1))):=by
 have hl:i<(E3 s w m n.notes).length:=by rw[V7];exact hi
 rw[<- AQ hi hl,G5,List.getElem?_eq_getElem hl];rfl
theorem rl {n:Notes} {s w:List Int} {m a:Int} {k:Nat} (hk:k<n.notes.length):ei a (n.notes.drop k) ((E3 s w m n.notes).drop k)=(!(G5 n s w m k&&decide (n.notes[k].cancels=a))&&ei a (n.notes.drop (k+1)) ((E3 s w m n.notes).drop (k+1))):=by
 have hl:k<(E3 s w m n.notes).length:=by rw[V7];exact hk
 rw[uC hk hl,G5,List.getElem?_eq_getElem hl];rfl
@[simp] abbrev LE:List Nat:=[0,1,2,3,4,5,6,8,9,10,11,12,13,20,67]
@[simp] abbrev Jg:List Nat:=[0,1,2,3,4,5,6,11,12,13]
theorem FX (n:Notes) (s w:List Int) (m:Int) (hl:n.notes.length<1000) (hsl:s.length<1000) (hwl:w.length<1000):∀ (d i:Nat),n.notes.length-i<=d->i<n.notes.length->∀ M,ConsM n s w m M ->
 DCall prog G 214 (iv (i:Int) :: frcCaps.map .one) (U5 n s w m M) (λr o=>∃ M',ConsM n s w m M'/\r=bv (G5 n s w m i)/\o=U5 n s w m M'):=by
 intro d;induction d with
 | zero=>intro i h1 h2;omega
 | succ d ih =>
   intro i hid hi M hM;simp only[U5,frcCaps,O9,iv,bv,rI,List.map_cons,List.map_nil] at ih ⊢;refine DCall.drop ?_;refine i8 func214 rfl ntmps214 (by simp) rfl ?_;cases hb:cr (i:Int) M with
   | some b =>
     have hf:=hM i b hb;have hs:=hb;repeat' first|(with_reducible first|refine zz ?_|refine zr ?_|refine zE LE ?_)|simp -dsimp[hs]|refine i7 ?_ ?_<;>intro h<;>try exact h.elim
     all_goals try clear hs
     exact⟨M,hM,by rw[hf],rfl⟩
   | none =>
     generalize hx:n.notes[i]=x at *;have hF:=xO (s:=s) (w:=w) (m:=m) hi;rw[hx] at hF;have hwi:=zk i;have c1:=bW (G:=G) s x.number (by omega);have c2:=bW (G:=G) w x.number (by omega);have c3:=gl (G:=G) x.frm x.to [m] (by simp);rw[show ([m].all λz=>decide (x.frm<=z)&&decide (z<=x.to))=(decide (x.frm<=m)&&decide (m<=x.to)) by simp] at c3;have hs:=za hb (za hx (za hi hwi));repeat' first|(with_reducible first|refine zz ?_|refine zE LE ?_)|simp -dsimp[hs]|refine zp c1 ?_|refine zp c2 ?_|refine zt c3 ?_ ?_ ?_;(focus simp;done);focus (simp;done)|refine i7 ?_ ?_<;>intro h<;>try exact h.elim|with_reducible refine j0 ?_ ?_<;>intro h<;>have h0:=h<;>(try simp only[i6] at h)<;>have h2:=h<;>(try simp at h2)<;>replace hs:=za h0 (za h (za h2 hs))
     all_goals try clear hs
     all_goals
      refine g9 (ι:={ p:Nat×Bool×List (Int×Bool) // i+1<=p.1/\p.1<=n.notes.length/\ConsM n s w m p.2.2/\G5 n s w m i=(p.2.1&&ei x.number (n.notes.drop p.1) ((E3 s w m n.notes).drop p.1)) }) (λp=>⟨92,[(0,iv (i:Int)),(1,.one (.ptr 5 0)),(2,.one (.ptr 0 0)),(3,.one (.ptr 1 0)),(4,.one (.ptr 2 0)),(5,.one (.ptr 3 0)),(6,.one (.ptr 6 0)),(11,.one (.ptr 7 0)),(12,bv p.1.2.1),(13,iv (p.1.1:Int))],[.row [.im (.ip [.sl (n.reg.map e9),.sl (n.notes.map n8),.sl ((nums n.reg).map encI),.sl ((l4 (j7 n.notes)).map encI)])],.row [.im (.sl (s.map encI))],.row [.im (.sl (w.map encI))],.row [.im (rI m)],.map [.int .i64] (I9 p.1.2.2),.row [.map 4],.row [.fn (.func 214) [.ptr 5 0,.ptr 0 0,.ptr 1 0,.ptr 2 0,.ptr 3 0,.ptr 6 0]],.row ((n8 x).map .im)]⟩) (λp=>n.notes.length-p.1.1) ⟨(i+1,pm s w m x,M),by simp,by simp;omega,hM,hF⟩ (zw Jg 8 (by clear c1 c2 c3 ih;simp[pm, *])) ?_
     all_goals
      clear c1 c2 c3 hF hM hb;rintro⟨⟨k,v,M2⟩,hk1,hk2,hM2,hv⟩;simp only at hk1 hk2 hM2 hv;simp only[iv,bv];cases v
      ·have hM3:=hM2.put i hv;have hs:=trivial;repeat' first|(with_reducible first|refine zz ?_|refine zr ?_|refine zE LE ?_)|simp -dsimp[hs]|refine i7 ?_ ?_<;>intro h<;>try exact h.elim
       all_goals try clear hs
       all_goals exact⟨_,hM3,by rw[hv];rfl,rfl⟩
      ·by_cases hlk:k<n.notes.length
       ·have hwk:=zk k;have hih:=ih k (by omega) hlk M2 hM2;rw[Bool.true_and,rl hlk] at hv;generalize hy:n.notes[k]=y at *;by_cases hc:y.cancels=x.number
        ·have hvb:∀ b,G5 n s w m k=b->G5 n s w m i=(!b&&ei x.number (n.notes.drop (k+1)) ((E3 s w m n.notes).drop (k+1))):=λb hb=>by
          rw[hv,hb,decide_eq_true hc,Bool.and_true]
         have hs:=za hx (za hy (za hlk (za hwk hc)));repeat' first|with_reducible refine zz ?_|simp -dsimp[hs]|refine CallE.embed_ex [0,1,2,3,4,5,6] (hih) ?_ ?_ ?_ ?_ ?_ ?_;(focus simp[D6];done);(focus simp;done);(focus simp;done);(focus simp;done);(focus refine C4 ?_;simp[D6,D5];done);intro mm hmm;try simp -dsimp[u7,D6,hs]|refine zM 9 92 15 LE ?_|with_reducible refine zE LE ?_|refine i7 ?_ ?_<;>intro h<;>try exact h.elim
         all_goals try clear hs
         all_goals exact zn ⟨(k+1,!G5 n s w m k,mm),by simp only;omega,by simp only;omega,hmm,hvb _ rfl⟩ (zw Jg 8)
        ·rw[decide_eq_false hc,Bool.and_false,Bool.not_false,Bool.true_and] at hv;have hs:=za hx (za hy (za hlk (za hwk hc)));repeat' first|with_reducible refine zz ?_|simp -dsimp[hs]|refine zM 9 92 15 LE ?_|with_reducible refine zE LE ?_|refine i7 ?_ ?_<;>intro h<;>try exact h.elim
         all_goals try clear hs
         all_goals exact zn ⟨(k+1,true,M2),by simp only;omega,by simp only;omega,hM2,by rw[hv,Bool.true_and]⟩ (zw Jg 8)
       ·rw[xN (by omega),Bool.and_true] at hv;have hM3:=hM2.put i hv;have hs:=hlk;repeat' first|(with_reducible first|refine zz ?_|refine zr ?_|refine zE LE ?_)|simp -dsimp[hs]|refine i7 ?_ ?_<;>intro h<;>try exact h.elim
        all_goals try clear hs
        all_goals exact⟨_,hM3,by rw[hv],rfl⟩
end Go.Proofs
