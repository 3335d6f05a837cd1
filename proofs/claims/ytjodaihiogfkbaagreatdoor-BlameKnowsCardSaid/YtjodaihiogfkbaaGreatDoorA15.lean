/- Part 15 of the proofs. -/
import Derived.Test.YtjodaihiogfkbaaGreatDoorA13
import Derived.Test.YtjodaihiogfkbaaGreatDoorA14
set_option linter.all false
set_option linter.deprecated false
set_option maxHeartbeats 100000000
namespace Go.Proofs
open Go Go.Ab Tryz
variable {G:GW}
theorem DF {n:Notes} {i:Nat} {x:Note} (h:¬ (1≤x.number∧x.number≤9999∧0≤x.day∧x.day≤14610∧x.signed≤2∧1≤x.frm∧x.frm≤x.to∧x.to≤999∧x.ways≤3)):kL n i x=false:=by
 have:BN x=false:=by
  rw[← Bool.not_eq_true];simp only[BN,Bool.and_eq_true,decide_eq_true_eq];omega
 simp[kL,this]
theorem DE {n:Notes} {i:Nat} {x:Note} {f:Bool} (hf:(n9 n.reg x.drawing x.letter).isSome=f) (h:¬ ((x.drawing=0∧x.letter=0→x.cancels≠0)∧(¬ (x.drawing=0∧x.letter=0)→f=true))):kL n i x=false:=by
 have:BM n.reg x=false:=by
  rw[← Bool.not_eq_true];unfold BM;rw[hf]
  split<;>simp_all
 simp[kL,this]
theorem DD {n:Notes} {i:Nat} {x:Note} (h:x.letter<2∧(x.useUp=true∨0<x.ways)):kL n i x=false:=by
 have:BL x=false:=by
  obtain⟨h1,h2⟩:=h
  rw[BL,Bool.not_eq_false']
  rcases h2 with h2|h2<;>simp[h1,h2]
 simp[kL,this]
theorem DB {n:Notes} {i:Nat} {x:Note} (h:sD n.notes i x=false):kL n i x=false:=by simp[kL,h]
theorem DA {n:Notes} {i:Nat} {x:Note} {f:Bool} (hf:(n9 n.reg x.drawing x.letter).isSome=f) (h:1≤x.number∧x.number≤9999∧0≤x.day∧x.day≤14610∧x.signed≤2∧1≤x.frm∧x.frm≤x.to∧x.to≤999∧x.ways≤3)
 (hb:(x.drawing=0∧x.letter=0→x.cancels≠0)∧(¬ (x.drawing=0∧x.letter=0)→f=true)) (hd:¬ (x.letter<2∧(x.useUp=true∨0<x.ways))) (he:sD n.notes i x=true):kL n i x=(yR n.notes i x&&vD n.notes i x):=by
 have h1:BN x=true:=by simp only[BN,Bool.and_eq_true,decide_eq_true_eq];omega
 have h2:BM n.reg x=true:=by
  unfold BM;rw[hf]
  split<;>simp_all
 have h3:BL x=true:=by
  rw[BL,Bool.not_eq_true',← Bool.not_eq_true];simpa using hd
 simp[kL,h1,h2,h3,he]
def By (l:List Note) (x:Note) (k:Nat):Bool:=decide (x.cancels=0)||(l.take k).any fun y=>decide (y.number=x.cancels)
theorem yh {l:List Note} {x:Note} {k:Nat} (hk:k<l.length):By l x (k+1)=(By l x k||decide (l[k].number=x.cancels)):=by
 unfold By
 rw[List.take_succ_eq_append_getElem hk,List.any_append]
 simp[Bool.or_assoc]
def jJ (l:List Note) (x:Note) (k:Nat):Prop:=((l.take k).any fun y=>decide (y.number=x.number))=false
theorem ox {l:List Note} {x:Note} {k:Nat} (hk:k<l.length) (h:jJ l x k) (h2:¬ l[k].number=x.number):jJ l x (k+1):=by
 unfold jJ at *
 rw[List.take_succ_eq_append_getElem hk,List.any_append,h]
 simp[h2]
theorem Ae {l:List Note} {x:Note} {k i:Nat} (hki:k<i) (hk:k<l.length) (h2:l[k].number=x.number):sD l i x=false:=by
 unfold sD
 rw[Bool.not_eq_false',List.any_eq_true]
 exact⟨l[k],List.mem_take_iff_getElem.2 ⟨k,by omega,rfl⟩,by simp[h2]⟩
theorem Aa (n:Notes) (i:Nat) (x:Note) (hx:n.notes[i]?=some x) (hl:n.notes.length<1000) (hr:n.reg.length<1000):zP prog G 267 [l4 n,iv (i:Int)] (bv (kL n i x)):=by
 refine zf func267 ntmps267 ?_
 try simp only[l4,iv]
 have hi:i<n.notes.length:=e7 hx
 have hxe:n.notes[i]=x:=(List.getElem?_eq_some_iff.1 hx).2
 have c1:=aL (G:=G) x.number 1 9999
 have c2:=aL (G:=G) x.day 0 14610
 have c3:=aL (G:=G) x.frm 1 x.to
 have c4:=kg (G:=G) n.reg x.drawing x.letter (by omega)
 simp only[C9] at c4
 generalize hf:(n9 n.reg x.drawing x.letter).isSome=f at *
 have c5:∀ (h:x.drawing=0) objs,DCall prog G 171 [A8 n.reg,C9 0 x.letter] objs (fun r objs'=>r=.tup [J6 ((n9 n.reg x.drawing x.letter).getD J2),bv f]∧objs'=objs):=fun h=>by
  rw[h] at c4 ⊢;exact c4
 simp only[C9] at c5
 have hs:=za hxe hi
 repeat' first|(with_reducible first|refine zz ?_|refine zr ?_|refine zE [0,1,2,4,5,7,8,9,10,11,49,57,60,73,85,91,103,113] ?_)|simp -dsimp[hs]|refine zp c1 ?_|refine zp c2 ?_|refine zp c3 ?_|refine zp c4 ?_|refine zp (c5 ‹_›) ?_|refine i8 ?_ ?_<;>intro h<;>try simp only[i6] at h|with_reducible refine j0 ?_ ?_<;>intro h<;>have h0:=h<;>(try simp only[i6] at h)<;>have h2:=h<;>(try simp at h2)<;>replace hs:=za h0 (za h (za h2 hs))
 all_goals try clear hs
 all_goals clear c1 c2 c3 c4 c5 hx
 all_goals try (refine DF ?_;omega)
 all_goals try (refine DE hf ?_;clear hf hxe;simp_all;done)
 all_goals try (refine DD ?_;clear hf hxe;simp_all;done)
 all_goals
  have hF:sD n.notes i x=true→kL n i x=(yR n.notes i x&&vD n.notes i x):=by
   refine DA hf (by omega) ?_ ?_
   ·clear hxe hf;simp_all
   ·clear hxe hf;simp_all;try omega
 all_goals refine g9 (ι:={ k:Nat // k≤i∧jJ n.notes x k }) (fun p=>⟨143,[(1,iv (i:Int)),(2,.one (.ptr 0 0)),(5,.one (.ptr 1 0)),(8,bv (By n.notes x p.1)),(9,iv (p.1:Int))],[.row ((m4 n).map .im),.row ((l9 x).map .im)]⟩) (fun p=>i-p.1) ⟨0,by simp[jJ]⟩ (zw [1,2,5,8,9] 2 (by clear hF hf hxe;simp[By, *])) ?_
 all_goals
  rintro⟨k,hk,hno⟩
  simp only[iv,bv]
  by_cases hlt:k<i
  ·have hlk:k<n.notes.length:=by omega
   have hw:=zk k
   have hsu:=yh (x:=x) hlk
   have hn2:=ox hlk hno
   have hbad:=Ae (x:=x) hlt hlk
   generalize hy:n.notes[k]=y at *
   generalize hb:By n.notes x k=b at *
   cases b
   all_goals
    have hs:=za hxe (za hi (za hy (za hlt (za hlk hw))))
    repeat' first|(with_reducible first|refine zz ?_|refine zr ?_|refine zE [0,1,2,4,5,7,8,9,10,11,49,57,60,73,85,91,103,113] ?_)|simp -dsimp[hs]|refine i8 ?_ ?_<;>intro h<;>try simp only[i6] at h
    all_goals try clear hs
   all_goals try (rw[show kL n i x=false from DB (hbad (by assumption))];done)
   all_goals exact zn ⟨k+1,by omega,hn2 (by assumption)⟩ (zw [1,2,5,8,9] 2 (by simp[hsu]))
  ·have e:k=i:=by omega
   subst e
   have hT:=hF (by unfold sD;rw[show ((n.notes.take k).any fun y=>decide (y.number=x.number))=false from hno];rfl)
   rw[show yR n.notes k x=By n.notes x k from rfl] at hT
   by_cases h00:k=0
   ·have hk0:(k:Int)=0:=by omega
    have hs:=za hlt hk0
    repeat' first|(with_reducible first|refine zz ?_|refine zr ?_|refine zE [0,1,2,4,5,7,8,9,10,11,49,57,60,73,85,91,103,113] ?_)|simp -dsimp[hs]|refine i8 ?_ ?_<;>intro h<;>try simp only[i6] at h
    all_goals try clear hs
    rw[hT,vD,if_pos h00,Bool.and_true]
   ·have hk1:k-1<n.notes.length:=by omega
    have hk0:¬ (k:Int)=0:=by omega
    have hw:IntKind.i64.wrap ((k:Int)-1)=((k-1:Nat):Int):=by rw[n8 (by omega) (by omega)];omega
    have h8:vD n.notes k x=yj n.notes[k-1] x:=by rw[vD,if_neg h00,List.getElem?_eq_getElem hk1]
    rw[h8] at hT
    generalize hy:n.notes[k-1]=y at *
    generalize hb:By n.notes x k=b at *
    cases b
    all_goals
     have hs:=za hxe (za hi (za hy (za hk1 (za hw (za hk0 h00)))))
     repeat' first|(with_reducible first|refine zz ?_|refine zr ?_|refine zE [0,1,2,4,5,7,8,9,10,11,49,57,60,73,85,91,103,113] ?_)|simp -dsimp[hs]|refine i8 ?_ ?_<;>intro h<;>try simp only[i6] at h|with_reducible refine j0 ?_ ?_<;>intro h<;>have h0:=h<;>(try simp only[i6] at h)<;>have h2:=h<;>(try simp at h2)<;>replace hs:=za h0 (za h (za h2 hs))
     all_goals try clear hs
    all_goals rw[hT]
    all_goals try (rfl;done)
    all_goals (rw[Bool.true_and,Bool.eq_iff_iff];simp only[yj,Bool.or_eq_true,Bool.and_eq_true,decide_eq_true_eq,iff_true,iff_false,Bool.false_eq_true];omega)
def se (n:Notes):Prop:=T2 n.reg∧n.notes.length≤16∧∀ x∈n.notes,0≤x.ways∧x.ways≤255∧0≤x.signed∧x.signed≤255
theorem jF {l:List Note} {k:Nat} (h:k<l.length):((j6 (l.take (k+1))).length:Int)=(j6 (l.take k)).length+(if l[k].signed=1 then 1 else 0):=by
 rw[bt l k h]
 split<;>simp
def fm (n:Notes):Bool:=decide (n.notes.length≤12)&&(List.range n.notes.length).all (fun i=>match n.notes[i]? with|some x=>kL n i x|none=>true)&&decide ((j6 n.notes).length≤5)
theorem rnotesB_iff {n:Notes}:fm n=true↔n.notes.length≤12∧(∀ (i:Nat) (x:Note),n.notes[i]?=some x→kL n i x=true)∧(j6 n.notes).length≤5:=by
 simp only[fm,Bool.and_eq_true,decide_eq_true_eq,List.all_eq_true,List.mem_range,and_assoc]
 refine and_congr_right fun _=>and_congr_left fun _=>⟨fun h i x hx=>?_,fun h i hi=>?_⟩
 ·have:=h i (List.getElem?_eq_some_iff.1 hx).1
  rw[hx] at this;exact this
 ·rw[List.getElem?_eq_getElem hi]
  exact h i _ (List.getElem?_eq_getElem hi)
theorem tr {n:Notes} (h0:j9 n.reg=0) (hx:∀ x∈n.notes,0≤x.ways):fm n=cK n:=by
 rw[Bool.eq_iff_iff,rnotesB_iff,notesB_iff]
 refine and_congr_right fun _=>and_congr_left fun _=>forall_congr' fun i=>forall_congr' fun x=>?_
 exact⟨fun h hi=>by rw[← wr h0 (hx x (List.mem_of_getElem? hi))];exact h hi,fun h hi=>by rw[wr h0 (hx x (List.mem_of_getElem? hi))];exact h hi⟩
theorem tP (n:Notes) (hs:se n):zP prog G 218 [l4 n] (bv (fm n)):=by
 refine zf func218 ntmps218 ?_
 try simp only[l4]
 obtain⟨hsr,hsn,hsx⟩:=hs
 have hr:=hsr.1
 by_cases hl:n.notes.length≤12
 ·have hli:¬ (12:Int)<n.notes.length:=by omega
  have hs:=hli
  repeat' first|(with_reducible first|refine zz ?_|refine zE [0,1,2,3,4,8,13,19,26] ?_)|simp -dsimp[hs]|refine i8 ?_ ?_<;>intro h<;>try simp only[i6] at h
  all_goals try clear hs
  refine g9 (ι:={ k:Nat // k≤n.notes.length∧∀ (j:Nat) (x:Note),j<k→n.notes[j]?=some x→kL n j x=true }) (fun p=>⟨31,[(1,.one (.ptr 0 0)),(3,iv ((j6 (n.notes.take p.1)).length:Int)),(4,iv (p.1:Int))],[.row ((m4 n).map .im)]⟩) (fun p=>n.notes.length-p.1) ⟨0,by simp⟩ (zv [1,3,4] (by simp[j6])) ?_
  rintro⟨k,hk,hok⟩
  simp only[iv]
  by_cases hlt:k<n.notes.length
  ·have hx0:n.notes[k]?=some n.notes[k]:=by simp[hlt]
   have hw:=zk k
   have hos:=jF hlt
   have hol:=Y0 (n.notes.take k)
   rw[List.length_take] at hol
   have hw2:IntKind.i64.wrap (((j6 (n.notes.take k)).length:Int)+1)=((j6 (n.notes.take k)).length:Int)+1:=n8 (by omega) (by omega)
   have hsx':=hsx n.notes[k] (List.getElem_mem hlt)
   generalize hx:n.notes[k]=x at *
   have c1:=Aa (G:=G) n k x hx0 (by omega) (by omega)
   have hbad:kL n k x=false→fm n=false:=fun h=>by
    rw[← Bool.not_eq_true]
    intro hb
    have:=(rnotesB_iff.1 hb).2.1 k x hx0
    rw[h] at this;cases this
   have hstep:kL n k x=true→∀ (j:Nat) (z:Note),j<k+1→n.notes[j]?=some z→kL n j z=true:=fun h j z hj hz=>by
    by_cases e:j=k
    ·subst e;rw[hx0] at hz;cases hz;exact h
    ·exact hok j z (by omega) hz
   generalize kL n k x=q at *
   cases q
   ·have hs:=za hx (za hlt hw)
    repeat' first|(with_reducible first|refine zz ?_|refine zr ?_|refine zE [0,1,2,3,4,8,13,19,26] ?_)|simp -dsimp[hs]|refine zp c1 ?_|refine i8 ?_ ?_<;>intro h<;>try simp only[i6] at h
    all_goals try clear hs
    exact hbad rfl
   ·have hs:=za hx (za hlt (za hw hw2))
    repeat' first|(with_reducible first|refine zz ?_|refine zE [0,1,2,3,4,8,13,19,26] ?_)|simp -dsimp[hs]|refine zp c1 ?_|refine i8 ?_ ?_<;>intro h<;>try simp only[i6] at h
    all_goals try clear hs
    all_goals exact zn ⟨k+1,by omega,hstep rfl⟩ (zv [1,3,4] (by simp[hos, *]))
  ·have e:k=n.notes.length:=by omega
   subst e
   rw[List.take_length]
   have hs:=hlt
   repeat' first|(with_reducible first|refine zz ?_|refine zr ?_|refine zE [0,1,2,3,4,8,13,19,26] ?_)|simp -dsimp[hs]|refine i8 ?_ ?_<;>intro h<;>try simp only[i6] at h
   all_goals try clear hs
   rw[Bool.eq_iff_iff,rnotesB_iff]
   simp only[decide_eq_true_eq]
   constructor
   ·intro h
    exact⟨hl,fun j x hx=>hok j x (e7 hx) hx,by omega⟩
   ·intro h
    have:=h.2.2;omega
 ·have hli:(12:Int)<n.notes.length:=by omega
  have hs:=hli
  repeat' first|(with_reducible first|refine zz ?_|refine zr ?_|refine zE [0,1,2,3,4,8,13,19,26] ?_)|simp -dsimp[hs]|refine i8 ?_ ?_<;>intro h<;>try simp only[i6] at h
  all_goals try clear hs
  exact Bool.eq_false_iff.2 fun h=>hl (rnotesB_iff.1 h).1
theorem wR (n:Notes) (hs:se n) (h0:j9 n.reg=0) (objs:List DObj):DCall prog G 218 [l4 n] objs (fun rr objs'=>rr=bv (cK n)∧objs'=objs):=by
 rw[← tr h0 fun x hx=>(hs.2.2 x hx).1]
 exact tP n hs objs
theorem pq (n:Notes) (hs:se n):zP prog G 169 [l4 n] (iv (q8 n)):=by
 refine zf func169 ntmps169 ?_
 try simp only[l4]
 have c1:=nU (G:=G) n.reg hs.1
 by_cases h0:j9 n.reg=0
 ·have c2:=wR (G:=G) n hs h0
  have hE:q8 n=if cK n then 0 else 30:=by unfold q8;rw[if_neg (by simp[h0])]
  rw[h0] at c1
  generalize cK n=q at *
  cases q
  ·have hs:=trivial
   repeat' first|(with_reducible first|refine zz ?_|refine zr ?_|refine zE [0,1,2,3,8,12] ?_)|simp -dsimp[hs]|refine zp c1 ?_|refine zp c2 ?_|refine i8 ?_ ?_<;>intro h<;>try simp only[i6] at h
   all_goals try clear hs
   all_goals simp[hE]
  ·have hs:=trivial
   repeat' first|(with_reducible first|refine zz ?_|refine zr ?_|refine zE [0,1,2,3,8,12] ?_)|simp -dsimp[hs]|refine zp c1 ?_|refine zp c2 ?_|refine i8 ?_ ?_<;>intro h<;>try simp only[i6] at h
   all_goals try clear hs
   all_goals simp[hE]
 ·have hE:q8 n=j9 n.reg:=by unfold q8;rw[if_pos h0]
  have hs:=h0
  repeat' first|(with_reducible first|refine zz ?_|refine zr ?_|refine zE [0,1,2,3,8,12] ?_)|simp -dsimp[hs]|refine zp c1 ?_|refine i8 ?_ ?_<;>intro h<;>try simp only[i6] at h
  all_goals try clear hs
  all_goals simp[hE]
def M7 (G:GW):Prop:=G 4=some [.fn (.func 346) [],.fn (.func 347) [],.fn (.func 348) [],.fn (.func 349) [],.fn (.func 350) [],.fn (.func 351) [],.fn (.func 354) [],.fn (.func 356) []]
def C8 (G:GW):Prop:=∀ (l:List Int) (g sz:Nat) (nl:Bool),(sz=1∨nl=true∧l=[])→l.length<1000000→DCall prog G 173 [.one (.vec 0 g 0 l.length)] [.vec sz (n4 (l.map l7)) g nl] (fun d o=>d=.tup []∧o=[.vec sz (n4 ((j8 l).map l7)) g nl])
def G5 (n:Notes):IC:=.ip [.sl (n.reg.map e9),.sl (n.notes.map l9),.sl ((nums n.reg).map l7),.sl ((j8 (j6 n.notes)).map l7)]
def bX (n:Notes):DV:=if q8 n=0 then .one (.im (G5 n)) else .one (.im (.raw (.pointer none)))
theorem xL (n:Notes):ImV (bX n):=by unfold bX;split<;>simp[G5]
attribute [simp] xL
theorem qx {n:Notes} {i:Nat} {x:Note} (h0:j9 n.reg=0) (hx:n.notes[i]?=some x) (h:sC n i x=false):q8 n=30:=by
 unfold q8
 rw[if_neg (by simp[h0]),if_neg]
 intro hb
 have:=(notesB_iff.1 hb).2.1 i x hx
 rw[h] at this;cases this
theorem ot (n:Notes) (hG:s6 G) (hN:M7 G) (hS:C8 G) (hs:se n):zP prog G 106 [l4 n] (.tup [bX n,iv (q8 n)]):=by
 refine zf func106 ntmps106 ?_
 try simp only[l4]
 have hN':G 4=some [.fn (.func 346) [],.fn (.func 347) [],.fn (.func 348) [],.fn (.func 349) [],.fn (.func 350) [],.fn (.func 351) [],.fn (.func 354) [],.fn (.func 356) []]:=hN
 obtain⟨hsr,hsn,hsx⟩:=hs
 have c1:=bH n.reg hG hsr
 by_cases h0:j9 n.reg=0
 ·rw[h0,show cR n.reg=nums n.reg by simp[cR,h0]] at c1
  by_cases hl:n.notes.length≤12
  ·have hli:¬ (12:Int)<n.notes.length:=by omega
   have hE:q8 n=if cK n then 0 else 30:=by unfold q8;rw[if_neg (by simp[h0])]
   have hs:=hli
   repeat' first|with_reducible refine zz ?_|simp -dsimp[hs]|refine zp c1 ?_|with_reducible refine O1 (id:=6) (nt:=78) [0,1,2,3,4,5,6,7,8,9,11,19,24,30,31,32,33,37,38,39,46,50,71] rfl ?_;simp -dsimp[hs]|with_reducible refine zE [0,1,2,3,4,5,6,7,8,9,11,19,24,30,31,32,33,37,38,39,46,50,71] ?_|refine i8 ?_ ?_<;>intro h<;>try simp only[i6] at h
   all_goals try clear hs
   refine g9 (ι:={ p:Nat×Nat×Nat×Bool // p.1≤n.notes.length∧(p.2.2.1=1∨p.2.2.2=true∧j6 (n.notes.take p.1)=[])∧∀ (j:Nat) (x:Note),j<p.1→n.notes[j]?=some x→sC n j x=true }) (fun p=>⟨78,[(1,.one (.ptr 0 0)),(2,.one (.im (.raw (.pointer none)))),(3,iv 0),(6,.one (.ptr 5 0)),(7,bv false),(30,.one (.im (.sl (n.notes.map l9)))),(31,iv (n.notes.length:Int)),(32,iv (p.1.1:Int))],[.row ((m4 n).map .im),.vec 0 [] 0 true,.vec 0 [] 0 true,.vec 0 [] 0 true,.vec p.1.2.2.1 (n4 ((j6 (n.notes.take p.1.1)).map l7)) p.1.2.1 p.1.2.2.2,.row [.im (.sl (n.reg.map e9)),.im (.sl (n.notes.map l9)),.im (.sl ((nums n.reg).map l7)),.vec 4 p.1.2.1 0 (j6 (n.notes.take p.1.1)).length]]⟩) (fun p=>n.notes.length-p.1.1) ⟨(0,0,0,true),by simp[j6]⟩ (zw [1,2,3,6,7,30,31,32] 6 (by simp[j6])) ?_
   rintro⟨⟨k,g,sz,nl⟩,hk,hsz,hok⟩
   simp only at hk hsz hok
   simp only[iv,bv]
   by_cases hlt:k<n.notes.length
   ·have hx0:n.notes[k]?=some n.notes[k]:=by simp[hlt]
    have hw:=zk k
    have hos:=bt n.notes k hlt
    have hol:=Y0 (n.notes.take k)
    rw[List.length_take] at hol
    generalize hx:n.notes[k]=x at *
    have k1:=El (G:=G) n k x hx0
    have k2:=Ek (G:=G) n k x hx0
    have k3:=Ej (G:=G) n k x hx0
    have k4:=Ei (G:=G) n k x hx0 hG hsr
    have k5:=Eh (G:=G) n k x hx0
    have k6:=Eg (G:=G) n k x hx0 (by omega)
    have k7:=Ef (G:=G) n k x hx0 (by omega)
    have k8:=Ee (G:=G) n k x hx0 (by omega)
    rw[show Cr x=oy n k x 0 from rfl] at k1
    rw[show Cq x=oy n k x 1 from rfl] at k2
    rw[show Bt x=oy n k x 2 from rfl] at k3
    rw[show Bs n.reg x=oy n k x 3 from rfl] at k4
    rw[show Co x=oy n k x 4 from rfl] at k5
    rw[show yR n.notes k x=oy n k x 5 from rfl] at k6
    rw[show sD n.notes k x=oy n k x 6 from rfl] at k7
    rw[show vD n.notes k x=oy n k x 7 from rfl] at k8
    have hbad:∀ c,oy n k x c=false→q8 n=30:=fun c h=>qx h0 hx0 (Ac h)
    have hstep:sC n k x=true→∀ (j:Nat) (z:Note),j<k+1→n.notes[j]?=some z→sC n j z=true:=fun h j z hj hz=>by
     by_cases e:j=k
     ·subst e;rw[hx0] at hz;cases hz;exact h
     ·exact hok j z (by omega) hz
    have hs:=za hx (za hlt hN')
    repeat' first|(with_reducible first|refine zz ?_|refine zE [0,1,2,3,4,5,6,7,8,9,11,19,24,30,31,32,33,37,38,39,46,50,71] ?_)|simp -dsimp[hs]|refine i8 ?_ ?_<;>intro h<;>try simp only[i6] at h
    all_goals try clear hs
    refine g9 (ι:={ c:Nat // c≤8∧∀ e<c,oy n k x e=true }) (fun p=>⟨78,[(1,.one (.ptr 0 0)),(2,.one (.im (.raw (.pointer none)))),(3,iv 0),(6,.one (.ptr 5 0)),(7,bv false),(8,iv (k:Int)),(9,.one (.ptr 6 0)),(30,.one (.im (.sl (n.notes.map l9)))),(31,iv (n.notes.length:Int)),(32,iv (k:Int)),(37,.agg [.im (.fn (.func 346) []),.im (.fn (.func 347) []),.im (.fn (.func 348) []),.im (.fn (.func 349) []),.im (.fn (.func 350) []),.im (.fn (.func 351) []),.im (.fn (.func 354) []),.im (.fn (.func 356) [])]),(38,iv (p.1:Int))],[.row ((m4 n).map .im),.vec 0 [] 0 true,.vec 0 [] 0 true,.vec 0 [] 0 true,.vec sz (n4 ((j6 (n.notes.take k)).map l7)) g nl,.row [.im (.sl (n.reg.map e9)),.im (.sl (n.notes.map l9)),.im (.sl ((nums n.reg).map l7)),.vec 4 g 0 (j6 (n.notes.take k)).length],.row ((l9 x).map .im)]⟩) (fun p=>8-p.1) ⟨0,by simp⟩ (zv [1,2,3,6,7,8,9,30,31,32,37,38]) ?_
    rintro⟨c,hc,hcc⟩
    simp only[iv,bv]
    by_cases hc8:c<8
    ·have hm:oy n k x c=true→∀ e<c+1,oy n k x e=true:=fun h e he=>by
      rcases Nat.lt_succ_iff_lt_or_eq.1 he with h1|rfl
      ·exact hcc e h1
      ·exact h
     have hbc:=hbad c
     have hi8:c=0∨c=1∨c=2∨c=3∨c=4∨c=5∨c=6∨c=7:=by omega
     rcases hi8 with rfl|rfl|rfl|rfl|rfl|rfl|rfl|rfl
     all_goals
      have hs:=hli
      repeat' first|(with_reducible first|refine zz ?_|refine Gd (by decide) ?_|refine zr ?_|refine zE [0,1,2,3,4,5,6,7,8,9,11,19,24,30,31,32,33,37,38,39,46,50,71] ?_)|simp -dsimp[hs]|refine zp k1 ?_|refine zp k2 ?_|refine zp k3 ?_|refine zp k4 ?_|refine zp k5 ?_|refine zp k6 ?_|refine zp k7 ?_|refine zp k8 ?_|refine i8 ?_ ?_<;>intro h<;>try simp only[i6] at h
      all_goals try clear hs
     all_goals try (have h30:=hbc (by assumption);simp[bX,h30];done)
     all_goals exact At.round ⟨_,by omega,hm (by assumption)⟩ (by simp) (zw [1,2,3,6,7,8,9,30,31,32,37,38] 7 (by simp;exact n8 (by omega) (by omega)))
    ·obtain rfl:c=8:=by omega
     have hok1:=hstep (Ad hcc)
     have hsz':sz=1∨nl=true:=hsz.imp id And.left
     clear k1 k2 k3 k4 k5 k6 k7 k8
     by_cases hsg:x.signed=1
     ·rw[if_pos hsg] at hos
      have hs:=za hx (za hlt (za hsg (za hw hsz')))
      repeat' first|(with_reducible first|refine zz ?_|refine And.intro (by omega) ?_)|simp -dsimp[hs]|refine s9 (id:=18) (nt:=78) 8 [0] [0,1,2,3,4,5,6,7,8,9,11,19,24,30,31,32,33,37,38,39,46,50,52,53,54,55,56,57,58,71] [0,1,2,3,4,5,6,7,8,9,11,19,24,30,31,32,33,37,38,39,46,50,71] mixed rfl (by kernel_rfl) ?_|with_reducible refine zE [0,1,2,3,4,5,6,7,8,9,11,19,24,30,31,32,33,37,38,39,46,50,71] ?_|refine i8 ?_ ?_<;>intro h<;>try simp only[i6] at h
      all_goals try clear hs
      exact zn ⟨(k+1,g+1,1,false),by omega,.inl rfl,hok1⟩ (zw [1,2,3,6,7,30,31,32] 6 (by simp[hos]))
     ·rw[if_neg hsg,List.append_nil] at hos
      have hszn:sz=1∨nl=true∧j6 (n.notes.take (k+1))=[]:=by rw[hos];exact hsz
      have hs:=za hx (za hlt (za hsg hw))
      repeat' first|(with_reducible first|refine zz ?_|refine zE [0,1,2,3,4,5,6,7,8,9,11,19,24,30,31,32,33,37,38,39,46,50,71] ?_)|simp -dsimp[hs]|refine i8 ?_ ?_<;>intro h<;>try simp only[i6] at h
      all_goals try clear hs
      exact zn ⟨(k+1,g,sz,nl),by omega,hszn,hok1⟩ (zw [1,2,3,6,7,30,31,32] 6 (by simp[hos]))
   ·obtain rfl:k=n.notes.length:=by omega
    rw[List.take_length] at *
    have hall:cZ n:=fun i x hx=>hok i x (e7 hx) hx
    have hol:=Y0 n.notes
    have c2:=hS (j6 n.notes) g sz nl hsz (by omega)
    have hil:=L8 (j6 n.notes)
    by_cases h5:(j6 n.notes).length≤5
    ·have hE0:q8 n=0:=by rw[hE,if_pos (notesB_iff.2 ⟨hl,hall,h5⟩)]
     have h5i:¬ (5:Int)<(j6 n.notes).length:=by omega
     have hsz':sz=1∨nl=true:=hsz.imp id And.left
     have htk:(n4 ((j8 (j6 n.notes)).map l7)).take (j6 n.notes).length=n4 ((j8 (j6 n.notes)).map l7):=List.take_of_length_le (by simp[o2,hil])
     have hs:=za hlt (za h5i (za hsz' (za htk hil)))
     repeat' first|(with_reducible first|refine zz ?_|refine zr ?_|refine zE [0,1,2,3,4,5,6,7,8,9,11,19,24,30,31,32,33,37,38,39,46,50,71] ?_)|simp -dsimp[hs]|refine CallE.embed [4] (c2) ?_ ?_ ?_ ?_ ?_ ?_;(focus simp[w9];done);(focus simp;done);(focus simp;done);(focus simp;done);(focus refine s0 ?_;simp[w9,v8];done);try simp -dsimp[p9,w9,hs]|refine i8 ?_ ?_<;>intro h<;>try simp only[i6] at h
     all_goals try clear hs
     all_goals simp[bX,hE0,G5,hil,htk]
    ·have hE0:q8 n=30:=by rw[hE,if_neg fun h=>h5 (notesB_iff.1 h).2.2]
     have h5i:(5:Int)<(j6 n.notes).length:=by omega
     have hs:=za hlt h5i
     repeat' first|(with_reducible first|refine zz ?_|refine zr ?_|refine zE [0,1,2,3,4,5,6,7,8,9,11,19,24,30,31,32,33,37,38,39,46,50,71] ?_)|simp -dsimp[hs]|refine i8 ?_ ?_<;>intro h<;>try simp only[i6] at h
     all_goals try clear hs
     all_goals simp[bX,hE0]
  ·have hE:q8 n=30:=by
    unfold q8
    rw[if_neg (by simp[h0]),if_neg fun h=>hl (notesB_iff.1 h).1]
   have hli:(12:Int)<n.notes.length:=by omega
   have hs:=hli
   repeat' first|(with_reducible first|refine zz ?_|refine zr ?_|refine zE [0,1,2,3,4,5,6,7,8,9,11,19,24,30,31,32,33,37,38,39,46,50,71] ?_)|simp -dsimp[hs]|refine zp c1 ?_|refine i8 ?_ ?_<;>intro h<;>try simp only[i6] at h
   all_goals try clear hs
   all_goals simp[bX,hE]
 ·have hE:q8 n=j9 n.reg:=by unfold q8;rw[if_pos h0]
  have hs:=h0
  repeat' first|(with_reducible first|refine zz ?_|refine zr ?_|refine zE [0,1,2,3,4,5,6,7,8,9,11,19,24,30,31,32,33,37,38,39,46,50,71] ?_)|simp -dsimp[hs]|refine zp c1 ?_|refine i8 ?_ ?_<;>intro h<;>try simp only[i6] at h
  all_goals try clear hs
  all_goals simp[bX,hE,h0]
theorem wU (n:Notes) (hG:s6 G) (hN:M7 G) (hS:C8 G) (hs:se n):zP prog G 259 [l4 n] (iv (q8 n)):=by
 refine zf func259 ntmps259 ?_
 try simp only[l4]
 have c1:=ot n hG hN hS hs
 have hs:=trivial
 repeat' first|(with_reducible first|refine zz ?_|refine zr ?_|refine zE [0,1,2,4] ?_)|simp -dsimp[hs]|refine zp c1 ?_
 all_goals try clear hs
theorem tp {O:List Int} {j:Nat} (hd:O.Nodup) (hj:j<O.length):mC O[j] (O.take j)=O.take (j+1):=by
 unfold mC
 rw[if_neg,List.take_succ_eq_append_getElem hj]
 intro hm
 obtain⟨i,hi,e⟩:=List.mem_take_iff_getElem.1 hm
 have:=(List.getElem_inj hd).1 e;omega
theorem zd (a b c:IC) (O s:List Int) (hd:O.Nodup) (hO:O.length<1000) (hsl:s.length<1000):zP prog G 193 [.one (.im (.ip [a,b,c,.sl (O.map l7)])),n7 s] (iv (if C0 O s then 0 else 31)):=by
 refine zf func193 ntmps193 ?_
 try simp only[n7]
 have hs:=trivial
 repeat' first|(with_reducible first|refine zz ?_|refine zE [0,1,4,5,7,8,9,14,15,16,17,23,24,25,26,46] ?_)|simp -dsimp[hs]
 refine g9 (ι:={ j:Nat // j≤O.length }) (fun p=>⟨50,[(1,n7 s),(4,iv 0),(5,.one (.map 0)),(14,.one (.im (.sl (O.map l7)))),(15,iv (O.length:Int)),(16,iv (p.1:Int))],[.map [.int .i64] (I6 (O.take p.1))]⟩) (fun p=>O.length-p.1) ⟨0,by omega⟩ (zv [1,4,5,14,15,16] (by simp[I6])) ?_
 rintro⟨j,hj⟩
 simp only[iv,n7]
 by_cases hlt:j<O.length
 ·have hw:=zk j
  have hst:=tp hd hlt
  generalize hx:O[j]=x at *
  have hs:=za hx (za hlt (za hw hst))
  repeat' first|(with_reducible first|refine zz ?_|refine zE [0,1,4,5,7,8,9,14,15,16,17,23,24,25,26,46] ?_)|simp -dsimp[hs]|refine i8 ?_ ?_<;>intro h<;>try simp only[i6] at h
  exact zn ⟨j+1,by omega⟩ (zv [1,4,5,14,15,16] (by simp[hst]))
 ·obtain rfl:j=O.length:=by omega
  rw[List.take_length]
  have hs:=hlt
  repeat' first|(with_reducible first|refine zz ?_|refine zE [0,1,4,5,7,8,9,14,15,16,17,23,24,25,26,46] ?_)|simp -dsimp[hs]|refine i8 ?_ ?_<;>intro h<;>try simp only[i6] at h
  refine g9 (ι:={ p:Nat×List Int // p.1≤s.length∧p.2.Nodup∧(∀ m,m∈p.2↔m∈O∧m∉s.take p.1)∧bh O s p.1 }) (fun p=>⟨50,[(1,n7 s),(5,.one (.map 0)),(23,n7 s),(24,iv (s.length:Int)),(25,iv (p.1.1:Int))],[.map [.int .i64] (I6 p.1.2)]⟩) (fun p=>s.length-p.1.1) ⟨(0,O),by simp,hd,by simp,fun i v h=>by omega⟩ (zv [1,5,23,24,25]) ?_
  rintro⟨⟨i,L⟩,hi,hLd,hLm,hto⟩
  simp only at hi hLd hLm hto
  simp only[iv,n7]
  by_cases hlt2:i<s.length
  ·have hx0:s[i]?=some s[i]:=by simp[hlt2]
   have hw:=zk i
   have hLv:=hLm s[i]
   have hLn:∀ m,m∈L.erase s[i]↔m∈O∧m∉s.take (i+1):=fun m=>by
    rw[hLd.mem_erase_iff,hLm,List.take_succ_eq_append_getElem hlt2]
    simp only[List.mem_append,List.mem_singleton,not_or]
    exact⟨fun h=>⟨h.2.1,h.2.2,h.1⟩,fun h=>⟨h.2.2,h.1,h.2.1⟩⟩
   have hLe:=hLd.erase s[i]
   generalize hv:s[i]=v at *
   by_cases hmem:v∈L
   ·have hmd:decide (v∈L)=true:=by simp[hmem]
    by_cases h00:i=0
    ·have hnext:=W8 hto hx0 (hLv.1 hmem).1 (fun j u e=>by omega)
     subst h00
     have hs:=za hv (za hlt2 (za hmd hmem))
     repeat' first|(with_reducible first|refine zz ?_|refine zE [0,1,4,5,7,8,9,14,15,16,17,23,24,25,26,46] ?_)|simp -dsimp[hs]|refine i8 ?_ ?_<;>intro h<;>try simp only[i6] at h
     exact zn ⟨(0+1,L.erase v),by omega,hLe,hLn,hnext⟩ (zv [1,5,23,24,25] (by simp;exact n8 (by omega) (by omega)))
    ·have hq:i-1<s.length:=by omega
     have hwq:IntKind.i64.wrap ((i:Int)-1)=((i-1:Nat):Int):=by rw[n8 (by omega) (by omega)];omega
     have hi0:(0:Int)<(i:Int):=by omega
     have hin0:0<i:=by omega
     have hu0:s[i-1]?=some s[i-1]:=by simp[hq]
     have hnin:s[i-1]≠v:=fun e=>(hLv.1 hmem).2 (e ▸ List.mem_take_iff_getElem.2 ⟨i-1,by omega,rfl⟩)
     generalize hu:s[i-1]=u at *
     by_cases hlu:v<u
     ·have hb:=di (o:=O) hx0 (.inr ⟨i-1,u,by omega,hu0,by omega⟩)
      have hs:=za hv (za hu (za hq (za hlt2 (za hw (za hwq (za hmd (za hmem (za hi0 (za hin0 hlu)))))))))
      repeat' first|(with_reducible first|refine zz ?_|refine zr ?_|refine zE [0,1,4,5,7,8,9,14,15,16,17,23,24,25,26,46] ?_)|simp -dsimp[hs]|refine i8 ?_ ?_<;>intro h<;>try simp only[i6] at h
      all_goals simp[hb]
     ·have hnext:=W8 hto hx0 (hLv.1 hmem).1 (fun j u' e hu'=>by
       obtain rfl:i-1=j:=by omega
       rw[hu0] at hu';cases hu';omega)
      have hs:=za hv (za hu (za hq (za hlt2 (za hw (za hwq (za hmd (za hmem (za hi0 (za hin0 hlu)))))))))
      repeat' first|(with_reducible first|refine zz ?_|refine zE [0,1,4,5,7,8,9,14,15,16,17,23,24,25,26,46] ?_)|simp -dsimp[hs]|refine i8 ?_ ?_<;>intro h<;>try simp only[i6] at h
      exact zn ⟨(i+1,L.erase v),by omega,hLe,hLn,hnext⟩ (zv [1,5,23,24,25])
   ·have hmd:decide (v∈L)=false:=by simp[hmem]
    have hb:C0 O s=false:=by
     refine di hx0 ?_
     by_cases ho:v∈O
     ·refine .inr ?_
      cases i with
      | zero=>exact absurd (hLv.2 ⟨ho,by simp⟩) hmem
      | succ q =>
        have hq:q<s.length:=by omega
        refine⟨q,s[q],rfl,by simp[hq],Int.not_lt.1 fun hlt3=>hmem (hLv.2 ⟨ho,nH hto hq hlt3⟩)⟩
     ·exact .inl ho
    have hs:=za hv (za hlt2 (za hmd hmem))
    repeat' first|(with_reducible first|refine zz ?_|refine zr ?_|refine zE [0,1,4,5,7,8,9,14,15,16,17,23,24,25,26,46] ?_)|simp -dsimp[hs]|refine i8 ?_ ?_<;>intro h<;>try simp only[i6] at h
    all_goals simp[hb]
  ·have hb:C0 O s=true:=eg (ia (by rwa [show i=s.length by omega] at hto))
   have hs:=hlt2
   repeat' first|(with_reducible first|refine zz ?_|refine zr ?_|refine zE [0,1,4,5,7,8,9,14,15,16,17,23,24,25,26,46] ?_)|simp -dsimp[hs]|refine i8 ?_ ?_<;>intro h<;>try simp only[i6] at h
   all_goals simp[hb]
def r5 (n:Notes) (s:List Int) (m:Int):Int:=if q8 n≠0 then q8 n else if C0 (j8 (j6 n.notes)) s=false then 31 else if 1≤m∧m≤999 then 0 else 2
def O0 (n:Notes) (s:List Int) (m:Int):DV:=if r5 n s m=0 then .one (.im (G5 n)) else .one (.im (.raw (.pointer none)))
theorem uP (n:Notes) (s:List Int) (m:Int):ImV (O0 n s m):=by unfold O0;split<;>simp[G5]
attribute [simp] uP
theorem yp {n:Notes} {s:List Int} {m:Int} (h:r5 n s m=0):q8 n=0∧C0 (j8 (j6 n.notes)) s=true∧1≤m∧m≤999:=by
 unfold r5 at h
 split at h
 ·contradiction
 ·split at h
  ·cases h
  ·split at h
   ·rename_i h1 h2 h3;exact⟨by simpa using h1,by simpa using h2,h3⟩
   ·cases h
theorem Y4 {n:Notes} (h:q8 n=0):j9 n.reg=0∧n.notes.length≤12∧cZ n∧(j6 n.notes).length≤5:=by
 unfold q8 at h
 split at h
 ·contradiction
 ·split at h
  ·rename_i h1 h2;exact⟨by simpa using h1,notesB_iff.1 h2⟩
  ·cases h
theorem sU (n:Notes) (s:List Int) (m:Int) (hG:s6 G) (hN:M7 G) (hS:C8 G) (hs:se n) (hsl:s.length<1000):zP prog G 128 [l4 n,n7 s,iv m] (.tup [O0 n s m,iv (r5 n s m)]):=by
 refine zf func128 ntmps128 ?_
 try simp only[l4,n7,iv]
 have c1:=ot n hG hN hS hs
 by_cases h0:q8 n=0
 ·rw[h0,show bX n=.one (.im (G5 n)) by unfold bX;rw[if_pos h0]] at c1
  have hok:=Y4 h0
  have hnl:=hs.2.1
  have hol:=Y0 n.notes
  have c2:=zd (G:=G) (.sl (n.reg.map e9)) (.sl (n.notes.map l9)) (.sl ((nums n.reg).map l7)) (j8 (j6 n.notes)) s (oL (cJ hok.2.2.1)) (by rw[L8];omega) hsl
  have c3:=fL (G:=G) 1 999 [m] (by simp)
  have hE:r5 n s m=if C0 (j8 (j6 n.notes)) s=false then 31 else if 1≤m∧m≤999 then 0 else 2:=by unfold r5;rw[if_neg (by simp[h0])]
  simp only[G5] at c1
  cases ht:C0 (j8 (j6 n.notes)) s
  ·rw[ht] at c2 hE
   have hE:r5 n s m=31:=by rw[hE];rfl
   have hs:=trivial
   repeat' first|(with_reducible first|refine zz ?_|refine zr ?_|refine zE [0,1,2,3,6,7,8,9,10,17,23,28] ?_)|simp -dsimp[hs]|refine zp c1 ?_|refine zp c2 ?_|refine i8 ?_ ?_<;>intro h<;>try simp only[i6] at h
   all_goals try clear hs
   all_goals simp[O0,hE]
  ·rw[ht] at c2 hE
   by_cases hm:1≤m∧m≤999
   ·have hE:r5 n s m=0:=by rw[hE,if_neg (by simp),if_pos hm]
    have hin:([m].all fun x=>decide (1≤x)&&decide (x≤999))=true:=by simp[hm]
    rw[hin] at c3
    have hs:=trivial
    repeat' first|(with_reducible first|refine zz ?_|refine zr ?_|refine zE [0,1,2,3,6,7,8,9,10,17,23,28] ?_)|simp -dsimp[hs]|refine zp c1 ?_|refine zp c2 ?_|refine zt c3 ?_ ?_ ?_;(focus simp;done);focus (simp;done)|refine i8 ?_ ?_<;>intro h<;>try simp only[i6] at h
    all_goals try clear hs
    all_goals simp[O0,hE,G5]
   ·have hE:r5 n s m=2:=by rw[hE,if_neg (by simp),if_neg hm]
    have hin:([m].all fun x=>decide (1≤x)&&decide (x≤999))=false:=by simp;omega
    rw[hin] at c3
    have hs:=trivial
    repeat' first|(with_reducible first|refine zz ?_|refine zr ?_|refine zE [0,1,2,3,6,7,8,9,10,17,23,28] ?_)|simp -dsimp[hs]|refine zp c1 ?_|refine zp c2 ?_|refine zt c3 ?_ ?_ ?_;(focus simp;done);focus (simp;done)|refine i8 ?_ ?_<;>intro h<;>try simp only[i6] at h
    all_goals try clear hs
    all_goals simp[O0,hE]
 ·rw[show bX n=.one (.im (.raw (.pointer none))) by unfold bX;rw[if_neg h0]] at c1
  have hE:r5 n s m=q8 n:=by unfold r5;rw[if_pos h0]
  have hs:=h0
  repeat' first|(with_reducible first|refine zz ?_|refine zr ?_|refine zE [0,1,2,3,6,7,8,9,10,17,23,28] ?_)|simp -dsimp[hs]|refine zp c1 ?_|refine i8 ?_ ?_<;>intro h<;>try simp only[i6] at h
  all_goals try clear hs
  all_goals simp[O0,hE,h0]
def CQ (n:Notes) (s:List Int) (m d:Int):Int:=if r5 n s m≠0 then r5 n s m else if d∈nums n.reg then 0 else 6
def xU (n:Notes) (s:List Int) (m d:Int):DV:=if CQ n s m d=0 then .one (.im (G5 n)) else .one (.im (.raw (.pointer none)))
theorem uA (n:Notes) (s:List Int) (m d:Int):ImV (xU n s m d):=by unfold xU;split<;>simp[G5]
attribute [simp] uA
end Go.Proofs
namespace Go.Ab
open Go
structure Holder where
 id:Int
 frm:Int
 to:Int
 draws:List Int
 deriving DecidableEq
structure Print where
 number:Int
 day:Int
 holder:Int
 drawing:Int
 letter:Int
 back:Int
 lost:Int
 deriving DecidableEq
structure Prints where
 n:Notes
 holders:List Holder
 prints:List Print
 deriving DecidableEq
def o7 (x:Holder):List IC:=[rI x.id,rI x.frm,rI x.to,.sl (x.draws.map l7)]
def w7 (x:Print):List IC:=[rI x.number,rI x.day,rI x.holder,rI x.drawing,rI x.letter,rI x.back,.raw (.int .u8 x.lost)]
def m8 (p:Prints):List IC:=[.sl (p.n.reg.map e9),.sl (p.n.notes.map l9),.sl (p.holders.map o7),.sl (p.prints.map w7)]
def ik (x:Holder):DV:=.agg ((o7 x).map .im)
def bq (x:Print):DV:=.agg ((w7 x).map .im)
def r7 (p:Prints):DV:=.agg ((m8 p).map .im)
attribute [simp] o7 w7 m8 ik bq r7
end Go.Ab
namespace Go.Proofs
open Go Go.Ab
variable {G:GW}
theorem qS (x lo hi:Int):DCall Tryz.prog G 284 (iv x :: [DC.ptr 0 0,DC.ptr 1 0].map .one) [.row [.im (rI lo)],.row [.im (rI hi)]] (fun d o=>d=bv (decide (x<lo)||decide (hi<x))∧o=[.row [.im (rI lo)],.row [.im (rI hi)]]):=by
 refine i7 Tryz.func284 rfl Tryz.ntmps284 (by simp) rfl ?_
 simp only[rI]
 have hs:=trivial
 repeat' first|(with_reducible first|refine zz ?_|refine zr ?_|refine zE [0,1,2,4] ?_)|simp -dsimp[hs]|with_reducible refine j0 ?_ ?_<;>intro h<;>have h0:=h<;>(try simp only[i6] at h)<;>have h2:=h<;>(try simp at h2)<;>replace hs:=za h0 (za h (za h2 hs))|with_reducible refine And.intro ?_ ?_
 all_goals try clear hs
 all_goals simp[*]
theorem T0 (lo hi:Int) (l:List Int) (hl:l.length<1000000):zP Tryz.prog G 229 [iv lo,iv hi,n7 l] (bv (l.all fun x=>decide (lo≤x)&&decide (x≤hi))):=by
 refine zf Tryz.func229 Tryz.ntmps229 ?_
 try simp only[iv,iv,n7]
 have hc:=C1 (G:=G) l (fun x=>decide (x<lo)||decide (hi<x)) 284 [.ptr 0 0,.ptr 1 0] [.row [.im (rI lo)],.row [.im (rI hi)]] (by simp) (fun x _=>qS x lo hi) hl
 simp only[rI] at hc
 repeat' first|(with_reducible first|refine zz ?_|refine zx ?_|refine zE [0,1,2,3,4,6] ?_)|simp -dsimp|refine CallE.here hc ?_
 rw[Bool.eq_iff_iff];simp
 exact exists_congr fun x=>and_congr_right fun _=>by omega
theorem cM (l:List Holder) (p:Holder→Bool) (k:Nat) (caps:List DC) (objs:List DObj) (hok:D4 Tryz.prog k) (hf:∀ x∈l,DCall Tryz.prog G k (ik x :: caps.map .one) objs (fun d o=>d=bv (p x)∧o=objs)) (hl:l.length<1000000):DCall Tryz.prog G 211 [.one (.im (.sl (l.map o7))),.one (.fn (.func k) caps)] objs (fun d o=>d=iv (G7 p l)∧o=objs):=by
 refine i7 Tryz.func211 rfl Tryz.ntmps211 (by simp) rfl ?_
 have hs:=trivial
 repeat' first|(with_reducible first|refine zz ?_|refine zE [0,1,4,5,7,8,9,16] ?_)|simp -dsimp[hs]
 refine g9 (ι:={ k:Nat // k≤l.length∧∀ j x,j<k→l[j]?=some x→p x=false }) (fun i=>⟨19,[(0,.one (.im (.sl (l.map o7)))),(1,.one (.fn (.func k) caps)),(7,iv (l.length:Int)),(8,iv (i.1:Int))],objs⟩) (fun i=>l.length-i.1) ⟨0,by simp⟩ (zv [0,1,7,8]) ?_
 rintro⟨i,hi,hno⟩
 simp only[iv]
 by_cases hlt:i<l.length
 ·have hx:l[i]?=some l[i]:=by simp[hlt]
  have hw:=zk i
  have hc:=hf l[i] (by simp)
  simp only[ik,o7,List.map_cons,List.map_nil,bv,rI] at hc
  have hs:=za hx (za hw hok)
  repeat' first|(with_reducible first|refine zz ?_|refine And.intro (by omega) ?_|refine zr ?_|refine zE [0,1,4,5,7,8,9,16] ?_)|simp -dsimp[hs]|refine CallE.here hc ?_|refine i8 ?_ ?_<;>intro h<;>try simp only[i6] at h|with_reducible refine And.intro ?_ ?_
  all_goals try omega
  ·exact(I5 hx (by assumption) hno).symm
  ·exact At.round ⟨i+1,by omega,fun j x hj hjx=>by
    by_cases e:j=i
    ·subst e;rw[hx] at hjx;cases hjx;assumption
    ·exact hno j x (by omega) hjx⟩ (by simp;omega) (zv [0,1,7,8])
 ·have hs:=trivial
  repeat' first|(with_reducible first|refine zz ?_|refine zr ?_|refine zE [0,1,4,5,7,8,9,16] ?_)|simp -dsimp[hs]|refine i8 ?_ ?_<;>intro h<;>try simp only[i6] at h|with_reducible refine And.intro ?_ ?_
  all_goals try omega
  exact(Q3 fun j x hjx=>hno j x (by have:=e7 hjx;omega) hjx).symm
theorem fY (l:List Holder) (p:Holder→Bool) (k:Nat) (caps:List DC) (objs:List DObj) (hok:D4 Tryz.prog k) (hf:∀ x∈l,DCall Tryz.prog G k (ik x :: caps.map .one) objs (fun d o=>d=bv (p x)∧o=objs)) (hl:l.length<1000000):DCall Tryz.prog G 155 [.one (.im (.sl (l.map o7))),.one (.fn (.func k) caps)] objs (fun d o=>d=bv (l.any p)∧o=objs):=by
 refine i7 Tryz.func155 rfl Tryz.ntmps155 (by simp) rfl ?_
 have hc:=cM l p k caps objs hok hf hl
 repeat' first|(with_reducible first|refine zz ?_|refine zx ?_|refine zE [0,1,4] ?_)|simp -dsimp|refine CallE.here hc ?_|with_reducible refine And.intro ?_ ?_
 simp[u7]
theorem kX (l:List Issue) (p:Issue→Bool) (k:Nat) (caps:List DC) (objs:List DObj) (hok:D4 Tryz.prog k) (hf:∀ x∈l,DCall Tryz.prog G k (J6 x :: caps.map .one) objs (fun d o=>d=bv (p x)∧o=objs)) (hl:l.length<1000000):DCall Tryz.prog G 371 [.one (.im (.sl (l.map e9))),.one (.fn (.func k) caps)] objs (fun d o=>d=iv (G7 p l)∧o=objs):=by
 refine i7 Tryz.func371 rfl Tryz.ntmps371 (by simp) rfl ?_
 have hs:=trivial
 repeat' first|(with_reducible first|refine zz ?_|refine zE [0,1,4,5,7,8,9,16] ?_)|simp -dsimp[hs]
 refine g9 (ι:={ k:Nat // k≤l.length∧∀ j x,j<k→l[j]?=some x→p x=false }) (fun i=>⟨19,[(0,.one (.im (.sl (l.map e9)))),(1,.one (.fn (.func k) caps)),(7,iv (l.length:Int)),(8,iv (i.1:Int))],objs⟩) (fun i=>l.length-i.1) ⟨0,by simp⟩ (zv [0,1,7,8]) ?_
 rintro⟨i,hi,hno⟩
 simp only[iv]
 by_cases hlt:i<l.length
 ·have hx:l[i]?=some l[i]:=by simp[hlt]
  have hw:=zk i
  have hc:=hf l[i] (by simp)
  simp only[J6,e9,List.map_cons,List.map_nil,bv,rI] at hc
  have hs:=za hx (za hw hok)
  repeat' first|(with_reducible first|refine zz ?_|refine And.intro (by omega) ?_|refine zr ?_|refine zE [0,1,4,5,7,8,9,16] ?_)|simp -dsimp[hs]|refine CallE.here hc ?_|refine i8 ?_ ?_<;>intro h<;>try simp only[i6] at h|with_reducible refine And.intro ?_ ?_
  all_goals try omega
  ·exact(I5 hx (by assumption) hno).symm
  ·exact At.round ⟨i+1,by omega,fun j x hj hjx=>by
    by_cases e:j=i
    ·subst e;rw[hx] at hjx;cases hjx;assumption
    ·exact hno j x (by omega) hjx⟩ (by simp;omega) (zv [0,1,7,8])
 ·have hs:=trivial
  repeat' first|(with_reducible first|refine zz ?_|refine zr ?_|refine zE [0,1,4,5,7,8,9,16] ?_)|simp -dsimp[hs]|refine i8 ?_ ?_<;>intro h<;>try simp only[i6] at h|with_reducible refine And.intro ?_ ?_
  all_goals try omega
  exact(Q3 fun j x hjx=>hno j x (by have:=e7 hjx;omega) hjx).symm
theorem gP (l:List Issue) (p:Issue→Bool) (k:Nat) (caps:List DC) (objs:List DObj) (hok:D4 Tryz.prog k) (hf:∀ x∈l,DCall Tryz.prog G k (J6 x :: caps.map .one) objs (fun d o=>d=bv (p x)∧o=objs)) (hl:l.length<1000000):DCall Tryz.prog G 367 [.one (.im (.sl (l.map e9))),.one (.fn (.func k) caps)] objs (fun d o=>d=bv (l.any p)∧o=objs):=by
 refine i7 Tryz.func367 rfl Tryz.ntmps367 (by simp) rfl ?_
 have hc:=kX l p k caps objs hok hf hl
 repeat' first|(with_reducible first|refine zz ?_|refine zx ?_|refine zE [0,1,4] ?_)|simp -dsimp|refine CallE.here hc ?_|with_reducible refine And.intro ?_ ?_
 simp[u7]
def m5 (p:Prints):IC:=.ip [.sl (p.n.reg.map e9),.sl (p.n.notes.map l9),.sl (p.holders.map o7),.sl (p.prints.map w7),.sl ((nums p.n.reg).map l7)]
theorem ul (n:Int) (y:Holder):DCall Tryz.prog G 230 (ik y :: [DC.ptr 0 0].map .one) [.row [.im (rI n)]] (fun d o=>d=bv (decide (y.id=n))∧o=[.row [.im (rI n)]]):=by
 refine DCall.drop ?_
 refine i7 Tryz.func230 rfl Tryz.ntmps230 (by simp) rfl ?_
 simp only[ik,o7,rI]
 repeat' first|(with_reducible first|refine zz ?_|refine zx ?_|refine zE [0,1,2,3] ?_)|simp -dsimp|with_reducible refine And.intro ?_ ?_
theorem oQ (p:Prints) (n:Int) (hl:p.holders.length<1000000):zP Tryz.prog G 180 [.one (.im (m5 p)),iv n] (iv (G7 (fun y=>decide (y.id=n)) p.holders)):=by
 refine zf Tryz.func180 Tryz.ntmps180 ?_
 try simp only[iv]
 simp only[m5]
 have c1:=cM (G:=G) p.holders (fun y=>decide (y.id=n)) 230 [.ptr 0 0] [.row [.im (rI n)]] (by simp) (fun y _=>ul n y) hl
 simp only[rI] at c1
 repeat' first|(with_reducible first|refine zz ?_|refine zx ?_|refine zE [0,1,3,4] ?_)|simp -dsimp|refine zh c1 ?_
def Di (x:Print):Bool:=(decide (1≤x.number)&&decide (x.number≤9999))&&(decide (0≤x.day)&&decide (x.day≤14610))
theorem DR (d:IC) (x:Print):zP Tryz.prog G 364 [.one (.im d),bq x] (bv (Di x)):=by
 refine zf Tryz.func364 Tryz.ntmps364 ?_
 try simp only[iv]
 have c1:=T0 (G:=G) 1 9999 [x.number] (by simp)
 have c2:=T0 (G:=G) 0 14610 [x.day] (by simp)
 have hs:=trivial
 repeat' first|(with_reducible first|refine zz ?_|refine zr ?_|refine zE [1,3,4] ?_)|simp -dsimp[hs]|refine zt c1 ?_ ?_ ?_;(focus simp;done);focus (simp;done)|refine zt c2 ?_ ?_ ?_;(focus simp;done);focus (simp;done)|with_reducible refine j0 ?_ ?_<;>intro h<;>have h0:=h<;>(try simp only[i6] at h)<;>have h2:=h<;>(try simp at h2)<;>replace hs:=za h0 (za h (za h2 hs))
 all_goals try clear hs
 all_goals simp_all [Di]
 all_goals omega
def DQ (l:List Holder) (x:Print):Bool:=l.any fun y=>decide (y.id=x.holder)
theorem DP (p:Prints) (x:Print) (hl:p.holders.length<1000000):zP Tryz.prog G 365 [.one (.im (m5 p)),bq x] (bv (DQ p.holders x)):=by
 refine zf Tryz.func365 Tryz.ntmps365 ?_
 try simp only[iv]
 have c1:=oQ (G:=G) p x.holder hl
 simp only[m5] at c1 ⊢
 repeat' first|(with_reducible first|refine zz ?_|refine zx ?_|refine zE [0,1,3,4] ?_)|simp -dsimp|refine zp c1 ?_
 rw[u7];rfl
def Ca (l:List Issue) (x:Print):Bool:=l.any fun y=>decide (x.drawing=y.drawing∧x.letter=y.letter)
theorem BZ (x:Print) (y:Issue):DCall Tryz.prog G 368 (J6 y :: [DC.ptr 0 0].map .one) [.row ((w7 x).map .im)] (fun d o=>d=bv (decide (x.drawing=y.drawing∧x.letter=y.letter))∧o=[.row ((w7 x).map .im)]):=by
 refine DCall.drop ?_
 refine i7 Tryz.func368 rfl Tryz.ntmps368 (by simp) rfl ?_
 simp only[J6,e9,w7,rI]
 repeat' first|(with_reducible first|refine zz ?_|refine zx ?_|refine zE [0,1,2,3] ?_)|simp -dsimp|with_reducible refine And.intro ?_ ?_
theorem DO (p:Prints) (x:Print) (hl:p.n.reg.length<1000000):zP Tryz.prog G 366 [.one (.im (m5 p)),bq x] (bv (Ca p.n.reg x)):=by
 refine zf Tryz.func366 Tryz.ntmps366 ?_
 try simp only[iv]
 simp only[m5]
 have c1:=gP (G:=G) p.n.reg (fun y=>decide (x.drawing=y.drawing∧x.letter=y.letter)) 368 [.ptr 0 0] [.row ((w7 x).map .im)] (by simp) (fun y _=>BZ x y) hl
 simp only[w7,rI,List.map_cons,List.map_nil] at c1
 repeat' first|(with_reducible first|refine zz ?_|refine zx ?_|refine zE [0,1,3,4] ?_)|simp -dsimp|refine zh c1 ?_
 simp[Ca]
def BY (x:Print):Bool:=decide (x.lost≤2)
theorem DN (d:IC) (x:Print):zP Tryz.prog G 369 [.one (.im d),bq x] (bv (BY x)):=by
 refine zf Tryz.func369 Tryz.ntmps369 ?_
 try simp only[iv]
 repeat' first|(with_reducible first|refine zz ?_|refine zx ?_|refine zE [1,3,4] ?_)|simp -dsimp
 all_goals simp[BY]
def Dh (x:Print):Bool:=decide (x.back=-1)||(decide (x.day≤x.back)&&decide (x.back≤14610))&&decide (x.lost=0)
theorem DM (d:IC) (x:Print):zP Tryz.prog G 370 [.one (.im d),bq x] (bv (Dh x)):=by
 refine zf Tryz.func370 Tryz.ntmps370 ?_
 try simp only[iv]
 have c1:=T0 (G:=G) x.day 14610 [x.back] (by simp)
 have hs:=trivial
 repeat' first|(with_reducible first|refine zz ?_|refine zr ?_|refine zE [1,3,4] ?_)|simp -dsimp[hs]|refine zt c1 ?_ ?_ ?_;(focus simp;done);focus (simp;done)|with_reducible refine j0 ?_ ?_<;>intro h<;>have h0:=h<;>(try simp only[i6] at h)<;>have h2:=h<;>(try simp at h2)<;>replace hs:=za h0 (za h (za h2 hs))
 all_goals try clear hs
 all_goals simp_all [Dh]
 all_goals omega
end Go.Proofs
namespace Go.Proofs
open Go Go.Ab Tryz
variable {G:GW}
def AA (D l:List Int) (k:Nat) (d:Int):Prop:=d∈D∧(0<k→∀ e,l[k-1]?=some e→e<d)
def FL (l:List Holder) (i:Nat) (x:Holder):Prop:=(1≤x.id∧x.id≤9999)∧(0<i→∀ y,l[i-1]?=some y→y.id<x.id)∧(1≤x.frm∧x.frm≤999)∧(1≤x.to∧x.to≤999)∧x.frm≤x.to∧x.draws.length≤8
def pR (D:List Int) (l:List Holder) (i:Nat) (x:Holder):Prop:=FL l i x∧∀ k d,x.draws[k]?=some d→AA D x.draws k d
def wG (p:Prints) (x:Print):Nat→Bool
 | 0=>Di x
 | 1=>DQ p.holders x
 | 2=>Ca p.n.reg x
 | 3=>BY x
 | _=>Dh x
def tM (p:Prints) (i:Nat) (x:Print):Prop:=(0<i→∀ y,p.prints[i-1]?=some y→y.number<x.number)∧∀ c,c<5→wG p x c=true
structure PrintsOk (p:Prints):Prop where
 hl:p.holders.length≤6
 pl:p.prints.length≤30
 h:∀ i x,p.holders[i]?=some x→pR (nums p.n.reg) p.holders i x
 q:∀ i x,p.prints[i]?=some x→tM p i x
noncomputable def C4 (p:Prints):Bool:=open Classical in decide (PrintsOk p)
theorem og (p:Prints):C4 p=true↔PrintsOk p:=by simp[C4]
theorem K4 {p:Prints} (h:¬ PrintsOk p):C4 p=false:=by simp[C4,h]
theorem ic {p:Prints} (h:PrintsOk p):C4 p=true:=by simp[C4,h]
structure SmallP (p:Prints):Prop where
 r:(nums p.n.reg).length<1000
 l:p.n.reg.length<1000
 h:p.holders.length≤8
 q:p.prints.length≤40
 d:∀ x∈p.holders,x.draws.length≤20
 lo:∀ x∈p.prints,0≤x.lost∧x.lost≤255
def F0 (G:GW):Prop:=G 6=some [.fn (.func 364) [],.fn (.func 365) [],.fn (.func 366) [],.fn (.func 369) [],.fn (.func 370) []]
theorem zG (p:Prints) (hR:F0 G) (hs:SmallP p):zP prog G 260 [.one (.im (m5 p))] (bv (C4 p)):=by
 refine zf func260 ntmps260 ?_
 try simp only[iv]
 have hR':G 6=some [.fn (.func 364) [],.fn (.func 365) [],.fn (.func 366) [],.fn (.func 369) [],.fn (.func 370) []]:=hR
 obtain⟨hsr,hsl,hsh,hsq,hsd,hslo⟩:=hs
 by_cases h6:¬ p.holders.length≤6
 ·have h6':(6:Int)<p.holders.length:=by omega
  have hno:=K4 (p:=p) fun h=>h6 h.hl
  simp only[m5]
  have hs:=h6'
  repeat' first|(with_reducible first|refine zz ?_|refine zr ?_|refine zE [0,2,3,4,5,6,7,8,9,11,27,32,33,34,35,84,86,87,88,89,113,120,121,122,123,143,144,145,146,154] ?_)|simp -dsimp[hs]|refine i8 ?_ ?_<;>intro h<;>try simp only[i6] at h
  all_goals try clear hs
  all_goals simp[hno]
 by_cases h30:¬ p.prints.length≤30
 ·replace h6:=Classical.not_not.1 h6
  have h6':¬ (6:Int)<p.holders.length:=by omega
  have h30':(30:Int)<p.prints.length:=by omega
  have hno:=K4 (p:=p) fun h=>h30 h.pl
  simp only[m5]
  have hs:=za h6' h30'
  repeat' first|(with_reducible first|refine zz ?_|refine zr ?_|refine zE [0,2,3,4,5,6,7,8,9,11,27,32,33,34,35,84,86,87,88,89,113,120,121,122,123,143,144,145,146,154] ?_)|simp -dsimp[hs]|refine i8 ?_ ?_<;>intro h<;>try simp only[i6] at h
  all_goals try clear hs
  all_goals simp[hno]
 replace h6:=Classical.not_not.1 h6
 replace h30:=Classical.not_not.1 h30
 have h6':¬ (6:Int)<p.holders.length:=by omega
 have h30':¬ (30:Int)<p.prints.length:=by omega
 simp only[m5]
 have hs:=za h6' h30'
 repeat' first|(with_reducible first|refine zz ?_|refine zE [0,2,3,4,5,6,7,8,9,11,27,32,33,34,35,84,86,87,88,89,113,120,121,122,123,143,144,145,146,154] ?_)|simp -dsimp[hs]|refine i8 ?_ ?_<;>intro h<;>try simp only[i6] at h
 all_goals try clear hs
 refine g9 (ι:={ k:Nat // k≤p.holders.length∧∀ (j:Nat) (x:Holder),j<k→p.holders[j]?=some x→pR (nums p.n.reg) p.holders j x }) (fun q=>⟨158,[(0,.one (.im (m5 p))),(32,.one (.im (.sl (p.holders.map o7)))),(33,iv (p.holders.length:Int)),(34,iv (q.1:Int))],[]⟩) (fun q=>p.holders.length-q.1) ⟨0,by simp⟩ (zv [0,32,33,34] (by simp[m5])) ?_
 rintro⟨k,hk,hok⟩
 simp only[iv,m5]
 by_cases hlt:k<p.holders.length
 ·have hx0:p.holders[k]?=some p.holders[k]:=by simp[hlt]
  have hw:=zk k
  have hdl:=hsd p.holders[k] (List.getElem_mem hlt)
  generalize hx:p.holders[k]=x at *
  have hbad:¬ pR (nums p.n.reg) p.holders k x→C4 p=false:=fun h=>K4 fun h'=>h (h'.h k x hx0)
  have hstep:pR (nums p.n.reg) p.holders k x→∀ (j:Nat) (z:Holder),j<k+1→p.holders[j]?=some z→pR (nums p.n.reg) p.holders j z:=fun h j z hj hz=>by
   by_cases e:j=k
   ·subst e;rw[hx0] at hz;cases hz;exact h
   ·exact hok j z (by omega) hz
  have c1:=T0 (G:=G) 1 9999 [x.id] (by simp)
  have c2:=T0 (G:=G) 1 999 [x.frm,x.to] (by simp)
  have c3:=fun d=>bL (G:=G) (nums p.n.reg) d (by omega)
  have hs:True:=trivial
  by_cases hA:FL p.holders k x
  ·have hA':=hA
   obtain⟨a1,a3,a4,a6,a8,a9⟩:=hA
   have e1:([x.id].all fun y=>decide (1≤y)&&decide (y≤9999))=true:=by simp;omega
   have e2:([x.frm,x.to].all fun y=>decide (1≤y)&&decide (y≤999))=true:=by simp;omega
   rw[e1] at c1
   rw[e2] at c2
   have a8':¬ x.to<x.frm:=by omega
   have a9':¬ (8:Int)<x.draws.length:=by omega
   have hcs:(¬ 0<k∧True∧∃ _:True,True)∨(0<k∧IntKind.i64.wrap ((k:Int)-1)=((k-1:Nat):Int)∧∃ h:k-1<p.holders.length,¬ x.id≤(p.holders[k-1]'h).id):=by
    rcases Nat.eq_zero_or_pos k with h0|h0
    ·exact .inl ⟨by omega,trivial,trivial,trivial⟩
    ·have h1:k-1<p.holders.length:=by omega
     exact .inr ⟨by omega,by rw[n8 (by omega) (by omega)];omega,h1,by have:=a3 h0 _ (List.getElem?_eq_getElem h1);omega⟩
   rcases hcs with⟨hk0,hwm,hi1,hlt1⟩|⟨hk0,hwm,hi1,hlt1⟩
   all_goals
    have hs:=za hx (za hlt (za a8' (za a9' (za hk0 (za hwm (za hi1 hlt1))))))
    repeat' first|with_reducible refine zz ?_|simp -dsimp[hs]|refine zq c1 ?_|refine zq c2 ?_|refine zM 6 158 46 [0,2,3,4,5,6,7,8,9,11,27,32,33,34,35,84,86,87,88,89,113,120,121,122,123,143,144,145,146,154] ?_|with_reducible refine zE [0,2,3,4,5,6,7,8,9,11,27,32,33,34,35,84,86,87,88,89,113,120,121,122,123,143,144,145,146,154] ?_|refine i8 ?_ ?_<;>intro h<;>try simp only[i6] at h
    all_goals try clear hs
   all_goals
    refine g9 (ι:={ j:Nat // j≤x.draws.length∧∀ (i:Nat) (d:Int),i<j→x.draws[i]?=some d→AA (nums p.n.reg) x.draws i d }) (fun q=>⟨158,[(0,.one (.im (m5 p))),(4,.one (.ptr 1 0)),(32,.one (.im (.sl (p.holders.map o7)))),(33,iv (p.holders.length:Int)),(34,iv (k:Int)),(86,.one (.im (.sl (x.draws.map l7)))),(87,iv (x.draws.length:Int)),(88,iv (q.1:Int))],[.vec 0 [] 0 true,.row ((o7 x).map .im)]⟩) (fun q=>x.draws.length-q.1) ⟨0,by simp⟩ (zv [0,4,32,33,34,86,87,88] (by simp[m5])) ?_
    rintro⟨j,hj,hjok⟩
    simp only[iv,m5]
    by_cases hlj:j<x.draws.length
    ·have hx1:x.draws[j]?=some x.draws[j]:=by simp[hlj]
     have hwj:=zk j
     have c4:=c3 x.draws[j]
     have hcj:(¬ 0<j∧True∧∃ _:True,True)∨(0<j∧IntKind.i64.wrap ((j:Int)-1)=((j-1:Nat):Int)∧∃ h:j-1<x.draws.length,True):=by
      rcases Nat.eq_zero_or_pos j with h0|h0
      ·exact .inl ⟨by omega,trivial,trivial,trivial⟩
      ·exact .inr ⟨by omega,by rw[n8 (by omega) (by omega)];omega,by omega,trivial⟩
     have hbadj:¬ AA (nums p.n.reg) x.draws j x.draws[j]→C4 p=false:=fun h=>hbad fun h'=>h (h'.2 j _ hx1)
     have hstj:AA (nums p.n.reg) x.draws j x.draws[j]→∀ (i:Nat) (d:Int),i<j+1→x.draws[i]?=some d→AA (nums p.n.reg) x.draws i d:=fun h i d hi hd=>by
      by_cases e:i=j
      ·subst e;rw[hx1] at hd;cases hd;exact h
      ·exact hjok i d (by omega) hd
     clear hstep
     rcases hcj with⟨hj0,hwmj,hij,-⟩|⟨hj0,hwmj,hij,-⟩
     all_goals
      have hs:=za hx1 (za hlj (za hj0 (za hwmj (za hij hwj))))
      repeat' first|(with_reducible first|refine zz ?_|refine zr ?_|refine zE [0,2,3,4,5,6,7,8,9,11,27,32,33,34,35,84,86,87,88,89,113,120,121,122,123,143,144,145,146,154] ?_)|simp -dsimp[hs]|refine zp c4 ?_|refine i8 ?_ ?_<;>intro h<;>try simp only[i6] at h|with_reducible refine j0 ?_ ?_<;>intro h<;>have h0:=h<;>(try simp only[i6] at h)<;>have h2:=h<;>(try simp at h2)<;>replace hs:=za h0 (za h (za h2 hs))
      all_goals try clear hs
     all_goals first
      | exact zn ⟨j+1,by omega,hstj ⟨of_decide_eq_true (by assumption),fun h1 e he=>by first|omega|(obtain⟨_,rfl⟩:=List.getElem?_eq_some_iff.1 he;omega)⟩⟩ (zv [0,4,32,33,34,86,87,88])
      | (refine hbadj fun hh=>?_;have:=hh.1;simp_all;done)
      | (refine hbadj fun hh=>?_;have:=hh.2 (by omega) _ (List.getElem?_eq_getElem hij);omega)
    ·have hs:=za hlj hw
     repeat' first|(with_reducible first|refine zz ?_|refine zE [0,2,3,4,5,6,7,8,9,11,27,32,33,34,35,84,86,87,88,89,113,120,121,122,123,143,144,145,146,154] ?_)|simp -dsimp[hs]|refine i8 ?_ ?_<;>intro h<;>try simp only[i6] at h
     all_goals try clear hs
     exact zn ⟨k+1,by omega,hstep ⟨hA',fun i d hd=>hjok i d (by have:=e7 hd;omega) hd⟩⟩ (zw [0,32,33,34] 0)
  ·have hno:=hbad fun h=>hA h.1
   generalize hb1:([x.id].all fun y=>decide (1≤y)&&decide (y≤9999))=b1 at c1
   generalize hb2:([x.frm,x.to].all fun y=>decide (1≤y)&&decide (y≤999))=b2 at c2
   have hcs:(¬ 0<k∧True∧∃ _:True,True)∨(0<k∧IntKind.i64.wrap ((k:Int)-1)=((k-1:Nat):Int)∧∃ h:k-1<p.holders.length,True):=by
    rcases Nat.eq_zero_or_pos k with h0|h0
    ·exact .inl ⟨by omega,trivial,trivial,trivial⟩
    ·exact .inr ⟨by omega,by rw[n8 (by omega) (by omega)];omega,by omega,trivial⟩
   rcases hcs with⟨hk0,hwm,hi1,-⟩|⟨hk0,hwm,hi1,-⟩<;>cases b1<;>cases b2
   all_goals
    have hs:=za hx (za hlt (za hk0 (za hwm hi1)))
    repeat' first|(with_reducible first|refine zz ?_|refine zr ?_)|simp -dsimp[hs]|refine zq c1 ?_|refine zq c2 ?_|refine zM 6 158 46 [0,2,3,4,5,6,7,8,9,11,27,32,33,34,35,84,86,87,88,89,113,120,121,122,123,143,144,145,146,154] ?_|with_reducible refine zE [0,2,3,4,5,6,7,8,9,11,27,32,33,34,35,84,86,87,88,89,113,120,121,122,123,143,144,145,146,154] ?_|refine i8 ?_ ?_<;>intro h<;>try simp only[i6] at h|with_reducible refine j0 ?_ ?_<;>intro h<;>have h0:=h<;>(try simp only[i6] at h)<;>have h2:=h<;>(try simp at h2)<;>replace hs:=za h0 (za h (za h2 hs))
    all_goals try clear hs
   all_goals try (first|exact hno|exact hno.symm)
   ·refine absurd ?_ hA
    simp at hb1 hb2
    exact⟨by omega,fun h1=>by omega,by omega,by omega,by omega,by omega⟩
   ·refine absurd ?_ hA
    simp at hb1 hb2
    exact⟨by omega,fun h1 y hy=>by
     obtain⟨_,rfl⟩:=List.getElem?_eq_some_iff.1 hy
     simp_all<;>omega,by omega,by omega,by omega,by omega⟩
 ·have hkl:k=p.holders.length:=by omega
  have hall:∀ i x,p.holders[i]?=some x→pR (nums p.n.reg) p.holders i x:=fun i x hx=>hok i x (by have:=e7 hx;omega) hx
  have hs:=hlt
  repeat' first|(with_reducible first|refine zz ?_|refine zE [0,2,3,4,5,6,7,8,9,11,27,32,33,34,35,84,86,87,88,89,113,120,121,122,123,143,144,145,146,154] ?_)|simp -dsimp[hs]|refine i8 ?_ ?_<;>intro h<;>try simp only[i6] at h
  all_goals try clear hs
  refine g9 (ι:={ k:Nat // k≤p.prints.length∧∀ (j:Nat) (x:Print),j<k→p.prints[j]?=some x→tM p j x }) (fun q=>⟨158,[(0,.one (.im (m5 p))),(7,bv true),(120,.one (.im (.sl (p.prints.map w7)))),(121,iv (p.prints.length:Int)),(122,iv (q.1:Int))],[]⟩) (fun q=>p.prints.length-q.1) ⟨0,by simp⟩ (zv [0,7,120,121,122] (by simp[m5])) ?_
  clear hlt hok hk hkl k
  rintro⟨k,hk,hok⟩
  simp only[iv,bv,m5]
  by_cases hlt:k<p.prints.length
  ·have hx0:p.prints[k]?=some p.prints[k]:=by simp[hlt]
   have hw:=zk k
   have hll:=hslo p.prints[k] (List.getElem_mem hlt)
   generalize hx:p.prints[k]=x at *
   have hbad:¬ tM p k x→C4 p=false:=fun h=>K4 fun h'=>h (h'.q k x hx0)
   have hstep:tM p k x→∀ (j:Nat) (z:Print),j<k+1→p.prints[j]?=some z→tM p j z:=fun h j z hj hz=>by
    by_cases e:j=k
    ·subst e;rw[hx0] at hz;cases hz;exact h
    ·exact hok j z (by omega) hz
   have hs:True:=trivial
   have hcs:(¬ 0<k∧True∧∃ _:True,True)∨(0<k∧IntKind.i64.wrap ((k:Int)-1)=((k-1:Nat):Int)∧∃ h:k-1<p.prints.length,True):=by
    rcases Nat.eq_zero_or_pos k with h0|h0
    ·exact .inl ⟨by omega,trivial,trivial,trivial⟩
    ·exact .inr ⟨by omega,by rw[n8 (by omega) (by omega)];omega,by omega,trivial⟩
   rcases hcs with⟨hk0,hwm,hi1,-⟩|⟨hk0,hwm,hi1,-⟩
   all_goals
    have hs:=za hx (za hlt (za hk0 (za hwm (za hi1 hR'))))
    repeat' first|(with_reducible first|refine zz ?_|refine zr ?_)|simp -dsimp[hs]|refine zM 19 158 17 [0,2,3,4,5,6,7,8,9,11,27,32,33,34,35,84,86,87,88,89,113,120,121,122,123,143,144,145,146,154] ?_|with_reducible refine zE [0,2,3,4,5,6,7,8,9,11,27,32,33,34,35,84,86,87,88,89,113,120,121,122,123,143,144,145,146,154] ?_|refine i8 ?_ ?_<;>intro h<;>try simp only[i6] at h
    all_goals try clear hs
   all_goals try (exact hbad fun hh=>by have:=hh.1 hk0 _ (List.getElem?_eq_getElem hi1);omega)
   all_goals
    have hord:0<k→∀ y,p.prints[k-1]?=some y→y.number<x.number:=fun h1 y hy=>by
     first|omega|(obtain⟨_,rfl⟩:=List.getElem?_eq_some_iff.1 hy;omega)
    have k1:=fun d=>DR (G:=G) d x
    have k2:=DP (G:=G) p x (by omega)
    have k3:=DO (G:=G) p x (by omega)
    have k4:=fun d=>DN (G:=G) d x
    have k5:=fun d=>DM (G:=G) d x
    replace k1:=k1 (m5 p)
    replace k4:=k4 (m5 p)
    replace k5:=k5 (m5 p)
    rw[show Di x=wG p x 0 from rfl] at k1
    rw[show DQ p.holders x=wG p x 1 from rfl] at k2
    rw[show Ca p.n.reg x=wG p x 2 from rfl] at k3
    rw[show BY x=wG p x 3 from rfl] at k4
    rw[show Dh x=wG p x 4 from rfl] at k5
    simp only[m5] at k1 k2 k3 k4 k5
    refine g9 (ι:={ c:Nat // c≤5∧∀ e<c,wG p x e=true }) (fun q=>⟨158,[(0,.one (.im (m5 p))),(7,bv true),(9,.one (.ptr 0 0)),(120,.one (.im (.sl (p.prints.map w7)))),(121,iv (p.prints.length:Int)),(122,iv (k:Int)),(144,.agg [.im (.fn (.func 364) []),.im (.fn (.func 365) []),.im (.fn (.func 366) []),.im (.fn (.func 369) []),.im (.fn (.func 370) [])]),(145,iv (q.1:Int))],[.row ((w7 x).map .im)]⟩) (fun q=>5-q.1) ⟨0,by simp⟩ (zv [0,7,9,120,121,122,144,145] (by simp[m5])) ?_
    rintro⟨c,hc,hcc⟩
    simp only[iv,bv,m5]
    by_cases hc5:c<5
    ·have hm:wG p x c=true→∀ e<c+1,wG p x e=true:=fun h e he=>by
      rcases Nat.lt_succ_iff_lt_or_eq.1 he with h1|rfl
      ·exact hcc e h1
      ·exact h
     have hbc:wG p x c=false→C4 p=false:=fun h=>hbad fun hh=>by rw[hh.2 c hc5] at h;cases h
     clear hstep
     have hi5:c=0∨c=1∨c=2∨c=3∨c=4:=by omega
     rcases hi5 with rfl|rfl|rfl|rfl|rfl
     all_goals
      have hs:=hlt
      repeat' first|(with_reducible first|refine zz ?_|refine Gd (by decide) ?_|refine zr ?_|refine zE [0,2,3,4,5,6,7,8,9,11,27,32,33,34,35,84,86,87,88,89,113,120,121,122,123,143,144,145,146,154] ?_)|simp -dsimp[hs]|refine zp k1 ?_|refine zp k2 ?_|refine zp k3 ?_|refine zp k4 ?_|refine zp k5 ?_|refine i8 ?_ ?_<;>intro h<;>try simp only[i6] at h
      all_goals try clear hs
     all_goals first
      | exact At.round ⟨_,by omega,hm (by assumption)⟩ (by simp) (zw [0,7,9,120,121,122,144,145] 1 (by simp[‹wG p x _=true›];exact n8 (by omega) (by omega)))
      | exact hbc (by assumption)
      | (rw[hbc (by assumption)];assumption)
    ·obtain rfl:c=5:=by omega
     clear k1 k2 k3 k4 k5
     have hs:=za hlt hw
     repeat' first|(with_reducible first|refine zz ?_|refine zE [0,2,3,4,5,6,7,8,9,11,27,32,33,34,35,84,86,87,88,89,113,120,121,122,123,143,144,145,146,154] ?_)|simp -dsimp[hs]|refine i8 ?_ ?_<;>intro h<;>try simp only[i6] at h
     all_goals try clear hs
     exact zn ⟨k+1,by omega,hstep ⟨hord,hcc⟩⟩ (zw [0,7,120,121,122] 0)
  ·have hyes:C4 p=true:=ic ⟨h6,h30,hall,fun i x hx=>hok i x (by have:=e7 hx;omega) hx⟩
   have hs:=hlt
   repeat' first|(with_reducible first|refine zz ?_|refine zr ?_|refine zE [0,2,3,4,5,6,7,8,9,11,27,32,33,34,35,84,86,87,88,89,113,120,121,122,123,143,144,145,146,154] ?_)|simp -dsimp[hs]|refine i8 ?_ ?_<;>intro h<;>try simp only[i6] at h
   all_goals try clear hs
   all_goals simp[hyes]
noncomputable def p5 (p:Prints):Int:=if q8 p.n≠0 then q8 p.n else if C4 p=true then 0 else 70
noncomputable def P8 (p:Prints):DV:=if p5 p=0 then .one (.im (m5 p)) else .one (.im (.raw (.pointer none)))
theorem qw (p:Prints):ImV (P8 p):=by unfold P8;split<;>simp[m5]
attribute [simp] qw
structure KP (p:Prints):Prop where
 n:se p.n
 p:SmallP p
theorem sw (p:Prints) (hG:s6 G) (hN:M7 G) (hS:C8 G) (hR:F0 G) (hk:KP p):zP prog G 208 [r7 p] (.tup [P8 p,iv (p5 p)]):=by
 refine zf func208 ntmps208 ?_
 try simp only[iv]
 have c1:=wU p.n hG hN hS hk.n
 have c2:=bH p.n.reg hG hk.n.1
 have c3:=zG p hR hk.p
 by_cases h0:q8 p.n=0
 ·have hr0:j9 p.n.reg=0:=by
   refine Classical.byContradiction fun h=>?_
   unfold q8 at h0;rw[if_pos h] at h0;exact h h0
  rw[hr0,show cR p.n.reg=nums p.n.reg by simp[cR,hr0]] at c2
  simp only[h0] at c1
  by_cases hp:C4 p=true
  ·have hE:p5 p=0:=by unfold p5;rw[if_neg (by simp[h0]),if_pos hp]
   have hO:P8 p=.one (.im (m5 p)):=by unfold P8;rw[if_pos hE]
   rw[hp] at c3
   rw[hE,hO]
   simp only[m5] at c3 ⊢
   have hs:=trivial
   repeat' first|(with_reducible first|refine zz ?_|refine zr ?_)|simp -dsimp[hs]|refine zp c1 ?_|refine zp c2 ?_|refine zt c3 ?_ ?_ ?_;(focus simp;done);focus (simp;done)|with_reducible refine O1 (id:=4) (nt:=29) [0,1,2,3,4,5,10,27] rfl ?_;simp -dsimp[hs]|with_reducible refine zE [0,1,2,3,4,5,10,27] ?_|refine i8 ?_ ?_<;>intro h<;>try simp only[i6] at h
  ·have hE:p5 p=70:=by unfold p5;rw[if_neg (by simp[h0]),if_neg hp]
   have hO:P8 p=.one (.im (.raw (.pointer none))):=by unfold P8;rw[if_neg (by simp[hE])]
   rw[Bool.not_eq_true] at hp
   rw[hp] at c3
   rw[hE,hO]
   simp only[m5] at c3 ⊢
   have hs:=trivial
   repeat' first|(with_reducible first|refine zz ?_|refine zr ?_)|simp -dsimp[hs]|refine zp c1 ?_|refine zp c2 ?_|refine zt c3 ?_ ?_ ?_;(focus simp;done);focus (simp;done)|with_reducible refine O1 (id:=4) (nt:=29) [0,1,2,3,4,5,10,27] rfl ?_;simp -dsimp[hs]|with_reducible refine zE [0,1,2,3,4,5,10,27] ?_|refine i8 ?_ ?_<;>intro h<;>try simp only[i6] at h
 ·have hE:p5 p=q8 p.n:=by unfold p5;rw[if_pos h0]
  have hO:P8 p=.one (.im (.raw (.pointer none))):=by unfold P8;rw[if_neg (by rw[hE];exact h0)]
  rw[hE,hO]
  have hs:=h0
  repeat' first|(with_reducible first|refine zz ?_|refine zr ?_|refine zE [0,1,2,3,4,5,10,27] ?_)|simp -dsimp[hs]|refine zp c1 ?_|refine i8 ?_ ?_<;>intro h<;>try simp only[i6] at h
theorem wA (p:Prints) (hG:s6 G) (hN:M7 G) (hS:C8 G) (hR:F0 G) (hk:KP p):zP prog G 153 [r7 p] (iv (p5 p)):=by
 refine zf func153 ntmps153 ?_
 try simp only[iv]
 have c1:=sw p hG hN hS hR hk
 repeat' first|(with_reducible first|refine zz ?_|refine zx ?_|refine zE [0,1,2,4] ?_)|simp -dsimp|refine zp c1 ?_
def uH (d m:Int):Bool:=(decide (0≤d)&&decide (d≤14610))&&(decide (1≤m)&&decide (m≤999))
noncomputable def C7 (p:Prints) (d m:Int):Int:=if p5 p≠0 then p5 p else if uH d m=true then 0 else 2
noncomputable def Q6 (p:Prints) (d m:Int):DV:=if C7 p d m=0 then .one (.im (m5 p)) else .one (.im (.raw (.pointer none)))
theorem rE (p:Prints) (d m:Int):ImV (Q6 p d m):=by unfold Q6;split<;>simp[m5]
attribute [simp] rE
theorem wB (p:Prints) (d m:Int) (hG:s6 G) (hN:M7 G) (hS:C8 G) (hR:F0 G) (hk:KP p):zP prog G 179 [r7 p,iv d,iv m] (.tup [Q6 p d m,iv (C7 p d m)]):=by
 refine zf func179 ntmps179 ?_
 try simp only[iv,iv]
 have c1:=sw p hG hN hS hR hk
 have c2:=T0 (G:=G) 0 14610 [d] (by simp)
 have c3:=T0 (G:=G) 1 999 [m] (by simp)
 by_cases h0:p5 p=0
 ·simp only[P8,h0,if_true] at c1
  by_cases hd:uH d m=true
  ·have hE:C7 p d m=0:=by unfold C7;rw[if_neg (by simp[h0]),if_pos hd]
   have hO:Q6 p d m=.one (.im (m5 p)):=by unfold Q6;rw[if_pos hE]
   simp only[uH,Bool.and_eq_true,decide_eq_true_eq] at hd
   rw[show ([d].all fun y=>decide (0≤y)&&decide (y≤14610))=true by simp;omega] at c2
   rw[show ([m].all fun y=>decide (1≤y)&&decide (y≤999))=true by simp;omega] at c3
   rw[hE,hO]
   simp only[m5] at c1 ⊢
   have hs:=trivial
   repeat' first|(with_reducible first|refine zz ?_|refine zr ?_|refine zE [0,1,2,3,6,7,8,9,16,27] ?_)|simp -dsimp[hs]|refine zp c1 ?_|refine zt c2 ?_ ?_ ?_;(focus simp;done);focus (simp;done)|refine zt c3 ?_ ?_ ?_;(focus simp;done);focus (simp;done)|refine i8 ?_ ?_<;>intro h<;>try simp only[i6] at h
  ·have hE:C7 p d m=2:=by unfold C7;rw[if_neg (by simp[h0]),if_neg hd]
   have hO:Q6 p d m=.one (.im (.raw (.pointer none))):=by unfold Q6;rw[if_neg (by simp[hE])]
   simp only[uH,Bool.and_eq_true,decide_eq_true_eq] at hd
   rw[hE,hO]
   simp only[m5] at c1 ⊢
   by_cases hd1:0≤d∧d≤14610
   ·rw[show ([d].all fun y=>decide (0≤y)&&decide (y≤14610))=true by simp;omega] at c2
    rw[show ([m].all fun y=>decide (1≤y)&&decide (y≤999))=false by simp;omega] at c3
    have hs:=trivial
    repeat' first|(with_reducible first|refine zz ?_|refine zr ?_|refine zE [0,1,2,3,6,7,8,9,16,27] ?_)|simp -dsimp[hs]|refine zp c1 ?_|refine zt c2 ?_ ?_ ?_;(focus simp;done);focus (simp;done)|refine zt c3 ?_ ?_ ?_;(focus simp;done);focus (simp;done)|refine i8 ?_ ?_<;>intro h<;>try simp only[i6] at h
   ·rw[show ([d].all fun y=>decide (0≤y)&&decide (y≤14610))=false by simp;omega] at c2
    have hs:=trivial
    repeat' first|(with_reducible first|refine zz ?_|refine zr ?_|refine zE [0,1,2,3,6,7,8,9,16,27] ?_)|simp -dsimp[hs]|refine zp c1 ?_|refine zt c2 ?_ ?_ ?_;(focus simp;done);focus (simp;done)|refine i8 ?_ ?_<;>intro h<;>try simp only[i6] at h
 ·have hE:C7 p d m=p5 p:=by unfold C7;rw[if_pos h0]
  have hO:Q6 p d m=.one (.im (.raw (.pointer none))):=by unfold Q6;rw[if_neg (by rw[hE];exact h0)]
  simp only[P8,h0,if_false] at c1
  rw[hE,hO]
  have hs:=h0
  repeat' first|(with_reducible first|refine zz ?_|refine zr ?_|refine zE [0,1,2,3,6,7,8,9,16,27] ?_)|simp -dsimp[hs]|refine zp c1 ?_|refine i8 ?_ ?_<;>intro h<;>try simp only[i6] at h
noncomputable def I2 (p:Prints) (d m i w:Int):Int:=if C7 p d m≠0 then C7 p d m else if (p.holders.any fun y=>decide (y.id=i))=true∧w∈nums p.n.reg then 0 else 6
noncomputable def db (p:Prints) (d m i w:Int):DV:=if I2 p d m i w=0 then .one (.im (m5 p)) else .one (.im (.raw (.pointer none)))
theorem uS (p:Prints) (d m i w:Int):ImV (db p d m i w):=by unfold db;split<;>simp[m5]
attribute [simp] uS
theorem yy (p:Prints) (v:Int) (hl:(nums p.n.reg).length<1000):DCall prog G 181 (iv v :: [DC.ptr 1 0].map .one) [.row ((m8 p).map .im),.row [.im (m5 p)]] (fun d o=>d=bv (!decide (v∈nums p.n.reg))∧o=[.row ((m8 p).map .im),.row [.im (m5 p)]]):=by
 refine DCall.drop ?_
 have c1:=bL (G:=G) (nums p.n.reg) v (by omega)
 simp only[m5,m8]
 refine i7 func181 rfl ntmps181 (by simp) rfl ?_
 repeat' first|(with_reducible first|refine zz ?_|refine zx ?_|refine zE [0,1,3] ?_)|simp -dsimp|refine zp c1 ?_|with_reducible refine And.intro ?_ ?_
theorem nc {α:Type} (q:α→Bool) (l:List α):decide (G7 q l<0)=!l.any q:=by
 rw[← u7]
 by_cases h:0≤G7 q l
 ·have h1:¬ G7 q l<0:=by omega
  simp[h,h1]
 ·have h1:G7 q l<0:=by omega
  simp[h,h1]
theorem wC (p:Prints) (d m i w:Int) (hG:s6 G) (hN:M7 G) (hS:C8 G) (hR:F0 G) (hk:KP p):zP prog G 118 [r7 p,iv d,iv m,iv i,n7 [w]] (.tup [db p d m i w,iv (I2 p d m i w)]):=by
 refine zf func118 ntmps118 ?_
 try simp only[iv,iv,iv,n7]
 have c1:=wB p d m hG hN hS hR hk
 have hr:=hk.p.r
 have hh:=hk.p.h
 by_cases h0:C7 p d m=0
 ·have c2:=oQ (G:=G) p i (by omega)
  have c3:=C1 (G:=G) [w] (fun v=>!decide (v∈nums p.n.reg)) 181 [.ptr 1 0] [.row ((m8 p).map .im),.row [.im (m5 p)]] (by simp) (fun v _=>yy p v hr) (by simp)
  have hf:=nc (fun y:Holder=>decide (y.id=i)) p.holders
  have hE:I2 p d m i w=if (p.holders.any fun y=>decide (y.id=i))=true∧w∈nums p.n.reg then 0 else 6:=by unfold I2;rw[if_neg (by simp[h0])]
  simp only[Q6,h0,if_true] at c1
  unfold db
  rw[hE]
  generalize G7 (fun y:Holder=>decide (y.id=i)) p.holders=f at *
  generalize hb:(p.holders.any fun y=>decide (y.id=i))=b at *
  by_cases hw:w∈nums p.n.reg
  ·simp only[hw,List.any_cons,List.any_nil,decide_true,Bool.not_true,Bool.or_false] at c3
   cases b
   ·have hf':f<0:=by simpa using hf
    simp only[m5,m8,List.map_cons,List.map_nil] at c1 c2 c3 ⊢
    have hs:=hf'
    repeat' first|(with_reducible first|refine zz ?_|refine zr ?_|refine zE [0,1,2,3,4,5,10,11,12,13,22,32] ?_)|simp -dsimp[hs]|refine zp c1 ?_|refine zp c2 ?_|refine i8 ?_ ?_<;>intro h<;>try simp only[i6] at h
   ·have hf':¬ f<0:=by simpa using hf
    simp only[m5,m8,List.map_cons,List.map_nil] at c1 c2 c3 ⊢
    have hs:=za hf' hw
    repeat' first|(with_reducible first|refine zz ?_|refine zr ?_|refine zE [0,1,2,3,4,5,10,11,12,13,22,32] ?_)|simp -dsimp[hs]|refine zp c1 ?_|refine zp c2 ?_|refine zh c3 ?_|refine i8 ?_ ?_<;>intro h<;>try simp only[i6] at h
  ·simp only[hw,List.any_cons,List.any_nil,decide_false,Bool.not_false,Bool.or_false] at c3
   cases b
   ·have hf':f<0:=by simpa using hf
    simp only[m5,m8,List.map_cons,List.map_nil] at c1 c2 c3 ⊢
    have hs:=hf'
    repeat' first|(with_reducible first|refine zz ?_|refine zr ?_|refine zE [0,1,2,3,4,5,10,11,12,13,22,32] ?_)|simp -dsimp[hs]|refine zp c1 ?_|refine zp c2 ?_|refine i8 ?_ ?_<;>intro h<;>try simp only[i6] at h
   ·have hf':¬ f<0:=by simpa using hf
    simp only[m5,m8,List.map_cons,List.map_nil] at c1 c2 c3 ⊢
    have hs:=za hf' hw
    repeat' first|(with_reducible first|refine zz ?_|refine zr ?_|refine zE [0,1,2,3,4,5,10,11,12,13,22,32] ?_)|simp -dsimp[hs]|refine zp c1 ?_|refine zp c2 ?_|refine zh c3 ?_|refine i8 ?_ ?_<;>intro h<;>try simp only[i6] at h
 ·have hE:I2 p d m i w=C7 p d m:=by unfold I2;rw[if_pos h0]
  have hO:db p d m i w=.one (.im (.raw (.pointer none))):=by unfold db;rw[if_neg (by rw[hE];exact h0)]
  simp only[Q6,h0,if_false] at c1
  rw[hE,hO]
  have hs:=h0
  repeat' first|(with_reducible first|refine zz ?_|refine zr ?_|refine zE [0,1,2,3,4,5,10,11,12,13,22,32] ?_)|simp -dsimp[hs]|refine zp c1 ?_|refine i8 ?_ ?_<;>intro h<;>try simp only[i6] at h
def frcCaps:List DC:=[.ptr 5 0,.ptr 0 0,.ptr 1 0,.ptr 2 0,.ptr 3 0,.ptr 6 0]
def N4 (n:Notes) (s w:List Int) (m:Int) (M:List (Int×Bool)):List DObj:=[.row [.im (G5 n)],.row [.im (.sl (s.map l7))],.row [.im (.sl (w.map l7))],.row [.im (rI m)],.map [.int .i64] (F9 M),.row [.map 4],.row [.fn (.func 234) frcCaps]]
theorem sL (n:Notes) (s w:List Int) (m:Int):DCall prog G 187 [.one (.im (G5 n)),n7 s,n7 w,iv m] [] (fun d o=>d=.one (.fn (.func 234) frcCaps)∧o=N4 n s w m []):=by
 refine i7 func187 rfl ntmps187 (by simp) rfl ?_
 simp only[n7,iv]
 repeat' first|(with_reducible first|refine zz ?_|refine zx ?_|refine zE [0,1,2,3,4,5,6,7,8,9,10] ?_)|simp -dsimp|with_reducible refine And.intro ?_ ?_
 ·rfl
 ·simp[N4,frcCaps,F9]
def E2 (n:Notes) (s w:List Int) (m:Int) (i:Nat):Bool:=((E4 s w m n.notes)[i]?).getD false
def ConsM (n:Notes) (s w:List Int) (m:Int) (M:List (Int×Bool)):Prop:=∀ (k:Nat) (b:Bool),cg (k:Int) M=some b→E2 n s w m k=b
theorem ConsM.nil (n:Notes) (s w:List Int) (m:Int):ConsM n s w m []:=fun k b h=>by cases h
theorem ConsM.put {n:Notes} {s w:List Int} {m:Int} {M:List (Int×Bool)} (h:ConsM n s w m M) (i:Nat) {b:Bool} (hb:E2 n s w m i=b):ConsM n s w m (rv (i:Int) b M):=fun k c hk=>by
 rw[kC] at hk
 split at hk
 ·rename_i e
  obtain rfl:i=k:=by omega
  cases hk;exact hb
 ·exact h k c hk
theorem xG {n:Notes} {s w:List Int} {m:Int} {i:Nat} (hi:i<n.notes.length):E2 n s w m i=(oT s w m n.notes[i]&&dL n.notes[i].number (n.notes.drop (i+1)) ((E4 s w m n.notes).drop (i+1))):=by
 have hl:i<(E4 s w m n.notes).length:=by rw[V0];exact hi
 rw[← AJ hi hl,E2,List.getElem?_eq_getElem hl];rfl
theorem qX {n:Notes} {s w:List Int} {m a:Int} {k:Nat} (hk:k<n.notes.length):dL a (n.notes.drop k) ((E4 s w m n.notes).drop k)=(!(E2 n s w m k&&decide (n.notes[k].cancels=a))&&dL a (n.notes.drop (k+1)) ((E4 s w m n.notes).drop (k+1))):=by
 have hl:k<(E4 s w m n.notes).length:=by rw[V0];exact hk
 rw[up hk hl,E2,List.getElem?_eq_getElem hl];rfl
theorem CB (n:Notes) (s w:List Int) (m:Int) (hl:n.notes.length<1000) (hsl:s.length<1000) (hwl:w.length<1000):∀ (d i:Nat),n.notes.length-i≤d→i<n.notes.length→∀ M,ConsM n s w m M →
 DCall prog G 234 (iv (i:Int) :: frcCaps.map .one) (N4 n s w m M) (fun r o=>∃ M',ConsM n s w m M'∧r=bv (E2 n s w m i)∧o=N4 n s w m M'):=by
 intro d
 induction d with
 | zero=>intro i h1 h2;omega
 | succ d ih =>
   intro i hid hi M hM
   simp only[N4,frcCaps,G5,iv,bv,rI,List.map_cons,List.map_nil] at ih ⊢
   refine DCall.drop ?_
   refine i7 func234 rfl ntmps234 (by simp) rfl ?_
   cases hb:cg (i:Int) M with
   | some b =>
     have hf:=hM i b hb
     have hs:=hb
     repeat' first|(with_reducible first|refine zz ?_|refine zr ?_|refine zE [0,1,2,3,4,5,6,8,9,10,11,12,13,20,67] ?_)|simp -dsimp[hs]|refine i8 ?_ ?_<;>intro h<;>try simp only[i6] at h
     all_goals try clear hs
     exact⟨M,hM,by rw[hf],rfl⟩
   | none =>
     generalize hx:n.notes[i]=x at *
     have hF:=xG (s:=s) (w:=w) (m:=m) hi
     rw[hx] at hF
     have hwi:=zk i
     have c1:=bL (G:=G) s x.number (by omega)
     have c2:=bL (G:=G) w x.number (by omega)
     have c3:=fL (G:=G) x.frm x.to [m] (by simp)
     rw[show ([m].all fun z=>decide (x.frm≤z)&&decide (z≤x.to))=(decide (x.frm≤m)&&decide (m≤x.to)) by simp] at c3
     have hs:=za hb (za hx (za hi hwi))
     repeat' first|(with_reducible first|refine zz ?_|refine zE [0,1,2,3,4,5,6,8,9,10,11,12,13,20,67] ?_)|simp -dsimp[hs]|refine zp c1 ?_|refine zp c2 ?_|refine zt c3 ?_ ?_ ?_;(focus simp;done);focus (simp;done)|refine i8 ?_ ?_<;>intro h<;>try simp only[i6] at h|with_reducible refine j0 ?_ ?_<;>intro h<;>have h0:=h<;>(try simp only[i6] at h)<;>have h2:=h<;>(try simp at h2)<;>replace hs:=za h0 (za h (za h2 hs))
     all_goals try clear hs
     all_goals
      refine g9 (ι:={ p:Nat×Bool×List (Int×Bool) // i+1≤p.1∧p.1≤n.notes.length∧ConsM n s w m p.2.2∧E2 n s w m i=(p.2.1&&dL x.number (n.notes.drop p.1) ((E4 s w m n.notes).drop p.1)) }) (fun p=>⟨92,[(0,iv (i:Int)),(1,.one (.ptr 5 0)),(2,.one (.ptr 0 0)),(3,.one (.ptr 1 0)),(4,.one (.ptr 2 0)),(5,.one (.ptr 3 0)),(6,.one (.ptr 6 0)),(11,.one (.ptr 7 0)),(12,bv p.1.2.1),(13,iv (p.1.1:Int))],[.row [.im (.ip [.sl (n.reg.map e9),.sl (n.notes.map l9),.sl ((nums n.reg).map l7),.sl ((j8 (j6 n.notes)).map l7)])],.row [.im (.sl (s.map l7))],.row [.im (.sl (w.map l7))],.row [.im (rI m)],.map [.int .i64] (F9 p.1.2.2),.row [.map 4],.row [.fn (.func 234) [.ptr 5 0,.ptr 0 0,.ptr 1 0,.ptr 2 0,.ptr 3 0,.ptr 6 0]],.row ((l9 x).map .im)]⟩) (fun p=>n.notes.length-p.1.1) ⟨(i+1,oT s w m x,M),by simp,by simp;omega,hM,hF⟩ (zw [0,1,2,3,4,5,6,11,12,13] 8 (by clear c1 c2 c3 ih;simp[oT, *])) ?_
     all_goals
      clear c1 c2 c3 hF hM hb
      rintro⟨⟨k,v,M2⟩,hk1,hk2,hM2,hv⟩
      simp only at hk1 hk2 hM2 hv
      simp only[iv,bv]
      cases v
      ·have hM3:=hM2.put i hv
       have hs:=trivial
       repeat' first|(with_reducible first|refine zz ?_|refine zr ?_|refine zE [0,1,2,3,4,5,6,8,9,10,11,12,13,20,67] ?_)|simp -dsimp[hs]|refine i8 ?_ ?_<;>intro h<;>try simp only[i6] at h
       all_goals try clear hs
       all_goals exact⟨_,hM3,by rw[hv];rfl,rfl⟩
      ·by_cases hlk:k<n.notes.length
       ·have hwk:=zk k
        have hih:=ih k (by omega) hlk M2 hM2
        rw[Bool.true_and,qX hlk] at hv
        generalize hy:n.notes[k]=y at *
        by_cases hc:y.cancels=x.number
        ·have hvb:∀ b,E2 n s w m k=b→E2 n s w m i=(!b&&dL x.number (n.notes.drop (k+1)) ((E4 s w m n.notes).drop (k+1))):=fun b hb=>by
          rw[hv,hb,decide_eq_true hc,Bool.and_true]
         have hs:=za hx (za hy (za hlk (za hwk hc)))
         repeat' first|with_reducible refine zz ?_|simp -dsimp[hs]|refine CallE.embed_ex [0,1,2,3,4,5,6] (hih) ?_ ?_ ?_ ?_ ?_ ?_;(focus simp[w9];done);(focus simp;done);(focus simp;done);(focus simp;done);(focus refine s0 ?_;simp[w9,v8];done);intro mm hmm;try simp -dsimp[p9,w9,hs]|refine zM 9 92 15 [0,1,2,3,4,5,6,8,9,10,11,12,13,20,67] ?_|with_reducible refine zE [0,1,2,3,4,5,6,8,9,10,11,12,13,20,67] ?_|refine i8 ?_ ?_<;>intro h<;>try simp only[i6] at h
         all_goals try clear hs
         all_goals exact zn ⟨(k+1,!E2 n s w m k,mm),by simp only;omega,by simp only;omega,hmm,hvb _ rfl⟩ (zw [0,1,2,3,4,5,6,11,12,13] 8)
        ·rw[decide_eq_false hc,Bool.and_false,Bool.not_false,Bool.true_and] at hv
         have hs:=za hx (za hy (za hlk (za hwk hc)))
         repeat' first|with_reducible refine zz ?_|simp -dsimp[hs]|refine zM 9 92 15 [0,1,2,3,4,5,6,8,9,10,11,12,13,20,67] ?_|with_reducible refine zE [0,1,2,3,4,5,6,8,9,10,11,12,13,20,67] ?_|refine i8 ?_ ?_<;>intro h<;>try simp only[i6] at h
         all_goals try clear hs
         all_goals exact zn ⟨(k+1,true,M2),by simp only;omega,by simp only;omega,hM2,by rw[hv,Bool.true_and]⟩ (zw [0,1,2,3,4,5,6,11,12,13] 8)
       ·rw[xF (by omega),Bool.and_true] at hv
        have hM3:=hM2.put i hv
        have hs:=hlk
        repeat' first|(with_reducible first|refine zz ?_|refine zr ?_|refine zE [0,1,2,3,4,5,6,8,9,10,11,12,13,20,67] ?_)|simp -dsimp[hs]|refine i8 ?_ ?_<;>intro h<;>try simp only[i6] at h
        all_goals try clear hs
        all_goals exact⟨_,hM3,by rw[hv],rfl⟩
end Go.Proofs
