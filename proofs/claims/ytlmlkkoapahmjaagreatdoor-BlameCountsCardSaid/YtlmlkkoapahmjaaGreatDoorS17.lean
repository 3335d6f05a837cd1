/- Part 17 of the proofs. -/
import Derived.Test.YtlmlkkoapahmjaaGreatDoorS09
import Derived.Test.YtlmlkkoapahmjaaGreatDoorS14
import Derived.Test.YtlmlkkoapahmjaaGreatDoorS15
import Derived.Test.YtlmlkkoapahmjaaGreatDoorS16
set_option linter.all false
set_option maxHeartbeats 100000000
namespace Go.Proofs
open Go Go.Ab Tryz
variable {G:Hn}
def uV (n:Notes) (s w:List Int) (m d:Int) (k:Nat):Note:=Dm n.notes (E3 s w m n.notes) d k
theorem yl {n:Notes} {s w:List Int} {m d:Int} {k:Nat} (hk:k<n.notes.length):uV n s w m d (k+1)=if n.notes[k].drawing=d/\G5 n s w m k=true then n.notes[k] else uV n s w m d k:=by
 have hl:k<(E3 s w m n.notes).length:=by rw[V7];exact hk
 unfold uV G5;simp only[Dm,List.getElem?_eq_getElem hk,List.getElem?_eq_getElem hl,Option.some.injEq,Option.getD_some];by_cases h:(E3 s w m n.notes)[k]=true<;>by_cases h2:n.notes[k].drawing=d<;>simp[h,h2]
@[simp] abbrev KI:List Nat:=[0,1,2,6,7,8,17,36]
theorem Gh (n:Notes) (s w:List Int) (m d:Int) (hl:n.notes.length<1000) (hsl:s.length<1000) (hwl:w.length<1000) (M:List (Int×Bool)) (hM:ConsM n s w m M) :
 DCall prog G 184 [.one (.im (O9 n)),.one (.fn (.func 214) frcCaps),iv d] (U5 n s w m M) (λr o=>∃ M',ConsM n s w m M'/\r=ew (uV n s w m d n.notes.length)/\o=U5 n s w m M'):=by
 have ih:=λi hi M hM=>FX (G:=G) n s w m hl hsl hwl n.notes.length i (by omega) hi M hM;simp only[U5,frcCaps,O9,iv,bv,rI,ew,n8,rB,List.map_cons,List.map_nil] at ih ⊢;refine DCall.drop ?_;refine i8 func184 rfl ntmps184 (by simp) rfl ?_;have hw0:IntKind.i64.wrap ((n.notes.length:Int)-1)=(n.notes.length:Int)-1:=m9 (by omega) (by omega);have hs:=hw0;repeat' first|with_reducible refine zz ?_|with_reducible refine zE KI ?_;try simp -dsimp[hs]
 all_goals try simp -dsimp[hs]
 all_goals try clear hs
 refine g9 (ι:={ p:Nat×List (Int×Bool) // p.1<=n.notes.length/\ConsM n s w m p.2/\uV n s w m d n.notes.length=uV n s w m d p.1 }) (λp=>⟨39,[(0,.one (.im (.ip [.sl (n.reg.map e9),.sl (n.notes.map n8),.sl ((nums n.reg).map encI),.sl ((l4 (j7 n.notes)).map encI)]))),(1,.one (.fn (.func 214) [.ptr 5 0,.ptr 0 0,.ptr 1 0,.ptr 2 0,.ptr 3 0,.ptr 6 0])),(2,iv d),(6,.one (.ptr 7 0)),(7,iv ((p.1.1:Int)-1))],[.row [.im (.ip [.sl (n.reg.map e9),.sl (n.notes.map n8),.sl ((nums n.reg).map encI),.sl ((l4 (j7 n.notes)).map encI)])],.row [.im (.sl (s.map encI))],.row [.im (.sl (w.map encI))],.row [.im (rI m)],.map [.int .i64] (I9 p.1.2),.row [.map 4],.row [.fn (.func 214) [.ptr 5 0,.ptr 0 0,.ptr 1 0,.ptr 2 0,.ptr 3 0,.ptr 6 0]],.row ((n8 ⟨0,0,0,0,0,0,0,0,false,0⟩).map .im)]⟩) (λp=>p.1.1) ⟨(n.notes.length,M),by simp,hM,rfl⟩ (zv [0,1,2,6,7]) ?_;clear hM;rintro⟨⟨k,M2⟩,hk,hM2,hv⟩;simp only at hk hM2 hv;simp only[iv];cases k with
 | zero =>
   have hs:=trivial;repeat' first|(with_reducible first|refine zz ?_|refine zr ?_)|with_reducible refine zE KI ?_;try simp -dsimp[hs]|refine i7 ?_ ?_<;>intro h<;>try exact h.elim
   all_goals try simp -dsimp[hs]
   all_goals try clear hs
   exact⟨M2,hM2,by rw[hv];simp[uV,Dm,kw],rfl⟩
 | succ k =>
   have hkl:k<n.notes.length:=hk;have hwk:IntKind.i64.wrap ((k:Int)-1)=(k:Int)-1:=m9 (by omega) (by omega);have hc:=ih k hkl M2 hM2;rw[yl hkl] at hv;generalize hx:n.notes[k]=x at *;by_cases hd:x.drawing=d
   ·have hs:=za hx (za hkl (za hwk hd));repeat' first|(with_reducible first|refine zz ?_|refine zr ?_)|refine CallE.embed_ex [0,1,2,3,4,5,6] (hc) ?_ ?_ ?_ ?_ ?_ ?_;(focus simp[D6];done);(focus simp;done);(focus simp;done);(focus simp;done);(focus refine C4 ?_;simp[D6,D5];done);intro mm hmm;try simp -dsimp[u7,D6,hs]|with_reducible refine zE KI ?_;try simp -dsimp[hs]|refine i7 ?_ ?_<;>intro h<;>try exact h.elim
    all_goals try simp -dsimp[hs]
    all_goals try clear hs
    ·have e:=hv.trans (if_pos ⟨hd,by assumption⟩);exact⟨mm,hmm,by rw[e];simp[hd],rfl⟩
    ·have hf:G5 n s w m k=false:=by assumption
     have e:=hv.trans (if_neg λh=>by rw[hf] at h;exact Bool.false_ne_true h.2);exact At.round ⟨(k,mm),by simp only;omega,hmm,e⟩ (by simp) (zw [0,1,2,6,7] 8)
   ·rw[if_neg λh=>hd h.1] at hv;have hs:=za hx (za hkl (za hwk hd));repeat' first|with_reducible refine zz ?_|with_reducible refine zE KI ?_;try simp -dsimp[hs]|refine i7 ?_ ?_<;>intro h<;>try exact h.elim
    all_goals try simp -dsimp[hs]
    all_goals try clear hs
    exact At.round ⟨(k,M2),by simp only;omega,hM2,hv⟩ (by simp) (zw [0,1,2,6,7] 8)
def gf (n:Notes) (s:List Int) (m:Int):List Int:=(nums n.reg).map λd=>(uV n s [] m d n.notes.length).letter
@[simp] abbrev Jh:List Nat:=[0,1,2,6,7,8,10,18,19,20,21]
theorem qW (n:Notes) (s:List Int) (m:Int) (hl:n.notes.length<1000) (hr:n.reg.length<1000) (hsl:s.length<1000):zP prog G 139 [.one (.im (O9 n)),n9 s,iv m] (n9 (gf n s m)):=by
 refine zf func139 ntmps139 ?_;try simp only[n9,iv]
 have c1:=AR (G:=G) n s [] m;simp only[U5,frcCaps,O9,iv,n9,bv,rI,List.map_cons,List.map_nil,I9] at c1 ⊢;have hs:=trivial;repeat' first|with_reducible refine zz ?_|refine CallE.embed [] (c1) ?_ ?_ ?_ ?_ ?_ ?_;(focus simp[D6];done);(focus simp;done);(focus simp;done);(focus simp;done);(focus refine C4 ?_;simp[D6,D5];done);try simp -dsimp[u7,D6,hs]|with_reducible refine zE Jh ?_;try simp -dsimp[hs]
 all_goals try simp -dsimp[hs]
 have hrl:=n3 n.reg n.reg.length;rw[show E6 n.reg n.reg.length=nums n.reg from rfl] at hrl;have hE:gf n s m=(nums n.reg).map λd=>(uV n s [] m d n.notes.length).letter:=rfl;generalize hP:(λd=>(uV n s [] m d n.notes.length).letter)=P at *;generalize hns:nums n.reg=ns at *;refine g9 (ι:={ p:Nat×Nat×Bool×List (Int×Bool) // p.1<=ns.length/\ConsM n s [] m p.2.2.2 }) (λp=>⟨34,[(0,.one (.im (.ip [.sl (n.reg.map e9),.sl (n.notes.map n8),.sl (ns.map encI),.sl ((l4 (j7 n.notes)).map encI)]))),(7,.one (.fn (.func 214) [.ptr 6 0,.ptr 1 0,.ptr 2 0,.ptr 3 0,.ptr 4 0,.ptr 7 0])),(8,.one (.vec 8 p.1.2.1 0 p.1.1)),(18,n9 ns),(19,iv (ns.length:Int)),(20,iv (p.1.1:Int))],[.vec 1 [] 0 true]++[.row [.im (.ip [.sl (n.reg.map e9),.sl (n.notes.map n8),.sl (ns.map encI),.sl ((l4 (j7 n.notes)).map encI)])],.row [.im (.sl (s.map encI))],.row [.im (.sl [])],.row [.im (rI m)],.map [.int .i64] (I9 p.1.2.2.2),.row [.map 5],.row [.fn (.func 214) [.ptr 6 0,.ptr 1 0,.ptr 2 0,.ptr 3 0,.ptr 4 0,.ptr 7 0]]]++[.vec 1 (l8 (((ns.take p.1.1).map P).map encI)) p.1.2.1 p.1.2.2.1]⟩) (λp=>ns.length-p.1.1) ⟨(0,0,true,[]),by simp,ConsM.nil _ _ _ _⟩ (zv [0,7,8,18,19,20] (by simp[I9])) ?_;rintro⟨⟨k,g,nl,M⟩,hk,hM⟩;simp only at hk hM;simp only[iv,n9];have hlk:((ns.take k).map P).length=k:=by simp;omega
 by_cases hlt:k<ns.length
 ·have hw:=zk k;have hst:(ns.take (k+1)).map P=(ns.take k).map P++[P ns[k]]:=by rw[List.take_succ_eq_append_getElem hlt,List.map_append,List.map_singleton]
  generalize hx:ns[k]=x at *;have c2:=Gh (G:=G) n s [] m x hl hsl (by simp) M hM;have hPx:(uV n s [] m x n.notes.length).letter=P x:=by rw[<- hP]
  simp only[U5,frcCaps,O9,iv,bv,rI,List.map_cons,List.map_nil,hns] at c2;generalize (ns.take k).map P=L at *;subst hlk;have hs:=za hx (za hlt (za hw hPx));repeat' first|(with_reducible first|refine zz ?_|refine And.intro (by omega) ?_)|refine CallE.embed_ex [1,2,3,4,5,6,7] (c2) ?_ ?_ ?_ ?_ ?_ ?_;(focus simp[D6];done);(focus simp;done);(focus simp;done);(focus simp;done);(focus refine C4 ?_;simp[D6,D5];done);intro mm hmm;try simp -dsimp[u7,D6,hs]|with_reducible refine zE Jh ?_;try simp -dsimp[hs]|refine i7 ?_ ?_<;>intro h<;>try exact h.elim
  all_goals try simp -dsimp[hs]
  all_goals exact zn ⟨(L.length+1,g+1,false,mm),by simp only;omega,hmm⟩ (zw [0,7,8,18,19,20] 9 (by simp[hst,hPx]))
 ·obtain rfl:k=ns.length:=by omega
  rw[List.take_length] at hlk ⊢;have hs:=hlt;repeat' first|(with_reducible first|refine zz ?_|refine zr ?_)|with_reducible refine zE Jh ?_;try simp -dsimp[hs]|refine i7 ?_ ?_<;>intro h<;>try exact h.elim
  all_goals try simp -dsimp[hs]
  simp[hE]
theorem qN (n:Notes) (s:List Int) (m:Int) (hG:s9 G) (hN:N3 G) (hS:E7 G) (hs:ti n) (hsl:s.length<1000):zP prog G 86 [l6 n,n9 s,iv m] (.tup [n9 (if w7 n s m=0 then gf n s m else []),iv (w7 n s m)]):=by
 refine zf func86 ntmps86 ?_;try simp only[l6,n9,iv]
 have c1:=Bh n s m hG hN hS hs hsl;by_cases h0:w7 n s m=0
 ·rw[h0,show aj n s m=.one (.im (O9 n)) by unfold aj;rw[if_pos h0]] at c1;have hl12:=hs.2.1;have hr80:=hs.1.1;have c2:=qW (G:=G) n s m (by omega) (by omega) hsl;simp only[O9] at c1 c2;rw[if_pos h0];have hs:=trivial;repeat' first|(with_reducible first|refine zz ?_|refine zr ?_)|(first|refine zp c1 ?_|refine zp c2 ?_|with_reducible refine zE [0,1,2,3,6,7,8,9,18] ?_);try simp -dsimp[hs]|refine i7 ?_ ?_<;>intro h<;>try exact h.elim
  all_goals try simp -dsimp[hs]
  all_goals try clear hs
  all_goals simp[h0]
 ·rw[show aj n s m=.one (.im (.raw (.pointer none))) by unfold aj;rw[if_neg h0]] at c1;have hs:=h0;repeat' first|(with_reducible first|refine zz ?_|refine zr ?_)|(first|refine zp c1 ?_|with_reducible refine zE [0,1,2,3,6,7,8,9,18] ?_);try simp -dsimp[hs]|refine i7 ?_ ?_<;>intro h<;>try exact h.elim
  all_goals try simp -dsimp[hs]
  all_goals try clear hs
  all_goals simp[h0]
end Go.Proofs
namespace Go.Proofs
open Go Go.Ab
def G4 (l:List Note):List Nat:=((List.range l.length).filter (jo l)).mergeSort λa b=>decide (E1 l a<=E1 l b)
theorem fW (l:List Note):OpenTo l l.length (G4 l):=by
 refine⟨List.mergeSort_perm _ _,?_⟩;have:=List.pairwise_mergeSort (le:=λa b:Nat=>decide (E1 l a<=E1 l b)) (λa b c h1 h2=>by simp at *;omega) (λa b=>by simp;omega) ((List.range l.length).filter (jo l));exact this.imp λh=>by simpa using h
theorem xa {n:Notes} (hok:gP n) {S:List Nat} (h:OpenTo n.notes n.notes.length S):S=G4 n.notes:=by
 have h2:=fW n.notes;refine(h.perm.trans h2.perm.symm).eq_of_pairwise (le:=λa b=>E1 n.notes a<=E1 n.notes b) (λa b ha hb h3 h4=>?_) h.srt h2.srt;have la:=(h.lt a ha).1;have lb:=(h2.lt b hb).1;have e:E1 n.notes a=E1 n.notes b:=by omega
 simp only[E1,List.getElem?_eq_getElem la,List.getElem?_eq_getElem lb,Option.map_some,Option.getD_some] at e;have hnd:=ku hok;have la':a<(n.notes.map (·.number)).length:=by simpa using la
 have lb':b<(n.notes.map (·.number)).length:=by simpa using lb
 have e':(n.notes.map (·.number))[a]=(n.notes.map (·.number))[b]:=by simpa using e
 exact(List.getElem_inj hnd).1 e'
theorem kr {n:Notes}:(G4 n.notes).map (E1 n.notes)=l4 (j7 n.notes):=(fW n.notes).nums
theorem oQ {l:List Note} {i:Nat} (h:i∈G4 l):i<l.length:=((fW l).lt i h).1
end Go.Proofs
namespace Go.Ab
open Go
@[simp] theorem ET (X:List (List IC)) (k:Nat) (c:IC):(l8 X).set k [DC.im c]=l8 (X.set k [c]):=by
 simp only[l8,List.map_set,List.map_cons,List.map_nil]
@[simp] theorem EY (X:List (List IC)) (k:Nat) (h:k<(l8 X).length):(l8 X)[k]=(X[k]'(by simpa[o3] using h)).map .im:=by simp[l8]
theorem iZ (S:List Nat) (i v:Nat):(S.map λj=>((j:Nat):Int)).set i (v:Int)=(S.set i v).map λj=>((j:Nat):Int):=by
 rw[List.map_set]
theorem xy {S:List Nat} {q k:Nat} (hq:q<S.length):((S.take (q+1)++k :: S.drop (q+1)).set (q+1) S[q]).set q k=S.take q++k :: S.drop q:=by
 have h1:S.take (q+1)=S.take q++[S[q]]:=List.take_succ_eq_append_getElem hq;have hl:(S.take q).length=q:=by simp;omega
 rw[List.drop_eq_getElem_cons hq,h1,List.append_assoc,List.set_append_right _ _ (by omega),List.set_append_right _ _ (by omega)]
 congr 1
 rw[hl,show q+1-q=1 by omega,show q-q=0 by omega];rfl
theorem CP {S:List Nat} {q k:Nat} (hq:q<=S.length):(S.take q++k :: S.drop q)[q]?=some k:=by
 have hl:(S.take q).length=q:=by simp;omega
 rw[List.getElem?_append_right (by omega),hl,Nat.sub_self];rfl
theorem rf {S:List Nat} {q k:Nat} (hq:q<S.length):(S.take (q+1)++k :: S.drop (q+1))[q]?=some S[q]:=by
 rw[List.getElem?_append_left (by simp;omega),List.getElem?_take_of_lt (by omega),List.getElem?_eq_getElem hq]
end Go.Ab
namespace Go.Proofs
open Go Go.Ab
variable {G:Hn}
def M7 (S:List Nat):List Int:=S.map λj=>((j:Nat):Int)
@[simp] abbrev LF:List Nat:=[0,1,2,3,4,5,6,11,20,51]
theorem sO (n:Notes) (hs:ti n) (hok:gP n):zP Tryz.prog G 85 [l6 n] (n9 (M7 (G4 n.notes))):=by
 refine zf Tryz.func85 Tryz.ntmps85 ?_;try simp only[l6]
 have hn16:=hs.2.1;have hs:=trivial;repeat' first|(with_reducible first|refine zz ?_|refine zE LF ?_)|simp -dsimp[hs]
 all_goals try clear hs
 refine g9 (ι:={ p:Nat×Nat×Bool×List Nat // p.1<=n.notes.length/\OpenTo n.notes p.1 p.2.2.2 }) (λp=>⟨72,[(1,.one (.ptr 0 0)),(3,.one (.vec 2 p.1.2.1 0 (M7 p.1.2.2.2).length)),(4,iv (p.1.1:Int))],[.row ((m7 n).map .im),.vec 1 [] 0 true,.vec 1 (l8 ((M7 p.1.2.2.2).map encI)) p.1.2.1 p.1.2.2.1]⟩) (λp=>n.notes.length-p.1.1) ⟨(0,0,true,[]),by simp,OpenTo.nil _⟩ (zv [1,3,4] (by simp[M7])) ?_;rintro⟨⟨i,g,nl,S⟩,hi,hS⟩;simp only at hi hS;simp only[iv];have hSl:=hS.len;by_cases hlt:i<n.notes.length
 ·have hw:=zk i;have hop:jo n.notes i=decide (n.notes[i].signed=1):=by simp[jo,hlt]
  have hnu:E1 n.notes i=n.notes[i].number:=by simp[E1,hlt]
  generalize hx:n.notes[i]=x at *;by_cases h1:x.signed=1
  ·have hLl:(M7 S).length=S.length:=by simp[M7]
   have hw2:IntKind.i64.wrap ((M7 S).length:Int)=((M7 S).length:Int):=m9 (by omega) (by omega);rw[decide_eq_true h1] at hop;have hs:=za hx (za hlt (za h1 (za hw hw2)));repeat' first|(with_reducible first|refine zz ?_|refine And.intro (by omega) ?_|refine zE LF ?_)|simp -dsimp[hs]|refine i7 ?_ ?_<;>intro h<;>try exact h.elim
   all_goals try clear hs
   refine g9 (ι:={ q:Nat // q<=S.length/\∀ j∈S.drop q,E1 n.notes i<=E1 n.notes j }) (λp=>⟨72,[(1,.one (.ptr 0 0)),(3,.one (.vec 2 (g+1) 0 (S.length+1))),(4,iv (i:Int)),(5,iv (p.1:Int))],[.row ((m7 n).map .im),.vec 1 [] 0 true,.vec 1 (l8 ((M7 (S.take p.1++i :: S.drop p.1)).map encI)) (g+1) false]⟩) (λp=>p.1) ⟨S.length,by simp⟩ (zw [1,3,4,5] 3 (by simp[hLl];simp[M7])) ?_;rintro⟨q,hq,hge⟩;simp only[iv];have hLq:=CP (k:=i) hq;have hTl:(M7 (S.take q++i :: S.drop q)).length=S.length+1:=by simp[M7];omega
   have hLi:(M7 (S.take q++i :: S.drop q))[q]?=some (i:Int):=by rw[M7,List.getElem?_map,hLq];rfl
   by_cases h0:q=0
   ·subst h0;have hput:=hS.put hop 0 (by simp) hge;have hs:=za hw (za hx hlt);repeat' first|with_reducible refine zz ?_|simp -dsimp[hs]|refine zM 8 72 24 LF ?_|with_reducible refine zE LF ?_|refine i7 ?_ ?_<;>intro h<;>try exact h.elim
    all_goals try clear hs
    exact zn ⟨(i+1,g+1,false,S.take 0++i :: S.drop 0),by omega,hput⟩ (zv [1,3,4] (by simp[M7]))
   ·obtain⟨r,rfl⟩:∃ r,q=r+1:=⟨q-1,by omega⟩
    have hr:r<S.length:=by omega
    have hb:=rf (k:=i) hr;have hLr:(M7 (S.take (r+1)++i :: S.drop (r+1)))[r]?=some (S[r]:Int):=by rw[M7,List.getElem?_map,hb];rfl
    have hsw:=xy (k:=i) hr;have hLs:((M7 (S.take (r+1)++i :: S.drop (r+1))).set (r+1) (S[r]:Int)).set r (i:Int)=M7 (S.take r++i :: S.drop r):=by
     rw[M7,iZ,iZ,hsw];rfl
    have hj:=(hS.lt S[r] (List.getElem_mem hr)).1;have hjl:S[r]<n.notes.length:=by omega
    have hju:E1 n.notes S[r]=n.notes[S[r]].number:=by simp[E1,hjl]
    have hdr:=List.drop_eq_getElem_cons hr;have hfirst:=λ(v:Int) h=>hS.first hr (v:=v) h;have hput:=λh=>hS.put hop (r+1) h hge;have hq1:((r+1:Nat):Int)-1=(r:Int):=by omega
    have hwr:IntKind.i64.wrap (r:Int)=(r:Int):=m9 (by omega) (by omega);have hr1:r<S.length+1:=by omega
    have hp0:(0:Int)<=(r:Int)+1:=by omega
    have hp1:(0:Int)<(r:Int)+1:=by omega
    have hwr1:IntKind.i64.wrap ((r:Int)+1-1)=(r:Int):=m9 (by omega) (by omega) |>.trans (by omega);generalize S[r]=j at *;generalize hy:n.notes[j]=y at *;generalize hL:M7 (S.take (r+1)++i :: S.drop (r+1))=L at *;obtain⟨_,hLre⟩:=List.getElem?_eq_some_iff.1 hLr;obtain⟨_,hLie⟩:=List.getElem?_eq_some_iff.1 hLi;have hs:=za hw (za hx (za hlt (za hy (za hjl (za hLie (za hLre (za hwr (za hTl (za hr (za hr1 (za hp0 (za hp1 hwr1))))))))))));repeat' first|with_reducible refine zz ?_|simp -dsimp[hs]|refine zM 8 72 24 LF ?_|with_reducible refine zE LF ?_|refine i7 ?_ ?_<;>intro h<;>try exact h.elim
    all_goals try clear hs
    ·exact At.round ⟨r,by omega,λz hz=>by
      rw[hdr] at hz;rcases List.mem_cons.1 hz with rfl|hz
      ·omega
      ·exact hge z hz⟩ (by simp) (zv [1,3,4,5] (by simp[<- hLs]))
    ·exact zn ⟨(i+1,g+1,false,S.take (r+1)++i :: S.drop (r+1)),by omega,hput (hfirst _ (by omega))⟩ (zv [1,3,4] (by simp[hL,hTl]))
  ·rw[decide_eq_false h1] at hop;have hs:=za hx (za hlt (za h1 hw));repeat' first|(with_reducible first|refine zz ?_|refine zE LF ?_)|simp -dsimp[hs]|refine i7 ?_ ?_<;>intro h<;>try exact h.elim
   all_goals try clear hs
   exact zn ⟨(i+1,g,nl,S),by omega,hS.skip hop⟩ (zv [1,3,4])
 ·obtain rfl:i=n.notes.length:=by omega
  obtain rfl:=xa hok hS;have hs:=hlt;repeat' first|(with_reducible first|refine zz ?_|refine zr ?_|refine zE LF ?_)|simp -dsimp[hs]|refine i7 ?_ ?_<;>intro h<;>try exact h.elim
  all_goals try clear hs
  all_goals simp[M7]
end Go.Proofs
namespace Go.Proofs
open Go Go.Ab Tryz
variable {G:Hn}
@[simp] abbrev Lj:List Nat:=[0,1,2,4,5,6,7,8,14,32,57]
theorem wb (n:Notes) (s:List Int) (hs:ti n) (hok:gP n) (hsl:s.length<1000):zP prog G 218 [l6 n,n9 s] (bv (F4 (l4 (j7 n.notes)) s)):=by
 refine zf func218 ntmps218 ?_;try simp only[l6,n9]
 have hn16:=hs.2.1;have c1:=sO (G:=G) n hs hok;have hnu:=kr (n:=n);have hol:=(fW n.notes).len;have hOl:(l4 (j7 n.notes)).length=(G4 n.notes).length:=by rw[<- hnu,List.length_map]
 generalize hO:l4 (j7 n.notes)=O at *;have hs:=trivial;repeat' first|with_reducible refine zz ?_|(first|refine zp c1 ?_|with_reducible refine zE Lj ?_);try simp -dsimp[hs]
 all_goals try simp -dsimp[hs]
 all_goals try clear hs
 refine g9 (ι:={ p:Nat×Nat×Bool // p.1<=(G4 n.notes).length }) (λp=>⟨58,[(1,n9 s),(2,.one (.ptr 0 0)),(5,.one (.vec 1 p.1.2.1 0 (O.take p.1.1).length)),(6,n9 (M7 (G4 n.notes))),(7,iv (p.1.1:Int))],[.row ((m7 n).map .im),.vec 1 (l8 ((O.take p.1.1).map encI)) p.1.2.1 p.1.2.2]⟩) (λp=>(G4 n.notes).length-p.1.1) ⟨(0,0,true),by simp⟩ (zv [1,2,5,6,7] (by simp[M7])) ?_;rintro⟨⟨j,g,nl⟩,hj⟩;simp only at hj;simp only[iv,n9];have hil:(M7 (G4 n.notes)).length=(G4 n.notes).length:=by simp[M7]
 by_cases hlt:j<(G4 n.notes).length
 ·have hw:=zk j;have hjO:j<O.length:=by omega
  have hst:O.take (j+1)=O.take j++[O[j]]:=List.take_succ_eq_append_getElem hjO;have htl:(O.take j).length=j:=by simp;omega
  have hie:(M7 (G4 n.notes))[j]?=some ((G4 n.notes)[j]:Int):=by simp[M7,hlt]
  obtain⟨hil2,hie⟩:=List.getElem?_eq_some_iff.1 hie;have hkl:=oQ (List.getElem_mem hlt);have hOj:O[j]=n.notes[(G4 n.notes)[j]].number:=by
   have:O[j]?=some (E1 n.notes (G4 n.notes)[j]):=by rw[<- hnu,List.getElem?_map,List.getElem?_eq_getElem hlt];rfl
   rw[List.getElem?_eq_getElem hjO] at this;rw[Option.some.inj this];simp[E1,hkl]
  rw[hOj] at hst;generalize (G4 n.notes)[j]=k at *;generalize hx:n.notes[k]=x at *;generalize M7 (G4 n.notes)=I at *;generalize O.take j=L at *;subst htl;have hs:=za hx (za hkl (za hlt (za hw (za hie (za hil hil2)))));repeat' first|(with_reducible first|refine zz ?_|refine And.intro (by omega) ?_)|(first|refine zM 6 58 11 Lj ?_|with_reducible refine zE Lj ?_);try simp -dsimp[hs]|refine i7 ?_ ?_<;>intro h<;>try exact h.elim
  all_goals try simp -dsimp[hs]
  all_goals try clear hs
  all_goals exact zn ⟨(L.length+1,g+1,false),by omega⟩ (zw [1,2,5,6,7] 2 (by simp[hst]))
 ·obtain rfl:j=(G4 n.notes).length:=by omega
  rw[show O.take (G4 n.notes).length=O from List.take_of_length_le (by omega)];have hs:=za hlt hil;repeat' first|with_reducible refine zz ?_|with_reducible refine zE Lj ?_;try simp -dsimp[hs]|refine i7 ?_ ?_<;>intro h<;>try exact h.elim
  all_goals try simp -dsimp[hs]
  all_goals try clear hs
  refine g9 (ι:={ i:Nat // i<=s.length/\bC O s i }) (λp=>⟨58,[(1,n9 s),(5,n9 O),(8,iv (p.1:Int))],[.row ((m7 n).map .im)]⟩) (λp=>s.length-p.1) ⟨0,by simp,λi v h=>by omega⟩ (zw [1,5,8] 1) ?_;rintro⟨i,hi,hto⟩;simp only[iv,n9];by_cases hlt2:i<s.length
  ·have hx0:s[i]?=some s[i]:=by simp[hlt2]
   have hw:=zk i;have c2:=ri (G:=G) O s[i] (by omega);generalize hv:s[i]=v at *;by_cases hmem:v∈O
   ·rw[decide_eq_true hmem] at c2;by_cases h00:i=0
    ·have hnext:=X4 hto hx0 hmem (λj u e=>by omega);subst h00;have hs:=za hv hlt2;repeat' first|with_reducible refine zz ?_|(first|refine zq c2 ?_|refine zM 10 58 23 Lj ?_|with_reducible refine zE Lj ?_);try simp -dsimp[hs]|refine i7 ?_ ?_<;>intro h<;>try exact h.elim
     all_goals try simp -dsimp[hs]
     all_goals try clear hs
     exact zn ⟨0+1,by omega,hnext⟩ (zv [1,5,8] (by simp;exact m9 (by omega) (by omega)))
    ·have hq:i-1<s.length:=by omega
     have hwq:IntKind.i64.wrap ((i:Int)-1)=((i-1:Nat):Int):=by rw[m9 (by omega) (by omega)];omega
     have hi0:(0:Int)<(i:Int):=by omega
     have hin0:0<i:=by omega
     have hu0:s[i-1]?=some s[i-1]:=by simp[hq]
     generalize hu:s[i-1]=u at *;by_cases hlu:v<=u
     ·have hb:=dE (o:=O) hx0 (.inr ⟨i-1,u,by omega,hu0,hlu⟩);have hs:=za hv (za hu (za hq (za hlt2 (za hw (za hwq (za hi0 (za hin0 hlu)))))));repeat' first|(with_reducible first|refine zz ?_|refine zr ?_)|(first|refine zq c2 ?_|refine zM 10 58 23 Lj ?_|with_reducible refine zE Lj ?_);try simp -dsimp[hs]|refine i7 ?_ ?_<;>intro h<;>try exact h.elim
      all_goals try simp -dsimp[hs]
      all_goals try clear hs
      all_goals simp[hb]
     ·have hnext:=X4 hto hx0 hmem (λj u' e hu'=>by
       obtain rfl:i-1=j:=by omega
       rw[hu0] at hu';cases hu';omega)
      have hs:=za hv (za hu (za hq (za hlt2 (za hw (za hwq (za hi0 (za hin0 hlu)))))));repeat' first|with_reducible refine zz ?_|(first|refine zq c2 ?_|refine zM 10 58 23 Lj ?_|with_reducible refine zE Lj ?_);try simp -dsimp[hs]|refine i7 ?_ ?_<;>intro h<;>try exact h.elim
      all_goals try simp -dsimp[hs]
      all_goals try clear hs
      exact zn ⟨i+1,by omega,hnext⟩ (zv [1,5,8])
   ·rw[decide_eq_false hmem] at c2;have hb:=dE (o:=O) hx0 (.inl hmem);have hs:=za hv hlt2;repeat' first|(with_reducible first|refine zz ?_|refine zr ?_)|(first|refine zq c2 ?_|refine zM 10 58 23 Lj ?_|with_reducible refine zE Lj ?_);try simp -dsimp[hs]|refine i7 ?_ ?_<;>intro h<;>try exact h.elim
    all_goals try simp -dsimp[hs]
    all_goals try clear hs
    all_goals simp[hb]
  ·have hb:F4 O s=true:=eK (iU (by rwa [show i=s.length by omega] at hto));have hs:=hlt2;repeat' first|(with_reducible first|refine zz ?_|refine zr ?_)|with_reducible refine zE Lj ?_;try simp -dsimp[hs]|refine i7 ?_ ?_<;>intro h<;>try exact h.elim
   all_goals try simp -dsimp[hs]
   all_goals try clear hs
   all_goals simp[hb]
@[simp] abbrev KJ:List Nat:=[0,1,2,3,6,7,11,16,19]
theorem yF (n:Notes) (s:List Int) (m:Int) (hs:ti n) (hsl:s.length<1000):zP prog G 170 [l6 n,n9 s,iv m] (iv (w7 n s m)):=by
 refine zf func170 ntmps170 ?_;try simp only[l6,n9,iv]
 have c1:=pH (G:=G) n hs;by_cases h0:r7 n=0
 ·rw[h0] at c1;have c2:=wb (G:=G) n s hs (V3 h0).2.2.1 hsl;have c3:=aZ (G:=G) m 1 999;have hE:w7 n s m=if F4 (l4 (j7 n.notes)) s=false then 31 else if 1<=m/\m<=999 then 0 else 2:=by unfold w7;rw[if_neg (by simp[h0])]
  cases ht:F4 (l4 (j7 n.notes)) s
  ·rw[ht] at c2 hE;have hE:w7 n s m=31:=by rw[hE];rfl
   have hs:=trivial;repeat' first|(with_reducible first|refine zz ?_|refine zr ?_)|(first|refine zp c1 ?_|refine zp c2 ?_|with_reducible refine zE KJ ?_);try simp -dsimp[hs]|refine i7 ?_ ?_<;>intro h<;>try exact h.elim
   all_goals try simp -dsimp[hs]
   all_goals try clear hs
   all_goals simp[hE]
  ·rw[ht] at c2 hE;by_cases hm:1<=m/\m<=999
   ·have hE:w7 n s m=0:=by rw[hE,if_neg (by simp),if_pos hm]
    rw[show (decide (1<=m)&&decide (m<=999))=true by simp[hm]] at c3;have hs:=trivial;repeat' first|(with_reducible first|refine zz ?_|refine zr ?_)|(first|refine zp c1 ?_|refine zp c2 ?_|refine zp c3 ?_|with_reducible refine zE KJ ?_);try simp -dsimp[hs]|refine i7 ?_ ?_<;>intro h<;>try exact h.elim
    all_goals try simp -dsimp[hs]
    all_goals try clear hs
    all_goals simp[hE]
   ·have hE:w7 n s m=2:=by rw[hE,if_neg (by simp),if_neg hm]
    rw[show (decide (1<=m)&&decide (m<=999))=false by simp;omega] at c3;have hs:=trivial;repeat' first|(with_reducible first|refine zz ?_|refine zr ?_)|(first|refine zp c1 ?_|refine zp c2 ?_|refine zp c3 ?_|with_reducible refine zE KJ ?_);try simp -dsimp[hs]|refine i7 ?_ ?_<;>intro h<;>try exact h.elim
    all_goals try simp -dsimp[hs]
    all_goals try clear hs
    all_goals simp[hE]
 ·have hE:w7 n s m=r7 n:=by unfold w7;rw[if_pos h0]
  have hs:=h0;repeat' first|(with_reducible first|refine zz ?_|refine zr ?_)|(first|refine zp c1 ?_|with_reducible refine zE KJ ?_);try simp -dsimp[hs]|refine i7 ?_ ?_<;>intro h<;>try exact h.elim
  all_goals try simp -dsimp[hs]
  all_goals try clear hs
  all_goals simp[hE,h0]
def B7 (n:Notes) (s:List Int) (m:Int):List Int:=(nums n.reg).map λd=>az n.notes (E3 s [] m n.notes) d
@[simp] abbrev KL:List Nat:=[0,1,2,3,6,7,8,9,10,21]
theorem qX (n:Notes) (s:List Int) (m:Int) (hl:n.notes.length<1000) (hr:n.reg.length<1000) (hsl:s.length<1000):zP prog G 171 [l6 n,n9 s,iv m] (n9 (B7 n s m)):=by
 refine zf func171 ntmps171 ?_;try simp only[l6,n9,iv]
 have c1:=xP (G:=G) n s [] m hl hsl (by simp);have c2:=H0 (G:=G) n.reg (by omega);have hFl:=V7 s [] m n.notes;have c3:=λd=>up (G:=G) n (E3 s [] m n.notes) d hFl hl;have hrl:=n3 n.reg n.reg.length;rw[show E6 n.reg n.reg.length=nums n.reg from rfl] at hrl;have hE:B7 n s m=(nums n.reg).map λd=>az n.notes (E3 s [] m n.notes) d:=rfl;generalize E3 s [] m n.notes=F at *;simp only[n9,List.map_nil] at c1;have hs:=trivial;repeat' first|with_reducible refine zz ?_|(first|refine zp c1 ?_|refine zp c2 ?_|with_reducible refine zE KL ?_);try simp -dsimp[hs]
 all_goals try simp -dsimp[hs]
 generalize hP:(λd=>az n.notes F d)=P at *;have hPd:∀ d,az n.notes F d=P d:=λd=>by rw[<- hP]
 generalize hns:nums n.reg=ns at *;refine g9 (ι:={ p:Nat×Nat×Bool // p.1<=ns.length }) (λp=>⟨35,[(3,.one (.ptr 0 0)),(7,vS F),(8,.one (.vec 2 p.1.2.1 0 ((ns.take p.1.1).map P).length)),(9,n9 ns),(10,iv (p.1.1:Int))],[.row ((m7 n).map .im),.vec 1 [] 0 true,.vec 1 (l8 (((ns.take p.1.1).map P).map encI)) p.1.2.1 p.1.2.2]⟩) (λp=>ns.length-p.1.1) ⟨(0,0,true),by simp⟩ (zv [3,7,8,9,10]) ?_;rintro⟨⟨k,g,nl⟩,hk⟩;simp only at hk;simp only[iv,n9,vS];have hlk:((ns.take k).map P).length=k:=by simp;omega
 by_cases hlt:k<ns.length
 ·have hw:=zk k;have hst:(ns.take (k+1)).map P=(ns.take k).map P++[P ns[k]]:=by rw[List.take_succ_eq_append_getElem hlt,List.map_append,List.map_singleton]
  generalize hx:ns[k]=x at *;have c4:=c3 x;rw[hPd] at c4;simp only[vS] at c4;generalize (ns.take k).map P=L at *;subst hlk;have hs:=za hx (za hlt hw);repeat' first|(with_reducible first|refine zz ?_|refine And.intro (by omega) ?_)|(first|refine zq c4 ?_|refine zM 7 35 9 KL ?_|with_reducible refine zE KL ?_);try simp -dsimp[hs]|refine i7 ?_ ?_<;>intro h<;>try exact h.elim
  all_goals try simp -dsimp[hs]
  all_goals exact zn ⟨(L.length+1,g+1,false),by simp only;omega⟩ (zw [3,7,8,9,10] 3 (by simp[hst]))
 ·obtain rfl:k=ns.length:=by omega
  rw[List.take_length] at hlk ⊢;have hs:=hlt;repeat' first|(with_reducible first|refine zz ?_|refine zr ?_)|with_reducible refine zE KL ?_;try simp -dsimp[hs]|refine i7 ?_ ?_<;>intro h<;>try exact h.elim
  all_goals try simp -dsimp[hs]
  simp[hE]
theorem kg (n:Notes) (s:List Int) (m:Int) (hs:ti n) (hsl:s.length<1000):zP prog G 113 [l6 n,n9 s,iv m] (.tup [n9 (if w7 n s m=0 then B7 n s m else []),iv (w7 n s m)]):=by
 refine zf func113 ntmps113 ?_;try simp only[l6,n9,iv]
 have c1:=yF (G:=G) n s m hs hsl;have hn16:=hs.2.1;have hr80:=hs.1.1;by_cases h0:w7 n s m=0
 ·rw[h0] at c1;have c2:=qX (G:=G) n s m (by omega) (by omega) hsl;rw[if_pos h0];have hs:=trivial;repeat' first|(with_reducible first|refine zz ?_|refine zr ?_)|(first|refine zp c1 ?_|refine zp c2 ?_|with_reducible refine zE [0,1,2,3,6,7,8,14] ?_);try simp -dsimp[hs]|refine i7 ?_ ?_<;>intro h<;>try exact h.elim
  all_goals try simp -dsimp[hs]
  all_goals try clear hs
  all_goals simp[h0]
 ·have hs:=h0;repeat' first|(with_reducible first|refine zz ?_|refine zr ?_)|(first|refine zp c1 ?_|with_reducible refine zE [0,1,2,3,6,7,8,14] ?_);try simp -dsimp[hs]|refine i7 ?_ ?_<;>intro h<;>try exact h.elim
  all_goals try simp -dsimp[hs]
  all_goals try clear hs
  all_goals simp[h0]
end Go.Proofs
namespace Go.Proofs
open Go Go.Ab
theorem Dn (n:Notes) (s w:List Int) (m d:Int):uV n s w m d n.notes.length=if lD n.notes (E3 s w m n.notes) d n.notes.length<0 then kw else (n.notes[(lD n.notes (E3 s w m n.notes) d n.notes.length).toNat]?).getD kw:=by
 unfold uV;rw[BL _ _ _ _ (Nat.le_refl _)];split
 ·rfl
 ·split<;>simp[*]
theorem Bb {l:List Note} {b:List Bool} {d:Int} {k:Nat} (hk:k<=l.length) (h:¬ lD l b d k<0):(lD l b d k).toNat<l.length:=by
 have:=(rM l b d k).2;omega
theorem qV (n:Notes) (s:List Int) (m:Int):gf n s m=B7 n s m:=by
 refine List.map_congr_left λd _=>?_;rw[Dn];unfold az;rw[V7];split
 ·rfl
 ·rename_i h;have hl:=Bb (Nat.le_refl _) h;rw[List.getElem?_eq_getElem hl];rfl
end Go.Proofs
namespace Go.Ab
open Go
def p5:List Int->List Int
 | []=>[]
 | [a]=>[a]
 | a :: b :: r=>if a=b then p5 (b :: r) else a :: p5 (b :: r)
theorem jh:∀ (l:List Int) (u v:Int),p5 (l++[u,v])=if u=v then p5 (l++[u]) else p5 (l++[u])++[v]
 | [],u,v=>by simp only[List.nil_append,p5];split<;>simp[*]
 | [a],u,v=>by
   simp only[List.cons_append,List.nil_append,p5];split<;>split<;>simp[*]
 | a :: b :: r,u,v=>by
   have ih:=jh (b :: r) u v;simp only[List.cons_append,p5] at ih ⊢;rw[ih];split<;>split<;>simp
theorem fk:∀ l:List Int,(p5 l).length<=l.length
 | []=>by simp[p5]
 | [a]=>by simp[p5]
 | a :: b :: r=>by
   have:=fk (b :: r);simp only[p5];split<;>simp at *<;>omega
theorem ae:∀ (l:List Int) (x:Int),x∈p5 l↔x∈l
 | [],x=>by simp[p5]
 | [a],x=>by simp[p5]
 | a :: b :: r,x=>by
   have ih:=ae (b :: r) x;simp only[p5];split
   ·rename_i h;subst h;rw[ih];simp
   ·rw[List.mem_cons,ih,List.mem_cons (a:=x) (b:=a)]
theorem mO:∀ (l:List Int),l.Pairwise (·<=·)->(p5 l).Pairwise (· < ·)
 | [],_=>by simp[p5]
 | [a],_=>by simp[p5]
 | a :: b :: r,h=>by
   obtain⟨h1,h2⟩:=List.pairwise_cons.1 h;have ih:=mO (b :: r) h2;simp only[p5];split
   ·exact ih
   ·rename_i hne;refine List.pairwise_cons.2 ⟨λx hx=>?_,ih⟩;have hb:=h1 b (by simp);rcases List.mem_cons.1 ((ae _ _).1 hx) with rfl|hx
    ·omega
    ·have:=(List.pairwise_cons.1 h2).1 x hx;omega
theorem wd {l:List Int} {k:Nat} (h:k+1<l.length):l.take (k+2)=l.take k++[l[k],l[k+1]]:=by
 rw[show k+2=k+1+1 from rfl,List.take_succ_eq_append_getElem h,List.take_succ_eq_append_getElem (by omega),List.append_assoc];rfl
theorem kZ {l:List Int} {k:Nat} (h:k+1<l.length):p5 (l.take (k+2))=if l[k]=l[k+1] then p5 (l.take (k+1)) else p5 (l.take (k+1))++[l[k+1]]:=by
 rw[wd h,jh,List.take_succ_eq_append_getElem (by omega)]
theorem wp {l:List Int} {k:Nat} {v:Int} (h:k<l.length):(l.set k v).take (k+1)=l.take k++[v]:=by
 rw[List.take_succ_eq_append_getElem (by simpa using h)];simp[List.take_set_of_le]
end Go.Ab
namespace Go.Proofs
open Go Go.Ab Tryz
variable {G:Hn}
@[simp] abbrev Ln:List Nat:=[0,2,3,4,5,8,13,25,32,44]
theorem uR (l:List Int) (g:Nat) (hl:l.length<1000):DCall prog G 149 [.one (.vec 0 g 0 l.length)] [.vec 1 (l8 (l.map encI)) g false] (λd o=>∃ S:List Int,(S.length=l.length/\S.take (p5 l).length=p5 l)/\d=.one (.vec 0 g 0 (p5 l).length)/\o=[.vec 1 (l8 (S.map encI)) g false]):=by
 refine DCall.drop ?_;refine i8 func149 rfl ntmps149 (by simp) rfl ?_;by_cases h2:l.length<2
 ·have hli:(l.length:Int)<2:=by omega
  have hs:=hli;repeat' first|(with_reducible first|refine zz ?_|refine zr ?_|refine zE Ln ?_)|simp -dsimp[hs]|refine i7 ?_ ?_<;>intro h<;>try exact h.elim
  have hd:p5 l=l:=by
   match l,h2 with
   | [],_=>rfl
   | [a],_=>rfl
  exact⟨l,⟨rfl,by rw[hd,List.take_length]⟩,by rw[hd],rfl⟩
 ·have hli:¬ (l.length:Int)<2:=by omega
  have hs:=hli;repeat' first|(with_reducible first|refine zz ?_|refine zE Ln ?_)|simp -dsimp[hs]|refine i7 ?_ ?_<;>intro h<;>try exact h.elim
  refine g9 (ι:={ k:Nat // 1<=k/\k<=l.length/\p5 (l.take k)=l.take k }) (λp=>⟨61,[(0,.one (.vec 0 g 0 l.length)),(3,iv (p.1:Int))],[.vec 1 (l8 (l.map encI)) g false]⟩) (λp=>l.length-p.1) ⟨1,by omega,by omega,by cases l with|nil=>rfl|cons a r=>simp[p5]⟩ (zw [0,3] 1) ?_;rintro⟨k,hk1,hk,hdk⟩;simp only[iv];by_cases hlt:k<l.length
  ·have hw:=zk k;obtain⟨j,rfl⟩:∃ j,k=j+1:=⟨k-1,by omega⟩
   have hj:j<l.length:=by omega
   have hst:=kZ hlt;rw[hdk] at hst;have hwj:IntKind.i64.wrap (((j+1:Nat):Int)-1)=(j:Int):=by rw[m9 (by omega) (by omega)];omega
   have hwj2:IntKind.i64.wrap (j:Int)=(j:Int):=m9 (by omega) (by omega);have hp0:(0:Int)<=(j:Int)+1:=by omega
   have hp1:(j:Int)+1<=l.length:=by omega
   have hp2:(j:Int)+1<l.length:=by omega
   by_cases he:l[j]=l[j+1]
   ·have he':l[j+1]=l[j]:=he.symm;rw[if_pos he] at hst;have hs:=za hlt (za hj (za hw (za hwj (za hwj2 (za hp0 (za hp1 (za hp2 he')))))));repeat' first|with_reducible refine zz ?_|simp -dsimp[hs]|refine zM 6 61 10 Ln ?_|with_reducible refine zE Ln ?_|refine i7 ?_ ?_<;>intro h<;>try exact h.elim
    refine g9 (ι:={ p:Nat×Nat×List Int // 1<=p.1/\j+1+p.1<=l.length/\p.2.1<=j+p.1/\p.2.2.length=l.length/\p.2.2.take p.2.1=p5 (l.take (j+1+p.1))/\p.2.2.drop (j+p.1)=l.drop (j+p.1) }) (λp=>⟨61,[(0,.one (.vec 0 g 0 l.length)),(3,iv (p.1.2.1:Int)),(4,.one (.vec 0 g (j+1) (l.length-(j+1)))),(5,iv (p.1.1:Int))],[.vec 1 (l8 (p.1.2.2.map encI)) g false]⟩) (λp=>l.length-p.1.1) ⟨(1,j+1,l),by simp only;omega,by simp only;omega,by simp only;omega,rfl,hst.symm,rfl⟩ (zv [0,3,4,5]) ?_;rintro⟨⟨q,w,S⟩,hq1,hqN,hwq,hSl,hSt,hSd⟩;simp only at hq1 hqN hwq hSl hSt hSd;simp only[iv];by_cases hlq:j+1+q<l.length
    ·have hq':q<l.length-(j+1):=by omega
     have hq1':q-1<l.length-(j+1):=by omega
     have hqw:=zk q;have hww:=zk w;have hqm:IntKind.i64.wrap ((q:Int)-1)=((q-1:Nat):Int):=by rw[m9 (by omega) (by omega)];omega
     have hs1:j+1+q<S.length:=by omega
     have hs0:j+1+(q-1)<S.length:=by omega
     have hwl:w<l.length:=by omega
     have hds:p5 (l.take (j+1+(q+1)))=if l[j+q]=l[j+1+q] then p5 (l.take (j+1+q)) else p5 (l.take (j+1+q))++[l[j+1+q]]:=by
      have:=kZ (l:=l) (k:=j+q) (by omega);simp only[show j+q+1=j+1+q by omega,show j+q+2=j+1+(q+1) by omega] at this;exact this
     rw[<- hSt] at hds;have e1:S[j+1+q]=l[j+1+q]:=by
      have:=congrArg (λL:List Int=>L[1]?) hSd;simp only[List.getElem?_drop] at this;rw[show j+q+1=j+1+q by omega,List.getElem?_eq_getElem hs1,List.getElem?_eq_getElem hlq] at this;exact Option.some.inj this
     have e0:S[j+1+(q-1)]=l[j+q]:=by
      have:=congrArg (λL:List Int=>L[0]?) hSd;simp only[List.getElem?_drop,Nat.add_zero] at this;rw[List.getElem?_eq_getElem (show j+q<S.length by omega),List.getElem?_eq_getElem (show j+q<l.length by omega)] at this;have e:=Option.some.inj this;rw[<- e];congr 1;omega
     have hdr:S.drop (j+(q+1))=l.drop (j+(q+1)):=by
      have:=congrArg (List.drop 1) hSd;rw[List.drop_drop,List.drop_drop] at this;exact this
     have hset:=λv:Int=>wp (v:=v) (show w<S.length by omega);have hdset:∀ v:Int,(S.set w v).drop (j+(q+1))=l.drop (j+(q+1)):=λv=>by
      rw[List.drop_set_of_lt (by omega)];exact hdr
     generalize l[j+q]=u at *;generalize l[j+1+q]=v at *;have e0':S[j+1+(q-1)]?=some u:=by rw[List.getElem?_eq_getElem hs0,e0]
     have e1':S[j+1+q]?=some v:=by rw[List.getElem?_eq_getElem hs1,e1]
     by_cases huv:u=v
     ·have hvu:v=u:=huv.symm;rw[if_pos huv] at hds;have hs:=za hq' (za hq1' (za hSl (za hlq (za hqw (za hww (za hqm (za hs1 (za hs0 (za hwl (za e1 (za e0 (za e0' (za e1' hvu)))))))))))));repeat' first|with_reducible refine zz ?_|simp -dsimp[hs]|refine zM 11 61 10 Ln ?_|with_reducible refine zE Ln ?_|refine i7 ?_ ?_<;>intro h<;>try exact h.elim
      all_goals exact zn ⟨(q+1,w,S),by simp only;omega,by simp only;omega,by simp only;omega,hSl,hds.symm,hdr⟩ (zv [0,3,4,5])
     ·have hvu:¬ v=u:=λh=>huv h.symm;rw[if_neg huv,<- hset v] at hds;have hs:=za hq' (za hq1' (za hSl (za hlq (za hqw (za hww (za hqm (za hs1 (za hs0 (za hwl (za e1 (za e0 (za e0' (za e1' hvu)))))))))))));repeat' first|with_reducible refine zz ?_|simp -dsimp[hs]|refine zM 11 61 10 Ln ?_|with_reducible refine zE Ln ?_|refine i7 ?_ ?_<;>intro h<;>try exact h.elim
      all_goals exact zn ⟨(q+1,w+1,S.set w v),by simp only;omega,by simp only;omega,by simp only;omega,by simpa using hSl,hds.symm,hdset v⟩ (zv [0,3,4,5])
    ·have hq':¬ q<l.length-(j+1):=by omega
     have hw0:w<=l.length:=by omega
     have hs:=za hq' (za hw0 hSl);repeat' first|(with_reducible first|refine zz ?_|refine zr ?_|refine zE Ln ?_)|simp -dsimp[hs]|refine i7 ?_ ?_<;>intro h<;>try exact h.elim
     have hN:j+1+q=l.length:=by omega
     rw[hN,List.take_length] at hSt;have hwd:w=(p5 l).length:=by rw[<- hSt];simp;omega
     exact⟨yg S w (l.length-w),⟨by rw[yf (by omega)];exact hSl,by rw[<- hwd,<- hSt];exact List.take_left' (by simp;omega)⟩,by rw[hwd],rfl⟩
   ·have he':¬ l[j+1]=l[j]:=λh=>he h.symm;rw[if_neg he] at hst;have hs:=za hlt (za hj (za hw (za hwj (za hwj2 (za hp0 (za hp1 (za hp2 he')))))));repeat' first|with_reducible refine zz ?_|simp -dsimp[hs]|refine zM 6 61 10 Ln ?_|with_reducible refine zE Ln ?_|refine i7 ?_ ?_<;>intro h<;>try exact h.elim
    exact zn ⟨j+2,by omega,by omega,by rw[hst,show j+2=j+1+1 from rfl,List.take_succ_eq_append_getElem hlt]⟩ (zv [0,3] (by simp;exact hw))
  ·obtain rfl:k=l.length:=by omega
   rw[List.take_length] at hdk;have hs:=hlt;repeat' first|(with_reducible first|refine zz ?_|refine zr ?_|refine zE Ln ?_)|simp -dsimp[hs]|refine i7 ?_ ?_<;>intro h<;>try exact h.elim
   exact⟨l,⟨rfl,by rw[hdk,List.take_length]⟩,by rw[hdk],rfl⟩
def oO (x:Print) (d:Int):Bool:=decide (x.day<=d) && !(!decide (x.back=-1)&&decide (x.back<=d)) && !decide (x.lost=2)
def ef (d i w:Int) (x:Print):Bool:=oO x d&&(decide (x.holder=i)&&decide (x.drawing=w))
def P5 (d i w:Int) (l:List Print):List Int:=(l.filter λx=>ef d i w x&&decide (x.lost=1)).map (·.letter)
def N1 (d i w:Int) (l:List Print):Int:=(l.filter λx=>ef d i w x && !decide (x.lost=1)).foldl (λa x=>max a x.letter) 0
theorem El (b:IC) (n:Int):zP prog G 147 [.one (.im b),iv n] (.one (.im (.fn (.func 192) [.ip [b],.ip [rI n]]))):=by
 refine zf func147 ntmps147 ?_;try simp only[iv]
 repeat' first|(with_reducible first|refine zz ?_|refine zx ?_|refine zE [0,1,2,3,4] ?_)|simp -dsimp
def aI (d i w:Int) (l:List Print):List Int:=(p5 (l4 (P5 d i w l++[N1 d i w l]))).drop (I5 (λx=>decide (N1 d i w l=x)) (p5 (l4 (P5 d i w l++[N1 d i w l])))).toNat
theorem ml (d i w:Int) {l:List Print} {k:Nat} (h:k<l.length):P5 d i w (l.take (k+1))=P5 d i w (l.take k)++(if (ef d i w l[k]&&decide (l[k].lost=1))=true then [l[k].letter] else []):=by
 unfold P5;rw[List.take_succ_eq_append_getElem h,List.filter_append,List.map_append]
 congr 1
 split<;>simp_all
theorem mc (d i w:Int) {l:List Print} {k:Nat} (h:k<l.length):N1 d i w (l.take (k+1))=if (ef d i w l[k] && !decide (l[k].lost=1))=true then max (N1 d i w (l.take k)) l[k].letter else N1 d i w (l.take k):=by
 unfold N1;rw[List.take_succ_eq_append_getElem h,List.filter_append,List.foldl_append];split<;>simp_all
theorem po {α:Type} (q:α->Bool) (l:List α):I5 q l<l.length\/l=[]:=by
 unfold I5;split
 ·rename_i j h;rw[List.findIdx?_eq_some_iff_getElem] at h;obtain⟨hlt,_⟩:=h;left;omega
 ·cases l with
  | nil=>exact .inr rfl
  | cons a r=>left;simp;omega
theorem km (d i w:Int) (l:List Print):(P5 d i w l).length<=l.length:=by
 unfold P5;rw[List.length_map];exact List.length_filter_le _ _
@[simp] abbrev LZ:List Nat:=[0,1,2,3,4,5,6,7,8,9,10,11,12,13,14,16,18,29,32,46]
theorem zi (p:Prints) (d i w:Int) (hS:E7 G) (hl:p.prints.length<900):zP prog G 90 [.one (.im (l9 p)),iv d,iv i,iv w] (n9 (aI d i w p.prints)):=by
 refine zf func90 ntmps90 ?_;try simp only[iv,iv,iv]
 simp only[l9];have c1:=El (G:=G) (l9 p) d;simp only[l9] at c1;have hs:=trivial;repeat' first|(with_reducible first|refine zz ?_|refine zE [0,1,2,3,6,7,8,9,10,12,13,16,18,29,32] ?_)|simp -dsimp[hs]|refine zp c1 ?_
 all_goals try clear hs
 refine R2 (f:=192) (by simp;exact rfl) (by rfl) call192 ?_;generalize hR:LoopD.mk _ _ _ _ _ _ _=R;have hR1:R.st=.ready:=by rw[<- hR]
 have hR2:R.pend=none:=by rw[<- hR]
 have hR3:R.at .ready none=R:=by rw[<- hR];rfl
 have hR4:=(congrArg LoopD.nt hR).symm;have hR5:=(congrArg LoopD.tm hR).symm;have hR6:=(congrArg LoopD.ps hR).symm;have hR7:=(congrArg LoopD.asg hR).symm;have hR8:=(congrArg LoopD.body hR).symm;dsimp only at hR4 hR5 hR6 hR7 hR8;clear hR;refine i8 func192 rfl ntmps192 (by simp) rfl ?_;have hR9:∀ objs:List DObj,(R.tm.map λx=>(x.1,fB 7 objs x.2))=R.tm:=by intro objs;rw[hR5];simp
 have hs:=za hR1 (za hR2 hR3);repeat' first|(with_reducible first|refine zz ?_|refine zE LZ ?_)|simp -dsimp[hs]
 all_goals try clear hs
 refine g9 (ι:={ q:Nat×Nat×Nat×Bool // q.1<=p.prints.length/\(q.2.2.1=1\/q.2.2.2=true/\P5 d i w (p.prints.take q.1)=[]) }) (λq=>⟨48,[(0,.one (.yld 6)),(2,.one (.im (.ip [rI d]))),(11,.one (.im (.sl (p.prints.map A0)))),(12,iv (p.prints.length:Int)),(13,iv (q.1.1:Int))],[.row [.im (rI i)],.row [.im (rI w)],.vec 1 [] 0 true,.row [.im (rI (N1 d i w (p.prints.take q.1.1)))],.vec q.1.2.2.1 (l8 ((P5 d i w (p.prints.take q.1.1)).map encI)) q.1.2.1 q.1.2.2.2,.row [.vec 4 q.1.2.1 0 (P5 d i w (p.prints.take q.1.1)).length],.loop R]⟩) (λq=>p.prints.length-q.1.1) ⟨(0,0,0,true),by simp[P5]⟩ (zv [0,2,11,12,13] (by simp[P5,N1])) ?_;rintro⟨⟨k,g,sz,nl⟩,hk,hz⟩;simp only at hk hz;simp only[iv];by_cases hlt:k<p.prints.length
 ·have hw:=zk k;have hst1:=ml d i w hlt;have hst2:=mc d i w hlt;have hpl:=km d i w (p.prints.take k);rw[List.length_take] at hpl;have hz':sz=1\/nl=true:=hz.imp id And.left;generalize hx:p.prints[k]=x at *;cases hsel:ef d i w x
  ·rw[hsel] at hst1 hst2;simp only[Bool.false_and,Bool.false_eq_true,if_false,List.append_nil] at hst1 hst2;simp only[ef,oO] at hsel;simp at hsel;have hz2:sz=1\/nl=true/\P5 d i w (p.prints.take (k+1))=[]:=by rw[hst1];exact hz
   clear c1;have hs:=za hR1 (za hR2 (za hR3 (za hx (za hlt (za hw hz')))));repeat' first|(with_reducible first|refine zz ?_|refine And.intro (by omega) ?_|refine zE LZ ?_)|simp -dsimp[hs]|with_reducible refine At.yield_end ?_;simp -dsimp[hs]|refine aG ?_ ?_<;>simp -dsimp[hs]|refine P2 ?_;simp -dsimp[R1,hR4,hR5,hR6,hR7,hR8,hs]|refine i7 ?_ ?_<;>intro h<;>try exact h.elim|with_reducible refine j0 ?_ ?_<;>intro h<;>have h0:=h<;>(try simp only[i6] at h)<;>have h2:=h<;>(try simp at h2)<;>replace hs:=za h0 (za h (za h2 hs))
   all_goals try clear hs
   all_goals first
    | (exfalso;omega)
    | exact zn ⟨(k+1,g,sz,nl),by simp only;omega,hz2⟩ (zw [0,2,11,12,13] 7 (by simp[hst1,hst2,hR9]))
  ·rw[hsel] at hst1 hst2;simp only[Bool.true_and] at hst1 hst2;have hq:=hsel;simp only[ef,oO] at hq;simp at hq;obtain⟨⟨⟨q1,q2⟩,q3⟩,q4,q5⟩:=hq;have hbk:((x.back=-1)/\True)\/(¬ x.back=-1/\¬ x.back<=d):=by
    by_cases hb:x.back=-1
    ·exact .inl ⟨hb,trivial⟩
    ·exact .inr ⟨hb,by omega⟩
   clear hsel q2 c1;have hs:True:=trivial;by_cases hl1:x.lost=1
   ·simp only[hl1,decide_true,if_true,Bool.not_true,Bool.false_eq_true,if_false] at hst1 hst2;rcases hbk with⟨hb1,hb2⟩|⟨hb1,hb2⟩
    all_goals
     have hs:=za hR1 (za hR2 (za hR3 (za hx (za hlt (za hw (za hz' (za q1 (za q3 (za q4 (za q5 (za hb1 (za hb2 hl1))))))))))));repeat' first|(with_reducible first|refine zz ?_|refine And.intro (by omega) ?_|refine zE LZ ?_)|simp -dsimp[hs]|with_reducible refine At.yield_end ?_;simp -dsimp[hs]|refine aG ?_ ?_<;>simp -dsimp[hs]|refine P2 ?_;simp -dsimp[R1,hR4,hR5,hR6,hR7,hR8,hs]|refine i7 ?_ ?_<;>intro h<;>try exact h.elim
     all_goals try clear hs
    all_goals exact zn ⟨(k+1,g+1,1,false),by simp only;omega,.inl rfl⟩ (zw [0,2,11,12,13] 7 (by simp[hst1,hst2,hR9]))
   ·simp only[hl1,decide_false,Bool.false_eq_true,if_false,List.append_nil,Bool.not_false,if_true] at hst1 hst2;have hz2:sz=1\/nl=true/\P5 d i w (p.prints.take (k+1))=[]:=by rw[hst1];exact hz
    rcases hbk with⟨hb1,hb2⟩|⟨hb1,hb2⟩
    all_goals
     have hs:=za hR1 (za hR2 (za hR3 (za hx (za hlt (za hw (za hz' (za q1 (za q3 (za q4 (za q5 (za hb1 (za hb2 hl1))))))))))));repeat' first|(with_reducible first|refine zz ?_|refine zE LZ ?_)|simp -dsimp[hs]|with_reducible refine At.yield_end ?_;simp -dsimp[hs]|refine aG ?_ ?_<;>simp -dsimp[hs]|refine P2 ?_;simp -dsimp[R1,hR4,hR5,hR6,hR7,hR8,hs]|refine i7 ?_ ?_<;>intro h<;>try exact h.elim
     all_goals try clear hs
    all_goals exact zn ⟨(k+1,g,sz,nl),by simp only;omega,hz2⟩ (zw [0,2,11,12,13] 7 (by simp[hst1,hst2,hR9]))
 ·obtain rfl:k=p.prints.length:=by omega
  rw[List.take_length] at *;have hz':sz=1\/nl=true:=hz.imp id And.left;have hpl:=km d i w p.prints;clear c1;have hs:=za hR1 (za hR2 (za hR3 (za hlt hz')));repeat' first|(with_reducible first|refine zz ?_|refine And.intro (by omega) ?_|refine ze ?_ (by simp -dsimp[B8,hs];exact rfl)|refine zE LZ ?_)|simp -dsimp[B8,hs]|with_reducible show B8 _ _ _ _ _ _ _ _;simp -dsimp[B8,hs]|refine i7 ?_ ?_<;>intro h<;>try exact h.elim
  all_goals try clear hs
  obtain⟨L,hL1⟩:∃ L,L=P5 d i w p.prints++[N1 d i w p.prints]:=⟨_,rfl⟩
  have hE:aI d i w p.prints=(p5 (l4 L)).drop (I5 (λx=>decide (N1 d i w p.prints=x)) (p5 (l4 L))).toNat:=by rw[hL1];rfl
  have hv:N1 d i w p.prints∈L:=by rw[hL1];simp
  generalize N1 d i w p.prints=v at *;have hLn:(P5 d i w p.prints).length+1=L.length:=by rw[hL1];simp
  have hLi:l8 ((P5 d i w p.prints).map encI)++[[DC.im (IC.raw (Value.int .i64 v))]]=l8 (L.map encI):=by rw[hL1];simp[L3,l8]
  rw[hE];clear hL1 hE;generalize P5 d i w p.prints=Q at *;have c1:=hS L (g+1) 1 false (.inl rfl) (by omega);have hil:=T3 L;have c2:=uR (G:=G) (l4 L) (g+1) (by omega);have hdl:=fk (l4 L);rw[hil] at c2;have c3:=pg (G:=G) (p5 (l4 L)) v (by omega);have hs:True:=trivial;rw[hLi];simp only[hLn];have hs:=za hR1 (za hR2 (za hR3 (za hlt (za hLn hLi))));repeat' first|(with_reducible first|refine zz ?_|refine zE LZ ?_)|simp -dsimp[hs]|refine CallE.embed [4] (c1) ?_ ?_ ?_ ?_ ?_ ?_;(focus simp[D6];done);(focus simp;done);(focus simp;done);(focus simp;done);(focus refine C4 ?_;simp[D6,D5];done);try simp -dsimp[u7,D6,hs]|refine CallE.embed_ex [4] (c2) ?_ ?_ ?_ ?_ ?_ ?_;(focus simp[D6];done);(focus simp;done);(focus simp;done);(focus simp;done);(focus refine C4 ?_;simp[D6,D5];done);intro mma hmma;try simp -dsimp[u7,D6,hs]
  all_goals try clear hs
  obtain⟨ha1,ha2⟩:=hmma;clear c1 c2;generalize hD:p5 (l4 L)=D at *;have hdm:D.length<=mma.length:=by omega
  have hfi:=po (λx=>decide (v=x)) D;have hvd:D.any (λx=>decide (v=x))=true:=by
   rw[List.any_eq_true];refine⟨v,?_,by simp⟩;rw[<- hD,ae];exact isort_mem.2 hv
  rw[<- w9] at hvd;have hf0:0<=I5 (λx=>decide (v=x)) D:=of_decide_eq_true hvd;obtain⟨f,hf⟩:=Int.eq_ofNat_of_zero_le hf0;rw[hf] at c3 hfi;have hfd:f<=D.length:=by
   rcases hfi with h|h
   ·omega
   ·rw[h] at hf;simp[I5] at hf
  rw[hf,Int.toNat_natCast];have htk:(l8 (mma.map encI)).take D.length=l8 (D.map encI):=by rw[show (l8 (mma.map encI)).take D.length=l8 ((mma.map encI).take D.length) by simp[l8,List.map_take],<- List.map_take,ha2]
  have hs:True:=trivial;all_goals try simp -dsimp[hR1,hR2,hR3,htk,hdm,hfd,ha1,hs]
  all_goals try clear hs
  have hdL:D.length<=L.length:=by omega
  have htd:List.take (D.length-f) (List.drop f (l8 (mma.map encI)))=l8 ((D.drop f).map encI):=by
   rw[<- List.drop_take,htk];simp[l8,List.map_drop]
  refine CallE.thaw c3 ?_ ?_ ?_
  ·simp[htk,hdm,hfd,ha1,hdL]
  ·simp
  simp -dsimp[htk,hdm,hfd,ha1];have hs:=za hR1 (za hR2 (za hR3 (za htk (za hdm (za hfd (za ha1 (za hdL htd)))))));repeat' first|(with_reducible first|refine zz ?_|refine zr ?_)|simp -dsimp[hs]
  all_goals try clear hs
attribute [simp] w5 C7
noncomputable def M8 (p:Prints) (d i w:Int):List Int:=if G3 p d 1 i w=0 then aI d i w p.prints else []
theorem wK (p:Prints) (d i w:Int) (hG:s9 G) (hN:N3 G) (hS:E7 G) (hR:E9 G) (hk:KP p):zP prog G 45 [r9 p,iv d,iv i,iv w] (.tup [n9 (M8 p d i w),iv (G3 p d 1 i w)]):=by
 refine zf func45 ntmps45 ?_;try simp only[iv,iv,iv]
 have c1:=wO p d 1 i w hG hN hS hR hk;have c2:=zi p d i w hS (by have:=hk.p.q;omega);by_cases h0:G3 p d 1 i w=0
 ·have hW:M8 p d i w=aI d i w p.prints:=by unfold M8;rw[if_pos h0]
  simp only[dA,h0,if_true] at c1;rw[hW,h0];simp only[l9] at c1 c2;have c1':=c1 [];simp only[r9,m6,n9,iv,List.map_cons,List.map_nil,encI,rI] at c1';have hs:=trivial;repeat' first|(with_reducible first|refine zz ?_|refine zr ?_|refine zE [0,1,2,3,4,8,9,10,11,22] ?_)|simp -dsimp[hs]|refine CallE.freeze 0 c1' ?_ ?_ ?_ ?_ ?_ ?_;(focus simp;done);(focus simp;done);(focus simp;done);(focus rfl);(focus simp;done);try simp -dsimp[w5]|refine zp c2 ?_|refine i7 ?_ ?_<;>intro h<;>try exact h.elim
 ·have hW:M8 p d i w=[]:=by unfold M8;rw[if_neg h0]
  simp only[dA,h0,if_false] at c1;rw[hW];have c1':=c1 [];simp only[r9,m6,n9,iv,List.map_cons,List.map_nil,encI,rI] at c1';have hs:=h0;repeat' first|(with_reducible first|refine zz ?_|refine zr ?_|refine zE [0,1,2,3,4,8,9,10,11,22] ?_)|simp -dsimp[hs]|refine CallE.freeze 0 c1' ?_ ?_ ?_ ?_ ?_ ?_;(focus simp;done);(focus simp;done);(focus simp;done);(focus rfl);(focus simp;done);try simp -dsimp[w5]|refine i7 ?_ ?_<;>intro h<;>try exact h.elim
def vV:Dim:=⟨0,0,0⟩
def S0 (c:Chains) (x:Link):Dim:=((o4 c.reg c.lets x.drawing).dims[x.dim.toNat]?).getD vV
structure OkC (c:Chains):Prop where
 reg:j8 c.reg=0
 lets:n5 c.reg c.lets=true
 of:c.of∈nums c.reg
 num:1<=c.loops.length/\c.loops.length<=6
 gap:∀ x∈c.loops,x.links.length<=8/\lh x=true
 link:∀ x∈c.loops,∀ y∈x.links,y.drawing∈nums c.reg/\0<=y.dim/\y.dim<(o4 c.reg c.lets y.drawing).dims.length
def J2 (c:Chains) (x:ChLoop):List Dim:=x.links.map (S0 c)
def H4 (high:Bool) (x:Link) (d:Dim):Int:=if high != x.back then d.upper else d.lower
def jn (x:Link) (n:Int):Int:=if x.back then -n else n
def eE (links:List Link) (l:List Dim) (high:Bool):List Int:=(links.zip l).map λp=>H4 high p.1 p.2
def aq (links:List Link) (l:List Dim) (high:Bool):Int:=(links.zip l).foldl (λs p=>s+jn p.1 (H4 high p.1 p.2)) 0
theorem kX {c:Chains} (h:OkC c) {x:ChLoop} (hx:x∈c.loops) {y:Link} (hy:y∈x.links):H6 (S0 c y)=true/\(o4 c.reg c.lets y.drawing).dims[y.dim.toNat]?=some (S0 c y):=by
 obtain⟨h1,h2,h3⟩:=h.link x hx y hy;obtain⟨hm,_⟩:=Y6 h.reg h.lets h1;have hok:=(I2 (F7 (D8 h.reg))).2.2.2.1 _ hm;have hlt:y.dim.toNat<(o4 c.reg c.lets y.drawing).dims.length:=by omega
 have he:(o4 c.reg c.lets y.drawing).dims[y.dim.toNat]?=some (o4 c.reg c.lets y.drawing).dims[y.dim.toNat]:=by simp[hlt]
 have hd:S0 c y=(o4 c.reg c.lets y.drawing).dims[y.dim.toNat]:=by rw[S0,he,Option.getD_some]
 simp only[n4,Bool.and_eq_true] at hok;rw[hd];exact⟨List.all_eq_true.1 hok.2 _ (List.getElem_mem hlt),he⟩
theorem dD (n lo hi:Int):zP prog G 261 [iv n,iv lo,iv hi] (bv (decide (lo<=n)&&decide (n<=hi))):=by
 refine zf func261 ntmps261 ?_;try simp only[iv,iv,iv]
 have hs:=trivial;repeat' first|(with_reducible first|refine zz ?_|refine zr ?_|refine zE [0,1,2,6] ?_)|simp -dsimp[hs]|with_reducible refine j0 ?_ ?_<;>intro h<;>have h0:=h<;>(try simp only[i6] at h)<;>have h2:=h<;>(try simp at h2)<;>replace hs:=za h0 (za h (za h2 hs))
 all_goals try clear hs
 all_goals simp[*]
def O1 (l:List Itm) (d:Int):Int:=match l with
 | []=>0
 | y :: r=>if y.drawing=d then y.count else O1 r d
theorem AW (l:List Itm) (d:Int) (hl:l.length<1000000):zP prog G 285 [.one (.im (.sl (l.map p7))),iv d] (iv (O1 l d)):=by
 refine zf func285 ntmps285 ?_;try simp only[iv]
 have hs:=trivial;repeat' first|(with_reducible first|refine zz ?_|refine zE [0,1,4,5,9,18] ?_)|simp -dsimp[hs]
 refine g9 (ι:={ k:Nat // k<=l.length/\O1 l d=O1 (l.drop k) d }) (λp=>⟨24,[(0,.one (.im (.sl (l.map p7)))),(1,iv d),(5,iv (p.1:Int))],[]⟩) (λp=>l.length-p.1) ⟨0,by simp⟩ (zv [0,1,5]) ?_;rintro⟨k,hk,ha⟩;simp only[iv];by_cases hlt:k<l.length
 ·have hx:l[k]?=some l[k]:=by simp[hlt]
  have hw:=zk k;rw[List.drop_eq_getElem_cons hlt,O1] at ha;have hs:=za hx (za hw hlt);repeat' first|(with_reducible first|refine zz ?_|refine zr ?_|refine zE [0,1,4,5,9,18] ?_)|simp -dsimp[hs]|refine i7 ?_ ?_<;>intro h<;>try exact h.elim
  ·rw[ha,if_pos ‹_›]
  ·exact zn ⟨k+1,by omega,by rw[ha,if_neg ‹_›]⟩ (zv [0,1,5])
 ·rw[List.drop_eq_nil_of_le (by omega)] at ha;have hs:=hlt;repeat' first|(with_reducible first|refine zz ?_|refine zr ?_|refine zE [0,1,4,5,9,18] ?_)|simp -dsimp[hs]|refine i7 ?_ ?_<;>intro h<;>try exact h.elim
  rw[ha];rfl
theorem wi (x:Link):zP prog G 278 [kE x] (B1 x.drawing x.dim):=by
 refine zf func278 ntmps278 ?_;try simp only[kE]
 repeat' first|(with_reducible first|refine zz ?_|refine zx ?_|refine zE [0,1,2] ?_)|simp -dsimp
theorem ER (d k:Int):zP prog G 277 [.one (.im (.sl [])),B1 d k] (bv false):=by
 refine zf func277 ntmps277 ?_;try simp only[B1]
 repeat' first|(with_reducible first|refine zz ?_|refine zE [0,1,3,4,5,9,17] ?_)|simp -dsimp
 refine g9 (ι:=Unit) (λ_=>⟨18,[(0,.one (.im (.sl []))),(5,iv 0)],[]⟩) (λ_=>0) () (zw [0,5] 0) ?_;intro _;simp only[iv];repeat' first|(with_reducible first|refine zz ?_|refine zx ?_|refine zE [0,1,3,4,5,9,17] ?_)|simp -dsimp|refine i7 ?_ ?_<;>intro h<;>try exact h.elim
theorem wl (c:Chains) (y:Link) (d:Dim) (hl:c.reg.length<1000000) (hd:y.drawing∈nums c.reg) (hll:c.lets.length=(nums c.reg).length) (h0:0<=y.dim) (he:(o4 c.reg c.lets y.drawing).dims[y.dim.toNat]?=some d):zP prog G 276 [iL c,kE y] (iF d):=by
 refine zf func276 ntmps276 ?_;try simp only[iL,kE]
 have c1:=ni (G:=G) c.reg c.lets y.drawing hl hd hll;obtain⟨k,hk⟩:∃ k:Nat,y.dim=k:=⟨y.dim.toNat,by omega⟩
 rw[hk,Int.toNat_natCast] at he;have hlt:=e7 he;generalize o4 c.reg c.lets y.drawing=x at *;have hs:=za hk (za he hlt);repeat' first|(with_reducible first|refine zz ?_|refine zr ?_)|simp -dsimp[hs]|refine zq c1 ?_|refine zM 1 17 12 [0,1,2,3,4] ?_|with_reducible refine zE [0,1,2,3,4] ?_
 obtain⟨_,e⟩:=List.getElem?_eq_some_iff.1 he;rw[e];simp
@[simp] abbrev KM:List Nat:=[0,1,2,3,4,8,9,10,11,12,22,37]
theorem wA (c:Chains) (n:Nat) (hn:n<c.loops.length) (hs:T7 c) (h:OkC c):zP prog G 262 [iL c,iv (n:Int),.one (.im (.sl [])),iv 0] (.one (.im (.sl ((J2 c c.loops[n]).map B3)))):=by
 refine zf func262 ntmps262 ?_;try simp only[iL,iv,iv]
 have hx:c.loops[n]?=some c.loops[n]:=by simp[hn]
 have hln:=h.gap c.loops[n] (List.getElem_mem hn);have hll:c.lets.length=(nums c.reg).length:=by
  have:=h.lets;simp only[n5,Bool.and_eq_true,decide_eq_true_eq] at this;exact this.1
 have hreg:=hs.1.1;have hok:=λy hy=>kX h (List.getElem_mem hn) (y:=y) hy;have hlk:=h.link c.loops[n] (List.getElem_mem hn);have hE:J2 c c.loops[n]=c.loops[n].links.map (S0 c):=rfl;have hs:=za hx hn;repeat' first|(with_reducible first|refine zz ?_|refine zE KM ?_)|simp -dsimp[hs]
 all_goals try clear hs
 generalize hls:c.loops[n].links=ls at *;refine g9 (ι:={ p:Nat×Nat×Bool×List Dim // p.1<=ls.length/\p.2.2.2=(ls.take p.1).map (S0 c) }) (λp=>⟨46,[(2,.one (.im (.sl []))),(4,.one (.ptr 0 0)),(9,.one (.vec 2 p.1.2.1 0 p.1.2.2.2.length)),(10,.one (.im (.sl (ls.map G7)))),(11,iv (p.1.1:Int))],[.row ((E4 c).map .im),.vec 3 [] 0 true,.vec 3 (l8 (p.1.2.2.2.map B3)) p.1.2.1 p.1.2.2.1]⟩) (λp=>ls.length-p.1.1) ⟨(0,0,true,[]),by simp⟩ (zv [2,4,9,10,11]) ?_;rintro⟨⟨k,g,nl,out⟩,hk,ho⟩;simp only at hk ho;simp only[iv];have hol:out.length=k:=by rw[ho];simp;omega
 by_cases hlt:k<ls.length
 ·have hy:ls[k]?=some ls[k]:=by simp[hlt]
  have hw:=zk k;obtain⟨l1,l2,l3⟩:=hlk ls[k] (List.getElem_mem hlt);obtain⟨_,he⟩:=hok ls[k] (List.getElem_mem hlt);have c1:=wl (G:=G) c ls[k] (S0 c ls[k]) (by omega) l1 hll l2 he;have c2:=wi (G:=G) ls[k];have c3:=ER (G:=G) ls[k].drawing ls[k].dim;simp only[B1] at c2 c3;have hon:out++[S0 c ls[k]]=(ls.take (k+1)).map (S0 c):=by rw[List.take_succ_eq_append_getElem hlt,List.map_append,ho];rfl
  have hs:=za hy (za hw hlt);repeat' first|(with_reducible first|refine zz ?_|refine And.intro (by omega) ?_)|simp -dsimp[hs]|refine zq c1 ?_|refine zp c2 ?_|refine zp c3 ?_|refine q8 (id:=6) (nt:=46) 7 [] [0,1,2,3,4,8,9,10,11,12,22,25,26,27,28,29,30,37] KM mixed rfl (by kernel_rfl) ?_|with_reducible refine zE KM ?_|refine i7 ?_ ?_<;>intro h<;>try exact h.elim
  all_goals try clear hs
  all_goals try omega
  exact zn ⟨(k+1,g+1,false,out++[S0 c ls[k]]),by omega,hon⟩ (zw [2,4,9,10,11] 3)
 ·have hs:=hlt;repeat' first|(with_reducible first|refine zz ?_|refine zr ?_|refine zE KM ?_)|simp -dsimp[hs]|refine i7 ?_ ?_<;>intro h<;>try exact h.elim
  all_goals try clear hs
  all_goals try omega
  rw[hE,ho,List.take_of_length_le (by omega)]
theorem AS {high:Bool} {x:Link} {d:Dim} (h:H6 d=true):0<=H4 high x d/\H4 high x d<=1000000000:=by
 have:=(T5 d).1 h;unfold H4;split<;>omega
theorem wo {high:Bool} {x:Link} {d:Dim} (h:H6 d=true):-1000000000<=jn x (H4 high x d)/\jn x (H4 high x d)<=1000000000:=by
 have:=AS (high:=high) (x:=x) h;unfold jn;split<;>omega
@[simp] abbrev Ka:List Nat:=[0,1,2,6,7,8,9,10,11,15,29,43]
theorem xW (ls:List Link) (l:List Dim) (high:Bool) (hl:ls.length<=12) (he:l.length=ls.length) (hd:∀ d∈l,H6 d=true):zP prog G 263 [.one (.im (.sl (ls.map G7))),.one (.im (.sl (l.map B3))),bv high] (.tup [n9 (eE ls l high),iv (aq ls l high)]):=by
 refine zf func263 ntmps263 ?_;try simp only[bv]
 have hs:=trivial;repeat' first|(with_reducible first|refine zz ?_|refine zE Ka ?_)|simp -dsimp[hs]
 all_goals try clear hs
 refine g9 (ι:={ p:Nat×Nat×Bool×List Int×Int // p.1<=ls.length/\p.2.2.2.1.length=p.1/\eE ls l high=p.2.2.2.1++((ls.zip l).drop p.1).map (λq=>H4 high q.1 q.2)/\aq ls l high=((ls.zip l).drop p.1).foldl (λs q=>s+jn q.1 (H4 high q.1 q.2)) p.2.2.2.2/\-1000000000*(p.1:Int)<=p.2.2.2.2/\p.2.2.2.2<=1000000000*(p.1:Int) }) (λp=>⟨51,[(0,.one (.im (.sl (ls.map G7)))),(1,.one (.im (.sl (l.map B3)))),(2,bv high),(8,.one (.vec 1 p.1.2.1 0 p.1.2.2.2.1.length)),(9,iv p.1.2.2.2.2),(10,iv (p.1.1:Int))],[.vec 1 [] 0 true,.vec 1 (l8 (p.1.2.2.2.1.map encI)) p.1.2.1 p.1.2.2.1]⟩) (λp=>ls.length-p.1.1) ⟨(0,0,true,[],0),by simp[eE,aq]⟩ (zv [0,1,2,8,9,10]) ?_;rintro⟨⟨k,g,nl,out,s⟩,hk,hol,ho,hs,hb1,hb2⟩;simp only at hk hol ho hs hb1 hb2;simp only[iv,bv];by_cases hlt:k<ls.length
 ·have hkl:k<l.length:=by omega
  have hx:ls[k]?=some ls[k]:=by simp[hlt]
  have hy:l[k]?=some l[k]:=by simp[hkl]
  have hw:=zk k;have hz:k<(ls.zip l).length:=by simp;omega
  rw[List.drop_eq_getElem_cons hz,List.getElem_zip,List.map_cons] at ho;rw[List.drop_eq_getElem_cons hz,List.getElem_zip,List.foldl_cons] at hs;have hdk:=hd l[k] (List.getElem_mem hkl);have hdl:=(T5 _).1 hdk;have hsb:=wo (high:=high) (x:=ls[k]) hdk;have hws:IntKind.i64.wrap (s+jn ls[k] (H4 high ls[k] l[k]))=s+jn ls[k] (H4 high ls[k] l[k]):=m9 (by omega) (by omega);have hon:eE ls l high=(out++[H4 high ls[k] l[k]])++((ls.zip l).drop (k+1)).map (λq=>H4 high q.1 q.2):=by rw[ho];simp
  have hwl:IntKind.i64.wrap (-l[k].lower)=-l[k].lower:=m9 (by omega) (by omega);have hwu:IntKind.i64.wrap (-l[k].upper)=-l[k].upper:=m9 (by omega) (by omega);have hfin:k+1<=ls.length/\(out++[H4 high ls[k] l[k]]).length=k+1/\eE ls l high=(out++[H4 high ls[k] l[k]])++((ls.zip l).drop (k+1)).map (λq=>H4 high q.1 q.2)/\aq ls l high=((ls.zip l).drop (k+1)).foldl (λs q=>s+jn q.1 (H4 high q.1 q.2)) (s+jn ls[k] (H4 high ls[k] l[k]))/\-1000000000*((k+1:Nat):Int)<=s+jn ls[k] (H4 high ls[k] l[k])/\s+jn ls[k] (H4 high ls[k] l[k])<=1000000000*((k+1:Nat):Int):=⟨by omega,by simp;omega,hon,hs,by omega,by omega⟩
  cases hbk:ls[k].back<;>cases high;all_goals have hN:∀ h,H4 h ls[k] l[k]=if h != ls[k].back then l[k].upper else l[k].lower:=λ_=>rfl
  all_goals have hS:∀ n,jn ls[k] n=if ls[k].back then -n else n:=λ_=>rfl
  all_goals simp only[hN,hS,hbk,bne_self_eq_false,Bool.false_eq_true,if_false,if_true,Bool.true_bne,Bool.false_bne,Bool.not_false] at hws hfin
  all_goals clear hN hS ho hs hon hsb
  ·have hs:=za hx (za hy (za hw (za hlt (za hkl (za hbk hws)))));repeat' first|(with_reducible first|refine zz ?_|refine And.intro (by omega) ?_|refine zE Ka ?_)|simp -dsimp[hs]|refine i7 ?_ ?_<;>intro h<;>try exact h.elim
   all_goals try clear hs
   all_goals try omega
   exact zn ⟨(k+1,g+1,false,out++[l[k].lower],s+l[k].lower),hfin⟩ (zw [0,1,2,8,9,10] 2)
  ·have hs:=za hx (za hy (za hw (za hlt (za hkl (za hbk hws)))));repeat' first|(with_reducible first|refine zz ?_|refine And.intro (by omega) ?_|refine zE Ka ?_)|simp -dsimp[hs]|refine i7 ?_ ?_<;>intro h<;>try exact h.elim
   all_goals try clear hs
   all_goals try omega
   exact zn ⟨(k+1,g+1,false,out++[l[k].upper],s+l[k].upper),hfin⟩ (zw [0,1,2,8,9,10] 2)
  ·have hs:=za hx (za hy (za hw (za hlt (za hkl (za hbk (za hws (za hwl hwu)))))));repeat' first|(with_reducible first|refine zz ?_|refine And.intro (by omega) ?_|refine zE Ka ?_)|simp -dsimp[hs]|refine i7 ?_ ?_<;>intro h<;>try exact h.elim
   all_goals try clear hs
   all_goals try omega
   exact zn ⟨(k+1,g+1,false,out++[l[k].upper],s + -l[k].upper),hfin⟩ (zw [0,1,2,8,9,10] 2)
  ·have hs:=za hx (za hy (za hw (za hlt (za hkl (za hbk (za hws (za hwl hwu)))))));repeat' first|(with_reducible first|refine zz ?_|refine And.intro (by omega) ?_|refine zE Ka ?_)|simp -dsimp[hs]|refine i7 ?_ ?_<;>intro h<;>try exact h.elim
   all_goals try clear hs
   all_goals try omega
   exact zn ⟨(k+1,g+1,false,out++[l[k].lower],s + -l[k].lower),hfin⟩ (zw [0,1,2,8,9,10] 2)
 ·rw[List.drop_eq_nil_of_le (by simp;omega)] at ho hs;have hs:=hlt;repeat' first|(with_reducible first|refine zz ?_|refine zr ?_|refine zE Ka ?_)|simp -dsimp[hs]|refine i7 ?_ ?_<;>intro h<;>try exact h.elim
  all_goals try clear hs
  all_goals try omega
  rw[ho,hs];simp
theorem jZ {c:Chains} (h:OkC c) {n:Nat} (hn:n<c.loops.length):(J2 c c.loops[n]).length=c.loops[n].links.length/\∀ d∈J2 c c.loops[n],H6 d=true:=by
 refine⟨by simp[J2],λd hd=>?_⟩;obtain⟨y,hy,rfl⟩:=List.mem_map.1 hd;exact(kX h (List.getElem_mem hn) hy).1
theorem wC (c:Chains) (n:Nat) (hn:n<c.loops.length) (hs:T7 c) (h:OkC c):zP prog G 223 [iL c,iv (n:Int),.one (.im (.sl [])),iv 0] (B1 (aq c.loops[n].links (J2 c c.loops[n]) false) (aq c.loops[n].links (J2 c c.loops[n]) true)):=by
 refine zf func223 ntmps223 ?_;try simp only[iL,iv,iv]
 have hx:c.loops[n]?=some c.loops[n]:=by simp[hn]
 have c1:=wA (G:=G) c n hn hs h;obtain⟨hsl,hsd⟩:=jZ h hn;have hln:=(h.gap c.loops[n] (List.getElem_mem hn)).1;have c2:=xW (G:=G) c.loops[n].links (J2 c c.loops[n]) false (by omega) hsl hsd;have c3:=xW (G:=G) c.loops[n].links (J2 c c.loops[n]) true (by omega) hsl hsd;have hs:=za hx hn;repeat' first|(with_reducible first|refine zz ?_|refine zr ?_|refine zE [0,1,2,3,4,8,9,11,13] ?_)|simp -dsimp[hs]|refine zp c1 ?_|refine zp c2 ?_|refine zp c3 ?_
 all_goals try clear hs
end Go.Proofs
