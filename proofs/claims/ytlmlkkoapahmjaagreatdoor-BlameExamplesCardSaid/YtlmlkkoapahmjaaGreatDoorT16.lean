/- Part 16 of the proofs. -/
import Derived.Test.YtlmlkkoapahmjaaGreatDoorT08
import Derived.Test.YtlmlkkoapahmjaaGreatDoorT09
import Derived.Test.YtlmlkkoapahmjaaGreatDoorT14
import Derived.Test.YtlmlkkoapahmjaaGreatDoorT15
set_option linter.all false
set_option maxHeartbeats 100000000
namespace Go.Proofs
open Go Go.Ab Tryz
variable {G:IK}
def vR (n:Notes) (s w:List Int) (m d:Int) (k:Nat):Note:=Er n.notes (U0 s w m n.notes) d k
theorem zu {n:Notes} {s w:List Int} {m d:Int} {k:Nat} (hk:k<n.notes.length):vR n s w m d (k+1)=if n.notes[k].drawing=d/\C8 n s w m k=true then n.notes[k] else vR n s w m d k:=by
 have hl:k<(U0 s w m n.notes).length:=by rw[cT];exact hk
 unfold vR C8;simp only[Er,List.getElem?_eq_getElem hk,List.getElem?_eq_getElem hl,Option.some.injEq,Option.getD_some];by_cases h:(U0 s w m n.notes)[k]=true<;>by_cases h2:n.notes[k].drawing=d<;>simp[h,h2]
@[simp] abbrev Kd:List Nat:=[0,1,2,6,7,8,17,36]
theorem HE (n:Notes) (s w:List Int) (m d:Int) (hl:n.notes.length<1000) (hsl:s.length<1000) (hwl:w.length<1000) (M:List (Int×Bool)) (hM:ConsM n s w m M) :
 DCall prog G 184 [.one (.im (F1 n)),.one (.fn (.func 214) frcCaps),iv d] (K9 n s w m M) (λr o=>∃ M',ConsM n s w m M'/\r=ej (vR n s w m d n.notes.length)/\o=K9 n s w m M'):=by
 have ih:=λi hi M hM=>DI (G:=G) n s w m hl hsl hwl n.notes.length i (by omega) hi M hM;simp only[K9,frcCaps,F1,iv,bv,rI,ej,j8,rB,List.map_cons,List.map_nil] at ih ⊢;refine DCall.drop ?_;refine g9 func184 rfl ntmps184 (by simp) rfl ?_;have hw0:IntKind.i64.wrap ((n.notes.length:Int)-1)=(n.notes.length:Int)-1:=r9 (by omega) (by omega);have hs:=hw0;repeat' first|with_reducible refine zz ?_|with_reducible refine zE Kd ?_;try simp -dsimp[hs]
 all_goals try simp -dsimp[hs]
 all_goals try clear hs
 refine i7 (ι:={ p:Nat×List (Int×Bool) // p.1<=n.notes.length/\ConsM n s w m p.2/\vR n s w m d n.notes.length=vR n s w m d p.1 }) (λp=>⟨39,[(0,.one (.im (.ip [.sl (n.reg.map h9),.sl (n.notes.map j8),.sl ((nums n.reg).map encI),.sl ((j9 (l8 n.notes)).map encI)]))),(1,.one (.fn (.func 214) [.ptr 5 0,.ptr 0 0,.ptr 1 0,.ptr 2 0,.ptr 3 0,.ptr 6 0])),(2,iv d),(6,.one (.ptr 7 0)),(7,iv ((p.1.1:Int)-1))],[.row [.im (.ip [.sl (n.reg.map h9),.sl (n.notes.map j8),.sl ((nums n.reg).map encI),.sl ((j9 (l8 n.notes)).map encI)])],.row [.im (.sl (s.map encI))],.row [.im (.sl (w.map encI))],.row [.im (rI m)],.map [.int .i64] (E4 p.1.2),.row [.map 4],.row [.fn (.func 214) [.ptr 5 0,.ptr 0 0,.ptr 1 0,.ptr 2 0,.ptr 3 0,.ptr 6 0]],.row ((j8 ⟨0,0,0,0,0,0,0,0,false,0⟩).map .im)]⟩) (λp=>p.1.1) ⟨(n.notes.length,M),by simp,hM,rfl⟩ (zv [0,1,2,6,7]) ?_;clear hM;rintro⟨⟨k,M2⟩,hk,hM2,hv⟩;simp only at hk hM2 hv;simp only[iv];cases k with
 | zero =>
   have hs:=trivial;repeat' first|(with_reducible first|refine zz ?_|refine zr ?_)|with_reducible refine zE Kd ?_;try simp -dsimp[hs]|refine j4 ?_ ?_<;>intro h<;>try exact h.elim
   all_goals try simp -dsimp[hs]
   all_goals try clear hs
   exact⟨M2,hM2,by rw[hv];simp[vR,Er,kj],rfl⟩
 | succ k =>
   have hkl:k<n.notes.length:=hk;have hwk:IntKind.i64.wrap ((k:Int)-1)=(k:Int)-1:=r9 (by omega) (by omega);have hc:=ih k hkl M2 hM2;rw[zu hkl] at hv;generalize hx:n.notes[k]=x at *;by_cases hd:x.drawing=d
   ·have hs:=za hx (za hkl (za hwk hd));repeat' first|(with_reducible first|refine zz ?_|refine zr ?_)|refine CallE.embed_ex [0,1,2,3,4,5,6] (hc) ?_ ?_ ?_ ?_ ?_ ?_;(focus simp[p7];done);(focus simp;done);(focus simp;done);(focus simp;done);(focus refine n4 ?_;simp[p7,o6];done);intro mm hmm;try simp -dsimp[n3,p7,hs]|with_reducible refine zE Kd ?_;try simp -dsimp[hs]|refine j4 ?_ ?_<;>intro h<;>try exact h.elim
    all_goals try simp -dsimp[hs]
    all_goals try clear hs
    ·have e:=hv.trans (if_pos ⟨hd,by assumption⟩);exact⟨mm,hmm,by rw[e];simp[hd],rfl⟩
    ·have hf:C8 n s w m k=false:=by assumption
     have e:=hv.trans (if_neg λh=>by rw[hf] at h;exact Bool.false_ne_true h.2);exact At.round ⟨(k,mm),by simp only;omega,hmm,e⟩ (by simp) (zw [0,1,2,6,7] 8)
   ·rw[if_neg λh=>hd h.1] at hv;have hs:=za hx (za hkl (za hwk hd));repeat' first|with_reducible refine zz ?_|with_reducible refine zE Kd ?_;try simp -dsimp[hs]|refine j4 ?_ ?_<;>intro h<;>try exact h.elim
    all_goals try simp -dsimp[hs]
    all_goals try clear hs
    exact At.round ⟨(k,M2),by simp only;omega,hM2,hv⟩ (by simp) (zw [0,1,2,6,7] 8)
def fQ (n:Notes) (s:List Int) (m:Int):List Int:=(nums n.reg).map λd=>(vR n s [] m d n.notes.length).letter
@[simp] abbrev Ks:List Nat:=[0,1,2,6,7,8,10,18,19,20,21]
theorem rD (n:Notes) (s:List Int) (m:Int) (hl:n.notes.length<1000) (hr:n.reg.length<1000) (hsl:s.length<1000):zP prog G 139 [.one (.im (F1 n)),A4 s,iv m] (A4 (fQ n s m)):=by
 refine zf func139 ntmps139 ?_;try simp only[A4,iv]
 have c1:=tK (G:=G) n s [] m;simp only[K9,frcCaps,F1,iv,A4,bv,rI,List.map_cons,List.map_nil,E4] at c1 ⊢;have hs:=trivial;repeat' first|with_reducible refine zz ?_|refine CallE.embed [] (c1) ?_ ?_ ?_ ?_ ?_ ?_;(focus simp[p7];done);(focus simp;done);(focus simp;done);(focus simp;done);(focus refine n4 ?_;simp[p7,o6];done);try simp -dsimp[n3,p7,hs]|with_reducible refine zE Ks ?_;try simp -dsimp[hs]
 all_goals try simp -dsimp[hs]
 have hrl:=B8 n.reg n.reg.length;rw[show cM n.reg n.reg.length=nums n.reg from rfl] at hrl;have hE:fQ n s m=(nums n.reg).map λd=>(vR n s [] m d n.notes.length).letter:=rfl;generalize hP:(λd=>(vR n s [] m d n.notes.length).letter)=P at *;generalize hns:nums n.reg=ns at *;refine i7 (ι:={ p:Nat×Nat×Bool×List (Int×Bool) // p.1<=ns.length/\ConsM n s [] m p.2.2.2 }) (λp=>⟨34,[(0,.one (.im (.ip [.sl (n.reg.map h9),.sl (n.notes.map j8),.sl (ns.map encI),.sl ((j9 (l8 n.notes)).map encI)]))),(7,.one (.fn (.func 214) [.ptr 6 0,.ptr 1 0,.ptr 2 0,.ptr 3 0,.ptr 4 0,.ptr 7 0])),(8,.one (.vec 8 p.1.2.1 0 p.1.1)),(18,A4 ns),(19,iv (ns.length:Int)),(20,iv (p.1.1:Int))],[.vec 1 [] 0 true]++[.row [.im (.ip [.sl (n.reg.map h9),.sl (n.notes.map j8),.sl (ns.map encI),.sl ((j9 (l8 n.notes)).map encI)])],.row [.im (.sl (s.map encI))],.row [.im (.sl [])],.row [.im (rI m)],.map [.int .i64] (E4 p.1.2.2.2),.row [.map 5],.row [.fn (.func 214) [.ptr 6 0,.ptr 1 0,.ptr 2 0,.ptr 3 0,.ptr 4 0,.ptr 7 0]]]++[.vec 1 (l6 (((ns.take p.1.1).map P).map encI)) p.1.2.1 p.1.2.2.1]⟩) (λp=>ns.length-p.1.1) ⟨(0,0,true,[]),by simp,ConsM.nil _ _ _ _⟩ (zv [0,7,8,18,19,20] (by simp[E4])) ?_;rintro⟨⟨k,g,nl,M⟩,hk,hM⟩;simp only at hk hM;simp only[iv,A4];have hlk:((ns.take k).map P).length=k:=by simp;omega
 by_cases hlt:k<ns.length
 ·have hw:=zk k;have hst:(ns.take (k+1)).map P=(ns.take k).map P++[P ns[k]]:=by rw[List.take_succ_eq_append_getElem hlt,List.map_append,List.map_singleton]
  generalize hx:ns[k]=x at *;have c2:=HE (G:=G) n s [] m x hl hsl (by simp) M hM;have hPx:(vR n s [] m x n.notes.length).letter=P x:=by rw[<- hP]
  simp only[K9,frcCaps,F1,iv,bv,rI,List.map_cons,List.map_nil,hns] at c2;generalize (ns.take k).map P=L at *;subst hlk;have hs:=za hx (za hlt (za hw hPx));repeat' first|(with_reducible first|refine zz ?_|refine And.intro (by omega) ?_)|refine CallE.embed_ex [1,2,3,4,5,6,7] (c2) ?_ ?_ ?_ ?_ ?_ ?_;(focus simp[p7];done);(focus simp;done);(focus simp;done);(focus simp;done);(focus refine n4 ?_;simp[p7,o6];done);intro mm hmm;try simp -dsimp[n3,p7,hs]|with_reducible refine zE Ks ?_;try simp -dsimp[hs]|refine j4 ?_ ?_<;>intro h<;>try exact h.elim
  all_goals try simp -dsimp[hs]
  all_goals exact zn ⟨(L.length+1,g+1,false,mm),by simp only;omega,hmm⟩ (zw [0,7,8,18,19,20] 9 (by simp[hst,hPx]))
 ·obtain rfl:k=ns.length:=by omega
  rw[List.take_length] at hlk ⊢;have hs:=hlt;repeat' first|(with_reducible first|refine zz ?_|refine zr ?_)|with_reducible refine zE Ks ?_;try simp -dsimp[hs]|refine j4 ?_ ?_<;>intro h<;>try exact h.elim
  all_goals try simp -dsimp[hs]
  simp[hE]
theorem rk (n:Notes) (s:List Int) (m:Int) (hG:o4 G) (hN:C7 G) (hS:s8 G) (hs:EE n) (hsl:s.length<1000):zP prog G 86 [w9 n,A4 s,iv m] (.tup [A4 (if D4 n s m=0 then fQ n s m else []),iv (D4 n s m)]):=by
 refine zf func86 ntmps86 ?_;try simp only[w9,A4,iv]
 have c1:=tU n s m hG hN hS hs hsl;by_cases h0:D4 n s m=0
 ·rw[h0,show L9 n s m=.one (.im (F1 n)) by unfold L9;rw[if_pos h0]] at c1;have hl12:=hs.2.1;have hr80:=hs.1.1;have c2:=rD (G:=G) n s m (by omega) (by omega) hsl;simp only[F1] at c1 c2;rw[if_pos h0];have hs:=trivial;repeat' first|(with_reducible first|refine zz ?_|refine zr ?_)|(first|refine zp c1 ?_|refine zp c2 ?_|with_reducible refine zE [0,1,2,3,6,7,8,9,18] ?_);try simp -dsimp[hs]|refine j4 ?_ ?_<;>intro h<;>try exact h.elim
  all_goals try simp -dsimp[hs]
  all_goals try clear hs
  all_goals simp[h0]
 ·rw[show L9 n s m=.one (.im (.raw (.pointer none))) by unfold L9;rw[if_neg h0]] at c1;have hs:=h0;repeat' first|(with_reducible first|refine zz ?_|refine zr ?_)|(first|refine zp c1 ?_|with_reducible refine zE [0,1,2,3,6,7,8,9,18] ?_);try simp -dsimp[hs]|refine j4 ?_ ?_<;>intro h<;>try exact h.elim
  all_goals try simp -dsimp[hs]
  all_goals try clear hs
  all_goals simp[h0]
end Go.Proofs
namespace Go.Proofs
open Go Go.Ab
end Go.Proofs
namespace Go.Ab
open Go
@[simp] theorem Gf (X:List (List IC)) (k:Nat) (c:IC):(l6 X).set k [DC.im c]=l6 (X.set k [c]):=by
 simp only[l6,List.map_set,List.map_cons,List.map_nil]
@[simp] theorem Gk (X:List (List IC)) (k:Nat) (h:k<(l6 X).length):(l6 X)[k]=(X[k]'(by simpa[o7] using h)).map .im:=by simp[l6]
end Go.Ab
namespace Go.Proofs
open Go Go.Ab
variable {G:IK}
end Go.Proofs
namespace Go.Proofs
open Go Go.Ab
variable {G:IK}
def T7 (n:Notes) (s:List Int) (m:Int):List Int:=(nums n.reg).map λd=>nB n.notes (U0 s [] m n.notes) d
end Go.Proofs
namespace Go.Proofs
open Go Go.Ab
theorem Es (n:Notes) (s w:List Int) (m d:Int):vR n s w m d n.notes.length=if sC n.notes (U0 s w m n.notes) d n.notes.length<0 then kj else (n.notes[(sC n.notes (U0 s w m n.notes) d n.notes.length).toNat]?).getD kj:=by
 unfold vR;rw[CN _ _ _ _ (Nat.le_refl _)];split
 ·rfl
 ·split<;>simp[*]
theorem BX {l:List Note} {b:List Bool} {d:Int} {k:Nat} (hk:k<=l.length) (h:¬ sC l b d k<0):(sC l b d k).toNat<l.length:=by
 have:=(zo l b d k).2;omega
theorem rC (n:Notes) (s:List Int) (m:Int):fQ n s m=T7 n s m:=by
 refine List.map_congr_left λd _=>?_;rw[Es];unfold nB;rw[cT];split
 ·rfl
 ·rename_i h;have hl:=BX (Nat.le_refl _) h;rw[List.getElem?_eq_getElem hl];rfl
end Go.Proofs
namespace Go.Ab
open Go
def o9:List Int->List Int
 | []=>[]
 | [a]=>[a]
 | a :: b :: r=>if a=b then o9 (b :: r) else a :: o9 (b :: r)
theorem iT:∀ (l:List Int) (u v:Int),o9 (l++[u,v])=if u=v then o9 (l++[u]) else o9 (l++[u])++[v]
 | [],u,v=>by simp only[List.nil_append,o9];split<;>simp[*]
 | [a],u,v=>by
   simp only[List.cons_append,List.nil_append,o9];split<;>split<;>simp[*]
 | a :: b :: r,u,v=>by
   have ih:=iT (b :: r) u v;simp only[List.cons_append,o9] at ih ⊢;rw[ih];split<;>split<;>simp
theorem Y9:∀ l:List Int,(o9 l).length<=l.length
 | []=>by simp[o9]
 | [a]=>by simp[o9]
 | a :: b :: r=>by
   have:=Y9 (b :: r);simp only[o9];split<;>simp at *<;>omega
theorem eZ:∀ (l:List Int) (x:Int),x∈o9 l↔x∈l
 | [],x=>by simp[o9]
 | [a],x=>by simp[o9]
 | a :: b :: r,x=>by
   have ih:=eZ (b :: r) x;simp only[o9];split
   ·rename_i h;subst h;rw[ih];simp
   ·rw[List.mem_cons,ih,List.mem_cons (a:=x) (b:=a)]
theorem wW {l:List Int} {k:Nat} (h:k+1<l.length):l.take (k+2)=l.take k++[l[k],l[k+1]]:=by
 rw[show k+2=k+1+1 from rfl,List.take_succ_eq_append_getElem h,List.take_succ_eq_append_getElem (by omega),List.append_assoc];rfl
theorem kG {l:List Int} {k:Nat} (h:k+1<l.length):o9 (l.take (k+2))=if l[k]=l[k+1] then o9 (l.take (k+1)) else o9 (l.take (k+1))++[l[k+1]]:=by
 rw[wW h,iT,List.take_succ_eq_append_getElem (by omega)]
theorem oP {l:List Int} {k:Nat} {v:Int} (h:k<l.length):(l.set k v).take (k+1)=l.take k++[v]:=by
 rw[List.take_succ_eq_append_getElem (by simpa using h)];simp[List.take_set_of_le]
end Go.Ab
namespace Go.Proofs
open Go Go.Ab Tryz
variable {G:IK}
@[simp] abbrev Li:List Nat:=[0,2,3,4,5,8,13,25,32,44]
theorem mF (l:List Int) (g:Nat) (hl:l.length<1000):DCall prog G 149 [.one (.vec 0 g 0 l.length)] [.vec 1 (l6 (l.map encI)) g false] (λd o=>∃ S:List Int,(S.length=l.length/\S.take (o9 l).length=o9 l)/\d=.one (.vec 0 g 0 (o9 l).length)/\o=[.vec 1 (l6 (S.map encI)) g false]):=by
 refine DCall.drop ?_;refine g9 func149 rfl ntmps149 (by simp) rfl ?_;by_cases h2:l.length<2
 ·have hli:(l.length:Int)<2:=by omega
  have hs:=hli;repeat' first|(with_reducible first|refine zz ?_|refine zr ?_|refine zE Li ?_)|simp -dsimp[hs]|refine j4 ?_ ?_<;>intro h<;>try exact h.elim
  have hd:o9 l=l:=by
   match l,h2 with
   | [],_=>rfl
   | [a],_=>rfl
  exact⟨l,⟨rfl,by rw[hd,List.take_length]⟩,by rw[hd],rfl⟩
 ·have hli:¬ (l.length:Int)<2:=by omega
  have hs:=hli;repeat' first|(with_reducible first|refine zz ?_|refine zE Li ?_)|simp -dsimp[hs]|refine j4 ?_ ?_<;>intro h<;>try exact h.elim
  refine i7 (ι:={ k:Nat // 1<=k/\k<=l.length/\o9 (l.take k)=l.take k }) (λp=>⟨61,[(0,.one (.vec 0 g 0 l.length)),(3,iv (p.1:Int))],[.vec 1 (l6 (l.map encI)) g false]⟩) (λp=>l.length-p.1) ⟨1,by omega,by omega,by cases l with|nil=>rfl|cons a r=>simp[o9]⟩ (zw [0,3] 1) ?_;rintro⟨k,hk1,hk,hdk⟩;simp only[iv];by_cases hlt:k<l.length
  ·have hw:=zk k;obtain⟨j,rfl⟩:∃ j,k=j+1:=⟨k-1,by omega⟩
   have hj:j<l.length:=by omega
   have hst:=kG hlt;rw[hdk] at hst;have hwj:IntKind.i64.wrap (((j+1:Nat):Int)-1)=(j:Int):=by rw[r9 (by omega) (by omega)];omega
   have hwj2:IntKind.i64.wrap (j:Int)=(j:Int):=r9 (by omega) (by omega);have hp0:(0:Int)<=(j:Int)+1:=by omega
   have hp1:(j:Int)+1<=l.length:=by omega
   have hp2:(j:Int)+1<l.length:=by omega
   by_cases he:l[j]=l[j+1]
   ·have he':l[j+1]=l[j]:=he.symm;rw[if_pos he] at hst;have hs:=za hlt (za hj (za hw (za hwj (za hwj2 (za hp0 (za hp1 (za hp2 he')))))));repeat' first|with_reducible refine zz ?_|simp -dsimp[hs]|refine zM 6 61 10 Li ?_|with_reducible refine zE Li ?_|refine j4 ?_ ?_<;>intro h<;>try exact h.elim
    refine i7 (ι:={ p:Nat×Nat×List Int // 1<=p.1/\j+1+p.1<=l.length/\p.2.1<=j+p.1/\p.2.2.length=l.length/\p.2.2.take p.2.1=o9 (l.take (j+1+p.1))/\p.2.2.drop (j+p.1)=l.drop (j+p.1) }) (λp=>⟨61,[(0,.one (.vec 0 g 0 l.length)),(3,iv (p.1.2.1:Int)),(4,.one (.vec 0 g (j+1) (l.length-(j+1)))),(5,iv (p.1.1:Int))],[.vec 1 (l6 (p.1.2.2.map encI)) g false]⟩) (λp=>l.length-p.1.1) ⟨(1,j+1,l),by simp only;omega,by simp only;omega,by simp only;omega,rfl,hst.symm,rfl⟩ (zv [0,3,4,5]) ?_;rintro⟨⟨q,w,S⟩,hq1,hqN,hwq,hSl,hSt,hSd⟩;simp only at hq1 hqN hwq hSl hSt hSd;simp only[iv];by_cases hlq:j+1+q<l.length
    ·have hq':q<l.length-(j+1):=by omega
     have hq1':q-1<l.length-(j+1):=by omega
     have hqw:=zk q;have hww:=zk w;have hqm:IntKind.i64.wrap ((q:Int)-1)=((q-1:Nat):Int):=by rw[r9 (by omega) (by omega)];omega
     have hs1:j+1+q<S.length:=by omega
     have hs0:j+1+(q-1)<S.length:=by omega
     have hwl:w<l.length:=by omega
     have hds:o9 (l.take (j+1+(q+1)))=if l[j+q]=l[j+1+q] then o9 (l.take (j+1+q)) else o9 (l.take (j+1+q))++[l[j+1+q]]:=by
      have:=kG (l:=l) (k:=j+q) (by omega);simp only[show j+q+1=j+1+q by omega,show j+q+2=j+1+(q+1) by omega] at this;exact this
     rw[<- hSt] at hds;have e1:S[j+1+q]=l[j+1+q]:=by
      have:=congrArg (λL:List Int=>L[1]?) hSd;simp only[List.getElem?_drop] at this;rw[show j+q+1=j+1+q by omega,List.getElem?_eq_getElem hs1,List.getElem?_eq_getElem hlq] at this;exact Option.some.inj this
     have e0:S[j+1+(q-1)]=l[j+q]:=by
      have:=congrArg (λL:List Int=>L[0]?) hSd;simp only[List.getElem?_drop,Nat.add_zero] at this;rw[List.getElem?_eq_getElem (show j+q<S.length by omega),List.getElem?_eq_getElem (show j+q<l.length by omega)] at this;have e:=Option.some.inj this;rw[<- e];congr 1;omega
     have hdr:S.drop (j+(q+1))=l.drop (j+(q+1)):=by
      have:=congrArg (List.drop 1) hSd;rw[List.drop_drop,List.drop_drop] at this;exact this
     have hset:=λv:Int=>oP (v:=v) (show w<S.length by omega);have hdset:∀ v:Int,(S.set w v).drop (j+(q+1))=l.drop (j+(q+1)):=λv=>by
      rw[List.drop_set_of_lt (by omega)];exact hdr
     generalize l[j+q]=u at *;generalize l[j+1+q]=v at *;have e0':S[j+1+(q-1)]?=some u:=by rw[List.getElem?_eq_getElem hs0,e0]
     have e1':S[j+1+q]?=some v:=by rw[List.getElem?_eq_getElem hs1,e1]
     by_cases huv:u=v
     ·have hvu:v=u:=huv.symm;rw[if_pos huv] at hds;have hs:=za hq' (za hq1' (za hSl (za hlq (za hqw (za hww (za hqm (za hs1 (za hs0 (za hwl (za e1 (za e0 (za e0' (za e1' hvu)))))))))))));repeat' first|with_reducible refine zz ?_|simp -dsimp[hs]|refine zM 11 61 10 Li ?_|with_reducible refine zE Li ?_|refine j4 ?_ ?_<;>intro h<;>try exact h.elim
      all_goals exact zn ⟨(q+1,w,S),by simp only;omega,by simp only;omega,by simp only;omega,hSl,hds.symm,hdr⟩ (zv [0,3,4,5])
     ·have hvu:¬ v=u:=λh=>huv h.symm;rw[if_neg huv,<- hset v] at hds;have hs:=za hq' (za hq1' (za hSl (za hlq (za hqw (za hww (za hqm (za hs1 (za hs0 (za hwl (za e1 (za e0 (za e0' (za e1' hvu)))))))))))));repeat' first|with_reducible refine zz ?_|simp -dsimp[hs]|refine zM 11 61 10 Li ?_|with_reducible refine zE Li ?_|refine j4 ?_ ?_<;>intro h<;>try exact h.elim
      all_goals exact zn ⟨(q+1,w+1,S.set w v),by simp only;omega,by simp only;omega,by simp only;omega,by simpa using hSl,hds.symm,hdset v⟩ (zv [0,3,4,5])
    ·have hq':¬ q<l.length-(j+1):=by omega
     have hw0:w<=l.length:=by omega
     have hs:=za hq' (za hw0 hSl);repeat' first|(with_reducible first|refine zz ?_|refine zr ?_|refine zE Li ?_)|simp -dsimp[hs]|refine j4 ?_ ?_<;>intro h<;>try exact h.elim
     have hN:j+1+q=l.length:=by omega
     rw[hN,List.take_length] at hSt;have hwd:w=(o9 l).length:=by rw[<- hSt];simp;omega
     exact⟨vO S w (l.length-w),⟨by rw[pS (by omega)];exact hSl,by rw[<- hwd,<- hSt];exact List.take_left' (by simp;omega)⟩,by rw[hwd],rfl⟩
   ·have he':¬ l[j+1]=l[j]:=λh=>he h.symm;rw[if_neg he] at hst;have hs:=za hlt (za hj (za hw (za hwj (za hwj2 (za hp0 (za hp1 (za hp2 he')))))));repeat' first|with_reducible refine zz ?_|simp -dsimp[hs]|refine zM 6 61 10 Li ?_|with_reducible refine zE Li ?_|refine j4 ?_ ?_<;>intro h<;>try exact h.elim
    exact zn ⟨j+2,by omega,by omega,by rw[hst,show j+2=j+1+1 from rfl,List.take_succ_eq_append_getElem hlt]⟩ (zv [0,3] (by simp;exact hw))
  ·obtain rfl:k=l.length:=by omega
   rw[List.take_length] at hdk;have hs:=hlt;repeat' first|(with_reducible first|refine zz ?_|refine zr ?_|refine zE Li ?_)|simp -dsimp[hs]|refine j4 ?_ ?_<;>intro h<;>try exact h.elim
   exact⟨l,⟨rfl,by rw[hdk,List.take_length]⟩,by rw[hdk],rfl⟩
def Dk (x:Print) (d:Int):Bool:=decide (x.day<=d) && !(!decide (x.back=-1)&&decide (x.back<=d)) && !decide (x.lost=2)
def qR (d i w:Int) (x:Print):Bool:=Dk x d&&(decide (x.holder=i)&&decide (x.drawing=w))
def V2 (d i w:Int) (l:List Print):List Int:=(l.filter λx=>qR d i w x&&decide (x.lost=1)).map (·.letter)
def Z6 (d i w:Int) (l:List Print):Int:=(l.filter λx=>qR d i w x && !decide (x.lost=1)).foldl (λa x=>max a x.letter) 0
theorem Fq (b:IC) (n:Int):zP prog G 147 [.one (.im b),iv n] (.one (.im (.fn (.func 192) [.ip [b],.ip [rI n]]))):=by
 refine zf func147 ntmps147 ?_;try simp only[iv]
 repeat' first|(with_reducible first|refine zz ?_|refine zx ?_|refine zE [0,1,2,3,4] ?_)|simp -dsimp
def U8 (d i w:Int) (l:List Print):List Int:=(o9 (j9 (V2 d i w l++[Z6 d i w l]))).drop (J4 (λx=>decide (Z6 d i w l=x)) (o9 (j9 (V2 d i w l++[Z6 d i w l])))).toNat
theorem uC (d i w:Int) {l:List Print} {k:Nat} (h:k<l.length):V2 d i w (l.take (k+1))=V2 d i w (l.take k)++(if (qR d i w l[k]&&decide (l[k].lost=1))=true then [l[k].letter] else []):=by
 unfold V2;rw[List.take_succ_eq_append_getElem h,List.filter_append,List.map_append]
 congr 1
 split<;>simp_all
theorem uj (d i w:Int) {l:List Print} {k:Nat} (h:k<l.length):Z6 d i w (l.take (k+1))=if (qR d i w l[k] && !decide (l[k].lost=1))=true then max (Z6 d i w (l.take k)) l[k].letter else Z6 d i w (l.take k):=by
 unfold Z6;rw[List.take_succ_eq_append_getElem h,List.filter_append,List.foldl_append];split<;>simp_all
theorem pz {α:Type} (q:α->Bool) (l:List α):J4 q l<l.length\/l=[]:=by
 unfold J4;split
 ·rename_i j h;rw[List.findIdx?_eq_some_iff_getElem] at h;obtain⟨hlt,_⟩:=h;left;omega
 ·cases l with
  | nil=>exact .inr rfl
  | cons a r=>left;simp;omega
theorem kb (d i w:Int) (l:List Print):(V2 d i w l).length<=l.length:=by
 unfold V2;rw[List.length_map];exact List.length_filter_le _ _
@[simp] abbrev LG:List Nat:=[0,1,2,3,4,5,6,7,8,9,10,11,12,13,14,16,18,29,32,46]
theorem Ay (p:Prints) (d i w:Int) (hS:s8 G) (hl:p.prints.length<900):zP prog G 90 [.one (.im (l4 p)),iv d,iv i,iv w] (A4 (U8 d i w p.prints)):=by
 refine zf func90 ntmps90 ?_;try simp only[iv,iv,iv]
 simp only[l4];have c1:=Fq (G:=G) (l4 p) d;simp only[l4] at c1;have hs:=trivial;repeat' first|(with_reducible first|refine zz ?_|refine zE [0,1,2,3,6,7,8,9,10,12,13,16,18,29,32] ?_)|simp -dsimp[hs]|refine zp c1 ?_
 all_goals try clear hs
 refine P9 (f:=192) (by simp;exact rfl) (by rfl) call192 ?_;generalize hR:LoopD.mk _ _ _ _ _ _ _=R;have hR1:R.st=.ready:=by rw[<- hR]
 have hR2:R.pend=none:=by rw[<- hR]
 have hR3:R.at .ready none=R:=by rw[<- hR];rfl
 have hR4:=(congrArg LoopD.nt hR).symm;have hR5:=(congrArg LoopD.tm hR).symm;have hR6:=(congrArg LoopD.ps hR).symm;have hR7:=(congrArg LoopD.asg hR).symm;have hR8:=(congrArg LoopD.body hR).symm;dsimp only at hR4 hR5 hR6 hR7 hR8;clear hR;refine g9 func192 rfl ntmps192 (by simp) rfl ?_;have hR9:∀ objs:List DObj,(R.tm.map λx=>(x.1,eU 7 objs x.2))=R.tm:=by intro objs;rw[hR5];simp
 have hs:=za hR1 (za hR2 hR3);repeat' first|(with_reducible first|refine zz ?_|refine zE LG ?_)|simp -dsimp[hs]
 all_goals try clear hs
 refine i7 (ι:={ q:Nat×Nat×Nat×Bool // q.1<=p.prints.length/\(q.2.2.1=1\/q.2.2.2=true/\V2 d i w (p.prints.take q.1)=[]) }) (λq=>⟨48,[(0,.one (.yld 6)),(2,.one (.im (.ip [rI d]))),(11,.one (.im (.sl (p.prints.map p6)))),(12,iv (p.prints.length:Int)),(13,iv (q.1.1:Int))],[.row [.im (rI i)],.row [.im (rI w)],.vec 1 [] 0 true,.row [.im (rI (Z6 d i w (p.prints.take q.1.1)))],.vec q.1.2.2.1 (l6 ((V2 d i w (p.prints.take q.1.1)).map encI)) q.1.2.1 q.1.2.2.2,.row [.vec 4 q.1.2.1 0 (V2 d i w (p.prints.take q.1.1)).length],.loop R]⟩) (λq=>p.prints.length-q.1.1) ⟨(0,0,0,true),by simp[V2]⟩ (zv [0,2,11,12,13] (by simp[V2,Z6])) ?_;rintro⟨⟨k,g,sz,nl⟩,hk,hz⟩;simp only at hk hz;simp only[iv];by_cases hlt:k<p.prints.length
 ·have hw:=zk k;have hst1:=uC d i w hlt;have hst2:=uj d i w hlt;have hpl:=kb d i w (p.prints.take k);rw[List.length_take] at hpl;have hz':sz=1\/nl=true:=hz.imp id And.left;generalize hx:p.prints[k]=x at *;cases hsel:qR d i w x
  ·rw[hsel] at hst1 hst2;simp only[Bool.false_and,Bool.false_eq_true,if_false,List.append_nil] at hst1 hst2;simp only[qR,Dk] at hsel;simp at hsel;have hz2:sz=1\/nl=true/\V2 d i w (p.prints.take (k+1))=[]:=by rw[hst1];exact hz
   clear c1;have hs:=za hR1 (za hR2 (za hR3 (za hx (za hlt (za hw hz')))));repeat' first|(with_reducible first|refine zz ?_|refine And.intro (by omega) ?_|refine zE LG ?_)|simp -dsimp[hs]|with_reducible refine At.yield_end ?_;simp -dsimp[hs]|refine am ?_ ?_<;>simp -dsimp[hs]|refine N8 ?_;simp -dsimp[P8,hR4,hR5,hR6,hR7,hR8,hs]|refine j4 ?_ ?_<;>intro h<;>try exact h.elim|with_reducible refine j7 ?_ ?_<;>intro h<;>have h0:=h<;>(try simp only[i8] at h)<;>have h2:=h<;>(try simp at h2)<;>replace hs:=za h0 (za h (za h2 hs))
   all_goals try clear hs
   all_goals first
    | (exfalso;omega)
    | exact zn ⟨(k+1,g,sz,nl),by simp only;omega,hz2⟩ (zw [0,2,11,12,13] 7 (by simp[hst1,hst2,hR9]))
  ·rw[hsel] at hst1 hst2;simp only[Bool.true_and] at hst1 hst2;have hq:=hsel;simp only[qR,Dk] at hq;simp at hq;obtain⟨⟨⟨q1,q2⟩,q3⟩,q4,q5⟩:=hq;have hbk:((x.back=-1)/\True)\/(¬ x.back=-1/\¬ x.back<=d):=by
    by_cases hb:x.back=-1
    ·exact .inl ⟨hb,trivial⟩
    ·exact .inr ⟨hb,by omega⟩
   clear hsel q2 c1;have hs:True:=trivial;by_cases hl1:x.lost=1
   ·simp only[hl1,decide_true,if_true,Bool.not_true,Bool.false_eq_true,if_false] at hst1 hst2;rcases hbk with⟨hb1,hb2⟩|⟨hb1,hb2⟩
    all_goals
     have hs:=za hR1 (za hR2 (za hR3 (za hx (za hlt (za hw (za hz' (za q1 (za q3 (za q4 (za q5 (za hb1 (za hb2 hl1))))))))))));repeat' first|(with_reducible first|refine zz ?_|refine And.intro (by omega) ?_|refine zE LG ?_)|simp -dsimp[hs]|with_reducible refine At.yield_end ?_;simp -dsimp[hs]|refine am ?_ ?_<;>simp -dsimp[hs]|refine N8 ?_;simp -dsimp[P8,hR4,hR5,hR6,hR7,hR8,hs]|refine j4 ?_ ?_<;>intro h<;>try exact h.elim
     all_goals try clear hs
    all_goals exact zn ⟨(k+1,g+1,1,false),by simp only;omega,.inl rfl⟩ (zw [0,2,11,12,13] 7 (by simp[hst1,hst2,hR9]))
   ·simp only[hl1,decide_false,Bool.false_eq_true,if_false,List.append_nil,Bool.not_false,if_true] at hst1 hst2;have hz2:sz=1\/nl=true/\V2 d i w (p.prints.take (k+1))=[]:=by rw[hst1];exact hz
    rcases hbk with⟨hb1,hb2⟩|⟨hb1,hb2⟩
    all_goals
     have hs:=za hR1 (za hR2 (za hR3 (za hx (za hlt (za hw (za hz' (za q1 (za q3 (za q4 (za q5 (za hb1 (za hb2 hl1))))))))))));repeat' first|(with_reducible first|refine zz ?_|refine zE LG ?_)|simp -dsimp[hs]|with_reducible refine At.yield_end ?_;simp -dsimp[hs]|refine am ?_ ?_<;>simp -dsimp[hs]|refine N8 ?_;simp -dsimp[P8,hR4,hR5,hR6,hR7,hR8,hs]|refine j4 ?_ ?_<;>intro h<;>try exact h.elim
     all_goals try clear hs
    all_goals exact zn ⟨(k+1,g,sz,nl),by simp only;omega,hz2⟩ (zw [0,2,11,12,13] 7 (by simp[hst1,hst2,hR9]))
 ·obtain rfl:k=p.prints.length:=by omega
  rw[List.take_length] at *;have hz':sz=1\/nl=true:=hz.imp id And.left;have hpl:=kb d i w p.prints;clear c1;have hs:=za hR1 (za hR2 (za hR3 (za hlt hz')));repeat' first|(with_reducible first|refine zz ?_|refine And.intro (by omega) ?_|refine ze ?_ (by simp -dsimp[B1,hs];exact rfl)|refine zE LG ?_)|simp -dsimp[B1,hs]|with_reducible show B1 _ _ _ _ _ _ _ _;simp -dsimp[B1,hs]|refine j4 ?_ ?_<;>intro h<;>try exact h.elim
  all_goals try clear hs
  obtain⟨L,hL1⟩:∃ L,L=V2 d i w p.prints++[Z6 d i w p.prints]:=⟨_,rfl⟩
  have hE:U8 d i w p.prints=(o9 (j9 L)).drop (J4 (λx=>decide (Z6 d i w p.prints=x)) (o9 (j9 L))).toNat:=by rw[hL1];rfl
  have hv:Z6 d i w p.prints∈L:=by rw[hL1];simp
  generalize Z6 d i w p.prints=v at *;have hLn:(V2 d i w p.prints).length+1=L.length:=by rw[hL1];simp
  have hLi:l6 ((V2 d i w p.prints).map encI)++[[DC.im (IC.raw (Value.int .i64 v))]]=l6 (L.map encI):=by rw[hL1];simp[eR,l6]
  rw[hE];clear hL1 hE;generalize V2 d i w p.prints=Q at *;have c1:=hS L (g+1) 1 false (.inl rfl) (by omega);have hil:=J3 L;have c2:=mF (G:=G) (j9 L) (g+1) (by omega);have hdl:=Y9 (j9 L);rw[hil] at c2;have c3:=pt (G:=G) (o9 (j9 L)) v (by omega);have hs:True:=trivial;rw[hLi];simp only[hLn];have hs:=za hR1 (za hR2 (za hR3 (za hlt (za hLn hLi))));repeat' first|(with_reducible first|refine zz ?_|refine zE LG ?_)|simp -dsimp[hs]|refine CallE.embed [4] (c1) ?_ ?_ ?_ ?_ ?_ ?_;(focus simp[p7];done);(focus simp;done);(focus simp;done);(focus simp;done);(focus refine n4 ?_;simp[p7,o6];done);try simp -dsimp[n3,p7,hs]|refine CallE.embed_ex [4] (c2) ?_ ?_ ?_ ?_ ?_ ?_;(focus simp[p7];done);(focus simp;done);(focus simp;done);(focus simp;done);(focus refine n4 ?_;simp[p7,o6];done);intro mma hmma;try simp -dsimp[n3,p7,hs]
  all_goals try clear hs
  obtain⟨ha1,ha2⟩:=hmma;clear c1 c2;generalize hD:o9 (j9 L)=D at *;have hdm:D.length<=mma.length:=by omega
  have hfi:=pz (λx=>decide (v=x)) D;have hvd:D.any (λx=>decide (v=x))=true:=by
   rw[List.any_eq_true];refine⟨v,?_,by simp⟩;rw[<- hD,eZ];exact isort_mem.2 hv
  rw[<- A1] at hvd;have hf0:0<=J4 (λx=>decide (v=x)) D:=of_decide_eq_true hvd;obtain⟨f,hf⟩:=Int.eq_ofNat_of_zero_le hf0;rw[hf] at c3 hfi;have hfd:f<=D.length:=by
   rcases hfi with h|h
   ·omega
   ·rw[h] at hf;simp[J4] at hf
  rw[hf,Int.toNat_natCast];have htk:(l6 (mma.map encI)).take D.length=l6 (D.map encI):=by rw[show (l6 (mma.map encI)).take D.length=l6 ((mma.map encI).take D.length) by simp[l6,List.map_take],<- List.map_take,ha2]
  have hs:True:=trivial;all_goals try simp -dsimp[hR1,hR2,hR3,htk,hdm,hfd,ha1,hs]
  all_goals try clear hs
  have hdL:D.length<=L.length:=by omega
  have htd:List.take (D.length-f) (List.drop f (l6 (mma.map encI)))=l6 ((D.drop f).map encI):=by
   rw[<- List.drop_take,htk];simp[l6,List.map_drop]
  refine CallE.thaw c3 ?_ ?_ ?_
  ·simp[htk,hdm,hfd,ha1,hdL]
  ·simp
  simp -dsimp[htk,hdm,hfd,ha1];have hs:=za hR1 (za hR2 (za hR3 (za htk (za hdm (za hfd (za ha1 (za hdL htd)))))));repeat' first|(with_reducible first|refine zz ?_|refine zr ?_)|simp -dsimp[hs]
  all_goals try clear hs
attribute [simp] s6 w0
noncomputable def G0 (p:Prints) (d i w:Int):List Int:=if J9 p d 1 i w=0 then U8 d i w p.prints else []
theorem xz (p:Prints) (d i w:Int) (hG:o4 G) (hN:C7 G) (hS:s8 G) (hR:u3 G) (hk:KP p):zP prog G 45 [R6 p,iv d,iv i,iv w] (.tup [A4 (G0 p d i w),iv (J9 p d 1 i w)]):=by
 refine zf func45 ntmps45 ?_;try simp only[iv,iv,iv]
 have c1:=xC p d 1 i w hG hN hS hR hk;have c2:=Ay p d i w hS (by have:=hk.p.q;omega);by_cases h0:J9 p d 1 i w=0
 ·have hW:G0 p d i w=U8 d i w p.prints:=by unfold G0;rw[if_pos h0]
  simp only[du,h0,if_true] at c1;rw[hW,h0];simp only[l4] at c1 c2;have c1':=c1 [];simp only[R6,A8,A4,iv,List.map_cons,List.map_nil,encI,rI] at c1';have hs:=trivial;repeat' first|(with_reducible first|refine zz ?_|refine zr ?_|refine zE [0,1,2,3,4,8,9,10,11,22] ?_)|simp -dsimp[hs]|refine CallE.freeze 0 c1' ?_ ?_ ?_ ?_ ?_ ?_;(focus simp;done);(focus simp;done);(focus simp;done);(focus rfl);(focus simp;done);try simp -dsimp[s6]|refine zp c2 ?_|refine j4 ?_ ?_<;>intro h<;>try exact h.elim
 ·have hW:G0 p d i w=[]:=by unfold G0;rw[if_neg h0]
  simp only[du,h0,if_false] at c1;rw[hW];have c1':=c1 [];simp only[R6,A8,A4,iv,List.map_cons,List.map_nil,encI,rI] at c1';have hs:=h0;repeat' first|(with_reducible first|refine zz ?_|refine zr ?_|refine zE [0,1,2,3,4,8,9,10,11,22] ?_)|simp -dsimp[hs]|refine CallE.freeze 0 c1' ?_ ?_ ?_ ?_ ?_ ?_;(focus simp;done);(focus simp;done);(focus simp;done);(focus rfl);(focus simp;done);try simp -dsimp[s6]|refine j4 ?_ ?_<;>intro h<;>try exact h.elim
open Go Go.Ab
def CR:Dim:=⟨0,0,0⟩
def ce (c:Chains) (x:Link):Dim:=((r5 c.reg c.lets x.drawing).dims[x.dim.toNat]?).getD CR
structure OkC (c:Chains):Prop where
 reg:l9 c.reg=0
 lets:r8 c.reg c.lets=true
 of:c.of∈nums c.reg
 num:1<=c.loops.length/\c.loops.length<=6
 gap:∀ x∈c.loops,x.links.length<=8/\pV x=true
 link:∀ x∈c.loops,∀ y∈x.links,y.drawing∈nums c.reg/\0<=y.dim/\y.dim<(r5 c.reg c.lets y.drawing).dims.length
def az (c:Chains) (x:ChLoop):List Dim:=x.links.map (ce c)
def U2 (high:Bool) (x:Link) (d:Dim):Int:=if high != x.back then d.upper else d.lower
def oO (x:Link) (n:Int):Int:=if x.back then -n else n
def pE (links:List Link) (l:List Dim) (high:Bool):List Int:=(links.zip l).map λp=>U2 high p.1 p.2
def gg (links:List Link) (l:List Dim) (high:Bool):Int:=(links.zip l).foldl (λs p=>s+oO p.1 (U2 high p.1 p.2)) 0
theorem pL {c:Chains} (h:OkC c) {x:ChLoop} (hx:x∈c.loops) {y:Link} (hy:y∈x.links):P2 (ce c y)=true/\(r5 c.reg c.lets y.drawing).dims[y.dim.toNat]?=some (ce c y):=by
 obtain⟨h1,h2,h3⟩:=h.link x hx y hy;obtain⟨hm,_⟩:=dy h.reg h.lets h1;have hok:=(T4 (N4 (J6 h.reg))).2.2.2.1 _ hm;have hlt:y.dim.toNat<(r5 c.reg c.lets y.drawing).dims.length:=by omega
 have he:(r5 c.reg c.lets y.drawing).dims[y.dim.toNat]?=some (r5 c.reg c.lets y.drawing).dims[y.dim.toNat]:=by simp[hlt]
 have hd:ce c y=(r5 c.reg c.lets y.drawing).dims[y.dim.toNat]:=by rw[ce,he,Option.getD_some]
 simp only[q8,Bool.and_eq_true] at hok;rw[hd];exact⟨List.all_eq_true.1 hok.2 _ (List.getElem_mem hlt),he⟩
def di (l:List Itm) (d:Int):Int:=match l with
 | []=>0
 | y :: r=>if y.drawing=d then y.count else di r d
theorem BL {high:Bool} {x:Link} {d:Dim} (h:P2 d=true):0<=U2 high x d/\U2 high x d<=1000000000:=by
 have:=(ia d).1 h;unfold U2;split<;>omega
theorem CY {high:Bool} {x:Link} {d:Dim} (h:P2 d=true):-1000000000<=oO x (U2 high x d)/\oO x (U2 high x d)<=1000000000:=by
 have:=BL (high:=high) (x:=x) h;unfold oO;split<;>omega
theorem oH {c:Chains} (h:OkC c) {n:Nat} (hn:n<c.loops.length):(az c c.loops[n]).length=c.loops[n].links.length/\∀ d∈az c c.loops[n],P2 d=true:=by
 refine⟨by simp[az],λd hd=>?_⟩;obtain⟨y,hy,rfl⟩:=List.mem_map.1 hd;exact(pL h (List.getElem_mem hn) hy).1
theorem mE (c:Chains):∃ X,af c=.one (.im X):=by unfold af;split<;>exact⟨_,rfl⟩
def E0 (c:Chains) (n:Int):Int:=if v7 c≠0 then v7 c else if 0<=n/\n<c.loops.length then 0 else 2
@[simp] abbrev Kt:List Nat:=[0,1,2,4,5,6,7,24]
theorem Bl (c:Chains) (n:Int) (hG:o4 G) (hC:I9 G) (hs:lg c):zP prog G 185 [Aw c,iv n] (.tup [af c,iv (E0 c n)]):=by
 refine zf func185 ntmps185 ?_;try simp only[Aw,iv]
 have c1:=zm c hG hC hs;have hl:=hs.2.2.1;have hw:IntKind.i64.wrap ((c.loops.length:Int)-1)=(c.loops.length:Int)-1:=r9 (by omega) (by omega);have c2:=aV (G:=G) 0 ((c.loops.length:Int)-1) [n] (by simp);have hE:E0 c n=if v7 c≠0 then v7 c else if 0<=n/\n<c.loops.length then 0 else 2:=rfl;obtain⟨X,hX⟩:=mE c;rw[hX];rw[hX] at c1;by_cases h0:v7 c=0
 ·rw[h0] at c1 hE;by_cases hr:0<=n/\n<c.loops.length
  ·have hq:([n].all λx=>decide (0<=x)&&decide (x<=(c.loops.length:Int)-1))=true:=by simp;omega
   rw[hq] at c2;have hs:=hw;repeat' first|(with_reducible first|refine zz ?_|refine zr ?_|refine zE Kt ?_)|simp -dsimp[hs]|refine zp c1 ?_|refine zt c2 ?_ ?_ ?_;(focus simp;done);focus (simp;done)|refine j4 ?_ ?_<;>intro h<;>try exact h.elim
   all_goals try clear hs
   simp[hE,hr]
  ·have hq:([n].all λx=>decide (0<=x)&&decide (x<=(c.loops.length:Int)-1))=false:=by simp;omega
   rw[hq] at c2;have hs:=hw;repeat' first|(with_reducible first|refine zz ?_|refine zr ?_|refine zE Kt ?_)|simp -dsimp[hs]|refine zp c1 ?_|refine zt c2 ?_ ?_ ?_;(focus simp;done);focus (simp;done)|refine j4 ?_ ?_<;>intro h<;>try exact h.elim
   all_goals try clear hs
   simp[hE,hr]
 ·have hs:=h0;repeat' first|(with_reducible first|refine zz ?_|refine zr ?_|refine zE Kt ?_)|simp -dsimp[hs]|refine zp c1 ?_|refine j4 ?_ ?_<;>intro h<;>try exact h.elim
  all_goals try clear hs
  simp[hE,h0]
theorem Bc (d k:Int):zP prog G 188 [D3 d k] (bv false):=by
 refine zf func188 ntmps188 ?_;try simp only[D3]
 repeat' first|(with_reducible first|refine zz ?_|refine zx ?_|refine zE [0,2] ?_)|simp -dsimp
theorem CW (x:Link):zP prog G 236 [yb x] (D3 x.drawing x.dim):=by
 refine zf func236 ntmps236 ?_;try simp only[yb]
 repeat' first|(with_reducible first|refine zz ?_|refine zx ?_|refine zE [0,1,2] ?_)|simp -dsimp
def eM:IC:=.fn (.func 188) []
@[simp] abbrev Ke:List Nat:=[0,1,2,3,8,9,11,12,21,22,23,24,42]
theorem xD (c:Chains) (D:List (Int×Int)) (n:Nat) (hn:n<c.loops.length) (h:OkC c):zP prog G 187 [.one (.im (H8 c D (ar c.reg c.lets))),iv (n:Int),iv 0,.one (.im eM)] (.one (.im (.sl ((az c c.loops[n]).map B9)))):=by
 refine zf func187 ntmps187 ?_;try simp only[iv,iv]
 have hx:c.loops[n]?=some c.loops[n]:=by simp[hn]
 have hln:=h.gap c.loops[n] (List.getElem_mem hn);have hok:=λy hy=>pL h (List.getElem_mem hn) (y:=y) hy;have hlk:=h.link c.loops[n] (List.getElem_mem hn);have hE:az c c.loops[n]=c.loops[n].links.map (ce c):=rfl;simp only[H8,eM];have hs:=za hx hn;repeat' first|(with_reducible first|refine zz ?_|refine zE Ke ?_)|simp -dsimp[hs]
 generalize hls:c.loops[n].links=ls at *;refine i7 (ι:={ p:Nat×Nat×Bool×List Dim // p.1<=ls.length/\p.2.2.2=(ls.take p.1).map (ce c) }) (λp=>⟨52,[(0,.one (.im (H8 c D (ar c.reg c.lets)))),(2,iv 0),(3,.one (.im eM)),(9,.one (.vec 1 p.1.2.1 0 p.1.2.2.2.length)),(21,.one (.im (.sl (ls.map D6)))),(22,iv (ls.length:Int)),(23,iv (p.1.1:Int))],[.vec 3 [] 0 true,.vec 3 (l6 (p.1.2.2.2.map B9)) p.1.2.1 p.1.2.2.1]⟩) (λp=>ls.length-p.1.1) ⟨(0,0,true,[]),by simp⟩ (zv [0,2,3,9,21,22,23] (by simp[H8,eM])) ?_;rintro⟨⟨k,g,nl,out⟩,hk,ho⟩;simp only at hk ho;simp only[iv,H8,eM];have hol:out.length=k:=by rw[ho];simp;omega
 by_cases hlt:k<ls.length
 ·have hy:ls[k]?=some ls[k]:=by simp[hlt]
  have hw:=zk k;obtain⟨l1,l2,l3⟩:=hlk ls[k] (List.getElem_mem hlt);obtain⟨_,he⟩:=hok ls[k] (List.getElem_mem hlt);have hlook:H2 (ar c.reg c.lets) ls[k].drawing=r5 c.reg c.lets ls[k].drawing:=by rw[ar,R0,if_pos l1]
  obtain⟨j,hj⟩:∃ j:Nat,ls[k].dim=j:=⟨ls[k].dim.toNat,by omega⟩
  rw[hj,Int.toNat_natCast] at he;have hjl:=e7 he;have hje:=(List.getElem?_eq_some_iff.1 he).2;have c2:=CW (G:=G) ⟨ls[k].drawing,j,ls[k].back⟩;have c3:=Bc (G:=G) ls[k].drawing j;simp only[D3] at c2 c3;have hon:out++[ce c ls[k]]=(ls.take (k+1)).map (ce c):=by rw[List.take_succ_eq_append_getElem hlt,List.map_append,ho];rfl
  have hs:=za hy (za hw (za hlt (za hlook (za hj (za hjl (za he hje))))));repeat' first|(with_reducible first|refine zz ?_|refine And.intro (by omega) ?_)|simp -dsimp[hs]|refine zp c2 ?_|refine zp c3 ?_|refine J0 (id:=5) (nt:=52) 13 [] [0,1,2,3,8,9,11,12,21,22,23,24,27,28,29,30,31,32,33,34,35,36,37,38,42] Ke mixed rfl (by kernel_rfl) ?_|with_reducible refine zE Ke ?_|refine j4 ?_ ?_<;>intro h<;>try exact h.elim
  all_goals try omega
  exact zn ⟨(k+1,g+1,false,out++[ce c ls[k]]),by omega,hon⟩ (zw [0,2,3,9,21,22,23] 2 (by simp[H8,eM]))
 ·have hs:=hlt;repeat' first|(with_reducible first|refine zz ?_|refine zr ?_|refine zE Ke ?_)|simp -dsimp[hs]|refine j4 ?_ ?_<;>intro h<;>try exact h.elim
  all_goals try omega
  rw[hE,ho,List.take_of_length_le (by omega)]
@[simp] abbrev LH:List Nat:=[0,1,2,3,8,9,10,11,12,13,14,15,24,25,26,27,37,41]
@[simp] abbrev Kf:List Nat:=[2,3,10,11,24,25,26]
theorem xH (c:Chains) (D:List (Int×Int)) (B:List (Int×Issue)) (n:Nat) (hn:n<c.loops.length) (l:List Dim) (high:Bool) (hl:c.loops[n].links.length<=12) (he:l.length=c.loops[n].links.length) (hd:∀ d∈l,P2 d=true):zP prog G 235 [.one (.im (H8 c D B)),iv (n:Int),.one (.im (.sl (l.map B9))),bv high] (.tup [A4 (pE c.loops[n].links l high),iv (gg c.loops[n].links l high)]):=by
 refine zf func235 ntmps235 ?_;try simp only[iv,bv]
 have hxn:c.loops[n]?=some c.loops[n]:=by simp[hn]
 simp only[H8];have hs:=za hxn hn;repeat' first|(with_reducible first|refine zz ?_|refine zE LH ?_)|simp -dsimp[hs]
 all_goals try clear hs
 generalize c.loops[n].links=ls at *;refine i7 (ι:={ p:Nat×Nat×Bool×List Int×Int // p.1<=ls.length/\p.2.2.2.1.length=p.1/\pE ls l high=p.2.2.2.1++((ls.zip l).drop p.1).map (λq=>U2 high q.1 q.2)/\gg ls l high=((ls.zip l).drop p.1).foldl (λs q=>s+oO q.1 (U2 high q.1 q.2)) p.2.2.2.2/\-1000000000*(p.1:Int)<=p.2.2.2.2/\p.2.2.2.2<=1000000000*(p.1:Int) }) (λp=>⟨59,[(2,.one (.im (.sl (l.map B9)))),(3,bv high),(10,iv p.1.2.2.2.2),(11,.one (.vec 1 p.1.2.1 0 p.1.2.2.2.1.length)),(24,.one (.im (.sl (ls.map D6)))),(25,iv (ls.length:Int)),(26,iv (p.1.1:Int))],[.vec 1 [] 0 true,.vec 1 (l6 (p.1.2.2.2.1.map encI)) p.1.2.1 p.1.2.2.1]⟩) (λp=>ls.length-p.1.1) ⟨(0,0,true,[],0),by simp[pE,gg]⟩ (zv [2,3,10,11,24,25,26]) ?_;rintro⟨⟨k,g,nl,out,s⟩,hk,hol,ho,hs,hb1,hb2⟩;simp only at hk hol ho hs hb1 hb2;simp only[iv,bv];by_cases hlt:k<ls.length
 ·have hkl:k<l.length:=by omega
  have hx:ls[k]?=some ls[k]:=by simp[hlt]
  have hy:l[k]?=some l[k]:=by simp[hkl]
  have hw:=zk k;have hz:k<(ls.zip l).length:=by simp;omega
  rw[List.drop_eq_getElem_cons hz,List.getElem_zip,List.map_cons] at ho;rw[List.drop_eq_getElem_cons hz,List.getElem_zip,List.foldl_cons] at hs;have hdk:=hd l[k] (List.getElem_mem hkl);have hdl:=(ia _).1 hdk;have hsb:=CY (high:=high) (x:=ls[k]) hdk;have hws:IntKind.i64.wrap (s+oO ls[k] (U2 high ls[k] l[k]))=s+oO ls[k] (U2 high ls[k] l[k]):=r9 (by omega) (by omega);have hon:pE ls l high=(out++[U2 high ls[k] l[k]])++((ls.zip l).drop (k+1)).map (λq=>U2 high q.1 q.2):=by rw[ho];simp
  have hwl:IntKind.i64.wrap (-l[k].lower)=-l[k].lower:=r9 (by omega) (by omega);have hwu:IntKind.i64.wrap (-l[k].upper)=-l[k].upper:=r9 (by omega) (by omega);have hwl1:IntKind.i64.wrap l[k].lower=l[k].lower:=r9 (by omega) (by omega);have hwu1:IntKind.i64.wrap l[k].upper=l[k].upper:=r9 (by omega) (by omega);have hfin:k+1<=ls.length/\(out++[U2 high ls[k] l[k]]).length=k+1/\pE ls l high=(out++[U2 high ls[k] l[k]])++((ls.zip l).drop (k+1)).map (λq=>U2 high q.1 q.2)/\gg ls l high=((ls.zip l).drop (k+1)).foldl (λs q=>s+oO q.1 (U2 high q.1 q.2)) (s+oO ls[k] (U2 high ls[k] l[k]))/\-1000000000*((k+1:Nat):Int)<=s+oO ls[k] (U2 high ls[k] l[k])/\s+oO ls[k] (U2 high ls[k] l[k])<=1000000000*((k+1:Nat):Int):=⟨by omega,by simp;omega,hon,hs,by omega,by omega⟩
  cases hbk:ls[k].back<;>cases high;all_goals have hN:∀ h,U2 h ls[k] l[k]=if h != ls[k].back then l[k].upper else l[k].lower:=λ_=>rfl
  all_goals have hS:∀ n,oO ls[k] n=if ls[k].back then -n else n:=λ_=>rfl
  all_goals simp only[hN,hS,hbk,bne_self_eq_false,Bool.false_eq_true,if_false,if_true,Bool.true_bne,Bool.false_bne,Bool.not_false] at hws hfin
  all_goals clear hN hS
  ·have hs:=za hx (za hy (za hw (za hlt (za hkl (za hbk (za hws (za hwl1 hwu1)))))));repeat' first|(with_reducible first|refine zz ?_|refine And.intro (by omega) ?_|refine zE LH ?_)|simp -dsimp[hs]|refine j4 ?_ ?_<;>intro h<;>try exact h.elim
   all_goals try clear hs
   all_goals try omega
   exact zn ⟨(k+1,g+1,false,out++[l[k].lower],s+l[k].lower),hfin⟩ (zw Kf 2)
  ·have hs:=za hx (za hy (za hw (za hlt (za hkl (za hbk (za hws (za hwl1 hwu1)))))));repeat' first|(with_reducible first|refine zz ?_|refine And.intro (by omega) ?_|refine zE LH ?_)|simp -dsimp[hs]|refine j4 ?_ ?_<;>intro h<;>try exact h.elim
   all_goals try clear hs
   all_goals try omega
   exact zn ⟨(k+1,g+1,false,out++[l[k].upper],s+l[k].upper),hfin⟩ (zw Kf 2)
  ·have hs:=za hx (za hy (za hw (za hlt (za hkl (za hbk (za hws (za hwl hwu)))))));repeat' first|(with_reducible first|refine zz ?_|refine And.intro (by omega) ?_|refine zE LH ?_)|simp -dsimp[hs]|refine j4 ?_ ?_<;>intro h<;>try exact h.elim
   all_goals try clear hs
   all_goals try omega
   exact zn ⟨(k+1,g+1,false,out++[l[k].upper],s + -l[k].upper),hfin⟩ (zw Kf 2)
  ·have hs:=za hx (za hy (za hw (za hlt (za hkl (za hbk (za hws (za hwl hwu)))))));repeat' first|(with_reducible first|refine zz ?_|refine And.intro (by omega) ?_|refine zE LH ?_)|simp -dsimp[hs]|refine j4 ?_ ?_<;>intro h<;>try exact h.elim
   all_goals try clear hs
   all_goals try omega
   exact zn ⟨(k+1,g+1,false,out++[l[k].lower],s + -l[k].lower),hfin⟩ (zw Kf 2)
 ·rw[List.drop_eq_nil_of_le (by simp;omega)] at ho hs;have hs:=hlt;repeat' first|(with_reducible first|refine zz ?_|refine zr ?_|refine zE LH ?_)|simp -dsimp[hs]|refine j4 ?_ ?_<;>intro h<;>try exact h.elim
  all_goals try clear hs
  all_goals try omega
  rw[ho,hs];simp
theorem xE (c:Chains) (D:List (Int×Int)) (B:List (Int×Issue)) (n:Nat) (hn:n<c.loops.length) (l:List Dim) (hl:c.loops[n].links.length<=12) (he:l.length=c.loops[n].links.length) (hd:∀ d∈l,P2 d=true):zP prog G 186 [.one (.im (H8 c D B)),iv (n:Int),.one (.im (.sl (l.map B9)))] (D3 (gg c.loops[n].links l false) (gg c.loops[n].links l true)):=by
 refine zf func186 ntmps186 ?_;try simp only[iv]
 have c2:=xH (G:=G) c D B n hn l false hl he hd;have c3:=xH (G:=G) c D B n hn l true hl he hd;repeat' first|(with_reducible first|refine zz ?_|refine zx ?_|refine zE [0,1,2,6,8,10] ?_)|simp -dsimp|refine zp c2 ?_|refine zp c3 ?_
def GS (c:Chains) (n:Int):Int:=match c.loops[n.toNat]? with|some x=>gg x.links (az c x) false|none=>0
def GY (c:Chains) (n:Int):Int:=match c.loops[n.toNat]? with|some x=>gg x.links (az c x) true|none=>0
def Au (c:Chains) (n:Int):Int:=if E0 c n=0 then GS c n else 0
def Av (c:Chains) (n:Int):Int:=if E0 c n=0 then GY c n else 0
@[simp] abbrev LI:List Nat:=[0,1,2,4,5,6,7,15]
theorem xI (c:Chains) (n:Int) (hG:o4 G) (hC:I9 G) (hs:lg c) (hok:v7 c=0->OkC c):zP prog G 141 [Aw c,iv n] (.tup [D3 (Au c n) (Av c n),iv (E0 c n)]):=by
 refine zf func141 ntmps141 ?_;try simp only[Aw,iv]
 have c1:=Bl c n hG hC hs;by_cases hE:E0 c n=0
 ·have h0:v7 c=0:=by
   by_cases h:v7 c=0
   ·exact h
   ·simp[E0,h] at hE
  have hr:0<=n/\n<c.loops.length:=Classical.byContradiction λh=>by simp[E0,h0,h] at hE
  obtain⟨k,rfl⟩:∃ k:Nat,n=k:=⟨n.toNat,by omega⟩
  have hk:k<c.loops.length:=by omega
  have h:=hok h0;have hx:c.loops[k]?=some c.loops[k]:=by simp[hk]
  have c2:=xD (G:=G) c (P3 c) k hk h;obtain⟨hsl,hsd⟩:=oH h hk;have hln:=(h.gap c.loops[k] (List.getElem_mem hk)).1;have c3:=xE (G:=G) c (P3 c) (ar c.reg c.lets) k hk (az c c.loops[k]) (by omega) hsl hsd;have h1:GS c (k:Int)=gg c.loops[k].links (az c c.loops[k]) false:=by simp only[GS,Int.toNat_natCast,hx]
  have h2:GY c (k:Int)=gg c.loops[k].links (az c c.loops[k]) true:=by simp only[GY,Int.toNat_natCast,hx]
  rw[<- h1,<- h2] at c3;rw[hE] at c1;simp only[af,h0,if_true,H8] at c1;rw[Au,Av,if_pos hE,if_pos hE];simp only[H8,eM,D3] at c2 c3;have hs:=trivial;repeat' first|(with_reducible first|refine zz ?_|refine zr ?_|refine zE LI ?_)|simp -dsimp[hs]|refine zp c1 ?_|refine zp c2 ?_|refine zp c3 ?_|refine j4 ?_ ?_<;>intro h<;>try exact h.elim
  all_goals try clear hs
  all_goals simp[hE]
 ·obtain⟨X,hX⟩:=mE c;rw[hX] at c1;rw[Au,Av,if_neg hE,if_neg hE];have hs:=hE;repeat' first|(with_reducible first|refine zz ?_|refine zr ?_|refine zE LI ?_)|simp -dsimp[hs]|refine zp c1 ?_|refine j4 ?_ ?_<;>intro h<;>try exact h.elim
  all_goals try clear hs
theorem mB (h1:Bool):∀ (q:List (Link×Dim)) (a b:Int),(∀ p∈q,P2 p.2=true)->a<=b->q.foldl (λs p=>s+oO p.1 (U2 false p.1 p.2)) a<=q.foldl (λs p=>s+oO p.1 (U2 true p.1 p.2)) b
 | [],a,b,_,h=>h
 | p :: q,a,b,hd,h=>by
   rw[List.foldl_cons,List.foldl_cons];refine mB h1 q _ _ (λp hp=>hd p (by simp[hp])) ?_;have hp:=(ia _).1 (hd p (by simp));have:oO p.1 (U2 false p.1 p.2)<=oO p.1 (U2 true p.1 p.2):=by
    unfold oO U2;cases p.1.back<;>simp<;>omega
   omega
theorem FV {ls:List Link} {l:List Dim} (hd:∀ d∈l,P2 d=true):gg ls l false<=gg ls l true:=
 mB true _ 0 0 (λ_ hp=>hd _ (List.of_mem_zip hp).2) (Int.le_refl _)
def HS (c:Chains) (n:Int):Int:=match c.loops[n.toNat]? with
 | some x=>if x.lo<=Au c n/\Av c n<=x.hi then 2 else if Av c n<x.lo\/x.hi<Au c n then 0 else 1
 | none=>0
def P4 (c:Chains) (n:Int):Int:=if E0 c n=0 then HS c n else 0
def wJ (n:Int):DV:=.one (.im (.raw (.int .u8 n)))
attribute [simp] wJ
theorem iH {c:Chains} {n:Int} (h:E0 c n=0):v7 c=0/\∃ k:Nat,n=k/\k<c.loops.length:=by
 have h0:v7 c=0:=by
  by_cases h':v7 c=0
  ·exact h'
  ·simp[E0,h'] at h
 have hr:0<=n/\n<c.loops.length:=Classical.byContradiction λh'=>by simp[E0,h0,h'] at h
 exact⟨h0,n.toNat,by omega,by omega⟩
theorem xt {c:Chains} {n:Int} (h:E0 c n=0) (hok:v7 c=0->OkC c):Au c n<=Av c n:=by
 obtain⟨h0,k,rfl,hk⟩:=iH h;have hx:c.loops[k]?=some c.loops[k]:=by simp[hk]
 obtain⟨hsl,hsd⟩:=oH (hok h0) hk;rw[Au,Av,if_pos h,if_pos h];simp only[GS,GY,Int.toNat_natCast,hx];exact FV hsd
@[simp] abbrev Ku:List Nat:=[0,1,2,4,5,6,7,8,16,24,35]
theorem uD (c:Chains) (n:Int) (hG:o4 G) (hC:I9 G) (hs:lg c) (hok:v7 c=0->OkC c):zP prog G 88 [Aw c,iv n] (.tup [wJ (P4 c n),iv (E0 c n)]):=by
 refine zf func88 ntmps88 ?_;try simp only[Aw,iv]
 have c1:=xI c n hG hC hs hok;by_cases hE:E0 c n=0
 ·have hle:=xt hE hok;obtain⟨h0,k,rfl,hk⟩:=iH hE;have hx:c.loops[k]?=some c.loops[k]:=by simp[hk]
  have hK:P4 c (k:Int)=if c.loops[k].lo<=Au c (k:Int)/\Av c (k:Int)<=c.loops[k].hi then 2 else if Av c (k:Int)<c.loops[k].lo\/c.loops[k].hi<Au c (k:Int) then 0 else 1:=by simp only[P4,HS,Int.toNat_natCast,hx,if_pos hE]
  generalize Au c (k:Int)=a at *;generalize Av c (k:Int)=b at *;have c2:=aV (G:=G) c.loops[k].lo c.loops[k].hi [a,b] (by simp);simp only[D3,hE] at c1;by_cases hin:c.loops[k].lo<=a/\b<=c.loops[k].hi
  ·have hq:([a,b].all λx=>decide (c.loops[k].lo<=x)&&decide (x<=c.loops[k].hi))=true:=by simp;omega
   rw[if_pos hin] at hK;rw[hq] at c2;have hs:=za hx hk;repeat' first|(with_reducible first|refine zz ?_|refine zr ?_|refine zE Ku ?_)|simp -dsimp[hs]|refine zp c1 ?_|refine zt c2 ?_ ?_ ?_;(focus simp;done);focus (simp;done)|refine j4 ?_ ?_<;>intro h<;>try exact h.elim
   all_goals try clear hs
   all_goals simp[hK,hE]
  ·have hq:([a,b].all λx=>decide (c.loops[k].lo<=x)&&decide (x<=c.loops[k].hi))=false:=by simp;omega
   rw[if_neg hin] at hK;rw[hq] at c2;have hs:=za hx hk;repeat' first|(with_reducible first|refine zz ?_|refine zr ?_|refine zE Ku ?_)|simp -dsimp[hs]|refine zp c1 ?_|refine zt c2 ?_ ?_ ?_;(focus simp;done);focus (simp;done)|refine j4 ?_ ?_<;>intro h<;>try exact h.elim
   all_goals try clear hs
   all_goals first
    | (exfalso;omega)
    | (rw[if_pos (by omega)] at hK;simp[hK,hE];done)
    | (rw[if_neg (by omega)] at hK;simp[hK,hE])
 ·have hK:P4 c n=0:=by simp[P4,hE]
  have hs:=hE;repeat' first|(with_reducible first|refine zz ?_|refine zr ?_|refine zE Ku ?_)|simp -dsimp[hs]|refine zp c1 ?_|refine j4 ?_ ?_<;>intro h<;>try exact h.elim
  all_goals try clear hs
  all_goals simp[hK]
end Go.Proofs
namespace Go.Proofs
open Go Go.Ab
theorem kw {l:List Issue} {lets:List Int} (h0:l9 l=0) (hlet:r8 l lets=true) {dep:Int->Int} (hdep:∀ n∈nums l,1<=dep n/\dep n<=6/\∀ c∈iV l n,c∈nums l/\dep c<dep n) :
 ∀ (k:Nat) (d m:Int),d∈nums l->∀ p∈K8 (r5 l lets) k d m,p.1∈nums l
 | 0,_,_,_,p,hp=>by cases hp
 | k+1,d,m,hd,p,hp=>by
   rw[K8] at hp;split at hp
   ·rw[List.mem_singleton] at hp;rw[hp];exact hd
   ·obtain⟨y,hy,hp⟩:=List.mem_flatMap.1 hp;have hc:=(hdep d hd).2.2 _ (jM h0 hlet hd y hy);exact kw h0 hlet hdep k _ _ hc.1 p hp
theorem mS {ns:List Int} (hnd:ns.Nodup):∀ (lv:List (Int×Int)) (m:List (Int×Int)),(∀ p∈lv,p.1∈ns)->Ez ns (ns.map (l7 m)) lv=ns.map (l7 (jl m lv))
 | [],_,_=>rfl
 | p :: lv,m,h=>by
   have h1:=mS hnd lv (J7 p.1 (IntKind.i64.wrap (l7 m p.1+p.2)) m) λq hq=>h q (by simp[hq]);obtain⟨j,hj⟩:=List.mem_iff_getElem?.1 (h p (by simp));have he:EA ns (ns.map (l7 m)) p=ns.map (l7 (J7 p.1 (IntKind.i64.wrap (l7 m p.1+p.2)) m)):=by
    simp only[EA,rM hnd hj,Int.toNat_natCast,List.getElem?_map,hj,Option.map_some,Option.getD_some];rw[rv hnd hj];refine List.map_congr_left λn _=>?_;rw[X2];by_cases e:n=p.1<;>simp[e]
   simp only[Ez,jl,List.foldl_cons] at h1 ⊢;rw[he];exact h1
theorem eD (f:Int->Int):∀ ns:List Int,((ns.zip (ns.map f)).filter λp=>decide (0<p.2)).map (λp=>(⟨p.1,p.2⟩:Itm))=(ns.filter λn=>decide (0<f n)).map λn=>⟨n,f n⟩
 | []=>rfl
 | n :: ns=>by
   simp only[List.map_cons,List.zip_cons_cons,List.filter_cons];by_cases h:0<f n
   ·simp only[h,decide_true,if_true,List.map_cons,eD f ns]
   ·simp only[h,decide_false,Bool.false_eq_true,if_false,eD f ns]
theorem oW {l:List Issue} {lets:List Int} {d:Int} (h0:l9 l=0) (hlet:r8 l lets=true) (hd:d∈nums l):kc l lets d=I4 (nums l) (lH l lets d):=by
 obtain⟨dep,hdep⟩:=pN h0;have hnd:(nums l).Nodup:=(E9 h0).1.imp λh=>Int.ne_of_lt h;have h1:=mS hnd (K8 (r5 l lets) 6 d 1) [] (kw h0 hlet hdep 6 d 1 hd);have h2:(nums l).map (l7 [])=List.replicate (nums l).length 0:=tF (λ_=>rfl) _;rw[h2] at h1;have h3:Gw l lets d=(nums l).map (l7 (lH l lets d)):=h1;rw[kc,h3,eD];rfl
theorem kq:∀ (ps:List Itm) (m:List (Int×Int)) (d:Int),(ps.map (·.drawing)).Nodup->l7 (ps.foldl (λm x=>J7 x.drawing x.count m) m) d=if d∈ps.map (·.drawing) then di ps d else l7 m d
 | [],m,d,_=>by simp
 | y :: ps,m,d,h=>by
   rw[List.map_cons,List.nodup_cons] at h;rw[List.foldl_cons,kq ps _ d h.2,X2,di];by_cases e:d=y.drawing
   ·subst e;rw[if_neg h.1,if_pos rfl,if_pos (by simp),if_pos rfl]
   ·rw[if_neg e,if_neg (Ne.symm e)];by_cases hm:d∈ps.map (·.drawing)
    ·rw[if_pos hm,if_pos (by simp only[List.map_cons,List.mem_cons];exact .inr hm)]
    ·rw[if_neg hm,if_neg (by simp only[List.map_cons,List.mem_cons];exact λh=>h.elim e hm)]
theorem dh:∀ (ps:List Itm) (d:Int),d∉ps.map (·.drawing)->di ps d=0
 | [],_,_=>rfl
 | y :: ps,d,h=>by
   rw[List.map_cons,List.mem_cons,not_or] at h;rw[di,if_neg (Ne.symm h.1)];exact dh ps d h.2
def nZ (ls:List Link) (d:Int):Nat:=(ls.filter λy=>decide (y.drawing=d)).length
theorem dP (y:Link) (r:List Link) (d:Int):nZ (y :: r) d=(if y.drawing=d then 1 else 0)+nZ r d:=by
 unfold nZ;by_cases h:y.drawing=d
 ·rw[List.filter_cons_of_pos (by simpa using h),if_pos h,List.length_cons];omega
 ·rw[List.filter_cons_of_neg (by simpa using h),if_neg h];omega
theorem pR {ls:List Link} {y:Link} (h:y∈ls):1<=nZ ls y.drawing:=
 List.length_pos_of_mem (List.mem_filter.2 ⟨h,by simp⟩)
theorem vN {ls:List Link} {d:Int} (h:∀ y∈ls,y.drawing≠d):nZ ls d=0:=by
 unfold nZ;rw[List.filter_eq_nil_iff.2 λy hy=>by simpa using h y hy];rfl
def tO (B:List (Int×Issue)) (y:Link):Bool:=decide (0<=y.dim)&&decide (y.dim<=((H2 B y.drawing).dims.length:Int)-1)
theorem jI (D:List (Int×Int)) (B:List (Int×Issue)):∀ (r:List Link) (U:List (Int×Int)),U9 D B U r=true↔∀ y∈r,tO B y=true/\l7 U y.drawing+nZ r y.drawing<=l7 D y.drawing
 | [],U=>by simp[U9]
 | y :: r,U=>by
   have ih:=jI D B r (J7 y.drawing (l7 U y.drawing+1) U);have hu:U9 D B U (y :: r)=(decide (l7 U y.drawing+1<=l7 D y.drawing)&&tO B y&&U9 D B (J7 y.drawing (l7 U y.drawing+1) U) r):=rfl;rw[hu,Bool.and_eq_true,Bool.and_eq_true,decide_eq_true_eq,ih];constructor
   ·rintro⟨⟨h1,h2⟩,h3⟩ z hz;have key:∀ z∈r,tO B z=true/\l7 U z.drawing+nZ (y :: r) z.drawing<=l7 D z.drawing:=λz hz=>by
     obtain⟨a,b⟩:=h3 z hz;rw[X2] at b;rw[dP];refine⟨a,?_⟩;by_cases e:z.drawing=y.drawing
     ·rw[if_pos e] at b;rw[if_pos e.symm];rw[e] at b ⊢;omega
     ·rw[if_neg e] at b;rw[if_neg (Ne.symm e)];omega
    rcases List.mem_cons.1 hz with rfl|hz
    ·refine⟨h2,?_⟩;by_cases hex:∃ w∈r,w.drawing=z.drawing
     ·obtain⟨w,hw,e⟩:=hex;have:=(key w hw).2;rw[e] at this;exact this
     ·rw[dP,if_pos rfl,vN λw hw e=>hex ⟨w,hw,e⟩];omega
    ·exact key z hz
   ·intro h;obtain⟨a,b⟩:=h y (by simp);rw[dP,if_pos rfl] at b;refine⟨⟨by omega,a⟩,λz hz=>?_⟩;obtain⟨a',b'⟩:=h z (by simp[hz]);refine⟨a',?_⟩;rw[dP] at b';rw[X2];by_cases e:z.drawing=y.drawing
    ·rw[if_pos e.symm,e] at b';rw[if_pos e,e];omega
    ·rw[if_neg (Ne.symm e)] at b';rw[if_neg e];omega
def nA (c:Chains) (ls:List Link) (y:Link):Bool:=decide ((nZ ls y.drawing:Int)<=di (kc c.reg c.lets c.of) y.drawing)&&(decide (0<=y.dim)&&decide (y.dim<=((r5 c.reg c.lets y.drawing).dims.length:Int)-1))
def bw (c:Chains) (x:ChLoop):Bool:=sA x&&pV x&&x.links.all (nA c x.links)
theorem kf {c:Chains} {d:Int} (h0:l9 c.reg=0) (hlet:r8 c.reg c.lets=true) (hof:c.of∈nums c.reg) (hc:1<=di (kc c.reg c.lets c.of) d):d∈nums c.reg:=by
 refine Classical.byContradiction λhn=>?_;rw[oW h0 hlet hof,dh] at hc
 ·omega
 ·intro hm;simp only[I4,List.map_map] at hm;obtain⟨n,h1,h2⟩:=List.mem_map.1 hm;simp only[Function.comp] at h2;exact hn (h2 ▸ (List.mem_filter.1 h1).1)
theorem uP {c:Chains} (h0:l9 c.reg=0) (hlet:r8 c.reg c.lets=true) (hof:c.of∈nums c.reg) (x:ChLoop):K7 (P3 c) (ar c.reg c.lets) x=bw c x:=by
 have hnd:(nums c.reg).Nodup:=(E9 h0).1.imp λh=>Int.ne_of_lt h;have hT:A6 c.reg c.lets c.of=0:=by simp[A6,h0,hlet,hof]
 have hD:∀ d,l7 (P3 c) d=di (kc c.reg c.lets c.of) d:=λd=>by
  rw[oW h0 hlet hof];have hE:aZ c.reg c.lets c.of=I4 (nums c.reg) (lH c.reg c.lets c.of):=by rw[aZ,if_pos hT]
  have hn:((I4 (nums c.reg) (lH c.reg c.lets c.of)).map (·.drawing)).Nodup:=by
   simp only[I4,List.map_map];have:(λx:Itm=>x.drawing) ∘ (λn=>(⟨n,l7 (lH c.reg c.lets c.of) n⟩:Itm))=id:=rfl;rw[this,List.map_id];exact hnd.filter _
  rw[P3,hE,kq _ _ _ hn];split
  ·rfl
  ·rw[dh _ _ ‹_›];rfl
 unfold K7 bw
 congr 1
 rw[Bool.eq_iff_iff,jI,List.all_eq_true];refine forall_congr' λy=>forall_congr' λhy=>?_;simp only[nA,tO,Bool.and_eq_true,decide_eq_true_eq,hD];have hp:=pR hy;have hz:l7 [] y.drawing=0:=rfl;constructor
 ·rintro⟨h1,h2⟩;have hm:=kf (d:=y.drawing) h0 hlet hof (by omega);rw[ar,R0,if_pos hm] at h1;exact⟨by omega,h1⟩
 ·rintro⟨h1,h2⟩;have hm:=kf (d:=y.drawing) h0 hlet hof (by omega);rw[ar,R0,if_pos hm];exact⟨h2,by omega⟩
theorem oa {c:Chains} (h0:l9 c.reg=0):v7 c=(if r8 c.reg c.lets=true/\c.of∈nums c.reg/\(1<=c.loops.length/\c.loops.length<=6)/\c.loops.all (bw c)=true then 0 else 60):=by
 unfold v7;rw[if_neg (by simp[h0])];by_cases hlet:r8 c.reg c.lets=true
 ·by_cases hof:c.of∈nums c.reg
  ·have hT:A6 c.reg c.lets c.of=0:=by simp[A6,h0,hlet,hof]
   have hL:c.loops.all (K7 (P3 c) (ar c.reg c.lets))=c.loops.all (bw c):=by
    congr 1;exact funext λx=>uP h0 hlet hof x
   rw[hL];by_cases hn:1<=c.loops.length/\c.loops.length<=6
   ·rw[if_neg (by simp[hT];omega)];by_cases ha:c.loops.all (bw c)=true
    ·rw[if_pos ha,if_pos ⟨hlet,hof,hn,ha⟩]
    ·rw[if_neg ha,if_neg λh=>ha h.2.2.2]
   ·rw[if_pos (.inr hn),if_neg λh=>hn h.2.2.1]
  ·have hT:A6 c.reg c.lets c.of≠0:=by simp[A6,h0,hlet,hof]
   rw[if_pos (.inl hT),if_neg λh=>hof h.2.1]
 ·have hT:A6 c.reg c.lets c.of≠0:=by
   have:r8 c.reg c.lets=false:=by simpa using hlet
   simp[A6,h0,this]
  rw[if_pos (.inl hT),if_neg λh=>hlet h.1]
theorem Io {c:Chains} (h:v7 c=0):OkC c:=by
 have h0:l9 c.reg=0:=Classical.byContradiction λh'=>by simp[v7,h'] at h
 rw[oa h0] at h;split at h
 ·rename_i hc;obtain⟨a,b,d,e⟩:=hc;rw[List.all_eq_true] at e;refine⟨h0,a,b,d,λx hx=>?_,λx hx y hy=>?_⟩
  ·have:=e x hx;simp only[bw,sA,Bool.and_eq_true,decide_eq_true_eq] at this;exact⟨this.1.1.2,this.1.2⟩
  ·have:=e x hx;simp only[bw,Bool.and_eq_true,List.all_eq_true] at this;have:=this.2 y hy;simp only[nA,Bool.and_eq_true,decide_eq_true_eq] at this;have hp:=pR hy;exact⟨kf h0 a b (by omega),this.2.1,by omega⟩
 ·cases h
variable {G:IK}
end Go.Proofs
namespace Go.Ab
open Go
structure Spot where
 drawing:Int
 dim:Int
 deriving DecidableEq
def jy (x:Spot):List IC:=[rI x.drawing,rI x.dim]
def CV (l:List Spot):DV:=.one (.im (.sl (l.map jy)))
attribute [simp] jy CV
def sK (a b:Spot):Bool:=decide (a.drawing<b.drawing)||(decide (a.drawing=b.drawing)&&decide (a.dim<b.dim))
def yo (x:Spot):List Spot->Nat
 | []=>0
 | y :: r=>if sK y x then yo x r+1 else 0
def Hy (x:Spot) (l:List Spot):List Spot:=l.take (yo x l)++x :: l.drop (yo x l)
def HJ (f:Spot->Bool) (out:List Spot) (x:Spot):List Spot:=if f x=false\/x∈out then out else Hy x out
def HI (f:Spot->Bool) (l:List Spot):List Spot:=l.foldl (HJ f) []
def kS (x:Spot):List Value:=[.int .i64 x.drawing,.int .i64 x.dim]
def vB (l:List Spot):List (List Value×List DC):=l.map λx=>(kS x,[.im (rB true)])
def CH (l:List Spot):List (List Value×List IC):=l.map λx=>(kS x,[rB true])
@[simp] theorem Hv (k n:Nat) (objs:List DObj) (l:List Spot):C3 (λx:List Value×List DC=>(C3 (frz (k+1) n objs) x.2).map λl=>(x.1,l)) (vB l)=some (CH l):=by
 induction l with
 | nil=>rfl
 | cons p r ih =>
   have e:vB (p :: r)=(kS p,[.im (rB true)]) :: vB r:=rfl;rw[e];simp[C3,ih,CH]
@[simp] theorem FR (n:Nat) (objs:List DObj) (l:List Spot):((vB l).map λx=>(x.1,x.2.map (fz n objs)))=vB l:=by
 simp[vB,fz,DC.lt]
@[simp] theorem Gi (L:List Spot) (k:Nat) (h:k<(l6 (L.map jy)).length):(l6 (L.map jy))[k]=[DC.im (.raw (.int .i64 (L[k]'(by simpa[o7] using h)).drawing)),DC.im (.raw (.int .i64 (L[k]'(by simpa[o7] using h)).dim))]:=by
 simp[l6]
end Go.Ab
namespace Go.Proofs
open Go Go.Ab
def xe (y:Link):Spot:=⟨y.drawing,y.dim⟩
def FL (d:Dim):Int:=min (max d.nominal d.lower) d.upper
def CT (d:Dim) (g:Int):Dim:=⟨d.nominal,max d.lower (FL d-g),min d.upper (FL d+g)⟩
def HD (c:Chains) (so:Spot->Bool) (g:Int) (y:Link):Dim:=if so (xe y) then CT (ce c y) g else ce c y
def HN (c:Chains) (so:Spot->Bool) (g:Int) (x:ChLoop):List Dim:=x.links.map (HD c so g)
def Iq (c:Chains) (so:Spot->Bool) (g:Int) (x:ChLoop):Int:=gg x.links (HN c so g x) false
def Iu (c:Chains) (so:Spot->Bool) (g:Int) (x:ChLoop):Int:=gg x.links (HN c so g x) true
def BT (c:Chains) (so:Spot->Bool) (g:Int) (x:ChLoop):Bool:=decide (x.lo<=Iq c so g x)&&decide (Iu c so g x<=x.hi)
def HH (c:Chains) (so:Spot->Bool) (g:Int):Bool:=c.loops.all (BT c so g)
def jo (c:Chains):List Spot:=c.loops.flatMap λx=>x.links.map xe
def DE (c:Chains) (x:Spot):Bool:=decide ((r5 c.reg c.lets x.drawing).kind≠3)
def qk (c:Chains):List Spot:=HI (DE c) (jo c)
def gs (p:Int->Bool):Nat->Int->Int->Int
 | 0,lo,_=>lo
 | k+1,lo,hi=>if lo<hi then (if p (hi-(hi-lo) / 2) then gs p k (hi-(hi-lo) / 2) hi else gs p k lo (hi-(hi-lo) / 2-1)) else lo
def FM (l:List Spot) (set:Nat):Nat->List Spot
 | 0=>[]
 | k+1=>FM l set k++(match l[k]? with
   | some x=>if set.testBit k then [x] else []
   | none=>[])
def lexB:List Spot->List Spot->Bool
 | a :: l,b :: m=>if a=b then lexB l m else sK a b
 | _,_=>false
def xf (a b:List Spot):Bool:=decide (a.length<b.length)||(decide (a.length=b.length)&&lexB a b)
def Cf (best:Option (List Spot)) (x:List Spot):Bool:=match best with
 | none=>true
 | some b=>xf x b
def Fc (good:List Spot->Bool) (best:Option (List Spot)) (x:List Spot):Option (List Spot):=if Cf best x&&good x then some x else best
def CZ (all:List Spot) (k:Nat):List (List Spot):=(List.range k).map λs=>FM all s all.length
def It (l:List Spot):Spot->Bool:=λx=>decide (x∈l)
def Gq (c:Chains) (x:List Spot):Bool:=HH c (It x) 0
def yO (c:Chains) (b0:Option (List Spot)) (k:Nat):Option (List Spot):=(CZ (qk c) k).foldl (Fc (Gq c)) b0
def HC (c:Chains):Option (List Spot):=yO c none (2 ^ (qk c).length)
open Go Go.Ab Tryz
variable {G:IK}
def SoF (G:IK) (c:Chains) (fv:IC) (so:Spot->Bool):Prop:=
 (∃ (f:FuncId) (caps:List IC),fv=.fn (.func f) caps/\C1 prog f/\∀ x∈jo c,∀ objs,DCall prog G f (D3 x.drawing x.dim :: caps.map λc=>.one (.im c)) objs (λd o=>d=bv (so x)/\o=objs)) \/
 (∃ (f:FuncId) (l:List IC),fv=.bf (.func f) l/\C1 prog f/\∀ x∈jo c,∀ objs,DCall prog G f ((l.map λc=>DV.one (.im c))++[D3 x.drawing x.dim]) objs (λd o=>d=bv (so x)/\o=objs))
def jc:List Int->Int
 | []=>0
 | x :: r=>if x=0 then jc r else x
@[simp] abbrev LF:List Nat:=[0,2,3,5,6,7,8,9,14]
theorem CB (l:List Int) (hl:l.length<1000000):zP prog G 59 [A4 l] (iv (jc l)):=by
 refine zf func59 ntmps59 ?_;try simp only[A4]
 have hs:=trivial;repeat' first|(with_reducible first|refine zz ?_|refine zE LF ?_)|simp -dsimp[hs]
 refine i7 (ι:={ p:Nat // p<=l.length/\jc l=jc (l.drop p) }) (λp=>⟨18,[(3,iv 0),(6,.one (.im (.sl (l.map encI)))),(7,iv (l.length:Int)),(8,iv (p.1:Int))],[]⟩) (λp=>l.length-p.1) ⟨0,by simp⟩ (zv [3,6,7,8]) ?_;rintro⟨k,hk,hu⟩;simp only[iv];by_cases hlt:k<l.length
 ·have hw:=zk k;rw[List.drop_eq_getElem_cons hlt,jc] at hu;generalize hx:l[k]=x at *;have hs:=za hx (za hw hlt);repeat' first|(with_reducible first|refine zz ?_|refine zr ?_|refine zE LF ?_)|simp -dsimp[hs]|refine j4 ?_ ?_<;>intro h<;>try exact h.elim
  ·rw[hu,if_neg (by assumption)]
  ·rw[if_pos (by assumption)] at hu;exact zn ⟨k+1,by omega,hu⟩ (zv [3,6,7,8])
 ·rw[List.drop_eq_nil_of_le (by omega)] at hu;have hs:=hlt;repeat' first|(with_reducible first|refine zz ?_|refine zr ?_|refine zE LF ?_)|simp -dsimp[hs]|refine j4 ?_ ?_<;>intro h<;>try exact h.elim
  rw[hu];rfl
attribute [simp] p5 cr s6 w0 nilV H9 ZK
theorem SoF.congr {c:Chains} {fv:IC} {so so':Spot->Bool} (h:SoF G c fv so) (he:∀ x∈jo c,so x=so' x):SoF G c fv so':=by
 rcases h with⟨f,caps,h1,h2,h3⟩|⟨f,caps,h1,h2,h3⟩
 ·exact .inl ⟨f,caps,h1,h2,λx hx objs=>(h3 x hx objs).mono λd o ⟨a,b⟩=>⟨by rw[a,he x hx],b⟩⟩
 ·exact .inr ⟨f,caps,h1,h2,λx hx objs=>(h3 x hx objs).mono λd o ⟨a,b⟩=>⟨by rw[a,he x hx],b⟩⟩
attribute [simp] p5 cr s6 w0 nilV H9 ZK
attribute [simp] p5 cr K4 ic s6 w0 nilV H9 ZK
@[simp] theorem EO (L:List ChLoop) (k:Nat) (h:k<(l6 (L.map F2)).length):(l6 (L.map F2))[k]=[DC.im (.sl ((L[k]'(by simpa[o7] using h)).links.map D6)),DC.im (.raw (.int .i64 (L[k]'(by simpa[o7] using h)).lo)),DC.im (.raw (.int .i64 (L[k]'(by simpa[o7] using h)).hi))]:=by
 simp[l6,F2,rI]
@[simp] theorem EN (L:List Issue) (k:Nat) (h:k<(l6 (L.map h9)).length):(l6 (L.map h9))[k]=(h9 (L[k]'(by simpa[o7] using h))).map .im:=by
 simp[l6]
def bC (l:List Issue) (d:Int):DV:=if l9 l=0/\d∈nums l then .one (.im (s9 l (nums l))) else .one (.im (.raw (.pointer none)))
theorem uU (l:List Issue) (d:Int):ImV (bC l d):=by unfold bC;split<;>simp[s9]
attribute [simp] uU
def X9 (l:List Issue) (d:Int):Int:=if l9 l≠0 then l9 l else if d∈nums l then 0 else 6
@[simp] abbrev Kv:List Nat:=[0,1,2,4,5,6,7,14,19]
theorem Bp (l:List Issue) (d:Int) (hG:o4 G) (hs:Z4 l):zP prog G 176 [Z7 l,iv d] (.tup [bC l d,iv (X9 l d)]):=by
 refine zf func176 ntmps176 ?_;try simp only[Z7,iv]
 have c1:=fJ l hG hs;by_cases h0:l9 l=0
 ·simp only[be,h0,if_true] at c1;have c2:=yw (G:=G) l (nums l) d ((E9 h0).1.imp λh=>Int.le_of_lt h) (by have:=hs.1;have:=B8 l l.length;unfold nums;omega);by_cases hm:d∈nums l
  ·simp only[hm,decide_true,s9] at c1 c2;have hs:=trivial;repeat' first|(with_reducible first|refine zz ?_|refine zr ?_|refine zE Kv ?_)|simp -dsimp[hs]|refine zp c1 ?_|refine zp c2 ?_|refine j4 ?_ ?_<;>intro h<;>try exact h.elim
   all_goals try clear hs
   all_goals simp[bC,X9,h0,hm,s9]
  ·simp only[hm,decide_false,s9] at c1 c2;have hs:=trivial;repeat' first|(with_reducible first|refine zz ?_|refine zr ?_|refine zE Kv ?_)|simp -dsimp[hs]|refine zp c1 ?_|refine zp c2 ?_|refine j4 ?_ ?_<;>intro h<;>try exact h.elim
   all_goals try clear hs
   all_goals simp[bC,X9,h0,hm,s9]
 ·simp only[be,h0,if_false] at c1;have hs:=h0;repeat' first|(with_reducible first|refine zz ?_|refine zr ?_|refine zE Kv ?_)|simp -dsimp[hs]|refine zp c1 ?_|refine j4 ?_ ?_<;>intro h<;>try exact h.elim
  all_goals try clear hs
  all_goals simp[bC,X9,h0]
def dX (l:List Issue) (d:Int):Nat:=(l.filter λx=>decide (x.drawing=d)).length
theorem AI {l:List Issue} {d:Int} (hs:(l.map (·.drawing)).Pairwise (·<=·)):dX l d=dX (l.drop (lb (l.map (·.drawing)) d)) d:=by
 conv=>lhs;rw[<- List.take_append_drop (lb (l.map (·.drawing)) d) l]
 simp only[dX,List.filter_append];rw[List.filter_eq_nil_iff.2 λx hx=>?_]
 ·rfl
 ·have:=qS hs x hx;simp;omega
@[simp] abbrev Kg:List Nat:=[0,1,2,4,5,7,8,24,25,26,27,39]
theorem Bo (l:List Issue) (ds:List Int) (d:Int) (hs:(l.map (·.drawing)).Pairwise (·<=·)) (hl:l.length<1000000):zP prog G 177 [.one (.im (s9 l ds)),iv d] (iv (dX l d:Int)):=by
 refine zf func177 ntmps177 ?_;try simp only[iv]
 simp only[s9];have c1:=ky (G:=G) (s9 l ds) d;simp only[s9] at c1;have hs:=trivial;repeat' first|(with_reducible first|refine zz ?_|refine zE [0,1,4,5,8] ?_)|simp -dsimp[hs]|refine zp c1 ?_
 all_goals try clear hs
 refine P9 (f:=249) (by simp;exact rfl) (by rfl) call249 ?_;generalize hR:LoopD.mk _ _ _ _ _ _ _=R;have hR1:R.st=.ready:=by rw[<- hR]
 have hR2:R.pend=none:=by rw[<- hR]
 have hR3:R.at .ready none=R:=by rw[<- hR];rfl
 have hR4:=(congrArg LoopD.nt hR).symm;have hR5:=(congrArg LoopD.tm hR).symm;have hR6:=(congrArg LoopD.ps hR).symm;have hR7:=(congrArg LoopD.asg hR).symm;have hR8:=(congrArg LoopD.body hR).symm;dsimp only at hR4 hR5 hR6 hR7 hR8;clear hR;refine g9 func249 rfl ntmps249 (by simp) rfl ?_;have hR9:∀ objs:List DObj,(R.tm.map λx=>(x.1,eU 2 objs x.2))=R.tm:=by intro objs;rw[hR5];simp
 have hlb:=pn (l.map (·.drawing)) d;rw[List.length_map] at hlb;have c2:=fe (G:=G) l d hs hl;have hs:=za hR1 (za hR2 (za hR3 hlb));repeat' first|with_reducible refine zz ?_|simp -dsimp[hs]|refine zq c2 ?_|refine zM 0 41 12 [0,1,2,4,7,24,25,26,27,39] ?_|with_reducible refine zE Kg ?_
 all_goals try clear hs
 rw[<- List.map_drop];have hge:=qT (d:=d) hs;have hss:((l.drop (lb (l.map (·.drawing)) d)).map (·.drawing)).Pairwise (·<=·):=by rw[List.map_drop];exact hs.drop
 have hsl:l.length-lb (l.map (·.drawing)) d=(l.drop (lb (l.map (·.drawing)) d)).length:=by simp
 rw[hsl];have hsl2:(l.drop (lb (l.map (·.drawing)) d)).length<1000000:=by simp;omega
 rw[AI hs];generalize l.drop (lb (l.map (·.drawing)) d)=s at hge hss hsl2 ⊢;refine i7 (ι:={ k:Nat // k<=s.length/\k+dX (s.drop k) d=dX s d }) (λp=>⟨41,[(0,.one (.yld 1)),(2,.one (.im (.ip [rI d]))),(24,.one (.im (.sl (s.map h9)))),(25,iv (s.length:Int)),(26,iv (p.1:Int))],[.row [.im (rI (p.1:Int))],.loop R]⟩) (λp=>s.length-p.1) ⟨0,by simp⟩ (zv [0,2,24,25,26]) ?_;rintro⟨k,hk,hno⟩;simp only[iv];by_cases hlt:k<s.length
 ·have hx:s[k]?=some s[k]:=by simp[hlt]
  have hw:=zk k;have hcons:s.drop k=s[k] :: s.drop (k+1):=List.drop_eq_getElem_cons hlt;by_cases hd:s[k].drawing=d
  ·have hno':k+1+dX (s.drop (k+1)) d=dX s d:=by
    rw[<- hno,dX,dX,hcons,List.filter_cons_of_pos (by simp[hd]),List.length_cons];omega
   have hs:=za hR1 (za hR2 (za hR3 (za hx (za hw (za hd hlt)))));repeat' first|(with_reducible first|refine zz ?_|refine zE Kg ?_)|simp -dsimp[hs]|with_reducible refine At.yield_end ?_;simp -dsimp[hs]|refine am ?_ ?_<;>simp -dsimp[hs]|refine N8 ?_;simp -dsimp[P8,hR4,hR5,hR6,hR7,hR8,hs]|refine j4 ?_ ?_<;>intro h<;>try exact h.elim
   all_goals try clear hs
   all_goals exact zn ⟨k+1,by omega,hno'⟩ (zw [0,2,24,25,26] 2 (by simp[hR9]))
  ·have hnone:dX (s.drop k) d=0:=by
    simp only[dX,List.length_eq_zero_iff,List.filter_eq_nil_iff];intro x hxm;obtain⟨i,hi⟩:=List.mem_iff_getElem?.1 hxm;rw[List.getElem?_drop] at hi;have h1:s[k].drawing<=x.drawing:=by
     rcases Nat.eq_zero_or_pos i with rfl|hp
     ·rw[Nat.add_zero,hx] at hi;cases hi;exact Int.le_refl _
     ·have hlt2:=(List.getElem?_eq_some_iff.1 hi).1;have:=(List.pairwise_iff_getElem.1 hss) k (k+i) (by simpa using hlt) (by simpa using hlt2) (by omega);have h6:=(List.getElem?_eq_some_iff.1 hi).2;simp at this;rw[h6] at this;exact this
    have h2:=hge s[k] (List.getElem_mem hlt);simp;omega
   have hN:dX s d=k:=by omega
   have hs:=za hR1 (za hR2 (za hR3 (za hx (za hw (za hd hlt)))));repeat' first|(with_reducible first|refine zz ?_|refine zr ?_ (by simp -dsimp[B1,hs];exact rfl)|refine zE Kg ?_)|simp -dsimp[B1,hs]|with_reducible show B1 _ _ _ _ _ _ _ _;simp -dsimp[B1,hs]|refine j4 ?_ ?_<;>intro h<;>try exact h.elim
   all_goals try clear hs
   all_goals simp[hN]
 ·have hN:dX s d=k:=by rw[<- hno,List.drop_eq_nil_of_le (by omega)];simp[dX]
  have hs:=za hR1 (za hR2 (za hR3 hlt));repeat' first|(with_reducible first|refine zz ?_|refine zr ?_ (by simp -dsimp[B1,hs];exact rfl)|refine ze ?_ (by simp -dsimp[B1,hs];exact rfl)|refine zE Kg ?_)|simp -dsimp[B1,hs]|with_reducible show B1 _ _ _ _ _ _ _ _;simp -dsimp[B1,hs]|refine j4 ?_ ?_<;>intro h<;>try exact h.elim
  all_goals try clear hs
  all_goals simp[hN]
def yd (l:List Issue) (d:Int):Int:=if X9 l d=0 then (dX l d:Int) else 0
theorem AT (l:List Issue) (d:Int) (hG:o4 G) (hs:Z4 l):zP prog G 119 [Z7 l,iv d] (.tup [iv (yd l d),iv (X9 l d)]):=by
 refine zf func119 ntmps119 ?_;try simp only[Z7,iv]
 have c1:=Bp (G:=G) l d hG hs;by_cases h0:X9 l d=0
 ·have hk:l9 l=0/\d∈nums l:=by
   unfold X9 at h0;by_cases h1:l9 l=0
   ·refine⟨h1,?_⟩;rw[if_neg (by simp[h1])] at h0;by_cases h2:d∈nums l
    ·exact h2
    ·rw[if_neg h2] at h0;cases h0
   ·rw[if_pos h1] at h0;exact absurd h0 h1
  have c2:=Bo (G:=G) l (nums l) d (bO hk.1) (by have:=hs.1;omega);rw[bC,if_pos hk,h0] at c1;rw[yd,if_pos h0,h0];simp only[s9] at c1 c2;have hs:=trivial;repeat' first|(with_reducible first|refine zz ?_|refine zr ?_|refine zE LI ?_)|simp -dsimp[hs]|refine zp c1 ?_|refine zp c2 ?_|refine j4 ?_ ?_<;>intro h<;>try exact h.elim
  all_goals try clear hs
 ·rw[yd,if_neg h0];generalize hX:bC l d=X at c1;have hXo:∃ x,X=.one (.im x):=by subst hX;unfold bC;split<;>exact⟨_,rfl⟩
  obtain⟨x,rfl⟩:=hXo;generalize X9 l d=e at *;have hs:=h0;repeat' first|(with_reducible first|refine zz ?_|refine zr ?_|refine zE LI ?_)|simp -dsimp[hs]|refine zp c1 ?_|refine j4 ?_ ?_<;>intro h<;>try exact h.elim
  all_goals try clear hs
end Go.Proofs
namespace Go.Ab
open Go
structure Piece where
 holder:Int
 day:Int
 lo:Int
 hi:Int
 deriving DecidableEq
structure Case where
 p:Prints
 machine:Int
 of:Int
 loop:ChLoop
 pieces:List Piece
 deriving DecidableEq
def u7 (x:Piece):List IC:=[rI x.holder,rI x.day,rI x.lo,rI x.hi]
def i9 (c:Case):List IC:=[.sl (c.p.n.reg.map h9),.sl (c.p.n.notes.map j8),.sl (c.p.holders.map n7),.sl (c.p.prints.map p6),rI c.machine,rI c.of,.sl (c.loop.links.map D6),rI c.loop.lo,rI c.loop.hi,.sl (c.pieces.map u7)]
def Di (x:Piece):DV:=.agg ((u7 x).map .im)
def n5 (c:Case):DV:=.agg ((i9 c).map .im)
attribute [simp] u7 i9 Di n5
end Go.Ab
namespace Go.Proofs
open Go Go.Ab
variable {G:IK}
theorem vg (x lo hi:Int):DCall Tryz.prog G 123 (iv x :: [DC.ptr 0 0,DC.ptr 1 0].map .one) [.row [.im (rI lo)],.row [.im (rI hi)]] (λd o=>d=bv (decide (x<lo)||decide (hi<x))/\o=[.row [.im (rI lo)],.row [.im (rI hi)]]):=by
 refine g9 Tryz.func123 rfl Tryz.ntmps123 (by simp) rfl ?_;simp only[rI];have hs:=trivial;repeat' first|(with_reducible first|refine zz ?_|refine zr ?_|refine zE [0,1,2,4] ?_)|simp -dsimp[hs]|with_reducible refine j7 ?_ ?_<;>intro h<;>have h0:=h<;>(try simp only[i8] at h)<;>have h2:=h<;>(try simp at h2)<;>replace hs:=za h0 (za h (za h2 hs))|with_reducible refine And.intro ?_ ?_
 all_goals try clear hs
 all_goals simp[*]
theorem K1 (lo hi:Int) (l:List Int) (hl:l.length<1000000):zP Tryz.prog G 76 [iv lo,iv hi,A4 l] (bv (l.all λx=>decide (lo<=x)&&decide (x<=hi))):=by
 refine zf Tryz.func76 Tryz.ntmps76 ?_;try simp only[iv,iv,A4]
 have hc:=B5 (G:=G) l (λx=>decide (x<lo)||decide (hi<x)) 123 [.ptr 0 0,.ptr 1 0] [.row [.im (rI lo)],.row [.im (rI hi)]] (by simp) (λx _=>vg x lo hi) hl;simp only[rI] at hc;repeat' first|(with_reducible first|refine zz ?_|refine zx ?_|refine zE [0,1,2,3,4,6] ?_)|simp -dsimp|refine CallE.here hc ?_
 rw[Bool.eq_iff_iff];simp;exact exists_congr λx=>and_congr_right λ_=>by omega
def W8 (lo hi a b:Int):Bool:=decide (a<=lo/\lo<=b/\a<=hi/\hi<=b/\lo<=hi)
theorem aU (lo hi a b:Int):zP Tryz.prog G 77 [D3 lo hi,iv a,iv b] (bv (W8 lo hi a b)):=by
 refine zf Tryz.func77 Tryz.ntmps77 ?_;try simp only[D3,iv,iv]
 have c1:=K1 (G:=G) a b [lo,hi] (by simp);generalize hb:([lo,hi].all λy=>decide (a<=y)&&decide (y<=b))=q at c1;cases q
 ·repeat' first|(with_reducible first|refine zz ?_|refine zx ?_|refine zE [0,1,2,3,6] ?_)|simp -dsimp|refine zt c1 ?_ ?_ ?_;(focus simp;done);focus (simp;done)
  all_goals simp at hb
  all_goals simp[W8]
  all_goals omega
 ·simp at hb;repeat' first|(with_reducible first|refine zz ?_|refine zx ?_|refine zE [0,1,2,3,6] ?_)|simp -dsimp|refine zt c1 ?_ ?_ ?_;(focus simp;done);focus (simp;done)
  all_goals simp[W8]
  all_goals first|omega|(rw[Bool.eq_iff_iff];simp;omega)
end Go.Proofs
namespace Go.Proofs
open Go Go.Ab
variable {G:IK}
def V3 (c:Case) (l:Link) (x:Piece):Bool:=(match B6 c.p.n.reg l.drawing 1 with|some y=>!decide (y.kind=1)|none=>false)&&(decide (0<=l.dim/\l.dim<=3)&&((c.p.holders.any λy=>decide (y.id=x.holder))&&(decide (0<=x.day/\x.day<=14610)&&W8 x.lo x.hi 0 1000000000)))
def eA (c:Case):Bool:=decide (c.of∈nums c.p.n.reg)&&(decide (1<=c.machine/\c.machine<=999)&&(decide (1<=c.loop.links.length/\c.loop.links.length<=8)&&(decide (c.pieces.length=c.loop.links.length)&&(W8 c.loop.lo c.loop.hi (-8000000000) 8000000000&&(c.loop.links.zip c.pieces).all λq=>V3 c q.1 q.2))))
noncomputable def q9 (c:Case):Int:=if u9 c.p≠0 then u9 c.p else if eA c=true then 0 else 100
structure KC (c:Case):Prop where
 p:KP c.p
 l:c.loop.links.length<=16
 q:c.pieces.length<=16
end Go.Proofs
