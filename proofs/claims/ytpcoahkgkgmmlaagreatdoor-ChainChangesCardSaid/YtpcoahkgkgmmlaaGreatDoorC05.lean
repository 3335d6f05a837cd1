/- Part 24 of the proofs. -/
import Derived.Test.YtpcoahkgkgmmlaaGreatDoorC03
import Derived.Test.YtpcoahkgkgmmlaaGreatDoorC04
set_option linter.all false
set_option linter.deprecated false
set_option maxHeartbeats 100000000
namespace Go.Proofs
open Go Go.Ab Tryz
variable {G:Es}
attribute [simp] r5 aT D9 J6 o9 x7 nilV H2 ZK
theorem mc {c:Chains} (hOk:OkC c) (hsm:w9 c) {n:Int} {r:List Int} {R:List Issue} {L:List Int} (h:RInv c (n :: r) R L) (hn:n∈nums c.reg) (hr:n∉r) {ds:List Dim} (hds:ds.length≤8) :
 me { reg:=x5 R,lets:=L,of:=c.of,loops:=c.loops } n ds={ reg:=x5 (R++[K7 c.reg (j8 c.reg c.lets n) n ds]),lets:=L.set (idx (nums c.reg) n).toNat ((B6 c.reg n:Int)+1),of:=c.of,loops:=c.loops }∧RInv c r (R++[K7 c.reg (j8 c.reg c.lets n) n ds]) (L.set (idx (nums c.reg) n).toNat ((B6 c.reg n:Int)+1)):=by
 obtain⟨h1,h2⟩:=tc hOk hsm h hn hr hds
 refine⟨?_,h2⟩
 have hl:=gQ hOk h (n:=n) List.mem_cons_self
 have ht:=gP hOk h hn List.mem_cons_self
 have hx:md { reg:=x5 R,lets:=L,of:=c.of,loops:=c.loops } n ds=K7 c.reg (j8 c.reg c.lets n) n ds:=by
  simp only[md,hl,ht];rfl
 simp only[me,hx,hl,dH hOk h,qI h1]
theorem dK {c:Chains} (hsm:w9 c) {r:List Int} {R:List Issue} {L:List Int} (h:RInv c r R L):(x5 R).length<1000∧(∀ x∈x5 R,x.items.length≤16∧x.dims.length≤8)∧L.length≤80:=by
 have h1:=h.cnt
 have h2:=p8 c.reg c.reg.length
 have h3:=hsm.1.1
 have h4:(nums c.reg).length≤c.reg.length:=h2
 refine⟨by rw[R8];omega,fun x hx=>h.siz x ((E0 R).mem_iff.1 hx),by rw[h.len];exact hsm.2.1⟩
theorem lO {c:Chains} (hsm:w9 c):ay c:=⟨⟨hsm.1.1,fun x hx=>(hsm.1.2 x hx).2.2⟩,hsm.2.1,hsm.2.2.1,hsm.2.2.2⟩
set_option maxRecDepth 20000 in
theorem qr (c:Chains) (l:List Spot) (g:Int) (hsm:w9 c) (hl:l.length<1000000):zP prog G 23 [M9 c,A4 l,iv g] (.tup [M9 (K2 c l g),iv (J7 c l g)]):=by
 refine zf func23 ntmps23 ?_
 try simp only[M9,iv]
 have c1:=ka (G:=G) c hsm
 simp only[A4]
 by_cases h00:p7 c=0
 ·have hOk:=vO h00
  have c2:=Ap (G:=G) c hOk hsm
  have c6:=dw (G:=G) g 0 1000000000
  have c7:=mR (G:=G) c (lO hsm)
  have c8:=L8 (G:=G) c.reg (by have:=hsm.1.1;omega)
  rw[h00] at c1
  simp only[A4] at c2
  have hSlen:(w8 c).length<1000000:=by have:=ci hOk hsm;omega
  generalize hS:w8 c=S at *
  have hE0:J7 c l g=if tB S none l=true∧0≤g∧g≤1000000000 then A0 c (lq l g) else 2:=by rw[J7,if_neg (by simp[h00]),hS]
  have hs:=trivial
  repeat' first|(with_reducible first|refine zz ?_|refine zE [0,1,2,3,6,7,8,9,10,11,12,13,14,15,16,20,28,54,58,68,87,95,109,116] ?_)|simp -dsimp[hs]|refine zp c1 ?_|refine zp c2 ?_|refine m5 ?_ ?_<;>intro h<;>try simp only[l8] at h
  all_goals try clear hs
  refine j7 (ι:={ k:Nat // k≤l.length∧tB S none l=tB S (aI l k) (l.drop k) }) (fun k=>⟨119,[(1,.one (.im (.sl (l.map m6)))),(2,iv g),(3,.one (.ptr 0 0)),(6,.one (.ptr 4 0)),(7,iv 0),(9,.one (.im (.sl (S.map m6)))),(10,iv (k.1:Int))],[.row ((p5 c).map .im),.vec 0 [] 0 true,.vec 0 [] 0 true,.vec 0 [] 0 true,.row [.vec 1 0 0 0,.vec 2 0 0 0,.im (rI 0),.vec 3 0 0 0]]⟩) (fun k=>l.length-k.1) ⟨0,by simp[aI]⟩ (zv [1,2,3,6,7,9,10]) ?_
  rintro⟨k,hk,hok⟩
  simp only[iv,rI]
  by_cases hlt:k<l.length
  ·obtain⟨x,hx⟩:∃ x,l[k]?=some x:=⟨l[k],by simp[hlt]⟩
   have hxe:∀ h,l[k]'h=x:=fun h=>by rw[List.getElem?_eq_getElem h] at hx;exact Option.some.inj hx
   have hdr:l.drop k=x :: l.drop (k+1):=by rw[List.drop_eq_getElem_cons hlt,hxe]
   have hw:=zk k
   rw[hdr,ko] at hok
   have hpv:aI l (k+1)=some x:=hx
   have c4:=qM (G:=G) S x.drawing x.dim hSlen
   simp only[A4,D7] at c4
   cases hin:js S x
   ·rw[show js S ⟨x.drawing,x.dim⟩=false from hin] at c4
    rw[hin] at hok
    rw[Bool.false_and,Bool.false_and] at hok
    have hE:J7 c l g=2:=by rw[hE0,hok];simp
    rw[K2,hE,if_neg (by decide)]
    have hs:=za hlt (za hx (za hxe hw))
    repeat' first|(with_reducible first|refine zz ?_|refine zr ?_)|simp -dsimp[hs]|refine zq c4 ?_|refine zM 8 119 24 [0,1,2,3,6,7,8,9,10,11,12,13,14,15,16,20,28,54,58,68,87,95,109,116] ?_|with_reducible refine zE [0,1,2,3,6,7,8,9,10,11,12,13,14,15,16,20,28,54,58,68,87,95,109,116] ?_|refine m5 ?_ ?_<;>intro h<;>try simp only[l8] at h
    all_goals try clear hs
    all_goals simp[x8]
   ·rw[show js S ⟨x.drawing,x.dim⟩=true from hin] at c4
    rw[hin] at hok
    rw[Bool.true_and] at hok
    cases k with
    | zero =>
      simp only[aI,Bool.true_and] at hok
      have hw1:IntKind.i64.wrap 1=1:=by decide
      have hs:=za hlt (za hx (za hxe (za hw hw1)))
      repeat' first|with_reducible refine zz ?_|simp -dsimp[hs]|refine zq c4 ?_|refine zM 8 119 24 [0,1,2,3,6,7,8,9,10,11,12,13,14,15,16,20,28,54,58,68,87,95,109,116] ?_|with_reducible refine zE [0,1,2,3,6,7,8,9,10,11,12,13,14,15,16,20,28,54,58,68,87,95,109,116] ?_|refine m5 ?_ ?_<;>intro h<;>try simp only[l8] at h
      all_goals try clear hs
      all_goals exact zn ⟨0+1,by omega,by rw[hpv];exact hok⟩ (zw [1,2,3,6,7,9,10] 5 (by simp[hw1]))
    | succ k =>
      obtain⟨y,hy⟩:∃ y,l[k]?=some y:=⟨l[k],by simp[show k<l.length by omega]⟩
      have hye:∀ h,l[k]'h=y:=fun h=>by rw[List.getElem?_eq_getElem h] at hy;exact Option.some.inj hy
      simp only[aI,hy] at hok
      have c5:=lW (G:=G) y x
      simp only[D7] at c5
      have hw2:IntKind.i64.wrap (k:Int)=(k:Int):=u7 (by omega) (by omega)
      have hw3:((k+1:Nat):Int)-1=(k:Int):=by omega
      have hw4:IntKind.i64.wrap ((k:Int)+1+1)=(k:Int)+1+1:=u7 (by omega) (by omega)
      have hltI:(k:Int)+1<(l.length:Int):=by omega
      have hkn:(0:Int)≤(k:Int)+1:=by omega
      have hkq:(0:Int)<(k:Int)+1:=by omega
      have hkm:¬ ((k:Int)<0):=by omega
      have hkp:(0:Int)<((k+1:Nat):Int):=by omega
      have hob:=fK (a:=y) (b:=x)
      cases hbe:F5 y x
      ·rw[hbe] at c5 hob
       have hq:¬ fL y x<0:=fun h=>Bool.noConfusion (hob.1 h)
       rw[decide_eq_false hq,Bool.false_and] at hok
       have hE:J7 c l g=2:=by rw[hE0,hok];simp
       rw[K2,hE,if_neg (by decide)]
       have hs:=za hlt (za hx (za hxe (za hw (za hw2 (za hw3 (za hy (za hye (za hkp (za hltI (za hkn (za hkq hkm)))))))))))
       repeat' first|(with_reducible first|refine zz ?_|refine zr ?_)|simp -dsimp[hs]|refine zq c4 ?_|refine zq c5 ?_|refine zM 8 119 24 [0,1,2,3,6,7,8,9,10,11,12,13,14,15,16,20,28,54,58,68,87,95,109,116] ?_|with_reducible refine zE [0,1,2,3,6,7,8,9,10,11,12,13,14,15,16,20,28,54,58,68,87,95,109,116] ?_|refine m5 ?_ ?_<;>intro h<;>try simp only[l8] at h
       all_goals try clear hs
       all_goals simp[x8]
      ·rw[hbe] at c5 hob
       have hq:fL y x<0:=hob.2 rfl
       rw[decide_eq_true hq,Bool.true_and] at hok
       have hs:=za hlt (za hx (za hxe (za hw (za hw2 (za hw3 (za hy (za hye (za hkp (za hltI (za hkn (za hkq hkm)))))))))))
       repeat' first|with_reducible refine zz ?_|simp -dsimp[hs]|refine zq c4 ?_|refine zq c5 ?_|refine zM 8 119 24 [0,1,2,3,6,7,8,9,10,11,12,13,14,15,16,20,28,54,58,68,87,95,109,116] ?_|with_reducible refine zE [0,1,2,3,6,7,8,9,10,11,12,13,14,15,16,20,28,54,58,68,87,95,109,116] ?_|refine m5 ?_ ?_<;>intro h<;>try simp only[l8] at h
       all_goals try clear hs
       all_goals exact zn ⟨k+1+1,by omega,by rw[hpv];exact hok⟩ (zw [1,2,3,6,7,9,10] 5 (by simp[hw4]))
  ·obtain rfl:k=l.length:=by omega
   rw[List.drop_eq_nil_of_le (Nat.le_refl _),sf] at hok
   rw[hok] at hE0
   simp only[true_and] at hE0
   by_cases hg:0≤g∧g≤1000000000
   ·rw[if_pos hg] at hE0
    rw[show (decide (0≤g)&&decide (g≤1000000000))=true by simp[hg]] at c6
    have hs:=hlt
    repeat' first|(with_reducible first|refine zz ?_|refine zE [0,1,2,3,6,7,8,9,10,11,12,13,14,15,16,20,28,54,58,68,87,95,109,116] ?_)|simp -dsimp[hs]|refine zp c6 ?_|refine zp c7 ?_|refine zp c8 ?_|refine m5 ?_ ?_<;>intro h<;>try simp only[l8] at h
    all_goals try clear hs
    have hsort:x5 c.reg=c.reg:=(I5 (List.Perm.refl _) (U7 hOk.reg).1 (bK (x6 (r9 hOk.reg)))).symm
    have hrc:=iH hOk (lq l g)
    have hinv0:=lS hOk hsm (r:=nums c.reg) (Nat.le_refl _)
    have hnd:(nums c.reg).Nodup:=(u4 hOk.reg).1.imp fun h=>Int.ne_of_lt h
    have hll:c.lets.length=(nums c.reg).length:=by
     have:=hOk.lets
     simp only[o5,Bool.and_eq_true,decide_eq_true_eq] at this;exact this.1
    have hN:(nums c.reg).length≤80:=by have:=p8 c.reg c.reg.length;have:=hsm.1.1;unfold nums;omega
    have hr80:=hsm.1.1
    clear hok hlt hk c1 c2 c6 c7 c8 hSlen
    obtain⟨N,hNe⟩:∃ N,N=nums c.reg:=⟨_,rfl⟩
    rw[← hNe] at hrc hinv0 hnd hll hN ⊢
    refine j7 (ι:={ p:Nat×List Issue×List Int // p.1≤N.length∧RInv c (N.drop p.1) p.2.1 p.2.2∧jb c (lq l g) N c.reg c.lets=jb c (lq l g) (N.drop p.1) p.2.1 p.2.2 }) (fun p=>⟨119,[(1,.one (.im (.sl (l.map m6)))),(2,iv g),(3,.one (.ptr 0 0)),(6,.one (.ptr 4 0)),(7,iv 0),(11,.one (.ptr 8 0)),(12,.one (.im (.sl (N.map Ab.encI)))),(13,iv (p.1.1:Int))],[.row ((p5 c).map .im),.vec 0 [] 0 true,.vec 0 [] 0 true,.vec 0 [] 0 true,.row [.vec 1 0 0 0,.vec 2 0 0 0,.im (rI 0),.vec 3 0 0 0],.vec 0 [] 0 true,.vec 0 [] 0 true,.vec 0 [] 0 true,.row [.im (.sl ((x5 p.1.2.1).map j0)),.im (.sl (p.1.2.2.map Ab.encI)),.im (rI c.of),.im (.sl (c.loops.map j5))]]⟩) (fun p=>N.length-p.1.1) ⟨(0,c.reg,c.lets),by simpa using hinv0⟩ (zv [1,2,3,6,7,11,12,13] (by simp[hsort])) ?_
    clear hinv0 hsort
    rintro⟨⟨i,R,L⟩,hi,hinv,hgo⟩
    simp only at hi hinv hgo
    simp only[iv,rI]
    by_cases hlt:i<N.length
    ·obtain⟨n,hn⟩:∃ n,N[i]?=some n:=⟨N[i],by simp[hlt]⟩
     have hnm:n∈nums c.reg:=by rw[← hNe];exact List.mem_of_getElem? hn
     have hne:∀ h,N[i]'h=n:=fun h=>by rw[List.getElem?_eq_getElem h] at hn;exact Option.some.inj hn
     have hdr:N.drop i=n :: N.drop (i+1):=by rw[List.drop_eq_getElem_cons hlt,hne]
     have hnr:n∉N.drop (i+1):=by
      have:=hnd.sublist (List.drop_sublist i N)
      rw[hdr,List.nodup_cons] at this;exact this.1
     have hw:=zk i
     have t1:=dz (G:=G) c.reg c.lets n (by omega) hnm (by rw[hll,hNe])
     have hTm:=(A7 hOk.reg hOk.lets hnm).1
     have hTd:=(A7 hOk.reg hOk.lets hnm).2.1
     have hTs:=hsm.1.2 _ hTm
     have hTdo:=O7 hOk hTm
     rw[hdr] at hinv
     have hms:=fun (ds:List Dim) (h:ds.length≤8)=>mc hOk hsm hinv hnm hnr h
     have hsz:=dK hsm hinv
     have hrn:=dH hOk hinv
     have hrt:=gP hOk hinv hnm List.mem_cons_self
     have hrl:=gQ hOk hinv (n:=n) List.mem_cons_self
     have hcl:B6 c.reg n≤c.reg.length:=List.length_filter_le _ _
     have t5:=fun (ds:List Dim) (h:ds.length≤8)=>rZ (G:=G) { reg:=x5 R,lets:=L,of:=c.of,loops:=c.loops } n ds hsz.1 hsz.2.1 hsz.2.2 hsm.2.2.1 hsm.2.2.2 (by rw[hrn];exact hnm) (by rw[hrn,hinv.len,hll,hNe]) h (by rw[hrt];omega) (by rw[hrl];omega)
     rw[hdr,jb] at hgo
     have htT:lq l g (j8 c.reg c.lets n)=(ve l g (j8 c.reg c.lets n),0):=rfl
     rw[htT,if_neg (by simp)] at hgo
     have hTl:=dy l g (j8 c.reg c.lets n)
     have hTg:=fun k hk=>jk l g (j8 c.reg c.lets n) (k:=k) hk
     simp only[E4,j0,rI,C8,H0,List.map_cons,List.map_nil] at t1
     generalize hTe:j8 c.reg c.lets n=T at *
     generalize hUe:ve l g T=U at *
     subst hTd
     have hs:=za hn (za hne hlt)
     repeat' first|(with_reducible first|refine zz ?_|refine And.intro (by omega) ?_)|simp -dsimp[hs]|refine zq t1 ?_|refine p9 (id:=17) (nt:=119) 10 [] [0,1,2,3,6,7,8,9,10,11,12,13,14,15,16,20,28,54,58,68,71,72,73,74,75,76,77,78,79,87,95,109,116] [0,1,2,3,6,7,8,9,10,11,12,13,14,15,16,20,28,54,58,68,87,95,109,116] mixed rfl (by kernel_rfl) ?_|with_reducible refine zE [0,1,2,3,6,7,8,9,10,11,12,13,14,15,16,20,28,54,58,68,87,95,109,116] ?_|refine m5 ?_ ?_<;>intro h<;>try simp only[l8] at h
     all_goals try clear hs
     refine j7 (ι:={ k:Nat // k≤T.dims.length }) (fun k=>⟨119,[(1,.one (.im (.sl (l.map m6)))),(2,iv g),(3,.one (.ptr 0 0)),(6,.one (.ptr 4 0)),(7,iv 0),(11,.one (.ptr 8 0)),(12,.one (.im (.sl (N.map Ab.encI)))),(13,iv (i:Int)),(14,.one (.ptr 9 0)),(15,.one (.vec 10 1 0 T.dims.length)),(16,iv (k.1:Int))],[.row ((p5 c).map .im),.vec 0 [] 0 true,.vec 0 [] 0 true,.vec 0 [] 0 true,.row [.vec 1 0 0 0,.vec 2 0 0 0,.im (rI 0),.vec 3 0 0 0],.vec 0 [] 0 true,.vec 0 [] 0 true,.vec 0 [] 0 true,.row [.im (.sl ((x5 R).map j0)),.im (.sl (L.map Ab.encI)),.im (rI c.of),.im (.sl (c.loops.map j5))],.row [.im (rI T.drawing),.im (rI T.letter),.im (.raw (.int .u8 T.kind)),.im (.sl (T.items.map l7)),.im (.sl (T.dims.map l6))],.vec 3 (o7 ((J5 U T.dims k.1).map l6)) 1 false]⟩) (fun k=>T.dims.length-k.1) ⟨0,by omega⟩ (zv [1,2,3,6,7,11,12,13,14,15,16] (by simp[J5])) ?_
     rintro⟨k,hk⟩
     simp only[iv,rI]
     by_cases hlk:k<T.dims.length
     ·have hwk:=zk k
      have hlm:=fN hTl hk
      have hge:=dM hTl hlk
      have hgm:∀ h,(J5 U T.dims k)[k]'h=T.dims[k]:=fun h=>by rw[List.getElem?_eq_getElem h] at hge;exact Option.some.inj hge
      have hklm:k<(J5 U T.dims k).length:=by omega
      have c2:=qM (G:=G) l T.drawing (k:Int) hl
      have hTk:=hTg k hlk
      have c3:=vJ (G:=G) T.dims[k] g (hTdo _ (List.getElem_mem hlk)) hg.1 (by omega)
      have hset:=bx (J5 U T.dims k) k (W0 T.dims[k] g)
      simp only[A4,D7] at c2
      generalize hdk:T.dims[k]=dk at *
      cases hin:js l ⟨T.drawing,(k:Int)⟩
      ·rw[hin] at c2 hTk
       have hst:=ku hTl hlk (by rw[hTk,hdk];rfl)
       have hs:=za hlk hwk
       repeat' first|(with_reducible first|refine zz ?_|refine zE [0,1,2,3,6,7,8,9,10,11,12,13,14,15,16,20,28,54,58,68,87,95,109,116] ?_)|simp -dsimp[hs]|refine zp c2 ?_|refine m5 ?_ ?_<;>intro h<;>try simp only[l8] at h
       all_goals try clear hs
       all_goals exact zn ⟨k+1,by omega⟩ (zv [1,2,3,6,7,11,12,13,14,15,16] (by simp[hst]))
      ·rw[hin,if_pos rfl] at hTk
       rw[hin] at c2
       have hst:=dL hTl hlk hTk
       rw[hst] at hset
       have hs:=za hlk (za hwk (za hlm (za hklm (za hgm hset))))
       repeat' first|(with_reducible first|refine zz ?_|refine zE [0,1,2,3,6,7,8,9,10,11,12,13,14,15,16,20,28,54,58,68,87,95,109,116] ?_)|simp -dsimp[hs]|refine zp c2 ?_|refine zp c3 ?_|refine m5 ?_ ?_<;>intro h<;>try simp only[l8] at h
       all_goals try clear hs
       all_goals exact zn ⟨k+1,by omega⟩ (zv [1,2,3,6,7,11,12,13,14,15,16] (by simp[hst]))
     ·obtain rfl:k=T.dims.length:=by omega
      have hme:=fO hTl
      have c4:=iG (G:=G) U T.dims hTl (by omega)
      have hUl:U.length≤8:=by omega
      simp only[← hTl] at hlk hme ⊢
      have c5:=t5 U hUl
      rw[(hms U hUl).1] at c5
      by_cases hq:U=T.dims
      ·rw[if_pos hq] at hgo
       rw[decide_eq_true hq] at c4
       have hs:=za hlk (za hme hw)
       repeat' first|(with_reducible first|refine zz ?_|refine zE [0,1,2,3,6,7,8,9,10,11,12,13,14,15,16,20,28,54,58,68,87,95,109,116] ?_)|simp -dsimp[hs]|refine CallE.thaw c4 ?_ ?_ ?_;(focus simp;done);(focus simp;done)|refine m5 ?_ ?_<;>intro h<;>try simp only[l8] at h
       all_goals try clear hs
       all_goals exact zn ⟨(i+1,R,L),by omega,lT hinv,hgo⟩ (zw [1,2,3,6,7,11,12,13] 9 (by simp[hw]))
      ·rw[if_neg hq] at hgo
       rw[decide_eq_false hq] at c4
       have hK:=(hms U hUl).2
       have hs:=za hlk (za hme hw)
       repeat' first|(with_reducible first|refine zz ?_|refine zE [0,1,2,3,6,7,8,9,10,11,12,13,14,15,16,20,28,54,58,68,87,95,109,116] ?_)|simp -dsimp[hs]|refine CallE.thaw c4 ?_ ?_ ?_;(focus simp;done);(focus simp;done)|refine CallE.freeze 10 (c5 [.row [.im (.sl (c.reg.map j0)),.im (.sl (c.lets.map Ab.encI)),.im (rI c.of),.im (.sl (c.loops.map j5))],.vec 0 [] 0 true,.vec 0 [] 0 true,.vec 0 [] 0 true,.row [.vec 1 0 0 0,.vec 2 0 0 0,.im (rI 0),.vec 3 0 0 0],.vec 0 [] 0 true,.vec 0 [] 0 true,.vec 0 [] 0 true,.row [.im (.sl ((x5 R).map j0)),.im (.sl (L.map Ab.encI)),.im (rI c.of),.im (.sl (c.loops.map j5))],.row [.im (rI T.drawing),.im (rI T.letter),.im (.raw (.int .u8 T.kind)),.im (.sl (T.items.map l7)),.im (.sl (T.dims.map l6))]]) ?_ ?_ ?_ ?_ ?_ ?_;(focus simp[rI,j0];done);(focus simp[rI];done);(focus simp;done);(focus rfl);(focus simp;done);try simp -dsimp[o9,rI]|refine m5 ?_ ?_<;>intro h<;>try simp only[l8] at h
       all_goals try clear hs
       all_goals exact zn ⟨(i+1,R++[K7 c.reg T T.drawing U],L.set (idx (nums c.reg) T.drawing).toNat ((B6 c.reg T.drawing:Int)+1)),by omega,hK,hgo⟩ (zw [1,2,3,6,7,11,12,13] 9 (by simp[hw]))
    ·obtain rfl:i=N.length:=by omega
     rw[List.drop_eq_nil_of_le (Nat.le_refl _),jb] at hgo
     rw[hgo] at hrc
     simp only[ne_eq,not_true_eq_false,if_false] at hrc
     have hsz:=dK hsm hinv
     have c9:=sc (G:=G) { reg:=x5 R,lets:=L,of:=c.of,loops:=c.loops } (by have:=hsz.1;simp only;omega)
     simp only at c9
     cases hfu:aL (x5 R)
     ·rw[hfu] at hrc c9
      rw[if_neg (by simp)] at hrc
      rw[K2,hE0,hrc.1,if_pos rfl,hrc.2]
      have hs:=hlt
      repeat' first|(with_reducible first|refine zz ?_|refine zr ?_|refine zE [0,1,2,3,6,7,8,9,10,11,12,13,14,15,16,20,28,54,58,68,87,95,109,116] ?_)|simp -dsimp[hs]|refine zp c9 ?_|refine m5 ?_ ?_<;>intro h<;>try simp only[l8] at h
      all_goals try clear hs
     ·rw[hfu] at hrc c9
      rw[if_pos rfl] at hrc
      rw[K2,hE0,hrc.1,if_neg (by decide)]
      have hs:=hlt
      repeat' first|(with_reducible first|refine zz ?_|refine zr ?_|refine zE [0,1,2,3,6,7,8,9,10,11,12,13,14,15,16,20,28,54,58,68,87,95,109,116] ?_)|simp -dsimp[hs]|refine zp c9 ?_|refine m5 ?_ ?_<;>intro h<;>try simp only[l8] at h
      all_goals try clear hs
      all_goals simp[x8]
   ·rw[if_neg hg] at hE0
    rw[K2,hE0,if_neg (by decide)]
    rw[show (decide (0≤g)&&decide (g≤1000000000))=false by rw[Bool.eq_false_iff];simpa using hg] at c6
    have hs:=hlt
    repeat' first|(with_reducible first|refine zz ?_|refine zr ?_|refine zE [0,1,2,3,6,7,8,9,10,11,12,13,14,15,16,20,28,54,58,68,87,95,109,116] ?_)|simp -dsimp[hs]|refine zp c6 ?_|refine m5 ?_ ?_<;>intro h<;>try simp only[l8] at h
    all_goals try clear hs
    all_goals simp[x8]
 ·have hE:J7 c l g=p7 c:=by rw[J7,if_pos h00]
  rw[K2,hE,if_neg h00]
  have hs:=h00
  repeat' first|(with_reducible first|refine zz ?_|refine zr ?_|refine zE [0,1,2,3,6,7,8,9,10,11,12,13,14,15,16,20,28,54,58,68,87,95,109,116] ?_)|simp -dsimp[hs]|refine zp c1 ?_|refine m5 ?_ ?_<;>intro h<;>try simp only[l8] at h
  all_goals try clear hs
  all_goals simp[x8]
attribute [simp] r5 aT D9 J6 o9 x7 nilV H2 ZK
theorem kj {c:Chains} (hOk:OkC c):((E7 c.reg c.lets c.of).map (·.drawing))=(nums c.reg).filter (fun n=>decide (0<n7 (bE c.reg c.lets c.of) n)):=by
 rw[fI hOk.reg hOk.lets hOk.of,F3,List.map_map]
 exact List.map_id _
theorem ki {c:Chains} (hOk:OkC c):E7 c.reg c.lets c.of=Q8 c.reg c.lets c.of:=by
 rw[fI hOk.reg hOk.lets hOk.of,Q8,if_pos (by simp[B3,hOk.reg,hOk.lets,hOk.of])]
theorem xV {c:Chains} (hOk:OkC c) {n:Int} (h:n∈nums c.reg) (hp:decide (0<n7 (bE c.reg c.lets c.of) n)=false):n7 (B0 c) n=0:=by
 have hnd:(nums c.reg).Nodup:=(u4 hOk.reg).1.imp fun h=>Int.ne_of_lt h
 have hE:=ki hOk
 have hn:((Q8 c.reg c.lets c.of).map (·.drawing)).Nodup:=by
  rw[← hE,kj hOk];exact hnd.filter _
 rw[B0,bQ _ _ _ hn]
 rw[if_neg]
 ·rfl
 ·intro hm
  rw[← hE,kj hOk,List.mem_filter,hp] at hm
  exact Bool.noConfusion hm.2
set_option maxRecDepth 20000 in
theorem tq (c:Chains) (n:Int) (hsm:w9 c) (h0:0≤n) (h255:n≤255):zP prog G 25 [M9 c,jj n] (.tup [M9 (br c n),iv (W4 c n)]):=by
 refine zf func25 ntmps25 ?_
 try simp only[M9,jj]
 have c1:=ka (G:=G) c hsm
 by_cases h00:p7 c=0
 ·have hOk:=vO h00
  rw[h00] at c1
  by_cases hn:n=1∨n=2
  ·have hE0:W4 c n=A0 c (aV c n):=by rw[W4,if_neg (by simp[h00]),if_pos hn]
   have c7:=mR (G:=G) c (lO hsm)
   have c8:=oz (G:=G) c.reg c.lets c.of (by have:=hsm.1.1;omega) hOk.reg hOk.lets hOk.of
   have hn12:¬ n=1→n=2:=fun h=>hn.resolve_left h
   have hrc:=iH hOk (aV c n)
   have hpd:=kj hOk
   have hnd:(nums c.reg).Nodup:=(u4 hOk.reg).1.imp fun h=>Int.ne_of_lt h
   have hfil:jb c (aV c n) (nums c.reg) c.reg c.lets=jb c (aV c n) ((E7 c.reg c.lets c.of).map (·.drawing)) c.reg c.lets:=by
    rw[hpd]
    refine(jY _ _ _ fun m hm hp=>?_).symm
    rw[aV,(A7 hOk.reg hOk.lets hm).2.1,xV hOk hm hp,if_pos rfl]
   have hpm:∀ p∈E7 c.reg c.lets c.of,p.drawing∈nums c.reg∧n7 (B0 c) p.drawing≠0:=fun p hp=>qt hOk (by rw[← ki hOk];exact hp)
   have hpn:((E7 c.reg c.lets c.of).map (·.drawing)).Nodup:=by rw[hpd];exact hnd.filter _
   have hpl:(E7 c.reg c.lets c.of).length≤(nums c.reg).length:=by
    have:=congrArg List.length hpd
    rw[List.length_map] at this
    rw[this];exact List.length_filter_le _ _
   have hinv0:=lS hOk hsm (r:=(E7 c.reg c.lets c.of).map (·.drawing)) (by rw[List.length_map];exact hpl)
   have hsort:x5 c.reg=c.reg:=(I5 (List.Perm.refl _) (U7 hOk.reg).1 (bK (x6 (r9 hOk.reg)))).symm
   have hll:c.lets.length=(nums c.reg).length:=by
    have:=hOk.lets
    simp only[o5,Bool.and_eq_true,decide_eq_true_eq] at this;exact this.1
   have hN:(nums c.reg).length≤80:=by have:=p8 c.reg c.reg.length;have:=hsm.1.1;unfold nums;omega
   have hr80:=hsm.1.1
   rw[hfil] at hrc
   clear hfil hpd
   simp only[C8,H0] at c8
   generalize E7 c.reg c.lets c.of=P at *
   have hcs:(n=1)=True∨(n=1)=False∧(n=2)=True:=by
    rcases hn with h|h
    ·exact .inl (eq_true h)
    ·exact .inr ⟨eq_false (by omega),eq_true h⟩
   rcases hcs with hq|⟨hq,hq2⟩
   rotate_left
   have hs:=za hq hq2
   repeat' first|(with_reducible first|refine zz ?_|refine zE [0,1,2,4,5,6,7,8,9,10,11,12,13,14,18,26,40,57,71,81,88] ?_)|simp -dsimp[hs]|refine zp c1 ?_|refine zp c7 ?_|refine zp c8 ?_|refine m5 ?_ ?_<;>intro h<;>try simp only[l8] at h
   all_goals try clear hs
   rotate_left
   have hs:=hq
   repeat' first|(with_reducible first|refine zz ?_|refine zE [0,1,2,4,5,6,7,8,9,10,11,12,13,14,18,26,40,57,71,81,88] ?_)|simp -dsimp[hs]|refine zp c1 ?_|refine zp c7 ?_|refine zp c8 ?_|refine m5 ?_ ?_<;>intro h<;>try simp only[l8] at h
   all_goals try clear hs
   all_goals
    clear c1 c7 c8
    obtain⟨Q,hQe⟩:∃ Q,Q=P.map (·.drawing):=⟨_,rfl⟩
    have hQl:Q.length=P.length:=by rw[hQe,List.length_map]
    rw[← hQe] at hrc hinv0 hpn
    refine j7 (ι:={ p:Nat×List Issue×List Int // p.1≤P.length∧RInv c (Q.drop p.1) p.2.1 p.2.2∧jb c (aV c n) Q c.reg c.lets=jb c (aV c n) (Q.drop p.1) p.2.1 p.2.2 }) (fun p=>⟨91,[(1,jj n),(2,.one (.ptr 0 0)),(4,.one (.ptr 4 0)),(5,iv 0),(7,.one (.ptr 8 0)),(8,.one (.im (.sl (P.map l7)))),(9,iv (p.1.1:Int))],[.row ((p5 c).map .im),.vec 0 [] 0 true,.vec 0 [] 0 true,.vec 0 [] 0 true,.row [.vec 1 0 0 0,.vec 2 0 0 0,.im (rI 0),.vec 3 0 0 0],.vec 0 [] 0 true,.vec 0 [] 0 true,.vec 0 [] 0 true,.row [.im (.sl ((x5 p.1.2.1).map j0)),.im (.sl (p.1.2.2.map Ab.encI)),.im (rI c.of),.im (.sl (c.loops.map j5))]]⟩) (fun p=>P.length-p.1.1) ⟨(0,c.reg,c.lets),by simpa using hinv0⟩ (zv [1,2,4,5,7,8,9] (by simp[hsort])) ?_
    clear hinv0 hsort
    rintro⟨⟨i,R,L⟩,hi,hinv,hgo⟩
    simp only at hi hinv hgo
    simp only[iv,rI]
    by_cases hlt:i<P.length
    ·obtain⟨x,hx⟩:∃ x,P[i]?=some x:=⟨P[i],by simp[hlt]⟩
     have hxe:∀ h,P[i]'h=x:=fun h=>by rw[List.getElem?_eq_getElem h] at hx;exact Option.some.inj hx
     obtain⟨hnm,hct⟩:=hpm x (List.mem_of_getElem? hx)
     have hdr:Q.drop i=x.drawing :: Q.drop (i+1):=by
      have h1:i<Q.length:=by omega
      rw[List.drop_eq_getElem_cons h1]
      congr 1
      simp only[hQe,List.getElem_map,hxe]
     have hnr:x.drawing∉Q.drop (i+1):=by
      have:=hpn.sublist (List.drop_sublist i Q)
      rw[hdr,List.nodup_cons] at this;exact this.1
     have hw:=zk i
     generalize hxd:x.drawing=m at *
     have t1:=dz (G:=G) c.reg c.lets m (by omega) hnm (by rw[hll])
     have hTm:=(A7 hOk.reg hOk.lets hnm).1
     have hTd:=(A7 hOk.reg hOk.lets hnm).2.1
     have hTs:=hsm.1.2 _ hTm
     have hTdo:=O7 hOk hTm
     rw[hdr] at hinv
     have hms:=fun (ds:List Dim) (h:ds.length≤8)=>mc hOk hsm hinv hnm hnr h
     have hsz:=dK hsm hinv
     have hrn:=dH hOk hinv
     have hrt:=gP hOk hinv hnm List.mem_cons_self
     have hrl:=gQ hOk hinv (n:=m) List.mem_cons_self
     have hcl:B6 c.reg m≤c.reg.length:=List.length_filter_le _ _
     have t5:=fun (ds:List Dim) (h:ds.length≤8)=>rZ (G:=G) { reg:=x5 R,lets:=L,of:=c.of,loops:=c.loops } m ds hsz.1 hsz.2.1 hsz.2.2 hsm.2.2.1 hsm.2.2.2 (by rw[hrn];exact hnm) (by rw[hrn,hinv.len,hll]) h (by rw[hrt];omega) (by rw[hrl];omega)
     rw[hdr,jb] at hgo
     have hfT:aV c n (j8 c.reg c.lets m)=if P7 n (j8 c.reg c.lets m).dims=true then ((j8 c.reg c.lets m).dims.map (dX · n),0) else ([],6):=by rw[aV,hTd,if_neg hct]
     rw[hfT] at hgo
     clear hfT
     simp only[E4,j0,rI,C8,H0,List.map_cons,List.map_nil] at t1
     generalize hTe:j8 c.reg c.lets m=T at *
     obtain⟨U,hUe⟩:∃ U,U=T.dims.map (dX · n):=⟨_,rfl⟩
     have hTl:U.length=T.dims.length:=by rw[hUe,List.length_map]
     have hTg:∀ k (h:k<T.dims.length),U[k]?=some (dX T.dims[k] n):=fun k h=>by simp[hUe,h]
     rw[← hUe] at hgo
     clear hUe
     subst hTd
     have hs:=za hx (za hxe (za hlt hxd))
     repeat' first|with_reducible refine zz ?_|simp -dsimp[hs]|refine zq t1 ?_|refine p9 (id:=11) (nt:=91) 11 [] [0,1,2,4,5,6,7,8,9,10,11,12,13,14,18,26,40,43,44,45,46,47,48,49,50,51,52,57,71,81,88] [0,1,2,4,5,6,7,8,9,10,11,12,13,14,18,26,40,57,71,81,88] mixed rfl (by kernel_rfl) ?_|with_reducible refine zE [0,1,2,4,5,6,7,8,9,10,11,12,13,14,18,26,40,57,71,81,88] ?_|refine m5 ?_ ?_<;>intro h<;>try simp only[l8] at h
     all_goals try clear hs
     refine j7 (ι:={ p:Nat×Nat×Bool // p.1≤T.dims.length∧P7 n (T.dims.take p.1)=true }) (fun p=>⟨91,[(1,jj n),(2,.one (.ptr 0 0)),(4,.one (.ptr 4 0)),(5,iv 0),(7,.one (.ptr 8 0)),(8,.one (.im (.sl (P.map l7)))),(9,iv (i:Int)),(10,.one (.ptr 9 0)),(11,.one (.vec 10 p.1.2.1 0 (U.take p.1.1).length)),(12,iv (p.1.1:Int))],[.row ((p5 c).map .im),.vec 0 [] 0 true,.vec 0 [] 0 true,.vec 0 [] 0 true,.row [.vec 1 0 0 0,.vec 2 0 0 0,.im (rI 0),.vec 3 0 0 0],.vec 0 [] 0 true,.vec 0 [] 0 true,.vec 0 [] 0 true,.row [.im (.sl ((x5 R).map j0)),.im (.sl (L.map Ab.encI)),.im (rI c.of),.im (.sl (c.loops.map j5))],.row [.im (rI T.drawing),.im (rI T.letter),.im (.raw (.int .u8 T.kind)),.im (.sl (T.items.map l7)),.im (.sl (T.dims.map l6))],.vec 3 (o7 ((U.take p.1.1).map l6)) p.1.2.1 p.1.2.2]⟩) (fun p=>T.dims.length-p.1.1) ⟨(0,0,true),by simp[P7]⟩ (zv [1,2,4,5,7,8,9,10,11,12]) ?_
     rintro⟨⟨k,gn,nl⟩,hk,hok⟩
     simp only at hk hok
     simp only[iv,rI]
     by_cases hlk:k<T.dims.length
     ·have hwk:=zk k
      have hTk:=hTg k hlk
      have c3:=qq (G:=G) T.dims[k] n (hTdo _ (List.getElem_mem hlk)) hn
      have hst:U.take (k+1)=U.take k++[dX T.dims[k] n]:=by
       have h1:k<U.length:=by omega
       rw[List.take_succ_eq_append_getElem h1]
       rw[List.getElem?_eq_getElem h1] at hTk
       rw[Option.some.inj hTk]
      have htk:T.dims.take (k+1)=T.dims.take k++[T.dims[k]]:=List.take_succ_eq_append_getElem hlk
      have hall:P7 n T.dims=true→pP T.dims[k] n=0:=fun h=>by
       have:=List.all_eq_true.1 h _ (List.getElem_mem hlk)
       simpa using this
      have hULk:(U.take k).length=k:=by rw[List.length_take];omega
      simp only[jj,H1,l6,List.map_cons,List.map_nil] at c3
      have h2:=nE T.dims[k] n
      have hdg:T.dims[k]?=some T.dims[k]:=by simp[hlk]
      have hdge:∀ h,T.dims[k]'h=T.dims[k]:=fun _=>rfl
      generalize hdk:T.dims[k]=dk at *
      generalize dX dk n=y at *
      generalize U.take k=K at *
      rcases h2 with he|he
      ·rw[he] at c3
       have hok':P7 n (T.dims.take (k+1))=true:=by
        rw[htk,P7,List.all_append]
        simp only[P7] at hok
        rw[hok];simp[he]
       have hs:=za hlk (za hwk (za hdk hdg))
       repeat' first|(with_reducible first|refine zz ?_|refine And.intro (by omega) ?_|refine zE [0,1,2,4,5,6,7,8,9,10,11,12,13,14,18,26,40,57,71,81,88] ?_)|simp -dsimp[hs]|refine zp c3 ?_|refine m5 ?_ ?_<;>intro h<;>try simp only[l8] at h
       all_goals try clear hs
       all_goals try omega
       all_goals exact zn ⟨(k+1,gn+1,false),by simp only;omega,hok'⟩ (zw [1,2,4,5,7,8,9,10,11,12] 11 (by have f1:=congrArg List.length hst;have f2:=congrArg (λz=>o7 (List.map l6 z)) hst;simp[l6] at f1 f2;simp[f1,f2,l6]))
      ·rw[he] at c3
       have hno:¬ P7 n T.dims=true:=fun h=>by rw[hall h] at he;exact absurd he (by decide)
       rw[if_neg hno,if_pos (by decide)] at hgo
       rw[hgo] at hrc
       have hE:W4 c n=6:=by rw[hE0,hrc.1];rfl
       rw[br,hE,if_neg (by decide)]
       have hs:=za hlk (za hwk (za hdk hdg))
       repeat' first|(with_reducible first|refine zz ?_|refine zr ?_|refine zE [0,1,2,4,5,6,7,8,9,10,11,12,13,14,18,26,40,57,71,81,88] ?_)|simp -dsimp[hs]|refine zp c3 ?_|refine m5 ?_ ?_<;>intro h<;>try simp only[l8] at h
       all_goals try clear hs
       all_goals simp[x8]
     ·obtain rfl:k=T.dims.length:=by omega
      rw[List.take_length] at hok
      rw[if_pos hok,if_neg (by simp)] at hgo
      have hme:U.take T.dims.length=U:=List.take_of_length_le (by omega)
      have c4:=iG (G:=G) U T.dims hTl (by omega)
      have hUl:U.length≤8:=by omega
      have c5:=t5 U hUl
      rw[(hms U hUl).1] at c5
      simp only[hme]
      by_cases hq3:U=T.dims
      ·rw[if_pos hq3] at hgo
       rw[decide_eq_true hq3] at c4
       have hs:=za hlk hw
       repeat' first|(with_reducible first|refine zz ?_|refine zE [0,1,2,4,5,6,7,8,9,10,11,12,13,14,18,26,40,57,71,81,88] ?_)|simp -dsimp[hs]|refine CallE.thaw c4 ?_ ?_ ?_;(focus simp;done);(focus simp;done)|refine m5 ?_ ?_<;>intro h<;>try simp only[l8] at h
       all_goals try clear hs
       all_goals exact zn ⟨(i+1,R,L),by simp only;omega,lT hinv,hgo⟩ (zw [1,2,4,5,7,8,9] 9 (by simp[hw]))
      ·rw[if_neg hq3] at hgo
       rw[decide_eq_false hq3] at c4
       have hK:=(hms U hUl).2
       have hs:=za hlk hw
       repeat' first|(with_reducible first|refine zz ?_|refine zE [0,1,2,4,5,6,7,8,9,10,11,12,13,14,18,26,40,57,71,81,88] ?_)|simp -dsimp[hs]|refine CallE.thaw c4 ?_ ?_ ?_;(focus simp;done);(focus simp;done)|refine CallE.freeze 10 (c5 [.row [.im (.sl (c.reg.map j0)),.im (.sl (c.lets.map Ab.encI)),.im (rI c.of),.im (.sl (c.loops.map j5))],.vec 0 [] 0 true,.vec 0 [] 0 true,.vec 0 [] 0 true,.row [.vec 1 0 0 0,.vec 2 0 0 0,.im (rI 0),.vec 3 0 0 0],.vec 0 [] 0 true,.vec 0 [] 0 true,.vec 0 [] 0 true,.row [.im (.sl ((x5 R).map j0)),.im (.sl (L.map Ab.encI)),.im (rI c.of),.im (.sl (c.loops.map j5))],.row [.im (rI T.drawing),.im (rI T.letter),.im (.raw (.int .u8 T.kind)),.im (.sl (T.items.map l7)),.im (.sl (T.dims.map l6))]]) ?_ ?_ ?_ ?_ ?_ ?_;(focus simp[rI,j0];done);(focus simp[rI];done);(focus simp;done);(focus rfl);(focus simp;done);try simp -dsimp[o9,rI]|refine m5 ?_ ?_<;>intro h<;>try simp only[l8] at h
       all_goals try clear hs
       all_goals exact zn ⟨(i+1,R++[K7 c.reg T T.drawing U],L.set (idx (nums c.reg) T.drawing).toNat ((B6 c.reg T.drawing:Int)+1)),by simp only;omega,hK,hgo⟩ (zw [1,2,4,5,7,8,9] 9 (by simp[hw]))
    ·obtain rfl:i=P.length:=by omega
     rw[List.drop_eq_nil_of_le (by omega),jb] at hgo
     rw[hgo] at hrc
     simp only[ne_eq,not_true_eq_false,if_false] at hrc
     have hsz:=dK hsm hinv
     have c9:=sc (G:=G) { reg:=x5 R,lets:=L,of:=c.of,loops:=c.loops } (by have:=hsz.1;simp only;omega)
     simp only at c9
     cases hfu:aL (x5 R)
     ·rw[hfu] at hrc c9
      rw[if_neg (by simp)] at hrc
      rw[br,hE0,hrc.1,if_pos rfl,hrc.2]
      have hs:=hlt
      repeat' first|(with_reducible first|refine zz ?_|refine zr ?_|refine zE [0,1,2,4,5,6,7,8,9,10,11,12,13,14,18,26,40,57,71,81,88] ?_)|simp -dsimp[hs]|refine zp c9 ?_|refine m5 ?_ ?_<;>intro h<;>try simp only[l8] at h
      all_goals try clear hs
     ·rw[hfu] at hrc c9
      rw[if_pos rfl] at hrc
      rw[br,hE0,hrc.1,if_neg (by decide)]
      have hs:=hlt
      repeat' first|(with_reducible first|refine zz ?_|refine zr ?_|refine zE [0,1,2,4,5,6,7,8,9,10,11,12,13,14,18,26,40,57,71,81,88] ?_)|simp -dsimp[hs]|refine zp c9 ?_|refine m5 ?_ ?_<;>intro h<;>try simp only[l8] at h
      all_goals try clear hs
      all_goals simp[x8]
  ·have hE:W4 c n=11:=by rw[W4,if_neg (by simp[h00]),if_neg hn]
   have hn1:¬ n=1:=fun h=>hn (.inl h)
   have hn2:¬ n=2:=fun h=>hn (.inr h)
   rw[br,hE,if_neg (by decide)]
   have hs:=za hn1 hn2
   repeat' first|(with_reducible first|refine zz ?_|refine zr ?_|refine zE [0,1,2,4,5,6,7,8,9,10,11,12,13,14,18,26,40,57,71,81,88] ?_)|simp -dsimp[hs]|refine zp c1 ?_|refine m5 ?_ ?_<;>intro h<;>try simp only[l8] at h
   all_goals try clear hs
   all_goals simp[x8]
 ·have hE:W4 c n=p7 c:=by rw[W4,if_pos h00]
  rw[br,hE,if_neg h00]
  have hs:=h00
  repeat' first|(with_reducible first|refine zz ?_|refine zr ?_|refine zE [0,1,2,4,5,6,7,8,9,10,11,12,13,14,18,26,40,57,71,81,88] ?_)|simp -dsimp[hs]|refine zp c1 ?_|refine m5 ?_ ?_<;>intro h<;>try simp only[l8] at h
  all_goals try clear hs
  all_goals simp[x8]
attribute [simp] r5 aT D9 J6 o9 x7 nilV H2 ZK
theorem tg (c:Chains) (n:Int) (a b d:IC) (hG:I6 G) (hC:bZ G) (hU:aE G a b d) (hsm:w9 c) (hSD:aP G) (h0:0≤n) (h255:n≤255) (hz:W4 c n=0):DCall prog G 24 [M9 c,jj n] [] (BA (br c n)):=by
 have c1:=de c hG hC hsm
 have w0:IntKind.i64.wrap n=n:=u7 (by omega) (by omega)
 have h00:p7 c=0:=Classical.byContradiction fun h=>by rw[W4,if_pos h] at hz;exact h hz
 have hOk:=vO h00
 rw[br,if_pos hz]
 rw[W4,if_neg (by simp[h00])] at hz
 have hn:n=1∨n=2:=Classical.byContradiction fun h=>by rw[if_neg h] at hz;cases hz
 rw[if_pos hn] at hz
 have c7:=kV (G:=G) c (B0 c) _ _ hG hOk hsm (ot (G:=G) hOk hsm hU hn) (tp (G:=G) hOk hsm hU hn) (vF hOk n) hSD hz
 have c8:=iV (objs:=[.row [.im (.raw (.int .u8 n))],.row [.im (n9 c (B0 c) (C9 c.reg c.lets))]]) (caps:=[.ptr 1 0,.ptr 0 0]) c7 (by simp[fz,DC.lt,frz,G2,n9,rI]) (fun o r h=>by
  match o with
  | 0=>simp at h
  | 1=>simp at h
  | o+2=>simp at h)
 clear c7
 have hXo:(l9 c (aV c n)).of=c.of:=rfl
 generalize l9 c (aV c n)=X at *
 generalize hQ:BA X=Q
 simp only[jj]
 refine l5 func24 rfl ntmps24 (by simp) rfl ?_
 rw[h00] at c1
 simp only[V6,h00,if_true,n9] at c1
 have c6:=V3 (G:=G) 1 2 [n] (by simp)
 simp only[H0,List.map_cons,List.map_nil,Ab.encI,Ab.encI,rI,List.all_cons,List.all_nil,Bool.and_true] at c6
 rw[show (decide ((1:Int)≤n)&&decide (n≤(2:Int)))=true by rw[Bool.and_eq_true,decide_eq_true_iff,decide_eq_true_iff];omega] at c6
 simp only[n9] at c8
 have hs:=w0
 repeat' first|(with_reducible first|refine zz ?_|refine zE [0,1,2,3,4,5,6,7,14,21] ?_)|simp -dsimp[hs]|refine zp c1 ?_|refine zt c6 ?_ ?_ ?_;(focus simp;done);focus (simp;done)|refine m5 ?_ ?_<;>intro h<;>try simp only[l8] at h
 all_goals try clear hs
 refine CallE.embed_ex [1,6] c8 (by simp[C4]) (by simp) (by simp) (by simp) ?_ ?_
 ·refine A3 ?_
  simp[C4,B7]
 rintro⟨⟨cr,cl,co⟩,ab,ls,O⟩ hD
 simp only[List.length_cons,List.length_nil] at hD ⊢
 have hD2:=hD.rn (L':=fun k=>(s8 [1,6] [DObj.row [.im (.sl (List.map j0 c.reg)),.im (.sl (List.map Ab.encI c.lets)),.im (.raw (.int .i64 c.of)),.im (.sl (List.map j5 c.loops))],DObj.row [.im (.raw (.int .u8 n))],DObj.vec 0 [] 0 true,DObj.vec 0 [] 0 true,DObj.vec 0 [] 0 true,DObj.row [.vec 2 0 0 0,.vec 3 0 0 0,.im (.raw (.int .i64 0)),.vec 4 0 0 0],DObj.row [.im (IC.ip [.sl (List.map j0 c.reg),.sl (List.map Ab.encI c.lets),.raw (.int .i64 c.of),.sl (List.map j5 c.loops),.mp [CK.int .i64] (R4 (B0 c)),.mp [CK.int .i64] (ai (C9 c.reg c.lets))])],DObj.vec 1 [[.im (.raw (.int .i64 n))]] 0 false] (o9 (0+1+1)++O))[k]?) (e:=C4 [1,6] 8) fun o d h=>by
  have:=aa (es:=[1,6]) (objs:=[DObj.row [.im (.sl (List.map j0 c.reg)),.im (.sl (List.map Ab.encI c.lets)),.im (.raw (.int .i64 c.of)),.im (.sl (List.map j5 c.loops))],DObj.row [.im (.raw (.int .u8 n))],DObj.vec 0 [] 0 true,DObj.vec 0 [] 0 true,DObj.vec 0 [] 0 true,DObj.row [.vec 2 0 0 0,.vec 3 0 0 0,.im (.raw (.int .i64 0)),.vec 4 0 0 0],DObj.row [.im (IC.ip [.sl (List.map j0 c.reg),.sl (List.map Ab.encI c.lets),.raw (.int .i64 c.of),.sl (List.map j5 c.loops),.mp [CK.int .i64] (R4 (B0 c)),.mp [CK.int .i64] (ai (C9 c.reg c.lets))])],DObj.vec 1 [[.im (.raw (.int .i64 n))]] 0 false]) (o:=o9 (0+1+1)++O) (by simp) (by simp) (by simp[o9]) o
  rw[h] at this
  exact this
 have f6:(s8 [1,6] [DObj.row [.im (.sl (List.map j0 c.reg)),.im (.sl (List.map Ab.encI c.lets)),.im (.raw (.int .i64 c.of)),.im (.sl (List.map j5 c.loops))],DObj.row [.im (.raw (.int .u8 n))],DObj.vec 0 [] 0 true,DObj.vec 0 [] 0 true,DObj.vec 0 [] 0 true,DObj.row [.vec 2 0 0 0,.vec 3 0 0 0,.im (.raw (.int .i64 0)),.vec 4 0 0 0],DObj.row [.im (IC.ip [.sl (List.map j0 c.reg),.sl (List.map Ab.encI c.lets),.raw (.int .i64 c.of),.sl (List.map j5 c.loops),.mp [CK.int .i64] (R4 (B0 c)),.mp [CK.int .i64] (ai (C9 c.reg c.lets))])],DObj.vec 1 [[.im (.raw (.int .i64 n))]] 0 false] (o9 (0+1+1)++O))[5]?=some (.row [.vec 2 0 0 0,.vec 3 0 0 0,.im (.raw (.int .i64 0)),.vec 4 0 0 0]):=rfl
 simp only[bN,rnVL,rnL,P8]
 revert f6 hD2
 generalize s8 [1,6] _ (o9 (0+1+1)++O)=Y
 generalize P8 _ cr=cr2
 generalize P8 _ cl=cl2
 generalize P8 _ co=co2
 generalize ab.map _=ab2
 generalize ls.map _=ls2
 intro hD2 f6
 have s6:∀ d,(Y.set 5 d)[5]?=some d:=fun d=>List.getElem?_set_self (g9 f6)
 have hD3:=fun d=>hD2.monoV (L':=fun k=>(Y.set 5 d)[k]?) fun o sz E g nl h=>by
  have:(5:Nat)≠o:=fun e=>by rw[← e,f6] at h;cases h
  rw[List.getElem?_set_ne this];exact h
 simp -dsimp[f6,s6]
 have hs:=za f6 s6
 repeat' first|(with_reducible first|refine zz ?_|refine zr ?_)|simp -dsimp[hs]
 all_goals try clear hs
 subst hQ
 exact⟨_,_,_,_,_,by rw[hXo],hD3 _⟩
end Go.Proofs
