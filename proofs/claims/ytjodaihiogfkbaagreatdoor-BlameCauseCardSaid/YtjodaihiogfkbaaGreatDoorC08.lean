/- Part 26 of the proofs. -/
import Derived.Shelf.Sort.Plain
import Derived.Shelf.Slices.In.SortNone
import Derived.Ground.NamesProg
import Derived.Shelf.Lays
import Derived.Shelf.SlGeneric
import Derived.Shelf.SlSortCmp.NoneTotal
import Derived.Ground.SlsfProg
import Derived.Test.YtjodaihiogfkbaaGreatDoorCards
import Derived.SevenTiedAt
import Derived.Test.YtjodaihiogfkbaaGreatDoorP14
import Derived.Test.YtjodaihiogfkbaaGreatDoorP15
import Derived.Test.YtjodaihiogfkbaaGreatDoorC01
import Derived.Test.YtjodaihiogfkbaaGreatDoorC02
import Derived.Test.YtjodaihiogfkbaaGreatDoorC04
import Derived.Test.YtjodaihiogfkbaaGreatDoorC05
import Derived.Test.YtjodaihiogfkbaaGreatDoorC07
set_option linter.all false
set_option linter.deprecated false
set_option maxHeartbeats 100000000
namespace Go.Proofs
open Go Go.Ab Tryz
variable {G:GW}
attribute [simp] u4 eq T1 mM A3 C2 nilV N0 ZK
theorem rH {n:Nat} {s:Susp} (h:s∈P4 n):nD n s=true:=by
 unfold nD
 rcases listS_mem.1 h with⟨_,rfl⟩|⟨i,hi,_,rfl⟩|⟨i,hi,_,rfl⟩
 ·simp
 ·rw[if_neg (by simp[fw])]
  show (((decide _&&decide _)&&(decide (0≤(i:Int))&&decide ((i:Int)≤(n:Int)-1)))=true)
  simp[fw]
  omega
 ·rw[if_neg (by simp[gJ])]
  show (((decide _&&decide _)&&(decide (0≤(i:Int))&&decide ((i:Int)≤(n:Int)-1)))=true)
  simp[gJ]
  omega
structure CauseOk (n:Nat) (lo hi:Int) (l a su op:List Susp):Prop where
 b1:1≤lo
 b2:lo≤hi
 b3:hi≤1+2*n
 b4:(l.length:Int)=lo
 b5:a≠[]↔lo=1
 b6:∀ s r,a=s :: r→∃ r',l=s :: r'
 b7:(su.length:Int)≤lo
 b8:hi≤(su.length:Int)+op.length
 lm:∀ s∈l,nD n s=true∧(s∈su∨s∈op)
 am:∀ s∈a,nD n s=true∧(s∈su∨s∈op)
 ls:l.Pairwise G7
 aS':a.Pairwise G7
 sm:∀ s∈su,s∈l∧(a=[]∨a=[s])
theorem Ev {c:Case} (h0:J4 c=0):CauseOk c.pieces.length (jh c).1 (jh c).2 (lP c) (jm c) (db c 2) (db c 1):=by
 have h:=El h0
 obtain⟨e1,e2,e3,e4⟩:=sn h0
 rw[e1,e2,e3,e3,e4]
 have ha:=xS h
 exact⟨vf h,Gq h,DU h,gP h,ha.1,ha.2,yN h,yS h,fun s hs=>⟨rH (vo h hs).1,(vo h hs).2⟩,fun s hs=>⟨rH (vE h hs).1,(vE h hs).2⟩,Bh h,(eL _).filter _,fun s hs=>⟨(pZ h hs).1,yO h hs⟩⟩
structure Hid (P:Prop):Prop where
 out:P
theorem JY {P Q:Prop} (h:Hid P→Q) (p:P):Q:=h ⟨p⟩
theorem BX (c:Case) (hq:c.pieces.length≤16):(jm c).length<100000:=by
 unfold jm
 split
 ·have h1:=List.length_filter_le (xT c) (P4 c.pieces.length)
  have h2:=iw c.pieces.length
  omega
 ·simp
set_option maxRecDepth 10000 in
theorem pF (c:Case) (hG:q8 G) (hN:E6 G) (hS:w7 G) (hU:W5 G) (hR:w9 G) (hC:L9 G) (hK:cv G) (hF:jV G) (hp:jL c.p):zP prog G 6 [n3 c] (bv true):=by
 refine zf func6 ntmps6 ?_
 try simp only[iv]
 have a1:=EE (G:=G) hG hN hS hU hR hC hK hF
 have c1:=CU (G:=G) c hp
 cases hq:ld c
 ·rw[hq] at c1
  simp only[n3,j4,rI,List.map_cons,List.map_nil] at c1 ⊢
  have hs:=trivial
  repeat' first|(with_reducible first|refine zz ?_|refine zr ?_|refine zE [0,1,2,3,4,5,6,7,8,9,10,11,12,13,14,15,16,18,26,131,132,133,134,135,168,170,171,172,173,206,208,209,210,211,234] ?_)|simp -dsimp[hs]|refine zp a1 ?_|refine zp c1 ?_|refine i9 ?_ ?_<;>intro h<;>try simp only[i7] at h
  all_goals try clear hs
 ·obtain⟨hsk,hk,h0⟩:=sJ hp hq
  rw[hq] at c1
  have c2:=rF (G:=G) c hG hN hS hU hR hC hF hk
  have c3:=ot (G:=G) c hG hN hS hU hR hC hF hk
  have c4:=rG (G:=G) c hG hN hS hU hR hC hF hk
  have c5:=jJ (G:=G) c hG hN hS hU hR hC hK hk
  have c6:=fun s=>sK (G:=G) c s (by have:=hk.q;omega)
  rw[h0] at c2 c3 c4 c5
  have hok:=Ev h0
  have hq16:=hk.q
  have l1:=pY c 2 hk.q
  have l2:=pY c 1 hk.q
  generalize jh c=N at *
  obtain⟨lo,hi⟩:=N
  generalize lP c=l at *
  obtain⟨a,hae⟩:∃ a,jm c=a:=⟨_,rfl⟩
  rw[hae] at c4 hok
  generalize db c 2=su at *
  generalize db c 1=op at *
  obtain⟨o1,o2,o3,o4,o5,o6,o7,o8,lm,am,ls,aS',sm⟩:=hok
  simp only at o1 o2 o3 o4 o5 o7 o8
  have f1:¬ lo<1:=by omega
  have f2:¬ hi<lo:=by omega
  have w1:IntKind.i64.wrap (2*(c.pieces.length:Int))=2*(c.pieces.length:Int):=p6 (by omega) (by omega)
  have w2:IntKind.i64.wrap (1+2*(c.pieces.length:Int))=1+2*(c.pieces.length:Int):=p6 (by omega) (by omega)
  have f3:¬ 1+2*(c.pieces.length:Int)<hi:=by omega
  have f4:¬ lo<(su.length:Int):=by omega
  have w3:IntKind.i64.wrap ((su.length:Int)+(op.length:Int))=(su.length:Int)+(op.length:Int):=p6 (by omega) (by omega)
  have f5:¬ (su.length:Int)+(op.length:Int)<hi:=by omega
  have d1:=fun s=>pH (G:=G) su s (by omega)
  have d2:=fun s=>pH (G:=G) op s (by omega)
  have d3:=fun s=>pH (G:=G) l s (by omega)
  have d4:=fun x y=>qk (G:=G) x y
  have o4':=eq_true o4
  have ha:(a=[]∧¬ lo=1∧(∀ h,a[0]'h=(⟨0,0⟩:Susp))∧(∀ h,l[0]'h=l[0]'h)∧True∧True)∨∃ s,¬ a=[]∧(lo=1)=True∧(∀ h,a[0]'h=s)∧(∀ h,l[0]'h=s)∧0<l.length∧0<a.length:=by
   cases a with
   | nil=>exact .inl ⟨rfl,fun e=>o5.2 e rfl,fun h=>absurd h (by simp),fun _=>rfl,trivial,trivial⟩
   | cons s r =>
     obtain⟨r',e⟩:=o6 s r rfl
     subst e
     exact .inr ⟨s,by simp,eq_true (o5.1 (by simp)),fun _=>rfl,fun _=>rfl,by simp,by simp⟩
  have hal:a.length<100000:=by rw[← hae];exact BX c hk.q
  have hll:l.length<100000:=by omega
  clear o5 o6 hae
  simp only[n3,j4,C7,C1,j5,D4,rI,List.map_cons,List.map_nil] at c1 c2 c3 c4 c5 c6 d1 d2 d3 d4 ⊢
  with_reducible apply JY
  ·intro K
   have hs:True:=trivial
   rcases ha with⟨g1,g2,g3,g4,g5,g6⟩|⟨s0,g1,g2,g3,g4,g5,g6⟩
   all_goals
    have hs:=za f1 (za f2 (za f3 (za f4 (za f5 (za w1 (za w2 (za w3 (za o4' (za g1 (za g2 (za g3 (za g4 (za g5 g6)))))))))))))
    repeat' first|with_reducible refine zz ?_|simp -dsimp[hs]|refine zp a1 ?_|refine zp c1 ?_|refine zp c2 ?_|refine zp c3 ?_|refine zp c4 ?_|refine zp c5 ?_|refine zM 8 237 83 [0,1,2,3,4,5,6,7,8,9,10,11,12,13,14,15,16,18,26,131,132,133,134,135,168,170,171,172,173,206,208,209,210,211,234] ?_|with_reducible refine zE [0,1,2,3,4,5,6,7,8,9,10,11,12,13,14,15,16,18,26,131,132,133,134,135,168,170,171,172,173,206,208,209,210,211,234] ?_|refine i9 ?_ ?_<;>intro h<;>try simp only[i7] at h
    all_goals try clear hs
   all_goals
    refine i6 (ι:={ k:Nat // k≤l.length }) (fun k=>⟨237,[(1,.one (.ptr 0 0)),(3,bv true),(6,.one (.im (.sl (l.map j5)))),(8,.one (.im (.sl (a.map j5)))),(10,.one (.im (.sl (su.map j5)))),(11,.one (.im (.sl (op.map j5)))),(132,.one (.im (.sl (l.map j5)))),(133,iv (l.length:Int)),(134,iv (k.1:Int))],[.row ((j4 c).map .im)]⟩) (fun k=>l.length-k.1) ⟨0,by omega⟩ (zw [1,3,6,8,10,11,132,133,134] 1 (by simp[g1])) ?_
    exact K.out
  ·clear ha f1 f2 f3 f4 f5 w1 w2 w3 o4' a1 c1 c2 c3 c4 c5
   rintro⟨k,hkl⟩
   simp only[iv,rI,bv]
   by_cases hlt:k<l.length
   ·have hw:=zk k
    have hx0:l[k]?=some l[k]:=by simp[hlt]
    obtain⟨e1,e2⟩:=lm l[k] (List.getElem_mem hlt)
    have c7:=c6 l[k]
    have d5:=d1 l[k]
    have d6:=d2 l[k]
    rw[e1] at c7
    have hb:(k=0∧True∧True∧True)∨(0<k∧IntKind.i64.wrap ((k:Int)-1)=((k-1:Nat):Int)∧k-1<l.length∧G7 (l[k-1]'(by omega)) l[k]):=by
     by_cases h:k=0
     ·exact .inl ⟨h,trivial,trivial,trivial⟩
     ·exact .inr ⟨by omega,by rw[p6 (by omega) (by omega)];omega,by omega,List.pairwise_iff_getElem.1 ls (k-1) k (by omega) hlt (by omega)⟩
    generalize hx:l[k]=x at *
    have hsx:(x∈su∧decide (x∈su)=true∧True)∨(x∉su∧decide (x∈su)=false∧decide (x∈op)=true):=by
     by_cases h:x∈su
     ·exact .inl ⟨h,by simp[h],trivial⟩
     ·exact .inr ⟨h,by simp[h],by rcases e2 with e2|e2<;>simp_all⟩
    clear e1 e2
    have hs:True:=trivial
    rcases hb with⟨rfl,h1,h2,h3⟩|⟨hk0,h1,h2,h3⟩
    ·have hw1:IntKind.i64.wrap 1=1:=by decide
     rcases hsx with⟨_,h5,h6⟩|⟨_,h5,h6⟩
     ·rw[h5] at d5
      have hs:=za hx (za hlt (za hw hx0))
      repeat' first|with_reducible refine zz ?_|simp -dsimp[hs]|refine zq c7 ?_|refine zq d5 ?_|refine zM 13 237 30 [0,1,2,3,4,5,6,7,8,9,10,11,12,13,14,15,16,18,26,131,132,133,134,135,168,170,171,172,173,206,208,209,210,211,234] ?_|with_reducible refine zE [0,1,2,3,4,5,6,7,8,9,10,11,12,13,14,15,16,18,26,131,132,133,134,135,168,170,171,172,173,206,208,209,210,211,234] ?_|refine i9 ?_ ?_<;>intro h<;>try simp only[i7] at h
      all_goals try clear hs
      all_goals exact zn ⟨1,by omega⟩ (zw [1,3,6,8,10,11,132,133,134] 1 (by simp[hw1]))
     ·rw[h5] at d5
      rw[h6] at d6
      have hs:=za hx (za hlt (za hw hx0))
      repeat' first|with_reducible refine zz ?_|simp -dsimp[hs]|refine zq c7 ?_|refine zq d5 ?_|refine zq d6 ?_|refine zM 13 237 30 [0,1,2,3,4,5,6,7,8,9,10,11,12,13,14,15,16,18,26,131,132,133,134,135,168,170,171,172,173,206,208,209,210,211,234] ?_|with_reducible refine zE [0,1,2,3,4,5,6,7,8,9,10,11,12,13,14,15,16,18,26,131,132,133,134,135,168,170,171,172,173,206,208,209,210,211,234] ?_|refine i9 ?_ ?_<;>intro h<;>try simp only[i7] at h
      all_goals try clear hs
      all_goals exact zn ⟨1,by omega⟩ (zw [1,3,6,8,10,11,132,133,134] 1 (by simp[hw1]))
    ·have hk0':(0:Int)<(k:Int):=by omega
     have hkn:¬ (k:Int)≤0:=by omega
     generalize hxp:l[k-1]=xp at *
     have d7:=d4 xp x
     rw[decide_eq_true ((W1 xp x).2 h3)] at d7
     clear h3
     rcases hsx with⟨_,h5,h6⟩|⟨_,h5,h6⟩
     ·rw[h5] at d5
      have hs:=za hx (za hlt (za hw (za hx0 (za hk0 (za hk0' (za h1 (za h2 hxp)))))))
      repeat' first|with_reducible refine zz ?_|simp -dsimp[hs]|refine zq c7 ?_|refine zq d5 ?_|refine zq d7 ?_|refine zM 13 237 30 [0,1,2,3,4,5,6,7,8,9,10,11,12,13,14,15,16,18,26,131,132,133,134,135,168,170,171,172,173,206,208,209,210,211,234] ?_|with_reducible refine zE [0,1,2,3,4,5,6,7,8,9,10,11,12,13,14,15,16,18,26,131,132,133,134,135,168,170,171,172,173,206,208,209,210,211,234] ?_|refine i9 ?_ ?_<;>intro h<;>try simp only[i7] at h
      all_goals try clear hs
      all_goals exact zn ⟨k+1,by omega⟩ (zw [1,3,6,8,10,11,132,133,134] 1)
     ·rw[h5] at d5
      rw[h6] at d6
      have hs:=za hx (za hlt (za hw (za hx0 (za hk0 (za hk0' (za h1 (za h2 hxp)))))))
      repeat' first|with_reducible refine zz ?_|simp -dsimp[hs]|refine zq c7 ?_|refine zq d5 ?_|refine zq d6 ?_|refine zq d7 ?_|refine zM 13 237 30 [0,1,2,3,4,5,6,7,8,9,10,11,12,13,14,15,16,18,26,131,132,133,134,135,168,170,171,172,173,206,208,209,210,211,234] ?_|with_reducible refine zE [0,1,2,3,4,5,6,7,8,9,10,11,12,13,14,15,16,18,26,131,132,133,134,135,168,170,171,172,173,206,208,209,210,211,234] ?_|refine i9 ?_ ?_<;>intro h<;>try simp only[i7] at h
      all_goals try clear hs
      all_goals exact zn ⟨k+1,by omega⟩ (zw [1,3,6,8,10,11,132,133,134] 1)
   ·obtain rfl:k=l.length:=by omega
    have hs:=hlt
    repeat' first|(with_reducible first|refine zz ?_|refine zE [0,1,2,3,4,5,6,7,8,9,10,11,12,13,14,15,16,18,26,131,132,133,134,135,168,170,171,172,173,206,208,209,210,211,234] ?_)|simp -dsimp[hs]|refine i9 ?_ ?_<;>intro h<;>try simp only[i7] at h
    all_goals try clear hs
    refine i6 (ι:={ k:Nat // k≤a.length }) (fun k=>⟨237,[(1,.one (.ptr 0 0)),(3,bv true),(6,.one (.im (.sl (l.map j5)))),(8,.one (.im (.sl (a.map j5)))),(10,.one (.im (.sl (su.map j5)))),(11,.one (.im (.sl (op.map j5)))),(170,.one (.im (.sl (a.map j5)))),(171,iv (a.length:Int)),(172,iv (k.1:Int))],[.row ((j4 c).map .im)]⟩) (fun k=>a.length-k.1) ⟨0,by omega⟩ (zw [1,3,6,8,10,11,170,171,172] 1) ?_
    rintro⟨k,hkl⟩
    simp only[iv,rI,bv]
    by_cases hlt:k<a.length
    ·have hw:=zk k
     have hx0:a[k]?=some a[k]:=by simp[hlt]
     obtain⟨e1,e2⟩:=am a[k] (List.getElem_mem hlt)
     have c7:=c6 a[k]
     have d5:=d1 a[k]
     have d6:=d2 a[k]
     rw[e1] at c7
     have hb:(k=0∧True∧True∧True)∨(0<k∧IntKind.i64.wrap ((k:Int)-1)=((k-1:Nat):Int)∧k-1<a.length∧G7 (a[k-1]'(by omega)) a[k]):=by
      by_cases h:k=0
      ·exact .inl ⟨h,trivial,trivial,trivial⟩
      ·exact .inr ⟨by omega,by rw[p6 (by omega) (by omega)];omega,by omega,List.pairwise_iff_getElem.1 aS' (k-1) k (by omega) hlt (by omega)⟩
     generalize hx:a[k]=x at *
     have hsx:(x∈su∧decide (x∈su)=true∧True)∨(x∉su∧decide (x∈su)=false∧decide (x∈op)=true):=by
      by_cases h:x∈su
      ·exact .inl ⟨h,by simp[h],trivial⟩
      ·exact .inr ⟨h,by simp[h],by rcases e2 with e2|e2<;>simp_all⟩
     clear e1 e2
     have hs:True:=trivial
     rcases hb with⟨rfl,h1,h2,h3⟩|⟨hk0,h1,h2,h3⟩
     ·have hw1:IntKind.i64.wrap 1=1:=by decide
      rcases hsx with⟨_,h5,h6⟩|⟨_,h5,h6⟩
      ·rw[h5] at d5
       have hs:=za hx (za hlt (za hw hx0))
       repeat' first|with_reducible refine zz ?_|simp -dsimp[hs]|refine zq c7 ?_|refine zq d5 ?_|refine zM 19 237 30 [0,1,2,3,4,5,6,7,8,9,10,11,12,13,14,15,16,18,26,131,132,133,134,135,168,170,171,172,173,206,208,209,210,211,234] ?_|with_reducible refine zE [0,1,2,3,4,5,6,7,8,9,10,11,12,13,14,15,16,18,26,131,132,133,134,135,168,170,171,172,173,206,208,209,210,211,234] ?_|refine i9 ?_ ?_<;>intro h<;>try simp only[i7] at h
       all_goals try clear hs
       all_goals exact zn ⟨1,by omega⟩ (zw [1,3,6,8,10,11,170,171,172] 1 (by simp[hw1]))
      ·rw[h5] at d5
       rw[h6] at d6
       have hs:=za hx (za hlt (za hw hx0))
       repeat' first|with_reducible refine zz ?_|simp -dsimp[hs]|refine zq c7 ?_|refine zq d5 ?_|refine zq d6 ?_|refine zM 19 237 30 [0,1,2,3,4,5,6,7,8,9,10,11,12,13,14,15,16,18,26,131,132,133,134,135,168,170,171,172,173,206,208,209,210,211,234] ?_|with_reducible refine zE [0,1,2,3,4,5,6,7,8,9,10,11,12,13,14,15,16,18,26,131,132,133,134,135,168,170,171,172,173,206,208,209,210,211,234] ?_|refine i9 ?_ ?_<;>intro h<;>try simp only[i7] at h
       all_goals try clear hs
       all_goals exact zn ⟨1,by omega⟩ (zw [1,3,6,8,10,11,170,171,172] 1 (by simp[hw1]))
     ·have hk0':(0:Int)<(k:Int):=by omega
      have hkn:¬ (k:Int)≤0:=by omega
      generalize hxp:a[k-1]=xp at *
      have d7:=d4 xp x
      rw[decide_eq_true ((W1 xp x).2 h3)] at d7
      clear h3
      rcases hsx with⟨_,h5,h6⟩|⟨_,h5,h6⟩
      ·rw[h5] at d5
       have hs:=za hx (za hlt (za hw (za hx0 (za hk0 (za hk0' (za h1 (za h2 hxp)))))))
       repeat' first|with_reducible refine zz ?_|simp -dsimp[hs]|refine zq c7 ?_|refine zq d5 ?_|refine zq d7 ?_|refine zM 19 237 30 [0,1,2,3,4,5,6,7,8,9,10,11,12,13,14,15,16,18,26,131,132,133,134,135,168,170,171,172,173,206,208,209,210,211,234] ?_|with_reducible refine zE [0,1,2,3,4,5,6,7,8,9,10,11,12,13,14,15,16,18,26,131,132,133,134,135,168,170,171,172,173,206,208,209,210,211,234] ?_|refine i9 ?_ ?_<;>intro h<;>try simp only[i7] at h
       all_goals try clear hs
       all_goals exact zn ⟨k+1,by omega⟩ (zw [1,3,6,8,10,11,170,171,172] 1)
      ·rw[h5] at d5
       rw[h6] at d6
       have hs:=za hx (za hlt (za hw (za hx0 (za hk0 (za hk0' (za h1 (za h2 hxp)))))))
       repeat' first|with_reducible refine zz ?_|simp -dsimp[hs]|refine zq c7 ?_|refine zq d5 ?_|refine zq d6 ?_|refine zq d7 ?_|refine zM 19 237 30 [0,1,2,3,4,5,6,7,8,9,10,11,12,13,14,15,16,18,26,131,132,133,134,135,168,170,171,172,173,206,208,209,210,211,234] ?_|with_reducible refine zE [0,1,2,3,4,5,6,7,8,9,10,11,12,13,14,15,16,18,26,131,132,133,134,135,168,170,171,172,173,206,208,209,210,211,234] ?_|refine i9 ?_ ?_<;>intro h<;>try simp only[i7] at h
       all_goals try clear hs
       all_goals exact zn ⟨k+1,by omega⟩ (zw [1,3,6,8,10,11,170,171,172] 1)
    ·obtain rfl:k=a.length:=by omega
     have hs:=hlt
     repeat' first|(with_reducible first|refine zz ?_|refine zE [0,1,2,3,4,5,6,7,8,9,10,11,12,13,14,15,16,18,26,131,132,133,134,135,168,170,171,172,173,206,208,209,210,211,234] ?_)|simp -dsimp[hs]|refine i9 ?_ ?_<;>intro h<;>try simp only[i7] at h
     all_goals try clear hs
     refine i6 (ι:={ k:Nat // k≤su.length }) (fun k=>⟨237,[(3,bv true),(6,.one (.im (.sl (l.map j5)))),(8,.one (.im (.sl (a.map j5)))),(208,.one (.im (.sl (su.map j5)))),(209,iv (su.length:Int)),(210,iv (k.1:Int))],[.row ((j4 c).map .im)]⟩) (fun k=>su.length-k.1) ⟨0,by omega⟩ (zw [3,6,8,208,209,210] 1) ?_
     rintro⟨k,hkl⟩
     simp only[iv,rI,bv]
     by_cases hlt:k<su.length
     ·have hw:=zk k
      have hx0:su[k]?=some su[k]:=by simp[hlt]
      obtain⟨e1,e2⟩:=sm su[k] (List.getElem_mem hlt)
      have d5:=d3 su[k]
      rw[decide_eq_true e1] at d5
      generalize hx:su[k]=x at *
      have hs:True:=trivial
      rcases e2 with e2|e2
      ·have hs:=za hx (za hlt (za hw (za hx0 e2)))
       repeat' first|with_reducible refine zz ?_|simp -dsimp[hs]|refine zq d5 ?_|refine zM 25 237 21 [0,1,2,3,4,5,6,7,8,9,10,11,12,13,14,15,16,18,26,131,132,133,134,135,168,170,171,172,173,206,208,209,210,211,234] ?_|with_reducible refine zE [0,1,2,3,4,5,6,7,8,9,10,11,12,13,14,15,16,18,26,131,132,133,134,135,168,170,171,172,173,206,208,209,210,211,234] ?_|refine i9 ?_ ?_<;>intro h<;>try simp only[i7] at h
       all_goals try clear hs
       all_goals exact zn ⟨k+1,by omega⟩ (zw [3,6,8,208,209,210] 1 (by simp[e2]))
      ·have hs:=za hx (za hlt (za hw (za hx0 e2)))
       repeat' first|with_reducible refine zz ?_|simp -dsimp[hs]|refine zq d5 ?_|refine zM 25 237 21 [0,1,2,3,4,5,6,7,8,9,10,11,12,13,14,15,16,18,26,131,132,133,134,135,168,170,171,172,173,206,208,209,210,211,234] ?_|with_reducible refine zE [0,1,2,3,4,5,6,7,8,9,10,11,12,13,14,15,16,18,26,131,132,133,134,135,168,170,171,172,173,206,208,209,210,211,234] ?_|refine i9 ?_ ?_<;>intro h<;>try simp only[i7] at h
       all_goals try clear hs
       all_goals exact zn ⟨k+1,by omega⟩ (zw [3,6,8,208,209,210] 1 (by simp[e2]))
     ·obtain rfl:k=su.length:=by omega
      have hs:=hlt
      repeat' first|(with_reducible first|refine zz ?_|refine zr ?_|refine zE [0,1,2,3,4,5,6,7,8,9,10,11,12,13,14,15,16,18,26,131,132,133,134,135,168,170,171,172,173,206,208,209,210,211,234] ?_)|simp -dsimp[hs]|refine i9 ?_ ?_<;>intro h<;>try simp only[i7] at h
      all_goals try clear hs
end Go.Proofs
namespace Go.Ab
open Go Go.Sort
theorem RelM.grownS {G:GW} {M:MS} {w':World} {os:Array Obj} (h:RelM G M) (hw:w'.heap=M.w.heap++os) (hio:SameIo M.w w'):RelM G { M with w:=w' }∧Ext M.objs.length M { M with w:=w' }:=by
 have hold:∀ {b:Nat},b<M.w.heap.size→w'.heap[b]?=M.w.heap[b]?:=fun {b} hb=>by rw[hw];simp[Array.getElem?_append,hb]
 have hsz:M.w.heap.size≤w'.heap.size:=by rw[hw];simp
 have he:Ext M.objs.length M { M with w:=w' }:=
  ⟨Nat.le_refl _,fun b hb=>⟨⟨Nat.lt_of_lt_of_le hb.1 hsz,hb.2⟩,hold hb.1⟩,cU M,hsz,fun p _ c' hc=>⟨⟨c',hc⟩,rfl⟩,
   fun p _ sz es g nl hv=>⟨sz,es,g,nl,hv,Nat.le_refl _,fun _=>⟨rfl,rfl,fun hn=>⟨rfl,by simp only[H9];rw[hold (h.lt p _ hv (by simp[DObj.blk,hn]))]⟩⟩⟩,fun p _ ks es hm=>⟨⟨ks,es,hm⟩,rfl⟩,
   fun p _ r hm=>⟨⟨r,hm⟩,rfl⟩,fun p _ d hm hi=>⟨⟨d,hm,hi⟩,rfl⟩,fun p _ r hm=>⟨⟨r,hm⟩,rfl⟩,hio⟩
 exact⟨⟨fun o d ho=>(h.objs o d ho).ext he (fun _=>rfl) (fun hb=>hold (h.lt o d ho hb)),fun o d ho hb=>Nat.lt_of_lt_of_le (h.lt o d ho hb) hsz,h.inj,fun g l hg=>(h.glob g l hg).mono he.ok,fun b hF=>Nat.lt_of_lt_of_le (h.fl b hF) hsz,h.own⟩,he⟩
theorem oN {l:List Int} {c:Array Value} {i:Nat} (hi:i<l.length) (hc:i<c.size):(putCells (Value.int .i64) 0 l.toArray c)[i]?=some (.int .i64 l[i]):=by
 simp only[putCells,Array.getElem?_mapIdx,Array.getElem?_eq_getElem hc,Option.map_some]
 rw[if_pos ⟨Nat.zero_le _,by simpa using hi⟩]
 simp[hi]
theorem DCall.sort {P:Program} {G:GW} {f:FuncId}
 (hS:∀ (blk cap:Nat) (zs:List Int) (w:World),Holds (Value.int .i64) w blk 0 zs.toArray→blk<w.heap.size→zs.length<4611686018427387904 →
  Calls P f #[.slice (some ⟨blk,0,none⟩) zs.length cap] w fun e w'=>e=.returned (.tuple #[])∧∃ n os,w'=grow (putRow (Value.int .i64) (Sort.ahead w n) blk 0 (zs.mergeSort fun x y=>decide (x≤y)).toArray) os)
 (h0:∀ (a:Option Addr) (cap:Nat) (w:World),Calls P f #[.slice a 0 cap] w fun e w'=>e=.returned (.tuple #[])∧w'=w)
 (l:List Int) (g sz:Nat) (nl:Bool) (hz:sz=1∨nl=true∧l=[]) (hl:l.length<1000000) :
 DCall P G f [.one (.vec 0 g 0 l.length)] [.vec sz (l8 (l.map Ab.encI)) g nl] (fun d o=>d=.tup []∧o=[.vec sz (l8 ((l4 l).map Ab.encI)) g nl]):=by
 intro M vs hM ho hsz hr
 obtain⟨v,rfl⟩:∃ v,vs=#[v]:=by
  obtain⟨vl⟩:=vs
  match vl,hsz with
  | [v],_=>exact⟨v,rfl⟩
 have hv:=hr 0 _ v rfl rfl
 have h1:M.objs[0]?=some (.vec sz (l8 (l.map Ab.encI)) g nl):=by rw[ho];rfl
 have hO:=hM.objs 0 _ h1
 cases hv with
 | one _ _ hv =>
 cases hv with
 | vec _ _ _ _ _ _ _ hv =>
 obtain⟨_,hv⟩:=hv _ _ _ _ h1
 obtain⟨hvt,hvf⟩:=hv rfl
 have hnil:∀ (a:Option Addr) (cap:Nat),l=[]→Calls P f #[.slice a 0 cap] M.w fun e w'=>∃ v d M',e=.returned v∧M'.w=w'∧RelM G M'∧RepV M' d v∧Ext 1 M M'∧d=.tup []∧M'.objs=[.vec sz (l8 ((l4 l).map Ab.encI)) g nl]:=fun a cap hle=>by
  refine(h0 a cap M.w).mono fun e w' ⟨he,hw⟩=>?_
  subst hw
  refine⟨_,.tup [],M,he,rfl,hM,.tup _ _ rfl (fun j d v h=>by simp at h),(Ext.refl M).weaken (by simp[ho]),rfl,?_⟩
  rw[ho,hle,show l4 []=[] from List.mergeSort_nil]
 cases nl with
 | true =>
   obtain⟨_,e,hv⟩:=hvt rfl
   have e:l=[]:=List.eq_nil_of_length_eq_zero e
   have:=hnil none 0 e
   rw[hv];simpa using this
 | false =>
   obtain rfl:sz=1:=hz.resolve_right fun h=>Bool.noConfusion h.1
   obtain⟨x,cap,hv,hc,hx,hb⟩:=hvf rfl
   by_cases e:l=[]
   ·have:=hnil (some ⟨M.β 0,x,none⟩) cap e
    rw[hv];subst e;simpa using this
   have hlp:0<l.length:=List.length_pos_iff.2 e
   have hx0:x=0:=by rcases hx with hx|hx<;>omega
   subst hx0
   obtain⟨_,hO⟩:=hO
   obtain⟨_,c,T,hh,hcs,hes,hrep⟩:=hO rfl
   have hcl:l.length≤c.size:=by simpa[r5] using hcs
   have hcell:∀ j (hj:j<l.length),c[j]?=some (.int .i64 l[j]):=fun j hj=>by
    have hjc:j<c.size:=by omega
    have:=hrep j [DC.im (.raw (.int .i64 l[j]))] 0 (.im (.raw (.int .i64 l[j]))) c[j] (by simp[l8,hj]) rfl (by simp[hjc])
    have hcj:c[j]?=some c[j]:=by simp[hjc]
    generalize c[j]=y at this hcj
    cases this with
    | im _ _ hi =>
      cases hi
      exact hcj
   have hH:Holds (Value.int .i64) M.w (M.β 0) 0 l.toArray:=fun j hj=>by
    have hj:j<l.length:=by simpa using hj
    refine⟨?_,?_⟩
    ·simp only[World.cell?,hh]
     simp[hcell j hj,hj]
    ·simp[World.frozen?,hh]
   have hlt:M.β 0<M.w.heap.size:=hM.lt 0 _ h1 rfl
   rw[hv]
   refine(hS (M.β 0) cap l M.w hH hlt (by omega)).mono fun e' w' ⟨he,n,os,hw⟩=>?_
   have hmod:M.w.heap.modify (M.β 0) (onCells (putCells (Value.int .i64) 0 (l4 l).toArray))=M.w.heap.setIfInBounds (M.β 0) (.cells (putCells (Value.int .i64) 0 (l4 l).toArray c) T (0,0)):=by
    apply Array.ext_getElem?
    intro k
    simp only[Array.getElem?_modify,Array.getElem?_setIfInBounds]
    by_cases hk:M.β 0=k
    ·subst hk;rw[if_pos rfl,if_pos rfl,if_pos hlt,hh];rfl
    ·simp[hk]
   have ha:(DObj.vec 1 (l8 (l.map Ab.encI)) g false).alike (.vec 1 (l8 ((l4 l).map Ab.encI)) g false):=⟨rfl,.inl ⟨rfl,rfl⟩⟩
   have hs:L0 (.cells (putCells (Value.int .i64) 0 (l4 l).toArray c) T (0,0))=L0 (.cells c T (0,0)):=by simp[L0,putCells]
   have hE:=Ext.turn (d':=.vec 1 (l8 ((l4 l).map Ab.encI)) g false) h1 rfl ha hh hs
   have hR:=RelM.turn (d':=.vec 1 (l8 ((l4 l).map Ab.encI)) g false) hM h1 rfl ha hh hs (by
    refine⟨fun h=>Bool.noConfusion h,fun _=>⟨by omega,putCells (Value.int .i64) 0 (l4 l).toArray c,T,by simp[MS.turn,Array.getElem?_setIfInBounds_self_of_lt hlt],by simpa[r5,M9,putCells] using hcl,fun i x hx=>?_,fun i x j d v hx hj hv=>?_⟩⟩
    ·simp only[l8,List.getElem?_map,Option.map_map] at hx
     obtain⟨y,_,rfl⟩:=Option.map_eq_some_iff.1 hx
     rfl
    ·simp only[l8,List.getElem?_map,Option.map_map] at hx
     obtain⟨y,hy,rfl⟩:=Option.map_eq_some_iff.1 hx
     have hil:i<(l4 l).length:=e7 hy
     match j,hj with
     | 0,hj =>
       cases hj
       have hic:i<c.size:=by rw[M9] at hil;omega
       rw[Nat.mul_one,Nat.add_zero,oN hil hic] at hv
       have e:(l4 l)[i]'hil=y:=(List.getElem?_eq_some_iff.1 hy).2
       cases hv
       rw[e]
       exact .im _ _ (.raw _ rfl))
   have hg:=RelM.grownS (w':=w') (os:=os) hR (by rw[hw];simp only[grow,putRow,mapBlock,Sort.ahead,MS.turn];rw[show (l.mergeSort fun x y=>decide (x≤y))=l4 l from rfl,hmod]) (by rw[hw];exact⟨rfl,rfl,rfl,Nat.le_add_right _ _⟩)
   refine⟨_,.tup [],_,he,?_,hg.1,.tup _ _ rfl (fun j d v h=>by simp at h),?_,rfl,?_⟩
   ·rfl
   ·have hl1:M.objs.length=1:=by rw[ho];rfl
    have h2:=hg.2
    rw[show (M.turn 0 (.cells (putCells (Value.int .i64) 0 (l4 l).toArray c) T (0,0)) (.vec 1 (l8 ((l4 l).map Ab.encI)) g false)).objs.length=1 by simp[MS.turn,ho]] at h2
    rw[hl1] at hE
    exact hE.trans h2
   ·simp[MS.turn,ho]
end Go.Ab
namespace Go.Proofs
open Go.Shelf
def Tryz.laysSort_ren:Go.Shelf.Ren:=⟨fun|189=>173|125=>201|257=>221|128=>249|129=>250|294=>270|295=>271|296=>272|297=>273|298=>274|299=>275|216=>196|300=>276|301=>277|328=>302|329=>286|330=>287|331=>303|332=>304|215=>239|343=>314|n=>n,fun|28=>40|3=>3|46=>287|0=>0|51=>157|53=>335|4=>4|183=>328|182=>327|131=>154|5=>5|9=>9|218=>363|222=>367|228=>390|229=>391|n=>n,fun|n=>n⟩
theorem Tryz.laysSort:Go.Proofs.Lays.n189 Tryz.prog Tryz.laysSort_ren:={
 mixed:=by kernel_rfl
 f125:=Tryz.func201.trans (congrArg some (by kernel_rfl))
 f128:=Tryz.func249.trans (congrArg some (by kernel_rfl))
 f129:=Tryz.func250.trans (congrArg some (by kernel_rfl))
 f189:=Tryz.func173.trans (congrArg some (by kernel_rfl))
 f215:=Tryz.func239.trans (congrArg some (by kernel_rfl))
 f216:=Tryz.func196.trans (congrArg some (by kernel_rfl))
 f257:=Tryz.func221.trans (congrArg some (by kernel_rfl))
 f294:=Tryz.func270.trans (congrArg some (by kernel_rfl))
 f295:=Tryz.func271.trans (congrArg some (by kernel_rfl))
 f296:=Tryz.func272.trans (congrArg some (by kernel_rfl))
 f297:=Tryz.func273.trans (congrArg some (by kernel_rfl))
 f298:=Tryz.func274.trans (congrArg some (by kernel_rfl))
 f299:=Tryz.func275.trans (congrArg some (by kernel_rfl))
 f300:=Tryz.func276.trans (congrArg some (by kernel_rfl))
 f301:=Tryz.func277.trans (congrArg some (by kernel_rfl))
 f328:=Tryz.func302.trans (congrArg some (by kernel_rfl))
 f329:=Tryz.func286.trans (congrArg some (by kernel_rfl))
 f330:=Tryz.func287.trans (congrArg some (by kernel_rfl))
 f331:=Tryz.func303.trans (congrArg some (by kernel_rfl))
 f332:=Tryz.func304.trans (congrArg some (by kernel_rfl))
 f343:=Tryz.func314.trans (congrArg some (by kernel_rfl))
 t0:=Tryz.underlying0
 a0:=Tryz.isAgg0
 z0:=Tryz.sizeOf0
 v0:=Tryz.zeroValue0
 t3:=Tryz.underlying3
 a3:=Tryz.isAgg3
 z3:=Tryz.sizeOf3
 v3:=Tryz.zeroValue3
 t4:=Tryz.underlying4
 a4:=Tryz.isAgg4
 z4:=Tryz.sizeOf4
 v4:=Tryz.zeroValue4
 t5:=Tryz.underlying5
 a5:=Tryz.isAgg5
 z5:=Tryz.sizeOf5
 v5:=Tryz.zeroValue5
 t9:=Tryz.underlying9
 a9:=Tryz.isAgg9
 z9:=Tryz.sizeOf9
 v9:=Tryz.zeroValue9
 t28:=Tryz.underlying40
 a28:=Tryz.isAgg40
 z28:=Tryz.sizeOf40
 v28:=Tryz.zeroValue40
 t46:=Tryz.underlying287
 a46:=Tryz.isAgg287
 z46:=Tryz.sizeOf287
 v46:=Tryz.zeroValue287
 t51:=Tryz.underlying157
 a51:=Tryz.isAgg157
 z51:=Tryz.sizeOf157
 v51:=Tryz.zeroValue157
 t53:=Tryz.underlying335
 a53:=Tryz.isAgg335
 z53:=Tryz.sizeOf335
 v53:=Tryz.zeroValue335
 t131:=Tryz.underlying154
 a131:=Tryz.isAgg154
 z131:=Tryz.sizeOf154
 v131:=Tryz.zeroValue154
 t182:=Tryz.underlying327
 a182:=Tryz.isAgg327
 z182:=Tryz.sizeOf327
 v182:=Tryz.zeroValue327
 t183:=Tryz.underlying328
 a183:=Tryz.isAgg328
 z183:=Tryz.sizeOf328
 v183:=Tryz.zeroValue328
 t218:=Tryz.underlying363
 a218:=Tryz.isAgg363
 z218:=Tryz.sizeOf363
 v218:=Tryz.zeroValue363
 t222:=Tryz.underlying367
 a222:=Tryz.isAgg367
 z222:=Tryz.sizeOf367
 v222:=Tryz.zeroValue367
 t228:=Tryz.underlying390
 a228:=Tryz.isAgg390
 z228:=Tryz.sizeOf390
 v228:=Tryz.zeroValue390
 t229:=Tryz.underlying391
 a229:=Tryz.isAgg391
 z229:=Tryz.sizeOf391
 v229:=Tryz.zeroValue391 }
end Go.Proofs
namespace Go.Proofs
open Go Go.Ab
theorem Fy (G:GW):w7 G:=fun l g sz nl hz hl =>
 DCall.sort (P:=Tryz.prog) (G:=G) (f:=173) (fun blk cap zs w hH hb hs=>Any.slices_Sort_int Tryz.laysSort blk 0 cap zs w hH hb hs) (fun a cap w=>Any.slices_Sort_int_none Tryz.laysSort a cap w) l g sz nl hz hl
end Go.Proofs
namespace Go.Proofs
open Go.Shelf
def Tryz.laysSus_ren:Go.Shelf.Ren:=⟨fun|6=>138|15=>201|14=>200|28=>249|29=>250|20=>241|21=>242|22=>243|23=>244|24=>245|25=>246|26=>247|27=>248|46=>285|47=>286|48=>287|49=>288|50=>289|57=>305|n=>n,fun|22=>52|24=>42|25=>140|3=>3|39=>287|0=>0|53=>157|55=>335|4=>4|46=>328|45=>327|50=>154|5=>5|9=>9|66=>363|70=>367|76=>390|77=>391|n=>n,fun|n=>n⟩
theorem Tryz.laysSus:Go.Proofs.SlLaysF0.n6 Tryz.prog Tryz.laysSus_ren:={
 mixed:=by kernel_rfl
 f6:=⟨Tryz.f138.name,by decide,Tryz.func138.trans (congrArg some (by kernel_rfl))⟩
 f14:=⟨Tryz.f200.name,by decide,Tryz.func200.trans (congrArg some (by kernel_rfl))⟩
 f15:=Tryz.func201.trans (congrArg some (by kernel_rfl))
 f20:=⟨Tryz.f241.name,by decide,Tryz.func241.trans (congrArg some (by kernel_rfl))⟩
 f21:=⟨Tryz.f242.name,by decide,Tryz.func242.trans (congrArg some (by kernel_rfl))⟩
 f22:=⟨Tryz.f243.name,by decide,Tryz.func243.trans (congrArg some (by kernel_rfl))⟩
 f23:=⟨Tryz.f244.name,by decide,Tryz.func244.trans (congrArg some (by kernel_rfl))⟩
 f24:=⟨Tryz.f245.name,by decide,Tryz.func245.trans (congrArg some (by kernel_rfl))⟩
 f25:=⟨Tryz.f246.name,by decide,Tryz.func246.trans (congrArg some (by kernel_rfl))⟩
 f26:=⟨Tryz.f247.name,by decide,Tryz.func247.trans (congrArg some (by kernel_rfl))⟩
 f27:=⟨Tryz.f248.name,by decide,Tryz.func248.trans (congrArg some (by kernel_rfl))⟩
 f28:=Tryz.func249.trans (congrArg some (by kernel_rfl))
 f29:=Tryz.func250.trans (congrArg some (by kernel_rfl))
 f46:=⟨Tryz.f285.name,by decide,Tryz.func285.trans (congrArg some (by kernel_rfl))⟩
 f47:=Tryz.func286.trans (congrArg some (by kernel_rfl))
 f48:=Tryz.func287.trans (congrArg some (by kernel_rfl))
 f49:=⟨Tryz.f288.name,by decide,Tryz.func288.trans (congrArg some (by kernel_rfl))⟩
 f50:=⟨Tryz.f289.name,by decide,Tryz.func289.trans (congrArg some (by kernel_rfl))⟩
 f57:=⟨Tryz.f305.name,by decide,Tryz.func305.trans (congrArg some (by kernel_rfl))⟩
 t0:=Tryz.underlying0
 a0:=Tryz.isAgg0
 z0:=Tryz.sizeOf0
 v0:=Tryz.zeroValue0
 t3:=Tryz.underlying3
 a3:=Tryz.isAgg3
 z3:=Tryz.sizeOf3
 v3:=Tryz.zeroValue3
 t4:=Tryz.underlying4
 a4:=Tryz.isAgg4
 z4:=Tryz.sizeOf4
 v4:=Tryz.zeroValue4
 t5:=Tryz.underlying5
 a5:=Tryz.isAgg5
 z5:=Tryz.sizeOf5
 v5:=Tryz.zeroValue5
 t9:=Tryz.underlying9
 a9:=Tryz.isAgg9
 z9:=Tryz.sizeOf9
 v9:=Tryz.zeroValue9
 t22:=Tryz.underlying52
 a22:=Tryz.isAgg52
 z22:=Tryz.sizeOf52
 v22:=Tryz.zeroValue52
 t25:=Tryz.underlying140
 a25:=Tryz.isAgg140
 z25:=Tryz.sizeOf140
 v25:=Tryz.zeroValue140
 t39:=Tryz.underlying287
 a39:=Tryz.isAgg287
 z39:=Tryz.sizeOf287
 v39:=Tryz.zeroValue287
 t45:=Tryz.underlying327
 a45:=Tryz.isAgg327
 z45:=Tryz.sizeOf327
 v45:=Tryz.zeroValue327
 t46:=Tryz.underlying328
 a46:=Tryz.isAgg328
 z46:=Tryz.sizeOf328
 v46:=Tryz.zeroValue328
 t50:=Tryz.underlying154
 a50:=Tryz.isAgg154
 z50:=Tryz.sizeOf154
 v50:=Tryz.zeroValue154
 t53:=Tryz.underlying157
 a53:=Tryz.isAgg157
 z53:=Tryz.sizeOf157
 v53:=Tryz.zeroValue157
 t55:=Tryz.underlying335
 a55:=Tryz.isAgg335
 z55:=Tryz.sizeOf335
 v55:=Tryz.zeroValue335
 t66:=Tryz.underlying363
 a66:=Tryz.isAgg363
 z66:=Tryz.sizeOf363
 v66:=Tryz.zeroValue363
 t70:=Tryz.underlying367
 a70:=Tryz.isAgg367
 z70:=Tryz.sizeOf367
 v70:=Tryz.zeroValue367
 t76:=Tryz.underlying390
 a76:=Tryz.isAgg390
 z76:=Tryz.sizeOf390
 v76:=Tryz.zeroValue390
 t77:=Tryz.underlying391
 a77:=Tryz.isAgg391
 z77:=Tryz.sizeOf391
 v77:=Tryz.zeroValue391 }
end Go.Proofs
namespace Go.Proofs
open Go Go.Ab Go.Sort
theorem Jy:SWO (fun x y:xY=>decide (I8 x.1 y.1<0)) where
 irrefl x:=by
  rw[decide_eq_false_iff_not,W1];unfold G7;omega
 trans x y z h1 h2:=by
  rw[decide_eq_true_iff,W1] at *
  exact ue h1 h2
 ntrans x y z h1 h2:=by
  rw[decide_eq_false_iff_not,W1] at *
  unfold G7 at *
  omega
theorem CN (G:GW):W5 G:=fun l gn sz nl hz hl =>
 DCall.sortF (P:=Tryz.prog) (G:=G) (f:=138) (g:=86) vr 2 (by decide) (fun _=>rfl) (fun a b=>I8 a.1 b.1) Jy (fun x y=>by have h:=uY (G:=fun _=>none) x.1 y.1 x.2 y.2;exact h)
  (fun α _ en hk h1 c hO blk cap d w hcmp hH hb hs=>AnyQ.slices_SortFunc Tryz.laysSus 2 Tryz.isAgg42 Tryz.sizeOf42 en hk h1 c hO 86 #[] blk 0 cap d w (by simp) hcmp hH hb hs)
  (fun a cap w=>AnyF.slices_SortFunc_none Tryz.laysSus a cap _ w) (.im (.fn (.func 86) []))
  (fun M v hv=>by
   cases hv with
   | im _ _ h=>cases h with
     | fn _ _ vs h1 _ =>
       have:vs=#[]:=Array.eq_empty_of_size_eq_zero (by simpa using h1.symm)
       rw[this]) l gn sz nl hz hl
end Go.Proofs
namespace Go.Proofs.YtjodaihiogfkbaaGreatDoor
open Go Go.Ab Go.ChangeShapes Go.WideShapes Go.ChangeAt Go.RowKit
def G6 (g:Nat):Option (List IC):=if g=5 then some [.fn (.func 357) [],.fn (.func 358) [],.fn (.func 359) [],.fn (.func 360) []] else if g=7 then some [.fn (.func 372) [],.fn (.func 373) [],.fn (.func 374) []] else if g=4 then some [.fn (.func 346) [],.fn (.func 347) [],.fn (.func 348) [],.fn (.func 349) [],.fn (.func 350) [],.fn (.func 351) [],.fn (.func 354) [],.fn (.func 356) []] else if g=6 then some [.fn (.func 364) [],.fn (.func 365) [],.fn (.func 366) [],.fn (.func 369) [],.fn (.func 370) []] else if g=1 then some [.raw .nilFunc,.fn (.func 339) [],.fn (.func 340) [],.fn (.func 343) []] else if g=0 then some [.raw (.bool false),.raw (.bool false)] else if g=2 then some [.raw (.bool true),.raw (.bool false)] else if g=3 then some [.raw (.bool false),.raw (.bool true)] else .none
theorem gSheet:Tryz.prog.globalNamed "blueline/sheet.checks" = some 5:=by kernel_rfl
theorem tSheet:(Tryz.prog.globals[5]?).map (·.type)=some 311:=by kernel_rfl
theorem gChain:Tryz.prog.globalNamed "blueline/chain.checks" = some 7:=by kernel_rfl
theorem tChain:(Tryz.prog.globals[7]?).map (·.type)=some 386:=by kernel_rfl
theorem gNote:Tryz.prog.globalNamed "blueline/note.checks" = some 4:=by kernel_rfl
theorem tNote:(Tryz.prog.globals[4]?).map (·.type)=some 257:=by kernel_rfl
theorem gRecall:Tryz.prog.globalNamed "blueline/recall.checks" = some 6:=by kernel_rfl
theorem tRecall:(Tryz.prog.globals[6]?).map (·.type)=some 380:=by kernel_rfl
theorem own:ownKnob Tryz.prog.godebug=.none:=by kernel_rfl
theorem DD:laidOutB Tryz.prog=true:=by kernel_rfl
theorem ep {W:World} {g:Nat} {fs:List FuncId} (h0:0<fs.length) (h:∀ (j:Nat) (f:FuncId),fs[j]?=some f→W.cell? ⟨g,j,.none⟩=some (.func (.func f) #[] #[])):RepI W (wv W) (.ip (fs.map fun f=>.fn (.func f) [])) (.pointer (some ⟨g,0,.none⟩)):=by
 have hb:g<W.heap.size:=W4 (a:=⟨g,0,.none⟩) (h 0 fs[0] (by simp))
 refine .ip _ _ (fun j=>.func (.func (fs.getD j 0)) #[] #[]) rfl hb (fun j c hj=>?_) (fun j c hj=>?_)
 ·rw[List.getElem?_map,Option.map_eq_some_iff] at hj
  obtain⟨f,hf,rfl⟩:=hj
  have:=h j f hf
  simpa[hf] using this
 ·rw[List.getElem?_map,Option.map_eq_some_iff] at hj
  obtain⟨f,hf,rfl⟩:=hj
  simpa[hf] using RepI.fn (w:=W) (ok:=wv W) (.func f) [] #[] rfl (fun j c v h=>by simp at h)
theorem qf {W:World} (h:laidMetH Tryz.prog Rows.blameCauseRow.laid W):∀ (j:Nat) (f:FuncId),[357,358,359,360][j]?=some f→W.cell? ⟨5,j,.none⟩=some (.func (.func f) #[] #[]):=by
 obtain⟨g,t,cs,fuel,p,hg,ht,hv,hd⟩:=h.funcs (n:= "blueline/sheet.checks") (List.mem_cons_self ..)
 obtain rfl:=Option.some.inj (gSheet.symm.trans hg)
 obtain rfl:=Option.some.inj (tSheet.symm.trans ht)
 intro j f hj
 rw[World.var?_cell hg hv j]
 exact T3 (names:=[[98,108,117,101,108,105,110,101,47,115,104,101,101,116,46,99,104,101,99,107,115,36,49],[98,108,117,101,108,105,110,101,47,115,104,101,101,116,46,99,104,101,99,107,115,36,50],[98,108,117,101,108,105,110,101,47,115,104,101,101,116,46,99,104,101,99,107,115,36,51],[98,108,117,101,108,105,110,101,47,115,104,101,101,116,46,99,104,101,99,107,115,36,52]]) (fs:=[357,358,359,360]) Tryz.underlying311 Tryz.underlying310 rfl rfl Tryz.underlying309 (by kernel_rfl) (by kernel_rfl) rfl (by kernel_rfl) rfl hd j f hj
theorem rz {W:World} (h:laidMetH Tryz.prog Rows.blameCauseRow.laid W):∀ (j:Nat) (f:FuncId),[372,373,374][j]?=some f→W.cell? ⟨7,j,.none⟩=some (.func (.func f) #[] #[]):=by
 obtain⟨g,t,cs,fuel,p,hg,ht,hv,hd⟩:=h.funcs (n:= "blueline/chain.checks") (List.mem_cons_of_mem _ (List.mem_cons_self ..))
 obtain rfl:=Option.some.inj (gChain.symm.trans hg)
 obtain rfl:=Option.some.inj (tChain.symm.trans ht)
 intro j f hj
 rw[World.var?_cell hg hv j]
 exact T3 (names:=[[98,108,117,101,108,105,110,101,47,99,104,97,105,110,46,99,104,101,99,107,115,36,49],[98,108,117,101,108,105,110,101,47,99,104,97,105,110,46,99,104,101,99,107,115,36,50],[98,108,117,101,108,105,110,101,47,99,104,97,105,110,46,99,104,101,99,107,115,36,51]]) (fs:=[372,373,374]) Tryz.underlying386 Tryz.underlying385 rfl rfl Tryz.underlying384 (by kernel_rfl) (by kernel_rfl) rfl (by kernel_rfl) rfl hd j f hj
theorem sR {W:World} (h:laidMetH Tryz.prog Rows.blameCauseRow.laid W):∀ (j:Nat) (f:FuncId),[346,347,348,349,350,351,354,356][j]?=some f→W.cell? ⟨4,j,.none⟩=some (.func (.func f) #[] #[]):=by
 obtain⟨g,t,cs,fuel,p,hg,ht,hv,hd⟩:=h.funcs (n:= "blueline/note.checks") (List.mem_cons_of_mem _ (List.mem_cons_of_mem _ (List.mem_cons_self ..)))
 obtain rfl:=Option.some.inj (gNote.symm.trans hg)
 obtain rfl:=Option.some.inj (tNote.symm.trans ht)
 intro j f hj
 rw[World.var?_cell hg hv j]
 exact T3 (names:=[[98,108,117,101,108,105,110,101,47,110,111,116,101,46,99,104,101,99,107,115,36,49],[98,108,117,101,108,105,110,101,47,110,111,116,101,46,99,104,101,99,107,115,36,50],[98,108,117,101,108,105,110,101,47,110,111,116,101,46,99,104,101,99,107,115,36,51],[98,108,117,101,108,105,110,101,47,110,111,116,101,46,99,104,101,99,107,115,36,52],[98,108,117,101,108,105,110,101,47,110,111,116,101,46,99,104,101,99,107,115,36,53],[98,108,117,101,108,105,110,101,47,110,111,116,101,46,99,104,101,99,107,115,36,54],[98,108,117,101,108,105,110,101,47,110,111,116,101,46,99,104,101,99,107,115,36,55],[98,108,117,101,108,105,110,101,47,110,111,116,101,46,99,104,101,99,107,115,36,56]]) (fs:=[346,347,348,349,350,351,354,356]) Tryz.underlying257 Tryz.underlying256 rfl rfl Tryz.underlying254 (by kernel_rfl) (by kernel_rfl) rfl (by kernel_rfl) rfl hd j f hj
theorem oL {W:World} (h:laidMetH Tryz.prog Rows.blameCauseRow.laid W):∀ (j:Nat) (f:FuncId),[364,365,366,369,370][j]?=some f→W.cell? ⟨6,j,.none⟩=some (.func (.func f) #[] #[]):=by
 obtain⟨g,t,cs,fuel,p,hg,ht,hv,hd⟩:=h.funcs (n:= "blueline/recall.checks") (List.mem_cons_of_mem _ (List.mem_cons_of_mem _ (List.mem_cons_of_mem _ (List.mem_cons_self ..))))
 obtain rfl:=Option.some.inj (gRecall.symm.trans hg)
 obtain rfl:=Option.some.inj (tRecall.symm.trans ht)
 intro j f hj
 rw[World.var?_cell hg hv j]
 exact T3 (names:=[[98,108,117,101,108,105,110,101,47,114,101,99,97,108,108,46,99,104,101,99,107,115,36,49],[98,108,117,101,108,105,110,101,47,114,101,99,97,108,108,46,99,104,101,99,107,115,36,50],[98,108,117,101,108,105,110,101,47,114,101,99,97,108,108,46,99,104,101,99,107,115,36,51],[98,108,117,101,108,105,110,101,47,114,101,99,97,108,108,46,99,104,101,99,107,115,36,52],[98,108,117,101,108,105,110,101,47,114,101,99,97,108,108,46,99,104,101,99,107,115,36,53]]) (fs:=[364,365,366,369,370]) Tryz.underlying380 Tryz.underlying379 rfl rfl Tryz.underlying377 (by kernel_rfl) (by kernel_rfl) rfl (by kernel_rfl) rfl hd j f hj
theorem gKinds:Tryz.prog.globalNamed "blueline/blame.kinds" = some 1:=by kernel_rfl
theorem tKinds:(Tryz.prog.globals[1]?).map (·.type)=some 211:=by kernel_rfl
theorem pa {W:World} (h:laidMetH Tryz.prog Rows.blameCauseRow.laid W):∀ (j:Nat) (v:Value),[Value.nilFunc,.func (.func 339) #[] #[],.func (.func 340) #[] #[],.func (.func 343) #[] #[]][j]?=some v→W.cell? ⟨1,j,.none⟩=some v:=by
 obtain⟨g,t,cs,fuel,p,hg,ht,hv,hd⟩:=h.funcs (n:= "blueline/blame.kinds") (List.mem_cons_of_mem _ (List.mem_cons_of_mem _ (List.mem_cons_of_mem _ (List.mem_cons_of_mem _ (List.mem_cons_of_mem _ (List.mem_cons_of_mem _ (List.mem_cons_of_mem _ (List.mem_cons_self ..))))))))
 obtain rfl:=Option.some.inj (gKinds.symm.trans hg)
 obtain rfl:=Option.some.inj (tKinds.symm.trans ht)
 have hU:=qH (b1:=98) (r1:=[108,117,101,108,105,110,101,47,98,108,97,109,101,46,107,105,110,100,115,36,49]) (f1:=339) (b2:=98) (r2:=[108,117,101,108,105,110,101,47,98,108,97,109,101,46,107,105,110,100,115,36,50]) (f2:=340) (b3:=98) (r3:=[108,117,101,108,105,110,101,47,98,108,97,109,101,46,107,105,110,100,115,36,51]) (f3:=343) Tryz.underlying211 Tryz.underlying210 rfl rfl Tryz.underlying209 (by kernel_rfl) (by kernel_rfl) (by kernel_rfl) (by kernel_rfl) (by kernel_rfl) hd
 intro j v hj
 rw[World.var?_cell hg hv j]
 exact hU j v hj
theorem gFine:Tryz.prog.globalNamed "blueline/blame.fine" = some 0:=by kernel_rfl
theorem HE:(Tryz.prog.globals[0]?).map (·.type)=some 148:=by kernel_rfl
theorem tB {W:World} (h:laidMetH Tryz.prog Rows.blameCauseRow.laid W):∀ (j:Nat) (v:Value),[Value.bool false,.bool false][j]?=some v→W.cell? ⟨0,j,.none⟩=some v:=by
 have hf:=h.filter fun x=>x.1 == "blueline/blame.fine"
 rw[show (Rows.blameCauseRow.laid.filter fun x=>x.1 == "blueline/blame.fine")=[("blueline/blame.fine",.agg [.lit (.bool false),.lit (.bool false)])] by rfl] at hf
 obtain⟨cs,hv,hd⟩:=iX (t:=148) (e:=4) Tryz.underlying148 Tryz.underlying4 (by kernel_rfl) (by kernel_rfl) (fun g hg=>by obtain rfl:=Option.some.inj (gFine.symm.trans hg);exact HE) hf
 intro j v hj
 rw[World.var?_cell gFine hv j]
 exact hd j v hj
theorem gOld:Tryz.prog.globalNamed "blueline/blame.old" = some 2:=by kernel_rfl
theorem Jx:(Tryz.prog.globals[2]?).map (·.type)=some 148:=by kernel_rfl
theorem wu {W:World} (h:laidMetH Tryz.prog Rows.blameCauseRow.laid W):∀ (j:Nat) (v:Value),[Value.bool true,.bool false][j]?=some v→W.cell? ⟨2,j,.none⟩=some v:=by
 have hf:=h.filter fun x=>x.1 == "blueline/blame.old"
 rw[show (Rows.blameCauseRow.laid.filter fun x=>x.1 == "blueline/blame.old")=[("blueline/blame.old",.agg [.lit (.bool true),.lit (.bool false)])] by rfl] at hf
 obtain⟨cs,hv,hd⟩:=iX (t:=148) (e:=4) Tryz.underlying148 Tryz.underlying4 (by kernel_rfl) (by kernel_rfl) (fun g hg=>by obtain rfl:=Option.some.inj (gOld.symm.trans hg);exact Jx) hf
 intro j v hj
 rw[World.var?_cell gOld hv j]
 exact hd j v hj
theorem gHand:Tryz.prog.globalNamed "blueline/blame.hand" = some 3:=by kernel_rfl
theorem HD:(Tryz.prog.globals[3]?).map (·.type)=some 148:=by kernel_rfl
theorem tu {W:World} (h:laidMetH Tryz.prog Rows.blameCauseRow.laid W):∀ (j:Nat) (v:Value),[Value.bool false,.bool true][j]?=some v→W.cell? ⟨3,j,.none⟩=some v:=by
 have hf:=h.filter fun x=>x.1 == "blueline/blame.hand"
 rw[show (Rows.blameCauseRow.laid.filter fun x=>x.1 == "blueline/blame.hand")=[("blueline/blame.hand",.agg [.lit (.bool false),.lit (.bool true)])] by rfl] at hf
 obtain⟨cs,hv,hd⟩:=iX (t:=148) (e:=4) Tryz.underlying148 Tryz.underlying4 (by kernel_rfl) (by kernel_rfl) (fun g hg=>by obtain rfl:=Option.some.inj (gHand.symm.trans hg);exact HD) hf
 intro j v hj
 rw[World.var?_cell gHand hv j]
 exact hd j v hj
theorem FF {W:World} (h:laidMetH Tryz.prog Rows.blameCauseRow.laid W):∀ g l,G6 g=some l→RepI W (wv W) (.ip l) (.pointer (some ⟨g,0,.none⟩)):=by
 intro g l hl
 unfold G6 at hl
 split at hl
 ·rename_i e;subst e;cases hl;exact ep (fs:=[357,358,359,360]) (by decide) (qf h)
 ·split at hl
  ·rename_i e;subst e;cases hl;exact ep (fs:=[372,373,374]) (by decide) (rz h)
  ·split at hl
   ·rename_i e;subst e;cases hl;exact ep (fs:=[346,347,348,349,350,351,354,356]) (by decide) (sR h)
   ·split at hl
    ·rename_i e;subst e;cases hl;exact ep (fs:=[364,365,366,369,370]) (by decide) (oL h)
    ·split at hl
     ·rename_i e;subst e;cases hl;exact wd (pa h)
     ·split at hl
      ·rename_i e;subst e;cases hl;exact oJ (tB h)
      ·split at hl
       ·rename_i e;subst e;cases hl;exact oJ (wu h)
       ·split at hl
        ·rename_i e;subst e;cases hl;exact oJ (tu h)
        ·cases hl
theorem Bo (os:Os) (args:Array Value):laidMetH Tryz.prog Rows.blameCauseRow.laid ((World.doorLaid Tryz.prog 600 os).forCall (fun _ _=>0) ⟨#[],args,[]⟩).memory:=
 laidMetH_of_parts3 (fuel:=8) (laidMet_of_run' 8 (by kernel_rfl) (by kernel_rfl)) (by kernel_rfl) (by kernel_rfl)
set_option maxRecDepth 100000 in
theorem iq (os:Os) (started:os.Started) (H:Type) (enc:TypeId×Value→H) :
 ReturnsInHanded {} Tryz.checked os 6 .any (fun w args=>(Rows.blameCauseSpec.pre enc Tryz.prog Tryz.f6 [] false w args∧laidMetH Tryz.prog Rows.blameCauseRow.laid w)∧sizedMet enc Tryz.prog Tryz.f6 (OpenSpec.ofChange Rows.blameCauseSpec) false w args)
  (Rows.blameCauseSpec.post enc Tryz.prog Tryz.f6 false true false false):=by
 refine returnsInHanded_of_change_and (C:=Tryz.checked) (X:=fun w _=>laidMetH Tryz.prog Rows.blameCauseRow.laid w) (fun _ _ _ hh h=>h.of_heap hh) own started (by kernel_rfl) Tryz.func6
  (ChangeSpec.witness_shaped (enc:=enc) (C:=Tryz.checked) (os:=os) (X:=fun w _=>laidMetH Tryz.prog Rows.blameCauseRow.laid w) false (World.doorLaid Tryz.prog 600 os) #[.agg #[.slice .none 0 0,.slice .none 0 0,.slice .none 0 0,.slice .none 0 0,.int .i64 0,.int .i64 0,.slice .none 0 0,.int .i64 0,.int .i64 0,.slice .none 0 0]] 8 rfl (World.shaped_of_RefB (by kernel_rfl) (by kernel_rfl)) (by kernel_rfl) (by kernel_rfl) (by kernel_rfl) (Bo os _)) ?_
 intro W base args ds gs ud hval0 hW _ _ hL _
 have hval:∀ (j:Nat) t v,Tryz.f6.params[j]?=some t→args[j]?=some v→Value.okWide Tryz.prog W .any base t v:=hval0
 have hW':=hW
 obtain⟨p,q,hA0,hV,rfl,hfz,hnd⟩:=hW
 have hA:DataW.TrodAll enc Tryz.prog W 0 (fun _=>true) true Tryz.f6.params.toList args.toList ds p:=hA0
 rw[Tryz.params6] at hA hval
 obtain⟨v0,d0,rfl,rfl,h0⟩:=trodAll_one hA
 obtain⟨p0,hp0⟩:∃ p0,p0=p:=⟨p,rfl⟩
 subst hp0
 obtain⟨rfl,rfl⟩:=trodVars_none hV
 obtain⟨cs0,rfl,hcs0⟩:=okWide_struct Tryz.underlying39 (hval 0 39 v0 rfl rfl)
 clear hA0 hval0
 simp only[List.append_nil] at hW'
 have h0k:=h0
 obtain⟨fuel0,hf0⟩:=h0
 obtain⟨l0,⟨c0,hc0,rfl⟩,hR0⟩:=FK H enc W fuel0 cs0.toList _ hf0
 have hlt0:∀ x∈p0,x.block<W.heap.size:=fun x hx=>by simpa using hW'.lt x (by simp[hx])
 have hcall:=(pF (G:=G6) c0 rfl rfl (Fy G6) (CN G6) rfl rfl rfl ⟨rfl,rfl,rfl⟩ hc0 []).calls (vs:=#[.agg cs0]) (W:=W) (u:=.bool true) (FF hL) rfl (fun j d v hd hv=>by
  match j with
  | 0=>simp at hd hv;subst hd;subst hv;exact .ofCells hR0
  | j+1=>simp at hd)
 refine hcall.mono fun e W' ⟨he,hnx⟩=>?_
 subst he
 refine⟨_,rfl,_,_,_,[],p0,[],hW',trodAll_mk1 (shut_bool Tryz.underlying4 _),?_,rfl,hnx.frame _,fun h=>by cases h⟩
 have hend:=trodAll_mk1 (Below.trod DD (by kernel_rfl) (of_decide_eq_true (by kernel_rfl)) h0k hnx hlt0)
 simp only[List.append_nil,List.nil_append,List.append_assoc] at hend ⊢
 exact hend
theorem jk:Rows.BlameCauseSaid:=
 OpenClaim.holds_of_wide 6 Tryz.f6 rfl rfl rfl rfl rfl rfl rfl ⟨rfl,rfl,rfl,rfl,rfl⟩ rfl rfl rfl rfl rfl (by kernel_rfl) Tryz.func6 ir
  (of_decide_eq_true (by kernel_rfl)) (by unfold Func.isWrapper;first|(rw[if_pos (by decide +kernel)];kernel_rfl)|(rw[if_neg (by decide +kernel)];exact⟨rfl,rfl⟩))
  (fun os started H enc _=>iq os started H enc)
end Go.Proofs.YtjodaihiogfkbaaGreatDoor
