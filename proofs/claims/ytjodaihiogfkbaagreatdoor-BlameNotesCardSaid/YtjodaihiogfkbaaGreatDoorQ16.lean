/- Part 16 of the proofs. -/
import Derived.Test.YtjodaihiogfkbaaGreatDoorQ14
import Derived.Test.YtjodaihiogfkbaaGreatDoorQ15
set_option linter.all false
set_option linter.deprecated false
set_option maxHeartbeats 100000000
namespace Go.Proofs
open Go Go.Ab Tryz
variable {G:GW}
theorem yE (n:Notes) (hG:o4 G) (hN:D6 G) (hS:u7 G) (hs:xz n):zP prog G 259 [o5 n] (iv (u6 n)):=by
 refine zf func259 ntmps259 ?_
 try simp only[o5]
 have c1:=pB n hG hN hS hs
 have hs:=trivial
 repeat' first|(with_reducible first|refine zz ?_|refine zr ?_|refine zE [0,1,2,4] ?_)|simp -dsimp[hs]|refine zp c1 ?_
 all_goals try clear hs
theorem uT {O:List Int} {j:Nat} (hd:O.Nodup) (hj:j<O.length):nN O[j] (O.take j)=O.take (j+1):=by
 unfold nN
 rw[if_neg,List.take_succ_eq_append_getElem hj]
 intro hm
 obtain⟨i,hi,e⟩:=List.mem_take_iff_getElem.1 hm
 have:=(List.getElem_inj hd).1 e;omega
theorem BC (a b c:IC) (O s:List Int) (hd:O.Nodup) (hO:O.length<1000) (hsl:s.length<1000):zP prog G 193 [.one (.im (.ip [a,b,c,.sl (O.map encI)])),r8 s] (iv (if F1 O s then 0 else 31)):=by
 refine zf func193 ntmps193 ?_
 try simp only[r8]
 have hs:=trivial
 repeat' first|(with_reducible first|refine zz ?_|refine zE [0,1,4,5,7,8,9,14,15,16,17,23,24,25,26,46] ?_)|simp -dsimp[hs]
 refine i6 (ι:={ j:Nat // j≤O.length }) (fun p=>⟨50,[(1,r8 s),(4,iv 0),(5,.one (.map 0)),(14,.one (.im (.sl (O.map encI)))),(15,iv (O.length:Int)),(16,iv (p.1:Int))],[.map [.int .i64] (I2 (O.take p.1))]⟩) (fun p=>O.length-p.1) ⟨0,by omega⟩ (zv [1,4,5,14,15,16] (by simp[I2])) ?_
 rintro⟨j,hj⟩
 simp only[iv,r8]
 by_cases hlt:j<O.length
 ·have hw:=zk j
  have hst:=uT hd hlt
  generalize hx:O[j]=x at *
  have hs:=za hx (za hlt (za hw hst))
  repeat' first|(with_reducible first|refine zz ?_|refine zE [0,1,4,5,7,8,9,14,15,16,17,23,24,25,26,46] ?_)|simp -dsimp[hs]|refine i9 ?_ ?_<;>intro h<;>try simp only[i7] at h
  exact zn ⟨j+1,by omega⟩ (zv [1,4,5,14,15,16] (by simp[hst]))
 ·obtain rfl:j=O.length:=by omega
  rw[List.take_length]
  have hs:=hlt
  repeat' first|(with_reducible first|refine zz ?_|refine zE [0,1,4,5,7,8,9,14,15,16,17,23,24,25,26,46] ?_)|simp -dsimp[hs]|refine i9 ?_ ?_<;>intro h<;>try simp only[i7] at h
  refine i6 (ι:={ p:Nat×List Int // p.1≤s.length∧p.2.Nodup∧(∀ m,m∈p.2↔m∈O∧m∉s.take p.1)∧dH O s p.1 }) (fun p=>⟨50,[(1,r8 s),(5,.one (.map 0)),(23,r8 s),(24,iv (s.length:Int)),(25,iv (p.1.1:Int))],[.map [.int .i64] (I2 p.1.2)]⟩) (fun p=>s.length-p.1.1) ⟨(0,O),by simp,hd,by simp,fun i v h=>by omega⟩ (zv [1,5,23,24,25]) ?_
  rintro⟨⟨i,L⟩,hi,hLd,hLm,hto⟩
  simp only at hi hLd hLm hto
  simp only[iv,r8]
  by_cases hlt2:i<s.length
  ·have hx0:s[i]?=some s[i]:=by simp[hlt2]
   have hw:=zk i
   have hLv:=hLm s[i]
   have hLn:∀ m,m∈L.erase s[i]↔m∈O∧m∉s.take (i+1):=fun m=>by
    rw[hLd.mem_erase_iff,hLm,List.take_succ_eq_append_getElem hlt2]
    simp only[List.mem_append,List.mem_singleton,not_or]
    exact⟨fun h=>⟨h.2.1,h.2.2,h.1⟩,fun h=>⟨h.2.2,h.1,h.2.1⟩⟩
   have hLe:=hLd.erase s[i]
   generalize hv:s[i]=v at *
   by_cases hmem:v∈L
   ·have hmd:decide (v∈L)=true:=by simp[hmem]
    by_cases h00:i=0
    ·have hnext:=fy hto hx0 (hLv.1 hmem).1 (fun j u e=>by omega)
     subst h00
     have hs:=za hv (za hlt2 (za hmd hmem))
     repeat' first|(with_reducible first|refine zz ?_|refine zE [0,1,4,5,7,8,9,14,15,16,17,23,24,25,26,46] ?_)|simp -dsimp[hs]|refine i9 ?_ ?_<;>intro h<;>try simp only[i7] at h
     exact zn ⟨(0+1,L.erase v),by omega,hLe,hLn,hnext⟩ (zv [1,5,23,24,25] (by simp;exact n8 (by omega) (by omega)))
    ·have hq:i-1<s.length:=by omega
     have hwq:IntKind.i64.wrap ((i:Int)-1)=((i-1:Nat):Int):=by rw[n8 (by omega) (by omega)];omega
     have hi0:(0:Int)<(i:Int):=by omega
     have hin0:0<i:=by omega
     have hu0:s[i-1]?=some s[i-1]:=by simp[hq]
     have hnin:s[i-1]≠v:=fun e=>(hLv.1 hmem).2 (e ▸ List.mem_take_iff_getElem.2 ⟨i-1,by omega,rfl⟩)
     generalize hu:s[i-1]=u at *
     by_cases hlu:v<u
     ·have hb:=mt (o:=O) hx0 (.inr ⟨i-1,u,by omega,hu0,by omega⟩)
      have hs:=za hv (za hu (za hq (za hlt2 (za hw (za hwq (za hmd (za hmem (za hi0 (za hin0 hlu)))))))))
      repeat' first|(with_reducible first|refine zz ?_|refine zr ?_|refine zE [0,1,4,5,7,8,9,14,15,16,17,23,24,25,26,46] ?_)|simp -dsimp[hs]|refine i9 ?_ ?_<;>intro h<;>try simp only[i7] at h
      all_goals simp[hb]
     ·have hnext:=fy hto hx0 (hLv.1 hmem).1 (fun j u' e hu'=>by
       obtain rfl:i-1=j:=by omega
       rw[hu0] at hu';cases hu';omega)
      have hs:=za hv (za hu (za hq (za hlt2 (za hw (za hwq (za hmd (za hmem (za hi0 (za hin0 hlu)))))))))
      repeat' first|(with_reducible first|refine zz ?_|refine zE [0,1,4,5,7,8,9,14,15,16,17,23,24,25,26,46] ?_)|simp -dsimp[hs]|refine i9 ?_ ?_<;>intro h<;>try simp only[i7] at h
      exact zn ⟨(i+1,L.erase v),by omega,hLe,hLn,hnext⟩ (zv [1,5,23,24,25])
   ·have hmd:decide (v∈L)=false:=by simp[hmem]
    have hb:F1 O s=false:=by
     refine mt hx0 ?_
     by_cases ho:v∈O
     ·refine .inr ?_
      cases i with
      | zero=>exact absurd (hLv.2 ⟨ho,by simp⟩) hmem
      | succ q =>
        have hq:q<s.length:=by omega
        refine⟨q,s[q],rfl,by simp[hq],Int.not_lt.1 fun hlt3=>hmem (hLv.2 ⟨ho,ph hto hq hlt3⟩)⟩
     ·exact .inl ho
    have hs:=za hv (za hlt2 (za hmd hmem))
    repeat' first|(with_reducible first|refine zz ?_|refine zr ?_|refine zE [0,1,4,5,7,8,9,14,15,16,17,23,24,25,26,46] ?_)|simp -dsimp[hs]|refine i9 ?_ ?_<;>intro h<;>try simp only[i7] at h
    all_goals simp[hb]
  ·have hb:F1 O s=true:=ka (pi (by rwa [show i=s.length by omega] at hto))
   have hs:=hlt2
   repeat' first|(with_reducible first|refine zz ?_|refine zr ?_|refine zE [0,1,4,5,7,8,9,14,15,16,17,23,24,25,26,46] ?_)|simp -dsimp[hs]|refine i9 ?_ ?_<;>intro h<;>try simp only[i7] at h
   all_goals simp[hb]
def D3 (n:Notes) (s:List Int) (m:Int):Int:=if u6 n≠0 then u6 n else if F1 (j7 (j6 n.notes)) s=false then 31 else if 1≤m∧m≤999 then 0 else 2
def O4 (n:Notes) (s:List Int) (m:Int):DV:=if D3 n s m=0 then .one (.im (G8 n)) else .one (.im (.raw (.pointer none)))
theorem wM (n:Notes) (s:List Int) (m:Int):ImV (O4 n s m):=by unfold O4;split<;>simp[G8]
attribute [simp] wM
theorem AT {n:Notes} {s:List Int} {m:Int} (h:D3 n s m=0):u6 n=0∧F1 (j7 (j6 n.notes)) s=true∧1≤m∧m≤999:=by
 unfold D3 at h
 split at h
 ·contradiction
 ·split at h
  ·cases h
  ·split at h
   ·rename_i h1 h2 h3;exact⟨by simpa using h1,by simpa using h2,h3⟩
   ·cases h
theorem Z0 {n:Notes} (h:u6 n=0):j9 n.reg=0∧n.notes.length≤12∧cE n∧(j6 n.notes).length≤5:=by
 unfold u6 at h
 split at h
 ·contradiction
 ·split at h
  ·rename_i h1 h2;exact⟨by simpa using h1,notesB_iff.1 h2⟩
  ·cases h
theorem uz (n:Notes) (s:List Int) (m:Int) (hG:o4 G) (hN:D6 G) (hS:u7 G) (hs:xz n) (hsl:s.length<1000):zP prog G 128 [o5 n,r8 s,iv m] (.tup [O4 n s m,iv (D3 n s m)]):=by
 refine zf func128 ntmps128 ?_
 try simp only[o5,r8,iv]
 have c1:=pB n hG hN hS hs
 by_cases h0:u6 n=0
 ·rw[h0,show cu n=.one (.im (G8 n)) by unfold cu;rw[if_pos h0]] at c1
  have hok:=Z0 h0
  have hnl:=hs.2.1
  have hol:=Y3 n.notes
  have c2:=BC (G:=G) (.sl (n.reg.map e9)) (.sl (n.notes.map l5)) (.sl ((nums n.reg).map encI)) (j7 (j6 n.notes)) s (pT (cX hok.2.2.1)) (by rw[L4];omega) hsl
  have c3:=gi (G:=G) 1 999 [m] (by simp)
  have hE:D3 n s m=if F1 (j7 (j6 n.notes)) s=false then 31 else if 1≤m∧m≤999 then 0 else 2:=by unfold D3;rw[if_neg (by simp[h0])]
  simp only[G8] at c1
  cases ht:F1 (j7 (j6 n.notes)) s
  ·rw[ht] at c2 hE
   have hE:D3 n s m=31:=by rw[hE];rfl
   have hs:=trivial
   repeat' first|(with_reducible first|refine zz ?_|refine zr ?_|refine zE [0,1,2,3,6,7,8,9,10,17,23,28] ?_)|simp -dsimp[hs]|refine zp c1 ?_|refine zp c2 ?_|refine i9 ?_ ?_<;>intro h<;>try simp only[i7] at h
   all_goals try clear hs
   all_goals simp[O4,hE]
  ·rw[ht] at c2 hE
   by_cases hm:1≤m∧m≤999
   ·have hE:D3 n s m=0:=by rw[hE,if_neg (by simp),if_pos hm]
    have hin:([m].all fun x=>decide (1≤x)&&decide (x≤999))=true:=by simp[hm]
    rw[hin] at c3
    have hs:=trivial
    repeat' first|(with_reducible first|refine zz ?_|refine zr ?_|refine zE [0,1,2,3,6,7,8,9,10,17,23,28] ?_)|simp -dsimp[hs]|refine zp c1 ?_|refine zp c2 ?_|refine zt c3 ?_ ?_ ?_;(focus simp;done);focus (simp;done)|refine i9 ?_ ?_<;>intro h<;>try simp only[i7] at h
    all_goals try clear hs
    all_goals simp[O4,hE,G8]
   ·have hE:D3 n s m=2:=by rw[hE,if_neg (by simp),if_neg hm]
    have hin:([m].all fun x=>decide (1≤x)&&decide (x≤999))=false:=by simp;omega
    rw[hin] at c3
    have hs:=trivial
    repeat' first|(with_reducible first|refine zz ?_|refine zr ?_|refine zE [0,1,2,3,6,7,8,9,10,17,23,28] ?_)|simp -dsimp[hs]|refine zp c1 ?_|refine zp c2 ?_|refine zt c3 ?_ ?_ ?_;(focus simp;done);focus (simp;done)|refine i9 ?_ ?_<;>intro h<;>try simp only[i7] at h
    all_goals try clear hs
    all_goals simp[O4,hE]
 ·rw[show cu n=.one (.im (.raw (.pointer none))) by unfold cu;rw[if_neg h0]] at c1
  have hE:D3 n s m=u6 n:=by unfold D3;rw[if_pos h0]
  have hs:=h0
  repeat' first|(with_reducible first|refine zz ?_|refine zr ?_|refine zE [0,1,2,3,6,7,8,9,10,17,23,28] ?_)|simp -dsimp[hs]|refine zp c1 ?_|refine i9 ?_ ?_<;>intro h<;>try simp only[i7] at h
  all_goals try clear hs
  all_goals simp[O4,hE,h0]
def FD (n:Notes) (s:List Int) (m d:Int):Int:=if D3 n s m≠0 then D3 n s m else if d∈nums n.reg then 0 else 6
def Ad (n:Notes) (s:List Int) (m d:Int):DV:=if FD n s m d=0 then .one (.im (G8 n)) else .one (.im (.raw (.pointer none)))
theorem wp (n:Notes) (s:List Int) (m d:Int):ImV (Ad n s m d):=by unfold Ad;split<;>simp[G8]
attribute [simp] wp
end Go.Proofs
namespace Go.Ab
open Go
structure Holder where
 id:Int
 frm:Int
 to:Int
 draws:List Int
 deriving DecidableEq
structure Print where
 number:Int
 day:Int
 holder:Int
 drawing:Int
 letter:Int
 back:Int
 lost:Int
 deriving DecidableEq
structure Prints where
 n:Notes
 holders:List Holder
 prints:List Print
 deriving DecidableEq
def o2 (x:Holder):List IC:=[rI x.id,rI x.frm,rI x.to,.sl (x.draws.map encI)]
def w5 (x:Print):List IC:=[rI x.number,rI x.day,rI x.holder,rI x.drawing,rI x.letter,rI x.back,.raw (.int .u8 x.lost)]
def p8 (p:Prints):List IC:=[.sl (p.n.reg.map e9),.sl (p.n.notes.map l5),.sl (p.holders.map o2),.sl (p.prints.map w5)]
def jb (x:Holder):DV:=.agg ((o2 x).map .im)
def cU (x:Print):DV:=.agg ((w5 x).map .im)
def D7 (p:Prints):DV:=.agg ((p8 p).map .im)
attribute [simp] o2 w5 p8 jb cU D7
end Go.Ab
namespace Go.Proofs
open Go Go.Ab
variable {G:GW}
theorem sw (x lo hi:Int):DCall Tryz.prog G 284 (iv x :: [DC.ptr 0 0,DC.ptr 1 0].map .one) [.row [.im (rI lo)],.row [.im (rI hi)]] (fun d o=>d=bv (decide (x<lo)||decide (hi<x))∧o=[.row [.im (rI lo)],.row [.im (rI hi)]]):=by
 refine h9 Tryz.func284 rfl Tryz.ntmps284 (by simp) rfl ?_
 simp only[rI]
 have hs:=trivial
 repeat' first|(with_reducible first|refine zz ?_|refine zr ?_|refine zE [0,1,2,4] ?_)|simp -dsimp[hs]|with_reducible refine j0 ?_ ?_<;>intro h<;>have h0:=h<;>(try simp only[i7] at h)<;>have h2:=h<;>(try simp at h2)<;>replace hs:=za h0 (za h (za h2 hs))|with_reducible refine And.intro ?_ ?_
 all_goals try clear hs
 all_goals simp[*]
theorem T7 (lo hi:Int) (l:List Int) (hl:l.length<1000000):zP Tryz.prog G 229 [iv lo,iv hi,r8 l] (bv (l.all fun x=>decide (lo≤x)&&decide (x≤hi))):=by
 refine zf Tryz.func229 Tryz.ntmps229 ?_
 try simp only[iv,iv,r8]
 have hc:=C0 (G:=G) l (fun x=>decide (x<lo)||decide (hi<x)) 284 [.ptr 0 0,.ptr 1 0] [.row [.im (rI lo)],.row [.im (rI hi)]] (by simp) (fun x _=>sw x lo hi) hl
 simp only[rI] at hc
 repeat' first|(with_reducible first|refine zz ?_|refine zx ?_|refine zE [0,1,2,3,4,6] ?_)|simp -dsimp|refine CallE.here hc ?_
 rw[Bool.eq_iff_iff];simp
 exact exists_congr fun x=>and_congr_right fun _=>by omega
theorem dc (l:List Holder) (p:Holder→Bool) (k:Nat) (caps:List DC) (objs:List DObj) (hok:D4 Tryz.prog k) (hf:∀ x∈l,DCall Tryz.prog G k (jb x :: caps.map .one) objs (fun d o=>d=bv (p x)∧o=objs)) (hl:l.length<1000000):DCall Tryz.prog G 211 [.one (.im (.sl (l.map o2))),.one (.fn (.func k) caps)] objs (fun d o=>d=iv (H9 p l)∧o=objs):=by
 refine h9 Tryz.func211 rfl Tryz.ntmps211 (by simp) rfl ?_
 have hs:=trivial
 repeat' first|(with_reducible first|refine zz ?_|refine zE [0,1,4,5,7,8,9,16] ?_)|simp -dsimp[hs]
 refine i6 (ι:={ k:Nat // k≤l.length∧∀ j x,j<k→l[j]?=some x→p x=false }) (fun i=>⟨19,[(0,.one (.im (.sl (l.map o2)))),(1,.one (.fn (.func k) caps)),(7,iv (l.length:Int)),(8,iv (i.1:Int))],objs⟩) (fun i=>l.length-i.1) ⟨0,by simp⟩ (zv [0,1,7,8]) ?_
 rintro⟨i,hi,hno⟩
 simp only[iv]
 by_cases hlt:i<l.length
 ·have hx:l[i]?=some l[i]:=by simp[hlt]
  have hw:=zk i
  have hc:=hf l[i] (by simp)
  simp only[jb,o2,List.map_cons,List.map_nil,bv,rI] at hc
  have hs:=za hx (za hw hok)
  repeat' first|(with_reducible first|refine zz ?_|refine And.intro (by omega) ?_|refine zr ?_|refine zE [0,1,4,5,7,8,9,16] ?_)|simp -dsimp[hs]|refine CallE.here hc ?_|refine i9 ?_ ?_<;>intro h<;>try simp only[i7] at h|with_reducible refine And.intro ?_ ?_
  all_goals try omega
  ·exact(K7 hx (by assumption) hno).symm
  ·exact At.round ⟨i+1,by omega,fun j x hj hjx=>by
    by_cases e:j=i
    ·subst e;rw[hx] at hjx;cases hjx;assumption
    ·exact hno j x (by omega) hjx⟩ (by simp;omega) (zv [0,1,7,8])
 ·have hs:=trivial
  repeat' first|(with_reducible first|refine zz ?_|refine zr ?_|refine zE [0,1,4,5,7,8,9,16] ?_)|simp -dsimp[hs]|refine i9 ?_ ?_<;>intro h<;>try simp only[i7] at h|with_reducible refine And.intro ?_ ?_
  all_goals try omega
  exact(R2 fun j x hjx=>hno j x (by have:=e7 hjx;omega) hjx).symm
theorem gG (l:List Holder) (p:Holder→Bool) (k:Nat) (caps:List DC) (objs:List DObj) (hok:D4 Tryz.prog k) (hf:∀ x∈l,DCall Tryz.prog G k (jb x :: caps.map .one) objs (fun d o=>d=bv (p x)∧o=objs)) (hl:l.length<1000000):DCall Tryz.prog G 155 [.one (.im (.sl (l.map o2))),.one (.fn (.func k) caps)] objs (fun d o=>d=bv (l.any p)∧o=objs):=by
 refine h9 Tryz.func155 rfl Tryz.ntmps155 (by simp) rfl ?_
 have hc:=dc l p k caps objs hok hf hl
 repeat' first|(with_reducible first|refine zz ?_|refine zx ?_|refine zE [0,1,4] ?_)|simp -dsimp|refine CallE.here hc ?_|with_reducible refine And.intro ?_ ?_
 simp[A2]
theorem me (l:List Issue) (p:Issue→Bool) (k:Nat) (caps:List DC) (objs:List DObj) (hok:D4 Tryz.prog k) (hf:∀ x∈l,DCall Tryz.prog G k (O3 x :: caps.map .one) objs (fun d o=>d=bv (p x)∧o=objs)) (hl:l.length<1000000):DCall Tryz.prog G 371 [.one (.im (.sl (l.map e9))),.one (.fn (.func k) caps)] objs (fun d o=>d=iv (H9 p l)∧o=objs):=by
 refine h9 Tryz.func371 rfl Tryz.ntmps371 (by simp) rfl ?_
 have hs:=trivial
 repeat' first|(with_reducible first|refine zz ?_|refine zE [0,1,4,5,7,8,9,16] ?_)|simp -dsimp[hs]
 refine i6 (ι:={ k:Nat // k≤l.length∧∀ j x,j<k→l[j]?=some x→p x=false }) (fun i=>⟨19,[(0,.one (.im (.sl (l.map e9)))),(1,.one (.fn (.func k) caps)),(7,iv (l.length:Int)),(8,iv (i.1:Int))],objs⟩) (fun i=>l.length-i.1) ⟨0,by simp⟩ (zv [0,1,7,8]) ?_
 rintro⟨i,hi,hno⟩
 simp only[iv]
 by_cases hlt:i<l.length
 ·have hx:l[i]?=some l[i]:=by simp[hlt]
  have hw:=zk i
  have hc:=hf l[i] (by simp)
  simp only[O3,e9,List.map_cons,List.map_nil,bv,rI] at hc
  have hs:=za hx (za hw hok)
  repeat' first|(with_reducible first|refine zz ?_|refine And.intro (by omega) ?_|refine zr ?_|refine zE [0,1,4,5,7,8,9,16] ?_)|simp -dsimp[hs]|refine CallE.here hc ?_|refine i9 ?_ ?_<;>intro h<;>try simp only[i7] at h|with_reducible refine And.intro ?_ ?_
  all_goals try omega
  ·exact(K7 hx (by assumption) hno).symm
  ·exact At.round ⟨i+1,by omega,fun j x hj hjx=>by
    by_cases e:j=i
    ·subst e;rw[hx] at hjx;cases hjx;assumption
    ·exact hno j x (by omega) hjx⟩ (by simp;omega) (zv [0,1,7,8])
 ·have hs:=trivial
  repeat' first|(with_reducible first|refine zz ?_|refine zr ?_|refine zE [0,1,4,5,7,8,9,16] ?_)|simp -dsimp[hs]|refine i9 ?_ ?_<;>intro h<;>try simp only[i7] at h|with_reducible refine And.intro ?_ ?_
  all_goals try omega
  exact(R2 fun j x hjx=>hno j x (by have:=e7 hjx;omega) hjx).symm
theorem iG (l:List Issue) (p:Issue→Bool) (k:Nat) (caps:List DC) (objs:List DObj) (hok:D4 Tryz.prog k) (hf:∀ x∈l,DCall Tryz.prog G k (O3 x :: caps.map .one) objs (fun d o=>d=bv (p x)∧o=objs)) (hl:l.length<1000000):DCall Tryz.prog G 367 [.one (.im (.sl (l.map e9))),.one (.fn (.func k) caps)] objs (fun d o=>d=bv (l.any p)∧o=objs):=by
 refine h9 Tryz.func367 rfl Tryz.ntmps367 (by simp) rfl ?_
 have hc:=me l p k caps objs hok hf hl
 repeat' first|(with_reducible first|refine zz ?_|refine zx ?_|refine zE [0,1,4] ?_)|simp -dsimp|refine CallE.here hc ?_|with_reducible refine And.intro ?_ ?_
 simp[A2]
def l6 (p:Prints):IC:=.ip [.sl (p.n.reg.map e9),.sl (p.n.notes.map l5),.sl (p.holders.map o2),.sl (p.prints.map w5),.sl ((nums p.n.reg).map encI)]
theorem vV (n:Int) (y:Holder):DCall Tryz.prog G 230 (jb y :: [DC.ptr 0 0].map .one) [.row [.im (rI n)]] (fun d o=>d=bv (decide (y.id=n))∧o=[.row [.im (rI n)]]):=by
 refine DCall.drop ?_
 refine h9 Tryz.func230 rfl Tryz.ntmps230 (by simp) rfl ?_
 simp only[jb,o2,rI]
 repeat' first|(with_reducible first|refine zz ?_|refine zx ?_|refine zE [0,1,2,3] ?_)|simp -dsimp|with_reducible refine And.intro ?_ ?_
theorem pY (p:Prints) (n:Int) (hl:p.holders.length<1000000):zP Tryz.prog G 180 [.one (.im (l6 p)),iv n] (iv (H9 (fun y=>decide (y.id=n)) p.holders)):=by
 refine zf Tryz.func180 Tryz.ntmps180 ?_
 try simp only[iv]
 simp only[l6]
 have c1:=dc (G:=G) p.holders (fun y=>decide (y.id=n)) 230 [.ptr 0 0] [.row [.im (rI n)]] (by simp) (fun y _=>vV n y) hl
 simp only[rI] at c1
 repeat' first|(with_reducible first|refine zz ?_|refine zx ?_|refine zE [0,1,3,4] ?_)|simp -dsimp|refine zh c1 ?_
def Gc (x:Print):Bool:=(decide (1≤x.number)&&decide (x.number≤9999))&&(decide (0≤x.day)&&decide (x.day≤14610))
theorem GM (d:IC) (x:Print):zP Tryz.prog G 364 [.one (.im d),cU x] (bv (Gc x)):=by
 refine zf Tryz.func364 Tryz.ntmps364 ?_
 try simp only[iv]
 have c1:=T7 (G:=G) 1 9999 [x.number] (by simp)
 have c2:=T7 (G:=G) 0 14610 [x.day] (by simp)
 have hs:=trivial
 repeat' first|(with_reducible first|refine zz ?_|refine zr ?_|refine zE [1,3,4] ?_)|simp -dsimp[hs]|refine zt c1 ?_ ?_ ?_;(focus simp;done);focus (simp;done)|refine zt c2 ?_ ?_ ?_;(focus simp;done);focus (simp;done)|with_reducible refine j0 ?_ ?_<;>intro h<;>have h0:=h<;>(try simp only[i7] at h)<;>have h2:=h<;>(try simp at h2)<;>replace hs:=za h0 (za h (za h2 hs))
 all_goals try clear hs
 all_goals simp_all [Gc]
 all_goals omega
def GL (l:List Holder) (x:Print):Bool:=l.any fun y=>decide (y.id=x.holder)
theorem GK (p:Prints) (x:Print) (hl:p.holders.length<1000000):zP Tryz.prog G 365 [.one (.im (l6 p)),cU x] (bv (GL p.holders x)):=by
 refine zf Tryz.func365 Tryz.ntmps365 ?_
 try simp only[iv]
 have c1:=pY (G:=G) p x.holder hl
 simp only[l6] at c1 ⊢
 repeat' first|(with_reducible first|refine zz ?_|refine zx ?_|refine zE [0,1,3,4] ?_)|simp -dsimp|refine zp c1 ?_
 rw[A2];rfl
def EB (l:List Issue) (x:Print):Bool:=l.any fun y=>decide (x.drawing=y.drawing∧x.letter=y.letter)
theorem EA (x:Print) (y:Issue):DCall Tryz.prog G 368 (O3 y :: [DC.ptr 0 0].map .one) [.row ((w5 x).map .im)] (fun d o=>d=bv (decide (x.drawing=y.drawing∧x.letter=y.letter))∧o=[.row ((w5 x).map .im)]):=by
 refine DCall.drop ?_
 refine h9 Tryz.func368 rfl Tryz.ntmps368 (by simp) rfl ?_
 simp only[O3,e9,w5,rI]
 repeat' first|(with_reducible first|refine zz ?_|refine zx ?_|refine zE [0,1,2,3] ?_)|simp -dsimp|with_reducible refine And.intro ?_ ?_
theorem GJ (p:Prints) (x:Print) (hl:p.n.reg.length<1000000):zP Tryz.prog G 366 [.one (.im (l6 p)),cU x] (bv (EB p.n.reg x)):=by
 refine zf Tryz.func366 Tryz.ntmps366 ?_
 try simp only[iv]
 simp only[l6]
 have c1:=iG (G:=G) p.n.reg (fun y=>decide (x.drawing=y.drawing∧x.letter=y.letter)) 368 [.ptr 0 0] [.row ((w5 x).map .im)] (by simp) (fun y _=>EA x y) hl
 simp only[w5,rI,List.map_cons,List.map_nil] at c1
 repeat' first|(with_reducible first|refine zz ?_|refine zx ?_|refine zE [0,1,3,4] ?_)|simp -dsimp|refine zh c1 ?_
 simp[EB]
def Gb (x:Print):Bool:=decide (x.lost≤2)
theorem GI (d:IC) (x:Print):zP Tryz.prog G 369 [.one (.im d),cU x] (bv (Gb x)):=by
 refine zf Tryz.func369 Tryz.ntmps369 ?_
 try simp only[iv]
 repeat' first|(with_reducible first|refine zz ?_|refine zx ?_|refine zE [1,3,4] ?_)|simp -dsimp
 all_goals simp[Gb]
def Ga (x:Print):Bool:=decide (x.back=-1)||(decide (x.day≤x.back)&&decide (x.back≤14610))&&decide (x.lost=0)
theorem GH (d:IC) (x:Print):zP Tryz.prog G 370 [.one (.im d),cU x] (bv (Ga x)):=by
 refine zf Tryz.func370 Tryz.ntmps370 ?_
 try simp only[iv]
 have c1:=T7 (G:=G) x.day 14610 [x.back] (by simp)
 have hs:=trivial
 repeat' first|(with_reducible first|refine zz ?_|refine zr ?_|refine zE [1,3,4] ?_)|simp -dsimp[hs]|refine zt c1 ?_ ?_ ?_;(focus simp;done);focus (simp;done)|with_reducible refine j0 ?_ ?_<;>intro h<;>have h0:=h<;>(try simp only[i7] at h)<;>have h2:=h<;>(try simp at h2)<;>replace hs:=za h0 (za h (za h2 hs))
 all_goals try clear hs
 all_goals simp_all [Ga]
 all_goals omega
end Go.Proofs
namespace Go.Proofs
open Go Go.Ab Tryz
variable {G:GW}
def CM (D l:List Int) (k:Nat) (d:Int):Prop:=d∈D∧(0<k→∀ e,l[k-1]?=some e→e<d)
def Ii (l:List Holder) (i:Nat) (x:Holder):Prop:=(1≤x.id∧x.id≤9999)∧(0<i→∀ y,l[i-1]?=some y→y.id<x.id)∧(1≤x.frm∧x.frm≤999)∧(1≤x.to∧x.to≤999)∧x.frm≤x.to∧x.draws.length≤8
def re (D:List Int) (l:List Holder) (i:Nat) (x:Holder):Prop:=Ii l i x∧∀ k d,x.draws[k]?=some d→CM D x.draws k d
def ym (p:Prints) (x:Print):Nat→Bool
 | 0=>Gc x
 | 1=>GL p.holders x
 | 2=>EB p.n.reg x
 | 3=>Gb x
 | _=>Ga x
def vn (p:Prints) (i:Nat) (x:Print):Prop:=(0<i→∀ y,p.prints[i-1]?=some y→y.number<x.number)∧∀ c,c<5→ym p x c=true
structure PrintsOk (p:Prints):Prop where
 hl:p.holders.length≤6
 pl:p.prints.length≤30
 h:∀ i x,p.holders[i]?=some x→re (nums p.n.reg) p.holders i x
 q:∀ i x,p.prints[i]?=some x→vn p i x
noncomputable def F5 (p:Prints):Bool:=open Classical in decide (PrintsOk p)
theorem K2 {p:Prints} (h:¬ PrintsOk p):F5 p=false:=by simp[F5,h]
theorem cV {p:Prints} (h:PrintsOk p):F5 p=true:=by simp[F5,h]
structure SmallP (p:Prints):Prop where
 r:(nums p.n.reg).length<1000
 l:p.n.reg.length<1000
 h:p.holders.length≤8
 q:p.prints.length≤40
 d:∀ x∈p.holders,x.draws.length≤20
 lo:∀ x∈p.prints,0≤x.lost∧x.lost≤255
def w0 (G:GW):Prop:=G 6=some [.fn (.func 364) [],.fn (.func 365) [],.fn (.func 366) [],.fn (.func 369) [],.fn (.func 370) []]
theorem BM (p:Prints) (hR:w0 G) (hs:SmallP p):zP prog G 260 [.one (.im (l6 p))] (bv (F5 p)):=by
 refine zf func260 ntmps260 ?_
 try simp only[iv]
 have hR':G 6=some [.fn (.func 364) [],.fn (.func 365) [],.fn (.func 366) [],.fn (.func 369) [],.fn (.func 370) []]:=hR
 obtain⟨hsr,hsl,hsh,hsq,hsd,hslo⟩:=hs
 by_cases h6:¬ p.holders.length≤6
 ·have h6':(6:Int)<p.holders.length:=by omega
  have hno:=K2 (p:=p) fun h=>h6 h.hl
  simp only[l6]
  have hs:=h6'
  repeat' first|(with_reducible first|refine zz ?_|refine zr ?_|refine zE [0,2,3,4,5,6,7,8,9,11,27,32,33,34,35,84,86,87,88,89,113,120,121,122,123,143,144,145,146,154] ?_)|simp -dsimp[hs]|refine i9 ?_ ?_<;>intro h<;>try simp only[i7] at h
  all_goals try clear hs
  all_goals simp[hno]
 by_cases h30:¬ p.prints.length≤30
 ·replace h6:=Classical.not_not.1 h6
  have h6':¬ (6:Int)<p.holders.length:=by omega
  have h30':(30:Int)<p.prints.length:=by omega
  have hno:=K2 (p:=p) fun h=>h30 h.pl
  simp only[l6]
  have hs:=za h6' h30'
  repeat' first|(with_reducible first|refine zz ?_|refine zr ?_|refine zE [0,2,3,4,5,6,7,8,9,11,27,32,33,34,35,84,86,87,88,89,113,120,121,122,123,143,144,145,146,154] ?_)|simp -dsimp[hs]|refine i9 ?_ ?_<;>intro h<;>try simp only[i7] at h
  all_goals try clear hs
  all_goals simp[hno]
 replace h6:=Classical.not_not.1 h6
 replace h30:=Classical.not_not.1 h30
 have h6':¬ (6:Int)<p.holders.length:=by omega
 have h30':¬ (30:Int)<p.prints.length:=by omega
 simp only[l6]
 have hs:=za h6' h30'
 repeat' first|(with_reducible first|refine zz ?_|refine zE [0,2,3,4,5,6,7,8,9,11,27,32,33,34,35,84,86,87,88,89,113,120,121,122,123,143,144,145,146,154] ?_)|simp -dsimp[hs]|refine i9 ?_ ?_<;>intro h<;>try simp only[i7] at h
 all_goals try clear hs
 refine i6 (ι:={ k:Nat // k≤p.holders.length∧∀ (j:Nat) (x:Holder),j<k→p.holders[j]?=some x→re (nums p.n.reg) p.holders j x }) (fun q=>⟨158,[(0,.one (.im (l6 p))),(32,.one (.im (.sl (p.holders.map o2)))),(33,iv (p.holders.length:Int)),(34,iv (q.1:Int))],[]⟩) (fun q=>p.holders.length-q.1) ⟨0,by simp⟩ (zv [0,32,33,34] (by simp[l6])) ?_
 rintro⟨k,hk,hok⟩
 simp only[iv,l6]
 by_cases hlt:k<p.holders.length
 ·have hx0:p.holders[k]?=some p.holders[k]:=by simp[hlt]
  have hw:=zk k
  have hdl:=hsd p.holders[k] (List.getElem_mem hlt)
  generalize hx:p.holders[k]=x at *
  have hbad:¬ re (nums p.n.reg) p.holders k x→F5 p=false:=fun h=>K2 fun h'=>h (h'.h k x hx0)
  have hstep:re (nums p.n.reg) p.holders k x→∀ (j:Nat) (z:Holder),j<k+1→p.holders[j]?=some z→re (nums p.n.reg) p.holders j z:=fun h j z hj hz=>by
   by_cases e:j=k
   ·subst e;rw[hx0] at hz;cases hz;exact h
   ·exact hok j z (by omega) hz
  have c1:=T7 (G:=G) 1 9999 [x.id] (by simp)
  have c2:=T7 (G:=G) 1 999 [x.frm,x.to] (by simp)
  have c3:=fun d=>bX (G:=G) (nums p.n.reg) d (by omega)
  have hs:True:=trivial
  by_cases hA:Ii p.holders k x
  ·have hA':=hA
   obtain⟨a1,a3,a4,a6,a8,a9⟩:=hA
   have e1:([x.id].all fun y=>decide (1≤y)&&decide (y≤9999))=true:=by simp;omega
   have e2:([x.frm,x.to].all fun y=>decide (1≤y)&&decide (y≤999))=true:=by simp;omega
   rw[e1] at c1
   rw[e2] at c2
   have a8':¬ x.to<x.frm:=by omega
   have a9':¬ (8:Int)<x.draws.length:=by omega
   have hcs:(¬ 0<k∧True∧∃ _:True,True)∨(0<k∧IntKind.i64.wrap ((k:Int)-1)=((k-1:Nat):Int)∧∃ h:k-1<p.holders.length,¬ x.id≤(p.holders[k-1]'h).id):=by
    rcases Nat.eq_zero_or_pos k with h0|h0
    ·exact .inl ⟨by omega,trivial,trivial,trivial⟩
    ·have h1:k-1<p.holders.length:=by omega
     exact .inr ⟨by omega,by rw[n8 (by omega) (by omega)];omega,h1,by have:=a3 h0 _ (List.getElem?_eq_getElem h1);omega⟩
   rcases hcs with⟨hk0,hwm,hi1,hlt1⟩|⟨hk0,hwm,hi1,hlt1⟩
   all_goals
    have hs:=za hx (za hlt (za a8' (za a9' (za hk0 (za hwm (za hi1 hlt1))))))
    repeat' first|with_reducible refine zz ?_|simp -dsimp[hs]|refine zq c1 ?_|refine zq c2 ?_|refine zM 6 158 46 [0,2,3,4,5,6,7,8,9,11,27,32,33,34,35,84,86,87,88,89,113,120,121,122,123,143,144,145,146,154] ?_|with_reducible refine zE [0,2,3,4,5,6,7,8,9,11,27,32,33,34,35,84,86,87,88,89,113,120,121,122,123,143,144,145,146,154] ?_|refine i9 ?_ ?_<;>intro h<;>try simp only[i7] at h
    all_goals try clear hs
   all_goals
    refine i6 (ι:={ j:Nat // j≤x.draws.length∧∀ (i:Nat) (d:Int),i<j→x.draws[i]?=some d→CM (nums p.n.reg) x.draws i d }) (fun q=>⟨158,[(0,.one (.im (l6 p))),(4,.one (.ptr 1 0)),(32,.one (.im (.sl (p.holders.map o2)))),(33,iv (p.holders.length:Int)),(34,iv (k:Int)),(86,.one (.im (.sl (x.draws.map encI)))),(87,iv (x.draws.length:Int)),(88,iv (q.1:Int))],[.vec 0 [] 0 true,.row ((o2 x).map .im)]⟩) (fun q=>x.draws.length-q.1) ⟨0,by simp⟩ (zv [0,4,32,33,34,86,87,88] (by simp[l6])) ?_
    rintro⟨j,hj,hjok⟩
    simp only[iv,l6]
    by_cases hlj:j<x.draws.length
    ·have hx1:x.draws[j]?=some x.draws[j]:=by simp[hlj]
     have hwj:=zk j
     have c4:=c3 x.draws[j]
     have hcj:(¬ 0<j∧True∧∃ _:True,True)∨(0<j∧IntKind.i64.wrap ((j:Int)-1)=((j-1:Nat):Int)∧∃ h:j-1<x.draws.length,True):=by
      rcases Nat.eq_zero_or_pos j with h0|h0
      ·exact .inl ⟨by omega,trivial,trivial,trivial⟩
      ·exact .inr ⟨by omega,by rw[n8 (by omega) (by omega)];omega,by omega,trivial⟩
     have hbadj:¬ CM (nums p.n.reg) x.draws j x.draws[j]→F5 p=false:=fun h=>hbad fun h'=>h (h'.2 j _ hx1)
     have hstj:CM (nums p.n.reg) x.draws j x.draws[j]→∀ (i:Nat) (d:Int),i<j+1→x.draws[i]?=some d→CM (nums p.n.reg) x.draws i d:=fun h i d hi hd=>by
      by_cases e:i=j
      ·subst e;rw[hx1] at hd;cases hd;exact h
      ·exact hjok i d (by omega) hd
     clear hstep
     rcases hcj with⟨hj0,hwmj,hij,-⟩|⟨hj0,hwmj,hij,-⟩
     all_goals
      have hs:=za hx1 (za hlj (za hj0 (za hwmj (za hij hwj))))
      repeat' first|(with_reducible first|refine zz ?_|refine zr ?_|refine zE [0,2,3,4,5,6,7,8,9,11,27,32,33,34,35,84,86,87,88,89,113,120,121,122,123,143,144,145,146,154] ?_)|simp -dsimp[hs]|refine zp c4 ?_|refine i9 ?_ ?_<;>intro h<;>try simp only[i7] at h|with_reducible refine j0 ?_ ?_<;>intro h<;>have h0:=h<;>(try simp only[i7] at h)<;>have h2:=h<;>(try simp at h2)<;>replace hs:=za h0 (za h (za h2 hs))
      all_goals try clear hs
     all_goals first
      | exact zn ⟨j+1,by omega,hstj ⟨of_decide_eq_true (by assumption),fun h1 e he=>by first|omega|(obtain⟨_,rfl⟩:=List.getElem?_eq_some_iff.1 he;omega)⟩⟩ (zv [0,4,32,33,34,86,87,88])
      | (refine hbadj fun hh=>?_;have:=hh.1;simp_all;done)
      | (refine hbadj fun hh=>?_;have:=hh.2 (by omega) _ (List.getElem?_eq_getElem hij);omega)
    ·have hs:=za hlj hw
     repeat' first|(with_reducible first|refine zz ?_|refine zE [0,2,3,4,5,6,7,8,9,11,27,32,33,34,35,84,86,87,88,89,113,120,121,122,123,143,144,145,146,154] ?_)|simp -dsimp[hs]|refine i9 ?_ ?_<;>intro h<;>try simp only[i7] at h
     all_goals try clear hs
     exact zn ⟨k+1,by omega,hstep ⟨hA',fun i d hd=>hjok i d (by have:=e7 hd;omega) hd⟩⟩ (zw [0,32,33,34] 0)
  ·have hno:=hbad fun h=>hA h.1
   generalize hb1:([x.id].all fun y=>decide (1≤y)&&decide (y≤9999))=b1 at c1
   generalize hb2:([x.frm,x.to].all fun y=>decide (1≤y)&&decide (y≤999))=b2 at c2
   have hcs:(¬ 0<k∧True∧∃ _:True,True)∨(0<k∧IntKind.i64.wrap ((k:Int)-1)=((k-1:Nat):Int)∧∃ h:k-1<p.holders.length,True):=by
    rcases Nat.eq_zero_or_pos k with h0|h0
    ·exact .inl ⟨by omega,trivial,trivial,trivial⟩
    ·exact .inr ⟨by omega,by rw[n8 (by omega) (by omega)];omega,by omega,trivial⟩
   rcases hcs with⟨hk0,hwm,hi1,-⟩|⟨hk0,hwm,hi1,-⟩<;>cases b1<;>cases b2
   all_goals
    have hs:=za hx (za hlt (za hk0 (za hwm hi1)))
    repeat' first|(with_reducible first|refine zz ?_|refine zr ?_)|simp -dsimp[hs]|refine zq c1 ?_|refine zq c2 ?_|refine zM 6 158 46 [0,2,3,4,5,6,7,8,9,11,27,32,33,34,35,84,86,87,88,89,113,120,121,122,123,143,144,145,146,154] ?_|with_reducible refine zE [0,2,3,4,5,6,7,8,9,11,27,32,33,34,35,84,86,87,88,89,113,120,121,122,123,143,144,145,146,154] ?_|refine i9 ?_ ?_<;>intro h<;>try simp only[i7] at h|with_reducible refine j0 ?_ ?_<;>intro h<;>have h0:=h<;>(try simp only[i7] at h)<;>have h2:=h<;>(try simp at h2)<;>replace hs:=za h0 (za h (za h2 hs))
    all_goals try clear hs
   all_goals try (first|exact hno|exact hno.symm)
   ·refine absurd ?_ hA
    simp at hb1 hb2
    exact⟨by omega,fun h1=>by omega,by omega,by omega,by omega,by omega⟩
   ·refine absurd ?_ hA
    simp at hb1 hb2
    exact⟨by omega,fun h1 y hy=>by
     obtain⟨_,rfl⟩:=List.getElem?_eq_some_iff.1 hy
     simp_all<;>omega,by omega,by omega,by omega,by omega⟩
 ·have hkl:k=p.holders.length:=by omega
  have hall:∀ i x,p.holders[i]?=some x→re (nums p.n.reg) p.holders i x:=fun i x hx=>hok i x (by have:=e7 hx;omega) hx
  have hs:=hlt
  repeat' first|(with_reducible first|refine zz ?_|refine zE [0,2,3,4,5,6,7,8,9,11,27,32,33,34,35,84,86,87,88,89,113,120,121,122,123,143,144,145,146,154] ?_)|simp -dsimp[hs]|refine i9 ?_ ?_<;>intro h<;>try simp only[i7] at h
  all_goals try clear hs
  refine i6 (ι:={ k:Nat // k≤p.prints.length∧∀ (j:Nat) (x:Print),j<k→p.prints[j]?=some x→vn p j x }) (fun q=>⟨158,[(0,.one (.im (l6 p))),(7,bv true),(120,.one (.im (.sl (p.prints.map w5)))),(121,iv (p.prints.length:Int)),(122,iv (q.1:Int))],[]⟩) (fun q=>p.prints.length-q.1) ⟨0,by simp⟩ (zv [0,7,120,121,122] (by simp[l6])) ?_
  clear hlt hok hk hkl k
  rintro⟨k,hk,hok⟩
  simp only[iv,bv,l6]
  by_cases hlt:k<p.prints.length
  ·have hx0:p.prints[k]?=some p.prints[k]:=by simp[hlt]
   have hw:=zk k
   have hll:=hslo p.prints[k] (List.getElem_mem hlt)
   generalize hx:p.prints[k]=x at *
   have hbad:¬ vn p k x→F5 p=false:=fun h=>K2 fun h'=>h (h'.q k x hx0)
   have hstep:vn p k x→∀ (j:Nat) (z:Print),j<k+1→p.prints[j]?=some z→vn p j z:=fun h j z hj hz=>by
    by_cases e:j=k
    ·subst e;rw[hx0] at hz;cases hz;exact h
    ·exact hok j z (by omega) hz
   have hs:True:=trivial
   have hcs:(¬ 0<k∧True∧∃ _:True,True)∨(0<k∧IntKind.i64.wrap ((k:Int)-1)=((k-1:Nat):Int)∧∃ h:k-1<p.prints.length,True):=by
    rcases Nat.eq_zero_or_pos k with h0|h0
    ·exact .inl ⟨by omega,trivial,trivial,trivial⟩
    ·exact .inr ⟨by omega,by rw[n8 (by omega) (by omega)];omega,by omega,trivial⟩
   rcases hcs with⟨hk0,hwm,hi1,-⟩|⟨hk0,hwm,hi1,-⟩
   all_goals
    have hs:=za hx (za hlt (za hk0 (za hwm (za hi1 hR'))))
    repeat' first|(with_reducible first|refine zz ?_|refine zr ?_)|simp -dsimp[hs]|refine zM 19 158 17 [0,2,3,4,5,6,7,8,9,11,27,32,33,34,35,84,86,87,88,89,113,120,121,122,123,143,144,145,146,154] ?_|with_reducible refine zE [0,2,3,4,5,6,7,8,9,11,27,32,33,34,35,84,86,87,88,89,113,120,121,122,123,143,144,145,146,154] ?_|refine i9 ?_ ?_<;>intro h<;>try simp only[i7] at h
    all_goals try clear hs
   all_goals try (exact hbad fun hh=>by have:=hh.1 hk0 _ (List.getElem?_eq_getElem hi1);omega)
   all_goals
    have hord:0<k→∀ y,p.prints[k-1]?=some y→y.number<x.number:=fun h1 y hy=>by
     first|omega|(obtain⟨_,rfl⟩:=List.getElem?_eq_some_iff.1 hy;omega)
    have k1:=fun d=>GM (G:=G) d x
    have k2:=GK (G:=G) p x (by omega)
    have k3:=GJ (G:=G) p x (by omega)
    have k4:=fun d=>GI (G:=G) d x
    have k5:=fun d=>GH (G:=G) d x
    replace k1:=k1 (l6 p)
    replace k4:=k4 (l6 p)
    replace k5:=k5 (l6 p)
    rw[show Gc x=ym p x 0 from rfl] at k1
    rw[show GL p.holders x=ym p x 1 from rfl] at k2
    rw[show EB p.n.reg x=ym p x 2 from rfl] at k3
    rw[show Gb x=ym p x 3 from rfl] at k4
    rw[show Ga x=ym p x 4 from rfl] at k5
    simp only[l6] at k1 k2 k3 k4 k5
    refine i6 (ι:={ c:Nat // c≤5∧∀ e<c,ym p x e=true }) (fun q=>⟨158,[(0,.one (.im (l6 p))),(7,bv true),(9,.one (.ptr 0 0)),(120,.one (.im (.sl (p.prints.map w5)))),(121,iv (p.prints.length:Int)),(122,iv (k:Int)),(144,.agg [.im (.fn (.func 364) []),.im (.fn (.func 365) []),.im (.fn (.func 366) []),.im (.fn (.func 369) []),.im (.fn (.func 370) [])]),(145,iv (q.1:Int))],[.row ((w5 x).map .im)]⟩) (fun q=>5-q.1) ⟨0,by simp⟩ (zv [0,7,9,120,121,122,144,145] (by simp[l6])) ?_
    rintro⟨c,hc,hcc⟩
    simp only[iv,bv,l6]
    by_cases hc5:c<5
    ·have hm:ym p x c=true→∀ e<c+1,ym p x e=true:=fun h e he=>by
      rcases Nat.lt_succ_iff_lt_or_eq.1 he with h1|rfl
      ·exact hcc e h1
      ·exact h
     have hbc:ym p x c=false→F5 p=false:=fun h=>hbad fun hh=>by rw[hh.2 c hc5] at h;cases h
     clear hstep
     have hi5:c=0∨c=1∨c=2∨c=3∨c=4:=by omega
     rcases hi5 with rfl|rfl|rfl|rfl|rfl
     all_goals
      have hs:=hlt
      repeat' first|(with_reducible first|refine zz ?_|refine Je (by decide) ?_|refine zr ?_|refine zE [0,2,3,4,5,6,7,8,9,11,27,32,33,34,35,84,86,87,88,89,113,120,121,122,123,143,144,145,146,154] ?_)|simp -dsimp[hs]|refine zp k1 ?_|refine zp k2 ?_|refine zp k3 ?_|refine zp k4 ?_|refine zp k5 ?_|refine i9 ?_ ?_<;>intro h<;>try simp only[i7] at h
      all_goals try clear hs
     all_goals first
      | exact At.round ⟨_,by omega,hm (by assumption)⟩ (by simp) (zw [0,7,9,120,121,122,144,145] 1 (by simp[‹ym p x _=true›];exact n8 (by omega) (by omega)))
      | exact hbc (by assumption)
      | (rw[hbc (by assumption)];assumption)
    ·obtain rfl:c=5:=by omega
     clear k1 k2 k3 k4 k5
     have hs:=za hlt hw
     repeat' first|(with_reducible first|refine zz ?_|refine zE [0,2,3,4,5,6,7,8,9,11,27,32,33,34,35,84,86,87,88,89,113,120,121,122,123,143,144,145,146,154] ?_)|simp -dsimp[hs]|refine i9 ?_ ?_<;>intro h<;>try simp only[i7] at h
     all_goals try clear hs
     exact zn ⟨k+1,by omega,hstep ⟨hord,hcc⟩⟩ (zw [0,7,120,121,122] 0)
  ·have hyes:F5 p=true:=cV ⟨h6,h30,hall,fun i x hx=>hok i x (by have:=e7 hx;omega) hx⟩
   have hs:=hlt
   repeat' first|(with_reducible first|refine zz ?_|refine zr ?_|refine zE [0,2,3,4,5,6,7,8,9,11,27,32,33,34,35,84,86,87,88,89,113,120,121,122,123,143,144,145,146,154] ?_)|simp -dsimp[hs]|refine i9 ?_ ?_<;>intro h<;>try simp only[i7] at h
   all_goals try clear hs
   all_goals simp[hyes]
noncomputable def s8 (p:Prints):Int:=if u6 p.n≠0 then u6 p.n else if F5 p=true then 0 else 70
noncomputable def Q5 (p:Prints):DV:=if s8 p=0 then .one (.im (l6 p)) else .one (.im (.raw (.pointer none)))
theorem rP (p:Prints):ImV (Q5 p):=by unfold Q5;split<;>simp[l6]
attribute [simp] rP
structure KP (p:Prints):Prop where
 n:xz p.n
 p:SmallP p
theorem ub (p:Prints) (hG:o4 G) (hN:D6 G) (hS:u7 G) (hR:w0 G) (hk:KP p):zP prog G 208 [D7 p] (.tup [Q5 p,iv (s8 p)]):=by
 refine zf func208 ntmps208 ?_
 try simp only[iv]
 have c1:=yE p.n hG hN hS hk.n
 have c2:=bV p.n.reg hG hk.n.1
 have c3:=BM p hR hk.p
 by_cases h0:u6 p.n=0
 ·have hr0:j9 p.n.reg=0:=by
   refine Classical.byContradiction fun h=>?_
   unfold u6 at h0;rw[if_pos h] at h0;exact h h0
  rw[hr0,show dw p.n.reg=nums p.n.reg by simp[dw,hr0]] at c2
  simp only[h0] at c1
  by_cases hp:F5 p=true
  ·have hE:s8 p=0:=by unfold s8;rw[if_neg (by simp[h0]),if_pos hp]
   have hO:Q5 p=.one (.im (l6 p)):=by unfold Q5;rw[if_pos hE]
   rw[hp] at c3
   rw[hE,hO]
   simp only[l6] at c3 ⊢
   have hs:=trivial
   repeat' first|(with_reducible first|refine zz ?_|refine zr ?_)|simp -dsimp[hs]|refine zp c1 ?_|refine zp c2 ?_|refine zt c3 ?_ ?_ ?_;(focus simp;done);focus (simp;done)|with_reducible refine O5 (id:=4) (nt:=29) [0,1,2,3,4,5,10,27] rfl ?_;simp -dsimp[hs]|with_reducible refine zE [0,1,2,3,4,5,10,27] ?_|refine i9 ?_ ?_<;>intro h<;>try simp only[i7] at h
  ·have hE:s8 p=70:=by unfold s8;rw[if_neg (by simp[h0]),if_neg hp]
   have hO:Q5 p=.one (.im (.raw (.pointer none))):=by unfold Q5;rw[if_neg (by simp[hE])]
   rw[Bool.not_eq_true] at hp
   rw[hp] at c3
   rw[hE,hO]
   simp only[l6] at c3 ⊢
   have hs:=trivial
   repeat' first|(with_reducible first|refine zz ?_|refine zr ?_)|simp -dsimp[hs]|refine zp c1 ?_|refine zp c2 ?_|refine zt c3 ?_ ?_ ?_;(focus simp;done);focus (simp;done)|with_reducible refine O5 (id:=4) (nt:=29) [0,1,2,3,4,5,10,27] rfl ?_;simp -dsimp[hs]|with_reducible refine zE [0,1,2,3,4,5,10,27] ?_|refine i9 ?_ ?_<;>intro h<;>try simp only[i7] at h
 ·have hE:s8 p=u6 p.n:=by unfold s8;rw[if_pos h0]
  have hO:Q5 p=.one (.im (.raw (.pointer none))):=by unfold Q5;rw[if_neg (by rw[hE];exact h0)]
  rw[hE,hO]
  have hs:=h0
  repeat' first|(with_reducible first|refine zz ?_|refine zr ?_|refine zE [0,1,2,3,4,5,10,27] ?_)|simp -dsimp[hs]|refine zp c1 ?_|refine i9 ?_ ?_<;>intro h<;>try simp only[i7] at h
theorem yg (p:Prints) (hG:o4 G) (hN:D6 G) (hS:u7 G) (hR:w0 G) (hk:KP p):zP prog G 153 [D7 p] (iv (s8 p)):=by
 refine zf func153 ntmps153 ?_
 try simp only[iv]
 have c1:=ub p hG hN hS hR hk
 repeat' first|(with_reducible first|refine zz ?_|refine zx ?_|refine zE [0,1,2,4] ?_)|simp -dsimp|refine zp c1 ?_
def ww (d m:Int):Bool:=(decide (0≤d)&&decide (d≤14610))&&(decide (1≤m)&&decide (m≤999))
noncomputable def J6 (p:Prints) (d m:Int):Int:=if s8 p≠0 then s8 p else if ww d m=true then 0 else 2
noncomputable def R6 (p:Prints) (d m:Int):DV:=if J6 p d m=0 then .one (.im (l6 p)) else .one (.im (.raw (.pointer none)))
theorem tq (p:Prints) (d m:Int):ImV (R6 p d m):=by unfold R6;split<;>simp[l6]
attribute [simp] tq
theorem yh (p:Prints) (d m:Int) (hG:o4 G) (hN:D6 G) (hS:u7 G) (hR:w0 G) (hk:KP p):zP prog G 179 [D7 p,iv d,iv m] (.tup [R6 p d m,iv (J6 p d m)]):=by
 refine zf func179 ntmps179 ?_
 try simp only[iv,iv]
 have c1:=ub p hG hN hS hR hk
 have c2:=T7 (G:=G) 0 14610 [d] (by simp)
 have c3:=T7 (G:=G) 1 999 [m] (by simp)
 by_cases h0:s8 p=0
 ·simp only[Q5,h0,if_true] at c1
  by_cases hd:ww d m=true
  ·have hE:J6 p d m=0:=by unfold J6;rw[if_neg (by simp[h0]),if_pos hd]
   have hO:R6 p d m=.one (.im (l6 p)):=by unfold R6;rw[if_pos hE]
   simp only[ww,Bool.and_eq_true,decide_eq_true_eq] at hd
   rw[show ([d].all fun y=>decide (0≤y)&&decide (y≤14610))=true by simp;omega] at c2
   rw[show ([m].all fun y=>decide (1≤y)&&decide (y≤999))=true by simp;omega] at c3
   rw[hE,hO]
   simp only[l6] at c1 ⊢
   have hs:=trivial
   repeat' first|(with_reducible first|refine zz ?_|refine zr ?_|refine zE [0,1,2,3,6,7,8,9,16,27] ?_)|simp -dsimp[hs]|refine zp c1 ?_|refine zt c2 ?_ ?_ ?_;(focus simp;done);focus (simp;done)|refine zt c3 ?_ ?_ ?_;(focus simp;done);focus (simp;done)|refine i9 ?_ ?_<;>intro h<;>try simp only[i7] at h
  ·have hE:J6 p d m=2:=by unfold J6;rw[if_neg (by simp[h0]),if_neg hd]
   have hO:R6 p d m=.one (.im (.raw (.pointer none))):=by unfold R6;rw[if_neg (by simp[hE])]
   simp only[ww,Bool.and_eq_true,decide_eq_true_eq] at hd
   rw[hE,hO]
   simp only[l6] at c1 ⊢
   by_cases hd1:0≤d∧d≤14610
   ·rw[show ([d].all fun y=>decide (0≤y)&&decide (y≤14610))=true by simp;omega] at c2
    rw[show ([m].all fun y=>decide (1≤y)&&decide (y≤999))=false by simp;omega] at c3
    have hs:=trivial
    repeat' first|(with_reducible first|refine zz ?_|refine zr ?_|refine zE [0,1,2,3,6,7,8,9,16,27] ?_)|simp -dsimp[hs]|refine zp c1 ?_|refine zt c2 ?_ ?_ ?_;(focus simp;done);focus (simp;done)|refine zt c3 ?_ ?_ ?_;(focus simp;done);focus (simp;done)|refine i9 ?_ ?_<;>intro h<;>try simp only[i7] at h
   ·rw[show ([d].all fun y=>decide (0≤y)&&decide (y≤14610))=false by simp;omega] at c2
    have hs:=trivial
    repeat' first|(with_reducible first|refine zz ?_|refine zr ?_|refine zE [0,1,2,3,6,7,8,9,16,27] ?_)|simp -dsimp[hs]|refine zp c1 ?_|refine zt c2 ?_ ?_ ?_;(focus simp;done);focus (simp;done)|refine i9 ?_ ?_<;>intro h<;>try simp only[i7] at h
 ·have hE:J6 p d m=s8 p:=by unfold J6;rw[if_pos h0]
  have hO:R6 p d m=.one (.im (.raw (.pointer none))):=by unfold R6;rw[if_neg (by rw[hE];exact h0)]
  simp only[Q5,h0,if_false] at c1
  rw[hE,hO]
  have hs:=h0
  repeat' first|(with_reducible first|refine zz ?_|refine zr ?_|refine zE [0,1,2,3,6,7,8,9,16,27] ?_)|simp -dsimp[hs]|refine zp c1 ?_|refine i9 ?_ ?_<;>intro h<;>try simp only[i7] at h
noncomputable def R8 (p:Prints) (d m i w:Int):Int:=if J6 p d m≠0 then J6 p d m else if (p.holders.any fun y=>decide (y.id=i))=true∧w∈nums p.n.reg then 0 else 6
noncomputable def dF (p:Prints) (d m i w:Int):DV:=if R8 p d m i w=0 then .one (.im (l6 p)) else .one (.im (.raw (.pointer none)))
theorem wP (p:Prints) (d m i w:Int):ImV (dF p d m i w):=by unfold dF;split<;>simp[l6]
attribute [simp] wP
theorem AY (p:Prints) (v:Int) (hl:(nums p.n.reg).length<1000):DCall prog G 181 (iv v :: [DC.ptr 1 0].map .one) [.row ((p8 p).map .im),.row [.im (l6 p)]] (fun d o=>d=bv (!decide (v∈nums p.n.reg))∧o=[.row ((p8 p).map .im),.row [.im (l6 p)]]):=by
 refine DCall.drop ?_
 have c1:=bX (G:=G) (nums p.n.reg) v (by omega)
 simp only[l6,p8]
 refine h9 func181 rfl ntmps181 (by simp) rfl ?_
 repeat' first|(with_reducible first|refine zz ?_|refine zx ?_|refine zE [0,1,3] ?_)|simp -dsimp|refine zp c1 ?_|with_reducible refine And.intro ?_ ?_
theorem um {α:Type} (q:α→Bool) (l:List α):decide (H9 q l<0)=!l.any q:=by
 rw[← A2]
 by_cases h:0≤H9 q l
 ·have h1:¬ H9 q l<0:=by omega
  simp[h,h1]
 ·have h1:H9 q l<0:=by omega
  simp[h,h1]
theorem yi (p:Prints) (d m i w:Int) (hG:o4 G) (hN:D6 G) (hS:u7 G) (hR:w0 G) (hk:KP p):zP prog G 118 [D7 p,iv d,iv m,iv i,r8 [w]] (.tup [dF p d m i w,iv (R8 p d m i w)]):=by
 refine zf func118 ntmps118 ?_
 try simp only[iv,iv,iv,r8]
 have c1:=yh p d m hG hN hS hR hk
 have hr:=hk.p.r
 have hh:=hk.p.h
 by_cases h0:J6 p d m=0
 ·have c2:=pY (G:=G) p i (by omega)
  have c3:=C0 (G:=G) [w] (fun v=>!decide (v∈nums p.n.reg)) 181 [.ptr 1 0] [.row ((p8 p).map .im),.row [.im (l6 p)]] (by simp) (fun v _=>AY p v hr) (by simp)
  have hf:=um (fun y:Holder=>decide (y.id=i)) p.holders
  have hE:R8 p d m i w=if (p.holders.any fun y=>decide (y.id=i))=true∧w∈nums p.n.reg then 0 else 6:=by unfold R8;rw[if_neg (by simp[h0])]
  simp only[R6,h0,if_true] at c1
  unfold dF
  rw[hE]
  generalize H9 (fun y:Holder=>decide (y.id=i)) p.holders=f at *
  generalize hb:(p.holders.any fun y=>decide (y.id=i))=b at *
  by_cases hw:w∈nums p.n.reg
  ·simp only[hw,List.any_cons,List.any_nil,decide_true,Bool.not_true,Bool.or_false] at c3
   cases b
   ·have hf':f<0:=by simpa using hf
    simp only[l6,p8,List.map_cons,List.map_nil] at c1 c2 c3 ⊢
    have hs:=hf'
    repeat' first|(with_reducible first|refine zz ?_|refine zr ?_|refine zE [0,1,2,3,4,5,10,11,12,13,22,32] ?_)|simp -dsimp[hs]|refine zp c1 ?_|refine zp c2 ?_|refine i9 ?_ ?_<;>intro h<;>try simp only[i7] at h
   ·have hf':¬ f<0:=by simpa using hf
    simp only[l6,p8,List.map_cons,List.map_nil] at c1 c2 c3 ⊢
    have hs:=za hf' hw
    repeat' first|(with_reducible first|refine zz ?_|refine zr ?_|refine zE [0,1,2,3,4,5,10,11,12,13,22,32] ?_)|simp -dsimp[hs]|refine zp c1 ?_|refine zp c2 ?_|refine zh c3 ?_|refine i9 ?_ ?_<;>intro h<;>try simp only[i7] at h
  ·simp only[hw,List.any_cons,List.any_nil,decide_false,Bool.not_false,Bool.or_false] at c3
   cases b
   ·have hf':f<0:=by simpa using hf
    simp only[l6,p8,List.map_cons,List.map_nil] at c1 c2 c3 ⊢
    have hs:=hf'
    repeat' first|(with_reducible first|refine zz ?_|refine zr ?_|refine zE [0,1,2,3,4,5,10,11,12,13,22,32] ?_)|simp -dsimp[hs]|refine zp c1 ?_|refine zp c2 ?_|refine i9 ?_ ?_<;>intro h<;>try simp only[i7] at h
   ·have hf':¬ f<0:=by simpa using hf
    simp only[l6,p8,List.map_cons,List.map_nil] at c1 c2 c3 ⊢
    have hs:=za hf' hw
    repeat' first|(with_reducible first|refine zz ?_|refine zr ?_|refine zE [0,1,2,3,4,5,10,11,12,13,22,32] ?_)|simp -dsimp[hs]|refine zp c1 ?_|refine zp c2 ?_|refine zh c3 ?_|refine i9 ?_ ?_<;>intro h<;>try simp only[i7] at h
 ·have hE:R8 p d m i w=J6 p d m:=by unfold R8;rw[if_pos h0]
  have hO:dF p d m i w=.one (.im (.raw (.pointer none))):=by unfold dF;rw[if_neg (by rw[hE];exact h0)]
  simp only[R6,h0,if_false] at c1
  rw[hE,hO]
  have hs:=h0
  repeat' first|(with_reducible first|refine zz ?_|refine zr ?_|refine zE [0,1,2,3,4,5,10,11,12,13,22,32] ?_)|simp -dsimp[hs]|refine zp c1 ?_|refine i9 ?_ ?_<;>intro h<;>try simp only[i7] at h
def frcCaps:List DC:=[.ptr 5 0,.ptr 0 0,.ptr 1 0,.ptr 2 0,.ptr 3 0,.ptr 6 0]
def N7 (n:Notes) (s w:List Int) (m:Int) (M:List (Int×Bool)):List DObj:=[.row [.im (G8 n)],.row [.im (.sl (s.map encI))],.row [.im (.sl (w.map encI))],.row [.im (rI m)],.map [.int .i64] (F7 M),.row [.map 4],.row [.fn (.func 234) frcCaps]]
theorem uk (n:Notes) (s w:List Int) (m:Int):DCall prog G 187 [.one (.im (G8 n)),r8 s,r8 w,iv m] [] (fun d o=>d=.one (.fn (.func 234) frcCaps)∧o=N7 n s w m []):=by
 refine h9 func187 rfl ntmps187 (by simp) rfl ?_
 simp only[r8,iv]
 repeat' first|(with_reducible first|refine zz ?_|refine zx ?_|refine zE [0,1,2,3,4,5,6,7,8,9,10] ?_)|simp -dsimp|with_reducible refine And.intro ?_ ?_
 ·rfl
 ·simp[N7,frcCaps,F7]
def E3 (n:Notes) (s w:List Int) (m:Int) (i:Nat):Bool:=((R1 s w m n.notes)[i]?).getD false
def ConsM (n:Notes) (s w:List Int) (m:Int) (M:List (Int×Bool)):Prop:=∀ (k:Nat) (b:Bool),cC (k:Int) M=some b→E3 n s w m k=b
theorem ConsM.nil (n:Notes) (s w:List Int) (m:Int):ConsM n s w m []:=fun k b h=>by cases h
theorem ConsM.put {n:Notes} {s w:List Int} {m:Int} {M:List (Int×Bool)} (h:ConsM n s w m M) (i:Nat) {b:Bool} (hb:E3 n s w m i=b):ConsM n s w m (tg (i:Int) b M):=fun k c hk=>by
 rw[lE] at hk
 split at hk
 ·rename_i e
  obtain rfl:i=k:=by omega
  cases hk;exact hb
 ·exact h k c hk
theorem zO {n:Notes} {s w:List Int} {m:Int} {i:Nat} (hi:i<n.notes.length):E3 n s w m i=(zN s w m n.notes[i]&&jx n.notes[i].number (n.notes.drop (i+1)) ((R1 s w m n.notes).drop (i+1))):=by
 have hl:i<(R1 s w m n.notes).length:=by rw[dg];exact hi
 rw[← CY hi hl,E3,List.getElem?_eq_getElem hl];rfl
theorem sF {n:Notes} {s w:List Int} {m a:Int} {k:Nat} (hk:k<n.notes.length):jx a (n.notes.drop k) ((R1 s w m n.notes).drop k)=(!(E3 n s w m k&&decide (n.notes[k].cancels=a))&&jx a (n.notes.drop (k+1)) ((R1 s w m n.notes).drop (k+1))):=by
 have hl:k<(R1 s w m n.notes).length:=by rw[dg];exact hk
 rw[wc hk hl,E3,List.getElem?_eq_getElem hl];rfl
theorem Ff (n:Notes) (s w:List Int) (m:Int) (hl:n.notes.length<1000) (hsl:s.length<1000) (hwl:w.length<1000):∀ (d i:Nat),n.notes.length-i≤d→i<n.notes.length→∀ M,ConsM n s w m M →
 DCall prog G 234 (iv (i:Int) :: frcCaps.map .one) (N7 n s w m M) (fun r o=>∃ M',ConsM n s w m M'∧r=bv (E3 n s w m i)∧o=N7 n s w m M'):=by
 intro d
 induction d with
 | zero=>intro i h1 h2;omega
 | succ d ih =>
   intro i hid hi M hM
   simp only[N7,frcCaps,G8,iv,bv,rI,List.map_cons,List.map_nil] at ih ⊢
   refine DCall.drop ?_
   refine h9 func234 rfl ntmps234 (by simp) rfl ?_
   cases hb:cC (i:Int) M with
   | some b =>
     have hf:=hM i b hb
     have hs:=hb
     repeat' first|(with_reducible first|refine zz ?_|refine zr ?_|refine zE [0,1,2,3,4,5,6,8,9,10,11,12,13,20,67] ?_)|simp -dsimp[hs]|refine i9 ?_ ?_<;>intro h<;>try simp only[i7] at h
     all_goals try clear hs
     exact⟨M,hM,by rw[hf],rfl⟩
   | none =>
     generalize hx:n.notes[i]=x at *
     have hF:=zO (s:=s) (w:=w) (m:=m) hi
     rw[hx] at hF
     have hwi:=zk i
     have c1:=bX (G:=G) s x.number (by omega)
     have c2:=bX (G:=G) w x.number (by omega)
     have c3:=gi (G:=G) x.frm x.to [m] (by simp)
     rw[show ([m].all fun z=>decide (x.frm≤z)&&decide (z≤x.to))=(decide (x.frm≤m)&&decide (m≤x.to)) by simp] at c3
     have hs:=za hb (za hx (za hi hwi))
     repeat' first|(with_reducible first|refine zz ?_|refine zE [0,1,2,3,4,5,6,8,9,10,11,12,13,20,67] ?_)|simp -dsimp[hs]|refine zp c1 ?_|refine zp c2 ?_|refine zt c3 ?_ ?_ ?_;(focus simp;done);focus (simp;done)|refine i9 ?_ ?_<;>intro h<;>try simp only[i7] at h|with_reducible refine j0 ?_ ?_<;>intro h<;>have h0:=h<;>(try simp only[i7] at h)<;>have h2:=h<;>(try simp at h2)<;>replace hs:=za h0 (za h (za h2 hs))
     all_goals try clear hs
     all_goals
      refine i6 (ι:={ p:Nat×Bool×List (Int×Bool) // i+1≤p.1∧p.1≤n.notes.length∧ConsM n s w m p.2.2∧E3 n s w m i=(p.2.1&&jx x.number (n.notes.drop p.1) ((R1 s w m n.notes).drop p.1)) }) (fun p=>⟨92,[(0,iv (i:Int)),(1,.one (.ptr 5 0)),(2,.one (.ptr 0 0)),(3,.one (.ptr 1 0)),(4,.one (.ptr 2 0)),(5,.one (.ptr 3 0)),(6,.one (.ptr 6 0)),(11,.one (.ptr 7 0)),(12,bv p.1.2.1),(13,iv (p.1.1:Int))],[.row [.im (.ip [.sl (n.reg.map e9),.sl (n.notes.map l5),.sl ((nums n.reg).map encI),.sl ((j7 (j6 n.notes)).map encI)])],.row [.im (.sl (s.map encI))],.row [.im (.sl (w.map encI))],.row [.im (rI m)],.map [.int .i64] (F7 p.1.2.2),.row [.map 4],.row [.fn (.func 234) [.ptr 5 0,.ptr 0 0,.ptr 1 0,.ptr 2 0,.ptr 3 0,.ptr 6 0]],.row ((l5 x).map .im)]⟩) (fun p=>n.notes.length-p.1.1) ⟨(i+1,zN s w m x,M),by simp,by simp;omega,hM,hF⟩ (zw [0,1,2,3,4,5,6,11,12,13] 8 (by clear c1 c2 c3 ih;simp[zN, *])) ?_
     all_goals
      clear c1 c2 c3 hF hM hb
      rintro⟨⟨k,v,M2⟩,hk1,hk2,hM2,hv⟩
      simp only at hk1 hk2 hM2 hv
      simp only[iv,bv]
      cases v
      ·have hM3:=hM2.put i hv
       have hs:=trivial
       repeat' first|(with_reducible first|refine zz ?_|refine zr ?_|refine zE [0,1,2,3,4,5,6,8,9,10,11,12,13,20,67] ?_)|simp -dsimp[hs]|refine i9 ?_ ?_<;>intro h<;>try simp only[i7] at h
       all_goals try clear hs
       all_goals exact⟨_,hM3,by rw[hv];rfl,rfl⟩
      ·by_cases hlk:k<n.notes.length
       ·have hwk:=zk k
        have hih:=ih k (by omega) hlk M2 hM2
        rw[Bool.true_and,sF hlk] at hv
        generalize hy:n.notes[k]=y at *
        by_cases hc:y.cancels=x.number
        ·have hvb:∀ b,E3 n s w m k=b→E3 n s w m i=(!b&&jx x.number (n.notes.drop (k+1)) ((R1 s w m n.notes).drop (k+1))):=fun b hb=>by
          rw[hv,hb,decide_eq_true hc,Bool.and_true]
         have hs:=za hx (za hy (za hlk (za hwk hc)))
         repeat' first|with_reducible refine zz ?_|simp -dsimp[hs]|refine CallE.embed_ex [0,1,2,3,4,5,6] (hih) ?_ ?_ ?_ ?_ ?_ ?_;(focus simp[u3];done);(focus simp;done);(focus simp;done);(focus simp;done);(focus refine n7 ?_;simp[u3,p9];done);intro mm hmm;try simp -dsimp[n5,u3,hs]|refine zM 9 92 15 [0,1,2,3,4,5,6,8,9,10,11,12,13,20,67] ?_|with_reducible refine zE [0,1,2,3,4,5,6,8,9,10,11,12,13,20,67] ?_|refine i9 ?_ ?_<;>intro h<;>try simp only[i7] at h
         all_goals try clear hs
         all_goals exact zn ⟨(k+1,!E3 n s w m k,mm),by simp only;omega,by simp only;omega,hmm,hvb _ rfl⟩ (zw [0,1,2,3,4,5,6,11,12,13] 8)
        ·rw[decide_eq_false hc,Bool.and_false,Bool.not_false,Bool.true_and] at hv
         have hs:=za hx (za hy (za hlk (za hwk hc)))
         repeat' first|with_reducible refine zz ?_|simp -dsimp[hs]|refine zM 9 92 15 [0,1,2,3,4,5,6,8,9,10,11,12,13,20,67] ?_|with_reducible refine zE [0,1,2,3,4,5,6,8,9,10,11,12,13,20,67] ?_|refine i9 ?_ ?_<;>intro h<;>try simp only[i7] at h
         all_goals try clear hs
         all_goals exact zn ⟨(k+1,true,M2),by simp only;omega,by simp only;omega,hM2,by rw[hv,Bool.true_and]⟩ (zw [0,1,2,3,4,5,6,11,12,13] 8)
       ·rw[zL (by omega),Bool.and_true] at hv
        have hM3:=hM2.put i hv
        have hs:=hlk
        repeat' first|(with_reducible first|refine zz ?_|refine zr ?_|refine zE [0,1,2,3,4,5,6,8,9,10,11,12,13,20,67] ?_)|simp -dsimp[hs]|refine i9 ?_ ?_<;>intro h<;>try simp only[i7] at h
        all_goals try clear hs
        all_goals exact⟨_,hM3,by rw[hv],rfl⟩
def wD (n:Notes) (s w:List Int) (m d:Int) (k:Nat):Note:=FN n.notes (R1 s w m n.notes) d k
theorem Av {n:Notes} {s w:List Int} {m d:Int} {k:Nat} (hk:k<n.notes.length):wD n s w m d (k+1)=if n.notes[k].drawing=d∧E3 n s w m k=true then n.notes[k] else wD n s w m d k:=by
 have hl:k<(R1 s w m n.notes).length:=by rw[dg];exact hk
 unfold wD E3
 simp only[FN,List.getElem?_eq_getElem hk,List.getElem?_eq_getElem hl,Option.some.injEq,Option.getD_some]
 by_cases h:(R1 s w m n.notes)[k]=true<;>by_cases h2:n.notes[k].drawing=d<;>simp[h,h2]
theorem IS (n:Notes) (s w:List Int) (m d:Int) (hl:n.notes.length<1000) (hsl:s.length<1000) (hwl:w.length<1000) (M:List (Int×Bool)) (hM:ConsM n s w m M) :
 DCall prog G 186 [.one (.im (G8 n)),.one (.fn (.func 234) frcCaps),iv d] (N7 n s w m M) (fun r o=>∃ M',ConsM n s w m M'∧r=ew (wD n s w m d n.notes.length)∧o=N7 n s w m M'):=by
 have ih:=fun i hi M hM=>Ff (G:=G) n s w m hl hsl hwl n.notes.length i (by omega) hi M hM
 simp only[N7,frcCaps,G8,iv,bv,rI,ew,l5,rB,List.map_cons,List.map_nil] at ih ⊢
 refine DCall.drop ?_
 refine h9 func186 rfl ntmps186 (by simp) rfl ?_
 have hw0:IntKind.i64.wrap ((n.notes.length:Int)-1)=(n.notes.length:Int)-1:=n8 (by omega) (by omega)
 have hs:=hw0
 repeat' first|with_reducible refine zz ?_|with_reducible refine zE [0,1,2,6,7,8,17,36] ?_;try simp -dsimp[hs]
 all_goals try simp -dsimp[hs]
 all_goals try clear hs
 refine i6 (ι:={ p:Nat×List (Int×Bool) // p.1≤n.notes.length∧ConsM n s w m p.2∧wD n s w m d n.notes.length=wD n s w m d p.1 }) (fun p=>⟨39,[(0,.one (.im (.ip [.sl (n.reg.map e9),.sl (n.notes.map l5),.sl ((nums n.reg).map encI),.sl ((j7 (j6 n.notes)).map encI)]))),(1,.one (.fn (.func 234) [.ptr 5 0,.ptr 0 0,.ptr 1 0,.ptr 2 0,.ptr 3 0,.ptr 6 0])),(2,iv d),(6,.one (.ptr 7 0)),(7,iv ((p.1.1:Int)-1))],[.row [.im (.ip [.sl (n.reg.map e9),.sl (n.notes.map l5),.sl ((nums n.reg).map encI),.sl ((j7 (j6 n.notes)).map encI)])],.row [.im (.sl (s.map encI))],.row [.im (.sl (w.map encI))],.row [.im (rI m)],.map [.int .i64] (F7 p.1.2),.row [.map 4],.row [.fn (.func 234) [.ptr 5 0,.ptr 0 0,.ptr 1 0,.ptr 2 0,.ptr 3 0,.ptr 6 0]],.row ((l5 ⟨0,0,0,0,0,0,0,0,false,0⟩).map .im)]⟩) (fun p=>p.1.1) ⟨(n.notes.length,M),by simp,hM,rfl⟩ (zv [0,1,2,6,7]) ?_
 clear hM
 rintro⟨⟨k,M2⟩,hk,hM2,hv⟩
 simp only at hk hM2 hv
 simp only[iv]
 cases k with
 | zero =>
   have hs:=trivial
   repeat' first|(with_reducible first|refine zz ?_|refine zr ?_)|with_reducible refine zE [0,1,2,6,7,8,17,36] ?_;try simp -dsimp[hs]|refine i9 ?_ ?_<;>intro h<;>try simp only[i7] at h
   all_goals try simp -dsimp[hs]
   all_goals try clear hs
   exact⟨M2,hM2,by rw[hv];simp[wD,FN,kK],rfl⟩
 | succ k =>
   have hkl:k<n.notes.length:=hk
   have hwk:IntKind.i64.wrap ((k:Int)-1)=(k:Int)-1:=n8 (by omega) (by omega)
   have hc:=ih k hkl M2 hM2
   rw[Av hkl] at hv
   generalize hx:n.notes[k]=x at *
   by_cases hd:x.drawing=d
   ·have hs:=za hx (za hkl (za hwk hd))
    repeat' first|(with_reducible first|refine zz ?_|refine zr ?_)|refine CallE.embed_ex [0,1,2,3,4,5,6] (hc) ?_ ?_ ?_ ?_ ?_ ?_;(focus simp[u3];done);(focus simp;done);(focus simp;done);(focus simp;done);(focus refine n7 ?_;simp[u3,p9];done);intro mm hmm;try simp -dsimp[n5,u3,hs]|with_reducible refine zE [0,1,2,6,7,8,17,36] ?_;try simp -dsimp[hs]|refine i9 ?_ ?_<;>intro h<;>try simp only[i7] at h
    all_goals try simp -dsimp[hs]
    all_goals try clear hs
    ·have e:=hv.trans (if_pos ⟨hd,by assumption⟩)
     exact⟨mm,hmm,by rw[e];simp[hd],rfl⟩
    ·have hf:E3 n s w m k=false:=by assumption
     have e:=hv.trans (if_neg fun h=>by rw[hf] at h;exact Bool.false_ne_true h.2)
     exact At.round ⟨(k,mm),by simp only;omega,hmm,e⟩ (by simp) (zw [0,1,2,6,7] 8)
   ·rw[if_neg fun h=>hd h.1] at hv
    have hs:=za hx (za hkl (za hwk hd))
    repeat' first|with_reducible refine zz ?_|with_reducible refine zE [0,1,2,6,7,8,17,36] ?_;try simp -dsimp[hs]|refine i9 ?_ ?_<;>intro h<;>try simp only[i7] at h
    all_goals try simp -dsimp[hs]
    all_goals try clear hs
    exact At.round ⟨(k,M2),by simp only;omega,hM2,hv⟩ (by simp) (zw [0,1,2,6,7] 8)
def fY (n:Notes) (s:List Int) (m:Int):List Int:=(nums n.reg).map fun d=>(wD n s [] m d n.notes.length).letter
theorem sg (n:Notes) (s:List Int) (m:Int) (hl:n.notes.length<1000) (hr:n.reg.length<1000) (hsl:s.length<1000):zP prog G 164 [.one (.im (G8 n)),r8 s,iv m] (r8 (fY n s m)):=by
 refine zf func164 ntmps164 ?_
 try simp only[r8,iv]
 have c1:=uk (G:=G) n s [] m
 simp only[N7,frcCaps,G8,iv,r8,bv,rI,List.map_cons,List.map_nil,F7] at c1 ⊢
 have hs:=trivial
 repeat' first|with_reducible refine zz ?_|refine CallE.embed [] (c1) ?_ ?_ ?_ ?_ ?_ ?_;(focus simp[u3];done);(focus simp;done);(focus simp;done);(focus simp;done);(focus refine n7 ?_;simp[u3,p9];done);try simp -dsimp[n5,u3,hs]|with_reducible refine zE [0,1,2,6,7,8,10,18,19,20,21] ?_;try simp -dsimp[hs]
 all_goals try simp -dsimp[hs]
 have hrl:=u4 n.reg n.reg.length
 rw[show C8 n.reg n.reg.length=nums n.reg from rfl] at hrl
 have hE:fY n s m=(nums n.reg).map fun d=>(wD n s [] m d n.notes.length).letter:=rfl
 generalize hP:(fun d=>(wD n s [] m d n.notes.length).letter)=P at *
 generalize hns:nums n.reg=ns at *
 refine i6 (ι:={ p:Nat×Nat×Bool×List (Int×Bool) // p.1≤ns.length∧ConsM n s [] m p.2.2.2 }) (fun p=>⟨34,[(0,.one (.im (.ip [.sl (n.reg.map e9),.sl (n.notes.map l5),.sl (ns.map encI),.sl ((j7 (j6 n.notes)).map encI)]))),(7,.one (.fn (.func 234) [.ptr 6 0,.ptr 1 0,.ptr 2 0,.ptr 3 0,.ptr 4 0,.ptr 7 0])),(8,.one (.vec 8 p.1.2.1 0 p.1.1)),(18,r8 ns),(19,iv (ns.length:Int)),(20,iv (p.1.1:Int))],[.vec 1 [] 0 true]++[.row [.im (.ip [.sl (n.reg.map e9),.sl (n.notes.map l5),.sl (ns.map encI),.sl ((j7 (j6 n.notes)).map encI)])],.row [.im (.sl (s.map encI))],.row [.im (.sl [])],.row [.im (rI m)],.map [.int .i64] (F7 p.1.2.2.2),.row [.map 5],.row [.fn (.func 234) [.ptr 6 0,.ptr 1 0,.ptr 2 0,.ptr 3 0,.ptr 4 0,.ptr 7 0]]]++[.vec 1 (l8 (((ns.take p.1.1).map P).map encI)) p.1.2.1 p.1.2.2.1]⟩) (fun p=>ns.length-p.1.1) ⟨(0,0,true,[]),by simp,ConsM.nil _ _ _ _⟩ (zv [0,7,8,18,19,20] (by simp[F7])) ?_
 rintro⟨⟨k,g,nl,M⟩,hk,hM⟩
 simp only at hk hM
 simp only[iv,r8]
 have hlk:((ns.take k).map P).length=k:=by simp;omega
 by_cases hlt:k<ns.length
 ·have hw:=zk k
  have hst:(ns.take (k+1)).map P=(ns.take k).map P++[P ns[k]]:=by rw[List.take_succ_eq_append_getElem hlt,List.map_append,List.map_singleton]
  generalize hx:ns[k]=x at *
  have c2:=IS (G:=G) n s [] m x hl hsl (by simp) M hM
  have hPx:(wD n s [] m x n.notes.length).letter=P x:=by rw[← hP]
  simp only[N7,frcCaps,G8,iv,bv,rI,List.map_cons,List.map_nil,hns] at c2
  generalize (ns.take k).map P=L at *
  subst hlk
  have hs:=za hx (za hlt (za hw hPx))
  repeat' first|(with_reducible first|refine zz ?_|refine And.intro (by omega) ?_)|refine CallE.embed_ex [1,2,3,4,5,6,7] (c2) ?_ ?_ ?_ ?_ ?_ ?_;(focus simp[u3];done);(focus simp;done);(focus simp;done);(focus simp;done);(focus refine n7 ?_;simp[u3,p9];done);intro mm hmm;try simp -dsimp[n5,u3,hs]|with_reducible refine zE [0,1,2,6,7,8,10,18,19,20,21] ?_;try simp -dsimp[hs]|refine i9 ?_ ?_<;>intro h<;>try simp only[i7] at h
  all_goals try simp -dsimp[hs]
  all_goals exact zn ⟨(L.length+1,g+1,false,mm),by simp only;omega,hmm⟩ (zw [0,7,8,18,19,20] 9 (by simp[hst,hPx]))
 ·obtain rfl:k=ns.length:=by omega
  rw[List.take_length] at hlk ⊢
  have hs:=hlt
  repeat' first|(with_reducible first|refine zz ?_|refine zr ?_)|with_reducible refine zE [0,1,2,6,7,8,10,18,19,20,21] ?_;try simp -dsimp[hs]|refine i9 ?_ ?_<;>intro h<;>try simp only[i7] at h
  all_goals try simp -dsimp[hs]
  simp[hE]
theorem kM (n:Notes) (s:List Int) (m:Int) (hG:o4 G) (hN:D6 G) (hS:u7 G) (hs:xz n) (hsl:s.length<1000):zP prog G 101 [o5 n,r8 s,iv m] (.tup [r8 (if D3 n s m=0 then fY n s m else []),iv (D3 n s m)]):=by
 refine zf func101 ntmps101 ?_
 try simp only[o5,r8,iv]
 have c1:=uz n s m hG hN hS hs hsl
 by_cases h0:D3 n s m=0
 ·rw[h0,show O4 n s m=.one (.im (G8 n)) by unfold O4;rw[if_pos h0]] at c1
  have hl12:=hs.2.1
  have hr80:=hs.1.1
  have c2:=sg (G:=G) n s m (by omega) (by omega) hsl
  simp only[G8] at c1 c2
  rw[if_pos h0]
  have hs:=trivial
  repeat' first|(with_reducible first|refine zz ?_|refine zr ?_)|(first|refine zp c1 ?_|refine zp c2 ?_|with_reducible refine zE [0,1,2,3,6,7,8,9,18] ?_);try simp -dsimp[hs]|refine i9 ?_ ?_<;>intro h<;>try simp only[i7] at h
  all_goals try simp -dsimp[hs]
  all_goals try clear hs
  all_goals simp[h0]
 ·rw[show O4 n s m=.one (.im (.raw (.pointer none))) by unfold O4;rw[if_neg h0]] at c1
  have hs:=h0
  repeat' first|(with_reducible first|refine zz ?_|refine zr ?_)|(first|refine zp c1 ?_|with_reducible refine zE [0,1,2,3,6,7,8,9,18] ?_);try simp -dsimp[hs]|refine i9 ?_ ?_<;>intro h<;>try simp only[i7] at h
  all_goals try simp -dsimp[hs]
  all_goals try clear hs
  all_goals simp[h0]
end Go.Proofs
namespace Go.Proofs
open Go Go.Ab
def be (l:List Note):List Nat:=((List.range l.length).filter (jt l)).mergeSort fun a b=>decide (B5 l a≤B5 l b)
theorem kH (l:List Note):OpenTo l l.length (be l):=by
 refine⟨List.mergeSort_perm _ _,?_⟩
 have:=List.pairwise_mergeSort (le:=fun a b:Nat=>decide (B5 l a≤B5 l b)) (fun a b c h1 h2=>by simp at *;omega) (fun a b=>by simp;omega) ((List.range l.length).filter (jt l))
 exact this.imp fun h=>by simpa using h
theorem yv {n:Notes} (hok:cE n) {S:List Nat} (h:OpenTo n.notes n.notes.length S):S=be n.notes:=by
 have h2:=kH n.notes
 refine(h.perm.trans h2.perm.symm).eq_of_pairwise (le:=fun a b=>B5 n.notes a≤B5 n.notes b) (fun a b ha hb h3 h4=>?_) h.srt h2.srt
 have la:=(h.lt a ha).1
 have lb:=(h2.lt b hb).1
 have e:B5 n.notes a=B5 n.notes b:=by omega
 simp only[B5,List.getElem?_eq_getElem la,List.getElem?_eq_getElem lb,Option.map_some,Option.getD_some] at e
 have hnd:=kJ hok
 have la':a<(n.notes.map (·.number)).length:=by simpa using la
 have lb':b<(n.notes.map (·.number)).length:=by simpa using lb
 have e':(n.notes.map (·.number))[a]=(n.notes.map (·.number))[b]:=by simpa using e
 exact(List.getElem_inj hnd).1 e'
theorem rN {n:Notes}:(be n.notes).map (B5 n.notes)=j7 (j6 n.notes):=(kH n.notes).nums
theorem yu {l:List Note} {i:Nat} (h:i∈be l):i<l.length:=((kH l).lt i h).1
end Go.Proofs
namespace Go.Ab
open Go
@[simp] theorem Hw (X:List (List IC)) (k:Nat) (c:IC):(l8 X).set k [DC.im c]=l8 (X.set k [c]):=by
 simp only[l8,List.map_set,List.map_cons,List.map_nil]
@[simp] theorem HB (X:List (List IC)) (k:Nat) (h:k<(l8 X).length):(l8 X)[k]=(X[k]'(by simpa[p7] using h)).map .im:=by simp[l8]
theorem iX (S:List Nat) (i v:Nat):(S.map fun j=>((j:Nat):Int)).set i (v:Int)=(S.set i v).map fun j=>((j:Nat):Int):=by
 rw[List.map_set]
theorem zi {S:List Nat} {q k:Nat} (hq:q<S.length):((S.take (q+1)++k :: S.drop (q+1)).set (q+1) S[q]).set q k=S.take q++k :: S.drop q:=by
 have h1:S.take (q+1)=S.take q++[S[q]]:=List.take_succ_eq_append_getElem hq
 have hl:(S.take q).length=q:=by simp;omega
 rw[List.drop_eq_getElem_cons hq,h1,List.append_assoc,List.set_append_right _ _ (by omega),List.set_append_right _ _ (by omega)]
 congr 1
 rw[hl,show q+1-q=1 by omega,show q-q=0 by omega]
 rfl
theorem Fg {S:List Nat} {q k:Nat} (hq:q≤S.length):(S.take q++k :: S.drop q)[q]?=some k:=by
 have hl:(S.take q).length=q:=by simp;omega
 rw[List.getElem?_append_right (by omega),hl,Nat.sub_self];rfl
theorem sv {S:List Nat} {q k:Nat} (hq:q<S.length):(S.take (q+1)++k :: S.drop (q+1))[q]?=some S[q]:=by
 rw[List.getElem?_append_left (by simp;omega),List.getElem?_take_of_lt (by omega),List.getElem?_eq_getElem hq]
end Go.Ab
namespace Go.Proofs
open Go Go.Ab
variable {G:GW}
def T9 (S:List Nat):List Int:=S.map fun j=>((j:Nat):Int)
theorem Ca (n:Notes) (hs:xz n) (hok:cE n):zP Tryz.prog G 100 [o5 n] (r8 (T9 (be n.notes))):=by
 refine zf Tryz.func100 Tryz.ntmps100 ?_
 try simp only[o5]
 have hn16:=hs.2.1
 have hs:=trivial
 repeat' first|(with_reducible first|refine zz ?_|refine zE [0,1,2,3,4,5,6,11,20,51] ?_)|simp -dsimp[hs]
 all_goals try clear hs
 refine i6 (ι:={ p:Nat×Nat×Bool×List Nat // p.1≤n.notes.length∧OpenTo n.notes p.1 p.2.2.2 }) (fun p=>⟨72,[(1,.one (.ptr 0 0)),(3,.one (.vec 2 p.1.2.1 0 (T9 p.1.2.2.2).length)),(4,iv (p.1.1:Int))],[.row ((p6 n).map .im),.vec 1 [] 0 true,.vec 1 (l8 ((T9 p.1.2.2.2).map encI)) p.1.2.1 p.1.2.2.1]⟩) (fun p=>n.notes.length-p.1.1) ⟨(0,0,true,[]),by simp,OpenTo.nil _⟩ (zv [1,3,4] (by simp[T9])) ?_
 rintro⟨⟨i,g,nl,S⟩,hi,hS⟩
 simp only at hi hS
 simp only[iv]
 have hSl:=hS.len
 by_cases hlt:i<n.notes.length
 ·have hw:=zk i
  have hop:jt n.notes i=decide (n.notes[i].signed=1):=by simp[jt,hlt]
  have hnu:B5 n.notes i=n.notes[i].number:=by simp[B5,hlt]
  generalize hx:n.notes[i]=x at *
  by_cases h1:x.signed=1
  ·have hLl:(T9 S).length=S.length:=by simp[T9]
   have hw2:IntKind.i64.wrap ((T9 S).length:Int)=((T9 S).length:Int):=n8 (by omega) (by omega)
   rw[decide_eq_true h1] at hop
   have hs:=za hx (za hlt (za h1 (za hw hw2)))
   repeat' first|(with_reducible first|refine zz ?_|refine And.intro (by omega) ?_|refine zE [0,1,2,3,4,5,6,11,20,51] ?_)|simp -dsimp[hs]|refine i9 ?_ ?_<;>intro h<;>try simp only[i7] at h
   all_goals try clear hs
   refine i6 (ι:={ q:Nat // q≤S.length∧∀ j∈S.drop q,B5 n.notes i≤B5 n.notes j }) (fun p=>⟨72,[(1,.one (.ptr 0 0)),(3,.one (.vec 2 (g+1) 0 (S.length+1))),(4,iv (i:Int)),(5,iv (p.1:Int))],[.row ((p6 n).map .im),.vec 1 [] 0 true,.vec 1 (l8 ((T9 (S.take p.1++i :: S.drop p.1)).map encI)) (g+1) false]⟩) (fun p=>p.1) ⟨S.length,by simp⟩ (zw [1,3,4,5] 3 (by simp[hLl];simp[T9])) ?_
   rintro⟨q,hq,hge⟩
   simp only[iv]
   have hLq:=Fg (k:=i) hq
   have hTl:(T9 (S.take q++i :: S.drop q)).length=S.length+1:=by simp[T9];omega
   have hLi:(T9 (S.take q++i :: S.drop q))[q]?=some (i:Int):=by rw[T9,List.getElem?_map,hLq];rfl
   by_cases h0:q=0
   ·subst h0
    have hput:=hS.put hop 0 (by simp) hge
    have hs:=za hw (za hx hlt)
    repeat' first|with_reducible refine zz ?_|simp -dsimp[hs]|refine zM 8 72 24 [0,1,2,3,4,5,6,11,20,51] ?_|with_reducible refine zE [0,1,2,3,4,5,6,11,20,51] ?_|refine i9 ?_ ?_<;>intro h<;>try simp only[i7] at h
    all_goals try clear hs
    exact zn ⟨(i+1,g+1,false,S.take 0++i :: S.drop 0),by omega,hput⟩ (zv [1,3,4] (by simp[T9]))
   ·obtain⟨r,rfl⟩:∃ r,q=r+1:=⟨q-1,by omega⟩
    have hr:r<S.length:=by omega
    have hb:=sv (k:=i) hr
    have hLr:(T9 (S.take (r+1)++i :: S.drop (r+1)))[r]?=some (S[r]:Int):=by rw[T9,List.getElem?_map,hb];rfl
    have hsw:=zi (k:=i) hr
    have hLs:((T9 (S.take (r+1)++i :: S.drop (r+1))).set (r+1) (S[r]:Int)).set r (i:Int)=T9 (S.take r++i :: S.drop r):=by
     rw[T9,iX,iX,hsw];rfl
    have hj:=(hS.lt S[r] (List.getElem_mem hr)).1
    have hjl:S[r]<n.notes.length:=by omega
    have hju:B5 n.notes S[r]=n.notes[S[r]].number:=by simp[B5,hjl]
    have hdr:=List.drop_eq_getElem_cons hr
    have hfirst:=fun (v:Int) h=>hS.first hr (v:=v) h
    have hput:=fun h=>hS.put hop (r+1) h hge
    have hq1:((r+1:Nat):Int)-1=(r:Int):=by omega
    have hwr:IntKind.i64.wrap (r:Int)=(r:Int):=n8 (by omega) (by omega)
    have hr1:r<S.length+1:=by omega
    have hp0:(0:Int)≤(r:Int)+1:=by omega
    have hp1:(0:Int)<(r:Int)+1:=by omega
    have hwr1:IntKind.i64.wrap ((r:Int)+1-1)=(r:Int):=n8 (by omega) (by omega) |>.trans (by omega)
    generalize S[r]=j at *
    generalize hy:n.notes[j]=y at *
    generalize hL:T9 (S.take (r+1)++i :: S.drop (r+1))=L at *
    obtain⟨_,hLre⟩:=List.getElem?_eq_some_iff.1 hLr
    obtain⟨_,hLie⟩:=List.getElem?_eq_some_iff.1 hLi
    have hs:=za hw (za hx (za hlt (za hy (za hjl (za hLie (za hLre (za hwr (za hTl (za hr (za hr1 (za hp0 (za hp1 hwr1))))))))))))
    repeat' first|with_reducible refine zz ?_|simp -dsimp[hs]|refine zM 8 72 24 [0,1,2,3,4,5,6,11,20,51] ?_|with_reducible refine zE [0,1,2,3,4,5,6,11,20,51] ?_|refine i9 ?_ ?_<;>intro h<;>try simp only[i7] at h
    all_goals try clear hs
    ·exact At.round ⟨r,by omega,fun z hz=>by
      rw[hdr] at hz
      rcases List.mem_cons.1 hz with rfl|hz
      ·omega
      ·exact hge z hz⟩ (by simp) (zv [1,3,4,5] (by simp[← hLs]))
    ·exact zn ⟨(i+1,g+1,false,S.take (r+1)++i :: S.drop (r+1)),by omega,hput (hfirst _ (by omega))⟩ (zv [1,3,4] (by simp[hL,hTl]))
  ·rw[decide_eq_false h1] at hop
   have hs:=za hx (za hlt (za h1 hw))
   repeat' first|(with_reducible first|refine zz ?_|refine zE [0,1,2,3,4,5,6,11,20,51] ?_)|simp -dsimp[hs]|refine i9 ?_ ?_<;>intro h<;>try simp only[i7] at h
   all_goals try clear hs
   exact zn ⟨(i+1,g,nl,S),by omega,hS.skip hop⟩ (zv [1,3,4])
 ·obtain rfl:i=n.notes.length:=by omega
  obtain rfl:=yv hok hS
  have hs:=hlt
  repeat' first|(with_reducible first|refine zz ?_|refine zr ?_|refine zE [0,1,2,3,4,5,6,11,20,51] ?_)|simp -dsimp[hs]|refine i9 ?_ ?_<;>intro h<;>try simp only[i7] at h
  all_goals try clear hs
  all_goals simp[T9]
end Go.Proofs
namespace Go.Proofs
open Go Go.Ab
variable {G:GW}
def B8 (n:Notes) (s:List Int) (m:Int):List Int:=(nums n.reg).map fun d=>fZ n.notes (R1 s [] m n.notes) d
end Go.Proofs
namespace Go.Proofs
open Go Go.Ab
theorem FO (n:Notes) (s w:List Int) (m d:Int):wD n s w m d n.notes.length=if oQ n.notes (R1 s w m n.notes) d n.notes.length<0 then kK else (n.notes[(oQ n.notes (R1 s w m n.notes) d n.notes.length).toNat]?).getD kK:=by
 unfold wD
 rw[Eb _ _ _ _ (Nat.le_refl _)]
 split
 ·rfl
 ·split<;>simp[*]
theorem Dk {l:List Note} {b:List Bool} {d:Int} {k:Nat} (hk:k≤l.length) (h:¬ oQ l b d k<0):(oQ l b d k).toNat<l.length:=by
 have:=(Au l b d k).2;omega
theorem kT (n:Notes) (s:List Int) (m:Int):fY n s m=B8 n s m:=by
 refine List.map_congr_left fun d _=>?_
 rw[FO]
 unfold fZ
 rw[dg]
 split
 ·rfl
 ·rename_i h
  have hl:=Dk (Nat.le_refl _) h
  rw[List.getElem?_eq_getElem hl];rfl
end Go.Proofs
namespace Go.Ab
open Go
def q8:List Int→List Int
 | []=>[]
 | [a]=>[a]
 | a :: b :: r=>if a=b then q8 (b :: r) else a :: q8 (b :: r)
theorem ji:∀ (l:List Int) (u v:Int),q8 (l++[u,v])=if u=v then q8 (l++[u]) else q8 (l++[u])++[v]
 | [],u,v=>by simp only[List.nil_append,q8];split<;>simp[*]
 | [a],u,v=>by
   simp only[List.cons_append,List.nil_append,q8]
   split<;>split<;>simp[*]
 | a :: b :: r,u,v=>by
   have ih:=ji (b :: r) u v
   simp only[List.cons_append,q8] at ih ⊢
   rw[ih]
   split<;>split<;>simp
theorem af:∀ l:List Int,(q8 l).length≤l.length
 | []=>by simp[q8]
 | [a]=>by simp[q8]
 | a :: b :: r=>by
   have:=af (b :: r)
   simp only[q8];split<;>simp at *<;>omega
theorem fj:∀ (l:List Int) (x:Int),x∈q8 l↔x∈l
 | [],x=>by simp[q8]
 | [a],x=>by simp[q8]
 | a :: b :: r,x=>by
   have ih:=fj (b :: r) x
   simp only[q8]
   split
   ·rename_i h;subst h;rw[ih];simp
   ·rw[List.mem_cons,ih,List.mem_cons (a:=x) (b:=a)]
theorem xD {l:List Int} {k:Nat} (h:k+1<l.length):l.take (k+2)=l.take k++[l[k],l[k+1]]:=by
 rw[show k+2=k+1+1 from rfl,List.take_succ_eq_append_getElem h,List.take_succ_eq_append_getElem (by omega),List.append_assoc];rfl
theorem lq {l:List Int} {k:Nat} (h:k+1<l.length):q8 (l.take (k+2))=if l[k]=l[k+1] then q8 (l.take (k+1)) else q8 (l.take (k+1))++[l[k+1]]:=by
 rw[xD h,ji,List.take_succ_eq_append_getElem (by omega)]
theorem pt {l:List Int} {k:Nat} {v:Int} (h:k<l.length):(l.set k v).take (k+1)=l.take k++[v]:=by
 rw[List.take_succ_eq_append_getElem (by simpa using h)]
 simp[List.take_set_of_le]
end Go.Ab
