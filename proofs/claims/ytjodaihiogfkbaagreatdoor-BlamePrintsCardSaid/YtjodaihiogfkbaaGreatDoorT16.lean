/- Part 16 of the proofs. -/
import Derived.Test.YtjodaihiogfkbaaGreatDoorT14
import Derived.Test.YtjodaihiogfkbaaGreatDoorT15
set_option linter.all false
set_option linter.deprecated false
set_option maxHeartbeats 100000000
namespace Go.Proofs
open Go Go.Ab Tryz
variable {G:Kc}
theorem yG (n:Notes) (hG:o3 G) (hN:C7 G) (hS:u3 G) (hs:xF n):zP prog G 259 [p7 n] (iv (s6 n)):=by
 refine zf func259 ntmps259 ?_
 try simp only[p7]
 have c1:=pD n hG hN hS hs
 have hs:=trivial
 repeat' first|(with_reducible first|refine zz ?_|refine zr ?_|refine zE [0,1,2,4] ?_)|simp -dsimp[hs]|refine zp c1 ?_
 all_goals try clear hs
theorem vc {O:List Int} {j:Nat} (hd:O.Nodup) (hj:j<O.length):nL O[j] (O.take j)=O.take (j+1):=by
 unfold nL
 rw[if_neg,List.take_succ_eq_append_getElem hj]
 intro hm
 obtain⟨i,hi,e⟩:=List.mem_take_iff_getElem.1 hm
 have:=(List.getElem_inj hd).1 e;omega
theorem Bz (a b c:IC) (O s:List Int) (hd:O.Nodup) (hO:O.length<1000) (hsl:s.length<1000):zP prog G 193 [.one (.im (.ip [a,b,c,.sl (O.map encI)])),r7 s] (iv (if G7 O s then 0 else 31)):=by
 refine zf func193 ntmps193 ?_
 try simp only[r7]
 have hs:=trivial
 repeat' first|(with_reducible first|refine zz ?_|refine zE [0,1,4,5,7,8,9,14,15,16,17,23,24,25,26,46] ?_)|simp -dsimp[hs]
 refine i6 (ι:={ j:Nat // j≤O.length }) (fun p=>⟨50,[(1,r7 s),(4,iv 0),(5,.one (.map 0)),(14,.one (.im (.sl (O.map encI)))),(15,iv (O.length:Int)),(16,iv (p.1:Int))],[.map [.int .i64] (I6 (O.take p.1))]⟩) (fun p=>O.length-p.1) ⟨0,by omega⟩ (zv [1,4,5,14,15,16] (by simp[I6])) ?_
 rintro⟨j,hj⟩
 simp only[iv,r7]
 by_cases hlt:j<O.length
 ·have hw:=zk j
  have hst:=vc hd hlt
  generalize hx:O[j]=x at *
  have hs:=za hx (za hlt (za hw hst))
  repeat' first|(with_reducible first|refine zz ?_|refine zE [0,1,4,5,7,8,9,14,15,16,17,23,24,25,26,46] ?_)|simp -dsimp[hs]|refine i9 ?_ ?_<;>intro h<;>try simp only[i7] at h
  exact zn ⟨j+1,by omega⟩ (zv [1,4,5,14,15,16] (by simp[hst]))
 ·obtain rfl:j=O.length:=by omega
  rw[List.take_length]
  have hs:=hlt
  repeat' first|(with_reducible first|refine zz ?_|refine zE [0,1,4,5,7,8,9,14,15,16,17,23,24,25,26,46] ?_)|simp -dsimp[hs]|refine i9 ?_ ?_<;>intro h<;>try simp only[i7] at h
  refine i6 (ι:={ p:Nat×List Int // p.1≤s.length∧p.2.Nodup∧(∀ m,m∈p.2↔m∈O∧m∉s.take p.1)∧dK O s p.1 }) (fun p=>⟨50,[(1,r7 s),(5,.one (.map 0)),(23,r7 s),(24,iv (s.length:Int)),(25,iv (p.1.1:Int))],[.map [.int .i64] (I6 p.1.2)]⟩) (fun p=>s.length-p.1.1) ⟨(0,O),by simp,hd,by simp,fun i v h=>by omega⟩ (zv [1,5,23,24,25]) ?_
  rintro⟨⟨i,L⟩,hi,hLd,hLm,hto⟩
  simp only at hi hLd hLm hto
  simp only[iv,r7]
  by_cases hlt2:i<s.length
  ·have hx0:s[i]?=some s[i]:=by simp[hlt2]
   have hw:=zk i
   have hLv:=hLm s[i]
   have hLn:∀ m,m∈L.erase s[i]↔m∈O∧m∉s.take (i+1):=fun m=>by
    rw[hLd.mem_erase_iff,hLm,List.take_succ_eq_append_getElem hlt2]
    simp only[List.mem_append,List.mem_singleton,not_or]
    exact⟨fun h=>⟨h.2.1,h.2.2,h.1⟩,fun h=>⟨h.2.2,h.1,h.2.1⟩⟩
   have hLe:=hLd.erase s[i]
   generalize hv:s[i]=v at *
   by_cases hmem:v∈L
   ·have hmd:decide (v∈L)=true:=by simp[hmem]
    by_cases h00:i=0
    ·have hnext:=fJ hto hx0 (hLv.1 hmem).1 (fun j u e=>by omega)
     subst h00
     have hs:=za hv (za hlt2 (za hmd hmem))
     repeat' first|(with_reducible first|refine zz ?_|refine zE [0,1,4,5,7,8,9,14,15,16,17,23,24,25,26,46] ?_)|simp -dsimp[hs]|refine i9 ?_ ?_<;>intro h<;>try simp only[i7] at h
     exact zn ⟨(0+1,L.erase v),by omega,hLe,hLn,hnext⟩ (zv [1,5,23,24,25] (by simp;exact o4 (by omega) (by omega)))
    ·have hq:i-1<s.length:=by omega
     have hwq:IntKind.i64.wrap ((i:Int)-1)=((i-1:Nat):Int):=by rw[o4 (by omega) (by omega)];omega
     have hi0:(0:Int)<(i:Int):=by omega
     have hin0:0<i:=by omega
     have hu0:s[i-1]?=some s[i-1]:=by simp[hq]
     have hnin:s[i-1]≠v:=fun e=>(hLv.1 hmem).2 (e ▸ List.mem_take_iff_getElem.2 ⟨i-1,by omega,rfl⟩)
     generalize hu:s[i-1]=u at *
     by_cases hlu:v<u
     ·have hb:=mz (o:=O) hx0 (.inr ⟨i-1,u,by omega,hu0,by omega⟩)
      have hs:=za hv (za hu (za hq (za hlt2 (za hw (za hwq (za hmd (za hmem (za hi0 (za hin0 hlu)))))))))
      repeat' first|(with_reducible first|refine zz ?_|refine zr ?_|refine zE [0,1,4,5,7,8,9,14,15,16,17,23,24,25,26,46] ?_)|simp -dsimp[hs]|refine i9 ?_ ?_<;>intro h<;>try simp only[i7] at h
      all_goals simp[hb]
     ·have hnext:=fJ hto hx0 (hLv.1 hmem).1 (fun j u' e hu'=>by
       obtain rfl:i-1=j:=by omega
       rw[hu0] at hu';cases hu';omega)
      have hs:=za hv (za hu (za hq (za hlt2 (za hw (za hwq (za hmd (za hmem (za hi0 (za hin0 hlu)))))))))
      repeat' first|(with_reducible first|refine zz ?_|refine zE [0,1,4,5,7,8,9,14,15,16,17,23,24,25,26,46] ?_)|simp -dsimp[hs]|refine i9 ?_ ?_<;>intro h<;>try simp only[i7] at h
      exact zn ⟨(i+1,L.erase v),by omega,hLe,hLn,hnext⟩ (zv [1,5,23,24,25])
   ·have hmd:decide (v∈L)=false:=by simp[hmem]
    have hb:G7 O s=false:=by
     refine mz hx0 ?_
     by_cases ho:v∈O
     ·refine .inr ?_
      cases i with
      | zero=>exact absurd (hLv.2 ⟨ho,by simp⟩) hmem
      | succ q =>
        have hq:q<s.length:=by omega
        refine⟨q,s[q],rfl,by simp[hq],Int.not_lt.1 fun hlt3=>hmem (hLv.2 ⟨ho,pg hto hq hlt3⟩)⟩
     ·exact .inl ho
    have hs:=za hv (za hlt2 (za hmd hmem))
    repeat' first|(with_reducible first|refine zz ?_|refine zr ?_|refine zE [0,1,4,5,7,8,9,14,15,16,17,23,24,25,26,46] ?_)|simp -dsimp[hs]|refine i9 ?_ ?_<;>intro h<;>try simp only[i7] at h
    all_goals simp[hb]
  ·have hb:G7 O s=true:=kn (ph (by rwa [show i=s.length by omega] at hto))
   have hs:=hlt2
   repeat' first|(with_reducible first|refine zz ?_|refine zr ?_|refine zE [0,1,4,5,7,8,9,14,15,16,17,23,24,25,26,46] ?_)|simp -dsimp[hs]|refine i9 ?_ ?_<;>intro h<;>try simp only[i7] at h
   all_goals simp[hb]
def C0 (n:Notes) (s:List Int) (m:Int):Int:=if s6 n≠0 then s6 n else if G7 (j6 (j8 n.notes)) s=false then 31 else if 1≤m∧m≤999 then 0 else 2
def I2 (n:Notes) (s:List Int) (m:Int):DV:=if C0 n s m=0 then .one (.im (C8 n)) else .one (.im (.raw (.pointer none)))
theorem wT (n:Notes) (s:List Int) (m:Int):ImV (I2 n s m):=by unfold I2;split<;>simp[C8]
attribute [simp] wT
theorem qM {n:Notes} {s:List Int} {m:Int} (h:C0 n s m=0):s6 n=0∧G7 (j6 (j8 n.notes)) s=true∧1≤m∧m≤999:=by
 unfold C0 at h
 split at h
 ·contradiction
 ·split at h
  ·cases h
  ·split at h
   ·rename_i h1 h2 h3;exact⟨by simpa using h1,by simpa using h2,h3⟩
   ·cases h
theorem bc {n:Notes} (h:s6 n=0):l4 n.reg=0∧n.notes.length≤12∧lK n∧(j8 n.notes).length≤5:=by
 unfold s6 at h
 split at h
 ·contradiction
 ·split at h
  ·rename_i h1 h2;exact⟨by simpa using h1,notesB_iff.1 h2⟩
  ·cases h
theorem oS (n:Notes) (s:List Int) (m:Int) (hG:o3 G) (hN:C7 G) (hS:u3 G) (hs:xF n) (hsl:s.length<1000):zP prog G 128 [p7 n,r7 s,iv m] (.tup [I2 n s m,iv (C0 n s m)]):=by
 refine zf func128 ntmps128 ?_
 try simp only[p7,r7,iv]
 have c1:=pD n hG hN hS hs
 by_cases h0:s6 n=0
 ·rw[h0,show cz n=.one (.im (C8 n)) by unfold cz;rw[if_pos h0]] at c1
  have hok:=bc h0
  have hnl:=hs.2.1
  have hol:=Y5 n.notes
  have c2:=Bz (G:=G) (.sl (n.reg.map e9)) (.sl (n.notes.map l5)) (.sl ((nums n.reg).map encI)) (j6 (j8 n.notes)) s (pW (jg hok.2.2.1)) (by rw[H3];omega) hsl
  have c3:=gx (G:=G) 1 999 [m] (by simp)
  have hE:C0 n s m=if G7 (j6 (j8 n.notes)) s=false then 31 else if 1≤m∧m≤999 then 0 else 2:=by unfold C0;rw[if_neg (by simp[h0])]
  simp only[C8] at c1
  cases ht:G7 (j6 (j8 n.notes)) s
  ·rw[ht] at c2 hE
   have hE:C0 n s m=31:=by rw[hE];rfl
   have hs:=trivial
   repeat' first|(with_reducible first|refine zz ?_|refine zr ?_|refine zE [0,1,2,3,6,7,8,9,10,17,23,28] ?_)|simp -dsimp[hs]|refine zp c1 ?_|refine zp c2 ?_|refine i9 ?_ ?_<;>intro h<;>try simp only[i7] at h
   all_goals try clear hs
   all_goals simp[I2,hE]
  ·rw[ht] at c2 hE
   by_cases hm:1≤m∧m≤999
   ·have hE:C0 n s m=0:=by rw[hE,if_neg (by simp),if_pos hm]
    have hin:([m].all fun x=>decide (1≤x)&&decide (x≤999))=true:=by simp[hm]
    rw[hin] at c3
    have hs:=trivial
    repeat' first|(with_reducible first|refine zz ?_|refine zr ?_|refine zE [0,1,2,3,6,7,8,9,10,17,23,28] ?_)|simp -dsimp[hs]|refine zp c1 ?_|refine zp c2 ?_|refine zt c3 ?_ ?_ ?_;(focus simp;done);focus (simp;done)|refine i9 ?_ ?_<;>intro h<;>try simp only[i7] at h
    all_goals try clear hs
    all_goals simp[I2,hE,C8]
   ·have hE:C0 n s m=2:=by rw[hE,if_neg (by simp),if_neg hm]
    have hin:([m].all fun x=>decide (1≤x)&&decide (x≤999))=false:=by simp;omega
    rw[hin] at c3
    have hs:=trivial
    repeat' first|(with_reducible first|refine zz ?_|refine zr ?_|refine zE [0,1,2,3,6,7,8,9,10,17,23,28] ?_)|simp -dsimp[hs]|refine zp c1 ?_|refine zp c2 ?_|refine zt c3 ?_ ?_ ?_;(focus simp;done);focus (simp;done)|refine i9 ?_ ?_<;>intro h<;>try simp only[i7] at h
    all_goals try clear hs
    all_goals simp[I2,hE]
 ·rw[show cz n=.one (.im (.raw (.pointer none))) by unfold cz;rw[if_neg h0]] at c1
  have hE:C0 n s m=s6 n:=by unfold C0;rw[if_pos h0]
  have hs:=h0
  repeat' first|(with_reducible first|refine zz ?_|refine zr ?_|refine zE [0,1,2,3,6,7,8,9,10,17,23,28] ?_)|simp -dsimp[hs]|refine zp c1 ?_|refine i9 ?_ ?_<;>intro h<;>try simp only[i7] at h
  all_goals try clear hs
  all_goals simp[I2,hE,h0]
def U0 (n:Notes) (s:List Int) (m d:Int):Int:=if C0 n s m≠0 then C0 n s m else if d∈nums n.reg then 0 else 6
def aO (n:Notes) (s:List Int) (m d:Int):DV:=if U0 n s m d=0 then .one (.im (C8 n)) else .one (.im (.raw (.pointer none)))
theorem wz (n:Notes) (s:List Int) (m d:Int):ImV (aO n s m d):=by unfold aO;split<;>simp[C8]
attribute [simp] wz
theorem CY (n:Notes) (s:List Int) (m d:Int) (hG:o3 G) (hN:C7 G) (hS:u3 G) (hs:xF n) (hsl:s.length<1000):zP prog G 184 [p7 n,r7 s,iv m,iv d] (.tup [aO n s m d,iv (U0 n s m d)]):=by
 refine zf func184 ntmps184 ?_
 try simp only[p7,r7,iv,iv]
 have c1:=oS n s m hG hN hS hs hsl
 by_cases h0:C0 n s m=0
 ·rw[h0,show I2 n s m=.one (.im (C8 n)) by unfold I2;rw[if_pos h0]] at c1
  have hrl:=hs.1.1
  have hnl:=u6 n.reg n.reg.length
  have c2:=U1 (G:=G) (nums n.reg) d (by unfold nums;omega)
  have hE:U0 n s m d=if d∈nums n.reg then 0 else 6:=by unfold U0;rw[if_neg (by simp[h0])]
  simp only[C8] at c1
  by_cases hd:d∈nums n.reg
  ·rw[decide_eq_true hd] at c2
   rw[if_pos hd] at hE
   have hs:=trivial
   repeat' first|(with_reducible first|refine zz ?_|refine zr ?_|refine zE [0,1,2,3,4,8,9,10,11,20,28] ?_)|simp -dsimp[hs]|refine zp c1 ?_|refine zp c2 ?_|refine i9 ?_ ?_<;>intro h<;>try simp only[i7] at h
   all_goals try clear hs
   all_goals simp[aO,hE,C8]
  ·rw[decide_eq_false hd] at c2
   rw[if_neg hd] at hE
   have hs:=trivial
   repeat' first|(with_reducible first|refine zz ?_|refine zr ?_|refine zE [0,1,2,3,4,8,9,10,11,20,28] ?_)|simp -dsimp[hs]|refine zp c1 ?_|refine zp c2 ?_|refine i9 ?_ ?_<;>intro h<;>try simp only[i7] at h
   all_goals try clear hs
   all_goals simp[aO,hE]
 ·rw[show I2 n s m=.one (.im (.raw (.pointer none))) by unfold I2;rw[if_neg h0]] at c1
  have hE:U0 n s m d=C0 n s m:=by unfold U0;rw[if_pos h0]
  have hs:=h0
  repeat' first|(with_reducible first|refine zz ?_|refine zr ?_|refine zE [0,1,2,3,4,8,9,10,11,20,28] ?_)|simp -dsimp[hs]|refine zp c1 ?_|refine i9 ?_ ?_<;>intro h<;>try simp only[i7] at h
  all_goals try clear hs
  all_goals simp[aO,hE,h0]
end Go.Proofs
namespace Go.Ab
open Go
structure Holder where
 id:Int
 frm:Int
 to:Int
 draws:List Int
 deriving DecidableEq
structure Print where
 number:Int
 day:Int
 holder:Int
 drawing:Int
 letter:Int
 back:Int
 lost:Int
 deriving DecidableEq
structure Prints where
 n:Notes
 holders:List Holder
 prints:List Print
 deriving DecidableEq
def o6 (x:Holder):List IC:=[rI x.id,rI x.frm,rI x.to,.sl (x.draws.map encI)]
def w8 (x:Print):List IC:=[rI x.number,rI x.day,rI x.holder,rI x.drawing,rI x.letter,rI x.back,.raw (.int .u8 x.lost)]
def o5 (p:Prints):List IC:=[.sl (p.n.reg.map e9),.sl (p.n.notes.map l5),.sl (p.holders.map o6),.sl (p.prints.map w8)]
def jn (x:Holder):DV:=.agg ((o6 x).map .im)
def cY (x:Print):DV:=.agg ((w8 x).map .im)
def C1 (p:Prints):DV:=.agg ((o5 p).map .im)
attribute [simp] o6 w8 o5 jn cY C1
end Go.Ab
namespace Go.Proofs
open Go Go.Ab
variable {G:Kc}
theorem sD (x lo hi:Int):DCall Tryz.prog G 284 (iv x :: [DC.ptr 0 0,DC.ptr 1 0].map .one) [.row [.im (rI lo)],.row [.im (rI hi)]] (fun d o=>d=bv (decide (x<lo)||decide (hi<x))∧o=[.row [.im (rI lo)],.row [.im (rI hi)]]):=by
 refine g9 Tryz.func284 rfl Tryz.ntmps284 (by simp) rfl ?_
 simp only[rI]
 have hs:=trivial
 repeat' first|(with_reducible first|refine zz ?_|refine zr ?_|refine zE [0,1,2,4] ?_)|simp -dsimp[hs]|with_reducible refine j0 ?_ ?_<;>intro h<;>have h0:=h<;>(try simp only[i7] at h)<;>have h2:=h<;>(try simp at h2)<;>replace hs:=za h0 (za h (za h2 hs))|with_reducible refine And.intro ?_ ?_
 all_goals try clear hs
 all_goals simp[*]
theorem T7 (lo hi:Int) (l:List Int) (hl:l.length<1000000):zP Tryz.prog G 229 [iv lo,iv hi,r7 l] (bv (l.all fun x=>decide (lo≤x)&&decide (x≤hi))):=by
 refine zf Tryz.func229 Tryz.ntmps229 ?_
 try simp only[iv,iv,r7]
 have hc:=B4 (G:=G) l (fun x=>decide (x<lo)||decide (hi<x)) 284 [.ptr 0 0,.ptr 1 0] [.row [.im (rI lo)],.row [.im (rI hi)]] (by simp) (fun x _=>sD x lo hi) hl
 simp only[rI] at hc
 repeat' first|(with_reducible first|refine zz ?_|refine zx ?_|refine zE [0,1,2,3,4,6] ?_)|simp -dsimp|refine CallE.here hc ?_
 rw[Bool.eq_iff_iff];simp
 exact exists_congr fun x=>and_congr_right fun _=>by omega
theorem di (l:List Holder) (p:Holder→Bool) (k:Nat) (caps:List DC) (objs:List DObj) (hok:D4 Tryz.prog k) (hf:∀ x∈l,DCall Tryz.prog G k (jn x :: caps.map .one) objs (fun d o=>d=bv (p x)∧o=objs)) (hl:l.length<1000000):DCall Tryz.prog G 211 [.one (.im (.sl (l.map o6))),.one (.fn (.func k) caps)] objs (fun d o=>d=iv (H9 p l)∧o=objs):=by
 refine g9 Tryz.func211 rfl Tryz.ntmps211 (by simp) rfl ?_
 have hs:=trivial
 repeat' first|(with_reducible first|refine zz ?_|refine zE [0,1,4,5,7,8,9,16] ?_)|simp -dsimp[hs]
 refine i6 (ι:={ k:Nat // k≤l.length∧∀ j x,j<k→l[j]?=some x→p x=false }) (fun i=>⟨19,[(0,.one (.im (.sl (l.map o6)))),(1,.one (.fn (.func k) caps)),(7,iv (l.length:Int)),(8,iv (i.1:Int))],objs⟩) (fun i=>l.length-i.1) ⟨0,by simp⟩ (zv [0,1,7,8]) ?_
 rintro⟨i,hi,hno⟩
 simp only[iv]
 by_cases hlt:i<l.length
 ·have hx:l[i]?=some l[i]:=by simp[hlt]
  have hw:=zk i
  have hc:=hf l[i] (by simp)
  simp only[jn,o6,List.map_cons,List.map_nil,bv,rI] at hc
  have hs:=za hx (za hw hok)
  repeat' first|(with_reducible first|refine zz ?_|refine And.intro (by omega) ?_|refine zr ?_|refine zE [0,1,4,5,7,8,9,16] ?_)|simp -dsimp[hs]|refine CallE.here hc ?_|refine i9 ?_ ?_<;>intro h<;>try simp only[i7] at h|with_reducible refine And.intro ?_ ?_
  all_goals try omega
  ·exact(L0 hx (by assumption) hno).symm
  ·exact At.round ⟨i+1,by omega,fun j x hj hjx=>by
    by_cases e:j=i
    ·subst e;rw[hx] at hjx;cases hjx;assumption
    ·exact hno j x (by omega) hjx⟩ (by simp;omega) (zv [0,1,7,8])
 ·have hs:=trivial
  repeat' first|(with_reducible first|refine zz ?_|refine zr ?_|refine zE [0,1,4,5,7,8,9,16] ?_)|simp -dsimp[hs]|refine i9 ?_ ?_<;>intro h<;>try simp only[i7] at h|with_reducible refine And.intro ?_ ?_
  all_goals try omega
  exact(R4 fun j x hjx=>hno j x (by have:=e7 hjx;omega) hjx).symm
theorem gQ (l:List Holder) (p:Holder→Bool) (k:Nat) (caps:List DC) (objs:List DObj) (hok:D4 Tryz.prog k) (hf:∀ x∈l,DCall Tryz.prog G k (jn x :: caps.map .one) objs (fun d o=>d=bv (p x)∧o=objs)) (hl:l.length<1000000):DCall Tryz.prog G 155 [.one (.im (.sl (l.map o6))),.one (.fn (.func k) caps)] objs (fun d o=>d=bv (l.any p)∧o=objs):=by
 refine g9 Tryz.func155 rfl Tryz.ntmps155 (by simp) rfl ?_
 have hc:=di l p k caps objs hok hf hl
 repeat' first|(with_reducible first|refine zz ?_|refine zx ?_|refine zE [0,1,4] ?_)|simp -dsimp|refine CallE.here hc ?_|with_reducible refine And.intro ?_ ?_
 simp[A3]
theorem mi (l:List Issue) (p:Issue→Bool) (k:Nat) (caps:List DC) (objs:List DObj) (hok:D4 Tryz.prog k) (hf:∀ x∈l,DCall Tryz.prog G k (O8 x :: caps.map .one) objs (fun d o=>d=bv (p x)∧o=objs)) (hl:l.length<1000000):DCall Tryz.prog G 371 [.one (.im (.sl (l.map e9))),.one (.fn (.func k) caps)] objs (fun d o=>d=iv (H9 p l)∧o=objs):=by
 refine g9 Tryz.func371 rfl Tryz.ntmps371 (by simp) rfl ?_
 have hs:=trivial
 repeat' first|(with_reducible first|refine zz ?_|refine zE [0,1,4,5,7,8,9,16] ?_)|simp -dsimp[hs]
 refine i6 (ι:={ k:Nat // k≤l.length∧∀ j x,j<k→l[j]?=some x→p x=false }) (fun i=>⟨19,[(0,.one (.im (.sl (l.map e9)))),(1,.one (.fn (.func k) caps)),(7,iv (l.length:Int)),(8,iv (i.1:Int))],objs⟩) (fun i=>l.length-i.1) ⟨0,by simp⟩ (zv [0,1,7,8]) ?_
 rintro⟨i,hi,hno⟩
 simp only[iv]
 by_cases hlt:i<l.length
 ·have hx:l[i]?=some l[i]:=by simp[hlt]
  have hw:=zk i
  have hc:=hf l[i] (by simp)
  simp only[O8,e9,List.map_cons,List.map_nil,bv,rI] at hc
  have hs:=za hx (za hw hok)
  repeat' first|(with_reducible first|refine zz ?_|refine And.intro (by omega) ?_|refine zr ?_|refine zE [0,1,4,5,7,8,9,16] ?_)|simp -dsimp[hs]|refine CallE.here hc ?_|refine i9 ?_ ?_<;>intro h<;>try simp only[i7] at h|with_reducible refine And.intro ?_ ?_
  all_goals try omega
  ·exact(L0 hx (by assumption) hno).symm
  ·exact At.round ⟨i+1,by omega,fun j x hj hjx=>by
    by_cases e:j=i
    ·subst e;rw[hx] at hjx;cases hjx;assumption
    ·exact hno j x (by omega) hjx⟩ (by simp;omega) (zv [0,1,7,8])
 ·have hs:=trivial
  repeat' first|(with_reducible first|refine zz ?_|refine zr ?_|refine zE [0,1,4,5,7,8,9,16] ?_)|simp -dsimp[hs]|refine i9 ?_ ?_<;>intro h<;>try simp only[i7] at h|with_reducible refine And.intro ?_ ?_
  all_goals try omega
  exact(R4 fun j x hjx=>hno j x (by have:=e7 hjx;omega) hjx).symm
theorem iU (l:List Issue) (p:Issue→Bool) (k:Nat) (caps:List DC) (objs:List DObj) (hok:D4 Tryz.prog k) (hf:∀ x∈l,DCall Tryz.prog G k (O8 x :: caps.map .one) objs (fun d o=>d=bv (p x)∧o=objs)) (hl:l.length<1000000):DCall Tryz.prog G 367 [.one (.im (.sl (l.map e9))),.one (.fn (.func k) caps)] objs (fun d o=>d=bv (l.any p)∧o=objs):=by
 refine g9 Tryz.func367 rfl Tryz.ntmps367 (by simp) rfl ?_
 have hc:=mi l p k caps objs hok hf hl
 repeat' first|(with_reducible first|refine zz ?_|refine zx ?_|refine zE [0,1,4] ?_)|simp -dsimp|refine CallE.here hc ?_|with_reducible refine And.intro ?_ ?_
 simp[A3]
def l6 (p:Prints):IC:=.ip [.sl (p.n.reg.map e9),.sl (p.n.notes.map l5),.sl (p.holders.map o6),.sl (p.prints.map w8),.sl ((nums p.n.reg).map encI)]
theorem wg (n:Int) (y:Holder):DCall Tryz.prog G 230 (jn y :: [DC.ptr 0 0].map .one) [.row [.im (rI n)]] (fun d o=>d=bv (decide (y.id=n))∧o=[.row [.im (rI n)]]):=by
 refine DCall.drop ?_
 refine g9 Tryz.func230 rfl Tryz.ntmps230 (by simp) rfl ?_
 simp only[jn,o6,rI]
 repeat' first|(with_reducible first|refine zz ?_|refine zx ?_|refine zE [0,1,2,3] ?_)|simp -dsimp|with_reducible refine And.intro ?_ ?_
theorem qb (p:Prints) (n:Int) (hl:p.holders.length<1000000):zP Tryz.prog G 180 [.one (.im (l6 p)),iv n] (iv (H9 (fun y=>decide (y.id=n)) p.holders)):=by
 refine zf Tryz.func180 Tryz.ntmps180 ?_
 try simp only[iv]
 simp only[l6]
 have c1:=di (G:=G) p.holders (fun y=>decide (y.id=n)) 230 [.ptr 0 0] [.row [.im (rI n)]] (by simp) (fun y _=>wg n y) hl
 simp only[rI] at c1
 repeat' first|(with_reducible first|refine zz ?_|refine zx ?_|refine zE [0,1,3,4] ?_)|simp -dsimp|refine zh c1 ?_
def Gc (x:Print):Bool:=(decide (1≤x.number)&&decide (x.number≤9999))&&(decide (0≤x.day)&&decide (x.day≤14610))
theorem GM (d:IC) (x:Print):zP Tryz.prog G 364 [.one (.im d),cY x] (bv (Gc x)):=by
 refine zf Tryz.func364 Tryz.ntmps364 ?_
 try simp only[iv]
 have c1:=T7 (G:=G) 1 9999 [x.number] (by simp)
 have c2:=T7 (G:=G) 0 14610 [x.day] (by simp)
 have hs:=trivial
 repeat' first|(with_reducible first|refine zz ?_|refine zr ?_|refine zE [1,3,4] ?_)|simp -dsimp[hs]|refine zt c1 ?_ ?_ ?_;(focus simp;done);focus (simp;done)|refine zt c2 ?_ ?_ ?_;(focus simp;done);focus (simp;done)|with_reducible refine j0 ?_ ?_<;>intro h<;>have h0:=h<;>(try simp only[i7] at h)<;>have h2:=h<;>(try simp at h2)<;>replace hs:=za h0 (za h (za h2 hs))
 all_goals try clear hs
 all_goals simp_all [Gc]
 all_goals omega
def GL (l:List Holder) (x:Print):Bool:=l.any fun y=>decide (y.id=x.holder)
theorem GK (p:Prints) (x:Print) (hl:p.holders.length<1000000):zP Tryz.prog G 365 [.one (.im (l6 p)),cY x] (bv (GL p.holders x)):=by
 refine zf Tryz.func365 Tryz.ntmps365 ?_
 try simp only[iv]
 have c1:=qb (G:=G) p x.holder hl
 simp only[l6] at c1 ⊢
 repeat' first|(with_reducible first|refine zz ?_|refine zx ?_|refine zE [0,1,3,4] ?_)|simp -dsimp|refine zp c1 ?_
 rw[A3];rfl
def EE (l:List Issue) (x:Print):Bool:=l.any fun y=>decide (x.drawing=y.drawing∧x.letter=y.letter)
theorem ED (x:Print) (y:Issue):DCall Tryz.prog G 368 (O8 y :: [DC.ptr 0 0].map .one) [.row ((w8 x).map .im)] (fun d o=>d=bv (decide (x.drawing=y.drawing∧x.letter=y.letter))∧o=[.row ((w8 x).map .im)]):=by
 refine DCall.drop ?_
 refine g9 Tryz.func368 rfl Tryz.ntmps368 (by simp) rfl ?_
 simp only[O8,e9,w8,rI]
 repeat' first|(with_reducible first|refine zz ?_|refine zx ?_|refine zE [0,1,2,3] ?_)|simp -dsimp|with_reducible refine And.intro ?_ ?_
theorem GJ (p:Prints) (x:Print) (hl:p.n.reg.length<1000000):zP Tryz.prog G 366 [.one (.im (l6 p)),cY x] (bv (EE p.n.reg x)):=by
 refine zf Tryz.func366 Tryz.ntmps366 ?_
 try simp only[iv]
 simp only[l6]
 have c1:=iU (G:=G) p.n.reg (fun y=>decide (x.drawing=y.drawing∧x.letter=y.letter)) 368 [.ptr 0 0] [.row ((w8 x).map .im)] (by simp) (fun y _=>ED x y) hl
 simp only[w8,rI,List.map_cons,List.map_nil] at c1
 repeat' first|(with_reducible first|refine zz ?_|refine zx ?_|refine zE [0,1,3,4] ?_)|simp -dsimp|refine zh c1 ?_
 simp[EE]
def Gb (x:Print):Bool:=decide (x.lost≤2)
theorem GI (d:IC) (x:Print):zP Tryz.prog G 369 [.one (.im d),cY x] (bv (Gb x)):=by
 refine zf Tryz.func369 Tryz.ntmps369 ?_
 try simp only[iv]
 repeat' first|(with_reducible first|refine zz ?_|refine zx ?_|refine zE [1,3,4] ?_)|simp -dsimp
 all_goals simp[Gb]
def Ga (x:Print):Bool:=decide (x.back=-1)||(decide (x.day≤x.back)&&decide (x.back≤14610))&&decide (x.lost=0)
theorem GH (d:IC) (x:Print):zP Tryz.prog G 370 [.one (.im d),cY x] (bv (Ga x)):=by
 refine zf Tryz.func370 Tryz.ntmps370 ?_
 try simp only[iv]
 have c1:=T7 (G:=G) x.day 14610 [x.back] (by simp)
 have hs:=trivial
 repeat' first|(with_reducible first|refine zz ?_|refine zr ?_|refine zE [1,3,4] ?_)|simp -dsimp[hs]|refine zt c1 ?_ ?_ ?_;(focus simp;done);focus (simp;done)|with_reducible refine j0 ?_ ?_<;>intro h<;>have h0:=h<;>(try simp only[i7] at h)<;>have h2:=h<;>(try simp at h2)<;>replace hs:=za h0 (za h (za h2 hs))
 all_goals try clear hs
 all_goals simp_all [Ga]
 all_goals omega
end Go.Proofs
namespace Go.Proofs
open Go Go.Ab Tryz
variable {G:Kc}
def CH (D l:List Int) (k:Nat) (d:Int):Prop:=d∈D∧(0<k→∀ e,l[k-1]?=some e→e<d)
def Il (l:List Holder) (i:Nat) (x:Holder):Prop:=(1≤x.id∧x.id≤9999)∧(0<i→∀ y,l[i-1]?=some y→y.id<x.id)∧(1≤x.frm∧x.frm≤999)∧(1≤x.to∧x.to≤999)∧x.frm≤x.to∧x.draws.length≤8
def rh (D:List Int) (l:List Holder) (i:Nat) (x:Holder):Prop:=Il l i x∧∀ k d,x.draws[k]?=some d→CH D x.draws k d
def yr (p:Prints) (x:Print):Nat→Bool
 | 0=>Gc x
 | 1=>GL p.holders x
 | 2=>EE p.n.reg x
 | 3=>Gb x
 | _=>Ga x
def vA (p:Prints) (i:Nat) (x:Print):Prop:=(0<i→∀ y,p.prints[i-1]?=some y→y.number<x.number)∧∀ c,c<5→yr p x c=true
structure PrintsOk (p:Prints):Prop where
 hl:p.holders.length≤6
 pl:p.prints.length≤30
 h:∀ i x,p.holders[i]?=some x→rh (nums p.n.reg) p.holders i x
 q:∀ i x,p.prints[i]?=some x→vA p i x
noncomputable def F6 (p:Prints):Bool:=open Classical in decide (PrintsOk p)
theorem K4 {p:Prints} (h:¬ PrintsOk p):F6 p=false:=by simp[F6,h]
theorem cZ {p:Prints} (h:PrintsOk p):F6 p=true:=by simp[F6,h]
structure SmallP (p:Prints):Prop where
 r:(nums p.n.reg).length<1000
 l:p.n.reg.length<1000
 h:p.holders.length≤8
 q:p.prints.length≤40
 d:∀ x∈p.holders,x.draws.length≤20
 lo:∀ x∈p.prints,0≤x.lost∧x.lost≤255
def v6 (G:Kc):Prop:=G 6=some [.fn (.func 364) [],.fn (.func 365) [],.fn (.func 366) [],.fn (.func 369) [],.fn (.func 370) []]
theorem BK (p:Prints) (hR:v6 G) (hs:SmallP p):zP prog G 260 [.one (.im (l6 p))] (bv (F6 p)):=by
 refine zf func260 ntmps260 ?_
 try simp only[iv]
 have hR':G 6=some [.fn (.func 364) [],.fn (.func 365) [],.fn (.func 366) [],.fn (.func 369) [],.fn (.func 370) []]:=hR
 obtain⟨hsr,hsl,hsh,hsq,hsd,hslo⟩:=hs
 by_cases h6:¬ p.holders.length≤6
 ·have h6':(6:Int)<p.holders.length:=by omega
  have hno:=K4 (p:=p) fun h=>h6 h.hl
  simp only[l6]
  have hs:=h6'
  repeat' first|(with_reducible first|refine zz ?_|refine zr ?_|refine zE [0,2,3,4,5,6,7,8,9,11,27,32,33,34,35,84,86,87,88,89,113,120,121,122,123,143,144,145,146,154] ?_)|simp -dsimp[hs]|refine i9 ?_ ?_<;>intro h<;>try simp only[i7] at h
  all_goals try clear hs
  all_goals simp[hno]
 by_cases h30:¬ p.prints.length≤30
 ·replace h6:=Classical.not_not.1 h6
  have h6':¬ (6:Int)<p.holders.length:=by omega
  have h30':(30:Int)<p.prints.length:=by omega
  have hno:=K4 (p:=p) fun h=>h30 h.pl
  simp only[l6]
  have hs:=za h6' h30'
  repeat' first|(with_reducible first|refine zz ?_|refine zr ?_|refine zE [0,2,3,4,5,6,7,8,9,11,27,32,33,34,35,84,86,87,88,89,113,120,121,122,123,143,144,145,146,154] ?_)|simp -dsimp[hs]|refine i9 ?_ ?_<;>intro h<;>try simp only[i7] at h
  all_goals try clear hs
  all_goals simp[hno]
 replace h6:=Classical.not_not.1 h6
 replace h30:=Classical.not_not.1 h30
 have h6':¬ (6:Int)<p.holders.length:=by omega
 have h30':¬ (30:Int)<p.prints.length:=by omega
 simp only[l6]
 have hs:=za h6' h30'
 repeat' first|(with_reducible first|refine zz ?_|refine zE [0,2,3,4,5,6,7,8,9,11,27,32,33,34,35,84,86,87,88,89,113,120,121,122,123,143,144,145,146,154] ?_)|simp -dsimp[hs]|refine i9 ?_ ?_<;>intro h<;>try simp only[i7] at h
 all_goals try clear hs
 refine i6 (ι:={ k:Nat // k≤p.holders.length∧∀ (j:Nat) (x:Holder),j<k→p.holders[j]?=some x→rh (nums p.n.reg) p.holders j x }) (fun q=>⟨158,[(0,.one (.im (l6 p))),(32,.one (.im (.sl (p.holders.map o6)))),(33,iv (p.holders.length:Int)),(34,iv (q.1:Int))],[]⟩) (fun q=>p.holders.length-q.1) ⟨0,by simp⟩ (zv [0,32,33,34] (by simp[l6])) ?_
 rintro⟨k,hk,hok⟩
 simp only[iv,l6]
 by_cases hlt:k<p.holders.length
 ·have hx0:p.holders[k]?=some p.holders[k]:=by simp[hlt]
  have hw:=zk k
  have hdl:=hsd p.holders[k] (List.getElem_mem hlt)
  generalize hx:p.holders[k]=x at *
  have hbad:¬ rh (nums p.n.reg) p.holders k x→F6 p=false:=fun h=>K4 fun h'=>h (h'.h k x hx0)
  have hstep:rh (nums p.n.reg) p.holders k x→∀ (j:Nat) (z:Holder),j<k+1→p.holders[j]?=some z→rh (nums p.n.reg) p.holders j z:=fun h j z hj hz=>by
   by_cases e:j=k
   ·subst e;rw[hx0] at hz;cases hz;exact h
   ·exact hok j z (by omega) hz
  have c1:=T7 (G:=G) 1 9999 [x.id] (by simp)
  have c2:=T7 (G:=G) 1 999 [x.frm,x.to] (by simp)
  have c3:=fun d=>U1 (G:=G) (nums p.n.reg) d (by omega)
  have hs:True:=trivial
  by_cases hA:Il p.holders k x
  ·have hA':=hA
   obtain⟨a1,a3,a4,a6,a8,a9⟩:=hA
   have e1:([x.id].all fun y=>decide (1≤y)&&decide (y≤9999))=true:=by simp;omega
   have e2:([x.frm,x.to].all fun y=>decide (1≤y)&&decide (y≤999))=true:=by simp;omega
   rw[e1] at c1
   rw[e2] at c2
   have a8':¬ x.to<x.frm:=by omega
   have a9':¬ (8:Int)<x.draws.length:=by omega
   have hcs:(¬ 0<k∧True∧∃ _:True,True)∨(0<k∧IntKind.i64.wrap ((k:Int)-1)=((k-1:Nat):Int)∧∃ h:k-1<p.holders.length,¬ x.id≤(p.holders[k-1]'h).id):=by
    rcases Nat.eq_zero_or_pos k with h0|h0
    ·exact .inl ⟨by omega,trivial,trivial,trivial⟩
    ·have h1:k-1<p.holders.length:=by omega
     exact .inr ⟨by omega,by rw[o4 (by omega) (by omega)];omega,h1,by have:=a3 h0 _ (List.getElem?_eq_getElem h1);omega⟩
   rcases hcs with⟨hk0,hwm,hi1,hlt1⟩|⟨hk0,hwm,hi1,hlt1⟩
   all_goals
    have hs:=za hx (za hlt (za a8' (za a9' (za hk0 (za hwm (za hi1 hlt1))))))
    repeat' first|with_reducible refine zz ?_|simp -dsimp[hs]|refine zq c1 ?_|refine zq c2 ?_|refine zM 6 158 46 [0,2,3,4,5,6,7,8,9,11,27,32,33,34,35,84,86,87,88,89,113,120,121,122,123,143,144,145,146,154] ?_|with_reducible refine zE [0,2,3,4,5,6,7,8,9,11,27,32,33,34,35,84,86,87,88,89,113,120,121,122,123,143,144,145,146,154] ?_|refine i9 ?_ ?_<;>intro h<;>try simp only[i7] at h
    all_goals try clear hs
   all_goals
    refine i6 (ι:={ j:Nat // j≤x.draws.length∧∀ (i:Nat) (d:Int),i<j→x.draws[i]?=some d→CH (nums p.n.reg) x.draws i d }) (fun q=>⟨158,[(0,.one (.im (l6 p))),(4,.one (.ptr 1 0)),(32,.one (.im (.sl (p.holders.map o6)))),(33,iv (p.holders.length:Int)),(34,iv (k:Int)),(86,.one (.im (.sl (x.draws.map encI)))),(87,iv (x.draws.length:Int)),(88,iv (q.1:Int))],[.vec 0 [] 0 true,.row ((o6 x).map .im)]⟩) (fun q=>x.draws.length-q.1) ⟨0,by simp⟩ (zv [0,4,32,33,34,86,87,88] (by simp[l6])) ?_
    rintro⟨j,hj,hjok⟩
    simp only[iv,l6]
    by_cases hlj:j<x.draws.length
    ·have hx1:x.draws[j]?=some x.draws[j]:=by simp[hlj]
     have hwj:=zk j
     have c4:=c3 x.draws[j]
     have hcj:(¬ 0<j∧True∧∃ _:True,True)∨(0<j∧IntKind.i64.wrap ((j:Int)-1)=((j-1:Nat):Int)∧∃ h:j-1<x.draws.length,True):=by
      rcases Nat.eq_zero_or_pos j with h0|h0
      ·exact .inl ⟨by omega,trivial,trivial,trivial⟩
      ·exact .inr ⟨by omega,by rw[o4 (by omega) (by omega)];omega,by omega,trivial⟩
     have hbadj:¬ CH (nums p.n.reg) x.draws j x.draws[j]→F6 p=false:=fun h=>hbad fun h'=>h (h'.2 j _ hx1)
     have hstj:CH (nums p.n.reg) x.draws j x.draws[j]→∀ (i:Nat) (d:Int),i<j+1→x.draws[i]?=some d→CH (nums p.n.reg) x.draws i d:=fun h i d hi hd=>by
      by_cases e:i=j
      ·subst e;rw[hx1] at hd;cases hd;exact h
      ·exact hjok i d (by omega) hd
     clear hstep
     rcases hcj with⟨hj0,hwmj,hij,-⟩|⟨hj0,hwmj,hij,-⟩
     all_goals
      have hs:=za hx1 (za hlj (za hj0 (za hwmj (za hij hwj))))
      repeat' first|(with_reducible first|refine zz ?_|refine zr ?_|refine zE [0,2,3,4,5,6,7,8,9,11,27,32,33,34,35,84,86,87,88,89,113,120,121,122,123,143,144,145,146,154] ?_)|simp -dsimp[hs]|refine zp c4 ?_|refine i9 ?_ ?_<;>intro h<;>try simp only[i7] at h|with_reducible refine j0 ?_ ?_<;>intro h<;>have h0:=h<;>(try simp only[i7] at h)<;>have h2:=h<;>(try simp at h2)<;>replace hs:=za h0 (za h (za h2 hs))
      all_goals try clear hs
     all_goals first
      | exact zn ⟨j+1,by omega,hstj ⟨of_decide_eq_true (by assumption),fun h1 e he=>by first|omega|(obtain⟨_,rfl⟩:=List.getElem?_eq_some_iff.1 he;omega)⟩⟩ (zv [0,4,32,33,34,86,87,88])
      | (refine hbadj fun hh=>?_;have:=hh.1;simp_all;done)
      | (refine hbadj fun hh=>?_;have:=hh.2 (by omega) _ (List.getElem?_eq_getElem hij);omega)
    ·have hs:=za hlj hw
     repeat' first|(with_reducible first|refine zz ?_|refine zE [0,2,3,4,5,6,7,8,9,11,27,32,33,34,35,84,86,87,88,89,113,120,121,122,123,143,144,145,146,154] ?_)|simp -dsimp[hs]|refine i9 ?_ ?_<;>intro h<;>try simp only[i7] at h
     all_goals try clear hs
     exact zn ⟨k+1,by omega,hstep ⟨hA',fun i d hd=>hjok i d (by have:=e7 hd;omega) hd⟩⟩ (zw [0,32,33,34] 0)
  ·have hno:=hbad fun h=>hA h.1
   generalize hb1:([x.id].all fun y=>decide (1≤y)&&decide (y≤9999))=b1 at c1
   generalize hb2:([x.frm,x.to].all fun y=>decide (1≤y)&&decide (y≤999))=b2 at c2
   have hcs:(¬ 0<k∧True∧∃ _:True,True)∨(0<k∧IntKind.i64.wrap ((k:Int)-1)=((k-1:Nat):Int)∧∃ h:k-1<p.holders.length,True):=by
    rcases Nat.eq_zero_or_pos k with h0|h0
    ·exact .inl ⟨by omega,trivial,trivial,trivial⟩
    ·exact .inr ⟨by omega,by rw[o4 (by omega) (by omega)];omega,by omega,trivial⟩
   rcases hcs with⟨hk0,hwm,hi1,-⟩|⟨hk0,hwm,hi1,-⟩<;>cases b1<;>cases b2
   all_goals
    have hs:=za hx (za hlt (za hk0 (za hwm hi1)))
    repeat' first|(with_reducible first|refine zz ?_|refine zr ?_)|simp -dsimp[hs]|refine zq c1 ?_|refine zq c2 ?_|refine zM 6 158 46 [0,2,3,4,5,6,7,8,9,11,27,32,33,34,35,84,86,87,88,89,113,120,121,122,123,143,144,145,146,154] ?_|with_reducible refine zE [0,2,3,4,5,6,7,8,9,11,27,32,33,34,35,84,86,87,88,89,113,120,121,122,123,143,144,145,146,154] ?_|refine i9 ?_ ?_<;>intro h<;>try simp only[i7] at h|with_reducible refine j0 ?_ ?_<;>intro h<;>have h0:=h<;>(try simp only[i7] at h)<;>have h2:=h<;>(try simp at h2)<;>replace hs:=za h0 (za h (za h2 hs))
    all_goals try clear hs
   all_goals try (first|exact hno|exact hno.symm)
   ·refine absurd ?_ hA
    simp at hb1 hb2
    exact⟨by omega,fun h1=>by omega,by omega,by omega,by omega,by omega⟩
   ·refine absurd ?_ hA
    simp at hb1 hb2
    exact⟨by omega,fun h1 y hy=>by
     obtain⟨_,rfl⟩:=List.getElem?_eq_some_iff.1 hy
     simp_all<;>omega,by omega,by omega,by omega,by omega⟩
 ·have hkl:k=p.holders.length:=by omega
  have hall:∀ i x,p.holders[i]?=some x→rh (nums p.n.reg) p.holders i x:=fun i x hx=>hok i x (by have:=e7 hx;omega) hx
  have hs:=hlt
  repeat' first|(with_reducible first|refine zz ?_|refine zE [0,2,3,4,5,6,7,8,9,11,27,32,33,34,35,84,86,87,88,89,113,120,121,122,123,143,144,145,146,154] ?_)|simp -dsimp[hs]|refine i9 ?_ ?_<;>intro h<;>try simp only[i7] at h
  all_goals try clear hs
  refine i6 (ι:={ k:Nat // k≤p.prints.length∧∀ (j:Nat) (x:Print),j<k→p.prints[j]?=some x→vA p j x }) (fun q=>⟨158,[(0,.one (.im (l6 p))),(7,bv true),(120,.one (.im (.sl (p.prints.map w8)))),(121,iv (p.prints.length:Int)),(122,iv (q.1:Int))],[]⟩) (fun q=>p.prints.length-q.1) ⟨0,by simp⟩ (zv [0,7,120,121,122] (by simp[l6])) ?_
  clear hlt hok hk hkl k
  rintro⟨k,hk,hok⟩
  simp only[iv,bv,l6]
  by_cases hlt:k<p.prints.length
  ·have hx0:p.prints[k]?=some p.prints[k]:=by simp[hlt]
   have hw:=zk k
   have hll:=hslo p.prints[k] (List.getElem_mem hlt)
   generalize hx:p.prints[k]=x at *
   have hbad:¬ vA p k x→F6 p=false:=fun h=>K4 fun h'=>h (h'.q k x hx0)
   have hstep:vA p k x→∀ (j:Nat) (z:Print),j<k+1→p.prints[j]?=some z→vA p j z:=fun h j z hj hz=>by
    by_cases e:j=k
    ·subst e;rw[hx0] at hz;cases hz;exact h
    ·exact hok j z (by omega) hz
   have hs:True:=trivial
   have hcs:(¬ 0<k∧True∧∃ _:True,True)∨(0<k∧IntKind.i64.wrap ((k:Int)-1)=((k-1:Nat):Int)∧∃ h:k-1<p.prints.length,True):=by
    rcases Nat.eq_zero_or_pos k with h0|h0
    ·exact .inl ⟨by omega,trivial,trivial,trivial⟩
    ·exact .inr ⟨by omega,by rw[o4 (by omega) (by omega)];omega,by omega,trivial⟩
   rcases hcs with⟨hk0,hwm,hi1,-⟩|⟨hk0,hwm,hi1,-⟩
   all_goals
    have hs:=za hx (za hlt (za hk0 (za hwm (za hi1 hR'))))
    repeat' first|(with_reducible first|refine zz ?_|refine zr ?_)|simp -dsimp[hs]|refine zM 19 158 17 [0,2,3,4,5,6,7,8,9,11,27,32,33,34,35,84,86,87,88,89,113,120,121,122,123,143,144,145,146,154] ?_|with_reducible refine zE [0,2,3,4,5,6,7,8,9,11,27,32,33,34,35,84,86,87,88,89,113,120,121,122,123,143,144,145,146,154] ?_|refine i9 ?_ ?_<;>intro h<;>try simp only[i7] at h
    all_goals try clear hs
   all_goals try (exact hbad fun hh=>by have:=hh.1 hk0 _ (List.getElem?_eq_getElem hi1);omega)
   all_goals
    have hord:0<k→∀ y,p.prints[k-1]?=some y→y.number<x.number:=fun h1 y hy=>by
     first|omega|(obtain⟨_,rfl⟩:=List.getElem?_eq_some_iff.1 hy;omega)
    have k1:=fun d=>GM (G:=G) d x
    have k2:=GK (G:=G) p x (by omega)
    have k3:=GJ (G:=G) p x (by omega)
    have k4:=fun d=>GI (G:=G) d x
    have k5:=fun d=>GH (G:=G) d x
    replace k1:=k1 (l6 p)
    replace k4:=k4 (l6 p)
    replace k5:=k5 (l6 p)
    rw[show Gc x=yr p x 0 from rfl] at k1
    rw[show GL p.holders x=yr p x 1 from rfl] at k2
    rw[show EE p.n.reg x=yr p x 2 from rfl] at k3
    rw[show Gb x=yr p x 3 from rfl] at k4
    rw[show Ga x=yr p x 4 from rfl] at k5
    simp only[l6] at k1 k2 k3 k4 k5
    refine i6 (ι:={ c:Nat // c≤5∧∀ e<c,yr p x e=true }) (fun q=>⟨158,[(0,.one (.im (l6 p))),(7,bv true),(9,.one (.ptr 0 0)),(120,.one (.im (.sl (p.prints.map w8)))),(121,iv (p.prints.length:Int)),(122,iv (k:Int)),(144,.agg [.im (.fn (.func 364) []),.im (.fn (.func 365) []),.im (.fn (.func 366) []),.im (.fn (.func 369) []),.im (.fn (.func 370) [])]),(145,iv (q.1:Int))],[.row ((w8 x).map .im)]⟩) (fun q=>5-q.1) ⟨0,by simp⟩ (zv [0,7,9,120,121,122,144,145] (by simp[l6])) ?_
    rintro⟨c,hc,hcc⟩
    simp only[iv,bv,l6]
    by_cases hc5:c<5
    ·have hm:yr p x c=true→∀ e<c+1,yr p x e=true:=fun h e he=>by
      rcases Nat.lt_succ_iff_lt_or_eq.1 he with h1|rfl
      ·exact hcc e h1
      ·exact h
     have hbc:yr p x c=false→F6 p=false:=fun h=>hbad fun hh=>by rw[hh.2 c hc5] at h;cases h
     clear hstep
     have hi5:c=0∨c=1∨c=2∨c=3∨c=4:=by omega
     rcases hi5 with rfl|rfl|rfl|rfl|rfl
     all_goals
      have hs:=hlt
      repeat' first|(with_reducible first|refine zz ?_|refine Je (by decide) ?_|refine zr ?_|refine zE [0,2,3,4,5,6,7,8,9,11,27,32,33,34,35,84,86,87,88,89,113,120,121,122,123,143,144,145,146,154] ?_)|simp -dsimp[hs]|refine zp k1 ?_|refine zp k2 ?_|refine zp k3 ?_|refine zp k4 ?_|refine zp k5 ?_|refine i9 ?_ ?_<;>intro h<;>try simp only[i7] at h
      all_goals try clear hs
     all_goals first
      | exact At.round ⟨_,by omega,hm (by assumption)⟩ (by simp) (zw [0,7,9,120,121,122,144,145] 1 (by simp[‹yr p x _=true›];exact o4 (by omega) (by omega)))
      | exact hbc (by assumption)
      | (rw[hbc (by assumption)];assumption)
    ·obtain rfl:c=5:=by omega
     clear k1 k2 k3 k4 k5
     have hs:=za hlt hw
     repeat' first|(with_reducible first|refine zz ?_|refine zE [0,2,3,4,5,6,7,8,9,11,27,32,33,34,35,84,86,87,88,89,113,120,121,122,123,143,144,145,146,154] ?_)|simp -dsimp[hs]|refine i9 ?_ ?_<;>intro h<;>try simp only[i7] at h
     all_goals try clear hs
     exact zn ⟨k+1,by omega,hstep ⟨hord,hcc⟩⟩ (zw [0,7,120,121,122] 0)
  ·have hyes:F6 p=true:=cZ ⟨h6,h30,hall,fun i x hx=>hok i x (by have:=e7 hx;omega) hx⟩
   have hs:=hlt
   repeat' first|(with_reducible first|refine zz ?_|refine zr ?_|refine zE [0,2,3,4,5,6,7,8,9,11,27,32,33,34,35,84,86,87,88,89,113,120,121,122,123,143,144,145,146,154] ?_)|simp -dsimp[hs]|refine i9 ?_ ?_<;>intro h<;>try simp only[i7] at h
   all_goals try clear hs
   all_goals simp[hyes]
noncomputable def s9 (p:Prints):Int:=if s6 p.n≠0 then s6 p.n else if F6 p=true then 0 else 70
noncomputable def Q9 (p:Prints):DV:=if s9 p=0 then .one (.im (l6 p)) else .one (.im (.raw (.pointer none)))
theorem rT (p:Prints):ImV (Q9 p):=by unfold Q9;split<;>simp[l6]
attribute [simp] rT
structure KP (p:Prints):Prop where
 n:xF p.n
 p:SmallP p
theorem uh (p:Prints) (hG:o3 G) (hN:C7 G) (hS:u3 G) (hR:v6 G) (hk:KP p):zP prog G 208 [C1 p] (.tup [Q9 p,iv (s9 p)]):=by
 refine zf func208 ntmps208 ?_
 try simp only[iv]
 have c1:=yG p.n hG hN hS hk.n
 have c2:=cb p.n.reg hG hk.n.1
 have c3:=BK p hR hk.p
 by_cases h0:s6 p.n=0
 ·have hr0:l4 p.n.reg=0:=by
   refine Classical.byContradiction fun h=>?_
   unfold s6 at h0;rw[if_pos h] at h0;exact h h0
  rw[hr0,show dA p.n.reg=nums p.n.reg by simp[dA,hr0]] at c2
  simp only[h0] at c1
  by_cases hp:F6 p=true
  ·have hE:s9 p=0:=by unfold s9;rw[if_neg (by simp[h0]),if_pos hp]
   have hO:Q9 p=.one (.im (l6 p)):=by unfold Q9;rw[if_pos hE]
   rw[hp] at c3
   rw[hE,hO]
   simp only[l6] at c3 ⊢
   have hs:=trivial
   repeat' first|(with_reducible first|refine zz ?_|refine zr ?_)|simp -dsimp[hs]|refine zp c1 ?_|refine zp c2 ?_|refine zt c3 ?_ ?_ ?_;(focus simp;done);focus (simp;done)|with_reducible refine P0 (id:=4) (nt:=29) [0,1,2,3,4,5,10,27] rfl ?_;simp -dsimp[hs]|with_reducible refine zE [0,1,2,3,4,5,10,27] ?_|refine i9 ?_ ?_<;>intro h<;>try simp only[i7] at h
  ·have hE:s9 p=70:=by unfold s9;rw[if_neg (by simp[h0]),if_neg hp]
   have hO:Q9 p=.one (.im (.raw (.pointer none))):=by unfold Q9;rw[if_neg (by simp[hE])]
   rw[Bool.not_eq_true] at hp
   rw[hp] at c3
   rw[hE,hO]
   simp only[l6] at c3 ⊢
   have hs:=trivial
   repeat' first|(with_reducible first|refine zz ?_|refine zr ?_)|simp -dsimp[hs]|refine zp c1 ?_|refine zp c2 ?_|refine zt c3 ?_ ?_ ?_;(focus simp;done);focus (simp;done)|with_reducible refine P0 (id:=4) (nt:=29) [0,1,2,3,4,5,10,27] rfl ?_;simp -dsimp[hs]|with_reducible refine zE [0,1,2,3,4,5,10,27] ?_|refine i9 ?_ ?_<;>intro h<;>try simp only[i7] at h
 ·have hE:s9 p=s6 p.n:=by unfold s9;rw[if_pos h0]
  have hO:Q9 p=.one (.im (.raw (.pointer none))):=by unfold Q9;rw[if_neg (by rw[hE];exact h0)]
  rw[hE,hO]
  have hs:=h0
  repeat' first|(with_reducible first|refine zz ?_|refine zr ?_|refine zE [0,1,2,3,4,5,10,27] ?_)|simp -dsimp[hs]|refine zp c1 ?_|refine i9 ?_ ?_<;>intro h<;>try simp only[i7] at h
theorem yn (p:Prints) (hG:o3 G) (hN:C7 G) (hS:u3 G) (hR:v6 G) (hk:KP p):zP prog G 153 [C1 p] (iv (s9 p)):=by
 refine zf func153 ntmps153 ?_
 try simp only[iv]
 have c1:=uh p hG hN hS hR hk
 repeat' first|(with_reducible first|refine zz ?_|refine zx ?_|refine zE [0,1,2,4] ?_)|simp -dsimp|refine zp c1 ?_
def qv (d m:Int):Bool:=(decide (0≤d)&&decide (d≤14610))&&(decide (1≤m)&&decide (m≤999))
noncomputable def G5 (p:Prints) (d m:Int):Int:=if s9 p≠0 then s9 p else if qv d m=true then 0 else 2
noncomputable def R9 (p:Prints) (d m:Int):DV:=if G5 p d m=0 then .one (.im (l6 p)) else .one (.im (.raw (.pointer none)))
theorem tw (p:Prints) (d m:Int):ImV (R9 p d m):=by unfold R9;split<;>simp[l6]
attribute [simp] tw
theorem yo (p:Prints) (d m:Int) (hG:o3 G) (hN:C7 G) (hS:u3 G) (hR:v6 G) (hk:KP p):zP prog G 179 [C1 p,iv d,iv m] (.tup [R9 p d m,iv (G5 p d m)]):=by
 refine zf func179 ntmps179 ?_
 try simp only[iv,iv]
 have c1:=uh p hG hN hS hR hk
 have c2:=T7 (G:=G) 0 14610 [d] (by simp)
 have c3:=T7 (G:=G) 1 999 [m] (by simp)
 by_cases h0:s9 p=0
 ·simp only[Q9,h0,if_true] at c1
  by_cases hd:qv d m=true
  ·have hE:G5 p d m=0:=by unfold G5;rw[if_neg (by simp[h0]),if_pos hd]
   have hO:R9 p d m=.one (.im (l6 p)):=by unfold R9;rw[if_pos hE]
   simp only[qv,Bool.and_eq_true,decide_eq_true_eq] at hd
   rw[show ([d].all fun y=>decide (0≤y)&&decide (y≤14610))=true by simp;omega] at c2
   rw[show ([m].all fun y=>decide (1≤y)&&decide (y≤999))=true by simp;omega] at c3
   rw[hE,hO]
   simp only[l6] at c1 ⊢
   have hs:=trivial
   repeat' first|(with_reducible first|refine zz ?_|refine zr ?_|refine zE [0,1,2,3,6,7,8,9,16,27] ?_)|simp -dsimp[hs]|refine zp c1 ?_|refine zt c2 ?_ ?_ ?_;(focus simp;done);focus (simp;done)|refine zt c3 ?_ ?_ ?_;(focus simp;done);focus (simp;done)|refine i9 ?_ ?_<;>intro h<;>try simp only[i7] at h
  ·have hE:G5 p d m=2:=by unfold G5;rw[if_neg (by simp[h0]),if_neg hd]
   have hO:R9 p d m=.one (.im (.raw (.pointer none))):=by unfold R9;rw[if_neg (by simp[hE])]
   simp only[qv,Bool.and_eq_true,decide_eq_true_eq] at hd
   rw[hE,hO]
   simp only[l6] at c1 ⊢
   by_cases hd1:0≤d∧d≤14610
   ·rw[show ([d].all fun y=>decide (0≤y)&&decide (y≤14610))=true by simp;omega] at c2
    rw[show ([m].all fun y=>decide (1≤y)&&decide (y≤999))=false by simp;omega] at c3
    have hs:=trivial
    repeat' first|(with_reducible first|refine zz ?_|refine zr ?_|refine zE [0,1,2,3,6,7,8,9,16,27] ?_)|simp -dsimp[hs]|refine zp c1 ?_|refine zt c2 ?_ ?_ ?_;(focus simp;done);focus (simp;done)|refine zt c3 ?_ ?_ ?_;(focus simp;done);focus (simp;done)|refine i9 ?_ ?_<;>intro h<;>try simp only[i7] at h
   ·rw[show ([d].all fun y=>decide (0≤y)&&decide (y≤14610))=false by simp;omega] at c2
    have hs:=trivial
    repeat' first|(with_reducible first|refine zz ?_|refine zr ?_|refine zE [0,1,2,3,6,7,8,9,16,27] ?_)|simp -dsimp[hs]|refine zp c1 ?_|refine zt c2 ?_ ?_ ?_;(focus simp;done);focus (simp;done)|refine i9 ?_ ?_<;>intro h<;>try simp only[i7] at h
 ·have hE:G5 p d m=s9 p:=by unfold G5;rw[if_pos h0]
  have hO:R9 p d m=.one (.im (.raw (.pointer none))):=by unfold R9;rw[if_neg (by rw[hE];exact h0)]
  simp only[Q9,h0,if_false] at c1
  rw[hE,hO]
  have hs:=h0
  repeat' first|(with_reducible first|refine zz ?_|refine zr ?_|refine zE [0,1,2,3,6,7,8,9,16,27] ?_)|simp -dsimp[hs]|refine zp c1 ?_|refine i9 ?_ ?_<;>intro h<;>try simp only[i7] at h
noncomputable def I3 (p:Prints) (d m i w:Int):Int:=if G5 p d m≠0 then G5 p d m else if (p.holders.any fun y=>decide (y.id=i))=true∧w∈nums p.n.reg then 0 else 6
noncomputable def cp (p:Prints) (d m i w:Int):DV:=if I3 p d m i w=0 then .one (.im (l6 p)) else .one (.im (.raw (.pointer none)))
theorem wW (p:Prints) (d m i w:Int):ImV (cp p d m i w):=by unfold cp;split<;>simp[l6]
attribute [simp] wW
theorem AV (p:Prints) (v:Int) (hl:(nums p.n.reg).length<1000):DCall prog G 181 (iv v :: [DC.ptr 1 0].map .one) [.row ((o5 p).map .im),.row [.im (l6 p)]] (fun d o=>d=bv (!decide (v∈nums p.n.reg))∧o=[.row ((o5 p).map .im),.row [.im (l6 p)]]):=by
 refine DCall.drop ?_
 have c1:=U1 (G:=G) (nums p.n.reg) v (by omega)
 simp only[l6,o5]
 refine g9 func181 rfl ntmps181 (by simp) rfl ?_
 repeat' first|(with_reducible first|refine zz ?_|refine zx ?_|refine zE [0,1,3] ?_)|simp -dsimp|refine zp c1 ?_|with_reducible refine And.intro ?_ ?_
theorem uw {α:Type} (q:α→Bool) (l:List α):decide (H9 q l<0)=!l.any q:=by
 rw[← A3]
 by_cases h:0≤H9 q l
 ·have h1:¬ H9 q l<0:=by omega
  simp[h,h1]
 ·have h1:H9 q l<0:=by omega
  simp[h,h1]
theorem px (p:Prints) (d m i w:Int) (hG:o3 G) (hN:C7 G) (hS:u3 G) (hR:v6 G) (hk:KP p):zP prog G 118 [C1 p,iv d,iv m,iv i,r7 [w]] (.tup [cp p d m i w,iv (I3 p d m i w)]):=by
 refine zf func118 ntmps118 ?_
 try simp only[iv,iv,iv,r7]
 have c1:=yo p d m hG hN hS hR hk
 have hr:=hk.p.r
 have hh:=hk.p.h
 by_cases h0:G5 p d m=0
 ·have c2:=qb (G:=G) p i (by omega)
  have c3:=B4 (G:=G) [w] (fun v=>!decide (v∈nums p.n.reg)) 181 [.ptr 1 0] [.row ((o5 p).map .im),.row [.im (l6 p)]] (by simp) (fun v _=>AV p v hr) (by simp)
  have hf:=uw (fun y:Holder=>decide (y.id=i)) p.holders
  have hE:I3 p d m i w=if (p.holders.any fun y=>decide (y.id=i))=true∧w∈nums p.n.reg then 0 else 6:=by unfold I3;rw[if_neg (by simp[h0])]
  simp only[R9,h0,if_true] at c1
  unfold cp
  rw[hE]
  generalize H9 (fun y:Holder=>decide (y.id=i)) p.holders=f at *
  generalize hb:(p.holders.any fun y=>decide (y.id=i))=b at *
  by_cases hw:w∈nums p.n.reg
  ·simp only[hw,List.any_cons,List.any_nil,decide_true,Bool.not_true,Bool.or_false] at c3
   cases b
   ·have hf':f<0:=by simpa using hf
    simp only[l6,o5,List.map_cons,List.map_nil] at c1 c2 c3 ⊢
    have hs:=hf'
    repeat' first|(with_reducible first|refine zz ?_|refine zr ?_|refine zE [0,1,2,3,4,5,10,11,12,13,22,32] ?_)|simp -dsimp[hs]|refine zp c1 ?_|refine zp c2 ?_|refine i9 ?_ ?_<;>intro h<;>try simp only[i7] at h
   ·have hf':¬ f<0:=by simpa using hf
    simp only[l6,o5,List.map_cons,List.map_nil] at c1 c2 c3 ⊢
    have hs:=za hf' hw
    repeat' first|(with_reducible first|refine zz ?_|refine zr ?_|refine zE [0,1,2,3,4,5,10,11,12,13,22,32] ?_)|simp -dsimp[hs]|refine zp c1 ?_|refine zp c2 ?_|refine zh c3 ?_|refine i9 ?_ ?_<;>intro h<;>try simp only[i7] at h
  ·simp only[hw,List.any_cons,List.any_nil,decide_false,Bool.not_false,Bool.or_false] at c3
   cases b
   ·have hf':f<0:=by simpa using hf
    simp only[l6,o5,List.map_cons,List.map_nil] at c1 c2 c3 ⊢
    have hs:=hf'
    repeat' first|(with_reducible first|refine zz ?_|refine zr ?_|refine zE [0,1,2,3,4,5,10,11,12,13,22,32] ?_)|simp -dsimp[hs]|refine zp c1 ?_|refine zp c2 ?_|refine i9 ?_ ?_<;>intro h<;>try simp only[i7] at h
   ·have hf':¬ f<0:=by simpa using hf
    simp only[l6,o5,List.map_cons,List.map_nil] at c1 c2 c3 ⊢
    have hs:=za hf' hw
    repeat' first|(with_reducible first|refine zz ?_|refine zr ?_|refine zE [0,1,2,3,4,5,10,11,12,13,22,32] ?_)|simp -dsimp[hs]|refine zp c1 ?_|refine zp c2 ?_|refine zh c3 ?_|refine i9 ?_ ?_<;>intro h<;>try simp only[i7] at h
 ·have hE:I3 p d m i w=G5 p d m:=by unfold I3;rw[if_pos h0]
  have hO:cp p d m i w=.one (.im (.raw (.pointer none))):=by unfold cp;rw[if_neg (by rw[hE];exact h0)]
  simp only[R9,h0,if_false] at c1
  rw[hE,hO]
  have hs:=h0
  repeat' first|(with_reducible first|refine zz ?_|refine zr ?_|refine zE [0,1,2,3,4,5,10,11,12,13,22,32] ?_)|simp -dsimp[hs]|refine zp c1 ?_|refine i9 ?_ ?_<;>intro h<;>try simp only[i7] at h
def frcCaps:List DC:=[.ptr 5 0,.ptr 0 0,.ptr 1 0,.ptr 2 0,.ptr 3 0,.ptr 6 0]
def M7 (n:Notes) (s w:List Int) (m:Int) (M:List (Int×Bool)):List DObj:=[.row [.im (C8 n)],.row [.im (.sl (s.map encI))],.row [.im (.sl (w.map encI))],.row [.im (rI m)],.map [.int .i64] (F1 M),.row [.map 4],.row [.fn (.func 234) frcCaps]]
theorem oy (n:Notes) (s w:List Int) (m:Int):DCall prog G 187 [.one (.im (C8 n)),r7 s,r7 w,iv m] [] (fun d o=>d=.one (.fn (.func 234) frcCaps)∧o=M7 n s w m []):=by
 refine g9 func187 rfl ntmps187 (by simp) rfl ?_
 simp only[r7,iv]
 repeat' first|(with_reducible first|refine zz ?_|refine zx ?_|refine zE [0,1,2,3,4,5,6,7,8,9,10] ?_)|simp -dsimp|with_reducible refine And.intro ?_ ?_
 ·rfl
 ·simp[M7,frcCaps,F1]
def E1 (n:Notes) (s w:List Int) (m:Int) (i:Nat):Bool:=((T9 s w m n.notes)[i]?).getD false
def ConsM (n:Notes) (s w:List Int) (m:Int) (M:List (Int×Bool)):Prop:=∀ (k:Nat) (b:Bool),cF (k:Int) M=some b→E1 n s w m k=b
theorem ConsM.nil (n:Notes) (s w:List Int) (m:Int):ConsM n s w m []:=fun k b h=>by cases h
theorem ConsM.put {n:Notes} {s w:List Int} {m:Int} {M:List (Int×Bool)} (h:ConsM n s w m M) (i:Nat) {b:Bool} (hb:E1 n s w m i=b):ConsM n s w m (tn (i:Int) b M):=fun k c hk=>by
 rw[lH] at hk
 split at hk
 ·rename_i e
  obtain rfl:i=k:=by omega
  cases hk;exact hb
 ·exact h k c hk
theorem zN {n:Notes} {s w:List Int} {m:Int} {i:Nat} (hi:i<n.notes.length):E1 n s w m i=(zL s w m n.notes[i]&&jH n.notes[i].number (n.notes.drop (i+1)) ((T9 s w m n.notes).drop (i+1))):=by
 have hl:i<(T9 s w m n.notes).length:=by rw[bq];exact hi
 rw[← CU hi hl,E1,List.getElem?_eq_getElem hl];rfl
theorem sJ {n:Notes} {s w:List Int} {m a:Int} {k:Nat} (hk:k<n.notes.length):jH a (n.notes.drop k) ((T9 s w m n.notes).drop k)=(!(E1 n s w m k&&decide (n.notes[k].cancels=a))&&jH a (n.notes.drop (k+1)) ((T9 s w m n.notes).drop (k+1))):=by
 have hl:k<(T9 s w m n.notes).length:=by rw[bq];exact hk
 rw[wo hk hl,E1,List.getElem?_eq_getElem hl];rfl
theorem Fg (n:Notes) (s w:List Int) (m:Int) (hl:n.notes.length<1000) (hsl:s.length<1000) (hwl:w.length<1000):∀ (d i:Nat),n.notes.length-i≤d→i<n.notes.length→∀ M,ConsM n s w m M →
 DCall prog G 234 (iv (i:Int) :: frcCaps.map .one) (M7 n s w m M) (fun r o=>∃ M',ConsM n s w m M'∧r=bv (E1 n s w m i)∧o=M7 n s w m M'):=by
 intro d
 induction d with
 | zero=>intro i h1 h2;omega
 | succ d ih =>
   intro i hid hi M hM
   simp only[M7,frcCaps,C8,iv,bv,rI,List.map_cons,List.map_nil] at ih ⊢
   refine DCall.drop ?_
   refine g9 func234 rfl ntmps234 (by simp) rfl ?_
   cases hb:cF (i:Int) M with
   | some b =>
     have hf:=hM i b hb
     have hs:=hb
     repeat' first|(with_reducible first|refine zz ?_|refine zr ?_|refine zE [0,1,2,3,4,5,6,8,9,10,11,12,13,20,67] ?_)|simp -dsimp[hs]|refine i9 ?_ ?_<;>intro h<;>try simp only[i7] at h
     all_goals try clear hs
     exact⟨M,hM,by rw[hf],rfl⟩
   | none =>
     generalize hx:n.notes[i]=x at *
     have hF:=zN (s:=s) (w:=w) (m:=m) hi
     rw[hx] at hF
     have hwi:=zk i
     have c1:=U1 (G:=G) s x.number (by omega)
     have c2:=U1 (G:=G) w x.number (by omega)
     have c3:=gx (G:=G) x.frm x.to [m] (by simp)
     rw[show ([m].all fun z=>decide (x.frm≤z)&&decide (z≤x.to))=(decide (x.frm≤m)&&decide (m≤x.to)) by simp] at c3
     have hs:=za hb (za hx (za hi hwi))
     repeat' first|(with_reducible first|refine zz ?_|refine zE [0,1,2,3,4,5,6,8,9,10,11,12,13,20,67] ?_)|simp -dsimp[hs]|refine zp c1 ?_|refine zp c2 ?_|refine zt c3 ?_ ?_ ?_;(focus simp;done);focus (simp;done)|refine i9 ?_ ?_<;>intro h<;>try simp only[i7] at h|with_reducible refine j0 ?_ ?_<;>intro h<;>have h0:=h<;>(try simp only[i7] at h)<;>have h2:=h<;>(try simp at h2)<;>replace hs:=za h0 (za h (za h2 hs))
     all_goals try clear hs
     all_goals
      refine i6 (ι:={ p:Nat×Bool×List (Int×Bool) // i+1≤p.1∧p.1≤n.notes.length∧ConsM n s w m p.2.2∧E1 n s w m i=(p.2.1&&jH x.number (n.notes.drop p.1) ((T9 s w m n.notes).drop p.1)) }) (fun p=>⟨92,[(0,iv (i:Int)),(1,.one (.ptr 5 0)),(2,.one (.ptr 0 0)),(3,.one (.ptr 1 0)),(4,.one (.ptr 2 0)),(5,.one (.ptr 3 0)),(6,.one (.ptr 6 0)),(11,.one (.ptr 7 0)),(12,bv p.1.2.1),(13,iv (p.1.1:Int))],[.row [.im (.ip [.sl (n.reg.map e9),.sl (n.notes.map l5),.sl ((nums n.reg).map encI),.sl ((j6 (j8 n.notes)).map encI)])],.row [.im (.sl (s.map encI))],.row [.im (.sl (w.map encI))],.row [.im (rI m)],.map [.int .i64] (F1 p.1.2.2),.row [.map 4],.row [.fn (.func 234) [.ptr 5 0,.ptr 0 0,.ptr 1 0,.ptr 2 0,.ptr 3 0,.ptr 6 0]],.row ((l5 x).map .im)]⟩) (fun p=>n.notes.length-p.1.1) ⟨(i+1,zL s w m x,M),by simp,by simp;omega,hM,hF⟩ (zw [0,1,2,3,4,5,6,11,12,13] 8 (by clear c1 c2 c3 ih;simp[zL, *])) ?_
     all_goals
      clear c1 c2 c3 hF hM hb
      rintro⟨⟨k,v,M2⟩,hk1,hk2,hM2,hv⟩
      simp only at hk1 hk2 hM2 hv
      simp only[iv,bv]
      cases v
      ·have hM3:=hM2.put i hv
       have hs:=trivial
       repeat' first|(with_reducible first|refine zz ?_|refine zr ?_|refine zE [0,1,2,3,4,5,6,8,9,10,11,12,13,20,67] ?_)|simp -dsimp[hs]|refine i9 ?_ ?_<;>intro h<;>try simp only[i7] at h
       all_goals try clear hs
       all_goals exact⟨_,hM3,by rw[hv];rfl,rfl⟩
      ·by_cases hlk:k<n.notes.length
       ·have hwk:=zk k
        have hih:=ih k (by omega) hlk M2 hM2
        rw[Bool.true_and,sJ hlk] at hv
        generalize hy:n.notes[k]=y at *
        by_cases hc:y.cancels=x.number
        ·have hvb:∀ b,E1 n s w m k=b→E1 n s w m i=(!b&&jH x.number (n.notes.drop (k+1)) ((T9 s w m n.notes).drop (k+1))):=fun b hb=>by
          rw[hv,hb,decide_eq_true hc,Bool.and_true]
         have hs:=za hx (za hy (za hlk (za hwk hc)))
         repeat' first|with_reducible refine zz ?_|simp -dsimp[hs]|refine CallE.embed_ex [0,1,2,3,4,5,6] (hih) ?_ ?_ ?_ ?_ ?_ ?_;(focus simp[p8];done);(focus simp;done);(focus simp;done);(focus simp;done);(focus refine n3 ?_;simp[p8,n8];done);intro mm hmm;try simp -dsimp[l9,p8,hs]|refine zM 9 92 15 [0,1,2,3,4,5,6,8,9,10,11,12,13,20,67] ?_|with_reducible refine zE [0,1,2,3,4,5,6,8,9,10,11,12,13,20,67] ?_|refine i9 ?_ ?_<;>intro h<;>try simp only[i7] at h
         all_goals try clear hs
         all_goals exact zn ⟨(k+1,!E1 n s w m k,mm),by simp only;omega,by simp only;omega,hmm,hvb _ rfl⟩ (zw [0,1,2,3,4,5,6,11,12,13] 8)
        ·rw[decide_eq_false hc,Bool.and_false,Bool.not_false,Bool.true_and] at hv
         have hs:=za hx (za hy (za hlk (za hwk hc)))
         repeat' first|with_reducible refine zz ?_|simp -dsimp[hs]|refine zM 9 92 15 [0,1,2,3,4,5,6,8,9,10,11,12,13,20,67] ?_|with_reducible refine zE [0,1,2,3,4,5,6,8,9,10,11,12,13,20,67] ?_|refine i9 ?_ ?_<;>intro h<;>try simp only[i7] at h
         all_goals try clear hs
         all_goals exact zn ⟨(k+1,true,M2),by simp only;omega,by simp only;omega,hM2,by rw[hv,Bool.true_and]⟩ (zw [0,1,2,3,4,5,6,11,12,13] 8)
       ·rw[zK (by omega),Bool.and_true] at hv
        have hM3:=hM2.put i hv
        have hs:=hlk
        repeat' first|(with_reducible first|refine zz ?_|refine zr ?_|refine zE [0,1,2,3,4,5,6,8,9,10,11,12,13,20,67] ?_)|simp -dsimp[hs]|refine i9 ?_ ?_<;>intro h<;>try simp only[i7] at h
        all_goals try clear hs
        all_goals exact⟨_,hM3,by rw[hv],rfl⟩
def uE (n:Notes) (s w:List Int) (m d:Int) (k:Nat):Note:=FN n.notes (T9 s w m n.notes) d k
theorem Ar {n:Notes} {s w:List Int} {m d:Int} {k:Nat} (hk:k<n.notes.length):uE n s w m d (k+1)=if n.notes[k].drawing=d∧E1 n s w m k=true then n.notes[k] else uE n s w m d k:=by
 have hl:k<(T9 s w m n.notes).length:=by rw[bq];exact hk
 unfold uE E1
 simp only[FN,List.getElem?_eq_getElem hk,List.getElem?_eq_getElem hl,Option.some.injEq,Option.getD_some]
 by_cases h:(T9 s w m n.notes)[k]=true<;>by_cases h2:n.notes[k].drawing=d<;>simp[h,h2]
theorem HV (n:Notes) (s w:List Int) (m d:Int) (hl:n.notes.length<1000) (hsl:s.length<1000) (hwl:w.length<1000) (M:List (Int×Bool)) (hM:ConsM n s w m M) :
 DCall prog G 186 [.one (.im (C8 n)),.one (.fn (.func 234) frcCaps),iv d] (M7 n s w m M) (fun r o=>∃ M',ConsM n s w m M'∧r=eE (uE n s w m d n.notes.length)∧o=M7 n s w m M'):=by
 have ih:=fun i hi M hM=>Fg (G:=G) n s w m hl hsl hwl n.notes.length i (by omega) hi M hM
 simp only[M7,frcCaps,C8,iv,bv,rI,eE,l5,rB,List.map_cons,List.map_nil] at ih ⊢
 refine DCall.drop ?_
 refine g9 func186 rfl ntmps186 (by simp) rfl ?_
 have hw0:IntKind.i64.wrap ((n.notes.length:Int)-1)=(n.notes.length:Int)-1:=o4 (by omega) (by omega)
 have hs:=hw0
 repeat' first|with_reducible refine zz ?_|with_reducible refine zE [0,1,2,6,7,8,17,36] ?_;try simp -dsimp[hs]
 all_goals try simp -dsimp[hs]
 all_goals try clear hs
 refine i6 (ι:={ p:Nat×List (Int×Bool) // p.1≤n.notes.length∧ConsM n s w m p.2∧uE n s w m d n.notes.length=uE n s w m d p.1 }) (fun p=>⟨39,[(0,.one (.im (.ip [.sl (n.reg.map e9),.sl (n.notes.map l5),.sl ((nums n.reg).map encI),.sl ((j6 (j8 n.notes)).map encI)]))),(1,.one (.fn (.func 234) [.ptr 5 0,.ptr 0 0,.ptr 1 0,.ptr 2 0,.ptr 3 0,.ptr 6 0])),(2,iv d),(6,.one (.ptr 7 0)),(7,iv ((p.1.1:Int)-1))],[.row [.im (.ip [.sl (n.reg.map e9),.sl (n.notes.map l5),.sl ((nums n.reg).map encI),.sl ((j6 (j8 n.notes)).map encI)])],.row [.im (.sl (s.map encI))],.row [.im (.sl (w.map encI))],.row [.im (rI m)],.map [.int .i64] (F1 p.1.2),.row [.map 4],.row [.fn (.func 234) [.ptr 5 0,.ptr 0 0,.ptr 1 0,.ptr 2 0,.ptr 3 0,.ptr 6 0]],.row ((l5 ⟨0,0,0,0,0,0,0,0,false,0⟩).map .im)]⟩) (fun p=>p.1.1) ⟨(n.notes.length,M),by simp,hM,rfl⟩ (zv [0,1,2,6,7]) ?_
 clear hM
 rintro⟨⟨k,M2⟩,hk,hM2,hv⟩
 simp only at hk hM2 hv
 simp only[iv]
 cases k with
 | zero =>
   have hs:=trivial
   repeat' first|(with_reducible first|refine zz ?_|refine zr ?_)|with_reducible refine zE [0,1,2,6,7,8,17,36] ?_;try simp -dsimp[hs]|refine i9 ?_ ?_<;>intro h<;>try simp only[i7] at h
   all_goals try simp -dsimp[hs]
   all_goals try clear hs
   exact⟨M2,hM2,by rw[hv];simp[uE,FN,kR],rfl⟩
 | succ k =>
   have hkl:k<n.notes.length:=hk
   have hwk:IntKind.i64.wrap ((k:Int)-1)=(k:Int)-1:=o4 (by omega) (by omega)
   have hc:=ih k hkl M2 hM2
   rw[Ar hkl] at hv
   generalize hx:n.notes[k]=x at *
   by_cases hd:x.drawing=d
   ·have hs:=za hx (za hkl (za hwk hd))
    repeat' first|(with_reducible first|refine zz ?_|refine zr ?_)|refine CallE.embed_ex [0,1,2,3,4,5,6] (hc) ?_ ?_ ?_ ?_ ?_ ?_;(focus simp[p8];done);(focus simp;done);(focus simp;done);(focus simp;done);(focus refine n3 ?_;simp[p8,n8];done);intro mm hmm;try simp -dsimp[l9,p8,hs]|with_reducible refine zE [0,1,2,6,7,8,17,36] ?_;try simp -dsimp[hs]|refine i9 ?_ ?_<;>intro h<;>try simp only[i7] at h
    all_goals try simp -dsimp[hs]
    all_goals try clear hs
    ·have e:=hv.trans (if_pos ⟨hd,by assumption⟩)
     exact⟨mm,hmm,by rw[e];simp[hd],rfl⟩
    ·have hf:E1 n s w m k=false:=by assumption
     have e:=hv.trans (if_neg fun h=>by rw[hf] at h;exact Bool.false_ne_true h.2)
     exact At.round ⟨(k,mm),by simp only;omega,hmm,e⟩ (by simp) (zw [0,1,2,6,7] 8)
   ·rw[if_neg fun h=>hd h.1] at hv
    have hs:=za hx (za hkl (za hwk hd))
    repeat' first|with_reducible refine zz ?_|with_reducible refine zE [0,1,2,6,7,8,17,36] ?_;try simp -dsimp[hs]|refine i9 ?_ ?_<;>intro h<;>try simp only[i7] at h
    all_goals try simp -dsimp[hs]
    all_goals try clear hs
    exact At.round ⟨(k,M2),by simp only;omega,hM2,hv⟩ (by simp) (zw [0,1,2,6,7] 8)
def gp (n:Notes) (s:List Int) (m:Int):List Int:=(nums n.reg).map fun d=>(uE n s [] m d n.notes.length).letter
theorem sq (n:Notes) (s:List Int) (m:Int) (hl:n.notes.length<1000) (hr:n.reg.length<1000) (hsl:s.length<1000):zP prog G 164 [.one (.im (C8 n)),r7 s,iv m] (r7 (gp n s m)):=by
 refine zf func164 ntmps164 ?_
 try simp only[r7,iv]
 have c1:=oy (G:=G) n s [] m
 simp only[M7,frcCaps,C8,iv,r7,bv,rI,List.map_cons,List.map_nil,F1] at c1 ⊢
 have hs:=trivial
 repeat' first|with_reducible refine zz ?_|refine CallE.embed [] (c1) ?_ ?_ ?_ ?_ ?_ ?_;(focus simp[p8];done);(focus simp;done);(focus simp;done);(focus simp;done);(focus refine n3 ?_;simp[p8,n8];done);try simp -dsimp[l9,p8,hs]|with_reducible refine zE [0,1,2,6,7,8,10,18,19,20,21] ?_;try simp -dsimp[hs]
 all_goals try simp -dsimp[hs]
 have hrl:=u6 n.reg n.reg.length
 rw[show F2 n.reg n.reg.length=nums n.reg from rfl] at hrl
 have hE:gp n s m=(nums n.reg).map fun d=>(uE n s [] m d n.notes.length).letter:=rfl
 generalize hP:(fun d=>(uE n s [] m d n.notes.length).letter)=P at *
 generalize hns:nums n.reg=ns at *
 refine i6 (ι:={ p:Nat×Nat×Bool×List (Int×Bool) // p.1≤ns.length∧ConsM n s [] m p.2.2.2 }) (fun p=>⟨34,[(0,.one (.im (.ip [.sl (n.reg.map e9),.sl (n.notes.map l5),.sl (ns.map encI),.sl ((j6 (j8 n.notes)).map encI)]))),(7,.one (.fn (.func 234) [.ptr 6 0,.ptr 1 0,.ptr 2 0,.ptr 3 0,.ptr 4 0,.ptr 7 0])),(8,.one (.vec 8 p.1.2.1 0 p.1.1)),(18,r7 ns),(19,iv (ns.length:Int)),(20,iv (p.1.1:Int))],[.vec 1 [] 0 true]++[.row [.im (.ip [.sl (n.reg.map e9),.sl (n.notes.map l5),.sl (ns.map encI),.sl ((j6 (j8 n.notes)).map encI)])],.row [.im (.sl (s.map encI))],.row [.im (.sl [])],.row [.im (rI m)],.map [.int .i64] (F1 p.1.2.2.2),.row [.map 5],.row [.fn (.func 234) [.ptr 6 0,.ptr 1 0,.ptr 2 0,.ptr 3 0,.ptr 4 0,.ptr 7 0]]]++[.vec 1 (l7 (((ns.take p.1.1).map P).map encI)) p.1.2.1 p.1.2.2.1]⟩) (fun p=>ns.length-p.1.1) ⟨(0,0,true,[]),by simp,ConsM.nil _ _ _ _⟩ (zv [0,7,8,18,19,20] (by simp[F1])) ?_
 rintro⟨⟨k,g,nl,M⟩,hk,hM⟩
 simp only at hk hM
 simp only[iv,r7]
 have hlk:((ns.take k).map P).length=k:=by simp;omega
 by_cases hlt:k<ns.length
 ·have hw:=zk k
  have hst:(ns.take (k+1)).map P=(ns.take k).map P++[P ns[k]]:=by rw[List.take_succ_eq_append_getElem hlt,List.map_append,List.map_singleton]
  generalize hx:ns[k]=x at *
  have c2:=HV (G:=G) n s [] m x hl hsl (by simp) M hM
  have hPx:(uE n s [] m x n.notes.length).letter=P x:=by rw[← hP]
  simp only[M7,frcCaps,C8,iv,bv,rI,List.map_cons,List.map_nil,hns] at c2
  generalize (ns.take k).map P=L at *
  subst hlk
  have hs:=za hx (za hlt (za hw hPx))
  repeat' first|(with_reducible first|refine zz ?_|refine And.intro (by omega) ?_)|refine CallE.embed_ex [1,2,3,4,5,6,7] (c2) ?_ ?_ ?_ ?_ ?_ ?_;(focus simp[p8];done);(focus simp;done);(focus simp;done);(focus simp;done);(focus refine n3 ?_;simp[p8,n8];done);intro mm hmm;try simp -dsimp[l9,p8,hs]|with_reducible refine zE [0,1,2,6,7,8,10,18,19,20,21] ?_;try simp -dsimp[hs]|refine i9 ?_ ?_<;>intro h<;>try simp only[i7] at h
  all_goals try simp -dsimp[hs]
  all_goals exact zn ⟨(L.length+1,g+1,false,mm),by simp only;omega,hmm⟩ (zw [0,7,8,18,19,20] 9 (by simp[hst,hPx]))
 ·obtain rfl:k=ns.length:=by omega
  rw[List.take_length] at hlk ⊢
  have hs:=hlt
  repeat' first|(with_reducible first|refine zz ?_|refine zr ?_)|with_reducible refine zE [0,1,2,6,7,8,10,18,19,20,21] ?_;try simp -dsimp[hs]|refine i9 ?_ ?_<;>intro h<;>try simp only[i7] at h
  all_goals try simp -dsimp[hs]
  simp[hE]
theorem rY (n:Notes) (s:List Int) (m:Int) (hG:o3 G) (hN:C7 G) (hS:u3 G) (hs:xF n) (hsl:s.length<1000):zP prog G 101 [p7 n,r7 s,iv m] (.tup [r7 (if C0 n s m=0 then gp n s m else []),iv (C0 n s m)]):=by
 refine zf func101 ntmps101 ?_
 try simp only[p7,r7,iv]
 have c1:=oS n s m hG hN hS hs hsl
 by_cases h0:C0 n s m=0
 ·rw[h0,show I2 n s m=.one (.im (C8 n)) by unfold I2;rw[if_pos h0]] at c1
  have hl12:=hs.2.1
  have hr80:=hs.1.1
  have c2:=sq (G:=G) n s m (by omega) (by omega) hsl
  simp only[C8] at c1 c2
  rw[if_pos h0]
  have hs:=trivial
  repeat' first|(with_reducible first|refine zz ?_|refine zr ?_)|(first|refine zp c1 ?_|refine zp c2 ?_|with_reducible refine zE [0,1,2,3,6,7,8,9,18] ?_);try simp -dsimp[hs]|refine i9 ?_ ?_<;>intro h<;>try simp only[i7] at h
  all_goals try simp -dsimp[hs]
  all_goals try clear hs
  all_goals simp[h0]
 ·rw[show I2 n s m=.one (.im (.raw (.pointer none))) by unfold I2;rw[if_neg h0]] at c1
  have hs:=h0
  repeat' first|(with_reducible first|refine zz ?_|refine zr ?_)|(first|refine zp c1 ?_|with_reducible refine zE [0,1,2,3,6,7,8,9,18] ?_);try simp -dsimp[hs]|refine i9 ?_ ?_<;>intro h<;>try simp only[i7] at h
  all_goals try simp -dsimp[hs]
  all_goals try clear hs
  all_goals simp[h0]
end Go.Proofs
namespace Go.Proofs
open Go Go.Ab
end Go.Proofs
namespace Go.Ab
open Go
@[simp] theorem Hw (X:List (List IC)) (k:Nat) (c:IC):(l7 X).set k [DC.im c]=l7 (X.set k [c]):=by
 simp only[l7,List.map_set,List.map_cons,List.map_nil]
@[simp] theorem HB (X:List (List IC)) (k:Nat) (h:k<(l7 X).length):(l7 X)[k]=(X[k]'(by simpa[q9] using h)).map .im:=by simp[l7]
end Go.Ab
namespace Go.Proofs
open Go Go.Ab
variable {G:Kc}
end Go.Proofs
namespace Go.Proofs
open Go Go.Ab
variable {G:Kc}
def W1 (n:Notes) (s:List Int) (m:Int):List Int:=(nums n.reg).map fun d=>gq n.notes (T9 s [] m n.notes) d
end Go.Proofs
namespace Go.Proofs
open Go Go.Ab
theorem As (n:Notes) (s w:List Int) (m d:Int):uE n s w m d n.notes.length=if tl n.notes (T9 s w m n.notes) d n.notes.length<0 then kR else (n.notes[(tl n.notes (T9 s w m n.notes) d n.notes.length).toNat]?).getD kR:=by
 unfold uE
 rw[Ec _ _ _ _ (Nat.le_refl _)]
 split
 ·rfl
 ·split<;>simp[*]
theorem uD {l:List Note} {b:List Bool} {d:Int} {k:Nat} (hk:k≤l.length) (h:¬ tl l b d k<0):(tl l b d k).toNat<l.length:=by
 have:=(Aq l b d k).2;omega
theorem sn (n:Notes) (s:List Int) (m:Int):gp n s m=W1 n s m:=by
 refine List.map_congr_left fun d _=>?_
 rw[As]
 unfold gq
 rw[bq]
 split
 ·rfl
 ·rename_i h
  have hl:=uD (Nat.le_refl _) h
  rw[List.getElem?_eq_getElem hl];rfl
end Go.Proofs
namespace Go.Ab
open Go
def o2:List Int→List Int
 | []=>[]
 | [a]=>[a]
 | a :: b :: r=>if a=b then o2 (b :: r) else a :: o2 (b :: r)
theorem jv:∀ (l:List Int) (u v:Int),o2 (l++[u,v])=if u=v then o2 (l++[u]) else o2 (l++[u])++[v]
 | [],u,v=>by simp only[List.nil_append,o2];split<;>simp[*]
 | [a],u,v=>by
   simp only[List.cons_append,List.nil_append,o2]
   split<;>split<;>simp[*]
 | a :: b :: r,u,v=>by
   have ih:=jv (b :: r) u v
   simp only[List.cons_append,o2] at ih ⊢
   rw[ih]
   split<;>split<;>simp
theorem O9:∀ l:List Int,(o2 l).length≤l.length
 | []=>by simp[o2]
 | [a]=>by simp[o2]
 | a :: b :: r=>by
   have:=O9 (b :: r)
   simp only[o2];split<;>simp at *<;>omega
theorem ai:∀ (l:List Int) (x:Int),x∈o2 l↔x∈l
 | [],x=>by simp[o2]
 | [a],x=>by simp[o2]
 | a :: b :: r,x=>by
   have ih:=ai (b :: r) x
   simp only[o2]
   split
   ·rename_i h;subst h;rw[ih];simp
   ·rw[List.mem_cons,ih,List.mem_cons (a:=x) (b:=a)]
theorem iS:∀ (l:List Int),l.Pairwise (·≤·)→(o2 l).Pairwise (· < ·)
 | [],_=>by simp[o2]
 | [a],_=>by simp[o2]
 | a :: b :: r,h=>by
   obtain⟨h1,h2⟩:=List.pairwise_cons.1 h
   have ih:=iS (b :: r) h2
   simp only[o2]
   split
   ·exact ih
   ·rename_i hne
    refine List.pairwise_cons.2 ⟨fun x hx=>?_,ih⟩
    have hb:=h1 b (by simp)
    rcases List.mem_cons.1 ((ai _ _).1 hx) with rfl|hx
    ·omega
    ·have:=(List.pairwise_cons.1 h2).1 x hx;omega
theorem xK {l:List Int} {k:Nat} (h:k+1<l.length):l.take (k+2)=l.take k++[l[k],l[k+1]]:=by
 rw[show k+2=k+1+1 from rfl,List.take_succ_eq_append_getElem h,List.take_succ_eq_append_getElem (by omega),List.append_assoc];rfl
theorem lA {l:List Int} {k:Nat} (h:k+1<l.length):o2 (l.take (k+2))=if l[k]=l[k+1] then o2 (l.take (k+1)) else o2 (l.take (k+1))++[l[k+1]]:=by
 rw[xK h,jv,List.take_succ_eq_append_getElem (by omega)]
theorem pt {l:List Int} {k:Nat} {v:Int} (h:k<l.length):(l.set k v).take (k+1)=l.take k++[v]:=by
 rw[List.take_succ_eq_append_getElem (by simpa using h)]
 simp[List.take_set_of_le]
end Go.Ab
namespace Go.Proofs
open Go Go.Ab Tryz
variable {G:Kc}
theorem iX (l:List Int) (g:Nat) (hl:l.length<1000):DCall prog G 183 [.one (.vec 0 g 0 l.length)] [.vec 1 (l7 (l.map encI)) g false] (fun d o=>∃ S:List Int,(S.length=l.length∧S.take (o2 l).length=o2 l)∧d=.one (.vec 0 g 0 (o2 l).length)∧o=[.vec 1 (l7 (S.map encI)) g false]):=by
 refine DCall.drop ?_
 refine g9 func183 rfl ntmps183 (by simp) rfl ?_
 by_cases h2:l.length<2
 ·have hli:(l.length:Int)<2:=by omega
  have hs:=hli
  repeat' first|(with_reducible first|refine zz ?_|refine zr ?_|refine zE [0,2,3,4,5,8,13,25,32,44] ?_)|simp -dsimp[hs]|refine i9 ?_ ?_<;>intro h<;>try simp only[i7] at h
  have hd:o2 l=l:=by
   match l,h2 with
   | [],_=>rfl
   | [a],_=>rfl
  exact⟨l,⟨rfl,by rw[hd,List.take_length]⟩,by rw[hd],rfl⟩
 ·have hli:¬ (l.length:Int)<2:=by omega
  have hs:=hli
  repeat' first|(with_reducible first|refine zz ?_|refine zE [0,2,3,4,5,8,13,25,32,44] ?_)|simp -dsimp[hs]|refine i9 ?_ ?_<;>intro h<;>try simp only[i7] at h
  refine i6 (ι:={ k:Nat // 1≤k∧k≤l.length∧o2 (l.take k)=l.take k }) (fun p=>⟨61,[(0,.one (.vec 0 g 0 l.length)),(3,iv (p.1:Int))],[.vec 1 (l7 (l.map encI)) g false]⟩) (fun p=>l.length-p.1) ⟨1,by omega,by omega,by cases l with|nil=>rfl|cons a r=>simp[o2]⟩ (zw [0,3] 1) ?_
  rintro⟨k,hk1,hk,hdk⟩
  simp only[iv]
  by_cases hlt:k<l.length
  ·have hw:=zk k
   obtain⟨j,rfl⟩:∃ j,k=j+1:=⟨k-1,by omega⟩
   have hj:j<l.length:=by omega
   have hst:=lA hlt
   rw[hdk] at hst
   have hwj:IntKind.i64.wrap (((j+1:Nat):Int)-1)=(j:Int):=by rw[o4 (by omega) (by omega)];omega
   have hwj2:IntKind.i64.wrap (j:Int)=(j:Int):=o4 (by omega) (by omega)
   have hp0:(0:Int)≤(j:Int)+1:=by omega
   have hp1:(j:Int)+1≤l.length:=by omega
   have hp2:(j:Int)+1<l.length:=by omega
   by_cases he:l[j]=l[j+1]
   ·have he':l[j+1]=l[j]:=he.symm
    rw[if_pos he] at hst
    have hs:=za hlt (za hj (za hw (za hwj (za hwj2 (za hp0 (za hp1 (za hp2 he')))))))
    repeat' first|with_reducible refine zz ?_|simp -dsimp[hs]|refine zM 6 61 10 [0,2,3,4,5,8,13,25,32,44] ?_|with_reducible refine zE [0,2,3,4,5,8,13,25,32,44] ?_|refine i9 ?_ ?_<;>intro h<;>try simp only[i7] at h
    refine i6 (ι:={ p:Nat×Nat×List Int // 1≤p.1∧j+1+p.1≤l.length∧p.2.1≤j+p.1∧p.2.2.length=l.length∧p.2.2.take p.2.1=o2 (l.take (j+1+p.1))∧p.2.2.drop (j+p.1)=l.drop (j+p.1) }) (fun p=>⟨61,[(0,.one (.vec 0 g 0 l.length)),(3,iv (p.1.2.1:Int)),(4,.one (.vec 0 g (j+1) (l.length-(j+1)))),(5,iv (p.1.1:Int))],[.vec 1 (l7 (p.1.2.2.map encI)) g false]⟩) (fun p=>l.length-p.1.1) ⟨(1,j+1,l),by simp only;omega,by simp only;omega,by simp only;omega,rfl,hst.symm,rfl⟩ (zv [0,3,4,5]) ?_
    rintro⟨⟨q,w,S⟩,hq1,hqN,hwq,hSl,hSt,hSd⟩
    simp only at hq1 hqN hwq hSl hSt hSd
    simp only[iv]
    by_cases hlq:j+1+q<l.length
    ·have hq':q<l.length-(j+1):=by omega
     have hq1':q-1<l.length-(j+1):=by omega
     have hqw:=zk q
     have hww:=zk w
     have hqm:IntKind.i64.wrap ((q:Int)-1)=((q-1:Nat):Int):=by rw[o4 (by omega) (by omega)];omega
     have hs1:j+1+q<S.length:=by omega
     have hs0:j+1+(q-1)<S.length:=by omega
     have hwl:w<l.length:=by omega
     have hds:o2 (l.take (j+1+(q+1)))=if l[j+q]=l[j+1+q] then o2 (l.take (j+1+q)) else o2 (l.take (j+1+q))++[l[j+1+q]]:=by
      have:=lA (l:=l) (k:=j+q) (by omega)
      simp only[show j+q+1=j+1+q by omega,show j+q+2=j+1+(q+1) by omega] at this
      exact this
     rw[← hSt] at hds
     have e1:S[j+1+q]=l[j+1+q]:=by
      have:=congrArg (fun L:List Int=>L[1]?) hSd
      simp only[List.getElem?_drop] at this
      rw[show j+q+1=j+1+q by omega,List.getElem?_eq_getElem hs1,List.getElem?_eq_getElem hlq] at this
      exact Option.some.inj this
     have e0:S[j+1+(q-1)]=l[j+q]:=by
      have:=congrArg (fun L:List Int=>L[0]?) hSd
      simp only[List.getElem?_drop,Nat.add_zero] at this
      rw[List.getElem?_eq_getElem (show j+q<S.length by omega),List.getElem?_eq_getElem (show j+q<l.length by omega)] at this
      have e:=Option.some.inj this
      rw[← e];congr 1;omega
     have hdr:S.drop (j+(q+1))=l.drop (j+(q+1)):=by
      have:=congrArg (List.drop 1) hSd
      rw[List.drop_drop,List.drop_drop] at this
      exact this
     have hset:=fun v:Int=>pt (v:=v) (show w<S.length by omega)
     have hdset:∀ v:Int,(S.set w v).drop (j+(q+1))=l.drop (j+(q+1)):=fun v=>by
      rw[List.drop_set_of_lt (by omega)];exact hdr
     generalize l[j+q]=u at *
     generalize l[j+1+q]=v at *
     have e0':S[j+1+(q-1)]?=some u:=by rw[List.getElem?_eq_getElem hs0,e0]
     have e1':S[j+1+q]?=some v:=by rw[List.getElem?_eq_getElem hs1,e1]
     by_cases huv:u=v
     ·have hvu:v=u:=huv.symm
      rw[if_pos huv] at hds
      have hs:=za hq' (za hq1' (za hSl (za hlq (za hqw (za hww (za hqm (za hs1 (za hs0 (za hwl (za e1 (za e0 (za e0' (za e1' hvu)))))))))))))
      repeat' first|with_reducible refine zz ?_|simp -dsimp[hs]|refine zM 11 61 10 [0,2,3,4,5,8,13,25,32,44] ?_|with_reducible refine zE [0,2,3,4,5,8,13,25,32,44] ?_|refine i9 ?_ ?_<;>intro h<;>try simp only[i7] at h
      all_goals exact zn ⟨(q+1,w,S),by simp only;omega,by simp only;omega,by simp only;omega,hSl,hds.symm,hdr⟩ (zv [0,3,4,5])
     ·have hvu:¬ v=u:=fun h=>huv h.symm
      rw[if_neg huv,← hset v] at hds
      have hs:=za hq' (za hq1' (za hSl (za hlq (za hqw (za hww (za hqm (za hs1 (za hs0 (za hwl (za e1 (za e0 (za e0' (za e1' hvu)))))))))))))
      repeat' first|with_reducible refine zz ?_|simp -dsimp[hs]|refine zM 11 61 10 [0,2,3,4,5,8,13,25,32,44] ?_|with_reducible refine zE [0,2,3,4,5,8,13,25,32,44] ?_|refine i9 ?_ ?_<;>intro h<;>try simp only[i7] at h
      all_goals exact zn ⟨(q+1,w+1,S.set w v),by simp only;omega,by simp only;omega,by simp only;omega,by simpa using hSl,hds.symm,hdset v⟩ (zv [0,3,4,5])
    ·have hq':¬ q<l.length-(j+1):=by omega
     have hw0:w≤l.length:=by omega
     have hs:=za hq' (za hw0 hSl)
     repeat' first|(with_reducible first|refine zz ?_|refine zr ?_|refine zE [0,2,3,4,5,8,13,25,32,44] ?_)|simp -dsimp[hs]|refine i9 ?_ ?_<;>intro h<;>try simp only[i7] at h
     have hN:j+1+q=l.length:=by omega
     rw[hN,List.take_length] at hSt
     have hwd:w=(o2 l).length:=by rw[← hSt];simp;omega
     exact⟨wH S w (l.length-w),⟨by rw[qA (by omega)];exact hSl,by rw[← hwd,← hSt];exact List.take_left' (by simp;omega)⟩,by rw[hwd],rfl⟩
   ·have he':¬ l[j+1]=l[j]:=fun h=>he h.symm
    rw[if_neg he] at hst
    have hs:=za hlt (za hj (za hw (za hwj (za hwj2 (za hp0 (za hp1 (za hp2 he')))))))
    repeat' first|with_reducible refine zz ?_|simp -dsimp[hs]|refine zM 6 61 10 [0,2,3,4,5,8,13,25,32,44] ?_|with_reducible refine zE [0,2,3,4,5,8,13,25,32,44] ?_|refine i9 ?_ ?_<;>intro h<;>try simp only[i7] at h
    exact zn ⟨j+2,by omega,by omega,by rw[hst,show j+2=j+1+1 from rfl,List.take_succ_eq_append_getElem hlt]⟩ (zv [0,3] (by simp;exact hw))
  ·obtain rfl:k=l.length:=by omega
   rw[List.take_length] at hdk
   have hs:=hlt
   repeat' first|(with_reducible first|refine zz ?_|refine zr ?_|refine zE [0,2,3,4,5,8,13,25,32,44] ?_)|simp -dsimp[hs]|refine i9 ?_ ?_<;>intro h<;>try simp only[i7] at h
   exact⟨l,⟨rfl,by rw[hdk,List.take_length]⟩,by rw[hdk],rfl⟩
end Go.Proofs
