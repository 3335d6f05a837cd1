/- Part 24 of the proofs. -/
import Derived.Shelf.Sort.Plain
import Derived.Shelf.Slices.In.SortNone
import Derived.Ground.NamesProg
import Derived.Shelf.Lays
import Derived.Shelf.SlGeneric
import Derived.Shelf.SlSortCmp.NoneTotal
import Derived.Ground.SlsfProg
import Derived.Test.YtjodaihiogfkbaaGreatDoorCards
import Derived.SevenTiedAt
import Derived.Test.YtjodaihiogfkbaaGreatDoorA09
import Derived.Test.YtjodaihiogfkbaaGreatDoorA13
import Derived.Test.YtjodaihiogfkbaaGreatDoorA15
import Derived.Test.YtjodaihiogfkbaaGreatDoorA18
import Derived.Test.YtjodaihiogfkbaaGreatDoorA19
import Derived.Test.YtjodaihiogfkbaaGreatDoorB01
import Derived.Test.YtjodaihiogfkbaaGreatDoorB02
import Derived.Test.YtjodaihiogfkbaaGreatDoorB03
import Derived.Test.YtjodaihiogfkbaaGreatDoorB04
set_option linter.all false
set_option linter.deprecated false
set_option maxHeartbeats 100000000
namespace Go.Proofs
open Go Go.Ab Tryz
variable {G:GW}
attribute [simp] D6 lD E8 N8 nilV bu ZK
theorem ur {c:Case} (t:List Int) {k:Nat} (h:k<c.pieces.length):(w0 c t).faults.getD k []=dZ c t k:=by
 simp[w0,h]
theorem jV (L:List Desk) (s:Susp):Q2 L s=FH (L.any fun d=>U8 d s true) (L.any fun d=>U8 d s false):=rfl
theorem nW (c:Case) (t:List Int) (s:Susp) (hs:bR c.pieces.length s) (he:B8 c=0) (ht:C0 (j8 (j6 c.p.n.notes)) t=true) (htl:t.length<1000) (hk:KC c):zP prog G 72 [m6 c,n7 t,B5 s] (.tup [bv (U8 (w0 c t) s true),bv (U8 (w0 c t) s false)]):=by
 refine zf func72 ntmps72 ?_
 try simp only[n7]
 obtain⟨kd,i⟩:=s
 rcases hs with h|⟨h,h1,h2⟩
 ·simp only at h
  subst h
  have c1:=qo (G:=G) c t he ht htl hk
  have e1:∀ so,U8 (w0 c t) ⟨1,i⟩ so=(pP c t==so):=fun so=>rfl
  rw[e1,e1]
  generalize pP c t=b at *
  simp only[m6,j4,B5,l5,rI,List.map_cons,List.map_nil] at c1 ⊢
  have hs:True:=trivial
  cases b
  all_goals
   have hs:=trivial
   repeat' first|(with_reducible first|refine zz ?_|refine zr ?_|refine zE [0,1,2,3,5,6,7,8,9,12,26] ?_)|simp -dsimp[hs]|refine zp c1 ?_|refine i8 ?_ ?_<;>intro h<;>try simp only[i6] at h
   all_goals try clear hs
 ·simp only at h h1 h2
  obtain⟨k,rfl⟩:=Int.eq_ofNat_of_zero_le h1
  have hkp:k<c.pieces.length:=by omega
  have c1:=oa (G:=G) c t k hkp he ht htl hk
  have hf:=ur t hkp
  have e1:∀ so,U8 (w0 c t) ⟨2,(k:Int)⟩ so=(decide ((so,false)∈dZ c t k)||decide ((so,true)∈dZ c t k)):=fun so=>by
   rw[← yv,← hf];rfl
  have e2:∀ so,U8 (w0 c t) ⟨3,(k:Int)⟩ so=(decide ((false,so)∈dZ c t k)||decide ((true,so)∈dZ c t k)):=fun so=>by
   rw[← yu,← hf];rfl
  unfold oU at c1
  simp only[yt,m6,j4,List.map_cons,List.map_nil] at c1
  have hs:True:=trivial
  rcases h with rfl|rfl
  ·rw[e1,e1]
   generalize decide ((false,false)∈dZ c t k)=f1 at *
   generalize decide ((false,true)∈dZ c t k)=f2 at *
   generalize decide ((true,false)∈dZ c t k)=f3 at *
   generalize decide ((true,true)∈dZ c t k)=f4 at *
   simp only[m6,j4,B5,l5,rI,List.map_cons,List.map_nil]
   clear e1 e2 hf
   cases f1<;>cases f2<;>cases f3<;>cases f4
   all_goals
    have hs:=trivial
    repeat' first|(with_reducible first|refine zz ?_|refine zr ?_)|simp -dsimp[hs]|refine zp c1 ?_|refine zM 6 51 14 [0,1,2,3,5,6,7,8,9,12,26] ?_|with_reducible refine zE [0,1,2,3,5,6,7,8,9,12,26] ?_|refine i8 ?_ ?_<;>intro h<;>try simp only[i6] at h
    all_goals try clear hs
  ·rw[e2,e2]
   generalize decide ((false,false)∈dZ c t k)=f1 at *
   generalize decide ((false,true)∈dZ c t k)=f2 at *
   generalize decide ((true,false)∈dZ c t k)=f3 at *
   generalize decide ((true,true)∈dZ c t k)=f4 at *
   simp only[m6,j4,B5,l5,rI,List.map_cons,List.map_nil]
   clear e1 e2 hf
   cases f1<;>cases f2<;>cases f3<;>cases f4
   all_goals
    have hs:=trivial
    repeat' first|(with_reducible first|refine zz ?_|refine zr ?_)|simp -dsimp[hs]|refine zp c1 ?_|refine zM 7 51 14 [0,1,2,3,5,6,7,8,9,12,26] ?_|with_reducible refine zE [0,1,2,3,5,6,7,8,9,12,26] ?_|refine i8 ?_ ?_<;>intro h<;>try simp only[i6] at h
    all_goals try clear hs
noncomputable def iJ (c:Case) (s:Susp) (so:Bool) (T:List (List Int)):Bool:=T.any fun t=>U8 (w0 c t) s so
theorem mo (c:Case) (s:Susp) (so:Bool) {T:List (List Int)} {k:Nat} (h:k<T.length):iJ c s so (T.take (k+1))=(iJ c s so (T.take k)||U8 (w0 c T[k]) s so):=by
 unfold iJ
 rw[List.take_succ_eq_append_getElem h,List.any_append]
 simp
theorem tc {O:List Int} (hO:O.Pairwise (· < ·)) (t:List Int) (h:t∈P4 O):C0 O t=true∧t.length≤O.length:=by
 obtain⟨k,_,rfl⟩:=List.mem_map.1 h
 exact⟨jl hO (fh _ k),fg _ _ _⟩
theorem jy (c:Case) (s:Susp) (hs:bR c.pieces.length s) (he:B8 c=0) (hk:KC c):zP prog G 73 [m6 c,B5 s] (vA (Q2 (E9 c) s)):=by
 refine zf func73 ntmps73 ?_
 try simp only[iv]
 obtain⟨hp0,hcb⟩:=F6 he
 obtain⟨hn0,hpb,hr0⟩:=E1 hp0
 have hnk:=Y4 hn0
 have hO5:(j8 (j6 c.p.n.notes)).length≤5:=by rw[mQ];exact hnk.2.2.2
 have hstr:=fI (cJ hnk.2.2.1)
 have c1:=tz (G:=G) c.p.n hk.p.n hnk.2.2.1 hnk.2.2.2
 have hT:=fun t h=>tc hstr t h
 have c2:=fun t (h:t∈P4 (j8 (j6 c.p.n.notes)))=>nW (G:=G) c t s hs he (hT t h).1 (by have:=(hT t h).2;omega) hk
 have hTl:(P4 (j8 (j6 c.p.n.notes))).length≤32:=by
  have hPe:(2:Nat) ^ (j8 (j6 c.p.n.notes)).length≤2 ^ 5:=Nat.pow_le_pow_right (by omega) hO5
  rw[hZ];omega
 have hE:∀ so,(E9 c).any (fun d=>U8 d s so)=iJ c s so (P4 (j8 (j6 c.p.n.notes))):=fun so=>by
  unfold E9 iJ
  rw[List.any_map];rfl
 rw[jV,hE,hE]
 have c3:=nY (G:=G) (iJ c s true (P4 (j8 (j6 c.p.n.notes)))) (iJ c s false (P4 (j8 (j6 c.p.n.notes))))
 clear hE hT
 generalize P4 (j8 (j6 c.p.n.notes))=T at *
 simp only[m6,j4,B5,l5,rI,l4,m4,FF,List.map_cons,List.map_nil] at c1 c2 ⊢
 have hs:=trivial
 repeat' first|(with_reducible first|refine zz ?_|refine zE [0,1,2,3,4,5,6,7,8,9,10,18] ?_)|simp -dsimp[hs]|refine zp c1 ?_
 all_goals try clear hs
 refine g9 (ι:={ k:Nat // k≤T.length }) (fun p=>⟨42,[(2,.one (.ptr 0 0)),(3,.one (.ptr 1 0)),(5,bv (iJ c s true (T.take p.1))),(6,bv (iJ c s false (T.take p.1))),(7,.one (.im (.sl (T.map xS)))),(8,iv (p.1:Int))],[.row ((j4 c).map .im),.row ((l5 s).map .im)]⟩) (fun p=>T.length-p.1) ⟨0,by simp⟩ (zv [2,3,5,6,7,8] (by simp[iJ])) ?_
 rintro⟨k,hk1⟩
 simp only[iv,bv]
 by_cases hlt:k<T.length
 ·have hlt':(k:Int)<T.length:=by omega
  have hw:=zk k
  have h1:=mo c s true hlt
  have h2:=mo c s false hlt
  have c4:=c2 T[k] (List.getElem_mem hlt)
  generalize hx:T[k]=t at *
  generalize U8 (w0 c t) s true=a at *
  generalize U8 (w0 c t) s false=b at *
  generalize iJ c s true (T.take k)=x at *
  generalize iJ c s false (T.take k)=y at *
  have hs:True:=trivial
  cases x<;>cases y
  all_goals
   have hs:=za hx (za hlt (za hlt' hw))
   repeat' first|with_reducible refine zz ?_|simp -dsimp[hs]|refine zq c4 ?_|refine zM 6 42 12 [0,1,2,3,4,5,6,7,8,9,10,18] ?_|with_reducible refine zE [0,1,2,3,4,5,6,7,8,9,10,18] ?_|refine i8 ?_ ?_<;>intro h<;>try simp only[i6] at h
   all_goals try clear hs
  all_goals exact zn ⟨k+1,by omega⟩ (zv [2,3,5,6,7,8] (by simp[h1,h2]))
 ·obtain rfl:k=T.length:=by omega
  have hlt':¬ (T.length:Int)<T.length:=by omega
  simp only[List.take_length]
  have hs:=za hlt hlt'
  repeat' first|(with_reducible first|refine zz ?_|refine zr ?_|refine zE [0,1,2,3,4,5,6,7,8,9,10,18] ?_)|simp -dsimp[hs]|refine zp c3 ?_|refine i8 ?_ ?_<;>intro h<;>try simp only[i6] at h
  all_goals try clear hs
theorem qp (c:Case) (s:Susp) (hk:KC c):zP prog G 20 [m6 c,B5 s] (.tup [vA (eC c s),iv (iH c s)]):=by
 refine zf func20 ntmps20 ?_
 try simp only[iv]
 have c1:=eu (G:=G) c hk
 have hq:=hk.q
 by_cases h0:P2 c=0
 ·have c2:=jx (G:=G) c s (by omega)
  have hE:iH c s=if pQ c.pieces.length s=true then 0 else 6:=by unfold iH;rw[if_neg (by simp[h0])]
  rw[h0] at c1
  simp only[m6,j4,B5,l5,rI,List.map_cons,List.map_nil] at c1 c2
  by_cases hb:pQ c.pieces.length s=true
  ·have c3:=jy (G:=G) c s (mS hb) (bb h0).1 hk
   rw[if_pos hb] at hE
   have hO:eC c s=Q2 (E9 c) s:=by unfold eC;rw[if_pos hE]
   rw[hE,hO]
   rw[hb] at c2
   simp only[m6,j4,B5,l5,rI,List.map_cons,List.map_nil] at c3 ⊢
   have hs:=trivial
   repeat' first|(with_reducible first|refine zz ?_|refine zr ?_|refine zE [0,1,2,3,4,5,6,10,15] ?_)|simp -dsimp[hs]|refine zp c1 ?_|refine zp c2 ?_|refine zp c3 ?_|refine i8 ?_ ?_<;>intro h<;>try simp only[i6] at h
  ·rw[if_neg hb] at hE
   have hO:eC c s=0:=by unfold eC;rw[if_neg (by rw[hE];decide)]
   rw[hE,hO]
   rw[Bool.not_eq_true] at hb
   rw[hb] at c2
   simp only[m6,j4,B5,l5,rI,List.map_cons,List.map_nil]
   have hs:=trivial
   repeat' first|(with_reducible first|refine zz ?_|refine zr ?_|refine zE [0,1,2,3,4,5,6,10,15] ?_)|simp -dsimp[hs]|refine zp c1 ?_|refine zp c2 ?_|refine i8 ?_ ?_<;>intro h<;>try simp only[i6] at h
 ·have hE:iH c s=P2 c:=by unfold iH;rw[if_pos h0]
  have hO:eC c s=0:=by unfold eC;rw[if_neg (by rw[hE];exact h0)]
  rw[hE,hO]
  simp only[m6,j4,B5,l5,rI,List.map_cons,List.map_nil] at c1 ⊢
  have hs:=h0
  repeat' first|(with_reducible first|refine zz ?_|refine zr ?_|refine zE [0,1,2,3,4,5,6,10,15] ?_)|simp -dsimp[hs]|refine zp c1 ?_|refine i8 ?_ ?_<;>intro h<;>try simp only[i6] at h
theorem zL (c:Case) (t:List Int) (s:Susp) (htl:t.length<1000) (hk:KC c):zP prog G 18 [m6 c,n7 t,B5 s] (.tup [vA (bw c t s),iv (iG c t s)]):=by
 refine zf func18 ntmps18 ?_
 try simp only[n7]
 have c1:=eu (G:=G) c hk
 have hq:=hk.q
 by_cases h0:P2 c=0
 ·obtain⟨he,_⟩:=bb h0
  obtain⟨hn0,_,_⟩:=E1 (F6 he).1
  have hnk:=Y4 hn0
  have c4:=nI (G:=G) c.p.n t hk.p.n hnk.2.2.1 htl
  have c2:=jx (G:=G) c s (by omega)
  have hE:iG c t s=if C0 (j8 (j6 c.p.n.notes)) t=false then 31 else if pQ c.pieces.length s=true then 0 else 6:=by unfold iG;rw[if_neg (by simp[h0])]
  rw[h0] at c1
  cases ht:C0 (j8 (j6 c.p.n.notes)) t
  ·rw[ht] at c4
   rw[if_pos ht] at hE
   have hO:bw c t s=0:=by unfold bw;rw[if_neg (by rw[hE];decide)]
   rw[hE,hO]
   simp only[m6,j4,B5,l5,rI,l4,m4,List.map_cons,List.map_nil] at c1 c4 ⊢
   have hs:=trivial
   repeat' first|(with_reducible first|refine zz ?_|refine zr ?_|refine zE [0,1,2,3,5,6,7,8,12,19,23] ?_)|simp -dsimp[hs]|refine zp c1 ?_|refine zp c4 ?_|refine i8 ?_ ?_<;>intro h<;>try simp only[i6] at h
  ·rw[ht] at c4
   rw[if_neg (by simp[ht])] at hE
   by_cases hb:pQ c.pieces.length s=true
   ·have c3:=nW (G:=G) c t s (mS hb) he ht htl hk
    have c5:=nY (G:=G) (U8 (w0 c t) s true) (U8 (w0 c t) s false)
    rw[if_pos hb] at hE
    have hO:bw c t s=FH (U8 (w0 c t) s true) (U8 (w0 c t) s false):=by unfold bw;rw[if_pos hE,jV];simp
    rw[hE,hO]
    rw[hb] at c2
    generalize U8 (w0 c t) s true=a at *
    generalize U8 (w0 c t) s false=b at *
    simp only[m6,j4,B5,l5,rI,l4,m4,List.map_cons,List.map_nil] at c1 c2 c3 c4 ⊢
    have hs:=trivial
    repeat' first|(with_reducible first|refine zz ?_|refine zr ?_|refine zE [0,1,2,3,5,6,7,8,12,19,23] ?_)|simp -dsimp[hs]|refine zp c1 ?_|refine zp c4 ?_|refine zp c2 ?_|refine zp c3 ?_|refine zp c5 ?_|refine i8 ?_ ?_<;>intro h<;>try simp only[i6] at h
   ·rw[if_neg hb] at hE
    have hO:bw c t s=0:=by unfold bw;rw[if_neg (by rw[hE];decide)]
    rw[hE,hO]
    rw[Bool.not_eq_true] at hb
    rw[hb] at c2
    simp only[m6,j4,B5,l5,rI,l4,m4,List.map_cons,List.map_nil] at c1 c2 c4 ⊢
    have hs:=trivial
    repeat' first|(with_reducible first|refine zz ?_|refine zr ?_|refine zE [0,1,2,3,5,6,7,8,12,19,23] ?_)|simp -dsimp[hs]|refine zp c1 ?_|refine zp c4 ?_|refine zp c2 ?_|refine i8 ?_ ?_<;>intro h<;>try simp only[i6] at h
 ·have hE:iG c t s=P2 c:=by unfold iG;rw[if_pos h0]
  have hO:bw c t s=0:=by unfold bw;rw[if_neg (by rw[hE];exact h0)]
  rw[hE,hO]
  simp only[m6,j4,B5,l5,rI,List.map_cons,List.map_nil] at c1 ⊢
  have hs:=h0
  repeat' first|(with_reducible first|refine zz ?_|refine zr ?_|refine zE [0,1,2,3,5,6,7,8,12,19,23] ?_)|simp -dsimp[hs]|refine zp c1 ?_|refine i8 ?_ ?_<;>intro h<;>try simp only[i6] at h
end Go.Proofs
namespace Go.Ab
open Go
def kU (s:Susp):List Value:=[.int .u8 s.kind,.int .i64 s.index]
def V6 (f:Susp→Int) (K:List Susp):List (List Value×List DC):=K.map fun s=>(kU s,[.im (.raw (.int .u8 (f s)))])
def lY (f:Susp→Int) (K:List Susp):List (List Value×List IC):=K.map fun s=>(kU s,[.raw (.int .u8 (f s))])
theorem aY (f:Susp→Int) (s:Susp) (K:List Susp):V6 f (s :: K)=(kU s,[.im (.raw (.int .u8 (f s)))]) :: V6 f K:=rfl
theorem rz (a b:Int) (y:Susp):u5 [.int .u8 a,.int .i64 b] (kU y)=decide (y=⟨a,b⟩):=by
 simp only[kU,u5,Bool.and_true]
 obtain⟨p,q⟩:=y
 rw[Bool.eq_iff_iff]
 simp only[decide_eq_true_eq,Bool.and_eq_true,beq_iff_eq,Susp.mk.injEq]
 constructor<;>(rintro⟨rfl,rfl⟩;exact⟨rfl,rfl⟩)
theorem wW {f:Susp→Int} {s:Susp}:∀ {K:List Susp},s∉K→P9 [.int .u8 s.kind,.int .i64 s.index] [.im (.raw (.int .u8 (f s)))] (V6 f K)=V6 f (K++[s])
 | [],_=>rfl
 | y :: K,h=>by
   rw[List.mem_cons,not_or] at h
   rw[List.cons_append,aY,aY]
   simp only[P9,rz,decide_eq_true_eq]
   rw[if_neg (fun e=>h.1 e.symm),wW h.2]
theorem wY (f:Susp→Int) (s:Susp):∀ K:List Susp,R4 [.int .u8 s.kind,.int .i64 s.index] (V6 f K) [.im (.raw (.int .u8 0))]=[.im (.raw (.int .u8 (if s∈K then f s else 0)))]
 | []=>by simp[V6,R4,W3]
 | y :: K=>by
   have ih:=wY f s K
   rw[aY]
   simp only[R4,W3,rz,decide_eq_true_eq] at ih ⊢
   split
   ·rename_i h
    obtain rfl:y=s:=h
    simp
   ·rename_i h
    rw[ih]
    have:(s∈y :: K)=(s∈K):=propext ⟨fun h'=>(List.mem_cons.1 h').resolve_left fun e=>h e.symm,List.mem_cons_of_mem _⟩
    simp only[this]
theorem xQ (f:Susp→Int) (K:List Susp):(V6 f K).length=K.length:=by simp[V6]
theorem qE {f:Susp→Int} {x:Susp}:∀ {l:List Susp} {i:Nat},l.Nodup→l[i]?=some x→U6 [.int .u8 x.kind,.int .i64 x.index] (V6 f l)=some i
 | [],i,_,h=>by simp at h
 | y :: r,i,hn,h=>by
   rw[List.nodup_cons] at hn
   rw[aY]
   simp only[U6,rz,decide_eq_true_eq]
   cases i with
   | zero=>simp at h;subst h;rw[if_pos rfl]
   | succ i =>
     have h':r[i]?=some x:=by simpa using h
     rw[if_neg (fun e=>hn.1 (by cases x;cases y;cases e;exact List.mem_of_getElem? h')),qE hn.2 h'];rfl
theorem Cs {f:Susp→Int} {x:Susp} {l:List Susp} {i:Nat} (hn:l.Nodup) (h:l[i]?=some x):fC [.int .u8 x.kind,.int .i64 x.index] (V6 f l)=V6 f (l.eraseIdx i):=by
 rw[gH (qE hn h)]
 refine List.ext_getElem? fun j=>?_
 simp only[V6,List.getElem?_map,List.getElem?_eraseIdx]
 split<;>simp
@[simp] theorem FB (f:Susp→Int) (k n:Nat) (objs:List DObj) (l:List Susp):J5 (fun x:List Value×List DC=>(J5 (frz (k+1) n objs) x.2).map fun l=>(x.1,l)) (V6 f l)=some (lY f l):=by
 induction l with
 | nil=>rfl
 | cons p r ih =>
   rw[aY]
   simp[J5,ih,lY]
@[simp] theorem Er (f:Susp→Int) (n:Nat) (objs:List DObj) (l:List Susp):((V6 f l).map fun x=>(x.1,x.2.map (fz n objs)))=V6 f l:=by
 simp[V6,fz,DC.lt]
@[simp] theorem CE (f:Susp→Int) (l:List Susp):eH (lY f l)=V6 f l:=by simp[eH,lY,V6]
theorem uv {f:Susp→Int} {l:List Susp} {i:Nat} {a:List Value} {b:List DC} (h:(V6 f l)[i]?=some (a,b)):∃ y,l[i]?=some y∧a=[.int .u8 y.kind,.int .i64 y.index]∧b=[.im (.raw (.int .u8 (f y)))]:=by
 simp only[V6,List.getElem?_map,Option.map_eq_some_iff] at h
 obtain⟨y,h1,h2⟩:=h
 cases h2
 exact⟨y,h1,rfl,rfl⟩
theorem jM {α β:Type} (f:α→β) (l:List α) (i:Nat):(l.eraseIdx i).map f=(l.map f).eraseIdx i:=by
 refine List.ext_getElem? fun j=>?_
 simp only[List.getElem?_map,List.getElem?_eraseIdx]
 split<;>simp
theorem mY {l:List Nat} (hn:l.Nodup) {i s:Nat} (h:l[i]?=some s):l.idxOf? s=some i:=by
 rw[List.idxOf?,List.findIdx?_eq_some_iff_getElem]
 obtain⟨h1,h2⟩:=List.getElem?_eq_some_iff.1 h
 refine⟨h1,by simpa using h2,fun j hj he=>?_⟩
 have he:l[j]=s:=by simpa using he
 have:=(List.getElem_inj hn).1 (he.trans h2.symm)
 omega
def qW {α:Type} (f:α→Bool) (seen:List Nat) (p:α×Nat):Bool:=!(decide (p.2∈seen) && !f p.1)
def Q1 {α:Type} (f:α→Bool) (P:List (α×Nat)) (seen:List Nat):List (α×Nat):=P.filter (qW f seen)
theorem ua {α:Type} (f:α→Bool) (P:List (α×Nat)):Q1 f P []=P:=by
 unfold Q1
 exact List.filter_eq_self.2 fun p _=>by simp[qW]
theorem qL {α:Type} {f:α→Bool} {P:List (α×Nat)} {seen:List Nat} {x:α} {s:Nat} (hn:(P.map (·.2)).Nodup) (hm:(x,s)∈P) (hf:f x=true):Q1 f P (seen++[s])=Q1 f P seen:=by
 unfold Q1
 refine List.filter_congr fun p hp=>?_
 simp only[qW,List.mem_append,List.mem_singleton]
 by_cases e:p.2=s
 ·have:p=(x,s):=by
   obtain⟨i,hi⟩:=List.mem_iff_getElem?.1 hp
   obtain⟨j,hj⟩:=List.mem_iff_getElem?.1 hm
   have h1:(P.map (·.2))[i]?=some s:=by rw[List.getElem?_map,hi];simp[e]
   have h2:(P.map (·.2))[j]?=some s:=by rw[List.getElem?_map,hj];rfl
   have:i=j:=(List.getElem?_inj (e7 h1) hn).1 (h1.trans h2.symm)
   subst this
   rw[hi] at hj;cases hj;rfl
  subst this
  simp[hf]
 ·simp[e]
theorem aD {α:Type} {p q:α→Bool} {a:α}:∀ {l:List α} {i:Nat},l.Nodup→(l.filter p)[i]?=some a→(∀ b∈l,b≠a→q b=p b)→q a=false→l.filter q=(l.filter p).eraseIdx i
 | [],i,_,h,_,_=>by simp at h
 | y :: l,i,hn,h,hq,ha=>by
   rw[List.nodup_cons] at hn
   by_cases e:y=a
   ·subst e
    have hp:p y=true:=(List.mem_filter.1 (List.mem_of_getElem? h)).2
    rw[List.filter_cons_of_pos hp] at h ⊢
    rw[List.filter_cons_of_neg (by simp[ha])]
    have hi:i=0:=by
     cases i with
     | zero=>rfl
     | succ i =>
       have:(l.filter p)[i]?=some y:=by simpa using h
       exact absurd (List.mem_filter.1 (List.mem_of_getElem? this)).1 hn.1
    subst hi
    rw[List.eraseIdx_cons_zero]
    exact List.filter_congr fun b hb=>hq b (by simp[hb]) fun e=>hn.1 (e ▸ hb)
   ·have hy:=hq y (by simp) e
    by_cases hp:p y=true
    ·rw[List.filter_cons_of_pos hp] at h ⊢
     rw[List.filter_cons_of_pos (by rw[hy];exact hp)]
     cases i with
     | zero=>simp at h;exact absurd h e
     | succ i =>
       rw[List.eraseIdx_cons_succ,aD hn.2 (by simpa using h) (fun b hb=>hq b (by simp[hb])) ha]
    ·rw[List.filter_cons_of_neg hp] at h ⊢
     rw[List.filter_cons_of_neg (by rw[hy];exact hp)]
     exact aD hn.2 h (fun b hb=>hq b (by simp[hb])) ha
theorem uc {α:Type} {f:α→Bool} {P:List (α×Nat)} {seen:List Nat} {x:α} {s i:Nat} (hn:(P.map (·.2)).Nodup) (hi:(Q1 f P seen)[i]?=some (x,s)) (hf:f x=false):Q1 f P (seen++[s])=(Q1 f P seen).eraseIdx i:=by
 have hnP:P.Nodup:=by
  have:=hn
  rw[List.Nodup,List.pairwise_map] at this
  exact this.imp fun h e=>h (by rw[e])
 have hm:(x,s)∈P:=(List.mem_filter.1 (List.mem_of_getElem? hi)).1
 unfold Q1 at hi ⊢
 refine aD hnP hi (fun p hp hne=>?_) (by simp[qW,hf])
 simp only[qW,List.mem_append,List.mem_singleton]
 have:p.2≠s:=fun e=>by
  obtain⟨i,hi⟩:=List.mem_iff_getElem?.1 hp
  obtain⟨j,hj⟩:=List.mem_iff_getElem?.1 hm
  have h1:(P.map (·.2))[i]?=some s:=by rw[List.getElem?_map,hi];simp[e]
  have h2:(P.map (·.2))[j]?=some s:=by rw[List.getElem?_map,hj];rfl
  have:i=j:=(List.getElem?_inj (e7 h1) hn).1 (h1.trans h2.symm)
  subst this
  rw[hi] at hj;cases hj;exact hne rfl
 simp[this]
theorem ub {α:Type} {f:α→Bool} {P:List (α×Nat)} {seen:List Nat} (h:∀ s∈(Q1 f P seen).map (·.2),s∈seen):(Q1 f P seen).map (·.1)=(P.map (·.1)).filter f:=by
 rw[List.filter_map]
 unfold Q1 at h ⊢
 congr 1
 refine List.filter_congr fun p hp=>?_
 simp only[Function.comp]
 cases hf:f p.1
 ·cases hq:qW f seen p with
  | false=>rfl
  | true =>
    have:=h p.2 (List.mem_map.2 ⟨p,List.mem_filter.2 ⟨hp,hq⟩,rfl⟩)
    simp[qW,hf,this] at hq
 ·simp[qW,hf]
def yY {α:Type} (P:List (α×Nat)) (seen:List Nat):Nat:=(P.filter fun p=>decide (p.2∉seen)).length
theorem yX {α:Type} {P:List (α×Nat)} {seen:List Nat} {x:α} {s:Nat} (hm:(x,s)∈P) (hs:s∉seen):yY P (seen++[s])<yY P seen:=by
 unfold yY
 have hsub:∀ l:List (α×Nat),(l.filter fun p=>decide (p.2∉seen++[s])).length≤(l.filter fun p=>decide (p.2∉seen)).length∧((x,s)∈l→(l.filter fun p=>decide (p.2∉seen++[s])).length<(l.filter fun p=>decide (p.2∉seen)).length):=by
  intro l
  induction l with
  | nil=>exact⟨Nat.le_refl _,fun h=>by simp at h⟩
  | cons p l ih =>
    by_cases h1:p.2∈seen
    ·rw[List.filter_cons_of_neg (by simp[h1]),List.filter_cons_of_neg (by simp[h1])]
     refine⟨ih.1,fun h=>ih.2 ?_⟩
     rcases List.mem_cons.1 h with rfl|h
     ·exact absurd h1 hs
     ·exact h
    ·by_cases h2:p.2=s
     ·rw[List.filter_cons_of_neg (by simp[h2]),List.filter_cons_of_pos (by simp[h1])]
      simp only[List.length_cons]
      exact⟨by omega,fun _=>by omega⟩
     ·rw[List.filter_cons_of_pos (by simp[h1,h2]),List.filter_cons_of_pos (by simp[h1])]
      simp only[List.length_cons]
      refine⟨by omega,fun h=>?_⟩
      rcases List.mem_cons.1 h with rfl|h
      ·exact absurd rfl h2
      ·have:=ih.2 h;omega
 exact(hsub P).2 hm
end Go.Ab
namespace Go.Proofs
open Go Go.Ab Tryz
variable {G:GW}
attribute [simp] D6 lD E8 N8 nilV bu ZK
noncomputable def xh (c:Case):Susp→Int:=Q2 (E9 c)
noncomputable def Dy (c:Case) (k:Int):List Susp:=(bO c.pieces.length).filter fun s=>decide (xh c s=k)
noncomputable def co (c:Case) (k:Int):List Susp:=if P2 c=0 then Dy c k else []
theorem sV {n:Nat} {s:Susp} (h:s∈bO n):bR n s∧0≤s.kind∧s.kind≤255:=by
 unfold bR
 rcases listS_mem.1 h with⟨_,rfl⟩|⟨i,h1,_,rfl⟩|⟨i,h1,_,rfl⟩
 ·simp
 ·simp[wF];omega
 ·simp[xz];omega
theorem rG (n:Nat):(bO n).Nodup:=(fE _ _ _ _).imp fun {a b} h e=>by subst e;unfold cY at h;omega
theorem kD (n:Nat):(bO n).length≤1+2*n:=by
 have h1:=(bx true (fun _=>true) (fun _=>true) n).length_eq
 have h2:=fy true (fun _=>true) (fun _=>true) n
 unfold bO;omega
theorem lO (c:Case) (s:Susp):0≤xh c s∧xh c s≤2:=by
 unfold xh Q2
 split
 ·omega
 ·split<;>omega
theorem pw (c:Case) (hG:s6 G) (hN:M7 G) (hS:C8 G) (hU:gi G) (hR:F0 G) (hC:V9 G) (hK:eD G) (hk:KC c):zP prog G 21 [m6 c] (.tup [R9 (co c 2),R9 (co c 1),iv (P2 c)]):=by
 refine zf func21 ntmps21 ?_
 try simp only[iv]
 have c1:=nx (G:=G) c hG hN hS hR hC hk
 have hq:=hk.q
 by_cases h0:P2 c=0
 ·have c2:=qc (G:=G) c (by omega) hU
  rw[h0,show vB c=E9 c by unfold vB;rw[if_pos h0]] at c1
  have hdl:=ma (bb h0).1
  have c3:=fun s (h:s∈bO c.pieces.length)=>jW (G:=G) c.pieces.length (E9 c) s (sV h).1 hK (pf hk) (by omega)
  have hO:∀ k,co c k=(bO c.pieces.length).filter fun s=>decide (xh c s=k):=fun k=>by unfold co;rw[if_pos h0];rfl
  rw[h0,hO,hO]
  have hfr:=lO c
  have hfe:∀ s,Q2 (E9 c) s=xh c s:=fun s=>rfl
  simp only[hfe] at c3
  have hAn:=rG c.pieces.length
  have hAl:=kD c.pieces.length
  clear hfe hO
  generalize xh c=f at *
  generalize bO c.pieces.length=A at *
  simp only[m6,j4,B5,l5,cp,R9,rI,List.map_cons,List.map_nil] at c1 c2 c3 ⊢
  have hs:=trivial
  repeat' first|(with_reducible first|refine zz ?_|refine zE [0,1,2,3,4,5,6,8,9,10,12,13,20,24,25,26,27,37,39,44,48,49,50,51,57,58,64] ?_)|simp -dsimp[hs]|refine zp c1 ?_|refine zp c2 ?_|refine i8 ?_ ?_<;>intro h<;>try simp only[i6] at h
  all_goals try clear hs
  refine g9 (ι:={ k:Nat // k≤A.length }) (fun p=>⟨73,[(1,.one (.ptr 0 0)),(2,.one (.vec 1 0 0 0)),(3,.one (.vec 2 0 0 0)),(4,iv 0),(5,.one (.im (.sl ((E9 c).map bY)))),(6,.one (.map 3)),(24,.one (.im (.sl (A.map l5)))),(25,iv (A.length:Int)),(26,iv (p.1:Int))],[.row ((j4 c).map .im),.vec 2 [] 0 true,.vec 2 [] 0 true,.map [.int .u8,.int .i64] (V6 f (A.take p.1))]⟩) (fun p=>A.length-p.1) ⟨0,by simp⟩ (zv [1,2,3,4,5,6,24,25,26] (by simp[V6])) ?_
  rintro⟨k,hk1⟩
  simp only[iv]
  by_cases hlt:k<A.length
  ·have hw:=zk k
   have hx0:A[k]?=some A[k]:=by simp[hlt]
   have c4:=c3 A[k] (List.getElem_mem hlt)
   have hts:A.take (k+1)=A.take k++[A[k]]:=List.take_succ_eq_append_getElem hlt
   have hnm:A[k]∉A.take k:=fun hm=>by
    obtain⟨j,hj⟩:=List.mem_iff_getElem?.1 hm
    have hjk:j<k:=by have:=e7 hj;rw[List.length_take] at this;omega
    rw[List.getElem?_take_of_lt hjk] at hj
    have:=(List.getElem?_inj (e7 hj) hAn).1 (hj.trans hx0.symm)
    omega
   have hset:=wW (f:=f) hnm
   rw[← hts] at hset
   generalize hx:A[k]=s at *
   have hs:=za hx (za hx0 (za hlt (za hw hset)))
   repeat' first|with_reducible refine zz ?_|simp -dsimp[hs]|refine zq c4 ?_|refine zM 8 73 5 [0,1,2,3,4,5,6,8,9,10,12,13,20,24,25,26,27,37,39,44,48,49,50,51,57,58,64] ?_|with_reducible refine zE [0,1,2,3,4,5,6,8,9,10,12,13,20,24,25,26,27,37,39,44,48,49,50,51,57,58,64] ?_|refine i8 ?_ ?_<;>intro h<;>try simp only[i6] at h
   all_goals try clear hs
   all_goals exact zn ⟨k+1,by omega⟩ (zw [1,2,3,4,5,6,24,25,26] 4)
  ·obtain rfl:k=A.length:=by omega
   simp only[List.take_length]
   have hs:=hlt
   repeat' first|(with_reducible first|refine zz ?_|refine zE [0,1,2,3,4,5,6,8,9,10,12,13,20,24,25,26,27,37,39,44,48,49,50,51,57,58,64] ?_)|simp -dsimp[hs]|refine i8 ?_ ?_<;>intro h<;>try simp only[i6] at h
   all_goals try clear hs
   intro l c0 b hll hln hlc
   rw[xQ] at hll
   have hP1:(A.zip l).map (·.1)=A:=List.map_fst_zip (by omega)
   have hP2:(A.zip l).map (·.2)=l:=List.map_snd_zip (by omega)
   have hPn:((A.zip l).map (·.2)).Nodup:=by rw[hP2];exact hln
   clear c1 c3 hlt hk1
   generalize A.zip l=P at *
   subst hP2
   have hAnP:(P.map (·.1)).Nodup:=by rw[hP1];exact hAn
   obtain⟨g,hg⟩:∃ g:Susp→Bool,g=fun s=>decide (f s≠0):=⟨_,rfl⟩
   have hs:=trivial
   repeat' first|with_reducible refine zz ?_|simp -dsimp[hs]
   all_goals try clear hs
   refine g9 (ι:={ p:List Nat×List Nat×List Susp // p.2.1=(Q1 g P p.1).map (·.2)∧p.2.2=(Q1 g P p.1).map (·.1) }) (fun p=>⟨73,[(1,.one (.ptr 0 0)),(2,.one (.vec 1 0 0 0)),(3,.one (.vec 2 0 0 0)),(4,iv 0),(6,.one (.map 3)),(37,.one (.itr 4))],[.row ((j4 c).map .im),.vec 2 [] 0 true,.vec 2 [] 0 true,.map [.st p.1.2.1 c0 b,.int .u8,.int .i64] (V6 f p.1.2.2),.liter b p.1.1 c0]⟩) (fun p=>yY P p.1.1) ⟨([],P.map (·.2),P.map (·.1)),by simp[ua]⟩ (zv [1,2,3,4,6,37] (by simp[hP1])) ?_
   rintro⟨⟨seen,l,K⟩,hl,hK'⟩
   simp only at hl hK'
   simp only[iv]
   have hs:=trivial
   repeat' first|(with_reducible first|refine zz ?_|refine zE [0,1,2,3,4,5,6,8,9,10,12,13,20,24,25,26,27,37,39,44,48,49,50,51,57,58,64] ?_)|simp -dsimp[hs]|refine i8 ?_ ?_<;>intro h<;>try simp only[i6] at h|with_reducible refine mV (fun h=>?_);(try simp only[List.map_eq_nil_iff] at h);(try subst h);try simp -dsimp[hs]|with_reducible refine And.intro ?_ ?_
   all_goals try clear hs
   ·have hend:K=(P.map (·.1)).filter g:=by rw[hK'];exact ub (by rw[← hl];assumption)
    rw[hP1] at hend
    have hget:∀ s∈A,R4 [.int .u8 s.kind,.int .i64 s.index] (V6 f K) [.im (.raw (.int .u8 0))]=[.im (.raw (.int .u8 (f s)))]:=fun s hs=>by
     rw[wY,hend]
     by_cases hf0:f s=0
     ·simp[hf0]
     ·rw[if_pos (List.mem_filter.2 ⟨hs,by rw[hg];simp[hf0]⟩)]
    have himE:List.map (fun x:List Value×List IC=>(x.1,List.map DC.im x.2)) (lY f K)=V6 f K:=CE f K
    clear hend hK' hl hg
    have hs:=trivial
    repeat' first|with_reducible refine zz ?_|simp -dsimp[hs]|refine zp c2 ?_
    all_goals try clear hs
    refine g9 (ι:={ p:Nat×Nat×Bool×Nat×Bool // p.1≤A.length }) (fun p=>⟨73,[(2,.one (.vec 1 p.1.2.1 0 ((A.take p.1.1).filter fun s=>decide (f s=2)).length)),(3,.one (.vec 2 p.1.2.2.2.1 0 ((A.take p.1.1).filter fun s=>decide (f s=1)).length)),(4,iv 0),(6,.one (.im (.mp [.int .u8,.int .i64] (lY f K)))),(48,.one (.im (.sl (A.map l5)))),(49,iv (A.length:Int)),(50,iv (p.1.1:Int))],[.row ((j4 c).map .im),.vec 2 (n4 (((A.take p.1.1).filter fun s=>decide (f s=2)).map l5)) p.1.2.1 p.1.2.2.1,.vec 2 (n4 (((A.take p.1.1).filter fun s=>decide (f s=1)).map l5)) p.1.2.2.2.1 p.1.2.2.2.2]⟩) (fun p=>A.length-p.1.1) ⟨(0,0,true,0,true),by simp⟩ (zw [2,3,4,6,48,49,50] 3 (by simp[n4])) ?_
    rintro⟨⟨k,ga,na,gb,nb⟩,hk1⟩
    simp only at hk1
    simp only[iv]
    by_cases hlt:k<A.length
    ·have hw:=zk k
     have hx0:A[k]?=some A[k]:=by simp[hlt]
     have hts:A.take (k+1)=A.take k++[A[k]]:=List.take_succ_eq_append_getElem hlt
     have hge:=hget A[k] (List.getElem_mem hlt)
     have hl1:=List.length_filter_le (fun s=>decide (f s=2)) (A.take k)
     have hl2:=List.length_filter_le (fun s=>decide (f s=1)) (A.take k)
     have hr:=hfr A[k]
     rw[List.length_take] at hl1 hl2
     generalize hx:A[k]=s at *
     have e2:(A.take (k+1)).filter (fun s=>decide (f s=2))=(A.take k).filter (fun s=>decide (f s=2))++(if f s=2 then [s] else []):=by
      rw[hts,List.filter_append];simp[List.filter_cons]
     have e1:(A.take (k+1)).filter (fun s=>decide (f s=1))=(A.take k).filter (fun s=>decide (f s=1))++(if f s=1 then [s] else []):=by
      rw[hts,List.filter_append];simp[List.filter_cons]
     generalize (A.take k).filter (fun s=>decide (f s=2))=L2 at *
     generalize (A.take k).filter (fun s=>decide (f s=1))=L1 at *
     have h3:f s=0∨f s=1∨f s=2:=by omega
     have hs:True:=trivial
     rcases h3 with h3|h3|h3
     all_goals
      rw[h3] at hge
      simp[h3] at e1 e2
      have hs:=za hx (za hx0 (za hlt (za hw (za hge himE))))
      repeat' first|(with_reducible first|refine zz ?_|refine And.intro (by omega) ?_|refine zE [0,1,2,3,4,5,6,8,9,10,12,13,20,24,25,26,27,37,39,44,48,49,50,51,57,58,64] ?_)|simp -dsimp[hs]|refine i8 ?_ ?_<;>intro h<;>try simp only[i6] at h
      all_goals try clear hs
     ·all_goals exact zn ⟨(k+1,ga,na,gb,nb),by simp only;omega⟩ (zw [2,3,4,6,48,49,50] 3 (by simp[e1,e2]))
     ·all_goals exact zn ⟨(k+1,ga,na,gb+1,false),by simp only;omega⟩ (zw [2,3,4,6,48,49,50] 3 (by simp[e1,e2]))
     ·all_goals exact zn ⟨(k+1,ga+1,false,gb,nb),by simp only;omega⟩ (zw [2,3,4,6,48,49,50] 3 (by simp[e1,e2]))
    ·obtain rfl:k=A.length:=by omega
     simp only[List.take_length]
     have hl1:=List.length_filter_le (fun s=>decide (f s=2)) A
     have hl2:=List.length_filter_le (fun s=>decide (f s=1)) A
     generalize A.filter (fun s=>decide (f s=2))=L2 at *
     generalize A.filter (fun s=>decide (f s=1))=L1 at *
     have hs:=hlt
     repeat' first|(with_reducible first|refine zz ?_|refine zr ?_|refine zE [0,1,2,3,4,5,6,8,9,10,12,13,20,24,25,26,27,37,39,44,48,49,50,51,57,58,64] ?_)|simp -dsimp[hs]|refine i8 ?_ ?_<;>intro h<;>try simp only[i6] at h
     all_goals try clear hs
     all_goals simp
   ·intro i s xa xb hx hs1 hns
    obtain⟨y,hy,rfl,rfl⟩:=uv hx
    have hgP:(Q1 g P seen)[i]?=some (y,s):=by
     rw[hK',List.getElem?_map,Option.map_eq_some_iff] at hy
     rw[hl,List.getElem?_map,Option.map_eq_some_iff] at hs1
     obtain⟨p,hp1,hp2⟩:=hy
     obtain⟨q,hq1,hq2⟩:=hs1
     rw[hp1] at hq1
     cases hq1
     rw[hp1,← hp2,← hq2]
    have hmem:(y,s)∈P:=(List.mem_filter.1 (List.mem_of_getElem? hgP)).1
    have hlt2:=yX hmem hns
    have hln2:l.Nodup:=by rw[hl];exact(hPn.sublist ((List.filter_sublist).map _))
    have hKn:K.Nodup:=by rw[hK'];exact(hAnP.sublist ((List.filter_sublist).map _))
    have hidx:=mY hln2 hs1
    have hmi:=qE (f:=f) hKn hy
    have hmd:=Cs (f:=f) hKn hy
    by_cases hf0:f y=0
    ·have hfy:g y=false:=by rw[hg];simp[hf0]
     have hd:=uc (f:=g) hPn hgP hfy
     have hl2:l.eraseIdx i=(Q1 g P (seen++[s])).map (·.2):=by rw[hd,jM,← hl]
     have hK2:K.eraseIdx i=(Q1 g P (seen++[s])).map (·.1):=by rw[hd,jM,← hK']
     rw[hf0] at hx
     have hs:=za hx (za hidx (za hf0 (za hmi hmd)))
     repeat' first|(with_reducible first|refine zz ?_|refine zE [0,1,2,3,4,5,6,8,9,10,12,13,20,24,25,26,27,37,39,44,48,49,50,51,57,58,64] ?_)|simp -dsimp[hs]|refine i8 ?_ ?_<;>intro h<;>try simp only[i6] at h
     all_goals try clear hs
     all_goals exact At.round ⟨(seen++[s],l.eraseIdx i,K.eraseIdx i),hl2,hK2⟩ hlt2 (zw [1,2,3,4,6,37] 5)
    ·have hfy:g y=true:=by rw[hg];simp[hf0]
     have hd:=qL (f:=g) (seen:=seen) hPn hmem hfy
     have hl2:l=(Q1 g P (seen++[s])).map (·.2):=by rw[hd,← hl]
     have hK2:K=(Q1 g P (seen++[s])).map (·.1):=by rw[hd,← hK']
     have hs:=za hx (za hidx (za hf0 (za hmi hmd)))
     repeat' first|(with_reducible first|refine zz ?_|refine zE [0,1,2,3,4,5,6,8,9,10,12,13,20,24,25,26,27,37,39,44,48,49,50,51,57,58,64] ?_)|simp -dsimp[hs]|refine i8 ?_ ?_<;>intro h<;>try simp only[i6] at h
     all_goals try clear hs
     all_goals exact At.round ⟨(seen++[s],l,K),hl2,hK2⟩ hlt2 (zw [1,2,3,4,6,37] 5)
 ·have hO:∀ k,co c k=[]:=fun k=>by unfold co;rw[if_neg h0]
  rw[hO,hO]
  simp only[m6,j4,B5,l5,cp,rI,List.map_cons,List.map_nil] at c1 ⊢
  have hs:=h0
  repeat' first|(with_reducible first|refine zz ?_|refine zr ?_|refine zE [0,1,2,3,4,5,6,8,9,10,12,13,20,24,25,26,27,37,39,44,48,49,50,51,57,58,64] ?_)|simp -dsimp[hs]|refine zp c1 ?_|refine i8 ?_ ?_<;>intro h<;>try simp only[i6] at h
  all_goals try clear hs
attribute [simp] D6 lD E8 N8 nilV bu ZK
theorem nV (c:Case) (hk:KC c):zP prog G 22 [m6 c] (.tup [R9 (co c 2),R9 (co c 1),iv (P2 c)]):=by
 refine zf func22 ntmps22 ?_
 try simp only[iv]
 have c1:=eu (G:=G) c hk
 have hq:=hk.q
 by_cases h0:P2 c=0
 ·have c2:=BW (G:=G) c (by omega)
  rw[h0] at c1
  have c3:=fun s (h:s∈bO c.pieces.length)=>jy (G:=G) c s (sV h).1 (bb h0).1 hk
  have hO:∀ k,co c k=(bO c.pieces.length).filter fun s=>decide (xh c s=k):=fun k=>by unfold co;rw[if_pos h0];rfl
  rw[h0,hO,hO]
  have hfr:=lO c
  have hfe:∀ s,Q2 (E9 c) s=xh c s:=fun s=>rfl
  simp only[hfe] at c3
  have hAl:=kD c.pieces.length
  clear hfe hO
  generalize xh c=f at *
  generalize bO c.pieces.length=A at *
  simp only[m6,j4,B5,l5,R9,rI,List.map_cons,List.map_nil] at c1 c2 c3 ⊢
  have hs:=trivial
  repeat' first|(with_reducible first|refine zz ?_|refine zE [0,1,2,3,4,5,6,7,8,9,13,20,28,29,38] ?_)|simp -dsimp[hs]|refine zp c1 ?_|refine zp c2 ?_|refine i8 ?_ ?_<;>intro h<;>try simp only[i6] at h
  all_goals try clear hs
  refine g9 (ι:={ p:Nat×Nat×Bool×Nat×Bool // p.1≤A.length }) (fun p=>⟨49,[(1,.one (.ptr 0 0)),(6,.one (.vec 3 p.1.2.1 0 ((A.take p.1.1).filter fun s=>decide (f s=2)).length)),(7,.one (.vec 4 p.1.2.2.2.1 0 ((A.take p.1.1).filter fun s=>decide (f s=1)).length)),(8,.one (.im (.sl (A.map l5)))),(9,iv (p.1.1:Int))],[.row ((j4 c).map .im),.vec 2 [] 0 true,.vec 2 [] 0 true,.vec 2 (n4 (((A.take p.1.1).filter fun s=>decide (f s=2)).map l5)) p.1.2.1 p.1.2.2.1,.vec 2 (n4 (((A.take p.1.1).filter fun s=>decide (f s=1)).map l5)) p.1.2.2.2.1 p.1.2.2.2.2]⟩) (fun p=>A.length-p.1.1) ⟨(0,0,true,0,true),by simp⟩ (zv [1,6,7,8,9] (by simp[n4])) ?_
  rintro⟨⟨k,ga,na,gb,nb⟩,hk1⟩
  simp only at hk1
  simp only[iv]
  by_cases hlt:k<A.length
  ·have hlt':(k:Int)<A.length:=by omega
   have hw:=zk k
   have hx0:A[k]?=some A[k]:=by simp[hlt]
   have hts:A.take (k+1)=A.take k++[A[k]]:=List.take_succ_eq_append_getElem hlt
   have c4:=c3 A[k] (List.getElem_mem hlt)
   have hl1:=List.length_filter_le (fun s=>decide (f s=2)) (A.take k)
   have hl2:=List.length_filter_le (fun s=>decide (f s=1)) (A.take k)
   have hr:=hfr A[k]
   rw[List.length_take] at hl1 hl2
   generalize hx:A[k]=s at *
   have e2:(A.take (k+1)).filter (fun s=>decide (f s=2))=(A.take k).filter (fun s=>decide (f s=2))++(if f s=2 then [s] else []):=by
    rw[hts,List.filter_append];simp[List.filter_cons]
   have e1:(A.take (k+1)).filter (fun s=>decide (f s=1))=(A.take k).filter (fun s=>decide (f s=1))++(if f s=1 then [s] else []):=by
    rw[hts,List.filter_append];simp[List.filter_cons]
   generalize (A.take k).filter (fun s=>decide (f s=2))=L2 at *
   generalize (A.take k).filter (fun s=>decide (f s=1))=L1 at *
   have h3:f s=0∨f s=1∨f s=2:=by omega
   have hs:True:=trivial
   rcases h3 with h3|h3|h3
   all_goals
    rw[h3] at c4
    simp[h3] at e1 e2
    have hs:=za hx (za hx0 (za hlt (za hlt' hw)))
    repeat' first|(with_reducible first|refine zz ?_|refine And.intro (by omega) ?_)|simp -dsimp[hs]|refine zq c4 ?_|refine zM 9 49 6 [0,1,2,3,4,5,6,7,8,9,13,20,28,29,38] ?_|with_reducible refine zE [0,1,2,3,4,5,6,7,8,9,13,20,28,29,38] ?_|refine i8 ?_ ?_<;>intro h<;>try simp only[i6] at h
    all_goals try clear hs
   ·all_goals exact zn ⟨(k+1,ga,na,gb,nb),by simp only;omega⟩ (zw [1,6,7,8,9] 5 (by simp[e1,e2]))
   ·all_goals exact zn ⟨(k+1,ga,na,gb+1,false),by simp only;omega⟩ (zw [1,6,7,8,9] 5 (by simp[e1,e2]))
   ·all_goals exact zn ⟨(k+1,ga+1,false,gb,nb),by simp only;omega⟩ (zw [1,6,7,8,9] 5 (by simp[e1,e2]))
  ·obtain rfl:k=A.length:=by omega
   have hlt':¬ (A.length:Int)<A.length:=by omega
   simp only[List.take_length]
   have hl1:=List.length_filter_le (fun s=>decide (f s=2)) A
   have hl2:=List.length_filter_le (fun s=>decide (f s=1)) A
   generalize A.filter (fun s=>decide (f s=2))=L2 at *
   generalize A.filter (fun s=>decide (f s=1))=L1 at *
   have hs:=za hlt hlt'
   repeat' first|(with_reducible first|refine zz ?_|refine zr ?_|refine zE [0,1,2,3,4,5,6,7,8,9,13,20,28,29,38] ?_)|simp -dsimp[hs]|refine i8 ?_ ?_<;>intro h<;>try simp only[i6] at h
   all_goals try clear hs
   all_goals simp
 ·have hO:∀ k,co c k=[]:=fun k=>by unfold co;rw[if_neg h0]
  rw[hO,hO]
  simp only[m6,j4,B5,l5,cp,rI,List.map_cons,List.map_nil] at c1 ⊢
  have hs:=h0
  repeat' first|(with_reducible first|refine zz ?_|refine zr ?_|refine zE [0,1,2,3,4,5,6,7,8,9,13,20,28,29,38] ?_)|simp -dsimp[hs]|refine zp c1 ?_|refine i8 ?_ ?_<;>intro h<;>try simp only[i6] at h
  all_goals try clear hs
theorem lC (l:List Susp) (hl:l.length<100000):zP prog G 23 [R9 l,R9 l] (bv true):=by
 refine zf func23 ntmps23 ?_
 try simp only[iv]
 simp only[R9]
 have hs:=trivial
 repeat' first|(with_reducible first|refine zz ?_|refine zE [0,1,4,5,10,14,25] ?_)|simp -dsimp[hs]|refine i8 ?_ ?_<;>intro h<;>try simp only[i6] at h
 refine g9 (ι:={ k:Nat // k≤l.length }) (fun p=>⟨26,[(0,.one (.im (.sl (l.map l5)))),(1,.one (.im (.sl (l.map l5)))),(5,iv (p.1:Int))],[]⟩) (fun p=>l.length-p.1) ⟨0,by simp⟩ (zv [0,1,5]) ?_
 rintro⟨k,hk⟩
 simp only[iv]
 by_cases hlt:k<l.length
 ·have hlt':(k:Int)<l.length:=by omega
  have hw:=zk k
  generalize hx:l[k]=x at *
  have hs:=za hx (za hlt (za hlt' hw))
  repeat' first|with_reducible refine zz ?_|simp -dsimp[hs]|refine zM 6 26 9 [0,1,4,5,10,14,25] ?_|with_reducible refine zE [0,1,4,5,10,14,25] ?_|refine i8 ?_ ?_<;>intro h<;>try simp only[i6] at h
  all_goals exact zn ⟨k+1,by omega⟩ (zv [0,1,5])
 ·obtain rfl:k=l.length:=by omega
  have hlt':¬ (l.length:Int)<l.length:=by omega
  have hs:=za hlt hlt'
  repeat' first|(with_reducible first|refine zz ?_|refine zr ?_|refine zE [0,1,4,5,10,14,25] ?_)|simp -dsimp[hs]|refine i8 ?_ ?_<;>intro h<;>try simp only[i6] at h
attribute [simp] D6 lD E8 N8 nilV bu ZK
theorem nK (c:Case) (k:Int) (hq:c.pieces.length≤16):(co c k).length<100000:=by
 unfold co
 split
 ·have h1:=List.length_filter_le (fun s=>decide (xh c s=k)) (bO c.pieces.length)
  have h2:=kD c.pieces.length
  unfold Dy;omega
 ·simp
theorem nv (c:Case) (t:List Int) (s:Susp) (hG:s6 G) (hN:M7 G) (hS:C8 G) (hU:gi G) (hR:F0 G) (hC:V9 G) (hK:eD G) (hp:pC c.p) (h1:0≤s.kind∧s.kind≤255):zP prog G 3 [m6 c,n7 t,B5 s] (bv true):=by
 refine zf func3 ntmps3 ?_
 try simp only[n7]
 have c1:=um (G:=G) c
 cases hq:fe c
 ·rw[hq] at c1
  have hs:=trivial
  repeat' first|(with_reducible first|refine zz ?_|refine zr ?_|refine zE [0,1,2,3,5,6,7,8,9,10,11,12,13,14,15,16,17,18,19,20,21,22,29] ?_)|simp -dsimp[hs]|refine zp c1 ?_|refine i8 ?_ ?_<;>intro h<;>try simp only[i6] at h
 ·obtain⟨hsk,hk⟩:=Fb hp hq
  rw[hq] at c1
  by_cases hl:40<t.length
  ·have hli:(40:Int)<t.length:=by omega
   have hs:=hli
   repeat' first|(with_reducible first|refine zz ?_|refine zr ?_|refine zE [0,1,2,3,5,6,7,8,9,10,11,12,13,14,15,16,17,18,19,20,21,22,29] ?_)|simp -dsimp[hs]|refine zp c1 ?_|refine i8 ?_ ?_<;>intro h<;>try simp only[i6] at h
  ·have hli:¬ (40:Int)<t.length:=by omega
   have htl:t.length<1000:=by omega
   have c2:=vP (G:=G) c hsk
   have c3:=Db (G:=G) c t s h1 htl hG hN hS hR hC hK hk
   have c4:=zL (G:=G) c t s htl hk
   have c5:=yn (G:=G) c s h1 hG hN hS hR hC hK hk
   have c6:=qp (G:=G) c s hk
   have c7:=pw (G:=G) c hG hN hS hU hR hC hK hk
   have c8:=nV (G:=G) c hk
   have c9:=wi (G:=G) c hsk
   have c10:=js (G:=G) t t (by omega)
   simp only[decide_true] at c10
   have c11:=lC (G:=G) (co c 2) (nK c 2 hk.q)
   have c12:=lC (G:=G) (co c 1) (nK c 1 hk.q)
   generalize bw c t s=A1 at *
   generalize iG c t s=A2 at *
   generalize eC c s=A3 at *
   generalize iH c s=A4 at *
   generalize co c 2=A5 at *
   generalize co c 1=A6 at *
   generalize P2 c=A7 at *
   simp only[m6,j4,B5,l5,R9,rI,List.map_cons,List.map_nil] at c1 c2 c3 c4 c5 c6 c7 c8 c9 c11 c12 ⊢
   have hs:=hli
   repeat' first|(with_reducible first|refine zz ?_|refine And.intro (by omega) ?_|refine zr ?_|refine zE [0,1,2,3,5,6,7,8,9,10,11,12,13,14,15,16,17,18,19,20,21,22,29] ?_)|simp -dsimp[hs]|refine zp c1 ?_|refine zp c2 ?_|refine zt c3 ?_ ?_ ?_;(focus simp;done);focus (simp;done)|refine zp c4 ?_|refine zp c5 ?_|refine zp c6 ?_|refine zp c7 ?_|refine zp c8 ?_|refine zp c9 ?_|refine zt c10 ?_ ?_ ?_;(focus simp;done);focus (simp;done)|refine zp c11 ?_|refine zp c12 ?_|refine i8 ?_ ?_<;>intro h<;>try simp only[i6] at h
end Go.Proofs
namespace Go.Ab
open Go Go.Sort
theorem RelM.grownS {G:GW} {M:MS} {w':World} {os:Array Obj} (h:RelM G M) (hw:w'.heap=M.w.heap++os) (hio:SameIo M.w w'):RelM G { M with w:=w' }∧Ext M.objs.length M { M with w:=w' }:=by
 have hold:∀ {b:Nat},b<M.w.heap.size→w'.heap[b]?=M.w.heap[b]?:=fun {b} hb=>by rw[hw];simp[Array.getElem?_append,hb]
 have hsz:M.w.heap.size≤w'.heap.size:=by rw[hw];simp
 have he:Ext M.objs.length M { M with w:=w' }:=
  ⟨Nat.le_refl _,fun b hb=>⟨⟨Nat.lt_of_lt_of_le hb.1 hsz,hb.2⟩,hold hb.1⟩,cj M,hsz,fun p _ c' hc=>⟨⟨c',hc⟩,rfl⟩,
   fun p _ sz es g nl hv=>⟨sz,es,g,nl,hv,Nat.le_refl _,fun _=>⟨rfl,rfl,fun hn=>⟨rfl,by simp only[H5];rw[hold (h.lt p _ hv (by simp[DObj.blk,hn]))]⟩⟩⟩,fun p _ ks es hm=>⟨⟨ks,es,hm⟩,rfl⟩,
   fun p _ r hm=>⟨⟨r,hm⟩,rfl⟩,fun p _ d hm hi=>⟨⟨d,hm,hi⟩,rfl⟩,fun p _ r hm=>⟨⟨r,hm⟩,rfl⟩,hio⟩
 exact⟨⟨fun o d ho=>(h.objs o d ho).ext he (fun _=>rfl) (fun hb=>hold (h.lt o d ho hb)),fun o d ho hb=>Nat.lt_of_lt_of_le (h.lt o d ho hb) hsz,h.inj,fun g l hg=>(h.glob g l hg).mono he.ok,fun b hF=>Nat.lt_of_lt_of_le (h.fl b hF) hsz,h.own⟩,he⟩
theorem mH {l:List Int} {c:Array Value} {i:Nat} (hi:i<l.length) (hc:i<c.size):(putCells (Value.int .i64) 0 l.toArray c)[i]?=some (.int .i64 l[i]):=by
 simp only[putCells,Array.getElem?_mapIdx,Array.getElem?_eq_getElem hc,Option.map_some]
 rw[if_pos ⟨Nat.zero_le _,by simpa using hi⟩]
 simp[hi]
theorem DCall.sort {P:Program} {G:GW} {f:FuncId}
 (hS:∀ (blk cap:Nat) (zs:List Int) (w:World),Holds (Value.int .i64) w blk 0 zs.toArray→blk<w.heap.size→zs.length<4611686018427387904 →
  Calls P f #[.slice (some ⟨blk,0,none⟩) zs.length cap] w fun e w'=>e=.returned (.tuple #[])∧∃ n os,w'=grow (putRow (Value.int .i64) (Sort.ahead w n) blk 0 (zs.mergeSort fun x y=>decide (x≤y)).toArray) os)
 (h0:∀ (a:Option Addr) (cap:Nat) (w:World),Calls P f #[.slice a 0 cap] w fun e w'=>e=.returned (.tuple #[])∧w'=w)
 (l:List Int) (g sz:Nat) (nl:Bool) (hz:sz=1∨nl=true∧l=[]) (hl:l.length<1000000) :
 DCall P G f [.one (.vec 0 g 0 l.length)] [.vec sz (n4 (l.map l7)) g nl] (fun d o=>d=.tup []∧o=[.vec sz (n4 ((j8 l).map l7)) g nl]):=by
 intro M vs hM ho hsz hr
 obtain⟨v,rfl⟩:∃ v,vs=#[v]:=by
  obtain⟨vl⟩:=vs
  match vl,hsz with
  | [v],_=>exact⟨v,rfl⟩
 have hv:=hr 0 _ v rfl rfl
 have h1:M.objs[0]?=some (.vec sz (n4 (l.map l7)) g nl):=by rw[ho];rfl
 have hO:=hM.objs 0 _ h1
 cases hv with
 | one _ _ hv =>
 cases hv with
 | vec _ _ _ _ _ _ _ hv =>
 obtain⟨_,hv⟩:=hv _ _ _ _ h1
 obtain⟨hvt,hvf⟩:=hv rfl
 have hnil:∀ (a:Option Addr) (cap:Nat),l=[]→Calls P f #[.slice a 0 cap] M.w fun e w'=>∃ v d M',e=.returned v∧M'.w=w'∧RelM G M'∧RepV M' d v∧Ext 1 M M'∧d=.tup []∧M'.objs=[.vec sz (n4 ((j8 l).map l7)) g nl]:=fun a cap hle=>by
  refine(h0 a cap M.w).mono fun e w' ⟨he,hw⟩=>?_
  subst hw
  refine⟨_,.tup [],M,he,rfl,hM,.tup _ _ rfl (fun j d v h=>by simp at h),(Ext.refl M).weaken (by simp[ho]),rfl,?_⟩
  rw[ho,hle,show j8 []=[] from List.mergeSort_nil]
 cases nl with
 | true =>
   obtain⟨_,e,hv⟩:=hvt rfl
   have e:l=[]:=List.eq_nil_of_length_eq_zero e
   have:=hnil none 0 e
   rw[hv];simpa using this
 | false =>
   obtain rfl:sz=1:=hz.resolve_right fun h=>Bool.noConfusion h.1
   obtain⟨x,cap,hv,hc,hx,hb⟩:=hvf rfl
   by_cases e:l=[]
   ·have:=hnil (some ⟨M.β 0,x,none⟩) cap e
    rw[hv];subst e;simpa using this
   have hlp:0<l.length:=List.length_pos_iff.2 e
   have hx0:x=0:=by rcases hx with hx|hx<;>omega
   subst hx0
   obtain⟨_,hO⟩:=hO
   obtain⟨_,c,T,hh,hcs,hes,hrep⟩:=hO rfl
   have hcl:l.length≤c.size:=by simpa[o2] using hcs
   have hcell:∀ j (hj:j<l.length),c[j]?=some (.int .i64 l[j]):=fun j hj=>by
    have hjc:j<c.size:=by omega
    have:=hrep j [DC.im (.raw (.int .i64 l[j]))] 0 (.im (.raw (.int .i64 l[j]))) c[j] (by simp[n4,hj]) rfl (by simp[hjc])
    have hcj:c[j]?=some c[j]:=by simp[hjc]
    generalize c[j]=y at this hcj
    cases this with
    | im _ _ hi =>
      cases hi
      exact hcj
   have hH:Holds (Value.int .i64) M.w (M.β 0) 0 l.toArray:=fun j hj=>by
    have hj:j<l.length:=by simpa using hj
    refine⟨?_,?_⟩
    ·simp only[World.cell?,hh]
     simp[hcell j hj,hj]
    ·simp[World.frozen?,hh]
   have hlt:M.β 0<M.w.heap.size:=hM.lt 0 _ h1 rfl
   rw[hv]
   refine(hS (M.β 0) cap l M.w hH hlt (by omega)).mono fun e' w' ⟨he,n,os,hw⟩=>?_
   have hmod:M.w.heap.modify (M.β 0) (onCells (putCells (Value.int .i64) 0 (j8 l).toArray))=M.w.heap.setIfInBounds (M.β 0) (.cells (putCells (Value.int .i64) 0 (j8 l).toArray c) T (0,0)):=by
    apply Array.ext_getElem?
    intro k
    simp only[Array.getElem?_modify,Array.getElem?_setIfInBounds]
    by_cases hk:M.β 0=k
    ·subst hk;rw[if_pos rfl,if_pos rfl,if_pos hlt,hh];rfl
    ·simp[hk]
   have ha:(DObj.vec 1 (n4 (l.map l7)) g false).alike (.vec 1 (n4 ((j8 l).map l7)) g false):=⟨rfl,.inl ⟨rfl,rfl⟩⟩
   have hs:K6 (.cells (putCells (Value.int .i64) 0 (j8 l).toArray c) T (0,0))=K6 (.cells c T (0,0)):=by simp[K6,putCells]
   have hE:=Ext.turn (d':=.vec 1 (n4 ((j8 l).map l7)) g false) h1 rfl ha hh hs
   have hR:=RelM.turn (d':=.vec 1 (n4 ((j8 l).map l7)) g false) hM h1 rfl ha hh hs (by
    refine⟨fun h=>Bool.noConfusion h,fun _=>⟨by omega,putCells (Value.int .i64) 0 (j8 l).toArray c,T,by simp[MS.turn,Array.getElem?_setIfInBounds_self_of_lt hlt],by simpa[o2,L8,putCells] using hcl,fun i x hx=>?_,fun i x j d v hx hj hv=>?_⟩⟩
    ·simp only[n4,List.getElem?_map,Option.map_map] at hx
     obtain⟨y,_,rfl⟩:=Option.map_eq_some_iff.1 hx
     rfl
    ·simp only[n4,List.getElem?_map,Option.map_map] at hx
     obtain⟨y,hy,rfl⟩:=Option.map_eq_some_iff.1 hx
     have hil:i<(j8 l).length:=e7 hy
     match j,hj with
     | 0,hj =>
       cases hj
       have hic:i<c.size:=by rw[L8] at hil;omega
       rw[Nat.mul_one,Nat.add_zero,mH hil hic] at hv
       have e:(j8 l)[i]'hil=y:=(List.getElem?_eq_some_iff.1 hy).2
       cases hv
       rw[e]
       exact .im _ _ (.raw _ rfl))
   have hg:=RelM.grownS (w':=w') (os:=os) hR (by rw[hw];simp only[grow,putRow,mapBlock,Sort.ahead,MS.turn];rw[show (l.mergeSort fun x y=>decide (x≤y))=j8 l from rfl,hmod]) (by rw[hw];exact⟨rfl,rfl,rfl,Nat.le_add_right _ _⟩)
   refine⟨_,.tup [],_,he,?_,hg.1,.tup _ _ rfl (fun j d v h=>by simp at h),?_,rfl,?_⟩
   ·rfl
   ·have hl1:M.objs.length=1:=by rw[ho];rfl
    have h2:=hg.2
    rw[show (M.turn 0 (.cells (putCells (Value.int .i64) 0 (j8 l).toArray c) T (0,0)) (.vec 1 (n4 ((j8 l).map l7)) g false)).objs.length=1 by simp[MS.turn,ho]] at h2
    rw[hl1] at hE
    exact hE.trans h2
   ·simp[MS.turn,ho]
end Go.Ab
namespace Go.Proofs
open Go.Shelf
def Tryz.laysSort_ren:Go.Shelf.Ren:=⟨fun|189=>173|125=>201|257=>221|128=>249|129=>250|294=>270|295=>271|296=>272|297=>273|298=>274|299=>275|216=>196|300=>276|301=>277|328=>302|329=>286|330=>287|331=>303|332=>304|215=>239|343=>314|n=>n,fun|28=>40|3=>3|46=>287|0=>0|51=>157|53=>335|4=>4|183=>328|182=>327|131=>154|5=>5|9=>9|218=>363|222=>367|228=>390|229=>391|n=>n,fun|n=>n⟩
theorem Tryz.laysSort:Go.Proofs.Lays.n189 Tryz.prog Tryz.laysSort_ren:={
 mixed:=by kernel_rfl
 f125:=Tryz.func201.trans (congrArg some (by kernel_rfl))
 f128:=Tryz.func249.trans (congrArg some (by kernel_rfl))
 f129:=Tryz.func250.trans (congrArg some (by kernel_rfl))
 f189:=Tryz.func173.trans (congrArg some (by kernel_rfl))
 f215:=Tryz.func239.trans (congrArg some (by kernel_rfl))
 f216:=Tryz.func196.trans (congrArg some (by kernel_rfl))
 f257:=Tryz.func221.trans (congrArg some (by kernel_rfl))
 f294:=Tryz.func270.trans (congrArg some (by kernel_rfl))
 f295:=Tryz.func271.trans (congrArg some (by kernel_rfl))
 f296:=Tryz.func272.trans (congrArg some (by kernel_rfl))
 f297:=Tryz.func273.trans (congrArg some (by kernel_rfl))
 f298:=Tryz.func274.trans (congrArg some (by kernel_rfl))
 f299:=Tryz.func275.trans (congrArg some (by kernel_rfl))
 f300:=Tryz.func276.trans (congrArg some (by kernel_rfl))
 f301:=Tryz.func277.trans (congrArg some (by kernel_rfl))
 f328:=Tryz.func302.trans (congrArg some (by kernel_rfl))
 f329:=Tryz.func286.trans (congrArg some (by kernel_rfl))
 f330:=Tryz.func287.trans (congrArg some (by kernel_rfl))
 f331:=Tryz.func303.trans (congrArg some (by kernel_rfl))
 f332:=Tryz.func304.trans (congrArg some (by kernel_rfl))
 f343:=Tryz.func314.trans (congrArg some (by kernel_rfl))
 t0:=Tryz.underlying0
 a0:=Tryz.isAgg0
 z0:=Tryz.sizeOf0
 v0:=Tryz.zeroValue0
 t3:=Tryz.underlying3
 a3:=Tryz.isAgg3
 z3:=Tryz.sizeOf3
 v3:=Tryz.zeroValue3
 t4:=Tryz.underlying4
 a4:=Tryz.isAgg4
 z4:=Tryz.sizeOf4
 v4:=Tryz.zeroValue4
 t5:=Tryz.underlying5
 a5:=Tryz.isAgg5
 z5:=Tryz.sizeOf5
 v5:=Tryz.zeroValue5
 t9:=Tryz.underlying9
 a9:=Tryz.isAgg9
 z9:=Tryz.sizeOf9
 v9:=Tryz.zeroValue9
 t28:=Tryz.underlying40
 a28:=Tryz.isAgg40
 z28:=Tryz.sizeOf40
 v28:=Tryz.zeroValue40
 t46:=Tryz.underlying287
 a46:=Tryz.isAgg287
 z46:=Tryz.sizeOf287
 v46:=Tryz.zeroValue287
 t51:=Tryz.underlying157
 a51:=Tryz.isAgg157
 z51:=Tryz.sizeOf157
 v51:=Tryz.zeroValue157
 t53:=Tryz.underlying335
 a53:=Tryz.isAgg335
 z53:=Tryz.sizeOf335
 v53:=Tryz.zeroValue335
 t131:=Tryz.underlying154
 a131:=Tryz.isAgg154
 z131:=Tryz.sizeOf154
 v131:=Tryz.zeroValue154
 t182:=Tryz.underlying327
 a182:=Tryz.isAgg327
 z182:=Tryz.sizeOf327
 v182:=Tryz.zeroValue327
 t183:=Tryz.underlying328
 a183:=Tryz.isAgg328
 z183:=Tryz.sizeOf328
 v183:=Tryz.zeroValue328
 t218:=Tryz.underlying363
 a218:=Tryz.isAgg363
 z218:=Tryz.sizeOf363
 v218:=Tryz.zeroValue363
 t222:=Tryz.underlying367
 a222:=Tryz.isAgg367
 z222:=Tryz.sizeOf367
 v222:=Tryz.zeroValue367
 t228:=Tryz.underlying390
 a228:=Tryz.isAgg390
 z228:=Tryz.sizeOf390
 v228:=Tryz.zeroValue390
 t229:=Tryz.underlying391
 a229:=Tryz.isAgg391
 z229:=Tryz.sizeOf391
 v229:=Tryz.zeroValue391 }
end Go.Proofs
namespace Go.Proofs
open Go Go.Ab
theorem BH (G:GW):C8 G:=fun l g sz nl hz hl =>
 DCall.sort (P:=Tryz.prog) (G:=G) (f:=173) (fun blk cap zs w hH hb hs=>Any.slices_Sort_int Tryz.laysSort blk 0 cap zs w hH hb hs) (fun a cap w=>Any.slices_Sort_int_none Tryz.laysSort a cap w) l g sz nl hz hl
end Go.Proofs
namespace Go.Proofs
open Go.Shelf
def Tryz.laysSus_ren:Go.Shelf.Ren:=⟨fun|6=>138|15=>201|14=>200|28=>249|29=>250|20=>241|21=>242|22=>243|23=>244|24=>245|25=>246|26=>247|27=>248|46=>285|47=>286|48=>287|49=>288|50=>289|57=>305|n=>n,fun|22=>52|24=>42|25=>140|3=>3|39=>287|0=>0|53=>157|55=>335|4=>4|46=>328|45=>327|50=>154|5=>5|9=>9|66=>363|70=>367|76=>390|77=>391|n=>n,fun|n=>n⟩
theorem Tryz.laysSus:Go.Proofs.SlLaysF0.n6 Tryz.prog Tryz.laysSus_ren:={
 mixed:=by kernel_rfl
 f6:=⟨Tryz.f138.name,by decide,Tryz.func138.trans (congrArg some (by kernel_rfl))⟩
 f14:=⟨Tryz.f200.name,by decide,Tryz.func200.trans (congrArg some (by kernel_rfl))⟩
 f15:=Tryz.func201.trans (congrArg some (by kernel_rfl))
 f20:=⟨Tryz.f241.name,by decide,Tryz.func241.trans (congrArg some (by kernel_rfl))⟩
 f21:=⟨Tryz.f242.name,by decide,Tryz.func242.trans (congrArg some (by kernel_rfl))⟩
 f22:=⟨Tryz.f243.name,by decide,Tryz.func243.trans (congrArg some (by kernel_rfl))⟩
 f23:=⟨Tryz.f244.name,by decide,Tryz.func244.trans (congrArg some (by kernel_rfl))⟩
 f24:=⟨Tryz.f245.name,by decide,Tryz.func245.trans (congrArg some (by kernel_rfl))⟩
 f25:=⟨Tryz.f246.name,by decide,Tryz.func246.trans (congrArg some (by kernel_rfl))⟩
 f26:=⟨Tryz.f247.name,by decide,Tryz.func247.trans (congrArg some (by kernel_rfl))⟩
 f27:=⟨Tryz.f248.name,by decide,Tryz.func248.trans (congrArg some (by kernel_rfl))⟩
 f28:=Tryz.func249.trans (congrArg some (by kernel_rfl))
 f29:=Tryz.func250.trans (congrArg some (by kernel_rfl))
 f46:=⟨Tryz.f285.name,by decide,Tryz.func285.trans (congrArg some (by kernel_rfl))⟩
 f47:=Tryz.func286.trans (congrArg some (by kernel_rfl))
 f48:=Tryz.func287.trans (congrArg some (by kernel_rfl))
 f49:=⟨Tryz.f288.name,by decide,Tryz.func288.trans (congrArg some (by kernel_rfl))⟩
 f50:=⟨Tryz.f289.name,by decide,Tryz.func289.trans (congrArg some (by kernel_rfl))⟩
 f57:=⟨Tryz.f305.name,by decide,Tryz.func305.trans (congrArg some (by kernel_rfl))⟩
 t0:=Tryz.underlying0
 a0:=Tryz.isAgg0
 z0:=Tryz.sizeOf0
 v0:=Tryz.zeroValue0
 t3:=Tryz.underlying3
 a3:=Tryz.isAgg3
 z3:=Tryz.sizeOf3
 v3:=Tryz.zeroValue3
 t4:=Tryz.underlying4
 a4:=Tryz.isAgg4
 z4:=Tryz.sizeOf4
 v4:=Tryz.zeroValue4
 t5:=Tryz.underlying5
 a5:=Tryz.isAgg5
 z5:=Tryz.sizeOf5
 v5:=Tryz.zeroValue5
 t9:=Tryz.underlying9
 a9:=Tryz.isAgg9
 z9:=Tryz.sizeOf9
 v9:=Tryz.zeroValue9
 t22:=Tryz.underlying52
 a22:=Tryz.isAgg52
 z22:=Tryz.sizeOf52
 v22:=Tryz.zeroValue52
 t25:=Tryz.underlying140
 a25:=Tryz.isAgg140
 z25:=Tryz.sizeOf140
 v25:=Tryz.zeroValue140
 t39:=Tryz.underlying287
 a39:=Tryz.isAgg287
 z39:=Tryz.sizeOf287
 v39:=Tryz.zeroValue287
 t45:=Tryz.underlying327
 a45:=Tryz.isAgg327
 z45:=Tryz.sizeOf327
 v45:=Tryz.zeroValue327
 t46:=Tryz.underlying328
 a46:=Tryz.isAgg328
 z46:=Tryz.sizeOf328
 v46:=Tryz.zeroValue328
 t50:=Tryz.underlying154
 a50:=Tryz.isAgg154
 z50:=Tryz.sizeOf154
 v50:=Tryz.zeroValue154
 t53:=Tryz.underlying157
 a53:=Tryz.isAgg157
 z53:=Tryz.sizeOf157
 v53:=Tryz.zeroValue157
 t55:=Tryz.underlying335
 a55:=Tryz.isAgg335
 z55:=Tryz.sizeOf335
 v55:=Tryz.zeroValue335
 t66:=Tryz.underlying363
 a66:=Tryz.isAgg363
 z66:=Tryz.sizeOf363
 v66:=Tryz.zeroValue363
 t70:=Tryz.underlying367
 a70:=Tryz.isAgg367
 z70:=Tryz.sizeOf367
 v70:=Tryz.zeroValue367
 t76:=Tryz.underlying390
 a76:=Tryz.isAgg390
 z76:=Tryz.sizeOf390
 v76:=Tryz.zeroValue390
 t77:=Tryz.underlying391
 a77:=Tryz.isAgg391
 z77:=Tryz.sizeOf391
 v77:=Tryz.zeroValue391 }
end Go.Proofs
namespace Go.Proofs
open Go Go.Ab Go.Sort
theorem Fm:SWO (fun x y:uW=>decide (oq x.1 y.1<0)) where
 irrefl x:=by
  rw[decide_eq_false_iff_not,fu];unfold cY;omega
 trans x y z h1 h2:=by
  rw[decide_eq_true_iff,fu] at *
  exact rC h1 h2
 ntrans x y z h1 h2:=by
  rw[decide_eq_false_iff_not,fu] at *
  unfold cY at *
  omega
theorem zu (G:GW):gi G:=fun l gn sz nl hz hl =>
 DCall.sortF (P:=Tryz.prog) (G:=G) (f:=138) (g:=86) sN 2 (by decide) (fun _=>rfl) (fun a b=>oq a.1 b.1) Fm (fun x y=>by have h:=zV (G:=fun _=>none) x.1 y.1 x.2 y.2;exact h)
  (fun α _ en hk h1 c hO blk cap d w hcmp hH hb hs=>AnyQ.slices_SortFunc Tryz.laysSus 2 Tryz.isAgg42 Tryz.sizeOf42 en hk h1 c hO 86 #[] blk 0 cap d w (by simp) hcmp hH hb hs)
  (fun a cap w=>AnyF.slices_SortFunc_none Tryz.laysSus a cap _ w) (.im (.fn (.func 86) []))
  (fun M v hv=>by
   cases hv with
   | im _ _ h=>cases h with
     | fn _ _ vs h1 _ =>
       have:vs=#[]:=Array.eq_empty_of_size_eq_zero (by simpa using h1.symm)
       rw[this]) l gn sz nl hz hl
end Go.Proofs
namespace Go.Proofs.YtjodaihiogfkbaaGreatDoor
open Go Go.Ab Go.ChangeShapes Go.WideShapes Go.ChangeAt Go.RowKit
def G6 (g:Nat):Option (List IC):=if g=5 then some [.fn (.func 357) [],.fn (.func 358) [],.fn (.func 359) [],.fn (.func 360) []] else if g=7 then some [.fn (.func 372) [],.fn (.func 373) [],.fn (.func 374) []] else if g=4 then some [.fn (.func 346) [],.fn (.func 347) [],.fn (.func 348) [],.fn (.func 349) [],.fn (.func 350) [],.fn (.func 351) [],.fn (.func 354) [],.fn (.func 356) []] else if g=6 then some [.fn (.func 364) [],.fn (.func 365) [],.fn (.func 366) [],.fn (.func 369) [],.fn (.func 370) []] else if g=1 then some [.raw .nilFunc,.fn (.func 339) [],.fn (.func 340) [],.fn (.func 343) []] else .none
theorem gSheet:Tryz.prog.globalNamed "blueline/sheet.checks" = some 5:=by kernel_rfl
theorem tSheet:(Tryz.prog.globals[5]?).map (·.type)=some 311:=by kernel_rfl
theorem gChain:Tryz.prog.globalNamed "blueline/chain.checks" = some 7:=by kernel_rfl
theorem tChain:(Tryz.prog.globals[7]?).map (·.type)=some 386:=by kernel_rfl
theorem gNote:Tryz.prog.globalNamed "blueline/note.checks" = some 4:=by kernel_rfl
theorem tNote:(Tryz.prog.globals[4]?).map (·.type)=some 257:=by kernel_rfl
theorem gRecall:Tryz.prog.globalNamed "blueline/recall.checks" = some 6:=by kernel_rfl
theorem tRecall:(Tryz.prog.globals[6]?).map (·.type)=some 380:=by kernel_rfl
theorem own:ownKnob Tryz.prog.godebug=.none:=by kernel_rfl
theorem mL:laidOutB Tryz.prog=true:=by kernel_rfl
theorem dt {W:World} {g:Nat} {fs:List FuncId} (h0:0<fs.length) (h:∀ (j:Nat) (f:FuncId),fs[j]?=some f→W.cell? ⟨g,j,.none⟩=some (.func (.func f) #[] #[])):RepI W (vC W) (.ip (fs.map fun f=>.fn (.func f) [])) (.pointer (some ⟨g,0,.none⟩)):=by
 have hb:g<W.heap.size:=aG (a:=⟨g,0,.none⟩) (h 0 fs[0] (by simp))
 refine .ip _ _ (fun j=>.func (.func (fs.getD j 0)) #[] #[]) rfl hb (fun j c hj=>?_) (fun j c hj=>?_)
 ·rw[List.getElem?_map,Option.map_eq_some_iff] at hj
  obtain⟨f,hf,rfl⟩:=hj
  have:=h j f hf
  simpa[hf] using this
 ·rw[List.getElem?_map,Option.map_eq_some_iff] at hj
  obtain⟨f,hf,rfl⟩:=hj
  simpa[hf] using RepI.fn (w:=W) (ok:=vC W) (.func f) [] #[] rfl (fun j c v h=>by simp at h)
theorem nO {W:World} (h:laidMetH Tryz.prog Rows.blameKnowsRow.laid W):∀ (j:Nat) (f:FuncId),[357,358,359,360][j]?=some f→W.cell? ⟨5,j,.none⟩=some (.func (.func f) #[] #[]):=by
 obtain⟨g,t,cs,fuel,p,hg,ht,hv,hd⟩:=h.funcs (n:= "blueline/sheet.checks") (List.mem_cons_self ..)
 obtain rfl:=Option.some.inj (gSheet.symm.trans hg)
 obtain rfl:=Option.some.inj (tSheet.symm.trans ht)
 intro j f hj
 rw[World.var?_cell hg hv j]
 exact Q5 (names:=[[98,108,117,101,108,105,110,101,47,115,104,101,101,116,46,99,104,101,99,107,115,36,49],[98,108,117,101,108,105,110,101,47,115,104,101,101,116,46,99,104,101,99,107,115,36,50],[98,108,117,101,108,105,110,101,47,115,104,101,101,116,46,99,104,101,99,107,115,36,51],[98,108,117,101,108,105,110,101,47,115,104,101,101,116,46,99,104,101,99,107,115,36,52]]) (fs:=[357,358,359,360]) Tryz.underlying311 Tryz.underlying310 rfl rfl Tryz.underlying309 (by kernel_rfl) (by kernel_rfl) rfl (by kernel_rfl) rfl hd j f hj
theorem pr {W:World} (h:laidMetH Tryz.prog Rows.blameKnowsRow.laid W):∀ (j:Nat) (f:FuncId),[372,373,374][j]?=some f→W.cell? ⟨7,j,.none⟩=some (.func (.func f) #[] #[]):=by
 obtain⟨g,t,cs,fuel,p,hg,ht,hv,hd⟩:=h.funcs (n:= "blueline/chain.checks") (List.mem_cons_of_mem _ (List.mem_cons_self ..))
 obtain rfl:=Option.some.inj (gChain.symm.trans hg)
 obtain rfl:=Option.some.inj (tChain.symm.trans ht)
 intro j f hj
 rw[World.var?_cell hg hv j]
 exact Q5 (names:=[[98,108,117,101,108,105,110,101,47,99,104,97,105,110,46,99,104,101,99,107,115,36,49],[98,108,117,101,108,105,110,101,47,99,104,97,105,110,46,99,104,101,99,107,115,36,50],[98,108,117,101,108,105,110,101,47,99,104,97,105,110,46,99,104,101,99,107,115,36,51]]) (fs:=[372,373,374]) Tryz.underlying386 Tryz.underlying385 rfl rfl Tryz.underlying384 (by kernel_rfl) (by kernel_rfl) rfl (by kernel_rfl) rfl hd j f hj
theorem qy {W:World} (h:laidMetH Tryz.prog Rows.blameKnowsRow.laid W):∀ (j:Nat) (f:FuncId),[346,347,348,349,350,351,354,356][j]?=some f→W.cell? ⟨4,j,.none⟩=some (.func (.func f) #[] #[]):=by
 obtain⟨g,t,cs,fuel,p,hg,ht,hv,hd⟩:=h.funcs (n:= "blueline/note.checks") (List.mem_cons_of_mem _ (List.mem_cons_of_mem _ (List.mem_cons_self ..)))
 obtain rfl:=Option.some.inj (gNote.symm.trans hg)
 obtain rfl:=Option.some.inj (tNote.symm.trans ht)
 intro j f hj
 rw[World.var?_cell hg hv j]
 exact Q5 (names:=[[98,108,117,101,108,105,110,101,47,110,111,116,101,46,99,104,101,99,107,115,36,49],[98,108,117,101,108,105,110,101,47,110,111,116,101,46,99,104,101,99,107,115,36,50],[98,108,117,101,108,105,110,101,47,110,111,116,101,46,99,104,101,99,107,115,36,51],[98,108,117,101,108,105,110,101,47,110,111,116,101,46,99,104,101,99,107,115,36,52],[98,108,117,101,108,105,110,101,47,110,111,116,101,46,99,104,101,99,107,115,36,53],[98,108,117,101,108,105,110,101,47,110,111,116,101,46,99,104,101,99,107,115,36,54],[98,108,117,101,108,105,110,101,47,110,111,116,101,46,99,104,101,99,107,115,36,55],[98,108,117,101,108,105,110,101,47,110,111,116,101,46,99,104,101,99,107,115,36,56]]) (fs:=[346,347,348,349,350,351,354,356]) Tryz.underlying257 Tryz.underlying256 rfl rfl Tryz.underlying254 (by kernel_rfl) (by kernel_rfl) rfl (by kernel_rfl) rfl hd j f hj
theorem mG {W:World} (h:laidMetH Tryz.prog Rows.blameKnowsRow.laid W):∀ (j:Nat) (f:FuncId),[364,365,366,369,370][j]?=some f→W.cell? ⟨6,j,.none⟩=some (.func (.func f) #[] #[]):=by
 obtain⟨g,t,cs,fuel,p,hg,ht,hv,hd⟩:=h.funcs (n:= "blueline/recall.checks") (List.mem_cons_of_mem _ (List.mem_cons_of_mem _ (List.mem_cons_of_mem _ (List.mem_cons_self ..))))
 obtain rfl:=Option.some.inj (gRecall.symm.trans hg)
 obtain rfl:=Option.some.inj (tRecall.symm.trans ht)
 intro j f hj
 rw[World.var?_cell hg hv j]
 exact Q5 (names:=[[98,108,117,101,108,105,110,101,47,114,101,99,97,108,108,46,99,104,101,99,107,115,36,49],[98,108,117,101,108,105,110,101,47,114,101,99,97,108,108,46,99,104,101,99,107,115,36,50],[98,108,117,101,108,105,110,101,47,114,101,99,97,108,108,46,99,104,101,99,107,115,36,51],[98,108,117,101,108,105,110,101,47,114,101,99,97,108,108,46,99,104,101,99,107,115,36,52],[98,108,117,101,108,105,110,101,47,114,101,99,97,108,108,46,99,104,101,99,107,115,36,53]]) (fs:=[364,365,366,369,370]) Tryz.underlying380 Tryz.underlying379 rfl rfl Tryz.underlying377 (by kernel_rfl) (by kernel_rfl) rfl (by kernel_rfl) rfl hd j f hj
theorem gKinds:Tryz.prog.globalNamed "blueline/blame.kinds" = some 1:=by kernel_rfl
theorem tKinds:(Tryz.prog.globals[1]?).map (·.type)=some 211:=by kernel_rfl
theorem mM {W:World} (h:laidMetH Tryz.prog Rows.blameKnowsRow.laid W):∀ (j:Nat) (v:Value),[Value.nilFunc,.func (.func 339) #[] #[],.func (.func 340) #[] #[],.func (.func 343) #[] #[]][j]?=some v→W.cell? ⟨1,j,.none⟩=some v:=by
 obtain⟨g,t,cs,fuel,p,hg,ht,hv,hd⟩:=h.funcs (n:= "blueline/blame.kinds") (List.mem_cons_of_mem _ (List.mem_cons_of_mem _ (List.mem_cons_of_mem _ (List.mem_cons_of_mem _ (List.mem_cons_self ..)))))
 obtain rfl:=Option.some.inj (gKinds.symm.trans hg)
 obtain rfl:=Option.some.inj (tKinds.symm.trans ht)
 have hU:=oK (b1:=98) (r1:=[108,117,101,108,105,110,101,47,98,108,97,109,101,46,107,105,110,100,115,36,49]) (f1:=339) (b2:=98) (r2:=[108,117,101,108,105,110,101,47,98,108,97,109,101,46,107,105,110,100,115,36,50]) (f2:=340) (b3:=98) (r3:=[108,117,101,108,105,110,101,47,98,108,97,109,101,46,107,105,110,100,115,36,51]) (f3:=343) Tryz.underlying211 Tryz.underlying210 rfl rfl Tryz.underlying209 (by kernel_rfl) (by kernel_rfl) (by kernel_rfl) (by kernel_rfl) (by kernel_rfl) hd
 intro j v hj
 rw[World.var?_cell hg hv j]
 exact hU j v hj
theorem BO {W:World} (h:laidMetH Tryz.prog Rows.blameKnowsRow.laid W):∀ g l,G6 g=some l→RepI W (vC W) (.ip l) (.pointer (some ⟨g,0,.none⟩)):=by
 intro g l hl
 unfold G6 at hl
 split at hl
 ·rename_i e;subst e;cases hl;exact dt (fs:=[357,358,359,360]) (by decide) (nO h)
 ·split at hl
  ·rename_i e;subst e;cases hl;exact dt (fs:=[372,373,374]) (by decide) (pr h)
  ·split at hl
   ·rename_i e;subst e;cases hl;exact dt (fs:=[346,347,348,349,350,351,354,356]) (by decide) (qy h)
   ·split at hl
    ·rename_i e;subst e;cases hl;exact dt (fs:=[364,365,366,369,370]) (by decide) (mG h)
    ·split at hl
     ·rename_i e;subst e;cases hl;exact tv (mM h)
     ·cases hl
theorem xV (os:Os) (args:Array Value):laidMetH Tryz.prog Rows.blameKnowsRow.laid ((World.doorLaid Tryz.prog 600 os).forCall (fun _ _=>0) ⟨#[],args,[]⟩).memory:=
 laidMetH_of_parts3 (fuel:=8) (laidMet_of_run' 8 (by kernel_rfl) (by kernel_rfl)) (by kernel_rfl) (by kernel_rfl)
set_option maxRecDepth 100000 in
theorem gg (os:Os) (started:os.Started) (H:Type) (enc:TypeId×Value→H) :
 ReturnsInHanded {} Tryz.checked os 3 .any (fun w args=>(Rows.blameKnowsSpec.pre enc Tryz.prog Tryz.f3 [] false w args∧laidMetH Tryz.prog Rows.blameKnowsRow.laid w)∧sizedMet enc Tryz.prog Tryz.f3 (OpenSpec.ofChange Rows.blameKnowsSpec) false w args)
  (Rows.blameKnowsSpec.post enc Tryz.prog Tryz.f3 false true false false):=by
 refine returnsInHanded_of_change_and (C:=Tryz.checked) (X:=fun w _=>laidMetH Tryz.prog Rows.blameKnowsRow.laid w) (fun _ _ _ hh h=>h.of_heap hh) own started (by kernel_rfl) Tryz.func3
  (ChangeSpec.witness_shaped (enc:=enc) (C:=Tryz.checked) (os:=os) (X:=fun w _=>laidMetH Tryz.prog Rows.blameKnowsRow.laid w) false (World.doorLaid Tryz.prog 600 os) #[.agg #[.slice .none 0 0,.slice .none 0 0,.slice .none 0 0,.slice .none 0 0,.int .i64 0,.int .i64 0,.slice .none 0 0,.int .i64 0,.int .i64 0,.slice .none 0 0],.slice .none 0 0,.agg #[.int .u8 0,.int .i64 0]] 8 rfl (World.shaped_of_RefB (by kernel_rfl) (by kernel_rfl)) (by kernel_rfl) (by kernel_rfl) (by kernel_rfl) (xV os _)) ?_
 intro W base args ds gs rA hval0 hW _ _ hL _
 have hval:∀ (j:Nat) t v,Tryz.f3.params[j]?=some t→args[j]?=some v→Value.okWide Tryz.prog W .any base t v:=hval0
 have hW':=hW
 obtain⟨p,q,hA0,hV,rfl,hfz,hnd⟩:=hW
 have hA:DataW.TrodAll enc Tryz.prog W 0 (fun _=>true) true Tryz.f3.params.toList args.toList ds p:=hA0
 rw[Tryz.params3] at hA hval
 obtain⟨v0,v1,v2,d0,d1,d2,p0,p1,p2,rfl,rfl,rfl,h0,h1,h2⟩:=trodAll_three hA
 obtain⟨rfl,rfl⟩:=trodVars_none hV
 obtain⟨cs0,rfl,hcs0⟩:=okWide_struct Tryz.underlying39 (hval 0 39 v0 rfl rfl)
 obtain⟨sa1,sn1,sc1,rfl⟩:=okWide_slice Tryz.underlying40 (hval 1 40 v1 rfl rfl)
 obtain⟨cs2,rfl,hcs2⟩:=okWide_struct Tryz.underlying42 (hval 2 42 v2 rfl rfl)
 clear hA0 hval0
 simp only[List.append_nil] at hW'
 have h0k:=h0
 obtain⟨fuel0,hf0⟩:=h0
 obtain⟨l0,⟨c0,hc0,rfl⟩,hR0⟩:=BU H enc W fuel0 cs0.toList _ hf0
 have hlt0:∀ x∈p0,x.block<W.heap.size:=fun x hx=>by simpa using hW'.lt x (by simp[hx])
 have h1k:=h1
 obtain⟨fuel1,hf1⟩:=h1
 obtain⟨l1,⟨c1,rfl⟩,hR1⟩:=wP H enc W fuel1 [.slice sa1 sn1 sc1] _ hf1
 have hlt1:∀ x∈p1,x.block<W.heap.size:=fun x hx=>by simpa using hW'.lt x (by simp[hx])
 have h2k:=h2
 obtain⟨fuel2,hf2⟩:=h2
 obtain⟨l2,⟨c2,hc2,rfl⟩,hR2⟩:=BQ H enc W fuel2 cs2.toList _ hf2
 have hlt2:∀ x∈p2,x.block<W.heap.size:=fun x hx=>by simpa using hW'.lt x (by simp[hx])
 have hcall:=(nv (G:=G6) c0 c1 c2 rfl rfl (BH G6) (zu G6) rfl rfl rfl hc0 hc2 []).calls (vs:=#[.agg cs0,.slice sa1 sn1 sc1,.agg cs2]) (W:=W) (u:=.bool true) (BO hL) rfl (fun j d v hd hv=>by
  match j with
  | 0=>simp at hd hv;subst hd;subst hv;exact .ofCells hR0
  | 1=>simp at hd hv;subst hd;subst hv;exact .ofCell hR1
  | 2=>simp at hd hv;subst hd;subst hv;exact .ofCells hR2
  | j+3=>simp at hd)
 refine hcall.mono fun e W' ⟨he,hnx⟩=>?_
 subst he
 refine⟨_,rfl,_,_,_,[],p0++p1++p2,[],hW',trodAll_mk1 (shut_bool Tryz.underlying4 _),?_,rfl,hnx.frame _,fun h=>by cases h⟩
 have hend:=trodAll_mk3 (Below.trod mL (by kernel_rfl) (of_decide_eq_true (by kernel_rfl)) h0k hnx hlt0) (Below.trod mL (by kernel_rfl) (of_decide_eq_true (by kernel_rfl)) h1k hnx hlt1) (Below.trod mL (by kernel_rfl) (of_decide_eq_true (by kernel_rfl)) h2k hnx hlt2)
 simp only[List.append_nil,List.nil_append,List.append_assoc] at hend ⊢
 exact hend
theorem gU:Rows.BlameKnowsSaid:=
 OpenClaim.holds_of_wide 3 Tryz.f3 rfl rfl rfl rfl rfl rfl rfl ⟨rfl,rfl,rfl,rfl,rfl⟩ rfl rfl rfl rfl rfl (by kernel_rfl) Tryz.func3 gh
  (of_decide_eq_true (by kernel_rfl)) (by unfold Func.isWrapper;first|(rw[if_pos (by decide +kernel)];kernel_rfl)|(rw[if_neg (by decide +kernel)];exact⟨rfl,rfl⟩))
  (fun os started H enc _=>gg os started H enc)
end Go.Proofs.YtjodaihiogfkbaaGreatDoor
