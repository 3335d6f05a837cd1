/- Part 17 of the proofs. -/
import Derived.Test.YtjodaihiogfkbaaGreatDoorA09
import Derived.Test.YtjodaihiogfkbaaGreatDoorA13
import Derived.Test.YtjodaihiogfkbaaGreatDoorA14
import Derived.Test.YtjodaihiogfkbaaGreatDoorA16
set_option linter.all false
set_option linter.deprecated false
set_option maxHeartbeats 100000000
namespace Go.Proofs
open Go Go.Ab Tryz
variable {G:GW}
theorem mb (c:Chains):∃ X,am c=.one (.im X):=by unfold am;split<;>exact⟨_,rfl⟩
def u4 (c:Chains) (n:Int):Int:=if p8 c≠0 then p8 c else if 0≤n∧n<c.loops.length then 0 else 2
theorem Ah (c:Chains) (n:Int) (hG:s6 G) (hC:V9 G) (hs:T3 c):zP prog G 212 [gS c,iv n] (.tup [am c,iv (u4 c n)]):=by
 refine zf func212 ntmps212 ?_
 try simp only[gS,iv]
 have c1:=yc c hG hC hs
 have hl:=hs.2.2.1
 have hw:IntKind.i64.wrap ((c.loops.length:Int)-1)=(c.loops.length:Int)-1:=n8 (by omega) (by omega)
 have c2:=aT (G:=G) 0 ((c.loops.length:Int)-1) [n] (by simp)
 have hE:u4 c n=if p8 c≠0 then p8 c else if 0≤n∧n<c.loops.length then 0 else 2:=rfl
 obtain⟨X,hX⟩:=mb c
 rw[hX]
 rw[hX] at c1
 by_cases h0:p8 c=0
 ·rw[h0] at c1 hE
  by_cases hr:0≤n∧n<c.loops.length
  ·have hq:([n].all fun x=>decide (0≤x)&&decide (x≤(c.loops.length:Int)-1))=true:=by simp;omega
   rw[hq] at c2
   have hs:=hw
   repeat' first|(with_reducible first|refine zz ?_|refine zr ?_|refine zE [0,1,2,4,5,6,7,24] ?_)|simp -dsimp[hs]|refine zp c1 ?_|refine zt c2 ?_ ?_ ?_;(focus simp;done);focus (simp;done)|refine i8 ?_ ?_<;>intro h<;>try simp only[i6] at h
   all_goals try clear hs
   simp[hE,hr]
  ·have hq:([n].all fun x=>decide (0≤x)&&decide (x≤(c.loops.length:Int)-1))=false:=by simp;omega
   rw[hq] at c2
   have hs:=hw
   repeat' first|(with_reducible first|refine zz ?_|refine zr ?_|refine zE [0,1,2,4,5,6,7,24] ?_)|simp -dsimp[hs]|refine zp c1 ?_|refine zt c2 ?_ ?_ ?_;(focus simp;done);focus (simp;done)|refine i8 ?_ ?_<;>intro h<;>try simp only[i6] at h
   all_goals try clear hs
   simp[hE,hr]
 ·have hs:=h0
  repeat' first|(with_reducible first|refine zz ?_|refine zr ?_|refine zE [0,1,2,4,5,6,7,24] ?_)|simp -dsimp[hs]|refine zp c1 ?_|refine i8 ?_ ?_<;>intro h<;>try simp only[i6] at h
  all_goals try clear hs
  simp[hE,h0]
theorem Af (d k:Int):zP prog G 215 [C9 d k] (bv false):=by
 refine zf func215 ntmps215 ?_
 try simp only[C9]
 repeat' first|(with_reducible first|refine zz ?_|refine zx ?_|refine zE [0,2] ?_)|simp -dsimp
theorem BG (x:Link):zP prog G 263 [jQ x] (C9 x.drawing x.dim):=by
 refine zf func263 ntmps263 ?_
 try simp only[jQ]
 repeat' first|(with_reducible first|refine zz ?_|refine zx ?_|refine zE [0,1,2] ?_)|simp -dsimp
def ew:IC:=.fn (.func 215) []
theorem wD (c:Chains) (D:List (Int×Int)) (n:Nat) (hn:n<c.loops.length) (h:OkC c):zP prog G 214 [.one (.im (K0 c D (au c.reg c.lets))),iv (n:Int),iv 0,.one (.im ew)] (.one (.im (.sl ((J3 c c.loops[n]).map B1)))):=by
 refine zf func214 ntmps214 ?_
 try simp only[iv,iv]
 have hx:c.loops[n]?=some c.loops[n]:=by simp[hn]
 have hln:=h.gap c.loops[n] (List.getElem_mem hn)
 have hok:=fun y hy=>kn h (List.getElem_mem hn) (y:=y) hy
 have hlk:=h.link c.loops[n] (List.getElem_mem hn)
 have hE:J3 c c.loops[n]=c.loops[n].links.map (R7 c):=rfl
 simp only[K0,ew]
 have hs:=za hx hn
 repeat' first|(with_reducible first|refine zz ?_|refine zE [0,1,2,3,8,9,11,12,21,22,23,24,42] ?_)|simp -dsimp[hs]
 generalize hls:c.loops[n].links=ls at *
 refine g9 (ι:={ p:Nat×Nat×Bool×List Dim // p.1≤ls.length∧p.2.2.2=(ls.take p.1).map (R7 c) }) (fun p=>⟨52,[(0,.one (.im (K0 c D (au c.reg c.lets)))),(2,iv 0),(3,.one (.im ew)),(9,.one (.vec 1 p.1.2.1 0 p.1.2.2.2.length)),(21,.one (.im (.sl (ls.map G8)))),(22,iv (ls.length:Int)),(23,iv (p.1.1:Int))],[.vec 3 [] 0 true,.vec 3 (n4 (p.1.2.2.2.map B1)) p.1.2.1 p.1.2.2.1]⟩) (fun p=>ls.length-p.1.1) ⟨(0,0,true,[]),by simp⟩ (zv [0,2,3,9,21,22,23] (by simp[K0,ew])) ?_
 rintro⟨⟨k,g,nl,out⟩,hk,ho⟩
 simp only at hk ho
 simp only[iv,K0,ew]
 have hol:out.length=k:=by rw[ho];simp;omega
 by_cases hlt:k<ls.length
 ·have hy:ls[k]?=some ls[k]:=by simp[hlt]
  have hw:=zk k
  obtain⟨l1,l2,l3⟩:=hlk ls[k] (List.getElem_mem hlt)
  obtain⟨_,he⟩:=hok ls[k] (List.getElem_mem hlt)
  have hlook:J4 (au c.reg c.lets) ls[k].drawing=o3 c.reg c.lets ls[k].drawing:=by rw[au,S8,if_pos l1]
  obtain⟨j,hj⟩:∃ j:Nat,ls[k].dim=j:=⟨ls[k].dim.toNat,by omega⟩
  rw[hj,Int.toNat_natCast] at he
  have hjl:=e7 he
  have hje:=(List.getElem?_eq_some_iff.1 he).2
  have c2:=BG (G:=G) ⟨ls[k].drawing,j,ls[k].back⟩
  have c3:=Af (G:=G) ls[k].drawing j
  simp only[C9] at c2 c3
  have hon:out++[R7 c ls[k]]=(ls.take (k+1)).map (R7 c):=by rw[List.take_succ_eq_append_getElem hlt,List.map_append,ho];rfl
  have hs:=za hy (za hw (za hlt (za hlook (za hj (za hjl (za he hje))))))
  repeat' first|(with_reducible first|refine zz ?_|refine And.intro (by omega) ?_)|simp -dsimp[hs]|refine zp c2 ?_|refine zp c3 ?_|refine s9 (id:=5) (nt:=52) 13 [] [0,1,2,3,8,9,11,12,21,22,23,24,27,28,29,30,31,32,33,34,35,36,37,38,42] [0,1,2,3,8,9,11,12,21,22,23,24,42] mixed rfl (by kernel_rfl) ?_|with_reducible refine zE [0,1,2,3,8,9,11,12,21,22,23,24,42] ?_|refine i8 ?_ ?_<;>intro h<;>try simp only[i6] at h
  all_goals try omega
  exact zn ⟨(k+1,g+1,false,out++[R7 c ls[k]]),by omega,hon⟩ (zw [0,2,3,9,21,22,23] 2 (by simp[K0,ew]))
 ·have hs:=hlt
  repeat' first|(with_reducible first|refine zz ?_|refine zr ?_|refine zE [0,1,2,3,8,9,11,12,21,22,23,24,42] ?_)|simp -dsimp[hs]|refine i8 ?_ ?_<;>intro h<;>try simp only[i6] at h
  all_goals try omega
  rw[hE,ho,List.take_of_length_le (by omega)]
theorem wJ (c:Chains) (D:List (Int×Int)) (B:List (Int×Issue)) (n:Nat) (hn:n<c.loops.length) (l:List Dim) (high:Bool) (hl:c.loops[n].links.length≤12) (he:l.length=c.loops[n].links.length) (hd:∀ d∈l,H7 d=true):zP prog G 262 [.one (.im (K0 c D B)),iv (n:Int),.one (.im (.sl (l.map B1))),bv high] (.tup [n7 (ec c.loops[n].links l high),iv (ae c.loops[n].links l high)]):=by
 refine zf func262 ntmps262 ?_
 try simp only[iv,bv]
 have hxn:c.loops[n]?=some c.loops[n]:=by simp[hn]
 simp only[K0]
 have hs:=za hxn hn
 repeat' first|(with_reducible first|refine zz ?_|refine zE [0,1,2,3,8,9,10,11,12,13,14,15,24,25,26,27,37,41] ?_)|simp -dsimp[hs]
 all_goals try clear hs
 generalize c.loops[n].links=ls at *
 refine g9 (ι:={ p:Nat×Nat×Bool×List Int×Int // p.1≤ls.length∧p.2.2.2.1.length=p.1∧ec ls l high=p.2.2.2.1++((ls.zip l).drop p.1).map (fun q=>H6 high q.1 q.2)∧ae ls l high=((ls.zip l).drop p.1).foldl (fun s q=>s+iD q.1 (H6 high q.1 q.2)) p.2.2.2.2∧-1000000000*(p.1:Int)≤p.2.2.2.2∧p.2.2.2.2≤1000000000*(p.1:Int) }) (fun p=>⟨59,[(2,.one (.im (.sl (l.map B1)))),(3,bv high),(10,iv p.1.2.2.2.2),(11,.one (.vec 1 p.1.2.1 0 p.1.2.2.2.1.length)),(24,.one (.im (.sl (ls.map G8)))),(25,iv (ls.length:Int)),(26,iv (p.1.1:Int))],[.vec 1 [] 0 true,.vec 1 (n4 (p.1.2.2.2.1.map l7)) p.1.2.1 p.1.2.2.1]⟩) (fun p=>ls.length-p.1.1) ⟨(0,0,true,[],0),by simp[ec,ae]⟩ (zv [2,3,10,11,24,25,26]) ?_
 rintro⟨⟨k,g,nl,out,s⟩,hk,hol,ho,hs,hb1,hb2⟩
 simp only at hk hol ho hs hb1 hb2
 simp only[iv,bv]
 by_cases hlt:k<ls.length
 ·have hkl:k<l.length:=by omega
  have hx:ls[k]?=some ls[k]:=by simp[hlt]
  have hy:l[k]?=some l[k]:=by simp[hkl]
  have hw:=zk k
  have hz:k<(ls.zip l).length:=by simp;omega
  rw[List.drop_eq_getElem_cons hz,List.getElem_zip,List.map_cons] at ho
  rw[List.drop_eq_getElem_cons hz,List.getElem_zip,List.foldl_cons] at hs
  have hdk:=hd l[k] (List.getElem_mem hkl)
  have hdl:=(T1 _).1 hdk
  have hsb:=wa (high:=high) (x:=ls[k]) hdk
  have hws:IntKind.i64.wrap (s+iD ls[k] (H6 high ls[k] l[k]))=s+iD ls[k] (H6 high ls[k] l[k]):=n8 (by omega) (by omega)
  have hon:ec ls l high=(out++[H6 high ls[k] l[k]])++((ls.zip l).drop (k+1)).map (fun q=>H6 high q.1 q.2):=by rw[ho];simp
  have hwl:IntKind.i64.wrap (-l[k].lower)=-l[k].lower:=n8 (by omega) (by omega)
  have hwu:IntKind.i64.wrap (-l[k].upper)=-l[k].upper:=n8 (by omega) (by omega)
  have hwl1:IntKind.i64.wrap l[k].lower=l[k].lower:=n8 (by omega) (by omega)
  have hwu1:IntKind.i64.wrap l[k].upper=l[k].upper:=n8 (by omega) (by omega)
  have hfin:k+1≤ls.length∧(out++[H6 high ls[k] l[k]]).length=k+1∧ec ls l high=(out++[H6 high ls[k] l[k]])++((ls.zip l).drop (k+1)).map (fun q=>H6 high q.1 q.2)∧ae ls l high=((ls.zip l).drop (k+1)).foldl (fun s q=>s+iD q.1 (H6 high q.1 q.2)) (s+iD ls[k] (H6 high ls[k] l[k]))∧-1000000000*((k+1:Nat):Int)≤s+iD ls[k] (H6 high ls[k] l[k])∧s+iD ls[k] (H6 high ls[k] l[k])≤1000000000*((k+1:Nat):Int):=⟨by omega,by simp;omega,hon,hs,by omega,by omega⟩
  cases hbk:ls[k].back<;>cases high
  all_goals have hN:∀ h,H6 h ls[k] l[k]=if h != ls[k].back then l[k].upper else l[k].lower:=fun _=>rfl
  all_goals have hS:∀ n,iD ls[k] n=if ls[k].back then -n else n:=fun _=>rfl
  all_goals simp only[hN,hS,hbk,bne_self_eq_false,Bool.false_eq_true,if_false,if_true,Bool.true_bne,Bool.false_bne,Bool.not_false] at hws hfin
  all_goals clear hN hS
  ·have hs:=za hx (za hy (za hw (za hlt (za hkl (za hbk (za hws (za hwl1 hwu1)))))))
   repeat' first|(with_reducible first|refine zz ?_|refine And.intro (by omega) ?_|refine zE [0,1,2,3,8,9,10,11,12,13,14,15,24,25,26,27,37,41] ?_)|simp -dsimp[hs]|refine i8 ?_ ?_<;>intro h<;>try simp only[i6] at h
   all_goals try clear hs
   all_goals try omega
   exact zn ⟨(k+1,g+1,false,out++[l[k].lower],s+l[k].lower),hfin⟩ (zw [2,3,10,11,24,25,26] 2)
  ·have hs:=za hx (za hy (za hw (za hlt (za hkl (za hbk (za hws (za hwl1 hwu1)))))))
   repeat' first|(with_reducible first|refine zz ?_|refine And.intro (by omega) ?_|refine zE [0,1,2,3,8,9,10,11,12,13,14,15,24,25,26,27,37,41] ?_)|simp -dsimp[hs]|refine i8 ?_ ?_<;>intro h<;>try simp only[i6] at h
   all_goals try clear hs
   all_goals try omega
   exact zn ⟨(k+1,g+1,false,out++[l[k].upper],s+l[k].upper),hfin⟩ (zw [2,3,10,11,24,25,26] 2)
  ·have hs:=za hx (za hy (za hw (za hlt (za hkl (za hbk (za hws (za hwl hwu)))))))
   repeat' first|(with_reducible first|refine zz ?_|refine And.intro (by omega) ?_|refine zE [0,1,2,3,8,9,10,11,12,13,14,15,24,25,26,27,37,41] ?_)|simp -dsimp[hs]|refine i8 ?_ ?_<;>intro h<;>try simp only[i6] at h
   all_goals try clear hs
   all_goals try omega
   exact zn ⟨(k+1,g+1,false,out++[l[k].upper],s + -l[k].upper),hfin⟩ (zw [2,3,10,11,24,25,26] 2)
  ·have hs:=za hx (za hy (za hw (za hlt (za hkl (za hbk (za hws (za hwl hwu)))))))
   repeat' first|(with_reducible first|refine zz ?_|refine And.intro (by omega) ?_|refine zE [0,1,2,3,8,9,10,11,12,13,14,15,24,25,26,27,37,41] ?_)|simp -dsimp[hs]|refine i8 ?_ ?_<;>intro h<;>try simp only[i6] at h
   all_goals try clear hs
   all_goals try omega
   exact zn ⟨(k+1,g+1,false,out++[l[k].lower],s + -l[k].lower),hfin⟩ (zw [2,3,10,11,24,25,26] 2)
 ·rw[List.drop_eq_nil_of_le (by simp;omega)] at ho hs
  have hs:=hlt
  repeat' first|(with_reducible first|refine zz ?_|refine zr ?_|refine zE [0,1,2,3,8,9,10,11,12,13,14,15,24,25,26,27,37,41] ?_)|simp -dsimp[hs]|refine i8 ?_ ?_<;>intro h<;>try simp only[i6] at h
  all_goals try clear hs
  all_goals try omega
  rw[ho,hs];simp
theorem wE (c:Chains) (D:List (Int×Int)) (B:List (Int×Issue)) (n:Nat) (hn:n<c.loops.length) (l:List Dim) (hl:c.loops[n].links.length≤12) (he:l.length=c.loops[n].links.length) (hd:∀ d∈l,H7 d=true):zP prog G 213 [.one (.im (K0 c D B)),iv (n:Int),.one (.im (.sl (l.map B1)))] (C9 (ae c.loops[n].links l false) (ae c.loops[n].links l true)):=by
 refine zf func213 ntmps213 ?_
 try simp only[iv]
 have c2:=wJ (G:=G) c D B n hn l false hl he hd
 have c3:=wJ (G:=G) c D B n hn l true hl he hd
 repeat' first|(with_reducible first|refine zz ?_|refine zx ?_|refine zE [0,1,2,6,8,10] ?_)|simp -dsimp|refine zp c2 ?_|refine zp c3 ?_
def Ex (c:Chains) (n:Int):Int:=match c.loops[n.toNat]? with|some x=>ae x.links (J3 c x) false|none=>0
def EN (c:Chains) (n:Int):Int:=match c.loops[n.toNat]? with|some x=>ae x.links (J3 c x) true|none=>0
def nX (c:Chains) (n:Int):Int:=if u4 c n=0 then Ex c n else 0
def nZ (c:Chains) (n:Int):Int:=if u4 c n=0 then EN c n else 0
theorem wL (c:Chains) (n:Int) (hG:s6 G) (hC:V9 G) (hs:T3 c) (hok:p8 c=0→OkC c):zP prog G 167 [gS c,iv n] (.tup [C9 (nX c n) (nZ c n),iv (u4 c n)]):=by
 refine zf func167 ntmps167 ?_
 try simp only[gS,iv]
 have c1:=Ah c n hG hC hs
 by_cases hE:u4 c n=0
 ·have h0:p8 c=0:=by
   by_cases h:p8 c=0
   ·exact h
   ·simp[u4,h] at hE
  have hr:0≤n∧n<c.loops.length:=Classical.byContradiction fun h=>by simp[u4,h0,h] at hE
  obtain⟨k,rfl⟩:∃ k:Nat,n=k:=⟨n.toNat,by omega⟩
  have hk:k<c.loops.length:=by omega
  have h:=hok h0
  have hx:c.loops[k]?=some c.loops[k]:=by simp[hk]
  have c2:=wD (G:=G) c (Q4 c) k hk h
  obtain⟨hsl,hsd⟩:=jr h hk
  have hln:=(h.gap c.loops[k] (List.getElem_mem hk)).1
  have c3:=wE (G:=G) c (Q4 c) (au c.reg c.lets) k hk (J3 c c.loops[k]) (by omega) hsl hsd
  have h1:Ex c (k:Int)=ae c.loops[k].links (J3 c c.loops[k]) false:=by simp only[Ex,Int.toNat_natCast,hx]
  have h2:EN c (k:Int)=ae c.loops[k].links (J3 c c.loops[k]) true:=by simp only[EN,Int.toNat_natCast,hx]
  rw[← h1,← h2] at c3
  rw[hE] at c1
  simp only[am,h0,if_true,K0] at c1
  rw[nX,nZ,if_pos hE,if_pos hE]
  simp only[K0,ew,C9] at c2 c3
  have hs:=trivial
  repeat' first|(with_reducible first|refine zz ?_|refine zr ?_|refine zE [0,1,2,4,5,6,7,15] ?_)|simp -dsimp[hs]|refine zp c1 ?_|refine zp c2 ?_|refine zp c3 ?_|refine i8 ?_ ?_<;>intro h<;>try simp only[i6] at h
  all_goals try clear hs
  all_goals simp[hE]
 ·obtain⟨X,hX⟩:=mb c
  rw[hX] at c1
  rw[nX,nZ,if_neg hE,if_neg hE]
  have hs:=hE
  repeat' first|(with_reducible first|refine zz ?_|refine zr ?_|refine zE [0,1,2,4,5,6,7,15] ?_)|simp -dsimp[hs]|refine zp c1 ?_|refine i8 ?_ ?_<;>intro h<;>try simp only[i6] at h
  all_goals try clear hs
theorem lX (h1:Bool):∀ (q:List (Link×Dim)) (a b:Int),(∀ p∈q,H7 p.2=true)→a≤b→q.foldl (fun s p=>s+iD p.1 (H6 false p.1 p.2)) a≤q.foldl (fun s p=>s+iD p.1 (H6 true p.1 p.2)) b
 | [],a,b,_,h=>h
 | p :: q,a,b,hd,h=>by
   rw[List.foldl_cons,List.foldl_cons]
   refine lX h1 q _ _ (fun p hp=>hd p (by simp[hp])) ?_
   have hp:=(T1 _).1 (hd p (by simp))
   have:iD p.1 (H6 false p.1 p.2)≤iD p.1 (H6 true p.1 p.2):=by
    unfold iD H6
    cases p.1.back<;>simp<;>omega
   omega
theorem Ew {ls:List Link} {l:List Dim} (hd:∀ d∈l,H7 d=true):ae ls l false≤ae ls l true:=
 lX true _ 0 0 (fun _ hp=>hd _ (List.of_mem_zip hp).2) (Int.le_refl _)
def FP (c:Chains) (n:Int):Int:=match c.loops[n.toNat]? with
 | some x=>if x.lo≤nX c n∧nZ c n≤x.hi then 2 else if nZ c n<x.lo∨x.hi<nX c n then 0 else 1
 | none=>0
def C6 (c:Chains) (n:Int):Int:=if u4 c n=0 then FP c n else 0
def vA (n:Int):DV:=.one (.im (.raw (.int .u8 n)))
attribute [simp] vA
theorem aj {c:Chains} {n:Int} (h:u4 c n=0):p8 c=0∧∃ k:Nat,n=k∧k<c.loops.length:=by
 have h0:p8 c=0:=by
  by_cases h':p8 c=0
  ·exact h'
  ·simp[u4,h'] at h
 have hr:0≤n∧n<c.loops.length:=Classical.byContradiction fun h'=>by simp[u4,h0,h'] at h
 exact⟨h0,n.toNat,by omega,by omega⟩
theorem ws {c:Chains} {n:Int} (h:u4 c n=0) (hok:p8 c=0→OkC c):nX c n≤nZ c n:=by
 obtain⟨h0,k,rfl,hk⟩:=aj h
 have hx:c.loops[k]?=some c.loops[k]:=by simp[hk]
 obtain⟨hsl,hsd⟩:=jr (hok h0) hk
 rw[nX,nZ,if_pos h,if_pos h]
 simp only[Ex,EN,Int.toNat_natCast,hx]
 exact Ew hsd
theorem tN (c:Chains) (n:Int) (hG:s6 G) (hC:V9 G) (hs:T3 c) (hok:p8 c=0→OkC c):zP prog G 103 [gS c,iv n] (.tup [vA (C6 c n),iv (u4 c n)]):=by
 refine zf func103 ntmps103 ?_
 try simp only[gS,iv]
 have c1:=wL c n hG hC hs hok
 by_cases hE:u4 c n=0
 ·have hle:=ws hE hok
  obtain⟨h0,k,rfl,hk⟩:=aj hE
  have hx:c.loops[k]?=some c.loops[k]:=by simp[hk]
  have hK:C6 c (k:Int)=if c.loops[k].lo≤nX c (k:Int)∧nZ c (k:Int)≤c.loops[k].hi then 2 else if nZ c (k:Int)<c.loops[k].lo∨c.loops[k].hi<nX c (k:Int) then 0 else 1:=by simp only[C6,FP,Int.toNat_natCast,hx,if_pos hE]
  generalize nX c (k:Int)=a at *
  generalize nZ c (k:Int)=b at *
  have c2:=aT (G:=G) c.loops[k].lo c.loops[k].hi [a,b] (by simp)
  simp only[C9,hE] at c1
  by_cases hin:c.loops[k].lo≤a∧b≤c.loops[k].hi
  ·have hq:([a,b].all fun x=>decide (c.loops[k].lo≤x)&&decide (x≤c.loops[k].hi))=true:=by simp;omega
   rw[if_pos hin] at hK
   rw[hq] at c2
   have hs:=za hx hk
   repeat' first|(with_reducible first|refine zz ?_|refine zr ?_|refine zE [0,1,2,4,5,6,7,8,16,24,35] ?_)|simp -dsimp[hs]|refine zp c1 ?_|refine zt c2 ?_ ?_ ?_;(focus simp;done);focus (simp;done)|refine i8 ?_ ?_<;>intro h<;>try simp only[i6] at h
   all_goals try clear hs
   all_goals simp[hK,hE]
  ·have hq:([a,b].all fun x=>decide (c.loops[k].lo≤x)&&decide (x≤c.loops[k].hi))=false:=by simp;omega
   rw[if_neg hin] at hK
   rw[hq] at c2
   have hs:=za hx hk
   repeat' first|(with_reducible first|refine zz ?_|refine zr ?_|refine zE [0,1,2,4,5,6,7,8,16,24,35] ?_)|simp -dsimp[hs]|refine zp c1 ?_|refine zt c2 ?_ ?_ ?_;(focus simp;done);focus (simp;done)|refine i8 ?_ ?_<;>intro h<;>try simp only[i6] at h
   all_goals try clear hs
   all_goals first
    | (exfalso;omega)
    | (rw[if_pos (by omega)] at hK;simp[hK,hE];done)
    | (rw[if_neg (by omega)] at hK;simp[hK,hE])
 ·have hK:C6 c n=0:=by simp[C6,hE]
  have hs:=hE
  repeat' first|(with_reducible first|refine zz ?_|refine zr ?_|refine zE [0,1,2,4,5,6,7,8,16,24,35] ?_)|simp -dsimp[hs]|refine zp c1 ?_|refine i8 ?_ ?_<;>intro h<;>try simp only[i6] at h
  all_goals try clear hs
  all_goals simp[hK]
end Go.Proofs
namespace Go.Proofs
open Go Go.Ab
theorem jU {l:List Issue} {lets:List Int} (h0:j9 l=0) (hlet:n5 l lets=true) {dep:Int→Int} (hdep:∀ n∈nums l,1≤dep n∧dep n≤6∧∀ c∈cb l n,c∈nums l∧dep c<dep n) :
 ∀ (k:Nat) (d m:Int),d∈nums l→∀ p∈F1 (o3 l lets) k d m,p.1∈nums l
 | 0,_,_,_,p,hp=>by cases hp
 | k+1,d,m,hd,p,hp=>by
   rw[F1] at hp
   split at hp
   ·rw[List.mem_singleton] at hp;rw[hp];exact hd
   ·obtain⟨y,hy,hp⟩:=List.mem_flatMap.1 hp
    have hc:=(hdep d hd).2.2 _ (ei h0 hlet hd y hy)
    exact jU h0 hlet hdep k _ _ hc.1 p hp
theorem mq {ns:List Int} (hnd:ns.Nodup):∀ (lv:List (Int×Int)) (m:List (Int×Int)),(∀ p∈lv,p.1∈ns)→gX ns (ns.map (m7 m)) lv=ns.map (m7 (iK m lv))
 | [],_,_=>rfl
 | p :: lv,m,h=>by
   have h1:=mq hnd lv (M8 p.1 (IntKind.i64.wrap (m7 m p.1+p.2)) m) fun q hq=>h q (by simp[hq])
   obtain⟨j,hj⟩:=List.mem_iff_getElem?.1 (h p (by simp))
   have he:uR ns (ns.map (m7 m)) p=ns.map (m7 (M8 p.1 (IntKind.i64.wrap (m7 m p.1+p.2)) m)):=by
    simp only[uR,eI hnd hj,Int.toNat_natCast,List.getElem?_map,hj,Option.map_some,Option.getD_some]
    rw[jL hnd hj]
    refine List.map_congr_left fun n _=>?_
    rw[Y1]
    by_cases e:n=p.1<;>simp[e]
   simp only[gX,iK,List.foldl_cons] at h1 ⊢
   rw[he];exact h1
theorem ef (f:Int→Int):∀ ns:List Int,((ns.zip (ns.map f)).filter fun p=>decide (0<p.2)).map (fun p=>(⟨p.1,p.2⟩:Itm))=(ns.filter fun n=>decide (0<f n)).map fun n=>⟨n,f n⟩
 | []=>rfl
 | n :: ns=>by
   simp only[List.map_cons,List.zip_cons_cons,List.filter_cons]
   by_cases h:0<f n
   ·simp only[h,decide_true,if_true,List.map_cons,ef f ns]
   ·simp only[h,decide_false,Bool.false_eq_true,if_false,ef f ns]
theorem om {l:List Issue} {lets:List Int} {d:Int} (h0:j9 l=0) (hlet:n5 l lets=true) (hd:d∈nums l):S4 l lets d=K5 (nums l) (lc l lets d):=by
 obtain⟨dep,hdep⟩:=kq h0
 have hnd:(nums l).Nodup:=(C2 h0).1.imp fun h=>Int.ne_of_lt h
 have h1:=mq hnd (F1 (o3 l lets) 6 d 1) [] (jU h0 hlet hdep 6 d 1 hd)
 have h2:(nums l).map (m7 [])=List.replicate (nums l).length 0:=iT (fun _=>rfl) _
 rw[h2] at h1
 have h3:pi l lets d=(nums l).map (m7 (lc l lets d)):=h1
 rw[S4,h3,ef];rfl
theorem jO:∀ (ps:List Itm) (m:List (Int×Int)) (d:Int),(ps.map (·.drawing)).Nodup→m7 (ps.foldl (fun m x=>M8 x.drawing x.count m) m) d=if d∈ps.map (·.drawing) then N9 ps d else m7 m d
 | [],m,d,_=>by simp
 | y :: ps,m,d,h=>by
   rw[List.map_cons,List.nodup_cons] at h
   rw[List.foldl_cons,jO ps _ d h.2,Y1,N9]
   by_cases e:d=y.drawing
   ·subst e
    rw[if_neg h.1,if_pos rfl,if_pos (by simp),if_pos rfl]
   ·rw[if_neg e,if_neg (Ne.symm e)]
    by_cases hm:d∈ps.map (·.drawing)
    ·rw[if_pos hm,if_pos (by simp only[List.map_cons,List.mem_cons];exact .inr hm)]
    ·rw[if_neg hm,if_neg (by simp only[List.map_cons,List.mem_cons];exact fun h=>h.elim e hm)]
theorem cU:∀ (ps:List Itm) (d:Int),d∉ps.map (·.drawing)→N9 ps d=0
 | [],_,_=>rfl
 | y :: ps,d,h=>by
   rw[List.map_cons,List.mem_cons,not_or] at h
   rw[N9,if_neg (Ne.symm h.1)];exact cU ps d h.2
def X3 (ls:List Link) (d:Int):Nat:=(ls.filter fun y=>decide (y.drawing=d)).length
theorem dE (y:Link) (r:List Link) (d:Int):X3 (y :: r) d=(if y.drawing=d then 1 else 0)+X3 r d:=by
 unfold X3
 by_cases h:y.drawing=d
 ·rw[List.filter_cons_of_pos (by simpa using h),if_pos h,List.length_cons];omega
 ·rw[List.filter_cons_of_neg (by simpa using h),if_neg h];omega
theorem kx {ls:List Link} {y:Link} (h:y∈ls):1≤X3 ls y.drawing:=
 List.length_pos_of_mem (List.mem_filter.2 ⟨h,by simp⟩)
theorem uI {ls:List Link} {d:Int} (h:∀ y∈ls,y.drawing≠d):X3 ls d=0:=by
 unfold X3
 rw[List.filter_eq_nil_iff.2 fun y hy=>by simpa using h y hy];rfl
def sQ (B:List (Int×Issue)) (y:Link):Bool:=decide (0≤y.dim)&&decide (y.dim≤((J4 B y.drawing).dims.length:Int)-1)
theorem jj (D:List (Int×Int)) (B:List (Int×Issue)):∀ (r:List Link) (U:List (Int×Int)),V5 D B U r=true↔∀ y∈r,sQ B y=true∧m7 U y.drawing+X3 r y.drawing≤m7 D y.drawing
 | [],U=>by simp[V5]
 | y :: r,U=>by
   have ih:=jj D B r (M8 y.drawing (m7 U y.drawing+1) U)
   have hu:V5 D B U (y :: r)=(decide (m7 U y.drawing+1≤m7 D y.drawing)&&sQ B y&&V5 D B (M8 y.drawing (m7 U y.drawing+1) U) r):=rfl
   rw[hu,Bool.and_eq_true,Bool.and_eq_true,decide_eq_true_eq,ih]
   constructor
   ·rintro⟨⟨h1,h2⟩,h3⟩ z hz
    have key:∀ z∈r,sQ B z=true∧m7 U z.drawing+X3 (y :: r) z.drawing≤m7 D z.drawing:=fun z hz=>by
     obtain⟨a,b⟩:=h3 z hz
     rw[Y1] at b
     rw[dE]
     refine⟨a,?_⟩
     by_cases e:z.drawing=y.drawing
     ·rw[if_pos e] at b;rw[if_pos e.symm];rw[e] at b ⊢;omega
     ·rw[if_neg e] at b;rw[if_neg (Ne.symm e)];omega
    rcases List.mem_cons.1 hz with rfl|hz
    ·refine⟨h2,?_⟩
     by_cases hex:∃ w∈r,w.drawing=z.drawing
     ·obtain⟨w,hw,e⟩:=hex
      have:=(key w hw).2
      rw[e] at this;exact this
     ·rw[dE,if_pos rfl,uI fun w hw e=>hex ⟨w,hw,e⟩];omega
    ·exact key z hz
   ·intro h
    obtain⟨a,b⟩:=h y (by simp)
    rw[dE,if_pos rfl] at b
    refine⟨⟨by omega,a⟩,fun z hz=>?_⟩
    obtain⟨a',b'⟩:=h z (by simp[hz])
    refine⟨a',?_⟩
    rw[dE] at b'
    rw[Y1]
    by_cases e:z.drawing=y.drawing
    ·rw[if_pos e.symm,e] at b';rw[if_pos e,e];omega
    ·rw[if_neg (Ne.symm e)] at b';rw[if_neg e];omega
def T9 (c:Chains) (ls:List Link) (y:Link):Bool:=decide ((X3 ls y.drawing:Int)≤N9 (S4 c.reg c.lets c.of) y.drawing)&&(decide (0≤y.dim)&&decide (y.dim≤((o3 c.reg c.lets y.drawing).dims.length:Int)-1))
def J9 (c:Chains) (x:ChLoop):Bool:=kB x&&kA x&&x.links.all (T9 c x.links)
theorem ft {c:Chains} {d:Int} (h0:j9 c.reg=0) (hlet:n5 c.reg c.lets=true) (hof:c.of∈nums c.reg) (hc:1≤N9 (S4 c.reg c.lets c.of) d):d∈nums c.reg:=by
 refine Classical.byContradiction fun hn=>?_
 rw[om h0 hlet hof,cU] at hc
 ·omega
 ·intro hm
  simp only[K5,List.map_map] at hm
  obtain⟨n,h1,h2⟩:=List.mem_map.1 hm
  simp only[Function.comp] at h2
  exact hn (h2 ▸ (List.mem_filter.1 h1).1)
theorem tV {c:Chains} (h0:j9 c.reg=0) (hlet:n5 c.reg c.lets=true) (hof:c.of∈nums c.reg) (x:ChLoop):N3 (Q4 c) (au c.reg c.lets) x=J9 c x:=by
 have hnd:(nums c.reg).Nodup:=(C2 h0).1.imp fun h=>Int.ne_of_lt h
 have hT:A9 c.reg c.lets c.of=0:=by simp[A9,h0,hlet,hof]
 have hD:∀ d,m7 (Q4 c) d=N9 (S4 c.reg c.lets c.of) d:=fun d=>by
  rw[om h0 hlet hof]
  have hE:aX c.reg c.lets c.of=K5 (nums c.reg) (lc c.reg c.lets c.of):=by rw[aX,if_pos hT]
  have hn:((K5 (nums c.reg) (lc c.reg c.lets c.of)).map (·.drawing)).Nodup:=by
   simp only[K5,List.map_map]
   have:(fun x:Itm=>x.drawing) ∘ (fun n=>(⟨n,m7 (lc c.reg c.lets c.of) n⟩:Itm))=id:=rfl
   rw[this,List.map_id]
   exact hnd.filter _
  rw[Q4,hE,jO _ _ _ hn]
  split
  ·rfl
  ·rw[cU _ _ ‹_›];rfl
 unfold N3 J9
 congr 1
 rw[Bool.eq_iff_iff,jj,List.all_eq_true]
 refine forall_congr' fun y=>forall_congr' fun hy=>?_
 simp only[T9,sQ,Bool.and_eq_true,decide_eq_true_eq,hD]
 have hp:=kx hy
 have hz:m7 [] y.drawing=0:=rfl
 constructor
 ·rintro⟨h1,h2⟩
  have hm:=ft (d:=y.drawing) h0 hlet hof (by omega)
  rw[au,S8,if_pos hm] at h1
  exact⟨by omega,h1⟩
 ·rintro⟨h1,h2⟩
  have hm:=ft (d:=y.drawing) h0 hlet hof (by omega)
  rw[au,S8,if_pos hm]
  exact⟨h2,by omega⟩
theorem ge {c:Chains} (h0:j9 c.reg=0):p8 c=(if n5 c.reg c.lets=true∧c.of∈nums c.reg∧(1≤c.loops.length∧c.loops.length≤6)∧c.loops.all (J9 c)=true then 0 else 60):=by
 unfold p8
 rw[if_neg (by simp[h0])]
 by_cases hlet:n5 c.reg c.lets=true
 ·by_cases hof:c.of∈nums c.reg
  ·have hT:A9 c.reg c.lets c.of=0:=by simp[A9,h0,hlet,hof]
   have hL:c.loops.all (N3 (Q4 c) (au c.reg c.lets))=c.loops.all (J9 c):=by
    congr 1;exact funext fun x=>tV h0 hlet hof x
   rw[hL]
   by_cases hn:1≤c.loops.length∧c.loops.length≤6
   ·rw[if_neg (by simp[hT];omega)]
    by_cases ha:c.loops.all (J9 c)=true
    ·rw[if_pos ha,if_pos ⟨hlet,hof,hn,ha⟩]
    ·rw[if_neg ha,if_neg fun h=>ha h.2.2.2]
   ·rw[if_pos (.inr hn),if_neg fun h=>hn h.2.2.1]
  ·have hT:A9 c.reg c.lets c.of≠0:=by simp[A9,h0,hlet,hof]
   rw[if_pos (.inl hT),if_neg fun h=>hof h.2.1]
 ·have hT:A9 c.reg c.lets c.of≠0:=by
   have:n5 c.reg c.lets=false:=by simpa using hlet
   simp[A9,h0,this]
  rw[if_pos (.inl hT),if_neg fun h=>hlet h.1]
theorem Ge {c:Chains} (h:p8 c=0):OkC c:=by
 have h0:j9 c.reg=0:=Classical.byContradiction fun h'=>by simp[p8,h'] at h
 rw[ge h0] at h
 split at h
 ·rename_i hc
  obtain⟨a,b,d,e⟩:=hc
  rw[List.all_eq_true] at e
  refine⟨h0,a,b,d,fun x hx=>?_,fun x hx y hy=>?_⟩
  ·have:=e x hx
   simp only[J9,kB,Bool.and_eq_true,decide_eq_true_eq] at this
   exact⟨this.1.1.2,this.1.2⟩
  ·have:=e x hx
   simp only[J9,Bool.and_eq_true,List.all_eq_true] at this
   have:=this.2 y hy
   simp only[T9,Bool.and_eq_true,decide_eq_true_eq] at this
   have hp:=kx hy
   exact⟨ft h0 a b (by omega),this.2.1,by omega⟩
 ·cases h
open Go Go.Ab Tryz
variable {G:GW}
def G0 (c:Chains):Bool:=n5 c.reg c.lets&&decide (c.of∈nums c.reg)&&decide (1≤c.loops.length∧c.loops.length≤6)&&c.loops.all (J9 c)
theorem tF (c:Chains) (hs:T3 c) (h0:j9 c.reg=0):zP prog G 306 [gS c] (bv (G0 c)):=by
 refine zf func306 ntmps306 ?_
 try simp only[gS]
 have hck:=h0
 obtain⟨hsr,hsl,hso,hsk⟩:=hs
 have hreg:=hsr.1
 have hnl:(nums c.reg).length≤c.reg.length:=n0 c.reg c.reg.length
 have c1:=tX (G:=G) c.reg c.lets (by omega) (by omega)
 have c2:=H1 (G:=G) c.reg (by omega)
 have c3:=bE (G:=G) (nums c.reg) c.of (by omega)
 have c4:=dh (G:=G) (c.loops.length:Int) 1 6
 have him:=sI (nums c.reg) c.of
 by_cases hlet:n5 c.reg c.lets=true
 ·by_cases hof:c.of∈nums c.reg
  ·by_cases hn:1≤c.loops.length∧c.loops.length≤6
   ·have hE:G0 c=c.loops.all (J9 c):=by simp[G0,hlet,hof,hn]
    have hd:(decide ((1:Int)≤(c.loops.length:Int))&&decide ((c.loops.length:Int)≤6))=true:=by simp;omega
    have hll:c.lets.length=(nums c.reg).length:=by
     simp only[n5,Bool.and_eq_true,decide_eq_true_eq] at hlet;exact hlet.1
    have hz:¬ idx (nums c.reg) c.of<0:=fun h=>him.1 h hof
    rw[hlet] at c1
    rw[hd] at c4
    have c5:=wK (G:=G) c.reg c.lets c.of (by omega) h0 hlet hof
    have hs:=hz
    repeat' first|with_reducible refine zz ?_|simp -dsimp[hs]|refine zq c1 ?_|refine zq c2 ?_|refine zq c3 ?_|refine zq c4 ?_|refine zp c5 ?_|refine zM 1 125 22 [0,1,2,3,4,5,6,7,8,9,31,43,72,77,89,100,124] ?_|with_reducible refine zE [0,1,2,3,4,5,6,7,8,9,31,43,72,77,89,100,124] ?_|refine i8 ?_ ?_<;>intro h<;>try simp only[i6] at h
    all_goals try clear hs
    have hpl:(S4 c.reg c.lets c.of).length≤80:=by
     have:=List.length_filter_le (fun p:Int×Int=>decide (0<p.2)) ((nums c.reg).zip (pi c.reg c.lets c.of))
     simp only[S4,List.length_map,List.length_zip] at *;omega
    have hpm:=fun d (hd:1≤N9 (S4 c.reg c.lets c.of) d)=>ft h0 hlet hof hd
    have hlkE:∀ ls y,T9 c ls y=(decide ((X3 ls y.drawing:Int)≤N9 (S4 c.reg c.lets c.of) y.drawing)&&(decide (0≤y.dim)&&decide (y.dim≤((o3 c.reg c.lets y.drawing).dims.length:Int)-1))):=fun _ _=>rfl
    generalize S4 c.reg c.lets c.of=ps at *
    refine g9 (ι:={ j:Nat // j≤c.loops.length∧c.loops.all (J9 c)=(c.loops.drop j).all (J9 c) }) (fun p=>⟨125,[(1,.one (.ptr 0 0)),(2,bv false),(3,.one (.im (.sl (ps.map p6)))),(4,iv (p.1:Int))],[.row ((E5 c).map .im)]⟩) (fun p=>c.loops.length-p.1) ⟨0,by simp⟩ (zv [1,2,3,4]) ?_
    rintro⟨j,hj,hall⟩
    simp only[iv,bv]
    by_cases hlj:j<c.loops.length
    ·have hx:c.loops[j]?=some c.loops[j]:=by simp[hlj]
     have hw:=zk j
     have hst:=Q7 hlj hall
     have hlx:J9 c c.loops[j]=(kB c.loops[j]&&kA c.loops[j]&&c.loops[j].links.all (T9 c c.loops[j].links)):=rfl
     have h12:(kB c.loops[j]&&kA c.loops[j])=true↔1≤c.loops[j].links.length∧c.loops[j].links.length≤8∧-8000000000≤c.loops[j].lo∧c.loops[j].lo≤8000000000∧c.loops[j].lo≤c.loops[j].hi∧c.loops[j].hi≤8000000000:=by
      rw[Bool.and_eq_true,pn]
      simp only[kB,Bool.and_eq_true,decide_eq_true_eq];omega
     generalize hA:(kB c.loops[j]&&kA c.loops[j])=A at h12 hlx
     generalize hxe:c.loops[j]=x at *
     have hs:=za hx (za hlj hxe)
     repeat' first|(with_reducible first|refine zz ?_|refine zr ?_|refine zE [0,1,2,3,4,5,6,7,8,9,31,43,72,77,89,100,124] ?_)|simp -dsimp[hs]|refine zp (dh (G:=G) _ _ _) ?_|refine i8 ?_ ?_<;>intro h<;>try simp only[i6] at h|with_reducible refine j0 ?_ ?_<;>intro h<;>have h0:=h<;>(try simp only[i6] at h)<;>have h2:=h<;>(try simp at h2)<;>replace hs:=za h0 (za h (za h2 hs))
     all_goals try clear hs
     all_goals first
      | (have hA2 : A = false := aW h12 (by clear h12 hw; omega)
         rw[hE,s8 hst (by rw[hlx,hA2];exact Bool.false_ne_true)];done)
      | skip
     have hA2:A=true:=sk h12 (by clear h12 hw;omega)
     rw[hA2,Bool.true_and] at hlx
     have hx8:x.links.length≤8:=(h12.1 hA2).2.1
     clear h12
     refine g9 (ι:={ u:Nat // u≤x.links.length∧x.links.all (T9 c x.links)=(x.links.drop u).all (T9 c x.links) }) (fun p=>⟨125,[(1,.one (.ptr 0 0)),(2,bv false),(3,.one (.im (.sl (ps.map p6)))),(4,iv (j:Int)),(5,.one (.ptr 2 0)),(6,iv (p.1:Int))],[.row ((E5 c).map .im),.vec 0 [] 0 true,.row ((D7 x).map .im)]⟩) (fun p=>x.links.length-p.1) ⟨0,by simp⟩ (zv [1,2,3,4,5,6]) ?_
     rintro⟨u,hu,hal2⟩
     simp only[iv,bv]
     by_cases hlu:u<x.links.length
     ·have hy:x.links[u]?=some x.links[u]:=by simp[hlu]
      have hw2:=zk u
      have hst2:=Q7 hlu hal2
      have hcp:=kx (List.getElem_mem hlu)
      have hle:=hlkE x.links x.links[u]
      generalize hye:x.links[u]=y at *
      have hs:=za hy (za hlu hye)
      repeat' first|(with_reducible first|refine zz ?_|refine zE [0,1,2,3,4,5,6,7,8,9,31,43,72,77,89,100,124] ?_)|simp -dsimp[hs]|refine i8 ?_ ?_<;>intro h<;>try simp only[i6] at h
      all_goals try clear hs
      refine g9 (ι:={ i:Nat // i≤x.links.length }) (fun p=>⟨125,[(1,.one (.ptr 0 0)),(2,bv false),(3,.one (.im (.sl (ps.map p6)))),(4,iv (j:Int)),(5,.one (.ptr 2 0)),(6,iv (u:Int)),(7,.one (.ptr 3 0)),(8,iv (X3 (x.links.take p.1) y.drawing:Int)),(9,iv (p.1:Int))],[.row ((E5 c).map .im),.vec 0 [] 0 true,.row ((D7 x).map .im),.row ((G8 y).map .im)]⟩) (fun p=>x.links.length-p.1) ⟨0,by omega⟩ (zv [1,2,3,4,5,6,7,8,9] (by simp[X3])) ?_
      rintro⟨i,hi⟩
      simp only[iv,bv]
      by_cases hli:i<x.links.length
      ·have hz:x.links[i]?=some x.links[i]:=by simp[hli]
       have hw3:=zk i
       have hcl:X3 (x.links.take i) y.drawing≤i:=by
        unfold X3
        have:=List.length_filter_le (fun z:Link=>decide (z.drawing=y.drawing)) (x.links.take i)
        rw[List.length_take] at this;omega
       have hw4:IntKind.i64.wrap ((X3 (x.links.take i) y.drawing:Int)+1)=(X3 (x.links.take i) y.drawing:Int)+1:=n8 (by omega) (by omega)
       have hcn:X3 (x.links.take (i+1)) y.drawing=X3 (x.links.take i) y.drawing+if x.links[i].drawing=y.drawing then 1 else 0:=by
        rw[List.take_succ_eq_append_getElem hli]
        unfold X3
        rw[List.filter_append,List.length_append]
        congr 1
        by_cases h:x.links[i].drawing=y.drawing<;>simp[h]
       have hs:=za hz (za hli (za hw3 hw4))
       repeat' first|with_reducible refine zz ?_|simp -dsimp[hs]|refine zM 18 125 9 [0,1,2,3,4,5,6,7,8,9,31,43,72,77,89,100,124] ?_|with_reducible refine zE [0,1,2,3,4,5,6,7,8,9,31,43,72,77,89,100,124] ?_|refine i8 ?_ ?_<;>intro h<;>try simp only[i6] at h
       all_goals try clear hs
       ·have hcn':(X3 (x.links.take (i+1)) y.drawing:Int)=(X3 (x.links.take i) y.drawing:Int)+1:=by rw[hcn,if_pos ‹_›];rfl
        exact zn ⟨i+1,by omega⟩ (zv [1,2,3,4,5,6,7,8,9] (by simp[hcn']))
       ·have hcn':X3 (x.links.take (i+1)) y.drawing=X3 (x.links.take i) y.drawing:=by rw[hcn,if_neg ‹_›];rfl
        exact zn ⟨i+1,by omega⟩ (zv [1,2,3,4,5,6,7,8,9] (by simp[hcn']))
      ·have hti:x.links.take i=x.links:=List.take_of_length_le (by omega)
       rw[hti]
       have k1:=AO (G:=G) ps y.drawing (by omega)
       by_cases hgt:N9 ps y.drawing<(X3 x.links y.drawing:Int)
       ·have hf:T9 c x.links y=false:=by rw[hle,decide_eq_false (by omega)];rfl
        have hs:=za hli hgt
        repeat' first|(with_reducible first|refine zz ?_|refine zr ?_)|simp -dsimp[hs]|refine zq k1 ?_|refine zM 20 125 22 [0,1,2,3,4,5,6,7,8,9,31,43,72,77,89,100,124] ?_|with_reducible refine zE [0,1,2,3,4,5,6,7,8,9,31,43,72,77,89,100,124] ?_|refine i8 ?_ ?_<;>intro h<;>try simp only[i6] at h
        all_goals try clear hs
        rw[hE,s8 hst (by rw[hlx,s8 hst2 (by rw[hf];exact Bool.false_ne_true)];exact Bool.false_ne_true)]
       ·have hym:=hpm y.drawing (by omega)
        have k2:=mA (G:=G) c.reg c.lets y.drawing (by omega) hym hll
        rw[decide_eq_true (by omega),Bool.true_and] at hle
        have htb:(o3 c.reg c.lets y.drawing).dims.length<1000000:=by
         obtain⟨hm,_⟩:=X9 hck hlet hym
         have:=(hsr.2 _ hm).2.2.2;omega
        generalize o3 c.reg c.lets y.drawing=t at *
        have hwd:IntKind.i64.wrap ((t.dims.length:Int)-1)=(t.dims.length:Int)-1:=n8 (by omega) (by omega)
        have k3:=dh (G:=G) y.dim 0 ((t.dims.length:Int)-1)
        rw[← hle] at k3
        cases hq:T9 c x.links y
        ·rw[hq] at k3
         have hs:=za hli (za hgt hwd)
         repeat' first|(with_reducible first|refine zz ?_|refine zr ?_)|simp -dsimp[hs]|refine zq k1 ?_|refine zq k2 ?_|refine zq k3 ?_|refine zM 20 125 22 [0,1,2,3,4,5,6,7,8,9,31,43,72,77,89,100,124] ?_|with_reducible refine zE [0,1,2,3,4,5,6,7,8,9,31,43,72,77,89,100,124] ?_|refine i8 ?_ ?_<;>intro h<;>try simp only[i6] at h
         all_goals try clear hs
         rw[hE,s8 hst (by rw[hlx,s8 hst2 (by rw[hq];exact Bool.false_ne_true)];exact Bool.false_ne_true)]
        ·rw[hq] at k3
         have hs:=za hli (za hgt (za hwd hw2))
         repeat' first|with_reducible refine zz ?_|simp -dsimp[hs]|refine zq k1 ?_|refine zq k2 ?_|refine zq k3 ?_|refine zM 20 125 22 [0,1,2,3,4,5,6,7,8,9,31,43,72,77,89,100,124] ?_|with_reducible refine zE [0,1,2,3,4,5,6,7,8,9,31,43,72,77,89,100,124] ?_|refine i8 ?_ ?_<;>intro h<;>try simp only[i6] at h
         all_goals try clear hs
         exact zn ⟨u+1,by omega,D3 hst2 hq⟩ (zw [1,2,3,4,5,6] 3)
     ·have hok:x.links.all (T9 c x.links)=true:=by rw[hal2,List.drop_eq_nil_of_le (by omega)];rfl
      have hs:=za hlu hw
      repeat' first|(with_reducible first|refine zz ?_|refine zE [0,1,2,3,4,5,6,7,8,9,31,43,72,77,89,100,124] ?_)|simp -dsimp[hs]|refine i8 ?_ ?_<;>intro h<;>try simp only[i6] at h
      all_goals try clear hs
      exact zn ⟨j+1,by omega,D3 hst (by rw[hlx,hok])⟩ (zw [1,2,3,4] 1)
    ·have hok:c.loops.all (J9 c)=true:=by rw[hall,List.drop_eq_nil_of_le (by omega)];rfl
     have hs:=hlj
     repeat' first|(with_reducible first|refine zz ?_|refine zr ?_|refine zE [0,1,2,3,4,5,6,7,8,9,31,43,72,77,89,100,124] ?_)|simp -dsimp[hs]|refine i8 ?_ ?_<;>intro h<;>try simp only[i6] at h
     all_goals try clear hs
     rw[hE,hok]
   ·have hd:(decide ((1:Int)≤(c.loops.length:Int))&&decide ((c.loops.length:Int)≤6))=false:=by simp;omega
    have hE:G0 c=false:=by simp[G0,hn]
    have hz:¬ idx (nums c.reg) c.of<0:=fun h=>him.1 h hof
    rw[hlet] at c1
    rw[hd] at c4
    have hs:=hz
    repeat' first|(with_reducible first|refine zz ?_|refine zr ?_)|simp -dsimp[hs]|refine zq c1 ?_|refine zq c2 ?_|refine zq c3 ?_|refine zq c4 ?_|refine zM 1 125 22 [0,1,2,3,4,5,6,7,8,9,31,43,72,77,89,100,124] ?_|with_reducible refine zE [0,1,2,3,4,5,6,7,8,9,31,43,72,77,89,100,124] ?_|refine i8 ?_ ?_<;>intro h<;>try simp only[i6] at h
    all_goals try clear hs
    rw[hE]
  ·have hE:G0 c=false:=by simp[G0,hof]
   have hz:idx (nums c.reg) c.of<0:=him.2 hof
   rw[hlet] at c1
   have hs:=hz
   repeat' first|(with_reducible first|refine zz ?_|refine zr ?_)|simp -dsimp[hs]|refine zq c1 ?_|refine zq c2 ?_|refine zq c3 ?_|refine zM 1 125 22 [0,1,2,3,4,5,6,7,8,9,31,43,72,77,89,100,124] ?_|with_reducible refine zE [0,1,2,3,4,5,6,7,8,9,31,43,72,77,89,100,124] ?_|refine i8 ?_ ?_<;>intro h<;>try simp only[i6] at h
   all_goals try clear hs
   rw[hE]
 ·have hlet':n5 c.reg c.lets=false:=by simpa using hlet
  have hE:G0 c=false:=by simp[G0,hlet']
  rw[hlet'] at c1
  have hs:=trivial
  repeat' first|(with_reducible first|refine zz ?_|refine zr ?_)|simp -dsimp[hs]|refine zq c1 ?_|refine zM 1 125 22 [0,1,2,3,4,5,6,7,8,9,31,43,72,77,89,100,124] ?_|with_reducible refine zE [0,1,2,3,4,5,6,7,8,9,31,43,72,77,89,100,124] ?_|refine i8 ?_ ?_<;>intro h<;>try simp only[i6] at h
  all_goals try clear hs
  rw[hE]
theorem nu {c:Chains} (h0:j9 c.reg=0):p8 c=if G0 c then 0 else 60:=by
 rw[ge h0]
 have:(G0 c=true)=(n5 c.reg c.lets=true∧c.of∈nums c.reg∧(1≤c.loops.length∧c.loops.length≤6)∧c.loops.all (J9 c)=true):=by
  simp only[G0,Bool.and_eq_true,decide_eq_true_eq,and_assoc]
 by_cases h:G0 c=true
 ·rw[if_pos h,if_pos (this ▸ h)]
 ·rw[if_neg h,if_neg (this ▸ h)]
theorem qq (c:Chains) (hs:T3 c):zP prog G 292 [gS c] (iv (p8 c)):=by
 refine zf func292 ntmps292 ?_
 try simp only[gS]
 have c1:=nU (G:=G) c.reg hs.1
 by_cases hck:j9 c.reg=0
 ·have c2:=tF (G:=G) c hs hck
  have hE:=nu hck
  rw[hck] at c1
  cases hq:G0 c
  ·rw[hq] at c2 hE
   have hs:=trivial
   repeat' first|(with_reducible first|refine zz ?_|refine zr ?_|refine zE [0,1,2,3,8,12] ?_)|simp -dsimp[hs]|refine zp c1 ?_|refine zp c2 ?_|refine i8 ?_ ?_<;>intro h<;>try simp only[i6] at h
   all_goals try clear hs
   simp[hE]
  ·rw[hq] at c2 hE
   have hs:=trivial
   repeat' first|(with_reducible first|refine zz ?_|refine zr ?_|refine zE [0,1,2,3,8,12] ?_)|simp -dsimp[hs]|refine zp c1 ?_|refine zp c2 ?_|refine i8 ?_ ?_<;>intro h<;>try simp only[i6] at h
   all_goals try clear hs
   simp[hE]
 ·have hE:p8 c=j9 c.reg:=by simp[p8,hck]
  have hs:=hck
  repeat' first|(with_reducible first|refine zz ?_|refine zr ?_|refine zE [0,1,2,3,8,12] ?_)|simp -dsimp[hs]|refine zp c1 ?_|refine i8 ?_ ?_<;>intro h<;>try simp only[i6] at h
  all_goals try clear hs
  simp[hE]
theorem yq (c:Chains) (n:Int) (hs:T3 c):zP prog G 255 [gS c,iv n] (iv (u4 c n)):=by
 refine zf func255 ntmps255 ?_
 try simp only[gS,iv]
 have c1:=qq (G:=G) c hs
 have hl:=hs.2.2.1
 have hw:IntKind.i64.wrap ((c.loops.length:Int)-1)=(c.loops.length:Int)-1:=n8 (by omega) (by omega)
 have c2:=dh (G:=G) n 0 ((c.loops.length:Int)-1)
 have hE:u4 c n=if p8 c≠0 then p8 c else if 0≤n∧n<c.loops.length then 0 else 2:=rfl
 by_cases hck:p8 c=0
 ·rw[hck] at c1 hE
  by_cases hr:0≤n∧n<c.loops.length
  ·have hq:(decide (0≤n)&&decide (n≤(c.loops.length:Int)-1))=true:=by simp;omega
   rw[hq] at c2
   have hs:=hw
   repeat' first|(with_reducible first|refine zz ?_|refine zr ?_|refine zE [0,1,2,4,5,9,17] ?_)|simp -dsimp[hs]|refine zp c1 ?_|refine zp c2 ?_|refine i8 ?_ ?_<;>intro h<;>try simp only[i6] at h
   all_goals try clear hs
   simp[hE,hr]
  ·have hq:(decide (0≤n)&&decide (n≤(c.loops.length:Int)-1))=false:=by
    rw[← Bool.not_eq_true];simp;omega
   rw[hq] at c2
   have hs:=hw
   repeat' first|(with_reducible first|refine zz ?_|refine zr ?_|refine zE [0,1,2,4,5,9,17] ?_)|simp -dsimp[hs]|refine zp c1 ?_|refine zp c2 ?_|refine i8 ?_ ?_<;>intro h<;>try simp only[i6] at h
   all_goals try clear hs
   simp[hE,hr]
 ·have hs:=hck
  repeat' first|(with_reducible first|refine zz ?_|refine zr ?_|refine zE [0,1,2,4,5,9,17] ?_)|simp -dsimp[hs]|refine zp c1 ?_|refine i8 ?_ ?_<;>intro h<;>try simp only[i6] at h
  all_goals try clear hs
  simp[hE,hck]
theorem wz (c:Chains) (n:Int) (hs:T3 c):zP prog G 206 [gS c,iv n] (.tup [C9 (nX c n) (nZ c n),iv (u4 c n)]):=by
 refine zf func206 ntmps206 ?_
 try simp only[gS,iv]
 have c1:=yq (G:=G) c n hs
 by_cases hE:u4 c n=0
 ·obtain⟨hck,k,rfl,hk⟩:=aj hE
  have hx:c.loops[k]?=some c.loops[k]:=by simp[hk]
  have c2:=wp (G:=G) c k hk hs (Ge hck)
  have h1:nX c (k:Int)=ae c.loops[k].links (J3 c c.loops[k]) false:=by rw[nX,if_pos hE];simp only[Ex,Int.toNat_natCast,hx]
  have h2:nZ c (k:Int)=ae c.loops[k].links (J3 c c.loops[k]) true:=by rw[nZ,if_pos hE];simp only[EN,Int.toNat_natCast,hx]
  rw[← h1,← h2] at c2
  rw[hE] at c1
  simp only[C9] at c2
  have hs:=trivial
  repeat' first|(with_reducible first|refine zz ?_|refine zr ?_|refine zE [0,1,2,4,5,6,11] ?_)|simp -dsimp[hs]|refine zp c1 ?_|refine zp c2 ?_|refine i8 ?_ ?_<;>intro h<;>try simp only[i6] at h
  all_goals try clear hs
  all_goals simp[hE]
 ·rw[nX,nZ,if_neg hE,if_neg hE]
  have hs:=hE
  repeat' first|(with_reducible first|refine zz ?_|refine zr ?_|refine zE [0,1,2,4,5,6,11] ?_)|simp -dsimp[hs]|refine zp c1 ?_|refine i8 ?_ ?_<;>intro h<;>try simp only[i6] at h
  all_goals try clear hs
theorem tE (c:Chains) (n:Int) (hs:T3 c):zP prog G 146 [gS c,iv n] (.tup [vA (C6 c n),iv (u4 c n)]):=by
 refine zf func146 ntmps146 ?_
 try simp only[gS,iv]
 have c1:=wz (G:=G) c n hs
 by_cases hE:u4 c n=0
 ·obtain⟨hck,k,rfl,hk⟩:=aj hE
  have hx:c.loops[k]?=some c.loops[k]:=by simp[hk]
  have hK:C6 c (k:Int)=if c.loops[k].lo≤nX c (k:Int)∧nZ c (k:Int)≤c.loops[k].hi then 2 else if nZ c (k:Int)<c.loops[k].lo∨c.loops[k].hi<nX c (k:Int) then 0 else 1:=by simp only[C6,FP,Int.toNat_natCast,hx,if_pos hE]
  generalize nX c (k:Int)=a at *
  generalize nZ c (k:Int)=b at *
  simp only[C9,hE] at c1
  have hs:=za hx hk
  repeat' first|(with_reducible first|refine zz ?_|refine zr ?_|refine zE [0,1,2,4,5,6,7,8,16,24,37] ?_)|simp -dsimp[hs]|refine zp c1 ?_|refine i8 ?_ ?_<;>intro h<;>try simp only[i6] at h|with_reducible refine j0 ?_ ?_<;>intro h<;>have h0:=h<;>(try simp only[i6] at h)<;>have h2:=h<;>(try simp at h2)<;>replace hs:=za h0 (za h (za h2 hs))
  all_goals try clear hs
  all_goals first
   | (exfalso;omega)
   | (rw[if_pos (by omega)] at hK;simp[hK,hE];done)
   | (rw[if_neg (by omega),if_pos (by omega)] at hK;simp[hK,hE];done)
   | (rw[if_neg (by omega),if_neg (by omega)] at hK;simp[hK,hE])
 ·have hK:C6 c n=0:=by simp[C6,hE]
  have hs:=hE
  repeat' first|(with_reducible first|refine zz ?_|refine zr ?_|refine zE [0,1,2,4,5,6,7,8,16,24,37] ?_)|simp -dsimp[hs]|refine zp c1 ?_|refine i8 ?_ ?_<;>intro h<;>try simp only[i6] at h
  all_goals try clear hs
  all_goals simp[hK]
end Go.Proofs
namespace Go.Ab
open Go
structure Spot where
 drawing:Int
 dim:Int
 deriving DecidableEq
def iX (x:Spot):List IC:=[rI x.drawing,rI x.dim]
def BF (l:List Spot):DV:=.one (.im (.sl (l.map iX)))
attribute [simp] iX BF
def rA (a b:Spot):Bool:=decide (a.drawing<b.drawing)||(decide (a.drawing=b.drawing)&&decide (a.dim<b.dim))
def xq (x:Spot):List Spot→Nat
 | []=>0
 | y :: r=>if rA y x then xq x r+1 else 0
def FI (x:Spot) (l:List Spot):List Spot:=l.take (xq x l)++x :: l.drop (xq x l)
def FX (f:Spot→Bool) (out:List Spot) (x:Spot):List Spot:=if f x=false∨x∈out then out else FI x out
def FW (f:Spot→Bool) (l:List Spot):List Spot:=l.foldl (FX f) []
def kS (x:Spot):List Value:=[.int .i64 x.drawing,.int .i64 x.dim]
def uw (l:List Spot):List (List Value×List DC):=l.map fun x=>(kS x,[.im (rB true)])
def Bu (l:List Spot):List (List Value×List IC):=l.map fun x=>(kS x,[rB true])
@[simp] theorem FD (k n:Nat) (objs:List DObj) (l:List Spot):J5 (fun x:List Value×List DC=>(J5 (frz (k+1) n objs) x.2).map fun l=>(x.1,l)) (uw l)=some (Bu l):=by
 induction l with
 | nil=>rfl
 | cons p r ih =>
   have e:uw (p :: r)=(kS p,[.im (rB true)]) :: uw r:=rfl
   rw[e]
   simp[J5,ih,Bu]
@[simp] theorem Et (n:Nat) (objs:List DObj) (l:List Spot):((uw l).map fun x=>(x.1,x.2.map (fz n objs)))=uw l:=by
 simp[uw,fz,DC.lt]
@[simp] theorem EJ (L:List Spot) (k:Nat) (h:k<(n4 (L.map iX)).length):(n4 (L.map iX))[k]=[DC.im (.raw (.int .i64 (L[k]'(by simpa[o2] using h)).drawing)),DC.im (.raw (.int .i64 (L[k]'(by simpa[o2] using h)).dim))]:=by
 simp[n4]
end Go.Ab
namespace Go.Proofs
open Go Go.Ab
def vW (y:Link):Spot:=⟨y.drawing,y.dim⟩
def Em (d:Dim):Int:=min (max d.nominal d.lower) d.upper
def BD (d:Dim) (g:Int):Dim:=⟨d.nominal,max d.lower (Em d-g),min d.upper (Em d+g)⟩
def FO (c:Chains) (so:Spot→Bool) (g:Int) (y:Link):Dim:=if so (vW y) then BD (R7 c y) g else R7 c y
def Ga (c:Chains) (so:Spot→Bool) (g:Int) (x:ChLoop):List Dim:=x.links.map (FO c so g)
def GF (c:Chains) (so:Spot→Bool) (g:Int) (x:ChLoop):Int:=ae x.links (Ga c so g x) false
def GI (c:Chains) (so:Spot→Bool) (g:Int) (x:ChLoop):Int:=ae x.links (Ga c so g x) true
def AP (c:Chains) (so:Spot→Bool) (g:Int) (x:ChLoop):Bool:=decide (x.lo≤GF c so g x)&&decide (GI c so g x≤x.hi)
def FV (c:Chains) (so:Spot→Bool) (g:Int):Bool:=c.loops.all (AP c so g)
def iN (c:Chains):List Spot:=c.loops.flatMap fun x=>x.links.map vW
def Cu (c:Chains) (x:Spot):Bool:=decide ((o3 c.reg c.lets x.drawing).kind≠3)
def px (c:Chains):List Spot:=FW (Cu c) (iN c)
def gs (p:Int→Bool):Nat→Int→Int→Int
 | 0,lo,_=>lo
 | k+1,lo,hi=>if lo<hi then (if p (hi-(hi-lo) / 2) then gs p k (hi-(hi-lo) / 2) hi else gs p k lo (hi-(hi-lo) / 2-1)) else lo
def En (l:List Spot) (set:Nat):Nat→List Spot
 | 0=>[]
 | k+1=>En l set k++(match l[k]? with
   | some x=>if set.testBit k then [x] else []
   | none=>[])
def lexB:List Spot→List Spot→Bool
 | a :: l,b :: m=>if a=b then lexB l m else rA a b
 | _,_=>false
def vY (a b:List Spot):Bool:=decide (a.length<b.length)||(decide (a.length=b.length)&&lexB a b)
def AV (best:Option (List Spot)) (x:List Spot):Bool:=match best with
 | none=>true
 | some b=>vY x b
def Dz (good:List Spot→Bool) (best:Option (List Spot)) (x:List Spot):Option (List Spot):=if AV best x&&good x then some x else best
def BI (all:List Spot) (k:Nat):List (List Spot):=(List.range k).map fun s=>En all s all.length
def GH (l:List Spot):Spot→Bool:=fun x=>decide (x∈l)
def EO (c:Chains) (x:List Spot):Bool:=FV c (GH x) 0
def xN (c:Chains) (b0:Option (List Spot)) (k:Nat):Option (List Spot):=(BI (px c) k).foldl (Dz (EO c)) b0
def FN (c:Chains):Option (List Spot):=xN c none (2 ^ (px c).length)
open Go Go.Ab Tryz
variable {G:GW}
def SoF (G:GW) (c:Chains) (fv:IC) (so:Spot→Bool):Prop:=
 (∃ (f:FuncId) (caps:List IC),fv=.fn (.func f) caps∧D4 prog f∧∀ x∈iN c,∀ objs,DCall prog G f (C9 x.drawing x.dim :: caps.map fun c=>.one (.im c)) objs (fun d o=>d=bv (so x)∧o=objs)) ∨
 (∃ (f:FuncId) (l:List IC),fv=.bf (.func f) l∧D4 prog f∧∀ x∈iN c,∀ objs,DCall prog G f ((l.map fun c=>DV.one (.im c))++[C9 x.drawing x.dim]) objs (fun d o=>d=bv (so x)∧o=objs))
def kT:List Int→Int
 | []=>0
 | x :: r=>if x=0 then kT r else x
theorem DX (l:List Int) (hl:l.length<1000000):zP prog G 84 [n7 l] (iv (kT l)):=by
 refine zf func84 ntmps84 ?_
 try simp only[n7]
 have hs:=trivial
 repeat' first|(with_reducible first|refine zz ?_|refine zE [0,2,3,5,6,7,8,9,14] ?_)|simp -dsimp[hs]
 refine g9 (ι:={ p:Nat // p≤l.length∧kT l=kT (l.drop p) }) (fun p=>⟨18,[(3,iv 0),(6,.one (.im (.sl (l.map l7)))),(7,iv (l.length:Int)),(8,iv (p.1:Int))],[]⟩) (fun p=>l.length-p.1) ⟨0,by simp⟩ (zv [3,6,7,8]) ?_
 rintro⟨k,hk,hu⟩
 simp only[iv]
 by_cases hlt:k<l.length
 ·have hw:=zk k
  rw[List.drop_eq_getElem_cons hlt,kT] at hu
  generalize hx:l[k]=x at *
  have hs:=za hx (za hw hlt)
  repeat' first|(with_reducible first|refine zz ?_|refine zr ?_|refine zE [0,2,3,5,6,7,8,9,14] ?_)|simp -dsimp[hs]|refine i8 ?_ ?_<;>intro h<;>try simp only[i6] at h
  ·rw[hu,if_neg (by assumption)]
  ·rw[if_pos (by assumption)] at hu
   exact zn ⟨k+1,by omega,hu⟩ (zv [3,6,7,8])
 ·rw[List.drop_eq_nil_of_le (by omega)] at hu
  have hs:=hlt
  repeat' first|(with_reducible first|refine zz ?_|refine zr ?_|refine zE [0,2,3,5,6,7,8,9,14] ?_)|simp -dsimp[hs]|refine i8 ?_ ?_<;>intro h<;>try simp only[i6] at h
  rw[hu];rfl
attribute [simp] D6 lD E8 N8 nilV bu ZK
theorem SoF.congr {c:Chains} {fv:IC} {so so':Spot→Bool} (h:SoF G c fv so) (he:∀ x∈iN c,so x=so' x):SoF G c fv so':=by
 rcases h with⟨f,caps,h1,h2,h3⟩|⟨f,caps,h1,h2,h3⟩
 ·exact .inl ⟨f,caps,h1,h2,fun x hx objs=>(h3 x hx objs).mono fun d o ⟨a,b⟩=>⟨by rw[a,he x hx],b⟩⟩
 ·exact .inr ⟨f,caps,h1,h2,fun x hx objs=>(h3 x hx objs).mono fun d o ⟨a,b⟩=>⟨by rw[a,he x hx],b⟩⟩
attribute [simp] D6 lD E8 N8 nilV bu ZK
attribute [simp] D6 lD CS ET E8 N8 nilV bu ZK
@[simp] theorem Dm (L:List ChLoop) (k:Nat) (h:k<(n4 (L.map D7)).length):(n4 (L.map D7))[k]=[DC.im (.sl ((L[k]'(by simpa[o2] using h)).links.map G8)),DC.im (.raw (.int .i64 (L[k]'(by simpa[o2] using h)).lo)),DC.im (.raw (.int .i64 (L[k]'(by simpa[o2] using h)).hi))]:=by
 simp[n4,D7,rI]
@[simp] theorem Dl (L:List Issue) (k:Nat) (h:k<(n4 (L.map e9)).length):(n4 (L.map e9))[k]=(e9 (L[k]'(by simpa[o2] using h))).map .im:=by
 simp[n4]
def bB (l:List Issue) (d:Int):DV:=if j9 l=0∧d∈nums l then .one (.im (s7 l (nums l))) else .one (.im (.raw (.pointer none)))
theorem ud (l:List Issue) (d:Int):ImV (bB l d):=by unfold bB;split<;>simp[s7]
attribute [simp] ud
def Y7 (l:List Issue) (d:Int):Int:=if j9 l≠0 then j9 l else if d∈nums l then 0 else 6
theorem An (l:List Issue) (d:Int) (hG:s6 G) (hs:T2 l):zP prog G 209 [A8 l,iv d] (.tup [bB l d,iv (Y7 l d)]):=by
 refine zf func209 ntmps209 ?_
 try simp only[A8,iv]
 have c1:=fx l hG hs
 by_cases h0:j9 l=0
 ·simp only[ba,h0,if_true] at c1
  have c2:=xx (G:=G) l (nums l) d ((C2 h0).1.imp fun h=>Int.le_of_lt h) (by have:=hs.1;have:=n0 l l.length;unfold nums;omega)
  by_cases hm:d∈nums l
  ·simp only[hm,decide_true,s7] at c1 c2
   have hs:=trivial
   repeat' first|(with_reducible first|refine zz ?_|refine zr ?_|refine zE [0,1,2,4,5,6,7,14,19] ?_)|simp -dsimp[hs]|refine zp c1 ?_|refine zp c2 ?_|refine i8 ?_ ?_<;>intro h<;>try simp only[i6] at h
   all_goals try clear hs
   all_goals simp[bB,Y7,h0,hm,s7]
  ·simp only[hm,decide_false,s7] at c1 c2
   have hs:=trivial
   repeat' first|(with_reducible first|refine zz ?_|refine zr ?_|refine zE [0,1,2,4,5,6,7,14,19] ?_)|simp -dsimp[hs]|refine zp c1 ?_|refine zp c2 ?_|refine i8 ?_ ?_<;>intro h<;>try simp only[i6] at h
   all_goals try clear hs
   all_goals simp[bB,Y7,h0,hm,s7]
 ·simp only[ba,h0,if_false] at c1
  have hs:=h0
  repeat' first|(with_reducible first|refine zz ?_|refine zr ?_|refine zE [0,1,2,4,5,6,7,14,19] ?_)|simp -dsimp[hs]|refine zp c1 ?_|refine i8 ?_ ?_<;>intro h<;>try simp only[i6] at h
  all_goals try clear hs
  all_goals simp[bB,Y7,h0]
def dN (l:List Issue) (d:Int):Nat:=(l.filter fun x=>decide (x.drawing=d)).length
theorem zA {l:List Issue} {d:Int} (hs:(l.map (·.drawing)).Pairwise (·≤·)):dN l d=dN (l.drop (lb (l.map (·.drawing)) d)) d:=by
 conv=>lhs;rw[← List.take_append_drop (lb (l.map (·.drawing)) d) l]
 simp only[dN,List.filter_append]
 rw[List.filter_eq_nil_iff.2 fun x hx=>?_]
 ·rfl
 ·have:=qh hs x hx
  simp;omega
theorem Am (l:List Issue) (ds:List Int) (d:Int) (hs:(l.map (·.drawing)).Pairwise (·≤·)) (hl:l.length<1000000):zP prog G 210 [.one (.im (s7 l ds)),iv d] (iv (dN l d:Int)):=by
 refine zf func210 ntmps210 ?_
 try simp only[iv]
 simp only[s7]
 have c1:=jX (G:=G) (s7 l ds) d
 simp only[s7] at c1
 have hs:=trivial
 repeat' first|(with_reducible first|refine zz ?_|refine zE [0,1,4,5,8] ?_)|simp -dsimp[hs]|refine zp c1 ?_
 all_goals try clear hs
 refine Q9 (f:=280) (by simp;exact rfl) (by rfl) call280 ?_
 generalize hR:LoopD.mk _ _ _ _ _ _ _=R
 have hR1:R.st=.ready:=by rw[← hR]
 have hR2:R.pend=none:=by rw[← hR]
 have hR3:R.at .ready none=R:=by rw[← hR];rfl
 have hR4:=(congrArg LoopD.nt hR).symm
 have hR5:=(congrArg LoopD.tm hR).symm
 have hR6:=(congrArg LoopD.ps hR).symm
 have hR7:=(congrArg LoopD.asg hR).symm
 have hR8:=(congrArg LoopD.body hR).symm
 dsimp only at hR4 hR5 hR6 hR7 hR8
 clear hR
 refine i7 func280 rfl ntmps280 (by simp) rfl ?_
 have hR9:∀ objs:List DObj,(R.tm.map fun x=>(x.1,eV 2 objs x.2))=R.tm:=by intro objs;rw[hR5];simp
 have hlb:=oG (l.map (·.drawing)) d
 rw[List.length_map] at hlb
 have c2:=eP (G:=G) l d hs hl
 have hs:=za hR1 (za hR2 (za hR3 hlb))
 repeat' first|with_reducible refine zz ?_|simp -dsimp[hs]|refine zq c2 ?_|refine zM 0 41 12 [0,1,2,4,7,24,25,26,27,39] ?_|with_reducible refine zE [0,1,2,4,5,7,8,24,25,26,27,39] ?_
 all_goals try clear hs
 rw[← List.map_drop]
 have hge:=qi (d:=d) hs
 have hss:((l.drop (lb (l.map (·.drawing)) d)).map (·.drawing)).Pairwise (·≤·):=by rw[List.map_drop];exact hs.drop
 have hsl:l.length-lb (l.map (·.drawing)) d=(l.drop (lb (l.map (·.drawing)) d)).length:=by simp
 rw[hsl]
 have hsl2:(l.drop (lb (l.map (·.drawing)) d)).length<1000000:=by simp;omega
 rw[zA hs]
 generalize l.drop (lb (l.map (·.drawing)) d)=s at hge hss hsl2 ⊢
 refine g9 (ι:={ k:Nat // k≤s.length∧k+dN (s.drop k) d=dN s d }) (fun p=>⟨41,[(0,.one (.yld 1)),(2,.one (.im (.ip [rI d]))),(24,.one (.im (.sl (s.map e9)))),(25,iv (s.length:Int)),(26,iv (p.1:Int))],[.row [.im (rI (p.1:Int))],.loop R]⟩) (fun p=>s.length-p.1) ⟨0,by simp⟩ (zv [0,2,24,25,26]) ?_
 rintro⟨k,hk,hno⟩
 simp only[iv]
 by_cases hlt:k<s.length
 ·have hx:s[k]?=some s[k]:=by simp[hlt]
  have hw:=zk k
  have hcons:s.drop k=s[k] :: s.drop (k+1):=List.drop_eq_getElem_cons hlt
  by_cases hd:s[k].drawing=d
  ·have hno':k+1+dN (s.drop (k+1)) d=dN s d:=by
    rw[← hno,dN,dN,hcons,List.filter_cons_of_pos (by simp[hd]),List.length_cons];omega
   have hs:=za hR1 (za hR2 (za hR3 (za hx (za hw (za hd hlt)))))
   repeat' first|(with_reducible first|refine zz ?_|refine zE [0,1,2,4,5,7,8,24,25,26,27,39] ?_)|simp -dsimp[hs]|with_reducible refine At.yield_end ?_;simp -dsimp[hs]|refine ap ?_ ?_<;>simp -dsimp[hs]|refine O9 ?_;simp -dsimp[Q8,hR4,hR5,hR6,hR7,hR8,hs]|refine i8 ?_ ?_<;>intro h<;>try simp only[i6] at h
   all_goals try clear hs
   all_goals exact zn ⟨k+1,by omega,hno'⟩ (zw [0,2,24,25,26] 2 (by simp[hR9]))
  ·have hnone:dN (s.drop k) d=0:=by
    simp only[dN,List.length_eq_zero_iff,List.filter_eq_nil_iff]
    intro x hxm
    obtain⟨i,hi⟩:=List.mem_iff_getElem?.1 hxm
    rw[List.getElem?_drop] at hi
    have h1:s[k].drawing≤x.drawing:=by
     rcases Nat.eq_zero_or_pos i with rfl|hp
     ·rw[Nat.add_zero,hx] at hi;cases hi;exact Int.le_refl _
     ·have hlt2:=(List.getElem?_eq_some_iff.1 hi).1
      have:=(List.pairwise_iff_getElem.1 hss) k (k+i) (by simpa using hlt) (by simpa using hlt2) (by omega)
      have h6:=(List.getElem?_eq_some_iff.1 hi).2
      simp at this;rw[h6] at this;exact this
    have h2:=hge s[k] (List.getElem_mem hlt)
    simp;omega
   have hN:dN s d=k:=by omega
   have hs:=za hR1 (za hR2 (za hR3 (za hx (za hw (za hd hlt)))))
   repeat' first|(with_reducible first|refine zz ?_|refine zr ?_ (by simp -dsimp[B9,hs];exact rfl)|refine zE [0,1,2,4,5,7,8,24,25,26,27,39] ?_)|simp -dsimp[B9,hs]|with_reducible show B9 _ _ _ _ _ _ _ _;simp -dsimp[B9,hs]|refine i8 ?_ ?_<;>intro h<;>try simp only[i6] at h
   all_goals try clear hs
   all_goals simp[hN]
 ·have hN:dN s d=k:=by rw[← hno,List.drop_eq_nil_of_le (by omega)];simp[dN]
  have hs:=za hR1 (za hR2 (za hR3 hlt))
  repeat' first|(with_reducible first|refine zz ?_|refine zr ?_ (by simp -dsimp[B9,hs];exact rfl)|refine ze ?_ (by simp -dsimp[B9,hs];exact rfl)|refine zE [0,1,2,4,5,7,8,24,25,26,27,39] ?_)|simp -dsimp[B9,hs]|with_reducible show B9 _ _ _ _ _ _ _ _;simp -dsimp[B9,hs]|refine i8 ?_ ?_<;>intro h<;>try simp only[i6] at h
  all_goals try clear hs
  all_goals simp[hN]
def xf (l:List Issue) (d:Int):Int:=if Y7 l d=0 then (dN l d:Int) else 0
theorem zT (l:List Issue) (d:Int) (hG:s6 G) (hs:T2 l):zP prog G 154 [A8 l,iv d] (.tup [iv (xf l d),iv (Y7 l d)]):=by
 refine zf func154 ntmps154 ?_
 try simp only[A8,iv]
 have c1:=An (G:=G) l d hG hs
 by_cases h0:Y7 l d=0
 ·have hk:j9 l=0∧d∈nums l:=by
   unfold Y7 at h0
   by_cases h1:j9 l=0
   ·refine⟨h1,?_⟩
    rw[if_neg (by simp[h1])] at h0
    by_cases h2:d∈nums l
    ·exact h2
    ·rw[if_neg h2] at h0;cases h0
   ·rw[if_pos h1] at h0;exact absurd h0 h1
  have c2:=Am (G:=G) l (nums l) d (bM hk.1) (by have:=hs.1;omega)
  rw[bB,if_pos hk,h0] at c1
  rw[xf,if_pos h0,h0]
  simp only[s7] at c1 c2
  have hs:=trivial
  repeat' first|(with_reducible first|refine zz ?_|refine zr ?_|refine zE [0,1,2,4,5,6,7,15] ?_)|simp -dsimp[hs]|refine zp c1 ?_|refine zp c2 ?_|refine i8 ?_ ?_<;>intro h<;>try simp only[i6] at h
  all_goals try clear hs
 ·rw[xf,if_neg h0]
  generalize hX:bB l d=X at c1
  have hXo:∃ x,X=.one (.im x):=by subst hX;unfold bB;split<;>exact⟨_,rfl⟩
  obtain⟨x,rfl⟩:=hXo
  generalize Y7 l d=e at *
  have hs:=h0
  repeat' first|(with_reducible first|refine zz ?_|refine zr ?_|refine zE [0,1,2,4,5,6,7,15] ?_)|simp -dsimp[hs]|refine zp c1 ?_|refine i8 ?_ ?_<;>intro h<;>try simp only[i6] at h
  all_goals try clear hs
end Go.Proofs
namespace Go.Ab
open Go
structure Piece where
 holder:Int
 day:Int
 lo:Int
 hi:Int
 deriving DecidableEq
structure Case where
 p:Prints
 machine:Int
 of:Int
 loop:ChLoop
 pieces:List Piece
 deriving DecidableEq
def I7 (x:Piece):List IC:=[rI x.holder,rI x.day,rI x.lo,rI x.hi]
def j4 (c:Case):List IC:=[.sl (c.p.n.reg.map e9),.sl (c.p.n.notes.map l9),.sl (c.p.holders.map o7),.sl (c.p.prints.map w7),rI c.machine,rI c.of,.sl (c.loop.links.map G8),rI c.loop.lo,rI c.loop.hi,.sl (c.pieces.map I7)]
def Cb (x:Piece):DV:=.agg ((I7 x).map .im)
def m6 (c:Case):DV:=.agg ((j4 c).map .im)
attribute [simp] I7 j4 Cb m6
end Go.Ab
namespace Go.Proofs
open Go Go.Ab
variable {G:GW}
theorem uj (x lo hi:Int):DCall Tryz.prog G 157 (iv x :: [DC.ptr 0 0,DC.ptr 1 0].map .one) [.row [.im (rI lo)],.row [.im (rI hi)]] (fun d o=>d=bv (decide (x<lo)||decide (hi<x))∧o=[.row [.im (rI lo)],.row [.im (rI hi)]]):=by
 refine i7 Tryz.func157 rfl Tryz.ntmps157 (by simp) rfl ?_
 simp only[rI]
 have hs:=trivial
 repeat' first|(with_reducible first|refine zz ?_|refine zr ?_|refine zE [0,1,2,4] ?_)|simp -dsimp[hs]|with_reducible refine j0 ?_ ?_<;>intro h<;>have h0:=h<;>(try simp only[i6] at h)<;>have h2:=h<;>(try simp at h2)<;>replace hs:=za h0 (za h (za h2 hs))|with_reducible refine And.intro ?_ ?_
 all_goals try clear hs
 all_goals simp[*]
theorem Z0 (lo hi:Int) (l:List Int) (hl:l.length<1000000):zP Tryz.prog G 96 [iv lo,iv hi,n7 l] (bv (l.all fun x=>decide (lo≤x)&&decide (x≤hi))):=by
 refine zf Tryz.func96 Tryz.ntmps96 ?_
 try simp only[iv,iv,n7]
 have hc:=C1 (G:=G) l (fun x=>decide (x<lo)||decide (hi<x)) 157 [.ptr 0 0,.ptr 1 0] [.row [.im (rI lo)],.row [.im (rI hi)]] (by simp) (fun x _=>uj x lo hi) hl
 simp only[rI] at hc
 repeat' first|(with_reducible first|refine zz ?_|refine zx ?_|refine zE [0,1,2,3,4,6] ?_)|simp -dsimp|refine CallE.here hc ?_
 rw[Bool.eq_iff_iff];simp
 exact exists_congr fun x=>and_congr_right fun _=>by omega
def aC (lo hi a b:Int):Bool:=decide (a≤lo∧lo≤b∧a≤hi∧hi≤b∧lo≤hi)
theorem fK (lo hi a b:Int):zP Tryz.prog G 97 [C9 lo hi,iv a,iv b] (bv (aC lo hi a b)):=by
 refine zf Tryz.func97 Tryz.ntmps97 ?_
 try simp only[C9,iv,iv]
 have c1:=Z0 (G:=G) a b [lo,hi] (by simp)
 generalize hb:([lo,hi].all fun y=>decide (a≤y)&&decide (y≤b))=q at c1
 cases q
 ·repeat' first|(with_reducible first|refine zz ?_|refine zx ?_|refine zE [0,1,2,3,6] ?_)|simp -dsimp|refine zt c1 ?_ ?_ ?_;(focus simp;done);focus (simp;done)
  all_goals simp at hb
  all_goals simp[aC]
  all_goals omega
 ·simp at hb
  repeat' first|(with_reducible first|refine zz ?_|refine zx ?_|refine zE [0,1,2,3,6] ?_)|simp -dsimp|refine zt c1 ?_ ?_ ?_;(focus simp;done);focus (simp;done)
  all_goals simp[aC]
  all_goals first|omega|(rw[Bool.eq_iff_iff];simp;omega)
end Go.Proofs
namespace Go.Proofs
open Go Go.Ab
variable {G:GW}
def H2 (c:Case) (l:Link) (x:Piece):Bool:=(match n9 c.p.n.reg l.drawing 1 with|some y=>!decide (y.kind=1)|none=>false)&&(decide (0≤l.dim∧l.dim≤3)&&((c.p.holders.any fun y=>decide (y.id=x.holder))&&(decide (0≤x.day∧x.day≤14610)&&aC x.lo x.hi 0 1000000000)))
def Z9 (c:Case):Bool:=decide (c.of∈nums c.p.n.reg)&&(decide (1≤c.machine∧c.machine≤999)&&(decide (1≤c.loop.links.length∧c.loop.links.length≤8)&&(decide (c.pieces.length=c.loop.links.length)&&(aC c.loop.lo c.loop.hi (-8000000000) 8000000000&&(c.loop.links.zip c.pieces).all fun q=>H2 c q.1 q.2))))
noncomputable def B8 (c:Case):Int:=if p5 c.p≠0 then p5 c.p else if Z9 c=true then 0 else 100
structure KC (c:Case):Prop where
 p:KP c.p
 l:c.loop.links.length≤16
 q:c.pieces.length≤16
open Go Go.Ab Tryz
theorem F6 {c:Case} (h:B8 c=0):p5 c.p=0∧Z9 c=true:=by
 unfold B8 at h
 by_cases h0:p5 c.p=0
 ·rw[if_neg (by simp[h0])] at h
  refine⟨h0,?_⟩
  by_cases h1:Z9 c=true
  ·exact h1
  ·rw[if_neg h1] at h;exact absurd h (by decide)
 ·rw[if_pos h0] at h;exact absurd h h0
theorem E1 {p:Prints} (h:p5 p=0):q8 p.n=0∧C4 p=true∧j9 p.n.reg=0:=by
 have hn:q8 p.n=0:=by
  refine Classical.byContradiction fun h1=>?_
  unfold p5 at h;rw[if_pos h1] at h;exact h1 h
 refine⟨hn,?_,?_⟩
 ·refine Classical.byContradiction fun h1=>?_
  unfold p5 at h;rw[if_neg (by simp[hn]),if_neg h1] at h;exact absurd h (by decide)
 ·refine Classical.byContradiction fun h1=>?_
  unfold q8 at hn;rw[if_pos h1] at hn;exact h1 hn
def ce (c:Case):Bool:=decide (c.of∈nums c.p.n.reg)&&(decide (1≤c.machine∧c.machine≤999)&&(decide (1≤c.loop.links.length∧c.loop.links.length≤8)&&(decide (c.pieces.length=c.loop.links.length)&&aC c.loop.lo c.loop.hi (-8000000000) 8000000000)))
theorem N1 (c:Case):Z9 c=(ce c&&(c.loop.links.zip c.pieces).all fun q=>H2 c q.1 q.2):=by
 simp only[Z9,ce,Bool.and_assoc]
theorem eW {α β:Type} {f:α×β→Bool} {l:List α} {m:List β} {k:Nat} (h1:k<l.length) (h2:k<m.length) (hno:(l.zip m).all f=((l.zip m).drop k).all f):(l.zip m).all f=true↔f (l[k],m[k])=true∧((l.zip m).drop (k+1)).all f=true:=by
 have h3:k<(l.zip m).length:=by rw[List.length_zip];omega
 have:=Q7 h3 hno
 rw[List.getElem_zip] at this
 exact this
theorem uO (x:Piece) (y:Holder):DCall prog G 156 (ik y :: [DC.ptr 0 0].map .one) [.row ((I7 x).map .im)] (fun d o=>d=bv (decide (y.id=x.holder))∧o=[.row ((I7 x).map .im)]):=by
 refine DCall.drop ?_
 refine i7 func156 rfl ntmps156 (by simp) rfl ?_
 simp only[ik,o7,I7,rI]
 repeat' first|(with_reducible first|refine zz ?_|refine zx ?_|refine zE [0,1,2,3] ?_)|simp -dsimp|with_reducible refine And.intro ?_ ?_
theorem tW {c:Case} (h0:j9 c.p.n.reg=0) (l:Link) (x:Piece):H2 c l x=true↔yT c.p.n.reg l.drawing 1=0∧¬ (atR c.p.n.reg l.drawing 1).kind=1∧([l.dim].all fun y=>decide (0≤y)&&decide (y≤3))=true∧(c.p.holders.any fun y=>decide (y.id=x.holder))=true∧([x.day].all fun y=>decide (0≤y)&&decide (y≤14610))=true∧aC x.lo x.hi 0 1000000000=true:=by
 unfold H2 yT atR
 rw[if_neg (by simp[h0]),if_pos h0]
 cases n9 c.p.n.reg l.drawing 1 with
 | none=>simp
 | some y=>simp[and_assoc]
theorem yo (c:Case) (hG:s6 G) (hN:M7 G) (hS:C8 G) (hR:F0 G) (hk:KC c):zP prog G 95 [m6 c] (iv (B8 c)):=by
 refine zf func95 ntmps95 ?_
 try simp only[iv]
 have hl:=hk.l
 have hq:=hk.q
 have hhl:=hk.p.p.h
 have c1:=wA (G:=G) c.p hG hN hS hR hk.p
 simp only[r7,m8] at c1
 by_cases h0:p5 c.p=0
 ·obtain⟨hn0,hpb,hr0⟩:=E1 h0
  rw[h0] at c1
  have hE:B8 c=if Z9 c=true then 0 else 100:=by unfold B8;rw[if_neg (by simp[h0])]
  have c2:=zT (G:=G) c.p.n.reg c.of hG hk.p.n.1
  have hLE:Y7 c.p.n.reg c.of=if c.of∈nums c.p.n.reg then 0 else 6:=by unfold Y7;rw[if_neg (by simp[hr0])]
  rw[hLE] at c2
  have c3:=Z0 (G:=G) 1 999 [c.machine] (by simp)
  have c4:=Z0 (G:=G) 1 8 [(c.loop.links.length:Int)] (by simp)
  have c5:=fK (G:=G) c.loop.lo c.loop.hi (-8000000000) 8000000000
  simp only[A8,C9] at c2 c5
  cases h5:ce c
  ·have hB:Z9 c=false:=by rw[N1,h5,Bool.false_and]
   rw[hE,hB]
   simp only[ce] at h5
   generalize hb3:([c.machine].all fun y=>decide (1≤y)&&decide (y≤999))=b3 at c3
   generalize hb4:([(c.loop.links.length:Int)].all fun y=>decide (1≤y)&&decide (y≤8))=b4 at c4
   generalize hb5:aC c.loop.lo c.loop.hi (-8000000000) 8000000000=b5 at c5 h5
   have hs:True:=trivial
   by_cases hm:c.of∈nums c.p.n.reg
   ·rw[if_pos hm] at c2
    by_cases hlen:c.pieces.length=c.loop.links.length
    ·cases b3<;>cases b4<;>cases b5
     all_goals
      have hs:=hlen
      repeat' first|(with_reducible first|refine zz ?_|refine zr ?_|refine zE [0,1,2,3,4,6,7,8,9,10,11,12,17,64,67,68,69,70,118] ?_)|simp -dsimp[hs]|refine zp c1 ?_|refine zp c2 ?_|refine zt c3 ?_ ?_ ?_;(focus simp;done);focus (simp;done)|refine zt c4 ?_ ?_ ?_;(focus simp;done);focus (simp;done)|refine zp c5 ?_|refine i8 ?_ ?_<;>intro h<;>try simp only[i6] at h
      all_goals try clear hs
     all_goals exfalso
     all_goals simp[hm,hlen] at h5 hb3 hb4
     all_goals omega
    ·cases b3<;>cases b4<;>cases b5
     all_goals
      have hs:=hlen
      repeat' first|(with_reducible first|refine zz ?_|refine zr ?_|refine zE [0,1,2,3,4,6,7,8,9,10,11,12,17,64,67,68,69,70,118] ?_)|simp -dsimp[hs]|refine zp c1 ?_|refine zp c2 ?_|refine zt c3 ?_ ?_ ?_;(focus simp;done);focus (simp;done)|refine zt c4 ?_ ?_ ?_;(focus simp;done);focus (simp;done)|refine zp c5 ?_|refine i8 ?_ ?_<;>intro h<;>try simp only[i6] at h|with_reducible refine j0 ?_ ?_<;>intro h<;>have h0:=h<;>(try simp only[i6] at h)<;>have h2:=h<;>(try simp at h2)<;>replace hs:=za h0 (za h (za h2 hs))
      all_goals try clear hs
     all_goals exfalso
     all_goals omega
   ·rw[if_neg hm] at c2
    have hs:=trivial
    repeat' first|(with_reducible first|refine zz ?_|refine zr ?_|refine zE [0,1,2,3,4,6,7,8,9,10,11,12,17,64,67,68,69,70,118] ?_)|simp -dsimp[hs]|refine zp c1 ?_|refine zp c2 ?_|refine i8 ?_ ?_<;>intro h<;>try simp only[i6] at h
    all_goals try clear hs
  ·rw[N1,h5,Bool.true_and] at hE
   rw[hE]
   simp only[ce,Bool.and_eq_true,decide_eq_true_eq] at h5
   obtain⟨hm,⟨hm1,hm2⟩,⟨hl1,hl2⟩,hlen,hgap⟩:=h5
   rw[if_pos hm] at c2
   rw[hgap] at c5
   rw[show ([c.machine].all fun y=>decide (1≤y)&&decide (y≤999))=true by simp;omega] at c3
   rw[show ([(c.loop.links.length:Int)].all fun y=>decide (1≤y)&&decide (y≤8))=true by simp;omega] at c4
   have hs:=hlen
   repeat' first|(with_reducible first|refine zz ?_|refine zE [0,1,2,3,4,6,7,8,9,10,11,12,17,64,67,68,69,70,118] ?_)|simp -dsimp[hs]|refine zp c1 ?_|refine zp c2 ?_|refine zt c3 ?_ ?_ ?_;(focus simp;done);focus (simp;done)|refine zt c4 ?_ ?_ ?_;(focus simp;done);focus (simp;done)|refine zp c5 ?_|refine i8 ?_ ?_<;>intro h<;>try simp only[i6] at h
   all_goals try clear hs
   have hno:((c.loop.links.zip c.pieces).all fun q=>H2 c q.1 q.2)=((c.loop.links.zip c.pieces).drop 0).all fun q=>H2 c q.1 q.2:=rfl
   clear c1 c2 c3 c4 c5
   generalize hA:((c.loop.links.zip c.pieces).all fun q=>H2 c q.1 q.2)=A at *
   refine g9 (ι:={ k:Nat // k≤c.loop.links.length∧A=((c.loop.links.zip c.pieces).drop k).all fun q=>H2 c q.1 q.2 }) (fun q=>⟨120,[(1,.one (.ptr 0 0)),(4,.one (.ptr 2 0)),(67,.one (.im (.sl (c.loop.links.map G8)))),(68,iv (c.loop.links.length:Int)),(69,iv (q.1:Int))],[.row ((j4 c).map .im),.vec 0 [] 0 true,.row [.im (.sl (c.p.n.reg.map e9))],.vec 1 [[.im (rI c.machine)]] 0 false,.vec 1 [[.im (rI (c.loop.links.length:Int))]] 0 false]⟩) (fun q=>c.loop.links.length-q.1) ⟨0,by simp,hno⟩ (zv [1,4,67,68,69]) ?_
   rintro⟨k,hk1,hrest⟩
   simp only[iv]
   by_cases hlt:k<c.loop.links.length
   ·have hlt2:k<c.pieces.length:=by omega
    have hw:=zk k
    have hst:=eW (f:=fun q=>H2 c q.1 q.2) hlt hlt2 (hA.trans hrest)
    rw[hA] at hst
    simp only at hst
    rw[tW hr0] at hst
    clear hno
    generalize hx:c.pieces[k]=x at *
    generalize hy:c.loop.links[k]=y at *
    have c6:=AY (G:=G) c.p.n.reg y.drawing 1 hG hk.p.n.1
    have c7:=fY (G:=G) c.p.holders (fun y=>decide (y.id=x.holder)) 156 [.ptr 0 0] [.row ((I7 x).map .im)] (by simp) (fun y _=>uO x y) (by omega)
    have c8:=Z0 (G:=G) 0 3 [y.dim] (by simp)
    have c9:=Z0 (G:=G) 0 14610 [x.day] (by simp)
    have c10:=fK (G:=G) x.lo x.hi 0 1000000000
    simp only[A8,C9] at c6 c10
    simp only[I7,rI,List.map_cons,List.map_nil] at c7
    generalize (c.p.holders.any fun y=>decide (y.id=x.holder))=b2 at *
    generalize ([y.dim].all fun y=>decide (0≤y)&&decide (y≤3))=b1 at *
    generalize ([x.day].all fun y=>decide (0≤y)&&decide (y≤14610))=b3 at *
    generalize aC x.lo x.hi 0 1000000000=b4 at *
    generalize yT c.p.n.reg y.drawing 1=e at *
    generalize atR c.p.n.reg y.drawing 1=z at *
    have hcs:(e=0∧¬ z.kind=1∧b1=true∧b2=true∧b3=true∧b4=true)∨(A=false∧((¬ e=0∧True∧True∧True∧True∧True)∨(e=0∧z.kind=1∧True∧True∧True∧True)∨(e=0∧¬ z.kind=1∧b1=false∧True∧True∧True)∨(e=0∧¬ z.kind=1∧b1=true∧b2=false∧True∧True)∨(e=0∧¬ z.kind=1∧b1=true∧b2=true∧b3=false∧True)∨(e=0∧¬ z.kind=1∧b1=true∧b2=true∧b3=true∧b4=false))):=by
     by_cases g1:e=0<;>by_cases g2:z.kind=1<;>cases b1<;>cases b2<;>cases b3<;>cases b4<;>simp_all
    have hs:True:=trivial
    rcases hcs with⟨g1,g2,g3,g4,g5,g6⟩|⟨gA,hcs⟩
    ·have hs:=za hx (za hy (za hlt (za hlt2 (za hw (za g1 (za g2 (za g3 (za g4 (za g5 g6)))))))))
     repeat' first|(with_reducible first|refine zz ?_|refine zE [0,1,2,3,4,6,7,8,9,10,11,12,17,64,67,68,69,70,118] ?_)|simp -dsimp[hs]|refine zp c6 ?_|refine CallE.embed [9] (c7) ?_ ?_ ?_ ?_ ?_ ?_;(focus simp[w9];done);(focus simp;done);(focus simp;done);(focus simp;done);(focus refine s0 ?_;simp[w9,v8];done);try simp -dsimp[p9,w9,hs]|refine zt c8 ?_ ?_ ?_;(focus simp;done);focus (simp;done)|refine zt c9 ?_ ?_ ?_;(focus simp;done);focus (simp;done)|refine zp c10 ?_|refine i8 ?_ ?_<;>intro h<;>try simp only[i6] at h
     all_goals try clear hs
     all_goals exact zn ⟨k+1,by omega,by rw[Bool.eq_iff_iff];exact hst.trans ⟨fun h=>h.2,fun h=>⟨⟨g1,g2,g3,g4,g5,g6⟩,h⟩⟩⟩ (zw [1,4,67,68,69] 5)
    ·rcases hcs with⟨g1,g2,g3,g4,g5,g6⟩|⟨g1,g2,g3,g4,g5,g6⟩|⟨g1,g2,g3,g4,g5,g6⟩|⟨g1,g2,g3,g4,g5,g6⟩|⟨g1,g2,g3,g4,g5,g6⟩|⟨g1,g2,g3,g4,g5,g6⟩
     all_goals
      have hs:=za hx (za hy (za hlt (za hlt2 (za hw (za g1 (za g2 (za g3 (za g4 (za g5 g6)))))))))
      repeat' first|(with_reducible first|refine zz ?_|refine zr ?_|refine zE [0,1,2,3,4,6,7,8,9,10,11,12,17,64,67,68,69,70,118] ?_)|simp -dsimp[hs]|refine zp c6 ?_|refine CallE.embed [9] (c7) ?_ ?_ ?_ ?_ ?_ ?_;(focus simp[w9];done);(focus simp;done);(focus simp;done);(focus simp;done);(focus refine s0 ?_;simp[w9,v8];done);try simp -dsimp[p9,w9,hs]|refine zt c8 ?_ ?_ ?_;(focus simp;done);focus (simp;done)|refine zt c9 ?_ ?_ ?_;(focus simp;done);focus (simp;done)|refine zp c10 ?_|refine i8 ?_ ?_<;>intro h<;>try simp only[i6] at h
      all_goals try clear hs
     all_goals exact gA
   ·obtain rfl:k=c.loop.links.length:=by omega
    have hA1:A=true:=by rw[hrest,List.drop_eq_nil_of_le (by rw[List.length_zip];omega)];rfl
    subst hA1
    have hs:=hlt
    repeat' first|(with_reducible first|refine zz ?_|refine zr ?_|refine zE [0,1,2,3,4,6,7,8,9,10,11,12,17,64,67,68,69,70,118] ?_)|simp -dsimp[hs]|refine i8 ?_ ?_<;>intro h<;>try simp only[i6] at h
    all_goals try clear hs
 ·have hE:B8 c=p5 c.p:=by unfold B8;rw[if_pos h0]
  rw[hE]
  have hs:=h0
  repeat' first|(with_reducible first|refine zz ?_|refine zr ?_|refine zE [0,1,2,3,4,6,7,8,9,10,11,12,17,64,67,68,69,70,118] ?_)|simp -dsimp[hs]|refine zp c1 ?_|refine i8 ?_ ?_<;>intro h<;>try simp only[i6] at h
  all_goals try clear hs
end Go.Proofs
