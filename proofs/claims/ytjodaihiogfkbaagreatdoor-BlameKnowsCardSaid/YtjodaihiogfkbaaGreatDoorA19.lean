/- Part 19 of the proofs. -/
import Derived.Test.YtjodaihiogfkbaaGreatDoorA16
import Derived.Test.YtjodaihiogfkbaaGreatDoorA18
set_option linter.all false
set_option linter.deprecated false
set_option maxHeartbeats 100000000
namespace Go.Proofs
open Go Go.Ab Tryz
variable {G:GW}
theorem tG (c:Case) (hk:KC c):zP prog G 50 [m6 c] (iv (B8 c)):=by
 refine zf func50 ntmps50 ?_
 try simp only[iv]
 have c1:=lE (G:=G) c.p hk.p
 simp only[r7,m8] at c1
 by_cases h0:p5 c.p=0
 ·have c2:=zO (G:=G) c (E1 h0).2.2 hk
  have hE:B8 c=if Z9 c=true then 0 else 100:=by unfold B8;rw[if_neg (by simp[h0])]
  rw[hE]
  rw[h0] at c1
  simp only[m6,j4] at c2
  generalize Z9 c=b at *
  cases b
  ·have hs:=trivial
   repeat' first|(with_reducible first|refine zz ?_|refine zr ?_|refine zE [0,1,2,3,8,12] ?_)|simp -dsimp[hs]|refine zp c1 ?_|refine zp c2 ?_|refine i8 ?_ ?_<;>intro h<;>try simp only[i6] at h
  ·have hs:=trivial
   repeat' first|(with_reducible first|refine zz ?_|refine zr ?_|refine zE [0,1,2,3,8,12] ?_)|simp -dsimp[hs]|refine zp c1 ?_|refine zp c2 ?_|refine i8 ?_ ?_<;>intro h<;>try simp only[i6] at h
 ·have hE:B8 c=p5 c.p:=by unfold B8;rw[if_pos h0]
  rw[hE]
  have hs:=h0
  repeat' first|(with_reducible first|refine zz ?_|refine zr ?_|refine zE [0,1,2,3,8,12] ?_)|simp -dsimp[hs]|refine zp c1 ?_|refine i8 ?_ ?_<;>intro h<;>try simp only[i6] at h
theorem BK (c:Case) (hok:CaseOk c):zP prog G 240 [m6 c] (C9 (P0 (c.loop.links.zip c.pieces)).1 (P0 (c.loop.links.zip c.pieces)).2):=by
 refine zf func240 ntmps240 ?_
 try simp only[iv]
 have hlen:=hok.e
 have hl8:=hok.l
 have hs:=trivial
 repeat' first|(with_reducible first|refine zz ?_|refine zE [0,1,2,3,4,5,10,25] ?_)|simp -dsimp[hs]
 refine g9 (ι:={ k:Nat // k≤c.pieces.length }) (fun q=>⟨49,[(1,.one (.ptr 0 0)),(2,.one (.ptr 1 0)),(3,.one (.ptr 2 0)),(4,iv (q.1:Int))],[.row ((j4 c).map .im),.row [.im (rI 0),.im (rI 0)],.row [.im (rI (P0 ((c.loop.links.zip c.pieces).take q.1)).1),.im (rI (P0 ((c.loop.links.zip c.pieces).take q.1)).2)]]⟩) (fun q=>c.pieces.length-q.1) ⟨0,by simp⟩ (zv [1,2,3,4] (by simp[P0])) ?_
 rintro⟨k,hk1⟩
 simp only[iv]
 by_cases hlt:k<c.pieces.length
 ·have hlt2:k<c.loop.links.length:=by omega
  have hw:=zk k
  have hb1:=mB hok (Nat.le_of_lt hlt)
  have hb2:=mB hok (show k+1≤c.pieces.length by omega)
  have hst:=nF hok hlt hlt2
  have hp:=pU hok hlt
  unfold X5 at hp
  rw[hst] at hb2
  generalize hx:c.pieces[k]=x at *
  generalize hy:c.loop.links[k]=y at *
  generalize P0 ((c.loop.links.zip c.pieces).take k)=s at *
  unfold I1 at hst hb2
  cases hbk:y.back
  ·rw[if_neg (by simp[hbk])] at hst hb2
   simp only at hb2
   have hw1:IntKind.i64.wrap (s.1+x.lo)=s.1+x.lo:=n8 (by omega) (by omega)
   have hw2:IntKind.i64.wrap (s.2+x.hi)=s.2+x.hi:=n8 (by omega) (by omega)
   have hs:=za hx (za hy (za hlt (za hlt2 (za hw (za hw1 (za hw2 hbk))))))
   repeat' first|(with_reducible first|refine zz ?_|refine zE [0,1,2,3,4,5,10,25] ?_)|simp -dsimp[hs]|refine i8 ?_ ?_<;>intro h<;>try simp only[i6] at h
   all_goals exact zn ⟨k+1,by omega⟩ (zw [1,2,3,4] 3 (by simp[hst]))
  ·rw[if_pos hbk] at hst hb2
   simp only at hb2
   have hw3:IntKind.i64.wrap (s.1-x.hi)=s.1-x.hi:=n8 (by omega) (by omega)
   have hw4:IntKind.i64.wrap (s.2-x.lo)=s.2-x.lo:=n8 (by omega) (by omega)
   have hs:=za hx (za hy (za hlt (za hlt2 (za hw (za hw3 (za hw4 hbk))))))
   repeat' first|(with_reducible first|refine zz ?_|refine zE [0,1,2,3,4,5,10,25] ?_)|simp -dsimp[hs]|refine i8 ?_ ?_<;>intro h<;>try simp only[i6] at h
   all_goals exact zn ⟨k+1,by omega⟩ (zw [1,2,3,4] 3 (by simp[hst]))
 ·obtain rfl:k=c.pieces.length:=by omega
  have hall:(c.loop.links.zip c.pieces).take c.pieces.length=c.loop.links.zip c.pieces:=List.take_of_length_le (by rw[List.length_zip];omega)
  rw[hall]
  have hs:=hlt
  repeat' first|(with_reducible first|refine zz ?_|refine zr ?_|refine zE [0,1,2,3,4,5,10,25] ?_)|simp -dsimp[hs]|refine i8 ?_ ?_<;>intro h<;>try simp only[i6] at h
theorem BV (c:Case) (hk:KC c):zP prog G 199 [m6 c] (.tup [C9 (R1 c).1 (R1 c).2,iv (B8 c)]):=by
 refine zf func199 ntmps199 ?_
 try simp only[iv]
 have c1:=tG (G:=G) c hk
 simp only[m6,j4] at c1
 by_cases h0:B8 c=0
 ·have hok:=V4 (F6 h0).2
  have hE:R1 c=P0 (c.loop.links.zip c.pieces):=by unfold R1;rw[if_pos h0]
  have c2:=BK (G:=G) c hok
  rw[hE]
  rw[h0] at c1 ⊢
  generalize P0 (c.loop.links.zip c.pieces)=s at *
  simp only[m6,j4,C9] at c2
  have hs:=trivial
  repeat' first|(with_reducible first|refine zz ?_|refine zr ?_|refine zE [0,1,2,3,4,8] ?_)|simp -dsimp[hs]|refine zp c1 ?_|refine zp c2 ?_|refine i8 ?_ ?_<;>intro h<;>try simp only[i6] at h
 ·have hE:R1 c=(0,0):=by unfold R1;rw[if_neg h0]
  rw[hE]
  have hs:=h0
  repeat' first|(with_reducible first|refine zz ?_|refine zr ?_|refine zE [0,1,2,3,4,8] ?_)|simp -dsimp[hs]|refine zp c1 ?_|refine i8 ?_ ?_<;>intro h<;>try simp only[i6] at h
theorem zN (c:Case) (hk:KC c):zP prog G 136 [m6 c] (.tup [vA (al c),iv (B8 c)]):=by
 refine zf func136 ntmps136 ?_
 try simp only[iv]
 have c1:=BV (G:=G) c hk
 simp only[m6,j4,C9] at c1
 by_cases h0:B8 c=0
 ·have hok:=V4 (F6 h0).2
  have hE:al c=oV c (R1 c):=by unfold al;rw[if_pos h0]
  have hS:R1 c=P0 (c.loop.links.zip c.pieces):=by unfold R1;rw[if_pos h0]
  have hle:(R1 c).1≤(R1 c).2:=by rw[hS];exact(ej hok.p).1
  have hgap:=hok.g
  rw[hE]
  rw[h0] at c1 ⊢
  unfold oV
  generalize R1 c=s at *
  by_cases h4:c.loop.lo≤s.1∧s.2≤c.loop.hi
  ·rw[if_neg (by omega),if_pos h4]
   have h5:=h4.1
   have h6:=h4.2
   have hs:=za h5 h6
   repeat' first|(with_reducible first|refine zz ?_|refine zr ?_|refine zE [0,1,2,3,4,5,6,15,19,32] ?_)|simp -dsimp[hs]|refine zp c1 ?_|refine i8 ?_ ?_<;>intro h<;>try simp only[i6] at h
  ·rw[if_neg h4]
   have hcs:(c.loop.lo≤s.1∧¬ s.2≤c.loop.hi)∨¬ c.loop.lo≤s.1:=by omega
   by_cases h2:s.2<c.loop.lo
   ·rw[if_pos (.inl h2)]
    rcases hcs with⟨h5,h6⟩|h5
    ·have hs:=za h2 (za h5 h6)
     repeat' first|(with_reducible first|refine zz ?_|refine zr ?_|refine zE [0,1,2,3,4,5,6,15,19,32] ?_)|simp -dsimp[hs]|refine zp c1 ?_|refine i8 ?_ ?_<;>intro h<;>try simp only[i6] at h
    ·have hs:=za h2 h5
     repeat' first|(with_reducible first|refine zz ?_|refine zr ?_|refine zE [0,1,2,3,4,5,6,15,19,32] ?_)|simp -dsimp[hs]|refine zp c1 ?_|refine i8 ?_ ?_<;>intro h<;>try simp only[i6] at h
   ·by_cases h3:c.loop.hi<s.1
    ·rw[if_pos (.inr h3)]
     rcases hcs with⟨h5,h6⟩|h5
     ·have hs:=za h2 (za h3 (za h5 h6))
      repeat' first|(with_reducible first|refine zz ?_|refine zr ?_|refine zE [0,1,2,3,4,5,6,15,19,32] ?_)|simp -dsimp[hs]|refine zp c1 ?_|refine i8 ?_ ?_<;>intro h<;>try simp only[i6] at h
     ·have hs:=za h2 (za h3 h5)
      repeat' first|(with_reducible first|refine zz ?_|refine zr ?_|refine zE [0,1,2,3,4,5,6,15,19,32] ?_)|simp -dsimp[hs]|refine zp c1 ?_|refine i8 ?_ ?_<;>intro h<;>try simp only[i6] at h
    ·rw[if_neg (by omega)]
     rcases hcs with⟨h5,h6⟩|h5
     ·have hs:=za h2 (za h3 (za h5 h6))
      repeat' first|(with_reducible first|refine zz ?_|refine zr ?_|refine zE [0,1,2,3,4,5,6,15,19,32] ?_)|simp -dsimp[hs]|refine zp c1 ?_|refine i8 ?_ ?_<;>intro h<;>try simp only[i6] at h
     ·have hs:=za h2 (za h3 h5)
      repeat' first|(with_reducible first|refine zz ?_|refine zr ?_|refine zE [0,1,2,3,4,5,6,15,19,32] ?_)|simp -dsimp[hs]|refine zp c1 ?_|refine i8 ?_ ?_<;>intro h<;>try simp only[i6] at h
 ·have hE:al c=0:=by unfold al;rw[if_neg h0]
  rw[hE]
  have hs:=h0
  repeat' first|(with_reducible first|refine zz ?_|refine zr ?_|refine zE [0,1,2,3,4,5,6,15,19,32] ?_)|simp -dsimp[hs]|refine zp c1 ?_|refine i8 ?_ ?_<;>intro h<;>try simp only[i6] at h
theorem zF (c:Case) (k:Nat) (h1:k<c.pieces.length) (h2:k<c.loop.links.length) (hk:KC c):zP prog G 149 [m6 c,iv (k:Int)] (n7 (aR c k)):=by
 refine zf func149 ntmps149 ?_
 try simp only[iv]
 rw[oD h1 h2]
 generalize hx:c.pieces[k]=x at *
 generalize hy:c.loop.links[k]=y at *
 have c1:=tB (G:=G) c.p x.day x.holder y.drawing hk.p
 simp only[r7,m8] at c1
 generalize N7 c.p x.day x.holder y.drawing=L at *
 generalize I2 c.p x.day 1 x.holder y.drawing=e at *
 have hs:=za hx (za hy (za h1 h2))
 repeat' first|(with_reducible first|refine zz ?_|refine zr ?_)|simp -dsimp[hs]|refine zq c1 ?_|refine zM 2 31 19 [0,1,2,4,5,6] ?_|with_reducible refine zE [0,1,2,4,5,6] ?_
theorem yZ (p:Prints) (hs:rK p):zP prog G 63 [r7 p] (r7 p):=by
 refine zf func63 ntmps63 ?_
 try simp only[iv]
 have c1:=zb (G:=G) p.n hs.1
 have hl:=hs.2.1
 have hl2:=hs.2.2.1
 simp only[l4,m4] at c1
 have hs:=trivial
 repeat' first|(with_reducible first|refine zz ?_|refine And.intro (by omega) ?_)|simp -dsimp[hs]|refine zq c1 ?_|refine pL (id:=1) (nt:=38) 9 [] [0,1,2,3,4,5,6,7,8,9,10,11,12,13,18] [0,1,2,3,4,5,18] mixed rfl (by kernel_rfl) ?_|with_reducible refine zE [0,1,2,3,4,5,18] ?_
 all_goals try clear hs
 refine nE (Weak.nilCell 6 2 rfl rfl) ?_
 refine g9 (ι:={ q:Nat×Nat×Nat×Bool // q.1≤p.holders.length∧(q.2.2.1=4∨q.2.2.2=true) }) (fun q=>⟨38,[(1,.one (.ptr 0 0)),(2,.one (.ptr 5 0)),(3,.one (.ptr 6 0)),(4,iv (q.1.1:Int))],[.row ((m8 p).map .im),.vec 0 [] 0 true,.vec 0 [] 0 true,.vec 0 [] 0 true,.vec 0 [] 0 true,.row [.vec 1 0 0 0,.vec 2 0 0 0,.vec 3 0 0 0,.vec 4 0 0 0],.row [.im (.sl (p.n.reg.map e9)),.im (.sl (p.n.notes.map l9)),.vec 7 q.1.2.1 0 q.1.1,.im (.sl (p.prints.map w7))],.vec q.1.2.2.1 (n4 ((p.holders.take q.1.1).map o7)) q.1.2.1 q.1.2.2.2]⟩) (fun q=>p.holders.length-q.1.1) ⟨(0,0,0,true),by simp⟩ (zv [1,2,3,4]) ?_
 rintro⟨⟨k,g,sz,nl⟩,hk,hz⟩
 simp only at hk hz
 simp only[iv]
 have htk:(n4 ((p.holders.map o7).take k)).take k=n4 ((p.holders.map o7).take k):=List.take_of_length_le (by simp[o2];omega)
 by_cases hlt:k<p.holders.length
 ·have hx:p.holders[k]?=some p.holders[k]:=by simp[hlt]
  have hw:=zk k
  have hmin:min k p.holders.length=k:=Nat.min_eq_left (by omega)
  have hln:=hs.2.2.2 p.holders[k] (List.getElem_mem hlt)
  have hsn:(p.holders.map o7).take (k+1)=(p.holders.map o7).take k++[o7 p.holders[k]]:=by
   rw[List.take_succ];simp[hx]
  have hs:=za hx (za hw (za hlt (za hz hmin)))
  repeat' first|(with_reducible first|refine zz ?_|refine And.intro (by omega) ?_|refine zE [0,1,2,3,4,5,18] ?_)|simp -dsimp[hs]|refine i8 ?_ ?_<;>intro h<;>try simp only[i6] at h
  all_goals try clear hs
  all_goals try omega
  exact zn ⟨(k+1,g+1,4,false),by simp;omega⟩ (zw [1,2,3,4] 8 (by simp[hsn,htk,Z1]))
 ·have hkl:k=p.holders.length:=by omega
  subst hkl
  have hall:(p.holders.map o7).take p.holders.length=p.holders.map o7:=List.take_of_length_le (by simp)
  rw[hall] at htk
  have hs:=za hall htk
  repeat' first|(with_reducible first|refine zz ?_|refine zr ?_|refine zE [0,1,2,3,4,5,18] ?_)|simp -dsimp[hs]|refine i8 ?_ ?_<;>intro h<;>try simp only[i6] at h
  all_goals try clear hs
def rL (c:Case):Prop:=rK c.p∧c.loop.links.length≤16∧c.pieces.length≤16
def fe (c:Case):Bool:=fd c.p&&(decide (c.loop.links.length≤16)&&decide (c.pieces.length≤16))
theorem um (c:Case):zP prog G 15 [m6 c] (bv (!fe c)):=by
 refine zf func15 ntmps15 ?_
 try simp only[iv]
 have c1:=xA (G:=G) c.p
 simp only[r7,m8] at c1
 unfold fe
 generalize fd c.p=b at *
 have hs:True:=trivial
 by_cases h1:c.loop.links.length≤16
 ·have h1':¬ (16:Int)<c.loop.links.length:=by omega
  by_cases h2:c.pieces.length≤16
  ·have h2':¬ (16:Int)<c.pieces.length:=by omega
   cases b
   all_goals
    have hs:=za h1 (za h2 (za h1' h2'))
    repeat' first|(with_reducible first|refine zz ?_|refine zr ?_|refine zE [0,1,2] ?_)|simp -dsimp[hs]|refine zp c1 ?_
  ·have h2':(16:Int)<c.pieces.length:=by omega
   cases b
   all_goals
    have hs:=za h1 (za h2 (za h1' h2'))
    repeat' first|(with_reducible first|refine zz ?_|refine zr ?_|refine zE [0,1,2] ?_)|simp -dsimp[hs]|refine zp c1 ?_
 ·have h1':(16:Int)<c.loop.links.length:=by omega
  cases b
  all_goals
   have hs:=za h1 h1'
   repeat' first|(with_reducible first|refine zz ?_|refine zr ?_|refine zE [0,1,2] ?_)|simp -dsimp[hs]|refine zp c1 ?_
theorem wi (c:Case) (hs:rL c):zP prog G 24 [m6 c,m6 c] (bv true):=by
 refine zf func24 ntmps24 ?_
 try simp only[iv]
 have c1:=zB (G:=G) c.p hs.1
 have hl:=hs.2.1
 have hq:=hs.2.2
 simp only[r7,m8] at c1
 have hs:=trivial
 repeat' first|(with_reducible first|refine zz ?_|refine zE [0,1,2,3,4,5,6,55,61,76,81,94] ?_)|simp -dsimp[hs]|refine zp c1 ?_|refine i8 ?_ ?_<;>intro h<;>try simp only[i6] at h
 all_goals try clear hs
 refine g9 (ι:={ k:Nat // k≤c.loop.links.length }) (fun q=>⟨95,[(2,.one (.ptr 0 0)),(3,.one (.ptr 1 0)),(5,iv (q.1:Int))],[.row ((j4 c).map .im),.row ((j4 c).map .im)]⟩) (fun q=>c.loop.links.length-q.1) ⟨0,by simp⟩ (zv [2,3,5]) ?_
 rintro⟨k,hk⟩
 simp only[iv]
 by_cases hlt:k<c.loop.links.length
 ·have hw:=zk k
  generalize hx:c.loop.links[k]=x at *
  have hs:=za hx (za hlt hw)
  repeat' first|with_reducible refine zz ?_|simp -dsimp[hs]|refine zM 6 95 13 [0,1,2,3,4,5,6,55,61,76,81,94] ?_|with_reducible refine zE [0,1,2,3,4,5,6,55,61,76,81,94] ?_|refine i8 ?_ ?_<;>intro h<;>try simp only[i6] at h
  all_goals try clear hs
  exact zn ⟨k+1,by omega⟩ (zv [2,3,5])
 have hs:=hlt
 repeat' first|(with_reducible first|refine zz ?_|refine zE [0,1,2,3,4,5,6,55,61,76,81,94] ?_)|simp -dsimp[hs]|refine i8 ?_ ?_<;>intro h<;>try simp only[i6] at h
 all_goals try clear hs
 clear hlt hk
 refine g9 (ι:={ k:Nat // k≤c.pieces.length }) (fun q=>⟨95,[(2,.one (.ptr 0 0)),(3,.one (.ptr 1 0)),(6,iv (q.1:Int))],[.row ((j4 c).map .im),.row ((j4 c).map .im)]⟩) (fun q=>c.pieces.length-q.1) ⟨0,by simp⟩ (zv [2,3,6]) ?_
 rintro⟨k,hk⟩
 simp only[iv]
 by_cases hlt:k<c.pieces.length
 ·have hw:=zk k
  generalize hx:c.pieces[k]=x at *
  have hs:=za hx (za hlt hw)
  repeat' first|with_reducible refine zz ?_|simp -dsimp[hs]|refine zM 11 95 11 [0,1,2,3,4,5,6,55,61,76,81,94] ?_|with_reducible refine zE [0,1,2,3,4,5,6,55,61,76,81,94] ?_|refine i8 ?_ ?_<;>intro h<;>try simp only[i6] at h
  all_goals try clear hs
  exact zn ⟨k+1,by omega⟩ (zv [2,3,6])
 ·have hs:=hlt
  repeat' first|(with_reducible first|refine zz ?_|refine zr ?_|refine zE [0,1,2,3,4,5,6,55,61,76,81,94] ?_)|simp -dsimp[hs]|refine i8 ?_ ?_<;>intro h<;>try simp only[i6] at h
  all_goals try clear hs
theorem vP (c:Case) (hs:rL c):zP prog G 16 [m6 c] (m6 c):=by
 refine zf func16 ntmps16 ?_
 try simp only[iv]
 have c1:=yZ (G:=G) c.p hs.1
 have hl:=hs.2.1
 have hq:=hs.2.2
 simp only[r7,m8] at c1
 have hs:=trivial
 repeat' first|(with_reducible first|refine zz ?_|refine And.intro (by omega) ?_|refine zr ?_)|simp -dsimp[hs]|refine zp c1 ?_|refine zM 2 20 11 [0,1,2] ?_|with_reducible refine zE [0,1,2] ?_
 all_goals try clear hs
open Go Go.Ab
def sW (n:Notes):Prop:=(∀ x∈n.reg,0≤x.kind∧x.kind≤255)∧∀ x∈n.notes,0≤x.ways∧x.ways≤255∧0≤x.signed∧x.signed≤255
theorem De {n:Notes} (hk:sW n) (h:bj n=true):nz n∧se n:=by
 simp only[bj,Bool.and_eq_true,decide_eq_true_eq] at h
 refine⟨h,⟨h.1.1,fun x hx=>⟨(hk.1 x hx).1,(hk.1 x hx).2,h.1.2 x hx⟩⟩,h.2,hk.2⟩
def iR (x:Print):Prop:=0≤x.lost∧x.lost≤255
def pC (p:Prints):Prop:=sW p.n∧∀ x∈p.prints,iR x
theorem Fb {c:Case} (hk:pC c.p) (h:fe c=true):rL c∧KC c:=by
 simp only[fe,fd,Bool.and_eq_true,decide_eq_true_eq,List.all_eq_true] at h
 obtain⟨⟨h1,h2,h3,h4⟩,h5,h6⟩:=h
 obtain⟨hN,hM⟩:=De hk.1 h1
 have hr:=hM.1.1
 have hnl:(nums c.p.n.reg).length≤c.p.n.reg.length:=n0 c.p.n.reg c.p.n.reg.length
 exact⟨⟨⟨hN,h2,h3,h4⟩,h5,h6⟩,⟨⟨hM,⟨by omega,by omega,h2,h3,h4,hk.2⟩⟩,h5,h6⟩⟩
theorem pX (d i w:Int) (l:List Print):(cq d i w l).length≤l.length+1:=by
 unfold cq
 rw[List.length_drop]
 have h1:=Z7 (j8 (R3 d i w l++[R0 d i w l]))
 rw[L8,List.length_append,List.length_singleton] at h1
 have h2:=jC d i w l
 omega
end Go.Proofs
