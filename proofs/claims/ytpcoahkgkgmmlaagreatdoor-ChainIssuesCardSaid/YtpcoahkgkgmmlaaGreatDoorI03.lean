/- Part 23 of the proofs. -/
import Derived.Test.YtpcoahkgkgmmlaaGreatDoorI02
set_option linter.all false
set_option linter.deprecated false
set_option maxHeartbeats 100000000
namespace Go.Proofs
open Go Go.Ab Tryz
variable {G:Cr}
attribute [simp] p9 dO F1 U3 A1 C3 nilV N6 ZK
theorem wI (x:Issue):zP prog G 13 [D3 x] (uA x):=by
 refine zf func13 ntmps13 ?_
 try simp only[D3]
 repeat' first|(with_reducible first|refine zz ?_|refine zx ?_|refine zE [0,1,2] ?_)|simp -dsimp
set_option maxRecDepth 10000 in
theorem ku (c:Chains) (s g:Nat) (b:List Int) (u1 u2 u3:IC) (hG:B4 G) (hC:K1 G) (hU:bx G u1 u2 u3) (hSF:Y7 G) (hSG:bi G) (hk:qu c.reg) (hs6:s<65536) (hg6:g<65536) (hu:∀ n∈b,0≤n∧n≤4294967295):zP prog G 3 [M7 c,dT (s:Int),dT (g:Int),.one (.im (.sl (b.map eR)))] (bv true):=by
 refine zf func3 ntmps3 ?_
 try simp only[M7]
 have c1:=xI (G:=G) u1 u2 u3 hG hC hU hSF hSG
 have c2:=nu (G:=G) c hk
 simp only[dT]
 cases hq:bN c
 ·rw[hq] at c2
  have hs:=trivial
  repeat' first|(with_reducible first|refine zz ?_|refine zr ?_|refine zE [0,1,2,3,4,8,9,10,11,12,13,14,15,16,18,19,20,21,22,23,24,25,26,27,28,30,31,33,35,36,37,38,39,40,41,42,43,51,59,60,61,62,63,72,87,119,122,123,124,125,143,147,148,149,150,187,190,191,192,199,200,201,202,209,231,233,246,257,269,274,275,278,279,280,281,290,291,292,293,315,316,317,318,325,342,343,344,368] ?_)|simp -dsimp[hs]|refine zp c1 ?_|refine zp c2 ?_|refine j7 ?_ ?_<;>intro h<;>try simp only[j0] at h
  all_goals try clear hs
 ·rw[hq] at c2
  have hq':=hq
  simp only[bN,Bool.and_eq_true,decide_eq_true_eq] at hq'
  obtain⟨hq1,hq2⟩:=hq'
  have hg:=smallB_iff.1 hq1
  have hsm:r7 c:=⟨⟨hg.1.1,fun x hx=>⟨(hk x hx).1,(hk x hx).2,(hg.1.2 x hx).1,(hg.1.2 x hx).2⟩⟩,hg.2⟩
  have hOk:=mV hq2
  have hSl:=fg hOk hsm
  have c3:=nA (G:=G) c hG hC hsm hSF
  have hsp:fx c=m5 c:=by rw[fx,if_pos hq2]
  rw[hsp,hq2] at c3
  have ha:=sk (fun i=>s.testBit (i % 16)) (m5 c)
  have hlenA:=ha.length_le
  have c4:=jd (G:=G) c (R1 (fun i=>s.testBit (i % 16)) (m5 c) (m5 c).length) (g:Int) hG hC hsm hSF hSG (by omega)
  have hA2:=rF hq2 ha (g:=(g:Int)) (by omega) (by omega)
  have hnd:(R1 (fun i=>s.testBit (i % 16)) (m5 c) (m5 c).length).Nodup:=((bq c).sublist ha).imp fun h e=>by subst e;rw[Q3] at h;cases h
  clear ha
  simp only[x8] at c3 c4
  generalize hA:m5 c=A at *
  have hs:=trivial
  repeat' first|(with_reducible first|refine zz ?_|refine zE [0,1,2,3,4,8,9,10,11,12,13,14,15,16,18,19,20,21,22,23,24,25,26,27,28,30,31,33,35,36,37,38,39,40,41,42,43,51,59,60,61,62,63,72,87,119,122,123,124,125,143,147,148,149,150,187,190,191,192,199,200,201,202,209,231,233,246,257,269,274,275,278,279,280,281,290,291,292,293,315,316,317,318,325,342,343,344,368] ?_)|simp -dsimp[hs]|refine zp c1 ?_|refine zp c2 ?_|refine zp c3 ?_|refine j7 ?_ ?_<;>intro h<;>try simp only[j0] at h
  all_goals try clear hs
  refine i7 (ι:={ p:Nat×Nat×Nat×Bool // p.1≤A.length∧(p.2.2.1=2∨p.2.2.2=true) }) (fun p=>⟨371,[(1,dT (s:Int)),(2,dT (g:Int)),(3,.one (.im (.sl (b.map eR)))),(4,.one (.ptr 0 0)),(9,bv true),(12,.one (.vec 1 p.1.2.1 0 (R1 (fun i=>s.testBit (i % 16)) A p.1.1).length)),(60,.one (.im (.sl (A.map m8)))),(61,iv (A.length:Int)),(62,iv (p.1.1:Int))],[.row [.im (.sl (c.reg.map e8)),.im (.sl (c.lets.map Ab.encI)),.im (rI c.of),.im (.sl (c.loops.map j9))],.vec p.1.2.2.1 (p6 ((R1 (fun i=>s.testBit (i % 16)) A p.1.1).map m8)) p.1.2.1 p.1.2.2.2]⟩) (fun p=>A.length-p.1.1) ⟨(0,0,2,true),by simp⟩ (zv [1,2,3,4,9,12,60,61,62] (by simp[R1])) ?_
  rintro⟨⟨i,gn,sz,nl⟩,hi,hz⟩
  simp only at hi hz
  simp only[iv,bv,dT,rI]
  have hl1:=kX (fun i=>s.testBit (i % 16)) A i
  by_cases hlti:i<A.length
  ·obtain⟨x,hx⟩:∃ x,A[i]?=some x:=⟨A[i],by simp[hlti]⟩
   have hxe:∀ h,A[i]'h=x:=fun h=>by rw[List.getElem?_eq_getElem h] at hx;exact Option.some.inj hx
   have hwi:=zk i
   have ht:(i:Int).tmod 16=((i % 16:Nat):Int):=by rw[Int.tmod_eq_emod_of_nonneg (by omega)];omega
   have hjlt:i % 16<16:=Nat.mod_lt _ (by omega)
   have hsa:=pB (p:=fun i=>s.testBit (i % 16)) hx
   generalize hj:i % 16=j at *
   have hwj:IntKind.i64.wrap (j:Int)=(j:Int):=o6 (by omega) (by omega)
   have hj16:min j 16=j:=by omega
   have hjn:¬ ((j:Int)<0):=by omega
   have hb16:IntKind.u16.bits=16:=rfl
   have hbit:=tq s j
   have hs65:s % 65536=s:=Nat.mod_eq_of_lt hs6
   generalize R1 (fun i=>s.testBit (i % 16)) A i=La at *
   cases hb1:s.testBit j<;>rw[hb1] at hbit hsa<;>simp at hbit hsa
   ·have hs:=za hx (za hxe (za hlti (za hwi (za ht (za hwj (za hjn (za hj16 (za hb16 (za hbit hs65)))))))))
    repeat' first|(with_reducible first|refine zz ?_|refine zE [0,1,2,3,4,8,9,10,11,12,13,14,15,16,18,19,20,21,22,23,24,25,26,27,28,30,31,33,35,36,37,38,39,40,41,42,43,51,59,60,61,62,63,72,87,119,122,123,124,125,143,147,148,149,150,187,190,191,192,199,200,201,202,209,231,233,246,257,269,274,275,278,279,280,281,290,291,292,293,315,316,317,318,325,342,343,344,368] ?_)|simp -dsimp[hs]|refine j7 ?_ ?_<;>intro h<;>try simp only[j0] at h
    all_goals try clear hs
    all_goals exact zn ⟨(i+1,gn,sz,nl),by omega,hz⟩ (zw [1,2,3,4,9,12,60,61,62] 2 (by simp[hsa]))
   ·have hs:=za hx (za hxe (za hlti (za hwi (za ht (za hwj (za hjn (za hj16 (za hb16 (za hbit (za hs65 hz))))))))))
    repeat' first|(with_reducible first|refine zz ?_|refine And.intro (by omega) ?_|refine zE [0,1,2,3,4,8,9,10,11,12,13,14,15,16,18,19,20,21,22,23,24,25,26,27,28,30,31,33,35,36,37,38,39,40,41,42,43,51,59,60,61,62,63,72,87,119,122,123,124,125,143,147,148,149,150,187,190,191,192,199,200,201,202,209,231,233,246,257,269,274,275,278,279,280,281,290,291,292,293,315,316,317,318,325,342,343,344,368] ?_)|simp -dsimp[hs]|refine j7 ?_ ?_<;>intro h<;>try simp only[j0] at h
    all_goals try clear hs
    all_goals try omega
    all_goals exact zn ⟨(i+1,gn+1,2,false),by simp;omega⟩ (zw [1,2,3,4,9,12,60,61,62] 2 (by simp[hsa]))
  ·obtain rfl:i=A.length:=by omega
   generalize R1 (fun i=>s.testBit (i % 16)) A A.length=La at *
   refine Y8 (Weak.drop (Nat.zero_le _) (Nat.zero_le _)) ?_
   simp -dsimp
   have hwg:IntKind.i64.wrap (g:Int)=(g:Int):=o6 (by omega) (by omega)
   have hg65:g % 65536=g:=Nat.mod_eq_of_lt hg6
   rcases hA2 with⟨a1,a2,a3⟩|a1
   ·have hX:=ka hq2 hsm (g:=(g:Int)) (by omega) a2
    rw[a1,a3] at c4
    have hXk:qu (i9 c (Z1 La (g:Int))).reg:=fun x hx=>⟨(hX.small.1.2 x hx).1,(hX.small.1.2 x hx).2.1⟩
    have hXr:bN (i9 c (Z1 La (g:Int)))=true:=by
     simp only[bN,Bool.and_eq_true,decide_eq_true_eq]
     exact⟨smallB_iff.2 hX.smallG,hX.chE⟩
    have c5:=nu (G:=G) (i9 c (Z1 La (g:Int))) hXk
    rw[hXr] at c5
    have c6:=tn (G:=G) (i9 c (Z1 La (g:Int))) hG hC hX.small
    rw[hX.chE] at c6
    have hcl:=hsm.1.1
    have hXl:=hX.small.1.1
    have c7:=J1 (G:=G) (i9 c (Z1 La (g:Int))).reg (by omega)
    rw[hX.nums] at c7
    have c8:=J1 (G:=G) c.reg (by omega)
    have hnl:(nums c.reg).length≤c.reg.length:=o5 c.reg c.reg.length
    have c9:=V2 (G:=G) (nums c.reg) (nums c.reg) (by omega)
    simp only[decide_true] at c9
    have hll:=hX.letl
    have c10:=fun (y:Issue)=>AT (G:=G) (i9 c (Z1 La (g:Int))).reg y.drawing y.letter hG hX.small.1
    have hAt:=fun (y:Issue) (hy:y∈c.reg)=>zI hX hy
    have c11:=fun (n:Int) (hn:n∈nums c.reg) (h1:c.lets.length=(nums c.reg).length)=>gT (G:=G) c.reg c.lets n (by omega) hn h1
    have hlen6:c.lets.length=(nums c.reg).length:=by
     have:=hOk.lets
     simp only[m4,Bool.and_eq_true,decide_eq_true_eq] at this;exact this.1
    have c12:=fun (n:Int) (hn:n∈nums c.reg)=>gT (G:=G) (i9 c (Z1 La (g:Int))).reg (i9 c (Z1 La (g:Int))).lets n (by omega) (by rw[hX.nums];exact hn) (by rw[hll,hX.nums];exact hlen6)
    have hTk:=hX.take
    have hLt:=hX.letAt
    have hMe:=uS hX
    have hXo:(i9 c (Z1 La (g:Int))).of=c.of:=rfl
    have hXs:(i9 c (Z1 La (g:Int))).loops=c.loops:=rfl
    clear hXk hXr hX
    generalize hXg:i9 c (Z1 La (g:Int))=X at *
    clear hXg
    simp only[M7,u7,rI,List.map_cons,List.map_nil,hXo,hXs] at c4 c5 c6
    have hs:=za hlti (za hz (za hwg (za hg65 hll)))
    repeat' first|with_reducible refine zz ?_|simp -dsimp[hs]|refine zp c4 ?_|refine zq c5 ?_|refine zq c6 ?_|refine zq c7 ?_|refine zq c8 ?_|refine zq c9 ?_|refine zM 17 371 27 [0,1,2,3,4,8,9,10,11,12,13,14,15,16,18,19,20,21,22,23,24,25,26,27,28,30,31,33,35,36,37,38,39,40,41,42,43,51,59,60,61,62,63,72,87,119,122,123,124,125,143,147,148,149,150,187,190,191,192,199,200,201,202,209,231,233,246,257,269,274,275,278,279,280,281,290,291,292,293,315,316,317,318,325,342,343,344,368] ?_|with_reducible refine zE [0,1,2,3,4,8,9,10,11,12,13,14,15,16,18,19,20,21,22,23,24,25,26,27,28,30,31,33,35,36,37,38,39,40,41,42,43,51,59,60,61,62,63,72,87,119,122,123,124,125,143,147,148,149,150,187,190,191,192,199,200,201,202,209,231,233,246,257,269,274,275,278,279,280,281,290,291,292,293,315,316,317,318,325,342,343,344,368] ?_|refine j7 ?_ ?_<;>intro h<;>try simp only[j0] at h
    all_goals try clear hs
    refine Y8 (Weak.drop (Nat.zero_le _) (Nat.zero_le _)) ?_
    simp -dsimp
    refine i7 (ι:={ k:Nat // k≤c.reg.length }) (fun k=>⟨371,[(2,dT (g:Int)),(3,.one (.im (.sl (b.map eR)))),(4,.one (.im (.ip [.sl (c.reg.map e8),.sl (c.lets.map Ab.encI),rI c.of,.sl (c.loops.map j9)]))),(9,bv true),(12,.one (.im (.sl (La.map m8)))),(15,.one (.im (.ip [.sl (X.reg.map e8),.sl (X.lets.map Ab.encI),rI c.of,.sl (c.loops.map j9)]))),(122,.one (.im (.sl (c.reg.map e8)))),(123,iv (c.reg.length:Int)),(124,iv (k.1:Int))],[]⟩) (fun k=>c.reg.length-k.1) ⟨0,by omega⟩ (zv [2,3,4,9,12,15,122,123,124]) ?_
    rintro⟨k,hkl⟩
    simp only[iv,rI,bv,dT]
    by_cases hlt:k<c.reg.length
    ·obtain⟨y,hy⟩:∃ y,c.reg[k]?=some y:=⟨c.reg[k],by simp[hlt]⟩
     have hye:∀ h,c.reg[k]'h=y:=fun h=>by rw[List.getElem?_eq_getElem h] at hy;exact Option.some.inj hy
     have hym:=List.mem_of_getElem? hy
     have hyb:=hsm.1.2 y hym
     have hw:=zk k
     have d1:=wI (G:=G) y
     have d2:=c10 y
     rw[(hAt y hym).1,(hAt y hym).2] at d2
     have d3:=gq (G:=G) y y (by omega)
     simp only[decide_true] at d3
     simp only[D3,e8,uA,B8,B1,rI,List.map_cons,List.map_nil] at d1 d2 d3
     have hs:=za hlt (za hy (za hye hw))
     repeat' first|with_reducible refine zz ?_|simp -dsimp[hs]|refine zq d1 ?_|refine zq d2 ?_|refine zp d3 ?_|refine o7 (id:=22) (nt:=371) 9 [7] [0,1,2,3,4,8,9,10,11,12,13,14,15,16,18,19,20,21,22,23,24,25,26,27,28,30,31,33,35,36,37,38,39,40,41,42,43,51,59,60,61,62,63,72,87,119,122,123,124,125,128,129,130,131,132,133,134,143,147,148,149,150,187,190,191,192,199,200,201,202,209,231,233,246,257,269,274,275,278,279,280,281,290,291,292,293,315,316,317,318,325,342,343,344,368] [0,1,2,3,4,8,9,10,11,12,13,14,15,16,18,19,20,21,22,23,24,25,26,27,28,30,31,33,35,36,37,38,39,40,41,42,43,51,59,60,61,62,63,72,87,119,122,123,124,125,143,147,148,149,150,187,190,191,192,199,200,201,202,209,231,233,246,257,269,274,275,278,279,280,281,290,291,292,293,315,316,317,318,325,342,343,344,368] mixed rfl (by kernel_rfl) ?_|with_reducible refine zE [0,1,2,3,4,8,9,10,11,12,13,14,15,16,18,19,20,21,22,23,24,25,26,27,28,30,31,33,35,36,37,38,39,40,41,42,43,51,59,60,61,62,63,72,87,119,122,123,124,125,143,147,148,149,150,187,190,191,192,199,200,201,202,209,231,233,246,257,269,274,275,278,279,280,281,290,291,292,293,315,316,317,318,325,342,343,344,368] ?_|refine j7 ?_ ?_<;>intro h<;>try simp only[j0] at h
     all_goals try clear hs
     all_goals exact zn ⟨k+1,by omega⟩ (zw [2,3,4,9,12,15,122,123,124] 0 (by simp[hw]))
    ·obtain rfl:k=c.reg.length:=by omega
     have hs:=hlt
     repeat' first|(with_reducible first|refine zz ?_|refine zE [0,1,2,3,4,8,9,10,11,12,13,14,15,16,18,19,20,21,22,23,24,25,26,27,28,30,31,33,35,36,37,38,39,40,41,42,43,51,59,60,61,62,63,72,87,119,122,123,124,125,143,147,148,149,150,187,190,191,192,199,200,201,202,209,231,233,246,257,269,274,275,278,279,280,281,290,291,292,293,315,316,317,318,325,342,343,344,368] ?_)|simp -dsimp[hs]|refine zp c8 ?_|refine j7 ?_ ?_<;>intro h<;>try simp only[j0] at h
     all_goals try clear hs
     clear c1 c2 c3 c4 c5 c6 c7 c9 c10 hAt
     refine i7 (ι:={ i:Nat // i≤(nums c.reg).length }) (fun i=>⟨371,[(2,dT (g:Int)),(3,.one (.im (.sl (b.map eR)))),(4,.one (.im (.ip [.sl (c.reg.map e8),.sl (c.lets.map Ab.encI),rI c.of,.sl (c.loops.map j9)]))),(9,bv true),(12,.one (.im (.sl (La.map m8)))),(15,.one (.im (.ip [.sl (X.reg.map e8),.sl (X.lets.map Ab.encI),rI c.of,.sl (c.loops.map j9)]))),(21,iv (Y0 c (Z1 La (g:Int)) i.1:Int)),(147,C1 (nums c.reg)),(148,iv ((nums c.reg).length:Int)),(149,iv (i.1:Int))],[]⟩) (fun i=>(nums c.reg).length-i.1) ⟨0,by omega⟩ (zv [2,3,4,9,12,15,21,147,148,149] (by simp[Y0])) ?_
     rintro⟨i,hil⟩
     simp only[iv,rI,bv,dT,C1]
     by_cases hlt2:i<(nums c.reg).length
     ·obtain⟨n,hn⟩:∃ n,(nums c.reg)[i]?=some n:=⟨(nums c.reg)[i],by simp[hlt2]⟩
      have hne:∀ h,(nums c.reg)[i]'h=n:=fun h=>by rw[List.getElem?_eq_getElem h] at hn;exact Option.some.inj hn
      have hnm:=List.mem_of_getElem? hn
      have hw:=zk i
      have d1:=c11 n hnm hlen6
      have d2:=c12 n hnm
      rw[hTk n hnm] at d2
      have hLn:=hLt i n hn
      have hms:=si (f:=Z1 La (g:Int)) hn
      have hml:=qN c (Z1 La (g:Int)) i
      have d3:=jq (G:=G) c.reg n (by omega)
      rw[nM hOk.reg n] at d3
      have hcnt:C0 c.reg n≤c.reg.length:=List.length_filter_le _ _
      obtain⟨t1,t2,_⟩:=B2 hOk.reg hOk.lets hnm
      obtain⟨z1,z2,z3,z4⟩:=gX c (Z1 La (g:Int)) n
      have hdm:=js hOk t1
      have hab:=hsm.1.2 _ t1
      have hgt:=fun (k:Nat) (hk:k<(i6 c.reg c.lets n).dims.length)=>lU La (g:Int) (i6 c.reg c.lets n) hk
      have htl:=dU La (g:Int) (i6 c.reg c.lets n)
      have hzd:(fK c (Z1 La (g:Int)) n).dims=wy La (g:Int) (i6 c.reg c.lets n):=z4
      have hff:(Z1 La (g:Int) (i6 c.reg c.lets n)).1=wy La (g:Int) (i6 c.reg c.lets n):=rfl
      rw[hff] at hLn hms
      rw[← hzd] at hgt htl hLn hms
      clear z4 hzd hff
      generalize fK c (Z1 La (g:Int)) n=z at *
      generalize i6 c.reg c.lets n=a at *
      have d4:=gp (G:=G) a.items a.items (by omega)
      simp only[decide_true] at d4
      simp only[D3,e8,wr,B1,C1,rI,List.map_cons,List.map_nil,z1,z2,z3] at d1 d2 d4
      have hs:=za hlt2 (za hn (za hne (za hw (za z1 (za z2 (za z3 htl))))))
      repeat' first|(with_reducible first|refine zz ?_|refine zE [0,1,2,3,4,8,9,10,11,12,13,14,15,16,18,19,20,21,22,23,24,25,26,27,28,30,31,33,35,36,37,38,39,40,41,42,43,51,59,60,61,62,63,72,87,119,122,123,124,125,143,147,148,149,150,187,190,191,192,199,200,201,202,209,231,233,246,257,269,274,275,278,279,280,281,290,291,292,293,315,316,317,318,325,342,343,344,368] ?_)|simp -dsimp[hs]|refine zp d1 ?_|refine zp d2 ?_|refine zp d4 ?_|refine j7 ?_ ?_<;>intro h<;>try simp only[j0] at h
      all_goals try clear hs
      refine Y8 (Weak.drop (Nat.zero_le _) (Nat.zero_le _)) ?_
      simp -dsimp
      refine i7 (ι:={ k:Nat // k≤a.dims.length }) (fun k=>⟨371,[(2,dT (g:Int)),(3,.one (.im (.sl (b.map eR)))),(4,.one (.im (.ip [.sl (c.reg.map e8),.sl (c.lets.map Ab.encI),rI c.of,.sl (c.loops.map j9)]))),(9,bv true),(12,.one (.im (.sl (La.map m8)))),(15,.one (.im (.ip [.sl (X.reg.map e8),.sl (X.lets.map Ab.encI),rI c.of,.sl (c.loops.map j9)]))),(21,iv (Y0 c (Z1 La (g:Int)) i:Int)),(22,iv (i:Int)),(23,iv n),(24,.one (.im (.ip [rI a.drawing,rI a.letter,.raw (.int .u8 a.kind),.sl (a.items.map n7),.sl (a.dims.map l5)]))),(25,.one (.im (.ip [rI a.drawing,rI z.letter,.raw (.int .u8 a.kind),.sl (a.items.map n7),.sl (z.dims.map l5)]))),(26,bv (cZ a.dims z.dims k.1)),(147,C1 (nums c.reg)),(148,iv ((nums c.reg).length:Int)),(149,iv (i:Int)),(190,iv (a.dims.length:Int)),(191,iv (k.1:Int))],[]⟩) (fun k=>a.dims.length-k.1) ⟨0,by omega⟩ (zv [2,3,4,9,12,15,21,22,23,24,25,26,147,148,149,190,191] (by simp[cZ])) ?_
      rintro⟨k,hkl⟩
      simp only[iv,rI,bv,dT,C1]
      by_cases hltk:k<a.dims.length
      ·obtain⟨d,hd⟩:∃ d,a.dims[k]?=some d:=⟨a.dims[k],by simp[hltk]⟩
       have hde:∀ h,a.dims[k]'h=d:=fun h=>by rw[List.getElem?_eq_getElem h] at hd;exact Option.some.inj hd
       have hzk:=hgt k hltk
       rw[hde hltk,t2] at hzk
       have hwk:=zk k
       have hkz:k<z.dims.length:=by omega
       have hdf:=sX hd hzk
       have hdok:=hdm d (List.mem_of_getElem? hd)
       have d5:=uF (G:=G) d (g:Int) hdok (by omega) (by omega)
       have hend:=uc La ⟨n,(k:Int)⟩ d (g:Int)
       rw[← hend] at hzk hdf
       simp only[G2,l5,rI,List.map_cons,List.map_nil] at d5
       have hs:=za hltk (za hd hde)
       repeat' first|(with_reducible first|refine zz ?_|refine zE [0,1,2,3,4,8,9,10,11,12,13,14,15,16,18,19,20,21,22,23,24,25,26,27,28,30,31,33,35,36,37,38,39,40,41,42,43,51,59,60,61,62,63,72,87,119,122,123,124,125,143,147,148,149,150,187,190,191,192,199,200,201,202,209,231,233,246,257,269,274,275,278,279,280,281,290,291,292,293,315,316,317,318,325,342,343,344,368] ?_)|simp -dsimp[hs]|refine j7 ?_ ?_<;>intro h<;>try simp only[j0] at h
       all_goals try clear hs
       refine i7 (ι:={ j:Nat // j≤La.length }) (fun j=>⟨371,[(2,dT (g:Int)),(3,.one (.im (.sl (b.map eR)))),(4,.one (.im (.ip [.sl (c.reg.map e8),.sl (c.lets.map Ab.encI),rI c.of,.sl (c.loops.map j9)]))),(9,bv true),(12,.one (.im (.sl (La.map m8)))),(15,.one (.im (.ip [.sl (X.reg.map e8),.sl (X.lets.map Ab.encI),rI c.of,.sl (c.loops.map j9)]))),(21,iv (Y0 c (Z1 La (g:Int)) i:Int)),(22,iv (i:Int)),(23,iv n),(24,.one (.im (.ip [rI a.drawing,rI a.letter,.raw (.int .u8 a.kind),.sl (a.items.map n7),.sl (a.dims.map l5)]))),(25,.one (.im (.ip [rI a.drawing,rI z.letter,.raw (.int .u8 a.kind),.sl (a.items.map n7),.sl (z.dims.map l5)]))),(26,bv (cZ a.dims z.dims k)),(27,iv (k:Int)),(28,.one (.ptr 0 0)),(147,C1 (nums c.reg)),(148,iv ((nums c.reg).length:Int)),(149,iv (i:Int)),(190,iv (a.dims.length:Int)),(191,iv (k:Int)),(199,.one (.im (.sl (La.map m8)))),(200,iv (La.length:Int)),(201,iv (j.1:Int))],[.row ((l5 (X6 La ⟨n,(k:Int)⟩ d (g:Int) j.1)).map .im)]⟩) (fun j=>La.length-j.1) ⟨0,by omega⟩ (zv [2,3,4,9,12,15,21,22,23,24,25,26,27,28,147,148,149,190,191,199,200,201] (by simp[ru,l5])) ?_
       rintro⟨j,hjl⟩
       simp only[iv,rI,bv,dT,C1]
       by_cases hltj:j<La.length
       ·obtain⟨t,ht⟩:∃ t,La[j]?=some t:=⟨La[j],by simp[hltj]⟩
        have hte:∀ h,La[j]'h=t:=fun h=>by rw[List.getElem?_eq_getElem h] at ht;exact Option.some.inj ht
        have hwj:=zk j
        by_cases hts:t=⟨n,(k:Int)⟩
        ·subst hts
         obtain⟨w1,w2⟩:=ub (d:=d) (g:=(g:Int)) hnd ht
         rw[w1]
         simp only[l5,rI,List.map_cons,List.map_nil]
         have hs:=za hltj (za ht (za hte (za hwg hg65)))
         repeat' first|(with_reducible first|refine zz ?_|refine zE [0,1,2,3,4,8,9,10,11,12,13,14,15,16,18,19,20,21,22,23,24,25,26,27,28,30,31,33,35,36,37,38,39,40,41,42,43,51,59,60,61,62,63,72,87,119,122,123,124,125,143,147,148,149,150,187,190,191,192,199,200,201,202,209,231,233,246,257,269,274,275,278,279,280,281,290,291,292,293,315,316,317,318,325,342,343,344,368] ?_)|simp -dsimp[hs]|refine zp d5 ?_|refine j7 ?_ ?_<;>intro h<;>try simp only[j0] at h
         all_goals try clear hs
         all_goals exact zn ⟨j+1,by omega⟩ (zw [2,3,4,9,12,15,21,22,23,24,25,26,27,28,147,148,149,190,191,199,200,201] 1 (by simp[hwj,w2,l5,rI]))
        ·have w1:=rv (d:=d) (g:=(g:Int)) ht hts
         generalize X6 La ⟨n,(k:Int)⟩ d (g:Int) j=q at *
         simp only[l5,rI,List.map_cons,List.map_nil]
         by_cases hn1:t.drawing=n
         ·have hn2:¬ t.dim=(k:Int):=fun h=>hts (by cases t;simp only at h hn1;subst h;subst hn1;rfl)
          have hs:=za hltj (za ht (za hte (za hn1 hn2)))
          repeat' first|(with_reducible first|refine zz ?_|refine zE [0,1,2,3,4,8,9,10,11,12,13,14,15,16,18,19,20,21,22,23,24,25,26,27,28,30,31,33,35,36,37,38,39,40,41,42,43,51,59,60,61,62,63,72,87,119,122,123,124,125,143,147,148,149,150,187,190,191,192,199,200,201,202,209,231,233,246,257,269,274,275,278,279,280,281,290,291,292,293,315,316,317,318,325,342,343,344,368] ?_)|simp -dsimp[hs]|refine j7 ?_ ?_<;>intro h<;>try simp only[j0] at h
          all_goals try clear hs
          all_goals exact zn ⟨j+1,by omega⟩ (zw [2,3,4,9,12,15,21,22,23,24,25,26,27,28,147,148,149,190,191,199,200,201] 1 (by simp[hwj,w1,l5,rI]))
         ·have hs:=za hltj (za ht (za hte hn1))
          repeat' first|(with_reducible first|refine zz ?_|refine zE [0,1,2,3,4,8,9,10,11,12,13,14,15,16,18,19,20,21,22,23,24,25,26,27,28,30,31,33,35,36,37,38,39,40,41,42,43,51,59,60,61,62,63,72,87,119,122,123,124,125,143,147,148,149,150,187,190,191,192,199,200,201,202,209,231,233,246,257,269,274,275,278,279,280,281,290,291,292,293,315,316,317,318,325,342,343,344,368] ?_)|simp -dsimp[hs]|refine j7 ?_ ?_<;>intro h<;>try simp only[j0] at h
          all_goals try clear hs
          all_goals exact zn ⟨j+1,by omega⟩ (zw [2,3,4,9,12,15,21,22,23,24,25,26,27,28,147,148,149,190,191,199,200,201] 1 (by simp[hwj,w1,l5,rI]))
       ·obtain rfl:j=La.length:=by omega
        generalize X6 La ⟨n,(k:Int)⟩ d (g:Int) La.length=q at *
        have hze:∀ h,z.dims[k]'h=q:=fun h=>by rw[List.getElem?_eq_getElem h] at hzk;exact Option.some.inj hzk
        simp only[l5,rI,List.map_cons,List.map_nil]
        by_cases hqd:q=d
        ·rw[decide_eq_false (by simp[hqd]),Bool.or_false] at hdf
         subst hqd
         cases hdk:cZ a.dims z.dims k<;>rw[hdk] at hdf
         ·have hs:=za hltj (za hltk (za hkz (za hd (za hde (za hzk hze)))))
          repeat' first|with_reducible refine zz ?_|simp -dsimp[hs]|refine zM 45 371 11 [0,1,2,3,4,8,9,10,11,12,13,14,15,16,18,19,20,21,22,23,24,25,26,27,28,30,31,33,35,36,37,38,39,40,41,42,43,51,59,60,61,62,63,72,87,119,122,123,124,125,143,147,148,149,150,187,190,191,192,199,200,201,202,209,231,233,246,257,269,274,275,278,279,280,281,290,291,292,293,315,316,317,318,325,342,343,344,368] ?_|refine zM 46 371 7 [0,1,2,3,4,8,9,10,11,12,13,14,15,16,18,19,20,21,22,23,24,25,26,27,28,30,31,33,35,36,37,38,39,40,41,42,43,51,59,60,61,62,63,72,87,119,122,123,124,125,143,147,148,149,150,187,190,191,192,199,200,201,202,209,231,233,246,257,269,274,275,278,279,280,281,290,291,292,293,315,316,317,318,325,342,343,344,368] ?_|with_reducible refine zE [0,1,2,3,4,8,9,10,11,12,13,14,15,16,18,19,20,21,22,23,24,25,26,27,28,30,31,33,35,36,37,38,39,40,41,42,43,51,59,60,61,62,63,72,87,119,122,123,124,125,143,147,148,149,150,187,190,191,192,199,200,201,202,209,231,233,246,257,269,274,275,278,279,280,281,290,291,292,293,315,316,317,318,325,342,343,344,368] ?_|refine j7 ?_ ?_<;>intro h<;>try simp only[j0] at h
          all_goals try clear hs
          all_goals exact zn ⟨k+1,by omega⟩ (zw [2,3,4,9,12,15,21,22,23,24,25,26,147,148,149,190,191] 0 (by simp[hwk,hdf]))
         ·have hs:=za hltj (za hltk (za hkz (za hd (za hde (za hzk hze)))))
          repeat' first|with_reducible refine zz ?_|simp -dsimp[hs]|refine zM 45 371 11 [0,1,2,3,4,8,9,10,11,12,13,14,15,16,18,19,20,21,22,23,24,25,26,27,28,30,31,33,35,36,37,38,39,40,41,42,43,51,59,60,61,62,63,72,87,119,122,123,124,125,143,147,148,149,150,187,190,191,192,199,200,201,202,209,231,233,246,257,269,274,275,278,279,280,281,290,291,292,293,315,316,317,318,325,342,343,344,368] ?_|refine zM 46 371 7 [0,1,2,3,4,8,9,10,11,12,13,14,15,16,18,19,20,21,22,23,24,25,26,27,28,30,31,33,35,36,37,38,39,40,41,42,43,51,59,60,61,62,63,72,87,119,122,123,124,125,143,147,148,149,150,187,190,191,192,199,200,201,202,209,231,233,246,257,269,274,275,278,279,280,281,290,291,292,293,315,316,317,318,325,342,343,344,368] ?_|with_reducible refine zE [0,1,2,3,4,8,9,10,11,12,13,14,15,16,18,19,20,21,22,23,24,25,26,27,28,30,31,33,35,36,37,38,39,40,41,42,43,51,59,60,61,62,63,72,87,119,122,123,124,125,143,147,148,149,150,187,190,191,192,199,200,201,202,209,231,233,246,257,269,274,275,278,279,280,281,290,291,292,293,315,316,317,318,325,342,343,344,368] ?_|refine j7 ?_ ?_<;>intro h<;>try simp only[j0] at h
          all_goals try clear hs
          all_goals exact zn ⟨k+1,by omega⟩ (zw [2,3,4,9,12,15,21,22,23,24,25,26,147,148,149,190,191] 0 (by simp[hwk,hdf]))
        ·rw[decide_eq_true hqd,Bool.or_true] at hdf
         have hqd2:¬ (q.nominal=d.nominal∧q.lower=d.lower∧q.upper=d.upper):=fun h=>hqd (by cases q;cases d;simp only at h;obtain⟨rfl,rfl,rfl⟩:=h;rfl)
         cases hdk:cZ a.dims z.dims k
         ·have hs:=za hltj (za hltk (za hkz (za hd (za hde (za hzk (za hze hqd2))))))
          repeat' first|with_reducible refine zz ?_|simp -dsimp[hs]|refine zM 45 371 11 [0,1,2,3,4,8,9,10,11,12,13,14,15,16,18,19,20,21,22,23,24,25,26,27,28,30,31,33,35,36,37,38,39,40,41,42,43,51,59,60,61,62,63,72,87,119,122,123,124,125,143,147,148,149,150,187,190,191,192,199,200,201,202,209,231,233,246,257,269,274,275,278,279,280,281,290,291,292,293,315,316,317,318,325,342,343,344,368] ?_|refine zM 46 371 7 [0,1,2,3,4,8,9,10,11,12,13,14,15,16,18,19,20,21,22,23,24,25,26,27,28,30,31,33,35,36,37,38,39,40,41,42,43,51,59,60,61,62,63,72,87,119,122,123,124,125,143,147,148,149,150,187,190,191,192,199,200,201,202,209,231,233,246,257,269,274,275,278,279,280,281,290,291,292,293,315,316,317,318,325,342,343,344,368] ?_|with_reducible refine zE [0,1,2,3,4,8,9,10,11,12,13,14,15,16,18,19,20,21,22,23,24,25,26,27,28,30,31,33,35,36,37,38,39,40,41,42,43,51,59,60,61,62,63,72,87,119,122,123,124,125,143,147,148,149,150,187,190,191,192,199,200,201,202,209,231,233,246,257,269,274,275,278,279,280,281,290,291,292,293,315,316,317,318,325,342,343,344,368] ?_|refine j7 ?_ ?_<;>intro h<;>try simp only[j0] at h
          all_goals try clear hs
          all_goals exact zn ⟨k+1,by omega⟩ (zw [2,3,4,9,12,15,21,22,23,24,25,26,147,148,149,190,191] 0 (by simp[hwk,hdf];omega))
         ·have hs:=za hltj (za hltk (za hkz (za hd (za hde (za hzk (za hze hqd2))))))
          repeat' first|with_reducible refine zz ?_|simp -dsimp[hs]|refine zM 45 371 11 [0,1,2,3,4,8,9,10,11,12,13,14,15,16,18,19,20,21,22,23,24,25,26,27,28,30,31,33,35,36,37,38,39,40,41,42,43,51,59,60,61,62,63,72,87,119,122,123,124,125,143,147,148,149,150,187,190,191,192,199,200,201,202,209,231,233,246,257,269,274,275,278,279,280,281,290,291,292,293,315,316,317,318,325,342,343,344,368] ?_|refine zM 46 371 7 [0,1,2,3,4,8,9,10,11,12,13,14,15,16,18,19,20,21,22,23,24,25,26,27,28,30,31,33,35,36,37,38,39,40,41,42,43,51,59,60,61,62,63,72,87,119,122,123,124,125,143,147,148,149,150,187,190,191,192,199,200,201,202,209,231,233,246,257,269,274,275,278,279,280,281,290,291,292,293,315,316,317,318,325,342,343,344,368] ?_|with_reducible refine zE [0,1,2,3,4,8,9,10,11,12,13,14,15,16,18,19,20,21,22,23,24,25,26,27,28,30,31,33,35,36,37,38,39,40,41,42,43,51,59,60,61,62,63,72,87,119,122,123,124,125,143,147,148,149,150,187,190,191,192,199,200,201,202,209,231,233,246,257,269,274,275,278,279,280,281,290,291,292,293,315,316,317,318,325,342,343,344,368] ?_|refine j7 ?_ ?_<;>intro h<;>try simp only[j0] at h
          all_goals try clear hs
          all_goals exact zn ⟨k+1,by omega⟩ (zw [2,3,4,9,12,15,21,22,23,24,25,26,147,148,149,190,191] 0 (by simp[hwk,hdf]))
      ·obtain rfl:k=a.dims.length:=by omega
       have hde:=vH (A:=a.dims) (B:=z.dims) (by omega)
       by_cases hzz:z.dims=a.dims
       ·rw[decide_eq_false (by simp[hzz])] at hde
        rw[if_pos hzz] at hLn
        rw[if_neg (by simp[hzz]),Nat.add_zero] at hms
        rw[hde]
        have hlc:i<c.lets.length:=by omega
        have hlX:i<X.lets.length:=by omega
        have hLe:∀ h h',X.lets[i]'h=c.lets[i]'h':=fun h h'=>by rw[List.getElem?_eq_getElem h,List.getElem?_eq_getElem h'] at hLn;exact Option.some.inj hLn
        have hs:=za hltk (za hlc (za hlX hLe))
        repeat' first|with_reducible refine zz ?_|simp -dsimp[hs]|refine zM 53 371 11 [0,1,2,3,4,8,9,10,11,12,13,14,15,16,18,19,20,21,22,23,24,25,26,27,28,30,31,33,35,36,37,38,39,40,41,42,43,51,59,60,61,62,63,72,87,119,122,123,124,125,143,147,148,149,150,187,190,191,192,199,200,201,202,209,231,233,246,257,269,274,275,278,279,280,281,290,291,292,293,315,316,317,318,325,342,343,344,368] ?_|with_reducible refine zE [0,1,2,3,4,8,9,10,11,12,13,14,15,16,18,19,20,21,22,23,24,25,26,27,28,30,31,33,35,36,37,38,39,40,41,42,43,51,59,60,61,62,63,72,87,119,122,123,124,125,143,147,148,149,150,187,190,191,192,199,200,201,202,209,231,233,246,257,269,274,275,278,279,280,281,290,291,292,293,315,316,317,318,325,342,343,344,368] ?_|refine j7 ?_ ?_<;>intro h<;>try simp only[j0] at h
        all_goals try clear hs
        all_goals exact zn ⟨i+1,by omega⟩ (zw [2,3,4,9,12,15,21,147,148,149] 0 (by simp[hw,hms]))
       ·rw[decide_eq_true hzz] at hde
        rw[if_neg hzz] at hLn
        rw[if_pos hzz] at hms
        rw[hde]
        have hlX:i<X.lets.length:=e7 hLn
        have hLe:∀ h,X.lets[i]'h=(C0 c.reg n:Int)+1:=fun h=>by rw[List.getElem?_eq_getElem h] at hLn;exact Option.some.inj hLn
        have hwm:IntKind.i64.wrap ((Y0 c (Z1 La (g:Int)) i:Int)+1)=((Y0 c (Z1 La (g:Int)) i+1:Nat):Int):=o6 (by omega) (by omega)
        have hwc:IntKind.i64.wrap ((C0 c.reg n:Int)+1)=(C0 c.reg n:Int)+1:=o6 (by omega) (by omega)
        simp only[B1,iv,rI] at d3
        have hs:=za hltk (za hlX (za hLe (za hwm hwc)))
        repeat' first|with_reducible refine zz ?_|simp -dsimp[hs]|refine zq d3 ?_|refine zM 51 371 11 [0,1,2,3,4,8,9,10,11,12,13,14,15,16,18,19,20,21,22,23,24,25,26,27,28,30,31,33,35,36,37,38,39,40,41,42,43,51,59,60,61,62,63,72,87,119,122,123,124,125,143,147,148,149,150,187,190,191,192,199,200,201,202,209,231,233,246,257,269,274,275,278,279,280,281,290,291,292,293,315,316,317,318,325,342,343,344,368] ?_|with_reducible refine zE [0,1,2,3,4,8,9,10,11,12,13,14,15,16,18,19,20,21,22,23,24,25,26,27,28,30,31,33,35,36,37,38,39,40,41,42,43,51,59,60,61,62,63,72,87,119,122,123,124,125,143,147,148,149,150,187,190,191,192,199,200,201,202,209,231,233,246,257,269,274,275,278,279,280,281,290,291,292,293,315,316,317,318,325,342,343,344,368] ?_|refine j7 ?_ ?_<;>intro h<;>try simp only[j0] at h
        all_goals try clear hs
        all_goals exact zn ⟨i+1,by omega⟩ (zw [2,3,4,9,12,15,21,147,148,149] 0 (by simp[hw,hms]))
     ·obtain rfl:i=(nums c.reg).length:=by omega
      have hwl:IntKind.i64.wrap ((c.reg.length:Int)+(Y0 c (Z1 La (g:Int)) (nums c.reg).length:Int))=(X.reg.length:Int):=by
       rw[hMe];have:=qN c (Z1 La (g:Int)) (nums c.reg).length
       rw[o6 (by omega) (by omega)];omega
      have hs:=za hlt2 hwl
      repeat' first|(with_reducible first|refine zz ?_|refine zE [0,1,2,3,4,8,9,10,11,12,13,14,15,16,18,19,20,21,22,23,24,25,26,27,28,30,31,33,35,36,37,38,39,40,41,42,43,51,59,60,61,62,63,72,87,119,122,123,124,125,143,147,148,149,150,187,190,191,192,199,200,201,202,209,231,233,246,257,269,274,275,278,279,280,281,290,291,292,293,315,316,317,318,325,342,343,344,368] ?_)|simp -dsimp[hs]|refine j7 ?_ ?_<;>intro h<;>try simp only[j0] at h
      all_goals try clear hs
      clear hwl hMe hTk hLt hll c12 hnd hXo hXs hXl
      refine i7 (ι:={ r:Nat // r≤6 }) (fun r=>⟨371,[(3,.one (.im (.sl (b.map eR)))),(4,.one (.im (.ip [.sl (c.reg.map e8),.sl (c.lets.map Ab.encI),rI c.of,.sl (c.loops.map j9)]))),(9,bv true),(31,.one (.map 0)),(274,iv (r.1:Int))],[.map [.int .i64] (I4 (O4 (i6 c.reg c.lets) (nums c.reg) c.of r.1))]⟩) (fun r=>6-r.1) ⟨0,by omega⟩ (zv [3,4,9,31,274] (by simp[O4,I4,jL,kI,O2])) ?_
      rintro⟨r,hr6⟩
      simp only[iv,rI,bv]
      by_cases hltr:r<6
      ·have hwr:=zk r
       have hltr':(r:Int)<6:=by omega
       have hs:=hltr'
       repeat' first|(with_reducible first|refine zz ?_|refine zE [0,1,2,3,4,8,9,10,11,12,13,14,15,16,18,19,20,21,22,23,24,25,26,27,28,30,31,33,35,36,37,38,39,40,41,42,43,51,59,60,61,62,63,72,87,119,122,123,124,125,143,147,148,149,150,187,190,191,192,199,200,201,202,209,231,233,246,257,269,274,275,278,279,280,281,290,291,292,293,315,316,317,318,325,342,343,344,368] ?_)|simp -dsimp[hs]|refine zp c8 ?_|refine j7 ?_ ?_<;>intro h<;>try simp only[j0] at h
       all_goals try clear hs
       refine i7 (ι:={ i:Nat // i≤(nums c.reg).length }) (fun i=>⟨371,[(3,.one (.im (.sl (b.map eR)))),(4,.one (.im (.ip [.sl (c.reg.map e8),.sl (c.lets.map Ab.encI),rI c.of,.sl (c.loops.map j9)]))),(9,bv true),(31,.one (.map 0)),(274,iv (r:Int)),(278,C1 (nums c.reg)),(279,iv ((nums c.reg).length:Int)),(280,iv (i.1:Int))],[.map [.int .i64] (I4 (((nums c.reg).take i.1).foldl (iJ (i6 c.reg c.lets)) (O4 (i6 c.reg c.lets) (nums c.reg) c.of r)))]⟩) (fun i=>(nums c.reg).length-i.1) ⟨0,by omega⟩ (zv [3,4,9,31,274,278,279,280]) ?_
       rintro⟨i,hil⟩
       simp only[iv,rI,bv,C1]
       by_cases hlti:i<(nums c.reg).length
       ·obtain⟨n,hn⟩:∃ n,(nums c.reg)[i]?=some n:=⟨(nums c.reg)[i],by simp[hlti]⟩
        have hne:∀ h,(nums c.reg)[i]'h=n:=fun h=>by rw[List.getElem?_eq_getElem h] at hn;exact Option.some.inj hn
        have hnm:=List.mem_of_getElem? hn
        have hw:=zk i
        have d1:=c11 n hnm hlen6
        have hfs:((nums c.reg).take (i+1)).foldl (iJ (i6 c.reg c.lets)) (O4 (i6 c.reg c.lets) (nums c.reg) c.of r)=(i6 c.reg c.lets n).items.foldl (ak n) (((nums c.reg).take i).foldl (iJ (i6 c.reg c.lets)) (O4 (i6 c.reg c.lets) (nums c.reg) c.of r)):=by
         rw[List.take_add_one,hn,List.foldl_append];rfl
        have hab:=hsm.1.2 _ (B2 hOk.reg hOk.lets hnm).1
        generalize ((nums c.reg).take i).foldl (iJ (i6 c.reg c.lets)) (O4 (i6 c.reg c.lets) (nums c.reg) c.of r)=M0 at *
        generalize hRe:((nums c.reg).take (i+1)).foldl _ _=M1 at *
        generalize i6 c.reg c.lets n=a at *
        simp only[D3,e8,B1,C1,rI,List.map_cons,List.map_nil] at d1
        have hs:=za hlti (za hn hne)
        repeat' first|(with_reducible first|refine zz ?_|refine zE [0,1,2,3,4,8,9,10,11,12,13,14,15,16,18,19,20,21,22,23,24,25,26,27,28,30,31,33,35,36,37,38,39,40,41,42,43,51,59,60,61,62,63,72,87,119,122,123,124,125,143,147,148,149,150,187,190,191,192,199,200,201,202,209,231,233,246,257,269,274,275,278,279,280,281,290,291,292,293,315,316,317,318,325,342,343,344,368] ?_)|simp -dsimp[hs]|refine zp d1 ?_|refine j7 ?_ ?_<;>intro h<;>try simp only[j0] at h
        all_goals try clear hs
        refine i7 (ι:={ q:Nat // q≤a.items.length }) (fun q=>⟨371,[(3,.one (.im (.sl (b.map eR)))),(4,.one (.im (.ip [.sl (c.reg.map e8),.sl (c.lets.map Ab.encI),rI c.of,.sl (c.loops.map j9)]))),(9,bv true),(31,.one (.map 0)),(33,iv n),(274,iv (r:Int)),(278,C1 (nums c.reg)),(279,iv ((nums c.reg).length:Int)),(280,iv (i:Int)),(290,.one (.im (.sl (a.items.map n7)))),(291,iv (a.items.length:Int)),(292,iv (q.1:Int))],[.map [.int .i64] (I4 ((a.items.take q.1).foldl (ak n) M0))]⟩) (fun q=>a.items.length-q.1) ⟨0,by omega⟩ (zw [3,4,9,31,33,274,278,279,280,290,291,292] 1) ?_
        rintro⟨q,hql⟩
        simp only[iv,rI,bv,C1]
        by_cases hltq:q<a.items.length
        ·obtain⟨y,hy⟩:∃ y,a.items[q]?=some y:=⟨a.items[q],by simp[hltq]⟩
         have hye:∀ h,a.items[q]'h=y:=fun h=>by rw[List.getElem?_eq_getElem h] at hy;exact Option.some.inj hy
         have hwq:=zk q
         have hqs:(a.items.take (q+1)).foldl (ak n) M0=jL y.drawing (bo ((a.items.take q).foldl (ak n) M0) y.drawing||bo ((a.items.take q).foldl (ak n) M0) n) ((a.items.take q).foldl (ak n) M0):=by
          rw[List.take_add_one,hy,List.foldl_append];rfl
         generalize (a.items.take q).foldl (ak n) M0=m at *
         cases hu1:bo m y.drawing<;>cases hu2:bo m n<;>rw[hu1,hu2] at hqs<;>simp only[Bool.or_true,Bool.or_false,Bool.true_or,Bool.false_or] at hqs<;>unfold bo at hu1 hu2
         all_goals
          have hs:=za hltq (za hy (za hye (za hu1 hu2)))
          repeat' first|(with_reducible first|refine zz ?_|refine zE [0,1,2,3,4,8,9,10,11,12,13,14,15,16,18,19,20,21,22,23,24,25,26,27,28,30,31,33,35,36,37,38,39,40,41,42,43,51,59,60,61,62,63,72,87,119,122,123,124,125,143,147,148,149,150,187,190,191,192,199,200,201,202,209,231,233,246,257,269,274,275,278,279,280,281,290,291,292,293,315,316,317,318,325,342,343,344,368] ?_)|simp -dsimp[hs]|refine j7 ?_ ?_<;>intro h<;>try simp only[j0] at h
          all_goals try clear hs
         all_goals exact zn ⟨q+1,by omega⟩ (zw [3,4,9,31,33,274,278,279,280,290,291,292] 1 (by simp[hwq,hqs]))
        ·obtain rfl:q=a.items.length:=by omega
         rw[List.take_length,← hfs]
         have hs:=hltq
         repeat' first|(with_reducible first|refine zz ?_|refine zE [0,1,2,3,4,8,9,10,11,12,13,14,15,16,18,19,20,21,22,23,24,25,26,27,28,30,31,33,35,36,37,38,39,40,41,42,43,51,59,60,61,62,63,72,87,119,122,123,124,125,143,147,148,149,150,187,190,191,192,199,200,201,202,209,231,233,246,257,269,274,275,278,279,280,281,290,291,292,293,315,316,317,318,325,342,343,344,368] ?_)|simp -dsimp[hs]|refine j7 ?_ ?_<;>intro h<;>try simp only[j0] at h
         all_goals try clear hs
         all_goals exact zn ⟨i+1,by omega⟩ (zw [3,4,9,31,274,278,279,280] 1 (by simp[hw,hRe]))
       ·obtain rfl:i=(nums c.reg).length:=by omega
        rw[List.take_length]
        have hs:=hlti
        repeat' first|(with_reducible first|refine zz ?_|refine zE [0,1,2,3,4,8,9,10,11,12,13,14,15,16,18,19,20,21,22,23,24,25,26,27,28,30,31,33,35,36,37,38,39,40,41,42,43,51,59,60,61,62,63,72,87,119,122,123,124,125,143,147,148,149,150,187,190,191,192,199,200,201,202,209,231,233,246,257,269,274,275,278,279,280,281,290,291,292,293,315,316,317,318,325,342,343,344,368] ?_)|simp -dsimp[hs]|refine j7 ?_ ?_<;>intro h<;>try simp only[j0] at h
        all_goals try clear hs
        all_goals exact zn ⟨r+1,by omega⟩ (zw [3,4,9,31,274] 1 (by simp[hwr,O4,uy]))
      ·obtain rfl:r=6:=by omega
       have hT:=na hq2 (ch:=u5 b)
       have c20:=ww (G:=G) c hg
       simp only[Af,Bg,M7,u7,rI,List.map_cons,List.map_nil] at c20
       generalize O4 (i6 c.reg c.lets) (nums c.reg) c.of 6=U at *
       have hs:=trivial
       repeat' first|(with_reducible first|refine zz ?_|refine zE [0,1,2,3,4,8,9,10,11,12,13,14,15,16,18,19,20,21,22,23,24,25,26,27,28,30,31,33,35,36,37,38,39,40,41,42,43,51,59,60,61,62,63,72,87,119,122,123,124,125,143,147,148,149,150,187,190,191,192,199,200,201,202,209,231,233,246,257,269,274,275,278,279,280,281,290,291,292,293,315,316,317,318,325,342,343,344,368] ?_)|simp -dsimp[hs]|refine CallE.embed_ex [] (c20) ?_ ?_ ?_ ?_ ?_ ?_;(focus simp[E0];done);(focus simp;done);(focus simp;done);(focus simp;done);(focus refine D4 ?_;simp[E0,F0];done);intro mm hmm;try simp -dsimp[x9,E0,hs]|refine zp c8 ?_|refine j7 ?_ ?_<;>intro h<;>try simp only[j0] at h
       all_goals try clear hs
       refine i7 (ι:={ i:Nat // i≤(nums c.reg).length }) (fun i=>⟨371,[(3,.one (.im (.sl (b.map eR)))),(4,.one (.im (.ip [.sl (c.reg.map e8),.sl (c.lets.map Ab.encI),rI c.of,.sl (c.loops.map j9)]))),(9,bv true),(31,.one (.map 0)),(36,.one (.ptr 14 0)),(315,C1 (nums c.reg)),(316,iv ((nums c.reg).length:Int)),(317,iv (i.1:Int))],[.map [.int .i64] (I4 U),.row [.im (.sl (c.reg.map e8)),.im (.sl (c.lets.map Ab.encI)),.im (rI c.of),.im (.sl (c.loops.map j9))],.vec 0 [] 0 true,.vec 0 [] 0 true,.vec 0 [] 0 true,.row [.im (.sl (c.reg.map e8)),.vec 6 1 0 c.lets.length,.im (rI c.of),.vec 9 mm.1 0 c.loops.length],.vec 1 (p6 ((M9 c (bo U) (u5 b) i.1).map Ab.encI)) 1 false,.vec 0 [] 0 true,.vec 0 [] 0 true,.vec mm.2.1 (p6 (c.loops.map j9)) mm.1 mm.2.2,.row [.im (.sl (c.reg.map e8)),.vec 6 1 0 c.lets.length,.im (rI c.of),.vec 9 mm.1 0 c.loops.length],.vec 0 [] 0 true,.vec 0 [] 0 true,.vec 0 [] 0 true,.row [.im (.sl (c.reg.map e8)),.vec 6 1 0 c.lets.length,.im (rI c.of),.vec 9 mm.1 0 c.loops.length]]⟩) (fun i=>(nums c.reg).length-i.1) ⟨0,by omega⟩ (zv [3,4,9,31,36,315,316,317] (by simp[rC])) ?_
       rintro⟨i,hil⟩
       simp only[iv,rI,bv,C1]
       by_cases hlti:i<(nums c.reg).length
       ·obtain⟨n,hn⟩:∃ n,(nums c.reg)[i]?=some n:=⟨(nums c.reg)[i],by simp[hlti]⟩
        have hne:∀ h,(nums c.reg)[i]'h=n:=fun h=>by rw[List.getElem?_eq_getElem h] at hn;exact Option.some.inj hn
        have hnm:=List.mem_of_getElem? hn
        have hw:=zk i
        have hlc:i<c.lets.length:=by omega
        cases hu1:bo U n
        ·have hts:=turn_free (ch:=u5 b) hn hu1
         have d1:=tl (G:=G) b i (by omega) hu
         have d2:=jq (G:=G) c.reg n (by omega)
         obtain⟨t1,t2,k',lt',e1,e2,e3⟩:=B2 hOk.reg hOk.lets hnm
         have hf:=(L8 hOk.reg n lt').1 (by rw[e3];rfl)
         have hcn:=nM hOk.reg n
         have hcc:C0 c.reg n≤c.reg.length:=List.length_filter_le _ _
         have hch:0≤u5 b i:=by
          unfold u5;split
          ·omega
          ·cases hbi:b[i % b.length]? with
           | none=>simp
           | some v=>exact(hu v (List.mem_of_getElem? hbi)).1
         have hm1:=Int.emod_nonneg (u5 b i) (show s9 c.reg n≠0 by omega)
         have hm2:=Int.emod_lt_of_pos (u5 b i) (show 0<s9 c.reg n by omega)
         have htm:(u5 b i).tmod (s9 c.reg n)=u5 b i % s9 c.reg n:=Int.tmod_eq_emod_of_nonneg hch
         have hnz:¬ s9 c.reg n=0:=by omega
         have hwm:IntKind.i64.wrap (u5 b i % s9 c.reg n)=u5 b i % s9 c.reg n:=o6 (by omega) (by omega)
         have hw1:IntKind.i64.wrap (1+u5 b i % s9 c.reg n)=1+u5 b i % s9 c.reg n:=o6 (by omega) (by omega)
         have hlT:i<(M9 c (bo U) (u5 b) i).length:=by rw[iE];exact hlc
         have hlT2:=iE c (bo U) (u5 b) i
         generalize M9 c (bo U) (u5 b) i=L at *
         have hset:(p6 (L.map Ab.encI)).set i [DC.im (.raw (.int .i64 (1+u5 b i % s9 c.reg n)))]=p6 ((M9 c (bo U) (u5 b) (i+1)).map Ab.encI):=by rw[hts];simp[p6,List.map_set,Ab.encI,rI]
         clear hts
         generalize u5 b i=v at *
         generalize s9 c.reg n=w at *
         simp only[B1,iv,rI] at d1 d2
         unfold bo at hu1
         have hs:=za hlti (za hn (za hne (za hu1 (za hlc (za hlT (za hlT2 (za htm (za hnz (za hwm (za hw1 hset))))))))))
         repeat' first|with_reducible refine zz ?_|simp -dsimp[hs]|refine zq d1 ?_|refine zq d2 ?_|refine zM 76 371 13 [0,1,2,3,4,8,9,10,11,12,13,14,15,16,18,19,20,21,22,23,24,25,26,27,28,30,31,33,35,36,37,38,39,40,41,42,43,51,59,60,61,62,63,72,87,119,122,123,124,125,143,147,148,149,150,187,190,191,192,199,200,201,202,209,231,233,246,257,269,274,275,278,279,280,281,290,291,292,293,315,316,317,318,325,342,343,344,368] ?_|with_reducible refine zE [0,1,2,3,4,8,9,10,11,12,13,14,15,16,18,19,20,21,22,23,24,25,26,27,28,30,31,33,35,36,37,38,39,40,41,42,43,51,59,60,61,62,63,72,87,119,122,123,124,125,143,147,148,149,150,187,190,191,192,199,200,201,202,209,231,233,246,257,269,274,275,278,279,280,281,290,291,292,293,315,316,317,318,325,342,343,344,368] ?_|refine j7 ?_ ?_<;>intro h<;>try simp only[j0] at h
         all_goals try clear hs
         all_goals exact zn ⟨i+1,by omega⟩ (zw [3,4,9,31,36,315,316,317] 15 (by simp[hw,hset]))
        ·have hts:=rD (ch:=u5 b) hn hu1
         generalize M9 c (bo U) (u5 b) i=L at *
         unfold bo at hu1
         have hs:=za hlti (za hn (za hne hu1))
         repeat' first|(with_reducible first|refine zz ?_|refine zE [0,1,2,3,4,8,9,10,11,12,13,14,15,16,18,19,20,21,22,23,24,25,26,27,28,30,31,33,35,36,37,38,39,40,41,42,43,51,59,60,61,62,63,72,87,119,122,123,124,125,143,147,148,149,150,187,190,191,192,199,200,201,202,209,231,233,246,257,269,274,275,278,279,280,281,290,291,292,293,315,316,317,318,325,342,343,344,368] ?_)|simp -dsimp[hs]|refine j7 ?_ ?_<;>intro h<;>try simp only[j0] at h
         all_goals try clear hs
         all_goals exact zn ⟨i+1,by omega⟩ (zw [3,4,9,31,36,315,316,317] 15 (by simp[hw,hts]))
       ·obtain rfl:i=(nums c.reg).length:=by omega
        generalize M9 c (bo U) (u5 b) (nums c.reg).length=L at *
        have hLl:c.lets.length=L.length:=by rw[hT.len]
        obtain⟨s1,s2,s3⟩:=iD hq2 hsm hT
        have hr:=lS hq2 hsm hT
        have d1:=fun k:Int=>ep (G:=G) c k hG hC hsm mV
        have d2:=fun k:Int=>ep (G:=G) { c with lets:=L } k hG hC s2 mV
        have htk:(p6 (L.map Ab.encI)).take L.length=p6 (L.map Ab.encI):=List.take_of_length_le (by simp[o3])
        simp only[hLl]
        have hs:=hlti
        repeat' first|(with_reducible first|refine zz ?_|refine zE [0,1,2,3,4,8,9,10,11,12,13,14,15,16,18,19,20,21,22,23,24,25,26,27,28,30,31,33,35,36,37,38,39,40,41,42,43,51,59,60,61,62,63,72,87,119,122,123,124,125,143,147,148,149,150,187,190,191,192,199,200,201,202,209,231,233,246,257,269,274,275,278,279,280,281,290,291,292,293,315,316,317,318,325,342,343,344,368] ?_)|simp -dsimp[hs]|refine j7 ?_ ?_<;>intro h<;>try simp only[j0] at h
        all_goals try clear hs
        refine Y8 (Weak.drop (Nat.zero_le _) (Nat.zero_le _)) ?_
        simp -dsimp[htk]
        refine i7 (ι:={ k:Nat // k≤c.loops.length }) (fun k=>⟨371,[(4,.one (.im (.ip [.sl (c.reg.map e8),.sl (c.lets.map Ab.encI),rI c.of,.sl (c.loops.map j9)]))),(9,bv true),(36,.one (.im (.ip [.sl (c.reg.map e8),.sl (L.map Ab.encI),rI c.of,.sl (c.loops.map j9)]))),(342,iv (c.loops.length:Int)),(343,iv (k.1:Int))],[]⟩) (fun k=>c.loops.length-k.1) ⟨0,by omega⟩ (zv [4,9,36,342,343]) ?_
        rintro⟨k,hkl⟩
        simp only[iv,rI,bv]
        have hl6:=hOk.num
        by_cases hltk:k<c.loops.length
        ·have hw:=zk k
         obtain⟨r1,r2,r3⟩:=hr k
         have d1:=d1 k
         have d2:=d2 k
         have hlE:A0 c (k:Int)=0:=by rw[A0,if_neg (by simp[hq2]),if_pos ⟨by omega,by omega⟩]
         rw[r1,r2,r3,hlE] at d2
         rw[hlE] at d1
         simp only[M7,u7,B8,iv,rI,List.map_cons,List.map_nil] at d1 d2
         generalize kN c (k:Int)=x1 at *
         generalize kO c (k:Int)=x2 at *
         have hs:=hltk
         repeat' first|(with_reducible first|refine zz ?_|refine zE [0,1,2,3,4,8,9,10,11,12,13,14,15,16,18,19,20,21,22,23,24,25,26,27,28,30,31,33,35,36,37,38,39,40,41,42,43,51,59,60,61,62,63,72,87,119,122,123,124,125,143,147,148,149,150,187,190,191,192,199,200,201,202,209,231,233,246,257,269,274,275,278,279,280,281,290,291,292,293,315,316,317,318,325,342,343,344,368] ?_)|simp -dsimp[hs]|refine zp d1 ?_|refine zp d2 ?_|refine j7 ?_ ?_<;>intro h<;>try simp only[j0] at h
         all_goals try clear hs
         all_goals exact zn ⟨k+1,by omega⟩ (zw [4,9,36,342,343] 0 (by simp[hw]))
        ·obtain rfl:k=c.loops.length:=by omega
         have hs:=hltk
         repeat' first|(with_reducible first|refine zz ?_|refine zr ?_|refine zE [0,1,2,3,4,8,9,10,11,12,13,14,15,16,18,19,20,21,22,23,24,25,26,27,28,30,31,33,35,36,37,38,39,40,41,42,43,51,59,60,61,62,63,72,87,119,122,123,124,125,143,147,148,149,150,187,190,191,192,199,200,201,202,209,231,233,246,257,269,274,275,278,279,280,281,290,291,292,293,315,316,317,318,325,342,343,344,368] ?_)|simp -dsimp[hs]|refine j7 ?_ ?_<;>intro h<;>try simp only[j0] at h
         all_goals try clear hs
   ·generalize bC c La (g:Int)=X at *
    rw[a1] at c4
    have hs:=za hlti (za hz (za hwg hg65))
    repeat' first|(with_reducible first|refine zz ?_|refine zr ?_|refine zE [0,1,2,3,4,8,9,10,11,12,13,14,15,16,18,19,20,21,22,23,24,25,26,27,28,30,31,33,35,36,37,38,39,40,41,42,43,51,59,60,61,62,63,72,87,119,122,123,124,125,143,147,148,149,150,187,190,191,192,199,200,201,202,209,231,233,246,257,269,274,275,278,279,280,281,290,291,292,293,315,316,317,318,325,342,343,344,368] ?_)|simp -dsimp[hs]|refine zp c4 ?_|refine j7 ?_ ?_<;>intro h<;>try simp only[j0] at h
    all_goals try clear hs
end Go.Proofs
