/- Part 20 of the proofs. -/
import Derived.Test.YtpcoahkgkgmmlaaGreatDoorR19
set_option linter.all false
set_option linter.deprecated false
set_option maxHeartbeats 100000000
namespace Go.Proofs
open Go Go.Ab Tryz
variable {G:Cr}
attribute [simp] p9 dO F1 U3 A1 C3 nilV N6 ZK
def md (n:Int) (ds:List Dim):Bool:=ds.all fun d=>decide (xA d n=0)
def qJ (c:Chains) (n:Int):Issue→List Dim×Int:=fun x=>if l6 (x6 c) x.drawing=0 then (x.dims,0) else if md n x.dims=true then (x.dims.map (tZ · n),0) else ([],6)
theorem xz (d:Dim) (n:Int):xA d n=0∨xA d n=6:=by unfold xA;split<;>simp
theorem rS (cc:Chains) (x:Issue) (n:Int) (a b c:IC) (hU:bx G a b c) (hn:n=1∨n=2) (hx:x.dims.length≤8) (hd:∀ d∈x.dims,A4 d=true):zP prog G 67 [D3 x,.one (.im (.ip [i8 cc (x6 cc) (B0 cc.reg cc.lets)])),.one (.im (.ip [.raw (.int .u8 n)]))] (.tup [.one (.im (.sl ((qJ cc n x).1.map l5))),iv (qJ cc n x).2]):=by
 refine zf func67 ntmps67 ?_
 try simp only[D3]
 have c1:=lD (G:=G) x.dims (by omega)
 simp only[D3,e8,rI,List.map_cons,List.map_nil,i8]
 have hs:=trivial
 repeat' first|(with_reducible first|refine zz ?_|refine zE [0,1,2,3,4,5,6,7,8,9,14,15,16,25,36] ?_)|simp -dsimp[hs]|refine CallE.embed_ex [] (c1) ?_ ?_ ?_ ?_ ?_ ?_;(focus simp[E0];done);(focus simp;done);(focus simp;done);(focus simp;done);(focus refine D4 ?_;simp[E0,F0];done);intro mmA hmmA;try simp -dsimp[x9,E0,hs]
 generalize hcnt:l6 (x6 cc) x.drawing=m at *
 by_cases hm:m=0
 ·have hF:qJ cc n x=(x.dims,0):=by rw[qJ,hcnt,if_pos hm]
  rw[hF]
  refine i7 (ι:={ k:Nat // k≤x.dims.length }) (fun k=>⟨44,[(1,.one (.im (.ip [i8 cc (x6 cc) (B0 cc.reg cc.lets)]))),(2,.one (.im (.ip [.raw (.int .u8 n)]))),(3,.one (.ptr 0 0)),(6,.one (.vec 3 mmA.1 0 x.dims.length)),(14,iv (x.dims.length:Int)),(15,iv (k.1:Int))],[.row [.im (rI x.drawing),.im (rI x.letter),.im (.raw (.int .u8 x.kind)),.im (.sl (x.items.map n7)),.im (.sl (x.dims.map l5))],.vec 3 [] 0 true,.vec 3 [] 0 true,.vec 3 (p6 (x.dims.map l5)) mmA.1 mmA.2]⟩) (fun k=>x.dims.length-k.1) ⟨0,by omega⟩ (zv [1,2,3,6,14,15] (by simp[i8])) ?_
  rintro⟨k,hk⟩
  simp only[iv,rI,i8]
  by_cases hlt:k<x.dims.length
  ·have hw:=zk k
   have hs:=za hlt (za hw (za hcnt hm))
   repeat' first|with_reducible refine zz ?_|simp -dsimp[hs]|refine zM 5 44 8 [0,1,2,3,4,5,6,7,8,9,14,15,16,25,36] ?_|with_reducible refine zE [0,1,2,3,4,5,6,7,8,9,14,15,16,25,36] ?_|refine j7 ?_ ?_<;>intro h<;>try simp only[j0] at h
   all_goals exact zn ⟨k+1,by omega⟩ (zv [1,2,3,6,14,15])
  ·obtain rfl:k=x.dims.length:=by omega
   have hs:=hlt
   repeat' first|(with_reducible first|refine zz ?_|refine zr ?_|refine zE [0,1,2,3,4,5,6,7,8,9,14,15,16,25,36] ?_)|simp -dsimp[hs]|refine j7 ?_ ?_<;>intro h<;>try simp only[j0] at h
 ·have hF:qJ cc n x=if md n x.dims=true then (x.dims.map (tZ · n),0) else ([],6):=by rw[qJ,hcnt,if_neg hm]
  have hTl:(x.dims.map (tZ · n)).length=x.dims.length:=by simp
  have hTg:∀ k (h:k<x.dims.length),(x.dims.map (tZ · n))[k]?=some (tZ x.dims[k] n):=fun k h=>by simp[h]
  generalize x.dims.map (tZ · n)=T at *
  refine i7 (ι:={ k:Nat // k≤x.dims.length∧md n (x.dims.take k)=true }) (fun k=>⟨44,[(1,.one (.im (.ip [i8 cc (x6 cc) (B0 cc.reg cc.lets)]))),(2,.one (.im (.ip [.raw (.int .u8 n)]))),(3,.one (.ptr 0 0)),(6,.one (.vec 3 mmA.1 0 x.dims.length)),(14,iv (x.dims.length:Int)),(15,iv (k.1:Int))],[.row [.im (rI x.drawing),.im (rI x.letter),.im (.raw (.int .u8 x.kind)),.im (.sl (x.items.map n7)),.im (.sl (x.dims.map l5))],.vec 3 [] 0 true,.vec 3 [] 0 true,.vec 3 (p6 ((X2 T x.dims k.1).map l5)) mmA.1 mmA.2]⟩) (fun k=>x.dims.length-k.1) ⟨0,by simp[md]⟩ (zv [1,2,3,6,14,15] (by simp[X2,i8])) ?_
  rintro⟨k,hk,hok⟩
  simp only[iv,rI,i8]
  by_cases hlt:k<x.dims.length
  ·have hw:=zk k
   have hlm:=qO hTl hk
   have hge:=mi hTl hlt
   have hgm:∀ h,(X2 T x.dims k)[k]'h=x.dims[k]:=fun h=>by rw[List.getElem?_eq_getElem h] at hge;exact Option.some.inj hge
   have hklm:k<(X2 T x.dims k).length:=by omega
   have hTk:=hTg k hlt
   have c3:=tc (G:=G) x.dims[k] n a b c hU (hd _ (List.getElem_mem hlt)) hn
   have hset:=lh (X2 T x.dims k) k (tZ x.dims[k] n)
   have hst:=mh hTl hlt hTk
   rw[hst] at hset
   have htk:x.dims.take (k+1)=x.dims.take k++[x.dims[k]]:=List.take_succ_eq_append_getElem hlt
   have hall:md n x.dims=true→xA x.dims[k] n=0:=fun h=>by
    have:=List.all_eq_true.1 h _ (List.getElem_mem hlt)
    simpa using this
   simp only[ue] at c3
   have h2:=xz x.dims[k] n
   generalize hdk:x.dims[k]=dk at *
   generalize tZ dk n=y at *
   rcases h2 with he|he
   ·rw[he] at c3
    have hok':md n (x.dims.take (k+1))=true:=by
     rw[htk,md,List.all_append]
     simp only[md] at hok
     rw[hok];simp[he]
    have hs:=za hlt (za hw (za hlm (za hklm (za hgm (za hset (za hcnt hm))))))
    repeat' first|with_reducible refine zz ?_|simp -dsimp[hs]|refine zq c3 ?_|refine zM 5 44 8 [0,1,2,3,4,5,6,7,8,9,14,15,16,25,36] ?_|refine o7 (id:=6) (nt:=44) 10 [8] [0,1,2,3,4,5,6,7,8,9,14,15,16,25,26,27,28,29,30,31,32,33,36] [0,1,2,3,4,5,6,7,8,9,14,15,16,25,36] mixed rfl (by kernel_rfl) ?_|with_reducible refine zE [0,1,2,3,4,5,6,7,8,9,14,15,16,25,36] ?_|refine j7 ?_ ?_<;>intro h<;>try simp only[j0] at h
    all_goals exact zn ⟨k+1,by omega,hok'⟩ (zw [1,2,3,6,14,15] 4 (by simp[hst]))
   ·have hno:¬ md n x.dims=true:=fun h=>by
     have:=hall h
     omega
    rw[he] at c3
    rw[hF,if_neg hno]
    have hs:=za hlt (za hw (za hlm (za hklm (za hgm (za hset (za hcnt hm))))))
    repeat' first|(with_reducible first|refine zz ?_|refine zr ?_)|simp -dsimp[hs]|refine zq c3 ?_|refine zM 5 44 8 [0,1,2,3,4,5,6,7,8,9,14,15,16,25,36] ?_|refine o7 (id:=6) (nt:=44) 10 [8] [0,1,2,3,4,5,6,7,8,9,14,15,16,25,26,27,28,29,30,31,32,33,36] [0,1,2,3,4,5,6,7,8,9,14,15,16,25,36] mixed rfl (by kernel_rfl) ?_|with_reducible refine zE [0,1,2,3,4,5,6,7,8,9,14,15,16,25,36] ?_|refine j7 ?_ ?_<;>intro h<;>try simp only[j0] at h
  ·obtain rfl:k=x.dims.length:=by omega
   have hme:=qP hTl
   rw[List.take_length] at hok
   rw[hF,if_pos hok]
   have hs:=za hlt hme
   repeat' first|(with_reducible first|refine zz ?_|refine zr ?_|refine zE [0,1,2,3,4,5,6,7,8,9,14,15,16,25,36] ?_)|simp -dsimp[hs]|refine j7 ?_ ?_<;>intro h<;>try simp only[j0] at h
   all_goals (rw[← hTl];simp)
theorem uC {c:Chains} (hOk:OkC c) (hsm:r7 c) {n:Int} {a b d:IC} (hU:bx G a b d) (hn:n=1∨n=2):qe G c (.fn (.func 67) [.ip [i8 c (x6 c) (B0 c.reg c.lets)],.ip [.raw (.int .u8 n)]]) (qJ c n):=by
 refine⟨67,_,rfl,by simp,fun k hk=>?_⟩
 have hm:=lT hOk hk
 have h8:=(hsm.1.2 _ hm.1).2.2.2
 refine⟨?_,fun objs=>?_⟩
 ·unfold qJ
  split
  ·exact h8
  ·split
   ·simpa using h8
   ·simp
 ·refine rS (G:=G) c _ n a b d hU hn h8 (fun x hx=>?_) objs
  have h:=(B7 (u4 (p4 hOk.reg))).2.2.2.1 _ hm.1
  simp only[m3,Bool.and_eq_true,List.all_eq_true] at h
  exact h.2 x hx
def mc (c:Chains) (n:Int):Int:=if j6 c≠0 then j6 c else if n=1∨n=2 then w5 c (qJ c n) else 11
def pm (c:Chains) (n:Int):Chains:=if mc c n=0 then i9 c (qJ c n) else G4
theorem sd (c:Chains) (n:Int) (a b d:IC) (hG:B4 G) (hC:K1 G) (hU:bx G a b d) (hsm:r7 c) (hSG:bi G) (h0:0≤n) (h255:n≤255):zP prog G 24 [M7 c,ue n] (.tup [M7 (pm c n),iv (mc c n)]):=by
 refine zf func24 ntmps24 ?_
 try simp only[M7,ue]
 have c1:=O0 c hG hC hsm
 have w0:IntKind.i64.wrap n=n:=o6 (by omega) (by omega)
 by_cases h00:j6 c=0
 ·have hOk:=mV h00
  rw[h00] at c1
  simp only[H5,h00,if_true,i8] at c1
  have c6:=N8 (G:=G) 1 2 [n] (by simp)
  simp only[C1,List.map_cons,List.map_nil,Ab.encI,encI,rI,List.all_cons,List.all_nil,Bool.and_true] at c6
  by_cases hn:n=1∨n=2
  ·have hE:mc c n=w5 c (qJ c n):=by rw[mc,if_neg (by simp[h00]),if_pos hn]
   have hR:pm c n=H0 c (qJ c n):=by rw[pm,H0,hE]
   rw[hR,hE]
   rw[show (decide ((1:Int)≤n)&&decide (n≤(2:Int)))=true by rw[Bool.and_eq_true,decide_eq_true_iff,decide_eq_true_iff];omega] at c6
   have c7:=lF (G:=G) c (x6 c) _ _ hG hOk hsm (uC (G:=G) hOk hsm hU hn) hSG
   have c8:DCall prog G 44 [.one (.im (i8 c (x6 c) (B0 c.reg c.lets))),.one (.fn (.func 67) [.ptr 1 0,.ptr 0 0])] [.row [.im (.raw (.int .u8 n))],.row [.im (i8 c (x6 c) (B0 c.reg c.lets))]] (fun d o=>d=.tup [M7 (H0 c (qJ c n)),iv (w5 c (qJ c n))]∧o=[]++A1 2):=
    DCall.freeze 0 (c7 []) (Nat.zero_le _) rfl (by simp[fz,DC.lt,frz,H6,i8,rI]) (fun o r _ h=>by
     match o with
     | 0=>simp at h
     | 1=>simp at h
     | o+2=>simp at h)
   simp only[i8,rI,List.nil_append,A1,List.replicate] at c8
   have hs:=w0
   repeat' first|(with_reducible first|refine zz ?_|refine zr ?_|refine zE [0,1,2,3,4,5,6,7,14,21] ?_)|simp -dsimp[hs]|refine zp c1 ?_|refine zt c6 ?_ ?_ ?_;(focus simp;done);focus (simp;done)|refine CallE.embed [1,6] (c8) ?_ ?_ ?_ ?_ ?_ ?_;(focus simp[E0];done);(focus simp;done);(focus simp;done);(focus simp;done);(focus refine D4 ?_;simp[E0,F0];done);try simp -dsimp[x9,E0,hs]|refine j7 ?_ ?_<;>intro h<;>try simp only[j0] at h
  ·have hE:mc c n=11:=by rw[mc,if_neg (by simp[h00]),if_neg hn]
   rw[pm,hE,if_neg (by decide)]
   rw[show (decide ((1:Int)≤n)&&decide (n≤(2:Int)))=false by rw[Bool.eq_false_iff];intro h;rw[Bool.and_eq_true,decide_eq_true_iff,decide_eq_true_iff] at h;omega] at c6
   have hs:=w0
   repeat' first|(with_reducible first|refine zz ?_|refine zr ?_|refine zE [0,1,2,3,4,5,6,7,14,21] ?_)|simp -dsimp[hs]|refine zp c1 ?_|refine zt c6 ?_ ?_ ?_;(focus simp;done);focus (simp;done)|refine j7 ?_ ?_<;>intro h<;>try simp only[j0] at h
   all_goals simp[G4]
 ·obtain⟨X,hX⟩:=F9 c
  rw[hX] at c1
  have hE:mc c n=j6 c:=by rw[mc,if_pos h00]
  rw[pm,hE,if_neg h00]
  have hs:=h00
  repeat' first|(with_reducible first|refine zz ?_|refine zr ?_|refine zE [0,1,2,3,4,5,6,7,14,21] ?_)|simp -dsimp[hs]|refine zp c1 ?_|refine j7 ?_ ?_<;>intro h<;>try simp only[j0] at h
  all_goals simp[G4]
attribute [simp] p9 dO F1 U3 A1 C3 nilV N6 ZK
theorem pr (n k:Int) (d:Dim):zP prog G 73 [iv n,ue k,G2 d] (D3 { drawing:=n,letter:=1,kind:=k,items:=[],dims:=[d] }):=by
 refine zf func73 ntmps73 ?_
 try simp only[iv,ue,G2]
 repeat' first|(with_reducible first|refine zz ?_|refine zx ?_|refine zE [0,1,2,5,6] ?_)|simp -dsimp
def wT (x:Link):DV:=.agg ((C5 x).map .im)
theorem wS (x:Link):ImV (wT x):=by simp[wT]
attribute [simp] wS
theorem vT (n:Int):zP prog G 72 [iv n] (wT { drawing:=n,dim:=0,back:=true }):=by
 refine zf func72 ntmps72 ?_
 try simp only[iv]
 repeat' first|(with_reducible first|refine zz ?_|refine zx ?_|refine zE [0,2] ?_)|simp -dsimp
 all_goals rfl
theorem zH  : zP prog G 36 [] (x8 [⟨2,0⟩,⟨3,0⟩]):=by
 refine zf func36 ntmps36 ?_
 try simp only[iv]
 repeat' first|(with_reducible first|refine zz ?_|refine zx ?_|refine zE [0] ?_)|simp -dsimp
def yj:List Issue:=[{ drawing:=1,letter:=1,kind:=1,items:=[⟨2,2⟩,⟨3,1⟩,⟨4,1⟩],dims:=[] },{ drawing:=2,letter:=1,kind:=2,items:=[],dims:=[⟨100,98,103⟩] },{ drawing:=3,letter:=1,kind:=2,items:=[],dims:=[⟨200,199,201⟩] },{ drawing:=4,letter:=1,kind:=3,items:=[],dims:=[⟨410,405,412⟩] }]
def exC:Chains:={ reg:=yj,lets:=[1,1,1,1],of:=1,loops:=[{ links:=[⟨4,0,false⟩,⟨2,0,true⟩,⟨2,0,true⟩,⟨3,0,true⟩],lo:=0,hi:=20 }] }
theorem vO  : zP prog G 28 [] (M7 exC):=by
 refine zf func28 ntmps28 ?_
 try simp only[iv]
 have c1:=vT (G:=G) 2
 have c2:=vT (G:=G) 3
 have c3:=pr (G:=G) 2 2 ⟨100,98,103⟩
 have c4:=pr (G:=G) 3 2 ⟨200,199,201⟩
 have c5:=pr (G:=G) 4 3 ⟨410,405,412⟩
 simp only[G2,wT,C5,l5,D3,e8,rI,List.map_cons,List.map_nil] at c1 c2 c3 c4 c5
 repeat' first|(with_reducible first|refine zz ?_|refine zx ?_|refine zE [0,1] ?_)|simp -dsimp|refine zp c1 ?_|refine zp c2 ?_|refine zp c3 ?_|refine zp c4 ?_|refine zp c5 ?_
 all_goals exact⟨rfl,rfl,rfl,rfl⟩
end Go.Proofs
namespace Go.Proofs
open Go Go.Ab
theorem AI:j6 exC=0:=by decide +kernel
theorem vv:fx exC=[⟨2,0⟩,⟨3,0⟩]:=by decide +kernel
theorem vt:lM exC 0 false=[405,103,103,201]:=by decide +kernel
theorem sS:gU exC 0=[7,5,5,2]:=by decide +kernel
theorem vr:lL exC=[0]:=by decide +kernel
theorem eO:A0 exC 0=0:=by decide +kernel
theorem ex_few:sN exC=[⟨2,0⟩]∧jz exC=0:=by decide +kernel
theorem ex_grade:mu exC=2∧mw exC=0:=by decide +kernel
theorem ex_proof:An exC=0∧Am exC=[405,103,103,201]∧Z5 exC=0:=by decide +kernel
theorem sR:aj exC [⟨2,0⟩,⟨3,0⟩] 1=0:=by decide +kernel
theorem vz:mc exC 1=6:=by decide +kernel
open Go Go.Ab Tryz
variable {G:Cr}
attribute [local simp] B6
attribute [simp] p9 dO F1 U3 A1 C3 nilV N6 ZK
theorem vw:r7 exC:=by
 refine⟨⟨by decide,?_⟩,by decide,by decide,?_⟩
 ·intro x hx
  simp only[exC,yj,List.mem_cons,List.not_mem_nil,or_false] at hx
  rcases hx with rfl|rfl|rfl|rfl<;>decide
 ·intro x hx
  simp only[exC,List.mem_cons,List.not_mem_nil,or_false] at hx
  subst hx;decide
theorem ex_reach:kN exC 0=-2∧kO exC 0=17∧bb exC 0=1:=by decide +kernel
def BK:Chains:={ reg:=[{ drawing:=1,letter:=1,kind:=1,items:=[⟨2,2⟩,⟨3,1⟩,⟨4,1⟩],dims:=[] },{ drawing:=2,letter:=1,kind:=2,items:=[],dims:=[⟨100,98,103⟩] },{ drawing:=2,letter:=2,kind:=2,items:=[],dims:=[⟨100,99,101⟩] },{ drawing:=3,letter:=1,kind:=2,items:=[],dims:=[⟨200,199,201⟩] },{ drawing:=4,letter:=1,kind:=3,items:=[],dims:=[⟨410,405,412⟩] }],lets:=[1,2,1,1],of:=1,loops:=exC.loops }
theorem vu:bC exC [⟨2,0⟩,⟨3,0⟩] 1=BK:=by kernel_rfl
theorem xp:pm exC 1=G4:=by rw[pm,vz];rfl
set_option maxRecDepth 10000 in
theorem xI (a b d:IC) (hG:B4 G) (hC:K1 G) (hU:bx G a b d) (hSF:Y7 G) (hSG:bi G):zP prog G 5 [] (bv true):=by
 refine zf func5 ntmps5 ?_
 try simp only[iv]
 have hsm:=vw
 have hok:j6 exC=0→OkC exC:=mV
 have c0:=vO (G:=G)
 have cb:=zH (G:=G)
 have c1:=ep (G:=G) exC 0 hG hC hsm hok
 rw[ex_reach.1,ex_reach.2.1,eO] at c1
 have c2:=sf (G:=G) exC 0 hG hC hsm hok
 rw[ex_reach.2.2,eO] at c2
 have c3:=uJ (G:=G) exC 0 false hG hC hsm
 rw[vt,eO] at c3
 have c4:=sc (G:=G) exC 0 hG hC hsm
 rw[sS,eO] at c4
 have c5:=uI (G:=G) exC hG hC hsm
 rw[vr,AI] at c5
 have c6:=nA (G:=G) exC hG hC hsm hSF
 rw[vv,AI] at c6
 have c7:=uL (G:=G) exC hG hC hsm
 rw[ex_grade.1,ex_grade.2] at c7
 have c8:=uK (G:=G) exC hG hC hsm
 rw[ex_proof.1,ex_proof.2.1,ex_proof.2.2] at c8
 have c9:=se (G:=G) exC hG hC hsm hSF
 rw[ex_few.1,ex_few.2] at c9
 have c10:=jd (G:=G) exC [⟨2,0⟩,⟨3,0⟩] 1 hG hC hsm hSF hSG (by simp)
 rw[vu,sR] at c10
 have c11:=sd (G:=G) exC 1 a b d hG hC hU hsm hSG (by decide) (by decide)
 rw[xp,vz] at c11
 have s1:=V2 (G:=G) [405,103,103,201] [405,103,103,201] (by simp)
 have s2:=V2 (G:=G) [7,5,5,2] [7,5,5,2] (by simp)
 have s3:=V2 (G:=G) [0] [0] (by simp)
 have s4:=V2 (G:=G) [1,2,1,1] [1,2,1,1] (by simp)
 have s5:=gl (G:=G) [⟨2,0⟩,⟨3,0⟩] (by simp)
 have s6:=gl (G:=G) [⟨2,0⟩] (by simp)
 have s7:=gq (G:=G) { drawing:=2,letter:=2,kind:=2,items:=[],dims:=[⟨100,99,101⟩] } { drawing:=2,letter:=2,kind:=2,items:=[],dims:=[⟨100,99,101⟩] } (by simp)
 simp only[decide_true] at s1 s2 s3 s4 s7
 simp only[D3,e8,l5,rI,List.map_cons,List.map_nil] at s7
 obtain⟨e0,e1,e3,e4,e5,hX⟩:∃ e0 e1 e3 e4 e5,M7 BK=.agg [.im (.sl [e0,e1,[.raw (.int .i64 2),.raw (.int .i64 2),.raw (.int .u8 2),.sl [],.sl [[.raw (.int .i64 100),.raw (.int .i64 99),.raw (.int .i64 101)]]],e3,e4]),.im (.sl [[.raw (.int .i64 1)],[.raw (.int .i64 2)],[.raw (.int .i64 1)],[.raw (.int .i64 1)]]),.im (.raw (.int .i64 1)),.im (.sl e5)]:=⟨_,_,_,_,_,rfl⟩
 have hZ:M7 G4=.agg [.im (.sl []),.im (.sl []),.im (rI 0),.im (.sl [])]:=rfl
 rw[hX] at c10
 rw[hZ] at c11
 obtain⟨X,hXe⟩:∃ X,M7 exC=X:=⟨_,rfl⟩
 have hXf:∃ x y z w,X=.agg [.im x,.im y,.im z,.im w]:=⟨_,_,_,_,hXe.symm⟩
 obtain⟨x,y,z,w,rfl⟩:=hXf
 rw[hXe] at c0 c1 c2 c3 c4 c5 c6 c7 c8 c9 c10 c11
 repeat' first|(with_reducible first|refine zz ?_|refine zx ?_|refine zE [0,1,2,3,4,5,6,7,8,9,10,11,12,13,14,15,16,17,18,19,20,21,22,23,157] ?_)|simp -dsimp|refine zp c0 ?_|refine zp cb ?_|refine zp c1 ?_|refine zp c2 ?_|refine zp c3 ?_|refine zp c4 ?_|refine zp c5 ?_|refine zp c6 ?_|refine zp c7 ?_|refine zp c8 ?_|refine zp c9 ?_|refine zp c10 ?_|refine zp c11 ?_|refine zp s5 ?_|refine zp s6 ?_|refine zt s1 ?_ ?_ ?_;(focus simp;done);focus (simp;done)|refine zt s2 ?_ ?_ ?_;(focus simp;done);focus (simp;done)|refine zt s3 ?_ ?_ ?_;(focus simp;done);focus (simp;done)|refine zt s4 ?_ ?_ ?_;(focus simp;done);focus (simp;done)|refine zt s7 ?_ ?_ ?_;(focus simp;done);focus (simp;done)|refine j7 ?_ ?_<;>intro h<;>try simp only[j0] at h
end Go.Proofs
namespace Go.Proofs
open Go Go.Ab Tryz
variable {G:Cr}
attribute [simp] p9 dO F1 U3 A1 C3 nilV N6 ZK
def bN (c:Chains):Bool:=fA c&&decide (j6 c=0)
theorem nu (c:Chains) (hk:qu c.reg):zP prog G 6 [M7 c] (bv (bN c)):=by
 refine zf func6 ntmps6 ?_
 try simp only[M7]
 have c1:=vm (G:=G) c
 cases hq:fA c
 ·rw[hq] at c1
  repeat' first|(with_reducible first|refine zz ?_|refine zx ?_|refine zE [0,1,2] ?_)|simp -dsimp|refine zp c1 ?_
  all_goals simp[bN,hq]
 ·have hg:=smallB_iff.1 hq
  have hsm:r7 c:=⟨⟨hg.1.1,fun x hx=>⟨(hk x hx).1,(hk x hx).2,(hg.1.2 x hx).1,(hg.1.2 x hx).2⟩⟩,hg.2⟩
  rw[hq] at c1
  have c2:=pp (G:=G) c hsm
  have hr:bN c=decide (j6 c=0):=by simp[bN,hq]
  rw[hr]
  generalize j6 c=e at *
  repeat' first|(with_reducible first|refine zz ?_|refine zx ?_|refine zE [0,1,2] ?_)|simp -dsimp|refine zp c1 ?_|refine zp c2 ?_
def eR (n:Int):List IC:=[.raw (.int .u32 n)]
def u5 (l:List Int) (i:Nat):Int:=if l.length=0 then 0 else (l[i % l.length]?).getD 0
theorem tl (l:List Int) (i:Nat) (hi:i<1000000) (hu:∀ n∈l,0≤n∧n≤4294967295):zP prog G 20 [.one (.im (.sl (l.map eR))),iv (i:Int)] (iv (u5 l i)):=by
 refine zf func20 ntmps20 ?_
 try simp only[iv]
 by_cases h0:l.length=0
 ·have h0':l=[]:=List.eq_nil_of_length_eq_zero h0
  subst h0'
  have hs:=trivial
  repeat' first|(with_reducible first|refine zz ?_|refine zr ?_|refine zE [0,1,4,7] ?_)|simp -dsimp[hs]|refine j7 ?_ ?_<;>intro h<;>try simp only[j0] at h
  all_goals simp[u5]
 ·have h0i:¬ (l.length:Int)=0:=by omega
  have hlt:i % l.length<l.length:=Nat.mod_lt _ (by omega)
  have hm:((i:Int).tmod (l.length:Int))=((i % l.length:Nat):Int):=by
   rw[Int.tmod_eq_emod_of_nonneg (by omega)];omega
  have hc:u5 l i=l[i % l.length]:=by rw[u5,if_neg h0,List.getElem?_eq_getElem hlt];rfl
  have hn:=hu _ (List.getElem_mem hlt)
  rw[hc]
  have hji:i % l.length≤i:=Nat.mod_le _ _
  generalize hj:i % l.length=j at *
  generalize hx:l[j]=x at *
  have hxx:l[j]?=some x:=by rw[List.getElem?_eq_getElem hlt,hx]
  have w1:IntKind.i64.wrap x=x:=o6 (by omega) (by omega)
  have w2:IntKind.i64.wrap (j:Int)=(j:Int):=o6 (by omega) (by omega)
  have hs:=za h0 (za h0i (za hm (za hlt (za hx (za hxx (za w1 w2))))))
  repeat' first|(with_reducible first|refine zz ?_|refine zr ?_ (by simp -dsimp[eR,hs];exact rfl)|refine zE [0,1,4,7] ?_)|simp -dsimp[eR,hs]|refine j7 ?_ ?_<;>intro h<;>try simp only[j0] at h
end Go.Proofs
