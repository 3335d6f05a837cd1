/- Part 15 of the proofs. -/
import Derived.Test.YtjodaihiogfkbaaGreatDoorT08
import Derived.Test.YtjodaihiogfkbaaGreatDoorT13
import Derived.Test.YtjodaihiogfkbaaGreatDoorT14
set_option linter.all false
set_option linter.deprecated false
set_option maxHeartbeats 100000000
namespace Go.Proofs
open Go Go.Ab Tryz
variable {G:Kc}
def L6 (G:Kc):Prop:=G 7=some [.fn (.func 372) [],.fn (.func 373) [],.fn (.func 374) []]
def lR (c:Chains):Prop:=U4 c.reg∧c.lets.length≤80∧c.loops.length≤10∧∀ x∈c.loops,x.links.length≤12
def R6 (c:Chains):List (Int×Int):=(br c.reg c.lets c.of).foldl (fun m x=>N2 x.drawing x.count m) []
def gT (D:List (Int×Int)) (B:List (Int×Issue)) (x:ChLoop):Nat→Bool
 | 0=>ti x
 | 1=>qD x
 | _=>W8 D B [] x.links
def O1 (D:List (Int×Int)) (B:List (Int×Issue)) (x:ChLoop):Bool:=ti x&&qD x&&W8 D B [] x.links
theorem Am {D:List (Int×Int)} {B:List (Int×Issue)} {x:ChLoop} {i:Nat} (h:gT D B x i=false):O1 D B x=false:=by
 unfold O1
 match i with
 | 0=>simp only[gT] at h;simp[h]
 | 1=>simp only[gT] at h;simp[h]
 | i+2=>simp only[gT] at h;simp[h]
theorem An {D:List (Int×Int)} {B:List (Int×Issue)} {x:ChLoop} (h:∀ i<3,gT D B x i=true):O1 D B x=true:=by
 have h0:=h 0 (by omega);have h1:=h 1 (by omega);have h2:=h 2 (by omega)
 simp only[gT] at h0 h1 h2
 simp[O1,h0,h1,h2]
def A5 (c:Chains):Int:=if l4 c.reg≠0 then l4 c.reg else if B6 c.reg c.lets c.of≠0∨¬ (1≤c.loops.length∧c.loops.length≤6) then 60 else if c.loops.all (O1 (R6 c) (aG c.reg c.lets)) then 0 else 60
def az (c:Chains):DV:=if A5 c=0 then .one (.im (J7 c (R6 c) (aG c.reg c.lets))) else .one (.im (.raw (.pointer none)))
theorem Ae (c:Chains):ImV (az c):=by unfold az;split<;>simp[J7]
attribute [simp] Ae
theorem wu (l:List Issue) (lets:List Int) (d:Int):(br l lets d).length≤l.length:=by
 unfold br
 split
 ·simp only[K5,List.length_map]
  have:=List.length_filter_le (fun n=>decide (0<n4 (mn l lets d) n)) (nums l)
  have:=u6 l l.length
  simp only[nums] at *;omega
 ·simp
theorem Ap (c:Chains) (hG:o3 G) (hC:L6 G) (hs:lR c):zP prog G 261 [Bt c] (.tup [az c,iv (A5 c)]):=by
 refine zf func261 ntmps261 ?_
 try simp only[Bt]
 obtain⟨hsr,hsl,hso,hsk⟩:=hs
 have hC':G 7=some [.fn (.func 372) [],.fn (.func 373) [],.fn (.func 374) []]:=hC
 have c1:=nM c.reg hG hsr
 by_cases h0:l4 c.reg=0
 ·rw[h0] at c1
  have c2:=wt c.reg c.lets c.of hG hsr (by omega)
  have c3:=bl (G:=G) 1 6 [(c.loops.length:Int)] (by simp)
  by_cases hT:B6 c.reg c.lets c.of≠0∨¬ (1≤c.loops.length∧c.loops.length≤6)
  ·have hE:A5 c=60:=by unfold A5;rw[if_neg (by simp[h0]),if_pos hT]
   by_cases hT0:B6 c.reg c.lets c.of=0
   ·rw[hT0] at c2
    have hr:([(c.loops.length:Int)].all fun x=>decide (1≤x)&&decide (x≤6))=false:=by
     simp;omega
    rw[hr] at c3
    have hs:=trivial
    repeat' first|(with_reducible first|refine zz ?_|refine zr ?_|refine zE [0,1,2,3,4,5,6,7,8,10,11,13,15,17,22,43,55,56,57,58,81,82,83,84,97,98,99,100,103,104,105,112] ?_)|simp -dsimp[hs]|refine zp c1 ?_|refine zp c2 ?_|refine zt c3 ?_ ?_ ?_;(focus simp;done);focus (simp;done)|refine i9 ?_ ?_<;>intro h<;>try simp only[i7] at h
    all_goals try clear hs
    all_goals simp[az,hE]
   ·have hs:=hT0
    repeat' first|(with_reducible first|refine zz ?_|refine zr ?_|refine zE [0,1,2,3,4,5,6,7,8,10,11,13,15,17,22,43,55,56,57,58,81,82,83,84,97,98,99,100,103,104,105,112] ?_)|simp -dsimp[hs]|refine zp c1 ?_|refine zp c2 ?_|refine i9 ?_ ?_<;>intro h<;>try simp only[i7] at h
    all_goals try clear hs
    all_goals simp[az,hE]
  ·have hT0:B6 c.reg c.lets c.of=0:=Classical.byContradiction fun h=>hT (.inl h)
   have hr6:1≤c.loops.length∧c.loops.length≤6:=Classical.byContradiction fun h=>hT (.inr h)
   have hr:([(c.loops.length:Int)].all fun x=>decide (1≤x)&&decide (x≤6))=true:=by
    simp;omega
   rw[hT0] at c2
   rw[hr] at c3
   have hlet:v7 c.reg c.lets=true:=by
    cases h:v7 c.reg c.lets
    ·simp[B6,h0,h] at hT0
    ·rfl
   have c4:=cb c.reg hG hsr
   rw[h0,show dA c.reg=nums c.reg by simp[dA,h0]] at c4
   have hE:A5 c=if c.loops.all (O1 (R6 c) (aG c.reg c.lets)) then 0 else 60:=by simp[A5,h0,hT0];omega
   have hs:=trivial
   repeat' first|with_reducible refine zz ?_|simp -dsimp[hs]|refine zp c1 ?_|refine zp c2 ?_|refine zt c3 ?_ ?_ ?_;(focus simp;done);focus (simp;done)|refine zp c4 ?_|with_reducible refine P0 (id:=7) (nt:=116) [0,1,2,3,4,5,6,7,8,10,11,13,15,17,22,43,55,56,57,58,81,82,83,84,97,98,99,100,103,104,105,112] rfl ?_;simp -dsimp[hs]|with_reducible refine zE [0,1,2,3,4,5,6,7,8,10,11,13,15,17,22,43,55,56,57,58,81,82,83,84,97,98,99,100,103,104,105,112] ?_|refine i9 ?_ ?_<;>intro h<;>try simp only[i7] at h
   all_goals try clear hs
   have hnd:(nums c.reg).Nodup:=(E4 h0).1.imp fun h=>Int.ne_of_lt h
   have hnl:(nums c.reg).length≤c.reg.length:=u6 c.reg c.reg.length
   have hll:c.lets.length=(nums c.reg).length:=by
    simp only[v7,Bool.and_eq_true,decide_eq_true_eq] at hlet;exact hlet.1
   have hreg:=hsr.1
   refine i6 (ι:={ k:Nat // k≤(nums c.reg).length }) (fun p=>⟨116,[(1,.one (.ptr 0 0)),(2,.one (.im (.raw (.pointer none)))),(3,iv 0),(5,.one (.im (.sl ((br c.reg c.lets c.of).map A4)))),(7,.one (.ptr 7 0)),(55,r7 (nums c.reg)),(56,iv ((nums c.reg).length:Int)),(57,iv (p.1:Int))],[.row ((P6 c).map .im),.vec 1 [[.im (rI (c.loops.length:Int))]] 0 false,.map [.int .i64] [],.map [.int .i64] (I8 (((nums c.reg).take p.1).map fun d=>(d,u7 c.reg c.lets d))),.vec 0 [] 0 true,.vec 0 [] 0 true,.vec 0 [] 0 true,.row ((P6 c).map .im++[.map 2,.map 3])]⟩) (fun p=>(nums c.reg).length-p.1) ⟨0,by omega⟩ (zv [1,2,3,5,7,55,56,57] (by simp[I8])) ?_
   rintro⟨k,hk⟩
   simp only[iv,r7]
   by_cases hlt:k<(nums c.reg).length
   ·have hx:(nums c.reg)[k]?=some (nums c.reg)[k]:=by simp[hlt]
    have hkl:k<c.lets.length:=by omega
    have hy:c.lets[k]?=some c.lets[k]:=by simp[hkl]
    have hw:=zk k
    have c5:=Dn c.reg (nums c.reg)[k] c.lets[k] hG hsr
    have hta:=ub hnd hlt hkl
    rw[show atR c.reg (nums c.reg)[k] c.lets[k]=u7 c.reg c.lets (nums c.reg)[k] by rw[hta];simp[atR,h0]] at c5
    have hmp:eF (nums c.reg)[k] (u7 c.reg c.lets (nums c.reg)[k]) (((nums c.reg).take k).map fun d=>(d,u7 c.reg c.lets d))=(((nums c.reg).take (k+1)).map fun d=>(d,u7 c.reg c.lets d)):=by
     rw[iD,List.take_succ_eq_append_getElem hlt,List.map_append,List.map_singleton]
     rw[List.map_map]
     intro hm
     obtain⟨z,hz,e⟩:=List.mem_map.1 hm
     simp only[Function.comp] at e
     subst e
     obtain⟨i,hi,e⟩:=List.mem_take_iff_getElem.1 hz
     have:=(List.getElem_inj hnd).1 e;omega
    generalize u7 c.reg c.lets (nums c.reg)[k]=y at *
    have hmp':eF (nums c.reg)[k] ⟨y.drawing,y.letter,y.kind,y.items,y.dims⟩ (((nums c.reg).take k).map fun d=>(d,u7 c.reg c.lets d))=(((nums c.reg).take (k+1)).map fun d=>(d,u7 c.reg c.lets d)):=hmp
    simp only[D3] at c5
    simp only[List.map_take] at hmp'
    have hs:=za hx (za hy (za hlt (za hkl hw)))
    repeat' first|with_reducible refine zz ?_|simp -dsimp[hs]|refine zq c5 ?_|refine E5 (id:=12) (nt:=116) 18 [17] [0,1,2,3,4,5,6,7,8,10,11,13,15,17,22,43,55,56,57,58,62,63,64,65,66,67,68,69,70,71,72,73,74,75,76,77,78,81,82,83,84,97,98,99,100,103,104,105,112] [0,1,2,3,4,5,6,7,8,10,11,13,15,17,22,43,55,56,57,58,81,82,83,84,97,98,99,100,103,104,105,112] mixed rfl (by kernel_rfl) ?_|with_reducible refine zE [0,1,2,3,4,5,6,7,8,10,11,13,15,17,22,43,55,56,57,58,81,82,83,84,97,98,99,100,103,104,105,112] ?_|refine i9 ?_ ?_<;>intro h<;>try simp only[i7] at h
    all_goals try clear hs
    exact zn ⟨k+1,by omega⟩ (zw [1,2,3,5,7,55,56,57] 8 (by simp[hmp']))
   have htk:(nums c.reg).take k=nums c.reg:=List.take_of_length_le (by omega)
   rw[htk]
   change DT _ _ _ _ ⟨_,_,[_,_,_,.map _ (I8 (aG c.reg c.lets)),_,_,_,_]⟩ _
   have hs:=hlt
   repeat' first|(with_reducible first|refine zz ?_|refine zE [0,1,2,3,4,5,6,7,8,10,11,13,15,17,22,43,55,56,57,58,81,82,83,84,97,98,99,100,103,104,105,112] ?_)|simp -dsimp[hs]|refine i9 ?_ ?_<;>intro h<;>try simp only[i7] at h
   all_goals try clear hs
   have hpl:=wu c.reg c.lets c.of
   have hcD:R6 c=(br c.reg c.lets c.of).foldl (fun m x=>N2 x.drawing x.count m) []:=rfl
   generalize br c.reg c.lets c.of=ps at *
   refine i6 (ι:={ p:Nat×List (Int×Int) // p.1≤ps.length∧R6 c=(ps.drop p.1).foldl (fun m x=>N2 x.drawing x.count m) p.2 }) (fun p=>⟨116,[(1,.one (.ptr 0 0)),(2,.one (.im (.raw (.pointer none)))),(3,iv 0),(7,.one (.ptr 7 0)),(81,.one (.im (.sl (ps.map A4)))),(82,iv (ps.length:Int)),(83,iv (p.1.1:Int))],[.row ((P6 c).map .im),.vec 1 [[.im (rI (c.loops.length:Int))]] 0 false,.map [.int .i64] (N3 p.1.2),.map [.int .i64] (I8 (aG c.reg c.lets)),.vec 0 [] 0 true,.vec 0 [] 0 true,.vec 0 [] 0 true,.row ((P6 c).map .im++[.map 2,.map 3])]⟩) (fun p=>ps.length-p.1.1) ⟨(0,[]),by simp[hcD]⟩ (zv [1,2,3,7,81,82,83] (by simp[N3])) ?_
   rintro⟨⟨u,D⟩,hu,hD⟩
   simp only at hu hD
   simp only[iv]
   by_cases hlu:u<ps.length
   ·have hx:ps[u]?=some ps[u]:=by simp[hlu]
    have hw:=zk u
    rw[List.drop_eq_getElem_cons hlu,List.foldl_cons] at hD
    have hs:=za hx (za hlu hw)
    repeat' first|with_reducible refine zz ?_|simp -dsimp[hs]|refine zM 17 116 8 [0,1,2,3,4,5,6,7,8,10,11,13,15,17,22,43,55,56,57,58,81,82,83,84,97,98,99,100,103,104,105,112] ?_|with_reducible refine zE [0,1,2,3,4,5,6,7,8,10,11,13,15,17,22,43,55,56,57,58,81,82,83,84,97,98,99,100,103,104,105,112] ?_|refine i9 ?_ ?_<;>intro h<;>try simp only[i7] at h
    all_goals try clear hs
    exact zn ⟨(u+1,N2 ps[u].drawing ps[u].count D),by omega,hD⟩ (zw [1,2,3,7,81,82,83] 8)
   have hDe:D=R6 c:=by rw[hD,List.drop_eq_nil_of_le (by omega)];rfl
   subst hDe
   have hB:∀ n,(J2 (aG c.reg c.lets) n).dims.length<1000000:=fun n=>by
    rw[aG,T5]
    split
    ·rename_i hn
     obtain⟨hm,_⟩:=dL h0 hlet hn
     have:=(hsr.2 _ hm).2.2.2;omega
    ·decide
   have hs:=hlu
   repeat' first|(with_reducible first|refine zz ?_|refine zE [0,1,2,3,4,5,6,7,8,10,11,13,15,17,22,43,55,56,57,58,81,82,83,84,97,98,99,100,103,104,105,112] ?_)|simp -dsimp[hs]|refine i9 ?_ ?_<;>intro h<;>try simp only[i7] at h
   all_goals try clear hs
   refine i6 (ι:={ j:Nat // j≤c.loops.length∧c.loops.all (O1 (R6 c) (aG c.reg c.lets))=(c.loops.drop j).all (O1 (R6 c) (aG c.reg c.lets)) }) (fun p=>⟨116,[(2,.one (.im (.raw (.pointer none)))),(3,iv 0),(7,.one (.im (J7 c (R6 c) (aG c.reg c.lets)))),(97,.one (.im (.sl (c.loops.map G4)))),(98,iv (c.loops.length:Int)),(99,iv (p.1:Int))],[]⟩) (fun p=>c.loops.length-p.1) ⟨0,by simp⟩ (zw [2,3,7,97,98,99] 0 (by simp[J7])) ?_
   rintro⟨j,hj,hall⟩
   simp only[iv]
   by_cases hlj:j<c.loops.length
   ·have hx:c.loops[j]?=some c.loops[j]:=by simp[hlj]
    have hw:=zk j
    have hst:=bD hlj hall
    have hln:=hsk c.loops[j] (List.getElem_mem hlj)
    have k1:=FK (G:=G) (J7 c (R6 c) (aG c.reg c.lets)) c.loops[j]
    have k2:=FJ (G:=G) (J7 c (R6 c) (aG c.reg c.lets)) c.loops[j]
    have k3:=FI (G:=G) c (R6 c) (aG c.reg c.lets) c.loops[j] (by omega) hB
    have hbad:∀ i,gT (R6 c) (aG c.reg c.lets) c.loops[j] i=false→A5 c=60:=fun i h=>by
     rw[hE,E3 hst (by rw[Am h];exact Bool.false_ne_true)];rfl
    have hq1:gT (R6 c) (aG c.reg c.lets) c.loops[j] 0=ti c.loops[j]:=rfl
    have hq2:gT (R6 c) (aG c.reg c.lets) c.loops[j] 1=qD c.loops[j]:=rfl
    have hq3:gT (R6 c) (aG c.reg c.lets) c.loops[j] 2=W8 (R6 c) (aG c.reg c.lets) [] c.loops[j].links:=rfl
    rw[← hq1] at k1;rw[← hq2] at k2;rw[← hq3] at k3
    clear hq1 hq2 hq3
    have hs:=za hx (za hlj hC')
    repeat' first|(with_reducible first|refine zz ?_|refine zE [0,1,2,3,4,5,6,7,8,10,11,13,15,17,22,43,55,56,57,58,81,82,83,84,97,98,99,100,103,104,105,112] ?_)|simp -dsimp[hs]|refine i9 ?_ ?_<;>intro h<;>try simp only[i7] at h
    all_goals try clear hs
    refine i6 (ι:={ i:Nat // i≤3∧∀ e<i,gT (R6 c) (aG c.reg c.lets) c.loops[j] e=true }) (fun p=>⟨116,[(2,.one (.im (.raw (.pointer none)))),(3,iv 0),(7,.one (.im (J7 c (R6 c) (aG c.reg c.lets)))),(15,.one (.ptr 1 0)),(97,.one (.im (.sl (c.loops.map G4)))),(98,iv (c.loops.length:Int)),(99,iv (j:Int)),(103,.agg [.im (.fn (.func 372) []),.im (.fn (.func 373) []),.im (.fn (.func 374) [])]),(104,iv (p.1:Int))],[.vec 0 [] 0 true,.row ((G4 c.loops[j]).map .im)]⟩) (fun p=>3-p.1) ⟨0,by simp⟩ (zv [2,3,7,15,97,98,99,103,104]) ?_
    rintro⟨i,hi,hcc⟩
    simp only[iv]
    by_cases hi3:i<3
    ·have hwc:=zk i
     match i,hi3,hi,hcc,hwc with
     | 0,hi3,hi,hcc,hwc =>
       cases hq:gT (R6 c) (aG c.reg c.lets) c.loops[j] 0<;>simp only[hq] at k1
       ·have h60:=hbad 0 hq
        have hs:=trivial
        repeat' first|(with_reducible first|refine zz ?_|refine zr ?_|refine zE [0,1,2,3,4,5,6,7,8,10,11,13,15,17,22,43,55,56,57,58,81,82,83,84,97,98,99,100,103,104,105,112] ?_)|simp -dsimp[hs]|refine zp k1 ?_|refine i9 ?_ ?_<;>intro h<;>try simp only[i7] at h
        all_goals try clear hs
        all_goals simp[az,h60]
       ·have hs:=hwc
        repeat' first|(with_reducible first|refine zz ?_|refine zE [0,1,2,3,4,5,6,7,8,10,11,13,15,17,22,43,55,56,57,58,81,82,83,84,97,98,99,100,103,104,105,112] ?_)|simp -dsimp[hs]|refine zp k1 ?_|refine i9 ?_ ?_<;>intro h<;>try simp only[i7] at h
        all_goals try clear hs
        exact At.round ⟨1,by omega,fun i hi=>by
         rcases Nat.lt_succ_iff_lt_or_eq.1 hi with h|rfl
         ·exact hcc i h
         ·exact hq⟩ (by simp) (zw [2,3,7,15,97,98,99,103,104] 2 (by simp;exact o4 (by omega) (by omega)))
     | 1,hi3,hi,hcc,hwc =>
       cases hq:gT (R6 c) (aG c.reg c.lets) c.loops[j] 1<;>simp only[hq] at k2
       ·have h60:=hbad 1 hq
        have hs:=trivial
        repeat' first|(with_reducible first|refine zz ?_|refine zr ?_|refine zE [0,1,2,3,4,5,6,7,8,10,11,13,15,17,22,43,55,56,57,58,81,82,83,84,97,98,99,100,103,104,105,112] ?_)|simp -dsimp[hs]|refine zp k2 ?_|refine i9 ?_ ?_<;>intro h<;>try simp only[i7] at h
        all_goals try clear hs
        all_goals simp[az,h60]
       ·have hs:=hwc
        repeat' first|(with_reducible first|refine zz ?_|refine zE [0,1,2,3,4,5,6,7,8,10,11,13,15,17,22,43,55,56,57,58,81,82,83,84,97,98,99,100,103,104,105,112] ?_)|simp -dsimp[hs]|refine zp k2 ?_|refine i9 ?_ ?_<;>intro h<;>try simp only[i7] at h
        all_goals try clear hs
        exact At.round ⟨2,by omega,fun i hi=>by
         rcases Nat.lt_succ_iff_lt_or_eq.1 hi with h|rfl
         ·exact hcc i h
         ·exact hq⟩ (by simp) (zw [2,3,7,15,97,98,99,103,104] 2 (by simp;exact o4 (by omega) (by omega)))
     | 2,hi3,hi,hcc,hwc =>
       cases hq:gT (R6 c) (aG c.reg c.lets) c.loops[j] 2<;>simp only[hq] at k3
       ·have h60:=hbad 2 hq
        have hs:=trivial
        repeat' first|(with_reducible first|refine zz ?_|refine zr ?_|refine zE [0,1,2,3,4,5,6,7,8,10,11,13,15,17,22,43,55,56,57,58,81,82,83,84,97,98,99,100,103,104,105,112] ?_)|simp -dsimp[hs]|refine zp k3 ?_|refine i9 ?_ ?_<;>intro h<;>try simp only[i7] at h
        all_goals try clear hs
        all_goals simp[az,h60]
       ·have hs:=hwc
        repeat' first|(with_reducible first|refine zz ?_|refine zE [0,1,2,3,4,5,6,7,8,10,11,13,15,17,22,43,55,56,57,58,81,82,83,84,97,98,99,100,103,104,105,112] ?_)|simp -dsimp[hs]|refine zp k3 ?_|refine i9 ?_ ?_<;>intro h<;>try simp only[i7] at h
        all_goals try clear hs
        exact At.round ⟨3,by omega,fun i hi=>by
         rcases Nat.lt_succ_iff_lt_or_eq.1 hi with h|rfl
         ·exact hcc i h
         ·exact hq⟩ (by simp) (zw [2,3,7,15,97,98,99,103,104] 2 (by simp;exact o4 (by omega) (by omega)))
    ·obtain rfl:i=3:=by omega
     have hok:=An hcc
     have hs:=hw
     repeat' first|(with_reducible first|refine zz ?_|refine zE [0,1,2,3,4,5,6,7,8,10,11,13,15,17,22,43,55,56,57,58,81,82,83,84,97,98,99,100,103,104,105,112] ?_)|simp -dsimp[hs]|refine i9 ?_ ?_<;>intro h<;>try simp only[i7] at h
     all_goals try clear hs
     exact zn ⟨j+1,by omega,I0 hst hok⟩ (zw [2,3,7,97,98,99] 0)
   ·have hok:c.loops.all (O1 (R6 c) (aG c.reg c.lets))=true:=by rw[hall,List.drop_eq_nil_of_le (by omega)];rfl
    rw[hok] at hE
    have hs:=hlj
    repeat' first|(with_reducible first|refine zz ?_|refine zr ?_|refine zE [0,1,2,3,4,5,6,7,8,10,11,13,15,17,22,43,55,56,57,58,81,82,83,84,97,98,99,100,103,104,105,112] ?_)|simp -dsimp[hs]|refine i9 ?_ ?_<;>intro h<;>try simp only[i7] at h
    all_goals try clear hs
    simp[az,hE]
 ·have hE:A5 c=l4 c.reg:=by simp[A5,h0]
  have hs:=h0
  repeat' first|(with_reducible first|refine zz ?_|refine zr ?_|refine zE [0,1,2,3,4,5,6,7,8,10,11,13,15,17,22,43,55,56,57,58,81,82,83,84,97,98,99,100,103,104,105,112] ?_)|simp -dsimp[hs]|refine zp c1 ?_|refine i9 ?_ ?_<;>intro h<;>try simp only[i7] at h
  all_goals try clear hs
  simp[az,hE,h0]
end Go.Proofs
namespace Go.Proofs
open Go Go.Ab
theorem Ez:Rd 111 F8 (fun _=>True):=(Opens.struct Tryz.underlying111 (by kernel_rfl) (yu (fun _=>True) (fun l=>∃ n:Int,l=[rI n]) (fun l=>∃ n:Int,l=[rI n]) (fun l=>∃ b:Bool,l=[rB b])) (fun i f hf=>by
 rcases i with _|_|_|i<;>simp at hf<;>subst hf
 ·exact oInt
 ·exact oInt
 ·exact DP)).mono (by
 rintro l ⟨ls,h1,h2,rfl⟩
 obtain⟨a,b,c,rfl⟩:=Cr h1
 obtain⟨x,rfl⟩:=h2 0 a rfl
 obtain⟨y,rfl⟩:=h2 1 b rfl
 obtain⟨z,rfl⟩:=h2 2 c rfl
 exact⟨⟨x,y,z⟩,trivial,rfl⟩)
theorem EN:Opens Tryz.prog 32 (fun l=>∃ xs:List Link,l=[.sl (xs.map F8)]):=
 (Opens.sliceOf Tryz.underlying32 (sz:=3) (by kernel_rfl) (by decide) (fun _=>rfl) Ez).mono (by rintro l ⟨xs,_,h⟩;exact⟨xs,h⟩)
theorem GS:Opens Tryz.prog 34 (fun l=>∃ n m:Int,l=[rI n,rI m]):=(Opens.struct Tryz.underlying34 (by kernel_rfl) (fun _ l=>∃ n:Int,l=[rI n]) (fun i f hf=>by
 rcases i with _|_|i<;>simp at hf<;>subst hf<;>exact oInt)).mono (by
 rintro l ⟨ls,h1,h2,rfl⟩
 obtain⟨a,b,rfl⟩:=vP h1
 obtain⟨x,rfl⟩:=h2 0 a rfl
 obtain⟨y,rfl⟩:=h2 1 b rfl
 exact⟨x,y,rfl⟩)
theorem yh:Rd 36 G4 (fun _=>True):=(Opens.struct Tryz.underlying36 (by kernel_rfl) (yu (fun _=>True) (fun l=>∃ xs:List Link,l=[.sl (xs.map F8)]) (fun l=>∃ n m:Int,l=[rI n,rI m]) (fun _=>True)) (fun i f hf=>by
 rcases i with _|_|i<;>simp at hf<;>subst hf
 ·exact EN
 ·exact GS)).mono (by
 rintro l ⟨ls,h1,h2,rfl⟩
 obtain⟨a,b,rfl⟩:=vP h1
 obtain⟨x,rfl⟩:=h2 0 a rfl
 obtain⟨y,z,rfl⟩:=h2 1 b rfl
 exact⟨⟨x,y,z⟩,trivial,rfl⟩)
theorem EM:Opens Tryz.prog 165 (fun l=>∃ xs:List ChLoop,l=[.sl (xs.map G4)]):=
 (Opens.sliceOf Tryz.underlying165 (sz:=3) (by kernel_rfl) (by decide) (fun _=>rfl) yh).mono (by rintro l ⟨xs,_,h⟩;exact⟨xs,h⟩)
theorem GD:Rd 167 P6 (fun c=>∀ x∈c.reg,fh x):=(Opens.struct Tryz.underlying167 (by kernel_rfl) (DM (fun _=>True) (fun l=>∃ xs:List Issue,(∀ x∈xs,fh x)∧l=[.sl (xs.map e9)]) (fun l=>∃ xs:List Int,l=[.sl (xs.map encI)]) (fun l=>∃ n:Int,l=[rI n]) (fun l=>∃ xs:List ChLoop,l=[.sl (xs.map G4)]) (fun _=>True)) (fun i f hf=>by
 rcases i with _|_|_|_|i<;>simp at hf<;>subst hf
 ·exact GQ
 ·exact DO
 ·exact oInt
 ·exact EM)).mono (by
 rintro l ⟨ls,h1,h2,rfl⟩
 obtain⟨a,b,c,d,rfl⟩:=Ho h1
 obtain⟨x,hx,rfl⟩:=h2 0 a rfl
 obtain⟨y,rfl⟩:=h2 1 b rfl
 obtain⟨z,rfl⟩:=h2 2 c rfl
 obtain⟨u,rfl⟩:=h2 3 d rfl
 exact⟨⟨x,y,z,u⟩,hx,rfl⟩)
end Go.Proofs
namespace Go.Ab
open Go
structure Note where
 number:Int
 day:Int
 signed:Int
 drawing:Int
 letter:Int
 frm:Int
 to:Int
 cancels:Int
 useUp:Bool
 ways:Int
 deriving DecidableEq
structure Notes where
 reg:List Issue
 notes:List Note
 deriving DecidableEq
def l5 (x:Note):List IC:=[rI x.number,rI x.day,.raw (.int .u8 x.signed),rI x.drawing,rI x.letter,rI x.frm,rI x.to,rI x.cancels,rB x.useUp,.raw (.int .u8 x.ways)]
def u5 (n:Notes):List IC:=[.sl (n.reg.map e9),.sl (n.notes.map l5)]
def eE (x:Note):DV:=.agg ((l5 x).map .im)
def p7 (n:Notes):DV:=.agg ((u5 n).map .im)
attribute [simp] l5 u5 eE p7
end Go.Ab
namespace Go.Proofs
open Go Go.Ab
variable {G:Kc}
def EV (x:Note):Bool:=(decide (1≤x.number)&&decide (x.number≤9999))&&(decide (0≤x.day)&&decide (x.day≤14610))
theorem Hc (n:Notes) (i:Nat) (x:Note) (hx:n.notes[i]?=some x):zP Tryz.prog G 346 [p7 n,iv (i:Int)] (bv (EV x)):=by
 refine zf Tryz.func346 Tryz.ntmps346 ?_
 try simp only[p7,iv]
 have hi:i<n.notes.length:=e7 hx
 have hxe:n.notes[i]=x:=(List.getElem?_eq_some_iff.1 hx).2
 have c1:=gx (G:=G) 1 9999 [x.number] (by simp)
 have c2:=gx (G:=G) 0 14610 [x.day] (by simp)
 have hs:=za hxe hi
 repeat' first|(with_reducible first|refine zz ?_|refine zr ?_|refine zE [0,1,2,4] ?_)|simp -dsimp[hs]|refine zt c1 ?_ ?_ ?_;(focus simp;done);focus (simp;done)|refine zt c2 ?_ ?_ ?_;(focus simp;done);focus (simp;done)|with_reducible refine j0 ?_ ?_<;>intro h<;>have h0:=h<;>(try simp only[i7] at h)<;>have h2:=h<;>(try simp at h2)<;>replace hs:=za h0 (za h (za h2 hs))
 all_goals try clear hs
 all_goals simp_all [EV]
 all_goals omega
def EU (x:Note):Bool:=decide (x.signed≤2)&&decide (x.ways≤3)
theorem Hb (n:Notes) (i:Nat) (x:Note) (hx:n.notes[i]?=some x):zP Tryz.prog G 347 [p7 n,iv (i:Int)] (bv (EU x)):=by
 refine zf Tryz.func347 Tryz.ntmps347 ?_
 try simp only[p7,iv]
 have hi:i<n.notes.length:=e7 hx
 have hxe:n.notes[i]=x:=(List.getElem?_eq_some_iff.1 hx).2
 have hs:=za hxe hi
 repeat' first|(with_reducible first|refine zz ?_|refine zr ?_|refine zE [0,1,2,4] ?_)|simp -dsimp[hs]|with_reducible refine j0 ?_ ?_<;>intro h<;>have h0:=h<;>(try simp only[i7] at h)<;>have h2:=h<;>(try simp at h2)<;>replace hs:=za h0 (za h (za h2 hs))
 all_goals try clear hs
 all_goals (clear hx;simp_all [EU])
 all_goals omega
def DR (x:Note):Bool:=(decide (1≤x.frm)&&decide (x.frm≤999))&&(decide (1≤x.to)&&decide (x.to≤999))&&decide (x.frm≤x.to)
theorem Ha (n:Notes) (i:Nat) (x:Note) (hx:n.notes[i]?=some x):zP Tryz.prog G 348 [p7 n,iv (i:Int)] (bv (DR x)):=by
 refine zf Tryz.func348 Tryz.ntmps348 ?_
 try simp only[p7,iv]
 have hi:i<n.notes.length:=e7 hx
 have hxe:n.notes[i]=x:=(List.getElem?_eq_some_iff.1 hx).2
 have c1:=gx (G:=G) 1 999 [x.frm,x.to] (by simp)
 have hs:=za hxe hi
 repeat' first|(with_reducible first|refine zz ?_|refine zr ?_|refine zE [0,1,2,4,5] ?_)|simp -dsimp[hs]|refine zt c1 ?_ ?_ ?_;(focus simp;done);focus (simp;done)|with_reducible refine j0 ?_ ?_<;>intro h<;>have h0:=h<;>(try simp only[i7] at h)<;>have h2:=h<;>(try simp at h2)<;>replace hs:=za h0 (za h (za h2 hs))
 all_goals try clear hs
 all_goals (clear hx c1;simp_all [DR])
 all_goals omega
end Go.Proofs
namespace Go.Proofs
open Go Go.Ab Tryz
variable {G:Kc}
theorem li (l:List Note) (p:Note→Bool) (k:Nat) (caps:List DC) (objs:List DObj) (hok:D4 prog k) (hf:∀ x∈l,DCall prog G k (eE x :: caps.map .one) objs (fun d o=>d=bv (p x)∧o=objs)) (hl:l.length<1000000):DCall prog G 111 [.one (.im (.sl (l.map l5))),.one (.fn (.func k) caps)] objs (fun d o=>d=iv (H9 p l)∧o=objs):=by
 refine g9 func111 rfl ntmps111 (by simp) rfl ?_
 have hs:=trivial
 repeat' first|(with_reducible first|refine zz ?_|refine zE [0,1,4,5,7,8,9,16] ?_)|simp -dsimp[hs]
 refine i6 (ι:={ k:Nat // k≤l.length∧∀ j x,j<k→l[j]?=some x→p x=false }) (fun i=>⟨19,[(0,.one (.im (.sl (l.map l5)))),(1,.one (.fn (.func k) caps)),(7,iv (l.length:Int)),(8,iv (i.1:Int))],objs⟩) (fun i=>l.length-i.1) ⟨0,by simp⟩ (zv [0,1,7,8]) ?_
 rintro⟨i,hi,hno⟩
 simp only[iv]
 by_cases hlt:i<l.length
 ·have hx:l[i]?=some l[i]:=by simp[hlt]
  have hw:=zk i
  have hc:=hf l[i] (by simp)
  simp only[eE,l5,List.map_cons,List.map_nil,bv,rI] at hc
  have hs:=za hx (za hw hok)
  repeat' first|(with_reducible first|refine zz ?_|refine And.intro (by omega) ?_|refine zr ?_|refine zE [0,1,4,5,7,8,9,16] ?_)|simp -dsimp[hs]|refine CallE.here hc ?_|refine i9 ?_ ?_<;>intro h<;>try simp only[i7] at h|with_reducible refine And.intro ?_ ?_
  all_goals try omega
  ·exact(L0 hx (by assumption) hno).symm
  ·exact At.round ⟨i+1,by omega,fun j x hj hjx=>by
    by_cases e:j=i
    ·subst e;rw[hx] at hjx;cases hjx;assumption
    ·exact hno j x (by omega) hjx⟩ (by simp;omega) (zv [0,1,7,8])
 ·have hs:=trivial
  repeat' first|(with_reducible first|refine zz ?_|refine zr ?_|refine zE [0,1,4,5,7,8,9,16] ?_)|simp -dsimp[hs]|refine i9 ?_ ?_<;>intro h<;>try simp only[i7] at h|with_reducible refine And.intro ?_ ?_
  all_goals try omega
  exact(R4 fun j x hjx=>hno j x (by have:=e7 hjx;omega) hjx).symm
theorem aB (l:List Note) (p:Note→Bool) (k:Nat) (caps:List DC) (objs:List DObj) (hok:D4 prog k) (hf:∀ x∈l,DCall prog G k (eE x :: caps.map .one) objs (fun d o=>d=bv (p x)∧o=objs)) (hl:l.length<1000000):DCall prog G 352 [.one (.im (.sl (l.map l5))),.one (.fn (.func k) caps)] objs (fun d o=>d=bv (l.any p)∧o=objs):=by
 refine g9 func352 rfl ntmps352 (by simp) rfl ?_
 have hc:=li l p k caps objs hok hf hl
 repeat' first|(with_reducible first|refine zz ?_|refine zx ?_|refine zE [0,1,4] ?_)|simp -dsimp|refine CallE.here hc ?_|with_reducible refine And.intro ?_ ?_
 simp[A3]
def ES (x:Note):Bool:=decide (2≤x.letter) || !x.useUp&&decide (x.ways=0)
theorem GY (n:Notes) (i:Nat) (x:Note) (hx:n.notes[i]?=some x):zP prog G 350 [p7 n,iv (i:Int)] (bv (ES x)):=by
 refine zf func350 ntmps350 ?_
 try simp only[p7,iv]
 have hi:i<n.notes.length:=e7 hx
 have hxe:n.notes[i]=x:=(List.getElem?_eq_some_iff.1 hx).2
 have hs:=za hxe hi
 repeat' first|(with_reducible first|refine zz ?_|refine zr ?_|refine zE [0,1,2,4,5] ?_)|simp -dsimp[hs]|with_reducible refine j0 ?_ ?_<;>intro h<;>have h0:=h<;>(try simp only[i7] at h)<;>have h2:=h<;>(try simp at h2)<;>replace hs:=za h0 (za h (za h2 hs))
 all_goals try clear hs
 all_goals (clear hx;simp_all [ES])
 all_goals omega
theorem ER (n:Notes) (x y:Note):DCall prog G 353 (eE y :: [DC.ptr 1 0].map .one) [.row ((u5 n).map .im),.row ((l5 x).map .im)] (fun d o=>d=bv (decide (y.number=x.cancels))∧o=[.row ((u5 n).map .im),.row ((l5 x).map .im)]):=by
 refine DCall.drop ?_
 refine g9 func353 rfl ntmps353 (by simp) rfl ?_
 simp only[eE,l5,u5,rI,rB]
 repeat' first|(with_reducible first|refine zz ?_|refine zx ?_|refine zE [0,1,2,3] ?_)|simp -dsimp|with_reducible refine And.intro ?_ ?_
def Br (l:List Note) (i:Nat) (x:Note):Bool:=decide (x.cancels=0)||(l.take i).any fun y=>decide (y.number=x.cancels)
theorem GX (n:Notes) (i:Nat) (x:Note) (hx:n.notes[i]?=some x) (hl:n.notes.length<1000):zP prog G 351 [p7 n,iv (i:Int)] (bv (Br n.notes i x)):=by
 refine zf func351 ntmps351 ?_
 try simp only[p7,iv]
 have hi:i<n.notes.length:=e7 hx
 have hxe:n.notes[i]=x:=(List.getElem?_eq_some_iff.1 hx).2
 have hlt:(n.notes.take i).length<1000000:=by simp;omega
 have hil:i≤n.notes.length:=by omega
 have c1:=aB (G:=G) (n.notes.take i) (fun y=>decide (y.number=x.cancels)) 353 [.ptr 1 0] [.row ((u5 n).map .im),.row ((l5 x).map .im)] (by simp) (fun y _=>ER n x y) hlt
 simp only[l5,u5,rI,rB,List.map_take,List.map_cons,List.map_nil] at c1
 have hs:=za hxe (za hi hil)
 repeat' first|(with_reducible first|refine zz ?_|refine zr ?_|refine zE [0,1,2,4,5] ?_)|simp -dsimp[hs]|refine zh c1 ?_|with_reducible refine j0 ?_ ?_<;>intro h<;>have h0:=h<;>(try simp only[i7] at h)<;>have h2:=h<;>(try simp at h2)<;>replace hs:=za h0 (za h (za h2 hs))
 all_goals try clear hs
 all_goals (clear hx c1;simp_all [Br])
theorem EQ (n:Notes) (i:Nat) (x y:Note) (hx:n.notes[i]?=some x):DCall prog G 355 (eE y :: [DC.ptr 0 0,DC.ptr 1 0].map .one) [.row ((u5 n).map .im),.row [.im (rI (i:Int))]] (fun d o=>d=bv (decide (y.number=x.number))∧o=[.row ((u5 n).map .im),.row [.im (rI (i:Int))]]):=by
 have hi:i<n.notes.length:=e7 hx
 have hxe:n.notes[i]=x:=(List.getElem?_eq_some_iff.1 hx).2
 refine DCall.drop ?_
 refine g9 func355 rfl ntmps355 (by simp) rfl ?_
 simp only[eE,l5,u5,rI,rB]
 have hs:=za hxe hi
 repeat' first|(with_reducible first|refine zz ?_|refine zr ?_)|simp -dsimp[hs]|refine zM 1 14 10 [0,1,2,3,4] ?_|with_reducible refine zE [0,1,2,3,4] ?_|with_reducible refine And.intro ?_ ?_
def uk (l:List Note) (i:Nat) (x:Note):Bool:=!(l.take i).any fun y=>decide (y.number=x.number)
theorem GW (n:Notes) (i:Nat) (x:Note) (hx:n.notes[i]?=some x) (hl:n.notes.length<1000):zP prog G 354 [p7 n,iv (i:Int)] (bv (uk n.notes i x)):=by
 refine zf func354 ntmps354 ?_
 try simp only[p7,iv]
 have hi:i<n.notes.length:=e7 hx
 have hlt:(n.notes.take i).length<1000000:=by simp;omega
 have hil:i≤n.notes.length:=by omega
 have c1:=aB (G:=G) (n.notes.take i) (fun y=>decide (y.number=x.number)) 355 [.ptr 0 0,.ptr 1 0] [.row ((u5 n).map .im),.row [.im (rI (i:Int))]] (by simp) (fun y _=>EQ n i x y hx) hlt
 simp only[l5,u5,rI,rB,List.map_take,List.map_cons,List.map_nil] at c1
 have hs:=za hi hil
 repeat' first|(with_reducible first|refine zz ?_|refine zr ?_|refine zE [0,1,2,3,4] ?_)|simp -dsimp[hs]|refine zh c1 ?_
 all_goals try clear hs
 all_goals (clear hx c1;simp_all [uk])
def BY:List Int→Int
 | []=>0
 | x :: r=>if x=0 then BY r else x
theorem Iw (l:List Int) (hl:l.length<1000000):zP prog G 84 [r7 l] (iv (BY l)):=by
 refine zf func84 ntmps84 ?_
 try simp only[r7]
 have hs:=trivial
 repeat' first|(with_reducible first|refine zz ?_|refine zE [0,2,3,5,6,7,8,9,14] ?_)|simp -dsimp[hs]
 refine i6 (ι:={ p:Nat // p≤l.length∧BY l=BY (l.drop p) }) (fun p=>⟨18,[(3,iv 0),(6,.one (.im (.sl (l.map encI)))),(7,iv (l.length:Int)),(8,iv (p.1:Int))],[]⟩) (fun p=>l.length-p.1) ⟨0,by simp⟩ (zv [3,6,7,8]) ?_
 rintro⟨k,hk,hu⟩
 simp only[iv]
 by_cases hlt:k<l.length
 ·have hw:=zk k
  rw[List.drop_eq_getElem_cons hlt,BY] at hu
  generalize hx:l[k]=x at *
  have hs:=za hx (za hw hlt)
  repeat' first|(with_reducible first|refine zz ?_|refine zr ?_|refine zE [0,2,3,5,6,7,8,9,14] ?_)|simp -dsimp[hs]|refine i9 ?_ ?_<;>intro h<;>try simp only[i7] at h
  ·rw[hu,if_neg (by assumption)]
  ·rw[if_pos (by assumption)] at hu
   exact zn ⟨k+1,by omega,hu⟩ (zv [3,6,7,8])
 ·rw[List.drop_eq_nil_of_le (by omega)] at hu
  have hs:=hlt
  repeat' first|(with_reducible first|refine zz ?_|refine zr ?_|refine zE [0,2,3,5,6,7,8,9,14] ?_)|simp -dsimp[hs]|refine i9 ?_ ?_<;>intro h<;>try simp only[i7] at h
  rw[hu];rfl
def AF (y x:Note):Bool:=decide (y.day<x.day)||decide (y.day=x.day)&&decide (y.number<x.number)
def xD (l:List Note) (i:Nat) (x:Note):Bool:=if i=0 then true else match l[i-1]? with|some y=>AF y x|none=>false
theorem EI (y x:Note):decide (BY [eu y.day x.day,eu y.number x.number]<0)=AF y x:=by
 unfold AF eu BY BY BY
 rw[Bool.eq_iff_iff]
 simp only[decide_eq_true_eq,Bool.or_eq_true,Bool.and_eq_true]
 repeat' split
 all_goals omega
theorem GV (n:Notes) (i:Nat) (x:Note) (hx:n.notes[i]?=some x) (hl:n.notes.length<1000):zP prog G 356 [p7 n,iv (i:Int)] (bv (xD n.notes i x)):=by
 refine zf func356 ntmps356 ?_
 try simp only[p7,iv]
 have hi:i<n.notes.length:=e7 hx
 have hxe:n.notes[i]=x:=(List.getElem?_eq_some_iff.1 hx).2
 by_cases h00:i=0
 ·subst h00
  have hs:=za hxe hi
  repeat' first|(with_reducible first|refine zz ?_|refine zr ?_)|simp -dsimp[hs]|refine zM 1 40 36 [0,1,2,4] ?_|with_reducible refine zE [0,1,2,4] ?_
  all_goals simp[xD]
 ·have hi1:i-1<n.notes.length:=by omega
  have hw:IntKind.i64.wrap ((i:Int)-1)=((i-1:Nat):Int):=by rw[o4 (by omega) (by omega)];omega
  have hne:((i:Int)=0)=False:=by simp[h00]
  generalize hy:n.notes[i-1]=y
  have c1:=iW (G:=G) y.day x.day
  have c2:=iW (G:=G) y.number x.number
  have c3:=Iw (G:=G) [eu y.day x.day,eu y.number x.number] (by simp)
  have hs:=za hxe (za hi (za hi1 (za hw (za hne (za hy h00)))))
  repeat' first|(with_reducible first|refine zz ?_|refine zr ?_)|simp -dsimp[hs]|refine zq c1 ?_|refine zq c2 ?_|refine zq c3 ?_|refine zM 1 40 36 [0,1,2,4] ?_|with_reducible refine zE [0,1,2,4] ?_
  rw[EI,xD,if_neg h00,List.getElem?_eq_getElem hi1,hy]
def DQ (l:List Issue) (x:Note):Bool:=if x.drawing=0∧x.letter=0 then decide (x.cancels≠0) else decide (Bu l x.drawing x.letter=0)
theorem GZ (n:Notes) (i:Nat) (x:Note) (hx:n.notes[i]?=some x) (hG:o3 G) (hs:U4 n.reg):zP prog G 349 [p7 n,iv (i:Int)] (bv (DQ n.reg x)):=by
 refine zf func349 ntmps349 ?_
 try simp only[p7,iv]
 have hi:i<n.notes.length:=e7 hx
 have hxe:n.notes[i]=x:=(List.getElem?_eq_some_iff.1 hx).2
 have c1:=Dn (G:=G) n.reg x.drawing x.letter hG hs
 simp only[D3] at c1
 have hs:=za hxe hi
 repeat' first|(with_reducible first|refine zz ?_|refine zr ?_|refine zE [0,1,2,4,5,7,19] ?_)|simp -dsimp[hs]|refine zp c1 ?_|refine i9 ?_ ?_<;>intro h<;>try simp only[i7] at h
 all_goals try clear hs
 ·have h1:x.drawing=0∧x.letter=0:=⟨h.1.symm,h.2.symm⟩
  rw[DQ,if_pos h1];simp
 ·rw[DQ,if_neg (by omega)]
theorem pY (l:List Int) (n:Int) (hl:l.length<1000000):zP prog G 174 [r7 l,iv n] (iv (H9 (fun x=>decide (n=x)) l)):=by
 refine zf func174 ntmps174 ?_
 try simp only[r7,iv]
 have hs:=trivial
 repeat' first|(with_reducible first|refine zz ?_|refine zE [0,1,4,5,7,8,9,16] ?_)|simp -dsimp[hs]
 refine i6 (ι:={ k:Nat // k≤l.length∧∀ j x,j<k→l[j]?=some x→decide (n=x)=false }) (fun i=>⟨19,[(0,r7 l),(1,iv n),(7,iv (l.length:Int)),(8,iv (i.1:Int))],[]⟩) (fun i=>l.length-i.1) ⟨0,by simp⟩ (zv [0,1,7,8]) ?_
 rintro⟨i,hi,hno⟩
 simp only[iv,r7]
 by_cases hlt:i<l.length
 ·have hx0:l[i]?=some l[i]:=by simp[hlt]
  have hw:=zk i
  generalize hx:l[i]=x at *
  have hs:=za hx (za hw hlt)
  repeat' first|(with_reducible first|refine zz ?_|refine zr ?_|refine zE [0,1,4,5,7,8,9,16] ?_)|simp -dsimp[hs]|refine i9 ?_ ?_<;>intro h<;>try simp only[i7] at h
  ·exact(L0 hx0 (by simp;assumption) hno).symm
  ·exact At.round ⟨i+1,by omega,fun j y hj hjx=>by
    by_cases e:j=i
    ·subst e;rw[hx0] at hjx;cases hjx;simp;assumption
    ·exact hno j y (by omega) hjx⟩ (by simp;omega) (zv [0,1,7,8])
 ·have hs:=hlt
  repeat' first|(with_reducible first|refine zz ?_|refine zr ?_|refine zE [0,1,4,5,7,8,9,16] ?_)|simp -dsimp[hs]|refine i9 ?_ ?_<;>intro h<;>try simp only[i7] at h
  exact(R4 fun j x hjx=>hno j x (by have:=e7 hjx;omega) hjx).symm
theorem U1 (l:List Int) (n:Int) (hl:l.length<1000000):zP prog G 107 [r7 l,iv n] (bv (decide (n∈l))):=by
 refine zf func107 ntmps107 ?_
 try simp only[r7,iv]
 have hc:=pY (G:=G) l n hl
 repeat' first|(with_reducible first|refine zz ?_|refine zx ?_|refine zE [0,1,4] ?_)|simp -dsimp|refine zp hc ?_
 have h1:=A3 (fun x=>decide (n=x)) l
 rw[← decide_eq_true_iff (p:=0≤_),h1]
 simp
theorem ie (n lo hi:Int):zP prog G 252 [iv n,iv lo,iv hi] (bv (decide (lo≤n)&&decide (n≤hi))):=by
 refine zf func252 ntmps252 ?_
 try simp only[iv,iv,iv]
 have hs:=trivial
 repeat' first|(with_reducible first|refine zz ?_|refine zr ?_|refine zE [0,1,2,6] ?_)|simp -dsimp[hs]|with_reducible refine j0 ?_ ?_<;>intro h<;>have h0:=h<;>(try simp only[i7] at h)<;>have h2:=h<;>(try simp at h2)<;>replace hs:=za h0 (za h (za h2 hs))
 all_goals try clear hs
 all_goals simp_all
end Go.Proofs
namespace Go.Proofs
open Go Go.Ab
def uj (n:Notes) (i:Nat) (x:Note):Bool:=EV x&&EU x&&DR x&&DQ n.reg x&&ES x&&Br n.notes i x&&uk n.notes i x&&xD n.notes i x
def pH (n:Notes) (i:Nat) (x:Note):Nat→Bool
 | 0=>EV x
 | 1=>EU x
 | 2=>DR x
 | 3=>DQ n.reg x
 | 4=>ES x
 | 5=>Br n.notes i x
 | 6=>uk n.notes i x
 | _=>xD n.notes i x
theorem Ce {n:Notes} {i:Nat} {x:Note} {k:Nat} (h:pH n i x k=false):uj n i x=false:=by
 unfold uj
 match k with
 | 0|1|2|3|4|5|6=>simp only[pH] at h;simp[h]
 | k+7=>simp only[pH] at h;simp[h]
theorem Cf {n:Notes} {i:Nat} {x:Note} (h:∀ k<8,pH n i x k=true):uj n i x=true:=by
 have h0:=h 0 (by omega);have h1:=h 1 (by omega);have h2:=h 2 (by omega);have h3:=h 3 (by omega)
 have h4:=h 4 (by omega);have h5:=h 5 (by omega);have h6:=h 6 (by omega);have h7:=h 7 (by omega)
 simp only[pH] at h0 h1 h2 h3 h4 h5 h6 h7
 simp[uj,h0,h1,h2,h3,h4,h5,h6,h7]
def Ev (x:Note):Bool:=(decide (1≤x.number)&&decide (x.number≤9999))&&(decide (0≤x.day)&&decide (x.day≤14610))&&decide (x.signed≤2)&&(decide (1≤x.frm)&&decide (x.frm≤x.to))&&decide (x.to≤999)&&decide (x.ways≤3)
def Eu (l:List Issue) (x:Note):Bool:=if x.drawing=0∧x.letter=0 then decide (x.cancels≠0) else (o7 l x.drawing x.letter).isSome
def Et (x:Note):Bool:=!(decide (x.letter<2)&&(x.useUp||decide (0<x.ways)))
def lY (n:Notes) (i:Nat) (x:Note):Bool:=Ev x&&Eu n.reg x&&Et x&&uk n.notes i x&&Br n.notes i x&&xD n.notes i x
theorem ye {n:Notes} {i:Nat} {x:Note} (h0:l4 n.reg=0) (hw:0≤x.ways):lY n i x=uj n i x:=by
 have hB:Eu n.reg x=DQ n.reg x:=by
  unfold Eu DQ Bu
  rw[if_neg (show ¬ l4 n.reg≠0 by simp[h0])]
  split
  ·rfl
  ·cases (o7 n.reg x.drawing x.letter).isSome<;>rfl
 have hC:Et x=ES x:=by
  unfold Et ES
  rw[Bool.eq_iff_iff]
  cases x.useUp<;>simp<;>omega
 have hA:Ev x=(EV x&&EU x&&DR x):=by
  unfold Ev EV EU DR
  rw[Bool.eq_iff_iff]
  simp only[Bool.and_eq_true,decide_eq_true_eq]
  omega
 unfold lY uj
 rw[hA,hB,hC]
 generalize Br n.notes i x=a
 generalize uk n.notes i x=b
 cases a<;>cases b<;>simp
def j8 (l:List Note):List Int:=(l.filter fun x=>decide (x.signed=1)).map (·.number)
theorem bQ (l:List Note) (k:Nat) (h:k<l.length):j8 (l.take (k+1))=j8 (l.take k)++(if l[k].signed=1 then [l[k].number] else []):=by
 unfold j8
 rw[List.take_succ_eq_append_getElem h,List.filter_append,List.map_append]
 congr 1
 by_cases e:l[k].signed=1<;>simp[e]
theorem Y5 (l:List Note):(j8 l).length≤l.length:=by
 unfold j8;rw[List.length_map];exact List.length_filter_le _ _
def lK (n:Notes):Prop:=∀ (i:Nat) (x:Note),n.notes[i]?=some x→uj n i x=true
def dc (n:Notes):Bool:=decide (n.notes.length≤12)&&(List.range n.notes.length).all (fun i=>match n.notes[i]? with|some x=>uj n i x|none=>true)&&decide ((j8 n.notes).length≤5)
def s6 (n:Notes):Int:=if l4 n.reg≠0 then l4 n.reg else if dc n then 0 else 30
theorem notesB_iff {n:Notes}:dc n=true↔n.notes.length≤12∧lK n∧(j8 n.notes).length≤5:=by
 simp only[dc,Bool.and_eq_true,decide_eq_true_eq,List.all_eq_true,List.mem_range,and_assoc]
 refine and_congr_right fun _=>and_congr_left fun _=>⟨fun h i x hx=>?_,fun h i hi=>?_⟩
 ·have:=h i (List.getElem?_eq_some_iff.1 hx).1
  rw[hx] at this;exact this
 ·rw[List.getElem?_eq_getElem hi]
  exact h i _ (List.getElem?_eq_getElem hi)
theorem rU {n:Notes} (h:lK n):(n.notes.map (·.number)).Nodup:=by
 rw[List.nodup_iff_pairwise_ne,List.pairwise_iff_getElem]
 intro i j hi hj hij
 simp only[List.length_map] at hi hj
 simp only[List.getElem_map]
 have h1:=h j _ (List.getElem?_eq_getElem hj)
 simp only[uj,Bool.and_eq_true,uk,Bool.not_eq_true',List.any_eq_false,decide_eq_true_eq] at h1
 refine h1.1.2 _ (List.mem_iff_getElem.2 ⟨i,by simp;omega,?_⟩)
 simp
theorem jg {n:Notes} (h:lK n):(j8 n.notes).Nodup:=by
 have:=rU h
 unfold j8
 exact this.sublist ((List.filter_sublist).map _)
def rt (o s:List Int):Prop:=∀ (i:Nat) (v:Int),s[i]?=some v→v∈o∧∀ j u,i=j+1→s[j]?=some u→u<v
def fK (o s:List Int) (v:Int):Nat→Bool
 | 0=>decide (v∈o)
 | j+1=>decide (v∈o)&&(match s[j]? with|some u=>decide (u<v)|none=>true)
def G7 (o s:List Int):Bool:=(List.range s.length).all fun i=>match s[i]? with|some v=>fK o s v i|none=>true
theorem truthB_iff {o s:List Int}:G7 o s=true↔rt o s:=by
 simp only[G7,List.all_eq_true,List.mem_range]
 constructor
 ·intro h i v hv
  have h1:=h i (List.getElem?_eq_some_iff.1 hv).1
  rw[hv] at h1
  simp only at h1
  cases i with
  | zero =>
    simp only[fK,decide_eq_true_eq] at h1
    exact⟨h1,fun j u e=>by omega⟩
  | succ i =>
    simp only[fK,decide_eq_true_eq,Bool.and_eq_true] at h1
    refine⟨h1.1,fun j u e hu=>?_⟩
    obtain rfl:j=i:=by omega
    rw[hu] at h1;simpa using h1.2
 ·intro h i hi
  rw[List.getElem?_eq_getElem hi]
  simp only
  obtain⟨h1,h2⟩:=h i _ (List.getElem?_eq_getElem hi)
  cases i with
  | zero=>simpa only[fK,decide_eq_true_eq] using h1
  | succ i =>
    have hj:i<s.length:=by omega
    simp only[fK,List.getElem?_eq_getElem hj,Bool.and_eq_true,decide_eq_true_eq]
    exact⟨h1,h2 i _ rfl (List.getElem?_eq_getElem hj)⟩
theorem mz {o s:List Int} {i:Nat} {v:Int} (h:s[i]?=some v) (hb:v∉o∨∃ j u,i=j+1∧s[j]?=some u∧v≤u):G7 o s=false:=by
 rw[← Bool.not_eq_true,truthB_iff]
 intro ht
 obtain⟨h1,h2⟩:=ht i v h
 rcases hb with hb|⟨j,u,e,hu,hle⟩
 ·exact hb h1
 ·have:=h2 j u e hu;omega
theorem kn {o s:List Int} (h:rt o s):G7 o s=true:=truthB_iff.2 h
def dK (o s:List Int) (k:Nat):Prop:=∀ (i:Nat) (v:Int),i<k→s[i]?=some v→v∈o∧∀ j u,i=j+1→s[j]?=some u→u<v
theorem fJ {o s:List Int} {k:Nat} {v:Int} (h:dK o s k) (hv:s[k]?=some v) (ho:v∈o) (hl:∀ j u,k=j+1→s[j]?=some u→u<v):dK o s (k+1):=by
 intro i w hi hw
 by_cases e:i=k
 ·subst e;rw[hv] at hw;cases hw;exact⟨ho,hl⟩
 ·exact h i w (by omega) hw
theorem ph {o s:List Int} (h:dK o s s.length):rt o s:=fun i v hv=>h i v (List.getElem?_eq_some_iff.1 hv).1 hv
theorem ko {o s:List Int} {k:Nat} (h:dK o s k):∀ (j i:Nat) (u v:Int),i<j→j<k→s[i]?=some u→s[j]?=some v→u<v
 | 0,_,_,_,h1,_,_,_=>by omega
 | j+1,i,u,v,h1,h2,h3,h4=>by
   have hj:j<s.length:=by have:=(List.getElem?_eq_some_iff.1 h4).1;omega
   have hw:s[j]?=some s[j]:=List.getElem?_eq_getElem hj
   have h5:=(h (j+1) v h2 h4).2 j s[j] rfl hw
   by_cases e:i=j
   ·subst e;rw[hw] at h3;cases h3;exact h5
   ·have:=ko h j i u s[j] (by omega) (by omega) h3 hw;omega
theorem pg {o s:List Int} {k:Nat} {v:Int} (h:dK o s (k+1)) (hk:k<s.length) (hv:s[k]<v):v∉s.take (k+1):=by
 intro hm
 obtain⟨i,hi,e⟩:=List.mem_take_iff_getElem.1 hm
 by_cases he:i=k
 ·subst he;omega
 ·have:=ko h k i s[i] s[k] (by omega) (by omega) (List.getElem?_eq_getElem _) (List.getElem?_eq_getElem _);omega
open Go Go.Ab Tryz
variable {G:Kc}
def AZ (n:Notes):Prop:=lS n.reg∧n.notes.length≤16
def bL (n:Notes):Bool:=open Classical in decide (lS n.reg)&&decide (n.notes.length≤16)
theorem zH (n:Notes):zP prog G 124 [p7 n] (bv (!bL n)):=by
 refine zf func124 ntmps124 ?_
 try simp only[p7]
 have c1:=CI (G:=G) n.reg
 have hE:bL n=(open Classical in decide (lS n.reg)&&decide (n.notes.length≤16)):=rfl
 by_cases hS:lS n.reg
 ·have c1':∀ objs,DCall prog G 189 [G9 n.reg] objs (fun d objs'=>d=bv false∧objs'=objs):=fun objs=>(c1 objs).mono fun d o ⟨h1,h2⟩=>⟨by rw[h1];simp[hS],h2⟩
  rw[decide_eq_true hS,Bool.true_and] at hE
  repeat' first|(with_reducible first|refine zz ?_|refine zx ?_|refine zE [0,1,2] ?_)|simp -dsimp|refine zp c1' ?_
  rw[hE,← decide_not,decide_eq_decide];omega
 ·have c1':∀ objs,DCall prog G 189 [G9 n.reg] objs (fun d objs'=>d=bv true∧objs'=objs):=fun objs=>(c1 objs).mono fun d o ⟨h1,h2⟩=>⟨by rw[h1];simp[hS],h2⟩
  rw[decide_eq_false hS,Bool.false_and] at hE
  repeat' first|(with_reducible first|refine zz ?_|refine zx ?_|refine zE [0,1,2] ?_)|simp -dsimp|refine zp c1' ?_
  rw[hE];try rfl
end Go.Proofs
namespace Go.Ab
open Go
def sS (b:Bool):List IC:=[rB b]
def JN (l:List Bool):DV:=.one (.im (.sl (l.map sS)))
attribute [simp] sS JN
def tl (l:List Note) (b:List Bool) (d:Int):Nat→Int
 | 0=>-1
 | k+1=>if b[k]?=some true∧(l[k]?.map (·.drawing))=some d then (k:Int) else tl l b d k
theorem Aq (l:List Note) (b:List Bool) (d:Int):∀ k,-1≤tl l b d k∧tl l b d k<k
 | 0=>by simp[tl]
 | k+1=>by
   have:=Aq l b d k
   unfold tl
   split<;>omega
def gq (l:List Note) (b:List Bool) (d:Int):Int:=if tl l b d b.length<0 then 1 else match l[(tl l b d b.length).toNat]? with|some x=>x.letter|none=>0
end Go.Ab
namespace Go.Proofs
open Go Go.Ab
variable {G:Kc}
end Go.Proofs
namespace Go.Proofs
open Go Go.Ab
variable {G:Kc}
end Go.Proofs
namespace Go.Ab
open Go
def zL (signed without:List Int) (m:Int) (x:Note):Bool:=(decide (x.signed=2)||decide (x.number∈signed)) && !decide (x.number∈without)&&(decide (x.frm≤m)&&decide (m≤x.to))
def jH (n:Int):List Note→List Bool→Bool
 | y :: l,b :: o=>!(b&&decide (y.cancels=n))&&jH n l o
 | _,_=>true
def T9 (signed without:List Int) (m:Int):List Note→List Bool
 | []=>[]
 | x :: r=>(zL signed without m x&&jH x.number r (T9 signed without m r)) :: T9 signed without m r
theorem bq (signed without:List Int) (m:Int):∀ l,(T9 signed without m l).length=l.length
 | []=>rfl
 | x :: r=>by simp[T9,bq signed without m r]
@[simp] theorem Hv (L:List Bool) (k:Nat) (v:Bool):(l7 (L.map sS)).set k [DC.im (.raw (.bool v))]=l7 ((L.set k v).map sS):=by
 simp only[l7,List.map_set,sS,rB,List.map_cons,List.map_nil]
@[simp] theorem HA (L:List Bool) (k:Nat) (h:k<(l7 (L.map sS)).length):(l7 (L.map sS))[k]=[DC.im (.raw (.bool (L[k]'(by simpa[q9] using h))))]:=by
 simp[l7]
end Go.Ab
namespace Go.Proofs
open Go Go.Ab
variable {G:Kc}
end Go.Proofs
namespace Go.Proofs
open Go Go.Ab
def P4 (l:List Note) (i:Nat):Int:=((l[i]?).map (·.number)).getD 0
def pE (l:List Note) (i:Nat):Bool:=match l[i]? with|some x=>decide (x.signed=1)|none=>false
structure OpenTo (l:List Note) (k:Nat) (S:List Nat):Prop where
 perm:S.Perm ((List.range k).filter (pE l))
 srt:S.Pairwise fun a b=>P4 l a≤P4 l b
theorem OpenTo.nil (l:List Note):OpenTo l 0 []:=⟨by simp,by simp⟩
theorem OpenTo.lt {l:List Note} {k:Nat} {S:List Nat} (h:OpenTo l k S):∀ i∈S,i<k∧pE l i=true:=fun i hi=>by
 have:=h.perm.mem_iff.1 hi
 simpa using this
theorem OpenTo.len {l:List Note} {k:Nat} {S:List Nat} (h:OpenTo l k S):S.length≤k:=by
 rw[h.perm.length_eq]
 have:=List.length_filter_le (pE l) (List.range k)
 simpa using this
theorem OpenTo.skip {l:List Note} {k:Nat} {S:List Nat} (h:OpenTo l k S) (hk:pE l k=false):OpenTo l (k+1) S:=
 ⟨by rw[List.range_succ,List.filter_append];simpa[hk] using h.perm,h.srt⟩
theorem OpenTo.put {l:List Note} {k:Nat} {S:List Nat} (h:OpenTo l k S) (hk:pE l k=true) (q:Nat)
 (h1:∀ i∈S.take q,P4 l i≤P4 l k) (h2:∀ i∈S.drop q,P4 l k≤P4 l i):OpenTo l (k+1) (S.take q++k :: S.drop q):=by
 constructor
 ·rw[List.range_succ,List.filter_append]
  simp only[List.filter_cons,hk,if_true,List.filter_nil]
  refine List.perm_middle.trans ?_
  rw[List.take_append_drop]
  exact(List.perm_append_singleton k _).symm.trans (List.Perm.append_right _ h.perm)
 ·have h3:=h.srt
  rw[← List.take_append_drop q S,List.pairwise_append] at h3
  obtain⟨p1,p2,p3⟩:=h3
  rw[List.pairwise_append,List.pairwise_cons]
  refine⟨p1,⟨h2,p2⟩,fun a ha b hb=>?_⟩
  rcases List.mem_cons.1 hb with rfl|hb
  ·exact h1 a ha
  ·exact p3 a ha b hb
theorem OpenTo.first {l:List Note} {k:Nat} {S:List Nat} (h:OpenTo l k S) {q:Nat} (hq:q<S.length) {v:Int} (hv:P4 l S[q]≤v):∀ i∈S.take (q+1),P4 l i≤v:=fun i hi=>by
 obtain⟨j,hj,e⟩:=List.mem_take_iff_getElem.1 hi
 have h3:=List.pairwise_iff_getElem.1 h.srt
 by_cases he:j=q
 ·subst he;rw[← e];exact hv
 ·have:=h3 j q (by omega) hq (by omega)
  rw[e] at this;omega
theorem gC (l:List Note):∀ k,k≤l.length→((List.range k).filter (pE l)).map (P4 l)=j8 (l.take k)
 | 0,_=>by simp[j8]
 | k+1,h=>by
   have hk:k<l.length:=by omega
   rw[List.range_succ,List.filter_append,List.map_append,gC l k (by omega),bQ l k hk]
   congr 1
   have e:l[k]?=some l[k]:=by simp[hk]
   by_cases h1:l[k].signed=1
   ·simp[pE,e,h1,P4]
   ·simp[pE,e,h1]
theorem OpenTo.nums {l:List Note} {S:List Nat} (h:OpenTo l l.length S):S.map (P4 l)=j6 (j8 l):=by
 have h1:(S.map (P4 l)).Perm (j6 (j8 l)):=by
  refine(h.perm.map _).trans ?_
  rw[gC l _ (Nat.le_refl _),List.take_length]
  exact(List.mergeSort_perm _ _).symm
 refine h1.eq_of_pairwise (le:=(·≤·)) (fun a b _ _ h2 h3=>by omega) (by rw[List.pairwise_map];exact h.srt) ?_
 have:=List.pairwise_mergeSort (le:=fun x y:Int=>decide (x≤y)) (fun a b c h1 h2=>by simp at *;omega) (fun a b=>by simp;omega) (j8 l)
 exact this.imp fun h=>by simpa using h
theorem isort_mem {l:List Int} {n:Int}:n∈j6 l↔n∈l:=(List.mergeSort_perm l _).mem_iff
theorem pW {l:List Int} (h:l.Nodup):(j6 l).Nodup:=(List.mergeSort_perm l _).nodup_iff.2 h
theorem bW (l:List Int):(j6 l).Pairwise (·≤·):=by
 have:=List.pairwise_mergeSort (le:=fun x y:Int=>decide (x≤y)) (fun a b c h1 h2=>by simp at *;omega) (fun a b=>by simp;omega) l
 exact this.imp fun h=>by simpa using h
theorem fo (signed without:List Int) (m:Int):∀ (l:List Note) (k:Nat),(T9 signed without m l).drop k=T9 signed without m (l.drop k)
 | _,0=>rfl
 | [],_+1=>rfl
 | x :: r,k+1=>by simp[T9,fo signed without m r k]
theorem CU {s w:List Int} {m:Int} {l:List Note} {k:Nat} (hk:k<l.length) (hk':k<(T9 s w m l).length):(T9 s w m l)[k]=(zL s w m l[k]&&jH l[k].number (l.drop (k+1)) ((T9 s w m l).drop (k+1))):=by
 have h1:=fo s w m l k
 rw[List.drop_eq_getElem_cons hk,List.drop_eq_getElem_cons hk',T9] at h1
 rw[fo]
 exact(List.cons.inj h1).1
theorem wo {n:Int} {l:List Note} {F:List Bool} {k:Nat} (hk:k<l.length) (hf:k<F.length):jH n (l.drop k) (F.drop k)=(!(F[k]&&decide (l[k].cancels=n))&&jH n (l.drop (k+1)) (F.drop (k+1))):=by
 rw[List.drop_eq_getElem_cons hk,List.drop_eq_getElem_cons hf,jH]
theorem zK {n:Int} {l:List Note} {F:List Bool} {k:Nat} (hk:l.length≤k):jH n (l.drop k) (F.drop k)=true:=by
 rw[List.drop_eq_nil_of_le hk];rfl
def kR:Note:=⟨0,0,0,0,1,0,0,0,false,0⟩
def FN (l:List Note) (b:List Bool) (d:Int):Nat→Note
 | 0=>kR
 | k+1=>match l[k]? with
   | some x=>if b[k]?=some true∧x.drawing=d then x else FN l b d k
   | none=>kR
theorem Ec (l:List Note) (b:List Bool) (d:Int):∀ k,k≤l.length→FN l b d k=if tl l b d k<0 then kR else match l[(tl l b d k).toNat]? with|some x=>x|none=>kR
 | 0,_=>by simp[FN,tl]
 | k+1,h=>by
   have hk:k<l.length:=by omega
   have e:l[k]?=some l[k]:=by simp[hk]
   simp only[FN,tl,e,Option.map_some,Option.some.injEq]
   split
   ·rw[if_neg (by omega)];simp[e]
   ·exact Ec l b d k (by omega)
open Go Go.Ab Tryz
variable {G:Kc}
theorem GA {n:Notes} {i:Nat} {x:Note} (h:¬ (1≤x.number∧x.number≤9999∧0≤x.day∧x.day≤14610∧x.signed≤2∧1≤x.frm∧x.frm≤x.to∧x.to≤999∧x.ways≤3)):lY n i x=false:=by
 have:Ev x=false:=by
  rw[← Bool.not_eq_true];simp only[Ev,Bool.and_eq_true,decide_eq_true_eq];omega
 simp[lY,this]
theorem Gz {n:Notes} {i:Nat} {x:Note} {f:Bool} (hf:(o7 n.reg x.drawing x.letter).isSome=f) (h:¬ ((x.drawing=0∧x.letter=0→x.cancels≠0)∧(¬ (x.drawing=0∧x.letter=0)→f=true))):lY n i x=false:=by
 have:Eu n.reg x=false:=by
  rw[← Bool.not_eq_true];unfold Eu;rw[hf]
  split<;>simp_all
 simp[lY,this]
theorem Gy {n:Notes} {i:Nat} {x:Note} (h:x.letter<2∧(x.useUp=true∨0<x.ways)):lY n i x=false:=by
 have:Et x=false:=by
  obtain⟨h1,h2⟩:=h
  rw[Et,Bool.not_eq_false']
  rcases h2 with h2|h2<;>simp[h1,h2]
 simp[lY,this]
theorem Gx {n:Notes} {i:Nat} {x:Note} (h:uk n.notes i x=false):lY n i x=false:=by simp[lY,h]
theorem Gw {n:Notes} {i:Nat} {x:Note} {f:Bool} (hf:(o7 n.reg x.drawing x.letter).isSome=f) (h:1≤x.number∧x.number≤9999∧0≤x.day∧x.day≤14610∧x.signed≤2∧1≤x.frm∧x.frm≤x.to∧x.to≤999∧x.ways≤3)
 (hb:(x.drawing=0∧x.letter=0→x.cancels≠0)∧(¬ (x.drawing=0∧x.letter=0)→f=true)) (hd:¬ (x.letter<2∧(x.useUp=true∨0<x.ways))) (he:uk n.notes i x=true):lY n i x=(Br n.notes i x&&xD n.notes i x):=by
 have h1:Ev x=true:=by simp only[Ev,Bool.and_eq_true,decide_eq_true_eq];omega
 have h2:Eu n.reg x=true:=by
  unfold Eu;rw[hf]
  split<;>simp_all
 have h3:Et x=true:=by
  rw[Et,Bool.not_eq_true',← Bool.not_eq_true];simpa using hd
 simp[lY,h1,h2,h3,he]
def Ee (l:List Note) (x:Note) (k:Nat):Bool:=decide (x.cancels=0)||(l.take k).any fun y=>decide (y.number=x.cancels)
theorem AA {l:List Note} {x:Note} {k:Nat} (hk:k<l.length):Ee l x (k+1)=(Ee l x k||decide (l[k].number=x.cancels)):=by
 unfold Ee
 rw[List.take_succ_eq_append_getElem hk,List.any_append]
 simp[Bool.or_assoc]
def kT (l:List Note) (x:Note) (k:Nat):Prop:=((l.take k).any fun y=>decide (y.number=x.number))=false
theorem pG {l:List Note} {x:Note} {k:Nat} (hk:k<l.length) (h:kT l x k) (h2:¬ l[k].number=x.number):kT l x (k+1):=by
 unfold kT at *
 rw[List.take_succ_eq_append_getElem hk,List.any_append,h]
 simp[h2]
theorem Cg {l:List Note} {x:Note} {k i:Nat} (hki:k<i) (hk:k<l.length) (h2:l[k].number=x.number):uk l i x=false:=by
 unfold uk
 rw[Bool.not_eq_false',List.any_eq_true]
 exact⟨l[k],List.mem_take_iff_getElem.2 ⟨k,by omega,rfl⟩,by simp[h2]⟩
theorem Cd (n:Notes) (i:Nat) (x:Note) (hx:n.notes[i]?=some x) (hl:n.notes.length<1000) (hr:n.reg.length<1000):zP prog G 267 [p7 n,iv (i:Int)] (bv (lY n i x)):=by
 refine zf func267 ntmps267 ?_
 try simp only[p7,iv]
 have hi:i<n.notes.length:=e7 hx
 have hxe:n.notes[i]=x:=(List.getElem?_eq_some_iff.1 hx).2
 have c1:=ie (G:=G) x.number 1 9999
 have c2:=ie (G:=G) x.day 0 14610
 have c3:=ie (G:=G) x.frm 1 x.to
 have c4:=sM (G:=G) n.reg x.drawing x.letter (by omega)
 simp only[D3] at c4
 generalize hf:(o7 n.reg x.drawing x.letter).isSome=f at *
 have c5:∀ (h:x.drawing=0) objs,DCall prog G 171 [G9 n.reg,D3 0 x.letter] objs (fun r objs'=>r=.tup [O8 ((o7 n.reg x.drawing x.letter).getD M9),bv f]∧objs'=objs):=fun h=>by
  rw[h] at c4 ⊢;exact c4
 simp only[D3] at c5
 have hs:=za hxe hi
 repeat' first|(with_reducible first|refine zz ?_|refine zr ?_|refine zE [0,1,2,4,5,7,8,9,10,11,49,57,60,73,85,91,103,113] ?_)|simp -dsimp[hs]|refine zp c1 ?_|refine zp c2 ?_|refine zp c3 ?_|refine zp c4 ?_|refine zp (c5 ‹_›) ?_|refine i9 ?_ ?_<;>intro h<;>try simp only[i7] at h|with_reducible refine j0 ?_ ?_<;>intro h<;>have h0:=h<;>(try simp only[i7] at h)<;>have h2:=h<;>(try simp at h2)<;>replace hs:=za h0 (za h (za h2 hs))
 all_goals try clear hs
 all_goals clear c1 c2 c3 c4 c5 hx
 all_goals try (refine GA ?_;omega)
 all_goals try (refine Gz hf ?_;clear hf hxe;simp_all;done)
 all_goals try (refine Gy ?_;clear hf hxe;simp_all;done)
 all_goals
  have hF:uk n.notes i x=true→lY n i x=(Br n.notes i x&&xD n.notes i x):=by
   refine Gw hf (by omega) ?_ ?_
   ·clear hxe hf;simp_all
   ·clear hxe hf;simp_all;try omega
 all_goals refine i6 (ι:={ k:Nat // k≤i∧kT n.notes x k }) (fun p=>⟨143,[(1,iv (i:Int)),(2,.one (.ptr 0 0)),(5,.one (.ptr 1 0)),(8,bv (Ee n.notes x p.1)),(9,iv (p.1:Int))],[.row ((u5 n).map .im),.row ((l5 x).map .im)]⟩) (fun p=>i-p.1) ⟨0,by simp[kT]⟩ (zw [1,2,5,8,9] 2 (by clear hF hf hxe;simp[Ee, *])) ?_
 all_goals
  rintro⟨k,hk,hno⟩
  simp only[iv,bv]
  by_cases hlt:k<i
  ·have hlk:k<n.notes.length:=by omega
   have hw:=zk k
   have hsu:=AA (x:=x) hlk
   have hn2:=pG hlk hno
   have hbad:=Cg (x:=x) hlt hlk
   generalize hy:n.notes[k]=y at *
   generalize hb:Ee n.notes x k=b at *
   cases b
   all_goals
    have hs:=za hxe (za hi (za hy (za hlt (za hlk hw))))
    repeat' first|(with_reducible first|refine zz ?_|refine zr ?_|refine zE [0,1,2,4,5,7,8,9,10,11,49,57,60,73,85,91,103,113] ?_)|simp -dsimp[hs]|refine i9 ?_ ?_<;>intro h<;>try simp only[i7] at h
    all_goals try clear hs
   all_goals try (rw[show lY n i x=false from Gx (hbad (by assumption))];done)
   all_goals exact zn ⟨k+1,by omega,hn2 (by assumption)⟩ (zw [1,2,5,8,9] 2 (by simp[hsu]))
  ·have e:k=i:=by omega
   subst e
   have hT:=hF (by unfold uk;rw[show ((n.notes.take k).any fun y=>decide (y.number=x.number))=false from hno];rfl)
   rw[show Br n.notes k x=Ee n.notes x k from rfl] at hT
   by_cases h00:k=0
   ·have hk0:(k:Int)=0:=by omega
    have hs:=za hlt hk0
    repeat' first|(with_reducible first|refine zz ?_|refine zr ?_|refine zE [0,1,2,4,5,7,8,9,10,11,49,57,60,73,85,91,103,113] ?_)|simp -dsimp[hs]|refine i9 ?_ ?_<;>intro h<;>try simp only[i7] at h
    all_goals try clear hs
    rw[hT,xD,if_pos h00,Bool.and_true]
   ·have hk1:k-1<n.notes.length:=by omega
    have hk0:¬ (k:Int)=0:=by omega
    have hw:IntKind.i64.wrap ((k:Int)-1)=((k-1:Nat):Int):=by rw[o4 (by omega) (by omega)];omega
    have h8:xD n.notes k x=AF n.notes[k-1] x:=by rw[xD,if_neg h00,List.getElem?_eq_getElem hk1]
    rw[h8] at hT
    generalize hy:n.notes[k-1]=y at *
    generalize hb:Ee n.notes x k=b at *
    cases b
    all_goals
     have hs:=za hxe (za hi (za hy (za hk1 (za hw (za hk0 h00)))))
     repeat' first|(with_reducible first|refine zz ?_|refine zr ?_|refine zE [0,1,2,4,5,7,8,9,10,11,49,57,60,73,85,91,103,113] ?_)|simp -dsimp[hs]|refine i9 ?_ ?_<;>intro h<;>try simp only[i7] at h|with_reducible refine j0 ?_ ?_<;>intro h<;>have h0:=h<;>(try simp only[i7] at h)<;>have h2:=h<;>(try simp at h2)<;>replace hs:=za h0 (za h (za h2 hs))
     all_goals try clear hs
    all_goals rw[hT]
    all_goals try (rfl;done)
    all_goals (rw[Bool.true_and,Bool.eq_iff_iff];simp only[AF,Bool.or_eq_true,Bool.and_eq_true,decide_eq_true_eq,iff_true,iff_false,Bool.false_eq_true];omega)
def xF (n:Notes):Prop:=U4 n.reg∧n.notes.length≤16∧∀ x∈n.notes,0≤x.ways∧x.ways≤255∧0≤x.signed∧x.signed≤255
theorem kQ {l:List Note} {k:Nat} (h:k<l.length):((j8 (l.take (k+1))).length:Int)=(j8 (l.take k)).length+(if l[k].signed=1 then 1 else 0):=by
 rw[bQ l k h]
 split<;>simp
def fU (n:Notes):Bool:=decide (n.notes.length≤12)&&(List.range n.notes.length).all (fun i=>match n.notes[i]? with|some x=>lY n i x|none=>true)&&decide ((j8 n.notes).length≤5)
theorem rnotesB_iff {n:Notes}:fU n=true↔n.notes.length≤12∧(∀ (i:Nat) (x:Note),n.notes[i]?=some x→lY n i x=true)∧(j8 n.notes).length≤5:=by
 simp only[fU,Bool.and_eq_true,decide_eq_true_eq,List.all_eq_true,List.mem_range,and_assoc]
 refine and_congr_right fun _=>and_congr_left fun _=>⟨fun h i x hx=>?_,fun h i hi=>?_⟩
 ·have:=h i (List.getElem?_eq_some_iff.1 hx).1
  rw[hx] at this;exact this
 ·rw[List.getElem?_eq_getElem hi]
  exact h i _ (List.getElem?_eq_getElem hi)
theorem vf {n:Notes} (h0:l4 n.reg=0) (hx:∀ x∈n.notes,0≤x.ways):fU n=dc n:=by
 rw[Bool.eq_iff_iff,rnotesB_iff,notesB_iff]
 refine and_congr_right fun _=>and_congr_left fun _=>forall_congr' fun i=>forall_congr' fun x=>?_
 exact⟨fun h hi=>by rw[← ye h0 (hx x (List.mem_of_getElem? hi))];exact h hi,fun h hi=>by rw[ye h0 (hx x (List.mem_of_getElem? hi))];exact h hi⟩
theorem vG (n:Notes) (hs:xF n):zP prog G 218 [p7 n] (bv (fU n)):=by
 refine zf func218 ntmps218 ?_
 try simp only[p7]
 obtain⟨hsr,hsn,hsx⟩:=hs
 have hr:=hsr.1
 by_cases hl:n.notes.length≤12
 ·have hli:¬ (12:Int)<n.notes.length:=by omega
  have hs:=hli
  repeat' first|(with_reducible first|refine zz ?_|refine zE [0,1,2,3,4,8,13,19,26] ?_)|simp -dsimp[hs]|refine i9 ?_ ?_<;>intro h<;>try simp only[i7] at h
  all_goals try clear hs
  refine i6 (ι:={ k:Nat // k≤n.notes.length∧∀ (j:Nat) (x:Note),j<k→n.notes[j]?=some x→lY n j x=true }) (fun p=>⟨31,[(1,.one (.ptr 0 0)),(3,iv ((j8 (n.notes.take p.1)).length:Int)),(4,iv (p.1:Int))],[.row ((u5 n).map .im)]⟩) (fun p=>n.notes.length-p.1) ⟨0,by simp⟩ (zv [1,3,4] (by simp[j8])) ?_
  rintro⟨k,hk,hok⟩
  simp only[iv]
  by_cases hlt:k<n.notes.length
  ·have hx0:n.notes[k]?=some n.notes[k]:=by simp[hlt]
   have hw:=zk k
   have hos:=kQ hlt
   have hol:=Y5 (n.notes.take k)
   rw[List.length_take] at hol
   have hw2:IntKind.i64.wrap (((j8 (n.notes.take k)).length:Int)+1)=((j8 (n.notes.take k)).length:Int)+1:=o4 (by omega) (by omega)
   have hsx':=hsx n.notes[k] (List.getElem_mem hlt)
   generalize hx:n.notes[k]=x at *
   have c1:=Cd (G:=G) n k x hx0 (by omega) (by omega)
   have hbad:lY n k x=false→fU n=false:=fun h=>by
    rw[← Bool.not_eq_true]
    intro hb
    have:=(rnotesB_iff.1 hb).2.1 k x hx0
    rw[h] at this;cases this
   have hstep:lY n k x=true→∀ (j:Nat) (z:Note),j<k+1→n.notes[j]?=some z→lY n j z=true:=fun h j z hj hz=>by
    by_cases e:j=k
    ·subst e;rw[hx0] at hz;cases hz;exact h
    ·exact hok j z (by omega) hz
   generalize lY n k x=q at *
   cases q
   ·have hs:=za hx (za hlt hw)
    repeat' first|(with_reducible first|refine zz ?_|refine zr ?_|refine zE [0,1,2,3,4,8,13,19,26] ?_)|simp -dsimp[hs]|refine zp c1 ?_|refine i9 ?_ ?_<;>intro h<;>try simp only[i7] at h
    all_goals try clear hs
    exact hbad rfl
   ·have hs:=za hx (za hlt (za hw hw2))
    repeat' first|(with_reducible first|refine zz ?_|refine zE [0,1,2,3,4,8,13,19,26] ?_)|simp -dsimp[hs]|refine zp c1 ?_|refine i9 ?_ ?_<;>intro h<;>try simp only[i7] at h
    all_goals try clear hs
    all_goals exact zn ⟨k+1,by omega,hstep rfl⟩ (zv [1,3,4] (by simp[hos, *]))
  ·have e:k=n.notes.length:=by omega
   subst e
   rw[List.take_length]
   have hs:=hlt
   repeat' first|(with_reducible first|refine zz ?_|refine zr ?_|refine zE [0,1,2,3,4,8,13,19,26] ?_)|simp -dsimp[hs]|refine i9 ?_ ?_<;>intro h<;>try simp only[i7] at h
   all_goals try clear hs
   rw[Bool.eq_iff_iff,rnotesB_iff]
   simp only[decide_eq_true_eq]
   constructor
   ·intro h
    exact⟨hl,fun j x hx=>hok j x (e7 hx) hx,by omega⟩
   ·intro h
    have:=h.2.2;omega
 ·have hli:(12:Int)<n.notes.length:=by omega
  have hs:=hli
  repeat' first|(with_reducible first|refine zz ?_|refine zr ?_|refine zE [0,1,2,3,4,8,13,19,26] ?_)|simp -dsimp[hs]|refine i9 ?_ ?_<;>intro h<;>try simp only[i7] at h
  all_goals try clear hs
  exact Bool.eq_false_iff.2 fun h=>hl (rnotesB_iff.1 h).1
theorem yD (n:Notes) (hs:xF n) (h0:l4 n.reg=0) (objs:List DObj):DCall prog G 218 [p7 n] objs (fun rr objs'=>rr=bv (dc n)∧objs'=objs):=by
 rw[← vf h0 fun x hx=>(hs.2.2 x hx).1]
 exact vG n hs objs
theorem Ao (n:Notes) (hs:xF n):zP prog G 169 [p7 n] (iv (s6 n)):=by
 refine zf func169 ntmps169 ?_
 try simp only[p7]
 have c1:=yj (G:=G) n.reg hs.1
 by_cases h0:l4 n.reg=0
 ·have c2:=yD (G:=G) n hs h0
  have hE:s6 n=if dc n then 0 else 30:=by unfold s6;rw[if_neg (by simp[h0])]
  rw[h0] at c1
  generalize dc n=q at *
  cases q
  ·have hs:=trivial
   repeat' first|(with_reducible first|refine zz ?_|refine zr ?_|refine zE [0,1,2,3,8,12] ?_)|simp -dsimp[hs]|refine zp c1 ?_|refine zp c2 ?_|refine i9 ?_ ?_<;>intro h<;>try simp only[i7] at h
   all_goals try clear hs
   all_goals simp[hE]
  ·have hs:=trivial
   repeat' first|(with_reducible first|refine zz ?_|refine zr ?_|refine zE [0,1,2,3,8,12] ?_)|simp -dsimp[hs]|refine zp c1 ?_|refine zp c2 ?_|refine i9 ?_ ?_<;>intro h<;>try simp only[i7] at h
   all_goals try clear hs
   all_goals simp[hE]
 ·have hE:s6 n=l4 n.reg:=by unfold s6;rw[if_pos h0]
  have hs:=h0
  repeat' first|(with_reducible first|refine zz ?_|refine zr ?_|refine zE [0,1,2,3,8,12] ?_)|simp -dsimp[hs]|refine zp c1 ?_|refine i9 ?_ ?_<;>intro h<;>try simp only[i7] at h
  all_goals try clear hs
  all_goals simp[hE]
def C7 (G:Kc):Prop:=G 4=some [.fn (.func 346) [],.fn (.func 347) [],.fn (.func 348) [],.fn (.func 349) [],.fn (.func 350) [],.fn (.func 351) [],.fn (.func 354) [],.fn (.func 356) []]
def u3 (G:Kc):Prop:=∀ (l:List Int) (g sz:Nat) (nl:Bool),(sz=1∨nl=true∧l=[])→l.length<1000000→DCall prog G 173 [.one (.vec 0 g 0 l.length)] [.vec sz (l7 (l.map encI)) g nl] (fun d o=>d=.tup []∧o=[.vec sz (l7 ((j6 l).map encI)) g nl])
def C8 (n:Notes):IC:=.ip [.sl (n.reg.map e9),.sl (n.notes.map l5),.sl ((nums n.reg).map encI),.sl ((j6 (j8 n.notes)).map encI)]
def cz (n:Notes):DV:=if s6 n=0 then .one (.im (C8 n)) else .one (.im (.raw (.pointer none)))
theorem zV (n:Notes):ImV (cz n):=by unfold cz;split<;>simp[C8]
attribute [simp] zV
theorem rV {n:Notes} {i:Nat} {x:Note} (h0:l4 n.reg=0) (hx:n.notes[i]?=some x) (h:uj n i x=false):s6 n=30:=by
 unfold s6
 rw[if_neg (by simp[h0]),if_neg]
 intro hb
 have:=(notesB_iff.1 hb).2.1 i x hx
 rw[h] at this;cases this
theorem pD (n:Notes) (hG:o3 G) (hN:C7 G) (hS:u3 G) (hs:xF n):zP prog G 106 [p7 n] (.tup [cz n,iv (s6 n)]):=by
 refine zf func106 ntmps106 ?_
 try simp only[p7]
 have hN':G 4=some [.fn (.func 346) [],.fn (.func 347) [],.fn (.func 348) [],.fn (.func 349) [],.fn (.func 350) [],.fn (.func 351) [],.fn (.func 354) [],.fn (.func 356) []]:=hN
 obtain⟨hsr,hsn,hsx⟩:=hs
 have c1:=cb n.reg hG hsr
 by_cases h0:l4 n.reg=0
 ·rw[h0,show dA n.reg=nums n.reg by simp[dA,h0]] at c1
  by_cases hl:n.notes.length≤12
  ·have hli:¬ (12:Int)<n.notes.length:=by omega
   have hE:s6 n=if dc n then 0 else 30:=by unfold s6;rw[if_neg (by simp[h0])]
   have hs:=hli
   repeat' first|with_reducible refine zz ?_|simp -dsimp[hs]|refine zp c1 ?_|with_reducible refine P0 (id:=6) (nt:=78) [0,1,2,3,4,5,6,7,8,9,11,19,24,30,31,32,33,37,38,39,46,50,71] rfl ?_;simp -dsimp[hs]|with_reducible refine zE [0,1,2,3,4,5,6,7,8,9,11,19,24,30,31,32,33,37,38,39,46,50,71] ?_|refine i9 ?_ ?_<;>intro h<;>try simp only[i7] at h
   all_goals try clear hs
   refine i6 (ι:={ p:Nat×Nat×Nat×Bool // p.1≤n.notes.length∧(p.2.2.1=1∨p.2.2.2=true∧j8 (n.notes.take p.1)=[])∧∀ (j:Nat) (x:Note),j<p.1→n.notes[j]?=some x→uj n j x=true }) (fun p=>⟨78,[(1,.one (.ptr 0 0)),(2,.one (.im (.raw (.pointer none)))),(3,iv 0),(6,.one (.ptr 5 0)),(7,bv false),(30,.one (.im (.sl (n.notes.map l5)))),(31,iv (n.notes.length:Int)),(32,iv (p.1.1:Int))],[.row ((u5 n).map .im),.vec 0 [] 0 true,.vec 0 [] 0 true,.vec 0 [] 0 true,.vec p.1.2.2.1 (l7 ((j8 (n.notes.take p.1.1)).map encI)) p.1.2.1 p.1.2.2.2,.row [.im (.sl (n.reg.map e9)),.im (.sl (n.notes.map l5)),.im (.sl ((nums n.reg).map encI)),.vec 4 p.1.2.1 0 (j8 (n.notes.take p.1.1)).length]]⟩) (fun p=>n.notes.length-p.1.1) ⟨(0,0,0,true),by simp[j8]⟩ (zw [1,2,3,6,7,30,31,32] 6 (by simp[j8])) ?_
   rintro⟨⟨k,g,sz,nl⟩,hk,hsz,hok⟩
   simp only at hk hsz hok
   simp only[iv,bv]
   by_cases hlt:k<n.notes.length
   ·have hx0:n.notes[k]?=some n.notes[k]:=by simp[hlt]
    have hw:=zk k
    have hos:=bQ n.notes k hlt
    have hol:=Y5 (n.notes.take k)
    rw[List.length_take] at hol
    generalize hx:n.notes[k]=x at *
    have k1:=Hc (G:=G) n k x hx0
    have k2:=Hb (G:=G) n k x hx0
    have k3:=Ha (G:=G) n k x hx0
    have k4:=GZ (G:=G) n k x hx0 hG hsr
    have k5:=GY (G:=G) n k x hx0
    have k6:=GX (G:=G) n k x hx0 (by omega)
    have k7:=GW (G:=G) n k x hx0 (by omega)
    have k8:=GV (G:=G) n k x hx0 (by omega)
    rw[show EV x=pH n k x 0 from rfl] at k1
    rw[show EU x=pH n k x 1 from rfl] at k2
    rw[show DR x=pH n k x 2 from rfl] at k3
    rw[show DQ n.reg x=pH n k x 3 from rfl] at k4
    rw[show ES x=pH n k x 4 from rfl] at k5
    rw[show Br n.notes k x=pH n k x 5 from rfl] at k6
    rw[show uk n.notes k x=pH n k x 6 from rfl] at k7
    rw[show xD n.notes k x=pH n k x 7 from rfl] at k8
    have hbad:∀ c,pH n k x c=false→s6 n=30:=fun c h=>rV h0 hx0 (Ce h)
    have hstep:uj n k x=true→∀ (j:Nat) (z:Note),j<k+1→n.notes[j]?=some z→uj n j z=true:=fun h j z hj hz=>by
     by_cases e:j=k
     ·subst e;rw[hx0] at hz;cases hz;exact h
     ·exact hok j z (by omega) hz
    have hs:=za hx (za hlt hN')
    repeat' first|(with_reducible first|refine zz ?_|refine zE [0,1,2,3,4,5,6,7,8,9,11,19,24,30,31,32,33,37,38,39,46,50,71] ?_)|simp -dsimp[hs]|refine i9 ?_ ?_<;>intro h<;>try simp only[i7] at h
    all_goals try clear hs
    refine i6 (ι:={ c:Nat // c≤8∧∀ e<c,pH n k x e=true }) (fun p=>⟨78,[(1,.one (.ptr 0 0)),(2,.one (.im (.raw (.pointer none)))),(3,iv 0),(6,.one (.ptr 5 0)),(7,bv false),(8,iv (k:Int)),(9,.one (.ptr 6 0)),(30,.one (.im (.sl (n.notes.map l5)))),(31,iv (n.notes.length:Int)),(32,iv (k:Int)),(37,.agg [.im (.fn (.func 346) []),.im (.fn (.func 347) []),.im (.fn (.func 348) []),.im (.fn (.func 349) []),.im (.fn (.func 350) []),.im (.fn (.func 351) []),.im (.fn (.func 354) []),.im (.fn (.func 356) [])]),(38,iv (p.1:Int))],[.row ((u5 n).map .im),.vec 0 [] 0 true,.vec 0 [] 0 true,.vec 0 [] 0 true,.vec sz (l7 ((j8 (n.notes.take k)).map encI)) g nl,.row [.im (.sl (n.reg.map e9)),.im (.sl (n.notes.map l5)),.im (.sl ((nums n.reg).map encI)),.vec 4 g 0 (j8 (n.notes.take k)).length],.row ((l5 x).map .im)]⟩) (fun p=>8-p.1) ⟨0,by simp⟩ (zv [1,2,3,6,7,8,9,30,31,32,37,38]) ?_
    rintro⟨c,hc,hcc⟩
    simp only[iv,bv]
    by_cases hc8:c<8
    ·have hm:pH n k x c=true→∀ e<c+1,pH n k x e=true:=fun h e he=>by
      rcases Nat.lt_succ_iff_lt_or_eq.1 he with h1|rfl
      ·exact hcc e h1
      ·exact h
     have hbc:=hbad c
     have hi8:c=0∨c=1∨c=2∨c=3∨c=4∨c=5∨c=6∨c=7:=by omega
     rcases hi8 with rfl|rfl|rfl|rfl|rfl|rfl|rfl|rfl
     all_goals
      have hs:=hli
      repeat' first|(with_reducible first|refine zz ?_|refine Je (by decide) ?_|refine zr ?_|refine zE [0,1,2,3,4,5,6,7,8,9,11,19,24,30,31,32,33,37,38,39,46,50,71] ?_)|simp -dsimp[hs]|refine zp k1 ?_|refine zp k2 ?_|refine zp k3 ?_|refine zp k4 ?_|refine zp k5 ?_|refine zp k6 ?_|refine zp k7 ?_|refine zp k8 ?_|refine i9 ?_ ?_<;>intro h<;>try simp only[i7] at h
      all_goals try clear hs
     all_goals try (have h30:=hbc (by assumption);simp[cz,h30];done)
     all_goals exact At.round ⟨_,by omega,hm (by assumption)⟩ (by simp) (zw [1,2,3,6,7,8,9,30,31,32,37,38] 7 (by simp;exact o4 (by omega) (by omega)))
    ·obtain rfl:c=8:=by omega
     have hok1:=hstep (Cf hcc)
     have hsz':sz=1∨nl=true:=hsz.imp id And.left
     clear k1 k2 k3 k4 k5 k6 k7 k8
     by_cases hsg:x.signed=1
     ·rw[if_pos hsg] at hos
      have hs:=za hx (za hlt (za hsg (za hw hsz')))
      repeat' first|(with_reducible first|refine zz ?_|refine And.intro (by omega) ?_)|simp -dsimp[hs]|refine E5 (id:=18) (nt:=78) 8 [0] [0,1,2,3,4,5,6,7,8,9,11,19,24,30,31,32,33,37,38,39,46,50,52,53,54,55,56,57,58,71] [0,1,2,3,4,5,6,7,8,9,11,19,24,30,31,32,33,37,38,39,46,50,71] mixed rfl (by kernel_rfl) ?_|with_reducible refine zE [0,1,2,3,4,5,6,7,8,9,11,19,24,30,31,32,33,37,38,39,46,50,71] ?_|refine i9 ?_ ?_<;>intro h<;>try simp only[i7] at h
      all_goals try clear hs
      exact zn ⟨(k+1,g+1,1,false),by omega,.inl rfl,hok1⟩ (zw [1,2,3,6,7,30,31,32] 6 (by simp[hos]))
     ·rw[if_neg hsg,List.append_nil] at hos
      have hszn:sz=1∨nl=true∧j8 (n.notes.take (k+1))=[]:=by rw[hos];exact hsz
      have hs:=za hx (za hlt (za hsg hw))
      repeat' first|(with_reducible first|refine zz ?_|refine zE [0,1,2,3,4,5,6,7,8,9,11,19,24,30,31,32,33,37,38,39,46,50,71] ?_)|simp -dsimp[hs]|refine i9 ?_ ?_<;>intro h<;>try simp only[i7] at h
      all_goals try clear hs
      exact zn ⟨(k+1,g,sz,nl),by omega,hszn,hok1⟩ (zw [1,2,3,6,7,30,31,32] 6 (by simp[hos]))
   ·obtain rfl:k=n.notes.length:=by omega
    rw[List.take_length] at *
    have hall:lK n:=fun i x hx=>hok i x (e7 hx) hx
    have hol:=Y5 n.notes
    have c2:=hS (j8 n.notes) g sz nl hsz (by omega)
    have hil:=H3 (j8 n.notes)
    by_cases h5:(j8 n.notes).length≤5
    ·have hE0:s6 n=0:=by rw[hE,if_pos (notesB_iff.2 ⟨hl,hall,h5⟩)]
     have h5i:¬ (5:Int)<(j8 n.notes).length:=by omega
     have hsz':sz=1∨nl=true:=hsz.imp id And.left
     have htk:(l7 ((j6 (j8 n.notes)).map encI)).take (j8 n.notes).length=l7 ((j6 (j8 n.notes)).map encI):=List.take_of_length_le (by simp[q9,hil])
     have hs:=za hlt (za h5i (za hsz' (za htk hil)))
     repeat' first|(with_reducible first|refine zz ?_|refine zr ?_|refine zE [0,1,2,3,4,5,6,7,8,9,11,19,24,30,31,32,33,37,38,39,46,50,71] ?_)|simp -dsimp[hs]|refine CallE.embed [4] (c2) ?_ ?_ ?_ ?_ ?_ ?_;(focus simp[p8];done);(focus simp;done);(focus simp;done);(focus simp;done);(focus refine n3 ?_;simp[p8,n8];done);try simp -dsimp[l9,p8,hs]|refine i9 ?_ ?_<;>intro h<;>try simp only[i7] at h
     all_goals try clear hs
     all_goals simp[cz,hE0,C8,hil,htk]
    ·have hE0:s6 n=30:=by rw[hE,if_neg fun h=>h5 (notesB_iff.1 h).2.2]
     have h5i:(5:Int)<(j8 n.notes).length:=by omega
     have hs:=za hlt h5i
     repeat' first|(with_reducible first|refine zz ?_|refine zr ?_|refine zE [0,1,2,3,4,5,6,7,8,9,11,19,24,30,31,32,33,37,38,39,46,50,71] ?_)|simp -dsimp[hs]|refine i9 ?_ ?_<;>intro h<;>try simp only[i7] at h
     all_goals try clear hs
     all_goals simp[cz,hE0]
  ·have hE:s6 n=30:=by
    unfold s6
    rw[if_neg (by simp[h0]),if_neg fun h=>hl (notesB_iff.1 h).1]
   have hli:(12:Int)<n.notes.length:=by omega
   have hs:=hli
   repeat' first|(with_reducible first|refine zz ?_|refine zr ?_|refine zE [0,1,2,3,4,5,6,7,8,9,11,19,24,30,31,32,33,37,38,39,46,50,71] ?_)|simp -dsimp[hs]|refine zp c1 ?_|refine i9 ?_ ?_<;>intro h<;>try simp only[i7] at h
   all_goals try clear hs
   all_goals simp[cz,hE]
 ·have hE:s6 n=l4 n.reg:=by unfold s6;rw[if_pos h0]
  have hs:=h0
  repeat' first|(with_reducible first|refine zz ?_|refine zr ?_|refine zE [0,1,2,3,4,5,6,7,8,9,11,19,24,30,31,32,33,37,38,39,46,50,71] ?_)|simp -dsimp[hs]|refine zp c1 ?_|refine i9 ?_ ?_<;>intro h<;>try simp only[i7] at h
  all_goals try clear hs
  all_goals simp[cz,hE,h0]
end Go.Proofs
