/- Part 19 of the proofs: laws and walks that hold without conditions beyond those that each theorem names. -/
import Derived.Test.YtciiddejfhbncaaGreatDoorP11
import Derived.Test.YtciiddejfhbncaaGreatDoorP15
import Derived.Test.YtciiddejfhbncaaGreatDoorP18
set_option linter.all false
set_option linter.deprecated false
namespace Go.Proofs
open Go Go.Ab
set_option linter.unusedSimpArgs false
variable {G:Nat→Option (List IC)}
def leavesF (tk:Int→Issue):Nat→Int→Int→List (Int×Int)
 | 0,_,_=>[]
 | k + 1,d,m=>if 1 < (tk d).kind then [(d,m)] else (tk d).items.flatMap fun y=>leavesF tk k y.drawing (IntKind.i64.wrap (m * y.count))
def addC (ns:List Int) (C:List Int) (p:Int×Int):List Int:=C.set (idx ns p.1).toNat (IntKind.i64.wrap ((C[(idx ns p.1).toNat]?).getD 0 + p.2))
def addL (ns:List Int) (C:List Int) (lv:List (Int×Int)):List Int:=lv.foldl (addC ns) C
theorem addL_length (ns:List Int):∀ (lv:List (Int×Int)) (C:List Int),(addL ns C lv).length=C.length
 | [],_=>rfl
 | p :: lv,C=>by
   have:=addL_length ns lv (addC ns C p)
   simp only [addL,List.foldl_cons] at this ⊢
   rw [this];simp [addC]
set_option maxHeartbeats 2000000 in
theorem parts_c (l:List Issue) (lets:List Int) (hl:l.length < 1000000) (h0:checkR l=0) (hlet:lettersI l lets=true) (dep:Int→Int) (hdep:∀ n∈nums l,1≤dep n∧dep n≤6∧∀ c∈chI l n,c∈nums l∧dep c < dep n) :
 ∀ (k:Nat) (d m:Int) (C:List Int),d∈nums l→dep d≤k→C.length=(nums l).length →
  DCall Tryz.prog G 133 [regv l,isv lets,iv d,iv m,.one (.vec 0 0 0 (nums l).length)] [.vec 1 (ims (C.map encI)) 0 false]
   (fun r o=>r=.tup []∧o=[.vec 1 (ims ((addL (nums l) C (leavesF (takeI l lets) k d m)).map encI)) 0 false]):=by
 intro k
 induction k with
 | zero=>intro d m C hd hk;have:=(hdep d hd).1;omega
 | succ k ih =>
   intro d m C hd hk hC
   have hll:lets.length=(nums l).length:=by
    simp only [lettersI,Bool.and_eq_true,decide_eq_true_eq] at hlet;exact hlet.1
   have ct:=taken_c (G:=G) l lets d hl hd hll
   have hti:=take_items h0 hlet hd
   obtain ⟨htm,_,_⟩:=take_spec h0 hlet hd
   have htok:=(scan_all (listed_scan (check_listed h0))).2.2.2.1 _ htm
   have hsm:=issueOk_small htok
   have hch:=(hdep d hd).2.2
   have hE:leavesF (takeI l lets) (k + 1) d m=if 1 < (takeI l lets d).kind then [(d,m)] else (takeI l lets d).items.flatMap fun y=>leavesF (takeI l lets) k y.drawing (IntKind.i64.wrap (m * y.count)):=rfl
   generalize takeI l lets d=x at *
   refine DCall.drop ?_
   refine DCall_intro Tryz.func133 rfl Tryz.ntmps133 (by simp) rfl ?_
   simp only [regv,isv,iv]
   by_cases hkind:1 < x.kind
   ·rw [if_pos hkind] at hE
    have c1:=numbers_c (G:=G) l hl
    have hnl:(nums l).length≤l.length:=numsTo_length l l.length
    have c2:=index_c (G:=G) (nums l) d (by omega)
    obtain ⟨j,hj⟩:=List.mem_iff_getElem?.1 hd
    have hnd:(nums l).Nodup:=(check_nums h0).1.imp fun h=>Int.ne_of_lt h
    have hidx:=idx_at hnd hj
    have hjl:=lt_of_getElem? hj
    rw [hidx] at c2
    have hCj:C[j]?=some C[j]:=by simp [hC,hjl]
    have hs:True:=trivial
    repeat' first|(with_reducible first|refine q01 ?_|refine q02 ?_|refine q11 ?_|refine q17 ?_)|(with_reducible refine At.fn_ret (by simp -dsimp [hkind,hCj,hjl,hs];exact rfl) ?_)|(refine CallE.pure (ct) ?_;try simp -dsimp [hkind,hCj,hjl,hs])|(refine CallE.pure (c1) ?_;try simp -dsimp [hkind,hCj,hjl,hs])|(refine CallE.pure (c2) ?_;try simp -dsimp [hkind,hCj,hjl,hs])|(with_reducible refine DT_regionE [0,1,2,3,4,5,10,11,18,33] ?_;simp -dsimp [hkind,hCj,hjl,hs])|(refine DT_cond rfl (fun h=>?_) (fun h=>?_)<;>(try simp only [nrm] at h)<;>(try exact Bool.noConfusion h))|with_reducible refine And.intro ?_ ?_
    all_goals try simp -dsimp [hkind,hCj,hjl,hs]
    all_goals try clear hs
    rw [hE]
    simp [addL,addC,hidx,hCj]
   ·rw [if_neg hkind] at hE
    have hs:True:=trivial
    repeat' first|(with_reducible first|refine q01 ?_|refine q11 ?_|refine q12 ?_|refine q14 ?_)|(refine CallE.pure (ct) ?_;try simp -dsimp [hkind,hs])|(with_reducible refine DT_regionE [0,1,2,3,4,5,10,11,18,33] ?_;simp -dsimp [hkind,hs])|(refine DT_cond rfl (fun h=>?_) (fun h=>?_)<;>(try simp only [nrm] at h)<;>(try exact Bool.noConfusion h))
    all_goals try simp -dsimp [hkind,hs]
    all_goals try clear hs
    refine DT_loop (ι:={ p:Nat×List Int // p.1≤x.items.length∧p.2.length=(nums l).length∧addL (nums l) C (x.items.flatMap fun y=>leavesF (takeI l lets) k y.drawing (IntKind.i64.wrap (m * y.count)))=addL (nums l) p.2 ((x.items.drop p.1).flatMap fun y=>leavesF (takeI l lets) k y.drawing (IntKind.i64.wrap (m * y.count))) }) (fun p=>⟨54,[(1,isv lets),(3,iv m),(4,.one (.vec 0 0 0 (nums l).length)),(5,.one (.ptr 1 0)),(10,.one (.ptr 4 0)),(11,iv (p.1.1:Int))],[.vec 1 (ims (p.1.2.map encI)) 0 false,.row [.im (.sl (l.map encIssue))],.vec 0 [] 0 true,.vec 0 [] 0 true,.row ((encIssue x).map .im)]⟩) (fun p=>x.items.length - p.1.1) ⟨(0,C),by simp [hC]⟩ (Weak.of_keep [1,3,4,5,10,11] (by simp)) ?_
    rintro ⟨⟨u,C'⟩,hu,hC',hadd⟩
    simp only at hu hC' hadd
    simp only [iv,isv,encIssue,rI,List.map_cons,List.map_nil]
    by_cases hlt:u < x.items.length
    ·have hx:x.items[u]?=some x.items[u]:=by simp [hlt]
     have hw:IntKind.i64.wrap ((u:Int) + 1)=((u + 1:Nat):Int):=i64w (by omega) (by omega)
     have hc:=hch _ (hti x.items[u] (List.getElem_mem hlt))
     have hrec:=ih x.items[u].drawing (IntKind.i64.wrap (m * x.items[u].count)) C' hc.1 (by omega) hC'
     rw [List.drop_eq_getElem_cons hlt,List.flatMap_cons,addL,addL,List.foldl_append] at hadd
     simp only [regv,isv,iv] at hrec
     have hs:True:=trivial
     repeat' first|(with_reducible first|refine q01 ?_|refine q04 ?_|refine q11 ?_|refine q12 ?_|refine q14 ?_)|(refine CallE.embed [0] (hrec) ?_ ?_ ?_ ?_ ?_ ?_;(focus (simp [emb];done));(focus (simp;done));(focus (simp;done));(focus (simp;done));(focus (refine emb_all ?_;simp [emb,embAll];done));try simp -dsimp [mergeO,emb,hx,hw,hlt,hs])|(refine DT_regionM (id:=7) (nt:=54) 17 [0,1,2,3,4,5,10,11,18,33] mixed rfl (by kernel_rfl) ?_;simp -dsimp [hx,hw,hlt,hs])|(with_reducible refine DT_regionE [0,1,2,3,4,5,10,11,18,33] ?_;simp -dsimp [hx,hw,hlt,hs])|(refine DT_cond rfl (fun h=>?_) (fun h=>?_)<;>(try simp only [nrm] at h)<;>(try exact Bool.noConfusion h))
     all_goals try simp -dsimp [hx,hw,hlt,hs]
     all_goals try clear hs
     exact At.round ⟨(u + 1,addL (nums l) C' (leavesF (takeI l lets) k x.items[u].drawing (IntKind.i64.wrap (m * x.items[u].count)))),by omega,by rw [addL_length];exact hC',hadd⟩ (by simp;omega) (Weak.of_keep [1,3,4,5,10,11] (by simp))
    ·rw [List.drop_eq_nil_of_le (by omega)] at hadd
     have hs:True:=trivial
     repeat' first|(with_reducible first|refine q01 ?_|refine q03 ?_|refine q06 ?_|refine q11 ?_|refine q16 ?_)|(with_reducible refine At.fn_end (by simp -dsimp [hlt,hs];exact rfl) ?_)|(with_reducible refine DT_regionE [0,1,2,3,4,5,10,11,18,33] ?_;simp -dsimp [hlt,hs])|(refine DT_cond rfl (fun h=>?_) (fun h=>?_)<;>(try simp only [nrm] at h)<;>(try exact Bool.noConfusion h))|with_reducible refine And.intro ?_ ?_
     all_goals try simp -dsimp [hlt,hs]
     all_goals try clear hs
     rw [hE,hadd];simp [addL]
def cntI (l:List Issue) (lets:List Int) (d:Int):List Int:=addL (nums l) (List.replicate (nums l).length 0) (leavesF (takeI l lets) 6 d 1)
def partsI (l:List Issue) (lets:List Int) (d:Int):List Itm:=(((nums l).zip (cntI l lets d)).filter fun p=>decide (0 < p.2)).map fun p=>⟨p.1,p.2⟩
set_option maxHeartbeats 1000000 in
theorem parts2_c (l:List Issue) (lets:List Int) (d:Int) (hl:l.length < 1000000) (h0:checkR l=0) (hlet:lettersI l lets=true) (hd:d∈nums l) (objs:List DObj):DCall Tryz.prog G 83 [regv l,isv lets,iv d] objs (fun rr objs'=>rr=.one (.im (.sl ((partsI l lets d).map encItem)))∧objs'=objs):=by
 refine DCall.frame ?_ (by simp) (by simp) objs
 refine DCall_intro Tryz.func83 rfl Tryz.ntmps83 (by simp) rfl ?_
 try simp only [regv,isv,iv]
 obtain ⟨dep,hdep⟩:=dep_spec h0
 have c1:=numbers_c (G:=G) l hl
 have hnl:(nums l).length≤l.length:=numsTo_length l l.length
 have c2:=parts_c (G:=G) l lets hl h0 hlet dep hdep 6 d 1 (List.replicate (nums l).length 0) hd (by have:=(hdep d hd).2.1;omega) (by simp)
 have hcl:(cntI l lets d).length=(nums l).length:=by simp [cntI,addL_length]
 have hE:partsI l lets d=(((nums l).zip (cntI l lets d)).filter fun p=>decide (0 < p.2)).map fun p=>⟨p.1,p.2⟩:=rfl
 change DCall _ _ _ _ _ (fun r o=>r=.tup []∧o=[.vec 1 (ims ((cntI l lets d).map encI)) 0 false]) at c2
 generalize cntI l lets d=C at *
 generalize nums l=ns at *
 simp only [regv,isv,iv] at c2
 have hs:True:=trivial
 repeat' first|(with_reducible first|refine q01 ?_|refine q11 ?_|refine q12 ?_|refine And.intro (by omega) ?_)|(refine CallE.pure (c1) ?_;try simp -dsimp [hs])|(refine CallE.embed [2] (c2) ?_ ?_ ?_ ?_ ?_ ?_;(focus (simp [emb];done));(focus (simp;done));(focus (simp;done));(focus (simp;done));(focus (refine emb_all ?_;simp [emb,embAll];done));try simp -dsimp [mergeO,emb,hs])|(with_reducible refine DT_regionE [0,1,2,3,6,7,8,9,10,24,31] ?_;simp -dsimp [hs])
 all_goals try simp -dsimp [hs]
 all_goals try clear hs
 refine DT_loop (ι:={ p:Nat×Nat×Bool×List Itm // p.1≤ns.length∧p.2.2.2.length≤p.1∧partsI l lets d=p.2.2.2 ++ (((ns.zip C).drop p.1).filter fun p=>decide (0 < p.2)).map fun p=>⟨p.1,p.2⟩ }) (fun p=>⟨45,[(7,isv ns),(8,.one (.vec 2 0 0 ns.length)),(9,.one (.vec 3 p.1.2.1 0 p.1.2.2.2.length)),(10,iv (p.1.1:Int))],[.row [.im (.sl (l.map encIssue))],.vec 2 [] 0 true,.vec 1 (ims (C.map encI)) 0 false,.vec 2 (ims (p.1.2.2.2.map encItem)) p.1.2.1 p.1.2.2.1]⟩) (fun p=>ns.length - p.1.1) ⟨(0,0,true,[]),by simp [hE]⟩ (Weak.of_keep [7,8,9,10] (by simp)) ?_
 rintro ⟨⟨k,g,nl,out⟩,hk,hol,hp⟩
 simp only at hk hol hp
 simp only [iv,isv]
 by_cases hlt:k < ns.length
 ·have hx:ns[k]?=some ns[k]:=by simp [hlt]
  have hkC:k < C.length:=by omega
  have hy:C[k]?=some C[k]:=by simp [hkC]
  have hw:IntKind.i64.wrap ((k:Int) + 1)=((k + 1:Nat):Int):=i64w (by omega) (by omega)
  have hz:k < (ns.zip C).length:=by simp;omega
  rw [List.drop_eq_getElem_cons hz,List.getElem_zip] at hp
  by_cases hpos:0 < C[k]
  ·rw [List.filter_cons_of_pos (by simpa using hpos),List.map_cons] at hp
   have hs:True:=trivial
   repeat' first|(with_reducible first|refine q01 ?_|refine q04 ?_|refine q11 ?_|refine q12 ?_|refine q14 ?_|refine And.intro (by omega) ?_)|(refine DT_regionM (id:=9) (nt:=45) 11 [0,1,2,3,6,7,8,9,10,24,31] mixed rfl (by kernel_rfl) ?_;simp -dsimp [hx,hy,hw,hlt,hkC,hpos,hs])|(with_reducible refine DT_regionE [0,1,2,3,6,7,8,9,10,24,31] ?_;simp -dsimp [hx,hy,hw,hlt,hkC,hpos,hs])|(refine DT_cond rfl (fun h=>?_) (fun h=>?_)<;>(try simp only [nrm] at h)<;>(try exact Bool.noConfusion h))
   all_goals try simp -dsimp [hx,hy,hw,hlt,hkC,hpos,hs]
   all_goals try clear hs
   all_goals try omega
   exact At.round ⟨(k + 1,g + 1,false,out ++ [⟨ns[k],C[k]⟩]),by omega,by simp;omega,by rw [hp];simp⟩ (by simp;omega) (Weak.of_drop [7,8,9,10] 4 (by simp) (by simp) (by simp))
  ·rw [List.filter_cons_of_neg (by simpa using hpos)] at hp
   have hs:True:=trivial
   repeat' first|(with_reducible first|refine q01 ?_|refine q04 ?_|refine q11 ?_|refine q12 ?_|refine q14 ?_)|(with_reducible refine DT_regionE [0,1,2,3,6,7,8,9,10,24,31] ?_;simp -dsimp [hx,hy,hw,hlt,hkC,hpos,hs])|(refine DT_cond rfl (fun h=>?_) (fun h=>?_)<;>(try simp only [nrm] at h)<;>(try exact Bool.noConfusion h))
   all_goals try simp -dsimp [hx,hy,hw,hlt,hkC,hpos,hs]
   all_goals try clear hs
   exact At.round ⟨(k + 1,g,nl,out),by omega,by show out.length≤k + 1;omega,hp⟩ (by simp;omega) (Weak.of_keep [7,8,9,10] (by simp))
 ·rw [List.drop_eq_nil_of_le (by simp;omega)] at hp
  have hs:True:=trivial
  repeat' first|(with_reducible first|refine q01 ?_|refine q03 ?_|refine q06 ?_|refine q11 ?_|refine q16 ?_|refine q17 ?_)|(with_reducible refine At.fn_ret (by simp -dsimp [hlt,hs];exact rfl) ?_)|(with_reducible refine DT_regionE [0,1,2,3,6,7,8,9,10,24,31] ?_;simp -dsimp [hlt,hs])|(refine DT_cond rfl (fun h=>?_) (fun h=>?_)<;>(try simp only [nrm] at h)<;>(try exact Bool.noConfusion h))
  all_goals try simp -dsimp [hlt,hs]
  all_goals try clear hs
  all_goals try omega
  rw [hp];simp
end Go.Proofs
namespace Go.Ab
open Go
def zIs:Issue:=⟨0,0,0,[],[]⟩
def mlookS (m:List (Int×Issue)) (n:Int):Issue:=match m with
 | []=>zIs
 | p :: r=>if p.1=n then p.2 else mlookS r n
def mputS (n:Int) (v:Issue):List (Int×Issue)→List (Int×Issue)
 | []=>[(n,v)]
 | p :: r=>if p.1=n then (n,v) :: r else p :: mputS n v r
def encMS (m:List (Int×Issue)):List (List Value×List DC):=m.map fun p=>(kI p.1,(encIssue p.2).map .im)
def encMSI (m:List (Int×Issue)):List (List Value×List IC):=m.map fun p=>(kI p.1,encIssue p.2)
theorem encMS_cons (p:Int×Issue) (r:List (Int×Issue)):encMS (p :: r)=(kI p.1,(encIssue p.2).map .im) :: encMS r:=rfl
@[simp] theorem mget_MS (m:List (Int×Issue)) (n:Int):mget [.int .i64 n] (encMS m) [.im (.raw (.int .i64 0)),.im (.raw (.int .i64 0)),.im (.raw (.int .u8 0)),.im (.sl []),.im (.sl [])]=(encIssue (mlookS m n)).map .im:=by
 induction m with
 | nil=>rfl
 | cons p r ih =>
   rw [encMS_cons]
   simp only [mget,mfind,mlookS,beqs_k,decide_eq_true_eq] at ih ⊢
   split
   ·rfl
   ·exact ih
theorem mset_MS' (m:List (Int×Issue)) (n:Int) (v:Issue):mset [.int .i64 n] ((encIssue v).map .im) (encMS m)=encMS (mputS n v m):=by
 induction m with
 | nil=>rfl
 | cons p r ih =>
   rw [encMS_cons]
   simp only [mset,mputS,beqs_k,decide_eq_true_eq] at ih ⊢
   split
   ·rfl
   ·rw [ih];rfl
@[simp] theorem mset_MS (m:List (Int×Issue)) (n a b k:Int) (i:List Itm) (d:List Dim):mset [.int .i64 n] [.im (.raw (.int .i64 a)),.im (.raw (.int .i64 b)),.im (.raw (.int .u8 k)),.im (.sl (i.map encItem)),.im (.sl (d.map encDim))] (encMS m)=encMS (mputS n ⟨a,b,k,i,d⟩ m):=mset_MS' m n ⟨a,b,k,i,d⟩
@[simp] theorem encMS_len (m:List (Int×Issue)):(encMS m).length=m.length:=by simp [encMS]
@[simp] theorem imE_MSI (m:List (Int×Issue)):imE (encMSI m)=encMS m:=by simp [imE,encMSI,encMS]
@[simp] theorem mapO_MS (k n:Nat) (objs:List DObj) (m:List (Int×Issue)):mapO (fun x:List Value×List DC=>(mapO (frz (k + 1) n objs) x.2).map fun l=>(x.1,l)) (encMS m)=some (encMSI m):=by
 induction m with
 | nil=>rfl
 | cons p r ih =>
   rw [encMS_cons,mapO,ih,mapO_im];rfl
@[simp] theorem map_fz_MS (n:Nat) (objs:List DObj) (m:List (Int×Issue)):((encMS m).map fun x=>(x.1,x.2.map (fz n objs)))=encMS m:=by
 simp [encMS,fz,DC.lt]
theorem mputS_new {n:Int} {v:Issue}:∀ {m:List (Int×Issue)},n∉m.map (·.1)→mputS n v m=m ++ [(n,v)]
 | [],_=>rfl
 | p :: r,h=>by
   rw [List.map_cons,List.mem_cons,not_or] at h
   rw [mputS,if_neg (Ne.symm h.1),mputS_new h.2];rfl
theorem mlookS_map (f:Int→Issue):∀ (ns:List Int) (n:Int),mlookS (ns.map fun d=>(d,f d)) n=if n∈ns then f n else zIs
 | [],n=>by simp [mlookS]
 | d :: ns,n=>by
   rw [List.map_cons,mlookS,mlookS_map f ns n]
   by_cases h:d=n
   ·subst h;simp
   ·rw [if_neg h];simp [Ne.symm h]
@[simp] theorem rn_M (e:Nat→Nat) (m:List (Int×Int)):((encM m).map fun x=>(x.1,rnL e x.2))=encM m:=by
 simp [encM,rnL,rnC]
@[simp] theorem rn_MS (e:Nat→Nat) (m:List (Int×Issue)):((encMS m).map fun x=>(x.1,rnL e x.2))=encMS m:=by
 simp only [encMS,List.map_map]
 exact List.map_congr_left fun x _=>by simp only [Function.comp,rnL_im]
@[simp] theorem rn_S (e:Nat→Nat) (m:List Int):((encS m).map fun x=>(x.1,rnL e x.2))=encS m:=by
 simp [encS,rnL,rnC]
end Go.Ab
namespace Go.Ab
open Go
@[simp] theorem imE_MSI' (m:List (Int×Issue)):(encMSI m).map (fun x=>(x.1,x.2.map DC.im))=encMS m:=imE_MSI m
@[simp] theorem imE_MI' (m:List (Int×Int)):(encMI m).map (fun x=>(x.1,x.2.map DC.im))=encM m:=imE_MI m
@[simp] theorem imE_SI' (m:List Int):(encSI m).map (fun x=>(x.1,x.2.map DC.im))=encS m:=imE_SI m
end Go.Ab
namespace Go.Proofs
open Go Go.Ab
set_option linter.unusedSimpArgs false
variable {G:Nat→Option (List IC)}
def tkM (l:List Issue) (lets:List Int):List (Int×Issue):=(nums l).map fun d=>(d,takeI l lets d)
theorem zip_bad {l:List Issue} {lets:List Int} {k:Nat} (h:checkR l=0) (hk:k < (nums l).length) (hk2:k < lets.length) (hf:(findI l (nums l)[k] lets[k]).isSome=false):lettersI l lets=false:=by
 have hn:¬ letterOk l ((nums l)[k],lets[k])=true:=fun hok=>by
  simp only [letterOk,Bool.and_eq_true,decide_eq_true_eq] at hok
  rw [(find_letter h _ _).2 hok] at hf;cases hf
 simp only [lettersI,Bool.and_eq_false_iff]
 refine .inr ?_
 rw [← Bool.not_eq_true,List.all_eq_true]
 intro hall
 refine hn (hall _ (List.mem_iff_getElem?.2 ⟨k,?_⟩))
 rw [List.getElem?_zip_eq_some];exact ⟨by simp [hk],by simp [hk2]⟩
theorem zip_good {l:List Issue} {lets:List Int} (h:checkR l=0) (he:lets.length=(nums l).length) (hall:∀ (k:Nat) (h1:k < (nums l).length) (h2:k < lets.length),(findI l (nums l)[k] lets[k]).isSome=true):lettersI l lets=true:=by
 simp only [lettersI,Bool.and_eq_true,decide_eq_true_eq,List.all_eq_true]
 refine ⟨he,fun p hp=>?_⟩
 obtain ⟨k,hk⟩:=List.mem_iff_getElem?.1 hp
 rw [List.getElem?_zip_eq_some] at hk
 obtain ⟨h1,e1⟩:=List.getElem?_eq_some_iff.1 hk.1
 obtain ⟨h2,e2⟩:=List.getElem?_eq_some_iff.1 hk.2
 have:=(find_letter h _ _).1 (hall k h1 h2)
 rw [e1,e2] at this
 simp only [letterOk,Bool.and_eq_true,decide_eq_true_eq];exact this
theorem take_at {l:List Issue} {lets:List Int} {k:Nat} (hnd:(nums l).Nodup) (hk:k < (nums l).length) (hk2:k < lets.length):takeI l lets (nums l)[k]=(findI l (nums l)[k] lets[k]).getD zIssue:=by
 have h1:(nums l)[k]?=some (nums l)[k]:=by simp [hk]
 have h2:lets[k]?=some lets[k]:=by simp [hk2]
 simp only [takeI,idx_at hnd h1,Int.toNat_natCast,h2,Option.getD_some]
def takenE (l:List Issue) (lets:List Int) (d:Int):Int:=if checkR l≠0 then checkR l else if lettersI l lets=false then 22 else if d∈nums l then 0 else 6
def takenR (l:List Issue) (lets:List Int) (d:Int):List DV:=if takenE l lets d=0 then [.one (.im (bookI l (nums l))),.one (.im (.mp [.int .i64] (encMSI (tkM l lets)))),iv 0] else [.one (.im (.raw (.pointer none))),.one (.im (.raw (.map none))),iv (takenE l lets d)]
theorem takenR_im (l:List Issue) (lets:List Int) (d:Int):∀ x∈takenR l lets d,ImV x:=by unfold takenR;split<;>simp [bookI]
set_option maxHeartbeats 1000000 in
theorem sTaken_c (l:List Issue) (lets:List Int) (d:Int) (hG:sheetG G) (hs:SmallR l) (hll:lets.length < 1000000) (objs:List DObj):DCall Tryz.prog G 100 [regv l,isv lets,iv d] objs (fun rr objs'=>rr=.tup (takenR l lets d)∧objs'=objs):=by
 refine DCall.frame ?_ (by simp) (by simpa using takenR_im l lets d) objs
 refine DCall_intro Tryz.func100 rfl Tryz.ntmps100 (by simp) rfl ?_
 simp only [regv,isv,iv]
 have c1:=open2_c l hG hs
 by_cases h0:checkR l=0
 ·simp only [bookR,h0,if_true] at c1
  have hnd:(nums l).Nodup:=(check_nums h0).1.imp fun h=>Int.ne_of_lt h
  have hnl:(nums l).length≤l.length:=numsTo_length l l.length
  have hl80:=hs.1
  have hsort:=check_sorted h0
  by_cases he:lets.length=(nums l).length
  ·have he':(lets.length:Int)=((nums l).length:Int):=by omega
   simp only [bookI] at c1
   have hs:True:=trivial
   repeat' first|(with_reducible first|refine q01 ?_|refine q11 ?_|refine q12 ?_|refine q14 ?_)|(refine CallE.pure (c1) ?_;try simp -dsimp [he',hs])|(with_reducible refine DT_regionE [0,1,2,3,6,7,8,9,10,11,12,13,14,21,30,33,34,35,55,64] ?_;simp -dsimp [he',hs])|(refine DT_cond rfl (fun h=>?_) (fun h=>?_)<;>(try simp only [nrm] at h)<;>(try exact Bool.noConfusion h))
   all_goals try simp -dsimp [he',hs]
   all_goals try clear hs
   refine DT_loop (ι:={ k:Nat // k≤lets.length∧∀ (i:Nat) (h1:i < (nums l).length) (h2:i < lets.length),i < k→(findI l (nums l)[i] lets[i]).isSome=true }) (fun p=>⟨67,[(1,isv lets),(2,iv d),(6,.one (.im (.raw (.pointer none)))),(7,.one (.im (.raw (.map none)))),(8,iv 0),(9,.one (.im (bookI l (nums l)))),(11,.one (.map 1)),(33,iv (lets.length:Int)),(34,iv (p.1:Int))],[.row [.im (.sl (l.map encIssue))],.map [.int .i64] (encMS (((nums l).take p.1).map fun d=>(d,takeI l lets d)))]⟩) (fun p=>lets.length - p.1) ⟨0,by simp⟩ (Weak.of_keep [1,2,6,7,8,9,11,33,34] (by simp [bookI,encMS];omega)) ?_
   rintro ⟨k,hk,hall⟩
   simp only [iv,isv]
   by_cases hlt:k < lets.length
   ·have hkn:k < (nums l).length:=by omega
    have hx:(nums l)[k]?=some (nums l)[k]:=by simp [hkn]
    have hy:lets[k]?=some lets[k]:=by simp [hlt]
    have hw:IntKind.i64.wrap ((k:Int) + 1)=((k + 1:Nat):Int):=i64w (by omega) (by omega)
    have c2:=bfind_c (G:=G) l (nums l) (nums l)[k] lets[k] hsort (by omega)
    have hta:=take_at hnd hkn hlt
    cases hf:findI l (nums l)[k] lets[k] with
    | none =>
      have hE:takenE l lets d=22:=by simp [takenE,h0,zip_bad h0 hkn hlt (by rw [hf];rfl)]
      simp only [hf,refv,bookI,Option.isSome_none,Option.getD_none] at c2
      simp only [bookI]
      have hs:True:=trivial
      repeat' first|(with_reducible first|refine q01 ?_|refine q02 ?_|refine q05 ?_|refine q11 ?_|refine q12 ?_|refine q14 ?_|refine q17 ?_)|(with_reducible refine At.fn_ret (by simp -dsimp [hx,hy,hlt,hkn,hw,hs];exact rfl) ?_)|(refine QCall_pure (c2) ?_;try simp -dsimp [hx,hy,hlt,hkn,hw,hs])|(refine DT_regionX (id:=10) (nt:=67) 18 [16] [0,1,2,3,6,7,8,9,10,11,12,13,14,21,30,33,34,35,37,38,39,40,41,42,43,44,45,46,47,48,49,50,51,52,55,64] [0,1,2,3,6,7,8,9,10,11,12,13,14,21,30,33,34,35,55,64] mixed rfl (by kernel_rfl) ?_;simp -dsimp [hx,hy,hlt,hkn,hw,hs])|(with_reducible refine DT_regionE [0,1,2,3,6,7,8,9,10,11,12,13,14,21,30,33,34,35,55,64] ?_;simp -dsimp [hx,hy,hlt,hkn,hw,hs])|(refine DT_cond rfl (fun h=>?_) (fun h=>?_)<;>(try simp only [nrm] at h)<;>(try exact Bool.noConfusion h))
      all_goals try simp -dsimp [hx,hy,hlt,hkn,hw,hs]
      all_goals try clear hs
      all_goals simp [takenR,hE]
    | some y =>
      rw [hf,Option.getD_some] at hta
      obtain ⟨hym,hyd,_⟩:=find_some hf
      simp only [hf,refv,bookI,Option.isSome_some,Option.getD_some] at c2
      simp only [bookI]
      have hmp:mputS (nums l)[k] y (((nums l).take k).map fun d=>(d,takeI l lets d))=(((nums l).take (k + 1)).map fun d=>(d,takeI l lets d)):=by
       rw [mputS_new,List.take_succ_eq_append_getElem hkn,List.map_append,List.map_singleton,hta]
       rw [List.map_map]
       intro hm
       obtain ⟨z,hz,e⟩:=List.mem_map.1 hm
       simp only [Function.comp] at e
       subst e
       obtain ⟨i,hi,e⟩:=List.mem_take_iff_getElem.1 hz
       have:=(List.getElem_inj hnd).1 e;omega
      rw [← hyd] at hmp
      have hmp':mputS y.drawing ⟨y.drawing,y.letter,y.kind,y.items,y.dims⟩ (((nums l).take k).map fun d=>(d,takeI l lets d))=(((nums l).take (k + 1)).map fun d=>(d,takeI l lets d)):=hmp
      simp only [List.map_take] at hmp'
      have hfin:∀ (i:Nat) (h1:i < (nums l).length) (h2:i < lets.length),i < k + 1→(findI l (nums l)[i] lets[i]).isSome=true:=fun i h1 h2 hi=>by
       by_cases e:i=k
       ·subst e;rw [hf];rfl
       ·exact hall i h1 h2 (by omega)
      have hs:True:=trivial
      repeat' first|(with_reducible first|refine q01 ?_|refine q04 ?_|refine q11 ?_|refine q12 ?_|refine q14 ?_)|(refine QCall_pure (c2) ?_;try simp -dsimp [hx,hy,hlt,hkn,hw,hs])|(refine DT_regionX (id:=10) (nt:=67) 18 [16] [0,1,2,3,6,7,8,9,10,11,12,13,14,21,30,33,34,35,37,38,39,40,41,42,43,44,45,46,47,48,49,50,51,52,55,64] [0,1,2,3,6,7,8,9,10,11,12,13,14,21,30,33,34,35,55,64] mixed rfl (by kernel_rfl) ?_;simp -dsimp [hx,hy,hlt,hkn,hw,hs])|(with_reducible refine DT_regionE [0,1,2,3,6,7,8,9,10,11,12,13,14,21,30,33,34,35,55,64] ?_;simp -dsimp [hx,hy,hlt,hkn,hw,hs])|(refine DT_cond rfl (fun h=>?_) (fun h=>?_)<;>(try simp only [nrm] at h)<;>(try exact Bool.noConfusion h))
      all_goals try simp -dsimp [hx,hy,hlt,hkn,hw,hs]
      all_goals try clear hs
      exact At.round ⟨k + 1,by omega,hfin⟩ (by simp;omega) (Weak.of_drop [1,2,6,7,8,9,11,33,34] 2 (by simp) (by simp) (by simp [bookI,hmp']))
   ·have hlet:=zip_good h0 he fun i h1 h2=>hall i h1 h2 (by omega)
    have htk:(nums l).take k=nums l:=List.take_of_length_le (by omega)
    have c3:=has_c (G:=G) l (nums l) d ((check_nums h0).1.imp fun h=>Int.le_of_lt h) (by omega)
    have hE:takenE l lets d=if d∈nums l then 0 else 6:=by simp [takenE,h0,hlet]
    simp only [bookI] at c3
    rw [htk]
    by_cases hd:d∈nums l
    ·rw [if_pos hd] at hE
     simp only [hd,decide_true] at c3
     simp only [bookI]
     have hs:True:=trivial
     repeat' first|(with_reducible first|refine q01 ?_|refine q03 ?_|refine q06 ?_|refine q11 ?_|refine q14 ?_|refine q16 ?_|refine q17 ?_)|(with_reducible refine At.fn_ret (by simp -dsimp [hlt,hs];exact rfl) ?_)|(refine CallE.pure (c3) ?_;try simp -dsimp [hlt,hs])|(with_reducible refine DT_regionE [0,1,2,3,6,7,8,9,10,11,12,13,14,21,30,33,34,35,55,64] ?_;simp -dsimp [hlt,hs])|(refine DT_cond rfl (fun h=>?_) (fun h=>?_)<;>(try simp only [nrm] at h)<;>(try exact Bool.noConfusion h))
     all_goals try simp -dsimp [hlt,hs]
     all_goals try clear hs
     simp [takenR,hE,tkM,bookI]
    ·rw [if_neg hd] at hE
     simp only [hd,decide_false] at c3
     simp only [bookI]
     have hs:True:=trivial
     repeat' first|(with_reducible first|refine q01 ?_|refine q02 ?_|refine q03 ?_|refine q06 ?_|refine q11 ?_|refine q16 ?_|refine q17 ?_)|(with_reducible refine At.fn_ret (by simp -dsimp [hlt,hs];exact rfl) ?_)|(refine CallE.pure (c3) ?_;try simp -dsimp [hlt,hs])|(with_reducible refine DT_regionE [0,1,2,3,6,7,8,9,10,11,12,13,14,21,30,33,34,35,55,64] ?_;simp -dsimp [hlt,hs])|(refine DT_cond rfl (fun h=>?_) (fun h=>?_)<;>(try simp only [nrm] at h)<;>(try exact Bool.noConfusion h))
     all_goals try simp -dsimp [hlt,hs]
     all_goals try clear hs
     simp [takenR,hE]
  ·have he':¬ (lets.length:Int)=((nums l).length:Int):=by omega
   have hE:takenE l lets d=22:=by
    have:lettersI l lets=false:=by simp [lettersI,he]
    simp [takenE,h0,this]
   simp only [bookI] at c1
   have hs:True:=trivial
   repeat' first|(with_reducible first|refine q01 ?_|refine q02 ?_|refine q11 ?_|refine q14 ?_|refine q17 ?_)|(with_reducible refine At.fn_ret (by simp -dsimp [he',hs];exact rfl) ?_)|(refine CallE.pure (c1) ?_;try simp -dsimp [he',hs])|(with_reducible refine DT_regionE [0,1,2,3,6,7,8,9,10,11,12,13,14,21,30,33,34,35,55,64] ?_;simp -dsimp [he',hs])|(refine DT_cond rfl (fun h=>?_) (fun h=>?_)<;>(try simp only [nrm] at h)<;>(try exact Bool.noConfusion h))
   all_goals try simp -dsimp [he',hs]
   all_goals try clear hs
   simp [takenR,hE]
 ·have hE:takenE l lets d=checkR l:=by simp [takenE,h0]
  simp only [bookR,h0,if_false] at c1
  have hs:True:=trivial
  repeat' first|(with_reducible first|refine q01 ?_|refine q02 ?_|refine q11 ?_|refine q17 ?_)|(with_reducible refine At.fn_ret (by simp -dsimp [h0,hs];exact rfl) ?_)|(refine CallE.pure (c1) ?_;try simp -dsimp [h0,hs])|(with_reducible refine DT_regionE [0,1,2,3,6,7,8,9,10,11,12,13,14,21,30,33,34,35,55,64] ?_;simp -dsimp [h0,hs])|(refine DT_cond rfl (fun h=>?_) (fun h=>?_)<;>(try simp only [nrm] at h)<;>(try exact Bool.noConfusion h))
  all_goals try simp -dsimp [h0,hs]
  all_goals try clear hs
  simp [takenR,hE,h0]
end Go.Proofs
namespace Go.Proofs
open Go Go.Ab
set_option linter.unusedSimpArgs false
variable {G:Nat→Option (List IC)}
def addM (m:List (Int×Int)) (lv:List (Int×Int)):List (Int×Int):=lv.foldl (fun m p=>mput p.1 (IntKind.i64.wrap (mlook m p.1 + p.2)) m) m
def expO (by':List (Int×Issue)) (cnt:List (Int×Int)):List DObj:=[.row [.im (.mp [.int .i64] (encMSI by'))],.map [.int .i64] (encM cnt),.row [.map 1],.row [.fn (.func 101) [.ptr 0 0,.ptr 2 0,.ptr 3 0]]]
set_option maxHeartbeats 2000000 in
theorem explode1_c (l:List Issue) (lets:List Int) (h0:checkR l=0) (hlet:lettersI l lets=true) (dep:Int→Int) (hdep:∀ n∈nums l,1≤dep n∧dep n≤6∧∀ c∈chI l n,c∈nums l∧dep c < dep n) :
 ∀ (k:Nat) (d m:Int) (cnt:List (Int×Int)),d∈nums l→dep d≤k →
  DCall Tryz.prog G 101 [iv d,iv m,.one (.ptr 0 0),.one (.ptr 2 0),.one (.ptr 3 0)] (expO (tkM l lets) cnt)
   (fun r o=>r=.tup []∧o=expO (tkM l lets) (addM cnt (leavesF (takeI l lets) k d m))):=by
 intro k
 induction k with
 | zero=>intro d m C hd hk;have:=(hdep d hd).1;omega
 | succ k ih =>
   intro d m cnt hd hk
   have hti:=take_items h0 hlet hd
   obtain ⟨htm,_,_⟩:=take_spec h0 hlet hd
   have htok:=(scan_all (listed_scan (check_listed h0))).2.2.2.1 _ htm
   have hsm:=issueOk_small htok
   have hkd:(takeI l lets d).kind=1∨(2≤(takeI l lets d).kind∧(takeI l lets d).items.length=0):=by
    simp only [issueOk,Bool.and_assoc] at htok
    rw [← Bool.and_assoc,Bool.and_eq_true] at htok
    have:=(ck12_iff _).1 htok.1;omega
   have hch:=(hdep d hd).2.2
   have hE:leavesF (takeI l lets) (k + 1) d m=if 1 < (takeI l lets d).kind then [(d,m)] else (takeI l lets d).items.flatMap fun y=>leavesF (takeI l lets) k y.drawing (IntKind.i64.wrap (m * y.count)):=rfl
   have hlook:mlookS (tkM l lets) d=takeI l lets d:=by rw [tkM,mlookS_map,if_pos hd]
   generalize takeI l lets d=x at *
   refine DCall.drop ?_
   refine DCall_intro Tryz.func101 rfl Tryz.ntmps101 (by simp) rfl ?_
   simp only [expO,iv]
   by_cases hkind:x.kind=1
   ·rw [if_neg (by omega)] at hE
    have hs:True:=trivial
    repeat' first|(with_reducible first|refine q01 ?_|refine q11 ?_|refine q12 ?_|refine q14 ?_)|(with_reducible refine DT_regionE [0,1,2,3,4,7,9,15,22,23,24,25] ?_;simp -dsimp [hlook,hkind,hs])|(refine DT_cond rfl (fun h=>?_) (fun h=>?_)<;>(try simp only [nrm] at h)<;>(try exact Bool.noConfusion h))
    all_goals try simp -dsimp [hlook,hkind,hs]
    all_goals try clear hs
    refine DT_loop (ι:={ p:Nat×List (Int×Int) // p.1≤x.items.length∧addM cnt (x.items.flatMap fun y=>leavesF (takeI l lets) k y.drawing (IntKind.i64.wrap (m * y.count)))=addM p.2 ((x.items.drop p.1).flatMap fun y=>leavesF (takeI l lets) k y.drawing (IntKind.i64.wrap (m * y.count))) }) (fun p=>⟨37,[(1,iv m),(2,.one (.ptr 0 0)),(3,.one (.ptr 2 0)),(4,.one (.ptr 3 0)),(22,.one (.im (.sl (x.items.map encItem)))),(23,iv (x.items.length:Int)),(24,iv (p.1.1:Int))],expO (tkM l lets) p.1.2⟩) (fun p=>x.items.length - p.1.1) ⟨(0,cnt),by simp⟩ (Weak.of_drop [1,2,3,4,22,23,24] 4 (by simp) (by simp) (by simp [expO])) ?_
    rintro ⟨⟨u,cnt'⟩,hu,hadd⟩
    simp only at hu hadd
    simp only [iv,expO]
    by_cases hlt:u < x.items.length
    ·have hx:x.items[u]?=some x.items[u]:=by simp [hlt]
     have hw:IntKind.i64.wrap ((u:Int) + 1)=((u + 1:Nat):Int):=i64w (by omega) (by omega)
     have hc:=hch _ (hti x.items[u] (List.getElem_mem hlt))
     have hrec:=ih x.items[u].drawing (IntKind.i64.wrap (m * x.items[u].count)) cnt' hc.1 (by omega)
     rw [List.drop_eq_getElem_cons hlt,List.flatMap_cons,addM,addM,List.foldl_append] at hadd
     simp only [iv,expO] at hrec
     have hs:True:=trivial
     repeat' first|(with_reducible first|refine q01 ?_|refine q04 ?_|refine q11 ?_|refine q12 ?_|refine q14 ?_)|(refine CallE.embed [0,1,2,3] (hrec) ?_ ?_ ?_ ?_ ?_ ?_;(focus (simp [emb];done));(focus (simp;done));(focus (simp;done));(focus (simp;done));(focus (refine emb_all ?_;simp [emb,embAll];done));try simp -dsimp [mergeO,emb,hx,hw,hlt,hs])|(with_reducible refine DT_regionE [0,1,2,3,4,7,9,15,22,23,24,25] ?_;simp -dsimp [hx,hw,hlt,hs])|(refine DT_cond rfl (fun h=>?_) (fun h=>?_)<;>(try simp only [nrm] at h)<;>(try exact Bool.noConfusion h))
     all_goals try simp -dsimp [hx,hw,hlt,hs]
     all_goals try clear hs
     exact At.round ⟨(u + 1,addM cnt' (leavesF (takeI l lets) k x.items[u].drawing (IntKind.i64.wrap (m * x.items[u].count)))),by omega,hadd⟩ (by simp;omega) (Weak.of_drop [1,2,3,4,22,23,24] 4 (by simp) (by simp) (by simp [expO]))
    ·rw [List.drop_eq_nil_of_le (by omega)] at hadd
     have hs:True:=trivial
     repeat' first|(with_reducible first|refine q01 ?_|refine q03 ?_|refine q06 ?_|refine q11 ?_|refine q16 ?_)|(with_reducible refine At.fn_end (by simp -dsimp [hlt,hs];exact rfl) ?_)|(with_reducible refine DT_regionE [0,1,2,3,4,7,9,15,22,23,24,25] ?_;simp -dsimp [hlt,hs])|(refine DT_cond rfl (fun h=>?_) (fun h=>?_)<;>(try simp only [nrm] at h)<;>(try exact Bool.noConfusion h))|with_reducible refine And.intro ?_ ?_
     all_goals try simp -dsimp [hlt,hs]
     all_goals try clear hs
     rw [hE,hadd];simp [expO,addM]
   ·rw [if_pos (by omega)] at hE
    have hz:x.items.length=0:=by omega
    have hs:True:=trivial
    repeat' first|(with_reducible first|refine q01 ?_|refine q11 ?_|refine q12 ?_)|(with_reducible refine DT_regionE [0,1,2,3,4,7,9,15,22,23,24,25] ?_;simp -dsimp [hlook,hkind,hz,hs])|(refine DT_cond rfl (fun h=>?_) (fun h=>?_)<;>(try simp only [nrm] at h)<;>(try exact Bool.noConfusion h))
    all_goals try simp -dsimp [hlook,hkind,hz,hs]
    all_goals try clear hs
    refine DT_loop (ι:=Unit) (fun _=>⟨37,[(23,iv 0),(24,iv 0)],expO (tkM l lets) (addM cnt [(d,m)])⟩) (fun _=>0) () (Weak.of_drop [23,24] 4 (by simp) (by simp) (by simp [expO,addM])) ?_
    intro _
    simp only [iv,expO]
    have hs:True:=trivial
    repeat' first|(with_reducible first|refine q01 ?_|refine q03 ?_|refine q06 ?_|refine q11 ?_|refine q16 ?_)|(with_reducible refine At.fn_end (by simp -dsimp [hs];exact rfl) ?_)|(with_reducible refine DT_regionE [0,1,2,3,4,7,9,15,22,23,24,25] ?_;simp -dsimp [hs])|(refine DT_cond rfl (fun h=>?_) (fun h=>?_)<;>(try simp only [nrm] at h)<;>(try exact Bool.noConfusion h))|with_reducible refine And.intro ?_ ?_
    all_goals try simp -dsimp [hs]
    all_goals try clear hs
    rw [hE]
def cntM (l:List Issue) (lets:List Int) (d:Int):List (Int×Int):=addM [] (leavesF (takeI l lets) 6 d 1)
def partsP (ns:List Int) (m:List (Int×Int)):List Itm:=(ns.filter fun n=>decide (0 < mlook m n)).map fun n=>⟨n,mlook m n⟩
def explR (l:List Issue) (lets:List Int) (d:Int):List Itm:=if takenE l lets d=0 then partsP (nums l) (cntM l lets d) else []
set_option maxHeartbeats 1000000 in
theorem explode_c (l:List Issue) (lets:List Int) (d:Int) (hG:sheetG G) (hs:SmallR l) (hll:lets.length < 1000000) (objs:List DObj):DCall Tryz.prog G 52 [regv l,isv lets,iv d] objs (fun rr objs'=>rr=.tup [.one (.im (.sl ((explR l lets d).map encItem))),iv (takenE l lets d)]∧objs'=objs):=by
 refine DCall.frame ?_ (by simp) (by simp) objs
 refine DCall_intro Tryz.func52 rfl Tryz.ntmps52 (by simp) rfl ?_
 try simp only [regv,isv,iv]
 have c1:=sTaken_c (G:=G) l lets d hG hs hll
 by_cases hE:takenE l lets d=0
 ·have h0:checkR l=0:=by
   by_cases h:checkR l=0
   ·exact h
   ·simp [takenE,h] at hE
  have hlet:lettersI l lets=true:=by
   cases h:lettersI l lets
   ·simp [takenE,h0,h] at hE
   ·rfl
  have hd:d∈nums l:=Classical.byContradiction fun h=>by simp [takenE,h0,hlet,h] at hE
  obtain ⟨dep,hdep⟩:=dep_spec h0
  have c2:=explode1_c (G:=G) l lets h0 hlet dep hdep 6 d 1 [] hd (by have:=(hdep d hd).2.1;omega)
  have hR:explR l lets d=partsP (nums l) (cntM l lets d):=by simp [explR,hE]
  have hnl:(nums l).length≤l.length:=numsTo_length l l.length
  have hl80:=hs.1
  change DCall _ _ _ _ _ (fun r o=>r=.tup []∧o=expO (tkM l lets) (cntM l lets d)) at c2
  generalize cntM l lets d=cnt at *
  simp only [takenR,hE,if_true,bookI] at c1
  simp only [iv,expO,show encM []=[] from rfl] at c2
  generalize nums l=ns at *
  have hs:True:=trivial
  repeat' first|(with_reducible first|refine q01 ?_|refine q11 ?_|refine q12 ?_|refine q14 ?_)|(refine CallE.pure (c1) ?_;try simp -dsimp [hs])|(refine CallE.embed [2,3,4,5] (c2) ?_ ?_ ?_ ?_ ?_ ?_;(focus (simp [emb];done));(focus (simp;done));(focus (simp;done));(focus (simp;done));(focus (refine emb_all ?_;simp [emb,embAll];done));try simp -dsimp [mergeO,emb,hs])|(with_reducible refine DT_regionE [0,1,2,3,6,7,8,9,10,11,12,13,15,25,35,36,37,38,44] ?_;simp -dsimp [hs])|(refine DT_cond rfl (fun h=>?_) (fun h=>?_)<;>(try simp only [nrm] at h)<;>(try exact Bool.noConfusion h))
  all_goals try simp -dsimp [hs]
  all_goals try clear hs
  refine DT_loop (ι:={ p:Nat×Nat×Bool×List Itm // p.1≤ns.length∧p.2.2.2.length≤p.1∧partsP ns cnt=p.2.2.2 ++ partsP (ns.drop p.1) cnt }) (fun p=>⟨55,[(11,.one (.ptr 4 0)),(13,.one (.vec 6 p.1.2.1 0 p.1.2.2.2.length)),(35,isv ns),(36,iv (ns.length:Int)),(37,iv (p.1.1:Int))],[.row [.im (.sl (l.map encIssue))],.vec 2 [] 0 true,.row [.im (.mp [.int .i64] (encMSI (tkM l lets)))],.map [.int .i64] (encM cnt),.row [.map 3],.row [.fn (.func 101) [.ptr 2 0,.ptr 4 0,.ptr 5 0]],.vec 2 (ims (p.1.2.2.2.map encItem)) p.1.2.1 p.1.2.2.1]⟩) (fun p=>ns.length - p.1.1) ⟨(0,0,true,[]),by simp⟩ (Weak.of_keep [11,13,35,36,37] (by simp)) ?_
  rintro ⟨⟨k,g,nl,out⟩,hk,hol,hp⟩
  simp only at hk hol hp
  simp only [iv,isv]
  by_cases hlt:k < ns.length
  ·have hx:ns[k]?=some ns[k]:=by simp [hlt]
   have hw:IntKind.i64.wrap ((k:Int) + 1)=((k + 1:Nat):Int):=i64w (by omega) (by omega)
   rw [List.drop_eq_getElem_cons hlt] at hp
   by_cases hpos:0 < mlook cnt ns[k]
   ·rw [partsP,partsP,List.filter_cons_of_pos (by simpa using hpos),List.map_cons] at hp
    have hs:True:=trivial
    repeat' first|(with_reducible first|refine q01 ?_|refine q04 ?_|refine q11 ?_|refine q12 ?_|refine q14 ?_|refine And.intro (by omega) ?_)|(with_reducible refine DT_regionE [0,1,2,3,6,7,8,9,10,11,12,13,15,25,35,36,37,38,44] ?_;simp -dsimp [hx,hw,hlt,hpos,hs])|(refine DT_cond rfl (fun h=>?_) (fun h=>?_)<;>(try simp only [nrm] at h)<;>(try exact Bool.noConfusion h))
    all_goals try simp -dsimp [hx,hw,hlt,hpos,hs]
    all_goals try clear hs
    all_goals try omega
    exact At.round ⟨(k + 1,g + 1,false,out ++ [⟨ns[k],mlook cnt ns[k]⟩]),by omega,by simp;omega,by rw [partsP,hp,partsP];simp⟩ (by simp;omega) (Weak.of_drop [11,13,35,36,37] 7 (by simp) (by simp) (by simp))
   ·rw [partsP,partsP,List.filter_cons_of_neg (by simpa using hpos)] at hp
    have hs:True:=trivial
    repeat' first|(with_reducible first|refine q01 ?_|refine q04 ?_|refine q11 ?_|refine q12 ?_|refine q14 ?_)|(with_reducible refine DT_regionE [0,1,2,3,6,7,8,9,10,11,12,13,15,25,35,36,37,38,44] ?_;simp -dsimp [hx,hw,hlt,hpos,hs])|(refine DT_cond rfl (fun h=>?_) (fun h=>?_)<;>(try simp only [nrm] at h)<;>(try exact Bool.noConfusion h))
    all_goals try simp -dsimp [hx,hw,hlt,hpos,hs]
    all_goals try clear hs
    exact At.round ⟨(k + 1,g,nl,out),by omega,by show out.length≤k + 1;omega,hp⟩ (by simp;omega) (Weak.of_keep [11,13,35,36,37] (by simp))
  ·rw [List.drop_eq_nil_of_le (by omega)] at hp
   have hs:True:=trivial
   repeat' first|(with_reducible first|refine q01 ?_|refine q03 ?_|refine q06 ?_|refine q11 ?_|refine q16 ?_|refine q17 ?_)|(with_reducible refine At.fn_ret (by simp -dsimp [hlt,hs];exact rfl) ?_)|(with_reducible refine DT_regionE [0,1,2,3,6,7,8,9,10,11,12,13,15,25,35,36,37,38,44] ?_;simp -dsimp [hlt,hs])|(refine DT_cond rfl (fun h=>?_) (fun h=>?_)<;>(try simp only [nrm] at h)<;>(try exact Bool.noConfusion h))
   all_goals try simp -dsimp [hlt,hs]
   all_goals try clear hs
   all_goals try omega
   rw [hR,hp];simp [partsP,hE]
 ·have hR:explR l lets d=[]:=by simp [explR,hE]
  simp only [takenR,hE,if_false] at c1
  have hs:True:=trivial
  repeat' first|(with_reducible first|refine q01 ?_|refine q02 ?_|refine q11 ?_|refine q17 ?_)|(with_reducible refine At.fn_ret (by simp -dsimp [hE,hs];exact rfl) ?_)|(refine CallE.pure (c1) ?_;try simp -dsimp [hE,hs])|(with_reducible refine DT_regionE [0,1,2,3,6,7,8,9,10,11,12,13,15,25,35,36,37,38,44] ?_;simp -dsimp [hE,hs])|(refine DT_cond rfl (fun h=>?_) (fun h=>?_)<;>(try simp only [nrm] at h)<;>(try exact Bool.noConfusion h))
  all_goals try simp -dsimp [hE,hs]
  all_goals try clear hs
  simp [hR]
end Go.Proofs
namespace Go.Ab
open Go
structure Link where
 drawing:Int
 dim:Int
 back:Bool
 deriving DecidableEq
structure ChLoop where
 links:List Link
 lo:Int
 hi:Int
 deriving DecidableEq
structure Chains where
 reg:List Issue
 lets:List Int
 of:Int
 loops:List ChLoop
 deriving DecidableEq
def encLink (x:Link):List IC:=[rI x.drawing,rI x.dim,rB x.back]
def encLoop (x:ChLoop):List IC:=[.sl (x.links.map encLink),rI x.lo,rI x.hi]
def encChains (c:Chains):List IC:=[.sl (c.reg.map encIssue),.sl (c.lets.map encI),rI c.of,.sl (c.loops.map encLoop)]
def linkv (x:Link):DV:=.agg ((encLink x).map .im)
def loopv (x:ChLoop):DV:=.agg ((encLoop x).map .im)
def chv (c:Chains):DV:=.agg ((encChains c).map .im)
attribute [simp] encLink encLoop encChains linkv loopv chv
end Go.Ab
namespace Go.Proofs
open Go Go.Ab
set_option linter.unusedSimpArgs false
variable {G:Nat→Option (List IC)}
theorem in1_chain (x lo hi:Int):DCall Tryz.prog G 120 (iv x :: [DC.ptr 0 0,DC.ptr 1 0].map .one) [.row [.im (rI lo)],.row [.im (rI hi)]] (fun d o=>d=bv (decide (x < lo) || decide (hi < x))∧o=[.row [.im (rI lo)],.row [.im (rI hi)]]):=by
 refine DCall_intro Tryz.func120 rfl Tryz.ntmps120 (by simp) rfl ?_
 simp only [rI]
 have hs:True:=trivial
 repeat' first|(with_reducible first|refine q01 ?_|refine q11 ?_|refine q17 ?_)|(with_reducible refine At.fn_ret (by simp -dsimp [hs];exact rfl) ?_)|(with_reducible refine DT_regionE [0,1,2,4] ?_;simp -dsimp [hs])|(with_reducible refine GStop_split ?_ ?_<;>intro h<;>have h0:=h<;>(try simp only [nrm] at h)<;>(try exact Bool.noConfusion h)<;>have h2:=h<;>(try simp at h2)<;>(replace hs:=And.intro h0 (And.intro h (And.intro h2 hs)))<;>simp -dsimp [h0,h,h2,hs])|with_reducible refine And.intro ?_ ?_
 all_goals try simp -dsimp [hs]
 all_goals try clear hs
 all_goals simp [*]
theorem in_chain (lo hi:Int) (l:List Int) (hl:l.length < 1000000) (objs:List DObj):DCall Tryz.prog G 68 [iv lo,iv hi,isv l] objs (fun rr objs'=>rr=bv (l.all fun x=>decide (lo≤x) && decide (x≤hi))∧objs'=objs):=by
 refine DCall.frame ?_ (by simp) (by simp) objs
 refine DCall_intro Tryz.func68 rfl Tryz.ntmps68 (by simp) rfl ?_
 try simp only [iv,iv,isv]
 have hc:=containsFunc_int (G:=G) l (fun x=>decide (x < lo) || decide (hi < x)) 120 [.ptr 0 0,.ptr 1 0] [.row [.im (rI lo)],.row [.im (rI hi)]] (by simp) (fun x _=>in1_chain x lo hi) hl
 simp only [rI] at hc
 have hs:True:=trivial
 repeat' first|(with_reducible first|refine q01 ?_|refine q11 ?_|refine q17 ?_)|(with_reducible refine At.fn_ret (by simp -dsimp [hs];exact rfl) ?_)|(refine CallE.here hc ?_;try simp -dsimp [hs])|(with_reducible refine DT_regionE [0,1,2,3,4,6] ?_;simp -dsimp [hs])
 all_goals try simp -dsimp [hs]
 all_goals try clear hs
 rw [Bool.eq_iff_iff];simp
 exact exists_congr fun x=>and_congr_right fun _=>by omega
def deskC (c:Chains) (D:List (Int×Int)) (B:List (Int×Issue)):IC:=.ip [.sl (c.reg.map encIssue),.sl (c.lets.map encI),rI c.of,.sl (c.loops.map encLoop),.mp [.int .i64] (encMI D),.mp [.int .i64] (encMSI B)]
def ckL1 (x:ChLoop):Bool:=decide (1≤x.links.length) && decide (x.links.length≤8)
def ckL2 (x:ChLoop):Bool:=(decide (-8000000000≤x.lo) && decide (x.lo≤8000000000)) && (decide (-8000000000≤x.hi) && decide (x.hi≤8000000000)) && decide (x.lo≤x.hi)
def usedOk (D:List (Int×Int)) (B:List (Int×Issue)):List (Int×Int)→List Link→Bool
 | _,[]=>true
 | U,y :: r=>decide (mlook U y.drawing + 1≤mlook D y.drawing) && (decide (0≤y.dim) && decide (y.dim≤((mlookS B y.drawing).dims.length:Int) - 1)) && usedOk D B (mput y.drawing (mlook U y.drawing + 1) U) r
theorem ckL1_c (d:IC) (x:ChLoop) (objs:List DObj):DCall Tryz.prog G 226 [.one (.im d),loopv x] objs (fun rr objs'=>rr=bv (ckL1 x)∧objs'=objs):=by
 refine DCall.frame ?_ (by simp) (by simp) objs
 refine DCall_intro Tryz.func226 rfl Tryz.ntmps226 (by simp) rfl ?_
 try simp only [loopv]
 have c1:=in_chain (G:=G) 1 8 [(x.links.length:Int)] (by simp)
 have hs:True:=trivial
 repeat' first|(with_reducible first|refine q01 ?_|refine q11 ?_|refine q17 ?_)|(with_reducible refine At.fn_ret (by simp -dsimp [hs];exact rfl) ?_)|(refine CallE.thaw (c1) ?_ ?_ ?_;(focus (simp;done));(focus (simp;done));try simp -dsimp [hs])|(with_reducible refine DT_regionE [1,3,4] ?_;simp -dsimp [hs])
 all_goals try simp -dsimp [hs]
 all_goals try clear hs
 rw [Bool.eq_iff_iff]
 simp [ckL1]
 omega
theorem ckL2_iff (x:ChLoop):ckL2 x=true↔-8000000000≤x.lo∧x.lo≤8000000000∧-8000000000≤x.hi∧x.hi≤8000000000∧x.lo≤x.hi:=by
 simp [ckL2];omega
theorem ckL2_c (d:IC) (x:ChLoop) (objs:List DObj):DCall Tryz.prog G 227 [.one (.im d),loopv x] objs (fun rr objs'=>rr=bv (ckL2 x)∧objs'=objs):=by
 refine DCall.frame ?_ (by simp) (by simp) objs
 refine DCall_intro Tryz.func227 rfl Tryz.ntmps227 (by simp) rfl ?_
 try simp only [loopv]
 have c1:=in_chain (G:=G) (-8000000000) 8000000000 [x.lo,x.hi] (by simp)
 have hi:=ckL2_iff x
 cases hq:([x.lo,x.hi].all fun y=>decide (-8000000000≤y) && decide (y≤8000000000))
 ·rw [hq] at c1
  have hs:True:=trivial
  repeat' first|(with_reducible first|refine q01 ?_|refine q11 ?_|refine q17 ?_)|(with_reducible refine At.fn_ret (by simp -dsimp [hs];exact rfl) ?_)|(refine CallE.thaw (c1) ?_ ?_ ?_;(focus (simp;done));(focus (simp;done));try simp -dsimp [hs])|(with_reducible refine DT_regionE [1,3,4] ?_;simp -dsimp [hs])
  all_goals try simp -dsimp [hs]
  all_goals try clear hs
  all_goals simp at hq
  all_goals exact false_of hi (by omega)
 ·rw [hq] at c1
  have hs:True:=trivial
  repeat' first|(with_reducible first|refine q01 ?_|refine q11 ?_|refine q17 ?_)|(with_reducible refine At.fn_ret (by simp -dsimp [hs];exact rfl) ?_)|(refine CallE.thaw (c1) ?_ ?_ ?_;(focus (simp;done));(focus (simp;done));try simp -dsimp [hs])|(with_reducible refine DT_regionE [1,3,4] ?_;simp -dsimp [hs])
  all_goals try simp -dsimp [hs]
  all_goals try clear hs
  all_goals simp at hq
  all_goals rw [Bool.eq_iff_iff,hi]
  all_goals simp
  all_goals omega
set_option maxHeartbeats 1000000 in
theorem ckL3_c (c:Chains) (D:List (Int×Int)) (B:List (Int×Issue)) (x:ChLoop) (hl:x.links.length < 1000000) (hB:∀ n,(mlookS B n).dims.length < 1000000) (objs:List DObj):DCall Tryz.prog G 228 [.one (.im (deskC c D B)),loopv x] objs (fun rr objs'=>rr=bv (usedOk D B [] x.links)∧objs'=objs):=by
 refine DCall.frame ?_ (by simp) (by simp) objs
 refine DCall_intro Tryz.func228 rfl Tryz.ntmps228 (by simp) rfl ?_
 try simp only [loopv]
 simp only [deskC]
 have hs:True:=trivial
 repeat' first|(with_reducible first|refine q01 ?_|refine q11 ?_|refine q12 ?_|refine q13 ?_|refine q15 ?_)|(with_reducible refine DT_regionE [0,1,3,4,5,7,10,11,12,13,48] ?_;simp -dsimp [hs])
 all_goals try simp -dsimp [hs]
 all_goals try clear hs
 refine DT_loop (ι:={ p:Nat×List (Int×Int) // p.1≤x.links.length∧usedOk D B [] x.links=usedOk D B p.2 (x.links.drop p.1)∧bd p.2 p.1 }) (fun p=>⟨50,[(0,.one (.im (deskC c D B))),(5,.one (.map 1)),(10,.one (.im (.sl (x.links.map encLink)))),(11,iv (x.links.length:Int)),(12,iv (p.1.1:Int))],[.row ((encLoop x).map .im),.map [.int .i64] (encM p.1.2)]⟩) (fun p=>x.links.length - p.1.1) ⟨(0,[]),by simp [bd]⟩ (Weak.of_keep [0,5,10,11,12] (by simp [deskC,encM])) ?_
 rintro ⟨⟨k,U⟩,hk,hu,hb⟩
 simp only at hk hu hb
 simp only [iv,deskC]
 by_cases hlt:k < x.links.length
 ·have hx:x.links[k]?=some x.links[k]:=by simp [hlt]
  have hw:IntKind.i64.wrap ((k:Int) + 1)=((k + 1:Nat):Int):=i64w (by omega) (by omega)
  have hbl:=bd_look hb x.links[k].drawing
  have hwu:IntKind.i64.wrap (mlook U x.links[k].drawing + 1)=mlook U x.links[k].drawing + 1:=i64w (by omega) (by omega)
  have hput:mlook (mput x.links[k].drawing (mlook U x.links[k].drawing + 1) U) x.links[k].drawing=mlook U x.links[k].drawing + 1:=by rw [mlook_put,if_pos rfl]
  have hBn:=hB x.links[k].drawing
  have hwd:IntKind.i64.wrap (((mlookS B x.links[k].drawing).dims.length:Int) - 1)=((mlookS B x.links[k].drawing).dims.length:Int) - 1:=i64w (by omega) (by omega)
  have c1:=in_chain (G:=G) 0 (((mlookS B x.links[k].drawing).dims.length:Int) - 1) [x.links[k].dim] (by simp)
  have hbn:bd (mput x.links[k].drawing (mlook U x.links[k].drawing + 1) U) (k + 1):=bd_put (bd_mono hb (by omega)) (by omega) (by omega)
  rw [List.drop_eq_getElem_cons hlt,usedOk] at hu
  by_cases hle:mlook U x.links[k].drawing + 1≤mlook D x.links[k].drawing
  ·rw [decide_eq_true hle,Bool.true_and] at hu
   cases hq:([x.links[k].dim].all fun y=>decide (0≤y) && decide (y≤((mlookS B x.links[k].drawing).dims.length:Int) - 1))
   ·rw [hq] at c1
    have hq':(decide (0≤x.links[k].dim) && decide (x.links[k].dim≤((mlookS B x.links[k].drawing).dims.length:Int) - 1))=false:=by simpa using hq
    rw [hq',Bool.false_and] at hu
    have hs:True:=trivial
    repeat' first|(with_reducible first|refine q01 ?_|refine q02 ?_|refine q05 ?_|refine q09 ?_|refine q11 ?_|refine q12 ?_|refine q14 ?_|refine q17 ?_)|(with_reducible refine At.fn_ret (by simp -dsimp [hx,hw,hlt,hwu,hput,hwd,hle,hs];exact rfl) ?_)|(refine QCall_pure (c1) ?_;try simp -dsimp [hx,hw,hlt,hwu,hput,hwd,hle,hs])|(refine DT_regionM (id:=6) (nt:=50) 28 [0,1,3,4,5,7,10,11,12,13,48] mixed rfl (by kernel_rfl) ?_;simp -dsimp [hx,hw,hlt,hwu,hput,hwd,hle,hs])|(with_reducible refine DT_regionE [0,1,3,4,5,7,10,11,12,13,48] ?_;simp -dsimp [hx,hw,hlt,hwu,hput,hwd,hle,hs])|(refine DT_cond rfl (fun h=>?_) (fun h=>?_)<;>(try simp only [nrm] at h)<;>(try exact Bool.noConfusion h))
    all_goals try simp -dsimp [hx,hw,hlt,hwu,hput,hwd,hle,hs]
    all_goals try clear hs
    rw [hu]
   ·rw [hq] at c1
    have hq':(decide (0≤x.links[k].dim) && decide (x.links[k].dim≤((mlookS B x.links[k].drawing).dims.length:Int) - 1))=true:=by simpa using hq
    rw [hq',Bool.true_and] at hu
    have hs:True:=trivial
    repeat' first|(with_reducible first|refine q01 ?_|refine q03 ?_|refine q06 ?_|refine q11 ?_|refine q12 ?_|refine q14 ?_|refine q16 ?_)|(refine QCall_pure (c1) ?_;try simp -dsimp [hx,hw,hlt,hwu,hput,hwd,hle,hs])|(refine DT_regionM (id:=6) (nt:=50) 28 [0,1,3,4,5,7,10,11,12,13,48] mixed rfl (by kernel_rfl) ?_;simp -dsimp [hx,hw,hlt,hwu,hput,hwd,hle,hs])|(with_reducible refine DT_regionE [0,1,3,4,5,7,10,11,12,13,48] ?_;simp -dsimp [hx,hw,hlt,hwu,hput,hwd,hle,hs])|(refine DT_cond rfl (fun h=>?_) (fun h=>?_)<;>(try simp only [nrm] at h)<;>(try exact Bool.noConfusion h))
    all_goals try simp -dsimp [hx,hw,hlt,hwu,hput,hwd,hle,hs]
    all_goals try clear hs
    exact At.round ⟨(k + 1,mput x.links[k].drawing (mlook U x.links[k].drawing + 1) U),by omega,hu,hbn⟩ (by simp;omega) (Weak.of_drop [0,5,10,11,12] 2 (by simp) (by simp) (by simp [deskC]))
  ·rw [decide_eq_false hle,Bool.false_and,Bool.false_and] at hu
   have hs:True:=trivial
   repeat' first|(with_reducible first|refine q01 ?_|refine q02 ?_|refine q05 ?_|refine q09 ?_|refine q11 ?_|refine q12 ?_|refine q14 ?_|refine q17 ?_)|(with_reducible refine At.fn_ret (by simp -dsimp [hx,hw,hlt,hwu,hput,hwd,hle,hs];exact rfl) ?_)|(refine DT_regionM (id:=6) (nt:=50) 28 [0,1,3,4,5,7,10,11,12,13,48] mixed rfl (by kernel_rfl) ?_;simp -dsimp [hx,hw,hlt,hwu,hput,hwd,hle,hs])|(with_reducible refine DT_regionE [0,1,3,4,5,7,10,11,12,13,48] ?_;simp -dsimp [hx,hw,hlt,hwu,hput,hwd,hle,hs])|(refine DT_cond rfl (fun h=>?_) (fun h=>?_)<;>(try simp only [nrm] at h)<;>(try exact Bool.noConfusion h))
   all_goals try simp -dsimp [hx,hw,hlt,hwu,hput,hwd,hle,hs]
   all_goals try clear hs
   rw [hu]
 ·rw [List.drop_eq_nil_of_le (by omega)] at hu
  have hs:True:=trivial
  repeat' first|(with_reducible first|refine q01 ?_|refine q03 ?_|refine q06 ?_|refine q09 ?_|refine q11 ?_|refine q16 ?_|refine q17 ?_)|(with_reducible refine At.fn_ret (by simp -dsimp [hlt,hs];exact rfl) ?_)|(with_reducible refine DT_regionE [0,1,3,4,5,7,10,11,12,13,48] ?_;simp -dsimp [hlt,hs])|(refine DT_cond rfl (fun h=>?_) (fun h=>?_)<;>(try simp only [nrm] at h)<;>(try exact Bool.noConfusion h))
  all_goals try simp -dsimp [hlt,hs]
  all_goals try clear hs
  rw [hu];rfl
end Go.Proofs
