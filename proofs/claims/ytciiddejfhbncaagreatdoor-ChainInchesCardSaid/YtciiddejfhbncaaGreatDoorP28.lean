/- Part 28 of the proofs: laws and walks that hold without conditions beyond those that each theorem names. -/
import Derived.Shelf.SlGeneric
import Derived.Shelf.SlSortCmp.NoneTotal
import Derived.Ground.SlsfProg
import Derived.Test.YtciiddejfhbncaaGreatDoorP17
import Derived.Test.YtciiddejfhbncaaGreatDoorP25
import Derived.Test.YtciiddejfhbncaaGreatDoorP26
import Derived.Test.YtciiddejfhbncaaGreatDoorP27
set_option linter.all false
set_option linter.deprecated false
namespace Go.Proofs
open Go Go.Ab
set_option linter.unusedSimpArgs false
variable {G:Nat→Option (List IC)}
attribute [simp] permL reO cutL cutE gones noLoop nilV nilX ZK
def rdOk (n:Int) (ds:List Dim):Bool:=ds.all fun d=>decide (cvE d n=0)
def rdF (c:Chains) (n:Int):Issue→List Dim×Int:=fun x=>if mlook (cntD c) x.drawing=0 then (x.dims,0) else if rdOk n x.dims=true then (x.dims.map (cvD · n),0) else ([],6)
theorem cvE_two (d:Dim) (n:Int):cvE d n=0∨cvE d n=6:=by unfold cvE;split<;>simp
set_option maxHeartbeats 1000000 in
theorem redraw1_c (cc:Chains) (x:Issue) (n:Int) (a b c:IC) (hU:unitG G a b c) (hn:n=1∨n=2) (hx:x.dims.length≤8) (hd:∀ d∈x.dims,dimOk d=true) (objs:List DObj):DCall Tryz.prog G 81 [issv x,.one (.im (.ip [deskC cc (cntD cc) (tkM cc.reg cc.lets)])),.one (.im (.ip [.raw (.int .u8 n)]))] objs (fun rr objs'=>rr=.tup [.one (.im (.sl ((rdF cc n x).1.map encDim))),iv (rdF cc n x).2]∧objs'=objs):=by
 refine DCall.frame ?_ (by simp) (by simp) objs
 refine DCall_intro Tryz.func81 rfl Tryz.ntmps81 (by simp) rfl ?_
 try simp only [issv]
 have c1:=cloneDM_c (G:=G) x.dims (by omega)
 simp only [issv,encIssue,rI,List.map_cons,List.map_nil,deskC]
 have hs:True:=trivial
 repeat' first|(with_reducible first|refine q01 ?_|refine q11 ?_|refine q12 ?_)|(refine CallE.embed_ex [] (c1) ?_ ?_ ?_ ?_ ?_ ?_;(focus (simp [emb];done));(focus (simp;done));(focus (simp;done));(focus (simp;done));(focus (refine emb_all ?_;simp [emb,embAll];done));intro mmA hmmA;try simp -dsimp [mergeO,emb,hs])|(with_reducible refine DT_regionE [0,1,2,3,4,5,6,7,8,9,14,15,16,25,36] ?_;simp -dsimp [hs])
 all_goals try simp -dsimp [hs]
 all_goals try clear hs
 generalize hcnt:mlook (cntD cc) x.drawing=m at *
 by_cases hm:m=0
 ·have hF:rdF cc n x=(x.dims,0):=by rw [rdF,hcnt,if_pos hm]
  rw [hF]
  refine DT_loop (ι:={ k:Nat // k≤x.dims.length }) (fun k=>⟨44,[(1,.one (.im (.ip [deskC cc (cntD cc) (tkM cc.reg cc.lets)]))),(2,.one (.im (.ip [.raw (.int .u8 n)]))),(3,.one (.ptr 0 0)),(6,.one (.vec 3 mmA.1 0 x.dims.length)),(14,iv (x.dims.length:Int)),(15,iv (k.1:Int))],[.row [.im (rI x.drawing),.im (rI x.letter),.im (.raw (.int .u8 x.kind)),.im (.sl (x.items.map encItem)),.im (.sl (x.dims.map encDim))],.vec 3 [] 0 true,.vec 3 [] 0 true,.vec 3 (ims (x.dims.map encDim)) mmA.1 mmA.2]⟩) (fun k=>x.dims.length - k.1) ⟨0,by omega⟩ (Weak.of_keep [1,2,3,6,14,15] (by simp [deskC])) ?_
  rintro ⟨k,hk⟩
  simp only [iv,rI,deskC]
  by_cases hlt:k < x.dims.length
  ·have hw:IntKind.i64.wrap ((k:Int) + 1)=((k + 1:Nat):Int):=i64w (by omega) (by omega)
   have hs:True:=trivial
   repeat' first|(with_reducible first|refine q01 ?_|refine q03 ?_|refine q06 ?_|refine q11 ?_|refine q12 ?_|refine q14 ?_|refine q16 ?_)|(refine DT_regionM (id:=5) (nt:=44) 8 [0,1,2,3,4,5,6,7,8,9,14,15,16,25,36] mixed rfl (by kernel_rfl) ?_;simp -dsimp [hlt,hw,hcnt,hm,hs])|(with_reducible refine DT_regionE [0,1,2,3,4,5,6,7,8,9,14,15,16,25,36] ?_;simp -dsimp [hlt,hw,hcnt,hm,hs])|(refine DT_cond rfl (fun h=>?_) (fun h=>?_)<;>(try simp only [nrm] at h)<;>(try exact Bool.noConfusion h))
   all_goals try simp -dsimp [hlt,hw,hcnt,hm,hs]
   all_goals try clear hs
   all_goals exact At.round ⟨k + 1,by omega⟩ (by simp;omega) (Weak.of_keep [1,2,3,6,14,15] (by simp))
  ·obtain rfl:k=x.dims.length:=by omega
   have hs:True:=trivial
   repeat' first|(with_reducible first|refine q01 ?_|refine q03 ?_|refine q06 ?_|refine q11 ?_|refine q16 ?_|refine q17 ?_)|(with_reducible refine At.fn_ret (by simp -dsimp [hlt,hs];exact rfl) ?_)|(with_reducible refine DT_regionE [0,1,2,3,4,5,6,7,8,9,14,15,16,25,36] ?_;simp -dsimp [hlt,hs])|(refine DT_cond rfl (fun h=>?_) (fun h=>?_)<;>(try simp only [nrm] at h)<;>(try exact Bool.noConfusion h))
   all_goals try simp -dsimp [hlt,hs]
   all_goals try clear hs
 ·have hF:rdF cc n x=if rdOk n x.dims=true then (x.dims.map (cvD · n),0) else ([],6):=by rw [rdF,hcnt,if_neg hm]
  have hTl:(x.dims.map (cvD · n)).length=x.dims.length:=by simp
  have hTg:∀ k (h:k < x.dims.length),(x.dims.map (cvD · n))[k]?=some (cvD x.dims[k] n):=fun k h=>by simp [h]
  generalize x.dims.map (cvD · n)=T at *
  refine DT_loop (ι:={ k:Nat // k≤x.dims.length∧rdOk n (x.dims.take k)=true }) (fun k=>⟨44,[(1,.one (.im (.ip [deskC cc (cntD cc) (tkM cc.reg cc.lets)]))),(2,.one (.im (.ip [.raw (.int .u8 n)]))),(3,.one (.ptr 0 0)),(6,.one (.vec 3 mmA.1 0 x.dims.length)),(14,iv (x.dims.length:Int)),(15,iv (k.1:Int))],[.row [.im (rI x.drawing),.im (rI x.letter),.im (.raw (.int .u8 x.kind)),.im (.sl (x.items.map encItem)),.im (.sl (x.dims.map encDim))],.vec 3 [] 0 true,.vec 3 [] 0 true,.vec 3 (ims ((mixD T x.dims k.1).map encDim)) mmA.1 mmA.2]⟩) (fun k=>x.dims.length - k.1) ⟨0,by simp [rdOk]⟩ (Weak.of_keep [1,2,3,6,14,15] (by simp [mixD,deskC])) ?_
  rintro ⟨k,hk,hok⟩
  simp only [iv,rI,deskC]
  by_cases hlt:k < x.dims.length
  ·have hw:IntKind.i64.wrap ((k:Int) + 1)=((k + 1:Nat):Int):=i64w (by omega) (by omega)
   have hlm:=mix_len hTl hk
   have hge:=mix_get hTl hlt
   have hgm:∀ h,(mixD T x.dims k)[k]'h=x.dims[k]:=fun h=>by rw [List.getElem?_eq_getElem h] at hge;exact Option.some.inj hge
   have hklm:k < (mixD T x.dims k).length:=by omega
   have hTk:=hTg k hlt
   have c3:=convert_c (G:=G) x.dims[k] n a b c hU (hd _ (List.getElem_mem hlt)) hn
   have hset:=ims_setDm (mixD T x.dims k) k (cvD x.dims[k] n)
   have hst:=mix_set hTl hlt hTk
   rw [hst] at hset
   have htk:x.dims.take (k + 1)=x.dims.take k ++ [x.dims[k]]:=List.take_succ_eq_append_getElem hlt
   have hall:rdOk n x.dims=true→cvE x.dims[k] n=0:=fun h=>by
    have:=List.all_eq_true.1 h _ (List.getElem_mem hlt)
    simpa using this
   simp only [u8v] at c3
   have h2:=cvE_two x.dims[k] n
   generalize hdk:x.dims[k]=dk at *
   generalize cvD dk n=y at *
   rcases h2 with he|he
   ·rw [he] at c3
    have hok':rdOk n (x.dims.take (k + 1))=true:=by
     rw [htk,rdOk,List.all_append]
     simp only [rdOk] at hok
     rw [hok];simp [he]
    have hs:True:=trivial
    repeat' first|(with_reducible first|refine q01 ?_|refine q04 ?_|refine q11 ?_|refine q12 ?_|refine q14 ?_)|(refine QCall_pure (c3) ?_;try simp -dsimp [hlt,hw,hlm,hklm,hgm,hset,hcnt,hm,hs])|(refine DT_regionM (id:=5) (nt:=44) 8 [0,1,2,3,4,5,6,7,8,9,14,15,16,25,36] mixed rfl (by kernel_rfl) ?_;simp -dsimp [hlt,hw,hlm,hklm,hgm,hset,hcnt,hm,hs])|(refine DT_regionX (id:=6) (nt:=44) 10 [8] [0,1,2,3,4,5,6,7,8,9,14,15,16,25,26,27,28,29,30,31,32,33,36] [0,1,2,3,4,5,6,7,8,9,14,15,16,25,36] mixed rfl (by kernel_rfl) ?_;simp -dsimp [hlt,hw,hlm,hklm,hgm,hset,hcnt,hm,hs])|(with_reducible refine DT_regionE [0,1,2,3,4,5,6,7,8,9,14,15,16,25,36] ?_;simp -dsimp [hlt,hw,hlm,hklm,hgm,hset,hcnt,hm,hs])|(refine DT_cond rfl (fun h=>?_) (fun h=>?_)<;>(try simp only [nrm] at h)<;>(try exact Bool.noConfusion h))
    all_goals try simp -dsimp [hlt,hw,hlm,hklm,hgm,hset,hcnt,hm,hs]
    all_goals try clear hs
    all_goals exact At.round ⟨k + 1,by omega,hok'⟩ (by simp;omega) (Weak.of_drop [1,2,3,6,14,15] 4 (by simp) (by simp) (by simp [hst]))
   ·have hno:¬ rdOk n x.dims=true:=fun h=>by
     have:=hall h
     omega
    rw [he] at c3
    rw [hF,if_neg hno]
    have hs:True:=trivial
    repeat' first|(with_reducible first|refine q01 ?_|refine q02 ?_|refine q05 ?_|refine q11 ?_|refine q12 ?_|refine q14 ?_|refine q17 ?_)|(with_reducible refine At.fn_ret (by simp -dsimp [hlt,hw,hlm,hklm,hgm,hset,hcnt,hm,hs];exact rfl) ?_)|(refine QCall_pure (c3) ?_;try simp -dsimp [hlt,hw,hlm,hklm,hgm,hset,hcnt,hm,hs])|(refine DT_regionM (id:=5) (nt:=44) 8 [0,1,2,3,4,5,6,7,8,9,14,15,16,25,36] mixed rfl (by kernel_rfl) ?_;simp -dsimp [hlt,hw,hlm,hklm,hgm,hset,hcnt,hm,hs])|(refine DT_regionX (id:=6) (nt:=44) 10 [8] [0,1,2,3,4,5,6,7,8,9,14,15,16,25,26,27,28,29,30,31,32,33,36] [0,1,2,3,4,5,6,7,8,9,14,15,16,25,36] mixed rfl (by kernel_rfl) ?_;simp -dsimp [hlt,hw,hlm,hklm,hgm,hset,hcnt,hm,hs])|(with_reducible refine DT_regionE [0,1,2,3,4,5,6,7,8,9,14,15,16,25,36] ?_;simp -dsimp [hlt,hw,hlm,hklm,hgm,hset,hcnt,hm,hs])|(refine DT_cond rfl (fun h=>?_) (fun h=>?_)<;>(try simp only [nrm] at h)<;>(try exact Bool.noConfusion h))
    all_goals try simp -dsimp [hlt,hw,hlm,hklm,hgm,hset,hcnt,hm,hs]
    all_goals try clear hs
  ·obtain rfl:k=x.dims.length:=by omega
   have hme:=mix_end hTl
   rw [List.take_length] at hok
   rw [hF,if_pos hok]
   have hs:True:=trivial
   repeat' first|(with_reducible first|refine q01 ?_|refine q03 ?_|refine q06 ?_|refine q11 ?_|refine q16 ?_|refine q17 ?_)|(with_reducible refine At.fn_ret (by simp -dsimp [hlt,hme,hs];exact rfl) ?_)|(with_reducible refine DT_regionE [0,1,2,3,4,5,6,7,8,9,14,15,16,25,36] ?_;simp -dsimp [hlt,hme,hs])|(refine DT_cond rfl (fun h=>?_) (fun h=>?_)<;>(try simp only [nrm] at h)<;>(try exact Bool.noConfusion h))
   all_goals try simp -dsimp [hlt,hme,hs]
   all_goals try clear hs
   all_goals (rw [← hTl];simp)
theorem rd_other {c:Chains} (hOk:OkC c) (hsm:SmallC c) {n:Int} {a b d:IC} (hU:unitG G a b d) (hn:n=1∨n=2):OtherF G c (.fn (.func 81) [.ip [deskC c (cntD c) (tkM c.reg c.lets)],.ip [.raw (.int .u8 n)]]) (rdF c n):=by
 refine ⟨81,_,rfl,by simp,fun k hk=>?_⟩
 have hm:=tk_mem hOk hk
 have h8:=(hsm.1.2 _ hm.1).2.2.2
 refine ⟨?_,fun objs=>?_⟩
 ·unfold rdF
  split
  ·exact h8
  ·split
   ·simpa using h8
   ·simp
 ·refine redraw1_c (G:=G) c _ n a b d hU hn h8 (fun x hx=>?_) objs
  have h:=(scan_all (listed_scan (check_listed hOk.reg))).2.2.2.1 _ hm.1
  simp only [issueOk,Bool.and_eq_true,List.all_eq_true] at h
  exact h.2 x hx
def redE (c:Chains) (n:Int):Int:=if chainsE c≠0 then chainsE c else if n=1∨n=2 then changedE c (rdF c n) else 11
def redR (c:Chains) (n:Int):Chains:=if redE c n=0 then changedC c (rdF c n) else zChains
set_option maxHeartbeats 1000000 in
theorem pRedraw_c (c:Chains) (n:Int) (a b d:IC) (hG:sheetG G) (hC:chainG G) (hU:unitG G a b d) (hsm:SmallC c) (hSG:SortGOk G) (h0:0≤n) (h255:n≤255) (objs:List DObj):DCall Tryz.prog G 19 [chv c,u8v n] objs (fun rr objs'=>rr=.tup [chv (redR c n),iv (redE c n)]∧objs'=objs):=by
 refine DCall.frame ?_ (by simp) (by simp) objs
 refine DCall_intro Tryz.func19 rfl Tryz.ntmps19 (by simp) rfl ?_
 try simp only [chv,u8v]
 have c1:=chOpen_c c hG hC hsm
 have w0:IntKind.i64.wrap n=n:=i64w (by omega) (by omega)
 by_cases h00:chainsE c=0
 ·have hOk:=okC h00
  rw [h00] at c1
  simp only [deskR,h00,if_true,deskC] at c1
  have c6:=in_chain (G:=G) 1 2 [n] (by simp)
  simp only [isv,List.map_cons,List.map_nil,Ab.encI,encI,rI,List.all_cons,List.all_nil,Bool.and_true] at c6
  by_cases hn:n=1∨n=2
  ·have hE:redE c n=changedE c (rdF c n):=by rw [redE,if_neg (by simp [h00]),if_pos hn]
   have hR:redR c n=changedR c (rdF c n):=by rw [redR,changedR,hE]
   rw [hR,hE]
   rw [show (decide ((1:Int)≤n) && decide (n≤(2:Int)))=true by rw [Bool.and_eq_true,decide_eq_true_iff,decide_eq_true_iff];omega] at c6
   have c7:=changed_c (G:=G) c (cntD c) _ _ hG hOk hsm (rd_other (G:=G) hOk hsm hU hn) hSG
   have c8:DCall Tryz.prog G 69 [.one (.im (deskC c (cntD c) (tkM c.reg c.lets))),.one (.fn (.func 81) [.ptr 1 0,.ptr 0 0])] [.row [.im (.raw (.int .u8 n))],.row [.im (deskC c (cntD c) (tkM c.reg c.lets))]] (fun d o=>d=.tup [chv (changedR c (rdF c n)),iv (changedE c (rdF c n))]∧o=[] ++ gones 2):=
    DCall.freeze 0 (c7 []) (Nat.zero_le _) rfl (by simp [fz,DC.lt,frz,mapO,deskC,rI]) (fun o r _ h=>by
     match o with
     | 0=>simp at h
     | 1=>simp at h
     | o + 2=>simp at h)
   simp only [deskC,rI,List.nil_append,gones,List.replicate] at c8
   have hs:True:=trivial
   repeat' first|(with_reducible first|refine q01 ?_|refine q11 ?_|refine q14 ?_|refine q17 ?_)|(with_reducible refine At.fn_ret (by simp -dsimp [w0,hs];exact rfl) ?_)|(refine CallE.pure (c1) ?_;try simp -dsimp [w0,hs])|(refine CallE.thaw (c6) ?_ ?_ ?_;(focus (simp;done));(focus (simp;done));try simp -dsimp [w0,hs])|(refine CallE.embed [1,6] (c8) ?_ ?_ ?_ ?_ ?_ ?_;(focus (simp [emb];done));(focus (simp;done));(focus (simp;done));(focus (simp;done));(focus (refine emb_all ?_;simp [emb,embAll];done));try simp -dsimp [mergeO,emb,w0,hs])|(with_reducible refine DT_regionE [0,1,2,3,4,5,6,7,14,21] ?_;simp -dsimp [w0,hs])|(refine DT_cond rfl (fun h=>?_) (fun h=>?_)<;>(try simp only [nrm] at h)<;>(try exact Bool.noConfusion h))
   all_goals try simp -dsimp [w0,hs]
   all_goals try clear hs
  ·have hE:redE c n=11:=by rw [redE,if_neg (by simp [h00]),if_neg hn]
   rw [redR,hE,if_neg (by decide)]
   rw [show (decide ((1:Int)≤n) && decide (n≤(2:Int)))=false by rw [Bool.eq_false_iff];intro h;rw [Bool.and_eq_true,decide_eq_true_iff,decide_eq_true_iff] at h;omega] at c6
   have hs:True:=trivial
   repeat' first|(with_reducible first|refine q01 ?_|refine q02 ?_|refine q11 ?_|refine q14 ?_|refine q17 ?_)|(with_reducible refine At.fn_ret (by simp -dsimp [w0,hs];exact rfl) ?_)|(refine CallE.pure (c1) ?_;try simp -dsimp [w0,hs])|(refine CallE.thaw (c6) ?_ ?_ ?_;(focus (simp;done));(focus (simp;done));try simp -dsimp [w0,hs])|(with_reducible refine DT_regionE [0,1,2,3,4,5,6,7,14,21] ?_;simp -dsimp [w0,hs])|(refine DT_cond rfl (fun h=>?_) (fun h=>?_)<;>(try simp only [nrm] at h)<;>(try exact Bool.noConfusion h))
   all_goals try simp -dsimp [w0,hs]
   all_goals try clear hs
   all_goals simp [zChains]
 ·obtain ⟨X,hX⟩:=deskR_one c
  rw [hX] at c1
  have hE:redE c n=chainsE c:=by rw [redE,if_pos h00]
  rw [redR,hE,if_neg h00]
  have hs:True:=trivial
  repeat' first|(with_reducible first|refine q01 ?_|refine q02 ?_|refine q11 ?_|refine q17 ?_)|(with_reducible refine At.fn_ret (by simp -dsimp [h00,hs];exact rfl) ?_)|(refine CallE.pure (c1) ?_;try simp -dsimp [h00,hs])|(with_reducible refine DT_regionE [0,1,2,3,4,5,6,7,14,21] ?_;simp -dsimp [h00,hs])|(refine DT_cond rfl (fun h=>?_) (fun h=>?_)<;>(try simp only [nrm] at h)<;>(try exact Bool.noConfusion h))
  all_goals try simp -dsimp [h00,hs]
  all_goals try clear hs
  all_goals simp [zChains]
end Go.Proofs
namespace Go.Proofs
open Go Go.Ab
set_option linter.unusedSimpArgs false
variable {G:Nat→Option (List IC)}
attribute [simp] permL reO cutL cutE gones noLoop nilV nilX ZK
theorem part_c (n k:Int) (d:Dim) (objs:List DObj):DCall Tryz.prog G 57 [iv n,u8v k,dimv d] objs (fun rr objs'=>rr=issv { drawing:=n,letter:=1,kind:=k,items:=[],dims:=[d] }∧objs'=objs):=by
 refine DCall.frame ?_ (by simp) (by simp) objs
 refine DCall_intro Tryz.func57 rfl Tryz.ntmps57 (by simp) rfl ?_
 try simp only [iv,u8v,dimv]
 have hs:True:=trivial
 repeat' first|(with_reducible first|refine q01 ?_|refine q11 ?_|refine q17 ?_)|(with_reducible refine At.fn_ret (by simp -dsimp [hs];exact rfl) ?_)|(with_reducible refine DT_regionE [0,1,2,5,6] ?_;simp -dsimp [hs])
 all_goals try simp -dsimp [hs]
 all_goals try clear hs
def lnkv (x:Link):DV:=.agg ((encLink x).map .im)
theorem lnkv_im (x:Link):ImV (lnkv x):=by simp [lnkv]
attribute [simp] lnkv_im
theorem back_c (n:Int) (objs:List DObj):DCall Tryz.prog G 109 [iv n] objs (fun rr objs'=>rr=lnkv { drawing:=n,dim:=0,back:=true }∧objs'=objs):=by
 refine DCall.frame ?_ (by simp) (by simp) objs
 refine DCall_intro Tryz.func109 rfl Tryz.ntmps109 (by simp) rfl ?_
 try simp only [iv]
 have hs:True:=trivial
 repeat' first|(with_reducible first|refine q01 ?_|refine q11 ?_|refine q17 ?_)|(with_reducible refine At.fn_ret (by simp -dsimp [hs];exact rfl) ?_)|(with_reducible refine DT_regionE [0,2] ?_;simp -dsimp [hs])
 all_goals try simp -dsimp [hs]
 all_goals try clear hs
 all_goals rfl
theorem both_c  (objs:List DObj):DCall Tryz.prog G 60 [] objs (fun rr objs'=>rr=spotsv [⟨2,0⟩,⟨3,0⟩]∧objs'=objs):=by
 refine DCall.frame ?_ (by simp) (by simp) objs
 refine DCall_intro Tryz.func60 rfl Tryz.ntmps60 (by simp) rfl ?_
 try simp only [iv]
 have hs:True:=trivial
 repeat' first|(with_reducible first|refine q01 ?_|refine q11 ?_|refine q17 ?_)|(with_reducible refine At.fn_ret (by simp -dsimp [hs];exact rfl) ?_)|(with_reducible refine DT_regionE [0] ?_;simp -dsimp [hs])
 all_goals try simp -dsimp [hs]
 all_goals try clear hs
def exReg:List Issue:=[{ drawing:=1,letter:=1,kind:=1,items:=[⟨2,2⟩,⟨3,1⟩,⟨4,1⟩],dims:=[] },{ drawing:=2,letter:=1,kind:=2,items:=[],dims:=[⟨100,98,103⟩] },{ drawing:=3,letter:=1,kind:=2,items:=[],dims:=[⟨200,199,201⟩] },{ drawing:=4,letter:=1,kind:=3,items:=[],dims:=[⟨410,405,412⟩] }]
def exC:Chains:={ reg:=exReg,lets:=[1,1,1,1],of:=1,loops:=[{ links:=[⟨4,0,false⟩,⟨2,0,true⟩,⟨2,0,true⟩,⟨3,0,true⟩],lo:=0,hi:=20 }] }
theorem chains_c  (objs:List DObj):DCall Tryz.prog G 59 [] objs (fun rr objs'=>rr=chv exC∧objs'=objs):=by
 refine DCall.frame ?_ (by simp) (by simp) objs
 refine DCall_intro Tryz.func59 rfl Tryz.ntmps59 (by simp) rfl ?_
 try simp only [iv]
 have c1:=back_c (G:=G) 2
 have c2:=back_c (G:=G) 3
 have c3:=part_c (G:=G) 2 2 ⟨100,98,103⟩
 have c4:=part_c (G:=G) 3 2 ⟨200,199,201⟩
 have c5:=part_c (G:=G) 4 3 ⟨410,405,412⟩
 simp only [dimv,lnkv,encLink,encDim,issv,encIssue,rI,List.map_cons,List.map_nil] at c1 c2 c3 c4 c5
 have hs:True:=trivial
 repeat' first|(with_reducible first|refine q01 ?_|refine q11 ?_|refine q17 ?_)|(with_reducible refine At.fn_ret (by simp -dsimp [hs];exact rfl) ?_)|(refine CallE.pure (c1) ?_;try simp -dsimp [hs])|(refine CallE.pure (c2) ?_;try simp -dsimp [hs])|(refine CallE.pure (c3) ?_;try simp -dsimp [hs])|(refine CallE.pure (c4) ?_;try simp -dsimp [hs])|(refine CallE.pure (c5) ?_;try simp -dsimp [hs])|(with_reducible refine DT_regionE [0,1] ?_;simp -dsimp [hs])
 all_goals try simp -dsimp [hs]
 all_goals try clear hs
 all_goals exact ⟨rfl,rfl,rfl,rfl⟩
end Go.Proofs
namespace Go.Proofs
open Go Go.Ab
theorem ex_E:chainsE exC=0:=by decide +kernel
theorem ex_spots:spotsR exC=[⟨2,0⟩,⟨3,0⟩]:=by decide +kernel
theorem ex_worst:worstR exC 0 false=[405,103,103,201]:=by decide +kernel
theorem ex_shares:sharesR exC 0=[7,5,5,2]:=by decide +kernel
theorem ex_wrong:wrongR exC=[0]:=by decide +kernel
theorem ex_loops:loopsE exC 0=0:=by decide +kernel
theorem ex_few:fewR exC=[⟨2,0⟩]∧fewE exC=0:=by decide +kernel
theorem ex_grade:gradeR exC=2∧gradeE exC=0:=by decide +kernel
theorem ex_proof:prL exC=0∧prS exC=[405,103,103,201]∧proofE exC=0:=by decide +kernel
theorem ex_tightE:tighE exC [⟨2,0⟩,⟨3,0⟩] 1=0:=by decide +kernel
theorem ex_red:redE exC 1=6:=by decide +kernel
end Go.Proofs
namespace Go.Proofs
open Go Go.Ab
set_option linter.unusedSimpArgs false
variable {G:Nat→Option (List IC)}
attribute [local simp] dslice
attribute [simp] permL reO cutL cutE gones noLoop nilV nilX ZK
theorem ex_small:SmallC exC:=by
 refine ⟨⟨by decide,?_⟩,by decide,by decide,?_⟩
 ·intro x hx
  simp only [exC,exReg,List.mem_cons,List.not_mem_nil,or_false] at hx
  rcases hx with rfl|rfl|rfl|rfl<;>decide
 ·intro x hx
  simp only [exC,List.mem_cons,List.not_mem_nil,or_false] at hx
  subst hx;decide
theorem ex_reach:rLo exC 0=-2∧rHi exC 0=17∧closesK exC 0=1:=by decide +kernel
def exT:Chains:={ reg:=[{ drawing:=1,letter:=1,kind:=1,items:=[⟨2,2⟩,⟨3,1⟩,⟨4,1⟩],dims:=[] },{ drawing:=2,letter:=1,kind:=2,items:=[],dims:=[⟨100,98,103⟩] },{ drawing:=2,letter:=2,kind:=2,items:=[],dims:=[⟨100,99,101⟩] },{ drawing:=3,letter:=1,kind:=2,items:=[],dims:=[⟨200,199,201⟩] },{ drawing:=4,letter:=1,kind:=3,items:=[],dims:=[⟨410,405,412⟩] }],lets:=[1,2,1,1],of:=1,loops:=exC.loops }
theorem ex_tight:tighR exC [⟨2,0⟩,⟨3,0⟩] 1=exT:=by kernel_rfl
theorem ex_redR:redR exC 1=zChains:=by rw [redR,ex_red];rfl
set_option maxHeartbeats 4000000 in
set_option maxRecDepth 10000 in
theorem alive_c (a b d:IC) (hG:sheetG G) (hC:chainG G) (hU:unitG G a b d) (hSF:SortFOk G) (hSG:SortGOk G) (objs:List DObj):DCall Tryz.prog G 23 [] objs (fun rr objs'=>rr=bv true∧objs'=objs):=by
 refine DCall.frame ?_ (by simp) (by simp) objs
 refine DCall_intro Tryz.func23 rfl Tryz.ntmps23 (by simp) rfl ?_
 try simp only [iv]
 have hsm:=ex_small
 have hok:chainsE exC=0→OkC exC:=okC
 have c0:=chains_c (G:=G)
 have cb:=both_c (G:=G)
 have c1:=pReach_c (G:=G) exC 0 hG hC hsm hok
 rw [ex_reach.1,ex_reach.2.1,ex_loops] at c1
 have c2:=pCloses_c (G:=G) exC 0 hG hC hsm hok
 rw [ex_reach.2.2,ex_loops] at c2
 have c3:=pWorst_c (G:=G) exC 0 false hG hC hsm
 rw [ex_worst,ex_loops] at c3
 have c4:=pShares_c (G:=G) exC 0 hG hC hsm
 rw [ex_shares,ex_loops] at c4
 have c5:=pWrong_c (G:=G) exC hG hC hsm
 rw [ex_wrong,ex_E] at c5
 have c6:=pSpots_c (G:=G) exC hG hC hsm hSF
 rw [ex_spots,ex_E] at c6
 have c7:=pGrade_c (G:=G) exC hG hC hsm
 rw [ex_grade.1,ex_grade.2] at c7
 have c8:=pProof_c (G:=G) exC hG hC hsm
 rw [ex_proof.1,ex_proof.2.1,ex_proof.2.2] at c8
 have c9:=pFewest_c (G:=G) exC hG hC hsm hSF
 rw [ex_few.1,ex_few.2] at c9
 have c10:=pTighten_c (G:=G) exC [⟨2,0⟩,⟨3,0⟩] 1 hG hC hsm hSF hSG (by simp)
 rw [ex_tight,ex_tightE] at c10
 have c11:=pRedraw_c (G:=G) exC 1 a b d hG hC hU hsm hSG (by decide) (by decide)
 rw [ex_redR,ex_red] at c11
 have s1:=sameInts_c (G:=G) [405,103,103,201] [405,103,103,201] (by simp)
 have s2:=sameInts_c (G:=G) [7,5,5,2] [7,5,5,2] (by simp)
 have s3:=sameInts_c (G:=G) [0] [0] (by simp)
 have s4:=sameInts_c (G:=G) [1,2,1,1] [1,2,1,1] (by simp)
 have s5:=sameSpots_c (G:=G) [⟨2,0⟩,⟨3,0⟩] (by simp)
 have s6:=sameSpots_c (G:=G) [⟨2,0⟩] (by simp)
 have s7:=sameIssue_c (G:=G) { drawing:=2,letter:=2,kind:=2,items:=[],dims:=[⟨100,99,101⟩] } { drawing:=2,letter:=2,kind:=2,items:=[],dims:=[⟨100,99,101⟩] } (by simp)
 simp only [decide_true] at s1 s2 s3 s4 s7
 simp only [issv,encIssue,encDim,rI,List.map_cons,List.map_nil] at s7
 obtain ⟨e0,e1,e3,e4,e5,hX⟩:∃ e0 e1 e3 e4 e5,chv exT=.agg [.im (.sl [e0,e1,[.raw (.int .i64 2),.raw (.int .i64 2),.raw (.int .u8 2),.sl [],.sl [[.raw (.int .i64 100),.raw (.int .i64 99),.raw (.int .i64 101)]]],e3,e4]),.im (.sl [[.raw (.int .i64 1)],[.raw (.int .i64 2)],[.raw (.int .i64 1)],[.raw (.int .i64 1)]]),.im (.raw (.int .i64 1)),.im (.sl e5)]:=⟨_,_,_,_,_,rfl⟩
 have hZ:chv zChains=.agg [.im (.sl []),.im (.sl []),.im (rI 0),.im (.sl [])]:=rfl
 rw [hX] at c10
 rw [hZ] at c11
 obtain ⟨X,hXe⟩:∃ X,chv exC=X:=⟨_,rfl⟩
 have hXf:∃ x y z w,X=.agg [.im x,.im y,.im z,.im w]:=⟨_,_,_,_,hXe.symm⟩
 obtain ⟨x,y,z,w,rfl⟩:=hXf
 rw [hXe] at c0 c1 c2 c3 c4 c5 c6 c7 c8 c9 c10 c11
 have hs:True:=trivial
 repeat' first|(with_reducible first|refine q01 ?_|refine q11 ?_|refine q14 ?_|refine q17 ?_)|(with_reducible refine At.fn_ret (by simp -dsimp [hs];exact rfl) ?_)|(refine CallE.pure (c0) ?_;try simp -dsimp [hs])|(refine CallE.pure (cb) ?_;try simp -dsimp [hs])|(refine CallE.pure (c1) ?_;try simp -dsimp [hs])|(refine CallE.pure (c2) ?_;try simp -dsimp [hs])|(refine CallE.pure (c3) ?_;try simp -dsimp [hs])|(refine CallE.pure (c4) ?_;try simp -dsimp [hs])|(refine CallE.pure (c5) ?_;try simp -dsimp [hs])|(refine CallE.pure (c6) ?_;try simp -dsimp [hs])|(refine CallE.pure (c7) ?_;try simp -dsimp [hs])|(refine CallE.pure (c8) ?_;try simp -dsimp [hs])|(refine CallE.pure (c9) ?_;try simp -dsimp [hs])|(refine CallE.pure (c10) ?_;try simp -dsimp [hs])|(refine CallE.pure (c11) ?_;try simp -dsimp [hs])|(refine CallE.pure (s5) ?_;try simp -dsimp [hs])|(refine CallE.pure (s6) ?_;try simp -dsimp [hs])|(refine CallE.thaw (s1) ?_ ?_ ?_;(focus (simp;done));(focus (simp;done));try simp -dsimp [hs])|(refine CallE.thaw (s2) ?_ ?_ ?_;(focus (simp;done));(focus (simp;done));try simp -dsimp [hs])|(refine CallE.thaw (s3) ?_ ?_ ?_;(focus (simp;done));(focus (simp;done));try simp -dsimp [hs])|(refine CallE.thaw (s4) ?_ ?_ ?_;(focus (simp;done));(focus (simp;done));try simp -dsimp [hs])|(refine CallE.thaw (s7) ?_ ?_ ?_;(focus (simp;done));(focus (simp;done));try simp -dsimp [hs])|(with_reducible refine DT_regionE [0,1,2,3,4,5,6,7,8,9,10,11,12,13,14,15,16,17,18,19,20,21,22,23,157] ?_;simp -dsimp [hs])|(refine DT_cond rfl (fun h=>?_) (fun h=>?_)<;>(try simp only [nrm] at h)<;>(try exact Bool.noConfusion h))
 all_goals try simp -dsimp [hs]
 all_goals try clear hs
end Go.Proofs
namespace Go.Proofs
open Go Go.Ab
set_option linter.unusedSimpArgs false
variable {G:Nat→Option (List IC)}
attribute [simp] permL reO cutL cutE gones noLoop nilV nilX ZK
def readyC (c:Chains):Bool:=smallB c && decide (chainsE c=0)
theorem ready6_c (c:Chains) (hk:KindOk c.reg) (objs:List DObj):DCall Tryz.prog G 24 [chv c] objs (fun rr objs'=>rr=bv (readyC c)∧objs'=objs):=by
 refine DCall.frame ?_ (by simp) (by simp) objs
 refine DCall_intro Tryz.func24 rfl Tryz.ntmps24 (by simp) rfl ?_
 try simp only [chv]
 have c1:=great6_c (G:=G) c
 cases hq:smallB c
 ·rw [hq] at c1
  have hs:True:=trivial
  repeat' first|(with_reducible first|refine q01 ?_|refine q11 ?_|refine q17 ?_)|(with_reducible refine At.fn_ret (by simp -dsimp [hs];exact rfl) ?_)|(refine CallE.pure (c1) ?_;try simp -dsimp [hs])|(with_reducible refine DT_regionE [0,1,2] ?_;simp -dsimp [hs])
  all_goals try simp -dsimp [hs]
  all_goals try clear hs
  all_goals simp [readyC,hq]
 ·have hg:=smallB_iff.1 hq
  have hsm:SmallC c:=⟨⟨hg.1.1,fun x hx=>⟨(hk x hx).1,(hk x hx).2,(hg.1.2 x hx).1,(hg.1.2 x hx).2⟩⟩,hg.2⟩
  rw [hq] at c1
  have c2:=rChCheck_c (G:=G) c hsm
  have hr:readyC c=decide (chainsE c=0):=by simp [readyC,hq]
  rw [hr]
  generalize chainsE c=e at *
  have hs:True:=trivial
  repeat' first|(with_reducible first|refine q01 ?_|refine q11 ?_|refine q17 ?_)|(with_reducible refine At.fn_ret (by simp -dsimp [hs];exact rfl) ?_)|(refine CallE.pure (c1) ?_;try simp -dsimp [hs])|(refine CallE.pure (c2) ?_;try simp -dsimp [hs])|(with_reducible refine DT_regionE [0,1,2] ?_;simp -dsimp [hs])
  all_goals try simp -dsimp [hs]
  all_goals try clear hs
def sumTo (l:List Link) (s:List Int):Nat→Int
 | 0=>0
 | k + 1=>sumTo l s k + (match l[k]?,s[k]? with|some x,some n=>if x.back then -n else n|_,_=>0)
theorem sumTo_bound {l:List Link} {s:List Int} (hs:∀ n∈s,-2000000000≤n∧n≤2000000000):∀ k:Nat,-2000000000 * (k:Int)≤sumTo l s k∧sumTo l s k≤2000000000 * (k:Int)
 | 0=>by simp [sumTo]
 | k + 1=>by
   have ih:=sumTo_bound (l:=l) hs k
   have ht:-2000000000≤(match l[k]?,s[k]? with|some x,some n=>if x.back then -n else n|_,_=>(0:Int))∧(match l[k]?,s[k]? with|some x,some n=>if x.back then -n else n|_,_=>(0:Int))≤2000000000:=by
    cases h1:l[k]? with
    | none=>simp
    | some x =>
      cases h2:s[k]? with
      | none=>simp
      | some n =>
        have:=hs n (List.mem_of_getElem? h2)
        cases x.back<;>simp<;>omega
   rw [sumTo]
   generalize (match l[k]?,s[k]? with|some x,some n=>if x.back then -n else n|_,_=>(0:Int))=t at *
   omega
def encU (n:Int):List IC:=[.raw (.int .u32 n)]
end Go.Proofs
namespace Go.Proofs
open Go Go.Ab
theorem nil_of_trod {H:Type} {enc:TypeId×Value→H} {P:Program} {w:World} {base:Nat} {sp:Nat→Bool} {held:Bool} {fuel:Nat} {t:TypeId} {ps rs:Array TypeId} {va:Bool} {v:Value} {q:List MemPlace}
 (ht:P.underlying t=some (.func ps rs va)) (h:DataW.trod enc P w base sp held fuel t [v]=some (.nil,q)):v=.nilFunc:=by
 cases fuel with
 | zero=>simp [DataW.trod] at h
 | succ n=>cases v<;>simp [DataW.trod,ht] at h<;>rfl
theorem unit_elem {P:Program} {W:World} {e ti ts tf m:Nat} {f0 f1 f2 f3:Field} {v0 v1 v2 v3:Value} {d0 d1 d2 d3:DataW (List UInt8)} {q:List MemPlace} (hte:P.underlying e=some (.struct #[f0,f1,f2,f3])) (h0:f0.offset=0∧f0.type=ti) (h1:f1.offset=1∧f1.type=ti) (h2:f2.offset=2∧f2.type=ts) (h3:f3.offset=3∧f3.type=tf)
 (hci:P.cellsOf ti=1) (hcs:P.cellsOf ts=1) (hcf:P.cellsOf tf=1) (hi:P.underlying ti=some (.int .i64)) (hs:P.underlying ts=some .string) (h:DataW.trod (funcToken P) P W 0 (fun _=>true) true m e [v0,v1,v2,v3]=some (.agg [d0,d1,d2,d3],q)) :
 (∃ n,v0=.int .i64 n∧d0=.lit (.int .i64 n))∧(∃ n,v1=.int .i64 n∧d1=.lit (.int .i64 n))∧(∃ s:ByteArray,v2=.string s∧d2=.lit (.string s.data.toList))∧∃ k q',DataW.trod (funcToken P) P W 0 (fun _=>true) true k tf [v3]=some (d3,q'):=by
 obtain ⟨xs,n,_,ex,_,hxl,hel⟩:=DataW.trod_struct hte h
 have ex1:=(Prod.mk.inj ex).1
 obtain ⟨x0,x1,x2,x3,rfl⟩:=len4 (by simpa using hxl:xs.length=4)
 simp only [List.map_cons,List.map_nil,DataW.agg.injEq,List.cons.injEq,and_true] at ex1
 obtain ⟨rfl,rfl,rfl,rfl⟩:=ex1
 have e0:=hel 0 f0 rfl
 have e1:=hel 1 f1 rfl
 have e2:=hel 2 f2 rfl
 have e3:=hel 3 f3 rfl
 rw [h0.1,h0.2,hci] at e0
 rw [h1.1,h1.2,hci] at e1
 rw [h2.1,h2.2,hcs] at e2
 rw [h3.1,h3.2,hcf] at e3
 simp only [List.drop_zero,List.drop_succ_cons,List.take_succ_cons,List.take_zero,List.getElem?_cons_zero,List.getElem?_cons_succ] at e0 e1 e2 e3
 obtain ⟨n0,a0,b0,_⟩:=DataW.trod_int hi e0
 obtain ⟨n1,a1,b1,_⟩:=DataW.trod_int hi e1
 obtain ⟨s,a2,b2,_⟩:=DataW.trod_string hs e2
 refine ⟨⟨n0,by simpa using a0,by rw [b0]⟩,⟨n1,by simpa using a1,by rw [b1]⟩,⟨s,by simpa using a2,by rw [b2]⟩,n,x3.2,e3⟩
theorem bytes_of {s:ByteArray} {l:List UInt8} (h:(DataW.lit (.string l):DataW (List UInt8))=.lit (.string s.data.toList)):s=⟨⟨l⟩⟩:=by
 cases s with
 | mk d=>cases d with
   | mk t=>simp at h;rw [h]
theorem len12 {α:Type} {l:List α} (h:l.length=12):∃ a b c d e f g i j k m n,l=[a,b,c,d,e,f,g,i,j,k,m,n]:=by
 match l,h with
 | [a,b,c,d,e,f,g,i,j,k,m,n],_=>exact ⟨a,b,c,d,e,f,g,i,j,k,m,n,rfl⟩
def unitV12 (f:FuncId):List Value:=[.int .i64 0,.int .i64 0,.string ⟨⟨[]⟩⟩,.nilFunc,.int .i64 100,.int .i64 3,.string ⟨⟨[109,109]⟩⟩,.func (.func f) #[] #[],.int .i64 254,.int .i64 4,.string ⟨⟨[105,110]⟩⟩,.func (.func f) #[] #[]]
def unitI12 (f:FuncId):List IC:=[rI 0,rI 0,.raw (.string ⟨⟨[]⟩⟩),.raw .nilFunc,rI 100,rI 3,.raw (.string ⟨⟨[109,109]⟩⟩),.fn (.func f) [],rI 254,rI 4,.raw (.string ⟨⟨[105,110]⟩⟩),.fn (.func f) []]
theorem units_cells {P:Program} {W:World} {t e ti ts tf fuel:Nat} {f0 f1 f2 f3:Field} {ps rs:Array TypeId} {cs:Array Value} {p:List MemPlace} {b:UInt8} {r:List UInt8} {f:FuncId} (ht:P.underlying t=some (.array 3 e)) (hct:P.cellsOf t=12) (hce:P.cellsOf e=4) (hte:P.underlying e=some (.struct #[f0,f1,f2,f3])) (h0:f0.offset=0∧f0.type=ti) (h1:f1.offset=1∧f1.type=ti) (h2:f2.offset=2∧f2.type=ts) (h3:f3.offset=3∧f3.type=tf)
 (hci:P.cellsOf ti=1) (hcs:P.cellsOf ts=1) (hcf:P.cellsOf tf=1) (hi:P.underlying ti=some (.int .i64)) (hs:P.underlying ts=some .string) (hu:P.underlying tf=some (.func ps rs false)) (hone:((List.range P.funcs.size).filter fun f=>(P.funcs[f]?).any (·.name.toUTF8.data.toList == b :: r))=[f])
 (h:DataW.trod (funcToken P) P W 0 (fun _=>true) true fuel t cs.toList=some (.agg [.agg [.lit (.int .i64 0),.lit (.int .i64 0),.lit (.string []),.nil],.agg [.lit (.int .i64 100),.lit (.int .i64 3),.lit (.string [109,109]),.held (b :: r)],.agg [.lit (.int .i64 254),.lit (.int .i64 4),.lit (.string [105,110]),.held (b :: r)]],p)):cs.toList=unitV12 f:=by
 obtain ⟨xs,m,_,ex,hlen,hxl,hel⟩:=DataW.trod_array ht h
 rw [hct] at hlen
 obtain ⟨v0,v1,v2,v3,v4,v5,v6,v7,v8,v9,v10,v11,hv⟩:=len12 hlen
 rw [hv] at hel ⊢
 obtain ⟨x0,x1,x2,rfl⟩:=len3 hxl
 have ex1:=(Prod.mk.inj ex).1
 simp only [List.map_cons,List.map_nil,DataW.agg.injEq,List.cons.injEq,and_true] at ex1
 obtain ⟨q0,q1,q2⟩:=ex1
 have e0:=hel 0 (by omega)
 have e1:=hel 1 (by omega)
 have e2:=hel 2 (by omega)
 rw [hce] at e0 e1 e2
 simp only [Nat.zero_mul,Nat.one_mul,Nat.reduceMul,List.drop_zero,List.drop_succ_cons,List.take_succ_cons,List.take_zero,List.getElem?_cons_zero,List.getElem?_cons_succ] at e0 e1 e2
 obtain ⟨⟨n0,rfl,k0⟩,⟨n1,rfl,k1⟩,⟨s0,rfl,k2⟩,_,_,k3⟩:=unit_elem hte h0 h1 h2 h3 hci hcs hcf hi hs (e0.trans (by rw [show x0=(x0.1,x0.2) from rfl,← q0]))
 obtain ⟨⟨n2,rfl,k4⟩,⟨n3,rfl,k5⟩,⟨s1,rfl,k6⟩,_,_,k7⟩:=unit_elem hte h0 h1 h2 h3 hci hcs hcf hi hs (e1.trans (by rw [show x1=(x1.1,x1.2) from rfl,← q1]))
 obtain ⟨⟨n4,rfl,k8⟩,⟨n5,rfl,k9⟩,⟨s2,rfl,k10⟩,_,_,k11⟩:=unit_elem hte h0 h1 h2 h3 hci hcs hcf hi hs (e2.trans (by rw [show x2=(x2.1,x2.2) from rfl,← q2]))
 rw [bytes_of k2,bytes_of k6,bytes_of k10,nil_of_trod hu k3,func_of_trod hu hone k7,func_of_trod hu hone k11]
 simp only [DataW.lit.injEq,Lit.int.injEq,true_and] at k0 k1 k4 k5 k8 k9
 subst k0 k1 k4 k5 k8 k9
 rfl
theorem rep_units {W:World} {g:Nat} {f:FuncId} (h:∀ (j:Nat) (v:Value),(unitV12 f)[j]?=some v→W.cell? ⟨g,j,.none⟩=some v):RepI W (okW W) (.ip (unitI12 f)) (.pointer (some ⟨g,0,.none⟩)):=by
 have hb:g < W.heap.size:=block_of_cell (a:=⟨g,0,.none⟩) (h 0 _ rfl)
 refine .ip _ _ (fun j=>((unitV12 f)[j]?).getD undef) rfl hb (fun j c hj=>?_) (fun j c hj=>?_)
 ·have hl:=lt_of_getElem? hj
  have hl':j < (unitV12 f).length:=hl
  have hv:=List.getElem?_eq_getElem hl'
  rw [hv,Option.getD_some]
  simpa using h j _ hv
 ·have hl:=lt_of_getElem? hj
  have hl':j < 12:=hl
  have hfn:RepI W (okW W) (.fn (.func f) []) (.func (.func f) #[] #[]):=RepI.fn (w:=W) (ok:=okW W) (.func f) [] #[] rfl (fun j c v h=>by simp at h)
  rcases j with _|_|_|_|_|_|_|_|_|_|_|_|j<;>first|omega|(simp [unitI12,unitV12,rI] at hj ⊢;subst hj;first|exact hfn|exact .raw _ rfl)
theorem units_G (G:Nat→Option (List IC)) (h:G 0=some (unitI12 225)):unitG G (.raw (.string ⟨⟨[]⟩⟩)) (.raw (.string ⟨⟨[109,109]⟩⟩)) (.raw (.string ⟨⟨[105,110]⟩⟩)):=h
end Go.Proofs
namespace Go.Proofs
open Go Go.Ab
set_option linter.unusedSimpArgs false
variable {G:Nat→Option (List IC)}
attribute [simp] permL reO cutL cutE gones noLoop nilV nilX ZK
def loopv (x:ChLoop):DV:=.agg ((encLoop x).map .im)
end Go.Proofs
namespace Go.Proofs
open Go Go.Ab
def sumZ:List Link→List Int→Int
 | x :: l,n :: s=>sgn x n + sumZ l s
 | _,_=>0
theorem sumTo_cons (x:Link) (l:List Link) (n:Int) (s:List Int):∀ k,sumTo (x :: l) (n :: s) (k + 1)=sgn x n + sumTo l s k
 | 0=>by simp [sumTo,sgn]
 | k + 1=>by
   have ih:=sumTo_cons x l n s k
   rw [sumTo,ih,sumTo]
   simp only [List.getElem?_cons_succ]
   omega
theorem sumTo_all:∀ (l:List Link) (s:List Int),s.length=l.length→sumTo l s l.length=sumZ l s
 | [],s,_=>by simp [sumTo,sumZ]
 | x :: l,[],h=>by simp at h
 | x :: l,n :: s,h=>by
   rw [List.length_cons,sumTo_cons,sumZ,sumTo_all l s (by simpa using h)]
theorem endS_foldz (hi:Bool):∀ (l:List Link) (ds:List Dim) (a:Int),(l.zip ds).foldl (fun s p=>s + sgn p.1 (endN hi p.1 p.2)) a=a + sumZ l (endsL l ds hi)
 | [],ds,a=>by simp [sumZ,endsL]
 | x :: l,[],a=>by simp [sumZ,endsL]
 | x :: l,d :: ds,a=>by
   have ih:=endS_foldz hi l ds (a + sgn x (endN hi x d))
   simp only [List.zip_cons_cons,List.foldl_cons,endsL,List.map_cons,sumZ] at ih ⊢
   rw [ih];omega
theorem endS_sum (l:List Link) (ds:List Dim) (hi:Bool):endS l ds hi=sumZ l (endsL l ds hi):=by
 rw [endS,endS_foldz];omega
theorem endsL_len (l:List Link) (ds:List Dim) (hi:Bool) (h:ds.length=l.length):(endsL l ds hi).length=l.length:=by simp [endsL,h]
theorem sum_between:∀ (l:List Link) (ds:List Dim) (s:List Int),ds.length=l.length→s.length=l.length →
 (∀ (k:Nat) (d:Dim) (n:Int),ds[k]?=some d→s[k]?=some n→d.lower≤n∧n≤d.upper)→endS l ds false≤sumZ l s∧sumZ l s≤endS l ds true
 | [],ds,s,_,_,_=>by simp [endS_sum,sumZ]
 | x :: l,[],s,h,_,_=>by simp at h
 | x :: l,d :: ds,[],_,h,_=>by simp at h
 | x :: l,d :: ds,n :: s,h1,h2,h=>by
   have ih:=sum_between l ds s (by simpa using h1) (by simpa using h2) fun k d n hd hn=>h (k + 1) d n (by simpa using hd) (by simpa using hn)
   have h0:=h 0 d n rfl rfl
   rw [endS_sum,endS_sum] at ih ⊢
   simp only [endsL,List.zip_cons_cons,List.map_cons,sumZ] at ih ⊢
   generalize sumZ l ((l.zip ds).map fun p=>endN false p.1 p.2)=A at *
   generalize sumZ l ((l.zip ds).map fun p=>endN true p.1 p.2)=B at *
   generalize sumZ l s=C at *
   unfold sgn endN
   cases x.back<;>simp<;>omega
theorem ends_in (l:List Link) (ds:List Dim) (hi:Bool) (k:Nat) (d:Dim) (n:Int) (hd:ds[k]?=some d) (hok:d.lower≤d.upper) (hn:(endsL l ds hi)[k]?=some n):d.lower≤n∧n≤d.upper:=by
 simp only [endsL,List.getElem?_map,Option.map_eq_some_iff] at hn
 obtain ⟨⟨x,d'⟩,h1,rfl⟩:=hn
 rw [List.getElem?_zip_eq_some] at h1
 obtain ⟨_,h2⟩:=h1
 simp only at h2
 rw [hd] at h2;cases h2
 simp only [endN]
 split<;>omega
end Go.Proofs
namespace Go.Proofs
open Go.Shelf
def Tryz.laysSpot_ren:Go.Shelf.Ren:=⟨fun|6=>115|15=>150|14=>149|28=>181|29=>182|20=>173|21=>174|22=>175|23=>176|24=>177|25=>178|26=>179|27=>180|46=>197|47=>198|48=>199|49=>200|50=>201|57=>205|n=>n,fun|22=>29|24=>81|25=>129|3=>3|39=>225|0=>0|53=>156|55=>257|4=>4|46=>250|45=>249|50=>158|5=>5|9=>9|66=>267|70=>271|76=>276|77=>275|n=>n,fun|n=>n⟩
theorem Tryz.laysSpot:Go.Proofs.SlLaysF0.n6 Tryz.prog Tryz.laysSpot_ren:={
 mixed:=by kernel_rfl
 f6:=⟨Tryz.f115.name,by decide,Tryz.func115.trans (congrArg some (by kernel_rfl))⟩
 f14:=⟨Tryz.f149.name,by decide,Tryz.func149.trans (congrArg some (by kernel_rfl))⟩
 f15:=Tryz.func150.trans (congrArg some (by kernel_rfl))
 f20:=⟨Tryz.f173.name,by decide,Tryz.func173.trans (congrArg some (by kernel_rfl))⟩
 f21:=⟨Tryz.f174.name,by decide,Tryz.func174.trans (congrArg some (by kernel_rfl))⟩
 f22:=⟨Tryz.f175.name,by decide,Tryz.func175.trans (congrArg some (by kernel_rfl))⟩
 f23:=⟨Tryz.f176.name,by decide,Tryz.func176.trans (congrArg some (by kernel_rfl))⟩
 f24:=⟨Tryz.f177.name,by decide,Tryz.func177.trans (congrArg some (by kernel_rfl))⟩
 f25:=⟨Tryz.f178.name,by decide,Tryz.func178.trans (congrArg some (by kernel_rfl))⟩
 f26:=⟨Tryz.f179.name,by decide,Tryz.func179.trans (congrArg some (by kernel_rfl))⟩
 f27:=⟨Tryz.f180.name,by decide,Tryz.func180.trans (congrArg some (by kernel_rfl))⟩
 f28:=Tryz.func181.trans (congrArg some (by kernel_rfl))
 f29:=Tryz.func182.trans (congrArg some (by kernel_rfl))
 f46:=⟨Tryz.f197.name,by decide,Tryz.func197.trans (congrArg some (by kernel_rfl))⟩
 f47:=Tryz.func198.trans (congrArg some (by kernel_rfl))
 f48:=Tryz.func199.trans (congrArg some (by kernel_rfl))
 f49:=⟨Tryz.f200.name,by decide,Tryz.func200.trans (congrArg some (by kernel_rfl))⟩
 f50:=⟨Tryz.f201.name,by decide,Tryz.func201.trans (congrArg some (by kernel_rfl))⟩
 f57:=⟨Tryz.f205.name,by decide,Tryz.func205.trans (congrArg some (by kernel_rfl))⟩
 t0:=Tryz.underlying0
 a0:=Tryz.isAgg0
 z0:=Tryz.sizeOf0
 v0:=Tryz.zeroValue0
 t3:=Tryz.underlying3
 a3:=Tryz.isAgg3
 z3:=Tryz.sizeOf3
 v3:=Tryz.zeroValue3
 t4:=Tryz.underlying4
 a4:=Tryz.isAgg4
 z4:=Tryz.sizeOf4
 v4:=Tryz.zeroValue4
 t5:=Tryz.underlying5
 a5:=Tryz.isAgg5
 z5:=Tryz.sizeOf5
 v5:=Tryz.zeroValue5
 t9:=Tryz.underlying9
 a9:=Tryz.isAgg9
 z9:=Tryz.sizeOf9
 v9:=Tryz.zeroValue9
 t22:=Tryz.underlying29
 a22:=Tryz.isAgg29
 z22:=Tryz.sizeOf29
 v22:=Tryz.zeroValue29
 t25:=Tryz.underlying129
 a25:=Tryz.isAgg129
 z25:=Tryz.sizeOf129
 v25:=Tryz.zeroValue129
 t39:=Tryz.underlying225
 a39:=Tryz.isAgg225
 z39:=Tryz.sizeOf225
 v39:=Tryz.zeroValue225
 t45:=Tryz.underlying249
 a45:=Tryz.isAgg249
 z45:=Tryz.sizeOf249
 v45:=Tryz.zeroValue249
 t46:=Tryz.underlying250
 a46:=Tryz.isAgg250
 z46:=Tryz.sizeOf250
 v46:=Tryz.zeroValue250
 t50:=Tryz.underlying158
 a50:=Tryz.isAgg158
 z50:=Tryz.sizeOf158
 v50:=Tryz.zeroValue158
 t53:=Tryz.underlying156
 a53:=Tryz.isAgg156
 z53:=Tryz.sizeOf156
 v53:=Tryz.zeroValue156
 t55:=Tryz.underlying257
 a55:=Tryz.isAgg257
 z55:=Tryz.sizeOf257
 v55:=Tryz.zeroValue257
 t66:=Tryz.underlying267
 a66:=Tryz.isAgg267
 z66:=Tryz.sizeOf267
 v66:=Tryz.zeroValue267
 t70:=Tryz.underlying271
 a70:=Tryz.isAgg271
 z70:=Tryz.sizeOf271
 v70:=Tryz.zeroValue271
 t76:=Tryz.underlying276
 a76:=Tryz.isAgg276
 z76:=Tryz.sizeOf276
 v76:=Tryz.zeroValue276
 t77:=Tryz.underlying275
 a77:=Tryz.isAgg275
 z77:=Tryz.sizeOf275
 v77:=Tryz.zeroValue275 }
def Tryz.laysIss_ren:Go.Shelf.Ren:=⟨fun|6=>124|15=>150|14=>159|28=>181|29=>182|20=>183|21=>184|22=>185|23=>186|24=>187|25=>188|26=>189|27=>190|46=>202|47=>198|48=>199|49=>203|50=>204|57=>206|n=>n,fun|22=>22|24=>51|25=>200|3=>3|39=>225|0=>0|53=>156|55=>257|4=>4|46=>250|45=>249|50=>158|5=>5|9=>9|66=>267|70=>271|76=>276|77=>275|n=>n,fun|n=>n⟩
theorem Tryz.laysIss:Go.Proofs.SlLaysF0.n6 Tryz.prog Tryz.laysIss_ren:={
 mixed:=by kernel_rfl
 f6:=⟨Tryz.f124.name,by decide,Tryz.func124.trans (congrArg some (by kernel_rfl))⟩
 f14:=⟨Tryz.f159.name,by decide,Tryz.func159.trans (congrArg some (by kernel_rfl))⟩
 f15:=Tryz.func150.trans (congrArg some (by kernel_rfl))
 f20:=⟨Tryz.f183.name,by decide,Tryz.func183.trans (congrArg some (by kernel_rfl))⟩
 f21:=⟨Tryz.f184.name,by decide,Tryz.func184.trans (congrArg some (by kernel_rfl))⟩
 f22:=⟨Tryz.f185.name,by decide,Tryz.func185.trans (congrArg some (by kernel_rfl))⟩
 f23:=⟨Tryz.f186.name,by decide,Tryz.func186.trans (congrArg some (by kernel_rfl))⟩
 f24:=⟨Tryz.f187.name,by decide,Tryz.func187.trans (congrArg some (by kernel_rfl))⟩
 f25:=⟨Tryz.f188.name,by decide,Tryz.func188.trans (congrArg some (by kernel_rfl))⟩
 f26:=⟨Tryz.f189.name,by decide,Tryz.func189.trans (congrArg some (by kernel_rfl))⟩
 f27:=⟨Tryz.f190.name,by decide,Tryz.func190.trans (congrArg some (by kernel_rfl))⟩
 f28:=Tryz.func181.trans (congrArg some (by kernel_rfl))
 f29:=Tryz.func182.trans (congrArg some (by kernel_rfl))
 f46:=⟨Tryz.f202.name,by decide,Tryz.func202.trans (congrArg some (by kernel_rfl))⟩
 f47:=Tryz.func198.trans (congrArg some (by kernel_rfl))
 f48:=Tryz.func199.trans (congrArg some (by kernel_rfl))
 f49:=⟨Tryz.f203.name,by decide,Tryz.func203.trans (congrArg some (by kernel_rfl))⟩
 f50:=⟨Tryz.f204.name,by decide,Tryz.func204.trans (congrArg some (by kernel_rfl))⟩
 f57:=⟨Tryz.f206.name,by decide,Tryz.func206.trans (congrArg some (by kernel_rfl))⟩
 t0:=Tryz.underlying0
 a0:=Tryz.isAgg0
 z0:=Tryz.sizeOf0
 v0:=Tryz.zeroValue0
 t3:=Tryz.underlying3
 a3:=Tryz.isAgg3
 z3:=Tryz.sizeOf3
 v3:=Tryz.zeroValue3
 t4:=Tryz.underlying4
 a4:=Tryz.isAgg4
 z4:=Tryz.sizeOf4
 v4:=Tryz.zeroValue4
 t5:=Tryz.underlying5
 a5:=Tryz.isAgg5
 z5:=Tryz.sizeOf5
 v5:=Tryz.zeroValue5
 t9:=Tryz.underlying9
 a9:=Tryz.isAgg9
 z9:=Tryz.sizeOf9
 v9:=Tryz.zeroValue9
 t22:=Tryz.underlying22
 a22:=Tryz.isAgg22
 z22:=Tryz.sizeOf22
 v22:=Tryz.zeroValue22
 t25:=Tryz.underlying200
 a25:=Tryz.isAgg200
 z25:=Tryz.sizeOf200
 v25:=Tryz.zeroValue200
 t39:=Tryz.underlying225
 a39:=Tryz.isAgg225
 z39:=Tryz.sizeOf225
 v39:=Tryz.zeroValue225
 t45:=Tryz.underlying249
 a45:=Tryz.isAgg249
 z45:=Tryz.sizeOf249
 v45:=Tryz.zeroValue249
 t46:=Tryz.underlying250
 a46:=Tryz.isAgg250
 z46:=Tryz.sizeOf250
 v46:=Tryz.zeroValue250
 t50:=Tryz.underlying158
 a50:=Tryz.isAgg158
 z50:=Tryz.sizeOf158
 v50:=Tryz.zeroValue158
 t53:=Tryz.underlying156
 a53:=Tryz.isAgg156
 z53:=Tryz.sizeOf156
 v53:=Tryz.zeroValue156
 t55:=Tryz.underlying257
 a55:=Tryz.isAgg257
 z55:=Tryz.sizeOf257
 v55:=Tryz.zeroValue257
 t66:=Tryz.underlying267
 a66:=Tryz.isAgg267
 z66:=Tryz.sizeOf267
 v66:=Tryz.zeroValue267
 t70:=Tryz.underlying271
 a70:=Tryz.isAgg271
 z70:=Tryz.sizeOf271
 v70:=Tryz.zeroValue271
 t76:=Tryz.underlying276
 a76:=Tryz.isAgg276
 z76:=Tryz.sizeOf276
 v76:=Tryz.zeroValue276
 t77:=Tryz.underlying275
 a77:=Tryz.isAgg275
 z77:=Tryz.sizeOf275
 v77:=Tryz.zeroValue275 }
end Go.Proofs
namespace Go.Proofs
open Go Go.Ab Go.Sort
theorem swoS:SWO (fun x y:Spot=>decide (ordS x y < 0)) where
 irrefl x:=by
  rw [decide_eq_false_iff_not,ordS_lt,before_irrefl];simp
 trans x y z h1 h2:=by
  rw [decide_eq_true_iff,ordS_lt] at *
  exact before_trans h1 h2
 ntrans x y z h1 h2:=by
  rw [decide_eq_false_iff_not,ordS_lt,before_iff] at *
  omega
theorem sortFOk (G:Nat→Option (List IC)):SortFOk G:=fun l gn sz nl hz hl =>
 DCall.sortF (P:=Tryz.prog) (G:=G) (f:=115) (g:=67) encSpot 2 (by decide) (fun _=>rfl) ordS swoS (fun x y=>by have h:=order_c (G:=fun _=>none) x y [];simpa [wk_raw] using h)
  (fun α _ en hk h1 c hO blk cap d w hcmp hH hb hs=>AnyQ.slices_SortFunc Tryz.laysSpot 2 Tryz.isAgg81 Tryz.sizeOf81 en hk h1 c hO 67 #[] blk 0 cap d w (by simp) hcmp hH hb hs)
  (fun a cap w=>AnyF.slices_SortFunc_none Tryz.laysSpot a cap _ w) (.im (.fn (.func 67) []))
  (fun M v hv=>by
   cases hv with
   | im _ _ h=>cases h with
     | fn _ _ vs h1 _ =>
       have:vs=#[]:=Array.eq_empty_of_size_eq_zero (by simpa using h1.symm)
       rw [this]) l gn sz nl hz hl
theorem swoG:SWO (fun x y:TIss=>decide (cmpG x.1 y.1 < 0)) where
 irrefl x:=by
  rw [decide_eq_false_iff_not,cmpG_lt];omega
 trans x y z h1 h2:=by
  rw [decide_eq_true_iff,cmpG_lt] at *
  omega
 ntrans x y z h1 h2:=by
  rw [decide_eq_false_iff_not,cmpG_lt] at *
  omega
theorem sortGOk (G:Nat→Option (List IC)):SortGOk G:=fun l gn sz nl hz hl =>
 DCall.sortF (P:=Tryz.prog) (G:=G) (f:=124) (g:=125) encT 5 (by decide) (fun _=>rfl) (fun a b=>cmpG a.1 b.1) swoG (fun x y=>by have h:=cmpG_c (G:=fun _=>none) x.1 y.1 x.2 y.2;exact h)
  (fun α _ en hk h1 c hO blk cap d w hcmp hH hb hs=>AnyQ.slices_SortFunc Tryz.laysIss 5 Tryz.isAgg51 Tryz.sizeOf51 en hk h1 c hO 125 #[] blk 0 cap d w (by simp) hcmp hH hb hs)
  (fun a cap w=>AnyF.slices_SortFunc_none Tryz.laysIss a cap _ w) (.im (.fn (.func 125) []))
  (fun M v hv=>by
   cases hv with
   | im _ _ h=>cases h with
     | fn _ _ vs h1 _ =>
       have:vs=#[]:=Array.eq_empty_of_size_eq_zero (by simpa using h1.symm)
       rw [this]) l gn sz nl hz hl
end Go.Proofs
