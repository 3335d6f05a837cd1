/- Part 18 of the proofs: laws and walks that hold without conditions beyond those that each theorem names. -/
import Derived.Test.YtciiddejfhbncaaGreatDoorP11
import Derived.Test.YtciiddejfhbncaaGreatDoorP15
import Derived.Test.YtciiddejfhbncaaGreatDoorP16
import Derived.Test.YtciiddejfhbncaaGreatDoorP17
set_option linter.all false
set_option linter.deprecated false
namespace Go.Ab
open Go
@[simp] theorem ims_set (L:List Int) (k:Nat) (v:Int):(ims (L.map encI)).set k [DC.im (.raw (.int .i64 v))]=ims ((L.set k v).map encI):=by
 simp only [ims,List.map_set,encI,rI,List.map_cons,List.map_nil]
@[simp] theorem ims_geti (L:List Int) (k:Nat):(ims (L.map encI))[k]?=(L[k]?).map fun v=>[DC.im (.raw (.int .i64 v))]:=by
 simp only [ims,List.getElem?_map,Option.map_map];rfl
@[simp] theorem ims_getl (L:List Int) (k:Nat) (h:k < (ims (L.map encI)).length):(ims (L.map encI))[k]=[DC.im (.raw (.int .i64 (L[k]'(by simpa [ims_length] using h))))]:=by
 simp [ims]
@[simp] theorem rep_ims (n:Nat) (c:IC):List.replicate n [DC.im c]=ims (List.replicate n [c]):=by simp [ims]
theorem map_rep {α β:Type} {f:α→β} {c:β} (h:∀ x,f x=c):∀ l:List α,l.map f=List.replicate l.length c
 | []=>rfl
 | x :: l=>by simp [map_rep h l,h x,List.replicate_succ]
@[simp] theorem take_ims_rep (n:Nat) (c:List IC):(ims (List.replicate n c)).take n=ims (List.replicate n c):=List.take_of_length_le (by simp [ims_length])
theorem map_set_at {α β:Type} {f:α→β} {l:List α} {k:Nat} {x:α} {v:β} (hn:l.Nodup) (hk:l[k]?=some x):(l.map f).set k v=l.map (fun y=>open Classical in if y=x then v else f y):=by
 refine List.ext_getElem? fun j=>?_
 obtain ⟨hlt,he⟩:=List.getElem?_eq_some_iff.1 hk
 by_cases hj:j=k
 ·subst hj
  rw [List.getElem?_set_self (by simpa using hlt),List.getElem?_map,hk];simp
 ·rw [List.getElem?_set_ne (Ne.symm hj),List.getElem?_map,List.getElem?_map]
  cases hy:l[j]? with
  | none=>rfl
  | some y =>
    have:y≠x:=fun e=>hj ((List.getElem?_inj (List.getElem?_eq_some_iff.1 hy).1 hn).1 (by rw [hy,hk,e]))
    simp [this]
end Go.Ab
namespace Go.Proofs
open Go Go.Ab
set_option linter.unusedSimpArgs false
variable {G:Nat→Option (List IC)}
def Rp (l:List Issue) (r:Nat) (pre:List Issue) (n:Int):Int:=if pre.any (fun x=>decide (x.drawing=n)) then 1 + mx (Rr l r) (chI pre n) else 0
def Rq (l:List Issue) (r:Nat) (v:Int) (ys:List Itm):Int:=max (max v 1) (1 + mx (Rr l r) (ys.map (·.drawing)))
theorem mx_append (f:Int→Int) (a b:List Int):mx f (a ++ b)=max (mx f a) (mx f b):=by
 rw [mx,List.foldl_append]
 exact mx_foldl f b _ (mx_nonneg f a)
theorem Rq_nil (l:List Issue) (r:Nat) (v:Int):Rq l r v []=max v 1:=by
 have:mx (Rr l r) []=0:=rfl
 simp only [Rq,List.map_nil,this];omega
theorem Rq_snoc (l:List Issue) (r:Nat) (v:Int) (ys:List Itm) (y:Itm):Rq l r v (ys ++ [y])=max (Rq l r v ys) (1 + Rr l r y.drawing):=by
 have h:=Rr_nonneg l r y.drawing
 have:mx (Rr l r) [y.drawing]=Rr l r y.drawing:=by simp only [mx,List.foldl_cons,List.foldl_nil];omega
 simp only [Rq,List.map_append,List.map_cons,List.map_nil,mx_append,this];omega
theorem Rp_snoc (l:List Issue) (r:Nat) (pre:List Issue) (x:Issue) (n:Int):Rp l r (pre ++ [x]) n=if n=x.drawing then Rq l r (Rp l r pre n) x.items else Rp l r pre n:=by
 by_cases hn:n=x.drawing
 ·subst hn
  rw [if_pos rfl]
  have hc:chI (pre ++ [x]) x.drawing=chI pre x.drawing ++ x.items.map (·.drawing):=by simp [chI,segI]
  have h1:=mx_nonneg (Rr l r) (chI pre x.drawing)
  have h2:=mx_nonneg (Rr l r) (x.items.map (·.drawing))
  unfold Rp
  rw [if_pos (by simp),hc,mx_append]
  unfold Rq
  split
  ·omega
  ·rename_i hp
   have:chI pre x.drawing=[]:=by
    simp only [chI,segI]
    rw [List.filter_eq_nil_iff.2 fun y hy=>?_]
    ·rfl
    ·intro he;exact hp (List.any_eq_true.2 ⟨y,hy,he⟩)
   have h3:mx (Rr l r) []=0:=rfl
   rw [this,h3];omega
 ·rw [if_neg hn]
  have hc:chI (pre ++ [x]) n=chI pre n:=by simp [chI,segI,Ne.symm hn]
  unfold Rp
  rw [hc]
  simp [Ne.symm hn]
theorem Rp_full {l:List Issue} {n:Int} (r:Nat) (h:∃ x∈l,x.drawing=n):Rp l r l n=Rr l (r + 1) n:=by
 unfold Rp
 obtain ⟨x,hx,he⟩:=h
 rw [if_pos (List.any_eq_true.2 ⟨x,hx,by simpa using he⟩)];rfl
theorem issueOk_small {x:Issue} (h:issueOk x=true):x.items.length≤8∧x.dims.length≤4:=by
 simp only [issueOk,Bool.and_assoc] at h
 rw [← Bool.and_assoc,Bool.and_eq_true] at h
 have:=(ck12_iff x).1 h.1;omega
theorem nums_mem {l:List Issue} {n:Int} (h:n∈nums l):∃ x∈l,x.drawing=n:=by
 have gen:∀ k,n∈numsTo l k→∃ x∈l,x.drawing=n:=by
  intro k
  induction k with
  | zero=>intro h;cases h
  | succ k ih =>
    intro h
    simp only [numsTo] at h
    rcases List.mem_append.1 h with h|h
    ·exact ih h
    ·split at h
     ·rename_i x hx
      split at h
      ·rw [List.mem_singleton] at h
       exact ⟨x,List.mem_of_getElem? hx,h.symm⟩
      ·cases h
     ·cases h
 exact gen _ h
theorem listed_scan' {l:List Issue} (h:listedI l=true):scanI none l=some (nums l):=by
 simp only [listedI,Bool.and_eq_true] at h
 obtain ⟨ds,hds⟩:=Option.isSome_iff_exists.1 h.1.1.2
 rw [hds,scan_nums hds]
theorem idx_at {l:List Int} (hn:l.Nodup) {k:Nat} {x:Int} (h:l[k]?=some x):idx l x=k:=by
 refine idx_yes h fun j hj he=>?_
 have h1:=(List.getElem?_eq_some_iff.1 h).1
 rw [← he] at h
 have:=(List.getElem?_inj h1 hn).1 h
 omega
set_option maxHeartbeats 2000000 in
theorem rdepths_c (l:List Issue) (hl:listedI l=true) (objs:List DObj):DCall Tryz.prog G 161 [regv l] objs (fun rr objs'=>rr=isv (depthsL l)∧objs'=objs):=by
 refine DCall.frame ?_ (by simp) (by simp) objs
 refine DCall_intro Tryz.func161 rfl Tryz.ntmps161 (by simp) rfl ?_
 try simp only [regv]
 have hli:=hl
 simp only [listedI,Bool.and_eq_true,decide_eq_true_eq,List.all_eq_true] at hli
 obtain ⟨⟨⟨⟨hl1,hl60⟩,hsc⟩,hitems⟩,hn20⟩:=hli
 have c1:=numbers_c (G:=G) l (by omega)
 have hD:depthsL l=(nums l).map (Rr l ((nums l).length + 1)):=rfl
 obtain ⟨_,hlt',hmem,hok,_⟩:=scan_all (listed_scan' hl)
 have hnd:(nums l).Nodup:=hlt'.imp fun h=>Int.ne_of_lt h
 generalize hns:nums l=ns at *
 have hs:True:=trivial
 repeat' first|(with_reducible first|refine q01 ?_|refine q11 ?_|refine q12 ?_|refine And.intro (by omega) ?_)|(refine CallE.pure (c1) ?_;try simp -dsimp [hs])|(with_reducible refine DT_regionE [0,1,2,3,4,5,6,7,8,9,10,19,29,53] ?_;simp -dsimp [hs])
 all_goals try simp -dsimp [hs]
 all_goals try clear hs
 refine DT_loop (ι:={ r:Nat // r≤ns.length + 1 }) (fun p=>⟨78,[(1,.one (.ptr 0 0)),(3,isv ns),(4,isv (ns.map (Rr l p.1))),(5,iv (p.1:Int))],[.row [.im (.sl (l.map encIssue))]]⟩) (fun p=>ns.length + 1 - p.1) ⟨0,by omega⟩ (Weak.of_drop [1,3,4,5] 1 (by simp) (by simp) (by simp [map_rep (f:=encI ∘ Rr l 0) (c:=[rI 0]) (fun _=>rfl)])) ?_
 rintro ⟨r,hr⟩
 simp only [iv,isv]
 by_cases hrl:r≤ns.length
 ·have hw:IntKind.i64.wrap ((r:Int) + 1)=((r + 1:Nat):Int):=i64w (by omega) (by omega)
  have hs:True:=trivial
  repeat' first|(with_reducible first|refine q01 ?_|refine q11 ?_|refine q12 ?_|refine q14 ?_|refine And.intro (by omega) ?_)|(with_reducible refine DT_regionE [0,1,2,3,4,5,6,7,8,9,10,19,29,53] ?_;simp -dsimp [hrl,hs])|(refine DT_cond rfl (fun h=>?_) (fun h=>?_)<;>(try simp only [nrm] at h)<;>(try exact Bool.noConfusion h))
  all_goals try simp -dsimp [hrl,hs]
  all_goals try clear hs
  refine DT_loop (ι:={ p:Nat×List Int // p.1≤l.length∧p.2=ns.map (Rp l r (l.take p.1)) }) (fun p=>⟨78,[(1,.one (.ptr 0 0)),(3,isv ns),(4,isv (ns.map (Rr l r))),(5,iv (r:Int)),(6,.one (.vec 1 0 0 ns.length)),(7,iv (p.1.1:Int))],[.row [.im (.sl (l.map encIssue))],.vec 1 (ims (p.1.2.map encI)) 0 false]⟩) (fun p=>l.length - p.1.1) ⟨(0,List.replicate ns.length 0),by omega,(map_rep (fun _=>rfl) ns).symm⟩ (Weak.of_keep [1,3,4,5,6,7] (by simp)) ?_
  rintro ⟨⟨i,L⟩,hi,hL⟩
  simp only at hi hL
  simp only [iv,isv]
  by_cases hlt:i < l.length
  ·have hx:l[i]?=some l[i]:=by simp [hlt]
   have hw1:IntKind.i64.wrap ((i:Int) + 1)=((i + 1:Nat):Int):=i64w (by omega) (by omega)
   obtain ⟨k,hk⟩:=List.mem_iff_getElem?.1 (hmem l[i] (List.getElem_mem hlt))
   have hkl:=lt_of_getElem? hk
   have hidx:=idx_at hnd hk
   have c2:=index_c (G:=G) ns l[i].drawing (by omega)
   rw [hidx] at c2
   have hLk:L[k]?=some (Rp l r (l.take i) l[i].drawing):=by rw [hL,List.getElem?_map,hk];rfl
   generalize hv:Rp l r (l.take i) l[i].drawing=v at hLk
   have hit:=hitems l[i] (List.getElem_mem hlt)
   have hsm:=(issueOk_small (hok l[i] (List.getElem_mem hlt))).1
   have hs:True:=trivial
   repeat' first|(with_reducible first|refine q01 ?_|refine q11 ?_|refine q12 ?_|refine q14 ?_)|(refine CallE.pure (c2) ?_;try simp -dsimp [hx,hw1,hlt,hkl,hLk,hs])|(with_reducible refine DT_regionE [0,1,2,3,4,5,6,7,8,9,10,19,29,53] ?_;simp -dsimp [hx,hw1,hlt,hkl,hLk,hs])|(refine DT_cond rfl (fun h=>?_) (fun h=>?_)<;>(try simp only [nrm] at h)<;>(try exact Bool.noConfusion h))
   all_goals try simp -dsimp [hx,hw1,hlt,hkl,hLk,hs]
   all_goals try clear hs
   refine DT_loop (ι:={ p:Nat×List Int // p.1≤l[i].items.length∧p.2=L.set k (Rq l r v (l[i].items.take p.1)) }) (fun p=>⟨78,[(1,.one (.ptr 0 0)),(3,isv ns),(4,isv (ns.map (Rr l r))),(5,iv (r:Int)),(6,.one (.vec 1 0 0 ns.length)),(7,iv (i:Int)),(8,.one (.ptr 4 0)),(9,iv (k:Int)),(10,iv (p.1.1:Int))],[.row [.im (.sl (l.map encIssue))],.vec 1 (ims (p.1.2.map encI)) 0 false,.vec 0 [] 0 true,.vec 0 [] 0 true,.row ((encIssue l[i]).map .im)]⟩) (fun p=>l[i].items.length - p.1.1) ⟨(0,L.set k (max v 1)),by omega,by simp only [List.take_zero,Rq_nil]⟩ (Weak.of_keep [1,3,4,5,6,7,8,9,10] (by simp)) ?_
   rintro ⟨⟨u,L'⟩,hu,hL'⟩
   simp only at hu hL'
   simp only [iv,isv,encIssue,rI,List.map_cons,List.map_nil]
   have hkL:k < L.length:=lt_of_getElem? hLk
   by_cases hlu:u < l[i].items.length
   ·have hy:l[i].items[u]?=some l[i].items[u]:=by simp [hlu]
    have hw2:IntKind.i64.wrap ((u:Int) + 1)=((u + 1:Nat):Int):=i64w (by omega) (by omega)
    obtain ⟨m,hm⟩:=List.mem_iff_getElem?.1 (hit l[i].items[u] (List.getElem_mem hlu))
    have hml:=lt_of_getElem? hm
    have hmn:ns[m]=l[i].items[u].drawing:=(List.getElem?_eq_some_iff.1 hm).2
    have hidx2:=idx_at hnd hm
    have c3:=index_c (G:=G) ns l[i].items[u].drawing (by omega)
    rw [hidx2] at c3
    have hLk':L'[k]?=some (Rq l r v (l[i].items.take u)):=by rw [hL',List.getElem?_set_self hkL]
    have hb1:=Rr_nonneg l r l[i].items[u].drawing
    have hb2:=Rr_le l r l[i].items[u].drawing
    have hw3:IntKind.i64.wrap (1 + Rr l r l[i].items[u].drawing)=1 + Rr l r l[i].items[u].drawing:=i64w (by omega) (by omega)
    have hnext:L'.set k (max (Rq l r v (l[i].items.take u)) (1 + Rr l r l[i].items[u].drawing))=L.set k (Rq l r v (l[i].items.take (u + 1))):=by
     rw [List.take_succ_eq_append_getElem hlu,Rq_snoc,hL',List.set_set]
    have hs:True:=trivial
    repeat' first|(with_reducible first|refine q01 ?_|refine q04 ?_|refine q11 ?_|refine q12 ?_|refine q14 ?_)|(refine QCall_pure (c3) ?_;try simp -dsimp [hy,hw2,hlu,hkl,hLk',hm,hml,hmn,hw3,hs])|(refine DT_regionM (id:=16) (nt:=78) 20 [0,1,2,3,4,5,6,7,8,9,10,19,29,53] mixed rfl (by kernel_rfl) ?_;simp -dsimp [hy,hw2,hlu,hkl,hLk',hm,hml,hmn,hw3,hs])|(with_reducible refine DT_regionE [0,1,2,3,4,5,6,7,8,9,10,19,29,53] ?_;simp -dsimp [hy,hw2,hlu,hkl,hLk',hm,hml,hmn,hw3,hs])|(refine DT_cond rfl (fun h=>?_) (fun h=>?_)<;>(try simp only [nrm] at h)<;>(try exact Bool.noConfusion h))
    all_goals try simp -dsimp [hy,hw2,hlu,hkl,hLk',hm,hml,hmn,hw3,hs]
    all_goals try clear hs
    exact At.round ⟨(u + 1,L'.set k (max (Rq l r v (l[i].items.take u)) (1 + Rr l r l[i].items[u].drawing))),by omega,hnext⟩ (by simp;omega) (Weak.of_keep [1,3,4,5,6,7,8,9,10] (by simp))
   ·have hend:L'=ns.map (Rp l r (l.take (i + 1))):=by
     rw [hL',List.take_of_length_le (by omega),hL,map_set_at hnd hk]
     refine List.map_congr_left fun n _=>?_
     rw [List.take_succ_eq_append_getElem hlt,Rp_snoc]
     split
     ·rename_i e;rw [e,hv]
     ·rfl
    have hs:True:=trivial
    repeat' first|(with_reducible first|refine q01 ?_|refine q03 ?_|refine q04 ?_|refine q06 ?_|refine q11 ?_|refine q16 ?_)|(with_reducible refine DT_regionE [0,1,2,3,4,5,6,7,8,9,10,19,29,53] ?_;simp -dsimp [hlu,hw1,hs])|(refine DT_cond rfl (fun h=>?_) (fun h=>?_)<;>(try simp only [nrm] at h)<;>(try exact Bool.noConfusion h))
    all_goals try simp -dsimp [hlu,hw1,hs]
    all_goals try clear hs
    exact At.round ⟨(i + 1,L'),by omega,hend⟩ (by simp;omega) (Weak.of_drop [1,3,4,5,6,7] 2 (by simp) (by simp) (by simp))
  ·have hend:L=ns.map (Rr l (r + 1)):=by
    rw [hL,List.take_of_length_le (by omega)]
    refine List.map_congr_left fun n hn=>Rp_full r ?_
    rw [← hns] at hn
    exact nums_mem hn
   have hLn:L.length=ns.length:=by rw [hL,List.length_map]
   have hs:True:=trivial
   repeat' first|(with_reducible first|refine q01 ?_|refine q03 ?_|refine q04 ?_|refine q06 ?_|refine q11 ?_|refine q16 ?_)|(with_reducible refine DT_regionE [0,1,2,3,4,5,6,7,8,9,10,19,29,53] ?_;simp -dsimp [hlt,hw,hs])|(refine DT_cond rfl (fun h=>?_) (fun h=>?_)<;>(try simp only [nrm] at h)<;>(try exact Bool.noConfusion h))
   all_goals try simp -dsimp [hlt,hw,hs]
   all_goals try clear hs
   exact At.round ⟨r + 1,by omega⟩ (by simp;omega) (Weak.of_drop [1,3,4,5] 1 (by simp) (by simp) (by simp [← hLn];rw [hend];simp))
 ·have hs:True:=trivial
  repeat' first|(with_reducible first|refine q01 ?_|refine q03 ?_|refine q06 ?_|refine q11 ?_|refine q16 ?_|refine q17 ?_)|(with_reducible refine At.fn_ret (by simp -dsimp [hrl,hs];exact rfl) ?_)|(with_reducible refine DT_regionE [0,1,2,3,4,5,6,7,8,9,10,19,29,53] ?_;simp -dsimp [hrl,hs])|(refine DT_cond rfl (fun h=>?_) (fun h=>?_)<;>(try simp only [nrm] at h)<;>(try exact Bool.noConfusion h))
  all_goals try simp -dsimp [hrl,hs]
  all_goals try clear hs
  have hr1:r=ns.length + 1:=by omega
  rw [hD,hr1];simp
end Go.Proofs
namespace Go.Proofs
open Go Go.Ab
set_option linter.unusedSimpArgs false
variable {G:Nat→Option (List IC)}
theorem scan_iff0 (x:Issue) (r:List Issue):(scanI none (x :: r)).isSome=true↔(issueOk x=true∧x.letter=1)∧(scanI (some x) r).isSome=true:=by
 simp only [scanI]
 by_cases h1:issueOk x=false
 ·simp [h1]
 ·by_cases h2:x.letter=1
  ·simp [h1,h2]
  ·simp [h1,h2]
theorem scan_iff1 (y x:Issue) (r:List Issue):(scanI (some y) (x :: r)).isSome=true↔(issueOk x=true∧(y.drawing=x.drawing∧y.letter + 1=x.letter∧y.kind=x.kind∨y.drawing < x.drawing∧x.letter=1))∧(scanI (some x) r).isSome=true:=by
 simp only [scanI]
 by_cases h1:issueOk x=false
 ·simp [h1]
 ·have h1':issueOk x=true:=by simpa using h1
  by_cases hd:y.drawing=x.drawing
  ·have hlt:¬ x.drawing < x.drawing:=by omega
   by_cases h2:y.letter + 1=x.letter<;>by_cases h3:y.kind=x.kind<;>simp [h1',hd,h2,h3]
  ·by_cases hg:y.drawing > x.drawing
   ·have:¬ y.drawing < x.drawing:=by omega
    simp [h1',hd,hg,this]
   ·have:y.drawing < x.drawing:=by omega
    by_cases h2:x.letter=1<;>simp [h1',hd,hg,h2,this]
theorem idx_neg {l:List Int} {x:Int} (h:x∉l):idx l x=-1:=idx_no fun j _ he=>h (List.mem_of_getElem? he)
theorem idx_nonneg {l:List Int} {x:Int} (h:x∈l):0≤idx l x:=by
 unfold idx
 cases hh:l.idxOf? x with
 | none =>
   rw [List.idxOf?,List.findIdx?_eq_none_iff] at hh
   have:=hh x h;simp at this
 | some i=>simp
theorem idx_mem (l:List Int) (x:Int):idx l x < 0↔x∉l:=by
 constructor
 ·intro h hm;have:=idx_nonneg hm;omega
 ·intro h;rw [idx_neg h];omega
theorem listed_false1 {l:List Issue} (h:(scanI none l).isSome=false):listedI l=false:=by simp [listedI,h]
set_option maxHeartbeats 2000000 in
theorem listed_c (l:List Issue) (hs:SmallR l) (objs:List DObj):DCall Tryz.prog G 160 [regv l] objs (fun rr objs'=>rr=bv (listedI l)∧objs'=objs):=by
 refine DCall.frame ?_ (by simp) (by simp) objs
 refine DCall_intro Tryz.func160 rfl Tryz.ntmps160 (by simp) rfl ?_
 try simp only [regv]
 have hl80:=hs.1
 by_cases hrange:1≤l.length∧l.length≤60
 ·have d1:decide ((1:Int)≤(l.length:Int))=true:=by simp;omega
  have d2:decide ((l.length:Int)≤60)=true:=by simp;omega
  have c0:=within_c (G:=G) (l.length:Int) 1 60
  rw [d1,d2] at c0
  have hs:True:=trivial
  repeat' first|(with_reducible first|refine q01 ?_|refine q11 ?_|refine q12 ?_|refine q14 ?_)|(refine CallE.pure (c0) ?_;try simp -dsimp [hs])|(with_reducible refine DT_regionE [0,1,2,3,4,5,6,7,8,13,18,28,31,38,44,52,53,73,84,99] ?_;simp -dsimp [hs])|(refine DT_cond rfl (fun h=>?_) (fun h=>?_)<;>(try simp only [nrm] at h)<;>(try exact Bool.noConfusion h))
  all_goals try simp -dsimp [hs]
  all_goals try clear hs
  refine DT_loop (ι:={ i:Nat // i≤l.length∧(scanI none l).isSome=(scanI (prevI l i) (l.drop i)).isSome∧∀ x∈l.take i,issueOk x=true }) (fun p=>⟨103,[(1,.one (.ptr 0 0)),(2,bv false),(3,iv (p.1:Int))],[.row [.im (.sl (l.map encIssue))]]⟩) (fun p=>l.length - p.1) ⟨0,by simp [prevI]⟩ (Weak.of_keep [1,2,3] (by simp)) ?_
  rintro ⟨i,hi,hscan,hok⟩
  simp only [iv]
  by_cases hlt:i < l.length
  ·have hx:l[i]?=some l[i]:=by simp [hlt]
   have hw:IntKind.i64.wrap ((i:Int) + 1)=((i + 1:Nat):Int):=i64w (by omega) (by omega)
   have hsm:=hs.2 l[i] (List.getElem_mem hlt)
   have c1:=issue_c (G:=G) l[i] ⟨hsm.1,hsm.2.1⟩ (by omega) (by omega)
   rw [List.drop_eq_getElem_cons hlt] at hscan
   have hnext:prevI l (i + 1)=some l[i]:=by simp [prevI]
   cases hq:issueOk l[i]
   ·rw [hq] at c1
    have hf:listedI l=false:=listed_false1 (by
     rw [hscan]
     cases prevI l i with
     | none=>exact false_step (scan_iff0 l[i] _) (by simp [hq])
     | some y=>exact false_step (scan_iff1 y l[i] _) (by simp [hq]))
    have hs:True:=trivial
    repeat' first|(with_reducible first|refine q01 ?_|refine q02 ?_|refine q05 ?_|refine q11 ?_|refine q12 ?_|refine q14 ?_|refine q17 ?_)|(with_reducible refine At.fn_ret (by simp -dsimp [hx,hlt,hs];exact rfl) ?_)|(refine CallE.pure (c1) ?_;try simp -dsimp [hx,hlt,hs])|(with_reducible refine DT_regionE [0,1,2,3,4,5,6,7,8,13,18,28,31,38,44,52,53,73,84,99] ?_;simp -dsimp [hx,hlt,hs])|(refine DT_cond rfl (fun h=>?_) (fun h=>?_)<;>(try simp only [nrm] at h)<;>(try exact Bool.noConfusion h))
    all_goals try simp -dsimp [hx,hlt,hs]
    all_goals try clear hs
    simp [hf]
   ·rw [hq] at c1
    have hokn:∀ x∈l.take (i + 1),issueOk x=true:=by
     rw [List.take_succ_eq_append_getElem hlt]
     intro x hx
     rcases List.mem_append.1 hx with h|h
     ·exact hok x h
     ·simp at h;rw [h];exact hq
    have hdr:1≤l[i].drawing:=by
     simp only [issueOk,Bool.and_assoc] at hq
     rw [← Bool.and_assoc,Bool.and_eq_true] at hq
     have:=(ck12_iff _).1 hq.1;omega
    by_cases hi0:i=0
    ·subst hi0
     have hst:=scan_iff0 l[0] (l.drop 1)
     simp only [prevI] at hscan
     rw [Nat.zero_add] at hscan
     rw [← hscan] at hst
     have hs:True:=trivial
     repeat' first|(with_reducible first|refine q01 ?_|refine q02 ?_|refine q04 ?_|refine q05 ?_|refine q11 ?_|refine q12 ?_|refine q14 ?_|refine q17 ?_)|(with_reducible refine At.fn_ret (by simp -dsimp [hx,hlt,hw,hs];exact rfl) ?_)|(refine CallE.pure (c1) ?_;try simp -dsimp [hx,hlt,hw,hs])|(with_reducible refine DT_regionE [0,1,2,3,4,5,6,7,8,13,18,28,31,38,44,52,53,73,84,99] ?_;simp -dsimp [hx,hlt,hw,hs])|(refine DT_cond rfl (fun h=>?_) (fun h=>?_)<;>(try simp only [nrm] at h)<;>(try exact Bool.noConfusion h))|(with_reducible refine GStop_split ?_ ?_<;>intro h<;>have h0:=h<;>(try simp only [nrm] at h)<;>(try exact Bool.noConfusion h)<;>have h2:=h<;>(try simp at h2)<;>(replace hs:=And.intro h0 (And.intro h (And.intro h2 hs)))<;>simp -dsimp [h0,h,h2,hx,hlt,hw,hs])
     all_goals try simp -dsimp [hx,hlt,hw,hs]
     all_goals try clear hs
     all_goals first
      | (exfalso;omega)
      | (have hf:=listed_false1 (false_step hst (by omega));simp [hf];done)
      | exact At.round ⟨1,by omega,by rw [hnext];exact eq_of_step hst ⟨hq,by omega⟩,hokn⟩ (by simp;omega) (Weak.of_drop [1,2,3] 1 (by simp) (by simp) (by simp;exact i64w (by omega) (by omega)))
    ·obtain ⟨m,rfl⟩:∃ m,i=m + 1:=⟨i - 1,by omega⟩
     have hy:l[m]?=some l[m]:=by simp
     have hw1:IntKind.i64.wrap (((m + 1:Nat):Int) - 1)=m:=i64w (by omega) (by omega) |>.trans (by omega)
     have hw2:IntKind.i64.wrap (m:Int)=m:=i64w (by omega) (by omega)
     have hoky:=hok l[m] (List.mem_take_iff_getElem.2 ⟨m,by omega,rfl⟩)
     have hlet:1≤l[m].letter∧l[m].letter≤8:=by simp [issueOk,ck1] at hoky;omega
     have hwl:IntKind.i64.wrap (l[m].letter + 1)=l[m].letter + 1:=i64w (by omega) (by omega)
     have hst:=scan_iff1 l[m] l[m + 1] (l.drop (m + 1 + 1))
     simp only [prevI,hy] at hscan
     rw [← hscan] at hst
     have hpos:(0:Int) < (m:Int) + 1:=by omega
     have hlt2:(m:Int) + 1 < (l.length:Int):=by omega
     have hge:(0:Int)≤(m:Int) + 1:=by omega
     have hs:True:=trivial
     repeat' first|(with_reducible first|refine q01 ?_|refine q02 ?_|refine q04 ?_|refine q05 ?_|refine q11 ?_|refine q12 ?_|refine q14 ?_|refine q17 ?_)|(with_reducible refine At.fn_ret (by simp -dsimp [hge,hx,hlt,hlt2,hw,hy,hw1,hw2,hwl,hpos,hs];exact rfl) ?_)|(refine CallE.pure (c1) ?_;try simp -dsimp [hge,hx,hlt,hlt2,hw,hy,hw1,hw2,hwl,hpos,hs])|(with_reducible refine DT_regionE [0,1,2,3,4,5,6,7,8,13,18,28,31,38,44,52,53,73,84,99] ?_;simp -dsimp [hge,hx,hlt,hlt2,hw,hy,hw1,hw2,hwl,hpos,hs])|(refine DT_cond rfl (fun h=>?_) (fun h=>?_)<;>(try simp only [nrm] at h)<;>(try exact Bool.noConfusion h))|(with_reducible refine GStop_split ?_ ?_<;>intro h<;>have h0:=h<;>(try simp only [nrm] at h)<;>(try exact Bool.noConfusion h)<;>have h2:=h<;>(try simp at h2)<;>(replace hs:=And.intro h0 (And.intro h (And.intro h2 hs)))<;>simp -dsimp [h0,h,h2,hge,hx,hlt,hlt2,hw,hy,hw1,hw2,hwl,hpos,hs])
     all_goals try simp -dsimp [hge,hx,hlt,hlt2,hw,hy,hw1,hw2,hwl,hpos,hs]
     all_goals try clear hs
     all_goals first
      | (exfalso;omega)
      | (have hf:=listed_false1 (false_step hst (by omega));simp [hf];done)
      | exact At.round ⟨m + 1 + 1,by omega,by rw [hnext];exact eq_of_step hst ⟨hq,by omega⟩,hokn⟩ (by simp;omega) (Weak.of_drop [1,2,3] 1 (by simp) (by simp) (by simp;try exact i64w (by omega) (by omega)))
  ·have hsome:(scanI none l).isSome=true:=by
    rw [hscan,List.drop_eq_nil_of_le (by omega)]
    cases prevI l i<;>rfl
   have c2:=numbers_c (G:=G) l (by omega)
   have hE:listedI l=(l.all (fun x=>x.items.all fun y=>decide (y.drawing∈nums l)) && decide ((nums l).length≤20)):=by
    simp [listedI,hsome,hrange]
   have hnl:(nums l).length≤l.length:=numsTo_length l l.length
   generalize nums l=ns at *
   have hs:True:=trivial
   repeat' first|(with_reducible first|refine q01 ?_|refine q03 ?_|refine q06 ?_|refine q11 ?_|refine q12 ?_|refine q16 ?_)|(refine CallE.pure (c2) ?_;try simp -dsimp [hlt,hs])|(with_reducible refine DT_regionE [0,1,2,3,4,5,6,7,8,13,18,28,31,38,44,52,53,73,84,99] ?_;simp -dsimp [hlt,hs])|(refine DT_cond rfl (fun h=>?_) (fun h=>?_)<;>(try simp only [nrm] at h)<;>(try exact Bool.noConfusion h))
   all_goals try simp -dsimp [hlt,hs]
   all_goals try clear hs
   refine DT_loop (ι:={ i:Nat // i≤l.length∧l.all (fun x=>x.items.all fun y=>decide (y.drawing∈ns))=(l.drop i).all (fun x=>x.items.all fun y=>decide (y.drawing∈ns)) }) (fun p=>⟨103,[(1,.one (.ptr 0 0)),(2,bv false),(6,isv ns),(7,iv (p.1:Int))],[.row [.im (.sl (l.map encIssue))]]⟩) (fun p=>l.length - p.1) ⟨0,by simp⟩ (Weak.of_drop [1,2,6,7] 1 (by simp) (by simp) (by simp)) ?_
   clear hscan hok
   rintro ⟨k,hk,hall⟩
   simp only [iv,isv]
   by_cases hlk:k < l.length
   ·have hx:l[k]?=some l[k]:=by simp [hlk]
    have hw:IntKind.i64.wrap ((k:Int) + 1)=((k + 1:Nat):Int):=i64w (by omega) (by omega)
    have hst:=all_step hlk hall
    have hsm:=hs.2 l[k] (List.getElem_mem hlk)
    have hs:True:=trivial
    repeat' first|(with_reducible first|refine q01 ?_|refine q11 ?_|refine q12 ?_|refine q14 ?_)|(with_reducible refine DT_regionE [0,1,2,3,4,5,6,7,8,13,18,28,31,38,44,52,53,73,84,99] ?_;simp -dsimp [hx,hlk,hw,hs])|(refine DT_cond rfl (fun h=>?_) (fun h=>?_)<;>(try simp only [nrm] at h)<;>(try exact Bool.noConfusion h))
    all_goals try simp -dsimp [hx,hlk,hw,hs]
    all_goals try clear hs
    refine DT_loop (ι:={ u:Nat // u≤l[k].items.length∧l[k].items.all (fun y=>decide (y.drawing∈ns))=(l[k].items.drop u).all (fun y=>decide (y.drawing∈ns)) }) (fun p=>⟨103,[(1,.one (.ptr 0 0)),(2,bv false),(6,isv ns),(7,iv (k:Int)),(8,iv (p.1:Int))],[.row [.im (.sl (l.map encIssue))]]⟩) (fun p=>l[k].items.length - p.1) ⟨0,by simp⟩ (Weak.of_keep [1,2,6,7,8] (by simp)) ?_
    rintro ⟨u,hu,hall2⟩
    simp only [iv,isv]
    by_cases hlu:u < l[k].items.length
    ·have hy:l[k].items[u]?=some l[k].items[u]:=by simp [hlu]
     have hw2:IntKind.i64.wrap ((u:Int) + 1)=((u + 1:Nat):Int):=i64w (by omega) (by omega)
     have c3:=index_c (G:=G) ns l[k].items[u].drawing (by omega)
     have hm:=idx_mem ns l[k].items[u].drawing
     have hst2:=all_step hlu hall2
     generalize idx ns l[k].items[u].drawing=z at c3 hm
     have hs:True:=trivial
     repeat' first|(with_reducible first|refine q01 ?_|refine q02 ?_|refine q04 ?_|refine q05 ?_|refine q11 ?_|refine q12 ?_|refine q14 ?_|refine q17 ?_)|(with_reducible refine At.fn_ret (by simp -dsimp [hx,hlk,hy,hlu,hw2,hs];exact rfl) ?_)|(refine CallE.pure (c3) ?_;try simp -dsimp [hx,hlk,hy,hlu,hw2,hs])|(with_reducible refine DT_regionE [0,1,2,3,4,5,6,7,8,13,18,28,31,38,44,52,53,73,84,99] ?_;simp -dsimp [hx,hlk,hy,hlu,hw2,hs])|(refine DT_cond rfl (fun h=>?_) (fun h=>?_)<;>(try simp only [nrm] at h)<;>(try exact Bool.noConfusion h))
     all_goals try simp -dsimp [hx,hlk,hy,hlu,hw2,hs]
     all_goals try clear hs
     ·have hn:=hm.1 ‹z < 0›
      have h1:=false_step hst2 (by simpa using hn)
      have h2:=false_step hst (by rw [h1];exact Bool.false_ne_true)
      rw [hE,h2];rfl
     ·have hn:l[k].items[u].drawing∈ns:=Classical.byContradiction fun hn=>absurd (hm.2 hn) ‹_›
      exact At.round ⟨u + 1,by omega,eq_of_step hst2 (by simpa using hn)⟩ (by simp;omega) (Weak.of_keep [1,2,6,7,8] (by simp))
    ·have h1:l[k].items.all (fun y=>decide (y.drawing∈ns))=true:=by rw [hall2,List.drop_eq_nil_of_le (by omega)];rfl
     have hs:True:=trivial
     repeat' first|(with_reducible first|refine q01 ?_|refine q03 ?_|refine q04 ?_|refine q06 ?_|refine q11 ?_|refine q16 ?_)|(with_reducible refine DT_regionE [0,1,2,3,4,5,6,7,8,13,18,28,31,38,44,52,53,73,84,99] ?_;simp -dsimp [hx,hlk,hlu,hw,hs])|(refine DT_cond rfl (fun h=>?_) (fun h=>?_)<;>(try simp only [nrm] at h)<;>(try exact Bool.noConfusion h))
     all_goals try simp -dsimp [hx,hlk,hlu,hw,hs]
     all_goals try clear hs
     exact At.round ⟨k + 1,by omega,eq_of_step hst h1⟩ (by simp;omega) (Weak.of_keep [1,2,6,7] (by simp))
   ·have h1:l.all (fun x=>x.items.all fun y=>decide (y.drawing∈ns))=true:=by rw [hall,List.drop_eq_nil_of_le (by omega)];rfl
    rw [h1,Bool.true_and] at hE
    have hs:True:=trivial
    repeat' first|(with_reducible first|refine q01 ?_|refine q03 ?_|refine q06 ?_|refine q11 ?_|refine q16 ?_|refine q17 ?_)|(with_reducible refine At.fn_ret (by simp -dsimp [hlk,hs];exact rfl) ?_)|(with_reducible refine DT_regionE [0,1,2,3,4,5,6,7,8,13,18,28,31,38,44,52,53,73,84,99] ?_;simp -dsimp [hlk,hs])|(refine DT_cond rfl (fun h=>?_) (fun h=>?_)<;>(try simp only [nrm] at h)<;>(try exact Bool.noConfusion h))
    all_goals try simp -dsimp [hlk,hs]
    all_goals try clear hs
    rw [hE];simp;omega
 ·have hf:listedI l=false:=by simp only [listedI];rw [decide_eq_false hrange];rfl
  have c0:=within_c (G:=G) (l.length:Int) 1 60
  have hd:(decide ((1:Int)≤(l.length:Int)) && decide ((l.length:Int)≤60))=false:=by simp;omega
  rw [hd] at c0
  have hs:True:=trivial
  repeat' first|(with_reducible first|refine q01 ?_|refine q02 ?_|refine q11 ?_|refine q17 ?_)|(with_reducible refine At.fn_ret (by simp -dsimp [hs];exact rfl) ?_)|(refine CallE.pure (c0) ?_;try simp -dsimp [hs])|(with_reducible refine DT_regionE [0,1,2,3,4,5,6,7,8,13,18,28,31,38,44,52,53,73,84,99] ?_;simp -dsimp [hs])|(refine DT_cond rfl (fun h=>?_) (fun h=>?_)<;>(try simp only [nrm] at h)<;>(try exact Bool.noConfusion h))
  all_goals try simp -dsimp [hs]
  all_goals try clear hs
  simp [hf]
end Go.Proofs
namespace Go.Proofs
open Go Go.Ab
set_option linter.unusedSimpArgs false
variable {G:Nat→Option (List IC)}
theorem mostL_drop {l:List Int} {k:Nat} (hlt:k < l.length) (a:Int) (h:mostL l=(l.drop k).foldl max a):mostL l=(l.drop (k + 1)).foldl max (max a l[k]):=by
 rw [h,List.drop_eq_getElem_cons hlt,List.foldl_cons]
set_option maxHeartbeats 1000000 in
theorem rcheck_c (l:List Issue) (hs:SmallR l) (objs:List DObj):DCall Tryz.prog G 128 [regv l] objs (fun rr objs'=>rr=iv (checkR l)∧objs'=objs):=by
 refine DCall.frame ?_ (by simp) (by simp) objs
 refine DCall_intro Tryz.func128 rfl Tryz.ntmps128 (by simp) rfl ?_
 try simp only [regv]
 have c1:=listed_c (G:=G) l hs
 cases hL:listedI l
 ·rw [hL] at c1
  have hs:True:=trivial
  repeat' first|(with_reducible first|refine q01 ?_|refine q02 ?_|refine q11 ?_|refine q17 ?_)|(with_reducible refine At.fn_ret (by simp -dsimp [hs];exact rfl) ?_)|(refine CallE.pure (c1) ?_;try simp -dsimp [hs])|(with_reducible refine DT_regionE [0,1,2,3,4,5,8,14,23,28] ?_;simp -dsimp [hs])|(refine DT_cond rfl (fun h=>?_) (fun h=>?_)<;>(try simp only [nrm] at h)<;>(try exact Bool.noConfusion h))
  all_goals try simp -dsimp [hs]
  all_goals try clear hs
  simp [checkR,hL]
 ·rw [hL] at c1
  have c2:=rdepths_c (G:=G) l hL
  have hlen:(depthsL l).length≤80:=by
   have:=numsTo_length l l.length
   have:=hs.1
   simp only [depthsL,List.length_map,nums];omega
  have hE:checkR l=if mostL (depthsL l) > (depthsL l).length then 21 else if mostL (depthsL l) > 6 then 20 else 0:=by simp [checkR,hL]
  generalize depthsL l=D at c2 hE hlen
  have hs:True:=trivial
  repeat' first|(with_reducible first|refine q01 ?_|refine q11 ?_|refine q12 ?_|refine q14 ?_)|(refine CallE.pure (c1) ?_;try simp -dsimp [hs])|(refine CallE.pure (c2) ?_;try simp -dsimp [hs])|(with_reducible refine DT_regionE [0,1,2,3,4,5,8,14,23,28] ?_;simp -dsimp [hs])|(refine DT_cond rfl (fun h=>?_) (fun h=>?_)<;>(try simp only [nrm] at h)<;>(try exact Bool.noConfusion h))
  all_goals try simp -dsimp [hs]
  all_goals try clear hs
  refine DT_loop (ι:={ p:Nat×Int // p.1≤D.length∧mostL D=(D.drop p.1).foldl max p.2 }) (fun p=>⟨31,[(1,.one (.ptr 0 0)),(2,iv 0),(3,isv D),(4,iv p.1.2),(5,iv (p.1.1:Int))],[.row [.im (.sl (l.map encIssue))]]⟩) (fun p=>D.length - p.1.1) ⟨(0,0),by simp [mostL]⟩ (Weak.of_keep [1,2,3,4,5] (by simp)) ?_
  rintro ⟨⟨k,a⟩,hk,ha⟩
  simp only at hk ha
  simp only [iv,isv]
  by_cases hlt:k < D.length
  ·have hx:D[k]?=some D[k]:=by simp [hlt]
   have hw:IntKind.i64.wrap ((k:Int) + 1)=((k + 1:Nat):Int):=i64w (by omega) (by omega)
   have hs:True:=trivial
   repeat' first|(with_reducible first|refine q01 ?_|refine q04 ?_|refine q11 ?_|refine q12 ?_|refine q14 ?_)|(with_reducible refine DT_regionE [0,1,2,3,4,5,8,14,23,28] ?_;simp -dsimp [hx,hw,hlt,hs])|(refine DT_cond rfl (fun h=>?_) (fun h=>?_)<;>(try simp only [nrm] at h)<;>(try exact Bool.noConfusion h))
   all_goals try simp -dsimp [hx,hw,hlt,hs]
   all_goals try clear hs
   exact At.round ⟨(k + 1,max a D[k]),by omega,mostL_drop hlt a ha⟩ (by simp;omega) (Weak.of_keep [1,2,3,4,5] (by simp))
  ·have ha':mostL D=a:=by rw [ha,List.drop_eq_nil_of_le (by omega)];rfl
   rw [ha'] at hE
   have hs:True:=trivial
   repeat' first|(with_reducible first|refine q01 ?_|refine q02 ?_|refine q03 ?_|refine q04 ?_|refine q05 ?_|refine q06 ?_|refine q11 ?_|refine q12 ?_|refine q14 ?_|refine q16 ?_|refine q17 ?_)|(with_reducible refine At.fn_ret (by simp -dsimp [hlt,hs];exact rfl) ?_)|(with_reducible refine DT_regionE [0,1,2,3,4,5,8,14,23,28] ?_;simp -dsimp [hlt,hs])|(refine DT_cond rfl (fun h=>?_) (fun h=>?_)<;>(try simp only [nrm] at h)<;>(try exact Bool.noConfusion h))
   all_goals try simp -dsimp [hlt,hs]
   all_goals try clear hs
   all_goals rw [hE]
   ·rw [if_pos (by omega)]
   ·rw [if_neg (by omega),if_pos (by omega)]
   ·rw [if_neg (by omega),if_neg (by omega)]
def lastOf (l:List Issue) (d:Int):Int:=l.foldl (fun n x=>if x.drawing=d then max n x.letter else n) 0
theorem lastOf_c (l:List Issue) (d:Int) (hl:l.length < 1000000) (objs:List DObj):DCall Tryz.prog G 51 [regv l,iv d] objs (fun rr objs'=>rr=iv (lastOf l d)∧objs'=objs):=by
 refine DCall.frame ?_ (by simp) (by simp) objs
 refine DCall_intro Tryz.func51 rfl Tryz.ntmps51 (by simp) rfl ?_
 try simp only [regv,iv]
 have hs:True:=trivial
 repeat' first|(with_reducible first|refine q01 ?_|refine q11 ?_|refine q12 ?_)|(with_reducible refine DT_regionE [0,1,2,4,5,6,11,21] ?_;simp -dsimp [hs])
 all_goals try simp -dsimp [hs]
 all_goals try clear hs
 refine DT_loop (ι:={ p:Nat×Int // p.1≤l.length∧lastOf l d=(l.drop p.1).foldl (fun n x=>if x.drawing=d then max n x.letter else n) p.2 }) (fun p=>⟨31,[(1,iv d),(2,.one (.ptr 0 0)),(5,iv p.1.2),(6,iv (p.1.1:Int))],[.row [.im (.sl (l.map encIssue))]]⟩) (fun p=>l.length - p.1.1) ⟨(0,0),by simp [lastOf]⟩ (Weak.of_keep [1,2,5,6] (by simp)) ?_
 rintro ⟨⟨k,a⟩,hk,ha⟩
 simp only at hk ha
 simp only [iv]
 by_cases hlt:k < l.length
 ·have hx:l[k]?=some l[k]:=by simp [hlt]
  have hw:IntKind.i64.wrap ((k:Int) + 1)=((k + 1:Nat):Int):=i64w (by omega) (by omega)
  rw [List.drop_eq_getElem_cons hlt,List.foldl_cons] at ha
  have hs:True:=trivial
  repeat' first|(with_reducible first|refine q01 ?_|refine q04 ?_|refine q11 ?_|refine q12 ?_|refine q14 ?_)|(with_reducible refine DT_regionE [0,1,2,4,5,6,11,21] ?_;simp -dsimp [hx,hw,hlt,hs])|(refine DT_cond rfl (fun h=>?_) (fun h=>?_)<;>(try simp only [nrm] at h)<;>(try exact Bool.noConfusion h))
  all_goals try simp -dsimp [hx,hw,hlt,hs]
  all_goals try clear hs
  ·exact At.round ⟨(k + 1,max a l[k].letter),by omega,by rw [ha,if_pos ‹_›]⟩ (by simp;omega) (Weak.of_keep [1,2,5,6] (by simp))
  ·exact At.round ⟨(k + 1,a),by omega,by rw [ha,if_neg ‹_›]⟩ (by simp;omega) (Weak.of_keep [1,2,5,6] (by simp))
 ·have ha':lastOf l d=a:=by rw [ha,List.drop_eq_nil_of_le (by omega)];rfl
  have hs:True:=trivial
  repeat' first|(with_reducible first|refine q01 ?_|refine q03 ?_|refine q06 ?_|refine q11 ?_|refine q16 ?_|refine q17 ?_)|(with_reducible refine At.fn_ret (by simp -dsimp [hlt,hs];exact rfl) ?_)|(with_reducible refine DT_regionE [0,1,2,4,5,6,11,21] ?_;simp -dsimp [hlt,hs])|(refine DT_cond rfl (fun h=>?_) (fun h=>?_)<;>(try simp only [nrm] at h)<;>(try exact Bool.noConfusion h))
  all_goals try simp -dsimp [hlt,hs]
  all_goals try clear hs
  rw [ha']
def letterOk (l:List Issue) (p:Int×Int):Bool:=decide (1≤p.2) && decide (p.2≤lastOf l p.1)
def lettersI (l:List Issue) (lets:List Int):Bool:=decide (lets.length=(nums l).length) && ((nums l).zip lets).all (letterOk l)
theorem letters_c (l:List Issue) (lets:List Int) (hl:l.length < 1000000) (hll:lets.length < 1000000) (objs:List DObj):DCall Tryz.prog G 162 [regv l,isv lets] objs (fun rr objs'=>rr=bv (lettersI l lets)∧objs'=objs):=by
 refine DCall.frame ?_ (by simp) (by simp) objs
 refine DCall_intro Tryz.func162 rfl Tryz.ntmps162 (by simp) rfl ?_
 try simp only [regv,isv]
 have c1:=numbers_c (G:=G) l (by omega)
 have hE:lettersI l lets=(decide (lets.length=(nums l).length) && ((nums l).zip lets).all (letterOk l)):=rfl
 generalize nums l=ns at c1 hE
 by_cases he:lets.length=ns.length
 ·rw [decide_eq_true he,Bool.true_and] at hE
  have he':(lets.length:Int)=(ns.length:Int):=by omega
  have hs:True:=trivial
  repeat' first|(with_reducible first|refine q01 ?_|refine q11 ?_|refine q12 ?_|refine q14 ?_)|(refine CallE.pure (c1) ?_;try simp -dsimp [he',hs])|(with_reducible refine DT_regionE [0,1,2,4,5,6,13,17,31] ?_;simp -dsimp [he',hs])|(refine DT_cond rfl (fun h=>?_) (fun h=>?_)<;>(try simp only [nrm] at h)<;>(try exact Bool.noConfusion h))
  all_goals try simp -dsimp [he',hs]
  all_goals try clear hs
  refine DT_loop (ι:={ k:Nat // k≤ns.length∧(ns.zip lets).all (letterOk l)=((ns.zip lets).drop k).all (letterOk l) }) (fun p=>⟨32,[(1,isv lets),(2,.one (.ptr 0 0)),(5,isv ns),(6,iv (p.1:Int))],[.row [.im (.sl (l.map encIssue))]]⟩) (fun p=>ns.length - p.1) ⟨0,by simp⟩ (Weak.of_drop [1,2,5,6] 1 (by simp) (by simp) (by simp)) ?_
  rintro ⟨k,hk,ha⟩
  simp only [iv,isv]
  by_cases hlt:k < ns.length
  ·have hx:ns[k]?=some ns[k]:=by simp [hlt]
   have hlt2:k < lets.length:=by omega
   have hy:lets[k]?=some lets[k]:=by simp [hlt2]
   have hw:IntKind.i64.wrap ((k:Int) + 1)=((k + 1:Nat):Int):=i64w (by omega) (by omega)
   have hz:k < (ns.zip lets).length:=by simp;omega
   have hst:=all_step hz ha
   rw [List.getElem_zip] at hst
   have c2:=lastOf_c (G:=G) l ns[k] hl
   have c3:=within_c (G:=G) lets[k] 1 (lastOf l ns[k])
   have hq':letterOk l (ns[k],lets[k])=(decide (1≤lets[k]) && decide (lets[k]≤lastOf l ns[k])):=rfl
   cases hq:letterOk l (ns[k],lets[k])
   ·rw [← hq',hq] at c3
    have hs:True:=trivial
    repeat' first|(with_reducible first|refine q01 ?_|refine q02 ?_|refine q05 ?_|refine q11 ?_|refine q12 ?_|refine q14 ?_|refine q17 ?_)|(with_reducible refine At.fn_ret (by simp -dsimp [hx,hy,hw,hlt,hlt2,hs];exact rfl) ?_)|(refine QCall_pure (c2) ?_;try simp -dsimp [hx,hy,hw,hlt,hlt2,hs])|(refine QCall_pure (c3) ?_;try simp -dsimp [hx,hy,hw,hlt,hlt2,hs])|(refine DT_regionM (id:=7) (nt:=32) 12 [0,1,2,4,5,6,13,17,31] mixed rfl (by kernel_rfl) ?_;simp -dsimp [hx,hy,hw,hlt,hlt2,hs])|(with_reducible refine DT_regionE [0,1,2,4,5,6,13,17,31] ?_;simp -dsimp [hx,hy,hw,hlt,hlt2,hs])|(refine DT_cond rfl (fun h=>?_) (fun h=>?_)<;>(try simp only [nrm] at h)<;>(try exact Bool.noConfusion h))
    all_goals try simp -dsimp [hx,hy,hw,hlt,hlt2,hs]
    all_goals try clear hs
    rw [hE,false_step hst (by rw [hq];exact Bool.false_ne_true)]
   ·rw [← hq',hq] at c3
    have hs:True:=trivial
    repeat' first|(with_reducible first|refine q01 ?_|refine q04 ?_|refine q11 ?_|refine q12 ?_|refine q14 ?_)|(refine QCall_pure (c2) ?_;try simp -dsimp [hx,hy,hw,hlt,hlt2,hs])|(refine QCall_pure (c3) ?_;try simp -dsimp [hx,hy,hw,hlt,hlt2,hs])|(refine DT_regionM (id:=7) (nt:=32) 12 [0,1,2,4,5,6,13,17,31] mixed rfl (by kernel_rfl) ?_;simp -dsimp [hx,hy,hw,hlt,hlt2,hs])|(with_reducible refine DT_regionE [0,1,2,4,5,6,13,17,31] ?_;simp -dsimp [hx,hy,hw,hlt,hlt2,hs])|(refine DT_cond rfl (fun h=>?_) (fun h=>?_)<;>(try simp only [nrm] at h)<;>(try exact Bool.noConfusion h))
    all_goals try simp -dsimp [hx,hy,hw,hlt,hlt2,hs]
    all_goals try clear hs
    exact At.round ⟨k + 1,by omega,eq_of_step hst hq⟩ (by simp;omega) (Weak.of_keep [1,2,5,6] (by simp))
  ·have h1:(ns.zip lets).all (letterOk l)=true:=by rw [ha,List.drop_eq_nil_of_le (by simp;omega)];rfl
   have hs:True:=trivial
   repeat' first|(with_reducible first|refine q01 ?_|refine q03 ?_|refine q06 ?_|refine q11 ?_|refine q16 ?_|refine q17 ?_)|(with_reducible refine At.fn_ret (by simp -dsimp [hlt,hs];exact rfl) ?_)|(with_reducible refine DT_regionE [0,1,2,4,5,6,13,17,31] ?_;simp -dsimp [hlt,hs])|(refine DT_cond rfl (fun h=>?_) (fun h=>?_)<;>(try simp only [nrm] at h)<;>(try exact Bool.noConfusion h))
   all_goals try simp -dsimp [hlt,hs]
   all_goals try clear hs
   rw [hE,h1]
 ·have he':¬ (lets.length:Int)=(ns.length:Int):=by omega
  rw [decide_eq_false he,Bool.false_and] at hE
  have hs:True:=trivial
  repeat' first|(with_reducible first|refine q01 ?_|refine q02 ?_|refine q11 ?_|refine q17 ?_)|(with_reducible refine At.fn_ret (by simp -dsimp [he',hs];exact rfl) ?_)|(refine CallE.pure (c1) ?_;try simp -dsimp [he',hs])|(with_reducible refine DT_regionE [0,1,2,4,5,6,13,17,31] ?_;simp -dsimp [he',hs])|(refine DT_cond rfl (fun h=>?_) (fun h=>?_)<;>(try simp only [nrm] at h)<;>(try exact Bool.noConfusion h))
  all_goals try simp -dsimp [he',hs]
  all_goals try clear hs
  rw [hE]
def takeI (l:List Issue) (lets:List Int) (d:Int):Issue:=(findI l d ((lets[(idx (nums l) d).toNat]?).getD 0)).getD zIssue
theorem taken_c (l:List Issue) (lets:List Int) (d:Int) (hl:l.length < 1000000) (hd:d∈nums l) (hll:lets.length=(nums l).length) (objs:List DObj):DCall Tryz.prog G 48 [regv l,isv lets,iv d] objs (fun rr objs'=>rr=issv (takeI l lets d)∧objs'=objs):=by
 refine DCall.frame ?_ (by simp) (by simp) objs
 refine DCall_intro Tryz.func48 rfl Tryz.ntmps48 (by simp) rfl ?_
 try simp only [regv,isv,iv]
 have c1:=numbers_c (G:=G) l (by omega)
 have hnl:(nums l).length≤l.length:=numsTo_length l l.length
 have hE:takeI l lets d=(findI l d ((lets[(idx (nums l) d).toNat]?).getD 0)).getD zIssue:=rfl
 generalize nums l=ns at *
 have c2:=index_c (G:=G) ns d (by omega)
 have h0:=idx_nonneg hd
 have hi:(idx ns d).toNat < ns.length:=by
  obtain ⟨k,hk⟩:=List.mem_iff_getElem?.1 hd
  unfold idx
  cases hh:ns.idxOf? d with
  | none =>
    rw [List.idxOf?,List.findIdx?_eq_none_iff] at hh
    have:=hh d hd;simp at this
  | some i =>
    rw [List.idxOf?,List.findIdx?_eq_some_iff_getElem] at hh
    simpa using hh.1
 generalize hidx:idx ns d=z at *
 obtain ⟨k,rfl⟩:∃ k:Nat,z=k:=⟨z.toNat,by omega⟩
 simp only [Int.toNat_natCast] at hi hE
 have hkl:k < lets.length:=by omega
 have hy:lets[k]?=some lets[k]:=by simp [hkl]
 rw [hy,Option.getD_some] at hE
 have c3:=find_c (G:=G) l d lets[k] hl
 rw [← hE] at c3
 simp only [refv] at c3
 have hs:True:=trivial
 repeat' first|(with_reducible first|refine q01 ?_|refine q11 ?_|refine q17 ?_)|(with_reducible refine At.fn_ret (by simp -dsimp [hy,hkl,hs];exact rfl) ?_)|(refine QCall_pure (c1) ?_;try simp -dsimp [hy,hkl,hs])|(refine QCall_pure (c2) ?_;try simp -dsimp [hy,hkl,hs])|(refine QCall_pure (c3) ?_;try simp -dsimp [hy,hkl,hs])|(refine DT_regionX (id:=1) (nt:=24) 15 [13] [0,1,2,3,6,7,9,10,11,12,13,14,15,16,17,18,19,20,21] [0,1,2,3,6,7] mixed rfl (by kernel_rfl) ?_;simp -dsimp [hy,hkl,hs])|(with_reducible refine DT_regionE [0,1,2,3,6,7] ?_;simp -dsimp [hy,hkl,hs])
 all_goals try simp -dsimp [hy,hkl,hs]
 all_goals try clear hs
end Go.Proofs
namespace Go.Proofs
open Go Go.Ab
theorem find_some {l:List Issue} {d lt:Int} {y:Issue} (h:findI l d lt=some y):y∈l∧y.drawing=d∧y.letter=lt:=by
 have h1:=List.find?_some h
 have h2:=List.mem_of_find?_eq_some h
 simp only [Bool.and_eq_true,beq_iff_eq] at h1
 exact ⟨h2,h1.1,h1.2⟩
theorem find_iff (l:List Issue) (d lt:Int):(findI l d lt).isSome=true↔∃ x∈l,x.drawing=d∧x.letter=lt:=by
 simp [findI,List.find?_isSome]
theorem scan_letters:∀ (r:List Issue) (p:Option Issue) (ds:List Int),scanI p r=some ds→∀ x∈r,x.letter=1∨∃ y,(p=some y∨y∈r)∧y.drawing=x.drawing∧y.letter + 1=x.letter
 | [],_,_,_,x,hx=>by cases hx
 | z :: r,p,ds,h,x,hx=>by
   have hs:(scanI p (z :: r)).isSome=true:=by rw [h];rfl
   obtain ⟨ds',h1,_,_⟩:=scan_step h
   rcases List.mem_cons.1 hx with rfl|hx
   ·cases p with
    | none=>exact .inl ((scan_iff0 x r).1 hs).1.2
    | some y =>
      rcases ((scan_iff1 y x r).1 hs).1.2 with ⟨a,b,_⟩|⟨_,b⟩
      ·exact .inr ⟨y,.inl rfl,a,b⟩
      ·exact .inl b
   ·rcases scan_letters r (some z) ds' h1 x hx with h2|⟨y,h2,h3,h4⟩
    ·exact .inl h2
    ·refine .inr ⟨y,.inr ?_,h3,h4⟩
     rcases h2 with h2|h2
     ·cases h2;simp
     ·simp [h2]
theorem all_letters {l:List Issue} (hs:scanI none l=some (nums l)):∀ (k:Nat) (x:Issue),x∈l→x.letter=k + 1→∀ j:Int,1≤j→j≤k + 1→∃ y∈l,y.drawing=x.drawing∧y.letter=j
 | 0,x,hx,hk,j,h1,h2=>⟨x,hx,rfl,by omega⟩
 | k + 1,x,hx,hk,j,h1,h2=>by
   by_cases hj:j=k + 1 + 1
   ·exact ⟨x,hx,rfl,by omega⟩
   ·rcases scan_letters l none _ hs x hx with h|⟨y,hy,h3,h4⟩
    ·omega
    ·rcases hy with hy|hy
     ·cases hy
     ·obtain ⟨z,hz,h5,h6⟩:=all_letters hs k y hy (by omega) j h1 (by omega)
      exact ⟨z,hz,by omega,h6⟩
theorem lastOf_fold (d:Int):∀ (l:List Issue) (a:Int),a≤l.foldl (fun n x=>if x.drawing=d then max n x.letter else n) a∧(∀ x∈l,x.drawing=d→x.letter≤l.foldl (fun n x=>if x.drawing=d then max n x.letter else n) a) ∧
 (l.foldl (fun n x=>if x.drawing=d then max n x.letter else n) a=a∨∃ x∈l,x.drawing=d∧x.letter=l.foldl (fun n x=>if x.drawing=d then max n x.letter else n) a)
 | [],a=>by simp
 | y :: l,a=>by
   obtain ⟨h1,h2,h3⟩:=lastOf_fold d l (if y.drawing=d then max a y.letter else a)
   simp only [List.foldl_cons]
   have h0:a≤(if y.drawing=d then max a y.letter else a):=by split<;>omega
   refine ⟨by omega,fun x hx hd=>?_,?_⟩
   ·rcases List.mem_cons.1 hx with rfl|hx
    ·rw [if_pos hd] at h1 ⊢;omega
    ·exact h2 x hx hd
   ·rcases h3 with h3|⟨x,hx,hd,he⟩
    ·by_cases hy:y.drawing=d
     ·rw [if_pos hy] at h3 ⊢
      by_cases hm:a≤y.letter
      ·exact .inr ⟨y,by simp,hy,by omega⟩
      ·exact .inl (by omega)
     ·rw [if_neg hy] at h3 ⊢
      exact .inl h3
    ·exact .inr ⟨x,by simp [hx],hd,he⟩
theorem find_letter {l:List Issue} (h:checkR l=0) (d lt:Int):(findI l d lt).isSome=true↔1≤lt∧lt≤lastOf l d:=by
 have hs:=listed_scan (check_listed h)
 obtain ⟨_,_,_,hok,_⟩:=scan_all hs
 obtain ⟨h1,h2,h3⟩:=lastOf_fold d l 0
 have hlet:∀ x∈l,1≤x.letter:=fun x hx=>by
  have:=hok x hx
  simp only [issueOk,Bool.and_assoc] at this
  rw [← Bool.and_assoc,Bool.and_eq_true] at this
  have:=(ck12_iff x).1 this.1;omega
 rw [find_iff]
 constructor
 ·rintro ⟨x,hx,rfl,rfl⟩
  exact ⟨hlet x hx,h2 x hx rfl⟩
 ·rintro ⟨a,b⟩
  rcases h3 with h3|⟨x,hx,hd,he⟩
  ·simp only [lastOf] at b;omega
  ·have hx1:=hlet x hx
   obtain ⟨y,hy,h5,h6⟩:=all_letters hs (x.letter - 1).toNat x hx (by omega) lt a (by simp only [lastOf] at b;omega)
   exact ⟨y,hy,by omega,h6⟩
theorem take_spec {l:List Issue} {lets:List Int} {d:Int} (h:checkR l=0) (hl:lettersI l lets=true) (hd:d∈nums l):takeI l lets d∈l∧(takeI l lets d).drawing=d∧∃ (k:Nat) (lt:Int),(nums l)[k]?=some d∧lets[k]?=some lt∧findI l d lt=some (takeI l lets d):=by
 simp only [lettersI,Bool.and_eq_true,decide_eq_true_eq] at hl
 obtain ⟨h1,h2⟩:=hl
 obtain ⟨hlt,_⟩:=check_nums h
 obtain ⟨k,hk⟩:=List.mem_iff_getElem?.1 hd
 have hnd:(nums l).Nodup:=hlt.imp fun h=>Int.ne_of_lt h
 have hkl:=lt_of_getElem? hk
 have hy:lets[k]?=some lets[k]:=by simp [h1,hkl]
 have hz:((nums l).zip lets)[k]?=some (d,lets[k]):=by
  rw [List.getElem?_zip_eq_some];exact ⟨hk,hy⟩
 have hok:=List.all_eq_true.1 h2 _ (List.mem_of_getElem? hz)
 simp only [letterOk,Bool.and_eq_true,decide_eq_true_eq] at hok
 have hf:=(find_letter h d lets[k]).2 hok
 obtain ⟨y,hy'⟩:=Option.isSome_iff_exists.1 hf
 have ht:takeI l lets d=y:=by
  simp only [takeI,idx_at hnd hk,Int.toNat_natCast,hy,Option.getD_some,hy']
 obtain ⟨a,b,_⟩:=find_some hy'
 rw [ht]
 exact ⟨a,b,k,lets[k],hk,hy,hy'⟩
theorem take_items {l:List Issue} {lets:List Int} {d:Int} (h:checkR l=0) (hl:lettersI l lets=true) (hd:d∈nums l):∀ y∈(takeI l lets d).items,y.drawing∈chI l d:=by
 obtain ⟨h1,h2,_⟩:=take_spec h hl hd
 intro y hy
 simp only [chI,List.mem_flatMap,List.mem_map,segI,List.mem_filter,decide_eq_true_eq]
 exact ⟨_,⟨h1,h2⟩,y,hy,rfl⟩
end Go.Proofs
namespace Go.Ab
open Go
def encMB (m:List (Int×Bool)):List (List Value×List DC):=m.map fun p=>(kI p.1,[.im (rB p.2)])
def blook (n:Int):List (Int×Bool)→Option Bool
 | []=>none
 | p :: r=>if p.1=n then some p.2 else blook n r
def bput (n:Int) (v:Bool):List (Int×Bool)→List (Int×Bool)
 | []=>[(n,v)]
 | p :: r=>if p.1=n then (n,v) :: r else p :: bput n v r
@[simp] theorem mget_B (m:List (Int×Bool)) (n:Int):mget [.int .i64 n] (encMB m) [.im (.raw (.bool false))]=[.im (.raw (.bool ((blook n m).getD false)))]:=by
 induction m with
 | nil=>rfl
 | cons p r ih =>
   have e:encMB (p :: r)=(kI p.1,[.im (rB p.2)]) :: encMB r:=rfl
   rw [e]
   simp only [mget,mfind,blook,beqs_k,decide_eq_true_eq] at ih ⊢
   split
   ·rfl
   ·exact ih
@[simp] theorem mhas_B (m:List (Int×Bool)) (n:Int):mhas [.int .i64 n] (encMB m)=(blook n m).isSome:=by
 induction m with
 | nil=>rfl
 | cons p r ih =>
   have e:encMB (p :: r)=(kI p.1,[.im (rB p.2)]) :: encMB r:=rfl
   rw [e]
   simp only [mhas,mfind,blook,beqs_k,decide_eq_true_eq] at ih ⊢
   split
   ·rfl
   ·exact ih
@[simp] theorem mset_B (m:List (Int×Bool)) (n:Int) (v:Bool):mset [.int .i64 n] [.im (.raw (.bool v))] (encMB m)=encMB (bput n v m):=by
 induction m with
 | nil=>rfl
 | cons p r ih =>
   have e:encMB (p :: r)=(kI p.1,[.im (rB p.2)]) :: encMB r:=rfl
   rw [e]
   simp only [mset,bput,beqs_k,decide_eq_true_eq] at ih ⊢
   split
   ·rfl
   ·rw [ih];rfl
@[simp] theorem encMB_len (m:List (Int×Bool)):(encMB m).length=m.length:=by simp [encMB]
@[simp] theorem map_fz_B (n:Nat) (objs:List DObj) (m:List (Int×Bool)):((encMB m).map fun x=>(x.1,x.2.map (fz n objs)))=encMB m:=by
 simp [encMB,fz,DC.lt]
@[simp] theorem map_rn_B (e:Nat→Nat) (m:List (Int×Bool)):((encMB m).map fun x=>(x.1,rnL e x.2))=encMB m:=by
 simp [encMB,rnL,rnC]
section
variable {P:Program} {G:Nat→Option (List IC)}
theorem CallE.embed_ex {ι:Type} {f:FuncId} {args args0:List DV} {objs objs0:List DObj} {p:ι→Prop} {o1:ι→List DObj} {d0:ι→DV} {Q:DV→List DObj→Prop} {t:Tok Q} (es:List Nat) (h:DCall P G f args0 objs0 (fun d o=>∃ i,p i∧d=d0 i∧o=o1 i))
 (ha:args0.map (rnV (emb es objs.length))=args) (hl:es.length=objs0.length) (hnd:es.Nodup) (hes:∀ x∈es,x < objs.length)
 (hobj:∀ i d,objs0[i]?=some d→objs[emb es objs.length i]?=some (rnO (emb es objs.length) d)) (hq:∀ i,p i→Q (rnV (emb es objs.length) (d0 i)) (mergeO es objs (o1 i))):CallE P G f args objs Q t:=by
 subst ha
 refine (DCall.embed es h hl hnd hes hobj).mono fun d o ⟨d',o',⟨i,hp,h1,h2⟩,_,h3,h4⟩=>?_
 subst h1;subst h2;subst h3;subst h4
 exact hq i hp
end
end Go.Ab
namespace Go.Ab
open Go
end Go.Ab
namespace Go.Ab
open Go
@[simp] theorem rn_ims (e:Nat→Nat) (l:List (List IC)):(ims l).map (rnL e)=ims l:=by
 simp only [ims,List.map_map]
 exact List.map_congr_left fun x _=>by simp [rnL_im]
@[simp] theorem emb_nil (n o:Nat):emb [] n o=n + o:=by simp [emb]
attribute [simp] rnV rnC rnL rnVL rnO putO
def clrI (L:List Int) (off len:Nat):List Int:=L.take off ++ (List.replicate len 0 ++ L.drop (off + len))
@[simp] theorem dclearE_I (L:List Int) (off len:Nat):dclearE (ims (L.map encI)) off len (.im (.raw (.int .i64 0)))=ims ((clrI L off len).map encI):=by
 simp only [dclearE,clrI,ims,List.map_append,List.map_take,List.map_drop,List.map_replicate]
 rfl
theorem QCall.thaw {P:Program} {G:Nat→Option (List IC)} {f:FuncId} {args args0:List DV} {d0:DV} {objs:List DObj} {K:DV→Prop} {t:Tok K} (h:∀ objs,DCall P G f args0 objs (fun d o=>d=d0∧o=objs)) (ha:args0=args.map (fzV 0 objs)) (hd:FlV d0) (hk:K d0):QCall P G f args objs K t:=
 ⟨d0,DCall.thaw h ha hd,hk⟩
end Go.Ab
