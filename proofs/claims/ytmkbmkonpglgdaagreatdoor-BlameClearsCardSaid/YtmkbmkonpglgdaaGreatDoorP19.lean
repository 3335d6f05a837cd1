/- Part 19 of the proofs: laws and walks that hold without conditions beyond those that each theorem names. -/
import Derived.Test.YtmkbmkonpglgdaaGreatDoorP11
import Derived.Test.YtmkbmkonpglgdaaGreatDoorP16
import Derived.Test.YtmkbmkonpglgdaaGreatDoorP17
import Derived.Test.YtmkbmkonpglgdaaGreatDoorP18
set_option linter.all false
set_option linter.deprecated false
namespace Go.Proofs
open Go Go.Ab
set_option linter.unusedSimpArgs false
variable {G:Nat→Option (List IC)}
def Rp (l:List Issue) (r:Nat) (pre:List Issue) (n:Int):Int:=if pre.any (fun x=>decide (x.drawing=n)) then 1 + mx (Rr l r) (chI pre n) else 0
def Rq (l:List Issue) (r:Nat) (v:Int) (ys:List Itm):Int:=max (max v 1) (1 + mx (Rr l r) (ys.map (·.drawing)))
theorem mx_append (f:Int→Int) (a b:List Int):mx f (a ++ b)=max (mx f a) (mx f b):=by
 rw [mx,List.foldl_append]
 exact mx_foldl f b _ (mx_nonneg f a)
theorem Rq_nil (l:List Issue) (r:Nat) (v:Int):Rq l r v []=max v 1:=by
 have:mx (Rr l r) []=0:=rfl
 simp only [Rq,List.map_nil,this];omega
theorem Rq_snoc (l:List Issue) (r:Nat) (v:Int) (ys:List Itm) (y:Itm):Rq l r v (ys ++ [y])=max (Rq l r v ys) (1 + Rr l r y.drawing):=by
 have h:=Rr_nonneg l r y.drawing
 have:mx (Rr l r) [y.drawing]=Rr l r y.drawing:=by simp only [mx,List.foldl_cons,List.foldl_nil];omega
 simp only [Rq,List.map_append,List.map_cons,List.map_nil,mx_append,this];omega
theorem Rp_snoc (l:List Issue) (r:Nat) (pre:List Issue) (x:Issue) (n:Int):Rp l r (pre ++ [x]) n=if n=x.drawing then Rq l r (Rp l r pre n) x.items else Rp l r pre n:=by
 by_cases hn:n=x.drawing
 ·subst hn
  rw [if_pos rfl]
  have hc:chI (pre ++ [x]) x.drawing=chI pre x.drawing ++ x.items.map (·.drawing):=by simp [chI,segI]
  have h1:=mx_nonneg (Rr l r) (chI pre x.drawing)
  have h2:=mx_nonneg (Rr l r) (x.items.map (·.drawing))
  unfold Rp
  rw [if_pos (by simp),hc,mx_append]
  unfold Rq
  split
  ·omega
  ·rename_i hp
   have:chI pre x.drawing=[]:=by
    simp only [chI,segI]
    rw [List.filter_eq_nil_iff.2 fun y hy=>?_]
    ·rfl
    ·intro he;exact hp (List.any_eq_true.2 ⟨y,hy,he⟩)
   have h3:mx (Rr l r) []=0:=rfl
   rw [this,h3];omega
 ·rw [if_neg hn]
  have hc:chI (pre ++ [x]) n=chI pre n:=by simp [chI,segI,Ne.symm hn]
  unfold Rp
  rw [hc]
  simp [Ne.symm hn]
theorem Rp_full {l:List Issue} {n:Int} (r:Nat) (h:∃ x∈l,x.drawing=n):Rp l r l n=Rr l (r + 1) n:=by
 unfold Rp
 obtain ⟨x,hx,he⟩:=h
 rw [if_pos (List.any_eq_true.2 ⟨x,hx,by simpa using he⟩)];rfl
theorem issueOk_small {x:Issue} (h:issueOk x=true):x.items.length≤8∧x.dims.length≤4:=by
 simp only [issueOk,Bool.and_assoc] at h
 rw [← Bool.and_assoc,Bool.and_eq_true] at h
 have:=(ck12_iff x).1 h.1;omega
theorem nums_mem {l:List Issue} {n:Int} (h:n∈nums l):∃ x∈l,x.drawing=n:=by
 have gen:∀ k,n∈numsTo l k→∃ x∈l,x.drawing=n:=by
  intro k
  induction k with
  | zero=>intro h;cases h
  | succ k ih =>
    intro h
    simp only [numsTo] at h
    rcases List.mem_append.1 h with h|h
    ·exact ih h
    ·split at h
     ·rename_i x hx
      split at h
      ·rw [List.mem_singleton] at h
       exact ⟨x,List.mem_of_getElem? hx,h.symm⟩
      ·cases h
     ·cases h
 exact gen _ h
theorem listed_scan' {l:List Issue} (h:listedI l=true):scanI none l=some (nums l):=by
 simp only [listedI,Bool.and_eq_true] at h
 obtain ⟨ds,hds⟩:=Option.isSome_iff_exists.1 h.1.1.2
 rw [hds,scan_nums hds]
theorem idx_at {l:List Int} (hn:l.Nodup) {k:Nat} {x:Int} (h:l[k]?=some x):idx l x=k:=by
 refine idx_yes h fun j hj he=>?_
 have h1:=(List.getElem?_eq_some_iff.1 h).1
 rw [← he] at h
 have:=(List.getElem?_inj h1 hn).1 h
 omega
set_option maxHeartbeats 2000000 in
theorem rdepths_c (l:List Issue) (hl:listedI l=true) (objs:List DObj):DCall Tryz.prog G 113 [regv l] objs (fun rr objs'=>rr=isv (depthsL l)∧objs'=objs):=by
 refine DCall.frame ?_ (by simp) (by simp) objs
 refine DCall_intro Tryz.func113 rfl Tryz.ntmps113 (by simp) rfl ?_
 try simp only [regv]
 have hli:=hl
 simp only [listedI,Bool.and_eq_true,decide_eq_true_eq,List.all_eq_true] at hli
 obtain ⟨⟨⟨⟨hl1,hl60⟩,hsc⟩,hitems⟩,hn20⟩:=hli
 have c1:=numbers_c (G:=G) l (by omega)
 have hD:depthsL l=(nums l).map (Rr l ((nums l).length + 1)):=rfl
 obtain ⟨_,hlt',hmem,hok,_⟩:=scan_all (listed_scan' hl)
 have hnd:(nums l).Nodup:=hlt'.imp fun h=>Int.ne_of_lt h
 generalize hns:nums l=ns at *
 have hs:True:=trivial
 repeat' first|(with_reducible first|refine q01 ?_|refine q11 ?_|refine q12 ?_|refine And.intro (by omega) ?_)|(refine CallE.pure (c1) ?_;try simp -dsimp [hs])|(with_reducible refine DT_regionE [0,1,2,3,4,5,6,7,8,9,10,19,29,53] ?_;simp -dsimp [hs])
 all_goals try simp -dsimp [hs]
 all_goals try clear hs
 refine DT_loop (ι:={ r:Nat // r≤ns.length + 1 }) (fun p=>⟨78,[(1,.one (.ptr 0 0)),(3,isv ns),(4,isv (ns.map (Rr l p.1))),(5,iv (p.1:Int))],[.row [.im (.sl (l.map encIssue))]]⟩) (fun p=>ns.length + 1 - p.1) ⟨0,by omega⟩ (Weak.of_drop [1,3,4,5] 1 (by simp) (by simp) (by simp [map_rep (f:=encI ∘ Rr l 0) (c:=[rI 0]) (fun _=>rfl)])) ?_
 rintro ⟨r,hr⟩
 simp only [iv,isv]
 by_cases hrl:r≤ns.length
 ·have hw:IntKind.i64.wrap ((r:Int) + 1)=((r + 1:Nat):Int):=i64w (by omega) (by omega)
  have hs:True:=trivial
  repeat' first|(with_reducible first|refine q01 ?_|refine q11 ?_|refine q12 ?_|refine q14 ?_|refine And.intro (by omega) ?_)|(with_reducible refine DT_regionE [0,1,2,3,4,5,6,7,8,9,10,19,29,53] ?_;simp -dsimp [hrl,hs])|(refine DT_cond rfl (fun h=>?_) (fun h=>?_)<;>(try simp only [nrm] at h)<;>(try exact Bool.noConfusion h))
  all_goals try simp -dsimp [hrl,hs]
  all_goals try clear hs
  refine DT_loop (ι:={ p:Nat×List Int // p.1≤l.length∧p.2=ns.map (Rp l r (l.take p.1)) }) (fun p=>⟨78,[(1,.one (.ptr 0 0)),(3,isv ns),(4,isv (ns.map (Rr l r))),(5,iv (r:Int)),(6,.one (.vec 1 0 0 ns.length)),(7,iv (p.1.1:Int))],[.row [.im (.sl (l.map encIssue))],.vec 1 (ims (p.1.2.map encI)) 0 false]⟩) (fun p=>l.length - p.1.1) ⟨(0,List.replicate ns.length 0),by omega,(map_rep (fun _=>rfl) ns).symm⟩ (Weak.of_keep [1,3,4,5,6,7] (by simp)) ?_
  rintro ⟨⟨i,L⟩,hi,hL⟩
  simp only at hi hL
  simp only [iv,isv]
  by_cases hlt:i < l.length
  ·have hx:l[i]?=some l[i]:=by simp [hlt]
   have hw1:IntKind.i64.wrap ((i:Int) + 1)=((i + 1:Nat):Int):=i64w (by omega) (by omega)
   obtain ⟨k,hk⟩:=List.mem_iff_getElem?.1 (hmem l[i] (List.getElem_mem hlt))
   have hkl:=lt_of_getElem? hk
   have hidx:=idx_at hnd hk
   have c2:=index_c (G:=G) ns l[i].drawing (by omega)
   rw [hidx] at c2
   have hLk:L[k]?=some (Rp l r (l.take i) l[i].drawing):=by rw [hL,List.getElem?_map,hk];rfl
   generalize hv:Rp l r (l.take i) l[i].drawing=v at hLk
   have hit:=hitems l[i] (List.getElem_mem hlt)
   have hsm:=(issueOk_small (hok l[i] (List.getElem_mem hlt))).1
   have hs:True:=trivial
   repeat' first|(with_reducible first|refine q01 ?_|refine q11 ?_|refine q12 ?_|refine q14 ?_)|(refine CallE.pure (c2) ?_;try simp -dsimp [hx,hw1,hlt,hkl,hLk,hs])|(with_reducible refine DT_regionE [0,1,2,3,4,5,6,7,8,9,10,19,29,53] ?_;simp -dsimp [hx,hw1,hlt,hkl,hLk,hs])|(refine DT_cond rfl (fun h=>?_) (fun h=>?_)<;>(try simp only [nrm] at h)<;>(try exact Bool.noConfusion h))
   all_goals try simp -dsimp [hx,hw1,hlt,hkl,hLk,hs]
   all_goals try clear hs
   refine DT_loop (ι:={ p:Nat×List Int // p.1≤l[i].items.length∧p.2=L.set k (Rq l r v (l[i].items.take p.1)) }) (fun p=>⟨78,[(1,.one (.ptr 0 0)),(3,isv ns),(4,isv (ns.map (Rr l r))),(5,iv (r:Int)),(6,.one (.vec 1 0 0 ns.length)),(7,iv (i:Int)),(8,.one (.ptr 4 0)),(9,iv (k:Int)),(10,iv (p.1.1:Int))],[.row [.im (.sl (l.map encIssue))],.vec 1 (ims (p.1.2.map encI)) 0 false,.vec 0 [] 0 true,.vec 0 [] 0 true,.row ((encIssue l[i]).map .im)]⟩) (fun p=>l[i].items.length - p.1.1) ⟨(0,L.set k (max v 1)),by omega,by simp only [List.take_zero,Rq_nil]⟩ (Weak.of_keep [1,3,4,5,6,7,8,9,10] (by simp)) ?_
   rintro ⟨⟨u,L'⟩,hu,hL'⟩
   simp only at hu hL'
   simp only [iv,isv,encIssue,rI,List.map_cons,List.map_nil]
   have hkL:k < L.length:=lt_of_getElem? hLk
   by_cases hlu:u < l[i].items.length
   ·have hy:l[i].items[u]?=some l[i].items[u]:=by simp [hlu]
    have hw2:IntKind.i64.wrap ((u:Int) + 1)=((u + 1:Nat):Int):=i64w (by omega) (by omega)
    obtain ⟨m,hm⟩:=List.mem_iff_getElem?.1 (hit l[i].items[u] (List.getElem_mem hlu))
    have hml:=lt_of_getElem? hm
    have hmn:ns[m]=l[i].items[u].drawing:=(List.getElem?_eq_some_iff.1 hm).2
    have hidx2:=idx_at hnd hm
    have c3:=index_c (G:=G) ns l[i].items[u].drawing (by omega)
    rw [hidx2] at c3
    have hLk':L'[k]?=some (Rq l r v (l[i].items.take u)):=by rw [hL',List.getElem?_set_self hkL]
    have hb1:=Rr_nonneg l r l[i].items[u].drawing
    have hb2:=Rr_le l r l[i].items[u].drawing
    have hw3:IntKind.i64.wrap (1 + Rr l r l[i].items[u].drawing)=1 + Rr l r l[i].items[u].drawing:=i64w (by omega) (by omega)
    have hnext:L'.set k (max (Rq l r v (l[i].items.take u)) (1 + Rr l r l[i].items[u].drawing))=L.set k (Rq l r v (l[i].items.take (u + 1))):=by
     rw [List.take_succ_eq_append_getElem hlu,Rq_snoc,hL',List.set_set]
    have hs:True:=trivial
    repeat' first|(with_reducible first|refine q01 ?_|refine q04 ?_|refine q11 ?_|refine q12 ?_|refine q14 ?_)|(refine QCall_pure (c3) ?_;try simp -dsimp [hy,hw2,hlu,hkl,hLk',hm,hml,hmn,hw3,hs])|(refine DT_regionM (id:=16) (nt:=78) 20 [0,1,2,3,4,5,6,7,8,9,10,19,29,53] mixed rfl (by kernel_rfl) ?_;simp -dsimp [hy,hw2,hlu,hkl,hLk',hm,hml,hmn,hw3,hs])|(with_reducible refine DT_regionE [0,1,2,3,4,5,6,7,8,9,10,19,29,53] ?_;simp -dsimp [hy,hw2,hlu,hkl,hLk',hm,hml,hmn,hw3,hs])|(refine DT_cond rfl (fun h=>?_) (fun h=>?_)<;>(try simp only [nrm] at h)<;>(try exact Bool.noConfusion h))
    all_goals try simp -dsimp [hy,hw2,hlu,hkl,hLk',hm,hml,hmn,hw3,hs]
    all_goals try clear hs
    exact At.round ⟨(u + 1,L'.set k (max (Rq l r v (l[i].items.take u)) (1 + Rr l r l[i].items[u].drawing))),by omega,hnext⟩ (by simp;omega) (Weak.of_keep [1,3,4,5,6,7,8,9,10] (by simp))
   ·have hend:L'=ns.map (Rp l r (l.take (i + 1))):=by
     rw [hL',List.take_of_length_le (by omega),hL,map_set_at hnd hk]
     refine List.map_congr_left fun n _=>?_
     rw [List.take_succ_eq_append_getElem hlt,Rp_snoc]
     split
     ·rename_i e;rw [e,hv]
     ·rfl
    have hs:True:=trivial
    repeat' first|(with_reducible first|refine q01 ?_|refine q03 ?_|refine q04 ?_|refine q06 ?_|refine q11 ?_|refine q16 ?_)|(with_reducible refine DT_regionE [0,1,2,3,4,5,6,7,8,9,10,19,29,53] ?_;simp -dsimp [hlu,hw1,hs])|(refine DT_cond rfl (fun h=>?_) (fun h=>?_)<;>(try simp only [nrm] at h)<;>(try exact Bool.noConfusion h))
    all_goals try simp -dsimp [hlu,hw1,hs]
    all_goals try clear hs
    exact At.round ⟨(i + 1,L'),by omega,hend⟩ (by simp;omega) (Weak.of_drop [1,3,4,5,6,7] 2 (by simp) (by simp) (by simp))
  ·have hend:L=ns.map (Rr l (r + 1)):=by
    rw [hL,List.take_of_length_le (by omega)]
    refine List.map_congr_left fun n hn=>Rp_full r ?_
    rw [← hns] at hn
    exact nums_mem hn
   have hLn:L.length=ns.length:=by rw [hL,List.length_map]
   have hs:True:=trivial
   repeat' first|(with_reducible first|refine q01 ?_|refine q03 ?_|refine q04 ?_|refine q06 ?_|refine q11 ?_|refine q16 ?_)|(with_reducible refine DT_regionE [0,1,2,3,4,5,6,7,8,9,10,19,29,53] ?_;simp -dsimp [hlt,hw,hs])|(refine DT_cond rfl (fun h=>?_) (fun h=>?_)<;>(try simp only [nrm] at h)<;>(try exact Bool.noConfusion h))
   all_goals try simp -dsimp [hlt,hw,hs]
   all_goals try clear hs
   exact At.round ⟨r + 1,by omega⟩ (by simp;omega) (Weak.of_drop [1,3,4,5] 1 (by simp) (by simp) (by simp [← hLn];rw [hend];simp))
 ·have hs:True:=trivial
  repeat' first|(with_reducible first|refine q01 ?_|refine q03 ?_|refine q06 ?_|refine q11 ?_|refine q16 ?_|refine q17 ?_)|(with_reducible refine At.fn_ret (by simp -dsimp [hrl,hs];exact rfl) ?_)|(with_reducible refine DT_regionE [0,1,2,3,4,5,6,7,8,9,10,19,29,53] ?_;simp -dsimp [hrl,hs])|(refine DT_cond rfl (fun h=>?_) (fun h=>?_)<;>(try simp only [nrm] at h)<;>(try exact Bool.noConfusion h))
  all_goals try simp -dsimp [hrl,hs]
  all_goals try clear hs
  have hr1:r=ns.length + 1:=by omega
  rw [hD,hr1];simp
end Go.Proofs
namespace Go.Proofs
open Go Go.Ab
set_option linter.unusedSimpArgs false
variable {G:Nat→Option (List IC)}
theorem scan_iff0 (x:Issue) (r:List Issue):(scanI none (x :: r)).isSome=true↔(issueOk x=true∧x.letter=1)∧(scanI (some x) r).isSome=true:=by
 simp only [scanI]
 by_cases h1:issueOk x=false
 ·simp [h1]
 ·by_cases h2:x.letter=1
  ·simp [h1,h2]
  ·simp [h1,h2]
theorem scan_iff1 (y x:Issue) (r:List Issue):(scanI (some y) (x :: r)).isSome=true↔(issueOk x=true∧(y.drawing=x.drawing∧y.letter + 1=x.letter∧y.kind=x.kind∨y.drawing < x.drawing∧x.letter=1))∧(scanI (some x) r).isSome=true:=by
 simp only [scanI]
 by_cases h1:issueOk x=false
 ·simp [h1]
 ·have h1':issueOk x=true:=by simpa using h1
  by_cases hd:y.drawing=x.drawing
  ·have hlt:¬ x.drawing < x.drawing:=by omega
   by_cases h2:y.letter + 1=x.letter<;>by_cases h3:y.kind=x.kind<;>simp [h1',hd,h2,h3]
  ·by_cases hg:y.drawing > x.drawing
   ·have:¬ y.drawing < x.drawing:=by omega
    simp [h1',hd,hg,this]
   ·have:y.drawing < x.drawing:=by omega
    by_cases h2:x.letter=1<;>simp [h1',hd,hg,h2,this]
theorem idx_neg {l:List Int} {x:Int} (h:x∉l):idx l x=-1:=idx_no fun j _ he=>h (List.mem_of_getElem? he)
theorem idx_nonneg {l:List Int} {x:Int} (h:x∈l):0≤idx l x:=by
 unfold idx
 cases hh:l.idxOf? x with
 | none =>
   rw [List.idxOf?,List.findIdx?_eq_none_iff] at hh
   have:=hh x h;simp at this
 | some i=>simp
theorem idx_mem (l:List Int) (x:Int):idx l x < 0↔x∉l:=by
 constructor
 ·intro h hm;have:=idx_nonneg hm;omega
 ·intro h;rw [idx_neg h];omega
theorem listed_false1 {l:List Issue} (h:(scanI none l).isSome=false):listedI l=false:=by simp [listedI,h]
set_option maxHeartbeats 2000000 in
theorem listed_c (l:List Issue) (hs:SmallR l) (objs:List DObj):DCall Tryz.prog G 112 [regv l] objs (fun rr objs'=>rr=bv (listedI l)∧objs'=objs):=by
 refine DCall.frame ?_ (by simp) (by simp) objs
 refine DCall_intro Tryz.func112 rfl Tryz.ntmps112 (by simp) rfl ?_
 try simp only [regv]
 have hl80:=hs.1
 by_cases hrange:1≤l.length∧l.length≤60
 ·have d1:decide ((1:Int)≤(l.length:Int))=true:=by simp;omega
  have d2:decide ((l.length:Int)≤60)=true:=by simp;omega
  have c0:=within_c (G:=G) (l.length:Int) 1 60
  rw [d1,d2] at c0
  have hs:True:=trivial
  repeat' first|(with_reducible first|refine q01 ?_|refine q11 ?_|refine q12 ?_|refine q14 ?_)|(refine CallE.pure (c0) ?_;try simp -dsimp [hs])|(with_reducible refine DT_regionE [0,1,2,3,4,5,6,7,8,13,18,28,31,38,44,52,53,73,84,99] ?_;simp -dsimp [hs])|(refine DT_cond rfl (fun h=>?_) (fun h=>?_)<;>(try simp only [nrm] at h)<;>(try exact Bool.noConfusion h))
  all_goals try simp -dsimp [hs]
  all_goals try clear hs
  refine DT_loop (ι:={ i:Nat // i≤l.length∧(scanI none l).isSome=(scanI (prevI l i) (l.drop i)).isSome∧∀ x∈l.take i,issueOk x=true }) (fun p=>⟨103,[(1,.one (.ptr 0 0)),(2,bv false),(3,iv (p.1:Int))],[.row [.im (.sl (l.map encIssue))]]⟩) (fun p=>l.length - p.1) ⟨0,by simp [prevI]⟩ (Weak.of_keep [1,2,3] (by simp)) ?_
  rintro ⟨i,hi,hscan,hok⟩
  simp only [iv]
  by_cases hlt:i < l.length
  ·have hx:l[i]?=some l[i]:=by simp [hlt]
   have hw:IntKind.i64.wrap ((i:Int) + 1)=((i + 1:Nat):Int):=i64w (by omega) (by omega)
   have hsm:=hs.2 l[i] (List.getElem_mem hlt)
   have c1:=issue_c (G:=G) l[i] ⟨hsm.1,hsm.2.1⟩ (by omega) (by omega)
   rw [List.drop_eq_getElem_cons hlt] at hscan
   have hnext:prevI l (i + 1)=some l[i]:=by simp [prevI]
   cases hq:issueOk l[i]
   ·rw [hq] at c1
    have hf:listedI l=false:=listed_false1 (by
     rw [hscan]
     cases prevI l i with
     | none=>exact false_step (scan_iff0 l[i] _) (by simp [hq])
     | some y=>exact false_step (scan_iff1 y l[i] _) (by simp [hq]))
    have hs:True:=trivial
    repeat' first|(with_reducible first|refine q01 ?_|refine q02 ?_|refine q05 ?_|refine q11 ?_|refine q12 ?_|refine q14 ?_|refine q17 ?_)|(with_reducible refine At.fn_ret (by simp -dsimp [hx,hlt,hs];exact rfl) ?_)|(refine CallE.pure (c1) ?_;try simp -dsimp [hx,hlt,hs])|(with_reducible refine DT_regionE [0,1,2,3,4,5,6,7,8,13,18,28,31,38,44,52,53,73,84,99] ?_;simp -dsimp [hx,hlt,hs])|(refine DT_cond rfl (fun h=>?_) (fun h=>?_)<;>(try simp only [nrm] at h)<;>(try exact Bool.noConfusion h))
    all_goals try simp -dsimp [hx,hlt,hs]
    all_goals try clear hs
    simp [hf]
   ·rw [hq] at c1
    have hokn:∀ x∈l.take (i + 1),issueOk x=true:=by
     rw [List.take_succ_eq_append_getElem hlt]
     intro x hx
     rcases List.mem_append.1 hx with h|h
     ·exact hok x h
     ·simp at h;rw [h];exact hq
    have hdr:1≤l[i].drawing:=by
     simp only [issueOk,Bool.and_assoc] at hq
     rw [← Bool.and_assoc,Bool.and_eq_true] at hq
     have:=(ck12_iff _).1 hq.1;omega
    by_cases hi0:i=0
    ·subst hi0
     have hst:=scan_iff0 l[0] (l.drop 1)
     simp only [prevI] at hscan
     rw [Nat.zero_add] at hscan
     rw [← hscan] at hst
     have hs:True:=trivial
     repeat' first|(with_reducible first|refine q01 ?_|refine q02 ?_|refine q04 ?_|refine q05 ?_|refine q11 ?_|refine q12 ?_|refine q14 ?_|refine q17 ?_)|(with_reducible refine At.fn_ret (by simp -dsimp [hx,hlt,hw,hs];exact rfl) ?_)|(refine CallE.pure (c1) ?_;try simp -dsimp [hx,hlt,hw,hs])|(with_reducible refine DT_regionE [0,1,2,3,4,5,6,7,8,13,18,28,31,38,44,52,53,73,84,99] ?_;simp -dsimp [hx,hlt,hw,hs])|(refine DT_cond rfl (fun h=>?_) (fun h=>?_)<;>(try simp only [nrm] at h)<;>(try exact Bool.noConfusion h))|(with_reducible refine GStop_split ?_ ?_<;>intro h<;>have h0:=h<;>(try simp only [nrm] at h)<;>(try exact Bool.noConfusion h)<;>have h2:=h<;>(try simp at h2)<;>(replace hs:=And.intro h0 (And.intro h (And.intro h2 hs)))<;>simp -dsimp [h0,h,h2,hx,hlt,hw,hs])
     all_goals try simp -dsimp [hx,hlt,hw,hs]
     all_goals try clear hs
     all_goals first
      | (exfalso;omega)
      | (have hf:=listed_false1 (false_step hst (by omega));simp [hf];done)
      | exact At.round ⟨1,by omega,by rw [hnext];exact eq_of_step hst ⟨hq,by omega⟩,hokn⟩ (by simp;omega) (Weak.of_drop [1,2,3] 1 (by simp) (by simp) (by simp;exact i64w (by omega) (by omega)))
    ·obtain ⟨m,rfl⟩:∃ m,i=m + 1:=⟨i - 1,by omega⟩
     have hy:l[m]?=some l[m]:=by simp
     have hw1:IntKind.i64.wrap (((m + 1:Nat):Int) - 1)=m:=i64w (by omega) (by omega) |>.trans (by omega)
     have hw2:IntKind.i64.wrap (m:Int)=m:=i64w (by omega) (by omega)
     have hoky:=hok l[m] (List.mem_take_iff_getElem.2 ⟨m,by omega,rfl⟩)
     have hlet:1≤l[m].letter∧l[m].letter≤8:=by simp [issueOk,ck1] at hoky;omega
     have hwl:IntKind.i64.wrap (l[m].letter + 1)=l[m].letter + 1:=i64w (by omega) (by omega)
     have hst:=scan_iff1 l[m] l[m + 1] (l.drop (m + 1 + 1))
     simp only [prevI,hy] at hscan
     rw [← hscan] at hst
     have hpos:(0:Int) < (m:Int) + 1:=by omega
     have hlt2:(m:Int) + 1 < (l.length:Int):=by omega
     have hge:(0:Int)≤(m:Int) + 1:=by omega
     have hs:True:=trivial
     repeat' first|(with_reducible first|refine q01 ?_|refine q02 ?_|refine q04 ?_|refine q05 ?_|refine q11 ?_|refine q12 ?_|refine q14 ?_|refine q17 ?_)|(with_reducible refine At.fn_ret (by simp -dsimp [hge,hx,hlt,hlt2,hw,hy,hw1,hw2,hwl,hpos,hs];exact rfl) ?_)|(refine CallE.pure (c1) ?_;try simp -dsimp [hge,hx,hlt,hlt2,hw,hy,hw1,hw2,hwl,hpos,hs])|(with_reducible refine DT_regionE [0,1,2,3,4,5,6,7,8,13,18,28,31,38,44,52,53,73,84,99] ?_;simp -dsimp [hge,hx,hlt,hlt2,hw,hy,hw1,hw2,hwl,hpos,hs])|(refine DT_cond rfl (fun h=>?_) (fun h=>?_)<;>(try simp only [nrm] at h)<;>(try exact Bool.noConfusion h))|(with_reducible refine GStop_split ?_ ?_<;>intro h<;>have h0:=h<;>(try simp only [nrm] at h)<;>(try exact Bool.noConfusion h)<;>have h2:=h<;>(try simp at h2)<;>(replace hs:=And.intro h0 (And.intro h (And.intro h2 hs)))<;>simp -dsimp [h0,h,h2,hge,hx,hlt,hlt2,hw,hy,hw1,hw2,hwl,hpos,hs])
     all_goals try simp -dsimp [hge,hx,hlt,hlt2,hw,hy,hw1,hw2,hwl,hpos,hs]
     all_goals try clear hs
     all_goals first
      | (exfalso;omega)
      | (have hf:=listed_false1 (false_step hst (by omega));simp [hf];done)
      | exact At.round ⟨m + 1 + 1,by omega,by rw [hnext];exact eq_of_step hst ⟨hq,by omega⟩,hokn⟩ (by simp;omega) (Weak.of_drop [1,2,3] 1 (by simp) (by simp) (by simp;try exact i64w (by omega) (by omega)))
  ·have hsome:(scanI none l).isSome=true:=by
    rw [hscan,List.drop_eq_nil_of_le (by omega)]
    cases prevI l i<;>rfl
   have c2:=numbers_c (G:=G) l (by omega)
   have hE:listedI l=(l.all (fun x=>x.items.all fun y=>decide (y.drawing∈nums l)) && decide ((nums l).length≤20)):=by
    simp [listedI,hsome,hrange]
   have hnl:(nums l).length≤l.length:=numsTo_length l l.length
   generalize nums l=ns at *
   have hs:True:=trivial
   repeat' first|(with_reducible first|refine q01 ?_|refine q03 ?_|refine q06 ?_|refine q11 ?_|refine q12 ?_|refine q16 ?_)|(refine CallE.pure (c2) ?_;try simp -dsimp [hlt,hs])|(with_reducible refine DT_regionE [0,1,2,3,4,5,6,7,8,13,18,28,31,38,44,52,53,73,84,99] ?_;simp -dsimp [hlt,hs])|(refine DT_cond rfl (fun h=>?_) (fun h=>?_)<;>(try simp only [nrm] at h)<;>(try exact Bool.noConfusion h))
   all_goals try simp -dsimp [hlt,hs]
   all_goals try clear hs
   refine DT_loop (ι:={ i:Nat // i≤l.length∧l.all (fun x=>x.items.all fun y=>decide (y.drawing∈ns))=(l.drop i).all (fun x=>x.items.all fun y=>decide (y.drawing∈ns)) }) (fun p=>⟨103,[(1,.one (.ptr 0 0)),(2,bv false),(6,isv ns),(7,iv (p.1:Int))],[.row [.im (.sl (l.map encIssue))]]⟩) (fun p=>l.length - p.1) ⟨0,by simp⟩ (Weak.of_drop [1,2,6,7] 1 (by simp) (by simp) (by simp)) ?_
   clear hscan hok
   rintro ⟨k,hk,hall⟩
   simp only [iv,isv]
   by_cases hlk:k < l.length
   ·have hx:l[k]?=some l[k]:=by simp [hlk]
    have hw:IntKind.i64.wrap ((k:Int) + 1)=((k + 1:Nat):Int):=i64w (by omega) (by omega)
    have hst:=all_step hlk hall
    have hsm:=hs.2 l[k] (List.getElem_mem hlk)
    have hs:True:=trivial
    repeat' first|(with_reducible first|refine q01 ?_|refine q11 ?_|refine q12 ?_|refine q14 ?_)|(with_reducible refine DT_regionE [0,1,2,3,4,5,6,7,8,13,18,28,31,38,44,52,53,73,84,99] ?_;simp -dsimp [hx,hlk,hw,hs])|(refine DT_cond rfl (fun h=>?_) (fun h=>?_)<;>(try simp only [nrm] at h)<;>(try exact Bool.noConfusion h))
    all_goals try simp -dsimp [hx,hlk,hw,hs]
    all_goals try clear hs
    refine DT_loop (ι:={ u:Nat // u≤l[k].items.length∧l[k].items.all (fun y=>decide (y.drawing∈ns))=(l[k].items.drop u).all (fun y=>decide (y.drawing∈ns)) }) (fun p=>⟨103,[(1,.one (.ptr 0 0)),(2,bv false),(6,isv ns),(7,iv (k:Int)),(8,iv (p.1:Int))],[.row [.im (.sl (l.map encIssue))]]⟩) (fun p=>l[k].items.length - p.1) ⟨0,by simp⟩ (Weak.of_keep [1,2,6,7,8] (by simp)) ?_
    rintro ⟨u,hu,hall2⟩
    simp only [iv,isv]
    by_cases hlu:u < l[k].items.length
    ·have hy:l[k].items[u]?=some l[k].items[u]:=by simp [hlu]
     have hw2:IntKind.i64.wrap ((u:Int) + 1)=((u + 1:Nat):Int):=i64w (by omega) (by omega)
     have c3:=index_c (G:=G) ns l[k].items[u].drawing (by omega)
     have hm:=idx_mem ns l[k].items[u].drawing
     have hst2:=all_step hlu hall2
     generalize idx ns l[k].items[u].drawing=z at c3 hm
     have hs:True:=trivial
     repeat' first|(with_reducible first|refine q01 ?_|refine q02 ?_|refine q04 ?_|refine q05 ?_|refine q11 ?_|refine q12 ?_|refine q14 ?_|refine q17 ?_)|(with_reducible refine At.fn_ret (by simp -dsimp [hx,hlk,hy,hlu,hw2,hs];exact rfl) ?_)|(refine CallE.pure (c3) ?_;try simp -dsimp [hx,hlk,hy,hlu,hw2,hs])|(with_reducible refine DT_regionE [0,1,2,3,4,5,6,7,8,13,18,28,31,38,44,52,53,73,84,99] ?_;simp -dsimp [hx,hlk,hy,hlu,hw2,hs])|(refine DT_cond rfl (fun h=>?_) (fun h=>?_)<;>(try simp only [nrm] at h)<;>(try exact Bool.noConfusion h))
     all_goals try simp -dsimp [hx,hlk,hy,hlu,hw2,hs]
     all_goals try clear hs
     ·have hn:=hm.1 ‹z < 0›
      have h1:=false_step hst2 (by simpa using hn)
      have h2:=false_step hst (by rw [h1];exact Bool.false_ne_true)
      rw [hE,h2];rfl
     ·have hn:l[k].items[u].drawing∈ns:=Classical.byContradiction fun hn=>absurd (hm.2 hn) ‹_›
      exact At.round ⟨u + 1,by omega,eq_of_step hst2 (by simpa using hn)⟩ (by simp;omega) (Weak.of_keep [1,2,6,7,8] (by simp))
    ·have h1:l[k].items.all (fun y=>decide (y.drawing∈ns))=true:=by rw [hall2,List.drop_eq_nil_of_le (by omega)];rfl
     have hs:True:=trivial
     repeat' first|(with_reducible first|refine q01 ?_|refine q03 ?_|refine q04 ?_|refine q06 ?_|refine q11 ?_|refine q16 ?_)|(with_reducible refine DT_regionE [0,1,2,3,4,5,6,7,8,13,18,28,31,38,44,52,53,73,84,99] ?_;simp -dsimp [hx,hlk,hlu,hw,hs])|(refine DT_cond rfl (fun h=>?_) (fun h=>?_)<;>(try simp only [nrm] at h)<;>(try exact Bool.noConfusion h))
     all_goals try simp -dsimp [hx,hlk,hlu,hw,hs]
     all_goals try clear hs
     exact At.round ⟨k + 1,by omega,eq_of_step hst h1⟩ (by simp;omega) (Weak.of_keep [1,2,6,7] (by simp))
   ·have h1:l.all (fun x=>x.items.all fun y=>decide (y.drawing∈ns))=true:=by rw [hall,List.drop_eq_nil_of_le (by omega)];rfl
    rw [h1,Bool.true_and] at hE
    have hs:True:=trivial
    repeat' first|(with_reducible first|refine q01 ?_|refine q03 ?_|refine q06 ?_|refine q11 ?_|refine q16 ?_|refine q17 ?_)|(with_reducible refine At.fn_ret (by simp -dsimp [hlk,hs];exact rfl) ?_)|(with_reducible refine DT_regionE [0,1,2,3,4,5,6,7,8,13,18,28,31,38,44,52,53,73,84,99] ?_;simp -dsimp [hlk,hs])|(refine DT_cond rfl (fun h=>?_) (fun h=>?_)<;>(try simp only [nrm] at h)<;>(try exact Bool.noConfusion h))
    all_goals try simp -dsimp [hlk,hs]
    all_goals try clear hs
    rw [hE];simp;omega
 ·have hf:listedI l=false:=by simp only [listedI];rw [decide_eq_false hrange];rfl
  have c0:=within_c (G:=G) (l.length:Int) 1 60
  have hd:(decide ((1:Int)≤(l.length:Int)) && decide ((l.length:Int)≤60))=false:=by simp;omega
  rw [hd] at c0
  have hs:True:=trivial
  repeat' first|(with_reducible first|refine q01 ?_|refine q02 ?_|refine q11 ?_|refine q17 ?_)|(with_reducible refine At.fn_ret (by simp -dsimp [hs];exact rfl) ?_)|(refine CallE.pure (c0) ?_;try simp -dsimp [hs])|(with_reducible refine DT_regionE [0,1,2,3,4,5,6,7,8,13,18,28,31,38,44,52,53,73,84,99] ?_;simp -dsimp [hs])|(refine DT_cond rfl (fun h=>?_) (fun h=>?_)<;>(try simp only [nrm] at h)<;>(try exact Bool.noConfusion h))
  all_goals try simp -dsimp [hs]
  all_goals try clear hs
  simp [hf]
end Go.Proofs
namespace Go.Proofs
open Go Go.Ab
set_option linter.unusedSimpArgs false
variable {G:Nat→Option (List IC)}
theorem mostL_drop {l:List Int} {k:Nat} (hlt:k < l.length) (a:Int) (h:mostL l=(l.drop k).foldl max a):mostL l=(l.drop (k + 1)).foldl max (max a l[k]):=by
 rw [h,List.drop_eq_getElem_cons hlt,List.foldl_cons]
set_option maxHeartbeats 1000000 in
theorem rcheck_c (l:List Issue) (hs:SmallR l) (objs:List DObj):DCall Tryz.prog G 85 [regv l] objs (fun rr objs'=>rr=iv (checkR l)∧objs'=objs):=by
 refine DCall.frame ?_ (by simp) (by simp) objs
 refine DCall_intro Tryz.func85 rfl Tryz.ntmps85 (by simp) rfl ?_
 try simp only [regv]
 have c1:=listed_c (G:=G) l hs
 cases hL:listedI l
 ·rw [hL] at c1
  have hs:True:=trivial
  repeat' first|(with_reducible first|refine q01 ?_|refine q02 ?_|refine q11 ?_|refine q17 ?_)|(with_reducible refine At.fn_ret (by simp -dsimp [hs];exact rfl) ?_)|(refine CallE.pure (c1) ?_;try simp -dsimp [hs])|(with_reducible refine DT_regionE [0,1,2,3,4,5,8,14,23,28] ?_;simp -dsimp [hs])|(refine DT_cond rfl (fun h=>?_) (fun h=>?_)<;>(try simp only [nrm] at h)<;>(try exact Bool.noConfusion h))
  all_goals try simp -dsimp [hs]
  all_goals try clear hs
  simp [checkR,hL]
 ·rw [hL] at c1
  have c2:=rdepths_c (G:=G) l hL
  have hlen:(depthsL l).length≤80:=by
   have:=numsTo_length l l.length
   have:=hs.1
   simp only [depthsL,List.length_map,nums];omega
  have hE:checkR l=if mostL (depthsL l) > (depthsL l).length then 21 else if mostL (depthsL l) > 6 then 20 else 0:=by simp [checkR,hL]
  generalize depthsL l=D at c2 hE hlen
  have hs:True:=trivial
  repeat' first|(with_reducible first|refine q01 ?_|refine q11 ?_|refine q12 ?_|refine q14 ?_)|(refine CallE.pure (c1) ?_;try simp -dsimp [hs])|(refine CallE.pure (c2) ?_;try simp -dsimp [hs])|(with_reducible refine DT_regionE [0,1,2,3,4,5,8,14,23,28] ?_;simp -dsimp [hs])|(refine DT_cond rfl (fun h=>?_) (fun h=>?_)<;>(try simp only [nrm] at h)<;>(try exact Bool.noConfusion h))
  all_goals try simp -dsimp [hs]
  all_goals try clear hs
  refine DT_loop (ι:={ p:Nat×Int // p.1≤D.length∧mostL D=(D.drop p.1).foldl max p.2 }) (fun p=>⟨31,[(1,.one (.ptr 0 0)),(2,iv 0),(3,isv D),(4,iv p.1.2),(5,iv (p.1.1:Int))],[.row [.im (.sl (l.map encIssue))]]⟩) (fun p=>D.length - p.1.1) ⟨(0,0),by simp [mostL]⟩ (Weak.of_keep [1,2,3,4,5] (by simp)) ?_
  rintro ⟨⟨k,a⟩,hk,ha⟩
  simp only at hk ha
  simp only [iv,isv]
  by_cases hlt:k < D.length
  ·have hx:D[k]?=some D[k]:=by simp [hlt]
   have hw:IntKind.i64.wrap ((k:Int) + 1)=((k + 1:Nat):Int):=i64w (by omega) (by omega)
   have hs:True:=trivial
   repeat' first|(with_reducible first|refine q01 ?_|refine q04 ?_|refine q11 ?_|refine q12 ?_|refine q14 ?_)|(with_reducible refine DT_regionE [0,1,2,3,4,5,8,14,23,28] ?_;simp -dsimp [hx,hw,hlt,hs])|(refine DT_cond rfl (fun h=>?_) (fun h=>?_)<;>(try simp only [nrm] at h)<;>(try exact Bool.noConfusion h))
   all_goals try simp -dsimp [hx,hw,hlt,hs]
   all_goals try clear hs
   exact At.round ⟨(k + 1,max a D[k]),by omega,mostL_drop hlt a ha⟩ (by simp;omega) (Weak.of_keep [1,2,3,4,5] (by simp))
  ·have ha':mostL D=a:=by rw [ha,List.drop_eq_nil_of_le (by omega)];rfl
   rw [ha'] at hE
   have hs:True:=trivial
   repeat' first|(with_reducible first|refine q01 ?_|refine q02 ?_|refine q03 ?_|refine q04 ?_|refine q05 ?_|refine q06 ?_|refine q11 ?_|refine q12 ?_|refine q14 ?_|refine q16 ?_|refine q17 ?_)|(with_reducible refine At.fn_ret (by simp -dsimp [hlt,hs];exact rfl) ?_)|(with_reducible refine DT_regionE [0,1,2,3,4,5,8,14,23,28] ?_;simp -dsimp [hlt,hs])|(refine DT_cond rfl (fun h=>?_) (fun h=>?_)<;>(try simp only [nrm] at h)<;>(try exact Bool.noConfusion h))
   all_goals try simp -dsimp [hlt,hs]
   all_goals try clear hs
   all_goals rw [hE]
   ·rw [if_pos (by omega)]
   ·rw [if_neg (by omega),if_pos (by omega)]
   ·rw [if_neg (by omega),if_neg (by omega)]
def lastOf (l:List Issue) (d:Int):Int:=l.foldl (fun n x=>if x.drawing=d then max n x.letter else n) 0
theorem lastOf_c (l:List Issue) (d:Int) (hl:l.length < 1000000) (objs:List DObj):DCall Tryz.prog G 55 [regv l,iv d] objs (fun rr objs'=>rr=iv (lastOf l d)∧objs'=objs):=by
 refine DCall.frame ?_ (by simp) (by simp) objs
 refine DCall_intro Tryz.func55 rfl Tryz.ntmps55 (by simp) rfl ?_
 try simp only [regv,iv]
 have hs:True:=trivial
 repeat' first|(with_reducible first|refine q01 ?_|refine q11 ?_|refine q12 ?_)|(with_reducible refine DT_regionE [0,1,2,4,5,6,11,21] ?_;simp -dsimp [hs])
 all_goals try simp -dsimp [hs]
 all_goals try clear hs
 refine DT_loop (ι:={ p:Nat×Int // p.1≤l.length∧lastOf l d=(l.drop p.1).foldl (fun n x=>if x.drawing=d then max n x.letter else n) p.2 }) (fun p=>⟨31,[(1,iv d),(2,.one (.ptr 0 0)),(5,iv p.1.2),(6,iv (p.1.1:Int))],[.row [.im (.sl (l.map encIssue))]]⟩) (fun p=>l.length - p.1.1) ⟨(0,0),by simp [lastOf]⟩ (Weak.of_keep [1,2,5,6] (by simp)) ?_
 rintro ⟨⟨k,a⟩,hk,ha⟩
 simp only at hk ha
 simp only [iv]
 by_cases hlt:k < l.length
 ·have hx:l[k]?=some l[k]:=by simp [hlt]
  have hw:IntKind.i64.wrap ((k:Int) + 1)=((k + 1:Nat):Int):=i64w (by omega) (by omega)
  rw [List.drop_eq_getElem_cons hlt,List.foldl_cons] at ha
  have hs:True:=trivial
  repeat' first|(with_reducible first|refine q01 ?_|refine q04 ?_|refine q11 ?_|refine q12 ?_|refine q14 ?_)|(with_reducible refine DT_regionE [0,1,2,4,5,6,11,21] ?_;simp -dsimp [hx,hw,hlt,hs])|(refine DT_cond rfl (fun h=>?_) (fun h=>?_)<;>(try simp only [nrm] at h)<;>(try exact Bool.noConfusion h))
  all_goals try simp -dsimp [hx,hw,hlt,hs]
  all_goals try clear hs
  ·exact At.round ⟨(k + 1,max a l[k].letter),by omega,by rw [ha,if_pos ‹_›]⟩ (by simp;omega) (Weak.of_keep [1,2,5,6] (by simp))
  ·exact At.round ⟨(k + 1,a),by omega,by rw [ha,if_neg ‹_›]⟩ (by simp;omega) (Weak.of_keep [1,2,5,6] (by simp))
 ·have ha':lastOf l d=a:=by rw [ha,List.drop_eq_nil_of_le (by omega)];rfl
  have hs:True:=trivial
  repeat' first|(with_reducible first|refine q01 ?_|refine q03 ?_|refine q06 ?_|refine q11 ?_|refine q16 ?_|refine q17 ?_)|(with_reducible refine At.fn_ret (by simp -dsimp [hlt,hs];exact rfl) ?_)|(with_reducible refine DT_regionE [0,1,2,4,5,6,11,21] ?_;simp -dsimp [hlt,hs])|(refine DT_cond rfl (fun h=>?_) (fun h=>?_)<;>(try simp only [nrm] at h)<;>(try exact Bool.noConfusion h))
  all_goals try simp -dsimp [hlt,hs]
  all_goals try clear hs
  rw [ha']
def letterOk (l:List Issue) (p:Int×Int):Bool:=decide (1≤p.2) && decide (p.2≤lastOf l p.1)
def lettersI (l:List Issue) (lets:List Int):Bool:=decide (lets.length=(nums l).length) && ((nums l).zip lets).all (letterOk l)
def takeI (l:List Issue) (lets:List Int) (d:Int):Issue:=(findI l d ((lets[(idx (nums l) d).toNat]?).getD 0)).getD zIssue
end Go.Proofs
namespace Go.Proofs
open Go Go.Ab
theorem lastOf_fold (d:Int):∀ (l:List Issue) (a:Int),a≤l.foldl (fun n x=>if x.drawing=d then max n x.letter else n) a∧(∀ x∈l,x.drawing=d→x.letter≤l.foldl (fun n x=>if x.drawing=d then max n x.letter else n) a) ∧
 (l.foldl (fun n x=>if x.drawing=d then max n x.letter else n) a=a∨∃ x∈l,x.drawing=d∧x.letter=l.foldl (fun n x=>if x.drawing=d then max n x.letter else n) a)
 | [],a=>by simp
 | y :: l,a=>by
   obtain ⟨h1,h2,h3⟩:=lastOf_fold d l (if y.drawing=d then max a y.letter else a)
   simp only [List.foldl_cons]
   have h0:a≤(if y.drawing=d then max a y.letter else a):=by split<;>omega
   refine ⟨by omega,fun x hx hd=>?_,?_⟩
   ·rcases List.mem_cons.1 hx with rfl|hx
    ·rw [if_pos hd] at h1 ⊢;omega
    ·exact h2 x hx hd
   ·rcases h3 with h3|⟨x,hx,hd,he⟩
    ·by_cases hy:y.drawing=d
     ·rw [if_pos hy] at h3 ⊢
      by_cases hm:a≤y.letter
      ·exact .inr ⟨y,by simp,hy,by omega⟩
      ·exact .inl (by omega)
     ·rw [if_neg hy] at h3 ⊢
      exact .inl h3
    ·exact .inr ⟨x,by simp [hx],hd,he⟩
end Go.Proofs
namespace Go.Ab
open Go
def encMB (m:List (Int×Bool)):List (List Value×List DC):=m.map fun p=>(kI p.1,[.im (rB p.2)])
def blook (n:Int):List (Int×Bool)→Option Bool
 | []=>none
 | p :: r=>if p.1=n then some p.2 else blook n r
def bput (n:Int) (v:Bool):List (Int×Bool)→List (Int×Bool)
 | []=>[(n,v)]
 | p :: r=>if p.1=n then (n,v) :: r else p :: bput n v r
theorem blook_bput (n k:Int) (v:Bool):∀ m,blook k (bput n v m)=if n=k then some v else blook k m
 | []=>by simp [bput,blook]
 | p :: r=>by
   have ih:=blook_bput n k v r
   simp only [bput]
   split
   ·rename_i h
    simp only [blook]
    split
    ·rfl
    ·rename_i h2
     rw [if_neg (by omega)]
   ·rename_i h
    simp only [blook,ih]
    split
    ·rename_i h2
     rw [if_neg (by omega)]
    ·rfl
@[simp] theorem mget_B (m:List (Int×Bool)) (n:Int):mget [.int .i64 n] (encMB m) [.im (.raw (.bool false))]=[.im (.raw (.bool ((blook n m).getD false)))]:=by
 induction m with
 | nil=>rfl
 | cons p r ih =>
   have e:encMB (p :: r)=(kI p.1,[.im (rB p.2)]) :: encMB r:=rfl
   rw [e]
   simp only [mget,mfind,blook,beqs_k,decide_eq_true_eq] at ih ⊢
   split
   ·rfl
   ·exact ih
@[simp] theorem mhas_B (m:List (Int×Bool)) (n:Int):mhas [.int .i64 n] (encMB m)=(blook n m).isSome:=by
 induction m with
 | nil=>rfl
 | cons p r ih =>
   have e:encMB (p :: r)=(kI p.1,[.im (rB p.2)]) :: encMB r:=rfl
   rw [e]
   simp only [mhas,mfind,blook,beqs_k,decide_eq_true_eq] at ih ⊢
   split
   ·rfl
   ·exact ih
@[simp] theorem mset_B (m:List (Int×Bool)) (n:Int) (v:Bool):mset [.int .i64 n] [.im (.raw (.bool v))] (encMB m)=encMB (bput n v m):=by
 induction m with
 | nil=>rfl
 | cons p r ih =>
   have e:encMB (p :: r)=(kI p.1,[.im (rB p.2)]) :: encMB r:=rfl
   rw [e]
   simp only [mset,bput,beqs_k,decide_eq_true_eq] at ih ⊢
   split
   ·rfl
   ·rw [ih];rfl
@[simp] theorem encMB_len (m:List (Int×Bool)):(encMB m).length=m.length:=by simp [encMB]
@[simp] theorem map_fz_B (n:Nat) (objs:List DObj) (m:List (Int×Bool)):((encMB m).map fun x=>(x.1,x.2.map (fz n objs)))=encMB m:=by
 simp [encMB,fz,DC.lt]
@[simp] theorem map_rn_B (e:Nat→Nat) (m:List (Int×Bool)):((encMB m).map fun x=>(x.1,rnL e x.2))=encMB m:=by
 simp [encMB,rnL,rnC]
section
variable {P:Program} {G:Nat→Option (List IC)}
theorem CallE.embed_ex {ι:Type} {f:FuncId} {args args0:List DV} {objs objs0:List DObj} {p:ι→Prop} {o1:ι→List DObj} {d0:ι→DV} {Q:DV→List DObj→Prop} {t:Tok Q} (es:List Nat) (h:DCall P G f args0 objs0 (fun d o=>∃ i,p i∧d=d0 i∧o=o1 i))
 (ha:args0.map (rnV (emb es objs.length))=args) (hl:es.length=objs0.length) (hnd:es.Nodup) (hes:∀ x∈es,x < objs.length)
 (hobj:∀ i d,objs0[i]?=some d→objs[emb es objs.length i]?=some (rnO (emb es objs.length) d)) (hq:∀ i,p i→Q (rnV (emb es objs.length) (d0 i)) (mergeO es objs (o1 i))):CallE P G f args objs Q t:=by
 subst ha
 refine (DCall.embed es h hl hnd hes hobj).mono fun d o ⟨d',o',⟨i,hp,h1,h2⟩,_,h3,h4⟩=>?_
 subst h1;subst h2;subst h3;subst h4
 exact hq i hp
end
end Go.Ab
namespace Go.Ab
open Go
def isort (l:List Int):List Int:=l.mergeSort fun x y=>decide (x≤y)
theorem isort_len (l:List Int):(isort l).length=l.length:=by simp [isort]
end Go.Ab
namespace Go.Ab
open Go
@[simp] theorem rn_ims (e:Nat→Nat) (l:List (List IC)):(ims l).map (rnL e)=ims l:=by
 simp only [ims,List.map_map]
 exact List.map_congr_left fun x _=>by simp [rnL_im]
@[simp] theorem emb_nil (n o:Nat):emb [] n o=n + o:=by simp [emb]
attribute [simp] rnV rnC rnL rnVL rnO putO
def clrI (L:List Int) (off len:Nat):List Int:=L.take off ++ (List.replicate len 0 ++ L.drop (off + len))
theorem clrI_len {L:List Int} {off len:Nat} (h:off + len≤L.length):(clrI L off len).length=L.length:=by simp [clrI];omega
@[simp] theorem dclearE_I (L:List Int) (off len:Nat):dclearE (ims (L.map encI)) off len (.im (.raw (.int .i64 0)))=ims ((clrI L off len).map encI):=by
 simp only [dclearE,clrI,ims,List.map_append,List.map_take,List.map_drop,List.map_replicate]
 rfl
theorem QCall.thaw {P:Program} {G:Nat→Option (List IC)} {f:FuncId} {args args0:List DV} {d0:DV} {objs:List DObj} {K:DV→Prop} {t:Tok K} (h:∀ objs,DCall P G f args0 objs (fun d o=>d=d0∧o=objs)) (ha:args0=args.map (fzV 0 objs)) (hd:FlV d0) (hk:K d0):QCall P G f args objs K t:=
 ⟨d0,DCall.thaw h ha hd,hk⟩
end Go.Ab
namespace Go.Proofs
open Go Go.Ab
set_option linter.unusedSimpArgs false
variable {G:Nat→Option (List IC)}
def leavesF (tk:Int→Issue):Nat→Int→Int→List (Int×Int)
 | 0,_,_=>[]
 | k + 1,d,m=>if 1 < (tk d).kind then [(d,m)] else (tk d).items.flatMap fun y=>leavesF tk k y.drawing (IntKind.i64.wrap (m * y.count))
end Go.Proofs
namespace Go.Ab
open Go
def zIs:Issue:=⟨0,0,0,[],[]⟩
def mlookS (m:List (Int×Issue)) (n:Int):Issue:=match m with
 | []=>zIs
 | p :: r=>if p.1=n then p.2 else mlookS r n
def mputS (n:Int) (v:Issue):List (Int×Issue)→List (Int×Issue)
 | []=>[(n,v)]
 | p :: r=>if p.1=n then (n,v) :: r else p :: mputS n v r
def encMS (m:List (Int×Issue)):List (List Value×List DC):=m.map fun p=>(kI p.1,(encIssue p.2).map .im)
def encMSI (m:List (Int×Issue)):List (List Value×List IC):=m.map fun p=>(kI p.1,encIssue p.2)
theorem encMS_cons (p:Int×Issue) (r:List (Int×Issue)):encMS (p :: r)=(kI p.1,(encIssue p.2).map .im) :: encMS r:=rfl
@[simp] theorem mget_MS (m:List (Int×Issue)) (n:Int):mget [.int .i64 n] (encMS m) [.im (.raw (.int .i64 0)),.im (.raw (.int .i64 0)),.im (.raw (.int .u8 0)),.im (.sl []),.im (.sl [])]=(encIssue (mlookS m n)).map .im:=by
 induction m with
 | nil=>rfl
 | cons p r ih =>
   rw [encMS_cons]
   simp only [mget,mfind,mlookS,beqs_k,decide_eq_true_eq] at ih ⊢
   split
   ·rfl
   ·exact ih
theorem mset_MS' (m:List (Int×Issue)) (n:Int) (v:Issue):mset [.int .i64 n] ((encIssue v).map .im) (encMS m)=encMS (mputS n v m):=by
 induction m with
 | nil=>rfl
 | cons p r ih =>
   rw [encMS_cons]
   simp only [mset,mputS,beqs_k,decide_eq_true_eq] at ih ⊢
   split
   ·rfl
   ·rw [ih];rfl
@[simp] theorem mset_MS (m:List (Int×Issue)) (n a b k:Int) (i:List Itm) (d:List Dim):mset [.int .i64 n] [.im (.raw (.int .i64 a)),.im (.raw (.int .i64 b)),.im (.raw (.int .u8 k)),.im (.sl (i.map encItem)),.im (.sl (d.map encDim))] (encMS m)=encMS (mputS n ⟨a,b,k,i,d⟩ m):=mset_MS' m n ⟨a,b,k,i,d⟩
@[simp] theorem encMS_len (m:List (Int×Issue)):(encMS m).length=m.length:=by simp [encMS]
@[simp] theorem imE_MSI (m:List (Int×Issue)):imE (encMSI m)=encMS m:=by simp [imE,encMSI,encMS]
@[simp] theorem mapO_MS (k n:Nat) (objs:List DObj) (m:List (Int×Issue)):mapO (fun x:List Value×List DC=>(mapO (frz (k + 1) n objs) x.2).map fun l=>(x.1,l)) (encMS m)=some (encMSI m):=by
 induction m with
 | nil=>rfl
 | cons p r ih =>
   rw [encMS_cons,mapO,ih,mapO_im];rfl
@[simp] theorem map_fz_MS (n:Nat) (objs:List DObj) (m:List (Int×Issue)):((encMS m).map fun x=>(x.1,x.2.map (fz n objs)))=encMS m:=by
 simp [encMS,fz,DC.lt]
@[simp] theorem rn_M (e:Nat→Nat) (m:List (Int×Int)):((encM m).map fun x=>(x.1,rnL e x.2))=encM m:=by
 simp [encM,rnL,rnC]
@[simp] theorem rn_MS (e:Nat→Nat) (m:List (Int×Issue)):((encMS m).map fun x=>(x.1,rnL e x.2))=encMS m:=by
 simp only [encMS,List.map_map]
 exact List.map_congr_left fun x _=>by simp only [Function.comp,rnL_im]
@[simp] theorem rn_S (e:Nat→Nat) (m:List Int):((encS m).map fun x=>(x.1,rnL e x.2))=encS m:=by
 simp [encS,rnL,rnC]
end Go.Ab
namespace Go.Ab
open Go
@[simp] theorem imE_MSI' (m:List (Int×Issue)):(encMSI m).map (fun x=>(x.1,x.2.map DC.im))=encMS m:=imE_MSI m
@[simp] theorem imE_MI' (m:List (Int×Int)):(encMI m).map (fun x=>(x.1,x.2.map DC.im))=encM m:=imE_MI m
@[simp] theorem imE_SI' (m:List Int):(encSI m).map (fun x=>(x.1,x.2.map DC.im))=encS m:=imE_SI m
end Go.Ab
namespace Go.Proofs
open Go Go.Ab
set_option linter.unusedSimpArgs false
variable {G:Nat→Option (List IC)}
def tkM (l:List Issue) (lets:List Int):List (Int×Issue):=(nums l).map fun d=>(d,takeI l lets d)
def takenE (l:List Issue) (lets:List Int) (d:Int):Int:=if checkR l≠0 then checkR l else if lettersI l lets=false then 22 else if d∈nums l then 0 else 6
end Go.Proofs
namespace Go.Proofs
open Go Go.Ab
set_option linter.unusedSimpArgs false
variable {G:Nat→Option (List IC)}
def addM (m:List (Int×Int)) (lv:List (Int×Int)):List (Int×Int):=lv.foldl (fun m p=>mput p.1 (IntKind.i64.wrap (mlook m p.1 + p.2)) m) m
def cntM (l:List Issue) (lets:List Int) (d:Int):List (Int×Int):=addM [] (leavesF (takeI l lets) 6 d 1)
def partsP (ns:List Int) (m:List (Int×Int)):List Itm:=(ns.filter fun n=>decide (0 < mlook m n)).map fun n=>⟨n,mlook m n⟩
def explR (l:List Issue) (lets:List Int) (d:Int):List Itm:=if takenE l lets d=0 then partsP (nums l) (cntM l lets d) else []
end Go.Proofs
namespace Go.Ab
open Go
structure Link where
 drawing:Int
 dim:Int
 back:Bool
 deriving DecidableEq
structure ChLoop where
 links:List Link
 lo:Int
 hi:Int
 deriving DecidableEq
structure Chains where
 reg:List Issue
 lets:List Int
 of:Int
 loops:List ChLoop
 deriving DecidableEq
def encLink (x:Link):List IC:=[rI x.drawing,rI x.dim,rB x.back]
def encLoop (x:ChLoop):List IC:=[.sl (x.links.map encLink),rI x.lo,rI x.hi]
def encChains (c:Chains):List IC:=[.sl (c.reg.map encIssue),.sl (c.lets.map encI),rI c.of,.sl (c.loops.map encLoop)]
def linkv (x:Link):DV:=.agg ((encLink x).map .im)
def loopv (x:ChLoop):DV:=.agg ((encLoop x).map .im)
def chv (c:Chains):DV:=.agg ((encChains c).map .im)
attribute [simp] encLink encLoop encChains linkv loopv chv
end Go.Ab
namespace Go.Proofs
open Go Go.Ab
set_option linter.unusedSimpArgs false
variable {G:Nat→Option (List IC)}
def deskC (c:Chains) (D:List (Int×Int)) (B:List (Int×Issue)):IC:=.ip [.sl (c.reg.map encIssue),.sl (c.lets.map encI),rI c.of,.sl (c.loops.map encLoop),.mp [.int .i64] (encMI D),.mp [.int .i64] (encMSI B)]
def ckL1 (x:ChLoop):Bool:=decide (1≤x.links.length) && decide (x.links.length≤8)
def ckL2 (x:ChLoop):Bool:=(decide (-8000000000≤x.lo) && decide (x.lo≤8000000000)) && (decide (-8000000000≤x.hi) && decide (x.hi≤8000000000)) && decide (x.lo≤x.hi)
def usedOk (D:List (Int×Int)) (B:List (Int×Issue)):List (Int×Int)→List Link→Bool
 | _,[]=>true
 | U,y :: r=>decide (mlook U y.drawing + 1≤mlook D y.drawing) && (decide (0≤y.dim) && decide (y.dim≤((mlookS B y.drawing).dims.length:Int) - 1)) && usedOk D B (mput y.drawing (mlook U y.drawing + 1) U) r
end Go.Proofs
namespace Go.Proofs
open Go Go.Ab
set_option linter.unusedSimpArgs false
variable {G:Nat→Option (List IC)}
def cntD (c:Chains):List (Int×Int):=(explR c.reg c.lets c.of).foldl (fun m x=>mput x.drawing x.count m) []
def loopOkP (D:List (Int×Int)) (B:List (Int×Issue)) (x:ChLoop):Bool:=ckL1 x && ckL2 x && usedOk D B [] x.links
def chainsE (c:Chains):Int:=if checkR c.reg≠0 then checkR c.reg else if takenE c.reg c.lets c.of≠0∨¬ (1≤c.loops.length∧c.loops.length≤6) then 60 else if c.loops.all (loopOkP (cntD c) (tkM c.reg c.lets)) then 0 else 60
def deskR (c:Chains):DV:=if chainsE c=0 then .one (.im (deskC c (cntD c) (tkM c.reg c.lets))) else .one (.im (.raw (.pointer none)))
theorem deskR_im (c:Chains):ImV (deskR c):=by unfold deskR;split<;>simp [deskC]
attribute [simp] deskR_im
end Go.Proofs
namespace Go.Proofs
open Go Go.Ab
theorem rdLink:Rd 84 encLink (fun _=>True):=(Opens.struct Tryz.underlying84 (by kernel_rfl) (pick3 (fun _=>True) (fun l=>∃ n:Int,l=[rI n]) (fun l=>∃ n:Int,l=[rI n]) (fun l=>∃ b:Bool,l=[rB b])) (fun i f hf=>by
 rcases i with _|_|_|i<;>simp at hf<;>subst hf
 ·exact oInt
 ·exact oInt
 ·exact oBool)).mono (by
 rintro l ⟨ls,h1,h2,rfl⟩
 obtain ⟨a,b,c,rfl⟩:=len3 h1
 obtain ⟨x,rfl⟩:=h2 0 a rfl
 obtain ⟨y,rfl⟩:=h2 1 b rfl
 obtain ⟨z,rfl⟩:=h2 2 c rfl
 exact ⟨⟨x,y,z⟩,trivial,rfl⟩)
theorem oLinks:Opens Tryz.prog 32 (fun l=>∃ xs:List Link,l=[.sl (xs.map encLink)]):=
 (Opens.sliceOf Tryz.underlying32 (sz:=3) (by kernel_rfl) (by decide) (fun _=>rfl) rdLink).mono (by rintro l ⟨xs,_,h⟩;exact ⟨xs,h⟩)
theorem oGap:Opens Tryz.prog 34 (fun l=>∃ n m:Int,l=[rI n,rI m]):=(Opens.struct Tryz.underlying34 (by kernel_rfl) (fun _ l=>∃ n:Int,l=[rI n]) (fun i f hf=>by
 rcases i with _|_|i<;>simp at hf<;>subst hf<;>exact oInt)).mono (by
 rintro l ⟨ls,h1,h2,rfl⟩
 obtain ⟨a,b,rfl⟩:=len2 h1
 obtain ⟨x,rfl⟩:=h2 0 a rfl
 obtain ⟨y,rfl⟩:=h2 1 b rfl
 exact ⟨x,y,rfl⟩)
theorem rdLoop:Rd 36 encLoop (fun _=>True):=(Opens.struct Tryz.underlying36 (by kernel_rfl) (pick3 (fun _=>True) (fun l=>∃ xs:List Link,l=[.sl (xs.map encLink)]) (fun l=>∃ n m:Int,l=[rI n,rI m]) (fun _=>True)) (fun i f hf=>by
 rcases i with _|_|i<;>simp at hf<;>subst hf
 ·exact oLinks
 ·exact oGap)).mono (by
 rintro l ⟨ls,h1,h2,rfl⟩
 obtain ⟨a,b,rfl⟩:=len2 h1
 obtain ⟨x,rfl⟩:=h2 0 a rfl
 obtain ⟨y,z,rfl⟩:=h2 1 b rfl
 exact ⟨⟨x,y,z⟩,trivial,rfl⟩)
end Go.Proofs
namespace Go.Ab
open Go
structure Note where
 number:Int
 day:Int
 signed:Int
 drawing:Int
 letter:Int
 frm:Int
 to:Int
 cancels:Int
 useUp:Bool
 ways:Int
 deriving DecidableEq
structure Notes where
 reg:List Issue
 notes:List Note
 deriving DecidableEq
def encNote (x:Note):List IC:=[rI x.number,rI x.day,.raw (.int .u8 x.signed),rI x.drawing,rI x.letter,rI x.frm,rI x.to,rI x.cancels,rB x.useUp,.raw (.int .u8 x.ways)]
def encNotes (n:Notes):List IC:=[.sl (n.reg.map encIssue),.sl (n.notes.map encNote)]
def notev (x:Note):DV:=.agg ((encNote x).map .im)
def notesv (n:Notes):DV:=.agg ((encNotes n).map .im)
attribute [simp] encNote encNotes notev notesv
end Go.Ab
namespace Go.Proofs
open Go Go.Ab
set_option linter.unusedSimpArgs false
variable {G:Nat→Option (List IC)}
def nk1 (x:Note):Bool:=(decide (1≤x.number) && decide (x.number≤9999)) && (decide (0≤x.day) && decide (x.day≤14610))
set_option maxHeartbeats 1000000 in
theorem nk1_c (n:Notes) (i:Nat) (x:Note) (hx:n.notes[i]?=some x) (objs:List DObj):DCall Tryz.prog G 184 [notesv n,iv (i:Int)] objs (fun rr objs'=>rr=bv (nk1 x)∧objs'=objs):=by
 refine DCall.frame ?_ (by simp) (by simp) objs
 refine DCall_intro Tryz.func184 rfl Tryz.ntmps184 (by simp) rfl ?_
 try simp only [notesv,iv]
 have hi:i < n.notes.length:=lt_of_getElem? hx
 have hxe:n.notes[i]=x:=(List.getElem?_eq_some_iff.1 hx).2
 have c1:=in_note (G:=G) 1 9999 [x.number] (by simp)
 have c2:=in_note (G:=G) 0 14610 [x.day] (by simp)
 have hs:True:=trivial
 repeat' first|(with_reducible first|refine q01 ?_|refine q11 ?_|refine q17 ?_)|(with_reducible refine At.fn_ret (by simp -dsimp [hxe,hi,hs];exact rfl) ?_)|(refine CallE.thaw (c1) ?_ ?_ ?_;(focus (simp;done));(focus (simp;done));try simp -dsimp [hxe,hi,hs])|(refine CallE.thaw (c2) ?_ ?_ ?_;(focus (simp;done));(focus (simp;done));try simp -dsimp [hxe,hi,hs])|(with_reducible refine DT_regionE [0,1,2,4] ?_;simp -dsimp [hxe,hi,hs])|(with_reducible refine GStop_split ?_ ?_<;>intro h<;>have h0:=h<;>(try simp only [nrm] at h)<;>(try exact Bool.noConfusion h)<;>have h2:=h<;>(try simp at h2)<;>(replace hs:=And.intro h0 (And.intro h (And.intro h2 hs)))<;>simp -dsimp [h0,h,h2,hxe,hi,hs])
 all_goals try simp -dsimp [hxe,hi,hs]
 all_goals try clear hs
 all_goals simp_all [nk1]
 all_goals omega
def nk2 (x:Note):Bool:=decide (x.signed≤2) && decide (x.ways≤3)
theorem nk2_c (n:Notes) (i:Nat) (x:Note) (hx:n.notes[i]?=some x) (objs:List DObj):DCall Tryz.prog G 186 [notesv n,iv (i:Int)] objs (fun rr objs'=>rr=bv (nk2 x)∧objs'=objs):=by
 refine DCall.frame ?_ (by simp) (by simp) objs
 refine DCall_intro Tryz.func186 rfl Tryz.ntmps186 (by simp) rfl ?_
 try simp only [notesv,iv]
 have hi:i < n.notes.length:=lt_of_getElem? hx
 have hxe:n.notes[i]=x:=(List.getElem?_eq_some_iff.1 hx).2
 have hs:True:=trivial
 repeat' first|(with_reducible first|refine q01 ?_|refine q11 ?_|refine q17 ?_)|(with_reducible refine At.fn_ret (by simp -dsimp [hxe,hi,hs];exact rfl) ?_)|(with_reducible refine DT_regionE [0,1,2,4] ?_;simp -dsimp [hxe,hi,hs])|(with_reducible refine GStop_split ?_ ?_<;>intro h<;>have h0:=h<;>(try simp only [nrm] at h)<;>(try exact Bool.noConfusion h)<;>have h2:=h<;>(try simp at h2)<;>(replace hs:=And.intro h0 (And.intro h (And.intro h2 hs)))<;>simp -dsimp [h0,h,h2,hxe,hi,hs])
 all_goals try simp -dsimp [hxe,hi,hs]
 all_goals try clear hs
 all_goals (clear hx;simp_all [nk2])
 all_goals omega
def nk3 (x:Note):Bool:=(decide (1≤x.frm) && decide (x.frm≤999)) && (decide (1≤x.to) && decide (x.to≤999)) && decide (x.frm≤x.to)
theorem nk3_c (n:Notes) (i:Nat) (x:Note) (hx:n.notes[i]?=some x) (objs:List DObj):DCall Tryz.prog G 187 [notesv n,iv (i:Int)] objs (fun rr objs'=>rr=bv (nk3 x)∧objs'=objs):=by
 refine DCall.frame ?_ (by simp) (by simp) objs
 refine DCall_intro Tryz.func187 rfl Tryz.ntmps187 (by simp) rfl ?_
 try simp only [notesv,iv]
 have hi:i < n.notes.length:=lt_of_getElem? hx
 have hxe:n.notes[i]=x:=(List.getElem?_eq_some_iff.1 hx).2
 have c1:=in_note (G:=G) 1 999 [x.frm,x.to] (by simp)
 have hs:True:=trivial
 repeat' first|(with_reducible first|refine q01 ?_|refine q11 ?_|refine q17 ?_)|(with_reducible refine At.fn_ret (by simp -dsimp [hxe,hi,hs];exact rfl) ?_)|(refine CallE.thaw (c1) ?_ ?_ ?_;(focus (simp;done));(focus (simp;done));try simp -dsimp [hxe,hi,hs])|(with_reducible refine DT_regionE [0,1,2,4,5] ?_;simp -dsimp [hxe,hi,hs])|(with_reducible refine GStop_split ?_ ?_<;>intro h<;>have h0:=h<;>(try simp only [nrm] at h)<;>(try exact Bool.noConfusion h)<;>have h2:=h<;>(try simp at h2)<;>(replace hs:=And.intro h0 (And.intro h (And.intro h2 hs)))<;>simp -dsimp [h0,h,h2,hxe,hi,hs])
 all_goals try simp -dsimp [hxe,hi,hs]
 all_goals try clear hs
 all_goals (clear hx c1;simp_all [nk3])
 all_goals omega
end Go.Proofs
