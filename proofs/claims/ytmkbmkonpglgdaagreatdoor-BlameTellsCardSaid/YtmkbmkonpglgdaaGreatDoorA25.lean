/- Part 25 of the proofs: laws and walks that hold without conditions beyond those that each theorem names. -/
import Derived.Test.YtmkbmkonpglgdaaGreatDoorA24
set_option linter.all false
set_option linter.deprecated false
namespace Go.Proofs
open Go Go.Ab
set_option linter.unusedSimpArgs false
variable {G:Nat→Option (List IC)}
def sumStep (s:Int×Int) (q:Link×Piece):Int×Int:=if q.1.back=true then (s.1 - q.2.hi,s.2 - q.2.lo) else (s.1 + q.2.lo,s.2 + q.2.hi)
def sumS (l:List (Link×Piece)):Int×Int:=l.foldl sumStep (0,0)
theorem sumS_succ {l:List (Link×Piece)} {k:Nat} (h:k < l.length):sumS (l.take (k + 1))=sumStep (sumS (l.take k)) l[k]:=by
 unfold sumS
 rw [List.take_succ_eq_append_getElem h,List.foldl_append]
 rfl
def PieceOk (x:Piece):Prop:=0≤x.lo∧x.lo≤x.hi∧x.hi≤1000000000
theorem sum_bound (l:List (Link×Piece)):∀ s:Int×Int,s.1≤s.2→(∀ q∈l,PieceOk q.2)→(l.foldl sumStep s).1≤(l.foldl sumStep s).2∧s.1 - 1000000000 * (l.length:Int)≤(l.foldl sumStep s).1∧(l.foldl sumStep s).2≤s.2 + 1000000000 * (l.length:Int):=by
 induction l with
 | nil=>intro s h _;simp [h]
 | cons q l ih =>
   intro s h hq
   have h1:=hq q List.mem_cons_self
   unfold PieceOk at h1
   have hst:(sumStep s q).1≤(sumStep s q).2∧s.1 - 1000000000≤(sumStep s q).1∧(sumStep s q).2≤s.2 + 1000000000:=by
    unfold sumStep
    split<;>simp only<;>omega
   have:=ih (sumStep s q) hst.1 (fun y hy=>hq y (List.mem_cons_of_mem _ hy))
   rw [List.foldl_cons,List.length_cons]
   omega
theorem sumS_bound {l:List (Link×Piece)} (h:∀ q∈l,PieceOk q.2):(sumS l).1≤(sumS l).2∧- (1000000000 * (l.length:Int))≤(sumS l).1∧(sumS l).2≤1000000000 * (l.length:Int):=by
 have:=sum_bound l (0,0) (Int.le_refl _) h
 unfold sumS
 simp only at this
 omega
structure CaseOk (c:Case):Prop where
 e:c.pieces.length=c.loop.links.length
 l:1≤c.loop.links.length∧c.loop.links.length≤8
 p:∀ q∈c.loop.links.zip c.pieces,PieceOk q.2
 g:-8000000000≤c.loop.lo∧c.loop.lo≤c.loop.hi∧c.loop.hi≤8000000000
theorem caseB_ok {c:Case} (h:caseB c=true):CaseOk c:=by
 rw [caseB_eq,case5] at h
 simp only [Bool.and_eq_true,decide_eq_true_eq,insB,List.all_eq_true] at h
 obtain ⟨⟨_,_,h3,h4,h5⟩,h6⟩:=h
 refine ⟨h4,h3,fun q hq=>?_,by omega⟩
 have:=h6 q hq
 simp only [linkOk,Bool.and_eq_true,insB,decide_eq_true_eq] at this
 unfold PieceOk
 omega
noncomputable def sumO (c:Case):Int×Int:=if caseE c=0 then sumS (c.loop.links.zip c.pieces) else (0,0)
theorem zip_take_len {c:Case} (h:CaseOk c) {k:Nat} (hk:k≤c.pieces.length):((c.loop.links.zip c.pieces).take k).length=k:=by
 rw [List.length_take,List.length_zip];have:=h.e;omega
theorem sum_at {c:Case} (h:CaseOk c) {k:Nat} (hk:k≤c.pieces.length):(sumS ((c.loop.links.zip c.pieces).take k)).1≤(sumS ((c.loop.links.zip c.pieces).take k)).2∧-8000000000≤(sumS ((c.loop.links.zip c.pieces).take k)).1∧(sumS ((c.loop.links.zip c.pieces).take k)).2≤8000000000:=by
 have h1:=sumS_bound (l:=(c.loop.links.zip c.pieces).take k) fun q hq=>h.p q (List.mem_of_mem_take hq)
 rw [zip_take_len h hk] at h1
 have:=h.l;have:=h.e
 omega
theorem zip_step {c:Case} (h:CaseOk c) {k:Nat} (h1:k < c.pieces.length) (h2:k < c.loop.links.length):sumS ((c.loop.links.zip c.pieces).take (k + 1))=sumStep (sumS ((c.loop.links.zip c.pieces).take k)) (c.loop.links[k],c.pieces[k]):=by
 have h3:k < (c.loop.links.zip c.pieces).length:=by rw [List.length_zip];omega
 rw [sumS_succ h3,List.getElem_zip]
theorem zip_ok {c:Case} (h:CaseOk c) {k:Nat} (h1:k < c.pieces.length):PieceOk c.pieces[k]:=by
 have h2:k < c.loop.links.length:=by have:=h.e;omega
 have h3:k < (c.loop.links.zip c.pieces).length:=by rw [List.length_zip];omega
 have:=h.p _ (List.getElem_mem h3)
 rw [List.getElem_zip] at this
 exact this
set_option maxHeartbeats 2000000 in
theorem bSum_c (c:Case) (hG:sheetG G) (hN:noteG G) (hS:SortOk G) (hR:recallG G) (hk:KC c) (objs:List DObj):DCall Tryz.prog G 7 [casev c] objs (fun rr objs'=>rr=.tup [refv (sumO c).1 (sumO c).2,iv (caseE c)]∧objs'=objs):=by
 refine DCall.frame ?_ (by simp) (by simp) objs
 refine DCall_intro Tryz.func7 rfl Tryz.ntmps7 (by simp) rfl ?_
 try simp only [iv]
 have c1:=bCheck_c (G:=G) c hG hN hS hR hk
 simp only [casev,encCase] at c1
 by_cases h0:caseE c=0
 ·have hok:=caseB_ok (caseE_yes h0).2
  have hE:sumO c=sumS (c.loop.links.zip c.pieces):=by unfold sumO;rw [if_pos h0]
  rw [hE]
  rw [h0] at c1 ⊢
  have hlen:=hok.e
  have hl8:=hok.l
  have hs:True:=trivial
  repeat' first|(with_reducible first|refine q01 ?_|refine q11 ?_|refine q12 ?_|refine q14 ?_)|(refine CallE.pure (c1) ?_;try simp -dsimp [hs])|(with_reducible refine DT_regionE [0,1,2,3,4,5,6,7,8,9,13,17,18,19,20,36] ?_;simp -dsimp [hs])|(refine DT_cond rfl (fun h=>?_) (fun h=>?_)<;>(try simp only [nrm] at h)<;>(try exact Bool.noConfusion h))
  all_goals try simp -dsimp [hs]
  all_goals try clear hs
  refine DT_loop (ι:={ k:Nat // k≤c.pieces.length }) (fun q=>⟨52,[(1,.one (.ptr 0 0)),(2,.one (.ptr 1 0)),(5,.one (.ptr 2 0)),(17,.one (.im (.sl (c.pieces.map encPiece)))),(18,iv (c.pieces.length:Int)),(19,iv (q.1:Int))],[.row ((encCase c).map .im),.row [.im (rI 0),.im (rI 0)],.row [.im (rI (sumS ((c.loop.links.zip c.pieces).take q.1)).1),.im (rI (sumS ((c.loop.links.zip c.pieces).take q.1)).2)]]⟩) (fun q=>c.pieces.length - q.1) ⟨0,by simp⟩ (Weak.of_keep [1,2,5,17,18,19] (by simp [sumS])) ?_
  rintro ⟨k,hk1⟩
  simp only [iv]
  by_cases hlt:k < c.pieces.length
  ·have hlt2:k < c.loop.links.length:=by omega
   have hw:IntKind.i64.wrap ((k:Int) + 1)=((k + 1:Nat):Int):=i64w (by omega) (by omega)
   have hb1:=sum_at hok (Nat.le_of_lt hlt)
   have hb2:=sum_at hok (show k + 1≤c.pieces.length by omega)
   have hst:=zip_step hok hlt hlt2
   have hp:=zip_ok hok hlt
   unfold PieceOk at hp
   rw [hst] at hb2
   generalize hx:c.pieces[k]=x at *
   generalize hy:c.loop.links[k]=y at *
   generalize sumS ((c.loop.links.zip c.pieces).take k)=s at *
   unfold sumStep at hst hb2
   cases hbk:y.back
   ·rw [if_neg (by simp [hbk])] at hst hb2
    simp only at hb2
    have hw1:IntKind.i64.wrap (s.1 + x.lo)=s.1 + x.lo:=i64w (by omega) (by omega)
    have hw2:IntKind.i64.wrap (s.2 + x.hi)=s.2 + x.hi:=i64w (by omega) (by omega)
    have hs:True:=trivial
    repeat' first|(with_reducible first|refine q01 ?_|refine q04 ?_|refine q11 ?_|refine q12 ?_|refine q14 ?_)|(refine DT_regionM (id:=8) (nt:=52) 8 [0,1,2,3,4,5,6,7,8,9,13,17,18,19,20,36] mixed rfl (by kernel_rfl) ?_;simp -dsimp [hx,hy,hlt,hlt2,hw,hw1,hw2,hbk,hs])|(with_reducible refine DT_regionE [0,1,2,3,4,5,6,7,8,9,13,17,18,19,20,36] ?_;simp -dsimp [hx,hy,hlt,hlt2,hw,hw1,hw2,hbk,hs])|(refine DT_cond rfl (fun h=>?_) (fun h=>?_)<;>(try simp only [nrm] at h)<;>(try exact Bool.noConfusion h))
    all_goals try simp -dsimp [hx,hy,hlt,hlt2,hw,hw1,hw2,hbk,hs]
    all_goals try clear hs
    all_goals exact At.round ⟨k + 1,by omega⟩ (by simp;omega) (Weak.of_drop [1,2,5,17,18,19] 3 (by simp) (by simp) (by simp [hst]))
   ·rw [if_pos hbk] at hst hb2
    simp only at hb2
    have hw1:IntKind.i64.wrap (-x.hi)=-x.hi:=i64w (by omega) (by omega)
    have hw2:IntKind.i64.wrap (-x.lo)=-x.lo:=i64w (by omega) (by omega)
    have hw3:IntKind.i64.wrap (s.1 + -x.hi)=s.1 - x.hi:=by rw [i64w (by omega) (by omega)];omega
    have hw4:IntKind.i64.wrap (s.2 + -x.lo)=s.2 - x.lo:=by rw [i64w (by omega) (by omega)];omega
    have hs:True:=trivial
    repeat' first|(with_reducible first|refine q01 ?_|refine q04 ?_|refine q11 ?_|refine q12 ?_|refine q14 ?_)|(refine DT_regionM (id:=8) (nt:=52) 8 [0,1,2,3,4,5,6,7,8,9,13,17,18,19,20,36] mixed rfl (by kernel_rfl) ?_;simp -dsimp [hx,hy,hlt,hlt2,hw,hw1,hw2,hw3,hw4,hbk,hs])|(with_reducible refine DT_regionE [0,1,2,3,4,5,6,7,8,9,13,17,18,19,20,36] ?_;simp -dsimp [hx,hy,hlt,hlt2,hw,hw1,hw2,hw3,hw4,hbk,hs])|(refine DT_cond rfl (fun h=>?_) (fun h=>?_)<;>(try simp only [nrm] at h)<;>(try exact Bool.noConfusion h))
    all_goals try simp -dsimp [hx,hy,hlt,hlt2,hw,hw1,hw2,hw3,hw4,hbk,hs]
    all_goals try clear hs
    all_goals exact At.round ⟨k + 1,by omega⟩ (by simp;omega) (Weak.of_drop [1,2,5,17,18,19] 3 (by simp) (by simp) (by simp [hst]))
  ·obtain rfl:k=c.pieces.length:=by omega
   have hall:(c.loop.links.zip c.pieces).take c.pieces.length=c.loop.links.zip c.pieces:=List.take_of_length_le (by rw [List.length_zip];omega)
   rw [hall]
   have hs:True:=trivial
   repeat' first|(with_reducible first|refine q01 ?_|refine q03 ?_|refine q06 ?_|refine q11 ?_|refine q16 ?_|refine q17 ?_)|(with_reducible refine At.fn_ret (by simp -dsimp [hlt,hs];exact rfl) ?_)|(with_reducible refine DT_regionE [0,1,2,3,4,5,6,7,8,9,13,17,18,19,20,36] ?_;simp -dsimp [hlt,hs])|(refine DT_cond rfl (fun h=>?_) (fun h=>?_)<;>(try simp only [nrm] at h)<;>(try exact Bool.noConfusion h))
   all_goals try simp -dsimp [hlt,hs]
   all_goals try clear hs
 ·have hE:sumO c=(0,0):=by unfold sumO;rw [if_neg h0]
  rw [hE]
  have hs:True:=trivial
  repeat' first|(with_reducible first|refine q01 ?_|refine q02 ?_|refine q11 ?_|refine q17 ?_)|(with_reducible refine At.fn_ret (by simp -dsimp [h0,hs];exact rfl) ?_)|(refine CallE.pure (c1) ?_;try simp -dsimp [h0,hs])|(with_reducible refine DT_regionE [0,1,2,3,4,5,6,7,8,9,13,17,18,19,20,36] ?_;simp -dsimp [h0,hs])|(refine DT_cond rfl (fun h=>?_) (fun h=>?_)<;>(try simp only [nrm] at h)<;>(try exact Bool.noConfusion h))
  all_goals try simp -dsimp [h0,hs]
  all_goals try clear hs
def fitsK (c:Case) (s:Int×Int):Int:=if s.2 < c.loop.lo∨s.1 > c.loop.hi then 0 else if c.loop.lo≤s.1∧s.2≤c.loop.hi then 2 else 1
noncomputable def fitsO (c:Case):Int:=if caseE c=0 then fitsK c (sumO c) else 0
theorem fits_ins {c:Case} {s:Int×Int} (h:s.1≤s.2):insB s.1 s.2 c.loop.lo c.loop.hi=decide (c.loop.lo≤s.1∧s.2≤c.loop.hi):=by
 unfold insB
 rw [decide_eq_decide]
 omega
theorem bFits_c (c:Case) (hG:sheetG G) (hN:noteG G) (hS:SortOk G) (hR:recallG G) (hk:KC c) (objs:List DObj):DCall Tryz.prog G 9 [casev c] objs (fun rr objs'=>rr=.tup [u8v (fitsO c),iv (caseE c)]∧objs'=objs):=by
 refine DCall.frame ?_ (by simp) (by simp) objs
 refine DCall_intro Tryz.func9 rfl Tryz.ntmps9 (by simp) rfl ?_
 try simp only [iv]
 have c1:=bSum_c (G:=G) c hG hN hS hR hk
 simp only [casev,encCase,refv] at c1
 by_cases h0:caseE c=0
 ·have hok:=caseB_ok (caseE_yes h0).2
  have hE:fitsO c=fitsK c (sumO c):=by unfold fitsO;rw [if_pos h0]
  have hS:sumO c=sumS (c.loop.links.zip c.pieces):=by unfold sumO;rw [if_pos h0]
  have hle:(sumO c).1≤(sumO c).2:=by rw [hS];exact (sumS_bound hok.p).1
  have c2:=inside_c (G:=G) (sumO c).1 (sumO c).2 c.loop.lo c.loop.hi
  rw [fits_ins (c:=c) (s:=sumO c) hle] at c2
  rw [hE]
  rw [h0] at c1 ⊢
  unfold fitsK
  generalize sumO c=s at *
  simp only [refv] at c2
  by_cases h1:s.2 < c.loop.lo∨s.1 > c.loop.hi
  ·rw [if_pos h1]
   by_cases h2:s.2 < c.loop.lo
   ·have hs:True:=trivial
    repeat' first|(with_reducible first|refine q01 ?_|refine q02 ?_|refine q05 ?_|refine q11 ?_|refine q12 ?_|refine q17 ?_)|(with_reducible refine At.fn_ret (by simp -dsimp [h2,hs];exact rfl) ?_)|(refine CallE.pure (c1) ?_;try simp -dsimp [h2,hs])|(with_reducible refine DT_regionE [0,1,2,3,4,5,6,15,33] ?_;simp -dsimp [h2,hs])|(refine DT_cond rfl (fun h=>?_) (fun h=>?_)<;>(try simp only [nrm] at h)<;>(try exact Bool.noConfusion h))
    all_goals try simp -dsimp [h2,hs]
    all_goals try clear hs
   ·have h3:c.loop.hi < s.1:=by omega
    have hs:True:=trivial
    repeat' first|(with_reducible first|refine q01 ?_|refine q02 ?_|refine q05 ?_|refine q11 ?_|refine q12 ?_|refine q17 ?_)|(with_reducible refine At.fn_ret (by simp -dsimp [h2,h3,hs];exact rfl) ?_)|(refine CallE.pure (c1) ?_;try simp -dsimp [h2,h3,hs])|(with_reducible refine DT_regionE [0,1,2,3,4,5,6,15,33] ?_;simp -dsimp [h2,h3,hs])|(refine DT_cond rfl (fun h=>?_) (fun h=>?_)<;>(try simp only [nrm] at h)<;>(try exact Bool.noConfusion h))
    all_goals try simp -dsimp [h2,h3,hs]
    all_goals try clear hs
  ·rw [if_neg h1]
   have h2:¬ s.2 < c.loop.lo:=by omega
   have h3:¬ c.loop.hi < s.1:=by omega
   by_cases h4:c.loop.lo≤s.1∧s.2≤c.loop.hi
   ·rw [if_pos h4]
    rw [decide_eq_true h4] at c2
    have hs:True:=trivial
    repeat' first|(with_reducible first|refine q01 ?_|refine q02 ?_|refine q05 ?_|refine q11 ?_|refine q12 ?_|refine q17 ?_)|(with_reducible refine At.fn_ret (by simp -dsimp [h2,h3,hs];exact rfl) ?_)|(refine CallE.pure (c1) ?_;try simp -dsimp [h2,h3,hs])|(refine CallE.pure (c2) ?_;try simp -dsimp [h2,h3,hs])|(with_reducible refine DT_regionE [0,1,2,3,4,5,6,15,33] ?_;simp -dsimp [h2,h3,hs])|(refine DT_cond rfl (fun h=>?_) (fun h=>?_)<;>(try simp only [nrm] at h)<;>(try exact Bool.noConfusion h))
    all_goals try simp -dsimp [h2,h3,hs]
    all_goals try clear hs
   ·rw [if_neg h4]
    rw [decide_eq_false h4] at c2
    have hs:True:=trivial
    repeat' first|(with_reducible first|refine q01 ?_|refine q04 ?_|refine q11 ?_|refine q12 ?_|refine q14 ?_|refine q17 ?_)|(with_reducible refine At.fn_ret (by simp -dsimp [h2,h3,hs];exact rfl) ?_)|(refine CallE.pure (c1) ?_;try simp -dsimp [h2,h3,hs])|(refine CallE.pure (c2) ?_;try simp -dsimp [h2,h3,hs])|(with_reducible refine DT_regionE [0,1,2,3,4,5,6,15,33] ?_;simp -dsimp [h2,h3,hs])|(refine DT_cond rfl (fun h=>?_) (fun h=>?_)<;>(try simp only [nrm] at h)<;>(try exact Bool.noConfusion h))
    all_goals try simp -dsimp [h2,h3,hs]
    all_goals try clear hs
 ·have hE:fitsO c=0:=by unfold fitsO;rw [if_neg h0]
  rw [hE]
  have hs:True:=trivial
  repeat' first|(with_reducible first|refine q01 ?_|refine q02 ?_|refine q05 ?_|refine q11 ?_|refine q12 ?_|refine q17 ?_)|(with_reducible refine At.fn_ret (by simp -dsimp [h0,hs];exact rfl) ?_)|(refine CallE.pure (c1) ?_;try simp -dsimp [h0,hs])|(with_reducible refine DT_regionE [0,1,2,3,4,5,6,15,33] ?_;simp -dsimp [h0,hs])|(refine DT_cond rfl (fun h=>?_) (fun h=>?_)<;>(try simp only [nrm] at h)<;>(try exact Bool.noConfusion h))
  all_goals try simp -dsimp [h0,hs]
  all_goals try clear hs
end Go.Proofs
namespace Go.Proofs
open Go Go.Ab
set_option linter.unusedSimpArgs false
variable {G:Nat→Option (List IC)}
noncomputable def madeL (c:Case) (k:Nat):List Int:=match c.pieces[k]?,c.loop.links[k]? with
 | some x,some y=>worksO c.p x.day x.holder y.drawing
 | _,_=>[]
theorem madeL_eq {c:Case} {k:Nat} (h1:k < c.pieces.length) (h2:k < c.loop.links.length):madeL c k=worksO c.p c.pieces[k].day c.pieces[k].holder c.loop.links[k].drawing:=by
 unfold madeL
 rw [List.getElem?_eq_getElem h1,List.getElem?_eq_getElem h2]
noncomputable def letE (c:Case) (n:Int):Int:=if caseE c≠0 then caseE c else if 0≤n∧n < c.pieces.length then 0 else 2
noncomputable def letO (c:Case) (n:Int):List Int:=if letE c n=0 then madeL c n.toNat else []
theorem made_c (c:Case) (k:Nat) (h1:k < c.pieces.length) (h2:k < c.loop.links.length) (hG:sheetG G) (hN:noteG G) (hS:SortOk G) (hR:recallG G) (hk:KC c) (objs:List DObj):DCall Tryz.prog G 26 [casev c,iv (k:Int)] objs (fun rr objs'=>rr=isv (madeL c k)∧objs'=objs):=by
 refine DCall.frame ?_ (by simp) (by simp) objs
 refine DCall_intro Tryz.func26 rfl Tryz.ntmps26 (by simp) rfl ?_
 try simp only [iv]
 rw [madeL_eq h1 h2]
 generalize hx:c.pieces[k]=x at *
 generalize hy:c.loop.links[k]=y at *
 have c1:=rWorks_c (G:=G) c.p x.day x.holder y.drawing hG hN hS hR hk.p
 simp only [printsv,encPrints] at c1
 generalize worksO c.p x.day x.holder y.drawing=L at *
 generalize aboutE c.p x.day 1 x.holder y.drawing=e at *
 have hs:True:=trivial
 repeat' first|(with_reducible first|refine q01 ?_|refine q11 ?_|refine q17 ?_)|(with_reducible refine At.fn_ret (by simp -dsimp [hx,hy,h1,h2,hs];exact rfl) ?_)|(refine QCall_pure (c1) ?_;try simp -dsimp [hx,hy,h1,h2,hs])|(refine DT_regionM (id:=2) (nt:=31) 19 [0,1,2,4,5,6] mixed rfl (by kernel_rfl) ?_;simp -dsimp [hx,hy,h1,h2,hs])|(with_reducible refine DT_regionE [0,1,2,4,5,6] ?_;simp -dsimp [hx,hy,h1,h2,hs])
 all_goals try simp -dsimp [hx,hy,h1,h2,hs]
 all_goals try clear hs
theorem bLetters_c (c:Case) (n:Int) (hG:sheetG G) (hN:noteG G) (hS:SortOk G) (hR:recallG G) (hk:KC c) (objs:List DObj):DCall Tryz.prog G 11 [casev c,iv n] objs (fun rr objs'=>rr=.tup [isv (letO c n),iv (letE c n)]∧objs'=objs):=by
 refine DCall.frame ?_ (by simp) (by simp) objs
 refine DCall_intro Tryz.func11 rfl Tryz.ntmps11 (by simp) rfl ?_
 try simp only [iv]
 have c1:=bCheck_c (G:=G) c hG hN hS hR hk
 have hq:=hk.q
 by_cases h0:caseE c=0
 ·have hok:=caseB_ok (caseE_yes h0).2
  have hE:letE c n=if 0≤n∧n < c.pieces.length then 0 else 2:=by unfold letE;rw [if_neg (by simp [h0])]
  have hlen:=hok.e
  have hl:=hok.l
  have hw:IntKind.i64.wrap ((c.pieces.length:Int) - 1)=(c.pieces.length:Int) - 1:=i64w (by omega) (by omega)
  have c2:=in_blame (G:=G) 0 ((c.pieces.length:Int) - 1) [n] (by simp)
  unfold letO
  rw [hE]
  rw [h0] at c1
  by_cases hn:0≤n∧n < c.pieces.length
  ·rw [if_pos hn,if_pos rfl]
   obtain ⟨k,rfl⟩:=Int.eq_ofNat_of_zero_le hn.1
   rw [Int.toNat_natCast]
   have c3:=made_c (G:=G) c k (by omega) (by omega) hG hN hS hR hk
   rw [show ([(k:Int)].all fun y=>decide (0≤y) && decide (y≤(c.pieces.length:Int) - 1))=true by simp;omega] at c2
   generalize madeL c k=L at *
   simp only [casev,encCase] at c1 c3
   have hs:True:=trivial
   repeat' first|(with_reducible first|refine q01 ?_|refine q11 ?_|refine q14 ?_|refine q17 ?_)|(with_reducible refine At.fn_ret (by simp -dsimp [hw,hs];exact rfl) ?_)|(refine CallE.pure (c1) ?_;try simp -dsimp [hw,hs])|(refine CallE.thaw (c2) ?_ ?_ ?_;(focus (simp;done));(focus (simp;done));try simp -dsimp [hw,hs])|(refine CallE.pure (c3) ?_;try simp -dsimp [hw,hs])|(with_reducible refine DT_regionE [0,1,2,4,5,6,10,19] ?_;simp -dsimp [hw,hs])|(refine DT_cond rfl (fun h=>?_) (fun h=>?_)<;>(try simp only [nrm] at h)<;>(try exact Bool.noConfusion h))
   all_goals try simp -dsimp [hw,hs]
   all_goals try clear hs
  ·rw [if_neg hn,if_neg (by decide)]
   rw [show ([n].all fun y=>decide (0≤y) && decide (y≤(c.pieces.length:Int) - 1))=false by simp;omega] at c2
   simp only [casev,encCase] at c1
   have hs:True:=trivial
   repeat' first|(with_reducible first|refine q01 ?_|refine q02 ?_|refine q11 ?_|refine q14 ?_|refine q17 ?_)|(with_reducible refine At.fn_ret (by simp -dsimp [hw,hs];exact rfl) ?_)|(refine CallE.pure (c1) ?_;try simp -dsimp [hw,hs])|(refine CallE.thaw (c2) ?_ ?_ ?_;(focus (simp;done));(focus (simp;done));try simp -dsimp [hw,hs])|(with_reducible refine DT_regionE [0,1,2,4,5,6,10,19] ?_;simp -dsimp [hw,hs])|(refine DT_cond rfl (fun h=>?_) (fun h=>?_)<;>(try simp only [nrm] at h)<;>(try exact Bool.noConfusion h))
   all_goals try simp -dsimp [hw,hs]
   all_goals try clear hs
 ·have hE:letE c n=caseE c:=by unfold letE;rw [if_pos h0]
  have hO:letO c n=[]:=by unfold letO;rw [if_neg (by rw [hE];exact h0)]
  rw [hE,hO]
  simp only [casev,encCase] at c1
  have hs:True:=trivial
  repeat' first|(with_reducible first|refine q01 ?_|refine q02 ?_|refine q11 ?_|refine q17 ?_)|(with_reducible refine At.fn_ret (by simp -dsimp [h0,hs];exact rfl) ?_)|(refine CallE.pure (c1) ?_;try simp -dsimp [h0,hs])|(with_reducible refine DT_regionE [0,1,2,4,5,6,10,19] ?_;simp -dsimp [h0,hs])|(refine DT_cond rfl (fun h=>?_) (fun h=>?_)<;>(try simp only [nrm] at h)<;>(try exact Bool.noConfusion h))
  all_goals try simp -dsimp [h0,hs]
  all_goals try clear hs
end Go.Proofs
