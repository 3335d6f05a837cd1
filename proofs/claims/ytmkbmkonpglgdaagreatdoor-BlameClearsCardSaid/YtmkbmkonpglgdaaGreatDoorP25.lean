/- Part 25 of the proofs: laws and walks that hold without conditions beyond those that each theorem names. -/
import Derived.Test.YtmkbmkonpglgdaaGreatDoorP24
set_option linter.all false
set_option linter.deprecated false
namespace Go.Proofs
open Go Go.Ab
set_option linter.unusedSimpArgs false
variable {G:Nat→Option (List IC)}
noncomputable def madeL (c:Case) (k:Nat):List Int:=match c.pieces[k]?,c.loop.links[k]? with
 | some x,some y=>worksO c.p x.day x.holder y.drawing
 | _,_=>[]
theorem madeL_eq {c:Case} {k:Nat} (h1:k < c.pieces.length) (h2:k < c.loop.links.length):madeL c k=worksO c.p c.pieces[k].day c.pieces[k].holder c.loop.links[k].drawing:=by
 unfold madeL
 rw [List.getElem?_eq_getElem h1,List.getElem?_eq_getElem h2]
noncomputable def letE (c:Case) (n:Int):Int:=if caseE c≠0 then caseE c else if 0≤n∧n < c.pieces.length then 0 else 2
noncomputable def letO (c:Case) (n:Int):List Int:=if letE c n=0 then madeL c n.toNat else []
theorem made_c (c:Case) (k:Nat) (h1:k < c.pieces.length) (h2:k < c.loop.links.length) (hG:sheetG G) (hN:noteG G) (hS:SortOk G) (hR:recallG G) (hk:KC c) (objs:List DObj):DCall Tryz.prog G 26 [casev c,iv (k:Int)] objs (fun rr objs'=>rr=isv (madeL c k)∧objs'=objs):=by
 refine DCall.frame ?_ (by simp) (by simp) objs
 refine DCall_intro Tryz.func26 rfl Tryz.ntmps26 (by simp) rfl ?_
 try simp only [iv]
 rw [madeL_eq h1 h2]
 generalize hx:c.pieces[k]=x at *
 generalize hy:c.loop.links[k]=y at *
 have c1:=rWorks_c (G:=G) c.p x.day x.holder y.drawing hG hN hS hR hk.p
 simp only [printsv,encPrints] at c1
 generalize worksO c.p x.day x.holder y.drawing=L at *
 generalize aboutE c.p x.day 1 x.holder y.drawing=e at *
 have hs:True:=trivial
 repeat' first|(with_reducible first|refine q01 ?_|refine q11 ?_|refine q17 ?_)|(with_reducible refine At.fn_ret (by simp -dsimp [hx,hy,h1,h2,hs];exact rfl) ?_)|(refine QCall_pure (c1) ?_;try simp -dsimp [hx,hy,h1,h2,hs])|(refine DT_regionM (id:=2) (nt:=31) 19 [0,1,2,4,5,6] mixed rfl (by kernel_rfl) ?_;simp -dsimp [hx,hy,h1,h2,hs])|(with_reducible refine DT_regionE [0,1,2,4,5,6] ?_;simp -dsimp [hx,hy,h1,h2,hs])
 all_goals try simp -dsimp [hx,hy,h1,h2,hs]
 all_goals try clear hs
theorem bLetters_c (c:Case) (n:Int) (hG:sheetG G) (hN:noteG G) (hS:SortOk G) (hR:recallG G) (hk:KC c) (objs:List DObj):DCall Tryz.prog G 11 [casev c,iv n] objs (fun rr objs'=>rr=.tup [isv (letO c n),iv (letE c n)]∧objs'=objs):=by
 refine DCall.frame ?_ (by simp) (by simp) objs
 refine DCall_intro Tryz.func11 rfl Tryz.ntmps11 (by simp) rfl ?_
 try simp only [iv]
 have c1:=bCheck_c (G:=G) c hG hN hS hR hk
 have hq:=hk.q
 by_cases h0:caseE c=0
 ·have hok:=caseB_ok (caseE_yes h0).2
  have hE:letE c n=if 0≤n∧n < c.pieces.length then 0 else 2:=by unfold letE;rw [if_neg (by simp [h0])]
  have hlen:=hok.e
  have hl:=hok.l
  have hw:IntKind.i64.wrap ((c.pieces.length:Int) - 1)=(c.pieces.length:Int) - 1:=i64w (by omega) (by omega)
  have c2:=in_blame (G:=G) 0 ((c.pieces.length:Int) - 1) [n] (by simp)
  unfold letO
  rw [hE]
  rw [h0] at c1
  by_cases hn:0≤n∧n < c.pieces.length
  ·rw [if_pos hn,if_pos rfl]
   obtain ⟨k,rfl⟩:=Int.eq_ofNat_of_zero_le hn.1
   rw [Int.toNat_natCast]
   have c3:=made_c (G:=G) c k (by omega) (by omega) hG hN hS hR hk
   rw [show ([(k:Int)].all fun y=>decide (0≤y) && decide (y≤(c.pieces.length:Int) - 1))=true by simp;omega] at c2
   generalize madeL c k=L at *
   simp only [casev,encCase] at c1 c3
   have hs:True:=trivial
   repeat' first|(with_reducible first|refine q01 ?_|refine q11 ?_|refine q14 ?_|refine q17 ?_)|(with_reducible refine At.fn_ret (by simp -dsimp [hw,hs];exact rfl) ?_)|(refine CallE.pure (c1) ?_;try simp -dsimp [hw,hs])|(refine CallE.thaw (c2) ?_ ?_ ?_;(focus (simp;done));(focus (simp;done));try simp -dsimp [hw,hs])|(refine CallE.pure (c3) ?_;try simp -dsimp [hw,hs])|(with_reducible refine DT_regionE [0,1,2,4,5,6,10,19] ?_;simp -dsimp [hw,hs])|(refine DT_cond rfl (fun h=>?_) (fun h=>?_)<;>(try simp only [nrm] at h)<;>(try exact Bool.noConfusion h))
   all_goals try simp -dsimp [hw,hs]
   all_goals try clear hs
  ·rw [if_neg hn,if_neg (by decide)]
   rw [show ([n].all fun y=>decide (0≤y) && decide (y≤(c.pieces.length:Int) - 1))=false by simp;omega] at c2
   simp only [casev,encCase] at c1
   have hs:True:=trivial
   repeat' first|(with_reducible first|refine q01 ?_|refine q02 ?_|refine q11 ?_|refine q14 ?_|refine q17 ?_)|(with_reducible refine At.fn_ret (by simp -dsimp [hw,hs];exact rfl) ?_)|(refine CallE.pure (c1) ?_;try simp -dsimp [hw,hs])|(refine CallE.thaw (c2) ?_ ?_ ?_;(focus (simp;done));(focus (simp;done));try simp -dsimp [hw,hs])|(with_reducible refine DT_regionE [0,1,2,4,5,6,10,19] ?_;simp -dsimp [hw,hs])|(refine DT_cond rfl (fun h=>?_) (fun h=>?_)<;>(try simp only [nrm] at h)<;>(try exact Bool.noConfusion h))
   all_goals try simp -dsimp [hw,hs]
   all_goals try clear hs
 ·have hE:letE c n=caseE c:=by unfold letE;rw [if_pos h0]
  have hO:letO c n=[]:=by unfold letO;rw [if_neg (by rw [hE];exact h0)]
  rw [hE,hO]
  simp only [casev,encCase] at c1
  have hs:True:=trivial
  repeat' first|(with_reducible first|refine q01 ?_|refine q02 ?_|refine q11 ?_|refine q17 ?_)|(with_reducible refine At.fn_ret (by simp -dsimp [h0,hs];exact rfl) ?_)|(refine CallE.pure (c1) ?_;try simp -dsimp [h0,hs])|(with_reducible refine DT_regionE [0,1,2,4,5,6,10,19] ?_;simp -dsimp [h0,hs])|(refine DT_cond rfl (fun h=>?_) (fun h=>?_)<;>(try simp only [nrm] at h)<;>(try exact Bool.noConfusion h))
  all_goals try simp -dsimp [h0,hs]
  all_goals try clear hs
end Go.Proofs
