/- Part 21 of the proofs: laws and walks that hold without conditions beyond those that each theorem names. -/
import Derived.Test.YtmkbmkonpglgdaaGreatDoorP18
import Derived.Test.YtmkbmkonpglgdaaGreatDoorP19
import Derived.Test.YtmkbmkonpglgdaaGreatDoorP20
set_option linter.all false
set_option linter.deprecated false
namespace Go.Proofs
open Go Go.Ab
set_option linter.unusedSimpArgs false
variable {G:Nat→Option (List IC)}
def noteG (G:Nat→Option (List IC)):Prop:=G 2=some [.fn (.func 184) [],.fn (.func 186) [],.fn (.func 187) [],.fn (.func 188) [],.fn (.func 189) [],.fn (.func 190) [],.fn (.func 193) [],.fn (.func 195) []]
def SortOk (G:Nat→Option (List IC)):Prop:=∀ (l:List Int) (g sz:Nat) (nl:Bool),(sz=1∨nl=true∧l=[])→l.length < 1000000→DCall Tryz.prog G 96 [.one (.vec 0 g 0 l.length)] [.vec sz (ims (l.map encI)) g nl] (fun d o=>d=.tup []∧o=[.vec sz (ims ((isort l).map encI)) g nl])
def fileI (n:Notes):IC:=.ip [.sl (n.reg.map encIssue),.sl (n.notes.map encNote),.sl ((nums n.reg).map encI),.sl ((isort (openL n.notes)).map encI)]
def fileR (n:Notes):DV:=if notesE n=0 then .one (.im (fileI n)) else .one (.im (.raw (.pointer none)))
theorem fileR_im (n:Notes):ImV (fileR n):=by unfold fileR;split<;>simp [fileI]
attribute [simp] fileR_im
theorem notesE_bad {n:Notes} {i:Nat} {x:Note} (h0:checkR n.reg=0) (hx:n.notes[i]?=some x) (h:nkA n i x=false):notesE n=30:=by
 unfold notesE
 rw [if_neg (by simp [h0]),if_neg]
 intro hb
 have:=(notesB_iff.1 hb).2.1 i x hx
 rw [h] at this;cases this
set_option maxHeartbeats 4000000 in
theorem opened_c (n:Notes) (hG:sheetG G) (hN:noteG G) (hS:SortOk G) (hs:NSm n) (objs:List DObj):DCall Tryz.prog G 103 [notesv n] objs (fun rr objs'=>rr=.tup [fileR n,iv (notesE n)]∧objs'=objs):=by
 refine DCall.frame ?_ (by simp) (by simp) objs
 refine DCall_intro Tryz.func103 rfl Tryz.ntmps103 (by simp) rfl ?_
 try simp only [notesv]
 have hN':G 2=some [.fn (.func 184) [],.fn (.func 186) [],.fn (.func 187) [],.fn (.func 188) [],.fn (.func 189) [],.fn (.func 190) [],.fn (.func 193) [],.fn (.func 195) []]:=hN
 obtain ⟨hsr,hsn,hsx⟩:=hs
 have c1:=drawings_c n.reg hG hsr
 by_cases h0:checkR n.reg=0
 ·rw [h0,show drawR n.reg=nums n.reg by simp [drawR,h0]] at c1
  by_cases hl:n.notes.length≤12
  ·have hli:¬ (12:Int) < n.notes.length:=by omega
   have hE:notesE n=if notesB n then 0 else 30:=by unfold notesE;rw [if_neg (by simp [h0])]
   have hs:True:=trivial
   repeat' first|(with_reducible first|refine q01 ?_|refine q11 ?_|refine q12 ?_|refine q13 ?_|refine q14 ?_|refine q15 ?_)|(refine CallE.pure (c1) ?_;try simp -dsimp [hli,hs])|(with_reducible refine DT_regionN (id:=6) (nt:=78) [0,1,2,3,4,5,6,7,8,9,11,19,24,30,31,32,33,37,38,39,46,50,71] rfl ?_;simp -dsimp [hli,hs])|(with_reducible refine DT_regionE [0,1,2,3,4,5,6,7,8,9,11,19,24,30,31,32,33,37,38,39,46,50,71] ?_;simp -dsimp [hli,hs])|(refine DT_cond rfl (fun h=>?_) (fun h=>?_)<;>(try simp only [nrm] at h)<;>(try exact Bool.noConfusion h))
   all_goals try simp -dsimp [hli,hs]
   all_goals try clear hs
   refine DT_loop (ι:={ p:Nat×Nat×Nat×Bool // p.1≤n.notes.length∧(p.2.2.1=1∨p.2.2.2=true∧openL (n.notes.take p.1)=[])∧∀ (j:Nat) (x:Note),j < p.1→n.notes[j]?=some x→nkA n j x=true }) (fun p=>⟨78,[(1,.one (.ptr 0 0)),(2,.one (.im (.raw (.pointer none)))),(3,iv 0),(6,.one (.ptr 5 0)),(7,bv false),(30,.one (.im (.sl (n.notes.map encNote)))),(31,iv (n.notes.length:Int)),(32,iv (p.1.1:Int))],[.row ((encNotes n).map .im),.vec 0 [] 0 true,.vec 0 [] 0 true,.vec 0 [] 0 true,.vec p.1.2.2.1 (ims ((openL (n.notes.take p.1.1)).map encI)) p.1.2.1 p.1.2.2.2,.row [.im (.sl (n.reg.map encIssue)),.im (.sl (n.notes.map encNote)),.im (.sl ((nums n.reg).map encI)),.vec 4 p.1.2.1 0 (openL (n.notes.take p.1.1)).length]]⟩) (fun p=>n.notes.length - p.1.1) ⟨(0,0,0,true),by simp [openL]⟩ (Weak.of_drop [1,2,3,6,7,30,31,32] 6 (by simp) (by simp) (by simp [openL])) ?_
   rintro ⟨⟨k,g,sz,nl⟩,hk,hsz,hok⟩
   simp only at hk hsz hok
   simp only [iv,bv]
   by_cases hlt:k < n.notes.length
   ·have hx0:n.notes[k]?=some n.notes[k]:=by simp [hlt]
    have hw:IntKind.i64.wrap ((k:Int) + 1)=((k + 1:Nat):Int):=i64w (by omega) (by omega)
    have hos:=openL_snoc n.notes k hlt
    have hol:=openL_len (n.notes.take k)
    rw [List.length_take] at hol
    generalize hx:n.notes[k]=x at *
    have k1:=nk1_c (G:=G) n k x hx0
    have k2:=nk2_c (G:=G) n k x hx0
    have k3:=nk3_c (G:=G) n k x hx0
    have k4:=nk4_c (G:=G) n k x hx0 hG hsr
    have k5:=nk5_c (G:=G) n k x hx0
    have k6:=nk6_c (G:=G) n k x hx0 (by omega)
    have k7:=nk7_c (G:=G) n k x hx0 (by omega)
    have k8:=nk8_c (G:=G) n k x hx0 (by omega)
    rw [show nk1 x=nkI n k x 0 from rfl] at k1
    rw [show nk2 x=nkI n k x 1 from rfl] at k2
    rw [show nk3 x=nkI n k x 2 from rfl] at k3
    rw [show nk4 n.reg x=nkI n k x 3 from rfl] at k4
    rw [show nk5 x=nkI n k x 4 from rfl] at k5
    rw [show nk6 n.notes k x=nkI n k x 5 from rfl] at k6
    rw [show nk7 n.notes k x=nkI n k x 6 from rfl] at k7
    rw [show nk8 n.notes k x=nkI n k x 7 from rfl] at k8
    have hbad:∀ c,nkI n k x c=false→notesE n=30:=fun c h=>notesE_bad h0 hx0 (nkI_bad h)
    have hstep:nkA n k x=true→∀ (j:Nat) (z:Note),j < k + 1→n.notes[j]?=some z→nkA n j z=true:=fun h j z hj hz=>by
     by_cases e:j=k
     ·subst e;rw [hx0] at hz;cases hz;exact h
     ·exact hok j z (by omega) hz
    have hs:True:=trivial
    repeat' first|(with_reducible first|refine q01 ?_|refine q11 ?_|refine q12 ?_|refine q14 ?_)|(with_reducible refine DT_regionE [0,1,2,3,4,5,6,7,8,9,11,19,24,30,31,32,33,37,38,39,46,50,71] ?_;simp -dsimp [hx,hlt,hN',hs])|(refine DT_cond rfl (fun h=>?_) (fun h=>?_)<;>(try simp only [nrm] at h)<;>(try exact Bool.noConfusion h))
    all_goals try simp -dsimp [hx,hlt,hN',hs]
    all_goals try clear hs
    refine DT_loop (ι:={ c:Nat // c≤8∧∀ e < c,nkI n k x e=true }) (fun p=>⟨78,[(1,.one (.ptr 0 0)),(2,.one (.im (.raw (.pointer none)))),(3,iv 0),(6,.one (.ptr 5 0)),(7,bv false),(8,iv (k:Int)),(9,.one (.ptr 6 0)),(30,.one (.im (.sl (n.notes.map encNote)))),(31,iv (n.notes.length:Int)),(32,iv (k:Int)),(37,.agg [.im (.fn (.func 184) []),.im (.fn (.func 186) []),.im (.fn (.func 187) []),.im (.fn (.func 188) []),.im (.fn (.func 189) []),.im (.fn (.func 190) []),.im (.fn (.func 193) []),.im (.fn (.func 195) [])]),(38,iv (p.1:Int))],[.row ((encNotes n).map .im),.vec 0 [] 0 true,.vec 0 [] 0 true,.vec 0 [] 0 true,.vec sz (ims ((openL (n.notes.take k)).map encI)) g nl,.row [.im (.sl (n.reg.map encIssue)),.im (.sl (n.notes.map encNote)),.im (.sl ((nums n.reg).map encI)),.vec 4 g 0 (openL (n.notes.take k)).length],.row ((encNote x).map .im)]⟩) (fun p=>8 - p.1) ⟨0,by simp⟩ (Weak.of_keep [1,2,3,6,7,8,9,30,31,32,37,38] (by simp)) ?_
    rintro ⟨c,hc,hcc⟩
    simp only [iv,bv]
    by_cases hc8:c < 8
    ·have hm:nkI n k x c=true→∀ e < c + 1,nkI n k x e=true:=fun h e he=>by
      rcases Nat.lt_succ_iff_lt_or_eq.1 he with h1|rfl
      ·exact hcc e h1
      ·exact h
     have hbc:=hbad c
     have hi8:c=0∨c=1∨c=2∨c=3∨c=4∨c=5∨c=6∨c=7:=by omega
     rcases hi8 with rfl|rfl|rfl|rfl|rfl|rfl|rfl|rfl
     all_goals
      have hs:True:=trivial
      repeat' first|(with_reducible first|refine q01 ?_|refine q02 ?_|refine q03 ?_|refine q04 ?_|refine q06 ?_|refine q07 (by decide) ?_|refine q09 ?_|refine q11 ?_|refine q12 ?_|refine q14 ?_|refine q16 ?_|refine q17 ?_)|(with_reducible refine At.fn_ret (by simp -dsimp [hli,hs];exact rfl) ?_)|(refine CallE.pure (k1) ?_;try simp -dsimp [hli,hs])|(refine CallE.pure (k2) ?_;try simp -dsimp [hli,hs])|(refine CallE.pure (k3) ?_;try simp -dsimp [hli,hs])|(refine CallE.pure (k4) ?_;try simp -dsimp [hli,hs])|(refine CallE.pure (k5) ?_;try simp -dsimp [hli,hs])|(refine CallE.pure (k6) ?_;try simp -dsimp [hli,hs])|(refine CallE.pure (k7) ?_;try simp -dsimp [hli,hs])|(refine CallE.pure (k8) ?_;try simp -dsimp [hli,hs])|(with_reducible refine DT_regionE [0,1,2,3,4,5,6,7,8,9,11,19,24,30,31,32,33,37,38,39,46,50,71] ?_;simp -dsimp [hli,hs])|(refine DT_cond rfl (fun h=>?_) (fun h=>?_)<;>(try simp only [nrm] at h)<;>(try exact Bool.noConfusion h))
      all_goals try simp -dsimp [hli,hs]
      all_goals try clear hs
     all_goals try (have h30:=hbc (by assumption);simp [fileR,h30];done)
     all_goals exact At.round ⟨_,by omega,hm (by assumption)⟩ (by simp) (Weak.of_drop [1,2,3,6,7,8,9,30,31,32,37,38] 7 (by simp) (by simp) (by simp;exact i64w (by omega) (by omega)))
    ·obtain rfl:c=8:=by omega
     have hok1:=hstep (nkI_all hcc)
     have hsz':sz=1∨nl=true:=hsz.imp id And.left
     clear k1 k2 k3 k4 k5 k6 k7 k8
     by_cases hsg:x.signed=1
     ·rw [if_pos hsg] at hos
      have hs:True:=trivial
      repeat' first|(with_reducible first|refine q01 ?_|refine q03 ?_|refine q04 ?_|refine q06 ?_|refine q11 ?_|refine q16 ?_|refine And.intro (by omega) ?_)|(refine DT_regionX (id:=18) (nt:=78) 8 [0] [0,1,2,3,4,5,6,7,8,9,11,19,24,30,31,32,33,37,38,39,46,50,52,53,54,55,56,57,58,71] [0,1,2,3,4,5,6,7,8,9,11,19,24,30,31,32,33,37,38,39,46,50,71] mixed rfl (by kernel_rfl) ?_;simp -dsimp [hx,hlt,hsg,hw,hsz',hs])|(with_reducible refine DT_regionE [0,1,2,3,4,5,6,7,8,9,11,19,24,30,31,32,33,37,38,39,46,50,71] ?_;simp -dsimp [hx,hlt,hsg,hw,hsz',hs])|(refine DT_cond rfl (fun h=>?_) (fun h=>?_)<;>(try simp only [nrm] at h)<;>(try exact Bool.noConfusion h))
      all_goals try simp -dsimp [hx,hlt,hsg,hw,hsz',hs]
      all_goals try clear hs
      exact At.round ⟨(k + 1,g + 1,1,false),by omega,.inl rfl,hok1⟩ (by simp;omega) (Weak.of_drop [1,2,3,6,7,30,31,32] 6 (by simp) (by simp) (by simp [hos]))
     ·rw [if_neg hsg,List.append_nil] at hos
      have hszn:sz=1∨nl=true∧openL (n.notes.take (k + 1))=[]:=by rw [hos];exact hsz
      have hs:True:=trivial
      repeat' first|(with_reducible first|refine q01 ?_|refine q03 ?_|refine q04 ?_|refine q06 ?_|refine q11 ?_|refine q14 ?_|refine q16 ?_)|(with_reducible refine DT_regionE [0,1,2,3,4,5,6,7,8,9,11,19,24,30,31,32,33,37,38,39,46,50,71] ?_;simp -dsimp [hx,hlt,hsg,hw,hs])|(refine DT_cond rfl (fun h=>?_) (fun h=>?_)<;>(try simp only [nrm] at h)<;>(try exact Bool.noConfusion h))
      all_goals try simp -dsimp [hx,hlt,hsg,hw,hs]
      all_goals try clear hs
      exact At.round ⟨(k + 1,g,sz,nl),by omega,hszn,hok1⟩ (by simp;omega) (Weak.of_drop [1,2,3,6,7,30,31,32] 6 (by simp) (by simp) (by simp [hos]))
   ·obtain rfl:k=n.notes.length:=by omega
    rw [List.take_length] at *
    have hall:allOk n:=fun i x hx=>hok i x (lt_of_getElem? hx) hx
    have hol:=openL_len n.notes
    have c2:=hS (openL n.notes) g sz nl hsz (by omega)
    have hil:=isort_len (openL n.notes)
    by_cases h5:(openL n.notes).length≤5
    ·have hE0:notesE n=0:=by rw [hE,if_pos (notesB_iff.2 ⟨hl,hall,h5⟩)]
     have h5i:¬ (5:Int) < (openL n.notes).length:=by omega
     have hsz':sz=1∨nl=true:=hsz.imp id And.left
     have htk:(ims ((isort (openL n.notes)).map encI)).take (openL n.notes).length=ims ((isort (openL n.notes)).map encI):=List.take_of_length_le (by simp [ims_length,hil])
     have hs:True:=trivial
     repeat' first|(with_reducible first|refine q01 ?_|refine q03 ?_|refine q06 ?_|refine q09 ?_|refine q11 ?_|refine q14 ?_|refine q16 ?_|refine q17 ?_)|(with_reducible refine At.fn_ret (by simp -dsimp [hlt,h5i,hsz',htk,hil,hs];exact rfl) ?_)|(refine CallE.embed [4] (c2) ?_ ?_ ?_ ?_ ?_ ?_;(focus (simp [emb];done));(focus (simp;done));(focus (simp;done));(focus (simp;done));(focus (refine emb_all ?_;simp [emb,embAll];done));try simp -dsimp [mergeO,emb,hlt,h5i,hsz',htk,hil,hs])|(with_reducible refine DT_regionE [0,1,2,3,4,5,6,7,8,9,11,19,24,30,31,32,33,37,38,39,46,50,71] ?_;simp -dsimp [hlt,h5i,hsz',htk,hil,hs])|(refine DT_cond rfl (fun h=>?_) (fun h=>?_)<;>(try simp only [nrm] at h)<;>(try exact Bool.noConfusion h))
     all_goals try simp -dsimp [hlt,h5i,hsz',htk,hil,hs]
     all_goals try clear hs
     all_goals simp [fileR,hE0,fileI,hil,htk]
    ·have hE0:notesE n=30:=by rw [hE,if_neg fun h=>h5 (notesB_iff.1 h).2.2]
     have h5i:(5:Int) < (openL n.notes).length:=by omega
     have hs:True:=trivial
     repeat' first|(with_reducible first|refine q01 ?_|refine q02 ?_|refine q03 ?_|refine q06 ?_|refine q09 ?_|refine q11 ?_|refine q16 ?_|refine q17 ?_)|(with_reducible refine At.fn_ret (by simp -dsimp [hlt,h5i,hs];exact rfl) ?_)|(with_reducible refine DT_regionE [0,1,2,3,4,5,6,7,8,9,11,19,24,30,31,32,33,37,38,39,46,50,71] ?_;simp -dsimp [hlt,h5i,hs])|(refine DT_cond rfl (fun h=>?_) (fun h=>?_)<;>(try simp only [nrm] at h)<;>(try exact Bool.noConfusion h))
     all_goals try simp -dsimp [hlt,h5i,hs]
     all_goals try clear hs
     all_goals simp [fileR,hE0]
  ·have hE:notesE n=30:=by
    unfold notesE
    rw [if_neg (by simp [h0]),if_neg fun h=>hl (notesB_iff.1 h).1]
   have hli:(12:Int) < n.notes.length:=by omega
   have hs:True:=trivial
   repeat' first|(with_reducible first|refine q01 ?_|refine q02 ?_|refine q09 ?_|refine q11 ?_|refine q13 ?_|refine q14 ?_|refine q17 ?_)|(with_reducible refine At.fn_ret (by simp -dsimp [hli,hs];exact rfl) ?_)|(refine CallE.pure (c1) ?_;try simp -dsimp [hli,hs])|(with_reducible refine DT_regionE [0,1,2,3,4,5,6,7,8,9,11,19,24,30,31,32,33,37,38,39,46,50,71] ?_;simp -dsimp [hli,hs])|(refine DT_cond rfl (fun h=>?_) (fun h=>?_)<;>(try simp only [nrm] at h)<;>(try exact Bool.noConfusion h))
   all_goals try simp -dsimp [hli,hs]
   all_goals try clear hs
   all_goals simp [fileR,hE]
 ·have hE:notesE n=checkR n.reg:=by unfold notesE;rw [if_pos h0]
  have hs:True:=trivial
  repeat' first|(with_reducible first|refine q01 ?_|refine q02 ?_|refine q09 ?_|refine q11 ?_|refine q13 ?_|refine q17 ?_)|(with_reducible refine At.fn_ret (by simp -dsimp [h0,hs];exact rfl) ?_)|(refine CallE.pure (c1) ?_;try simp -dsimp [h0,hs])|(with_reducible refine DT_regionE [0,1,2,3,4,5,6,7,8,9,11,19,24,30,31,32,33,37,38,39,46,50,71] ?_;simp -dsimp [h0,hs])|(refine DT_cond rfl (fun h=>?_) (fun h=>?_)<;>(try simp only [nrm] at h)<;>(try exact Bool.noConfusion h))
  all_goals try simp -dsimp [h0,hs]
  all_goals try clear hs
  all_goals simp [fileR,hE,h0]
end Go.Proofs
namespace Go.Proofs
open Go Go.Ab
set_option linter.unusedSimpArgs false
variable {G:Nat→Option (List IC)}
theorem nCheck_c (n:Notes) (hG:sheetG G) (hN:noteG G) (hS:SortOk G) (hs:NSm n) (objs:List DObj):DCall Tryz.prog G 75 [notesv n] objs (fun rr objs'=>rr=iv (notesE n)∧objs'=objs):=by
 refine DCall.frame ?_ (by simp) (by simp) objs
 refine DCall_intro Tryz.func75 rfl Tryz.ntmps75 (by simp) rfl ?_
 try simp only [notesv]
 have c1:=opened_c n hG hN hS hs
 have hs:True:=trivial
 repeat' first|(with_reducible first|refine q01 ?_|refine q11 ?_|refine q17 ?_)|(with_reducible refine At.fn_ret (by simp -dsimp [hs];exact rfl) ?_)|(refine CallE.pure (c1) ?_;try simp -dsimp [hs])|(with_reducible refine DT_regionE [0,1,2,4] ?_;simp -dsimp [hs])
 all_goals try simp -dsimp [hs]
 all_goals try clear hs
def askedE (n:Notes) (s:List Int) (m:Int):Int:=if notesE n≠0 then notesE n else if truthB (isort (openL n.notes)) s=false then 31 else if 1≤m∧m≤999 then 0 else 2
def askedR (n:Notes) (s:List Int) (m:Int):DV:=if askedE n s m=0 then .one (.im (fileI n)) else .one (.im (.raw (.pointer none)))
theorem askedR_im (n:Notes) (s:List Int) (m:Int):ImV (askedR n s m):=by unfold askedR;split<;>simp [fileI]
attribute [simp] askedR_im
def drawnE (n:Notes) (s:List Int) (m d:Int):Int:=if askedE n s m≠0 then askedE n s m else if d∈nums n.reg then 0 else 6
def drawnR (n:Notes) (s:List Int) (m d:Int):DV:=if drawnE n s m d=0 then .one (.im (fileI n)) else .one (.im (.raw (.pointer none)))
theorem drawnR_im (n:Notes) (s:List Int) (m d:Int):ImV (drawnR n s m d):=by unfold drawnR;split<;>simp [fileI]
attribute [simp] drawnR_im
end Go.Proofs
namespace Go.Proofs
open Go Go.Ab
set_option linter.unusedSimpArgs false
variable {G:Nat→Option (List IC)}
def frcAt (n:Notes) (s w:List Int) (m:Int) (i:Nat):Bool:=((frcL s w m n.notes)[i]?).getD false
def ConsM (n:Notes) (s w:List Int) (m:Int) (M:List (Int×Bool)):Prop:=∀ (k:Nat) (b:Bool),blook (k:Int) M=some b→frcAt n s w m k=b
theorem ConsM.nil (n:Notes) (s w:List Int) (m:Int):ConsM n s w m []:=fun k b h=>by cases h
theorem ConsM.put {n:Notes} {s w:List Int} {m:Int} {M:List (Int×Bool)} (h:ConsM n s w m M) (i:Nat) {b:Bool} (hb:frcAt n s w m i=b):ConsM n s w m (bput (i:Int) b M):=fun k c hk=>by
 rw [blook_bput] at hk
 split at hk
 ·rename_i e
  obtain rfl:i=k:=by omega
  cases hk;exact hb
 ·exact h k c hk
end Go.Proofs
namespace Go.Proofs
open Go Go.Ab
set_option linter.unusedSimpArgs false
variable {G:Nat→Option (List IC)}
end Go.Proofs
namespace Go.Proofs
open Go Go.Ab
end Go.Proofs
namespace Go.Ab
open Go
@[simp] theorem ims_set1 (X:List (List IC)) (k:Nat) (c:IC):(ims X).set k [DC.im c]=ims (X.set k [c]):=by
 simp only [ims,List.map_set,List.map_cons,List.map_nil]
@[simp] theorem ims_get1 (X:List (List IC)) (k:Nat) (h:k < (ims X).length):(ims X)[k]=(X[k]'(by simpa [ims_length] using h)).map .im:=by simp [ims]
end Go.Ab
namespace Go.Proofs
open Go Go.Ab
set_option linter.unusedSimpArgs false
variable {G:Nat→Option (List IC)}
end Go.Proofs
namespace Go.Proofs
open Go Go.Ab
set_option linter.unusedSimpArgs false
variable {G:Nat→Option (List IC)}
end Go.Proofs
namespace Go.Proofs
open Go Go.Ab
set_option linter.unusedSimpArgs false
variable {G:Nat→Option (List IC)}
end Go.Proofs
namespace Go.Proofs
open Go Go.Ab
end Go.Proofs
namespace Go.Proofs
open Go Go.Ab
set_option linter.unusedSimpArgs false
variable {G:Nat→Option (List IC)}
def NKind (n:Notes):Prop:=(∀ x∈n.reg,0≤x.kind∧x.kind≤255)∧∀ x∈n.notes,0≤x.ways∧x.ways≤255∧0≤x.signed∧x.signed≤255
theorem NSm_of {n:Notes} (hk:NKind n) (h:smallNB n=true):SmallN n∧NSm n:=by
 simp only [smallNB,Bool.and_eq_true,decide_eq_true_eq] at h
 refine ⟨h,⟨h.1.1,fun x hx=>⟨(hk.1 x hx).1,(hk.1 x hx).2,h.1.2 x hx⟩⟩,h.2,hk.2⟩
end Go.Proofs
namespace Go.Proofs
open Go Go.Ab
theorem len10 {α:Type} {l:List α} (h:l.length=10):∃ a b c d e f g i j k,l=[a,b,c,d,e,f,g,i,j,k]:=by
 match l,h with
 | [a,b,c,d,e,f,g,i,j,k],_=>exact ⟨a,b,c,d,e,f,g,i,j,k,rfl⟩
def noteIn (x:Note):Prop:=0≤x.ways∧x.ways≤255∧0≤x.signed∧x.signed≤255
def noteP:Nat→List IC→Prop
 | 2=>fun l=>∃ n:Int,(0≤n∧n≤255)∧l=[.raw (.int .u8 n)]
 | 8=>fun l=>∃ b:Bool,l=[rB b]
 | 9=>fun l=>∃ n:Int,(0≤n∧n≤255)∧l=[.raw (.int .u8 n)]
 | _=>fun l=>∃ n:Int,l=[rI n]
theorem rdNote:Rd 76 encNote noteIn:=(Opens.struct Tryz.underlying76 (by kernel_rfl) noteP (fun i f hf=>by
 rcases i with _|_|_|_|_|_|_|_|_|_|i<;>simp at hf<;>subst hf
 ·exact oInt
 ·exact oInt
 ·exact oU8
 ·exact oInt
 ·exact oInt
 ·exact oInt
 ·exact oInt
 ·exact oInt
 ·exact oBool
 ·exact oU8)).mono (by
 rintro l ⟨ls,h1,h2,rfl⟩
 obtain ⟨a,b,c,d,e,f,g,i,j,k,rfl⟩:=len10 h1
 obtain ⟨x0,rfl⟩:=h2 0 a rfl
 obtain ⟨x1,rfl⟩:=h2 1 b rfl
 obtain ⟨x2,k2,rfl⟩:=h2 2 c rfl
 obtain ⟨x3,rfl⟩:=h2 3 d rfl
 obtain ⟨x4,rfl⟩:=h2 4 e rfl
 obtain ⟨x5,rfl⟩:=h2 5 f rfl
 obtain ⟨x6,rfl⟩:=h2 6 g rfl
 obtain ⟨x7,rfl⟩:=h2 7 i rfl
 obtain ⟨x8,rfl⟩:=h2 8 j rfl
 obtain ⟨x9,k9,rfl⟩:=h2 9 k rfl
 exact ⟨⟨x0,x1,x2,x3,x4,x5,x6,x7,x8,x9⟩,⟨k9.1,k9.2,k2.1,k2.2⟩,rfl⟩)
theorem oNoteL:Opens Tryz.prog 25 (fun l=>∃ xs:List Note,(∀ x∈xs,noteIn x)∧l=[.sl (xs.map encNote)]):=
 Opens.sliceOf Tryz.underlying25 (sz:=10) (by kernel_rfl) (by decide) (fun _=>rfl) rdNote
def notesP:Nat→List IC→Prop
 | 0=>fun l=>∃ xs:List Issue,(∀ x∈xs,kindIn x)∧l=[.sl (xs.map encIssue)]
 | _=>fun l=>∃ xs:List Note,(∀ x∈xs,noteIn x)∧l=[.sl (xs.map encNote)]
theorem rdNotes:Rd 27 encNotes NKind:=(Opens.struct Tryz.underlying27 (by kernel_rfl) notesP (fun i f hf=>by
 rcases i with _|_|i<;>simp at hf<;>subst hf
 ·exact oReg
 ·exact oNoteL)).mono (by
 rintro l ⟨ls,h1,h2,rfl⟩
 obtain ⟨a,b,rfl⟩:=len2 h1
 obtain ⟨x,hx,rfl⟩:=h2 0 a rfl
 obtain ⟨y,hy,rfl⟩:=h2 1 b rfl
 exact ⟨⟨x,y⟩,⟨hx,hy⟩,rfl⟩)
end Go.Proofs
namespace Go.Ab
open Go
structure Holder where
 id:Int
 frm:Int
 to:Int
 draws:List Int
 deriving DecidableEq
structure Print where
 number:Int
 day:Int
 holder:Int
 drawing:Int
 letter:Int
 back:Int
 lost:Int
 deriving DecidableEq
structure Prints where
 n:Notes
 holders:List Holder
 prints:List Print
 deriving DecidableEq
def encHolder (x:Holder):List IC:=[rI x.id,rI x.frm,rI x.to,.sl (x.draws.map encI)]
def encPrint (x:Print):List IC:=[rI x.number,rI x.day,rI x.holder,rI x.drawing,rI x.letter,rI x.back,.raw (.int .u8 x.lost)]
def encPrints (p:Prints):List IC:=[.sl (p.n.reg.map encIssue),.sl (p.n.notes.map encNote),.sl (p.holders.map encHolder),.sl (p.prints.map encPrint)]
def holdv (x:Holder):DV:=.agg ((encHolder x).map .im)
def printv (x:Print):DV:=.agg ((encPrint x).map .im)
def printsv (p:Prints):DV:=.agg ((encPrints p).map .im)
attribute [simp] encHolder encPrint encPrints holdv printv printsv
end Go.Ab
namespace Go.Proofs
open Go Go.Ab
set_option linter.unusedSimpArgs false
variable {G:Nat→Option (List IC)}
theorem in1_recall (x lo hi:Int):DCall Tryz.prog G 121 (iv x :: [DC.ptr 0 0,DC.ptr 1 0].map .one) [.row [.im (rI lo)],.row [.im (rI hi)]] (fun d o=>d=bv (decide (x < lo) || decide (hi < x))∧o=[.row [.im (rI lo)],.row [.im (rI hi)]]):=by
 refine DCall_intro Tryz.func121 rfl Tryz.ntmps121 (by simp) rfl ?_
 simp only [rI]
 have hs:True:=trivial
 repeat' first|(with_reducible first|refine q01 ?_|refine q11 ?_|refine q17 ?_)|(with_reducible refine At.fn_ret (by simp -dsimp [hs];exact rfl) ?_)|(with_reducible refine DT_regionE [0,1,2,4] ?_;simp -dsimp [hs])|(with_reducible refine GStop_split ?_ ?_<;>intro h<;>have h0:=h<;>(try simp only [nrm] at h)<;>(try exact Bool.noConfusion h)<;>have h2:=h<;>(try simp at h2)<;>(replace hs:=And.intro h0 (And.intro h (And.intro h2 hs)))<;>simp -dsimp [h0,h,h2,hs])|with_reducible refine And.intro ?_ ?_
 all_goals try simp -dsimp [hs]
 all_goals try clear hs
 all_goals simp [*]
theorem in_recall (lo hi:Int) (l:List Int) (hl:l.length < 1000000) (objs:List DObj):DCall Tryz.prog G 104 [iv lo,iv hi,isv l] objs (fun rr objs'=>rr=bv (l.all fun x=>decide (lo≤x) && decide (x≤hi))∧objs'=objs):=by
 refine DCall.frame ?_ (by simp) (by simp) objs
 refine DCall_intro Tryz.func104 rfl Tryz.ntmps104 (by simp) rfl ?_
 try simp only [iv,iv,isv]
 have hc:=containsFunc_int (G:=G) l (fun x=>decide (x < lo) || decide (hi < x)) 121 [.ptr 0 0,.ptr 1 0] [.row [.im (rI lo)],.row [.im (rI hi)]] (by simp) (fun x _=>in1_recall x lo hi) hl
 simp only [rI] at hc
 have hs:True:=trivial
 repeat' first|(with_reducible first|refine q01 ?_|refine q11 ?_|refine q17 ?_)|(with_reducible refine At.fn_ret (by simp -dsimp [hs];exact rfl) ?_)|(refine CallE.here hc ?_;try simp -dsimp [hs])|(with_reducible refine DT_regionE [0,1,2,3,4,6] ?_;simp -dsimp [hs])
 all_goals try simp -dsimp [hs]
 all_goals try clear hs
 rw [Bool.eq_iff_iff];simp
 exact exists_congr fun x=>and_congr_right fun _=>by omega
theorem indexFunc_hold (l:List Holder) (p:Holder→Bool) (k:Nat) (caps:List DC) (objs:List DObj) (hok:CallOk Tryz.prog k) (hf:∀ x∈l,DCall Tryz.prog G k (holdv x :: caps.map .one) objs (fun d o=>d=bv (p x)∧o=objs)) (hl:l.length < 1000000):DCall Tryz.prog G 52 [.one (.im (.sl (l.map encHolder))),.one (.fn (.func k) caps)] objs (fun d o=>d=iv (fidx p l)∧o=objs):=by
 refine DCall_intro Tryz.func52 rfl Tryz.ntmps52 (by simp) rfl ?_
 have hs:True:=trivial
 repeat' first|(with_reducible first|refine q01 ?_|refine q11 ?_|refine q12 ?_)|(with_reducible refine DT_regionE [0,1,4,5,7,8,9,16] ?_;simp -dsimp [hs])
 all_goals try simp -dsimp [hs]
 all_goals try clear hs
 refine DT_loop (ι:={ k:Nat // k≤l.length∧∀ j x,j < k→l[j]?=some x→p x=false }) (fun i=>⟨19,[(0,.one (.im (.sl (l.map encHolder)))),(1,.one (.fn (.func k) caps)),(7,iv (l.length:Int)),(8,iv (i.1:Int))],objs⟩) (fun i=>l.length - i.1) ⟨0,by simp⟩ (Weak.of_keep [0,1,7,8] (by simp)) ?_
 rintro ⟨i,hi,hno⟩
 simp only [iv]
 by_cases hlt:i < l.length
 ·have hx:l[i]?=some l[i]:=by simp [hlt]
  have hw:IntKind.i64.wrap ((i:Int) + 1)=((i + 1:Nat):Int):=i64w (by omega) (by omega)
  have hc:=hf l[i] (by simp)
  simp only [holdv,encHolder,List.map_cons,List.map_nil,bv,rI] at hc
  have hs:True:=trivial
  repeat' first|(with_reducible first|refine q01 ?_|refine q02 ?_|refine q03 ?_|refine q04 ?_|refine q05 ?_|refine q06 ?_|refine q11 ?_|refine q12 ?_|refine q14 ?_|refine q16 ?_|refine q17 ?_|refine And.intro (by omega) ?_)|(with_reducible refine At.fn_ret (by simp -dsimp [hx,hw,hok,hs];exact rfl) ?_)|(refine CallE.here hc ?_;try simp -dsimp [hx,hw,hok,hs])|(with_reducible refine DT_regionE [0,1,4,5,7,8,9,16] ?_;simp -dsimp [hx,hw,hok,hs])|(refine DT_cond rfl (fun h=>?_) (fun h=>?_)<;>(try simp only [nrm] at h)<;>(try exact Bool.noConfusion h))|with_reducible refine And.intro ?_ ?_
  all_goals try simp -dsimp [hx,hw,hok,hs]
  all_goals try clear hs
  all_goals try omega
  ·exact (fidx_yes hx (by assumption) hno).symm
  ·exact At.round ⟨i + 1,by omega,fun j x hj hjx=>by
    by_cases e:j=i
    ·subst e;rw [hx] at hjx;cases hjx;assumption
    ·exact hno j x (by omega) hjx⟩ (by simp;omega) (Weak.of_keep [0,1,7,8] (by simp))
 ·have hs:True:=trivial
  repeat' first|(with_reducible first|refine q01 ?_|refine q03 ?_|refine q06 ?_|refine q11 ?_|refine q12 ?_|refine q14 ?_|refine q16 ?_|refine q17 ?_)|(with_reducible refine At.fn_ret (by simp -dsimp [hs];exact rfl) ?_)|(with_reducible refine DT_regionE [0,1,4,5,7,8,9,16] ?_;simp -dsimp [hs])|(refine DT_cond rfl (fun h=>?_) (fun h=>?_)<;>(try simp only [nrm] at h)<;>(try exact Bool.noConfusion h))|with_reducible refine And.intro ?_ ?_
  all_goals try simp -dsimp [hs]
  all_goals try clear hs
  all_goals try omega
  exact (fidx_no fun j x hjx=>hno j x (by have:=lt_of_getElem? hjx;omega) hjx).symm
theorem containsFunc_hold (l:List Holder) (p:Holder→Bool) (k:Nat) (caps:List DC) (objs:List DObj) (hok:CallOk Tryz.prog k) (hf:∀ x∈l,DCall Tryz.prog G k (holdv x :: caps.map .one) objs (fun d o=>d=bv (p x)∧o=objs)) (hl:l.length < 1000000):DCall Tryz.prog G 32 [.one (.im (.sl (l.map encHolder))),.one (.fn (.func k) caps)] objs (fun d o=>d=bv (l.any p)∧o=objs):=by
 refine DCall_intro Tryz.func32 rfl Tryz.ntmps32 (by simp) rfl ?_
 have hc:=indexFunc_hold l p k caps objs hok hf hl
 have hs:True:=trivial
 repeat' first|(with_reducible first|refine q01 ?_|refine q11 ?_|refine q17 ?_)|(with_reducible refine At.fn_ret (by simp -dsimp [hs];exact rfl) ?_)|(refine CallE.here hc ?_;try simp -dsimp [hs])|(with_reducible refine DT_regionE [0,1,4] ?_;simp -dsimp [hs])|with_reducible refine And.intro ?_ ?_
 all_goals try simp -dsimp [hs]
 all_goals try clear hs
 simp [fidx_nonneg]
theorem indexFunc_iss (l:List Issue) (p:Issue→Bool) (k:Nat) (caps:List DC) (objs:List DObj) (hok:CallOk Tryz.prog k) (hf:∀ x∈l,DCall Tryz.prog G k (issv x :: caps.map .one) objs (fun d o=>d=bv (p x)∧o=objs)) (hl:l.length < 1000000):DCall Tryz.prog G 183 [.one (.im (.sl (l.map encIssue))),.one (.fn (.func k) caps)] objs (fun d o=>d=iv (fidx p l)∧o=objs):=by
 refine DCall_intro Tryz.func183 rfl Tryz.ntmps183 (by simp) rfl ?_
 have hs:True:=trivial
 repeat' first|(with_reducible first|refine q01 ?_|refine q11 ?_|refine q12 ?_)|(with_reducible refine DT_regionE [0,1,4,5,7,8,9,16] ?_;simp -dsimp [hs])
 all_goals try simp -dsimp [hs]
 all_goals try clear hs
 refine DT_loop (ι:={ k:Nat // k≤l.length∧∀ j x,j < k→l[j]?=some x→p x=false }) (fun i=>⟨19,[(0,.one (.im (.sl (l.map encIssue)))),(1,.one (.fn (.func k) caps)),(7,iv (l.length:Int)),(8,iv (i.1:Int))],objs⟩) (fun i=>l.length - i.1) ⟨0,by simp⟩ (Weak.of_keep [0,1,7,8] (by simp)) ?_
 rintro ⟨i,hi,hno⟩
 simp only [iv]
 by_cases hlt:i < l.length
 ·have hx:l[i]?=some l[i]:=by simp [hlt]
  have hw:IntKind.i64.wrap ((i:Int) + 1)=((i + 1:Nat):Int):=i64w (by omega) (by omega)
  have hc:=hf l[i] (by simp)
  simp only [issv,encIssue,List.map_cons,List.map_nil,bv,rI] at hc
  have hs:True:=trivial
  repeat' first|(with_reducible first|refine q01 ?_|refine q02 ?_|refine q03 ?_|refine q04 ?_|refine q05 ?_|refine q06 ?_|refine q11 ?_|refine q12 ?_|refine q14 ?_|refine q16 ?_|refine q17 ?_|refine And.intro (by omega) ?_)|(with_reducible refine At.fn_ret (by simp -dsimp [hx,hw,hok,hs];exact rfl) ?_)|(refine CallE.here hc ?_;try simp -dsimp [hx,hw,hok,hs])|(with_reducible refine DT_regionE [0,1,4,5,7,8,9,16] ?_;simp -dsimp [hx,hw,hok,hs])|(refine DT_cond rfl (fun h=>?_) (fun h=>?_)<;>(try simp only [nrm] at h)<;>(try exact Bool.noConfusion h))|with_reducible refine And.intro ?_ ?_
  all_goals try simp -dsimp [hx,hw,hok,hs]
  all_goals try clear hs
  all_goals try omega
  ·exact (fidx_yes hx (by assumption) hno).symm
  ·exact At.round ⟨i + 1,by omega,fun j x hj hjx=>by
    by_cases e:j=i
    ·subst e;rw [hx] at hjx;cases hjx;assumption
    ·exact hno j x (by omega) hjx⟩ (by simp;omega) (Weak.of_keep [0,1,7,8] (by simp))
 ·have hs:True:=trivial
  repeat' first|(with_reducible first|refine q01 ?_|refine q03 ?_|refine q06 ?_|refine q11 ?_|refine q12 ?_|refine q14 ?_|refine q16 ?_|refine q17 ?_)|(with_reducible refine At.fn_ret (by simp -dsimp [hs];exact rfl) ?_)|(with_reducible refine DT_regionE [0,1,4,5,7,8,9,16] ?_;simp -dsimp [hs])|(refine DT_cond rfl (fun h=>?_) (fun h=>?_)<;>(try simp only [nrm] at h)<;>(try exact Bool.noConfusion h))|with_reducible refine And.intro ?_ ?_
  all_goals try simp -dsimp [hs]
  all_goals try clear hs
  all_goals try omega
  exact (fidx_no fun j x hjx=>hno j x (by have:=lt_of_getElem? hjx;omega) hjx).symm
theorem containsFunc_iss (l:List Issue) (p:Issue→Bool) (k:Nat) (caps:List DC) (objs:List DObj) (hok:CallOk Tryz.prog k) (hf:∀ x∈l,DCall Tryz.prog G k (issv x :: caps.map .one) objs (fun d o=>d=bv (p x)∧o=objs)) (hl:l.length < 1000000):DCall Tryz.prog G 179 [.one (.im (.sl (l.map encIssue))),.one (.fn (.func k) caps)] objs (fun d o=>d=bv (l.any p)∧o=objs):=by
 refine DCall_intro Tryz.func179 rfl Tryz.ntmps179 (by simp) rfl ?_
 have hc:=indexFunc_iss l p k caps objs hok hf hl
 have hs:True:=trivial
 repeat' first|(with_reducible first|refine q01 ?_|refine q11 ?_|refine q17 ?_)|(with_reducible refine At.fn_ret (by simp -dsimp [hs];exact rfl) ?_)|(refine CallE.here hc ?_;try simp -dsimp [hs])|(with_reducible refine DT_regionE [0,1,4] ?_;simp -dsimp [hs])|with_reducible refine And.intro ?_ ?_
 all_goals try simp -dsimp [hs]
 all_goals try clear hs
 simp [fidx_nonneg]
def officeI (p:Prints):IC:=.ip [.sl (p.n.reg.map encIssue),.sl (p.n.notes.map encNote),.sl (p.holders.map encHolder),.sl (p.prints.map encPrint),.sl ((nums p.n.reg).map encI)]
theorem holder1_c (n:Int) (y:Holder):DCall Tryz.prog G 117 (holdv y :: [DC.ptr 0 0].map .one) [.row [.im (rI n)]] (fun d o=>d=bv (decide (y.id=n))∧o=[.row [.im (rI n)]]):=by
 refine DCall.drop ?_
 refine DCall_intro Tryz.func117 rfl Tryz.ntmps117 (by simp) rfl ?_
 simp only [holdv,encHolder,rI]
 have hs:True:=trivial
 repeat' first|(with_reducible first|refine q01 ?_|refine q11 ?_|refine q17 ?_)|(with_reducible refine At.fn_ret (by simp -dsimp [hs];exact rfl) ?_)|(with_reducible refine DT_regionE [0,1,2,3] ?_;simp -dsimp [hs])|with_reducible refine And.intro ?_ ?_
 all_goals try simp -dsimp [hs]
 all_goals try clear hs
theorem holder_c (p:Prints) (n:Int) (hl:p.holders.length < 1000000) (objs:List DObj):DCall Tryz.prog G 92 [.one (.im (officeI p)),iv n] objs (fun rr objs'=>rr=iv (fidx (fun y=>decide (y.id=n)) p.holders)∧objs'=objs):=by
 refine DCall.frame ?_ (by simp) (by simp) objs
 refine DCall_intro Tryz.func92 rfl Tryz.ntmps92 (by simp) rfl ?_
 try simp only [iv]
 simp only [officeI]
 have c1:=indexFunc_hold (G:=G) p.holders (fun y=>decide (y.id=n)) 117 [.ptr 0 0] [.row [.im (rI n)]] (by simp) (fun y _=>holder1_c n y) hl
 simp only [rI] at c1
 have hs:True:=trivial
 repeat' first|(with_reducible first|refine q01 ?_|refine q11 ?_|refine q17 ?_)|(with_reducible refine At.fn_ret (by simp -dsimp [hs];exact rfl) ?_)|(refine CallE.here (c1) ?_;try simp -dsimp [hs])|(with_reducible refine DT_regionE [0,1,3,4] ?_;simp -dsimp [hs])
 all_goals try simp -dsimp [hs]
 all_goals try clear hs
def pk1 (x:Print):Bool:=(decide (1≤x.number) && decide (x.number≤9999)) && (decide (0≤x.day) && decide (x.day≤14610))
theorem pk1_c (d:IC) (x:Print) (objs:List DObj):DCall Tryz.prog G 176 [.one (.im d),printv x] objs (fun rr objs'=>rr=bv (pk1 x)∧objs'=objs):=by
 refine DCall.frame ?_ (by simp) (by simp) objs
 refine DCall_intro Tryz.func176 rfl Tryz.ntmps176 (by simp) rfl ?_
 try simp only [iv]
 have c1:=in_recall (G:=G) 1 9999 [x.number] (by simp)
 have c2:=in_recall (G:=G) 0 14610 [x.day] (by simp)
 have hs:True:=trivial
 repeat' first|(with_reducible first|refine q01 ?_|refine q11 ?_|refine q17 ?_)|(with_reducible refine At.fn_ret (by simp -dsimp [hs];exact rfl) ?_)|(refine CallE.thaw (c1) ?_ ?_ ?_;(focus (simp;done));(focus (simp;done));try simp -dsimp [hs])|(refine CallE.thaw (c2) ?_ ?_ ?_;(focus (simp;done));(focus (simp;done));try simp -dsimp [hs])|(with_reducible refine DT_regionE [1,3,4] ?_;simp -dsimp [hs])|(with_reducible refine GStop_split ?_ ?_<;>intro h<;>have h0:=h<;>(try simp only [nrm] at h)<;>(try exact Bool.noConfusion h)<;>have h2:=h<;>(try simp at h2)<;>(replace hs:=And.intro h0 (And.intro h (And.intro h2 hs)))<;>simp -dsimp [h0,h,h2,hs])
 all_goals try simp -dsimp [hs]
 all_goals try clear hs
 all_goals simp_all [pk1]
 all_goals omega
def pk2 (l:List Holder) (x:Print):Bool:=l.any fun y=>decide (y.id=x.holder)
theorem pk2_c (p:Prints) (x:Print) (hl:p.holders.length < 1000000) (objs:List DObj):DCall Tryz.prog G 177 [.one (.im (officeI p)),printv x] objs (fun rr objs'=>rr=bv (pk2 p.holders x)∧objs'=objs):=by
 refine DCall.frame ?_ (by simp) (by simp) objs
 refine DCall_intro Tryz.func177 rfl Tryz.ntmps177 (by simp) rfl ?_
 try simp only [iv]
 have c1:=holder_c (G:=G) p x.holder hl
 simp only [officeI] at c1 ⊢
 have hs:True:=trivial
 repeat' first|(with_reducible first|refine q01 ?_|refine q11 ?_|refine q17 ?_)|(with_reducible refine At.fn_ret (by simp -dsimp [hs];exact rfl) ?_)|(refine CallE.pure (c1) ?_;try simp -dsimp [hs])|(with_reducible refine DT_regionE [0,1,3,4] ?_;simp -dsimp [hs])
 all_goals try simp -dsimp [hs]
 all_goals try clear hs
 rw [fidx_nonneg];rfl
def pk3 (l:List Issue) (x:Print):Bool:=l.any fun y=>decide (x.drawing=y.drawing∧x.letter=y.letter)
theorem pk31_c (x:Print) (y:Issue):DCall Tryz.prog G 180 (issv y :: [DC.ptr 0 0].map .one) [.row ((encPrint x).map .im)] (fun d o=>d=bv (decide (x.drawing=y.drawing∧x.letter=y.letter))∧o=[.row ((encPrint x).map .im)]):=by
 refine DCall.drop ?_
 refine DCall_intro Tryz.func180 rfl Tryz.ntmps180 (by simp) rfl ?_
 simp only [issv,encIssue,encPrint,rI]
 have hs:True:=trivial
 repeat' first|(with_reducible first|refine q01 ?_|refine q11 ?_|refine q17 ?_)|(with_reducible refine At.fn_ret (by simp -dsimp [hs];exact rfl) ?_)|(with_reducible refine DT_regionE [0,1,2,3] ?_;simp -dsimp [hs])|with_reducible refine And.intro ?_ ?_
 all_goals try simp -dsimp [hs]
 all_goals try clear hs
theorem pk3_c (p:Prints) (x:Print) (hl:p.n.reg.length < 1000000) (objs:List DObj):DCall Tryz.prog G 178 [.one (.im (officeI p)),printv x] objs (fun rr objs'=>rr=bv (pk3 p.n.reg x)∧objs'=objs):=by
 refine DCall.frame ?_ (by simp) (by simp) objs
 refine DCall_intro Tryz.func178 rfl Tryz.ntmps178 (by simp) rfl ?_
 try simp only [iv]
 simp only [officeI]
 have c1:=containsFunc_iss (G:=G) p.n.reg (fun y=>decide (x.drawing=y.drawing∧x.letter=y.letter)) 180 [.ptr 0 0] [.row ((encPrint x).map .im)] (by simp) (fun y _=>pk31_c x y) hl
 simp only [encPrint,rI,List.map_cons,List.map_nil] at c1
 have hs:True:=trivial
 repeat' first|(with_reducible first|refine q01 ?_|refine q11 ?_|refine q17 ?_)|(with_reducible refine At.fn_ret (by simp -dsimp [hs];exact rfl) ?_)|(refine CallE.here (c1) ?_;try simp -dsimp [hs])|(with_reducible refine DT_regionE [0,1,3,4] ?_;simp -dsimp [hs])
 all_goals try simp -dsimp [hs]
 all_goals try clear hs
 simp [pk3]
def pk4 (x:Print):Bool:=decide (x.lost≤2)
theorem pk4_c (d:IC) (x:Print) (objs:List DObj):DCall Tryz.prog G 181 [.one (.im d),printv x] objs (fun rr objs'=>rr=bv (pk4 x)∧objs'=objs):=by
 refine DCall.frame ?_ (by simp) (by simp) objs
 refine DCall_intro Tryz.func181 rfl Tryz.ntmps181 (by simp) rfl ?_
 try simp only [iv]
 have hs:True:=trivial
 repeat' first|(with_reducible first|refine q01 ?_|refine q11 ?_|refine q17 ?_)|(with_reducible refine At.fn_ret (by simp -dsimp [hs];exact rfl) ?_)|(with_reducible refine DT_regionE [1,3,4] ?_;simp -dsimp [hs])
 all_goals try simp -dsimp [hs]
 all_goals try clear hs
 all_goals simp [pk4]
def pk5 (x:Print):Bool:=decide (x.back=-1) || (decide (x.day≤x.back) && decide (x.back≤14610)) && decide (x.lost=0)
theorem pk5_c (d:IC) (x:Print) (objs:List DObj):DCall Tryz.prog G 182 [.one (.im d),printv x] objs (fun rr objs'=>rr=bv (pk5 x)∧objs'=objs):=by
 refine DCall.frame ?_ (by simp) (by simp) objs
 refine DCall_intro Tryz.func182 rfl Tryz.ntmps182 (by simp) rfl ?_
 try simp only [iv]
 have c1:=in_recall (G:=G) x.day 14610 [x.back] (by simp)
 have hs:True:=trivial
 repeat' first|(with_reducible first|refine q01 ?_|refine q11 ?_|refine q17 ?_)|(with_reducible refine At.fn_ret (by simp -dsimp [hs];exact rfl) ?_)|(refine CallE.thaw (c1) ?_ ?_ ?_;(focus (simp;done));(focus (simp;done));try simp -dsimp [hs])|(with_reducible refine DT_regionE [1,3,4] ?_;simp -dsimp [hs])|(with_reducible refine GStop_split ?_ ?_<;>intro h<;>have h0:=h<;>(try simp only [nrm] at h)<;>(try exact Bool.noConfusion h)<;>have h2:=h<;>(try simp at h2)<;>(replace hs:=And.intro h0 (And.intro h (And.intro h2 hs)))<;>simp -dsimp [h0,h,h2,hs])
 all_goals try simp -dsimp [hs]
 all_goals try clear hs
 all_goals simp_all [pk5]
 all_goals omega
end Go.Proofs
namespace Go.Proofs
open Go Go.Ab
set_option linter.unusedSimpArgs false
variable {G:Nat→Option (List IC)}
def hkD (D l:List Int) (k:Nat) (d:Int):Prop:=d∈D∧(0 < k→∀ e,l[k - 1]?=some e→e < d)
def hkA (l:List Holder) (i:Nat) (x:Holder):Prop:=(1≤x.id∧x.id≤9999)∧(0 < i→∀ y,l[i - 1]?=some y→y.id < x.id)∧(1≤x.frm∧x.frm≤999)∧(1≤x.to∧x.to≤999)∧x.frm≤x.to∧x.draws.length≤8
def hkB (D:List Int) (l:List Holder) (i:Nat) (x:Holder):Prop:=hkA l i x∧∀ k d,x.draws[k]?=some d→hkD D x.draws k d
def pkI (p:Prints) (x:Print):Nat→Bool
 | 0=>pk1 x
 | 1=>pk2 p.holders x
 | 2=>pk3 p.n.reg x
 | 3=>pk4 x
 | _=>pk5 x
def pkB (p:Prints) (i:Nat) (x:Print):Prop:=(0 < i→∀ y,p.prints[i - 1]?=some y→y.number < x.number)∧∀ c,c < 5→pkI p x c=true
structure PrintsOk (p:Prints):Prop where
 hl:p.holders.length≤6
 pl:p.prints.length≤30
 h:∀ i x,p.holders[i]?=some x→hkB (nums p.n.reg) p.holders i x
 q:∀ i x,p.prints[i]?=some x→pkB p i x
noncomputable def printsB (p:Prints):Bool:=open Classical in decide (PrintsOk p)
theorem printsB_iff (p:Prints):printsB p=true↔PrintsOk p:=by simp [printsB]
theorem printsB_no {p:Prints} (h:¬ PrintsOk p):printsB p=false:=by simp [printsB,h]
theorem printsB_yes {p:Prints} (h:PrintsOk p):printsB p=true:=by simp [printsB,h]
structure SmallP (p:Prints):Prop where
 r:(nums p.n.reg).length < 1000
 l:p.n.reg.length < 1000
 h:p.holders.length≤8
 q:p.prints.length≤40
 d:∀ x∈p.holders,x.draws.length≤20
 lo:∀ x∈p.prints,0≤x.lost∧x.lost≤255
def recallG (G:Nat→Option (List IC)):Prop:=G 1=some [.fn (.func 176) [],.fn (.func 177) [],.fn (.func 178) [],.fn (.func 181) [],.fn (.func 182) []]
set_option maxHeartbeats 4000000 in
theorem right_c (p:Prints) (hR:recallG G) (hs:SmallP p) (objs:List DObj):DCall Tryz.prog G 77 [.one (.im (officeI p))] objs (fun rr objs'=>rr=bv (printsB p)∧objs'=objs):=by
 refine DCall.frame ?_ (by simp) (by simp) objs
 refine DCall_intro Tryz.func77 rfl Tryz.ntmps77 (by simp) rfl ?_
 try simp only [iv]
 have hR':G 1=some [.fn (.func 176) [],.fn (.func 177) [],.fn (.func 178) [],.fn (.func 181) [],.fn (.func 182) []]:=hR
 obtain ⟨hsr,hsl,hsh,hsq,hsd,hslo⟩:=hs
 by_cases h6:¬ p.holders.length≤6
 ·have h6':(6:Int) < p.holders.length:=by omega
  have hno:=printsB_no (p:=p) fun h=>h6 h.hl
  simp only [officeI]
  have hs:True:=trivial
  repeat' first|(with_reducible first|refine q01 ?_|refine q02 ?_|refine q09 ?_|refine q11 ?_|refine q13 ?_|refine q17 ?_)|(with_reducible refine At.fn_ret (by simp -dsimp [h6',hs];exact rfl) ?_)|(with_reducible refine DT_regionE [0,2,3,4,5,6,7,8,9,11,27,32,33,34,35,84,86,87,88,89,113,120,121,122,123,143,144,145,146,154] ?_;simp -dsimp [h6',hs])|(refine DT_cond rfl (fun h=>?_) (fun h=>?_)<;>(try simp only [nrm] at h)<;>(try exact Bool.noConfusion h))
  all_goals try simp -dsimp [h6',hs]
  all_goals try clear hs
  all_goals simp [hno]
 by_cases h30:¬ p.prints.length≤30
 ·replace h6:=Classical.not_not.1 h6
  have h6':¬ (6:Int) < p.holders.length:=by omega
  have h30':(30:Int) < p.prints.length:=by omega
  have hno:=printsB_no (p:=p) fun h=>h30 h.pl
  simp only [officeI]
  have hs:True:=trivial
  repeat' first|(with_reducible first|refine q01 ?_|refine q02 ?_|refine q09 ?_|refine q11 ?_|refine q13 ?_|refine q17 ?_)|(with_reducible refine At.fn_ret (by simp -dsimp [h6',h30',hs];exact rfl) ?_)|(with_reducible refine DT_regionE [0,2,3,4,5,6,7,8,9,11,27,32,33,34,35,84,86,87,88,89,113,120,121,122,123,143,144,145,146,154] ?_;simp -dsimp [h6',h30',hs])|(refine DT_cond rfl (fun h=>?_) (fun h=>?_)<;>(try simp only [nrm] at h)<;>(try exact Bool.noConfusion h))
  all_goals try simp -dsimp [h6',h30',hs]
  all_goals try clear hs
  all_goals simp [hno]
 replace h6:=Classical.not_not.1 h6
 replace h30:=Classical.not_not.1 h30
 have h6':¬ (6:Int) < p.holders.length:=by omega
 have h30':¬ (30:Int) < p.prints.length:=by omega
 simp only [officeI]
 have hs:True:=trivial
 repeat' first|(with_reducible first|refine q01 ?_|refine q11 ?_|refine q12 ?_|refine q13 ?_|refine q14 ?_)|(with_reducible refine DT_regionE [0,2,3,4,5,6,7,8,9,11,27,32,33,34,35,84,86,87,88,89,113,120,121,122,123,143,144,145,146,154] ?_;simp -dsimp [h6',h30',hs])|(refine DT_cond rfl (fun h=>?_) (fun h=>?_)<;>(try simp only [nrm] at h)<;>(try exact Bool.noConfusion h))
 all_goals try simp -dsimp [h6',h30',hs]
 all_goals try clear hs
 refine DT_loop (ι:={ k:Nat // k≤p.holders.length∧∀ (j:Nat) (x:Holder),j < k→p.holders[j]?=some x→hkB (nums p.n.reg) p.holders j x }) (fun q=>⟨158,[(0,.one (.im (officeI p))),(32,.one (.im (.sl (p.holders.map encHolder)))),(33,iv (p.holders.length:Int)),(34,iv (q.1:Int))],[]⟩) (fun q=>p.holders.length - q.1) ⟨0,by simp⟩ (Weak.of_keep [0,32,33,34] (by simp [officeI])) ?_
 rintro ⟨k,hk,hok⟩
 simp only [iv,officeI]
 by_cases hlt:k < p.holders.length
 ·have hx0:p.holders[k]?=some p.holders[k]:=by simp [hlt]
  have hw:IntKind.i64.wrap ((k:Int) + 1)=((k + 1:Nat):Int):=i64w (by omega) (by omega)
  have hdl:=hsd p.holders[k] (List.getElem_mem hlt)
  generalize hx:p.holders[k]=x at *
  have hbad:¬ hkB (nums p.n.reg) p.holders k x→printsB p=false:=fun h=>printsB_no fun h'=>h (h'.h k x hx0)
  have hstep:hkB (nums p.n.reg) p.holders k x→∀ (j:Nat) (z:Holder),j < k + 1→p.holders[j]?=some z→hkB (nums p.n.reg) p.holders j z:=fun h j z hj hz=>by
   by_cases e:j=k
   ·subst e;rw [hx0] at hz;cases hz;exact h
   ·exact hok j z (by omega) hz
  have c1:=in_recall (G:=G) 1 9999 [x.id] (by simp)
  have c2:=in_recall (G:=G) 1 999 [x.frm,x.to] (by simp)
  have c3:=fun d=>contains_c (G:=G) (nums p.n.reg) d (by omega)
  have hs:True:=trivial
  by_cases hA:hkA p.holders k x
  ·have hA':=hA
   obtain ⟨a1,a3,a4,a6,a8,a9⟩:=hA
   have e1:([x.id].all fun y=>decide (1≤y) && decide (y≤9999))=true:=by simp;omega
   have e2:([x.frm,x.to].all fun y=>decide (1≤y) && decide (y≤999))=true:=by simp;omega
   rw [e1] at c1
   rw [e2] at c2
   have a8':¬ x.to < x.frm:=by omega
   have a9':¬ (8:Int) < x.draws.length:=by omega
   have hcs:(¬ 0 < k∧True∧∃ _:True,True)∨(0 < k∧IntKind.i64.wrap ((k:Int) - 1)=((k - 1:Nat):Int)∧∃ h:k - 1 < p.holders.length,¬ x.id≤(p.holders[k - 1]'h).id):=by
    rcases Nat.eq_zero_or_pos k with h0|h0
    ·exact .inl ⟨by omega,trivial,trivial,trivial⟩
    ·have h1:k - 1 < p.holders.length:=by omega
     exact .inr ⟨by omega,by rw [i64w (by omega) (by omega)];omega,h1,by have:=a3 h0 _ (List.getElem?_eq_getElem h1);omega⟩
   rcases hcs with ⟨hk0,hwm,hi1,hlt1⟩|⟨hk0,hwm,hi1,hlt1⟩
   all_goals
    have hs:True:=trivial
    repeat' first|(with_reducible first|refine q01 ?_|refine q11 ?_|refine q12 ?_|refine q14 ?_)|(refine QCall_pure (c1) ?_;try simp -dsimp [hx,hlt,a8',a9',hk0,hwm,hi1,hlt1,hs])|(refine QCall_pure (c2) ?_;try simp -dsimp [hx,hlt,a8',a9',hk0,hwm,hi1,hlt1,hs])|(refine DT_regionM (id:=6) (nt:=158) 46 [0,2,3,4,5,6,7,8,9,11,27,32,33,34,35,84,86,87,88,89,113,120,121,122,123,143,144,145,146,154] mixed rfl (by kernel_rfl) ?_;simp -dsimp [hx,hlt,a8',a9',hk0,hwm,hi1,hlt1,hs])|(with_reducible refine DT_regionE [0,2,3,4,5,6,7,8,9,11,27,32,33,34,35,84,86,87,88,89,113,120,121,122,123,143,144,145,146,154] ?_;simp -dsimp [hx,hlt,a8',a9',hk0,hwm,hi1,hlt1,hs])|(refine DT_cond rfl (fun h=>?_) (fun h=>?_)<;>(try simp only [nrm] at h)<;>(try exact Bool.noConfusion h))
    all_goals try simp -dsimp [hx,hlt,a8',a9',hk0,hwm,hi1,hlt1,hs]
    all_goals try clear hs
   all_goals
    refine DT_loop (ι:={ j:Nat // j≤x.draws.length∧∀ (i:Nat) (d:Int),i < j→x.draws[i]?=some d→hkD (nums p.n.reg) x.draws i d }) (fun q=>⟨158,[(0,.one (.im (officeI p))),(4,.one (.ptr 1 0)),(32,.one (.im (.sl (p.holders.map encHolder)))),(33,iv (p.holders.length:Int)),(34,iv (k:Int)),(86,.one (.im (.sl (x.draws.map encI)))),(87,iv (x.draws.length:Int)),(88,iv (q.1:Int))],[.vec 0 [] 0 true,.row ((encHolder x).map .im)]⟩) (fun q=>x.draws.length - q.1) ⟨0,by simp⟩ (Weak.of_keep [0,4,32,33,34,86,87,88] (by simp [officeI])) ?_
    rintro ⟨j,hj,hjok⟩
    simp only [iv,officeI]
    by_cases hlj:j < x.draws.length
    ·have hx1:x.draws[j]?=some x.draws[j]:=by simp [hlj]
     have hwj:IntKind.i64.wrap ((j:Int) + 1)=((j + 1:Nat):Int):=i64w (by omega) (by omega)
     have c4:=c3 x.draws[j]
     have hcj:(¬ 0 < j∧True∧∃ _:True,True)∨(0 < j∧IntKind.i64.wrap ((j:Int) - 1)=((j - 1:Nat):Int)∧∃ h:j - 1 < x.draws.length,True):=by
      rcases Nat.eq_zero_or_pos j with h0|h0
      ·exact .inl ⟨by omega,trivial,trivial,trivial⟩
      ·exact .inr ⟨by omega,by rw [i64w (by omega) (by omega)];omega,by omega,trivial⟩
     have hbadj:¬ hkD (nums p.n.reg) x.draws j x.draws[j]→printsB p=false:=fun h=>hbad fun h'=>h (h'.2 j _ hx1)
     have hstj:hkD (nums p.n.reg) x.draws j x.draws[j]→∀ (i:Nat) (d:Int),i < j + 1→x.draws[i]?=some d→hkD (nums p.n.reg) x.draws i d:=fun h i d hi hd=>by
      by_cases e:i=j
      ·subst e;rw [hx1] at hd;cases hd;exact h
      ·exact hjok i d (by omega) hd
     clear hstep
     rcases hcj with ⟨hj0,hwmj,hij,-⟩|⟨hj0,hwmj,hij,-⟩
     all_goals
      have hs:True:=trivial
      repeat' first|(with_reducible first|refine q01 ?_|refine q02 ?_|refine q04 ?_|refine q05 ?_|refine q09 ?_|refine q11 ?_|refine q12 ?_|refine q14 ?_|refine q17 ?_)|(with_reducible refine At.fn_ret (by simp -dsimp [hx1,hlj,hj0,hwmj,hij,hwj,hs];exact rfl) ?_)|(refine CallE.pure (c4) ?_;try simp -dsimp [hx1,hlj,hj0,hwmj,hij,hwj,hs])|(with_reducible refine DT_regionE [0,2,3,4,5,6,7,8,9,11,27,32,33,34,35,84,86,87,88,89,113,120,121,122,123,143,144,145,146,154] ?_;simp -dsimp [hx1,hlj,hj0,hwmj,hij,hwj,hs])|(refine DT_cond rfl (fun h=>?_) (fun h=>?_)<;>(try simp only [nrm] at h)<;>(try exact Bool.noConfusion h))|(with_reducible refine GStop_split ?_ ?_<;>intro h<;>have h0:=h<;>(try simp only [nrm] at h)<;>(try exact Bool.noConfusion h)<;>have h2:=h<;>(try simp at h2)<;>(replace hs:=And.intro h0 (And.intro h (And.intro h2 hs)))<;>simp -dsimp [h0,h,h2,hx1,hlj,hj0,hwmj,hij,hwj,hs])
      all_goals try simp -dsimp [hx1,hlj,hj0,hwmj,hij,hwj,hs]
      all_goals try clear hs
     all_goals first
      | exact At.round ⟨j + 1,by omega,hstj ⟨of_decide_eq_true (by assumption),fun h1 e he=>by first|omega|(obtain ⟨_,rfl⟩:=List.getElem?_eq_some_iff.1 he;omega)⟩⟩ (by simp;omega) (Weak.of_keep [0,4,32,33,34,86,87,88] (by simp))
      | (refine hbadj fun hh=>?_;have:=hh.1;simp_all;done)
      | (refine hbadj fun hh=>?_;have:=hh.2 (by omega) _ (List.getElem?_eq_getElem hij);omega)
    ·have hs:True:=trivial
     repeat' first|(with_reducible first|refine q01 ?_|refine q03 ?_|refine q04 ?_|refine q06 ?_|refine q11 ?_|refine q16 ?_)|(with_reducible refine DT_regionE [0,2,3,4,5,6,7,8,9,11,27,32,33,34,35,84,86,87,88,89,113,120,121,122,123,143,144,145,146,154] ?_;simp -dsimp [hlj,hw,hs])|(refine DT_cond rfl (fun h=>?_) (fun h=>?_)<;>(try simp only [nrm] at h)<;>(try exact Bool.noConfusion h))
     all_goals try simp -dsimp [hlj,hw,hs]
     all_goals try clear hs
     exact At.round ⟨k + 1,by omega,hstep ⟨hA',fun i d hd=>hjok i d (by have:=lt_of_getElem? hd;omega) hd⟩⟩ (by simp;omega) (Weak.of_drop [0,32,33,34] 0 (by simp) (by simp) (by simp))
  ·have hno:=hbad fun h=>hA h.1
   generalize hb1:([x.id].all fun y=>decide (1≤y) && decide (y≤9999))=b1 at c1
   generalize hb2:([x.frm,x.to].all fun y=>decide (1≤y) && decide (y≤999))=b2 at c2
   have hcs:(¬ 0 < k∧True∧∃ _:True,True)∨(0 < k∧IntKind.i64.wrap ((k:Int) - 1)=((k - 1:Nat):Int)∧∃ h:k - 1 < p.holders.length,True):=by
    rcases Nat.eq_zero_or_pos k with h0|h0
    ·exact .inl ⟨by omega,trivial,trivial,trivial⟩
    ·exact .inr ⟨by omega,by rw [i64w (by omega) (by omega)];omega,by omega,trivial⟩
   rcases hcs with ⟨hk0,hwm,hi1,-⟩|⟨hk0,hwm,hi1,-⟩<;>cases b1<;>cases b2
   all_goals
    have hs:True:=trivial
    repeat' first|(with_reducible first|refine q01 ?_|refine q02 ?_|refine q05 ?_|refine q09 ?_|refine q11 ?_|refine q12 ?_|refine q14 ?_|refine q17 ?_)|(with_reducible refine At.fn_ret (by simp -dsimp [hx,hlt,hk0,hwm,hi1,hs];exact rfl) ?_)|(refine QCall_pure (c1) ?_;try simp -dsimp [hx,hlt,hk0,hwm,hi1,hs])|(refine QCall_pure (c2) ?_;try simp -dsimp [hx,hlt,hk0,hwm,hi1,hs])|(refine DT_regionM (id:=6) (nt:=158) 46 [0,2,3,4,5,6,7,8,9,11,27,32,33,34,35,84,86,87,88,89,113,120,121,122,123,143,144,145,146,154] mixed rfl (by kernel_rfl) ?_;simp -dsimp [hx,hlt,hk0,hwm,hi1,hs])|(with_reducible refine DT_regionE [0,2,3,4,5,6,7,8,9,11,27,32,33,34,35,84,86,87,88,89,113,120,121,122,123,143,144,145,146,154] ?_;simp -dsimp [hx,hlt,hk0,hwm,hi1,hs])|(refine DT_cond rfl (fun h=>?_) (fun h=>?_)<;>(try simp only [nrm] at h)<;>(try exact Bool.noConfusion h))|(with_reducible refine GStop_split ?_ ?_<;>intro h<;>have h0:=h<;>(try simp only [nrm] at h)<;>(try exact Bool.noConfusion h)<;>have h2:=h<;>(try simp at h2)<;>(replace hs:=And.intro h0 (And.intro h (And.intro h2 hs)))<;>simp -dsimp [h0,h,h2,hx,hlt,hk0,hwm,hi1,hs])
    all_goals try simp -dsimp [hx,hlt,hk0,hwm,hi1,hs]
    all_goals try clear hs
   all_goals try (first|exact hno|exact hno.symm)
   ·refine absurd ?_ hA
    simp at hb1 hb2
    exact ⟨by omega,fun h1=>by omega,by omega,by omega,by omega,by omega⟩
   ·refine absurd ?_ hA
    simp at hb1 hb2
    exact ⟨by omega,fun h1 y hy=>by
     obtain ⟨_,rfl⟩:=List.getElem?_eq_some_iff.1 hy
     simp_all<;>omega,by omega,by omega,by omega,by omega⟩
 ·have hkl:k=p.holders.length:=by omega
  have hall:∀ i x,p.holders[i]?=some x→hkB (nums p.n.reg) p.holders i x:=fun i x hx=>hok i x (by have:=lt_of_getElem? hx;omega) hx
  have hs:True:=trivial
  repeat' first|(with_reducible first|refine q01 ?_|refine q03 ?_|refine q06 ?_|refine q11 ?_|refine q12 ?_|refine q15 ?_|refine q16 ?_)|(with_reducible refine DT_regionE [0,2,3,4,5,6,7,8,9,11,27,32,33,34,35,84,86,87,88,89,113,120,121,122,123,143,144,145,146,154] ?_;simp -dsimp [hlt,hs])|(refine DT_cond rfl (fun h=>?_) (fun h=>?_)<;>(try simp only [nrm] at h)<;>(try exact Bool.noConfusion h))
  all_goals try simp -dsimp [hlt,hs]
  all_goals try clear hs
  refine DT_loop (ι:={ k:Nat // k≤p.prints.length∧∀ (j:Nat) (x:Print),j < k→p.prints[j]?=some x→pkB p j x }) (fun q=>⟨158,[(0,.one (.im (officeI p))),(7,bv true),(120,.one (.im (.sl (p.prints.map encPrint)))),(121,iv (p.prints.length:Int)),(122,iv (q.1:Int))],[]⟩) (fun q=>p.prints.length - q.1) ⟨0,by simp⟩ (Weak.of_keep [0,7,120,121,122] (by simp [officeI])) ?_
  clear hlt hok hk hkl k
  rintro ⟨k,hk,hok⟩
  simp only [iv,bv,officeI]
  by_cases hlt:k < p.prints.length
  ·have hx0:p.prints[k]?=some p.prints[k]:=by simp [hlt]
   have hw:IntKind.i64.wrap ((k:Int) + 1)=((k + 1:Nat):Int):=i64w (by omega) (by omega)
   have hll:=hslo p.prints[k] (List.getElem_mem hlt)
   generalize hx:p.prints[k]=x at *
   have hbad:¬ pkB p k x→printsB p=false:=fun h=>printsB_no fun h'=>h (h'.q k x hx0)
   have hstep:pkB p k x→∀ (j:Nat) (z:Print),j < k + 1→p.prints[j]?=some z→pkB p j z:=fun h j z hj hz=>by
    by_cases e:j=k
    ·subst e;rw [hx0] at hz;cases hz;exact h
    ·exact hok j z (by omega) hz
   have hs:True:=trivial
   have hcs:(¬ 0 < k∧True∧∃ _:True,True)∨(0 < k∧IntKind.i64.wrap ((k:Int) - 1)=((k - 1:Nat):Int)∧∃ h:k - 1 < p.prints.length,True):=by
    rcases Nat.eq_zero_or_pos k with h0|h0
    ·exact .inl ⟨by omega,trivial,trivial,trivial⟩
    ·exact .inr ⟨by omega,by rw [i64w (by omega) (by omega)];omega,by omega,trivial⟩
   rcases hcs with ⟨hk0,hwm,hi1,-⟩|⟨hk0,hwm,hi1,-⟩
   all_goals
    have hs:True:=trivial
    repeat' first|(with_reducible first|refine q01 ?_|refine q02 ?_|refine q05 ?_|refine q09 ?_|refine q11 ?_|refine q12 ?_|refine q14 ?_|refine q17 ?_)|(with_reducible refine At.fn_ret (by simp -dsimp [hx,hlt,hk0,hwm,hi1,hR',hs];exact rfl) ?_)|(refine DT_regionM (id:=19) (nt:=158) 17 [0,2,3,4,5,6,7,8,9,11,27,32,33,34,35,84,86,87,88,89,113,120,121,122,123,143,144,145,146,154] mixed rfl (by kernel_rfl) ?_;simp -dsimp [hx,hlt,hk0,hwm,hi1,hR',hs])|(with_reducible refine DT_regionE [0,2,3,4,5,6,7,8,9,11,27,32,33,34,35,84,86,87,88,89,113,120,121,122,123,143,144,145,146,154] ?_;simp -dsimp [hx,hlt,hk0,hwm,hi1,hR',hs])|(refine DT_cond rfl (fun h=>?_) (fun h=>?_)<;>(try simp only [nrm] at h)<;>(try exact Bool.noConfusion h))
    all_goals try simp -dsimp [hx,hlt,hk0,hwm,hi1,hR',hs]
    all_goals try clear hs
   all_goals try (exact hbad fun hh=>by have:=hh.1 hk0 _ (List.getElem?_eq_getElem hi1);omega)
   all_goals
    have hord:0 < k→∀ y,p.prints[k - 1]?=some y→y.number < x.number:=fun h1 y hy=>by
     first|omega|(obtain ⟨_,rfl⟩:=List.getElem?_eq_some_iff.1 hy;omega)
    have k1:=fun d=>pk1_c (G:=G) d x
    have k2:=pk2_c (G:=G) p x (by omega)
    have k3:=pk3_c (G:=G) p x (by omega)
    have k4:=fun d=>pk4_c (G:=G) d x
    have k5:=fun d=>pk5_c (G:=G) d x
    replace k1:=k1 (officeI p)
    replace k4:=k4 (officeI p)
    replace k5:=k5 (officeI p)
    rw [show pk1 x=pkI p x 0 from rfl] at k1
    rw [show pk2 p.holders x=pkI p x 1 from rfl] at k2
    rw [show pk3 p.n.reg x=pkI p x 2 from rfl] at k3
    rw [show pk4 x=pkI p x 3 from rfl] at k4
    rw [show pk5 x=pkI p x 4 from rfl] at k5
    simp only [officeI] at k1 k2 k3 k4 k5
    refine DT_loop (ι:={ c:Nat // c≤5∧∀ e < c,pkI p x e=true }) (fun q=>⟨158,[(0,.one (.im (officeI p))),(7,bv true),(9,.one (.ptr 0 0)),(120,.one (.im (.sl (p.prints.map encPrint)))),(121,iv (p.prints.length:Int)),(122,iv (k:Int)),(144,.agg [.im (.fn (.func 176) []),.im (.fn (.func 177) []),.im (.fn (.func 178) []),.im (.fn (.func 181) []),.im (.fn (.func 182) [])]),(145,iv (q.1:Int))],[.row ((encPrint x).map .im)]⟩) (fun q=>5 - q.1) ⟨0,by simp⟩ (Weak.of_keep [0,7,9,120,121,122,144,145] (by simp [officeI])) ?_
    rintro ⟨c,hc,hcc⟩
    simp only [iv,bv,officeI]
    by_cases hc5:c < 5
    ·have hm:pkI p x c=true→∀ e < c + 1,pkI p x e=true:=fun h e he=>by
      rcases Nat.lt_succ_iff_lt_or_eq.1 he with h1|rfl
      ·exact hcc e h1
      ·exact h
     have hbc:pkI p x c=false→printsB p=false:=fun h=>hbad fun hh=>by rw [hh.2 c hc5] at h;cases h
     clear hstep
     have hi5:c=0∨c=1∨c=2∨c=3∨c=4:=by omega
     rcases hi5 with rfl|rfl|rfl|rfl|rfl
     all_goals
      have hs:True:=trivial
      repeat' first|(with_reducible first|refine q01 ?_|refine q03 ?_|refine q04 ?_|refine q06 ?_|refine q07 (by decide) ?_|refine q09 ?_|refine q11 ?_|refine q12 ?_|refine q14 ?_|refine q16 ?_|refine q17 ?_)|(with_reducible refine At.fn_ret (by simp -dsimp [hlt,hs];exact rfl) ?_)|(refine CallE.pure (k1) ?_;try simp -dsimp [hlt,hs])|(refine CallE.pure (k2) ?_;try simp -dsimp [hlt,hs])|(refine CallE.pure (k3) ?_;try simp -dsimp [hlt,hs])|(refine CallE.pure (k4) ?_;try simp -dsimp [hlt,hs])|(refine CallE.pure (k5) ?_;try simp -dsimp [hlt,hs])|(with_reducible refine DT_regionE [0,2,3,4,5,6,7,8,9,11,27,32,33,34,35,84,86,87,88,89,113,120,121,122,123,143,144,145,146,154] ?_;simp -dsimp [hlt,hs])|(refine DT_cond rfl (fun h=>?_) (fun h=>?_)<;>(try simp only [nrm] at h)<;>(try exact Bool.noConfusion h))
      all_goals try simp -dsimp [hlt,hs]
      all_goals try clear hs
     all_goals first
      | exact At.round ⟨_,by omega,hm (by assumption)⟩ (by simp) (Weak.of_drop [0,7,9,120,121,122,144,145] 1 (by simp) (by simp) (by simp [‹pkI p x _=true›];exact i64w (by omega) (by omega)))
      | exact hbc (by assumption)
      | (rw [hbc (by assumption)];assumption)
    ·obtain rfl:c=5:=by omega
     clear k1 k2 k3 k4 k5
     have hs:True:=trivial
     repeat' first|(with_reducible first|refine q01 ?_|refine q03 ?_|refine q04 ?_|refine q06 ?_|refine q11 ?_|refine q16 ?_)|(with_reducible refine DT_regionE [0,2,3,4,5,6,7,8,9,11,27,32,33,34,35,84,86,87,88,89,113,120,121,122,123,143,144,145,146,154] ?_;simp -dsimp [hlt,hw,hs])|(refine DT_cond rfl (fun h=>?_) (fun h=>?_)<;>(try simp only [nrm] at h)<;>(try exact Bool.noConfusion h))
     all_goals try simp -dsimp [hlt,hw,hs]
     all_goals try clear hs
     exact At.round ⟨k + 1,by omega,hstep ⟨hord,hcc⟩⟩ (by simp;omega) (Weak.of_drop [0,7,120,121,122] 0 (by simp) (by simp) (by simp))
  ·have hyes:printsB p=true:=printsB_yes ⟨h6,h30,hall,fun i x hx=>hok i x (by have:=lt_of_getElem? hx;omega) hx⟩
   have hs:True:=trivial
   repeat' first|(with_reducible first|refine q01 ?_|refine q03 ?_|refine q06 ?_|refine q09 ?_|refine q11 ?_|refine q16 ?_|refine q17 ?_)|(with_reducible refine At.fn_ret (by simp -dsimp [hlt,hs];exact rfl) ?_)|(with_reducible refine DT_regionE [0,2,3,4,5,6,7,8,9,11,27,32,33,34,35,84,86,87,88,89,113,120,121,122,123,143,144,145,146,154] ?_;simp -dsimp [hlt,hs])|(refine DT_cond rfl (fun h=>?_) (fun h=>?_)<;>(try simp only [nrm] at h)<;>(try exact Bool.noConfusion h))
   all_goals try simp -dsimp [hlt,hs]
   all_goals try clear hs
   all_goals simp [hyes]
end Go.Proofs
