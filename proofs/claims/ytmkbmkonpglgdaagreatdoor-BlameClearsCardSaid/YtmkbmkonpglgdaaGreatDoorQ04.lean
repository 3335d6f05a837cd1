/- Part 29 of the proofs: laws and walks that hold without conditions beyond those that each theorem names. -/
import Derived.Test.YtmkbmkonpglgdaaGreatDoorQ03
set_option linter.all false
set_option linter.deprecated false
namespace Go.Ab
open Go
def lwO (mm:CpM) (c c':Case) (X:Int×Int) (lo hi:Int) (F:Nat→Q4) (NE HE:List (List DC)) (H:Nat→Q2) (PE LE QE:List (List DC)):List DObj:=.row ((encCase c).map .im) :: .row [.im (rI lo),.im (rI hi)] :: .vec 0 [] 0 true :: .vec 0 [] 0 true :: .vec 0 [] 0 true :: .vec 0 [] 0 true :: .vec 0 [] 0 true :: .vec 0 [] 0 true :: .row ((encCase c).map .im) :: .row [.im (rI X.1),.im (rI X.2)] :: .row [.im (rI X.1),.im (rI X.2)] :: .row (cpL 20 mm c') :: .row [.im (rI lo),.im (rI hi)] :: .vec 0 [] 0 true :: .vec 0 [] 0 true :: .vec 0 [] 0 true :: .vec 0 [] 0 true :: .vec 0 [] 0 true :: .vec 0 [] 0 true :: .row (cpL 20 mm c') :: .row (cpL 20 mm c') :: .vec 0 [] 0 true :: .vec 0 [] 0 true :: .vec 0 [] 0 true :: .vec 0 [] 0 true :: .vec 0 [] 0 true :: .vec 0 [] 0 true :: .row (cpL 20 mm c') :: .vec 5 [] 0 true :: .vec 5 (issE (cpB4 20) mm.2.1 c'.p.n.reg.length c'.p.n.reg) mm.1.1.1 mm.1.1.2 :: .vec 10 [] 0 true :: .vec 10 NE mm.1.2.1 mm.1.2.2 :: (flat4 F c'.p.n.reg.length ++ .vec 4 [] 0 true :: .vec 4 HE mm.2.2.1.1.1 mm.2.2.1.1.2 :: .vec 7 [] 0 true :: .vec 7 PE mm.2.2.1.2.1 mm.2.2.1.2.2 :: (flat2 H c'.p.holders.length ++ .vec 3 [] 0 true :: .vec 3 LE mm.2.2.2.2.1.1 mm.2.2.2.2.1.2 :: .vec 4 [] 0 true :: .vec 4 QE mm.2.2.2.2.2.1 mm.2.2.2.2.2.2 :: .vec 0 [] 0 true :: .vec 0 [] 0 true :: .vec 0 [] 0 true :: .vec 0 [] 0 true :: .vec 0 [] 0 true :: .vec 0 [] 0 true :: .row (cpL 20 mm c') :: .vec 0 [] 0 true :: .vec 0 [] 0 true :: .vec 0 [] 0 true :: .vec 0 [] 0 true :: .vec 0 [] 0 true :: .vec 0 [] 0 true :: [.row ((encCase c').map .im)]))
def SF (m:Nat→Gp×Gp) (l:List Issue) (F:Nat→Q4):Prop:=∀ (i:Nat) (x:Issue),l[i]?=some x→(∃ (E:List (List DC)) (nl:Bool),(F i).2.1=.vec 2 E (m i).1.1 nl∧E.length=x.items.length∧∀ r∈E,r.length=2)∧∃ (E:List (List DC)) (nl:Bool),(F i).2.2.2=.vec 3 E (m i).2.1 nl∧E.length=x.dims.length∧∀ r∈E,r.length=3
def SK (m:Nat→Gp) (l:List Holder) (H:Nat→Q2):Prop:=∀ (i:Nat) (x:Holder),l[i]?=some x→∃ (E:List (List DC)) (nl:Bool),(H i).2=.vec 1 E (m i).1 nl∧E.length=x.draws.length∧∀ r∈E,r.length=1
def SH (N:Nat) (m:Nat→Gp) (l:List Holder) (E:List (List DC)):Prop:=E.length=l.length∧∀ (i:Nat) (x:Holder),l[i]?=some x→∃ a b d,E[i]?=some [a,b,d,.vec (cpB2 N 20 i) (m i).1 0 x.draws.length]
def RowsN (E:List (List DC)) (n sz:Nat):Prop:=E.length=n∧∀ r∈E,r.length=sz
@[simp] theorem up1_at (F:Nat→Q4) (i:Nat) (d:DObj):(up1 F i d i).2.1=d:=by simp [up1]
@[simp] theorem up1_at3 (F:Nat→Q4) (i:Nat) (d:DObj):(up1 F i d i).2.2.2=(F i).2.2.2:=by simp [up1]
@[simp] theorem up3_at (F:Nat→Q4) (i:Nat) (d:DObj):(up3 F i d i).2.2.2=d:=by simp [up3]
@[simp] theorem up2_at (H:Nat→Q2) (i:Nat) (d:DObj):(up2 H i d i).2=d:=by simp [up2]
@[simp] theorem up1_up1 (F:Nat→Q4) (i:Nat) (d e:DObj):up1 (up1 F i d) i e=up1 F i e:=by
 funext k;unfold up1;split<;>simp_all
@[simp] theorem up3_up3 (F:Nat→Q4) (i:Nat) (d e:DObj):up3 (up3 F i d) i e=up3 F i e:=by
 funext k;unfold up3;split<;>simp_all
@[simp] theorem up2_up2 (H:Nat→Q2) (i:Nat) (d e:DObj):up2 (up2 H i d) i e=up2 H i e:=by
 funext k;unfold up2;split<;>simp_all
theorem up1_self {F:Nat→Q4} {i:Nat} {d:DObj} (h:(F i).2.1=d):up1 F i d=F:=by
 funext k;unfold up1;split
 ·rename_i e;subst e;rw [← h]
 ·rfl
theorem up3_self {F:Nat→Q4} {i:Nat} {d:DObj} (h:(F i).2.2.2=d):up3 F i d=F:=by
 funext k;unfold up3;split
 ·rename_i e;subst e;rw [← h]
 ·rfl
theorem up2_self {H:Nat→Q2} {i:Nat} {d:DObj} (h:(H i).2=d):up2 H i d=H:=by
 funext k;unfold up2;split
 ·rename_i e;subst e;rw [← h]
 ·rfl
theorem SF_up1 {m:Nat→Gp×Gp} {l:List Issue} {F:Nat→Q4} {i:Nat} {x:Issue} {E:List (List DC)} {nl:Bool} (h:SF m l F) (hx:l[i]?=some x) (h1:RowsN E x.items.length 2):SF m l (up1 F i (.vec 2 E (m i).1.1 nl)):=fun k y hy=>by
 by_cases e:k=i
 ·subst e
  rw [hx] at hy;cases hy
  exact ⟨⟨E,nl,up1_at _ _ _,h1.1,h1.2⟩,by rw [up1_at3];exact (h k x hx).2⟩
 ·have:up1 F i (.vec 2 E (m i).1.1 nl) k=F k:=by unfold up1;rw [if_neg e]
  rw [this];exact h k y hy
theorem SF_up3 {m:Nat→Gp×Gp} {l:List Issue} {F:Nat→Q4} {i:Nat} {x:Issue} {E:List (List DC)} {nl:Bool} (h:SF m l F) (hx:l[i]?=some x) (h1:RowsN E x.dims.length 3):SF m l (up3 F i (.vec 3 E (m i).2.1 nl)):=fun k y hy=>by
 by_cases e:k=i
 ·subst e
  rw [hx] at hy;cases hy
  exact ⟨by rw [show (up3 F k (.vec 3 E (m k).2.1 nl) k).2.1=(F k).2.1 by simp [up3]];exact (h k x hx).1,⟨E,nl,up3_at _ _ _,h1.1,h1.2⟩⟩
 ·have:up3 F i (.vec 3 E (m i).2.1 nl) k=F k:=by unfold up3;rw [if_neg e]
  rw [this];exact h k y hy
theorem SK_up2 {m:Nat→Gp} {l:List Holder} {H:Nat→Q2} {i:Nat} {x:Holder} {E:List (List DC)} {nl:Bool} (h:SK m l H) (hx:l[i]?=some x) (h1:RowsN E x.draws.length 1):SK m l (up2 H i (.vec 1 E (m i).1 nl)):=fun k y hy=>by
 by_cases e:k=i
 ·subst e
  rw [hx] at hy;cases hy
  exact ⟨E,nl,up2_at _ _ _,h1.1,h1.2⟩
 ·have:up2 H i (.vec 1 E (m i).1 nl) k=H k:=by unfold up2;rw [if_neg e]
  rw [this];exact h k y hy
theorem SH_set {N:Nat} {m:Nat→Gp} {l:List Holder} {E:List (List DC)} {i:Nat} {x:Holder} {b d:DC} (v:DC) (h:SH N m l E) (hx:l[i]?=some x):SH N m l (E.set i [v,b,d,.vec (cpB2 N 20 i) (m i).1 0 x.draws.length]):=by
 refine ⟨by simpa using h.1,fun k y hy=>?_⟩
 by_cases e:i=k
 ·subst e
  rw [hx] at hy;cases hy
  have hlt:=lt_of_getElem? hx
  exact ⟨v,b,d,by simp [h.1,hlt]⟩
 ·rw [List.getElem?_set_ne e];exact h.2 k y hy
theorem RowsN.ims {l:List (List IC)} {sz:Nat} (h:∀ x∈l,x.length=sz):RowsN (ims l) l.length sz:=by
 refine ⟨by simp [ims],fun r hr=>?_⟩
 unfold Go.Ab.ims at hr
 obtain ⟨x,hx,rfl⟩:=List.mem_map.1 hr
 rw [List.length_map];exact h x hx
theorem RowsN.set {E:List (List DC)} {n sz j:Nat} {r:List DC} (h:RowsN E n sz) (hr:r.length=sz):RowsN (E.set j r) n sz:=by
 refine ⟨by simpa using h.1,fun x hx=>?_⟩
 rcases List.mem_or_eq_of_mem_set hx with h1|rfl
 ·exact h.2 x h1
 ·exact hr
end Go.Ab
namespace Go.Proofs
open Go Go.Ab
set_option linter.unusedSimpArgs false
variable {G:Nat→Option (List IC)}
theorem SmallK_ms {c:Case} {k:Nat} {x:Piece} {lo hi:Int} (h:SmallK c):SmallK (msC c k x lo hi):=⟨h.1,h.2.1,by simpa [msC] using h.2.2⟩
theorem SmallK_z:SmallK zCase:=by
 refine ⟨⟨⟨⟨by simp [zCase],fun x hx=>by simp [zCase] at hx⟩,by simp [zCase]⟩,by simp [zCase],by simp [zCase],fun x hx=>by simp [zCase] at hx⟩,by simp [zCase],by simp [zCase]⟩
set_option maxHeartbeats 8000000 in
theorem blameClears_c (c:Case) (n lo hi:Int) (hG:sheetG G) (hN:noteG G) (hS:SortOk G) (hR:recallG G) (hp:PKind c.p) (objs:List DObj):DCall Tryz.prog G 4 [casev c,iv n,refv lo hi] objs (fun rr objs'=>rr=bv true∧objs'=objs):=by
 refine DCall.frame ?_ (by simp) (by simp) objs
 refine DCall_intro Tryz.func4 rfl Tryz.ntmps4 (by simp) rfl ?_
 try simp only [iv,refv]
 have c1:=great10_c (G:=G) c
 simp only [casev,encCase,refv] at c1 ⊢
 cases hq:smallKB c
 ·rw [hq] at c1
  have hs:True:=trivial
  repeat' first|(with_reducible first|refine q01 ?_|refine q02 ?_|refine q11 ?_|refine q17 ?_)|(with_reducible refine At.fn_ret (by simp -dsimp [hs];exact rfl) ?_)|(refine CallE.pure (c1) ?_;try simp -dsimp [hs])|(with_reducible refine DT_regionE [0,1,2,3,5,6,7,8,9,10,11,12,13,14,15,16,17,18,19,20,21,22,23,24,25,27,79,80,81,92,93,94,118,119,120,140,141,142,155,156,157,166,167,168,190,191,192,204,205,206,217,218,219] ?_;simp -dsimp [hs])|(refine DT_cond rfl (fun h=>?_) (fun h=>?_)<;>(try simp only [nrm] at h)<;>(try exact Bool.noConfusion h))
  all_goals try simp -dsimp [hs]
  all_goals try clear hs
 ·obtain ⟨hsk,hk⟩:=KC_of hp hq
  rw [hq] at c1
  have c2:=twin10_c (G:=G) c hsk
  have c3:=bClear_c (G:=G) c n hG hN hS hR hk
  have c4:=rClear_c (G:=G) c n hk
  have c6:=rMeas_c (G:=G) c n lo hi hsk hk
  have c8:=same10_c (G:=G) c hsk
  simp only [casev,encCase,refv] at c2 c3 c4 c6 c8
  generalize clrO c n=X at *
  generalize clrE c n=Y at *
  by_cases h0:msE c n lo hi=0
  ·obtain ⟨he,k,x,rfl,hx0,hin⟩:=msE_yes h0
   have c5:=bMeas_ok (G:=G) c k x lo hi hx0 he hin hG hN hS hR hk
   rw [msO_yes h0 hx0,h0] at c6
   have hsk2:=SmallK_ms (k:=k) (x:=x) (lo:=lo) (hi:=hi) hsk
   have c7:=same10_c (G:=G) _ hsk2
   simp only [casev,encCase,refv] at c5
   generalize msC c k x lo hi=c' at *
   clear hx0 hin h0
   have hs:True:=trivial
   repeat' first|(with_reducible first|refine q01 ?_|refine q11 ?_|refine q14 ?_)|(refine CallE.pure (c1) ?_;try simp -dsimp [hs])|(refine CallE.pure (c2) ?_;try simp -dsimp [hs])|(refine CallE.pure (c3) ?_;try simp -dsimp [hs])|(refine CallE.pure (c4) ?_;try simp -dsimp [hs])|(refine CallE.embed_ex [] c5 ?_ ?_ ?_ ?_ ?_ ?_;(focus (simp [emb];done));(focus (simp;done));(focus (simp;done));(focus (simp;done));(focus (refine emb_all ?_;simp [emb,embAll];done));intro mmA hmmA;(try simp only [mergeO_nil,emb_nil0,rnV,rnVL,rnC,rn_cpL,rn_meO,Nat.zero_add]);try simp -dsimp [meO,cpL,cpO];try simp -dsimp [hs])|(refine CallE.pure (c6) ?_;try simp -dsimp [hs])|(with_reducible refine DT_regionE [0,1,2,3,5,6,7,8,9,10,11,12,13,14,15,16,17,18,19,20,21,22,23,24,25,27,79,80,81,92,93,94,118,119,120,140,141,142,155,156,157,166,167,168,190,191,192,204,205,206,217,218,219] ?_;simp -dsimp [hs])|(refine DT_cond rfl (fun h=>?_) (fun h=>?_)<;>(try simp only [nrm] at h)<;>(try exact Bool.noConfusion h))
   all_goals try simp -dsimp [hs]
   all_goals try clear hs
   refine CallE.thaw c7 (congrArg (fun a=>[DV.agg a,casev c']) (fz_cpL (s:=20) (m:=mmA) (c:=c') ?_ ?_ ?_ ?_ ?_ ?_ ?_ ?_).symm) ?_ ?_
   ·simp
   ·simp
   ·simp
   ·simp
   ·simp
   ·simp
   ·intro k x hx
    have hlt:=lt_of_getElem? hx
    have a1:=flat4_a1 hlt
    have a3:=flat4_a3 hlt
    simp [a1,a3,issF,hx]
   ·intro k x hx
    have hlt:=lt_of_getElem? hx
    have a1:=flat2_a1 hlt
    simp [a1,holF,hx]
   ·simp
   ·simp -dsimp
    have hs:True:=trivial
    repeat' first|(with_reducible first|refine q01 ?_|refine q11 ?_|refine q12 ?_)|(with_reducible refine DT_regionE [0,1,2,3,5,6,7,8,9,10,11,12,13,14,15,16,17,18,19,20,21,22,23,24,25,27,79,80,81,92,93,94,118,119,120,140,141,142,155,156,157,166,167,168,190,191,192,204,205,206,217,218,219] ?_;simp -dsimp [hs])
    all_goals try simp -dsimp [hs]
    all_goals try clear hs
    have hreg:=hsk2.1.1.1
    have hR80:=hreg.1
    have hN16:=hsk2.1.1.2
    have hH8:=hsk2.1.2.1
    have hP40:=hsk2.1.2.2.1
    have hD20:=hsk2.1.2.2.2
    have hL16:=hsk2.2.1
    have hQ16:=hsk2.2.2
    have hF:SF mmA.2.1 c'.p.n.reg (issF c'.p.n.reg mmA.2.1):=fun i x hx=>by
     have e:issF c'.p.n.reg mmA.2.1 i=(.vec 2 [] 0 true,.vec 2 (ims (x.items.map encItem)) (mmA.2.1 i).1.1 (mmA.2.1 i).1.2,.vec 3 [] 0 true,.vec 3 (ims (x.dims.map encDim)) (mmA.2.1 i).2.1 (mmA.2.1 i).2.2):=by unfold issF;rw [hx]
     have r1:=RowsN.ims (l:=x.items.map encItem) (sz:=2) (fun y hy=>by obtain ⟨z,-,rfl⟩:=List.mem_map.1 hy;rfl)
     have r2:=RowsN.ims (l:=x.dims.map encDim) (sz:=3) (fun y hy=>by obtain ⟨z,-,rfl⟩:=List.mem_map.1 hy;rfl)
     rw [e]
     exact ⟨⟨_,_,rfl,by rw [r1.1,List.length_map],r1.2⟩,_,_,rfl,by rw [r2.1,List.length_map],r2.2⟩
    have hH:SK mmA.2.2.2.1 c'.p.holders (holF c'.p.holders mmA.2.2.2.1):=fun i x hx=>by
     have e:holF c'.p.holders mmA.2.2.2.1 i=(.vec 1 [] 0 true,.vec 1 (ims (x.draws.map encI)) (mmA.2.2.2.1 i).1 (mmA.2.2.2.1 i).2):=by unfold holF;rw [hx]
     have r1:=RowsN.ims (l:=x.draws.map encI) (sz:=1) (fun y hy=>by obtain ⟨z,-,rfl⟩:=List.mem_map.1 hy;rfl)
     rw [e]
     exact ⟨_,_,rfl,by rw [r1.1,List.length_map],r1.2⟩
    have hHE:SH c'.p.n.reg.length mmA.2.2.2.1 c'.p.holders (holE (cpB2 c'.p.n.reg.length 20) mmA.2.2.2.1 c'.p.holders.length c'.p.holders):=by
     refine ⟨by simp,fun i x hx=>⟨.im (rI x.id),.im (rI x.frm),.im (rI x.to),?_⟩⟩
     simp only [holE,List.getElem?_mapIdx,hx,Option.map_some,holC,if_pos (lt_of_getElem? hx)]
    have hNE:=RowsN.ims (l:=c'.p.n.notes.map encNote) (sz:=10) (fun y hy=>by obtain ⟨z,-,rfl⟩:=List.mem_map.1 hy;rfl)
    have hPE:=RowsN.ims (l:=c'.p.prints.map encPrint) (sz:=7) (fun y hy=>by obtain ⟨z,-,rfl⟩:=List.mem_map.1 hy;rfl)
    have hLE:=RowsN.ims (l:=c'.loop.links.map encLink) (sz:=3) (fun y hy=>by obtain ⟨z,-,rfl⟩:=List.mem_map.1 hy;rfl)
    have hQE:=RowsN.ims (l:=c'.pieces.map encPiece) (sz:=4) (fun y hy=>by obtain ⟨z,-,rfl⟩:=List.mem_map.1 hy;rfl)
    rw [List.length_map] at hNE hPE hLE hQE
    generalize issF c'.p.n.reg mmA.2.1=F at *
    generalize holF c'.p.holders mmA.2.2.2.1=H at *
    generalize holE (cpB2 c'.p.n.reg.length 20) mmA.2.2.2.1 c'.p.holders.length c'.p.holders=HE at *
    generalize ims (c'.p.n.notes.map encNote)=NE at *
    generalize ims (c'.p.prints.map encPrint)=PE at *
    generalize ims (c'.loop.links.map encLink)=LE at *
    generalize ims (c'.pieces.map encPiece)=QE at *
    refine DT_loop (ι:={ q:Nat×(Nat→Q4) // q.1≤c'.p.n.reg.length∧SF mmA.2.1 c'.p.n.reg q.2 }) (fun q=>⟨233,[(3,.one (.ptr 0 0)),(7,.one (.ptr 8 0)),(12,.one (.ptr (4 * c'.p.n.reg.length + 2 * c'.p.holders.length + 46) 0)),(16,bv true),(79,iv (c'.p.n.reg.length:Int)),(80,iv (q.1.1:Int))],lwO mmA c c' X lo hi q.1.2 NE HE H PE LE QE⟩) (fun q=>c'.p.n.reg.length - q.1.1) ⟨(0,F),by omega,hF⟩ (Weak.of_keep [3,7,12,16,79,80] (by simp [lwO,cpL,cpB4,cpB2];omega)) ?_
    clear hF
    clear F
    rintro ⟨⟨i,F⟩,hi2,hF⟩
    simp only at hi2 hF
    simp only [iv]
    by_cases hlti:i < c'.p.n.reg.length
    ·have hwi:IntKind.i64.wrap ((i:Int) + 1)=((i + 1:Nat):Int):=i64w (by omega) (by omega)
     have hx0:c'.p.n.reg[i]?=some c'.p.n.reg[i]:=by simp [hlti]
     have hxs:=hreg.2 _ (List.mem_of_getElem? hx0)
     generalize c'.p.n.reg[i]=x at *
     have a1:=flat4_a1 hlti
     have a3:=flat4_a3 hlti
     have t1:=flat4_t1 hlti
     have t3:=flat4_t3 hlti
     have hat:∀ h,(issE (cpB4 20) mmA.2.1 c'.p.n.reg.length c'.p.n.reg)[i]'h=[.im (.raw (.int .i64 x.drawing)),.im (.raw (.int .i64 x.letter)),.im (.raw (.int .u8 x.kind)),.vec (4 * i + 33) (mmA.2.1 i).1.1 0 x.items.length,.vec (4 * i + 35) (mmA.2.1 i).2.1 0 x.dims.length]:=fun h=>by
      have:(issE (cpB4 20) mmA.2.1 c'.p.n.reg.length c'.p.n.reg)[i]?=some [.im (rI x.drawing),.im (rI x.letter),.im (.raw (.int .u8 x.kind)),.vec (4 * i + 33) (mmA.2.1 i).1.1 0 x.items.length,.vec (4 * i + 35) (mmA.2.1 i).2.1 0 x.dims.length]:=by
       simp only [issE,List.getElem?_mapIdx,hx0,Option.map_some,issC,if_pos hlti,cpB4]
      rw [List.getElem?_eq_getElem h] at this;exact Option.some.inj this
     obtain ⟨⟨E0,nl0,hF1,hE0l,hE0r⟩,-⟩:=hF i x hx0
     have hEE:RowsN E0 x.items.length 2:=⟨hE0l,hE0r⟩
     have hself:=up1_self hF1
     have hs:True:=trivial
     repeat' first|(with_reducible first|refine q01 ?_|refine q11 ?_|refine q12 ?_|refine q14 ?_)|(with_reducible refine DT_regionE [0,1,2,3,5,6,7,8,9,10,11,12,13,14,15,16,17,18,19,20,21,22,23,24,25,27,79,80,81,92,93,94,118,119,120,140,141,142,155,156,157,166,167,168,190,191,192,204,205,206,217,218,219] ?_;simp -dsimp [hlti,hwi,hat,a1,a3,hF1,lwO,cpL,cpB2,hs])|(refine DT_cond rfl (fun h=>?_) (fun h=>?_)<;>(try simp only [nrm] at h)<;>(try exact Bool.noConfusion h))
     all_goals try simp -dsimp [hlti,hwi,hat,a1,a3,hF1,lwO,cpL,cpB2,hs]
     all_goals try clear hs
     refine DT_loop (ι:={ p:Nat×List (List DC) // p.1≤x.items.length∧RowsN p.2 x.items.length 2 }) (fun p=>⟨233,[(3,.one (.ptr 0 0)),(7,.one (.ptr 8 0)),(12,.one (.ptr (4 * c'.p.n.reg.length + 2 * c'.p.holders.length + 46) 0)),(16,bv true),(17,iv (i:Int)),(79,iv (c'.p.n.reg.length:Int)),(80,iv (i:Int)),(92,iv (x.items.length:Int)),(93,iv (p.1.1:Int))],lwO mmA c c' X lo hi (up1 F i (.vec 2 p.1.2 (mmA.2.1 i).1.1 nl0)) NE HE H PE LE QE⟩) (fun p=>x.items.length - p.1.1) ⟨(0,E0),by omega,hEE⟩ (Weak.of_keep [3,7,12,16,17,79,80,92,93] (by simp [lwO,cpL,cpB4,cpB2,hself])) ?_
     clear hself hEE hE0l hE0r hF1 E0
     rintro ⟨⟨j,E⟩,hj,hE⟩
     simp only at hj hE
     simp only [iv]
     by_cases hlt:j < x.items.length
     ·have hw:IntKind.i64.wrap ((j:Int) + 1)=((j + 1:Nat):Int):=i64w (by omega) (by omega)
      have hEl:=hE.1
      have hjE:j < E.length:=by omega
      have hr:=hE.2 E[j] (List.getElem_mem hjE)
      generalize hrj:E[j]=r at *
      have hrl:(List.take 1 r ++ .im (.raw (.int .i64 0)) :: List.drop 2 r).length=2:=by simp;omega
      have hs:True:=trivial
      repeat' first|(with_reducible first|refine q01 ?_|refine q04 ?_|refine q11 ?_|refine q12 ?_|refine q14 ?_)|(with_reducible refine DT_regionE [0,1,2,3,5,6,7,8,9,10,11,12,13,14,15,16,17,18,19,20,21,22,23,24,25,27,79,80,81,92,93,94,118,119,120,140,141,142,155,156,157,166,167,168,190,191,192,204,205,206,217,218,219] ?_;simp -dsimp [hlti,hlt,hw,hat,a1,t1,hEl,hr,hrj,lwO,cpL,cpB2,hs])|(refine DT_cond rfl (fun h=>?_) (fun h=>?_)<;>(try simp only [nrm] at h)<;>(try exact Bool.noConfusion h))
      all_goals try simp -dsimp [hlti,hlt,hw,hat,a1,t1,hEl,hr,hrj,lwO,cpL,cpB2,hs]
      all_goals try clear hs
      exact At.round ⟨(j + 1,E.set j (List.take 1 r ++ .im (.raw (.int .i64 0)) :: List.drop 2 r)),by simp only;omega,hE.set hrl⟩ (by simp only;omega) (Weak.of_keep [3,7,12,16,17,79,80,92,93] (by simp [lwO,cpL,cpB4,cpB2]))
     obtain rfl:j=x.items.length:=by omega
     have hF2:=SF_up1 (nl:=nl0) hF hx0 hE
     generalize up1 F i (.vec 2 E (mmA.2.1 i).1.1 nl0)=F2 at *
     obtain ⟨-,E0,nl0,hF1,hE0l,hE0r⟩:=hF2 i x hx0
     have hEE:RowsN E0 x.dims.length 3:=⟨hE0l,hE0r⟩
     have hself:=up3_self hF1
     have hs:True:=trivial
     repeat' first|(with_reducible first|refine q01 ?_|refine q03 ?_|refine q06 ?_|refine q11 ?_|refine q12 ?_|refine q16 ?_)|(with_reducible refine DT_regionE [0,1,2,3,5,6,7,8,9,10,11,12,13,14,15,16,17,18,19,20,21,22,23,24,25,27,79,80,81,92,93,94,118,119,120,140,141,142,155,156,157,166,167,168,190,191,192,204,205,206,217,218,219] ?_;simp -dsimp [hlti,hwi,hlt,hat,a1,a3,hF1,lwO,cpL,cpB2,hs])|(refine DT_cond rfl (fun h=>?_) (fun h=>?_)<;>(try simp only [nrm] at h)<;>(try exact Bool.noConfusion h))
     all_goals try simp -dsimp [hlti,hwi,hlt,hat,a1,a3,hF1,lwO,cpL,cpB2,hs]
     all_goals try clear hs
     refine DT_loop (ι:={ p:Nat×List (List DC) // p.1≤x.dims.length∧RowsN p.2 x.dims.length 3 }) (fun p=>⟨233,[(3,.one (.ptr 0 0)),(7,.one (.ptr 8 0)),(12,.one (.ptr (4 * c'.p.n.reg.length + 2 * c'.p.holders.length + 46) 0)),(16,bv true),(17,iv (i:Int)),(79,iv (c'.p.n.reg.length:Int)),(80,iv (i:Int)),(118,iv (x.dims.length:Int)),(119,iv (p.1.1:Int))],lwO mmA c c' X lo hi (up3 F2 i (.vec 3 p.1.2 (mmA.2.1 i).2.1 nl0)) NE HE H PE LE QE⟩) (fun p=>x.dims.length - p.1.1) ⟨(0,E0),by omega,hEE⟩ (Weak.of_keep [3,7,12,16,17,79,80,118,119] (by simp [lwO,cpL,cpB4,cpB2,hself])) ?_
     clear hself hEE hE0l hE0r hF1 E0 hlt
     rintro ⟨⟨j,E⟩,hj,hE⟩
     simp only at hj hE
     simp only [iv]
     by_cases hlt:j < x.dims.length
     ·have hw:IntKind.i64.wrap ((j:Int) + 1)=((j + 1:Nat):Int):=i64w (by omega) (by omega)
      have hEl:=hE.1
      have hjE:j < E.length:=by omega
      have hr:=hE.2 E[j] (List.getElem_mem hjE)
      generalize hrj:E[j]=r at *
      have hrl:(List.take 1 r ++ .im (.raw (.int .i64 (-7))) :: List.drop 2 r).length=3:=by simp;omega
      have hs:True:=trivial
      repeat' first|(with_reducible first|refine q01 ?_|refine q04 ?_|refine q11 ?_|refine q12 ?_|refine q14 ?_)|(with_reducible refine DT_regionE [0,1,2,3,5,6,7,8,9,10,11,12,13,14,15,16,17,18,19,20,21,22,23,24,25,27,79,80,81,92,93,94,118,119,120,140,141,142,155,156,157,166,167,168,190,191,192,204,205,206,217,218,219] ?_;simp -dsimp [hlti,hlt,hw,hat,a3,t3,hEl,hr,hrj,lwO,cpL,cpB2,hs])|(refine DT_cond rfl (fun h=>?_) (fun h=>?_)<;>(try simp only [nrm] at h)<;>(try exact Bool.noConfusion h))
      all_goals try simp -dsimp [hlti,hlt,hw,hat,a3,t3,hEl,hr,hrj,lwO,cpL,cpB2,hs]
      all_goals try clear hs
      exact At.round ⟨(j + 1,E.set j (List.take 1 r ++ .im (.raw (.int .i64 (-7))) :: List.drop 2 r)),by simp only;omega,hE.set hrl⟩ (by simp only;omega) (Weak.of_keep [3,7,12,16,17,79,80,118,119] (by simp [lwO,cpL,cpB4,cpB2]))
     obtain rfl:j=x.dims.length:=by omega
     have hF3:=SF_up3 (nl:=nl0) hF2 hx0 hE
     have hs:True:=trivial
     repeat' first|(with_reducible first|refine q01 ?_|refine q03 ?_|refine q04 ?_|refine q06 ?_|refine q11 ?_|refine q16 ?_)|(with_reducible refine DT_regionE [0,1,2,3,5,6,7,8,9,10,11,12,13,14,15,16,17,18,19,20,21,22,23,24,25,27,79,80,81,92,93,94,118,119,120,140,141,142,155,156,157,166,167,168,190,191,192,204,205,206,217,218,219] ?_;simp -dsimp [hlti,hwi,hlt,lwO,cpL,cpB2,hs])|(refine DT_cond rfl (fun h=>?_) (fun h=>?_)<;>(try simp only [nrm] at h)<;>(try exact Bool.noConfusion h))
     all_goals try simp -dsimp [hlti,hwi,hlt,lwO,cpL,cpB2,hs]
     all_goals try clear hs
     exact At.round ⟨(i + 1,up3 F2 i (.vec 3 E (mmA.2.1 i).2.1 nl0)),by simp only;omega,hF3⟩ (by simp only;omega) (Weak.of_keep [3,7,12,16,79,80] (by simp [lwO,cpL,cpB4,cpB2]))
    obtain rfl:i=c'.p.n.reg.length:=by omega
    have hs:True:=trivial
    repeat' first|(with_reducible first|refine q01 ?_|refine q03 ?_|refine q06 ?_|refine q11 ?_|refine q12 ?_|refine q16 ?_)|(with_reducible refine DT_regionE [0,1,2,3,5,6,7,8,9,10,11,12,13,14,15,16,17,18,19,20,21,22,23,24,25,27,79,80,81,92,93,94,118,119,120,140,141,142,155,156,157,166,167,168,190,191,192,204,205,206,217,218,219] ?_;simp -dsimp [hlti,lwO,cpL,cpB4,cpB2,hs])|(refine DT_cond rfl (fun h=>?_) (fun h=>?_)<;>(try simp only [nrm] at h)<;>(try exact Bool.noConfusion h))
    all_goals try simp -dsimp [hlti,lwO,cpL,cpB4,cpB2,hs]
    all_goals try clear hs
    clear hlti hi2
    refine DT_loop (ι:={ p:Nat×List (List DC) // p.1≤c'.p.n.notes.length∧RowsN p.2 (c'.p.n.notes.length) 10 }) (fun p=>⟨233,[(3,.one (.ptr 0 0)),(7,.one (.ptr 8 0)),(12,.one (.ptr (4 * c'.p.n.reg.length + 2 * c'.p.holders.length + 46) 0)),(16,bv true),(140,iv (c'.p.n.notes.length:Int)),(141,iv (p.1.1:Int))],lwO mmA c c' X lo hi F p.1.2 HE H PE LE QE⟩) (fun p=>c'.p.n.notes.length - p.1.1) ⟨(0,NE),by omega,hNE⟩ (Weak.of_keep [3,7,12,16,140,141] (by simp [lwO,cpL,cpB4,cpB2])) ?_
    clear hNE
    clear NE
    rintro ⟨⟨j,NE⟩,hj,hNE⟩
    simp only at hj hNE
    simp only [iv]
    by_cases hlt:j < c'.p.n.notes.length
    ·have hw:IntKind.i64.wrap ((j:Int) + 1)=((j + 1:Nat):Int):=i64w (by omega) (by omega)
     have hEl:=hNE.1
     have hjE:j < NE.length:=by omega
     have hr:=hNE.2 NE[j] (List.getElem_mem hjE)
     generalize hrj:NE[j]=r at *
     have hrl:(List.take 1 r ++ .im (.raw (.int .i64 (-7))) :: List.drop 2 r).length=10:=by simp;omega
     have hs:True:=trivial
     repeat' first|(with_reducible first|refine q01 ?_|refine q04 ?_|refine q11 ?_|refine q12 ?_|refine q14 ?_)|(with_reducible refine DT_regionE [0,1,2,3,5,6,7,8,9,10,11,12,13,14,15,16,17,18,19,20,21,22,23,24,25,27,79,80,81,92,93,94,118,119,120,140,141,142,155,156,157,166,167,168,190,191,192,204,205,206,217,218,219] ?_;simp -dsimp [hlt,hw,hEl,hr,hrj,lwO,cpL,cpB4,cpB2,hs])|(refine DT_cond rfl (fun h=>?_) (fun h=>?_)<;>(try simp only [nrm] at h)<;>(try exact Bool.noConfusion h))
     all_goals try simp -dsimp [hlt,hw,hEl,hr,hrj,lwO,cpL,cpB4,cpB2,hs]
     all_goals try clear hs
     exact At.round ⟨(j + 1,NE.set j (List.take 1 r ++ .im (.raw (.int .i64 (-7))) :: List.drop 2 r)),by simp only;omega,hNE.set hrl⟩ (by simp only;omega) (Weak.of_keep [3,7,12,16,140,141] (by simp [lwO,cpL,cpB4,cpB2]))
    obtain rfl:j=c'.p.n.notes.length:=by omega
    have hs:True:=trivial
    repeat' first|(with_reducible first|refine q01 ?_|refine q03 ?_|refine q06 ?_|refine q11 ?_|refine q12 ?_|refine q16 ?_)|(with_reducible refine DT_regionE [0,1,2,3,5,6,7,8,9,10,11,12,13,14,15,16,17,18,19,20,21,22,23,24,25,27,79,80,81,92,93,94,118,119,120,140,141,142,155,156,157,166,167,168,190,191,192,204,205,206,217,218,219] ?_;simp -dsimp [hlt,lwO,cpL,cpB4,cpB2,hs])|(refine DT_cond rfl (fun h=>?_) (fun h=>?_)<;>(try simp only [nrm] at h)<;>(try exact Bool.noConfusion h))
    all_goals try simp -dsimp [hlt,lwO,cpL,cpB4,cpB2,hs]
    all_goals try clear hs
    clear hlt hj
    refine DT_loop (ι:={ q:Nat×List (List DC)×(Nat→Q2) // q.1≤c'.p.holders.length∧SH c'.p.n.reg.length mmA.2.2.2.1 c'.p.holders q.2.1∧SK mmA.2.2.2.1 c'.p.holders q.2.2 }) (fun q=>⟨233,[(3,.one (.ptr 0 0)),(7,.one (.ptr 8 0)),(12,.one (.ptr (4 * c'.p.n.reg.length + 2 * c'.p.holders.length + 46) 0)),(16,bv true),(155,iv (c'.p.holders.length:Int)),(156,iv (q.1.1:Int))],lwO mmA c c' X lo hi F NE q.1.2.1 q.1.2.2 PE LE QE⟩) (fun q=>c'.p.holders.length - q.1.1) ⟨(0,HE,H),by omega,hHE,hH⟩ (Weak.of_keep [3,7,12,16,155,156] (by simp [lwO,cpL,cpB4,cpB2])) ?_
    clear hHE hH
    clear HE H
    rintro ⟨⟨i,HE,H⟩,hi2,hHE,hH⟩
    simp only at hi2 hHE hH
    simp only [iv]
    by_cases hlti:i < c'.p.holders.length
    ·have hwi:IntKind.i64.wrap ((i:Int) + 1)=((i + 1:Nat):Int):=i64w (by omega) (by omega)
     have hx0:c'.p.holders[i]?=some c'.p.holders[i]:=by simp [hlti]
     have hxs:=hD20 _ (List.mem_of_getElem? hx0)
     generalize c'.p.holders[i]=x at *
     have a1:=flat2_a1 hlti
     have t1:=flat2_t1 hlti
     obtain ⟨u1,u2,u3,hu⟩:=hHE.2 i x hx0
     have hat:∀ h,HE[i]'h=[u1,u2,u3,.vec (4 * c'.p.n.reg.length + 2 * i + 37) (mmA.2.2.2.1 i).1 0 x.draws.length]:=fun h=>by
      rw [List.getElem?_eq_getElem h] at hu;exact Option.some.inj hu
     have hEl0:=hHE.1
     obtain ⟨E0,nl0,hF1,hE0l,hE0r⟩:=hH i x hx0
     have hEE:RowsN E0 x.draws.length 1:=⟨hE0l,hE0r⟩
     have hself:=up2_self hF1
     have hs:True:=trivial
     repeat' first|(with_reducible first|refine q01 ?_|refine q11 ?_|refine q12 ?_|refine q14 ?_)|(with_reducible refine DT_regionE [0,1,2,3,5,6,7,8,9,10,11,12,13,14,15,16,17,18,19,20,21,22,23,24,25,27,79,80,81,92,93,94,118,119,120,140,141,142,155,156,157,166,167,168,190,191,192,204,205,206,217,218,219] ?_;simp -dsimp [hlti,hwi,hat,hEl0,a1,hF1,lwO,cpL,cpB4,cpB2,hs])|(refine DT_cond rfl (fun h=>?_) (fun h=>?_)<;>(try simp only [nrm] at h)<;>(try exact Bool.noConfusion h))
     all_goals try simp -dsimp [hlti,hwi,hat,hEl0,a1,hF1,lwO,cpL,cpB4,cpB2,hs]
     all_goals try clear hs
     refine DT_loop (ι:={ p:Nat×List (List DC) // p.1≤x.draws.length∧RowsN p.2 x.draws.length 1 }) (fun p=>⟨233,[(3,.one (.ptr 0 0)),(7,.one (.ptr 8 0)),(12,.one (.ptr (4 * c'.p.n.reg.length + 2 * c'.p.holders.length + 46) 0)),(16,bv true),(21,iv (i:Int)),(155,iv (c'.p.holders.length:Int)),(156,iv (i:Int)),(166,iv (x.draws.length:Int)),(167,iv (p.1.1:Int))],lwO mmA c c' X lo hi F NE HE (up2 H i (.vec 1 p.1.2 (mmA.2.2.2.1 i).1 nl0)) PE LE QE⟩) (fun p=>x.draws.length - p.1.1) ⟨(0,E0),by omega,hEE⟩ (Weak.of_keep [3,7,12,16,21,155,156,166,167] (by simp [lwO,cpL,cpB4,cpB2,hself])) ?_
     clear hself hEE hE0l hE0r hF1 E0
     rintro ⟨⟨j,E⟩,hj,hE⟩
     simp only at hj hE
     simp only [iv]
     by_cases hlt:j < x.draws.length
     ·have hw:IntKind.i64.wrap ((j:Int) + 1)=((j + 1:Nat):Int):=i64w (by omega) (by omega)
      have hEl:=hE.1
      have hjE:j < E.length:=by omega
      have hr:=hE.2 E[j] (List.getElem_mem hjE)
      generalize hrj:E[j]=r at *
      have hrl:(.im (.raw (.int .i64 0)) :: List.drop 1 r).length=1:=by simp;omega
      have hs:True:=trivial
      repeat' first|(with_reducible first|refine q01 ?_|refine q04 ?_|refine q11 ?_|refine q12 ?_|refine q14 ?_)|(with_reducible refine DT_regionE [0,1,2,3,5,6,7,8,9,10,11,12,13,14,15,16,17,18,19,20,21,22,23,24,25,27,79,80,81,92,93,94,118,119,120,140,141,142,155,156,157,166,167,168,190,191,192,204,205,206,217,218,219] ?_;simp -dsimp [hlti,hlt,hw,hat,hEl0,a1,t1,hEl,hr,hrj,lwO,cpL,cpB4,cpB2,hs])|(refine DT_cond rfl (fun h=>?_) (fun h=>?_)<;>(try simp only [nrm] at h)<;>(try exact Bool.noConfusion h))
      all_goals try simp -dsimp [hlti,hlt,hw,hat,hEl0,a1,t1,hEl,hr,hrj,lwO,cpL,cpB4,cpB2,hs]
      all_goals try clear hs
      exact At.round ⟨(j + 1,E.set j (.im (.raw (.int .i64 0)) :: List.drop 1 r)),by simp only;omega,hE.set hrl⟩ (by simp only;omega) (Weak.of_keep [3,7,12,16,21,155,156,166,167] (by simp [lwO,cpL,cpB4,cpB2]))
     obtain rfl:j=x.draws.length:=by omega
     have hH2:=SK_up2 (nl:=nl0) hH hx0 hE
     have hHE2:=SH_set (b:=u2) (d:=u3) (.im (.raw (.int .i64 0))) hHE hx0
     simp only [cpB2] at hHE2
     have hs:True:=trivial
     repeat' first|(with_reducible first|refine q01 ?_|refine q03 ?_|refine q04 ?_|refine q06 ?_|refine q11 ?_|refine q16 ?_)|(with_reducible refine DT_regionE [0,1,2,3,5,6,7,8,9,10,11,12,13,14,15,16,17,18,19,20,21,22,23,24,25,27,79,80,81,92,93,94,118,119,120,140,141,142,155,156,157,166,167,168,190,191,192,204,205,206,217,218,219] ?_;simp -dsimp [hlti,hwi,hlt,hat,hEl0,lwO,cpL,cpB4,cpB2,hs])|(refine DT_cond rfl (fun h=>?_) (fun h=>?_)<;>(try simp only [nrm] at h)<;>(try exact Bool.noConfusion h))
     all_goals try simp -dsimp [hlti,hwi,hlt,hat,hEl0,lwO,cpL,cpB4,cpB2,hs]
     all_goals try clear hs
     exact At.round ⟨(i + 1,HE.set i [.im (.raw (.int .i64 0)),u2,u3,.vec (4 * c'.p.n.reg.length + 2 * i + 37) (mmA.2.2.2.1 i).1 0 x.draws.length],up2 H i (.vec 1 E (mmA.2.2.2.1 i).1 nl0)),by simp only;omega,hHE2,hH2⟩ (by simp only;omega) (Weak.of_keep [3,7,12,16,155,156] (by simp [lwO,cpL,cpB4,cpB2]))
    obtain rfl:i=c'.p.holders.length:=by omega
    have hs:True:=trivial
    repeat' first|(with_reducible first|refine q01 ?_|refine q03 ?_|refine q06 ?_|refine q11 ?_|refine q12 ?_|refine q16 ?_)|(with_reducible refine DT_regionE [0,1,2,3,5,6,7,8,9,10,11,12,13,14,15,16,17,18,19,20,21,22,23,24,25,27,79,80,81,92,93,94,118,119,120,140,141,142,155,156,157,166,167,168,190,191,192,204,205,206,217,218,219] ?_;simp -dsimp [hlti,lwO,cpL,cpB4,cpB2,hs])|(refine DT_cond rfl (fun h=>?_) (fun h=>?_)<;>(try simp only [nrm] at h)<;>(try exact Bool.noConfusion h))
    all_goals try simp -dsimp [hlti,lwO,cpL,cpB4,cpB2,hs]
    all_goals try clear hs
    clear hlti hi2
    refine DT_loop (ι:={ p:Nat×List (List DC) // p.1≤c'.p.prints.length∧RowsN p.2 (c'.p.prints.length) 7 }) (fun p=>⟨233,[(3,.one (.ptr 0 0)),(7,.one (.ptr 8 0)),(12,.one (.ptr (4 * c'.p.n.reg.length + 2 * c'.p.holders.length + 46) 0)),(16,bv true),(190,iv (c'.p.prints.length:Int)),(191,iv (p.1.1:Int))],lwO mmA c c' X lo hi F NE HE H p.1.2 LE QE⟩) (fun p=>c'.p.prints.length - p.1.1) ⟨(0,PE),by omega,hPE⟩ (Weak.of_keep [3,7,12,16,190,191] (by simp [lwO,cpL,cpB4,cpB2])) ?_
    clear hPE
    clear PE
    rintro ⟨⟨j,PE⟩,hj,hPE⟩
    simp only at hj hPE
    simp only [iv]
    by_cases hlt:j < c'.p.prints.length
    ·have hw:IntKind.i64.wrap ((j:Int) + 1)=((j + 1:Nat):Int):=i64w (by omega) (by omega)
     have hEl:=hPE.1
     have hjE:j < PE.length:=by omega
     have hr:=hPE.2 PE[j] (List.getElem_mem hjE)
     generalize hrj:PE[j]=r at *
     have hrl:(List.take 1 r ++ .im (.raw (.int .i64 (-7))) :: List.drop 2 r).length=7:=by simp;omega
     have hs:True:=trivial
     repeat' first|(with_reducible first|refine q01 ?_|refine q04 ?_|refine q11 ?_|refine q12 ?_|refine q14 ?_)|(with_reducible refine DT_regionE [0,1,2,3,5,6,7,8,9,10,11,12,13,14,15,16,17,18,19,20,21,22,23,24,25,27,79,80,81,92,93,94,118,119,120,140,141,142,155,156,157,166,167,168,190,191,192,204,205,206,217,218,219] ?_;simp -dsimp [hlt,hw,hEl,hr,hrj,lwO,cpL,cpB4,cpB2,hs])|(refine DT_cond rfl (fun h=>?_) (fun h=>?_)<;>(try simp only [nrm] at h)<;>(try exact Bool.noConfusion h))
     all_goals try simp -dsimp [hlt,hw,hEl,hr,hrj,lwO,cpL,cpB4,cpB2,hs]
     all_goals try clear hs
     exact At.round ⟨(j + 1,PE.set j (List.take 1 r ++ .im (.raw (.int .i64 (-7))) :: List.drop 2 r)),by simp only;omega,hPE.set hrl⟩ (by simp only;omega) (Weak.of_keep [3,7,12,16,190,191] (by simp [lwO,cpL,cpB4,cpB2]))
    obtain rfl:j=c'.p.prints.length:=by omega
    have hs:True:=trivial
    repeat' first|(with_reducible first|refine q01 ?_|refine q03 ?_|refine q06 ?_|refine q11 ?_|refine q12 ?_|refine q16 ?_)|(with_reducible refine DT_regionE [0,1,2,3,5,6,7,8,9,10,11,12,13,14,15,16,17,18,19,20,21,22,23,24,25,27,79,80,81,92,93,94,118,119,120,140,141,142,155,156,157,166,167,168,190,191,192,204,205,206,217,218,219] ?_;simp -dsimp [hlt,lwO,cpL,cpB4,cpB2,hs])|(refine DT_cond rfl (fun h=>?_) (fun h=>?_)<;>(try simp only [nrm] at h)<;>(try exact Bool.noConfusion h))
    all_goals try simp -dsimp [hlt,lwO,cpL,cpB4,cpB2,hs]
    all_goals try clear hs
    clear hlt hj
    refine DT_loop (ι:={ p:Nat×List (List DC) // p.1≤c'.loop.links.length∧RowsN p.2 (c'.loop.links.length) 3 }) (fun p=>⟨233,[(3,.one (.ptr 0 0)),(7,.one (.ptr 8 0)),(12,.one (.ptr (4 * c'.p.n.reg.length + 2 * c'.p.holders.length + 46) 0)),(16,bv true),(204,iv (c'.loop.links.length:Int)),(205,iv (p.1.1:Int))],lwO mmA c c' X lo hi F NE HE H PE p.1.2 QE⟩) (fun p=>c'.loop.links.length - p.1.1) ⟨(0,LE),by omega,hLE⟩ (Weak.of_keep [3,7,12,16,204,205] (by simp [lwO,cpL,cpB4,cpB2])) ?_
    clear hLE
    clear LE
    rintro ⟨⟨j,LE⟩,hj,hLE⟩
    simp only at hj hLE
    simp only [iv]
    by_cases hlt:j < c'.loop.links.length
    ·have hw:IntKind.i64.wrap ((j:Int) + 1)=((j + 1:Nat):Int):=i64w (by omega) (by omega)
     have hEl:=hLE.1
     have hjE:j < LE.length:=by omega
     have hr:=hLE.2 LE[j] (List.getElem_mem hjE)
     generalize hrj:LE[j]=r at *
     have hrl:(List.take 1 r ++ .im (.raw (.int .i64 7)) :: List.drop 2 r).length=3:=by simp;omega
     have hs:True:=trivial
     repeat' first|(with_reducible first|refine q01 ?_|refine q04 ?_|refine q11 ?_|refine q12 ?_|refine q14 ?_)|(with_reducible refine DT_regionE [0,1,2,3,5,6,7,8,9,10,11,12,13,14,15,16,17,18,19,20,21,22,23,24,25,27,79,80,81,92,93,94,118,119,120,140,141,142,155,156,157,166,167,168,190,191,192,204,205,206,217,218,219] ?_;simp -dsimp [hlt,hw,hEl,hr,hrj,lwO,cpL,cpB4,cpB2,hs])|(refine DT_cond rfl (fun h=>?_) (fun h=>?_)<;>(try simp only [nrm] at h)<;>(try exact Bool.noConfusion h))
     all_goals try simp -dsimp [hlt,hw,hEl,hr,hrj,lwO,cpL,cpB4,cpB2,hs]
     all_goals try clear hs
     exact At.round ⟨(j + 1,LE.set j (List.take 1 r ++ .im (.raw (.int .i64 7)) :: List.drop 2 r)),by simp only;omega,hLE.set hrl⟩ (by simp only;omega) (Weak.of_keep [3,7,12,16,204,205] (by simp [lwO,cpL,cpB4,cpB2]))
    obtain rfl:j=c'.loop.links.length:=by omega
    have hs:True:=trivial
    repeat' first|(with_reducible first|refine q01 ?_|refine q03 ?_|refine q06 ?_|refine q11 ?_|refine q12 ?_|refine q16 ?_)|(with_reducible refine DT_regionE [0,1,2,3,5,6,7,8,9,10,11,12,13,14,15,16,17,18,19,20,21,22,23,24,25,27,79,80,81,92,93,94,118,119,120,140,141,142,155,156,157,166,167,168,190,191,192,204,205,206,217,218,219] ?_;simp -dsimp [hlt,lwO,cpL,cpB4,cpB2,hs])|(refine DT_cond rfl (fun h=>?_) (fun h=>?_)<;>(try simp only [nrm] at h)<;>(try exact Bool.noConfusion h))
    all_goals try simp -dsimp [hlt,lwO,cpL,cpB4,cpB2,hs]
    all_goals try clear hs
    clear hlt hj
    refine DT_loop (ι:={ p:Nat×List (List DC) // p.1≤c'.pieces.length∧RowsN p.2 (c'.pieces.length) 4 }) (fun p=>⟨233,[(3,.one (.ptr 0 0)),(7,.one (.ptr 8 0)),(12,.one (.ptr (4 * c'.p.n.reg.length + 2 * c'.p.holders.length + 46) 0)),(16,bv true),(217,iv (c'.pieces.length:Int)),(218,iv (p.1.1:Int))],lwO mmA c c' X lo hi F NE HE H PE LE p.1.2⟩) (fun p=>c'.pieces.length - p.1.1) ⟨(0,QE),by omega,hQE⟩ (Weak.of_keep [3,7,12,16,217,218] (by simp [lwO,cpL,cpB4,cpB2])) ?_
    clear hQE
    clear QE
    rintro ⟨⟨j,QE⟩,hj,hQE⟩
    simp only at hj hQE
    simp only [iv]
    by_cases hlt:j < c'.pieces.length
    ·have hw:IntKind.i64.wrap ((j:Int) + 1)=((j + 1:Nat):Int):=i64w (by omega) (by omega)
     have hEl:=hQE.1
     have hjE:j < QE.length:=by omega
     have hr:=hQE.2 QE[j] (List.getElem_mem hjE)
     generalize hrj:QE[j]=r at *
     have hrl:(List.take 1 r ++ .im (.raw (.int .i64 (-7))) :: List.drop 2 r).length=4:=by simp;omega
     have hs:True:=trivial
     repeat' first|(with_reducible first|refine q01 ?_|refine q04 ?_|refine q11 ?_|refine q12 ?_|refine q14 ?_)|(with_reducible refine DT_regionE [0,1,2,3,5,6,7,8,9,10,11,12,13,14,15,16,17,18,19,20,21,22,23,24,25,27,79,80,81,92,93,94,118,119,120,140,141,142,155,156,157,166,167,168,190,191,192,204,205,206,217,218,219] ?_;simp -dsimp [hlt,hw,hEl,hr,hrj,lwO,cpL,cpB4,cpB2,hs])|(refine DT_cond rfl (fun h=>?_) (fun h=>?_)<;>(try simp only [nrm] at h)<;>(try exact Bool.noConfusion h))
     all_goals try simp -dsimp [hlt,hw,hEl,hr,hrj,lwO,cpL,cpB4,cpB2,hs]
     all_goals try clear hs
     exact At.round ⟨(j + 1,QE.set j (List.take 1 r ++ .im (.raw (.int .i64 (-7))) :: List.drop 2 r)),by simp only;omega,hQE.set hrl⟩ (by simp only;omega) (Weak.of_keep [3,7,12,16,217,218] (by simp [lwO,cpL,cpB4,cpB2]))
    obtain rfl:j=c'.pieces.length:=by omega
    have hs:True:=trivial
    repeat' first|(with_reducible first|refine q01 ?_|refine q03 ?_|refine q06 ?_|refine q11 ?_|refine q16 ?_|refine q17 ?_)|(with_reducible refine At.fn_ret (by simp -dsimp [hlt,lwO,cpL,cpB4,cpB2,hs];exact rfl) ?_)|(refine CallE.pure (c8) ?_;try simp -dsimp [hlt,lwO,cpL,cpB4,cpB2,hs])|(with_reducible refine DT_regionE [0,1,2,3,5,6,7,8,9,10,11,12,13,14,15,16,17,18,19,20,21,22,23,24,25,27,79,80,81,92,93,94,118,119,120,140,141,142,155,156,157,166,167,168,190,191,192,204,205,206,217,218,219] ?_;simp -dsimp [hlt,lwO,cpL,cpB4,cpB2,hs])|(refine DT_cond rfl (fun h=>?_) (fun h=>?_)<;>(try simp only [nrm] at h)<;>(try exact Bool.noConfusion h))
    all_goals try simp -dsimp [hlt,lwO,cpL,cpB4,cpB2,hs]
    all_goals try clear hs
    try clear hlt hj
  ·have c5:=bMeas_no (G:=G) c n lo hi h0 hG hN hS hR hk
   rw [msO_no h0] at c6
   have c7:=same10_c (G:=G) zCase SmallK_z
   simp only [casev,encCase,refv,zCase,List.map_nil] at c5 c6 c7
   generalize msE c n lo hi=Z at *
   have hs:True:=trivial
   repeat' first|(with_reducible first|refine q01 ?_|refine q03 ?_|refine q06 ?_|refine q11 ?_|refine q12 ?_|refine q14 ?_|refine q16 ?_|refine q17 ?_)|(with_reducible refine At.fn_ret (by simp -dsimp [hs];exact rfl) ?_)|(refine CallE.pure (c1) ?_;try simp -dsimp [hs])|(refine CallE.pure (c2) ?_;try simp -dsimp [hs])|(refine CallE.pure (c3) ?_;try simp -dsimp [hs])|(refine CallE.pure (c4) ?_;try simp -dsimp [hs])|(refine CallE.pure (c5) ?_;try simp -dsimp [hs])|(refine CallE.pure (c6) ?_;try simp -dsimp [hs])|(refine CallE.pure (c7) ?_;try simp -dsimp [hs])|(refine CallE.pure (c8) ?_;try simp -dsimp [hs])|(refine DT_loop (ι:=Unit) (fun _=>_) (fun _=>0) () Weak.refl ?_;intro _;try simp -dsimp;try simp -dsimp [hs])|(with_reducible refine DT_regionE [0,1,2,3,5,6,7,8,9,10,11,12,13,14,15,16,17,18,19,20,21,22,23,24,25,27,79,80,81,92,93,94,118,119,120,140,141,142,155,156,157,166,167,168,190,191,192,204,205,206,217,218,219] ?_;simp -dsimp [hs])|(refine DT_cond rfl (fun h=>?_) (fun h=>?_)<;>(try simp only [nrm] at h)<;>(try exact Bool.noConfusion h))
   all_goals try simp -dsimp [hs]
   all_goals try clear hs
end Go.Proofs
