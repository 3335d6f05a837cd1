/- Part 28 of the proofs: laws and walks that hold without conditions beyond those that each theorem names. -/
import Derived.Test.YtmkbmkonpglgdaaGreatDoorP13
import Derived.Test.YtmkbmkonpglgdaaGreatDoorQ02
set_option linter.all false
set_option linter.deprecated false
namespace Go.Ab
open Go
abbrev Q4:=DObj×DObj×DObj×DObj
abbrev Q2:=DObj×DObj
def flat4 (F:Nat→Q4):Nat→List DObj
 | 0=>[]
 | n + 1=>flat4 F n ++ [(F n).1,(F n).2.1,(F n).2.2.1,(F n).2.2.2]
def flat2 (F:Nat→Q2):Nat→List DObj
 | 0=>[]
 | n + 1=>flat2 F n ++ [(F n).1,(F n).2]
@[simp] theorem flat4_len (F:Nat→Q4):∀ n,(flat4 F n).length=4 * n
 | 0=>rfl
 | n + 1=>by simp [flat4,flat4_len F n];omega
@[simp] theorem flat2_len (F:Nat→Q2):∀ n,(flat2 F n).length=2 * n
 | 0=>rfl
 | n + 1=>by simp [flat2,flat2_len F n];omega
theorem flat4_get (F:Nat→Q4) {i j:Nat} (hj:j < 4):∀ {n},i < n→(flat4 F n)[4 * i + j]?=[(F i).1,(F i).2.1,(F i).2.2.1,(F i).2.2.2][j]?
 | n + 1,h=>by
   rw [flat4]
   rcases Nat.eq_or_lt_of_le (Nat.le_of_lt_succ h) with rfl|h1
   ·rw [List.getElem?_append_right (by simp),flat4_len,Nat.add_sub_cancel_left]
   ·rw [List.getElem?_append_left (by simp;omega)];exact flat4_get F hj h1
theorem flat2_get (F:Nat→Q2) {i j:Nat} (hj:j < 2):∀ {n},i < n→(flat2 F n)[2 * i + j]?=[(F i).1,(F i).2][j]?
 | n + 1,h=>by
   rw [flat2]
   rcases Nat.eq_or_lt_of_le (Nat.le_of_lt_succ h) with rfl|h1
   ·rw [List.getElem?_append_right (by simp),flat2_len,Nat.add_sub_cancel_left]
   ·rw [List.getElem?_append_left (by simp;omega)];exact flat2_get F hj h1
@[simp] theorem flat4_map (f:DObj→DObj) (F:Nat→Q4):∀ n,(flat4 F n).map f=flat4 (fun k=>(f (F k).1,f (F k).2.1,f (F k).2.2.1,f (F k).2.2.2)) n
 | 0=>rfl
 | n + 1=>by simp [flat4,flat4_map f F n]
@[simp] theorem flat2_map (f:DObj→DObj) (F:Nat→Q2):∀ n,(flat2 F n).map f=flat2 (fun k=>(f (F k).1,f (F k).2)) n
 | 0=>rfl
 | n + 1=>by simp [flat2,flat2_map f F n]
theorem flat4_congr {F H:Nat→Q4}:∀ {n},(∀ k,k < n→F k=H k)→flat4 F n=flat4 H n
 | 0,_=>rfl
 | n + 1,h=>by rw [flat4,flat4,flat4_congr fun k hk=>h k (by omega),h n (by omega)]
theorem flat2_congr {F H:Nat→Q2}:∀ {n},(∀ k,k < n→F k=H k)→flat2 F n=flat2 H n
 | 0,_=>rfl
 | n + 1,h=>by rw [flat2,flat2,flat2_congr fun k hk=>h k (by omega),h n (by omega)]
@[simp] theorem flat4_beh (F:Nat→Q4) (n j:Nat) (R:List DObj):(flat4 F n ++ R)[4 * n + j]?=R[j]?:=by
 rw [List.getElem?_append_right (by simp),flat4_len,Nat.add_sub_cancel_left]
@[simp] theorem flat4_beh0 (F:Nat→Q4) (n:Nat) (R:List DObj):(flat4 F n ++ R)[4 * n]?=R[0]?:=by
 have:=flat4_beh F n 0 R;simpa using this
@[simp] theorem flat4_beh2 (F:Nat→Q4) (n a j:Nat) (R:List DObj):(flat4 F n ++ R)[4 * n + a + j]?=R[a + j]?:=by
 rw [Nat.add_assoc,flat4_beh]
@[simp] theorem flat2_beh (F:Nat→Q2) (n j:Nat) (R:List DObj):(flat2 F n ++ R)[2 * n + j]?=R[j]?:=by
 rw [List.getElem?_append_right (by simp),flat2_len,Nat.add_sub_cancel_left]
@[simp] theorem flat2_beh0 (F:Nat→Q2) (n:Nat) (R:List DObj):(flat2 F n ++ R)[2 * n]?=R[0]?:=by
 have:=flat2_beh F n 0 R;simpa using this
@[simp] theorem flat4_setb (F:Nat→Q4) (n j:Nat) (R:List DObj) (d:DObj):(flat4 F n ++ R).set (4 * n + j) d=flat4 F n ++ R.set j d:=by
 rw [List.set_append_right _ _ (by simp),flat4_len,Nat.add_sub_cancel_left]
@[simp] theorem flat4_setb2 (F:Nat→Q4) (n a j:Nat) (R:List DObj) (d:DObj):(flat4 F n ++ R).set (4 * n + a + j) d=flat4 F n ++ R.set (a + j) d:=by
 rw [Nat.add_assoc,flat4_setb]
@[simp] theorem flat2_setb (F:Nat→Q2) (n j:Nat) (R:List DObj) (d:DObj):(flat2 F n ++ R).set (2 * n + j) d=flat2 F n ++ R.set j d:=by
 rw [List.set_append_right _ _ (by simp),flat2_len,Nat.add_sub_cancel_left]
end Go.Ab
namespace Go.Proofs
open Go Go.Ab
set_option linter.unusedSimpArgs false
variable {G:Nat→Option (List IC)}
def CloneM (P:Program) (G:Nat→Option (List IC)) (f sz:Nat) (l:List (List IC)):Prop:=DCall P G f [.one (.im (.sl l))] [] (fun d o=>∃ i:Nat×Bool,(i.2=true→l=[])∧d=.one (.vec 1 i.1 0 l.length)∧o=[.vec sz [] 0 true,.vec sz (ims l) i.1 i.2])
theorem cmIss (l:List Issue) (hl:l.length < 1000):CloneM Tryz.prog G 59 5 (l.map encIssue):=by
 unfold CloneM
 refine DCall_intro Tryz.func59 rfl Tryz.ntmps59 (by simp) rfl ?_
 have hs:True:=trivial
 repeat' first|(with_reducible first|refine q01 ?_|refine q02 ?_|refine q11 ?_|refine q14 ?_|refine q17 ?_|refine And.intro (by omega) ?_)|(with_reducible refine At.fn_ret (by simp -dsimp [hs];exact rfl) ?_)|(with_reducible refine DT_regionE [0,2,4] ?_;simp -dsimp [hs])|(refine DT_cond rfl (fun h=>?_) (fun h=>?_)<;>(try simp only [nrm] at h)<;>(try exact Bool.noConfusion h))|(with_reducible refine imp_At (fun h=>?_);(try simp only [List.map_eq_nil_iff] at h);(try subst h);try simp -dsimp [hs])|with_reducible refine And.intro ?_ ?_
 all_goals try simp -dsimp [hs]
 all_goals try clear hs
theorem cmNote (l:List Note) (hl:l.length < 1000):CloneM Tryz.prog G 60 10 (l.map encNote):=by
 unfold CloneM
 refine DCall_intro Tryz.func60 rfl Tryz.ntmps60 (by simp) rfl ?_
 have hs:True:=trivial
 repeat' first|(with_reducible first|refine q01 ?_|refine q02 ?_|refine q11 ?_|refine q14 ?_|refine q17 ?_|refine And.intro (by omega) ?_)|(with_reducible refine At.fn_ret (by simp -dsimp [hs];exact rfl) ?_)|(with_reducible refine DT_regionE [0,2,4] ?_;simp -dsimp [hs])|(refine DT_cond rfl (fun h=>?_) (fun h=>?_)<;>(try simp only [nrm] at h)<;>(try exact Bool.noConfusion h))|(with_reducible refine imp_At (fun h=>?_);(try simp only [List.map_eq_nil_iff] at h);(try subst h);try simp -dsimp [hs])|with_reducible refine And.intro ?_ ?_
 all_goals try simp -dsimp [hs]
 all_goals try clear hs
theorem cmItm (l:List Itm) (hl:l.length < 1000):CloneM Tryz.prog G 61 2 (l.map encItem):=by
 unfold CloneM
 refine DCall_intro Tryz.func61 rfl Tryz.ntmps61 (by simp) rfl ?_
 have hs:True:=trivial
 repeat' first|(with_reducible first|refine q01 ?_|refine q02 ?_|refine q11 ?_|refine q14 ?_|refine q17 ?_|refine And.intro (by omega) ?_)|(with_reducible refine At.fn_ret (by simp -dsimp [hs];exact rfl) ?_)|(with_reducible refine DT_regionE [0,2,4] ?_;simp -dsimp [hs])|(refine DT_cond rfl (fun h=>?_) (fun h=>?_)<;>(try simp only [nrm] at h)<;>(try exact Bool.noConfusion h))|(with_reducible refine imp_At (fun h=>?_);(try simp only [List.map_eq_nil_iff] at h);(try subst h);try simp -dsimp [hs])|with_reducible refine And.intro ?_ ?_
 all_goals try simp -dsimp [hs]
 all_goals try clear hs
theorem cmDim (l:List Dim) (hl:l.length < 1000):CloneM Tryz.prog G 62 3 (l.map encDim):=by
 unfold CloneM
 refine DCall_intro Tryz.func62 rfl Tryz.ntmps62 (by simp) rfl ?_
 have hs:True:=trivial
 repeat' first|(with_reducible first|refine q01 ?_|refine q02 ?_|refine q11 ?_|refine q14 ?_|refine q17 ?_|refine And.intro (by omega) ?_)|(with_reducible refine At.fn_ret (by simp -dsimp [hs];exact rfl) ?_)|(with_reducible refine DT_regionE [0,2,4] ?_;simp -dsimp [hs])|(refine DT_cond rfl (fun h=>?_) (fun h=>?_)<;>(try simp only [nrm] at h)<;>(try exact Bool.noConfusion h))|(with_reducible refine imp_At (fun h=>?_);(try simp only [List.map_eq_nil_iff] at h);(try subst h);try simp -dsimp [hs])|with_reducible refine And.intro ?_ ?_
 all_goals try simp -dsimp [hs]
 all_goals try clear hs
theorem cmHold (l:List Holder) (hl:l.length < 1000):CloneM Tryz.prog G 63 4 (l.map encHolder):=by
 unfold CloneM
 refine DCall_intro Tryz.func63 rfl Tryz.ntmps63 (by simp) rfl ?_
 have hs:True:=trivial
 repeat' first|(with_reducible first|refine q01 ?_|refine q02 ?_|refine q11 ?_|refine q14 ?_|refine q17 ?_|refine And.intro (by omega) ?_)|(with_reducible refine At.fn_ret (by simp -dsimp [hs];exact rfl) ?_)|(with_reducible refine DT_regionE [0,2,4] ?_;simp -dsimp [hs])|(refine DT_cond rfl (fun h=>?_) (fun h=>?_)<;>(try simp only [nrm] at h)<;>(try exact Bool.noConfusion h))|(with_reducible refine imp_At (fun h=>?_);(try simp only [List.map_eq_nil_iff] at h);(try subst h);try simp -dsimp [hs])|with_reducible refine And.intro ?_ ?_
 all_goals try simp -dsimp [hs]
 all_goals try clear hs
theorem cmPrint (l:List Print) (hl:l.length < 1000):CloneM Tryz.prog G 64 7 (l.map encPrint):=by
 unfold CloneM
 refine DCall_intro Tryz.func64 rfl Tryz.ntmps64 (by simp) rfl ?_
 have hs:True:=trivial
 repeat' first|(with_reducible first|refine q01 ?_|refine q02 ?_|refine q11 ?_|refine q14 ?_|refine q17 ?_|refine And.intro (by omega) ?_)|(with_reducible refine At.fn_ret (by simp -dsimp [hs];exact rfl) ?_)|(with_reducible refine DT_regionE [0,2,4] ?_;simp -dsimp [hs])|(refine DT_cond rfl (fun h=>?_) (fun h=>?_)<;>(try simp only [nrm] at h)<;>(try exact Bool.noConfusion h))|(with_reducible refine imp_At (fun h=>?_);(try simp only [List.map_eq_nil_iff] at h);(try subst h);try simp -dsimp [hs])|with_reducible refine And.intro ?_ ?_
 all_goals try simp -dsimp [hs]
 all_goals try clear hs
theorem cmInt (l:List Int) (hl:l.length < 1000):CloneM Tryz.prog G 65 1 (l.map encI):=by
 unfold CloneM
 refine DCall_intro Tryz.func65 rfl Tryz.ntmps65 (by simp) rfl ?_
 have hs:True:=trivial
 repeat' first|(with_reducible first|refine q01 ?_|refine q02 ?_|refine q11 ?_|refine q14 ?_|refine q17 ?_|refine And.intro (by omega) ?_)|(with_reducible refine At.fn_ret (by simp -dsimp [hs];exact rfl) ?_)|(with_reducible refine DT_regionE [0,2,4] ?_;simp -dsimp [hs])|(refine DT_cond rfl (fun h=>?_) (fun h=>?_)<;>(try simp only [nrm] at h)<;>(try exact Bool.noConfusion h))|(with_reducible refine imp_At (fun h=>?_);(try simp only [List.map_eq_nil_iff] at h);(try subst h);try simp -dsimp [hs])|with_reducible refine And.intro ?_ ?_
 all_goals try simp -dsimp [hs]
 all_goals try clear hs
theorem cmLink (l:List Link) (hl:l.length < 1000):CloneM Tryz.prog G 66 3 (l.map encLink):=by
 unfold CloneM
 refine DCall_intro Tryz.func66 rfl Tryz.ntmps66 (by simp) rfl ?_
 have hs:True:=trivial
 repeat' first|(with_reducible first|refine q01 ?_|refine q02 ?_|refine q11 ?_|refine q14 ?_|refine q17 ?_|refine And.intro (by omega) ?_)|(with_reducible refine At.fn_ret (by simp -dsimp [hs];exact rfl) ?_)|(with_reducible refine DT_regionE [0,2,4] ?_;simp -dsimp [hs])|(refine DT_cond rfl (fun h=>?_) (fun h=>?_)<;>(try simp only [nrm] at h)<;>(try exact Bool.noConfusion h))|(with_reducible refine imp_At (fun h=>?_);(try simp only [List.map_eq_nil_iff] at h);(try subst h);try simp -dsimp [hs])|with_reducible refine And.intro ?_ ?_
 all_goals try simp -dsimp [hs]
 all_goals try clear hs
theorem cmPiece (l:List Piece) (hl:l.length < 1000):CloneM Tryz.prog G 67 4 (l.map encPiece):=by
 unfold CloneM
 refine DCall_intro Tryz.func67 rfl Tryz.ntmps67 (by simp) rfl ?_
 have hs:True:=trivial
 repeat' first|(with_reducible first|refine q01 ?_|refine q02 ?_|refine q11 ?_|refine q14 ?_|refine q17 ?_|refine And.intro (by omega) ?_)|(with_reducible refine At.fn_ret (by simp -dsimp [hs];exact rfl) ?_)|(with_reducible refine DT_regionE [0,2,4] ?_;simp -dsimp [hs])|(refine DT_cond rfl (fun h=>?_) (fun h=>?_)<;>(try simp only [nrm] at h)<;>(try exact Bool.noConfusion h))|(with_reducible refine imp_At (fun h=>?_);(try simp only [List.map_eq_nil_iff] at h);(try subst h);try simp -dsimp [hs])|with_reducible refine And.intro ?_ ?_
 all_goals try simp -dsimp [hs]
 all_goals try clear hs
end Go.Proofs
namespace Go.Ab
open Go
abbrev Gp:=Nat×Bool
def issC (b:Nat→Nat×Nat) (m:Nat→Gp×Gp) (i k:Nat) (x:Issue):List DC:=if k < i then [.im (rI x.drawing),.im (rI x.letter),.im (.raw (.int .u8 x.kind)),.vec (b k).1 (m k).1.1 0 x.items.length,.vec (b k).2 (m k).2.1 0 x.dims.length] else (encIssue x).map .im
def issE (b:Nat→Nat×Nat) (m:Nat→Gp×Gp) (i:Nat) (l:List Issue):List (List DC):=l.mapIdx (issC b m i)
def issF (l:List Issue) (m:Nat→Gp×Gp) (k:Nat):Q4:=match l[k]? with
 | some x=>(.vec 2 [] 0 true,.vec 2 (ims (x.items.map encItem)) (m k).1.1 (m k).1.2,.vec 3 [] 0 true,.vec 3 (ims (x.dims.map encDim)) (m k).2.1 (m k).2.2)
 | none=>(.gone,.gone,.gone,.gone)
def holC (b:Nat→Nat) (m:Nat→Gp) (i k:Nat) (x:Holder):List DC:=if k < i then [.im (rI x.id),.im (rI x.frm),.im (rI x.to),.vec (b k) (m k).1 0 x.draws.length] else (encHolder x).map .im
def holE (b:Nat→Nat) (m:Nat→Gp) (i:Nat) (l:List Holder):List (List DC):=l.mapIdx (holC b m i)
def holF (l:List Holder) (m:Nat→Gp) (k:Nat):Q2:=match l[k]? with
 | some x=>(.vec 1 [] 0 true,.vec 1 (ims (x.draws.map encI)) (m k).1 (m k).2)
 | none=>(.gone,.gone)
@[simp] theorem issE_len (b:Nat→Nat×Nat) (m:Nat→Gp×Gp) (i:Nat) (l:List Issue):(issE b m i l).length=l.length:=by simp [issE]
@[simp] theorem holE_len (b:Nat→Nat) (m:Nat→Gp) (i:Nat) (l:List Holder):(holE b m i l).length=l.length:=by simp [holE]
theorem issE_zero (b:Nat→Nat×Nat) (m:Nat→Gp×Gp) (l:List Issue):issE b m 0 l=ims (l.map encIssue):=by
 unfold issE ims
 apply List.ext_getElem?
 intro k
 simp [List.getElem?_mapIdx,issC]
 rfl
theorem holE_zero (b:Nat→Nat) (m:Nat→Gp) (l:List Holder):holE b m 0 l=ims (l.map encHolder):=by
 unfold holE ims
 apply List.ext_getElem?
 intro k
 simp [List.getElem?_mapIdx,holC]
 rfl
theorem issE_at {b:Nat→Nat×Nat} {m:Nat→Gp×Gp} {i:Nat} {l:List Issue} {x:Issue} (h:l[i]?=some x):(issE b m i l)[i]?=some ((encIssue x).map .im):=by
 simp [issE,List.getElem?_mapIdx,h,issC]
theorem holE_at {b:Nat→Nat} {m:Nat→Gp} {i:Nat} {l:List Holder} {x:Holder} (h:l[i]?=some x):(holE b m i l)[i]?=some ((encHolder x).map .im):=by
 simp [holE,List.getElem?_mapIdx,h,holC]
def updG {α:Type} (m:Nat→α) (i:Nat) (g:α) (k:Nat):α:=if k=i then g else m k
theorem issE_set {b:Nat→Nat×Nat} {m:Nat→Gp×Gp} {i:Nat} {l:List Issue} {x:Issue} (h:l[i]?=some x) (g:Gp×Gp):(issE b m i l).set i [.im (rI x.drawing),.im (rI x.letter),.im (.raw (.int .u8 x.kind)),.vec (b i).1 g.1.1 0 x.items.length,.vec (b i).2 g.2.1 0 x.dims.length]=issE b (updG m i g) (i + 1) l:=by
 apply List.ext_getElem?
 intro k
 rw [List.getElem?_set]
 by_cases e:i=k
 ·subst e
  have hlt:=lt_of_getElem? h
  rw [if_pos rfl,if_pos (by simpa using hlt)]
  simp only [issE,List.getElem?_mapIdx,h,Option.map_some,issC,updG,if_true,Nat.lt_succ_self]
 ·rw [if_neg e]
  simp only [issE,List.getElem?_mapIdx]
  have h1:¬ k=i:=fun h=>e h.symm
  cases hk:l[k]? with
  | none=>rfl
  | some y =>
    simp only [Option.map_some,issC,updG,if_neg h1]
    by_cases h2:k < i
    ·rw [if_pos h2,if_pos (by omega)]
    ·rw [if_neg h2,if_neg (by omega)]
theorem holE_set {b:Nat→Nat} {m:Nat→Gp} {i:Nat} {l:List Holder} {x:Holder} (h:l[i]?=some x) (g:Gp):(holE b m i l).set i [.im (rI x.id),.im (rI x.frm),.im (rI x.to),.vec (b i) g.1 0 x.draws.length]=holE b (updG m i g) (i + 1) l:=by
 apply List.ext_getElem?
 intro k
 rw [List.getElem?_set]
 by_cases e:i=k
 ·subst e
  have hlt:=lt_of_getElem? h
  rw [if_pos rfl,if_pos (by simpa using hlt)]
  simp only [holE,List.getElem?_mapIdx,h,Option.map_some,holC,updG,if_true,Nat.lt_succ_self]
 ·rw [if_neg e]
  simp only [holE,List.getElem?_mapIdx]
  have h1:¬ k=i:=fun h=>e h.symm
  cases hk:l[k]? with
  | none=>rfl
  | some y =>
    simp only [Option.map_some,holC,updG,if_neg h1]
    by_cases h2:k < i
    ·rw [if_pos h2,if_pos (by omega)]
    ·rw [if_neg h2,if_neg (by omega)]
theorem issF_succ {l:List Issue} {m:Nat→Gp×Gp} {i:Nat} {x:Issue} (h:l[i]?=some x) (g:Gp×Gp):flat4 (issF l (updG m i g)) (i + 1)=flat4 (issF l m) i ++ [.vec 2 [] 0 true,.vec 2 (ims (x.items.map encItem)) g.1.1 g.1.2,.vec 3 [] 0 true,.vec 3 (ims (x.dims.map encDim)) g.2.1 g.2.2]:=by
 rw [flat4,flat4_congr (H:=issF l m) fun k hk=>by unfold issF updG;rw [if_neg (by omega)]]
 simp [issF,h,updG]
theorem holF_succ {l:List Holder} {m:Nat→Gp} {i:Nat} {x:Holder} (h:l[i]?=some x) (g:Gp):flat2 (holF l (updG m i g)) (i + 1)=flat2 (holF l m) i ++ [.vec 1 [] 0 true,.vec 1 (ims (x.draws.map encI)) g.1 g.2]:=by
 rw [flat2,flat2_congr (H:=holF l m) fun k hk=>by unfold holF updG;rw [if_neg (by omega)]]
 simp [holF,h,updG]
abbrev CpM:=(Gp×Gp)×(Nat→Gp×Gp)×(Gp×Gp)×(Nat→Gp)×(Gp×Gp)
def cpB4 (s k:Nat):Nat×Nat:=(4 * k + (13 + s),4 * k + (15 + s))
def cpB2 (N s k:Nat):Nat:=4 * N + 2 * k + (17 + s)
def cpL (s:Nat) (m:CpM) (c:Case):List DC:=[.vec (9 + s) m.1.1.1 0 c.p.n.reg.length,.vec (11 + s) m.1.2.1 0 c.p.n.notes.length,.vec (4 * c.p.n.reg.length + (13 + s)) m.2.2.1.1.1 0 c.p.holders.length,.vec (4 * c.p.n.reg.length + (15 + s)) m.2.2.1.2.1 0 c.p.prints.length,.im (rI c.machine),.im (rI c.of),.vec (4 * c.p.n.reg.length + 2 * c.p.holders.length + (17 + s)) m.2.2.2.2.1.1 0 c.loop.links.length,.im (rI c.loop.lo),.im (rI c.loop.hi),.vec (4 * c.p.n.reg.length + 2 * c.p.holders.length + (19 + s)) m.2.2.2.2.2.1 0 c.pieces.length]
def cpO (s:Nat) (m:CpM) (c:Case):List DObj:=.row (cpL s m c) :: .vec 0 [] 0 true :: .vec 0 [] 0 true :: .vec 0 [] 0 true :: .vec 0 [] 0 true :: .vec 0 [] 0 true :: .vec 0 [] 0 true :: .row (cpL s m c) :: .vec 5 [] 0 true :: .vec 5 (issE (cpB4 s) m.2.1 c.p.n.reg.length c.p.n.reg) m.1.1.1 m.1.1.2 :: .vec 10 [] 0 true :: .vec 10 (ims (c.p.n.notes.map encNote)) m.1.2.1 m.1.2.2 :: (flat4 (issF c.p.n.reg m.2.1) c.p.n.reg.length ++ .vec 4 [] 0 true :: .vec 4 (holE (cpB2 c.p.n.reg.length s) m.2.2.2.1 c.p.holders.length c.p.holders) m.2.2.1.1.1 m.2.2.1.1.2 :: .vec 7 [] 0 true :: .vec 7 (ims (c.p.prints.map encPrint)) m.2.2.1.2.1 m.2.2.1.2.2 :: (flat2 (holF c.p.holders m.2.2.2.1) c.p.holders.length ++ [.vec 3 [] 0 true,.vec 3 (ims (c.loop.links.map encLink)) m.2.2.2.2.1.1 m.2.2.2.2.1.2,.vec 4 [] 0 true,.vec 4 (ims (c.pieces.map encPiece)) m.2.2.2.2.2.1 m.2.2.2.2.2.2]))
theorem rn_ims0 (e:Nat→Nat) (l:List (List IC)):(ims l).map (rnL e)=ims l:=by
 unfold ims
 rw [List.map_map]
 exact List.map_congr_left fun x _=>rnL_im e x
theorem rn_issE (a s:Nat) (m:Nat→Gp×Gp) (i:Nat) (l:List Issue):(issE (cpB4 a) m i l).map (rnL fun o=>s + o)=issE (cpB4 (a + s)) m i l:=by
 apply List.ext_getElem?
 intro k
 simp only [issE,List.getElem?_map,List.getElem?_mapIdx]
 cases l[k]? with
 | none=>rfl
 | some x =>
   simp only [Option.map_some,issC]
   by_cases h:k < i
   ·rw [if_pos h,if_pos h]
    simp only [rnL,rnC,cpB4]
    rw [show s + (4 * k + (13 + a))=4 * k + (13 + (a + s)) by omega,show s + (4 * k + (15 + a))=4 * k + (15 + (a + s)) by omega]
   ·rw [if_neg h,if_neg h,rnL_im]
theorem rn_holE (N a s:Nat) (m:Nat→Gp) (i:Nat) (l:List Holder):(holE (cpB2 N a) m i l).map (rnL fun o=>s + o)=holE (cpB2 N (a + s)) m i l:=by
 apply List.ext_getElem?
 intro k
 simp only [holE,List.getElem?_map,List.getElem?_mapIdx]
 cases l[k]? with
 | none=>rfl
 | some x =>
   simp only [Option.map_some,holC]
   by_cases h:k < i
   ·rw [if_pos h,if_pos h]
    simp only [rnL,rnC,cpB2]
    rw [show s + (4 * N + 2 * k + (17 + a))=4 * N + 2 * k + (17 + (a + s)) by omega]
   ·rw [if_neg h,if_neg h,rnL_im]
theorem rn_cpL (a s:Nat) (m:CpM) (c:Case):rnL (fun o=>s + o) (cpL a m c)=cpL (a + s) m c:=by
 simp only [cpL,rnL,rnC]
 simp only [List.cons.injEq,DC.vec.injEq,and_true,true_and]
 omega
theorem rn_cpO (a s:Nat) (m:CpM) (c:Case):(cpO a m c).map (rnO fun o=>s + o)=cpO (a + s) m c:=by
 have h4:(flat4 (issF c.p.n.reg m.2.1) c.p.n.reg.length).map (rnO fun o=>s + o)=flat4 (issF c.p.n.reg m.2.1) c.p.n.reg.length:=by
  rw [flat4_map]
  refine flat4_congr fun k hk=>?_
  unfold issF
  rw [List.getElem?_eq_getElem hk]
  simp only [rnO,rn_ims0,List.map_nil]
 have h2:(flat2 (holF c.p.holders m.2.2.2.1) c.p.holders.length).map (rnO fun o=>s + o)=flat2 (holF c.p.holders m.2.2.2.1) c.p.holders.length:=by
  rw [flat2_map]
  refine flat2_congr fun k hk=>?_
  unfold holF
  rw [List.getElem?_eq_getElem hk]
  simp only [rnO,rn_ims0,List.map_nil]
 simp only [cpO,List.map_cons,List.map_append,List.map_nil,rnO,rn_cpL,rn_issE,rn_holE,rn_ims0,h4,h2]
theorem emb_nil0 (n:Nat):emb [] n=fun o=>n + o:=by
 funext o;simp [emb]
theorem mergeO_nil (objs o:List DObj):mergeO [] objs o=objs ++ o.map (rnO fun k=>objs.length + k):=by
 unfold mergeO
 rw [emb_nil0]
 simp [putO]
end Go.Ab
namespace Go.Proofs
open Go Go.Ab
set_option linter.unusedSimpArgs false
variable {G:Nat→Option (List IC)}
attribute [simp] permL reO cutL cutE gones noLoop nilV nilX ZK
set_option maxHeartbeats 4000000 in
theorem bCopied_c (c:Case) (hk:KC c):DCall Tryz.prog G 39 [casev c] [] (fun d o=>∃ m:CpM,True∧d=.agg (cpL 0 m c)∧o=cpO 0 m c):=by
 generalize hQ:(fun (d:DV) (o:List DObj)=>∃ m:CpM,True∧d=.agg (cpL 0 m c)∧o=cpO 0 m c)=Q
 refine DCall_intro Tryz.func39 rfl Tryz.ntmps39 (by simp) rfl ?_
 have c1:=cmIss (G:=G) c.p.n.reg (by have:=hk.p.n.1.1;omega)
 have c2:=cmNote (G:=G) c.p.n.notes (by have:=hk.p.n.2.1;omega)
 unfold CloneM at c1 c2
 simp only [List.length_map] at c1 c2
 simp only [casev]
 have hs:True:=trivial
 repeat' first|(with_reducible first|refine q01 ?_|refine q11 ?_|refine q12 ?_)|(refine CallE.embed_ex [] (c1) ?_ ?_ ?_ ?_ ?_ ?_;(focus (simp [emb];done));(focus (simp;done));(focus (simp;done));(focus (simp;done));(focus (refine emb_all ?_;simp [emb,embAll];done));intro mmA hmmA;try simp -dsimp [mergeO,emb,hs])|(refine CallE.embed_ex [] (c2) ?_ ?_ ?_ ?_ ?_ ?_;(focus (simp [emb];done));(focus (simp;done));(focus (simp;done));(focus (simp;done));(focus (refine emb_all ?_;simp [emb,embAll];done));intro mmB hmmB;try simp -dsimp [mergeO,emb,hs])|(refine DT_regionZc (id:=2) (nt:=117) [none,none,none,none,none,none,none,none,none,none,none,none,none,none,none,some [0],some [15],some [16],some [17],none,some [1],some [20],some [21],none] [0,1,2,3,4,5,6,7,9,10,11,12,13,15,16,17,18,20,21,22,8,14,19,23] 20 [([0,1,8,9,10,11,12,13,14,15,16,17,18,19],[0,1,2,3,4,5,6,15,36,37,38,85,86,87]),([0,1,13,14,15,16,17,18,19],[0,1,2,3,4,5,6,16,21,36,37,38,85,86,87]),([1,17,18,19],[0,1,2,3,4,5,6,16,22,26,36,37,38,85,86,87])] [0,1,2,3,4,5,6,36,37,38,85,86,87] mixed rfl (by kernel_rfl) (by kernel_rfl) (by kernel_rfl) ?_;simp -dsimp [hs])|(with_reducible refine DT_regionE [0,1,2,3,4,5,6,36,37,38,85,86,87] ?_;simp -dsimp [hs])
 all_goals try simp -dsimp [hs]
 all_goals try clear hs
 refine DT_loop (ι:={ q:Nat×(Nat→Gp×Gp) // q.1≤c.p.n.reg.length }) (fun q=>⟨117,[(1,.one (.ptr 0 0)),(2,.one (.ptr 7 0)),(3,.one (.ptr 0 0)),(36,iv (c.p.n.reg.length:Int)),(37,iv (q.1.1:Int))],.row [.vec 9 mmA.1 0 c.p.n.reg.length,.vec 11 mmB.1 0 c.p.n.notes.length,.im (.sl (c.p.holders.map encHolder)),.im (.sl (c.p.prints.map encPrint)),.im (rI c.machine),.im (rI c.of),.im (.sl (c.loop.links.map encLink)),.im (rI c.loop.lo),.im (rI c.loop.hi),.im (.sl (c.pieces.map encPiece))] :: .vec 0 [] 0 true :: .vec 0 [] 0 true :: .vec 0 [] 0 true :: .vec 0 [] 0 true :: .vec 0 [] 0 true :: .vec 0 [] 0 true :: .row [.vec 1 0 0 0,.vec 2 0 0 0,.vec 3 0 0 0,.vec 4 0 0 0,.im (rI 0),.im (rI 0),.vec 5 0 0 0,.im (rI 0),.im (rI 0),.vec 6 0 0 0] :: .vec 5 [] 0 true :: .vec 5 (issE (fun k=>(4 * k + 13,4 * k + 15)) q.1.2 q.1.1 c.p.n.reg) mmA.1 mmA.2 :: .vec 10 [] 0 true :: .vec 10 (ims (c.p.n.notes.map encNote)) mmB.1 mmB.2 :: flat4 (issF c.p.n.reg q.1.2) q.1.1⟩) (fun q=>c.p.n.reg.length - q.1.1) ⟨(0,fun _=>((0,false),(0,false))),by simp⟩ (Weak.of_keep [1,2,3,36,37] (by simp [issE_zero,flat4])) ?_
 rintro ⟨⟨i,m⟩,hi⟩
 simp only at hi
 simp only [iv,rI]
 by_cases hlt:i < c.p.n.reg.length
 ·have hw:IntKind.i64.wrap ((i:Int) + 1)=((i + 1:Nat):Int):=i64w (by omega) (by have:=hk.p.n.1.1;omega)
  have hx0:c.p.n.reg[i]?=some c.p.n.reg[i]:=by simp [hlt]
  have hxm:=hk.p.n.1.2 _ (List.mem_of_getElem? hx0)
  generalize c.p.n.reg[i]=x at *
  have c3:=cmItm (G:=G) x.items (by omega)
  have c4:=cmDim (G:=G) x.dims (by omega)
  unfold CloneM at c3 c4
  simp only [List.length_map] at c3 c4
  have hat:∀ h,(issE (fun k=>(4 * k + 13,4 * k + 15)) m i c.p.n.reg)[i]'h=(encIssue x).map .im:=fun h=>by
   have:=issE_at (b:=fun k=>(4 * k + 13,4 * k + 15)) (m:=m) hx0
   rw [List.getElem?_eq_getElem h] at this;exact Option.some.inj this
  simp only [encIssue,rI,List.map_cons,List.map_nil] at hat
  have hset:=fun g=>issE_set (b:=fun k=>(4 * k + 13,4 * k + 15)) (m:=m) hx0 g
  have hsuc:=fun g=>issF_succ (m:=m) hx0 g
  have hs:True:=trivial
  repeat' first|(with_reducible first|refine q01 ?_|refine q04 ?_|refine q11 ?_|refine q12 ?_|refine q14 ?_)|(refine CallE.embed_ex [] (c3) ?_ ?_ ?_ ?_ ?_ ?_;(focus (simp [emb];done));(focus (simp;done));(focus (simp;done));(focus (simp;done));(focus (refine emb_all ?_;simp [emb,embAll];done));intro mmC hmmC;try simp -dsimp [mergeO,emb,hlt,hw,hat,hs])|(refine CallE.embed_ex [] (c4) ?_ ?_ ?_ ?_ ?_ ?_;(focus (simp [emb];done));(focus (simp;done));(focus (simp;done));(focus (simp;done));(focus (refine emb_all ?_;simp [emb,embAll];done));intro mmD hmmD;try simp -dsimp [mergeO,emb,hlt,hw,hat,hs])|(refine DT_regionZc (id:=7) (nt:=117) [none,none,none,none,none,none,none,none,none,none,none,none,some [0],some [12],none,some [1],some [15],none] [0,1,2,3,4,5,7,8,9,10,12,13,15,16,6,11,14,17] 14 [([0,1,6,7,8,9,10,11,12,13],[0,1,2,3,4,5,6,36,37,38,53,85,86,87]),([0,1,10,11,12,13],[0,1,2,3,4,5,6,36,37,38,54,58,85,86,87]),([1,12,13],[0,1,2,3,4,5,6,36,37,38,54,59,61,85,86,87])] [0,1,2,3,4,5,6,36,37,38,85,86,87] mixed rfl (by kernel_rfl) (by kernel_rfl) (by kernel_rfl) ?_;simp -dsimp [hlt,hw,hat,hs])|(with_reducible refine DT_regionE [0,1,2,3,4,5,6,36,37,38,85,86,87] ?_;simp -dsimp [hlt,hw,hat,hs])|(refine DT_cond rfl (fun h=>?_) (fun h=>?_)<;>(try simp only [nrm] at h)<;>(try exact Bool.noConfusion h))
  all_goals try simp -dsimp [hlt,hw,hat,hs]
  all_goals try clear hs
  refine At.round ⟨(i + 1,updG m i (mmC,mmD)),by simp only;omega⟩ (by simp only;omega) (Weak.of_keep [1,2,3,36,37] ?_)
  rw [← hset (mmC,mmD),hsuc (mmC,mmD)]
  simp
 ·obtain rfl:i=c.p.n.reg.length:=by omega
  have c5:=cmHold (G:=G) c.p.holders (by have:=hk.p.p.h;omega)
  have c6:=cmPrint (G:=G) c.p.prints (by have:=hk.p.p.q;omega)
  unfold CloneM at c5 c6
  simp only [List.length_map] at c5 c6
  have hs:True:=trivial
  repeat' first|(with_reducible first|refine q01 ?_|refine q03 ?_|refine q06 ?_|refine q11 ?_|refine q12 ?_|refine q16 ?_)|(refine CallE.embed_ex [] (c5) ?_ ?_ ?_ ?_ ?_ ?_;(focus (simp [emb];done));(focus (simp;done));(focus (simp;done));(focus (simp;done));(focus (refine emb_all ?_;simp [emb,embAll];done));intro mmE hmmE;try simp -dsimp [mergeO,emb,hlt,hs])|(refine CallE.embed_ex [] (c6) ?_ ?_ ?_ ?_ ?_ ?_;(focus (simp [emb];done));(focus (simp;done));(focus (simp;done));(focus (simp;done));(focus (refine emb_all ?_;simp [emb,embAll];done));intro mmF hmmF;try simp -dsimp [mergeO,emb,hlt,hs])|(refine DT_regionZc (id:=9) (nt:=117) [none,none,none,none,none,none,none,none,none,none,none,none,some [0],some [12],none,some [1],some [15],none] [0,1,2,3,4,5,7,8,9,10,12,13,15,16,6,11,14,17] 14 [([0,1,6,7,8,9,10,11,12,13],[0,1,2,3,4,5,6,36,37,38,70,85,86,87]),([0,1,10,11,12,13],[0,1,2,3,4,5,6,36,37,38,71,75,85,86,87]),([1,12,13],[0,1,2,3,4,5,6,36,37,38,71,76,78,85,86,87])] [0,1,2,3,4,5,6,36,37,38,85,86,87] mixed rfl (by kernel_rfl) (by kernel_rfl) (by kernel_rfl) ?_;simp -dsimp [hlt,hs])|(with_reducible refine DT_regionE [0,1,2,3,4,5,6,36,37,38,85,86,87] ?_;simp -dsimp [hlt,hs])|(refine DT_cond rfl (fun h=>?_) (fun h=>?_)<;>(try simp only [nrm] at h)<;>(try exact Bool.noConfusion h))
  all_goals try simp -dsimp [hlt,hs]
  all_goals try clear hs
  clear hlt hi
  generalize hN:c.p.n.reg.length=N at *
  refine DT_loop (ι:={ q:Nat×(Nat→Gp) // q.1≤c.p.holders.length }) (fun q=>⟨117,[(1,.one (.ptr 0 0)),(2,.one (.ptr 7 0)),(3,.one (.ptr 0 0)),(85,iv (c.p.holders.length:Int)),(86,iv (q.1.1:Int))],.row [.vec 9 mmA.1 0 N,.vec 11 mmB.1 0 c.p.n.notes.length,.vec (4 * N + 13) mmE.1 0 c.p.holders.length,.vec (4 * N + 15) mmF.1 0 c.p.prints.length,.im (rI c.machine),.im (rI c.of),.im (.sl (c.loop.links.map encLink)),.im (rI c.loop.lo),.im (rI c.loop.hi),.im (.sl (c.pieces.map encPiece))] :: .vec 0 [] 0 true :: .vec 0 [] 0 true :: .vec 0 [] 0 true :: .vec 0 [] 0 true :: .vec 0 [] 0 true :: .vec 0 [] 0 true :: .row [.vec 1 0 0 0,.vec 2 0 0 0,.vec 3 0 0 0,.vec 4 0 0 0,.im (rI 0),.im (rI 0),.vec 5 0 0 0,.im (rI 0),.im (rI 0),.vec 6 0 0 0] :: .vec 5 [] 0 true :: .vec 5 (issE (fun k=>(4 * k + 13,4 * k + 15)) m N c.p.n.reg) mmA.1 mmA.2 :: .vec 10 [] 0 true :: .vec 10 (ims (c.p.n.notes.map encNote)) mmB.1 mmB.2 :: (flat4 (issF c.p.n.reg m) N ++ .vec 4 [] 0 true :: .vec 4 (holE (fun k=>4 * N + 2 * k + 17) q.1.2 q.1.1 c.p.holders) mmE.1 mmE.2 :: .vec 7 [] 0 true :: .vec 7 (ims (c.p.prints.map encPrint)) mmF.1 mmF.2 :: flat2 (holF c.p.holders q.1.2) q.1.1)⟩) (fun q=>c.p.holders.length - q.1.1) ⟨(0,fun _=>(0,false)),by simp⟩ (Weak.of_keep [1,2,3,85,86] (by simp [holE_zero,flat2])) ?_
  rintro ⟨⟨i,m2⟩,hi⟩
  simp only at hi
  simp only [iv,rI]
  by_cases hlt:i < c.p.holders.length
  ·have hw:IntKind.i64.wrap ((i:Int) + 1)=((i + 1:Nat):Int):=i64w (by omega) (by have:=hk.p.p.h;omega)
   have hx0:c.p.holders[i]?=some c.p.holders[i]:=by simp [hlt]
   have hxm:=hk.p.p.d _ (List.mem_of_getElem? hx0)
   generalize c.p.holders[i]=x at *
   have c3:=cmInt (G:=G) x.draws (by omega)
   unfold CloneM at c3
   simp only [List.length_map] at c3
   have hat:∀ h,(holE (fun k=>4 * N + 2 * k + 17) m2 i c.p.holders)[i]'h=(encHolder x).map .im:=fun h=>by
    have:=holE_at (b:=fun k=>4 * N + 2 * k + 17) (m:=m2) hx0
    rw [List.getElem?_eq_getElem h] at this;exact Option.some.inj this
   simp only [encHolder,rI,List.map_cons,List.map_nil] at hat
   have hset:=fun g=>holE_set (b:=fun k=>4 * N + 2 * k + 17) (m:=m2) hx0 g
   have hsuc:=fun g=>holF_succ (m:=m2) hx0 g
   have hs:True:=trivial
   repeat' first|(with_reducible first|refine q01 ?_|refine q04 ?_|refine q11 ?_|refine q12 ?_|refine q14 ?_)|(refine CallE.embed_ex [] (c3) ?_ ?_ ?_ ?_ ?_ ?_;(focus (simp [emb];done));(focus (simp;done));(focus (simp;done));(focus (simp;done));(focus (refine emb_all ?_;simp [emb,embAll];done));intro mmC hmmC;try simp -dsimp [mergeO,emb,hlt,hw,hat,hs])|(refine DT_regionZc (id:=13) (nt:=117) [none,none,none,none,none,none,none,none,none,none,none,none,none,none,some [3,4],some [14],none] [0,1,2,3,4,5,6,7,8,9,10,11,12,14,15,13,16] 15 [([0,1,2,3,4,13,14],[0,1,2,3,4,5,6,36,37,38,85,86,87,101])] [0,1,2,3,4,5,6,36,37,38,85,86,87] mixed rfl (by kernel_rfl) (by kernel_rfl) (by kernel_rfl) ?_;simp -dsimp [hlt,hw,hat,hs])|(with_reducible refine DT_regionE [0,1,2,3,4,5,6,36,37,38,85,86,87] ?_;simp -dsimp [hlt,hw,hat,hs])|(refine DT_cond rfl (fun h=>?_) (fun h=>?_)<;>(try simp only [nrm] at h)<;>(try exact Bool.noConfusion h))
   all_goals try simp -dsimp [hlt,hw,hat,hs]
   all_goals try clear hs
   refine At.round ⟨(i + 1,updG m2 i mmC),by simp only;omega⟩ (by simp only;omega) (Weak.of_keep [1,2,3,85,86] ?_)
   rw [← hset mmC,hsuc mmC]
   simp
   refine congrArg (fun a=>(holE (fun k=>4 * N + 2 * k + 17) m2 i c.p.holders).set i [_,_,_,DC.vec a _ _ _]) ?_
   omega
  ·obtain rfl:i=c.p.holders.length:=by omega
   have c7:=cmLink (G:=G) c.loop.links (by have:=hk.l;omega)
   have c8:=cmPiece (G:=G) c.pieces (by have:=hk.q;omega)
   unfold CloneM at c7 c8
   simp only [List.length_map] at c7 c8
   have hs:True:=trivial
   repeat' first|(with_reducible first|refine q01 ?_|refine q03 ?_|refine q06 ?_|refine q11 ?_|refine q16 ?_|refine q17 ?_)|(with_reducible refine At.fn_ret (by simp -dsimp [hlt,hs];exact rfl) ?_)|(refine CallE.embed_ex [] (c7) ?_ ?_ ?_ ?_ ?_ ?_;(focus (simp [emb];done));(focus (simp;done));(focus (simp;done));(focus (simp;done));(focus (refine emb_all ?_;simp [emb,embAll];done));intro mmG hmmG;try simp -dsimp [mergeO,emb,hlt,hs])|(refine CallE.embed_ex [] (c8) ?_ ?_ ?_ ?_ ?_ ?_;(focus (simp [emb];done));(focus (simp;done));(focus (simp;done));(focus (simp;done));(focus (refine emb_all ?_;simp [emb,embAll];done));intro mmH hmmH;try simp -dsimp [mergeO,emb,hlt,hs])|(refine DT_regionZc (id:=15) (nt:=117) [none,none,none,none,none,none,none,some [],some [7],none,some [],none] [0,1,2,4,5,7,8,10,3,6,9,11] 8 [([3,4,5,6,7],[0,1,2,3,4,5,6,36,37,38,85,86,87,108]),([5,6,7],[0,1,2,3,4,5,6,36,37,38,85,86,87,109,111]),([7],[0,1,2,3,4,5,6,36,37,38,85,86,87,109,112,114])] [0,1,2,3,4,5,6,36,37,38,85,86,87] mixed rfl (by kernel_rfl) (by kernel_rfl) (by kernel_rfl) ?_;simp -dsimp [hlt,hs])|(with_reducible refine DT_regionE [0,1,2,3,4,5,6,36,37,38,85,86,87] ?_;simp -dsimp [hlt,hs])|(refine DT_cond rfl (fun h=>?_) (fun h=>?_)<;>(try simp only [nrm] at h)<;>(try exact Bool.noConfusion h))
   all_goals try simp -dsimp [hlt,hs]
   all_goals try clear hs
   subst hQ
   refine ⟨((mmA,mmB),m,(mmE,mmF),m2,(mmG,mmH)),trivial,?_,?_⟩
   ·simp only [cpL,hN,DV.agg.injEq,List.cons.injEq,DC.vec.injEq,and_true,true_and,Nat.add_zero]
    exact ⟨rfl,rfl,by omega,rfl,rfl,by omega⟩
   ·simp only [cpO,cpL,hN,List.cons.injEq,DObj.row.injEq,DC.vec.injEq,and_true,true_and,Nat.add_zero]
    exact ⟨⟨rfl,rfl,by omega,rfl,rfl,by omega⟩,⟨rfl,rfl,by omega,rfl,rfl,by omega⟩,rfl,rfl⟩
end Go.Proofs
namespace Go.Proofs
open Go Go.Ab
set_option linter.unusedSimpArgs false
variable {G:Nat→Option (List IC)}
def msP (x:Piece) (lo hi:Int):Piece:=⟨x.holder,x.day,lo,hi⟩
def msC (c:Case) (k:Nat) (x:Piece) (lo hi:Int):Case:={ c with pieces:=c.pieces.set k (msP x lo hi) }
noncomputable def msE (c:Case) (n lo hi:Int):Int:=if letE c n≠0 then letE c n else match c.pieces[n.toNat]? with
 | some x=>if insB lo hi x.lo x.hi=true then 0 else 2
 | none=>2
theorem msE_yes {c:Case} {n lo hi:Int} (h:msE c n lo hi=0):caseE c=0∧∃ (k:Nat) (x:Piece),n=(k:Int)∧c.pieces[k]?=some x∧insB lo hi x.lo x.hi=true:=by
 unfold msE at h
 by_cases h0:letE c n=0
 ·rw [if_neg (by simp [h0])] at h
  obtain ⟨he,hn0,hn1⟩:=letE_yes h0
  obtain ⟨k,rfl⟩:=Int.eq_ofNat_of_zero_le hn0
  rw [Int.toNat_natCast] at h
  cases hx:c.pieces[k]? with
  | none=>rw [hx] at h;simp at h
  | some x =>
    rw [hx] at h
    simp only at h
    by_cases hi':insB lo hi x.lo x.hi=true
    ·exact ⟨he,k,x,rfl,hx,hi'⟩
    ·rw [if_neg hi'] at h;exact absurd h (by decide)
 ·rw [if_pos (by exact h0)] at h;exact absurd h h0
def meO (s:Nat) (m:CpM) (c:Case) (lo hi:Int):List DObj:=.row (cpL (9 + s) m c) :: .row [.im (rI lo),.im (rI hi)] :: .vec 0 [] 0 true :: .vec 0 [] 0 true :: .vec 0 [] 0 true :: .vec 0 [] 0 true :: .vec 0 [] 0 true :: .vec 0 [] 0 true :: .row (cpL (9 + s) m c) :: cpO (9 + s) m c
theorem rn_meO (s:Nat) (m:CpM) (c:Case) (lo hi:Int):(meO 0 m c lo hi).map (rnO fun o=>s + o)=meO s m c lo hi:=by
 simp only [meO,List.map_cons,rnO,rn_cpL,rn_cpO,rnL,rnC,List.map_nil,Nat.add_zero]
theorem ms_set {l:List Piece} {k:Nat} {x:Piece} (lo hi:Int) (h:l[k]?=some x):(ims (l.map encPiece)).set k [.im (.raw (.int .i64 x.holder)),.im (.raw (.int .i64 x.day)),.im (.raw (.int .i64 lo)),.im (.raw (.int .i64 hi))]=ims ((l.set k (msP x lo hi)).map encPiece):=by
 rw [List.map_set]
 unfold ims
 rw [List.map_set]
 rfl
set_option maxHeartbeats 4000000 in
theorem bMeas_ok (c:Case) (k:Nat) (x:Piece) (lo hi:Int) (hx0:c.pieces[k]?=some x) (h0:caseE c=0) (hin:insB lo hi x.lo x.hi=true) (hG:sheetG G) (hN:noteG G) (hS:SortOk G) (hR:recallG G) (hk:KC c):DCall Tryz.prog G 19 [casev c,iv (k:Int),refv lo hi] [] (fun d o=>∃ m:CpM,True∧d=.tup [.agg (cpL 9 m (msC c k x lo hi)),iv 0]∧o=meO 0 m (msC c k x lo hi) lo hi):=by
 generalize hQ:(fun (d:DV) (o:List DObj)=>∃ m:CpM,True∧d=.tup [.agg (cpL 9 m (msC c k x lo hi)),iv 0]∧o=meO 0 m (msC c k x lo hi) lo hi)=Q
 refine DCall_intro Tryz.func19 rfl Tryz.ntmps19 (by simp) rfl ?_
 have hlt:k < c.pieces.length:=lt_of_getElem? hx0
 have hx:c.pieces[k]=x:=(List.getElem?_eq_some_iff.1 hx0).2
 have hq16:=hk.q
 have c1:=bCheck_c (G:=G) c hG hN hS hR hk
 rw [h0] at c1
 have c2:=in_blame (G:=G) 0 ((c.pieces.length:Int) - 1) [(k:Int)] (by simp)
 rw [show ([(k:Int)].all fun y=>decide (0≤y) && decide (y≤(c.pieces.length:Int) - 1))=true by simp;omega] at c2
 have c3:=inside_c (G:=G) lo hi x.lo x.hi
 rw [hin] at c3
 have hw:IntKind.i64.wrap ((c.pieces.length:Int) - 1)=(c.pieces.length:Int) - 1:=i64w (by omega) (by omega)
 have c4:=bCopied_c (G:=G) c hk
 simp only [casev,encCase,refv] at c1 c3 c4 ⊢
 have hs:True:=trivial
 repeat' first|(with_reducible first|refine q01 ?_|refine q11 ?_|refine q14 ?_|refine q17 ?_)|(with_reducible refine At.fn_ret (by simp -dsimp [hx,hlt,hw,hs];exact rfl) ?_)|(refine CallE.pure (c1) ?_;try simp -dsimp [hx,hlt,hw,hs])|(refine QCall_pure (c2) ?_;try simp -dsimp [hx,hlt,hw,hs])|(refine QCall_pure (c3) ?_;try simp -dsimp [hx,hlt,hw,hs])|(refine CallE.embed_ex [] c4 ?_ ?_ ?_ ?_ ?_ ?_;(focus (simp [emb];done));(focus (simp;done));(focus (simp;done));(focus (simp;done));(focus (refine emb_all ?_;simp [emb,embAll];done));intro mmA hmmA;(try simp only [mergeO_nil,emb_nil0,rnV,rn_cpL,rn_cpO,Nat.zero_add]);try simp -dsimp [cpL,cpO];try simp -dsimp [hx,hlt,hw,hs])|(refine DT_regionM (id:=4) (nt:=52) 27 [0,1,2,3,5,6,7,8,12,41] mixed rfl (by kernel_rfl) ?_;simp -dsimp [hx,hlt,hw,hs])|(with_reducible refine DT_regionE [0,1,2,3,5,6,7,8,12,41] ?_;simp -dsimp [hx,hlt,hw,hs])|(refine DT_cond rfl (fun h=>?_) (fun h=>?_)<;>(try simp only [nrm] at h)<;>(try exact Bool.noConfusion h))
 all_goals try simp -dsimp [hx,hlt,hw,hs]
 all_goals try clear hs
 subst hQ
 have hst:=ms_set lo hi hx0
 refine ⟨mmA,trivial,?_,?_⟩
 ·simp [cpL,msC]
 ·simp [meO,cpO,cpL,msC,hst]
end Go.Proofs
namespace Go.Proofs
open Go Go.Ab
set_option linter.unusedSimpArgs false
variable {G:Nat→Option (List IC)}
def twL (c:Case):List DC:=[.im (.sl (c.p.n.reg.map encIssue)),.im (.sl (c.p.n.notes.map encNote)),.im (.sl (c.p.holders.map encHolder)),.im (.sl (c.p.prints.map encPrint)),.im (.raw (.int .i64 c.machine)),.im (.raw (.int .i64 c.of)),.im (.sl (c.loop.links.map encLink)),.im (.raw (.int .i64 c.loop.lo)),.im (.raw (.int .i64 c.loop.hi)),.vec 8 1 0 c.pieces.length]
theorem twin10M (c:Case) (hs:SmallK c):DCall Tryz.prog G 6 [casev c] [] (fun d o=>d=.agg (twL c)∧o=[.row (twL c),.vec 0 [] 0 true,.vec 0 [] 0 true,.vec 0 [] 0 true,.vec 0 [] 0 true,.vec 0 [] 0 true,.vec 0 [] 0 true,.row (twL c),.vec 4 (ims (c.pieces.map encPiece)) 1 false]):=by
 refine DCall_intro Tryz.func6 rfl Tryz.ntmps6 (by simp) rfl ?_
 have c1:=twin7_c (G:=G) c.p hs.1
 have hl:=hs.2.1
 have hq:=hs.2.2
 simp only [printsv,encPrints] at c1
 simp only [casev]
 have hs:True:=trivial
 repeat' first|(with_reducible first|refine q01 ?_|refine q11 ?_|refine q17 ?_|refine And.intro (by omega) ?_)|(with_reducible refine At.fn_ret (by simp -dsimp [hs];exact rfl) ?_)|(refine CallE.pure (c1) ?_;try simp -dsimp [hs])|(refine DT_regionZ (id:=2) (nt:=20) [0,1,2,3,4,6,7,9,10,5,8,11,12,13] 9 [([0,1,2,3,4,5,6,7,8],[0,1,2]),([7,8],[0,1,2,11,12,14])] [0,1,2] mixed rfl (by kernel_rfl) (by kernel_rfl) ?_;simp -dsimp [hs])|(with_reducible refine DT_regionE [0,1,2] ?_;simp -dsimp [hs])|with_reducible refine And.intro ?_ ?_
 all_goals try simp -dsimp [hs]
 all_goals try clear hs
 all_goals simp [twL]
def zCase:Case:=⟨⟨⟨[],[]⟩,[],[]⟩,0,0,⟨[],0,0⟩,[]⟩
noncomputable def msO (c:Case) (n lo hi:Int):Case:=if msE c n lo hi=0 then (match c.pieces[n.toNat]? with|some x=>msC c n.toNat x lo hi|none=>zCase) else zCase
theorem msO_yes {c:Case} {k:Nat} {x:Piece} {lo hi:Int} (h:msE c (k:Int) lo hi=0) (hx:c.pieces[k]?=some x):msO c (k:Int) lo hi=msC c k x lo hi:=by
 unfold msO;rw [if_pos h,Int.toNat_natCast,hx]
theorem msO_no {c:Case} {n lo hi:Int} (h:¬ msE c n lo hi=0):msO c n lo hi=zCase:=by
 unfold msO;rw [if_neg h]
theorem msE_at {c:Case} {k:Nat} {x:Piece} (lo hi:Int) (h0:caseE c=0) (hx:c.pieces[k]?=some x):msE c (k:Int) lo hi=if insB lo hi x.lo x.hi=true then 0 else 2:=by
 have hlt:=lt_of_getElem? hx
 have h1:letE c (k:Int)=0:=by unfold letE;rw [if_neg (by simp [h0]),if_pos (by omega)]
 unfold msE
 rw [if_neg (by simp [h1]),Int.toNat_natCast,hx]
theorem msE_out {c:Case} {n:Int} (lo hi:Int) (h0:caseE c=0) (hn:¬ (0≤n∧n < c.pieces.length)):msE c n lo hi=2:=by
 have h1:letE c n=2:=by unfold letE;rw [if_neg (by simp [h0]),if_neg hn]
 unfold msE
 rw [if_pos (by rw [h1];decide),h1]
theorem msE_bad {c:Case} (n lo hi:Int) (h0:¬ caseE c=0):msE c n lo hi=caseE c:=by
 have h1:letE c n=caseE c:=by unfold letE;rw [if_pos h0]
 unfold msE
 rw [if_pos (by rw [h1];exact h0),h1]
set_option maxHeartbeats 4000000 in
theorem bMeas_no (c:Case) (n lo hi:Int) (h:¬ msE c n lo hi=0) (hG:sheetG G) (hN:noteG G) (hS:SortOk G) (hR:recallG G) (hk:KC c) (objs:List DObj):DCall Tryz.prog G 19 [casev c,iv n,refv lo hi] objs (fun rr objs'=>rr=.tup [casev zCase,iv (msE c n lo hi)]∧objs'=objs):=by
 refine DCall.frame ?_ (by simp) (by simp) objs
 refine DCall_intro Tryz.func19 rfl Tryz.ntmps19 (by simp) rfl ?_
 try simp only [iv,refv]
 have c1:=bCheck_c (G:=G) c hG hN hS hR hk
 have hq16:=hk.q
 simp only [casev,encCase,refv] at c1 ⊢
 by_cases h0:caseE c=0
 ·rw [h0] at c1
  have hw:IntKind.i64.wrap ((c.pieces.length:Int) - 1)=(c.pieces.length:Int) - 1:=i64w (by omega) (by omega)
  have c2:=in_blame (G:=G) 0 ((c.pieces.length:Int) - 1) [n] (by simp)
  by_cases hn:0≤n∧n < c.pieces.length
  ·obtain ⟨k,rfl⟩:=Int.eq_ofNat_of_zero_le hn.1
   have hlt:k < c.pieces.length:=by omega
   have hx0:c.pieces[k]?=some c.pieces[k]:=by simp [hlt]
   have hE:=msE_at lo hi h0 hx0
   generalize hx:c.pieces[k]=x at *
   have c3:=inside_c (G:=G) lo hi x.lo x.hi
   rw [show ([(k:Int)].all fun y=>decide (0≤y) && decide (y≤(c.pieces.length:Int) - 1))=true by simp;omega] at c2
   have hin:insB lo hi x.lo x.hi=false:=by
    cases hb:insB lo hi x.lo x.hi
    ·rfl
    ·rw [hb,if_pos rfl] at hE;exact absurd hE h
   rw [hin,if_neg (by decide)] at hE
   rw [hin] at c3
   rw [hE]
   simp only [refv] at c3
   have hs:True:=trivial
   repeat' first|(with_reducible first|refine q01 ?_|refine q02 ?_|refine q11 ?_|refine q14 ?_|refine q17 ?_)|(with_reducible refine At.fn_ret (by simp -dsimp [hx,hlt,hw,hs];exact rfl) ?_)|(refine CallE.pure (c1) ?_;try simp -dsimp [hx,hlt,hw,hs])|(refine QCall_pure (c2) ?_;try simp -dsimp [hx,hlt,hw,hs])|(refine QCall_pure (c3) ?_;try simp -dsimp [hx,hlt,hw,hs])|(refine DT_regionM (id:=4) (nt:=52) 27 [0,1,2,3,5,6,7,8,12,41] mixed rfl (by kernel_rfl) ?_;simp -dsimp [hx,hlt,hw,hs])|(with_reducible refine DT_regionE [0,1,2,3,5,6,7,8,12,41] ?_;simp -dsimp [hx,hlt,hw,hs])|(refine DT_cond rfl (fun h=>?_) (fun h=>?_)<;>(try simp only [nrm] at h)<;>(try exact Bool.noConfusion h))
   all_goals try simp -dsimp [hx,hlt,hw,hs]
   all_goals try clear hs
   all_goals simp [zCase]
  ·have hE:=msE_out lo hi h0 hn
   rw [show ([n].all fun y=>decide (0≤y) && decide (y≤(c.pieces.length:Int) - 1))=false by simp;omega] at c2
   rw [hE]
   have hs:True:=trivial
   repeat' first|(with_reducible first|refine q01 ?_|refine q02 ?_|refine q11 ?_|refine q14 ?_|refine q17 ?_)|(with_reducible refine At.fn_ret (by simp -dsimp [hw,hs];exact rfl) ?_)|(refine CallE.pure (c1) ?_;try simp -dsimp [hw,hs])|(refine QCall_pure (c2) ?_;try simp -dsimp [hw,hs])|(refine DT_regionM (id:=4) (nt:=52) 27 [0,1,2,3,5,6,7,8,12,41] mixed rfl (by kernel_rfl) ?_;simp -dsimp [hw,hs])|(with_reducible refine DT_regionE [0,1,2,3,5,6,7,8,12,41] ?_;simp -dsimp [hw,hs])|(refine DT_cond rfl (fun h=>?_) (fun h=>?_)<;>(try simp only [nrm] at h)<;>(try exact Bool.noConfusion h))
   all_goals try simp -dsimp [hw,hs]
   all_goals try clear hs
   all_goals simp [zCase]
 ·have hE:=msE_bad n lo hi h0
  rw [hE]
  have hs:True:=trivial
  repeat' first|(with_reducible first|refine q01 ?_|refine q02 ?_|refine q11 ?_|refine q17 ?_)|(with_reducible refine At.fn_ret (by simp -dsimp [h0,hs];exact rfl) ?_)|(refine CallE.pure (c1) ?_;try simp -dsimp [h0,hs])|(with_reducible refine DT_regionE [0,1,2,3,5,6,7,8,12,41] ?_;simp -dsimp [h0,hs])|(refine DT_cond rfl (fun h=>?_) (fun h=>?_)<;>(try simp only [nrm] at h)<;>(try exact Bool.noConfusion h))
  all_goals try simp -dsimp [h0,hs]
  all_goals try clear hs
  all_goals simp [zCase]
set_option maxHeartbeats 4000000 in
theorem rMeas_c (c:Case) (n lo hi:Int) (hs:SmallK c) (hk:KC c) (objs:List DObj):DCall Tryz.prog G 20 [casev c,iv n,refv lo hi] objs (fun rr objs'=>rr=.tup [casev (msO c n lo hi),iv (msE c n lo hi)]∧objs'=objs):=by
 refine DCall.frame ?_ (by simp) (by simp) objs
 refine DCall_intro Tryz.func20 rfl Tryz.ntmps20 (by simp) rfl ?_
 try simp only [iv,refv]
 have c1:=rBCheck_c (G:=G) c hk
 have hq16:=hk.q
 simp only [casev,encCase,refv] at c1 ⊢
 by_cases h0:caseE c=0
 ·rw [h0] at c1
  have hw:IntKind.i64.wrap ((c.pieces.length:Int) - 1)=(c.pieces.length:Int) - 1:=i64w (by omega) (by omega)
  have c2:=within10_c (G:=G) n 0 ((c.pieces.length:Int) - 1)
  by_cases hn:0≤n∧n < c.pieces.length
  ·obtain ⟨k,rfl⟩:=Int.eq_ofNat_of_zero_le hn.1
   have hlt:k < c.pieces.length:=by omega
   have hx0:c.pieces[k]?=some c.pieces[k]:=by simp [hlt]
   have hE:=msE_at lo hi h0 hx0
   have hO:=fun h=>msO_yes (c:=c) (lo:=lo) (hi:=hi) h hx0
   have hOn:=fun h=>msO_no (c:=c) (n:=(k:Int)) (lo:=lo) (hi:=hi) h
   have hst:=ms_set lo hi hx0
   have c4:=twin10M (G:=G) c hs
   generalize hx:c.pieces[k]=x at *
   rw [show (decide (0≤(k:Int)) && decide ((k:Int)≤(c.pieces.length:Int) - 1))=true by simp;omega] at c2
   have hs:True:=trivial
   cases hin:insB lo hi x.lo x.hi
   ·rw [hin,if_neg (by decide)] at hE
    rw [hOn (by rw [hE];decide),hE]
    have hcs:(hi < lo∧True∧True)∨(¬ hi < lo∧lo < x.lo∧True)∨(¬ hi < lo∧¬ lo < x.lo∧x.hi < hi):=by
     simp only [insB,decide_eq_false_iff_not] at hin
     by_cases g1:hi < lo
     ·exact .inl ⟨g1,trivial,trivial⟩
     ·by_cases g2:lo < x.lo
      ·exact .inr (.inl ⟨g1,g2,trivial⟩)
      ·exact .inr (.inr ⟨g1,g2,by omega⟩)
    rcases hcs with ⟨g1,g2,g3⟩|⟨g1,g2,g3⟩|⟨g1,g2,g3⟩
    all_goals
     have hs:True:=trivial
     repeat' first|(with_reducible first|refine q01 ?_|refine q02 ?_|refine q11 ?_|refine q14 ?_|refine q17 ?_)|(with_reducible refine At.fn_ret (by simp -dsimp [hx,hlt,hw,g1,g2,g3,hs];exact rfl) ?_)|(refine CallE.pure (c1) ?_;try simp -dsimp [hx,hlt,hw,g1,g2,g3,hs])|(refine QCall_pure (c2) ?_;try simp -dsimp [hx,hlt,hw,g1,g2,g3,hs])|(refine DT_regionM (id:=4) (nt:=64) 38 [0,1,2,3,5,6,7,8,9,13,53] mixed rfl (by kernel_rfl) ?_;simp -dsimp [hx,hlt,hw,g1,g2,g3,hs])|(with_reducible refine DT_regionE [0,1,2,3,5,6,7,8,9,13,53] ?_;simp -dsimp [hx,hlt,hw,g1,g2,g3,hs])|(refine DT_cond rfl (fun h=>?_) (fun h=>?_)<;>(try simp only [nrm] at h)<;>(try exact Bool.noConfusion h))
     all_goals try simp -dsimp [hx,hlt,hw,g1,g2,g3,hs]
     all_goals try clear hs
    all_goals simp [zCase]
   ·rw [hin,if_pos rfl] at hE
    rw [hO hE,hE]
    have g1:¬ hi < lo:=by simp only [insB,decide_eq_true_eq] at hin;omega
    have g2:¬ lo < x.lo:=by simp only [insB,decide_eq_true_eq] at hin;omega
    have g3:¬ x.hi < hi:=by simp only [insB,decide_eq_true_eq] at hin;omega
    simp only [casev,encCase,twL] at c4
    obtain ⟨L,hL⟩:∃ L,L=(c.pieces.set k (msP x lo hi)).map encPiece:=⟨_,rfl⟩
    have hM:(msC c k x lo hi).pieces.map encPiece=L:=hL.symm
    rw [← hL] at hst
    have htk:List.take c.pieces.length (ims L)=ims L:=List.take_of_length_le (by simp [ims,hL])
    rw [hM]
    clear hL hM
    have hs:True:=trivial
    repeat' first|(with_reducible first|refine q01 ?_|refine q11 ?_|refine q14 ?_|refine q17 ?_)|(with_reducible refine At.fn_ret (by simp -dsimp [hx,hlt,hw,g1,g2,g3,hs];exact rfl) ?_)|(refine CallE.pure (c1) ?_;try simp -dsimp [hx,hlt,hw,g1,g2,g3,hs])|(refine QCall_pure (c2) ?_;try simp -dsimp [hx,hlt,hw,g1,g2,g3,hs])|(refine CallE.embed [] (c4) ?_ ?_ ?_ ?_ ?_ ?_;(focus (simp [emb];done));(focus (simp;done));(focus (simp;done));(focus (simp;done));(focus (refine emb_all ?_;simp [emb,embAll];done));try simp -dsimp [mergeO,emb,hx,hlt,hw,g1,g2,g3,hs])|(refine DT_regionM (id:=4) (nt:=64) 38 [0,1,2,3,5,6,7,8,9,13,53] mixed rfl (by kernel_rfl) ?_;simp -dsimp [hx,hlt,hw,g1,g2,g3,hs])|(with_reducible refine DT_regionE [0,1,2,3,5,6,7,8,9,13,53] ?_;simp -dsimp [hx,hlt,hw,g1,g2,g3,hs])|(refine DT_cond rfl (fun h=>?_) (fun h=>?_)<;>(try simp only [nrm] at h)<;>(try exact Bool.noConfusion h))
    all_goals try simp -dsimp [hx,hlt,hw,g1,g2,g3,hs]
    all_goals try clear hs
    all_goals simp -dsimp only [hst]
    all_goals simp [htk,msC]
  ·have hE:=msE_out lo hi h0 hn
   rw [show (decide (0≤n) && decide (n≤(c.pieces.length:Int) - 1))=false by simp;omega] at c2
   rw [msO_no (by rw [hE];decide),hE]
   have hs:True:=trivial
   repeat' first|(with_reducible first|refine q01 ?_|refine q02 ?_|refine q11 ?_|refine q14 ?_|refine q17 ?_)|(with_reducible refine At.fn_ret (by simp -dsimp [hw,hs];exact rfl) ?_)|(refine CallE.pure (c1) ?_;try simp -dsimp [hw,hs])|(refine QCall_pure (c2) ?_;try simp -dsimp [hw,hs])|(refine DT_regionM (id:=4) (nt:=64) 38 [0,1,2,3,5,6,7,8,9,13,53] mixed rfl (by kernel_rfl) ?_;simp -dsimp [hw,hs])|(with_reducible refine DT_regionE [0,1,2,3,5,6,7,8,9,13,53] ?_;simp -dsimp [hw,hs])|(refine DT_cond rfl (fun h=>?_) (fun h=>?_)<;>(try simp only [nrm] at h)<;>(try exact Bool.noConfusion h))
   all_goals try simp -dsimp [hw,hs]
   all_goals try clear hs
   all_goals simp [zCase]
 ·have hE:=msE_bad n lo hi h0
  rw [msO_no (by rw [hE];exact h0),hE]
  have hs:True:=trivial
  repeat' first|(with_reducible first|refine q01 ?_|refine q02 ?_|refine q11 ?_|refine q17 ?_)|(with_reducible refine At.fn_ret (by simp -dsimp [h0,hs];exact rfl) ?_)|(refine CallE.pure (c1) ?_;try simp -dsimp [h0,hs])|(with_reducible refine DT_regionE [0,1,2,3,5,6,7,8,9,13,53] ?_;simp -dsimp [h0,hs])|(refine DT_cond rfl (fun h=>?_) (fun h=>?_)<;>(try simp only [nrm] at h)<;>(try exact Bool.noConfusion h))
  all_goals try simp -dsimp [h0,hs]
  all_goals try clear hs
  all_goals simp [zCase]
end Go.Proofs
namespace Go.Ab
open Go
theorem flat4_a1 {i n:Nat} (h:i < n) (F:Nat→Q4) (R:List DObj):(flat4 F n ++ R)[4 * i + 1]?=some (F i).2.1:=by
 rw [List.getElem?_append_left (by simp;omega),flat4_get F (by omega) h];rfl
theorem flat4_a3 {i n:Nat} (h:i < n) (F:Nat→Q4) (R:List DObj):(flat4 F n ++ R)[4 * i + 3]?=some (F i).2.2.2:=by
 rw [List.getElem?_append_left (by simp;omega),flat4_get F (by omega) h];rfl
theorem flat2_a1 {i n:Nat} (h:i < n) (F:Nat→Q2) (R:List DObj):(flat2 F n ++ R)[2 * i + 1]?=some (F i).2:=by
 rw [List.getElem?_append_left (by simp;omega),flat2_get F (by omega) h];rfl
def up1 (F:Nat→Q4) (i:Nat) (d:DObj) (k:Nat):Q4:=if k=i then ((F k).1,d,(F k).2.2.1,(F k).2.2.2) else F k
def up3 (F:Nat→Q4) (i:Nat) (d:DObj) (k:Nat):Q4:=if k=i then ((F k).1,(F k).2.1,(F k).2.2.1,d) else F k
def up2 (H:Nat→Q2) (i:Nat) (d:DObj) (k:Nat):Q2:=if k=i then ((H k).1,d) else H k
theorem flat4_s1 (F:Nat→Q4) (d:DObj) {i:Nat}:∀ {n},i < n→(flat4 F n).set (4 * i + 1) d=flat4 (up1 F i d) n
 | n + 1,h=>by
   rw [flat4,flat4]
   rcases Nat.eq_or_lt_of_le (Nat.le_of_lt_succ h) with rfl|h1
   ·rw [List.set_append_right _ _ (by simp),flat4_len,Nat.add_sub_cancel_left,flat4_congr (F:=up1 F i d) (H:=F) fun k hk=>by unfold up1;rw [if_neg (by omega)]]
    simp [up1]
   ·rw [List.set_append_left _ _ (by simp;omega),flat4_s1 F d h1]
    have:up1 F i d n=F n:=by unfold up1;rw [if_neg (by omega)]
    rw [this]
theorem flat4_s3 (F:Nat→Q4) (d:DObj) {i:Nat}:∀ {n},i < n→(flat4 F n).set (4 * i + 3) d=flat4 (up3 F i d) n
 | n + 1,h=>by
   rw [flat4,flat4]
   rcases Nat.eq_or_lt_of_le (Nat.le_of_lt_succ h) with rfl|h1
   ·rw [List.set_append_right _ _ (by simp),flat4_len,Nat.add_sub_cancel_left,flat4_congr (F:=up3 F i d) (H:=F) fun k hk=>by unfold up3;rw [if_neg (by omega)]]
    simp [up3]
   ·rw [List.set_append_left _ _ (by simp;omega),flat4_s3 F d h1]
    have:up3 F i d n=F n:=by unfold up3;rw [if_neg (by omega)]
    rw [this]
theorem flat2_s1 (F:Nat→Q2) (d:DObj) {i:Nat}:∀ {n},i < n→(flat2 F n).set (2 * i + 1) d=flat2 (up2 F i d) n
 | n + 1,h=>by
   rw [flat2,flat2]
   rcases Nat.eq_or_lt_of_le (Nat.le_of_lt_succ h) with rfl|h1
   ·rw [List.set_append_right _ _ (by simp),flat2_len,Nat.add_sub_cancel_left,flat2_congr (F:=up2 F i d) (H:=F) fun k hk=>by unfold up2;rw [if_neg (by omega)]]
    simp [up2]
   ·rw [List.set_append_left _ _ (by simp;omega),flat2_s1 F d h1]
    have:up2 F i d n=F n:=by unfold up2;rw [if_neg (by omega)]
    rw [this]
theorem flat4_t1 {i n:Nat} (h:i < n) (F:Nat→Q4) (R:List DObj) (d:DObj):(flat4 F n ++ R).set (4 * i + 1) d=flat4 (up1 F i d) n ++ R:=by
 rw [List.set_append_left _ _ (by simp;omega),flat4_s1 F d h]
theorem flat4_t3 {i n:Nat} (h:i < n) (F:Nat→Q4) (R:List DObj) (d:DObj):(flat4 F n ++ R).set (4 * i + 3) d=flat4 (up3 F i d) n ++ R:=by
 rw [List.set_append_left _ _ (by simp;omega),flat4_s3 F d h]
theorem flat2_t1 {i n:Nat} (h:i < n) (F:Nat→Q2) (R:List DObj) (d:DObj):(flat2 F n ++ R).set (2 * i + 1) d=flat2 (up2 F i d) n ++ R:=by
 rw [List.set_append_left _ _ (by simp;omega),flat2_s1 F d h]
theorem mapO_of {α β:Type} {f:α→Option β}:∀ {l:List α} {r:List β},l.length=r.length→(∀ (i:Nat) (x:α),l[i]?=some x→f x=r[i]?)→mapO f l=some r
 | [],[],_,_=>rfl
 | [],_ :: _,h,_=>by simp at h
 | _ :: _,[],h,_=>by simp at h
 | x :: l,y :: r,h,h2=>by
   have h0:=h2 0 x rfl
   have h1:=mapO_of (f:=f) (l:=l) (r:=r) (by simpa using h) (fun i z hz=>by simpa using h2 (i + 1) z (by simpa using hz))
   simp only [List.getElem?_cons_zero] at h0
   simp only [mapO,h0,h1]
theorem frz_vecS {k o g len sz:Nat} {nl:Bool} {objs:List DObj} {es:List (List DC)} {L:List (List IC)} (ho:objs[o]?=some (.vec sz es g nl)) (hl:es.length=len) (h:mapO (mapO (frz k 0 objs)) es=some L):frz (k + 1) 0 objs (.vec o g 0 len)=some (.sl L):=by
 subst hl
 simp only [frz,ho,Nat.zero_le,if_true,Nat.zero_add,Nat.le_refl,and_self,List.drop_zero,List.take_length,h,Option.map_some]
theorem fz_vecS {o g len sz:Nat} {nl:Bool} {objs:List DObj} {es:List (List DC)} {L:List (List IC)} (ho:objs[o]?=some (.vec sz es g nl)) (hl:es.length=len) (h:mapO (mapO (frz 19 0 objs)) es=some L):fz 0 objs (.vec o g 0 len)=.im (.sl L):=by
 simp only [fz,DC.lt,frz_vecS ho hl h]
 simp
theorem fz_cpL {s:Nat} {m:CpM} {c:Case} {objs:List DObj} (h1:objs[9 + s]?=some (.vec 5 (issE (cpB4 s) m.2.1 c.p.n.reg.length c.p.n.reg) m.1.1.1 m.1.1.2)) (h2:objs[11 + s]?=some (.vec 10 (ims (c.p.n.notes.map encNote)) m.1.2.1 m.1.2.2))
 (h3:objs[4 * c.p.n.reg.length + (13 + s)]?=some (.vec 4 (holE (cpB2 c.p.n.reg.length s) m.2.2.2.1 c.p.holders.length c.p.holders) m.2.2.1.1.1 m.2.2.1.1.2)) (h4:objs[4 * c.p.n.reg.length + (15 + s)]?=some (.vec 7 (ims (c.p.prints.map encPrint)) m.2.2.1.2.1 m.2.2.1.2.2))
 (h5:objs[4 * c.p.n.reg.length + 2 * c.p.holders.length + (17 + s)]?=some (.vec 3 (ims (c.loop.links.map encLink)) m.2.2.2.2.1.1 m.2.2.2.2.1.2)) (h6:objs[4 * c.p.n.reg.length + 2 * c.p.holders.length + (19 + s)]?=some (.vec 4 (ims (c.pieces.map encPiece)) m.2.2.2.2.2.1 m.2.2.2.2.2.2))
 (hA:∀ (k:Nat) (x:Issue),c.p.n.reg[k]?=some x→objs[4 * k + (13 + s)]?=some (.vec 2 (ims (x.items.map encItem)) (m.2.1 k).1.1 (m.2.1 k).1.2)∧objs[4 * k + (15 + s)]?=some (.vec 3 (ims (x.dims.map encDim)) (m.2.1 k).2.1 (m.2.1 k).2.2))
 (hB:∀ (k:Nat) (x:Holder),c.p.holders[k]?=some x→objs[4 * c.p.n.reg.length + 2 * k + (17 + s)]?=some (.vec 1 (ims (x.draws.map encI)) (m.2.2.2.1 k).1 (m.2.2.2.1 k).2)):(cpL s m c).map (fz 0 objs)=(encCase c).map .im:=by
 have e1:mapO (mapO (frz 19 0 objs)) (issE (cpB4 s) m.2.1 c.p.n.reg.length c.p.n.reg)=some (c.p.n.reg.map encIssue):=by
  refine mapO_of (by simp) fun i r hr=>?_
  simp only [issE,List.getElem?_mapIdx,Option.map_eq_some_iff] at hr
  obtain ⟨x,hx,rfl⟩:=hr
  rw [List.getElem?_map,hx]
  obtain ⟨a1,a2⟩:=hA i x hx
  have b1:=frz_vecS (k:=18) (len:=x.items.length) a1 (by simp [ims]) (mapO_ims _ _ _ _)
  have b2:=frz_vecS (k:=18) (len:=x.dims.length) a2 (by simp [ims]) (mapO_ims _ _ _ _)
  have hlt:=lt_of_getElem? hx
  have f1:∀ c:IC,frz 19 0 objs (.im c)=some c:=fun _=>rfl
  simp only [issC,if_pos hlt,mapO,f1,cpB4,b1,b2,Option.map_some,encIssue]
 have e2:mapO (mapO (frz 19 0 objs)) (holE (cpB2 c.p.n.reg.length s) m.2.2.2.1 c.p.holders.length c.p.holders)=some (c.p.holders.map encHolder):=by
  refine mapO_of (by simp) fun i r hr=>?_
  simp only [holE,List.getElem?_mapIdx,Option.map_eq_some_iff] at hr
  obtain ⟨x,hx,rfl⟩:=hr
  rw [List.getElem?_map,hx]
  have b1:=frz_vecS (k:=18) (len:=x.draws.length) (hB i x hx) (by simp [ims]) (mapO_ims _ _ _ _)
  have hlt:=lt_of_getElem? hx
  have f1:∀ c:IC,frz 19 0 objs (.im c)=some c:=fun _=>rfl
  simp only [holC,if_pos hlt,mapO,f1,cpB2,b1,Option.map_some,encHolder]
 simp only [cpL,List.map_cons,List.map_nil,encCase]
 rw [fz_vecS h1 (by simp) e1,fz_vecS h2 (by simp [ims]) (mapO_ims _ _ _ _),fz_vecS h3 (by simp) e2,fz_vecS h4 (by simp [ims]) (mapO_ims _ _ _ _),fz_vecS h5 (by simp [ims]) (mapO_ims _ _ _ _),fz_vecS h6 (by simp [ims]) (mapO_ims _ _ _ _)]
 rfl
end Go.Ab
