/- Part 26 of the proofs: laws and walks that hold without conditions beyond those that each theorem names. -/
import Derived.Test.YtciiddejfhbncaaGreatDoorP16
import Derived.Test.YtciiddejfhbncaaGreatDoorP18
import Derived.Test.YtciiddejfhbncaaGreatDoorP22
import Derived.Test.YtciiddejfhbncaaGreatDoorP23
import Derived.Test.YtciiddejfhbncaaGreatDoorP24
import Derived.Test.YtciiddejfhbncaaGreatDoorP25
set_option linter.all false
set_option linter.deprecated false
namespace Go.Proofs
open Go Go.Ab
set_option linter.unusedSimpArgs false
variable {G:Nat→Option (List IC)}
attribute [simp] permL reO cutL cutE gones noLoop nilV nilX ZK
def cmpG (a b:Issue):Int:=orI' [a.drawing - b.drawing,a.letter - b.letter]
def Tame (x:Issue):Prop:=0≤x.drawing∧x.drawing≤1000000000∧0≤x.letter∧x.letter≤1000000000
theorem cmpG_c (a b:Issue) (ha:Tame a) (hb:Tame b):DCall Tryz.prog G 125 [.agg ((encIssue a).map wk),.agg ((encIssue b).map wk)] [] (fun d o=>d=iv (cmpG a b)∧o=[]):=by
 refine DCall.drop ?_
 obtain ⟨a1,a2,a3,a4⟩:=ha
 obtain ⟨b1,b2,b3,b4⟩:=hb
 have w1:IntKind.i64.wrap (a.drawing - b.drawing)=a.drawing - b.drawing:=i64w (by omega) (by omega)
 have w2:IntKind.i64.wrap (a.letter - b.letter)=a.letter - b.letter:=i64w (by omega) (by omega)
 have c3:=or_c' (G:=G) [a.drawing - b.drawing,a.letter - b.letter] (by simp)
 have hE:cmpG a b=orI' [a.drawing - b.drawing,a.letter - b.letter]:=rfl
 rw [← hE] at c3
 simp only [encIssue,List.map_cons,List.map_nil,rI,wk]
 refine DCall_intro Tryz.func125 rfl Tryz.ntmps125 (by simp) rfl ?_
 have hs:True:=trivial
 repeat' first|(with_reducible first|refine q01 ?_|refine q11 ?_|refine q17 ?_)|(with_reducible refine At.fn_ret (by simp -dsimp [w1,w2,hs];exact rfl) ?_)|(refine CallE.thaw (c3) ?_ ?_ ?_;(focus (simp;done));(focus (simp;done));try simp -dsimp [w1,w2,hs])|(with_reducible refine DT_regionE [0,1,2,3,4] ?_;simp -dsimp [w1,w2,hs])|with_reducible refine And.intro ?_ ?_
 all_goals try simp -dsimp [w1,w2,hs]
 all_goals try clear hs
theorem big_c (n:Int) (objs:List DObj):DCall Tryz.prog G 126 [iv n] objs (fun rr objs'=>rr=bv (decide (8 < n))∧objs'=objs):=by
 refine DCall.frame ?_ (by simp) (by simp) objs
 refine DCall_intro Tryz.func126 rfl Tryz.ntmps126 (by simp) rfl ?_
 try simp only [iv]
 have hs:True:=trivial
 repeat' first|(with_reducible first|refine q01 ?_|refine q11 ?_|refine q17 ?_)|(with_reducible refine At.fn_ret (by simp -dsimp [hs];exact rfl) ?_)|(with_reducible refine DT_regionE [0,2] ?_;simp -dsimp [hs])
 all_goals try simp -dsimp [hs]
 all_goals try clear hs
theorem dim_beq (a b:Dim):(a.nominal=b.nominal∧a.lower=b.lower∧a.upper=b.upper)↔a=b:=by
 constructor
 ·intro ⟨h1,h2,h3⟩;cases a;cases b;simp_all
 ·rintro rfl;simp
theorem equalD_c (a b:List Dim) (ha:a.length < 1000000) (hb:b.length < 1000000) (objs:List DObj):DCall Tryz.prog G 122 [.one (.im (.sl (a.map encDim))),.one (.im (.sl (b.map encDim)))] objs (fun rr objs'=>rr=bv (decide (a=b))∧objs'=objs):=by
 refine DCall.frame ?_ (by simp) (by simp) objs
 refine DCall_intro Tryz.func122 rfl Tryz.ntmps122 (by simp) rfl ?_
 try simp only [iv]
 by_cases hl:a.length=b.length
 ·have hli:(a.length:Int)=b.length:=by omega
  have hs:True:=trivial
  repeat' first|(with_reducible first|refine q01 ?_|refine q11 ?_|refine q12 ?_|refine q14 ?_)|(with_reducible refine DT_regionE [0,1,4,5,10,12,13,14,24] ?_;simp -dsimp [hl,hli,hs])|(refine DT_cond rfl (fun h=>?_) (fun h=>?_)<;>(try simp only [nrm] at h)<;>(try exact Bool.noConfusion h))
  all_goals try simp -dsimp [hl,hli,hs]
  all_goals try clear hs
  refine DT_loop (ι:={ k:Nat // k≤b.length∧a.take k=b.take k }) (fun p=>⟨26,[(0,.one (.im (.sl (a.map encDim)))),(1,.one (.im (.sl (b.map encDim)))),(12,iv (b.length:Int)),(13,iv (p.1:Int))],[]⟩) (fun p=>b.length - p.1) ⟨0,by simp⟩ (Weak.of_keep [0,1,12,13] (by simp [hl])) ?_
  rintro ⟨k,hk,he⟩
  simp only [iv]
  by_cases hlt:k < b.length
  ·have hw:IntKind.i64.wrap ((k:Int) + 1)=((k + 1:Nat):Int):=i64w (by omega) (by omega)
   have hka:k < a.length:=by omega
   have hta:a.take (k + 1)=a.take k ++ [a[k]]:=List.take_succ_eq_append_getElem hka
   have htb:b.take (k + 1)=b.take k ++ [b[k]]:=List.take_succ_eq_append_getElem hlt
   generalize hx:a[k]=x at *
   generalize hy:b[k]=y at *
   by_cases hxy:x=y
   ·have hs:True:=trivial
    repeat' first|(with_reducible first|refine q01 ?_|refine q04 ?_|refine q11 ?_|refine q12 ?_|refine q14 ?_)|(refine DT_regionM (id:=6) (nt:=26) 9 [0,1,4,5,10,12,13,14,24] mixed rfl (by kernel_rfl) ?_;simp -dsimp [hx,hy,hlt,hka,hw,hxy,hs])|(with_reducible refine DT_regionE [0,1,4,5,10,12,13,14,24] ?_;simp -dsimp [hx,hy,hlt,hka,hw,hxy,hs])|(refine DT_cond rfl (fun h=>?_) (fun h=>?_)<;>(try simp only [nrm] at h)<;>(try exact Bool.noConfusion h))
    all_goals try simp -dsimp [hx,hy,hlt,hka,hw,hxy,hs]
    all_goals try clear hs
    all_goals exact At.round ⟨k + 1,by omega,by rw [hta,htb,he,hxy]⟩ (by simp only;omega) (Weak.of_keep [0,1,12,13] (by simp [hl]))
   ·have hne:¬ a=b:=fun e=>hxy (by subst e;rw [← hx,← hy])
    have hxy':=mt (dim_beq x y).1 hxy
    have hs:True:=trivial
    repeat' first|(with_reducible first|refine q01 ?_|refine q02 ?_|refine q04 ?_|refine q05 ?_|refine q11 ?_|refine q12 ?_|refine q14 ?_|refine q17 ?_)|(with_reducible refine At.fn_ret (by simp -dsimp [hx,hy,hlt,hka,hxy',hs];exact rfl) ?_)|(refine DT_regionM (id:=6) (nt:=26) 9 [0,1,4,5,10,12,13,14,24] mixed rfl (by kernel_rfl) ?_;simp -dsimp [hx,hy,hlt,hka,hxy',hs])|(with_reducible refine DT_regionE [0,1,4,5,10,12,13,14,24] ?_;simp -dsimp [hx,hy,hlt,hka,hxy',hs])|(refine DT_cond rfl (fun h=>?_) (fun h=>?_)<;>(try simp only [nrm] at h)<;>(try exact Bool.noConfusion h))
    all_goals try simp -dsimp [hx,hy,hlt,hka,hxy',hs]
    all_goals try clear hs
    all_goals first|exact hne|(exact absurd (by assumption) hxy')|simp [hne]
  ·obtain rfl:k=b.length:=by omega
   rw [List.take_length,← hl,List.take_length] at he
   have hs:True:=trivial
   repeat' first|(with_reducible first|refine q01 ?_|refine q03 ?_|refine q06 ?_|refine q11 ?_|refine q16 ?_|refine q17 ?_)|(with_reducible refine At.fn_ret (by simp -dsimp [hlt,hs];exact rfl) ?_)|(with_reducible refine DT_regionE [0,1,4,5,10,12,13,14,24] ?_;simp -dsimp [hlt,hs])|(refine DT_cond rfl (fun h=>?_) (fun h=>?_)<;>(try simp only [nrm] at h)<;>(try exact Bool.noConfusion h))
   all_goals try simp -dsimp [hlt,hs]
   all_goals try clear hs
   all_goals simp [he]
 ·have hli:¬ (a.length:Int)=b.length:=by omega
  have hne:¬ a=b:=fun e=>hl (by rw [e])
  have hs:True:=trivial
  repeat' first|(with_reducible first|refine q01 ?_|refine q02 ?_|refine q11 ?_|refine q17 ?_)|(with_reducible refine At.fn_ret (by simp -dsimp [hl,hli,hs];exact rfl) ?_)|(with_reducible refine DT_regionE [0,1,4,5,10,12,13,14,24] ?_;simp -dsimp [hl,hli,hs])|(refine DT_cond rfl (fun h=>?_) (fun h=>?_)<;>(try simp only [nrm] at h)<;>(try exact Bool.noConfusion h))
  all_goals try simp -dsimp [hl,hli,hs]
  all_goals try clear hs
  all_goals simp [hne]
abbrev TIss:={ x:Issue // Tame x }
def encT (x:TIss):List IC:=encIssue x.1
theorem cmpG_lt (a b:Issue):cmpG a b < 0↔a.drawing < b.drawing∨a.drawing=b.drawing∧a.letter < b.letter:=by
 unfold cmpG orI' orI' orI'
 repeat' split
 all_goals omega
def SortGOk (G:Nat→Option (List IC)):Prop:=∀ (l:List TIss) (gn sz:Nat) (nl:Bool),(sz=5∨nl=true∧l=[])→l.length < 1000000 →
 DCall Tryz.prog G 124 [.one (.vec 0 gn 0 l.length),.one (.im (.fn (.func 125) []))] [.vec sz (ims (l.map encT)) gn nl] (fun d o=>d=.tup []∧∃ l':List TIss,l'.Perm l∧(l'.Pairwise fun a b=>¬ cmpG b.1 a.1 < 0)∧o=[.vec sz (ims (l'.map encT)) gn nl])
end Go.Proofs
namespace Go.Proofs
open Go Go.Ab
def KeyInj (R:List Issue):Prop:=∀ a∈R,∀ b∈R,a.drawing=b.drawing→a.letter=b.letter→a=b
def insG (x:Issue):List Issue→List Issue
 | []=>[x]
 | y :: r=>if cmpG x y < 0 then x :: y :: r else y :: insG x r
def sortG (l:List Issue):List Issue:=l.foldr insG []
theorem insG_perm (x:Issue):∀ l,(insG x l).Perm (x :: l)
 | []=>.refl _
 | y :: r=>by
   unfold insG
   split
   ·exact .refl _
   ·exact ((insG_perm x r).cons y).trans (.swap x y r)
theorem sortG_perm:∀ l,(sortG l).Perm l
 | []=>.refl _
 | x :: r=>(insG_perm x _).trans ((sortG_perm r).cons x)
def SortedG (l:List Issue):Prop:=l.Pairwise fun a b=>¬ cmpG b a < 0
theorem insG_sorted (x:Issue):∀ l,SortedG l→SortedG (insG x l)
 | [],_=>by simp [insG,SortedG]
 | y :: r,h=>by
   have h':SortedG (y :: r):=h
   unfold SortedG at h
   rw [List.pairwise_cons] at h
   unfold insG
   split
   ·rename_i hc
    unfold SortedG
    rw [List.pairwise_cons]
    refine ⟨fun b hb=>?_,h'⟩
    rw [cmpG_lt] at hc ⊢
    rcases List.mem_cons.1 hb with rfl|hb
    ·omega
    ·have:=h.1 b hb
     rw [cmpG_lt] at this
     omega
   ·rename_i hc
    unfold SortedG
    rw [List.pairwise_cons]
    refine ⟨fun b hb=>?_,insG_sorted x r h.2⟩
    rcases List.mem_cons.1 ((insG_perm x r).mem_iff.1 hb) with rfl|hb
    ·exact hc
    ·exact h.1 b hb
theorem sortG_sorted:∀ l,SortedG (sortG l)
 | []=>by simp [sortG,SortedG]
 | x :: r=>insG_sorted x _ (sortG_sorted r)
theorem sortG_unique {l l':List Issue} (hp:l'.Perm l) (hk:KeyInj l) (hs:SortedG l'):l'=sortG l:=by
 refine List.Perm.eq_of_pairwise (le:=fun a b=>¬ cmpG b a < 0) (fun a b ha hb h1 h2=>?_) hs (sortG_sorted l) (hp.trans (sortG_perm l).symm)
 rw [cmpG_lt] at h1 h2
 exact hk a (hp.mem_iff.1 ha) b ((sortG_perm l).mem_iff.1 hb) (by omega) (by omega)
theorem sortG_len (l:List Issue):(sortG l).length=l.length:=(sortG_perm l).length_eq
theorem sortG_c {G:Nat→Option (List IC)} (hSF:SortGOk G) {l:List Issue} (hT:∀ x∈l,Tame x) (hk:KeyInj l) (hl:l.length < 1000000) (gn:Nat) (nl:Bool) :
 DCall Tryz.prog G 124 [.one (.vec 0 gn 0 l.length),.one (.im (.fn (.func 125) []))] [.vec 5 (ims (l.map encIssue)) gn nl] (fun d o=>d=.tup []∧o=[.vec 5 (ims ((sortG l).map encIssue)) gn nl]):=by
 have h:=hSF (l.attach.map fun x=>⟨x.1,hT x.1 x.2⟩) gn 5 nl (.inl rfl) (by simpa using hl)
 have e1:(l.attach.map fun x=>(⟨x.1,hT x.1 x.2⟩:TIss)).map encT=l.map encIssue:=by
  rw [List.map_map]
  exact (List.map_attach_eq_pmap ..).trans (List.pmap_eq_map ..)
 rw [e1] at h
 simp only [List.length_map,List.length_attach] at h
 refine h.mono fun d o ⟨h1,l',h2,h3,h4⟩=>⟨h1,?_⟩
 have h5:(l'.map Subtype.val)=sortG l:=by
  refine sortG_unique ?_ hk ?_
  ·have:=h2.map Subtype.val
   rw [List.map_map] at this
   refine this.trans ?_
   have e2:(l.attach.map (Subtype.val ∘ fun x=>(⟨x.1,hT x.1 x.2⟩:TIss)))=l:=(List.map_attach_eq_pmap ..).trans ((List.pmap_eq_map ..).trans (List.map_id _))
   rw [e2]
  ·unfold SortedG
   rw [List.pairwise_map]
   exact h3
 rw [h4,← h5,List.map_map]
 rfl
def newI (reg:List Issue) (x:Issue) (n:Int) (ds:List Dim):Issue:={ x with letter:=(cntN reg n:Int) + 1,dims:=ds }
def chGo (reg:List Issue) (B:List (Int×Issue)) (f:Issue→List Dim×Int):List Int→Nat→List Issue→List Int→List Issue×List Int×Int
 | [],_,R,L=>(R,L,0)
 | n :: r,i,R,L=>if (f (mlookS B n)).2≠0 then (R,L,(f (mlookS B n)).2) else if (f (mlookS B n)).1=(mlookS B n).dims then chGo reg B f r (i + 1) R L else
   chGo reg B f r (i + 1) (R ++ [newI reg (mlookS B n) n (f (mlookS B n)).1]) (L.set i ((cntN reg n:Int) + 1))
theorem chGo_ok {reg:List Issue} {B:List (Int×Issue)} {f:Issue→List Dim×Int} (hreg:reg.length≤1000):∀ (r:List Int) (i:Nat) (R:List Issue) (L:List Int),r.Nodup→(∀ n∈r,(mlookS B n).drawing=n∧0≤n∧n≤1000000000)→(∀ x∈R,Tame x)→KeyInj R →
 (∀ x∈R,x.drawing∈r→x.letter≤(cntN reg x.drawing:Int))→(∀ x∈(chGo reg B f r i R L).1,Tame x)∧KeyInj (chGo reg B f r i R L).1∧(chGo reg B f r i R L).1.length≤R.length + r.length∧(chGo reg B f r i R L).2.1.length=L.length
 | [],i,R,L,_,_,h1,h2,_=>⟨h1,h2,by simp [chGo],rfl⟩
 | n :: r,i,R,L,hn,hB,h1,h2,h3=>by
   rw [List.nodup_cons] at hn
   have hr:∀ m∈r,(mlookS B m).drawing=m∧0≤m∧m≤1000000000:=fun m hm=>hB m (List.mem_cons_of_mem _ hm)
   obtain ⟨b1,b2,b3⟩:=hB n List.mem_cons_self
   unfold chGo
   split
   ·exact ⟨h1,h2,by simp,rfl⟩
   ·split
    ·obtain ⟨k1,k2,k3,k4⟩:=chGo_ok (f:=f) hreg r (i + 1) R L hn.2 hr h1 h2 fun x hx hm=>h3 x hx (List.mem_cons_of_mem _ hm)
     exact ⟨k1,k2,by rw [List.length_cons];omega,k4⟩
    ·have hc:cntN reg n≤reg.length:=List.length_filter_le _ _
     have hd:(newI reg (mlookS B n) n (f (mlookS B n)).1).drawing=n:=b1
     have hl:(newI reg (mlookS B n) n (f (mlookS B n)).1).letter=(cntN reg n:Int) + 1:=rfl
     generalize newI reg (mlookS B n) n (f (mlookS B n)).1=y at *
     obtain ⟨k1,k2,k3,k4⟩:=chGo_ok (f:=f) hreg r (i + 1) (R ++ [y]) (L.set i ((cntN reg n:Int) + 1)) hn.2 hr (fun x hx=>by
      rcases List.mem_append.1 hx with hx|hx
      ·exact h1 x hx
      ·simp at hx;subst hx
       exact ⟨by omega,by omega,by omega,by omega⟩) (fun a ha b hb e1 e2=>by
      rcases List.mem_append.1 ha with ha|ha<;>rcases List.mem_append.1 hb with hb|hb
      ·exact h2 a ha b hb e1 e2
      ·simp at hb;subst hb
       have:=h3 a (by assumption) (by rw [e1,hd];exact List.mem_cons_self)
       rw [e1,hd] at this;omega
      ·simp at ha;subst ha
       have:=h3 b (by assumption) (by rw [← e1,hd];exact List.mem_cons_self)
       rw [← e1,hd] at this;omega
      ·simp at ha hb;rw [ha,hb]) (fun x hx hm=>by
      rcases List.mem_append.1 hx with hx|hx
      ·exact h3 x hx (List.mem_cons_of_mem _ hm)
      ·simp at hx;subst hx
       rw [hd] at hm;exact absurd hm hn.1)
     exact ⟨k1,k2,by rw [List.length_append] at k3;simp at k3 ⊢;omega,by rw [k4,List.length_set]⟩
theorem scan_step2 {p:Option Issue} {x:Issue} {r:List Issue} {ds:List Int} (h:scanI p (x :: r)=some ds) :
 ∃ ds',scanI (some x) r=some ds'∧((∃ y,p=some y∧y.drawing=x.drawing∧x.letter=y.letter + 1)∨((∀ y,p=some y→y.drawing < x.drawing)∧x.letter=1)):=by
 have hok:issueOk x=true:=by
  cases hx:issueOk x
  ·rw [scan_bad' hx] at h;cases h
  ·rfl
 cases p with
 | none =>
   simp only [scanI,hok] at h
   split at h
   ·cases h
   ·split at h
    ·cases h
    ·rename_i hl
     obtain ⟨ds',h1,h2⟩:=Option.map_eq_some_iff.1 h
     exact ⟨ds',h1,.inr ⟨by simp,by simpa using hl⟩⟩
 | some y =>
   simp only [scanI,hok] at h
   split at h
   ·cases h
   ·split at h
    ·rename_i hd
     split at h
     ·cases h
     ·rename_i hl
      exact ⟨ds,h,.inl ⟨y,rfl,hd,by omega⟩⟩
    ·split at h
     ·cases h
     ·split at h
      ·cases h
      ·rename_i hl
       obtain ⟨ds',h1,h2⟩:=Option.map_eq_some_iff.1 h
       exact ⟨ds',h1,.inr ⟨fun y' e=>by cases e;omega,by simpa using hl⟩⟩
def plI (p:Option Issue) (d:Int):Int:=match p with|some y=>if y.drawing=d then y.letter else 0|none=>0
theorem cntN_cons (x:Issue) (r:List Issue) (d:Int):cntN (x :: r) d=(if x.drawing=d then 1 else 0) + cntN r d:=by
 unfold cntN
 rw [List.filter_cons]
 by_cases h:x.drawing=d
 ·simp [h];omega
 ·simp [h]
theorem scan_keys:∀ (l:List Issue) (p:Option Issue) (ds:List Int),scanI p l=some ds→(∀ y,p=some y→0≤y.letter) →
 (∀ y,p=some y→∀ x∈l,y.drawing < x.drawing∨(y.drawing=x.drawing∧y.letter < x.letter))∧l.Pairwise (fun a b=>a.drawing < b.drawing∨(a.drawing=b.drawing∧a.letter < b.letter))∧∀ x∈l,1≤x.letter∧x.letter≤plI p x.drawing + (cntN l x.drawing:Int)
 | [],p,ds,_,_=>by simp
 | x :: r,p,ds,h,hp=>by
   obtain ⟨ds',h1,h2⟩:=scan_step2 h
   have hx1:1≤x.letter:=by
    rcases h2 with ⟨y,hy,_,h3⟩|⟨_,h3⟩
    ·have:=hp y hy;omega
    ·omega
   obtain ⟨k1,k2,k3⟩:=scan_keys r (some x) ds' h1 (fun y e=>by cases e;omega)
   have k1':=k1 x rfl
   have hxp:∀ y,p=some y→y.drawing < x.drawing∨(y.drawing=x.drawing∧y.letter < x.letter):=fun y hy=>by
    rcases h2 with ⟨y',hy',h4,h3⟩|⟨h4,_⟩
    ·rw [hy] at hy';cases hy';exact .inr ⟨h4,by omega⟩
    ·exact .inl (h4 y hy)
   refine ⟨fun y hy z hz=>?_,List.pairwise_cons.2 ⟨k1',k2⟩,fun z hz=>?_⟩
   ·have h5:=hxp y hy
    rcases List.mem_cons.1 hz with rfl|hz
    ·exact h5
    ·have:=k1' z hz;omega
   ·rw [cntN_cons]
    rcases List.mem_cons.1 hz with rfl|hz
    ·refine ⟨hx1,?_⟩
     rw [if_pos rfl]
     rcases h2 with ⟨y,rfl,h4,h3⟩|⟨h4,h3⟩
     ·simp only [plI,h4,if_true];omega
     ·have:0≤plI p z.drawing:=by
       unfold plI;split
       ·split
        ·exact hp _ rfl
        ·omega
       ·omega
      omega
    ·obtain ⟨m1,m2⟩:=k3 z hz
     refine ⟨m1,?_⟩
     simp only [plI] at m2
     by_cases e:x.drawing=z.drawing
     ·rw [if_pos e] at m2 ⊢
      have:x.letter≤plI p z.drawing + 1:=by
       rcases h2 with ⟨y,rfl,h4,h3⟩|⟨h4,h3⟩
       ·simp only [plI,h4.trans e,if_true];omega
       ·have:0≤plI p z.drawing:=by
         unfold plI;split
         ·split
          ·exact hp _ rfl
          ·omega
         ·omega
        omega
      omega
     ·rw [if_neg e] at m2 ⊢
      have:0≤plI p z.drawing:=by
       unfold plI;split
       ·split
        ·exact hp _ rfl
        ·omega
       ·omega
      omega
theorem reg_keys {l:List Issue} (h:checkR l=0):KeyInj l∧∀ x∈l,1≤x.letter∧x.letter≤(cntN l x.drawing:Int):=by
 have hs:=listed_scan (check_listed h)
 obtain ⟨_,k2,k3⟩:=scan_keys l none _ hs (fun y e=>by cases e)
 refine ⟨fun a ha b hb e1 e2=>?_,fun x hx=>?_⟩
 ·obtain ⟨i,hi⟩:=List.mem_iff_getElem?.1 ha
  obtain ⟨j,hj⟩:=List.mem_iff_getElem?.1 hb
  obtain ⟨hil,hia⟩:=List.getElem?_eq_some_iff.1 hi
  obtain ⟨hjl,hjb⟩:=List.getElem?_eq_some_iff.1 hj
  rw [List.pairwise_iff_getElem] at k2
  rcases Nat.lt_trichotomy i j with h'|h'|h'
  ·have:=k2 i j hil hjl h'
   rw [hia,hjb] at this;omega
  ·subst h';rw [hi] at hj;exact Option.some.inj hj
  ·have:=k2 j i hjl hil h'
   rw [hia,hjb] at this;omega
 ·have:=k3 x hx
  simpa [plI] using this
end Go.Proofs
namespace Go.Proofs
open Go Go.Ab
theorem bit_at' (s i:Nat):IntKind.i64.wrap ((BitVec.ofInt 64 ((s:Int).fdiv (2 ^ i)) &&& BitVec.ofInt 64 1).toNat:Int)=if s.testBit i=true then 1 else 0:=by
 have e1:(s:Int).fdiv (2 ^ i)=((s / 2 ^ i:Nat):Int):=by
  rw [Int.fdiv_eq_ediv_of_nonneg _ (by exact Int.pow_nonneg (by omega))]
  simp
 have e2:(BitVec.ofInt 64 ((s / 2 ^ i:Nat):Int) &&& BitVec.ofInt 64 1).toNat=(s / 2 ^ i) % 2:=by
  have h1:(BitVec.ofInt 64 1)=1#64:=by decide
  rw [h1,BitVec.ofInt_natCast,BitVec.toNat_and,BitVec.toNat_ofNat,BitVec.toNat_ofNat]
  rw [show (1 % 2 ^ 64:Nat)=1 by decide,Nat.and_one_is_mod]
  omega
 rw [e1,e2,Nat.testBit_eq_decide_div_mod_eq]
 rcases Nat.mod_two_eq_zero_or_one (s / 2 ^ i) with h|h
 ·rw [h];simp;decide
 ·rw [h];simp;decide
def fewE (c:Chains):Int:=if chainsE c≠0 then chainsE c else if 12 < (allSpots c).length then 4 else if hasG c then 0 else 6
def fewR (c:Chains):List Spot:=if fewE c=0 then (fewest c).getD [] else []
end Go.Proofs
namespace Go.Proofs
open Go Go.Ab
set_option linter.unusedSimpArgs false
variable {G:Nat→Option (List IC)}
attribute [simp] permL reO cutL cutE gones noLoop nilV nilX ZK
def chGo0 (c:Chains) (f:Issue→List Dim×Int):List Issue×List Int×Int:=chGo c.reg (tkM c.reg c.lets) f (nums c.reg) 0 c.reg c.lets
def changedE (c:Chains) (f:Issue→List Dim×Int):Int:=if (chGo0 c f).2.2≠0 then (chGo0 c f).2.2 else if 60 < (chGo0 c f).1.length∨((chGo0 c f).2.1.any fun n=>decide (8 < n))=true then 9 else 0
def changedC (c:Chains) (f:Issue→List Dim×Int):Chains:={ reg:=sortG (chGo0 c f).1,lets:=(chGo0 c f).2.1,of:=c.of,loops:=c.loops }
def zChains:Chains:={ reg:=[],lets:=[],of:=0,loops:=[] }
def changedR (c:Chains) (f:Issue→List Dim×Int):Chains:=if changedE c f=0 then changedC c f else zChains
def OtherF (G:Nat→Option (List IC)) (c:Chains) (fv:IC) (f:Issue→List Dim×Int):Prop:=
 ∃ (fn:FuncId) (caps:List IC),fv=.fn (.func fn) caps∧CallOk Tryz.prog fn∧∀ n∈nums c.reg,(f (mlookS (tkM c.reg c.lets) n)).1.length≤8∧∀ objs,DCall Tryz.prog G fn (issv (mlookS (tkM c.reg c.lets) n) :: caps.map fun c=>.one (.im c)) objs
  (fun d o=>d=.tup [.one (.im (.sl ((f (mlookS (tkM c.reg c.lets) n)).1.map encDim))),iv (f (mlookS (tkM c.reg c.lets) n)).2]∧o=objs)
theorem tk_mem {c:Chains} (hOk:OkC c) {n:Int} (hn:n∈nums c.reg):mlookS (tkM c.reg c.lets) n∈c.reg∧(mlookS (tkM c.reg c.lets) n).drawing=n:=by
 rw [tkM,mlookS_map,if_pos hn]
 have h:=take_spec hOk.reg hOk.lets hn
 exact ⟨h.1,h.2.1⟩
theorem reg_tame {c:Chains} (hOk:OkC c) {x:Issue} (hx:x∈c.reg):1≤x.drawing∧x.drawing≤9999∧1≤x.letter∧x.letter≤8:=by
 have h:=(scan_all (listed_scan (check_listed hOk.reg))).2.2.2.1 x hx
 simp only [issueOk,ck1,Bool.and_eq_true,decide_eq_true_eq] at h
 omega
theorem chGo0_ok {c:Chains} (f:Issue→List Dim×Int) (hOk:OkC c) (hsm:SmallC c):(∀ x∈(chGo0 c f).1,Tame x)∧KeyInj (chGo0 c f).1∧(chGo0 c f).1.length≤c.reg.length + (nums c.reg).length∧(chGo0 c f).2.1.length=c.lets.length:=by
 have hN:=(check_nums hOk.reg).1
 have hK:=reg_keys hOk.reg
 refine chGo_ok (by have:=hsm.1.1;omega) _ 0 _ _ (hN.imp fun h=>by omega) (fun n hn=>?_) (fun x hx=>?_) hK.1 (fun x hx _=>(hK.2 x hx).2)
 ·have h:=tk_mem hOk hn
  have h1:=reg_tame hOk h.1
  rw [h.2] at h1
  exact ⟨h.2,by omega,by omega⟩
 ·have h1:=reg_tame hOk hx
  exact ⟨by omega,by omega,by omega,by omega⟩
theorem fn_im {P:Program} {G:Nat→Option (List IC)} {f k:FuncId} {a:DV} {objs:List DObj} {Q:DV→List DObj→Prop} (h:DCall P G f [a,.one (.fn (.func k) [])] objs Q):DCall P G f [a,.one (.im (.fn (.func k) []))] objs Q:=by
 intro M vs hM ho hsz hr
 refine h M vs hM ho (by simpa using hsz) fun j d v h1 h2=>?_
 match j with
 | 0=>exact hr 0 d v h1 h2
 | 1 =>
   simp at h1;subst h1
   have h3:=hr 1 _ v rfl h2
   cases h3 with
   | one _ _ h3=>cases h3 with
     | im _ _ h3=>cases h3 with
       | fn _ _ vs h4 _ =>
         have:vs=#[]:=Array.eq_empty_of_size_eq_zero (by simpa using h4.symm)
         subst this
         exact .one _ _ (.fn _ _ _ rfl (fun j c v h=>by simp at h))
 | j + 2=>simp at h1
set_option maxHeartbeats 4000000 in
theorem changed_c (c:Chains) (D:List (Int×Int)) (fv:IC) (f:Issue→List Dim×Int) (hG:sheetG G) (hOk:OkC c) (hsm:SmallC c) (hf:OtherF G c fv f) (hSF:SortGOk G) (objs:List DObj):DCall Tryz.prog G 69 [.one (.im (deskC c D (tkM c.reg c.lets))),.one (.im fv)] objs (fun rr objs'=>rr=.tup [chv (changedR c f),iv (changedE c f)]∧objs'=objs):=by
 refine DCall.frame ?_ (by simp) (by simp) objs
 refine DCall_intro Tryz.func69 rfl Tryz.ntmps69 (by simp) rfl ?_
 try simp only [iv]
 obtain ⟨fn,caps,rfl,hok,hcall⟩:=hf
 have c1:=chCopied_c (G:=G) c hsm
 have c2:=drawings_c (G:=G) c.reg hG hsm.1
 simp only [deskC,chD,chO] at c1 ⊢
 have hs:True:=trivial
 repeat' first|(with_reducible first|refine q01 ?_|refine q11 ?_|refine q12 ?_)|(refine CallE.embed_ex [] (c1) ?_ ?_ ?_ ?_ ?_ ?_;(focus (simp [emb];done));(focus (simp;done));(focus (simp;done));(focus (simp;done));(focus (refine emb_all ?_;simp [emb,embAll];done));intro mmA hmmA;try simp -dsimp [mergeO,emb,hs])|(refine CallE.pure (c2) ?_;try simp -dsimp [hs])|(with_reducible refine DT_regionE [0,1,4,5,6,7,9,10,11,12,13,14,30,31,32,33,50,56,100] ?_;simp -dsimp [hs])
 all_goals try simp -dsimp [hs]
 all_goals try clear hs
 have hgo0:chGo0 c f=chGo c.reg (tkM c.reg c.lets) f (nums c.reg) 0 c.reg c.lets:=rfl
 have hok0:(∀ x∈(chGo0 c f).1,Tame x)∧KeyInj (chGo0 c f).1∧(chGo0 c f).1.length≤c.reg.length + (nums c.reg).length∧(chGo0 c f).2.1.length=c.lets.length:=chGo0_ok f hOk hsm
 have hd:drawR c.reg=nums c.reg:=by rw [drawR,if_pos hOk.reg]
 rw [hd]
 have hN:(nums c.reg).length≤80:=by have:=numsTo_length c.reg c.reg.length;have:=hsm.1.1;unfold nums;omega
 generalize hNe:nums c.reg=N at *
 refine DT_loop (ι:={ p:Nat×Nat×Bool×List Issue×List Int // p.1≤N.length∧p.2.2.2.1.length≤c.reg.length + p.1∧p.2.2.2.2.length=c.lets.length∧chGo c.reg (tkM c.reg c.lets) f N 0 c.reg c.lets=chGo c.reg (tkM c.reg c.lets) f (N.drop p.1) p.1 p.2.2.2.1 p.2.2.2.2 }) (fun p=>⟨103,[(0,.one (.im (deskC c D (tkM c.reg c.lets)))),(1,.one (.im (.fn (.func fn) caps))),(4,.one (.ptr 3 0)),(5,iv 0),(6,.one (.ptr 18 0)),(30,.one (.im (.sl (N.map Ab.encI)))),(31,iv (N.length:Int)),(32,iv (p.1.1:Int))],
  [.vec 0 [] 0 true,.vec 0 [] 0 true,.vec 0 [] 0 true,.row [.vec 0 0 0 0,.vec 1 0 0 0,.im (rI 0),.vec 2 0 0 0],
   .row [.vec 14 mmA.2.2.1 0 c.reg.length,.vec 10 mmA.1.1 0 c.lets.length,.im (rI c.of),.vec 12 mmA.2.1.1 0 c.loops.length],.vec 0 [] 0 true,.vec 0 [] 0 true,.vec 0 [] 0 true,.row [.vec 14 mmA.2.2.1 0 c.reg.length,.vec 10 mmA.1.1 0 c.lets.length,.im (rI c.of),.vec 12 mmA.2.1.1 0 c.loops.length],
   .vec 1 [] 0 true,.vec 1 (ims (p.1.2.2.2.2.map Ab.encI)) mmA.1.1 mmA.1.2,.vec 3 [] 0 true,.vec 3 (ims (c.loops.map encLoop)) mmA.2.1.1 mmA.2.1.2,.vec 5 [] 0 true,.vec 5 (ims (p.1.2.2.2.1.map encIssue)) p.1.2.1 p.1.2.2.1,
   .vec 0 [] 0 true,.vec 0 [] 0 true,.vec 0 [] 0 true,.row [.vec 14 p.1.2.1 0 p.1.2.2.2.1.length,.vec 10 mmA.1.1 0 c.lets.length,.im (rI c.of),.vec 12 mmA.2.1.1 0 c.loops.length]]⟩) (fun p=>N.length - p.1.1) ⟨(0,mmA.2.2.1,mmA.2.2.2,c.reg,c.lets),by simp⟩ (Weak.of_keep [0,1,4,5,6,30,31,32] (by simp [deskC])) ?_
 rintro ⟨⟨i,gn,nl,R,L⟩,hi,hR,hL,hgo⟩
 simp only at hi hR hL hgo
 simp only [iv,rI,deskC]
 by_cases hlt:i < N.length
 ·obtain ⟨n,hn⟩:∃ n,N[i]?=some n:=⟨N[i],by simp [hlt]⟩
  have hnm:n∈N:=List.mem_of_getElem? hn
  have hdr:N.drop i=n :: N.drop (i + 1):=by
   rw [List.drop_eq_getElem_cons hlt];congr 1
   rw [List.getElem?_eq_getElem hlt] at hn;exact Option.some.inj hn
  rw [hdr,chGo] at hgo
  obtain ⟨hfl,hcn⟩:=hcall n hnm
  have hw:IntKind.i64.wrap ((i:Int) + 1)=((i + 1:Nat):Int):=i64w (by omega) (by omega)
  have hne:∀ h,N[i]'h=n:=fun h=>by rw [List.getElem?_eq_getElem h] at hn;exact Option.some.inj hn
  have hlet:i < c.lets.length:=by
   have h1:=hOk.lets
   simp only [lettersI,Bool.and_eq_true,decide_eq_true_eq,beq_iff_eq] at h1
   have h2:=h1.1
   rw [hNe] at h2
   omega
  have hLi:i < L.length:=by omega
  have hLl:R.length≤200:=by have:=hsm.1.1;omega
  have c3:=pLast_c (G:=G) c.reg n hG hsm.1
  have hk0:knownE c.reg n=0:=by rw [knownE,if_neg (by simp [hOk.reg]),if_pos (by rw [hNe];exact hnm)]
  rw [lastR,hk0,if_pos rfl] at c3
  have hwl:IntKind.i64.wrap ((cntN c.reg n:Int) + 1)=(cntN c.reg n:Int) + 1:=by
   have h1:cntN c.reg n≤c.reg.length:=List.length_filter_le _ _
   have:=hsm.1.1
   exact i64w (by omega) (by omega)
  have hxd:(mlookS (tkM c.reg c.lets) n).dims.length < 1000000:=by
   have h1:=hsm.1.2 _ (tk_mem hOk (by rw [hNe];exact hnm)).1
   omega
  generalize hxe:mlookS (tkM c.reg c.lets) n=x at *
  have c4:=equalD_c (G:=G) (f x).1 x.dims (by omega) hxd
  simp only [issv,encIssue,rI,List.map_cons,List.map_nil] at hcn
  generalize hfx:f x=y at *
  obtain ⟨dm,e⟩:=y
  simp only at hcn hgo hfl c4
  by_cases he:e=0
  ·subst he
   rw [if_neg (by simp)] at hgo
   by_cases hq:dm=x.dims
   ·rw [if_pos hq] at hgo
    rw [decide_eq_true hq] at c4
    have hs:True:=trivial
    repeat' first|(with_reducible first|refine q01 ?_|refine q03 ?_|refine q06 ?_|refine q11 ?_|refine q12 ?_|refine q14 ?_|refine q16 ?_)|(refine CallE.pure (hcn) ?_;try simp -dsimp [hn,hxe,hne,hlt,hw,hok,hs])|(refine CallE.pure (c4) ?_;try simp -dsimp [hn,hxe,hne,hlt,hw,hok,hs])|(with_reducible refine DT_regionE [0,1,4,5,6,7,9,10,11,12,13,14,30,31,32,33,50,56,100] ?_;simp -dsimp [hn,hxe,hne,hlt,hw,hok,hs])|(refine DT_cond rfl (fun h=>?_) (fun h=>?_)<;>(try simp only [nrm] at h)<;>(try exact Bool.noConfusion h))
    all_goals try simp -dsimp [hn,hxe,hne,hlt,hw,hok,hs]
    all_goals try clear hs
    all_goals exact At.round ⟨(i + 1,gn,nl,R,L),by omega,by simp only;omega,hL,hgo⟩ (by simp;omega) (Weak.of_drop [0,1,4,5,6,30,31,32] 19 (by simp) (by simp) (by simp [hw]))
   ·rw [if_neg hq] at hgo
    rw [decide_eq_false hq] at c4
    have happ:ims (R.map encIssue) ++ [[DC.im (.raw (.int .i64 x.drawing)),DC.im (.raw (.int .i64 ((cntN c.reg n:Int) + 1))),DC.im (.raw (.int .u8 x.kind)),DC.im (.sl (x.items.map encItem)),DC.im (.sl (dm.map encDim))]]=ims (R.map encIssue ++ [encIssue (newI c.reg x n dm)]):=by
     simp [ims,newI,encIssue,rI]
    have hs:True:=trivial
    repeat' first|(with_reducible first|refine q01 ?_|refine q04 ?_|refine q11 ?_|refine q12 ?_|refine q14 ?_|refine And.intro (by omega) ?_)|(refine CallE.pure (hcn) ?_;try simp -dsimp [hn,hxe,hne,hlt,hlet,hLi,hL,hw,hok,hwl,hs])|(refine CallE.pure (c4) ?_;try simp -dsimp [hn,hxe,hne,hlt,hlet,hLi,hL,hw,hok,hwl,hs])|(refine CallE.pure (c3) ?_;try simp -dsimp [hn,hxe,hne,hlt,hlet,hLi,hL,hw,hok,hwl,hs])|(refine DT_regionZc (id:=13) (nt:=103) [none,none,none,none,none,none,none,none,none,none,none,some [],some [11],none,some [1,2],none] [0,1,2,3,4,5,6,7,9,10,11,12,14,8,13,15] 13 [([0,1,2,8,9,10,11,12],[0,1,4,5,6,7,9,10,11,12,13,14,30,31,32,33,50,56,77,79,100]),([2,8,9,12],[0,1,4,5,6,7,9,10,11,12,13,14,30,31,32,33,50,56,73,80,84,100])] [0,1,4,5,6,7,9,10,11,12,13,14,30,31,32,33,50,56,100] mixed rfl (by kernel_rfl) (by kernel_rfl) (by kernel_rfl) ?_;simp -dsimp [hn,hxe,hne,hlt,hlet,hLi,hL,hw,hok,hwl,hs])|(with_reducible refine DT_regionE [0,1,4,5,6,7,9,10,11,12,13,14,30,31,32,33,50,56,100] ?_;simp -dsimp [hn,hxe,hne,hlt,hlet,hLi,hL,hw,hok,hwl,hs])|(refine DT_cond rfl (fun h=>?_) (fun h=>?_)<;>(try simp only [nrm] at h)<;>(try exact Bool.noConfusion h))
    all_goals try simp -dsimp [hn,hxe,hne,hlt,hlet,hLi,hL,hw,hok,hwl,hs]
    all_goals try clear hs
    all_goals exact At.round ⟨(i + 1,gn + 1,false,R ++ [newI c.reg x n dm],L.set i ((cntN c.reg n:Int) + 1)),by omega,by simp only [List.length_append,List.length_singleton];omega,by simp only [List.length_set];omega,hgo⟩ (by simp;omega) (Weak.of_drop [0,1,4,5,6,30,31,32] 19 (by simp) (by simp) (by simp [hw,happ,encI,rI]))
  ·rw [if_pos he] at hgo
   have hE:changedE c f=e:=by rw [changedE,hgo0,hgo,if_pos he]
   have hR':changedR c f=zChains:=by rw [changedR,if_neg (by rw [hE];exact he)]
   rw [hE,hR']
   have hs:True:=trivial
   repeat' first|(with_reducible first|refine q01 ?_|refine q02 ?_|refine q05 ?_|refine q11 ?_|refine q12 ?_|refine q14 ?_|refine q17 ?_)|(with_reducible refine At.fn_ret (by simp -dsimp [hn,hxe,hne,hlt,hw,hok,he,hs];exact rfl) ?_)|(refine CallE.pure (hcn) ?_;try simp -dsimp [hn,hxe,hne,hlt,hw,hok,he,hs])|(with_reducible refine DT_regionE [0,1,4,5,6,7,9,10,11,12,13,14,30,31,32,33,50,56,100] ?_;simp -dsimp [hn,hxe,hne,hlt,hw,hok,he,hs])|(refine DT_cond rfl (fun h=>?_) (fun h=>?_)<;>(try simp only [nrm] at h)<;>(try exact Bool.noConfusion h))
   all_goals try simp -dsimp [hn,hxe,hne,hlt,hw,hok,he,hs]
   all_goals try clear hs
   all_goals simp [zChains]
 ·obtain rfl:i=N.length:=by omega
  rw [List.drop_eq_nil_of_le (Nat.le_refl _),chGo] at hgo
  rw [hgo0,hgo] at hok0
  simp only at hok0
  obtain ⟨k1,k2,k3,k4⟩:=hok0
  have c6:=sortG_c (G:=G) hSF k1 k2 (by have:=hsm.1.1;omega) gn nl
  have c7:=fun objs=>fn_im (containsFunc_int (G:=G) L (fun n=>decide (8 < n)) 126 [] objs (by simp) (fun y _=>big_c (G:=G) y objs) (by have:=hsm.2.1;omega))
  have hSl:=sortG_len R
  have hE:changedE c f=if 60 < R.length∨(L.any fun n=>decide (8 < n))=true then 9 else 0:=by rw [changedE,hgo0,hgo];simp
  have hC:changedC c f={ reg:=sortG R,lets:=L,of:=c.of,loops:=c.loops }:=by rw [changedC,hgo0,hgo]
  have htk:(ims (L.map Ab.encI)).take L.length=ims (L.map Ab.encI):=List.take_of_length_le (by simp [ims_length])
  simp only [← hL]
  by_cases h60:60 < R.length
  ·have h60':(60:Int) < (R.length:Int):=by omega
   rw [if_pos (.inl h60)] at hE
   rw [changedR,hE,if_neg (by decide)]
   have hs:True:=trivial
   repeat' first|(with_reducible first|refine q01 ?_|refine q02 ?_|refine q03 ?_|refine q06 ?_|refine q11 ?_|refine q16 ?_|refine q17 ?_)|(with_reducible refine At.fn_ret (by simp -dsimp [hlt,h60',hs];exact rfl) ?_)|(refine CallE.embed [14] (c6) ?_ ?_ ?_ ?_ ?_ ?_;(focus (simp [emb];done));(focus (simp;done));(focus (simp;done));(focus (simp;done));(focus (refine emb_all ?_;simp [emb,embAll];done));try simp -dsimp [mergeO,emb,hlt,h60',hs])|(with_reducible refine DT_regionE [0,1,4,5,6,7,9,10,11,12,13,14,30,31,32,33,50,56,100] ?_;simp -dsimp [hlt,h60',hs])|(refine DT_cond rfl (fun h=>?_) (fun h=>?_)<;>(try simp only [nrm] at h)<;>(try exact Bool.noConfusion h))
   all_goals try simp -dsimp [hlt,h60',hs]
   all_goals try clear hs
   all_goals simp [zChains]
  ·have h60':¬ (60:Int) < (R.length:Int):=by omega
   cases hany:L.any fun n=>decide (8 < n)
   ·simp only [hany] at c7 hE
    rw [if_neg (by simp [h60])] at hE
    rw [changedR,hE,if_pos rfl,hC]
    have hs:True:=trivial
    repeat' first|(with_reducible first|refine q01 ?_|refine q03 ?_|refine q06 ?_|refine q11 ?_|refine q14 ?_|refine q16 ?_|refine q17 ?_)|(with_reducible refine At.fn_ret (by simp -dsimp [hlt,h60',hs];exact rfl) ?_)|(refine CallE.embed [14] (c6) ?_ ?_ ?_ ?_ ?_ ?_;(focus (simp [emb];done));(focus (simp;done));(focus (simp;done));(focus (simp;done));(focus (refine emb_all ?_;simp [emb,embAll];done));try simp -dsimp [mergeO,emb,hlt,h60',hs])|(refine CallE.thaw (c7) ?_ ?_ ?_;(focus (simp;done));(focus (simp;done));try simp -dsimp [hlt,h60',hs])|(with_reducible refine DT_regionE [0,1,4,5,6,7,9,10,11,12,13,14,30,31,32,33,50,56,100] ?_;simp -dsimp [hlt,h60',hs])|(refine DT_cond rfl (fun h=>?_) (fun h=>?_)<;>(try simp only [nrm] at h)<;>(try exact Bool.noConfusion h))
    all_goals try simp -dsimp [hlt,h60',hs]
    all_goals try clear hs
    all_goals (rw [← hSl];simp)
   ·simp only [hany] at c7 hE
    rw [if_pos (.inr trivial)] at hE
    rw [changedR,hE,if_neg (by decide)]
    have hs:True:=trivial
    repeat' first|(with_reducible first|refine q01 ?_|refine q02 ?_|refine q03 ?_|refine q06 ?_|refine q11 ?_|refine q16 ?_|refine q17 ?_)|(with_reducible refine At.fn_ret (by simp -dsimp [hlt,h60',hs];exact rfl) ?_)|(refine CallE.embed [14] (c6) ?_ ?_ ?_ ?_ ?_ ?_;(focus (simp [emb];done));(focus (simp;done));(focus (simp;done));(focus (simp;done));(focus (refine emb_all ?_;simp [emb,embAll];done));try simp -dsimp [mergeO,emb,hlt,h60',hs])|(refine CallE.thaw (c7) ?_ ?_ ?_;(focus (simp;done));(focus (simp;done));try simp -dsimp [hlt,h60',hs])|(with_reducible refine DT_regionE [0,1,4,5,6,7,9,10,11,12,13,14,30,31,32,33,50,56,100] ?_;simp -dsimp [hlt,h60',hs])|(refine DT_cond rfl (fun h=>?_) (fun h=>?_)<;>(try simp only [nrm] at h)<;>(try exact Bool.noConfusion h))
    all_goals try simp -dsimp [hlt,h60',hs]
    all_goals try clear hs
    all_goals simp [zChains]
end Go.Proofs
namespace Go.Proofs
open Go Go.Ab
set_option linter.unusedSimpArgs false
variable {G:Nat→Option (List IC)}
set_option maxHeartbeats 4000000 in
theorem pFewest_c (c:Chains) (hG:sheetG G) (hC:chainG G) (hsm:SmallC c) (hSF:SortFOk G) (objs:List DObj):DCall Tryz.prog G 40 [chv c] objs (fun rr objs'=>rr=.tup [spotsv (fewR c),iv (fewE c)]∧objs'=objs):=by
 refine DCall.frame ?_ (by simp) (by simp) objs
 refine DCall_intro Tryz.func40 rfl Tryz.ntmps40 (by simp) rfl ?_
 try simp only [chv]
 have c1:=chOpen_c c hG hC hsm
 simp only [spotsv]
 by_cases h00:chainsE c=0
 ·have hOk:=okC h00
  have c2:=spotsF_c (G:=G) (deskC c (cntD c) (tkM c.reg c.lets))
  have c3:=collect_c (G:=G) c (cntD c) hOk hsm hSF
  rw [h00] at c1
  simp only [deskR,h00,if_true,deskC] at c1
  simp only [deskC] at c2 c3
  by_cases h12:12 < (allSpots c).length
  ·have hE:fewE c=4:=by rw [fewE,if_neg (by simp [h00]),if_pos h12]
   rw [fewR,hE,if_neg (by decide)]
   have h12':(12:Int) < ((allSpots c).length:Int):=by omega
   have hs:True:=trivial
   repeat' first|(with_reducible first|refine q01 ?_|refine q02 ?_|refine q11 ?_|refine q14 ?_|refine q17 ?_)|(with_reducible refine At.fn_ret (by simp -dsimp [h12,h12',hs];exact rfl) ?_)|(refine CallE.pure (c1) ?_;try simp -dsimp [h12,h12',hs])|(refine CallE.pure (c2) ?_;try simp -dsimp [h12,h12',hs])|(refine CallE.pure (c3) ?_;try simp -dsimp [h12,h12',hs])|(with_reducible refine DT_regionE [0,1,2,3,4,5,6,7,8,9,10,11,12,13,20,27,30,31,32,34,35,36,37,45,85,89] ?_;simp -dsimp [h12,h12',hs])|(refine DT_cond rfl (fun h=>?_) (fun h=>?_)<;>(try simp only [nrm] at h)<;>(try exact Bool.noConfusion h))
   all_goals try simp -dsimp [h12,h12',hs]
   all_goals try clear hs
  ·have hEE:fewE c=if hasG c then 0 else 6:=by rw [fewE,if_neg (by simp [h00]),if_neg h12]
   have h12':¬ (12:Int) < ((allSpots c).length:Int):=by omega
   have hnone:=fewest_none hOk
   have hF:fewest c=fewestTo c none (2 ^ (allSpots c).length):=rfl
   have hF0:fewestTo c none 0=none:=rfl
   have hst:=fewestTo_succ c none
   have hgd:∀ x,goodF c x=allT c (inS x) 0:=fun _=>rfl
   have hwr:=fun (l:List Spot) (hl:l.length < 1000000)=>pwrong_c (G:=G) c (cntD c) (fewF l) (inS l) 0 0 (Nat.zero_le _) hsm.2.2.1 hOk (few_so c hl) (by decide) (by decide)
   have hfind:=fun l:List Spot=>allT_find c (inS l) 0
   generalize hS:allSpots c=S at *
   have hPe:(2:Nat) ^ S.length≤2 ^ 12:=Nat.pow_le_pow_right (by omega) (by omega)
   have hmin:min S.length 64=S.length:=by omega
   have hb64:IntKind.i64.bits=64:=rfl
   have hlnn:¬ ((S.length:Int) < 0):=by omega
   have hsh:IntKind.i64.wrap ((2:Int) ^ S.length)=((2 ^ S.length:Nat):Int):=by
    rw [show ((2:Int) ^ S.length)=((2 ^ S.length:Nat):Int) by simp]
    exact (fun (P:Nat) (h:P≤2 ^ 12)=>(i64w (by omega) (by omega):IntKind.i64.wrap (P:Int)=(P:Int))) _ hPe
   generalize hP:2 ^ S.length=P at *
   have hs:True:=trivial
   repeat' first|(with_reducible first|refine q01 ?_|refine q11 ?_|refine q12 ?_|refine q14 ?_)|(refine CallE.pure (c1) ?_;try simp -dsimp [h12,h12',hmin,hb64,hlnn,hsh,hs])|(refine CallE.pure (c2) ?_;try simp -dsimp [h12,h12',hmin,hb64,hlnn,hsh,hs])|(refine CallE.pure (c3) ?_;try simp -dsimp [h12,h12',hmin,hb64,hlnn,hsh,hs])|(with_reducible refine DT_regionE [0,1,2,3,4,5,6,7,8,9,10,11,12,13,20,27,30,31,32,34,35,36,37,45,85,89] ?_;simp -dsimp [h12,h12',hmin,hb64,hlnn,hsh,hs])|(refine DT_cond rfl (fun h=>?_) (fun h=>?_)<;>(try simp only [nrm] at h)<;>(try exact Bool.noConfusion h))
   all_goals try simp -dsimp [h12,h12',hmin,hb64,hlnn,hsh,hs]
   all_goals try clear hs
   refine DT_loop (ι:={ p:Nat×Option (List Spot) // p.1≤P∧p.2=fewestTo c none p.1∧∀ b,p.2=some b→b.length≤12 }) (fun p=>⟨91,[(4,.one (.im (deskC c (cntD c) (tkM c.reg c.lets)))),(6,.one (.im (.sl (S.map encSpot)))),(7,.one (.im (.sl ((p.1.2.getD []).map encSpot)))),(8,bv p.1.2.isSome),(30,iv (P:Int)),(31,iv (p.1.1:Int))],[]⟩) (fun p=>P - p.1.1) ⟨(0,none),by simp [hF0]⟩ (Weak.of_drop [4,6,7,8,30,31] 0 (by simp) (by simp) (by simp [deskC])) ?_
   rintro ⟨⟨s,best⟩,hs1,hbest,hbl⟩
   simp only at hs1 hbest hbl
   simp only [iv,bv,deskC]
   by_cases hlt:s < P
   ·have hw:IntKind.i64.wrap ((s:Int) + 1)=((s + 1:Nat):Int):=i64w (by omega) (by omega)
    have hs:True:=trivial
    repeat' first|(with_reducible first|refine q01 ?_|refine q11 ?_|refine q12 ?_|refine q14 ?_)|(with_reducible refine DT_regionE [0,1,2,3,4,5,6,7,8,9,10,11,12,13,20,27,30,31,32,34,35,36,37,45,85,89] ?_;simp -dsimp [hlt,hs])|(refine DT_cond rfl (fun h=>?_) (fun h=>?_)<;>(try simp only [nrm] at h)<;>(try exact Bool.noConfusion h))
    all_goals try simp -dsimp [hlt,hs]
    all_goals try clear hs
    refine DT_loop (ι:={ p:Nat×Nat×Nat×Bool // p.1≤S.length∧(p.2.2.1=2∨p.2.2.2=true) }) (fun p=>⟨91,[(4,.one (.im (deskC c (cntD c) (tkM c.reg c.lets)))),(6,.one (.im (.sl (S.map encSpot)))),(7,.one (.im (.sl ((best.getD []).map encSpot)))),(8,bv best.isSome),(9,iv (s:Int)),(10,.one (.ptr 1 0)),(30,iv (P:Int)),(31,iv (s:Int)),(34,.one (.im (.sl (S.map encSpot)))),(35,iv (S.length:Int)),(36,iv (p.1.1:Int))],[.vec p.1.2.2.1 (ims ((memb S s p.1.1).map encSpot)) p.1.2.1 p.1.2.2.2,.row [.vec 0 p.1.2.1 0 (memb S s p.1.1).length]]⟩) (fun p=>S.length - p.1.1) ⟨(0,0,0,true),by simp⟩ (Weak.of_keep [4,6,7,8,9,10,30,31,34,35,36] (by simp [deskC,memb])) ?_
    rintro ⟨⟨i,gn,sz,nl⟩,hi,hz⟩
    simp only at hi hz
    simp only [iv,bv,deskC]
    have hmlen:=memb_len S s i
    by_cases hlti:i < S.length
    ·have hx:S[i]?=some S[i]:=by simp [hlti]
     have hwi:IntKind.i64.wrap ((i:Int) + 1)=((i + 1:Nat):Int):=i64w (by omega) (by omega)
     have hi63:min i 64=i:=by omega
     have hin:¬ ((i:Int) < 0):=by omega
     have hbit:=bit_at' s i
     have hsu:=memb_succ (set:=s) hlti
     generalize hxe:S[i]=x at *
     cases hb:s.testBit i
     ·rw [hb] at hbit hsu
      simp at hbit
      rw [if_neg Bool.false_ne_true,List.append_nil] at hsu
      have hs:True:=trivial
      repeat' first|(with_reducible first|refine q01 ?_|refine q04 ?_|refine q11 ?_|refine q12 ?_|refine q14 ?_)|(with_reducible refine DT_regionE [0,1,2,3,4,5,6,7,8,9,10,11,12,13,20,27,30,31,32,34,35,36,37,45,85,89] ?_;simp -dsimp [hx,hxe,hlti,hwi,hin,hi63,hb64,hbit,hs])|(refine DT_cond rfl (fun h=>?_) (fun h=>?_)<;>(try simp only [nrm] at h)<;>(try exact Bool.noConfusion h))
      all_goals try simp -dsimp [hx,hxe,hlti,hwi,hin,hi63,hb64,hbit,hs]
      all_goals try clear hs
      all_goals exact At.round ⟨(i + 1,gn,sz,nl),by omega,hz⟩ (by simp;omega) (Weak.of_drop [4,6,7,8,9,10,30,31,34,35,36] 2 (by simp) (by simp) (by simp [deskC,hsu]))
     ·rw [hb] at hbit hsu
      simp at hbit
      rw [if_pos rfl] at hsu
      generalize memb S s i=L at *
      have hs:True:=trivial
      repeat' first|(with_reducible first|refine q01 ?_|refine q04 ?_|refine q11 ?_|refine q12 ?_|refine q14 ?_|refine And.intro (by omega) ?_)|(with_reducible refine DT_regionE [0,1,2,3,4,5,6,7,8,9,10,11,12,13,20,27,30,31,32,34,35,36,37,45,85,89] ?_;simp -dsimp [hx,hxe,hlti,hwi,hin,hi63,hb64,hbit,hz,hs])|(refine DT_cond rfl (fun h=>?_) (fun h=>?_)<;>(try simp only [nrm] at h)<;>(try exact Bool.noConfusion h))
      all_goals try simp -dsimp [hx,hxe,hlti,hwi,hin,hi63,hb64,hbit,hz,hs]
      all_goals try clear hs
      all_goals try omega
      all_goals exact At.round ⟨(i + 1,gn + 1,2,false),by simp;omega⟩ (by simp;omega) (Weak.of_drop [4,6,7,8,9,10,30,31,34,35,36] 2 (by simp) (by simp) (by simp [deskC,hsu]))
    ·have hie:i=S.length:=by omega
     subst hie
     have hstep:=hst s
     rw [← hbest] at hstep
     rw [stepF,hgd] at hstep
     have hwL:=hwr (memb S s S.length) (by omega)
     have hfL:=hfind (memb S s S.length)
     generalize memb S s S.length=L at *
     simp only [deskC,fewF,Int.natCast_zero] at hwL
     generalize findW c (inS L) 0 0=m at *
     generalize allT c (inS L) 0=r at *
     have hr:r=decide ((m:Int)=(c.loops.length:Int)):=by
      rw [Bool.eq_iff_iff,hfL,decide_eq_true_iff];omega
     cases best with
     | none =>
       simp only [betterS,Bool.true_and] at hstep
       by_cases hm:(m:Int)=(c.loops.length:Int)
       ·rw [hr,decide_eq_true hm,if_pos rfl] at hstep
        have hs:True:=trivial
        repeat' first|(with_reducible first|refine q01 ?_|refine q03 ?_|refine q04 ?_|refine q06 ?_|refine q11 ?_|refine q16 ?_)|(refine QCall.thaw (hwL) ?_ ?_ ?_;(focus (simp;done));(focus (simp;done));try simp -dsimp [hlti,hw,hm,hz,hs])|(refine DT_regionM (id:=20) (nt:=91) 13 [0,1,2,3,4,5,6,7,8,9,10,11,12,13,20,27,30,31,32,34,35,36,37,45,85,89] mixed rfl (by kernel_rfl) ?_;simp -dsimp [hlti,hw,hm,hz,hs])|(with_reducible refine DT_regionE [0,1,2,3,4,5,6,7,8,9,10,11,12,13,20,27,30,31,32,34,35,36,37,45,85,89] ?_;simp -dsimp [hlti,hw,hm,hz,hs])|(refine DT_cond rfl (fun h=>?_) (fun h=>?_)<;>(try simp only [nrm] at h)<;>(try exact Bool.noConfusion h))
        all_goals try simp -dsimp [hlti,hw,hm,hz,hs]
        all_goals try clear hs
        all_goals exact At.round ⟨(s + 1,some L),by omega,hstep.symm,fun b hb=>by cases hb;omega⟩ (by simp;omega) (Weak.of_drop [4,6,7,8,30,31] 0 (by simp) (by simp) (by simp [deskC]))
       ·rw [hr,decide_eq_false hm,if_neg Bool.false_ne_true] at hstep
        have hs:True:=trivial
        repeat' first|(with_reducible first|refine q01 ?_|refine q03 ?_|refine q04 ?_|refine q06 ?_|refine q11 ?_|refine q14 ?_|refine q16 ?_)|(refine QCall.thaw (hwL) ?_ ?_ ?_;(focus (simp;done));(focus (simp;done));try simp -dsimp [hlti,hw,hm,hz,hs])|(refine DT_regionM (id:=20) (nt:=91) 13 [0,1,2,3,4,5,6,7,8,9,10,11,12,13,20,27,30,31,32,34,35,36,37,45,85,89] mixed rfl (by kernel_rfl) ?_;simp -dsimp [hlti,hw,hm,hz,hs])|(with_reducible refine DT_regionE [0,1,2,3,4,5,6,7,8,9,10,11,12,13,20,27,30,31,32,34,35,36,37,45,85,89] ?_;simp -dsimp [hlti,hw,hm,hz,hs])|(refine DT_cond rfl (fun h=>?_) (fun h=>?_)<;>(try simp only [nrm] at h)<;>(try exact Bool.noConfusion h))
        all_goals try simp -dsimp [hlti,hw,hm,hz,hs]
        all_goals try clear hs
        all_goals exact At.round ⟨(s + 1,none),by omega,hstep.symm,fun b hb=>by cases hb⟩ (by simp;omega) (Weak.of_drop [4,6,7,8,30,31] 0 (by simp) (by simp) (by simp [deskC]))
     | some b =>
       have hbl':=hbl b rfl
       simp only [betterS] at hstep
       have hsh2:=shorter_iff (a:=L) (b:=b)
       have c4:=cmpL_c (G:=G) L b (by omega) (by omega)
       have hlx:=cmpL_lt (a:=L) (b:=b)
       simp only [spotsv] at c4
       generalize cmpL L b=q at *
       by_cases hl1:L.length < b.length
       ·have hs2:shorterS L b=true:=hsh2.2 (.inl hl1)
        by_cases hm:(m:Int)=(c.loops.length:Int)
        ·simp only [hs2,hr,decide_eq_true hm,Bool.and_self,if_true] at hstep
         have hs:True:=trivial
         repeat' first|(with_reducible first|refine q01 ?_|refine q03 ?_|refine q04 ?_|refine q06 ?_|refine q11 ?_|refine q16 ?_)|(refine QCall.thaw (hwL) ?_ ?_ ?_;(focus (simp;done));(focus (simp;done));try simp -dsimp [hlti,hw,hm,hz,hl1,hs])|(refine DT_regionM (id:=20) (nt:=91) 13 [0,1,2,3,4,5,6,7,8,9,10,11,12,13,20,27,30,31,32,34,35,36,37,45,85,89] mixed rfl (by kernel_rfl) ?_;simp -dsimp [hlti,hw,hm,hz,hl1,hs])|(with_reducible refine DT_regionE [0,1,2,3,4,5,6,7,8,9,10,11,12,13,20,27,30,31,32,34,35,36,37,45,85,89] ?_;simp -dsimp [hlti,hw,hm,hz,hl1,hs])|(refine DT_cond rfl (fun h=>?_) (fun h=>?_)<;>(try simp only [nrm] at h)<;>(try exact Bool.noConfusion h))
         all_goals try simp -dsimp [hlti,hw,hm,hz,hl1,hs]
         all_goals try clear hs
         all_goals exact At.round ⟨(s + 1,some L),by omega,hstep.symm,fun b hb=>by cases hb;omega⟩ (by simp;omega) (Weak.of_drop [4,6,7,8,30,31] 0 (by simp) (by simp) (by simp [deskC]))
        ·simp only [hs2,hr,decide_eq_false hm,Bool.and_false,Bool.false_eq_true,if_false] at hstep
         have hs:True:=trivial
         repeat' first|(with_reducible first|refine q01 ?_|refine q03 ?_|refine q04 ?_|refine q06 ?_|refine q11 ?_|refine q14 ?_|refine q16 ?_)|(refine QCall.thaw (hwL) ?_ ?_ ?_;(focus (simp;done));(focus (simp;done));try simp -dsimp [hlti,hw,hm,hz,hl1,hs])|(refine DT_regionM (id:=20) (nt:=91) 13 [0,1,2,3,4,5,6,7,8,9,10,11,12,13,20,27,30,31,32,34,35,36,37,45,85,89] mixed rfl (by kernel_rfl) ?_;simp -dsimp [hlti,hw,hm,hz,hl1,hs])|(with_reducible refine DT_regionE [0,1,2,3,4,5,6,7,8,9,10,11,12,13,20,27,30,31,32,34,35,36,37,45,85,89] ?_;simp -dsimp [hlti,hw,hm,hz,hl1,hs])|(refine DT_cond rfl (fun h=>?_) (fun h=>?_)<;>(try simp only [nrm] at h)<;>(try exact Bool.noConfusion h))
         all_goals try simp -dsimp [hlti,hw,hm,hz,hl1,hs]
         all_goals try clear hs
         all_goals exact At.round ⟨(s + 1,some b),by omega,hstep.symm,hbl⟩ (by simp;omega) (Weak.of_drop [4,6,7,8,30,31] 0 (by simp) (by simp) (by simp [deskC]))
       ·by_cases hl2:L.length=b.length
        ·have hl2':((L.length:Int)=(b.length:Int))=True:=eq_true (by omega)
         by_cases hq:q < 0
         ·have hs2:shorterS L b=true:=hsh2.2 (.inr ⟨hl2,(hlx hl2).1 hq⟩)
          by_cases hm:(m:Int)=(c.loops.length:Int)
          ·simp only [hs2,hr,decide_eq_true hm,Bool.and_self,if_true] at hstep
           have hs:True:=trivial
           repeat' first|(with_reducible first|refine q01 ?_|refine q03 ?_|refine q04 ?_|refine q06 ?_|refine q11 ?_|refine q16 ?_)|(refine QCall.thaw (hwL) ?_ ?_ ?_;(focus (simp;done));(focus (simp;done));try simp -dsimp [hlti,hw,hm,hz,hl1,hl2',hq,hs])|(refine CallE.thaw (c4) ?_ ?_ ?_;(focus (simp;done));(focus (simp;done));try simp -dsimp [hlti,hw,hm,hz,hl1,hl2',hq,hs])|(refine DT_regionM (id:=20) (nt:=91) 13 [0,1,2,3,4,5,6,7,8,9,10,11,12,13,20,27,30,31,32,34,35,36,37,45,85,89] mixed rfl (by kernel_rfl) ?_;simp -dsimp [hlti,hw,hm,hz,hl1,hl2',hq,hs])|(with_reducible refine DT_regionE [0,1,2,3,4,5,6,7,8,9,10,11,12,13,20,27,30,31,32,34,35,36,37,45,85,89] ?_;simp -dsimp [hlti,hw,hm,hz,hl1,hl2',hq,hs])|(refine DT_cond rfl (fun h=>?_) (fun h=>?_)<;>(try simp only [nrm] at h)<;>(try exact Bool.noConfusion h))
           all_goals try simp -dsimp [hlti,hw,hm,hz,hl1,hl2',hq,hs]
           all_goals try clear hs
           all_goals exact At.round ⟨(s + 1,some L),by omega,hstep.symm,fun b hb=>by cases hb;omega⟩ (by simp;omega) (Weak.of_drop [4,6,7,8,30,31] 0 (by simp) (by simp) (by simp [deskC]))
          ·simp only [hs2,hr,decide_eq_false hm,Bool.and_false,Bool.false_eq_true,if_false] at hstep
           have hs:True:=trivial
           repeat' first|(with_reducible first|refine q01 ?_|refine q03 ?_|refine q04 ?_|refine q06 ?_|refine q11 ?_|refine q14 ?_|refine q16 ?_)|(refine QCall.thaw (hwL) ?_ ?_ ?_;(focus (simp;done));(focus (simp;done));try simp -dsimp [hlti,hw,hm,hz,hl1,hl2',hq,hs])|(refine CallE.thaw (c4) ?_ ?_ ?_;(focus (simp;done));(focus (simp;done));try simp -dsimp [hlti,hw,hm,hz,hl1,hl2',hq,hs])|(refine DT_regionM (id:=20) (nt:=91) 13 [0,1,2,3,4,5,6,7,8,9,10,11,12,13,20,27,30,31,32,34,35,36,37,45,85,89] mixed rfl (by kernel_rfl) ?_;simp -dsimp [hlti,hw,hm,hz,hl1,hl2',hq,hs])|(with_reducible refine DT_regionE [0,1,2,3,4,5,6,7,8,9,10,11,12,13,20,27,30,31,32,34,35,36,37,45,85,89] ?_;simp -dsimp [hlti,hw,hm,hz,hl1,hl2',hq,hs])|(refine DT_cond rfl (fun h=>?_) (fun h=>?_)<;>(try simp only [nrm] at h)<;>(try exact Bool.noConfusion h))
           all_goals try simp -dsimp [hlti,hw,hm,hz,hl1,hl2',hq,hs]
           all_goals try clear hs
           all_goals exact At.round ⟨(s + 1,some b),by omega,hstep.symm,hbl⟩ (by simp;omega) (Weak.of_drop [4,6,7,8,30,31] 0 (by simp) (by simp) (by simp [deskC]))
         ·have hs2:shorterS L b=false:=by
           rw [← Bool.not_eq_true,hsh2,← hlx hl2];omega
          simp only [hs2,Bool.false_and,Bool.false_eq_true,if_false] at hstep
          have hs:True:=trivial
          repeat' first|(with_reducible first|refine q01 ?_|refine q03 ?_|refine q04 ?_|refine q06 ?_|refine q11 ?_|refine q14 ?_|refine q16 ?_)|(refine CallE.thaw (c4) ?_ ?_ ?_;(focus (simp;done));(focus (simp;done));try simp -dsimp [hlti,hw,hz,hl1,hl2',hq,hs])|(refine DT_regionM (id:=20) (nt:=91) 13 [0,1,2,3,4,5,6,7,8,9,10,11,12,13,20,27,30,31,32,34,35,36,37,45,85,89] mixed rfl (by kernel_rfl) ?_;simp -dsimp [hlti,hw,hz,hl1,hl2',hq,hs])|(with_reducible refine DT_regionE [0,1,2,3,4,5,6,7,8,9,10,11,12,13,20,27,30,31,32,34,35,36,37,45,85,89] ?_;simp -dsimp [hlti,hw,hz,hl1,hl2',hq,hs])|(refine DT_cond rfl (fun h=>?_) (fun h=>?_)<;>(try simp only [nrm] at h)<;>(try exact Bool.noConfusion h))
          all_goals try simp -dsimp [hlti,hw,hz,hl1,hl2',hq,hs]
          all_goals try clear hs
          all_goals exact At.round ⟨(s + 1,some b),by omega,hstep.symm,hbl⟩ (by simp;omega) (Weak.of_drop [4,6,7,8,30,31] 0 (by simp) (by simp) (by simp [deskC]))
        ·have hl2':¬ (L.length:Int)=(b.length:Int):=by omega
         have hs2:shorterS L b=false:=by
          rw [← Bool.not_eq_true,hsh2];omega
         simp only [hs2,Bool.false_and,Bool.false_eq_true,if_false] at hstep
         have hs:True:=trivial
         repeat' first|(with_reducible first|refine q01 ?_|refine q03 ?_|refine q04 ?_|refine q06 ?_|refine q11 ?_|refine q14 ?_|refine q16 ?_)|(refine DT_regionM (id:=20) (nt:=91) 13 [0,1,2,3,4,5,6,7,8,9,10,11,12,13,20,27,30,31,32,34,35,36,37,45,85,89] mixed rfl (by kernel_rfl) ?_;simp -dsimp [hlti,hw,hz,hl1,hl2',hs])|(with_reducible refine DT_regionE [0,1,2,3,4,5,6,7,8,9,10,11,12,13,20,27,30,31,32,34,35,36,37,45,85,89] ?_;simp -dsimp [hlti,hw,hz,hl1,hl2',hs])|(refine DT_cond rfl (fun h=>?_) (fun h=>?_)<;>(try simp only [nrm] at h)<;>(try exact Bool.noConfusion h))
         all_goals try simp -dsimp [hlti,hw,hz,hl1,hl2',hs]
         all_goals try clear hs
         all_goals exact At.round ⟨(s + 1,some b),by omega,hstep.symm,hbl⟩ (by simp;omega) (Weak.of_drop [4,6,7,8,30,31] 0 (by simp) (by simp) (by simp [deskC]))
   ·have hsP:s=P:=by omega
    subst hsP
    rw [← hF] at hbest
    rw [← hbest] at hnone
    cases best with
    | none =>
      have hg:=hnone.1 rfl
      have hE:fewE c=6:=by rw [hEE,hg];rfl
      rw [fewR,hE,if_neg (by decide)]
      have hs:True:=trivial
      repeat' first|(with_reducible first|refine q01 ?_|refine q02 ?_|refine q03 ?_|refine q06 ?_|refine q11 ?_|refine q16 ?_|refine q17 ?_)|(with_reducible refine At.fn_ret (by simp -dsimp [hlt,hs];exact rfl) ?_)|(with_reducible refine DT_regionE [0,1,2,3,4,5,6,7,8,9,10,11,12,13,20,27,30,31,32,34,35,36,37,45,85,89] ?_;simp -dsimp [hlt,hs])|(refine DT_cond rfl (fun h=>?_) (fun h=>?_)<;>(try simp only [nrm] at h)<;>(try exact Bool.noConfusion h))
      all_goals try simp -dsimp [hlt,hs]
      all_goals try clear hs
    | some b =>
      have hg:hasG c=true:=by
       cases hq:hasG c with
       | true=>rfl
       | false=>have:=hnone.2 hq;cases this
      have hE:fewE c=0:=by rw [hEE,hg];rfl
      rw [fewR,hE,if_pos rfl,← hbest]
      have hs:True:=trivial
      repeat' first|(with_reducible first|refine q01 ?_|refine q03 ?_|refine q06 ?_|refine q11 ?_|refine q14 ?_|refine q16 ?_|refine q17 ?_)|(with_reducible refine At.fn_ret (by simp -dsimp [hlt,hs];exact rfl) ?_)|(with_reducible refine DT_regionE [0,1,2,3,4,5,6,7,8,9,10,11,12,13,20,27,30,31,32,34,35,36,37,45,85,89] ?_;simp -dsimp [hlt,hs])|(refine DT_cond rfl (fun h=>?_) (fun h=>?_)<;>(try simp only [nrm] at h)<;>(try exact Bool.noConfusion h))
      all_goals try simp -dsimp [hlt,hs]
      all_goals try clear hs
 ·obtain ⟨X,hX⟩:=deskR_one c
  rw [hX] at c1
  have hE:fewE c=chainsE c:=by rw [fewE,if_pos h00]
  rw [fewR,hE,if_neg h00]
  have hs:True:=trivial
  repeat' first|(with_reducible first|refine q01 ?_|refine q02 ?_|refine q11 ?_|refine q17 ?_)|(with_reducible refine At.fn_ret (by simp -dsimp [h00,hs];exact rfl) ?_)|(refine CallE.pure (c1) ?_;try simp -dsimp [h00,hs])|(with_reducible refine DT_regionE [0,1,2,3,4,5,6,7,8,9,10,11,12,13,20,27,30,31,32,34,35,36,37,45,85,89] ?_;simp -dsimp [h00,hs])|(refine DT_cond rfl (fun h=>?_) (fun h=>?_)<;>(try simp only [nrm] at h)<;>(try exact Bool.noConfusion h))
  all_goals try simp -dsimp [h00,hs]
  all_goals try clear hs
end Go.Proofs
