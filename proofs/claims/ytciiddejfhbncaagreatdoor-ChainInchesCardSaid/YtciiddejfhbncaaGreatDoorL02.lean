/- Part 30 of the proofs: laws and walks that hold without conditions beyond those that each theorem names. -/
import Derived.Test.YtciiddejfhbncaaGreatDoorP26
import Derived.Test.YtciiddejfhbncaaGreatDoorP27
import Derived.Test.YtciiddejfhbncaaGreatDoorP28
set_option linter.all false
set_option linter.deprecated false
namespace Go.Proofs
open Go Go.Ab
def pre (p:Option Issue) (x:Issue):List Int:=match p with|some y=>if y.drawing=x.drawing then [] else [x.drawing]|none=>[x.drawing]
def good (p:Option Issue) (x:Issue):Prop:=issueOk x=true∧match p with|some y=>y.drawing=x.drawing∧y.letter + 1=x.letter∧y.kind=x.kind∨y.drawing < x.drawing∧x.letter=1|none=>x.letter=1
theorem scan_good {p:Option Issue} {x:Issue} {r:List Issue} (h:good p x):scanI p (x :: r)=(scanI (some x) r).map (pre p x ++ ·):=by
 obtain ⟨h1,h2⟩:=h
 cases p with
 | none=>simp only at h2;simp [scanI,h1,h2,pre]
 | some y =>
   simp only at h2
   rcases h2 with ⟨a,b,c⟩|⟨a,b⟩
   ·simp [scanI,h1,a,b,c,pre]
   ·have h3:¬ y.drawing=x.drawing:=by omega
    have h4:¬ y.drawing > x.drawing:=by omega
    simp [scanI,h1,h3,h4,b,pre]
theorem scan_iff {p:Option Issue} {x:Issue} {r:List Issue} {ds:List Int}:scanI p (x :: r)=some ds↔good p x∧∃ ds',scanI (some x) r=some ds'∧ds=pre p x ++ ds':=by
 constructor
 ·intro h
  have hg:good p x:=by
   have hs:(scanI p (x :: r)).isSome=true:=by rw [h];rfl
   cases p with
   | none=>exact ((scan_iff0 x r).1 hs).1
   | some y=>exact ((scan_iff1 y x r).1 hs).1
  rw [scan_good hg,Option.map_eq_some_iff] at h
  obtain ⟨ds',h1,h2⟩:=h
  exact ⟨hg,ds',h1,h2.symm⟩
 ·rintro ⟨hg,ds',h1,rfl⟩
  rw [scan_good hg,h1];rfl
theorem scan_kind:∀ (l:List Issue) (p:Option Issue) (ds:List Int),scanI p l=some ds→(∀ y,p=some y→∀ a∈l,a.drawing=y.drawing→a.kind=y.kind)∧∀ a∈l,∀ b∈l,a.drawing=b.drawing→a.kind=b.kind
 | [],p,ds,_=>by simp
 | x :: r,p,ds,h=>by
   obtain ⟨hg,ds',h1,_⟩:=scan_iff.1 h
   obtain ⟨i1,i2⟩:=scan_kind r (some x) ds' h1
   have i1:=i1 x rfl
   have hsp:=(scan_spec r (some x) ds' h1).2.2.1 x rfl
   refine ⟨fun y hy a ha hd=>?_,fun a ha b hb hd=>?_⟩
   ·subst hy
    rcases hg.2 with ⟨e1,_,e3⟩|⟨e1,_⟩
    ·rcases List.mem_cons.1 ha with rfl|ha
     ·exact e3.symm
     ·rw [i1 a ha (by omega),e3]
    ·rcases List.mem_cons.1 ha with rfl|ha
     ·omega
     ·have:=hsp a ha;omega
   ·rcases List.mem_cons.1 ha with ea|ha'<;>rcases List.mem_cons.1 hb with eb|hb'
    ·rw [ea,eb]
    ·rw [ea] at hd ⊢;exact (i1 b hb' hd.symm).symm
    ·rw [eb] at hd ⊢;exact i1 a ha' hd
    ·exact i2 a ha' b hb' hd
def extG (N:Int→List Issue):List Issue→List Issue
 | []=>[]
 | [x]=>x :: N x.drawing
 | x :: y :: r=>if x.drawing=y.drawing then x :: extG N (y :: r) else x :: (N x.drawing ++ extG N (y :: r))
theorem extG_head (N:Int→List Issue) (y:Issue) (r:List Issue):∃ s,extG N (y :: r)=y :: s:=by
 cases r with
 | nil=>exact ⟨_,rfl⟩
 | cons z r =>
   rw [extG];split
   ·exact ⟨_,rfl⟩
   ·exact ⟨_,rfl⟩
theorem scan_swap {x z y:Issue} {s:List Issue} (h1:z.drawing=x.drawing) (h2:x.drawing < y.drawing):scanI (some z) (y :: s)=scanI (some x) (y :: s):=by
 have n1:¬ z.drawing=y.drawing:=by omega
 have n2:¬ x.drawing=y.drawing:=by omega
 have n3:¬ z.drawing > y.drawing:=by omega
 have n4:¬ x.drawing > y.drawing:=by omega
 simp only [scanI,n1,n2,n3,n4,if_false]
theorem scan_ext {N:Int→List Issue} (hN1:∀ d,(N d).length≤1):∀ (l:List Issue) (p:Option Issue) (ds:List Int),scanI p l=some ds→(∀ y,p=some y→0≤y.letter) →
 (∀ x∈l,∀ z∈N x.drawing,z.drawing=x.drawing∧issueOk z=true∧z.kind=x.kind∧z.letter=plI p x.drawing + cntN l x.drawing + 1)→scanI p (extG N l)=some ds
 | [],p,ds,h,_,_=>h
 | [x],p,ds,h,hp,hN=>by
   obtain ⟨hg,ds',h1,h2⟩:=scan_iff.1 h
   have hds':ds'=[]:=by simpa [scanI] using h1.symm
   subst hds'
   rw [extG,scan_iff]
   refine ⟨hg,[],?_,h2⟩
   have hlen:=hN1 x.drawing
   have hNx:=hN x (by simp)
   cases hz:N x.drawing with
   | nil=>simp [scanI]
   | cons z t =>
     rw [hz] at hlen hNx
     have ht:t=[]:=by cases t with|nil=>rfl|cons _ _=>simp at hlen
     subst ht
     obtain ⟨z1,z2,z3,z4⟩:=hNx z (by simp)
     rw [cntN_cons,if_pos rfl] at z4
     have hx:x.letter=plI p x.drawing + 1:=by
      have:=hg.2
      cases p with
      | none=>simpa [plI] using this
      | some y =>
        simp only at this
        rcases this with ⟨a,b,_⟩|⟨a,b⟩
        ·simp only [plI,if_pos a];omega
        ·simp only [plI];rw [if_neg (by omega)];omega
     have:cntN [] x.drawing=0:=rfl
     rw [scan_iff]
     exact ⟨⟨z2,.inl ⟨z1.symm,by omega,z3.symm⟩⟩,[],by simp [scanI],by simp [pre,z1]⟩
 | x :: y :: r,p,ds,h,hp,hN=>by
   obtain ⟨hg,ds',h1,h2⟩:=scan_iff.1 h
   have hkeys:=scan_keys (x :: y :: r) p ds h hp
   have hx1:1≤x.letter:=(hkeys.2.2 x (by simp)).1
   have hx:x.letter=plI p x.drawing + 1:=by
    have:=hg.2
    cases p with
    | none=>simpa [plI] using this
    | some y =>
      simp only at this
      rcases this with ⟨a,b,_⟩|⟨a,b⟩
      ·simp only [plI,if_pos a];omega
      ·simp only [plI];rw [if_neg (by omega)];omega
   have ih:=scan_ext hN1 (y :: r) (some x) ds' h1 (fun y e=>by cases e;omega) (fun w hw z hz=>by
    obtain ⟨z1,z2,z3,z4⟩:=hN w (List.mem_cons_of_mem _ hw) z hz
    refine ⟨z1,z2,z3,?_⟩
    rw [z4,cntN_cons]
    have hxw:=(List.pairwise_cons.1 hkeys.2.1).1 w hw
    by_cases e:x.drawing=w.drawing
    ·rw [if_pos e,plI,if_pos e,← e,hx];omega
    ·rw [if_neg e,plI,if_neg e]
     have:plI p w.drawing=0:=by
      cases p with
      | none=>rfl
      | some y0 =>
        have h3:=hkeys.1 y0 rfl x (by simp)
        simp only [plI];rw [if_neg (by omega)]
     omega)
   obtain ⟨s,hs⟩:=extG_head N y r
   rw [extG]
   split
   ·rw [scan_iff];exact ⟨hg,ds',ih,h2⟩
   ·rename_i hxy
    have hlt:x.drawing < y.drawing:=by
     have:=(List.pairwise_cons.1 hkeys.2.1).1 y (by simp);omega
    have hlen:=hN1 x.drawing
    have hNx:=hN x (by simp)
    rw [scan_iff]
    refine ⟨hg,ds',?_,h2⟩
    cases hz:N x.drawing with
    | nil=>exact ih
    | cons z t =>
      rw [hz] at hlen hNx
      have ht:t=[]:=by cases t with|nil=>rfl|cons _ _=>simp at hlen
      subst ht
      obtain ⟨z1,z2,z3,z4⟩:=hNx z (by simp)
      have hc0:cntN (y :: r) x.drawing=0:=by
       unfold cntN
       rw [List.filter_eq_nil_iff.2 fun w hw=>by
        have:=(List.pairwise_cons.1 hkeys.2.1).1 w hw
        have h4:=(scan_spec (y :: r) (some x) ds' h1).2.1
        rw [List.map_cons,List.pairwise_cons] at h4
        rcases List.mem_cons.1 hw with rfl|hw
        ·simp;omega
        ·have:=h4.1 w.drawing (List.mem_map.2 ⟨w,hw,rfl⟩);simp;omega]
       rfl
      rw [cntN_cons,if_pos rfl,hc0] at z4
      show scanI (some x) (z :: extG N (y :: r))=some ds'
      rw [scan_iff]
      refine ⟨⟨z2,.inl ⟨z1.symm,by omega,z3.symm⟩⟩,ds',?_,by simp [pre,z1]⟩
      rw [hs,scan_swap z1 hlt,← hs];exact ih
def dd:List Issue→List Int
 | []=>[]
 | [x]=>[x.drawing]
 | x :: y :: r=>if x.drawing=y.drawing then dd (y :: r) else x.drawing :: dd (y :: r)
theorem extG_perm (N:Int→List Issue):∀ l,(extG N l).Perm (l ++ (dd l).flatMap N)
 | []=>.refl _
 | [x]=>by simp [extG,dd]
 | x :: y :: r=>by
   have ih:=extG_perm N (y :: r)
   rw [extG,dd]
   split
   ·exact ih.cons x
   ·rw [List.flatMap_cons]
    refine List.Perm.cons x ?_
    refine ((List.Perm.refl (N x.drawing)).append ih).trans ?_
    show (N x.drawing ++ ((y :: r) ++ _)).Perm ((y :: r) ++ (N x.drawing ++ _))
    rw [← List.append_assoc,← List.append_assoc]
    exact (List.perm_append_comm).append_right _
theorem scan_dd:∀ (l:List Issue) (p:Option Issue) (ds:List Int),scanI p l=some ds→dd l=match l with|[]=>ds|x :: _=>match p with|some y=>if y.drawing=x.drawing then x.drawing :: ds else ds|none=>ds
 | [],p,ds,h=>by
   have:ds=[]:=by cases p<;>simpa [scanI] using h.symm
   subst this;rfl
 | [x],p,ds,h=>by
   obtain ⟨hg,ds',h1,h2⟩:=scan_iff.1 h
   have hds':ds'=[]:=by simpa [scanI] using h1.symm
   subst hds'
   rw [h2,dd]
   cases p with
   | none=>rfl
   | some y=>simp only [pre];split<;>rfl
 | x :: y :: r,p,ds,h=>by
   obtain ⟨hg,ds',h1,h2⟩:=scan_iff.1 h
   have ih:=scan_dd (y :: r) (some x) ds' h1
   simp only at ih
   rw [dd,h2]
   have key:(if x.drawing=y.drawing then dd (y :: r) else x.drawing :: dd (y :: r))=x.drawing :: ds':=by
    split
    ·rename_i e;rw [ih,if_pos e,e]
    ·rename_i e;rw [ih,if_neg e]
   rw [key]
   cases p with
   | none=>rfl
   | some z=>simp only [pre];split<;>rfl
theorem scan_dd0 {l:List Issue} {ds:List Int} (h:scanI none l=some ds):dd l=ds:=by
 have:=scan_dd l none ds h
 cases l with
 | nil=>exact this
 | cons x r=>exact this
theorem scan_sortedG {l:List Issue} {ds:List Int} (h:scanI none l=some ds):SortedG l:=by
 have:=(scan_keys l none ds h (fun y e=>by cases e)).2.1
 refine this.imp fun {a b} h=>?_
 rw [cmpG_lt];omega
theorem mx_ext {f g:Int→Int} {l l':List Int} (hfg:∀ c∈l,f c=g c) (h:∀ c,c∈l↔c∈l'):mx f l=mx g l':=by
 rw [mx_congr hfg]
 exact Int.le_antisymm (mx_le (mx_nonneg _ _) fun c hc=>le_mx ((h c).1 hc)) (mx_le (mx_nonneg _ _) fun c hc=>le_mx ((h c).2 hc))
theorem Rr_ext {l l':List Issue} (h:∀ n c,c∈chI l n↔c∈chI l' n):∀ (k:Nat) (n:Int),Rr l k n=Rr l' k n
 | 0,_=>rfl
 | k + 1,n=>by rw [Rr,Rr,mx_ext (fun c _=>Rr_ext h k c) (h n)]
theorem leaves_ext {tk tk':Int→Issue} (h:∀ n,(tk n).kind=(tk' n).kind∧(tk n).items=(tk' n).items):∀ (k:Nat) (d m:Int),leavesF tk k d m=leavesF tk' k d m
 | 0,_,_=>rfl
 | k + 1,d,m=>by
   rw [leavesF,leavesF,(h d).1,(h d).2]
   simp only [leaves_ext h k]
end Go.Proofs
namespace Go.Proofs
open Go Go.Ab
def newOf (reg:List Issue) (B:List (Int×Issue)) (f:Issue→List Dim×Int) (n:Int):List Issue:=if (f (mlookS B n)).1=(mlookS B n).dims then [] else [newI reg (mlookS B n) n (f (mlookS B n)).1]
theorem chGo_eq {reg:List Issue} {B:List (Int×Issue)} {f:Issue→List Dim×Int}:∀ (r:List Int) (i:Nat) (R:List Issue) (L:List Int),(chGo reg B f r i R L).2.2=0 →
 (∀ n∈r,(f (mlookS B n)).2=0)∧(chGo reg B f r i R L).1=R ++ r.flatMap (newOf reg B f)∧(∀ j,j < i→(chGo reg B f r i R L).2.1[j]?=L[j]?) ∧
 ∀ (k:Nat) (n:Int),r[k]?=some n→i + k < L.length→(chGo reg B f r i R L).2.1[i + k]?=if (f (mlookS B n)).1=(mlookS B n).dims then L[i + k]? else some ((cntN reg n:Int) + 1)
 | [],i,R,L,_=>by simp [chGo]
 | n :: r,i,R,L,h=>by
   unfold chGo at h ⊢
   split at h
   ·rename_i h0;exact absurd h h0
   ·rename_i h0
    have h0:(f (mlookS B n)).2=0:=Classical.byContradiction h0
    rw [if_neg (by simp [h0])]
    split at h
    ·rename_i he
     obtain ⟨a,b,d,e⟩:=chGo_eq r (i + 1) R L h
     rw [if_pos he]
     refine ⟨fun m hm=>?_,?_,fun j hj=>d j (by omega),fun k m hk hl=>?_⟩
     ·rcases List.mem_cons.1 hm with rfl|hm
      ·exact h0
      ·exact a m hm
     ·rw [b,List.flatMap_cons,newOf,if_pos he];simp
     ·cases k with
      | zero =>
        simp at hk;subst hk
        rw [if_pos he];exact d (i + 0) (by omega)
      | succ k =>
        have:=e k m (by simpa using hk) (by omega)
        rw [show i + (k + 1)=i + 1 + k by omega];exact this
    ·rename_i he
     obtain ⟨a,b,d,e⟩:=chGo_eq r (i + 1) _ _ h
     rw [if_neg he]
     refine ⟨fun m hm=>?_,?_,fun j hj=>?_,fun k m hk hl=>?_⟩
     ·rcases List.mem_cons.1 hm with rfl|hm
      ·exact h0
      ·exact a m hm
     ·rw [b,List.flatMap_cons]
      have:newOf reg B f n=[newI reg (mlookS B n) n (f (mlookS B n)).1]:=by rw [newOf,if_neg he]
      rw [this];simp
     ·rw [d j (by omega),List.getElem?_set_ne (by omega)]
     ·cases k with
      | zero =>
        simp at hk;subst hk
        rw [if_neg he,d (i + 0) (by omega),Nat.add_zero,List.getElem?_set_self (by omega)]
      | succ k =>
        have:=e k m (by simpa using hk) (by rw [List.length_set];omega)
        rw [show i + (k + 1)=i + 1 + k by omega,this,List.getElem?_set_ne (by omega)]
def FOk (c:Chains) (f:Issue→List Dim×Int):Prop:=∀ n∈nums c.reg,(f (takeI c.reg c.lets n)).2=0→(f (takeI c.reg c.lets n)).1.length=(takeI c.reg c.lets n).dims.length∧∀ d∈(f (takeI c.reg c.lets n)).1,dimOk d=true
def newT (c:Chains) (f:Issue→List Dim×Int) (n:Int):Issue:=if (f (takeI c.reg c.lets n)).1=(takeI c.reg c.lets n).dims then takeI c.reg c.lets n else newI c.reg (takeI c.reg c.lets n) n (f (takeI c.reg c.lets n)).1
theorem newT_is (c:Chains) (f:Issue→List Dim×Int) (n:Int):(newT c f n).kind=(takeI c.reg c.lets n).kind∧(newT c f n).items=(takeI c.reg c.lets n).items∧(newT c f n).drawing=(takeI c.reg c.lets n).drawing∧(newT c f n).dims=(f (takeI c.reg c.lets n)).1:=by
 unfold newT;split
 ·rename_i h;exact ⟨rfl,rfl,rfl,h.symm⟩
 ·exact ⟨rfl,rfl,rfl,rfl⟩
theorem issueOk_iff (x:Issue):issueOk x=true↔(1≤x.drawing∧x.drawing≤9999∧1≤x.letter∧x.letter≤8∧(x.kind=1∧1≤x.items.length∧x.items.length≤8∧x.dims.length=0∨2≤x.kind∧x.kind≤3∧x.dims.length≤4∧x.items.length=0))∧itemsOk x.drawing 0 x.items=true∧∀ d∈x.dims,dimOk d=true:=by
 rw [issueOk,Bool.and_eq_true,Bool.and_eq_true,ck12_iff,List.all_eq_true,and_assoc]
theorem chI_mem {l:List Issue} {n c:Int}:c∈chI l n↔∃ x∈l,x.drawing=n∧∃ y∈x.items,y.drawing=c:=by
 simp only [chI,segI,List.mem_flatMap,List.mem_filter,decide_eq_true_eq,List.mem_map,and_assoc]
theorem take_none {l:List Issue} {lets:List Int} {n:Int} (h:checkR l=0) (hn:n∉nums l):takeI l lets n=zIssue:=by
 have:findI l n ((lets[(idx (nums l) n).toNat]?).getD 0)=none:=by
  rw [findI,List.find?_eq_none]
  intro x hx
  have:=(check_nums h).2 x hx
  simp only [Bool.and_eq_true,beq_iff_eq,not_and]
  intro e;subst e;exact absurd this hn
 rw [takeI,this];rfl
structure Changed (c:Chains) (f:Issue→List Dim×Int):Prop where
 reg:checkR (changedC c f).reg=0
 nums:nums (changedC c f).reg=nums c.reg
 mem:∀ x,x∈(changedC c f).reg↔x∈c.reg∨∃ n∈Go.Proofs.nums c.reg,(f (takeI c.reg c.lets n)).1≠(takeI c.reg c.lets n).dims∧x=newI c.reg (takeI c.reg c.lets n) n (f (takeI c.reg c.lets n)).1
 len:(changedC c f).reg.length=c.reg.length + ((Go.Proofs.nums c.reg).filter fun n=>decide ((f (takeI c.reg c.lets n)).1≠(takeI c.reg c.lets n).dims)).length
 letl:(changedC c f).lets.length=c.lets.length
 letAt:∀ (k:Nat) (n:Int),(Go.Proofs.nums c.reg)[k]?=some n→(changedC c f).lets[k]?=if (f (takeI c.reg c.lets n)).1=(takeI c.reg c.lets n).dims then c.lets[k]? else some ((cntN c.reg n:Int) + 1)
 lets:lettersI (changedC c f).reg (changedC c f).lets=true
 take:∀ n∈Go.Proofs.nums c.reg,takeI (changedC c f).reg (changedC c f).lets n=newT c f n
 err:∀ n∈Go.Proofs.nums c.reg,(f (takeI c.reg c.lets n)).2=0
 chE:chainsE (changedC c f)=0
 ok:OkC (changedC c f)
 small:SmallC (changedC c f)
 smallG:SmallG (changedC c f)
theorem changed_all {c:Chains} {f:Issue→List Dim×Int} (h0:chainsE c=0) (hsm:SmallC c) (hf:FOk c f) (hE:changedE c f=0):Changed c f:=by
 have hOk:=okC h0
 have hB:∀ n∈nums c.reg,mlookS (tkM c.reg c.lets) n=takeI c.reg c.lets n:=fun n hn=>by rw [tkM,mlookS_map,if_pos hn]
 have hgo:=chGo0_ok f hOk hsm
 have hE1:(chGo0 c f).2.2=0:=Classical.byContradiction fun h=>by rw [changedE,if_pos h] at hE;exact h hE
 have hE2:¬ (60 < (chGo0 c f).1.length∨((chGo0 c f).2.1.any fun n=>decide (8 < n))=true):=fun h=>by
  rw [changedE,if_neg (by simp [hE1]),if_pos h] at hE;cases hE
 obtain ⟨g1,g2,_,g4⟩:=chGo_eq (nums c.reg) 0 c.reg c.lets hE1
 have hll:c.lets.length=(nums c.reg).length:=by
  have:=hOk.lets
  simp only [lettersI,Bool.and_eq_true,decide_eq_true_eq] at this;exact this.1
 have g1':∀ n∈nums c.reg,(f (takeI c.reg c.lets n)).2=0:=fun n hn=>by have:=g1 n hn;rwa [hB n hn] at this
 have hfo:=fun n hn=>hf n hn (g1' n hn)
 have hletAt:∀ (k:Nat) (n:Int),(nums c.reg)[k]?=some n→(changedC c f).lets[k]?=if (f (takeI c.reg c.lets n)).1=(takeI c.reg c.lets n).dims then c.lets[k]? else some ((cntN c.reg n:Int) + 1):=fun k n hk=>by
  have:=g4 k n hk (by have:=lt_of_getElem? hk;omega)
  rw [hB n (List.mem_of_getElem? hk),Nat.zero_add] at this
  exact this
 have hNmem:∀ n∈nums c.reg,∀ z,z∈newOf c.reg (tkM c.reg c.lets) f n↔(f (takeI c.reg c.lets n)).1≠(takeI c.reg c.lets n).dims∧z=newI c.reg (takeI c.reg c.lets n) n (f (takeI c.reg c.lets n)).1:=fun n hn z=>by
  rw [newOf,hB n hn];split
  ·rename_i h;simp [h]
  ·rename_i h;simp [h]
 have hN1:∀ d,(newOf c.reg (tkM c.reg c.lets) f d).length≤1:=fun d=>by rw [newOf];split<;>simp
 have hscan:=listed_scan (check_listed hOk.reg)
 have hnd:(nums c.reg).Nodup:=(check_nums hOk.reg).1.imp fun h=>Int.ne_of_lt h
 have hlet8:∀ n∈nums c.reg,(f (takeI c.reg c.lets n)).1≠(takeI c.reg c.lets n).dims→(cntN c.reg n:Int) + 1≤8:=fun n hn hne=>by
  obtain ⟨k,hk⟩:=List.mem_iff_getElem?.1 hn
  have h1:=hletAt k n hk
  rw [if_neg hne] at h1
  refine Classical.byContradiction fun hgt=>hE2 (.inr ?_)
  rw [List.any_eq_true]
  exact ⟨_,List.mem_of_getElem? h1,by simp;omega⟩
 have hTk:=fun n hn=>take_spec hOk.reg hOk.lets (d:=n) hn
 have hokI:=(scan_all hscan).2.2.2.1
 have hNok:∀ x∈c.reg,∀ z∈newOf c.reg (tkM c.reg c.lets) f x.drawing,z.drawing=x.drawing∧issueOk z=true∧z.kind=x.kind∧z.letter=plI none x.drawing + cntN c.reg x.drawing + 1:=fun x hx z hz=>by
  have hn:=(check_nums hOk.reg).2 x hx
  obtain ⟨hne,rfl⟩:=(hNmem _ hn z).1 hz
  obtain ⟨t1,t2,_⟩:=hTk _ hn
  have t3:=(issueOk_iff _).1 (hokI _ t1)
  have t4:=hfo _ hn
  have t5:=hlet8 _ hn hne
  have tk:=(scan_kind c.reg none _ hscan).2 _ t1 x hx t2
  generalize takeI c.reg c.lets x.drawing=T at *
  refine ⟨t2,(issueOk_iff _).2 ?_,tk,by simp [newI,plI]⟩
  simp only [newI]
  exact ⟨⟨t3.1.1,t3.1.2.1,by omega,t5,by have:=t3.1.2.2.2.2;rw [t4.1];exact this⟩,t3.2.1,t4.2⟩
 have hext:=scan_ext hN1 c.reg none _ hscan (fun y e=>by cases e) hNok
 have hperm:=extG_perm (newOf c.reg (tkM c.reg c.lets) f) c.reg
 rw [scan_dd0 hscan] at hperm
 have hraw:(chGo0 c f).1=c.reg ++ (nums c.reg).flatMap (newOf c.reg (tkM c.reg c.lets) f):=g2
 have hreg:(changedC c f).reg=extG (newOf c.reg (tkM c.reg c.lets) f) c.reg:=by
  show sortG _=_
  rw [hraw]
  refine (sortG_unique hperm ?_ (scan_sortedG hext)).symm
  rw [← hraw];exact hgo.2.1
 have hperm':(changedC c f).reg.Perm (c.reg ++ (nums c.reg).flatMap (newOf c.reg (tkM c.reg c.lets) f)):=by rw [hreg];exact hperm
 rw [← hreg] at hext
 have hnums:nums (changedC c f).reg=nums c.reg:=(scan_nums hext).symm
 have hmem:∀ x,x∈(changedC c f).reg↔x∈c.reg∨∃ n∈nums c.reg,(f (takeI c.reg c.lets n)).1≠(takeI c.reg c.lets n).dims∧x=newI c.reg (takeI c.reg c.lets n) n (f (takeI c.reg c.lets n)).1:=fun x=>by
  rw [hperm'.mem_iff,List.mem_append,List.mem_flatMap]
  refine or_congr Iff.rfl (exists_congr fun n=>and_congr_right fun hn=>hNmem n hn x)
 have hfl:∀ ns:List Int,(∀ n∈ns,n∈nums c.reg)→(ns.flatMap (newOf c.reg (tkM c.reg c.lets) f)).length=(ns.filter fun n=>decide ((f (takeI c.reg c.lets n)).1≠(takeI c.reg c.lets n).dims)).length:=fun ns=>by
  induction ns with
  | nil=>intro _;rfl
  | cons n ns ih =>
    intro hns
    rw [List.flatMap_cons,List.length_append,ih fun m hm=>hns m (List.mem_cons_of_mem _ hm),newOf,hB n (hns n (by simp)),List.filter_cons]
    by_cases h:(f (takeI c.reg c.lets n)).1=(takeI c.reg c.lets n).dims
    ·simp [h]
    ·simp [h];omega
 have hlen:(changedC c f).reg.length=c.reg.length + ((nums c.reg).filter fun n=>decide ((f (takeI c.reg c.lets n)).1≠(takeI c.reg c.lets n).dims)).length:=by
  rw [hperm'.length_eq,List.length_append,hfl _ fun n hn=>hn]
 have hchI:∀ n d,d∈chI (changedC c f).reg n↔d∈chI c.reg n:=fun n d=>by
  rw [chI_mem,chI_mem]
  constructor
  ·rintro ⟨x,hx,h1,h2⟩
   rcases (hmem x).1 hx with hx|⟨m,hm,_,rfl⟩
   ·exact ⟨x,hx,h1,h2⟩
   ·obtain ⟨t1,t2,_⟩:=hTk m hm
    exact ⟨_,t1,h1,h2⟩
  ·rintro ⟨x,hx,h1,h2⟩
   exact ⟨x,(hmem x).2 (.inl hx),h1,h2⟩
 have hchk:checkR (changedC c f).reg=0:=by
  have hL:listedI (changedC c f).reg=true:=by
   have h1:=check_listed hOk.reg
   simp only [listedI,Bool.and_eq_true,decide_eq_true_eq] at h1 ⊢
   rw [hext,hnums]
   refine ⟨⟨⟨⟨?_,?_⟩,rfl⟩,?_⟩,h1.2⟩
   ·rw [hlen];omega
   ·have:(changedC c f).reg.length=(chGo0 c f).1.length:=sortG_len _
    omega
   ·rw [List.all_eq_true]
    intro x hx
    have h2:=h1.1.2
    rw [List.all_eq_true] at h2
    rcases (hmem x).1 hx with hx|⟨m,hm,_,rfl⟩
    ·exact h2 x hx
    ·obtain ⟨t1,t2,_⟩:=hTk m hm
     have h3:=h2 _ t1
     exact h3
  have hD:depthsL (changedC c f).reg=depthsL c.reg:=by
   rw [depthsL,depthsL,hnums]
   exact List.map_congr_left fun n _=>Rr_ext (fun n d=>hchI n d) _ n
  have h1:=hOk.reg
  rw [checkR,if_neg (by simp [check_listed hOk.reg])] at h1
  rw [checkR,if_neg (by simp [hL]),hD];exact h1
 have hletl:(changedC c f).lets.length=c.lets.length:=hgo.2.2.2
 have hfind:∀ (k:Nat) (n lt:Int),(nums c.reg)[k]?=some n→(changedC c f).lets[k]?=some lt→newT c f n∈(changedC c f).reg∧(newT c f n).drawing=n∧(newT c f n).letter=lt:=fun k n lt hk hlt=>by
  have hn:=List.mem_of_getElem? hk
  obtain ⟨t1,t2,k',lt',e1,e2,e3⟩:=hTk n hn
  obtain rfl:k'=k:=(List.getElem?_inj (lt_of_getElem? e1) hnd).1 (e1.trans hk.symm)
  have h1:=hletAt k' n hk
  rw [hlt] at h1
  unfold newT
  split
  ·rename_i h
   rw [if_pos h,e2] at h1
   cases h1
   obtain ⟨_,_,f3⟩:=find_some e3
   exact ⟨(hmem _).2 (.inl t1),t2,f3⟩
  ·rename_i h
   rw [if_neg h] at h1
   cases h1
   exact ⟨(hmem _).2 (.inr ⟨n,hn,h,rfl⟩),t2,rfl⟩
 have hlets:lettersI (changedC c f).reg (changedC c f).lets=true:=by
  refine zip_good hchk (by rw [hletl,hnums,hll]) fun k h1 h2=>?_
  have e1:(nums c.reg)[k]?=some (nums (changedC c f).reg)[k]:=by rw [← hnums];exact List.getElem?_eq_getElem h1
  obtain ⟨a,b,d⟩:=hfind k _ _ e1 (List.getElem?_eq_getElem h2)
  exact (find_iff _ _ _).2 ⟨_,a,b,d⟩
 have htake:∀ n∈nums c.reg,takeI (changedC c f).reg (changedC c f).lets n=newT c f n:=fun n hn=>by
  obtain ⟨t1,t2,k,lt,e1,e2,e3⟩:=take_spec hchk hlets (d:=n) (by rw [hnums];exact hn)
  obtain ⟨_,_,f3⟩:=find_some e3
  rw [hnums] at e1
  obtain ⟨a,b,d⟩:=hfind k n lt e1 e2
  exact (reg_keys hchk).1 _ t1 _ a (by rw [t2,b]) (by rw [f3,d])
 have hki:∀ n,(takeI (changedC c f).reg (changedC c f).lets n).kind=(takeI c.reg c.lets n).kind∧(takeI (changedC c f).reg (changedC c f).lets n).items=(takeI c.reg c.lets n).items:=fun n=>by
  by_cases hn:n∈nums c.reg
  ·rw [htake n hn];exact ⟨(newT_is c f n).1,(newT_is c f n).2.1⟩
  ·rw [take_none hchk (by rw [hnums];exact hn),take_none hOk.reg hn];exact ⟨rfl,rfl⟩
 have hparts:partsI (changedC c f).reg (changedC c f).lets (changedC c f).of=partsI c.reg c.lets c.of:=by
  rw [partsI,partsI,cntI,cntI,hnums]
  show (((nums c.reg).zip (addL (nums c.reg) _ (leavesF (takeI (changedC c f).reg (changedC c f).lets) 6 c.of 1))).filter _).map _=_
  rw [leaves_ext hki]
 have hch:chainsE (changedC c f)=0:=by
  have h1:=h0
  rw [chainsE_zero hOk.reg] at h1
  rw [chainsE_zero hchk]
  split at h1
  ·rename_i h
   rw [if_pos]
   obtain ⟨a,b,d,e⟩:=h
   refine ⟨hlets,by rw [hnums];exact b,d,?_⟩
   rw [List.all_eq_true] at e ⊢
   intro x hx
   have e1:=e x hx
   simp only [loopOkR,Bool.and_eq_true,List.all_eq_true] at e1 ⊢
   refine ⟨e1.1,fun y hy=>?_⟩
   have e2:=e1.2 y hy
   have hyn:=(hOk.link x hx y hy).1
   have hdl:(takeI (changedC c f).reg (changedC c f).lets y.drawing).dims.length=(takeI c.reg c.lets y.drawing).dims.length:=by
    rw [htake _ hyn,(newT_is c f _).2.2.2,(hfo _ hyn).1]
   rw [linkOkR] at e2 ⊢
   rw [hparts,hdl];exact e2
  ·cases h1
 have hokI':=(scan_all hext).2.2.2.1
 have hSmR:SmallR (changedC c f).reg:=by
  refine ⟨?_,fun x hx=>?_⟩
  ·have:(changedC c f).reg.length=(chGo0 c f).1.length:=sortG_len _
   omega
  ·have h1:=(issueOk_iff x).1 (hokI' x hx)
   omega
 exact ⟨hchk,hnums,hmem,hlen,hletl,hletAt,hlets,htake,g1',hch,okC hch,⟨hSmR,by rw [hletl];exact hsm.2.1,hsm.2.2⟩,⟨⟨hSmR.1,fun x hx=>(hSmR.2 x hx).2.2⟩,by rw [hletl];exact hsm.2.1,hsm.2.2⟩⟩
end Go.Proofs
namespace Go.Proofs
open Go Go.Ab
theorem issue_dims {c:Chains} (hOk:OkC c) {x:Issue} (hx:x∈c.reg):∀ d∈x.dims,dimOk d=true:=((issueOk_iff x).1 ((scan_all (listed_scan (check_listed hOk.reg))).2.2.2.1 x hx)).2.2
end Go.Proofs
namespace Go.Proofs
open Go Go.Ab
end Go.Proofs
namespace Go.Proofs
open Go Go.Ab
structure ProofOf (c:Chains) (L:Nat) (x:ChLoop) (S:List Int):Prop where
 at':c.loops[L]?=some x
 len:S.length=x.links.length
 within:∀ (k:Nat) (y:Link) (n:Int),x.links[k]?=some y→S[k]?=some n→(dimAt c y).lower≤n∧n≤(dimAt c y).upper
 near:∀ (k:Nat) (y:Link) (n:Int),x.links[k]?=some y→S[k]?=some n→spotOf y∈allSpots c→n - midD (dimAt c y)≤gradeN c + 1∧midD (dimAt c y) - n≤gradeN c + 1
 out:sumZ x.links S < x.lo∨x.hi < sumZ x.links S
end Go.Proofs
namespace Go.Ab
open Go
end Go.Ab
namespace Go.Proofs
open Go Go.Ab
end Go.Proofs
namespace Go.Ab
open Go
end Go.Ab
namespace Go.Proofs
open Go Go.Ab
end Go.Proofs
namespace Go.Proofs
open Go Go.Ab
structure Wider (c Y:Chains) (k:Nat) (x:ChLoop) (a b:Int):Prop where
 chE:chainsE Y=0
 small:SmallC Y
 closes:∀ so g,allT c so g=true→allT Y so g=true
 spots:allSpots Y=allSpots c
 loose:looseR Y=looseR c
 lo:loopsE Y (k:Int)=0∧rLo Y k=rLo c k∧rHi Y k=rHi c k∧closesK Y k=if a≤rLo c k∧rHi c k≤b then 2 else if rHi c k < a∨b < rLo c k then 0 else 1
end Go.Proofs
namespace Go.Proofs
open Go Go.Ab
theorem st_pos (n:Int):1≤stU n∧stU n≤254:=by unfold stU;split<;>omega
theorem rup_mod {n s:Int} (h0:0≤n) (h2:1≤s):rup n s % s=0∧rdn n s % s=0:=by
 have e1:rdn n s % s=0:=by
  unfold rdn
  exact Int.emod_eq_zero_of_dvd (Int.dvd_self_sub_emod)
 refine ⟨?_,e1⟩
 unfold rup;split
 ·assumption
 ·rw [Int.add_emod,show (n - n % s) % s=0 from e1];simp
theorem cv_ok {d:Dim} {n:Int} (hd:dimOk d=true) (hE:cvE d n=0):dimOk (cvD d n)=true∧d.lower≤(cvD d n).lower∧(cvD d n).upper≤d.upper∧(cvD d n).nominal % stU n=0∧(cvD d n).lower % stU n=0∧(cvD d n).upper % stU n=0:=by
 have hle:(agnD d (stU n)).lower≤(agnD d (stU n)).upper:=by
  rw [cvE] at hE;split at hE
  ·assumption
  ·cases hE
 rw [cvD,if_pos hle]
 rw [dimOk_iff] at hd ⊢
 have hs:=st_pos n
 have e1:=rdn_le (n:=d.nominal) (s:=stU n) (by omega) hs.1
 have e2:=rdn_le (n:=d.lower) (s:=stU n) (by omega) hs.1
 have e3:=rdn_le (n:=d.upper) (s:=stU n) (by omega) hs.1
 have m1:=rup_mod (n:=d.nominal) (s:=stU n) (by omega) hs.1
 have m2:=rup_mod (n:=d.lower) (s:=stU n) (by omega) hs.1
 have m3:=rup_mod (n:=d.upper) (s:=stU n) (by omega) hs.1
 simp only [agnD] at hle ⊢
 refine ⟨?_,by omega,by omega,?_,m2.1,m3.2⟩
 ·split<;>omega
 ·split
  ·exact m1.2
  ·exact m1.1
theorem rd_fok {c:Chains} (hOk:OkC c) (n:Int):FOk c (rdF c n):=fun m hm h0=>by
 obtain ⟨t1,_⟩:=take_spec hOk.reg hOk.lets hm
 have hd:=issue_dims hOk t1
 generalize takeI c.reg c.lets m=T at *
 unfold rdF at h0 ⊢
 by_cases hz:mlook (cntD c) T.drawing=0
 ·rw [if_pos hz];exact ⟨rfl,hd⟩
 ·rw [if_neg hz] at h0 ⊢
  by_cases hr:rdOk n T.dims=true
  ·rw [if_pos hr]
   refine ⟨by simp,fun d h=>?_⟩
   obtain ⟨d0,h1,rfl⟩:=List.mem_map.1 h
   rw [rdOk,List.all_eq_true] at hr
   have:=hr d0 h1
   simp only [decide_eq_true_eq] at this
   exact (cv_ok (hd d0 h1) this).1
  ·rw [if_neg hr] at h0;simp at h0
theorem chGo_errs {reg:List Issue} {B:List (Int×Issue)} {f:Issue→List Dim×Int} (h:∀ x,(f x).2=0∨(f x).2=6):∀ (r:List Int) (i:Nat) (R:List Issue) (L:List Int),(chGo reg B f r i R L).2.2=0∨(chGo reg B f r i R L).2.2=6
 | [],_,_,_=>.inl rfl
 | n :: r,i,R,L=>by
   unfold chGo
   split
   ·rename_i h0
    rcases h (mlookS B n) with h1|h1
    ·exact absurd h1 h0
    ·exact .inr h1
   ·split
    ·exact chGo_errs h r _ _ _
    ·exact chGo_errs h r _ _ _
theorem redE_three {c:Chains} (h0:chainsE c=0) {n:Int} (hn:n=1∨n=2):(redE c n=0∧changedE c (rdF c n)=0∧redR c n=changedC c (rdF c n))∨redE c n=6∨redE c n=9:=by
 have hE:redE c n=changedE c (rdF c n):=by rw [redE,if_neg (by simp [h0]),if_pos hn]
 have h1:(chGo0 c (rdF c n)).2.2=0∨(chGo0 c (rdF c n)).2.2=6:=chGo_errs (fun x=>by
  unfold rdF;split
  ·exact .inl rfl
  ·split
   ·exact .inl rfl
   ·exact .inr rfl) _ _ _ _
 rcases h1 with h1|h1
 ·have h2:changedE c (rdF c n)=0∨changedE c (rdF c n)=9:=by
   rw [changedE,if_neg (by simp [h1])];split<;>simp
  rcases h2 with h2|h2
  ·exact .inl ⟨by rw [hE,h2],h2,by rw [redR,if_pos (by rw [hE,h2])]⟩
  ·exact .inr (.inr (by rw [hE,h2]))
 ·exact .inr (.inl (by rw [hE,changedE,if_pos (by rw [h1];decide),h1]))
structure Inches (c:Chains) (n:Int) (X:Chains):Prop where
 ch:Changed c (rdF c n)
 eq:X=changedC c (rdF c n)
 dims:∀ m∈nums c.reg,(takeI X.reg X.lets m).dims.length=(takeI c.reg c.lets m).dims.length∧∀ (k:Nat) (d d':Dim),(takeI c.reg c.lets m).dims[k]?=some d→(takeI X.reg X.lets m).dims[k]?=some d'→dimOk d=true∧dimOk d'=true∧d.lower≤d'.lower∧d'.upper≤d.upper ∧
  (mlook (cntD c) m≠0→d'.nominal % stU n=0∧d'.lower % stU n=0∧d'.upper % stU n=0)
theorem inches_of {c:Chains} (h0:chainsE c=0) (hsm:SmallC c) {n:Int} (hE:changedE c (rdF c n)=0):Inches c n (changedC c (rdF c n)):=by
 have hOk:=okC h0
 have hC:=changed_all h0 hsm (rd_fok hOk n) hE
 refine ⟨hC,rfl,fun m hm=>?_⟩
 obtain ⟨t1,t2,_⟩:=take_spec hOk.reg hOk.lets hm
 have hd:=issue_dims hOk t1
 have he:=hC.err m hm
 rw [hC.take m hm,(newT_is c _ m).2.2.2]
 generalize takeI c.reg c.lets m=T at *
 have hok:∀ d∈T.dims,mlook (cntD c) T.drawing≠0→cvE d n=0:=fun d h hz=>by
  unfold rdF at he
  rw [if_neg hz] at he
  by_cases hr:rdOk n T.dims=true
  ·rw [rdOk,List.all_eq_true] at hr
   simpa using hr d h
  ·rw [if_neg hr] at he;simp at he
 by_cases hz:mlook (cntD c) T.drawing=0
 ·have hf:(rdF c n T).1=T.dims:=by unfold rdF;rw [if_pos hz]
  rw [hf]
  refine ⟨rfl,fun k d d' h1 h2=>?_⟩
  rw [h1] at h2;cases h2
  have:=hd d (List.mem_of_getElem? h1)
  exact ⟨this,this,Int.le_refl _,Int.le_refl _,fun h=>absurd (by rw [← t2];exact hz) h⟩
 ·have hf:(rdF c n T).1=T.dims.map (cvD · n):=by
   unfold rdF at he ⊢
   rw [if_neg hz] at he ⊢
   by_cases hr:rdOk n T.dims=true
   ·rw [if_pos hr]
   ·rw [if_neg hr] at he;simp at he
  rw [hf]
  refine ⟨by simp,fun k d d' h1 h2=>?_⟩
  rw [List.getElem?_map,h1] at h2
  cases h2
  have hdm:=List.mem_of_getElem? h1
  obtain ⟨a1,a2,a3,a4⟩:=cv_ok (hd d hdm) (hok d hdm hz)
  exact ⟨hd d hdm,a1,a2,a3,fun _=>a4⟩
theorem inches_reach {c X:Chains} (h0:chainsE c=0) {n:Int} (hI:Inches c n X) {k:Nat} {x:ChLoop} (hx:c.loops[k]?=some x):loopsE X (k:Int)=0∧rLo c k≤rLo X k∧rHi X k≤rHi c k∧rLo X k≤rHi X k:=by
 have hOk:=okC h0
 have hkl:=lt_of_getElem? hx
 have hxm:=List.mem_of_getElem? hx
 have hXl:X.loops=c.loops:=by rw [hI.eq];rfl
 have hXE:chainsE X=0:=by rw [hI.eq];exact hI.ch.chE
 have hlE:loopsE X (k:Int)=0:=by rw [loopsE,if_neg (by simp [hXE]),if_pos ⟨by omega,by rw [hXl];omega⟩]
 have hlE0:loopsE c (k:Int)=0:=by rw [loopsE,if_neg (by simp [h0]),if_pos ⟨by omega,by omega⟩]
 have hLo:rLo c (k:Int)=endS x.links (sizesI c x) false:=by rw [rLo,if_pos hlE0,loI];simp [hx]
 have hHi:rHi c (k:Int)=endS x.links (sizesI c x) true:=by rw [rHi,if_pos hlE0,hiI];simp [hx]
 have hLo':rLo X (k:Int)=endS x.links (sizesI X x) false:=by rw [rLo,if_pos hlE,loI];simp [hXl,hx]
 have hHi':rHi X (k:Int)=endS x.links (sizesI X x) true:=by rw [rHi,if_pos hlE,hiI];simp [hXl,hx]
 have hle:=endS_le (ls:=x.links) (l:=sizesI X x) (l':=sizesI c x) (by simp [sizesI]) (fun i d d' h1 h2=>by
  simp only [sizesI,List.getElem?_map,Option.map_eq_some_iff] at h1 h2
  obtain ⟨y,hy,rfl⟩:=h1
  obtain ⟨y',hy',rfl⟩:=h2
  rw [hy] at hy';cases hy'
  have hym:=List.mem_of_getElem? hy
  obtain ⟨a1,a2,a3⟩:=hOk.link x hxm y hym
  obtain ⟨b1,b2⟩:=hI.dims _ a1
  have hd:=dimAt_ok hOk hxm hym
  have hXo:(takeI X.reg X.lets y.drawing).dims[y.dim.toNat]?=some (dimAt X y):=by
   have hlt:y.dim.toNat < (takeI X.reg X.lets y.drawing).dims.length:=by omega
   rw [dimAt,List.getElem?_eq_getElem hlt];rfl
  obtain ⟨_,_,c3,c4,_⟩:=b2 _ _ _ hd.2 hXo
  exact ⟨c3,c4⟩)
 refine ⟨hlE,by rw [hLo,hLo'];exact hle.1,by rw [hHi,hHi'];exact hle.2,reach_le hlE fun _=>okC hXE⟩
theorem part_count {c:Chains} (hOk:OkC c) {p:Itm} (hp:p∈explR c.reg c.lets c.of):p.drawing∈nums c.reg∧mlook (cntD c) p.drawing≠0:=by
 have hT:takenE c.reg c.lets c.of=0:=by simp [takenE,hOk.reg,hOk.lets,hOk.of]
 have hnd:(nums c.reg).Nodup:=(check_nums hOk.reg).1.imp fun h=>Int.ne_of_lt h
 have hE:explR c.reg c.lets c.of=partsP (nums c.reg) (cntM c.reg c.lets c.of):=by rw [explR,if_pos hT]
 have hn:((partsP (nums c.reg) (cntM c.reg c.lets c.of)).map (·.drawing)).Nodup:=by
  simp only [partsP,List.map_map]
  have:(fun x:Itm=>x.drawing) ∘ (fun n=>(⟨n,mlook (cntM c.reg c.lets c.of) n⟩:Itm))=id:=rfl
  rw [this,List.map_id]
  exact hnd.filter _
 rw [cntD,hE,look_count _ _ _ hn]
 rw [hE] at hp
 have hp':=hp
 simp only [partsP,List.mem_map,List.mem_filter,decide_eq_true_eq] at hp'
 obtain ⟨n,⟨h1,h2⟩,rfl⟩:=hp'
 refine ⟨h1,?_⟩
 rw [if_pos (List.mem_map.2 ⟨_,hp,rfl⟩)]
 have:∀ (l:List Int),l.Nodup→n∈l→0 < mlook (cntM c.reg c.lets c.of) n→countI ((l.filter fun n=>decide (0 < mlook (cntM c.reg c.lets c.of) n)).map fun n=>⟨n,mlook (cntM c.reg c.lets c.of) n⟩) n=mlook (cntM c.reg c.lets c.of) n:=fun l=>by
  induction l with
  | nil=>intro _ h;cases h
  | cons a l ih =>
    intro hnd hm hpos
    rw [List.nodup_cons] at hnd
    rw [List.filter_cons]
    by_cases e:a=n
    ·subst e
     rw [if_pos (by simpa using hpos),List.map_cons,countI,if_pos rfl]
    ·have hm':n∈l:=by rcases List.mem_cons.1 hm with h|h;exact absurd h.symm e;exact h
     split
     ·rw [List.map_cons,countI,if_neg e];exact ih hnd.2 hm' hpos
     ·exact ih hnd.2 hm' hpos
 show countI (partsP (nums c.reg) (cntM c.reg c.lets c.of)) n≠0
 rw [partsP,this _ hnd h1 h2];omega
theorem at_take {l:List Issue} {lets:List Int} (h:checkR l=0) (hl:lettersI l lets=true) {k:Nat} {d lt:Int} (hk:(nums l)[k]?=some d) (hlt:lets[k]?=some lt):atR l d lt=takeI l lets d∧atE l d lt=0:=by
 obtain ⟨_,_,k',lt',e1,e2,e3⟩:=take_spec h hl (List.mem_of_getElem? hk)
 have hnd:(nums l).Nodup:=(check_nums h).1.imp fun h=>Int.ne_of_lt h
 obtain rfl:k'=k:=(List.getElem?_inj (lt_of_getElem? e1) hnd).1 (e1.trans hk.symm)
 rw [e2] at hlt;cases hlt
 exact ⟨by rw [atR,if_pos h,e3];rfl,by rw [atE,if_neg (by simp [h]),e3];rfl⟩
end Go.Proofs
namespace Go.Proofs
open Go Go.Ab
set_option linter.unusedSimpArgs false
variable {G:Nat→Option (List IC)}
attribute [simp] permL reO cutL cutE gones noLoop nilV nilX ZK
end Go.Proofs
namespace Go.Proofs
open Go Go.Ab
set_option linter.unusedSimpArgs false
variable {G:Nat→Option (List IC)}
attribute [simp] permL reO cutL cutE gones noLoop nilV nilX ZK
structure Kd where
 is:Bool
 kind:Int
def encKd (x:Kd):List IC:=[rB x.is,.raw (.int .u8 x.kind)]
def kdv (x:Kd):DV:=.agg ((encKd x).map .im)
theorem encKd_len (x:Kd):(encKd x).length=2:=rfl
theorem kdv_im (x:Kd):ImV (kdv x):=by simp [kdv]
attribute [simp] encKd_len kdv_im
theorem sboth_c (a b:Dim) (objs:List DObj):DCall Tryz.prog G 102 [dimv a,dimv b] objs (fun rr objs'=>rr=iv (if dimOk a=true∧dimOk b=true then 0 else 10)∧objs'=objs):=by
 refine DCall.frame ?_ (by simp) (by simp) objs
 refine DCall_intro Tryz.func102 rfl Tryz.ntmps102 (by simp) rfl ?_
 try simp only [dimv,dimv]
 have c1:=sizeCheck_c (G:=G) a
 have c2:=sizeCheck_c (G:=G) b
 simp only [dimv,encDim,rI,List.map_cons,List.map_nil] at c1 c2
 cases ha:dimOk a<;>cases hb:dimOk b<;>rw [ha] at c1<;>rw [hb] at c2
 ·have hs:True:=trivial
  repeat' first|(with_reducible first|refine q01 ?_|refine q02 ?_|refine q11 ?_|refine q17 ?_)|(with_reducible refine At.fn_ret (by simp -dsimp [hs];exact rfl) ?_)|(refine CallE.pure (c1) ?_;try simp -dsimp [hs])|(with_reducible refine DT_regionE [0,1,2,3,4,12] ?_;simp -dsimp [hs])|(refine DT_cond rfl (fun h=>?_) (fun h=>?_)<;>(try simp only [nrm] at h)<;>(try exact Bool.noConfusion h))
  all_goals try simp -dsimp [hs]
  all_goals try clear hs
 ·have hs:True:=trivial
  repeat' first|(with_reducible first|refine q01 ?_|refine q02 ?_|refine q11 ?_|refine q17 ?_)|(with_reducible refine At.fn_ret (by simp -dsimp [hs];exact rfl) ?_)|(refine CallE.pure (c1) ?_;try simp -dsimp [hs])|(with_reducible refine DT_regionE [0,1,2,3,4,12] ?_;simp -dsimp [hs])|(refine DT_cond rfl (fun h=>?_) (fun h=>?_)<;>(try simp only [nrm] at h)<;>(try exact Bool.noConfusion h))
  all_goals try simp -dsimp [hs]
  all_goals try clear hs
 ·have hs:True:=trivial
  repeat' first|(with_reducible first|refine q01 ?_|refine q02 ?_|refine q11 ?_|refine q17 ?_)|(with_reducible refine At.fn_ret (by simp -dsimp [hs];exact rfl) ?_)|(refine CallE.pure (c1) ?_;try simp -dsimp [hs])|(refine CallE.pure (c2) ?_;try simp -dsimp [hs])|(with_reducible refine DT_regionE [0,1,2,3,4,12] ?_;simp -dsimp [hs])|(refine DT_cond rfl (fun h=>?_) (fun h=>?_)<;>(try simp only [nrm] at h)<;>(try exact Bool.noConfusion h))
  all_goals try simp -dsimp [hs]
  all_goals try clear hs
 ·have hs:True:=trivial
  repeat' first|(with_reducible first|refine q01 ?_|refine q11 ?_|refine q14 ?_|refine q17 ?_)|(with_reducible refine At.fn_ret (by simp -dsimp [hs];exact rfl) ?_)|(refine CallE.pure (c1) ?_;try simp -dsimp [hs])|(refine CallE.pure (c2) ?_;try simp -dsimp [hs])|(with_reducible refine DT_regionE [0,1,2,3,4,12] ?_;simp -dsimp [hs])|(refine DT_cond rfl (fun h=>?_) (fun h=>?_)<;>(try simp only [nrm] at h)<;>(try exact Bool.noConfusion h))
  all_goals try simp -dsimp [hs]
  all_goals try clear hs
end Go.Proofs
namespace Go.Proofs
open Go Go.Ab
set_option linter.unusedSimpArgs false
variable {G:Nat→Option (List IC)}
attribute [simp] permL reO cutL cutE gones noLoop nilV nilX ZK
theorem inside_c (a b:Dim) (ha:dimOk a=true) (hb:dimOk b=true) (hin:b.lower≤a.lower∧a.upper≤b.upper) (objs:List DObj):DCall Tryz.prog G 54 [dimv a,dimv b] objs (fun rr objs'=>rr=.tup [bv true,iv 0]∧objs'=objs):=by
 refine DCall.frame ?_ (by simp) (by simp) objs
 refine DCall_intro Tryz.func54 rfl Tryz.ntmps54 (by simp) rfl ?_
 try simp only [dimv,dimv]
 have c1:=sboth_c (G:=G) a b
 rw [if_pos ⟨ha,hb⟩] at c1
 rw [dimOk_iff] at ha hb
 have c2:=in_size (G:=G) b.lower b.upper [a.lower,a.upper] (by simp)
 rw [show ([a.lower,a.upper].all fun x=>decide (b.lower≤x) && decide (x≤b.upper))=true by simp;omega] at c2
 simp only [isv,List.map_cons,List.map_nil,Ab.encI,rI] at c2
 simp only [dimv,encDim,rI,List.map_cons,List.map_nil] at c1
 have hs:True:=trivial
 repeat' first|(with_reducible first|refine q01 ?_|refine q11 ?_|refine q14 ?_|refine q17 ?_)|(with_reducible refine At.fn_ret (by simp -dsimp [hs];exact rfl) ?_)|(refine CallE.pure (c1) ?_;try simp -dsimp [hs])|(refine CallE.thaw (c2) ?_ ?_ ?_;(focus (simp;done));(focus (simp;done));try simp -dsimp [hs])|(with_reducible refine DT_regionE [0,1,2,3,4,5,6,11] ?_;simp -dsimp [hs])|(refine DT_cond rfl (fun h=>?_) (fun h=>?_)<;>(try simp only [nrm] at h)<;>(try exact Bool.noConfusion h))|(with_reducible refine GStop_split ?_ ?_<;>intro h<;>have h0:=h<;>(try simp only [nrm] at h)<;>(try exact Bool.noConfusion h)<;>have h2:=h<;>(try simp at h2)<;>(replace hs:=And.intro h0 (And.intro h (And.intro h2 hs)))<;>simp -dsimp [h0,h,h2,hs])
 all_goals try simp -dsimp [hs]
 all_goals try clear hs
def exU (l:List Int) (s:Int):Bool:=l.all fun n=>decide (n.tmod s=0)
def exV (s t:Int) (a b:IC):DV:=.agg [.im (rI s),.im (rI t),.im a,.im b]
theorem exV_im (s t:Int) (a b:IC):ImV (exV s t a b):=by simp [exV]
attribute [simp] exV_im
theorem exact1_c (n s t:Int) (a b:IC) (hz:s≠0):DCall Tryz.prog G 147 (iv n :: [DC.ptr 0 0].map .one) [.row [.im (rI s),.im (rI t),.im a,.im b]] (fun d o=>d=bv (decide (¬ n.tmod s=0))∧o=[.row [.im (rI s),.im (rI t),.im a,.im b]]):=by
 refine DCall_intro Tryz.func147 rfl Tryz.ntmps147 (by simp) rfl ?_
 simp only [rI]
 have hs:True:=trivial
 repeat' first|(with_reducible first|refine q01 ?_|refine q11 ?_|refine q17 ?_)|(with_reducible refine At.fn_ret (by simp -dsimp [hz,hs];exact rfl) ?_)|(with_reducible refine DT_regionE [0,1,3] ?_;simp -dsimp [hz,hs])|with_reducible refine And.intro ?_ ?_
 all_goals try simp -dsimp [hz,hs]
 all_goals try clear hs
 all_goals simp
theorem exact_c (l:List Int) (s t:Int) (a b:IC) (hz:s≠0) (hl:l.length < 1000000) (objs:List DObj):DCall Tryz.prog G 105 [exV s t a b,isv l] objs (fun rr objs'=>rr=bv (exU l s)∧objs'=objs):=by
 refine DCall.frame ?_ (by simp) (by simp) objs
 refine DCall_intro Tryz.func105 rfl Tryz.ntmps105 (by simp) rfl ?_
 try simp only [isv]
 have hc:=containsFunc_int (G:=G) l (fun n=>decide (¬ n.tmod s=0)) 147 [.ptr 0 0] [.row [.im (rI s),.im (rI t),.im a,.im b]] (by simp) (fun x _=>exact1_c x s t a b hz) hl
 simp only [rI] at hc
 simp only [exV,rI]
 have hs:True:=trivial
 repeat' first|(with_reducible first|refine q01 ?_|refine q11 ?_|refine q17 ?_)|(with_reducible refine At.fn_ret (by simp -dsimp [hs];exact rfl) ?_)|(refine CallE.here hc ?_;try simp -dsimp [hs])|(with_reducible refine DT_regionE [0,1,2,4] ?_;simp -dsimp [hs])
 all_goals try simp -dsimp [hs]
 all_goals try clear hs
 all_goals (rw [exU,Bool.eq_iff_iff];simp)
def exK (d:Dim):Int:=(if exU [d.nominal,d.lower,d.upper] 100 then 1 else 0) + (if exU [d.nominal,d.lower,d.upper] 254 then 2 else 0)
def exTo (d:Dim):Nat→Int
 | 0=>0
 | 1=>0
 | 2=>if exU [d.nominal,d.lower,d.upper] 100 then 1 else 0
 | _=>exK d
set_option maxHeartbeats 2000000 in
theorem sexact_c (d:Dim) (u1 u2 u3:IC) (hU:unitG G u1 u2 u3) (hd:dimOk d=true) (objs:List DObj):DCall Tryz.prog G 55 [dimv d] objs (fun rr objs'=>rr=.tup [u8v (exK d),iv 0]∧objs'=objs):=by
 refine DCall.frame ?_ (by simp) (by simp) objs
 refine DCall_intro Tryz.func55 rfl Tryz.ntmps55 (by simp) rfl ?_
 try simp only [dimv]
 have c1:=sizeCheck_c (G:=G) d
 rw [if_pos hd] at c1
 have c2:=exact_c (G:=G) [d.nominal,d.lower,d.upper] 100 3 u2 (.fn (.func 225) []) (by decide) (by simp)
 have c3:=exact_c (G:=G) [d.nominal,d.lower,d.upper] 254 4 u3 (.fn (.func 225) []) (by decide) (by simp)
 have hK:exK d=(if exU [d.nominal,d.lower,d.upper] 100 then 1 else 0) + (if exU [d.nominal,d.lower,d.upper] 254 then 2 else 0):=rfl
 have hT2:exTo d 2=if exU [d.nominal,d.lower,d.upper] 100 then 1 else 0:=rfl
 have hT3:exTo d 3=exK d:=rfl
 unfold unitG at hU
 simp only [dimv,encDim,rI,List.map_cons,List.map_nil] at c1
 simp only [exV,isv,Ab.encI,rI,List.map_cons,List.map_nil] at c2 c3
 generalize exU [d.nominal,d.lower,d.upper] 100=e1 at *
 generalize exU [d.nominal,d.lower,d.upper] 254=e2 at *
 generalize exK d=K at *
 have hs:True:=trivial
 repeat' first|(with_reducible first|refine q01 ?_|refine q11 ?_|refine q12 ?_|refine q14 ?_)|(refine CallE.pure (c1) ?_;try simp -dsimp [hU,hs])|(with_reducible refine DT_regionE [0,1,2,3,4,5,6,7,11,13,14,15,30] ?_;simp -dsimp [hU,hs])|(refine DT_cond rfl (fun h=>?_) (fun h=>?_)<;>(try simp only [nrm] at h)<;>(try exact Bool.noConfusion h))
 all_goals try simp -dsimp [hU,hs]
 all_goals try clear hs
 refine DT_loop (ι:={ k:Nat // k≤3 }) (fun k=>⟨37,[(1,.one (.ptr 0 0)),(5,.one (.im (.raw (.int .u8 (exTo d k.1))))),(13,.agg [.im (rI 0),.im (rI 0),.im u1,.im (.raw .nilFunc),.im (rI 100),.im (rI 3),.im u2,.im (.fn (.func 225) []),.im (rI 254),.im (rI 4),.im u3,.im (.fn (.func 225) [])]),(14,iv (k.1:Int))],[.row [.im (rI d.nominal),.im (rI d.lower),.im (rI d.upper)]]⟩) (fun k=>3 - k.1) ⟨0,by omega⟩ (Weak.of_keep [1,5,13,14] (by simp [exTo])) ?_
 rintro ⟨k,hk⟩
 simp only [iv,rI]
 have q1:IntKind.i64.wrap 1=1:=by decide
 have q2:IntKind.i64.wrap 2=2:=by decide
 have q3:IntKind.i64.wrap 3=3:=by decide
 have q4:IntKind.u8.wrap 1=1:=by decide
 have q5:IntKind.u8.wrap 2=2:=by decide
 have q6:IntKind.u8.wrap 3=3:=by decide
 have hT0:exTo d 0=0:=rfl
 have hT1:exTo d 1=0:=rfl
 have hk':k=0∨k=1∨k=2∨k=3:=by omega
 rcases hk' with rfl|rfl|rfl|rfl
 ·have hs:True:=trivial
  repeat' first|(with_reducible first|refine q01 ?_|refine q04 ?_|refine q11 ?_|refine q12 ?_|refine q14 ?_)|(with_reducible refine DT_regionE [0,1,2,3,4,5,6,7,11,13,14,15,30] ?_;simp -dsimp [q1,hT0,hs])|(refine DT_cond rfl (fun h=>?_) (fun h=>?_)<;>(try simp only [nrm] at h)<;>(try exact Bool.noConfusion h))
  all_goals try simp -dsimp [q1,hT0,hs]
  all_goals try clear hs
  all_goals exact At.round ⟨1,by omega⟩ (by simp) (Weak.of_drop [1,5,13,14] 1 (by simp) (by simp) (by simp [hT1,q1]))
 ·cases e1
  ·have hs:True:=trivial
   repeat' first|(with_reducible first|refine q01 ?_|refine q04 ?_|refine q11 ?_|refine q12 ?_|refine q14 ?_)|(refine CallE.thaw (c2) ?_ ?_ ?_;(focus (simp;done));(focus (simp;done));try simp -dsimp [q1,q2,q4,q5,hT1,hs])|(with_reducible refine DT_regionE [0,1,2,3,4,5,6,7,11,13,14,15,30] ?_;simp -dsimp [q1,q2,q4,q5,hT1,hs])|(refine DT_cond rfl (fun h=>?_) (fun h=>?_)<;>(try simp only [nrm] at h)<;>(try exact Bool.noConfusion h))
   all_goals try simp -dsimp [q1,q2,q4,q5,hT1,hs]
   all_goals try clear hs
   all_goals exact At.round ⟨2,by omega⟩ (by simp) (Weak.of_drop [1,5,13,14] 1 (by simp) (by simp) (by simp [hT2,q2]))
  ·have hs:True:=trivial
   repeat' first|(with_reducible first|refine q01 ?_|refine q04 ?_|refine q11 ?_|refine q12 ?_|refine q14 ?_)|(refine CallE.thaw (c2) ?_ ?_ ?_;(focus (simp;done));(focus (simp;done));try simp -dsimp [q1,q2,q4,q5,hT1,hs])|(with_reducible refine DT_regionE [0,1,2,3,4,5,6,7,11,13,14,15,30] ?_;simp -dsimp [q1,q2,q4,q5,hT1,hs])|(refine DT_cond rfl (fun h=>?_) (fun h=>?_)<;>(try simp only [nrm] at h)<;>(try exact Bool.noConfusion h))
   all_goals try simp -dsimp [q1,q2,q4,q5,hT1,hs]
   all_goals try clear hs
   all_goals exact At.round ⟨2,by omega⟩ (by simp) (Weak.of_drop [1,5,13,14] 1 (by simp) (by simp) (by simp [hT2,q2]))
 ·cases e2
  ·have hs:True:=trivial
   repeat' first|(with_reducible first|refine q01 ?_|refine q04 ?_|refine q11 ?_|refine q12 ?_|refine q14 ?_)|(refine CallE.thaw (c3) ?_ ?_ ?_;(focus (simp;done));(focus (simp;done));try simp -dsimp [q2,q3,q4,q5,hT2,hs])|(with_reducible refine DT_regionE [0,1,2,3,4,5,6,7,11,13,14,15,30] ?_;simp -dsimp [q2,q3,q4,q5,hT2,hs])|(refine DT_cond rfl (fun h=>?_) (fun h=>?_)<;>(try simp only [nrm] at h)<;>(try exact Bool.noConfusion h))
   all_goals try simp -dsimp [q2,q3,q4,q5,hT2,hs]
   all_goals try clear hs
   all_goals exact At.round ⟨3,by omega⟩ (by simp) (Weak.of_drop [1,5,13,14] 1 (by simp) (by simp) (by simp [hT3,hK,q3]))
  ·cases e1
   ·have hs:True:=trivial
    repeat' first|(with_reducible first|refine q01 ?_|refine q04 ?_|refine q11 ?_|refine q12 ?_|refine q14 ?_)|(refine CallE.thaw (c3) ?_ ?_ ?_;(focus (simp;done));(focus (simp;done));try simp -dsimp [q2,q3,q4,q5,q6,hT2,hs])|(with_reducible refine DT_regionE [0,1,2,3,4,5,6,7,11,13,14,15,30] ?_;simp -dsimp [q2,q3,q4,q5,q6,hT2,hs])|(refine DT_cond rfl (fun h=>?_) (fun h=>?_)<;>(try simp only [nrm] at h)<;>(try exact Bool.noConfusion h))
    all_goals try simp -dsimp [q2,q3,q4,q5,q6,hT2,hs]
    all_goals try clear hs
    all_goals exact At.round ⟨3,by omega⟩ (by simp) (Weak.of_drop [1,5,13,14] 1 (by simp) (by simp) (by simp [hT3,hK,q3]))
   ·have hs:True:=trivial
    repeat' first|(with_reducible first|refine q01 ?_|refine q04 ?_|refine q11 ?_|refine q12 ?_|refine q14 ?_)|(refine CallE.thaw (c3) ?_ ?_ ?_;(focus (simp;done));(focus (simp;done));try simp -dsimp [q2,q3,q4,q5,q6,hT2,hs])|(with_reducible refine DT_regionE [0,1,2,3,4,5,6,7,11,13,14,15,30] ?_;simp -dsimp [q2,q3,q4,q5,q6,hT2,hs])|(refine DT_cond rfl (fun h=>?_) (fun h=>?_)<;>(try simp only [nrm] at h)<;>(try exact Bool.noConfusion h))
    all_goals try simp -dsimp [q2,q3,q4,q5,q6,hT2,hs]
    all_goals try clear hs
    all_goals exact At.round ⟨3,by omega⟩ (by simp) (Weak.of_drop [1,5,13,14] 1 (by simp) (by simp) (by simp [hT3,hK,q3]))
 ·have hs:True:=trivial
  repeat' first|(with_reducible first|refine q01 ?_|refine q03 ?_|refine q06 ?_|refine q11 ?_|refine q16 ?_|refine q17 ?_)|(with_reducible refine At.fn_ret (by simp -dsimp [hT3,hs];exact rfl) ?_)|(with_reducible refine DT_regionE [0,1,2,3,4,5,6,7,11,13,14,15,30] ?_;simp -dsimp [hT3,hs])|(refine DT_cond rfl (fun h=>?_) (fun h=>?_)<;>(try simp only [nrm] at h)<;>(try exact Bool.noConfusion h))
  all_goals try simp -dsimp [hT3,hs]
  all_goals try clear hs
end Go.Proofs
