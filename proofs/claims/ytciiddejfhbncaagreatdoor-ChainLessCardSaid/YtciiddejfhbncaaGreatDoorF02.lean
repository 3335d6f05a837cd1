/- Part 30 of the proofs: laws and walks that hold without conditions beyond those that each theorem names. -/
import Derived.Test.YtciiddejfhbncaaGreatDoorA26
import Derived.Test.YtciiddejfhbncaaGreatDoorA27
import Derived.Test.YtciiddejfhbncaaGreatDoorA28
set_option linter.all false
set_option linter.deprecated false
namespace Go.Proofs
open Go Go.Ab
def pre (p:Option Issue) (x:Issue):List Int:=match p with|some y=>if y.drawing=x.drawing then [] else [x.drawing]|none=>[x.drawing]
def good (p:Option Issue) (x:Issue):Prop:=issueOk x=true∧match p with|some y=>y.drawing=x.drawing∧y.letter + 1=x.letter∧y.kind=x.kind∨y.drawing < x.drawing∧x.letter=1|none=>x.letter=1
theorem scan_good {p:Option Issue} {x:Issue} {r:List Issue} (h:good p x):scanI p (x :: r)=(scanI (some x) r).map (pre p x ++ ·):=by
 obtain ⟨h1,h2⟩:=h
 cases p with
 | none=>simp only at h2;simp [scanI,h1,h2,pre]
 | some y =>
   simp only at h2
   rcases h2 with ⟨a,b,c⟩|⟨a,b⟩
   ·simp [scanI,h1,a,b,c,pre]
   ·have h3:¬ y.drawing=x.drawing:=by omega
    have h4:¬ y.drawing > x.drawing:=by omega
    simp [scanI,h1,h3,h4,b,pre]
theorem scan_iff {p:Option Issue} {x:Issue} {r:List Issue} {ds:List Int}:scanI p (x :: r)=some ds↔good p x∧∃ ds',scanI (some x) r=some ds'∧ds=pre p x ++ ds':=by
 constructor
 ·intro h
  have hg:good p x:=by
   have hs:(scanI p (x :: r)).isSome=true:=by rw [h];rfl
   cases p with
   | none=>exact ((scan_iff0 x r).1 hs).1
   | some y=>exact ((scan_iff1 y x r).1 hs).1
  rw [scan_good hg,Option.map_eq_some_iff] at h
  obtain ⟨ds',h1,h2⟩:=h
  exact ⟨hg,ds',h1,h2.symm⟩
 ·rintro ⟨hg,ds',h1,rfl⟩
  rw [scan_good hg,h1];rfl
theorem scan_kind:∀ (l:List Issue) (p:Option Issue) (ds:List Int),scanI p l=some ds→(∀ y,p=some y→∀ a∈l,a.drawing=y.drawing→a.kind=y.kind)∧∀ a∈l,∀ b∈l,a.drawing=b.drawing→a.kind=b.kind
 | [],p,ds,_=>by simp
 | x :: r,p,ds,h=>by
   obtain ⟨hg,ds',h1,_⟩:=scan_iff.1 h
   obtain ⟨i1,i2⟩:=scan_kind r (some x) ds' h1
   have i1:=i1 x rfl
   have hsp:=(scan_spec r (some x) ds' h1).2.2.1 x rfl
   refine ⟨fun y hy a ha hd=>?_,fun a ha b hb hd=>?_⟩
   ·subst hy
    rcases hg.2 with ⟨e1,_,e3⟩|⟨e1,_⟩
    ·rcases List.mem_cons.1 ha with rfl|ha
     ·exact e3.symm
     ·rw [i1 a ha (by omega),e3]
    ·rcases List.mem_cons.1 ha with rfl|ha
     ·omega
     ·have:=hsp a ha;omega
   ·rcases List.mem_cons.1 ha with ea|ha'<;>rcases List.mem_cons.1 hb with eb|hb'
    ·rw [ea,eb]
    ·rw [ea] at hd ⊢;exact (i1 b hb' hd.symm).symm
    ·rw [eb] at hd ⊢;exact i1 a ha' hd
    ·exact i2 a ha' b hb' hd
def extG (N:Int→List Issue):List Issue→List Issue
 | []=>[]
 | [x]=>x :: N x.drawing
 | x :: y :: r=>if x.drawing=y.drawing then x :: extG N (y :: r) else x :: (N x.drawing ++ extG N (y :: r))
theorem extG_head (N:Int→List Issue) (y:Issue) (r:List Issue):∃ s,extG N (y :: r)=y :: s:=by
 cases r with
 | nil=>exact ⟨_,rfl⟩
 | cons z r =>
   rw [extG];split
   ·exact ⟨_,rfl⟩
   ·exact ⟨_,rfl⟩
theorem scan_swap {x z y:Issue} {s:List Issue} (h1:z.drawing=x.drawing) (h2:x.drawing < y.drawing):scanI (some z) (y :: s)=scanI (some x) (y :: s):=by
 have n1:¬ z.drawing=y.drawing:=by omega
 have n2:¬ x.drawing=y.drawing:=by omega
 have n3:¬ z.drawing > y.drawing:=by omega
 have n4:¬ x.drawing > y.drawing:=by omega
 simp only [scanI,n1,n2,n3,n4,if_false]
theorem scan_ext {N:Int→List Issue} (hN1:∀ d,(N d).length≤1):∀ (l:List Issue) (p:Option Issue) (ds:List Int),scanI p l=some ds→(∀ y,p=some y→0≤y.letter) →
 (∀ x∈l,∀ z∈N x.drawing,z.drawing=x.drawing∧issueOk z=true∧z.kind=x.kind∧z.letter=plI p x.drawing + cntN l x.drawing + 1)→scanI p (extG N l)=some ds
 | [],p,ds,h,_,_=>h
 | [x],p,ds,h,hp,hN=>by
   obtain ⟨hg,ds',h1,h2⟩:=scan_iff.1 h
   have hds':ds'=[]:=by simpa [scanI] using h1.symm
   subst hds'
   rw [extG,scan_iff]
   refine ⟨hg,[],?_,h2⟩
   have hlen:=hN1 x.drawing
   have hNx:=hN x (by simp)
   cases hz:N x.drawing with
   | nil=>simp [scanI]
   | cons z t =>
     rw [hz] at hlen hNx
     have ht:t=[]:=by cases t with|nil=>rfl|cons _ _=>simp at hlen
     subst ht
     obtain ⟨z1,z2,z3,z4⟩:=hNx z (by simp)
     rw [cntN_cons,if_pos rfl] at z4
     have hx:x.letter=plI p x.drawing + 1:=by
      have:=hg.2
      cases p with
      | none=>simpa [plI] using this
      | some y =>
        simp only at this
        rcases this with ⟨a,b,_⟩|⟨a,b⟩
        ·simp only [plI,if_pos a];omega
        ·simp only [plI];rw [if_neg (by omega)];omega
     have:cntN [] x.drawing=0:=rfl
     rw [scan_iff]
     exact ⟨⟨z2,.inl ⟨z1.symm,by omega,z3.symm⟩⟩,[],by simp [scanI],by simp [pre,z1]⟩
 | x :: y :: r,p,ds,h,hp,hN=>by
   obtain ⟨hg,ds',h1,h2⟩:=scan_iff.1 h
   have hkeys:=scan_keys (x :: y :: r) p ds h hp
   have hx1:1≤x.letter:=(hkeys.2.2 x (by simp)).1
   have hx:x.letter=plI p x.drawing + 1:=by
    have:=hg.2
    cases p with
    | none=>simpa [plI] using this
    | some y =>
      simp only at this
      rcases this with ⟨a,b,_⟩|⟨a,b⟩
      ·simp only [plI,if_pos a];omega
      ·simp only [plI];rw [if_neg (by omega)];omega
   have ih:=scan_ext hN1 (y :: r) (some x) ds' h1 (fun y e=>by cases e;omega) (fun w hw z hz=>by
    obtain ⟨z1,z2,z3,z4⟩:=hN w (List.mem_cons_of_mem _ hw) z hz
    refine ⟨z1,z2,z3,?_⟩
    rw [z4,cntN_cons]
    have hxw:=(List.pairwise_cons.1 hkeys.2.1).1 w hw
    by_cases e:x.drawing=w.drawing
    ·rw [if_pos e,plI,if_pos e,← e,hx];omega
    ·rw [if_neg e,plI,if_neg e]
     have:plI p w.drawing=0:=by
      cases p with
      | none=>rfl
      | some y0 =>
        have h3:=hkeys.1 y0 rfl x (by simp)
        simp only [plI];rw [if_neg (by omega)]
     omega)
   obtain ⟨s,hs⟩:=extG_head N y r
   rw [extG]
   split
   ·rw [scan_iff];exact ⟨hg,ds',ih,h2⟩
   ·rename_i hxy
    have hlt:x.drawing < y.drawing:=by
     have:=(List.pairwise_cons.1 hkeys.2.1).1 y (by simp);omega
    have hlen:=hN1 x.drawing
    have hNx:=hN x (by simp)
    rw [scan_iff]
    refine ⟨hg,ds',?_,h2⟩
    cases hz:N x.drawing with
    | nil=>exact ih
    | cons z t =>
      rw [hz] at hlen hNx
      have ht:t=[]:=by cases t with|nil=>rfl|cons _ _=>simp at hlen
      subst ht
      obtain ⟨z1,z2,z3,z4⟩:=hNx z (by simp)
      have hc0:cntN (y :: r) x.drawing=0:=by
       unfold cntN
       rw [List.filter_eq_nil_iff.2 fun w hw=>by
        have:=(List.pairwise_cons.1 hkeys.2.1).1 w hw
        have h4:=(scan_spec (y :: r) (some x) ds' h1).2.1
        rw [List.map_cons,List.pairwise_cons] at h4
        rcases List.mem_cons.1 hw with rfl|hw
        ·simp;omega
        ·have:=h4.1 w.drawing (List.mem_map.2 ⟨w,hw,rfl⟩);simp;omega]
       rfl
      rw [cntN_cons,if_pos rfl,hc0] at z4
      show scanI (some x) (z :: extG N (y :: r))=some ds'
      rw [scan_iff]
      refine ⟨⟨z2,.inl ⟨z1.symm,by omega,z3.symm⟩⟩,ds',?_,by simp [pre,z1]⟩
      rw [hs,scan_swap z1 hlt,← hs];exact ih
def dd:List Issue→List Int
 | []=>[]
 | [x]=>[x.drawing]
 | x :: y :: r=>if x.drawing=y.drawing then dd (y :: r) else x.drawing :: dd (y :: r)
theorem extG_perm (N:Int→List Issue):∀ l,(extG N l).Perm (l ++ (dd l).flatMap N)
 | []=>.refl _
 | [x]=>by simp [extG,dd]
 | x :: y :: r=>by
   have ih:=extG_perm N (y :: r)
   rw [extG,dd]
   split
   ·exact ih.cons x
   ·rw [List.flatMap_cons]
    refine List.Perm.cons x ?_
    refine ((List.Perm.refl (N x.drawing)).append ih).trans ?_
    show (N x.drawing ++ ((y :: r) ++ _)).Perm ((y :: r) ++ (N x.drawing ++ _))
    rw [← List.append_assoc,← List.append_assoc]
    exact (List.perm_append_comm).append_right _
theorem scan_dd:∀ (l:List Issue) (p:Option Issue) (ds:List Int),scanI p l=some ds→dd l=match l with|[]=>ds|x :: _=>match p with|some y=>if y.drawing=x.drawing then x.drawing :: ds else ds|none=>ds
 | [],p,ds,h=>by
   have:ds=[]:=by cases p<;>simpa [scanI] using h.symm
   subst this;rfl
 | [x],p,ds,h=>by
   obtain ⟨hg,ds',h1,h2⟩:=scan_iff.1 h
   have hds':ds'=[]:=by simpa [scanI] using h1.symm
   subst hds'
   rw [h2,dd]
   cases p with
   | none=>rfl
   | some y=>simp only [pre];split<;>rfl
 | x :: y :: r,p,ds,h=>by
   obtain ⟨hg,ds',h1,h2⟩:=scan_iff.1 h
   have ih:=scan_dd (y :: r) (some x) ds' h1
   simp only at ih
   rw [dd,h2]
   have key:(if x.drawing=y.drawing then dd (y :: r) else x.drawing :: dd (y :: r))=x.drawing :: ds':=by
    split
    ·rename_i e;rw [ih,if_pos e,e]
    ·rename_i e;rw [ih,if_neg e]
   rw [key]
   cases p with
   | none=>rfl
   | some z=>simp only [pre];split<;>rfl
theorem scan_dd0 {l:List Issue} {ds:List Int} (h:scanI none l=some ds):dd l=ds:=by
 have:=scan_dd l none ds h
 cases l with
 | nil=>exact this
 | cons x r=>exact this
theorem scan_sortedG {l:List Issue} {ds:List Int} (h:scanI none l=some ds):SortedG l:=by
 have:=(scan_keys l none ds h (fun y e=>by cases e)).2.1
 refine this.imp fun {a b} h=>?_
 rw [cmpG_lt];omega
theorem mx_ext {f g:Int→Int} {l l':List Int} (hfg:∀ c∈l,f c=g c) (h:∀ c,c∈l↔c∈l'):mx f l=mx g l':=by
 rw [mx_congr hfg]
 exact Int.le_antisymm (mx_le (mx_nonneg _ _) fun c hc=>le_mx ((h c).1 hc)) (mx_le (mx_nonneg _ _) fun c hc=>le_mx ((h c).2 hc))
theorem Rr_ext {l l':List Issue} (h:∀ n c,c∈chI l n↔c∈chI l' n):∀ (k:Nat) (n:Int),Rr l k n=Rr l' k n
 | 0,_=>rfl
 | k + 1,n=>by rw [Rr,Rr,mx_ext (fun c _=>Rr_ext h k c) (h n)]
theorem leaves_ext {tk tk':Int→Issue} (h:∀ n,(tk n).kind=(tk' n).kind∧(tk n).items=(tk' n).items):∀ (k:Nat) (d m:Int),leavesF tk k d m=leavesF tk' k d m
 | 0,_,_=>rfl
 | k + 1,d,m=>by
   rw [leavesF,leavesF,(h d).1,(h d).2]
   simp only [leaves_ext h k]
end Go.Proofs
namespace Go.Proofs
open Go Go.Ab
def newOf (reg:List Issue) (B:List (Int×Issue)) (f:Issue→List Dim×Int) (n:Int):List Issue:=if (f (mlookS B n)).1=(mlookS B n).dims then [] else [newI reg (mlookS B n) n (f (mlookS B n)).1]
theorem chGo_eq {reg:List Issue} {B:List (Int×Issue)} {f:Issue→List Dim×Int}:∀ (r:List Int) (i:Nat) (R:List Issue) (L:List Int),(chGo reg B f r i R L).2.2=0 →
 (∀ n∈r,(f (mlookS B n)).2=0)∧(chGo reg B f r i R L).1=R ++ r.flatMap (newOf reg B f)∧(∀ j,j < i→(chGo reg B f r i R L).2.1[j]?=L[j]?) ∧
 ∀ (k:Nat) (n:Int),r[k]?=some n→i + k < L.length→(chGo reg B f r i R L).2.1[i + k]?=if (f (mlookS B n)).1=(mlookS B n).dims then L[i + k]? else some ((cntN reg n:Int) + 1)
 | [],i,R,L,_=>by simp [chGo]
 | n :: r,i,R,L,h=>by
   unfold chGo at h ⊢
   split at h
   ·rename_i h0;exact absurd h h0
   ·rename_i h0
    have h0:(f (mlookS B n)).2=0:=Classical.byContradiction h0
    rw [if_neg (by simp [h0])]
    split at h
    ·rename_i he
     obtain ⟨a,b,d,e⟩:=chGo_eq r (i + 1) R L h
     rw [if_pos he]
     refine ⟨fun m hm=>?_,?_,fun j hj=>d j (by omega),fun k m hk hl=>?_⟩
     ·rcases List.mem_cons.1 hm with rfl|hm
      ·exact h0
      ·exact a m hm
     ·rw [b,List.flatMap_cons,newOf,if_pos he];simp
     ·cases k with
      | zero =>
        simp at hk;subst hk
        rw [if_pos he];exact d (i + 0) (by omega)
      | succ k =>
        have:=e k m (by simpa using hk) (by omega)
        rw [show i + (k + 1)=i + 1 + k by omega];exact this
    ·rename_i he
     obtain ⟨a,b,d,e⟩:=chGo_eq r (i + 1) _ _ h
     rw [if_neg he]
     refine ⟨fun m hm=>?_,?_,fun j hj=>?_,fun k m hk hl=>?_⟩
     ·rcases List.mem_cons.1 hm with rfl|hm
      ·exact h0
      ·exact a m hm
     ·rw [b,List.flatMap_cons]
      have:newOf reg B f n=[newI reg (mlookS B n) n (f (mlookS B n)).1]:=by rw [newOf,if_neg he]
      rw [this];simp
     ·rw [d j (by omega),List.getElem?_set_ne (by omega)]
     ·cases k with
      | zero =>
        simp at hk;subst hk
        rw [if_neg he,d (i + 0) (by omega),Nat.add_zero,List.getElem?_set_self (by omega)]
      | succ k =>
        have:=e k m (by simpa using hk) (by rw [List.length_set];omega)
        rw [show i + (k + 1)=i + 1 + k by omega,this,List.getElem?_set_ne (by omega)]
def FOk (c:Chains) (f:Issue→List Dim×Int):Prop:=∀ n∈nums c.reg,(f (takeI c.reg c.lets n)).2=0→(f (takeI c.reg c.lets n)).1.length=(takeI c.reg c.lets n).dims.length∧∀ d∈(f (takeI c.reg c.lets n)).1,dimOk d=true
def newT (c:Chains) (f:Issue→List Dim×Int) (n:Int):Issue:=if (f (takeI c.reg c.lets n)).1=(takeI c.reg c.lets n).dims then takeI c.reg c.lets n else newI c.reg (takeI c.reg c.lets n) n (f (takeI c.reg c.lets n)).1
theorem newT_is (c:Chains) (f:Issue→List Dim×Int) (n:Int):(newT c f n).kind=(takeI c.reg c.lets n).kind∧(newT c f n).items=(takeI c.reg c.lets n).items∧(newT c f n).drawing=(takeI c.reg c.lets n).drawing∧(newT c f n).dims=(f (takeI c.reg c.lets n)).1:=by
 unfold newT;split
 ·rename_i h;exact ⟨rfl,rfl,rfl,h.symm⟩
 ·exact ⟨rfl,rfl,rfl,rfl⟩
theorem issueOk_iff (x:Issue):issueOk x=true↔(1≤x.drawing∧x.drawing≤9999∧1≤x.letter∧x.letter≤8∧(x.kind=1∧1≤x.items.length∧x.items.length≤8∧x.dims.length=0∨2≤x.kind∧x.kind≤3∧x.dims.length≤4∧x.items.length=0))∧itemsOk x.drawing 0 x.items=true∧∀ d∈x.dims,dimOk d=true:=by
 rw [issueOk,Bool.and_eq_true,Bool.and_eq_true,ck12_iff,List.all_eq_true,and_assoc]
theorem chI_mem {l:List Issue} {n c:Int}:c∈chI l n↔∃ x∈l,x.drawing=n∧∃ y∈x.items,y.drawing=c:=by
 simp only [chI,segI,List.mem_flatMap,List.mem_filter,decide_eq_true_eq,List.mem_map,and_assoc]
theorem take_none {l:List Issue} {lets:List Int} {n:Int} (h:checkR l=0) (hn:n∉nums l):takeI l lets n=zIssue:=by
 have:findI l n ((lets[(idx (nums l) n).toNat]?).getD 0)=none:=by
  rw [findI,List.find?_eq_none]
  intro x hx
  have:=(check_nums h).2 x hx
  simp only [Bool.and_eq_true,beq_iff_eq,not_and]
  intro e;subst e;exact absurd this hn
 rw [takeI,this];rfl
structure Changed (c:Chains) (f:Issue→List Dim×Int):Prop where
 reg:checkR (changedC c f).reg=0
 nums:nums (changedC c f).reg=nums c.reg
 mem:∀ x,x∈(changedC c f).reg↔x∈c.reg∨∃ n∈Go.Proofs.nums c.reg,(f (takeI c.reg c.lets n)).1≠(takeI c.reg c.lets n).dims∧x=newI c.reg (takeI c.reg c.lets n) n (f (takeI c.reg c.lets n)).1
 len:(changedC c f).reg.length=c.reg.length + ((Go.Proofs.nums c.reg).filter fun n=>decide ((f (takeI c.reg c.lets n)).1≠(takeI c.reg c.lets n).dims)).length
 letl:(changedC c f).lets.length=c.lets.length
 letAt:∀ (k:Nat) (n:Int),(Go.Proofs.nums c.reg)[k]?=some n→(changedC c f).lets[k]?=if (f (takeI c.reg c.lets n)).1=(takeI c.reg c.lets n).dims then c.lets[k]? else some ((cntN c.reg n:Int) + 1)
 lets:lettersI (changedC c f).reg (changedC c f).lets=true
 take:∀ n∈Go.Proofs.nums c.reg,takeI (changedC c f).reg (changedC c f).lets n=newT c f n
 err:∀ n∈Go.Proofs.nums c.reg,(f (takeI c.reg c.lets n)).2=0
 chE:chainsE (changedC c f)=0
 ok:OkC (changedC c f)
 small:SmallC (changedC c f)
 smallG:SmallG (changedC c f)
theorem changed_all {c:Chains} {f:Issue→List Dim×Int} (h0:chainsE c=0) (hsm:SmallC c) (hf:FOk c f) (hE:changedE c f=0):Changed c f:=by
 have hOk:=okC h0
 have hB:∀ n∈nums c.reg,mlookS (tkM c.reg c.lets) n=takeI c.reg c.lets n:=fun n hn=>by rw [tkM,mlookS_map,if_pos hn]
 have hgo:=chGo0_ok f hOk hsm
 have hE1:(chGo0 c f).2.2=0:=Classical.byContradiction fun h=>by rw [changedE,if_pos h] at hE;exact h hE
 have hE2:¬ (60 < (chGo0 c f).1.length∨((chGo0 c f).2.1.any fun n=>decide (8 < n))=true):=fun h=>by
  rw [changedE,if_neg (by simp [hE1]),if_pos h] at hE;cases hE
 obtain ⟨g1,g2,_,g4⟩:=chGo_eq (nums c.reg) 0 c.reg c.lets hE1
 have hll:c.lets.length=(nums c.reg).length:=by
  have:=hOk.lets
  simp only [lettersI,Bool.and_eq_true,decide_eq_true_eq] at this;exact this.1
 have g1':∀ n∈nums c.reg,(f (takeI c.reg c.lets n)).2=0:=fun n hn=>by have:=g1 n hn;rwa [hB n hn] at this
 have hfo:=fun n hn=>hf n hn (g1' n hn)
 have hletAt:∀ (k:Nat) (n:Int),(nums c.reg)[k]?=some n→(changedC c f).lets[k]?=if (f (takeI c.reg c.lets n)).1=(takeI c.reg c.lets n).dims then c.lets[k]? else some ((cntN c.reg n:Int) + 1):=fun k n hk=>by
  have:=g4 k n hk (by have:=lt_of_getElem? hk;omega)
  rw [hB n (List.mem_of_getElem? hk),Nat.zero_add] at this
  exact this
 have hNmem:∀ n∈nums c.reg,∀ z,z∈newOf c.reg (tkM c.reg c.lets) f n↔(f (takeI c.reg c.lets n)).1≠(takeI c.reg c.lets n).dims∧z=newI c.reg (takeI c.reg c.lets n) n (f (takeI c.reg c.lets n)).1:=fun n hn z=>by
  rw [newOf,hB n hn];split
  ·rename_i h;simp [h]
  ·rename_i h;simp [h]
 have hN1:∀ d,(newOf c.reg (tkM c.reg c.lets) f d).length≤1:=fun d=>by rw [newOf];split<;>simp
 have hscan:=listed_scan (check_listed hOk.reg)
 have hnd:(nums c.reg).Nodup:=(check_nums hOk.reg).1.imp fun h=>Int.ne_of_lt h
 have hlet8:∀ n∈nums c.reg,(f (takeI c.reg c.lets n)).1≠(takeI c.reg c.lets n).dims→(cntN c.reg n:Int) + 1≤8:=fun n hn hne=>by
  obtain ⟨k,hk⟩:=List.mem_iff_getElem?.1 hn
  have h1:=hletAt k n hk
  rw [if_neg hne] at h1
  refine Classical.byContradiction fun hgt=>hE2 (.inr ?_)
  rw [List.any_eq_true]
  exact ⟨_,List.mem_of_getElem? h1,by simp;omega⟩
 have hTk:=fun n hn=>take_spec hOk.reg hOk.lets (d:=n) hn
 have hokI:=(scan_all hscan).2.2.2.1
 have hNok:∀ x∈c.reg,∀ z∈newOf c.reg (tkM c.reg c.lets) f x.drawing,z.drawing=x.drawing∧issueOk z=true∧z.kind=x.kind∧z.letter=plI none x.drawing + cntN c.reg x.drawing + 1:=fun x hx z hz=>by
  have hn:=(check_nums hOk.reg).2 x hx
  obtain ⟨hne,rfl⟩:=(hNmem _ hn z).1 hz
  obtain ⟨t1,t2,_⟩:=hTk _ hn
  have t3:=(issueOk_iff _).1 (hokI _ t1)
  have t4:=hfo _ hn
  have t5:=hlet8 _ hn hne
  have tk:=(scan_kind c.reg none _ hscan).2 _ t1 x hx t2
  generalize takeI c.reg c.lets x.drawing=T at *
  refine ⟨t2,(issueOk_iff _).2 ?_,tk,by simp [newI,plI]⟩
  simp only [newI]
  exact ⟨⟨t3.1.1,t3.1.2.1,by omega,t5,by have:=t3.1.2.2.2.2;rw [t4.1];exact this⟩,t3.2.1,t4.2⟩
 have hext:=scan_ext hN1 c.reg none _ hscan (fun y e=>by cases e) hNok
 have hperm:=extG_perm (newOf c.reg (tkM c.reg c.lets) f) c.reg
 rw [scan_dd0 hscan] at hperm
 have hraw:(chGo0 c f).1=c.reg ++ (nums c.reg).flatMap (newOf c.reg (tkM c.reg c.lets) f):=g2
 have hreg:(changedC c f).reg=extG (newOf c.reg (tkM c.reg c.lets) f) c.reg:=by
  show sortG _=_
  rw [hraw]
  refine (sortG_unique hperm ?_ (scan_sortedG hext)).symm
  rw [← hraw];exact hgo.2.1
 have hperm':(changedC c f).reg.Perm (c.reg ++ (nums c.reg).flatMap (newOf c.reg (tkM c.reg c.lets) f)):=by rw [hreg];exact hperm
 rw [← hreg] at hext
 have hnums:nums (changedC c f).reg=nums c.reg:=(scan_nums hext).symm
 have hmem:∀ x,x∈(changedC c f).reg↔x∈c.reg∨∃ n∈nums c.reg,(f (takeI c.reg c.lets n)).1≠(takeI c.reg c.lets n).dims∧x=newI c.reg (takeI c.reg c.lets n) n (f (takeI c.reg c.lets n)).1:=fun x=>by
  rw [hperm'.mem_iff,List.mem_append,List.mem_flatMap]
  refine or_congr Iff.rfl (exists_congr fun n=>and_congr_right fun hn=>hNmem n hn x)
 have hfl:∀ ns:List Int,(∀ n∈ns,n∈nums c.reg)→(ns.flatMap (newOf c.reg (tkM c.reg c.lets) f)).length=(ns.filter fun n=>decide ((f (takeI c.reg c.lets n)).1≠(takeI c.reg c.lets n).dims)).length:=fun ns=>by
  induction ns with
  | nil=>intro _;rfl
  | cons n ns ih =>
    intro hns
    rw [List.flatMap_cons,List.length_append,ih fun m hm=>hns m (List.mem_cons_of_mem _ hm),newOf,hB n (hns n (by simp)),List.filter_cons]
    by_cases h:(f (takeI c.reg c.lets n)).1=(takeI c.reg c.lets n).dims
    ·simp [h]
    ·simp [h];omega
 have hlen:(changedC c f).reg.length=c.reg.length + ((nums c.reg).filter fun n=>decide ((f (takeI c.reg c.lets n)).1≠(takeI c.reg c.lets n).dims)).length:=by
  rw [hperm'.length_eq,List.length_append,hfl _ fun n hn=>hn]
 have hchI:∀ n d,d∈chI (changedC c f).reg n↔d∈chI c.reg n:=fun n d=>by
  rw [chI_mem,chI_mem]
  constructor
  ·rintro ⟨x,hx,h1,h2⟩
   rcases (hmem x).1 hx with hx|⟨m,hm,_,rfl⟩
   ·exact ⟨x,hx,h1,h2⟩
   ·obtain ⟨t1,t2,_⟩:=hTk m hm
    exact ⟨_,t1,h1,h2⟩
  ·rintro ⟨x,hx,h1,h2⟩
   exact ⟨x,(hmem x).2 (.inl hx),h1,h2⟩
 have hchk:checkR (changedC c f).reg=0:=by
  have hL:listedI (changedC c f).reg=true:=by
   have h1:=check_listed hOk.reg
   simp only [listedI,Bool.and_eq_true,decide_eq_true_eq] at h1 ⊢
   rw [hext,hnums]
   refine ⟨⟨⟨⟨?_,?_⟩,rfl⟩,?_⟩,h1.2⟩
   ·rw [hlen];omega
   ·have:(changedC c f).reg.length=(chGo0 c f).1.length:=sortG_len _
    omega
   ·rw [List.all_eq_true]
    intro x hx
    have h2:=h1.1.2
    rw [List.all_eq_true] at h2
    rcases (hmem x).1 hx with hx|⟨m,hm,_,rfl⟩
    ·exact h2 x hx
    ·obtain ⟨t1,t2,_⟩:=hTk m hm
     have h3:=h2 _ t1
     exact h3
  have hD:depthsL (changedC c f).reg=depthsL c.reg:=by
   rw [depthsL,depthsL,hnums]
   exact List.map_congr_left fun n _=>Rr_ext (fun n d=>hchI n d) _ n
  have h1:=hOk.reg
  rw [checkR,if_neg (by simp [check_listed hOk.reg])] at h1
  rw [checkR,if_neg (by simp [hL]),hD];exact h1
 have hletl:(changedC c f).lets.length=c.lets.length:=hgo.2.2.2
 have hfind:∀ (k:Nat) (n lt:Int),(nums c.reg)[k]?=some n→(changedC c f).lets[k]?=some lt→newT c f n∈(changedC c f).reg∧(newT c f n).drawing=n∧(newT c f n).letter=lt:=fun k n lt hk hlt=>by
  have hn:=List.mem_of_getElem? hk
  obtain ⟨t1,t2,k',lt',e1,e2,e3⟩:=hTk n hn
  obtain rfl:k'=k:=(List.getElem?_inj (lt_of_getElem? e1) hnd).1 (e1.trans hk.symm)
  have h1:=hletAt k' n hk
  rw [hlt] at h1
  unfold newT
  split
  ·rename_i h
   rw [if_pos h,e2] at h1
   cases h1
   obtain ⟨_,_,f3⟩:=find_some e3
   exact ⟨(hmem _).2 (.inl t1),t2,f3⟩
  ·rename_i h
   rw [if_neg h] at h1
   cases h1
   exact ⟨(hmem _).2 (.inr ⟨n,hn,h,rfl⟩),t2,rfl⟩
 have hlets:lettersI (changedC c f).reg (changedC c f).lets=true:=by
  refine zip_good hchk (by rw [hletl,hnums,hll]) fun k h1 h2=>?_
  have e1:(nums c.reg)[k]?=some (nums (changedC c f).reg)[k]:=by rw [← hnums];exact List.getElem?_eq_getElem h1
  obtain ⟨a,b,d⟩:=hfind k _ _ e1 (List.getElem?_eq_getElem h2)
  exact (find_iff _ _ _).2 ⟨_,a,b,d⟩
 have htake:∀ n∈nums c.reg,takeI (changedC c f).reg (changedC c f).lets n=newT c f n:=fun n hn=>by
  obtain ⟨t1,t2,k,lt,e1,e2,e3⟩:=take_spec hchk hlets (d:=n) (by rw [hnums];exact hn)
  obtain ⟨_,_,f3⟩:=find_some e3
  rw [hnums] at e1
  obtain ⟨a,b,d⟩:=hfind k n lt e1 e2
  exact (reg_keys hchk).1 _ t1 _ a (by rw [t2,b]) (by rw [f3,d])
 have hki:∀ n,(takeI (changedC c f).reg (changedC c f).lets n).kind=(takeI c.reg c.lets n).kind∧(takeI (changedC c f).reg (changedC c f).lets n).items=(takeI c.reg c.lets n).items:=fun n=>by
  by_cases hn:n∈nums c.reg
  ·rw [htake n hn];exact ⟨(newT_is c f n).1,(newT_is c f n).2.1⟩
  ·rw [take_none hchk (by rw [hnums];exact hn),take_none hOk.reg hn];exact ⟨rfl,rfl⟩
 have hparts:partsI (changedC c f).reg (changedC c f).lets (changedC c f).of=partsI c.reg c.lets c.of:=by
  rw [partsI,partsI,cntI,cntI,hnums]
  show (((nums c.reg).zip (addL (nums c.reg) _ (leavesF (takeI (changedC c f).reg (changedC c f).lets) 6 c.of 1))).filter _).map _=_
  rw [leaves_ext hki]
 have hch:chainsE (changedC c f)=0:=by
  have h1:=h0
  rw [chainsE_zero hOk.reg] at h1
  rw [chainsE_zero hchk]
  split at h1
  ·rename_i h
   rw [if_pos]
   obtain ⟨a,b,d,e⟩:=h
   refine ⟨hlets,by rw [hnums];exact b,d,?_⟩
   rw [List.all_eq_true] at e ⊢
   intro x hx
   have e1:=e x hx
   simp only [loopOkR,Bool.and_eq_true,List.all_eq_true] at e1 ⊢
   refine ⟨e1.1,fun y hy=>?_⟩
   have e2:=e1.2 y hy
   have hyn:=(hOk.link x hx y hy).1
   have hdl:(takeI (changedC c f).reg (changedC c f).lets y.drawing).dims.length=(takeI c.reg c.lets y.drawing).dims.length:=by
    rw [htake _ hyn,(newT_is c f _).2.2.2,(hfo _ hyn).1]
   rw [linkOkR] at e2 ⊢
   rw [hparts,hdl];exact e2
  ·cases h1
 have hokI':=(scan_all hext).2.2.2.1
 have hSmR:SmallR (changedC c f).reg:=by
  refine ⟨?_,fun x hx=>?_⟩
  ·have:(changedC c f).reg.length=(chGo0 c f).1.length:=sortG_len _
   omega
  ·have h1:=(issueOk_iff x).1 (hokI' x hx)
   omega
 exact ⟨hchk,hnums,hmem,hlen,hletl,hletAt,hlets,htake,g1',hch,okC hch,⟨hSmR,by rw [hletl];exact hsm.2.1,hsm.2.2⟩,⟨⟨hSmR.1,fun x hx=>(hSmR.2 x hx).2.2⟩,by rw [hletl];exact hsm.2.1,hsm.2.2⟩⟩
end Go.Proofs
namespace Go.Proofs
open Go Go.Ab
theorem issue_dims {c:Chains} (hOk:OkC c) {x:Issue} (hx:x∈c.reg):∀ d∈x.dims,dimOk d=true:=((issueOk_iff x).1 ((scan_all (listed_scan (check_listed hOk.reg))).2.2.2.1 x hx)).2.2
theorem tg_fok {c:Chains} (hOk:OkC c) (l:List Spot) {g:Int} (h0:0≤g):FOk c (tgF l g):=fun n hn _=>by
 obtain ⟨t1,_⟩:=take_spec hOk.reg hOk.lets hn
 have hd:=issue_dims hOk t1
 generalize takeI c.reg c.lets n=T at *
 refine ⟨tgT_len l g T,fun d h=>?_⟩
 obtain ⟨k,hk⟩:=List.mem_iff_getElem?.1 h
 have hkl:k < T.dims.length:=by have:=lt_of_getElem? hk;rwa [tgF,tgT_len] at this
 have h1:=tgT_get l g T hkl
 simp only [tgF] at hk
 rw [hk] at h1
 have h2:=hd _ (List.getElem_mem hkl)
 cases h1
 split
 ·exact tight_ok h2 h0
 ·exact h2
theorem chGo_err {reg:List Issue} {B:List (Int×Issue)} {f:Issue→List Dim×Int} (h:∀ x,(f x).2=0):∀ (r:List Int) (i:Nat) (R:List Issue) (L:List Int),(chGo reg B f r i R L).2.2=0
 | [],_,_,_=>rfl
 | n :: r,i,R,L=>by
   unfold chGo
   rw [if_neg (by simp [h])]
   split
   ·exact chGo_err h r _ _ _
   ·exact chGo_err h r _ _ _
theorem okL_sorted {S:List Spot}:∀ (l:List Spot) (p:Option Spot),(∀ x∈l,x∈S)→SortedS l→(∀ y,p=some y→∀ x∈l,before y x=true)→okL S p l=true
 | [],p,_,_,_=>okL_nil S p
 | x :: r,p,h1,h2,h3=>by
   have h2':=List.pairwise_cons.1 h2
   rw [okL_cons,okL_sorted r (some x) (fun y hy=>h1 y (List.mem_cons_of_mem _ hy)) h2'.2 (fun y e=>by cases e;exact h2'.1),Bool.and_true,Bool.and_eq_true]
   refine ⟨by simp [inS,h1 x (by simp)],?_⟩
   cases p with
   | none=>rfl
   | some y=>simp only [decide_eq_true_eq];exact ordS_lt.2 (h3 y rfl x (by simp))
theorem okL_sub {S l:List Spot} (hS:SortedS S) (h:l.Sublist S):okL S none l=true:=
 okL_sorted l none (fun _ hx=>h.subset hx) (hS.sublist h) (fun y e=>by cases e)
theorem allSpots_sorted (c:Chains):SortedS (allSpots c):=allS_sorted _ _
theorem tighE_two {c:Chains} (h0:chainsE c=0) {l:List Spot} (hl:l.Sublist (allSpots c)) {g:Int} (g0:0≤g) (g1:g≤1000000000):(tighE c l g=0∧changedE c (tgF l g)=0∧tighR c l g=changedC c (tgF l g))∨tighE c l g=9:=by
 have hE:tighE c l g=changedE c (tgF l g):=by rw [tighE,if_neg (by simp [h0]),if_pos ⟨okL_sub (allSpots_sorted c) hl,g0,g1⟩]
 have h2:(chGo0 c (tgF l g)).2.2=0:=chGo_err (fun x=>rfl) _ _ _ _
 have hE2:changedE c (tgF l g)=0∨changedE c (tgF l g)=9:=by
  rw [changedE,if_neg (by simp [h2])];split<;>simp
 rcases hE2 with h|h
 ·exact .inl ⟨by rw [hE,h],h,by rw [tighR,if_pos (by rw [hE,h])]⟩
 ·exact .inr (by rw [hE,h])
theorem tight_changed {c:Chains} (h0:chainsE c=0) (hsm:SmallC c) {l:List Spot} {g:Int} (g0:0≤g) (hE:changedE c (tgF l g)=0):Changed c (tgF l g):=changed_all h0 hsm (tg_fok (okC h0) l g0) hE
theorem tight_dimAt {c:Chains} (hOk:OkC c) {l:List Spot} {g:Int} (hC:Changed c (tgF l g)) {x:ChLoop} (hx:x∈c.loops) {y:Link} (hy:y∈x.links):dimAt (changedC c (tgF l g)) y=dimT c (inS l) g y:=by
 obtain ⟨h1,h2,h3⟩:=hOk.link x hx y hy
 obtain ⟨_,t2,_⟩:=take_spec hOk.reg hOk.lets h1
 have h4:y.dim.toNat < (takeI c.reg c.lets y.drawing).dims.length:=by omega
 have h5:=tgT_get l g _ h4
 rw [dimAt,hC.take _ h1,(newT_is c _ _).2.2.2]
 simp only [tgF]
 rw [h5,dimT,dimAt,List.getElem?_eq_getElem h4,t2,Int.toNat_of_nonneg h2]
 rfl
theorem tight_sizes {c:Chains} (hOk:OkC c) {l:List Spot} {g:Int} (hC:Changed c (tgF l g)) {x:ChLoop} (hx:x∈c.loops):sizesI (changedC c (tgF l g)) x=szT c (inS l) g x:=
 List.map_congr_left fun _ hy=>tight_dimAt hOk hC hx hy
theorem tight_reach {c:Chains} (h0:chainsE c=0) {l:List Spot} {g:Int} (hC:Changed c (tgF l g)) {k:Nat} {x:ChLoop} (hx:c.loops[k]?=some x):loopsE (changedC c (tgF l g)) (k:Int)=0∧rLo (changedC c (tgF l g)) (k:Int)=loT c (inS l) g x∧rHi (changedC c (tgF l g)) (k:Int)=hiT c (inS l) g x:=by
 have hkl:=lt_of_getElem? hx
 have hlE:loopsE (changedC c (tgF l g)) (k:Int)=0:=by rw [loopsE,if_neg (by simp [hC.chE]),if_pos ⟨by omega,by show (k:Int) < (c.loops.length:Int);omega⟩]
 have hx':(changedC c (tgF l g)).loops[k]?=some x:=hx
 have hs:=tight_sizes (okC h0) hC (List.mem_of_getElem? hx)
 refine ⟨hlE,?_,?_⟩
 ·rw [rLo,if_pos hlE,loI,Int.toNat_natCast,hx']
  simp only [hs];rfl
 ·rw [rHi,if_pos hlE,hiI,Int.toNat_natCast,hx']
  simp only [hs];rfl
end Go.Proofs
namespace Go.Proofs
open Go Go.Ab
end Go.Proofs
namespace Go.Proofs
open Go Go.Ab
structure ProofOf (c:Chains) (L:Nat) (x:ChLoop) (S:List Int):Prop where
 at':c.loops[L]?=some x
 len:S.length=x.links.length
 within:∀ (k:Nat) (y:Link) (n:Int),x.links[k]?=some y→S[k]?=some n→(dimAt c y).lower≤n∧n≤(dimAt c y).upper
 near:∀ (k:Nat) (y:Link) (n:Int),x.links[k]?=some y→S[k]?=some n→spotOf y∈allSpots c→n - midD (dimAt c y)≤gradeN c + 1∧midD (dimAt c y) - n≤gradeN c + 1
 out:sumZ x.links S < x.lo∨x.hi < sumZ x.links S
end Go.Proofs
namespace Go.Ab
open Go
theorem bit_at16' (s i:Nat):IntKind.u16.wrap ((BitVec.ofInt 16 ((s:Int).fdiv (2 ^ i)) &&& BitVec.ofInt 16 1).toNat:Int)=if s.testBit i=true then 1 else 0:=by
 have e1:(s:Int).fdiv (2 ^ i)=((s / 2 ^ i:Nat):Int):=by
  rw [Int.fdiv_eq_ediv_of_nonneg _ (by exact Int.pow_nonneg (by omega))]
  simp
 have e2:(BitVec.ofInt 16 ((s / 2 ^ i:Nat):Int) &&& BitVec.ofInt 16 1).toNat=(s / 2 ^ i) % 2:=by
  have h1:(BitVec.ofInt 16 1)=1#16:=by decide
  rw [h1,BitVec.ofInt_natCast,BitVec.toNat_and,BitVec.toNat_ofNat,BitVec.toNat_ofNat]
  rw [show (1 % 2 ^ 16:Nat)=1 by decide,Nat.and_one_is_mod]
  omega
 rw [e1,e2,Nat.testBit_eq_decide_div_mod_eq]
 rcases Nat.mod_two_eq_zero_or_one (s / 2 ^ i) with h|h
 ·rw [h];simp;decide
 ·rw [h];simp;decide
end Go.Ab
namespace Go.Proofs
open Go Go.Ab
end Go.Proofs
namespace Go.Ab
open Go
theorem or16_lt {s m:Nat} (hs:s < 65536) (hm:m < 65536):s ||| m < 65536:=Nat.or_lt_two_pow (n:=16) hs hm
end Go.Ab
namespace Go.Proofs
open Go Go.Ab
def membP (p:Nat→Bool) (l:List Spot):Nat→List Spot
 | 0=>[]
 | k + 1=>membP p l k ++ (match l[k]? with
   | some x=>if p k then [x] else []
   | none=>[])
theorem membP_succ {p:Nat→Bool} {l:List Spot} {k:Nat} {x:Spot} (h:l[k]?=some x):membP p l (k + 1)=membP p l k ++ if p k then [x] else []:=by rw [membP,h]
theorem membP_len (p:Nat→Bool) (l:List Spot):∀ k,(membP p l k).length≤k
 | 0=>Nat.le_refl _
 | k + 1=>by
   have:=membP_len p l k
   rw [membP,List.length_append]
   split
   ·split<;>simp<;>omega
   ·simp;omega
theorem membP_sub {p:Nat→Bool} {l:List Spot}:∀ k,(membP p l k).Sublist (l.take k)
 | 0=>by simp [membP]
 | k + 1=>by
   rw [membP,List.take_add_one]
   refine List.Sublist.append (membP_sub k) ?_
   cases l[k]? with
   | none=>simp
   | some x=>simp only [Option.toList_some];split<;>simp
theorem membP_all (p:Nat→Bool) (l:List Spot):(membP p l l.length).Sublist l:=by
 have:=membP_sub (p:=p) (l:=l) l.length
 rwa [List.take_length] at this
theorem membP_mono {p q:Nat→Bool} (h:∀ i,p i=true→q i=true) {l:List Spot}:∀ k,∀ x∈membP p l k,x∈membP q l k
 | 0,x,hx=>by simp [membP] at hx
 | k + 1,x,hx=>by
   rw [membP,List.mem_append] at hx ⊢
   rcases hx with hx|hx
   ·exact .inl (membP_mono h k x hx)
   ·refine .inr ?_
    cases hl:l[k]? with
    | none=>rw [hl] at hx;simp at hx
    | some y =>
      rw [hl] at hx
      simp only at hx ⊢
      split at hx
      ·rw [if_pos (h k ‹_›)];exact hx
      ·simp at hx
theorem less_wide {c:Chains} (hOk:OkC c) {a b:List Spot} (hab:∀ z∈a,z∈b) {n n':Int} (hn:n'≤n) {x:ChLoop} (hx:x∈c.loops):loT c (inS a) n x≤loT c (inS b) n' x∧hiT c (inS b) n' x≤hiT c (inS a) n x:=
 allT_mono hOk (fun z _ h=>by simp only [inS,decide_eq_true_eq] at h ⊢;exact hab z h) hn x hx
theorem never_wide {c:Chains} (hOk:OkC c) {a:List Spot} {n:Int} {x:ChLoop} (hx:x∈c.loops):endS x.links (sizesI c x) false≤loT c (inS a) n x∧hiT c (inS a) n x≤endS x.links (sizesI c x) true:=by
 have h:=allT_mono hOk (so:=inS a) (so':=neverS) (g:=n) (g':=n) (fun z _ h=>by simp [neverS] at h) (by omega) x hx
 rw [loT,loT,hiT,hiT,szT_never] at h
 exact h
end Go.Proofs
namespace Go.Proofs
open Go Go.Ab
set_option linter.unusedSimpArgs false
variable {G:Nat→Option (List IC)}
attribute [simp] permL reO cutL cutE gones noLoop nilV nilX ZK
end Go.Proofs
namespace Go.Proofs
open Go Go.Ab
set_option linter.unusedSimpArgs false
variable {G:Nat→Option (List IC)}
attribute [simp] permL reO cutL cutE gones noLoop nilV nilX ZK
@[simp] def u16w (n:Int):DV:=.one (.im (.raw (.int .u16 n)))
end Go.Proofs
namespace Go.Proofs
open Go Go.Ab
set_option linter.unusedSimpArgs false
variable {G:Nat→Option (List IC)}
attribute [simp] permL reO cutL cutE gones noLoop nilV nilX ZK
set_option maxHeartbeats 8000000 in
set_option maxRecDepth 10000 in
theorem chainLess_c (c:Chains) (s m n ls:Nat) (u1 u2 u3:IC) (hG:sheetG G) (hC:chainG G) (hU:unitG G u1 u2 u3) (hSF:SortFOk G) (hSG:SortGOk G) (hk:KindOk c.reg) (hs6:s < 65536) (hm6:m < 65536) (hn6:n < 65536) (hls6:ls < 65536) (objs:List DObj):DCall Tryz.prog G 8 [chv c,u16w (s:Int),u16w (m:Int),u16w (n:Int),u16w (ls:Int)] objs (fun rr objs'=>rr=bv true∧objs'=objs):=by
 refine DCall.frame ?_ (by simp) (by simp) objs
 refine DCall_intro Tryz.func8 rfl Tryz.ntmps8 (by simp) rfl ?_
 try simp only [chv]
 have c1:=alive_c (G:=G) u1 u2 u3 hG hC hU hSF hSG
 have c2:=ready6_c (G:=G) c hk
 simp only [u16w]
 cases hq:readyC c
 ·rw [hq] at c2
  have hs:True:=trivial
  repeat' first|(with_reducible first|refine q01 ?_|refine q02 ?_|refine q11 ?_|refine q17 ?_)|(with_reducible refine At.fn_ret (by simp -dsimp [hs];exact rfl) ?_)|(refine CallE.pure (c1) ?_;try simp -dsimp [hs])|(refine CallE.pure (c2) ?_;try simp -dsimp [hs])|(with_reducible refine DT_regionE [0,1,2,3,4,5,10,11,12,13,14,15,16,17,18,19,20,21,22,23,24,25,26,27,28,29,37,45,46,47,48,49,58,70,101,121,122,123,187] ?_;simp -dsimp [hs])|(refine DT_cond rfl (fun h=>?_) (fun h=>?_)<;>(try simp only [nrm] at h)<;>(try exact Bool.noConfusion h))
  all_goals try simp -dsimp [hs]
  all_goals try clear hs
 ·rw [hq] at c2
  have hq':=hq
  simp only [readyC,Bool.and_eq_true,decide_eq_true_eq] at hq'
  obtain ⟨hq1,hq2⟩:=hq'
  have hg:=smallB_iff.1 hq1
  have hsm:SmallC c:=⟨⟨hg.1.1,fun x hx=>⟨(hk x hx).1,(hk x hx).2,(hg.1.2 x hx).1,(hg.1.2 x hx).2⟩⟩,hg.2⟩
  have hOk:=okC hq2
  have hSl:=allSpots_len hOk hsm
  have c3:=pSpots_c (G:=G) c hG hC hsm hSF
  have hsp:spotsR c=allSpots c:=by rw [spotsR,if_pos hq2]
  rw [hsp,hq2] at c3
  have hn':(max 0 ((n:Int) - (ls:Int)))≤(n:Int):=by omega
  have hn0:(0:Int)≤max 0 ((n:Int) - (ls:Int)):=by omega
  have hmono:=membP_mono (p:=fun i=>s.testBit (i % 16)) (q:=fun i=>(s ||| m).testBit (i % 16)) (fun i h=>by show (s ||| m).testBit (i % 16)=true;rw [Nat.testBit_or,show s.testBit (i % 16)=true from h];rfl) (l:=allSpots c) (allSpots c).length
  generalize hn2:max 0 ((n:Int) - (ls:Int))=n2 at *
  have ha:=membP_all (fun i=>s.testBit (i % 16)) (allSpots c)
  have hb:=membP_all (fun i=>(s ||| m).testBit (i % 16)) (allSpots c)
  have c4:=pTighten_c (G:=G) c (membP (fun i=>s.testBit (i % 16)) (allSpots c) (allSpots c).length) (n:Int) hG hC hsm hSF hSG (by have:=ha.length_le;omega)
  have c5:=pTighten_c (G:=G) c (membP (fun i=>(s ||| m).testBit (i % 16)) (allSpots c) (allSpots c).length) n2 hG hC hsm hSF hSG (by have:=hb.length_le;omega)
  have hA2:=tighE_two hq2 ha (g:=(n:Int)) (by omega) (by omega)
  have hB2:=tighE_two hq2 hb (g:=n2) hn0 (by omega)
  have hlenA:=ha.length_le
  have hlenB:=hb.length_le
  clear ha hb
  simp only [spotsv] at c3 c4 c5
  generalize hA:allSpots c=A at *
  have hs:True:=trivial
  repeat' first|(with_reducible first|refine q01 ?_|refine q11 ?_|refine q12 ?_|refine q14 ?_)|(refine CallE.pure (c1) ?_;try simp -dsimp [hs])|(refine CallE.pure (c2) ?_;try simp -dsimp [hs])|(refine CallE.pure (c3) ?_;try simp -dsimp [hs])|(with_reducible refine DT_regionE [0,1,2,3,4,5,10,11,12,13,14,15,16,17,18,19,20,21,22,23,24,25,26,27,28,29,37,45,46,47,48,49,58,70,101,121,122,123,187] ?_;simp -dsimp [hs])|(refine DT_cond rfl (fun h=>?_) (fun h=>?_)<;>(try simp only [nrm] at h)<;>(try exact Bool.noConfusion h))
  all_goals try simp -dsimp [hs]
  all_goals try clear hs
  refine DT_loop (ι:={ p:Nat×Nat×Nat×Bool×Nat×Nat×Bool // p.1≤A.length∧(p.2.2.1=2∨p.2.2.2.1=true)∧(p.2.2.2.2.2.1=2∨p.2.2.2.2.2.2=true) }) (fun p=>⟨190,[(1,u16w (s:Int)),(2,u16w (m:Int)),(3,u16w (n:Int)),(4,u16w (ls:Int)),(5,.one (.ptr 0 0)),(11,bv true),(14,.one (.vec 1 p.1.2.1 0 (membP (fun i=>s.testBit (i % 16)) A p.1.1).length)),(15,.one (.vec 2 p.1.2.2.2.2.1 0 (membP (fun i=>(s ||| m).testBit (i % 16)) A p.1.1).length)),(46,.one (.im (.sl (A.map encSpot)))),(47,iv (A.length:Int)),(48,iv (p.1.1:Int))],[.row [.im (.sl (c.reg.map encIssue)),.im (.sl (c.lets.map Ab.encI)),.im (rI c.of),.im (.sl (c.loops.map encLoop))],.vec p.1.2.2.1 (ims ((membP (fun i=>s.testBit (i % 16)) A p.1.1).map encSpot)) p.1.2.1 p.1.2.2.2.1,.vec p.1.2.2.2.2.2.1 (ims ((membP (fun i=>(s ||| m).testBit (i % 16)) A p.1.1).map encSpot)) p.1.2.2.2.2.1 p.1.2.2.2.2.2.2]⟩) (fun p=>A.length - p.1.1) ⟨(0,0,2,true,0,2,true),by simp⟩ (Weak.of_keep [1,2,3,4,5,11,14,15,46,47,48] (by simp [membP])) ?_
  rintro ⟨⟨i,gn,sz,nl,gn',sz',nl'⟩,hi,hz,hz'⟩
  simp only at hi hz hz'
  simp only [iv,bv,u16w,rI]
  have hl1:=membP_len (fun i=>s.testBit (i % 16)) A i
  have hl2:=membP_len (fun i=>(s ||| m).testBit (i % 16)) A i
  by_cases hlti:i < A.length
  ·obtain ⟨x,hx⟩:∃ x,A[i]?=some x:=⟨A[i],by simp [hlti]⟩
   have hxe:∀ h,A[i]'h=x:=fun h=>by rw [List.getElem?_eq_getElem h] at hx;exact Option.some.inj hx
   have hwi:IntKind.i64.wrap ((i:Int) + 1)=((i + 1:Nat):Int):=i64w (by omega) (by omega)
   have ht:(i:Int).tmod 16=((i % 16:Nat):Int):=by rw [Int.tmod_eq_emod_of_nonneg (by omega)];omega
   have hjlt:i % 16 < 16:=Nat.mod_lt _ (by omega)
   have hsa:=membP_succ (p:=fun i=>s.testBit (i % 16)) hx
   have hsb:=membP_succ (p:=fun i=>(s ||| m).testBit (i % 16)) hx
   have hor2:=or16_lt hs6 hm6
   generalize hj:i % 16=j at *
   have hwj:IntKind.i64.wrap (j:Int)=(j:Int):=i64w (by omega) (by omega)
   have hj16:min j 16=j:=by omega
   have hjn:¬ ((j:Int) < 0):=by omega
   have hb16:IntKind.u16.bits=16:=rfl
   have hbit:=bit_at16' s j
   have hbit2:=bit_at16' (s ||| m) j
   have hwo:IntKind.u16.wrap ((s ||| m:Nat):Int)=((s ||| m:Nat):Int):=by simp [IntKind.wrap,IntKind.bits,IntKind.signed];omega
   generalize hsm':s ||| m=sm at *
   have hs65:s % 65536=s:=Nat.mod_eq_of_lt hs6
   have hm65:m % 65536=m:=Nat.mod_eq_of_lt hm6
   generalize membP (fun i=>s.testBit (i % 16)) A i=La at *
   generalize membP (fun i=>sm.testBit (i % 16)) A i=Lb at *
   cases hb1:s.testBit j<;>cases hb2:sm.testBit j<;>rw [hb1] at hbit hsa<;>rw [hb2] at hbit2 hsb<;>simp at hbit hbit2 hsa hsb
   ·have hs:True:=trivial
    repeat' first|(with_reducible first|refine q01 ?_|refine q04 ?_|refine q11 ?_|refine q12 ?_|refine q14 ?_)|(with_reducible refine DT_regionE [0,1,2,3,4,5,10,11,12,13,14,15,16,17,18,19,20,21,22,23,24,25,26,27,28,29,37,45,46,47,48,49,58,70,101,121,122,123,187] ?_;simp -dsimp [hx,hxe,hlti,hwi,ht,hwj,hjn,hj16,hb16,hbit,hbit2,hs65,hm65,hsm',hwo,hs])|(refine DT_cond rfl (fun h=>?_) (fun h=>?_)<;>(try simp only [nrm] at h)<;>(try exact Bool.noConfusion h))
    all_goals try simp -dsimp [hx,hxe,hlti,hwi,ht,hwj,hjn,hj16,hb16,hbit,hbit2,hs65,hm65,hsm',hwo,hs]
    all_goals try clear hs
    all_goals exact At.round ⟨(i + 1,gn,sz,nl,gn',sz',nl'),by omega,hz,hz'⟩ (by simp;omega) (Weak.of_drop [1,2,3,4,5,11,14,15,46,47,48] 3 (by simp) (by simp) (by simp [hsa,hsb]))
   ·have hs:True:=trivial
    repeat' first|(with_reducible first|refine q01 ?_|refine q04 ?_|refine q11 ?_|refine q12 ?_|refine q14 ?_|refine And.intro (by omega) ?_)|(with_reducible refine DT_regionE [0,1,2,3,4,5,10,11,12,13,14,15,16,17,18,19,20,21,22,23,24,25,26,27,28,29,37,45,46,47,48,49,58,70,101,121,122,123,187] ?_;simp -dsimp [hx,hxe,hlti,hwi,ht,hwj,hjn,hj16,hb16,hbit,hbit2,hs65,hm65,hsm',hwo,hz',hs])|(refine DT_cond rfl (fun h=>?_) (fun h=>?_)<;>(try simp only [nrm] at h)<;>(try exact Bool.noConfusion h))
    all_goals try simp -dsimp [hx,hxe,hlti,hwi,ht,hwj,hjn,hj16,hb16,hbit,hbit2,hs65,hm65,hsm',hwo,hz',hs]
    all_goals try clear hs
    all_goals try omega
    all_goals exact At.round ⟨(i + 1,gn,sz,nl,gn' + 1,2,false),by simp;exact ⟨by omega,hz⟩⟩ (by simp;omega) (Weak.of_drop [1,2,3,4,5,11,14,15,46,47,48] 3 (by simp) (by simp) (by simp [hsa,hsb]))
   ·have hs:True:=trivial
    repeat' first|(with_reducible first|refine q01 ?_|refine q04 ?_|refine q11 ?_|refine q12 ?_|refine q14 ?_|refine And.intro (by omega) ?_)|(with_reducible refine DT_regionE [0,1,2,3,4,5,10,11,12,13,14,15,16,17,18,19,20,21,22,23,24,25,26,27,28,29,37,45,46,47,48,49,58,70,101,121,122,123,187] ?_;simp -dsimp [hx,hxe,hlti,hwi,ht,hwj,hjn,hj16,hb16,hbit,hbit2,hs65,hm65,hsm',hwo,hz,hs])|(refine DT_cond rfl (fun h=>?_) (fun h=>?_)<;>(try simp only [nrm] at h)<;>(try exact Bool.noConfusion h))
    all_goals try simp -dsimp [hx,hxe,hlti,hwi,ht,hwj,hjn,hj16,hb16,hbit,hbit2,hs65,hm65,hsm',hwo,hz,hs]
    all_goals try clear hs
    all_goals try omega
    all_goals exact At.round ⟨(i + 1,gn + 1,2,false,gn',sz',nl'),by simp;exact ⟨by omega,hz'⟩⟩ (by simp;omega) (Weak.of_drop [1,2,3,4,5,11,14,15,46,47,48] 3 (by simp) (by simp) (by simp [hsa,hsb]))
   ·have hs:True:=trivial
    repeat' first|(with_reducible first|refine q01 ?_|refine q04 ?_|refine q11 ?_|refine q12 ?_|refine q14 ?_|refine And.intro (by omega) ?_)|(with_reducible refine DT_regionE [0,1,2,3,4,5,10,11,12,13,14,15,16,17,18,19,20,21,22,23,24,25,26,27,28,29,37,45,46,47,48,49,58,70,101,121,122,123,187] ?_;simp -dsimp [hx,hxe,hlti,hwi,ht,hwj,hjn,hj16,hb16,hbit,hbit2,hs65,hm65,hsm',hwo,hz,hz',hs])|(refine DT_cond rfl (fun h=>?_) (fun h=>?_)<;>(try simp only [nrm] at h)<;>(try exact Bool.noConfusion h))
    all_goals try simp -dsimp [hx,hxe,hlti,hwi,ht,hwj,hjn,hj16,hb16,hbit,hbit2,hs65,hm65,hsm',hwo,hz,hz',hs]
    all_goals try clear hs
    all_goals try omega
    all_goals exact At.round ⟨(i + 1,gn + 1,2,false,gn' + 1,2,false),by simp;omega⟩ (by simp;omega) (Weak.of_drop [1,2,3,4,5,11,14,15,46,47,48] 3 (by simp) (by simp) (by simp [hsa,hsb]))
  ·obtain rfl:i=A.length:=by omega
   generalize membP (fun i=>s.testBit (i % 16)) A A.length=La at *
   generalize membP (fun i=>(s ||| m).testBit (i % 16)) A A.length=Lb at *
   refine DT_weak (Weak.drop (Nat.zero_le _) (Nat.zero_le _)) ?_
   simp -dsimp
   have hmx:max 0 (IntKind.i64.wrap ((n:Int) - (ls:Int)))=n2:=by rw [i64w (by omega) (by omega)];exact hn2
   have hwn:IntKind.i64.wrap (n:Int)=(n:Int):=i64w (by omega) (by omega)
   have hwl:IntKind.i64.wrap (ls:Int)=(ls:Int):=i64w (by omega) (by omega)
   have hwnl:IntKind.i64.wrap ((n:Int) - (ls:Int))=(n:Int) - (ls:Int):=i64w (by omega) (by omega)
   rcases hA2 with ⟨a1,a2,a3⟩|a1<;>rcases hB2 with ⟨b1,b2,b3⟩|b1
   ·have hX:=tight_changed hq2 hsm (by omega) a2
    have hY:=tight_changed hq2 hsm hn0 b2
    rw [a1,a3] at c4
    rw [b1,b3] at c5
    have hr1:=fun (k:Nat) (x:ChLoop) (hx:c.loops[k]?=some x)=>tight_reach hq2 hX hx
    have hr2:=fun (k:Nat) (x:ChLoop) (hx:c.loops[k]?=some x)=>tight_reach hq2 hY hx
    have c6:=fun k:Int=>pReach_c (G:=G) (changedC c (tgF La n)) k hG hC hX.small (fun _=>hX.ok)
    have c7:=fun k:Int=>pReach_c (G:=G) (changedC c (tgF Lb n2)) k hG hC hY.small (fun _=>hY.ok)
    generalize changedC c (tgF La n)=X at *
    generalize changedC c (tgF Lb n2)=Y at *
    have hs:True:=trivial
    repeat' first|(with_reducible first|refine q01 ?_|refine q03 ?_|refine q06 ?_|refine q11 ?_|refine q12 ?_|refine q14 ?_|refine q16 ?_)|(refine CallE.pure (c4) ?_;try simp -dsimp [hlti,hz,hz',hwn,hwl,hwnl,hn2,hs])|(refine CallE.pure (c5) ?_;try simp -dsimp [hlti,hz,hz',hwn,hwl,hwnl,hn2,hs])|(with_reducible refine DT_regionE [0,1,2,3,4,5,10,11,12,13,14,15,16,17,18,19,20,21,22,23,24,25,26,27,28,29,37,45,46,47,48,49,58,70,101,121,122,123,187] ?_;simp -dsimp [hlti,hz,hz',hwn,hwl,hwnl,hn2,hs])|(refine DT_cond rfl (fun h=>?_) (fun h=>?_)<;>(try simp only [nrm] at h)<;>(try exact Bool.noConfusion h))
    all_goals try simp -dsimp [hlti,hz,hz',hwn,hwl,hwnl,hn2,hs]
    all_goals try clear hs
    refine DT_weak (Weak.drop (Nat.zero_le _) (Nat.zero_le _)) ?_
    simp -dsimp
    refine DT_loop (ι:={ k:Nat // k≤c.loops.length }) (fun k=>⟨190,[(5,.one (.im (.ip [.sl (c.reg.map encIssue),.sl (c.lets.map Ab.encI),rI c.of,.sl (c.loops.map encLoop)]))),(11,bv true),(19,.one (.im (.ip [.sl (X.reg.map encIssue),.sl (X.lets.map Ab.encI),rI X.of,.sl (X.loops.map encLoop)]))),(21,.one (.im (.ip [.sl (Y.reg.map encIssue),.sl (Y.lets.map Ab.encI),rI Y.of,.sl (Y.loops.map encLoop)]))),(121,iv (c.loops.length:Int)),(122,iv (k.1:Int))],[]⟩) (fun k=>c.loops.length - k.1) ⟨0,by omega⟩ (Weak.of_keep [5,11,19,21,121,122] (by simp)) ?_
    rintro ⟨k,hkl⟩
    simp only [iv,rI,bv]
    have hl6:=hOk.num
    by_cases hlt:k < c.loops.length
    ·have hw:IntKind.i64.wrap ((k:Int) + 1)=((k + 1:Nat):Int):=i64w (by omega) (by omega)
     obtain ⟨x,hx⟩:∃ x,c.loops[k]?=some x:=⟨c.loops[k],by simp [hlt]⟩
     have hxm:x∈c.loops:=List.mem_of_getElem? hx
     have hlE:loopsE c (k:Int)=0:=by rw [loopsE,if_neg (by simp [hq2]),if_pos ⟨by omega,by omega⟩]
     have hLo:rLo c (k:Int)=endS x.links (sizesI c x) false:=by rw [rLo,if_pos hlE,loI];simp [hx]
     have hHi:rHi c (k:Int)=endS x.links (sizesI c x) true:=by rw [rHi,if_pos hlE,hiI];simp [hx]
     have c8:=pReach_c (G:=G) c k hG hC hsm okC
     have c6:=c6 k
     have c7:=c7 k
     obtain ⟨x1,x2,x3⟩:=hr1 k x hx
     obtain ⟨y1,y2,y3⟩:=hr2 k x hx
     have w1:=never_wide hOk (a:=La) (n:=(n:Int)) hxm
     have w2:=less_wide hOk (a:=La) (b:=Lb) hmono hn' hxm
     have w3:=lo_hiT hOk (so:=inS Lb) hn0 hxm
     rw [← hLo,← hHi] at w1
     rw [← x2,← x3] at w1 w2
     rw [← y2,← y3] at w2 w3
     rw [hlE] at c8
     rw [x1] at c6
     rw [y1] at c7
     generalize rLo c (k:Int)=L1 at *
     generalize rHi c (k:Int)=H1 at *
     generalize rLo X (k:Int)=L2 at *
     generalize rHi X (k:Int)=H2 at *
     generalize rLo Y (k:Int)=L3 at *
     generalize rHi Y (k:Int)=H3 at *
     have m1:(L2 < L1)=False:=eq_false (by omega)
     have m2:(H1 < H2)=False:=eq_false (by omega)
     have m3:(L3 < L2)=False:=eq_false (by omega)
     have m4:(H2 < H3)=False:=eq_false (by omega)
     have m5:(H3 < L3)=False:=eq_false (by omega)
     simp only [refv] at c6 c7 c8
     have hs:True:=trivial
     repeat' first|(with_reducible first|refine q01 ?_|refine q04 ?_|refine q11 ?_|refine q12 ?_|refine q14 ?_)|(refine CallE.pure (c6) ?_;try simp -dsimp [hlt,m1,m2,m3,m4,m5,hs])|(refine CallE.pure (c7) ?_;try simp -dsimp [hlt,m1,m2,m3,m4,m5,hs])|(refine CallE.pure (c8) ?_;try simp -dsimp [hlt,m1,m2,m3,m4,m5,hs])|(with_reducible refine DT_regionE [0,1,2,3,4,5,10,11,12,13,14,15,16,17,18,19,20,21,22,23,24,25,26,27,28,29,37,45,46,47,48,49,58,70,101,121,122,123,187] ?_;simp -dsimp [hlt,m1,m2,m3,m4,m5,hs])|(refine DT_cond rfl (fun h=>?_) (fun h=>?_)<;>(try simp only [nrm] at h)<;>(try exact Bool.noConfusion h))
     all_goals try simp -dsimp [hlt,m1,m2,m3,m4,m5,hs]
     all_goals try clear hs
     all_goals exact At.round ⟨k + 1,by omega⟩ (by simp;omega) (Weak.of_drop [5,11,19,21,121,122] 0 (by simp) (by simp) (by simp [hw]))
    ·obtain rfl:k=c.loops.length:=by omega
     have hs:True:=trivial
     repeat' first|(with_reducible first|refine q01 ?_|refine q03 ?_|refine q06 ?_|refine q11 ?_|refine q16 ?_|refine q17 ?_)|(with_reducible refine At.fn_ret (by simp -dsimp [hlt,hs];exact rfl) ?_)|(with_reducible refine DT_regionE [0,1,2,3,4,5,10,11,12,13,14,15,16,17,18,19,20,21,22,23,24,25,26,27,28,29,37,45,46,47,48,49,58,70,101,121,122,123,187] ?_;simp -dsimp [hlt,hs])|(refine DT_cond rfl (fun h=>?_) (fun h=>?_)<;>(try simp only [nrm] at h)<;>(try exact Bool.noConfusion h))
     all_goals try simp -dsimp [hlt,hs]
     all_goals try clear hs
   ·have hs:True:=trivial
    repeat' first|(with_reducible first|refine q01 ?_|refine q02 ?_|refine q03 ?_|refine q06 ?_|refine q11 ?_|refine q16 ?_|refine q17 ?_)|(with_reducible refine At.fn_ret (by simp -dsimp [hlti,hz,hz',hwn,hwl,hwnl,hn2,a1,b1,hs];exact rfl) ?_)|(refine CallE.pure (c4) ?_;try simp -dsimp [hlti,hz,hz',hwn,hwl,hwnl,hn2,a1,b1,hs])|(refine CallE.pure (c5) ?_;try simp -dsimp [hlti,hz,hz',hwn,hwl,hwnl,hn2,a1,b1,hs])|(with_reducible refine DT_regionE [0,1,2,3,4,5,10,11,12,13,14,15,16,17,18,19,20,21,22,23,24,25,26,27,28,29,37,45,46,47,48,49,58,70,101,121,122,123,187] ?_;simp -dsimp [hlti,hz,hz',hwn,hwl,hwnl,hn2,a1,b1,hs])|(refine DT_cond rfl (fun h=>?_) (fun h=>?_)<;>(try simp only [nrm] at h)<;>(try exact Bool.noConfusion h))
    all_goals try simp -dsimp [hlti,hz,hz',hwn,hwl,hwnl,hn2,a1,b1,hs]
    all_goals try clear hs
   ·have hs:True:=trivial
    repeat' first|(with_reducible first|refine q01 ?_|refine q02 ?_|refine q03 ?_|refine q06 ?_|refine q11 ?_|refine q16 ?_|refine q17 ?_)|(with_reducible refine At.fn_ret (by simp -dsimp [hlti,hz,hz',hwn,hwl,hwnl,hn2,a1,b1,hs];exact rfl) ?_)|(refine CallE.pure (c4) ?_;try simp -dsimp [hlti,hz,hz',hwn,hwl,hwnl,hn2,a1,b1,hs])|(refine CallE.pure (c5) ?_;try simp -dsimp [hlti,hz,hz',hwn,hwl,hwnl,hn2,a1,b1,hs])|(with_reducible refine DT_regionE [0,1,2,3,4,5,10,11,12,13,14,15,16,17,18,19,20,21,22,23,24,25,26,27,28,29,37,45,46,47,48,49,58,70,101,121,122,123,187] ?_;simp -dsimp [hlti,hz,hz',hwn,hwl,hwnl,hn2,a1,b1,hs])|(refine DT_cond rfl (fun h=>?_) (fun h=>?_)<;>(try simp only [nrm] at h)<;>(try exact Bool.noConfusion h))
    all_goals try simp -dsimp [hlti,hz,hz',hwn,hwl,hwnl,hn2,a1,b1,hs]
    all_goals try clear hs
   ·have hs:True:=trivial
    repeat' first|(with_reducible first|refine q01 ?_|refine q02 ?_|refine q03 ?_|refine q06 ?_|refine q11 ?_|refine q16 ?_|refine q17 ?_)|(with_reducible refine At.fn_ret (by simp -dsimp [hlti,hz,hz',hwn,hwl,hwnl,hn2,a1,b1,hs];exact rfl) ?_)|(refine CallE.pure (c4) ?_;try simp -dsimp [hlti,hz,hz',hwn,hwl,hwnl,hn2,a1,b1,hs])|(refine CallE.pure (c5) ?_;try simp -dsimp [hlti,hz,hz',hwn,hwl,hwnl,hn2,a1,b1,hs])|(with_reducible refine DT_regionE [0,1,2,3,4,5,10,11,12,13,14,15,16,17,18,19,20,21,22,23,24,25,26,27,28,29,37,45,46,47,48,49,58,70,101,121,122,123,187] ?_;simp -dsimp [hlti,hz,hz',hwn,hwl,hwnl,hn2,a1,b1,hs])|(refine DT_cond rfl (fun h=>?_) (fun h=>?_)<;>(try simp only [nrm] at h)<;>(try exact Bool.noConfusion h))
    all_goals try simp -dsimp [hlti,hz,hz',hwn,hwl,hwnl,hn2,a1,b1,hs]
    all_goals try clear hs
end Go.Proofs
