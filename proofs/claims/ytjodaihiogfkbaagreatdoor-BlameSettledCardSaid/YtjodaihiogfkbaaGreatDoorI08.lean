/- Part 26 of the proofs. -/
import Derived.Shelf.Sort.Plain
import Derived.Shelf.Slices.In.SortNone
import Derived.Ground.NamesProg
import Derived.Shelf.Lays
import Derived.Shelf.SlGeneric
import Derived.Shelf.SlSortCmp.NoneTotal
import Derived.Ground.SlsfProg
import Derived.Test.YtjodaihiogfkbaaGreatDoorCards
import Derived.SevenTiedAt
import Derived.Test.YtjodaihiogfkbaaGreatDoorU14
import Derived.Test.YtjodaihiogfkbaaGreatDoorU15
import Derived.Test.YtjodaihiogfkbaaGreatDoorU18
import Derived.Test.YtjodaihiogfkbaaGreatDoorI01
import Derived.Test.YtjodaihiogfkbaaGreatDoorI02
import Derived.Test.YtjodaihiogfkbaaGreatDoorI04
import Derived.Test.YtjodaihiogfkbaaGreatDoorI05
import Derived.Test.YtjodaihiogfkbaaGreatDoorI07
set_option linter.all false
set_option maxHeartbeats 100000000
namespace Go.Proofs
open Go Go.Ab Tryz
variable {G:MF}
theorem yO (l:List Note) (hl:l.length<1000):DCall prog G 108 [.one (.im (.sl (l.map j9)))] [] (λd o=>∃ i:Nat×Bool,(i.2=true->l=[])/\d=.one (.vec 1 i.1 0 l.length)/\o=[.vec 10 [] 0 true,.vec 10 (l7 (l.map j9)) i.1 i.2]):=by
 refine g9 func108 rfl ntmps108 (by simp) rfl ?_;repeat' first|(with_reducible first|refine zz ?_|refine And.intro (by omega) ?_|refine zx ?_|refine zE [0,2,4] ?_)|simp -dsimp|refine i9 ?_ ?_<;>intro h<;>try exact h.elim|with_reducible refine U5 (λh=>?_);(try simp only[List.map_eq_nil_iff] at h);(try subst h);try simp -dsimp|with_reducible refine And.intro ?_ ?_
def P5 (x:Note) (v:Int):Note:={ x with signed:=v }
def E2 (l:List Note) (i:Nat) (v:Int):List Note:=match l[i]? with
 | some x=>l.set i (P5 x v)
 | none=>l
theorem jr (l:List Note) (i:Nat) (v:Int):(E2 l i v).length=l.length:=by
 unfold E2;split<;>simp
def lc (n:Notes) (a:Int):Nat:=(H8 (λx=>decide (x.number=a)) n.notes).toNat
def X6 (n:Notes) (a:Int) (b:Bool):List Note:=E2 n.notes (lc n a) (if b=true then 2 else 0)
def G9 (n:Notes) (a:Int):Int:=if p7 n≠0 then p7 n else if a∈j7 n.notes then 0 else 6
def aq (n:Notes) (a:Int) (b:Bool):Notes:=if G9 n a=0 then ⟨n.reg,X6 n a b⟩ else ⟨[],[]⟩
theorem open_mem {l:List Note} {a:Int}:a∈j7 l↔∃ (k:Nat) (x:Note),l[k]?=some x/\x.number=a/\x.signed=1:=by
 unfold j7;simp only[List.mem_map,List.mem_filter,decide_eq_true_eq];constructor
 ·rintro⟨x,⟨h1,h2⟩,h3⟩;obtain⟨k,hk⟩:=List.mem_iff_getElem?.1 h1;exact⟨k,x,hk,h3,h2⟩
 ·rintro⟨k,x,h1,h2,h3⟩;exact⟨x,⟨List.mem_of_getElem? h1,h3⟩,h2⟩
theorem rZ {n:Notes} (hok:ak n) {k:Nat} {x:Note} (hx:n.notes[k]?=some x):H8 (λy=>decide (y.number=x.number)) n.notes=k:=by
 refine J7 hx (by simp) λj y hj hy=>?_;have hnd:=ml hok;rw[List.nodup_iff_pairwise_ne,List.pairwise_iff_getElem] at hnd;obtain⟨hk,hk'⟩:=List.getElem?_eq_some_iff.1 hx;obtain⟨hj',hj''⟩:=List.getElem?_eq_some_iff.1 hy;have:=hnd j k (by simpa using hj') (by simpa using hk) hj;simp only[List.getElem_map,hk',hj''] at this;simpa using this
theorem W2 {n:Notes} (hok:ak n) {k:Nat} {x:Note} (hx:n.notes[k]?=some x):lc n x.number=k:=by
 unfold lc;rw[rZ hok hx];rfl
end Go.Proofs
namespace Go.Proofs
open Go Go.Ab
def I7 (l:List Note):List Note:=l.map λx=>P5 x 0
theorem aL (l:List Note) (i:Nat):(I7 l)[i]?=(l[i]?).map λx=>P5 x 0:=by simp[I7]
theorem R8 (l:List Note) (i:Nat) (v:Int):I7 (E2 l i v)=I7 l:=by
 unfold E2;split
 ·rename_i x hx;refine List.ext_getElem? λj=>?_;rw[aL,aL];by_cases e:i=j
  ·subst e;have hi:=e7 hx;rw[List.getElem?_set_self hi,hx];rfl
  ·rw[List.getElem?_set_ne e]
 ·rfl
theorem oq (l:List Note) (i:Nat) (x:Note):wh l i x=wh (I7 l) i (P5 x 0):=by
 simp only[wh,I7,<- List.map_take,List.any_map];rfl
theorem oo (l:List Note) (i:Nat) (x:Note):qN l i x=qN (I7 l) i (P5 x 0):=by
 simp only[qN,I7,<- List.map_take,List.any_map];rfl
theorem om (l:List Note) (i:Nat) (x:Note):tl l i x=tl (I7 l) i (P5 x 0):=by
 unfold tl;split
 ·rfl
 ·rw[aL];cases l[i-1]?<;>rfl
theorem pw {n:Notes} (hok:ak n) {v:Int} (hv:0<=v/\v<=2) (i:Nat):ak ⟨n.reg,E2 n.notes i v⟩:=by
 intro j y hy;have hs:(I7 (E2 n.notes i v))[j]?=some (P5 y 0):=by rw[aL];rw[show (E2 n.notes i v)[j]?=some y from hy];rfl
 rw[R8,aL,Option.map_eq_some_iff] at hs;obtain⟨x,hx,hxy⟩:=hs;have h:=hok j x hx;have h2:y.signed<=2:=by
  have hx2:x.signed<=2:=by
   simp only[tj,EC,Bool.and_eq_true,decide_eq_true_eq] at h;omega
  have hy':(E2 n.notes i v)[j]?=some y:=hy;unfold E2 at hy';split at hy'
  ·rename_i z hz;by_cases e:i=j
   ·subst e;rw[List.getElem?_set_self (e7 hz)] at hy';rw[<- Option.some.inj hy'];exact hv.2
   ·rw[List.getElem?_set_ne e,hx] at hy';rw[<- Option.some.inj hy'];exact hx2
  ·rw[hx] at hy';rw[<- Option.some.inj hy'];exact hx2
 simp only[tj,Bool.and_eq_true] at h ⊢;obtain⟨⟨⟨⟨⟨⟨⟨a1,a2⟩,a3⟩,a4⟩,a5⟩,a6⟩,a7⟩,a8⟩:=h;have e1:Bk y=Bk x:=by show Bk (P5 y 0)=Bk (P5 x 0);rw[hxy]
 have e3:zY y=zY x:=by show zY (P5 y 0)=zY (P5 x 0);rw[hxy]
 have e4:zX n.reg y=zX n.reg x:=by show zX n.reg (P5 y 0)=zX n.reg (P5 x 0);rw[hxy]
 have e5:Bj y=Bj x:=by show Bj (P5 y 0)=Bj (P5 x 0);rw[hxy]
 have ew:y.ways=x.ways:=by show (P5 y 0).ways=(P5 x 0).ways;rw[hxy]
 refine⟨⟨⟨⟨⟨⟨⟨by rw[e1];exact a1,?_⟩,by rw[e3];exact a3⟩,by rw[e4];exact a4⟩,by rw[e5];exact a5⟩,?_⟩,?_⟩,?_⟩
 ·simp only[EC,Bool.and_eq_true,decide_eq_true_eq] at a2 ⊢;rw[ew];exact⟨h2,a2.2⟩
 ·show wh (E2 n.notes i v) j y=true;rw[oq,R8,<- hxy,<- oq];exact a6
 ·show qN (E2 n.notes i v) j y=true;rw[oo,R8,<- hxy,<- oo];exact a7
 ·show tl (E2 n.notes i v) j y=true;rw[om,R8,<- hxy,<- om];exact a8
theorem mI {s s' w w':List Int} {m:Int}:∀ {l l':List Note},I7 l=I7 l'->(∀ (j:Nat) (x x':Note),l[j]?=some x->l'[j]?=some x'->nI s w m x=nI s' w' m x')->L6 s w m l=L6 s' w' m l'
 | [],[],_,_=>rfl
 | [],y :: l',h,_=>by simp[I7] at h
 | x :: l,[],h,_=>by simp[I7] at h
 | x :: l,y :: l',h,hb=>by
   simp only[I7,List.map_cons,List.cons.injEq] at h;have hr:I7 l=I7 l':=h.2;have ih:=mI hr λj a b ha hb'=>hb (j+1) a b (by simpa using ha) (by simpa using hb');have hn:x.number=y.number:=by show (P5 x 0).number=(P5 y 0).number;rw[h.1]
   have hO:∀ (a:Int) (l l':List Note) (F:List Bool),I7 l=I7 l'->gD a l F=gD a l' F:=by
    intro a l;induction l with
    | nil=>intro l' F h;cases l' with
      | nil=>rfl
      | cons=>simp[I7] at h
    | cons z l ih=>intro l' F h;cases l' with
      | nil=>simp[I7] at h
      | cons z' l' =>
        simp only[I7,List.map_cons,List.cons.injEq] at h;have hc:z.cancels=z'.cancels:=by show (P5 z 0).cancels=(P5 z' 0).cancels;rw[h.1]
        cases F with
        | nil=>rfl
        | cons f F=>simp only[gD,hc,ih l' F h.2]
   simp only[L6,hb 0 x y rfl rfl,ih,hn,hO _ _ _ _ hr]
theorem pm (l:List Note) (b:List Bool) (d:Int):∀ k,qC (I7 l) b d k=qC l b d k
 | 0=>rfl
 | k+1=>by
   unfold qC;rw[pm l b d k,aL,Option.map_map];rfl
theorem fU (l:List Note) (b:List Bool) (d:Int):de (I7 l) b d=de l b d:=by
 unfold de;rw[pm,aL];split
 ·rfl
 ·cases l[(qC l b d b.length).toNat]?<;>rfl
theorem rL {n n':Notes} {s s':List Int} {m:Int} (hs:I7 n'.notes=I7 n.notes) (hf:L6 s' [] m n'.notes=L6 s [] m n.notes) (d:Int):pY n' s' d m=pY n s d m:=by
 unfold pY;rw[hf,<- fU,hs,fU]
theorem dU {l:List Note} {i j:Nat} {v:Int} {y:Note} (h:(E2 l i v)[j]?=some y):∃ x,l[j]?=some x/\y=if i=j then P5 x v else x:=by
 unfold E2 at h;split at h
 ·rename_i z hz;by_cases e:i=j
  ·subst e;rw[List.getElem?_set_self (e7 hz)] at h;exact⟨z,hz,by rw[if_pos rfl];exact(Option.some.inj h).symm⟩
  ·rw[List.getElem?_set_ne e] at h;exact⟨y,h,by rw[if_neg e]⟩
 ·rename_i hz;refine⟨y,h,?_⟩;rw[if_neg];intro e;subst e;rw[h] at hz;cases hz
theorem xf {l:List Note} {i j:Nat} {v:Int} {x:Note} (h:l[j]?=some x):(E2 l i v)[j]?=some (if i=j then P5 x v else x):=by
 cases hy:(E2 l i v)[j]? with
 | none =>
   have h1:=e7 h;rw[List.getElem?_eq_none_iff,jr] at hy;omega
 | some y =>
   obtain⟨z,h1,h2⟩:=dU hy;rw[h] at h1;cases h1;rw[h2]
theorem Ft {n:Notes} (hok:ak n) {i:Nat} {x:Note} (hx:n.notes[i]?=some x) {t t':List Int} (ht:∀ y,y∈t'↔y∈t\/y=x.number) (m:Int):L6 t [] m (E2 n.notes i 2)=L6 t' [] m n.notes:=by
 refine mI (R8 _ _ _) λj y z hy hz=>?_;obtain⟨z',h1,h2⟩:=dU hy;rw[hz] at h1;cases h1;by_cases e:i=j
 ·subst e;rw[hx] at hz;cases hz;rw[if_pos rfl] at h2;subst h2;simp only[nI,P5,decide_true,Bool.true_or,(ht x.number).2 (.inr rfl),decide_true,Bool.or_true];rfl
 ·rw[if_neg e] at h2;subst h2;have hne:y.number≠x.number:=λh=>e (by
   have h3:=W2 hok hx;have h4:=W2 hok hz;rw[h,h3] at h4;exact h4)
  have hm:decide (y.number∈t')=decide (y.number∈t):=by
   rw[decide_eq_decide,ht];simp[hne]
  simp only[nI,hm]
theorem HQ {n:Notes} {i:Nat} {x:Note} (hx:n.notes[i]?=some x) (ho:x.signed=1) {t:List Int} (ht:x.number∉t) (m:Int):L6 t [] m (E2 n.notes i 0)=L6 t [] m n.notes:=by
 refine mI (R8 _ _ _) λj y z hy hz=>?_;obtain⟨z',h1,h2⟩:=dU hy;rw[hz] at h1;cases h1;by_cases e:i=j
 ·subst e;rw[hx] at hz;cases hz;rw[if_pos rfl] at h2;subst h2;simp[nI,P5,ho,ht]
 ·rw[if_neg e] at h2;subst h2;rfl
theorem Be {n:Notes} (hok:ak n) {i:Nat} {x:Note} (hx:n.notes[i]?=some x) {v:Int} (hv:v≠1) (a:Int):a∈j7 (E2 n.notes i v)↔a∈j7 n.notes/\a≠x.number:=by
 rw[open_mem,open_mem];constructor
 ·rintro⟨k,y,h1,h2,h3⟩;obtain⟨z,h4,h5⟩:=dU h1;by_cases e:i=k
  ·rw[if_pos e] at h5;subst h5;exact absurd h3 (by simpa[P5] using hv)
  ·rw[if_neg e] at h5;subst h5;refine⟨⟨k,y,h4,h2,h3⟩,λh=>e ?_⟩;have h6:=W2 hok hx;have h7:=W2 hok h4;rw[h2,h,h6] at h7;exact h7
 ·rintro⟨⟨k,y,h1,h2,h3⟩,h4⟩;have e:i≠k:=λe=>by subst e;rw[hx] at h1;cases h1;exact h4 h2.symm
  exact⟨k,y,by rw[xf h1,if_neg e],h2,h3⟩
theorem ol {n:Notes} (hok:ak n) {i:Nat} {x:Note} (hx:n.notes[i]?=some x) {v:Int} (hv:0<=v/\v<=2) (h1:v≠1):l5 (j7 (E2 n.notes i v))=(l5 (j7 n.notes)).filter λa=>decide (a≠x.number):=by
 refine nV (O8 ?_) ((O8 (N4 hok)).filter _) λa=>?_
 ·exact N4 (n:=⟨n.reg,E2 n.notes i v⟩) (pw hok hv i)
 ·rw[isort_mem,Be hok hx h1,List.mem_filter,isort_mem];simp
theorem lX (N:List Int) (s:Nat):∀ k,k<=N.length->(Z9 N s k).Sublist (N.take k)
 | 0,_=>by simp[Z9]
 | k+1,h=>by
   have hk:k<N.length:=by omega
   rw[fd,List.take_succ_eq_append_getElem hk,show N.getD k 0=N[k] by simp[hk]];refine(lX N s k (by omega)).append ?_;split
   ·exact List.Sublist.refl _
   ·simp
theorem cR {O:List Int} (hO:O.Pairwise (· < ·)) {t:List Int}:t∈ap O↔t.Sublist O:=by
 unfold ap qV;rw[List.mem_map];constructor
 ·rintro⟨s,_,rfl⟩;have:=lX O s O.length (Nat.le_refl _);rwa [List.take_length] at this
 ·intro ht;obtain⟨s,h1,h2⟩:=wj (λi=>decide (O.getD i 0∈t)) O.length;refine⟨s,by simpa using h1,?_⟩;have hs:(Z9 O s O.length).Sublist O:=by
   have:=lX O s O.length (Nat.le_refl _);rwa [List.take_length] at this
  refine nV (hO.sublist hs) (hO.sublist ht) λx=>?_;rw[Ay (Nat.le_refl _)];constructor
  ·rintro⟨i,hi,hb,hx⟩;rw[h2 i hi,decide_eq_true_eq,List.getD_eq_getElem?_getD,hx] at hb;exact hb
  ·intro hx;obtain⟨i,hi⟩:=List.mem_iff_getElem?.1 (ht.subset hx);have hl:=e7 hi;exact⟨i,hl,by rw[h2 i hl,decide_eq_true_eq,List.getD_eq_getElem?_getD,hi];exact hx,hi⟩
theorem BC {n:Notes} (hok:ak n) {i:Nat} {x:Note} (hx:n.notes[i]?=some x) {t t':List Int} (ht:∀ y,y∈t'↔y∈t\/y=x.number) (d m:Int):pY ⟨n.reg,E2 n.notes i 2⟩ t d m=pY n t' d m:=
 rL (n:=n) (n':=⟨n.reg,E2 n.notes i 2⟩) (R8 _ _ _) (Ft hok hx ht m) d
theorem EN {n:Notes} {i:Nat} {x:Note} (hx:n.notes[i]?=some x) (ho:x.signed=1) {t:List Int} (ht:x.number∉t) (d m:Int):pY ⟨n.reg,E2 n.notes i 0⟩ t d m=pY n t d m:=
 rL (n:=n) (n':=⟨n.reg,E2 n.notes i 0⟩) (R8 _ _ _) (HQ hx ho ht m) d
variable {G:MF}
def tP (n:Notes):Bool:=U0 n&&decide (p7 n=0)
structure RF (n:Notes):Prop where
 sn:kf n
 s:wG n
 e:p7 n=0
 c:l6 n.reg=0
 l:n.notes.length<=12
 ok:ak n
 o5:(l5 (j7 n.notes)).length<=5
 ne:nums n.reg≠[]
 n60:(nums n.reg).length<1000
theorem wP {O t:List Int} (hO:O.Pairwise (· < ·)) (ht:t.Sublist O):J0 O t=true:=by
 refine gh λi v hv=>⟨ht.subset (List.mem_of_getElem? hv),λj u hj hu=>?_⟩
 subst hj;obtain⟨h1,h2⟩:=List.getElem?_eq_some_iff.1 hv;obtain⟨h3,h4⟩:=List.getElem?_eq_some_iff.1 hu;have:=List.pairwise_iff_getElem.1 (hO.sublist ht) j (j+1) h3 h1 (by omega);omega
theorem RF.asked {n:Notes} (h:RF n) {t:List Int} (ht:t.Sublist (l5 (j7 n.notes))) {m:Int} (h1:1<=m) (h2:m<=999):E5 n t m=0:=by
 unfold E5;rw[if_neg (by simp[h.e]),if_neg (by rw[wP (O8 (N4 h.ok)) ht];decide),if_pos ⟨h1,h2⟩]
theorem RF.drawn {n:Notes} (h:RF n) {t:List Int} (ht:t.Sublist (l5 (j7 n.notes))) {m d:Int} (h1:1<=m) (h2:m<=999) (hd:d∈nums n.reg):uP n t m d=0:=by
 unfold uP;rw[if_neg (by simp[h.asked ht h1 h2]),if_pos hd]
def lN (n:Notes) (b:Nat):List Int:=(ap (l5 (j7 n.notes))).getD (b % 2 ^ (l5 (j7 n.notes)).length) []
theorem RF.sub {n:Notes} (h:RF n) (b:Nat):(lN n b).Sublist (l5 (j7 n.notes)):=by
 rw[<- cR (O8 (N4 h.ok))];unfold lN;have:b % 2 ^ (l5 (j7 n.notes)).length<(ap (l5 (j7 n.notes))).length:=by rw[kj];exact Nat.mod_lt _ (Nat.two_pow_pos _)
 rw[List.getD_eq_getElem?_getD,List.getElem?_eq_getElem this];exact List.getElem_mem this
theorem RF.len {n:Notes} (h:RF n) (b:Nat):(lN n b).length<1000:=by
 have:=(h.sub b).length_le;have:=h.o5;omega
open Go Go.Ab Tryz
@[simp] abbrev Qk:List Nat:=[0,1,2,3,4,6,7,8,9,10,12,13,20,29,37,38,39,40,69]
theorem tZ (n:Notes) (a:Int) (b:Bool) (hG:p5 G) (hN:D5 G) (hS:u6 G) (hs:wG n) (h0:G9 n a≠0):zP prog G 54 [o8 n,iv a,bv b] (.tup [o8 ⟨[],[]⟩,iv (G9 n a)]):=by
 refine zf func54 ntmps54 ?_;try simp only[o8,iv,bv]
 have c1:=iB n hG hN hS hs;simp only[iv,bD] at c1;by_cases hE:p7 n=0
 ·rw[if_pos hE] at c1;have hnk:=aR hE;have ho:¬ a∈l5 (j7 n.notes):=λh=>h0 (by unfold G9;rw[if_neg (by simp[hE]),if_pos (isort_mem.1 h)]);have hs6:G9 n a=6:=by unfold G9;rw[if_neg (by simp[hE]),if_neg λh=>ho (isort_mem.2 h)]
  have c2:=X0 (G:=G) (l5 (j7 n.notes)) a (by rw[jJ];omega);rw[decide_eq_false ho] at c2;rw[hE] at c1;rw[hs6];simp only[v8,iv,bv,G7] at c1 c2;have hs:=ho;repeat' first|(with_reducible first|refine zz ?_|refine zr ?_)|simp -dsimp[hs]|refine zp c1 ?_|refine zq c2 ?_|refine zM 4 76 7 Qk ?_|with_reducible refine zE Qk ?_|refine i9 ?_ ?_<;>intro h<;>try exact h.elim
  all_goals try clear hs
  all_goals simp
 ·rw[if_neg hE] at c1;have hs6:G9 n a=p7 n:=by unfold G9;rw[if_pos hE]
  rw[hs6];have hs:=hE;repeat' first|(with_reducible first|refine zz ?_|refine zr ?_|refine zE Qk ?_)|simp -dsimp[hs]|refine zp c1 ?_|refine i9 ?_ ?_<;>intro h<;>try exact h.elim
  all_goals try clear hs
  all_goals simp
theorem wZ (a:Int) (y:Note) (objs:List DObj):DCall prog G 112 [eg y,.one (.im (.ip [rI a]))] objs (λd o=>d=bv (decide (y.number=a))/\o=objs):=by
 refine DCall.frame ?_ (by simp) (by simp) objs;refine g9 func112 rfl ntmps112 (by simp) rfl ?_;repeat' first|(with_reducible first|refine zz ?_|refine zx ?_|refine zE [0,1,2,3] ?_)|simp -dsimp
def Lx (n:Notes) (a:Int) (b:Bool) (d:DV) (o:List DObj):Prop:=∃ i:Nat×Nat×Nat×Bool,True/\d=.tup [.agg [.vec 7 i.2.1 0 n.reg.length,.vec 6 i.1 0 n.notes.length],iv 0]/\o=[.row ((u5 n).map .im),.row [.im (rI a)],.vec 0 [] 0 true,.vec 0 [] 0 true,.row [.vec 7 i.2.1 0 n.reg.length,.vec 6 i.1 0 n.notes.length],.vec 10 [] 0 true,.vec 10 (l7 ((X6 n a b).map j9)) i.1 false,.vec i.2.2.1 (l7 (n.reg.map e8)) i.2.1 i.2.2.2,.vec 0 [] 0 true,.vec 0 [] 0 true,.vec 0 [] 0 true,.row [.vec 7 i.2.1 0 n.reg.length,.vec 6 i.1 0 n.notes.length]]
theorem tY (n:Notes) (a:Int) (b:Bool) (hG:p5 G) (hN:D5 G) (hS:u6 G) (hsn:kf n) (hs:wG n) (h0:G9 n a=0):DCall prog G 54 [o8 n,iv a,bv b] [] (Lx n a b):=by
 refine g9 func54 rfl ntmps54 (by simp) rfl ?_;have c1:=iB n hG hN hS hs;have hE:p7 n=0:=by
  unfold G9 at h0;split at h0
  ·contradiction
  ·simpa using ‹¬ p7 n≠0›
 have hnk:=aR hE;have ho:a∈j7 n.notes:=by
  unfold G9 at h0;rw[if_neg (by simp[hE])] at h0;split at h0
  ·assumption
  ·cases h0
 have c2:=X0 (G:=G) (l5 (j7 n.notes)) a (by rw[jJ];omega);rw[decide_eq_true (isort_mem.2 ho)] at c2;have c3:=yO (G:=G) n.notes (by omega);simp only[iv,v8,bv,bD,if_pos hE,G7] at c1 c2 c3;rw[hE] at c1;simp only[iv];obtain⟨k0,x0,hx0,hn0,hg0⟩:=open_mem.1 ho;have hk0:=e7 hx0;have hx0e:n.notes[k0]=x0:=(List.getElem?_eq_some_iff.1 hx0).2;have hne:n.notes≠[]:=λe=>by rw[e] at hk0;simp at hk0
 have c5:=λobjs=>DCall.fnArg2 (cs:=[.ip [rI a]]) (eq (G:=G) n.notes (λy=>decide (y.number=a)) 112 [.im (.ip [rI a])] objs (by simp) (λx _=>wZ a x objs) (by omega));rw[show H8 (λy=>decide (y.number=a)) n.notes=(k0:Int) by rw[<- hn0];exact rZ hnk.2.2.1 hx0] at c5;have hL:X6 n a b=n.notes.set k0 (P5 x0 (if b=true then 2 else 0)):=by
  unfold X6 E2;rw[show lc n a=k0 by rw[<- hn0];exact W2 hnk.2.2.1 hx0,hx0]
 have hN60:n.reg.length<=80:=by have:=hs.1.1;omega
 have hit:∀ x∈n.reg,x.items.length<1000000/\x.dims.length<1000000:=λx hx=>by have:=hs.1.2 x hx;omega
 clear hS hG hN;have hs:=trivial;repeat' first|with_reducible refine zz ?_|simp -dsimp[hs]|refine zp c1 ?_|refine zq c2 ?_|refine CallE.embed_ex [] (c3) ?_ ?_ ?_ ?_ ?_ ?_;(focus simp[v6];done);(focus simp;done);(focus simp;done);(focus simp;done);(focus refine o9 ?_;simp[v6,s8];done);intro mm hmm;try simp -dsimp[o6,v6,hs]|refine zM 4 76 7 Qk ?_|with_reducible refine O4 (id:=6) (nt:=76) Qk rfl ?_;simp -dsimp[hs]|with_reducible refine zE Qk ?_|refine i9 ?_ ?_<;>intro h<;>try exact h.elim
 all_goals try clear hs
 obtain⟨g6,nl6⟩:=mm;obtain rfl:nl6=false:=by cases nl6 with
  | false=>rfl
  | true=>exact absurd (hmm rfl) hne
 refine i6 (ι:={ p:Nat×Nat×Nat×Bool // p.1<=n.reg.length/\((p.2.2.1=5/\p.2.2.2=false)\/(p.2.2.1=0/\p.2.2.2=true/\p.1=0)) }) (λp=>⟨76,[(2,bv b),(4,.one (.ptr 1 0)),(6,.one (.ptr 4 0)),(7,iv 0),(10,.one (.ptr 11 0)),(37,.one (.im (.sl (n.reg.map e8)))),(38,iv (n.reg.length:Int)),(39,iv (p.1.1:Int))],[.row ((u5 n).map .im),.row [.im (rI a)],.vec 0 [] 0 true,.vec 0 [] 0 true,.row [.vec 2 0 0 0,.vec 3 0 0 0],.vec 10 [] 0 true,.vec 10 (l7 (n.notes.map j9)) g6 false,.vec p.1.2.2.1 (l7 ((n.reg.take p.1.1).map e8)) p.1.2.1 p.1.2.2.2,.vec 0 [] 0 true,.vec 0 [] 0 true,.vec 0 [] 0 true,.row [.vec 7 p.1.2.1 0 p.1.1,.vec 6 g6 0 n.notes.length]]⟩) (λp=>n.reg.length-p.1.1) ⟨(0,0,0,true),by simp⟩ (zv [2,4,6,7,10,37,38,39]) ?_;rintro⟨⟨k,g,sz,nl⟩,hk,hz⟩;simp only at hk hz;simp only[iv,bv];by_cases hlt:k<n.reg.length
 ·have hw:=zk k;have hst:n.reg.take (k+1)=n.reg.take k++[n.reg[k]]:=List.take_succ_eq_append_getElem hlt;have hkl:(n.reg.take k).length=k:=by simp;omega
  have hxs:n.reg[k]?=some n.reg[k]:=List.getElem?_eq_getElem hlt;have hix:=hit n.reg[k] (List.getElem_mem hlt);generalize hx:n.reg[k]=x at *;have c6:=pf (G:=G) x.items hix.1;have c7:=pg (G:=G) x.dims hix.2;have hm:(n.reg.take (k+1)).map e8=(n.reg.take k).map e8++[e8 x]:=by rw[hst];simp
  have hml:((n.reg.take k).map e8).length=k:=by rw[List.length_map];exact hkl
  generalize (n.reg.take k).map e8=L at *;rcases hz with⟨rfl,rfl⟩|⟨rfl,rfl,rfl⟩
  ·subst hml;have hs:=za hx (za hlt (za hxs hw));repeat' first|(with_reducible first|refine zz ?_|refine And.intro (by omega) ?_)|simp -dsimp[hs]|refine zq c6 ?_|refine zq c7 ?_|refine zM 10 76 7 Qk ?_|with_reducible refine zE Qk ?_|refine i9 ?_ ?_<;>intro h<;>try exact h.elim
   all_goals try clear hs
   all_goals exact zn ⟨(L.length+1,g+1,5,false),by omega,.inl ⟨rfl,rfl⟩⟩ (zw [2,4,6,7,10,37,38,39] 12 (by simp[hm,show List.take (L.length+1) (n.reg.map e8)=L++[e8 x] by rw[<- List.map_take];exact hm,show List.take L.length (l7 L)=l7 L from List.take_of_length_le (by simp)]))
  ·obtain rfl:=List.eq_nil_of_length_eq_zero hml;have hw1:IntKind.i64.wrap 1=1:=p9 (by omega) (by omega);have hs:=za hx (za hlt (za hxs (za hw hw1)));repeat' first|with_reducible refine zz ?_|simp -dsimp[hs]|refine zq c6 ?_|refine zq c7 ?_|refine zM 10 76 7 Qk ?_|with_reducible refine zE Qk ?_|refine i9 ?_ ?_<;>intro h<;>try exact h.elim
   all_goals try clear hs
   all_goals exact zn ⟨(1,g+1,5,false),by omega,.inl ⟨rfl,rfl⟩⟩ (zw [2,4,6,7,10,37,38,39] 12 (by simp[hm,show List.take 1 (n.reg.map e8)=[e8 x] by rw[<- List.map_take];exact hm,hw1]))
 ·obtain rfl:k=n.reg.length:=by omega
  rw[List.take_length];cases b
  ·have hs:=za hlt (za hk0 (za hx0 hx0e));repeat' first|(with_reducible first|refine zz ?_|refine zr ?_|refine zE Qk ?_)|simp -dsimp[hs]|refine zt c5 ?_ ?_ ?_;(focus simp;done);focus (simp;done)|refine i9 ?_ ?_<;>intro h<;>try exact h.elim
   all_goals try clear hs
   all_goals exact⟨(g6,g,sz,nl),trivial,rfl,by
    have hV:l7 ((X6 n a false).map j9)=(l7 (n.notes.map j9)).set k0 ((j9 (P5 x0 0)).map .im):=by rw[hL,List.map_set,BS];rfl
    rw[hV];rfl⟩
  ·have hs:=za hlt (za hk0 (za hx0 hx0e));repeat' first|(with_reducible first|refine zz ?_|refine zr ?_|refine zE Qk ?_)|simp -dsimp[hs]|refine zt c5 ?_ ?_ ?_;(focus simp;done);focus (simp;done)|refine i9 ?_ ?_<;>intro h<;>try exact h.elim
   all_goals try clear hs
   all_goals exact⟨(g6,g,sz,nl),trivial,rfl,by
    have hV:l7 ((X6 n a true).map j9)=(l7 (n.notes.map j9)).set k0 ((j9 (P5 x0 2)).map .im):=by rw[hL,List.map_set,BS];rfl
    rw[hV];rfl⟩
theorem xH (n:Notes) (a:Int) (b:Bool) (hG:p5 G) (hN:D5 G) (hS:u6 G) (hsn:kf n) (hs:wG n) (objs:List DObj):DCall prog G 54 [o8 n,iv a,bv b] objs (λrr objs'=>rr=.tup [o8 (aq n a b),iv (G9 n a)]/\objs'=objs):=by
 by_cases h0:G9 n a=0
 ·have h:=tY n a b hG hN hS hsn hs h0;have hN2:aq n a b=⟨n.reg,X6 n a b⟩:=by unfold aq;rw[if_pos h0]
  have hll:(X6 n a b).length=n.notes.length:=jr _ _ _;rw[h0,hN2];refine DCall.frame (DCall.mono h ?_) (by simp) (by simp) objs;rintro d o ⟨⟨g6,g7,sz,nl⟩,_,rfl,rfl⟩;rw[<- hll];generalize X6 n a b=N2 at *;simp
 ·have hN2:aq n a b=⟨[],[]⟩:=by unfold aq;rw[if_neg h0]
  rw[hN2];exact tZ n a b hG hN hS hs h0 objs
end Go.Proofs
namespace Go.Proofs
open Go Go.Ab
variable {G:MF}
def L5 (n:Notes) (i:Nat) (v:Int):Notes:=⟨n.reg,E2 n.notes i v⟩
theorem xe {l:List Note} {i:Nat} {v:Int} {y:Note} (h:y∈E2 l i v):∃ x∈l,y=x\/y=P5 x v:=by
 obtain⟨j,hj⟩:=List.mem_iff_getElem?.1 h;obtain⟨x,h1,h2⟩:=dU hj;refine⟨x,List.mem_of_getElem? h1,?_⟩;split at h2
 ·exact .inr h2
 ·exact .inl h2
theorem NKind.set {n:Notes} (hk:NKind n) {i:Nat} {v:Int} (hv:0<=v/\v<=2):NKind (L5 n i v):=by
 refine⟨hk.1,λy hy=>?_⟩;obtain⟨x,hx,h⟩:=xe hy;have:=hk.2 x hx;rcases h with rfl|rfl
 ·exact this
 ·exact⟨this.1,this.2.1,by simp[P5];omega,by simp[P5];omega⟩
theorem RF.set {n:Notes} (R:RF n) (hk:NKind n) {i:Nat} {x:Note} (hx:n.notes[i]?=some x) {v:Int} (hv:0<=v/\v<=2) (h1:v≠1):tP (L5 n i v)=true:=by
 have hl:(E2 n.notes i v).length=n.notes.length:=jr _ _ _;have h0:U0 (L5 n i v)=true:=by
  unfold U0;rw[Bool.and_eq_true];exact⟨decide_eq_true R.sn.1,decide_eq_true (by show (E2 n.notes i v).length<=16;rw[hl];exact R.sn.2)⟩
 have h2:p7 (L5 n i v)=0:=by
  unfold p7;rw[if_neg (by simp[L5,R.c]),if_pos];refine notesB_iff.2 ⟨by show (E2 n.notes i v).length<=12;rw[hl];exact R.l,pw R.ok hv i,?_⟩;have:=ol R.ok hx hv h1;rw[<- jJ,show (L5 n i v).notes=E2 n.notes i v from rfl,this];exact Nat.le_trans (List.length_filter_le _ _) R.o5
 simp[tP,h0,h2]
theorem RF.settle {n:Notes} (R:RF n) {i:Nat} {x:Note} (hx:n.notes[i]?=some x) (ho:x.signed=1) (b:Bool):G9 n x.number=0/\aq n x.number b=L5 n i (if b=true then 2 else 0):=by
 have hE:G9 n x.number=0:=by unfold G9;rw[if_neg (by simp[R.e]),if_pos (open_mem.2 ⟨i,x,hx,rfl,ho⟩)]
 refine⟨hE,?_⟩;unfold aq X6 L5;rw[if_pos hE,W2 R.ok hx]
open Go Go.Ab Tryz
attribute [simp] s7 cN O1 fI u9 A4 nilV J1 ZK
def bx (c:Case) (n:Notes):Case:={ c with p:={ c.p with n:=n } }
theorem IX {c:Case} (hq:no c) (hk:KC c) (he:s6 c=0):RF c.p.n:=by
 obtain⟨hp0,hcb⟩:=B8 he;obtain⟨hn0,hpb,hr0⟩:=D9 hp0;obtain⟨a1,a2,a3,a4⟩:=aR hn0;refine⟨hq.1.1,hk.p.n,hn0,a1,a2,a3,by rw[jJ];exact a4,Ex a1,?_⟩;have:=w5 c.p.n.reg c.p.n.reg.length;rw[show E3 c.p.n.reg c.p.n.reg.length=nums c.p.n.reg from rfl] at this;have:=hk.p.n.1.1;omega
variable {c:Case} {i:Nat} {x:Note} {v:Int}
theorem nX (R:RF c.p.n) (hp:W0 c.p) (hx:c.p.n.notes[i]?=some x) (hv:0<=v/\v<=2) (h1:v≠1):p7 (L5 c.p.n i v)=0/\U0 (L5 c.p.n i v)=true:=by
 have h:=R.set hp.1 hx hv h1;unfold tP at h;simp only[Bool.and_eq_true,decide_eq_true_eq] at h;obtain⟨h1,h2⟩:=h;exact⟨by simp_all,by simp_all⟩
theorem ri (R:RF c.p.n) (hp:W0 c.p) (he:s6 c=0) (hx:c.p.n.notes[i]?=some x) (hv:0<=v/\v<=2) (h1:v≠1):s6 (bx c (L5 c.p.n i v))=0:=by
 obtain⟨hp0,hcb⟩:=B8 he;obtain⟨hn0,hpb,hr0⟩:=D9 hp0;have hn':=(nX R hp hx hv h1).1;have hpb':D7 { c.p with n:=L5 c.p.n i v }=true:=by
  rw[rq] at hpb ⊢;exact⟨hpb.hl,hpb.pl,hpb.h,λj y hy=>⟨(hpb.q j y hy).1,λe he=>by
   have:=(hpb.q j y hy).2 e he;rcases e with _|_|_|_|_<;>exact this⟩⟩
 have hp':u4 (bx c (L5 c.p.n i v)).p=0:=by
  unfold u4;rw[if_neg (by show ¬ p7 (L5 c.p.n i v)≠0;simp[hn']),if_pos (show D7 (bx c (L5 c.p.n i v)).p=true from hpb')]
 unfold s6;rw[if_neg (by simp[hp']),if_pos (show aj (bx c (L5 c.p.n i v))=true from hcb)]
theorem DZ (R:RF c.p.n) (hp:W0 c.p) (h0:G4 c=0) (hx:c.p.n.notes[i]?=some x) (hv:0<=v/\v<=2) (h1:v≠1):G4 (bx c (L5 c.p.n i v))=0:=by
 obtain⟨he,hf⟩:=I6 h0;have he':=ri R hp he hx hv h1;unfold G4;rw[if_neg (by simp[he']),if_neg];have:Z2 (bx c (L5 c.p.n i v))=Z2 c:=by
  unfold Z2 bw;rw[if_pos he',if_pos he',if_pos he,if_pos he];rfl
 rw[this];simp[hf]
theorem Au (hp:W0 c.p) (hv:0<=v/\v<=2):W0 (bx c (L5 c.p.n i v)).p:=⟨hp.1.set hv,hp.2⟩
theorem xd (R:RF c.p.n) (hp:W0 c.p) (hs:Q5 c=true) (hx:c.p.n.notes[i]?=some x) (hv:0<=v/\v<=2) (h1:v≠1):Q5 (bx c (L5 c.p.n i v))=true:=by
 have hn:=(nX R hp hx hv h1).2;unfold Q5 eZ at hs ⊢;simp only[Bool.and_eq_true] at hs ⊢;exact⟨⟨hn,hs.1.2⟩,hs.2⟩
theorem xc (R:RF c.p.n) (hx:c.p.n.notes[i]?=some x) (ho:x.signed=1) (hv:v=2\/v=0) {t:List Int} (ht:t∈ap (l5 (j7 (L5 c.p.n i v).notes))):∃ t'∈ap (l5 (j7 c.p.n.notes)),∀ d m,pY (L5 c.p.n i v) t d m=pY c.p.n t' d m:=by
 have hOs:=O8 (N4 R.ok);have hxO:x.number∈l5 (j7 c.p.n.notes):=isort_mem.2 (open_mem.2 ⟨i,x,hx,rfl,ho⟩);rw[show (L5 c.p.n i v).notes=E2 c.p.n.notes i v from rfl,ol R.ok hx (by omega) (by omega),cR (hOs.filter _)] at ht;rcases hv with rfl|rfl
 ·refine⟨(l5 (j7 c.p.n.notes)).filter λa=>decide (a∈t\/a=x.number),(cR hOs).2 (List.filter_sublist),λd m=>?_⟩;refine BC R.ok hx (λy=>?_) d m;rw[List.mem_filter,decide_eq_true_eq];constructor
  ·exact λh=>h.2
  ·rintro (h|rfl)
   ·exact⟨(List.mem_filter.1 (ht.subset h)).1,.inl h⟩
   ·exact⟨hxO,.inr rfl⟩
 ·refine⟨t,(cR hOs).2 (ht.trans List.filter_sublist),λd m=>?_⟩;refine EN hx ho (λh=>?_) d m;have:=(List.mem_filter.1 (ht.subset h)).2;simp at this
theorem As (he:s6 c=0) (he':s6 (bx c (L5 c.p.n i v))=0) {k:Nat} (hk:k<c.pieces.length):N5 (bx c (L5 c.p.n i v)) k=N5 c k:=by
 have hlen:=(K2 (B8 he).2).e;have h2:k<c.loop.links.length:=by omega
 rw[iH (c:=c) hk h2,iH (c:=bx c (L5 c.p.n i v)) hk h2];have a1:=sS he hk h2;have a2:=sS he' (show k<(bx c (L5 c.p.n i v)).pieces.length from hk) h2;unfold P1;rw[if_pos a1];exact if_pos a2
theorem DY (R:RF c.p.n) (hp:W0 c.p) (he:s6 c=0) (hx:c.p.n.notes[i]?=some x) (ho:x.signed=1) (hv:v=2\/v=0):tc (n8 (bx c (L5 c.p.n i v))) (n8 c):=by
 have he':=ri R hp he hx (v:=v) (by omega) (by omega);intro d' hd';obtain⟨t,ht,rfl⟩:=List.mem_map.1 hd';obtain⟨t',ht',hl⟩:=xc R hx ho hv ht;have hown:∀ d,cZ (bx c (L5 c.p.n i v)) t d=cZ c t' d:=λd=>hl d c.machine;have hlets:F7 (L5 c.p.n i v) t c.machine=F7 c.p.n t' c.machine:=by
  unfold F7;exact List.map_congr_left λd _=>hl d c.machine
 have hch:du (bx c (L5 c.p.n i v)) t=du c t':=by
  unfold du;show (⟨c.p.n.reg,F7 (L5 c.p.n i v) t c.machine,c.of,[c.loop]⟩:Chains)=_;rw[hlets]
 refine⟨C4 c t',List.mem_map_of_mem ht',?_,by simp[C4,bx],λj hj f hf=>?_⟩
 ·show tU (bx c (L5 c.p.n i v)) t=tU c t';unfold tU;rw[hch]
 ·have hj':j<c.pieces.length:=by simpa[C4] using hj
  rw[uT (show j<(bx c (L5 c.p.n i v)).pieces.length from hj')] at hf;rw[uT hj'];have hlen:=(K2 (B8 he).2).e;have hx0:c.pieces[j]?=some c.pieces[j]:=List.getElem?_eq_getElem hj';have hy0:c.loop.links[j]?=some c.loop.links[j]:=List.getElem?_eq_getElem (by omega);rw[qj (c:=bx c (L5 c.p.n i v)) hx0 hy0,As he he' hj'] at hf;rw[qj hx0 hy0];obtain⟨l,hl1,h⟩:=hf;refine⟨l,hl1,?_⟩;rw[hown] at h;exact h
@[simp] abbrev QK:List Nat:=[0,1,2,3,6,7,8,10,11,12,13,21,26,27,28,29,34,43]
@[simp] abbrev WZ:List Nat:=[1,2,3,7,8,26,27,28]
set_option maxRecDepth 10000 in
theorem mY (c:Case) (w:Nat) (b:Bool) (hG:p5 G) (hN:D5 G) (hS:u6 G) (hU:V3 G) (hR:w8 G) (hC:K7 G) (hK:bX G) (hF:jO G) (hp:W0 c.p) (hw8:w<=255):zP prog G 12 [n5 c,vU (w:Int),bv b] (bv true):=by
 refine zf func12 ntmps12 ?_;try simp only[vU,bv]
 have a1:=FP (G:=G) hG hN hS hU hR hC hK hF;have c1:=wd (G:=G) c hp;cases hq:aO c
 ·rw[hq] at c1;simp only[n5,j4,rI,List.map_cons,List.map_nil] at c1 ⊢;have hs:=trivial;repeat' first|(with_reducible first|refine zz ?_|refine zr ?_|refine zE QK ?_)|simp -dsimp[hs]|refine zp a1 ?_|refine zp c1 ?_|refine i9 ?_ ?_<;>intro h<;>try exact h.elim
  all_goals try clear hs
 ·obtain⟨hsk,hk,h0⟩:=mc hp hq;have hq':=hq;rw[hq] at c1;obtain⟨he,_⟩:=I6 h0;have R:=IX hsk hk he;have hnl:c.p.n.notes.length<=12:=R.l;have c2:=Af (G:=G) c hsk;have c3:=λa=>xH (G:=G) c.p.n a b hG hN hS R.sn hk.p.n;have hset:∀ a∈j7 c.p.n.notes,∃ z:Case,G9 c.p.n a=0/\z=bx c (aq c.p.n a b)/\aO z=true/\W0 z.p/\KC z/\LessOk c z:=λa ha=>by
   obtain⟨i,x,hx,rfl,ho⟩:=open_mem.1 ha;obtain⟨s1,s2⟩:=R.settle hx ho b;have hv:(if b=true then (2:Int) else 0)=2\/(if b=true then (2:Int) else 0)=0:=by cases b<;>simp
   refine⟨_,s1,rfl,?_⟩;rw[s2];generalize (if b=true then (2:Int) else 0)=v at *;have hz:=DZ R hp h0 hx (v:=v) (by omega) (by omega);have hp':W0 (bx c (L5 c.p.n i v)).p:=Au hp (by omega);have hr:=AL (xd R hp (rl hq') hx (v:=v) (by omega) (by omega)) hz;exact⟨hr,hp',(mc hp' hr).2.1,Hu h0 hz rfl (DY R hp he hx ho hv)⟩
  have hol:=S7 c.p.n.notes;simp only[n5,j4,o8,u5,rI,List.map_cons,List.map_nil] at c1 c2 c3 ⊢;have hs:=trivial;repeat' first|(with_reducible first|refine zz ?_|refine zE QK ?_)|simp -dsimp[hs]|refine zp a1 ?_|refine zp c1 ?_|refine i9 ?_ ?_<;>intro h<;>try exact h.elim
  all_goals try clear hs
  refine i6 (ι:={ q:Nat×Nat×Bool // q.1<=c.p.n.notes.length }) (λq=>⟨80,[(1,vU (w:Int)),(2,bv b),(3,.one (.ptr 0 0)),(7,bv true),(8,.one (.vec 1 q.1.2.1 0 (j7 (c.p.n.notes.take q.1.1)).length)),(26,.one (.im (.sl (c.p.n.notes.map j9)))),(27,iv (c.p.n.notes.length:Int)),(28,iv (q.1.1:Int))],[.row ((j4 c).map .im),.vec 1 (l7 ((j7 (c.p.n.notes.take q.1.1)).map Ab.encI)) q.1.2.1 q.1.2.2]⟩) (λq=>c.p.n.notes.length-q.1.1) ⟨(0,0,true),by simp⟩ (zv WZ (by simp[j7,l7])) ?_;clear a1;rintro⟨⟨k,g,nl⟩,hk1⟩;simp only at hk1;simp only[iv];by_cases hlt:k<c.p.n.notes.length
  ·have hw:=zk k;have hx0:c.p.n.notes[k]?=some c.p.n.notes[k]:=by simp[hlt]
   have e1:=aQ c.p.n.notes k hlt;have hl1:=S7 (c.p.n.notes.take k);rw[List.length_take] at hl1;clear hset c2 c3;generalize j7 (c.p.n.notes.take k)=L at *;generalize hx:c.p.n.notes[k]=x at *;have hs:True:=trivial;by_cases h1:x.signed=1
   ·rw[if_pos h1] at e1;have h1':=eq_true h1;have hs:=za hx (za hx0 (za hlt (za hw h1')));repeat' first|(with_reducible first|refine zz ?_|refine And.intro (by omega) ?_|refine zE QK ?_)|simp -dsimp[hs]|refine i9 ?_ ?_<;>intro h<;>try exact h.elim
    all_goals try clear hs
    all_goals exact zn ⟨(k+1,g+1,false),by simp only;omega⟩ (zw WZ 2 (by simp[e1]))
   ·rw[if_neg h1,List.append_nil] at e1;have hs:=za hx (za hx0 (za hlt (za hw h1)));repeat' first|(with_reducible first|refine zz ?_|refine zE QK ?_)|simp -dsimp[hs]|refine i9 ?_ ?_<;>intro h<;>try exact h.elim
    all_goals try clear hs
    all_goals exact zn ⟨(k+1,g,nl),by simp only;omega⟩ (zw WZ 2 (by simp[e1]))
  ·obtain rfl:k=c.p.n.notes.length:=by omega
   simp only[List.take_length];generalize j7 c.p.n.notes=L at *;by_cases hL:L=[]
   ·subst hL;have hs:=hlt;repeat' first|(with_reducible first|refine zz ?_|refine zr ?_|refine zE QK ?_)|simp -dsimp[hs]|refine i9 ?_ ?_<;>intro h<;>try exact h.elim
    all_goals try clear hs
   ·have hL0:0<L.length:=List.length_pos_iff.2 hL;have hLi:¬ (L.length:Int)=0:=by omega
    have hlt2:w % L.length<L.length:=Nat.mod_lt _ hL0;have hm:((w:Int).tmod (L.length:Int))=((w % L.length:Nat):Int):=by
     rw[Int.tmod_eq_emod_of_nonneg (by omega)];omega
    have w0:IntKind.i64.wrap (w:Int)=(w:Int):=p9 (by omega) (by omega);generalize w % L.length=j at *;have hj0:L[j]?=some L[j]:=List.getElem?_eq_getElem hlt2;obtain⟨z,z1,z2,z3,z4,z5,z6⟩:=hset L[j] (List.getElem_mem hlt2);have w1:IntKind.i64.wrap (j:Int)=(j:Int):=p9 (by omega) (by omega);generalize hx:L[j]=a at *;have c4:=c3 a;rw[z1] at c4;have c5:=wd (G:=G) z z4;rw[z3] at c5;have c6:=EO (G:=G) c z hG hN hS hU hR hC hK hF hk z5 z6;subst z2;clear c3 hset z1 z3 z4 z5 z6;generalize aq c.p.n a b=n' at *;simp only[n5,j4,bx,rI,List.map_cons,List.map_nil] at c5 c6;have hs:=za hlt (za hL (za hL0 (za hLi (za hlt2 (za hm (za w0 (za w1 (za hj0 hx))))))));repeat' first|(with_reducible first|refine zz ?_|refine zr ?_)|simp -dsimp[hs]|refine zp c2 ?_|refine zq c4 ?_|refine zp c5 ?_|refine zp c6 ?_|refine F9 (id:=13) (nt:=80) 17 [15] [0,1,2,3,6,7,8,10,11,12,13,21,26,27,28,29,34,43,45,46,47,48,49,50,51,52,53,54,55,56,57,58,59] QK mixed rfl (by kernel_rfl) ?_|with_reducible refine zE QK ?_|refine i9 ?_ ?_<;>intro h<;>try exact h.elim
    all_goals try clear hs
end Go.Proofs
namespace Go.Ab
open Go Go.Sort
theorem RelM.grownS {G:MF} {M:MS} {w':World} {os:Array Obj} (h:RelM G M) (hw:w'.heap=M.w.heap++os) (hio:SameIo M.w w'):RelM G { M with w:=w' }/\Ext M.objs.length M { M with w:=w' }:=by
 have hold:∀ {b:Nat},b<M.w.heap.size->w'.heap[b]?=M.w.heap[b]?:=λ{b} hb=>by rw[hw];simp[Array.getElem?_append,hb]
 have hsz:M.w.heap.size<=w'.heap.size:=by rw[hw];simp
 have he:Ext M.objs.length M { M with w:=w' }:=
  ⟨Nat.le_refl _,λb hb=>⟨⟨Nat.lt_of_lt_of_le hb.1 hsz,hb.2⟩,hold hb.1⟩,dH M,hsz,λp _ c' hc=>⟨⟨c',hc⟩,rfl⟩,
   λp _ sz es g nl hv=>⟨sz,es,g,nl,hv,Nat.le_refl _,λ_=>⟨rfl,rfl,λhn=>⟨rfl,by simp only[I5];rw[hold (h.lt p _ hv (by simp[DObj.blk,hn]))]⟩⟩⟩,λp _ ks es hm=>⟨⟨ks,es,hm⟩,rfl⟩,
   λp _ r hm=>⟨⟨r,hm⟩,rfl⟩,λp _ d hm hi=>⟨⟨d,hm,hi⟩,rfl⟩,λp _ r hm=>⟨⟨r,hm⟩,rfl⟩,hio⟩
 exact⟨⟨λo d ho=>(h.objs o d ho).ext he (λ_=>rfl) (λhb=>hold (h.lt o d ho hb)),λo d ho hb=>Nat.lt_of_lt_of_le (h.lt o d ho hb) hsz,h.inj,λg l hg=>(h.glob g l hg).mono he.ok,λb hF=>Nat.lt_of_lt_of_le (h.fl b hF) hsz,h.own⟩,he⟩
theorem pN {l:List Int} {c:Array Value} {i:Nat} (hi:i<l.length) (hc:i<c.size):(putCells (Value.int .i64) 0 l.toArray c)[i]?=some (.int .i64 l[i]):=by
 simp only[putCells,Array.getElem?_mapIdx,Array.getElem?_eq_getElem hc,Option.map_some];rw[if_pos ⟨Nat.zero_le _,by simpa using hi⟩];simp[hi]
theorem DCall.sort {P:Program} {G:MF} {f:FuncId}
 (hS:∀ (blk cap:Nat) (zs:List Int) (w:World),Holds (Value.int .i64) w blk 0 zs.toArray->blk<w.heap.size->zs.length<4611686018427387904 ->
  Calls P f #[.slice (some ⟨blk,0,none⟩) zs.length cap] w λe w'=>e=.returned (.tuple #[])/\∃ n os,w'=grow (putRow (Value.int .i64) (Sort.ahead w n) blk 0 (zs.mergeSort λx y=>decide (x<=y)).toArray) os)
 (h0:∀ (a:Option Addr) (cap:Nat) (w:World),Calls P f #[.slice a 0 cap] w λe w'=>e=.returned (.tuple #[])/\w'=w)
 (l:List Int) (g sz:Nat) (nl:Bool) (hz:sz=1\/nl=true/\l=[]) (hl:l.length<1000000) :
 DCall P G f [.one (.vec 0 g 0 l.length)] [.vec sz (l7 (l.map Ab.encI)) g nl] (λd o=>d=.tup []/\o=[.vec sz (l7 ((l5 l).map Ab.encI)) g nl]):=by
 intro M vs hM ho hsz hr;obtain⟨v,rfl⟩:∃ v,vs=#[v]:=by
  obtain⟨vl⟩:=vs;match vl,hsz with
  | [v],_=>exact⟨v,rfl⟩
 have hv:=hr 0 _ v rfl rfl;have h1:M.objs[0]?=some (.vec sz (l7 (l.map Ab.encI)) g nl):=by rw[ho];rfl
 have hO:=hM.objs 0 _ h1;cases hv with
 | one _ _ hv =>
 cases hv with
 | vec _ _ _ _ _ _ _ hv =>
 obtain⟨_,hv⟩:=hv _ _ _ _ h1;obtain⟨hvt,hvf⟩:=hv rfl;have hnil:∀ (a:Option Addr) (cap:Nat),l=[]->Calls P f #[.slice a 0 cap] M.w λe w'=>∃ v d M',e=.returned v/\M'.w=w'/\RelM G M'/\RepV M' d v/\Ext 1 M M'/\d=.tup []/\M'.objs=[.vec sz (l7 ((l5 l).map Ab.encI)) g nl]:=λa cap hle=>by
  refine(h0 a cap M.w).mono λe w' ⟨he,hw⟩=>?_;subst hw;refine⟨_,.tup [],M,he,rfl,hM,.tup _ _ rfl (λj d v h=>by simp at h),(Ext.refl M).weaken (by simp[ho]),rfl,?_⟩;rw[ho,hle,show l5 []=[] from List.mergeSort_nil]
 cases nl with
 | true =>
   obtain⟨_,e,hv⟩:=hvt rfl;have e:l=[]:=List.eq_nil_of_length_eq_zero e;have:=hnil none 0 e;rw[hv];simpa using this
 | false =>
   obtain rfl:sz=1:=hz.resolve_right λh=>Bool.noConfusion h.1;obtain⟨x,cap,hv,hc,hx,hb⟩:=hvf rfl;by_cases e:l=[]
   ·have:=hnil (some ⟨M.β 0,x,none⟩) cap e;rw[hv];subst e;simpa using this
   have hlp:0<l.length:=List.length_pos_iff.2 e;have hx0:x=0:=by rcases hx with hx|hx<;>omega
   subst hx0;obtain⟨_,hO⟩:=hO;obtain⟨_,c,T,hh,hcs,hes,hrep⟩:=hO rfl;have hcl:l.length<=c.size:=by simpa[q8] using hcs
   have hcell:∀ j (hj:j<l.length),c[j]?=some (.int .i64 l[j]):=λj hj=>by
    have hjc:j<c.size:=by omega
    have:=hrep j [DC.im (.raw (.int .i64 l[j]))] 0 (.im (.raw (.int .i64 l[j]))) c[j] (by simp[l7,hj]) rfl (by simp[hjc]);have hcj:c[j]?=some c[j]:=by simp[hjc]
    generalize c[j]=y at this hcj;cases this with
    | im _ _ hi =>
      cases hi;exact hcj
   have hH:Holds (Value.int .i64) M.w (M.β 0) 0 l.toArray:=λj hj=>by
    have hj:j<l.length:=by simpa using hj
    refine⟨?_,?_⟩
    ·simp only[World.cell?,hh];simp[hcell j hj,hj]
    ·simp[World.frozen?,hh]
   have hlt:M.β 0<M.w.heap.size:=hM.lt 0 _ h1 rfl;rw[hv];refine(hS (M.β 0) cap l M.w hH hlt (by omega)).mono λe' w' ⟨he,n,os,hw⟩=>?_;have hmod:M.w.heap.modify (M.β 0) (onCells (putCells (Value.int .i64) 0 (l5 l).toArray))=M.w.heap.setIfInBounds (M.β 0) (.cells (putCells (Value.int .i64) 0 (l5 l).toArray c) T (0,0)):=by
    apply Array.ext_getElem?
    intro k;simp only[Array.getElem?_modify,Array.getElem?_setIfInBounds];by_cases hk:M.β 0=k
    ·subst hk;rw[if_pos rfl,if_pos rfl,if_pos hlt,hh];rfl
    ·simp[hk]
   have ha:(DObj.vec 1 (l7 (l.map Ab.encI)) g false).alike (.vec 1 (l7 ((l5 l).map Ab.encI)) g false):=⟨rfl,.inl ⟨rfl,rfl⟩⟩
   have hs:N1 (.cells (putCells (Value.int .i64) 0 (l5 l).toArray c) T (0,0))=N1 (.cells c T (0,0)):=by simp[N1,putCells]
   have hE:=Ext.turn (d':=.vec 1 (l7 ((l5 l).map Ab.encI)) g false) h1 rfl ha hh hs;have hR:=RelM.turn (d':=.vec 1 (l7 ((l5 l).map Ab.encI)) g false) hM h1 rfl ha hh hs (by
    refine⟨λh=>Bool.noConfusion h,λ_=>⟨by omega,putCells (Value.int .i64) 0 (l5 l).toArray c,T,by simp[MS.turn,Array.getElem?_setIfInBounds_self_of_lt hlt],by simpa[q8,O9,putCells] using hcl,λi x hx=>?_,λi x j d v hx hj hv=>?_⟩⟩
    ·simp only[l7,List.getElem?_map,Option.map_map] at hx;obtain⟨y,_,rfl⟩:=Option.map_eq_some_iff.1 hx;rfl
    ·simp only[l7,List.getElem?_map,Option.map_map] at hx;obtain⟨y,hy,rfl⟩:=Option.map_eq_some_iff.1 hx;have hil:i<(l5 l).length:=e7 hy;match j,hj with
     | 0,hj =>
       cases hj;have hic:i<c.size:=by rw[O9] at hil;omega
       rw[Nat.mul_one,Nat.add_zero,pN hil hic] at hv;have e:(l5 l)[i]'hil=y:=(List.getElem?_eq_some_iff.1 hy).2;cases hv;rw[e];exact .im _ _ (.raw _ rfl))
   have hg:=RelM.grownS (w':=w') (os:=os) hR (by rw[hw];simp only[grow,putRow,mapBlock,Sort.ahead,MS.turn];rw[show (l.mergeSort λx y=>decide (x<=y))=l5 l from rfl,hmod]) (by rw[hw];exact⟨rfl,rfl,rfl,Nat.le_add_right _ _⟩);refine⟨_,.tup [],_,he,?_,hg.1,.tup _ _ rfl (λj d v h=>by simp at h),?_,rfl,?_⟩
   ·rfl
   ·have hl1:M.objs.length=1:=by rw[ho];rfl
    have h2:=hg.2;rw[show (M.turn 0 (.cells (putCells (Value.int .i64) 0 (l5 l).toArray c) T (0,0)) (.vec 1 (l7 ((l5 l).map Ab.encI)) g false)).objs.length=1 by simp[MS.turn,ho]] at h2;rw[hl1] at hE;exact hE.trans h2
   ·simp[MS.turn,ho]
end Go.Ab
namespace Go.Proofs
open Go.Shelf
def Tryz.laysSort_ren:Go.Shelf.Ren:=⟨fun|189=>173|125=>201|257=>221|128=>249|129=>250|294=>270|295=>271|296=>272|297=>273|298=>274|299=>275|216=>196|300=>276|301=>277|328=>302|329=>286|330=>287|331=>303|332=>304|215=>239|343=>314|n=>n,fun|28=>40|3=>3|46=>287|0=>0|51=>157|53=>335|4=>4|183=>328|182=>327|131=>154|5=>5|9=>9|218=>363|222=>367|228=>390|229=>391|n=>n,fun|n=>n⟩
theorem Tryz.laysSort:Go.Proofs.Lays.n189 Tryz.prog Tryz.laysSort_ren:={
 mixed:=by kernel_rfl
 f125:=Tryz.func201.trans (congrArg some (by kernel_rfl))
 f128:=Tryz.func249.trans (congrArg some (by kernel_rfl))
 f129:=Tryz.func250.trans (congrArg some (by kernel_rfl))
 f189:=Tryz.func173.trans (congrArg some (by kernel_rfl))
 f215:=Tryz.func239.trans (congrArg some (by kernel_rfl))
 f216:=Tryz.func196.trans (congrArg some (by kernel_rfl))
 f257:=Tryz.func221.trans (congrArg some (by kernel_rfl))
 f294:=Tryz.func270.trans (congrArg some (by kernel_rfl))
 f295:=Tryz.func271.trans (congrArg some (by kernel_rfl))
 f296:=Tryz.func272.trans (congrArg some (by kernel_rfl))
 f297:=Tryz.func273.trans (congrArg some (by kernel_rfl))
 f298:=Tryz.func274.trans (congrArg some (by kernel_rfl))
 f299:=Tryz.func275.trans (congrArg some (by kernel_rfl))
 f300:=Tryz.func276.trans (congrArg some (by kernel_rfl))
 f301:=Tryz.func277.trans (congrArg some (by kernel_rfl))
 f328:=Tryz.func302.trans (congrArg some (by kernel_rfl))
 f329:=Tryz.func286.trans (congrArg some (by kernel_rfl))
 f330:=Tryz.func287.trans (congrArg some (by kernel_rfl))
 f331:=Tryz.func303.trans (congrArg some (by kernel_rfl))
 f332:=Tryz.func304.trans (congrArg some (by kernel_rfl))
 f343:=Tryz.func314.trans (congrArg some (by kernel_rfl))
 t0:=Tryz.underlying0
 a0:=Tryz.isAgg0
 z0:=Tryz.sizeOf0
 v0:=Tryz.zeroValue0
 t3:=Tryz.underlying3
 a3:=Tryz.isAgg3
 z3:=Tryz.sizeOf3
 v3:=Tryz.zeroValue3
 t4:=Tryz.underlying4
 a4:=Tryz.isAgg4
 z4:=Tryz.sizeOf4
 v4:=Tryz.zeroValue4
 t5:=Tryz.underlying5
 a5:=Tryz.isAgg5
 z5:=Tryz.sizeOf5
 v5:=Tryz.zeroValue5
 t9:=Tryz.underlying9
 a9:=Tryz.isAgg9
 z9:=Tryz.sizeOf9
 v9:=Tryz.zeroValue9
 t28:=Tryz.underlying40
 a28:=Tryz.isAgg40
 z28:=Tryz.sizeOf40
 v28:=Tryz.zeroValue40
 t46:=Tryz.underlying287
 a46:=Tryz.isAgg287
 z46:=Tryz.sizeOf287
 v46:=Tryz.zeroValue287
 t51:=Tryz.underlying157
 a51:=Tryz.isAgg157
 z51:=Tryz.sizeOf157
 v51:=Tryz.zeroValue157
 t53:=Tryz.underlying335
 a53:=Tryz.isAgg335
 z53:=Tryz.sizeOf335
 v53:=Tryz.zeroValue335
 t131:=Tryz.underlying154
 a131:=Tryz.isAgg154
 z131:=Tryz.sizeOf154
 v131:=Tryz.zeroValue154
 t182:=Tryz.underlying327
 a182:=Tryz.isAgg327
 z182:=Tryz.sizeOf327
 v182:=Tryz.zeroValue327
 t183:=Tryz.underlying328
 a183:=Tryz.isAgg328
 z183:=Tryz.sizeOf328
 v183:=Tryz.zeroValue328
 t218:=Tryz.underlying363
 a218:=Tryz.isAgg363
 z218:=Tryz.sizeOf363
 v218:=Tryz.zeroValue363
 t222:=Tryz.underlying367
 a222:=Tryz.isAgg367
 z222:=Tryz.sizeOf367
 v222:=Tryz.zeroValue367
 t228:=Tryz.underlying390
 a228:=Tryz.isAgg390
 z228:=Tryz.sizeOf390
 v228:=Tryz.zeroValue390
 t229:=Tryz.underlying391
 a229:=Tryz.isAgg391
 z229:=Tryz.sizeOf391
 v229:=Tryz.zeroValue391 }
end Go.Proofs
namespace Go.Proofs
open Go Go.Ab
theorem GI (G:MF):u6 G:=λl g sz nl hz hl =>
 DCall.sort (P:=Tryz.prog) (G:=G) (f:=173) (λblk cap zs w hH hb hs=>Any.slices_Sort_int Tryz.laysSort blk 0 cap zs w hH hb hs) (λa cap w=>Any.slices_Sort_int_none Tryz.laysSort a cap w) l g sz nl hz hl
end Go.Proofs
namespace Go.Proofs
open Go.Shelf
def Tryz.laysSus_ren:Go.Shelf.Ren:=⟨fun|6=>138|15=>201|14=>200|28=>249|29=>250|20=>241|21=>242|22=>243|23=>244|24=>245|25=>246|26=>247|27=>248|46=>285|47=>286|48=>287|49=>288|50=>289|57=>305|n=>n,fun|22=>52|24=>42|25=>140|3=>3|39=>287|0=>0|53=>157|55=>335|4=>4|46=>328|45=>327|50=>154|5=>5|9=>9|66=>363|70=>367|76=>390|77=>391|n=>n,fun|n=>n⟩
theorem Tryz.laysSus:Go.Proofs.SlLaysF0.n6 Tryz.prog Tryz.laysSus_ren:={
 mixed:=by kernel_rfl
 f6:=⟨Tryz.f138.name,by decide,Tryz.func138.trans (congrArg some (by kernel_rfl))⟩
 f14:=⟨Tryz.f200.name,by decide,Tryz.func200.trans (congrArg some (by kernel_rfl))⟩
 f15:=Tryz.func201.trans (congrArg some (by kernel_rfl))
 f20:=⟨Tryz.f241.name,by decide,Tryz.func241.trans (congrArg some (by kernel_rfl))⟩
 f21:=⟨Tryz.f242.name,by decide,Tryz.func242.trans (congrArg some (by kernel_rfl))⟩
 f22:=⟨Tryz.f243.name,by decide,Tryz.func243.trans (congrArg some (by kernel_rfl))⟩
 f23:=⟨Tryz.f244.name,by decide,Tryz.func244.trans (congrArg some (by kernel_rfl))⟩
 f24:=⟨Tryz.f245.name,by decide,Tryz.func245.trans (congrArg some (by kernel_rfl))⟩
 f25:=⟨Tryz.f246.name,by decide,Tryz.func246.trans (congrArg some (by kernel_rfl))⟩
 f26:=⟨Tryz.f247.name,by decide,Tryz.func247.trans (congrArg some (by kernel_rfl))⟩
 f27:=⟨Tryz.f248.name,by decide,Tryz.func248.trans (congrArg some (by kernel_rfl))⟩
 f28:=Tryz.func249.trans (congrArg some (by kernel_rfl))
 f29:=Tryz.func250.trans (congrArg some (by kernel_rfl))
 f46:=⟨Tryz.f285.name,by decide,Tryz.func285.trans (congrArg some (by kernel_rfl))⟩
 f47:=Tryz.func286.trans (congrArg some (by kernel_rfl))
 f48:=Tryz.func287.trans (congrArg some (by kernel_rfl))
 f49:=⟨Tryz.f288.name,by decide,Tryz.func288.trans (congrArg some (by kernel_rfl))⟩
 f50:=⟨Tryz.f289.name,by decide,Tryz.func289.trans (congrArg some (by kernel_rfl))⟩
 f57:=⟨Tryz.f305.name,by decide,Tryz.func305.trans (congrArg some (by kernel_rfl))⟩
 t0:=Tryz.underlying0
 a0:=Tryz.isAgg0
 z0:=Tryz.sizeOf0
 v0:=Tryz.zeroValue0
 t3:=Tryz.underlying3
 a3:=Tryz.isAgg3
 z3:=Tryz.sizeOf3
 v3:=Tryz.zeroValue3
 t4:=Tryz.underlying4
 a4:=Tryz.isAgg4
 z4:=Tryz.sizeOf4
 v4:=Tryz.zeroValue4
 t5:=Tryz.underlying5
 a5:=Tryz.isAgg5
 z5:=Tryz.sizeOf5
 v5:=Tryz.zeroValue5
 t9:=Tryz.underlying9
 a9:=Tryz.isAgg9
 z9:=Tryz.sizeOf9
 v9:=Tryz.zeroValue9
 t22:=Tryz.underlying52
 a22:=Tryz.isAgg52
 z22:=Tryz.sizeOf52
 v22:=Tryz.zeroValue52
 t25:=Tryz.underlying140
 a25:=Tryz.isAgg140
 z25:=Tryz.sizeOf140
 v25:=Tryz.zeroValue140
 t39:=Tryz.underlying287
 a39:=Tryz.isAgg287
 z39:=Tryz.sizeOf287
 v39:=Tryz.zeroValue287
 t45:=Tryz.underlying327
 a45:=Tryz.isAgg327
 z45:=Tryz.sizeOf327
 v45:=Tryz.zeroValue327
 t46:=Tryz.underlying328
 a46:=Tryz.isAgg328
 z46:=Tryz.sizeOf328
 v46:=Tryz.zeroValue328
 t50:=Tryz.underlying154
 a50:=Tryz.isAgg154
 z50:=Tryz.sizeOf154
 v50:=Tryz.zeroValue154
 t53:=Tryz.underlying157
 a53:=Tryz.isAgg157
 z53:=Tryz.sizeOf157
 v53:=Tryz.zeroValue157
 t55:=Tryz.underlying335
 a55:=Tryz.isAgg335
 z55:=Tryz.sizeOf335
 v55:=Tryz.zeroValue335
 t66:=Tryz.underlying363
 a66:=Tryz.isAgg363
 z66:=Tryz.sizeOf363
 v66:=Tryz.zeroValue363
 t70:=Tryz.underlying367
 a70:=Tryz.isAgg367
 z70:=Tryz.sizeOf367
 v70:=Tryz.zeroValue367
 t76:=Tryz.underlying390
 a76:=Tryz.isAgg390
 z76:=Tryz.sizeOf390
 v76:=Tryz.zeroValue390
 t77:=Tryz.underlying391
 a77:=Tryz.isAgg391
 z77:=Tryz.sizeOf391
 v77:=Tryz.zeroValue391 }
end Go.Proofs
namespace Go.Proofs
open Go Go.Ab Go.Sort
theorem KM:SWO (λx y:zi=>decide (N3 x.1 y.1<0)) where
 irrefl x:=by
  rw[decide_eq_false_iff_not,fi];unfold V0;omega
 trans x y z h1 h2:=by
  rw[decide_eq_true_iff,fi] at *;exact vo h1 h2
 ntrans x y z h1 h2:=by
  rw[decide_eq_false_iff_not,fi] at *;unfold V0 at *;omega
theorem DX (G:MF):V3 G:=λl gn sz nl hz hl =>
 DCall.sortF (P:=Tryz.prog) (G:=G) (f:=138) (g:=86) wv 2 (by decide) (λ_=>rfl) (λa b=>N3 a.1 b.1) KM (λx y=>by have h:=wg (G:=λ_=>none) x.1 y.1 x.2 y.2;exact h)
  (λα _ en hk h1 c hO blk cap d w hcmp hH hb hs=>AnyQ.slices_SortFunc Tryz.laysSus 2 Tryz.isAgg42 Tryz.sizeOf42 en hk h1 c hO 86 #[] blk 0 cap d w (by simp) hcmp hH hb hs)
  (λa cap w=>AnyF.slices_SortFunc_none Tryz.laysSus a cap _ w) (.im (.fn (.func 86) []))
  (λM v hv=>by
   cases hv with
   | im _ _ h=>cases h with
     | fn _ _ vs h1 _ =>
       have:vs=#[]:=Array.eq_empty_of_size_eq_zero (by simpa using h1.symm);rw[this]) l gn sz nl hz hl
end Go.Proofs
namespace Go.Proofs.YtjodaihiogfkbaaGreatDoor
open Go Go.Ab Go.ChangeShapes Go.WideShapes Go.ChangeAt Go.RowKit
def G6 (g:Nat):Option (List IC):=if g=5 then some [.fn (.func 357) [],.fn (.func 358) [],.fn (.func 359) [],.fn (.func 360) []] else if g=7 then some [.fn (.func 372) [],.fn (.func 373) [],.fn (.func 374) []] else if g=4 then some [.fn (.func 346) [],.fn (.func 347) [],.fn (.func 348) [],.fn (.func 349) [],.fn (.func 350) [],.fn (.func 351) [],.fn (.func 354) [],.fn (.func 356) []] else if g=6 then some [.fn (.func 364) [],.fn (.func 365) [],.fn (.func 366) [],.fn (.func 369) [],.fn (.func 370) []] else if g=1 then some [.raw .nilFunc,.fn (.func 339) [],.fn (.func 340) [],.fn (.func 343) []] else if g=0 then some [.raw (.bool false),.raw (.bool false)] else if g=2 then some [.raw (.bool true),.raw (.bool false)] else if g=3 then some [.raw (.bool false),.raw (.bool true)] else .none
theorem gSheet:Tryz.prog.globalNamed "blueline/sheet.checks" = some 5:=by kernel_rfl
theorem tSheet:(Tryz.prog.globals[5]?).map (·.type)=some 311:=by kernel_rfl
theorem gChain:Tryz.prog.globalNamed "blueline/chain.checks" = some 7:=by kernel_rfl
theorem tChain:(Tryz.prog.globals[7]?).map (·.type)=some 386:=by kernel_rfl
theorem gNote:Tryz.prog.globalNamed "blueline/note.checks" = some 4:=by kernel_rfl
theorem tNote:(Tryz.prog.globals[4]?).map (·.type)=some 257:=by kernel_rfl
theorem gRecall:Tryz.prog.globalNamed "blueline/recall.checks" = some 6:=by kernel_rfl
theorem tRecall:(Tryz.prog.globals[6]?).map (·.type)=some 380:=by kernel_rfl
theorem own:ownKnob Tryz.prog.godebug=.none:=by kernel_rfl
theorem ES:laidOutB Tryz.prog=true:=by kernel_rfl
theorem fh {W:World} {g:Nat} {fs:List FuncId} (h0:0<fs.length) (h:∀ (j:Nat) (f:FuncId),fs[j]?=some f->W.cell? ⟨g,j,.none⟩=some (.func (.func f) #[] #[])):RepI W (xF W) (.ip (fs.map λf=>.fn (.func f) [])) (.pointer (some ⟨g,0,.none⟩)):=by
 have hb:g<W.heap.size:=Y1 (a:=⟨g,0,.none⟩) (h 0 fs[0] (by simp));refine .ip _ _ (λj=>.func (.func (fs.getD j 0)) #[] #[]) rfl hb (λj c hj=>?_) (λj c hj=>?_)
 ·rw[List.getElem?_map,Option.map_eq_some_iff] at hj;obtain⟨f,hf,rfl⟩:=hj;have:=h j f hf;simpa[hf] using this
 ·rw[List.getElem?_map,Option.map_eq_some_iff] at hj;obtain⟨f,hf,rfl⟩:=hj;simpa[hf] using RepI.fn (w:=W) (ok:=xF W) (.func f) [] #[] rfl (λj c v h=>by simp at h)
theorem rf {W:World} (h:laidMetH Tryz.prog Rows.blameSettledRow.laid W):∀ (j:Nat) (f:FuncId),[357,358,359,360][j]?=some f->W.cell? ⟨5,j,.none⟩=some (.func (.func f) #[] #[]):=by
 obtain⟨g,t,cs,fuel,p,hg,ht,hv,hd⟩:=h.funcs (n:= "blueline/sheet.checks") (List.mem_cons_self ..)
 obtain rfl:=Option.some.inj (gSheet.symm.trans hg);obtain rfl:=Option.some.inj (tSheet.symm.trans ht);intro j f hj;rw[World.var?_cell hg hv j];exact U9 (names:=[[98,108,117,101,108,105,110,101,47,115,104,101,101,116,46,99,104,101,99,107,115,36,49],[98,108,117,101,108,105,110,101,47,115,104,101,101,116,46,99,104,101,99,107,115,36,50],[98,108,117,101,108,105,110,101,47,115,104,101,101,116,46,99,104,101,99,107,115,36,51],[98,108,117,101,108,105,110,101,47,115,104,101,101,116,46,99,104,101,99,107,115,36,52]]) (fs:=[357,358,359,360]) Tryz.underlying311 Tryz.underlying310 rfl rfl Tryz.underlying309 (by kernel_rfl) (by kernel_rfl) rfl (by kernel_rfl) rfl hd j f hj
theorem sK {W:World} (h:laidMetH Tryz.prog Rows.blameSettledRow.laid W):∀ (j:Nat) (f:FuncId),[372,373,374][j]?=some f->W.cell? ⟨7,j,.none⟩=some (.func (.func f) #[] #[]):=by
 obtain⟨g,t,cs,fuel,p,hg,ht,hv,hd⟩:=h.funcs (n:= "blueline/chain.checks") (List.mem_cons_of_mem _ (List.mem_cons_self ..))
 obtain rfl:=Option.some.inj (gChain.symm.trans hg);obtain rfl:=Option.some.inj (tChain.symm.trans ht);intro j f hj;rw[World.var?_cell hg hv j];exact U9 (names:=[[98,108,117,101,108,105,110,101,47,99,104,97,105,110,46,99,104,101,99,107,115,36,49],[98,108,117,101,108,105,110,101,47,99,104,97,105,110,46,99,104,101,99,107,115,36,50],[98,108,117,101,108,105,110,101,47,99,104,97,105,110,46,99,104,101,99,107,115,36,51]]) (fs:=[372,373,374]) Tryz.underlying386 Tryz.underlying385 rfl rfl Tryz.underlying384 (by kernel_rfl) (by kernel_rfl) rfl (by kernel_rfl) rfl hd j f hj
theorem tW {W:World} (h:laidMetH Tryz.prog Rows.blameSettledRow.laid W):∀ (j:Nat) (f:FuncId),[346,347,348,349,350,351,354,356][j]?=some f->W.cell? ⟨4,j,.none⟩=some (.func (.func f) #[] #[]):=by
 obtain⟨g,t,cs,fuel,p,hg,ht,hv,hd⟩:=h.funcs (n:= "blueline/note.checks") (List.mem_cons_of_mem _ (List.mem_cons_of_mem _ (List.mem_cons_self ..)))
 obtain rfl:=Option.some.inj (gNote.symm.trans hg);obtain rfl:=Option.some.inj (tNote.symm.trans ht);intro j f hj;rw[World.var?_cell hg hv j];exact U9 (names:=[[98,108,117,101,108,105,110,101,47,110,111,116,101,46,99,104,101,99,107,115,36,49],[98,108,117,101,108,105,110,101,47,110,111,116,101,46,99,104,101,99,107,115,36,50],[98,108,117,101,108,105,110,101,47,110,111,116,101,46,99,104,101,99,107,115,36,51],[98,108,117,101,108,105,110,101,47,110,111,116,101,46,99,104,101,99,107,115,36,52],[98,108,117,101,108,105,110,101,47,110,111,116,101,46,99,104,101,99,107,115,36,53],[98,108,117,101,108,105,110,101,47,110,111,116,101,46,99,104,101,99,107,115,36,54],[98,108,117,101,108,105,110,101,47,110,111,116,101,46,99,104,101,99,107,115,36,55],[98,108,117,101,108,105,110,101,47,110,111,116,101,46,99,104,101,99,107,115,36,56]]) (fs:=[346,347,348,349,350,351,354,356]) Tryz.underlying257 Tryz.underlying256 rfl rfl Tryz.underlying254 (by kernel_rfl) (by kernel_rfl) rfl (by kernel_rfl) rfl hd j f hj
theorem pM {W:World} (h:laidMetH Tryz.prog Rows.blameSettledRow.laid W):∀ (j:Nat) (f:FuncId),[364,365,366,369,370][j]?=some f->W.cell? ⟨6,j,.none⟩=some (.func (.func f) #[] #[]):=by
 obtain⟨g,t,cs,fuel,p,hg,ht,hv,hd⟩:=h.funcs (n:= "blueline/recall.checks") (List.mem_cons_of_mem _ (List.mem_cons_of_mem _ (List.mem_cons_of_mem _ (List.mem_cons_self ..))))
 obtain rfl:=Option.some.inj (gRecall.symm.trans hg);obtain rfl:=Option.some.inj (tRecall.symm.trans ht);intro j f hj;rw[World.var?_cell hg hv j];exact U9 (names:=[[98,108,117,101,108,105,110,101,47,114,101,99,97,108,108,46,99,104,101,99,107,115,36,49],[98,108,117,101,108,105,110,101,47,114,101,99,97,108,108,46,99,104,101,99,107,115,36,50],[98,108,117,101,108,105,110,101,47,114,101,99,97,108,108,46,99,104,101,99,107,115,36,51],[98,108,117,101,108,105,110,101,47,114,101,99,97,108,108,46,99,104,101,99,107,115,36,52],[98,108,117,101,108,105,110,101,47,114,101,99,97,108,108,46,99,104,101,99,107,115,36,53]]) (fs:=[364,365,366,369,370]) Tryz.underlying380 Tryz.underlying379 rfl rfl Tryz.underlying377 (by kernel_rfl) (by kernel_rfl) rfl (by kernel_rfl) rfl hd j f hj
theorem gKinds:Tryz.prog.globalNamed "blueline/blame.kinds" = some 1:=by kernel_rfl
theorem tKinds:(Tryz.prog.globals[1]?).map (·.type)=some 211:=by kernel_rfl
theorem qa {W:World} (h:laidMetH Tryz.prog Rows.blameSettledRow.laid W):∀ (j:Nat) (v:Value),[Value.nilFunc,.func (.func 339) #[] #[],.func (.func 340) #[] #[],.func (.func 343) #[] #[]][j]?=some v->W.cell? ⟨1,j,.none⟩=some v:=by
 obtain⟨g,t,cs,fuel,p,hg,ht,hv,hd⟩:=h.funcs (n:= "blueline/blame.kinds") (List.mem_cons_of_mem _ (List.mem_cons_of_mem _ (List.mem_cons_of_mem _ (List.mem_cons_of_mem _ (List.mem_cons_of_mem _ (List.mem_cons_of_mem _ (List.mem_cons_of_mem _ (List.mem_cons_self ..))))))))
 obtain rfl:=Option.some.inj (gKinds.symm.trans hg);obtain rfl:=Option.some.inj (tKinds.symm.trans ht);have hU:=rQ (b1:=98) (r1:=[108,117,101,108,105,110,101,47,98,108,97,109,101,46,107,105,110,100,115,36,49]) (f1:=339) (b2:=98) (r2:=[108,117,101,108,105,110,101,47,98,108,97,109,101,46,107,105,110,100,115,36,50]) (f2:=340) (b3:=98) (r3:=[108,117,101,108,105,110,101,47,98,108,97,109,101,46,107,105,110,100,115,36,51]) (f3:=343) Tryz.underlying211 Tryz.underlying210 rfl rfl Tryz.underlying209 (by kernel_rfl) (by kernel_rfl) (by kernel_rfl) (by kernel_rfl) (by kernel_rfl) hd;intro j v hj;rw[World.var?_cell hg hv j];exact hU j v hj
theorem gFine:Tryz.prog.globalNamed "blueline/blame.fine" = some 0:=by kernel_rfl
theorem IP:(Tryz.prog.globals[0]?).map (·.type)=some 148:=by kernel_rfl
theorem uF {W:World} (h:laidMetH Tryz.prog Rows.blameSettledRow.laid W):∀ (j:Nat) (v:Value),[Value.bool false,.bool false][j]?=some v->W.cell? ⟨0,j,.none⟩=some v:=by
 have hf:=h.filter λx=>x.1 == "blueline/blame.fine"
 rw[show (Rows.blameSettledRow.laid.filter λx=>x.1 == "blueline/blame.fine")=[("blueline/blame.fine",.agg [.lit (.bool false),.lit (.bool false)])] by rfl] at hf
 obtain⟨cs,hv,hd⟩:=jN (t:=148) (e:=4) Tryz.underlying148 Tryz.underlying4 (by kernel_rfl) (by kernel_rfl) (λg hg=>by obtain rfl:=Option.some.inj (gFine.symm.trans hg);exact IP) hf;intro j v hj;rw[World.var?_cell gFine hv j];exact hd j v hj
theorem gOld:Tryz.prog.globalNamed "blueline/blame.old" = some 2:=by kernel_rfl
theorem KL:(Tryz.prog.globals[2]?).map (·.type)=some 148:=by kernel_rfl
theorem xE {W:World} (h:laidMetH Tryz.prog Rows.blameSettledRow.laid W):∀ (j:Nat) (v:Value),[Value.bool true,.bool false][j]?=some v->W.cell? ⟨2,j,.none⟩=some v:=by
 have hf:=h.filter λx=>x.1 == "blueline/blame.old"
 rw[show (Rows.blameSettledRow.laid.filter λx=>x.1 == "blueline/blame.old")=[("blueline/blame.old",.agg [.lit (.bool true),.lit (.bool false)])] by rfl] at hf
 obtain⟨cs,hv,hd⟩:=jN (t:=148) (e:=4) Tryz.underlying148 Tryz.underlying4 (by kernel_rfl) (by kernel_rfl) (λg hg=>by obtain rfl:=Option.some.inj (gOld.symm.trans hg);exact KL) hf;intro j v hj;rw[World.var?_cell gOld hv j];exact hd j v hj
theorem gHand:Tryz.prog.globalNamed "blueline/blame.hand" = some 3:=by kernel_rfl
theorem IN:(Tryz.prog.globals[3]?).map (·.type)=some 148:=by kernel_rfl
theorem uz {W:World} (h:laidMetH Tryz.prog Rows.blameSettledRow.laid W):∀ (j:Nat) (v:Value),[Value.bool false,.bool true][j]?=some v->W.cell? ⟨3,j,.none⟩=some v:=by
 have hf:=h.filter λx=>x.1 == "blueline/blame.hand"
 rw[show (Rows.blameSettledRow.laid.filter λx=>x.1 == "blueline/blame.hand")=[("blueline/blame.hand",.agg [.lit (.bool false),.lit (.bool true)])] by rfl] at hf
 obtain⟨cs,hv,hd⟩:=jN (t:=148) (e:=4) Tryz.underlying148 Tryz.underlying4 (by kernel_rfl) (by kernel_rfl) (λg hg=>by obtain rfl:=Option.some.inj (gHand.symm.trans hg);exact IN) hf;intro j v hj;rw[World.var?_cell gHand hv j];exact hd j v hj
theorem GP {W:World} (h:laidMetH Tryz.prog Rows.blameSettledRow.laid W):∀ g l,G6 g=some l->RepI W (xF W) (.ip l) (.pointer (some ⟨g,0,.none⟩)):=by
 intro g l hl;unfold G6 at hl;split at hl
 ·rename_i e;subst e;cases hl;exact fh (fs:=[357,358,359,360]) (by decide) (rf h)
 ·split at hl
  ·rename_i e;subst e;cases hl;exact fh (fs:=[372,373,374]) (by decide) (sK h)
  ·split at hl
   ·rename_i e;subst e;cases hl;exact fh (fs:=[346,347,348,349,350,351,354,356]) (by decide) (tW h)
   ·split at hl
    ·rename_i e;subst e;cases hl;exact fh (fs:=[364,365,366,369,370]) (by decide) (pM h)
    ·split at hl
     ·rename_i e;subst e;cases hl;exact xk (qa h)
     ·split at hl
      ·rename_i e;subst e;cases hl;exact pL (uF h)
      ·split at hl
       ·rename_i e;subst e;cases hl;exact pL (xE h)
       ·split at hl
        ·rename_i e;subst e;cases hl;exact pL (uz h)
        ·cases hl
theorem Ct (os:Os) (args:Array Value):laidMetH Tryz.prog Rows.blameSettledRow.laid ((World.doorLaid Tryz.prog 600 os).forCall (λ_ _=>0) ⟨#[],args,[]⟩).memory:=
 laidMetH_of_parts3 (fuel:=8) (laidMet_of_run' 8 (by kernel_rfl) (by kernel_rfl)) (by kernel_rfl) (by kernel_rfl)
set_option maxRecDepth 100000 in
theorem fM (os:Os) (started:os.Started) (H:Type) (enc:TypeId×Value->H) :
 ReturnsInHanded {} Tryz.checked os 12 .any (λw args=>(Rows.blameSettledSpec.pre enc Tryz.prog Tryz.f12 [] false w args/\laidMetH Tryz.prog Rows.blameSettledRow.laid w)/\sizedMet enc Tryz.prog Tryz.f12 (OpenSpec.ofChange Rows.blameSettledSpec) false w args)
  (Rows.blameSettledSpec.post enc Tryz.prog Tryz.f12 false true false false):=by
 refine returnsInHanded_of_change_and (C:=Tryz.checked) (X:=λw _=>laidMetH Tryz.prog Rows.blameSettledRow.laid w) (λ_ _ _ hh h=>h.of_heap hh) own started (by kernel_rfl) Tryz.func12
  (ChangeSpec.witness_shaped (enc:=enc) (C:=Tryz.checked) (os:=os) (X:=λw _=>laidMetH Tryz.prog Rows.blameSettledRow.laid w) false (World.doorLaid Tryz.prog 600 os) #[.agg #[.slice .none 0 0,.slice .none 0 0,.slice .none 0 0,.slice .none 0 0,.int .i64 0,.int .i64 0,.slice .none 0 0,.int .i64 0,.int .i64 0,.slice .none 0 0],.int .u8 0,.bool false] 8 rfl (World.shaped_of_RefB (by kernel_rfl) (by kernel_rfl)) (by kernel_rfl) (by kernel_rfl) (by kernel_rfl) (Ct os _)) ?_
 intro W base args ds gs vn hval0 hW _ _ hL _;have hval:∀ (j:Nat) t v,Tryz.f12.params[j]?=some t->args[j]?=some v->Value.okWide Tryz.prog W .any base t v:=hval0;have hW':=hW;obtain⟨p,q,hA0,hV,rfl,hfz,hnd⟩:=hW;have hA:DataW.TrodAll enc Tryz.prog W 0 (λ_=>true) true Tryz.f12.params.toList args.toList ds p:=hA0;rw[Tryz.params12] at hA hval;obtain⟨v0,v1,v2,d0,d1,d2,p0,p1,p2,rfl,rfl,rfl,h0,h1,h2⟩:=trodAll_three hA;obtain⟨rfl,rfl⟩:=trodVars_none hV;obtain⟨cs0,rfl,hcs0⟩:=okWide_struct Tryz.underlying39 (hval 0 39 v0 rfl rfl);obtain⟨n1,rfl,rfl,rfl,wn1⟩:=open_int Tryz.underlying5 (hval 1 5 v1 rfl rfl) h1;obtain⟨n2,rfl,rfl,rfl⟩:=open_bool Tryz.underlying4 (hval 2 4 v2 rfl rfl) h2;clear hA0 hval0;simp only[List.append_nil] at hW';have rn1:0<=n1/\n1<=255:=by simpa[Lit.wf,IntKind.min,IntKind.max,IntKind.signed,IntKind.bits] using wn1
 obtain⟨m1,rfl⟩:=Int.eq_ofNat_of_zero_le rn1.1;have rm1:m1<256:=by omega
 have h0k:=h0;obtain⟨fuel0,hf0⟩:=h0;obtain⟨l0,⟨c0,hc0,rfl⟩,hR0⟩:=GU H enc W fuel0 cs0.toList _ hf0;have hlt0:∀ x∈p0,x.block<W.heap.size:=λx hx=>by simpa using hW'.lt x (by simp[hx])
 have hcall:=(mY (G:=G6) c0 m1 n2 rfl rfl (GI G6) (DX G6) rfl rfl rfl ⟨rfl,rfl,rfl⟩ hc0 (Nat.le_of_lt_succ rm1) []).calls (vs:=#[.agg cs0,.int .u8 (m1:Int),.bool n2]) (W:=W) (u:=.bool true) (GP hL) rfl (λj d v hd hv=>by
  match j with
  | 0=>simp at hd hv;subst hd;subst hv;exact .ofCells hR0
  | 1=>simp at hd hv;subst hd;subst hv;exact .ofCell (c:=.raw (.int .u8 (m1:Int))) (.one (.raw _ rfl))
  | 2=>simp at hd hv;subst hd;subst hv;exact .ofCell (c:=.raw (.bool n2)) (.one (.raw _ rfl))
  | j+3=>simp at hd)
 refine hcall.mono λe W' ⟨he,hnx⟩=>?_;subst he;refine⟨_,rfl,_,_,_,[],p0,[],hW',trodAll_mk1 (shut_bool Tryz.underlying4 _),?_,rfl,hnx.frame _,λh=>by cases h⟩;have hend:=trodAll_mk3 (Below.trod ES (by kernel_rfl) (of_decide_eq_true (by kernel_rfl)) h0k hnx hlt0) (shut_int (enc:=enc) (w:=W') (base:=0) (spare:=λb=>decide (b<W.heap.size)) (held:=true) Tryz.underlying5 wn1) (shut_bool (enc:=enc) (w:=W') (base:=0) (spare:=λb=>decide (b<W.heap.size)) (held:=true) Tryz.underlying4 n2);simp only[List.append_nil,List.nil_append,List.append_assoc] at hend ⊢;exact hend
theorem gO:Rows.BlameSettledSaid:=
 OpenClaim.holds_of_wide 12 Tryz.f12 rfl rfl rfl rfl rfl rfl rfl ⟨rfl,rfl,rfl,rfl,rfl⟩ rfl rfl rfl rfl rfl (by kernel_rfl) Tryz.func12 fN
  (of_decide_eq_true (by kernel_rfl)) (by unfold Func.isWrapper;first|(rw[if_pos (by decide +kernel)];kernel_rfl)|(rw[if_neg (by decide +kernel)];exact⟨rfl,rfl⟩))
  (λos started H enc _=>fM os started H enc)
end Go.Proofs.YtjodaihiogfkbaaGreatDoor
