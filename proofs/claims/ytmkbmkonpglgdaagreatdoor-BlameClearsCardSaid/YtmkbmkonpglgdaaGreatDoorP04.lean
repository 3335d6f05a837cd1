/- Part 4 of the proofs: laws and walks that hold without conditions beyond those that each theorem names. -/
import Derived.Laws.StructEq
import Derived.Test.YtmkbmkonpglgdaaGreatDoorP03
set_option linter.all false
set_option linter.deprecated false
namespace Go.Ab
open Go
def mapO {α β:Type} (f:α→Option β):List α→Option (List β)
 | []=>some []
 | x :: r=>match f x,mapO f r with
   | some y,some l=>some (y :: l)
   | _,_=>none
theorem mapO_spec {α β:Type} {f:α→Option β}:∀ {l:List α} {r:List β},mapO f l=some r→r.length=l.length∧∀ (i:Nat) (y:β),r[i]?=some y→∃ x,l[i]?=some x∧f x=some y
 | [],r,h=>by cases h;exact ⟨rfl,fun i y h=>by simp at h⟩
 | x :: l,r,h=>by
   simp only [mapO] at h
   split at h
   ·rename_i y l' hy hl
    cases h
    obtain ⟨h1,h2⟩:=mapO_spec hl
    refine ⟨by simp [h1],fun i z hz=>?_⟩
    cases i with
    | zero=>simp at hz;subst hz;exact ⟨x,rfl,hy⟩
    | succ i=>obtain ⟨w,h3,h4⟩:=h2 i z (by simpa using hz);exact ⟨w,by simpa using h3,h4⟩
   ·cases h
def frz:Nat→Nat→List DObj→DC→Option IC
 | 0,_,_,_=>none
 | k + 1,n,objs,d=>match d with
   | .im c=>some c
   | .ptr o off=>if n≤o then match objs[o]? with
    | some (.row c)=>if off≤c.length then (mapO (frz k n objs) (c.drop off)).map .ip else none
    | _=>none
     else none
   | .ept o g i off=>if n≤o then match objs[o]? with
    | some (.vec _ es g' _)=>if g=g' then match es[i]? with
     | some x=>if off≤x.length then (mapO (frz k n objs) (x.drop off)).map .ip else none
     | none=>none
      else none
    | _=>none
     else none
   | .vec o g off len=>if n≤o then match objs[o]? with
    | some (.vec _ es g' _)=>if g=g'∧off + len≤es.length then (mapO (mapO (frz k n objs)) ((es.drop off).take len)).map .sl else none
    | _=>none
     else none
   | .fn f caps=>(mapO (frz k n objs) caps).map (.fn f)
   | .map o=>if n≤o then match objs[o]? with
    | some (.map ks es)=>(mapO (fun x=>(mapO (frz k n objs) x.2).map fun l=>(x.1,l)) es).map (.mp (ckBase ks))
    | _=>none
     else none
   | _=>none
theorem frz_sound {G:Nat→Option (List IC)} {M:MS} (hm:RelM G M) {n:Nat} {ok':Nat→Prop} (h1:∀ b,M.ok b→ok' b) (h2:∀ o d,n≤o→M.objs[o]?=some d→d.blk=true→ok' (M.β o)) :
 ∀ (k:Nat) (d:DC) (c:IC) (v:Value),RepC M d v→frz k n M.objs d=some c→RepI M.w ok' c v:=by
 intro k
 induction k with
 | zero=>intro d c v _ h;cases h
 | succ k ih =>
   intro d c v hp h
   unfold frz at h
   split at h
   ·cases h
    cases hp with
    | im _ _ hp=>exact hp.mono fun b hb=>⟨h1 b hb,rfl⟩
   ·rename_i o off
    split at h
    ·rename_i hn
     split at h
     ·rename_i cs ho
      split at h
      ·rename_i hle
       simp only [Option.map_eq_some_iff] at h
       obtain ⟨l,hl,rfl⟩:=h
       obtain ⟨hlen,hget⟩:=mapO_spec hl
       cases hp with
       | ptr _ _ _ a1 a2 a3 =>
         obtain ⟨ca,T,b1,b2,b3⟩:=hm.objs o _ ho
         rw [a3 cs ho]
         have key:∀ (j:Nat) (y:IC),l[j]?=some y→∃ x,cs[off + j]?=some x∧frz k n M.objs x=some y∧ca[off + j]?=some ((ca[off + j]?).getD undef):=fun j y hj=>by
          obtain ⟨x,hx,hfx⟩:=hget j y hj
          rw [List.getElem?_drop] at hx
          have hlt:=lt_of_getElem? hx
          exact ⟨x,hx,hfx,by simp [b2,hlt]⟩
         refine .ip l _ (fun j=>(ca[off + j]?).getD undef) rfl (h2 o _ hn ho rfl) (fun j y hj=>?_) (fun j y hj=>?_)
         ·obtain ⟨x,_,_,h5⟩:=key j y hj
          simp only [World.cell?,b1]
          simpa using h5
         ·obtain ⟨x,h3,h4,h5⟩:=key j y hj
          exact ih x y _ (b3 _ x _ h3 h5) h4
      ·cases h
     ·cases h
    ·cases h
   ·rename_i o g i off
    split at h
    ·rename_i hn
     split at h
     ·rename_i sz es g' nl ho
      split at h
      ·rename_i hg
       subst hg
       split at h
       ·rename_i xs hxs
        split at h
        ·rename_i hle
         simp only [Option.map_eq_some_iff] at h
         obtain ⟨l,hl,rfl⟩:=h
         obtain ⟨hlen,hget⟩:=mapO_spec hl
         cases hp with
         | ept _ _ _ _ _ a1 a2 a3 =>
           obtain ⟨_,a4⟩:=a3 _ _ _ _ ho
           obtain ⟨rfl,rfl⟩:=a4 rfl
           obtain ⟨_,hf⟩:=hm.objs o _ ho
           obtain ⟨h0,ca,T,b1,b2,b3,b4⟩:=hf rfl
           have hxl:=b3 i xs hxs
           have hi:=lt_of_getElem? hxs
           have hmul:(i + 1) * sz≤es.length * sz:=Nat.mul_le_mul_right sz hi
           rw [Nat.add_mul,Nat.one_mul] at hmul
           have key:∀ (j:Nat) (y:IC),l[j]?=some y→∃ x,xs[off + j]?=some x∧frz k n M.objs x=some y∧ca[i * sz + off + j]?=some ((ca[i * sz + off + j]?).getD undef):=fun j y hj=>by
            obtain ⟨x,hx,hfx⟩:=hget j y hj
            rw [List.getElem?_drop] at hx
            have hlt:=lt_of_getElem? hx
            have:i * sz + off + j < ca.size:=by omega
            exact ⟨x,hx,hfx,by simp [this]⟩
           refine .ip l _ (fun j=>(ca[i * sz + off + j]?).getD undef) rfl (h2 o _ hn ho rfl) (fun j y hj=>?_) (fun j y hj=>?_)
           ·obtain ⟨x,_,_,h5⟩:=key j y hj
            simp only [World.cell?,b1]
            simpa using h5
           ·obtain ⟨x,h3,h4,h5⟩:=key j y hj
            exact ih x y _ (b4 i xs (off + j) x _ hxs h3 (by rw [← Nat.add_assoc];exact h5)) h4
        ·cases h
       ·cases h
      ·cases h
     ·cases h
    ·cases h
   ·rename_i o g off len
    split at h
    ·rename_i hn
     split at h
     ·rename_i sz es g' nl ho
      split at h
      ·rename_i hg
       obtain ⟨rfl,hle⟩:=hg
       simp only [Option.map_eq_some_iff] at h
       obtain ⟨l,hl,rfl⟩:=h
       obtain ⟨hlen,hget⟩:=mapO_spec hl
       have hlen':l.length=len:=by rw [hlen];simp;omega
       cases hp with
       | vec _ _ _ _ _ a1 a2 a3 =>
         obtain ⟨_,a4⟩:=a3 _ _ _ _ ho
         obtain ⟨a5,a6⟩:=a4 rfl
         obtain ⟨hnil,hf⟩:=hm.objs o _ ho
         rcases Bool.eq_false_or_eq_true nl with hnl|hnl
         ·obtain ⟨rfl,rfl,rfl⟩:=a5 hnl
          have:l=[]:=List.eq_nil_of_length_eq_zero hlen'
          subst this
          exact .slnil
         ·obtain ⟨xo,cap,rfl,hlc,hxo,hbs⟩:=a6 hnl
          obtain ⟨h0,ca,T,b1,b2,b3,b4⟩:=hf hnl
          rw [← hlen']
          have key:∀ (i:Nat) (x:List IC),l[i]?=some x→∃ e,es[off + i]?=some e∧e.length=sz∧x.length=sz∧∀ (j:Nat) (y:IC),x[j]?=some y→∃ d,e[j]?=some d∧frz k n M.objs d=some y:=fun i x hi=>by
           obtain ⟨e,he,hfe⟩:=hget i x hi
           rw [List.getElem?_take] at he
           split at he
           ·rw [List.getElem?_drop] at he
            obtain ⟨h3,h4⟩:=mapO_spec hfe
            have h5:=b3 _ e he
            exact ⟨e,he,h5,by rw [h3];exact h5,h4⟩
           ·cases he
          have cell:∀ (i:Nat) (x:List IC) (j:Nat) (y:IC),l[i]?=some x→x[j]?=some y→ca[(off + i) * sz + j]?=some ((ca[(off + i) * sz + j]?).getD undef)∧xo + i * sz + j=(off + i) * sz + j:=fun i x j y hi hj=>by
           obtain ⟨e,he,h5,h6,h7⟩:=key i x hi
           have hlt:=lt_of_getElem? he
           have hj2:=lt_of_getElem? hj
           have hmul:(off + i + 1) * sz≤es.length * sz:=Nat.mul_le_mul_right sz hlt
           rw [Nat.add_mul,Nat.one_mul] at hmul
           have hin:(off + i) * sz + j < ca.size:=by omega
           have hcap:cap≠0:=by
            rintro rfl
            have:l.length=0:=by omega
            have:=lt_of_getElem? hi
            omega
           refine ⟨by simp [hin],?_⟩
           rw [hxo.resolve_left hcap,Nat.add_mul]
          refine .sl l _ cap sz (fun i j=>(ca[(off + i) * sz + j]?).getD undef) rfl (fun _=>h2 o _ hn ho (by simp [DObj.blk,hnl])) (by omega) (fun i x hi=>(key i x hi).choose_spec.2.2.1) (fun i x j y hi hj=>?_) (fun i x j y hi hj=>?_)
          ·obtain ⟨c1,c2⟩:=cell i x j y hi hj
           simp only [World.cell?,b1]
           rw [c2]
           simpa using c1
          ·obtain ⟨c1,c2⟩:=cell i x j y hi hj
           obtain ⟨e,he,h5,h6,h7⟩:=key i x hi
           obtain ⟨d,hd,hfd⟩:=h7 j y hj
           exact ih d y _ (b4 _ e j d _ he hd c1) hfd
      ·cases h
     ·cases h
    ·cases h
   ·rename_i f caps
    simp only [Option.map_eq_some_iff] at h
    obtain ⟨l,hl,rfl⟩:=h
    obtain ⟨hlen,hget⟩:=mapO_spec hl
    cases hp with
    | fn _ _ vs a1 a2 =>
      refine .fn f l vs (by omega) fun j c v hj hv=>?_
      obtain ⟨x,hx,hfx⟩:=hget j c hj
      exact ih x c v (a2 j x v hx hv) hfx
   ·rename_i o
    split at h
    ·rename_i hn
     split at h
     ·rename_i ks es ho
      simp only [Option.map_eq_some_iff] at h
      obtain ⟨l,hl,rfl⟩:=h
      obtain ⟨hlen,hget⟩:=mapO_spec hl
      cases hp with
      | map _ _ a1 a2 a3 =>
        obtain ⟨ents,clock,b1,b2,b3,b4,b5⟩:=hm.objs o _ ho
        rw [a3 _ _ ho]
        have key:∀ (i:Nat) (y:List Value×List IC),l[i]?=some y→∃ x e,es[i]?=some x∧ents[i]?=some e∧y.1=x.1∧y.2.length=x.2.length∧(∀ (j:Nat) (c:IC),y.2[j]?=some c→∃ d,x.2[j]?=some d∧frz k n M.objs d=some c)∧RepE M x e:=fun i y hi=>by
         obtain ⟨x,hx,hfx⟩:=hget i y hi
         simp only [Option.map_eq_some_iff] at hfx
         obtain ⟨l2,hl2,rfl⟩:=hfx
         obtain ⟨h3,h4⟩:=mapO_spec hl2
         have hlt:i < ents.size:=by rw [b4];exact lt_of_getElem? hx
         have he:ents[i]?=some ents[i]:=by simp [hlt]
         exact ⟨x,_,hx,he,rfl,h3,h4,b5 i x _ hx he⟩
        refine .mp (ckBase ks) l (M.β o) ents clock (fun i j=>(((ents[i]?).map (·.val.cells)).bind (·[j]?)).getD undef) (h2 o _ hn ho rfl) b1 b2.1 (fun y hy=>?_) (by rw [b4,hlen]) (fun i y e hi he=>?_) (fun i y j c hi hj=>?_)
        ·obtain ⟨i,hi⟩:=List.mem_iff_getElem?.1 hy
         obtain ⟨x,e,g1,g2,g3,_⟩:=key i y hi
         rw [g3];exact b3 x (List.mem_of_getElem? g1)
        ·obtain ⟨x,e',g1,g2,g3,g4,g5,g6,g7,g8⟩:=key i y hi
         rw [he] at g2;cases g2
         refine ⟨by rw [g6,g3],?_⟩
         have hcells:e.val=keyV e.val.cells.toList∧e.val.cells.size=x.2.length:=by
          generalize e.val=v at g8
          match hx2:x.2,g8 with
          | [c],g8=>cases g8 with
            | one _ _ hc=>have:=hc.isOne;cases v<;>first|(exact ⟨rfl,rfl⟩)|(simp [isOne] at this)
          | [],g8=>cases g8 with
            | agg _ cs hl2 _ =>
              have:cs=#[]:=Array.eq_empty_of_size_eq_zero (by simpa using hl2.symm)
              subst this;exact ⟨rfl,rfl⟩
          | a :: b :: r,g8=>cases g8 with
            | agg _ cs hl2 _ =>
              refine ⟨?_,by simpa [Value.cells] using hl2.symm⟩
              simp only [Value.cells]
              match hcs:cs.toList with
              | []=>have:=congrArg List.length hcs;simp at this;simp [this] at hl2
              | [c]=>have:=congrArg List.length hcs;simp at this;simp [this] at hl2
              | c1 :: c2 :: r2=>simp only [keyV];rw [← hcs]
         rw [hcells.1]
         congr 1
         refine List.ext_getElem? fun j=>?_
         rw [List.getElem?_map]
         by_cases hj:j < y.2.length
         ·rw [List.getElem?_range hj]
          have:j < e.val.cells.size:=by rw [hcells.2,← g4];exact hj
          simp [he,this]
         ·rw [List.getElem?_eq_none (by simp;omega),List.getElem?_eq_none (by simp;omega)];rfl
        ·obtain ⟨x,e,g1,g2,g3,g4,g5,g6,g7,g8⟩:=key i y hi
         obtain ⟨d,hd,hfd⟩:=g5 j c hj
         have:∃ v,e.val.cells[j]?=some v∧RepC M d v:=by
          generalize e.val=v at g8
          match hx2:x.2,g8 with
          | [c0],g8=>cases g8 with
            | one _ _ hc =>
              rw [hx2] at hd
              cases j with
              | zero =>
                simp at hd;subst hd
                have:=hc.isOne
                cases v<;>first|exact ⟨_,rfl,hc⟩|(simp [isOne] at this)
              | succ j=>simp at hd
          | [],g8=>rw [hx2] at hd;simp at hd
          | a :: b :: r,g8=>cases g8 with
            | agg _ cs hl2 hcs =>
              rw [hx2] at hd
              have hlt:j < cs.size:=by rw [← hl2];exact lt_of_getElem? hd
              exact ⟨cs[j],by simp [Value.cells,hlt],hcs j d _ hd (by simp [hlt])⟩
         obtain ⟨v,hv1,hv2⟩:=this
         have:=ih d c v hv2 hfd
         simpa [g2,hv1] using this
     ·cases h
    ·cases h
   ·cases h
mutual
def DC.lt (n:Nat):DC→Bool
 | .im _=>true
 | .ptr o _=>decide (o < n)
 | .ept o _ _ _=>decide (o < n)
 | .vec o _ _ _=>decide (o < n)
 | .fn _ caps=>DC.ltL n caps
 | .map o=>decide (o < n)
 | .yld o=>decide (o < n)
 | .itr o=>decide (o < n)
 | .dead=>true
def DC.ltL (n:Nat):List DC→Bool
 | []=>true
 | c :: r=>DC.lt n c && DC.ltL n r
end
theorem DC.ltL_get {n:Nat}:∀ {l:List DC} {j:Nat} {c:DC},DC.ltL n l=true→l[j]?=some c→DC.lt n c=true
 | [],j,c,_,h=>by simp at h
 | d :: l,j,c,h,hj=>by
   simp only [DC.ltL,Bool.and_eq_true] at h
   cases j with
   | zero=>simp at hj;subst hj;exact h.1
   | succ j=>exact DC.ltL_get h.2 (by simpa using hj)
def fz (n:Nat) (objs:List DObj) (d:DC):DC:=
 match d with
 | .im c=>.im c
 | d=>if d.lt n then d else match frz 20 n objs d with
   | some c=>.im c
   | none=>.dead
mutual
def fzV (n:Nat) (objs:List DObj):DV→DV
 | .one c=>.one (fz n objs c)
 | .agg l=>.agg (l.map (fz n objs))
 | .tup l=>.tup (fzVL n objs l)
def fzVL (n:Nat) (objs:List DObj):List DV→List DV
 | []=>[]
 | d :: r=>fzV n objs d :: fzVL n objs r
end
theorem fzVL_map (n:Nat) (objs:List DObj):∀ (l:List DV),fzVL n objs l=l.map (fzV n objs)
 | []=>rfl
 | d :: r=>by rw [fzVL,fzVL_map n objs r];rfl
theorem get_map {f:DV→DV}:∀ {l:List (Nat×DV)} {t:Nat} {d:DV},tget (l.map fun x=>(x.1,f x.2)) t=some d→∃ d0,tget l t=some d0∧d=f d0
 | [],t,d,h=>by simp [tget] at h
 | x :: l,t,d,h=>by
   simp only [List.map_cons,tget] at h ⊢
   split at h
   ·rename_i ht;cases h;exact ⟨x.2,by rw [if_pos ht],rfl⟩
   ·rename_i ht;obtain ⟨d0,h1,h2⟩:=get_map h;exact ⟨d0,by rw [if_neg ht];exact h1,h2⟩
def fzO (n:Nat) (objs:List DObj):DObj→DObj
 | .row c=>.row (c.map (fz n objs))
 | .vec sz es g nl=>.vec sz (es.map (·.map (fz n objs))) g nl
 | .map ks es=>.map ks (es.map fun x=>(x.1,x.2.map (fz n objs)))
 | .loop r=>.loop { r with tm:=r.tm.map fun x=>(x.1,fzV n objs x.2) }
 | .iter l c=>.iter l c
 | .liter b s c=>.liter b s c
 | .gone=>.gone
def dropO (n:Nat) (objs:List DObj):List DObj:=(objs.take n).map (fzO n objs)
theorem fzO_blk {n:Nat} {objs:List DObj} (d:DObj):(fzO n objs d).blk=d.blk:=by cases d<;>rfl
def MS.drop (M:MS) (n:Nat):MS:={ M with objs:=dropO n M.objs }
theorem dropO_get {n o:Nat} {objs:List DObj} {d':DObj} (h:(dropO n objs)[o]?=some d'):o < n∧∃ d,objs[o]?=some d∧d'=fzO n objs d:=by
 unfold dropO at h
 rw [List.getElem?_map,Option.map_eq_some_iff] at h
 obtain ⟨d,h1,rfl⟩:=h
 rw [List.getElem?_take] at h1
 split at h1
 ·exact ⟨by assumption,d,h1,rfl⟩
 ·cases h1
theorem dropO_get' {n o:Nat} {objs:List DObj} {d:DObj} (hn:o < n) (h:objs[o]?=some d):(dropO n objs)[o]?=some (fzO n objs d):=by
 unfold dropO
 rw [List.getElem?_map,List.getElem?_take,if_pos hn,h];rfl
theorem drop_live {M:MS} {n b:Nat} (h:(M.drop n).live b):M.live b:=by
 obtain ⟨o,d',ho,hb,hβ⟩:=h
 obtain ⟨_,d,h1,rfl⟩:=dropO_get ho
 exact ⟨o,d,h1,by rw [← fzO_blk];exact hb,hβ⟩
theorem drop_free {M:MS} {n b:Nat} (h:M.free b):(M.drop n).free b:=⟨h.1,fun hl=>h.2 (drop_live hl)⟩
theorem drop_ok {M:MS} {n b:Nat} (h:M.ok b):(M.drop n).ok b:=⟨drop_free h.1,h.2⟩
theorem drop_ok' {G:Nat→Option (List IC)} {M:MS} (hm:RelM G M) {n o:Nat} {d:DObj} (hn:n≤o) (ho:M.objs[o]?=some d) (hb:d.blk=true):(M.drop n).ok (M.β o):=by
 refine ⟨⟨hm.lt o d ho hb,?_⟩,hm.own o d ho hb⟩
 rintro ⟨p,e',hp,he,hβ⟩
 obtain ⟨hlt,e,h1,rfl⟩:=dropO_get hp
 have:=hm.inj p o e d h1 ho (by rw [← fzO_blk];exact he) hb hβ
 omega
theorem Ext.drop {M:MS} {n:Nat} (hn:n≤M.objs.length):Ext n M (M.drop n):=by
 refine ⟨by simp [MS.drop,dropO];omega,fun b h=>⟨drop_free h,rfl⟩,Fsame M,Nat.le_refl _,fun o ho c' hc=>?_,fun o ho sz es' g nl hv=>?_,fun o ho ks es' hm=>?_,fun o ho r' hm=>?_,fun o ho d' hm hi=>?_,fun o ho r hm=>?_,⟨rfl,rfl,rfl,by first|exact Nat.le_refl _|exact Nat.le_succ _⟩⟩
 ·obtain ⟨_,d,h1,h2⟩:=dropO_get hc
  cases d<;>simp [fzO] at h2
  exact ⟨⟨_,h1⟩,rfl⟩
 ·obtain ⟨_,d,h1,h2⟩:=dropO_get hv
  cases d<;>simp [fzO] at h2
  obtain ⟨rfl,_,rfl,rfl⟩:=h2
  exact ⟨_,_,_,_,h1,Nat.le_refl _,fun _=>⟨rfl,rfl,fun _=>⟨rfl,rfl⟩⟩⟩
 ·obtain ⟨_,d,h1,h2⟩:=dropO_get hm
  cases d<;>simp [fzO] at h2
  exact ⟨⟨_,_,h1⟩,rfl⟩
 ·obtain ⟨_,d,h1,h2⟩:=dropO_get hm
  cases d<;>simp [fzO] at h2
  exact ⟨⟨_,h1⟩,rfl⟩
 ·obtain ⟨_,d,h1,h2⟩:=dropO_get hm
  exact ⟨⟨_,h1,by cases d<;>simp_all [fzO,DObj.isIt]⟩,rfl⟩
 ·exact ⟨⟨_,dropO_get' ho hm⟩,rfl⟩
theorem RepC.drop_lt {M:MS} {n:Nat} (hn:n≤M.objs.length) {d:DC} {v:Value} (r:RepC M d v) (hl:d.lt n=true):RepC (M.drop n) d v:=by
 have hlen:(M.drop n).objs.length=n:=by simp [MS.drop,dropO];omega
 induction r with
 | im c v h=>exact .im _ _ (h.mono fun b hb=>⟨drop_ok hb,rfl⟩)
 | ptr o off v h1 h2 h3 =>
   have ho:o < n:=by simpa [DC.lt] using hl
   refine .ptr o off v h1 (by omega) fun c hc=>?_
   obtain ⟨_,d,h4,h5⟩:=dropO_get hc
   cases d<;>simp [fzO] at h5
   exact h3 _ h4
 | ept o g i off v h1 h2 h3 =>
   have ho:o < n:=by simpa [DC.lt] using hl
   refine .ept o g i off v h1 (by omega) fun sz es g' nl hc=>?_
   obtain ⟨_,d,h4,h5⟩:=dropO_get hc
   cases d<;>simp [fzO] at h5
   obtain ⟨rfl,_,rfl,rfl⟩:=h5
   exact h3 _ _ _ _ h4
 | vec o g off len v h1 h2 h3 =>
   have ho:o < n:=by simpa [DC.lt] using hl
   refine .vec o g off len v h1 (by omega) fun sz es g' nl hc=>?_
   obtain ⟨_,d,h4,h5⟩:=dropO_get hc
   cases d<;>simp [fzO] at h5
   obtain ⟨rfl,_,rfl,rfl⟩:=h5
   exact h3 _ _ _ _ h4
 | fn f caps vs h1 _ ih =>
   refine .fn f caps vs h1 fun j c v hj hv=>ih j c v hj hv ?_
   rw [DC.lt] at hl
   exact DC.ltL_get hl hj
 | map o v h1 h2 h3 =>
   have ho:o < n:=by simpa [DC.lt] using hl
   refine .map o v h1 (by omega) fun ks es hc=>?_
   obtain ⟨_,d,h4,h5⟩:=dropO_get hc
   cases d<;>simp [fzO] at h5
   exact h3 _ _ h4
 | yld o v h1 h2 h3 =>
   have ho:o < n:=by simpa [DC.lt] using hl
   refine .yld o v h1 (by omega) fun r hc=>?_
   obtain ⟨_,d,h4,h5⟩:=dropO_get hc
   cases d<;>simp [fzO] at h5
   exact h3 _ h4
 | itr o v h1 h2 h3 =>
   have ho:o < n:=by simpa [DC.lt] using hl
   refine .itr o v h1 (by omega) fun d' hc hi=>?_
   obtain ⟨_,d,h4,h5⟩:=dropO_get hc
   exact h3 _ h4 (by cases d<;>simp_all [fzO,DObj.isIt])
 | dead v h=>exact .dead v h
theorem RepC.drop {G:Nat→Option (List IC)} {M:MS} (hm:RelM G M) {n:Nat} (hn:n≤M.objs.length) {d:DC} {v:Value} (r:RepC M d v):RepC (M.drop n) (fz n M.objs d) v:=by
 have key:RepC (M.drop n) (if d.lt n then d else match frz 20 n M.objs d with
  | some c=>.im c
  | none=>.dead) v:=by
  split
  ·rename_i hl;exact r.drop_lt hn hl
  ·split
   ·rename_i c hc
    exact .im _ _ (frz_sound hm (fun b hb=>drop_ok hb) (fun o d ho h1 h2=>drop_ok' hm ho h1 h2) 20 d c v r hc)
   ·exact .dead _ r.isOne
 unfold fz
 cases d with
 | im c=>exact r.drop_lt hn (by simp [DC.lt])
 | _=>exact key
theorem RepV.drop {G:Nat→Option (List IC)} {M:MS} (hm:RelM G M) {n:Nat} (hn:n≤M.objs.length) {d:DV} {v:Value} (r:RepV M d v):RepV (M.drop n) (fzV n M.objs d) v:=by
 induction r with
 | one c v h=>rw [fzV];exact .one _ _ (h.drop hm hn)
 | agg l cs h1 h2 =>
   rw [fzV]
   refine .agg _ _ (by simpa using h1) fun j c v hc hv=>?_
   rw [List.getElem?_map,Option.map_eq_some_iff] at hc
   obtain ⟨c0,h3,rfl⟩:=hc
   exact (h2 j c0 v h3 hv).drop hm hn
 | tup l vs h1 _ ih =>
   rw [fzV,fzVL_map]
   refine .tup _ _ (by simpa using h1) fun j d v hd hv=>?_
   rw [List.getElem?_map,Option.map_eq_some_iff] at hd
   obtain ⟨d0,h3,rfl⟩:=hd
   exact ih j d0 v h3 hv
theorem RelM.drop {G:Nat→Option (List IC)} {M:MS} (hm:RelM G M) {n:Nat} (hn:n≤M.objs.length):RelM G (M.drop n):=by
 refine ⟨fun o d' ho=>?_,fun o d' ho hb=>?_,fun o o' d1 d2 ho ho' hb hb' hβ=>?_,fun g l hg=>(hm.glob g l hg).mono fun b hb=>⟨drop_ok hb,rfl⟩,hm.fl,fun o d' ho hb=>?_⟩
 ·obtain ⟨hlt,d,h1,rfl⟩:=dropO_get ho
  have hr:=hm.objs o d h1
  cases d with
  | row cells =>
    obtain ⟨c,T,a1,a2,a3⟩:=hr
    refine ⟨c,T,a1,by simpa using a2,fun j d v hd hv=>?_⟩
    rw [List.getElem?_map,Option.map_eq_some_iff] at hd
    obtain ⟨d0,h2,rfl⟩:=hd
    exact (a3 j d0 v h2 hv).drop hm hn
  | vec sz es g nl =>
    obtain ⟨a0,hf⟩:=hr
    refine ⟨fun h=>by simp [a0 h],fun hnl=>?_⟩
    obtain ⟨h0,c,T,a1,a2,a3,a4⟩:=hf hnl
    refine ⟨h0,c,T,a1,by simpa using a2,fun i x hx=>?_,fun i x j d v hx hd hv=>?_⟩
    ·rw [List.getElem?_map,Option.map_eq_some_iff] at hx
     obtain ⟨x0,h2,rfl⟩:=hx
     simpa using a3 i x0 h2
    ·rw [List.getElem?_map,Option.map_eq_some_iff] at hx
     obtain ⟨x0,h2,rfl⟩:=hx
     rw [List.getElem?_map,Option.map_eq_some_iff] at hd
     obtain ⟨d0,h3,rfl⟩:=hd
     exact (a4 i x0 j d0 v h2 h3 hv).drop hm hn
  | map ks es =>
    obtain ⟨ents,clock,a1,ast,ash,a2,a3⟩:=hr
    refine ⟨ents,clock,a1,ast,(fun x hx=>by
     obtain ⟨x0,h0,rfl⟩:=List.mem_map.1 hx
     exact ash x0 h0),by simpa using a2,fun i x e hx he=>?_⟩
    rw [List.getElem?_map,Option.map_eq_some_iff] at hx
    obtain ⟨x0,h2,rfl⟩:=hx
    obtain ⟨b1,b2,b3⟩:=a3 i x0 e h2 he
    refine ⟨b1,b2,?_⟩
    have hv:valV (x0.2.map (fz n M.objs))=fzV n M.objs (valV x0.2):=by
     match x0.2 with
     | []=>rfl
     | [c]=>rfl
     | c :: c' :: r=>rfl
    simp only
    rw [hv]
    exact b3.drop hm hn
  | loop lr =>
    obtain ⟨fn,tmps,D,a1,a2,a3⟩:=hr
    refine ⟨fn,tmps,D,a1,a2,fun t d ht=>?_⟩
    obtain ⟨d0,h2,rfl⟩:=get_map ht
    obtain ⟨v,e1,e2⟩:=a3 t d0 h2
    exact ⟨v,e1,e2.drop hm hn⟩
  | iter left cur =>
    obtain ⟨bm,seen,ents,clock,a1,a2,a3,a4,a5,a6,a7⟩:=hr
    have hE:∀ {x:List Value×List IC} {e:MapEntry},RepEI M x e→RepEI (M.drop n) x e:=fun {x e} ⟨b1,b2,b3⟩=>⟨b1,b2,by
     have hv:fzV n M.objs (valV (x.2.map .im))=valV (x.2.map .im):=by
      match x.2 with
      | []=>rfl
      | [c]=>rfl
      | c :: c' :: r=>simp [valV,fzV,fz]
     rw [← hv];exact b3.drop hm hn⟩
    exact ⟨bm,seen,ents,clock,a1,drop_ok a2,a3,a4,a5,fun i x e a b=>hE (a6 i x e a b),fun x hx=>by
     obtain ⟨e,a,b,c⟩:=a7 x hx
     exact ⟨e,a,b,hE c⟩⟩
  | liter b seen c=>exact hr
  | gone=>trivial
 ·obtain ⟨hlt,d,h1,rfl⟩:=dropO_get ho
  exact hm.lt o d h1 (by rw [← fzO_blk];exact hb)
 ·obtain ⟨hlt,e1,h1,rfl⟩:=dropO_get ho
  obtain ⟨hlt',e2,h2,rfl⟩:=dropO_get ho'
  exact hm.inj o o' e1 e2 h1 h2 (by rw [← fzO_blk];exact hb) (by rw [← fzO_blk];exact hb') hβ
 ·obtain ⟨hlt,d,h1,rfl⟩:=dropO_get ho
  exact hm.own o d h1 (by rw [← fzO_blk];exact hb)
section
variable {P:Program} {G:Nat→Option (List IC)} {S:DS}
def DS.drop (S:DS) (n:Nat):DS:={ nt:=S.nt,tmps:=S.tmps.map fun x=>(x.1,fzV n S.objs x.2),objs:=dropO n S.objs }
theorem Weak.drop {n:Cx} {m:Nat} (hm:m≤S.objs.length) (hn:n.n≤m):Weak G n S (S.drop m):=by
 intro _ a M hr
 have hm':m≤M.objs.length:=by rw [hr.ob];exact hm
 refine ⟨M.drop m,rfl,⟨hr.m.drop hm',by simp [MS.drop,DS.drop,hr.ob],hr.nt,df_ext hr.m (Ext.drop hm') hr.df,fun t d ht=>?_⟩,(Ext.drop hm').weaken hn⟩
 obtain ⟨d0,h1,rfl⟩:=get_map ht
 obtain ⟨v,h2,h3⟩:=hr.tm t d0 h1
 exact ⟨v,h2,by rw [← hr.ob];exact h3.drop hr.m hm'⟩
theorem DCall.drop {f:FuncId} {args:List DV} {objs:List DObj} {Q:DV→List DObj→Prop} (h:DCall P G f args objs (fun d objs'=>Q (fzV objs.length objs' d) (dropO objs.length objs'))):DCall P G f args objs Q:=
 fun M vs h1 h2 h3 h4=>(h M vs h1 h2 h3 h4).mono fun _ _ ⟨v,d,M',a1,a2,a3,a4,a5,a6⟩ =>
  ⟨v,fzV objs.length M'.objs d,M'.drop objs.length,a1,a2,a3.drop a5.len,a4.drop a3 a5.len,a5.trans (Ext.drop a5.len),a6⟩
inductive ImV:DV→Prop
 | one (c:IC):ImV (.one (.im c))
 | agg (l:List DC):(∀ d∈l,∃ c,d=.im c)→ImV (.agg l)
 | tup (l:List DV):(∀ d∈l,ImV d)→ImV (.tup l)
theorem RepV.imm {M M':MS} (h:∀ b,M.ok b→M'.ok b∧M'.w.heap[b]?=M.w.heap[b]?) {d:DV} {v:Value} (r:RepV M d v) (hi:ImV d):RepV M' d v:=by
 induction r with
 | one c v hc =>
   cases hi
   cases hc with
   | im _ _ hc=>exact .one _ _ (.im _ _ (hc.mono h))
 | agg l cs h1 h2 =>
   cases hi with
   | agg _ hall =>
     refine .agg _ _ h1 fun j c v hj hv=>?_
     obtain ⟨c0,rfl⟩:=hall c (List.mem_of_getElem? hj)
     cases h2 j _ v hj hv with
     | im _ _ hc=>exact .im _ _ (hc.mono h)
 | tup l vs h1 _ ih =>
   cases hi with
   | tup _ hall=>exact .tup _ _ h1 fun j d v hj hv=>ih j d v hj hv (hall d (List.mem_of_getElem? hj))
theorem DCall.frame {f:FuncId} {args:List DV} {d0:DV} (h:DCall P G f args [] (fun d objs'=>fzV 0 objs' d=d0)) (ha:∀ d∈args,ImV d) (hd:ImV d0) (objs:List DObj) :
 DCall P G f args objs (fun d objs'=>d=d0∧objs'=objs):=by
 intro M vs hm hob hvs hrep
 have hok:∀ b,MS.ok { w:=M.w,β:=M.β,objs:=[],F:=fun b=>M.F b∨M.live b } b↔M.ok b:=fun b=>by
  simp only [MS.ok,MS.free,MS.live]
  constructor
  ·rintro ⟨⟨h1,_⟩,h2⟩;exact ⟨⟨h1,fun h=>h2 (.inr h)⟩,fun h=>h2 (.inl h)⟩
  ·rintro ⟨⟨h1,h2⟩,h3⟩;exact ⟨⟨h1,by simp⟩,fun h=>h.elim h3 h2⟩
 have hm0:RelM G { w:=M.w,β:=M.β,objs:=[],F:=fun b=>M.F b∨M.live b }:=
  ⟨fun o d ho=>by simp at ho,fun o d ho=>by simp at ho,fun o o' d d' ho=>by simp at ho,fun g l hg=>(hm.glob g l hg).mono fun b hb=>⟨(hok b).2 hb,rfl⟩,
   fun b hb=>hb.elim (hm.fl b) (fun ⟨o,d,h1,h2,h3⟩=>h3 ▸ hm.lt o d h1 h2),fun o d ho=>by simp at ho⟩
 refine (h _ vs hm0 rfl hvs fun j d v hd hv=>(hrep j d v hd hv).imm (fun b hb=>⟨(hok b).2 hb,rfl⟩) (ha d (List.mem_of_getElem? hd))).mono ?_
 rintro e w' ⟨v,d,M1,rfl,rfl,hm1,hv,he,hq⟩
 have hv2:=hv.drop hm1 (Nat.zero_le _)
 rw [hq] at hv2
 have hF:∀ b,M.F b∨M.live b→M1.F b:=he.other.1
 have same:∀ b,b < M.w.heap.size→b < M1.w.heap.size∧M1.w.heap[b]?=M.w.heap[b]?:=fun b hb=>by
  have:=he.free b ⟨hb,fun ⟨o,d,h1,_⟩=>by simp at h1⟩
  exact ⟨this.1.1,this.2⟩
 have hlive:∀ b,MS.live { w:=M1.w,β:=M.β,objs:=M.objs,F:=M.F } b↔M.live b:=fun b=>Iff.rfl
 have hext:Ext M.objs.length M { w:=M1.w,β:=M.β,objs:=M.objs,F:=M.F }:=by
  refine ⟨Nat.le_refl _,fun b hb=>⟨⟨(same b hb.1).1,hb.2⟩,(same b hb.1).2⟩,Fsame M,he.hs,fun o _ c' hc=>⟨⟨c',hc⟩,rfl⟩,fun o _ sz es g nl hv=>⟨sz,es,g,nl,hv,Nat.le_refl _,fun _=>⟨rfl,rfl,fun hn=>⟨rfl,?_⟩⟩⟩,fun o _ ks es hc=>⟨⟨ks,es,hc⟩,rfl⟩,fun o _ r hc=>⟨⟨r,hc⟩,rfl⟩,fun o _ d hc hi=>⟨⟨d,hc,hi⟩,rfl⟩,fun o _ r hc=>⟨⟨r,hc⟩,rfl⟩,he.io⟩
  simp only [bsize]
  rw [(same _ (hm.lt o _ hv (by simp [DObj.blk,hn]))).2]
 refine ⟨v,d0,{ w:=M1.w,β:=M.β,objs:=M.objs,F:=M.F },rfl,rfl,?_,?_,by rw [← hob];exact hext,rfl,hob⟩
 ·exact ⟨fun o d ho=>(hm.objs o d ho).ext hext (fun _=>rfl) (fun hb=>(same _ (hm.lt o d ho hb)).2),fun o d ho hb=>(same _ (hm.lt o d ho hb)).1,hm.inj,fun g l hg=>(hm.glob g l hg).mono hext.ok,
   fun b hb=>(same b (hm.fl b hb)).1,hm.own⟩
 ·refine hv2.imm (fun b hb=>?_) hd
  obtain ⟨⟨h1,_⟩,h2⟩:=hb
  have h2':¬ (M.F b∨M.live b):=fun h=>h2 (hF b h)
  exact ⟨⟨⟨h1,fun h=>h2' (.inr h)⟩,fun h=>h2' (.inl h)⟩,rfl⟩
end
end Go.Ab
namespace Go.Ab
open Go
def fieldCK (P:Program) (f:Field):Option CK:=
 if f.name = "_" then none else match P.underlying f.type with
 | some (.int k)=>some (.int k)
 | some .bool=>some .bool
 | _=>none
def fieldsCK (P:Program):List Field→Nat→Option (List CK)
 | [],_=>some []
 | f :: r,i=>if f.offset=i then match fieldCK P f,fieldsCK P r (i + 1) with
  | some k,some l=>some (k :: l)
  | _,_=>none
   else none
def eqShape (P:Program) (t:TypeId):Option (List CK):=
 if P.stoodInHeld t=false∧P.eqGuardType P.depth t=false then match P.underlying t with
  | some (.struct fs)=>fieldsCK P fs.toList 0
  | _=>none
 else none
section
variable {P:Program} {G:Nat→Option (List IC)} {S:DS}
theorem run_eqFields {w:World} (d:Nat) (xs ys:Array Value):∀ (fs:List Field) (i:Nat) (ks:List CK),fieldsCK P fs i=some ks→shapeOk ks (xs.toList.drop i)=true→shapeOk ks (ys.toList.drop i)=true →
 (Op.eqFields (d + 1) xs ys fs).run P w=.ok (beqs (xs.toList.drop i) (ys.toList.drop i)) w
 | [],i,ks,h,hx,hy=>by
   cases h
   have e1:xs.toList.drop i=[]:=by
    cases hh:xs.toList.drop i with
    | nil=>rfl
    | cons a l=>rw [hh] at hx;cases a<;>simp [shapeOk] at hx
   have e2:ys.toList.drop i=[]:=by
    cases hh:ys.toList.drop i with
    | nil=>rfl
    | cons a l=>rw [hh] at hy;cases a<;>simp [shapeOk] at hy
   rw [e1,e2]
   rfl
 | f :: fs,i,ks,h,hx,hy=>by
   simp only [fieldsCK] at h
   split at h
   ·rename_i hoff
    split at h
    ·rename_i k l hk hl
     cases h
     unfold fieldCK at hk
     split at hk
     ·cases hk
     ·rename_i hname
      have get:∀ (zs:Array Value),shapeOk (k :: l) (zs.toList.drop i)=true→∃ v,zs[i]?=some v∧zs.toList.drop i=v :: zs.toList.drop (i + 1):=fun zs hz=>by
       cases hh:zs.toList.drop i with
       | nil=>rw [hh] at hz;cases k<;>simp [shapeOk] at hz
       | cons v r =>
         have h1:zs.toList[i]?=some v:=by
          have:=congrArg (fun l=>l[0]?) hh
          simpa using this
         refine ⟨v,by simpa using h1,?_⟩
         have:=congrArg (List.drop 1) hh
         rw [List.drop_drop] at this
         simp only [List.drop_succ_cons,List.drop_zero] at this
         rw [this]
      obtain ⟨vx,hvx,ex⟩:=get xs hx
      obtain ⟨vy,hvy,ey⟩:=get ys hy
      rw [ex] at hx ⊢
      rw [ey] at hy ⊢
      have hagg:(isAgg f.type).run P w=.ok false w:=by
       split at hk
       ·rename_i hu;exact runIsAgg (by simp [tag,hu])
       ·rename_i hu;exact runIsAgg (by simp [tag,hu])
       ·cases hk
      have hpart:∀ (zs:Array Value) v,zs[i]?=some v→(part f.type zs f.offset).run P w=.ok v w:=fun zs v hz=>by
       simp [part,hagg,hoff,hz]
      simp only [Op.eqFields]
      rw [if_pos hname]
      simp only [Sem.run_bind,hpart xs vx hvx,hpart ys vy hvy,Result.andThen_ok]
      split at hk
      ·rename_i kk hu
       cases hk
       obtain ⟨a,rfl⟩:∃ n,vx=.int kk n:=by
        cases vx<;>simp [shapeOk] at hx
        exact ⟨_,by rw [hx.1]⟩
       obtain ⟨b,rfl⟩:∃ n,vy=.int kk n:=by
        cases vy<;>simp [shapeOk] at hy
        exact ⟨_,by rw [hy.1]⟩
       simp [shapeOk] at hx hy
       have h1:(Op.equalIn (d + 1) f.type (.int kk a) (.int kk b)).run P w=.ok (a == b) w:=by
        simp only [Op.equalIn,Sem.run_bind,runUnderlying hu,Result.andThen_ok,if_true]
        rfl
       simp only [h1,Result.andThen_ok,beqs]
       cases hab:(a == b)
       ·simp
       ·simp only [Bool.not_true,Bool.false_eq_true,if_false,Bool.true_and]
        exact run_eqFields d xs ys fs (i + 1) l hl hx hy
      ·rename_i hu
       cases hk
       obtain ⟨a,rfl⟩:∃ n,vx=.bool n:=by
        cases vx<;>simp [shapeOk] at hx
        exact ⟨_,rfl⟩
       obtain ⟨b,rfl⟩:∃ n,vy=.bool n:=by
        cases vy<;>simp [shapeOk] at hy
        exact ⟨_,rfl⟩
       simp [shapeOk] at hx hy
       have h1:(Op.equalIn (d + 1) f.type (.bool a) (.bool b)).run P w=.ok (a == b) w:=by
        simp only [Op.equalIn,Sem.run_bind,runUnderlying hu,Result.andThen_ok]
        rfl
       simp only [h1,Result.andThen_ok,beqs]
       cases hab:(a == b)
       ·simp
       ·simp only [Bool.not_true,Bool.false_eq_true,if_false,Bool.true_and]
        exact run_eqFields d xs ys fs (i + 1) l hl hx hy
      ·cases hk
    ·cases h
   ·cases h
theorem run_equal_struct {t:TypeId} {ks:List CK} (h:eqShape P t=some ks) {xs ys:Array Value} (hx:shapeOk ks xs.toList=true) (hy:shapeOk ks ys.toList=true) (w:World) :
 (Op.equal t (.agg xs) (.agg ys)).run P w=.ok (beqs xs.toList ys.toList) w:=by
 unfold eqShape at h
 split at h
 ·rename_i hc
  split at h
  ·rename_i fs hu
   have hf:P.fieldsOf t=fs:=by simp [Program.fieldsOf,hu]
   have key:∀ d,(Op.equalIn (d + 1 + 1) t (.agg xs) (.agg ys)).run P w=.ok (beqs xs.toList ys.toList) w:=fun d=>by
    rw [run_equalIn_struct w (d + 1) t xs ys (by rw [hf];exact hu) hc.1,hf]
    have:=run_eqFields (P:=P) (w:=w) d xs ys fs.toList 0 ks h (by simpa using hx) (by simpa using hy)
    simpa using this
   exact key 9998
  ·cases h
 ·cases h
def raws:List DC→Option (List Value)
 | []=>some []
 | .im (.raw v) :: r=>(raws r).map (v :: ·)
 | _=>none
theorem raws_sound {M:MS}:∀ (l:List DC) (vs:List Value) (cs:List Value),raws l=some vs→l.length=cs.length→(∀ (j:Nat) (c:DC) (v:Value),l[j]?=some c→cs[j]?=some v→RepC M c v)→cs=vs
 | [],vs,cs,h,hl,_=>by cases h;exact List.eq_nil_of_length_eq_zero hl.symm
 | d :: l,vs,[],_,hl,_=>by simp at hl
 | d :: l,vs,c :: cs,h,hl,hr=>by
   unfold raws at h
   split at h
   ·rename_i heq;cases heq
   ·rename_i v r heq
    simp only [List.cons.injEq] at heq
    obtain ⟨rfl,rfl⟩:=heq
    simp only [Option.map_eq_some_iff] at h
    obtain ⟨vs',h1,rfl⟩:=h
    have h2:c=v:=by
     cases hr 0 _ c rfl rfl with
     | im _ _ h=>cases h;rfl
    rw [h2,raws_sound l vs' cs h1 (by simpa using hl) fun j d u hd hu=>hr (j + 1) d u (by simpa using hd) (by simpa using hu)]
   ·cases h
theorem OpV_eqStruct {o:Oper} {op:BinOp} {t u:TypeId} {x y:Operand} {lx ly:List DC} {vx vy:List Value} {ks:List CK} (ho:o.op=.binOp op t x y u) (hop:op=.eql∨op=.neq) (ht:eqShape P t=some ks)
 (hx:evalG G S x=some (.agg lx)) (hy:evalG G S y=some (.agg ly)) (rx:raws lx=some vx) (ry:raws ly=some vy) (sx:shapeOk ks vx=true) (sy:shapeOk ks vy=true) :
 OpV P G o S (.one (.im (.raw (.bool (if op=.eql then beqs vx vy else !beqs vx vy))))) S.objs:=by
 refine .pure fun a M hr=>⟨_,?_,.mkraw rfl⟩
 have e1:=evalG_sound hr hx
 have e2:=evalG_sound hr hy
 generalize hvx:a.eval x=v at e1
 generalize hvy:a.eval y=v' at e2
 cases e1 with
 | agg _ cx h1 h2 =>
   cases e2 with
   | agg _ cy h3 h4 =>
     have f1:=raws_sound lx vx cx.toList rx (by simpa using h1) (fun j c v hc hv=>h2 j c v hc (by simpa using hv))
     have f2:=raws_sound ly vy cy.toList ry (by simpa using h3) (fun j c v hc hv=>h4 j c v hc (by simpa using hv))
     have heq:=run_equal_struct ht (xs:=cx) (ys:=cy) (by rw [f1];exact sx) (by rw [f2];exact sy) M.w
     rw [f1,f2] at heq
     have hguard:(eqGuard op t x y (.agg cx) (.agg cy)).run P M.w=.ok () M.w:=by
      unfold eqShape at ht
      split at ht
      ·rename_i hc
       rcases hop with rfl|rfl<;>simp [eqGuard,hc.2]
      ·cases ht
     simp only [execOp,ho,hvx,hvy,Sem.run_bind,hguard,Result.andThen_ok]
     rcases hop with rfl|rfl
     ·have h5:binOp .eql t (.agg cx) (.agg cy)=(do pure (.bool (← Op.equal t (.agg cx) (.agg cy)))):=rfl
      simp only [h5,Sem.run_bind,heq,Result.andThen_ok]
      rfl
     ·have h5:binOp .neq t (.agg cx) (.agg cy)=(do pure (.bool (!(← Op.equal t (.agg cx) (.agg cy))))):=rfl
      simp only [h5,Sem.run_bind,heq,Result.andThen_ok]
      rfl
def dnil (objs:List DObj) (x:DC):Option Bool:=
 match x with
 | .im (.sl (_ :: _))=>some false
 | .vec o g _ _=>match objs[o]? with
   | some (.vec _ _ g' nl)=>if g=g' then some nl else none
   | _=>none
 | _=>none
theorem OpV_eqNil {o:Oper} {op:BinOp} {t e u:TypeId} {x:Operand} {c:DC} {b:Bool} (ho:o.op=.binOp op t x (.const (.slice none 0 0)) u) (hop:op=.eql∨op=.neq) (ht:P.underlying t=some (.slice e))
 (hx:evalG G S x=some (.one c)) (hb:dnil S.objs c=some b):OpV P G o S (.one (.im (.raw (.bool (if op=.eql then b else !b))))) S.objs:=by
 refine .pure fun a M hr=>⟨_,?_,.mkraw rfl⟩
 have e1:=evalG_sound hr hx
 generalize hv:a.eval x=v at e1
 have hval:∃ p n c,v=.slice p n c∧p.isNone=b:=by
  cases e1 with
  | one _ _ hp =>
    unfold dnil at hb
    split at hb
    ·cases hb
     cases hp with
     | im _ _ hp=>cases hp;exact ⟨_,_,_,rfl,rfl⟩
    ·rename_i ob g off len
     rw [← hr.ob] at hb
     split at hb
     ·rename_i hob
      split at hb
      ·rename_i hg
       cases hb
       cases hp with
       | vec _ _ _ _ _ h1 h2 h3 =>
         obtain ⟨_,h4⟩:=h3 _ _ _ _ hob
         obtain ⟨h5,h6⟩:=h4 hg
         cases b with
         | true=>obtain ⟨_,_,rfl⟩:=h5 rfl;exact ⟨_,_,_,rfl,rfl⟩
         | false=>obtain ⟨xo,cap,rfl,_⟩:=h6 rfl;exact ⟨_,_,_,rfl,rfl⟩
      ·cases hb
     ·cases hb
    ·cases hb
 obtain ⟨p,n,cc,rfl,rfl⟩:=hval
 have heq:(Op.equal t (.slice p n cc) (.slice none 0 0)).run P M.w=.ok p.isNone M.w:=by
  have key:∀ d,(Op.equalIn (d + 1) t (.slice p n cc) (.slice none 0 0)).run P M.w=.ok p.isNone M.w:=fun d=>by
   simp only [Op.equalIn,Sem.run_bind,runUnderlying ht,Result.andThen_ok]
   cases p<;>rfl
  exact key 9999
 have hn:a.eval (.const (.slice none 0 0))=.slice none 0 0:=rfl
 simp only [execOp,ho,hv,hn,Sem.run_bind,not_agg_guard (.inr (.inr (.inl ⟨_,_,_,rfl⟩))),Result.andThen_ok]
 rcases hop with rfl|rfl
 ·have h5:binOp .eql t (.slice p n cc) (.slice none 0 0)=(do pure (.bool (← Op.equal t (.slice p n cc) (.slice none 0 0)))):=rfl
  simp only [h5,Sem.run_bind,heq,Result.andThen_ok]
  rfl
 ·have h5:binOp .neq t (.slice p n cc) (.slice none 0 0)=(do pure (.bool (!(← Op.equal t (.slice p n cc) (.slice none 0 0))))):=rfl
  simp only [h5,Sem.run_bind,heq,Result.andThen_ok]
  rfl
theorem OpV_max {o:Oper} {x y:Operand} {ts:Array TypeId} {k:IntKind} {a b:Int} (ho:o.op=.call { callee:=.builtin .max,args:=#[x,y],argTypes:=ts })
 (hx:rawOf (evalG G S x)=some (.int k a)) (hy:rawOf (evalG G S y)=some (.int k b)):OpV P G o S (.one (.im (.raw (.int k (max a b))))) S.objs:=by
 refine .pure fun act M hr=>⟨_,?_,.mkraw rfl⟩
 have e1:=rawOf_sound hr hx
 have e2:=rawOf_sound hr hy
 have:max a b=if b > a then b else a:=by simp only [Int.max_def];split<;>split<;>omega
 simp [execOp,ho,resolve,invoke,builtin,Builtin.max_,Builtin.max2,e1,e2,this]
theorem OpV_min {o:Oper} {x y:Operand} {ts:Array TypeId} {k:IntKind} {a b:Int} (ho:o.op=.call { callee:=.builtin .min,args:=#[x,y],argTypes:=ts })
 (hx:rawOf (evalG G S x)=some (.int k a)) (hy:rawOf (evalG G S y)=some (.int k b)):OpV P G o S (.one (.im (.raw (.int k (min a b))))) S.objs:=by
 refine .pure fun act M hr=>⟨_,?_,.mkraw rfl⟩
 have e1:=rawOf_sound hr hx
 have e2:=rawOf_sound hr hy
 have:min a b=if b < a then b else a:=by simp only [Int.min_def];split<;>split<;>omega
 simp [execOp,ho,resolve,invoke,builtin,Builtin.min_,Builtin.min2,e1,e2,this]
def ones:List DV→Option (List DC)
 | []=>some []
 | .one c :: r=>(ones r).map (c :: ·)
 | _=>none
theorem ones_spec:∀ {l:List DV} {r:List DC},ones l=some r→l=r.map .one
 | [],r,h=>by cases h;rfl
 | .one c :: l,r,h=>by
   simp only [ones,Option.map_eq_some_iff] at h
   obtain ⟨r',h1,rfl⟩:=h
   rw [ones_spec h1];rfl
 | .agg _ :: l,r,h=>by cases h
 | .tup _ :: l,r,h=>by cases h
theorem OpV_makeFunc {o:Oper} {fn:Fn} {cs:Array Operand} {ds:List DV} {caps:List DC} (ho:o.op=.makeFunc fn #[] cs) (hd:evals G S cs.toList=some ds) (hc:ones ds=some caps):OpV P G o S (.one (.fn fn caps)) S.objs:=by
 refine .pure fun a M hr=>⟨.func fn #[] (cs.map a.eval),by simp [execOp,ho,Instr.makeFunc],.one _ _ (.fn _ _ _ ?_ ?_)⟩
 ·obtain ⟨h1,_⟩:=evals_sound hr _ _ hd
  rw [ones_spec hc] at h1
  simpa using h1
 ·obtain ⟨_,h2⟩:=evals_sound hr _ _ hd
  intro j c v hj hv
  have:=h2 j (.one c) v (by rw [ones_spec hc,List.getElem?_map,hj];rfl) (by rw [← hv,← Array.toList_map,Array.getElem?_toList])
  cases this with
  | one _ _ h=>exact h
def imsOf:List DV→Option (List IC)
 | []=>some []
 | .one (.im c) :: r=>(imsOf r).map (c :: ·)
 | _=>none
theorem imsOf_spec:∀ {ds:List DV} {l:List IC},imsOf ds=some l→ds=l.map fun c=>.one (.im c)
 | [],l,h=>by cases h;rfl
 | d :: r,l,h=>by
   unfold imsOf at h
   split at h
   ·rename_i heq;cases heq
   ·rename_i c r' heq
    cases heq
    rw [Option.map_eq_some_iff] at h
    obtain ⟨l',h1,rfl⟩:=h
    rw [imsOf_spec h1];rfl
   ·cases h
theorem OpV_makeFuncB {o:Oper} {fn:Fn} {cs:Array Operand} {ds:List DV} {l:List IC} (ho:o.op=.makeFunc fn cs #[]) (hd:evals G S cs.toList=some ds) (hc:imsOf ds=some l):OpV P G o S (.one (.im (.bf fn l))) S.objs:=by
 refine .pure fun a M hr=>⟨.func fn (cs.map a.eval) #[],by simp [execOp,ho,Instr.makeFunc],.one _ _ (.im _ _ (.bf _ _ _ ?_ ?_))⟩
 ·obtain ⟨h1,_⟩:=evals_sound hr _ _ hd
  rw [imsOf_spec hc] at h1
  simpa using h1
 ·obtain ⟨_,h2⟩:=evals_sound hr _ _ hd
  intro j c v hj hv
  have:=h2 j (.one (.im c)) v (by rw [imsOf_spec hc,List.getElem?_map,hj];rfl) (by rw [← hv,← Array.toList_map,Array.getElem?_toList])
  cases this with
  | one _ _ h=>cases h with
    | im _ _ h=>exact h
theorem OpV_makeSlice {o:Oper} {t e:TypeId} {sz bytes:Nat} {z:List Value} {x y:Operand} {n:Nat} (ho:o.op=.makeSlice t x y) (ht:P.underlying t=some (.slice e)) (hs:tsz P e=some sz) (h0:0 < sz) (hby:tbytes P e=some bytes)
 (hz:tzero P e=some z) (hzl:z.length=sz) (hzp:z.all Plain=true) (hx:rawOf (evalG G S x)=some (.int .i64 n)) (hy:rawOf (evalG G S y)=some (.int .i64 n)) (hn:n * bytes≤140737488355328) (hn2:n≤9223372036854775807) :
 OpV P G o S (.one (.vec S.objs.length 0 0 n)) (S.objs ++ [.vec sz (List.replicate n (z.map zic)) 0 false]):=by
 intro a M hr
 have e1:=rawOf_sound hr hx
 have e2:=rawOf_sound hr hy
 obtain ⟨v,hrun,hv⟩:=runZero (w:=M.w) hz
 have hvs:v.cells.size=sz:=by rw [← Array.length_toList,hv,hzl]
 have hinf:∃ inf,P.info? e=some inf∧inf.bytes=bytes:=by
  simp only [tbytes,Option.map_eq_some_iff] at hby
  exact hby
 obtain ⟨inf,hinf,rfl⟩:=hinf
 have hsize:((Array.range (n * sz)).map (v.cells[· % v.cells.size]!)).size=(List.replicate n (z.map zic)).length * sz:=by simp
 obtain ⟨hm,hc⟩:=newVec_push (T:=e) (cs:=(Array.range (n * sz)).map (v.cells[· % v.cells.size]!)) (es:=List.replicate n (z.map zic)) (sz:=sz) hr.m h0 hsize (fun i x hx=>by
  have:=List.eq_of_mem_replicate (List.mem_of_getElem? hx)
  rw [this];simpa using hzl) (fun i x j c u hx hj hu=>by
  have:=List.eq_of_mem_replicate (List.mem_of_getElem? hx)
  subst this
  have hi:i < n:=by simpa using lt_of_getElem? hx
  have hjs:j < sz:=by simpa [hzl] using lt_of_getElem? hj
  have hmul:(i + 1) * sz≤n * sz:=Nat.mul_le_mul_right sz hi
  rw [Nat.add_mul,Nat.one_mul] at hmul
  have hlt:i * sz + j < n * sz:=by omega
  simp only [Array.getElem?_map,Array.getElem?_range,hlt,if_true,Option.map_some,Option.some.injEq] at hu
  have hmod:(i * sz + j) % v.cells.size=j:=by rw [hvs,Nat.mul_comm,Nat.mul_add_mod,Nat.mod_eq_of_lt hjs]
  rw [hmod,getElem!_pos v.cells j (by omega)] at hu
  rw [List.getElem?_map,Option.map_eq_some_iff] at hj
  obtain ⟨u0,hu0,rfl⟩:=hj
  have:u0=u:=by
   rw [← hv] at hu0
   rw [← hu]
   have h3:v.cells.toList[j]?=some v.cells[j]:=by simp [show j < v.cells.size by omega]
   rw [h3] at hu0
   exact (Option.some.inj hu0).symm
  subst this
  exact zic_sound (List.all_eq_true.1 hzp u0 (List.mem_of_getElem? hu0)))
 have hrl:(List.replicate n (z.map zic)).length=n:=by simp
 rw [hrl] at hc
 refine ⟨.slice (some ⟨M.w.heap.size,0,none⟩) n n,_,.inl ?_,hm,by simp [MS.push,hr.ob],Ext.push _ _ hr.m.lt,by rw [← hr.ob];exact .one _ _ hc⟩
 have hw:IntKind.i64.wrap (n:Int)=n:=IntWalk.i64_in _ ⟨by omega,by omega⟩
 have hask:(askRoom (n * inf.bytes)).run P M.w=.ok () M.w:=by
  unfold askRoom
  split
  ·rfl
  ·rfl
 have ha:(asInt (.int .i64 n)).run P M.w=.ok (n:Int) M.w:=rfl
 simp only [execOp,ho,Instr.makeSlice,Sem.run_bind,runUnderlying ht,Result.andThen_ok,e1,e2,ha,typeInfo,run_program,hinf,Sem.run_pure,hw]
 have hb1:¬ ((n:Int) < 0):=by omega
 have hb2:¬ ((inf.bytes:Int) * n > 2 ^ 48):=by
  have hm:(inf.bytes:Int) * n=((n * inf.bytes:Nat):Int):=by rw [Int.mul_comm,Int.natCast_mul]
  rw [hm]
  omega
 simp only [hb1,hb2,decide_false,Bool.or_false,Bool.false_eq_true,if_false,Sem.run_bind,Int.toNat_natCast,hask,Result.andThen_ok,runSizeOf hs,gt_iff_lt,Int.lt_irrefl]
 by_cases hnz:n * sz=0
 ·have he0:((Array.range (n * sz)).map (fun (x:Nat)=>((#[]:Array Value)[x % (#[]:Array Value).size]!)))=(Array.range (n * sz)).map (v.cells[· % v.cells.size]!):=by rw [hnz];simp
  simp only [if_pos hnz,Sem.run_bind,Sem.run_pure,Result.andThen_ok]
  rw [he0]
  simp only [newRow,newObj,Sem.run_bind,Sem.run,Result.andThen_ok,Sem.run_pure]
  rfl
 ·simp only [if_neg hnz,Sem.run_bind,hrun,Result.andThen_ok,Sem.run_pure]
  simp only [newRow,newObj,Sem.run_bind,Sem.run,Result.andThen_ok,Sem.run_pure]
  rfl
end
end Go.Ab
