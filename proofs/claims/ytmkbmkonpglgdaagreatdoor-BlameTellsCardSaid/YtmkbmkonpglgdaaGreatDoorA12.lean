/- Part 12 of the proofs: laws and walks that hold without conditions beyond those that each theorem names. -/
import Derived.Test.YtmkbmkonpglgdaaGreatDoorA09
import Derived.Test.YtmkbmkonpglgdaaGreatDoorA11
set_option linter.all false
set_option linter.deprecated false
namespace Go.Ab
open Go
inductive FlV:DV→Prop
 | one (v:Value):FlV (.one (.im (.raw v)))
 | agg (l:List DC):(∀ d∈l,∃ v,d=.im (.raw v))→FlV (.agg l)
 | tup (l:List DV):(∀ d∈l,FlV d)→FlV (.tup l)
theorem RepV.flat {M M':MS} {d:DV} {v:Value} (r:RepV M d v) (hf:FlV d):RepV M' d v:=by
 induction r with
 | one c v hc =>
   cases hf
   cases hc with
   | im _ _ hc=>cases hc with
     | raw _ h=>exact .one _ _ (.im _ _ (.raw _ h))
 | agg l cs h1 h2 =>
   cases hf with
   | agg _ hall =>
     refine .agg _ _ h1 fun j c v hj hv=>?_
     obtain ⟨c0,rfl⟩:=hall c (List.mem_of_getElem? hj)
     cases h2 j _ v hj hv with
     | im _ _ hc=>cases hc with
       | raw _ h=>exact .im _ _ (.raw _ h)
 | tup l vs h1 _ ih =>
   cases hf with
   | tup _ hall=>exact .tup _ _ h1 fun j d v hj hv=>ih j d v hj hv (hall d (List.mem_of_getElem? hj))
theorem FlV_agg (l:List DC):FlV (.agg l)↔∀ d∈l,∃ v,d=.im (.raw v):=⟨fun h=>by cases h;assumption,.agg l⟩
theorem FlV_tup (l:List DV):FlV (.tup l)↔∀ d∈l,FlV d:=⟨fun h=>by cases h;assumption,.tup l⟩
attribute [simp] FlV.one FlV_agg FlV_tup
section
variable {P:Program} {G:Nat→Option (List IC)}
theorem DCall.thaw {f:FuncId} {args args0:List DV} {d0:DV} {objs:List DObj} (h:∀ objs,DCall P G f args0 objs (fun d o=>d=d0∧o=objs)) (ha:args0=args.map (fzV 0 objs)) (hd:FlV d0) :
 DCall P G f args objs (fun d objs'=>d=d0∧objs'=objs):=by
 intro M vs hm hob hvs hrep
 subst hob
 have hm0:=hm.drop (Nat.zero_le M.objs.length)
 refine (h [] (M.drop 0) vs hm0 (by simp [MS.drop,dropO]) (by rw [ha];simpa using hvs) fun j d v hd hv=>?_).mono ?_
 ·rw [ha,List.getElem?_map,Option.map_eq_some_iff] at hd
  obtain ⟨d1,h1,rfl⟩:=hd
  exact (hrep j d1 v h1 hv).drop hm (Nat.zero_le _)
 rintro e w' ⟨v,d,M1,rfl,rfl,hm1,hv,he,rfl,hq⟩
 have same:∀ b,b < M.w.heap.size→b < M1.w.heap.size∧M1.w.heap[b]?=M.w.heap[b]?:=fun b hb=>by
  have:=he.free b ⟨hb,fun ⟨o,d,h1,_⟩=>by simp [MS.drop,dropO] at h1⟩
  exact ⟨this.1.1,this.2⟩
 have hext:Ext M.objs.length M { w:=M1.w,β:=M.β,objs:=M.objs,F:=M.F }:=by
  refine ⟨Nat.le_refl _,fun b hb=>⟨⟨(same b hb.1).1,hb.2⟩,(same b hb.1).2⟩,Fsame M,he.hs,fun o _ c' hc=>⟨⟨c',hc⟩,rfl⟩,fun o _ sz es g nl hv=>⟨sz,es,g,nl,hv,Nat.le_refl _,fun _=>⟨rfl,rfl,fun hn=>⟨rfl,?_⟩⟩⟩,fun o _ ks es hc=>⟨⟨ks,es,hc⟩,rfl⟩,fun o _ r hc=>⟨⟨r,hc⟩,rfl⟩,fun o _ d hc hi=>⟨⟨d,hc,hi⟩,rfl⟩,fun o _ r hc=>⟨⟨r,hc⟩,rfl⟩,he.io⟩
  simp only [bsize]
  rw [(same _ (hm.lt o _ hv (by simp [DObj.blk,hn]))).2]
 exact ⟨v,d,{ w:=M1.w,β:=M.β,objs:=M.objs,F:=M.F },rfl,rfl,
  ⟨fun o d ho=>(hm.objs o d ho).ext hext (fun _=>rfl) (fun hb=>(same _ (hm.lt o d ho hb)).2),fun o d ho hb=>(same _ (hm.lt o d ho hb)).1,hm.inj,fun g l hg=>(hm.glob g l hg).mono hext.ok,
   fun b hb=>(same b (hm.fl b hb)).1,hm.own⟩,hv.flat hd,hext,rfl,rfl⟩
theorem CallE.thaw {f:FuncId} {args args0:List DV} {d0:DV} {objs:List DObj} {Q:DV→List DObj→Prop} {t:Tok Q} (h:∀ objs,DCall P G f args0 objs (fun d o=>d=d0∧o=objs)) (ha:args0=args.map (fzV 0 objs)) (hd:FlV d0) (hq:Q d0 objs):CallE P G f args objs Q t:=
 (DCall.thaw h ha hd).mono fun d' objs' ⟨h1,h2⟩=>by rw [h1,h2];exact hq
theorem CallE.here {f:FuncId} {args:List DV} {d0:DV} {objs:List DObj} {Q:DV→List DObj→Prop} {t:Tok Q} (h:DCall P G f args objs (fun d o=>d=d0∧o=objs)) (hq:Q d0 objs):CallE P G f args objs Q t:=
 h.mono fun d' objs' ⟨h1,h2⟩=>by rw [h1,h2];exact hq
theorem RepC.fnOf {M:MS} {g:Fn} {cs:List IC} {v:Value} (h:RepC M (.im (.fn g cs)) v):RepC M (.fn g (cs.map .im)) v:=by
 cases h with
 | im _ _ h=>cases h with
   | fn _ _ vs h1 h2 =>
     refine .fn g _ vs (by simpa using h1) fun j c v hj hv=>?_
     rw [List.getElem?_map,Option.map_eq_some_iff] at hj
     obtain ⟨c0,h3,rfl⟩:=hj
     exact .im _ _ (h2 j c0 v h3 hv)
theorem DCall.fnArg2 {f:FuncId} {a:DV} {g:Fn} {cs:List IC} {objs:List DObj} {Q:DV→List DObj→Prop} (h:DCall P G f [a,.one (.fn g (cs.map .im))] objs Q):DCall P G f [a,.one (.im (.fn g cs))] objs Q:=by
 intro M vs hm hob hvs hrep
 refine h M vs hm hob hvs fun j d v hd hv=>?_
 match j with
 | 0=>exact hrep 0 d v hd hv
 | 1 =>
   simp at hd;subst hd
   have:=hrep 1 _ v rfl hv
   cases this with
   | one _ _ hc=>exact .one _ _ hc.fnOf
 | j + 2=>simp at hd
end
end Go.Ab
namespace Go.Ab
open Go
section
variable {P:Program} {G:Nat→Option (List IC)} {S:DS}
def gones (k:Nat):List DObj:=List.replicate k .gone
theorem gone_add {G:Nat→Option (List IC)} {M:MS} (hm:RelM G M):∀ k,RelM G { M with objs:=M.objs ++ gones k }∧Ext M.objs.length M { M with objs:=M.objs ++ gones k }
 | 0=>by simp only [gones,List.replicate_zero,List.append_nil];exact ⟨hm,Ext.refl M⟩
 | k + 1=>by
   obtain ⟨h1,h2⟩:=gone_add hm k
   have e:({ M with objs:=M.objs ++ gones (k + 1) }:MS)=MS.idle { M with objs:=M.objs ++ gones k } .gone:=by
    simp only [MS.idle,gones,List.replicate_succ',List.append_assoc]
   rw [e]
   exact ⟨h1.idle rfl trivial,h2.trans ((Ext.idle rfl).weaken (by simp))⟩
theorem DCall.freeze {f:FuncId} {args args0:List DV} {objs o1:List DObj} {d0:DV} (m:Nat) (h:DCall P G f args0 (dropO m objs) (fun d o=>d=d0∧o=o1)) (hm:m≤objs.length) (hl:o1.length=m)
 (ha:args0=args.map (fzV m objs)) (hnl:∀ o r,m≤o→objs[o]?≠some (.loop r)) :
 DCall P G f args objs (fun d o=>d=d0∧o=o1 ++ gones (objs.length - m)):=by
 intro M vs hM hob hvs hrep
 subst hob
 have hlen:(dropO m M.objs).length=m:=by simp [dropO];omega
 refine (h (M.drop m) vs (hM.drop hm) rfl (by rw [ha];simpa using hvs) fun j d v hd hv=>?_).mono ?_
 ·rw [ha,List.getElem?_map,Option.map_eq_some_iff] at hd
  obtain ⟨d1,h1,rfl⟩:=hd
  exact (hrep j d1 v h1 hv).drop hM hm
 rintro e w' ⟨v,d,M1,rfl,rfl,hm1,hv,he,rfl,hq⟩
 rw [hlen] at he
 obtain ⟨g1,g2⟩:=gone_add hm1 (M.objs.length - m)
 have hl1:M1.objs.length=m:=by rw [hq];exact hl
 have hall:Ext m M { M1 with objs:=M1.objs ++ gones (M.objs.length - m) }:=(Ext.drop hm).trans (he.trans (g2.weaken (by omega)))
 have hg:∀ o,m≤o→∀ d,(M1.objs ++ gones (M.objs.length - m))[o]?=some d→d=.gone:=fun o ho d hd=>by
  rw [List.getElem?_append_right (by omega)] at hd
  simp only [gones,List.getElem?_replicate] at hd
  split at hd<;>simp_all
 refine ⟨v,d,{ M1 with objs:=M1.objs ++ gones (M.objs.length - m) },rfl,rfl,g1,hv.ext g2,?_,rfl,by rw [hq]⟩
 refine ⟨by simp [gones];omega,hall.free,hall.other,hall.hs,fun o ho c' hc=>?_,fun o ho sz es' g nl hc=>?_,fun o ho ks es' hc=>?_,fun o ho r' hc=>?_,fun o ho d' hc hit=>?_,fun o ho r hc=>?_,hall.io⟩
 all_goals rcases Nat.lt_or_ge o m with hlt|hge
 ·exact hall.row o hlt c' hc
 ·cases hg o hge _ hc
 ·exact hall.vec o hlt sz es' g nl hc
 ·cases hg o hge _ hc
 ·exact hall.map o hlt ks es' hc
 ·cases hg o hge _ hc
 ·exact hall.lp o hlt r' hc
 ·cases hg o hge _ hc
 ·exact hall.it o hlt d' hc hit
 ·rw [hg o hge _ hc] at hit;cases hit
 ·exact hall.lp' o hlt r hc
 ·exact absurd hc (hnl o r hge)
def noLoop:DObj→Bool
 | .loop _=>false
 | _=>true
theorem CallE.freeze {f:FuncId} {args args0:List DV} {objs objs0 o1:List DObj} {d0:DV} {Q:DV→List DObj→Prop} {t:Tok Q} (m:Nat) (h:DCall P G f args0 objs0 (fun d o=>d=d0∧o=o1)) (ho:objs0=dropO m objs) (ha:args0=args.map (fzV m objs)) (hm:m≤objs.length) (hl:o1.length=m)
 (hnl:(objs.drop m).all noLoop=true) (hq:Q d0 (o1 ++ gones (objs.length - m))):CallE P G f args objs Q t:=
 (DCall.freeze m (ho ▸ h) hm hl ha fun o r h1 h2=>by
  have h3:(objs.drop m)[o - m]?=some (.loop r):=by rw [List.getElem?_drop,show m + (o - m)=o by omega];exact h2
  have:=List.all_eq_true.1 hnl _ (List.mem_of_getElem? h3)
  cases this).mono fun d o ⟨h1,h2⟩=>by rw [h1,h2];exact hq
def nilV (objs:List DObj):DV→DV
 | .one (.vec o g off len)=>match objs[o]? with
   | some (.vec _ _ g' nl)=>if g=g'∧nl=true then .one (.im (.raw (.slice none 0 0))) else .one (.vec o g off len)
   | _=>.one (.vec o g off len)
 | d=>d
theorem RepV.nilV {M:MS} {d:DV} {v:Value} (r:RepV M d v):RepV M (nilV M.objs d) v:=by
 cases r with
 | one c v hc =>
   cases hc with
   | vec o g off len v h1 h2 h3 =>
     simp only [Go.Ab.nilV]
     split
     ·rename_i sz es g' nl ho
      split
      ·rename_i h4
       obtain ⟨rfl,rfl⟩:=h4
       obtain ⟨_,_,rfl⟩:=((h3 _ _ _ _ ho).2 rfl).1 rfl
       exact .one _ _ (.im _ _ (.raw _ rfl))
      ·exact .one _ _ (.vec o g off len v h1 h2 h3)
     ·exact .one _ _ (.vec o g off len v h1 h2 h3)
   | im c v h=>exact .one _ _ (.im c v h)
   | ptr o off v h1 h2 h3=>exact .one _ _ (.ptr o off v h1 h2 h3)
   | ept o g i off v h1 h2 h3=>exact .one _ _ (.ept o g i off v h1 h2 h3)
   | fn f cs vs h1 h2=>exact .one _ _ (.fn f cs vs h1 h2)
   | map o v h1 h2 h3=>exact .one _ _ (.map o v h1 h2 h3)
   | yld o v h1 h2 h3=>exact .one _ _ (.yld o v h1 h2 h3)
   | itr o v h1 h2 h3=>exact .one _ _ (.itr o v h1 h2 h3)
   | dead v h1=>exact .one _ _ (.dead v h1)
 | agg l cs h1 h2=>exact .agg l cs h1 h2
 | tup l vs h1 h2=>exact .tup l vs h1 h2
theorem DCall.nil {f:FuncId} {args:List DV} {objs:List DObj} {Q:DV→List DObj→Prop} (h:DCall P G f args objs (fun d objs'=>Q (nilV objs' d) objs')):DCall P G f args objs Q:=
 fun M vs h1 h2 h3 h4=>(h M vs h1 h2 h3 h4).mono fun _ _ ⟨v,d,M',a1,a2,a3,a4,a5,a6⟩=>⟨v,nilV M'.objs d,M',a1,a2,a3,a4.nilV,a5,a6⟩
def emptyV (objs:List DObj):DV→DV
 | .one (.vec o g off 0)=>match objs[o]? with
   | some (.vec _ _ g' _)=>if g=g' then .one (.im (.sl [])) else .one (.vec o g off 0)
   | _=>.one (.vec o g off 0)
 | d=>d
theorem RepV.emptyV {M:MS} {d:DV} {v:Value} (r:RepV M d v):RepV M (emptyV M.objs d) v:=by
 unfold Go.Ab.emptyV
 split
 ·rename_i o g off
  split
  ·rename_i sz es g' nl ho
   split
   ·rename_i h4
    subst h4
    cases r with
    | one _ _ hc=>cases hc with
      | vec _ _ _ _ _ h1 h2 h3 =>
        obtain ⟨h5,h6⟩:=(h3 _ _ _ _ ho).2 rfl
        cases nl with
        | true =>
          obtain ⟨_,_,rfl⟩:=h5 rfl
          exact .one _ _ (.im _ _ .slnil)
        | false =>
          obtain ⟨x,cap,rfl,_⟩:=h6 rfl
          exact .one _ _ (.im _ _ (.slz _ _))
   ·exact r
  ·exact r
 ·exact r
theorem CallE.empty {f:FuncId} {args args':List DV} {objs:List DObj} {Q:DV→List DObj→Prop} {t:Tok Q} (ha:args'=args.map (emptyV objs)) (h:CallE P G f args' objs Q t):CallE P G f args objs Q t:=by
 intro M vs hM hob hvs hrep
 subst ha
 refine h M vs hM hob (by simpa using hvs) fun j d v hd hv=>?_
 rw [List.getElem?_map,Option.map_eq_some_iff] at hd
 obtain ⟨d1,h1,rfl⟩:=hd
 rw [← hob]
 exact (hrep j d1 v h1 hv).emptyV
def nilX (objs:List DObj):DV→DV×List DObj
 | .one (.im (.raw (.slice none 0 0)))=>(.one (.vec objs.length 0 0 0),objs ++ [.vec 1 [] 0 true])
 | d=>(d,objs)
theorem CallE.idle {f:FuncId} {args:List DV} {objs:List DObj} {Q:DV→List DObj→Prop} {t:Tok Q} (h:CallE P G f args objs (fun d o=>Q (nilX o d).1 (nilX o d).2) ⟨⟩):CallE P G f args objs Q t:=by
 intro M vs h1 h2 h3 h4
 refine (h M vs h1 h2 h3 h4).mono fun _ _ ⟨v,d,M',a1,a2,a3,a4,a5,a6⟩=>?_
 have a7:Q (nilX M'.objs d).1 (nilX M'.objs d).2:=a6
 clear a6
 generalize hx:nilX M'.objs d=x at a7
 unfold nilX at hx
 split at hx
 ·subst hx
  refine ⟨v,_,M'.idle (.vec 1 [] 0 true),a1,a2,a3.idle rfl ⟨fun _=>rfl,(fun h=>by cases h)⟩,?_,a5.trans ((Ext.idle rfl).weaken a5.len),a7⟩
  cases a4 with
  | one _ _ hc=>cases hc with
    | im _ _ hc=>cases hc with
      | raw _ hv =>
        refine .one _ _ (.vec _ _ _ _ _ rfl (by simp [MS.idle]) fun sz es g nl ho=>?_)
        have:(M'.idle (DObj.vec 1 [] 0 true)).objs[M'.objs.length]?=some (DObj.vec 1 [] 0 true):=by simp [MS.idle]
        rw [this] at ho
        cases ho
        exact ⟨Nat.le_refl _,fun _=>⟨fun _=>⟨rfl,rfl,rfl⟩,(fun h=>by cases h)⟩⟩
 ·subst hx
  exact ⟨v,d,M',a1,a2,a3,a4,a5,a7⟩
end
end Go.Ab
namespace Go.Ab
open Go
def reO (p:List Nat) (o:Oper):Oper:={ dst:=o.dst,op:=o.op,type:=o.type,pos:=o.pos,after:=o.after.map fun e=>{ on:=p.idxOf e.on,ground:=e.ground },guard:=o.guard }
def permL (p:List Nat) (l:List Oper):List Nat→List Oper
 | []=>[]
 | k :: r=>match l[k]? with
   | some o=>reO p o :: permL p l r
   | none=>permL p l r
section
variable {P:Program} {p:List Nat} {l:List Oper} {F:Fence} {n:Nat} {Q:Exit→Act→World→Prop}
structure PermOk (p:List Nat) (l:List Oper):Prop where
 len:p.length=l.length
 nd:p.Nodup
 lt:∀ k∈p,k < l.length
 gd:∀ o∈l,o.guard=none
 sur:∀ k,k < l.length→k∈p
end
end Go.Ab
namespace Go.Ab
open Go
section
variable {P:Program} {G:Nat→Option (List IC)}
end
end Go.Ab
namespace Go.Ab
open Go
section
variable (P:Program) (G:Nat→Option (List IC))
def ZK (l:List Oper) (K:DS→Prop):List (List Nat×List Nat)→Nat→DS→Prop
 | [],i,S=>RTe P G (l.map (·.dst)) (l.drop i) S K ⟨⟩
 | (fl,kt) :: r,i,Sq=>RTe P G (l.map (·.dst)) (pick l [i]) (Sq.keep kt) (fun S'=>RXe P G (l.map (·.dst)) (pick l fl) S' (fun Sf=>sameAt (dstL (pick l fl)) Sf.tmps Sq.tmps∧ZK l K r (i + 1) Sf) ⟨⟩) ⟨⟩
end
section
variable {P:Program} {G:Nat→Option (List IC)}
end
end Go.Ab
namespace Go.Ab
open Go
section
variable {P:Program} {G:Nat→Option (List IC)}
theorem DCall.last {f:FuncId} {args:List DV} {Q:Nat→Nat→Nat→List (List IC)→Bool→Prop}
 (h:DCall P G f args [] (fun d o=>∃ k g len sz es nl,d=.one (.vec k g 0 len)∧o[k]?=some (.vec sz (ims es) g nl)∧Q g len sz es nl)) :
 DCall P G f args [] (fun d o=>∃ g len sz es nl,d=.one (.vec 0 g 0 len)∧o=[.vec sz (ims es) g nl]∧Q g len sz es nl):=by
 intro M vs h1 h2 h3 h4
 refine (h M vs h1 h2 h3 h4).mono ?_
 rintro e w' ⟨v,d,M',rfl,rfl,hm,hv,he,k,g,len,sz,es,nl,rfl,ho,hq⟩
 have hlt:k < M'.objs.length:=lt_of_getElem? ho
 let M'':MS:={ w:=M'.w,β:=fun _=>M'.β k,objs:=[.vec sz (ims es) g nl],F:=M'.F }
 have hlive:∀ b,M''.live b→M'.live b:=by
  rintro b ⟨o,d,h5,h6,h7⟩
  have h8:=lt_of_getElem? h5
  have:o=0:=by simp [M''] at h8;exact h8
  subst this
  simp only [M'',List.getElem?_cons_zero,Option.some.injEq] at h5
  subst h5
  exact ⟨k,_,ho,h6,h7⟩
 have hfree:∀ b,M'.free b→M''.free b:=fun b hb=>⟨hb.1,fun hl=>hb.2 (hlive b hl)⟩
 have hok:∀ b,M'.ok b→M''.ok b∧M''.w.heap[b]?=M'.w.heap[b]?:=fun b hb=>⟨⟨hfree b hb.1,hb.2⟩,rfl⟩
 have hel:∀ (i:Nat) (x:List DC),(ims es)[i]?=some x→∀ (j:Nat) (d:DC) (v:Value),x[j]?=some d→RepC M' d v→RepC M'' d v:=fun i x hx j d v hd r=>by
  rw [ims_get,Option.map_eq_some_iff] at hx
  obtain ⟨y,_,rfl⟩:=hx
  rw [List.getElem?_map,Option.map_eq_some_iff] at hd
  obtain ⟨c,_,rfl⟩:=hd
  cases r with
  | im _ _ r=>exact .im _ _ (r.mono hok)
 have hone:∀ {o:Nat} {d:DObj},M''.objs[o]?=some d→o=0∧d=.vec sz (ims es) g nl:=fun {o d} h=>by
  have h8:=lt_of_getElem? h
  have:o=0:=by simp [M''] at h8;exact h8
  subst this
  simp only [M'',List.getElem?_cons_zero,Option.some.injEq] at h
  exact ⟨rfl,h.symm⟩
 have hR:RelO M'' 0 (.vec sz (ims es) g nl):=by
  obtain ⟨a1,a2⟩:=hm.objs k _ ho
  refine ⟨a1,fun hn=>?_⟩
  obtain ⟨b0,c,T,b1,b2,b3,b4⟩:=a2 hn
  exact ⟨b0,c,T,b1,b2,b3,fun i x j d v hx hd hcv=>hel i x hx j d v hd (b4 i x j d v hx hd hcv)⟩
 refine ⟨v,.one (.vec 0 g 0 len),M'',rfl,rfl,⟨fun o d h=>?_,fun o d h hb=>?_,fun o o' d d' h h' _ _ _=>?_,fun g' l hg=>(hm.glob g' l hg).mono hok,hm.fl,fun o d h hb=>?_⟩,?_,?_,g,len,sz,es,nl,rfl,rfl,hq⟩
 ·obtain ⟨rfl,rfl⟩:=hone h;exact hR
 ·obtain ⟨rfl,rfl⟩:=hone h;exact hm.lt k _ ho hb
 ·obtain ⟨rfl,rfl⟩:=hone h;obtain ⟨rfl,rfl⟩:=hone h';rfl
 ·obtain ⟨rfl,rfl⟩:=hone h;exact hm.own k _ ho hb
 ·cases hv with
  | one _ _ hc=>cases hc with
    | vec _ _ _ _ _ c1 c2 c3 =>
      refine .one _ _ (.vec _ _ _ _ _ c1 (by simp [M'']) fun sz1 es1 g1 nl1 h5=>?_)
      simp only [M'',List.getElem?_cons_zero,Option.some.injEq] at h5
      injection h5 with e1 e2 e3 e4
      subst e1;subst e2;subst e3;subst e4
      exact c3 _ _ _ _ ho
 ·refine ⟨by simp,fun b hb=>⟨hfree b (he.free b hb).1,(he.free b hb).2⟩,he.other,he.hs,fun o h=>by simp at h,fun o h=>by simp at h,fun o h=>by simp at h,fun o h=>by simp at h,fun o h=>by simp at h,fun o h=>by simp at h,he.io⟩
end
end Go.Ab
namespace Go.Ab
open Go
section
variable {P:Program} {G:Nat→Option (List IC)} {n:Cx} {S:DS} {Q:Exit→DS→Prop}
def evalR (G:Nat→Option (List IC)) (S:DS):Operand→Option DV
 | .const (.slice none 0 0)=>some (.one (.im (.raw (.slice none 0 0))))
 | x=>evalG G S x
def evalsR (G:Nat→Option (List IC)) (S:DS):List Operand→Option (List DV)
 | []=>some []
 | x :: r=>match evalR G S x,evalsR G S r with
   | some d,some l=>some (d :: l)
   | _,_=>none
def stepR (P:Program) (G:Nat→Option (List IC)) (S:DS) (op:Op) (ty:TypeId):Out:=match kindOf op with
 | .call x xs=>match evalG G S x,evalsR G S xs with
   | some d,some as=>outC (dcallee d) as
   | _,_=>.bad
 | k=>stepK P G S op ty k
def RTr (P:Program) (G:Nat→Option (List IC)) (dsts:List (Option Tmp)):List Oper→DS→(K:DS→Prop)→Tok K→Prop
 | [],S,K,_=>K S
 | o :: l,S,K,tk=>Want (wantedA dsts S o)
  (Next P G S.objs (stepR P G S o.op o.type) (fun d objs'=>RTr P G dsts l (DS.put { S with objs:=objs' } o.dst d) K tk) ⟨⟩)
  (RTr P G dsts l (S.put o.dst (.tup [])) K tk) ⟨⟩
end
attribute [simp] RTr stepR evalR evalsR
end Go.Ab
namespace Go.Ab
open Go
end Go.Ab
