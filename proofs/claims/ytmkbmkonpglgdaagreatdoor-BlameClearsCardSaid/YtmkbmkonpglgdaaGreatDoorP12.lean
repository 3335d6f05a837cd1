/- Part 12 of the proofs: laws and walks that hold without conditions beyond those that each theorem names. -/
import Derived.Test.YtmkbmkonpglgdaaGreatDoorP09
import Derived.Test.YtmkbmkonpglgdaaGreatDoorP11
set_option linter.all false
set_option linter.deprecated false
namespace Go.Ab
open Go
inductive FlV:DV→Prop
 | one (v:Value):FlV (.one (.im (.raw v)))
 | agg (l:List DC):(∀ d∈l,∃ v,d=.im (.raw v))→FlV (.agg l)
 | tup (l:List DV):(∀ d∈l,FlV d)→FlV (.tup l)
theorem RepV.flat {M M':MS} {d:DV} {v:Value} (r:RepV M d v) (hf:FlV d):RepV M' d v:=by
 induction r with
 | one c v hc =>
   cases hf
   cases hc with
   | im _ _ hc=>cases hc with
     | raw _ h=>exact .one _ _ (.im _ _ (.raw _ h))
 | agg l cs h1 h2 =>
   cases hf with
   | agg _ hall =>
     refine .agg _ _ h1 fun j c v hj hv=>?_
     obtain ⟨c0,rfl⟩:=hall c (List.mem_of_getElem? hj)
     cases h2 j _ v hj hv with
     | im _ _ hc=>cases hc with
       | raw _ h=>exact .im _ _ (.raw _ h)
 | tup l vs h1 _ ih =>
   cases hf with
   | tup _ hall=>exact .tup _ _ h1 fun j d v hj hv=>ih j d v hj hv (hall d (List.mem_of_getElem? hj))
theorem FlV_agg (l:List DC):FlV (.agg l)↔∀ d∈l,∃ v,d=.im (.raw v):=⟨fun h=>by cases h;assumption,.agg l⟩
theorem FlV_tup (l:List DV):FlV (.tup l)↔∀ d∈l,FlV d:=⟨fun h=>by cases h;assumption,.tup l⟩
attribute [simp] FlV.one FlV_agg FlV_tup
section
variable {P:Program} {G:Nat→Option (List IC)}
theorem DCall.thaw {f:FuncId} {args args0:List DV} {d0:DV} {objs:List DObj} (h:∀ objs,DCall P G f args0 objs (fun d o=>d=d0∧o=objs)) (ha:args0=args.map (fzV 0 objs)) (hd:FlV d0) :
 DCall P G f args objs (fun d objs'=>d=d0∧objs'=objs):=by
 intro M vs hm hob hvs hrep
 subst hob
 have hm0:=hm.drop (Nat.zero_le M.objs.length)
 refine (h [] (M.drop 0) vs hm0 (by simp [MS.drop,dropO]) (by rw [ha];simpa using hvs) fun j d v hd hv=>?_).mono ?_
 ·rw [ha,List.getElem?_map,Option.map_eq_some_iff] at hd
  obtain ⟨d1,h1,rfl⟩:=hd
  exact (hrep j d1 v h1 hv).drop hm (Nat.zero_le _)
 rintro e w' ⟨v,d,M1,rfl,rfl,hm1,hv,he,rfl,hq⟩
 have same:∀ b,b < M.w.heap.size→b < M1.w.heap.size∧M1.w.heap[b]?=M.w.heap[b]?:=fun b hb=>by
  have:=he.free b ⟨hb,fun ⟨o,d,h1,_⟩=>by simp [MS.drop,dropO] at h1⟩
  exact ⟨this.1.1,this.2⟩
 have hext:Ext M.objs.length M { w:=M1.w,β:=M.β,objs:=M.objs,F:=M.F }:=by
  refine ⟨Nat.le_refl _,fun b hb=>⟨⟨(same b hb.1).1,hb.2⟩,(same b hb.1).2⟩,Fsame M,he.hs,fun o _ c' hc=>⟨⟨c',hc⟩,rfl⟩,fun o _ sz es g nl hv=>⟨sz,es,g,nl,hv,Nat.le_refl _,fun _=>⟨rfl,rfl,fun hn=>⟨rfl,?_⟩⟩⟩,fun o _ ks es hc=>⟨⟨ks,es,hc⟩,rfl⟩,fun o _ r hc=>⟨⟨r,hc⟩,rfl⟩,fun o _ d hc hi=>⟨⟨d,hc,hi⟩,rfl⟩,fun o _ r hc=>⟨⟨r,hc⟩,rfl⟩,he.io⟩
  simp only [bsize]
  rw [(same _ (hm.lt o _ hv (by simp [DObj.blk,hn]))).2]
 exact ⟨v,d,{ w:=M1.w,β:=M.β,objs:=M.objs,F:=M.F },rfl,rfl,
  ⟨fun o d ho=>(hm.objs o d ho).ext hext (fun _=>rfl) (fun hb=>(same _ (hm.lt o d ho hb)).2),fun o d ho hb=>(same _ (hm.lt o d ho hb)).1,hm.inj,fun g l hg=>(hm.glob g l hg).mono hext.ok,
   fun b hb=>(same b (hm.fl b hb)).1,hm.own⟩,hv.flat hd,hext,rfl,rfl⟩
theorem CallE.thaw {f:FuncId} {args args0:List DV} {d0:DV} {objs:List DObj} {Q:DV→List DObj→Prop} {t:Tok Q} (h:∀ objs,DCall P G f args0 objs (fun d o=>d=d0∧o=objs)) (ha:args0=args.map (fzV 0 objs)) (hd:FlV d0) (hq:Q d0 objs):CallE P G f args objs Q t:=
 (DCall.thaw h ha hd).mono fun d' objs' ⟨h1,h2⟩=>by rw [h1,h2];exact hq
theorem CallE.here {f:FuncId} {args:List DV} {d0:DV} {objs:List DObj} {Q:DV→List DObj→Prop} {t:Tok Q} (h:DCall P G f args objs (fun d o=>d=d0∧o=objs)) (hq:Q d0 objs):CallE P G f args objs Q t:=
 h.mono fun d' objs' ⟨h1,h2⟩=>by rw [h1,h2];exact hq
theorem RepC.fnOf {M:MS} {g:Fn} {cs:List IC} {v:Value} (h:RepC M (.im (.fn g cs)) v):RepC M (.fn g (cs.map .im)) v:=by
 cases h with
 | im _ _ h=>cases h with
   | fn _ _ vs h1 h2 =>
     refine .fn g _ vs (by simpa using h1) fun j c v hj hv=>?_
     rw [List.getElem?_map,Option.map_eq_some_iff] at hj
     obtain ⟨c0,h3,rfl⟩:=hj
     exact .im _ _ (h2 j c0 v h3 hv)
theorem DCall.fnArg2 {f:FuncId} {a:DV} {g:Fn} {cs:List IC} {objs:List DObj} {Q:DV→List DObj→Prop} (h:DCall P G f [a,.one (.fn g (cs.map .im))] objs Q):DCall P G f [a,.one (.im (.fn g cs))] objs Q:=by
 intro M vs hm hob hvs hrep
 refine h M vs hm hob hvs fun j d v hd hv=>?_
 match j with
 | 0=>exact hrep 0 d v hd hv
 | 1 =>
   simp at hd;subst hd
   have:=hrep 1 _ v rfl hv
   cases this with
   | one _ _ hc=>exact .one _ _ hc.fnOf
 | j + 2=>simp at hd
end
end Go.Ab
namespace Go.Ab
open Go
section
variable {P:Program} {G:Nat→Option (List IC)} {S:DS}
def gones (k:Nat):List DObj:=List.replicate k .gone
theorem gone_add {G:Nat→Option (List IC)} {M:MS} (hm:RelM G M):∀ k,RelM G { M with objs:=M.objs ++ gones k }∧Ext M.objs.length M { M with objs:=M.objs ++ gones k }
 | 0=>by simp only [gones,List.replicate_zero,List.append_nil];exact ⟨hm,Ext.refl M⟩
 | k + 1=>by
   obtain ⟨h1,h2⟩:=gone_add hm k
   have e:({ M with objs:=M.objs ++ gones (k + 1) }:MS)=MS.idle { M with objs:=M.objs ++ gones k } .gone:=by
    simp only [MS.idle,gones,List.replicate_succ',List.append_assoc]
   rw [e]
   exact ⟨h1.idle rfl trivial,h2.trans ((Ext.idle rfl).weaken (by simp))⟩
theorem DCall.freeze {f:FuncId} {args args0:List DV} {objs o1:List DObj} {d0:DV} (m:Nat) (h:DCall P G f args0 (dropO m objs) (fun d o=>d=d0∧o=o1)) (hm:m≤objs.length) (hl:o1.length=m)
 (ha:args0=args.map (fzV m objs)) (hnl:∀ o r,m≤o→objs[o]?≠some (.loop r)) :
 DCall P G f args objs (fun d o=>d=d0∧o=o1 ++ gones (objs.length - m)):=by
 intro M vs hM hob hvs hrep
 subst hob
 have hlen:(dropO m M.objs).length=m:=by simp [dropO];omega
 refine (h (M.drop m) vs (hM.drop hm) rfl (by rw [ha];simpa using hvs) fun j d v hd hv=>?_).mono ?_
 ·rw [ha,List.getElem?_map,Option.map_eq_some_iff] at hd
  obtain ⟨d1,h1,rfl⟩:=hd
  exact (hrep j d1 v h1 hv).drop hM hm
 rintro e w' ⟨v,d,M1,rfl,rfl,hm1,hv,he,rfl,hq⟩
 rw [hlen] at he
 obtain ⟨g1,g2⟩:=gone_add hm1 (M.objs.length - m)
 have hl1:M1.objs.length=m:=by rw [hq];exact hl
 have hall:Ext m M { M1 with objs:=M1.objs ++ gones (M.objs.length - m) }:=(Ext.drop hm).trans (he.trans (g2.weaken (by omega)))
 have hg:∀ o,m≤o→∀ d,(M1.objs ++ gones (M.objs.length - m))[o]?=some d→d=.gone:=fun o ho d hd=>by
  rw [List.getElem?_append_right (by omega)] at hd
  simp only [gones,List.getElem?_replicate] at hd
  split at hd<;>simp_all
 refine ⟨v,d,{ M1 with objs:=M1.objs ++ gones (M.objs.length - m) },rfl,rfl,g1,hv.ext g2,?_,rfl,by rw [hq]⟩
 refine ⟨by simp [gones];omega,hall.free,hall.other,hall.hs,fun o ho c' hc=>?_,fun o ho sz es' g nl hc=>?_,fun o ho ks es' hc=>?_,fun o ho r' hc=>?_,fun o ho d' hc hit=>?_,fun o ho r hc=>?_,hall.io⟩
 all_goals rcases Nat.lt_or_ge o m with hlt|hge
 ·exact hall.row o hlt c' hc
 ·cases hg o hge _ hc
 ·exact hall.vec o hlt sz es' g nl hc
 ·cases hg o hge _ hc
 ·exact hall.map o hlt ks es' hc
 ·cases hg o hge _ hc
 ·exact hall.lp o hlt r' hc
 ·cases hg o hge _ hc
 ·exact hall.it o hlt d' hc hit
 ·rw [hg o hge _ hc] at hit;cases hit
 ·exact hall.lp' o hlt r hc
 ·exact absurd hc (hnl o r hge)
def noLoop:DObj→Bool
 | .loop _=>false
 | _=>true
theorem CallE.freeze {f:FuncId} {args args0:List DV} {objs objs0 o1:List DObj} {d0:DV} {Q:DV→List DObj→Prop} {t:Tok Q} (m:Nat) (h:DCall P G f args0 objs0 (fun d o=>d=d0∧o=o1)) (ho:objs0=dropO m objs) (ha:args0=args.map (fzV m objs)) (hm:m≤objs.length) (hl:o1.length=m)
 (hnl:(objs.drop m).all noLoop=true) (hq:Q d0 (o1 ++ gones (objs.length - m))):CallE P G f args objs Q t:=
 (DCall.freeze m (ho ▸ h) hm hl ha fun o r h1 h2=>by
  have h3:(objs.drop m)[o - m]?=some (.loop r):=by rw [List.getElem?_drop,show m + (o - m)=o by omega];exact h2
  have:=List.all_eq_true.1 hnl _ (List.mem_of_getElem? h3)
  cases this).mono fun d o ⟨h1,h2⟩=>by rw [h1,h2];exact hq
def nilV (objs:List DObj):DV→DV
 | .one (.vec o g off len)=>match objs[o]? with
   | some (.vec _ _ g' nl)=>if g=g'∧nl=true then .one (.im (.raw (.slice none 0 0))) else .one (.vec o g off len)
   | _=>.one (.vec o g off len)
 | d=>d
theorem RepV.nilV {M:MS} {d:DV} {v:Value} (r:RepV M d v):RepV M (nilV M.objs d) v:=by
 cases r with
 | one c v hc =>
   cases hc with
   | vec o g off len v h1 h2 h3 =>
     simp only [Go.Ab.nilV]
     split
     ·rename_i sz es g' nl ho
      split
      ·rename_i h4
       obtain ⟨rfl,rfl⟩:=h4
       obtain ⟨_,_,rfl⟩:=((h3 _ _ _ _ ho).2 rfl).1 rfl
       exact .one _ _ (.im _ _ (.raw _ rfl))
      ·exact .one _ _ (.vec o g off len v h1 h2 h3)
     ·exact .one _ _ (.vec o g off len v h1 h2 h3)
   | im c v h=>exact .one _ _ (.im c v h)
   | ptr o off v h1 h2 h3=>exact .one _ _ (.ptr o off v h1 h2 h3)
   | ept o g i off v h1 h2 h3=>exact .one _ _ (.ept o g i off v h1 h2 h3)
   | fn f cs vs h1 h2=>exact .one _ _ (.fn f cs vs h1 h2)
   | map o v h1 h2 h3=>exact .one _ _ (.map o v h1 h2 h3)
   | yld o v h1 h2 h3=>exact .one _ _ (.yld o v h1 h2 h3)
   | itr o v h1 h2 h3=>exact .one _ _ (.itr o v h1 h2 h3)
   | dead v h1=>exact .one _ _ (.dead v h1)
 | agg l cs h1 h2=>exact .agg l cs h1 h2
 | tup l vs h1 h2=>exact .tup l vs h1 h2
theorem DCall.nil {f:FuncId} {args:List DV} {objs:List DObj} {Q:DV→List DObj→Prop} (h:DCall P G f args objs (fun d objs'=>Q (nilV objs' d) objs')):DCall P G f args objs Q:=
 fun M vs h1 h2 h3 h4=>(h M vs h1 h2 h3 h4).mono fun _ _ ⟨v,d,M',a1,a2,a3,a4,a5,a6⟩=>⟨v,nilV M'.objs d,M',a1,a2,a3,a4.nilV,a5,a6⟩
def emptyV (objs:List DObj):DV→DV
 | .one (.vec o g off 0)=>match objs[o]? with
   | some (.vec _ _ g' _)=>if g=g' then .one (.im (.sl [])) else .one (.vec o g off 0)
   | _=>.one (.vec o g off 0)
 | d=>d
theorem RepV.emptyV {M:MS} {d:DV} {v:Value} (r:RepV M d v):RepV M (emptyV M.objs d) v:=by
 unfold Go.Ab.emptyV
 split
 ·rename_i o g off
  split
  ·rename_i sz es g' nl ho
   split
   ·rename_i h4
    subst h4
    cases r with
    | one _ _ hc=>cases hc with
      | vec _ _ _ _ _ h1 h2 h3 =>
        obtain ⟨h5,h6⟩:=(h3 _ _ _ _ ho).2 rfl
        cases nl with
        | true =>
          obtain ⟨_,_,rfl⟩:=h5 rfl
          exact .one _ _ (.im _ _ .slnil)
        | false =>
          obtain ⟨x,cap,rfl,_⟩:=h6 rfl
          exact .one _ _ (.im _ _ (.slz _ _))
   ·exact r
  ·exact r
 ·exact r
theorem CallE.empty {f:FuncId} {args args':List DV} {objs:List DObj} {Q:DV→List DObj→Prop} {t:Tok Q} (ha:args'=args.map (emptyV objs)) (h:CallE P G f args' objs Q t):CallE P G f args objs Q t:=by
 intro M vs hM hob hvs hrep
 subst ha
 refine h M vs hM hob (by simpa using hvs) fun j d v hd hv=>?_
 rw [List.getElem?_map,Option.map_eq_some_iff] at hd
 obtain ⟨d1,h1,rfl⟩:=hd
 rw [← hob]
 exact (hrep j d1 v h1 hv).emptyV
def nilX (objs:List DObj):DV→DV×List DObj
 | .one (.im (.raw (.slice none 0 0)))=>(.one (.vec objs.length 0 0 0),objs ++ [.vec 1 [] 0 true])
 | d=>(d,objs)
theorem CallE.idle {f:FuncId} {args:List DV} {objs:List DObj} {Q:DV→List DObj→Prop} {t:Tok Q} (h:CallE P G f args objs (fun d o=>Q (nilX o d).1 (nilX o d).2) ⟨⟩):CallE P G f args objs Q t:=by
 intro M vs h1 h2 h3 h4
 refine (h M vs h1 h2 h3 h4).mono fun _ _ ⟨v,d,M',a1,a2,a3,a4,a5,a6⟩=>?_
 have a7:Q (nilX M'.objs d).1 (nilX M'.objs d).2:=a6
 clear a6
 generalize hx:nilX M'.objs d=x at a7
 unfold nilX at hx
 split at hx
 ·subst hx
  refine ⟨v,_,M'.idle (.vec 1 [] 0 true),a1,a2,a3.idle rfl ⟨fun _=>rfl,(fun h=>by cases h)⟩,?_,a5.trans ((Ext.idle rfl).weaken a5.len),a7⟩
  cases a4 with
  | one _ _ hc=>cases hc with
    | im _ _ hc=>cases hc with
      | raw _ hv =>
        refine .one _ _ (.vec _ _ _ _ _ rfl (by simp [MS.idle]) fun sz es g nl ho=>?_)
        have:(M'.idle (DObj.vec 1 [] 0 true)).objs[M'.objs.length]?=some (DObj.vec 1 [] 0 true):=by simp [MS.idle]
        rw [this] at ho
        cases ho
        exact ⟨Nat.le_refl _,fun _=>⟨fun _=>⟨rfl,rfl,rfl⟩,(fun h=>by cases h)⟩⟩
 ·subst hx
  exact ⟨v,d,M',a1,a2,a3,a4,a5,a7⟩
end
end Go.Ab
namespace Go.Ab
open Go
def reO (p:List Nat) (o:Oper):Oper:={ dst:=o.dst,op:=o.op,type:=o.type,pos:=o.pos,after:=o.after.map fun e=>{ on:=p.idxOf e.on,ground:=e.ground },guard:=o.guard }
def permL (p:List Nat) (l:List Oper):List Nat→List Oper
 | []=>[]
 | k :: r=>match l[k]? with
   | some o=>reO p o :: permL p l r
   | none=>permL p l r
def permOk (p:List Nat) (l:List Oper):Bool:=
 decide (p.length=l.length) && p.Nodup && (p.all fun k=>decide (k < l.length)) && (l.all fun o=>o.guard.isNone) && ((List.range l.length).all fun k=>p.contains k)
theorem permL_get {p:List Nat} {l:List Oper}:∀ {q:List Nat},(∀ k∈q,k < l.length)→∀ i:Nat,(permL p l q)[i]?=(q[i]?).bind fun (k:Nat)=>(l[k]?).map (reO p)
 | [],_,i=>by simp [permL]
 | k :: r,h,i=>by
   have hk:l[k]?=some (l[k]'(h k (by simp))):=List.getElem?_eq_getElem _
   simp only [permL,hk]
   cases i with
   | zero=>simp [hk]
   | succ i=>simpa using permL_get (q:=r) (fun k hk=>h k (by simp [hk])) i
theorem permL_len {p:List Nat} {l:List Oper}:∀ {q:List Nat},(∀ k∈q,k < l.length)→(permL p l q).length=q.length
 | [],_=>rfl
 | k :: r,h=>by
   have hk:l[k]?=some (l[k]'(h k (by simp))):=List.getElem?_eq_getElem _
   simp only [permL,hk,List.length_cons]
   rw [permL_len fun k hk=>h k (by simp [hk])]
theorem getD_same {L:Array Bool} {i:Nat} (h:i < L.size):L.getD i true=L.getD i false:=by
 simp [h]
section
variable {P:Program} {p:List Nat} {l:List Oper} {F:Fence} {n:Nat} {Q:Exit→Act→World→Prop}
structure PermOk (p:List Nat) (l:List Oper):Prop where
 len:p.length=l.length
 nd:p.Nodup
 lt:∀ k∈p,k < l.length
 gd:∀ o∈l,o.guard=none
 sur:∀ k,k < l.length→k∈p
theorem permOk_spec (h:permOk p l=true):PermOk p l:=by
 simp only [permOk,Bool.and_eq_true,decide_eq_true_eq,List.all_eq_true,List.mem_range,List.contains_iff_mem,Option.isNone_iff_eq_none] at h
 obtain ⟨⟨⟨⟨h1,h2⟩,h3⟩,h4⟩,h5⟩:=h
 exact ⟨h1,h2,h3,h4,h5⟩
theorem ready_perm (hp:PermOk p l) {L L':Array Bool} (hL:L.size=l.length) (hL':L'.size=l.length) (hR:∀ i k,p[i]?=some k→L'.getD i false=L.getD k false) {i k:Nat} (h:p[i]?=some k) :
 i∈Region.ready .any (permL p l p).toArray L'↔k∈Region.ready .any l.toArray L:=by
 have hi:i < p.length:=lt_of_getElem? h
 have hk:k < l.length:=hp.lt k (List.mem_of_getElem? h)
 have e2:l[k]?=some l[k]:=List.getElem?_eq_getElem hk
 have e1:(permL p l p)[i]?=some (reO p l[k]):=by rw [permL_get hp.lt,h,Option.bind_some,e2,Option.map_some]
 have hlen:(permL p l p).length=p.length:=permL_len hp.lt
 simp only [Region.ready,List.mem_filter,List.mem_range,List.size_toArray,hlen,List.getElem?_toArray,e1,e2,Option.map_some,Option.getD_some,Bool.and_eq_true,hi,hk,true_and]
 rw [getD_same (by rw [hL',← hp.len];exact hi),getD_same (by rw [hL];exact hk),hR i k h]
 refine and_congr_right fun _=>?_
 have hall:((reO p l[k]).after.all fun e=>!Region.binds .any e || L'.getD e.on false)=(l[k].after.all fun e=>!Region.binds .any e || L.getD e.on false):=by
  simp only [reO,Array.all_map]
  congr 1
  funext e
  have hb:Region.binds .any { on:=p.idxOf e.on,ground:=e.ground }=Region.binds .any e:=by cases e;rfl
  have hg:L'.getD (p.idxOf e.on) false=L.getD e.on false:=by
   by_cases hm:e.on∈p
   ·exact hR _ _ (by rw [List.getElem?_eq_getElem (List.idxOf_lt_length_of_mem hm)];simp)
   ·have h1:¬ e.on < l.length:=fun hlt=>hm (hp.sur _ hlt)
    rw [List.idxOf_eq_length hm,hp.len]
    simp [Array.getD,hL,hL',h1]
  simp only [Function.comp_apply,hb,hg]
 rw [hall]
theorem wpAny_perm (hp:PermOk p l):∀ (f:Nat) (L L':Array Bool) (a:Act) (w:World),L.size=l.length→L'.size=l.length→(∀ i k,p[i]?=some k→L'.getD i false=L.getD k false) →
 wpAnyIn F n P .any (permL p l p).toArray Q f L' a w→wpAnyIn F n P .any l.toArray Q f L a w:=by
 have back:∀ {L:Array Bool} {k:Nat},k∈Region.ready .any l.toArray L→∃ i,p[i]?=some k:=fun hk=>by
  simp only [Region.ready,List.mem_filter,List.mem_range,List.size_toArray] at hk
  exact List.mem_iff_getElem?.1 (hp.sur _ hk.1)
 have forth:∀ {L':Array Bool} {i:Nat},i∈Region.ready .any (permL p l p).toArray L'→∃ k,p[i]?=some k:=fun hi=>by
  simp only [Region.ready,List.mem_filter,List.mem_range,List.size_toArray,permL_len hp.lt] at hi
  exact ⟨_,List.getElem?_eq_getElem hi.1⟩
 have nil:∀ {L L':Array Bool},L.size=l.length→L'.size=l.length→(∀ i k,p[i]?=some k→L'.getD i false=L.getD k false)→(Region.ready .any (permL p l p).toArray L'=[]↔Region.ready .any l.toArray L=[]):=fun {L L'} hL hL' hR=>by
  simp only [List.eq_nil_iff_forall_not_mem]
  constructor
  ·intro h k hk
   obtain ⟨i,hi⟩:=back hk
   exact h i ((ready_perm hp hL hL' hR hi).2 hk)
  ·intro h i hi
   obtain ⟨k,hk⟩:=forth hi
   exact h k ((ready_perm hp hL hL' hR hk).1 hi)
 intro f
 induction f with
 | zero=>exact fun L L' a w hL hL' hR h=>⟨(nil hL hL' hR).1 h.1,h.2⟩
 | succ f ih =>
   intro L L' a w hL hL' hR h
   refine ⟨fun h0=>h.1 ((nil hL hL' hR).2 h0),fun k hk=>?_⟩
   obtain ⟨i,hi⟩:=back hk
   have h1:=h.2 i ((ready_perm hp hL hL' hR hi).2 hk)
   have hkl:k < l.length:=hp.lt k (List.mem_of_getElem? hi)
   have hip:i < p.length:=lt_of_getElem? hi
   have e2:l[k]?=some l[k]:=List.getElem?_eq_getElem hkl
   have e1:(permL p l p)[i]?=some (reO p l[k]):=by rw [permL_get hp.lt,hi,Option.bind_some,e2,Option.map_some]
   have hg:l[k].guard=none:=hp.gd _ (List.getElem_mem hkl)
   have hw:∀ o y,o.guard=none→Region.wanted o y=true:=fun o y h=>by simp [Region.wanted,h]
   unfold wpOpIn at h1 ⊢
   simp only [List.getElem?_toArray,e1,hw (reO p l[k]) _ hg,if_true] at h1
   simp only [List.getElem?_toArray,e2,hw _ _ hg,if_true]
   have h2:l[k].wpIn F n P a w (wpAnyIn F n P .any (permL p l p).toArray Q f (L'.setIfInBounds i true)) Q:=h1
   refine Oper.wpIn_mono (fun a w hh=>ih _ _ a w (by simpa using hL) (by simpa using hL') (fun i' k' hi'=>?_) hh) h2
   have hne:i=i'↔k=k':=⟨fun e=>by subst e;rw [hi] at hi';exact Option.some.inj hi',fun e=>by
    subst e
    have hip':i' < p.length:=lt_of_getElem? hi'
    have g1:p[i]=k:=by rw [List.getElem?_eq_getElem hip] at hi;exact Option.some.inj hi
    have g2:p[i']=k:=by rw [List.getElem?_eq_getElem hip'] at hi';exact Option.some.inj hi'
    rcases Nat.lt_trichotomy i i' with h|h|h
    ·exact absurd (g1.trans g2.symm) (List.pairwise_iff_getElem.1 hp.nd i i' hip hip' h)
    ·exact h
    ·exact absurd (g2.trans g1.symm) (List.pairwise_iff_getElem.1 hp.nd i' i hip' hip h)⟩
   have h3:=hR i' k' hi'
   by_cases e:i=i'
   ·have e':=hne.1 e
    subst e;subst e'
    have h4:i < L'.size:=by rw [hL',← hp.len];exact hip
    have h5:k < L.size:=by rw [hL];exact hkl
    simp [Array.getElem?_setIfInBounds,h4,h5]
   ·have e':k≠k':=fun h=>e (hne.2 h)
    simp only [Array.getD_eq_getD_getElem?,Array.getElem?_setIfInBounds_ne e,Array.getElem?_setIfInBounds_ne e'] at h3 ⊢
    exact h3
end
end Go.Ab
namespace Go.Ab
open Go
section
variable {P:Program} {G:Nat→Option (List IC)}
theorem stageY {l:List Oper} {nt:Nat} {objs:List DObj} {Sq:DS} {ks fl kt:List Nat} {Mb M2:MS} {base listed:Array Bool} {dfs:List Deferred} {f i:Nat} {a2:Act} {oj:Oper} {ro:Option Nat} {KK:DS→Prop} {Q':Exit→Act→World→Prop}
 (hd:dstsOk nt l.toArray) (hnt:Sq.nt=nt) (hob:Sq.objs=objs) (hi:Inv P G nt objs l.toArray ks (tget Sq.tmps) Mb base dfs (f + 1) listed a2 M2)
 (hrdy:i∈Region.ready .any l.toArray listed) (hoj:l[i]?=some oj) (hg:oj.guard=none) (hfl:∀ k∈fl,k∈ks) (hik:i∉ks) (hpl:∀ k∈ks,k∉fl→listed.getD k false=true)
 (hdf:distinct ((pick l fl).map (·.dst))=true) (hnl:noLook l.toArray (pick l fl)=true) (hlt:∀ k∈ks,k < l.length) (hnoal:∀ k∈ks,∀ o,l.toArray[k]?=some o→∀ t,o.op≠.alloc t)
 (hkt:((pick l fl).all fun o=>match o.dst with|some u=>!kt.contains u|none=>true)=true)
 (hkq:RTe P G (l.map (·.dst)) [oj] (Sq.keep kt) (fun S'=>RXe P G (l.map (·.dst)) (pick l fl) S' (fun Sf=>sameAt (dstL (pick l fl)) Sf.tmps Sq.tmps∧KK Sf) ⟨⟩) ⟨⟩)
 (hnext:∀ (Sf:DS) (a3:Act) (M3:MS),KK Sf→Sf.nt=nt→Sf.objs=M3.objs→Ext objs.length M2 M3→(∀ k∈fl,∃ o d,l.toArray[k]?=some o∧OpS P G nt M3.objs l.toArray o d (tget Sf.tmps)∧∀ u,o.dst=some u→tget Sf.tmps u=some d) →
  Inv P G nt M3.objs l.toArray fl (tget Sf.tmps) M3 (listed.setIfInBounds i true) dfs f (listed.setIfInBounds i true) a3 M3→wpAnyIn (fenceR ro) 0 P .any l.toArray Q' f (listed.setIfInBounds i true) a3 M3.w) :
 wpOpIn (fenceR ro) 0 P l.toArray Q' i (wpAnyIn (fenceR ro) 0 P .any l.toArray Q' f (listed.setIfInBounds i true)) a2 M2.w:=by
 have hoj':l.toArray[i]?=some oj:=by simpa using hoj
 have hrk:Rel G (Sq.keep kt) a2 M2:=by
  refine ⟨hi.rel.m,hi.rel.ob.trans hob.symm,hi.rel.nt.trans hnt.symm,hi.rel.df,fun t d ht=>hi.rel.tm t d ?_⟩
  have h1:=sel_mem ht
  have h2:=sel_get ht
  unfold maskT
  rw [if_pos]
  ·exact h2
  ·intro k hk o ho hu
   by_cases hf:k∈fl
   ·have:=List.all_eq_true.1 hkt o (pick_mem hf (by simpa using ho))
    rw [hu] at this
    simp at this
    exact absurd h1 this
   ·exact hpl k hk hf
 obtain ⟨b,hw,ht,_⟩:=RTe_sound _ _ _ hkq
 have hbt:b=true:=by
  unfold wantedA at hw
  rw [hg] at hw
  exact (Option.some.inj hw).symm
 subst hbt
 have hwant:Region.wanted oj (yielded l.toArray a2.tmps)=true:=by simp [Region.wanted,hg]
 unfold wpOpIn
 simp only [hoj',hwant,if_true]
 refine wpIn_turn (wpIn_put (ht rfl ro a2 M2 hrk)) ?_
 rintro a3 w3 ⟨⟨S3,M3,rfl,r3,e3,d3,k3⟩,v,hput⟩
 have hsz3:S3.nt=nt:=by
  rw [← r3.nt,hput,← hi.rel.nt]
  cases oj.dst<;>simp [Act.put]
 have hob3:S3.objs=M3.objs:=r3.ob.symm
 have hpm:∀ o∈pick l fl,o∈l:=fun o ho=>let ⟨k,_,hk⟩:=mem_pick ho;List.mem_of_getElem? hk
 have hdst:∀ o∈l,∀ u,o.dst=some u→u < nt:=fun o ho u hu=>by
  obtain ⟨k,hk⟩:=List.mem_iff_getElem?.1 ho
  exact hd.1 k o (by simpa using hk) u hu
 obtain ⟨Sf,⟨hsame,hkf⟩,f1,f2,f3,f4⟩:=soup_of_RXe (P:=P) (G:=G) (ops:=l.toArray) (nt:=nt) (objs:=M3.objs) fl (pick l fl) S3 (Al_pick fun k hk=>hlt k (hfl k hk)) hsz3 hob3 (fun o ho=>hdst o (hpm o ho)) (distinct_spec hdf) hnl
  (by simpa using (show RXe P G (l.map (·.dst)) (pick l fl) S3 _ ⟨⟩ from k3))
 refine hnext Sf a3 M3 hkf f1 f2 (by rw [← hi.rel.ob];exact e3) f3 ?_
 refine ⟨by simpa using hi.sz,count_step (mem_ready.1 hrdy).1 hi.cn,hi.cl.step hrdy,⟨r3.m,rfl,by rw [r3.nt,hsz3],r3.df,fun t d ht=>?_⟩,Ext.refl M3,d3.trans hi.df,⟨fun _=>0,fun k o t u hk ho hop=>absurd hop (hnoal k (hfl k hk) o ho t),fun k m o o' t t' hk _ ho hop=>absurd hop (hnoal k (hfl k hk) o ho t)⟩,fun _ h=>.inl h,fun _ h=>h⟩
 unfold maskT at ht
 split at ht
 ·rename_i hvis
  by_cases hfd:∃ k∈fl,∃ o,l.toArray[k]?=some o∧o.dst=some t
  ·obtain ⟨k,hk,o,ho,hu⟩:=hfd
   have hki:k≠i:=fun e=>hik (e ▸ hfl k hk)
   have hkl:listed.getD k false=true:=(getD_set_true' (hvis k hk o ho hu)).resolve_left hki
   have h1:tget Sf.tmps t=tget Sq.tmps t:=sameAt_mem hsame (mem_dstL (pick_mem hk (by simpa using ho)) hu)
   obtain ⟨x,x1,x2⟩:=hi.rel.tm t d (by
    unfold maskT
    rw [if_pos]
    ·rw [← h1];exact ht
    ·intro m hm' o' ho' hu'
     have:=hd.2 k m o o' t ho ho' hu hu'
     subst this
     exact hkl)
   refine ⟨x,?_,x2.ext e3⟩
   rw [hput]
   cases hdj:oj.dst with
   | none=>exact x1
   | some y =>
     have hne:y≠t:=fun e=>hki (hd.2 i k oj o t hoj' ho (by rw [hdj,e]) hu).symm
     simp only [Act.put]
     rw [Array.getElem?_setIfInBounds_ne hne];exact x1
  ·have h1:tget Sf.tmps t=tget S3.tmps t:=f4 t fun o ho hu=>by
    obtain ⟨k,hk,hk'⟩:=mem_pick ho
    exact hfd ⟨k,hk,o,by simpa using hk',hu⟩
   exact r3.tm t d (by rw [← h1];exact ht)
 ·cases ht
end
end Go.Ab
namespace Go.Ab
open Go
section
variable (P:Program) (G:Nat→Option (List IC))
def ZK (l:List Oper) (K:DS→Prop):List (List Nat×List Nat)→Nat→DS→Prop
 | [],i,S=>RTe P G (l.map (·.dst)) (l.drop i) S K ⟨⟩
 | (fl,kt) :: r,i,Sq=>RTe P G (l.map (·.dst)) (pick l [i]) (Sq.keep kt) (fun S'=>RXe P G (l.map (·.dst)) (pick l fl) S' (fun Sf=>sameAt (dstL (pick l fl)) Sf.tmps Sq.tmps∧ZK l K r (i + 1) Sf) ⟨⟩) ⟨⟩
end
def zOkL (l:List Oper):List (List Nat×List Nat)→Nat→List Nat→Bool
 | [],i,_=>decide (0 < i) && decide (i≤l.length) && ((List.range l.length).all fun k=>decide (k < i) || (List.range i).all fun m=>((closL l []).getD k 0).testBit m) &&
  lexT l.toArray (l.length - i) i (upTo l.length (i - 1)) && decide ((upTo l.length (i - 1)).toList.count false=l.length - i)
 | (fl,kt) :: r,i,ks=>decide (i < l.length) && (fl.all fun k=>ks.contains k) && distinct ((pick l fl).map (·.dst)) && noLook l.toArray (pick l fl) &&
  ((List.range i).all fun m=>fl.contains m || ((closL l []).getD i 0).testBit m) && ((List.range l.length).all fun k=>decide (k≤i) || ((closL l []).getD k 0).testBit i) &&
  ((pick l fl).all fun o=>match o.dst with|some u=>!kt.contains u|none=>true) && (match l[i]? with|some o=>o.guard.isNone|none=>false) && zOkL l r (i + 1) fl
section
variable {P:Program} {G:Nat→Option (List IC)}
theorem chainZ {l:List Oper} {nt j:Nat} {n:Cx} {Q:Exit→DS→Prop} {kp:List Nat} {a:Act} {M:MS} {ro:Option Nat} (hd:dstsOk nt l.toArray) (hj:j≤l.length)
 (hdep:∀ i,i < j→∀ o,l.toArray[i]?=some o→∀ k,k < j→∀ o',l.toArray[k]?=some o'→∀ u,o'.dst=some u→u∈o.looksAt l.toArray→∃ e∈o.after,e.on=k∧Region.binds .any e=true)
 (hback:∀ (k:Nat) (o:Oper),l.toArray[k]?=some o→∀ e∈o.after,Region.binds .any e=true→e.on < k) (hmask:MaskOk l.toArray (closL l [])) (hnoal:∀ i,i < j→∀ o,l.toArray[i]?=some o→∀ t,o.op≠.alloc t) :
 ∀ (st:List (List Nat×List Nat)) (i:Nat) (ks:List Nat) (Sq:DS) (objs:List DObj) (Mb:MS) (base:Array Bool),zOkL l st i ks=true→(∀ k∈ks,k < j)→j≤i→Sq.nt=nt→Sq.objs=objs→n.n≤objs.length→Ext n.n M Mb →
  (∀ k∈ks,∃ o d,l.toArray[k]?=some o∧OpS P G nt objs l.toArray o d (tget Sq.tmps)∧∀ u,o.dst=some u→tget Sq.tmps u=some d) →
  (∀ k,base.getD k false=true→k < i)→(∀ k,k < i→k∉ks→base.getD k false=true)→ZK P G l (fun S''=>At Q .normal ⟨⟩ (S''.keep kp)) st i Sq →
  ∀ f listed a2 M2,Inv P G nt objs l.toArray ks (tget Sq.tmps) Mb base a.defers f listed a2 M2 →
   wpAnyIn (fenceR ro) 0 P .any l.toArray (fun e a' w'=>∃ S' M',M'.w=w'∧Rel G S' a' M'∧Ext n.n M M'∧NewD M a a'∧Q e S') f listed a2 M2.w:=by
 have unl:∀ {listed:Array Bool} {k:Nat},k∈Region.ready .any l.toArray listed→listed.getD k false≠true:=fun {listed k} hk e=>by
  have h0:=(mem_ready.1 hk).1
  rcases Nat.lt_or_ge k listed.size with h'|h'
  ·simp [h'] at h0 e;rw [h0] at e;cases e
  ·simp [Array.getElem?_eq_none h'] at e
 have alll:∀ {listed:Array Bool},listed.toList.count false=0→∀ m,m < listed.size→listed.getD m false=true:=fun {listed} h m hm'=>by
  have hnot:=List.count_eq_zero.1 h
  cases hv:listed[m] with
  | true=>simp [hm',hv]
  | false=>exact absurd (by rw [← hv];exact Array.getElem_mem_toList hm') hnot
 intro st
 induction st with
 | nil =>
   intro i ks Sq objs Mb base hz hks hji hnt hob hno hMb hY hb1 hb2 hK f listed a2 M2 hi
   simp only [zOkL,Bool.and_eq_true,decide_eq_true_eq] at hz
   obtain ⟨⟨⟨⟨z0,zl⟩,z1⟩,z2⟩,z3⟩:=hz
   have fin:∀ f' listed' a4 M4,Inv P G nt objs l.toArray ks (tget Sq.tmps) Mb base a.defers f' listed' a4 M4→(∀ k∈ks,listed'.getD k false=true) →
    wpAnyIn (fenceR ro) 0 P .any l.toArray (fun e a' w'=>∃ S' M',M'.w=w'∧Rel G S' a' M'∧Ext n.n M M'∧NewD M a a'∧Q e S') f' listed' a4 M4.w:=by
    intro f' listed' a4 M4 hi4 hfl4
    have hL:listed'=upTo l.length (i - 1):=by
     refine upTo_eq (by simpa using hi4.sz) fun k hk=>⟨fun hkl=>?_,fun hkl=>?_⟩
     ·rcases hi4.only k hkl with h1|h1
      ·have:=hb1 k h1;omega
      ·have:=hks k h1;omega
     ·by_cases hkf:k∈ks
      ·exact hfl4 k hkf
      ·exact hi4.has k (hb2 k (by omega) hkf)
    have hf':f'=(l.drop i).length:=by rw [← hi4.cn,hL,z3];simp
    have hrel:Rel G Sq a4 M4:=⟨hi4.rel.m,by rw [hi4.rel.ob,hob],by rw [hi4.rel.nt,hnt],hi4.rel.df,fun t d ht=>hi4.rel.tm t d (by
     unfold maskT
     rw [if_pos]
     ·exact ht
     ·exact fun k hk _ _ _=>hfl4 k hk)⟩
    have hn4:n.n≤M4.objs.length:=by rw [hi4.rel.ob];exact hno
    have eM4:Ext n.n M M4:=hMb.trans (hi4.ext.weaken hno)
    rw [hf',hL]
    refine wpAny_of_RT (P:=P) (G:=G) (ops:=l.toArray) (ro:=ro) n.n (fun S''=>At Q .normal ⟨⟩ (S''.keep kp)) (l.drop i) i _ Sq a4 M4 (fun k hk=>by simp) (by rw [List.length_drop];exact z2) hrel hn4 (by simpa using RTe_sound _ _ _ hK) ?_
    intro S5 a5 M5 hr5 he5 hd5 hq5
    obtain ⟨M6,w6,r6,e6⟩:=Weak.keep (G:=G) (n:=n) (S:=S5) (ks:=kp) (by rw [← hr5.ob];exact he5.len) a5 M5 hr5
    exact ⟨_,M6,w6,r6,eM4.trans (he5.trans e6),.same (hd5.trans hi4.df),hq5⟩
   refine wpAny_soup (P:=P) (G:=G) (nt:=nt) (objs:=objs) (ops:=l.toArray) (ks:=ks) (τ:=tget Sq.tmps) (M0:=Mb) (base:=base) (dfs:=a.defers) (ro:=ro) hd hY
    (fun k hk o ho m hm'=>hdep k (hks k hk) o ho m (hks m hm')) hback ?_ ?_ f listed a2 M2 hi
   ·intro f' listed' a4 M4 hi4 k hk4 hkf
    have hik:i≤k:=by
     rcases Nat.lt_or_ge k i with h|h
     ·exact absurd (hi4.has k (hb2 k h hkf)) (unl hk4)
     ·exact h
    refine (fin _ listed' a4 M4 hi4 fun m hm'=>?_).2 k hk4
    obtain ⟨_,ok,hok,hall⟩:=mem_ready.1 hk4
    have h1:=List.all_eq_true.1 z1 k (by simpa using (Array.getElem?_eq_some_iff.1 hok).1)
    simp only [Bool.or_eq_true,decide_eq_true_eq] at h1
    have h2:=h1.resolve_left (by omega)
    exact hmask k m ok hok (List.all_eq_true.1 h2 m (by have:=hks m hm';simp;omega)) listed' hi4.cl hall
   ·intro listed' a4 M4 hi4
    exact (fin 0 listed' a4 M4 hi4 fun m hm'=>alll hi4.cn m (by rw [hi4.sz];have:=hks m hm';simp;omega)).2
 | cons x r ih =>
   obtain ⟨fl,kt⟩:=x
   intro i ks Sq objs Mb base hz hks hji hnt hob hno hMb hY hb1 hb2 hK f listed a2 M2 hi
   simp only [zOkL,Bool.and_eq_true,decide_eq_true_eq] at hz
   obtain ⟨⟨⟨⟨⟨⟨⟨⟨z0,z1⟩,z2⟩,z3⟩,z4⟩,z5⟩,z6⟩,z7⟩,z8⟩:=hz
   have hfl:∀ k∈fl,k∈ks:=fun k hk=>by simpa using List.all_eq_true.1 z1 k hk
   obtain ⟨oi,hoi⟩:∃ o,l[i]?=some o:=⟨l[i],List.getElem?_eq_getElem z0⟩
   rw [hoi] at z7
   have hgi:oi.guard=none:=by simpa [Option.isNone_iff_eq_none] using z7
   have hiks:i∉ks:=fun h=>by have:=hks i h;omega
   have hpk:pick l [i]=[oi]:=by simp [pick,hoi]
   simp only [ZK] at hK
   rw [hpk] at hK
   have hun:∀ {f' listed' a4 M4},Inv P G nt objs l.toArray ks (tget Sq.tmps) Mb base a.defers f' listed' a4 M4→listed'.getD i false≠true:=fun hi4 e=>by
    rcases hi4.only i e with h|h
    ·have:=hb1 i h;omega
    ·exact hiks h
   refine wpAny_soup (P:=P) (G:=G) (nt:=nt) (objs:=objs) (ops:=l.toArray) (ks:=ks) (τ:=tget Sq.tmps) (M0:=Mb) (base:=base) (dfs:=a.defers) (ro:=ro) hd hY
    (fun k hk o ho m hm'=>hdep k (hks k hk) o ho m (hks m hm')) hback ?_ ?_ f listed a2 M2 hi
   ·intro f' listed' a4 M4 hi4 k hk4 hkf
    obtain ⟨_,ok,hok,hall⟩:=mem_ready.1 hk4
    have hki:k=i:=by
     rcases Nat.lt_trichotomy k i with h|h|h
     ·exact absurd (hi4.has k (hb2 k h hkf)) (unl hk4)
     ·exact h
     ·have h1:=List.all_eq_true.1 z5 k (by simpa using (Array.getElem?_eq_some_iff.1 hok).1)
      simp only [Bool.or_eq_true,decide_eq_true_eq] at h1
      exact absurd (hmask k i ok hok (h1.resolve_left (by omega)) listed' hi4.cl hall) (hun hi4)
    subst hki
    have hpl:∀ m,m < k→m∉fl→listed'.getD m false=true:=fun m hm' hmf=>by
     have h1:=List.all_eq_true.1 z4 m (by simpa using hm')
     simp only [Bool.or_eq_true,List.contains_iff_mem] at h1
     exact hmask k m ok hok (h1.resolve_left hmf) listed' hi4.cl hall
    refine stageY (fl:=fl) (kt:=kt) hd hnt hob hi4 hk4 hoi hgi hfl hkf (fun m hm'=>hpl m (by have:=hks m hm';omega)) z2 z3 (fun m hm'=>by have:=hks m hm';omega) (fun m hm'=>hnoal m (hks m hm')) z6 hK ?_
    intro Sf a3 M3 hkf' f1 f2 e3 f3 hi3
    refine ih (k + 1) fl Sf M3.objs M3 (listed'.setIfInBounds k true) z8 (fun m hm'=>hks m (hfl m hm')) (by omega) f1 f2 (Nat.le_trans hno e3.len) ((hMb.trans (hi4.ext.weaken hno)).trans (e3.weaken hno)) f3 (fun m hm'=>?_) (fun m hm' hmf=>?_) hkf' f' _ a3 M3 hi3
    ·rcases getD_set_true' hm' with rfl|h1
     ·omega
     ·rcases hi4.only m h1 with h2|h2
      ·have:=hb1 m h2;omega
      ·have:=hks m h2;omega
    ·rcases Nat.eq_or_lt_of_le (Nat.le_of_lt_succ hm') with rfl|hlt
     ·have:m < listed'.size:=by rw [hi4.sz];simpa using z0
      simp [this]
     ·exact getD_set_true (hpl m hlt hmf)
   ·intro listed' a4 M4 hi4
    exact absurd (alll hi4.cn i (by rw [hi4.sz];simpa using z0)) (hun hi4)
def regionZ (nt j:Nat) (st:List (List Nat×List Nat)) (l:List Oper):Bool:=
 decide (j≤l.length) && (l.all fun o=>match o.dst with|some t=>decide (t < nt)|none=>true) && distinct (l.map (·.dst)) &&
 ((List.range l.length).all fun k=>match l[k]? with|some o=>o.after.toList.all fun e=>!Region.binds .any e || decide (e.on < k)|none=>true) &&
 ((List.range j).all fun i=>(List.range j).all fun k=>match l[i]?,l[k]? with
   | some o,some o'=>match o'.dst with|some u=>!(o.looksAt l.toArray).contains u || o.after.toList.any fun e=>decide (e.on=k) && Region.binds .any e|none=>true
   | _,_=>true) &&
 noLook l.toArray (l.take j) && ((l.take j).all fun o=>(isAl o.op).isNone) && zOkL l st j (List.range j)
theorem anyZ {nt:Nat} {n:Cx} {l:List Oper} {S:DS} {Q:Exit→DS→Prop} (j:Nat) (st:List (List Nat×List Nat)) (kp:List Nat) (hnt:S.nt=nt) (hB:regionZ nt j st l=true)
 (h:RXe P G (l.map (·.dst)) (l.take j) S (fun Sq=>ZK P G l (fun S''=>At Q .normal ⟨⟩ (S''.keep kp)) st j Sq) ⟨⟩):n.n≤S.objs.length→∀ (a:Act) (M:MS),Rel G S a M →
 wpAnyIn (fenceR (n.rd.map M.β)) 0 P .any l.toArray (fun e a' w'=>∃ S' M',M'.w=w'∧Rel G S' a' M'∧Ext n.n M M'∧NewD M a a'∧Q e S') l.length (Array.replicate l.length false) a { M.w with drawn:=M.w.drawn + 1 }:=by
 intro hn a M hr
 simp only [regionZ,Bool.and_eq_true,decide_eq_true_eq] at hB
 obtain ⟨⟨⟨⟨⟨⟨⟨b1,b4⟩,b5⟩,b6⟩,b7⟩,b8⟩,b13⟩,bz⟩:=hB
 subst hnt
 have hdst:∀ o∈l,∀ u,o.dst=some u→u < S.nt:=fun o ho u hu=>by
  have:=List.all_eq_true.1 b4 o ho
  simpa [hu] using this
 have hpw:=distinct_spec b5
 have hd:dstsOk S.nt l.toArray:=by
  refine ⟨fun i o ho u hu=>hdst o (by simpa using Array.mem_of_getElem? ho) u hu,fun i k o o' u ho ho' hu hu'=>?_⟩
  have hi:l[i]?=some o:=by simpa using ho
  have hk:l[k]?=some o':=by simpa using ho'
  obtain ⟨hil,hi'⟩:=List.getElem?_eq_some_iff.1 hi
  obtain ⟨hkl,hk'⟩:=List.getElem?_eq_some_iff.1 hk
  rw [List.pairwise_iff_getElem] at hpw
  rcases Nat.lt_trichotomy i k with hlt|he|hlt
  ·exact absurd (show (l.map (·.dst))[i]'(by simpa using hil)=(l.map (·.dst))[k]'(by simpa using hkl) by simp [hi',hk',hu,hu']) (hpw i k (by simpa using hil) (by simpa using hkl) hlt (by simp [hi',hu]))
  ·exact he
  ·exact absurd (show (l.map (·.dst))[k]'(by simpa using hkl)=(l.map (·.dst))[i]'(by simpa using hil) by simp [hi',hk',hu,hu']) (hpw k i (by simpa using hkl) (by simpa using hil) hlt (by simp [hk',hu']))
 have hback:∀ (k:Nat) (o:Oper),l.toArray[k]?=some o→∀ e∈o.after,Region.binds .any e=true→e.on < k:=fun k o ho e he hb=>by
  have hk:l[k]?=some o:=by simpa using ho
  have:=List.all_eq_true.1 b6 k (by simpa using (List.getElem?_eq_some_iff.1 hk).1)
  rw [hk] at this
  have:=List.all_eq_true.1 this e (by simpa using he)
  simpa [hb] using this
 have hdep:∀ i,i < j→∀ o,l.toArray[i]?=some o→∀ k,k < j→∀ o',l.toArray[k]?=some o'→∀ u,o'.dst=some u→u∈o.looksAt l.toArray→∃ e∈o.after,e.on=k∧Region.binds .any e=true:=fun i hi o ho k hk o' ho' u hu hl=>by
  have h1:=List.all_eq_true.1 (List.all_eq_true.1 b7 i (by simpa using hi)) k (by simpa using hk)
  rw [show l[i]?=some o by simpa using ho,show l[k]?=some o' by simpa using ho'] at h1
  simp only [hu,Bool.or_eq_true,Bool.not_eq_true',List.any_eq_true,Bool.and_eq_true,decide_eq_true_eq] at h1
  rcases h1 with h1|⟨e,he,h2,h3⟩
  ·have:(o.looksAt l.toArray).contains u=true:=by simpa using hl
   rw [h1] at this;cases this
  ·exact ⟨e,by simpa using he,h2,h3⟩
 have hmask:MaskOk l.toArray (closL l []):=closL_spec l [] (fun j _=>by simp) (fun j i oj _ h=>by simp at h)
 have hnoal:∀ i,i < j→∀ o,l.toArray[i]?=some o→∀ t,o.op≠.alloc t:=fun i hi o ho t=>by
  have:=List.all_eq_true.1 b13 o (List.mem_of_getElem? (i:=i) (by rw [List.getElem?_take_of_lt hi];simpa using ho))
  exact isAl_none (by simpa [Option.isNone_iff_eq_none] using this) t
 obtain ⟨hm1,he1⟩:=RelM.same (w':={ M.w with drawn:=M.w.drawn + 1 }) hr.m rfl ⟨rfl,rfl,rfl,by first|exact Nat.le_refl _|exact Nat.le_succ _⟩
 have hAl:Al l.toArray (List.range j) (l.take j):=by
  have gen:∀ (m k:Nat),k + m≤l.length→Al l.toArray (List.range' k m) ((l.drop k).take m):=by
   intro m
   induction m with
   | zero=>intro k _;simp [Al,List.range']
   | succ m ih =>
     intro k hk
     have hk':k < l.length:=by omega
     rw [List.range'_succ,List.drop_eq_getElem_cons hk',List.take_succ_cons]
     exact ⟨by simp,ih (k + 1) (by omega)⟩
  have:=gen j 0 (by omega)
  rwa [List.drop_zero,← List.range_eq_range'] at this
 obtain ⟨Sq,hkq,q1,q2,q3,q4⟩:=soup_of_RXe (P:=P) (G:=G) (ops:=l.toArray) (nt:=S.nt) (objs:=S.objs) (List.range j) (l.take j) S hAl rfl rfl (fun o ho=>hdst o (List.mem_of_mem_take ho))
  (by rw [List.map_take];exact hpw.take) b8 (by simpa using h)
 let Md:MS:={ M with w:={ M.w with drawn:=M.w.drawn + 1 } }
 have hobs:M.objs.length=S.objs.length:=by rw [hr.ob]
 refine chainZ (n:=n) (Q:=Q) (kp:=kp) (M:=M) hd b1 hdep hback hmask hnoal st j (List.range j) Sq S.objs Md (Array.replicate l.length false) bz (fun k hk=>by simpa using hk) (Nat.le_refl _) q1 q2 hn (he1.weaken (by rw [hobs];exact hn)) q3
  (fun k hk=>by rw [replicate_getD] at hk;cases hk) (fun k hk hk'=>absurd (by simpa using hk) hk') hkq l.length _ a Md ?_
 refine ⟨by simp,by simp,fun k o _ hk=>?_,⟨hm1,hr.ob,hr.nt,hr.df,fun t d ht=>?_⟩,by rw [← hr.ob];exact Ext.refl Md,rfl,⟨fun _=>0,fun k o t u _ _ _ _ hk=>?_,fun k m o o' t t' _ _ _ _ hk=>?_⟩,fun k hk=>?_,fun _ h=>h⟩
 ·rw [replicate_getD] at hk;cases hk
 ·unfold maskT at ht
  split at ht
  ·rename_i hvis
   have h4:tget Sq.tmps t=tget S.tmps t:=q4 t fun o ho hu=>by
    obtain ⟨k,hk⟩:=List.mem_iff_getElem?.1 ho
    have hkj:k < j:=by
     have:=(List.getElem?_eq_some_iff.1 hk).1
     simp at this;omega
    rw [List.getElem?_take_of_lt hkj] at hk
    have:=hvis k (by simpa using hkj) o (by simpa using hk) hu
    rw [replicate_getD] at this;cases this
   obtain ⟨v,h1,h2⟩:=hr.tm t d (by rw [← h4];exact ht)
   exact ⟨v,h1,h2.ext he1⟩
  ·cases ht
 ·rw [replicate_getD] at hk;cases hk
 ·rw [replicate_getD] at hk;cases hk
 ·rw [replicate_getD] at hk;cases hk
end
theorem DT_regionZ {P:Program} {G:Nat→Option (List IC)} {id nt:Nat} {n:Cx} {l:List Oper} {S:DS} {Q:Exit→DS→Prop} (p:List Nat) (j:Nat) (st:List (List Nat×List Nat)) (ks:List Nat) (hm:P.follows .mixedOrders=true) (hnt:S.nt=nt) (hP:permOk p l=true) (hB:regionZ nt j st (permL p l p)=true)
 (h:RXe P G ((permL p l p).map (·.dst)) ((permL p l p).take j) S (fun Sq=>ZK P G (permL p l p) (fun S''=>At Q .normal ⟨⟩ (S''.keep ks)) st j Sq) ⟨⟩):DT P G n (.region id l.toArray true) S Q:=
 fun hn _ a M hr=>wpIn_region_any hm (by
  have hp:=permOk_spec hP
  have hl:(permL p l p).length=l.length:=by rw [permL_len hp.lt,hp.len]
  have h1:=anyZ j st ks hnt hB h hn a M hr
  rw [hl] at h1
  refine wpAny_perm hp _ _ _ _ _ (by simp) (by simp) (fun i k hi=>?_) h1
  have hi1:i < l.length:=by rw [← hp.len];exact lt_of_getElem? hi
  have hk1:=hp.lt k (List.mem_of_getElem? hi)
  simp [hi1,hk1])
end Go.Ab
namespace Go.Ab
open Go
section
variable {P:Program} {G:Nat→Option (List IC)}
theorem DCall.last {f:FuncId} {args:List DV} {Q:Nat→Nat→Nat→List (List IC)→Bool→Prop}
 (h:DCall P G f args [] (fun d o=>∃ k g len sz es nl,d=.one (.vec k g 0 len)∧o[k]?=some (.vec sz (ims es) g nl)∧Q g len sz es nl)) :
 DCall P G f args [] (fun d o=>∃ g len sz es nl,d=.one (.vec 0 g 0 len)∧o=[.vec sz (ims es) g nl]∧Q g len sz es nl):=by
 intro M vs h1 h2 h3 h4
 refine (h M vs h1 h2 h3 h4).mono ?_
 rintro e w' ⟨v,d,M',rfl,rfl,hm,hv,he,k,g,len,sz,es,nl,rfl,ho,hq⟩
 have hlt:k < M'.objs.length:=lt_of_getElem? ho
 let M'':MS:={ w:=M'.w,β:=fun _=>M'.β k,objs:=[.vec sz (ims es) g nl],F:=M'.F }
 have hlive:∀ b,M''.live b→M'.live b:=by
  rintro b ⟨o,d,h5,h6,h7⟩
  have h8:=lt_of_getElem? h5
  have:o=0:=by simp [M''] at h8;exact h8
  subst this
  simp only [M'',List.getElem?_cons_zero,Option.some.injEq] at h5
  subst h5
  exact ⟨k,_,ho,h6,h7⟩
 have hfree:∀ b,M'.free b→M''.free b:=fun b hb=>⟨hb.1,fun hl=>hb.2 (hlive b hl)⟩
 have hok:∀ b,M'.ok b→M''.ok b∧M''.w.heap[b]?=M'.w.heap[b]?:=fun b hb=>⟨⟨hfree b hb.1,hb.2⟩,rfl⟩
 have hel:∀ (i:Nat) (x:List DC),(ims es)[i]?=some x→∀ (j:Nat) (d:DC) (v:Value),x[j]?=some d→RepC M' d v→RepC M'' d v:=fun i x hx j d v hd r=>by
  rw [ims_get,Option.map_eq_some_iff] at hx
  obtain ⟨y,_,rfl⟩:=hx
  rw [List.getElem?_map,Option.map_eq_some_iff] at hd
  obtain ⟨c,_,rfl⟩:=hd
  cases r with
  | im _ _ r=>exact .im _ _ (r.mono hok)
 have hone:∀ {o:Nat} {d:DObj},M''.objs[o]?=some d→o=0∧d=.vec sz (ims es) g nl:=fun {o d} h=>by
  have h8:=lt_of_getElem? h
  have:o=0:=by simp [M''] at h8;exact h8
  subst this
  simp only [M'',List.getElem?_cons_zero,Option.some.injEq] at h
  exact ⟨rfl,h.symm⟩
 have hR:RelO M'' 0 (.vec sz (ims es) g nl):=by
  obtain ⟨a1,a2⟩:=hm.objs k _ ho
  refine ⟨a1,fun hn=>?_⟩
  obtain ⟨b0,c,T,b1,b2,b3,b4⟩:=a2 hn
  exact ⟨b0,c,T,b1,b2,b3,fun i x j d v hx hd hcv=>hel i x hx j d v hd (b4 i x j d v hx hd hcv)⟩
 refine ⟨v,.one (.vec 0 g 0 len),M'',rfl,rfl,⟨fun o d h=>?_,fun o d h hb=>?_,fun o o' d d' h h' _ _ _=>?_,fun g' l hg=>(hm.glob g' l hg).mono hok,hm.fl,fun o d h hb=>?_⟩,?_,?_,g,len,sz,es,nl,rfl,rfl,hq⟩
 ·obtain ⟨rfl,rfl⟩:=hone h;exact hR
 ·obtain ⟨rfl,rfl⟩:=hone h;exact hm.lt k _ ho hb
 ·obtain ⟨rfl,rfl⟩:=hone h;obtain ⟨rfl,rfl⟩:=hone h';rfl
 ·obtain ⟨rfl,rfl⟩:=hone h;exact hm.own k _ ho hb
 ·cases hv with
  | one _ _ hc=>cases hc with
    | vec _ _ _ _ _ c1 c2 c3 =>
      refine .one _ _ (.vec _ _ _ _ _ c1 (by simp [M'']) fun sz1 es1 g1 nl1 h5=>?_)
      simp only [M'',List.getElem?_cons_zero,Option.some.injEq] at h5
      injection h5 with e1 e2 e3 e4
      subst e1;subst e2;subst e3;subst e4
      exact c3 _ _ _ _ ho
 ·refine ⟨by simp,fun b hb=>⟨hfree b (he.free b hb).1,(he.free b hb).2⟩,he.other,he.hs,fun o h=>by simp at h,fun o h=>by simp at h,fun o h=>by simp at h,fun o h=>by simp at h,fun o h=>by simp at h,fun o h=>by simp at h,he.io⟩
end
end Go.Ab
namespace Go.Ab
open Go
section
variable {P:Program} {G:Nat→Option (List IC)} {n:Cx} {S:DS} {Q:Exit→DS→Prop}
def evalR (G:Nat→Option (List IC)) (S:DS):Operand→Option DV
 | .const (.slice none 0 0)=>some (.one (.im (.raw (.slice none 0 0))))
 | x=>evalG G S x
def evalsR (G:Nat→Option (List IC)) (S:DS):List Operand→Option (List DV)
 | []=>some []
 | x :: r=>match evalR G S x,evalsR G S r with
   | some d,some l=>some (d :: l)
   | _,_=>none
def stepR (P:Program) (G:Nat→Option (List IC)) (S:DS) (op:Op) (ty:TypeId):Out:=match kindOf op with
 | .call x xs=>match evalG G S x,evalsR G S xs with
   | some d,some as=>outC (dcallee d) as
   | _,_=>.bad
 | k=>stepK P G S op ty k
def RTr (P:Program) (G:Nat→Option (List IC)) (dsts:List (Option Tmp)):List Oper→DS→(K:DS→Prop)→Tok K→Prop
 | [],S,K,_=>K S
 | o :: l,S,K,tk=>Want (wantedA dsts S o)
  (Next P G S.objs (stepR P G S o.op o.type) (fun d objs'=>RTr P G dsts l (DS.put { S with objs:=objs' } o.dst d) K tk) ⟨⟩)
  (RTr P G dsts l (S.put o.dst (.tup [])) K tk) ⟨⟩
end
attribute [simp] RTr stepR evalR evalsR
end Go.Ab
namespace Go.Ab
open Go
end Go.Ab
namespace Go.Ab
open Go
def cutE (ks:List Nat) (o:Oper):Oper:={ dst:=o.dst,op:=o.op,type:=o.type,pos:=o.pos,after:=o.after.filter fun e=>ks.contains e.on,guard:=o.guard }
def cutL:List (Option (List Nat))→List Oper→List Oper
 | some ks :: cs,o :: r=>cutE ks o :: cutL cs r
 | none :: cs,o :: r=>o :: cutL cs r
 | [],l=>l
 | _,[]=>[]
def backOk (l:List Oper):Bool:=
 (l.all fun o=>o.guard.isNone) && ((List.range l.length).all fun k=>match l[k]? with|some o=>o.after.toList.all fun e=>!Region.binds .any e || decide (e.on < k)|none=>true)
theorem cutL_len:∀ (cs:List (Option (List Nat))) (l:List Oper),(cutL cs l).length=l.length
 | some ks :: cs,o :: r=>by simp [cutL,cutL_len cs r]
 | none :: cs,o :: r=>by simp [cutL,cutL_len cs r]
 | [],l=>by simp [cutL]
 | some _ :: _,[]=>by simp [cutL]
 | none :: _,[]=>by simp [cutL]
theorem cutL_get:∀ (cs:List (Option (List Nat))) (l:List Oper) (k:Nat) (o:Oper),l[k]?=some o→∃ ks,(cutL cs l)[k]?=some o∨(cutL cs l)[k]?=some (cutE ks o)
 | some ks :: cs,o :: r,0,o',h=>⟨ks,.inr (by simp at h;subst h;simp [cutL])⟩
 | none :: cs,o :: r,0,o',h=>⟨[],.inl (by simp at h;subst h;simp [cutL])⟩
 | some ks :: cs,o :: r,k + 1,o',h=>by simpa [cutL] using cutL_get cs r k o' (by simpa using h)
 | none :: cs,o :: r,k + 1,o',h=>by simpa [cutL] using cutL_get cs r k o' (by simpa using h)
 | [],l,k,o',h=>⟨[],.inl (by simpa [cutL] using h)⟩
 | some _ :: _,[],k,o',h=>by simp at h
 | none :: _,[],k,o',h=>by simp at h
section
variable {P:Program} {l:List Oper} {cs:List (Option (List Nat))} {F:Fence} {n:Nat} {Q:Exit→Act→World→Prop}
theorem ready_cut {L:Array Bool} {k:Nat} (h:k∈Region.ready .any l.toArray L):k∈Region.ready .any (cutL cs l).toArray L:=by
 obtain ⟨h0,ok,hok,hall⟩:=mem_ready.1 h
 have hok':l[k]?=some ok:=by simpa using hok
 obtain ⟨ks,h1|h1⟩:=cutL_get cs l k ok hok'
 ·exact mem_ready.2 ⟨h0,ok,by simpa using h1,hall⟩
 ·exact mem_ready.2 ⟨h0,cutE ks ok,by simpa using h1,fun e he hb=>hall e (by
   simp only [cutE,Array.mem_filter] at he
   exact he.1) hb⟩
theorem ready_none (hb:backOk l=true) {L:Array Bool} (hL:L.size=l.length) (h:Region.ready .any l.toArray L=[]):∀ k,k < l.length→L.getD k false=true:=by
 intro k
 induction k using Nat.strongRecOn with
 | _ k ih =>
   intro hk
   simp only [backOk,Bool.and_eq_true] at hb
   cases hv:L.getD k false with
   | true=>rfl
   | false =>
     have h1:=List.all_eq_true.1 hb.2 k (by simpa using hk)
     have hok:l[k]?=some l[k]:=List.getElem?_eq_getElem hk
     rw [hok] at h1
     have:k∈Region.ready .any l.toArray L:=mem_ready.2 ⟨by rw [getD_same (by rw [hL];exact hk)];exact hv,l[k],by simpa using hok,fun e he hbe=>by
      have h2:=List.all_eq_true.1 h1 e (by simpa using he)
      simp only [hbe,Bool.not_true,Bool.false_or,decide_eq_true_eq] at h2
      exact ih e.on h2 (by omega)⟩
     rw [h] at this;cases this
theorem wpAny_cut (hb:backOk l=true):∀ (f:Nat) (L:Array Bool) (a:Act) (w:World),L.size=l.length →
 wpAnyIn F n P .any (cutL cs l).toArray Q f L a w→wpAnyIn F n P .any l.toArray Q f L a w:=by
 intro f
 induction f with
 | zero =>
   intro L a w hL h
   refine ⟨?_,h.2⟩
   rw [List.eq_nil_iff_forall_not_mem]
   intro k hk
   have:=ready_cut (cs:=cs) hk
   rw [h.1] at this;cases this
 | succ f ih =>
   intro L a w hL h
   refine ⟨fun h0=>h.1 ?_,fun k hk=>?_⟩
   ·rw [List.eq_nil_iff_forall_not_mem]
    intro k hk
    obtain ⟨h1,o,ho,_⟩:=mem_ready.1 hk
    have hkl:k < l.length:=by
     have:=(Array.getElem?_eq_some_iff.1 ho).1
     simpa [cutL_len] using this
    rw [getD_same (by rw [hL];exact hkl),ready_none hb hL h0 k hkl] at h1
    cases h1
   ·have h1:=h.2 k (ready_cut hk)
    obtain ⟨_,ok,hok,_⟩:=mem_ready.1 hk
    have hok':l[k]?=some ok:=by simpa using hok
    have hg:ok.guard=none:=by
     simp only [backOk,Bool.and_eq_true] at hb
     simpa [Option.isNone_iff_eq_none] using List.all_eq_true.1 hb.1 ok (List.mem_of_getElem? hok')
    have hw:∀ o y,o.guard=none→Region.wanted o y=true:=fun o y h=>by simp [Region.wanted,h]
    unfold wpOpIn at h1 ⊢
    simp only [List.getElem?_toArray,hok',hw _ _ hg,if_true]
    obtain ⟨ks,e1|e1⟩:=cutL_get cs l k ok hok'
    ·simp only [List.getElem?_toArray,e1,hw _ _ hg,if_true] at h1
     exact Oper.wpIn_mono (fun a w hh=>ih _ a w (by simpa using hL) hh) h1
    ·simp only [List.getElem?_toArray,e1,hw (cutE ks ok) _ hg,if_true] at h1
     have h2:ok.wpIn F n P a w (wpAnyIn F n P .any (cutL cs l).toArray Q f (L.setIfInBounds k true)) Q:=h1
     exact Oper.wpIn_mono (fun a w hh=>ih _ a w (by simpa using hL) hh) h2
end
theorem DT_regionZc {P:Program} {G:Nat→Option (List IC)} {id nt:Nat} {n:Cx} {l:List Oper} {S:DS} {Q:Exit→DS→Prop} (cs:List (Option (List Nat))) (p:List Nat) (j:Nat) (st:List (List Nat×List Nat)) (ks:List Nat) (hm:P.follows .mixedOrders=true) (hnt:S.nt=nt)
 (hC:backOk l=true) (hP:permOk p (cutL cs l)=true) (hB:regionZ nt j st (permL p (cutL cs l) p)=true)
 (h:RXe P G ((permL p (cutL cs l) p).map (·.dst)) ((permL p (cutL cs l) p).take j) S (fun Sq=>ZK P G (permL p (cutL cs l) p) (fun S''=>At Q .normal ⟨⟩ (S''.keep ks)) st j Sq) ⟨⟩):DT P G n (.region id l.toArray true) S Q:=
 fun hn _ a M hr=>wpIn_region_any hm (by
  have hp:=permOk_spec hP
  have hl:(permL p (cutL cs l) p).length=l.length:=by rw [permL_len hp.lt,hp.len,cutL_len]
  have h1:=anyZ j st ks hnt hB h hn a M hr
  rw [hl] at h1
  have h2:=wpAny_perm hp l.length (Array.replicate l.length false) (Array.replicate l.length false) _ _ (by simp [cutL_len]) (by simp [cutL_len]) (fun i k hi=>by
   have hi1:i < l.length:=by rw [← cutL_len cs l,← hp.len];exact lt_of_getElem? hi
   have hk1:=hp.lt k (List.mem_of_getElem? hi)
   rw [cutL_len] at hk1
   simp [hi1,hk1]) h1
  exact wpAny_cut (cs:=cs) hC l.length (Array.replicate l.length false) _ _ (by simp) h2)
end Go.Ab
namespace Go.Ab
open Go
section
variable {P:Program} {G:Nat→Option (List IC)} {S:DS}
def isS3:Op→Option (TypeId×Operand)
 | .slice t x none (some (.const (.int _ a))) (some (.const (.int _ b)))=>if a=0∧b=0 then some (t,x) else none
 | _=>none
def stepS (P:Program) (G:Nat→Option (List IC)) (S:DS) (op:Op) (ty:TypeId):Out:=match isS3 op with
 | some (t,x)=>match evalG G S x,telem P t with
   | some (.one (.im (.sl l))),some e=>match tsz P e with
     | some _=>if l=[] then .bad else .val (.one (.im .e0)) S.objs
     | none=>.bad
   | _,_=>.bad
 | none=>stepQ P G S op ty
def RQs (P:Program) (G:Nat→Option (List IC)) (dsts:List (Option Tmp)):List Oper→DS→(K:DS→Prop)→Tok K→Prop
 | [],S,K,_=>K S
 | o :: l,S,K,tk=>Want (wantedA dsts S o)
  (NextQ P G S.objs (stepS P G (S.keep (slotsOf o.op)) o.op o.type) (fun d=>RQs P G dsts l (S.put o.dst d) K tk) ⟨⟩)
  (RQs P G dsts l (S.put o.dst (.tup [])) K tk) ⟨⟩
end
section
variable {P:Program} {G:Nat→Option (List IC)} {ops:Array Oper}
end
attribute [simp] RQs stepS isS3
end Go.Ab
