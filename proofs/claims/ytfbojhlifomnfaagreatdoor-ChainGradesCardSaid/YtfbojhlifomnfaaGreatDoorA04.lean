/- Part 4 of the proofs: laws and walks that hold without conditions beyond those that each theorem names. -/
import Derived.Test.YtfbojhlifomnfaaGreatDoorA03
set_option linter.all false
set_option linter.deprecated false
namespace Go.Ab
open Go
theorem shutD_io : ∀ (ds : List Nat) (w : World), SameIo w (shutD ds w)
 | [], _ => ⟨rfl, rfl, rfl, by first | exact Nat.le_refl _ | exact Nat.le_succ _⟩
 | D :: r, w => by
   rw [shutD]
   exact SameIo.trans (b := w.putObj D (.deferred none)) ⟨rfl, rfl, rfl, by first | exact Nat.le_refl _ | exact Nat.le_succ _⟩ (shutD_io r _)
def DCall (P : Program) (G : Nat → Option (List IC)) (f : FuncId) (args : List DV) (objs : List DObj) (Q : DV → List DObj → Prop) : Prop :=
 ∀ (M : MS) (vs : Array Value), RelM G M → M.objs = objs → vs.size = args.length → (∀ (j : Nat) (d : DV) (v : Value), args[j]? = some d → vs[j]? = some v → RepV M d v) →
  Calls P f vs M.w fun e w' => ∃ v d M', e = .returned v ∧ M'.w = w' ∧ RelM G M' ∧ RepV M' d v ∧ Ext objs.length M M' ∧ Q d M'.objs
section
variable {P : Program} {G : Nat → Option (List IC)} {S : DS}
theorem DCall.mono {f : FuncId} {args : List DV} {objs : List DObj} {Q Q' : DV → List DObj → Prop} (h : DCall P G f args objs Q) (hq : ∀ d objs', Q d objs' → Q' d objs') : DCall P G f args objs Q' :=
 fun M vs h1 h2 h3 h4 => (h M vs h1 h2 h3 h4).mono fun _ _ ⟨v, d, M', a1, a2, a3, a4, a5, a6⟩ => ⟨v, d, M', a1, a2, a3, a4, a5, hq _ _ a6⟩
def dcallee : DV → Option (FuncId × List DV)
 | .one (.im (.fn (.func f) caps)) => some (f, caps.map fun c => .one (.im c))
 | .one (.fn (.func f) caps) => some (f, caps.map .one)
 | _ => none
def evals (G : Nat → Option (List IC)) (S : DS) : List Operand → Option (List DV)
 | [] => some []
 | x :: r => match evalG G S x, evals G S r with
   | some d, some l => some (d :: l)
   | _, _ => none
theorem evals_sound {a : Act} {M : MS} (hr : Rel G S a M) : ∀ (xs : List Operand) (ds : List DV), evals G S xs = some ds → ds.length = xs.length ∧ ∀ (j : Nat) (d : DV) (v : Value), ds[j]? = some d → (xs.map a.eval)[j]? = some v → RepV M d v
 | [], ds, h => by cases h; exact ⟨rfl, fun j d v h => by simp at h⟩
 | x :: xs, ds, h => by
   simp only [evals] at h
   split at h
   ·rename_i d l hd hl
    cases h
    obtain ⟨h1, h2⟩ := evals_sound hr xs l hl
    refine ⟨by simp [h1], fun j e v he hv => ?_⟩
    cases j with
    | zero => simp at he hv; subst he; subst hv; exact evalG_sound hr hd
    | succ j => exact h2 j e v (by simpa using he) (by simpa using hv)
   ·cases h
theorem OpT_call {o : Oper} {K : DS → Prop} {x : Operand} {xs : Array Operand} {ts : Array TypeId} {d : DV} {f : FuncId} {caps as : List DV} (ho : o.op = .call { callee := .value x, args := xs, argTypes := ts })
 (hx : evalG G S x = some d) (hc : dcallee d = some (f, caps)) (ha : evals G S xs.toList = some as) (hcall : ∀ args w, (callFunc f args).run P w = .ok (.enter f args) w)
 (h : DCall P G f (as ++ caps) S.objs (fun d objs' => K ({ S with objs := objs' }.put o.dst d))) : OpT P G o S K := by
 intro ro a M hr
 have hp := evalG_sound hr hx
 obtain ⟨hl, hrep⟩ := evals_sound hr _ _ ha
 generalize hv : a.eval x = v at hp
 have key : ∀ (vs : Array Value), v = .func (.func f) #[] vs → vs.size = caps.length → (∀ (j : Nat) (d : DV) (u : Value), caps[j]? = some d → vs[j]? = some u → RepV M d u) →
  o.wpIn (fenceR ro) 0 P a M.w (fun a' w' => ∃ S' M', M'.w = w' ∧ Rel G S' a' M' ∧ Ext M.objs.length M M' ∧ a'.defers = a.defers ∧ K S') (fun _ _ _ => False) := by
  rintro vs rfl hvs hcr
  have hrun : (execOp a.eval o).run P M.w = .ok (.enter f ((xs.map a.eval) ++ vs)) M.w := by
   simp only [execOp, ho, Sem.run_bind, resolve, hv, Deferred.ofValue, Sem.run_pure, Result.andThen_ok, invoke, Array.empty_append, hcall]
  refine wpIn_enter hrun ?_
  refine (h M _ hr.m hr.ob (by simp [hl, hvs]) fun j e u he hu => ?_).mono ?_
  ·have hsz : (xs.map a.eval).size = as.length := by simp [hl]
   by_cases hj : j < as.length
   ·rw [List.getElem?_append_left hj] at he
    rw [Array.getElem?_append_left (by omega)] at hu
    refine hrep j e u he ?_
    rw [← hu, ← Array.toList_map, Array.getElem?_toList]
   ·rw [List.getElem?_append_right (by omega)] at he
    rw [Array.getElem?_append_right (by omega), hsz] at hu
    exact hcr _ e u he hu
  ·rintro e w' ⟨v, d, M', rfl, rfl, hm, hd, he, hk⟩
   have he' : Ext M.objs.length M M' := by rw [hr.ob]; exact he
   exact ⟨v, rfl, _, M', rfl, hr.put hm he' hd o.dst, he', put_defers _ _ _, hk⟩
 unfold dcallee at hc
 split at hc
 ·cases hc
  cases hp with
  | one _ _ hp => cases hp with
    | im _ _ hp => cases hp with
      | fn _ _ vs h1 h2 =>
        refine key vs rfl (by simp [h1]) fun j d u hj hu => ?_
        rw [List.getElem?_map, Option.map_eq_some_iff] at hj
        obtain ⟨c, hc, rfl⟩ := hj
        exact .one _ _ (.im _ _ (h2 j c u hc hu))
 ·cases hc
  cases hp with
  | one _ _ hp => cases hp with
    | fn _ _ vs h1 h2 =>
      refine key vs rfl (by simp [h1]) fun j d u hj hu => ?_
      rw [List.getElem?_map, Option.map_eq_some_iff] at hj
      obtain ⟨c, hc, rfl⟩ := hj
      exact .one _ _ (h2 j c u hc hu)
 ·cases hc
theorem OpT_callB {o : Oper} {K : DS → Prop} {x : Operand} {xs : Array Operand} {ts : Array TypeId} {f : FuncId} {l : List IC} {as : List DV} (ho : o.op = .call { callee := .value x, args := xs, argTypes := ts })
 (hx : evalG G S x = some (.one (.im (.bf (.func f) l)))) (ha : evals G S xs.toList = some as) (hcall : ∀ args w, (callFunc f args).run P w = .ok (.enter f args) w)
 (h : DCall P G f (l.map (fun c => DV.one (.im c)) ++ as) S.objs (fun d objs' => K ({ S with objs := objs' }.put o.dst d))) : OpT P G o S K := by
 intro ro a M hr
 have hp := evalG_sound hr hx
 obtain ⟨hl, hrep⟩ := evals_sound hr _ _ ha
 generalize hv : a.eval x = v at hp
 cases hp with
 | one _ _ hp => cases hp with
   | im _ _ hp => cases hp with
     | bf _ _ vs h1 h2 =>
       have hrun : (execOp a.eval o).run P M.w = .ok (.enter f (vs ++ (xs.map a.eval))) M.w := by
        simp only [execOp, ho, Sem.run_bind, resolve, hv, Deferred.ofValue, Sem.run_pure, Result.andThen_ok, invoke, Array.append_empty, hcall]
       refine wpIn_enter hrun ?_
       refine (h M _ hr.m hr.ob (by simp [hl, h1]) fun j e u he hu => ?_).mono ?_
       ·have hsz : vs.size = (l.map (fun c => DV.one (.im c))).length := by simp [h1]
        by_cases hj : j < vs.size
        ·rw [List.getElem?_append_left (by omega)] at he
         rw [Array.getElem?_append_left hj] at hu
         rw [List.getElem?_map, Option.map_eq_some_iff] at he
         obtain ⟨c, hc, rfl⟩ := he
         exact .one _ _ (.im _ _ (h2 j c u hc hu))
        ·rw [List.getElem?_append_right (by omega)] at he
         rw [Array.getElem?_append_right (by omega), hsz] at hu
         refine hrep _ e u he ?_
         rw [← hu, ← Array.toList_map, Array.getElem?_toList]
       ·rintro e w' ⟨v, d, M', rfl, rfl, hm, hd, he, hk⟩
        have he' : Ext M.objs.length M M' := by rw [hr.ob]; exact he
        exact ⟨v, rfl, _, M', rfl, hr.put hm he' hd o.dst, he', put_defers _ _ _, hk⟩
def startT : List DV → Nat → List (Nat × DV)
 | [], _ => []
 | d :: r, i => (i, d) :: startT r (i + 1)
theorem startT_get : ∀ (l : List DV) (i t : Nat) (d : DV), tget (startT l i) t = some d → i ≤ t ∧ l[t - i]? = some d
 | [], i, t, d, h => by simp [startT, tget] at h
 | e :: r, i, t, d, h => by
   simp only [startT, tget] at h
   split at h
   ·rename_i hi
    subst hi
    cases h
    exact ⟨Nat.le_refl _, by simp⟩
   ·rename_i hne
    obtain ⟨h1, h2⟩ := startT_get r (i + 1) t d h
    refine ⟨by omega, ?_⟩
    have : t - i = (t - (i + 1)) + 1 := by omega
    rw [this, List.getElem?_cons_succ]; exact h2
def dresult (P : Program) (S : DS) : ResultVar → Option DV
 | .tmp t => tget S.tmps t
 | .cell t ty => match tget S.tmps t, tsz P ty, tag P ty with
   | some (.one p), some sz, some ag => match dload S.objs p sz with
     | some l => mkDV ag l
     | none => none
   | _, _, _ => none
def dresults (P : Program) (S : DS) : List ResultVar → Option (List DV)
 | [] => some []
 | x :: r => match dresult P S x, dresults P S r with
   | some d, some l => some (d :: l)
   | _, _ => none
def theResult : List DV → DV
 | [d] => d
 | l => .tup l
theorem runLoadVar {M : MS} (hm : RelM G M) {t : TypeId} {sz : Nat} {ag : Bool} {p : DC} {v : Value} {l : List DC} {d : DV} (hs : tsz P t = some sz) (hg : tag P t = some ag) (hp : RepC M p v) (hl : dload M.objs p sz = some l) (hd : mkDV ag l = some d) :
 ∃ ad u, v = .pointer (some ad) ∧ (loadVar t ad).run P M.w = .ok u M.w ∧ RepV M d u := by
 obtain ⟨ad, rfl, hsp, hlen, f, hc, hrep⟩ := dload_sound hm hp hl
 cases ag with
 | true =>
   simp only [mkDV, if_true, Option.some.injEq] at hd
   subst hd
   refine ⟨ad, .agg ((List.range sz).map f).toArray, rfl, ?_, .agg _ _ (by simp [hlen]) fun j c v h1 h2 => ?_⟩
   ·simp [loadVar, runIsAgg hg, runSizeOf hs, runLoadCells hsp f sz hc]
   ·simp only [List.getElem?_toArray, List.getElem?_map] at h2
    have hj : j < sz := by rw [← hlen]; exact lt_of_getElem? h1
    rw [List.getElem?_range hj] at h2
    simp only [Option.map_some, Option.some.injEq] at h2
    subst h2
    exact hrep j c h1
 | false =>
   simp only [mkDV, Bool.false_eq_true, if_false] at hd
   split at hd
   ·rename_i c
    cases hd
    have h0 := hc 0 (by simp at hlen; omega)
    refine ⟨ad, f 0, rfl, ?_, .one _ _ (hrep 0 c rfl)⟩
    have hcell : M.w.cell? ad = some (f 0) := by
     obtain ⟨b, off, s⟩ := ad
     simp only at hsp
     subst hsp
     exact h0
    simp [loadVar, runIsAgg hg, hcell]
   ·cases hd
def resVal (tmps : Array Value) : ResultVar → Sem Value
 | .tmp t => pure (tmps.getD t undef)
 | .cell b t => do loadVar t (← asAddr (tmps.getD b undef))
theorem results_eq (fn : Func) (tmps : Array Value) : results fn tmps = (do let vs ← fn.results.mapM (resVal tmps); pure (if h : vs.size = 1 then vs[0] else .tuple vs)) := by
 unfold results
 refine congrArg (fun (F : ResultVar → Sem Value) => ((do let vs ← fn.results.mapM F; pure (if h : vs.size = 1 then vs[0] else .tuple vs)) : Sem Value)) ?_
 funext x
 cases x <;> rfl
theorem dresults_sound {a : Act} {M : MS} (hr : Rel G S a M) : ∀ (xs : List ResultVar) (ds : List DV), dresults P S xs = some ds →
 ∃ vs : List Value, (xs.mapM (resVal a.tmps)).run P M.w = .ok vs M.w ∧ ds.length = vs.length ∧
  ∀ (j : Nat) (d : DV) (v : Value), ds[j]? = some d → vs[j]? = some v → RepV M d v
 | [], ds, h => by cases h; exact ⟨[], by simp, rfl, fun j d v h => by simp at h⟩
 | x :: xs, ds, h => by
   simp only [dresults] at h
   split at h
   ·rename_i d l hd hl
    cases h
    obtain ⟨vs, h1, h2, h3⟩ := dresults_sound hr xs l hl
    have : ∃ v, (resVal a.tmps x).run P M.w = .ok v M.w ∧ RepV M d v := by
     cases x with
     | tmp t =>
       obtain ⟨v, e1, e2⟩ := hr.tm t d hd
       exact ⟨v, by simp [resVal, Array.getD_eq_getD_getElem?, e1], e2⟩
     | cell b t =>
       simp only [dresult] at hd
       split at hd
       ·rename_i p sz ag e1 e2 e3
        split at hd
        ·rename_i ll hll
         obtain ⟨v, e4, e5⟩ := hr.tm b _ e1
         cases e5 with
         | one _ _ e5 =>
           obtain ⟨ad, u, rfl, hrun, hu⟩ := runLoadVar hr.m e2 e3 e5 (by rw [hr.ob]; exact hll) hd
           exact ⟨u, by simp [resVal, Array.getD_eq_getD_getElem?, e4, asAddr, hrun], hu⟩
        ·cases hd
       ·cases hd
    obtain ⟨v, e1, e2⟩ := this
    refine ⟨v :: vs, ?_, by simp [h2], fun j e u he hu => ?_⟩
    ·rw [List.mapM_cons, Sem.run_bind, e1, Result.andThen_ok, Sem.run_bind, h1]
     rfl
    ·cases j with
     | zero => simp at he hu; subst he; subst hu; exact e2
     | succ j => exact h3 j e u (by simpa using he) (by simpa using hu)
   ·cases h
def FnQ (P : Program) (rs : List ResultVar) (Q : DV → List DObj → Prop) (e : Exit) (S : DS) : Prop := (e = .normal ∨ e = .ret) ∧ ∃ ds, dresults P S rs = some ds ∧ Q (theResult ds) S.objs
theorem At.fn_ret {rs : List ResultVar} {Q : DV → List DObj → Prop} {ds : List DV} (h : dresults P S rs = some ds) (hq : Q (theResult ds) S.objs) : At (FnQ P rs Q) .ret ⟨⟩ S := ⟨.inr rfl, ds, h, hq⟩
theorem At.fn_end {rs : List ResultVar} {Q : DV → List DObj → Prop} {ds : List DV} (h : dresults P S rs = some ds) (hq : Q (theResult ds) S.objs) : At (FnQ P rs Q) .normal ⟨⟩ S := ⟨.inl rfl, ds, h, hq⟩
theorem DCall_intro {f : FuncId} {fn : Func} {c : Code} {nt : Nat} {args : List DV} {objs : List DObj} {Q : DV → List DObj → Prop} (hf : P.funcs[f]? = some fn) (hb : fn.body = some c) (hnt : fn.ntmps = nt) (hargs : args.length ≤ nt) {rs : List ResultVar} (hrs : fn.results.toList = rs)
 (h : DT P G ⟨objs.length, none⟩ c ⟨nt, startT args 0, objs⟩ (FnQ P rs Q)) : DCall P G f args objs Q := by
 subst hrs
 intro M vs hm hob hvs hrep
 refine (callsIn_wide (n := 0)).1 (callsIn_of_wp_marks hf hb trivial ?_)
 have hrel : Rel G ⟨nt, startT args 0, objs⟩ { tmps := vs ++ Array.replicate (fn.ntmps - vs.size) undef, defers := [] } M := by
  refine ⟨hm, hob, by simp [hnt, hvs]; omega, ⟨[], rfl, by simp, by simp⟩, fun t d ht => ?_⟩
  obtain ⟨_, h2⟩ := startT_get args 0 t d ht
  simp only [Nat.sub_zero] at h2
  have hlt := lt_of_getElem? h2
  have hv : vs[t]? = some vs[t] := by simp [hvs, hlt]
  refine ⟨vs[t], ?_, hrep t d _ h2 hv⟩
  rw [Array.getElem?_append_left (by omega)]
  exact hv
 refine wpIn_mono (h (Nat.le_refl _) (fun o ho => by cases ho) _ M hrel) ?_
 rintro e a' w' ⟨S', M', rfl, hr', he, hnd, hen, ds, hds, hq⟩
 obtain ⟨Ds, hD1, hD2, hD3⟩ := hr'.df
 obtain ⟨hmS, hbS, hsS⟩ := hr'.m.shut (ds := Ds) (fun D hD => (hD3 D hD).1)
 have hge : ∀ D ∈ Ds, M.w.heap.size ≤ D := fun D hD => by
  rcases hnd (mark D) (by rw [hD1]; exact List.mem_map.2 ⟨D, hD, rfl⟩) with h1 | ⟨D', h1, h2⟩
  ·cases h1
  ·simp only [mark, Deferred.mk.injEq, Target.collected.injEq, and_true] at h1; subst h1; exact h2
 have hext : Ext objs.length M { M' with w := shutD Ds M'.w } := by
  obtain ⟨hs1, hs2⟩ := shutD_spec Ds M'.w
  have hbs : ∀ b, ¬ M'.F b → bsize (shutD Ds M'.w) b = bsize M'.w b := fun b hb' => by simp only [bsize, hbS b hb']
  refine ⟨he.len, fun b hb => ?_, ⟨he.other.1, he.other.2⟩, by simpa [hsS] using he.hs, he.row, fun o ho sz es' g nl hv => ?_, he.map, he.lp, he.it, he.lp', he.io.trans (shutD_io Ds M'.w)⟩
  ·obtain ⟨h1, h2⟩ := he.free b hb
   refine ⟨⟨by simpa [hsS] using h1.1, h1.2⟩, ?_⟩
   rw [← h2]
   exact hs2 b fun hD => absurd (hge b hD) (Nat.not_le.2 hb.1)
  ·obtain ⟨sz0, es, g0, nl0, a1, a2, a3⟩ := he.vec o ho sz es' g nl hv
   refine ⟨sz0, es, g0, nl0, a1, a2, fun e => ?_⟩
   obtain ⟨b1, b2, b3⟩ := a3 e
   refine ⟨b1, b2, fun hn => ⟨(b3 hn).1, ?_⟩⟩
   simp only
   rw [hbs _ (hr'.m.own o _ hv (by simp [DObj.blk, hn]))]; exact (b3 hn).2
 have hrS : Rel G S' { a' with defers := [] } { M' with w := shutD Ds M'.w } := by
  refine ⟨hmS, hr'.ob, hr'.nt, ⟨[], rfl, by simp, by simp⟩, fun t d ht => ?_⟩
  obtain ⟨v, h1, h2⟩ := hr'.tm t d ht
  exact ⟨v, h1, h2.shut hr'.m (fun D hD => (hD3 D hD).1)⟩
 obtain ⟨us, h1, h2, h3⟩ := dresults_sound hrS _ _ hds
 have hres : ∃ v, (results fn a'.tmps).run P (shutD Ds M'.w) = .ok v (shutD Ds M'.w) ∧ RepV { M' with w := shutD Ds M'.w } (theResult ds) v := by
  have hrun : (results fn a'.tmps).run P (shutD Ds M'.w) = .ok (if h : us.toArray.size = 1 then us.toArray[0] else .tuple us.toArray) (shutD Ds M'.w) := by
   rw [results_eq, Array.mapM_eq_mapM_toList, Sem.run_bind, Sem.run_map, h1]
   rfl
  refine ⟨_, hrun, ?_⟩
  match ds, us, h2, h3 with
  | [d], [u], _, h3 => exact h3 0 d u rfl rfl
  | [], [], _, h3 => exact .tup _ _ rfl (fun j d v h => by simp at h)
  | d1 :: d2 :: r, u1 :: u2 :: r', h2, h3 =>
    have hne : ¬ ((u1 :: u2 :: r').toArray.size = 1) := by simp
    rw [dif_neg hne]
    exact .tup _ _ (by simpa using h2) (fun j d v h5 h6 => h3 j d v h5 (by simpa using h6))
 obtain ⟨v, hv1, hv2⟩ := hres
 have hQ : LeavesInM Fence.wide 0 P fn a'.tmps (fun e w' => ∃ v d M', e = .returned v ∧ M'.w = w' ∧ RelM G M' ∧ RepV M' d v ∧ Ext objs.length M M' ∧ Q d M'.objs) a'.defers .returning M'.w := by
  rw [hD1]
  exact leavesM Ds _ hD2 (fun D hD => (hD3 D hD).2) ⟨v, hv1, v, _, _, rfl, rfl, hmS, hv2, hext, by rw [← hr'.ob] at hq; exact hq⟩
 rcases hen with rfl | rfl <;> exact hQ
end
end Go.Ab
namespace Go.Ab
open Go
def mapO {α β : Type} (f : α → Option β) : List α → Option (List β)
 | [] => some []
 | x :: r => match f x, mapO f r with
   | some y, some l => some (y :: l)
   | _, _ => none
theorem mapO_spec {α β : Type} {f : α → Option β} : ∀ {l : List α} {r : List β}, mapO f l = some r → r.length = l.length ∧ ∀ (i : Nat) (y : β), r[i]? = some y → ∃ x, l[i]? = some x ∧ f x = some y
 | [], r, h => by cases h; exact ⟨rfl, fun i y h => by simp at h⟩
 | x :: l, r, h => by
   simp only [mapO] at h
   split at h
   ·rename_i y l' hy hl
    cases h
    obtain ⟨h1, h2⟩ := mapO_spec hl
    refine ⟨by simp [h1], fun i z hz => ?_⟩
    cases i with
    | zero => simp at hz; subst hz; exact ⟨x, rfl, hy⟩
    | succ i => obtain ⟨w, h3, h4⟩ := h2 i z (by simpa using hz); exact ⟨w, by simpa using h3, h4⟩
   ·cases h
def frz : Nat → Nat → List DObj → DC → Option IC
 | 0, _, _, _ => none
 | k + 1, n, objs, d => match d with
   | .im c => some c
   | .ptr o off => if n ≤ o then match objs[o]? with
    | some (.row c) => if off ≤ c.length then (mapO (frz k n objs) (c.drop off)).map .ip else none
    | _ => none
     else none
   | .ept o g i off => if n ≤ o then match objs[o]? with
    | some (.vec _ es g' _) => if g = g' then match es[i]? with
     | some x => if off ≤ x.length then (mapO (frz k n objs) (x.drop off)).map .ip else none
     | none => none
      else none
    | _ => none
     else none
   | .vec o g off len => if n ≤ o then match objs[o]? with
    | some (.vec _ es g' _) => if g = g' ∧ off + len ≤ es.length then (mapO (mapO (frz k n objs)) ((es.drop off).take len)).map .sl else none
    | _ => none
     else none
   | .fn f caps => (mapO (frz k n objs) caps).map (.fn f)
   | .map o => if n ≤ o then match objs[o]? with
    | some (.map ks es) => (mapO (fun x => (mapO (frz k n objs) x.2).map fun l => (x.1, l)) es).map (.mp (ckBase ks))
    | _ => none
     else none
   | _ => none
theorem frz_sound {G : Nat → Option (List IC)} {M : MS} (hm : RelM G M) {n : Nat} {ok' : Nat → Prop} (h1 : ∀ b, M.ok b → ok' b) (h2 : ∀ o d, n ≤ o → M.objs[o]? = some d → d.blk = true → ok' (M.β o)) :
 ∀ (k : Nat) (d : DC) (c : IC) (v : Value), RepC M d v → frz k n M.objs d = some c → RepI M.w ok' c v := by
 intro k
 induction k with
 | zero => intro d c v _ h; cases h
 | succ k ih =>
   intro d c v hp h
   unfold frz at h
   split at h
   ·cases h
    cases hp with
    | im _ _ hp => exact hp.mono fun b hb => ⟨h1 b hb, rfl⟩
   ·rename_i o off
    split at h
    ·rename_i hn
     split at h
     ·rename_i cs ho
      split at h
      ·rename_i hle
       simp only [Option.map_eq_some_iff] at h
       obtain ⟨l, hl, rfl⟩ := h
       obtain ⟨hlen, hget⟩ := mapO_spec hl
       cases hp with
       | ptr _ _ _ a1 a2 a3 =>
         obtain ⟨ca, T, b1, b2, b3⟩ := hm.objs o _ ho
         rw [a3 cs ho]
         have key : ∀ (j : Nat) (y : IC), l[j]? = some y → ∃ x, cs[off + j]? = some x ∧ frz k n M.objs x = some y ∧ ca[off + j]? = some ((ca[off + j]?).getD undef) := fun j y hj => by
          obtain ⟨x, hx, hfx⟩ := hget j y hj
          rw [List.getElem?_drop] at hx
          have hlt := lt_of_getElem? hx
          exact ⟨x, hx, hfx, by simp [b2, hlt]⟩
         refine .ip l _ (fun j => (ca[off + j]?).getD undef) rfl (h2 o _ hn ho rfl) (fun j y hj => ?_) (fun j y hj => ?_)
         ·obtain ⟨x, _, _, h5⟩ := key j y hj
          simp only [World.cell?, b1]
          simpa using h5
         ·obtain ⟨x, h3, h4, h5⟩ := key j y hj
          exact ih x y _ (b3 _ x _ h3 h5) h4
      ·cases h
     ·cases h
    ·cases h
   ·rename_i o g i off
    split at h
    ·rename_i hn
     split at h
     ·rename_i sz es g' nl ho
      split at h
      ·rename_i hg
       subst hg
       split at h
       ·rename_i xs hxs
        split at h
        ·rename_i hle
         simp only [Option.map_eq_some_iff] at h
         obtain ⟨l, hl, rfl⟩ := h
         obtain ⟨hlen, hget⟩ := mapO_spec hl
         cases hp with
         | ept _ _ _ _ _ a1 a2 a3 =>
           obtain ⟨_, a4⟩ := a3 _ _ _ _ ho
           obtain ⟨rfl, rfl⟩ := a4 rfl
           obtain ⟨_, hf⟩ := hm.objs o _ ho
           obtain ⟨h0, ca, T, b1, b2, b3, b4⟩ := hf rfl
           have hxl := b3 i xs hxs
           have hi := lt_of_getElem? hxs
           have hmul : (i + 1) * sz ≤ es.length * sz := Nat.mul_le_mul_right sz hi
           rw [Nat.add_mul, Nat.one_mul] at hmul
           have key : ∀ (j : Nat) (y : IC), l[j]? = some y → ∃ x, xs[off + j]? = some x ∧ frz k n M.objs x = some y ∧ ca[i * sz + off + j]? = some ((ca[i * sz + off + j]?).getD undef) := fun j y hj => by
            obtain ⟨x, hx, hfx⟩ := hget j y hj
            rw [List.getElem?_drop] at hx
            have hlt := lt_of_getElem? hx
            have : i * sz + off + j < ca.size := by omega
            exact ⟨x, hx, hfx, by simp [this]⟩
           refine .ip l _ (fun j => (ca[i * sz + off + j]?).getD undef) rfl (h2 o _ hn ho rfl) (fun j y hj => ?_) (fun j y hj => ?_)
           ·obtain ⟨x, _, _, h5⟩ := key j y hj
            simp only [World.cell?, b1]
            simpa using h5
           ·obtain ⟨x, h3, h4, h5⟩ := key j y hj
            exact ih x y _ (b4 i xs (off + j) x _ hxs h3 (by rw [← Nat.add_assoc]; exact h5)) h4
        ·cases h
       ·cases h
      ·cases h
     ·cases h
    ·cases h
   ·rename_i o g off len
    split at h
    ·rename_i hn
     split at h
     ·rename_i sz es g' nl ho
      split at h
      ·rename_i hg
       obtain ⟨rfl, hle⟩ := hg
       simp only [Option.map_eq_some_iff] at h
       obtain ⟨l, hl, rfl⟩ := h
       obtain ⟨hlen, hget⟩ := mapO_spec hl
       have hlen' : l.length = len := by rw [hlen]; simp; omega
       cases hp with
       | vec _ _ _ _ _ a1 a2 a3 =>
         obtain ⟨_, a4⟩ := a3 _ _ _ _ ho
         obtain ⟨a5, a6⟩ := a4 rfl
         obtain ⟨hnil, hf⟩ := hm.objs o _ ho
         rcases Bool.eq_false_or_eq_true nl with hnl | hnl
         ·obtain ⟨rfl, rfl, rfl⟩ := a5 hnl
          have : l = [] := List.eq_nil_of_length_eq_zero hlen'
          subst this
          exact .slnil
         ·obtain ⟨xo, cap, rfl, hlc, hxo, hbs⟩ := a6 hnl
          obtain ⟨h0, ca, T, b1, b2, b3, b4⟩ := hf hnl
          rw [← hlen']
          have key : ∀ (i : Nat) (x : List IC), l[i]? = some x → ∃ e, es[off + i]? = some e ∧ e.length = sz ∧ x.length = sz ∧ ∀ (j : Nat) (y : IC), x[j]? = some y → ∃ d, e[j]? = some d ∧ frz k n M.objs d = some y := fun i x hi => by
           obtain ⟨e, he, hfe⟩ := hget i x hi
           rw [List.getElem?_take] at he
           split at he
           ·rw [List.getElem?_drop] at he
            obtain ⟨h3, h4⟩ := mapO_spec hfe
            have h5 := b3 _ e he
            exact ⟨e, he, h5, by rw [h3]; exact h5, h4⟩
           ·cases he
          have cell : ∀ (i : Nat) (x : List IC) (j : Nat) (y : IC), l[i]? = some x → x[j]? = some y → ca[(off + i) * sz + j]? = some ((ca[(off + i) * sz + j]?).getD undef) ∧ xo + i * sz + j = (off + i) * sz + j := fun i x j y hi hj => by
           obtain ⟨e, he, h5, h6, h7⟩ := key i x hi
           have hlt := lt_of_getElem? he
           have hj2 := lt_of_getElem? hj
           have hmul : (off + i + 1) * sz ≤ es.length * sz := Nat.mul_le_mul_right sz hlt
           rw [Nat.add_mul, Nat.one_mul] at hmul
           have hin : (off + i) * sz + j < ca.size := by omega
           have hcap : cap ≠ 0 := by
            rintro rfl
            have : l.length = 0 := by omega
            have := lt_of_getElem? hi
            omega
           refine ⟨by simp [hin], ?_⟩
           rw [hxo.resolve_left hcap, Nat.add_mul]
          refine .sl l _ cap sz (fun i j => (ca[(off + i) * sz + j]?).getD undef) rfl (fun _ => h2 o _ hn ho (by simp [DObj.blk, hnl])) (by omega) (fun i x hi => (key i x hi).choose_spec.2.2.1) (fun i x j y hi hj => ?_) (fun i x j y hi hj => ?_)
          ·obtain ⟨c1, c2⟩ := cell i x j y hi hj
           simp only [World.cell?, b1]
           rw [c2]
           simpa using c1
          ·obtain ⟨c1, c2⟩ := cell i x j y hi hj
           obtain ⟨e, he, h5, h6, h7⟩ := key i x hi
           obtain ⟨d, hd, hfd⟩ := h7 j y hj
           exact ih d y _ (b4 _ e j d _ he hd c1) hfd
      ·cases h
     ·cases h
    ·cases h
   ·rename_i f caps
    simp only [Option.map_eq_some_iff] at h
    obtain ⟨l, hl, rfl⟩ := h
    obtain ⟨hlen, hget⟩ := mapO_spec hl
    cases hp with
    | fn _ _ vs a1 a2 =>
      refine .fn f l vs (by omega) fun j c v hj hv => ?_
      obtain ⟨x, hx, hfx⟩ := hget j c hj
      exact ih x c v (a2 j x v hx hv) hfx
   ·rename_i o
    split at h
    ·rename_i hn
     split at h
     ·rename_i ks es ho
      simp only [Option.map_eq_some_iff] at h
      obtain ⟨l, hl, rfl⟩ := h
      obtain ⟨hlen, hget⟩ := mapO_spec hl
      cases hp with
      | map _ _ a1 a2 a3 =>
        obtain ⟨ents, clock, b1, b2, b3, b4, b5⟩ := hm.objs o _ ho
        rw [a3 _ _ ho]
        have key : ∀ (i : Nat) (y : List Value × List IC), l[i]? = some y → ∃ x e, es[i]? = some x ∧ ents[i]? = some e ∧ y.1 = x.1 ∧ y.2.length = x.2.length ∧ (∀ (j : Nat) (c : IC), y.2[j]? = some c → ∃ d, x.2[j]? = some d ∧ frz k n M.objs d = some c) ∧ RepE M x e := fun i y hi => by
         obtain ⟨x, hx, hfx⟩ := hget i y hi
         simp only [Option.map_eq_some_iff] at hfx
         obtain ⟨l2, hl2, rfl⟩ := hfx
         obtain ⟨h3, h4⟩ := mapO_spec hl2
         have hlt : i < ents.size := by rw [b4]; exact lt_of_getElem? hx
         have he : ents[i]? = some ents[i] := by simp [hlt]
         exact ⟨x, _, hx, he, rfl, h3, h4, b5 i x _ hx he⟩
        refine .mp (ckBase ks) l (M.β o) ents clock (fun i j => (((ents[i]?).map (·.val.cells)).bind (·[j]?)).getD undef) (h2 o _ hn ho rfl) b1 b2.1 (fun y hy => ?_) (by rw [b4, hlen]) (fun i y e hi he => ?_) (fun i y j c hi hj => ?_)
        ·obtain ⟨i, hi⟩ := List.mem_iff_getElem?.1 hy
         obtain ⟨x, e, g1, g2, g3, _⟩ := key i y hi
         rw [g3]; exact b3 x (List.mem_of_getElem? g1)
        ·obtain ⟨x, e', g1, g2, g3, g4, g5, g6, g7, g8⟩ := key i y hi
         rw [he] at g2; cases g2
         refine ⟨by rw [g6, g3], ?_⟩
         have hcells : e.val = keyV e.val.cells.toList ∧ e.val.cells.size = x.2.length := by
          generalize e.val = v at g8
          match hx2 : x.2, g8 with
          | [c], g8 => cases g8 with
            | one _ _ hc => have := hc.isOne; cases v <;> first | (exact ⟨rfl, rfl⟩) | (simp [isOne] at this)
          | [], g8 => cases g8 with
            | agg _ cs hl2 _ =>
              have : cs = #[] := Array.eq_empty_of_size_eq_zero (by simpa using hl2.symm)
              subst this; exact ⟨rfl, rfl⟩
          | a :: b :: r, g8 => cases g8 with
            | agg _ cs hl2 _ =>
              refine ⟨?_, by simpa [Value.cells] using hl2.symm⟩
              simp only [Value.cells]
              match hcs : cs.toList with
              | [] => have := congrArg List.length hcs; simp at this; simp [this] at hl2
              | [c] => have := congrArg List.length hcs; simp at this; simp [this] at hl2
              | c1 :: c2 :: r2 => simp only [keyV]; rw [← hcs]
         rw [hcells.1]
         congr 1
         refine List.ext_getElem? fun j => ?_
         rw [List.getElem?_map]
         by_cases hj : j < y.2.length
         ·rw [List.getElem?_range hj]
          have : j < e.val.cells.size := by rw [hcells.2, ← g4]; exact hj
          simp [he, this]
         ·rw [List.getElem?_eq_none (by simp; omega), List.getElem?_eq_none (by simp; omega)]; rfl
        ·obtain ⟨x, e, g1, g2, g3, g4, g5, g6, g7, g8⟩ := key i y hi
         obtain ⟨d, hd, hfd⟩ := g5 j c hj
         have : ∃ v, e.val.cells[j]? = some v ∧ RepC M d v := by
          generalize e.val = v at g8
          match hx2 : x.2, g8 with
          | [c0], g8 => cases g8 with
            | one _ _ hc =>
              rw [hx2] at hd
              cases j with
              | zero =>
                simp at hd; subst hd
                have := hc.isOne
                cases v <;> first | exact ⟨_, rfl, hc⟩ | (simp [isOne] at this)
              | succ j => simp at hd
          | [], g8 => rw [hx2] at hd; simp at hd
          | a :: b :: r, g8 => cases g8 with
            | agg _ cs hl2 hcs =>
              rw [hx2] at hd
              have hlt : j < cs.size := by rw [← hl2]; exact lt_of_getElem? hd
              exact ⟨cs[j], by simp [Value.cells, hlt], hcs j d _ hd (by simp [hlt])⟩
         obtain ⟨v, hv1, hv2⟩ := this
         have := ih d c v hv2 hfd
         simpa [g2, hv1] using this
     ·cases h
    ·cases h
   ·cases h
mutual
def DC.lt (n : Nat) : DC → Bool
 | .im _ => true
 | .ptr o _ => decide (o < n)
 | .ept o _ _ _ => decide (o < n)
 | .vec o _ _ _ => decide (o < n)
 | .fn _ caps => DC.ltL n caps
 | .map o => decide (o < n)
 | .yld o => decide (o < n)
 | .itr o => decide (o < n)
 | .dead => true
def DC.ltL (n : Nat) : List DC → Bool
 | [] => true
 | c :: r => DC.lt n c && DC.ltL n r
end
theorem DC.ltL_get {n : Nat} : ∀ {l : List DC} {j : Nat} {c : DC}, DC.ltL n l = true → l[j]? = some c → DC.lt n c = true
 | [], j, c, _, h => by simp at h
 | d :: l, j, c, h, hj => by
   simp only [DC.ltL, Bool.and_eq_true] at h
   cases j with
   | zero => simp at hj; subst hj; exact h.1
   | succ j => exact DC.ltL_get h.2 (by simpa using hj)
def fz (n : Nat) (objs : List DObj) (d : DC) : DC :=
 match d with
 | .im c => .im c
 | d => if d.lt n then d else match frz 20 n objs d with
   | some c => .im c
   | none => .dead
mutual
def fzV (n : Nat) (objs : List DObj) : DV → DV
 | .one c => .one (fz n objs c)
 | .agg l => .agg (l.map (fz n objs))
 | .tup l => .tup (fzVL n objs l)
def fzVL (n : Nat) (objs : List DObj) : List DV → List DV
 | [] => []
 | d :: r => fzV n objs d :: fzVL n objs r
end
theorem fzVL_map (n : Nat) (objs : List DObj) : ∀ (l : List DV), fzVL n objs l = l.map (fzV n objs)
 | [] => rfl
 | d :: r => by rw [fzVL, fzVL_map n objs r]; rfl
theorem get_map {f : DV → DV} : ∀ {l : List (Nat × DV)} {t : Nat} {d : DV}, tget (l.map fun x => (x.1, f x.2)) t = some d → ∃ d0, tget l t = some d0 ∧ d = f d0
 | [], t, d, h => by simp [tget] at h
 | x :: l, t, d, h => by
   simp only [List.map_cons, tget] at h ⊢
   split at h
   ·rename_i ht; cases h; exact ⟨x.2, by rw [if_pos ht], rfl⟩
   ·rename_i ht; obtain ⟨d0, h1, h2⟩ := get_map h; exact ⟨d0, by rw [if_neg ht]; exact h1, h2⟩
def fzO (n : Nat) (objs : List DObj) : DObj → DObj
 | .row c => .row (c.map (fz n objs))
 | .vec sz es g nl => .vec sz (es.map (·.map (fz n objs))) g nl
 | .map ks es => .map ks (es.map fun x => (x.1, x.2.map (fz n objs)))
 | .loop r => .loop { r with tm := r.tm.map fun x => (x.1, fzV n objs x.2) }
 | .iter l c => .iter l c
 | .liter b s c => .liter b s c
 | .gone => .gone
def dropO (n : Nat) (objs : List DObj) : List DObj := (objs.take n).map (fzO n objs)
theorem fzO_blk {n : Nat} {objs : List DObj} (d : DObj) : (fzO n objs d).blk = d.blk := by cases d <;> rfl
def MS.drop (M : MS) (n : Nat) : MS := { M with objs := dropO n M.objs }
theorem dropO_get {n o : Nat} {objs : List DObj} {d' : DObj} (h : (dropO n objs)[o]? = some d') : o < n ∧ ∃ d, objs[o]? = some d ∧ d' = fzO n objs d := by
 unfold dropO at h
 rw [List.getElem?_map, Option.map_eq_some_iff] at h
 obtain ⟨d, h1, rfl⟩ := h
 rw [List.getElem?_take] at h1
 split at h1
 ·exact ⟨by assumption, d, h1, rfl⟩
 ·cases h1
theorem dropO_get' {n o : Nat} {objs : List DObj} {d : DObj} (hn : o < n) (h : objs[o]? = some d) : (dropO n objs)[o]? = some (fzO n objs d) := by
 unfold dropO
 rw [List.getElem?_map, List.getElem?_take, if_pos hn, h]; rfl
theorem drop_live {M : MS} {n b : Nat} (h : (M.drop n).live b) : M.live b := by
 obtain ⟨o, d', ho, hb, hβ⟩ := h
 obtain ⟨_, d, h1, rfl⟩ := dropO_get ho
 exact ⟨o, d, h1, by rw [← fzO_blk]; exact hb, hβ⟩
theorem drop_free {M : MS} {n b : Nat} (h : M.free b) : (M.drop n).free b := ⟨h.1, fun hl => h.2 (drop_live hl)⟩
theorem drop_ok {M : MS} {n b : Nat} (h : M.ok b) : (M.drop n).ok b := ⟨drop_free h.1, h.2⟩
theorem drop_ok' {G : Nat → Option (List IC)} {M : MS} (hm : RelM G M) {n o : Nat} {d : DObj} (hn : n ≤ o) (ho : M.objs[o]? = some d) (hb : d.blk = true) : (M.drop n).ok (M.β o) := by
 refine ⟨⟨hm.lt o d ho hb, ?_⟩, hm.own o d ho hb⟩
 rintro ⟨p, e', hp, he, hβ⟩
 obtain ⟨hlt, e, h1, rfl⟩ := dropO_get hp
 have := hm.inj p o e d h1 ho (by rw [← fzO_blk]; exact he) hb hβ
 omega
theorem Ext.drop {M : MS} {n : Nat} (hn : n ≤ M.objs.length) : Ext n M (M.drop n) := by
 refine ⟨by simp [MS.drop, dropO]; omega, fun b h => ⟨drop_free h, rfl⟩, Fsame M, Nat.le_refl _, fun o ho c' hc => ?_, fun o ho sz es' g nl hv => ?_, fun o ho ks es' hm => ?_, fun o ho r' hm => ?_, fun o ho d' hm hi => ?_, fun o ho r hm => ?_, ⟨rfl, rfl, rfl, by first | exact Nat.le_refl _ | exact Nat.le_succ _⟩⟩
 ·obtain ⟨_, d, h1, h2⟩ := dropO_get hc
  cases d <;> simp [fzO] at h2
  exact ⟨⟨_, h1⟩, rfl⟩
 ·obtain ⟨_, d, h1, h2⟩ := dropO_get hv
  cases d <;> simp [fzO] at h2
  obtain ⟨rfl, _, rfl, rfl⟩ := h2
  exact ⟨_, _, _, _, h1, Nat.le_refl _, fun _ => ⟨rfl, rfl, fun _ => ⟨rfl, rfl⟩⟩⟩
 ·obtain ⟨_, d, h1, h2⟩ := dropO_get hm
  cases d <;> simp [fzO] at h2
  exact ⟨⟨_, _, h1⟩, rfl⟩
 ·obtain ⟨_, d, h1, h2⟩ := dropO_get hm
  cases d <;> simp [fzO] at h2
  exact ⟨⟨_, h1⟩, rfl⟩
 ·obtain ⟨_, d, h1, h2⟩ := dropO_get hm
  exact ⟨⟨_, h1, by cases d <;> simp_all [fzO, DObj.isIt]⟩, rfl⟩
 ·exact ⟨⟨_, dropO_get' ho hm⟩, rfl⟩
theorem RepC.drop_lt {M : MS} {n : Nat} (hn : n ≤ M.objs.length) {d : DC} {v : Value} (r : RepC M d v) (hl : d.lt n = true) : RepC (M.drop n) d v := by
 have hlen : (M.drop n).objs.length = n := by simp [MS.drop, dropO]; omega
 induction r with
 | im c v h => exact .im _ _ (h.mono fun b hb => ⟨drop_ok hb, rfl⟩)
 | ptr o off v h1 h2 h3 =>
   have ho : o < n := by simpa [DC.lt] using hl
   refine .ptr o off v h1 (by omega) fun c hc => ?_
   obtain ⟨_, d, h4, h5⟩ := dropO_get hc
   cases d <;> simp [fzO] at h5
   exact h3 _ h4
 | ept o g i off v h1 h2 h3 =>
   have ho : o < n := by simpa [DC.lt] using hl
   refine .ept o g i off v h1 (by omega) fun sz es g' nl hc => ?_
   obtain ⟨_, d, h4, h5⟩ := dropO_get hc
   cases d <;> simp [fzO] at h5
   obtain ⟨rfl, _, rfl, rfl⟩ := h5
   exact h3 _ _ _ _ h4
 | vec o g off len v h1 h2 h3 =>
   have ho : o < n := by simpa [DC.lt] using hl
   refine .vec o g off len v h1 (by omega) fun sz es g' nl hc => ?_
   obtain ⟨_, d, h4, h5⟩ := dropO_get hc
   cases d <;> simp [fzO] at h5
   obtain ⟨rfl, _, rfl, rfl⟩ := h5
   exact h3 _ _ _ _ h4
 | fn f caps vs h1 _ ih =>
   refine .fn f caps vs h1 fun j c v hj hv => ih j c v hj hv ?_
   rw [DC.lt] at hl
   exact DC.ltL_get hl hj
 | map o v h1 h2 h3 =>
   have ho : o < n := by simpa [DC.lt] using hl
   refine .map o v h1 (by omega) fun ks es hc => ?_
   obtain ⟨_, d, h4, h5⟩ := dropO_get hc
   cases d <;> simp [fzO] at h5
   exact h3 _ _ h4
 | yld o v h1 h2 h3 =>
   have ho : o < n := by simpa [DC.lt] using hl
   refine .yld o v h1 (by omega) fun r hc => ?_
   obtain ⟨_, d, h4, h5⟩ := dropO_get hc
   cases d <;> simp [fzO] at h5
   exact h3 _ h4
 | itr o v h1 h2 h3 =>
   have ho : o < n := by simpa [DC.lt] using hl
   refine .itr o v h1 (by omega) fun d' hc hi => ?_
   obtain ⟨_, d, h4, h5⟩ := dropO_get hc
   exact h3 _ h4 (by cases d <;> simp_all [fzO, DObj.isIt])
 | dead v h => exact .dead v h
theorem RepC.drop {G : Nat → Option (List IC)} {M : MS} (hm : RelM G M) {n : Nat} (hn : n ≤ M.objs.length) {d : DC} {v : Value} (r : RepC M d v) : RepC (M.drop n) (fz n M.objs d) v := by
 have key : RepC (M.drop n) (if d.lt n then d else match frz 20 n M.objs d with
  | some c => .im c
  | none => .dead) v := by
  split
  ·rename_i hl; exact r.drop_lt hn hl
  ·split
   ·rename_i c hc
    exact .im _ _ (frz_sound hm (fun b hb => drop_ok hb) (fun o d ho h1 h2 => drop_ok' hm ho h1 h2) 20 d c v r hc)
   ·exact .dead _ r.isOne
 unfold fz
 cases d with
 | im c => exact r.drop_lt hn (by simp [DC.lt])
 | _ => exact key
theorem RepV.drop {G : Nat → Option (List IC)} {M : MS} (hm : RelM G M) {n : Nat} (hn : n ≤ M.objs.length) {d : DV} {v : Value} (r : RepV M d v) : RepV (M.drop n) (fzV n M.objs d) v := by
 induction r with
 | one c v h => rw [fzV]; exact .one _ _ (h.drop hm hn)
 | agg l cs h1 h2 =>
   rw [fzV]
   refine .agg _ _ (by simpa using h1) fun j c v hc hv => ?_
   rw [List.getElem?_map, Option.map_eq_some_iff] at hc
   obtain ⟨c0, h3, rfl⟩ := hc
   exact (h2 j c0 v h3 hv).drop hm hn
 | tup l vs h1 _ ih =>
   rw [fzV, fzVL_map]
   refine .tup _ _ (by simpa using h1) fun j d v hd hv => ?_
   rw [List.getElem?_map, Option.map_eq_some_iff] at hd
   obtain ⟨d0, h3, rfl⟩ := hd
   exact ih j d0 v h3 hv
theorem RelM.drop {G : Nat → Option (List IC)} {M : MS} (hm : RelM G M) {n : Nat} (hn : n ≤ M.objs.length) : RelM G (M.drop n) := by
 refine ⟨fun o d' ho => ?_, fun o d' ho hb => ?_, fun o o' d1 d2 ho ho' hb hb' hβ => ?_, fun g l hg => (hm.glob g l hg).mono fun b hb => ⟨drop_ok hb, rfl⟩, hm.fl, fun o d' ho hb => ?_⟩
 ·obtain ⟨hlt, d, h1, rfl⟩ := dropO_get ho
  have hr := hm.objs o d h1
  cases d with
  | row cells =>
    obtain ⟨c, T, a1, a2, a3⟩ := hr
    refine ⟨c, T, a1, by simpa using a2, fun j d v hd hv => ?_⟩
    rw [List.getElem?_map, Option.map_eq_some_iff] at hd
    obtain ⟨d0, h2, rfl⟩ := hd
    exact (a3 j d0 v h2 hv).drop hm hn
  | vec sz es g nl =>
    obtain ⟨a0, hf⟩ := hr
    refine ⟨fun h => by simp [a0 h], fun hnl => ?_⟩
    obtain ⟨h0, c, T, a1, a2, a3, a4⟩ := hf hnl
    refine ⟨h0, c, T, a1, by simpa using a2, fun i x hx => ?_, fun i x j d v hx hd hv => ?_⟩
    ·rw [List.getElem?_map, Option.map_eq_some_iff] at hx
     obtain ⟨x0, h2, rfl⟩ := hx
     simpa using a3 i x0 h2
    ·rw [List.getElem?_map, Option.map_eq_some_iff] at hx
     obtain ⟨x0, h2, rfl⟩ := hx
     rw [List.getElem?_map, Option.map_eq_some_iff] at hd
     obtain ⟨d0, h3, rfl⟩ := hd
     exact (a4 i x0 j d0 v h2 h3 hv).drop hm hn
  | map ks es =>
    obtain ⟨ents, clock, a1, ast, ash, a2, a3⟩ := hr
    refine ⟨ents, clock, a1, ast, (fun x hx => by
     obtain ⟨x0, h0, rfl⟩ := List.mem_map.1 hx
     exact ash x0 h0), by simpa using a2, fun i x e hx he => ?_⟩
    rw [List.getElem?_map, Option.map_eq_some_iff] at hx
    obtain ⟨x0, h2, rfl⟩ := hx
    obtain ⟨b1, b2, b3⟩ := a3 i x0 e h2 he
    refine ⟨b1, b2, ?_⟩
    have hv : valV (x0.2.map (fz n M.objs)) = fzV n M.objs (valV x0.2) := by
     match x0.2 with
     | [] => rfl
     | [c] => rfl
     | c :: c' :: r => rfl
    simp only
    rw [hv]
    exact b3.drop hm hn
  | loop lr =>
    obtain ⟨fn, tmps, D, a1, a2, a3⟩ := hr
    refine ⟨fn, tmps, D, a1, a2, fun t d ht => ?_⟩
    obtain ⟨d0, h2, rfl⟩ := get_map ht
    obtain ⟨v, e1, e2⟩ := a3 t d0 h2
    exact ⟨v, e1, e2.drop hm hn⟩
  | iter left cur =>
    obtain ⟨bm, seen, ents, clock, a1, a2, a3, a4, a5, a6, a7⟩ := hr
    have hE : ∀ {x : List Value × List IC} {e : MapEntry}, RepEI M x e → RepEI (M.drop n) x e := fun {x e} ⟨b1, b2, b3⟩ => ⟨b1, b2, by
     have hv : fzV n M.objs (valV (x.2.map .im)) = valV (x.2.map .im) := by
      match x.2 with
      | [] => rfl
      | [c] => rfl
      | c :: c' :: r => simp [valV, fzV, fz]
     rw [← hv]; exact b3.drop hm hn⟩
    exact ⟨bm, seen, ents, clock, a1, drop_ok a2, a3, a4, a5, fun i x e a b => hE (a6 i x e a b), fun x hx => by
     obtain ⟨e, a, b, c⟩ := a7 x hx
     exact ⟨e, a, b, hE c⟩⟩
  | liter b seen c => exact hr
  | gone => trivial
 ·obtain ⟨hlt, d, h1, rfl⟩ := dropO_get ho
  exact hm.lt o d h1 (by rw [← fzO_blk]; exact hb)
 ·obtain ⟨hlt, e1, h1, rfl⟩ := dropO_get ho
  obtain ⟨hlt', e2, h2, rfl⟩ := dropO_get ho'
  exact hm.inj o o' e1 e2 h1 h2 (by rw [← fzO_blk]; exact hb) (by rw [← fzO_blk]; exact hb') hβ
 ·obtain ⟨hlt, d, h1, rfl⟩ := dropO_get ho
  exact hm.own o d h1 (by rw [← fzO_blk]; exact hb)
section
variable {P : Program} {G : Nat → Option (List IC)} {S : DS}
def DS.drop (S : DS) (n : Nat) : DS := { nt := S.nt, tmps := S.tmps.map fun x => (x.1, fzV n S.objs x.2), objs := dropO n S.objs }
theorem Weak.drop {n : Cx} {m : Nat} (hm : m ≤ S.objs.length) (hn : n.n ≤ m) : Weak G n S (S.drop m) := by
 intro _ a M hr
 have hm' : m ≤ M.objs.length := by rw [hr.ob]; exact hm
 refine ⟨M.drop m, rfl, ⟨hr.m.drop hm', by simp [MS.drop, DS.drop, hr.ob], hr.nt, df_ext hr.m (Ext.drop hm') hr.df, fun t d ht => ?_⟩, (Ext.drop hm').weaken hn⟩
 obtain ⟨d0, h1, rfl⟩ := get_map ht
 obtain ⟨v, h2, h3⟩ := hr.tm t d0 h1
 exact ⟨v, h2, by rw [← hr.ob]; exact h3.drop hr.m hm'⟩
theorem DCall.drop {f : FuncId} {args : List DV} {objs : List DObj} {Q : DV → List DObj → Prop} (h : DCall P G f args objs (fun d objs' => Q (fzV objs.length objs' d) (dropO objs.length objs'))) : DCall P G f args objs Q :=
 fun M vs h1 h2 h3 h4 => (h M vs h1 h2 h3 h4).mono fun _ _ ⟨v, d, M', a1, a2, a3, a4, a5, a6⟩ =>
  ⟨v, fzV objs.length M'.objs d, M'.drop objs.length, a1, a2, a3.drop a5.len, a4.drop a3 a5.len, a5.trans (Ext.drop a5.len), a6⟩
inductive ImV : DV → Prop
 | one (c : IC) : ImV (.one (.im c))
 | agg (l : List DC) : (∀ d ∈ l, ∃ c, d = .im c) → ImV (.agg l)
 | tup (l : List DV) : (∀ d ∈ l, ImV d) → ImV (.tup l)
theorem RepV.imm {M M' : MS} (h : ∀ b, M.ok b → M'.ok b ∧ M'.w.heap[b]? = M.w.heap[b]?) {d : DV} {v : Value} (r : RepV M d v) (hi : ImV d) : RepV M' d v := by
 induction r with
 | one c v hc =>
   cases hi
   cases hc with
   | im _ _ hc => exact .one _ _ (.im _ _ (hc.mono h))
 | agg l cs h1 h2 =>
   cases hi with
   | agg _ hall =>
     refine .agg _ _ h1 fun j c v hj hv => ?_
     obtain ⟨c0, rfl⟩ := hall c (List.mem_of_getElem? hj)
     cases h2 j _ v hj hv with
     | im _ _ hc => exact .im _ _ (hc.mono h)
 | tup l vs h1 _ ih =>
   cases hi with
   | tup _ hall => exact .tup _ _ h1 fun j d v hj hv => ih j d v hj hv (hall d (List.mem_of_getElem? hj))
theorem DCall.frame {f : FuncId} {args : List DV} {d0 : DV} (h : DCall P G f args [] (fun d objs' => fzV 0 objs' d = d0)) (ha : ∀ d ∈ args, ImV d) (hd : ImV d0) (objs : List DObj) :
 DCall P G f args objs (fun d objs' => d = d0 ∧ objs' = objs) := by
 intro M vs hm hob hvs hrep
 have hok : ∀ b, MS.ok { w := M.w, β := M.β, objs := [], F := fun b => M.F b ∨ M.live b } b ↔ M.ok b := fun b => by
  simp only [MS.ok, MS.free, MS.live]
  constructor
  ·rintro ⟨⟨h1, _⟩, h2⟩; exact ⟨⟨h1, fun h => h2 (.inr h)⟩, fun h => h2 (.inl h)⟩
  ·rintro ⟨⟨h1, h2⟩, h3⟩; exact ⟨⟨h1, by simp⟩, fun h => h.elim h3 h2⟩
 have hm0 : RelM G { w := M.w, β := M.β, objs := [], F := fun b => M.F b ∨ M.live b } :=
  ⟨fun o d ho => by simp at ho, fun o d ho => by simp at ho, fun o o' d d' ho => by simp at ho, fun g l hg => (hm.glob g l hg).mono fun b hb => ⟨(hok b).2 hb, rfl⟩,
   fun b hb => hb.elim (hm.fl b) (fun ⟨o, d, h1, h2, h3⟩ => h3 ▸ hm.lt o d h1 h2), fun o d ho => by simp at ho⟩
 refine (h _ vs hm0 rfl hvs fun j d v hd hv => (hrep j d v hd hv).imm (fun b hb => ⟨(hok b).2 hb, rfl⟩) (ha d (List.mem_of_getElem? hd))).mono ?_
 rintro e w' ⟨v, d, M1, rfl, rfl, hm1, hv, he, hq⟩
 have hv2 := hv.drop hm1 (Nat.zero_le _)
 rw [hq] at hv2
 have hF : ∀ b, M.F b ∨ M.live b → M1.F b := he.other.1
 have same : ∀ b, b < M.w.heap.size → b < M1.w.heap.size ∧ M1.w.heap[b]? = M.w.heap[b]? := fun b hb => by
  have := he.free b ⟨hb, fun ⟨o, d, h1, _⟩ => by simp at h1⟩
  exact ⟨this.1.1, this.2⟩
 have hlive : ∀ b, MS.live { w := M1.w, β := M.β, objs := M.objs, F := M.F } b ↔ M.live b := fun b => Iff.rfl
 have hext : Ext M.objs.length M { w := M1.w, β := M.β, objs := M.objs, F := M.F } := by
  refine ⟨Nat.le_refl _, fun b hb => ⟨⟨(same b hb.1).1, hb.2⟩, (same b hb.1).2⟩, Fsame M, he.hs, fun o _ c' hc => ⟨⟨c', hc⟩, rfl⟩, fun o _ sz es g nl hv => ⟨sz, es, g, nl, hv, Nat.le_refl _, fun _ => ⟨rfl, rfl, fun hn => ⟨rfl, ?_⟩⟩⟩, fun o _ ks es hc => ⟨⟨ks, es, hc⟩, rfl⟩, fun o _ r hc => ⟨⟨r, hc⟩, rfl⟩, fun o _ d hc hi => ⟨⟨d, hc, hi⟩, rfl⟩, fun o _ r hc => ⟨⟨r, hc⟩, rfl⟩, he.io⟩
  simp only [bsize]
  rw [(same _ (hm.lt o _ hv (by simp [DObj.blk, hn]))).2]
 refine ⟨v, d0, { w := M1.w, β := M.β, objs := M.objs, F := M.F }, rfl, rfl, ?_, ?_, by rw [← hob]; exact hext, rfl, hob⟩
 ·exact ⟨fun o d ho => (hm.objs o d ho).ext hext (fun _ => rfl) (fun hb => (same _ (hm.lt o d ho hb)).2), fun o d ho hb => (same _ (hm.lt o d ho hb)).1, hm.inj, fun g l hg => (hm.glob g l hg).mono hext.ok,
   fun b hb => (same b (hm.fl b hb)).1, hm.own⟩
 ·refine hv2.imm (fun b hb => ?_) hd
  obtain ⟨⟨h1, _⟩, h2⟩ := hb
  have h2' : ¬ (M.F b ∨ M.live b) := fun h => h2 (hF b h)
  exact ⟨⟨⟨h1, fun h => h2' (.inr h)⟩, fun h => h2' (.inl h)⟩, rfl⟩
end
end Go.Ab
