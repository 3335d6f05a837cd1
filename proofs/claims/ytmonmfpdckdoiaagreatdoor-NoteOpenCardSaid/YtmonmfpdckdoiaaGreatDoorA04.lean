/- Part 4 of the proof whose last text closes the card: laws and walks that hold without conditions beyond those that each theorem names. -/
import Derived.Test.YtmonmfpdckdoiaaGreatDoorA03
set_option linter.all false
set_option linter.deprecated false
namespace Go.Ab
open Go
/-! ### A range over a function -/
def putAll (S : DS) : List Tmp → List DV → DS
  | t :: ts, d :: ds => putAll (S.put (some t) d) ts ds
  | _, _ => S
def setLp (objs : List DObj) (o : Nat) (st : LoopState) (pend : Option Code) : List DObj := match objs[o]? with
  | some (.loop r) => objs.set o (.loop { r with st := st, pend := pend })
  | _ => objs
/-- How a round may end: what yield hands back, and what becomes of the record. -/
def YieldQ (o : Nat) (C : DV → List DObj → Prop) : Exit → DS → Prop
  | .normal, S => C (.one (.im (.raw (.bool true)))) (setLp S.objs o .ready none)
  | .ret, S => C (.one (.im (.raw (.bool false)))) (setLp S.objs o .done (some .ret))
  | .exit id, S => C (.one (.im (.raw (.bool false)))) (setLp S.objs o .done (some (.exit id)))
  | _, _ => False
section
variable {P : Program} {G : Nat → Option (List IC)} {n : Cx} {S : DS} {Q : Exit → DS → Prop}
theorem At.yield_end {o : Nat} {C : DV → List DObj → Prop} (h : C (.one (.im (.raw (.bool true)))) (setLp S.objs o .ready none)) : At (YieldQ o C) .normal ⟨⟩ S := h
theorem At.yield_ret {o : Nat} {C : DV → List DObj → Prop} (h : C (.one (.im (.raw (.bool false)))) (setLp S.objs o .done (some .ret))) : At (YieldQ o C) .ret ⟨⟩ S := h
theorem At.yield_exit {o id : Nat} {C : DV → List DObj → Prop} (h : C (.one (.im (.raw (.bool false)))) (setLp S.objs o .done (some (.exit id)))) : At (YieldQ o C) (.exit id) ⟨⟩ S := h
/-- What is asked of the body behind the assignments. -/
def Busy (P : Program) (G : Nat → Option (List IC)) (o m : Nat) (body : Code) (C : DV → List DObj → Prop) (S : DS) : Prop :=
  DT P G ⟨m, some o⟩ body { S with objs := setLp S.objs o .busy none } (YieldQ o C)
/-- A call of yield. -/
def YieldR (P : Program) (G : Nat → Option (List IC)) (o : Nat) (as : List DV) (objs : List DObj) (C : DV → List DObj → Prop) : Option DObj → Prop
  | some (.loop r) => r.st = .ready ∧ r.pend = none ∧ as.length = r.ps.size ∧
      DT P G ⟨objs.length, some o⟩ r.asg (putAll ⟨r.nt, r.tm, objs⟩ r.ps.toList as) (thenQ (fun S' => (∃ r', S'.objs[o]? = some (.loop r') ∧ r'.st = .ready ∧ r'.pend = none) ∧ Busy P G o objs.length r.body C S') (fun _ _ => False))
  | _ => False
def YieldE (P : Program) (G : Nat → Option (List IC)) (o : Nat) (as : List DV) (objs : List DObj) (C : DV → List DObj → Prop) (_t : Tok C) : Prop := YieldR P G o as objs C objs[o]?
/-- The record's block is turned. -/
theorem RelM.lpTurn {M : MS} (hm : RelM G M) {o : Nat} {r : LoopD} (ho : M.objs[o]? = some (.loop r)) {R : Loop} (hR : M.w.heap[M.β o]? = some (.loop R)) (st : LoopState) (pend : Option Code) :
    RelM G { M with w := M.w.putObj (M.β o) (.loop { R with state := st, pending := pend }), objs := setLp M.objs o st pend } ∧
    Ext M.objs.length M { M with w := M.w.putObj (M.β o) (.loop { R with state := st, pending := pend }), objs := setLp M.objs o st pend } := by
  have hset : setLp M.objs o st pend = M.objs.set o (.loop { r with st := st, pend := pend }) := by simp [Ab.setLp, ho]
  have hw : M.w.putObj (M.β o) (.loop { R with state := st, pending := pend }) = { M.w with heap := M.w.heap.setIfInBounds (M.β o) (.loop { R with state := st, pending := pend }) } := rfl
  have he : Ext M.objs.length M (M.turn o (.loop { R with state := st, pending := pend }) (.loop { r with st := st, pend := pend })) := Ext.turn ho rfl trivial hR rfl
  have hrel : RelO (M.turn o (.loop { R with state := st, pending := pend }) (.loop { r with st := st, pend := pend })) o (.loop { r with st := st, pend := pend }) := by
    obtain ⟨fn, tmps, D, h1, h2, h3⟩ := hm.objs o _ ho
    rw [hR] at h1
    cases h1
    refine ⟨fn, tmps, D, ?_, h2, fun t d ht => ?_⟩
    · simp only [MS.turn]
      rw [Array.getElem?_setIfInBounds_self_of_lt (hm.lt o _ ho rfl)]
    · obtain ⟨v, e1, e2⟩ := h3 t d ht
      exact ⟨v, e1, e2.ext he⟩
  have := hm.turn (x := .loop { R with state := st, pending := pend }) (d' := .loop { r with st := st, pend := pend }) ho rfl trivial hR rfl hrel
  rw [hset]
  exact ⟨this, he⟩
theorem putAll_rel {M : MS} : ∀ (ts : List Tmp) (ds : List DV) (vs : List Value) (S : DS) (a : Act), Rel G S a M → ds.length = vs.length → (∀ (j : Nat) (d : DV) (v : Value), ds[j]? = some d → vs[j]? = some v → RepV M d v) →
    Rel G (putAll S ts ds) { a with tmps := (ts.zip vs).foldl (fun t (p : Tmp × Value) => t.setIfInBounds p.1 p.2) a.tmps } M ∧ (putAll S ts ds).objs = S.objs
  | [], ds, vs, S, a, hr, _, _ => by cases ds <;> exact ⟨hr, rfl⟩
  | t :: ts, [], [], S, a, hr, _, _ => ⟨hr, rfl⟩
  | t :: ts, [], _ :: _, S, a, hr, h, _ => by simp at h
  | t :: ts, _ :: _, [], S, a, hr, h, _ => by simp at h
  | t :: ts, d :: ds, v :: vs, S, a, hr, hl, h => by
    have hp := hr.put hr.m (Ext.refl M) (h 0 d v rfl rfl) (some t)
    rw [show ({ S with objs := M.objs } : DS) = S from by rw [hr.ob]] at hp
    have := putAll_rel ts ds vs _ _ hp (by simpa using hl) (fun j d v h1 h2 => h (j + 1) d v (by simpa using h1) (by simpa using h2))
    refine ⟨this.1, this.2.trans ?_⟩
    simp only [DS.put]
    split <;> rfl
theorem zip_toList {α β : Type} (x : Array α) (y : Array β) : (x.zip y).toList = x.toList.zip y.toList := by simp
theorem OpT_yield {o : Oper} {K : DS → Prop} {x : Operand} {xs : Array Operand} {ts : Array TypeId} {l : Nat} {as : List DV} (ho : o.op = .call { callee := .value x, args := xs, argTypes := ts })
    (hx : evalG G S x = some (.one (.yld l))) (ha : evals G S xs.toList = some as)
    (h : YieldE P G l as S.objs (fun d objs' => K ({ S with objs := objs' }.put o.dst d)) ⟨⟩) : OpT P G o S K := by
  intro ro a M hr
  have hp := evalG_sound hr hx
  obtain ⟨hl, hrep⟩ := evals_sound hr _ _ ha
  unfold YieldE at h
  generalize hob : S.objs[l]? = ob at h
  unfold YieldR at h
  split at h
  · rename_i r
    obtain ⟨hst, hpe, hal, hb⟩ := h
    have hMob : M.objs[l]? = some (.loop r) := by rw [hr.ob]; exact hob
    obtain ⟨fn, tmps, D, g1, g2, g3⟩ := hr.m.objs l _ hMob
    generalize hv : a.eval x = v at hp
    cases hp with
    | one _ _ hp => cases hp with
      | yld _ _ h1 h2 h3 =>
        obtain rfl := h3 r hMob
        have hsz : (xs.map a.eval).size = r.ps.size := by rw [← hal, hl]; simp
        have hyr := run_yield (P := P) (args := xs.map a.eval) g1 hsz
        have hrun : (execOp a.eval o).run P M.w = .ok (.round (M.β l) fn ((r.ps.zip (xs.map a.eval)).foldl (fun t (p, v) => t.setIfInBounds p v) tmps) r.asg r.body) M.w := by
          simp only [execOp, ho, Sem.run_bind, resolve, hv, Deferred.ofValue, Sem.run_pure, Result.andThen_ok, invoke, Array.empty_append]
          exact hyr
        refine ⟨fun _ _ => trivial, ?_⟩
        rw [semAt_run _ hrun (by simp)]
        refine ⟨fun h => absurd h (by simp [fenceR, Fence.wide]), ?_⟩
        refine RoundIn.mono (R := fun e w' => ∃ v, e = .returned v ∧ ∃ S' M', M'.w = w' ∧ Rel G S' (a.put o.dst v) M' ∧ Ext M.objs.length M M' ∧ K S') (roundIn_of_wpIn trivial ?_) ?_
        · -- the round
          obtain ⟨hrel0, hob0⟩ := putAll_rel (G := G) (M := M) r.ps.toList as (xs.map a.eval).toList ⟨r.nt, r.tm, S.objs⟩ { tmps := tmps, defers := [] } ⟨hr.m, hr.ob, g2, ⟨[], rfl, by simp, by simp⟩, g3⟩ (by simp [hl]) (fun j d v h4 h5 => by
              refine hrep j d v h4 ?_
              rw [← h5]; simp)
          have hfold : (r.ps.zip (xs.map a.eval)).foldl (fun t (p, v) => t.setIfInBounds p v) tmps = (r.ps.toList.zip (xs.map a.eval).toList).foldl (fun t (p : Tmp × Value) => t.setIfInBounds p.1 p.2) tmps := by
            rw [← Array.foldl_toList, zip_toList]
          rw [hfold]
          have hRd : RdOk ⟨S.objs.length, some l⟩ (putAll ⟨r.nt, r.tm, S.objs⟩ r.ps.toList as) := fun o' e => by
            cases e
            exact ⟨lt_of_getElem? hob, r, by rw [hob0]; exact hob⟩
          have hw := hb (by rw [hob0]; exact Nat.le_refl _) hRd _ M hrel0
          have hfn : (Cx.mk S.objs.length (some l)).fence M = (fenceR ro).inRound (M.β l) := rfl
          rw [hfn] at hw
          refine wpIn_mono hw ?_
          rintro e a1 w1 ⟨S1, M1, rfl, hr1, he1, hn1, hq⟩
          cases e with
          | normal =>
            obtain ⟨⟨r1, hr1o, hst1, hpe1⟩, hq⟩ := hq
            have hM1 : M1.objs[l]? = some (.loop r1) := by rw [hr1.ob]; exact hr1o
            obtain ⟨fn1, tmps1, D1, k1, k2, k3⟩ := hr1.m.objs l _ hM1
            have hβ1 : M1.β l = M.β l := (he1.lp l (lt_of_getElem? hob) r1 hM1).2
            rw [hβ1] at k1
            have hbg := run_beginRound (P := P) k1 hst1
            refine ⟨_, hbg, ?_⟩
            obtain ⟨hm2, he2⟩ := hr1.m.lpTurn hM1 (R := { state := r1.st, pending := r1.pend, fn := fn1, tmps := tmps1, params := r1.ps, assign := r1.asg, body := r1.body, defers := D1 }) (by rw [hβ1]; exact k1) .busy none
            have hpe1' : ({ state := .busy, pending := r1.pend, fn := fn1, tmps := tmps1, params := r1.ps, assign := r1.asg, body := r1.body, defers := D1 } : Loop) = { state := .busy, pending := none, fn := fn1, tmps := tmps1, params := r1.ps, assign := r1.asg, body := r1.body, defers := D1 } := by rw [hpe1]
            rw [hpe1']
            rw [hβ1] at hm2 he2
            have hr2 : Rel G { S1 with objs := setLp S1.objs l .busy none } a1 { M1 with w := M1.w.putObj (M.β l) (.loop { state := .busy, pending := none, fn := fn1, tmps := tmps1, params := r1.ps, assign := r1.asg, body := r1.body, defers := D1 }), objs := setLp M1.objs l .busy none } :=
              ⟨hm2, by rw [hr1.ob], hr1.nt, df_ext hr1.m he2 hr1.df, fun t d ht => by
                obtain ⟨v, e1, e2⟩ := hr1.tm t d ht
                exact ⟨v, e1, e2.ext he2⟩⟩
            have hlen1 : S.objs.length ≤ S1.objs.length := by rw [← hr1.ob]; exact he1.len
            have hRd2 : RdOk ⟨S.objs.length, some l⟩ { S1 with objs := setLp S1.objs l .busy none } := fun o' e => by
              cases e
              refine ⟨lt_of_getElem? hob, { r1 with st := .busy, pend := none }, ?_⟩
              simp [setLp, hr1o, List.getElem?_set_self (lt_of_getElem? hr1o)]
            have hq2 := hq (by simp only [setLp, hr1o, List.length_set]; exact hlen1) hRd2 a1 _ hr2
            have hfn2 : (Cx.mk S.objs.length (some l)).fence { M1 with w := M1.w.putObj (M.β l) (.loop { state := .busy, pending := none, fn := fn1, tmps := tmps1, params := r1.ps, assign := r1.asg, body := r1.body, defers := D1 }), objs := setLp M1.objs l .busy none } = (fenceR ro).inRound (M.β l) := by
              simp only [Cx.fence, Option.map_some, hβ1]; rfl
            rw [hfn2] at hq2
            refine wpIn_mono hq2 ?_
            rintro e2 a2 w2 ⟨S2, M2, rfl, hr3, he3, hn3, hq3⟩
            -- the round's end
            obtain ⟨⟨r2, hM2⟩, hβ2⟩ := he3.lp' l (lt_of_getElem? hob) { r1 with st := .busy, pend := none } (by simp [setLp, hM1, List.getElem?_set_self (lt_of_getElem? hM1)])
            simp only at hβ2
            rw [hβ1] at hβ2
            obtain ⟨fn2, tmps2, D2, j1, j2, j3⟩ := hr3.m.objs l _ hM2
            rw [hβ2] at j1
            have hall : Ext S.objs.length M M2 := by
              refine (he1.trans ?_).trans he3
              exact he2.weaken (by rw [hr1.ob]; exact hlen1)
            have hro : Rel G { S with objs := S2.objs } a M2 := ⟨hr3.m, hr3.ob, hr.nt, df_ext hr.m hall hr.df, fun t d ht => by
              obtain ⟨v, e1, e2⟩ := hr.tm t d ht
              exact ⟨v, e1, e2.ext (by rw [hr.ob]; exact hall)⟩⟩
            have fin : ∀ (jump : Option Code) (b : Bool) (st : LoopState), jump.isNone = b → (if jump.isNone then LoopState.ready else .done) = st → K ({ S with objs := setLp S2.objs l st jump }.put o.dst (.one (.im (.raw (.bool b))))) →
                ∃ v w', (Instr.endRound (M.β l) jump).run P M2.w = .ok v w' ∧ ∃ v', Ending.returned v = .returned v' ∧ ∃ S' M', M'.w = w' ∧ Rel G S' (a.put o.dst v') M' ∧ Ext M.objs.length M M' ∧ K S' := by
              intro jump b st hb hstj hk
              have hend := run_endRound (P := P) jump j1
              obtain ⟨hm4, he4⟩ := hr3.m.lpTurn hM2 (R := { state := r2.st, pending := r2.pend, fn := fn2, tmps := tmps2, params := r2.ps, assign := r2.asg, body := r2.body, defers := D2 }) (by rw [hβ2]; exact j1) st jump
              rw [hβ2] at hm4 he4
              rw [hstj, hb] at hend
              refine ⟨_, _, hend, _, rfl, _, { M2 with w := M2.w.putObj (M.β l) (.loop { state := st, pending := jump, fn := fn2, tmps := tmps2, params := r2.ps, assign := r2.asg, body := r2.body, defers := D2 }), objs := setLp M2.objs l st jump }, rfl, ?_, ?_, hk⟩
              · have hro2 := hro.put hm4 he4 (d := .one (.im (.raw (.bool b)))) (v := .bool b) (.one _ _ (.im _ _ (.raw _ rfl))) o.dst
                have e : ({ S with objs := setLp M2.objs l st jump } : DS) = { S with objs := setLp S2.objs l st jump } := by rw [hr3.ob]
                rw [e] at hro2
                exact hro2
              · rw [hr.ob]
                exact hall.trans (he4.weaken (by rw [← hr.ob] at hall; rw [← hr.ob]; exact hall.len))
            cases e2 with
            | normal => exact fin none true .ready rfl rfl hq3
            | ret => exact fin (some .ret) false .done rfl rfl hq3
            | exit id => exact fin (some (.exit id)) false .done rfl rfl hq3
            | goto t => exact hq3.elim
            | panic c => exact hq3.elim
            | outgrown => exact hq3.elim
          | exit id => exact hq.elim
          | goto t => exact hq.elim
          | ret => exact hq.elim
          | panic c => exact hq.elim
          | outgrown => exact hq.elim
        · rintro e w' ⟨v, rfl, S', M', h4, h5, h6, h7⟩
          exact ⟨S', M', h4, h5, h6, put_defers _ _ _, h7⟩
  · exact h.elim
/-- Behind the loop. -/
def LoopR (P : Program) (G : Nat → Option (List IC)) (n : Cx) (S : DS) (Q : Exit → DS → Prop) (o : Nat) (objs : List DObj) : Option DObj → Prop
  | some (.loop r) => r.st ≠ .busy ∧ match r.pend with
    | none => At Q .normal ⟨⟩ { S with objs := setLp objs o .exhausted none }
    | some c => DT P G n c { S with objs := setLp objs o .exhausted (some c) } Q
  | _ => False
theorem LoopR_none {o : Nat} {objs : List DObj} {r : LoopD} (h1 : r.st ≠ .busy) (h2 : r.pend = none) (h : At Q .normal ⟨⟩ { S with objs := setLp objs o .exhausted none }) : LoopR P G n S Q o objs (some (.loop r)) := ⟨h1, by rw [h2]; exact h⟩
theorem LoopR_some {o : Nat} {objs : List DObj} {r : LoopD} {c : Code} (h1 : r.st ≠ .busy) (h2 : r.pend = some c) (h : DT P G n c { S with objs := setLp objs o .exhausted (some c) } Q) : LoopR P G n S Q o objs (some (.loop r)) := ⟨h1, by rw [h2]; exact h⟩
theorem DT_rangeFunc {g : Operand} {ps : Array Tmp} {asg body : Code} {d : DV} {f : FuncId} {caps : List DV} (hg : evalG G S g = some d) (hc : dcallee d = some (f, caps)) (hok : ∀ args w, (callFunc f args).run P w = .ok (.enter f args) w)
    (h : DCall P G f (.one (.yld S.objs.length) :: caps) (S.objs ++ [.loop { st := .ready, pend := none, nt := S.nt, tm := S.tmps, ps := ps, asg := asg, body := body }]) (fun _ objs' => LoopR P G n S Q S.objs.length objs' objs'[S.objs.length]?)) :
    DT P G n (.rangeFunc g ps asg body) S Q := by
  intro hn hRd a M hr
  have hp := evalG_sound hr hg
  have hgv : ∃ lb, a.eval g = .func (.func f) #[] lb ∧ lb.size = caps.length ∧ ∀ (j : Nat) (d : DV) (u : Value), caps[j]? = some d → lb[j]? = some u → RepV M d u := by
    generalize a.eval g = v at hp
    unfold dcallee at hc
    split at hc
    · cases hc
      cases hp with
      | one _ _ hp => cases hp with
        | im _ _ hp => cases hp with
          | fn _ _ vs h1 h2 =>
            refine ⟨vs, rfl, by simp [h1], fun j d u hj hu => ?_⟩
            rw [List.getElem?_map, Option.map_eq_some_iff] at hj
            obtain ⟨c, hc, rfl⟩ := hj
            exact .one _ _ (.im _ _ (h2 j c u hc hu))
    · cases hc
      cases hp with
      | one _ _ hp => cases hp with
        | fn _ _ vs h1 h2 =>
          refine ⟨vs, rfl, by simp [h1], fun j d u hj hu => ?_⟩
          rw [List.getElem?_map, Option.map_eq_some_iff] at hj
          obtain ⟨c, hc, rfl⟩ := hj
          exact .one _ _ (h2 j c u hc hu)
    · cases hc
  obtain ⟨lb, hgv, hls, hlr⟩ := hgv
  refine wpIn_rangeFunc fun fn _ => ?_
  -- the record is laid
  have enter : ∃ (l : Nat) (mk : List Deferred) (w1 : World) (M1 : MS), (Instr.enterLoop fn a.tmps ps asg body (n.fence M).round).run P M.w = .ok (l, mk) w1 ∧ M1.w = w1 ∧ RelM G M1 ∧
      M1.objs = S.objs ++ [.loop { st := .ready, pend := none, nt := S.nt, tm := S.tmps, ps := ps, asg := asg, body := body }] ∧ M1.β S.objs.length = l ∧ Ext M.objs.length M M1 ∧
      (∃ ds : List Nat, mk ++ a.defers = ds.map mark ∧ ds.Nodup ∧ ∀ D ∈ ds, M1.F D ∧ M1.w.heap[D]? = some (.deferred (some []))) ∧ (∀ d ∈ mk, ∃ D, d = mark D ∧ M.w.heap.size ≤ D) := by
    cases hrd : n.rd with
    | none =>
      have hro : (n.fence M).round = none := by simp [Cx.fence, fenceR, hrd]
      rw [hro]
      have hrun := run_enterLoop_outer (P := P) (w := M.w) fn a.tmps ps asg body
      -- the block for the calls that are put off
      have hheap0 : (M.w.alloc (.deferred (some []))).heap = M.w.heap.push (.deferred (some [])) := by unfold World.alloc; rfl
      have hold : ∀ b, b < M.w.heap.size → (M.w.alloc (.deferred (some []))).heap[b]? = M.w.heap[b]? := fun b hb => by rw [hheap0, Array.getElem?_push, if_neg (Nat.ne_of_lt hb)]
      let M0 : MS := { M with w := M.w.alloc (.deferred (some [])), F := fun b => M.F b ∨ b = M.w.heap.size }
      have he0 : Ext M.objs.length M M0 := by
        refine ⟨Nat.le_refl _, fun b hb => ⟨⟨?_, hb.2⟩, hold b hb.1⟩, ⟨fun b hb => .inl hb, fun b hb hF => ?_⟩, by simp [M0, hheap0], fun p _ c' hc => ⟨⟨c', hc⟩, rfl⟩, fun p _ sz es g nl hv => ⟨sz, es, g, nl, hv, Nat.le_refl _, fun _ => ⟨rfl, rfl, fun hn => ⟨rfl, ?_⟩⟩⟩, fun p _ _ es hm => ⟨⟨es, hm⟩, rfl⟩,
          fun p _ r hm => ⟨⟨r, hm⟩, rfl⟩, fun p _ l c hm => ⟨⟨l, c, hm⟩, rfl⟩, fun p _ r hm => ⟨⟨r, hm⟩, rfl⟩, ⟨rfl, rfl, rfl⟩⟩
        · have := hb.1; simp only [M0, hheap0, Array.size_push]; omega
        · rcases hF with hF | hF
          · exact hb.2 hF
          · have := hb.1.1; omega
        · simp only [bsize, M0]
          rw [hold _ (hr.m.lt p _ hv (by simp [DObj.blk, hn]))]
      have hm0 : RelM G M0 := by
        refine ⟨fun o d ho => (hr.m.objs o d ho).ext he0 (fun _ => rfl) (fun hb => hold _ (hr.m.lt o d ho hb)), fun o d ho hb => ?_, hr.m.inj, fun g l hg => (hr.m.glob g l hg).mono he0.ok, fun b hF => ?_, fun o d ho hb hF => ?_⟩
        · have := hr.m.lt o d ho hb; simp only [M0, hheap0, Array.size_push]; omega
        · simp only [M0, hheap0, Array.size_push]
          rcases hF with hF | hF
          · have := hr.m.fl b hF; omega
          · omega
        · rcases hF with hF | hF
          · exact hr.m.own o d ho hb hF
          · have := hr.m.lt o d ho hb; simp only [M0] at hF; omega
      let x1 : Obj := .loop { state := .ready, pending := none, fn := fn, tmps := a.tmps, params := ps, assign := asg, body := body, defers := M.w.heap.size }
      let d1 : DObj := .loop { st := .ready, pend := none, nt := S.nt, tm := S.tmps, ps := ps, asg := asg, body := body }
      have he1 := Ext.push (M := M0) x1 d1 hm0.lt
      have hβ : (M0.push x1 d1).β M0.objs.length = M.w.heap.size + 1 := by simp [MS.push, M0, hheap0]
      have hm1 : RelM G (M0.push x1 d1) := hm0.push rfl ⟨fn, a.tmps, M.w.heap.size, by
          rw [hβ]
          have : (M0.w.alloc x1).heap[M0.w.heap.size]? = some x1 := alloc_new
          simpa [M0, hheap0, MS.push] using this, hr.nt, fun t d ht => by
          obtain ⟨v, e1, e2⟩ := hr.tm t d ht
          exact ⟨v, e1, (e2.ext he0).ext he1⟩⟩
      refine ⟨_, _, _, M0.push x1 d1, hrun, rfl, hm1, by simp [MS.push, M0, d1, hr.ob], ?_, he0.trans he1, ?_, ?_⟩
      · rw [← hr.ob]; exact hβ
      · obtain ⟨ds, q1, q2, q3⟩ := hr.df
        refine ⟨M.w.heap.size :: ds, by simp [q1, mark], ?_, fun D hD => ?_⟩
        · refine List.nodup_cons.2 ⟨fun hD => ?_, q2⟩
          have := (Array.getElem?_eq_some_iff.1 (q3 _ hD).2).1
          omega
        · rcases List.mem_cons.1 hD with rfl | hD
          · refine ⟨.inr rfl, ?_⟩
            have h1 : (M0.w.alloc x1).heap[M.w.heap.size]? = M0.w.heap[M.w.heap.size]? := alloc_heap (by simp [M0, hheap0])
            have h2 : M0.w.heap[M.w.heap.size]? = some (.deferred (some [])) := by simp [M0, hheap0]
            exact h1.trans h2
          · have := df_ext hm0 he1 (df_ext hr.m he0 (a := { a with defers := [mark D] }) ⟨[D], rfl, by simp, fun D' hD' => by simp at hD'; subst hD'; exact q3 _ hD⟩)
            obtain ⟨ds', z1, z2, z3⟩ := this
            cases ds' with
            | nil => simp at z1
            | cons y r =>
              simp only [List.map_cons, List.cons.injEq, mark, Deferred.mk.injEq, Target.collected.injEq, and_true] at z1
              obtain ⟨rfl, _⟩ := z1
              exact z3 _ (by simp)
      · intro d hd
        simp only [List.mem_singleton] at hd
        exact ⟨M.w.heap.size, hd, Nat.le_refl _⟩
    | some l0 =>
      obtain ⟨q1, r0, q2⟩ := hRd l0 hrd
      have hro : (n.fence M).round = some (M.β l0) := by simp [Cx.fence, fenceR, hrd]
      rw [hro]
      obtain ⟨fn0, tmps0, D0, k1, k2, k3⟩ := hr.m.objs l0 _ (by rw [hr.ob]; exact q2)
      have hrun : (Instr.enterLoop fn a.tmps ps asg body (some (M.β l0))).run P M.w =
          .ok (M.w.heap.size, []) (M.w.alloc (.loop { state := .ready, pending := none, fn, tmps := a.tmps, params := ps, assign := asg, body, defers := D0 })) := by
        unfold Instr.enterLoop
        simp only [Sem.run_bind, run_getLoop k1, run_newObj_alloc, Result.andThen, Sem.run_pure]
      let x1 : Obj := .loop { state := .ready, pending := none, fn := fn, tmps := a.tmps, params := ps, assign := asg, body := body, defers := D0 }
      let d1 : DObj := .loop { st := .ready, pend := none, nt := S.nt, tm := S.tmps, ps := ps, asg := asg, body := body }
      have he1 := Ext.push (M := M) x1 d1 hr.m.lt
      have hβ : (M.push x1 d1).β M.objs.length = M.w.heap.size := by simp [MS.push]
      have hm1 : RelM G (M.push x1 d1) := hr.m.push rfl ⟨fn, a.tmps, D0, by
          rw [hβ]; exact alloc_new, hr.nt, fun t d ht => by
          obtain ⟨v, e1, e2⟩ := hr.tm t d ht
          exact ⟨v, e1, e2.ext he1⟩⟩
      refine ⟨_, _, _, M.push x1 d1, hrun, rfl, hm1, by simp [MS.push, d1, hr.ob], by rw [← hr.ob]; exact hβ, he1, ?_, by simp⟩
      simpa using df_ext hr.m he1 hr.df
  obtain ⟨l, mk, w1, M1, hrun, rfl, hm1, hob1, hβ1, he1, hdf1, hmk⟩ := enter
  have hb1 : (DObj.loop { st := .ready, pend := none, nt := S.nt, tm := S.tmps, ps := ps, asg := asg, body := body }).blk = true := rfl
  refine ⟨l, mk, M1.w, { target := .fn (.func f) lb, args := #[.func (.yield l) #[] #[]] }, M1.w, f, #[.func (.yield l) #[] #[]] ++ lb, M1.w, hrun, ?_, fun _ _ => trivial, ?_, fun h => absurd h (by simp [Cx.fence, fenceR, Fence.wide]), ?_⟩
  · simp only [resolve, hgv]
    simp [go_sem]
  · simp [invoke, go_sem, hok]
  · have hcall := h M1 (#[.func (.yield l) #[] #[]] ++ lb) hm1 hob1 (by simp [hls]; omega) (fun j e u he hu => ?_)
    · refine CallsIn.mono (F := n.fence M) (callsIn_wide.2 hcall) ?_
      rintro e w' ⟨v, dv, M2, rfl, rfl, hm2, _, he2, hq⟩
      unfold LoopR at hq
      split at hq
      · rename_i r hr2
        obtain ⟨hbusy, hq⟩ := hq
        obtain ⟨fn2, tmps2, D2, j1, j2, j3⟩ := hm2.objs _ _ hr2
        have hβ2 : M2.β S.objs.length = l := by
          have := (he2.lp _ (by simp) r hr2).2
          rw [this]; exact hβ1
        rw [hβ2] at j1
        have hend := run_endLoop (P := P) j1 hbusy
        have hoL : M.objs.length = S.objs.length := by rw [hr.ob]
        obtain ⟨hm3, he3⟩ := hm2.lpTurn hr2 (R := { state := r.st, pending := r.pend, fn := fn2, tmps := tmps2, params := r.ps, assign := r.asg, body := r.body, defers := D2 }) (by rw [hβ2]; exact j1) .exhausted r.pend
        rw [hβ2] at hm3 he3
        have hE12 : Ext M.objs.length M M2 := by
          refine he1.trans (he2.weaken ?_)
          simp [hoL]
        have hE : Ext M.objs.length M { M2 with w := M2.w.putObj l (.loop { state := .exhausted, pending := r.pend, fn := fn2, tmps := tmps2, params := r.ps, assign := r.asg, body := r.body, defers := D2 }), objs := setLp M2.objs S.objs.length .exhausted r.pend } :=
          hE12.trans (he3.weaken (Nat.le_trans hE12.len (Nat.le_refl _)))
        have hrel : Rel G { S with objs := setLp M2.objs S.objs.length .exhausted r.pend } { a with defers := mk ++ a.defers } { M2 with w := M2.w.putObj l (.loop { state := .exhausted, pending := r.pend, fn := fn2, tmps := tmps2, params := r.ps, assign := r.asg, body := r.body, defers := D2 }), objs := setLp M2.objs S.objs.length .exhausted r.pend } :=
          ⟨hm3, rfl, hr.nt, df_ext (a := { a with defers := mk ++ a.defers }) hm2 he3 (df_ext (a := { a with defers := mk ++ a.defers }) hm1 he2 hdf1), fun t d ht => by
            obtain ⟨v, e1, e2⟩ := hr.tm t d ht
            exact ⟨v, e1, e2.ext hE⟩⟩
        have hnd : NewD M a { a with defers := mk ++ a.defers } := fun d hd => by
          rcases List.mem_append.1 hd with hd | hd
          · exact .inr (hmk d hd)
          · exact .inl hd
        have hEn : Ext n.n M _ := hE.weaken (by rw [hoL]; exact hn)
        refine ⟨r.pend, _, hend, ?_⟩
        generalize hpe : r.pend = pe at hq hrel hE hEn
        cases pe with
        | none => exact ⟨_, _, rfl, hrel, hEn, hnd, hq⟩
        | some c =>
          simp only at hq ⊢
          have hRd3 := hRd.ext hr.ob hrel.ob hEn
          have hd := hq (by rw [← hrel.ob]; exact hEn.len) hRd3 _ _ hrel
          rw [fence_ext hRd hr.ob hEn] at hd
          refine wpIn_mono hd ?_
          rintro e a2 w2 ⟨S3, M3, hw3, hr3, he4, hn3, hq3⟩
          exact ⟨S3, M3, hw3, hr3, hEn.trans he4, hnd.trans hEn.hs hn3, hq3⟩
      · exact hq.elim
    · cases j with
      | zero =>
        have hu0 : u = .func (.yield l) #[] #[] := by
          rw [Array.getElem?_append_left (by simp)] at hu
          simpa using hu.symm
        simp at he
        subst he; subst hu0
        refine .one _ _ (.yld _ _ rfl (by rw [hob1]; simp) fun r hr' => by rw [hβ1])
      | succ j =>
        have hu' : lb[j]? = some u := by
          rw [Array.getElem?_append_right (by simp)] at hu
          simpa using hu
        refine (hlr j e u (by simpa using he) hu').ext he1
end
end Go.Ab
namespace Go.Ab
open Go
section
variable {P : Program} {w : World}
theorem run_eqArr (d : Nat) {e : TypeId} {k : IntKind} (he : P.underlying e = some (.int k)) (xs ys : Array Value) :
    ∀ (m i : Nat), shapeOk (List.replicate m (.int k)) ((xs.toList.drop i).take m) = true → shapeOk (List.replicate m (.int k)) ((ys.toList.drop i).take m) = true →
    (forIn (m := Sem) (List.range' i m 1) ((none, ()) : Option Bool × PUnit) fun i _ => do
        if !(← Op.equalIn (d + 1) e (← part e xs (i * 1)) (← part e ys (i * 1))) then pure (ForInStep.done (some false, ())) else pure (ForInStep.yield (none, ()))).run P w
      = .ok (if beqs ((xs.toList.drop i).take m) ((ys.toList.drop i).take m) then (none, ()) else (some false, ())) w := by
  intro m
  induction m with
  | zero => intro i _ _; simp [beqs]
  | succ m ih =>
    intro i hx hy
    have get : ∀ (zs : Array Value), shapeOk (List.replicate (m + 1) (.int k)) ((zs.toList.drop i).take (m + 1)) = true → ∃ a, zs[i]? = some (.int k a) ∧ (zs.toList.drop i).take (m + 1) = .int k a :: (zs.toList.drop (i + 1)).take m ∧ shapeOk (List.replicate m (.int k)) ((zs.toList.drop (i + 1)).take m) = true := fun zs hz => by
      cases hh : zs.toList.drop i with
      | nil => rw [hh] at hz; simp [List.replicate_succ, shapeOk] at hz
      | cons v r =>
        have h1 : zs.toList[i]? = some v := by
          have := congrArg (fun l => l[0]?) hh
          simpa using this
        have h2 : zs.toList.drop (i + 1) = r := by
          have := congrArg (List.drop 1) hh
          rw [List.drop_drop] at this
          simpa using this
        rw [hh, List.replicate_succ, List.take_succ_cons] at hz
        cases v <;> simp [shapeOk] at hz
        obtain ⟨rfl, hz⟩ := hz
        exact ⟨_, by simpa using h1, by rw [h2]; rfl, by rw [h2]; exact hz⟩
    obtain ⟨a, ha, ea, sa⟩ := get xs hx
    obtain ⟨b, hb, eb, sb⟩ := get ys hy
    have hagg : (isAgg e).run P w = .ok false w := runIsAgg (by simp [tag, he])
    have hpart : ∀ (zs : Array Value) v, zs[i]? = some v → (part e zs (i * 1)).run P w = .ok v w := fun zs v hz => by
      simp [part, hagg, hz]
    have h1 : (Op.equalIn (d + 1) e (.int k a) (.int k b)).run P w = .ok (a == b) w := by
      simp only [Op.equalIn, Sem.run_bind, runUnderlying he, Result.andThen_ok, if_true]
      rfl
    rw [List.range'_succ, List.forIn_cons]
    simp only [Sem.run_bind, hpart xs _ ha, hpart ys _ hb, Result.andThen_ok, h1, ea, eb, beqs]
    cases hab : (a == b)
    · simp
    · have := ih (i + 1) sa sb
      simp only [Bool.not_true, Bool.false_eq_true, if_false, Bool.true_and]
      simpa using this
theorem run_equal_array {t e : TypeId} {n : Nat} {k : IntKind} (ht : P.underlying t = some (.array n e)) (he : P.underlying e = some (.int k)) (hs : tsz P e = some 1) {xs ys : Array Value}
    (hx : shapeOk (List.replicate n (.int k)) xs.toList = true) (hy : shapeOk (List.replicate n (.int k)) ys.toList = true) : (Op.equal t (.agg xs) (.agg ys)).run P w = .ok (beqs xs.toList ys.toList) w := by
  have hlen : ∀ (ks : List CK) (l : List Value), shapeOk ks l = true → l.length = ks.length := by
    intro ks
    induction ks with
    | nil => intro l hl; cases l <;> simp [shapeOk] at hl ⊢
    | cons c ks ih =>
      intro l hl
      cases l with
      | nil => cases c <;> simp [shapeOk] at hl
      | cons v l =>
        cases c <;> cases v <;> simp [shapeOk] at hl
        · simp [ih _ hl.2]
        · simp [ih _ hl]
  have lx := hlen _ _ hx
  have ly := hlen _ _ hy
  simp only [List.length_replicate] at lx ly
  have tk : ∀ (zs : Array Value), zs.toList.length = n → (zs.toList.drop 0).take n = zs.toList := fun zs hz => by rw [List.drop_zero, ← hz, List.take_length]
  have key : ∀ d, (Op.equalIn (d + 1 + 1) t (.agg xs) (.agg ys)).run P w = .ok (beqs xs.toList ys.toList) w := fun d => by
    have key := run_eqArr (P := P) (w := w) d he xs ys n 0 (by rw [tk xs lx]; exact hx) (by rw [tk ys ly]; exact hy)
    rw [tk xs lx, tk ys ly] at key
    rw [Op.equalIn]
    simp only [Sem.run_bind, runUnderlying ht, Result.andThen_ok, runSizeOf hs]
    rw [Std.Legacy.Range.forIn_eq_forIn_range']
    have e0 : List.range' [:n].start [:n].size [:n].step = List.range' 0 n 1 := by simp [Std.Legacy.Range.size]
    rw [e0, key]
    cases beqs xs.toList ys.toList <;> rfl
  exact key 9998
/-! ### Keys -/
def keyShape (P : Program) (t : TypeId) : Option (List CK) := match P.underlying t with
  | some (.int k) => some [.int k]
  | some .bool => some [.bool]
  | some (.struct _) => match eqShape P t with
    | some ks => if ks.length = 1 then none else some ks
    | none => none
  | some (.array n e) => match P.underlying e with
    | some (.int k) => if tsz P e = some 1 ∧ n ≠ 1 then some (List.replicate n (.int k)) else none
    | _ => none
  | _ => none
theorem shape_len : ∀ {ks : List CK} {l : List Value}, shapeOk ks l = true → l.length = ks.length
  | [], [], _ => rfl
  | [], _ :: _, h => by simp [shapeOk] at h
  | c :: ks, [], h => by cases c <;> simp [shapeOk] at h
  | c :: ks, v :: l, h => by
    cases c <;> cases v <;> simp [shapeOk] at h
    · simp [shape_len h.2]
    · simp [shape_len h]
theorem keyV_agg {l : List Value} (h : l.length ≠ 1) : keyV l = .agg l.toArray := by
  match l, h with
  | [], _ => rfl
  | [v], h => simp at h
  | _ :: _ :: _, _ => rfl
theorem run_equal_key {t : TypeId} {ks : List CK} (h : keyShape P t = some ks) {x y : List Value} (hx : shapeOk ks x = true) (hy : shapeOk ks y = true) : (Op.equal t (keyV x) (keyV y)).run P w = .ok (beqs x y) w := by
  have lx := shape_len hx
  have ly := shape_len hy
  unfold keyShape at h
  split at h
  · rename_i k hu
    cases h
    match x, y, lx, ly with
    | [a], [b], _, _ =>
      cases a <;> simp [shapeOk] at hx
      cases b <;> simp [shapeOk] at hy
      subst hx; subst hy
      show (Op.equalIn (9999 + 1) t _ _).run P w = _
      have : ∀ d k a b, (P.underlying t = some (.int k)) → (Op.equalIn (d + 1) t (.int k a) (.int k b)).run P w = .ok (a == b) w := fun d k a b hu => by
        simp only [Op.equalIn, Sem.run_bind, runUnderlying hu, Result.andThen_ok, if_true]; rfl
      simp only [keyV]
      rw [this 9999 _ _ _ hu]
      simp [beqs]
  · rename_i hu
    cases h
    match x, y, lx, ly with
    | [a], [b], _, _ =>
      cases a <;> simp [shapeOk] at hx
      cases b <;> simp [shapeOk] at hy
      show (Op.equalIn (9999 + 1) t _ _).run P w = _
      have : ∀ d a b, (Op.equalIn (d + 1) t (.bool a) (.bool b)).run P w = .ok (a == b) w := fun d a b => by
        simp only [Op.equalIn, Sem.run_bind, runUnderlying hu, Result.andThen_ok]; rfl
      simp only [keyV]
      rw [this 9999]
      simp [beqs]
  · rename_i fs hu
    split at h
    · rename_i ks' he
      split at h
      · cases h
      · rename_i hne
        cases h
        rw [keyV_agg (by rw [lx]; exact hne), keyV_agg (by rw [ly]; exact hne)]
        exact run_equal_struct he (by simpa using hx) (by simpa using hy) w
    · cases h
  · rename_i n e hu
    split at h
    · rename_i k he
      split at h
      · rename_i hc
        cases h
        simp only [List.length_replicate] at lx ly
        rw [keyV_agg (by rw [lx]; exact hc.2), keyV_agg (by rw [ly]; exact hc.2)]
        exact run_equal_array hu he hc.1 (by simpa using hx) (by simpa using hy)
      · cases h
    · cases h
  · cases h
theorem run_checkFields (em : Bool) (n : Nat) (xs : Array Value) : ∀ (fs : List Field) (i : Nat) (ks : List CK), fieldsCK P fs i = some ks → shapeOk ks (xs.toList.drop i) = true →
    (forIn (m := Sem) fs PUnit.unit fun f _ => do
        if f.name ≠ "_" then Instr.checkKey em (n + 1) f.type (← part f.type xs f.offset)
        pure (ForInStep.yield PUnit.unit)).run P w = .ok PUnit.unit w
  | [], i, ks, h, hx => by simp
  | f :: fs, i, ks, h, hx => by
    simp only [fieldsCK] at h
    split at h
    · rename_i hoff
      split at h
      · rename_i k l hk hl
        cases h
        have ih := run_checkFields em n xs fs (i + 1) l hl
        unfold fieldCK at hk
        split at hk
        · cases hk
        · rename_i hname
          cases hh : xs.toList.drop i with
          | nil => rw [hh] at hx; cases k <;> simp [shapeOk] at hx
          | cons v r =>
            have h1 : xs.toList[i]? = some v := by
              have := congrArg (fun l => l[0]?) hh
              simpa using this
            have h2 : xs.toList.drop (i + 1) = r := by
              have := congrArg (List.drop 1) hh
              rw [List.drop_drop] at this
              simpa using this
            rw [hh] at hx
            have hx2 : shapeOk l r = true := by cases k <;> cases v <;> simp [shapeOk] at hx <;> first | exact hx.2 | exact hx
            rw [← h2] at hx2
            have hagg : (isAgg f.type).run P w = .ok false w := by
              split at hk
              · rename_i hu; exact runIsAgg (by simp [tag, hu])
              · rename_i hu; exact runIsAgg (by simp [tag, hu])
              · cases hk
            have hpart : (part f.type xs f.offset).run P w = .ok v w := by
              have h3 : xs[i]? = some v := by simpa using h1
              simp [part, hagg, hoff, h3]
            have hck : (Instr.checkKey em (n + 1) f.type v).run P w = .ok () w := by
              split at hk
              · rename_i hu; simp only [Instr.checkKey, Sem.run_bind, runUnderlying hu, Result.andThen_ok]; rfl
              · rename_i hu; simp only [Instr.checkKey, Sem.run_bind, runUnderlying hu, Result.andThen_ok]; rfl
              · cases hk
            rw [List.forIn_cons]
            have ih' := ih hx2
            simp only [ne_eq] at ih' hname ⊢
            simp only [hname, not_false_eq_true, if_true, Sem.run_bind, hpart, hck, Result.andThen_ok]
            simpa using ih'
      · cases h
    · cases h
theorem run_checkArr (em : Bool) (n : Nat) {e : TypeId} {k : IntKind} (he : P.underlying e = some (.int k)) (hs : tsz P e = some 1) (xs : Array Value) : ∀ (m i : Nat), i + m ≤ xs.size →
    (forIn (m := Sem) (List.range' i m 1) PUnit.unit fun i _ => do
        Instr.checkKey em (n + 1) e (← part e xs (i * (← sizeOf e)))
        pure (ForInStep.yield PUnit.unit)).run P w = .ok PUnit.unit w
  | 0, i, _ => by simp
  | m + 1, i, h => by
    have ih := run_checkArr em n he hs xs m (i + 1) (by omega)
    have h3 : xs[i]? = some xs[i] := by simp [show i < xs.size by omega]
    have hagg : (isAgg e).run P w = .ok false w := runIsAgg (by simp [tag, he])
    have hpart : (part e xs (i * 1)).run P w = .ok xs[i] w := by simp [part, hagg, h3]
    have hck : ∀ v, (Instr.checkKey em (n + 1) e v).run P w = .ok () w := fun v => by
      simp only [Instr.checkKey, Sem.run_bind, runUnderlying he, Result.andThen_ok]; rfl
    rw [List.range'_succ, List.forIn_cons]
    simp only [Sem.run_bind, runSizeOf hs, hpart, hck, Result.andThen_ok]
    simpa using ih
theorem run_checkKey_ {t : TypeId} {ks : List CK} (h : keyShape P t = some ks) {x : List Value} (hx : shapeOk ks x = true) (em : Bool) : (Instr.checkKey em 10000 t (keyV x)).run P w = .ok () w := by
  have lx := shape_len hx
  have key : ∀ d, (Instr.checkKey em (d + 1 + 1) t (keyV x)).run P w = .ok () w := fun d => by
    unfold keyShape at h
    split at h
    · rename_i k hu
      rw [Instr.checkKey]
      simp only [Sem.run_bind, runUnderlying hu, Result.andThen_ok]; rfl
    · rename_i hu
      rw [Instr.checkKey]
      simp only [Sem.run_bind, runUnderlying hu, Result.andThen_ok]; rfl
    · rename_i fs hu
      split at h
      · rename_i ks' he
        split at h
        · cases h
        · rename_i hne
          cases h
          rw [keyV_agg (by rw [lx]; exact hne)]
          rw [Instr.checkKey]
          simp only [Sem.run_bind, runUnderlying hu, Result.andThen_ok]
          unfold eqShape at he
          split at he
          · split at he
            · rename_i fs' hu'
              rw [hu] at hu'; cases hu'
              rw [← Array.forIn_toList]
              have := run_checkFields (P := P) (w := w) em d x.toArray fs.toList 0 ks he (by simpa using hx)
              simp at this ⊢
              rw [this]; rfl
            · cases he
          · cases he
      · cases h
    · rename_i n e hu
      split at h
      · rename_i k he
        split at h
        · rename_i hc
          cases h
          simp only [List.length_replicate] at lx
          rw [keyV_agg (by rw [lx]; exact hc.2)]
          rw [Instr.checkKey]
          simp only [Sem.run_bind, runUnderlying hu, Result.andThen_ok]
          rw [Std.Legacy.Range.forIn_eq_forIn_range']
          have e0 : List.range' [:n].start [:n].size [:n].step = List.range' 0 n 1 := by simp [Std.Legacy.Range.size]
          rw [e0]
          have := run_checkArr (P := P) (w := w) em d he hc.1 x.toArray n 0 (by simp [lx])
          simp at this ⊢
          rw [this]; rfl
        · cases h
      · cases h
    · cases h
  exact key 9998
end
end Go.Ab
namespace Go.Ab
open Go
/-! ### Maps -/
def mfind (k : List Value) : List (List Value × List DC) → Option (List DC)
  | [] => none
  | x :: r => if beqs k x.1 = true then some x.2 else mfind k r
def mget (k : List Value) (es : List (List Value × List DC)) (z : List DC) : List DC := (mfind k es).getD z
def mhas (k : List Value) (es : List (List Value × List DC)) : Bool := (mfind k es).isSome
def mset (k : List Value) (v : List DC) : List (List Value × List DC) → List (List Value × List DC)
  | [] => [(k, v)]
  | x :: r => if beqs k x.1 = true then (k, v) :: r else x :: mset k v r
def mdel (k : List Value) : List (List Value × List DC) → List (List Value × List DC)
  | [] => []
  | x :: r => if beqs k x.1 = true then r else x :: mdel k r
def midx (k : List Value) : List (List Value × List DC) → Option Nat
  | [] => none
  | x :: r => if beqs k x.1 = true then some 0 else (midx k r).map (· + 1)
def keyOfV : DV → Option (List Value)
  | .one (.im (.raw v)) => some [v]
  | .agg l => if l.length = 1 then none else raws l
  | _ => none
def valOfV : DV → Option (List DC)
  | .one c => some [c]
  | .agg l => if l.length = 1 then none else some l
  | _ => none
def tmap (P : Program) (t : TypeId) : Option (TypeId × TypeId) := match P.underlying t with
  | some (.map k e) => some (k, e)
  | _ => none
/-- The zero value's cells, where they tell the value. -/
def tzk (P : Program) (t : TypeId) : Option (List Value) := match (P.info? t).bind (·.zero) with
  | some (.agg cs) => if cs.size = 1 then none else some cs.toList
  | some v => some [v]
  | none => none
section
variable {P : Program} {w : World} {G : Nat → Option (List IC)} {S : DS}
theorem tmap_spec {t k e : TypeId} (h : tmap P t = some (k, e)) : P.underlying t = some (.map k e) := by
  unfold tmap at h
  split at h
  · rename_i hu; cases h; exact hu
  · cases h
theorem run_tzk {t : TypeId} {z : List Value} (h : tzk P t = some z) : (zeroValue t).run P w = .ok (keyV z) w := by
  unfold tzk at h
  cases hi : P.info? t with
  | none => simp [hi] at h
  | some i =>
    cases hz : i.zero with
    | none => simp [hi, hz] at h
    | some v =>
      have hrun : (zeroValue t).run P w = .ok v w := by
        unfold zeroValue
        simp [typeInfo, hi, hz]
      simp only [hi, Option.bind_some, hz] at h
      rw [hrun]
      split at h
      · rename_i cs hv
        split at h
        · cases h
        · rename_i hne
          cases h; cases hv
          rw [keyV_agg (by simpa using hne)]
      · rename_i hv; cases h; cases hv; rfl
      · rename_i hv; cases hv
theorem keyOfV_sound {a : Act} {M : MS} (hr : Rel G S a M) {x : Operand} {d : DV} {k : List Value} (hx : evalG G S x = some d) (hk : keyOfV d = some k) : a.eval x = keyV k := by
  have hp := evalG_sound hr hx
  generalize a.eval x = v at hp
  unfold keyOfV at hk
  split at hk
  · cases hk; exact hp.raw
  · split at hk
    · cases hk
    · rename_i l hne
      cases hp with
      | agg _ cs h1 h2 =>
        have := raws_sound l k cs.toList hk (by simpa using h1) (fun j c v h3 h4 => h2 j c v h3 (by simpa using h4))
        rw [← this, keyV_agg (by simpa [← h1] using hne)]
  · cases hk
theorem valOfV_sound {M : MS} {d : DV} {l : List DC} {v : Value} (hp : RepV M d v) (hl : valOfV d = some l) : RepV M (valV l) v := by
  unfold valOfV at hl
  split at hl
  · cases hl; exact hp
  · split at hl
    · cases hl
    · rename_i hne
      cases hl
      have : valV l = .agg l := by
        match l, hne with
        | [], _ => rfl
        | [v], h => simp at h
        | _ :: _ :: _, _ => rfl
      rw [this]; exact hp
  · cases hl
/-- What is found. -/
def fres (k : List Value) : List (List Value × List DC) → List MapEntry → Nat → Option (Nat × Value)
  | x :: r, e :: l, i => if beqs k x.1 = true then some (i, e.val) else fres k r l (i + 1)
  | _, _, _ => none
def Keys (es : List (List Value × List DC)) (l : List MapEntry) : Prop := l.map (·.key) = es.map (fun x => keyV x.1)
theorem run_asking {kt : TypeId} {ks : List CK} (h : keyShape P kt = some ks) {k : List Value} (hk : shapeOk ks k = true) : ∀ (es : List (List Value × List DC)) (l : List MapEntry) (i : Nat), Keys es l → (∀ x ∈ es, shapeOk ks x.1 = true) →
    (Instr.findAsking kt (keyV k) l i).run P w = .ok (fres k es l i) w
  | [], [], i, _, _ => by simp [Instr.findAsking, fres]
  | [], e :: l, i, hk', _ => by simp [Keys] at hk'
  | x :: es, [], i, hk', _ => by simp [Keys] at hk'
  | x :: es, e :: l, i, hk', hs => by
    simp only [Keys, List.map_cons, List.cons.injEq] at hk'
    have ih := run_asking h hk es l (i + 1) hk'.2 (fun y hy => hs y (by simp [hy]))
    simp only [Instr.findAsking, Sem.run_bind, hk'.1, run_equal_key h hk (hs x (by simp)), Result.andThen_ok, fres]
    cases hb : beqs k x.1
    · simpa using ih
    · simp
theorem findNow_int {q : IntKind} {n : Int} : ∀ (es : List (List Value × List DC)) (l : List MapEntry) (i : Nat), Keys es l → (∀ x ∈ es, shapeOk [.int q] x.1 = true) →
    Instr.findNow (.int q) (.int q n) l i = some (fres [.int q n] es l i)
  | [], [], i, _, _ => rfl
  | [], e :: l, i, hk', _ => by simp [Keys] at hk'
  | x :: es, [], i, hk', _ => by simp [Keys] at hk'
  | x :: es, e :: l, i, hk', hs => by
    simp only [Keys, List.map_cons, List.cons.injEq] at hk'
    have ih := findNow_int (q := q) (n := n) es l (i + 1) hk'.2 (fun y hy => hs y (by simp [hy]))
    have h1 := hs x (by simp)
    have h2 := shape_len h1
    obtain ⟨x1, x2⟩ := x
    match x1, h2 with
    | [v], _ =>
      cases v <;> simp [shapeOk] at h1
      subst h1
      simp only [Instr.findNow, hk'.1, keyV, Instr.sameNow, if_true, fres, beqs, Bool.and_true]
      split
      · rename_i hb; simp at hb; simp [hb]
      · rename_i hb; simp at hb; simpa [hb] using ih
      · rename_i hb; cases hb
theorem findNow_bool {n : Bool} : ∀ (es : List (List Value × List DC)) (l : List MapEntry) (i : Nat), Keys es l → (∀ x ∈ es, shapeOk [.bool] x.1 = true) →
    Instr.findNow .bool (.bool n) l i = some (fres [.bool n] es l i)
  | [], [], i, _, _ => rfl
  | [], e :: l, i, hk', _ => by simp [Keys] at hk'
  | x :: es, [], i, hk', _ => by simp [Keys] at hk'
  | x :: es, e :: l, i, hk', hs => by
    simp only [Keys, List.map_cons, List.cons.injEq] at hk'
    have ih := findNow_bool (n := n) es l (i + 1) hk'.2 (fun y hy => hs y (by simp [hy]))
    have h1 := hs x (by simp)
    have h2 := shape_len h1
    obtain ⟨x1, x2⟩ := x
    match x1, h2 with
    | [v], _ =>
      cases v <;> simp [shapeOk] at h1
      simp only [Instr.findNow, hk'.1, keyV, Instr.sameNow, fres, beqs, Bool.and_true]
      split
      · rename_i hb; simp at hb; simp [hb]
      · rename_i hb; simp at hb; simpa [hb] using ih
      · rename_i hb; cases hb
theorem run_find {kt : TypeId} {ks : List CK} (h : keyShape P kt = some ks) {k : List Value} (hk : shapeOk ks k = true) {es : List (List Value × List DC)} {l : List MapEntry} (hl : Keys es l) (hs : ∀ x ∈ es, shapeOk ks x.1 = true) :
    (Instr.findKey kt (keyV k) l).run P w = .ok (fres k es l 0) w := by
  have hask := run_asking (w := w) h hk es l 0 hl hs
  have h0 := h
  unfold keyShape at h
  split at h
  · rename_i q hu
    cases h
    have h2 := shape_len hk
    match k, h2 with
    | [v], _ =>
      cases v <;> simp [shapeOk] at hk
      subst hk
      simp only [keyV, Instr.findKey, Sem.run_bind, runUnderlying hu, Result.andThen_ok, findNow_int es l 0 hl hs, Sem.run_pure]
  · rename_i hu
    cases h
    have h2 := shape_len hk
    match k, h2 with
    | [v], _ =>
      cases v <;> simp [shapeOk] at hk
      simp only [keyV, Instr.findKey, Sem.run_bind, runUnderlying hu, Result.andThen_ok, findNow_bool es l 0 hl hs, Sem.run_pure]
  · rename_i fs hu
    have hag : keyV k = .agg k.toArray := by
      split at h
      · split at h
        · cases h
        · rename_i hne; cases h; exact keyV_agg (by rw [shape_len hk]; exact hne)
      · cases h
    cases l with
    | nil =>
      cases es with
      | cons => simp [Keys] at hl
      | nil => simp [Instr.findKey, runUnderlying hu, Instr.findNow, fres]
    | cons e l =>
      have hn : Instr.findNow (.struct fs) (keyV k) (e :: l) 0 = none := by
        rw [hag]; simp [Instr.findNow, Instr.sameNow]
      simp only [Instr.findKey, Sem.run_bind, runUnderlying hu, Result.andThen_ok, hn]
      exact hask
  · rename_i n e hu
    have hag : keyV k = .agg k.toArray := by
      split at h
      · split at h
        · rename_i hc; cases h; exact keyV_agg (by rw [shape_len hk]; simpa using hc.2)
        · cases h
      · cases h
    cases l with
    | nil =>
      cases es with
      | cons => simp [Keys] at hl
      | nil => simp [Instr.findKey, runUnderlying hu, Instr.findNow, fres]
    | cons e' l =>
      have hn : Instr.findNow (.array n e) (keyV k) (e' :: l) 0 = none := by
        rw [hag]; simp [Instr.findNow, Instr.sameNow]
      simp only [Instr.findKey, Sem.run_bind, runUnderlying hu, Result.andThen_ok, hn]
      exact hask
  · cases h
theorem fres_none {k : List Value} : ∀ {es : List (List Value × List DC)} {l : List MapEntry} {i : Nat}, Keys es l → fres k es l i = none → mfind k es = none ∧ midx k es = none
  | [], _, _, _, _ => ⟨rfl, rfl⟩
  | x :: es, [], i, h, _ => by simp [Keys] at h
  | x :: es, e :: l, i, h, hf => by
    simp only [Keys, List.map_cons, List.cons.injEq] at h
    simp only [fres] at hf
    split at hf
    · cases hf
    · rename_i hb
      obtain ⟨h1, h2⟩ := fres_none h.2 hf
      simp [mfind, midx, hb, h1, h2]
theorem fres_some {k : List Value} : ∀ {es : List (List Value × List DC)} {l : List MapEntry} {i j : Nat} {v : Value}, Keys es l → fres k es l i = some (j, v) →
    ∃ (p : Nat) (x : List Value × List DC) (e : MapEntry), j = i + p ∧ es[p]? = some x ∧ l[p]? = some e ∧ v = e.val ∧ mfind k es = some x.2 ∧ midx k es = some p
  | [], _, _, _, _, _, h => by simp [fres] at h
  | x :: es, [], i, _, _, h, _ => by simp [Keys] at h
  | x :: es, e :: l, i, j, v, h, hf => by
    simp only [Keys, List.map_cons, List.cons.injEq] at h
    simp only [fres] at hf
    split at hf
    · rename_i hb
      cases hf
      exact ⟨0, x, e, rfl, rfl, rfl, rfl, by simp [mfind, hb], by simp [midx, hb]⟩
    · rename_i hb
      obtain ⟨p, y, e', rfl, h1, h2, h3, h4, h5⟩ := fres_some h.2 hf
      exact ⟨p + 1, y, e', by omega, by simpa using h1, by simpa using h2, h3, by simp [mfind, hb, h4], by simp [midx, hb, h5]⟩
theorem mset_none {k : List Value} {v : List DC} : ∀ {es : List (List Value × List DC)}, midx k es = none → mset k v es = es ++ [(k, v)]
  | [], _ => rfl
  | x :: es, h => by
    simp only [midx] at h
    split at h
    · cases h
    · rename_i hb
      simp only [Option.map_eq_none_iff] at h
      simp [mset, hb, mset_none h]
theorem mset_some {k : List Value} {v : List DC} : ∀ {es : List (List Value × List DC)} {p : Nat}, midx k es = some p → mset k v es = es.set p (k, v)
  | [], _, h => by simp [midx] at h
  | x :: es, p, h => by
    simp only [midx] at h
    split at h
    · rename_i hb; cases h; simp [mset, hb]
    · rename_i hb
      simp only [Option.map_eq_some_iff] at h
      obtain ⟨q, hq, rfl⟩ := h
      simp [mset, hb, mset_some hq]
theorem mdel_none {k : List Value} : ∀ {es : List (List Value × List DC)}, midx k es = none → mdel k es = es
  | [], _ => rfl
  | x :: es, h => by
    simp only [midx] at h
    split at h
    · cases h
    · rename_i hb
      simp only [Option.map_eq_none_iff] at h
      simp [mdel, hb, mdel_none h]
theorem mdel_some {k : List Value} : ∀ {es : List (List Value × List DC)} {p : Nat}, midx k es = some p → mdel k es = es.eraseIdx p
  | [], _, h => by simp [midx] at h
  | x :: es, p, h => by
    simp only [midx] at h
    split at h
    · rename_i hb; cases h; simp [mdel, hb]
    · rename_i hb
      simp only [Option.map_eq_some_iff] at h
      obtain ⟨q, hq, rfl⟩ := h
      simp [mdel, hb, mdel_some hq]
theorem keys_of {M : MS} {es : List (List Value × List DC)} {ents : Array MapEntry} (hsz : ents.size = es.length) (h : ∀ (i : Nat) (x : List Value × List DC) (e : MapEntry), es[i]? = some x → ents[i]? = some e → RepE M x e) : Keys es ents.toList := by
  refine List.ext_getElem? fun i => ?_
  rw [List.getElem?_map, List.getElem?_map]
  by_cases hi : i < es.length
  · have h1 : es[i]? = some es[i] := by simp [hi]
    have h2 : ents[i]? = some ents[i] := by simp [hsz, hi]
    rw [h1, Array.getElem?_toList, h2]
    simp only [Option.map_some]
    rw [(h i _ _ h1 h2).1]
  · rw [List.getElem?_eq_none (l := es) (by omega), List.getElem?_eq_none (l := ents.toList) (by simp [hsz]; omega)]
    rfl
theorem zic_valV {M : MS} : ∀ {z : List Value}, z.all Plain = true → RepV M (valV (z.map zic)) (keyV z)
  | [], _ => .agg _ _ rfl (fun j c v h => by simp at h)
  | [v], h => .one _ _ (zic_sound (by simpa using h))
  | a :: b :: r, h => by
    refine .agg _ _ (by simp) fun j c v h1 h2 => ?_
    rw [← List.map_cons, List.getElem?_map, Option.map_eq_some_iff] at h1
    obtain ⟨v0, h3, rfl⟩ := h1
    rw [List.getElem?_toArray] at h2
    rw [h3] at h2; cases h2
    exact zic_sound (List.all_eq_true.1 h _ (List.mem_of_getElem? h3))
def dlookup (P : Program) (G : Nat → Option (List IC)) (S : DS) (t : TypeId) (m k : Operand) (ok : Bool) : Option (DV × List DObj) :=
  match evalG G S m, evalG G S k, tmap P t with
  | some (.one (.map o)), some kd, some (kt, et) => match S.objs[o]?, keyOfV kd, keyShape P kt, tzk P et with
    | some (.map ks es), some kv, some ks', some z =>
      if ks = ks' ∧ shapeOk ks kv = true ∧ z.all Plain = true then
        some (if ok then .tup [valV (mget kv es (z.map zic)), .one (.im (.raw (.bool (mhas kv es))))] else valV (mget kv es (z.map zic)), S.objs)
      else none
    | _, _, _, _ => none
  | _, _, _ => none
theorem map_obj {M : MS} (hm : RelM G M) {o : Nat} {ks : List CK} {es : List (List Value × List DC)} {v : Value} (hp : RepC M (.map o) v) (ho : M.objs[o]? = some (.map ks es)) :
    v = .map (some (M.β o)) ∧ ∃ ents clock, M.w.heap[M.β o]? = some (.map ents clock) ∧ Stamps ents clock ∧ (∀ x ∈ es, shapeOk ks x.1 = true) ∧ ents.size = es.length ∧
      (∀ (i : Nat) (x : List Value × List DC) (e : MapEntry), es[i]? = some x → ents[i]? = some e → RepE M x e) ∧ Keys es ents.toList := by
  cases hp with
  | map _ _ h1 h2 h3 =>
    obtain ⟨ents, clock, a1, a2, a3, a4, a5⟩ := hm.objs o _ ho
    exact ⟨h3 _ _ ho, ents, clock, a1, a2, a3, a4, a5, keys_of a4 a5⟩
theorem run_getObj_ {w : World} {b c : Nat} {x : Array MapEntry} (h : w.heap[b]? = some (.map x c)) : (getObj b).run P w = .ok (.map x c) w := by
  simp [getObj, Sem.run, h]
theorem run_setObj_ {w : World} {b c : Nat} {x : Array MapEntry} {y : Obj} (h : w.heap[b]? = some (.map x c)) : (setObj b y).run P w = .ok () { w with heap := w.heap.setIfInBounds b y } := by
  simp [setObj, Sem.run, h]
theorem OpV_lookup {o : Oper} {t : TypeId} {m k : Operand} {ok : Bool} {d : DV} {objs' : List DObj} (ho : o.op = .lookup t m k ok) (h : dlookup P G S t m k ok = some (d, objs')) : OpV P G o S d objs' := by
  unfold dlookup at h
  split at h
  · rename_i oM kd kt et hm hk ht
    split at h
    · rename_i ks es kv ks' z h1 h2 h3 h4
      split at h
      · rename_i hc
        obtain ⟨rfl, hsk, hz⟩ := hc
        cases h
        intro a M hr
        have hp := evalG_sound hr hm
        have hkv := keyOfV_sound hr hk h2
        generalize hv : a.eval m = v at hp
        cases hp with
        | one _ _ hp =>
          obtain ⟨rfl, ents, clock, a1, a2, a3, a4, a5, a6⟩ := map_obj hr.m hp (by rw [hr.ob]; exact h1)
          have hfind := run_find (P := P) (w := M.w) h3 hsk a6 a3
          have hck := fun em => run_checkKey_ (P := P) (w := M.w) h3 hsk em
          have hzero := run_tzk (P := P) (w := M.w) h4
          have hzr := zic_valV (M := M) hz
          have hrun : ∀ u b, ((∃ j, fres kv es ents.toList 0 = some (j, u) ∧ b = true) ∨ (fres kv es ents.toList 0 = none ∧ u = keyV z ∧ b = false)) → (execOp a.eval o).run P M.w = .ok (.value (if ok then .tuple #[u, .bool b] else u)) M.w := by
            intro u b hu
            simp only [execOp, ho, Instr.lookup, hv, hkv, Sem.run_bind, runUnderlying (tmap_spec ht), Result.andThen_ok, run_getObj_ a1, Sem.run_pure, hck, hfind]
            rcases hu with ⟨j, h1, rfl⟩ | ⟨h1, rfl, rfl⟩
            · rw [h1]; simp
            · rw [h1]; simp [hzero]
          have fin : ∀ u b, ((∃ j, fres kv es ents.toList 0 = some (j, u) ∧ b = true) ∨ (fres kv es ents.toList 0 = none ∧ u = keyV z ∧ b = false)) → RepV M (valV (mget kv es (z.map zic))) u → mhas kv es = b →
              ∃ v M', ((execOp a.eval o).run P M.w = .ok (.value v) M'.w ∨ ((execOp a.eval o).run P M.w = .ok .skip M'.w ∧ v = undef)) ∧ RelM G M' ∧ M'.objs = S.objs ∧ Ext M.objs.length M M' ∧
                RepV M' (if ok then .tup [valV (mget kv es (z.map zic)), .one (.im (.raw (.bool (mhas kv es))))] else valV (mget kv es (z.map zic))) v := by
            intro u b hu hrep hb
            refine ⟨_, M, .inl (hrun u b hu), hr.m, hr.ob, Ext.refl M, ?_⟩
            cases ok
            · simpa using hrep
            · simp only [if_true]
              refine .tup _ _ rfl fun j d v h5 h6 => ?_
              match j with
              | 0 => simp at h5 h6; subst h5; subst h6; exact hrep
              | 1 => simp at h5 h6; subst h5; subst h6; rw [hb]; exact .one _ _ (.im _ _ (.raw _ rfl))
              | j + 2 => simp at h5
          cases hf : fres kv es ents.toList 0 with
          | none =>
            have h5 := (fres_none a6 hf).1
            refine fin (keyV z) false ?_ (by simp [mget, h5, hzr]) (by simp [mhas, h5])
            exact .inr ⟨hf, rfl, rfl⟩
          | some p =>
            obtain ⟨j, u⟩ := p
            obtain ⟨p, x, e, rfl, h5, h6, rfl, h7, h8⟩ := fres_some a6 hf
            refine fin e.val true ?_ ?_ (by simp [mhas, h7])
            · exact .inl ⟨_, hf, rfl⟩
            · simp only [mget, h7, Option.getD_some]
              exact (a5 p x e h5 (by simpa using h6)).2.2
      · cases h
    · cases h
  · cases h
def dmapUpdate (P : Program) (G : Nat → Option (List IC)) (S : DS) (t : TypeId) (m k v : Operand) : Option (DV × List DObj) :=
  match evalG G S m, evalG G S k, evalG G S v, tmap P t with
  | some (.one (.map o)), some kd, some vd, some (kt, _) => match S.objs[o]?, keyOfV kd, keyShape P kt, valOfV vd with
    | some (.map ks es), some kv, some ks', some vl =>
      if ks = ks' ∧ shapeOk ks kv = true then some (.tup [], S.objs.set o (.map ks (mset kv vl es))) else none
    | _, _, _, _ => none
  | _, _, _, _ => none
theorem sameBits_keyV {ks : List CK} {k : List Value} (h : shapeOk ks k = true) : Instr.sameBits 10000 (keyV k) (keyV k) = true := by
  have one : ∀ (n : Nat) (v : Value) (c : CK) (ks : List CK) (l : List Value), shapeOk (c :: ks) (v :: l) = true → Instr.sameBits n v v = true ∧ shapeOk ks l = true := by
    intro n v c ks l hs
    cases c <;> cases v <;> simp [shapeOk] at hs
    · cases n <;> simp [Instr.sameBits, hs.2]
    · cases n <;> simp [Instr.sameBits, hs]
  have all : ∀ (n : Nat) (ks : List CK) (l : List Value), shapeOk ks l = true → ((l.zip l).all fun (x, y) => Instr.sameBits n x y) = true := by
    intro n ks
    induction ks with
    | nil => intro l hl; cases l <;> simp [shapeOk] at hl ⊢
    | cons c ks ih =>
      intro l hl
      cases l with
      | nil => rfl
      | cons v l =>
        obtain ⟨h1, h2⟩ := one n v c ks l hl
        have := ih l h2
        simp only [List.zip_cons_cons, List.all_cons, h1, Bool.true_and]
        exact this
  have agg : ∀ (n : Nat) (l : List Value), shapeOk ks l = true → Instr.sameBits (n + 1) (.agg l.toArray) (.agg l.toArray) = true := fun n l hl => by
    have := all n ks l hl
    simp only [Instr.sameBits, beq_self_eq_true, Bool.true_and]
    exact this
  match k, h with
  | [], h => exact agg 9999 [] h
  | [v], h =>
    cases ks with
    | nil => simp [shapeOk] at h
    | cons c ks => exact (one 10000 v c ks [] h).1
  | a :: b :: r, h => exact agg 9999 (a :: b :: r) h
theorem Stamps.push {ents : Array MapEntry} {clock : Nat} (h : Stamps ents clock) (k v : Value) : Stamps (ents.push { key := k, val := v, born := clock }) (clock + 1) := by
  refine ⟨fun i e hi => ?_, fun i j e e' hi hj he => ?_⟩
  · rw [Array.getElem?_push] at hi
    split at hi
    · cases hi; simp
    · have := h.1 i e hi; omega
  · rw [Array.getElem?_push] at hi hj
    split at hi
    · split at hj
      · omega
      · cases hi
        have := h.1 j e' hj; simp at he; omega
    · split at hj
      · cases hj
        have := h.1 i e hi; simp at he; omega
      · exact h.2 i j e e' hi hj he
theorem Stamps.modify {ents : Array MapEntry} {clock : Nat} (h : Stamps ents clock) (p : Nat) (f : MapEntry → MapEntry) (hf : ∀ e, (f e).born = e.born) : Stamps (ents.modify p f) clock := by
  have get : ∀ (i : Nat) (e : MapEntry), (ents.modify p f)[i]? = some e → ∃ e0, ents[i]? = some e0 ∧ e.born = e0.born := fun i e hi => by
    rw [Array.getElem?_modify] at hi
    split at hi
    · rw [Option.map_eq_some_iff] at hi
      obtain ⟨e0, h1, rfl⟩ := hi
      exact ⟨e0, h1, hf e0⟩
    · exact ⟨e, hi, rfl⟩
  refine ⟨fun i e hi => ?_, fun i j e e' hi hj he => ?_⟩
  · obtain ⟨e0, h1, h2⟩ := get i e hi
    rw [h2]; exact h.1 i e0 h1
  · obtain ⟨e0, h1, h2⟩ := get i e hi
    obtain ⟨e1, h3, h4⟩ := get j e' hj
    exact h.2 i j e0 e1 h1 h3 (by rw [← h2, ← h4]; exact he)
theorem OpV_mapUpdate {o : Oper} {t : TypeId} {m k v : Operand} {d : DV} {objs' : List DObj} (ho : o.op = .mapUpdate t m k v ∨ o.op = .insert t m k v) (h : dmapUpdate P G S t m k v = some (d, objs')) : OpV P G o S d objs' := by
  unfold dmapUpdate at h
  split at h
  · rename_i oM kd vd kt et hm hk hvd ht
    split at h
    · rename_i ks es kv ks' vl h1 h2 h3 h4
      split at h
      · rename_i hc
        obtain ⟨rfl, hsk⟩ := hc
        cases h
        intro a M hr
        have hp := evalG_sound hr hm
        have hkv := keyOfV_sound hr hk h2
        have hvv := valOfV_sound (evalG_sound hr hvd) h4
        have hob : M.objs[oM]? = some (.map ks es) := by rw [hr.ob]; exact h1
        generalize hv : a.eval m = mv at hp
        generalize hx : a.eval v = xv at hvv
        cases hp with
        | one _ _ hp =>
          obtain ⟨rfl, ents, clock, a1, a2, a3, a4, a5, a6⟩ := map_obj hr.m hp hob
          have hfind := run_find (P := P) (w := M.w) h3 hsk a6 a3
          have hck := fun em => run_checkKey_ (P := P) (w := M.w) h3 hsk em
          have hplain : ∀ v ∈ kv, Plain v = true := by
            have : ∀ (ks : List CK) (l : List Value), shapeOk ks l = true → ∀ v ∈ l, Plain v = true := by
              intro ks
              induction ks with
              | nil => intro l hl; cases l <;> simp [shapeOk] at hl ⊢
              | cons c ks ih =>
                intro l hl
                cases l with
                | nil => simp
                | cons v l =>
                  intro u hu
                  cases c <;> cases v <;> simp [shapeOk] at hl
                  all_goals
                    rcases List.mem_cons.1 hu with rfl | hu
                    · rfl
                    · first | exact ih l hl.2 u hu | exact ih l hl u hu
            exact this ks kv hsk
          have fin : ∀ (X : Obj) (es' : List (List Value × List DC)), (execOp a.eval o).run P M.w = .ok .skip { M.w with heap := M.w.heap.setIfInBounds (M.β oM) X } → osize X = 0 → es' = mset kv vl es →
              (∀ M', Ext M.objs.length M M' → M'.w.heap[M'.β oM]? = some X → RelO M' oM (.map ks es')) →
              ∃ v M', ((execOp a.eval o).run P M.w = .ok (.value v) M'.w ∨ ((execOp a.eval o).run P M.w = .ok .skip M'.w ∧ v = undef)) ∧ RelM G M' ∧ M'.objs = S.objs.set oM (.map ks (mset kv vl es)) ∧ Ext M.objs.length M M' ∧ RepV M' (.tup []) v := by
            rintro X es' hrun hsz rfl hrel
            have he : Ext M.objs.length M (M.turn oM X (.map ks (mset kv vl es))) := Ext.turn hob rfl rfl a1 (by rw [hsz]; rfl)
            refine ⟨undef, M.turn oM X (.map ks (mset kv vl es)), .inr ⟨hrun, rfl⟩, ?_, by simp [MS.turn, hr.ob], he, .tup _ _ rfl (fun j d v h => by simp at h)⟩
            refine hr.m.turn hob rfl rfl a1 (by rw [hsz]; rfl) (hrel _ he ?_)
            simp only [MS.turn]
            rw [Array.getElem?_setIfInBounds_self_of_lt (hr.m.lt oM _ hob rfl)]
          have shape' : ∀ x ∈ mset kv vl es, shapeOk ks x.1 = true := by
            cases hmi : midx kv es with
            | none => rw [mset_none hmi]; intro x hx; rcases List.mem_append.1 hx with hx | hx
                      · exact a3 x hx
                      · simp at hx; subst hx; exact hsk
            | some p => rw [mset_some hmi]; intro x hx
                        rcases List.mem_or_eq_of_mem_set hx with hx | rfl
                        · exact a3 x hx
                        · exact hsk
          cases hf : fres kv es ents.toList 0 with
          | none =>
            have h5 := (fres_none a6 hf).2
            refine fin (.map (ents.push { key := keyV kv, val := xv, born := clock }) (clock + 1)) _ ?_ rfl rfl fun M' he hh => ?_
            · rcases ho with ho | ho <;>
              · simp only [execOp, ho, Instr.mapUpdate, hv, hx, hkv, Sem.run_bind, runUnderlying (tmap_spec ht), Result.andThen_ok, run_getObj_ a1, Sem.run_pure, hck, hfind, hf, run_setObj_ a1]
            · refine ⟨_, _, hh, a2.push _ _, shape', by simp [mset_none h5, a4], fun i x e hi hj => ?_⟩
              rw [mset_none h5] at hi
              rcases getElem?_snoc hi with ⟨hlt, hi⟩ | ⟨rfl, rfl⟩
              · rw [Array.getElem?_push, if_neg (by omega)] at hj
                obtain ⟨b1, b2, b3⟩ := a5 i x e hi hj
                exact ⟨b1, b2, b3.ext he⟩
              · rw [← a4] at hj
                simp at hj
                subst hj
                exact ⟨rfl, hplain, hvv.ext he⟩
          | some p =>
            obtain ⟨j, u⟩ := p
            obtain ⟨p, x, e, rfl, h5, h6, rfl, h7, h8⟩ := fres_some a6 hf
            have h6' : ents[p]? = some e := by simpa using h6
            have hey : e.key = keyV x.1 := (a5 p x e h5 h6').1
            have hsx : Instr.keyThatStays (keyV x.1) (keyV kv) = pure (keyV kv) ∨ True := .inr trivial
            have hstay : ∀ w, (Instr.keyThatStays e.key (keyV kv)).run P w = .ok (keyV kv) w := by
              intro w
              have heq : beqs kv x.1 = true := by
                have : ∀ (es : List (List Value × List DC)) (p : Nat) (x : List Value × List DC), midx kv es = some p → es[p]? = some x → beqs kv x.1 = true := by
                  intro es
                  induction es with
                  | nil => intro p x h; simp [midx] at h
                  | cons y r ih =>
                    intro p x h hx
                    simp only [midx] at h
                    split at h
                    · rename_i hb; cases h; simp at hx; subst hx; exact hb
                    · simp only [Option.map_eq_some_iff] at h
                      obtain ⟨q, hq, rfl⟩ := h
                      exact ih q x hq (by simpa using hx)
                exact this es p x h8 h5
              have hkk : x.1 = kv := by
                have : ∀ (ks : List CK) (l r : List Value), shapeOk ks l = true → shapeOk ks r = true → beqs l r = true → r = l := by
                  intro ks
                  induction ks with
                  | nil => intro l r hl hr _; cases l <;> cases r <;> simp [shapeOk] at hl hr ⊢
                  | cons c ks ih =>
                    intro l r hl hr hb
                    cases l with
                    | nil => cases c <;> simp [shapeOk] at hl
                    | cons v l => cases r with
                      | nil => cases c <;> simp [shapeOk] at hr
                      | cons u r =>
                        cases c <;> cases v <;> simp [shapeOk] at hl <;> cases u <;> simp [shapeOk] at hr <;> simp [beqs] at hb
                        · rw [ih l r hl.2 hr.2 hb.2, hb.1, hl.1, hr.1]
                        · rw [ih l r hl hr hb.2, hb.1]
                exact this ks kv x.1 hsk (a3 x (List.mem_of_getElem? h5)) heq
              rw [hey, hkk]
              simp [Instr.keyThatStays, sameBits_keyV hsk]
            refine fin (.map (ents.modify p fun e => { e with key := keyV kv, val := xv }) clock) _ ?_ rfl rfl fun M' he hh => ?_
            · rcases ho with ho | ho <;>
              · simp only [execOp, ho, Instr.mapUpdate, hv, hx, hkv, Sem.run_bind, runUnderlying (tmap_spec ht), Result.andThen_ok, run_getObj_ a1, Sem.run_pure, hck, hfind, hf, Nat.zero_add, h6', Option.map_some, Option.getD_some, hstay, run_setObj_ a1]
            · refine ⟨_, _, hh, a2.modify p _ (fun _ => rfl), shape', by simp [mset_some h8, a4], fun i x' e' hi hj => ?_⟩
              rw [mset_some h8] at hi
              rw [Array.getElem?_modify] at hj
              rcases set_get hi with ⟨rfl, rfl, _⟩ | ⟨hne, hi⟩
              · rw [if_pos rfl, h6'] at hj
                simp at hj
                subst hj
                exact ⟨rfl, hplain, hvv.ext he⟩
              · rw [if_neg (Ne.symm hne)] at hj
                obtain ⟨b1, b2, b3⟩ := a5 i x' e' hi hj
                exact ⟨b1, b2, b3.ext he⟩
      · cases h
    · cases h
  · cases h
def dmakeMap (P : Program) (G : Nat → Option (List IC)) (S : DS) (t : TypeId) (r : Option Operand) : Option (DV × List DObj) :=
  match tmap P t with
  | some (kt, _) => match keyShape P kt, r with
    | some ks, none => some (.one (.map S.objs.length), S.objs ++ [.map ks []])
    | some ks, some x => match rawOf (evalG G S x) with
      | some (.int _ _) => some (.one (.map S.objs.length), S.objs ++ [.map ks []])
      | _ => none
    | _, _ => none
  | none => none
theorem newMap_push {M : MS} (hm : RelM G M) (ks : List CK) : RelM G (M.push (.map #[] 0) (.map ks [])) := by
  refine hm.push rfl ⟨#[], 0, ?_, ⟨fun i e h => by simp at h, fun i j e e' h => by simp at h⟩, fun x hx => by simp at hx, rfl, fun i x e h => by simp at h⟩
  simp only [MS.push, if_true]
  exact alloc_new
theorem OpV_makeMap {o : Oper} {t : TypeId} {r : Option Operand} {d : DV} {objs' : List DObj} (ho : o.op = .makeMap t r) (h : dmakeMap P G S t r = some (d, objs')) : OpV P G o S d objs' := by
  unfold dmakeMap at h
  split at h
  · rename_i kt et ht
    have fin : ∀ (ks : List CK) (a : Act) (M : MS), Rel G S a M → (execOp a.eval o).run P M.w = .ok (.value (.map (some M.w.heap.size))) (M.w.alloc (.map #[] 0)) →
        ∃ v M', ((execOp a.eval o).run P M.w = .ok (.value v) M'.w ∨ ((execOp a.eval o).run P M.w = .ok .skip M'.w ∧ v = undef)) ∧ RelM G M' ∧ M'.objs = S.objs ++ [.map ks []] ∧ Ext M.objs.length M M' ∧ RepV M' (.one (.map S.objs.length)) v := by
      intro ks a M hr hrun
      refine ⟨_, M.push (.map #[] 0) (.map ks []), .inl hrun, newMap_push hr.m ks, by simp [MS.push, hr.ob], Ext.push _ _ hr.m.lt, .one _ _ (.map _ _ rfl (by simp [MS.push, hr.ob]) fun ks' es hes => ?_)⟩
      simp [MS.push, hr.ob]
    split at h
    · cases h
      intro a M hr
      refine fin _ a M hr ?_
      simp only [execOp, ho, Instr.makeMap, Option.map_none, Sem.run_bind, Sem.run_pure, Result.andThen_ok, run_newObj_alloc]
    · split at h
      · rename_i hx
        cases h
        intro a M hr
        have hxe := rawOf_sound hr hx
        refine fin _ a M hr ?_
        simp only [execOp, ho, Instr.makeMap, Option.map_some, Sem.run_bind, Sem.run_pure, Result.andThen_ok, run_newObj_alloc, runUnderlying (tmap_spec ht), hxe, asInt]
        simp [asIntOf]
      · cases h
    · cases h
  · cases h
def ddelete (P : Program) (G : Nat → Option (List IC)) (S : DS) (t : TypeId) (m k : Operand) : Option (DV × List DObj) :=
  match evalG G S m, evalG G S k, tmap P t with
  | some (.one (.map o)), some kd, some (kt, _) => match S.objs[o]?, keyOfV kd, keyShape P kt with
    | some (.map ks es), some kv, some ks' =>
      if ks = ks' ∧ shapeOk ks kv = true then some (.tup [], S.objs.set o (.map ks (mdel kv es))) else none
    | _, _, _ => none
  | _, _, _ => none
theorem Stamps.erase {ents : Array MapEntry} {clock : Nat} (h : Stamps ents clock) (p : Nat) : Stamps (ents.eraseIdxIfInBounds p) clock := by
  have get : ∀ (i : Nat), (ents.eraseIdxIfInBounds p)[i]? = if i < p then ents[i]? else if p < ents.size then ents[i + 1]? else ents[i]? := fun i => by
    unfold Array.eraseIdxIfInBounds
    split
    · rename_i hlt
      rw [Array.getElem?_eraseIdx]
    · rename_i hge
      split <;> rfl
  refine ⟨fun i e hi => ?_, fun i j e e' hi hj he => ?_⟩
  · rw [get] at hi
    split at hi
    · exact h.1 i e hi
    · split at hi
      · exact h.1 _ e hi
      · exact h.1 _ e hi
  · rw [get] at hi hj
    split at hi <;> split at hj
    · exact h.2 i j e e' hi hj he
    · split at hj
      · have := h.2 i _ e e' hi hj he; omega
      · exact h.2 i _ e e' hi hj he
    · split at hi
      · have := h.2 _ j e e' hi hj he; omega
      · exact h.2 _ j e e' hi hj he
    · split at hi
      · rename_i hlt
        rw [if_pos hlt] at hj
        have := h.2 _ _ e e' hi hj he; omega
      · rename_i hlt
        rw [if_neg hlt] at hj
        exact h.2 _ _ e e' hi hj he
theorem OpV_delete {o : Oper} {t : TypeId} {u : TypeId} {m k : Operand} {d : DV} {objs' : List DObj} (ho : o.op = .call { callee := .builtin .delete, args := #[m, k], argTypes := #[t, u] }) (h : ddelete P G S t m k = some (d, objs')) : OpV P G o S d objs' := by
  unfold ddelete at h
  split at h
  · rename_i oM kd kt et hm hk ht
    split at h
    · rename_i ks es kv ks' h1 h2 h3
      split at h
      · rename_i hc
        obtain ⟨rfl, hsk⟩ := hc
        cases h
        intro a M hr
        have hp := evalG_sound hr hm
        have hkv := keyOfV_sound hr hk h2
        have hob : M.objs[oM]? = some (.map ks es) := by rw [hr.ob]; exact h1
        generalize hv : a.eval m = mv at hp
        cases hp with
        | one _ _ hp =>
          obtain ⟨rfl, ents, clock, a1, a2, a3, a4, a5, a6⟩ := map_obj hr.m hp hob
          have hfind := run_find (P := P) (w := M.w) h3 hsk a6 a3
          have hck := fun em => run_checkKey_ (P := P) (w := M.w) h3 hsk em
          have fin : ∀ (ents' : Array MapEntry), (execOp a.eval o).run P M.w = .ok (.value (.tuple #[])) { M.w with heap := M.w.heap.setIfInBounds (M.β oM) (.map ents' clock) } →
              (∀ M', Ext M.objs.length M M' → M'.w.heap[M'.β oM]? = some (.map ents' clock) → RelO M' oM (.map ks (mdel kv es))) →
              ∃ v M', ((execOp a.eval o).run P M.w = .ok (.value v) M'.w ∨ ((execOp a.eval o).run P M.w = .ok .skip M'.w ∧ v = undef)) ∧ RelM G M' ∧ M'.objs = S.objs.set oM (.map ks (mdel kv es)) ∧ Ext M.objs.length M M' ∧ RepV M' (.tup []) v := by
            rintro ents' hrun hrel
            have he : Ext M.objs.length M (M.turn oM (.map ents' clock) (.map ks (mdel kv es))) := Ext.turn hob rfl rfl a1 rfl
            refine ⟨_, M.turn oM (.map ents' clock) (.map ks (mdel kv es)), .inl hrun, ?_, by simp [MS.turn, hr.ob], he, .tup _ _ rfl (fun j d v h => by simp at h)⟩
            refine hr.m.turn hob rfl rfl a1 rfl (hrel _ he ?_)
            simp only [MS.turn]
            rw [Array.getElem?_setIfInBounds_self_of_lt (hr.m.lt oM _ hob rfl)]
          cases hf : fres kv es ents.toList 0 with
          | none =>
            have h5 := (fres_none a6 hf).2
            refine fin ents ?_ fun M' he hh => ?_
            · simp only [execOp, ho, resolve, invoke, builtin, Builtin.delete_, List.map_toArray, List.map_cons, List.map_nil, hv, hkv, Sem.run_bind, Sem.run_pure, Result.andThen_ok]
              simp [runUnderlying (tmap_spec ht), run_getObj_ a1, hck, hfind, hf, run_setObj_ a1]
            · rw [mdel_none h5]
              exact ⟨_, _, hh, a2, a3, a4, fun i x e hi hj => by
                obtain ⟨b1, b2, b3⟩ := a5 i x e hi hj
                exact ⟨b1, b2, b3.ext he⟩⟩
          | some p =>
            obtain ⟨j, u⟩ := p
            obtain ⟨p, x, e, rfl, h5, h6, rfl, h7, h8⟩ := fres_some a6 hf
            have hlt : p < ents.size := by rw [a4]; exact lt_of_getElem? h5
            refine fin (ents.eraseIdxIfInBounds p) ?_ fun M' he hh => ?_
            · simp only [execOp, ho, resolve, invoke, builtin, Builtin.delete_, List.map_toArray, List.map_cons, List.map_nil, hv, hkv, Sem.run_bind, Sem.run_pure, Result.andThen_ok]
              simp [runUnderlying (tmap_spec ht), run_getObj_ a1, hck, hfind, hf, run_setObj_ a1]
            · rw [mdel_some h8]
              have hes : ents.eraseIdxIfInBounds p = ents.eraseIdx p := by simp [Array.eraseIdxIfInBounds, hlt]
              refine ⟨_, _, hh, a2.erase p, fun x hx => a3 x (List.mem_of_mem_eraseIdx hx), ?_, fun i x' e' hi hj => ?_⟩
              · rw [hes, Array.size_eraseIdx, a4, List.length_eraseIdx, if_pos (by rw [← a4]; exact hlt)]
              · rw [hes, Array.getElem?_eraseIdx] at hj
                rw [List.getElem?_eraseIdx] at hi
                split at hi
                · rename_i hip; rw [if_pos hip] at hj
                  obtain ⟨b1, b2, b3⟩ := a5 i x' e' hi hj
                  exact ⟨b1, b2, b3.ext he⟩
                · rename_i hip; rw [if_neg hip] at hj
                  obtain ⟨b1, b2, b3⟩ := a5 _ x' e' hi hj
                  exact ⟨b1, b2, b3.ext he⟩
      · cases h
    · cases h
  · cases h
def dlenMap (objs : List DObj) (c : DC) : Option Nat := match c with
  | .map o => match objs[o]? with
    | some (.map _ es) => some es.length
    | _ => none
  | _ => none
theorem OpV_lenMap {o : Oper} {t k e : TypeId} {x : Operand} {c : DC} {n : Nat} (ho : o.op = .call { callee := .builtin .len, args := #[x], argTypes := #[t] }) (ht : tmap P t = some (k, e)) (hx : evalG G S x = some (.one c)) (hn : dlenMap S.objs c = some n) : OpV P G o S (.one (.im (.raw (.int .i64 (n : Int))))) S.objs := by
  unfold dlenMap at hn
  split at hn
  · rename_i oM
    split at hn
    · rename_i ks es h1
      cases hn
      refine OpV.pure fun a M hr => ?_
      have hp := evalG_sound hr hx
      generalize hv : a.eval x = mv at hp
      cases hp with
      | one _ _ hp =>
        obtain ⟨rfl, ents, clock, a1, a2, a3, a4, a5, a6⟩ := map_obj hr.m hp (by rw [hr.ob]; exact h1)
        refine ⟨.int .i64 (es.length : Int), ?_, .one _ _ (.im _ _ (.raw _ rfl))⟩
        simp only [execOp, ho, resolve, invoke, builtin, Builtin.len_, List.map_toArray, List.map_cons, List.map_nil, hv, Sem.run_bind, Sem.run_pure, Result.andThen_ok]
        simp [runUnderlying (tmap_spec ht), run_getObj_ a1, a4, goInt]
    · cases hn
  · cases hn
/-- == and != of arrays of integers. -/
def eqArrOk (P : Program) (t : TypeId) : Option (List CK) := match tarr' P t with
  | some _ => if P.eqGuardType P.depth t = false then keyShape P t else none
  | none => none
where tarr' (P : Program) (t : TypeId) : Option (Nat × TypeId) := match P.underlying t with
  | some (.array n e) => some (n, e)
  | _ => none
theorem OpV_eqArr {o : Oper} {op : BinOp} {t u : TypeId} {x y : Operand} {lx ly : List DC} {vx vy : List Value} {ks : List CK} (ho : o.op = .binOp op t x y u) (hop : op = .eql ∨ op = .neq) (ht : eqArrOk P t = some ks)
    (hx : evalG G S x = some (.agg lx)) (hy : evalG G S y = some (.agg ly)) (rx : raws lx = some vx) (ry : raws ly = some vy) (sx : shapeOk ks vx = true) (sy : shapeOk ks vy = true) :
    OpV P G o S (.one (.im (.raw (.bool (if op = .eql then beqs vx vy else !beqs vx vy))))) S.objs := by
  refine .pure fun a M hr => ⟨_, ?_, .mkraw rfl⟩
  have e1 := evalG_sound hr hx
  have e2 := evalG_sound hr hy
  generalize hvx : a.eval x = v at e1
  generalize hvy : a.eval y = v' at e2
  cases e1 with
  | agg _ cx h1 h2 =>
    cases e2 with
    | agg _ cy h3 h4 =>
      have f1 := raws_sound lx vx cx.toList rx (by simpa using h1) (fun j c v hc hv => h2 j c v hc (by simpa using hv))
      have f2 := raws_sound ly vy cy.toList ry (by simpa using h3) (fun j c v hc hv => h4 j c v hc (by simpa using hv))
      have hgt : P.eqGuardType P.depth t = false ∧ keyShape P t = some ks ∧ ∃ n e, P.underlying t = some (.array n e) := by
        unfold eqArrOk at ht
        split at ht
        · rename_i ne hta
          split at ht
          · rename_i hg
            refine ⟨hg, ht, ?_⟩
            unfold eqArrOk.tarr' at hta
            split at hta
            · rename_i n e hu; exact ⟨n, e, hu⟩
            · cases hta
          · cases ht
        · cases ht
      obtain ⟨hg, hks, n, e, hu⟩ := hgt
      have heq : (Op.equal t (.agg cx) (.agg cy)).run P M.w = .ok (beqs vx vy) M.w := by
        unfold keyShape at hks
        rw [hu] at hks
        simp only at hks
        split at hks
        · rename_i k he
          split at hks
          · rename_i hc
            cases hks
            have := run_equal_array (P := P) (w := M.w) hu he hc.1 (xs := cx) (ys := cy) (by rw [f1]; exact sx) (by rw [f2]; exact sy)
            rw [f1, f2] at this
            exact this
          · cases hks
        · cases hks
      have hguard : (eqGuard op t x y (.agg cx) (.agg cy)).run P M.w = .ok () M.w := by
        rcases hop with rfl | rfl <;> simp [eqGuard, hg]
      simp only [execOp, ho, hvx, hvy, Sem.run_bind, hguard, Result.andThen_ok]
      rcases hop with rfl | rfl
      · have h5 : binOp .eql t (.agg cx) (.agg cy) = (do pure (.bool (← Op.equal t (.agg cx) (.agg cy)))) := rfl
        simp only [h5, Sem.run_bind, heq, Result.andThen_ok]
        rfl
      · have h5 : binOp .neq t (.agg cx) (.agg cy) = (do pure (.bool (!(← Op.equal t (.agg cx) (.agg cy))))) := rfl
        simp only [h5, Sem.run_bind, heq, Result.andThen_ok]
        rfl
end
end Go.Ab
