/- Part 3 of the proofs: laws and walks that hold without conditions beyond those that each theorem names. -/
import Derived.Test.YtfbojhlifomnfaaGreatDoorA02
set_option linter.all false
set_option linter.deprecated false
namespace Go.Ab
open Go
section
variable {P : Program} {G : Nat → Option (List IC)} {S : DS}
def dadd (p : DC) (off : Nat) : Option DC :=
  match p with
  | .im (.ip l) => if off ≤ l.length then some (.im (.ip (l.drop off))) else none
  | .ptr o i => some (.ptr o (i + off))
  | .ept o g k i => some (.ept o g k (i + off))
  | _ => none
theorem dadd_sound {M : MS} {p q : DC} {off : Nat} {v : Value} (hp : RepC M p v) (h : dadd p off = some q) (hv : ∃ a, v = .pointer (some a)) :
    ∃ a, v = .pointer (some a) ∧ RepC M q (.pointer (some (a.add off))) := by
  obtain ⟨a, rfl⟩ := hv
  refine ⟨a, rfl, ?_⟩
  unfold dadd at h
  split at h
  · rename_i l
    split at h
    · rename_i hle
      cases h
      cases hp with
      | im _ _ hp => cases hp with
        | ip _ _ val hs hok hc hr =>
          rw [addr_add hs]
          refine .im _ _ (.ip _ _ (fun j => val (off + j)) rfl hok (fun j c hj => ?_) (fun j c hj => ?_))
          · rw [List.getElem?_drop] at hj
            simp only [Nat.add_assoc]
            exact hc _ c hj
          · rw [List.getElem?_drop] at hj
            exact hr _ c hj
    · cases h
  · rename_i o i
    cases h
    cases hp with
    | ptr _ _ _ h1 h2 h3 =>
      refine .ptr _ _ _ rfl h2 fun c hc => ?_
      have := h3 c hc
      simp only [Value.pointer.injEq, Option.some.injEq] at this
      subst this
      rw [addr_add rfl]
  · rename_i o g k i
    cases h
    cases hp with
    | ept _ _ _ _ _ h1 h2 h3 =>
      refine .ept _ _ _ _ _ rfl h2 fun sz es g' nl hc => ?_
      obtain ⟨a1, a2⟩ := h3 sz es g' nl hc
      refine ⟨a1, fun e => ?_⟩
      obtain ⟨b1, b2⟩ := a2 e
      refine ⟨b1, ?_⟩
      simp only [Value.pointer.injEq, Option.some.injEq] at b2
      subst b2
      rw [addr_add rfl, Nat.add_assoc]
  · cases h
def isAddr (p : DC) (objs : List DObj) : Bool :=
  match p with
  | .im (.ip _) => true
  | .ptr o _ => match objs[o]? with | some (.row _) => true | _ => false
  | .ept o g _ _ => match objs[o]? with | some (.vec _ _ g' _) => g == g' | _ => false
  | _ => false
theorem isAddr_sound {M : MS} {p : DC} {v : Value} (hp : RepC M p v) (h : isAddr p M.objs = true) : ∃ a, v = .pointer (some a) := by
  unfold isAddr at h
  split at h
  · cases hp with
    | im _ _ hp => cases hp; exact ⟨_, rfl⟩
  · split at h
    · rename_i ho
      cases hp with
      | ptr _ _ _ h1 h2 h3 => exact ⟨_, h3 _ ho⟩
    · cases h
  · split at h
    · rename_i ho
      cases hp with
      | ept _ _ _ _ _ h1 h2 h3 =>
        exact ⟨_, ((h3 _ _ _ _ ho).2 (by simpa using h)).2⟩
    · cases h
  · cases h
def toff (P : Program) (t : TypeId) (f : Nat) : Option Nat :=
  match P.underlying t with
  | some (.struct fs) => match fs[f]? with
    | some x => match tsz P x.type with
      | some (_ + 1) => some x.offset
      | _ => none
    | none => none
  | _ => none
theorem OpV_fieldAddr {o : Oper} {t : TypeId} {x : Operand} {f off : Nat} {p q : DC} (ho : o.op = .fieldAddr t x f) (hf : toff P t f = some off)
    (hx : evalG G S x = some (.one p)) (ha : isAddr p S.objs = true) (hq : dadd p off = some q) : OpV P G o S (.one q) S.objs := by
  refine .pure fun a M hr => ?_
  have hp := evalG_sound hr hx
  generalize hv : a.eval x = v at hp
  cases hp with
  | one _ _ hp =>
    obtain ⟨ad, rfl, hrep⟩ := dadd_sound hp hq (isAddr_sound hp (by rw [hr.ob]; exact ha))
    refine ⟨_, ?_, .one _ _ hrep⟩
    unfold toff at hf
    split at hf
    · rename_i fs hu
      split at hf
      · rename_i y hy
        split at hf
        · rename_i k hk
          cases hf
          simp [execOp, ho, hv, Instr.fieldAt, runUnderlying hu, hy, Instr.sureAddr, fieldPlace, runSizeOf hk]
        · cases hf
      · cases hf
    · cases hf
def dindex (objs : List DObj) (x : DC) (i : Int) (sz : Nat) : Option DC :=
  if 0 ≤ i then match x with
    | .im (.sl l) => match l[i.toNat]? with
      | some e => if e.length = sz then some (.im (.ip e)) else none
      | none => none
    | .vec o g off len => if i.toNat < len then match objs[o]? with
        | some (.vec z _ g' _) => if g = g' ∧ z = sz then some (.ept o g (off + i.toNat) 0) else none
        | _ => none
      else none
    | _ => none
  else none
theorem OpV_index {o : Oper} {t e : TypeId} {x y : Operand} {k : IntKind} {i : Int} {sz : Nat} {p q : DC} (ho : o.op = .indexAddr t x y) (ht : P.underlying t = some (.slice e)) (hs : tsz P e = some sz)
    (hx : evalG G S x = some (.one p)) (hy : rawOf (evalG G S y) = some (.int k i)) (hq : dindex S.objs p i sz = some q) : OpV P G o S (.one q) S.objs := by
  refine .pure fun a M hr => ?_
  have hp := evalG_sound hr hx
  have e1 := rawOf_sound hr hy
  generalize hv : a.eval x = v at hp
  rw [← hr.ob] at hq
  have run : ∀ (ad : Addr) (len cap : Nat), 0 ≤ i → i.toNat < len → v = .slice (some ad) len cap →
      (execOp a.eval o).run P M.w = .ok (.value (.pointer (some (ad.add (i.toNat * sz))))) M.w := by
    rintro ad len cap h0 hlt rfl
    have h1 : i < (len : Int) := by omega
    simp [execOp, ho, hv, e1, Instr.indexAt, asIntOf, runUnderlying ht, runSizeOf hs, h0, h1]
  unfold dindex at hq
  split at hq
  · rename_i h0
    cases hp with
    | one _ _ hp =>
      split at hq
      · rename_i l
        split at hq
        · rename_i z hz
          split at hq
          · rename_i hlen
            cases hq
            cases hp with
            | im _ _ hp =>
              cases hp with
              | slnil => simp at hz
              | slz => simp at hz
              | sl _ ad cap sz' val hsp hok hcap hl hc hrep =>
                have hlt := lt_of_getElem? hz
                have hzs := hl _ _ hz
                rw [hlen] at hzs
                subst hzs
                refine ⟨_, run ad _ cap h0 hlt rfl, .one _ _ (.im _ _ ?_)⟩
                rw [addr_add hsp]
                exact .ip _ _ (fun j => val i.toNat j) rfl (hok (by rintro rfl; simp at hz)) (fun j c hj => hc _ _ _ _ hz hj) (fun j c hj => hrep _ _ _ _ hz hj)
          · cases hq
        · cases hq
      · rename_i ob g off len
        split at hq
        · rename_i hlt
          split at hq
          · rename_i z es g' nl hob
            split at hq
            · rename_i hg
              obtain ⟨rfl, rfl⟩ := hg
              cases hq
              cases hp with
              | vec _ _ _ _ _ h1 h2 h3 =>
                obtain ⟨_, h4⟩ := h3 _ _ _ _ hob
                obtain ⟨h5, h6⟩ := h4 rfl
                cases nl with
                | true => obtain ⟨_, h7, _⟩ := h5 rfl; omega
                | false =>
                  obtain ⟨xo, cap, rfl, hle, hxo, hbs⟩ := h6 rfl
                  refine ⟨_, run _ _ cap h0 hlt rfl, .one _ _ (.ept _ _ _ _ _ rfl h2 fun sz es' g' nl' hob' => ?_)⟩
                  rw [hob] at hob'
                  cases hob'
                  refine ⟨Nat.le_refl _, fun _ => ⟨rfl, ?_⟩⟩
                  rw [addr_add rfl]
                  rcases hxo with rfl | rfl
                  · omega
                  · simp only [Nat.add_zero, Nat.add_mul]
            · cases hq
          · cases hq
        · cases hq
      · cases hq
  · cases hq
theorem OpV_indexArr {o : Oper} {t e : TypeId} {n : Nat} {x y : Operand} {k : IntKind} {i : Int} {sz : Nat} {p q : DC} (ho : o.op = .indexAddr t x y) (ht : P.underlying t = some (.array n e)) (hs : tsz P e = some sz)
    (hx : evalG G S x = some (.one p)) (hy : rawOf (evalG G S y) = some (.int k i)) (h0 : 0 ≤ i) (hn : i < n) (ha : isAddr p S.objs = true) (hq : dadd p (i.toNat * sz) = some q) : OpV P G o S (.one q) S.objs := by
  refine .pure fun a M hr => ?_
  have hp := evalG_sound hr hx
  have e1 := rawOf_sound hr hy
  generalize hv : a.eval x = v at hp
  cases hp with
  | one _ _ hp =>
    obtain ⟨ad, rfl, hrep⟩ := dadd_sound hp hq (isAddr_sound hp (by rw [hr.ob]; exact ha))
    refine ⟨_, ?_, .one _ _ hrep⟩
    simp [execOp, ho, hv, e1, Instr.indexAt, asIntOf, Instr.sureAddr, runUnderlying ht, runSizeOf hs, h0, hn]
theorem OpV_field {o : Oper} {t u : TypeId} {x : Operand} {f off sz : Nat} {ag : Bool} {fs : Array Field} {y : Field} {l : List DC} {d : DV} (ho : o.op = .field t x f) (ht : P.underlying t = some (.struct fs))
    (hf : fs[f]? = some y) (hu : y.type = u) (hoff : y.offset = off) (hs : tsz P u = some sz) (hg : tag P u = some ag)
    (hx : evalG G S x = some (.agg l)) (hle : off + sz ≤ l.length) (hd : mkDV ag ((l.drop off).take sz) = some d) : OpV P G o S d S.objs := by
  refine .pure fun a M hr => ?_
  have hp := evalG_sound hr hx
  subst hu
  subst hoff
  generalize hv : a.eval x = v at hp
  cases hp with
  | agg _ cs h1 h2 =>
    cases ag with
    | true =>
      simp only [mkDV, if_true, Option.some.injEq] at hd
      subst hd
      refine ⟨.agg (cs.extract y.offset (y.offset + sz)), ?_, .agg _ _ (by simp; omega) fun j c v h3 h4 => ?_⟩
      · simp [execOp, ho, hv, Instr.field, runUnderlying ht, hf, asAgg, part, runIsAgg hg, runSizeOf hs]
      · rw [List.getElem?_take] at h3
        split at h3
        · rw [List.getElem?_drop] at h3
          rw [Array.getElem?_extract] at h4
          split at h4
          · exact h2 _ c v h3 h4
          · cases h4
        · cases h3
    | false =>
      simp only [mkDV, Bool.false_eq_true, if_false] at hd
      split at hd
      · rename_i c hc
        cases hd
        have h3 : l[y.offset]? = some c := by
          have := congrArg (fun z => z[0]?) hc
          simp only [List.getElem?_cons_zero] at this
          rw [List.getElem?_take] at this
          split at this
          · simpa using this
          · cases this
        have hlt := lt_of_getElem? h3
        have hcs : cs[y.offset]? = some cs[y.offset] := by simp [← h1, hlt]
        refine ⟨cs[y.offset], ?_, .one _ _ (h2 _ c _ h3 hcs)⟩
        simp [execOp, ho, hv, Instr.field, runUnderlying ht, hf, asAgg, part, runIsAgg hg, hcs]
      · cases hd
theorem OpV_extract {o : Oper} {x : Operand} {i : Nat} {l : List DV} {d : DV} (ho : o.op = .extract x i) (hx : evalG G S x = some (.tup l)) (hi : l[i]? = some d) : OpV P G o S d S.objs := by
  refine .pure fun a M hr => ?_
  have hp := evalG_sound hr hx
  generalize hv : a.eval x = v at hp
  cases hp with
  | tup _ vs h1 h2 =>
    have hlt := lt_of_getElem? hi
    have hvs : vs[i]? = some vs[i] := by simp [← h1, hlt]
    exact ⟨vs[i], by simp [execOp, ho, hv, Instr.extract, hvs], h2 i d _ hi hvs⟩
theorem OpV_nilCheck {o : Oper} {x : Operand} {c : DC} (ho : o.op = .nilCheck x) (hx : evalG G S x = some (.one c))
    (hc : isAddr c S.objs = true ∨ (∃ f caps, c = .im (.fn (.func f) caps)) ∨ ∃ f caps, c = .fn (.func f) caps) : OpV P G o S (.one c) S.objs := by
  refine .pure fun a M hr => ?_
  have hp := evalG_sound hr hx
  refine ⟨a.eval x, ?_, hp⟩
  generalize hv : a.eval x = v at hp
  cases hp with
  | one _ _ hp =>
    rcases hc with hc | ⟨f, caps, rfl⟩ | ⟨f, caps, rfl⟩
    · obtain ⟨ad, rfl⟩ := isAddr_sound hp (by rw [hr.ob]; exact hc)
      simp [execOp, ho, hv]
    · cases hp with
      | im _ _ hp => cases hp; simp [execOp, ho, hv]
    · cases hp; simp [execOp, ho, hv]
def dlen (objs : List DObj) (x : DC) : Option Nat :=
  match x with
  | .im (.sl l) => some l.length
  | .im (.raw (.slice none 0 0)) => some 0
  | .vec o g _ len => match objs[o]? with
    | some (.vec _ _ g' _) => if g = g' then some len else none
    | _ => none
  | _ => none
theorem dlen_sound {M : MS} {x : DC} {v : Value} {n : Nat} (hp : RepC M x v) (h : dlen M.objs x = some n) : ∃ a cap, v = .slice a n cap := by
  unfold dlen at h
  split at h
  · cases h
    cases hp with
    | im _ _ hp => cases hp with
      | slnil => exact ⟨_, _, rfl⟩
      | sl => exact ⟨_, _, rfl⟩
      | slz => exact ⟨_, _, rfl⟩
  · cases h
    cases hp with
    | im _ _ hp => cases hp; exact ⟨_, _, rfl⟩
  · rename_i o g off len
    split at h
    · rename_i z es g' nl ho
      split at h
      · rename_i hg
        cases h
        cases hp with
        | vec _ _ _ _ _ h1 h2 h3 =>
          obtain ⟨_, h4⟩ := h3 _ _ _ _ ho
          obtain ⟨h5, h6⟩ := h4 hg
          rcases Bool.eq_false_or_eq_true nl with hn | hn
          · obtain ⟨_, rfl, rfl⟩ := h5 hn; exact ⟨_, _, rfl⟩
          · obtain ⟨xo, cap, rfl, _⟩ := h6 hn; exact ⟨_, _, rfl⟩
      · cases h
    · cases h
  · cases h
theorem OpV_len {o : Oper} {x : Operand} {t e : TypeId} {c : DC} {n : Nat} (ho : o.op = .call { callee := .builtin .len, args := #[x], argTypes := #[t] }) (ht : P.underlying t = some (.slice e))
    (hx : evalG G S x = some (.one c)) (hl : dlen S.objs c = some n) : OpV P G o S (.one (.im (.raw (.int .i64 n)))) S.objs := by
  refine .pure fun a M hr => ⟨.int .i64 n, ?_, .mkraw rfl⟩
  have hp := evalG_sound hr hx
  generalize hv : a.eval x = v at hp
  cases hp with
  | one _ _ hp =>
    obtain ⟨ad, cap, rfl⟩ := dlen_sound hp (by rw [hr.ob]; exact hl)
    simp [execOp, ho, resolve, invoke, builtin, Builtin.len_, hv, runUnderlying ht, goInt]
def dslice (objs : List DObj) (x : DC) (lo : Int) (hi : Option Int) (sz : Nat) : Option DC :=
  match x with
  | .im (.sl l) => if 0 ≤ lo ∧ lo ≤ hi.getD l.length ∧ hi.getD l.length ≤ l.length then (if lo = 0 then some (.im (.sl (l.take (hi.getD l.length).toNat))) else match l[lo.toNat]? with
      | some e => if e.length = sz then some (.im (.sl ((l.take (hi.getD l.length).toNat).drop lo.toNat))) else none
      | none => some (.im (.sl []))) else none
  | .vec o g off len => if 0 ≤ lo ∧ lo ≤ hi.getD len ∧ hi.getD len ≤ len then match objs[o]? with
      | some (.vec z _ g' _) => if g = g' ∧ (z = sz ∨ len = 0) then some (.vec o g (off + lo.toNat) ((hi.getD len).toNat - lo.toNat)) else none
      | _ => none
    else none
  | _ => none
def optI (G : Nat → Option (List IC)) (S : DS) : Option Operand → Option (Option Int)
  | none => some none
  | some x => match rawOf (evalG G S x) with
    | some (.int _ i) => some (some i)
    | _ => none
theorem optI_sound {a : Act} {M : MS} (hr : Rel G S a M) {x : Option Operand} {i : Option Int} (h : optI G S x = some i) :
    (i = none ∧ x = none) ∨ ∃ j y k, i = some j ∧ x = some y ∧ a.eval y = .int k j := by
  cases x with
  | none => cases h; exact .inl ⟨rfl, rfl⟩
  | some y =>
    simp only [optI] at h
    split at h
    · rename_i k j hy
      cases h
      exact .inr ⟨j, y, k, rfl, rfl, rawOf_sound hr hy⟩
    · cases h
theorem runSlice {t e : TypeId} {sz : Nat} (ht : P.underlying t = some (.slice e)) (hs : tsz P e = some sz) {a : Option Addr} {len cap : Nat} {w : World} {klo khi : IntKind} {lo : Int} {vlo vhi : Option Value} {hi : Int}
    (hlo : (vlo = none ∧ lo = 0) ∨ vlo = some (.int klo lo)) (hhi : (vhi = none ∧ hi = len) ∨ vhi = some (.int khi hi))
    (h0 : 0 ≤ lo) (h1 : lo ≤ hi) (h2 : hi ≤ len) (hc : len ≤ cap) :
    (Instr.sliceAt t (.slice a len cap) vlo vhi none).run P w = .ok (.slice (if cap = lo.toNat then a else a.map (·.add (lo.toNat * sz))) (hi.toNat - lo.toNat) (cap - lo.toNat)) w := by
  have h4 : hi ≤ (cap : Int) := by omega
  have h5 : (0 : Int) ≤ hi := by omega
  rcases hlo with ⟨rfl, rfl⟩ | rfl <;> rcases hhi with ⟨rfl, rfl⟩ | rfl
  · simp [Instr.sliceAt, runUnderlying ht, Instr.slice, Instr.sliceBounds, runSizeOf hs]
  · simp [Instr.sliceAt, runUnderlying ht, Instr.slice, Instr.sliceBounds, Instr.sliceBound, asIntOf, runSizeOf hs, h4, h5]
  · have h6 : lo ≤ (len : Int) := by omega
    simp [Instr.sliceAt, runUnderlying ht, Instr.slice, Instr.sliceBounds, Instr.sliceBound, asIntOf, runSizeOf hs, h0, h6]
  · have h6 : lo ≤ ((hi.toNat : Nat) : Int) := by omega
    have h7 : lo ≤ max hi 0 := by omega
    simp [Instr.sliceAt, runUnderlying ht, Instr.slice, Instr.sliceBounds, Instr.sliceBound, asIntOf, runSizeOf hs, h0, h4, h5, h7]
theorem OpV_slice {o : Oper} {t e : TypeId} {sz : Nat} {x : Operand} {lo hi : Option Operand} {c d : DC} {il ih : Option Int} (ho : o.op = .slice t x lo hi none) (ht : P.underlying t = some (.slice e)) (hs : tsz P e = some sz)
    (hx : evalG G S x = some (.one c)) (hl : optI G S lo = some il) (hh : optI G S hi = some ih) (hd : dslice S.objs c (il.getD 0) ih sz = some d) : OpV P G o S (.one d) S.objs := by
  refine .pure fun a M hr => ?_
  have hp := evalG_sound hr hx
  have el := optI_sound hr hl
  have eh := optI_sound hr hh
  generalize hv : a.eval x = v at hp
  rw [← hr.ob] at hd
  have run : ∀ (ad : Option Addr) (len cap : Nat), 0 ≤ il.getD 0 → il.getD 0 ≤ ih.getD len → ih.getD len ≤ len → len ≤ cap → v = .slice ad len cap →
      (execOp a.eval o).run P M.w = .ok (.value (.slice (if cap = (il.getD 0).toNat then ad else ad.map (·.add ((il.getD 0).toNat * sz))) ((ih.getD len).toNat - (il.getD 0).toNat) (cap - (il.getD 0).toNat))) M.w := by
    rintro ad len cap h0 h1 h2 h3 rfl
    simp only [execOp, ho, Option.map_none, Sem.run_bind, hv]
    have : ∃ kl kh, ((lo.map a.eval = none ∧ il.getD 0 = 0) ∨ lo.map a.eval = some (.int kl (il.getD 0))) ∧ ((hi.map a.eval = none ∧ ih.getD len = len) ∨ hi.map a.eval = some (.int kh (ih.getD len))) := by
      rcases el with ⟨rfl, rfl⟩ | ⟨i, z, kz, rfl, rfl, ez⟩ <;> rcases eh with ⟨rfl, rfl⟩ | ⟨j, y, k, rfl, rfl, e⟩
      · exact ⟨.i64, .i64, .inl ⟨rfl, rfl⟩, .inl ⟨rfl, rfl⟩⟩
      · exact ⟨.i64, k, .inl ⟨rfl, rfl⟩, .inr (by simp [e])⟩
      · exact ⟨kz, .i64, .inr (by simp [ez]), .inl ⟨rfl, rfl⟩⟩
      · exact ⟨kz, k, .inr (by simp [ez]), .inr (by simp [e])⟩
    obtain ⟨kl, kh, a1, a2⟩ := this
    rw [runSlice ht hs a1 a2 h0 h1 h2 h3]
    rfl
  cases hp with
  | one _ _ hp =>
    unfold dslice at hd
    split at hd
    · rename_i l
      split at hd
      · rename_i hb
        obtain ⟨h0, h1, h2⟩ := hb
        cases hp with
        | im _ _ hp =>
          have hlen : ((l.take (ih.getD l.length).toNat).drop (il.getD 0).toNat).length = (ih.getD l.length).toNat - (il.getD 0).toNat := by simp; omega
          cases hp with
          | slnil =>
            simp only [List.length_nil] at h0 h1 h2
            have e1 : (il.getD 0) = 0 := by omega
            rw [if_pos e1] at hd
            cases hd
            refine ⟨_, run none 0 0 h0 h1 h2 (Nat.le_refl _) rfl, .one _ _ (.im _ _ ?_)⟩
            simp only [List.take_nil, e1, Int.toNat_zero, Nat.sub_zero, Option.map_none, ite_self]
            have e2 : (ih.getD ((0 : Nat) : Int)).toNat = 0 := by omega
            rw [e2]
            exact .slnil
          | slz ad cap =>
            simp only [List.length_nil] at h0 h1 h2
            have e1 : (il.getD 0) = 0 := by omega
            rw [if_pos e1] at hd
            cases hd
            refine ⟨_, run (some ad) 0 cap h0 h1 h2 (Nat.zero_le _) rfl, .one _ _ (.im _ _ ?_)⟩
            simp only [List.take_nil, e1, Int.toNat_zero, Nat.sub_zero, Option.map_some]
            have e2 : (ih.getD ((0 : Nat) : Int)).toNat = 0 := by omega
            rw [e2]
            split <;> exact .slz _ _
          | sl _ ad cap sz' val hsp hok hcap hl hc hrep =>
            refine ⟨_, run (some ad) _ cap h0 h1 h2 hcap rfl, .one _ _ ?_⟩
            have nil : ∀ (b : Addr) (m : Nat), b.spot = none → RepI M.w M.ok (.sl []) (.slice (some b) 0 m) := fun b m hb =>
              .sl [] b m 0 (fun _ _ => undef) hb (fun h => absurd rfl h) (Nat.zero_le _) (fun i x h => by simp at h) (fun i x j c h => by simp at h) (fun i x j c h => by simp at h)
            split at hd
            · rename_i hz
              cases hd
              have hlen2 : (l.take (ih.getD l.length).toNat).length = (ih.getD l.length).toNat := by simp; omega
              have e3 : (if cap = (il.getD 0).toNat then some ad else Option.map (fun x => x.add ((il.getD 0).toNat * sz)) (some ad)) = some ad := by
                rw [hz]; simp [Addr.add]
              rw [e3, hz, Int.toNat_zero, Nat.sub_zero, Nat.sub_zero]
              refine .im _ _ ?_
              have tget : ∀ (i : Nat) (x : List IC), (l.take (ih.getD l.length).toNat)[i]? = some x → l[i]? = some x := fun i x h => by
                rw [List.getElem?_take] at h
                split at h
                · exact h
                · cases h
              conv => rhs; rw [← hlen2]
              exact .sl _ ad cap sz' val hsp (fun h => hok (by rintro rfl; simp at h)) (by omega) (fun i x h => hl i x (tget i x h)) (fun i x j c h h' => hc i x j c (tget i x h) h') (fun i x j c h h' => hrep i x j c (tget i x h) h')
            · split at hd
              · rename_i e he
                split at hd
                · rename_i hes
                  cases hd
                  have hz' := hl _ _ he
                  rw [hes] at hz'
                  subst hz'
                  have hlt := lt_of_getElem? he
                  have hcz : cap ≠ (il.getD 0).toNat := by omega
                  rw [if_neg hcz, Option.map_some, addr_add hsp, ← hlen]
                  have tget : ∀ (i : Nat) (x : List IC), ((l.take (ih.getD l.length).toNat).drop (il.getD 0).toNat)[i]? = some x → l[(il.getD 0).toNat + i]? = some x := fun i x h => by
                    rw [List.getElem?_drop, List.getElem?_take] at h
                    split at h
                    · exact h
                    · cases h
                  refine .im _ _ (.sl _ _ _ sz (fun i j => val ((il.getD 0).toNat + i) j) rfl (fun _ => hok (by rintro rfl; simp at he)) (by rw [hlen]; omega) (fun i x h => hl _ x (tget i x h)) (fun i x j c h h' => ?_) (fun i x j c h h' => hrep _ x j c (tget i x h) h'))
                  have := hc _ x j c (tget i x h) h'
                  rw [← this]
                  simp only [Nat.add_mul, Nat.add_assoc]
                · cases hd
              · rename_i hnone
                cases hd
                have hge := List.getElem?_eq_none_iff.1 hnone
                have e4 : (ih.getD l.length).toNat - (il.getD 0).toNat = 0 := by omega
                rw [e4]
                refine .im _ _ ?_
                split
                · exact nil _ _ hsp
                · exact nil _ _ (by simp [addr_add hsp])
      · cases hd
    · rename_i ob g off len
      split at hd
      · rename_i hb
        obtain ⟨h0, h1, h2⟩ := hb
        split at hd
        · rename_i z es g' nl hob
          split at hd
          · rename_i hg
            obtain ⟨rfl, hz⟩ := hg
            cases hd
            cases hp with
            | vec _ _ _ _ _ h3 h4 h5 =>
              obtain ⟨_, h6⟩ := h5 _ _ _ _ hob
              obtain ⟨h7, h8⟩ := h6 rfl
              rcases Bool.eq_false_or_eq_true nl with hn | hn
              · obtain ⟨rfl, rfl, rfl⟩ := h7 hn
                refine ⟨_, run none 0 0 h0 h1 h2 (Nat.le_refl _) rfl, .one _ _ (.vec _ _ _ _ _ rfl h4 fun sz2 es2 g2 nl2 hob2 => ?_)⟩
                rw [hob] at hob2
                cases hob2
                refine ⟨Nat.le_refl _, fun _ => ⟨fun _ => ⟨by omega, by omega, ?_⟩, (fun e => by rw [hn] at e; cases e)⟩⟩
                have e1 : (il.getD 0) = 0 := by omega
                have e2 : (ih.getD ((0 : Nat) : Int)).toNat = 0 := by omega
                simp only [e1, e2, Option.map_none, ite_self, Nat.zero_sub]
              · obtain ⟨xo, cap, rfl, hle, hxo, hbs⟩ := h8 hn
                refine ⟨_, run _ _ cap h0 h1 h2 hle rfl, .one _ _ (.vec _ _ _ _ _ rfl h4 fun sz2 es2 g2 nl2 hob2 => ?_)⟩
                rw [hob] at hob2
                cases hob2
                refine ⟨Nat.le_refl _, fun _ => ⟨(fun e => by rw [hn] at e; cases e), fun _ => ?_⟩⟩
                have hsum : off + (il.getD 0).toNat + (cap - (il.getD 0).toNat) = off + cap := by omega
                by_cases hcz : cap = (il.getD 0).toNat
                · rw [if_pos hcz]
                  exact ⟨xo, cap - (il.getD 0).toNat, rfl, by omega, .inl (by omega), by rw [hsum]; exact hbs⟩
                · rw [if_neg hcz, Option.map_some, addr_add rfl]
                  refine ⟨_, cap - (il.getD 0).toNat, rfl, by omega, .inr ?_, by rw [hsum]; exact hbs⟩
                  rcases hxo with rfl | rfl
                  · omega
                  · rcases hz with rfl | rfl
                    · rw [Nat.add_mul]
                    · have e1 : (il.getD 0).toNat = 0 := by omega
                      rw [e1]; simp
          · cases hd
        · cases hd
      · cases hd
    · cases hd
end
end Go.Ab
namespace Go.Ab
open Go
section
variable {P : Program} {G : Nat → Option (List IC)} {S : DS}
theorem alloc_new {w : World} {x : Obj} : (w.alloc x).heap[w.heap.size]? = some x := by
  unfold World.alloc; simp only [Array.getElem?_push_size]
theorem RepV.cells {M : MS} {d : DV} {v : Value} {l : List DC} (h : RepV M d v) (hl : d.cells = some l) :
    l.length = v.cells.size ∧ ∀ (j : Nat) (c : DC) (x : Value), l[j]? = some c → v.cells[j]? = some x → RepC M c x := by
  cases h with
  | one c v hc =>
    cases hl
    have h1 := hc.isOne
    have e : v.cells = #[v] := by cases v <;> simp_all [Value.cells, isOne]
    rw [e]
    refine ⟨rfl, fun j d x h2 h3 => ?_⟩
    cases j with
    | zero => simp at h2 h3; subst h2; subst h3; exact hc
    | succ j => simp at h2
  | agg l' cs h1 h2 => cases hl; exact ⟨h1, h2⟩
  | tup => cases hl
theorem newRow_push {M : MS} (hm : RelM G M) {cs : Array Value} {T : TypeId} {l : List DC} (hl : l.length = cs.size) (hr : ∀ (j : Nat) (c : DC) (x : Value), l[j]? = some c → cs[j]? = some x → RepC M c x) :
    RelM G (M.push (.cells cs T) (.row l)) ∧ RepC (M.push (.cells cs T) (.row l)) (.ptr M.objs.length 0) (.pointer (some ⟨M.w.heap.size, 0, none⟩)) := by
  have he := Ext.push (M := M) (.cells cs T) (.row l) hm.lt
  constructor
  · refine hm.push rfl ⟨cs, T, ?_, hl.symm, fun j d v h1 h2 => (hr j d v h1 h2).ext he⟩
    simp only [MS.push, if_true]
    exact alloc_new
  · exact .ptr _ _ _ rfl (by simp [MS.push]) fun c _ => by simp [MS.push]
theorem OpV_box {o : Oper} {t : TypeId} {x : Operand} {d : DV} {l : List DC} (ho : o.op = .box t x) (hx : evalG G S x = some d) (hl : d.cells = some l) :
    OpV P G o S (.one (.ptr S.objs.length 0)) (S.objs ++ [.row l]) := by
  intro a M hr
  have hp := evalG_sound hr hx
  generalize hv : a.eval x = v at hp
  obtain ⟨h1, h2⟩ := hp.cells hl
  obtain ⟨hm, hc⟩ := newRow_push (T := t) hr.m h1 h2
  refine ⟨_, _, .inl ?_, hm, by simp [MS.push, hr.ob], Ext.push _ _ hr.m.lt, by rw [← hr.ob]; exact .one _ _ hc⟩
  simp [execOp, ho, hv, Instr.box, newVar, newRow, newObj, Sem.run, MS.push]
def zcells : List Value → Nat → List DC × List DObj
  | [], _ => ([], [])
  | .slice none 0 0 :: vs, n => ((.vec n 0 0 0) :: (zcells vs (n + 1)).1, .vec 0 [] 0 true :: (zcells vs (n + 1)).2)
  | v :: vs, n => (.im (.raw v) :: (zcells vs n).1, (zcells vs n).2)
theorem zcells_sound : ∀ (vs : List Value) (M : MS), RelM G M → vs.all Plain = true → ∃ M', M'.w = M.w ∧ RelM G M' ∧ M'.objs = M.objs ++ (zcells vs M.objs.length).2 ∧ Ext M.objs.length M M' ∧
    (zcells vs M.objs.length).1.length = vs.length ∧ ∀ (j : Nat) (c : DC) (x : Value), (zcells vs M.objs.length).1[j]? = some c → vs[j]? = some x → RepC M' c x
  | [], M, hm, _ => ⟨M, rfl, hm, by simp [zcells], Ext.refl M, rfl, fun j c x h => by simp [zcells] at h⟩
  | v :: vs, M, hm, hp => by
    simp only [List.all_cons, Bool.and_eq_true] at hp
    by_cases hv : v = .slice none 0 0
    · subst hv
      have hd : (DObj.vec 0 [] 0 true).blk = false := rfl
      have he := Ext.idle (M := M) hd
      have hm' : RelM G (M.idle (.vec 0 [] 0 true)) := hm.idle hd ⟨fun _ => rfl, fun h => by cases h⟩
      have hlen : (M.idle (.vec 0 [] 0 true)).objs.length = M.objs.length + 1 := by simp [MS.idle]
      obtain ⟨M', h1, h2, h3, h4, h5, h6⟩ := zcells_sound vs _ hm' hp.2
      rw [hlen] at h3 h4 h5 h6
      refine ⟨M', h1, h2, by simp [h3, MS.idle, zcells], he.trans (h4.weaken (by omega)), by simp [zcells, h5], fun j c x hj hx => ?_⟩
      cases j with
      | zero =>
        simp [zcells] at hj hx
        subst hj
        subst hx
        refine RepC.ext (M := M.idle (.vec 0 [] 0 true)) (by rw [hlen]; exact h4) (.vec _ _ _ _ _ rfl (by rw [hlen]; omega) fun sz es g nl hob => ?_)
        simp [MS.idle] at hob
        obtain ⟨rfl, rfl, rfl, rfl⟩ := hob
        exact ⟨Nat.le_refl _, fun _ => ⟨fun _ => ⟨rfl, rfl, rfl⟩, (fun h => by cases h)⟩⟩
      | succ j => exact h6 j c x (by simpa [zcells] using hj) (by simpa using hx)
    · have hz : ∀ n, zcells (v :: vs) n = (.im (.raw v) :: (zcells vs n).1, (zcells vs n).2) := fun n => by
        exact zcells.eq_3 n v vs hv
      obtain ⟨M', h1, h2, h3, h4, h5, h6⟩ := zcells_sound vs M hm hp.2
      rw [hz]
      refine ⟨M', h1, h2, h3, h4, by simp [h5], fun j c x hj hx => ?_⟩
      cases j with
      | zero =>
        simp at hj hx
        subst hj
        subst hx
        exact .im _ _ (.raw _ hp.1)
      | succ j => exact h6 j c x (by simpa using hj) (by simpa using hx)
def tzero (P : Program) (t : TypeId) : Option (List Value) := ((P.info? t).bind (·.zero)).map (·.cells.toList)
theorem runZero {t : TypeId} {l : List Value} {w : World} (h : tzero P t = some l) : ∃ v, (zeroValue t).run P w = .ok v w ∧ v.cells.toList = l := by
  simp only [tzero, Option.map_eq_some_iff, Option.bind_eq_some_iff] at h
  obtain ⟨v, ⟨i, hi, hz⟩, rfl⟩ := h
  exact ⟨v, by simp [zeroValue, typeInfo, hi, hz], rfl⟩
theorem OpV_alloc {o : Oper} {t : TypeId} {l : List Value} (ho : o.op = .alloc t) (hz : tzero P t = some l) (hp : l.all Plain = true) :
    OpV P G o S (.one (.ptr (S.objs.length + (zcells l S.objs.length).2.length) 0)) (S.objs ++ (zcells l S.objs.length).2 ++ [.row (zcells l S.objs.length).1]) := by
  intro a M hr
  obtain ⟨M', h1, h2, h3, h4, h5, h6⟩ := zcells_sound l M hr.m hp
  obtain ⟨v, hrun, hv⟩ := runZero (w := M.w) hz
  rw [← hr.ob]
  subst hv
  obtain ⟨hm, hc⟩ := newRow_push (T := t) (cs := v.cells) (l := (zcells v.cells.toList M.objs.length).1) h2 (by simpa using h5) (fun j c x hj hx => h6 j c x hj (by simpa using hx))
  refine ⟨.pointer (some ⟨M'.w.heap.size, 0, none⟩), _, .inl ?_, hm, by simp [MS.push, h3], ?_, .one _ _ ?_⟩
  · simp [execOp, ho, Instr.alloc, hrun, newVar, newRow, newObj, Sem.run, MS.push, h1]
  · exact h4.trans ((Ext.push _ _ h2.lt).weaken (by rw [h3]; simp))
  · have : M'.objs.length = M.objs.length + (zcells v.cells.toList M.objs.length).2.length := by rw [h3]; simp
    rw [← this]; exact hc
theorem OpV_nil {o : Oper} (sz : Nat) (ho : o.op = .assign (.const (.slice none 0 0))) : OpV P G o S (.one (.vec S.objs.length 0 0 0)) (S.objs ++ [.vec sz [] 0 true]) := by
  intro a M hr
  have hd : (DObj.vec sz [] 0 true).blk = false := rfl
  refine ⟨.slice none 0 0, M.idle (.vec sz [] 0 true), .inl (by simp [execOp, ho, Act.eval, MS.idle]), hr.m.idle hd ⟨fun _ => rfl, fun h => by cases h⟩, by simp [MS.idle, hr.ob], Ext.idle hd, .one _ _ ?_⟩
  rw [← hr.ob]
  refine .vec _ _ _ _ _ rfl (by simp [MS.idle]) fun sz es g nl hob => ?_
  simp [MS.idle] at hob
  obtain ⟨rfl, rfl, rfl, rfl⟩ := hob
  exact ⟨Nat.le_refl _, fun _ => ⟨fun _ => ⟨rfl, rfl, rfl⟩, (fun h => by cases h)⟩⟩
def dfill (place : Nat → Option (Nat × Nat)) (c : List DC) : List (Nat × List DC) → Option (List DC)
  | [] => some c
  | (i, v) :: r => match place i with
    | some (off, size) => if v.length = size ∧ off + v.length ≤ c.length then dfill place (splice c off v) r else none
    | none => none
theorem foldl_splice (vs : List Value) : ∀ (c : Array Value) (off k : Nat), ((vs.zipIdx k).foldl (fun cs (x : Value × Nat) => cs.setIfInBounds (off + x.2) x.1) c) = spliceA c (off + k) vs := by
  induction vs with
  | nil => intro c off k; rfl
  | cons v vs ih => intro c off k; rw [List.zipIdx_cons, List.foldl_cons, ih]; rfl
theorem dfill_sound {M : MS} {place : Nat → Option (Nat × Nat)} : ∀ (ps : List (Nat × List DC)) (qs : List (Nat × Value)) (c : List DC) (ca : Array Value) (r : List DC),
    c.length = ca.size → (∀ (j : Nat) (d : DC) (x : Value), c[j]? = some d → ca[j]? = some x → RepC M d x) →
    ps.length = qs.length → (∀ (j : Nat) (p : Nat × List DC) (q : Nat × Value), ps[j]? = some p → qs[j]? = some q → p.1 = q.1 ∧ p.2.length = q.2.cells.size ∧ ∀ (k : Nat) (d : DC) (x : Value), p.2[k]? = some d → q.2.cells[k]? = some x → RepC M d x) →
    dfill place c ps = some r → ∃ ra, Instr.fill place ca qs = some ra ∧ r.length = ra.size ∧ ∀ (j : Nat) (d : DC) (x : Value), r[j]? = some d → ra[j]? = some x → RepC M d x
  | [], [], c, ca, r, hc, hr, _, _, h => by cases h; exact ⟨ca, rfl, hc, hr⟩
  | [], q :: qs, _, _, _, _, _, hl, _, _ => by simp at hl
  | p :: ps, [], _, _, _, _, _, hl, _, _ => by simp at hl
  | (i, v) :: ps, (i', u) :: qs, c, ca, r, hc, hr, hl, hall, h => by
    obtain ⟨h1, h2, h3⟩ := hall 0 _ _ rfl rfl
    simp only at h1 h2 h3
    subst h1
    simp only [dfill] at h
    split at h
    · rename_i off size hpl
      split at h
      · rename_i hcond
        have hlen : (splice c off v).length = ca.size := by rw [splice_length hcond.2, hc]
        have hu : u.cells.size = size := by rw [← h2]; exact hcond.1
        obtain ⟨ra, e1, e2, e3⟩ := dfill_sound ps qs (splice c off v) (spliceA ca off u.cells.toList) r (by rw [spliceA_size, hlen]) (fun j d x hd hx => by
            rw [splice_get hcond.2] at hd
            rw [spliceA_get _ _ _ _ (by simp; omega)] at hx
            by_cases hj : off ≤ j ∧ j < off + v.length
            · rw [if_pos hj] at hd; rw [if_pos (by simp; omega)] at hx
              exact h3 _ d x hd (by simpa using hx)
            · rw [if_neg hj] at hd; rw [if_neg (by simp; omega)] at hx
              exact hr j d x hd hx) (by simpa using hl) (fun j p q hp hq => hall (j + 1) p q (by simpa using hp) (by simpa using hq)) h
        refine ⟨ra, ?_, e2, e3⟩
        have hcnd : (decide (u.cells.size ≠ size) || decide (off + u.cells.size > ca.size)) = false := by
          have : off + u.cells.size ≤ ca.size := by omega
          simp [hu]; omega
        simp only [Instr.fill, hpl, hcnd, Bool.false_eq_true, if_false]
        rw [← e1]
        congr 1
        have := foldl_splice u.cells.toList ca off 0
        simp only [Nat.add_zero] at this
        rw [← this, ← Array.foldl_toList, Array.toList_zipIdx]
      · cases h
    · cases h
def partsOf (G : Nat → Option (List IC)) (S : DS) : List (Nat × Operand) → Option (List (Nat × List DC))
  | [] => some []
  | (i, x) :: r => match evalG G S x with
    | some d => match d.cells, partsOf G S r with
      | some l, some r' => some ((i, l) :: r')
      | _, _ => none
    | none => none
theorem partsOf_sound {a : Act} {M : MS} (hr : Rel G S a M) : ∀ (ps : List (Nat × Operand)) (qs : List (Nat × List DC)), partsOf G S ps = some qs →
    qs.length = (ps.map fun (x : Nat × Operand) => (x.1, a.eval x.2)).length ∧ ∀ (j : Nat) (p : Nat × List DC) (q : Nat × Value), qs[j]? = some p → (ps.map fun (x : Nat × Operand) => (x.1, a.eval x.2))[j]? = some q →
      p.1 = q.1 ∧ p.2.length = q.2.cells.size ∧ ∀ (k : Nat) (d : DC) (x : Value), p.2[k]? = some d → q.2.cells[k]? = some x → RepC M d x
  | [], qs, h => by cases h; exact ⟨rfl, fun j p q h => by simp at h⟩
  | (i, x) :: ps, qs, h => by
    simp only [partsOf] at h
    split at h
    · rename_i d hd
      split at h
      · rename_i l r' hl hr'
        cases h
        obtain ⟨h1, h2⟩ := partsOf_sound hr ps r' hr'
        refine ⟨by simp [h1], fun j p q hp hq => ?_⟩
        cases j with
        | zero =>
          simp at hp hq
          subst hp
          subst hq
          exact ⟨rfl, (evalG_sound hr hd).cells hl⟩
        | succ j => exact h2 j p q (by simpa using hp) (by simpa using hq)
      · cases h
    · cases h
def placesOf (P : Program) (t : TypeId) : Option (List (Nat × Nat)) :=
  match P.underlying t with
  | some (.struct fs) => fs.toList.mapM fun f => (tsz P f.type).map fun s => (f.offset, s)
  | some (.array n e) => (tsz P e).map fun s => (List.range n).map fun i => (i * s, s)
  | _ => none
theorem fill_mono {p p' : Nat → Option (Nat × Nat)} (h : ∀ i x, p i = some x → p' i = some x) : ∀ (l : List (Nat × Value)) (c r : Array Value), Instr.fill p c l = some r → Instr.fill p' c l = some r
  | [], c, r, h1 => h1
  | (i, v) :: l, c, r, h1 => by
    unfold Instr.fill at h1 ⊢
    cases hp : p i with
    | none => rw [hp] at h1; cases h1
    | some x =>
      rw [hp] at h1
      rw [h i x hp]
      simp only at h1 ⊢
      split at h1
      · cases h1
      · rename_i hc
        rw [if_neg hc]
        exact fill_mono h l _ r h1
theorem range_place {n s i : Nat} {x : Nat × Nat} (h : ((List.range n).map fun i => (i * s, s))[i]? = some x) : some (i * s, s) = some x := by
  rw [List.getElem?_map, Option.map_eq_some_iff] at h
  obtain ⟨j, hj, rfl⟩ := h
  obtain ⟨_, e⟩ := List.getElem?_eq_some_iff.1 hj
  simp at e; subst e; rfl
theorem runPlaces {w : World} : ∀ (fs : List Field) (l : List (Nat × Nat)), fs.mapM (fun f => (tsz P f.type).map fun s => (f.offset, s)) = some l →
    (fs.mapM (fun f => do pure (f.offset, ← sizeOf f.type)) : Sem (List (Nat × Nat))).run P w = .ok l w
  | [], l, h => by simp at h; subst h; simp
  | f :: fs, l, h => by
    rw [List.mapM_cons] at h
    simp only [Option.bind_eq_bind, Option.bind_eq_some_iff, Option.map_eq_some_iff] at h
    obtain ⟨x, ⟨s, hs, rfl⟩, r, hr, h⟩ := h
    simp at h
    subst h
    rw [List.mapM_cons]
    simp only [Sem.run_bind, runSizeOf hs, Result.andThen_ok, Sem.run_pure, runPlaces fs r hr]
def zic (v : Value) : DC := match v with
  | .slice none 0 0 => .im (.sl [])
  | v => .im (.raw v)
theorem zic_sound {M : MS} {v : Value} (h : Plain v = true) : RepC M (zic v) v := by
  unfold zic
  split
  · exact .im _ _ .slnil
  · exact .im _ _ (.raw _ h)
theorem OpV_build {o : Oper} {t : TypeId} {ps : Array (Nat × Operand)} {z : List Value} {pl : List (Nat × Nat)} {qs : List (Nat × List DC)} {r : List DC} (ho : o.op = .build t ps) (hz : tzero P t = some z) (hp : z.all Plain = true)
    (hpl : placesOf P t = some pl) (hq : partsOf G S ps.toList = some qs) (hr : dfill (pl[·]?) (z.map zic) qs = some r) : OpV P G o S (.agg r) S.objs := by
  refine .pure fun a M hrel => ?_
  obtain ⟨v, hrun, hv⟩ := runZero (w := M.w) hz
  obtain ⟨h1, h2⟩ := partsOf_sound hrel _ _ hq
  subst hv
  obtain ⟨ra, e1, e2, e3⟩ := dfill_sound (M := M) (place := (pl[·]?)) qs _ (v.cells.toList.map zic) v.cells r (by simp) (fun j d x hd hx => by
    rw [List.getElem?_map, Array.getElem?_toList, hx] at hd
    simp at hd
    subst hd
    exact zic_sound (List.all_eq_true.1 hp x (Array.mem_toList_iff.2 (Array.mem_of_getElem? hx)))) h1 h2 hr
  refine ⟨.agg ra, ?_, .agg _ _ e2 e3⟩
  unfold placesOf at hpl
  split at hpl
  · rename_i fs hu
    have hpl' := runPlaces (P := P) (w := M.w) fs.toList pl hpl
    simp only [execOp, ho, Instr.build, Sem.run_bind, hrun, Result.andThen_ok, runUnderlying hu, Array.mapM_eq_mapM_toList, Sem.run_map, hpl']
    have e1' : Instr.fill (fun x => pl.toArray[x]?) v.cells (Array.map (fun x => (x.1, a.eval x.2)) ps).toList = some ra := by simpa using e1
    simp only [e1']
    rfl
  · rename_i n e hu
    obtain ⟨sz, hs, rfl⟩ := Option.map_eq_some_iff.1 hpl
    have e1' : Instr.fill (fun i => some (i * sz, sz)) v.cells (Array.map (fun x => (x.1, a.eval x.2)) ps).toList = some ra := by
      have := fill_mono (p' := fun i => some (i * sz, sz)) (fun i x h => range_place h) _ _ _ e1
      simpa using this
    simp only [execOp, ho, Instr.build, Sem.run_bind, hrun, Result.andThen_ok, runUnderlying hu, runSizeOf hs, e1']
    rfl
  · cases hpl
def chunk (sz : Nat) (l : List DC) : Nat → List (List DC)
  | 0 => []
  | n + 1 => l.take sz :: chunk sz (l.drop sz) n
theorem chunk_get {sz : Nat} : ∀ (n : Nat) (l : List DC) (i : Nat) (x : List DC), l.length = n * sz → (chunk sz l n)[i]? = some x → i < n ∧ x.length = sz ∧ ∀ (j : Nat) (d : DC), x[j]? = some d → l[i * sz + j]? = some d
  | 0, l, i, x, _, h => by simp [chunk] at h
  | n + 1, l, i, x, hl, h => by
    have hmul : (n + 1) * sz = n * sz + sz := by rw [Nat.add_mul, Nat.one_mul]
    cases i with
    | zero =>
      simp [chunk] at h
      subst h
      refine ⟨by omega, by simp; omega, fun j d hd => ?_⟩
      rw [List.getElem?_take] at hd
      split at hd
      · simpa using hd
      · cases hd
    | succ i =>
      simp only [chunk, List.getElem?_cons_succ] at h
      obtain ⟨h1, h2, h3⟩ := chunk_get n (l.drop sz) i x (by simp; omega) h
      refine ⟨by omega, h2, fun j d hd => ?_⟩
      have := h3 j d hd
      rw [List.getElem?_drop] at this
      rw [← this]
      congr 1
      rw [Nat.add_mul]; omega
theorem chunk_length {sz : Nat} : ∀ (n : Nat) (l : List DC), (chunk sz l n).length = n
  | 0, _ => rfl
  | n + 1, l => by simp [chunk, chunk_length n]
theorem newVec_push {M : MS} (hm : RelM G M) {cs : Array Value} {T : TypeId} {es : List (List DC)} {sz : Nat} (h0 : 0 < sz) (hl : cs.size = es.length * sz) (he : ∀ (i : Nat) (x : List DC), es[i]? = some x → x.length = sz)
    (hr : ∀ (i : Nat) (x : List DC) (j : Nat) (c : DC) (v : Value), es[i]? = some x → x[j]? = some c → cs[i * sz + j]? = some v → RepC M c v) :
    RelM G (M.push (.cells cs T) (.vec sz es 0 false)) ∧ RepC (M.push (.cells cs T) (.vec sz es 0 false)) (.vec M.objs.length 0 0 es.length) (.slice (some ⟨M.w.heap.size, 0, none⟩) es.length es.length) := by
  have hext := Ext.push (M := M) (.cells cs T) (.vec sz es 0 false) hm.lt
  have hh : (M.push (.cells cs T) (.vec sz es 0 false)).w.heap[(M.push (.cells cs T) (.vec sz es 0 false)).β M.objs.length]? = some (.cells cs T (0, 0)) := by
    simp only [MS.push, if_true]
    exact alloc_new
  constructor
  · exact hm.push rfl ⟨(fun h => by cases h), fun _ => ⟨h0, cs, T, hh, by omega, he, fun i x j d v h1 h2 h3 => (hr i x j d v h1 h2 h3).ext hext⟩⟩
  · refine .vec _ _ _ _ _ rfl (by simp [MS.push]) fun sz' es' g nl hob => ?_
    have : (M.push (.cells cs T) (.vec sz es 0 false)).objs[M.objs.length]? = some (.vec sz es 0 false) := by simp [MS.push]
    rw [this] at hob
    cases hob
    refine ⟨Nat.le_refl _, fun _ => ⟨(fun h => by cases h), fun _ => ⟨0, es.length, by simp [MS.push], Nat.le_refl _, .inr (by simp), ?_⟩⟩⟩
    simp only [bsize, hh, hl, Nat.zero_add]
theorem OpV_buildSlice {o : Oper} {t e : TypeId} {n sz : Nat} {ps : Array (Nat × Operand)} {z : List Value} {qs : List (Nat × List DC)} {r : List DC} (ho : o.op = .buildSlice t n ps) (ht : P.underlying t = some (.slice e)) (hs : tsz P e = some sz) (hz : tzero P e = some z)
    (h0 : 0 < sz) (hzl : z.length = sz) (hzp : z.all Plain = true) (hb : n * sz ≤ 16777216)
    (hq : partsOf G S ps.toList = some qs) (hr : dfill (fun i => some (i * sz, sz)) (List.replicate (n * sz) .dead) qs = some r) :
    OpV P G o S (.one (.vec S.objs.length 0 0 n)) (S.objs ++ [.vec sz (chunk sz r n) 0 false]) := by
  intro a M hrel
  obtain ⟨v, hrun, hv⟩ := runZero (w := M.w) hz
  obtain ⟨h1, h2⟩ := partsOf_sound hrel _ _ hq
  have hvs : v.cells.size = sz := by rw [← Array.length_toList, hv, hzl]
  obtain ⟨ra, e1, e2, e3⟩ := dfill_sound (M := M) (place := fun i => some (i * sz, sz)) qs _ (List.replicate (n * sz) .dead) ((Array.range (n * sz)).map (v.cells[· % v.cells.size]!)) r (by simp) (fun j d x hd hx => by
    rw [List.getElem?_replicate] at hd
    split at hd
    · cases hd
      refine .dead _ ?_
      simp only [Array.getElem?_map, Array.getElem?_range] at hx
      rename_i hj
      rw [if_pos hj] at hx
      simp only [Option.map_some, Option.some.injEq] at hx
      subst hx
      have hlt : j % v.cells.size < v.cells.size := Nat.mod_lt _ (by omega)
      rw [getElem!_pos v.cells _ hlt]
      have hmem : v.cells[j % v.cells.size] ∈ z := by rw [← hv]; simp
      have hpl := List.all_eq_true.1 hzp _ hmem
      generalize v.cells[j % v.cells.size] = u at hpl
      cases u <;> first | rfl | simp [Plain] at hpl
    · cases hd) h1 h2 hr
  have hrs : ra.size = n * sz := by
    rw [← e2]
    have : ∀ (qs : List (Nat × List DC)) (c r : List DC), dfill (fun i => some (i * sz, sz)) c qs = some r → r.length = c.length := by
      intro qs
      induction qs with
      | nil => intro c r h; cases h; rfl
      | cons q qs ih =>
        intro c r h
        simp only [dfill] at h
        split at h
        · rename_i hc; rw [ih _ _ h, splice_length hc.2]
        · cases h
    rw [this _ _ _ hr]; simp
  have hcl := chunk_length (sz := sz) n r
  obtain ⟨hm, hc⟩ := newVec_push (T := e) (cs := ra) (es := chunk sz r n) (sz := sz) hrel.m h0 (by rw [hcl, hrs]) (fun i x hx => (chunk_get n r i x (by rw [e2, hrs]) hx).2.1)
    (fun i x j c v hx hj hv => e3 _ c v ((chunk_get n r i x (by rw [e2, hrs]) hx).2.2 j c hj) hv)
  rw [hcl] at hc
  refine ⟨.slice (some ⟨M.w.heap.size, 0, none⟩) n n, _, .inl ?_, hm, by simp [MS.push, hrel.ob], Ext.push _ _ hrel.m.lt, by rw [← hrel.ob]; exact .one _ _ hc⟩
  have e1' : Instr.fill (fun i => some (i * sz, sz)) ((Array.range (n * sz)).map (v.cells[· % v.cells.size]!)) (Array.map (fun x => (x.1, a.eval x.2)) ps).toList = some ra := by simpa using e1
  have hnb : ¬ (n * sz > 2 ^ 24) := by omega
  simp only [execOp, ho, Instr.buildSlice, Sem.run_bind, runUnderlying ht, Result.andThen_ok, runSizeOf hs, if_neg hnb]
  by_cases hn : n * sz = 0
  · simp only [hn, if_true, Sem.run_bind, Sem.run_pure, Result.andThen_ok]
    have : ((Array.range 0).map (fun (x : Nat) => ((#[] : Array Value)[x % (#[] : Array Value).size]!))) = (Array.range (n * sz)).map (v.cells[· % v.cells.size]!) := by rw [hn]; simp
    rw [this, e1']
    simp [newRow, newObj, Sem.run, MS.push]
  · simp only [hn, if_false, Sem.run_bind, hrun, Result.andThen_ok, Sem.run_pure, e1']
    simp [newRow, newObj, Sem.run, MS.push]
end
end Go.Ab
