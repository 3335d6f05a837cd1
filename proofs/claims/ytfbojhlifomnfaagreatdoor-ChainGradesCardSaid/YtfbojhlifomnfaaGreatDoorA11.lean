/- Part 11 of the proofs: laws and walks that hold without conditions beyond those that each theorem names. -/
import Derived.Test.YtfbojhlifomnfaaGreatDoorA10
set_option linter.all false
set_option linter.deprecated false
namespace Go.Ab
open Go
mutual
def rnC (e : Nat → Nat) : DC → DC
 | .im c => .im c
 | .ptr o off => .ptr (e o) off
 | .ept o gen idx off => .ept (e o) gen idx off
 | .vec o gen off len => .vec (e o) gen off len
 | .fn f caps => .fn f (rnL e caps)
 | .map o => .map (e o)
 | .yld o => .yld (e o)
 | .itr o => .itr (e o)
 | .dead => .dead
def rnL (e : Nat → Nat) : List DC → List DC
 | [] => []
 | c :: r => rnC e c :: rnL e r
end
theorem rnL_map (e : Nat → Nat) : ∀ l : List DC, rnL e l = l.map (rnC e)
 | [] => rfl
 | c :: r => by rw [rnL, rnL_map e r]; rfl
mutual
def rnV (e : Nat → Nat) : DV → DV
 | .one c => .one (rnC e c)
 | .agg l => .agg (rnL e l)
 | .tup l => .tup (rnVL e l)
def rnVL (e : Nat → Nat) : List DV → List DV
 | [] => []
 | c :: r => rnV e c :: rnVL e r
end
theorem rnVL_map (e : Nat → Nat) : ∀ l : List DV, rnVL e l = l.map (rnV e)
 | [] => rfl
 | c :: r => by rw [rnVL, rnVL_map e r]; rfl
def rnO (e : Nat → Nat) : DObj → DObj
 | .row c => .row (rnL e c)
 | .vec sz es g nl => .vec sz (es.map (rnL e)) g nl
 | .map ks es => .map ks (es.map fun x => (x.1, rnL e x.2))
 | .loop r => .loop { r with tm := r.tm.map fun x => (x.1, rnV e x.2) }
 | .iter l c => .iter l c
 | .liter b s c => .liter b s c
 | .gone => .gone
theorem rnO_isIt (e : Nat → Nat) (d : DObj) : (rnO e d).isIt = d.isIt := by cases d <;> rfl
theorem rnO_blk (e : Nat → Nat) (d : DObj) : (rnO e d).blk = d.blk := by cases d <;> rfl
def emb (es : List Nat) (n o : Nat) : Nat := (es[o]?).getD (n + (o - es.length))
theorem valV_rn (e : Nat → Nat) (l : List DC) : valV (rnL e l) = rnV e (valV l) := by
 match l with
 | [] => rfl
 | [c] => rfl
 | a :: b :: r => rfl
theorem rnL_im (e : Nat → Nat) (l : List IC) : rnL e (l.map .im) = l.map .im := by
 rw [rnL_map, List.map_map]; rfl
theorem rnL_get {e : Nat → Nat} {l : List DC} {j : Nat} {d : DC} (h : (rnL e l)[j]? = some d) : ∃ d0, l[j]? = some d0 ∧ d = rnC e d0 := by
 rw [rnL_map, List.getElem?_map, Option.map_eq_some_iff] at h
 obtain ⟨d0, h1, h2⟩ := h
 exact ⟨d0, h1, h2.symm⟩
theorem rnL_length (e : Nat → Nat) (l : List DC) : (rnL e l).length = l.length := by rw [rnL_map, List.length_map]
structure See (e : Nat → Nat) (M0 M : MS) : Prop where
 w : M0.w = M.w
 ok : ∀ b, M0.ok b → M.ok b
 lt : ∀ o, o < M0.objs.length → e o < M.objs.length
 get : ∀ o d, o < M0.objs.length → M.objs[e o]? = some d → ∃ d0, M0.objs[o]? = some d0 ∧ d = rnO e d0
 β : ∀ o, o < M0.objs.length → M.β (e o) = M0.β o
theorem RepC.rn {e : Nat → Nat} {M0 M : MS} (h : See e M0 M) {c : DC} {v : Value} (r : RepC M0 c v) : RepC M (rnC e c) v := by
 induction r with
 | im c v hi => exact .im c v (h.w ▸ hi.mono fun b hb => ⟨h.ok b hb, rfl⟩)
 | ptr o off v h1 ho hc =>
   refine .ptr _ off v h1 (h.lt o ho) fun c hc' => ?_
   obtain ⟨d0, g1, g2⟩ := h.get o _ ho hc'
   cases d0 <;> simp only [rnO, reduceCtorEq] at g2
   rw [h.β o ho]; exact hc _ g1
 | ept o gen idx off v h1 ho hc =>
   refine .ept _ gen idx off v h1 (h.lt o ho) fun sz es g nl hc' => ?_
   obtain ⟨d0, g1, g2⟩ := h.get o _ ho hc'
   cases d0 <;> simp only [rnO, reduceCtorEq] at g2
   injection g2 with a1 a2 a3 a4
   subst a1; subst a3; subst a4
   rw [h.β o ho]; exact hc _ _ _ _ g1
 | vec o gen off len v h1 ho hc =>
   refine .vec _ gen off len v h1 (h.lt o ho) fun sz es g nl hc' => ?_
   obtain ⟨d0, g1, g2⟩ := h.get o _ ho hc'
   cases d0 <;> simp only [rnO, reduceCtorEq] at g2
   injection g2 with a1 a2 a3 a4
   subst a1; subst a3; subst a4
   rw [h.β o ho, ← h.w]; exact hc _ _ _ _ g1
 | fn f caps vs hl _ ih =>
   refine .fn f _ vs (by rw [rnL_length]; exact hl) fun j c v hj hv => ?_
   obtain ⟨d0, g1, rfl⟩ := rnL_get hj
   exact ih j d0 v g1 hv
 | map o v h1 ho hc =>
   refine .map _ v h1 (h.lt o ho) fun ks c hc' => ?_
   obtain ⟨d0, g1, g2⟩ := h.get o _ ho hc'
   cases d0 <;> simp only [rnO, reduceCtorEq] at g2
   rw [h.β o ho]; exact hc _ _ g1
 | yld o v h1 ho hc =>
   refine .yld _ v h1 (h.lt o ho) fun r hc' => ?_
   obtain ⟨d0, g1, g2⟩ := h.get o _ ho hc'
   cases d0 <;> simp only [rnO, reduceCtorEq] at g2
   rw [h.β o ho]; exact hc _ g1
 | itr o v h1 ho hc =>
   refine .itr _ v h1 (h.lt o ho) fun d hc' hi => ?_
   obtain ⟨d0, g1, g2⟩ := h.get o _ ho hc'
   rw [h.β o ho]; exact hc _ g1 (by rw [g2, rnO_isIt] at hi; exact hi)
 | dead v h1 => exact .dead v h1
theorem rnVL_get {e : Nat → Nat} {l : List DV} {j : Nat} {d : DV} (h : (rnVL e l)[j]? = some d) : ∃ d0, l[j]? = some d0 ∧ d = rnV e d0 := by
 rw [rnVL_map, List.getElem?_map, Option.map_eq_some_iff] at h
 obtain ⟨d0, h1, h2⟩ := h
 exact ⟨d0, h1, h2.symm⟩
theorem RepV.rn {e : Nat → Nat} {M0 M : MS} (h : See e M0 M) {c : DV} {v : Value} (r : RepV M0 c v) : RepV M (rnV e c) v := by
 induction r with
 | one c v hc => exact .one _ _ (hc.rn h)
 | agg l cs hl hc =>
   refine .agg _ cs (by rw [rnL_length]; exact hl) fun j c v hj hv => ?_
   obtain ⟨d0, g1, rfl⟩ := rnL_get hj
   exact (hc j d0 v g1 hv).rn h
 | tup l vs hl _ ih =>
   refine .tup _ vs (by rw [rnVL_map, List.length_map]; exact hl) fun j c v hj hv => ?_
   obtain ⟨d0, g1, rfl⟩ := rnVL_get hj
   exact ih j d0 v g1 hv
theorem RelO.rn {e : Nat → Nat} {M0 M : MS} (h : See e M0 M) {o : Nat} (ho : o < M0.objs.length) {d : DObj} (r : RelO M0 o d) : RelO M (e o) (rnO e d) := by
 have hh : M.w.heap[M.β (e o)]? = M0.w.heap[M0.β o]? := by rw [h.β o ho, h.w]
 cases d with
 | row cells =>
   obtain ⟨c, T, h1, h2, h3⟩ := r
   refine ⟨c, T, hh.trans h1, by rw [rnL_length]; exact h2, fun j d v hj hv => ?_⟩
   obtain ⟨d0, g1, rfl⟩ := rnL_get hj
   exact (h3 j d0 v g1 hv).rn h
 | vec sz es g nl =>
   obtain ⟨h0, hf⟩ := r
   refine ⟨fun hn => by simp only [h0 hn, List.map_nil], fun hn => ?_⟩
   obtain ⟨hz, c, T, h1, h2, h3, h4⟩ := hf hn
   refine ⟨hz, c, T, hh.trans h1, by simpa using h2, fun i x hx => ?_, fun i x j d v hx hd hv => ?_⟩
   ·rw [List.getElem?_map, Option.map_eq_some_iff] at hx
    obtain ⟨x0, g1, rfl⟩ := hx
    rw [rnL_length]; exact h3 i x0 g1
   ·rw [List.getElem?_map, Option.map_eq_some_iff] at hx
    obtain ⟨x0, g1, rfl⟩ := hx
    obtain ⟨d0, g2, rfl⟩ := rnL_get hd
    exact (h4 i x0 j d0 v g1 g2 hv).rn h
 | map ks es =>
   obtain ⟨ents, clock, h1, hst, hsh, h2, h3⟩ := r
   refine ⟨ents, clock, hh.trans h1, by rw [h.β o ho]; exact hst, fun x hx => ?_, by simpa using h2, fun i x en hx he => ?_⟩
   ·obtain ⟨x0, g1, rfl⟩ := List.mem_map.1 hx
    exact hsh x0 g1
   ·rw [List.getElem?_map, Option.map_eq_some_iff] at hx
    obtain ⟨x0, g1, rfl⟩ := hx
    obtain ⟨a1, a2, a3⟩ := h3 i x0 en g1 he
    exact ⟨a1, a2, by simp only [valV_rn]; exact a3.rn h⟩
 | loop lr =>
   obtain ⟨fn, tmps, D, h1, h2, h3⟩ := r
   refine ⟨fn, tmps, D, hh.trans h1, h2, fun t d ht => ?_⟩
   obtain ⟨d0, g1, rfl⟩ := get_map (f := rnV e) ht
   obtain ⟨v, e1, e2⟩ := h3 t d0 g1
   exact ⟨v, e1, e2.rn h⟩
 | iter left cur =>
   obtain ⟨bm, seen, ents, clock, h1, h2, h3, h4, h5, h6, h7⟩ := r
   have hE : ∀ {x : List Value × List IC} {en : MapEntry}, RepEI M0 x en → RepEI M x en := fun {x en} ⟨b1, b2, b3⟩ => ⟨b1, b2, by
    have := b3.rn h
    rw [← valV_rn, rnL_im] at this; exact this⟩
   exact ⟨bm, seen, ents, clock, hh.trans h1, h.ok bm h2, by rw [← h.w]; exact h3, h4, h5, fun i x en a b => hE (h6 i x en a b), fun x hx => by
    obtain ⟨en, a, b, c⟩ := h7 x hx
    exact ⟨en, a, b, hE c⟩⟩
 | liter b seen c => exact hh.trans r
 | gone => trivial
structure Part (e : Nat → Nat) (M0 M : MS) : Prop where
 w : M0.w = M.w
 ok : ∀ b, M.ok b → M0.ok b
 lt : ∀ o, e o < M.objs.length → o < M0.objs.length
 get : ∀ o d0, M0.objs[o]? = some d0 → M.objs[e o]? = some (rnO e d0)
 β : ∀ o, M0.β o = M.β (e o)
theorem RepC.un {e : Nat → Nat} {M0 M : MS} (h : Part e M0 M) {c : DC} {v : Value} {d : DC} (r : RepC M d v) : d = rnC e c → RepC M0 c v := by
 induction r generalizing c with
 | im x v hi => intro hd; cases c <;> simp only [rnC, reduceCtorEq] at hd; cases hd; exact .im _ v (h.w.symm ▸ hi.mono fun b hb => ⟨h.ok b hb, rfl⟩)
 | ptr o off v h1 ho hc =>
   intro hd; cases c <;> simp only [rnC, reduceCtorEq] at hd; cases hd
   refine .ptr _ off v h1 (h.lt _ ho) fun c hc' => ?_
   rw [h.β]; exact hc _ (h.get _ _ hc')
 | ept o gen idx off v h1 ho hc =>
   intro hd; cases c <;> simp only [rnC, reduceCtorEq] at hd; cases hd
   refine .ept _ gen idx off v h1 (h.lt _ ho) fun sz es g nl hc' => ?_
   rw [h.β]; exact hc _ _ _ _ (h.get _ _ hc')
 | vec o gen off len v h1 ho hc =>
   intro hd; cases c <;> simp only [rnC, reduceCtorEq] at hd; cases hd
   refine .vec _ gen off len v h1 (h.lt _ ho) fun sz es g nl hc' => ?_
   rw [h.β, h.w]; exact hc _ _ _ _ (h.get _ _ hc')
 | fn f caps vs hl _ ih =>
   intro hd; cases c <;> simp only [rnC, reduceCtorEq] at hd; cases hd
   refine .fn f _ vs (by rw [rnL_length] at hl; exact hl) fun j c v hj hv => ?_
   exact ih j (rnC e c) v (by rw [rnL_map, List.getElem?_map, hj]; rfl) hv rfl
 | map o v h1 ho hc =>
   intro hd; cases c <;> simp only [rnC, reduceCtorEq] at hd; cases hd
   refine .map _ v h1 (h.lt _ ho) fun ks c hc' => ?_
   rw [h.β]; exact hc _ _ (h.get _ _ hc')
 | yld o v h1 ho hc =>
   intro hd; cases c <;> simp only [rnC, reduceCtorEq] at hd; cases hd
   refine .yld _ v h1 (h.lt _ ho) fun r hc' => ?_
   rw [h.β]; exact hc _ (h.get _ _ hc')
 | itr o v h1 ho hc =>
   intro hd; cases c <;> simp only [rnC, reduceCtorEq] at hd; cases hd
   refine .itr _ v h1 (h.lt _ ho) fun d hc' hi => ?_
   rw [h.β]; exact hc _ (h.get _ _ hc') (by rw [rnO_isIt]; exact hi)
 | dead v h1 => intro hd; cases c <;> simp only [rnC, reduceCtorEq] at hd; exact .dead v h1
theorem RepV.un {e : Nat → Nat} {M0 M : MS} (h : Part e M0 M) {c : DV} {v : Value} {d : DV} (r : RepV M d v) : d = rnV e c → RepV M0 c v := by
 induction r generalizing c with
 | one x v hc => intro hd; cases c <;> simp only [rnV, reduceCtorEq] at hd; cases hd; exact .one _ _ (hc.un h rfl)
 | agg l cs hl hc =>
   intro hd; cases c <;> simp only [rnV, reduceCtorEq] at hd; cases hd
   refine .agg _ cs (by rw [rnL_length] at hl; exact hl) fun j c v hj hv => ?_
   exact (hc j (rnC e c) v (by rw [rnL_map, List.getElem?_map, hj]; rfl) hv).un h rfl
 | tup l vs hl _ ih =>
   intro hd; cases c <;> simp only [rnV, reduceCtorEq] at hd; cases hd
   refine .tup _ vs (by rw [rnVL_map, List.length_map] at hl; exact hl) fun j c v hj hv => ?_
   exact ih j (rnV e c) v (by rw [rnVL_map, List.getElem?_map, hj]; rfl) hv rfl
theorem RelO.un {e : Nat → Nat} {M0 M : MS} (h : Part e M0 M) {o : Nat} {d : DObj} (r : RelO M (e o) (rnO e d)) : RelO M0 o d := by
 have hh : M0.w.heap[M0.β o]? = M.w.heap[M.β (e o)]? := by rw [h.β o, h.w]
 cases d with
 | row cells =>
   obtain ⟨c, T, h1, h2, h3⟩ := r
   refine ⟨c, T, hh.trans h1, by rw [rnL_length] at h2; exact h2, fun j d v hj hv => ?_⟩
   exact (h3 j (rnC e d) v (by rw [rnL_map, List.getElem?_map, hj]; rfl) hv).un h rfl
 | vec sz es g nl =>
   obtain ⟨h0, hf⟩ := r
   refine ⟨fun hn => by simpa using h0 hn, fun hn => ?_⟩
   obtain ⟨hz, c, T, h1, h2, h3, h4⟩ := hf hn
   refine ⟨hz, c, T, hh.trans h1, by simpa using h2, fun i x hx => ?_, fun i x j d v hx hd hv => ?_⟩
   ·have := h3 i (rnL e x) (by rw [List.getElem?_map, hx]; rfl)
    rw [rnL_length] at this; exact this
   ·exact (h4 i (rnL e x) j (rnC e d) v (by rw [List.getElem?_map, hx]; rfl) (by rw [rnL_map, List.getElem?_map, hd]; rfl) hv).un h rfl
 | map ks es =>
   obtain ⟨ents, clock, h1, hst, hsh, h2, h3⟩ := r
   refine ⟨ents, clock, hh.trans h1, by rw [h.β o]; exact hst, fun x hx => ?_, by simpa using h2, fun i x en hx he => ?_⟩
   ·exact hsh (x.1, rnL e x.2) (List.mem_map.2 ⟨x, hx, rfl⟩)
   ·obtain ⟨a1, a2, a3⟩ := h3 i (x.1, rnL e x.2) en (by rw [List.getElem?_map, hx]; rfl) he
    exact ⟨a1, a2, a3.un h (valV_rn e x.2)⟩
 | loop lr =>
   obtain ⟨fn, tmps, D, h1, h2, h3⟩ := r
   refine ⟨fn, tmps, D, hh.trans h1, h2, fun t d ht => ?_⟩
   have gm : ∀ (l : List (Nat × DV)) (t : Nat) (d : DV), tget l t = some d → tget (l.map fun x => (x.1, rnV e x.2)) t = some (rnV e d) := by
    intro l
    induction l with
    | nil => intro t d h; cases h
    | cons p r ih =>
      intro t d h
      simp only [tget, List.map_cons] at h ⊢
      split at h
      ·rename_i hp; rw [if_pos hp]; cases h; rfl
      ·rename_i hp; rw [if_neg hp]; exact ih t d h
   obtain ⟨v, e1, e2⟩ := h3 t (rnV e d) (gm _ _ _ ht)
   exact ⟨v, e1, e2.un h rfl⟩
 | iter left cur =>
   obtain ⟨bm, seen, ents, clock, h1, h2, h3, h4, h5, h6, h7⟩ := r
   have hE : ∀ {x : List Value × List IC} {en : MapEntry}, RepEI M x en → RepEI M0 x en := fun {x en} ⟨b1, b2, b3⟩ => ⟨b1, b2, b3.un h (by rw [← valV_rn, rnL_im])⟩
   exact ⟨bm, seen, ents, clock, hh.trans h1, h.ok bm h2, by rw [h.w]; exact h3, h4, h5, fun i x en a b => hE (h6 i x en a b), fun x hx => by
    obtain ⟨en, a, b, c⟩ := h7 x hx
    exact ⟨en, a, b, hE c⟩⟩
 | liter b seen c => exact hh.trans r
 | gone => trivial
theorem emb_lt {es : List Nat} {n o : Nat} (h : o < es.length) : emb es n o = es[o] := by simp [emb, h]
theorem emb_ge {es : List Nat} {n o : Nat} (h : es.length ≤ o) : emb es n o = n + (o - es.length) := by simp [emb, List.getElem?_eq_none h]
theorem emb_iff {es : List Nat} {n o : Nat} (hes : ∀ x ∈ es, x < n) : emb es n o < n ↔ o < es.length := by
 constructor
 ·intro h
  refine Nat.lt_of_not_le fun hge => ?_
  rw [emb_ge hge] at h; omega
 ·intro h; rw [emb_lt h]; exact hes _ (List.getElem_mem h)
theorem emb_inj {es : List Nat} {n : Nat} (hes : ∀ x ∈ es, x < n) (hnd : es.Nodup) {i j : Nat} (h : emb es n i = emb es n j) : i = j := by
 by_cases hi : i < es.length
 ·have hj : j < es.length := (emb_iff hes).1 (h ▸ (emb_iff hes).2 hi)
  rw [emb_lt hi, emb_lt hj] at h
  exact (List.getElem_inj hnd).1 h
 ·have hj : ¬ j < es.length := fun hj => hi ((emb_iff hes).1 (h ▸ (emb_iff hes).2 hj))
  rw [emb_ge (by omega), emb_ge (by omega)] at h; omega
def putO : List Nat → List DObj → List DObj → List DObj
 | k :: ks, d :: ds, objs => putO ks ds (objs.set k d)
 | _, _, objs => objs
theorem putO_length : ∀ (ks : List Nat) (ds objs : List DObj), (putO ks ds objs).length = objs.length
 | [], _, _ => by simp [putO]
 | _ :: _, [], _ => by simp [putO]
 | k :: ks, d :: ds, objs => by rw [putO, putO_length ks ds]; simp
theorem putO_other : ∀ (ks : List Nat) (ds objs : List DObj) (p : Nat), p ∉ ks → (putO ks ds objs)[p]? = objs[p]?
 | [], _, _, _, _ => by simp [putO]
 | _ :: _, [], _, _, _ => by simp [putO]
 | k :: ks, d :: ds, objs, p, h => by
   rw [putO, putO_other ks ds _ p (fun hp => h (by simp [hp])), List.getElem?_set_ne (fun e => h (by simp [e]))]
theorem putO_get : ∀ (ks : List Nat) (ds objs : List DObj) (i : Nat), ks.Nodup → (∀ x ∈ ks, x < objs.length) → ks.length ≤ ds.length → (hi : i < ks.length) → (putO ks ds objs)[ks[i]]? = ds[i]?
 | [], _, _, _, _, _, _, hi => by simp at hi
 | k :: ks, [], objs, i, _, _, hl, _ => by simp at hl
 | k :: ks, d :: ds, objs, i, hn, hlt, hl, hi => by
   rw [List.nodup_cons] at hn
   rw [putO]
   cases i with
   | zero =>
     simp only [List.getElem_cons_zero, List.getElem?_cons_zero]
     rw [putO_other ks ds _ k hn.1, List.getElem?_set_self (hlt k (by simp))]
   | succ i =>
     simp only [List.getElem_cons_succ, List.getElem?_cons_succ]
     exact putO_get ks ds _ i hn.2 (fun x hx => by simpa using hlt x (by simp [hx])) (by simpa using hl) (by simpa using hi)
def mergeO (es : List Nat) (objs o : List DObj) : List DObj :=
 putO es ((o.take es.length).map (rnO (emb es objs.length))) objs ++ (o.drop es.length).map (rnO (emb es objs.length))
theorem mergeO_emb {es : List Nat} {objs o : List DObj} (hes : ∀ x ∈ es, x < objs.length) (hnd : es.Nodup) (hl : es.length ≤ o.length) (i : Nat) : (mergeO es objs o)[emb es objs.length i]? = (o[i]?).map (rnO (emb es objs.length)) := by
 unfold mergeO
 by_cases hi : i < es.length
 ·have h1 := (emb_iff (n := objs.length) hes).2 hi
  rw [List.getElem?_append_left (by rw [putO_length]; exact h1), emb_lt hi]
  rw [putO_get es _ objs i hnd hes (by simp; omega) hi, List.getElem?_map, List.getElem?_take_of_lt hi]
 ·rw [emb_ge (by omega), List.getElem?_append_right (by rw [putO_length]; omega), putO_length, List.getElem?_map, List.getElem?_drop]
  rw [show es.length + (objs.length + (i - es.length) - objs.length) = i by omega]
theorem mergeO_other {es : List Nat} {objs o : List DObj} {p : Nat} (hp : p < objs.length) (hn : p ∉ es) : (mergeO es objs o)[p]? = objs[p]? := by
 unfold mergeO
 rw [List.getElem?_append_left (by rw [putO_length]; exact hp), putO_other _ _ _ _ hn]
theorem mergeO_length {es : List Nat} {objs o : List DObj} : (mergeO es objs o).length = objs.length + (o.length - es.length) := by
 simp [mergeO, putO_length]
theorem mergeO_cases {es : List Nat} {objs o : List DObj} (hes : ∀ x ∈ es, x < objs.length) (hnd : es.Nodup) (hl : es.length ≤ o.length) {p : Nat} {d : DObj} (h : (mergeO es objs o)[p]? = some d) :
 (∃ i d0, p = emb es objs.length i ∧ o[i]? = some d0 ∧ d = rnO (emb es objs.length) d0) ∨ (p < objs.length ∧ p ∉ es ∧ objs[p]? = some d) := by
 by_cases hp : p < objs.length
 ·by_cases hm : p ∈ es
  ·obtain ⟨i, hi, rfl⟩ := List.mem_iff_getElem.1 hm
   rw [← emb_lt (n := objs.length) hi, mergeO_emb hes hnd hl, Option.map_eq_some_iff] at h
   obtain ⟨d0, h1, h2⟩ := h
   exact .inl ⟨i, d0, (emb_lt hi).symm, h1, h2.symm⟩
  ·rw [mergeO_other hp hm] at h; exact .inr ⟨hp, hm, h⟩
 ·have he : p = emb es objs.length (es.length + (p - objs.length)) := by rw [emb_ge (by omega)]; omega
  rw [he, mergeO_emb hes hnd hl, Option.map_eq_some_iff] at h
  obtain ⟨d0, h1, h2⟩ := h
  exact .inl ⟨_, d0, he, h1, h2.symm⟩
section
variable {P : Program} {G : Nat → Option (List IC)}
theorem DCall.embed {f : FuncId} {args0 : List DV} {objs0 objs : List DObj} {Q0 : DV → List DObj → Prop} (es : List Nat) (h : DCall P G f args0 objs0 Q0)
 (hl : es.length = objs0.length) (hnd : es.Nodup) (hes : ∀ x ∈ es, x < objs.length)
 (hobj : ∀ i d, objs0[i]? = some d → objs[emb es objs.length i]? = some (rnO (emb es objs.length) d)) :
 DCall P G f (args0.map (rnV (emb es objs.length))) objs (fun d o => ∃ d0 o0, Q0 d0 o0 ∧ objs0.length ≤ o0.length ∧ d = rnV (emb es objs.length) d0 ∧ o = mergeO es objs o0) := by
 intro M vs hm hob hvs hrep
 subst hob
 generalize he : emb es M.objs.length = e at *
 have heb : ∀ o, emb es M.objs.length o = e o := fun o => congrFun he o
 have hei : ∀ {i j}, e i = e j → i = j := fun {i j} h => emb_inj (n := M.objs.length) hes hnd (by rw [heb, heb]; exact h)
 have helt : ∀ {i}, e i < M.objs.length ↔ i < es.length := fun {i} => by rw [← heb]; exact emb_iff hes
 have hmem : ∀ {i}, i < es.length → e i ∈ es := fun {i} hi => by rw [← heb, emb_lt hi]; exact List.getElem_mem hi
 have hofmem : ∀ {p}, p ∈ es → ∃ i, i < es.length ∧ p = e i := fun {p} hp => by
  obtain ⟨i, hi, rfl⟩ := List.mem_iff_getElem.1 hp
  exact ⟨i, hi, by rw [← heb, emb_lt hi]⟩
 obtain ⟨M0, hM0⟩ : ∃ M0 : MS, M0 = { w := M.w, β := fun i => M.β (e i), objs := objs0, F := fun b => M.F b ∨ ∃ p d, p ∉ es ∧ M.objs[p]? = some d ∧ d.blk = true ∧ M.β p = b } := ⟨_, rfl⟩
 have hw0 : M0.w = M.w := by rw [hM0]
 have hb0 : ∀ i, M0.β i = M.β (e i) := fun i => by rw [hM0]
 have ho0 : M0.objs = objs0 := by rw [hM0]
 have hF0 : ∀ b, M0.F b ↔ M.F b ∨ ∃ p d, p ∉ es ∧ M.objs[p]? = some d ∧ d.blk = true ∧ M.β p = b := fun b => by rw [hM0]
 have hlive : ∀ b, M0.live b → M.live b := fun b ⟨o, d, h1, h2, h3⟩ => by
  rw [ho0] at h1; rw [hb0] at h3
  exact ⟨e o, rnO e d, hobj o d h1, by rw [rnO_blk]; exact h2, h3⟩
 have hlive' : ∀ b, M.live b → M0.live b ∨ ∃ p d, p ∉ es ∧ M.objs[p]? = some d ∧ d.blk = true ∧ M.β p = b := fun b ⟨o, d, h1, h2, h3⟩ => by
  by_cases hm' : o ∈ es
  ·obtain ⟨i, hi, rfl⟩ := hofmem hm'
   have hio : i < objs0.length := by omega
   have := hobj i objs0[i] (by simp [hio])
   rw [h1] at this; cases this
   exact .inl ⟨i, objs0[i], by rw [ho0]; simp [hio], by rw [rnO_blk] at h2; exact h2, by rw [hb0]; exact h3⟩
  ·exact .inr ⟨o, d, hm', h1, h2, h3⟩
 have hok : ∀ b, M0.ok b ↔ M.ok b := fun b => by
  simp only [MS.ok, MS.free, hw0]
  constructor
  ·rintro ⟨⟨h1, h2⟩, h3⟩
   rw [hF0] at h3
   exact ⟨⟨h1, fun hv => (hlive' b hv).elim h2 fun hx => h3 (.inr hx)⟩, fun hf => h3 (.inl hf)⟩
  ·rintro ⟨⟨h1, h2⟩, h3⟩
   rw [hF0]
   exact ⟨⟨h1, fun hv => h2 (hlive b hv)⟩, fun hx => hx.elim h3 fun ⟨p, d, _, a1, a2, a3⟩ => h2 ⟨p, d, a1, a2, a3⟩⟩
 have hpart : Part e M0 M := ⟨hw0, fun b hb => (hok b).2 hb, fun o ho => by rw [ho0, ← hl]; exact helt.1 ho, fun o d0 hd => hobj o d0 (by rw [← ho0]; exact hd), hb0⟩
 have hm0 : RelM G M0 := by
  refine ⟨fun o d ho => ?_, fun o d ho hb => ?_, fun o o' d d' ho ho' hb hb' hβ => ?_, fun g l hg => ?_, fun b hb => ?_, fun o d ho hb hF => ?_⟩
  ·exact (hm.objs (e o) (rnO e d) (hpart.get o d ho)).un hpart
  ·rw [hb0, hw0]; exact hm.lt (e o) _ (hpart.get o d ho) (by rw [rnO_blk]; exact hb)
  ·rw [hb0, hb0] at hβ
   exact hei (hm.inj _ _ _ _ (hpart.get o d ho) (hpart.get o' d' ho') (by rw [rnO_blk]; exact hb) (by rw [rnO_blk]; exact hb') hβ)
  ·rw [hw0]; exact (hm.glob g l hg).mono fun b hb => ⟨(hok b).2 hb, rfl⟩
  ·rw [hw0]
   rcases (hF0 b).1 hb with hb | ⟨p, d, _, h1, h2, h3⟩
   ·exact hm.fl b hb
   ·exact h3 ▸ hm.lt p d h1 h2
  ·rw [hb0] at hF
   rcases (hF0 _).1 hF with hF | ⟨p, d', hp, h1, h2, h3⟩
   ·exact hm.own _ _ (hpart.get o d ho) (by rw [rnO_blk]; exact hb) hF
   ·have := hm.inj _ _ _ _ h1 (hpart.get o d ho) h2 (by rw [rnO_blk]; exact hb) h3
    have ho' : o < objs0.length := by rw [← ho0]; exact lt_of_getElem? ho
    exact hp (this ▸ hmem (by omega))
 have hvs0 : vs.size = args0.length := by simpa using hvs
 rw [← hw0]
 refine (h M0 vs hm0 ho0 hvs0 fun j d v hd hv => (hrep j (rnV e d) v (by rw [List.getElem?_map, hd]; rfl) hv).un hpart rfl).mono ?_
 rintro ex w' ⟨v, d, M1, rfl, rfl, hm1, hv, hx, hq⟩
 have hlen1 : es.length ≤ M1.objs.length := by rw [hl]; exact hx.len
 obtain ⟨M2, hM2⟩ : ∃ M2 : MS, M2 = { w := M1.w, β := fun p => if p < M.objs.length then (match es.idxOf? p with | some i => M1.β i | none => M.β p) else M1.β (es.length + (p - M.objs.length)), objs := mergeO es M.objs M1.objs, F := M.F } := ⟨_, rfl⟩
 have hw2 : M2.w = M1.w := by rw [hM2]
 have ho2 : M2.objs = mergeO es M.objs M1.objs := by rw [hM2]
 have hF2 : M2.F = M.F := by rw [hM2]
 have hb2 : ∀ i, M2.β (e i) = M1.β i := fun i => by
  rw [hM2]
  simp only
  by_cases hi : i < es.length
  ·rw [if_pos (helt.2 hi)]
   have hidx : es.idxOf? (e i) = some i := by
    rw [List.idxOf?, List.findIdx?_eq_some_iff_getElem]
    refine ⟨hi, by rw [← heb, emb_lt hi]; simp, fun j hj => ?_⟩
    rw [← heb, emb_lt hi]
    simp only [beq_iff_eq]
    intro hE
    have := (List.getElem_inj hnd).1 hE; omega
   rw [hidx]
  ·rw [if_neg (fun hlt => hi (helt.1 hlt)), ← heb, emb_ge (by omega)]
   congr 1; omega
 have hb2' : ∀ p, p < M.objs.length → p ∉ es → M2.β p = M.β p := fun p hp hn => by
  rw [hM2]
  simp only
  rw [if_pos hp]
  have : es.idxOf? p = none := by
   rw [List.idxOf?, List.findIdx?_eq_none_iff]
   intro x hx
   simp only [beq_eq_false_iff_ne, ne_eq]
   rintro rfl; exact hn hx
  rw [this]
 have hcases : ∀ {p d}, M2.objs[p]? = some d → (∃ i d0, p = e i ∧ M1.objs[i]? = some d0 ∧ d = rnO e d0) ∨ (p < M.objs.length ∧ p ∉ es ∧ M.objs[p]? = some d) := fun {p d} hd => by
  rw [ho2] at hd
  have := mergeO_cases hes hnd hlen1 hd
  rw [he] at this; exact this
 have hget : ∀ i, M2.objs[e i]? = (M1.objs[i]?).map (rnO e) := fun i => by
  have := mergeO_emb hes hnd hlen1 i
  rw [he] at this
  rw [ho2]; exact this
 have hother : ∀ p, p < M.objs.length → p ∉ es → M2.objs[p]? = M.objs[p]? := fun p hp hn => by rw [ho2]; exact mergeO_other hp hn
 have hfr : ∀ b, b < M.w.heap.size → ¬ M0.live b → b < M1.w.heap.size ∧ M1.w.heap[b]? = M.w.heap[b]? ∧ ¬ M1.live b := fun b hb hn => by
  have := hx.free b ⟨by rw [hw0]; exact hb, hn⟩
  rw [hw0] at this
  exact ⟨this.1.1, this.2, this.1.2⟩
 have hpF : ∀ {p d}, p < M.objs.length → p ∉ es → M.objs[p]? = some d → d.blk = true → M0.F (M.β p) := fun {p d} _ hn hd hb => (hF0 _).2 (.inr ⟨p, d, hn, hd, hb, rfl⟩)
 have hpnl : ∀ {p d}, p ∉ es → M.objs[p]? = some d → d.blk = true → ¬ M0.live (M.β p) := fun {p d} hn hd hb ⟨o, d', h1, h2, h3⟩ => by
  rw [hb0] at h3
  have h4 := hpart.get o d' h1
  have := hm.inj _ _ _ _ h4 hd (by rw [rnO_blk]; exact h2) hb h3
  rw [ho0] at h1
  have := lt_of_getElem? h1
  subst_vars
  exact hn (hmem (by omega))
 have hlive2 : ∀ b, M2.live b → M1.live b ∨ ∃ p d, p ∉ es ∧ p < M.objs.length ∧ M.objs[p]? = some d ∧ d.blk = true ∧ M.β p = b := fun b ⟨p, d, h1, h2, h3⟩ => by
  rcases hcases h1 with ⟨i, d0, rfl, h4, rfl⟩ | ⟨h4, h5, h6⟩
  ·rw [hb2] at h3; rw [rnO_blk] at h2
   exact .inl ⟨i, d0, h4, h2, h3⟩
  ·rw [hb2' p h4 h5] at h3
   exact .inr ⟨p, d, h5, h4, h6, h2, h3⟩
 have hF1 : ∀ b, M0.F b → M1.F b := hx.other.1
 have hin : ∀ {i d}, objs0[i]? = some d → i < es.length := fun {i d} hd => by have := lt_of_getElem? hd; omega
 have hsame : ∀ {p d}, p < M.objs.length → p ∉ es → M.objs[p]? = some d → d.blk = true → M1.w.heap[M.β p]? = M.w.heap[M.β p]? := fun {p d} hp hn hd hb => (hfr _ (hm.lt p d hd hb) (hpnl hn hd hb)).2.1
 have hext : Ext M.objs.length M M2 := by
  refine ⟨by rw [ho2, mergeO_length]; omega, fun b hb => ?_, ⟨fun b hb => by rw [hF2]; exact hb, fun b hb => by rw [hF2]; exact hb.2⟩, by rw [hw2, ← hw0]; exact hx.hs, fun p hp c' hc => ?_, fun p hp sz es' g nl hc => ?_, fun p hp ks es' hc => ?_, fun p hp r' hc => ?_, fun p hp d' hc hit => ?_, fun p hp r hc => ?_, by rw [hw2, ← hw0]; exact hx.io⟩
  ·obtain ⟨a1, a2, a3⟩ := hfr b hb.1 fun hv => hb.2 (hlive b hv)
   exact ⟨⟨by rw [hw2]; exact a1, fun hv => (hlive2 b hv).elim a3 fun ⟨p, d, _, _, h1, h2, h3⟩ => hb.2 ⟨p, d, h1, h2, h3⟩⟩, by rw [hw2]; exact a2⟩
  ·rcases hcases hc with ⟨i, d0, rfl, h4, h5⟩ | ⟨_, h5, h6⟩
   ·cases d0 <;> simp only [rnO, reduceCtorEq] at h5
    have hi := helt.1 hp
    obtain ⟨⟨c, h6⟩, h7⟩ := hx.row i (by omega) _ h4
    rw [ho0] at h6
    exact ⟨⟨_, hobj i _ h6⟩, by rw [hb2, h7, hb0]⟩
   ·exact ⟨⟨c', h6⟩, hb2' p hp h5⟩
  ·rcases hcases hc with ⟨i, d0, rfl, h4, h5⟩ | ⟨_, h5, h6⟩
   ·cases d0 <;> simp only [rnO, reduceCtorEq] at h5
    injection h5 with a1 a2 a3 a4
    subst a1; subst a3; subst a4
    have hi := helt.1 hp
    obtain ⟨sz0, es0, g0, nl0, h6, h7, h8⟩ := hx.vec i (by omega) _ _ _ _ h4
    rw [ho0] at h6
    refine ⟨sz0, _, g0, nl0, hobj i _ h6, h7, fun e' => ?_⟩
    obtain ⟨b1, b2, b3⟩ := h8 e'
    refine ⟨b1, b2, fun hn => ?_⟩
    obtain ⟨c1, c2⟩ := b3 hn
    rw [hb2, hw2, ← hb0, ← hw0]
    exact ⟨c1, c2⟩
   ·refine ⟨sz, es', g, nl, h6, Nat.le_refl _, fun _ => ⟨rfl, rfl, fun hn => ?_⟩⟩
    rw [hb2' p hp h5]
    refine ⟨rfl, ?_⟩
    simp only [bsize, hw2]
    rw [hsame hp h5 h6 (by simp [DObj.blk, hn])]
  ·rcases hcases hc with ⟨i, d0, rfl, h4, h5⟩ | ⟨_, h5, h6⟩
   ·cases d0 <;> simp only [rnO, reduceCtorEq] at h5
    injection h5 with a1 a2
    subst a1
    have hi := helt.1 hp
    obtain ⟨⟨k, c, h6⟩, h7⟩ := hx.map i (by omega) _ _ h4
    rw [ho0] at h6
    exact ⟨⟨_, _, hobj i _ h6⟩, by rw [hb2, h7, hb0]⟩
   ·exact ⟨⟨_, es', h6⟩, hb2' p hp h5⟩
  ·rcases hcases hc with ⟨i, d0, rfl, h4, h5⟩ | ⟨_, h5, h6⟩
   ·cases d0 <;> simp only [rnO, reduceCtorEq] at h5
    have hi := helt.1 hp
    obtain ⟨⟨c, h6⟩, h7⟩ := hx.lp i (by omega) _ h4
    rw [ho0] at h6
    exact ⟨⟨_, hobj i _ h6⟩, by rw [hb2, h7, hb0]⟩
   ·exact ⟨⟨r', h6⟩, hb2' p hp h5⟩
  ·rcases hcases hc with ⟨i, d0, rfl, h4, h5⟩ | ⟨_, h5, h6⟩
   ·have hi := helt.1 hp
    obtain ⟨⟨d1, h6, i1⟩, h7⟩ := hx.it i (by omega) _ h4 (by rw [h5, rnO_isIt] at hit; exact hit)
    rw [ho0] at h6
    exact ⟨⟨_, hobj i _ h6, by rw [rnO_isIt]; exact i1⟩, by rw [hb2, h7, hb0]⟩
   ·exact ⟨⟨_, h6, hit⟩, hb2' p hp h5⟩
  ·by_cases hn : p ∈ es
   ·obtain ⟨i, hi, rfl⟩ := hofmem hn
    have hio : i < objs0.length := by omega
    have h6 := hobj i objs0[i] (by simp [hio])
    rw [hc] at h6
    cases hd : objs0[i] with
    | loop r0 =>
      obtain ⟨⟨r', h7⟩, h8⟩ := hx.lp' i (by omega) r0 (by rw [ho0]; simp [hio, hd])
      exact ⟨⟨_, by rw [hget, h7]; rfl⟩, by rw [hb2, h8, hb0]⟩
    | _ => rw [hd] at h6; simp [rnO] at h6
   ·exact ⟨⟨r, by rw [hother p hp hn]; exact hc⟩, hb2' p hp hn⟩
 have hok1 : ∀ b, M1.ok b → M2.ok b := fun b ⟨⟨h1, h2⟩, h3⟩ => by
  refine ⟨⟨by rw [hw2]; exact h1, fun hv => (hlive2 b hv).elim h2 fun ⟨p, d, h4, h5, h6, h7, h8⟩ => h3 (hF1 b (h8 ▸ hpF h5 h4 h6 h7))⟩, ?_⟩
  rw [hF2]; exact fun hf => h3 (hF1 b ((hF0 b).2 (.inl hf)))
 have hsee : See e M1 M2 := by
  refine ⟨hw2.symm, hok1, fun o ho => ?_, fun o d ho hd => ?_, fun o _ => hb2 o⟩
  ·have := hget o
   rw [List.getElem?_eq_getElem ho] at this
   exact lt_of_getElem? this
  ·rw [hget, Option.map_eq_some_iff] at hd
   obtain ⟨d0, h1, h2⟩ := hd
   exact ⟨d0, h1, h2.symm⟩
 refine ⟨v, rnV e d, M2, rfl, hw2, ?_, hv.rn hsee, hext, d, M1.objs, hq, by rw [← hl]; exact hlen1, rfl, ho2⟩
 refine ⟨fun p d hp => ?_, fun p d hp hb => ?_, fun p p' d d' hp hp' hb hb' hβ => ?_, fun g l hg => (hm.glob g l hg).mono hext.ok, fun b hF => ?_, fun p d hp hb => ?_⟩
 ·rcases hcases hp with ⟨i, d0, rfl, h4, rfl⟩ | ⟨h4, h5, h6⟩
  ·exact (hm1.objs i d0 h4).rn hsee (lt_of_getElem? h4)
  ·exact (hm.objs p d h6).ext hext (fun _ => hb2' p h4 h5) (fun hb => by rw [hw2]; exact hsame h4 h5 h6 hb)
 ·rcases hcases hp with ⟨i, d0, rfl, h4, rfl⟩ | ⟨h4, h5, h6⟩
  ·rw [hb2, hw2]; exact hm1.lt i d0 h4 (by rw [rnO_blk] at hb; exact hb)
  ·rw [hb2' p h4 h5, hw2]; exact (hfr _ (hm.lt p d h6 hb) (hpnl h5 h6 hb)).1
 ·rcases hcases hp with ⟨i, d0, rfl, h4, rfl⟩ | ⟨h4, h5, h6⟩
  ·rw [rnO_blk] at hb
   rcases hcases hp' with ⟨i', d0', rfl, h4', rfl⟩ | ⟨h4', h5', h6'⟩
   ·rw [rnO_blk] at hb'
    rw [hb2, hb2] at hβ
    rw [hm1.inj i i' d0 d0' h4 h4' hb hb' hβ]
   ·rw [hb2, hb2' p' h4' h5'] at hβ
    exact absurd (hF1 _ (hβ ▸ hpF h4' h5' h6' hb')) (hm1.own i d0 h4 hb)
  ·rcases hcases hp' with ⟨i', d0', rfl, h4', rfl⟩ | ⟨h4', h5', h6'⟩
   ·rw [rnO_blk] at hb'
    rw [hb2, hb2' p h4 h5] at hβ
    exact absurd (hF1 _ (hβ ▸ hpF h4 h5 h6 hb)) (hm1.own i' d0' h4' hb')
   ·rw [hb2' p h4 h5, hb2' p' h4' h5'] at hβ
    exact hm.inj p p' d d' h6 h6' hb hb' hβ
 ·rw [hF2] at hF
  rw [hw2]
  have h1 := hm.fl b hF
  have := hm1.fl b (hF1 b ((hF0 b).2 (.inl hF)))
  exact this
 ·rw [hF2]
  rcases hcases hp with ⟨i, d0, rfl, h4, rfl⟩ | ⟨h4, h5, h6⟩
  ·rw [hb2]
   exact fun hF => hm1.own i d0 h4 (by rw [rnO_blk] at hb; exact hb) (hF1 _ ((hF0 _).2 (.inl hF)))
  ·rw [hb2' p h4 h5]; exact hm.own p d h6 hb
def embAll (es : List Nat) (objs : List DObj) : Nat → List DObj → Prop
 | _, [] => True
 | i, d :: r => objs[emb es objs.length i]? = some (rnO (emb es objs.length) d) ∧ embAll es objs (i + 1) r
theorem emb_all' {es : List Nat} {objs : List DObj} : ∀ (l : List DObj) (k : Nat), embAll es objs k l → ∀ i d, l[i]? = some d → objs[emb es objs.length (k + i)]? = some (rnO (emb es objs.length) d)
 | [], _, _, i, d, hd => by simp at hd
 | x :: l, k, h, i, d, hd => by
   cases i with
   | zero => simp at hd; subst hd; exact h.1
   | succ i =>
     have := emb_all' l (k + 1) h.2 i d (by simpa using hd)
     rw [show k + 1 + i = k + (i + 1) by omega] at this; exact this
theorem emb_all {es : List Nat} {objs objs0 : List DObj} (h : embAll es objs 0 objs0) : ∀ i d, objs0[i]? = some d → objs[emb es objs.length i]? = some (rnO (emb es objs.length) d) := fun i d hd => by
 have := emb_all' objs0 0 h i d hd
 rw [Nat.zero_add] at this; exact this
theorem CallE.embed {f : FuncId} {args args0 : List DV} {objs objs0 o1 : List DObj} {d0 : DV} {Q : DV → List DObj → Prop} {t : Tok Q} (es : List Nat) (h : DCall P G f args0 objs0 (fun d o => d = d0 ∧ o = o1))
 (ha : args0.map (rnV (emb es objs.length)) = args) (hl : es.length = objs0.length) (hnd : es.Nodup) (hes : ∀ x ∈ es, x < objs.length)
 (hobj : ∀ i d, objs0[i]? = some d → objs[emb es objs.length i]? = some (rnO (emb es objs.length) d)) (hq : Q (rnV (emb es objs.length) d0) (mergeO es objs o1)) : CallE P G f args objs Q t := by
 subst ha
 refine (DCall.embed es h hl hnd hes hobj).mono fun d o ⟨d', o', ⟨h1, h2⟩, _, h3, h4⟩ => ?_
 subst h1; subst h2; subst h3; subst h4
 exact hq
end
end Go.Ab
