/- Part 15 of the proofs: laws and walks that hold without conditions beyond those that each theorem names. -/
import Derived.Test.YtmfanojaldiejaaDoorA11
import Derived.Test.YtmfanojaldiejaaDoorA12
import Derived.Test.YtmfanojaldiejaaDoorA14
set_option linter.all false
set_option linter.deprecated false
namespace Go.Ab
open Go
structure Dim where
  nominal : Int
  lower : Int
  upper : Int
  deriving DecidableEq
structure Itm where
  drawing : Int
  count : Int
  deriving DecidableEq
structure Issue where
  drawing : Int
  letter : Int
  kind : Int
  items : List Itm
  dims : List Dim
  deriving DecidableEq
def rI (n : Int) : IC := .raw (.int .i64 n)
def rB (b : Bool) : IC := .raw (.bool b)
def encDim (d : Dim) : List IC := [rI d.nominal, rI d.lower, rI d.upper]
def encItem (x : Itm) : List IC := [rI x.drawing, rI x.count]
def encIssue (x : Issue) : List IC := [rI x.drawing, rI x.letter, .raw (.int .u8 x.kind), .sl (x.items.map encItem), .sl (x.dims.map encDim)]
def encI (n : Int) : List IC := [rI n]
def iv (n : Int) : DV := .one (.im (.raw (.int .i64 n)))
def bv (b : Bool) : DV := .one (.im (.raw (.bool b)))
def isv (l : List Int) : DV := .one (.im (.sl (l.map encI)))
def regv (l : List Issue) : DV := .agg [.im (.sl (l.map encIssue))]
attribute [simp] iv bv isv regv rI rB encDim encItem encIssue encI
attribute [simp] dclear dmakeMap ddelete dmapUpdate dlookup dlookupI dlenMap dlenMapI drange dentry dindexA keyOfV valOfV valV imE putAll
attribute [simp] RTe kindOf dstep dbuiltin evalG evals tget DS.put wantedA rawOf rawD dbin dint dshift dunop dload dstore dadd isAddr dindex dlen dappend optI DV.cells mkDV dcallee zcells dfill partsOf zic chunk splice DS.keep sel Plain dresults dresult theResult startT fzV fzVL thenQ
theorem imp_At {p : Prop} {Q : Exit → DS → Prop} {e : Exit} {t : Tok Q} {S : DS} (h : p → At Q e t S) : p → At Q e t S := h
theorem delems_im (objs : List DObj) (l : List (List IC)) : delems objs (.im (.sl l)) = some (ims l) := rfl
theorem delems_vec (objs : List DObj) (o g off len : Nat) : delems objs (.vec o g off len) = match objs[o]? with
    | some (.vec _ es g' _) => if g = g' ∧ off + len ≤ es.length then some ((es.drop off).take len) else none
    | _ => none := by unfold delems; rfl
attribute [simp] delems_im delems_vec
attribute [simp] ImV.one
theorem ImV_agg (l : List DC) : ImV (.agg l) ↔ ∀ d ∈ l, ∃ c, d = .im c := ⟨fun h => by cases h; assumption, .agg l⟩
theorem ImV_tup (l : List DV) : ImV (.tup l) ↔ ∀ d ∈ l, ImV d := ⟨fun h => by cases h; assumption, .tup l⟩
attribute [simp] ImV_agg ImV_tup
attribute [simp] dcmp dnil raws shapeOk beqs ones RQe slotsOf Op.operands Call.operands
attribute [simp] RXe XStep isAl zOk pick alsOf adoptL adopt1 dstL sameAt
attribute [simp] ims_nil ims_append ims_length fz_im map_fz_im ims_fz mapO_im mapO_ims DS.drop dropO fzO
theorem ibeq (a b : Int) : (a == b) = decide (a = b) := by by_cases h : a = b <;> simp [h]
theorem ibne (a b : Int) : (a != b) = !decide (a = b) := by by_cases h : a = b <;> simp [h]
attribute [simp] ibeq ibne
theorem fz_ptr {n o off : Nat} {objs : List DObj} (h : o < n) : fz n objs (.ptr o off) = .ptr o off := by simp [fz, DC.lt, h]
theorem fz_ept {n o g i off : Nat} {objs : List DObj} (h : o < n) : fz n objs (.ept o g i off) = .ept o g i off := by simp [fz, DC.lt, h]
theorem fz_vec {n o g off len : Nat} {objs : List DObj} (h : o < n) : fz n objs (.vec o g off len) = .vec o g off len := by simp [fz, DC.lt, h]
theorem ims_cons (x : List IC) (l : List (List IC)) : ims (x :: l) = x.map .im :: ims l := rfl
theorem ims_len_iff (l : List (List IC)) (n : Nat) : (∀ e ∈ ims l, e.length = n) ↔ ∀ e ∈ l, e.length = n := by
  constructor
  · intro h e he
    have := h (e.map .im) (by simp only [ims, List.mem_map]; exact ⟨e, he, rfl⟩)
    simpa using this
  · exact fun h => ims_len_elems h
attribute [simp] ims_len_iff
theorem take_ims {α : Type} (f : α → List IC) (l : List α) : (ims (l.map f)).take l.length = ims (l.map f) := List.take_of_length_le (by simp [ims_length])
attribute [simp] fz_ptr fz_ept fz_vec ims_cons take_ims
def outF : Option IC → DC
  | some c => .im c
  | none => .dead
theorem fz_vecg {n o g off len : Nat} {objs : List DObj} (h : n ≤ o) : fz n objs (.vec o g off len) = outF (frz 20 n objs (.vec o g off len)) := by
  have h1 : DC.lt n (.vec o g off len) = false := by simp [DC.lt]; omega
  simp only [fz, h1]
  cases frz 20 n objs (.vec o g off len) <;> rfl
theorem fz_ptrg {n o off : Nat} {objs : List DObj} (h : n ≤ o) : fz n objs (.ptr o off) = outF (frz 20 n objs (.ptr o off)) := by
  have h1 : DC.lt n (.ptr o off) = false := by simp [DC.lt]; omega
  simp only [fz, h1]
  cases frz 20 n objs (.ptr o off) <;> rfl
theorem frz_im (k n : Nat) (objs : List DObj) (c : IC) : frz (k + 1) n objs (.im c) = some c := rfl
theorem frz_vec (k n o g off len : Nat) (objs : List DObj) : frz (k + 1) n objs (.vec o g off len) = if n ≤ o then match objs[o]? with
        | some (.vec _ es g' _) => if g = g' ∧ off + len ≤ es.length then (mapO (mapO (frz k n objs)) ((es.drop off).take len)).map .sl else none
        | _ => none
      else none := rfl
theorem frz_ptr (k n o off : Nat) (objs : List DObj) : frz (k + 1) n objs (.ptr o off) = if n ≤ o then match objs[o]? with
        | some (.row c) => if off ≤ c.length then (mapO (frz k n objs) (c.drop off)).map .ip else none
        | _ => none
      else none := rfl
theorem fz_fn {n : Nat} {f : Fn} {caps : List DC} {objs : List DObj} : fz n objs (.fn f caps) = if DC.ltL n caps = true then .fn f caps else outF (frz 20 n objs (.fn f caps)) := by
  have h1 : DC.lt n (.fn f caps) = DC.ltL n caps := rfl
  simp only [fz, h1]
  split
  · rfl
  · cases frz 20 n objs (.fn f caps) <;> rfl
theorem frz_fn (k n : Nat) (objs : List DObj) (f : Fn) (caps : List DC) : frz (k + 1) n objs (.fn f caps) = (mapO (frz k n objs) caps).map (.fn f) := rfl
theorem fz_map {n o : Nat} {objs : List DObj} (h : o < n) : fz n objs (.map o) = .map o := by simp [fz, DC.lt, h]
theorem fz_mapg {n o : Nat} {objs : List DObj} (h : n ≤ o) : fz n objs (.map o) = outF (frz 20 n objs (.map o)) := by
  have h1 : DC.lt n (.map o) = false := by simp [DC.lt]; omega
  simp only [fz, h1]
  cases frz 20 n objs (.map o) <;> rfl
theorem frz_map (k n o : Nat) (objs : List DObj) : frz (k + 1) n objs (.map o) = if n ≤ o then match objs[o]? with
        | some (.map ks es) => (mapO (fun x => (mapO (frz k n objs) x.2).map fun l => (x.1, l)) es).map (.mp ks)
        | _ => none
      else none := rfl
theorem fz_yld {n o : Nat} {objs : List DObj} (h : o < n) : fz n objs (.yld o) = .yld o := by simp [fz, DC.lt, h]
theorem fz_itr {n o : Nat} {objs : List DObj} (h : o < n) : fz n objs (.itr o) = .itr o := by simp [fz, DC.lt, h]
attribute [simp] fz_fn frz_fn fz_map fz_mapg frz_map fz_yld fz_itr DC.ltL DC.lt
attribute [simp] outF fz_vecg fz_ptrg frz_im frz_vec frz_ptr mapO
theorem nrm : (∀ (p : Prop) [Decidable p], decide p = true ↔ p) ∧ (∀ (p : Prop) [Decidable p], decide p = false ↔ ¬p) ∧ (∀ a b : Bool, (a && b) = true ↔ a = true ∧ b = true) ∧ (∀ a b : Bool, (a && b) = false ↔ a = false ∨ b = false) ∧ (∀ a b : Bool, (a || b) = true ↔ a = true ∨ b = true) ∧ (∀ a b : Bool, (a || b) = false ↔ a = false ∧ b = false) ∧ (∀ a : Bool, (!a) = true ↔ a = false) ∧ (∀ a : Bool, (!a) = false ↔ a = true) ∧ (∀ (α : Type) [BEq α] [LawfulBEq α] (a b : α), (a == b) = true ↔ a = b) ∧ (∀ (α : Type) [BEq α] [LawfulBEq α] (a b : α), (a == b) = false ↔ a ≠ b) :=
  ⟨fun _ => decide_eq_true_iff, fun _ => decide_eq_false_iff_not, fun _ _ => Bool.and_eq_true_iff, fun a b => by cases a <;> cases b <;> decide, fun a b => by cases a <;> cases b <;> decide, fun a b => by cases a <;> cases b <;> decide, fun a => by cases a <;> decide, fun a => by cases a <;> decide, fun _ _ _ _ _ => beq_iff_eq, fun _ _ _ _ _ => beq_eq_false_iff_ne⟩
abbrev q01 := @At.seq
abbrev q02 := @At.then_ret
abbrev q03 := @At.then_exit
abbrev q04 := @At.block_end
abbrev q05 := @At.block_ret
abbrev q06 := @At.block_exit
abbrev q07 := @At.block_out
abbrev q09 := @At.scope_ret
abbrev q11 := @DT_seq
abbrev q12 := @DT_block
abbrev q13 := @DT_scope
abbrev q14 := @DT_skip
abbrev q15 := @DT_label
abbrev q16 := @DT_exit
abbrev q17 := @DT_ret
end Go.Ab
namespace Go.Proofs
open Go Go.Ab
attribute [local simp] dslice setLp
theorem i64w {n : Int} (h1 : -9223372036854775808 ≤ n) (h2 : n ≤ 9223372036854775807) : IntKind.i64.wrap n = n := IntWalk.i64_in n ⟨h1, h2⟩
set_option linter.unusedSimpArgs false
variable {G : Nat → Option (List IC)}
def idx (l : List Int) (x : Int) : Int := match l.idxOf? x with | some i => i | none => -1
end Go.Proofs
namespace Go.Proofs
open Go Go.Ab
attribute [local simp] dslice setLp
set_option linter.unusedSimpArgs false
variable {G : Nat → Option (List IC)}
theorem mixed : Tryd.prog.follows .mixedOrders = true := by kernel_rfl
def issv (x : Issue) : DV := .agg ((encIssue x).map .im)
attribute [simp] issv
end Go.Proofs
namespace Go.Proofs
open Go Go.Ab
attribute [local simp] dslice setLp
set_option linter.unusedSimpArgs false
variable {G : Nat → Option (List IC)}
def Small (l : List Issue) : Prop := l.length ≤ 80 ∧ ∀ x ∈ l, x.items.length ≤ 16 ∧ x.dims.length ≤ 8
end Go.Proofs
namespace Go.Proofs
open Go Go.Ab
attribute [local simp] dslice setLp
set_option linter.unusedSimpArgs false
variable {G : Nat → Option (List IC)}
instance (l : List Issue) : Decidable (Small l) := inferInstanceAs (Decidable (_ ∧ _))
end Go.Proofs
namespace Go.Proofs
open Go Go.Ab
attribute [local simp] dslice setLp
set_option linter.unusedSimpArgs false
variable {G : Nat → Option (List IC)}
theorem sameInts_c (l r : List Int) (hl : l.length < 1000000) (objs : List DObj) : DCall Tryd.prog G 35 [isv l, isv r] objs (fun d objs' => d = bv (decide (l = r)) ∧ objs' = objs) := by
  refine DCall.frame ?_ (by simp) (by simp) objs
  refine DCall_intro Tryd.func35 rfl Tryd.ntmps35 (by simp) rfl ?_
  simp only [isv, bv]
  have hs : True := trivial
  repeat' first | (with_reducible first | refine q01 ?_ | refine q02 ?_ | refine q11 ?_ | refine q12 ?_ | refine q14 ?_ | refine q17 ?_) | (with_reducible refine At.fn_ret (by simp -dsimp [hs]; exact rfl) ?_) | (with_reducible refine DT_regionE [0,1,4,5,10,14,25] ?_; simp -dsimp [hs]) | (refine DT_cond rfl (fun h => ?_) (fun h => ?_) <;> (try simp only [nrm] at h) <;> (try exact Bool.noConfusion h))
  all_goals try simp -dsimp [hs]
  all_goals try clear hs
  · rintro rfl; omega
  · have hlen : l.length = r.length := by omega
    refine DT_loop (ι := { k : Nat // k ≤ l.length ∧ ∀ j, j < k → l[j]? = r[j]? }) (fun p => ⟨26, [(0, isv l), (1, isv r), (5, iv (p.1 : Int))], []⟩) (fun p => l.length - p.1) ⟨0, by simp⟩ (Weak.of_keep [0,1,5] (by simp [iv, isv])) ?_
    rintro ⟨k, hk, hno⟩
    simp only [iv, isv]
    by_cases hlt : k < l.length
    · have hx : l[k]? = some l[k] := by simp [hlt]
      have hltr : k < r.length := by omega
      have hy : r[k]? = some r[k] := by simp [hltr]
      have hw : IntKind.i64.wrap ((k : Int) + 1) = ((k + 1 : Nat) : Int) := i64w (by omega) (by omega)
      have hs : True := trivial
      repeat' first | (with_reducible first | refine q01 ?_ | refine q02 ?_ | refine q03 ?_ | refine q04 ?_ | refine q05 ?_ | refine q06 ?_ | refine q11 ?_ | refine q12 ?_ | refine q14 ?_ | refine q16 ?_ | refine q17 ?_) | (with_reducible refine At.fn_ret (by simp -dsimp [hx, hy, encI, rI, hw, hs]; exact rfl) ?_) | (refine DT_regionM (id := 6) (nt := 26) 9 [0,1,4,5,10,14,25] mixed rfl (by kernel_rfl) ?_; simp -dsimp [hx, hy, encI, rI, hw, hs]) | (with_reducible refine DT_regionE [0,1,4,5,10,14,25] ?_; simp -dsimp [hx, hy, encI, rI, hw, hs]) | (refine DT_cond rfl (fun h => ?_) (fun h => ?_) <;> (try simp only [nrm] at h) <;> (try exact Bool.noConfusion h))
      all_goals try simp -dsimp [hx, hy, encI, rI, hw, hs]
      all_goals try clear hs
      all_goals try omega
      · rename_i h
        rintro rfl; exact h rfl
      · rename_i h
        refine At.round ⟨k + 1, by omega, fun j hj => ?_⟩ (by simp; omega) (Weak.of_keep [0,1,5] (by simp))
        by_cases e : j = k
        · subst e; rw [hx, hy, h]
        · exact hno j (by omega)
    · have hs : True := trivial
      repeat' first | (with_reducible first | refine q01 ?_ | refine q03 ?_ | refine q06 ?_ | refine q11 ?_ | refine q16 ?_ | refine q17 ?_) | (with_reducible refine At.fn_ret (by simp -dsimp [hlt, hs]; exact rfl) ?_) | (with_reducible refine DT_regionE [0,1,4,5,10,14,25] ?_; simp -dsimp [hlt, hs]) | (refine DT_cond rfl (fun h => ?_) (fun h => ?_) <;> (try simp only [nrm] at h) <;> (try exact Bool.noConfusion h))
      all_goals try simp -dsimp [hlt, hs]
      all_goals try clear hs
      refine List.ext_getElem? fun j => ?_
      by_cases hj : j < k
      · exact hno j hj
      · rw [List.getElem?_eq_none (by omega), List.getElem?_eq_none (by omega)]
end Go.Proofs
namespace Go.Proofs
open Go Go.Ab
attribute [local simp] dslice setLp
set_option linter.unusedSimpArgs false
variable {G : Nat → Option (List IC)}
def itv (l : List Itm) : DV := .one (.im (.sl (l.map encItem)))
attribute [simp] itv
end Go.Proofs
namespace Go.Proofs
open Go Go.Ab
attribute [local simp] dslice setLp
set_option linter.unusedSimpArgs false
variable {G : Nat → Option (List IC)}
end Go.Proofs
namespace Go.Proofs
open Go Go.Ab
attribute [local simp] dslice setLp
set_option linter.unusedSimpArgs false
variable {G : Nat → Option (List IC)}
end Go.Proofs
namespace Go.Proofs
open Go Go.Ab
attribute [local simp] dslice setLp
set_option linter.unusedSimpArgs false
variable {G : Nat → Option (List IC)}
def zIssue : Issue := ⟨0, 0, 0, [], []⟩
def findI (l : List Issue) (d lt : Int) : Option Issue := l.find? fun x => x.drawing == d && x.letter == lt
def refv (d lt : Int) : DV := .agg [.im (rI d), .im (rI lt)]
attribute [simp] refv
end Go.Proofs
namespace Go.Proofs
open Go Go.Ab
attribute [local simp] dslice setLp
set_option linter.unusedSimpArgs false
variable {G : Nat → Option (List IC)}
def fidx {α : Type} (p : α → Bool) (l : List α) : Int := match l.findIdx? p with | some i => i | none => -1
theorem fidx_yes {α : Type} {p : α → Bool} {l : List α} {i : Nat} {x : α} (h : l[i]? = some x) (hp : p x = true) (hno : ∀ (j : Nat) (x : α), j < i → l[j]? = some x → p x = false) : fidx p l = i := by
  have : l.findIdx? p = some i := by
    rw [List.findIdx?_eq_some_iff_getElem]
    obtain ⟨hlt, he⟩ := List.getElem?_eq_some_iff.1 h
    refine ⟨hlt, by rw [he]; exact hp, fun j hj => ?_⟩
    have := hno j l[j] hj (by simp)
    simp [this]
  simp [fidx, this]
theorem fidx_no {α : Type} {p : α → Bool} {l : List α} (hno : ∀ (j : Nat) (x : α), l[j]? = some x → p x = false) : fidx p l = -1 := by
  have : l.findIdx? p = none := by
    rw [List.findIdx?_eq_none_iff]
    intro y hy
    obtain ⟨j, hj⟩ := List.mem_iff_getElem?.1 hy
    exact hno j y hj
  simp [fidx, this]
theorem fidx_nonneg {α : Type} (p : α → Bool) (l : List α) : decide (0 ≤ fidx p l) = l.any p := by
  unfold fidx
  split
  · rename_i i h
    rw [List.findIdx?_eq_some_iff_getElem] at h
    obtain ⟨hlt, hp, _⟩ := h
    have : l.any p = true := List.any_eq_true.2 ⟨l[i], by simp, hp⟩
    simp [this]
  · rename_i h
    rw [List.findIdx?_eq_none_iff] at h
    have : l.any p = false := by rw [List.any_eq_false]; intro x hx; simp [h x hx]
    simp [this]
def itmv (x : Itm) : DV := .agg ((encItem x).map .im)
def dimv (x : Dim) : DV := .agg ((encDim x).map .im)
attribute [simp] itmv dimv
theorem indexFunc_int (l : List Int) (p : Int → Bool) (k : Nat) (caps : List DC) (objs : List DObj) (hok : CallOk Tryd.prog k) (hf : ∀ x ∈ l, DCall Tryd.prog G k (iv x :: caps.map .one) objs (fun d o => d = bv (p x) ∧ o = objs)) (hl : l.length < 1000000) : DCall Tryd.prog G 73 [.one (.im (.sl (l.map encI))), .one (.fn (.func k) caps)] objs (fun d o => d = iv (fidx p l) ∧ o = objs) := by
  refine DCall_intro Tryd.func73 rfl Tryd.ntmps73 (by simp) rfl ?_
  have hs : True := trivial
  repeat' first | (with_reducible first | refine q01 ?_ | refine q11 ?_ | refine q12 ?_) | (with_reducible refine DT_regionE [0,1,4,5,7,8,9,16] ?_; simp -dsimp [hs])
  all_goals try simp -dsimp [hs]
  all_goals try clear hs
  refine DT_loop (ι := { k : Nat // k ≤ l.length ∧ ∀ j x, j < k → l[j]? = some x → p x = false }) (fun i => ⟨19, [(0, .one (.im (.sl (l.map encI)))), (1, .one (.fn (.func k) caps)), (7, iv (l.length : Int)), (8, iv (i.1 : Int))], objs⟩) (fun i => l.length - i.1) ⟨0, by simp⟩ (Weak.of_keep [0,1,7,8] (by simp)) ?_
  rintro ⟨i, hi, hno⟩
  simp only [iv]
  by_cases hlt : i < l.length
  · have hx : l[i]? = some l[i] := by simp [hlt]
    have hw : IntKind.i64.wrap ((i : Int) + 1) = ((i + 1 : Nat) : Int) := i64w (by omega) (by omega)
    have hc := hf l[i] (by simp)
    simp only [iv, encI, List.map_cons, List.map_nil, bv, rI] at hc
    have hs : True := trivial
    repeat' first | (with_reducible first | refine q01 ?_ | refine q02 ?_ | refine q03 ?_ | refine q04 ?_ | refine q05 ?_ | refine q06 ?_ | refine q11 ?_ | refine q12 ?_ | refine q14 ?_ | refine q16 ?_ | refine q17 ?_ | refine And.intro (by omega) ?_) | (with_reducible refine At.fn_ret (by simp -dsimp [hx, hw, hok, hs]; exact rfl) ?_) | (refine CallE.here hc ?_; try simp -dsimp [hx, hw, hok, hs]) | (with_reducible refine DT_regionE [0,1,4,5,7,8,9,16] ?_; simp -dsimp [hx, hw, hok, hs]) | (refine DT_cond rfl (fun h => ?_) (fun h => ?_) <;> (try simp only [nrm] at h) <;> (try exact Bool.noConfusion h)) | with_reducible refine And.intro ?_ ?_
    all_goals try simp -dsimp [hx, hw, hok, hs]
    all_goals try clear hs
    all_goals try omega
    · exact (fidx_yes hx (by assumption) hno).symm
    · exact At.round ⟨i + 1, by omega, fun j x hj hjx => by
        by_cases e : j = i
        · subst e; rw [hx] at hjx; cases hjx; assumption
        · exact hno j x (by omega) hjx⟩ (by simp; omega) (Weak.of_keep [0,1,7,8] (by simp))
  · have hs : True := trivial
    repeat' first | (with_reducible first | refine q01 ?_ | refine q03 ?_ | refine q06 ?_ | refine q11 ?_ | refine q12 ?_ | refine q14 ?_ | refine q16 ?_ | refine q17 ?_) | (with_reducible refine At.fn_ret (by simp -dsimp [hs]; exact rfl) ?_) | (with_reducible refine DT_regionE [0,1,4,5,7,8,9,16] ?_; simp -dsimp [hs]) | (refine DT_cond rfl (fun h => ?_) (fun h => ?_) <;> (try simp only [nrm] at h) <;> (try exact Bool.noConfusion h)) | with_reducible refine And.intro ?_ ?_
    all_goals try simp -dsimp [hs]
    all_goals try clear hs
    all_goals try omega
    exact (fidx_no fun j x hjx => hno j x (by have := lt_of_getElem? hjx; omega) hjx).symm
theorem containsFunc_int (l : List Int) (p : Int → Bool) (k : Nat) (caps : List DC) (objs : List DObj) (hok : CallOk Tryd.prog k) (hf : ∀ x ∈ l, DCall Tryd.prog G k (iv x :: caps.map .one) objs (fun d o => d = bv (p x) ∧ o = objs)) (hl : l.length < 1000000) : DCall Tryd.prog G 59 [.one (.im (.sl (l.map encI))), .one (.fn (.func k) caps)] objs (fun d o => d = bv (l.any p) ∧ o = objs) := by
  refine DCall_intro Tryd.func59 rfl Tryd.ntmps59 (by simp) rfl ?_
  have hc := indexFunc_int l p k caps objs hok hf hl
  have hs : True := trivial
  repeat' first | (with_reducible first | refine q01 ?_ | refine q11 ?_ | refine q17 ?_) | (with_reducible refine At.fn_ret (by simp -dsimp [hs]; exact rfl) ?_) | (refine CallE.here hc ?_; try simp -dsimp [hs]) | (with_reducible refine DT_regionE [0,1,4] ?_; simp -dsimp [hs]) | with_reducible refine And.intro ?_ ?_
  all_goals try simp -dsimp [hs]
  all_goals try clear hs
  simp [fidx_nonneg]
theorem indexFunc_itm (l : List Itm) (p : Itm → Bool) (k : Nat) (caps : List DC) (objs : List DObj) (hok : CallOk Tryd.prog k) (hf : ∀ x ∈ l, DCall Tryd.prog G k (itmv x :: caps.map .one) objs (fun d o => d = bv (p x) ∧ o = objs)) (hl : l.length < 1000000) : DCall Tryd.prog G 86 [.one (.im (.sl (l.map encItem))), .one (.fn (.func k) caps)] objs (fun d o => d = iv (fidx p l) ∧ o = objs) := by
  refine DCall_intro Tryd.func86 rfl Tryd.ntmps86 (by simp) rfl ?_
  have hs : True := trivial
  repeat' first | (with_reducible first | refine q01 ?_ | refine q11 ?_ | refine q12 ?_) | (with_reducible refine DT_regionE [0,1,4,5,7,8,9,16] ?_; simp -dsimp [hs])
  all_goals try simp -dsimp [hs]
  all_goals try clear hs
  refine DT_loop (ι := { k : Nat // k ≤ l.length ∧ ∀ j x, j < k → l[j]? = some x → p x = false }) (fun i => ⟨19, [(0, .one (.im (.sl (l.map encItem)))), (1, .one (.fn (.func k) caps)), (7, iv (l.length : Int)), (8, iv (i.1 : Int))], objs⟩) (fun i => l.length - i.1) ⟨0, by simp⟩ (Weak.of_keep [0,1,7,8] (by simp)) ?_
  rintro ⟨i, hi, hno⟩
  simp only [iv]
  by_cases hlt : i < l.length
  · have hx : l[i]? = some l[i] := by simp [hlt]
    have hw : IntKind.i64.wrap ((i : Int) + 1) = ((i + 1 : Nat) : Int) := i64w (by omega) (by omega)
    have hc := hf l[i] (by simp)
    simp only [itmv, encItem, List.map_cons, List.map_nil, bv, rI] at hc
    have hs : True := trivial
    repeat' first | (with_reducible first | refine q01 ?_ | refine q02 ?_ | refine q03 ?_ | refine q04 ?_ | refine q05 ?_ | refine q06 ?_ | refine q11 ?_ | refine q12 ?_ | refine q14 ?_ | refine q16 ?_ | refine q17 ?_ | refine And.intro (by omega) ?_) | (with_reducible refine At.fn_ret (by simp -dsimp [hx, hw, hok, hs]; exact rfl) ?_) | (refine CallE.here hc ?_; try simp -dsimp [hx, hw, hok, hs]) | (with_reducible refine DT_regionE [0,1,4,5,7,8,9,16] ?_; simp -dsimp [hx, hw, hok, hs]) | (refine DT_cond rfl (fun h => ?_) (fun h => ?_) <;> (try simp only [nrm] at h) <;> (try exact Bool.noConfusion h)) | with_reducible refine And.intro ?_ ?_
    all_goals try simp -dsimp [hx, hw, hok, hs]
    all_goals try clear hs
    all_goals try omega
    · exact (fidx_yes hx (by assumption) hno).symm
    · exact At.round ⟨i + 1, by omega, fun j x hj hjx => by
        by_cases e : j = i
        · subst e; rw [hx] at hjx; cases hjx; assumption
        · exact hno j x (by omega) hjx⟩ (by simp; omega) (Weak.of_keep [0,1,7,8] (by simp))
  · have hs : True := trivial
    repeat' first | (with_reducible first | refine q01 ?_ | refine q03 ?_ | refine q06 ?_ | refine q11 ?_ | refine q12 ?_ | refine q14 ?_ | refine q16 ?_ | refine q17 ?_) | (with_reducible refine At.fn_ret (by simp -dsimp [hs]; exact rfl) ?_) | (with_reducible refine DT_regionE [0,1,4,5,7,8,9,16] ?_; simp -dsimp [hs]) | (refine DT_cond rfl (fun h => ?_) (fun h => ?_) <;> (try simp only [nrm] at h) <;> (try exact Bool.noConfusion h)) | with_reducible refine And.intro ?_ ?_
    all_goals try simp -dsimp [hs]
    all_goals try clear hs
    all_goals try omega
    exact (fidx_no fun j x hjx => hno j x (by have := lt_of_getElem? hjx; omega) hjx).symm
theorem containsFunc_itm (l : List Itm) (p : Itm → Bool) (k : Nat) (caps : List DC) (objs : List DObj) (hok : CallOk Tryd.prog k) (hf : ∀ x ∈ l, DCall Tryd.prog G k (itmv x :: caps.map .one) objs (fun d o => d = bv (p x) ∧ o = objs)) (hl : l.length < 1000000) : DCall Tryd.prog G 75 [.one (.im (.sl (l.map encItem))), .one (.fn (.func k) caps)] objs (fun d o => d = bv (l.any p) ∧ o = objs) := by
  refine DCall_intro Tryd.func75 rfl Tryd.ntmps75 (by simp) rfl ?_
  have hc := indexFunc_itm l p k caps objs hok hf hl
  have hs : True := trivial
  repeat' first | (with_reducible first | refine q01 ?_ | refine q11 ?_ | refine q17 ?_) | (with_reducible refine At.fn_ret (by simp -dsimp [hs]; exact rfl) ?_) | (refine CallE.here hc ?_; try simp -dsimp [hs]) | (with_reducible refine DT_regionE [0,1,4] ?_; simp -dsimp [hs]) | with_reducible refine And.intro ?_ ?_
  all_goals try simp -dsimp [hs]
  all_goals try clear hs
  simp [fidx_nonneg]
theorem indexFunc_dim (l : List Dim) (p : Dim → Bool) (k : Nat) (caps : List DC) (objs : List DObj) (hok : CallOk Tryd.prog k) (hf : ∀ x ∈ l, DCall Tryd.prog G k (dimv x :: caps.map .one) objs (fun d o => d = bv (p x) ∧ o = objs)) (hl : l.length < 1000000) : DCall Tryd.prog G 135 [.one (.im (.sl (l.map encDim))), .one (.fn (.func k) caps)] objs (fun d o => d = iv (fidx p l) ∧ o = objs) := by
  refine DCall_intro Tryd.func135 rfl Tryd.ntmps135 (by simp) rfl ?_
  have hs : True := trivial
  repeat' first | (with_reducible first | refine q01 ?_ | refine q11 ?_ | refine q12 ?_) | (with_reducible refine DT_regionE [0,1,4,5,7,8,9,16] ?_; simp -dsimp [hs])
  all_goals try simp -dsimp [hs]
  all_goals try clear hs
  refine DT_loop (ι := { k : Nat // k ≤ l.length ∧ ∀ j x, j < k → l[j]? = some x → p x = false }) (fun i => ⟨19, [(0, .one (.im (.sl (l.map encDim)))), (1, .one (.fn (.func k) caps)), (7, iv (l.length : Int)), (8, iv (i.1 : Int))], objs⟩) (fun i => l.length - i.1) ⟨0, by simp⟩ (Weak.of_keep [0,1,7,8] (by simp)) ?_
  rintro ⟨i, hi, hno⟩
  simp only [iv]
  by_cases hlt : i < l.length
  · have hx : l[i]? = some l[i] := by simp [hlt]
    have hw : IntKind.i64.wrap ((i : Int) + 1) = ((i + 1 : Nat) : Int) := i64w (by omega) (by omega)
    have hc := hf l[i] (by simp)
    simp only [dimv, encDim, List.map_cons, List.map_nil, bv, rI] at hc
    have hs : True := trivial
    repeat' first | (with_reducible first | refine q01 ?_ | refine q02 ?_ | refine q03 ?_ | refine q04 ?_ | refine q05 ?_ | refine q06 ?_ | refine q11 ?_ | refine q12 ?_ | refine q14 ?_ | refine q16 ?_ | refine q17 ?_ | refine And.intro (by omega) ?_) | (with_reducible refine At.fn_ret (by simp -dsimp [hx, hw, hok, hs]; exact rfl) ?_) | (refine CallE.here hc ?_; try simp -dsimp [hx, hw, hok, hs]) | (with_reducible refine DT_regionE [0,1,4,5,7,8,9,16] ?_; simp -dsimp [hx, hw, hok, hs]) | (refine DT_cond rfl (fun h => ?_) (fun h => ?_) <;> (try simp only [nrm] at h) <;> (try exact Bool.noConfusion h)) | with_reducible refine And.intro ?_ ?_
    all_goals try simp -dsimp [hx, hw, hok, hs]
    all_goals try clear hs
    all_goals try omega
    · exact (fidx_yes hx (by assumption) hno).symm
    · exact At.round ⟨i + 1, by omega, fun j x hj hjx => by
        by_cases e : j = i
        · subst e; rw [hx] at hjx; cases hjx; assumption
        · exact hno j x (by omega) hjx⟩ (by simp; omega) (Weak.of_keep [0,1,7,8] (by simp))
  · have hs : True := trivial
    repeat' first | (with_reducible first | refine q01 ?_ | refine q03 ?_ | refine q06 ?_ | refine q11 ?_ | refine q12 ?_ | refine q14 ?_ | refine q16 ?_ | refine q17 ?_) | (with_reducible refine At.fn_ret (by simp -dsimp [hs]; exact rfl) ?_) | (with_reducible refine DT_regionE [0,1,4,5,7,8,9,16] ?_; simp -dsimp [hs]) | (refine DT_cond rfl (fun h => ?_) (fun h => ?_) <;> (try simp only [nrm] at h) <;> (try exact Bool.noConfusion h)) | with_reducible refine And.intro ?_ ?_
    all_goals try simp -dsimp [hs]
    all_goals try clear hs
    all_goals try omega
    exact (fidx_no fun j x hjx => hno j x (by have := lt_of_getElem? hjx; omega) hjx).symm
theorem containsFunc_dim (l : List Dim) (p : Dim → Bool) (k : Nat) (caps : List DC) (objs : List DObj) (hok : CallOk Tryd.prog k) (hf : ∀ x ∈ l, DCall Tryd.prog G k (dimv x :: caps.map .one) objs (fun d o => d = bv (p x) ∧ o = objs)) (hl : l.length < 1000000) : DCall Tryd.prog G 132 [.one (.im (.sl (l.map encDim))), .one (.fn (.func k) caps)] objs (fun d o => d = bv (l.any p) ∧ o = objs) := by
  refine DCall_intro Tryd.func132 rfl Tryd.ntmps132 (by simp) rfl ?_
  have hc := indexFunc_dim l p k caps objs hok hf hl
  have hs : True := trivial
  repeat' first | (with_reducible first | refine q01 ?_ | refine q11 ?_ | refine q17 ?_) | (with_reducible refine At.fn_ret (by simp -dsimp [hs]; exact rfl) ?_) | (refine CallE.here hc ?_; try simp -dsimp [hs]) | (with_reducible refine DT_regionE [0,1,4] ?_; simp -dsimp [hs]) | with_reducible refine And.intro ?_ ?_
  all_goals try simp -dsimp [hs]
  all_goals try clear hs
  simp [fidx_nonneg]
theorem clone_itm (l : List Itm) (hl : l.length < 1000000) (objs : List DObj) : DCall Tryd.prog G 39 [.one (.im (.sl (l.map encItem)))] objs (fun d objs' => d = .one (.im (.sl (l.map encItem))) ∧ objs' = objs) := by
  refine DCall.frame ?_ (by simp) (by simp) objs
  refine DCall_intro Tryd.func39 rfl Tryd.ntmps39 (by simp) rfl ?_
  have hs : True := trivial
  repeat' first | (with_reducible first | refine q01 ?_ | refine q02 ?_ | refine q11 ?_ | refine q14 ?_ | refine q17 ?_ | refine And.intro (by omega) ?_) | (with_reducible refine At.fn_ret (by simp -dsimp [hs]; exact rfl) ?_) | (with_reducible refine DT_regionE [0,2,4] ?_; simp -dsimp [hs]) | (refine DT_cond rfl (fun h => ?_) (fun h => ?_) <;> (try simp only [nrm] at h) <;> (try exact Bool.noConfusion h)) | (with_reducible refine imp_At (fun h => ?_); (try simp only [List.map_eq_nil_iff] at h); (try subst h); try simp -dsimp [hs]) | with_reducible refine And.intro ?_ ?_
  all_goals try simp -dsimp [hs]
  all_goals try clear hs
  all_goals omega
theorem clone_dim (l : List Dim) (hl : l.length < 1000000) (objs : List DObj) : DCall Tryd.prog G 40 [.one (.im (.sl (l.map encDim)))] objs (fun d objs' => d = .one (.im (.sl (l.map encDim))) ∧ objs' = objs) := by
  refine DCall.frame ?_ (by simp) (by simp) objs
  refine DCall_intro Tryd.func40 rfl Tryd.ntmps40 (by simp) rfl ?_
  have hs : True := trivial
  repeat' first | (with_reducible first | refine q01 ?_ | refine q02 ?_ | refine q11 ?_ | refine q14 ?_ | refine q17 ?_ | refine And.intro (by omega) ?_) | (with_reducible refine At.fn_ret (by simp -dsimp [hs]; exact rfl) ?_) | (with_reducible refine DT_regionE [0,2,4] ?_; simp -dsimp [hs]) | (refine DT_cond rfl (fun h => ?_) (fun h => ?_) <;> (try simp only [nrm] at h) <;> (try exact Bool.noConfusion h)) | (with_reducible refine imp_At (fun h => ?_); (try simp only [List.map_eq_nil_iff] at h); (try subst h); try simp -dsimp [hs]) | with_reducible refine And.intro ?_ ?_
  all_goals try simp -dsimp [hs]
  all_goals try clear hs
  all_goals omega
end Go.Proofs
namespace Go.Proofs
open Go Go.Ab
attribute [local simp] dslice setLp
set_option linter.unusedSimpArgs false
variable {G : Nat → Option (List IC)}
theorem in1_note (x lo hi : Int) : DCall Tryd.prog G 60 (iv x :: [DC.ptr 0 0, DC.ptr 1 0].map .one) [.row [.im (rI lo)], .row [.im (rI hi)]] (fun d o => d = bv (decide (x < lo) || decide (hi < x)) ∧ o = [.row [.im (rI lo)], .row [.im (rI hi)]]) := by
  refine DCall_intro Tryd.func60 rfl Tryd.ntmps60 (by simp) rfl ?_
  simp only [rI]
  have hs : True := trivial
  repeat' first | (with_reducible first | refine q01 ?_ | refine q11 ?_ | refine q17 ?_) | (with_reducible refine At.fn_ret (by simp -dsimp [hs]; exact rfl) ?_) | (with_reducible refine DT_regionE [0,1,2,4] ?_; simp -dsimp [hs]) | (with_reducible refine GStop_split ?_ ?_ <;> intro h <;> have h0 := h <;> (try simp only [nrm] at h) <;> (try exact Bool.noConfusion h) <;> have h2 := h <;> (try simp at h2) <;> (replace hs := And.intro h0 (And.intro h (And.intro h2 hs))) <;> simp -dsimp [h0, h, h2, hs]) | with_reducible refine And.intro ?_ ?_
  all_goals try simp -dsimp [hs]
  all_goals try clear hs
  all_goals simp [*]
theorem in_note (lo hi : Int) (l : List Int) (hl : l.length < 1000000) (objs : List DObj) : DCall Tryd.prog G 50 [iv lo, iv hi, isv l] objs (fun rr objs' => rr = bv (l.all fun x => decide (lo ≤ x) && decide (x ≤ hi)) ∧ objs' = objs) := by
  refine DCall.frame ?_ (by simp) (by simp) objs
  refine DCall_intro Tryd.func50 rfl Tryd.ntmps50 (by simp) rfl ?_
  try simp only [iv, iv, isv]
  have hc := containsFunc_int (G := G) l (fun x => decide (x < lo) || decide (hi < x)) 60 [.ptr 0 0, .ptr 1 0] [.row [.im (rI lo)], .row [.im (rI hi)]] (by simp) (fun x _ => in1_note x lo hi) hl
  simp only [rI] at hc
  have hs : True := trivial
  repeat' first | (with_reducible first | refine q01 ?_ | refine q11 ?_ | refine q17 ?_) | (with_reducible refine At.fn_ret (by simp -dsimp [hs]; exact rfl) ?_) | (refine CallE.here hc ?_; try simp -dsimp [hs]) | (with_reducible refine DT_regionE [0,1,2,3,4,6] ?_; simp -dsimp [hs])
  all_goals try simp -dsimp [hs]
  all_goals try clear hs
  rw [Bool.eq_iff_iff]; simp
  exact exists_congr fun x => and_congr_right fun _ => by omega
theorem in1_sheet (x lo hi : Int) : DCall Tryd.prog G 85 (iv x :: [DC.ptr 0 0, DC.ptr 1 0].map .one) [.row [.im (rI lo)], .row [.im (rI hi)]] (fun d o => d = bv (decide (x < lo) || decide (hi < x)) ∧ o = [.row [.im (rI lo)], .row [.im (rI hi)]]) := by
  refine DCall_intro Tryd.func85 rfl Tryd.ntmps85 (by simp) rfl ?_
  simp only [rI]
  have hs : True := trivial
  repeat' first | (with_reducible first | refine q01 ?_ | refine q11 ?_ | refine q17 ?_) | (with_reducible refine At.fn_ret (by simp -dsimp [hs]; exact rfl) ?_) | (with_reducible refine DT_regionE [0,1,2,4] ?_; simp -dsimp [hs]) | (with_reducible refine GStop_split ?_ ?_ <;> intro h <;> have h0 := h <;> (try simp only [nrm] at h) <;> (try exact Bool.noConfusion h) <;> have h2 := h <;> (try simp at h2) <;> (replace hs := And.intro h0 (And.intro h (And.intro h2 hs))) <;> simp -dsimp [h0, h, h2, hs]) | with_reducible refine And.intro ?_ ?_
  all_goals try simp -dsimp [hs]
  all_goals try clear hs
  all_goals simp [*]
theorem in_sheet (lo hi : Int) (l : List Int) (hl : l.length < 1000000) (objs : List DObj) : DCall Tryd.prog G 74 [iv lo, iv hi, isv l] objs (fun rr objs' => rr = bv (l.all fun x => decide (lo ≤ x) && decide (x ≤ hi)) ∧ objs' = objs) := by
  refine DCall.frame ?_ (by simp) (by simp) objs
  refine DCall_intro Tryd.func74 rfl Tryd.ntmps74 (by simp) rfl ?_
  try simp only [iv, iv, isv]
  have hc := containsFunc_int (G := G) l (fun x => decide (x < lo) || decide (hi < x)) 85 [.ptr 0 0, .ptr 1 0] [.row [.im (rI lo)], .row [.im (rI hi)]] (by simp) (fun x _ => in1_sheet x lo hi) hl
  simp only [rI] at hc
  have hs : True := trivial
  repeat' first | (with_reducible first | refine q01 ?_ | refine q11 ?_ | refine q17 ?_) | (with_reducible refine At.fn_ret (by simp -dsimp [hs]; exact rfl) ?_) | (refine CallE.here hc ?_; try simp -dsimp [hs]) | (with_reducible refine DT_regionE [0,1,2,3,4,6] ?_; simp -dsimp [hs])
  all_goals try simp -dsimp [hs]
  all_goals try clear hs
  rw [Bool.eq_iff_iff]; simp
  exact exists_congr fun x => and_congr_right fun _ => by omega
theorem in1_size (x lo hi : Int) : DCall Tryd.prog G 137 (iv x :: [DC.ptr 0 0, DC.ptr 1 0].map .one) [.row [.im (rI lo)], .row [.im (rI hi)]] (fun d o => d = bv (decide (x < lo) || decide (hi < x)) ∧ o = [.row [.im (rI lo)], .row [.im (rI hi)]]) := by
  refine DCall_intro Tryd.func137 rfl Tryd.ntmps137 (by simp) rfl ?_
  simp only [rI]
  have hs : True := trivial
  repeat' first | (with_reducible first | refine q01 ?_ | refine q11 ?_ | refine q17 ?_) | (with_reducible refine At.fn_ret (by simp -dsimp [hs]; exact rfl) ?_) | (with_reducible refine DT_regionE [0,1,2,4] ?_; simp -dsimp [hs]) | (with_reducible refine GStop_split ?_ ?_ <;> intro h <;> have h0 := h <;> (try simp only [nrm] at h) <;> (try exact Bool.noConfusion h) <;> have h2 := h <;> (try simp at h2) <;> (replace hs := And.intro h0 (And.intro h (And.intro h2 hs))) <;> simp -dsimp [h0, h, h2, hs]) | with_reducible refine And.intro ?_ ?_
  all_goals try simp -dsimp [hs]
  all_goals try clear hs
  all_goals simp [*]
theorem in_size (lo hi : Int) (l : List Int) (hl : l.length < 1000000) (objs : List DObj) : DCall Tryd.prog G 136 [iv lo, iv hi, isv l] objs (fun rr objs' => rr = bv (l.all fun x => decide (lo ≤ x) && decide (x ≤ hi)) ∧ objs' = objs) := by
  refine DCall.frame ?_ (by simp) (by simp) objs
  refine DCall_intro Tryd.func136 rfl Tryd.ntmps136 (by simp) rfl ?_
  try simp only [iv, iv, isv]
  have hc := containsFunc_int (G := G) l (fun x => decide (x < lo) || decide (hi < x)) 137 [.ptr 0 0, .ptr 1 0] [.row [.im (rI lo)], .row [.im (rI hi)]] (by simp) (fun x _ => in1_size x lo hi) hl
  simp only [rI] at hc
  have hs : True := trivial
  repeat' first | (with_reducible first | refine q01 ?_ | refine q11 ?_ | refine q17 ?_) | (with_reducible refine At.fn_ret (by simp -dsimp [hs]; exact rfl) ?_) | (refine CallE.here hc ?_; try simp -dsimp [hs]) | (with_reducible refine DT_regionE [0,1,2,3,4,6] ?_; simp -dsimp [hs])
  all_goals try simp -dsimp [hs]
  all_goals try clear hs
  rw [Bool.eq_iff_iff]; simp
  exact exists_congr fun x => and_congr_right fun _ => by omega
def dimOk (d : Dim) : Bool := decide (0 ≤ d.nominal) && decide (d.nominal ≤ 1000000000) && (decide (0 ≤ d.lower) && decide (d.lower ≤ 1000000000)) && (decide (0 ≤ d.upper) && decide (d.upper ≤ 1000000000)) && decide (d.lower ≤ d.upper)
theorem sizeCheck_c (d : Dim) (objs : List DObj) : DCall Tryd.prog G 134 [dimv d] objs (fun rr objs' => rr = iv (if dimOk d then 0 else 10) ∧ objs' = objs) := by
  refine DCall.frame ?_ (by simp) (by simp) objs
  refine DCall_intro Tryd.func134 rfl Tryd.ntmps134 (by simp) rfl ?_
  try simp only [dimv]
  have hc := in_size (G := G) 0 1000000000 [d.nominal, d.lower, d.upper] (by simp)
  have hs : True := trivial
  repeat' first | (with_reducible first | refine q01 ?_ | refine q02 ?_ | refine q11 ?_ | refine q14 ?_ | refine q17 ?_) | (with_reducible refine At.fn_ret (by simp -dsimp [hs]; exact rfl) ?_) | (refine CallE.thaw (hc) ?_ ?_ ?_; (focus (simp; done)); (focus (simp; done)); try simp -dsimp [hs]) | (with_reducible refine DT_regionE [0,1,2,18] ?_; simp -dsimp [hs]) | (refine DT_cond rfl (fun h => ?_) (fun h => ?_) <;> (try simp only [nrm] at h) <;> (try exact Bool.noConfusion h)) | (with_reducible refine GStop_split ?_ ?_ <;> intro h <;> have h0 := h <;> (try simp only [nrm] at h) <;> (try exact Bool.noConfusion h) <;> have h2 := h <;> (try simp at h2) <;> (replace hs := And.intro h0 (And.intro h (And.intro h2 hs))) <;> simp -dsimp [h0, h, h2, hs])
  all_goals try simp -dsimp [hs]
  all_goals try clear hs
  all_goals simp_all [dimOk]
  all_goals omega
def refI (x : Issue) : DV := refv x.drawing x.letter
attribute [simp] refI
theorem sheetName_c (x : Issue) (objs : List DObj) : DCall Tryd.prog G 127 [issv x] objs (fun rr objs' => rr = refI x ∧ objs' = objs) := by
  refine DCall.frame ?_ (by simp) (by simp) objs
  refine DCall_intro Tryd.func127 rfl Tryd.ntmps127 (by simp) rfl ?_
  try simp only [issv]
  have hs : True := trivial
  repeat' first | (with_reducible first | refine q01 ?_ | refine q11 ?_ | refine q17 ?_) | (with_reducible refine At.fn_ret (by simp -dsimp [hs]; exact rfl) ?_) | (with_reducible refine DT_regionE [0,1,2] ?_; simp -dsimp [hs])
  all_goals try simp -dsimp [hs]
  all_goals try clear hs
theorem copied_c (x : Issue) (hi : x.items.length ≤ 16) (hd : x.dims.length ≤ 8) (objs : List DObj) : DCall Tryd.prog G 126 [issv x] objs (fun rr objs' => rr = issv x ∧ objs' = objs) := by
  refine DCall.frame ?_ (by simp) (by simp) objs
  refine DCall_intro Tryd.func126 rfl Tryd.ntmps126 (by simp) rfl ?_
  try simp only [issv]
  have h1 := clone_itm (G := G) x.items (by omega)
  have h2 := clone_dim (G := G) x.dims (by omega)
  have hs : True := trivial
  repeat' first | (with_reducible first | refine q01 ?_ | refine q11 ?_ | refine q17 ?_) | (with_reducible refine At.fn_ret (by simp -dsimp [hs]; exact rfl) ?_) | (refine QCall_pure (h1) ?_; try simp -dsimp [hs]) | (refine QCall_pure (h2) ?_; try simp -dsimp [hs]) | (refine DT_regionM (id := 1) (nt := 12) 7 [0,1,2] mixed rfl (by kernel_rfl) ?_; simp -dsimp [hs]) | (with_reducible refine DT_regionE [0,1,2] ?_; simp -dsimp [hs])
  all_goals try simp -dsimp [hs]
  all_goals try clear hs
def ck1 (x : Issue) : Bool := (decide (1 ≤ x.drawing) && decide (x.drawing ≤ 9999)) && (decide (1 ≤ x.letter) && decide (x.letter ≤ 8))
theorem ck1_c (x : Issue) (objs : List DObj) : DCall Tryd.prog G 128 [issv x] objs (fun rr objs' => rr = bv (ck1 x) ∧ objs' = objs) := by
  refine DCall.frame ?_ (by simp) (by simp) objs
  refine DCall_intro Tryd.func128 rfl Tryd.ntmps128 (by simp) rfl ?_
  try simp only [issv]
  have c1 := in_sheet (G := G) 1 9999 [x.drawing] (by simp)
  have c2 := in_sheet (G := G) 1 8 [x.letter] (by simp)
  have hs : True := trivial
  repeat' first | (with_reducible first | refine q01 ?_ | refine q11 ?_ | refine q17 ?_) | (with_reducible refine At.fn_ret (by simp -dsimp [hs]; exact rfl) ?_) | (refine CallE.thaw (c1) ?_ ?_ ?_; (focus (simp; done)); (focus (simp; done)); try simp -dsimp [hs]) | (refine CallE.thaw (c2) ?_ ?_ ?_; (focus (simp; done)); (focus (simp; done)); try simp -dsimp [hs]) | (with_reducible refine DT_regionE [0,1,2] ?_; simp -dsimp [hs]) | (with_reducible refine GStop_split ?_ ?_ <;> intro h <;> have h0 := h <;> (try simp only [nrm] at h) <;> (try exact Bool.noConfusion h) <;> have h2 := h <;> (try simp at h2) <;> (replace hs := And.intro h0 (And.intro h (And.intro h2 hs))) <;> simp -dsimp [h0, h, h2, hs])
  all_goals try simp -dsimp [hs]
  all_goals try clear hs
  all_goals simp_all [ck1]
  all_goals omega
def ck2 (x : Issue) : Bool := if x.kind = 1 then (decide (1 ≤ x.items.length) && decide (x.items.length ≤ 8)) && decide (x.dims.length = 0) else (decide (2 ≤ x.kind) && decide (x.kind ≤ 3)) && decide (x.dims.length ≤ 4) && decide (x.items.length = 0)
theorem ck2_c (x : Issue) (hk : 0 ≤ x.kind ∧ x.kind ≤ 255) (objs : List DObj) : DCall Tryd.prog G 129 [issv x] objs (fun rr objs' => rr = bv (ck2 x) ∧ objs' = objs) := by
  refine DCall.frame ?_ (by simp) (by simp) objs
  refine DCall_intro Tryd.func129 rfl Tryd.ntmps129 (by simp) rfl ?_
  try simp only [issv]
  have c1 := in_sheet (G := G) 1 8 [(x.items.length : Int)] (by simp)
  have c2 := in_sheet (G := G) 2 3 [x.kind] (by simp)
  have hw : IntKind.i64.wrap x.kind = x.kind := i64w (by omega) (by omega)
  have hs : True := trivial
  repeat' first | (with_reducible first | refine q01 ?_ | refine q02 ?_ | refine q11 ?_ | refine q14 ?_ | refine q17 ?_) | (with_reducible refine At.fn_ret (by simp -dsimp [hw, hs]; exact rfl) ?_) | (refine CallE.thaw (c1) ?_ ?_ ?_; (focus (simp; done)); (focus (simp; done)); try simp -dsimp [hw, hs]) | (refine CallE.thaw (c2) ?_ ?_ ?_; (focus (simp; done)); (focus (simp; done)); try simp -dsimp [hw, hs]) | (with_reducible refine DT_regionE [0,1,2,5] ?_; simp -dsimp [hw, hs]) | (refine DT_cond rfl (fun h => ?_) (fun h => ?_) <;> (try simp only [nrm] at h) <;> (try exact Bool.noConfusion h)) | (with_reducible refine GStop_split ?_ ?_ <;> intro h <;> have h0 := h <;> (try simp only [nrm] at h) <;> (try exact Bool.noConfusion h) <;> have h2 := h <;> (try simp at h2) <;> (replace hs := And.intro h0 (And.intro h (And.intro h2 hs))) <;> simp -dsimp [h0, h, h2, hw, hs])
  all_goals try simp -dsimp [hw, hs]
  all_goals try clear hs
  all_goals simp_all [ck2]
  all_goals omega
theorem ck41_c (d : Dim) (objs : List DObj) : DCall Tryd.prog G 133 [dimv d] objs (fun rr objs' => rr = bv (!dimOk d) ∧ objs' = objs) := by
  refine DCall.frame ?_ (by simp) (by simp) objs
  refine DCall_intro Tryd.func133 rfl Tryd.ntmps133 (by simp) rfl ?_
  try simp only [dimv]
  have h1 := sizeCheck_c (G := G) d
  cases hd : dimOk d <;> simp only [hd] at h1
  · have hs : True := trivial
    repeat' first | (with_reducible first | refine q01 ?_ | refine q11 ?_ | refine q17 ?_) | (with_reducible refine At.fn_ret (by simp -dsimp [hs]; exact rfl) ?_) | (refine CallE.pure (h1) ?_; try simp -dsimp [hs]) | (with_reducible refine DT_regionE [0,1,2] ?_; simp -dsimp [hs])
    all_goals try simp -dsimp [hs]
    all_goals try clear hs
  · have hs : True := trivial
    repeat' first | (with_reducible first | refine q01 ?_ | refine q11 ?_ | refine q17 ?_) | (with_reducible refine At.fn_ret (by simp -dsimp [hs]; exact rfl) ?_) | (refine CallE.pure (h1) ?_; try simp -dsimp [hs]) | (with_reducible refine DT_regionE [0,1,2] ?_; simp -dsimp [hs])
    all_goals try simp -dsimp [hs]
    all_goals try clear hs
theorem ck4_c (x : Issue) (hl : x.dims.length < 1000000) (objs : List DObj) : DCall Tryd.prog G 131 [issv x] objs (fun rr objs' => rr = bv (x.dims.all dimOk) ∧ objs' = objs) := by
  refine DCall.frame ?_ (by simp) (by simp) objs
  refine DCall_intro Tryd.func131 rfl Tryd.ntmps131 (by simp) rfl ?_
  try simp only [issv]
  have c1 := fun objs => DCall.fnArg2 (cs := []) (containsFunc_dim (G := G) x.dims (fun d => !dimOk d) 133 [] objs (by simp) (fun d _ => ck41_c d objs) hl)
  have hs : True := trivial
  repeat' first | (with_reducible first | refine q01 ?_ | refine q11 ?_ | refine q17 ?_) | (with_reducible refine At.fn_ret (by simp -dsimp [hs]; exact rfl) ?_) | (refine CallE.pure (c1) ?_; try simp -dsimp [hs]) | (with_reducible refine DT_regionE [0,1,2] ?_; simp -dsimp [hs])
  all_goals try simp -dsimp [hs]
  all_goals try clear hs
  rw [Bool.eq_iff_iff]; simp
end Go.Proofs
namespace Go.Proofs
open Go Go.Ab
attribute [local simp] dslice setLp
set_option linter.unusedSimpArgs false
variable {G : Nat → Option (List IC)}
theorem isNaN1_c (x : Int) (objs : List DObj) : DCall Tryd.prog G 84 [iv x] objs (fun rr objs' => rr = bv false ∧ objs' = objs) := by
  refine DCall.frame ?_ (by simp) (by simp) objs
  refine DCall_intro Tryd.func84 rfl Tryd.ntmps84 (by simp) rfl ?_
  try simp only [iv]
  have hs : True := trivial
  repeat' first | (with_reducible first | refine q01 ?_ | refine q11 ?_ | refine q17 ?_) | (with_reducible refine At.fn_ret (by simp -dsimp [hs]; exact rfl) ?_) | (with_reducible refine DT_regionE [0,2] ?_; simp -dsimp [hs])
  all_goals try simp -dsimp [hs]
  all_goals try clear hs
theorem isNaN2_c (x : Int) (objs : List DObj) : DCall Tryd.prog G 90 [iv x] objs (fun rr objs' => rr = bv false ∧ objs' = objs) := by
  refine DCall.frame ?_ (by simp) (by simp) objs
  refine DCall_intro Tryd.func90 rfl Tryd.ntmps90 (by simp) rfl ?_
  try simp only [iv]
  have hs : True := trivial
  repeat' first | (with_reducible first | refine q01 ?_ | refine q11 ?_ | refine q17 ?_) | (with_reducible refine At.fn_ret (by simp -dsimp [hs]; exact rfl) ?_) | (with_reducible refine DT_regionE [0,2] ?_; simp -dsimp [hs])
  all_goals try simp -dsimp [hs]
  all_goals try clear hs
theorem less_c (x y : Int) (objs : List DObj) : DCall Tryd.prog G 68 [iv x, iv y] objs (fun rr objs' => rr = bv (decide (x < y)) ∧ objs' = objs) := by
  refine DCall.frame ?_ (by simp) (by simp) objs
  refine DCall_intro Tryd.func68 rfl Tryd.ntmps68 (by simp) rfl ?_
  try simp only [iv, iv]
  have c1 := isNaN1_c (G := G) x
  have c2 := isNaN1_c (G := G) y
  have hs : True := trivial
  repeat' first | (with_reducible first | refine q01 ?_ | refine q11 ?_ | refine q17 ?_) | (with_reducible refine At.fn_ret (by simp -dsimp [hs]; exact rfl) ?_) | (refine CallE.pure (c1) ?_; try simp -dsimp [hs]) | (with_reducible refine DT_regionE [0,1,4] ?_; simp -dsimp [hs])
  all_goals try simp -dsimp [hs]
  all_goals try clear hs
  all_goals simp_all
def cmpI (x y : Int) : Int := if x < y then -1 else if y < x then 1 else 0
theorem compare_c (x y : Int) (objs : List DObj) : DCall Tryd.prog G 94 [iv x, iv y] objs (fun rr objs' => rr = iv (cmpI x y) ∧ objs' = objs) := by
  refine DCall.frame ?_ (by simp) (by simp) objs
  refine DCall_intro Tryd.func94 rfl Tryd.ntmps94 (by simp) rfl ?_
  try simp only [iv, iv]
  have c1 := isNaN1_c (G := G) x
  have c2 := isNaN1_c (G := G) y
  have hs : True := trivial
  repeat' first | (with_reducible first | refine q01 ?_ | refine q02 ?_ | refine q11 ?_ | refine q14 ?_ | refine q17 ?_) | (with_reducible refine At.fn_ret (by simp -dsimp [hs]; exact rfl) ?_) | (refine CallE.pure (c1) ?_; try simp -dsimp [hs]) | (refine CallE.pure (c2) ?_; try simp -dsimp [hs]) | (with_reducible refine DT_regionE [0,1,4,5,6,11,12,13,16,19] ?_; simp -dsimp [hs]) | (refine DT_cond rfl (fun h => ?_) (fun h => ?_) <;> (try simp only [nrm] at h) <;> (try exact Bool.noConfusion h))
  all_goals try simp -dsimp [hs]
  all_goals try clear hs
  all_goals simp_all [cmpI]
  all_goals omega
theorem cmpIssue_c (x : Issue) (n : Int) (objs : List DObj) : DCall Tryd.prog G 93 [issv x, iv n] objs (fun rr objs' => rr = iv (cmpI x.drawing n) ∧ objs' = objs) := by
  refine DCall.frame ?_ (by simp) (by simp) objs
  refine DCall_intro Tryd.func93 rfl Tryd.ntmps93 (by simp) rfl ?_
  try simp only [issv, iv]
  have c1 := compare_c (G := G) x.drawing n
  have hs : True := trivial
  repeat' first | (with_reducible first | refine q01 ?_ | refine q11 ?_ | refine q17 ?_) | (with_reducible refine At.fn_ret (by simp -dsimp [hs]; exact rfl) ?_) | (refine CallE.pure (c1) ?_; try simp -dsimp [hs]) | (with_reducible refine DT_regionE [0,1,2,4] ?_; simp -dsimp [hs])
  all_goals try simp -dsimp [hs]
  all_goals try clear hs
end Go.Proofs
namespace Go.Proofs
open Go Go.Ab
attribute [local simp] dslice setLp
set_option linter.unusedSimpArgs false
variable {G : Nat → Option (List IC)}
def itemsOk (d : Int) : Int → List Itm → Bool
  | _, [] => true
  | prev, y :: r => (decide (1 ≤ y.drawing) && decide (y.drawing ≤ 9999)) && (decide (1 ≤ y.count) && decide (y.count ≤ 20)) && !decide (y.drawing = d) && decide (prev < y.drawing) && itemsOk d y.drawing r
def pv (l : List Itm) : Nat → Int
  | 0 => 0
  | k + 1 => ((l[k]?).map (·.drawing)).getD 0
theorem ck3_c (x : Issue) (hl : x.items.length < 1000000) (objs : List DObj) : DCall Tryd.prog G 130 [issv x] objs (fun rr objs' => rr = bv (itemsOk x.drawing 0 x.items) ∧ objs' = objs) := by
  refine DCall.frame ?_ (by simp) (by simp) objs
  refine DCall_intro Tryd.func130 rfl Tryd.ntmps130 (by simp) rfl ?_
  try simp only [issv]
  have hs : True := trivial
  repeat' first | (with_reducible first | refine q01 ?_ | refine q11 ?_ | refine q12 ?_) | (with_reducible refine DT_regionE [0,1,2,3,4,6,7,8,9,47] ?_; simp -dsimp [hs])
  all_goals try simp -dsimp [hs]
  all_goals try clear hs
  refine DT_loop (ι := { k : Nat // k ≤ x.items.length ∧ itemsOk x.drawing 0 x.items = itemsOk x.drawing (pv x.items k) (x.items.drop k) }) (fun p => ⟨49, [(1, .one (.ptr 0 0)), (6, .one (.im (.sl (x.items.map encItem)))), (7, iv (x.items.length : Int)), (8, iv (p.1 : Int))], [.row ((encIssue x).map .im)]⟩) (fun p => x.items.length - p.1) ⟨0, by simp [pv]⟩ (Weak.of_keep [1,6,7,8] (by simp)) ?_
  rintro ⟨k, hk, hno⟩
  simp only [iv, encIssue, rI, List.map_cons, List.map_nil]
  by_cases hlt : k < x.items.length
  · have hx : x.items[k]? = some x.items[k] := by simp [hlt]
    have hw : IntKind.i64.wrap ((k : Int) + 1) = ((k + 1 : Nat) : Int) := i64w (by omega) (by omega)
    have hw2 : IntKind.i64.wrap ((k : Int) - 1) = (k : Int) - 1 := i64w (by omega) (by omega)
    have c1 := in_sheet (G := G) 1 9999 [x.items[k].drawing] (by simp)
    have c2 := in_sheet (G := G) 1 20 [x.items[k].count] (by simp)
    have hcons : itemsOk x.drawing 0 x.items = ((decide (1 ≤ x.items[k].drawing) && decide (x.items[k].drawing ≤ 9999)) && (decide (1 ≤ x.items[k].count) && decide (x.items[k].count ≤ 20)) && !decide (x.items[k].drawing = x.drawing) && decide (pv x.items k < x.items[k].drawing) && itemsOk x.drawing x.items[k].drawing (x.items.drop (k + 1))) := by
      rw [hno, List.drop_eq_getElem_cons hlt, itemsOk]
    have hpv1 : pv x.items (k + 1) = x.items[k].drawing := by simp [pv, hx]
    by_cases hk0 : 0 < k
    · have hkx : x.items[k - 1]? = some x.items[k - 1] := by simp
      have hcast : (k : Int) - 1 = ((k - 1 : Nat) : Int) := by omega
      have hw3 : IntKind.i64.wrap ((k : Int) - 1) = ((k - 1 : Nat) : Int) := by rw [hw2, hcast]
      have hpv0 : pv x.items k = x.items[k - 1].drawing := by
        obtain ⟨j, rfl⟩ : ∃ j, k = j + 1 := ⟨k - 1, by omega⟩
        have : x.items[j]? = some x.items[j] := by simp
        simp [pv, this]
      rw [hpv0] at hcons
      have hs : True := trivial
      repeat' first | (with_reducible first | refine q01 ?_ | refine q02 ?_ | refine q03 ?_ | refine q04 ?_ | refine q05 ?_ | refine q06 ?_ | refine q11 ?_ | refine q12 ?_ | refine q14 ?_ | refine q16 ?_ | refine q17 ?_) | (with_reducible refine At.fn_ret (by simp -dsimp [hx, hw, hw3, hkx, hk0, hs]; exact rfl) ?_) | (refine QCall_pure (c1) ?_; try simp -dsimp [hx, hw, hw3, hkx, hk0, hs]) | (refine QCall_pure (c2) ?_; try simp -dsimp [hx, hw, hw3, hkx, hk0, hs]) | (refine DT_regionM (id := 4) (nt := 49) 35 [0,1,2,3,4,6,7,8,9,47] mixed rfl (by kernel_rfl) ?_; simp -dsimp [hx, hw, hw3, hkx, hk0, hs]) | (with_reducible refine DT_regionE [0,1,2,3,4,6,7,8,9,47] ?_; simp -dsimp [hx, hw, hw3, hkx, hk0, hs]) | (refine DT_cond rfl (fun h => ?_) (fun h => ?_) <;> (try simp only [nrm] at h) <;> (try exact Bool.noConfusion h)) | (with_reducible refine GStop_split ?_ ?_ <;> intro h <;> have h0 := h <;> (try simp only [nrm] at h) <;> (try exact Bool.noConfusion h) <;> have h2 := h <;> (try simp at h2) <;> (replace hs := And.intro h0 (And.intro h (And.intro h2 hs))) <;> simp -dsimp [h0, h, h2, hx, hw, hw3, hkx, hk0, hs])
      all_goals try simp -dsimp [hx, hw, hw3, hkx, hk0, hs]
      all_goals try clear hs
      all_goals try omega
      all_goals first
        | (refine At.round ⟨k + 1, by omega, by clear hno; rw [hcons, hpv1]; clear hcons; simp_all; try omega⟩ (by simp; omega) (Weak.of_drop [1,6,7,8] 1 (by simp) (by simp) (by simp)))
        | (clear hno; rw [hcons]; clear hcons; simp_all; try omega)
    · have hpv0 : pv x.items k = 0 := by
        obtain rfl : k = 0 := by omega
        rfl
      rw [hpv0] at hcons
      have hs : True := trivial
      repeat' first | (with_reducible first | refine q01 ?_ | refine q02 ?_ | refine q03 ?_ | refine q04 ?_ | refine q05 ?_ | refine q06 ?_ | refine q11 ?_ | refine q12 ?_ | refine q14 ?_ | refine q16 ?_ | refine q17 ?_) | (with_reducible refine At.fn_ret (by simp -dsimp [hx, hw, hk0, hs]; exact rfl) ?_) | (refine QCall_pure (c1) ?_; try simp -dsimp [hx, hw, hk0, hs]) | (refine QCall_pure (c2) ?_; try simp -dsimp [hx, hw, hk0, hs]) | (refine DT_regionM (id := 4) (nt := 49) 35 [0,1,2,3,4,6,7,8,9,47] mixed rfl (by kernel_rfl) ?_; simp -dsimp [hx, hw, hk0, hs]) | (with_reducible refine DT_regionE [0,1,2,3,4,6,7,8,9,47] ?_; simp -dsimp [hx, hw, hk0, hs]) | (refine DT_cond rfl (fun h => ?_) (fun h => ?_) <;> (try simp only [nrm] at h) <;> (try exact Bool.noConfusion h)) | (with_reducible refine GStop_split ?_ ?_ <;> intro h <;> have h0 := h <;> (try simp only [nrm] at h) <;> (try exact Bool.noConfusion h) <;> have h2 := h <;> (try simp at h2) <;> (replace hs := And.intro h0 (And.intro h (And.intro h2 hs))) <;> simp -dsimp [h0, h, h2, hx, hw, hk0, hs])
      all_goals try simp -dsimp [hx, hw, hk0, hs]
      all_goals try clear hs
      all_goals try omega
      all_goals first
        | (refine At.round ⟨k + 1, by omega, by clear hno; rw [hcons, hpv1]; clear hcons; simp_all; try omega⟩ (by simp; omega) (Weak.of_drop [1,6,7,8] 1 (by simp) (by simp) (by simp)))
        | (clear hno; rw [hcons]; clear hcons; simp_all; try omega)
  · have hs : True := trivial
    repeat' first | (with_reducible first | refine q01 ?_ | refine q03 ?_ | refine q06 ?_ | refine q11 ?_ | refine q12 ?_ | refine q14 ?_ | refine q16 ?_ | refine q17 ?_) | (with_reducible refine At.fn_ret (by simp -dsimp [hs]; exact rfl) ?_) | (with_reducible refine DT_regionE [0,1,2,3,4,6,7,8,9,47] ?_; simp -dsimp [hs]) | (refine DT_cond rfl (fun h => ?_) (fun h => ?_) <;> (try simp only [nrm] at h) <;> (try exact Bool.noConfusion h))
    all_goals try simp -dsimp [hs]
    all_goals try clear hs
    all_goals try omega
    rw [hno, List.drop_eq_nil_of_le (by omega)]; rfl
end Go.Proofs
