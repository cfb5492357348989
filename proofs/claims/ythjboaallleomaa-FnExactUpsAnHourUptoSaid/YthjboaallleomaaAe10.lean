/-
  The abstract evaluator, part 10: contracts with a plain result; states as lists; what is not looked into.
-/
import Derived.Test.YthjboaallleomaaAe9
namespace Go.Proofs.Ythjboaallleomaa
open Go.RowKit

section
variable {P : Program} {G : Env}

/-- The plain value that an abstract one is. -/
def AV.toV : AV → Option Value
  | .v x => some x
  | _ => none
def AV.toVs : List AV → Option (List Value)
  | [] => some []
  | c :: cs => match c.toV, AV.toVs cs with
    | some x, some xs => some (x :: xs)
    | _, _ => none
def AV.toC : AV → Option Value
  | .agg cs => match AV.toVs cs with
    | some xs => some (.agg xs.toArray)
    | none => none
  | c => c.toV
def AV.toCs : List AV → Option (List Value)
  | [] => some []
  | c :: cs => match c.toC, AV.toCs cs with
    | some x, some xs => some (x :: xs)
    | _, _ => none
def AV.toVal : AV → Option Value
  | .tup cs => match AV.toCs cs with
    | some xs => some (.tuple xs.toArray)
    | none => none
  | c => c.toC
theorem toV_inv {c : AV} {y : Value} (h : c.toV = some y) {w S V N x} (hr : R w S V N c x) : x = y := by
  cases c <;> simp [AV.toV] at h
  subst h; exact hr.v_inv
theorem toVs_inv {w S V N} : ∀ {cs : List AV} {ys : List Value}, AV.toVs cs = some ys → ∀ {vs : List Value}, vs.length = cs.length → (∀ (i : Nat) (c : AV) (x : Value), cs[i]? = some c → vs[i]? = some x → R w S V N c x) → vs = ys
  | [], ys, h, [], _, _ => by simp [AV.toVs] at h; exact h.symm
  | c :: cs, ys, h, v :: vs, hl, hr => by
    unfold AV.toVs at h
    split at h
    · rename_i x xs h1 h2
      cases h
      rw [toV_inv h1 (hr 0 c v rfl rfl), toVs_inv h2 (vs := vs) (by simpa using hl) fun i c x e1 e2 => hr (i + 1) c x (by simpa using e1) (by simpa using e2)]
    · cases h
  | [], _, _, _ :: _, hl, _ => by simp at hl
  | _ :: _, _, _, [], hl, _ => by simp at hl
theorem toC_inv {c : AV} {y : Value} (h : c.toC = some y) {w S V N x} (hr : R w S V N c x) : x = y := by
  unfold AV.toC at h
  split at h
  · rename_i cs
    split at h
    · rename_i xs h1
      cases h
      obtain ⟨vs, rfl, hl, hh⟩ := hr.agg_inv
      have := toVs_inv h1 (vs := vs.toList) (by simpa using hl) (fun i c x e1 e2 => hh i c x e1 (by simpa using e2))
      rw [← this]
    · cases h
  · exact toV_inv h hr
theorem toCs_inv {w S V N} : ∀ {cs : List AV} {ys : List Value}, AV.toCs cs = some ys → ∀ {vs : List Value}, vs.length = cs.length → (∀ (i : Nat) (c : AV) (x : Value), cs[i]? = some c → vs[i]? = some x → R w S V N c x) → vs = ys
  | [], ys, h, [], _, _ => by simp [AV.toCs] at h; exact h.symm
  | c :: cs, ys, h, v :: vs, hl, hr => by
    unfold AV.toCs at h
    split at h
    · rename_i x xs h1 h2
      cases h
      rw [toC_inv h1 (hr 0 c v rfl rfl), toCs_inv h2 (vs := vs) (by simpa using hl) fun i c x e1 e2 => hr (i + 1) c x (by simpa using e1) (by simpa using e2)]
    · cases h
  | [], _, _, _ :: _, hl, _ => by simp at hl
  | _ :: _, _, _, [], hl, _ => by simp at hl
theorem toVal_inv {c : AV} {y : Value} (h : c.toVal = some y) {w S V N x} (hr : R w S V N c x) : x = y := by
  unfold AV.toVal at h
  split at h
  · rename_i cs
    split at h
    · rename_i xs h1
      cases h
      obtain ⟨vs, rfl, hl, hh⟩ := hr.tup_inv
      have := toCs_inv h1 (vs := vs.toList) (by simpa using hl) (fun i c x e1 e2 => hh i c x e1 (by simpa using e2))
      rw [← this]
    · cases h
  · exact toC_inv h hr

/-- What a body ends with: one plain value. -/
def IsV (r : AV) (x : Value) : Prop := r.toVal = some x
theorem IsV.of {r : AV} {x : Value} (h : r.toVal = some x) : IsV r x := h
theorem IsV.eq {r : AV} {x y : Value} (h : r.toVal = some y) (e : y = x) : IsV r x := by rw [← e]; exact h
theorem IsV.mk {x y : Value} (h : x = y) : IsV (.v x) y := by rw [h]; rfl
theorem IsV.bool {b c : Bool} (h : b = c) : IsV (.v (.bool b)) (.bool c) := by rw [h]; rfl
theorem IsV.int {k : IntKind} {b c : Int} (h : b = c) : IsV (.v (.int k b)) (.int k c) := by rw [h]; rfl
def retV (T : Nat → Option TI) (rs : List ResultVar) (x : Value) (e : Exit) (st : St) : Prop :=
  match e with
  | .normal => evRes T st rs fun r => IsV r x
  | .ret => evRes T st rs fun r => IsV r x
  | _ => False

/-- From a body to a contract: whatever the call has laid for itself is forgotten. -/
theorem spec_v (hG : EnvOk P G) {f : FuncId} {fn : Func} {c : Code} {args : List AV} {x : Value} (hf : P.funcs[f]? = some fn) (hb : fn.body = some c) (hok : okCode fn.ntmps c = true) (hn : Nat.ble args.length fn.ntmps = true)
    (he : evC P G fn.ntmps 0 c ⟨argS 0 args, []⟩ (retV G.T fn.results.toList x)) : Spec P f args [] fun c h => c = .v x ∧ h = [] := by
  have h1 : Spec P f args [] fun c _ => IsV c x := by
    refine spec_intro hG hf hb hok (Nat.le_of_ble_eq_true hn) ?_
    have : (retV G.T fn.results.toList x) = fun e st => match e with | .normal => evRes G.T st fn.results.toList fun r => IsV r x | .ret => evRes G.T st fn.results.toList fun r => IsV r x | _ => False := by
      funext e st; cases e <;> rfl
    rw [this] at he
    exact he
  intro w V S0 vs hhr hsz hargs
  refine (h1 w V S0 vs hhr hsz hargs).mono ?_
  rintro e w' ⟨c, y, V', h', rfl, hv, hk, _, hV, _, hr⟩
  have hnil : ∀ (id : Nat) (lb : LB), ([] : List (Option LB))[id]? = some (some lb) → False := fun id lb e => by simp at e
  exact ⟨.v x, y, V', [], rfl, ⟨rfl, rfl⟩, hk, Nat.le_refl _, hV, ⟨fun i j li lj e => (hnil _ _ e).elim, fun id lb e => (hnil _ _ e).elim, fun id lb e => (hnil _ _ e).elim⟩, by rw [toVal_inv hv hr]; exact .imm _ _ (.v x)⟩

/-- Slots, as a list: what is not listed is not known. -/
def sl : List (Nat × AV) → Nat → AV
  | [] => fun _ => .any
  | (d, c) :: l => upd (sl l) d c
def selSL (σ : List Nat) (s' : Nat → AV) : List (Nat × AV) → Prop
  | [] => True
  | (d, c) :: l => selOk σ (s' d) c ∧ selSL σ s' l
theorem selSL_S {σ : List Nat} {s' : Nat → AV} : ∀ {l : List (Nat × AV)}, selSL σ s' l → selS σ s' (sl l)
  | [], _ => selS_any σ s'
  | (_, _) :: _, h => selS_upd h.1 (selSL_S h.2)
theorem sub_sl {m : Nat} {st : St} {l : List (Nat × AV)} {h : List (Option LB)} (σ : List Nat) (hnd : σ.Nodup) (hm : m ≤ σ.length) (hfix : ∀ i, i < m → σ.getD i 0 = i) (hs : selSL σ st.s l) (hh : selH σ st.h σ h) : Sub m st ⟨sl l, h⟩ :=
  sub_sel σ hnd hm hfix (selSL_S hs) hh
/-- With no heap at all. -/
theorem sub_sl0 {st : St} {l : List (Nat × AV)} (hs : selSL [] st.s l) : Sub 0 st ⟨sl l, []⟩ :=
  sub_sl [] List.nodup_nil (Nat.le_refl _) (fun i h => by omega) hs trivial

theorem obInt {k : IntKind} {a b : Int} (h : a = b) : Ob (AV.v (.int k a) = AV.v (.int k b)) := by rw [h]; exact Ob.mk rfl
theorem obStr {a b : ByteArray} (h : a = b) : Ob (AV.v (.string a) = AV.v (.string b)) := by rw [h]; exact Ob.mk rfl
theorem wrapI {x : Int} (h1 : -9223372036854775808 ≤ x) (h2 : x ≤ 9223372036854775807) : IntKind.i64.wrap x = x := by
  rw [IntKind.wrap_i64]; omega
theorem maxLen_le : maxLen ≤ 9223372036854775807 := by decide
/-- Round again: what the evaluator stops at. -/
def Again {α : Type} (m : Nat) (F : α → St) (I : α → Prop) (μ : α → Nat) (x : α) (st : St) : Prop := ∃ y, I y ∧ μ y < μ x ∧ Sub m st (F y)
theorem Again.mk {α : Type} {m : Nat} {F : α → St} {I : α → Prop} {μ : α → Nat} {x : α} {st : St} (y : α) (hI : I y) (hμ : μ y < μ x) (hs : Sub m st (F y)) : Again m F I μ x st := ⟨y, hI, hμ, hs⟩
theorem loop_law (hG : EnvOk P G) {n m : Nat} {body : Code} {st : St} {Q : Exit → St → Prop} (hok : okCode n body = true) {α : Type} (F : α → St) (I : α → Prop) (μ : α → Nat) (x0 : α) (h0 : I x0) (hs : Sub m st (F x0))
    (hround : ∀ x, I x → evC P G n m body (F x) (seqQ (Again m F I μ x) Q)) : loopwp P n m body st Q :=
  loop_rule hG hok F I μ x0 h0 hs hround
/-- What a body leaves behind, as far as it is told: the result and the blocks that it needs, under new names. -/
theorem Spec.sel {f : FuncId} {args : List AV} {Q0 Q : AV → List (Option LB) → Prop} (hs : Spec P f args [] Q0)
    (hQ : ∀ c h, Q0 c h → ∃ (c0 : AV) (h0 : List (Option LB)) (σ : List Nat), σ.Nodup ∧ selOk σ c c0 ∧ selH σ h σ h0 ∧ Q c0 h0) : Spec P f args [] Q := by
  intro w V S0 vs hhr hsz hargs
  refine (hs w V S0 vs hhr hsz hargs).mono ?_
  rintro e w' ⟨c, x, V', h', rfl, hq, hk, _, _, hr', hres⟩
  obtain ⟨c0, h0, σ, hnd, hc, hh, hq0⟩ := hQ c h' hq
  let C : Ctx := ⟨1, w, blkOf [] V, V', 0, fun b => S0 b ∨ w.heap.size ≤ b, fun b hb => .inr hb⟩
  have hsr : SRV C V' ⟨upd (fun _ => .any) 0 c, h'⟩ { tmps := #[x], defers := [] } w' := by
    refine ⟨rfl, rfl, hk, Nat.zero_le _, fun i hi => absurd hi (Nat.not_lt_zero _), hr', fun t => ?_⟩
    unfold upd
    by_cases ht : t = 0
    · subst ht; exact hres
    · simp only [ht, if_false]; exact .imm _ _ (.any _)
  obtain ⟨V2, h2⟩ := sub_sel (m := 0) (st' := ⟨upd (fun _ => .any) 0 c0, h0⟩) σ hnd (Nat.zero_le _) (fun i h => absurd h (Nat.not_lt_zero _)) (selS_upd hc (selS_any σ _)) hh C rfl V' _ w' hsr
  exact ⟨c0, x, V2, h0, rfl, hq0, hk, Nat.zero_le _, fun i hi => absurd hi (Nat.not_lt_zero _), h2.hr, h2.slots 0⟩
/-- The result is one of the call's own arrays, and nothing else is told. -/
def retE (T : Nat → Option TI) (rs : List ResultVar) (Q : AV → List (Option LB) → Prop) (e : Exit) (st : St) : Prop :=
  match e with
  | .normal => evRes T st rs fun r => Q r st.h
  | .ret => evRes T st rs fun r => Q r st.h
  | _ => False
/-- What is left behind. -/
def Leaves (c : AV) (h : List (Option LB)) (Q : AV → List (Option LB) → Prop) : Prop := ∃ (c0 : AV) (h0 : List (Option LB)) (σ : List Nat), σ.Nodup ∧ selOk σ c c0 ∧ selH σ h σ h0 ∧ Q c0 h0
theorem Leaves.mk {c : AV} {h : List (Option LB)} {Q : AV → List (Option LB) → Prop} (c0 : AV) (h0 : List (Option LB)) (σ : List Nat) (hq : Q c0 h0) (hnd : σ.Nodup) (hc : selOk σ c c0) (hh : selH σ h σ h0) : Leaves c h Q := ⟨c0, h0, σ, hnd, hc, hh, hq⟩
theorem spec_e (hG : EnvOk P G) {f : FuncId} {fn : Func} {c : Code} {args : List AV} {Q : AV → List (Option LB) → Prop} (hf : P.funcs[f]? = some fn) (hb : fn.body = some c) (hok : okCode fn.ntmps c = true) (hn : Nat.ble args.length fn.ntmps = true)
    (he : evC P G fn.ntmps 0 c ⟨argS 0 args, []⟩ (retE G.T fn.results.toList fun c h => Leaves c h Q)) : Spec P f args [] Q := by
  refine Spec.sel (Q0 := fun c h => Leaves c h Q) (spec_intro hG hf hb hok (Nat.le_of_ble_eq_true hn) ?_) fun c h hq => hq
  have : (retE G.T fn.results.toList fun c h => Leaves c h Q) = fun e st => match e with | .normal => evRes G.T st fn.results.toList fun r => Leaves r st.h Q | .ret => evRes G.T st fn.results.toList fun r => Leaves r st.h Q | _ => False := by
    funext e st; cases e <;> rfl
  rw [this] at he
  exact he

/-- An argument that is known less well. -/
def AV.le (c c' : AV) : Prop := ∀ w S V N x, R w S V N c x → R w S V N c' x
theorem AV.le.refl (c : AV) : c.le c := fun _ _ _ _ _ h => h
theorem nil_le (sz : Nat) (rows : Nat → List AV) : (AV.v (.slice none 0 0)).le (.tree sz 0 rows) := fun w S V N x h => by
  rw [h.v_inv]
  exact .imm _ _ (.tree sz 0 rows none 0 0 0 (fun _ _ => .bool false) (Nat.zero_le _) (Nat.le_refl _) (Nat.zero_le _) (fun h => absurd h (Nat.lt_irrefl _)) (fun k h => absurd h (Nat.not_lt_zero _)) (fun k j c h => absurd h (Nat.not_lt_zero _)) (fun k j c h => absurd h (Nat.not_lt_zero _)))
def AV.leL : List AV → List AV → Prop
  | [], [] => True
  | c :: cs, c' :: cs' => c.le c' ∧ AV.leL cs cs'
  | _, _ => False
theorem leL_get : ∀ {cs cs' : List AV}, AV.leL cs cs' → cs.length = cs'.length ∧ ∀ (i : Nat) (c' : AV), cs'[i]? = some c' → ∃ c, cs[i]? = some c ∧ c.le c'
  | [], [], _ => ⟨rfl, fun i c h => by simp at h⟩
  | c :: cs, c' :: cs', h => by
    obtain ⟨h3, h4⟩ := leL_get h.2
    refine ⟨by simp [h3], fun j d hd => ?_⟩
    cases j with
    | zero => simp at hd; subst hd; exact ⟨c, by simp, h.1⟩
    | succ j => simp at hd; obtain ⟨c2, e1, e2⟩ := h4 j d hd; exact ⟨c2, by simpa using e1, e2⟩
  | [], _ :: _, h => h.elim
  | _ :: _, [], h => h.elim
theorem Spec.le {f : FuncId} {args args' : List AV} {h : List (Option LB)} {Q : AV → List (Option LB) → Prop} (hs : Spec P f args' h Q) (hl : AV.leL args args') : Spec P f args h Q := by
  intro w V S0 vs hhr hsz hargs
  obtain ⟨h1, h2⟩ := leL_get hl
  exact hs w V S0 vs hhr (by omega) fun i c' x e1 e2 => by
    obtain ⟨c, e3, e4⟩ := h2 i c' e1
    exact e4 _ _ _ _ _ (hargs i c x e3 e2)
/-- Rows of a list of encoded elements. -/
def rowsOf {α : Type} (enc : α → List AV) (d : α) (xs : List α) (k : Nat) : List AV := enc (xs.getD k d)
/-- A slice of so encoded elements. -/
def listAV {α : Type} (sz : Nat) (enc : α → List AV) (d : α) (xs : List α) : AV := .tree sz xs.length (rowsOf enc d xs)
def listK {α : Type} (sz : Nat) (enc : α → List AV) (d : α) (c : AV) (p : List α → Prop) : Prop :=
  match c with
  | .tree sz' len rows => ∃ xs : List α, (AV.tree sz' len rows = .tree sz xs.length (rowsOf enc d xs)) ∧ p xs
  | .v (.slice none 0 0) => p []
  | _ => False
theorem listK_out {α : Type} {sz : Nat} {enc : α → List AV} {d : α} {c : AV} {p : List α → Prop} (h : listK sz enc d c p) : ∃ xs : List α, c.le (listAV sz enc d xs) ∧ p xs := by
  unfold listK at h
  split at h
  · obtain ⟨xs, e, hp⟩ := h
    exact ⟨xs, e ▸ AV.le.refl _, hp⟩
  · exact ⟨[], nil_le _ _, h⟩
  · exact h.elim
theorem getD_all {α : Type} {p : α → Prop} {xs : List α} {d : α} (h : ∀ x ∈ xs, p x) (hd : p d) (i : Nat) : p (xs.getD i d) := by
  rw [List.getD_eq_getElem?_getD]
  cases e : xs[i]? with
  | none => exact hd
  | some x => exact h x (List.mem_of_getElem? e)
theorem maxLen_eq : maxLen = 9223372036854775807 := by decide
end
end Go.Proofs.Ythjboaallleomaa
