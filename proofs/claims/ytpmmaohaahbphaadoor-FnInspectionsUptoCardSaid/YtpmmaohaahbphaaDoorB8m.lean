/-
  The abstract evaluator, part 8m: sets (maps of truth values that are all true), keyed by structs of plain cells.
-/
import Derived.Test.YtpmmaohaahbphaaDoorB8n
import Derived.ChangeMaps5
import Derived.WideKeyRuns
namespace Go.Proofs.YtpmmaohaahbphaaDoor
open Go.RowKit

section
variable {P : Program} {M : Nat → List Bool} {o : Oper} {st : St} {T : Nat → Option TI}

def eqI (a b : Int) : Bool := decide (a = b)
def eqS (a b : ByteArray) : Bool := decide (a = b)
def eqB (a b : Bool) : Bool := a == b
theorem eqI_out {a b : Int} (h : eqI a b = true) : a = b := of_decide_eq_true h
theorem eqS_out {a b : ByteArray} (h : eqS a b = true) : a = b := of_decide_eq_true h
theorem eqB_out {a b : Bool} (h : eqB a b = true) : a = b := eq_of_beq h
def eqK1 : (t : Ty) → t.den → t.den → Bool
  | .int _, a, b => eqI a b
  | .bool, a, b => eqB a b
  | .str, a, b => eqS a b
  | _, _, _ => true
def eqKs : (ts : List Ty) → Ty.dens ts → Ty.dens ts → Bool
  | [], _, _ => true
  | t :: ts, x, y => eqK1 t x.1 y.1 && eqKs ts x.2 y.2
/-- Are two keys alike? -/
def eqK : (t : Ty) → t.den → t.den → Bool
  | .st fs, x, y => eqKs fs x y
  | _, _, _ => true
def hasK (t : Ty) (x : t.den) (ks : List t.den) : Bool := ks.any (eqK t x)
def insK (t : Ty) (x : t.den) (ks : List t.den) : List t.den := if hasK t x ks then ks else ks ++ [x]

theorem eqK1_run : ∀ {t : Ty} {k : CK} {x y : t.den} {vx vy : Value}, ckTy t = some k → keyV1 t x = some vx → keyV1 t y = some vy → eqV1 vx vy = eqK1 t x y ∧ (eqK1 t x y = true → vx = vy)
  | .int k, _, x, y, _, _, _, h1, h2 => by
    cases h1; cases h2
    exact ⟨rfl, fun e => congrArg (Value.int k) (eqI_out e)⟩
  | .bool, _, x, y, _, _, _, h1, h2 => by
    cases h1; cases h2
    exact ⟨rfl, fun e => congrArg Value.bool (eqB_out e)⟩
  | .str, _, x, y, _, _, _, h1, h2 => by
    cases h1; cases h2
    exact ⟨rfl, fun e => congrArg Value.string (eqS_out e)⟩
  | .st _, _, _, _, _, _, h, _, _ => by cases h
  | .sl _, _, _, _, _, _, h, _, _ => by cases h
theorem cksTy_cons {t : Ty} {ts : List Ty} {cks : List CK} (h : cksTy (t :: ts) = some cks) : ∃ k ks, ckTy t = some k ∧ cksTy ts = some ks ∧ cks = k :: ks := by
  unfold cksTy at h
  split at h
  · rename_i k e
    split at h
    · rename_i ks e'
      cases h; exact ⟨k, ks, e, e', rfl⟩
    · cases h
  · cases h
theorem keyVs_cons {t : Ty} {ts : List Ty} {x : Ty.dens (t :: ts)} {vs : List Value} (h : keyVs (t :: ts) x = some vs) : ∃ v ws, keyV1 t x.1 = some v ∧ keyVs ts x.2 = some ws ∧ vs = v :: ws := by
  unfold keyVs at h
  split at h
  · rename_i v ws e1 e2; cases h; exact ⟨v, ws, e1, e2, rfl⟩
  · cases h
theorem eqKs_run : ∀ {ts : List Ty} {cks : List CK} {x y : Ty.dens ts} {vx vy : List Value}, cksTy ts = some cks → keyVs ts x = some vx → keyVs ts y = some vy → eqVs vx vy = eqKs ts x y ∧ (eqKs ts x y = true → vx = vy)
  | [], _, x, y, _, _, _, h1, h2 => by
    cases h1; cases h2
    exact ⟨rfl, fun _ => rfl⟩
  | t :: ts, _, x, y, _, _, hc, h1, h2 => by
    obtain ⟨k, ks, c1, c2, rfl⟩ := cksTy_cons hc
    obtain ⟨v, ws, a1, a2, rfl⟩ := keyVs_cons h1
    obtain ⟨v', ws', b1, b2, rfl⟩ := keyVs_cons h2
    obtain ⟨f1, f2⟩ := eqK1_run c1 a1 b1
    obtain ⟨g1, g2⟩ := eqKs_run c2 a2 b2
    refine ⟨by simp only [eqVs, eqKs, f1, g1], fun e => ?_⟩
    simp only [eqKs, Bool.and_eq_true] at e
    rw [f2 e.1, g2 e.2]
theorem keyVs_of {w : World} {S : Nat → Prop} : ∀ {fs : List Ty} {cks : List CK} (x : Ty.dens fs) (ys : List Value), cksTy fs = some cks → ys.length = Ty.ns fs → (∀ (i : Nat) (c : AV) (y : Value), (Ty.encs fs x)[i]? = some c → ys[i]? = some y → Rt w S c y) →
    keyVs fs x = some ys ∧ CK.fitsL cks ys
  | [], _, x, ys, hc, hl, _ => by
    cases hc
    have hl : ys.length = 0 := hl
    obtain rfl := List.length_eq_zero_iff.1 hl
    exact ⟨rfl, trivial⟩
  | t :: ts, _, x, ys, hc, hl, hr => by
    obtain ⟨k, ks, c1, c2, rfl⟩ := cksTy_cons hc
    have hl : ys.length = t.n + Ty.ns ts := hl
    have one : t.n = 1 ∧ ∀ y, (∀ c, (t.enc x.1)[0]? = some c → Rt w S c y) → keyV1 t x.1 = some y ∧ k.fits y := by
      cases t with
      | int kk =>
        cases c1
        exact ⟨rfl, fun y hy => by cases hy _ rfl; exact ⟨rfl, ⟨_, rfl⟩⟩⟩
      | bool =>
        cases c1
        exact ⟨rfl, fun y hy => by cases hy _ rfl; exact ⟨rfl, ⟨_, rfl⟩⟩⟩
      | str =>
        cases c1
        exact ⟨rfl, fun y hy => by cases hy _ rfl; exact ⟨rfl, ⟨_, rfl⟩⟩⟩
      | st _ => cases c1
      | sl _ => cases c1
    obtain ⟨hn, h1⟩ := one
    cases ys with
    | nil => simp at hl; omega
    | cons y ys =>
      have hel : (t.enc x.1).length = 1 := (enc_length t x.1).trans hn
      obtain ⟨a1, a2⟩ := h1 y fun c e => hr 0 c y (by
        show (t.enc x.1 ++ Ty.encs ts x.2)[0]? = _
        rw [List.getElem?_append_left (by omega)]; exact e) rfl
      obtain ⟨b1, b2⟩ := keyVs_of x.2 ys c2 (by simp at hl; omega) fun i c z e1 e2 => hr (i + 1) c z (by
        show (t.enc x.1 ++ Ty.encs ts x.2)[i + 1]? = _
        rw [List.getElem?_append_right (by omega), hel]; exact e1) (by simpa using e2)
      refine ⟨?_, a2, b2⟩
      unfold keyVs
      rw [a1, b1]
theorem keyVs_fits : ∀ {fs : List Ty} {cks : List CK} {x : Ty.dens fs} {ys : List Value}, cksTy fs = some cks → keyVs fs x = some ys → CK.fitsL cks ys
  | [], _, x, ys, hc, h => by cases hc; cases h; trivial
  | t :: ts, _, x, ys, hc, h => by
    obtain ⟨k, ks, c1, c2, rfl⟩ := cksTy_cons hc
    obtain ⟨v, ws, a1, a2, rfl⟩ := keyVs_cons h
    refine ⟨?_, keyVs_fits c2 a2⟩
    cases t with
    | int kk => cases c1; cases a1; exact ⟨_, rfl⟩
    | bool => cases c1; cases a1; exact ⟨_, rfl⟩
    | str => cases c1; cases a1; exact ⟨_, rfl⟩
    | st _ => cases c1
    | sl _ => cases c1
theorem ckOf_st {t : Ty} {cks : List CK} (h : ckOf (some t) = some cks) : ∃ fs, t = .st fs ∧ cksTy fs = some cks := by
  unfold ckOf at h
  split at h
  · rename_i fs e; cases e; exact ⟨fs, rfl, h⟩
  · cases h
theorem keyV_fits {t : Ty} {cks : List CK} {x : t.den} {v : Value} (hc : ckOf (some t) = some cks) (h : keyV t x = some v) : ∃ xs, v = .agg xs ∧ CK.fitsL cks xs.toList := by
  obtain ⟨fs, rfl, hc⟩ := ckOf_st hc
  obtain ⟨vs, e, rfl⟩ := Option.map_eq_some_iff.1 h
  exact ⟨_, rfl, keyVs_fits hc e⟩
theorem keyV_eq {t : Ty} {cks : List CK} {x y : t.den} {xs ys : Array Value} (hc : ckOf (some t) = some cks) (h1 : keyV t x = some (.agg xs)) (h2 : keyV t y = some (.agg ys)) : eqVs xs.toList ys.toList = eqK t x y ∧ (eqK t x y = true → xs = ys) := by
  obtain ⟨fs, rfl, hc⟩ := ckOf_st hc
  obtain ⟨vs, e1, f1⟩ := Option.map_eq_some_iff.1 h1
  obtain ⟨us, e2, f2⟩ := Option.map_eq_some_iff.1 h2
  cases f1; cases f2
  obtain ⟨g1, g2⟩ := eqKs_run hc e1 e2
  exact ⟨g1, fun e => by rw [g2 e]⟩
theorem same_plain : ∀ {cks : List CK} {vs : List Value}, CK.fitsL cks vs → (vs.zip vs).all (fun (x, y) => Instr.sameBits 9999 x y) = true
  | [], [], _ => rfl
  | [], _ :: _, h => by simp [CK.fitsL] at h
  | _ :: _, [], h => by simp [CK.fitsL] at h
  | k :: ks, v :: vs, h => by
    obtain ⟨h1, h2⟩ := h
    have ih := same_plain h2
    have hv : Instr.sameBits 9999 v v = true := by
      cases k with
      | i kk => obtain ⟨n, rfl⟩ := h1; simp [Instr.sameBits]
      | b => obtain ⟨n, rfl⟩ := h1; simp [Instr.sameBits]
      | s =>
        obtain ⟨n, rfl⟩ := h1
        show (n == n) = true
        have : ∀ m : ByteArray, (m == m) = true := fun m => by cases m with | mk d => show (d == d) = true; simp
        exact this n
    simp only [List.zip_cons_cons, List.all_cons, hv, Bool.true_and]
    exact ih
theorem run_stays {cks : List CK} {xs : Array Value} (h : CK.fitsL cks xs.toList) (w : World) : (Instr.keyThatStays (.agg xs) (.agg xs)).run P w = .ok (.agg xs) w := by
  have : Instr.sameBits 10000 (.agg xs) (.agg xs) = true := by
    rw [show (10000 : Nat) = 9999 + 1 from rfl, Instr.sameBits]
    simp only [beq_self_eq_true, Bool.true_and]
    exact same_plain h
  simp [Instr.keyThatStays, this]

theorem run_asking {kt : TypeId} {t : Ty} {cks : List CK} (hc : ckOf (some t) = some cks) (heq : EqOk P kt cks) {x : t.den} {xs : Array Value} (hx : keyV t x = some (.agg xs)) (w : World) : ∀ (es : List MapEntry) (ks : List t.den) (i : Nat), es.length = ks.length →
    (∀ (j : Nat) (k : t.den) (e : MapEntry), ks[j]? = some k → es[j]? = some e → keyV t k = some e.key ∧ e.val = .bool true) →
    (hasK t x ks = false ∧ (Instr.findAsking kt (.agg xs) es i).run P w = .ok none w) ∨ (hasK t x ks = true ∧ ∃ j e, (Instr.findAsking kt (.agg xs) es i).run P w = .ok (some (i + j, e.val)) w ∧ es[j]? = some e ∧ e.key = .agg xs)
  | [], [], i, _, _ => .inl ⟨rfl, by simp [Instr.findAsking]⟩
  | [], _ :: _, i, h, _ => by simp at h
  | _ :: _, [], i, h, _ => by simp at h
  | e :: es, k :: ks, i, hl, hall => by
    obtain ⟨g1, g2⟩ := hall 0 k e rfl rfl
    obtain ⟨ys, ey, fy⟩ := keyV_fits hc g1
    obtain ⟨xs', ex, fx⟩ := keyV_fits hc hx
    cases ex
    rw [ey] at g1
    obtain ⟨q1, q2⟩ := keyV_eq hc hx g1
    have hr := heq.2 xs ys fx fy w
    rw [q1] at hr
    have hr2 : (Op.equal kt (.agg xs) e.key).run P w = .ok (eqK t x k) w := by
      rw [ey]; simpa [Op.equal, Op.maxDepth] using hr
    have hh : hasK t x (k :: ks) = (eqK t x k || hasK t x ks) := by simp [hasK]
    cases hq : eqK t x k with
    | true =>
      refine .inr ⟨by rw [hh, hq]; rfl, 0, e, ?_, rfl, by rw [ey, q2 hq]⟩
      rw [hq] at hr2
      simp [Instr.findAsking, hr2]
    | false =>
      rw [hq] at hr2
      rcases run_asking hc heq hx w es ks (i + 1) (by simpa using hl) (fun j k e e1 e2 => hall (j + 1) k e (by simpa using e1) (by simpa using e2)) with ⟨a1, a2⟩ | ⟨a1, j, e', a2, a3, a4⟩
      · exact .inl ⟨by rw [hh, hq, a1]; rfl, by simp [Instr.findAsking, hr2, a2]⟩
      · exact .inr ⟨by rw [hh, hq, a1]; rfl, j + 1, e', by simp [Instr.findAsking, hr2, a2, Nat.add_assoc, Nat.add_comm 1 j], by simpa using a3, a4⟩
theorem run_find {kt : TypeId} {t : Ty} {cks : List CK} (hc : ckOf (some t) = some cks) (heq : EqOk P kt cks) (hkey : KeyOk P kt cks) {x : t.den} {xs : Array Value} (hx : keyV t x = some (.agg xs)) (w : World) (es : List MapEntry) (ks : List t.den) (hl : es.length = ks.length)
    (hall : ∀ (j : Nat) (k : t.den) (e : MapEntry), ks[j]? = some k → es[j]? = some e → keyV t k = some e.key ∧ e.val = .bool true) :
    (hasK t x ks = false ∧ (Instr.findKey kt (.agg xs) es).run P w = .ok none w) ∨ (hasK t x ks = true ∧ ∃ j e, (Instr.findKey kt (.agg xs) es).run P w = .ok (some (j, e.val)) w ∧ es[j]? = some e ∧ e.key = .agg xs) := by
  obtain ⟨⟨fs, hu⟩, _⟩ := hkey
  rw [run_findKey_eq w (by rw [hu])]
  rcases run_asking hc heq hx w es ks 0 hl hall with h | ⟨h, j, e, h1, h2, h3⟩
  · exact .inl h
  · exact .inr ⟨h, j, e, by simpa using h1, h2, h3⟩

/-! ### make(map[K]bool) -/
def falseV (v : Value) : Bool := match v with
  | .bool false => true
  | _ => false
theorem falseV_out {v : Value} (h : falseV v = true) : v = .bool false := by
  unfold falseV at h
  split at h
  · rfl
  · cases h
/-- The key's type of a set's type, with what is known of both. -/
def setT (T : Nat → Option TI) (i : Option TI) : Option (Nat × Nat × Ty) :=
  match i with
  | some ti => match ti.mapT with
    | some (k, e) => match T k, T e with
      | some tk, some te => match falseV te.zero, tk.cod with
        | true, some t => match ckOf (some t) with
          | some _ => some (k, e, t)
          | none => none
        | _, _ => none
      | _, _ => none
    | none => none
  | none => none
theorem setT_out (hT : TOk P T) {t k e : Nat} {ty : Ty} (h : setT T (T t) = some (k, e, ty)) : P.underlying t = some (.map k e) ∧ (∀ w, (zeroValue e).run P w = .ok (.bool false) w) ∧ ∃ cks, ckOf (some ty) = some cks ∧ EqOk P k cks ∧ KeyOk P k cks := by
  unfold setT at h
  split at h
  case h_2 => cases h
  rename_i ti hti
  split at h
  case h_2 => cases h
  rename_i k' e' hm
  split at h
  case h_2 => cases h
  rename_i tk te hk he
  split at h
  case h_2 => cases h
  rename_i u hf hcod
  split at h
  case h_2 => cases h
  rename_i cks hck
  cases h
  have hz := falseV_out hf
  refine ⟨(hT t ti hti).mapT _ _ hm, fun w => by rw [(hT _ te he).zero w, hz], cks, hck, (hT _ tk hk).eqs cks (by rw [hcod]; exact hck), (hT _ tk hk).keys cks (by rw [hcod]; exact hck)⟩
def resOk (r : Option AV) : Bool :=
  match r with
  | none => true
  | some (.v (.int _ _)) => true
  | _ => false
def evMakeMap (T : Nat → Option TI) (t : Nat) (st : St) (r : Option AV) (K : AV → St → Prop) : Prop :=
  match setT T (T t) with
  | some (_, _, ty) => resOk r = true ∧ K (.own st.h.length) ⟨st.s, st.h ++ [some (.mp t ty [])]⟩
  | none => False
theorem edoes_makeMap {K : AV → St → Prop} (hT : TOk P T) (t : TypeId) (r : Option Operand) (ho : o.op = .makeMap t r) (hk : evMakeMap T t st (r.map st.ev) K) : EDoes P M o st K := by
  unfold evMakeMap at hk
  split at hk
  case h_2 => exact hk.elim
  rename_i k e ty hs
  obtain ⟨hr, hk⟩ := hk
  obtain ⟨hu, _⟩ := setT_out hT hs
  intro C V a w h next Q hn
  have hsr := h.allocO ⟨w.heap.size, 0, 0, .map (some w.heap.size), noSub⟩ (.mp t ty []) #[] (.map #[] 0) rfl rfl (fun S' V' N' hS hV hN => by
    refine ⟨rfl, rfl, (fun e => by cases e), fun k j c e1 => absurd e1 (Nat.not_lt_zero _), (fun e => by cases e), fun _ => rfl, (fun e => by cases e), rfl, #[], 0, heap_alloc_new w _, rfl, fun j k e e1 => by simp at e1⟩)
  have hrun : (execOp a.eval o).run P w = .ok (.value (.map (some w.heap.size))) (w.alloc (.map #[] 0)) := by
    cases r with
    | none => simp [execOp, ho, Instr.makeMap, run_newObj]
    | some x =>
      simp only [Option.map_some, resOk] at hr
      split at hr
      · rename_i e; cases e
      · rename_i kk n e
        have ex := h.evv (Option.some.inj e)
        simp [execOp, ho, Instr.makeMap, ex, run_underlying hu, asInt, asIntOf, run_newObj]
      · cases hr
  unfold Oper.wp
  rw [hrun]
  refine hn _ _ _ _ _ hk hsr ?_ fun _ => (Below.refl _ _).alloc (Nat.le_refl _) _
  have := R.own (w := w.alloc (.map #[] 0)) (S := Stb C.A (w.alloc (.map #[] 0)) (st.h ++ [some (LB.mp t ty [])]) (updV V st.h.length ⟨w.heap.size, 0, 0, .map (some w.heap.size), noSub⟩)) (V := updV V st.h.length ⟨w.heap.size, 0, 0, .map (some w.heap.size), noSub⟩) (N := (st.h ++ [some (LB.mp t ty [])]).length) st.h.length (by simp)
  simpa [updV] using this

/-! ### m[k] and m[k] = true -/
/-- A key as data. -/
def keyD (t : Ty) (k : AV) : Option t.den :=
  match k with
  | .agg cs => match cs.all AV.isImm with
    | true => t.dec cs
    | false => none
  | _ => none
theorem SRV.keyD {C : Ctx} {V a w} (_h : SRV C V st a w) {t : Ty} {cks : List CK} (hc : ckOf (some t) = some cks) {k : AV} {x : t.den} (hk : keyD t k = some x) {y : Value} (hr : R w (Stb C.A w st.h V) V st.h.length k y) : ∃ xs, y = .agg xs ∧ keyV t x = some (.agg xs) ∧ CK.fitsL cks xs.toList := by
  unfold Go.Proofs.YtpmmaohaahbphaaDoor.keyD at hk
  split at hk
  case h_2 => cases hk
  rename_i cs
  split at hk
  case h_2 => cases hk
  rename_i himm
  obtain ⟨vs, rfl, hl, hh⟩ := hr.agg_inv
  obtain ⟨d1, d2⟩ := dec_sound t cs x hk
  obtain ⟨fs, rfl, hc⟩ := ckOf_st hc
  obtain ⟨g1, g2⟩ := keyVs_of (w := w) (S := Stb C.A w st.h V) x vs.toList hc (by have := hl.trans d1; simpa [Ty.n] using this) fun i c y e1 e2 => by
    have hi : i < cs.length := by rw [d1]; have h1 := (List.getElem?_eq_some_iff.1 e1).1; have h2 : (Ty.encs fs x).length = Ty.ns fs := encs_length fs x; show i < Ty.ns fs; omega
    have hc0 := List.getElem?_eq_getElem hi
    exact d2 i _ c hc0 e1 _ _ _ ((hh i _ y hc0 (by simpa using e2)).toImm (List.all_eq_true.1 himm _ (List.getElem_mem hi)))
  refine ⟨vs, rfl, ?_, g2⟩
  show (keyVs fs x).map _ = _
  rw [g1]
  simp
def evLookK (t : Ty) (ks : List t.den) (x : Option t.den) (K : AV → Prop) : Prop :=
  match x with
  | some x => K (.bl (hasK t x ks))
  | none => False
def evLookO (ty : Ty) (t : Nat) (o : Option (Option LB)) (k : AV) (K : AV → Prop) : Prop :=
  match o with
  | some (some (.mp t' u ks)) => (Nat.beq t' t && Ty.same ty u) = true ∧ evLookK u ks (keyD u k) K
  | _ => False
def evLookup (T : Nat → Option TI) (t : Nat) (h : List (Option LB)) (m k : AV) (ok : Bool) (K : AV → Prop) : Prop :=
  match setT T (T t), m, ok with
  | some (_, _, ty), .own id, false => evLookO ty t h[id]? k K
  | _, _, _ => False
theorem SRV.mp {C : Ctx} {V a w} (h : SRV C V st a w) {id t : Nat} {u : Ty} {ks : List u.den} (e : st.h[id]? = some (some (.mp t u ks))) : MpOk w (V id) u ks := by
  obtain ⟨cur, hc⟩ := h.hr.blk id _ e
  exact hc.ex
theorem vdoes_lookup {K : AV → Prop} (hT : TOk P T) (t : TypeId) (m x : Operand) (ok : Bool) (ho : o.op = .lookup t m x ok) (hk : evLookup T t st.h (st.ev m) (st.ev x) ok K) : VDoes P o st K := by
  unfold evLookup at hk
  split at hk
  case h_2 => exact hk.elim
  rename_i k e ty id hs hm
  obtain ⟨hu, hz, cks, hck, heq, hkey⟩ := setT_out hT hs
  unfold evLookO at hk
  split at hk
  case h_2 => exact hk.elim
  rename_i t' u ks hlb
  obtain ⟨hc, hk⟩ := hk
  simp only [Bool.and_eq_true] at hc
  obtain rfl := Nat.eq_of_beq_eq_true hc.1
  obtain rfl := same_eq hc.2
  unfold evLookK at hk
  split at hk
  case h_2 => exact hk.elim
  rename_i x' hx
  intro C V a w h
  obtain ⟨eV, es, clock, hb, hl, hall⟩ := h.mp hlb
  have em : a.eval m = .map (some (V id).blk) := ((hm ▸ h.ev m).own_inv).trans eV
  obtain ⟨xs, ex, kx, fx⟩ := h.keyD hck hx (h.ev x)
  refine ⟨_, .bool (hasK ty x' ks), hk, .imm _ _ (.bl _), fun w' hbl => ?_⟩
  have hb' : w'.heap[(V id).blk]? = some (.map es clock) := (hbl.block _ (h.hr.lt hlb)).trans hb
  have hck' := hkey.2 es.isEmpty xs fx w'
  rcases run_find hck heq hkey kx w' es.toList ks hl hall with ⟨g1, g2⟩ | ⟨g1, j, e0, g2, g3, g4⟩
  · rw [g1]
    simp [execOp, ho, em, ex, Instr.lookup, run_underlying hu, MapKept.run_getObj_map hb', hck', g2, hz, Result.andThen]
  · have hj : j < ks.length := by rw [← hl]; exact (List.getElem?_eq_some_iff.1 g3).1
    have := (hall j _ e0 (List.getElem?_eq_getElem hj) g3).2
    rw [g1]
    simp [execOp, ho, em, ex, Instr.lookup, run_underlying hu, MapKept.run_getObj_map hb', hck', g2, this, Result.andThen]
def evUpdK (t : Nat) (u : Ty) (ks : List u.den) (x : Option u.den) (id : Nat) (st : St) (K : AV → St → Prop) : Prop :=
  match x with
  | some x => K (.v (.tuple #[])) ⟨st.s, st.h.set id (some (.mp t u (insK u x ks)))⟩
  | none => False
def evUpdO (ty : Ty) (t : Nat) (o : Option (Option LB)) (id : Nat) (k : AV) (st : St) (K : AV → St → Prop) : Prop :=
  match o with
  | some (some (.mp t' u ks)) => (Nat.beq t' t && Ty.same ty u) = true ∧ evUpdK t' u ks (keyD u k) id st K
  | _ => False
def evMapUpdate (T : Nat → Option TI) (t : Nat) (st : St) (m k x : AV) (K : AV → St → Prop) : Prop :=
  match setT T (T t), m, x.b? with
  | some (_, _, ty), .own id, some true => evUpdO ty t st.h[id]? id k st K
  | _, _, _ => False
theorem edoes_mapUpdate {K : AV → St → Prop} (hT : TOk P T) (t : TypeId) (m k x : Operand) (ho : o.op = .mapUpdate t m k x ∨ o.op = .insert t m k x) (hk : evMapUpdate T t st (st.ev m) (st.ev k) (st.ev x) K) (hM : ∀ {a : Act} {p : Prop}, belA M o.op a → p) : EDoes P M o st K := by
  unfold evMapUpdate at hk
  split at hk
  case h_2 => exact hk.elim
  rename_i kt e ty id hs hm hxb
  obtain ⟨hu, hz, cks, hck, heq, hkey⟩ := setT_out hT hs
  unfold evUpdO at hk
  split at hk
  case h_2 => exact hk.elim
  rename_i t' u ks hlb
  obtain ⟨hc, hk⟩ := hk
  simp only [Bool.and_eq_true] at hc
  obtain rfl := Nat.eq_of_beq_eq_true hc.1
  obtain rfl := same_eq hc.2
  unfold evUpdK at hk
  split at hk
  case h_2 => exact hk.elim
  rename_i x' hx
  intro C V a w h next Q hn
  obtain ⟨eV, es, clock, hb, hl, hall⟩ := h.mp hlb
  have em : a.eval m = .map (some (V id).blk) := ((hm ▸ h.ev m).own_inv).trans eV
  obtain ⟨xs, ex, kx, fx⟩ := h.keyD hck hx (h.ev k)
  have exv : a.eval x = .bool true := b_inv hxb (h.ev x)
  obtain ⟨cur, hcB⟩ := h.hr.blk id _ hlb
  have hck' := hkey.2 false xs fx w
  have fin : ∀ (es' : Array MapEntry) (clock' : Nat), (Instr.mapUpdate t' (.map (some (V id).blk)) (.agg xs) (.bool true)).run P w = .ok () (ChangeMaps.setBlock w (V id).blk (.map es' clock')) → es'.toList.length = (insK ty x' ks).length →
      (∀ (j : Nat) (k : ty.den) (e : MapEntry), (insK ty x' ks)[j]? = some k → es'.toList[j]? = some e → keyV ty k = some e.key ∧ e.val = .bool true) → o.wp P a w next Q := fun es' clock' hrun hl' hall' => by
    have hsr := h.write hlb (lb' := .mp t' ty (insK ty x' ks)) (w' := ChangeMaps.setBlock w (V id).blk (.map es' clock')) (cur' := cur) rfl rfl rfl (by simp [ChangeMaps.setBlock]) (fun q hq => ChangeMaps.heap_setBlock_other hb _ hq) (fun hS =>
      ⟨hcB.sz, hcB.ln, (fun e => by cases e), fun k j c e1 => absurd e1 (Nat.not_lt_zero _), (fun e => by cases e), hcB.box, (fun e => by cases e), eV, es', clock', ChangeMaps.heap_setBlock_same hb _, hl', hall'⟩)
    have hex : (execOp a.eval o).run P w = .ok .skip (ChangeMaps.setBlock w (V id).blk (.map es' clock')) := by
      rcases ho with ho | ho <;> simp [execOp, ho, em, ex, exv, hrun]
    unfold Oper.wp
    rw [hex]
    exact hn _ _ V undef _ hk hsr (.imm _ _ (.v _)) fun e => hM e
  rcases run_find hck heq hkey kx w es.toList ks hl hall with ⟨g1, g2⟩ | ⟨g1, j, e0, g2, g3, g4⟩
  · refine fin (es.push { key := .agg xs, val := .bool true, born := clock }) (clock + 1) ?_ ?_ ?_
    · simp [Instr.mapUpdate, run_underlying hu, MapKept.run_getObj_map hb, hck', g2, MapKept.run_setObj_map _ hb, Result.andThen, ChangeMaps.setBlock]
    · simp only [insK, g1, Array.toList_push, List.length_append, hl]; simp
    · intro q k e e1 e2
      simp only [insK, g1, Bool.false_eq_true, if_false] at e1
      simp only [Array.toList_push] at e2
      by_cases hq : q < ks.length
      · rw [List.getElem?_append_left hq] at e1
        rw [List.getElem?_append_left (by omega)] at e2
        exact hall q k e e1 e2
      · rw [List.getElem?_append_right (by omega)] at e1
        rw [List.getElem?_append_right (by omega)] at e2
        have hq0 : q - ks.length = 0 := by have := (List.getElem?_eq_some_iff.1 e1).1; simp at this; omega
        rw [hl, hq0] at e2
        rw [hq0] at e1
        simp at e1 e2
        subst e1 e2
        exact ⟨kx, rfl⟩
  · have hj : j < ks.length := by rw [← hl]; exact (List.getElem?_eq_some_iff.1 g3).1
    have hje : es[j]? = some e0 := by simpa using g3
    obtain ⟨k1, k2⟩ := hall j _ e0 (List.getElem?_eq_getElem hj) g3
    refine fin (es.modify j fun e => { e with key := .agg xs, val := .bool true }) clock ?_ ?_ ?_
    · have hst := run_stays (P := P) fx w
      simp [Instr.mapUpdate, run_underlying hu, MapKept.run_getObj_map hb, hck', g2, hje, g4, hst, MapKept.run_setObj_map _ hb, Result.andThen, ChangeMaps.setBlock]
    · simp only [insK, g1, if_true]; simpa using hl
    · intro q k e e1 e2
      simp only [insK, g1, if_true] at e1
      by_cases hq : q = j
      · subst hq
        rw [Array.getElem?_toList] at e2
        rw [Array.getElem?_modify, if_pos rfl, hje] at e2
        simp at e2
        subst e2
        have := (hall q k e0 e1 g3).1
        exact ⟨by rw [this, g4], rfl⟩
      · rw [Array.getElem?_toList] at e2
        rw [Array.getElem?_modify, if_neg (Ne.symm hq)] at e2
        exact hall q k e e1 (by simpa using e2)
end
end Go.Proofs.YtpmmaohaahbphaaDoor
