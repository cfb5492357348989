/-
  The abstract evaluator, part 8: barer states; from a body to a contract; contracts at a call.
-/
import Derived.Test.YthjboaallleomaaAe7
namespace Go.Proofs.Ythjboaallleomaa
open Go.RowKit

/-- An abstract value of the barer state, and the one that it stands for. σ: which block each name means. -/
def selC (σ : List Nat) (c' c : AV) : Prop :=
  match c with
  | .any => True
  | .own i => Nat.blt i σ.length = true ∧ Ob (c' = .own (σ.getD i 0))
  | .loc i r o => Nat.blt i σ.length = true ∧ Ob (c' = .loc (σ.getD i 0) r o)
  | c => c.isImm = true ∧ Ob (c' = c)
def selL (σ : List Nat) : List AV → List AV → Prop
  | [], [] => True
  | c' :: cs', c :: cs => selC σ c' c ∧ selL σ cs' cs
  | _, _ => False
/-- A block of the barer heap: an own array with the same rows, as far as it is used; a variable cell by cell. -/
def selLB (σ : List Nat) (o' o : Option LB) : Prop :=
  match o, o' with
  | none, _ => True
  | some ⟨ty, sz, len, rows, true⟩, some ⟨ty', sz', len', rows', true⟩ => Nat.beq ty' ty = true ∧ Nat.beq sz' sz = true ∧ Ob (len' = len ∧ ∀ k, k < len → rows' k = rows k)
  | some ⟨ty, sz, 1, rows, false⟩, some ⟨ty', sz', 1, rows', false⟩ => Nat.beq ty' ty = true ∧ Nat.beq sz' sz = true ∧ selL σ (rows' 0) (rows 0)
  | _, _ => False
def selH (σ : List Nat) (h : List (Option LB)) : List Nat → List (Option LB) → Prop
  | [], [] => True
  | i :: is, o :: os => Nat.blt i h.length = true ∧ selLB σ ((h[i]?).getD none) o ∧ selH σ h is os
  | _, _ => False
theorem selL_get {σ : List Nat} : ∀ {r' r : List AV}, selL σ r' r → r'.length = r.length ∧ ∀ (j : Nat) (c : AV), r[j]? = some c → ∃ c', r'[j]? = some c' ∧ selC σ c' c
  | [], [], _ => ⟨rfl, fun j c h => by simp at h⟩
  | c' :: cs', c :: cs, h => by
    obtain ⟨h1, h2⟩ := h
    obtain ⟨h3, h4⟩ := selL_get h2
    refine ⟨by simp [h3], fun j d hd => ?_⟩
    cases j with
    | zero => simp at hd; subst hd; exact ⟨c', by simp, h1⟩
    | succ j => simp at hd; obtain ⟨c2, e1, e2⟩ := h4 j d hd; exact ⟨c2, by simpa using e1, e2⟩
  | [], c :: cs, h => h.elim
  | c' :: cs', [], h => h.elim
theorem selH_get {σ : List Nat} {h : List (Option LB)} : ∀ {is : List Nat} {os : List (Option LB)}, selH σ h is os → is.length = os.length ∧ (∀ (k : Nat) (o : Option LB), os[k]? = some o → ∃ i, is[k]? = some i ∧ i < h.length ∧ selLB σ ((h[i]?).getD none) o)
  | [], [], _ => ⟨rfl, fun k o e => by simp at e⟩
  | i :: is, o :: os, hh => by
    obtain ⟨h1, h2, h3⟩ := hh
    obtain ⟨h4, h5⟩ := selH_get h3
    refine ⟨by simp [h4], fun k p hp => ?_⟩
    cases k with
    | zero => simp at hp; subst hp; exact ⟨i, by simp, by simpa [Nat.blt_eq] using h1, h2⟩
    | succ k => simp at hp; obtain ⟨j, e1, e2⟩ := h5 k p hp; exact ⟨j, by simpa using e1, e2⟩
  | [], o :: os, hh => hh.elim
  | i :: is, [], hh => hh.elim

theorem selC_R {w : World} {S S' : Nat → Prop} {V : Nat → Info} {N N' : Nat} {σ : List Nat} {c' c : AV} {x : Value} (h : R w S V N c' x) (hs : selC σ c' c) (hS : ∀ b, S b → S' b) (hN : N' = σ.length) : R w S' (fun i => V (σ.getD i 0)) N' c x := by
  unfold selC at hs
  split at hs
  · exact .imm _ _ (.any x)
  · obtain ⟨h1, h2⟩ := hs
    have h1 := h1
    rw [Nat.blt_eq] at h1
    obtain rfl := h2.out
    rw [h.own_inv]
    exact .own (V := fun i => V (σ.getD i 0)) _ (by omega)
  · rename_i i r o
    obtain ⟨h1, h2⟩ := hs
    have h1 := h1
    rw [Nat.blt_eq] at h1
    obtain rfl := h2.out
    rw [h.loc_inv]
    exact R.loc (V := fun i => V (σ.getD i 0)) i r o (by omega)
  · obtain ⟨h1, h2⟩ := hs
    obtain rfl := h2.out
    exact .imm _ _ ((h.toImm h1).mono fun b hb => ⟨hS b hb, rfl⟩)

def selA (σ : List Nat) (c' c : AV) : Prop :=
  match c with
  | .agg cs => match c' with
    | .agg cs' => selL σ cs' cs
    | _ => False
  | c => selC σ c' c
def selAL (σ : List Nat) : List AV → List AV → Prop
  | [], [] => True
  | c' :: cs', c :: cs => selA σ c' c ∧ selAL σ cs' cs
  | _, _ => False
def selOk (σ : List Nat) (c' c : AV) : Prop :=
  match c with
  | .tup cs => match c' with
    | .tup cs' => selAL σ cs' cs
    | _ => False
  | c => selA σ c' c
def selS (σ : List Nat) (s' s : Nat → AV) : Prop := ∀ j, selOk σ (s' j) (s j)
theorem selS_any (σ : List Nat) (s' : Nat → AV) : selS σ s' (fun _ => .any) := fun _ => trivial
theorem selS_upd {σ : List Nat} {s' s : Nat → AV} {d : Nat} {c : AV} (h1 : selOk σ (s' d) c) (h2 : selS σ s' s) : selS σ s' (upd s d c) := fun j => by
  unfold upd
  by_cases h : j = d
  · rw [if_pos h, h]; exact h1
  · rw [if_neg h]; exact h2 j
theorem selA_R {w : World} {S S' : Nat → Prop} {V : Nat → Info} {N N' : Nat} {σ : List Nat} {c' c : AV} {x : Value} (h : R w S V N c' x) (hs : selA σ c' c) (hS : ∀ b, S b → S' b) (hN : N' = σ.length) : R w S' (fun i => V (σ.getD i 0)) N' c x := by
  unfold selA at hs
  split at hs
  · split at hs
    · obtain ⟨vs, rfl, hl, hh⟩ := h.agg_inv
      obtain ⟨g1, g2⟩ := selL_get hs
      refine .agg _ vs (by omega) fun i c x e1 e2 => ?_
      obtain ⟨c2, e3, e4⟩ := g2 i c e1
      exact selC_R (hh i c2 x e3 e2) e4 hS hN
    · exact hs.elim
  · exact selC_R h hs hS hN
theorem selAL_get {σ : List Nat} : ∀ {r' r : List AV}, selAL σ r' r → r'.length = r.length ∧ ∀ (j : Nat) (c : AV), r[j]? = some c → ∃ c', r'[j]? = some c' ∧ selA σ c' c
  | [], [], _ => ⟨rfl, fun j c h => by simp at h⟩
  | c' :: cs', c :: cs, h => by
    obtain ⟨h1, h2⟩ := h
    obtain ⟨h3, h4⟩ := selAL_get h2
    refine ⟨by simp [h3], fun j d hd => ?_⟩
    cases j with
    | zero => simp at hd; subst hd; exact ⟨c', by simp, h1⟩
    | succ j => simp at hd; obtain ⟨c2, e1, e2⟩ := h4 j d hd; exact ⟨c2, by simpa using e1, e2⟩
  | [], c :: cs, h => h.elim
  | c' :: cs', [], h => h.elim
theorem selOk_R {w : World} {S S' : Nat → Prop} {V : Nat → Info} {N N' : Nat} {σ : List Nat} {c' c : AV} {x : Value} (h : R w S V N c' x) (hs : selOk σ c' c) (hS : ∀ b, S b → S' b) (hN : N' = σ.length) : R w S' (fun i => V (σ.getD i 0)) N' c x := by
  unfold selOk at hs
  split at hs
  · split at hs
    · obtain ⟨vs, rfl, hl, hh⟩ := h.tup_inv
      obtain ⟨g1, g2⟩ := selAL_get hs
      refine .tup _ vs (by omega) fun i c x e1 e2 => ?_
      obtain ⟨c2, e3, e4⟩ := g2 i c e1
      exact selA_R (hh i c2 x e3 e2) e4 hS hN
    · exact hs.elim
  · exact selA_R h hs hS hN

/-- The barer state: σ tells which blocks are kept, and under which names. -/
theorem sub_sel {m : Nat} {st st' : St} (σ : List Nat) (hnd : σ.Nodup) (hm : m ≤ σ.length) (hfix : ∀ i, i < m → σ.getD i 0 = i) (hs : selS σ st.s st'.s) (hh : selH σ st.h σ st'.h) : Sub m st st' := by
  intro C hC V a w h
  subst hC
  obtain ⟨hl, hk⟩ := selH_get hh
  let V' : Nat → Info := fun i => V (σ.getD i 0)
  have hgetD : ∀ k i, σ[k]? = some i → σ.getD k 0 = i := fun k i e => by rw [List.getD, e]; rfl
  have hlive : ∀ k lb, st'.h[k]? = some (some lb) → ∃ lb', st.h[σ.getD k 0]? = some (some lb') ∧ selLB σ (some lb') (some lb) := fun k lb e => by
    obtain ⟨i, e1, e2, e3⟩ := hk k _ e
    rw [hgetD k i e1]
    cases e4 : st.h[i]? with
    | none => rw [List.getElem?_eq_none_iff] at e4; omega
    | some o' =>
      rw [e4] at e3
      cases o' with
      | none =>
        unfold selLB at e3
        split at e3
        · rename_i q; cases q
        · rename_i q1 q2; cases q2
        · rename_i q1 q2; cases q2
        · exact e3.elim
      | some lb' => exact ⟨lb', rfl, e3⟩
  have hS : ∀ b, Stb C.A w st.h V b → Stb C.A w st'.h V' b := fun b hb => ⟨hb.1, hb.2.1, fun k lb e => by
    obtain ⟨lb', e1, _⟩ := hlive k lb e
    exact hb.2.2 _ lb' e1⟩
  refine ⟨V', h.size, h.defers, h.kept, by omega, fun i hi => ?_, ⟨fun i j li lj hi hj hne => ?_, fun k lb e => ?_, fun k lb e hlt => ?_⟩, fun t => ?_⟩
  · show V (σ.getD i 0) = C.V0 i
    rw [hfix i hi]; exact h.agree i hi
  · obtain ⟨l1, e1, _⟩ := hlive i li hi
    obtain ⟨l2, e2, _⟩ := hlive j lj hj
    refine h.hr.inj _ _ l1 l2 e1 e2 fun e => hne ?_
    obtain ⟨i', f1, _, _⟩ := hk i _ hi
    obtain ⟨j', f2, _, _⟩ := hk j _ hj
    rw [hgetD i i' f1, hgetD j j' f2] at e
    subst e
    have hi2 := List.getElem?_eq_some_iff.1 f1
    have hj2 := List.getElem?_eq_some_iff.1 f2
    exact (List.getElem_inj hnd).1 (hi2.2.trans hj2.2.symm)
  · obtain ⟨lb', e1, e2⟩ := hlive k lb e
    obtain ⟨cur, hc⟩ := h.hr.blk _ lb' e1
    refine ⟨cur, ?_⟩
    show BlkR w (Stb C.A w st'.h V') V' st'.h.length (V (σ.getD k 0)) lb cur
    unfold selLB at e2
    split at e2
    · rename_i q; cases q
    · rename_i ty sz len rows ty' sz' len' rows' q1 q2
      cases q1; cases q2
      obtain ⟨a1, a2, a3⟩ := e2
      obtain rfl := Nat.eq_of_beq_eq_true a1
      obtain rfl := Nat.eq_of_beq_eq_true a2
      obtain ⟨rfl, a4⟩ := a3.out
      have hst : ∀ (k j : Nat) (c : AV) (x : Value), k < len' → (rows k)[j]? = some c → cur[k * sz' + j]? = some x → Rt w (Stb C.A w st'.h V') c x := fun k j c x g1 g2 g3 => (hc.still rfl k j c x g1 (by show (rows' k)[j]? = some c; rw [a4 k g1]; exact g2) g3).mono fun b hb => ⟨hS b hb, rfl⟩
      exact ⟨hc.sz, hc.heap, fun k hk => by have := hc.rows k hk; simp only [a4 k hk] at this; exact this, fun k j c g1 g2 => let ⟨y, f1, f2, _⟩ := hc.cell k j c g1 (by simp only [a4 k g1]; exact g2); ⟨y, f1, f2, .imm _ _ (hst k j c y g1 g2 f1)⟩, fun _ => hst, hc.box, hc.own⟩
    · rename_i ty sz rows ty' sz' rows' q1 q2
      cases q1; cases q2
      obtain ⟨a1, a2, a3⟩ := e2
      obtain rfl := Nat.eq_of_beq_eq_true a1
      obtain rfl := Nat.eq_of_beq_eq_true a2
      obtain ⟨f1, f2⟩ := selL_get a3
      have hr' : (rows' 0).length = sz' := hc.rows 0 Nat.zero_lt_one
      refine ⟨hc.sz, hc.heap, fun k hk => ?_, fun k j c g1 g2 => ?_, fun g => by simp at g, hc.box, fun g => by simp at g⟩
      · have : k = 0 := by simp only at hk; omega
        subst this
        show (rows 0).length = sz'
        omega
      · have : k = 0 := by simp only at g1; omega
        subst this
        obtain ⟨c', g3, g4⟩ := f2 j c g2
        obtain ⟨y, h1, h2, h3⟩ := hc.cell 0 j c' Nat.zero_lt_one g3
        exact ⟨y, h1, h2, selC_R h3 g4 hS hl.symm⟩
    · exact e2.elim
  · obtain ⟨lb', e1, _⟩ := hlive k lb e
    exact h.hr.mine _ lb' e1 hlt
  · exact selOk_R (h.slots t) (hs t) hS hl.symm

/-! ### From a body to a contract -/
/-- The slots at the beginning. -/
def argS : Nat → List AV → Nat → AV
  | _, [] => fun _ => .any
  | k, c :: cs => upd (argS (k + 1) cs) k c
theorem argS_get : ∀ (cs : List AV) (k j : Nat), argS k cs j = if k ≤ j then (cs[j - k]?).getD .any else .any
  | [], k, j => by simp [argS]
  | c :: cs, k, j => by
    unfold argS upd
    by_cases h : j = k
    · subst h; simp
    · rw [if_neg h, argS_get cs (k + 1) j]
      by_cases h2 : k ≤ j
      · rw [if_pos (by omega), if_pos h2, show j - k = (j - (k + 1)) + 1 by omega]; rfl
      · rw [if_neg (by omega), if_neg h2]

/-- What is handed back, out of the result variables. -/
def evRes1 (T : Nat → Option TI) (st : St) : ResultVar → (AV → Prop) → Prop
  | .tmp t, K => K (st.s t)
  | .cell t ty, K => evLoad (T ty) (cellsAt st.h (st.s t)) K
def evResL (T : Nat → Option TI) (st : St) : List ResultVar → (List AV → Prop) → Prop
  | [], K => K []
  | r :: rs, K => evRes1 T st r fun c => evResL T st rs fun cs => K (c :: cs)
def evRes (T : Nat → Option TI) (st : St) (rs : List ResultVar) (K : AV → Prop) : Prop :=
  match rs with
  | [r] => evRes1 T st r K
  | rs => evResL T st rs fun cs => K (.tup cs)

section
variable {P : Program} {T : Nat → Option TI}

def resOf (tmps : Array Value) (r : ResultVar) : Sem Value :=
  match r with
  | .tmp t => pure (tmps.getD t undef)
  | .cell q t => do loadVar t (← asAddr (tmps.getD q undef))

theorem evRes1_sound (hT : TOk P T) {C : Ctx} {V st a w} (h : SRV C V st a w) {r : ResultVar} {K : AV → Prop} (hk : evRes1 T st r K) :
    ∃ c x, K c ∧ R w (Stb C.A w st.h V) V st.h.length c x ∧ (resOf a.tmps r).run P w = .ok x w := by
  cases r with
  | tmp t => exact ⟨_, _, hk, h.slots t, rfl⟩
  | cell q t =>
    have hv := vdoes_load (P := P) hT (o := ⟨none, .load t (.tmp q), 0, default, #[], none⟩) t (.tmp q) rfl hk
    obtain ⟨c, x, hc, hr, hrun⟩ := hv C V a w h
    refine ⟨c, x, hc, hr, ?_⟩
    have := hrun w (Below.refl _ _)
    simp only [execOp, Instr.loadAt, Act.eval] at this
    generalize hp : a.tmps.getD q undef = p at this
    cases p with
    | pointer o =>
      cases o with
      | none => simp [Instr.sureAddr] at this
      | some ad =>
        simp [Instr.sureAddr] at this
        simp only [resOf, hp]
        simp [asAddr]
        generalize (loadVar t ad).run P w = res at this ⊢
        cases res with
        | ok y w' => simp at this; obtain ⟨rfl, rfl⟩ := this; rfl
        | halt y w' => simp at this
    | _ => simp [Instr.sureAddr] at this

theorem evResL_sound (hT : TOk P T) {C : Ctx} {V st a w} (h : SRV C V st a w) : ∀ (rs : List ResultVar) (K : List AV → Prop), evResL T st rs K →
    ∃ cs xs, K cs ∧ xs.length = cs.length ∧ xs.length = rs.length ∧ (∀ (i : Nat) (c : AV) (x : Value), cs[i]? = some c → xs[i]? = some x → R w (Stb C.A w st.h V) V st.h.length c x) ∧
      (rs.mapM (resOf a.tmps)).run P w = .ok xs w
  | [], K, hk => ⟨[], [], hk, rfl, rfl, fun i c x h => by simp at h, rfl⟩
  | r :: rs, K, hk => by
    obtain ⟨c, x, hk, hr, hrun⟩ := evRes1_sound hT h hk
    obtain ⟨cs, xs, hk, hl, hl2, hrs, hruns⟩ := evResL_sound hT h rs _ hk
    refine ⟨c :: cs, x :: xs, hk, by simp [hl], by simp [hl2], fun i c' x' e1 e2 => ?_, ?_⟩
    · cases i with
      | zero => simp at e1 e2; subst e1 e2; exact hr
      | succ i => simp at e1 e2; exact hrs i c' x' e1 e2
    · rw [List.mapM_cons]
      simp only [Sem.run_bind, hrun, hruns, Result.andThen_ok, Sem.run_pure]

theorem evRes_sound (hT : TOk P T) {C : Ctx} {V st a w} (h : SRV C V st a w) {fn : Func} {K : AV → Prop} (hk : evRes T st fn.results.toList K) :
    ∃ c x, K c ∧ R w (Stb C.A w st.h V) V st.h.length c x ∧ (results fn a.tmps).run P w = .ok x w := by
  have hm : ∀ xs : List Value, (fn.results.toList.mapM (resOf a.tmps)).run P w = .ok xs w → (results fn a.tmps).run P w = .ok (if xs.length = 1 then xs.headD undef else .tuple xs.toArray) w := fun xs e => by
    have e0 : results fn a.tmps = (do let vs ← fn.results.mapM (resOf a.tmps); pure (if h : vs.size = 1 then vs[0] else .tuple vs)) := rfl
    rw [e0, ← Array.toArray_toList (xs := fn.results), List.mapM_toArray]
    simp only [Sem.run_bind, Sem.run_map, e, Result.andThen_ok]
    match xs with
    | [] => rfl
    | [x] => rfl
    | x :: y :: xs => simp
  unfold evRes at hk
  split at hk
  · rename_i r hr
    obtain ⟨c, x, hk, hr2, hrun⟩ := evRes1_sound hT h hk
    refine ⟨c, x, hk, hr2, ?_⟩
    have := hm [x] (by rw [hr, List.mapM_cons]; simp only [Sem.run_bind, hrun, Result.andThen_ok, List.mapM_nil, Sem.run_pure])
    simpa using this
  · rename_i hne
    obtain ⟨cs, xs, hk, hl, hl2, hrs, hruns⟩ := evResL_sound hT h _ _ hk
    refine ⟨.tup cs, .tuple xs.toArray, hk, .tup cs _ (by simpa using hl) (fun i c x e1 e2 => hrs i c x e1 (by simpa using e2)), ?_⟩
    have hne1 : xs.length ≠ 1 := by
      rw [hl2]
      intro e
      obtain ⟨r, e2⟩ := List.length_eq_one_iff.1 e
      exact hne r e2
    rw [hm xs hruns, if_neg hne1]

/-- THE ROAD. -/
theorem spec_intro {G : Env} (hG : EnvOk P G) {f : FuncId} {fn : Func} {c : Code} {args : List AV} {h : List (Option LB)} {Q : AV → List (Option LB) → Prop} (hf : P.funcs[f]? = some fn) (hb : fn.body = some c) (hok : okCode fn.ntmps c = true)
    (hn : args.length ≤ fn.ntmps) (he : evC P G fn.ntmps h.length c ⟨argS 0 args, h⟩ fun e st => match e with | .normal => evRes G.T st fn.results.toList fun r => Q r st.h | .ret => evRes G.T st fn.results.toList fun r => Q r st.h | _ => False) : Spec P f args h Q := by
  intro w V S0 vs hhr hsz hargs
  refine calls_of_wp hf hb ?_
  let C : Ctx := ⟨fn.ntmps, w, blkOf h V, V, h.length, fun b => S0 b ∨ w.heap.size ≤ b, fun b hb => .inr hb⟩
  have hsr : SRV C V ⟨argS 0 args, h⟩ { tmps := vs ++ Array.replicate (fn.ntmps - vs.size) undef, defers := [] } w := by
    refine ⟨by simp [C]; omega, rfl, Kept.refl _ _, Nat.le_refl _, fun _ _ => rfl, hhr, fun t => ?_⟩
    show R w (Stb C.A w h V) V h.length (argS 0 args t) ((vs ++ Array.replicate (fn.ntmps - vs.size) undef).getD t undef)
    rw [argS_get]
    simp only [Nat.zero_le, if_true, Nat.sub_zero]
    cases e : args[t]? with
    | none => exact .imm _ _ (.any _)
    | some c =>
      have ht : t < vs.size := by rw [hsz]; exact (List.getElem?_eq_some_iff.1 e).1
      have e2 : (vs ++ Array.replicate (fn.ntmps - vs.size) undef).getD t undef = vs[t] := by
        rw [Array.getD_eq_getD_getElem?, Array.getElem?_append_left ht]; simp [ht]
      simp only [Option.getD_some]
      rw [e2]
      exact hargs t c _ e (by simp [ht])
  refine wp_mono (evC_sound hG (C := C) c hok _ _ V _ w hsr he) ?_
  rintro e a' w' ⟨st, V', hq, hs⟩
  have fin : (evRes G.T st fn.results.toList fun r => Q r st.h) → a'.defers = [] ∧ ∃ v, (results fn a'.tmps).run P w' = .ok v w' ∧ ∃ c x V'' h', Ending.returned v = .returned x ∧ Q c h' ∧ Kept (blkOf h V) w w' ∧ h.length ≤ h'.length ∧ (∀ i, i < h.length → V'' i = V i) ∧
      HR w (blkOf h V) (fun b => S0 b ∨ w.heap.size ≤ b) V'' h' w' ∧ R w' (Stb (fun b => S0 b ∨ w.heap.size ≤ b) w' h' V'') V'' h'.length c x := fun hq => by
    obtain ⟨c, x, hk, hr, hrun⟩ := evRes_sound hG.T hs hq
    exact ⟨hs.defers, x, hrun, c, x, V', st.h, rfl, hk, hs.kept, hs.long, hs.agree, hs.hr, hr⟩
  cases e with
  | normal => exact fin hq
  | ret => exact fin hq
  | _ => exact hq.elim

end
end Go.Proofs.Ythjboaallleomaa
