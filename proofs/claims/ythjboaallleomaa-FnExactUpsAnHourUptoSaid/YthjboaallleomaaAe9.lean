/-
  The abstract evaluator, part 9: closed checks of what is told of the types; functions that are entered.
-/
import Derived.Test.YthjboaallleomaaAe8
import Derived.KernelRfl
namespace Go.Proofs.Ythjboaallleomaa
open Go.RowKit

def aggOf (P : Program) (t : TypeId) : Option Bool :=
  match P.underlying t with
  | some (.struct _) => some true
  | some (.array _ _) => some true
  | some _ => some false
  | none => none
def offsOk (P : Program) (fs : Array Field) (l : List (Nat × Nat × Bool)) : Bool :=
  (List.range l.length).all fun k => match l[k]?, fs[k]? with
    | some (o, s, g), some fd => fd.offset == o && ((P.info? fd.type).map (·.size)) == some s && decide (0 < s) && aggOf P fd.type == some g
    | _, _ => false
def placesOk (P : Program) (fs : Array Field) (l : List (Nat × Nat × Bool)) : Bool :=
  l.isEmpty || fs.toList.mapM (fun f => (P.info? f.type).map fun j => (f.offset, j.size)) == some (l.map fun x => (x.1, x.2.1))
def tiCheck (P : Program) (t : TypeId) (i : TI) : Bool :=
  ((P.info? t).map (·.size)) == some i.size && ((P.info? t).map (·.bytes)) == some i.bytes && aggOf P t == some i.agg && (i.agg || i.size == 1) &&
  (match P.underlying t with
   | some (.struct fs) => offsOk P fs i.offs && placesOk P fs i.offs && i.elem == 0 && i.kind == none && !i.str
   | some (.slice e) => i.offs.isEmpty && (i.elem == 0 || i.elem == e) && i.kind == none && !i.str
   | some (.int k) => i.offs.isEmpty && i.elem == 0 && (i.kind == none || i.kind == some k) && !i.str
   | some .string => i.offs.isEmpty && i.elem == 0 && i.kind == none
   | _ => i.offs.isEmpty && i.elem == 0 && i.kind == none && !i.str) &&
  (match i.zero with
   | .bool _ => (match P.underlying t with | some .bool => true | _ => false)
   | _ => true)

theorem run_isAgg {P : Program} {t : TypeId} {g : Bool} (h : aggOf P t = some g) (w : World) : (isAgg t).run P w = .ok g w := by
  unfold aggOf at h
  unfold isAgg
  split at h
  · rename_i d hd; simp at h; subst h; simp [run_underlying hd]
  · rename_i d hd; simp at h; subst h; simp [run_underlying hd]
  · rename_i d h1 h2 hd
    simp at h; subst h
    simp only [Sem.run_bind, run_underlying hd, Result.andThen_ok]
    rfl
  · cases h
theorem run_sizeOf {P : Program} {t : TypeId} {s : Nat} (h : (P.info? t).map (·.size) = some s) (w : World) : (sizeOf t).run P w = .ok s w := by
  obtain ⟨ti, h1, rfl⟩ := Option.map_eq_some_iff.1 h
  simp [sizeOf, typeInfo, h1]

theorem tiok_of {P : Program} {t : TypeId} {i : TI} (h : tiCheck P t i = true) (hz : (P.info? t).bind (·.zero) = some i.zero) : TIok P t i := by
  simp only [tiCheck, Bool.and_eq_true, beq_iff_eq] at h
  obtain ⟨⟨⟨⟨⟨h1, h2⟩, h3⟩, h4⟩, h5⟩, h6⟩ := h
  obtain ⟨ti, e1, e2⟩ := Option.map_eq_some_iff.1 h1
  have e3 : ti.bytes = i.bytes := by rw [e1] at h2; simpa using h2
  have e4 : ti.zero = some i.zero := by rw [e1] at hz; simpa using hz
  refine ⟨run_sizeOf h1, run_isAgg h3, fun w => by simp [zeroValue, typeInfo, e1, e4], fun f o s g e => ?_, fun hne => ?_, fun k hk => ?_, fun hs => ?_, fun b hb => ?_, fun hne => ?_, fun ha => ?_, ti, e1, e4, e2, e3⟩
  · split at h5
    · rename_i fs hu
      simp only [Bool.and_eq_true, offsOk, List.all_eq_true, List.mem_range] at h5
      have := h5.1.1.1.1 f (List.getElem?_eq_some_iff.1 e).1
      rw [e] at this
      cases e5 : fs[f]? with
      | none => simp [e5] at this
      | some fd =>
        simp only [e5, Bool.and_eq_true, beq_iff_eq, decide_eq_true_eq] at this
        obtain ⟨⟨⟨f1, f2⟩, f3⟩, f4⟩ := this
        exact ⟨fs, fd, hu, e5, f1, run_sizeOf f2, f3, run_isAgg f4⟩
    all_goals (simp only [Bool.and_eq_true, List.isEmpty_iff] at h5)
    · rw [h5.1.1.1] at e; simp at e
    · rw [h5.1.1.1] at e; simp at e
    · rw [h5.1.1] at e; simp at e
    · rw [h5.1.1.1] at e; simp at e
  · split at h5
    all_goals (simp only [Bool.and_eq_true, beq_iff_eq, Bool.or_eq_true] at h5)
    · exact absurd h5.1.1.2 hne
    · rename_i e' hu
      rcases h5.1.1.2 with h | h
      · exact absurd h hne
      · rw [h]; exact hu
    · exact absurd h5.1.1.2 hne
    · exact absurd h5.1.2 hne
    · exact absurd h5.1.1.2 hne
  · split at h5
    all_goals (simp only [Bool.and_eq_true, beq_iff_eq, Bool.or_eq_true] at h5)
    · rw [h5.1.2] at hk; cases hk
    · rw [h5.1.2] at hk; cases hk
    · rename_i k' hu
      rcases h5.1.2 with h | h
      · rw [h] at hk; cases hk
      · rw [h] at hk; cases hk; exact hu
    · rw [h5.2] at hk; cases hk
    · rw [h5.1.2] at hk; cases hk
  · split at h5
    all_goals (simp only [Bool.and_eq_true] at h5)
    · rw [hs] at h5; simp at h5
    · rw [hs] at h5; simp at h5
    · rw [hs] at h5; simp at h5
    · rename_i hu; exact hu
    · rw [hs] at h5; simp at h5
  · rw [hb] at h6
    dsimp only at h6
    split at h6
    · assumption
    · cases h6
  · split at h5
    · rename_i fs hu
      simp only [Bool.and_eq_true, placesOk, hne, Bool.false_or, beq_iff_eq] at h5
      exact ⟨fs, hu, h5.1.1.1.2⟩
    all_goals (simp only [Bool.and_eq_true, hne, Bool.false_eq_true, false_and] at h5)
  · simpa [ha] using h4

theorem tok_none {P : Program} : TOk P fun _ => none := fun t i h => by cases h
/-- One type more. -/
def addT (T : Nat → Option TI) (t : Nat) (i : TI) : Nat → Option TI := fun j => if j = t then some i else T j
theorem tok_add {P : Program} {T : Nat → Option TI} {t : Nat} {i : TI} (hi : TIok P t i) (hT : TOk P T) : TOk P (addT T t i) := fun j k h => by
  unfold addT at h
  split at h
  · rename_i e; subst e; cases h; exact hi
  · exact hT j k h

/-! ### What is known, one thing more at a time -/
def Env.addD (G : Env) (f : Nat) (cl : List AV → (Value → Prop) → Prop) : Env := ⟨G.T, fun g => match Nat.beq g f with
    | true => true
    | false => G.isD g, fun g as K => match Nat.beq g f with
    | true => cl as K
    | false => G.D g as K, G.E⟩
def Env.addE (G : Env) (f : Nat) (cl : List AV → (AV → List (Option LB) → Prop) → Prop) : Env := ⟨G.T, G.isD, G.D, fun g as K => match Nat.beq g f with
    | true => cl as K
    | false => G.E g as K⟩
def env0 (T : Nat → Option TI) : Env := ⟨T, fun _ => false, fun _ _ _ => False, fun _ _ _ => False⟩
theorem env0_ok {P : Program} {T : Nat → Option TI} (hT : TOk P T) (hm : P.follows .mixedOrders = true) : EnvOk P (env0 T) := ⟨hT, hm, fun _ _ _ h => h.elim, fun _ _ _ h => h.elim⟩
theorem EnvOk.addD {P : Program} {G : Env} (hG : EnvOk P G) {f : Nat} (hent : Enters P f) {cl : List AV → (Value → Prop) → Prop} (h : ∀ as K, cl as K → ∃ r, Spec P f as [] (fun c h => c = .v r ∧ h = []) ∧ K r) : EnvOk P (G.addD f cl) :=
  ⟨hG.T, hG.mix, fun g as K hh => by
    unfold Env.addD at hh
    dsimp only at hh
    split at hh
    · rename_i e; obtain rfl := Nat.eq_of_beq_eq_true e; exact ⟨hent, h as K hh⟩
    · exact hG.D g as K hh, hG.E⟩
theorem EnvOk.addE {P : Program} {G : Env} (hG : EnvOk P G) {f : Nat} (hent : Enters P f) {cl : List AV → (AV → List (Option LB) → Prop) → Prop} (h : ∀ as K, cl as K → Spec P f as [] K) : EnvOk P (G.addE f cl) :=
  ⟨hG.T, hG.mix, hG.D, fun g as K hh => by
    unfold Env.addE at hh
    dsimp only at hh
    split at hh
    · rename_i e; obtain rfl := Nat.eq_of_beq_eq_true e; exact ⟨hent, h as K hh⟩
    · exact hG.E g as K hh⟩
theorem enters_of {P : Program} {f : FuncId} (h : ∀ args w, (callFunc f args).run P w = .ok (.enter f args) w) : Enters P f := h

end Go.Proofs.Ythjboaallleomaa
