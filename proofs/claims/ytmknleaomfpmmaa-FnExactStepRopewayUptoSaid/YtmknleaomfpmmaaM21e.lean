/-
  The law of a step.
-/
import Derived.Test.YtmknleaomfpmmaaM21d
namespace Go.Proofs.Ytmknleaomfpmmaa
open Go.RowKit

theorem outc_len (a : Ropeway) (s : RopeStep) (hg : gd a = true) (y : Ropeway) (h : outc a s = some y) : y.2.1.length = a.2.1.length := by
  unfold outc at h
  split at h
  · cases h
    refine act_len a s ?_
    obtain ⟨m, l, w, t, d, u⟩ := a
    obtain ⟨_, hl, _⟩ := gd_out hg
    show 0 < l.length
    omega
  · cases h
theorem outc_good (a : Ropeway) (s : RopeStep) (y : Ropeway) (h : outc a s = some y) : gd y = true := by
  unfold outc at h
  split at h
  · rename_i hc
    cases h
    rw [Bool.and_eq_true] at hc
    exact hc.2
  · cases h
theorem stepBoth (a : Ropeway) (s : RopeStep) (h : a.2.1.length ≤ 1048576) : ∃ o : Option Ropeway, spec_StepRopeway a s = some (o.elim (.inl (0, [], 0, 0, 0, ())) .inr) ∧ impl_StepRopeway a s = some (o.elim (.inl (0, [], 0, 0, 0, ())) .inr) ∧ ∀ y, o = some y → y.2.1.length ≤ 1048576 := by
  have e1 : spec_l25Good (a.1, a.2.1, a.2.2.1, a.2.2.2.1, a.2.2.2.2.1, ()) = some (gd a) := goodS_eq a h
  have e2 : impl_IsRopeway (a.1, a.2.1, a.2.2.1, a.2.2.2.1, a.2.2.2.2.1, ()) = some (gd a) := isRopeway_eq a h
  have e3 : spec_l25Step (s.1, s.2.1, ()) = some (askB s) := ask_eq s
  unfold spec_StepRopeway impl_StepRopeway
  simp only [e1, e2, e3, Option.bind_some]
  cases hg : gd a
  · exact ⟨none, rfl, rfl, fun y h => by cases h⟩
  have e4 : impl_Ropeway_step (a.1, a.2.1, a.2.2.1, a.2.2.2.1, a.2.2.2.2.1, ()) (s.1, s.2.1, ()) = _ := step_eq a s hg
  refine ⟨outc a s, ?_, ?_, fun y hy => by rw [outc_len a s hg y hy]; exact h⟩
  · simp only [Bool.not_true, cond_false]
    cases ha : askB s
    · rw [ask_no a s hg ha]; rfl
    · obtain ⟨y, ok, e5, e6⟩ := make_eq a s hg ha
      have e5 : spec_l25Make (a.1, a.2.1, a.2.2.1, a.2.2.2.1, a.2.2.2.2.1, ()) (s.1, s.2.1, ()) = some (y, ok) := e5
      simp only [Bool.not_true, cond_false, e5, e6, Option.bind_some]
      cases ok <;> rfl
  · simp only [Bool.not_true, cond_false, e4, Option.bind_some]
    cases outc a s <;> rfl
theorem law_FnExactStepRopeway (a : Ropeway) (s : RopeStep) (ha : Ty.fit ty_Ropeway a) (_ : Ty.fit ty_RopeStep s) : laws_FnExactStepRopeway a s = some true := by
  obtain ⟨x, l, p, q, r, u⟩ := a
  obtain ⟨k, v, u'⟩ := s
  have h : l.length ≤ 1048576 := ha.2.1.1
  obtain ⟨y, hy⟩ := szRopeway_eq (x, l, p, q, r, ()) 1048576
  have h1 : ¬ (1 : Int) + 3 * (l.length : Int) < 0 := by omega
  obtain ⟨o, e1, e2, ho⟩ := stepBoth (x, l, p, q, r, ()) (k, v, ()) h
  unfold laws_FnExactStepRopeway laws_toRopeStep
  simp only [hy, Option.bind_some]
  by_cases h0 : y < 0
  · rw [cond_dt h0]
  rw [cond_df h0]
  cases o with
  | none =>
    simp only [Option.elim_none] at e1 e2
    simp only [toRopeway_eq (x, l, p, q, r, ()) h, e1, e2, Option.bind_some, Sum.elim_inl, eqRopeway_eq (0, [], 0, 0, 0, ()) (by simp), eqRopeway_eq (x, l, p, q, r, ()) h, markRopeway_eq _ _ _ _ l h, markRopeway_nil, heldRopeway_nil, decide_true, Bool.not_true, cond_false, beq_self_eq_true]
    rw [cond_df h1]
    rfl
  | some z =>
    obtain ⟨m', l', w', t', d', u''⟩ := z
    have hl' : l'.length ≤ 1048576 := ho _ rfl
    have h2 : ¬ (1 : Int) + 3 * (l'.length : Int) < 0 := by omega
    simp only [Option.elim_some] at e1 e2
    simp only [toRopeway_eq (x, l, p, q, r, ()) h, e1, e2, Option.bind_some, Sum.elim_inr, eqRopeway_eq (m', l', w', t', d', ()) hl', eqRopeway_eq (x, l, p, q, r, ()) h, markRopeway_eq _ _ _ _ l h, markRopeway_eq _ _ _ _ l' hl', heldRopeway_eq _ _ _ _ l'.length hl', decide_true, Bool.not_true, cond_false, beq_self_eq_true]
    simp only [cond_df h1, cond_df h2]
end Go.Proofs.Ytmknleaomfpmmaa
