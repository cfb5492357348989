/-
  Plain laws of the grip in steps.
-/
import Derived.Test.YtplknllbpdookaaC5q2
import Derived.Test.YtplknllbpdookaaL2
import Derived.Test.YtplknllbpdookaaO1
namespace Go.Proofs.Ytplknllbpdookaa
open Go.RowKit

theorem l1In_eq (a lo hi : Int) : spec_l1In a lo hi = some (decide (lo ≤ a ∧ a ≤ hi)) := by
  unfold spec_l1In
  by_cases h : lo ≤ a
  · rw [cond_dt h]; simp [h]
  · rw [cond_df h]; simp [h]
theorem within_eq (a lo hi : Int) : impl_within a lo hi = some (decide (lo ≤ a ∧ a ≤ hi)) := by
  unfold impl_within
  by_cases h : lo ≤ a
  · rw [cond_dt h]; simp [h]
  · rw [cond_df h]; simp [h]
abbrev GP (st z f n : Int) : Prop := 0 ≤ st ∧ st ≤ 4 ∧ 0 ≤ z ∧ z ≤ 3 ∧ 0 ≤ f ∧ f ≤ 2000 ∧ 0 ≤ n ∧ n ≤ 3 ∧ (f = 0 ∨ st = 2) ∧ (z = 0 → st = 0 ∨ st = 4) ∧ (z = 2 → st = 2 ∧ 500 ≤ f) ∧ (z = 3 → st ≠ 4 ∧ st ≠ 1) ∧ (z = 1 → st ≠ 4)
theorem l21Good_eq (st z f n : Int) : spec_l21Good (st, z, f, n, ()) = some (decide (GP st z f n)) := by
  simp only [spec_l21Good, l1In_eq, Option.bind_some, joinx_bind, joinx_cond, joinx_out, joinx_go, Bool.cond_decide, ← decide_not]
  repeat' split
  all_goals refine congrArg some ?_
  all_goals (rw [Bool.eq_iff_iff]; simp only [decide_eq_true_eq, true_iff, false_iff, Bool.false_eq_true]; omega)
theorem isGrip_eq (st z f n : Int) : impl_IsGripState (st, z, f, n, ()) = some (decide (GP st z f n)) := by
  simp only [impl_IsGripState, within_eq, Option.bind_some, joinx_bind, joinx_cond, joinx_out, joinx_go, Bool.cond_decide, ← decide_not]
  repeat' split
  all_goals refine congrArg some ?_
  all_goals (rw [Bool.eq_iff_iff]; simp only [decide_eq_true_eq, true_iff, false_iff, Bool.false_eq_true]; omega)

def Good (g : GripState) : Prop := GP g.1 g.2.1 g.2.2.1 g.2.2.2.1
set_option maxHeartbeats 4000000 in
theorem step_ok (st z f n k v : Int) (hg : GP st z f n) : ∃ r b, impl_GripState_step (st, z, f, n, ()) (k, v, ()) = some (r, b) ∧ (b = true → Good r) ∧
    ∃ c, spec_l21Step (st, z, f, n, ()) (k, v, ()) = some c ∧ (c = false → b = false) ∧ (c = true → ∃ r', spec_l21Make (st, z, f, n, ()) (k, v, ()) = some (r', b) ∧ (b = true → r' = r)) := by
  have hst : st = 0 ∨ st = 1 ∨ st = 2 ∨ st = 3 ∨ st = 4 := by omega
  have hz : z = 0 ∨ z = 1 ∨ z = 2 ∨ z = 3 := by omega
  have hk : k = 1 ∨ k = 2 ∨ k = 3 ∨ k = 4 ∨ k = 5 ∨ (k < 1 ∨ 5 < k) := by omega
  have e4 : w64 (n + 1) = n + 1 := w64_id (by omega) (by omega)
  have e1 : Int.tmod (w64 (1 : Int)) 4 = 1 := rfl
  have e2 : Int.tmod (w64 (2 : Int)) 4 = 2 := rfl
  have e3 : Int.tmod (w64 (3 : Int)) 4 = 3 := rfl
  have e5 : Int.tmod (w64 (4 : Int)) 4 = 0 := rfl
  rcases hst with rfl | rfl | rfl | rfl | rfl <;> rcases hz with rfl | rfl | rfl | rfl <;> first | (exfalso; omega) | skip
  all_goals rcases hk with rfl | rfl | rfl | rfl | rfl | hk
  all_goals (try have hk1 : ¬ k = 1 := by omega)
  all_goals (try have hk2 : ¬ k = 2 := by omega)
  all_goals (try have hk3 : ¬ k = 3 := by omega)
  all_goals (try have hk4 : ¬ k = 4 := by omega)
  all_goals (try have hk5 : ¬ k = 5 := by omega)
  all_goals (try have hk6 : ¬ (1 ≤ k ∧ k ≤ 5) := by omega)
  all_goals (try (have h0f : f = 0 := (by omega); subst h0f))
  all_goals (have hn : n = 0 ∨ n = 1 ∨ n = 2 ∨ n = 3 := by omega)
  all_goals (have hn0 : 0 ≤ n := by omega)
  all_goals (have hn1 : n ≤ 3 := by omega)
  all_goals (try (have hf0 : 0 ≤ f := by omega))
  all_goals (try (have hf1 : f ≤ 2000 := by omega))
  all_goals
    (first
      | simp [-Prod.exists, impl_GripState_step, spec_l21Step, spec_l21Make, spec_l21Move, spec_l1Least, isGrip_eq, l21Good_eq, l1In_eq, within_eq, joinx_bind, joinx_cond, joinx_out, joinx_go, e1, e2, e3, e5, e4, grd, GP, hk1, hk2, hk3, hk4, hk5, hk6, hn0, hn1]
      | simp [-Prod.exists, impl_GripState_step, spec_l21Step, spec_l21Make, spec_l21Move, spec_l1Least, isGrip_eq, l21Good_eq, l1In_eq, within_eq, joinx_bind, joinx_cond, joinx_out, joinx_go, e1, e2, e3, e5, e4, grd, GP, hn0, hn1, hf0, hf1]
      | simp [-Prod.exists, impl_GripState_step, spec_l21Step, spec_l21Make, spec_l21Move, spec_l1Least, isGrip_eq, l21Good_eq, l1In_eq, within_eq, joinx_bind, joinx_cond, joinx_out, joinx_go, e1, e2, e3, e5, e4, grd, GP, hn0, hn1]) <;>
    by_cases hv : v = 0 <;> by_cases hw : (1 ≤ v ∧ v ≤ 2000) <;> (first | (exfalso; omega) | skip) <;> (try simp [-Prod.exists, hv, hw]) <;>
    rcases hn with rfl | rfl | rfl | rfl <;> (try simp [-Prod.exists, hv, hw]) <;> (try by_cases h5 : f < 500) <;> (try simp [-Prod.exists, h5]) <;> (first | omega | (simp only [Good]; omega) | exact ⟨_, .inr ⟨⟨rfl, by omega⟩, (by simp only [Good]; omega), rfl⟩⟩ | (rw [show (decide (1 ≤ v) && decide (v ≤ 2000)) = false from (by rw [Bool.eq_false_iff]; simp; omega)]; refine ⟨⟨_, rfl⟩, ?_⟩; omega) | (rw [decide_eq_true (show 500 ≤ f by omega)]; exact ⟨_, ⟨rfl, by omega⟩, (by simp only [Good]; omega), rfl⟩) | (rw [decide_eq_false (show ¬ 500 ≤ f by omega)]; exact ⟨_, .inl ⟨rfl, _, rfl⟩⟩) | skip)
theorem stepGrip_ok (g : GripState) (s : GripStep) : ∃ y, spec_StepGrip g s = some y ∧ impl_StepGrip g s = some y := by
  obtain ⟨st, z, f, n, u⟩ := g
  obtain ⟨k, v, u'⟩ := s
  unfold spec_StepGrip impl_StepGrip
  simp only [l21Good_eq, isGrip_eq, Option.bind_some]
  by_cases hg : GP st z f n
  · obtain ⟨r, b, h1, _, c, h2, h3, h4⟩ := step_ok st z f n k v hg
    rw [cond_ndt hg, cond_ndt hg]
    simp only [h1, h2, Option.bind_some]
    cases c with
    | false => rw [h3 rfl]; exact ⟨_, rfl, rfl⟩
    | true =>
      obtain ⟨r', h5, h6⟩ := h4 rfl
      simp only [h5, Option.bind_some, Bool.not_true, cond_false]
      cases b with
      | false => exact ⟨_, rfl, rfl⟩
      | true => rw [h6 rfl]; exact ⟨_, rfl, rfl⟩
  · rw [cond_ndf hg, cond_ndf hg]
    exact ⟨_, rfl, rfl⟩
theorem eqGripState_eq (a b c d : Int) : laws_eqGripState (a, b, c, d, ()) (a, b, c, d, ()) = some true := by
  unfold laws_eqGripState
  rw [cond_ndt rfl, cond_ndt rfl, cond_ndt rfl, cond_ndt rfl]
theorem law_FnExactStepGrip (g : GripState) (s : GripStep) (_ : Ty.fit ty_GripState g) (_ : Ty.fit ty_GripStep s) : laws_FnExactStepGrip g s = some true := by
  obtain ⟨st, z, f, n, u⟩ := g
  obtain ⟨k, v, u'⟩ := s
  obtain ⟨⟨⟨a, b, c, d, u2⟩, ok⟩, e1, e2⟩ := stepGrip_ok (st, z, f, n, ()) (k, v, ())
  unfold laws_FnExactStepGrip
  simp only [laws_toGripState, laws_toGripStep, Option.bind_some, e1, e2, eqGripState_eq, Bool.not_true, cond_false, beq_self_eq_true]

theorem toGripStepS_eq (l : List GripStep) (h : l.length ≤ 1048576) : laws_toGripStepS l = some l := by
  unfold laws_toGripStepS
  rw [grd_pos (by omega)]
  have H : iter (fun s => laws_toGripStepS_loop1 l s.1 s.2) ((0 : Int), (List.replicate (l.length : Int).toNat ((0 : Int), (0 : Int), ()))) = some l :=
    iter_copy l ((0 : Int), (0 : Int), ()) d_GripStep (fun k m hk hm => by
      show laws_toGripStepS_loop1 l (k : Int) m = _
      unfold laws_toGripStepS_loop1 laws_toGripStep
      rw [cond_dt (by omega), grd_pos (by omega), Option.bind_some, grd_pos (by omega), w64_nat (by omega)]
      rfl) (by
      show laws_toGripStepS_loop1 l (l.length : Int) l = _
      unfold laws_toGripStepS_loop1
      rw [cond_df (by omega)]) rfl
  rw [H]; rfl
theorem eqGripStepS_eq (l : List GripStep) (h : l.length ≤ 1048576) : laws_eqGripStepS l l = some true := by
  unfold laws_eqGripStepS
  rw [cond_ndt rfl]
  have H : iter (fun s => laws_eqGripStepS_loop1 l l s) (0 : Int) = some (Sum.inr ()) :=
    iter_for l.length (fun k => (k : Int)) (fun k hk => by
      show laws_eqGripStepS_loop1 l l (k : Int) = _
      unfold laws_eqGripStepS_loop1 laws_eqGripStep
      rw [cond_dt (by omega), grd_pos (by omega), grd_pos (by omega), cond_ndt rfl, cond_ndt rfl, w64_nat (by omega)]
      rfl) (by
      show laws_eqGripStepS_loop1 l l (l.length : Int) = _
      unfold laws_eqGripStepS_loop1
      rw [cond_df (by omega)]) rfl
  rw [H]; rfl
theorem runGrip_ok (g : GripState) (l : List GripStep) (h : l.length ≤ 1048576) : ∃ y, spec_RunGrip g l = some y ∧ impl_RunGrip g l = some y := by
  obtain ⟨st, z, f, n, u⟩ := g
  unfold spec_RunGrip impl_RunGrip
  simp only [l21Good_eq, isGrip_eq, Option.bind_some]
  by_cases hg : GP st z f n
  case neg => rw [cond_ndf hg, cond_ndf hg]; exact ⟨_, rfl, rfl⟩
  rw [cond_ndt hg, cond_ndt hg]
  by_cases h30 : (30 : Int) < l.length
  · rw [cond_dt h30, cond_dt h30]; exact ⟨_, rfl, rfl⟩
  rw [cond_df h30, cond_df h30]
  obtain ⟨r, r', e1, e2, rfl⟩ := iter_rel (f := fun s => spec_RunGrip_loop1 l s.1 s.2.1 s.2.2.1 s.2.2.2.1 s.2.2.2.2.1 s.2.2.2.2.2) (g := fun s => impl_RunGrip_loop1 l s.1 s.2.1 s.2.2.1 s.2.2.2.1 s.2.2.2.2.1 s.2.2.2.2.2)
    (fun (k : Nat) s t => ∃ c st z f n : Int, s = (c, (k : Int), st, z, f, n) ∧ t = (c, (k : Int), st, z, f, n) ∧ GP st z f n) (fun r r' => r = r') l.length
    (by
      rintro k _ _ hk ⟨c, st, z, f, n, rfl, rfl, hg⟩
      refine .inl ?_
      rcases hx : l.getD k d_GripStep with ⟨kd, v, u'⟩
      obtain ⟨⟨st', z', f', n', u2⟩, b, h1, hgood, c', h2, h3, h4⟩ := step_ok st z f n kd v hg
      have hI : impl_RunGrip_loop1 l c (k : Int) st z f n = some (.go (if b = true then (w64 (c + 1), ((k + 1 : Nat) : Int), st', z', f', n') else (c, ((k + 1 : Nat) : Int), st, z, f, n))) := by
        unfold impl_RunGrip_loop1
        rw [cond_dt (by omega), grd_pos (by omega), Int.toNat_natCast, hx, w64_nat (by omega)]
        simp only [h1, Option.bind_some]
        cases b <;> rfl
      have hS : spec_RunGrip_loop1 l c (k : Int) st z f n = some (.go (if b = true then (w64 (c + 1), ((k + 1 : Nat) : Int), st', z', f', n') else (c, ((k + 1 : Nat) : Int), st, z, f, n))) := by
        unfold spec_RunGrip_loop1
        rw [cond_dt (by omega), grd_pos (by omega), Int.toNat_natCast, hx, w64_nat (by omega)]
        simp only [h2, Option.bind_some]
        cases c' with
        | false => rw [h3 rfl]; rfl
        | true =>
          obtain ⟨r', h5, h6⟩ := h4 rfl
          rw [Bool.not_true, cond_false, grd_pos (by omega)]
          simp only [h5, Option.bind_some]
          cases b with
          | false => rfl
          | true => rw [h6 rfl]; rfl
      refine ⟨_, _, hS, hI, ?_⟩
      cases b with
      | false => exact ⟨c, st, z, f, n, rfl, rfl, hg⟩
      | true => exact ⟨w64 (c + 1), st', z', f', n', rfl, rfl, hgood rfl⟩)
    (by
      rintro _ _ ⟨c, st, z, f, n, rfl, rfl, hg⟩
      refine ⟨(c, st, z, f, n), (c, st, z, f, n), ?_, ?_, rfl⟩
      · show spec_RunGrip_loop1 l c (l.length : Int) st z f n = _
        unfold spec_RunGrip_loop1
        rw [cond_df (by omega)]
      · show impl_RunGrip_loop1 l c (l.length : Int) st z f n = _
        unfold impl_RunGrip_loop1
        rw [cond_df (by omega)])
    (s := ((0 : Int), (0 : Int), st, z, f, n)) (t := ((0 : Int), (0 : Int), st, z, f, n)) ⟨0, st, z, f, n, rfl, rfl, hg⟩
  simp only [e1, e2]
  exact ⟨_, rfl, rfl⟩
theorem szGripStepS_eq (a : List GripStep) (n : Int) : ∃ y, laws_szGripStepS a n = some y := by
  unfold laws_szGripStepS
  by_cases h1 : w64 (n - (a.length : Int)) < 0
  · rw [cond_dt h1]; exact ⟨_, rfl⟩
  · rw [cond_df h1]; exact ⟨_, rfl⟩
theorem law_FnExactRunGrip (g : GripState) (l : List GripStep) (_ : Ty.fit ty_GripState g) (hl : Ty.fit (.sl ty_GripStep) l) : laws_FnExactRunGrip g l = some true := by
  have h : l.length ≤ 1048576 := hl.1
  obtain ⟨st, z, f, n, u⟩ := g
  obtain ⟨⟨⟨a, b, c, d, u2⟩, m, ok⟩, e1, e2⟩ := runGrip_ok (st, z, f, n, ()) l h
  obtain ⟨y, hy⟩ := szGripStepS_eq l 1048576
  unfold laws_FnExactRunGrip
  simp only [hy, Option.bind_some]
  by_cases h0 : y < 0
  · rw [cond_dt h0]
  · rw [cond_df h0]
    simp only [laws_toGripState, toGripStepS_eq l h, eqGripStepS_eq l h, Option.bind_some, e1, e2, eqGripState_eq, decide_true, Bool.not_true, cond_false, beq_self_eq_true]

end Go.Proofs.Ytplknllbpdookaa
