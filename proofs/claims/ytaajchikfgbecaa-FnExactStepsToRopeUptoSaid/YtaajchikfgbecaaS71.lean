/-
  Plain laws of the ways of a grip: what a step does to the number of steps that are left.
-/
import Derived.Test.YtaajchikfgbecaaC713
import Derived.Test.YtaajchikfgbecaaL2
import Derived.Test.YtaajchikfgbecaaO1
namespace Go.Proofs.Ytaajchikfgbecaa
open Go.RowKit

theorem l1In_eq (a lo hi : Int) : spec_l1In a lo hi = some (decide (lo ≤ a ∧ a ≤ hi)) := by
  unfold spec_l1In
  by_cases h : lo ≤ a
  · rw [cond_dt h]; simp [h]
  · rw [cond_df h]; simp [h]
theorem within_eq (a lo hi : Int) : impl_within a lo hi = some (decide (lo ≤ a ∧ a ≤ hi)) := by
  unfold impl_within
  by_cases h : lo ≤ a
  · rw [cond_dt h]; simp [h]
  · rw [cond_df h]; simp [h]
abbrev GP (st z f n : Int) : Prop := 0 ≤ st ∧ st ≤ 4 ∧ 0 ≤ z ∧ z ≤ 3 ∧ 0 ≤ f ∧ f ≤ 2000 ∧ 0 ≤ n ∧ n ≤ 3 ∧ (f = 0 ∨ st = 2) ∧ (z = 0 → st = 0 ∨ st = 4) ∧ (z = 2 → st = 2 ∧ 500 ≤ f) ∧ (z = 3 → st ≠ 4 ∧ st ≠ 1) ∧ (z = 1 → st ≠ 4)
theorem l21Good_eq (st z f n : Int) : spec_l21Good (st, z, f, n, ()) = some (decide (GP st z f n)) := by
  simp only [spec_l21Good, l1In_eq, Option.bind_some, Bool.cond_decide, ← decide_not]
  repeat' split
  all_goals refine congrArg some ?_
  all_goals (rw [Bool.eq_iff_iff]; simp only [decide_eq_true_eq, true_iff, false_iff, Bool.false_eq_true]; omega)
theorem isGrip_eq (st z f n : Int) : impl_IsGripState (st, z, f, n, ()) = some (decide (GP st z f n)) := by
  simp only [impl_IsGripState, within_eq, Option.bind_some, Bool.cond_decide, ← decide_not]
  repeat' split
  all_goals refine congrArg some ?_
  all_goals (rw [Bool.eq_iff_iff]; simp only [decide_eq_true_eq, true_iff, false_iff, Bool.false_eq_true]; omega)
def Good (g : GripState) : Prop := GP g.1 g.2.1 g.2.2.1 g.2.2.2.1

/-- How many steps are left: to the rope, to the station. -/
def D2 (st z f : Int) : Nat := if z = 2 then 0 else if z = 1 then (if st = 0 then 3 else if st = 1 then 2 else if st = 2 then (if f < 500 then 5 else 1) else 4) else if z = 0 then (if st = 0 then 4 else 5) else (if st = 0 then 5 else if st = 3 then 6 else 7)
def D0 (st z f : Int) : Nat := if z = 0 then 0 else if z = 3 then (if st = 0 then 1 else if st = 3 then 2 else 3) else if z = 2 then 4 else (if st = 0 then 7 else if st = 1 then 6 else if st = 2 then (if f < 500 then 9 else 5) else 8)
/-- A step is no way round. -/
def Near (g r : GripState) : Prop := Good r ∧ D2 g.1 g.2.1 g.2.2.1 ≤ D2 r.1 r.2.1 r.2.2.1 + 1 ∧ D0 g.1 g.2.1 g.2.2.1 ≤ D0 r.1 r.2.1 r.2.2.1 + 1
def nearB (g : GripState) : Option (GripState × Bool) → Prop
  | some (r, true) => Near g r
  | some (_, false) => True
  | none => False
theorem nearB_t (g r : GripState) (b : Bool) (h : b = true → Near g r) : nearB g (some (r, b)) := by
  cases b
  · trivial
  · exact h rfl
theorem nearB_out {g : GripState} {x : Option (GripState × Bool)} (h : nearB g x) : ∃ r b, x = some (r, b) ∧ (b = true → Near g r) := by
  unfold nearB at h
  split at h
  · exact ⟨_, _, rfl, fun _ => h⟩
  · exact ⟨_, _, rfl, fun e => by cases e⟩
  · exact h.elim
theorem tm0 : Int.tmod (w64 ((0 : Int) + 1)) 4 = 1 := rfl
theorem tm1 : Int.tmod (w64 ((1 : Int) + 1)) 4 = 2 := rfl
theorem tm2 : Int.tmod (w64 ((2 : Int) + 1)) 4 = 3 := rfl
theorem tm3 : Int.tmod (w64 ((3 : Int) + 1)) 4 = 0 := rfl
set_option maxHeartbeats 40000000 in
theorem stepI (st z f n k v : Int) (hg : GP st z f n) (hk : 1 ≤ k ∧ k ≤ 5) (hv : v = 0 ∨ v = 1 ∨ v = 500) : nearB (st, z, f, n, ()) (impl_GripState_step (st, z, f, n, ()) (k, v, ())) := by
  have hst : st = 0 ∨ st = 1 ∨ st = 2 ∨ st = 3 ∨ st = 4 := by omega
  have hz : z = 0 ∨ z = 1 ∨ z = 2 ∨ z = 3 := by omega
  have hk : k = 1 ∨ k = 2 ∨ k = 3 ∨ k = 4 ∨ k = 5 := by omega
  have hn : n = 0 ∨ n = 1 ∨ n = 2 ∨ n = 3 := by omega
  have hf : (st ≠ 2 ∧ f = 0) ∨ (st = 2 ∧ 0 ≤ f ∧ f < 500) ∨ (st = 2 ∧ 500 ≤ f ∧ f ≤ 2000) := by omega
  rcases hf with ⟨h2, rfl⟩ | ⟨rfl, hf0, hf1⟩ | ⟨rfl, hf0, hf1⟩
  all_goals (try rcases hst with rfl | rfl | rfl | rfl | rfl)
  all_goals (rcases hz with rfl | rfl | rfl | rfl)
  all_goals first | (exfalso; omega) | skip
  all_goals (try have hfa : 0 ≤ f := by omega)
  all_goals (try have hfb : f ≤ 2000 := by omega)
  all_goals (try have hfc : ¬ 500 ≤ f := by omega)
  all_goals (try have hfd : ¬ f < 500 := by omega)
  all_goals (clear hg; rcases hk with rfl | rfl | rfl | rfl | rfl <;> rcases hv with rfl | rfl | rfl <;> rcases hn with rfl | rfl | rfl | rfl)
  all_goals (first
    | (simp [impl_GripState_step, isGrip_eq, within_eq, joinx_bind, joinx_cond, joinx_out, joinx_go, tm0, tm1, tm2, tm3, w64_id, grd, GP, nearB, Near, Good, D2, D0, hfa, hfb, hfc, hfd, hf0, hf1]; done)
    | (simp [impl_GripState_step, isGrip_eq, within_eq, joinx_cond, joinx_out, joinx_go, w64_id, grd, GP, nearB, Near, Good, D2, D0]; done)
    | (simp [impl_GripState_step, isGrip_eq, within_eq, joinx_cond, joinx_out, joinx_go, w64_id, grd, GP, nearB, Near, Good, D2, D0, hfa, hfb, hfd, hf0]; done)
    | (simp [impl_GripState_step, isGrip_eq, within_eq, joinx_cond, joinx_out, joinx_go, w64_id, grd, GP, nearB, Near, Good, D2, D0, hfa, hfb, hfc, hf1]; done)
    | skip)
end Go.Proofs.Ytaajchikfgbecaa
