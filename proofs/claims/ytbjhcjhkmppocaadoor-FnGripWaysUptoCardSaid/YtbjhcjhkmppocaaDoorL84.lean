/-
  Plain laws, carried over from texts of other seats.
-/
import Derived.Test.YtbjhcjhkmppocaaDoorC827
import Derived.Test.YtbjhcjhkmppocaaDoorO1
import Derived.Test.YtbjhcjhkmppocaaDoorTN
import Derived.Test.YtbjhcjhkmppocaaDoorL2
namespace Go.Proofs.YtbjhcjhkmppocaaDoor
open Go.RowKit

theorem l1In_eq (a lo hi : Int) : spec_l1In a lo hi = some (decide (lo ≤ a ∧ a ≤ hi)) := by
  unfold spec_l1In
  by_cases h : lo ≤ a
  · rw [cond_dt h]; simp [h]
  · rw [cond_df h]; simp [h]
theorem within_eq (a lo hi : Int) : impl_within a lo hi = some (decide (lo ≤ a ∧ a ≤ hi)) := by
  unfold impl_within
  by_cases h : lo ≤ a
  · rw [cond_dt h]; simp [h]
  · rw [cond_df h]; simp [h]
abbrev GP (st z f n : Int) : Prop := 0 ≤ st ∧ st ≤ 4 ∧ 0 ≤ z ∧ z ≤ 3 ∧ 0 ≤ f ∧ f ≤ 2000 ∧ 0 ≤ n ∧ n ≤ 3 ∧ (f = 0 ∨ st = 2) ∧ (z = 0 → st = 0 ∨ st = 4) ∧ (z = 2 → st = 2 ∧ 500 ≤ f) ∧ (z = 3 → st ≠ 4 ∧ st ≠ 1) ∧ (z = 1 → st ≠ 4)
theorem l21Good_eq (st z f n : Int) : spec_l21Good (st, z, f, n, ()) = some (decide (GP st z f n)) := by
  simp only [spec_l21Good, l1In_eq, Option.bind_some, Bool.cond_decide, ← decide_not]
  repeat' split
  all_goals refine congrArg some ?_
  all_goals (rw [Bool.eq_iff_iff]; simp only [decide_eq_true_eq, true_iff, false_iff, Bool.false_eq_true]; omega)
theorem isGrip_eq (st z f n : Int) : impl_IsGripState (st, z, f, n, ()) = some (decide (GP st z f n)) := by
  simp only [impl_IsGripState, within_eq, Option.bind_some, Bool.cond_decide, ← decide_not]
  repeat' split
  all_goals refine congrArg some ?_
  all_goals (rw [Bool.eq_iff_iff]; simp only [decide_eq_true_eq, true_iff, false_iff, Bool.false_eq_true]; omega)
def Good (g : GripState) : Prop := GP g.1 g.2.1 g.2.2.1 g.2.2.2.1

/-- How many steps are left: to the rope, to the station. -/
def D2 (st z f : Int) : Nat := if z = 2 then 0 else if z = 1 then (if st = 0 then 3 else if st = 1 then 2 else if st = 2 then (if f < 500 then 5 else 1) else 4) else if z = 0 then (if st = 0 then 4 else 5) else (if st = 0 then 5 else if st = 3 then 6 else 7)
def D0 (st z f : Int) : Nat := if z = 0 then 0 else if z = 3 then (if st = 0 then 1 else if st = 3 then 2 else 3) else if z = 2 then 4 else (if st = 0 then 7 else if st = 1 then 6 else if st = 2 then (if f < 500 then 9 else 5) else 8)
/-- A step is no way round. -/
def Near (g r : GripState) : Prop := Good r ∧ D2 g.1 g.2.1 g.2.2.1 ≤ D2 r.1 r.2.1 r.2.2.1 + 1 ∧ D0 g.1 g.2.1 g.2.2.1 ≤ D0 r.1 r.2.1 r.2.2.1 + 1
def nearB (g : GripState) : Option (GripState × Bool) → Prop
  | some (r, true) => Near g r
  | some (_, false) => True
  | none => False
theorem nearB_t (g r : GripState) (b : Bool) (h : b = true → Near g r) : nearB g (some (r, b)) := by
  cases b
  · trivial
  · exact h rfl
theorem nearB_out {g : GripState} {x : Option (GripState × Bool)} (h : nearB g x) : ∃ r b, x = some (r, b) ∧ (b = true → Near g r) := by
  unfold nearB at h
  split at h
  · exact ⟨_, _, rfl, fun _ => h⟩
  · exact ⟨_, _, rfl, fun e => by cases e⟩
  · exact h.elim
theorem tm0 : Int.tmod (w64 ((0 : Int) + 1)) 4 = 1 := rfl
theorem tm1 : Int.tmod (w64 ((1 : Int) + 1)) 4 = 2 := rfl
theorem tm2 : Int.tmod (w64 ((2 : Int) + 1)) 4 = 3 := rfl
theorem tm3 : Int.tmod (w64 ((3 : Int) + 1)) 4 = 0 := rfl
set_option maxHeartbeats 40000000 in
theorem stepI (st z f n k v : Int) (hg : GP st z f n) (hk : 1 ≤ k ∧ k ≤ 5) (hv : v = 0 ∨ v = 1 ∨ v = 500) : nearB (st, z, f, n, ()) (impl_GripState_step (st, z, f, n, ()) (k, v, ())) := by
  have hst : st = 0 ∨ st = 1 ∨ st = 2 ∨ st = 3 ∨ st = 4 := by omega
  have hz : z = 0 ∨ z = 1 ∨ z = 2 ∨ z = 3 := by omega
  have hk : k = 1 ∨ k = 2 ∨ k = 3 ∨ k = 4 ∨ k = 5 := by omega
  have hn : n = 0 ∨ n = 1 ∨ n = 2 ∨ n = 3 := by omega
  have hf : (st ≠ 2 ∧ f = 0) ∨ (st = 2 ∧ 0 ≤ f ∧ f < 500) ∨ (st = 2 ∧ 500 ≤ f ∧ f ≤ 2000) := by omega
  rcases hf with ⟨h2, rfl⟩ | ⟨rfl, hf0, hf1⟩ | ⟨rfl, hf0, hf1⟩
  all_goals (try rcases hst with rfl | rfl | rfl | rfl | rfl)
  all_goals (rcases hz with rfl | rfl | rfl | rfl)
  all_goals first | (exfalso; omega) | skip
  all_goals (try have hfa : 0 ≤ f := by omega)
  all_goals (try have hfb : f ≤ 2000 := by omega)
  all_goals (try have hfc : ¬ 500 ≤ f := by omega)
  all_goals (try have hfd : ¬ f < 500 := by omega)
  all_goals (clear hg; rcases hk with rfl | rfl | rfl | rfl | rfl <;> rcases hv with rfl | rfl | rfl <;> rcases hn with rfl | rfl | rfl | rfl)
  all_goals (first
    | (simp [impl_GripState_step, isGrip_eq, within_eq, joinx_bind, joinx_cond, joinx_out, joinx_go, tm0, tm1, tm2, tm3, w64_id, grd, GP, nearB, Near, Good, D2, D0, hfa, hfb, hfc, hfd, hf0, hf1]; done)
    | (simp [impl_GripState_step, isGrip_eq, within_eq, joinx_cond, joinx_out, joinx_go, w64_id, grd, GP, nearB, Near, Good, D2, D0]; done)
    | (simp [impl_GripState_step, isGrip_eq, within_eq, joinx_cond, joinx_out, joinx_go, w64_id, grd, GP, nearB, Near, Good, D2, D0, hfa, hfb, hfd, hf0]; done)
    | (simp [impl_GripState_step, isGrip_eq, within_eq, joinx_cond, joinx_out, joinx_go, w64_id, grd, GP, nearB, Near, Good, D2, D0, hfa, hfb, hfc, hf1]; done)
    | skip)
set_option maxHeartbeats 40000000 in
theorem step_ok (st z f n k v : Int) (hg : GP st z f n) : ∃ r b, impl_GripState_step (st, z, f, n, ()) (k, v, ()) = some (r, b) ∧ (b = true → Good r) ∧
    ∃ c, spec_l21Step (st, z, f, n, ()) (k, v, ()) = some c ∧ (c = false → b = false) ∧ (c = true → ∃ r', spec_l21Make (st, z, f, n, ()) (k, v, ()) = some (r', b) ∧ (b = true → r' = r)) := by
  have hst : st = 0 ∨ st = 1 ∨ st = 2 ∨ st = 3 ∨ st = 4 := by omega
  have hz : z = 0 ∨ z = 1 ∨ z = 2 ∨ z = 3 := by omega
  have hk : k = 1 ∨ k = 2 ∨ k = 3 ∨ k = 4 ∨ k = 5 ∨ (k < 1 ∨ 5 < k) := by omega
  have e4 : w64 (n + 1) = n + 1 := w64_id (by omega) (by omega)
  have e1 : Int.tmod (w64 (1 : Int)) 4 = 1 := rfl
  have e2 : Int.tmod (w64 (2 : Int)) 4 = 2 := rfl
  have e3 : Int.tmod (w64 (3 : Int)) 4 = 3 := rfl
  have e5 : Int.tmod (w64 (4 : Int)) 4 = 0 := rfl
  rcases hst with rfl | rfl | rfl | rfl | rfl <;> rcases hz with rfl | rfl | rfl | rfl <;> first | (exfalso; omega) | skip
  all_goals rcases hk with rfl | rfl | rfl | rfl | rfl | hk
  all_goals (try have hk1 : ¬ k = 1 := by omega)
  all_goals (try have hk2 : ¬ k = 2 := by omega)
  all_goals (try have hk3 : ¬ k = 3 := by omega)
  all_goals (try have hk4 : ¬ k = 4 := by omega)
  all_goals (try have hk5 : ¬ k = 5 := by omega)
  all_goals (try have hk6 : ¬ (1 ≤ k ∧ k ≤ 5) := by omega)
  all_goals (try (have h0f : f = 0 := (by omega); subst h0f))
  all_goals (have hn : n = 0 ∨ n = 1 ∨ n = 2 ∨ n = 3 := by omega)
  all_goals (have hn0 : 0 ≤ n := by omega)
  all_goals (have hn1 : n ≤ 3 := by omega)
  all_goals (try (have hf0 : 0 ≤ f := by omega))
  all_goals (try (have hf1 : f ≤ 2000 := by omega))
  all_goals
    (first
      | simp [-Prod.exists, impl_GripState_step, spec_l21Step, spec_l21Make, spec_l21Move, spec_l1Least, isGrip_eq, l21Good_eq, l1In_eq, within_eq, joinx_cond, joinx_out, joinx_go, e1, e2, e3, e5, e4, grd, GP, hk1, hk2, hk3, hk4, hk5, hk6, hn0, hn1]
      | simp [-Prod.exists, impl_GripState_step, spec_l21Step, spec_l21Make, spec_l21Move, spec_l1Least, isGrip_eq, l21Good_eq, l1In_eq, within_eq, joinx_cond, joinx_out, joinx_go, e2, e3, e5, e4, grd, GP, hn0, hn1, hf0, hf1]
      | simp [-Prod.exists, impl_GripState_step, spec_l21Step, spec_l21Make, spec_l21Move, spec_l1Least, isGrip_eq, l21Good_eq, l1In_eq, within_eq, joinx_cond, joinx_out, joinx_go, e1, e2, e5, e4, grd, GP, hn0, hn1]) <;>
    by_cases hv : v = 0 <;> by_cases hw : (1 ≤ v ∧ v ≤ 2000) <;> (first | (exfalso; omega) | skip) <;> (try simp [-Prod.exists, hv, hw]) <;>
    rcases hn with rfl | rfl | rfl | rfl <;> (try simp [-Prod.exists]) <;> (try by_cases h5 : f < 500) <;> (try simp [-Prod.exists, h5]) <;> (first | omega | (simp only [Good]; omega) | exact ⟨_, .inr ⟨⟨rfl, by omega⟩, (by simp only [Good]; omega), rfl⟩⟩ | (rw [show (decide (1 ≤ v) && decide (v ≤ 2000)) = false from (by rw [Bool.eq_false_iff]; simp; omega)]; refine ⟨⟨_, rfl⟩, ?_⟩; omega) | (rw [decide_eq_true (show 500 ≤ f by omega)]; exact ⟨_, ⟨rfl, by omega⟩, (by simp only [Good]; omega), rfl⟩) | (rw [decide_eq_false (show ¬ 500 ≤ f by omega)]; exact ⟨_, .inl ⟨rfl, _, rfl⟩⟩) | skip)
noncomputable def okb (st z f n k v : Int) : Bool :=
  match impl_GripState_step (st, z, f, n, ()) (k, v, ()) with
  | some (_, b) => b
  | none => false
theorem step_some {st z f n : Int} (hg : GP st z f n) (k v : Int) : ∃ r, impl_GripState_step (st, z, f, n, ()) (k, v, ()) = some (r, okb st z f n k v) := by
  obtain ⟨r, b, h1, _⟩ := step_ok st z f n k v hg
  refine ⟨r, ?_⟩
  unfold okb
  rw [h1]
noncomputable def its (st z f n k : Int) : List GripStep :=
  (if okb st z f n k 0 = true then [(k, (0 : Int), ())] else []) ++ ((if okb st z f n k 1 = true then [(k, (1 : Int), ())] else []) ++ (if okb st z f n k 500 = true then [(k, (500 : Int), ())] else []))
theorem its_length (st z f n k : Int) : (its st z f n k).length ≤ 3 := by
  unfold its
  simp only [List.length_append]
  split <;> split <;> split <;> simp
theorem some_loop2 {st z f n : Int} (hg : GP st z f n) (k : Int) (acc : List GripStep) (ha : acc.length ≤ 100) :
    iter (fun s => impl_GripState_someSteps_loop2 (st, z, f, n, ()) k s.1 s.2) ((0 : Int), acc) = some (acc ++ its st z f n k) := by
  have one : ∀ (i : Nat) (v : Int) (m : List GripStep), i < 3 → ([(0 : Int), (1 : Int), (500 : Int)].getD i 0) = v → m.length ≤ 110 →
      impl_GripState_someSteps_loop2 (st, z, f, n, ()) k (i : Int) m = some (.go (((i + 1 : Nat) : Int), m ++ (if okb st z f n k v = true then [(k, v, ())] else []))) := by
    intro i v m hi hv hm
    obtain ⟨r, hr⟩ := step_some hg k v
    unfold impl_GripState_someSteps_loop2
    rw [cond_dt (by simp; omega), grd_pos (by simp; omega)]
    simp only [Int.toNat_natCast, hv, hr, Option.bind_some]
    rw [w64_nat (by omega)]
    cases okb st z f n k v
    · simp
    · simp only [cond_true]
      rw [grd_pos (by simp; omega)]; rfl
  have l1 : ∀ (v : Int), (if okb st z f n k v = true then [((k, v, ()) : GripStep)] else []).length ≤ 1 := fun v => by split <;> simp
  have s0 := one 0 0 acc (by omega) rfl (by omega)
  have s1 := one 1 1 (acc ++ (if okb st z f n k 0 = true then [(k, (0 : Int), ())] else [])) (by omega) rfl (by have := l1 0; simp only [List.length_append]; omega)
  have s2 := one 2 500 (acc ++ (if okb st z f n k 0 = true then [(k, (0 : Int), ())] else []) ++ (if okb st z f n k 1 = true then [(k, (1 : Int), ())] else [])) (by omega) rfl (by have := l1 0; have := l1 1; simp only [List.length_append]; omega)
  refine (iter_go s0).trans ((iter_go s1).trans ((iter_go s2).trans (iter_out ?_)))
  show impl_GripState_someSteps_loop2 (st, z, f, n, ()) k ((3 : Nat) : Int) _ = _
  unfold impl_GripState_someSteps_loop2
  rw [cond_df (by simp)]
  simp only [its, List.append_assoc]
theorem some_eq {st z f n : Int} (hg : GP st z f n) : impl_GripState_someSteps (st, z, f, n, ()) = some (its st z f n 1 ++ its st z f n 2 ++ its st z f n 3 ++ its st z f n 4 ++ its st z f n 5) := by
  unfold impl_GripState_someSteps
  have one : ∀ (k : Nat) (m : List GripStep), k ≤ 5 → m.length ≤ 100 → impl_GripState_someSteps_loop1 (st, z, f, n, ()) (k : Int) m = some (.go (((k + 1 : Nat) : Int), m ++ its st z f n (k : Int))) := by
    intro k m hk hm
    unfold impl_GripState_someSteps_loop1
    rw [cond_dt (by omega), some_loop2 hg _ _ hm, w64_nat (by omega)]; rfl
  have hl := its_length st z f n
  have H : iter (fun s => impl_GripState_someSteps_loop1 (st, z, f, n, ()) s.1 s.2) ((1 : Int), ([] : List GripStep)) = some (its st z f n 1 ++ its st z f n 2 ++ its st z f n 3 ++ its st z f n 4 ++ its st z f n 5) := by
    have s1 := one 1 [] (by omega) (by simp)
    have s2 := one 2 (its st z f n 1) (by omega) (by have := hl 1; omega)
    have s3 := one 3 (its st z f n 1 ++ its st z f n 2) (by omega) (by have := hl 1; have := hl 2; simp only [List.length_append]; omega)
    have s4 := one 4 (its st z f n 1 ++ its st z f n 2 ++ its st z f n 3) (by omega) (by have := hl 1; have := hl 2; have := hl 3; simp only [List.length_append]; omega)
    have s5 := one 5 (its st z f n 1 ++ its st z f n 2 ++ its st z f n 3 ++ its st z f n 4) (by omega) (by have := hl 1; have := hl 2; have := hl 3; have := hl 4; simp only [List.length_append]; omega)
    refine (iter_go s1).trans ((iter_go s2).trans ((iter_go s3).trans ((iter_go s4).trans ((iter_go s5).trans (iter_out ?_)))))
    show impl_GripState_someSteps_loop1 (st, z, f, n, ()) ((6 : Nat) : Int) _ = _
    unfold impl_GripState_someSteps_loop1
    rw [cond_df (by omega)]
    rfl
  rw [H]; rfl
theorem l21Step_eq (st z f n k v : Int) : spec_l21Step (st, z, f, n, ()) (k, v, ()) = some (if k = 2 ∧ st = 1 then decide (1 ≤ v ∧ v ≤ 2000) else decide (1 ≤ k ∧ k ≤ 5 ∧ v = 0)) := by
  unfold spec_l21Step
  simp only [l1In_eq, Option.bind_some]
  by_cases h1 : k = 2
  · rw [cond_dt h1]
    by_cases h2 : st = 1
    · rw [cond_dt h2, if_pos ⟨h1, h2⟩]
    · rw [cond_df h2, if_neg (fun h => h2 h.2)]
      subst h1
      simp
  · rw [cond_df h1, if_neg (fun h => h1 h.1)]
    by_cases h3 : 1 ≤ k ∧ k ≤ 5
    · rw [cond_dt h3]; refine congrArg some ?_; rw [Bool.eq_iff_iff]; simp; omega
    · rw [cond_df h3]; refine congrArg some ?_; symm; rw [decide_eq_false_iff_not]; omega
theorem make_some {st z f n : Int} (hg : GP st z f n) (k v : Int) (hc : (if k = 2 ∧ st = 1 then decide (1 ≤ v ∧ v ≤ 2000) else decide (1 ≤ k ∧ k ≤ 5 ∧ v = 0)) = true) : ∃ r', spec_l21Make (st, z, f, n, ()) (k, v, ()) = some (r', okb st z f n k v) := by
  obtain ⟨r, b, h1, _, c, h2, h3, h4⟩ := step_ok st z f n k v hg
  rw [l21Step_eq] at h2
  have hc' : c = true := by rw [← hc]; exact (Option.some.inj h2).symm
  obtain ⟨r', h5, _⟩ := h4 hc'
  refine ⟨r', ?_⟩
  unfold okb
  rw [h5, h1]
theorem ok_no {st z f n : Int} (hg : GP st z f n) (k v : Int) (hc : (if k = 2 ∧ st = 1 then decide (1 ≤ v ∧ v ≤ 2000) else decide (1 ≤ k ∧ k ≤ 5 ∧ v = 0)) = false) : okb st z f n k v = false := by
  obtain ⟨r, b, h1, _, c, h2, h3, h4⟩ := step_ok st z f n k v hg
  rw [l21Step_eq] at h2
  have hc' : c = false := by rw [← hc]; exact (Option.some.inj h2).symm
  unfold okb
  rw [h1]
  exact h3 hc'
theorem push_yes {st z f n : Int} (hg : GP st z f n) (hs : st = 1) (v : Int) : spec_l21Make (st, z, f, n, ()) (2, v, ()) = some ((2, z, v, n, ()), true) := by
  have hz : z = 1 := by omega
  subst hs hz
  simp [spec_l21Make, spec_l21Move]
/-- The step that leads on: its kind and its value. -/
def wk (st z f : Int) : Int := if z = 2 then 1 else if z = 0 then (if st = 0 then 1 else 5) else if z = 3 then (if st = 0 then 1 else 3) else (if st = 0 then 2 else if st = 1 then 2 else if st = 2 then (if f < 500 then 3 else 1) else 3)
def wv (st z : Int) : Int := if z = 1 then (if st = 1 then 500 else 0) else 0
set_option maxHeartbeats 40000000 in
theorem stepW (st z f n : Int) (hg : GP st z f n) : ∃ r, impl_GripState_step (st, z, f, n, ()) (wk st z f, wv st z, ()) = some (r, true) ∧
    (z ≠ 2 → D2 r.1 r.2.1 r.2.2.1 + 1 = D2 st z f) ∧ (z ≠ 0 → D0 r.1 r.2.1 r.2.2.1 + 1 = D0 st z f) := by
  have hst : st = 0 ∨ st = 1 ∨ st = 2 ∨ st = 3 ∨ st = 4 := by omega
  have hz : z = 0 ∨ z = 1 ∨ z = 2 ∨ z = 3 := by omega
  have hn : n = 0 ∨ n = 1 ∨ n = 2 ∨ n = 3 := by omega
  have hf : (st ≠ 2 ∧ f = 0) ∨ (st = 2 ∧ 0 ≤ f ∧ f < 500) ∨ (st = 2 ∧ 500 ≤ f ∧ f ≤ 2000) := by omega
  rcases hf with ⟨h2, rfl⟩ | ⟨rfl, hf0, hf1⟩ | ⟨rfl, hf0, hf1⟩
  all_goals (try rcases hst with rfl | rfl | rfl | rfl | rfl)
  all_goals (rcases hz with rfl | rfl | rfl | rfl)
  all_goals first | (exfalso; omega) | skip
  all_goals (try have hfa : 0 ≤ f := by omega)
  all_goals (try have hfb : f ≤ 2000 := by omega)
  all_goals (try have hfc : ¬ 500 ≤ f := by omega)
  all_goals (try have hfd : ¬ f < 500 := by omega)
  all_goals (clear hg; rcases hn with rfl | rfl | rfl | rfl)
  all_goals (first
    | (simp [wk, wv, impl_GripState_step, isGrip_eq, within_eq, joinx_cond, joinx_out, joinx_go, w64_id, grd, GP, D2, D0]; done)
    | (simp [wk, wv, impl_GripState_step, isGrip_eq, within_eq, joinx_cond, joinx_out, joinx_go, w64_id, grd, GP, D2, D0, hfa, hfb, hfd, hf0]; done)
    | (simp [wk, wv, impl_GripState_step, isGrip_eq, within_eq, joinx_cond, joinx_out, joinx_go, w64_id, grd, GP, D2, D0, hfa, hfb, hfc, hf1]; done)
    | skip)
theorem wk_range (st z f : Int) : 1 ≤ wk st z f ∧ wk st z f ≤ 5 := by
  unfold wk; repeat' split
  all_goals omega
theorem wv_range (st z : Int) : wv st z = 0 ∨ wv st z = 1 ∨ wv st z = 500 := by
  unfold wv; repeat' split
  all_goals omega
/-- What the reference tries for a kind. -/
def tryv (st k : Int) : Int := if k = 2 ∧ st = 1 then 2000 else 0
theorem try_eq (st z f n k : Int) : spec_l21Try (st, z, f, n, ()) k = some (k, tryv st k, ()) := by
  unfold spec_l21Try tryv
  by_cases h2 : k = 2
  · rw [cond_dt h2]
    by_cases h3 : st = 1
    · rw [cond_dt h3, if_pos ⟨h2, h3⟩]
    · rw [cond_df h3, if_neg (fun h => h3 h.2)]
  · rw [cond_df h2, if_neg (fun h => h2 h.1)]
theorem stepS (st z f n k : Int) (hg : GP st z f n) (hk : 1 ≤ k ∧ k ≤ 5) : nearB (st, z, f, n, ()) (spec_l21Make (st, z, f, n, ()) (k, tryv st k, ())) := by
  by_cases h : k = 2 ∧ st = 1
  · obtain ⟨rfl, hs⟩ := h
    have hz : z = 1 := by omega
    rw [push_yes hg hs]
    refine nearB_t _ _ _ (fun _ => ?_)
    have hf : f = 0 := by omega
    subst hs hz hf
    refine ⟨?_, ?_, ?_⟩
    · show GP _ _ _ _
      simp only [tryv]
      refine ⟨by omega, by omega, by omega, by omega, ?_, ?_, by omega, by omega, ?_, ?_, ?_, ?_, ?_⟩ <;> simp
    · simp [D2, tryv]
    · simp [D0, tryv]
  · have hv : tryv st k = 0 := if_neg h
    rw [hv]
    obtain ⟨r, b, h1, h2, c, h3, h4, h5⟩ := step_ok st z f n k 0 hg
    rw [l21Step_eq, if_neg h] at h3
    have hc : c = true := by rw [← Option.some.inj h3]; simp; omega
    obtain ⟨r', h6, h7⟩ := h5 hc
    rw [h6]
    refine nearB_t _ _ _ (fun hb => ?_)
    rw [h7 hb]
    have := stepI st z f n k 0 hg hk (.inl rfl)
    rw [h1, hb] at this
    exact this
theorem stepWS (st z f n : Int) (hg : GP st z f n) : ∃ r, spec_l21Make (st, z, f, n, ()) (wk st z f, tryv st (wk st z f), ()) = some (r, true) ∧
    (z ≠ 2 → D2 r.1 r.2.1 r.2.2.1 + 1 = D2 st z f) ∧ (z ≠ 0 → D0 r.1 r.2.1 r.2.2.1 + 1 = D0 st z f) := by
  by_cases h : wk st z f = 2 ∧ st = 1
  · obtain ⟨hw, hs⟩ := h
    have hz : z = 1 := by omega
    have hf : f = 0 := by omega
    rw [hw, push_yes hg hs]
    refine ⟨_, rfl, fun _ => ?_, fun _ => ?_⟩
    · subst hs hz hf; simp [D2, tryv]
    · subst hs hz hf; simp [D0, tryv]
  · have hv : tryv st (wk st z f) = 0 := if_neg h
    have hv0 : wv st z = 0 := by
      by_cases hz : z = 1
      · by_cases hs : st = 1
        · exfalso; apply h; subst hs hz; exact ⟨by simp [wk], rfl⟩
        · unfold wv; rw [if_pos hz, if_neg hs]
      · unfold wv; rw [if_neg hz]
    obtain ⟨r0, h0, hd⟩ := stepW st z f n hg
    rw [hv0] at h0
    obtain ⟨r, b, h1, h2, c, h3, h4, h5⟩ := step_ok st z f n (wk st z f) 0 hg
    rw [h0] at h1
    have hb : b = true := ((Prod.mk.inj (Option.some.inj h1)).2).symm
    have hr : r0 = r := (Prod.mk.inj (Option.some.inj h1)).1
    have hk := wk_range st z f
    rw [l21Step_eq, if_neg h] at h3
    have hc : c = true := by rw [← Option.some.inj h3]; simp; omega
    obtain ⟨r', h6, h7⟩ := h5 hc
    rw [hv, h6, h7 hb, hb, ← hr]
    exact ⟨_, rfl, hd⟩
/-- A walk along a list that may stop. -/
theorem iter_scan {α σ τ ρ : Type} {f : Int × σ → Option (Lp (Int × σ) (ρ ⊕ τ))} (d : α) (S : List α) (hit : α → Bool) (rho : ρ) (stepf : σ → α → σ) (fin : σ → τ) (J : Nat → σ → Prop)
    (hgo : ∀ (k : Nat) (s : σ), k < S.length → J k s → hit (S.getD k d) = false → f ((k : Int), s) = some (.go (((k + 1 : Nat) : Int), stepf s (S.getD k d))) ∧ J (k + 1) (stepf s (S.getD k d)))
    (hhit : ∀ (k : Nat) (s : σ), k < S.length → J k s → hit (S.getD k d) = true → f ((k : Int), s) = some (.out (.inl rho)))
    (hend : ∀ (s : σ), J S.length s → f ((S.length : Int), s) = some (.out (.inr (fin s)))) (s : σ) (hJ : J 0 s) :
    iter f ((0 : Int), s) = some (if S.any hit = true then .inl rho else .inr (fin (S.foldl stepf s))) := by
  have H : ∀ (m k : Nat) (s : σ), k + m = S.length → J k s → iter f ((k : Int), s) = some (if (S.drop k).any hit = true then .inl rho else .inr (fin ((S.drop k).foldl stepf s))) := by
    intro m
    induction m with
    | zero =>
      intro k s hk hj
      have hk' : k = S.length := by omega
      subst hk'
      rw [iter_out (hend s hj)]
      simp
    | succ m ih =>
      intro k s hk hj
      have hlt : k < S.length := by omega
      have hd : S.drop k = S.getD k d :: S.drop (k + 1) := by
        rw [List.drop_eq_getElem_cons hlt, getD_eq S k d hlt]
      rw [hd]
      cases hc : hit (S.getD k d)
      · obtain ⟨h1, h2⟩ := hgo k s hlt hj hc
        rw [iter_go h1, ih (k + 1) _ (by omega) h2]
        simp only [List.any_cons, hc, Bool.false_or, List.foldl_cons]
      · rw [iter_out (hhit k s hlt hj hc)]
        simp only [List.any_cons, hc, Bool.true_or, if_true]
  have := H S.length 0 s (by omega) hJ
  simpa using this

theorem eta4 (g : GripState) : ((g.1, g.2.1, g.2.2.1, g.2.2.2.1, ()) : GripState) = g := rfl
theorem eta2 (g : GripStep) : ((g.1, g.2.1, ()) : GripStep) = g := rfl
/-- How far a state is from the zone `t`. -/
def DD (t : Int) (g : GripState) : Nat := if t = 2 then D2 g.1 g.2.1 g.2.2.1 else D0 g.1 g.2.1 g.2.2.1
theorem DD_le (t : Int) (g : GripState) : DD t g ≤ 9 := by
  unfold DD D2 D0; repeat' split
  all_goals omega
theorem DD_zero (t : Int) (ht : t = 0 ∨ t = 2) (g : GripState) : DD t g = 0 ↔ g.2.1 = t := by
  rcases ht with rfl | rfl
  · unfold DD D0; rw [if_neg (by omega)]
    repeat' split
    all_goals (constructor <;> intro _ <;> first | omega | (exfalso; omega) | assumption | rfl)
  · unfold DD D2; rw [if_pos rfl]
    repeat' split
    all_goals (constructor <;> intro _ <;> first | omega | (exfalso; omega) | assumption | rfl)
theorem Near_DD {g r : GripState} (h : Near g r) (t : Int) : DD t g ≤ DD t r + 1 := by
  unfold DD; split
  · exact h.2.1
  · exact h.2.2
theorem lead_DD {st z f n : Int} {r : GripState} (t : Int) (ht : t = 0 ∨ t = 2) (hz : z ≠ t) (h : (z ≠ 2 → D2 r.1 r.2.1 r.2.2.1 + 1 = D2 st z f) ∧ (z ≠ 0 → D0 r.1 r.2.1 r.2.2.1 + 1 = D0 st z f)) : DD t r + 1 = DD t (st, z, f, n, ()) := by
  unfold DD
  rcases ht with rfl | rfl
  · rw [if_neg (by omega), if_neg (by omega)]; exact h.2 hz
  · rw [if_pos rfl, if_pos rfl]; exact h.1 hz

noncomputable def stp (g : GripState) (s : GripStep) : GripState := match impl_GripState_step g s with
  | some (r, _) => r
  | none => g
noncomputable def itsG (g : GripState) : List GripStep := its g.1 g.2.1 g.2.2.1 g.2.2.2.1 1 ++ its g.1 g.2.1 g.2.2.1 g.2.2.2.1 2 ++ its g.1 g.2.1 g.2.2.1 g.2.2.2.1 3 ++ its g.1 g.2.1 g.2.2.1 g.2.2.2.1 4 ++ its g.1 g.2.1 g.2.2.1 g.2.2.2.1 5
noncomputable def addK (p : List GripState × List GripState) (r : GripState) : List GripState × List GripState :=
  if r ∈ p.1 then p else (p.1 ++ [r], p.2 ++ [r])
theorem eqK_iff (x y : GripState) : eqK ty_GripState x y = true ↔ x = y := by
  obtain ⟨x1, x2, x3, x4, _⟩ := x
  obtain ⟨y1, y2, y3, y4, _⟩ := y
  show (eqI x1 y1 && (eqI x2 y2 && (eqI x3 y3 && (eqI x4 y4 && true)))) = true ↔ _
  simp [eqI]
theorem hasK_iff (x : GripState) (ks : List GripState) : hasK ty_GripState x ks = true ↔ x ∈ ks := by
  show (List.any (α := GripState) ks (fun y => eqK ty_GripState x y)) = true ↔ _
  rw [List.any_eq_true]
  constructor
  · rintro ⟨y, hy, e⟩
    rw [(eqK_iff x y).1 e]; exact hy
  · intro h; exact ⟨x, h, (eqK_iff x x).2 rfl⟩
theorem addK_eq (p : List GripState × List GripState) (r : GripState) : addK p r = if hasK ty_GripState r p.1 = true then p else (insK ty_GripState r p.1, p.2 ++ [r]) := by
  unfold addK insK
  by_cases h : r ∈ p.1
  · rw [if_pos h, if_pos ((hasK_iff r p.1).2 h)]
  · have h' : ¬ hasK ty_GripState r p.1 = true := fun e => h ((hasK_iff r p.1).1 e)
    rw [if_neg h, if_neg h']
    exact congrArg (fun z : List GripState => (z, p.2 ++ [r])) (if_neg h').symm
theorem l21In_eq (l : List GripState) (x : GripState) (h : l.length < 4611686018427387904) : spec_l21In l x = some (decide (x ∈ l)) := by
  have hp : ∀ y : GripState, (decide (y.1 = x.1) && (decide (y.2.1 = x.2.1) && (decide (y.2.2.1 = x.2.2.1) && (decide (y.2.2.2.1 = x.2.2.2.1) && true)))) = decide (y = x) := by
    rintro ⟨y1, y2, y3, y4, _⟩
    obtain ⟨x1, x2, x3, x4, _⟩ := x
    rw [Bool.eq_iff_iff]; simp
  obtain ⟨r, hr, h1⟩ := iter_ex (f := fun s => spec_l21In_loop1 l x s) (miss := Sum.inr ()) l.length (fun k => decide (l.getD k d_GripState = x)) (fun _ => Sum.inl ()) (fun k => (k : Int)) (fun k hk => by
    show spec_l21In_loop1 l x (k : Int) = _
    unfold spec_l21In_loop1
    rw [cond_dt (by omega), grd_pos (by omega), Int.toNat_natCast, hp, w64_nat (by omega)]
    by_cases e : l.getD k d_GripState = x
    · rw [cond_dt e, decide_eq_true e]; rfl
    · rw [cond_df e, decide_eq_false e]; rfl) (by
    show spec_l21In_loop1 l x (l.length : Int) = _
    unfold spec_l21In_loop1
    rw [cond_df (by omega)]) (s := (0 : Int)) rfl
  rcases h1 with ⟨k, hk, hq, _, rfl⟩ | ⟨h2, rfl⟩
  · unfold spec_l21In; rw [hr]
    have e : l.getD k d_GripState = x := of_decide_eq_true hq
    have hm : x ∈ l := by rw [← e, getD_eq _ _ _ hk]; exact List.getElem_mem hk
    rw [decide_eq_true hm]; rfl
  · unfold spec_l21In; rw [hr]
    have hm : x ∉ l := fun hm => by
      obtain ⟨k, hk, e⟩ := List.mem_iff_getElem.1 hm
      have := h2 k hk
      rw [getD_eq _ _ _ hk, e] at this
      simp at this
    rw [decide_eq_false hm]; rfl

noncomputable def addX (p : List GripState × List GripState) (g : GripState) : List GripState × List GripState := ((itsG g).map (stp g)).foldl addK p
theorem itsG_length (g : GripState) : (itsG g).length ≤ 15 := by
  unfold itsG
  have h := its_length g.1 g.2.1 g.2.2.1 g.2.2.2.1
  have := h 1; have := h 2; have := h 3; have := h 4; have := h 5
  simp only [List.length_append]; omega
theorem mem_its {g : GripState} {k : Int} {s : GripStep} (h : s ∈ its g.1 g.2.1 g.2.2.1 g.2.2.2.1 k) : ∃ v, s = (k, v, ()) ∧ (v = 0 ∨ v = 1 ∨ v = 500) ∧ okb g.1 g.2.1 g.2.2.1 g.2.2.2.1 k v = true := by
  unfold its at h
  simp only [List.mem_append] at h
  rcases h with h | h | h
  all_goals
    split at h
    · rename_i ho
      have hs := List.mem_singleton.1 h
      first | exact ⟨0, hs, .inl rfl, ho⟩ | exact ⟨1, hs, .inr (.inl rfl), ho⟩ | exact ⟨500, hs, .inr (.inr rfl), ho⟩
    · cases h
theorem its_mem {g : GripState} {k v : Int} (hv : v = 0 ∨ v = 1 ∨ v = 500) (ho : okb g.1 g.2.1 g.2.2.1 g.2.2.2.1 k v = true) : ((k, v, ()) : GripStep) ∈ its g.1 g.2.1 g.2.2.1 g.2.2.2.1 k := by
  unfold its
  simp only [List.mem_append]
  rcases hv with rfl | rfl | rfl
  · exact .inl (by rw [if_pos ho]; simp)
  · exact .inr (.inl (by rw [if_pos ho]; simp))
  · exact .inr (.inr (by rw [if_pos ho]; simp))
theorem mem_itsG {g : GripState} {s : GripStep} (h : s ∈ itsG g) : ∃ k v, s = (k, v, ()) ∧ (1 ≤ k ∧ k ≤ 5) ∧ (v = 0 ∨ v = 1 ∨ v = 500) ∧ okb g.1 g.2.1 g.2.2.1 g.2.2.2.1 k v = true := by
  unfold itsG at h
  simp only [List.mem_append] at h
  rcases h with (((h | h) | h) | h) | h
  all_goals
    obtain ⟨v, h1, h2, h3⟩ := mem_its h
    exact ⟨_, v, h1, by omega, h2, h3⟩
theorem itsG_mem {g : GripState} {k v : Int} (hk : 1 ≤ k ∧ k ≤ 5) (hv : v = 0 ∨ v = 1 ∨ v = 500) (ho : okb g.1 g.2.1 g.2.2.1 g.2.2.2.1 k v = true) : ((k, v, ()) : GripStep) ∈ itsG g := by
  have h := its_mem hv ho
  unfold itsG
  simp only [List.mem_append]
  have : k = 1 ∨ k = 2 ∨ k = 3 ∨ k = 4 ∨ k = 5 := by omega
  rcases this with rfl | rfl | rfl | rfl | rfl
  · exact .inl (.inl (.inl (.inl h)))
  · exact .inl (.inl (.inl (.inr h)))
  · exact .inl (.inl (.inr h))
  · exact .inl (.inr h)
  · exact .inr h
theorem stp_near {g : GripState} (hg : Good g) {s : GripStep} (h : s ∈ itsG g) : Near g (stp g s) ∧ impl_GripState_step g s = some (stp g s, true) := by
  obtain ⟨k, v, rfl, hk, hv, ho⟩ := mem_itsG h
  obtain ⟨r, hr⟩ := step_some (st := g.1) (z := g.2.1) (f := g.2.2.1) (n := g.2.2.2.1) hg k v
  rw [ho] at hr
  have hr' : impl_GripState_step g (k, v, ()) = some (r, true) := hr
  have hn := stepI g.1 g.2.1 g.2.2.1 g.2.2.2.1 k v hg hk hv
  rw [hr] at hn
  have e : stp g (k, v, ()) = r := by unfold stp; rw [hr']
  rw [e]
  exact ⟨hn, hr'⟩
theorem stp_lead {g : GripState} (hg : Good g) (t : Int) (ht : t = 0 ∨ t = 2) (hz : g.2.1 ≠ t) : ∃ r ∈ (itsG g).map (stp g), DD t r + 1 = DD t g := by
  obtain ⟨r, h1, h2⟩ := stepW g.1 g.2.1 g.2.2.1 g.2.2.2.1 hg
  have h1' : impl_GripState_step g (wk g.1 g.2.1 g.2.2.1, wv g.1 g.2.1, ()) = some (r, true) := h1
  have ho : okb g.1 g.2.1 g.2.2.1 g.2.2.2.1 (wk g.1 g.2.1 g.2.2.1) (wv g.1 g.2.1) = true := by unfold okb; rw [h1]
  refine ⟨r, List.mem_map.2 ⟨_, itsG_mem (wk_range _ _ _) (wv_range _ _) ho, ?_⟩, lead_DD (n := g.2.2.2.1) t ht hz h2⟩
  unfold stp; rw [h1']
theorem addK_mem (p : List GripState × List GripState) (r y : GripState) : (y ∈ (addK p r).1 ↔ y = r ∨ y ∈ p.1) ∧ (y ∈ p.2 → y ∈ (addK p r).2) ∧ (y ∈ (addK p r).2 → y = r ∨ y ∈ p.2) ∧ (y = r → y ∈ p.1 ∨ y ∈ (addK p r).2) ∧ (addK p r).2.length ≤ p.2.length + 1 := by
  unfold addK
  by_cases h : r ∈ p.1
  · rw [if_pos h]
    exact ⟨⟨.inr, fun e => e.elim (fun e => e ▸ h) id⟩, id, .inr, fun e => .inl (e ▸ h), by omega⟩
  · rw [if_neg h]
    refine ⟨?_, ?_, ?_, ?_, ?_⟩
    · simp only [List.mem_append, List.mem_singleton]; exact ⟨Or.symm, Or.symm⟩
    · intro e; exact List.mem_append_left _ e
    · intro e; simpa using Or.symm (List.mem_append.1 e)
    · intro e; right; simp [e]
    · simp
/-- What a level keeps: the states found are good and no nearer than they can be, and whoever is known is new or was so before. -/
structure LevI (t : Int) (T n : Nat) (p : List GripState × List GripState) : Prop where
  good : ∀ y ∈ p.2, Good y ∧ T ≤ n + 1 + DD t y
  known : ∀ y ∈ p.1, y ∈ p.2 ∨ T ≤ n + DD t y
theorem foldl_addK (t : Int) (T n : Nat) : ∀ (L : List GripState) (p : List GripState × List GripState), LevI t T n p → (∀ r ∈ L, Good r ∧ T ≤ n + 1 + DD t r) →
    LevI t T n (L.foldl addK p) ∧ (∀ y ∈ p.1, y ∈ (L.foldl addK p).1) ∧ (∀ r ∈ L, r ∈ (L.foldl addK p).1) ∧ (L.foldl addK p).2.length ≤ p.2.length + L.length := by
  intro L
  induction L with
  | nil => intro p h _; exact ⟨h, fun _ hy => hy, fun r hr => (by cases hr), by simp⟩
  | cons a L ih =>
    intro p h hL
    have h' : LevI t T n (addK p a) := by
      refine ⟨fun y hy => ?_, fun y hy => ?_⟩
      · rcases (addK_mem p a y).2.2.1 hy with e | e
        · rw [e]; exact hL a (by simp)
        · exact h.good y e
      · rcases (addK_mem p a y).1.1 hy with e | e
        · rcases (addK_mem p a y).2.2.2.1 e with e2 | e2
          · rcases h.known y e2 with e3 | e3
            · exact .inl ((addK_mem p a y).2.1 e3)
            · exact .inr e3
          · exact .inl e2
        · rcases h.known y e with e3 | e3
          · exact .inl ((addK_mem p a y).2.1 e3)
          · exact .inr e3
    obtain ⟨i1, i2, i3, i4⟩ := ih (addK p a) h' (fun r hr => hL r (by simp [hr]))
    refine ⟨i1, fun y hy => i2 y ((addK_mem p a y).1.2 (.inr hy)), fun r hr => ?_, ?_⟩
    · rcases List.mem_cons.1 hr with e | e
      · exact i2 r ((addK_mem p a r).1.2 (.inl e))
      · exact i3 r e
    · have := (addK_mem p a a).2.2.2.2
      simp only [List.foldl_cons, List.length_cons]; omega
theorem foldl_addX (t : Int) (T n : Nat) : ∀ (S : List GripState) (p : List GripState × List GripState), LevI t T n p → (∀ x ∈ S, Good x ∧ T ≤ n + DD t x) →
    LevI t T n (S.foldl addX p) ∧ (∀ y ∈ p.1, y ∈ (S.foldl addX p).1) ∧ (∀ x ∈ S, ∀ r ∈ (itsG x).map (stp x), r ∈ (S.foldl addX p).1) ∧ (S.foldl addX p).2.length ≤ p.2.length + 15 * S.length := by
  intro S
  induction S with
  | nil => intro p h _; exact ⟨h, fun _ hy => hy, fun x hx => (by cases hx), by simp⟩
  | cons a S ih =>
    intro p h hS
    have ha := hS a (by simp)
    obtain ⟨f1, f2, f3, f4⟩ := foldl_addK t T n ((itsG a).map (stp a)) p h (fun r hr => by
      obtain ⟨s, hs, rfl⟩ := List.mem_map.1 hr
      have hn := (stp_near ha.1 hs).1
      have := Near_DD hn t
      exact ⟨hn.1, by omega⟩)
    obtain ⟨i1, i2, i3, i4⟩ := ih (addX p a) f1 (fun x hx => hS x (by simp [hx]))
    refine ⟨i1, fun y hy => i2 y (f2 y hy), fun x hx r hr => ?_, ?_⟩
    · rcases List.mem_cons.1 hx with e | e
      · rw [e] at hr; exact i2 r (f3 r hr)
      · exact i3 x e r hr
    · have := itsG_length a
      have h5 : (addX p a).2.length ≤ p.2.length + 15 := by
        have : (addX p a).2.length ≤ p.2.length + ((itsG a).map (stp a)).length := f4
        simp only [List.length_map] at this; omega
      simp only [List.foldl_cons, List.length_cons]; omega
theorem foldl_addK_len : ∀ (L : List GripState) (p : List GripState × List GripState), (L.foldl addK p).2.length ≤ p.2.length + L.length := by
  intro L
  induction L with
  | nil => intro p; simp
  | cons a L ih =>
    intro p
    have := ih (addK p a)
    have := (addK_mem p a a).2.2.2.2
    simp only [List.foldl_cons, List.length_cons]; omega
theorem addX_len (p : List GripState × List GripState) (g : GripState) : (addX p g).2.length ≤ p.2.length + 15 := by
  have h : (addX p g).2.length ≤ p.2.length + ((itsG g).map (stp g)).length := foldl_addK_len _ _
  have := itsG_length g
  simp only [List.length_map] at h; omega
theorem someG {g : GripState} (hg : Good g) : impl_GripState_someSteps g = some (itsG g) := some_eq (st := g.1) (z := g.2.1) (f := g.2.2.1) (n := g.2.2.2.1) hg
theorem loop3_eq (S : List GripState) (i : Nat) (_hi : i < S.length) (L : List GripStep) (hL : L.length ≤ 15) (hst : ∀ s ∈ L, impl_GripState_step (S.getD i d_GripState) s = some (stp (S.getD i d_GripState) s, true))
    (p : List GripState × List GripState) (hp : p.2.length ≤ 4000000000000) :
    iter (fun s => impl_GripState_stepsTo_loop3 S (i : Int) s.1 s.2.1 s.2.2.1 s.2.2.2.1 s.2.2.2.2) ((L.length : Int), (0 : Int), p.1, p.2, L) = some ((L.map (stp (S.getD i d_GripState))).foldl addK p) := by
  have H : ∀ (m k : Nat) (p : List GripState × List GripState), k + m = L.length → p.2.length + m ≤ 4300000000000 →
      iter (fun s => impl_GripState_stepsTo_loop3 S (i : Int) s.1 s.2.1 s.2.2.1 s.2.2.2.1 s.2.2.2.2) ((L.length : Int), (k : Int), p.1, p.2, L) = some (((L.drop k).map (stp (S.getD i d_GripState))).foldl addK p) := by
    intro m
    induction m with
    | zero =>
      intro k p hk _
      have e : L.drop k = [] := List.drop_eq_nil_of_le (by omega)
      rw [e]
      refine iter_out ?_
      show impl_GripState_stepsTo_loop3 S (i : Int) (L.length : Int) (k : Int) p.1 p.2 L = _
      unfold impl_GripState_stepsTo_loop3
      rw [cond_df (by omega)]; rfl
    | succ m ih =>
      intro k p hk hp
      have hlt : k < L.length := by omega
      have hd : L.drop k = L.getD k d_GripStep :: L.drop (k + 1) := by
        rw [List.drop_eq_getElem_cons hlt, getD_eq L k _ hlt]
      have hmem : L.getD k d_GripStep ∈ L := by rw [getD_eq L k _ hlt]; exact List.getElem_mem hlt
      have hstep := hst _ hmem
      have hgen : ∀ r : GripState, impl_GripState_step (S.getD i d_GripState) (L.getD k d_GripStep) = some (r, true) → impl_GripState_stepsTo_loop3 S (i : Int) (L.length : Int) (k : Int) p.1 p.2 L = some (.go ((L.length : Int), ((k + 1 : Nat) : Int), (addK p r).1, (addK p r).2, L)) := by
        rintro ⟨a, b, c, d, ⟨⟩⟩ hr
        unfold impl_GripState_stepsTo_loop3
        rw [cond_dt (by omega), grd_pos (by omega)]
        simp only [Int.toNat_natCast, eta2, hr, Option.bind_some]
        show _ = some (Lp.go ((L.length : Int), ((k + 1 : Nat) : Int), (addK p (a, b, c, d, ())).1, (addK p (a, b, c, d, ())).2, L))
        cases hc : hasK ty_GripState (a, b, c, d, ()) p.1
        · simp only [Bool.not_false, cond_true]
          rw [grd_pos (by simp only [List.length_singleton]; omega), w64_nat (by omega), show addK p (a, b, c, d, ()) = (insK ty_GripState (a, b, c, d, ()) p.1, p.2 ++ [(a, b, c, d, ())]) from (addK_eq p (a, b, c, d, ())).trans (if_neg (fun e => by cases hc.symm.trans e))]
        · simp only [Bool.not_true, cond_false]
          rw [w64_nat (by omega), show addK p (a, b, c, d, ()) = p from (addK_eq p (a, b, c, d, ())).trans (if_pos hc)]
      have hone := hgen _ hstep
      rw [iter_go hone, ih (k + 1) _ (by omega) (by have := (addK_mem p (stp (S.getD i d_GripState) (L.getD k d_GripStep)) d_GripState).2.2.2.2; omega), hd]
      rfl
  exact H L.length 0 p (by omega) (by omega)
theorem loop2_eq (t : Int) (S : List GripState) (hS : ∀ x ∈ S, Good x) (hl : S.length ≤ 200000000000) (K : List GripState) :
    iter (fun s => impl_GripState_stepsTo_loop2 t S s.1 s.2.1 s.2.2) ((0 : Int), K, ([] : List GripState)) = some (if S.any (fun x => decide (x.2.1 = t)) = true then .inl () else .inr (S.foldl addX (K, []))) := by
  refine iter_scan (f := fun s => impl_GripState_stepsTo_loop2 t S s.1 s.2.1 s.2.2) d_GripState S (fun x => decide (x.2.1 = t)) () addX id (fun k s => s.2.length ≤ 15 * k) ?_ ?_ ?_ (K, []) (by simp)
  · intro k s hk hj hh
    have hz : ¬ (S.getD k d_GripState).2.1 = t := of_decide_eq_false hh
    have hmem : S.getD k d_GripState ∈ S := by rw [getD_eq S k _ hk]; exact List.getElem_mem hk
    have hg := hS _ hmem
    refine ⟨?_, by have := addX_len s (S.getD k d_GripState); omega⟩
    show impl_GripState_stepsTo_loop2 t S (k : Int) s.1 s.2 = _
    unfold impl_GripState_stepsTo_loop2
    rw [cond_dt (by omega), grd_pos (by omega)]
    simp only [Int.toNat_natCast, eta4]
    rw [cond_df hz, someG hg]
    simp only [Option.bind_some]
    rw [loop3_eq S k hk (itsG (S.getD k d_GripState)) (itsG_length _) (fun x hx => (stp_near hg hx).2) s (by omega)]
    simp only [Option.bind_some]
    rw [w64_nat (by omega)]; rfl
  · intro k s hk hj hh
    have hz : (S.getD k d_GripState).2.1 = t := of_decide_eq_true hh
    show impl_GripState_stepsTo_loop2 t S (k : Int) s.1 s.2 = _
    unfold impl_GripState_stepsTo_loop2
    rw [cond_dt (by omega), grd_pos (by omega)]
    simp only [Int.toNat_natCast]
    rw [cond_dt hz]
  · intro s _
    show impl_GripState_stepsTo_loop2 t S (S.length : Int) s.1 s.2 = _
    unfold impl_GripState_stepsTo_loop2
    rw [cond_df (by omega)]; rfl
/-- A level of the search. -/
structure Lev (t : Int) (T n : Nat) (S : List GripState) : Prop where
  all : ∀ x ∈ S, Good x ∧ T ≤ n + DD t x
  one : ∃ x ∈ S, n + DD t x = T
theorem Lev.hit {t : Int} (ht : t = 0 ∨ t = 2) {T n : Nat} {S : List GripState} (h : Lev t T n S) (hn : n ≤ T) : S.any (fun x => decide (x.2.1 = t)) = decide (n = T) := by
  rw [Bool.eq_iff_iff, List.any_eq_true, decide_eq_true_eq]
  constructor
  · rintro ⟨x, hx, e⟩
    have e' : x.2.1 = t := of_decide_eq_true e
    have := (h.all x hx).2
    have := (DD_zero t ht x).2 e'
    omega
  · intro e
    obtain ⟨x, hx, e2⟩ := h.one
    exact ⟨x, hx, decide_eq_true ((DD_zero t ht x).1 (by omega))⟩
theorem pow_bd {n : Nat} (h : n ≤ 9) : 15 ^ n ≤ 38443359375 := by
  have := Nat.pow_le_pow_right (n := 15) (by omega) h
  omega
theorem search_eq (t : Int) (ht : t = 0 ∨ t = 2) (T : Nat) (hT : T ≤ 9) : ∀ (m n : Nat) (K S : List GripState), n + m = T → Lev t T n S → (∀ y ∈ K, T ≤ n + DD t y) → S.length ≤ 15 ^ n →
    iter (fun s => impl_GripState_stepsTo_loop1 t s.1 s.2.1 s.2.2) ((n : Int), K, S) = some (.inl (T : Int)) := by
  intro m
  induction m with
  | zero =>
    intro n K S hn h hK hl
    have hb := pow_bd (n := n) (by omega)
    have hpos : 0 < S.length := by obtain ⟨x, hx, _⟩ := h.one; exact List.length_pos_of_mem hx
    refine iter_out ?_
    show impl_GripState_stepsTo_loop1 t (n : Int) K S = _
    unfold impl_GripState_stepsTo_loop1
    rw [cond_dt (by omega), loop2_eq t S (fun x hx => (h.all x hx).1) (by omega) K, h.hit ht (by omega), decide_eq_true (show n = T by omega)]
    simp only [if_true, Option.bind_some, Sum.elim_inl]
    rw [show n = T by omega]
  | succ m ih =>
    intro n K S hn h hK hl
    have hb := pow_bd (n := n) (by omega)
    have hpos : 0 < S.length := by obtain ⟨x, hx, _⟩ := h.one; exact List.length_pos_of_mem hx
    obtain ⟨f1, f2, f3, f4⟩ := foldl_addX t T n S (K, []) ⟨fun y hy => (by cases hy), fun y hy => .inr (hK y hy)⟩ h.all
    have hgo : impl_GripState_stepsTo_loop1 t (n : Int) K S = some (.go (((n + 1 : Nat) : Int), (S.foldl addX (K, [])).1, (S.foldl addX (K, [])).2)) := by
      unfold impl_GripState_stepsTo_loop1
      rw [cond_dt (by omega), loop2_eq t S (fun x hx => (h.all x hx).1) (by omega) K, h.hit ht (by omega), decide_eq_false (show ¬ n = T by omega)]
      simp only [Bool.false_eq_true, if_false, Option.bind_some, Sum.elim_inr]
      rw [w64_nat (by omega)]
    rw [iter_go hgo]
    refine ih (n + 1) _ _ (by omega) ⟨f1.good, ?_⟩ (fun y hy => ?_) ?_
    · obtain ⟨x, hx, e⟩ := h.one
      have hz : x.2.1 ≠ t := fun e' => by have := (DD_zero t ht x).2 e'; omega
      obtain ⟨r, hr, e2⟩ := stp_lead (h.all x hx).1 t ht hz
      rcases f1.known r (f3 x hx r hr) with e3 | e3
      · exact ⟨r, e3, by omega⟩
      · omega
    · rcases f1.known y hy with e | e
      · exact (f1.good y e).2
      · omega
    · rw [Nat.pow_succ]
      simp only [List.length_nil] at f4; omega
theorem stepsTo_eq (t : Int) (ht : t = 0 ∨ t = 2) (g : GripState) (hg : Good g) : impl_GripState_stepsTo g t = some ((DD t g : Int), true) := by
  unfold impl_GripState_stepsTo
  have h := search_eq t ht (DD t g) (DD_le t g) (DD t g) 0 [g] [g] (by omega) ⟨fun x hx => by
    rw [List.mem_singleton.1 hx]; exact ⟨hg, by omega⟩, g, by simp, by omega⟩ (fun y hy => by rw [List.mem_singleton.1 hy]; omega) (by simp)
  show (iter (fun s => impl_GripState_stepsTo_loop1 t s.1 s.2.1 s.2.2) (((0 : Nat) : Int), [g], [g])).bind _ = _
  rw [h]
  rfl
theorem DD_self {g r : GripState} {t : Int} (h : DD t r + 1 = DD t g) : r ≠ g := fun e => by rw [e] at h; omega
/-- What the reference does with a kind. -/
noncomputable def addS (x : GripState) (nx : List GripState) (k : Int) : List GripState :=
  match spec_l21Make x (k, tryv x.1 k, ()) with
  | some (r, true) => if r ∈ nx then nx else if r = x then nx else nx ++ [r]
  | _ => nx
noncomputable def addSX (nx : List GripState) (x : GripState) : List GripState := addS x (addS x (addS x (addS x (addS x nx 1) 2) 3) 4) 5
theorem addS_out {x : GripState} (hx : Good x) (nx : List GripState) {k : Int} (hk : 1 ≤ k ∧ k ≤ 5) :
    (∀ y ∈ nx, y ∈ addS x nx k) ∧ (∀ y ∈ addS x nx k, y ∈ nx ∨ Near x y) ∧ (∀ r, spec_l21Make x (k, tryv x.1 k, ()) = some (r, true) → r ≠ x → r ∈ addS x nx k) ∧ (addS x nx k).length ≤ nx.length + 1 := by
  obtain ⟨r, b, h1, h2⟩ := nearB_out (stepS x.1 x.2.1 x.2.2.1 x.2.2.2.1 k hx hk)
  have h1' : spec_l21Make x (k, tryv x.1 k, ()) = some (r, b) := h1
  unfold addS
  rw [h1']
  cases b
  · exact ⟨fun y hy => hy, fun y hy => .inl hy, fun r' h => (by cases h), by simp⟩
  · have hn := h2 rfl
    by_cases e1 : r ∈ nx
    · simp only [e1, if_true]
      refine ⟨fun y hy => hy, fun y hy => .inl hy, fun r' h _ => ?_, by simp⟩
      obtain rfl : r = r' := (Prod.mk.inj (Option.some.inj h)).1
      exact e1
    · by_cases e2 : r = x
      · simp only [e1, if_false]; rw [if_pos e2]
        refine ⟨fun y hy => hy, fun y hy => .inl hy, fun r' h hne => ?_, by simp⟩
        obtain rfl : r = r' := (Prod.mk.inj (Option.some.inj h)).1
        exact absurd e2 hne
      · simp only [e1, if_false]; rw [if_neg e2]
        refine ⟨fun y hy => List.mem_append_left _ hy, fun y hy => ?_, fun r' h _ => ?_, by simp⟩
        · rcases List.mem_append.1 hy with e | e
          · exact .inl e
          · rw [List.mem_singleton.1 e]; exact .inr hn
        · obtain rfl : r = r' := (Prod.mk.inj (Option.some.inj h)).1
          simp
theorem addSX_out {x : GripState} (hx : Good x) (nx : List GripState) :
    (∀ y ∈ nx, y ∈ addSX nx x) ∧ (∀ y ∈ addSX nx x, y ∈ nx ∨ Near x y) ∧ (∀ k r, 1 ≤ k ∧ k ≤ 5 → spec_l21Make x (k, tryv x.1 k, ()) = some (r, true) → r ≠ x → r ∈ addSX nx x) ∧ (addSX nx x).length ≤ nx.length + 5 := by
  have q1 := addS_out hx nx (k := 1) (by omega)
  have q2 := addS_out hx (addS x nx 1) (k := 2) (by omega)
  have q3 := addS_out hx (addS x (addS x nx 1) 2) (k := 3) (by omega)
  have q4 := addS_out hx (addS x (addS x (addS x nx 1) 2) 3) (k := 4) (by omega)
  have q5 := addS_out hx (addS x (addS x (addS x (addS x nx 1) 2) 3) 4) (k := 5) (by omega)
  unfold addSX
  refine ⟨fun y hy => q5.1 y (q4.1 y (q3.1 y (q2.1 y (q1.1 y hy)))), fun y hy => ?_, fun k r hk h hne => ?_, ?_⟩
  · rcases q5.2.1 y hy with e | e
    · rcases q4.2.1 y e with e | e
      · rcases q3.2.1 y e with e | e
        · rcases q2.2.1 y e with e | e
          · exact q1.2.1 y e
          · exact .inr e
        · exact .inr e
      · exact .inr e
    · exact .inr e
  · have : k = 1 ∨ k = 2 ∨ k = 3 ∨ k = 4 ∨ k = 5 := by omega
    rcases this with rfl | rfl | rfl | rfl | rfl
    · exact q5.1 r (q4.1 r (q3.1 r (q2.1 r (q1.2.2.1 r h hne))))
    · exact q5.1 r (q4.1 r (q3.1 r (q2.2.2.1 r h hne)))
    · exact q5.1 r (q4.1 r (q3.2.2.1 r h hne))
    · exact q5.1 r (q4.2.2.1 r h hne)
    · exact q5.2.2.1 r h hne
  · have := q1.2.2.2; have := q2.2.2.2; have := q3.2.2.2; have := q4.2.2.2; have := q5.2.2.2
    omega
theorem sloop3_eq (S : List GripState) (i : Nat) (hi : i < S.length) (hg : Good (S.getD i d_GripState)) (nx : List GripState) (hp : nx.length ≤ 4000000000000) :
    iter (fun s => spec_l21To_loop3 S (i : Int) s.1 s.2) ((1 : Int), nx) = some (addSX nx (S.getD i d_GripState)) := by
  have hx : ∀ xa xb xc xd : Int, ((xa, xb, xc, xd, ()) : GripState) = S.getD i d_GripState → ∀ (k : Nat) (m : List GripState), 1 ≤ k → k ≤ 5 → m.length ≤ 4000000000100 →
      spec_l21To_loop3 S (i : Int) (k : Int) m = some (.go (((k + 1 : Nat) : Int), addS (S.getD i d_GripState) m (k : Int))) := by
    intro xa xb xc xd ex k m h1 h5 hm
    rw [← ex] at hg
    have ht := try_eq xa xb xc xd (k : Int)
    obtain ⟨r, b, hr, _⟩ := nearB_out (stepS xa xb xc xd (k : Int) hg (by omega))
    obtain ⟨ra, rb, rc, rd, hre⟩ : ∃ ra rb rc rd : Int, r = (ra, rb, rc, rd, ()) := ⟨r.1, r.2.1, r.2.2.1, r.2.2.2.1, rfl⟩
    subst hre
    unfold spec_l21To_loop3 addS
    rw [cond_dt (by omega), grd_pos (by omega), grd_pos (by omega)]
    simp only [Int.toNat_natCast, ← ex]
    simp only [ht, Option.bind_some, hr]
    rw [w64_nat (by omega)]
    cases b
    · simp only [cond_false]
    · simp only [cond_true]
      rw [l21In_eq _ _ (by omega)]
      simp only [Option.bind_some]
      by_cases e1 : ((ra, rb, rc, rd, ()) : GripState) ∈ m
      · rw [cond_ndt e1, if_pos e1]
      · rw [cond_ndf e1, if_neg e1, grd_pos (by omega)]
        by_cases e2 : ((ra, rb, rc, rd, ()) : GripState) = (xa, xb, xc, xd, ())
        · rw [if_pos e2]
          obtain ⟨rfl, rfl, rfl, rfl⟩ : ra = xa ∧ rb = xb ∧ rc = xc ∧ rd = xd := by simpa using e2
          simp
        · rw [if_neg e2]
          have e3 : (decide (ra = xa) && (decide (rb = xb) && (decide (rc = xc) && (decide (rd = xd) && true)))) = false := by
            rw [Bool.eq_false_iff]; intro e; apply e2; simpa using e
          rw [e3]
          simp only [Bool.not_false, cond_true]
          rw [grd_pos (by simp only [List.length_singleton]; omega)]
  have one := hx _ _ _ _ (eta4 (S.getD i d_GripState))
  have s1 := one 1 nx (by omega) (by omega) (by omega)
  have q1 := (addS_out hg nx (k := 1) (by omega)).2.2.2
  have s2 := one 2 (addS (S.getD i d_GripState) nx 1) (by omega) (by omega) (by omega)
  have q2 := (addS_out hg (addS (S.getD i d_GripState) nx 1) (k := 2) (by omega)).2.2.2
  have s3 := one 3 (addS (S.getD i d_GripState) (addS (S.getD i d_GripState) nx 1) 2) (by omega) (by omega) (by omega)
  have q3 := (addS_out hg (addS (S.getD i d_GripState) (addS (S.getD i d_GripState) nx 1) 2) (k := 3) (by omega)).2.2.2
  have s4 := one 4 (addS (S.getD i d_GripState) (addS (S.getD i d_GripState) (addS (S.getD i d_GripState) nx 1) 2) 3) (by omega) (by omega) (by omega)
  have q4 := (addS_out hg (addS (S.getD i d_GripState) (addS (S.getD i d_GripState) (addS (S.getD i d_GripState) nx 1) 2) 3) (k := 4) (by omega)).2.2.2
  have s5 := one 5 (addS (S.getD i d_GripState) (addS (S.getD i d_GripState) (addS (S.getD i d_GripState) (addS (S.getD i d_GripState) nx 1) 2) 3) 4) (by omega) (by omega) (by omega)
  refine (iter_go s1).trans ((iter_go s2).trans ((iter_go s3).trans ((iter_go s4).trans ((iter_go s5).trans (iter_out ?_)))))
  show spec_l21To_loop3 S (i : Int) ((6 : Nat) : Int) _ = _
  unfold spec_l21To_loop3
  rw [cond_df (by omega)]
  rfl
theorem foldl_addSX (t : Int) (T n : Nat) : ∀ (S : List GripState) (nx : List GripState), (∀ y ∈ nx, Good y ∧ T ≤ n + 1 + DD t y) → (∀ x ∈ S, Good x ∧ T ≤ n + DD t x) →
    (∀ y ∈ S.foldl addSX nx, Good y ∧ T ≤ n + 1 + DD t y) ∧ (∀ y ∈ nx, y ∈ S.foldl addSX nx) ∧
    (∀ x ∈ S, ∀ k r, 1 ≤ k ∧ k ≤ 5 → spec_l21Make x (k, tryv x.1 k, ()) = some (r, true) → r ≠ x → r ∈ S.foldl addSX nx) ∧ (S.foldl addSX nx).length ≤ nx.length + 5 * S.length := by
  intro S
  induction S with
  | nil => intro nx h _; exact ⟨h, fun _ hy => hy, fun x hx => (by cases hx), by simp⟩
  | cons a S ih =>
    intro nx h hS
    have ha := hS a (by simp)
    obtain ⟨q1, q2, q3, q4⟩ := addSX_out ha.1 nx
    obtain ⟨i1, i2, i3, i4⟩ := ih (addSX nx a) (fun y hy => by
      rcases q2 y hy with e | e
      · exact h y e
      · have := Near_DD e t; exact ⟨e.1, by omega⟩) (fun x hx => hS x (by simp [hx]))
    refine ⟨i1, fun y hy => i2 y (q1 y hy), fun x hx k r hk hr hne => ?_, ?_⟩
    · rcases List.mem_cons.1 hx with e | e
      · rw [e] at hr hne; exact i2 r (q3 k r hk hr hne)
      · exact i3 x e k r hk hr hne
    · simp only [List.foldl_cons, List.length_cons]; omega
theorem sloop2_eq (t : Int) (S : List GripState) (hS : ∀ x ∈ S, Good x) (hl : S.length ≤ 200000000000) :
    iter (fun s => spec_l21To_loop2 t S s.1 s.2) ((0 : Int), ([] : List GripState)) = some (if S.any (fun x => decide (x.2.1 = t)) = true then .inl () else .inr (S.foldl addSX [])) := by
  refine iter_scan (f := fun s => spec_l21To_loop2 t S s.1 s.2) d_GripState S (fun x => decide (x.2.1 = t)) () addSX id (fun k s => s.length ≤ 5 * k) ?_ ?_ ?_ [] (by simp)
  · intro k s hk hj hh
    have hz : ¬ (S.getD k d_GripState).2.1 = t := of_decide_eq_false hh
    have hmem : S.getD k d_GripState ∈ S := by rw [getD_eq S k _ hk]; exact List.getElem_mem hk
    have hg := hS _ hmem
    refine ⟨?_, by have := (addSX_out hg s).2.2.2; omega⟩
    show spec_l21To_loop2 t S (k : Int) s = _
    unfold spec_l21To_loop2
    rw [cond_dt (by omega), grd_pos (by omega)]
    simp only [Int.toNat_natCast]
    rw [cond_df hz, sloop3_eq S k hk hg s (by omega)]
    simp only [Option.bind_some]
    rw [w64_nat (by omega)]
  · intro k s hk hj hh
    have hz : (S.getD k d_GripState).2.1 = t := of_decide_eq_true hh
    show spec_l21To_loop2 t S (k : Int) s = _
    unfold spec_l21To_loop2
    rw [cond_dt (by omega), grd_pos (by omega)]
    simp only [Int.toNat_natCast]
    rw [cond_dt hz]
  · intro s _
    show spec_l21To_loop2 t S (S.length : Int) s = _
    unfold spec_l21To_loop2
    rw [cond_df (by omega)]; rfl
theorem pow_bd5 {n : Nat} (h : n ≤ 9) : 5 ^ n ≤ 1953125 := by
  have := Nat.pow_le_pow_right (n := 5) (by omega) h
  omega
theorem ssearch_eq (t : Int) (ht : t = 0 ∨ t = 2) (T : Nat) (hT : T ≤ 9) : ∀ (m n : Nat) (S : List GripState), n + m = T → Lev t T n S → S.length ≤ 5 ^ n →
    iter (fun s => spec_l21To_loop1 t s.1 s.2) ((n : Int), S) = some (.inl (T : Int)) := by
  intro m
  induction m with
  | zero =>
    intro n S hn h hl
    have hb := pow_bd5 (n := n) (by omega)
    refine iter_out ?_
    show spec_l21To_loop1 t (n : Int) S = _
    unfold spec_l21To_loop1
    rw [cond_dt (by omega), sloop2_eq t S (fun x hx => (h.all x hx).1) (by omega), h.hit ht (by omega), decide_eq_true (show n = T by omega)]
    simp only [if_true, Option.bind_some, Sum.elim_inl]
    rw [show n = T by omega]
  | succ m ih =>
    intro n S hn h hl
    have hb := pow_bd5 (n := n) (by omega)
    obtain ⟨f1, f2, f3, f4⟩ := foldl_addSX t T n S [] (fun y hy => (by cases hy)) h.all
    have hgo : spec_l21To_loop1 t (n : Int) S = some (.go (((n + 1 : Nat) : Int), S.foldl addSX [])) := by
      unfold spec_l21To_loop1
      rw [cond_dt (by omega), sloop2_eq t S (fun x hx => (h.all x hx).1) (by omega), h.hit ht (by omega), decide_eq_false (show ¬ n = T by omega)]
      simp only [Bool.false_eq_true, if_false, Option.bind_some, Sum.elim_inr]
      rw [w64_nat (by omega)]
    rw [iter_go hgo]
    refine ih (n + 1) _ (by omega) ⟨f1, ?_⟩ ?_
    · obtain ⟨x, hx, e⟩ := h.one
      have hz : x.2.1 ≠ t := fun e' => by have := (DD_zero t ht x).2 e'; omega
      obtain ⟨r, hr, hd⟩ := stepWS x.1 x.2.1 x.2.2.1 x.2.2.2.1 (h.all x hx).1
      have e2 : DD t r + 1 = DD t x := lead_DD (n := x.2.2.2.1) t ht hz hd
      exact ⟨r, f3 x hx _ r (wk_range _ _ _) hr (DD_self e2), by omega⟩
    · rw [Nat.pow_succ]
      simp only [List.length_nil] at f4; omega
theorem l21To_eq (t : Int) (ht : t = 0 ∨ t = 2) (g : GripState) (hg : Good g) : spec_l21To g t = some (DD t g : Int) := by
  unfold spec_l21To
  have h := ssearch_eq t ht (DD t g) (DD_le t g) (DD t g) 0 [g] (by omega) ⟨fun x hx => by
    rw [List.mem_singleton.1 hx]; exact ⟨hg, by omega⟩, g, by simp, by omega⟩ (by simp)
  show (iter (fun s => spec_l21To_loop1 t s.1 s.2) (((0 : Nat) : Int), [g])).bind _ = _
  rw [h]
  rfl
instance goodDec (g : GripState) : Decidable (Good g) := inferInstanceAs (Decidable (GP g.1 g.2.1 g.2.2.1 g.2.2.2.1))
theorem good_eq (g : GripState) : spec_l21Good g = some (decide (Good g)) := l21Good_eq g.1 g.2.1 g.2.2.1 g.2.2.2.1
theorem grip_eq (g : GripState) : impl_IsGripState g = some (decide (Good g)) := isGrip_eq g.1 g.2.1 g.2.2.1 g.2.2.2.1
theorem specHome_eq (g : GripState) : spec_StepsHome g = some (if Good g then ((DD 0 g : Int), true) else (0, false)) := by
  unfold spec_StepsHome
  simp only [eta4]
  rw [good_eq]
  simp only [Option.bind_some]
  by_cases h : Good g
  · rw [cond_ndt h, l21To_eq 0 (.inl rfl) g h, if_pos h]; rfl
  · rw [cond_ndf h, if_neg h]
theorem implHome_eq (g : GripState) : impl_StepsHome g = some (if Good g then ((DD 0 g : Int), true) else (0, false)) := by
  unfold impl_StepsHome
  simp only [eta4]
  rw [grip_eq]
  simp only [Option.bind_some]
  by_cases h : Good g
  · rw [cond_ndt h, stepsTo_eq 0 (.inl rfl) g h, if_pos h]; rfl
  · rw [cond_ndf h, if_neg h]
theorem specRope_eq (g : GripState) : spec_StepsToRope g = some (if Good g then ((DD 2 g : Int), true) else (0, false)) := by
  unfold spec_StepsToRope
  simp only [eta4]
  rw [good_eq]
  simp only [Option.bind_some]
  by_cases h : Good g
  · rw [cond_ndt h, l21To_eq 2 (.inr rfl) g h, if_pos h]; rfl
  · rw [cond_ndf h, if_neg h]
theorem implRope_eq (g : GripState) : impl_StepsToRope g = some (if Good g then ((DD 2 g : Int), true) else (0, false)) := by
  unfold impl_StepsToRope
  simp only [eta4]
  rw [grip_eq]
  simp only [Option.bind_some]
  by_cases h : Good g
  · rw [cond_ndt h, stepsTo_eq 2 (.inr rfl) g h, if_pos h]; rfl
  · rw [cond_ndf h, if_neg h]
end Go.Proofs.YtbjhcjhkmppocaaDoor
