/-
  Plain laws of the possible steps of a grip.
-/
import Derived.Test.YtmknleaomfpmmaaK12
import Derived.Test.YtmknleaomfpmmaaO1
namespace Go.Proofs.Ytmknleaomfpmmaa
open Go.RowKit

theorem l1In_eq (a lo hi : Int) : spec_l1In a lo hi = some (decide (lo ≤ a ∧ a ≤ hi)) := by
  unfold spec_l1In
  by_cases h : lo ≤ a
  · rw [cond_dt h]; simp [h]
  · rw [cond_df h]; simp [h]
theorem within_eq (a lo hi : Int) : impl_within a lo hi = some (decide (lo ≤ a ∧ a ≤ hi)) := by
  unfold impl_within
  by_cases h : lo ≤ a
  · rw [cond_dt h]; simp [h]
  · rw [cond_df h]; simp [h]
abbrev GP (st z f n : Int) : Prop := 0 ≤ st ∧ st ≤ 4 ∧ 0 ≤ z ∧ z ≤ 3 ∧ 0 ≤ f ∧ f ≤ 2000 ∧ 0 ≤ n ∧ n ≤ 3 ∧ (f = 0 ∨ st = 2) ∧ (z = 0 → st = 0 ∨ st = 4) ∧ (z = 2 → st = 2 ∧ 500 ≤ f) ∧ (z = 3 → st ≠ 4 ∧ st ≠ 1) ∧ (z = 1 → st ≠ 4)
theorem l21Good_eq (st z f n : Int) : spec_l21Good (st, z, f, n, ()) = some (decide (GP st z f n)) := by
  simp only [spec_l21Good, l1In_eq, Option.bind_some, joinx_bind, joinx_cond, joinx_out, joinx_go, Bool.cond_decide, ← decide_not]
  repeat' split
  all_goals refine congrArg some ?_
  all_goals (rw [Bool.eq_iff_iff]; simp only [decide_eq_true_eq, true_iff, false_iff, Bool.false_eq_true]; omega)
theorem isGrip_eq (st z f n : Int) : impl_IsGripState (st, z, f, n, ()) = some (decide (GP st z f n)) := by
  simp only [impl_IsGripState, within_eq, Option.bind_some, joinx_bind, joinx_cond, joinx_out, joinx_go, Bool.cond_decide, ← decide_not]
  repeat' split
  all_goals refine congrArg some ?_
  all_goals (rw [Bool.eq_iff_iff]; simp only [decide_eq_true_eq, true_iff, false_iff, Bool.false_eq_true]; omega)

def Good (g : GripState) : Prop := GP g.1 g.2.1 g.2.2.1 g.2.2.2.1
set_option maxHeartbeats 4000000 in
theorem step_ok (st z f n k v : Int) (hg : GP st z f n) : ∃ r b, impl_GripState_step (st, z, f, n, ()) (k, v, ()) = some (r, b) ∧ (b = true → Good r) ∧
    ∃ c, spec_l21Step (st, z, f, n, ()) (k, v, ()) = some c ∧ (c = false → b = false) ∧ (c = true → ∃ r', spec_l21Make (st, z, f, n, ()) (k, v, ()) = some (r', b) ∧ (b = true → r' = r)) := by
  have hst : st = 0 ∨ st = 1 ∨ st = 2 ∨ st = 3 ∨ st = 4 := by omega
  have hz : z = 0 ∨ z = 1 ∨ z = 2 ∨ z = 3 := by omega
  have hk : k = 1 ∨ k = 2 ∨ k = 3 ∨ k = 4 ∨ k = 5 ∨ (k < 1 ∨ 5 < k) := by omega
  have e4 : w64 (n + 1) = n + 1 := w64_id (by omega) (by omega)
  have e1 : Int.tmod (w64 (1 : Int)) 4 = 1 := rfl
  have e2 : Int.tmod (w64 (2 : Int)) 4 = 2 := rfl
  have e3 : Int.tmod (w64 (3 : Int)) 4 = 3 := rfl
  have e5 : Int.tmod (w64 (4 : Int)) 4 = 0 := rfl
  rcases hst with rfl | rfl | rfl | rfl | rfl <;> rcases hz with rfl | rfl | rfl | rfl <;> first | (exfalso; omega) | skip
  all_goals rcases hk with rfl | rfl | rfl | rfl | rfl | hk
  all_goals (try have hk1 : ¬ k = 1 := by omega)
  all_goals (try have hk2 : ¬ k = 2 := by omega)
  all_goals (try have hk3 : ¬ k = 3 := by omega)
  all_goals (try have hk4 : ¬ k = 4 := by omega)
  all_goals (try have hk5 : ¬ k = 5 := by omega)
  all_goals (try have hk6 : ¬ (1 ≤ k ∧ k ≤ 5) := by omega)
  all_goals (try (have h0f : f = 0 := (by omega); subst h0f))
  all_goals (have hn : n = 0 ∨ n = 1 ∨ n = 2 ∨ n = 3 := by omega)
  all_goals (have hn0 : 0 ≤ n := by omega)
  all_goals (have hn1 : n ≤ 3 := by omega)
  all_goals (try (have hf0 : 0 ≤ f := by omega))
  all_goals (try (have hf1 : f ≤ 2000 := by omega))
  all_goals
    (first
      | simp [-Prod.exists, impl_GripState_step, spec_l21Step, spec_l21Make, spec_l21Move, spec_l1Least, isGrip_eq, l21Good_eq, l1In_eq, within_eq, joinx_bind, joinx_cond, joinx_out, joinx_go, e1, e2, e3, e5, e4, grd, GP, hk1, hk2, hk3, hk4, hk5, hk6, hn0, hn1]
      | simp [-Prod.exists, impl_GripState_step, spec_l21Step, spec_l21Make, spec_l21Move, spec_l1Least, isGrip_eq, l21Good_eq, l1In_eq, within_eq, joinx_bind, joinx_cond, joinx_out, joinx_go, e1, e2, e3, e5, e4, grd, GP, hn0, hn1, hf0, hf1]
      | simp [-Prod.exists, impl_GripState_step, spec_l21Step, spec_l21Make, spec_l21Move, spec_l1Least, isGrip_eq, l21Good_eq, l1In_eq, within_eq, joinx_bind, joinx_cond, joinx_out, joinx_go, e1, e2, e3, e5, e4, grd, GP, hn0, hn1]) <;>
    by_cases hv : v = 0 <;> by_cases hw : (1 ≤ v ∧ v ≤ 2000) <;> (first | (exfalso; omega) | skip) <;> (try simp [-Prod.exists, hv, hw]) <;>
    rcases hn with rfl | rfl | rfl | rfl <;> (try simp [-Prod.exists, hv, hw]) <;> (try by_cases h5 : f < 500) <;> (try simp [-Prod.exists, h5]) <;> (first | omega | (simp only [Good]; omega) | exact ⟨_, .inr ⟨⟨rfl, by omega⟩, (by simp only [Good]; omega), rfl⟩⟩ | (rw [show (decide (1 ≤ v) && decide (v ≤ 2000)) = false from (by rw [Bool.eq_false_iff]; simp; omega)]; refine ⟨⟨_, rfl⟩, ?_⟩; omega) | (rw [decide_eq_true (show 500 ≤ f by omega)]; exact ⟨_, ⟨rfl, by omega⟩, (by simp only [Good]; omega), rfl⟩) | (rw [decide_eq_false (show ¬ 500 ≤ f by omega)]; exact ⟨_, .inl ⟨rfl, _, rfl⟩⟩) | skip)
noncomputable def okb (st z f n k v : Int) : Bool :=
  match impl_GripState_step (st, z, f, n, ()) (k, v, ()) with
  | some (_, b) => b
  | none => false
theorem step_some {st z f n : Int} (hg : GP st z f n) (k v : Int) : ∃ r, impl_GripState_step (st, z, f, n, ()) (k, v, ()) = some (r, okb st z f n k v) := by
  obtain ⟨r, b, h1, _⟩ := step_ok st z f n k v hg
  refine ⟨r, ?_⟩
  unfold okb
  rw [h1]
noncomputable def its (st z f n k : Int) : List GripStep :=
  (if okb st z f n k 0 = true then [(k, (0 : Int), ())] else []) ++ ((if okb st z f n k 1 = true then [(k, (1 : Int), ())] else []) ++ (if okb st z f n k 500 = true then [(k, (500 : Int), ())] else []))
theorem its_length (st z f n k : Int) : (its st z f n k).length ≤ 3 := by
  unfold its
  simp only [List.length_append]
  split <;> split <;> split <;> simp
theorem some_loop2 {st z f n : Int} (hg : GP st z f n) (k : Int) (acc : List GripStep) (ha : acc.length ≤ 100) :
    iter (fun s => impl_GripState_someSteps_loop2 (st, z, f, n, ()) k s.1 s.2) ((0 : Int), acc) = some (acc ++ its st z f n k) := by
  have one : ∀ (i : Nat) (v : Int) (m : List GripStep), i < 3 → ([(0 : Int), (1 : Int), (500 : Int)].getD i 0) = v → m.length ≤ 110 →
      impl_GripState_someSteps_loop2 (st, z, f, n, ()) k (i : Int) m = some (.go (((i + 1 : Nat) : Int), m ++ (if okb st z f n k v = true then [(k, v, ())] else []))) := by
    intro i v m hi hv hm
    obtain ⟨r, hr⟩ := step_some hg k v
    unfold impl_GripState_someSteps_loop2
    rw [cond_dt (by simp; omega), grd_pos (by simp; omega)]
    simp only [Int.toNat_natCast, hv, hr, Option.bind_some]
    rw [w64_nat (by omega)]
    cases okb st z f n k v
    · simp
    · simp only [cond_true]
      rw [grd_pos (by simp; omega)]; rfl
  have l1 : ∀ (v : Int), (if okb st z f n k v = true then [((k, v, ()) : GripStep)] else []).length ≤ 1 := fun v => by split <;> simp
  have s0 := one 0 0 acc (by omega) rfl (by omega)
  have s1 := one 1 1 (acc ++ (if okb st z f n k 0 = true then [(k, (0 : Int), ())] else [])) (by omega) rfl (by have := l1 0; simp only [List.length_append]; omega)
  have s2 := one 2 500 (acc ++ (if okb st z f n k 0 = true then [(k, (0 : Int), ())] else []) ++ (if okb st z f n k 1 = true then [(k, (1 : Int), ())] else [])) (by omega) rfl (by have := l1 0; have := l1 1; simp only [List.length_append]; omega)
  refine (iter_go s0).trans ((iter_go s1).trans ((iter_go s2).trans (iter_out ?_)))
  show impl_GripState_someSteps_loop2 (st, z, f, n, ()) k ((3 : Nat) : Int) _ = _
  unfold impl_GripState_someSteps_loop2
  rw [cond_df (by simp)]
  simp only [its, List.append_assoc]
theorem some_eq {st z f n : Int} (hg : GP st z f n) : impl_GripState_someSteps (st, z, f, n, ()) = some (its st z f n 1 ++ its st z f n 2 ++ its st z f n 3 ++ its st z f n 4 ++ its st z f n 5) := by
  unfold impl_GripState_someSteps
  have one : ∀ (k : Nat) (m : List GripStep), k ≤ 5 → m.length ≤ 100 → impl_GripState_someSteps_loop1 (st, z, f, n, ()) (k : Int) m = some (.go (((k + 1 : Nat) : Int), m ++ its st z f n (k : Int))) := by
    intro k m hk hm
    unfold impl_GripState_someSteps_loop1
    rw [cond_dt (by omega), some_loop2 hg _ _ hm, w64_nat (by omega)]; rfl
  have hl := its_length st z f n
  have H : iter (fun s => impl_GripState_someSteps_loop1 (st, z, f, n, ()) s.1 s.2) ((1 : Int), ([] : List GripStep)) = some (its st z f n 1 ++ its st z f n 2 ++ its st z f n 3 ++ its st z f n 4 ++ its st z f n 5) := by
    have s1 := one 1 [] (by omega) (by simp)
    have s2 := one 2 (its st z f n 1) (by omega) (by have := hl 1; omega)
    have s3 := one 3 (its st z f n 1 ++ its st z f n 2) (by omega) (by have := hl 1; have := hl 2; simp only [List.length_append]; omega)
    have s4 := one 4 (its st z f n 1 ++ its st z f n 2 ++ its st z f n 3) (by omega) (by have := hl 1; have := hl 2; have := hl 3; simp only [List.length_append]; omega)
    have s5 := one 5 (its st z f n 1 ++ its st z f n 2 ++ its st z f n 3 ++ its st z f n 4) (by omega) (by have := hl 1; have := hl 2; have := hl 3; have := hl 4; simp only [List.length_append]; omega)
    refine (iter_go s1).trans ((iter_go s2).trans ((iter_go s3).trans ((iter_go s4).trans ((iter_go s5).trans (iter_out ?_)))))
    show impl_GripState_someSteps_loop1 (st, z, f, n, ()) ((6 : Nat) : Int) _ = _
    unfold impl_GripState_someSteps_loop1
    rw [cond_df (by omega)]
    rfl
  rw [H]; rfl
/-- What the reference tries. -/
noncomputable def oks (st z f n k : Int) : Bool :=
  match spec_l21Make (st, z, f, n, ()) (k, (if k = 2 ∧ st = 1 then 2000 else 0), ()) with
  | some (_, b) => b
  | none => false
theorem l21Step_eq (st z f n k v : Int) : spec_l21Step (st, z, f, n, ()) (k, v, ()) = some (if k = 2 ∧ st = 1 then decide (1 ≤ v ∧ v ≤ 2000) else decide (1 ≤ k ∧ k ≤ 5 ∧ v = 0)) := by
  unfold spec_l21Step
  simp only [l1In_eq, Option.bind_some]
  by_cases h1 : k = 2
  · rw [cond_dt h1]
    by_cases h2 : st = 1
    · rw [cond_dt h2, if_pos ⟨h1, h2⟩]
    · rw [cond_df h2, if_neg (fun h => h2 h.2)]
      subst h1
      simp
  · rw [cond_df h1, if_neg (fun h => h1 h.1)]
    by_cases h3 : 1 ≤ k ∧ k ≤ 5
    · rw [cond_dt h3]; refine congrArg some ?_; rw [Bool.eq_iff_iff]; simp; omega
    · rw [cond_df h3]; refine congrArg some ?_; symm; rw [decide_eq_false_iff_not]; omega
theorem make_some {st z f n : Int} (hg : GP st z f n) (k v : Int) (hc : (if k = 2 ∧ st = 1 then decide (1 ≤ v ∧ v ≤ 2000) else decide (1 ≤ k ∧ k ≤ 5 ∧ v = 0)) = true) : ∃ r', spec_l21Make (st, z, f, n, ()) (k, v, ()) = some (r', okb st z f n k v) := by
  obtain ⟨r, b, h1, _, c, h2, h3, h4⟩ := step_ok st z f n k v hg
  rw [l21Step_eq] at h2
  have hc' : c = true := by rw [← hc]; exact (Option.some.inj h2).symm
  obtain ⟨r', h5, _⟩ := h4 hc'
  refine ⟨r', ?_⟩
  unfold okb
  rw [h5, h1]
theorem ok_no {st z f n : Int} (hg : GP st z f n) (k v : Int) (hc : (if k = 2 ∧ st = 1 then decide (1 ≤ v ∧ v ≤ 2000) else decide (1 ≤ k ∧ k ≤ 5 ∧ v = 0)) = false) : okb st z f n k v = false := by
  obtain ⟨r, b, h1, _, c, h2, h3, h4⟩ := step_ok st z f n k v hg
  rw [l21Step_eq] at h2
  have hc' : c = false := by rw [← hc]; exact (Option.some.inj h2).symm
  unfold okb
  rw [h1]
  exact h3 hc'
theorem push_yes {st z f n : Int} (hg : GP st z f n) (hs : st = 1) (v : Int) : spec_l21Make (st, z, f, n, ()) (2, v, ()) = some ((2, z, v, n, ()), true) := by
  have hz : z = 1 := by omega
  subst hs hz
  simp [spec_l21Make, spec_l21Move]
theorem kinds_k {st z f n : Int} (hg : GP st z f n) (k : Int) (hk : 1 ≤ k ∧ k ≤ 5) :
    ((its st z f n k).map (fun x => x.1) = [] ∧ oks st z f n k = false) ∨ ((its st z f n k).map (fun x => x.1) = [k] ∧ oks st z f n k = true) ∨ ((its st z f n k).map (fun x => x.1) = [k, k] ∧ oks st z f n k = true) := by
  by_cases hp : k = 2 ∧ st = 1
  · obtain ⟨rfl, hs⟩ := hp
    have e0 : okb st z f n 2 0 = false := ok_no hg 2 0 (by rw [if_pos ⟨rfl, hs⟩]; rfl)
    have e1 : okb st z f n 2 1 = true := by
      obtain ⟨r, hr⟩ := make_some hg 2 1 (by rw [if_pos ⟨rfl, hs⟩]; rfl)
      rw [push_yes hg hs] at hr
      exact ((Prod.mk.inj (Option.some.inj hr)).2).symm
    have e2 : okb st z f n 2 500 = true := by
      obtain ⟨r, hr⟩ := make_some hg 2 500 (by rw [if_pos ⟨rfl, hs⟩]; rfl)
      rw [push_yes hg hs] at hr
      exact ((Prod.mk.inj (Option.some.inj hr)).2).symm
    right; right
    refine ⟨by simp [its, e0, e1, e2], ?_⟩
    unfold oks
    rw [if_pos ⟨rfl, hs⟩, push_yes hg hs]
  · have e1 : okb st z f n k 1 = false := ok_no hg k 1 (by rw [if_neg hp]; simp)
    have e2 : okb st z f n k 500 = false := ok_no hg k 500 (by rw [if_neg hp]; simp)
    obtain ⟨r, hr⟩ := make_some hg k 0 (by rw [if_neg hp]; simpa using hk)
    have ho : oks st z f n k = okb st z f n k 0 := by
      unfold oks
      rw [if_neg hp, hr]
    rw [ho]
    cases h0 : okb st z f n k 0
    · left; exact ⟨by simp [its, h0, e1, e2], rfl⟩
    · right; left; exact ⟨by simp [its, h0, e1, e2], rfl⟩
def kOf (b : Bool) (k : Int) : List Int := if b = true then [k] else []
theorem spec_loop {st z f n : Int} (hg : GP st z f n) : iter (fun s => spec_PossibleSteps_loop1 (st, z, f, n, ()) s.1 s.2) ((1 : Int), ([] : List Int)) =
    some (kOf (oks st z f n 1) 1 ++ kOf (oks st z f n 2) 2 ++ kOf (oks st z f n 3) 3 ++ kOf (oks st z f n 4) 4 ++ kOf (oks st z f n 5) 5) := by
  have one : ∀ (k : Nat) (m : List Int), 1 ≤ k → k ≤ 5 → m.length ≤ 100 → spec_PossibleSteps_loop1 (st, z, f, n, ()) (k : Int) m = some (.go (((k + 1 : Nat) : Int), m ++ kOf (oks st z f n (k : Int)) (k : Int))) := by
    intro k m h1 hk hm
    have ht : spec_l21Try (st, z, f, n, ()) (k : Int) = some ((k : Int), (if (k : Int) = 2 ∧ st = 1 then (2000 : Int) else 0), ()) := by
      unfold spec_l21Try
      by_cases h2 : (k : Int) = 2
      · rw [cond_dt h2]
        by_cases h3 : st = 1
        · rw [cond_dt h3, if_pos ⟨h2, h3⟩]
        · rw [cond_df h3, if_neg (fun h => h3 h.2)]
      · rw [cond_df h2, if_neg (fun h => h2 h.1)]
    obtain ⟨r, hr⟩ : ∃ r, spec_l21Make (st, z, f, n, ()) ((k : Int), (if (k : Int) = 2 ∧ st = 1 then (2000 : Int) else 0), ()) = some (r, oks st z f n (k : Int)) := by
      obtain ⟨r, hr⟩ := make_some hg (k : Int) (if (k : Int) = 2 ∧ st = 1 then (2000 : Int) else 0) (by
        by_cases h2 : (k : Int) = 2 ∧ st = 1
        · rw [if_pos h2, if_pos h2]; rfl
        · rw [if_neg h2, if_neg h2]; simp; omega)
      refine ⟨r, ?_⟩
      unfold oks
      rw [hr]
    unfold spec_PossibleSteps_loop1
    rw [cond_dt (by omega), ht]
    simp only [Option.bind_some, hr]
    rw [w64_nat (by omega)]
    cases oks st z f n (k : Int)
    · simp [kOf]
    · simp only [cond_true]
      rw [grd_pos (by simp; omega)]; rfl
  have hl : ∀ b k, (kOf b k).length ≤ 1 := fun b k => by unfold kOf; split <;> simp
  have s1 := one 1 [] (by omega) (by omega) (by simp)
  have s2 := one 2 (kOf (oks st z f n 1) 1) (by omega) (by omega) (by have := hl (oks st z f n 1) 1; omega)
  have s3 := one 3 (kOf (oks st z f n 1) 1 ++ kOf (oks st z f n 2) 2) (by omega) (by omega) (by have := hl (oks st z f n 1) 1; have := hl (oks st z f n 2) 2; simp only [List.length_append]; omega)
  have s4 := one 4 (kOf (oks st z f n 1) 1 ++ kOf (oks st z f n 2) 2 ++ kOf (oks st z f n 3) 3) (by omega) (by omega) (by have := hl (oks st z f n 1) 1; have := hl (oks st z f n 2) 2; have := hl (oks st z f n 3) 3; simp only [List.length_append]; omega)
  have s5 := one 5 (kOf (oks st z f n 1) 1 ++ kOf (oks st z f n 2) 2 ++ kOf (oks st z f n 3) 3 ++ kOf (oks st z f n 4) 4) (by omega) (by omega) (by have := hl (oks st z f n 1) 1; have := hl (oks st z f n 2) 2; have := hl (oks st z f n 3) 3; have := hl (oks st z f n 4) 4; simp only [List.length_append]; omega)
  refine (iter_go s1).trans ((iter_go s2).trans ((iter_go s3).trans ((iter_go s4).trans ((iter_go s5).trans (iter_out ?_)))))
  show spec_PossibleSteps_loop1 (st, z, f, n, ()) ((6 : Nat) : Int) _ = _
  unfold spec_PossibleSteps_loop1
  rw [cond_df (by omega)]
  rfl
theorem kinds_loop (l : List GripStep) (h : l.length ≤ 100) : iter (fun s => impl_PossibleSteps_loop1 s.1 s.2.1 s.2.2.1 s.2.2.2) ((l.length : Int), (0 : Int), ([] : List Int), l) = some (l.map fun x => x.1) := by
  refine iter_for l.length (fun k => ((l.length : Int), (k : Int), (l.take k).map (fun x => x.1), l)) (fun k hk => ?_) ?_ rfl
  · show impl_PossibleSteps_loop1 (l.length : Int) (k : Int) ((l.take k).map (fun x => x.1)) l = _
    unfold impl_PossibleSteps_loop1
    rw [cond_dt (by omega), grd_pos (by omega), grd_pos (by simp; omega), w64_nat (by omega), Int.toNat_natCast, getD_eq _ _ _ hk, List.take_succ_eq_append_getElem hk]
    have hq : k < (l.map fun x => x.1).length := by simpa using hk
    simp only [List.map_append, List.map_cons, List.map_nil]
  · show impl_PossibleSteps_loop1 (l.length : Int) (l.length : Int) _ l = _
    unfold impl_PossibleSteps_loop1
    rw [cond_df (by omega)]; simp
theorem possible_ok (g : GripState) : (spec_PossibleSteps g = some ([], false) ∧ impl_PossibleSteps g = some (Sum.inl ()) ∧ ¬ Good g) ∨ ∃ l, spec_PossibleSteps g = some (l, true) ∧ impl_PossibleSteps g = some (Sum.inr l) ∧ l.length ≤ 1048576 ∧ ∀ k, 1 ≤ k → k ≤ 5 → oks g.1 g.2.1 g.2.2.1 g.2.2.2.1 k = true → k ∈ l := by
  obtain ⟨st, z, f, n, u⟩ := g
  unfold spec_PossibleSteps impl_PossibleSteps
  simp only [l21Good_eq, isGrip_eq, Option.bind_some]
  by_cases hg : GP st z f n
  case neg => left; rw [cond_ndf hg, cond_ndf hg]; exact ⟨rfl, rfl, hg⟩
  right
  rw [cond_ndt hg, cond_ndt hg, spec_loop hg, some_eq hg]
  have hl := its_length st z f n
  simp only [Option.bind_some]
  have hlen : (its st z f n 1 ++ its st z f n 2 ++ its st z f n 3 ++ its st z f n 4 ++ its st z f n 5).length ≤ 100 := by
    have := hl 1; have := hl 2; have := hl 3; have := hl 4; have := hl 5
    simp only [List.length_append]; omega
  rw [kinds_loop _ hlen]
  simp only [Option.bind_some]
  obtain ⟨r, hr, hor⟩ := compact_eq ((its st z f n 1 ++ its st z f n 2 ++ its st z f n 3 ++ its st z f n 4 ++ its st z f n 5).map fun x => x.1) (by rw [List.length_map]; omega)
  have hc : cpt ((its st z f n 1 ++ its st z f n 2 ++ its st z f n 3 ++ its st z f n 4 ++ its st z f n 5).map fun x => x.1) ((its st z f n 1 ++ its st z f n 2 ++ its st z f n 3 ++ its st z f n 4 ++ its st z f n 5).map fun x => x.1).length =
      kOf (oks st z f n 1) 1 ++ kOf (oks st z f n 2) 2 ++ kOf (oks st z f n 3) 3 ++ kOf (oks st z f n 4) 4 ++ kOf (oks st z f n 5) 5 := by
    simp only [List.map_append]
    rcases kinds_k hg 1 (by omega) with ⟨k1, o1⟩ | ⟨k1, o1⟩ | ⟨k1, o1⟩ <;> rcases kinds_k hg 2 (by omega) with ⟨k2, o2⟩ | ⟨k2, o2⟩ | ⟨k2, o2⟩ <;> rcases kinds_k hg 3 (by omega) with ⟨k3, o3⟩ | ⟨k3, o3⟩ | ⟨k3, o3⟩ <;>
      rcases kinds_k hg 4 (by omega) with ⟨k4, o4⟩ | ⟨k4, o4⟩ | ⟨k4, o4⟩ <;> rcases kinds_k hg 5 (by omega) with ⟨k5, o5⟩ | ⟨k5, o5⟩ | ⟨k5, o5⟩ <;>
      (rw [k1, k2, k3, k4, k5, o1, o2, o3, o4, o5]; rfl)
  refine ⟨kOf (oks st z f n 1) 1 ++ kOf (oks st z f n 2) 2 ++ kOf (oks st z f n 3) 3 ++ kOf (oks st z f n 4) 4 ++ kOf (oks st z f n 5) 5, rfl, ?_, ?_, ?_⟩
  · rw [hr, Option.bind_some]
    rcases hor with ⟨rfl, e⟩ | rfl
    · rw [Sum.elim_inl]
      refine congrArg some (congrArg Sum.inr ?_)
      show List.map _ _ = _
      rw [← hc, e]
    · rw [Sum.elim_inr, hc]
  · have hk : ∀ b k, (kOf b k).length ≤ 1 := fun b k => by unfold kOf; split <;> simp
    have := hk (oks st z f n 1) 1; have := hk (oks st z f n 2) 2; have := hk (oks st z f n 3) 3; have := hk (oks st z f n 4) 4; have := hk (oks st z f n 5) 5
    simp only [List.length_append]; omega
  · intro k h1 h5 ho
    have hk : k = 1 ∨ k = 2 ∨ k = 3 ∨ k = 4 ∨ k = 5 := by omega
    have hm : ∀ b j, b = true → j ∈ kOf b j := fun b j hb => by subst hb; simp [kOf]
    simp only [List.mem_append]
    rcases hk with rfl | rfl | rfl | rfl | rfl
    · exact .inl (.inl (.inl (.inl (hm _ _ ho))))
    · exact .inl (.inl (.inl (.inr (hm _ _ ho))))
    · exact .inl (.inl (.inr (hm _ _ ho)))
    · exact .inl (.inr (hm _ _ ho))
    · exact .inr (hm _ _ ho)
end Go.Proofs.Ytmknleaomfpmmaa
