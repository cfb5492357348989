/-
  Plain laws of the ways of a grip: the steps that the search tries, and the one that leads on.
-/
import Derived.Test.YtaajchikfgbecaaS71
namespace Go.Proofs.Ytaajchikfgbecaa
open Go.RowKit

/-- Whether a step is one of the reference's own. -/
noncomputable def spec_l21Step (a0 : GripState) (a1 : GripStep) : Option (Bool) :=
  (cond (decide (a1.1 = (2 : Int))) (cond (decide (a0.1 = (1 : Int))) ((spec_l1In a1.2.1 (1 : Int) (2000 : Int)).bind fun y1 => (some y1)) ((spec_l1In a1.1 (1 : Int) (5 : Int)).bind fun y2 => (cond y2 ((some (decide (a1.2.1 = (0 : Int))))) ((some false))))) ((spec_l1In a1.1 (1 : Int) (5 : Int)).bind fun y3 => (cond y3 ((some (decide (a1.2.1 = (0 : Int))))) ((some false)))))
set_option maxHeartbeats 40000000 in
theorem step_ok (st z f n k v : Int) (hg : GP st z f n) : ∃ r b, impl_GripState_step (st, z, f, n, ()) (k, v, ()) = some (r, b) ∧ (b = true → Good r) ∧
    ∃ c, spec_l21Step (st, z, f, n, ()) (k, v, ()) = some c ∧ (c = false → b = false) ∧ (c = true → ∃ r', spec_l21Make (st, z, f, n, ()) (k, v, ()) = some (r', b) ∧ (b = true → r' = r)) := by
  have hst : st = 0 ∨ st = 1 ∨ st = 2 ∨ st = 3 ∨ st = 4 := by omega
  have hz : z = 0 ∨ z = 1 ∨ z = 2 ∨ z = 3 := by omega
  have hk : k = 1 ∨ k = 2 ∨ k = 3 ∨ k = 4 ∨ k = 5 ∨ (k < 1 ∨ 5 < k) := by omega
  have e4 : w64 (n + 1) = n + 1 := w64_id (by omega) (by omega)
  have e1 : Int.tmod (w64 (1 : Int)) 4 = 1 := rfl
  have e2 : Int.tmod (w64 (2 : Int)) 4 = 2 := rfl
  have e3 : Int.tmod (w64 (3 : Int)) 4 = 3 := rfl
  have e5 : Int.tmod (w64 (4 : Int)) 4 = 0 := rfl
  rcases hst with rfl | rfl | rfl | rfl | rfl <;> rcases hz with rfl | rfl | rfl | rfl <;> first | (exfalso; omega) | skip
  all_goals rcases hk with rfl | rfl | rfl | rfl | rfl | hk
  all_goals (try have hk1 : ¬ k = 1 := by omega)
  all_goals (try have hk2 : ¬ k = 2 := by omega)
  all_goals (try have hk3 : ¬ k = 3 := by omega)
  all_goals (try have hk4 : ¬ k = 4 := by omega)
  all_goals (try have hk5 : ¬ k = 5 := by omega)
  all_goals (try have hk6 : ¬ (1 ≤ k ∧ k ≤ 5) := by omega)
  all_goals (try (have h0f : f = 0 := (by omega); subst h0f))
  all_goals (have hn : n = 0 ∨ n = 1 ∨ n = 2 ∨ n = 3 := by omega)
  all_goals (have hn0 : 0 ≤ n := by omega)
  all_goals (have hn1 : n ≤ 3 := by omega)
  all_goals (try (have hf0 : 0 ≤ f := by omega))
  all_goals (try (have hf1 : f ≤ 2000 := by omega))
  all_goals
    (first
      | simp [-Prod.exists, impl_GripState_step, spec_l21Step, spec_l21Make, spec_l21Move, spec_l1Least, isGrip_eq, l21Good_eq, l1In_eq, within_eq, joinx_cond, joinx_out, joinx_go, e1, e2, e3, e5, e4, grd, GP, hk1, hk2, hk3, hk4, hk5, hk6, hn0, hn1]
      | simp [-Prod.exists, impl_GripState_step, spec_l21Step, spec_l21Make, spec_l21Move, spec_l1Least, isGrip_eq, l21Good_eq, l1In_eq, within_eq, joinx_cond, joinx_out, joinx_go, e2, e3, e5, e4, grd, GP, hn0, hn1, hf0, hf1]
      | simp [-Prod.exists, impl_GripState_step, spec_l21Step, spec_l21Make, spec_l21Move, spec_l1Least, isGrip_eq, l21Good_eq, l1In_eq, within_eq, joinx_cond, joinx_out, joinx_go, e1, e2, e5, e4, grd, GP, hn0, hn1]) <;>
    by_cases hv : v = 0 <;> by_cases hw : (1 ≤ v ∧ v ≤ 2000) <;> (first | (exfalso; omega) | skip) <;> (try simp [-Prod.exists, hv, hw]) <;>
    rcases hn with rfl | rfl | rfl | rfl <;> (try simp [-Prod.exists]) <;> (try by_cases h5 : f < 500) <;> (try simp [-Prod.exists, h5]) <;> (first | omega | (simp only [Good]; omega) | exact ⟨_, .inr ⟨⟨rfl, by omega⟩, (by simp only [Good]; omega), rfl⟩⟩ | (rw [show (decide (1 ≤ v) && decide (v ≤ 2000)) = false from (by rw [Bool.eq_false_iff]; simp; omega)]; refine ⟨⟨_, rfl⟩, ?_⟩; omega) | (rw [decide_eq_true (show 500 ≤ f by omega)]; exact ⟨_, ⟨rfl, by omega⟩, (by simp only [Good]; omega), rfl⟩) | (rw [decide_eq_false (show ¬ 500 ≤ f by omega)]; exact ⟨_, .inl ⟨rfl, _, rfl⟩⟩) | skip)
noncomputable def okb (st z f n k v : Int) : Bool :=
  match impl_GripState_step (st, z, f, n, ()) (k, v, ()) with
  | some (_, b) => b
  | none => false
theorem step_some {st z f n : Int} (hg : GP st z f n) (k v : Int) : ∃ r, impl_GripState_step (st, z, f, n, ()) (k, v, ()) = some (r, okb st z f n k v) := by
  obtain ⟨r, b, h1, _⟩ := step_ok st z f n k v hg
  refine ⟨r, ?_⟩
  unfold okb
  rw [h1]
noncomputable def its (st z f n k : Int) : List GripStep :=
  (if okb st z f n k 0 = true then [(k, (0 : Int), ())] else []) ++ ((if okb st z f n k 1 = true then [(k, (1 : Int), ())] else []) ++ (if okb st z f n k 500 = true then [(k, (500 : Int), ())] else []))
theorem its_length (st z f n k : Int) : (its st z f n k).length ≤ 3 := by
  unfold its
  simp only [List.length_append]
  split <;> split <;> split <;> simp
theorem some_loop2 {st z f n : Int} (hg : GP st z f n) (k : Int) (acc : List GripStep) (ha : acc.length ≤ 100) :
    iter (fun s => impl_GripState_someSteps_loop2 (st, z, f, n, ()) k s.1 s.2) ((0 : Int), acc) = some (acc ++ its st z f n k) := by
  have one : ∀ (i : Nat) (v : Int) (m : List GripStep), i < 3 → ([(0 : Int), (1 : Int), (500 : Int)].getD i 0) = v → m.length ≤ 110 →
      impl_GripState_someSteps_loop2 (st, z, f, n, ()) k (i : Int) m = some (.go (((i + 1 : Nat) : Int), m ++ (if okb st z f n k v = true then [(k, v, ())] else []))) := by
    intro i v m hi hv hm
    obtain ⟨r, hr⟩ := step_some hg k v
    unfold impl_GripState_someSteps_loop2
    rw [cond_dt (by simp; omega), grd_pos (by simp; omega)]
    simp only [Int.toNat_natCast, hv, hr, Option.bind_some]
    rw [w64_nat (by omega)]
    cases okb st z f n k v
    · simp
    · simp only [cond_true]
      rw [grd_pos (by simp; omega)]; rfl
  have l1 : ∀ (v : Int), (if okb st z f n k v = true then [((k, v, ()) : GripStep)] else []).length ≤ 1 := fun v => by split <;> simp
  have s0 := one 0 0 acc (by omega) rfl (by omega)
  have s1 := one 1 1 (acc ++ (if okb st z f n k 0 = true then [(k, (0 : Int), ())] else [])) (by omega) rfl (by have := l1 0; simp only [List.length_append]; omega)
  have s2 := one 2 500 (acc ++ (if okb st z f n k 0 = true then [(k, (0 : Int), ())] else []) ++ (if okb st z f n k 1 = true then [(k, (1 : Int), ())] else [])) (by omega) rfl (by have := l1 0; have := l1 1; simp only [List.length_append]; omega)
  refine (iter_go s0).trans ((iter_go s1).trans ((iter_go s2).trans (iter_out ?_)))
  show impl_GripState_someSteps_loop2 (st, z, f, n, ()) k ((3 : Nat) : Int) _ = _
  unfold impl_GripState_someSteps_loop2
  rw [cond_df (by simp)]
  simp only [its, List.append_assoc]
theorem some_eq {st z f n : Int} (hg : GP st z f n) : impl_GripState_someSteps (st, z, f, n, ()) = some (its st z f n 1 ++ its st z f n 2 ++ its st z f n 3 ++ its st z f n 4 ++ its st z f n 5) := by
  unfold impl_GripState_someSteps
  have one : ∀ (k : Nat) (m : List GripStep), k ≤ 5 → m.length ≤ 100 → impl_GripState_someSteps_loop1 (st, z, f, n, ()) (k : Int) m = some (.go (((k + 1 : Nat) : Int), m ++ its st z f n (k : Int))) := by
    intro k m hk hm
    unfold impl_GripState_someSteps_loop1
    rw [cond_dt (by omega), some_loop2 hg _ _ hm, w64_nat (by omega)]; rfl
  have hl := its_length st z f n
  have H : iter (fun s => impl_GripState_someSteps_loop1 (st, z, f, n, ()) s.1 s.2) ((1 : Int), ([] : List GripStep)) = some (its st z f n 1 ++ its st z f n 2 ++ its st z f n 3 ++ its st z f n 4 ++ its st z f n 5) := by
    have s1 := one 1 [] (by omega) (by simp)
    have s2 := one 2 (its st z f n 1) (by omega) (by have := hl 1; omega)
    have s3 := one 3 (its st z f n 1 ++ its st z f n 2) (by omega) (by have := hl 1; have := hl 2; simp only [List.length_append]; omega)
    have s4 := one 4 (its st z f n 1 ++ its st z f n 2 ++ its st z f n 3) (by omega) (by have := hl 1; have := hl 2; have := hl 3; simp only [List.length_append]; omega)
    have s5 := one 5 (its st z f n 1 ++ its st z f n 2 ++ its st z f n 3 ++ its st z f n 4) (by omega) (by have := hl 1; have := hl 2; have := hl 3; have := hl 4; simp only [List.length_append]; omega)
    refine (iter_go s1).trans ((iter_go s2).trans ((iter_go s3).trans ((iter_go s4).trans ((iter_go s5).trans (iter_out ?_)))))
    show impl_GripState_someSteps_loop1 (st, z, f, n, ()) ((6 : Nat) : Int) _ = _
    unfold impl_GripState_someSteps_loop1
    rw [cond_df (by omega)]
    rfl
  rw [H]; rfl
theorem l21Step_eq (st z f n k v : Int) : spec_l21Step (st, z, f, n, ()) (k, v, ()) = some (if k = 2 ∧ st = 1 then decide (1 ≤ v ∧ v ≤ 2000) else decide (1 ≤ k ∧ k ≤ 5 ∧ v = 0)) := by
  unfold spec_l21Step
  simp only [l1In_eq, Option.bind_some]
  by_cases h1 : k = 2
  · rw [cond_dt h1]
    by_cases h2 : st = 1
    · rw [cond_dt h2, if_pos ⟨h1, h2⟩]
    · rw [cond_df h2, if_neg (fun h => h2 h.2)]
      subst h1
      simp
  · rw [cond_df h1, if_neg (fun h => h1 h.1)]
    by_cases h3 : 1 ≤ k ∧ k ≤ 5
    · rw [cond_dt h3]; refine congrArg some ?_; rw [Bool.eq_iff_iff]; simp; omega
    · rw [cond_df h3]; refine congrArg some ?_; symm; rw [decide_eq_false_iff_not]; omega
theorem make_some {st z f n : Int} (hg : GP st z f n) (k v : Int) (hc : (if k = 2 ∧ st = 1 then decide (1 ≤ v ∧ v ≤ 2000) else decide (1 ≤ k ∧ k ≤ 5 ∧ v = 0)) = true) : ∃ r', spec_l21Make (st, z, f, n, ()) (k, v, ()) = some (r', okb st z f n k v) := by
  obtain ⟨r, b, h1, _, c, h2, h3, h4⟩ := step_ok st z f n k v hg
  rw [l21Step_eq] at h2
  have hc' : c = true := by rw [← hc]; exact (Option.some.inj h2).symm
  obtain ⟨r', h5, _⟩ := h4 hc'
  refine ⟨r', ?_⟩
  unfold okb
  rw [h5, h1]
theorem ok_no {st z f n : Int} (hg : GP st z f n) (k v : Int) (hc : (if k = 2 ∧ st = 1 then decide (1 ≤ v ∧ v ≤ 2000) else decide (1 ≤ k ∧ k ≤ 5 ∧ v = 0)) = false) : okb st z f n k v = false := by
  obtain ⟨r, b, h1, _, c, h2, h3, h4⟩ := step_ok st z f n k v hg
  rw [l21Step_eq] at h2
  have hc' : c = false := by rw [← hc]; exact (Option.some.inj h2).symm
  unfold okb
  rw [h1]
  exact h3 hc'
theorem push_yes {st z f n : Int} (hg : GP st z f n) (hs : st = 1) (v : Int) : spec_l21Make (st, z, f, n, ()) (2, v, ()) = some ((2, z, v, n, ()), true) := by
  have hz : z = 1 := by omega
  subst hs hz
  simp [spec_l21Make, spec_l21Move]
/-- The step that leads on: its kind and its value. -/
def wk (st z f : Int) : Int := if z = 2 then 1 else if z = 0 then (if st = 0 then 1 else 5) else if z = 3 then (if st = 0 then 1 else 3) else (if st = 0 then 2 else if st = 1 then 2 else if st = 2 then (if f < 500 then 3 else 1) else 3)
def wv (st z : Int) : Int := if z = 1 then (if st = 1 then 500 else 0) else 0
set_option maxHeartbeats 40000000 in
theorem stepW (st z f n : Int) (hg : GP st z f n) : ∃ r, impl_GripState_step (st, z, f, n, ()) (wk st z f, wv st z, ()) = some (r, true) ∧
    (z ≠ 2 → D2 r.1 r.2.1 r.2.2.1 + 1 = D2 st z f) ∧ (z ≠ 0 → D0 r.1 r.2.1 r.2.2.1 + 1 = D0 st z f) := by
  have hst : st = 0 ∨ st = 1 ∨ st = 2 ∨ st = 3 ∨ st = 4 := by omega
  have hz : z = 0 ∨ z = 1 ∨ z = 2 ∨ z = 3 := by omega
  have hn : n = 0 ∨ n = 1 ∨ n = 2 ∨ n = 3 := by omega
  have hf : (st ≠ 2 ∧ f = 0) ∨ (st = 2 ∧ 0 ≤ f ∧ f < 500) ∨ (st = 2 ∧ 500 ≤ f ∧ f ≤ 2000) := by omega
  rcases hf with ⟨h2, rfl⟩ | ⟨rfl, hf0, hf1⟩ | ⟨rfl, hf0, hf1⟩
  all_goals (try rcases hst with rfl | rfl | rfl | rfl | rfl)
  all_goals (rcases hz with rfl | rfl | rfl | rfl)
  all_goals first | (exfalso; omega) | skip
  all_goals (try have hfa : 0 ≤ f := by omega)
  all_goals (try have hfb : f ≤ 2000 := by omega)
  all_goals (try have hfc : ¬ 500 ≤ f := by omega)
  all_goals (try have hfd : ¬ f < 500 := by omega)
  all_goals (clear hg; rcases hn with rfl | rfl | rfl | rfl)
  all_goals (first
    | (simp [wk, wv, impl_GripState_step, isGrip_eq, within_eq, joinx_cond, joinx_out, joinx_go, w64_id, grd, GP, D2, D0]; done)
    | (simp [wk, wv, impl_GripState_step, isGrip_eq, within_eq, joinx_cond, joinx_out, joinx_go, w64_id, grd, GP, D2, D0, hfa, hfb, hfd, hf0]; done)
    | (simp [wk, wv, impl_GripState_step, isGrip_eq, within_eq, joinx_cond, joinx_out, joinx_go, w64_id, grd, GP, D2, D0, hfa, hfb, hfc, hf1]; done)
    | skip)
theorem wk_range (st z f : Int) : 1 ≤ wk st z f ∧ wk st z f ≤ 5 := by
  unfold wk; repeat' split
  all_goals omega
theorem wv_range (st z : Int) : wv st z = 0 ∨ wv st z = 1 ∨ wv st z = 500 := by
  unfold wv; repeat' split
  all_goals omega
/-- What the reference tries for a kind. -/
def tryv (st k : Int) : Int := if k = 2 ∧ st = 1 then 2000 else 0
theorem try_eq (st z f n k : Int) : spec_l21Try (st, z, f, n, ()) k = some (k, tryv st k, ()) := by
  unfold spec_l21Try tryv
  by_cases h2 : k = 2
  · rw [cond_dt h2]
    by_cases h3 : st = 1
    · rw [cond_dt h3, if_pos ⟨h2, h3⟩]
    · rw [cond_df h3, if_neg (fun h => h3 h.2)]
  · rw [cond_df h2, if_neg (fun h => h2 h.1)]
theorem stepS (st z f n k : Int) (hg : GP st z f n) (hk : 1 ≤ k ∧ k ≤ 5) : nearB (st, z, f, n, ()) (spec_l21Make (st, z, f, n, ()) (k, tryv st k, ())) := by
  by_cases h : k = 2 ∧ st = 1
  · obtain ⟨rfl, hs⟩ := h
    have hz : z = 1 := by omega
    rw [push_yes hg hs]
    refine nearB_t _ _ _ (fun _ => ?_)
    have hf : f = 0 := by omega
    subst hs hz hf
    refine ⟨?_, ?_, ?_⟩
    · show GP _ _ _ _
      simp only [tryv]
      refine ⟨by omega, by omega, by omega, by omega, ?_, ?_, by omega, by omega, ?_, ?_, ?_, ?_, ?_⟩ <;> simp
    · simp [D2, tryv]
    · simp [D0, tryv]
  · have hv : tryv st k = 0 := if_neg h
    rw [hv]
    obtain ⟨r, b, h1, h2, c, h3, h4, h5⟩ := step_ok st z f n k 0 hg
    rw [l21Step_eq, if_neg h] at h3
    have hc : c = true := by rw [← Option.some.inj h3]; simp; omega
    obtain ⟨r', h6, h7⟩ := h5 hc
    rw [h6]
    refine nearB_t _ _ _ (fun hb => ?_)
    rw [h7 hb]
    have := stepI st z f n k 0 hg hk (.inl rfl)
    rw [h1, hb] at this
    exact this
theorem stepWS (st z f n : Int) (hg : GP st z f n) : ∃ r, spec_l21Make (st, z, f, n, ()) (wk st z f, tryv st (wk st z f), ()) = some (r, true) ∧
    (z ≠ 2 → D2 r.1 r.2.1 r.2.2.1 + 1 = D2 st z f) ∧ (z ≠ 0 → D0 r.1 r.2.1 r.2.2.1 + 1 = D0 st z f) := by
  by_cases h : wk st z f = 2 ∧ st = 1
  · obtain ⟨hw, hs⟩ := h
    have hz : z = 1 := by omega
    have hf : f = 0 := by omega
    rw [hw, push_yes hg hs]
    refine ⟨_, rfl, fun _ => ?_, fun _ => ?_⟩
    · subst hs hz hf; simp [D2, tryv]
    · subst hs hz hf; simp [D0, tryv]
  · have hv : tryv st (wk st z f) = 0 := if_neg h
    have hv0 : wv st z = 0 := by
      by_cases hz : z = 1
      · by_cases hs : st = 1
        · exfalso; apply h; subst hs hz; exact ⟨by simp [wk], rfl⟩
        · unfold wv; rw [if_pos hz, if_neg hs]
      · unfold wv; rw [if_neg hz]
    obtain ⟨r0, h0, hd⟩ := stepW st z f n hg
    rw [hv0] at h0
    obtain ⟨r, b, h1, h2, c, h3, h4, h5⟩ := step_ok st z f n (wk st z f) 0 hg
    rw [h0] at h1
    have hb : b = true := ((Prod.mk.inj (Option.some.inj h1)).2).symm
    have hr : r0 = r := (Prod.mk.inj (Option.some.inj h1)).1
    have hk := wk_range st z f
    rw [l21Step_eq, if_neg h] at h3
    have hc : c = true := by rw [← Option.some.inj h3]; simp; omega
    obtain ⟨r', h6, h7⟩ := h5 hc
    rw [hv, h6, h7 hb, hb, ← hr]
    exact ⟨_, rfl, hd⟩
end Go.Proofs.Ytaajchikfgbecaa
