/-
  Plain laws of lists of conditions: which are good; the two plans.
-/
import Derived.Test.YtpmmaohaahbphaaDoorI73
namespace Go.Proofs.YtpmmaohaahbphaaDoor
open Go.RowKit

/-- A condition at its place: good, and its number above the one before. -/
def okAt (l : List Condition) (k : Nat) : Bool := okC (l.getD k d_Condition) && (decide (k = 0) || decide ((l.getD (k - 1) d_Condition).1 < (l.getD k d_Condition).1))
def goodL (l : List Condition) : Bool := (List.range l.length).all (okAt l) && decide (l.length ≤ 12)
theorem step_good {l : List Condition} {k : Nat} (hk : k < l.length) (hl : l.length ≤ 1000) {b : Bool} (hb : okC (l.getD k d_Condition) = b) :
    (some b).bind (fun y6 => cond (!y6) (some (.out (Sum.inl ()))) (cond (decide ((0 : Int) < (k : Int))) (grd (0 ≤ (w64 ((k : Int) - (1 : Int))) ∧ (w64 ((k : Int) - (1 : Int))) < (l.length : Int)) (cond (decide (((l.getD k d_Condition).1) ≤ ((l.getD ((w64 ((k : Int) - (1 : Int))).toNat) d_Condition).1))) (some (.out (Sum.inl ()))) (some (.go (w64 ((k : Int) + (1 : Int))))))) (some (.go (w64 ((k : Int) + (1 : Int))))))) =
      some (if okAt l k then (.go (((k + 1 : Nat) : Int)) : Lp Int (Unit ⊕ Unit)) else .out (Sum.inl ())) := by
  have hw : w64 ((k : Int) + 1) = ((k + 1 : Nat) : Int) := w64_nat (by omega)
  unfold okAt
  rw [hb, Option.bind_some, hw]
  cases b with
  | false => rfl
  | true =>
    simp only [Bool.not_true, cond_false, Bool.true_and]
    by_cases h0 : k = 0
    · subst h0
      rw [cond_df (by omega)]
      simp
    · have hm : w64 ((k : Int) - 1) = ((k - 1 : Nat) : Int) := by rw [w64_id (by omega) (by omega)]; omega
      rw [cond_dt (by omega), hm, grd_pos (by omega), Int.toNat_natCast]
      by_cases h1 : (l.getD k d_Condition).1 ≤ (l.getD (k - 1) d_Condition).1
      · rw [cond_dt h1, decide_eq_false h0, decide_eq_false (by omega)]; rfl
      · rw [cond_df h1, decide_eq_false h0, decide_eq_true (by omega)]; rfl
theorem are_impl {l : List Condition} (h : LC 1000 l) : impl_AreConditions l = some (goodL l) := by
  have hl := h.1
  unfold impl_AreConditions goodL
  have H : iter (fun s => impl_AreConditions_loop1 l s) (0 : Int) = some (if (List.range l.length).all (okAt l) then Sum.inr () else Sum.inl ()) := by
    refine iter_allN l.length (okAt l) (fun k => (k : Int)) (fun k hk => ?_) ?_ rfl
    · show impl_AreConditions_loop1 l (k : Int) = _
      unfold impl_AreConditions_loop1
      have hm : l.getD k d_Condition ∈ l := by rw [getD_eq l k _ hk]; exact List.getElem_mem hk
      have hs : (l.getD k d_Condition).2.1.size ≤ 100 := h.2 _ hm
      rw [cond_dt (by omega), grd_pos (by omega)]
      simp only [Int.toNat_natCast, eta_c]
      rw [isCond_eq _ (by omega)]
      exact step_good hk hl rfl
    · show impl_AreConditions_loop1 l (l.length : Int) = _
      unfold impl_AreConditions_loop1
      rw [cond_df (by omega)]
  rw [H, Option.bind_some]
  cases (List.range l.length).all (okAt l) with
  | false => rfl
  | true =>
    simp only [if_true, Sum.elim_inr, Bool.true_and]
    refine congrArg some ?_
    by_cases h12 : l.length ≤ 12
    · rw [decide_eq_true h12, decide_eq_true (by omega)]
    · rw [decide_eq_false h12, decide_eq_false (by omega)]
theorem are_spec {l : List Condition} (h : LC 1000 l) : spec_l24Good l = some (goodL l) := by
  have hl := h.1
  unfold spec_l24Good goodL
  have H : iter (fun s => spec_l24Good_loop1 l s) (0 : Int) = some (if (List.range l.length).all (okAt l) then Sum.inr () else Sum.inl ()) := by
    refine iter_allN l.length (okAt l) (fun k => (k : Int)) (fun k hk => ?_) ?_ rfl
    · show spec_l24Good_loop1 l (k : Int) = _
      unfold spec_l24Good_loop1
      have hm : l.getD k d_Condition ∈ l := by rw [getD_eq l k _ hk]; exact List.getElem_mem hk
      have hs : (l.getD k d_Condition).2.1.size ≤ 100 := h.2 _ hm
      rw [cond_dt (by omega), grd_pos (by omega)]
      simp only [Int.toNat_natCast, eta_c]
      rw [l24One_eq _ (by omega)]
      refine Eq.trans ?_ (step_good hk hl rfl)
      refine congrArg _ (funext fun y6 => ?_)
      have : ∀ (x : Option (Lp Int (Unit ⊕ Unit))), grd (0 ≤ (k : Int) ∧ (k : Int) < (l.length : Int)) x = x := fun x => grd_pos (by omega)
      simp only [this]
    · show spec_l24Good_loop1 l (l.length : Int) = _
      unfold spec_l24Good_loop1
      rw [cond_df (by omega)]
  rw [H, Option.bind_some]
  cases (List.range l.length).all (okAt l) with
  | false => rfl
  | true =>
    simp only [if_true, Sum.elim_inr, Bool.true_and]
    refine congrArg some ?_
    by_cases h12 : l.length ≤ 12
    · rw [decide_eq_true h12, decide_eq_true (by omega)]
    · rw [decide_eq_false h12, decide_eq_false (by omega)]
/-- What a good list is. -/
theorem good_out {l : List Condition} (h : goodL l = true) : (∀ r ∈ l, OC r) ∧ Rising l ∧ l.length ≤ 12 := by
  unfold goodL at h
  simp only [Bool.and_eq_true, decide_eq_true_eq, List.all_eq_true, List.mem_range] at h
  obtain ⟨h1, h2⟩ := h
  have h3 : ∀ k (hk : k < l.length), OC l[k] ∧ (k ≠ 0 → l[k - 1].1 < l[k].1) := fun k hk => by
    have := h1 k hk
    unfold okAt at this
    simp only [Bool.and_eq_true, Bool.or_eq_true, decide_eq_true_eq] at this
    rw [getD_eq l k _ hk] at this
    refine ⟨okC_out this.1, fun h0 => ?_⟩
    rcases this.2 with e | e
    · exact absurd e h0
    · rw [getD_eq l (k - 1) _ (by omega)] at e; exact e
  refine ⟨fun r hr => ?_, ?_, h2⟩
  · obtain ⟨i, hi, e⟩ := List.mem_iff_getElem.1 hr
    rw [← e]; exact (h3 i hi).1
  · unfold Rising
    rw [List.pairwise_iff_getElem]
    intro i j hi hj hij
    have key : ∀ m (hm : i + 1 + m < l.length), l[i].1 < l[i + 1 + m].1 := fun m => by
      induction m with
      | zero => intro hm; exact (h3 (i + 1) hm).2 (by omega)
      | succ m ih =>
        intro hm
        have a := ih (by omega)
        have b := (h3 (i + 1 + (m + 1)) hm).2 (by omega)
        have e : i + 1 + (m + 1) - 1 = i + 1 + m := by omega
        simp only [e] at b
        omega
    have := key (j - (i + 1)) (by omega)
    have e : i + 1 + (j - (i + 1)) = j := by omega
    simp only [e] at this
    exact this

theorem first_impl (f e : Int) : (if false = true then (if f < e then f else e) else (if f > e then f else e)) = if f < e then e else f := by
  rw [if_neg (by decide)]
  by_cases h : f < e
  · rw [if_neg (by omega), if_pos h]
  · rw [if_neg h]
    by_cases h2 : f > e
    · rw [if_pos h2]
    · rw [if_neg h2]; omega
theorem endC_bound {r : Condition} (h : OC r) : -1 ≤ endC r ∧ endC r ≤ 10999 := by
  have h3 := h.every; have h4 := h.last
  unfold endC
  split
  · omega
  · split
    · split <;> omega
    · omega
theorem rowsC_length_le {f t : Int} {r : Condition} (he : 1 ≤ evC' r) (h : t - firstC f r ≤ 400) : (rowsC f t r).length ≤ 401 := by
  unfold rowsC
  rw [List.length_map, List.length_range]
  by_cases h0 : cntC f t r ≤ 401
  · exact h0
  · have h1 := (cnt_lt (f := f) (t := t) he 401).1 (by omega)
    have h2 : (401 : Int) * 1 ≤ ((401 : Nat) : Int) * evC' r := Int.mul_le_mul_of_nonneg_left he (by omega)
    omega
theorem implL_length : ∀ (l : List Condition) (f t : Int), (∀ r ∈ l, 1 ≤ evC' r) → t - f ≤ 400 → (implL l f t).length ≤ 401 * l.length
  | [], f, t, _, _ => by simp [implL]
  | r :: l, f, t, he, h => by
    have ih := implL_length l f t (fun r hr => he r (by simp [hr])) h
    have h1 := rowsC_length_le (f := f) (t := t) (he r (by simp)) (by have := firstC_ge f r; omega)
    unfold implL at *
    rw [List.flatMap_cons, List.length_append, List.length_cons]
    omega
theorem iloop2 (l : List Condition) (f t : Int) (i : Nat) (_hi : i < l.length) (ho : OC (l.getD i d_Condition)) (hf : 0 ≤ f) (hf2 : f ≤ t) (ht : t ≤ 9999) (hft : t - f ≤ 400) (out : List (List Int)) (hout : out.length ≤ 10000) :
    iter (fun s => impl_InspectionPlan_loop2 l t (i : Int) s.1 s.2) (firstC f (l.getD i d_Condition), out) = some (out ++ rowsC f t (l.getD i d_Condition)) := by
  obtain ⟨r, hr⟩ : ∃ r, l.getD i d_Condition = r := ⟨_, rfl⟩
  rw [hr] at ho ⊢
  have he1 := ho.every
  have he : 1 ≤ evC' r := he1.1
  have hb := endC_bound ho
  have hfirst := firstC_ge f r
  have hl401 : (rowsC f t r).length ≤ 401 := rowsC_length_le he (by omega)
  have hlen : (rowsC f t r).length = cntC f t r := by unfold rowsC; simp
  have hfb : firstC f r ≤ 20000 := by unfold firstC; split <;> omega
  refine iter_for (cntC f t r) (fun k => (firstC f r + (k : Int) * evC' r, out ++ (rowsC f t r).take k)) (fun k hk => ?_) ?_ (by simp)
  · show impl_InspectionPlan_loop2 l t (i : Int) (firstC f r + (k : Int) * evC' r) (out ++ (rowsC f t r).take k) = _
    unfold impl_InspectionPlan_loop2
    have h1 := (cnt_lt he k).1 hk
    have h0 : 0 ≤ (k : Int) * evC' r := Int.mul_nonneg (by omega) (by omega)
    have hev : evC' r = r.2.2.1 := rfl
    rw [cond_dt h1]
    simp only [Int.toNat_natCast, hr]
    rw [grd_pos (by simp only [List.length_append, List.length_take, List.length_cons, List.length_nil]; omega), w64_id (by omega) (by omega)]
    refine congrArg some (congrArg Lp.go (Prod.ext ?_ ?_))
    · show firstC f r + (k : Int) * evC' r + r.2.2.1 = firstC f r + ((k + 1 : Nat) : Int) * evC' r
      rw [← hev, show (((k + 1 : Nat) : Int)) = (k : Int) + 1 by omega, Int.add_mul, Int.one_mul]; omega
    · show out ++ (rowsC f t r).take k ++ [[firstC f r + (k : Int) * evC' r, r.1]] = out ++ (rowsC f t r).take (k + 1)
      have hg : (rowsC f t r)[k]'(by omega) = [firstC f r + (k : Int) * evC' r, r.1] := by unfold rowsC; simp
      rw [List.append_assoc, List.take_succ_eq_append_getElem (by omega), hg]
  · show impl_InspectionPlan_loop2 l t (i : Int) (firstC f r + (cntC f t r : Int) * evC' r) (out ++ (rowsC f t r).take (cntC f t r)) = _
    unfold impl_InspectionPlan_loop2
    have h1 : ¬ (firstC f r + (cntC f t r : Int) * evC' r ≤ t) := fun h => Nat.lt_irrefl _ ((cnt_lt he (cntC f t r)).2 h)
    rw [cond_df h1, ← hlen, List.take_length]
theorem plan_impl {l : List Condition} {f t : Int} (h : LC 1000 l) (hf : -1000000 ≤ f ∧ f ≤ 1000000) (ht : -1000000 ≤ t ∧ t ≤ 1000000) :
    impl_InspectionPlan l f t = some (if goodL l = true ∧ (0 ≤ f ∧ f ≤ t) ∧ t ≤ 9999 ∧ t - f ≤ 400 then Sum.inr (sortR (implL l f t), l) else Sum.inl l) := by
  unfold impl_InspectionPlan
  rw [are_impl h, Option.bind_some]
  cases hg : goodL l with
  | false => rw [if_neg (fun e => by cases e.1)]; rfl
  | true =>
    obtain ⟨g1, g2, g3⟩ := good_out hg
    simp only [Bool.not_true, cond_false, true_and]
    rw [within_eq, Option.bind_some]
    by_cases c1 : 0 ≤ f ∧ f ≤ t
    · rw [cond_ndt c1]
      by_cases c2 : 9999 < t
      · rw [cond_dt c2, if_neg (fun e => by omega)]
      · rw [cond_df c2]
        have hw : w64 (t - f) = t - f := w64_id (by omega) (by omega)
        rw [hw]
        by_cases c3 : 400 < t - f
        · rw [cond_dt c3, if_neg (fun e => by omega)]
        · rw [cond_df c3, if_pos ⟨c1, by omega, by omega⟩]
          have he : ∀ r ∈ l, 1 ≤ evC' r := fun r hr => (g1 r hr).every.1
          have H : iter (fun s => impl_InspectionPlan_loop1 l f t s.1 s.2) ((0 : Int), ([] : List (List Int))) = some (implL l f t) := by
            refine iter_for l.length (fun k => ((k : Int), implL (l.take k) f t)) (fun k hk => ?_) ?_ rfl
            · show impl_InspectionPlan_loop1 l f t (k : Int) (implL (l.take k) f t) = _
              unfold impl_InspectionPlan_loop1
              have hm : l.getD k d_Condition ∈ l := by rw [getD_eq l k _ hk]; exact List.getElem_mem hk
              have ho := g1 _ hm
              rw [cond_dt (by omega), grd_pos (by omega)]
              simp only [Int.toNat_natCast, eta_c]
              rw [end_impl ho, Option.bind_some, first_impl]
              have hll := implL_length (l.take k) f t (fun r hr => he r (List.mem_of_mem_take hr)) (by omega)
              have := iloop2 l f t k hk ho c1.1 c1.2 (by omega) (by omega) (implL (l.take k) f t) (by rw [List.length_take] at hll; omega)
              unfold firstC at this
              rw [this, Option.bind_some, w64_nat (by omega)]
              refine congrArg some (congrArg Lp.go (Prod.ext rfl ?_))
              show implL (l.take k) f t ++ rowsC f t (l.getD k d_Condition) = implL (l.take (k + 1)) f t
              unfold implL
              rw [List.take_succ_eq_append_getElem hk, List.flatMap_append, getD_eq l k _ hk]
              simp
            · show impl_InspectionPlan_loop1 l f t (l.length : Int) (implL (l.take l.length) f t) = _
              unfold impl_InspectionPlan_loop1
              rw [cond_df (by omega), List.take_length]
          rw [H, Option.bind_some]
          have hs : slices_SortFunc_____int___int__i1 (implL l f t) = some (sortR (implL l f t)) := by
            unfold slices_SortFunc_____int___int__i1
            rw [grd_pos rows_two]
          rw [hs]; rfl
    · rw [cond_ndf c1, if_neg (fun e => c1 e.1)]
end Go.Proofs.YtpmmaohaahbphaaDoor
