/-
  Plain laws of the reference's plan, and of looking through a plan.
-/
import Derived.Test.YtpmmaohaahbphaaDoorI74
namespace Go.Proofs.YtpmmaohaahbphaaDoor
open Go.RowKit

theorem most_eq (f e : Int) : spec_l1Most f e = some (if f < e then e else f) := by
  unfold spec_l1Most
  by_cases h : e < f
  · rw [cond_dt h, if_neg (by omega)]
  · rw [cond_df h]
    by_cases h2 : f < e
    · rw [if_pos h2]
    · rw [if_neg h2]; exact congrArg some (by omega)
theorem sloop2 (l : List Condition) (hl : l.length ≤ 12) (g1 : ∀ r ∈ l, OC r) (f d : Int) (hf : 0 ≤ f) (hd : 0 ≤ d ∧ d ≤ 9999) (out : List (List Int)) (hout : out.length ≤ 10000) :
    iter (fun s => spec_InspectionPlan_loop2 l f d s.1 s.2) ((0 : Int), out) = some (out ++ dayL l f d) := by
  refine iter_for l.length (fun k => ((k : Int), out ++ dayL (l.take k) f d)) (fun k hk => ?_) ?_ (by simp [dayL])
  · show spec_InspectionPlan_loop2 l f d (k : Int) (out ++ dayL (l.take k) f d) = _
    unfold spec_InspectionPlan_loop2
    obtain ⟨r, hr⟩ : ∃ r, l.getD k d_Condition = r := ⟨_, rfl⟩
    have hm : r ∈ l := by rw [← hr, getD_eq l k _ hk]; exact List.getElem_mem hk
    have hk2 : l[k] = r := by rw [← hr, getD_eq l k _ hk]
    have ho := g1 _ hm
    have he := ho.every
    have hb := endC_bound ho
    have hdl : (dayL (l.take k) f d).length ≤ 12 := by
      unfold dayL
      rw [List.length_map]
      refine Nat.le_trans (List.length_filter_le _ _) ?_
      rw [List.length_take]; omega
    have hnx : dayL (l.take (k + 1)) f d = dayL (l.take k) f d ++ (if dueC f d r then [[d, r.1]] else []) := by
      unfold dayL
      rw [List.take_succ_eq_append_getElem hk, List.filter_append, List.map_append, hk2]
      cases hdd : dueC f d r <;> simp [hdd]
    rw [cond_dt (by omega), grd_pos (by omega)]
    simp only [Int.toNat_natCast, eta_c, hr]
    rw [end_spec ho, Option.bind_some, most_eq, Option.bind_some, w64_nat (by omega)]
    have hfc : (if f < endC r then endC r else f) = firstC f r := rfl
    rw [hfc]
    have hfb : firstC f r ≤ 20000 ∨ f ≤ firstC f r := .inr (firstC_ge f r)
    by_cases h1 : firstC f r ≤ d
    · have hge := firstC_ge f r
      rw [cond_dt h1, grd_pos (by omega), grd_pos (by omega), w64_id (by omega) (by omega)]
      have htm : Int.tmod (d - firstC f r) r.2.2.1 = (d - firstC f r) % evC' r := Int.tmod_eq_emod_of_nonneg (by omega)
      rw [htm]
      by_cases h2 : (d - firstC f r) % evC' r = 0
      · have hdue : dueC f d r = true := by unfold dueC; rw [decide_eq_true h1, decide_eq_true h2]; rfl
        rw [cond_dt h2, grd_pos (by omega), grd_pos (by simp only [List.length_append, List.length_cons, List.length_nil]; omega), hnx, hdue]
        simp
      · have hdue : dueC f d r = false := by unfold dueC; rw [decide_eq_true h1, decide_eq_false h2]; rfl
        rw [cond_df h2, hnx, hdue]
        simp
    · have hdue : dueC f d r = false := by unfold dueC; rw [decide_eq_false h1]; rfl
      rw [cond_df h1, hnx, hdue]
      simp
  · show spec_InspectionPlan_loop2 l f d (l.length : Int) (out ++ dayL (l.take l.length) f d) = _
    unfold spec_InspectionPlan_loop2
    rw [cond_df (by omega), List.take_length]
theorem dayL_length {l : List Condition} (f d : Int) : (dayL l f d).length ≤ l.length := by
  unfold dayL
  rw [List.length_map]
  exact List.length_filter_le _ _
theorem specL_succ (l : List Condition) (f : Int) (n : Nat) : specL l f (n + 1) = specL l f n ++ dayL l f (f + (n : Int)) := by
  unfold specL
  rw [List.range_succ, List.flatMap_append]
  simp
theorem specL_length {l : List Condition} (hl : l.length ≤ 12) (f : Int) : ∀ (n : Nat), (specL l f n).length ≤ 12 * n
  | 0 => by simp [specL]
  | n + 1 => by
    rw [specL_succ, List.length_append]
    have := specL_length hl f n
    have := dayL_length (l := l) f (f + (n : Int))
    omega
theorem plan_spec {l : List Condition} {f t : Int} (h : LC 1000 l) (hf : -1000000 ≤ f ∧ f ≤ 1000000) (ht : -1000000 ≤ t ∧ t ≤ 1000000) :
    spec_InspectionPlan l f t = some (if goodL l = true ∧ (0 ≤ f ∧ f ≤ t) ∧ t ≤ 9999 ∧ t - f ≤ 400 then (specL l f (t - f + 1).toNat, true, l) else ([], false, l)) := by
  unfold spec_InspectionPlan
  rw [are_spec h, Option.bind_some]
  cases hg : goodL l with
  | false => rw [if_neg (fun e => by cases e.1)]; rfl
  | true =>
    obtain ⟨g1, g2, g3⟩ := good_out hg
    simp only [Bool.not_true, cond_false, true_and]
    unfold spec_l24Day
    rw [l1In_eq]
    simp only [Option.bind_some]
    by_cases c0 : 0 ≤ t ∧ t ≤ 9999
    · rw [cond_ndt c0, l1In_eq]
      simp only [Option.bind_some]
      by_cases c1 : 0 ≤ f ∧ f ≤ t
      · rw [cond_ndt c1]
        have hw : w64 (t - f) = t - f := w64_id (by omega) (by omega)
        rw [hw]
        by_cases c3 : 400 < t - f
        · rw [cond_dt c3, if_neg (fun e => by omega)]
        · rw [cond_df c3, if_pos ⟨c1, by omega, by omega⟩]
          have H : iter (fun s => spec_InspectionPlan_loop1 l f t s.1 s.2) (f, ([] : List (List Int))) = some (specL l f (t - f + 1).toNat) := by
            refine iter_for (t - f + 1).toNat (fun k => (f + (k : Int), specL l f k)) (fun k hk => ?_) ?_ (by simp [specL])
            · show spec_InspectionPlan_loop1 l f t (f + (k : Int)) (specL l f k) = _
              unfold spec_InspectionPlan_loop1
              have hll := specL_length g3 f k
              rw [cond_dt (by omega), sloop2 l g3 g1 f (f + (k : Int)) c1.1 (by omega) _ (by omega), Option.bind_some, specL_succ, w64_id (by omega) (by omega)]
              refine congrArg some (congrArg Lp.go (Prod.ext ?_ rfl))
              show f + (k : Int) + 1 = f + ((k + 1 : Nat) : Int)
              omega
            · show spec_InspectionPlan_loop1 l f t (f + ((t - f + 1).toNat : Int)) _ = _
              unfold spec_InspectionPlan_loop1
              rw [cond_df (by omega)]
          rw [H]; rfl
      · rw [cond_ndf c1, if_neg (fun e => c1 e.1)]
    · rw [cond_ndf c0, if_neg (fun e => by omega)]

/-! ### Looking through a plan -/
theorem getD_rows {P : List (List Int)} {k : Nat} (hk : k < P.length) : P.getD k [] = P[k] := getD_eq P k [] hk
theorem row_two {l : List Condition} {f : Int} {n : Nat} : ∀ x ∈ specL l f n, ∃ d a, x = [d, a] ∧ f ≤ d ∧ d < f + n := fun x hx => by
  obtain ⟨r, _, d, h1, h2, _, e⟩ := (mem_specL x).1 hx
  have := firstC_ge f r
  exact ⟨d, r.1, e, by omega, h2⟩
theorem lloop1 {P : List (List Int)} {f t : Int} {l : List Condition} {b : Bool} (hlen : P.length ≤ 10000) (hr : ∀ x ∈ P, ∃ d a, x = [d, a] ∧ f ≤ d ∧ d ≤ t) (hs : Strict P) :
    iter (fun s => laws_FnInspections_loop1 s.1 s.2.1 s.2.2.1 s.2.2.2.1 s.2.2.2.2.1 s.2.2.2.2.2) (f, t, P, b, (0 : Int), l) = some (Sum.inr (t, P, b, l)) := by
  refine iter_for P.length (fun k => (f, t, P, b, (k : Int), l)) (fun k hk => ?_) ?_ rfl
  · show laws_FnInspections_loop1 f t P b (k : Int) l = _
    unfold laws_FnInspections_loop1
    obtain ⟨d, a, e, h1, h2⟩ := hr _ (List.getElem_mem hk)
    have hw : w64 ((k : Int) + 1) = ((k + 1 : Nat) : Int) := w64_nat (by omega)
    rw [cond_dt (by omega)]
    simp only [Int.toNat_natCast, getD_rows hk, e, hw]
    have hl2 : (([d, a] : List Int).length : Int) = 2 := rfl
    have g0 : ([d, a] : List Int).getD ((0 : Int).toNat) 0 = d := rfl
    simp only [hl2, g0]
    rw [grd_pos (by omega), grd_pos (by omega), cond_df (by omega), grd_pos (by omega), grd_pos (by omega), cond_df (by omega)]
    by_cases h0 : 0 < (k : Int)
    · have hm : w64 ((k : Int) - 1) = ((k - 1 : Nat) : Int) := by rw [w64_id (by omega) (by omega)]; omega
      have hk1 : k - 1 < P.length := by omega
      obtain ⟨d', a', e', _, _⟩ := hr _ (List.getElem_mem hk1)
      rw [cond_dt h0, hm]
      simp only [Int.toNat_natCast, getD_rows hk1, e']
      have hl2' : (([d', a'] : List Int).length : Int) = 2 := rfl
      have g0' : ([d', a'] : List Int).getD ((0 : Int).toNat) 0 = d' := rfl
      simp only [hl2', g0']
      have hlt : ¬ (d < d') := fun hdd => by
        unfold Strict at hs
        rw [List.pairwise_iff_getElem] at hs
        have := hs (k - 1) k hk1 hk (by omega)
        rw [e, e', cmpR_cons, if_neg (by omega), if_pos hdd] at this
        omega
      rw [grd_pos (by omega), grd_pos (by omega), grd_pos (by omega), grd_pos (by omega), cond_df hlt]
    · rw [cond_df h0]
  · show laws_FnInspections_loop1 f t P b (P.length : Int) l = _
    unfold laws_FnInspections_loop1
    rw [cond_df (by omega)]
/-- The last day of one number, if each is so long behind the one before. -/
def chkL (e : Int) : Int → List (List Int) → Option Int
  | last, [] => some last
  | last, x :: xs => if 0 ≤ last ∧ x.getD 0 0 - last ≠ e then none else chkL e (x.getD 0 0) xs
theorem lloop3 {P : List (List Int)} {l : List Condition} {i : Nat} (hi : i < l.length) (hil : l.length ≤ 1000) (hlen : P.length ≤ 10000) (hr : ∀ x ∈ P, ∃ d a, x = [d, a] ∧ 0 ≤ d ∧ d ≤ 9999) :
    ∀ (Q : List (List Int)) (k : Nat) (last : Int), P.drop k = Q → k ≤ P.length → -1 ≤ last ∧ last ≤ 9999 →
      iter (fun s => laws_FnInspections_loop3 P (i : Int) l s.1 s.2) (last, (k : Int)) =
        some (match chkL (evC' (l.getD i d_Condition)) last (Q.filter fun x => decide (x.getD 1 0 = (l.getD i d_Condition).1)) with | some v => Sum.inr v | none => Sum.inl ())
  | [], k, last, hQ, hk, hl => by
    have hk2 : k = P.length := by
      have := congrArg List.length hQ
      rw [List.length_drop, List.length_nil] at this; omega
    refine iter_out ?_
    show laws_FnInspections_loop3 P (i : Int) l last (k : Int) = _
    unfold laws_FnInspections_loop3
    rw [cond_df (by omega)]; rfl
  | x :: Q, k, last, hQ, hk, hl => by
    have hk2 : k < P.length := by
      have := congrArg List.length hQ
      rw [List.length_drop, List.length_cons] at this; omega
    have hx : P[k] = x := by
      rw [List.drop_eq_getElem_cons hk2] at hQ
      exact (List.cons.inj hQ).1
    have hQ2 : P.drop (k + 1) = Q := by
      rw [List.drop_eq_getElem_cons hk2] at hQ
      exact (List.cons.inj hQ).2
    obtain ⟨d, a, e, h1, h2⟩ := hr x (by rw [← hx]; exact List.getElem_mem hk2)
    subst e
    have hw : w64 ((k : Int) + 1) = ((k + 1 : Nat) : Int) := w64_nat (by omega)
    have hl2 : (([d, a] : List Int).length : Int) = 2 := rfl
    have g0 : ([d, a] : List Int).getD ((0 : Int).toNat) 0 = d := rfl
    have g1 : ([d, a] : List Int).getD ((1 : Int).toNat) 0 = a := rfl
    have g1' : ([d, a] : List Int).getD 1 0 = a := rfl
    have step : laws_FnInspections_loop3 P (i : Int) l last (k : Int) = some (if a = (l.getD i d_Condition).1 then (if 0 ≤ last ∧ d - last ≠ evC' (l.getD i d_Condition) then .out (Sum.inl ()) else .go (d, ((k + 1 : Nat) : Int))) else .go (last, ((k + 1 : Nat) : Int))) := by
      unfold laws_FnInspections_loop3
      rw [cond_dt (by omega)]
      simp only [Int.toNat_natCast, getD_rows hk2, hx, hl2, g0, g1, hw]
      rw [grd_pos (by omega), grd_pos (by omega), grd_pos (by omega)]
      by_cases c1 : a = (l.getD i d_Condition).1
      · rw [cond_ndt c1, if_pos c1]
        by_cases c2 : 0 ≤ last
        · rw [cond_dt c2, grd_pos (by omega), grd_pos (by omega), grd_pos (by omega), w64_id (by omega) (by omega)]
          by_cases c3 : d - last = (l.getD i d_Condition).2.2.1
          · rw [cond_ndt c3, grd_pos (by omega), grd_pos (by omega), if_neg (fun h => h.2 c3)]
          · rw [cond_ndf c3, if_pos ⟨c2, c3⟩]
        · rw [cond_df c2, grd_pos (by omega), grd_pos (by omega), if_neg (fun h => c2 h.1)]
      · rw [cond_ndf c1, if_neg c1]
    by_cases c1 : a = (l.getD i d_Condition).1
    · rw [if_pos c1] at step
      rw [List.filter_cons, if_pos (show decide (([d, a] : List Int).getD 1 0 = (l.getD i d_Condition).1) = true from decide_eq_true c1)]
      by_cases c2 : 0 ≤ last ∧ d - last ≠ evC' (l.getD i d_Condition)
      · rw [if_pos c2] at step
        have hc : chkL (evC' (l.getD i d_Condition)) last ([d, a] :: Q.filter fun x => decide (x.getD 1 0 = (l.getD i d_Condition).1)) = none := if_pos c2
        rw [hc]
        exact iter_out (s := (last, (k : Int))) step
      · rw [if_neg c2] at step
        have hc : chkL (evC' (l.getD i d_Condition)) last ([d, a] :: Q.filter fun x => decide (x.getD 1 0 = (l.getD i d_Condition).1)) = chkL (evC' (l.getD i d_Condition)) d (Q.filter fun x => decide (x.getD 1 0 = (l.getD i d_Condition).1)) := if_neg c2
        rw [hc]
        exact (iter_go (s := (last, (k : Int))) step).trans (lloop3 hi hil hlen hr Q (k + 1) d hQ2 (by omega) (by omega))
    · rw [if_neg c1] at step
      rw [List.filter_cons, if_neg (by rw [g1']; simpa using c1)]
      exact (iter_go (s := (last, (k : Int))) step).trans (lloop3 hi hil hlen hr Q (k + 1) last hQ2 (by omega) (by omega))
/-- Days that follow each other. -/
theorem chk_run (e b num : Int) (he : 1 ≤ e) (hb : 0 ≤ b) : ∀ (n j : Nat), chkL e (b + (j : Int) * e) ((List.range n).map fun (i : Nat) => [b + (((j + 1 + i : Nat) : Int)) * e, num]) = some (b + ((j + n : Nat) : Int) * e)
  | 0, j => by simp [chkL]
  | n + 1, j => by
    rw [List.range_succ_eq_map, List.map_cons, List.map_map]
    have h0 : ([b + (((j + 1 + 0 : Nat) : Int)) * e, num] : List Int).getD 0 0 = b + (((j + 1 : Nat) : Int)) * e := rfl
    have hc : ∀ xs, chkL e (b + (j : Int) * e) ([b + (((j + 1 + 0 : Nat) : Int)) * e, num] :: xs) = chkL e (b + (((j + 1 : Nat) : Int)) * e) xs := fun xs => by
      refine (if_neg (fun h => h.2 ?_)).trans ?_
      · rw [h0]
      · rw [h0, show (((j + 1 : Nat) : Int)) = (j : Int) + 1 by omega, Int.add_mul, Int.one_mul]; omega
    rw [hc]
    have ih := chk_run e b num he hb n (j + 1)
    rw [show j + (n + 1) = j + 1 + n by omega, ← ih]
    refine congrArg _ (List.map_congr_left fun i _ => ?_)
    show [b + (((j + 1 + (i + 1) : Nat) : Int)) * e, num] = _
    rw [show j + 1 + (i + 1) = j + 1 + 1 + i by omega]
theorem chk_rows {f t : Int} {r : Condition} (he : 1 ≤ evC' r) (hf : 0 ≤ f) : ∃ v, chkL (evC' r) (-1) (rowsC f t r) = some v ∧ (v = -1 ∨ (0 ≤ v ∧ v ≤ t ∧ t < v + evC' r)) := by
  have hge := firstC_ge f r
  unfold rowsC
  cases hn : cntC f t r with
  | zero => exact ⟨-1, rfl, .inl rfl⟩
  | succ n =>
    rw [List.range_succ_eq_map, List.map_cons, List.map_map]
    have h0 : ([firstC f r + ((0 : Nat) : Int) * evC' r, r.1] : List Int).getD 0 0 = firstC f r + ((0 : Nat) : Int) * evC' r := rfl
    have hc : ∀ xs, chkL (evC' r) (-1) ([firstC f r + ((0 : Nat) : Int) * evC' r, r.1] :: xs) = chkL (evC' r) (firstC f r + ((0 : Nat) : Int) * evC' r) xs := fun xs => by
      refine (if_neg (fun h => by omega)).trans ?_
      rw [h0]
    rw [hc]
    have ih := chk_run (evC' r) (firstC f r) r.1 he (by omega) n 0
    have hm : (List.map ((fun (j : Nat) => [firstC f r + (j : Int) * evC' r, r.1]) ∘ Nat.succ) (List.range n)) = (List.range n).map fun (i : Nat) => [firstC f r + (((0 + 1 + i : Nat) : Int)) * evC' r, r.1] := by
      refine List.map_congr_left fun i _ => ?_
      show [firstC f r + (((i + 1 : Nat) : Int)) * evC' r, r.1] = _
      rw [show 0 + 1 + i = i + 1 by omega]
    rw [hm, ih]
    have h1 := (cnt_lt (f := f) (t := t) he n).1 (by omega)
    have h2 : ¬ (firstC f r + ((n + 1 : Nat) : Int) * evC' r ≤ t) := fun h => by
      have := (cnt_lt (f := f) (t := t) he (n + 1)).2 h; omega
    have h3 : 0 ≤ (n : Int) * evC' r := Int.mul_nonneg (by omega) (by omega)
    rw [show (((n + 1 : Nat) : Int)) = (n : Int) + 1 by omega, Int.add_mul, Int.one_mul] at h2
    refine ⟨_, rfl, .inr ?_⟩
    rw [show 0 + n = n by omega]
    omega
theorem lloop2 {l : List Condition} {f t : Int} (hg : goodL l = true) (hf : 0 ≤ f ∧ f ≤ t) (ht : t ≤ 9999) (hft : t - f ≤ 400) :
    iter (fun s => laws_FnInspections_loop2 s.1 s.2.1 s.2.2.1 s.2.2.2.1 s.2.2.2.2) (t, specL l f (t - f + 1).toNat, true, (0 : Int), l) = some (Sum.inr ()) := by
  obtain ⟨g1, g2, g3⟩ := good_out hg
  have he : ∀ r ∈ l, 1 ≤ evC' r := fun r hr => (g1 r hr).every.1
  have hlen := specL_length g3 f (t - f + 1).toNat
  have hr : ∀ x ∈ specL l f (t - f + 1).toNat, ∃ d a, x = [d, a] ∧ 0 ≤ d ∧ d ≤ 9999 := fun x hx => by
    obtain ⟨d, a, e, h1, h2⟩ := row_two x hx
    exact ⟨d, a, e, by omega, by omega⟩
  refine iter_for l.length (fun k => (t, specL l f (t - f + 1).toNat, true, (k : Int), l)) (fun k hk => ?_) ?_ rfl
  · show laws_FnInspections_loop2 t (specL l f (t - f + 1).toNat) true (k : Int) l = _
    unfold laws_FnInspections_loop2
    have hm : l.getD k d_Condition ∈ l := by rw [getD_eq l k _ hk]; exact List.getElem_mem hk
    have hev := (g1 _ hm).every
    have h3 := lloop3 hk (by omega) (by omega) hr _ 0 (-1) rfl (by omega) (by omega)
    rw [List.drop_zero, plan_of g2 he (by omega) hm] at h3
    obtain ⟨v, hv, hv2⟩ := chk_rows (f := f) (t := t) (he _ hm) hf.1
    rw [hv] at h3
    rw [cond_dt (by omega)]
    simp only [cond_true]
    have h3' : iter (fun s => laws_FnInspections_loop3 (specL l f (t - f + 1).toNat) (k : Int) l s.1 s.2) (((-1) : Int), (0 : Int)) = some (Sum.inr v) := h3
    rw [h3', Option.bind_some, w64_nat (by omega)]
    simp only [Sum.elim_inr, Int.toNat_natCast]
    by_cases c : 0 ≤ v
    · rw [cond_dt c, grd_pos (by omega)]
      have hw : w64 (v + (l.getD k d_Condition).2.2.1) = v + (l.getD k d_Condition).2.2.1 := w64_id (by omega) (by omega)
      refine cond_df fun h => ?_
      rw [hw] at h
      rcases hv2 with e | ⟨_, _, e⟩
      · omega
      · unfold evC' at e; omega
    · rw [cond_df c]
  · show laws_FnInspections_loop2 t (specL l f (t - f + 1).toNat) true (l.length : Int) l = _
    unfold laws_FnInspections_loop2
    rw [cond_df (by omega)]
theorem lloop2_no {l : List Condition} {t : Int} : iter (fun s => laws_FnInspections_loop2 s.1 s.2.1 s.2.2.1 s.2.2.2.1 s.2.2.2.2) (t, [], false, (0 : Int), l) = some (Sum.inr ()) := by
  refine iter_out ?_
  show laws_FnInspections_loop2 t [] false (0 : Int) l = _
  unfold laws_FnInspections_loop2
  by_cases h : (0 : Int) < (l.length : Int)
  · rw [cond_dt h]; rfl
  · rw [cond_df h]
end Go.Proofs.YtpmmaohaahbphaaDoor
