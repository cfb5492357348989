/-
  Plain laws of the weather's records: what is a list of records, the calm spans, the storms, the coldest, the icy minutes.
-/
import Derived.Test.YtaajchikfgbecaaD71
namespace Go.Proofs.Ytaajchikfgbecaa
open Go.RowKit

theorem l1In_eq (a lo hi : Int) : spec_l1In a lo hi = some (decide (lo ≤ a ∧ a ≤ hi)) := by
  unfold spec_l1In
  by_cases h : lo ≤ a
  · rw [cond_dt h]; simp [h]
  · rw [cond_df h]; simp [h]
theorem within_eq (a lo hi : Int) : impl_within a lo hi = some (decide (lo ≤ a ∧ a ≤ hi)) := by
  unfold impl_within
  by_cases h : lo ≤ a
  · rw [cond_dt h]; simp [h]
  · rw [cond_df h]; simp [h]
theorem rInts_eq (l : List Int) (h : l.length ≤ 1048576) : laws_rInts l l = some true := by
  unfold laws_rInts
  rw [cond_ndt rfl]
  have H : iter (fun s => laws_rInts_loop1 l l s) (0 : Int) = some (Sum.inr ()) :=
    iter_for l.length (fun k => (k : Int)) (fun k hk => by
      show laws_rInts_loop1 l l (k : Int) = _
      unfold laws_rInts_loop1
      rw [cond_dt (by omega), grd_pos (by omega), grd_pos (by omega), cond_ndt rfl, w64_nat (by omega)]) (by
      show laws_rInts_loop1 l l (l.length : Int) = _
      unfold laws_rInts_loop1
      rw [cond_df (by omega)]) rfl
  rw [H]; rfl
theorem rTable_eq (l : List (List Int)) (h : l.length ≤ 1048576) (hr : ∀ r ∈ l, r.length ≤ 1048576) : laws_rTable l l = some true := by
  unfold laws_rTable
  rw [cond_ndt rfl]
  have H : iter (fun s => laws_rTable_loop1 l l s) (0 : Int) = some (Sum.inr ()) :=
    iter_for l.length (fun k => (k : Int)) (fun k hk => by
      show laws_rTable_loop1 l l (k : Int) = _
      unfold laws_rTable_loop1
      have hm : l.getD k [] ∈ l := by rw [getD_eq l k _ hk]; exact List.getElem_mem hk
      rw [cond_dt (by omega), grd_pos (by omega), grd_pos (by omega), Int.toNat_natCast, rInts_eq _ (hr _ hm), Option.bind_some, w64_nat (by omega)]
      rfl) (by
      show laws_rTable_loop1 l l (l.length : Int) = _
      unfold laws_rTable_loop1
      rw [cond_df (by omega)]) rfl
  rw [H]; rfl
/-! ## Records -/
/-- One record's bounds. -/
abbrev okW (r : Weather) : Prop := (0 ≤ r.1 ∧ r.1 ≤ 9999) ∧ (0 ≤ r.2.1 ∧ r.2.1 ≤ 600) ∧ (0 ≤ r.2.2.1 ∧ r.2.2.1 ≤ 359) ∧ (-400 ≤ r.2.2.2.1 ∧ r.2.2.2.1 ≤ 500)
theorem isWeather_eq (r : Weather) : impl_IsWeather (r.1, r.2.1, r.2.2.1, r.2.2.2.1, r.2.2.2.2.1, ()) = some (decide (okW r)) := by
  simp only [impl_IsWeather, within_eq, Option.bind_some, Bool.cond_decide]
  repeat' split
  all_goals refine congrArg some ?_
  all_goals (rw [Bool.eq_iff_iff]; simp only [decide_eq_true_eq, false_iff, Bool.false_eq_true, okW]; omega)
theorem l17One_eq (r : Weather) : spec_l17One (r.1, r.2.1, r.2.2.1, r.2.2.2.1, r.2.2.2.2.1, ()) = some (decide (okW r)) := by
  simp only [spec_l17One, spec_l17Minute, spec_l17Wind, spec_l17Way, l1In_eq, Option.bind_some, Bool.cond_decide]
  repeat' split
  all_goals refine congrArg some ?_
  all_goals (rw [Bool.eq_iff_iff]; simp only [decide_eq_true_eq, false_iff, Bool.false_eq_true, okW]; omega)
def stepOk (l : List Weather) (k : Nat) : Bool := decide (okW (l.getD k d_Weather)) && (decide (k = 0) || decide ((l.getD (k - 1) d_Weather).1 < (l.getD k d_Weather).1))
/-- Is it a list of records? -/
def AR (l : List Weather) : Bool := (List.range l.length).all (stepOk l) && decide (l.length ≤ 20)
theorem stepOk_a {l : List Weather} {k : Nat} (h : ¬ okW (l.getD k d_Weather)) : stepOk l k = false := by unfold stepOk; rw [decide_eq_false h]; rfl
theorem stepOk_b {l : List Weather} {k : Nat} (h : okW (l.getD k d_Weather)) (h0 : k = 0) : stepOk l k = true := by unfold stepOk; rw [decide_eq_true h, decide_eq_true h0]; rfl
theorem stepOk_c {l : List Weather} {k : Nat} (h : okW (l.getD k d_Weather)) (h0 : ¬ k = 0) : stepOk l k = decide ((l.getD (k - 1) d_Weather).1 < (l.getD k d_Weather).1) := by unfold stepOk; rw [decide_eq_true h, decide_eq_false h0]; rfl
theorem w64_pred {k : Nat} (h0 : 0 < k) (h : k < 4611686018427387904) : w64 ((k : Int) - 1) = ((k - 1 : Nat) : Int) := by
  rw [w64_id (by omega) (by omega)]; omega
theorem areRecords_eq (l : List Weather) (h : l.length ≤ 1048576) : impl_AreRecords l = some (AR l) := by
  unfold impl_AreRecords
  have H := iter_allN (f := fun s => impl_AreRecords_loop1 l s) (good := Sum.inr ()) (bad := Sum.inl ()) l.length (stepOk l) (fun k => (k : Int)) (fun k hk => by
    show impl_AreRecords_loop1 l (k : Int) = _
    unfold impl_AreRecords_loop1
    rw [cond_dt (by omega), grd_pos (by omega)]
    simp only [Int.toNat_natCast]
    rw [isWeather_eq, Option.bind_some]
    by_cases h1 : okW (l.getD k d_Weather)
    · rw [cond_ndt h1]
      by_cases h0 : k = 0
      · rw [cond_df (by omega), stepOk_b h1 h0, w64_nat (by omega)]; rfl
      · rw [cond_dt (by omega), w64_pred (by omega) (by omega), grd_pos (by omega), Int.toNat_natCast, stepOk_c h1 h0]
        by_cases h2 : (l.getD k d_Weather).1 ≤ (l.getD (k - 1) d_Weather).1
        · rw [cond_dt h2, decide_eq_false (by omega)]; rfl
        · rw [cond_df h2, decide_eq_true (by omega), w64_nat (by omega)]; rfl
    · rw [cond_ndf h1, stepOk_a h1]; rfl) (by
    show impl_AreRecords_loop1 l (l.length : Int) = _
    unfold impl_AreRecords_loop1
    rw [cond_df (by omega)]) (s := (0 : Int)) rfl
  rw [H]
  unfold AR
  cases (List.range l.length).all (stepOk l)
  · rfl
  · simp only [if_true, Option.bind_some, Sum.elim_inr, Bool.true_and]
    refine congrArg some (decide_eq_decide.2 ?_); omega
theorem l17Good_eq (l : List Weather) (h : l.length ≤ 1048576) : spec_l17Good l = some (AR l) := by
  unfold spec_l17Good
  have H := iter_allN (f := fun s => spec_l17Good_loop1 l s) (good := Sum.inr ()) (bad := Sum.inl ()) l.length (stepOk l) (fun k => (k : Int)) (fun k hk => by
    show spec_l17Good_loop1 l (k : Int) = _
    unfold spec_l17Good_loop1
    rw [cond_dt (by omega), grd_pos (by omega)]
    simp only [Int.toNat_natCast]
    rw [l17One_eq, Option.bind_some]
    by_cases h1 : okW (l.getD k d_Weather)
    · rw [cond_ndt h1]
      by_cases h0 : k = 0
      · rw [cond_df (by omega), stepOk_b h1 h0, w64_nat (by omega)]; rfl
      · rw [cond_dt (by omega), w64_pred (by omega) (by omega), grd_pos (by omega), grd_pos (by omega), Int.toNat_natCast, stepOk_c h1 h0]
        by_cases h2 : (l.getD k d_Weather).1 ≤ (l.getD (k - 1) d_Weather).1
        · rw [cond_dt h2, decide_eq_false (by omega)]; rfl
        · rw [cond_df h2, decide_eq_true (by omega), w64_nat (by omega)]; rfl
    · rw [cond_ndf h1, stepOk_a h1]; rfl) (by
    show spec_l17Good_loop1 l (l.length : Int) = _
    unfold spec_l17Good_loop1
    rw [cond_df (by omega)]) (s := (0 : Int)) rfl
  rw [H]
  unfold AR
  cases (List.range l.length).all (stepOk l)
  · rfl
  · simp only [if_true, Option.bind_some, Sum.elim_inr, Bool.true_and]
    refine congrArg some (decide_eq_decide.2 ?_); omega
/-- A list of records. -/
structure Rec (l : List Weather) : Prop where
  len : l.length ≤ 20
  ok : ∀ k, k < l.length → okW (l.getD k d_Weather)
  up : ∀ i j, i < j → j < l.length → (l.getD i d_Weather).1 < (l.getD j d_Weather).1
theorem AR_out {l : List Weather} (h : AR l = true) : Rec l := by
  unfold AR at h
  rw [Bool.and_eq_true, List.all_eq_true] at h
  obtain ⟨h1, h2⟩ := h
  have hs : ∀ k, k < l.length → stepOk l k = true := fun k hk => h1 k (by simpa using hk)
  have hok : ∀ k, k < l.length → okW (l.getD k d_Weather) := fun k hk => by
    by_cases hh : okW (l.getD k d_Weather)
    · exact hh
    · have := hs k hk; rw [stepOk_a hh] at this; cases this
  refine ⟨of_decide_eq_true h2, hok, fun i j => ?_⟩
  induction j with
  | zero => intro hi; omega
  | succ j ih =>
    intro hi hj
    have := hs (j + 1) hj
    rw [stepOk_c (hok _ hj) (by omega), decide_eq_true_eq, Nat.add_sub_cancel] at this
    by_cases e : i = j
    · rw [e]; exact this
    · have := ih (by omega) (by omega); omega
theorem Rec.inj {l : List Weather} (h : Rec l) {i j : Nat} (hi : i < l.length) (_hj : j < l.length) (hle : (l.getD i d_Weather).1 ≤ (l.getD j d_Weather).1) : i ≤ j := by
  rcases Nat.lt_or_ge j i with h1 | h1
  · have := h.up j i h1 hi; omega
  · exact h1
/-! ## Calm spans -/
def calm (m : Int) (r : Weather) : Prop := r.2.2.2.2.1 = false ∧ r.2.1 ≤ m
instance calmDec (m : Int) (r : Weather) : Decidable (calm m r) := inferInstanceAs (Decidable (r.2.2.2.2.1 = false ∧ r.2.1 ≤ m))
def csK (l : List Weather) (m : Int) : Nat → Bool × List (List Int)
  | 0 => (false, [])
  | k + 1 => if calm m (l.getD k d_Weather) then (true, if (csK l m k).1 = true then (csK l m k).2.set ((csK l m k).2.length - 1) [((csK l m k).2.getD ((csK l m k).2.length - 1) []).getD 0 0, (l.getD k d_Weather).1] else (csK l m k).2 ++ [[(l.getD k d_Weather).1, (l.getD k d_Weather).1]]) else (false, (csK l m k).2)
theorem csK_no {l : List Weather} {m : Int} {k : Nat} (h : ¬ calm m (l.getD k d_Weather)) : csK l m (k + 1) = (false, (csK l m k).2) := by
  rw [csK, if_neg h]
theorem csK_new {l : List Weather} {m : Int} {k : Nat} (h : calm m (l.getD k d_Weather)) (h1 : (csK l m k).1 = false) : csK l m (k + 1) = (true, (csK l m k).2 ++ [[(l.getD k d_Weather).1, (l.getD k d_Weather).1]]) := by
  rw [csK, if_pos h, if_neg (by rw [h1]; decide)]
theorem csK_on {l : List Weather} {m : Int} {k : Nat} (h : calm m (l.getD k d_Weather)) (h1 : (csK l m k).1 = true) {init : List (List Int)} {a b : Int} (e : (csK l m k).2 = init ++ [[a, b]]) : csK l m (k + 1) = (true, init ++ [[a, (l.getD k d_Weather).1]]) := by
  rw [csK, if_pos h, if_pos h1, e, show (init ++ [[a, b]]).length - 1 = init.length by simp, set_mid, getD_mid]
  rfl
def Span (l : List Weather) (m : Int) (k : Nat) (row : List Int) : Prop := ∃ i j, i ≤ j ∧ j < k ∧ row = [(l.getD i d_Weather).1, (l.getD j d_Weather).1] ∧ ∀ t, i ≤ t → t ≤ j → calm m (l.getD t d_Weather)
theorem csK_inv (l : List Weather) (m : Int) : ∀ k, (csK l m k).2.length ≤ k ∧ (∀ row ∈ (csK l m k).2, Span l m k row) ∧
    ((csK l m k).1 = true → ∃ init i, (csK l m k).2 = init ++ [[(l.getD i d_Weather).1, (l.getD (k - 1) d_Weather).1]] ∧ i < k ∧ ∀ t, i ≤ t → t < k → calm m (l.getD t d_Weather)) := by
  intro k
  induction k with
  | zero => exact ⟨by simp [csK], fun row hr => (by simp [csK] at hr), fun h => (by simp [csK] at h)⟩
  | succ k ih =>
    obtain ⟨i1, i2, i3⟩ := ih
    have up : ∀ row, Span l m k row → Span l m (k + 1) row := fun row ⟨i, j, h1, h2, h3⟩ => ⟨i, j, h1, by omega, h3⟩
    by_cases hc : calm m (l.getD k d_Weather)
    · cases h1 : (csK l m k).1
      · rw [csK_new hc h1]
        refine ⟨by simp; omega, fun row hr => ?_, fun _ => ⟨_, k, rfl, by omega, fun t h2 h3 => ?_⟩⟩
        · rcases List.mem_append.1 hr with e | e
          · exact up _ (i2 _ e)
          · rw [List.mem_singleton.1 e]
            exact ⟨k, k, by omega, by omega, rfl, fun t h2 h3 => by rw [show t = k by omega]; exact hc⟩
        · rw [show t = k by omega]; exact hc
      · obtain ⟨init, i, e, hi, hall⟩ := i3 h1
        rw [csK_on hc h1 e]
        have hall2 : ∀ t, i ≤ t → t < k + 1 → calm m (l.getD t d_Weather) := fun t h2 h3 => by
          by_cases h4 : t = k
          · rw [h4]; exact hc
          · exact hall t h2 (by omega)
        refine ⟨?_, fun row hr => ?_, fun _ => ⟨init, i, by rw [Nat.add_sub_cancel], by omega, hall2⟩⟩
        · rw [e] at i1; simp only [List.length_append, List.length_singleton] at i1 ⊢; omega
        · rcases List.mem_append.1 hr with e2 | e2
          · exact up _ (i2 _ (by rw [e]; exact List.mem_append_left _ e2))
          · rw [List.mem_singleton.1 e2]
            exact ⟨i, k, by omega, by omega, rfl, fun t h2 h3 => hall2 t h2 (by omega)⟩
    · rw [csK_no hc]
      exact ⟨by show (csK l m k).2.length ≤ k + 1; omega, fun row hr => up _ (i2 _ hr), fun h => by cases h⟩
theorem Span.len {l : List Weather} {m : Int} {k : Nat} {row : List Int} (h : Span l m k row) : row.length = 2 := by
  obtain ⟨i, j, _, _, rfl, _⟩ := h; rfl
theorem cs_impl (l : List Weather) (m : Int) (h : l.length ≤ 1048576) : iter (fun s => impl_CalmSpans_loop1 l m s.1 s.2.1 s.2.2) (false, (0 : Int), ([] : List (List Int))) = some (csK l m l.length).2 :=
  iter_for l.length (fun k => ((csK l m k).1, (k : Int), (csK l m k).2)) (fun k hk => by
    show impl_CalmSpans_loop1 l m (csK l m k).1 (k : Int) (csK l m k).2 = _
    obtain ⟨i1, i2, i3⟩ := csK_inv l m k
    unfold impl_CalmSpans_loop1
    rw [cond_dt (by omega), grd_pos (by omega)]
    simp only [Int.toNat_natCast]
    cases hs : (l.getD k d_Weather).2.2.2.2.1
    · simp only [Bool.not_false, cond_true]
      by_cases hw : (l.getD k d_Weather).2.1 ≤ m
      · have hc : calm m (l.getD k d_Weather) := ⟨hs, hw⟩
        rw [cond_dt hw]
        cases h1 : (csK l m k).1
        · simp only [cond_false]
          rw [cond_dt hw, grd_pos (by simp only [List.length_singleton]; omega), csK_new hc h1, decide_eq_true hw, w64_nat (by omega)]
        · obtain ⟨init, i, e, hi, hall⟩ := i3 h1
          simp only [cond_true]
          have hl : (init ++ [[(l.getD i d_Weather).1, (l.getD (k - 1) d_Weather).1]]).length = init.length + 1 := by simp
          have hil : init.length + 1 ≤ k := by rw [e] at i1; simpa using i1
          rw [csK_on hc h1 e, e, hl, w64_pred (by omega) (by omega), grd_pos (by omega), Int.toNat_natCast, Nat.add_sub_cancel, getD_mid, grd_pos (by simp), set_mid, decide_eq_true hw, w64_nat (by omega)]
          rfl
      · have hc : ¬ calm m (l.getD k d_Weather) := fun h => hw h.2
        rw [cond_df hw, cond_df hw, csK_no hc, decide_eq_false hw, w64_nat (by omega)]
    · have hc : ¬ calm m (l.getD k d_Weather) := fun h => by rw [h.1] at hs; cases hs
      simp only [Bool.not_true, cond_false]
      rw [csK_no hc, w64_nat (by omega)]) (by
    show impl_CalmSpans_loop1 l m (csK l m l.length).1 (l.length : Int) (csK l m l.length).2 = _
    unfold impl_CalmSpans_loop1
    rw [cond_df (by omega)]) rfl
theorem cs_spec (l : List Weather) (m : Int) (h : l.length ≤ 1048576) : iter (fun s => spec_CalmSpans_loop1 l m s.1 s.2.1 s.2.2) (false, (0 : Int), ([] : List (List Int))) = some (csK l m l.length).2 :=
  iter_for l.length (fun k => ((csK l m k).1, (k : Int), (csK l m k).2)) (fun k hk => by
    show spec_CalmSpans_loop1 l m (csK l m k).1 (k : Int) (csK l m k).2 = _
    obtain ⟨i1, i2, i3⟩ := csK_inv l m k
    unfold spec_CalmSpans_loop1
    have hg : 0 ≤ (k : Int) ∧ (k : Int) < (l.length : Int) := by omega
    rw [cond_dt (by omega)]
    simp only [grd_pos hg, Int.toNat_natCast]
    cases hs : (l.getD k d_Weather).2.2.2.2.1
    · simp only [Bool.not_false, cond_true]
      by_cases hw : (l.getD k d_Weather).2.1 ≤ m
      · have hc : calm m (l.getD k d_Weather) := ⟨hs, hw⟩
        rw [cond_dt hw]
        cases h1 : (csK l m k).1
        · simp only [cond_false]
          rw [cond_dt hw, grd_pos (by simp only [List.length_singleton]; omega), csK_new hc h1, decide_eq_true hw, w64_nat (by omega)]
        · obtain ⟨init, i, e, hi, hall⟩ := i3 h1
          simp only [cond_true]
          have hl : (init ++ [[(l.getD i d_Weather).1, (l.getD (k - 1) d_Weather).1]]).length = init.length + 1 := by simp
          have hil : init.length + 1 ≤ k := by rw [e] at i1; simpa using i1
          rw [csK_on hc h1 e, e, hl, w64_pred (by omega) (by omega), grd_pos (by omega), Int.toNat_natCast, Nat.add_sub_cancel, getD_mid, grd_pos (by simp), grd_pos (by omega), set_mid, decide_eq_true hw, w64_nat (by omega)]
          rfl
      · have hc : ¬ calm m (l.getD k d_Weather) := fun h => hw h.2
        rw [cond_df hw, cond_df hw, csK_no hc, decide_eq_false hw, w64_nat (by omega)]
    · have hc : ¬ calm m (l.getD k d_Weather) := fun h => by rw [h.1] at hs; cases hs
      simp only [Bool.not_true, cond_false]
      rw [csK_no hc, w64_nat (by omega)]) (by
    show spec_CalmSpans_loop1 l m (csK l m l.length).1 (l.length : Int) (csK l m l.length).2 = _
    unfold spec_CalmSpans_loop1
    rw [cond_df (by omega)]) rfl
theorem calmSpans_eq (l : List Weather) (m : Int) (h : l.length ≤ 1048576) : (impl_CalmSpans l m = some (.inl ()) ∧ spec_CalmSpans l m = some ([], false, l)) ∨
    (Rec l ∧ (0 ≤ m ∧ m ≤ 600) ∧ AR l = true ∧ impl_CalmSpans l m = some (.inr (csK l m l.length).2) ∧ spec_CalmSpans l m = some ((csK l m l.length).2, true, l)) := by
  unfold impl_CalmSpans spec_CalmSpans spec_l17Wind
  rw [areRecords_eq l h, l17Good_eq l h, within_eq, l1In_eq]
  simp only [Option.bind_some]
  cases ha : AR l
  · exact .inl ⟨rfl, rfl⟩
  · simp only [Bool.not_true, cond_false]
    by_cases hm : 0 ≤ m ∧ m ≤ 600
    · rw [cond_ndt hm, cond_ndt hm, cs_impl l m h, cs_spec l m h]
      exact .inr ⟨AR_out ha, hm, by simp, rfl, rfl⟩
    · rw [cond_ndf hm, cond_ndf hm]; exact .inl ⟨rfl, rfl⟩
/-! ## The strongest wind -/
def swK (l : List Weather) (a b : Int) : Nat → Int
  | 0 => -1
  | k + 1 => if a ≤ (l.getD k d_Weather).1 ∧ (l.getD k d_Weather).1 ≤ b then (if (l.getD k d_Weather).2.1 > swK l a b k then (l.getD k d_Weather).2.1 else swK l a b k) else swK l a b k
theorem sw_loop (l : List Weather) (a b : Int) (h : l.length ≤ 1048576) : iter (fun s => impl_StrongestWind_loop1 l a b s.1 s.2) (((-1) : Int), (0 : Int)) = some (swK l a b l.length) :=
  iter_for l.length (fun k => (swK l a b k, (k : Int))) (fun k hk => by
    show impl_StrongestWind_loop1 l a b (swK l a b k) (k : Int) = _
    unfold impl_StrongestWind_loop1
    rw [cond_dt (by omega), grd_pos (by omega)]
    simp only [Int.toNat_natCast, within_eq, Option.bind_some, Bool.false_eq_true, if_false]
    rw [w64_nat (by omega), swK]
    by_cases hw : a ≤ (l.getD k d_Weather).1 ∧ (l.getD k d_Weather).1 ≤ b
    · rw [cond_dt hw, if_pos hw]
    · rw [cond_df hw, if_neg hw]) (by
    show impl_StrongestWind_loop1 l a b (swK l a b l.length) (l.length : Int) = _
    unfold impl_StrongestWind_loop1
    rw [cond_df (by omega)]) rfl
theorem strongest_eq (l : List Weather) (a b : Int) (h : l.length ≤ 1048576) : impl_StrongestWind l a b = some (if AR l = true ∧ (0 ≤ a ∧ a ≤ b) ∧ b ≤ 9999 then ((if 0 > swK l a b l.length then 0 else swK l a b l.length), decide (0 ≤ swK l a b l.length)) else (0, false)) := by
  unfold impl_StrongestWind
  rw [areRecords_eq l h, within_eq]
  simp only [Option.bind_some, Bool.false_eq_true, if_false]
  cases ha : AR l
  · simp only [Bool.not_false, cond_true]; rw [if_neg (by simp)]
  · simp only [Bool.not_true, cond_false]
    by_cases h1 : 0 ≤ a ∧ a ≤ b
    · rw [cond_ndt h1]
      by_cases h2 : 9999 < b
      · rw [cond_dt h2, if_neg (by omega)]
      · rw [cond_df h2, if_pos ⟨by simp, h1, by omega⟩, sw_loop l a b h]; rfl
    · rw [cond_ndf h1, if_neg (fun e => h1 e.2.1)]
theorem sw_span {l : List Weather} (hR : Rec l) {m : Int} (hm : 0 ≤ m) {i j : Nat} (hij : i ≤ j) (hj : j < l.length) (hc : ∀ t, i ≤ t → t ≤ j → calm m (l.getD t d_Weather)) :
    ∀ k, k ≤ l.length → swK l (l.getD i d_Weather).1 (l.getD j d_Weather).1 k ≤ m ∧ -1 ≤ swK l (l.getD i d_Weather).1 (l.getD j d_Weather).1 k ∧ (i < k → 0 ≤ swK l (l.getD i d_Weather).1 (l.getD j d_Weather).1 k) := by
  intro k
  induction k with
  | zero => intro _; rw [swK]; omega
  | succ k ih =>
    intro hk
    obtain ⟨h1, h2, h3⟩ := ih (by omega)
    rw [swK]
    have hok := hR.ok k (by omega)
    by_cases hw : (l.getD i d_Weather).1 ≤ (l.getD k d_Weather).1 ∧ (l.getD k d_Weather).1 ≤ (l.getD j d_Weather).1
    · have hik := hR.inj (by omega) (by omega) hw.1
      have hkj := hR.inj (by omega) (by omega) hw.2
      have := (hc k hik hkj).2
      rw [if_pos hw]
      split <;> omega
    · rw [if_neg hw]
      refine ⟨h1, h2, fun h4 => ?_⟩
      by_cases e : i = k
      · exfalso; apply hw; rw [e]
        rcases Nat.lt_or_ge k j with h5 | h5
        · have := hR.up k j h5 hj; omega
        · rw [show j = k by omega]; omega
      · exact h3 (by omega)
/-! ## The storms -/
def inW (m s : Int) (r : Weather) : Prop := w64 (m - s) ≤ r.1 ∧ r.1 ≤ m
instance inWDec (m s : Int) (r : Weather) : Decidable (inW m s r) := inferInstanceAs (Decidable (w64 (m - s) ≤ r.1 ∧ r.1 ≤ m))
def cnK (l : List Weather) (m s : Int) : Nat → Nat
  | 0 => 0
  | k + 1 => if inW m s (l.getD k d_Weather) then cnK l m s k + 1 else cnK l m s k
theorem cnK_le (l : List Weather) (m s : Int) : ∀ k, cnK l m s k ≤ k
  | 0 => by rw [cnK]; omega
  | k + 1 => by have := cnK_le l m s k; rw [cnK]; split <;> omega
def acK (l : List Weather) (m s : Int) : Nat → Bool
  | 0 => true
  | k + 1 => if inW m s (l.getD k d_Weather) then (if acK l m s k = true then !(l.getD k d_Weather).2.2.2.2.1 else false) else acK l m s k
theorem acK_iff (l : List Weather) (m s : Int) : ∀ k, acK l m s k = true ↔ ∀ t, t < k → ¬ (inW m s (l.getD t d_Weather) ∧ (l.getD t d_Weather).2.2.2.2.1 = true)
  | 0 => by simp [acK]
  | k + 1 => by
    have ih := acK_iff l m s k
    have hsplit : (∀ t, t < k + 1 → ¬ (inW m s (l.getD t d_Weather) ∧ (l.getD t d_Weather).2.2.2.2.1 = true)) ↔ (∀ t, t < k → ¬ (inW m s (l.getD t d_Weather) ∧ (l.getD t d_Weather).2.2.2.2.1 = true)) ∧ ¬ (inW m s (l.getD k d_Weather) ∧ (l.getD k d_Weather).2.2.2.2.1 = true) := by
      constructor
      · exact fun h => ⟨fun t ht => h t (by omega), h k (by omega)⟩
      · intro h t ht
        by_cases e : t = k
        · rw [e]; exact h.2
        · exact h.1 t (by omega)
    rw [hsplit, ← ih, acK]
    by_cases hw : inW m s (l.getD k d_Weather)
    · rw [if_pos hw]
      cases acK l m s k <;> cases (l.getD k d_Weather).2.2.2.2.1 <;> first | (simp []; done) | (simp; simpa using hw)
    · rw [if_neg hw]
      exact ⟨fun h => ⟨h, fun e => hw e.1⟩, fun h => h.1⟩
/-- What is said of the storms. -/
def SO (l : List Weather) (m s : Int) : Bool × Bool :=
  if AR l = true ∧ (0 ≤ m ∧ m ≤ 9999) ∧ (0 ≤ s ∧ s ≤ 600) then (if acK l m s l.length = true then (decide (0 < cnK l m s l.length), true) else (false, true)) else (false, false)
theorem storms_eq (l : List Weather) (m s : Int) (h : l.length ≤ 1048576) : impl_StormsOver l m s = some (SO l m s) := by
  unfold impl_StormsOver SO
  rw [areRecords_eq l h, within_eq, within_eq]
  simp only [Option.bind_some]
  cases ha : AR l
  · simp only [Bool.not_false, cond_true]; rw [if_neg (by simp)]
  · simp only [Bool.not_true, cond_false]
    by_cases h1 : 0 ≤ m ∧ m ≤ 9999
    · rw [cond_ndt h1]
      by_cases h2 : 0 ≤ s ∧ s ≤ 600
      · rw [cond_ndt h2, if_pos ⟨by simp, h1, h2⟩]
        obtain ⟨r, hr, hq⟩ := iter_ex (f := fun x : Int × Int => impl_StormsOver_loop1 l m s x.1 x.2) (miss := Sum.inr ((cnK l m s l.length : Nat) : Int)) l.length (fun k => decide (inW m s (l.getD k d_Weather) ∧ (l.getD k d_Weather).2.2.2.2.1 = true)) (fun _ => Sum.inl ()) (fun k => (((cnK l m s k : Nat) : Int), (k : Int))) (fun k hk => by
          show impl_StormsOver_loop1 l m s ((cnK l m s k : Nat) : Int) (k : Int) = _
          have hcn := cnK_le l m s k
          unfold impl_StormsOver_loop1
          rw [cond_dt (by omega), grd_pos (by omega)]
          simp only [Int.toNat_natCast, within_eq, Option.bind_some]
          by_cases hw : inW m s (l.getD k d_Weather)
          · rw [cond_dt (show w64 (m - s) ≤ (l.getD k d_Weather).1 ∧ (l.getD k d_Weather).1 ≤ m from hw)]
            cases hs : (l.getD k d_Weather).2.2.2.2.1
            · simp only [cond_false]
              rw [if_neg (fun e => by cases (of_decide_eq_true e).2), cnK, if_pos hw, w64_nat (by omega), w64_nat (by omega)]
            · simp only [cond_true]
              rw [if_pos (decide_eq_true ⟨hw, trivial⟩)]
          · rw [cond_df (show ¬ (w64 (m - s) ≤ (l.getD k d_Weather).1 ∧ (l.getD k d_Weather).1 ≤ m) from hw), if_neg (fun e => hw (of_decide_eq_true e).1), cnK, if_neg hw, w64_nat (by omega)]) (by
          show impl_StormsOver_loop1 l m s ((cnK l m s l.length : Nat) : Int) (l.length : Int) = _
          unfold impl_StormsOver_loop1
          rw [cond_df (by omega)]) (s := ((0 : Int), (0 : Int))) rfl
        rw [hr]
        rcases hq with ⟨k, hk, hp, _, rfl⟩ | ⟨hn, rfl⟩
        · have : ¬ acK l m s l.length = true := fun e => (acK_iff l m s _).1 e k hk (of_decide_eq_true hp)
          rw [if_neg this]; rfl
        · have : acK l m s l.length = true := (acK_iff l m s _).2 fun t ht => of_decide_eq_false (hn t ht)
          rw [if_pos this]
          simp only [Option.bind_some, Sum.elim_inr]
          refine congrArg some (Prod.ext (decide_eq_decide.2 ?_) rfl); omega
      · rw [cond_ndf h2, if_neg (fun e => h2 e.2.2)]
    · rw [cond_ndf h1, if_neg (fun e => h1 e.2.1)]
theorem storms_spec (l : List Weather) (m s : Int) (h : l.length ≤ 1048576) : spec_StormsOver l m s = some (SO l m s) := by
  unfold spec_StormsOver SO spec_l17Minute
  rw [l17Good_eq l h, l1In_eq, l1In_eq]
  simp only [Option.bind_some]
  cases ha : AR l
  · simp only [Bool.not_false, cond_true]; rw [if_neg (by simp)]
  · simp only [Bool.not_true, cond_false]
    by_cases h1 : 0 ≤ m ∧ m ≤ 9999
    · rw [cond_ndt h1]
      by_cases h2 : 0 ≤ s ∧ s ≤ 600
      · rw [cond_ndt h2, if_pos ⟨by simp, h1, h2⟩]
        have H : iter (fun x : Int × Bool × Int => spec_StormsOver_loop1 l m s x.1 x.2.1 x.2.2) ((0 : Int), true, (0 : Int)) = some (((cnK l m s l.length : Nat) : Int), acK l m s l.length) :=
          iter_for l.length (fun k => (((cnK l m s k : Nat) : Int), acK l m s k, (k : Int))) (fun k hk => by
            show spec_StormsOver_loop1 l m s ((cnK l m s k : Nat) : Int) (acK l m s k) (k : Int) = _
            have hcn := cnK_le l m s k
            unfold spec_StormsOver_loop1
            rw [cond_dt (by omega), grd_pos (by omega)]
            simp only [Int.toNat_natCast, l1In_eq, Option.bind_some]
            by_cases hw : inW m s (l.getD k d_Weather)
            · rw [cond_dt (show w64 (m - s) ≤ (l.getD k d_Weather).1 ∧ (l.getD k d_Weather).1 ≤ m from hw), cnK, acK, if_pos hw, if_pos hw]
              cases acK l m s k
              · simp only [cond_false, Bool.false_eq_true, if_false]
                rw [w64_nat (by omega), w64_nat (by omega)]
              · simp only [cond_true, if_true]
                rw [grd_pos (by omega), w64_nat (by omega), w64_nat (by omega)]
            · rw [cond_df (show ¬ (w64 (m - s) ≤ (l.getD k d_Weather).1 ∧ (l.getD k d_Weather).1 ≤ m) from hw), cnK, acK, if_neg hw, if_neg hw, w64_nat (by omega)]) (by
            show spec_StormsOver_loop1 l m s ((cnK l m s l.length : Nat) : Int) (acK l m s l.length) (l.length : Int) = _
            unfold spec_StormsOver_loop1
            rw [cond_df (by omega)]) rfl
        rw [H]
        simp only [Option.bind_some]
        cases acK l m s l.length
        · simp only [cond_false, Bool.false_eq_true, if_false]
        · simp only [cond_true, if_true]
          refine congrArg some (Prod.ext (decide_eq_decide.2 ?_) rfl); omega
      · rw [cond_ndf h2, if_neg (fun e => h2 e.2.2)]
    · rw [cond_ndf h1, if_neg (fun e => h1 e.2.1)]
theorem cnK_pos {l : List Weather} {m s : Int} {i : Nat} (hw : inW m s (l.getD i d_Weather)) : ∀ k, i < k → 0 < cnK l m s k
  | 0, h => by omega
  | k + 1, h => by
    rw [cnK]
    by_cases e : i = k
    · rw [← e, if_pos hw]; omega
    · have := cnK_pos hw k (by omega); split <;> omega
end Go.Proofs.Ytaajchikfgbecaa
