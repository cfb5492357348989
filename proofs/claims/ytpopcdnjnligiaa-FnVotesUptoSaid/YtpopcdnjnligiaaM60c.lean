/-
  Votes of sensors, and what law FnVotes asks of them.
-/
import Derived.Test.YtpopcdnjnligiaaM60b
namespace Go.Proofs.Ytpopcdnjnligiaa
open Go.RowKit

def sensOk (x : Int) : Bool := decide ((-1 : Int) ≤ x ∧ x ≤ 60)
def sens (l : List Int) : Bool := l.all sensOk && decide ((1 : Int) ≤ (l.length : Int) ∧ (l.length : Int) ≤ 5)
theorem sens_out {l : List Int} (h : sens l = true) : 1 ≤ l.length ∧ l.length ≤ 5 ∧ ∀ k, k < l.length → -1 ≤ l.getD k 0 ∧ l.getD k 0 ≤ 60 := by
  simp only [sens, Bool.and_eq_true, decide_eq_true_eq, List.all_eq_true] at h
  refine ⟨by omega, by omega, fun k hk => ?_⟩
  have := h.1 l[k] (List.getElem_mem hk)
  rw [getD_eq _ _ _ hk]
  simpa [sensOk] using this
theorem l12Sensors_eq (l : List Int) (h : l.length ≤ 1048576) : spec_l12Sensors l = some (sens l) := by
  unfold spec_l12Sensors
  have H : iter (fun s => spec_l12Sensors_loop1 l s) (0 : Int) = some (if l.all sensOk then Sum.inr () else Sum.inl ()) :=
    iter_all l sensOk 0 (fun k => (k : Int)) (fun k hk => by
      show spec_l12Sensors_loop1 l (k : Int) = _
      unfold spec_l12Sensors_loop1
      rw [cond_dt (by omega), grd_pos (by omega), w64_nat (by omega), l1In_eq]
      show cond (!sensOk (l.getD k 0)) _ _ = _
      cases sensOk (l.getD k 0) <;> rfl) (by
      show spec_l12Sensors_loop1 l (l.length : Int) = _
      unfold spec_l12Sensors_loop1
      rw [cond_df (by omega)]) rfl
  rw [H]
  unfold sens
  cases l.all sensOk
  · rfl
  · simp only [if_true, Option.bind_some, Sum.elim_inr, l1In_eq, Bool.true_and]
theorem allInS_eq (l : List Int) (h : l.length ≤ 1048576) : impl_allIn l (-1) 60 = some (l.all sensOk) := by
  unfold impl_allIn
  have H : iter (fun s => impl_allIn_loop1 l (-1) 60 s) (0 : Int) = some (if l.all sensOk then Sum.inr () else Sum.inl ()) :=
    iter_all l sensOk 0 (fun k => (k : Int)) (fun k hk => by
      show impl_allIn_loop1 l (-1) 60 (k : Int) = _
      unfold impl_allIn_loop1
      rw [cond_dt (by omega), grd_pos (by omega), w64_nat (by omega)]
      show (impl_within (l.getD k 0) (-1) 60).bind _ = _
      rw [within_eq]
      show cond (!sensOk (l.getD k 0)) _ _ = _
      cases sensOk (l.getD k 0) <;> rfl) (by
      show impl_allIn_loop1 l (-1) 60 (l.length : Int) = _
      unfold impl_allIn_loop1
      rw [cond_df (by omega)]) rfl
  rw [H]; cases l.all sensOk <;> rfl
/-! ### The vote -/
theorem ref_pos (a o : List Int) (i : Nat) (hi : i < a.length) (ho : o.length ≤ 1048576) : ∀ k, k ≤ o.length →
    ∃ r, iter (fun s => spec_l12Of_loop2 a (i : Int) o s) (k : Int) = some r ∧ Sum.elim (fun (q : Int × Int × Int × Int × Bool) => q.1) (fun q => q) r = (posR (a.getD i R0) o k : Int)
  | 0, _ => by
    refine ⟨Sum.inr 0, iter_out ?_, rfl⟩
    show spec_l12Of_loop2 a (i : Int) o ((0 : Nat) : Int) = _
    unfold spec_l12Of_loop2
    rw [cond_df (by omega)]; rfl
  | k + 1, hk => by
    have e1 : w64 (((k + 1 : Nat) : Int) - 1) = (k : Int) := by
      rw [w64_id (by omega) (by omega)]; omega
    by_cases hc : (a.getD i R0) < (o.getD k R0)
    · obtain ⟨r, e2, h2⟩ := ref_pos a o i hi ho k (by omega)
      refine ⟨r, (iter_go ?_).trans e2, ?_⟩
      · show spec_l12Of_loop2 a (i : Int) o ((k + 1 : Nat) : Int) = _
        unfold spec_l12Of_loop2
        simp only [e1, Int.toNat_natCast]
        rw [cond_dt (by omega), grd_pos (by omega), grd_pos (by omega), cond_dt hc]
      · rw [h2]; simp only [posR]; rw [if_pos hc]
    · obtain ⟨r0, e2, h2⟩ : ∃ r0 : Int × Int × Int × Int × Bool, spec_l12Of_loop2 a (i : Int) o ((k + 1 : Nat) : Int) = some (.out (Sum.inl r0)) ∧ r0.1 = ((k + 1 : Nat) : Int) := by
        unfold spec_l12Of_loop2
        simp only [e1, Int.toNat_natCast]
        rw [cond_dt (by omega), grd_pos (by omega), grd_pos (by omega), cond_df hc]
        exact ⟨_, rfl, rfl⟩
      refine ⟨Sum.inl r0, iter_out e2, ?_⟩
      show r0.1 = _
      rw [h2]
      simp only [posR]; rw [if_neg hc]
def refK (a : List Int) : Nat → List Int
  | 0 => []
  | k + 1 => cond (keepR (a.getD k R0)) (insR (a.getD k R0) (refK a k)) (refK a k)
theorem refK_le (a : List Int) : ∀ k, (refK a k).length ≤ k
  | 0 => by simp [refK]
  | k + 1 => by
    have := refK_le a k
    simp only [refK]
    cases keepR (a.getD k R0)
    · simp only [cond_false]; omega
    · simp only [cond_true]; rw [insR_length]; omega
theorem refK_eq (a : List Int) : ∀ k, refK a k = srtK (filK a k) (filK a k).length
  | 0 => rfl
  | k + 1 => by
    have ih := refK_eq a k
    simp only [refK, filK]
    cases keepR (a.getD k R0)
    · rw [cond_false, cond_false, ih]
    · rw [cond_true, cond_true, ih, List.length_append]
      exact (srtK_snoc (filK a k) (a.getD k R0)).symm
theorem ref_ok (a : List Int) (ha : a.length ≤ 1000) : iter (fun s => spec_l12Of_loop1 a s.1 s.2) ((0 : Int), ([] : List Int)) = some (refK a a.length) :=
  iter_for a.length (fun k => ((k : Int), refK a k)) (fun k hk => by
    show spec_l12Of_loop1 a (k : Int) (refK a k) = _
    have hle := refK_le a k
    obtain ⟨r, e, hr⟩ := ref_pos a (refK a k) k hk (by omega) (refK a k).length (Nat.le_refl _)
    have hp := posR_le (a.getD k R0) (refK a k) (refK a k).length
    have hins : ∀ p : Nat, p = posR (a.getD k R0) (refK a k) (refK a k).length → (([] : List Int) ++ (((refK a k).drop ((0 : Int).toNat)).take (((p : Int) - (0 : Int)).toNat))) ++ [a.getD k R0] ++ (((refK a k).drop (p : Int).toNat).take ((((refK a k).length : Int) - (p : Int)).toNat)) = insR (a.getD k R0) (refK a k) := by
      rintro p rfl
      unfold insR
      rw [Int.toNat_natCast, show (0 : Int).toNat = 0 from rfl, List.drop_zero, List.nil_append, show ((posR (a.getD k R0) (refK a k) (refK a k).length : Nat) : Int) - 0 = ((posR (a.getD k R0) (refK a k) (refK a k).length : Nat) : Int) by omega, Int.toNat_natCast, List.append_assoc, List.take_of_length_le (l := (refK a k).drop _) (by rw [List.length_drop]; omega)]
      rfl
    unfold spec_l12Of_loop1
    rw [cond_dt (by omega), grd_pos (by omega)]
    simp only [Int.toNat_natCast, refK]
    by_cases hh : a.getD k 0 < 0
    · have hkp : keepR (a.getD k R0) = false := by unfold keepR; rw [decide_eq_true hh]; rfl
      rw [cond_dt hh, hkp, w64_nat (by omega)]; rfl
    · have hkp : keepR (a.getD k R0) = true := by unfold keepR; rw [decide_eq_false hh]; rfl
      rw [cond_df hh, hkp, e, Option.bind_some, w64_nat (by omega), cond_true]
      cases r with
      | inl q =>
        rw [Sum.elim_inl] at hr ⊢
        obtain ⟨q, q2⟩ := q
        have hr : q = _ := hr
        subst hr
        simp only
        rw [grd_pos (by omega), grd_pos (by simp only [List.length_nil, List.length_take, List.length_drop]; omega), grd_pos (by omega), grd_pos (by simp only [List.length_append, List.length_cons, List.length_nil, List.length_take, List.length_drop]; omega), grd_pos (by omega), grd_pos (by simp only [List.length_append, List.length_cons, List.length_nil, List.length_take, List.length_drop]; omega)]
        have := hins _ rfl
        exact congrArg (fun z => some (Lp.go (_, z))) this
      | inr q =>
        rw [Sum.elim_inr] at hr ⊢
        subst hr
        rw [grd_pos (by omega), grd_pos (by simp only [List.length_nil, List.length_take, List.length_drop]; omega), grd_pos (by omega), grd_pos (by simp only [List.length_append, List.length_cons, List.length_nil, List.length_take, List.length_drop]; omega), grd_pos (by omega), grd_pos (by simp only [List.length_append, List.length_cons, List.length_nil, List.length_take, List.length_drop]; omega)]
        have := hins _ rfl
        exact congrArg (fun z => some (Lp.go (_, z))) this) (by
    show spec_l12Of_loop1 a (a.length : Int) _ = _
    unfold spec_l12Of_loop1
    rw [cond_df (by omega)]) rfl
def votV (a : List Int) : Int := if 2 * (refK a a.length).length < a.length then 60 else (refK a a.length).getD ((refK a a.length).length / 2) 0
theorem half_eq (n : Nat) (h : n ≤ 1048576) : w64 (Int.tdiv (n : Int) (2 : Int)) = ((n / 2 : Nat) : Int) := by
  have e : Int.tdiv (n : Int) (2 : Int) = ((n / 2 : Nat) : Int) := by
    rw [Int.tdiv_eq_ediv_of_nonneg (by omega)]; omega
  rw [e, w64_id (by omega) (by omega)]
theorem l12Of_eq (a : List Int) (h : 1 ≤ a.length ∧ a.length ≤ 5) : spec_l12Of a = some (votV a) := by
  unfold spec_l12Of
  have hle := refK_le a a.length
  rw [ref_ok a (by omega), Option.bind_some, w64_id (x := 2 * _) (by omega) (by omega)]
  unfold votV
  by_cases h1 : 2 * (refK a a.length).length < a.length
  · rw [cond_dt (by omega), if_pos h1]
  · rw [cond_df (by omega), if_neg h1, cond_df (by omega), grd_pos (by omega), half_eq _ (by omega), grd_pos (by omega), Int.toNat_natCast]
theorem voteOf_eq (a : List Int) (h : a.length ≤ 1048576) : impl_voteOf a = some (if sens a then (votV a, true) else (0, false)) := by
  unfold impl_voteOf
  rw [within_eq, Option.bind_some]
  by_cases h1 : (1 : Int) ≤ (a.length : Int) ∧ (a.length : Int) ≤ 5
  case neg => rw [cond_ndf h1]; unfold sens; rw [decide_eq_false h1, Bool.and_false]; rfl
  rw [cond_ndt h1, allInS_eq a h, Option.bind_some]
  unfold sens
  rw [decide_eq_true h1, Bool.and_true]
  cases a.all sensOk
  · rfl
  simp only [Bool.not_true, cond_false, if_true]
  have hcl : slices_Clone___int_int_ a = some a := by
    unfold slices_Clone___int_int_
    rw [grd_pos (by omega), grd_pos (by simp only [List.length_nil]; omega)]; rfl
  have hdel : ∃ r, slices_DeleteFunc___int_int__i1 a = some r ∧ Sum.elim (fun q : (List Int) × (List Int) => q.2) (fun q => q) r = filK a a.length := by
    obtain ⟨r, e, h1⟩ := delete_ok a h
    refine ⟨r, e, ?_⟩
    rcases h1 with ⟨rfl, h1⟩ | rfl
    · exact h1.symm
    · rfl
  obtain ⟨r, e1, e2⟩ := hdel
  have hfl := filK_length a a.length
  have hs := sort_ok (filK a a.length) (by omega)
  have hsl := srtK_length (filK a a.length) (filK a a.length).length
  have tail : (cond (decide ((w64 ((2 : Int) * ((filK a a.length).length : Int))) < (a.length : Int))) ((some ((60 : Int), true))) ((slices_Sort___int_int_ (filK a a.length)).bind fun y8 => (grd ((2 : Int) ≠ 0) (grd (0 ≤ (w64 (Int.tdiv (y8.length : Int) (2 : Int))) ∧ (w64 (Int.tdiv (y8.length : Int) (2 : Int))) < (y8.length : Int)) ((some ((y8.getD ((w64 (Int.tdiv (y8.length : Int) (2 : Int))).toNat) 0), true))))))) = some (votV a, true) := by
    unfold votV
    rw [refK_eq, hsl, w64_id (by omega) (by omega)]
    by_cases h2 : 2 * (filK a a.length).length < a.length
    · rw [cond_dt (by omega), if_pos h2]
    · rw [cond_df (by omega), if_neg h2, hs, Option.bind_some, grd_pos (by omega), hsl, half_eq _ (by omega), grd_pos (by omega), Int.toNat_natCast]
  rw [hcl, Option.bind_some, e1, Option.bind_some]
  cases r with
  | inl q => rw [Sum.elim_inl] at e2; simp only [Sum.elim_inl, Option.bind_some, e2]; exact tail
  | inr q => rw [Sum.elim_inr] at e2; simp only [Sum.elim_inr, Option.bind_some, e2]; exact tail
theorem mem_filK (a : List Int) (x : Int) : ∀ k, k ≤ a.length → x ∈ filK a k → x ∈ a ∧ 0 ≤ x
  | 0, _, h => by simp [filK] at h
  | k + 1, hk, h => by
    simp only [filK] at h
    cases hkp : keepR (a.getD k R0) with
    | false => rw [hkp] at h; exact mem_filK a x k (by omega) h
    | true =>
      rw [hkp, cond_true, List.mem_append, List.mem_singleton] at h
      rcases h with h | rfl
      · exact mem_filK a x k (by omega) h
      · refine ⟨?_, ?_⟩
        · rw [getD_eq _ _ _ (by omega)]; exact List.getElem_mem _
        · simp only [keepR, Bool.not_eq_true', decide_eq_false_iff_not] at hkp; omega
theorem mem_srtK (f : List Int) (x : Int) : ∀ k, k ≤ f.length → x ∈ srtK f k → x ∈ f
  | 0, _, h => by simp [srtK] at h
  | k + 1, hk, h => by
    simp only [srtK, insR, List.mem_append, List.mem_cons] at h
    rcases h with h | rfl | h
    · exact mem_srtK f x k (by omega) (List.mem_of_mem_take h)
    · rw [getD_eq _ _ _ (by omega)]; exact List.getElem_mem _
    · exact mem_srtK f x k (by omega) (List.mem_of_mem_drop h)
theorem votV_mem (a : List Int) (h : 1 ≤ a.length ∧ a.length ≤ 5) : votV a = 60 ∨ votV a ∈ a ∧ 0 ≤ votV a := by
  unfold votV
  by_cases h1 : 2 * (refK a a.length).length < a.length
  · rw [if_pos h1]; exact .inl rfl
  · rw [if_neg h1]
    have hl : (refK a a.length).length / 2 < (refK a a.length).length := by omega
    have hm : (refK a a.length).getD ((refK a a.length).length / 2) 0 ∈ refK a a.length := by
      rw [getD_eq _ _ _ hl]; exact List.getElem_mem _
    rw [refK_eq] at hm ⊢
    have := mem_filK a _ a.length (Nat.le_refl _) (mem_srtK _ _ _ (Nat.le_refl _) hm)
    exact .inr this
theorem votV_range (a : List Int) (h : sens a = true) : 0 ≤ votV a ∧ votV a ≤ 60 := by
  obtain ⟨h1, h2, h3⟩ := sens_out h
  rcases votV_mem a ⟨h1, h2⟩ with e | ⟨e, e0⟩
  · omega
  · obtain ⟨k, hk, e2⟩ := List.getElem_of_mem e
    have := h3 k hk
    rw [getD_eq _ _ _ hk, e2] at this
    omega
theorem vHas_eq (l : List Int) (x : Int) (h : l.length ≤ 1048576) (hx : x ∈ l) : laws_vHas l x = some true := by
  unfold laws_vHas
  obtain ⟨r, e, hr⟩ := iter_ex (f := fun s => laws_vHas_loop1 l x s) (miss := (Sum.inr () : Unit ⊕ Unit)) l.length (fun k => decide (l.getD k 0 = x)) (fun _ => Sum.inl ()) (fun k => (k : Int)) (fun k hk => by
    show laws_vHas_loop1 l x (k : Int) = _
    unfold laws_vHas_loop1
    rw [cond_dt (by omega), grd_pos (by omega), Int.toNat_natCast, w64_nat (by omega)]
    cases decide (l.getD k 0 = x) <;> rfl) (by
    show laws_vHas_loop1 l x (l.length : Int) = _
    unfold laws_vHas_loop1
    rw [cond_df (by omega)]) (s := (0 : Int)) rfl
  rw [e]
  rcases hr with ⟨k, hk, hp, hb, rfl⟩ | ⟨hp, rfl⟩
  · rfl
  · exfalso
    obtain ⟨k, hk, e2⟩ := List.getElem_of_mem hx
    have := hp k hk
    rw [getD_eq _ _ _ hk, e2] at this
    simp at this
/-! ### Broken sensors -/
def far (x v s : Int) : Bool := decide (x < 0 ∨ s < x - v ∨ s < v - x)
def brk (a : List Int) (v s : Int) : Nat → List Int
  | 0 => []
  | k + 1 => cond (far (a.getD k 0) v s) (brk a v s k ++ [(k : Int)]) (brk a v s k)
theorem brk_le (a : List Int) (v s : Int) : ∀ k, (brk a v s k).length ≤ k
  | 0 => by simp [brk]
  | k + 1 => by
    have := brk_le a v s k
    simp only [brk]
    cases far (a.getD k 0) v s
    · simp only [cond_false]; omega
    · simp only [cond_true, List.length_append, List.length_cons, List.length_nil]; omega
theorem brk_sub (a : List Int) (v s : Int) (x : Int) : ∀ k, x ∈ brk a v (s + 1) k → x ∈ brk a v s k
  | 0, h => h
  | k + 1, h => by
    simp only [brk] at h ⊢
    by_cases h1 : far (a.getD k 0) v (s + 1) = true
    · have h2 : far (a.getD k 0) v s = true := by
        simp only [far, decide_eq_true_eq] at h1 ⊢; omega
      rw [h1, cond_true, List.mem_append] at h
      rw [h2, cond_true, List.mem_append]
      exact h.imp (brk_sub a v s x k) id
    · rw [Bool.eq_false_iff.2 h1, cond_false] at h
      have := brk_sub a v s x k h
      cases far (a.getD k 0) v s
      · exact this
      · rw [cond_true, List.mem_append]; exact .inl this
theorem broken_loop (a : List Int) (hs : sens a = true) (v s : Int) (hv : 0 ≤ v ∧ v ≤ 60) :
    iter (fun q => impl_BrokenSensors_loop1 a s q.1 q.2.1 q.2.2) (v, (0 : Int), ([] : List Int)) = some (brk a v s a.length) ∧
    iter (fun q => spec_BrokenSensors_loop1 a s q.1 q.2.1 q.2.2) (v, (0 : Int), ([] : List Int)) = some (brk a v s a.length) := by
  obtain ⟨h1, h2, h3⟩ := sens_out hs
  constructor
  · refine iter_for a.length (fun k => (v, (k : Int), brk a v s k)) (fun k hk => ?_) ?_ rfl
    · show impl_BrokenSensors_loop1 a s v (k : Int) (brk a v s k) = _
      have hl := brk_le a v s k
      obtain ⟨x1, x2⟩ := h3 k hk
      unfold impl_BrokenSensors_loop1 impl_distance
      rw [cond_dt (by omega), grd_pos (by omega), w64_nat (by omega), Int.toNat_natCast]
      simp only [Option.bind_some, brk]
      rw [w64_id (x := v - _) (by omega) (by omega), w64_id (x := _ - v) (by omega) (by omega)]
      by_cases hf : far (a.getD k 0) v s = true
      · rw [hf, cond_true]
        simp only [far, decide_eq_true_eq] at hf
        by_cases h0 : a.getD k 0 < 0
        · rw [cond_dt h0, grd_pos (by simp only [List.length_cons, List.length_nil]; omega)]
        · rw [cond_df h0, cond_dt (by simp only [Bool.false_eq_true, if_false]; split <;> omega), grd_pos (by simp only [List.length_cons, List.length_nil]; omega)]
      · rw [Bool.eq_false_iff.2 hf, cond_false]
        simp only [far, decide_eq_true_eq] at hf
        rw [cond_df (by omega), cond_df (by simp only [Bool.false_eq_true, if_false]; split <;> omega)]
    · show impl_BrokenSensors_loop1 a s v (a.length : Int) _ = _
      unfold impl_BrokenSensors_loop1
      rw [cond_df (by omega)]
  · refine iter_for a.length (fun k => (v, (k : Int), brk a v s k)) (fun k hk => ?_) ?_ rfl
    · show spec_BrokenSensors_loop1 a s v (k : Int) (brk a v s k) = _
      have hl := brk_le a v s k
      obtain ⟨x1, x2⟩ := h3 k hk
      unfold spec_BrokenSensors_loop1
      rw [cond_dt (by omega), grd_pos (by omega), grd_pos (by omega), w64_nat (by omega), Int.toNat_natCast]
      rw [w64_id (x := _ - v) (by omega) (by omega), w64_id (x := 0 - _) (by omega) (by omega)]
      have hm : spec_l1Most (a.getD k 0 - v) (0 - (a.getD k 0 - v)) = some (if 0 - (a.getD k 0 - v) < a.getD k 0 - v then a.getD k 0 - v else 0 - (a.getD k 0 - v)) := by
        unfold spec_l1Most
        by_cases hh : 0 - (a.getD k 0 - v) < a.getD k 0 - v
        · rw [cond_dt hh, if_pos hh]
        · rw [cond_df hh, if_neg hh]
      rw [hm, Option.bind_some]
      simp only [brk]
      by_cases hf : far (a.getD k 0) v s = true
      · rw [hf, cond_true]
        simp only [far, decide_eq_true_eq] at hf
        by_cases h0 : a.getD k 0 < 0
        · rw [cond_dt h0, grd_pos (by simp only [List.length_cons, List.length_nil]; omega)]
        · rw [cond_df h0, cond_dt (by split <;> omega), grd_pos (by simp only [List.length_cons, List.length_nil]; omega)]
      · rw [Bool.eq_false_iff.2 hf, cond_false]
        simp only [far, decide_eq_true_eq] at hf
        rw [cond_df (by omega), cond_df (by split <;> omega)]
    · show spec_BrokenSensors_loop1 a s v (a.length : Int) _ = _
      unfold spec_BrokenSensors_loop1
      rw [cond_df (by omega)]
theorem broken_yes (a : List Int) (hs : sens a = true) (s : Int) (h0 : 0 ≤ s) : impl_BrokenSensors a s = some (Sum.inr (brk a (votV a) s a.length)) ∧ spec_BrokenSensors a s = some (brk a (votV a) s a.length, true) := by
  obtain ⟨h1, h2, h3⟩ := sens_out hs
  obtain ⟨l1, l2⟩ := broken_loop a hs (votV a) s (votV_range a hs)
  unfold impl_BrokenSensors spec_BrokenSensors
  rw [voteOf_eq a (by omega), l12Sensors_eq a (by omega), hs, if_pos rfl]
  simp only [Option.bind_some, Bool.not_true, cond_false, l12Of_eq a ⟨h1, h2⟩]
  rw [cond_df (by omega), cond_df (by omega), l1, l2]
  exact ⟨rfl, rfl⟩
theorem broken_no (a : List Int) (ha : a.length ≤ 1048576) (s : Int) (h0 : ¬ (sens a = true ∧ 0 ≤ s)) : impl_BrokenSensors a s = some (Sum.inl ()) ∧ spec_BrokenSensors a s = some ([], false) := by
  unfold impl_BrokenSensors spec_BrokenSensors
  rw [voteOf_eq a ha, l12Sensors_eq a ha]
  cases hs : sens a with
  | false => exact ⟨rfl, rfl⟩
  | true =>
    simp only [if_true, Option.bind_some, Bool.not_true, cond_false]
    have : s < 0 := by
      have : ¬ 0 ≤ s := fun h => h0 ⟨hs, h⟩
      omega
    rw [cond_dt this, cond_dt this]
    exact ⟨rfl, rfl⟩
theorem vWithin_eq (l m : List Int) (h : l.length ≤ 1000000) (hm : m.length ≤ 1000000) (hx : ∀ x ∈ l, x ∈ m) : laws_vWithin l m = some true := by
  unfold laws_vWithin
  have H : iter (fun s => laws_vWithin_loop1 l m s) (0 : Int) = some (Sum.inr ()) :=
    iter_for l.length (fun k => (k : Int)) (fun k hk => by
      show laws_vWithin_loop1 l m (k : Int) = _
      unfold laws_vWithin_loop1
      rw [cond_dt (by omega), grd_pos (by omega), Int.toNat_natCast, vHas_eq m _ (by omega) (hx _ (by rw [getD_eq _ _ _ hk]; exact List.getElem_mem _)), w64_nat (by omega)]
      rfl) (by
      show laws_vWithin_loop1 l m (l.length : Int) = _
      unfold laws_vWithin_loop1
      rw [cond_df (by omega)]) rfl
  rw [H]; rfl
/-! ### Draws -/
theorem sensors_loop1 : ∀ (d : Nat) (code : List Int) (at' seed : Int) (acc : List Int) (n : Int), CG (code, at', seed, ()) n → n + 2 * d ≤ 100000000 → acc.length + d ≤ 1000000 → d ≤ 1000000 →
    ∃ code' at2 seed' acc', iter (fun s => spec_l1Cur_sensors_loop1 s.1 s.2.1 s.2.2.1 s.2.2.2.1 s.2.2.2.2) ((d : Int), code, at', seed, acc) = some (code', at2, seed', acc') ∧ CG (code', at2, seed', ()) (n + 2 * d) ∧ acc'.length = acc.length + d
  | 0, code, at', seed, acc, n, h, _, _, _ => ⟨code, at', seed, acc, iter_out (by
      show spec_l1Cur_sensors_loop1 (0 : Int) code at' seed acc = _
      unfold spec_l1Cur_sensors_loop1
      rw [cond_df (by omega)]), h.up (by omega), rfl⟩
  | d + 1, code, at', seed, acc, n, h, hn, ha, hd => by
    obtain ⟨v, ⟨c1, t1, s1, u1⟩, e, hc, _⟩ := among_ok (code, at', seed, ()) n [((-1) : Int), (0 : Int), (5 : Int), (10 : Int), (12 : Int), (13 : Int), (20 : Int), (60 : Int)] (by simp) h (by omega)
    obtain ⟨c2, t2, s2, acc2, e2, h2, l2⟩ := sensors_loop1 d c1 t1 s1 (acc ++ [v]) (n + 2) hc (by omega) (by simp; omega) (by omega)
    refine ⟨c2, t2, s2, acc2, (iter_go ?_).trans e2, h2.up (by omega), by simp at l2; omega⟩
    show spec_l1Cur_sensors_loop1 ((d + 1 : Nat) : Int) code at' seed acc = _
    unfold spec_l1Cur_sensors_loop1
    rw [cond_dt (by omega), e, Option.bind_some, grd_pos (by simp; omega), w64_id (by omega) (by omega)]
    rw [show ((d + 1 : Nat) : Int) - 1 = (d : Int) by omega]
theorem sensors_ok (c : l1Cur) (n : Int) (h : CG c n) (hn : n ≤ 1000000) : Gives (spec_l1Cur_sensors c) (n + 1000) (fun l => l.length ≤ 1000) := by
  obtain ⟨code, at', seed, u⟩ := c
  unfold spec_l1Cur_sensors
  refine gives_bind (pick_ok _ n _ h (by omega)) fun a1 c1 t1 s1 ha h => ?_
  dsimp only
  obtain ⟨d, hd⟩ : ∃ d : Nat, w64 (1 + a1) = (d : Int) := ⟨(1 + a1).toNat, by rw [w64_id (by omega) (by omega)]; omega⟩
  have hd2 : (d : Int) ≤ 6 := by rw [← hd, w64_id (by omega) (by omega)]; omega
  obtain ⟨c2, t2, s2, acc2, e2, h2, l2⟩ := sensors_loop1 d c1 t1 s1 [] _ h (by omega) (by simp; omega) (by omega)
  rw [hd, e2, Option.bind_some]
  have l2 : acc2.length ≤ 20 := by simp at l2; omega
  dsimp only
  refine gives_bind (pick_ok _ _ _ h2 (by omega)) fun a1 c1 t1 s1 _ h => ?_
  dsimp only
  refine gives_cond (fun _ => ?_) (fun _ => gives_cond (fun _ => ?_) (fun _ => Gives.ret (h.up (by omega)) (by omega)))
  · refine gives_bind (among_ok _ _ _ (by simp) h (by omega)) fun a6 c1 t1 s1 _ h => ?_
    dsimp only
    exact gives_grd (by simp; omega) (Gives.ret (h.up (by omega)) (by simp; omega))
  · exact Gives.ret (h.up (by omega)) (by simp)
theorem drawVoteOf_ok (code : List Int) (hb : ∀ x ∈ code, 0 ≤ x ∧ x ≤ 255) (hl : code.length ≤ 1048576) : ∃ l, spec_DrawVoteOf code = some l ∧ l.length ≤ 1000 := by
  unfold spec_DrawVoteOf
  obtain ⟨l, ⟨c1, t1, s1, u1⟩, e1, h1, hh⟩ := sensors_ok _ 0 (cg0 code hb hl) (by omega)
  simp only [e1, Option.bind_some]
  exact ⟨l, rfl, hh⟩
theorem drawBroken_ok (code : List Int) (hb : ∀ x ∈ code, 0 ≤ x ∧ x ≤ 255) (hl : code.length ≤ 1048576) : ∃ l s, spec_DrawBrokenSensors code = some (l, s) ∧ l.length ≤ 1000 ∧ -1 ≤ s ∧ s ≤ 10 := by
  unfold spec_DrawBrokenSensors
  obtain ⟨l, ⟨c1, t1, s1, u1⟩, e1, h1, hh⟩ := sensors_ok _ 0 (cg0 code hb hl) (by omega)
  simp only [e1, Option.bind_some]
  obtain ⟨v, ⟨c2, t2, s2, u2⟩, e2, h2, hv⟩ := among_ok (c1, t1, s1, ()) _ [(0 : Int), (1 : Int), (3 : Int), (10 : Int), ((-1) : Int)] (by simp) h1 (by omega)
  simp only [e2, Option.bind_some]
  refine ⟨l, v, rfl, hh, ?_⟩
  simp only [List.mem_cons, List.not_mem_nil, or_false] at hv
  omega
theorem drawGreatest_ok (code : List Int) (hb : ∀ x ∈ code, 0 ≤ x ∧ x ≤ 255) (hl : code.length ≤ 1048576) : ∃ on stop drop hold, spec_DrawGreatestFree code = some (on, stop, drop, hold, ()) := by
  unfold spec_DrawGreatestFree spec_DrawIsWindRule
  obtain ⟨⟨on, stop, drop, hold, u⟩, ⟨c1, t1, s1, u1⟩, e1, h1, _⟩ := windRule_ok _ 0 (cg0 code hb hl) (by omega)
  simp only [e1, Option.bind_some]
  exact ⟨_, _, _, _, rfl⟩
theorem drawCompare_ok (code : List Int) (hb : ∀ x ∈ code, 0 ≤ x ∧ x ≤ 255) (hl : code.length ≤ 1048576) : ∃ a b c d e f g h l, spec_DrawCompareRules code = some ((a, b, c, d, ()), (e, f, g, h, ()), l) ∧ l.length ≤ 1000 := by
  unfold spec_DrawCompareRules
  obtain ⟨⟨on, stop, drop, hold, u⟩, ⟨c1, t1, s1, u1⟩, e1, h1, _⟩ := windRule_ok _ 0 (cg0 code hb hl) (by omega)
  simp only [e1, Option.bind_some]
  obtain ⟨⟨on2, stop2, drop2, hold2, u2⟩, ⟨c2, t2, s2, u3⟩, e2, h2, _⟩ := windRule_ok (c1, t1, s1, ()) _ h1 (by omega)
  simp only [e2, Option.bind_some]
  obtain ⟨l, ⟨c3, t3, s3, u4⟩, e3, h3, hl⟩ := votes_ok (c2, t2, s2, ()) _ h2 (by omega)
  simp only [e3, Option.bind_some]
  exact ⟨_, _, _, _, _, _, _, _, _, rfl, hl⟩
theorem drawTime_ok (code : List Int) (hb : ∀ x ∈ code, 0 ≤ x ∧ x ≤ 255) (hl : code.length ≤ 1048576) : ∃ a b c d l, spec_DrawTimeStopped code = some ((a, b, c, d, ()), l) ∧ l.length ≤ 1000 := by
  unfold spec_DrawTimeStopped
  obtain ⟨⟨on, stop, drop, hold, u⟩, ⟨c1, t1, s1, u1⟩, e1, h1, _⟩ := windRule_ok _ 0 (cg0 code hb hl) (by omega)
  simp only [e1, Option.bind_some]
  obtain ⟨l, ⟨c3, t3, s3, u4⟩, e3, h3, hl⟩ := votes_ok (c1, t1, s1, ()) _ h1 (by omega)
  simp only [e3, Option.bind_some]
  exact ⟨_, _, _, _, _, rfl, hl⟩
/-! ### Comparing -/
def cntG (x y : List Int) : Nat → Nat
  | 0 => 0
  | k + 1 => if y.getD k 0 < x.getD k 0 then cntG x y k + 1 else cntG x y k
theorem cntG_two (x y : List Int) : ∀ k, cntG x y k + cntG y x k ≤ k
  | 0 => Nat.le_refl _
  | k + 1 => by
    have := cntG_two x y k
    simp only [cntG]
    split <;> split <;> omega
theorem cntG_le (x y : List Int) : ∀ k, cntG x y k ≤ k := fun k => by have := cntG_two x y k; omega
theorem cntG_self (x : List Int) : ∀ k, cntG x x k = 0
  | 0 => rfl
  | k + 1 => by simp only [cntG]; rw [if_neg (by omega), cntG_self x k]
theorem compare_loop (x y : List Int) (hx : x.length ≤ 1048576) (hy : y.length = x.length) : iter (fun s => impl_CompareRules_loop1 s.1 s.2.1 s.2.2.1 s.2.2.2.1 s.2.2.2.2) ((0 : Int), (x.length : Int), (0 : Int), x, y) = some (cntG x y x.length : Int) :=
  iter_for x.length (fun k => ((cntG x y k : Int), (x.length : Int), (k : Int), x, y)) (fun k hk => by
    show impl_CompareRules_loop1 (cntG x y k : Int) (x.length : Int) (k : Int) x y = _
    have := cntG_le x y k
    unfold impl_CompareRules_loop1
    rw [cond_dt (by omega), grd_pos (by omega), grd_pos (by omega), w64_nat (k := k) (by omega), w64_nat (k := cntG x y k) (by omega)]
    simp only [Int.toNat_natCast, cntG]
    by_cases hc : y.getD k 0 < x.getD k 0
    · rw [cond_dt hc, if_pos hc]
    · rw [cond_df hc, if_neg hc]) (by
    show impl_CompareRules_loop1 (cntG x y x.length : Int) (x.length : Int) (x.length : Int) x y = _
    unfold impl_CompareRules_loop1
    rw [cond_df (by omega)]) rfl
theorem compare_yes (a b : WindRule) (l : List Int) (h : l.length ≤ 1048576) (n : Int) (hn : impl_CompareRules a b l = some (n, true)) :
    ∃ x y : List Int, x.length = l.length ∧ y.length = l.length ∧ n = (cntG x y l.length : Int) ∧ impl_CompareRules b a l = some ((cntG y x l.length : Int), true) ∧ impl_CompareRules a a l = some (0, true) := by
  obtain ⟨⟨m, st⟩, r1, r2, hm⟩ := run_ok (a.1, a.2.1, a.2.2.1, a.2.2.2.1, ()) l h 0 0 (fun _ => rfl)
  obtain ⟨⟨m', st'⟩, r1', r2', hm'⟩ := run_ok (b.1, b.2.1, b.2.2.1, b.2.2.2.1, ()) l h 0 0 (fun _ => rfl)
  have hm : m.length = l.length := hm
  have hm' : m'.length = l.length := hm'
  have lab := compare_loop m m' (by omega) (by omega)
  have lba := compare_loop m' m (by omega) (by omega)
  have laa := compare_loop m m (by omega) rfl
  rw [cntG_self] at laa
  rw [hm] at lab laa
  rw [hm'] at lba
  unfold impl_CompareRules at hn ⊢
  rw [isWindRule_eq, isWindRule_eq, areVotes_eq l h, r2, r2'] at hn
  rw [isWindRule_eq, isWindRule_eq, areVotes_eq l h, r2, r2']
  simp only [Option.bind_some] at hn ⊢
  cases ha : ruleOk (a.1, a.2.1, a.2.2.1, a.2.2.2.1, ()) with
  | false => rw [ha] at hn; simp at hn
  | true =>
    cases hb : ruleOk (b.1, b.2.1, b.2.2.1, b.2.2.2.1, ()) with
    | false => rw [ha, hb] at hn; simp at hn
    | true =>
      cases hv : (l.all voteOk && decide ((l.length : Int) ≤ 50)) with
      | false => rw [ha, hb, hv] at hn; simp at hn
      | true =>
        rw [ha, hb, hv] at hn
        simp only [Bool.not_true, cond_false, hm, hm', lab, lba, laa, Option.bind_some] at hn ⊢
        refine ⟨m, m', hm, hm', ?_, rfl, rfl⟩
        simp only [Option.some.injEq, Prod.mk.injEq, and_true] at hn
        exact hn.symm
/-! ### The law -/
theorem voteLaw (a : List Int) (ha : a.length ≤ 1048576) : (impl_VoteOf a).bind (fun y3 => (spec_VoteOf a).bind fun y4 => some (y3, y4)) = some (if sens a then ((votV a, true), (votV a, true)) else ((0, false), (0, false))) := by
  unfold impl_VoteOf spec_VoteOf
  rw [voteOf_eq a ha, l12Sensors_eq a ha]
  cases hs : sens a with
  | false => rfl
  | true =>
    obtain ⟨h1, h2, h3⟩ := sens_out hs
    simp only [if_true, Option.bind_some, Bool.not_true, cond_false, l12Of_eq a ⟨h1, h2⟩]
theorem impl_VoteOf_eq (a : List Int) (ha : a.length ≤ 1048576) : impl_VoteOf a = some (if sens a then (votV a, true) else (0, false)) := by
  unfold impl_VoteOf
  rw [voteOf_eq a ha]
  cases sens a <;> rfl
theorem spec_VoteOf_eq (a : List Int) (ha : a.length ≤ 1048576) : spec_VoteOf a = some (if sens a then (votV a, true) else (0, false)) := by
  unfold spec_VoteOf
  rw [l12Sensors_eq a ha]
  cases hs : sens a with
  | false => rfl
  | true =>
    obtain ⟨h1, h2, h3⟩ := sens_out hs
    simp only [if_true, Option.bind_some, Bool.not_true, cond_false, l12Of_eq a ⟨h1, h2⟩]
theorem greatest_eq (on stop drop hold : Int) : impl_GreatestFree (on, stop, drop, hold, ()) = some (if ruleOk (on, stop, drop, hold, ()) then (w64 (on - 1), true) else (0, false)) ∧ spec_GreatestFree (on, stop, drop, hold, ()) = some (if ruleOk (on, stop, drop, hold, ()) then (w64 (on - 1), true) else (0, false)) := by
  unfold impl_GreatestFree spec_GreatestFree
  simp only [isWindRule_eq, l12Rule_eq, Option.bind_some]
  cases ruleOk (on, stop, drop, hold, ()) <;> exact ⟨rfl, rfl⟩
theorem nextWind_free {on stop drop hold : Int} (hr : ruleOk (on, stop, drop, hold, ()) = true) (v : Int) (hv : 0 ≤ v ∧ v ≤ 60) :
    ∃ y, impl_NextWind (on, stop, drop, hold, ()) ((0 : Int), (0 : Int), ()) v = some (y, true) ∧ (y.1 = 0 ↔ v < on) := by
  obtain ⟨q1, q2, q3, q4, q5, q6, q7⟩ := ruleOk_out hr
  unfold impl_NextWind impl_windOk
  simp only [isWindRule_eq, hr, within_eq, Option.bind_some, cond_true]
  have d1 : decide ((0 : Int) ≤ 0 ∧ (0 : Int) ≤ 2) = true := by decide
  have d2 : decide ((0 : Int) ≤ 0 ∧ (0 : Int) ≤ w64 (hold - 1)) = true := decide_eq_true ⟨by omega, by rw [w64_id (by omega) (by omega)]; omega⟩
  simp only [d1, d2, cond_true, decide_true, Bool.not_true, cond_false, decide_eq_true hv]
  unfold impl_WindRule_next
  by_cases h1 : stop ≤ v
  · simp only [cond_dt h1, Option.bind_some]
    exact ⟨_, rfl, by simp; omega⟩
  · by_cases h2 : on ≤ v
    · simp only [cond_df h1, cond_dt h2, decide_true, cond_true, Option.bind_some]
      exact ⟨_, rfl, by simp; omega⟩
    · simp only [cond_df h1, cond_df h2, decide_true, cond_true, Option.bind_some]
      exact ⟨_, rfl, by simp; omega⟩
theorem law_FnVotes (code : List Int) (hc : Ty.fit (.sl (.int .u8)) code) : laws_FnVotes code = some true := by
  have hl : code.length ≤ 1048576 := hc.1
  have hb : ∀ x ∈ code, 0 ≤ x ∧ x ≤ 255 := fun x hx => by
    have := hc.2 x hx
    exact this
  unfold laws_FnVotes laws_vBig
  simp only [Option.bind_some]
  by_cases hbig : (65536 : Int) < (code.length : Int)
  · rw [cond_dt hbig]
  rw [cond_df hbig]
  obtain ⟨a, ea, la⟩ := drawVoteOf_ok code hb hl
  obtain ⟨b, sp, eb, lb, s1, s2⟩ := drawBroken_ok code hb hl
  obtain ⟨on, stop, drop, hold, eg⟩ := drawGreatest_ok code hb hl
  obtain ⟨p1, p2, p3, p4, q1, q2, q3, q4, vs, ec, lc⟩ := drawCompare_ok code hb hl
  obtain ⟨u1, u2, u3, u4, ws, et, lt⟩ := drawTime_ok code hb hl
  obtain ⟨⟨tn, tb⟩, t1, t2⟩ := timeStopped_ok (u1, u2, u3, u4, ()) ws (by omega)
  obtain ⟨⟨cn, cb⟩, c1, c2⟩ := compareRules_ok (p1, p2, p3, p4, ()) (q1, q2, q3, q4, ()) vs (by omega)
  obtain ⟨g1, g2⟩ := greatest_eq on stop drop hold
  simp only [ea, Option.bind_some, impl_VoteOf_eq a (by omega), spec_VoteOf_eq a (by omega)]
  have first : ∀ (X : Unit → Option Bool), joinx (cond (!decide True) (outm ((some false))) (cond (!((if sens a = true then (votV a, true) else ((0 : Int), false)).2 == (if sens a = true then (votV a, true) else ((0 : Int), false)).2)) (outm ((some false))) (cond (if sens a = true then (votV a, true) else ((0 : Int), false)).2 (cond (!decide ((if sens a = true then (votV a, true) else ((0 : Int), false)).1 = (60 : Int))) ((laws_vHas a (if sens a = true then (votV a, true) else ((0 : Int), false)).1).bind fun y5 => (cond (!y5) (outm ((some false))) ((some (.go ()))))) ((some (.go ())))) ((some (.go ())))))) X = X () := by
    intro X
    rw [cond_ndt trivial, beq_self_eq_true, Bool.not_true, cond_false]
    cases hs : sens a with
    | false => exact joinx_go ..
    | true =>
      simp only [if_true, cond_true]
      obtain ⟨h1, h2, h3⟩ := sens_out hs
      by_cases h6 : votV a = 60
      · rw [cond_ndt h6]; exact joinx_go ..
      · rw [cond_ndf h6]
        rcases votV_mem a ⟨h1, h2⟩ with e | ⟨e, _⟩
        · exact absurd e h6
        · rw [vHas_eq a _ (by omega) e]; exact joinx_go ..
  refine (first _).trans ?_
  simp only [eb, Option.bind_some]
  have tail : (spec_DrawGreatestFree code).bind (fun y20 => ((impl_GreatestFree (y20.1, y20.2.1, y20.2.2.1, y20.2.2.2.1, ())).bind fun y21 => ((spec_GreatestFree (y20.1, y20.2.1, y20.2.2.1, y20.2.2.2.1, ())).bind fun y22 => (cond (!decide (y21.1 = y22.1)) ((some false)) (cond (!(y21.2 == y22.2)) ((some false)) (joinx (cond y21.2 ((impl_NextWind (y20.1, y20.2.1, y20.2.2.1, y20.2.2.2.1, ()) ((0 : Int), (0 : Int), ()) y21.1).bind fun y23 => ((impl_NextWind (y20.1, y20.2.1, y20.2.2.1, y20.2.2.2.1, ()) ((0 : Int), (0 : Int), ()) (w64 (y21.1 + (1 : Int)))).bind fun y24 => (cond (!y23.2) (outm ((some false))) (cond (!decide (y23.1.1 = (0 : Int))) (outm ((some false))) (cond (!y24.2) (outm ((some false))) (cond (decide (y24.1.1 = (0 : Int))) (outm ((some false))) ((some (.go ()))))))))) ((some (.go ())))) (fun (_ : Unit) => ((spec_DrawCompareRules code).bind fun y26 => ((impl_CompareRules (y26.1.1, y26.1.2.1, y26.1.2.2.1, y26.1.2.2.2.1, ()) (y26.2.1.1, y26.2.1.2.1, y26.2.1.2.2.1, y26.2.1.2.2.2.1, ()) y26.2.2).bind fun y27 => ((spec_CompareRules (y26.1.1, y26.1.2.1, y26.1.2.2.1, y26.1.2.2.2.1, ()) (y26.2.1.1, y26.2.1.2.1, y26.2.1.2.2.1, y26.2.1.2.2.2.1, ()) y26.2.2).bind fun y28 => (cond (!decide (y27.1 = y28.1)) ((some false)) (cond (!(y27.2 == y28.2)) ((some false)) (joinx (cond y27.2 ((impl_CompareRules (y26.2.1.1, y26.2.1.2.1, y26.2.1.2.2.1, y26.2.1.2.2.2.1, ()) (y26.1.1, y26.1.2.1, y26.1.2.2.1, y26.1.2.2.2.1, ()) y26.2.2).bind fun y29 => ((impl_CompareRules (y26.1.1, y26.1.2.1, y26.1.2.2.1, y26.1.2.2.2.1, ()) (y26.1.1, y26.1.2.1, y26.1.2.2.1, y26.1.2.2.2.1, ()) y26.2.2).bind fun y30 => (cond (!y29.2) (outm ((some false))) (cond (decide ((y26.2.2.length : Int) < (w64 (y27.1 + y29.1)))) (outm ((some false))) (cond (!y30.2) (outm ((some false))) (cond (!decide (y30.1 = (0 : Int))) (outm ((some false))) ((some (.go ()))))))))) ((some (.go ())))) (fun (_ : Unit) => ((spec_DrawTimeStopped code).bind fun y32 => ((impl_TimeStopped (y32.1.1, y32.1.2.1, y32.1.2.2.1, y32.1.2.2.2.1, ()) y32.2).bind fun y33 => ((spec_TimeStopped (y32.1.1, y32.1.2.1, y32.1.2.2.1, y32.1.2.2.2.1, ()) y32.2).bind fun y34 => (cond (decide (y33.1 = y34.1)) ((some (y33.2 == y34.2))) ((some false)))))))))))))))))))) = some true := by
    simp only [eg, ec, et, Option.bind_some, g1, g2, c1, c2, t1, t2, decide_true, Bool.not_true, cond_false, cond_true, beq_self_eq_true]
    have third : ∀ (X : Unit → Option Bool), joinx (cond cb ((impl_CompareRules (q1, q2, q3, q4, ()) (p1, p2, p3, p4, ()) vs).bind fun y29 => ((impl_CompareRules (p1, p2, p3, p4, ()) (p1, p2, p3, p4, ()) vs).bind fun y30 => (cond (!y29.2) (outm ((some false))) (cond (decide ((vs.length : Int) < (w64 (cn + y29.1)))) (outm ((some false))) (cond (!y30.2) (outm ((some false))) (cond (!decide (y30.1 = (0 : Int))) (outm ((some false))) ((some (.go ()))))))))) ((some (.go ())))) X = X () := by
      intro X
      cases hcb : cb with
      | false => exact joinx_go ..
      | true =>
        subst hcb
        obtain ⟨x, y, hx, hy, hn, e1, e2⟩ := compare_yes (p1, p2, p3, p4, ()) (q1, q2, q3, q4, ()) vs (by omega) cn c2
        have h2 := cntG_two x y vs.length
        simp only [cond_true, e1, e2, Option.bind_some, Bool.not_true, cond_false]
        rw [cond_df (by rw [hn, w64_id (by omega) (by omega)]; omega), cond_ndt trivial]
        exact joinx_go ..
    have second : ∀ (X : Unit → Option Bool), joinx (cond (if ruleOk (on, stop, drop, hold, ()) = true then (w64 (on - 1), true) else ((0 : Int), false)).2 ((impl_NextWind (on, stop, drop, hold, ()) ((0 : Int), (0 : Int), ()) (if ruleOk (on, stop, drop, hold, ()) = true then (w64 (on - 1), true) else ((0 : Int), false)).1).bind fun y23 => ((impl_NextWind (on, stop, drop, hold, ()) ((0 : Int), (0 : Int), ()) (w64 ((if ruleOk (on, stop, drop, hold, ()) = true then (w64 (on - 1), true) else ((0 : Int), false)).1 + (1 : Int)))).bind fun y24 => (cond (!y23.2) (outm ((some false))) (cond (!decide (y23.1.1 = (0 : Int))) (outm ((some false))) (cond (!y24.2) (outm ((some false))) (cond (decide (y24.1.1 = (0 : Int))) (outm ((some false))) ((some (.go ()))))))))) ((some (.go ())))) X = X () := by
      intro X
      cases hr : ruleOk (on, stop, drop, hold, ()) with
      | false => exact joinx_go ..
      | true =>
        obtain ⟨r1, r2, r3, r4, r5, r6, r7⟩ := ruleOk_out hr
        simp only [if_true, cond_true]
        have w1 : w64 (on - 1) = on - 1 := w64_id (by omega) (by omega)
        have w2 : w64 (on - 1 + 1) = on := by rw [w64_id (by omega) (by omega)]; omega
        rw [w1, w2]
        obtain ⟨y, e1, h1⟩ := nextWind_free hr (on - 1) (by omega)
        obtain ⟨z, e2, h2⟩ := nextWind_free hr on (by omega)
        simp only [e1, e2, Option.bind_some, Bool.not_true, cond_false]
        rw [cond_ndt (h1.2 (by omega)), cond_df (fun h => by have := h2.1 h; omega)]
        exact joinx_go ..
    simp only [second, third]
  by_cases hs : sens b = true ∧ 0 ≤ sp
  · obtain ⟨e1, e2⟩ := broken_yes b hs.1 sp hs.2
    have hw : w64 (sp + 1) = sp + 1 := w64_id (by omega) (by omega)
    obtain ⟨e3, e4⟩ := broken_yes b hs.1 (sp + 1) (by omega)
    have hle := brk_le b (votV b) sp b.length
    have hle2 := brk_le b (votV b) (sp + 1) b.length
    simp only [e1, e2, Option.bind_some, Sum.elim_inr, beq_self_eq_true, Bool.not_true, cond_false, cond_true, vInts_eq _ (show (brk b (votV b) sp b.length).length ≤ 1048576 by omega), hw, e3, vWithin_eq _ _ (show (brk b (votV b) (sp + 1) b.length).length ≤ 1000000 by omega) (show (brk b (votV b) sp b.length).length ≤ 1000000 by omega) (fun x hx => brk_sub b (votV b) sp x _ hx), joinx_go]
    exact tail
  · obtain ⟨e1, e2⟩ := broken_no b (by omega) sp hs
    simp only [e1, e2, Option.bind_some, Sum.elim_inl, beq_self_eq_true, Bool.not_true, cond_false, vInts_eq [] (by simp), joinx_go]
    exact tail
end Go.Proofs.Ytpopcdnjnligiaa
