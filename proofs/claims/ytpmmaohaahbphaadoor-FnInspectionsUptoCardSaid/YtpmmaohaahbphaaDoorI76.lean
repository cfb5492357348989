/-
  Plain laws of a condition that is added, and of one condition that is not met.
-/
import Derived.Test.YtpmmaohaahbphaaDoorI75
namespace Go.Proofs.YtpmmaohaahbphaaDoor
open Go.RowKit

theorem rInts_eq (l : List Int) (h : l.length ≤ 1048576) : laws_rInts l l = some true := by
  unfold laws_rInts
  rw [cond_ndt rfl]
  have H : iter (fun s => laws_rInts_loop1 l l s) (0 : Int) = some (Sum.inr ()) :=
    iter_for l.length (fun k => (k : Int)) (fun k hk => by
      show laws_rInts_loop1 l l (k : Int) = _
      unfold laws_rInts_loop1
      rw [cond_dt (by omega), grd_pos (by omega), grd_pos (by omega), cond_ndt rfl, w64_nat (by omega)]) (by
      show laws_rInts_loop1 l l (l.length : Int) = _
      unfold laws_rInts_loop1
      rw [cond_df (by omega)]) rfl
  rw [H]; rfl
theorem rTable_eq (l : List (List Int)) (h : l.length ≤ 1048576) (hr : ∀ r ∈ l, r.length ≤ 1048576) : laws_rTable l l = some true := by
  unfold laws_rTable
  rw [cond_ndt rfl]
  have H : iter (fun s => laws_rTable_loop1 l l s) (0 : Int) = some (Sum.inr ()) :=
    iter_for l.length (fun k => (k : Int)) (fun k hk => by
      show laws_rTable_loop1 l l (k : Int) = _
      unfold laws_rTable_loop1
      have hm : l.getD k [] ∈ l := by rw [getD_eq l k _ hk]; exact List.getElem_mem hk
      rw [cond_dt (by omega), grd_pos (by omega), grd_pos (by omega), Int.toNat_natCast, rInts_eq _ (hr _ hm), Option.bind_some, w64_nat (by omega)]
      rfl) (by
      show laws_rTable_loop1 l l (l.length : Int) = _
      unfold laws_rTable_loop1
      rw [cond_df (by omega)]) rfl
  rw [H]; rfl
theorem same_C (r : Condition) : (decide (r.1 = r.1) && (decide (r.2.1 = r.2.1) && (decide (r.2.2.1 = r.2.2.1) && (decide (r.2.2.2.1 = r.2.2.2.1) && (decide (r.2.2.2.2.1 = r.2.2.2.2.1) && true))))) = true := by simp
theorem rConditions_eq (l : List Condition) (h : l.length ≤ 1048576) : laws_rConditions l l = some true := by
  unfold laws_rConditions
  rw [cond_ndt rfl]
  have H : iter (fun s => laws_rConditions_loop1 l l s) (0 : Int) = some (Sum.inr ()) :=
    iter_for l.length (fun k => (k : Int)) (fun k hk => by
      show laws_rConditions_loop1 l l (k : Int) = _
      unfold laws_rConditions_loop1
      rw [cond_dt (by omega), grd_pos (by omega), grd_pos (by omega), same_C, w64_nat (by omega)]; rfl) (by
      show laws_rConditions_loop1 l l (l.length : Int) = _
      unfold laws_rConditions_loop1
      rw [cond_df (by omega)]) rfl
  rw [H]; rfl

/-! ### Where a condition belongs -/
theorem cmpN_eq (a b : Condition) : impl_compareNumbers a b = some (if a.1 < b.1 then -1 else if b.1 < a.1 then 1 else 0) := by
  unfold impl_compareNumbers cmp_Compare_int_ cmp_isNaN_int_
  simp only [decide_true, Bool.not_true, Option.bind_some, cond_false]
  by_cases h1 : a.1 < b.1
  · rw [cond_dt h1, if_pos h1]; rfl
  · rw [cond_df h1, if_neg h1]
    by_cases h2 : b.1 < a.1
    · rw [cond_dt h2, if_pos h2]; rfl
    · rw [cond_df h2, if_neg h2]; rfl
/-- The first place whose number is not smaller. -/
structure Place (l : List Condition) (c : Condition) (p : Nat) : Prop where
  le : p ≤ l.length
  lo : ∀ k, k < p → (l.getD k d_Condition).1 < c.1
  hi : ∀ k, p ≤ k → k < l.length → c.1 ≤ (l.getD k d_Condition).1
theorem Place.eq {l : List Condition} {c : Condition} {p q : Nat} (h : Place l c p) (g : Place l c q) : p = q := by
  rcases Nat.lt_trichotomy p q with e | e | e
  · have a := h.hi p (Nat.le_refl _) (by have := g.le; omega)
    have b := g.lo p e
    omega
  · exact e
  · have a := g.hi q (Nat.le_refl _) (by have := h.le; omega)
    have b := h.lo q e
    omega
theorem mid_eq (i j : Nat) (h : i + j ≤ 1000000) : w64 (Int.fdiv (wu64 (w64 ((i : Int) + (j : Int)))) (2 ^ min (1 : Int).toNat (IntKind.u64).bits)) = (((i + j) / 2 : Nat) : Int) := by
  have e1 : w64 ((i : Int) + (j : Int)) = ((i + j : Nat) : Int) := by rw [w64_id (by omega) (by omega)]; omega
  have e2 : wu64 ((i + j : Nat) : Int) = ((i + j : Nat) : Int) := by
    show IntKind.u64.wrap _ = _
    rw [IntKind.wrap_u64]; omega
  have e3 : (2 : Int) ^ min (1 : Int).toNat (IntKind.u64).bits = 2 := by decide
  rw [e1, e2, e3]
  have e4 : Int.fdiv ((i + j : Nat) : Int) 2 = (((i + j) / 2 : Nat) : Int) := by
    rw [Int.fdiv_eq_ediv_of_nonneg _ (by omega)]; omega
  rw [e4, w64_id (by omega) (by omega)]
theorem rising_get {l : List Condition} (h : Rising l) {i j : Nat} (hij : i < j) (hj : j < l.length) : (l.getD i d_Condition).1 < (l.getD j d_Condition).1 := by
  unfold Rising at h
  rw [List.pairwise_iff_getElem] at h
  rw [getD_eq l i _ (by omega), getD_eq l j _ hj]
  exact h i j (by omega) hj hij
theorem bs_loop {l : List Condition} (c : Condition) (hr : Rising l) (hl : l.length ≤ 1000) : ∀ (n i j : Nat), j - i ≤ n → i ≤ j → j ≤ l.length → (∀ k, k < i → (l.getD k d_Condition).1 < c.1) → (∀ k, j ≤ k → k < l.length → c.1 ≤ (l.getD k d_Condition).1) →
    ∃ p : Nat, iter (fun s => slices_BinarySearchFunc___impl_Condition_impl_Condition_impl_Condition__i1_loop1 l c s.1 s.2) ((i : Int), (j : Int)) = some (p : Int) ∧ Place l c p
  | n, i, j, hn, hij, hj, lo, hi => by
    by_cases h : i < j
    · match n, hn with
      | 0, hn => omega
      | n + 1, hn =>
        have hm : (i + j) / 2 < l.length := by omega
        by_cases hc : (l.getD ((i + j) / 2) d_Condition).1 < c.1
        · have e : slices_BinarySearchFunc___impl_Condition_impl_Condition_impl_Condition__i1_loop1 l c (i : Int) (j : Int) = some (.go ((((i + j) / 2 + 1 : Nat) : Int), (j : Int))) := by
            unfold slices_BinarySearchFunc___impl_Condition_impl_Condition_impl_Condition__i1_loop1
            rw [cond_dt (by omega), grd_pos (by decide)]
            simp only [mid_eq i j (by omega), Int.toNat_natCast, eta_c]
            rw [grd_pos (by omega), cmpN_eq, Option.bind_some, if_pos hc, cond_dt (by decide), w64_nat (by omega)]
          obtain ⟨p, h1, h2⟩ := bs_loop c hr hl n ((i + j) / 2 + 1) j (by omega) (by omega) hj (fun k hk => by
            rcases Nat.lt_or_ge k ((i + j) / 2) with g | g
            · have := rising_get hr g hm; omega
            · rw [show k = (i + j) / 2 by omega]; exact hc) hi
          exact ⟨p, (iter_go (s := ((i : Int), (j : Int))) e).trans h1, h2⟩
        · have e : slices_BinarySearchFunc___impl_Condition_impl_Condition_impl_Condition__i1_loop1 l c (i : Int) (j : Int) = some (.go ((i : Int), (((i + j) / 2 : Nat) : Int))) := by
            unfold slices_BinarySearchFunc___impl_Condition_impl_Condition_impl_Condition__i1_loop1
            rw [cond_dt (by omega), grd_pos (by decide)]
            simp only [mid_eq i j (by omega), Int.toNat_natCast, eta_c]
            rw [grd_pos (by omega), cmpN_eq, Option.bind_some, if_neg hc]
            by_cases hd : c.1 < (l.getD ((i + j) / 2) d_Condition).1
            · rw [if_pos hd, cond_df (by decide)]
            · rw [if_neg hd, cond_df (by decide)]
          obtain ⟨p, h1, h2⟩ := bs_loop c hr hl n i ((i + j) / 2) (by omega) (by omega) (by omega) lo (fun k hk hk2 => by
            rcases Nat.lt_or_ge ((i + j) / 2) k with g | g
            · have := rising_get hr g hk2; omega
            · rw [show k = (i + j) / 2 by omega]; omega)
          exact ⟨p, (iter_go (s := ((i : Int), (j : Int))) e).trans h1, h2⟩
    · obtain rfl : i = j := by omega
      refine ⟨i, iter_out ?_, ⟨hj, lo, hi⟩⟩
      show slices_BinarySearchFunc___impl_Condition_impl_Condition_impl_Condition__i1_loop1 l c (i : Int) (i : Int) = _
      unfold slices_BinarySearchFunc___impl_Condition_impl_Condition_impl_Condition__i1_loop1
      rw [cond_df (by omega)]
theorem bs_eq {l : List Condition} (c : Condition) (hr : Rising l) (hl : l.length ≤ 1000) : ∃ (p : Nat) (b : Bool), slices_BinarySearchFunc___impl_Condition_impl_Condition_impl_Condition__i1 l c = some ((p : Int), b) ∧ Place l c p := by
  unfold slices_BinarySearchFunc___impl_Condition_impl_Condition_impl_Condition__i1
  obtain ⟨p, h1, h2⟩ := bs_loop c hr hl l.length 0 l.length (by omega) (by omega) (Nat.le_refl _) (fun k hk => by omega) (fun k hk hk2 => by omega)
  have h1 : iter (fun s => slices_BinarySearchFunc___impl_Condition_impl_Condition_impl_Condition__i1_loop1 l c s.1 s.2) ((0 : Int), (l.length : Int)) = some (p : Int) := h1
  rw [h1, Option.bind_some]
  by_cases h : (p : Int) < (l.length : Int)
  · rw [cond_dt h, grd_pos (by omega), cmpN_eq, Option.bind_some]
    exact ⟨p, _, rfl, h2⟩
  · rw [cond_df h]
    exact ⟨p, _, rfl, h2⟩
theorem sloop_add {l : List Condition} (c : Condition) (hr : Rising l) (hl : l.length ≤ 1000) : ∀ (n k : Nat), k + n = l.length → (∀ i, i < k → (l.getD i d_Condition).1 < c.1) → ∃ p : Nat, iter (fun s => spec_AddCondition_loop1 l c s) (k : Int) = some (p : Int) ∧ Place l c p
  | 0, k, hk, lo => by
    refine ⟨k, iter_out ?_, ⟨by omega, lo, fun i h1 h2 => by omega⟩⟩
    show spec_AddCondition_loop1 l c (k : Int) = _
    unfold spec_AddCondition_loop1
    rw [cond_df (by omega)]
  | n + 1, k, hk, lo => by
    by_cases hc : (l.getD k d_Condition).1 < c.1
    · obtain ⟨p, h1, h2⟩ := sloop_add c hr hl n (k + 1) (by omega) (fun i hi => by
        rcases Nat.lt_or_ge i k with g | g
        · exact lo i g
        · rw [show i = k by omega]; exact hc)
      refine ⟨p, (iter_go (s := (k : Int)) ?_).trans h1, h2⟩
      show spec_AddCondition_loop1 l c (k : Int) = _
      unfold spec_AddCondition_loop1
      rw [cond_dt (by omega), grd_pos (by omega), Int.toNat_natCast, cond_dt hc, w64_nat (by omega)]
    · refine ⟨k, iter_out ?_, ⟨by omega, lo, fun i h1 h2 => ?_⟩⟩
      · show spec_AddCondition_loop1 l c (k : Int) = _
        unfold spec_AddCondition_loop1
        rw [cond_dt (by omega), grd_pos (by omega), Int.toNat_natCast, cond_df hc]
      · rcases Nat.lt_or_ge k i with g | g
        · have := rising_get hr g h2; omega
        · rw [show i = k by omega]; omega
theorem LC_ins {m : Nat} {l : List Condition} {c : Condition} (h : LC m l) (hc : SC c) (p : Nat) : LC (m + 1) (l.take p ++ ([c] ++ l.drop p)) := by
  refine ⟨?_, fun r hr => ?_⟩
  · have := h.1
    simp only [List.length_append, List.length_take, List.length_cons, List.length_nil, List.length_drop]
    omega
  · rcases List.mem_append.1 hr with e | e
    · exact h.2 r (List.mem_of_mem_take e)
    · rcases List.mem_append.1 e with e | e
      · rw [List.mem_singleton.1 e]; exact hc
      · exact h.2 r (List.mem_of_mem_drop e)
theorem add_both {l : List Condition} {c : Condition} (h : LC 20 l) (hc : SC c) :
    (impl_AddCondition l c = some (Sum.inl l) ∧ spec_AddCondition l c = some ([], false)) ∨ ∃ m : List Condition, m.length ≤ 100 ∧ impl_AddCondition l c = some (Sum.inr (m, l)) ∧ spec_AddCondition l c = some (m, true) := by
  have h1000 : LC 1000 l := ⟨by have := h.1; omega, h.2⟩
  unfold impl_AddCondition spec_AddCondition
  rw [are_impl h1000, are_spec h1000]
  simp only [Option.bind_some]
  cases hg : goodL l with
  | false => exact .inl ⟨rfl, rfl⟩
  | true =>
    obtain ⟨g1, g2, g3⟩ := good_out hg
    simp only [Bool.not_true, cond_false, eta_c]
    obtain ⟨p, b, e1, hp⟩ := bs_eq c g2 (by omega)
    obtain ⟨q, e2, hq⟩ := sloop_add c g2 (by omega) l.length 0 (by omega) (fun i hi => by omega)
    have e2 : iter (fun s => spec_AddCondition_loop1 l c s) (0 : Int) = some (q : Int) := e2
    obtain rfl := hp.eq hq
    have hle := hp.le
    have ecl : slices_Clone___impl_Condition_impl_Condition_ l = some (l, l) := by
      unfold slices_Clone___impl_Condition_impl_Condition_
      rw [grd_pos (by simp only [List.length_nil]; omega)]; rfl
    have eins : slices_Insert___impl_Condition_impl_Condition_ l (p : Int) [c] = some (l.take p ++ ([c] ++ l.drop p)) := by
      unfold slices_Insert___impl_Condition_impl_Condition_ insL
      rw [grd_pos ⟨⟨by omega, by omega⟩, by omega, rfl⟩, Int.toNat_natCast]
    have s1 : lsub l (0 : Int) (p : Int) = l.take p := by
      unfold lsub
      rw [show ((p : Int) - 0).toNat = p by omega]; rfl
    have s2 : lsub l (p : Int) (l.length : Int) = l.drop p := by
      unfold lsub
      rw [show ((l.length : Int) - (p : Int)).toNat = l.length - p by omega, Int.toNat_natCast]
      exact List.take_of_length_le (by rw [List.length_drop]; exact Nat.le_refl _)
    have s3 : (([] : List Condition) ++ l.take p ++ [c]) ++ l.drop p = l.take p ++ ([c] ++ l.drop p) := by simp
    have hL := LC_ins h hc p
    have hL1000 : LC 1000 (l.take p ++ ([c] ++ l.drop p)) := ⟨by have := hL.1; omega, hL.2⟩
    rw [e1, e2]
    simp only [Option.bind_some, ecl, eins, s1, s2, s3, are_impl hL1000, are_spec hL1000]
    rw [grd_pos ⟨by omega, by omega, by omega⟩, grd_pos (by simp only [List.length_nil, List.length_take]; omega), grd_pos (by simp only [List.length_append, List.length_nil, List.length_cons, List.length_take]; omega), grd_pos (by omega),
      grd_pos (by simp only [List.length_append, List.length_nil, List.length_cons, List.length_take, List.length_drop]; omega)]
    cases goodL (l.take p ++ ([c] ++ l.drop p)) with
    | false => exact .inl ⟨rfl, rfl⟩
    | true => exact .inr ⟨_, by have := hL.1; omega, rfl, rfl⟩

/-! ### One condition -/
theorem good_one {x : Condition} (h : okC x = true) : goodL [x] = true := by
  unfold goodL okAt
  simp [h]
theorem unmet_one {x : Condition} {day : Int} (hs : SC x) (h : okC x = true) (hd : 0 ≤ day ∧ day ≤ 9999) : impl_UnmetOn [x] day = some (Sum.inr (if endC x < day then [x.1] else [])) := by
  have hLC : LC 1000 [x] := ⟨by simp, fun r hr => by rw [List.mem_singleton.1 hr]; exact hs⟩
  unfold impl_UnmetOn impl_isDate
  rw [are_impl hLC, good_one h, within_eq]
  simp only [Option.bind_some, Bool.not_true, cond_false]
  rw [cond_ndt hd]
  have ho := okC_out h
  have H : iter (fun s => impl_UnmetOn_loop1 [x] day s.1 s.2) ((0 : Int), ([] : List Int)) = some (if endC x < day then [x.1] else []) := by
    refine iter_for 1 (fun k => ((k : Int), if k = 0 then [] else if endC x < day then [x.1] else [])) (fun k hk => ?_) ?_ rfl
    · obtain rfl : k = 0 := by omega
      show impl_UnmetOn_loop1 [x] day (0 : Int) [] = _
      unfold impl_UnmetOn_loop1
      have hx1 : (([x] : List Condition).length : Int) = 1 := rfl
      rw [cond_dt (show (0 : Int) < (([x] : List Condition).length : Int) by rw [hx1]; decide), grd_pos (show (0 : Int) ≤ 0 ∧ (0 : Int) < (([x] : List Condition).length : Int) by rw [hx1]; decide)]
      have e : ([x] : List Condition).getD ((0 : Int).toNat) d_Condition = x := rfl
      simp only [e, eta_c]
      rw [end_impl ho, Option.bind_some]
      by_cases hm : endC x < day
      · rw [cond_dt hm, grd_pos (by simp only [List.length_nil, List.length_cons]; omega), if_neg (by decide), if_pos hm]; rfl
      · rw [cond_df hm, if_neg (by decide), if_neg hm]; rfl
    · show impl_UnmetOn_loop1 [x] day (1 : Int) _ = _
      unfold impl_UnmetOn_loop1
      have hx1 : (([x] : List Condition).length : Int) = 1 := rfl
      rw [cond_df (show ¬ ((1 : Int) < (([x] : List Condition).length : Int)) by rw [hx1]; decide)]
      rfl
  rw [H]; rfl
theorem tail7 (A B : List UInt8) (hB : B.length = 7) (hA : A.length ≤ 1000000) : bsub (bs (A ++ B)) (w64 (((bs (A ++ B)).size : Int) - (7 : Int))) ((bs (A ++ B)).size : Int) = bs B := by
  rw [bs_size, bsub_bs]
  have hl : (A ++ B).length = A.length + 7 := by rw [List.length_append, hB]
  rw [hl, w64_id (by omega) (by omega), show (((A.length + 7 : Nat) : Int) - 7).toNat = A.length by omega, Int.toNat_natCast, List.drop_left, List.take_of_length_le (by omega)]
theorem tx_tail (x : Condition) (day : Int) (h : okC x = true) (hs : SC x) : (bs (txC x day)).size ≤ 1000 ∧ 7 ≤ (bs (txC x day)).size ∧
    (decide (bsub (bs (txC x day)) (w64 (((bs (txC x day)).size : Int) - (7 : Int))) ((bs (txC x day)).size : Int) = (ByteArray.mk #[110, 111, 116, 32, 109, 101, 116]))) = decide (endC x < day) := by
  have ho := okC_out h
  have h1 := ho.num; have h3 := ho.every
  have l1 : (Lib.decDigits x.1.toNat).length ≤ 2 := dec_length 1 x.1.toNat (by omega)
  have l2 : (Lib.decDigits x.2.2.1.toNat).length ≤ 4 := dec_length 3 x.2.2.1.toNat (by omega)
  have l3 : x.2.1.data.toList.length ≤ 100 := by rw [size_list]; exact hs
  by_cases hm : endC x < day
  · have e : txC x day = (Lib.decDigits x.1.toNat ++ ([46, 32] ++ (x.2.1.data.toList ++ ([32, 101, 118, 101, 114, 121, 32] ++ (Lib.decDigits x.2.2.1.toNat ++ [32, 100, 97, 121, 115, 58, 32]))))) ++ [110, 111, 116, 32, 109, 101, 116] := by
      unfold txC; rw [if_pos hm]; simp
    rw [e, tail7 _ _ rfl (by simp only [List.length_append, List.length_cons, List.length_nil]; omega)]
    refine ⟨by rw [bs_size]; simp only [List.length_append, List.length_cons, List.length_nil]; omega, by rw [bs_size]; simp only [List.length_append, List.length_cons, List.length_nil]; omega, ?_⟩
    rw [decide_eq_true hm]
    exact decide_eq_true rfl
  · have e : txC x day = (Lib.decDigits x.1.toNat ++ ([46, 32] ++ (x.2.1.data.toList ++ ([32, 101, 118, 101, 114, 121, 32] ++ (Lib.decDigits x.2.2.1.toNat ++ [32, 100, 97]))))) ++ [121, 115, 58, 32, 109, 101, 116] := by
      unfold txC; rw [if_neg hm]; simp
    rw [e, tail7 _ _ rfl (by simp only [List.length_append, List.length_cons, List.length_nil]; omega)]
    refine ⟨by rw [bs_size]; simp only [List.length_append, List.length_cons, List.length_nil]; omega, by rw [bs_size]; simp only [List.length_append, List.length_cons, List.length_nil]; omega, ?_⟩
    rw [decide_eq_false hm]
    refine decide_eq_false fun e => ?_
    have e2 := congrArg (fun s : ByteArray => s.data.toList) e
    have e2 : ([121, 115, 58, 32, 109, 101, 116] : List UInt8) = [110, 111, 116, 32, 109, 101, 116] := e2
    exact absurd e2 (by decide)
end Go.Proofs.YtpmmaohaahbphaaDoor
