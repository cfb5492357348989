/-
  What law FnDays asks of days.
-/
import Derived.Test.YtppiaacfnoifkaaM62b
namespace Go.Proofs.Ytppiaacfnoifkaa
open Go.RowKit

def upR (r : DayRow) : Int := r.2.1 - r.2.2.1
def leftK (l : List DayRow) : Nat → List Int
  | 0 => []
  | k + 1 => if 0 < sumK upR l (k + 1) then leftK l k ++ [(l.getD k d_DayRow).1] else leftK l k
theorem leftK_le (l : List DayRow) : ∀ k, (leftK l k).length ≤ k
  | 0 => by simp [leftK]
  | k + 1 => by
    have := leftK_le l k
    simp only [leftK]
    split <;> simp <;> omega
theorem left_ok (l : List DayRow) (h : Small l) : (spec_LeftBehind l = some ([], false) ∧ impl_LeftBehind l = some (Sum.inl ())) ∨
    okL l = true ∧ spec_LeftBehind l = some (leftK l l.length, true) ∧ impl_LeftBehind l = some (Sum.inr (leftK l l.length)) := by
  unfold spec_LeftBehind impl_LeftBehind
  rw [rows_eq l h, are_eq l h, Option.bind_some, Option.bind_some]
  cases ho : okL l with
  | false => exact .inl ⟨rfl, rfl⟩
  | true =>
    obtain ⟨hn, hr⟩ := okL_out ho
    have hu : ∀ k, k < l.length → ((0 ≤ (l.getD k d_DayRow).2.1 ∧ (l.getD k d_DayRow).2.1 ≤ 99999) ∧ (0 ≤ (l.getD k d_DayRow).2.2.1 ∧ (l.getD k d_DayRow).2.2.1 ≤ 99999)) := fun k hk => by
      obtain ⟨⟨_, h2⟩, ⟨h3, _⟩, _⟩ := nums_out (hr k hk)
      exact ⟨h2, h3⟩
    have hb := sumK_range upR l l.length (fun k hk => by have := hu k hk; unfold upR; omega)
    have key : ∀ k, k < l.length → sumK upR l (k + 1) = sumK upR l k + (l.getD k d_DayRow).2.1 - (l.getD k d_DayRow).2.2.1 := fun k _ => by
      simp only [sumK, upR]; omega
    have H1 : iter (fun s => spec_LeftBehind_loop1 l s.1 s.2.1 s.2.2) ((0 : Int), (0 : Int), ([] : List Int)) = some (leftK l l.length) :=
      iter_for l.length (fun k => (sumK upR l k, (k : Int), leftK l k)) (fun k hk => by
        show spec_LeftBehind_loop1 l (sumK upR l k) (k : Int) (leftK l k) = _
        have e1 := hb k (by omega)
        have e2 := hu k hk
        have e3 := leftK_le l k
        have e4 := key k hk
        unfold spec_LeftBehind_loop1
        rw [cond_dt (by omega), grd_pos (by omega), grd_pos (by omega), grd_pos (by omega), Int.toNat_natCast, w64_nat (by omega), w64_id (x := sumK upR l k + (l.getD k d_DayRow).2.1) (by omega) (by omega), w64_id (by omega) (by omega), ← e4]
        simp only [leftK]
        by_cases hp : 0 < sumK upR l (k + 1)
        · rw [cond_dt hp, if_pos hp, grd_pos (by simp; omega)]
        · rw [cond_df hp, if_neg hp]) (by
        show spec_LeftBehind_loop1 l _ (l.length : Int) _ = _
        unfold spec_LeftBehind_loop1
        rw [cond_df (by omega)]) rfl
    have H2 : iter (fun s => impl_LeftBehind_loop1 l s.1 s.2.1 s.2.2) ((0 : Int), (0 : Int), ([] : List Int)) = some (leftK l l.length) :=
      iter_for l.length (fun k => (sumK upR l k, (k : Int), leftK l k)) (fun k hk => by
        show impl_LeftBehind_loop1 l (sumK upR l k) (k : Int) (leftK l k) = _
        have e1 := hb k (by omega)
        have e2 := hu k hk
        have e3 := leftK_le l k
        have e4 := key k hk
        unfold impl_LeftBehind_loop1
        rw [cond_dt (by omega), grd_pos (by omega), Int.toNat_natCast, w64_nat (by omega), w64_id (x := (l.getD k d_DayRow).2.1 - (l.getD k d_DayRow).2.2.1) (by omega) (by omega), w64_id (by omega) (by omega),
          show sumK upR l k + ((l.getD k d_DayRow).2.1 - (l.getD k d_DayRow).2.2.1) = sumK upR l (k + 1) by omega]
        simp only [leftK]
        by_cases hp : 0 < sumK upR l (k + 1)
        · rw [cond_dt hp, if_pos hp, grd_pos (by simp; omega)]
        · rw [cond_df hp, if_neg hp]) (by
        show impl_LeftBehind_loop1 l _ (l.length : Int) _ = _
        unfold impl_LeftBehind_loop1
        rw [cond_df (by omega)]) rfl
    have e3 := leftK_le l l.length
    refine .inr ⟨rfl, ?_, ?_⟩
    · simp only [Bool.not_true, cond_false]; rw [H1]; rfl
    · simp only [Bool.not_true, cond_false]; rw [H2]; rfl
/-! ### Days are told apart -/
theorem okL_days {l : List DayRow} (h : okL l = true) : ∀ i j, i < j → j < l.length → (l.getD i d_DayRow).1 < (l.getD j d_DayRow).1 := by
  have hs : ∀ k, 0 < k → k < l.length → (l.getD (k - 1) d_DayRow).1 < (l.getD k d_DayRow).1 := fun k h0 hk => by
    unfold okL at h
    simp only [Bool.and_eq_true, List.all_eq_true, List.mem_range] at h
    have := h.1 k hk
    unfold okK at this
    simp only [Bool.and_eq_true, Bool.not_eq_true', Bool.and_eq_false_iff, decide_eq_false_iff_not] at this
    have := this.2
    rcases this with h1 | h1
    · omega
    · simpa using h1
  intro i j
  induction j with
  | zero => intro h1; omega
  | succ j ih =>
    intro h1 h2
    have := hs (j + 1) (by omega) h2
    rw [Nat.add_sub_cancel] at this
    rcases Nat.lt_or_ge i j with h3 | h3
    · have := ih h3 (by omega); omega
    · obtain rfl : i = j := by omega
      exact this
theorem okL_same {l : List DayRow} (h : okL l = true) {i j : Nat} (hi : i < l.length) (hj : j < l.length) (e : (l.getD i d_DayRow).1 = (l.getD j d_DayRow).1) : i = j := by
  rcases Nat.lt_trichotomy i j with h1 | h1 | h1
  · have := okL_days h i j h1 hj; omega
  · exact h1
  · have := okL_days h j i h1 hi; omega
/-! ### What is in the sorted list -/
theorem mem_insR (x y : DayRow) (l : List DayRow) : y ∈ insR x l ↔ y = x ∨ y ∈ l := by
  unfold insR
  have := List.take_append_drop (posR x l l.length) l
  constructor
  · intro h
    simp only [List.mem_append, List.mem_cons] at h
    rcases h with h | h | h
    · exact .inr (List.mem_of_mem_take h)
    · exact .inl h
    · exact .inr (List.mem_of_mem_drop h)
  · rintro (h | h)
    · simp [h]
    · rw [← this, List.mem_append] at h
      simp only [List.mem_append, List.mem_cons]
      rcases h with h | h
      · exact .inl h
      · exact .inr (.inr h)
theorem mem_srtK (f : List DayRow) (y : DayRow) : ∀ k, y ∈ srtK f k ↔ ∃ i, i < k ∧ y = f.getD i d_DayRow
  | 0 => by simp [srtK]
  | k + 1 => by
    simp only [srtK]
    rw [mem_insR, mem_srtK f y k]
    constructor
    · rintro (h | ⟨i, h1, h2⟩)
      · exact ⟨k, by omega, h⟩
      · exact ⟨i, by omega, h2⟩
    · rintro ⟨i, h1, h2⟩
      rcases Nat.lt_or_ge i k with h3 | h3
      · exact .inr ⟨i, h3, h2⟩
      · obtain rfl : i = k := by omega
        exact .inl h2
theorem mem_filK (a : List DayRow) (y : DayRow) : ∀ k, y ∈ filK a k ↔ ∃ i, i < k ∧ y = a.getD i d_DayRow ∧ keepR y = true
  | 0 => by simp [filK]
  | k + 1 => by
    simp only [filK]
    have ih := mem_filK a y k
    cases hk : keepR (a.getD k d_DayRow) with
    | false =>
      rw [cond_false, ih]
      constructor
      · rintro ⟨i, h1, h2⟩; exact ⟨i, by omega, h2⟩
      · rintro ⟨i, h1, h2, h3⟩
        rcases Nat.lt_or_ge i k with h4 | h4
        · exact ⟨i, h4, h2, h3⟩
        · obtain rfl : i = k := by omega
          rw [h2, hk] at h3; cases h3
    | true =>
      rw [cond_true, List.mem_append, List.mem_singleton, ih]
      constructor
      · rintro (⟨i, h1, h2⟩ | h)
        · exact ⟨i, by omega, h2⟩
        · exact ⟨k, by omega, h, by rw [h]; exact hk⟩
      · rintro ⟨i, h1, h2, h3⟩
        rcases Nat.lt_or_ge i k with h4 | h4
        · exact .inl ⟨i, h4, h2, h3⟩
        · obtain rfl : i = k := by omega
          exact .inr h2
theorem mem_getD {α : Type} (l : List α) (y d : α) : y ∈ l ↔ ∃ i, i < l.length ∧ y = l.getD i d := by
  constructor
  · intro h
    obtain ⟨i, hi, e⟩ := List.getElem_of_mem h
    exact ⟨i, hi, by rw [getD_eq _ _ _ hi, e]⟩
  · rintro ⟨i, hi, e⟩
    rw [e, getD_eq _ _ _ hi]; exact List.getElem_mem _
abbrev sorted (l : List DayRow) : List DayRow := srtK (filK l l.length) (filK l l.length).length
theorem mem_sorted (l : List DayRow) (y : DayRow) : y ∈ sorted l ↔ ∃ i, i < l.length ∧ y = l.getD i d_DayRow ∧ keepR y = true := by
  unfold sorted
  rw [mem_srtK, ← mem_getD (filK l l.length) y d_DayRow, mem_filK]
theorem posR_drop (x : DayRow) (l : List DayRow) : ∀ k j, posR x l k ≤ j → j < k → (l.getD j d_DayRow).2.1 < x.2.1
  | 0, j, _, h => by omega
  | k + 1, j, h1, h2 => by
    simp only [posR] at h1
    split at h1
    · rename_i hc
      rcases Nat.lt_or_ge j k with h3 | h3
      · exact posR_drop x l k j h1 h3
      · obtain rfl : j = k := by omega
        exact hc
    · omega
theorem posR_take (x : DayRow) (l : List DayRow) : ∀ k, 0 < posR x l k → ¬ (l.getD (posR x l k - 1) d_DayRow).2.1 < x.2.1
  | 0, h => by simp [posR] at h
  | k + 1, h => by
    simp only [posR] at h ⊢
    split at h
    · rename_i hc; rw [if_pos hc]; exact posR_take x l k h
    · rename_i hc; rw [if_neg hc]; simpa using hc
/-- The greatest first. -/
abbrev Down (l : List DayRow) : Prop := l.Pairwise fun a b => b.2.1 ≤ a.2.1
theorem insR_down (x : DayRow) (l : List DayRow) (h : Down l) : Down (insR x l) := by
  unfold insR
  have hp := posR_le x l l.length
  have ht : ∀ a ∈ l.take (posR x l l.length), x.2.1 ≤ a.2.1 := fun a ha => by
    obtain ⟨i, hi, e⟩ := List.getElem_of_mem ha
    rw [List.length_take] at hi
    rw [List.getElem_take] at e
    have h0 : 0 < posR x l l.length := by omega
    have := posR_take x l l.length h0
    rw [getD_eq _ _ _ (by omega)] at this
    subst e
    rcases Nat.lt_or_ge i (posR x l l.length - 1) with h1 | h1
    · have := List.pairwise_iff_getElem.1 h i (posR x l l.length - 1) (by omega) (by omega) h1
      omega
    · have : i = posR x l l.length - 1 := by omega
      subst this
      omega
  have hd : ∀ b ∈ l.drop (posR x l l.length), b.2.1 ≤ x.2.1 := fun b hb => by
    obtain ⟨i, hi, e⟩ := List.getElem_of_mem hb
    rw [List.length_drop] at hi
    rw [List.getElem_drop] at e
    have := posR_drop x l l.length (posR x l l.length + i) (by omega) (by omega)
    rw [getD_eq _ _ _ (by omega), e] at this
    omega
  refine List.pairwise_append.2 ⟨h.sublist (List.take_sublist _ _), List.pairwise_cons.2 ⟨hd, h.sublist (List.drop_sublist _ _)⟩, fun a ha b hb => ?_⟩
  rcases List.mem_cons.1 hb with rfl | hb
  · exact ht a ha
  · have := ht a ha
    have := hd b hb
    omega
theorem srtK_down (f : List DayRow) : ∀ k, Down (srtK f k)
  | 0 => List.Pairwise.nil
  | k + 1 => insR_down _ _ (srtK_down f k)
theorem mem_outK (o : List DayRow) (x : Int) : ∀ n, x ∈ outK o n ↔ ∃ i, i < n ∧ x = (o.getD i d_DayRow).1
  | 0 => by simp [outK]
  | n + 1 => by
    simp only [outK]
    rw [List.mem_append, List.mem_singleton, mem_outK o x n]
    constructor
    · rintro (⟨i, h1, h2⟩ | h)
      · exact ⟨i, by omega, h2⟩
      · exact ⟨n, by omega, h⟩
    · rintro ⟨i, h1, h2⟩
      rcases Nat.lt_or_ge i n with h3 | h3
      · exact .inl ⟨i, h3, h2⟩
      · obtain rfl : i = n := by omega
        exact .inr h2
theorem best_most (l : List DayRow) (h : okL l = true) (c : Nat) (hc : c ≤ (sorted l).length) (i j : Nat) (hi : i < l.length) (hj : j < l.length) (ho : keepR (l.getD i d_DayRow) = true)
    (hn : (l.getD i d_DayRow).1 ∉ outK (sorted l) c) (hm : (l.getD j d_DayRow).1 ∈ outK (sorted l) c) : (l.getD i d_DayRow).2.1 ≤ (l.getD j d_DayRow).2.1 := by
  obtain ⟨q, hq, eq⟩ := (mem_outK _ _ _).1 hm
  have hqs : (sorted l).getD q d_DayRow ∈ sorted l := (mem_getD _ _ d_DayRow).2 ⟨q, by omega, rfl⟩
  obtain ⟨j', hj', ej, _⟩ := (mem_sorted l _).1 hqs
  rw [ej] at eq
  obtain rfl := okL_same h hj hj' eq
  obtain ⟨p, hp, ep⟩ := (mem_getD _ _ d_DayRow).1 ((mem_sorted l _).2 ⟨i, hi, rfl, ho⟩)
  have hpc : ¬ p < c := fun hlt => hn ((mem_outK _ _ _).2 ⟨p, hlt, by rw [← ep]⟩)
  have hq2 : q < (sorted l).length := by omega
  have := List.pairwise_iff_getElem.1 (srtK_down (filK l l.length) (filK l l.length).length) q p hq2 hp (by omega)
  rw [ep, ← ej, getD_eq _ _ _ hp, getD_eq _ _ _ (by omega)]
  exact this
/-! ### Loops of the law -/
theorem rInts_eq (l : List Int) (h : l.length ≤ 1048576) : laws_rInts l l = some true := by
  unfold laws_rInts
  rw [cond_ndt rfl]
  have H : iter (fun s => laws_rInts_loop1 l l s) (0 : Int) = some (Sum.inr ()) :=
    iter_for l.length (fun k => (k : Int)) (fun k hk => by
      show laws_rInts_loop1 l l (k : Int) = _
      unfold laws_rInts_loop1
      rw [cond_dt (by omega), grd_pos (by omega), grd_pos (by omega), cond_ndt rfl, w64_nat (by omega)]) (by
      show laws_rInts_loop1 l l (l.length : Int) = _
      unfold laws_rInts_loop1
      rw [cond_df (by omega)]) rfl
  rw [H]; rfl
theorem rHas_eq (l : List Int) (x : Int) (h : l.length ≤ 1048576) : laws_rHas l x = some (decide (x ∈ l)) := by
  unfold laws_rHas
  obtain ⟨r, e, hr⟩ := iter_ex (f := fun s => laws_rHas_loop1 l x s) (miss := (Sum.inr () : Unit ⊕ Unit)) l.length (fun k => decide (l.getD k 0 = x)) (fun _ => Sum.inl ()) (fun k => (k : Int)) (fun k hk => by
    show laws_rHas_loop1 l x (k : Int) = _
    unfold laws_rHas_loop1
    rw [cond_dt (by omega), grd_pos (by omega), Int.toNat_natCast, w64_nat (by omega)]
    cases decide (l.getD k 0 = x) <;> rfl) (by
    show laws_rHas_loop1 l x (l.length : Int) = _
    unfold laws_rHas_loop1
    rw [cond_df (by omega)]) (s := (0 : Int)) rfl
  rw [e]
  rcases hr with ⟨k, hk, hp, hb, rfl⟩ | ⟨hp, rfl⟩
  · have : x ∈ l := (mem_getD l x 0).2 ⟨k, hk, (of_decide_eq_true hp).symm⟩
    rw [decide_eq_true this]; rfl
  · have : x ∉ l := fun hx => by
      obtain ⟨k, hk, e⟩ := (mem_getD l x 0).1 hx
      have := hp k hk
      rw [decide_eq_false_iff_not] at this
      exact this e.symm
    rw [decide_eq_false this]; rfl
def lst (l : List DayRow) (d : List Int) : Nat → Int
  | 0 => 100000
  | k + 1 => cond (decide ((l.getD k d_DayRow).1 ∈ d)) (cond (decide ((l.getD k d_DayRow).2.1 < lst l d k)) (l.getD k d_DayRow).2.1 (lst l d k)) (lst l d k)
theorem lst_is (l : List DayRow) (d : List Int) : ∀ k, lst l d k = 100000 ∨ ∃ j, j < k ∧ (l.getD j d_DayRow).1 ∈ d ∧ lst l d k = (l.getD j d_DayRow).2.1
  | 0 => .inl rfl
  | k + 1 => by
    have up : (lst l d k = 100000 ∨ ∃ j, j < k ∧ (l.getD j d_DayRow).1 ∈ d ∧ lst l d k = (l.getD j d_DayRow).2.1) → (lst l d k = 100000 ∨ ∃ j, j < k + 1 ∧ (l.getD j d_DayRow).1 ∈ d ∧ lst l d k = (l.getD j d_DayRow).2.1) := by
      rintro (h | ⟨j, h1, h2⟩)
      · exact .inl h
      · exact .inr ⟨j, by omega, h2⟩
    have ih := up (lst_is l d k)
    simp only [lst]
    by_cases h1 : (l.getD k d_DayRow).1 ∈ d
    · rw [cond_dt h1]
      by_cases h2 : (l.getD k d_DayRow).2.1 < lst l d k
      · rw [cond_dt h2]; exact .inr ⟨k, by omega, h1, rfl⟩
      · rw [cond_df h2]; exact ih
    · rw [cond_df h1]; exact ih
theorem loop1_yes (m : Int) (d : List Int) (l : List DayRow) (h : l.length ≤ 1048576) (hd : d.length ≤ 1048576) :
    iter (fun s => laws_FnDays_loop1 s.1 s.2.1 s.2.2.1 s.2.2.2.1 s.2.2.2.2.1 s.2.2.2.2.2) (m, d, true, (100000 : Int), (0 : Int), l) = some (m, d, true, lst l d l.length, l) :=
  iter_for l.length (fun k => (m, d, true, lst l d k, (k : Int), l)) (fun k hk => by
    show laws_FnDays_loop1 m d true (lst l d k) (k : Int) l = _
    unfold laws_FnDays_loop1
    rw [cond_dt (by omega), cond_true, grd_pos (by omega), Int.toNat_natCast, rHas_eq d _ hd, Option.bind_some, w64_nat (by omega)]
    simp only [lst]
    by_cases h1 : (l.getD k d_DayRow).1 ∈ d
    · rw [cond_dt h1, cond_dt h1, grd_pos (by omega)]
      by_cases h2 : (l.getD k d_DayRow).2.1 < lst l d k
      · rw [cond_dt h2, cond_dt h2, grd_pos (by omega)]
      · rw [cond_df h2, cond_df h2]
    · rw [cond_df h1, cond_df h1]) (by
    show laws_FnDays_loop1 m d true (lst l d l.length) (l.length : Int) l = _
    unfold laws_FnDays_loop1
    rw [cond_df (by omega)]) rfl
theorem loop1_no (m : Int) (d : List Int) (l : List DayRow) : iter (fun s => laws_FnDays_loop1 s.1 s.2.1 s.2.2.1 s.2.2.2.1 s.2.2.2.2.1 s.2.2.2.2.2) (m, d, false, (100000 : Int), (0 : Int), l) = some (m, d, false, 100000, l) :=
  iter_out (by
    show laws_FnDays_loop1 m d false 100000 0 l = _
    unfold laws_FnDays_loop1
    by_cases h : (0 : Int) < (l.length : Int)
    · rw [cond_dt h]; rfl
    · rw [cond_df h])
theorem loop2_no (m : Int) (d : List Int) (v : Int) (l : List DayRow) : iter (fun s => laws_FnDays_loop2 s.1 s.2.1 s.2.2.1 s.2.2.2.1 s.2.2.2.2.1 s.2.2.2.2.2) (m, d, false, v, (0 : Int), l) = some (Sum.inr ()) :=
  iter_out (by
    show laws_FnDays_loop2 m d false v 0 l = _
    unfold laws_FnDays_loop2
    by_cases h : (0 : Int) < (l.length : Int)
    · rw [cond_dt h]; rfl
    · rw [cond_df h])
theorem loop2_yes (m : Int) (d : List Int) (v : Int) (l : List DayRow) (h : l.length ≤ 1048576) (hd : d.length ≤ 1048576)
    (hp : 0 < m → ∀ i, i < l.length → 0 < (l.getD i d_DayRow).2.2.2.1 → (l.getD i d_DayRow).1 ∉ d → (l.getD i d_DayRow).2.1 ≤ v) :
    iter (fun s => laws_FnDays_loop2 s.1 s.2.1 s.2.2.1 s.2.2.2.1 s.2.2.2.2.1 s.2.2.2.2.2) (m, d, true, v, (0 : Int), l) = some (Sum.inr ()) := by
  by_cases hm : 0 < m
  · refine iter_for l.length (fun k => (m, d, true, v, (k : Int), l)) (fun k hk => ?_) ?_ rfl
    · show laws_FnDays_loop2 m d true v (k : Int) l = _
      unfold laws_FnDays_loop2
      rw [cond_dt (by omega), cond_true, cond_dt hm, grd_pos (by omega), Int.toNat_natCast, w64_nat (by omega)]
      by_cases h1 : 0 < (l.getD k d_DayRow).2.2.2.1
      · rw [cond_dt h1, grd_pos (by omega), rHas_eq d _ hd, Option.bind_some]
        by_cases h2 : (l.getD k d_DayRow).1 ∈ d
        · rw [cond_ndt h2]
        · rw [cond_ndf h2, grd_pos (by omega), cond_df (by have := hp hm k hk h1 h2; omega)]
      · rw [cond_df h1]
    · show laws_FnDays_loop2 m d true v (l.length : Int) l = _
      unfold laws_FnDays_loop2
      rw [cond_df (by omega)]
  · refine iter_out ?_
    show laws_FnDays_loop2 m d true v 0 l = _
    unfold laws_FnDays_loop2
    by_cases h : (0 : Int) < (l.length : Int)
    · rw [cond_dt h, cond_true, cond_df hm]
    · rw [cond_df h]
def sw (l : List DayRow) : Nat → Int
  | 0 => 0
  | k + 1 => w64 (w64 (sw l k + (l.getD k d_DayRow).2.1) - (l.getD k d_DayRow).2.2.1)
theorem loop3_eq (d : List Int) (b : Bool) (l : List DayRow) (h : l.length ≤ 1048576) :
    iter (fun s => laws_FnDays_loop3 s.1 s.2.1 s.2.2.1 s.2.2.2.1 s.2.2.2.2) (d, b, (0 : Int), (0 : Int), l) = some (d, b, sw l l.length, l) :=
  iter_for l.length (fun k => (d, b, sw l k, (k : Int), l)) (fun k hk => by
    show laws_FnDays_loop3 d b (sw l k) (k : Int) l = _
    unfold laws_FnDays_loop3
    rw [cond_dt (by omega), grd_pos (by omega), grd_pos (by omega), Int.toNat_natCast, w64_nat (by omega)]
    rfl) (by
    show laws_FnDays_loop3 d b (sw l l.length) (l.length : Int) l = _
    unfold laws_FnDays_loop3
    rw [cond_df (by omega)]) rfl
theorem ok_ups {l : List DayRow} (h : okL l = true) (k : Nat) (hk : k < l.length) : (0 ≤ (l.getD k d_DayRow).2.1 ∧ (l.getD k d_DayRow).2.1 ≤ 99999) ∧ (0 ≤ (l.getD k d_DayRow).2.2.1 ∧ (l.getD k d_DayRow).2.2.1 ≤ 99999) := by
  obtain ⟨⟨_, h2⟩, ⟨h3, _⟩, _⟩ := nums_out ((okL_out h).2 k hk)
  exact ⟨h2, h3⟩
theorem ok_hours {l : List DayRow} (h : okL l = true) (k : Nat) (hk : k < l.length) : 0 ≤ (l.getD k d_DayRow).2.2.2.1 ∧ (l.getD k d_DayRow).2.2.2.1 ≤ 24 := by
  obtain ⟨_, ⟨_, h3⟩, _⟩ := nums_out ((okL_out h).2 k hk)
  exact h3
theorem sw_sum {l : List DayRow} (h : okL l = true) : ∀ k, k ≤ l.length → sw l k = sumK upR l k
  | 0, _ => rfl
  | k + 1, hk => by
    have hn := (okL_out h).1
    have hb := sumK_range upR l l.length (fun k hk => by have := ok_ups h k hk; unfold upR; omega) k (by omega)
    have := ok_ups h k (by omega)
    simp only [sw, sumK, upR]
    rw [sw_sum h k (by omega), w64_id (x := sumK upR l k + _) (by omega) (by omega), w64_id (by omega) (by omega)]
    omega
theorem mem_leftK (l : List DayRow) (x : Int) : ∀ k, x ∈ leftK l k ↔ ∃ i, i < k ∧ 0 < sumK upR l (i + 1) ∧ x = (l.getD i d_DayRow).1
  | 0 => by simp [leftK]
  | k + 1 => by
    have ih := mem_leftK l x k
    simp only [leftK]
    by_cases hp : 0 < sumK upR l (k + 1)
    · rw [if_pos hp, List.mem_append, List.mem_singleton, ih]
      constructor
      · rintro (⟨i, h1, h2⟩ | h)
        · exact ⟨i, by omega, h2⟩
        · exact ⟨k, by omega, hp, h⟩
      · rintro ⟨i, h1, h2, h3⟩
        rcases Nat.lt_or_ge i k with h4 | h4
        · exact .inl ⟨i, h4, h2, h3⟩
        · obtain rfl : i = k := by omega
          exact .inr h3
    · rw [if_neg hp, ih]
      constructor
      · rintro ⟨i, h1, h2⟩; exact ⟨i, by omega, h2⟩
      · rintro ⟨i, h1, h2, h3⟩
        rcases Nat.lt_or_ge i k with h4 | h4
        · exact ⟨i, h4, h2, h3⟩
        · obtain rfl : i = k := by omega
          exact absurd h2 hp
theorem left_last {l : List DayRow} (h : okL l = true) (hn : 0 < l.length) : (l.getD (l.length - 1) d_DayRow).1 ∈ leftK l l.length ↔ 0 < sumK upR l l.length := by
  rw [mem_leftK]
  constructor
  · rintro ⟨i, h1, h2, h3⟩
    have := okL_same h (by omega) h1 h3
    subst this
    rw [Nat.sub_add_cancel hn] at h2
    exact h2
  · intro hp
    exact ⟨l.length - 1, by omega, by rw [Nat.sub_add_cancel hn]; exact hp, rfl⟩
/-! ### The main reason -/
def cntR (a : List DayRow) (i : Nat) : Nat → Int
  | 0 => 0
  | k + 1 => cond (decide ((a.getD k d_DayRow).2.2.2.2.2.1 = (a.getD i d_DayRow).2.2.2.2.2.1)) (w64 (cntR a i k + (a.getD k d_DayRow).2.2.2.2.1)) (cntR a i k)
theorem cntR_impl (a : List DayRow) (i : Nat) (h : a.length ≤ 1048576) : iter (fun s => impl_MainReason_loop2 a (i : Int) s.1 s.2) ((0 : Int), (0 : Int)) = some (cntR a i a.length) :=
  iter_for a.length (fun k => (cntR a i k, (k : Int))) (fun k hk => by
    show impl_MainReason_loop2 a (i : Int) (cntR a i k) (k : Int) = _
    unfold impl_MainReason_loop2
    rw [cond_dt (by omega), grd_pos (by omega), Int.toNat_natCast, Int.toNat_natCast, w64_nat (by omega)]
    simp only [cntR]
    cases decide ((a.getD k d_DayRow).2.2.2.2.2.1 = (a.getD i d_DayRow).2.2.2.2.2.1) <;> rfl) (by
    show impl_MainReason_loop2 a (i : Int) (cntR a i a.length) (a.length : Int) = _
    unfold impl_MainReason_loop2
    rw [cond_df (by omega)]) rfl
theorem cntR_spec (a : List DayRow) (i : Nat) (hi : i < a.length) (h : a.length ≤ 1048576) : iter (fun s => spec_MainReason_loop2 a (i : Int) s.1 s.2) ((0 : Int), (0 : Int)) = some (cntR a i a.length) :=
  iter_for a.length (fun k => (cntR a i k, (k : Int))) (fun k hk => by
    show spec_MainReason_loop2 a (i : Int) (cntR a i k) (k : Int) = _
    unfold spec_MainReason_loop2
    rw [cond_dt (by omega), grd_pos (by omega), grd_pos (by omega), Int.toNat_natCast, Int.toNat_natCast, w64_nat (by omega)]
    simp only [cntR]
    by_cases he : (a.getD k d_DayRow).2.2.2.2.2.1 = (a.getD i d_DayRow).2.2.2.2.2.1
    · rw [cond_dt he, cond_dt he, grd_pos (by omega)]
    · rw [cond_df he, cond_df he]) (by
    show spec_MainReason_loop2 a (i : Int) (cntR a i a.length) (a.length : Int) = _
    unfold spec_MainReason_loop2
    rw [cond_df (by omega)]) rfl
theorem reason_ok (l : List DayRow) (h : Small l) : ∃ y, spec_MainReason l = some y ∧ impl_MainReason l = some y := by
  unfold spec_MainReason impl_MainReason
  rw [rows_eq l h, are_eq l h, Option.bind_some, Option.bind_some]
  cases ho : okL l with
  | false => exact ⟨_, rfl, rfl⟩
  | true =>
    have hn := h.1
    obtain ⟨r, r', e1, e2, rfl⟩ := iter_rel (f := fun s => spec_MainReason_loop1 l s.1 s.2.1 s.2.2) (g := fun s => impl_MainReason_loop1 l s.1 s.2.1 s.2.2)
      (fun (k : Nat) s t => ∃ (w : ByteArray) (c : Int), s = (w, c, (k : Int)) ∧ t = (w, c, (k : Int))) (fun r r' => r = r') l.length
      (by
        rintro k _ _ hk ⟨w, c, rfl, rfl⟩
        refine .inl ?_
        have s1 : spec_MainReason_loop1 l w c (k : Int) = impl_MainReason_loop1 l w c (k : Int) := by
          unfold spec_MainReason_loop1 impl_MainReason_loop1
          rw [cond_dt (by omega), cond_dt (by omega), grd_pos (by omega), cntR_impl l k hn, cntR_spec l k hk hn, Option.bind_some, Option.bind_some]
          simp only [grd_pos (show 0 ≤ (k : Int) ∧ (k : Int) < (l.length : Int) by omega)]
        have s2 : ∃ w' c', impl_MainReason_loop1 l w c (k : Int) = some (.go (w', c', ((k + 1 : Nat) : Int))) := by
          unfold impl_MainReason_loop1
          rw [cond_dt (by omega), grd_pos (by omega), cntR_impl l k hn, Option.bind_some, w64_nat (by omega)]
          cases decide (c < cntR l k l.length)
          · cases decide (cntR l k l.length = c)
            · exact ⟨_, _, rfl⟩
            · cases decide ((0 : Int) < cntR l k l.length)
              · exact ⟨_, _, rfl⟩
              · cases Op.bytesLess ((l.getD (k : Int).toNat d_DayRow).2.2.2.2.2.1).toList w.toList <;> exact ⟨_, _, rfl⟩
          · exact ⟨_, _, rfl⟩
        obtain ⟨w', c', e⟩ := s2
        exact ⟨_, _, s1.trans e, e, w', c', rfl, rfl⟩)
      (by
        rintro _ _ ⟨w, c, rfl, rfl⟩
        refine ⟨(w, c), (w, c), ?_, ?_, rfl⟩
        · show spec_MainReason_loop1 l w c (l.length : Int) = _
          unfold spec_MainReason_loop1
          rw [cond_df (by omega)]
        · show impl_MainReason_loop1 l w c (l.length : Int) = _
          unfold impl_MainReason_loop1
          rw [cond_df (by omega)])
      (s := ((ByteArray.mk #[]), (0 : Int), (0 : Int))) (t := ((ByteArray.mk #[]), (0 : Int), (0 : Int))) ⟨_, _, rfl, rfl⟩
    simp only [cond_true, Bool.not_true, cond_false, e1, e2]
    exact ⟨_, rfl, rfl⟩
/-! ### Ups an hour -/
theorem gcd_ok : ∀ (n : Nat) (a b : Int), 0 ≤ a → 0 ≤ b → b.toNat ≤ n → 0 < a + b → a ≤ 1000000000 → b ≤ 1000000000 → ∃ g : Int, 0 < g ∧ g ≤ 1000000000 ∧ iter (fun s => impl_divisor_loop1 s.1 s.2) (a, b) = some g ∧ iter (fun s => spec_l26Common_loop1 s.1 s.2) (a, b) = some g
  | n, a, b, ha, hb, hn, hs, h1, h2 => by
    by_cases h0 : b = 0
    · subst h0
      refine ⟨a, by omega, h1, iter_out ?_, iter_out ?_⟩
      · show impl_divisor_loop1 a 0 = _
        unfold impl_divisor_loop1
        rw [cond_ndt rfl]
      · show spec_l26Common_loop1 a 0 = _
        unfold spec_l26Common_loop1
        rw [cond_df (by omega)]
    · have hr := Int.tmod_nonneg b ha
      have hl := Int.tmod_lt_of_pos a (show 0 < b by omega)
      cases n with
      | zero => omega
      | succ n =>
        obtain ⟨g, g1, g2, g3, g4⟩ := gcd_ok n b (Int.tmod a b) hb hr (by omega) (by omega) h2 (by omega)
        refine ⟨g, g1, g2, (iter_go ?_).trans g3, (iter_go ?_).trans g4⟩
        · show impl_divisor_loop1 a b = _
          unfold impl_divisor_loop1
          rw [cond_ndf h0, grd_pos h0]
        · show spec_l26Common_loop1 a b = _
          unfold spec_l26Common_loop1
          rw [cond_dt (by omega), grd_pos h0]
theorem ups_ok (l : List DayRow) (h : Small l) : ∃ y, spec_UpsAnHour l = some y ∧ impl_UpsAnHour l = some y := by
  unfold spec_UpsAnHour impl_UpsAnHour
  rw [rows_eq l h, are_eq l h, Option.bind_some, Option.bind_some]
  cases ho : okL l with
  | false => exact ⟨_, rfl, rfl⟩
  | true =>
    have hn := (okL_out ho).1
    have b1 := sumK_range (fun r => r.2.1) l l.length (fun k hk => by have := ok_ups ho k hk; omega)
    have b2 := sumK_range (fun r => r.2.2.1) l l.length (fun k hk => by have := ok_ups ho k hk; omega)
    have b3 := sumK_range (fun r => r.2.2.2.1) l l.length (fun k hk => by have := ok_hours ho k hk; omega)
    have p1 := sumK_pos (fun r => r.2.1) l l.length (fun k hk => by have := ok_ups ho k hk; omega) l.length (Nat.le_refl _)
    have p3 := sumK_pos (fun r => r.2.2.2.1) l l.length (fun k hk => by have := ok_hours ho k hk; omega) l.length (Nat.le_refl _)
    have H1 : iter (fun s => spec_UpsAnHour_loop1 l s.1 s.2.1 s.2.2) ((0 : Int), (0 : Int), (0 : Int)) = some (sumK (fun r => r.2.1) l l.length, sumK (fun r => r.2.2.2.1) l l.length) :=
      iter_for l.length (fun k => (sumK (fun r => r.2.1) l k, sumK (fun r => r.2.2.2.1) l k, (k : Int))) (fun k hk => by
        show spec_UpsAnHour_loop1 l (sumK (fun r => r.2.1) l k) (sumK (fun r => r.2.2.2.1) l k) (k : Int) = _
        have e1 := b1 k (by omega)
        have e3 := b3 k (by omega)
        have := ok_ups ho k hk
        have := ok_hours ho k hk
        unfold spec_UpsAnHour_loop1
        rw [cond_dt (by omega), grd_pos (by omega), grd_pos (by omega), Int.toNat_natCast, w64_nat (by omega), w64_id (x := sumK (fun r => r.2.1) l k + _) (by omega) (by omega), w64_id (by omega) (by omega)]
        rfl) (by
        show spec_UpsAnHour_loop1 l _ _ (l.length : Int) = _
        unfold spec_UpsAnHour_loop1
        rw [cond_df (by omega)]) rfl
    have H2 : impl_sums l = some (sumK (fun r => r.2.1) l l.length, sumK (fun r => r.2.2.1) l l.length, sumK (fun r => r.2.2.2.1) l l.length) := by
      unfold impl_sums
      have : iter (fun s => impl_sums_loop1 l s.1 s.2.1 s.2.2.1 s.2.2.2) ((0 : Int), (0 : Int), (0 : Int), (0 : Int)) = some (sumK (fun r => r.2.1) l l.length, sumK (fun r => r.2.2.1) l l.length, sumK (fun r => r.2.2.2.1) l l.length) :=
        iter_for l.length (fun k => (sumK (fun r => r.2.1) l k, sumK (fun r => r.2.2.1) l k, sumK (fun r => r.2.2.2.1) l k, (k : Int))) (fun k hk => by
          show impl_sums_loop1 l (sumK (fun r => r.2.1) l k) (sumK (fun r => r.2.2.1) l k) (sumK (fun r => r.2.2.2.1) l k) (k : Int) = _
          have e1 := b1 k (by omega)
          have e2 := b2 k (by omega)
          have e3 := b3 k (by omega)
          have := ok_ups ho k hk
          have := ok_hours ho k hk
          unfold impl_sums_loop1
          rw [cond_dt (by omega), grd_pos (by omega), Int.toNat_natCast, w64_nat (by omega), w64_id (x := sumK (fun r => r.2.1) l k + _) (by omega) (by omega), w64_id (x := sumK (fun r => r.2.2.1) l k + _) (by omega) (by omega), w64_id (by omega) (by omega)]
          rfl) (by
          show impl_sums_loop1 l _ _ _ (l.length : Int) = _
          unfold impl_sums_loop1
          rw [cond_df (by omega)]) rfl
      rw [this]; rfl
    simp only [cond_true, Bool.not_true, cond_false, H1, H2, Option.bind_some]
    have e1 := b1 l.length (Nat.le_refl _)
    have e3 := b3 l.length (Nat.le_refl _)
    by_cases h0 : sumK (fun r => r.2.2.2.1) l l.length = 0
    · rw [cond_dt h0, cond_dt h0]; exact ⟨_, rfl, rfl⟩
    · rw [cond_df h0, cond_df h0]
      obtain ⟨g, g1, g2, g3, g4⟩ := gcd_ok _ (sumK (fun r => r.2.1) l l.length) (sumK (fun r => r.2.2.2.1) l l.length) p1 p3 (Nat.le_refl _) (by omega) (by omega) (by omega)
      unfold spec_l26Common impl_lowest impl_divisor
      have hw : w64 (0 - g) = 0 - g := w64_id (by omega) (by omega)
      simp only [g3, g4, Option.bind_some, hw, Bool.false_eq_true, if_false]
      rw [if_neg (show ¬ (0 - g > g) by omega), grd_pos (by omega), grd_pos (by omega), grd_pos (by omega), grd_pos (by omega)]
      exact ⟨_, rfl, rfl⟩
/-! ### Draws -/
theorem of_ok (c : l1Cur) (n : Int) (l : List ByteArray) (hl : l ≠ []) (h : CG c n) (hn : n ≤ 100000000000) : Gives (spec_l1Cur_of c l) (n + 2) (fun v => v ∈ l) := by
  obtain ⟨code, at', seed, u⟩ := c
  unfold spec_l1Cur_of
  refine gives_bind (pick_ok _ n _ h hn) fun a code1 at1 seed1 ha hc => ?_
  dsimp only
  have hpos : 0 < l.length := List.length_pos_iff.2 hl
  have hlt : a < (l.length : Int) := by omega
  refine gives_grd ⟨ha.1, hlt⟩ (Gives.ret hc ?_)
  have hi : a.toNat < l.length := by omega
  show l.getD a.toNat _ ∈ l
  rw [getD_eq _ _ _ hi]; exact List.getElem_mem hi
def RS (r : DayRow) : Prop := r.2.2.2.2.2.1.size ≤ 100
theorem RS_mk (a b c d e : Int) (s : ByteArray) (h : s.size ≤ 100) : RS ((a, b, c, d, e, s, ()) : DayRow) := h
theorem dayRow_ok (c : l1Cur) (n d : Int) (h : CG c n) (hn : n ≤ 100000000) : Gives (spec_l1Cur_dayRow c d) (n + 30) RS := by
  obtain ⟨code, at', seed, u⟩ := c
  unfold spec_l1Cur_dayRow
  have key : ∃ (c1 : List Int) (t1 s1 u1 d1 h1 k1 : Int) (w : ByteArray), ((spec_l1Cur_one (code, at', seed, ()) (4 : Int)).bind fun y1 => (cond (!y1.1) ((spec_l1Cur_among (y1.2.1, y1.2.2.1, y1.2.2.2.1, ()) [(1 : Int), (8 : Int), (8 : Int), (24 : Int)]).bind fun y2 => ((spec_l1Cur_among (y2.2.1, y2.2.2.1, y2.2.2.2.1, ()) [(0 : Int), (100 : Int), (100 : Int), (2500 : Int), (99999 : Int)]).bind fun y3 => ((spec_l1Cur_among (y3.2.1, y3.2.2.1, y3.2.2.2.1, ()) [(0 : Int), (100 : Int), (100 : Int), (2400 : Int), (99999 : Int)]).bind fun y4 => ((spec_l1Cur_among (y4.2.1, y4.2.2.1, y4.2.2.2.1, ()) [(0 : Int), (0 : Int), (1 : Int), (3 : Int), (99 : Int)]).bind fun y5 => (cond (decide ((0 : Int) < y5.1)) ((spec_l1Cur_of (y5.2.1, y5.2.2.1, y5.2.2.2.1, ()) [(ByteArray.mk #[119, 105, 110, 100]), (ByteArray.mk #[119, 105, 110, 100]), (ByteArray.mk #[100, 111, 111, 114]), (ByteArray.mk #[112, 111, 119, 101, 114])]).bind fun y6 => (some (y6.2.1, y6.2.2.1, y6.2.2.2.1, y3.1, y4.1, y2.1, y5.1, y6.1))) ((some (y5.2.1, y5.2.2.1, y5.2.2.2.1, y3.1, y4.1, y2.1, y5.1, (ByteArray.mk #[]))))))))) ((some (y1.2.1, y1.2.2.1, y1.2.2.2.1, (0 : Int), (0 : Int), (0 : Int), (0 : Int), (ByteArray.mk #[])))))) = some (c1, t1, s1, u1, d1, h1, k1, w) ∧ CG (c1, t1, s1, ()) (n + 14) ∧ w.size ≤ 100 := by
    obtain ⟨b, ⟨c1, t1, s1, u1⟩, e1, h1, _⟩ := one_ok (code, at', seed, ()) n 4 h (by omega)
    rw [e1, Option.bind_some]
    cases b with
    | true =>
      refine ⟨_, _, _, _, _, _, _, _, rfl, h1.up (by omega), ?_⟩
      show (ByteArray.mk #[]).size ≤ 100
      decide
    | false =>
      simp only [Bool.not_false, cond_true]
      obtain ⟨v2, ⟨c2, t2, s2, u2⟩, e2, h2, _⟩ := among_ok (c1, t1, s1, ()) _ [(1 : Int), (8 : Int), (8 : Int), (24 : Int)] (by simp) h1 (by omega)
      rw [e2, Option.bind_some]
      obtain ⟨v3, ⟨c3, t3, s3, u3⟩, e3, h3, _⟩ := among_ok (c2, t2, s2, ()) _ [(0 : Int), (100 : Int), (100 : Int), (2500 : Int), (99999 : Int)] (by simp) h2 (by omega)
      rw [e3, Option.bind_some]
      obtain ⟨v4, ⟨c4, t4, s4, u4⟩, e4, h4, _⟩ := among_ok (c3, t3, s3, ()) _ [(0 : Int), (100 : Int), (100 : Int), (2400 : Int), (99999 : Int)] (by simp) h3 (by omega)
      rw [e4, Option.bind_some]
      obtain ⟨v5, ⟨c5, t5, s5, u5⟩, e5, h5, _⟩ := among_ok (c4, t4, s4, ()) _ [(0 : Int), (0 : Int), (1 : Int), (3 : Int), (99 : Int)] (by simp) h4 (by omega)
      rw [e5, Option.bind_some]
      by_cases h0 : 0 < v5
      · dsimp only
        rw [cond_dt h0]
        obtain ⟨v6, ⟨c6, t6, s6, u6⟩, e6, h6, hv⟩ := of_ok (c5, t5, s5, ()) _ [(ByteArray.mk #[119, 105, 110, 100]), (ByteArray.mk #[119, 105, 110, 100]), (ByteArray.mk #[100, 111, 111, 114]), (ByteArray.mk #[112, 111, 119, 101, 114])] (by simp) h5 (by omega)
        rw [e6, Option.bind_some]
        refine ⟨_, _, _, _, _, _, _, _, rfl, h6.up (by omega), ?_⟩
        simp only [List.mem_cons, List.not_mem_nil, or_false] at hv
        show v6.size ≤ 100
        rcases hv with rfl | rfl | rfl | rfl <;> decide
      · dsimp only
        rw [cond_df h0]
        refine ⟨_, _, _, _, _, _, _, _, rfl, h5.up (by omega), ?_⟩
        show (ByteArray.mk #[]).size ≤ 100
        decide
  obtain ⟨c1, t1, s1, u1, d1, h1, k1, w, e, hc, hw⟩ := key
  dsimp only
  rw [e, Option.bind_some]
  refine gives_bind (pick_ok _ _ _ hc (by omega)) fun a2 c1 t1 s1 _ h => ?_
  dsimp only
  refine gives_cond (fun _ => ?_) (fun _ => gives_cond (fun _ => ?_) (fun _ => gives_cond (fun _ => ?_) (fun _ => gives_cond (fun _ => ?_) (fun _ => gives_cond (fun _ => ?_) (fun _ => gives_cond (fun _ => ?_) (fun _ => Gives.ret (h.up (by omega)) (RS_mk _ _ _ _ _ _ hw)))))))
  · exact gives_bind (among_ok _ _ _ (by simp) h (by omega)) fun a6 c1 t1 s1 _ h => Gives.ret (h.up (by omega)) (RS_mk _ _ _ _ _ _ hw)
  · exact gives_bind (among_ok _ _ _ (by simp) h (by omega)) fun a6 c1 t1 s1 _ h => Gives.ret (h.up (by omega)) (RS_mk _ _ _ _ _ _ hw)
  · exact gives_bind (among_ok _ _ _ (by simp) h (by omega)) fun a6 c1 t1 s1 _ h => Gives.ret (h.up (by omega)) (RS_mk _ _ _ _ _ _ hw)
  · exact gives_bind (among_ok _ _ _ (by simp) h (by omega)) fun a6 c1 t1 s1 _ h => Gives.ret (h.up (by omega)) (RS_mk _ _ _ _ _ _ hw)
  · exact gives_bind (among_ok _ _ _ (by simp) h (by omega)) fun a6 c1 t1 s1 _ h => Gives.ret (h.up (by omega)) (RS_mk _ _ _ _ _ _ hw)
  · refine gives_bind (of_ok _ _ _ (by simp) h (by omega)) fun a6 c1 t1 s1 hv h => Gives.ret (h.up (by omega)) (RS_mk _ _ _ _ _ _ ?_)
    simp only [List.mem_cons, List.not_mem_nil, or_false] at hv
    show a6.size ≤ 100
    rcases hv with rfl | rfl | rfl | rfl <;> decide
def RL (l : List DayRow) : Prop := ∀ k, RS (l.getD k d_DayRow)
theorem RL_nil : RL [] := fun k => by
  show ((([] : List DayRow).getD k d_DayRow).2.2.2.2.2.1).size ≤ 100
  simp only [List.getD_eq_getElem?_getD, List.getElem?_nil, Option.getD_none]
  show (ByteArray.mk #[]).size ≤ 100
  decide
theorem RL_snoc {l : List DayRow} {r : DayRow} (h : RL l) (hr : RS r) : RL (l ++ [r]) := fun k => by
  rcases Nat.lt_trichotomy k l.length with h1 | h1 | h1
  · have := h k
    rw [List.getD_eq_getElem?_getD] at this ⊢
    rw [List.getElem?_append_left h1]; exact this
  · subst h1
    rw [List.getD_eq_getElem?_getD]
    simpa using hr
  · have := h k
    rw [List.getD_eq_getElem?_getD, List.getElem?_eq_none (by omega)] at this
    rw [List.getD_eq_getElem?_getD, List.getElem?_eq_none (by simp; omega)]
    exact this
theorem rows_loop1 : ∀ (d : Nat) (day : Int) (code : List Int) (at' seed : Int) (acc : List DayRow) (n : Int), CG (code, at', seed, ()) n → n + 40 * d ≤ 10000000 → acc.length + d ≤ 1000 → d ≤ 1000 → RL acc →
    ∃ code' at2 seed' acc', iter (fun s => spec_l1Cur_dayRows_loop1 s.1 s.2.1 s.2.2.1 s.2.2.2.1 s.2.2.2.2.1 s.2.2.2.2.2) (day, (d : Int), code, at', seed, acc) = some (code', at2, seed', acc') ∧ CG (code', at2, seed', ()) (n + 40 * d) ∧ acc'.length = acc.length + d ∧ RL acc'
  | 0, day, code, at', seed, acc, n, h, _, _, _, hr => ⟨code, at', seed, acc, iter_out (by
      show spec_l1Cur_dayRows_loop1 day (0 : Int) code at' seed acc = _
      unfold spec_l1Cur_dayRows_loop1
      rw [cond_df (by omega)]), h.up (by omega), rfl, hr⟩
  | d + 1, day, code, at', seed, acc, n, h, hn, ha, hd, hr => by
    obtain ⟨⟨r1, r2, r3, r4, r5, r6, r7⟩, ⟨c1, t1, s1, u1⟩, e, hc, hrow⟩ := dayRow_ok (code, at', seed, ()) n day h (by omega)
    obtain ⟨v, ⟨c2, t2, s2, u2⟩, e2, hc2, hv⟩ := among_ok (c1, t1, s1, ()) (n + 30) [(1 : Int), (1 : Int), (1 : Int), (2 : Int)] (by simp) hc (by omega)
    obtain ⟨p, ⟨c3, t3, s3, u3⟩, e3, hc3, hp⟩ := pick_ok (c2, t2, s2, ()) (n + 30 + 2) 80 hc2 (by omega)
    obtain ⟨c4, t4, s4, acc4, e4, h4, l4, q4⟩ := rows_loop1 d (w64 ((w64 (day + v)) - (w64 (Int.tdiv p (79 : Int))))) c3 t3 s3 (acc ++ [(r1, r2, r3, r4, r5, r6, ())]) (n + 40) (hc3.up (by omega)) (by omega) (by simp; omega) (by omega) (RL_snoc hr hrow)
    refine ⟨c4, t4, s4, acc4, (iter_go ?_).trans e4, h4.up (by omega), by simp at l4; omega, q4⟩
    show spec_l1Cur_dayRows_loop1 day ((d + 1 : Nat) : Int) code at' seed acc = _
    unfold spec_l1Cur_dayRows_loop1
    rw [cond_dt (by omega), e, Option.bind_some, grd_pos (by simp; omega), e2, Option.bind_some, e3, Option.bind_some, grd_pos (by omega), w64_id (x := ((d + 1 : Nat) : Int) - 1) (by omega) (by omega)]
    rw [show ((d + 1 : Nat) : Int) - 1 = (d : Int) by omega]
theorem rows_loop2 : ∀ (d : Nat) (code : List Int) (at' seed : Int) (acc : List DayRow) (n : Int), CG (code, at', seed, ()) n → n + 2 * d ≤ 10000000 → 16 ≤ acc.length + d → acc.length ≤ 1000 → RL acc →
    ∃ code' at2 seed' acc', iter (fun s => spec_l1Cur_dayRows_loop2 s.1 s.2.1 s.2.2.1 s.2.2.2) (code, at', seed, acc) = some (code', at2, seed', acc') ∧ CG (code', at2, seed', ()) (n + 2 * d + 2) ∧ acc'.length ≤ 1000 ∧ RL acc'
  | d, code, at', seed, acc, n, h, hn, ha, hb, hr => by
    obtain ⟨v, ⟨c1, t1, s1, u1⟩, e, hc, hv⟩ := pick_ok (code, at', seed, ()) n 2 h (by omega)
    have hv : 0 ≤ v ∧ v < 2 := by omega
    have hw : w64 ((14 : Int) + v) = 14 + v := w64_id (by omega) (by omega)
    by_cases hl : (acc.length : Int) < 14 + v
    · cases d with
      | zero => omega
      | succ d =>
        obtain ⟨c2, t2, s2, acc2, e2, h2, l2, q2⟩ := rows_loop2 d c1 t1 s1 (acc ++ [((w64 ((980 : Int) + (acc.length : Int))), (5 : Int), (0 : Int), (2 : Int), (0 : Int), (ByteArray.mk #[]), ())]) (n + 2) hc (by omega) (by simp; omega) (by simp; omega) (RL_snoc hr (RS_mk _ _ _ _ _ _ (by decide)))
        refine ⟨c2, t2, s2, acc2, (iter_go ?_).trans e2, h2.up (by omega), l2, q2⟩
        show spec_l1Cur_dayRows_loop2 code at' seed acc = _
        unfold spec_l1Cur_dayRows_loop2
        rw [e, Option.bind_some, hw, cond_dt hl, grd_pos (by simp; omega)]
    · refine ⟨c1, t1, s1, acc, iter_out ?_, hc.up (by omega), hb, hr⟩
      show spec_l1Cur_dayRows_loop2 code at' seed acc = _
      unfold spec_l1Cur_dayRows_loop2
      rw [e, Option.bind_some, hw, cond_df hl]
theorem dayRows_ok (c : l1Cur) (n : Int) (h : CG c n) (hn : n ≤ 1000000) : Gives (spec_l1Cur_dayRows c) (n + 1000) (fun l => l.length ≤ 1000 ∧ RL l) := by
  obtain ⟨code, at', seed, u⟩ := c
  unfold spec_l1Cur_dayRows
  refine gives_bind (among_ok _ n _ (by simp) h (by omega)) fun a0 c1 t1 s1 _ h => ?_
  dsimp only
  refine gives_bind (pick_ok _ _ _ h (by omega)) fun a1 c1 t1 s1 ha h => ?_
  dsimp only
  obtain ⟨d, rfl⟩ : ∃ d : Nat, a1 = (d : Int) := ⟨a1.toNat, by omega⟩
  obtain ⟨c2, t2, s2, acc2, e2, h2, l2, q2⟩ := rows_loop1 d a0 c1 t1 s1 [] _ h (by omega) (by simp; omega) (by omega) RL_nil
  rw [e2, Option.bind_some]
  have l2 : acc2.length ≤ 8 := by simp at l2; omega
  dsimp only
  refine gives_bind (one_ok _ _ _ h2 (by omega)) fun a1 c1 t1 s1 _ h => ?_
  dsimp only
  refine gives_cond (fun _ => ?_) (fun _ => Gives.ret (h.up (by omega)) ⟨by omega, q2⟩)
  obtain ⟨c3, t3, s3, acc3, e3, h3, l3, q3⟩ := rows_loop2 20 c1 t1 s1 acc2 _ h (by omega) (by omega) (by omega) q2
  rw [e3, Option.bind_some]
  exact Gives.ret (h3.up (by omega)) ⟨l3, q3⟩
theorem small_RL {l : List DayRow} (h : l.length ≤ 1000) (hr : RL l) : Small l := ⟨by omega, fun k => by
  have : (l.getD k d_DayRow).2.2.2.2.2.1.size ≤ 100 := hr k
  exact Nat.le_trans this (by omega)⟩
theorem cg0 (code : List Int) (hb : ∀ x ∈ code, 0 ≤ x ∧ x ≤ 255) (hl : code.length ≤ 1048576) : CG (code, (0 : Int), (0 : Int), ()) 0 := ⟨hb, hl, by show (0 : Int) ≤ 0; omega, by show (0 : Int) ≤ 0; omega⟩
theorem drawAre_ok (code : List Int) (hb : ∀ x ∈ code, 0 ≤ x ∧ x ≤ 255) (hl : code.length ≤ 1048576) : ∃ l, spec_DrawAreDayRows code = some l ∧ l.length ≤ 1000 ∧ RL l := by
  unfold spec_DrawAreDayRows
  obtain ⟨l, c, e, _, h1, h2⟩ := dayRows_ok _ 0 (cg0 code hb hl) (by omega)
  rw [e]
  exact ⟨l, rfl, h1, h2⟩
theorem drawBest_ok (code : List Int) (hb : ∀ x ∈ code, 0 ≤ x ∧ x ≤ 255) (hl : code.length ≤ 1048576) : ∃ l m, spec_DrawBestDays code = some (l, m) ∧ l.length ≤ 1000 ∧ RL l := by
  unfold spec_DrawBestDays
  obtain ⟨l, ⟨c1, t1, s1, u1⟩, e, hc, h1, h2⟩ := dayRows_ok _ 0 (cg0 code hb hl) (by omega)
  rw [e, Option.bind_some]
  obtain ⟨p, ⟨c2, t2, s2, u2⟩, e2, hc2, hp⟩ := pick_ok (c1, t1, s1, ()) _ 24 hc (by omega)
  dsimp only
  rw [e2, Option.bind_some]
  dsimp only
  have hq : 0 ≤ Int.tdiv p 11 ∧ Int.tdiv p 11 ≤ 2 := by
    rw [Int.tdiv_eq_ediv_of_nonneg (by omega)]; omega
  have hw : w64 ((4 : Int) + w64 (Int.tdiv p 11)) = 4 + Int.tdiv p 11 := by
    rw [w64_id (x := Int.tdiv p 11) (by omega) (by omega), w64_id (by omega) (by omega)]
  rw [grd_pos (by omega), hw, grd_pos (by simp; omega)]
  obtain ⟨v, c3, e3, _, _⟩ := among_ok (c2, t2, s2, ()) _ (([(0 : Int), (1 : Int), (3 : Int), (14 : Int), ((-1) : Int), (15 : Int)].drop ((0 : Int).toNat)).take (((4 + Int.tdiv p 11) - (0 : Int)).toNat)) (fun e => by
    have := congrArg List.length e
    simp at this
    omega) hc2 (by omega)
  rw [e3]
  exact ⟨l, v, rfl, h1, h2⟩
/-! ### The law -/
theorem law_FnDays (code : List Int) (hc : Ty.fit (.sl (.int .u8)) code) : laws_FnDays code = some true := by
  have hl : code.length ≤ 1048576 := hc.1
  have hb : ∀ x ∈ code, 0 ≤ x ∧ x ≤ 255 := fun x hx => by
    have := hc.2 x hx
    exact this
  unfold laws_FnDays laws_rBig
  simp only [Option.bind_some]
  by_cases hbig : (65536 : Int) < (code.length : Int)
  · rw [cond_dt hbig]
  rw [cond_df hbig]
  obtain ⟨l, m, el, ll, lr⟩ := drawBest_ok code hb hl
  obtain ⟨u, eu, lu, ur⟩ := drawAre_ok code hb hl
  have sl := small_RL ll lr
  have su := small_RL lu ur
  obtain ⟨⟨w, q, b⟩, r1, r2⟩ := reason_ok u su
  obtain ⟨⟨p, d, k⟩, p1, p2⟩ := ups_ok u su
  rw [el, Option.bind_some]
  have tail : ((spec_DrawMainReason code).bind fun y64 => ((impl_MainReason y64).bind fun y65 => ((spec_MainReason y64).bind fun y66 => (cond (!decide (y65.1 = y66.1)) ((some false)) (cond (!decide (y65.2.1 = y66.2.1)) ((some false)) (cond (!(y65.2.2 == y66.2.2)) ((some false)) ((spec_DrawLeftBehind code).bind fun y67 => (((impl_LeftBehind y67).bind (Sum.elim (fun _ => (some ((Tg.mk : Tg 2), [], false, y67))) (fun y70 => (some ((Tg.mk : Tg 2), y70, true, y67))))).bind fun z71 => ((spec_LeftBehind z71.2.2.2).bind fun y72 => (cond (!(z71.2.2.1 == y72.2)) ((some false)) ((laws_rInts z71.2.1 y72.1).bind fun y73 => (cond (!y73) ((some false)) ((iter (fun s => laws_FnDays_loop3 s.1 s.2.1 s.2.2.1 s.2.2.2.1 s.2.2.2.2) (z71.2.1, z71.2.2.1, (0 : Int), (0 : Int), z71.2.2.2)).bind (fun r90 => (joinx (cond (decide ((0 : Int) < (r90.2.2.2.length : Int))) (cond r90.2.1 (grd (0 ≤ (w64 ((r90.2.2.2.length : Int) - (1 : Int))) ∧ (w64 ((r90.2.2.2.length : Int) - (1 : Int))) < (r90.2.2.2.length : Int)) ((laws_rHas r90.1 ((r90.2.2.2.getD ((w64 ((r90.2.2.2.length : Int) - (1 : Int))).toNat) d_DayRow).1)).bind fun y91 => (cond (!(y91 == (decide ((0 : Int) < r90.2.2.1)))) (outm ((some false))) ((some (.go ())))))) ((some (.go ())))) ((some (.go ())))) (fun (_ : Unit) => ((spec_DrawUpsAnHour code).bind fun y93 => ((impl_UpsAnHour y93).bind fun y94 => ((spec_UpsAnHour y93).bind fun y95 => (cond (decide (y94.1 = y95.1)) (cond (decide (y94.2.1 = y95.2.1)) ((some (y94.2.2 == y95.2.2))) ((some false))) ((some false)))))))))))))))))))))) = some true := by
    unfold spec_DrawMainReason spec_DrawLeftBehind spec_DrawUpsAnHour
    simp only [eu, Option.bind_some, r1, r2, p1, p2, decide_true, Bool.not_true, cond_false, cond_true, beq_self_eq_true]
    rcases left_ok u su with ⟨e1, e2⟩ | ⟨ho, e1, e2⟩
    · simp only [e1, e2, Option.bind_some, Sum.elim_inl, beq_self_eq_true, Bool.not_true, cond_false, rInts_eq [] (by simp), loop3_eq _ _ u (show u.length ≤ 1048576 by omega)]
      by_cases h0 : (0 : Int) < (u.length : Int)
      · rw [cond_dt h0, joinx_go]
      · rw [cond_df h0, joinx_go]
    · have hle := leftK_le u u.length
      simp only [e1, e2, Option.bind_some, Sum.elim_inr, beq_self_eq_true, Bool.not_true, cond_false, rInts_eq (leftK u u.length) (by omega), loop3_eq _ _ u (show u.length ≤ 1048576 by omega), cond_true, sw_sum ho _ (Nat.le_refl _)]
      by_cases h0 : (0 : Int) < (u.length : Int)
      · have hw : w64 ((u.length : Int) - 1) = ((u.length - 1 : Nat) : Int) := by rw [w64_id (by omega) (by omega)]; omega
        rw [cond_dt h0, hw, grd_pos (by omega), rHas_eq _ _ (by omega), Option.bind_some, Int.toNat_natCast]
        have hiff := left_last ho (show 0 < u.length by omega)
        rw [show decide ((u.getD (u.length - 1) d_DayRow).1 ∈ leftK u u.length) = decide (0 < sumK upR u u.length) from decide_eq_decide.2 hiff, beq_self_eq_true]
        exact joinx_go ..
      · rw [cond_df h0, joinx_go]
  rcases best_ok l m sl with ⟨e1, e2⟩ | ⟨ho, k, hk, hk14, e1, e2⟩
  · simp only [e1, e2, Option.bind_some, Sum.elim_inl, beq_self_eq_true, Bool.not_true, cond_false, rInts_eq [] (by simp), joinx_go, loop1_no, loop2_no, Sum.elim_inr]
    exact tail
  · have hlen := outK_length (sorted l) (min (sorted l).length k)
    have hlen2 : (outK (sorted l) (min (sorted l).length k)).length ≤ 14 := by omega
    have hloop := loop2_yes m (outK (sorted l) (min (sorted l).length k)) (lst l (outK (sorted l) (min (sorted l).length k)) l.length) l (by omega) (by omega) (fun hm i hi h1 h2 => by
      rcases lst_is l (outK (sorted l) (min (sorted l).length k)) l.length with e | ⟨j, hj, hj1, e⟩
      · rw [e]; have := ok_ups ho i hi; omega
      · rw [e]
        exact best_most l ho _ (by omega) i j hi hj (by unfold keepR; rw [decide_eq_false (by omega)]; rfl) h2 hj1)
    simp only [e1, e2, Option.bind_some, Sum.elim_inr, beq_self_eq_true, Bool.not_true, cond_false, cond_true, rInts_eq _ (show (outK (sorted l) (min (sorted l).length k)).length ≤ 1048576 by omega)]
    have hle3 : (outK (srtK (filK l l.length) (filK l l.length).length) (min (srtK (filK l l.length) (filK l l.length).length).length k)).length ≤ k := Nat.le_trans (Nat.le_of_eq hlen) (Nat.min_le_right _ _)
    rw [cond_df (by omega), joinx_go]
    simp only [loop1_yes m _ l (show l.length ≤ 1048576 by omega) (show (outK (sorted l) (min (sorted l).length k)).length ≤ 1048576 by omega), Option.bind_some, hloop, Sum.elim_inr]
    exact tail
end Go.Proofs.Ytppiaacfnoifkaa
