/-
  Plain laws of lists of rows, and of a week's text.
-/
import Derived.Test.YteckiilljhdkpaaDoorM31b
namespace Go.Proofs.YteckiilljhdkpaaDoor
open Go.RowKit

/-! ### Lists of rows -/
theorem iter_tot {S R : Type} {f : S → Option (Lp S R)} (I : Nat → S → Prop) (Q : R → Prop) (n : Nat)
    (h : ∀ k s, k < n → I k s → (∃ s', f s = some (.go s') ∧ I (k + 1) s') ∨ ∃ r, f s = some (.out r) ∧ Q r)
    (h' : ∀ s, I n s → ∃ r, f s = some (.out r) ∧ Q r) {s : S} (h0 : I 0 s) : ∃ r, iter f s = some r ∧ Q r := by
  have key : ∀ d k s, k + d = n → I k s → ∃ r, iter f s = some r ∧ Q r := by
    intro d
    induction d with
    | zero =>
      intro k s hk hI
      obtain rfl : k = n := by omega
      obtain ⟨r, a, q⟩ := h' s hI
      exact ⟨r, iter_out a, q⟩
    | succ d ih =>
      intro k s hk hI
      rcases h k s (by omega) hI with ⟨s', a, hI'⟩ | ⟨r, a, q⟩
      · obtain ⟨r, e, q⟩ := ih (k + 1) s' (by omega) hI'
        exact ⟨r, (iter_go a).trans e, q⟩
      · exact ⟨r, iter_out a, q⟩
  exact key n 0 s (by omega) h0
theorem toRow_eq (r : DayRow) : laws_toDayRow r = some r := rfl
theorem toRows_eq (l : List DayRow) (h : l.length ≤ 1048576) : laws_toDayRowS l = some l := by
  unfold laws_toDayRowS
  rw [grd_pos (by omega)]
  have H : iter (fun s => laws_toDayRowS_loop1 l s.1 s.2) ((0 : Int), (List.replicate (l.length : Int).toNat ((0 : Int), (0 : Int), (0 : Int), (0 : Int), (0 : Int), (ByteArray.mk #[]), ()))) = some l :=
    iter_copy l ((0 : Int), (0 : Int), (0 : Int), (0 : Int), (0 : Int), (ByteArray.mk #[]), ()) d_DayRow (fun k m hk hm => by
      show laws_toDayRowS_loop1 l (k : Int) m = _
      unfold laws_toDayRowS_loop1
      rw [cond_dt (by omega), grd_pos (by omega), row_eta, toRow_eq, Option.bind_some, grd_pos (by omega), w64_nat (by omega)]
      rfl) (by
      show laws_toDayRowS_loop1 l (l.length : Int) l = _
      unfold laws_toDayRowS_loop1
      rw [cond_df (by omega)]) rfl
  rw [H]; rfl
theorem eqRow_eq (r : DayRow) : laws_eqDayRow r r = some true := by
  unfold laws_eqDayRow
  simp only [decide_true, Bool.not_true, cond_false]
theorem eqRows_eq (l : List DayRow) (h : l.length ≤ 1048576) : laws_eqDayRowS l l = some true := by
  unfold laws_eqDayRowS
  rw [cond_ndt rfl]
  have H : iter (fun s => laws_eqDayRowS_loop1 l l s) (0 : Int) = some (Sum.inr ()) :=
    iter_for l.length (fun k => (k : Int)) (fun k hk => by
      show laws_eqDayRowS_loop1 l l (k : Int) = _
      unfold laws_eqDayRowS_loop1
      rw [cond_dt (by omega), grd_pos (by omega), grd_pos (by omega), row_eta, eqRow_eq, w64_nat (by omega)]
      rfl) (by
      show laws_eqDayRowS_loop1 l l (l.length : Int) = _
      unfold laws_eqDayRowS_loop1
      rw [cond_df (by omega)]) rfl
  rw [H]; rfl
theorem szRow_ex (a : DayRow) (k : Int) : ∃ y, laws_szDayRow a k = some y := by
  unfold laws_szDayRow
  simp only [Bool.cond_eq_ite]
  split <;> exact ⟨_, rfl⟩
theorem szRows_ex (l : List DayRow) (h : l.length ≤ 1048576) (n : Int) : ∃ y, laws_szDayRowS l n = some y := by
  unfold laws_szDayRowS
  obtain ⟨r, e, _⟩ := iter_tot (f := fun s => laws_szDayRowS_loop1 l s.1 s.2) (fun k s => s.2 = (k : Int)) (fun _ => True) l.length (by
    rintro k ⟨v, i⟩ hk rfl
    obtain ⟨y, hy⟩ := szRow_ex (l.getD k d_DayRow) v
    have e : laws_szDayRowS_loop1 l v (k : Int) = cond (decide (y < 0)) (some (.out (Sum.inl ()))) (some (.go (y, ((k + 1 : Nat) : Int)))) := by
      unfold laws_szDayRowS_loop1
      rw [cond_dt (by omega), grd_pos (by omega), row_eta, Int.toNat_natCast, hy, Option.bind_some, w64_nat (by omega)]
    by_cases h0 : y < 0
    · rw [cond_dt h0] at e; exact .inr ⟨_, e, trivial⟩
    · rw [cond_df h0] at e; exact .inl ⟨_, e, rfl⟩) (by
    rintro ⟨v, i⟩ rfl
    refine ⟨Sum.inr v, ?_, trivial⟩
    show laws_szDayRowS_loop1 l v (l.length : Int) = _
    unfold laws_szDayRowS_loop1
    rw [cond_df (by omega)]) (s := (w64 (n - (l.length : Int)), (0 : Int))) rfl
  rw [e]
  by_cases h0 : w64 (n - (l.length : Int)) < 0
  · rw [cond_dt h0]; exact ⟨_, rfl⟩
  · rw [cond_df h0]
    cases r <;> exact ⟨_, rfl⟩
def okK (l : List DayRow) (k : Nat) : Bool := rowB (l.getD k d_DayRow) && !(decide (0 < k) && decide ((l.getD k d_DayRow).1 ≤ (l.getD (k - 1) d_DayRow).1))
def okL (l : List DayRow) : Bool := (List.range l.length).all (okK l) && decide ((l.length : Int) ≤ 14)
theorem okL_out {l : List DayRow} (h : okL l = true) : l.length ≤ 14 ∧ ∀ k, k < l.length → rowB (l.getD k d_DayRow) = true := by
  unfold okL at h
  simp only [Bool.and_eq_true, decide_eq_true_eq, List.all_eq_true, List.mem_range] at h
  refine ⟨by omega, fun k hk => ?_⟩
  have := h.1 k hk
  unfold okK at this
  simp only [Bool.and_eq_true] at this
  exact this.1
def Small (l : List DayRow) : Prop := l.length ≤ 1048576 ∧ ∀ k, (l.getD k d_DayRow).2.2.2.2.2.1.size ≤ 1048576
theorem small_of {l : List DayRow} (h : Ty.fit (.sl ty_DayRow) l) : Small l := by
  refine ⟨h.1, fun k => ?_⟩
  rcases Nat.lt_or_ge k l.length with hk | hk
  · rw [getD_eq l k _ hk]
    have := h.2 l[k] (List.getElem_mem hk)
    exact this.2.2.2.2.2.1
  · have : l.getD k d_DayRow = d_DayRow := by simp [List.getD_eq_getElem?_getD, List.getElem?_eq_none hk]
    rw [this]; decide
theorem are_step (l : List DayRow) (k : Nat) (hk : k < l.length) (h : Small l) : impl_AreDayRows_loop1 l (k : Int) = some (if okK l k then .go ((k + 1 : Nat) : Int) else .out (Sum.inl ())) := by
  have hl := h.1
  unfold impl_AreDayRows_loop1
  rw [cond_dt (by omega), grd_pos (by omega), row_eta, Int.toNat_natCast, isRow_eq _ (by have := h.2 k; omega), Option.bind_some, w64_nat (by omega)]
  unfold okK
  cases rowB (l.getD k d_DayRow) with
  | false => rfl
  | true =>
    rw [Bool.not_true, cond_false, Bool.true_and]
    by_cases h0 : 0 < k
    · have e : w64 ((k : Int) - 1) = ((k - 1 : Nat) : Int) := by rw [w64_id (by omega) (by omega)]; omega
      rw [cond_dt (by omega), e, grd_pos (by omega), Int.toNat_natCast, decide_eq_true h0, Bool.true_and]
      cases decide ((l.getD k d_DayRow).1 ≤ (l.getD (k - 1) d_DayRow).1) <;> rfl
    · rw [cond_df (by omega), decide_eq_false h0]; rfl
theorem good_step (l : List DayRow) (k : Nat) (hk : k < l.length) (h : Small l) : spec_l26Good_loop1 l (k : Int) = some (if okK l k then .go ((k + 1 : Nat) : Int) else .out (Sum.inl ())) := by
  have hl := h.1
  unfold spec_l26Good_loop1
  rw [cond_dt (by omega), grd_pos (by omega), row_eta, Int.toNat_natCast, one_eq _ (by have := h.2 k; omega), Option.bind_some, w64_nat (by omega)]
  unfold okK
  cases rowB (l.getD k d_DayRow) with
  | false => rfl
  | true =>
    rw [Bool.not_true, cond_false, Bool.true_and]
    by_cases h0 : 0 < k
    · have e : w64 ((k : Int) - 1) = ((k - 1 : Nat) : Int) := by rw [w64_id (by omega) (by omega)]; omega
      rw [cond_dt (by omega), e, grd_pos (by omega), grd_pos (by omega), Int.toNat_natCast, decide_eq_true h0, Bool.true_and]
      cases decide ((l.getD k d_DayRow).1 ≤ (l.getD (k - 1) d_DayRow).1) <;> rfl
    · rw [cond_df (by omega), decide_eq_false h0]; rfl
theorem are_eq (l : List DayRow) (h : Small l) : impl_AreDayRows l = some (okL l) := by
  have hl := h.1
  unfold impl_AreDayRows
  have H : iter (fun s => impl_AreDayRows_loop1 l s) (0 : Int) = some (if (List.range l.length).all (okK l) then (Sum.inr () : Unit ⊕ Unit) else Sum.inl ()) :=
    iter_allN l.length (okK l) (fun k => (k : Int)) (fun k hk => are_step l k hk h) (by
      show impl_AreDayRows_loop1 l (l.length : Int) = _
      unfold impl_AreDayRows_loop1
      rw [cond_df (by omega)]) rfl
  rw [H, Option.bind_some]
  unfold okL
  cases (List.range l.length).all (okK l) <;> rfl
theorem rows_eq (l : List DayRow) (h : Small l) : spec_l26Good l = some (okL l) := by
  have hl := h.1
  unfold spec_l26Good
  have H : iter (fun s => spec_l26Good_loop1 l s) (0 : Int) = some (if (List.range l.length).all (okK l) then (Sum.inr () : Unit ⊕ Unit) else Sum.inl ()) :=
    iter_allN l.length (okK l) (fun k => (k : Int)) (fun k hk => good_step l k hk h) (by
      show spec_l26Good_loop1 l (l.length : Int) = _
      unfold spec_l26Good_loop1
      rw [cond_df (by omega)]) rfl
  rw [H, Option.bind_some]
  unfold okL
  cases (List.range l.length).all (okK l) <;> rfl
/-- Sums over the first rows. -/
def sumK (f : DayRow → Int) (l : List DayRow) : Nat → Int
  | 0 => 0
  | k + 1 => sumK f l k + f (l.getD k d_DayRow)
theorem sumK_range (f : DayRow → Int) (l : List DayRow) (n : Nat) (h : ∀ k, k < n → -99999 ≤ f (l.getD k d_DayRow) ∧ f (l.getD k d_DayRow) ≤ 99999) : ∀ k, k ≤ n → -(99999 * (k : Int)) ≤ sumK f l k ∧ sumK f l k ≤ 99999 * (k : Int)
  | 0, _ => by simp [sumK]
  | k + 1, hk => by
    have := sumK_range f l n h k (by omega)
    have := h k (by omega)
    simp only [sumK]; omega
theorem sumK_pos (f : DayRow → Int) (l : List DayRow) (n : Nat) (h : ∀ k, k < n → 0 ≤ f (l.getD k d_DayRow)) : ∀ k, k ≤ n → 0 ≤ sumK f l k
  | 0, _ => by simp [sumK]
  | k + 1, hk => by
    have := sumK_pos f l n h k (by omega)
    have := h k (by omega)
    simp only [sumK]; omega
def txtK (l : List DayRow) : Nat → List UInt8
  | 0 => []
  | k + 1 => txtK l k ++ (lineR (l.getD k d_DayRow) ++ [10])
theorem txtK_le (l : List DayRow) (h : Small l) (n : Nat) (hr : ∀ k, k < n → rowB (l.getD k d_DayRow) = true) : ∀ k, k ≤ n → (txtK l k).length ≤ k * 1100001
  | 0, _ => by simp [txtK]
  | k + 1, hk => by
    have h1 := txtK_le l h n hr k (by omega)
    have h2 := lineR_le (l.getD k d_DayRow) (hr k (by omega)) (h.2 k)
    simp only [txtK, List.length_append, List.length_cons, List.length_nil]
    omega
theorem ups_in {l : List DayRow} {n : Nat} (hr : ∀ k, k < n → rowB (l.getD k d_DayRow) = true) :
    (∀ k, k < n → -99999 ≤ (l.getD k d_DayRow).2.1 ∧ (l.getD k d_DayRow).2.1 ≤ 99999) ∧ (∀ k, k < n → -99999 ≤ (l.getD k d_DayRow).2.2.1 ∧ (l.getD k d_DayRow).2.2.1 ≤ 99999) ∧ (∀ k, k < n → -99999 ≤ (l.getD k d_DayRow).2.2.2.1 ∧ (l.getD k d_DayRow).2.2.2.1 ≤ 99999) := by
  refine ⟨fun k hk => ?_, fun k hk => ?_, fun k hk => ?_⟩
  all_goals
    obtain ⟨⟨_, h2⟩, ⟨h3, h4⟩, _⟩ := nums_out (hr k hk)
    omega
theorem week_spec (l : List DayRow) (h : Small l) (ho : okL l = true) :
    iter (fun s => spec_WeekText_loop1 l s.1 s.2.1 s.2.2.1 s.2.2.2) ((ByteArray.mk #[]), (0 : Int), (0 : Int), (0 : Int)) = some (bs (txtK l l.length), sumK (fun r => r.2.1) l l.length, sumK (fun r => r.2.2.1) l l.length) := by
  obtain ⟨hn, hr⟩ := okL_out ho
  obtain ⟨u1, u2, _⟩ := ups_in hr
  exact iter_for l.length (fun k => (bs (txtK l k), sumK (fun r => r.2.1) l k, sumK (fun r => r.2.2.1) l k, (k : Int))) (fun k hk => by
    show spec_WeekText_loop1 l (bs (txtK l k)) (sumK (fun r => r.2.1) l k) (sumK (fun r => r.2.2.1) l k) (k : Int) = _
    have e1 := txtK_le l h l.length hr k (by omega)
    have e2 := lineR_le (l.getD k d_DayRow) (hr k hk) (h.2 k)
    have e3 := sumK_range (fun r => r.2.1) l l.length u1 k (by omega)
    have e4 := sumK_range (fun r => r.2.2.1) l l.length u2 k (by omega)
    have e5 := u1 k hk
    have e6 := u2 k hk
    have e7 := (lines_eq (l.getD k d_DayRow) (hr k hk) (by have := h.2 k; omega)).1
    unfold spec_WeekText_loop1
    rw [cond_dt (by omega), grd_pos (by omega), row_eta, Int.toNat_natCast, e7, Option.bind_some, k11]
    simp only [bs_app, bs_size]
    rw [grd_pos (by omega), grd_pos (by simp only [List.length_append, List.length_cons, List.length_nil]; omega), grd_pos (by omega), grd_pos (by omega), w64_nat (by omega), w64_id (by omega) (by omega), w64_id (by omega) (by omega)]
    simp only [txtK, sumK, List.append_assoc]) (by
    show spec_WeekText_loop1 l _ _ _ (l.length : Int) = _
    unfold spec_WeekText_loop1
    rw [cond_df (by omega)]) rfl
theorem week_impl (l : List DayRow) (h : Small l) (ho : okL l = true) :
    iter (fun s => impl_WeekText_loop1 l s.1 s.2) ((ByteArray.mk #[]), (0 : Int)) = some (bs (txtK l l.length)) := by
  obtain ⟨hn, hr⟩ := okL_out ho
  exact iter_for l.length (fun k => (bs (txtK l k), (k : Int))) (fun k hk => by
    show impl_WeekText_loop1 l (bs (txtK l k)) (k : Int) = _
    have e1 := txtK_le l h l.length hr k (by omega)
    have e2 := lineR_le (l.getD k d_DayRow) (hr k hk) (h.2 k)
    have e7 := (lines_eq (l.getD k d_DayRow) (hr k hk) (by have := h.2 k; omega)).2
    unfold impl_WeekText_loop1
    rw [cond_dt (by omega), grd_pos (by omega), row_eta, Int.toNat_natCast, e7, Option.bind_some, k11]
    simp only [bs_app, bs_size]
    rw [grd_pos (by simp only [List.length_append, List.length_cons, List.length_nil]; omega), grd_pos (by simp only [List.length_append, List.length_cons, List.length_nil]; omega), w64_nat (by omega)]
    simp only [txtK]) (by
    show impl_WeekText_loop1 l _ (l.length : Int) = _
    unfold impl_WeekText_loop1
    rw [cond_df (by omega)]) rfl
theorem sums_eq (l : List DayRow) (ho : okL l = true) : impl_sums l = some (sumK (fun r => r.2.1) l l.length, sumK (fun r => r.2.2.1) l l.length, sumK (fun r => r.2.2.2.1) l l.length) := by
  obtain ⟨hn, hr⟩ := okL_out ho
  obtain ⟨u1, u2, u3⟩ := ups_in hr
  unfold impl_sums
  have H : iter (fun s => impl_sums_loop1 l s.1 s.2.1 s.2.2.1 s.2.2.2) ((0 : Int), (0 : Int), (0 : Int), (0 : Int)) = some (sumK (fun r => r.2.1) l l.length, sumK (fun r => r.2.2.1) l l.length, sumK (fun r => r.2.2.2.1) l l.length) :=
    iter_for l.length (fun k => (sumK (fun r => r.2.1) l k, sumK (fun r => r.2.2.1) l k, sumK (fun r => r.2.2.2.1) l k, (k : Int))) (fun k hk => by
      show impl_sums_loop1 l (sumK (fun r => r.2.1) l k) (sumK (fun r => r.2.2.1) l k) (sumK (fun r => r.2.2.2.1) l k) (k : Int) = _
      have e3 := sumK_range (fun r => r.2.1) l l.length u1 k (by omega)
      have e4 := sumK_range (fun r => r.2.2.1) l l.length u2 k (by omega)
      have e8 := sumK_range (fun r => r.2.2.2.1) l l.length u3 k (by omega)
      have e5 := u1 k hk
      have e6 := u2 k hk
      have e9 := u3 k hk
      unfold impl_sums_loop1
      rw [cond_dt (by omega), grd_pos (by omega), Int.toNat_natCast, w64_nat (by omega), w64_id (by omega) (by omega), w64_id (by omega) (by omega), w64_id (by omega) (by omega)]
      rfl) (by
      show impl_sums_loop1 l _ _ _ (l.length : Int) = _
      unfold impl_sums_loop1
      rw [cond_df (by omega)]) rfl
  rw [H]; rfl
theorem week_eq (l : List DayRow) (h : Small l) : ∃ x, spec_WeekText l = some x ∧ impl_WeekText l = some x := by
  unfold spec_WeekText impl_WeekText
  rw [rows_eq l h, are_eq l h, Option.bind_some, Option.bind_some]
  cases ho : okL l with
  | false => exact ⟨_, rfl, rfl⟩
  | true =>
    obtain ⟨hn, hr⟩ := okL_out ho
    obtain ⟨u1, u2, _⟩ := ups_in hr
    have e1 := txtK_le l h l.length hr l.length (by omega)
    have e3 := sumK_range (fun r => r.2.1) l l.length u1 l.length (by omega)
    have e4 := sumK_range (fun r => r.2.2.1) l l.length u2 l.length (by omega)
    have e5 := sumK_pos (fun r => r.2.1) l l.length (fun k hk => (nums_out (hr k hk)).1.2.1) l.length (by omega)
    have e6 := sumK_pos (fun r => r.2.2.1) l l.length (fun k hk => (nums_out (hr k hk)).2.1.1.1) l.length (by omega)
    simp only [Bool.not_true, cond_false, week_spec l h ho, week_impl l h ho, sums_eq l ho, Option.bind_some]
    obtain ⟨u, hu⟩ := Int.eq_ofNat_of_zero_le e5
    obtain ⟨d, hd⟩ := Int.eq_ofNat_of_zero_le e6
    rw [hu] at e3
    rw [hd] at e4
    rw [hu, hd]
    have q1 := dec_length 7 u (by omega)
    have q2 := dec_length 7 d (by omega)
    simp only [l1Num_eq u (by omega), l1Num_eq d (by omega), itoa_eq u (by omega), itoa_eq d (by omega), Option.bind_some, k4, k12, k13, bs_app, bs_size]
    rw [grd_pos (by simp only [List.length_append, List.length_cons, List.length_nil]; omega), grd_pos (by simp only [List.length_append, List.length_cons, List.length_nil]; omega), grd_pos (by simp only [List.length_append, List.length_cons, List.length_nil]; omega), grd_pos (by simp only [List.length_append, List.length_cons, List.length_nil]; omega), grd_pos (by simp only [List.length_append, List.length_cons, List.length_nil]; omega)]
    exact ⟨_, rfl, rfl⟩
theorem law_FnExactWeekText (l : List DayRow) (hl : Ty.fit (.sl ty_DayRow) l) : laws_FnExactWeekText l = some true := by
  have h := small_of hl
  obtain ⟨y, hy⟩ := szRows_ex l h.1 1048576
  obtain ⟨x, e1, e2⟩ := week_eq l h
  unfold laws_FnExactWeekText
  rw [hy, Option.bind_some]
  by_cases h0 : y < 0
  · rw [cond_dt h0]
  rw [cond_df h0]
  simp only [toRows_eq l h.1, e1, e2, eqRows_eq l h.1, Option.bind_some, decide_true, Bool.not_true, cond_false, beq_self_eq_true]
end Go.Proofs.YteckiilljhdkpaaDoor
