/-
  Plain laws of rows.
-/
import Derived.Test.YtppiaacfnoifkaaD62
import Derived.Test.YtppiaacfnoifkaaO1
import Derived.Test.YtppiaacfnoifkaaL2
namespace Go.Proofs.Ytppiaacfnoifkaa
open Go.RowKit

theorem l1In_eq (a lo hi : Int) : spec_l1In a lo hi = some (decide (lo ≤ a ∧ a ≤ hi)) := by
  unfold spec_l1In
  by_cases h : lo ≤ a
  · rw [cond_dt h]; simp [h]
  · rw [cond_df h]; simp [h]
theorem within_eq (a lo hi : Int) : impl_within a lo hi = some (decide (lo ≤ a ∧ a ≤ hi)) := by
  unfold impl_within
  by_cases h : lo ≤ a
  · rw [cond_dt h]; simp [h]
  · rw [cond_df h]; simp [h]
def letB (b : UInt8) : Bool := decide (97 ≤ b.toNat ∧ b.toNat ≤ 122)
def wordB (s : ByteArray) : Bool := s.data.toList.all letB && decide ((1 : Int) ≤ (s.size : Int) ∧ (s.size : Int) ≤ 10)
theorem bAt_get (s : ByteArray) (k : Nat) : bAt s (k : Int) = ((s.data.toList.getD k 0).toNat : Int) := by unfold bAt; rw [Int.toNat_natCast]
theorem size_list (s : ByteArray) : s.data.toList.length = s.size := Array.length_toList
theorem isWord_eq (s : ByteArray) (h : s.size ≤ 1000000000) : impl_isWord s = some (wordB s) := by
  have hl := size_list s
  unfold impl_isWord
  have H : iter (fun q => impl_isWord_loop1 s q) (0 : Int) = some (if s.data.toList.all letB then (Sum.inr () : Unit ⊕ Unit) else Sum.inl ()) :=
    iter_all s.data.toList letB 0 (fun k => (k : Int)) (fun k hk => by
      show impl_isWord_loop1 s (k : Int) = _
      unfold impl_isWord_loop1
      rw [cond_dt (by omega), grd_pos (by omega), bAt_get, w64_nat (by omega)]
      generalize s.data.toList.getD k 0 = x
      by_cases h1 : (x.toNat : Int) < 97
      · rw [cond_dt h1, show letB x = false from decide_eq_false (by omega)]; rfl
      · rw [cond_df h1, grd_pos (by omega)]
        by_cases h2 : (122 : Int) < (x.toNat : Int)
        · rw [cond_dt h2, show letB x = false from decide_eq_false (by omega)]; rfl
        · rw [cond_df h2, show letB x = true from decide_eq_true (by omega)]; rfl) (by
      show impl_isWord_loop1 s (s.data.toList.length : Int) = _
      unfold impl_isWord_loop1
      rw [cond_df (by omega)]) rfl
  rw [H, Option.bind_some]
  unfold wordB
  cases s.data.toList.all letB with
  | false => rfl
  | true =>
    rw [if_pos rfl, Sum.elim_inr]
    by_cases h1 : (1 : Int) ≤ (s.size : Int)
    · rw [cond_dt h1]; simp [h1]
    · rw [cond_df h1]; simp [h1]
theorem l2Word_eq (s : ByteArray) (h : s.size ≤ 1000000000) : spec_l2Word s = some (wordB s) := by
  have hl := size_list s
  unfold spec_l2Word
  have H : iter (fun q => spec_l2Word_loop1 s q) (0 : Int) = some (if s.data.toList.all letB then (Sum.inr () : Unit ⊕ Unit) else Sum.inl ()) :=
    iter_all s.data.toList letB 0 (fun k => (k : Int)) (fun k hk => by
      show spec_l2Word_loop1 s (k : Int) = _
      unfold spec_l2Word_loop1
      rw [cond_dt (by omega), grd_pos (by omega), bAt_get, w64_nat (by omega)]
      generalize s.data.toList.getD k 0 = x
      by_cases h1 : (x.toNat : Int) < 97
      · rw [cond_dt h1, show letB x = false from decide_eq_false (by omega)]; rfl
      · rw [cond_df h1, grd_pos (by omega)]
        by_cases h2 : (122 : Int) < (x.toNat : Int)
        · rw [cond_dt h2, show letB x = false from decide_eq_false (by omega)]; rfl
        · rw [cond_df h2, show letB x = true from decide_eq_true (by omega)]; rfl) (by
      show spec_l2Word_loop1 s (s.data.toList.length : Int) = _
      unfold spec_l2Word_loop1
      rw [cond_df (by omega)]) rfl
  rw [H, Option.bind_some]
  unfold wordB
  cases s.data.toList.all letB with
  | false => rfl
  | true =>
    rw [if_pos rfl, Sum.elim_inr, l1In_eq]; rfl
def numsB (r : DayRow) : Bool := decide (0 ≤ r.1 ∧ r.1 ≤ 999) && (decide (0 ≤ r.2.1 ∧ r.2.1 ≤ 99999) && (decide (0 ≤ r.2.2.1 ∧ r.2.2.1 ≤ 99999) && (decide (0 ≤ r.2.2.2.1 ∧ r.2.2.2.1 ≤ 24) && decide (0 ≤ r.2.2.2.2.1 ∧ r.2.2.2.2.1 ≤ 99))))
def whyB (r : DayRow) : Bool := cond (decide (r.2.2.2.2.1 = (0 : Int))) (decide (r.2.2.2.2.2.1 = ByteArray.mk #[])) (wordB r.2.2.2.2.2.1)
def rowB (r : DayRow) : Bool := numsB r && (cond (decide (r.2.2.2.1 = 0)) (decide (r.2.1 = 0 ∧ r.2.2.1 = 0 ∧ r.2.2.2.2.1 = 0)) true && whyB r)
theorem why_eq {X : Option Bool} (r : DayRow) (h0 : 0 ≤ r.2.2.2.2.1) (hX : X = some (wordB r.2.2.2.2.2.1)) :
    cond (decide (r.2.2.2.2.1 = (0 : Int))) (cond (decide (r.2.2.2.2.2.1 = (ByteArray.mk #[]))) (some true) (cond (decide ((0 : Int) < r.2.2.2.2.1)) (X.bind fun y => some y) (some false))) (cond (decide ((0 : Int) < r.2.2.2.2.1)) (X.bind fun y => some y) (some false)) = some (whyB r) := by
  unfold whyB
  subst hX
  by_cases h1 : r.2.2.2.2.1 = 0
  · rw [cond_dt h1, cond_dt h1, cond_df (show ¬ (0 : Int) < r.2.2.2.2.1 by omega)]
    cases decide (r.2.2.2.2.2.1 = ByteArray.mk #[]) <;> rfl
  · rw [cond_df h1, cond_df h1, cond_dt (show (0 : Int) < r.2.2.2.2.1 by omega)]; rfl
theorem isRow_eq (r : DayRow) (h : r.2.2.2.2.2.1.size ≤ 1000000000) : impl_IsDayRow r = some (rowB r) := by
  unfold impl_IsDayRow impl_isDay rowB numsB
  simp only [within_eq, Option.bind_some]
  by_cases h1 : 0 ≤ r.1 ∧ r.1 ≤ 999
  case neg => rw [cond_ndf h1, decide_eq_false h1]; rfl
  by_cases h2 : 0 ≤ r.2.1 ∧ r.2.1 ≤ 99999
  case neg => rw [cond_ndt h1, cond_ndf h2, decide_eq_true h1, decide_eq_false h2]; rfl
  by_cases h3 : 0 ≤ r.2.2.1 ∧ r.2.2.1 ≤ 99999
  case neg => rw [cond_ndt h1, cond_ndt h2, cond_ndf h3, decide_eq_true h1, decide_eq_true h2, decide_eq_false h3]; rfl
  by_cases h4 : 0 ≤ r.2.2.2.1 ∧ r.2.2.2.1 ≤ 24
  case neg => rw [cond_ndt h1, cond_ndt h2, cond_ndt h3, cond_ndf h4, decide_eq_true h1, decide_eq_true h2, decide_eq_true h3, decide_eq_false h4]; rfl
  by_cases h5 : 0 ≤ r.2.2.2.2.1 ∧ r.2.2.2.2.1 ≤ 99
  case neg => rw [cond_ndt h1, cond_ndt h2, cond_ndt h3, cond_ndt h4, cond_ndf h5, decide_eq_true h1, decide_eq_true h2, decide_eq_true h3, decide_eq_true h4, decide_eq_false h5]; rfl
  rw [cond_ndt h1, cond_ndt h2, cond_ndt h3, cond_ndt h4, cond_ndt h5, decide_eq_true h1, decide_eq_true h2, decide_eq_true h3, decide_eq_true h4, decide_eq_true h5]
  simp only [Bool.true_and]
  have hw := isWord_eq r.2.2.2.2.2.1 h
  rw [why_eq r h5.1 hw]
  by_cases h6 : r.2.2.2.1 = 0
  · rw [cond_dt h6, cond_dt h6, w64_id (x := r.2.1 + r.2.2.1) (by omega) (by omega), w64_id (by omega) (by omega)]
    by_cases h7 : 0 < r.2.1 + r.2.2.1 + r.2.2.2.2.1
    · rw [cond_dt h7, decide_eq_false (by omega)]; rfl
    · rw [cond_df h7, decide_eq_true (by omega)]; rfl
  · rw [cond_df h6, cond_df h6]; rfl
theorem one_eq (r : DayRow) (h : r.2.2.2.2.2.1.size ≤ 1000000000) : spec_l26One r = some (rowB r) := by
  unfold spec_l26One rowB numsB
  simp only [l1In_eq, Option.bind_some]
  by_cases h1 : 0 ≤ r.1 ∧ r.1 ≤ 999
  case neg => rw [cond_ndf h1, decide_eq_false h1]; rfl
  by_cases h2 : 0 ≤ r.2.1 ∧ r.2.1 ≤ 99999
  case neg => rw [cond_ndt h1, cond_ndf h2, decide_eq_true h1, decide_eq_false h2]; rfl
  by_cases h3 : 0 ≤ r.2.2.1 ∧ r.2.2.1 ≤ 99999
  case neg => rw [cond_ndt h1, cond_ndt h2, cond_ndf h3, decide_eq_true h1, decide_eq_true h2, decide_eq_false h3]; rfl
  by_cases h4 : 0 ≤ r.2.2.2.1 ∧ r.2.2.2.1 ≤ 24
  case neg => rw [cond_ndt h1, cond_ndt h2, cond_ndt h3, cond_ndf h4, decide_eq_true h1, decide_eq_true h2, decide_eq_true h3, decide_eq_false h4]; rfl
  by_cases h5 : 0 ≤ r.2.2.2.2.1 ∧ r.2.2.2.2.1 ≤ 99
  case neg => rw [cond_ndt h1, cond_ndt h2, cond_ndt h3, cond_ndt h4, cond_ndf h5, decide_eq_true h1, decide_eq_true h2, decide_eq_true h3, decide_eq_true h4, decide_eq_false h5]; rfl
  rw [cond_ndt h1, cond_ndt h2, cond_ndt h3, cond_ndt h4, cond_ndt h5, decide_eq_true h1, decide_eq_true h2, decide_eq_true h3, decide_eq_true h4, decide_eq_true h5]
  simp only [Bool.true_and]
  have hw := l2Word_eq r.2.2.2.2.2.1 h
  rw [why_eq r h5.1 hw]
  by_cases h6 : r.2.2.2.1 = 0
  · rw [cond_dt h6, cond_dt h6]
    by_cases h7 : 0 < r.2.1
    · rw [cond_dt h7, decide_eq_false (by omega)]; rfl
    rw [cond_df h7]
    by_cases h8 : 0 < r.2.2.1
    · rw [cond_dt h8, decide_eq_false (by omega)]; rfl
    rw [cond_df h8]
    by_cases h9 : 0 < r.2.2.2.2.1
    · rw [cond_dt h9, decide_eq_false (by omega)]; rfl
    rw [cond_df h9, decide_eq_true (by omega)]; rfl
  · rw [cond_df h6, cond_df h6]; rfl
theorem row_eta (r : DayRow) : ((r.1, r.2.1, r.2.2.1, r.2.2.2.1, r.2.2.2.2.1, r.2.2.2.2.2.1, ()) : DayRow) = r := rfl
theorem nums_out {r : DayRow} (h : rowB r = true) : ((0 ≤ r.1 ∧ r.1 ≤ 999) ∧ (0 ≤ r.2.1 ∧ r.2.1 ≤ 99999)) ∧ ((0 ≤ r.2.2.1 ∧ r.2.2.1 ≤ 99999) ∧ (0 ≤ r.2.2.2.1 ∧ r.2.2.2.1 ≤ 24)) ∧ (0 ≤ r.2.2.2.2.1 ∧ r.2.2.2.2.1 ≤ 99) := by
  unfold rowB numsB at h
  simp only [Bool.and_eq_true, decide_eq_true_eq] at h
  obtain ⟨⟨a, b, c, d, e⟩, _⟩ := h
  exact ⟨⟨a, b⟩, ⟨c, d⟩, e⟩
theorem iter_tot {S R : Type} {f : S → Option (Lp S R)} (I : Nat → S → Prop) (Q : R → Prop) (n : Nat)
    (h : ∀ k s, k < n → I k s → (∃ s', f s = some (.go s') ∧ I (k + 1) s') ∨ ∃ r, f s = some (.out r) ∧ Q r)
    (h' : ∀ s, I n s → ∃ r, f s = some (.out r) ∧ Q r) {s : S} (h0 : I 0 s) : ∃ r, iter f s = some r ∧ Q r := by
  have key : ∀ d k s, k + d = n → I k s → ∃ r, iter f s = some r ∧ Q r := by
    intro d
    induction d with
    | zero =>
      intro k s hk hI
      obtain rfl : k = n := by omega
      obtain ⟨r, a, q⟩ := h' s hI
      exact ⟨r, iter_out a, q⟩
    | succ d ih =>
      intro k s hk hI
      rcases h k s (by omega) hI with ⟨s', a, hI'⟩ | ⟨r, a, q⟩
      · obtain ⟨r, e, q⟩ := ih (k + 1) s' (by omega) hI'
        exact ⟨r, (iter_go a).trans e, q⟩
      · exact ⟨r, iter_out a, q⟩
  exact key n 0 s (by omega) h0
def okK (l : List DayRow) (k : Nat) : Bool := rowB (l.getD k d_DayRow) && !(decide (0 < k) && decide ((l.getD k d_DayRow).1 ≤ (l.getD (k - 1) d_DayRow).1))
def okL (l : List DayRow) : Bool := (List.range l.length).all (okK l) && decide ((l.length : Int) ≤ 14)
theorem okL_out {l : List DayRow} (h : okL l = true) : l.length ≤ 14 ∧ ∀ k, k < l.length → rowB (l.getD k d_DayRow) = true := by
  unfold okL at h
  simp only [Bool.and_eq_true, decide_eq_true_eq, List.all_eq_true, List.mem_range] at h
  refine ⟨by omega, fun k hk => ?_⟩
  have := h.1 k hk
  unfold okK at this
  simp only [Bool.and_eq_true] at this
  exact this.1
def Small (l : List DayRow) : Prop := l.length ≤ 1048576 ∧ ∀ k, (l.getD k d_DayRow).2.2.2.2.2.1.size ≤ 1048576
theorem small_of {l : List DayRow} (h : Ty.fit (.sl ty_DayRow) l) : Small l := by
  refine ⟨h.1, fun k => ?_⟩
  rcases Nat.lt_or_ge k l.length with hk | hk
  · rw [getD_eq l k _ hk]
    have := h.2 l[k] (List.getElem_mem hk)
    exact this.2.2.2.2.2.1
  · have : l.getD k d_DayRow = d_DayRow := by simp [List.getD_eq_getElem?_getD, List.getElem?_eq_none hk]
    rw [this]; decide
theorem are_step (l : List DayRow) (k : Nat) (hk : k < l.length) (h : Small l) : impl_AreDayRows_loop1 l (k : Int) = some (if okK l k then .go ((k + 1 : Nat) : Int) else .out (Sum.inl ())) := by
  have hl := h.1
  unfold impl_AreDayRows_loop1
  rw [cond_dt (by omega), grd_pos (by omega), row_eta, Int.toNat_natCast, isRow_eq _ (by have := h.2 k; omega), Option.bind_some, w64_nat (by omega)]
  unfold okK
  cases rowB (l.getD k d_DayRow) with
  | false => rfl
  | true =>
    rw [Bool.not_true, cond_false, Bool.true_and]
    by_cases h0 : 0 < k
    · have e : w64 ((k : Int) - 1) = ((k - 1 : Nat) : Int) := by rw [w64_id (by omega) (by omega)]; omega
      rw [cond_dt (by omega), e, grd_pos (by omega), Int.toNat_natCast, decide_eq_true h0, Bool.true_and]
      cases decide ((l.getD k d_DayRow).1 ≤ (l.getD (k - 1) d_DayRow).1) <;> rfl
    · rw [cond_df (by omega), decide_eq_false h0]; rfl
theorem good_step (l : List DayRow) (k : Nat) (hk : k < l.length) (h : Small l) : spec_l26Good_loop1 l (k : Int) = some (if okK l k then .go ((k + 1 : Nat) : Int) else .out (Sum.inl ())) := by
  have hl := h.1
  unfold spec_l26Good_loop1
  rw [cond_dt (by omega), grd_pos (by omega), row_eta, Int.toNat_natCast, one_eq _ (by have := h.2 k; omega), Option.bind_some, w64_nat (by omega)]
  unfold okK
  cases rowB (l.getD k d_DayRow) with
  | false => rfl
  | true =>
    rw [Bool.not_true, cond_false, Bool.true_and]
    by_cases h0 : 0 < k
    · have e : w64 ((k : Int) - 1) = ((k - 1 : Nat) : Int) := by rw [w64_id (by omega) (by omega)]; omega
      rw [cond_dt (by omega), e, grd_pos (by omega), grd_pos (by omega), Int.toNat_natCast, decide_eq_true h0, Bool.true_and]
      cases decide ((l.getD k d_DayRow).1 ≤ (l.getD (k - 1) d_DayRow).1) <;> rfl
    · rw [cond_df (by omega), decide_eq_false h0]; rfl
theorem are_eq (l : List DayRow) (h : Small l) : impl_AreDayRows l = some (okL l) := by
  have hl := h.1
  unfold impl_AreDayRows
  have H : iter (fun s => impl_AreDayRows_loop1 l s) (0 : Int) = some (if (List.range l.length).all (okK l) then (Sum.inr () : Unit ⊕ Unit) else Sum.inl ()) :=
    iter_allN l.length (okK l) (fun k => (k : Int)) (fun k hk => are_step l k hk h) (by
      show impl_AreDayRows_loop1 l (l.length : Int) = _
      unfold impl_AreDayRows_loop1
      rw [cond_df (by omega)]) rfl
  rw [H, Option.bind_some]
  unfold okL
  cases (List.range l.length).all (okK l) <;> rfl
theorem rows_eq (l : List DayRow) (h : Small l) : spec_l26Good l = some (okL l) := by
  have hl := h.1
  unfold spec_l26Good
  have H : iter (fun s => spec_l26Good_loop1 l s) (0 : Int) = some (if (List.range l.length).all (okK l) then (Sum.inr () : Unit ⊕ Unit) else Sum.inl ()) :=
    iter_allN l.length (okK l) (fun k => (k : Int)) (fun k hk => good_step l k hk h) (by
      show spec_l26Good_loop1 l (l.length : Int) = _
      unfold spec_l26Good_loop1
      rw [cond_df (by omega)]) rfl
  rw [H, Option.bind_some]
  unfold okL
  cases (List.range l.length).all (okK l) <;> rfl
def sumK (f : DayRow → Int) (l : List DayRow) : Nat → Int
  | 0 => 0
  | k + 1 => sumK f l k + f (l.getD k d_DayRow)
theorem sumK_range (f : DayRow → Int) (l : List DayRow) (n : Nat) (h : ∀ k, k < n → -99999 ≤ f (l.getD k d_DayRow) ∧ f (l.getD k d_DayRow) ≤ 99999) : ∀ k, k ≤ n → -(99999 * (k : Int)) ≤ sumK f l k ∧ sumK f l k ≤ 99999 * (k : Int)
  | 0, _ => by simp [sumK]
  | k + 1, hk => by
    have := sumK_range f l n h k (by omega)
    have := h k (by omega)
    simp only [sumK]; omega
theorem sumK_pos (f : DayRow → Int) (l : List DayRow) (n : Nat) (h : ∀ k, k < n → 0 ≤ f (l.getD k d_DayRow)) : ∀ k, k ≤ n → 0 ≤ sumK f l k
  | 0, _ => by simp [sumK]
  | k + 1, hk => by
    have := sumK_pos f l n h k (by omega)
    have := h k (by omega)
    simp only [sumK]; omega
end Go.Proofs.Ytppiaacfnoifkaa
