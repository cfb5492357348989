/-
  Plain laws, carried over from texts of other seats.
-/
import Derived.Test.YtaajchikfgbecaaC734
import Derived.Test.YtaajchikfgbecaaO1
import Derived.Test.YtaajchikfgbecaaL2
namespace Go.Proofs.Ytaajchikfgbecaa
open Go.RowKit

theorem l1In_eq (a lo hi : Int) : spec_l1In a lo hi = some (decide (lo ≤ a ∧ a ≤ hi)) := by
  unfold spec_l1In
  by_cases h : lo ≤ a
  · rw [cond_dt h]; simp [h]
  · rw [cond_df h]; simp [h]
theorem within_eq (a lo hi : Int) : impl_within a lo hi = some (decide (lo ≤ a ∧ a ≤ hi)) := by
  unfold impl_within
  by_cases h : lo ≤ a
  · rw [cond_dt h]; simp [h]
  · rw [cond_df h]; simp [h]

def letB (b : UInt8) : Bool := decide (97 ≤ b.toNat ∧ b.toNat ≤ 122)
def wordB (s : ByteArray) : Bool := s.data.toList.all letB && decide ((1 : Int) ≤ (s.size : Int) ∧ (s.size : Int) ≤ 10)
theorem bAt_get (s : ByteArray) (k : Nat) : bAt s (k : Int) = ((s.data.toList.getD k 0).toNat : Int) := by unfold bAt; rw [Int.toNat_natCast]
theorem size_list (s : ByteArray) : s.data.toList.length = s.size := Array.length_toList
theorem isWord_eq (s : ByteArray) (h : s.size ≤ 1000000000) : impl_isWord s = some (wordB s) := by
  have hl := size_list s
  unfold impl_isWord
  have H : iter (fun q => impl_isWord_loop1 s q) (0 : Int) = some (if s.data.toList.all letB then (Sum.inr () : Unit ⊕ Unit) else Sum.inl ()) :=
    iter_all s.data.toList letB 0 (fun k => (k : Int)) (fun k hk => by
      show impl_isWord_loop1 s (k : Int) = _
      unfold impl_isWord_loop1
      rw [cond_dt (by omega), grd_pos (by omega), bAt_get, w64_nat (by omega)]
      generalize s.data.toList.getD k 0 = x
      by_cases h1 : (x.toNat : Int) < 97
      · rw [cond_dt h1, show letB x = false from decide_eq_false (by omega)]; rfl
      · rw [cond_df h1, grd_pos (by omega)]
        by_cases h2 : (122 : Int) < (x.toNat : Int)
        · rw [cond_dt h2, show letB x = false from decide_eq_false (by omega)]; rfl
        · rw [cond_df h2, show letB x = true from decide_eq_true (by omega)]; rfl) (by
      show impl_isWord_loop1 s (s.data.toList.length : Int) = _
      unfold impl_isWord_loop1
      rw [cond_df (by omega)]) rfl
  rw [H, Option.bind_some]
  unfold wordB
  cases s.data.toList.all letB with
  | false => rfl
  | true =>
    rw [if_pos rfl, Sum.elim_inr]
    by_cases h1 : (1 : Int) ≤ (s.size : Int)
    · rw [cond_dt h1]; simp [h1]
    · rw [cond_df h1]; simp [h1]
theorem l2Word_eq (s : ByteArray) (h : s.size ≤ 1000000000) : spec_l2Word s = some (wordB s) := by
  have hl := size_list s
  unfold spec_l2Word
  have H : iter (fun q => spec_l2Word_loop1 s q) (0 : Int) = some (if s.data.toList.all letB then (Sum.inr () : Unit ⊕ Unit) else Sum.inl ()) :=
    iter_all s.data.toList letB 0 (fun k => (k : Int)) (fun k hk => by
      show spec_l2Word_loop1 s (k : Int) = _
      unfold spec_l2Word_loop1
      rw [cond_dt (by omega), grd_pos (by omega), bAt_get, w64_nat (by omega)]
      generalize s.data.toList.getD k 0 = x
      by_cases h1 : (x.toNat : Int) < 97
      · rw [cond_dt h1, show letB x = false from decide_eq_false (by omega)]; rfl
      · rw [cond_df h1, grd_pos (by omega)]
        by_cases h2 : (122 : Int) < (x.toNat : Int)
        · rw [cond_dt h2, show letB x = false from decide_eq_false (by omega)]; rfl
        · rw [cond_df h2, show letB x = true from decide_eq_true (by omega)]; rfl) (by
      show spec_l2Word_loop1 s (s.data.toList.length : Int) = _
      unfold spec_l2Word_loop1
      rw [cond_df (by omega)]) rfl
  rw [H, Option.bind_some]
  unfold wordB
  cases s.data.toList.all letB with
  | false => rfl
  | true =>
    rw [if_pos rfl, Sum.elim_inr, l1In_eq]; rfl
def numsB (r : DayRow) : Bool := decide (0 ≤ r.1 ∧ r.1 ≤ 999) && (decide (0 ≤ r.2.1 ∧ r.2.1 ≤ 99999) && (decide (0 ≤ r.2.2.1 ∧ r.2.2.1 ≤ 99999) && (decide (0 ≤ r.2.2.2.1 ∧ r.2.2.2.1 ≤ 24) && decide (0 ≤ r.2.2.2.2.1 ∧ r.2.2.2.2.1 ≤ 99))))
def whyB (r : DayRow) : Bool := cond (decide (r.2.2.2.2.1 = (0 : Int))) (decide (r.2.2.2.2.2.1 = ByteArray.mk #[])) (wordB r.2.2.2.2.2.1)
def rowB (r : DayRow) : Bool := numsB r && (cond (decide (r.2.2.2.1 = 0)) (decide (r.2.1 = 0 ∧ r.2.2.1 = 0 ∧ r.2.2.2.2.1 = 0)) true && whyB r)
theorem why_eq {X : Option Bool} (r : DayRow) (h0 : 0 ≤ r.2.2.2.2.1) (hX : X = some (wordB r.2.2.2.2.2.1)) :
    cond (decide (r.2.2.2.2.1 = (0 : Int))) (cond (decide (r.2.2.2.2.2.1 = (ByteArray.mk #[]))) (some true) (cond (decide ((0 : Int) < r.2.2.2.2.1)) (X.bind fun y => some y) (some false))) (cond (decide ((0 : Int) < r.2.2.2.2.1)) (X.bind fun y => some y) (some false)) = some (whyB r) := by
  unfold whyB
  subst hX
  by_cases h1 : r.2.2.2.2.1 = 0
  · rw [cond_dt h1, cond_dt h1, cond_df (show ¬ (0 : Int) < r.2.2.2.2.1 by omega)]
    cases decide (r.2.2.2.2.2.1 = ByteArray.mk #[]) <;> rfl
  · rw [cond_df h1, cond_df h1, cond_dt (show (0 : Int) < r.2.2.2.2.1 by omega)]; rfl
theorem isRow_eq (r : DayRow) (h : r.2.2.2.2.2.1.size ≤ 1000000000) : impl_IsDayRow r = some (rowB r) := by
  unfold impl_IsDayRow impl_isDay rowB numsB
  simp only [within_eq, Option.bind_some]
  by_cases h1 : 0 ≤ r.1 ∧ r.1 ≤ 999
  case neg => rw [cond_ndf h1, decide_eq_false h1]; rfl
  by_cases h2 : 0 ≤ r.2.1 ∧ r.2.1 ≤ 99999
  case neg => rw [cond_ndt h1, cond_ndf h2, decide_eq_true h1, decide_eq_false h2]; rfl
  by_cases h3 : 0 ≤ r.2.2.1 ∧ r.2.2.1 ≤ 99999
  case neg => rw [cond_ndt h1, cond_ndt h2, cond_ndf h3, decide_eq_true h1, decide_eq_true h2, decide_eq_false h3]; rfl
  by_cases h4 : 0 ≤ r.2.2.2.1 ∧ r.2.2.2.1 ≤ 24
  case neg => rw [cond_ndt h1, cond_ndt h2, cond_ndt h3, cond_ndf h4, decide_eq_true h1, decide_eq_true h2, decide_eq_true h3, decide_eq_false h4]; rfl
  by_cases h5 : 0 ≤ r.2.2.2.2.1 ∧ r.2.2.2.2.1 ≤ 99
  case neg => rw [cond_ndt h1, cond_ndt h2, cond_ndt h3, cond_ndt h4, cond_ndf h5, decide_eq_true h1, decide_eq_true h2, decide_eq_true h3, decide_eq_true h4, decide_eq_false h5]; rfl
  rw [cond_ndt h1, cond_ndt h2, cond_ndt h3, cond_ndt h4, cond_ndt h5, decide_eq_true h1, decide_eq_true h2, decide_eq_true h3, decide_eq_true h4, decide_eq_true h5]
  simp only [Bool.true_and]
  have hw := isWord_eq r.2.2.2.2.2.1 h
  rw [why_eq r h5.1 hw]
  by_cases h6 : r.2.2.2.1 = 0
  · rw [cond_dt h6, cond_dt h6, w64_id (x := r.2.1 + r.2.2.1) (by omega) (by omega), w64_id (by omega) (by omega)]
    by_cases h7 : 0 < r.2.1 + r.2.2.1 + r.2.2.2.2.1
    · rw [cond_dt h7, decide_eq_false (by omega)]; rfl
    · rw [cond_df h7, decide_eq_true (by omega)]; rfl
  · rw [cond_df h6, cond_df h6]; rfl
theorem one_eq (r : DayRow) (h : r.2.2.2.2.2.1.size ≤ 1000000000) : spec_l26One r = some (rowB r) := by
  unfold spec_l26One rowB numsB
  simp only [l1In_eq, Option.bind_some]
  by_cases h1 : 0 ≤ r.1 ∧ r.1 ≤ 999
  case neg => rw [cond_ndf h1, decide_eq_false h1]; rfl
  by_cases h2 : 0 ≤ r.2.1 ∧ r.2.1 ≤ 99999
  case neg => rw [cond_ndt h1, cond_ndf h2, decide_eq_true h1, decide_eq_false h2]; rfl
  by_cases h3 : 0 ≤ r.2.2.1 ∧ r.2.2.1 ≤ 99999
  case neg => rw [cond_ndt h1, cond_ndt h2, cond_ndf h3, decide_eq_true h1, decide_eq_true h2, decide_eq_false h3]; rfl
  by_cases h4 : 0 ≤ r.2.2.2.1 ∧ r.2.2.2.1 ≤ 24
  case neg => rw [cond_ndt h1, cond_ndt h2, cond_ndt h3, cond_ndf h4, decide_eq_true h1, decide_eq_true h2, decide_eq_true h3, decide_eq_false h4]; rfl
  by_cases h5 : 0 ≤ r.2.2.2.2.1 ∧ r.2.2.2.2.1 ≤ 99
  case neg => rw [cond_ndt h1, cond_ndt h2, cond_ndt h3, cond_ndt h4, cond_ndf h5, decide_eq_true h1, decide_eq_true h2, decide_eq_true h3, decide_eq_true h4, decide_eq_false h5]; rfl
  rw [cond_ndt h1, cond_ndt h2, cond_ndt h3, cond_ndt h4, cond_ndt h5, decide_eq_true h1, decide_eq_true h2, decide_eq_true h3, decide_eq_true h4, decide_eq_true h5]
  simp only [Bool.true_and]
  have hw := l2Word_eq r.2.2.2.2.2.1 h
  rw [why_eq r h5.1 hw]
  by_cases h6 : r.2.2.2.1 = 0
  · rw [cond_dt h6, cond_dt h6]
    by_cases h7 : 0 < r.2.1
    · rw [cond_dt h7, decide_eq_false (by omega)]; rfl
    rw [cond_df h7]
    by_cases h8 : 0 < r.2.2.1
    · rw [cond_dt h8, decide_eq_false (by omega)]; rfl
    rw [cond_df h8]
    by_cases h9 : 0 < r.2.2.2.2.1
    · rw [cond_dt h9, decide_eq_false (by omega)]; rfl
    rw [cond_df h9, decide_eq_true (by omega)]; rfl
  · rw [cond_df h6, cond_df h6]; rfl
theorem row_eta (r : DayRow) : ((r.1, r.2.1, r.2.2.1, r.2.2.2.1, r.2.2.2.2.1, r.2.2.2.2.2.1, ()) : DayRow) = r := rfl
/-- A row's line. -/
theorem nums_out {r : DayRow} (h : rowB r = true) : ((0 ≤ r.1 ∧ r.1 ≤ 999) ∧ (0 ≤ r.2.1 ∧ r.2.1 ≤ 99999)) ∧ ((0 ≤ r.2.2.1 ∧ r.2.2.1 ≤ 99999) ∧ (0 ≤ r.2.2.2.1 ∧ r.2.2.2.1 ≤ 24)) ∧ (0 ≤ r.2.2.2.2.1 ∧ r.2.2.2.2.1 ≤ 99) := by
  unfold rowB numsB at h
  simp only [Bool.and_eq_true, decide_eq_true_eq] at h
  obtain ⟨⟨a, b, c, d, e⟩, _⟩ := h
  exact ⟨⟨a, b⟩, ⟨c, d⟩, e⟩
theorem szRow_eq (a : DayRow) (k : Int) : ∃ y, laws_szDayRow a k = some y := by
  unfold laws_szDayRow
  simp only [Bool.cond_eq_ite]
  split <;> exact ⟨_, rfl⟩
theorem iter_tot {S R : Type} {f : S → Option (Lp S R)} (I : Nat → S → Prop) (Q : R → Prop) (n : Nat)
    (h : ∀ k s, k < n → I k s → (∃ s', f s = some (.go s') ∧ I (k + 1) s') ∨ ∃ r, f s = some (.out r) ∧ Q r)
    (h' : ∀ s, I n s → ∃ r, f s = some (.out r) ∧ Q r) {s : S} (h0 : I 0 s) : ∃ r, iter f s = some r ∧ Q r := by
  have key : ∀ d k s, k + d = n → I k s → ∃ r, iter f s = some r ∧ Q r := by
    intro d
    induction d with
    | zero =>
      intro k s hk hI
      obtain rfl : k = n := by omega
      obtain ⟨r, a, q⟩ := h' s hI
      exact ⟨r, iter_out a, q⟩
    | succ d ih =>
      intro k s hk hI
      rcases h k s (by omega) hI with ⟨s', a, hI'⟩ | ⟨r, a, q⟩
      · obtain ⟨r, e, q⟩ := ih (k + 1) s' (by omega) hI'
        exact ⟨r, (iter_go a).trans e, q⟩
      · exact ⟨r, iter_out a, q⟩
  exact key n 0 s (by omega) h0
theorem toRow_eq (r : DayRow) : laws_toDayRow r = some r := rfl
theorem toRows_eq (l : List DayRow) (h : l.length ≤ 1048576) : laws_toDayRowS l = some l := by
  unfold laws_toDayRowS
  rw [grd_pos (by omega)]
  have H : iter (fun s => laws_toDayRowS_loop1 l s.1 s.2) ((0 : Int), (List.replicate (l.length : Int).toNat ((0 : Int), (0 : Int), (0 : Int), (0 : Int), (0 : Int), (ByteArray.mk #[]), ()))) = some l :=
    iter_copy l ((0 : Int), (0 : Int), (0 : Int), (0 : Int), (0 : Int), (ByteArray.mk #[]), ()) d_DayRow (fun k m hk hm => by
      show laws_toDayRowS_loop1 l (k : Int) m = _
      unfold laws_toDayRowS_loop1
      rw [cond_dt (by omega), grd_pos (by omega), row_eta, toRow_eq, Option.bind_some, grd_pos (by omega), w64_nat (by omega)]
      rfl) (by
      show laws_toDayRowS_loop1 l (l.length : Int) l = _
      unfold laws_toDayRowS_loop1
      rw [cond_df (by omega)]) rfl
  rw [H]; rfl
theorem eqRow_eq (r : DayRow) : laws_eqDayRow r r = some true := by
  unfold laws_eqDayRow
  simp only [decide_true, Bool.not_true, cond_false]
theorem eqRows_eq (l : List DayRow) (h : l.length ≤ 1048576) : laws_eqDayRowS l l = some true := by
  unfold laws_eqDayRowS
  rw [cond_ndt rfl]
  have H : iter (fun s => laws_eqDayRowS_loop1 l l s) (0 : Int) = some (Sum.inr ()) :=
    iter_for l.length (fun k => (k : Int)) (fun k hk => by
      show laws_eqDayRowS_loop1 l l (k : Int) = _
      unfold laws_eqDayRowS_loop1
      rw [cond_dt (by omega), grd_pos (by omega), grd_pos (by omega), row_eta, eqRow_eq, w64_nat (by omega)]
      rfl) (by
      show laws_eqDayRowS_loop1 l l (l.length : Int) = _
      unfold laws_eqDayRowS_loop1
      rw [cond_df (by omega)]) rfl
  rw [H]; rfl
theorem szRow_ex (a : DayRow) (k : Int) : ∃ y, laws_szDayRow a k = some y := by
  unfold laws_szDayRow
  simp only [Bool.cond_eq_ite]
  split <;> exact ⟨_, rfl⟩
theorem szRows_ex (l : List DayRow) (h : l.length ≤ 1048576) (n : Int) : ∃ y, laws_szDayRowS l n = some y := by
  unfold laws_szDayRowS
  obtain ⟨r, e, _⟩ := iter_tot (f := fun s => laws_szDayRowS_loop1 l s.1 s.2) (fun k s => s.2 = (k : Int)) (fun _ => True) l.length (by
    rintro k ⟨v, i⟩ hk rfl
    obtain ⟨y, hy⟩ := szRow_ex (l.getD k d_DayRow) v
    have e : laws_szDayRowS_loop1 l v (k : Int) = cond (decide (y < 0)) (some (.out (Sum.inl ()))) (some (.go (y, ((k + 1 : Nat) : Int)))) := by
      unfold laws_szDayRowS_loop1
      rw [cond_dt (by omega), grd_pos (by omega), row_eta, Int.toNat_natCast, hy, Option.bind_some, w64_nat (by omega)]
    by_cases h0 : y < 0
    · rw [cond_dt h0] at e; exact .inr ⟨_, e, trivial⟩
    · rw [cond_df h0] at e; exact .inl ⟨_, e, rfl⟩) (by
    rintro ⟨v, i⟩ rfl
    refine ⟨Sum.inr v, ?_, trivial⟩
    show laws_szDayRowS_loop1 l v (l.length : Int) = _
    unfold laws_szDayRowS_loop1
    rw [cond_df (by omega)]) (s := (w64 (n - (l.length : Int)), (0 : Int))) rfl
  rw [e]
  by_cases h0 : w64 (n - (l.length : Int)) < 0
  · rw [cond_dt h0]; exact ⟨_, rfl⟩
  · rw [cond_df h0]
    cases r <;> exact ⟨_, rfl⟩
def okK (l : List DayRow) (k : Nat) : Bool := rowB (l.getD k d_DayRow) && !(decide (0 < k) && decide ((l.getD k d_DayRow).1 ≤ (l.getD (k - 1) d_DayRow).1))
def okL (l : List DayRow) : Bool := (List.range l.length).all (okK l) && decide ((l.length : Int) ≤ 14)
theorem okL_out {l : List DayRow} (h : okL l = true) : l.length ≤ 14 ∧ ∀ k, k < l.length → rowB (l.getD k d_DayRow) = true := by
  unfold okL at h
  simp only [Bool.and_eq_true, decide_eq_true_eq, List.all_eq_true, List.mem_range] at h
  refine ⟨by omega, fun k hk => ?_⟩
  have := h.1 k hk
  unfold okK at this
  simp only [Bool.and_eq_true] at this
  exact this.1
def Small (l : List DayRow) : Prop := l.length ≤ 1048576 ∧ ∀ k, (l.getD k d_DayRow).2.2.2.2.2.1.size ≤ 1048576
theorem small_of {l : List DayRow} (h : Ty.fit (.sl ty_DayRow) l) : Small l := by
  refine ⟨h.1, fun k => ?_⟩
  rcases Nat.lt_or_ge k l.length with hk | hk
  · rw [getD_eq l k _ hk]
    have := h.2 l[k] (List.getElem_mem hk)
    exact this.2.2.2.2.2.1
  · have : l.getD k d_DayRow = d_DayRow := by simp [List.getD_eq_getElem?_getD, List.getElem?_eq_none hk]
    rw [this]; decide
theorem are_step (l : List DayRow) (k : Nat) (hk : k < l.length) (h : Small l) : impl_AreDayRows_loop1 l (k : Int) = some (if okK l k then .go ((k + 1 : Nat) : Int) else .out (Sum.inl ())) := by
  have hl := h.1
  unfold impl_AreDayRows_loop1
  rw [cond_dt (by omega), grd_pos (by omega), row_eta, Int.toNat_natCast, isRow_eq _ (by have := h.2 k; omega), Option.bind_some, w64_nat (by omega)]
  unfold okK
  cases rowB (l.getD k d_DayRow) with
  | false => rfl
  | true =>
    rw [Bool.not_true, cond_false, Bool.true_and]
    by_cases h0 : 0 < k
    · have e : w64 ((k : Int) - 1) = ((k - 1 : Nat) : Int) := by rw [w64_id (by omega) (by omega)]; omega
      rw [cond_dt (by omega), e, grd_pos (by omega), Int.toNat_natCast, decide_eq_true h0, Bool.true_and]
      cases decide ((l.getD k d_DayRow).1 ≤ (l.getD (k - 1) d_DayRow).1) <;> rfl
    · rw [cond_df (by omega), decide_eq_false h0]; rfl
theorem good_step (l : List DayRow) (k : Nat) (hk : k < l.length) (h : Small l) : spec_l26Good_loop1 l (k : Int) = some (if okK l k then .go ((k + 1 : Nat) : Int) else .out (Sum.inl ())) := by
  have hl := h.1
  unfold spec_l26Good_loop1
  rw [cond_dt (by omega), grd_pos (by omega), row_eta, Int.toNat_natCast, one_eq _ (by have := h.2 k; omega), Option.bind_some, w64_nat (by omega)]
  unfold okK
  cases rowB (l.getD k d_DayRow) with
  | false => rfl
  | true =>
    rw [Bool.not_true, cond_false, Bool.true_and]
    by_cases h0 : 0 < k
    · have e : w64 ((k : Int) - 1) = ((k - 1 : Nat) : Int) := by rw [w64_id (by omega) (by omega)]; omega
      rw [cond_dt (by omega), e, grd_pos (by omega), grd_pos (by omega), Int.toNat_natCast, decide_eq_true h0, Bool.true_and]
      cases decide ((l.getD k d_DayRow).1 ≤ (l.getD (k - 1) d_DayRow).1) <;> rfl
    · rw [cond_df (by omega), decide_eq_false h0]; rfl
theorem are_eq (l : List DayRow) (h : Small l) : impl_AreDayRows l = some (okL l) := by
  have hl := h.1
  unfold impl_AreDayRows
  have H : iter (fun s => impl_AreDayRows_loop1 l s) (0 : Int) = some (if (List.range l.length).all (okK l) then (Sum.inr () : Unit ⊕ Unit) else Sum.inl ()) :=
    iter_allN l.length (okK l) (fun k => (k : Int)) (fun k hk => are_step l k hk h) (by
      show impl_AreDayRows_loop1 l (l.length : Int) = _
      unfold impl_AreDayRows_loop1
      rw [cond_df (by omega)]) rfl
  rw [H, Option.bind_some]
  unfold okL
  cases (List.range l.length).all (okK l) <;> rfl
theorem rows_eq (l : List DayRow) (h : Small l) : spec_l26Good l = some (okL l) := by
  have hl := h.1
  unfold spec_l26Good
  have H : iter (fun s => spec_l26Good_loop1 l s) (0 : Int) = some (if (List.range l.length).all (okK l) then (Sum.inr () : Unit ⊕ Unit) else Sum.inl ()) :=
    iter_allN l.length (okK l) (fun k => (k : Int)) (fun k hk => good_step l k hk h) (by
      show spec_l26Good_loop1 l (l.length : Int) = _
      unfold spec_l26Good_loop1
      rw [cond_df (by omega)]) rfl
  rw [H, Option.bind_some]
  unfold okL
  cases (List.range l.length).all (okK l) <;> rfl
/-- Sums over the first rows. -/
def sumK (f : DayRow → Int) (l : List DayRow) : Nat → Int
  | 0 => 0
  | k + 1 => sumK f l k + f (l.getD k d_DayRow)
theorem sumK_range (f : DayRow → Int) (l : List DayRow) (n : Nat) (h : ∀ k, k < n → -99999 ≤ f (l.getD k d_DayRow) ∧ f (l.getD k d_DayRow) ≤ 99999) : ∀ k, k ≤ n → -(99999 * (k : Int)) ≤ sumK f l k ∧ sumK f l k ≤ 99999 * (k : Int)
  | 0, _ => by simp [sumK]
  | k + 1, hk => by
    have := sumK_range f l n h k (by omega)
    have := h k (by omega)
    simp only [sumK]; omega
theorem sumK_pos (f : DayRow → Int) (l : List DayRow) (n : Nat) (h : ∀ k, k < n → 0 ≤ f (l.getD k d_DayRow)) : ∀ k, k ≤ n → 0 ≤ sumK f l k
  | 0, _ => by simp [sumK]
  | k + 1, hk => by
    have := sumK_pos f l n h k (by omega)
    have := h k (by omega)
    simp only [sumK]; omega
theorem ups_in {l : List DayRow} {n : Nat} (hr : ∀ k, k < n → rowB (l.getD k d_DayRow) = true) :
    (∀ k, k < n → -99999 ≤ (l.getD k d_DayRow).2.1 ∧ (l.getD k d_DayRow).2.1 ≤ 99999) ∧ (∀ k, k < n → -99999 ≤ (l.getD k d_DayRow).2.2.1 ∧ (l.getD k d_DayRow).2.2.1 ≤ 99999) ∧ (∀ k, k < n → -99999 ≤ (l.getD k d_DayRow).2.2.2.1 ∧ (l.getD k d_DayRow).2.2.2.1 ≤ 99999) := by
  refine ⟨fun k hk => ?_, fun k hk => ?_, fun k hk => ?_⟩
  all_goals
    obtain ⟨⟨_, h2⟩, ⟨h3, h4⟩, _⟩ := nums_out (hr k hk)
    omega
theorem eqIntS_eq (l : List Int) (h : l.length ≤ 1048576) : laws_eqIntS l l = some true := by
  unfold laws_eqIntS
  rw [cond_ndt rfl]
  have H : iter (fun s => laws_eqIntS_loop1 l l s) (0 : Int) = some (Sum.inr ()) :=
    iter_for l.length (fun k => (k : Int)) (fun k hk => by
      show laws_eqIntS_loop1 l l (k : Int) = _
      unfold laws_eqIntS_loop1
      rw [cond_dt (by omega), grd_pos (by omega), grd_pos (by omega), cond_ndt rfl, w64_nat (by omega)]) (by
      show laws_eqIntS_loop1 l l (l.length : Int) = _
      unfold laws_eqIntS_loop1
      rw [cond_df (by omega)]) rfl
  rw [H]; rfl
theorem adv1_eq (n : Nat) (h : n ≤ 1048576) : advN (fun k => w64 (k + 1)) n 1 = 1 + (n : Int) := by
  have := advN_add (fun k => w64 (k + 1)) 1 4611686018427387904 (fun k h1 h2 => by
    show w64 (k + 1) = _
    rw [w64_id (by omega) (by omega)]; rfl) n 1 (by omega) (by omega)
  rw [this]; omega
theorem markIntS_eq (l : List Int) (h : l.length ≤ 1048576) : laws_markIntS l 1 = some (1 + (l.length : Int), marksL (fun k => w64 (k + 1)) (fun k => k) l.length 1) := by
  unfold laws_markIntS
  have H : iter (fun s => laws_markIntS_loop1 s.1 s.2.1 s.2.2) ((1 : Int), (0 : Int), l) = some (advN (fun k => w64 (k + 1)) l.length 1, marksL (fun k => w64 (k + 1)) (fun k => k) l.length 1) :=
    iter_mark _ _ l 1 (fun k i m hi hm => by
      show laws_markIntS_loop1 k (i : Int) m = _
      unfold laws_markIntS_loop1
      rw [cond_dt (by omega), grd_pos (by omega), w64_nat (by omega), Int.toNat_natCast]) (fun k m hm => by
      show laws_markIntS_loop1 k (m.length : Int) m = _
      unfold laws_markIntS_loop1
      rw [cond_df (by omega)])
  rw [H, adv1_eq _ h]; rfl
theorem heldIntS_eq (n : Nat) (h : n ≤ 1048576) : laws_heldIntS (marksL (fun k => w64 (k + 1)) (fun k => k) n 1) 1 = some (1 + (n : Int)) := by
  unfold laws_heldIntS
  have hl := marksL_length (fun k => w64 (k + 1)) (fun k : Int => k) n 1
  have H : iter (fun s => laws_heldIntS_loop1 (marksL (fun k => w64 (k + 1)) (fun k => k) n 1) s.1 s.2) ((1 : Int), (0 : Int)) = some (Sum.inr (advN (fun k => w64 (k + 1)) n 1)) :=
    iter_held _ (fun k => k) 0 n 1 (fun k i hi e => by
      show laws_heldIntS_loop1 _ k (i : Int) = _
      unfold laws_heldIntS_loop1
      rw [cond_dt (by omega), grd_pos (by omega), Int.toNat_natCast, cond_ndt e, w64_nat (by omega)]) (fun k => by
      show laws_heldIntS_loop1 _ k (n : Int) = _
      unfold laws_heldIntS_loop1
      rw [cond_df (by omega)])
  rw [H, adv1_eq _ h]; rfl
theorem heldIntS_nil : laws_heldIntS [] 1 = some 1 := heldIntS_eq 0 (by omega)

theorem take_next {α : Type} (l : List α) (k : Nat) (h : k < l.length) (d : α) : l.take (k + 1) = l.take k ++ [l.getD k d] := by
  rw [List.take_add_one, List.getElem?_eq_getElem h, getD_eq l k d h]; rfl
def orK (l : List DayRow) : Nat → List (List Int)
  | 0 => []
  | k + 1 => if (l.getD k d_DayRow).2.2.2.1 = 0 then orK l k else
      if 0 < (orK l k).length ∧ ((orK l k).getD ((orK l k).length - 1) []).getD 1 0 = w64 ((l.getD k d_DayRow).1 - 1) then (orK l k).set ((orK l k).length - 1) [((orK l k).getD ((orK l k).length - 1) []).getD 0 0, (l.getD k d_DayRow).1]
      else orK l k ++ [[(l.getD k d_DayRow).1, (l.getD k d_DayRow).1]]
theorem orK_zero {l : List DayRow} {k : Nat} (h : (l.getD k d_DayRow).2.2.2.1 = 0) : orK l (k + 1) = orK l k := by rw [orK, if_pos h]
theorem orK_nil {l : List DayRow} {k : Nat} (h : ¬ (l.getD k d_DayRow).2.2.2.1 = 0) (e : orK l k = []) : orK l (k + 1) = orK l k ++ [[(l.getD k d_DayRow).1, (l.getD k d_DayRow).1]] := by
  rw [orK, if_neg h, if_neg (fun q => by rw [e] at q; exact absurd q.1 (by simp))]
theorem orK_on {l : List DayRow} {k : Nat} (h : ¬ (l.getD k d_DayRow).2.2.2.1 = 0) {init : List (List Int)} {a b : Int} (e : orK l k = init ++ [[a, b]]) (hb : b = w64 ((l.getD k d_DayRow).1 - 1)) : orK l (k + 1) = init ++ [[a, (l.getD k d_DayRow).1]] := by
  have hl : (init ++ [[a, b]]).length - 1 = init.length := by simp
  rw [orK, if_neg h, e, hl, getD_mid, if_pos ⟨by simp, hb⟩, set_mid]
  rfl
theorem orK_new {l : List DayRow} {k : Nat} (h : ¬ (l.getD k d_DayRow).2.2.2.1 = 0) {init : List (List Int)} {a b : Int} (e : orK l k = init ++ [[a, b]]) (hb : ¬ b = w64 ((l.getD k d_DayRow).1 - 1)) : orK l (k + 1) = orK l k ++ [[(l.getD k d_DayRow).1, (l.getD k d_DayRow).1]] := by
  have hl : (init ++ [[a, b]]).length - 1 = init.length := by simp
  rw [orK, if_neg h, e, hl, getD_mid, if_neg (fun q => hb q.2)]
def sumR : List (List Int) → Int
  | [] => 0
  | r :: rs => (r.getD 1 0 - r.getD 0 0 + 1) + sumR rs
theorem sumR_app (x y : List (List Int)) : sumR (x ++ y) = sumR x + sumR y := by
  induction x with
  | nil => simp [sumR]
  | cons a x ih => simp only [List.cons_append, sumR, ih]; omega
def opK (l : List DayRow) : Nat → Nat
  | 0 => 0
  | k + 1 => if 0 < (l.getD k d_DayRow).2.2.2.1 then opK l k + 1 else opK l k
theorem opK_le (l : List DayRow) : ∀ k, opK l k ≤ k
  | 0 => Nat.le_refl _
  | k + 1 => by have := opK_le l k; rw [opK]; split <;> omega
def Pair (row : List Int) : Prop := ∃ a b, row = [a, b] ∧ 0 ≤ a ∧ a ≤ b ∧ b ≤ 999
theorem orK_inv {l : List DayRow} (ho : okL l = true) : ∀ k, k ≤ l.length → (orK l k).length ≤ k ∧ (∀ row ∈ orK l k, Pair row) ∧ sumR (orK l k) = (opK l k : Nat) := by
  obtain ⟨hn, hr⟩ := okL_out ho
  intro k
  induction k with
  | zero => intro _; exact ⟨by simp [orK], fun row h => (by simp [orK] at h), rfl⟩
  | succ k ih =>
    intro hk
    obtain ⟨i1, i2, i3⟩ := ih (by omega)
    obtain ⟨⟨n1, n2⟩, ⟨n3, n4⟩, n5⟩ := nums_out (hr k (by omega))
    rw [opK]
    by_cases h0 : (l.getD k d_DayRow).2.2.2.1 = 0
    · rw [orK_zero h0, if_neg (by omega)]
      exact ⟨by omega, i2, i3⟩
    · rw [if_pos (by omega)]
      have new : orK l (k + 1) = orK l k ++ [[(l.getD k d_DayRow).1, (l.getD k d_DayRow).1]] → (orK l (k + 1)).length ≤ k + 1 ∧ (∀ row ∈ orK l (k + 1), Pair row) ∧ sumR (orK l (k + 1)) = ((opK l k + 1 : Nat) : Int) := fun e => by
        rw [e]
        refine ⟨by simp; omega, fun row h => ?_, ?_⟩
        · rcases List.mem_append.1 h with h | h
          · exact i2 row h
          · rw [List.mem_singleton.1 h]; exact ⟨_, _, rfl, by omega, by omega, by omega⟩
        · rw [sumR_app, i3]
          show _ + (((l.getD k d_DayRow).1 - (l.getD k d_DayRow).1 + 1) + 0) = _
          omega
      rcases List.eq_nil_or_concat (orK l k) with e | ⟨init, row, e⟩
      · exact new (orK_nil h0 e)
      · have e : orK l k = init ++ [row] := by rw [e]; simp
        obtain ⟨a, b, rfl, p1, p2, p3⟩ := i2 row (by rw [e]; simp)
        by_cases hb : b = w64 ((l.getD k d_DayRow).1 - 1)
        · have hb2 : b = (l.getD k d_DayRow).1 - 1 := by rw [hb, w64_id (by omega) (by omega)]
          rw [orK_on h0 e hb]
          rw [e, sumR_app] at i3
          have i3 : sumR init + ((b - a + 1) + 0) = _ := i3
          rw [e] at i1
          refine ⟨by simp at i1 ⊢; omega, fun row h => ?_, ?_⟩
          · rcases List.mem_append.1 h with h | h
            · exact i2 row (by rw [e]; exact List.mem_append_left _ h)
            · rw [List.mem_singleton.1 h]; exact ⟨_, _, rfl, by omega, by omega, by omega⟩
          · rw [sumR_app]
            show _ + (((l.getD k d_DayRow).1 - a + 1) + 0) = _
            omega
        · exact new (orK_new h0 e hb)
theorem runs_impl {l : List DayRow} (ho : okL l = true) : iter (fun s => impl_OpenRuns_loop1 l s.1 s.2) ((0 : Int), ([] : List (List Int))) = some (orK l l.length) := by
  obtain ⟨hn, hr⟩ := okL_out ho
  refine iter_for l.length (fun k => ((k : Int), orK l k)) (fun k hk => ?_) ?_ rfl
  · show impl_OpenRuns_loop1 l (k : Int) (orK l k) = _
    obtain ⟨i1, i2, i3⟩ := orK_inv ho k (by omega)
    unfold impl_OpenRuns_loop1
    rw [cond_dt (by omega), grd_pos (by omega)]
    simp only [Int.toNat_natCast]
    rw [w64_nat (by omega)]
    by_cases h0 : (l.getD k d_DayRow).2.2.2.1 = 0
    · rw [cond_dt h0, orK_zero h0]
    · rw [cond_df h0]
      rcases List.eq_nil_or_concat (orK l k) with e | ⟨init, row, e⟩
      · rw [orK_nil h0 e, e, cond_df (by show ¬ (0 : Int) ≤ w64 (-1); rw [w64_id (by omega) (by omega)]; omega), grd_pos (by simp)]
      · have e : orK l k = init ++ [row] := by rw [e]; simp
        obtain ⟨a, b, rfl, p1, p2, p3⟩ := i2 row (by rw [e]; simp)
        have hl : (init ++ [[a, b]]).length = init.length + 1 := by simp
        have hw : w64 (((init.length + 1 : Nat) : Int) - 1) = (init.length : Int) := by rw [w64_id (by rw [e] at i1; simp at i1; omega) (by rw [e] at i1; simp at i1; omega)]; omega
        by_cases hb : b = w64 ((l.getD k d_DayRow).1 - 1)
        · rw [orK_on h0 e hb, e, hl, hw, cond_dt (by omega), grd_pos (by omega), Int.toNat_natCast, getD_mid, grd_pos (by simp), cond_dt (show ([a, b].getD (1 : Int).toNat 0) = _ from hb), grd_pos (by omega), grd_pos (by simp), set_mid]
          rfl
        · rw [orK_new h0 e hb, e, hl, hw, cond_dt (by omega), grd_pos (by omega), Int.toNat_natCast, getD_mid, grd_pos (by simp), cond_df (show ¬ ([a, b].getD (1 : Int).toNat 0) = _ from hb), grd_pos (by rw [e, hl] at i1; simp only [List.length_singleton]; omega)]
  · show impl_OpenRuns_loop1 l (l.length : Int) (orK l l.length) = _
    unfold impl_OpenRuns_loop1
    rw [cond_df (by omega)]
theorem runs_spec {l : List DayRow} (ho : okL l = true) : iter (fun s => spec_OpenRuns_loop1 l s.1 s.2) ((0 : Int), ([] : List (List Int))) = some (orK l l.length) := by
  obtain ⟨hn, hr⟩ := okL_out ho
  refine iter_for l.length (fun k => ((k : Int), orK l k)) (fun k hk => ?_) ?_ rfl
  · show spec_OpenRuns_loop1 l (k : Int) (orK l k) = _
    obtain ⟨i1, i2, i3⟩ := orK_inv ho k (by omega)
    unfold spec_OpenRuns_loop1
    rw [cond_dt (by omega), grd_pos (by omega), grd_pos (by omega)]
    simp only [Int.toNat_natCast]
    rw [w64_nat (by omega)]
    by_cases h0 : (l.getD k d_DayRow).2.2.2.1 = 0
    · rw [cond_dt h0, orK_zero h0]
    · rw [cond_df h0]
      rcases List.eq_nil_or_concat (orK l k) with e | ⟨init, row, e⟩
      · rw [orK_nil h0 e, e, cond_df (by simp), grd_pos (by simp)]
      · have e : orK l k = init ++ [row] := by rw [e]; simp
        obtain ⟨a, b, rfl, p1, p2, p3⟩ := i2 row (by rw [e]; simp)
        have hl : (init ++ [[a, b]]).length = init.length + 1 := by simp
        have hw : w64 (((init.length + 1 : Nat) : Int) - 1) = (init.length : Int) := by rw [w64_id (by rw [e] at i1; simp at i1; omega) (by rw [e] at i1; simp at i1; omega)]; omega
        by_cases hb : b = w64 ((l.getD k d_DayRow).1 - 1)
        · rw [orK_on h0 e hb, e, hl, hw, cond_dt (by omega), grd_pos (by omega), Int.toNat_natCast, getD_mid, grd_pos (by simp), cond_dt (show ([a, b].getD (1 : Int).toNat 0) = _ from hb), grd_pos (by omega), grd_pos (by simp), grd_pos (by omega), set_mid]
          rfl
        · rw [orK_new h0 e hb, e, hl, hw, cond_dt (by omega), grd_pos (by omega), Int.toNat_natCast, getD_mid, grd_pos (by simp), cond_df (show ¬ ([a, b].getD (1 : Int).toNat 0) = _ from hb), grd_pos (by rw [e, hl] at i1; simp only [List.length_singleton]; omega)]
  · show spec_OpenRuns_loop1 l (l.length : Int) (orK l l.length) = _
    unfold spec_OpenRuns_loop1
    rw [cond_df (by omega)]
theorem runs_eq (l : List DayRow) (h : Small l) : (impl_OpenRuns l = some (.inl ()) ∧ spec_OpenRuns l = some ([], false, l)) ∨ (okL l = true ∧ impl_OpenRuns l = some (.inr (orK l l.length)) ∧ spec_OpenRuns l = some (orK l l.length, true, l)) := by
  unfold impl_OpenRuns spec_OpenRuns
  rw [rows_eq l h, are_eq l h, Option.bind_some, Option.bind_some]
  cases ho : okL l with
  | false => exact .inl ⟨rfl, rfl⟩
  | true =>
    simp only [Bool.not_true, cond_false]
    rw [runs_impl ho, runs_spec ho]; exact .inr ⟨by simp, rfl, rfl⟩
theorem row_same (r : DayRow) : (decide (r.1 = r.1) && (decide (r.2.1 = r.2.1) && (decide (r.2.2.1 = r.2.2.1) && (decide (r.2.2.2.1 = r.2.2.2.1) && (decide (r.2.2.2.2.1 = r.2.2.2.2.1) && (decide (r.2.2.2.2.2.1 = r.2.2.2.2.2.1) && true)))))) = true := by simp
end Go.Proofs.Ytaajchikfgbecaa
