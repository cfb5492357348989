/-
  Plain laws of numbers as texts, of words and of rows.
-/
import Derived.Test.YteckiilljhdkpaaDoorC314
import Derived.Test.YteckiilljhdkpaaDoorO1
namespace Go.Proofs.YteckiilljhdkpaaDoor
open Go.RowKit

theorem l1In_eq (a lo hi : Int) : spec_l1In a lo hi = some (decide (lo ≤ a ∧ a ≤ hi)) := by
  unfold spec_l1In
  by_cases h : lo ≤ a
  · rw [cond_dt h]; simp [h]
  · rw [cond_df h]; simp [h]
theorem within_eq (a lo hi : Int) : impl_within a lo hi = some (decide (lo ≤ a ∧ a ≤ hi)) := by
  unfold impl_within
  by_cases h : lo ≤ a
  · rw [cond_dt h]; simp [h]
  · rw [cond_df h]; simp [h]

theorem digs_get (d : Nat) (h : d < 10) : bsub (ByteArray.mk #[48, 49, 50, 51, 52, 53, 54, 55, 56, 57]) (d : Int) (w64 ((d : Int) + 1)) = bs [UInt8.ofNat (48 + d)] := by
  have : w64 ((d : Int) + 1) = ((d + 1 : Nat) : Int) := w64_nat (by omega)
  rw [this, show (ByteArray.mk #[48, 49, 50, 51, 52, 53, 54, 55, 56, 57]) = bs [48, 49, 50, 51, 52, 53, 54, 55, 56, 57] from rfl, bsub_bs]
  have hd : d = 0 ∨ d = 1 ∨ d = 2 ∨ d = 3 ∨ d = 4 ∨ d = 5 ∨ d = 6 ∨ d = 7 ∨ d = 8 ∨ d = 9 := by omega
  rcases hd with rfl | rfl | rfl | rfl | rfl | rfl | rfl | rfl | rfl | rfl <;> rfl
theorem l1Num_f_eq : ∀ (k n : Nat), n < 10 ^ k → n < 1000000000000000000 → spec_l1Num_f (k + 1) (n : Int) = some (bs (Lib.decDigits n))
  | 0, n, h, _ => by
    obtain rfl : n = 0 := by simpa using h
    rw [spec_l1Num_f_succ, cond_df (by omega), cond_dt (by omega), grd_pos ⟨by omega, by decide, by decide⟩]
    have := digs_get 0 (by omega)
    rw [show ((0 : Nat) : Int) = (0 : Int) from rfl] at this ⊢
    rw [this]
    unfold Lib.decDigits
    rw [dif_pos (by omega)]
  | k + 1, n, h, h18 => by
    rw [spec_l1Num_f_succ, cond_df (by omega)]
    by_cases h10 : n < 10
    · have e : w64 ((n : Int) + 1) = ((n + 1 : Nat) : Int) := w64_nat (by omega)
      have hs : (ByteArray.mk #[48, 49, 50, 51, 52, 53, 54, 55, 56, 57]).size = 10 := rfl
      rw [cond_dt (by omega), grd_pos ⟨by omega, by rw [e]; omega, by rw [e, hs]; omega⟩, digs_get n h10]
      unfold Lib.decDigits
      rw [dif_pos h10]
    · have hq : n / 10 < 10 ^ k := by
        rw [Nat.div_lt_iff_lt_mul (by omega)]
        rw [Nat.pow_succ] at h; exact h
      have ih := l1Num_f_eq k (n / 10) hq (by omega)
      have e1 : w64 (Int.tdiv (n : Int) 10) = ((n / 10 : Nat) : Int) := by
        rw [show Int.tdiv (n : Int) 10 = ((n / 10 : Nat) : Int) from by rw [show (10 : Int) = ((10 : Nat) : Int) from rfl, ← Int.ofNat_tdiv]]
        rw [w64_id (by omega) (by omega)]
      have e2 : Int.tmod (n : Int) 10 = ((n % 10 : Nat) : Int) := by rw [show (10 : Int) = ((10 : Nat) : Int) from rfl, ← Int.ofNat_tmod]
      have hlen : (Lib.decDigits (n / 10)).length ≤ 19 := dec_length 18 (n / 10) (by omega)
      have hs : (ByteArray.mk #[48, 49, 50, 51, 52, 53, 54, 55, 56, 57]).size = 10 := rfl
      have e3 : w64 (((n % 10 : Nat) : Int) + 1) = ((n % 10 + 1 : Nat) : Int) := w64_nat (by omega)
      rw [cond_df (by omega), grd_pos (by omega), e1, ih, Option.bind_some]
      simp only [e2]
      have hm : n % 10 < 10 := Nat.mod_lt _ (by omega)
      rw [grd_pos (by omega), grd_pos (by omega), grd_pos ⟨by omega, by rw [e3]; omega, by rw [e3, hs]; omega⟩, digs_get (n % 10) hm, grd_pos (by rw [bs_size, bs_size]; simp; omega), bs_app]
      conv => rhs; unfold Lib.decDigits
      rw [dif_neg h10]
theorem l1Num_eq (n : Nat) (h : n < 1000000000000000000) : spec_l1Num (n : Int) = some (bs (Lib.decDigits n)) := by
  unfold spec_l1Num
  have := l1Num_f_eq 63 n (Nat.lt_of_lt_of_le h (by decide)) h
  exact this
theorem itoa_eq (n : Nat) (h : n < 1000000000000000000) : strconv_Itoa (n : Int) = some (bs (Lib.decDigits n)) := by
  unfold strconv_Itoa
  rw [grd_pos (by omega)]
  have : itoaB (n : Int) = bs (Lib.decDigits n) := by
    unfold itoaB Lib.itoa
    rw [if_neg (by omega), Int.toNat_natCast]
  rw [this]

/-! ### Words -/
def letB (b : UInt8) : Bool := decide (97 ≤ b.toNat ∧ b.toNat ≤ 122)
def wordB (s : ByteArray) : Bool := s.data.toList.all letB && decide ((1 : Int) ≤ (s.size : Int) ∧ (s.size : Int) ≤ 10)
theorem bAt_get (s : ByteArray) (k : Nat) : bAt s (k : Int) = ((s.data.toList.getD k 0).toNat : Int) := by unfold bAt; rw [Int.toNat_natCast]
theorem size_list (s : ByteArray) : s.data.toList.length = s.size := Array.length_toList
theorem isWord_eq (s : ByteArray) (h : s.size ≤ 1000000000) : impl_isWord s = some (wordB s) := by
  have hl := size_list s
  unfold impl_isWord
  have H : iter (fun q => impl_isWord_loop1 s q) (0 : Int) = some (if s.data.toList.all letB then (Sum.inr () : Unit ⊕ Unit) else Sum.inl ()) :=
    iter_all s.data.toList letB 0 (fun k => (k : Int)) (fun k hk => by
      show impl_isWord_loop1 s (k : Int) = _
      unfold impl_isWord_loop1
      rw [cond_dt (by omega), grd_pos (by omega), bAt_get, w64_nat (by omega)]
      generalize s.data.toList.getD k 0 = x
      by_cases h1 : (x.toNat : Int) < 97
      · rw [cond_dt h1, show letB x = false from decide_eq_false (by omega)]; rfl
      · rw [cond_df h1, grd_pos (by omega)]
        by_cases h2 : (122 : Int) < (x.toNat : Int)
        · rw [cond_dt h2, show letB x = false from decide_eq_false (by omega)]; rfl
        · rw [cond_df h2, show letB x = true from decide_eq_true (by omega)]; rfl) (by
      show impl_isWord_loop1 s (s.data.toList.length : Int) = _
      unfold impl_isWord_loop1
      rw [cond_df (by omega)]) rfl
  rw [H, Option.bind_some]
  unfold wordB
  cases s.data.toList.all letB with
  | false => rfl
  | true =>
    rw [if_pos rfl, Sum.elim_inr]
    by_cases h1 : (1 : Int) ≤ (s.size : Int)
    · rw [cond_dt h1]; simp [h1]
    · rw [cond_df h1]; simp [h1]
theorem l2Word_eq (s : ByteArray) (h : s.size ≤ 1000000000) : spec_l2Word s = some (wordB s) := by
  have hl := size_list s
  unfold spec_l2Word
  have H : iter (fun q => spec_l2Word_loop1 s q) (0 : Int) = some (if s.data.toList.all letB then (Sum.inr () : Unit ⊕ Unit) else Sum.inl ()) :=
    iter_all s.data.toList letB 0 (fun k => (k : Int)) (fun k hk => by
      show spec_l2Word_loop1 s (k : Int) = _
      unfold spec_l2Word_loop1
      rw [cond_dt (by omega), grd_pos (by omega), bAt_get, w64_nat (by omega)]
      generalize s.data.toList.getD k 0 = x
      by_cases h1 : (x.toNat : Int) < 97
      · rw [cond_dt h1, show letB x = false from decide_eq_false (by omega)]; rfl
      · rw [cond_df h1, grd_pos (by omega)]
        by_cases h2 : (122 : Int) < (x.toNat : Int)
        · rw [cond_dt h2, show letB x = false from decide_eq_false (by omega)]; rfl
        · rw [cond_df h2, show letB x = true from decide_eq_true (by omega)]; rfl) (by
      show spec_l2Word_loop1 s (s.data.toList.length : Int) = _
      unfold spec_l2Word_loop1
      rw [cond_df (by omega)]) rfl
  rw [H, Option.bind_some]
  unfold wordB
  cases s.data.toList.all letB with
  | false => rfl
  | true =>
    rw [if_pos rfl, Sum.elim_inr, l1In_eq]; rfl
/-! ### Rows -/
def numsB (r : DayRow) : Bool := decide (0 ≤ r.1 ∧ r.1 ≤ 999) && (decide (0 ≤ r.2.1 ∧ r.2.1 ≤ 99999) && (decide (0 ≤ r.2.2.1 ∧ r.2.2.1 ≤ 99999) && (decide (0 ≤ r.2.2.2.1 ∧ r.2.2.2.1 ≤ 24) && decide (0 ≤ r.2.2.2.2.1 ∧ r.2.2.2.2.1 ≤ 99))))
def whyB (r : DayRow) : Bool := cond (decide (r.2.2.2.2.1 = (0 : Int))) (decide (r.2.2.2.2.2.1 = ByteArray.mk #[])) (wordB r.2.2.2.2.2.1)
def rowB (r : DayRow) : Bool := numsB r && (cond (decide (r.2.2.2.1 = 0)) (decide (r.2.1 = 0 ∧ r.2.2.1 = 0 ∧ r.2.2.2.2.1 = 0)) true && whyB r)
theorem why_eq {X : Option Bool} (r : DayRow) (h0 : 0 ≤ r.2.2.2.2.1) (hX : X = some (wordB r.2.2.2.2.2.1)) :
    cond (decide (r.2.2.2.2.1 = (0 : Int))) (cond (decide (r.2.2.2.2.2.1 = (ByteArray.mk #[]))) (some true) (cond (decide ((0 : Int) < r.2.2.2.2.1)) (X.bind fun y => some y) (some false))) (cond (decide ((0 : Int) < r.2.2.2.2.1)) (X.bind fun y => some y) (some false)) = some (whyB r) := by
  unfold whyB
  subst hX
  by_cases h1 : r.2.2.2.2.1 = 0
  · rw [cond_dt h1, cond_dt h1, cond_df (show ¬ (0 : Int) < r.2.2.2.2.1 by omega)]
    cases decide (r.2.2.2.2.2.1 = ByteArray.mk #[]) <;> rfl
  · rw [cond_df h1, cond_df h1, cond_dt (show (0 : Int) < r.2.2.2.2.1 by omega)]; rfl
theorem isRow_eq (r : DayRow) (h : r.2.2.2.2.2.1.size ≤ 1000000000) : impl_IsDayRow r = some (rowB r) := by
  unfold impl_IsDayRow impl_isDay rowB numsB
  simp only [within_eq, Option.bind_some]
  by_cases h1 : 0 ≤ r.1 ∧ r.1 ≤ 999
  case neg => rw [cond_ndf h1, decide_eq_false h1]; rfl
  by_cases h2 : 0 ≤ r.2.1 ∧ r.2.1 ≤ 99999
  case neg => rw [cond_ndt h1, cond_ndf h2, decide_eq_true h1, decide_eq_false h2]; rfl
  by_cases h3 : 0 ≤ r.2.2.1 ∧ r.2.2.1 ≤ 99999
  case neg => rw [cond_ndt h1, cond_ndt h2, cond_ndf h3, decide_eq_true h1, decide_eq_true h2, decide_eq_false h3]; rfl
  by_cases h4 : 0 ≤ r.2.2.2.1 ∧ r.2.2.2.1 ≤ 24
  case neg => rw [cond_ndt h1, cond_ndt h2, cond_ndt h3, cond_ndf h4, decide_eq_true h1, decide_eq_true h2, decide_eq_true h3, decide_eq_false h4]; rfl
  by_cases h5 : 0 ≤ r.2.2.2.2.1 ∧ r.2.2.2.2.1 ≤ 99
  case neg => rw [cond_ndt h1, cond_ndt h2, cond_ndt h3, cond_ndt h4, cond_ndf h5, decide_eq_true h1, decide_eq_true h2, decide_eq_true h3, decide_eq_true h4, decide_eq_false h5]; rfl
  rw [cond_ndt h1, cond_ndt h2, cond_ndt h3, cond_ndt h4, cond_ndt h5, decide_eq_true h1, decide_eq_true h2, decide_eq_true h3, decide_eq_true h4, decide_eq_true h5]
  simp only [Bool.true_and]
  have hw := isWord_eq r.2.2.2.2.2.1 h
  rw [why_eq r h5.1 hw]
  by_cases h6 : r.2.2.2.1 = 0
  · rw [cond_dt h6, cond_dt h6, w64_id (x := r.2.1 + r.2.2.1) (by omega) (by omega), w64_id (by omega) (by omega)]
    by_cases h7 : 0 < r.2.1 + r.2.2.1 + r.2.2.2.2.1
    · rw [cond_dt h7, decide_eq_false (by omega)]; rfl
    · rw [cond_df h7, decide_eq_true (by omega)]; rfl
  · rw [cond_df h6, cond_df h6]; rfl
theorem one_eq (r : DayRow) (h : r.2.2.2.2.2.1.size ≤ 1000000000) : spec_l26One r = some (rowB r) := by
  unfold spec_l26One rowB numsB
  simp only [l1In_eq, Option.bind_some]
  by_cases h1 : 0 ≤ r.1 ∧ r.1 ≤ 999
  case neg => rw [cond_ndf h1, decide_eq_false h1]; rfl
  by_cases h2 : 0 ≤ r.2.1 ∧ r.2.1 ≤ 99999
  case neg => rw [cond_ndt h1, cond_ndf h2, decide_eq_true h1, decide_eq_false h2]; rfl
  by_cases h3 : 0 ≤ r.2.2.1 ∧ r.2.2.1 ≤ 99999
  case neg => rw [cond_ndt h1, cond_ndt h2, cond_ndf h3, decide_eq_true h1, decide_eq_true h2, decide_eq_false h3]; rfl
  by_cases h4 : 0 ≤ r.2.2.2.1 ∧ r.2.2.2.1 ≤ 24
  case neg => rw [cond_ndt h1, cond_ndt h2, cond_ndt h3, cond_ndf h4, decide_eq_true h1, decide_eq_true h2, decide_eq_true h3, decide_eq_false h4]; rfl
  by_cases h5 : 0 ≤ r.2.2.2.2.1 ∧ r.2.2.2.2.1 ≤ 99
  case neg => rw [cond_ndt h1, cond_ndt h2, cond_ndt h3, cond_ndt h4, cond_ndf h5, decide_eq_true h1, decide_eq_true h2, decide_eq_true h3, decide_eq_true h4, decide_eq_false h5]; rfl
  rw [cond_ndt h1, cond_ndt h2, cond_ndt h3, cond_ndt h4, cond_ndt h5, decide_eq_true h1, decide_eq_true h2, decide_eq_true h3, decide_eq_true h4, decide_eq_true h5]
  simp only [Bool.true_and]
  have hw := l2Word_eq r.2.2.2.2.2.1 h
  rw [why_eq r h5.1 hw]
  by_cases h6 : r.2.2.2.1 = 0
  · rw [cond_dt h6, cond_dt h6]
    by_cases h7 : 0 < r.2.1
    · rw [cond_dt h7, decide_eq_false (by omega)]; rfl
    rw [cond_df h7]
    by_cases h8 : 0 < r.2.2.1
    · rw [cond_dt h8, decide_eq_false (by omega)]; rfl
    rw [cond_df h8]
    by_cases h9 : 0 < r.2.2.2.2.1
    · rw [cond_dt h9, decide_eq_false (by omega)]; rfl
    rw [cond_df h9, decide_eq_true (by omega)]; rfl
  · rw [cond_df h6, cond_df h6]; rfl
theorem row_eta (r : DayRow) : ((r.1, r.2.1, r.2.2.1, r.2.2.2.1, r.2.2.2.2.1, r.2.2.2.2.2.1, ()) : DayRow) = r := rfl
end Go.Proofs.YteckiilljhdkpaaDoor
