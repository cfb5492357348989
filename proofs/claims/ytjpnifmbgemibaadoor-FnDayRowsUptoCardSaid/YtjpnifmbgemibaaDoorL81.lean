/-
  Plain laws, carried over from texts of other seats.
-/
import Derived.Test.YtjpnifmbgemibaaDoorC818
import Derived.Test.YtjpnifmbgemibaaDoorO1
import Derived.Test.YtjpnifmbgemibaaDoorTN
import Derived.Test.YtjpnifmbgemibaaDoorL2
namespace Go.Proofs.YtjpnifmbgemibaaDoor
open Go.RowKit

theorem l1In_eq (a lo hi : Int) : spec_l1In a lo hi = some (decide (lo ≤ a ∧ a ≤ hi)) := by
  unfold spec_l1In
  by_cases h : lo ≤ a
  · rw [cond_dt h]; simp [h]
  · rw [cond_df h]; simp [h]
theorem within_eq (a lo hi : Int) : impl_within a lo hi = some (decide (lo ≤ a ∧ a ≤ hi)) := by
  unfold impl_within
  by_cases h : lo ≤ a
  · rw [cond_dt h]; simp [h]
  · rw [cond_df h]; simp [h]

theorem digs_get (d : Nat) (h : d < 10) : bsub (ByteArray.mk #[48, 49, 50, 51, 52, 53, 54, 55, 56, 57]) (d : Int) (w64 ((d : Int) + 1)) = bs [UInt8.ofNat (48 + d)] := by
  have : w64 ((d : Int) + 1) = ((d + 1 : Nat) : Int) := w64_nat (by omega)
  rw [this, show (ByteArray.mk #[48, 49, 50, 51, 52, 53, 54, 55, 56, 57]) = bs [48, 49, 50, 51, 52, 53, 54, 55, 56, 57] from rfl, bsub_bs]
  have hd : d = 0 ∨ d = 1 ∨ d = 2 ∨ d = 3 ∨ d = 4 ∨ d = 5 ∨ d = 6 ∨ d = 7 ∨ d = 8 ∨ d = 9 := by omega
  rcases hd with rfl | rfl | rfl | rfl | rfl | rfl | rfl | rfl | rfl | rfl <;> rfl
theorem l1Num_f_eq : ∀ (k n : Nat), n < 10 ^ k → n < 1000000000000000000 → spec_l1Num_f (k + 1) (n : Int) = some (bs (Lib.decDigits n))
  | 0, n, h, _ => by
    obtain rfl : n = 0 := by simpa using h
    rw [spec_l1Num_f_succ, cond_df (by omega), cond_dt (by omega), grd_pos ⟨by omega, by decide, by decide⟩]
    have := digs_get 0 (by omega)
    rw [show ((0 : Nat) : Int) = (0 : Int) from rfl] at this ⊢
    rw [this]
    unfold Lib.decDigits
    rw [dif_pos (by omega)]
  | k + 1, n, h, h18 => by
    rw [spec_l1Num_f_succ, cond_df (by omega)]
    by_cases h10 : n < 10
    · have e : w64 ((n : Int) + 1) = ((n + 1 : Nat) : Int) := w64_nat (by omega)
      have hs : (ByteArray.mk #[48, 49, 50, 51, 52, 53, 54, 55, 56, 57]).size = 10 := rfl
      rw [cond_dt (by omega), grd_pos ⟨by omega, by rw [e]; omega, by rw [e, hs]; omega⟩, digs_get n h10]
      unfold Lib.decDigits
      rw [dif_pos h10]
    · have hq : n / 10 < 10 ^ k := by
        rw [Nat.div_lt_iff_lt_mul (by omega)]
        rw [Nat.pow_succ] at h; exact h
      have ih := l1Num_f_eq k (n / 10) hq (by omega)
      have e1 : w64 (Int.tdiv (n : Int) 10) = ((n / 10 : Nat) : Int) := by
        rw [show Int.tdiv (n : Int) 10 = ((n / 10 : Nat) : Int) from by rw [show (10 : Int) = ((10 : Nat) : Int) from rfl, ← Int.ofNat_tdiv]]
        rw [w64_id (by omega) (by omega)]
      have e2 : Int.tmod (n : Int) 10 = ((n % 10 : Nat) : Int) := by rw [show (10 : Int) = ((10 : Nat) : Int) from rfl, ← Int.ofNat_tmod]
      have hlen : (Lib.decDigits (n / 10)).length ≤ 19 := dec_length 18 (n / 10) (by omega)
      have hs : (ByteArray.mk #[48, 49, 50, 51, 52, 53, 54, 55, 56, 57]).size = 10 := rfl
      have e3 : w64 (((n % 10 : Nat) : Int) + 1) = ((n % 10 + 1 : Nat) : Int) := w64_nat (by omega)
      rw [cond_df (by omega), grd_pos (by omega), e1, ih, Option.bind_some]
      simp only [e2]
      have hm : n % 10 < 10 := Nat.mod_lt _ (by omega)
      rw [grd_pos (by omega), grd_pos (by omega), grd_pos ⟨by omega, by rw [e3]; omega, by rw [e3, hs]; omega⟩, digs_get (n % 10) hm, grd_pos (by rw [bs_size, bs_size]; simp; omega), bs_app]
      conv => rhs; unfold Lib.decDigits
      rw [dif_neg h10]
theorem l1Num_eq (n : Nat) (h : n < 1000000000000000000) : spec_l1Num (n : Int) = some (bs (Lib.decDigits n)) := by
  unfold spec_l1Num
  have := l1Num_f_eq 63 n (Nat.lt_of_lt_of_le h (by decide)) h
  exact this
theorem itoa_eq (n : Nat) (h : n < 1000000000000000000) : strconv_Itoa (n : Int) = some (bs (Lib.decDigits n)) := by
  unfold strconv_Itoa
  rw [grd_pos (by omega)]
  have : itoaB (n : Int) = bs (Lib.decDigits n) := by
    unfold itoaB Lib.itoa
    rw [if_neg (by omega), Int.toNat_natCast]
  rw [this]

def letB (b : UInt8) : Bool := decide (97 ≤ b.toNat ∧ b.toNat ≤ 122)
def wordB (s : ByteArray) : Bool := s.data.toList.all letB && decide ((1 : Int) ≤ (s.size : Int) ∧ (s.size : Int) ≤ 10)
theorem bAt_get (s : ByteArray) (k : Nat) : bAt s (k : Int) = ((s.data.toList.getD k 0).toNat : Int) := by unfold bAt; rw [Int.toNat_natCast]
theorem size_list (s : ByteArray) : s.data.toList.length = s.size := Array.length_toList
theorem isWord_eq (s : ByteArray) (h : s.size ≤ 1000000000) : impl_isWord s = some (wordB s) := by
  have hl := size_list s
  unfold impl_isWord
  have H : iter (fun q => impl_isWord_loop1 s q) (0 : Int) = some (if s.data.toList.all letB then (Sum.inr () : Unit ⊕ Unit) else Sum.inl ()) :=
    iter_all s.data.toList letB 0 (fun k => (k : Int)) (fun k hk => by
      show impl_isWord_loop1 s (k : Int) = _
      unfold impl_isWord_loop1
      rw [cond_dt (by omega), grd_pos (by omega), bAt_get, w64_nat (by omega)]
      generalize s.data.toList.getD k 0 = x
      by_cases h1 : (x.toNat : Int) < 97
      · rw [cond_dt h1, show letB x = false from decide_eq_false (by omega)]; rfl
      · rw [cond_df h1, grd_pos (by omega)]
        by_cases h2 : (122 : Int) < (x.toNat : Int)
        · rw [cond_dt h2, show letB x = false from decide_eq_false (by omega)]; rfl
        · rw [cond_df h2, show letB x = true from decide_eq_true (by omega)]; rfl) (by
      show impl_isWord_loop1 s (s.data.toList.length : Int) = _
      unfold impl_isWord_loop1
      rw [cond_df (by omega)]) rfl
  rw [H, Option.bind_some]
  unfold wordB
  cases s.data.toList.all letB with
  | false => rfl
  | true =>
    rw [if_pos rfl, Sum.elim_inr]
    by_cases h1 : (1 : Int) ≤ (s.size : Int)
    · rw [cond_dt h1]; simp [h1]
    · rw [cond_df h1]; simp [h1]
theorem l2Word_eq (s : ByteArray) (h : s.size ≤ 1000000000) : spec_l2Word s = some (wordB s) := by
  have hl := size_list s
  unfold spec_l2Word
  have H : iter (fun q => spec_l2Word_loop1 s q) (0 : Int) = some (if s.data.toList.all letB then (Sum.inr () : Unit ⊕ Unit) else Sum.inl ()) :=
    iter_all s.data.toList letB 0 (fun k => (k : Int)) (fun k hk => by
      show spec_l2Word_loop1 s (k : Int) = _
      unfold spec_l2Word_loop1
      rw [cond_dt (by omega), grd_pos (by omega), bAt_get, w64_nat (by omega)]
      generalize s.data.toList.getD k 0 = x
      by_cases h1 : (x.toNat : Int) < 97
      · rw [cond_dt h1, show letB x = false from decide_eq_false (by omega)]; rfl
      · rw [cond_df h1, grd_pos (by omega)]
        by_cases h2 : (122 : Int) < (x.toNat : Int)
        · rw [cond_dt h2, show letB x = false from decide_eq_false (by omega)]; rfl
        · rw [cond_df h2, show letB x = true from decide_eq_true (by omega)]; rfl) (by
      show spec_l2Word_loop1 s (s.data.toList.length : Int) = _
      unfold spec_l2Word_loop1
      rw [cond_df (by omega)]) rfl
  rw [H, Option.bind_some]
  unfold wordB
  cases s.data.toList.all letB with
  | false => rfl
  | true =>
    rw [if_pos rfl, Sum.elim_inr, l1In_eq]; rfl
def numsB (r : DayRow) : Bool := decide (0 ≤ r.1 ∧ r.1 ≤ 999) && (decide (0 ≤ r.2.1 ∧ r.2.1 ≤ 99999) && (decide (0 ≤ r.2.2.1 ∧ r.2.2.1 ≤ 99999) && (decide (0 ≤ r.2.2.2.1 ∧ r.2.2.2.1 ≤ 24) && decide (0 ≤ r.2.2.2.2.1 ∧ r.2.2.2.2.1 ≤ 99))))
def whyB (r : DayRow) : Bool := cond (decide (r.2.2.2.2.1 = (0 : Int))) (decide (r.2.2.2.2.2.1 = ByteArray.mk #[])) (wordB r.2.2.2.2.2.1)
def rowB (r : DayRow) : Bool := numsB r && (cond (decide (r.2.2.2.1 = 0)) (decide (r.2.1 = 0 ∧ r.2.2.1 = 0 ∧ r.2.2.2.2.1 = 0)) true && whyB r)
theorem why_eq {X : Option Bool} (r : DayRow) (h0 : 0 ≤ r.2.2.2.2.1) (hX : X = some (wordB r.2.2.2.2.2.1)) :
    cond (decide (r.2.2.2.2.1 = (0 : Int))) (cond (decide (r.2.2.2.2.2.1 = (ByteArray.mk #[]))) (some true) (cond (decide ((0 : Int) < r.2.2.2.2.1)) (X.bind fun y => some y) (some false))) (cond (decide ((0 : Int) < r.2.2.2.2.1)) (X.bind fun y => some y) (some false)) = some (whyB r) := by
  unfold whyB
  subst hX
  by_cases h1 : r.2.2.2.2.1 = 0
  · rw [cond_dt h1, cond_dt h1, cond_df (show ¬ (0 : Int) < r.2.2.2.2.1 by omega)]
    cases decide (r.2.2.2.2.2.1 = ByteArray.mk #[]) <;> rfl
  · rw [cond_df h1, cond_df h1, cond_dt (show (0 : Int) < r.2.2.2.2.1 by omega)]; rfl
theorem isRow_eq (r : DayRow) (h : r.2.2.2.2.2.1.size ≤ 1000000000) : impl_IsDayRow r = some (rowB r) := by
  unfold impl_IsDayRow impl_isDay rowB numsB
  simp only [within_eq, Option.bind_some]
  by_cases h1 : 0 ≤ r.1 ∧ r.1 ≤ 999
  case neg => rw [cond_ndf h1, decide_eq_false h1]; rfl
  by_cases h2 : 0 ≤ r.2.1 ∧ r.2.1 ≤ 99999
  case neg => rw [cond_ndt h1, cond_ndf h2, decide_eq_true h1, decide_eq_false h2]; rfl
  by_cases h3 : 0 ≤ r.2.2.1 ∧ r.2.2.1 ≤ 99999
  case neg => rw [cond_ndt h1, cond_ndt h2, cond_ndf h3, decide_eq_true h1, decide_eq_true h2, decide_eq_false h3]; rfl
  by_cases h4 : 0 ≤ r.2.2.2.1 ∧ r.2.2.2.1 ≤ 24
  case neg => rw [cond_ndt h1, cond_ndt h2, cond_ndt h3, cond_ndf h4, decide_eq_true h1, decide_eq_true h2, decide_eq_true h3, decide_eq_false h4]; rfl
  by_cases h5 : 0 ≤ r.2.2.2.2.1 ∧ r.2.2.2.2.1 ≤ 99
  case neg => rw [cond_ndt h1, cond_ndt h2, cond_ndt h3, cond_ndt h4, cond_ndf h5, decide_eq_true h1, decide_eq_true h2, decide_eq_true h3, decide_eq_true h4, decide_eq_false h5]; rfl
  rw [cond_ndt h1, cond_ndt h2, cond_ndt h3, cond_ndt h4, cond_ndt h5, decide_eq_true h1, decide_eq_true h2, decide_eq_true h3, decide_eq_true h4, decide_eq_true h5]
  simp only [Bool.true_and]
  have hw := isWord_eq r.2.2.2.2.2.1 h
  rw [why_eq r h5.1 hw]
  by_cases h6 : r.2.2.2.1 = 0
  · rw [cond_dt h6, cond_dt h6, w64_id (x := r.2.1 + r.2.2.1) (by omega) (by omega), w64_id (by omega) (by omega)]
    by_cases h7 : 0 < r.2.1 + r.2.2.1 + r.2.2.2.2.1
    · rw [cond_dt h7, decide_eq_false (by omega)]; rfl
    · rw [cond_df h7, decide_eq_true (by omega)]; rfl
  · rw [cond_df h6, cond_df h6]; rfl
theorem one_eq (r : DayRow) (h : r.2.2.2.2.2.1.size ≤ 1000000000) : spec_l26One r = some (rowB r) := by
  unfold spec_l26One rowB numsB
  simp only [l1In_eq, Option.bind_some]
  by_cases h1 : 0 ≤ r.1 ∧ r.1 ≤ 999
  case neg => rw [cond_ndf h1, decide_eq_false h1]; rfl
  by_cases h2 : 0 ≤ r.2.1 ∧ r.2.1 ≤ 99999
  case neg => rw [cond_ndt h1, cond_ndf h2, decide_eq_true h1, decide_eq_false h2]; rfl
  by_cases h3 : 0 ≤ r.2.2.1 ∧ r.2.2.1 ≤ 99999
  case neg => rw [cond_ndt h1, cond_ndt h2, cond_ndf h3, decide_eq_true h1, decide_eq_true h2, decide_eq_false h3]; rfl
  by_cases h4 : 0 ≤ r.2.2.2.1 ∧ r.2.2.2.1 ≤ 24
  case neg => rw [cond_ndt h1, cond_ndt h2, cond_ndt h3, cond_ndf h4, decide_eq_true h1, decide_eq_true h2, decide_eq_true h3, decide_eq_false h4]; rfl
  by_cases h5 : 0 ≤ r.2.2.2.2.1 ∧ r.2.2.2.2.1 ≤ 99
  case neg => rw [cond_ndt h1, cond_ndt h2, cond_ndt h3, cond_ndt h4, cond_ndf h5, decide_eq_true h1, decide_eq_true h2, decide_eq_true h3, decide_eq_true h4, decide_eq_false h5]; rfl
  rw [cond_ndt h1, cond_ndt h2, cond_ndt h3, cond_ndt h4, cond_ndt h5, decide_eq_true h1, decide_eq_true h2, decide_eq_true h3, decide_eq_true h4, decide_eq_true h5]
  simp only [Bool.true_and]
  have hw := l2Word_eq r.2.2.2.2.2.1 h
  rw [why_eq r h5.1 hw]
  by_cases h6 : r.2.2.2.1 = 0
  · rw [cond_dt h6, cond_dt h6]
    by_cases h7 : 0 < r.2.1
    · rw [cond_dt h7, decide_eq_false (by omega)]; rfl
    rw [cond_df h7]
    by_cases h8 : 0 < r.2.2.1
    · rw [cond_dt h8, decide_eq_false (by omega)]; rfl
    rw [cond_df h8]
    by_cases h9 : 0 < r.2.2.2.2.1
    · rw [cond_dt h9, decide_eq_false (by omega)]; rfl
    rw [cond_df h9, decide_eq_true (by omega)]; rfl
  · rw [cond_df h6, cond_df h6]; rfl
theorem row_eta (r : DayRow) : ((r.1, r.2.1, r.2.2.1, r.2.2.2.1, r.2.2.2.2.1, r.2.2.2.2.2.1, ()) : DayRow) = r := rfl
theorem l1Num_int (n : Int) (h : -1000000000000 ≤ n ∧ n ≤ 1000000000000) : spec_l1Num n = some (bs (Lib.itoa n)) := by
  by_cases h0 : n < 0
  · obtain ⟨m, rfl⟩ : ∃ m : Nat, n = -(m : Int) := ⟨n.natAbs, by omega⟩
    have hm : 1 ≤ m := by omega
    have e := l1Num_f_eq 62 m (Nat.lt_of_lt_of_le (m := 10 ^ 18) (by omega) (by decide)) (by omega)
    have hl := dec_length 18 m (Nat.lt_of_lt_of_le (m := 10 ^ 18) (by omega) (by decide))
    unfold spec_l1Num
    rw [show (64 : Nat) = 63 + 1 from rfl, spec_l1Num_f_succ, cond_dt h0, show (0 - -(m : Int)) = (m : Int) by omega, w64_id (by omega) (by omega), e, Option.bind_some, grd_pos (by rw [bs_size]; show 1 + (Lib.decDigits m).length ≤ 9223372036854775807; omega), Lib.itoa_neg m hm]
    show some (bs [45] ++ bs (Lib.decDigits m)) = _
    rw [bs_app]; rfl
  · obtain ⟨m, rfl⟩ : ∃ m : Nat, n = (m : Int) := ⟨n.toNat, by omega⟩
    rw [l1Num_eq m (by omega), Lib.itoa_nonneg]
theorem itoa_int (n : Int) (h : -1000000000000 ≤ n ∧ n ≤ 1000000000000) : strconv_Itoa n = some (bs (Lib.itoa n)) := by
  unfold strconv_Itoa
  rw [grd_pos (by omega)]; rfl
theorem read_loop (t : List UInt8) (ht : t.length ≤ 6) : ∀ (r p : List UInt8) (acc : Nat), t = p ++ r → acc < 10 ^ p.length →
    iter (fun s => spec_l1Read_loop1 s.1 s.2.1 s.2.2) (bs t, (acc : Int), (p.length : Int)) = some (match Lib.decFrom acc r with | none => Sum.inl () | some m => Sum.inr (bs t, (m : Int)))
  | [], p, acc, e, _ => by
    refine iter_out ?_
    show spec_l1Read_loop1 (bs t) (acc : Int) (p.length : Int) = _
    unfold spec_l1Read_loop1
    have : t.length = p.length := by rw [e]; simp
    rw [cond_df (by rw [bs_size]; omega)]
    rfl
  | b :: r, p, acc, e, ha => by
    have hl : t.length = p.length + (r.length + 1) := by rw [e]; simp
    have hb : bAt (bs t) (p.length : Int) = (b.toNat : Int) := by
      rw [bAt_bs, Int.toNat_natCast, e]; simp [List.getD_eq_getElem?_getD]
    have hlt : b.toNat < 256 := UInt8.toNat_lt b
    have hacc : acc < 1000000 := Nat.lt_of_lt_of_le ha (Nat.le_trans (Nat.pow_le_pow_right (by omega) (show p.length ≤ 6 by omega)) (by decide))
    have h1 : 0 ≤ (p.length : Int) ∧ (p.length : Int) < ((bs t).size : Int) := by rw [bs_size]; omega
    by_cases hd : 48 ≤ b.toNat ∧ b.toNat ≤ 57
    · have hv : Lib.digitVal b = some (b.toNat - 48) := by unfold Lib.digitVal; rw [if_pos hd]
      have e2 : Lib.decFrom acc (b :: r) = Lib.decFrom (acc * 10 + (b.toNat - 48)) r := by
        conv => lhs; unfold Lib.decFrom
        rw [hv]
      have w1 : wu8 ((b.toNat : Int) - 48) = (b.toNat : Int) - 48 := by
        show IntKind.u8.wrap _ = _
        rw [IntKind.wrap_u8]; omega
      have w2 : w64 (w64 (10 * (acc : Int)) + w64 (wu8 ((b.toNat : Int) - 48))) = ((acc * 10 + (b.toNat - 48) : Nat) : Int) := by
        rw [w1, w64_id (x := 10 * (acc : Int)) (by omega) (by omega), w64_id (x := (b.toNat : Int) - 48) (by omega) (by omega), w64_id (by omega) (by omega)]; omega
      have w3 : w64 ((p.length : Int) + 1) = ((p ++ [b]).length : Int) := by rw [w64_nat (by omega)]; simp
      have step : spec_l1Read_loop1 (bs t) (acc : Int) (p.length : Int) = some (.go (bs t, ((acc * 10 + (b.toNat - 48) : Nat) : Int), ((p ++ [b]).length : Int))) := by
        unfold spec_l1Read_loop1
        rw [cond_dt h1.2, grd_pos h1, hb, cond_df (by omega), grd_pos h1, cond_df (by omega), grd_pos h1, w2, w3]
      have hp : acc * 10 + (b.toNat - 48) < 10 ^ (p ++ [b]).length := by
        rw [List.length_append, List.length_singleton, Nat.pow_succ]; omega
      rw [e2]
      exact (iter_go step).trans (read_loop t ht r (p ++ [b]) _ (by rw [e]; simp) hp)
    · have hv : Lib.digitVal b = none := by unfold Lib.digitVal; rw [if_neg hd]
      have e2 : Lib.decFrom acc (b :: r) = none := by
        conv => lhs; unfold Lib.decFrom
        rw [hv]
      rw [e2]
      refine iter_out ?_
      show spec_l1Read_loop1 (bs t) (acc : Int) (p.length : Int) = _
      unfold spec_l1Read_loop1
      rw [cond_dt h1.2, grd_pos h1, hb]
      by_cases h2 : (b.toNat : Int) < 48
      · rw [cond_dt h2]
      · rw [cond_df h2, grd_pos h1, cond_dt (by omega)]
theorem cut_sign (l : List UInt8) (hl : l.length ≤ 1000000) : ∃ t, (cond (decide ((1 : Int) < ((bs l).size : Int))) (grd (0 ≤ (0 : Int) ∧ (0 : Int) < ((bs l).size : Int)) (cond (decide ((bAt (bs l) (0 : Int)) = (45 : Int))) (grd (0 ≤ (1 : Int) ∧ (1 : Int) ≤ ((bs l).size : Int) ∧ ((bs l).size : Int) ≤ ((bs l).size : Int)) ((some (bsub (bs l) (1 : Int) ((bs l).size : Int))))) ((some (bs l))))) ((some (bs l)))) = some (bs t) ∧
    ((t = l ∧ ∀ r, l = 45 :: r → r = []) ∨ (l = 45 :: t ∧ t ≠ [])) := by
  match l, hl with
  | [], _ => exact ⟨[], rfl, .inl ⟨rfl, (fun r h => by cases h)⟩⟩
  | [b], _ => exact ⟨[b], rfl, .inl ⟨rfl, fun r h => by cases h; rfl⟩⟩
  | b :: c :: r, hl =>
    have hs : ((bs (b :: c :: r)).size : Int) = (r.length : Int) + 2 := by rw [bs_size]; simp only [List.length_cons]; omega
    rw [cond_dt (by rw [hs]; omega), grd_pos (by rw [hs]; omega)]
    have hb : bAt (bs (b :: c :: r)) (0 : Int) = (b.toNat : Int) := by rw [bAt_bs]; rfl
    rw [hb]
    by_cases h : b.toNat = 45
    · have hb45 : b = 45 := UInt8.toNat_inj.1 h
      rw [cond_dt (by omega), grd_pos (by rw [hs]; omega), bsub_bs]
      refine ⟨c :: r, ?_, .inr ⟨by rw [hb45], by simp⟩⟩
      congr 2
      have : ((bs (b :: c :: r)).size : Int).toNat = r.length + 2 := by rw [hs]; omega
      rw [this]
      simp
    · rw [cond_df (by omega)]
      refine ⟨b :: c :: r, rfl, .inl ⟨rfl, fun r' h' => ?_⟩⟩
      have : b = 45 := by cases h'; rfl
      rw [this] at h
      exact absurd rfl h
theorem decFrom_six {t : List UInt8} {m : Nat} (h : Lib.decFrom 0 t = some m) (hl : t.length ≤ 6) : m < 1000000 := by
  have := Lib.decFrom_lt t 0 m h
  have h6 : (10 : Nat) ^ t.length ≤ 10 ^ 6 := Nat.pow_le_pow_right (by omega) hl
  have h7 : (10 : Nat) ^ 6 = 1000000 := by decide
  omega
theorem l1Read_eq (l : List UInt8) (hl : l.length ≤ 1000000) : spec_l1Read (bs l) = some (parseI (bs l)) := by
  obtain ⟨t, e1, e2⟩ := cut_sign l hl
  have hts : (t = l ∧ t.length = l.length) ∨ (l = 45 :: t ∧ t.length < l.length) := by
    rcases e2 with ⟨h, _⟩ | ⟨h, _⟩
    · exact .inl ⟨h, by rw [h]⟩
    · exact .inr ⟨h, by rw [h]; simp⟩
  -- what is read, if anything
  have key : ∃ o : Option Int, spec_l1Read (bs l) = some (match o with | none => (0, false) | some n => if l = Lib.itoa n then (n, true) else (0, false)) ∧
      (∀ n, o = some n → -999999 ≤ n ∧ n ≤ 999999) ∧ (1 ≤ t.length ∧ t.length ≤ 6 → ∀ m, Lib.decFrom 0 t = some m → o = some (if t.length < l.length then -(m : Int) else (m : Int))) := by
    unfold spec_l1Read
    rw [e1, Option.bind_some, l1In_eq, Option.bind_some, bs_size]
    by_cases hr : (1 : Int) ≤ (t.length : Int) ∧ (t.length : Int) ≤ 6
    case neg =>
      rw [cond_ndf hr]
      exact ⟨none, rfl, (fun n h => by cases h), fun h => absurd h (by omega)⟩
    rw [cond_ndt hr]
    have lp := read_loop t (by omega) t [] 0 rfl (by simp)
    rw [show (([] : List UInt8).length : Int) = (0 : Int) from rfl, show ((0 : Nat) : Int) = (0 : Int) from rfl] at lp
    rw [lp]
    cases hd : Lib.decFrom 0 t with
    | none => exact ⟨none, rfl, (fun n h => by cases h), (fun _ m h => by cases h)⟩
    | some m =>
      have hm := decFrom_six hd (by omega)
      simp only [Option.bind_some, Sum.elim_inr, bs_size]
      by_cases hlt : t.length < l.length
      · have w1 : w64 (0 - (m : Int)) = -(m : Int) := by rw [w64_id (by omega) (by omega)]; omega
        rw [cond_dt (by omega), w1, l1Num_int _ (by omega), Option.bind_some]
        refine ⟨some (-(m : Int)), ?_, (fun n h => by cases h; omega), (fun _ m' h => by cases h; rw [if_pos hlt])⟩
        dsimp only
        by_cases he : bs (Lib.itoa (-(m : Int))) = bs l
        · rw [cond_ndt he, if_pos (bs_inj.1 he).symm]
        · rw [cond_ndf he, if_neg (fun h => he (by rw [h]))]
      · rw [cond_df (by omega), l1Num_int _ (by omega), Option.bind_some]
        refine ⟨some (m : Int), ?_, (fun n h => by cases h; omega), (fun _ m' h => by cases h; rw [if_neg hlt])⟩
        dsimp only
        by_cases he : bs (Lib.itoa (m : Int)) = bs l
        · rw [cond_ndt he, if_pos (bs_inj.1 he).symm]
        · rw [cond_ndf he, if_neg (fun h => he (by rw [h]))]
  obtain ⟨o, k1, k2, k3⟩ := key
  rw [k1]
  rcases parseI_cases l with ⟨n, hn, hln, hp⟩ | ⟨hp, hno⟩
  · rw [hp]
    have hlen := itoa_length n hn
    have ho : o = some n := by
      by_cases h0 : n < 0
      · obtain ⟨m, rfl⟩ : ∃ m : Nat, n = -(m : Int) := ⟨n.natAbs, by omega⟩
        have h45 : l = 45 :: Lib.decDigits m := by rw [hln, Lib.itoa_neg m (by omega)]
        have ht : t = Lib.decDigits m := by
          rcases e2 with ⟨_, h⟩ | ⟨h, _⟩
          · have := h _ h45
            have h2 := digit_length m
            rw [this] at h2; simp at h2
          · rw [h45] at h
            simp only [List.cons.injEq, true_and] at h
            exact h.symm
        have hl6 := dec_length 5 m (by have : (10 : Nat) ^ (5 + 1) = 1000000 := by decide
                                       omega)
        have := k3 ⟨by rw [ht]; exact digit_length m, by rw [ht]; omega⟩ m (by rw [ht]; exact decFrom_dec m)
        rw [this, if_pos (by rw [h45, ht]; simp)]
      · obtain ⟨m, rfl⟩ : ∃ m : Nat, n = (m : Int) := ⟨n.toNat, by omega⟩
        have hd : l = Lib.decDigits m := by rw [hln, Lib.itoa_nonneg]
        have ht : t = Lib.decDigits m := by
          rcases e2 with ⟨h, _⟩ | ⟨h, _⟩
          · rw [h, hd]
          · exfalso
            obtain ⟨b, r, e, hb, _⟩ := dec_cons m
            rw [hd, e] at h
            have : b = 45 := by cases h; rfl
            rw [this] at hb
            exact absurd hb (by decide)
        have hl6 := dec_length 5 m (by have : (10 : Nat) ^ (5 + 1) = 1000000 := by decide
                                       omega)
        have := k3 ⟨by rw [ht]; exact digit_length m, by rw [ht]; omega⟩ m (by rw [ht]; exact decFrom_dec m)
        rw [this, if_neg (by rw [hd, ht]; omega)]
    rw [ho]
    dsimp only
    rw [if_pos hln]
  · rw [hp]
    cases o with
    | none => rfl
    | some n =>
      dsimp only
      rw [if_neg (hno n (k2 n rfl))]

theorem split_eq (l : List UInt8) (c : UInt8) (hl : l.length ≤ 1000000000) : spec_l1Split (bs l) (c.toNat : Int) = some ((spl c l).map bs) := by
  unfold spec_l1Split
  have key : ∀ (d i from' : Nat) (out : List ByteArray), i + d = l.length → from' ≤ i → out.length ≤ i → (∃ o : List (List UInt8), out = o.map bs ∧ spl c l = o ++ preF ((l.drop from').take (i - from')) (spl c (l.drop i))) →
      ∃ (f' : Nat) (o : List (List UInt8)), iter (fun s => spec_l1Split_loop1 (bs l) (c.toNat : Int) s.1 s.2.1 s.2.2) ((from' : Int), (i : Int), out) = some ((f' : Int), o.map bs) ∧ f' ≤ l.length ∧ o.length ≤ l.length ∧ spl c l = o ++ [l.drop f'] := by
    intro d
    induction d with
    | zero =>
      rintro i from' out hi hf ho ⟨o, rfl, e⟩
      refine ⟨from', o, iter_out ?_, by omega, by simp at ho; omega, ?_⟩
      · show spec_l1Split_loop1 (bs l) (c.toNat : Int) (from' : Int) (i : Int) _ = _
        unfold spec_l1Split_loop1
        rw [cond_df (by rw [bs_size]; omega)]
      · rw [e, show l.drop i = [] from List.drop_eq_nil_of_le (by omega), preF_nil]
        congr 2
        rw [List.take_of_length_le (by simp; omega)]
    | succ d ih =>
      rintro i from' out hi hf ho ⟨o, rfl, e⟩
      have hil : i < l.length := by omega
      have hdrop : l.drop i = l[i] :: l.drop (i + 1) := List.drop_eq_getElem_cons hil
      have htake : (l.drop from').take (i + 1 - from') = (l.drop from').take (i - from') ++ [l[i]] := by
        rw [show i + 1 - from' = (i - from') + 1 by omega, List.take_succ_eq_append_getElem (by simp; omega)]
        simp [show from' + (i - from') = i by omega]
      by_cases hc : l[i] = c
      · obtain ⟨f', o', h1, h2, h3, h4⟩ := ih (i + 1) (i + 1) ((o ++ [(l.drop from').take (i - from')]).map bs) (by omega) (by omega) (by simp at ho ⊢; omega) ⟨_, rfl, by
          rw [e, hdrop, hc, preF_hit]
          simp [preF_zero]⟩
        refine ⟨f', o', (iter_go ?_).trans h1, h2, h3, h4⟩
        show spec_l1Split_loop1 (bs l) (c.toNat : Int) (from' : Int) (i : Int) _ = _
        unfold spec_l1Split_loop1
        simp only [List.length_map] at ho
        rw [cond_dt (by rw [bs_size]; omega), grd_pos (by rw [bs_size]; omega), bAt_bs, Int.toNat_natCast, getD_eq _ _ _ hil, hc, cond_dt rfl, grd_pos (by rw [bs_size]; omega), grd_pos (by simp; omega), w64_nat (by omega), bsub_bs]
        simp
      · obtain ⟨f', o', h1, h2, h3, h4⟩ := ih (i + 1) from' (o.map bs) (by omega) (by omega) (by simp at ho ⊢; omega) ⟨o, rfl, by
          rw [e, hdrop, preF_snoc c _ _ _ hc, htake]⟩
        refine ⟨f', o', (iter_go ?_).trans h1, h2, h3, h4⟩
        show spec_l1Split_loop1 (bs l) (c.toNat : Int) (from' : Int) (i : Int) _ = _
        unfold spec_l1Split_loop1
        rw [cond_dt (by rw [bs_size]; omega), grd_pos (by rw [bs_size]; omega), bAt_bs, Int.toNat_natCast, getD_eq _ _ _ hil, cond_df (fun h => hc (UInt8.toNat_inj.1 (by omega))), w64_nat (by omega)]
  obtain ⟨f', o, h1, h2, h3, h4⟩ := key l.length 0 0 [] (by omega) (by omega) (by simp) ⟨[], rfl, by simp [preF_zero]⟩
  rw [show ((0 : Nat) : Int) = (0 : Int) from rfl] at h1
  rw [h1, Option.bind_some]
  simp only [bs_size, bsub_bs]
  rw [grd_pos (by omega), grd_pos (by simp; omega), h4, List.map_append, Int.toNat_natCast, Int.toNat_natCast, List.take_of_length_le (by simp)]
  rfl
def lineT (h s u dn : Nat) (why : List UInt8) : List UInt8 :=
  if h = 0 then [99, 108, 111, 115, 101, 100] else
    Lib.decDigits u ++ ([32, 117, 112, 44, 32] ++ (Lib.decDigits dn ++ ([32, 100, 111, 119, 110, 44, 32] ++ (Lib.decDigits h ++ ([32, 104] ++
      (if s = 0 then [] else if s = 1 then [44, 32, 49, 32, 115, 116, 111, 112, 32, 40] ++ (why ++ [41]) else [44, 32] ++ (Lib.decDigits s ++ ([32, 115, 116, 111, 112, 115, 32, 40] ++ (why ++ [41])))))))))
def lineL (d u dn h s : Nat) (why : List UInt8) : List UInt8 := [100, 97, 121, 32] ++ (Lib.decDigits d ++ ([58, 32] ++ lineT h s u dn why))
theorem dec_le (n : Nat) (h : n ≤ 99999) : (Lib.decDigits n).length ≤ 6 := dec_length 5 n (by omega)
theorem k1 : (ByteArray.mk #[100, 97, 121, 32]) = bs [100, 97, 121, 32] := rfl
theorem k2 : (ByteArray.mk #[58, 32]) = bs [58, 32] := rfl
theorem k3 : (ByteArray.mk #[99, 108, 111, 115, 101, 100]) = bs [99, 108, 111, 115, 101, 100] := rfl
theorem k4 : (ByteArray.mk #[32, 117, 112, 44, 32]) = bs [32, 117, 112, 44, 32] := rfl
theorem k5 : (ByteArray.mk #[32, 100, 111, 119, 110, 44, 32]) = bs [32, 100, 111, 119, 110, 44, 32] := rfl
theorem k6 : (ByteArray.mk #[32, 104]) = bs [32, 104] := rfl
theorem k7 : (ByteArray.mk #[44, 32, 49, 32, 115, 116, 111, 112, 32, 40]) = bs [44, 32, 49, 32, 115, 116, 111, 112, 32, 40] := rfl
theorem k8 : (ByteArray.mk #[41]) = bs [41] := rfl
theorem k9 : (ByteArray.mk #[44, 32]) = bs [44, 32] := rfl
theorem k10 : (ByteArray.mk #[32, 115, 116, 111, 112, 115, 32, 40]) = bs [32, 115, 116, 111, 112, 115, 32, 40] := rfl
theorem k11 : (ByteArray.mk #[10]) = bs [10] := rfl
theorem k12 : (ByteArray.mk #[97, 108, 108, 58, 32]) = bs [97, 108, 108, 58, 32] := rfl
theorem k13 : (ByteArray.mk #[32, 100, 111, 119, 110]) = bs [32, 100, 111, 119, 110] := rfl
theorem k14 : (ByteArray.mk #[]) = bs [] := rfl
theorem l26Line_eq (d u dn h s : Nat) (why : List UInt8) (h1 : d ≤ 99999) (h2 : u ≤ 99999) (h3 : dn ≤ 99999) (h4 : h ≤ 99999) (h5 : s ≤ 99999) (h6 : why.length ≤ 1000000000) :
    spec_l26Line ((d : Int), (u : Int), (dn : Int), (h : Int), (s : Int), bs why, ()) = some (bs (lineL d u dn h s why)) := by
  have e1 := dec_le d h1
  have e2 := dec_le u h2
  have e3 := dec_le dn h3
  have e4 := dec_le h h4
  have e5 := dec_le s h5
  unfold spec_l26Line
  simp only [l1Num_eq d (by omega), l1Num_eq u (by omega), l1Num_eq dn (by omega), l1Num_eq h (by omega), l1Num_eq s (by omega), Option.bind_some, k1, k2, k3, k4, k5, k6, k7, k8, k9, k10, bs_app, bs_size]
  rw [grd_pos (by simp; omega), grd_pos (by simp; omega)]
  by_cases g1 : h = 0
  · rw [cond_dt (by omega), grd_pos (by simp; omega)]
    simp [lineL, lineT, g1]
  rw [cond_df (by omega), grd_pos (by simp; omega), grd_pos (by simp; omega), grd_pos (by simp; omega), grd_pos (by simp; omega), grd_pos (by simp; omega), grd_pos (by simp; omega)]
  by_cases g2 : s = 0
  · rw [cond_dt (by omega)]
    simp [lineL, lineT, g1, g2]
  rw [cond_df (by omega)]
  by_cases g3 : s = 1
  · rw [cond_dt (by omega), grd_pos (by simp; omega), grd_pos (by simp; omega), grd_pos (by simp; omega)]
    simp [lineL, lineT, g1, g3]
  · rw [cond_df (by omega), grd_pos (by simp; omega), grd_pos (by simp; omega), grd_pos (by simp; omega), grd_pos (by simp; omega), grd_pos (by simp; omega)]
    simp [lineL, lineT, g1, g2, g3]
theorem dayLine_eq (d u dn h s : Nat) (why : List UInt8) (h1 : d ≤ 99999) (h2 : u ≤ 99999) (h3 : dn ≤ 99999) (h4 : h ≤ 99999) (h5 : s ≤ 99999) (h6 : why.length ≤ 1000000000) :
    impl_dayLine ((d : Int), (u : Int), (dn : Int), (h : Int), (s : Int), bs why, ()) = some (bs (lineL d u dn h s why)) := by
  have e1 := dec_le d h1
  have e2 := dec_le u h2
  have e3 := dec_le dn h3
  have e4 := dec_le h h4
  have e5 := dec_le s h5
  unfold impl_dayLine
  simp only [itoa_eq d (by omega), itoa_eq u (by omega), itoa_eq dn (by omega), itoa_eq h (by omega), itoa_eq s (by omega), Option.bind_some, k1, k2, k3, k4, k5, k6, k7, k8, k9, k10, bs_app, bs_size]
  rw [grd_pos (by simp; omega), grd_pos (by simp; omega)]
  by_cases g1 : h = 0
  · rw [cond_dt (by omega), grd_pos (by simp; omega)]
    simp [lineL, lineT, g1]
  rw [cond_df (by omega), grd_pos (by simp; omega), grd_pos (by simp; omega), grd_pos (by simp; omega), grd_pos (by simp; omega), grd_pos (by simp; omega), grd_pos (by simp; omega)]
  by_cases g3 : s = 1
  · rw [cond_dt (by omega), grd_pos (by simp; omega), grd_pos (by simp; omega), grd_pos (by simp; omega)]
    simp [lineL, lineT, g1, g3]
  rw [cond_df (by omega)]
  by_cases g2 : s = 0
  · rw [cond_df (by omega)]
    simp [lineL, lineT, g1, g2]
  · rw [cond_dt (by omega), grd_pos (by simp; omega), grd_pos (by simp; omega), grd_pos (by simp; omega), grd_pos (by simp; omega), grd_pos (by simp; omega)]
    simp [lineL, lineT, g1, g2, g3]

/-- A row's line. -/
def lineR (r : DayRow) : List UInt8 := lineL r.1.toNat r.2.1.toNat r.2.2.1.toNat r.2.2.2.1.toNat r.2.2.2.2.1.toNat r.2.2.2.2.2.1.data.toList
theorem nums_out {r : DayRow} (h : rowB r = true) : ((0 ≤ r.1 ∧ r.1 ≤ 999) ∧ (0 ≤ r.2.1 ∧ r.2.1 ≤ 99999)) ∧ ((0 ≤ r.2.2.1 ∧ r.2.2.1 ≤ 99999) ∧ (0 ≤ r.2.2.2.1 ∧ r.2.2.2.1 ≤ 24)) ∧ (0 ≤ r.2.2.2.2.1 ∧ r.2.2.2.2.1 ≤ 99) := by
  unfold rowB numsB at h
  simp only [Bool.and_eq_true, decide_eq_true_eq] at h
  obtain ⟨⟨a, b, c, d, e⟩, _⟩ := h
  exact ⟨⟨a, b⟩, ⟨c, d⟩, e⟩
theorem lines_eq (r : DayRow) (h : rowB r = true) (hs : r.2.2.2.2.2.1.size ≤ 1000000000) : spec_l26Line r = some (bs (lineR r)) ∧ impl_dayLine r = some (bs (lineR r)) := by
  obtain ⟨⟨h1, h2⟩, ⟨h3, h4⟩, h5⟩ := nums_out h
  obtain ⟨d, u, dn, hh, s, why, un⟩ := r
  obtain ⟨d, rfl⟩ := Int.eq_ofNat_of_zero_le h1.1
  obtain ⟨u, rfl⟩ := Int.eq_ofNat_of_zero_le h2.1
  obtain ⟨dn, rfl⟩ := Int.eq_ofNat_of_zero_le h3.1
  obtain ⟨hh, rfl⟩ := Int.eq_ofNat_of_zero_le h4.1
  obtain ⟨s, rfl⟩ := Int.eq_ofNat_of_zero_le h5.1
  obtain ⟨why, rfl⟩ := bs_ex why
  have hs : (bs why).size ≤ 1000000000 := hs
  rw [bs_size] at hs
  have h1 : (d : Int) ≤ 999 := h1.2
  have h2 : (u : Int) ≤ 99999 := h2.2
  have h3 : (dn : Int) ≤ 99999 := h3.2
  have h4 : (hh : Int) ≤ 24 := h4.2
  have h5 : (s : Int) ≤ 99 := h5.2
  have e : lineR ((d : Int), (u : Int), (dn : Int), (hh : Int), (s : Int), bs why, un) = lineL d u dn hh s why := by
    simp [lineR]
  rw [e]
  exact ⟨l26Line_eq d u dn hh s why (by omega) (by omega) (by omega) (by omega) (by omega) hs, dayLine_eq d u dn hh s why (by omega) (by omega) (by omega) (by omega) (by omega) hs⟩
theorem lineR_le (r : DayRow) (h : rowB r = true) (hs : r.2.2.2.2.2.1.size ≤ 1048576) : (lineR r).length ≤ 1100000 := by
  obtain ⟨⟨h1, h2⟩, ⟨h3, h4⟩, h5⟩ := nums_out h
  have e1 := dec_le r.1.toNat (by omega)
  have e2 := dec_le r.2.1.toNat (by omega)
  have e3 := dec_le r.2.2.1.toNat (by omega)
  have e4 := dec_le r.2.2.2.1.toNat (by omega)
  have e5 := dec_le r.2.2.2.2.1.toNat (by omega)
  have e6 := size_list r.2.2.2.2.2.1
  unfold lineR lineL lineT
  simp only [List.length_append, List.length_cons, List.length_nil]
  split
  · simp only [List.length_cons, List.length_nil]; omega
  · simp only [List.length_append, List.length_cons, List.length_nil]
    split
    · simp only [List.length_nil]; omega
    · split <;> simp only [List.length_append, List.length_cons, List.length_nil] <;> omega
noncomputable def restI (d : Int) (t : ByteArray) : Option (Int × Int × Int × Int × Int × ByteArray) :=
  ((strings_Split t (ByteArray.mk #[44, 32])).bind fun y4 => (cond (decide ((3 : Int) ≤ (y4.length : Int))) (grd (0 ≤ (0 : Int) ∧ (0 : Int) < (y4.length : Int)) ((strings_TrimSuffix (y4.getD ((0 : Int).toNat) (ByteArray.mk #[])) (ByteArray.mk #[32, 117, 112])).bind fun y5 => ((impl_ParseInt y5).bind fun y6 => (grd (0 ≤ (1 : Int) ∧ (1 : Int) < (y4.length : Int)) ((strings_TrimSuffix (y4.getD ((1 : Int).toNat) (ByteArray.mk #[])) (ByteArray.mk #[32, 100, 111, 119, 110])).bind fun y7 => ((impl_ParseInt y7).bind fun y8 => (grd (0 ≤ (2 : Int) ∧ (2 : Int) < (y4.length : Int)) ((strings_TrimSuffix (y4.getD ((2 : Int).toNat) (ByteArray.mk #[])) (ByteArray.mk #[32, 104])).bind fun y9 => ((impl_ParseInt y9).bind fun y10 => (cond (decide ((3 : Int) < (y4.length : Int))) (grd (0 ≤ (3 : Int) ∧ (3 : Int) < (y4.length : Int)) ((strings_Cut (y4.getD ((3 : Int).toNat) (ByteArray.mk #[])) (ByteArray.mk #[32, 40])).bind fun y11 => ((strings_Cut y11.1 (ByteArray.mk #[32])).bind fun y12 => ((impl_ParseInt y12.1).bind fun y13 => ((strings_TrimSuffix y11.2.1 (ByteArray.mk #[41])).bind fun y14 => (some (d, y6.1, y8.1, y10.1, y13.1, y14))))))) ((some (d, y6.1, y8.1, y10.1, (0 : Int), (ByteArray.mk #[])))))))))))))) ((some (d, (0 : Int), (0 : Int), (0 : Int), (0 : Int), (ByteArray.mk #[]))))))
noncomputable def tailI (a0 : ByteArray) (z15 : Int × Int × Int × Int × Int × ByteArray) : Option (DayRow × Bool) :=
  ((impl_IsDayRow (z15.1, z15.2.1, z15.2.2.1, z15.2.2.2.1, z15.2.2.2.2.1, z15.2.2.2.2.2, ())).bind fun y16 => (cond (!y16) ((some (((0 : Int), (0 : Int), (0 : Int), (0 : Int), (0 : Int), (ByteArray.mk #[]), ()), false))) ((impl_dayLine (z15.1, z15.2.1, z15.2.2.1, z15.2.2.2.1, z15.2.2.2.2.1, z15.2.2.2.2.2, ())).bind fun y17 => (cond (!decide (y17 = a0)) ((some (((0 : Int), (0 : Int), (0 : Int), (0 : Int), (0 : Int), (ByteArray.mk #[]), ()), false))) ((some ((z15.1, z15.2.1, z15.2.2.1, z15.2.2.2.1, z15.2.2.2.2.1, z15.2.2.2.2.2, ()), true)))))))
noncomputable def tailS (a0 : ByteArray) (z11 : Int × Int × Int × Int × Int × ByteArray) : Option (DayRow × Bool) :=
  ((spec_l26One (z11.1, z11.2.1, z11.2.2.1, z11.2.2.2.1, z11.2.2.2.2.1, z11.2.2.2.2.2, ())).bind fun y12 => (cond (!y12) ((some (((0 : Int), (0 : Int), (0 : Int), (0 : Int), (0 : Int), (ByteArray.mk #[]), ()), false))) ((spec_l26Line (z11.1, z11.2.1, z11.2.2.1, z11.2.2.2.1, z11.2.2.2.2.1, z11.2.2.2.2.2, ())).bind fun y13 => (cond (!decide (y13 = a0)) ((some (((0 : Int), (0 : Int), (0 : Int), (0 : Int), (0 : Int), (ByteArray.mk #[]), ()), false))) ((some ((z11.1, z11.2.1, z11.2.2.1, z11.2.2.2.1, z11.2.2.2.2.1, z11.2.2.2.2.2, ()), true)))))))
noncomputable def goS (a0 : ByteArray) (z2 : Int × (List ByteArray)) : Option (DayRow × Bool) :=
  ((grd (0 ≤ (1 : Int) ∧ (1 : Int) < (z2.2.length : Int)) (grd (0 ≤ (1 : Int) ∧ (1 : Int) < (z2.2.length : Int)) (grd (0 ≤ (0 : Int) ∧ (0 : Int) ≤ (w64 (((z2.2.getD ((1 : Int).toNat) (ByteArray.mk #[])).size : Int) - (1 : Int))) ∧ (w64 (((z2.2.getD ((1 : Int).toNat) (ByteArray.mk #[])).size : Int) - (1 : Int))) ≤ ((z2.2.getD ((1 : Int).toNat) (ByteArray.mk #[])).size : Int)) ((spec_l1Read (bsub (z2.2.getD ((1 : Int).toNat) (ByteArray.mk #[])) (0 : Int) (w64 (((z2.2.getD ((1 : Int).toNat) (ByteArray.mk #[])).size : Int) - (1 : Int))))).bind fun y3 => (some ((Tg.mk : Tg 1), z2.1, z2.2, y3.1)))))).bind fun z4 => ((cond (decide ((3 : Int) < z4.2.1)) (grd (0 ≤ (2 : Int) ∧ (2 : Int) < (z4.2.2.1.length : Int)) ((spec_l1Read (z4.2.2.1.getD ((2 : Int).toNat) (ByteArray.mk #[]))).bind fun y5 => (grd (0 ≤ (4 : Int) ∧ (4 : Int) < (z4.2.2.1.length : Int)) ((spec_l1Read (z4.2.2.1.getD ((4 : Int).toNat) (ByteArray.mk #[]))).bind fun y6 => (grd (0 ≤ (6 : Int) ∧ (6 : Int) < (z4.2.2.1.length : Int)) ((spec_l1Read (z4.2.2.1.getD ((6 : Int).toNat) (ByteArray.mk #[]))).bind fun y7 => (some (z4.2.1, z4.2.2.1, z4.2.2.2, y5.1, y6.1, y7.1)))))))) ((some (z4.2.1, z4.2.2.1, z4.2.2.2, (0 : Int), (0 : Int), (0 : Int))))).bind fun z8 => (((cond (decide (z8.1 = (11 : Int))) (grd (0 ≤ (10 : Int) ∧ (10 : Int) < (z8.2.1.length : Int)) ((some ((decide ((2 : Int) < ((z8.2.1.getD ((10 : Int).toNat) (ByteArray.mk #[])).size : Int))), z8.2.1, z8.2.2.1, z8.2.2.2.1, z8.2.2.2.2.1, z8.2.2.2.2.2)))) ((some (false, z8.2.1, z8.2.2.1, z8.2.2.2.1, z8.2.2.2.2.1, z8.2.2.2.2.2)))).bind fun z9 => (cond z9.1 (grd (0 ≤ (8 : Int) ∧ (8 : Int) < (z9.2.1.length : Int)) ((spec_l1Read (z9.2.1.getD ((8 : Int).toNat) (ByteArray.mk #[]))).bind fun y10 => (grd (0 ≤ (10 : Int) ∧ (10 : Int) < (z9.2.1.length : Int)) (grd (0 ≤ (10 : Int) ∧ (10 : Int) < (z9.2.1.length : Int)) (grd (0 ≤ (1 : Int) ∧ (1 : Int) ≤ (w64 (((z9.2.1.getD ((10 : Int).toNat) (ByteArray.mk #[])).size : Int) - (1 : Int))) ∧ (w64 (((z9.2.1.getD ((10 : Int).toNat) (ByteArray.mk #[])).size : Int) - (1 : Int))) ≤ ((z9.2.1.getD ((10 : Int).toNat) (ByteArray.mk #[])).size : Int)) ((some (z9.2.2.1, z9.2.2.2.1, z9.2.2.2.2.1, z9.2.2.2.2.2, y10.1, (bsub (z9.2.1.getD ((10 : Int).toNat) (ByteArray.mk #[])) (1 : Int) (w64 (((z9.2.1.getD ((10 : Int).toNat) (ByteArray.mk #[])).size : Int) - (1 : Int)))))))))))) ((some (z9.2.2.1, z9.2.2.2.1, z9.2.2.2.2.1, z9.2.2.2.2.2, (0 : Int), (ByteArray.mk #[])))))).bind fun z11 => (tailS a0 z11))))
noncomputable def preS (a0 : ByteArray) (y1 : List ByteArray) : Option (Lp (Int × (List ByteArray)) (DayRow × Bool)) :=
  (cond (decide ((80 : Int) < (a0.size : Int))) (outm ((some (((0 : Int), (0 : Int), (0 : Int), (0 : Int), (0 : Int), (ByteArray.mk #[]), ()), false)))) (cond (!decide ((y1.length : Int) = (3 : Int))) (cond (!decide ((y1.length : Int) = (8 : Int))) (cond (!decide ((y1.length : Int) = (11 : Int))) (outm ((some (((0 : Int), (0 : Int), (0 : Int), (0 : Int), (0 : Int), (ByteArray.mk #[]), ()), false)))) (grd (0 ≤ (1 : Int) ∧ (1 : Int) < (y1.length : Int)) (cond (decide (((y1.getD ((1 : Int).toNat) (ByteArray.mk #[])).size : Int) < (2 : Int))) (outm ((some (((0 : Int), (0 : Int), (0 : Int), (0 : Int), (0 : Int), (ByteArray.mk #[]), ()), false)))) ((some (.go ((y1.length : Int), y1))))))) (grd (0 ≤ (1 : Int) ∧ (1 : Int) < (y1.length : Int)) (cond (decide (((y1.getD ((1 : Int).toNat) (ByteArray.mk #[])).size : Int) < (2 : Int))) (outm ((some (((0 : Int), (0 : Int), (0 : Int), (0 : Int), (0 : Int), (ByteArray.mk #[]), ()), false)))) ((some (.go ((y1.length : Int), y1))))))) (grd (0 ≤ (1 : Int) ∧ (1 : Int) < (y1.length : Int)) (cond (decide (((y1.getD ((1 : Int).toNat) (ByteArray.mk #[])).size : Int) < (2 : Int))) (outm ((some (((0 : Int), (0 : Int), (0 : Int), (0 : Int), (0 : Int), (ByteArray.mk #[]), ()), false)))) ((some (.go ((y1.length : Int), y1))))))))

theorem cut_bs (l : List UInt8) (c : UInt8) (q : List UInt8) (h : l.length ≤ 2000000) : strings_Cut (bs l) (bs (c :: q)) = some (bs (Lib.cut l (c :: q)).1, bs (Lib.cut l (c :: q)).2.1, (Lib.cut l (c :: q)).2.2) := by
  unfold strings_Cut
  rw [grd_pos (by rw [bs_size]; omega)]
  unfold cutA cutB cutF
  rw [list_bs, list_bs]
theorem cut_len (l p : List UInt8) : (Lib.cut l p).1.length ≤ l.length ∧ (Lib.cut l p).2.1.length ≤ l.length := by
  unfold Lib.cut
  split
  · exact ⟨by simp; omega, by simp⟩
  · exact ⟨Nat.le_refl _, by simp⟩
theorem trimP_bs (l p : List UInt8) (_ : l.length ≤ 2000000) (hp : p.length ≤ 100) : strings_TrimPrefix (bs l) (bs p) = some (bs (if p.length ≤ l.length ∧ l.take p.length = p then l.drop p.length else l)) := by
  unfold strings_TrimPrefix internal_stringslite_TrimPrefix internal_stringslite_HasPrefix
  simp only [bs_size]
  by_cases h1 : p.length ≤ l.length
  · rw [cond_dt (by omega), grd_pos (by omega), bsub_bs, Option.bind_some]
    simp only [Int.toNat_zero, List.drop_zero, Int.toNat_natCast, Nat.sub_zero]
    by_cases h2 : l.take p.length = p
    · rw [h2, decide_eq_true rfl, cond_true, grd_pos (by omega), bsub_bs, if_pos ⟨h1, rfl⟩]
      simp only [Int.toNat_natCast, Option.bind_some]
      rw [List.take_of_length_le (by simp)]
    · rw [decide_eq_false (fun e => h2 (bs_inj.1 e)), cond_false, if_neg (fun e => h2 e.2)]
      rfl
  · rw [cond_df (by omega), Option.bind_some, cond_false, if_neg (fun e => h1 e.1)]
    rfl
def cutS (l q : List UInt8) : List UInt8 := if q.length ≤ l.length ∧ l.drop (l.length - q.length) = q then l.take (l.length - q.length) else l
theorem cutS_len (l q : List UInt8) : (cutS l q).length ≤ l.length := by
  unfold cutS
  split
  · simp
  · exact Nat.le_refl _
theorem cutS_app (a q : List UInt8) : cutS (a ++ q) q = a := by
  have e : (a ++ q).length - q.length = a.length := by simp
  unfold cutS
  rw [e, if_pos ⟨by simp, List.drop_left ..⟩, List.take_left ..]
theorem trimS_bs (l q : List UInt8) (h : l.length ≤ 2000000) (hq : q.length ≤ 100) : strings_TrimSuffix (bs l) (bs q) = some (bs (cutS l q)) := by
  unfold strings_TrimSuffix internal_stringslite_TrimSuffix internal_stringslite_HasSuffix cutS
  simp only [bs_size]
  by_cases h1 : q.length ≤ l.length
  · have hw : w64 ((l.length : Int) - (q.length : Int)) = ((l.length - q.length : Nat) : Int) := by rw [w64_id (by omega) (by omega)]; omega
    rw [cond_dt (by omega), hw, grd_pos (by omega), bsub_bs, Option.bind_some]
    simp only [Int.toNat_natCast, show (l.drop (l.length - q.length)).take (l.length - (l.length - q.length)) = l.drop (l.length - q.length) from List.take_of_length_le (by simp)]
    by_cases h2 : l.drop (l.length - q.length) = q
    · rw [h2, decide_eq_true rfl, cond_true, grd_pos (by omega), bsub_bs, if_pos ⟨h1, rfl⟩]
      simp only [Int.toNat_natCast, Int.toNat_zero, List.drop_zero, Nat.sub_zero, Option.bind_some]
    · rw [decide_eq_false (fun e => h2 (bs_inj.1 e)), cond_false, if_neg (fun e => h2 e.2)]
      rfl
  · rw [cond_df (by omega), Option.bind_some, cond_false, if_neg (fun e => h1 e.1)]
    rfl
theorem splitB_len (sep : ByteArray) : ∀ (k : Nat) (s x : ByteArray), x ∈ Lib.splitB sep 0 k s → x.size ≤ s.size
  | 0, s, x, h => by
    simp only [Lib.splitB, List.mem_singleton] at h
    rw [h]; exact Nat.le_refl _
  | k + 1, s, x, h => by
    unfold Lib.splitB at h
    split at h
    · rw [List.mem_singleton.1 h]; exact Nat.le_refl _
    · rcases List.mem_cons.1 h with h | h
      · rw [h, ByteArray.size_extract]; omega
      · have := splitB_len sep k _ x h
        rw [ByteArray.size_extract] at this
        omega
theorem cut_app2 (c e : UInt8) (hce : c ≠ e) (a r : List UInt8) (h : e ∉ a) : Lib.cut (a ++ c :: e :: r) [c, e] = (a, r, true) := by
  have key : ∀ a : List UInt8, e ∉ a → Lib.index (a ++ c :: e :: r) [c, e] = (a.length : Int) := by
    intro a
    induction a with
    | nil =>
      intro _
      have hp : [c, e].isPrefixOf (c :: e :: r) = true := by simp [List.isPrefixOf]
      rw [List.nil_append]
      unfold Lib.index
      rw [hp]; rfl
    | cons b a ih =>
      intro h
      simp only [List.mem_cons, not_or] at h
      have ih := ih h.2
      have hp : [c, e].isPrefixOf (b :: (a ++ c :: e :: r)) = false := by
        cases a with
        | nil =>
          have : (e == c) = false := by rw [beq_eq_false_iff_ne]; exact fun h => hce h.symm
          simp [List.isPrefixOf, this]
        | cons d a =>
          simp only [List.mem_cons, not_or] at h
          have : (e == d) = false := by rw [beq_eq_false_iff_ne]; exact h.2.1
          simp [List.isPrefixOf, this]
      have h2 : (((a.length : Nat) : Int) == -1) = false := by rw [beq_eq_false_iff_ne]; omega
      rw [List.cons_append]
      unfold Lib.index
      rw [hp, ih, h2]
      simp
  unfold Lib.cut
  rw [key a h, if_pos (by omega)]
  have e1 : a ++ c :: e :: r = a ++ ([c, e] ++ r) := rfl
  rw [Int.toNat_natCast, e1, List.take_left, ← List.drop_drop, List.drop_left, List.drop_left]
theorem dec_no (c : UInt8) (h : c.toNat < 48 ∨ 57 < c.toNat) (n : Nat) : c ∉ Lib.decDigits n := fun hm => by
  have := dec_mem n c hm
  omega
theorem parse_dec (n : Nat) (h : n ≤ 99999) : parseI (bs (Lib.decDigits n)) = ((n : Int), true) := by
  have e : Lib.itoa (n : Int) = Lib.decDigits n := by
    unfold Lib.itoa
    rw [if_neg (by omega)]; rfl
  rw [← e]
  exact parseI_itoa n (by omega)
abbrev rowZ (z : Int × Int × Int × Int × Int × ByteArray) : DayRow := (z.1, z.2.1, z.2.2.1, z.2.2.2.1, z.2.2.2.2.1, z.2.2.2.2.2, ())
abbrev noRow : DayRow × Bool := ((0, 0, 0, 0, 0, ByteArray.mk #[], ()), false)
theorem impl_form (a0 : ByteArray) : impl_ParseDayLine a0 = (strings_Cut a0 (ByteArray.mk #[58, 32])).bind fun y1 => (strings_TrimPrefix y1.1 (ByteArray.mk #[100, 97, 121, 32])).bind fun y2 => (impl_ParseInt y2).bind fun y3 => (restI y3.1 y1.2.1).bind fun z15 => tailI a0 z15 := rfl
theorem spec_form (a0 : ByteArray) : spec_ParseDayLine a0 = (spec_l1Split a0 (32 : Int)).bind fun y1 => joinx (preS a0 y1) (goS a0) := rfl
theorem tailI_yes (s : List UInt8) (z : Int × Int × Int × Int × Int × ByteArray) (hz : z.2.2.2.2.2.size ≤ 1000000000) (h : rowB (rowZ z) = true) (e : lineR (rowZ z) = s) : tailI (bs s) z = some (rowZ z, true) := by
  unfold tailI
  rw [isRow_eq (rowZ z) hz, Option.bind_some, h]
  simp only [Bool.not_true, cond_false]
  rw [(lines_eq (rowZ z) h hz).2, Option.bind_some, e, cond_ndt rfl]
theorem tailI_no (s : List UInt8) (z : Int × Int × Int × Int × Int × ByteArray) (hz : z.2.2.2.2.2.size ≤ 1000000000) (h : ∀ r, rowB r = true → lineR r ≠ s) : tailI (bs s) z = some noRow := by
  unfold tailI
  rw [isRow_eq (rowZ z) hz, Option.bind_some]
  cases hb : rowB (rowZ z) with
  | false => rfl
  | true =>
    simp only [Bool.not_true, cond_false]
    rw [(lines_eq (rowZ z) hb hz).2, Option.bind_some, cond_ndf (fun e => h _ hb (bs_inj.1 e))]
theorem tailS_yes (s : List UInt8) (z : Int × Int × Int × Int × Int × ByteArray) (hz : z.2.2.2.2.2.size ≤ 1000000000) (h : rowB (rowZ z) = true) (e : lineR (rowZ z) = s) : tailS (bs s) z = some (rowZ z, true) := by
  unfold tailS
  rw [one_eq (rowZ z) hz, Option.bind_some, h]
  simp only [Bool.not_true, cond_false]
  rw [(lines_eq (rowZ z) h hz).1, Option.bind_some, e, cond_ndt rfl]
theorem tailS_no (s : List UInt8) (z : Int × Int × Int × Int × Int × ByteArray) (hz : z.2.2.2.2.2.size ≤ 1000000000) (h : ∀ r, rowB r = true → lineR r ≠ s) : tailS (bs s) z = some noRow := by
  unfold tailS
  rw [one_eq (rowZ z) hz, Option.bind_some]
  cases hb : rowB (rowZ z) with
  | false => rfl
  | true =>
    simp only [Bool.not_true, cond_false]
    rw [(lines_eq (rowZ z) hb hz).1, Option.bind_some, cond_ndf (fun e => h _ hb (bs_inj.1 e))]
theorem rest_any (d : Int) (t : List UInt8) (ht : t.length ≤ 2000000) : ∃ z, restI d (bs t) = some z ∧ z.2.2.2.2.2.size ≤ 1000000000 := by
  unfold restI strings_Split
  have h1 : (ByteArray.mk #[44, 32]).size = 2 := rfl
  rw [grd_pos (by rw [bs_size]; omega), Option.bind_some]
  have hlen : ∀ x ∈ splitB (bs t) (ByteArray.mk #[44, 32]), x.size ≤ 2000000 := fun x hx => by
    have := splitB_len _ _ _ x hx
    have h9 := bs_size t
    omega
  generalize splitB (bs t) (ByteArray.mk #[44, 32]) = ps at hlen
  by_cases h3 : (3 : Int) ≤ (ps.length : Int)
  · rw [cond_dt h3, grd_pos (by omega)]
    have part : ∀ k, k < ps.length → ∃ l, ps.getD k (ByteArray.mk #[]) = bs l ∧ l.length ≤ 2000000 := fun k hk => by
      obtain ⟨l, hl⟩ := bs_ex ps[k]
      have := hlen _ (List.getElem_mem hk)
      rw [hl, bs_size] at this
      exact ⟨l, by rw [getD_eq _ _ _ hk, hl], this⟩
    obtain ⟨p0, e0, l0⟩ := part 0 (by omega)
    obtain ⟨p1, e1, l1⟩ := part 1 (by omega)
    obtain ⟨p2, e2, l2⟩ := part 2 (by omega)
    have e0 : ps.getD (0 : Int).toNat (ByteArray.mk #[]) = bs p0 := e0
    have e1 : ps.getD (1 : Int).toNat (ByteArray.mk #[]) = bs p1 := e1
    have e2 : ps.getD (2 : Int).toNat (ByteArray.mk #[]) = bs p2 := e2
    have t0 : strings_TrimSuffix (bs p0) (ByteArray.mk #[32, 117, 112]) = _ := trimS_bs p0 [32, 117, 112] l0 (by decide)
    have t1 : strings_TrimSuffix (bs p1) (ByteArray.mk #[32, 100, 111, 119, 110]) = _ := trimS_bs p1 [32, 100, 111, 119, 110] l1 (by decide)
    have t2 : strings_TrimSuffix (bs p2) (ByteArray.mk #[32, 104]) = _ := trimS_bs p2 [32, 104] l2 (by decide)
    unfold impl_ParseInt
    rw [e0, t0, Option.bind_some, Option.bind_some, grd_pos (by omega), e1, t1, Option.bind_some, Option.bind_some, grd_pos (by omega), e2, t2, Option.bind_some, Option.bind_some]
    by_cases h4 : (3 : Int) < (ps.length : Int)
    · obtain ⟨p3, e3, l3⟩ := part 3 (by omega)
      have e3 : ps.getD (3 : Int).toNat (ByteArray.mk #[]) = bs p3 := e3
      have c1 : strings_Cut (bs p3) (ByteArray.mk #[32, 40]) = _ := cut_bs p3 32 [40] l3
      have c2 := cut_len p3 [32, 40]
      have c3 : strings_Cut (bs (Lib.cut p3 [32, 40]).1) (ByteArray.mk #[32]) = _ := cut_bs (Lib.cut p3 [32, 40]).1 32 [] (by omega)
      have t3 : strings_TrimSuffix (bs (Lib.cut p3 [32, 40]).2.1) (ByteArray.mk #[41]) = _ := trimS_bs (Lib.cut p3 [32, 40]).2.1 [41] (by omega) (by decide)
      have c4 := cutS_len (Lib.cut p3 [32, 40]).2.1 [41]
      rw [cond_dt h4, grd_pos (by omega), e3, c1, Option.bind_some]
      dsimp only
      rw [c3, Option.bind_some, Option.bind_some, t3, Option.bind_some]
      exact ⟨_, rfl, by rw [bs_size]; omega⟩
    · rw [cond_df h4]
      exact ⟨_, rfl, by show (ByteArray.mk #[]).size ≤ 1000000000; decide⟩
  · rw [cond_df h3]
    exact ⟨_, rfl, by show (ByteArray.mk #[]).size ≤ 1000000000; decide⟩
theorem impl_no (s : List UInt8) (hs : s.length ≤ 2000000) (h : ∀ r, rowB r = true → lineR r ≠ s) : impl_ParseDayLine (bs s) = some noRow := by
  rw [impl_form]
  have c1 : strings_Cut (bs s) (ByteArray.mk #[58, 32]) = _ := cut_bs s 58 [32] hs
  have c2 := cut_len s [58, 32]
  obtain ⟨x, t1⟩ : ∃ x, strings_TrimPrefix (bs (Lib.cut s [58, 32]).1) (ByteArray.mk #[100, 97, 121, 32]) = some (bs x) := ⟨_, trimP_bs (Lib.cut s [58, 32]).1 [100, 97, 121, 32] (by omega) (by decide)⟩
  rw [c1, Option.bind_some]
  dsimp only
  rw [t1, Option.bind_some]
  unfold impl_ParseInt
  rw [Option.bind_some]
  dsimp only
  obtain ⟨z, e, hz⟩ := rest_any (parseI (bs x)).1 (Lib.cut s [58, 32]).2.1 (by omega)
  rw [e, Option.bind_some]
  exact tailI_no s z hz h
def stopW (s : Nat) : List UInt8 := if s = 1 then [115, 116, 111, 112] else [115, 116, 111, 112, 115]
def stopsL (s : Nat) (why : List UInt8) : List UInt8 := Lib.decDigits s ++ 32 :: (stopW s ++ 32 :: 40 :: (why ++ [41]))
theorem lineT_open (h s u dn : Nat) (why : List UInt8) (hh : h ≠ 0) : lineT h s u dn why = (Lib.decDigits u ++ [32, 117, 112]) ++ 44 :: ([32] ++ ((Lib.decDigits dn ++ [32, 100, 111, 119, 110]) ++ 44 :: ([32] ++ ((Lib.decDigits h ++ [32, 104]) ++ (if s = 0 then [] else 44 :: ([32] ++ stopsL s why)))))) := by
  unfold lineT stopsL stopW
  rw [if_neg hh]
  by_cases h0 : s = 0
  · subst h0; simp
  · by_cases h1 : s = 1
    · subst h1
      rw [Lib.decDigits_one (i := 1) (by decide)]; simp
    · rw [if_neg h0, if_neg h0, if_neg h1, if_neg h1]; simp
/-- What a valid row is made of. -/
structure RowOk (d u dn h s : Nat) (why : List UInt8) : Prop where
  hd : d ≤ 999
  hu : u ≤ 99999
  hdn : dn ≤ 99999
  hh : h ≤ 24
  hs : s ≤ 99
  closed : h = 0 → u = 0 ∧ dn = 0 ∧ s = 0
  none : s = 0 → why = []
  word : s ≠ 0 → (∀ b ∈ why, 97 ≤ b.toNat ∧ b.toNat ≤ 122) ∧ 1 ≤ why.length ∧ why.length ≤ 10
theorem row_out (r : DayRow) (h : rowB r = true) : ∃ (d u dn hh s : Nat) (why : List UInt8), r = ((d : Int), (u : Int), (dn : Int), (hh : Int), (s : Int), bs why, ()) ∧ RowOk d u dn hh s why ∧ lineR r = lineL d u dn hh s why := by
  obtain ⟨⟨h1, h2⟩, ⟨h3, h4⟩, h5⟩ := nums_out h
  obtain ⟨d, u, dn, hh, s, why, ⟨⟩⟩ := r
  obtain ⟨why, rfl⟩ := bs_ex why
  dsimp only at h1 h2 h3 h4 h5
  unfold rowB at h
  rw [Bool.and_eq_true, Bool.and_eq_true] at h
  obtain ⟨_, hc, hw⟩ := h
  dsimp only at hc
  unfold whyB at hw
  dsimp only at hw
  refine ⟨d.toNat, u.toNat, dn.toNat, hh.toNat, s.toNat, why, ?_, ⟨by omega, by omega, by omega, by omega, by omega, fun e => ?_, fun e => ?_, fun e => ?_⟩, ?_⟩
  · simp only [Prod.mk.injEq, and_true]
    omega
  · have e : hh = 0 := by omega
    rw [decide_eq_true e, cond_true, decide_eq_true_eq] at hc
    omega
  · have e : s = 0 := by omega
    rw [decide_eq_true e, cond_true, decide_eq_true_eq] at hw
    exact bs_inj.1 hw
  · have e : ¬ s = 0 := by omega
    rw [decide_eq_false e, cond_false] at hw
    unfold wordB at hw
    rw [Bool.and_eq_true, decide_eq_true_eq, list_bs, bs_size, List.all_eq_true] at hw
    obtain ⟨h6, h7⟩ := hw
    refine ⟨fun b hb => ?_, by omega, by omega⟩
    have := h6 b hb
    unfold letB at this
    exact of_decide_eq_true this
  · unfold lineR
    simp only
theorem word_no (c : UInt8) (h : c.toNat < 97 ∨ 122 < c.toNat) {why : List UInt8} (hw : ∀ b ∈ why, 97 ≤ b.toNat ∧ b.toNat ≤ 122) : c ∉ why := fun hm => by
  have := hw c hm
  omega
theorem trimP_app (p a : List UInt8) (h : (p ++ a).length ≤ 2000000) (hp : p.length ≤ 100) : strings_TrimPrefix (bs (p ++ a)) (bs p) = some (bs a) := by
  rw [trimP_bs _ _ h hp, if_pos ⟨by simp, List.take_left ..⟩, List.drop_left ..]
theorem trimS_app (a q : List UInt8) (h : (a ++ q).length ≤ 2000000) (hq : q.length ≤ 100) : strings_TrimSuffix (bs (a ++ q)) (bs q) = some (bs a) := by
  rw [trimS_bs _ _ h hq, cutS_app]
theorem up_get {α : Type} (a b c : α) (l : List α) (d : α) : (a :: b :: c :: l).getD (2 : Int).toNat d = c := rfl
theorem rest_closed (d : Int) : restI d (bs [99, 108, 111, 115, 101, 100]) = some (d, 0, 0, 0, 0, ByteArray.mk #[]) := by
  unfold restI strings_Split
  have h1 : (ByteArray.mk #[44, 32]).size = 2 := rfl
  rw [grd_pos (by rw [bs_size]; exact ⟨by decide, by omega⟩), Option.bind_some]
  have e : splitB (bs [99, 108, 111, 115, 101, 100]) (ByteArray.mk #[44, 32]) = [bs [99, 108, 111, 115, 101, 100]] := split_none 44 [32] _ (by decide)
  rw [e, cond_df (by decide)]
theorem rest_open (d : Int) (u dn h s : Nat) (why : List UInt8) (ok : RowOk d.toNat u dn h s why) (hh : h ≠ 0) : restI d (bs (lineT h s u dn why)) = some (d, (u : Int), (dn : Int), (h : Int), (s : Int), bs why) := by
  have hu := ok.hu
  have hdn := ok.hdn
  have hh24 := ok.hh
  have hs := ok.hs
  have l1 := dec_le u hu
  have l2 := dec_le dn hdn
  have l3 := dec_le h (by omega)
  have l4 := dec_le s (by omega)
  have n1 : (44 : UInt8) ∉ Lib.decDigits u ++ [32, 117, 112] := by
    have := dec_no 44 (by decide) u
    simp [this]
  have n2 : (44 : UInt8) ∉ Lib.decDigits dn ++ [32, 100, 111, 119, 110] := by
    have := dec_no 44 (by decide) dn
    simp [this]
  have n3 : (44 : UInt8) ∉ Lib.decDigits h ++ [32, 104] := by
    have := dec_no 44 (by decide) h
    simp [this]
  have t0 : strings_TrimSuffix (bs (Lib.decDigits u ++ [32, 117, 112])) (ByteArray.mk #[32, 117, 112]) = _ := trimS_app (Lib.decDigits u) [32, 117, 112] (by simp; omega) (by decide)
  have t1 : strings_TrimSuffix (bs (Lib.decDigits dn ++ [32, 100, 111, 119, 110])) (ByteArray.mk #[32, 100, 111, 119, 110]) = _ := trimS_app (Lib.decDigits dn) [32, 100, 111, 119, 110] (by simp; omega) (by decide)
  have t2 : strings_TrimSuffix (bs (Lib.decDigits h ++ [32, 104])) (ByteArray.mk #[32, 104]) = _ := trimS_app (Lib.decDigits h) [32, 104] (by simp; omega) (by decide)
  have hlen : (lineT h s u dn why).length ≤ 1000 := by
    rw [lineT_open _ _ _ _ _ hh]
    by_cases h0 : s = 0
    · rw [if_pos h0]; simp; omega
    · have := (ok.word h0).2.2
      rw [if_neg h0]; unfold stopsL stopW; split <;> simp <;> omega
  unfold restI strings_Split
  have h1 : (ByteArray.mk #[44, 32]).size = 2 := rfl
  rw [grd_pos (by rw [bs_size]; omega), Option.bind_some, lineT_open _ _ _ _ _ hh]
  have e1 := split_app 44 [32] (Lib.decDigits u ++ [32, 117, 112]) ((Lib.decDigits dn ++ [32, 100, 111, 119, 110]) ++ 44 :: ([32] ++ ((Lib.decDigits h ++ [32, 104]) ++ (if s = 0 then [] else 44 :: ([32] ++ stopsL s why))))) n1
  have e2 := split_app 44 [32] (Lib.decDigits dn ++ [32, 100, 111, 119, 110]) ((Lib.decDigits h ++ [32, 104]) ++ (if s = 0 then [] else 44 :: ([32] ++ stopsL s why))) n2
  rw [e2] at e1
  have k9 : bs (44 :: [32]) = ByteArray.mk #[44, 32] := rfl
  rw [k9] at e1
  rw [e1]
  by_cases h0 : s = 0
  · subst h0
    obtain rfl := ok.none rfl
    have e3 := split_none 44 [32] (Lib.decDigits h ++ [32, 104]) n3
    rw [k9] at e3
    rw [if_pos rfl, List.append_nil, e3]
    unfold impl_ParseInt
    rw [cond_dt (by simp), grd_pos (by simp)]
    show ((strings_TrimSuffix (bs (Lib.decDigits u ++ [32, 117, 112])) (ByteArray.mk #[32, 117, 112])).bind _) = _
    rw [t0, Option.bind_some, Option.bind_some, grd_pos (by simp)]
    show ((strings_TrimSuffix (bs (Lib.decDigits dn ++ [32, 100, 111, 119, 110])) (ByteArray.mk #[32, 100, 111, 119, 110])).bind _) = _
    rw [t1, Option.bind_some, Option.bind_some, grd_pos (by simp)]
    show ((strings_TrimSuffix (bs (Lib.decDigits h ++ [32, 104])) (ByteArray.mk #[32, 104])).bind _) = _
    rw [t2, Option.bind_some, Option.bind_some, cond_df (by simp), parse_dec u hu, parse_dec dn hdn, parse_dec h (by omega)]
    rfl
  · obtain ⟨hw, hw1, hw2⟩ := ok.word h0
    have n4 : (44 : UInt8) ∉ stopsL s why := by
      have a1 := dec_no 44 (by decide) s
      have a2 := word_no 44 (by decide) hw
      unfold stopsL stopW
      split <;> simp [a1, a2]
    have e3 := split_app 44 [32] (Lib.decDigits h ++ [32, 104]) (stopsL s why) n3
    rw [split_none 44 [32] _ n4, k9] at e3
    rw [if_neg h0, e3]
    have hsl : (stopsL s why).length ≤ 1000 := by unfold stopsL stopW; split <;> simp <;> omega
    have c1 : strings_Cut (bs (stopsL s why)) (ByteArray.mk #[32, 40]) = _ := cut_bs (stopsL s why) 32 [40] (by omega)
    have c2 : Lib.cut (stopsL s why) [32, 40] = (Lib.decDigits s ++ 32 :: stopW s, why ++ [41], true) := by
      have a1 := dec_no 40 (by decide) s
      have := cut_app2 32 40 (by decide) (Lib.decDigits s ++ 32 :: stopW s) (why ++ [41]) (by unfold stopW; split <;> simp [a1])
      rw [← this]
      unfold stopsL
      simp
    have c3 : strings_Cut (bs (Lib.decDigits s ++ 32 :: stopW s)) (ByteArray.mk #[32]) = _ := cut_bs (Lib.decDigits s ++ 32 :: stopW s) 32 [] (by unfold stopW; split <;> simp <;> omega)
    have c4 : Lib.cut (Lib.decDigits s ++ 32 :: stopW s) [32] = (Lib.decDigits s, stopW s, true) := cut_app 32 [] (Lib.decDigits s) (stopW s) (dec_no 32 (by decide) s)
    have t3 : strings_TrimSuffix (bs (why ++ [41])) (ByteArray.mk #[41]) = _ := trimS_app why [41] (by simp; omega) (by decide)
    rw [c2] at c1
    rw [c4] at c3
    unfold impl_ParseInt
    rw [cond_dt (by simp), grd_pos (by simp)]
    show ((strings_TrimSuffix (bs (Lib.decDigits u ++ [32, 117, 112])) (ByteArray.mk #[32, 117, 112])).bind _) = _
    rw [t0, Option.bind_some, Option.bind_some, grd_pos (by simp)]
    show ((strings_TrimSuffix (bs (Lib.decDigits dn ++ [32, 100, 111, 119, 110])) (ByteArray.mk #[32, 100, 111, 119, 110])).bind _) = _
    rw [t1, Option.bind_some, Option.bind_some, grd_pos (by simp)]
    show ((strings_TrimSuffix (bs (Lib.decDigits h ++ [32, 104])) (ByteArray.mk #[32, 104])).bind _) = _
    rw [t2, Option.bind_some, Option.bind_some, cond_dt (by simp), grd_pos (by simp)]
    show ((strings_Cut (bs (stopsL s why)) (ByteArray.mk #[32, 40])).bind _) = _
    rw [c1, Option.bind_some]
    dsimp only
    rw [c3, Option.bind_some, Option.bind_some]
    dsimp only
    rw [t3, Option.bind_some, parse_dec u hu, parse_dec dn hdn, parse_dec h (by omega), parse_dec s (by omega)]
theorem impl_yes (d u dn h s : Nat) (why : List UInt8) (ok : RowOk d u dn h s why) (hr : rowB ((d : Int), (u : Int), (dn : Int), (h : Int), (s : Int), bs why, ()) = true) (hl : lineR ((d : Int), (u : Int), (dn : Int), (h : Int), (s : Int), bs why, ()) = lineL d u dn h s why) (hlen : (lineL d u dn h s why).length ≤ 2000000) :
    impl_ParseDayLine (bs (lineL d u dn h s why)) = some (((d : Int), (u : Int), (dn : Int), (h : Int), (s : Int), bs why, ()), true) := by
  have hd := ok.hd
  have ld := dec_le d (by omega)
  have form : lineL d u dn h s why = ([100, 97, 121, 32] ++ Lib.decDigits d) ++ 58 :: ([32] ++ lineT h s u dn why) := by unfold lineL; simp
  have n1 : (58 : UInt8) ∉ [100, 97, 121, 32] ++ Lib.decDigits d := by
    have := dec_no 58 (by decide) d
    simp [this]
  have c1 : strings_Cut (bs (lineL d u dn h s why)) (ByteArray.mk #[58, 32]) = _ := cut_bs _ 58 [32] hlen
  have c2 : Lib.cut (lineL d u dn h s why) [58, 32] = _ := (congrArg (fun z => Lib.cut z [58, 32]) form).trans (cut_app 58 [32] ([100, 97, 121, 32] ++ Lib.decDigits d) (lineT h s u dn why) n1)
  rw [c2] at c1
  have t1 : strings_TrimPrefix (bs ([100, 97, 121, 32] ++ Lib.decDigits d)) (ByteArray.mk #[100, 97, 121, 32]) = _ := trimP_app [100, 97, 121, 32] (Lib.decDigits d) (by simp; omega) (by decide)
  rw [impl_form, c1, Option.bind_some]
  dsimp only
  rw [t1, Option.bind_some]
  unfold impl_ParseInt
  rw [Option.bind_some, parse_dec d (by omega)]
  dsimp only
  by_cases hh : h = 0
  · obtain ⟨rfl, rfl, rfl⟩ := ok.closed hh
    obtain rfl := ok.none rfl
    subst hh
    have e : lineT 0 0 0 0 [] = [99, 108, 111, 115, 101, 100] := rfl
    rw [e, rest_closed, Option.bind_some]
    exact tailI_yes _ ((d : Int), 0, 0, 0, 0, ByteArray.mk #[]) (by show (ByteArray.mk #[]).size ≤ 1000000000; decide) hr hl
  · have hb : (bs why).size ≤ 1000000000 := by
      rw [bs_size]
      by_cases h0 : s = 0
      · rw [ok.none h0]; simp
      · have := (ok.word h0).2.2; omega
    rw [rest_open (d : Int) u dn h s why ok hh, Option.bind_some]
    exact tailI_yes _ ((d : Int), (u : Int), (dn : Int), (h : Int), (s : Int), bs why) hb hr hl
theorem get_bs (ws : List (List UInt8)) (k : Nat) : (ws.map bs).getD k (ByteArray.mk #[]) = bs (ws.getD k []) := by
  rw [List.getD_eq_getElem?_getD, List.getD_eq_getElem?_getD, List.getElem?_map]
  cases ws[k]? <;> rfl
abbrev tailN (l : List UInt8) : List UInt8 := l.take (l.length - 1)
/-- The row that the words of a line tell. -/
def zS (ws : List (List UInt8)) : Int × Int × Int × Int × Int × ByteArray :=
  ((parseI (bs (tailN (ws.getD 1 [])))).1,
   if 3 < ws.length then (parseI (bs (ws.getD 2 []))).1 else 0,
   if 3 < ws.length then (parseI (bs (ws.getD 4 []))).1 else 0,
   if 3 < ws.length then (parseI (bs (ws.getD 6 []))).1 else 0,
   if ws.length = 11 ∧ 2 < (ws.getD 10 []).length then (parseI (bs (ws.getD 8 []))).1 else 0,
   if ws.length = 11 ∧ 2 < (ws.getD 10 []).length then bs ((tailN (ws.getD 10 [])).drop 1) else ByteArray.mk #[])
theorem zS_eleven (ws : List (List UInt8)) (h : ws.length = 11) (h2 : 2 < (ws.getD 10 []).length) : zS ws = ((parseI (bs (tailN (ws.getD 1 [])))).1, (parseI (bs (ws.getD 2 []))).1, (parseI (bs (ws.getD 4 []))).1, (parseI (bs (ws.getD 6 []))).1, (parseI (bs (ws.getD 8 []))).1, bs ((tailN (ws.getD 10 [])).drop 1)) := by
  unfold zS
  rw [if_pos (by omega), if_pos (by omega), if_pos (by omega), if_pos ⟨h, h2⟩, if_pos ⟨h, h2⟩]
theorem zS_size (ws : List (List UInt8)) (h : ∀ k, (ws.getD k []).length ≤ 1000) : (zS ws).2.2.2.2.2.size ≤ 1000000000 := by
  unfold zS
  dsimp only
  split
  · have := h 10
    rw [bs_size, List.length_drop, List.length_take]; omega
  · decide
theorem goS_eq (a0 : ByteArray) (ws : List (List UInt8)) (h : ∀ k, (ws.getD k []).length ≤ 1000) (hn : ws.length = 3 ∨ ws.length = 8 ∨ ws.length = 11) (h1 : 2 ≤ (ws.getD 1 []).length) :
    goS a0 ((ws.length : Int), ws.map bs) = tailS a0 (zS ws) := by
  have hm : (ws.map bs).length = ws.length := List.length_map ..
  have hk1 := h 1
  have hk10 := h 10
  have w1 : w64 (((ws.getD 1 []).length : Int) - 1) = (((ws.getD 1 []).length - 1 : Nat) : Int) := by rw [w64_id (by omega) (by omega)]; omega
  have g1 : (ws.map bs).getD (1 : Int).toNat (ByteArray.mk #[]) = bs (ws.getD 1 []) := get_bs ws 1
  have g2 : (ws.map bs).getD (2 : Int).toNat (ByteArray.mk #[]) = bs (ws.getD 2 []) := get_bs ws 2
  have g4 : (ws.map bs).getD (4 : Int).toNat (ByteArray.mk #[]) = bs (ws.getD 4 []) := get_bs ws 4
  have g6 : (ws.map bs).getD (6 : Int).toNat (ByteArray.mk #[]) = bs (ws.getD 6 []) := get_bs ws 6
  have g8 : (ws.map bs).getD (8 : Int).toNat (ByteArray.mk #[]) = bs (ws.getD 8 []) := get_bs ws 8
  have g10 : (ws.map bs).getD (10 : Int).toNat (ByteArray.mk #[]) = bs (ws.getD 10 []) := get_bs ws 10
  have b1 : bsub (bs (ws.getD 1 [])) (0 : Int) (((ws.getD 1 []).length - 1 : Nat) : Int) = bs (tailN (ws.getD 1 [])) := by
    rw [bsub_bs, show (0 : Int).toNat = 0 from rfl, List.drop_zero, Int.toNat_natCast, Nat.sub_zero]
  have r1 := l1Read_eq (tailN (ws.getD 1 [])) (by rw [List.length_take]; omega)
  have r2 := l1Read_eq (ws.getD 2 []) (by have := h 2; omega)
  have r4 := l1Read_eq (ws.getD 4 []) (by have := h 4; omega)
  have r6 := l1Read_eq (ws.getD 6 []) (by have := h 6; omega)
  have r8 := l1Read_eq (ws.getD 8 []) (by have := h 8; omega)
  unfold goS zS
  dsimp only
  rw [hm, g1, grd_pos (by omega), grd_pos (by omega), bs_size, w1, grd_pos (by omega), b1, r1, Option.bind_some, Option.bind_some]
  dsimp only
  rcases hn with hn | hn | hn
  · rw [cond_df (by omega), Option.bind_some]
    dsimp only
    rw [cond_df (by omega), Option.bind_some, cond_false, Option.bind_some, if_neg (by omega), if_neg (by omega), if_neg (by omega), if_neg (by omega), if_neg (by omega)]
  · rw [cond_dt (by omega), hm, grd_pos (by omega), g2, r2, Option.bind_some, grd_pos (by omega), g4, r4, Option.bind_some, grd_pos (by omega), g6, r6, Option.bind_some, Option.bind_some]
    dsimp only
    rw [cond_df (by omega), Option.bind_some, cond_false, Option.bind_some, if_pos (by omega), if_pos (by omega), if_pos (by omega), if_neg (by omega), if_neg (by omega)]
  · rw [cond_dt (by omega), hm, grd_pos (by omega), g2, r2, Option.bind_some, grd_pos (by omega), g4, r4, Option.bind_some, grd_pos (by omega), g6, r6, Option.bind_some, Option.bind_some]
    dsimp only
    rw [cond_dt (by omega), hm, grd_pos (by omega), g10, bs_size, Option.bind_some]
    dsimp only
    by_cases h2 : 2 < (ws.getD 10 []).length
    · have w10 : w64 (((ws.getD 10 []).length : Int) - 1) = (((ws.getD 10 []).length - 1 : Nat) : Int) := by rw [w64_id (by omega) (by omega)]; omega
      have b10 : bsub (bs (ws.getD 10 [])) (1 : Int) (((ws.getD 10 []).length - 1 : Nat) : Int) = bs ((tailN (ws.getD 10 [])).drop 1) := by
        rw [bsub_bs, show (1 : Int).toNat = 1 from rfl, Int.toNat_natCast, List.drop_take]
      rw [cond_dt (by omega), hm, grd_pos (by omega), g8, r8, Option.bind_some, grd_pos (by omega), grd_pos (by omega), g10, bs_size, w10, grd_pos (by omega), b10, Option.bind_some, if_pos (by omega), if_pos (by omega), if_pos (by omega), if_pos ⟨hn, h2⟩, if_pos ⟨hn, h2⟩]
    · rw [cond_df (by omega), Option.bind_some, if_pos (by omega), if_pos (by omega), if_pos (by omega), if_neg (by omega), if_neg (by omega)]
theorem spl_part (c : UInt8) : ∀ (l z : List UInt8), z ∈ spl c l → z.length ≤ l.length := by
  intro l
  induction l with
  | nil => intro z hz; simp [spl] at hz; simp [hz]
  | cons b l ih =>
    intro z hz
    unfold spl at hz
    split at hz
    · rcases List.mem_cons.1 hz with hz | hz
      · simp [hz]
      · have := ih z hz; simp; omega
    · cases hq : spl c l with
      | nil => rw [hq] at hz; simp at hz; simp [hz]
      | cons q qs =>
        rw [hq] at hz
        rcases List.mem_cons.1 hz with hz | hz
        · have := ih q (by rw [hq]; simp)
          rw [hz]; simp; omega
        · have := ih z (by rw [hq]; simp [hz])
          simp; omega
theorem preS_eq (s : List UInt8) (ws : List (List UInt8)) :
    preS (bs s) (ws.map bs) = if s.length ≤ 80 ∧ (ws.length = 3 ∨ ws.length = 8 ∨ ws.length = 11) ∧ 2 ≤ (ws.getD 1 []).length then some (.go ((ws.length : Int), ws.map bs)) else some (.out noRow) := by
  have hm : (ws.map bs).length = ws.length := List.length_map ..
  have g1 : (ws.map bs).getD (1 : Int).toNat (ByteArray.mk #[]) = bs (ws.getD 1 []) := get_bs ws 1
  unfold preS
  rw [hm, g1, bs_size, bs_size]
  by_cases h8 : s.length ≤ 80
  case neg => rw [cond_dt (by omega), if_neg (by omega)]; rfl
  rw [cond_df (by omega)]
  have last : ∀ hn : 1 < ws.length, (ws.length = 3 ∨ ws.length = 8 ∨ ws.length = 11) → grd (0 ≤ (1 : Int) ∧ (1 : Int) < (ws.length : Int)) (cond (decide (((ws.getD 1 []).length : Int) < (2 : Int))) (outm ((some (((0 : Int), (0 : Int), (0 : Int), (0 : Int), (0 : Int), (ByteArray.mk #[]), ()), false)))) ((some (Lp.go ((ws.length : Int), ws.map bs))))) = (if s.length ≤ 80 ∧ (ws.length = 3 ∨ ws.length = 8 ∨ ws.length = 11) ∧ 2 ≤ (ws.getD 1 []).length then some (.go ((ws.length : Int), ws.map bs)) else some (.out noRow)) := fun hn hl => by
    rw [grd_pos (by omega)]
    by_cases h2 : (ws.getD 1 []).length < 2
    · rw [cond_dt (by omega), if_neg (by omega)]; rfl
    · rw [cond_df (by omega), if_pos ⟨h8, hl, by omega⟩]
  by_cases h3 : ws.length = 3
  · rw [cond_ndt (by omega)]; exact last (by omega) (.inl h3)
  rw [cond_ndf (by omega)]
  by_cases h4 : ws.length = 8
  · rw [cond_ndt (by omega)]; exact last (by omega) (.inr (.inl h4))
  rw [cond_ndf (by omega)]
  by_cases h5 : ws.length = 11
  · rw [cond_ndt (by omega)]; exact last (by omega) (.inr (.inr h5))
  rw [cond_ndf (by omega), if_neg (by omega)]; rfl
theorem getD_part (s : List UInt8) (k : Nat) : ((spl 32 s).getD k []).length ≤ s.length := by
  by_cases hk : k < (spl 32 s).length
  · rw [getD_eq _ _ _ hk]
    exact spl_part 32 s _ (List.getElem_mem hk)
  · rw [List.getD_eq_getElem?_getD, List.getElem?_eq_none (by omega)]; simp
theorem spec_no (s : List UInt8) (hs : s.length ≤ 2000000) (h : ∀ r, rowB r = true → lineR r ≠ s) : spec_ParseDayLine (bs s) = some noRow := by
  have e : spec_l1Split (bs s) (32 : Int) = some ((spl 32 s).map bs) := split_eq s 32 (by omega)
  rw [spec_form, e, Option.bind_some, preS_eq]
  split
  · rename_i hc
    have hk : ∀ k, ((spl 32 s).getD k []).length ≤ 1000 := fun k => by have := getD_part s k; omega
    show goS (bs s) _ = _
    rw [goS_eq _ _ hk hc.2.1 hc.2.2]
    exact tailS_no s _ (zS_size _ hk) h
  · rfl
theorem words_closed (d : Nat) : spl 32 (lineL d 0 0 0 0 []) = [[100, 97, 121], Lib.decDigits d ++ [58], [99, 108, 111, 115, 101, 100]] := by
  have form : lineL d 0 0 0 0 [] = [100, 97, 121] ++ 32 :: ((Lib.decDigits d ++ [58]) ++ 32 :: [99, 108, 111, 115, 101, 100]) := by
    unfold lineL lineT; simp
  have n1 : (32 : UInt8) ∉ Lib.decDigits d ++ [58] := by
    have := dec_no 32 (by decide) d
    simp [this]
  rw [form, spl_app 32 _ _ (by decide), spl_app 32 _ _ n1]
  rfl
theorem words_open (d u dn h : Nat) (hh : h ≠ 0) : spl 32 (lineL d u dn h 0 []) = [[100, 97, 121], Lib.decDigits d ++ [58], Lib.decDigits u, [117, 112, 44], Lib.decDigits dn, [100, 111, 119, 110, 44], Lib.decDigits h, [104]] := by
  have form : lineL d u dn h 0 [] = [100, 97, 121] ++ 32 :: ((Lib.decDigits d ++ [58]) ++ 32 :: (Lib.decDigits u ++ 32 :: ([117, 112, 44] ++ 32 :: (Lib.decDigits dn ++ 32 :: ([100, 111, 119, 110, 44] ++ 32 :: (Lib.decDigits h ++ 32 :: [104])))))) := by
    unfold lineL lineT; rw [if_neg hh]; simp
  have n1 : (32 : UInt8) ∉ Lib.decDigits d ++ [58] := by
    have := dec_no 32 (by decide) d
    simp [this]
  rw [form, spl_app 32 _ _ (by decide), spl_app 32 _ _ n1, spl_app 32 _ _ (dec_no 32 (by decide) u), spl_app 32 _ _ (by decide), spl_app 32 _ _ (dec_no 32 (by decide) dn), spl_app 32 _ _ (by decide), spl_app 32 _ _ (dec_no 32 (by decide) h)]
  rfl
theorem words_stops (d u dn h s : Nat) (why : List UInt8) (hh : h ≠ 0) (h0 : s ≠ 0) (hw : (32 : UInt8) ∉ why) : spl 32 (lineL d u dn h s why) = [[100, 97, 121], Lib.decDigits d ++ [58], Lib.decDigits u, [117, 112, 44], Lib.decDigits dn, [100, 111, 119, 110, 44], Lib.decDigits h, [104, 44], Lib.decDigits s, stopW s, 40 :: (why ++ [41])] := by
  have form : lineL d u dn h s why = [100, 97, 121] ++ 32 :: ((Lib.decDigits d ++ [58]) ++ 32 :: (Lib.decDigits u ++ 32 :: ([117, 112, 44] ++ 32 :: (Lib.decDigits dn ++ 32 :: ([100, 111, 119, 110, 44] ++ 32 :: (Lib.decDigits h ++ 32 :: ([104, 44] ++ 32 :: (Lib.decDigits s ++ 32 :: (stopW s ++ 32 :: (40 :: (why ++ [41]))))))))))) := by
    unfold lineL
    rw [lineT_open _ _ _ _ _ hh, if_neg h0]
    unfold stopsL
    simp
  have n1 : (32 : UInt8) ∉ Lib.decDigits d ++ [58] := by
    have := dec_no 32 (by decide) d
    simp [this]
  have n2 : (32 : UInt8) ∉ stopW s := by unfold stopW; split <;> decide
  have n3 : (32 : UInt8) ∉ 40 :: (why ++ [41]) := by simp [hw]
  rw [form, spl_app 32 _ _ (by decide), spl_app 32 _ _ n1, spl_app 32 _ _ (dec_no 32 (by decide) u), spl_app 32 _ _ (by decide), spl_app 32 _ _ (dec_no 32 (by decide) dn), spl_app 32 _ _ (by decide), spl_app 32 _ _ (dec_no 32 (by decide) h), spl_app 32 _ _ (by decide), spl_app 32 _ _ (dec_no 32 (by decide) s), spl_app 32 _ _ n2, spl_not 32 _ n3]
theorem line_len (d u dn h s : Nat) (why : List UInt8) (ok : RowOk d u dn h s why) : (lineL d u dn h s why).length ≤ 80 := by
  have l0 : (Lib.decDigits d).length ≤ 3 := dec_length 2 d (by have := ok.hd; omega)
  have l1 : (Lib.decDigits u).length ≤ 5 := dec_length 4 u (by have := ok.hu; omega)
  have l2 : (Lib.decDigits dn).length ≤ 5 := dec_length 4 dn (by have := ok.hdn; omega)
  have l3 : (Lib.decDigits h).length ≤ 2 := dec_length 1 h (by have := ok.hh; omega)
  have l4 : (Lib.decDigits s).length ≤ 2 := dec_length 1 s (by have := ok.hs; omega)
  unfold lineL
  by_cases hh : h = 0
  · unfold lineT; rw [if_pos hh]; simp; omega
  · rw [lineT_open _ _ _ _ _ hh]
    by_cases h0 : s = 0
    · rw [if_pos h0]; simp; omega
    · have := (ok.word h0).2.2
      rw [if_neg h0]; unfold stopsL stopW; split <;> simp <;> omega
theorem tailN_app (a : List UInt8) (b : UInt8) : tailN (a ++ [b]) = a := by
  show (a ++ [b]).take ((a ++ [b]).length - 1) = a
  have : (a ++ [b]).length - 1 = a.length := by simp
  rw [this, List.take_left]
theorem dec_pos (n : Nat) : 1 ≤ (Lib.decDigits n).length := by
  obtain ⟨b, r, e, _⟩ := dec_cons n
  rw [e]; simp
theorem spec_yes (d u dn h s : Nat) (why : List UInt8) (ok : RowOk d u dn h s why) (hr : rowB ((d : Int), (u : Int), (dn : Int), (h : Int), (s : Int), bs why, ()) = true) (hl : lineR ((d : Int), (u : Int), (dn : Int), (h : Int), (s : Int), bs why, ()) = lineL d u dn h s why) :
    spec_ParseDayLine (bs (lineL d u dn h s why)) = some (((d : Int), (u : Int), (dn : Int), (h : Int), (s : Int), bs why, ()), true) := by
  have hlen := line_len d u dn h s why ok
  have e : spec_l1Split (bs (lineL d u dn h s why)) (32 : Int) = some ((spl 32 (lineL d u dn h s why)).map bs) := split_eq _ 32 (by omega)
  have hk : ∀ k, ((spl 32 (lineL d u dn h s why)).getD k []).length ≤ 1000 := fun k => by have := getD_part (lineL d u dn h s why) k; omega
  have pd := parse_dec d (by have := ok.hd; omega)
  have pu := parse_dec u ok.hu
  have pdn := parse_dec dn ok.hdn
  have ph := parse_dec h (by have := ok.hh; omega)
  have ps := parse_dec s (by have := ok.hs; omega)
  have hd1 := dec_pos d
  have key : ((spl 32 (lineL d u dn h s why)).length = 3 ∨ (spl 32 (lineL d u dn h s why)).length = 8 ∨ (spl 32 (lineL d u dn h s why)).length = 11) ∧ 2 ≤ ((spl 32 (lineL d u dn h s why)).getD 1 []).length ∧ zS (spl 32 (lineL d u dn h s why)) = ((d : Int), (u : Int), (dn : Int), (h : Int), (s : Int), bs why) := by
    by_cases hh : h = 0
    · obtain ⟨rfl, rfl, rfl⟩ := ok.closed hh
      obtain rfl := ok.none rfl
      subst hh
      rw [words_closed]
      refine ⟨.inl rfl, by show 2 ≤ (Lib.decDigits d ++ [58]).length; simp; omega, ?_⟩
      show ((parseI (bs (tailN (Lib.decDigits d ++ [58])))).1, (0 : Int), (0 : Int), (0 : Int), (0 : Int), ByteArray.mk #[]) = _
      rw [tailN_app, pd]
      rfl
    · by_cases h0 : s = 0
      · subst h0
        obtain rfl := ok.none rfl
        rw [words_open d u dn h hh]
        refine ⟨.inr (.inl rfl), by show 2 ≤ (Lib.decDigits d ++ [58]).length; simp; omega, ?_⟩
        show ((parseI (bs (tailN (Lib.decDigits d ++ [58])))).1, (parseI (bs (Lib.decDigits u))).1, (parseI (bs (Lib.decDigits dn))).1, (parseI (bs (Lib.decDigits h))).1, (0 : Int), ByteArray.mk #[]) = _
        rw [tailN_app, pd, pu, pdn, ph]
        rfl
      · obtain ⟨hw, hw1, _⟩ := ok.word h0
        rw [words_stops d u dn h s why hh h0 (word_no 32 (by decide) hw)]
        refine ⟨.inr (.inr rfl), by show 2 ≤ (Lib.decDigits d ++ [58]).length; simp; omega, ?_⟩
        have h2 : 2 < (40 :: (why ++ [41])).length := by simp; omega
        refine (zS_eleven [[100, 97, 121], Lib.decDigits d ++ [58], Lib.decDigits u, [117, 112, 44], Lib.decDigits dn, [100, 111, 119, 110, 44], Lib.decDigits h, [104, 44], Lib.decDigits s, stopW s, 40 :: (why ++ [41])] rfl h2).trans ?_
        show ((parseI (bs (tailN (Lib.decDigits d ++ [58])))).1, (parseI (bs (Lib.decDigits u))).1, (parseI (bs (Lib.decDigits dn))).1, (parseI (bs (Lib.decDigits h))).1, (parseI (bs (Lib.decDigits s))).1, bs ((tailN ((40 :: why) ++ [41])).drop 1)) = _
        rw [tailN_app, tailN_app, pd, pu, pdn, ph, ps]
        rfl
  obtain ⟨k1, k2, k3⟩ := key
  rw [spec_form, e, Option.bind_some, preS_eq, if_pos ⟨hlen, k1, k2⟩]
  show goS (bs (lineL d u dn h s why)) _ = _
  rw [goS_eq _ _ hk k1 k2, k3]
  exact tailS_yes _ ((d : Int), (u : Int), (dn : Int), (h : Int), (s : Int), bs why) (by show (bs why).size ≤ 1000000000; have := zS_size _ hk; rw [k3] at this; exact this) hr hl
theorem parse_both (s : List UInt8) (hs : s.length ≤ 2000000) : ∃ y, spec_ParseDayLine (bs s) = some y ∧ impl_ParseDayLine (bs s) = some y := by
  by_cases h : ∃ r, rowB r = true ∧ lineR r = s
  · obtain ⟨r, hr, hl⟩ := h
    obtain ⟨d, u, dn, hh, t, why, rfl, ok, e⟩ := row_out r hr
    rw [e] at hl
    subst hl
    exact ⟨_, spec_yes d u dn hh t why ok hr e, impl_yes d u dn hh t why ok hr e hs⟩
  · have h : ∀ r, rowB r = true → lineR r ≠ s := fun r hr hl => h ⟨r, hr, hl⟩
    exact ⟨_, spec_no s hs h, impl_no s hs h⟩
theorem iter_tot {S R : Type} {f : S → Option (Lp S R)} (I : Nat → S → Prop) (Q : R → Prop) (n : Nat)
    (h : ∀ k s, k < n → I k s → (∃ s', f s = some (.go s') ∧ I (k + 1) s') ∨ ∃ r, f s = some (.out r) ∧ Q r)
    (h' : ∀ s, I n s → ∃ r, f s = some (.out r) ∧ Q r) {s : S} (h0 : I 0 s) : ∃ r, iter f s = some r ∧ Q r := by
  have key : ∀ d k s, k + d = n → I k s → ∃ r, iter f s = some r ∧ Q r := by
    intro d
    induction d with
    | zero =>
      intro k s hk hI
      obtain rfl : k = n := by omega
      obtain ⟨r, a, q⟩ := h' s hI
      exact ⟨r, iter_out a, q⟩
    | succ d ih =>
      intro k s hk hI
      rcases h k s (by omega) hI with ⟨s', a, hI'⟩ | ⟨r, a, q⟩
      · obtain ⟨r, e, q⟩ := ih (k + 1) s' (by omega) hI'
        exact ⟨r, (iter_go a).trans e, q⟩
      · exact ⟨r, iter_out a, q⟩
  exact key n 0 s (by omega) h0
def okK (l : List DayRow) (k : Nat) : Bool := rowB (l.getD k d_DayRow) && !(decide (0 < k) && decide ((l.getD k d_DayRow).1 ≤ (l.getD (k - 1) d_DayRow).1))
def okL (l : List DayRow) : Bool := (List.range l.length).all (okK l) && decide ((l.length : Int) ≤ 14)
theorem okL_out {l : List DayRow} (h : okL l = true) : l.length ≤ 14 ∧ ∀ k, k < l.length → rowB (l.getD k d_DayRow) = true := by
  unfold okL at h
  simp only [Bool.and_eq_true, decide_eq_true_eq, List.all_eq_true, List.mem_range] at h
  refine ⟨by omega, fun k hk => ?_⟩
  have := h.1 k hk
  unfold okK at this
  simp only [Bool.and_eq_true] at this
  exact this.1
def Small (l : List DayRow) : Prop := l.length ≤ 1048576 ∧ ∀ k, (l.getD k d_DayRow).2.2.2.2.2.1.size ≤ 1048576
theorem small_of {l : List DayRow} (h : Ty.fit (.sl ty_DayRow) l) : Small l := by
  refine ⟨h.1, fun k => ?_⟩
  rcases Nat.lt_or_ge k l.length with hk | hk
  · rw [getD_eq l k _ hk]
    have := h.2 l[k] (List.getElem_mem hk)
    exact this.2.2.2.2.2.1
  · have : l.getD k d_DayRow = d_DayRow := by simp [List.getD_eq_getElem?_getD, List.getElem?_eq_none hk]
    rw [this]; decide
theorem are_step (l : List DayRow) (k : Nat) (hk : k < l.length) (h : Small l) : impl_AreDayRows_loop1 l (k : Int) = some (if okK l k then .go ((k + 1 : Nat) : Int) else .out (Sum.inl ())) := by
  have hl := h.1
  unfold impl_AreDayRows_loop1
  rw [cond_dt (by omega), grd_pos (by omega), row_eta, Int.toNat_natCast, isRow_eq _ (by have := h.2 k; omega), Option.bind_some, w64_nat (by omega)]
  unfold okK
  cases rowB (l.getD k d_DayRow) with
  | false => rfl
  | true =>
    rw [Bool.not_true, cond_false, Bool.true_and]
    by_cases h0 : 0 < k
    · have e : w64 ((k : Int) - 1) = ((k - 1 : Nat) : Int) := by rw [w64_id (by omega) (by omega)]; omega
      rw [cond_dt (by omega), e, grd_pos (by omega), Int.toNat_natCast, decide_eq_true h0, Bool.true_and]
      cases decide ((l.getD k d_DayRow).1 ≤ (l.getD (k - 1) d_DayRow).1) <;> rfl
    · rw [cond_df (by omega), decide_eq_false h0]; rfl
theorem good_step (l : List DayRow) (k : Nat) (hk : k < l.length) (h : Small l) : spec_l26Good_loop1 l (k : Int) = some (if okK l k then .go ((k + 1 : Nat) : Int) else .out (Sum.inl ())) := by
  have hl := h.1
  unfold spec_l26Good_loop1
  rw [cond_dt (by omega), grd_pos (by omega), row_eta, Int.toNat_natCast, one_eq _ (by have := h.2 k; omega), Option.bind_some, w64_nat (by omega)]
  unfold okK
  cases rowB (l.getD k d_DayRow) with
  | false => rfl
  | true =>
    rw [Bool.not_true, cond_false, Bool.true_and]
    by_cases h0 : 0 < k
    · have e : w64 ((k : Int) - 1) = ((k - 1 : Nat) : Int) := by rw [w64_id (by omega) (by omega)]; omega
      rw [cond_dt (by omega), e, grd_pos (by omega), grd_pos (by omega), Int.toNat_natCast, decide_eq_true h0, Bool.true_and]
      cases decide ((l.getD k d_DayRow).1 ≤ (l.getD (k - 1) d_DayRow).1) <;> rfl
    · rw [cond_df (by omega), decide_eq_false h0]; rfl
theorem are_eq (l : List DayRow) (h : Small l) : impl_AreDayRows l = some (okL l) := by
  have hl := h.1
  unfold impl_AreDayRows
  have H : iter (fun s => impl_AreDayRows_loop1 l s) (0 : Int) = some (if (List.range l.length).all (okK l) then (Sum.inr () : Unit ⊕ Unit) else Sum.inl ()) :=
    iter_allN l.length (okK l) (fun k => (k : Int)) (fun k hk => are_step l k hk h) (by
      show impl_AreDayRows_loop1 l (l.length : Int) = _
      unfold impl_AreDayRows_loop1
      rw [cond_df (by omega)]) rfl
  rw [H, Option.bind_some]
  unfold okL
  cases (List.range l.length).all (okK l) <;> rfl
theorem rows_eq (l : List DayRow) (h : Small l) : spec_l26Good l = some (okL l) := by
  have hl := h.1
  unfold spec_l26Good
  have H : iter (fun s => spec_l26Good_loop1 l s) (0 : Int) = some (if (List.range l.length).all (okK l) then (Sum.inr () : Unit ⊕ Unit) else Sum.inl ()) :=
    iter_allN l.length (okK l) (fun k => (k : Int)) (fun k hk => good_step l k hk h) (by
      show spec_l26Good_loop1 l (l.length : Int) = _
      unfold spec_l26Good_loop1
      rw [cond_df (by omega)]) rfl
  rw [H, Option.bind_some]
  unfold okL
  cases (List.range l.length).all (okK l) <;> rfl
/-- Sums over the first rows. -/
def sumK (f : DayRow → Int) (l : List DayRow) : Nat → Int
  | 0 => 0
  | k + 1 => sumK f l k + f (l.getD k d_DayRow)
theorem sumK_range (f : DayRow → Int) (l : List DayRow) (n : Nat) (h : ∀ k, k < n → -99999 ≤ f (l.getD k d_DayRow) ∧ f (l.getD k d_DayRow) ≤ 99999) : ∀ k, k ≤ n → -(99999 * (k : Int)) ≤ sumK f l k ∧ sumK f l k ≤ 99999 * (k : Int)
  | 0, _ => by simp [sumK]
  | k + 1, hk => by
    have := sumK_range f l n h k (by omega)
    have := h k (by omega)
    simp only [sumK]; omega
theorem sumK_pos (f : DayRow → Int) (l : List DayRow) (n : Nat) (h : ∀ k, k < n → 0 ≤ f (l.getD k d_DayRow)) : ∀ k, k ≤ n → 0 ≤ sumK f l k
  | 0, _ => by simp [sumK]
  | k + 1, hk => by
    have := sumK_pos f l n h k (by omega)
    have := h k (by omega)
    simp only [sumK]; omega
def txtK (l : List DayRow) : Nat → List UInt8
  | 0 => []
  | k + 1 => txtK l k ++ (lineR (l.getD k d_DayRow) ++ [10])
theorem txtK_le (l : List DayRow) (h : Small l) (n : Nat) (hr : ∀ k, k < n → rowB (l.getD k d_DayRow) = true) : ∀ k, k ≤ n → (txtK l k).length ≤ k * 1100001
  | 0, _ => by simp [txtK]
  | k + 1, hk => by
    have h1 := txtK_le l h n hr k (by omega)
    have h2 := lineR_le (l.getD k d_DayRow) (hr k (by omega)) (h.2 k)
    simp only [txtK, List.length_append, List.length_cons, List.length_nil]
    omega
theorem ups_in {l : List DayRow} {n : Nat} (hr : ∀ k, k < n → rowB (l.getD k d_DayRow) = true) :
    (∀ k, k < n → -99999 ≤ (l.getD k d_DayRow).2.1 ∧ (l.getD k d_DayRow).2.1 ≤ 99999) ∧ (∀ k, k < n → -99999 ≤ (l.getD k d_DayRow).2.2.1 ∧ (l.getD k d_DayRow).2.2.1 ≤ 99999) ∧ (∀ k, k < n → -99999 ≤ (l.getD k d_DayRow).2.2.2.1 ∧ (l.getD k d_DayRow).2.2.2.1 ≤ 99999) := by
  refine ⟨fun k hk => ?_, fun k hk => ?_, fun k hk => ?_⟩
  all_goals
    obtain ⟨⟨_, h2⟩, ⟨h3, h4⟩, _⟩ := nums_out (hr k hk)
    omega
theorem week_spec (l : List DayRow) (h : Small l) (ho : okL l = true) :
    iter (fun s => spec_WeekText_loop1 l s.1 s.2.1 s.2.2.1 s.2.2.2) ((ByteArray.mk #[]), (0 : Int), (0 : Int), (0 : Int)) = some (bs (txtK l l.length), sumK (fun r => r.2.1) l l.length, sumK (fun r => r.2.2.1) l l.length) := by
  obtain ⟨hn, hr⟩ := okL_out ho
  obtain ⟨u1, u2, _⟩ := ups_in hr
  exact iter_for l.length (fun k => (bs (txtK l k), sumK (fun r => r.2.1) l k, sumK (fun r => r.2.2.1) l k, (k : Int))) (fun k hk => by
    show spec_WeekText_loop1 l (bs (txtK l k)) (sumK (fun r => r.2.1) l k) (sumK (fun r => r.2.2.1) l k) (k : Int) = _
    have e1 := txtK_le l h l.length hr k (by omega)
    have e2 := lineR_le (l.getD k d_DayRow) (hr k hk) (h.2 k)
    have e3 := sumK_range (fun r => r.2.1) l l.length u1 k (by omega)
    have e4 := sumK_range (fun r => r.2.2.1) l l.length u2 k (by omega)
    have e5 := u1 k hk
    have e6 := u2 k hk
    have e7 := (lines_eq (l.getD k d_DayRow) (hr k hk) (by have := h.2 k; omega)).1
    unfold spec_WeekText_loop1
    rw [cond_dt (by omega), grd_pos (by omega), row_eta, Int.toNat_natCast, e7, Option.bind_some, k11]
    simp only [bs_app, bs_size]
    rw [grd_pos (by omega), grd_pos (by simp only [List.length_append, List.length_cons, List.length_nil]; omega), grd_pos (by omega), grd_pos (by omega), w64_nat (by omega), w64_id (by omega) (by omega), w64_id (by omega) (by omega)]
    simp only [txtK, sumK, List.append_assoc]) (by
    show spec_WeekText_loop1 l _ _ _ (l.length : Int) = _
    unfold spec_WeekText_loop1
    rw [cond_df (by omega)]) rfl
theorem week_impl (l : List DayRow) (h : Small l) (ho : okL l = true) :
    iter (fun s => impl_WeekText_loop1 l s.1 s.2) ((ByteArray.mk #[]), (0 : Int)) = some (bs (txtK l l.length)) := by
  obtain ⟨hn, hr⟩ := okL_out ho
  exact iter_for l.length (fun k => (bs (txtK l k), (k : Int))) (fun k hk => by
    show impl_WeekText_loop1 l (bs (txtK l k)) (k : Int) = _
    have e1 := txtK_le l h l.length hr k (by omega)
    have e2 := lineR_le (l.getD k d_DayRow) (hr k hk) (h.2 k)
    have e7 := (lines_eq (l.getD k d_DayRow) (hr k hk) (by have := h.2 k; omega)).2
    unfold impl_WeekText_loop1
    rw [cond_dt (by omega), grd_pos (by omega), row_eta, Int.toNat_natCast, e7, Option.bind_some, k11]
    simp only [bs_app, bs_size]
    rw [grd_pos (by simp only [List.length_cons, List.length_nil]; omega), grd_pos (by simp only [List.length_append, List.length_cons, List.length_nil]; omega), w64_nat (by omega)]
    simp only [txtK]) (by
    show impl_WeekText_loop1 l _ (l.length : Int) = _
    unfold impl_WeekText_loop1
    rw [cond_df (by omega)]) rfl
theorem sums_eq (l : List DayRow) (ho : okL l = true) : impl_sums l = some (sumK (fun r => r.2.1) l l.length, sumK (fun r => r.2.2.1) l l.length, sumK (fun r => r.2.2.2.1) l l.length) := by
  obtain ⟨hn, hr⟩ := okL_out ho
  obtain ⟨u1, u2, u3⟩ := ups_in hr
  unfold impl_sums
  have H : iter (fun s => impl_sums_loop1 l s.1 s.2.1 s.2.2.1 s.2.2.2) ((0 : Int), (0 : Int), (0 : Int), (0 : Int)) = some (sumK (fun r => r.2.1) l l.length, sumK (fun r => r.2.2.1) l l.length, sumK (fun r => r.2.2.2.1) l l.length) :=
    iter_for l.length (fun k => (sumK (fun r => r.2.1) l k, sumK (fun r => r.2.2.1) l k, sumK (fun r => r.2.2.2.1) l k, (k : Int))) (fun k hk => by
      show impl_sums_loop1 l (sumK (fun r => r.2.1) l k) (sumK (fun r => r.2.2.1) l k) (sumK (fun r => r.2.2.2.1) l k) (k : Int) = _
      have e3 := sumK_range (fun r => r.2.1) l l.length u1 k (by omega)
      have e4 := sumK_range (fun r => r.2.2.1) l l.length u2 k (by omega)
      have e8 := sumK_range (fun r => r.2.2.2.1) l l.length u3 k (by omega)
      have e5 := u1 k hk
      have e6 := u2 k hk
      have e9 := u3 k hk
      unfold impl_sums_loop1
      rw [cond_dt (by omega), grd_pos (by omega), Int.toNat_natCast, w64_nat (by omega), w64_id (by omega) (by omega), w64_id (by omega) (by omega), w64_id (by omega) (by omega)]
      rfl) (by
      show impl_sums_loop1 l _ _ _ (l.length : Int) = _
      unfold impl_sums_loop1
      rw [cond_df (by omega)]) rfl
  rw [H]; rfl
theorem week_eq (l : List DayRow) (h : Small l) : ∃ x, spec_WeekText l = some x ∧ impl_WeekText l = some x := by
  unfold spec_WeekText impl_WeekText
  rw [rows_eq l h, are_eq l h, Option.bind_some, Option.bind_some]
  cases ho : okL l with
  | false => exact ⟨_, rfl, rfl⟩
  | true =>
    obtain ⟨hn, hr⟩ := okL_out ho
    obtain ⟨u1, u2, _⟩ := ups_in hr
    have e1 := txtK_le l h l.length hr l.length (by omega)
    have e3 := sumK_range (fun r => r.2.1) l l.length u1 l.length (by omega)
    have e4 := sumK_range (fun r => r.2.2.1) l l.length u2 l.length (by omega)
    have e5 := sumK_pos (fun r => r.2.1) l l.length (fun k hk => (nums_out (hr k hk)).1.2.1) l.length (by omega)
    have e6 := sumK_pos (fun r => r.2.2.1) l l.length (fun k hk => (nums_out (hr k hk)).2.1.1.1) l.length (by omega)
    simp only [Bool.not_true, cond_false, week_spec l h ho, week_impl l h ho, sums_eq l ho, Option.bind_some]
    obtain ⟨u, hu⟩ := Int.eq_ofNat_of_zero_le e5
    obtain ⟨d, hd⟩ := Int.eq_ofNat_of_zero_le e6
    rw [hu] at e3
    rw [hd] at e4
    rw [hu, hd]
    have q1 := dec_length 7 u (by omega)
    have q2 := dec_length 7 d (by omega)
    simp only [l1Num_eq u (by omega), l1Num_eq d (by omega), itoa_eq u (by omega), itoa_eq d (by omega), Option.bind_some, k4, k12, k13, bs_app, bs_size]
    rw [grd_pos (by simp only [List.length_cons, List.length_nil]; omega), grd_pos (by simp only [List.length_append, List.length_cons, List.length_nil]; omega), grd_pos (by simp only [List.length_append, List.length_cons, List.length_nil]; omega), grd_pos (by simp only [List.length_append, List.length_cons, List.length_nil]; omega), grd_pos (by simp only [List.length_append, List.length_cons, List.length_nil]; omega)]
    exact ⟨_, rfl, rfl⟩
/-- The place of the reader stays small; what it reads are bytes. -/
def CG (c : l1Cur) (n : Int) : Prop := (∀ x ∈ c.1, 0 ≤ x ∧ x ≤ 255) ∧ c.1.length ≤ 1048576 ∧ 0 ≤ c.2.1 ∧ c.2.1 ≤ n
theorem CG.up {c : l1Cur} {n m : Int} (h : CG c n) (hm : n ≤ m) : CG c m := ⟨h.1, h.2.1, h.2.2.1, by have := h.2.2.2; omega⟩
def Gives {α : Type} (x : Option (α × l1Cur)) (n : Int) (Q : α → Prop) : Prop := ∃ a c, x = some (a, c) ∧ CG c n ∧ Q a
theorem Gives.ret {α : Type} {a : α} {c : l1Cur} {n : Int} {Q : α → Prop} (h : CG c n) (hq : Q a) : Gives (some (a, c)) n Q := ⟨a, c, rfl, h, hq⟩
theorem Gives.mono {α : Type} {x : Option (α × l1Cur)} {n m : Int} {P Q : α → Prop} (h : Gives x n P) (hm : n ≤ m) (hq : ∀ a, P a → Q a) : Gives x m Q := by
  obtain ⟨a, c, e, h1, h2⟩ := h
  exact ⟨a, c, e, h1.up hm, hq a h2⟩
theorem gives_bind {α β : Type} {x : Option (α × l1Cur)} {f : α × l1Cur → Option (β × l1Cur)} {n m : Int} {P : α → Prop} {Q : β → Prop} (h : Gives x n P)
    (hf : ∀ a code at' seed, P a → CG (code, at', seed, ()) n → Gives (f (a, (code, at', seed, ()))) m Q) : Gives (x.bind f) m Q := by
  obtain ⟨a, ⟨code, at', seed, u⟩, e, h1, h2⟩ := h
  rw [e]
  exact hf a code at' seed h2 h1
theorem gives_cond {α : Type} {b : Bool} {x y : Option (α × l1Cur)} {n : Int} {Q : α → Prop} (h1 : b = true → Gives x n Q) (h2 : b = false → Gives y n Q) : Gives (cond b x y) n Q := by
  cases b
  · exact h2 rfl
  · exact h1 rfl
theorem gives_grd {α : Type} {p : Prop} [Decidable p] {x : Option (α × l1Cur)} {n : Int} {Q : α → Prop} (hp : p) (h : Gives x n Q) : Gives (grd p x) n Q := by
  rw [grd_pos hp]; exact h

theorem and255 (x : Int) : 0 ≤ w64 (wu64 ((BitVec.ofInt (IntKind.u64).bits x &&& BitVec.ofInt (IntKind.u64).bits (255 : Int)).toNat)) ∧ w64 (wu64 ((BitVec.ofInt (IntKind.u64).bits x &&& BitVec.ofInt (IntKind.u64).bits (255 : Int)).toNat)) ≤ 255 := by
  have h : (BitVec.ofInt (IntKind.u64).bits x &&& BitVec.ofInt (IntKind.u64).bits (255 : Int)).toNat ≤ 255 := by
    rw [BitVec.toNat_and]
    exact Nat.le_trans Nat.and_le_right (by decide)
  have e : wu64 ((BitVec.ofInt (IntKind.u64).bits x &&& BitVec.ofInt (IntKind.u64).bits (255 : Int)).toNat : Int) = ((BitVec.ofInt (IntKind.u64).bits x &&& BitVec.ofInt (IntKind.u64).bits (255 : Int)).toNat : Int) := by
    show IntKind.u64.wrap _ = _
    rw [IntKind.wrap_u64]; omega
  rw [e, w64_id (by omega) (by omega)]
  omega
theorem next_ok (c : l1Cur) (n : Int) (h : CG c n) (hn : n ≤ 1000000000000) : Gives (spec_l1Cur_next c) (n + 1) (fun v => 0 ≤ v ∧ v ≤ 255) := by
  obtain ⟨code, at', seed, u⟩ := c
  obtain ⟨hb, hl, h0, h1⟩ := h
  have h0 : 0 ≤ at' := h0
  have h1 : at' ≤ n := h1
  have hw : w64 (at' + 1) = at' + 1 := w64_id (by omega) (by omega)
  have key : ∃ b : Int, (cond (decide (at' < (code.length : Int))) (grd (0 ≤ at' ∧ at' < (code.length : Int)) ((some (w64 (code.getD at'.toNat 0))))) ((some (0 : Int)))) = some b ∧ 0 ≤ b ∧ b ≤ 255 := by
    by_cases hlt : at' < (code.length : Int)
    · rw [cond_dt hlt, grd_pos ⟨h0, hlt⟩]
      have hi : at'.toNat < code.length := by omega
      have hm : code.getD at'.toNat 0 ∈ code := by rw [getD_eq _ _ _ hi]; exact List.getElem_mem hi
      have := hb _ hm
      exact ⟨_, rfl, by rw [w64_id (by omega) (by omega)]; exact this⟩
    · rw [cond_df hlt]; exact ⟨0, rfl, by omega, by omega⟩
  obtain ⟨b, e, b0, b1⟩ := key
  unfold spec_l1Cur_next
  simp only [e, Option.bind_some]
  refine gives_cond (fun _ => ?_) (fun _ => ?_)
  · exact Gives.ret ⟨hb, hl, by show 0 ≤ w64 (at' + 1); omega, by show w64 (at' + 1) ≤ n + 1; omega⟩ ⟨b0, b1⟩
  · refine gives_grd (by omega) ?_
    exact Gives.ret ⟨hb, hl, by show 0 ≤ w64 (at' + 1); omega, by show w64 (at' + 1) ≤ n + 1; omega⟩ (and255 _)
theorem pick_ok (c : l1Cur) (n k : Int) (h : CG c n) (hn : n ≤ 100000000000) : Gives (spec_l1Cur_pick c k) (n + 2) (fun v => 0 ≤ v ∧ (v = 0 ∨ v < k)) := by
  obtain ⟨code, at', seed, u⟩ := c
  unfold spec_l1Cur_pick
  by_cases hk : k ≤ 1
  · rw [cond_dt hk]
    exact Gives.ret (h.up (by omega)) ⟨by omega, .inl rfl⟩
  rw [cond_df hk]
  refine gives_bind (next_ok _ n h (by omega)) fun a code1 at1 seed1 ha hc => ?_
  dsimp only
  by_cases h2 : 200 < k
  · rw [cond_dt h2]
    refine gives_bind (next_ok _ (n + 1) hc (by omega)) fun b code2 at2 seed2 hb hc => ?_
    dsimp only
    refine gives_grd (by omega) (Gives.ret (hc.up (by omega)) ?_)
    rw [w64_id (x := a * 256) (by omega) (by omega), w64_id (by omega) (by omega)]
    exact ⟨Int.tmod_nonneg _ (by omega), .inr (Int.tmod_lt_of_pos _ (by omega))⟩
  · rw [cond_df h2]
    refine gives_grd (by omega) (Gives.ret (hc.up (by omega)) ?_)
    exact ⟨Int.tmod_nonneg _ (by omega), .inr (Int.tmod_lt_of_pos _ (by omega))⟩
theorem among_ok (c : l1Cur) (n : Int) (l : List Int) (hl : l ≠ []) (h : CG c n) (hn : n ≤ 100000000000) : Gives (spec_l1Cur_among c l) (n + 2) (fun v => v ∈ l) := by
  obtain ⟨code, at', seed, u⟩ := c
  unfold spec_l1Cur_among
  refine gives_bind (pick_ok _ n _ h hn) fun a code1 at1 seed1 ha hc => ?_
  dsimp only
  have hpos : 0 < l.length := List.length_pos_iff.2 hl
  have hlt : a < (l.length : Int) := by omega
  refine gives_grd ⟨ha.1, hlt⟩ (Gives.ret hc ?_)
  have hi : a.toNat < l.length := by omega
  show l.getD a.toNat 0 ∈ l
  rw [getD_eq _ _ _ hi]; exact List.getElem_mem hi
theorem one_ok (c : l1Cur) (n k : Int) (h : CG c n) (hn : n ≤ 100000000000) : Gives (spec_l1Cur_one c k) (n + 2) (fun _ => True) := by
  obtain ⟨code, at', seed, u⟩ := c
  unfold spec_l1Cur_one
  refine gives_bind (pick_ok _ n _ h hn) fun a code1 at1 seed1 ha hc => ?_
  dsimp only
  exact Gives.ret hc trivial
end Go.Proofs.YtjpnifmbgemibaaDoor
