/-
  Plain laws, carried over from texts of other seats.
-/
import Derived.Test.YtppiaacfnoifkaaDoorC905
import Derived.Test.YtppiaacfnoifkaaDoorO1
import Derived.Test.YtppiaacfnoifkaaDoorTN
namespace Go.Proofs.YtppiaacfnoifkaaDoor
open Go.RowKit

theorem l1In_eq (a lo hi : Int) : spec_l1In a lo hi = some (decide (lo ≤ a ∧ a ≤ hi)) := by
  unfold spec_l1In
  by_cases h : lo ≤ a
  · rw [cond_dt h]; simp [h]
  · rw [cond_df h]; simp [h]
theorem within_eq (a lo hi : Int) : impl_within a lo hi = some (decide (lo ≤ a ∧ a ≤ hi)) := by
  unfold impl_within
  by_cases h : lo ≤ a
  · rw [cond_dt h]; simp [h]
  · rw [cond_df h]; simp [h]

theorem digs_get (d : Nat) (h : d < 10) : bsub (ByteArray.mk #[48, 49, 50, 51, 52, 53, 54, 55, 56, 57]) (d : Int) (w64 ((d : Int) + 1)) = bs [UInt8.ofNat (48 + d)] := by
  have : w64 ((d : Int) + 1) = ((d + 1 : Nat) : Int) := w64_nat (by omega)
  rw [this, show (ByteArray.mk #[48, 49, 50, 51, 52, 53, 54, 55, 56, 57]) = bs [48, 49, 50, 51, 52, 53, 54, 55, 56, 57] from rfl, bsub_bs]
  have hd : d = 0 ∨ d = 1 ∨ d = 2 ∨ d = 3 ∨ d = 4 ∨ d = 5 ∨ d = 6 ∨ d = 7 ∨ d = 8 ∨ d = 9 := by omega
  rcases hd with rfl | rfl | rfl | rfl | rfl | rfl | rfl | rfl | rfl | rfl <;> rfl
theorem l1Num_f_eq : ∀ (k n : Nat), n < 10 ^ k → n < 1000000000000000000 → spec_l1Num_f (k + 1) (n : Int) = some (bs (Lib.decDigits n))
  | 0, n, h, _ => by
    obtain rfl : n = 0 := by simpa using h
    rw [spec_l1Num_f_succ, cond_df (by omega), cond_dt (by omega), grd_pos ⟨by omega, by decide, by decide⟩]
    have := digs_get 0 (by omega)
    rw [show ((0 : Nat) : Int) = (0 : Int) from rfl] at this ⊢
    rw [this]
    unfold Lib.decDigits
    rw [dif_pos (by omega)]
  | k + 1, n, h, h18 => by
    rw [spec_l1Num_f_succ, cond_df (by omega)]
    by_cases h10 : n < 10
    · have e : w64 ((n : Int) + 1) = ((n + 1 : Nat) : Int) := w64_nat (by omega)
      have hs : (ByteArray.mk #[48, 49, 50, 51, 52, 53, 54, 55, 56, 57]).size = 10 := rfl
      rw [cond_dt (by omega), grd_pos ⟨by omega, by rw [e]; omega, by rw [e, hs]; omega⟩, digs_get n h10]
      unfold Lib.decDigits
      rw [dif_pos h10]
    · have hq : n / 10 < 10 ^ k := by
        rw [Nat.div_lt_iff_lt_mul (by omega)]
        rw [Nat.pow_succ] at h; exact h
      have ih := l1Num_f_eq k (n / 10) hq (by omega)
      have e1 : w64 (Int.tdiv (n : Int) 10) = ((n / 10 : Nat) : Int) := by
        rw [show Int.tdiv (n : Int) 10 = ((n / 10 : Nat) : Int) from by rw [show (10 : Int) = ((10 : Nat) : Int) from rfl, ← Int.ofNat_tdiv]]
        rw [w64_id (by omega) (by omega)]
      have e2 : Int.tmod (n : Int) 10 = ((n % 10 : Nat) : Int) := by rw [show (10 : Int) = ((10 : Nat) : Int) from rfl, ← Int.ofNat_tmod]
      have hlen : (Lib.decDigits (n / 10)).length ≤ 19 := dec_length 18 (n / 10) (by omega)
      have hs : (ByteArray.mk #[48, 49, 50, 51, 52, 53, 54, 55, 56, 57]).size = 10 := rfl
      have e3 : w64 (((n % 10 : Nat) : Int) + 1) = ((n % 10 + 1 : Nat) : Int) := w64_nat (by omega)
      rw [cond_df (by omega), grd_pos (by omega), e1, ih, Option.bind_some]
      simp only [e2]
      have hm : n % 10 < 10 := Nat.mod_lt _ (by omega)
      rw [grd_pos (by omega), grd_pos (by omega), grd_pos ⟨by omega, by rw [e3]; omega, by rw [e3, hs]; omega⟩, digs_get (n % 10) hm, grd_pos (by rw [bs_size, bs_size]; simp; omega), bs_app]
      conv => rhs; unfold Lib.decDigits
      rw [dif_neg h10]
theorem l1Num_eq (n : Nat) (h : n < 1000000000000000000) : spec_l1Num (n : Int) = some (bs (Lib.decDigits n)) := by
  unfold spec_l1Num
  have := l1Num_f_eq 63 n (Nat.lt_of_lt_of_le h (by decide)) h
  exact this
theorem itoa_eq (n : Nat) (h : n < 1000000000000000000) : strconv_Itoa (n : Int) = some (bs (Lib.decDigits n)) := by
  unfold strconv_Itoa
  rw [grd_pos (by omega)]
  have : itoaB (n : Int) = bs (Lib.decDigits n) := by
    unfold itoaB Lib.itoa
    rw [if_neg (by omega), Int.toNat_natCast]
  rw [this]

def letB (b : UInt8) : Bool := decide (97 ≤ b.toNat ∧ b.toNat ≤ 122)
def wordB (s : ByteArray) : Bool := s.data.toList.all letB && decide ((1 : Int) ≤ (s.size : Int) ∧ (s.size : Int) ≤ 10)
theorem bAt_get (s : ByteArray) (k : Nat) : bAt s (k : Int) = ((s.data.toList.getD k 0).toNat : Int) := by unfold bAt; rw [Int.toNat_natCast]
theorem size_list (s : ByteArray) : s.data.toList.length = s.size := Array.length_toList
theorem isWord_eq (s : ByteArray) (h : s.size ≤ 1000000000) : impl_isWord s = some (wordB s) := by
  have hl := size_list s
  unfold impl_isWord
  have H : iter (fun q => impl_isWord_loop1 s q) (0 : Int) = some (if s.data.toList.all letB then (Sum.inr () : Unit ⊕ Unit) else Sum.inl ()) :=
    iter_all s.data.toList letB 0 (fun k => (k : Int)) (fun k hk => by
      show impl_isWord_loop1 s (k : Int) = _
      unfold impl_isWord_loop1
      rw [cond_dt (by omega), grd_pos (by omega), bAt_get, w64_nat (by omega)]
      generalize s.data.toList.getD k 0 = x
      by_cases h1 : (x.toNat : Int) < 97
      · rw [cond_dt h1, show letB x = false from decide_eq_false (by omega)]; rfl
      · rw [cond_df h1, grd_pos (by omega)]
        by_cases h2 : (122 : Int) < (x.toNat : Int)
        · rw [cond_dt h2, show letB x = false from decide_eq_false (by omega)]; rfl
        · rw [cond_df h2, show letB x = true from decide_eq_true (by omega)]; rfl) (by
      show impl_isWord_loop1 s (s.data.toList.length : Int) = _
      unfold impl_isWord_loop1
      rw [cond_df (by omega)]) rfl
  rw [H, Option.bind_some]
  unfold wordB
  cases s.data.toList.all letB with
  | false => rfl
  | true =>
    rw [if_pos rfl, Sum.elim_inr]
    by_cases h1 : (1 : Int) ≤ (s.size : Int)
    · rw [cond_dt h1]; simp [h1]
    · rw [cond_df h1]; simp [h1]
theorem l2Word_eq (s : ByteArray) (h : s.size ≤ 1000000000) : spec_l2Word s = some (wordB s) := by
  have hl := size_list s
  unfold spec_l2Word
  have H : iter (fun q => spec_l2Word_loop1 s q) (0 : Int) = some (if s.data.toList.all letB then (Sum.inr () : Unit ⊕ Unit) else Sum.inl ()) :=
    iter_all s.data.toList letB 0 (fun k => (k : Int)) (fun k hk => by
      show spec_l2Word_loop1 s (k : Int) = _
      unfold spec_l2Word_loop1
      rw [cond_dt (by omega), grd_pos (by omega), bAt_get, w64_nat (by omega)]
      generalize s.data.toList.getD k 0 = x
      by_cases h1 : (x.toNat : Int) < 97
      · rw [cond_dt h1, show letB x = false from decide_eq_false (by omega)]; rfl
      · rw [cond_df h1, grd_pos (by omega)]
        by_cases h2 : (122 : Int) < (x.toNat : Int)
        · rw [cond_dt h2, show letB x = false from decide_eq_false (by omega)]; rfl
        · rw [cond_df h2, show letB x = true from decide_eq_true (by omega)]; rfl) (by
      show spec_l2Word_loop1 s (s.data.toList.length : Int) = _
      unfold spec_l2Word_loop1
      rw [cond_df (by omega)]) rfl
  rw [H, Option.bind_some]
  unfold wordB
  cases s.data.toList.all letB with
  | false => rfl
  | true =>
    rw [if_pos rfl, Sum.elim_inr, l1In_eq]; rfl
def numsB (r : DayRow) : Bool := decide (0 ≤ r.1 ∧ r.1 ≤ 999) && (decide (0 ≤ r.2.1 ∧ r.2.1 ≤ 99999) && (decide (0 ≤ r.2.2.1 ∧ r.2.2.1 ≤ 99999) && (decide (0 ≤ r.2.2.2.1 ∧ r.2.2.2.1 ≤ 24) && decide (0 ≤ r.2.2.2.2.1 ∧ r.2.2.2.2.1 ≤ 99))))
def whyB (r : DayRow) : Bool := cond (decide (r.2.2.2.2.1 = (0 : Int))) (decide (r.2.2.2.2.2.1 = ByteArray.mk #[])) (wordB r.2.2.2.2.2.1)
def rowB (r : DayRow) : Bool := numsB r && (cond (decide (r.2.2.2.1 = 0)) (decide (r.2.1 = 0 ∧ r.2.2.1 = 0 ∧ r.2.2.2.2.1 = 0)) true && whyB r)
theorem why_eq {X : Option Bool} (r : DayRow) (h0 : 0 ≤ r.2.2.2.2.1) (hX : X = some (wordB r.2.2.2.2.2.1)) :
    cond (decide (r.2.2.2.2.1 = (0 : Int))) (cond (decide (r.2.2.2.2.2.1 = (ByteArray.mk #[]))) (some true) (cond (decide ((0 : Int) < r.2.2.2.2.1)) (X.bind fun y => some y) (some false))) (cond (decide ((0 : Int) < r.2.2.2.2.1)) (X.bind fun y => some y) (some false)) = some (whyB r) := by
  unfold whyB
  subst hX
  by_cases h1 : r.2.2.2.2.1 = 0
  · rw [cond_dt h1, cond_dt h1, cond_df (show ¬ (0 : Int) < r.2.2.2.2.1 by omega)]
    cases decide (r.2.2.2.2.2.1 = ByteArray.mk #[]) <;> rfl
  · rw [cond_df h1, cond_df h1, cond_dt (show (0 : Int) < r.2.2.2.2.1 by omega)]; rfl
theorem isRow_eq (r : DayRow) (h : r.2.2.2.2.2.1.size ≤ 1000000000) : impl_IsDayRow r = some (rowB r) := by
  unfold impl_IsDayRow impl_isDay rowB numsB
  simp only [within_eq, Option.bind_some]
  by_cases h1 : 0 ≤ r.1 ∧ r.1 ≤ 999
  case neg => rw [cond_ndf h1, decide_eq_false h1]; rfl
  by_cases h2 : 0 ≤ r.2.1 ∧ r.2.1 ≤ 99999
  case neg => rw [cond_ndt h1, cond_ndf h2, decide_eq_true h1, decide_eq_false h2]; rfl
  by_cases h3 : 0 ≤ r.2.2.1 ∧ r.2.2.1 ≤ 99999
  case neg => rw [cond_ndt h1, cond_ndt h2, cond_ndf h3, decide_eq_true h1, decide_eq_true h2, decide_eq_false h3]; rfl
  by_cases h4 : 0 ≤ r.2.2.2.1 ∧ r.2.2.2.1 ≤ 24
  case neg => rw [cond_ndt h1, cond_ndt h2, cond_ndt h3, cond_ndf h4, decide_eq_true h1, decide_eq_true h2, decide_eq_true h3, decide_eq_false h4]; rfl
  by_cases h5 : 0 ≤ r.2.2.2.2.1 ∧ r.2.2.2.2.1 ≤ 99
  case neg => rw [cond_ndt h1, cond_ndt h2, cond_ndt h3, cond_ndt h4, cond_ndf h5, decide_eq_true h1, decide_eq_true h2, decide_eq_true h3, decide_eq_true h4, decide_eq_false h5]; rfl
  rw [cond_ndt h1, cond_ndt h2, cond_ndt h3, cond_ndt h4, cond_ndt h5, decide_eq_true h1, decide_eq_true h2, decide_eq_true h3, decide_eq_true h4, decide_eq_true h5]
  simp only [Bool.true_and]
  have hw := isWord_eq r.2.2.2.2.2.1 h
  rw [why_eq r h5.1 hw]
  by_cases h6 : r.2.2.2.1 = 0
  · rw [cond_dt h6, cond_dt h6, w64_id (x := r.2.1 + r.2.2.1) (by omega) (by omega), w64_id (by omega) (by omega)]
    by_cases h7 : 0 < r.2.1 + r.2.2.1 + r.2.2.2.2.1
    · rw [cond_dt h7, decide_eq_false (by omega)]; rfl
    · rw [cond_df h7, decide_eq_true (by omega)]; rfl
  · rw [cond_df h6, cond_df h6]; rfl
theorem one_eq (r : DayRow) (h : r.2.2.2.2.2.1.size ≤ 1000000000) : spec_l26One r = some (rowB r) := by
  unfold spec_l26One rowB numsB
  simp only [l1In_eq, Option.bind_some]
  by_cases h1 : 0 ≤ r.1 ∧ r.1 ≤ 999
  case neg => rw [cond_ndf h1, decide_eq_false h1]; rfl
  by_cases h2 : 0 ≤ r.2.1 ∧ r.2.1 ≤ 99999
  case neg => rw [cond_ndt h1, cond_ndf h2, decide_eq_true h1, decide_eq_false h2]; rfl
  by_cases h3 : 0 ≤ r.2.2.1 ∧ r.2.2.1 ≤ 99999
  case neg => rw [cond_ndt h1, cond_ndt h2, cond_ndf h3, decide_eq_true h1, decide_eq_true h2, decide_eq_false h3]; rfl
  by_cases h4 : 0 ≤ r.2.2.2.1 ∧ r.2.2.2.1 ≤ 24
  case neg => rw [cond_ndt h1, cond_ndt h2, cond_ndt h3, cond_ndf h4, decide_eq_true h1, decide_eq_true h2, decide_eq_true h3, decide_eq_false h4]; rfl
  by_cases h5 : 0 ≤ r.2.2.2.2.1 ∧ r.2.2.2.2.1 ≤ 99
  case neg => rw [cond_ndt h1, cond_ndt h2, cond_ndt h3, cond_ndt h4, cond_ndf h5, decide_eq_true h1, decide_eq_true h2, decide_eq_true h3, decide_eq_true h4, decide_eq_false h5]; rfl
  rw [cond_ndt h1, cond_ndt h2, cond_ndt h3, cond_ndt h4, cond_ndt h5, decide_eq_true h1, decide_eq_true h2, decide_eq_true h3, decide_eq_true h4, decide_eq_true h5]
  simp only [Bool.true_and]
  have hw := l2Word_eq r.2.2.2.2.2.1 h
  rw [why_eq r h5.1 hw]
  by_cases h6 : r.2.2.2.1 = 0
  · rw [cond_dt h6, cond_dt h6]
    by_cases h7 : 0 < r.2.1
    · rw [cond_dt h7, decide_eq_false (by omega)]; rfl
    rw [cond_df h7]
    by_cases h8 : 0 < r.2.2.1
    · rw [cond_dt h8, decide_eq_false (by omega)]; rfl
    rw [cond_df h8]
    by_cases h9 : 0 < r.2.2.2.2.1
    · rw [cond_dt h9, decide_eq_false (by omega)]; rfl
    rw [cond_df h9, decide_eq_true (by omega)]; rfl
  · rw [cond_df h6, cond_df h6]; rfl
theorem row_eta (r : DayRow) : ((r.1, r.2.1, r.2.2.1, r.2.2.2.1, r.2.2.2.2.1, r.2.2.2.2.2.1, ()) : DayRow) = r := rfl
theorem l1Num_int (n : Int) (h : -1000000000000 ≤ n ∧ n ≤ 1000000000000) : spec_l1Num n = some (bs (Lib.itoa n)) := by
  by_cases h0 : n < 0
  · obtain ⟨m, rfl⟩ : ∃ m : Nat, n = -(m : Int) := ⟨n.natAbs, by omega⟩
    have hm : 1 ≤ m := by omega
    have e := l1Num_f_eq 62 m (Nat.lt_of_lt_of_le (m := 10 ^ 18) (by omega) (by decide)) (by omega)
    have hl := dec_length 18 m (Nat.lt_of_lt_of_le (m := 10 ^ 18) (by omega) (by decide))
    unfold spec_l1Num
    rw [show (64 : Nat) = 63 + 1 from rfl, spec_l1Num_f_succ, cond_dt h0, show (0 - -(m : Int)) = (m : Int) by omega, w64_id (by omega) (by omega), e, Option.bind_some, grd_pos (by rw [bs_size]; show 1 + (Lib.decDigits m).length ≤ 9223372036854775807; omega), Lib.itoa_neg m hm]
    show some (bs [45] ++ bs (Lib.decDigits m)) = _
    rw [bs_app]; rfl
  · obtain ⟨m, rfl⟩ : ∃ m : Nat, n = (m : Int) := ⟨n.toNat, by omega⟩
    rw [l1Num_eq m (by omega), Lib.itoa_nonneg]
theorem itoa_int (n : Int) (h : -1000000000000 ≤ n ∧ n ≤ 1000000000000) : strconv_Itoa n = some (bs (Lib.itoa n)) := by
  unfold strconv_Itoa
  rw [grd_pos (by omega)]; rfl
theorem read_loop (t : List UInt8) (ht : t.length ≤ 6) : ∀ (r p : List UInt8) (acc : Nat), t = p ++ r → acc < 10 ^ p.length →
    iter (fun s => spec_l1Read_loop1 s.1 s.2.1 s.2.2) (bs t, (acc : Int), (p.length : Int)) = some (match Lib.decFrom acc r with | none => Sum.inl () | some m => Sum.inr (bs t, (m : Int)))
  | [], p, acc, e, _ => by
    refine iter_out ?_
    show spec_l1Read_loop1 (bs t) (acc : Int) (p.length : Int) = _
    unfold spec_l1Read_loop1
    have : t.length = p.length := by rw [e]; simp
    rw [cond_df (by rw [bs_size]; omega)]
    rfl
  | b :: r, p, acc, e, ha => by
    have hl : t.length = p.length + (r.length + 1) := by rw [e]; simp
    have hb : bAt (bs t) (p.length : Int) = (b.toNat : Int) := by
      rw [bAt_bs, Int.toNat_natCast, e]; simp [List.getD_eq_getElem?_getD]
    have hlt : b.toNat < 256 := UInt8.toNat_lt b
    have hacc : acc < 1000000 := Nat.lt_of_lt_of_le ha (Nat.le_trans (Nat.pow_le_pow_right (by omega) (show p.length ≤ 6 by omega)) (by decide))
    have h1 : 0 ≤ (p.length : Int) ∧ (p.length : Int) < ((bs t).size : Int) := by rw [bs_size]; omega
    by_cases hd : 48 ≤ b.toNat ∧ b.toNat ≤ 57
    · have hv : Lib.digitVal b = some (b.toNat - 48) := by unfold Lib.digitVal; rw [if_pos hd]
      have e2 : Lib.decFrom acc (b :: r) = Lib.decFrom (acc * 10 + (b.toNat - 48)) r := by
        conv => lhs; unfold Lib.decFrom
        rw [hv]
      have w1 : wu8 ((b.toNat : Int) - 48) = (b.toNat : Int) - 48 := by
        show IntKind.u8.wrap _ = _
        rw [IntKind.wrap_u8]; omega
      have w2 : w64 (w64 (10 * (acc : Int)) + w64 (wu8 ((b.toNat : Int) - 48))) = ((acc * 10 + (b.toNat - 48) : Nat) : Int) := by
        rw [w1, w64_id (x := 10 * (acc : Int)) (by omega) (by omega), w64_id (x := (b.toNat : Int) - 48) (by omega) (by omega), w64_id (by omega) (by omega)]; omega
      have w3 : w64 ((p.length : Int) + 1) = ((p ++ [b]).length : Int) := by rw [w64_nat (by omega)]; simp
      have step : spec_l1Read_loop1 (bs t) (acc : Int) (p.length : Int) = some (.go (bs t, ((acc * 10 + (b.toNat - 48) : Nat) : Int), ((p ++ [b]).length : Int))) := by
        unfold spec_l1Read_loop1
        rw [cond_dt h1.2, grd_pos h1, hb, cond_df (by omega), grd_pos h1, cond_df (by omega), grd_pos h1, w2, w3]
      have hp : acc * 10 + (b.toNat - 48) < 10 ^ (p ++ [b]).length := by
        rw [List.length_append, List.length_singleton, Nat.pow_succ]; omega
      rw [e2]
      exact (iter_go step).trans (read_loop t ht r (p ++ [b]) _ (by rw [e]; simp) hp)
    · have hv : Lib.digitVal b = none := by unfold Lib.digitVal; rw [if_neg hd]
      have e2 : Lib.decFrom acc (b :: r) = none := by
        conv => lhs; unfold Lib.decFrom
        rw [hv]
      rw [e2]
      refine iter_out ?_
      show spec_l1Read_loop1 (bs t) (acc : Int) (p.length : Int) = _
      unfold spec_l1Read_loop1
      rw [cond_dt h1.2, grd_pos h1, hb]
      by_cases h2 : (b.toNat : Int) < 48
      · rw [cond_dt h2]
      · rw [cond_df h2, grd_pos h1, cond_dt (by omega)]
theorem cut_sign (l : List UInt8) (hl : l.length ≤ 1000000) : ∃ t, (cond (decide ((1 : Int) < ((bs l).size : Int))) (grd (0 ≤ (0 : Int) ∧ (0 : Int) < ((bs l).size : Int)) (cond (decide ((bAt (bs l) (0 : Int)) = (45 : Int))) (grd (0 ≤ (1 : Int) ∧ (1 : Int) ≤ ((bs l).size : Int) ∧ ((bs l).size : Int) ≤ ((bs l).size : Int)) ((some (bsub (bs l) (1 : Int) ((bs l).size : Int))))) ((some (bs l))))) ((some (bs l)))) = some (bs t) ∧
    ((t = l ∧ ∀ r, l = 45 :: r → r = []) ∨ (l = 45 :: t ∧ t ≠ [])) := by
  match l, hl with
  | [], _ => exact ⟨[], rfl, .inl ⟨rfl, (fun r h => by cases h)⟩⟩
  | [b], _ => exact ⟨[b], rfl, .inl ⟨rfl, fun r h => by cases h; rfl⟩⟩
  | b :: c :: r, hl =>
    have hs : ((bs (b :: c :: r)).size : Int) = (r.length : Int) + 2 := by rw [bs_size]; simp only [List.length_cons]; omega
    rw [cond_dt (by rw [hs]; omega), grd_pos (by rw [hs]; omega)]
    have hb : bAt (bs (b :: c :: r)) (0 : Int) = (b.toNat : Int) := by rw [bAt_bs]; rfl
    rw [hb]
    by_cases h : b.toNat = 45
    · have hb45 : b = 45 := UInt8.toNat_inj.1 h
      rw [cond_dt (by omega), grd_pos (by rw [hs]; omega), bsub_bs]
      refine ⟨c :: r, ?_, .inr ⟨by rw [hb45], by simp⟩⟩
      congr 2
      have : ((bs (b :: c :: r)).size : Int).toNat = r.length + 2 := by rw [hs]; omega
      rw [this]
      simp
    · rw [cond_df (by omega)]
      refine ⟨b :: c :: r, rfl, .inl ⟨rfl, fun r' h' => ?_⟩⟩
      have : b = 45 := by cases h'; rfl
      rw [this] at h
      exact absurd rfl h
theorem decFrom_six {t : List UInt8} {m : Nat} (h : Lib.decFrom 0 t = some m) (hl : t.length ≤ 6) : m < 1000000 := by
  have := Lib.decFrom_lt t 0 m h
  have h6 : (10 : Nat) ^ t.length ≤ 10 ^ 6 := Nat.pow_le_pow_right (by omega) hl
  have h7 : (10 : Nat) ^ 6 = 1000000 := by decide
  omega
theorem l1Read_eq (l : List UInt8) (hl : l.length ≤ 1000000) : spec_l1Read (bs l) = some (parseI (bs l)) := by
  obtain ⟨t, e1, e2⟩ := cut_sign l hl
  have hts : (t = l ∧ t.length = l.length) ∨ (l = 45 :: t ∧ t.length < l.length) := by
    rcases e2 with ⟨h, _⟩ | ⟨h, _⟩
    · exact .inl ⟨h, by rw [h]⟩
    · exact .inr ⟨h, by rw [h]; simp⟩
  -- what is read, if anything
  have key : ∃ o : Option Int, spec_l1Read (bs l) = some (match o with | none => (0, false) | some n => if l = Lib.itoa n then (n, true) else (0, false)) ∧
      (∀ n, o = some n → -999999 ≤ n ∧ n ≤ 999999) ∧ (1 ≤ t.length ∧ t.length ≤ 6 → ∀ m, Lib.decFrom 0 t = some m → o = some (if t.length < l.length then -(m : Int) else (m : Int))) := by
    unfold spec_l1Read
    rw [e1, Option.bind_some, l1In_eq, Option.bind_some, bs_size]
    by_cases hr : (1 : Int) ≤ (t.length : Int) ∧ (t.length : Int) ≤ 6
    case neg =>
      rw [cond_ndf hr]
      exact ⟨none, rfl, (fun n h => by cases h), fun h => absurd h (by omega)⟩
    rw [cond_ndt hr]
    have lp := read_loop t (by omega) t [] 0 rfl (by simp)
    rw [show (([] : List UInt8).length : Int) = (0 : Int) from rfl, show ((0 : Nat) : Int) = (0 : Int) from rfl] at lp
    rw [lp]
    cases hd : Lib.decFrom 0 t with
    | none => exact ⟨none, rfl, (fun n h => by cases h), (fun _ m h => by cases h)⟩
    | some m =>
      have hm := decFrom_six hd (by omega)
      simp only [Option.bind_some, Sum.elim_inr, bs_size]
      by_cases hlt : t.length < l.length
      · have w1 : w64 (0 - (m : Int)) = -(m : Int) := by rw [w64_id (by omega) (by omega)]; omega
        rw [cond_dt (by omega), w1, l1Num_int _ (by omega), Option.bind_some]
        refine ⟨some (-(m : Int)), ?_, (fun n h => by cases h; omega), (fun _ m' h => by cases h; rw [if_pos hlt])⟩
        dsimp only
        by_cases he : bs (Lib.itoa (-(m : Int))) = bs l
        · rw [cond_ndt he, if_pos (bs_inj.1 he).symm]
        · rw [cond_ndf he, if_neg (fun h => he (by rw [h]))]
      · rw [cond_df (by omega), l1Num_int _ (by omega), Option.bind_some]
        refine ⟨some (m : Int), ?_, (fun n h => by cases h; omega), (fun _ m' h => by cases h; rw [if_neg hlt])⟩
        dsimp only
        by_cases he : bs (Lib.itoa (m : Int)) = bs l
        · rw [cond_ndt he, if_pos (bs_inj.1 he).symm]
        · rw [cond_ndf he, if_neg (fun h => he (by rw [h]))]
  obtain ⟨o, k1, k2, k3⟩ := key
  rw [k1]
  rcases parseI_cases l with ⟨n, hn, hln, hp⟩ | ⟨hp, hno⟩
  · rw [hp]
    have hlen := itoa_length n hn
    have ho : o = some n := by
      by_cases h0 : n < 0
      · obtain ⟨m, rfl⟩ : ∃ m : Nat, n = -(m : Int) := ⟨n.natAbs, by omega⟩
        have h45 : l = 45 :: Lib.decDigits m := by rw [hln, Lib.itoa_neg m (by omega)]
        have ht : t = Lib.decDigits m := by
          rcases e2 with ⟨_, h⟩ | ⟨h, _⟩
          · have := h _ h45
            have h2 := digit_length m
            rw [this] at h2; simp at h2
          · rw [h45] at h
            simp only [List.cons.injEq, true_and] at h
            exact h.symm
        have hl6 := dec_length 5 m (by have : (10 : Nat) ^ (5 + 1) = 1000000 := by decide
                                       omega)
        have := k3 ⟨by rw [ht]; exact digit_length m, by rw [ht]; omega⟩ m (by rw [ht]; exact decFrom_dec m)
        rw [this, if_pos (by rw [h45, ht]; simp)]
      · obtain ⟨m, rfl⟩ : ∃ m : Nat, n = (m : Int) := ⟨n.toNat, by omega⟩
        have hd : l = Lib.decDigits m := by rw [hln, Lib.itoa_nonneg]
        have ht : t = Lib.decDigits m := by
          rcases e2 with ⟨h, _⟩ | ⟨h, _⟩
          · rw [h, hd]
          · exfalso
            obtain ⟨b, r, e, hb, _⟩ := dec_cons m
            rw [hd, e] at h
            have : b = 45 := by cases h; rfl
            rw [this] at hb
            exact absurd hb (by decide)
        have hl6 := dec_length 5 m (by have : (10 : Nat) ^ (5 + 1) = 1000000 := by decide
                                       omega)
        have := k3 ⟨by rw [ht]; exact digit_length m, by rw [ht]; omega⟩ m (by rw [ht]; exact decFrom_dec m)
        rw [this, if_neg (by rw [hd, ht]; omega)]
    rw [ho]
    dsimp only
    rw [if_pos hln]
  · rw [hp]
    cases o with
    | none => rfl
    | some n =>
      dsimp only
      rw [if_neg (hno n (k2 n rfl))]

theorem split_eq (l : List UInt8) (c : UInt8) (hl : l.length ≤ 1000000000) : spec_l1Split (bs l) (c.toNat : Int) = some ((spl c l).map bs) := by
  unfold spec_l1Split
  have key : ∀ (d i from' : Nat) (out : List ByteArray), i + d = l.length → from' ≤ i → out.length ≤ i → (∃ o : List (List UInt8), out = o.map bs ∧ spl c l = o ++ preF ((l.drop from').take (i - from')) (spl c (l.drop i))) →
      ∃ (f' : Nat) (o : List (List UInt8)), iter (fun s => spec_l1Split_loop1 (bs l) (c.toNat : Int) s.1 s.2.1 s.2.2) ((from' : Int), (i : Int), out) = some ((f' : Int), o.map bs) ∧ f' ≤ l.length ∧ o.length ≤ l.length ∧ spl c l = o ++ [l.drop f'] := by
    intro d
    induction d with
    | zero =>
      rintro i from' out hi hf ho ⟨o, rfl, e⟩
      refine ⟨from', o, iter_out ?_, by omega, by simp at ho; omega, ?_⟩
      · show spec_l1Split_loop1 (bs l) (c.toNat : Int) (from' : Int) (i : Int) _ = _
        unfold spec_l1Split_loop1
        rw [cond_df (by rw [bs_size]; omega)]
      · rw [e, show l.drop i = [] from List.drop_eq_nil_of_le (by omega), preF_nil]
        congr 2
        rw [List.take_of_length_le (by simp; omega)]
    | succ d ih =>
      rintro i from' out hi hf ho ⟨o, rfl, e⟩
      have hil : i < l.length := by omega
      have hdrop : l.drop i = l[i] :: l.drop (i + 1) := List.drop_eq_getElem_cons hil
      have htake : (l.drop from').take (i + 1 - from') = (l.drop from').take (i - from') ++ [l[i]] := by
        rw [show i + 1 - from' = (i - from') + 1 by omega, List.take_succ_eq_append_getElem (by simp; omega)]
        simp [show from' + (i - from') = i by omega]
      by_cases hc : l[i] = c
      · obtain ⟨f', o', h1, h2, h3, h4⟩ := ih (i + 1) (i + 1) ((o ++ [(l.drop from').take (i - from')]).map bs) (by omega) (by omega) (by simp at ho ⊢; omega) ⟨_, rfl, by
          rw [e, hdrop, hc, preF_hit]
          simp [preF_zero]⟩
        refine ⟨f', o', (iter_go ?_).trans h1, h2, h3, h4⟩
        show spec_l1Split_loop1 (bs l) (c.toNat : Int) (from' : Int) (i : Int) _ = _
        unfold spec_l1Split_loop1
        simp only [List.length_map] at ho
        rw [cond_dt (by rw [bs_size]; omega), grd_pos (by rw [bs_size]; omega), bAt_bs, Int.toNat_natCast, getD_eq _ _ _ hil, hc, cond_dt rfl, grd_pos (by rw [bs_size]; omega), grd_pos (by simp; omega), w64_nat (by omega), bsub_bs]
        simp
      · obtain ⟨f', o', h1, h2, h3, h4⟩ := ih (i + 1) from' (o.map bs) (by omega) (by omega) (by simp at ho ⊢; omega) ⟨o, rfl, by
          rw [e, hdrop, preF_snoc c _ _ _ hc, htake]⟩
        refine ⟨f', o', (iter_go ?_).trans h1, h2, h3, h4⟩
        show spec_l1Split_loop1 (bs l) (c.toNat : Int) (from' : Int) (i : Int) _ = _
        unfold spec_l1Split_loop1
        rw [cond_dt (by rw [bs_size]; omega), grd_pos (by rw [bs_size]; omega), bAt_bs, Int.toNat_natCast, getD_eq _ _ _ hil, cond_df (fun h => hc (UInt8.toNat_inj.1 (by omega))), w64_nat (by omega)]
  obtain ⟨f', o, h1, h2, h3, h4⟩ := key l.length 0 0 [] (by omega) (by omega) (by simp) ⟨[], rfl, by simp [preF_zero]⟩
  rw [show ((0 : Nat) : Int) = (0 : Int) from rfl] at h1
  rw [h1, Option.bind_some]
  simp only [bs_size, bsub_bs]
  rw [grd_pos (by omega), grd_pos (by simp; omega), h4, List.map_append, Int.toNat_natCast, Int.toNat_natCast, List.take_of_length_le (by simp)]
  rfl
def lineT (h s u dn : Nat) (why : List UInt8) : List UInt8 :=
  if h = 0 then [99, 108, 111, 115, 101, 100] else
    Lib.decDigits u ++ ([32, 117, 112, 44, 32] ++ (Lib.decDigits dn ++ ([32, 100, 111, 119, 110, 44, 32] ++ (Lib.decDigits h ++ ([32, 104] ++
      (if s = 0 then [] else if s = 1 then [44, 32, 49, 32, 115, 116, 111, 112, 32, 40] ++ (why ++ [41]) else [44, 32] ++ (Lib.decDigits s ++ ([32, 115, 116, 111, 112, 115, 32, 40] ++ (why ++ [41])))))))))
def lineL (d u dn h s : Nat) (why : List UInt8) : List UInt8 := [100, 97, 121, 32] ++ (Lib.decDigits d ++ ([58, 32] ++ lineT h s u dn why))
theorem dec_le (n : Nat) (h : n ≤ 99999) : (Lib.decDigits n).length ≤ 6 := dec_length 5 n (by omega)
theorem k1 : (ByteArray.mk #[100, 97, 121, 32]) = bs [100, 97, 121, 32] := rfl
theorem k2 : (ByteArray.mk #[58, 32]) = bs [58, 32] := rfl
theorem k3 : (ByteArray.mk #[99, 108, 111, 115, 101, 100]) = bs [99, 108, 111, 115, 101, 100] := rfl
theorem k4 : (ByteArray.mk #[32, 117, 112, 44, 32]) = bs [32, 117, 112, 44, 32] := rfl
theorem k5 : (ByteArray.mk #[32, 100, 111, 119, 110, 44, 32]) = bs [32, 100, 111, 119, 110, 44, 32] := rfl
theorem k6 : (ByteArray.mk #[32, 104]) = bs [32, 104] := rfl
theorem k7 : (ByteArray.mk #[44, 32, 49, 32, 115, 116, 111, 112, 32, 40]) = bs [44, 32, 49, 32, 115, 116, 111, 112, 32, 40] := rfl
theorem k8 : (ByteArray.mk #[41]) = bs [41] := rfl
theorem k9 : (ByteArray.mk #[44, 32]) = bs [44, 32] := rfl
theorem k10 : (ByteArray.mk #[32, 115, 116, 111, 112, 115, 32, 40]) = bs [32, 115, 116, 111, 112, 115, 32, 40] := rfl
theorem k11 : (ByteArray.mk #[10]) = bs [10] := rfl
theorem k12 : (ByteArray.mk #[97, 108, 108, 58, 32]) = bs [97, 108, 108, 58, 32] := rfl
theorem k13 : (ByteArray.mk #[32, 100, 111, 119, 110]) = bs [32, 100, 111, 119, 110] := rfl
theorem k14 : (ByteArray.mk #[]) = bs [] := rfl
theorem l26Line_eq (d u dn h s : Nat) (why : List UInt8) (h1 : d ≤ 99999) (h2 : u ≤ 99999) (h3 : dn ≤ 99999) (h4 : h ≤ 99999) (h5 : s ≤ 99999) (h6 : why.length ≤ 1000000000) :
    spec_l26Line ((d : Int), (u : Int), (dn : Int), (h : Int), (s : Int), bs why, ()) = some (bs (lineL d u dn h s why)) := by
  have e1 := dec_le d h1
  have e2 := dec_le u h2
  have e3 := dec_le dn h3
  have e4 := dec_le h h4
  have e5 := dec_le s h5
  unfold spec_l26Line
  simp only [l1Num_eq d (by omega), l1Num_eq u (by omega), l1Num_eq dn (by omega), l1Num_eq h (by omega), l1Num_eq s (by omega), Option.bind_some, k1, k2, k3, k4, k5, k6, k7, k8, k9, k10, bs_app, bs_size]
  rw [grd_pos (by simp; omega), grd_pos (by simp; omega)]
  by_cases g1 : h = 0
  · rw [cond_dt (by omega), grd_pos (by simp; omega)]
    simp [lineL, lineT, g1]
  rw [cond_df (by omega), grd_pos (by simp; omega), grd_pos (by simp; omega), grd_pos (by simp; omega), grd_pos (by simp; omega), grd_pos (by simp; omega), grd_pos (by simp; omega)]
  by_cases g2 : s = 0
  · rw [cond_dt (by omega)]
    simp [lineL, lineT, g1, g2]
  rw [cond_df (by omega)]
  by_cases g3 : s = 1
  · rw [cond_dt (by omega), grd_pos (by simp; omega), grd_pos (by simp; omega), grd_pos (by simp; omega)]
    simp [lineL, lineT, g1, g3]
  · rw [cond_df (by omega), grd_pos (by simp; omega), grd_pos (by simp; omega), grd_pos (by simp; omega), grd_pos (by simp; omega), grd_pos (by simp; omega)]
    simp [lineL, lineT, g1, g2, g3]
theorem dayLine_eq (d u dn h s : Nat) (why : List UInt8) (h1 : d ≤ 99999) (h2 : u ≤ 99999) (h3 : dn ≤ 99999) (h4 : h ≤ 99999) (h5 : s ≤ 99999) (h6 : why.length ≤ 1000000000) :
    impl_dayLine ((d : Int), (u : Int), (dn : Int), (h : Int), (s : Int), bs why, ()) = some (bs (lineL d u dn h s why)) := by
  have e1 := dec_le d h1
  have e2 := dec_le u h2
  have e3 := dec_le dn h3
  have e4 := dec_le h h4
  have e5 := dec_le s h5
  unfold impl_dayLine
  simp only [itoa_eq d (by omega), itoa_eq u (by omega), itoa_eq dn (by omega), itoa_eq h (by omega), itoa_eq s (by omega), Option.bind_some, k1, k2, k3, k4, k5, k6, k7, k8, k9, k10, bs_app, bs_size]
  rw [grd_pos (by simp; omega), grd_pos (by simp; omega)]
  by_cases g1 : h = 0
  · rw [cond_dt (by omega), grd_pos (by simp; omega)]
    simp [lineL, lineT, g1]
  rw [cond_df (by omega), grd_pos (by simp; omega), grd_pos (by simp; omega), grd_pos (by simp; omega), grd_pos (by simp; omega), grd_pos (by simp; omega), grd_pos (by simp; omega)]
  by_cases g3 : s = 1
  · rw [cond_dt (by omega), grd_pos (by simp; omega), grd_pos (by simp; omega), grd_pos (by simp; omega)]
    simp [lineL, lineT, g1, g3]
  rw [cond_df (by omega)]
  by_cases g2 : s = 0
  · rw [cond_df (by omega)]
    simp [lineL, lineT, g1, g2]
  · rw [cond_dt (by omega), grd_pos (by simp; omega), grd_pos (by simp; omega), grd_pos (by simp; omega), grd_pos (by simp; omega), grd_pos (by simp; omega)]
    simp [lineL, lineT, g1, g2, g3]

/-- A row's line. -/
def lineR (r : DayRow) : List UInt8 := lineL r.1.toNat r.2.1.toNat r.2.2.1.toNat r.2.2.2.1.toNat r.2.2.2.2.1.toNat r.2.2.2.2.2.1.data.toList
theorem nums_out {r : DayRow} (h : rowB r = true) : ((0 ≤ r.1 ∧ r.1 ≤ 999) ∧ (0 ≤ r.2.1 ∧ r.2.1 ≤ 99999)) ∧ ((0 ≤ r.2.2.1 ∧ r.2.2.1 ≤ 99999) ∧ (0 ≤ r.2.2.2.1 ∧ r.2.2.2.1 ≤ 24)) ∧ (0 ≤ r.2.2.2.2.1 ∧ r.2.2.2.2.1 ≤ 99) := by
  unfold rowB numsB at h
  simp only [Bool.and_eq_true, decide_eq_true_eq] at h
  obtain ⟨⟨a, b, c, d, e⟩, _⟩ := h
  exact ⟨⟨a, b⟩, ⟨c, d⟩, e⟩
theorem lines_eq (r : DayRow) (h : rowB r = true) (hs : r.2.2.2.2.2.1.size ≤ 1000000000) : spec_l26Line r = some (bs (lineR r)) ∧ impl_dayLine r = some (bs (lineR r)) := by
  obtain ⟨⟨h1, h2⟩, ⟨h3, h4⟩, h5⟩ := nums_out h
  obtain ⟨d, u, dn, hh, s, why, un⟩ := r
  obtain ⟨d, rfl⟩ := Int.eq_ofNat_of_zero_le h1.1
  obtain ⟨u, rfl⟩ := Int.eq_ofNat_of_zero_le h2.1
  obtain ⟨dn, rfl⟩ := Int.eq_ofNat_of_zero_le h3.1
  obtain ⟨hh, rfl⟩ := Int.eq_ofNat_of_zero_le h4.1
  obtain ⟨s, rfl⟩ := Int.eq_ofNat_of_zero_le h5.1
  obtain ⟨why, rfl⟩ := bs_ex why
  have hs : (bs why).size ≤ 1000000000 := hs
  rw [bs_size] at hs
  have h1 : (d : Int) ≤ 999 := h1.2
  have h2 : (u : Int) ≤ 99999 := h2.2
  have h3 : (dn : Int) ≤ 99999 := h3.2
  have h4 : (hh : Int) ≤ 24 := h4.2
  have h5 : (s : Int) ≤ 99 := h5.2
  have e : lineR ((d : Int), (u : Int), (dn : Int), (hh : Int), (s : Int), bs why, un) = lineL d u dn hh s why := by
    simp [lineR]
  rw [e]
  exact ⟨l26Line_eq d u dn hh s why (by omega) (by omega) (by omega) (by omega) (by omega) hs, dayLine_eq d u dn hh s why (by omega) (by omega) (by omega) (by omega) (by omega) hs⟩
theorem lineR_le (r : DayRow) (h : rowB r = true) (hs : r.2.2.2.2.2.1.size ≤ 1048576) : (lineR r).length ≤ 1100000 := by
  obtain ⟨⟨h1, h2⟩, ⟨h3, h4⟩, h5⟩ := nums_out h
  have e1 := dec_le r.1.toNat (by omega)
  have e2 := dec_le r.2.1.toNat (by omega)
  have e3 := dec_le r.2.2.1.toNat (by omega)
  have e4 := dec_le r.2.2.2.1.toNat (by omega)
  have e5 := dec_le r.2.2.2.2.1.toNat (by omega)
  have e6 := size_list r.2.2.2.2.2.1
  unfold lineR lineL lineT
  simp only [List.length_append, List.length_cons, List.length_nil]
  split
  · simp only [List.length_cons, List.length_nil]; omega
  · simp only [List.length_append, List.length_cons, List.length_nil]
    split
    · simp only [List.length_nil]; omega
    · split <;> simp only [List.length_append, List.length_cons, List.length_nil] <;> omega
end Go.Proofs.YtppiaacfnoifkaaDoor
