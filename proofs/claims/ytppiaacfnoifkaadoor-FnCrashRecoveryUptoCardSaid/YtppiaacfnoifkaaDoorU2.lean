/-
  Plain laws of the log: numbers as texts, sums, records and lines.
-/
import Derived.Test.YtppiaacfnoifkaaDoorC639
import Derived.Test.YtppiaacfnoifkaaDoorO1
namespace Go.Proofs.YtppiaacfnoifkaaDoor
open Go.RowKit

theorem l1In_eq (a lo hi : Int) : spec_l1In a lo hi = some (decide (lo ≤ a ∧ a ≤ hi)) := by
  unfold spec_l1In
  by_cases h : lo ≤ a
  · rw [cond_dt h]; simp [h]
  · rw [cond_df h]; simp [h]
theorem within_eq (a lo hi : Int) : impl_within a lo hi = some (decide (lo ≤ a ∧ a ≤ hi)) := by
  unfold impl_within
  by_cases h : lo ≤ a
  · rw [cond_dt h]; simp [h]
  · rw [cond_df h]; simp [h]

/-! ### Numbers -/
theorem digs_get (d : Nat) (h : d < 10) : bsub (ByteArray.mk #[48, 49, 50, 51, 52, 53, 54, 55, 56, 57]) (d : Int) (w64 ((d : Int) + 1)) = bs [UInt8.ofNat (48 + d)] := by
  have : w64 ((d : Int) + 1) = ((d + 1 : Nat) : Int) := w64_nat (by omega)
  rw [this, show (ByteArray.mk #[48, 49, 50, 51, 52, 53, 54, 55, 56, 57]) = bs [48, 49, 50, 51, 52, 53, 54, 55, 56, 57] from rfl, bsub_bs]
  have hd : d = 0 ∨ d = 1 ∨ d = 2 ∨ d = 3 ∨ d = 4 ∨ d = 5 ∨ d = 6 ∨ d = 7 ∨ d = 8 ∨ d = 9 := by omega
  rcases hd with rfl | rfl | rfl | rfl | rfl | rfl | rfl | rfl | rfl | rfl <;> rfl
theorem l1Num_f_eq : ∀ (k n : Nat), n < 10 ^ k → n < 1000000000000000000 → spec_l1Num_f (k + 1) (n : Int) = some (bs (Lib.decDigits n))
  | 0, n, h, _ => by
    obtain rfl : n = 0 := by simpa using h
    rw [spec_l1Num_f_succ, cond_df (by omega), cond_dt (by omega), grd_pos ⟨by omega, by decide, by decide⟩]
    have := digs_get 0 (by omega)
    rw [show ((0 : Nat) : Int) = (0 : Int) from rfl] at this ⊢
    rw [this]
    unfold Lib.decDigits
    rw [dif_pos (by omega)]
  | k + 1, n, h, h18 => by
    rw [spec_l1Num_f_succ, cond_df (by omega)]
    by_cases h10 : n < 10
    · have e : w64 ((n : Int) + 1) = ((n + 1 : Nat) : Int) := w64_nat (by omega)
      have hs : (ByteArray.mk #[48, 49, 50, 51, 52, 53, 54, 55, 56, 57]).size = 10 := rfl
      rw [cond_dt (by omega), grd_pos ⟨by omega, by rw [e]; omega, by rw [e, hs]; omega⟩, digs_get n h10]
      unfold Lib.decDigits
      rw [dif_pos h10]
    · have hq : n / 10 < 10 ^ k := by
        rw [Nat.div_lt_iff_lt_mul (by omega)]
        rw [Nat.pow_succ] at h; exact h
      have ih := l1Num_f_eq k (n / 10) hq (by omega)
      have e1 : w64 (Int.tdiv (n : Int) 10) = ((n / 10 : Nat) : Int) := by
        rw [show Int.tdiv (n : Int) 10 = ((n / 10 : Nat) : Int) from by rw [show (10 : Int) = ((10 : Nat) : Int) from rfl, ← Int.ofNat_tdiv]]
        rw [w64_id (by omega) (by omega)]
      have e2 : Int.tmod (n : Int) 10 = ((n % 10 : Nat) : Int) := by rw [show (10 : Int) = ((10 : Nat) : Int) from rfl, ← Int.ofNat_tmod]
      have hlen : (Lib.decDigits (n / 10)).length ≤ 19 := dec_length 18 (n / 10) (by omega)
      have hs : (ByteArray.mk #[48, 49, 50, 51, 52, 53, 54, 55, 56, 57]).size = 10 := rfl
      have e3 : w64 (((n % 10 : Nat) : Int) + 1) = ((n % 10 + 1 : Nat) : Int) := w64_nat (by omega)
      rw [cond_df (by omega), grd_pos (by omega), e1, ih, Option.bind_some]
      simp only [e2]
      have hm : n % 10 < 10 := Nat.mod_lt _ (by omega)
      rw [grd_pos (by omega), grd_pos (by omega), grd_pos ⟨by omega, by rw [e3]; omega, by rw [e3, hs]; omega⟩, digs_get (n % 10) hm, grd_pos (by rw [bs_size, bs_size]; simp; omega), bs_app]
      conv => rhs; unfold Lib.decDigits
      rw [dif_neg h10]
theorem l1Num_eq (n : Nat) (h : n < 1000000000000000000) : spec_l1Num (n : Int) = some (bs (Lib.decDigits n)) := by
  unfold spec_l1Num
  have := l1Num_f_eq 63 n (Nat.lt_of_lt_of_le h (by decide)) h
  exact this
theorem itoa_eq (n : Nat) (h : n < 1000000000000000000) : strconv_Itoa (n : Int) = some (bs (Lib.decDigits n)) := by
  unfold strconv_Itoa
  rw [grd_pos (by omega)]
  have : itoaB (n : Int) = bs (Lib.decDigits n) := by
    unfold itoaB Lib.itoa
    rw [if_neg (by omega), Int.toNat_natCast]
  rw [this]

/-! ### Sums -/
theorem sum_step (h : Int) (b : UInt8) (h0 : 0 ≤ h) (h1 : h < 999979) : Int.tmod (w64 ((w64 ((w64 ((41 : Int) * h)) + (w64 (b.toNat : Int)))) + (1 : Int))) (999979 : Int) = (41 * h + b.toNat + 1) % 999979 := by
  have hb := b.toNat_lt
  rw [w64_id (x := 41 * h) (by omega) (by omega), w64_id (x := (b.toNat : Int)) (by omega) (by omega), w64_id (x := 41 * h + b.toNat) (by omega) (by omega), w64_id (by omega) (by omega)]
  exact Int.tmod_eq_emod_of_nonneg (by omega)
theorem l1Sum_eq (l : List UInt8) (hl : l.length ≤ 4611686018427387000) : spec_l1Sum (bs l) = some (sumF 7 l) := by
  unfold spec_l1Sum
  have H : iter (fun s => spec_l1Sum_loop1 (bs l) s.1 s.2) ((7 : Int), (0 : Int)) = some (sumF 7 l) :=
    iter_for l.length (fun k => (sumF 7 (l.take k), (k : Int))) (fun k hk => by
      show spec_l1Sum_loop1 (bs l) (sumF 7 (l.take k)) (k : Int) = _
      have hr := sumF_range (l.take k) 7 (by omega) (by omega)
      unfold spec_l1Sum_loop1
      rw [cond_dt (by rw [bs_size]; omega), grd_pos (by rw [bs_size]; omega), grd_pos (by omega), w64_nat (by omega), bAt_bs, Int.toNat_natCast, getD_eq _ _ _ hk, sum_step _ _ hr.1 hr.2, ← sumF_snoc, ← List.take_succ_eq_append_getElem hk]) (by
      show spec_l1Sum_loop1 (bs l) (sumF 7 (l.take l.length)) (l.length : Int) = _
      unfold spec_l1Sum_loop1
      rw [cond_df (by rw [bs_size]; omega), List.take_length]) rfl
  rw [H]; rfl
theorem checksum_eq (l : List UInt8) (hl : l.length ≤ 4611686018427387000) : impl_checksum (bs l) = some (sumF 7 l) := by
  unfold impl_checksum
  have H : iter (fun s => impl_checksum_loop1 (bs l) s.1 s.2) ((7 : Int), (0 : Int)) = some (sumF 7 l) :=
    iter_for l.length (fun k => (sumF 7 (l.take k), (k : Int))) (fun k hk => by
      show impl_checksum_loop1 (bs l) (sumF 7 (l.take k)) (k : Int) = _
      have hr := sumF_range (l.take k) 7 (by omega) (by omega)
      unfold impl_checksum_loop1
      rw [cond_dt (by rw [bs_size]; omega), grd_pos (by rw [bs_size]; omega), grd_pos (by omega), w64_nat (by omega), bAt_bs, Int.toNat_natCast, getD_eq _ _ _ hk, sum_step _ _ hr.1 hr.2, ← sumF_snoc, ← List.take_succ_eq_append_getElem hk]) (by
      show impl_checksum_loop1 (bs l) (sumF 7 (l.take l.length)) (l.length : Int) = _
      unfold impl_checksum_loop1
      rw [cond_df (by rw [bs_size]; omega), List.take_length]) rfl
  rw [H]; rfl
def sumN (t : List UInt8) : Nat := (sumF 7 t).toNat
theorem sumN_eq (t : List UInt8) : sumF 7 t = (sumN t : Int) ∧ sumN t < 999979 := by
  have := sumF_range t 7 (by omega) (by omega)
  unfold sumN
  omega
def sealL (t : List UInt8) : List UInt8 := t ++ [35] ++ Lib.decDigits (sumN t)
theorem sealL_length (t : List UInt8) : t.length + 2 ≤ (sealL t).length ∧ (sealL t).length ≤ t.length + 7 := by
  have h1 := digit_length (sumN t)
  have h2 := dec_length 5 (sumN t) (by have := (sumN_eq t).2; omega)
  simp only [sealL, List.length_append, List.length_cons, List.length_nil]
  omega
theorem sealL_bef (t : List UInt8) (h : (35 : UInt8) ∉ t) : bef 35 (sealL t) = t := by
  unfold sealL
  rw [List.append_assoc]
  exact bef_app 35 t _ h
theorem l1Seal_eq (t : List UInt8) (h : t.length ≤ 4611686018427387000) : spec_l1Seal (bs t) = some (bs (sealL t)) := by
  obtain ⟨e, hlt⟩ := sumN_eq t
  have h2 := dec_length 5 (sumN t) (by omega)
  unfold spec_l1Seal
  rw [show (ByteArray.mk #[35]) = bs [35] from rfl, grd_pos (by rw [bs_size, bs_size]; simp; omega), l1Sum_eq t h, Option.bind_some, e, l1Num_eq _ (by omega), Option.bind_some, bs_app, grd_pos (by rw [bs_size, bs_size]; simp; omega), bs_app]
  rfl
theorem append_eq (t : List UInt8) (h : t.length < 4294967281) : impl_AppendChecksum (bs t) = some (if t.length ≤ 4000 ∧ (35 : UInt8) ∉ t ∧ (sealL t).length ≤ 4000 then (bs (sealL t), true) else (bs [], false)) := by
  obtain ⟨e, hlt⟩ := sumN_eq t
  have h2 := dec_length 5 (sumN t) (by omega)
  unfold impl_AppendChecksum
  rw [show (ByteArray.mk #[35]) = bs [35] from rfl, show (ByteArray.mk #[]) = bs [] from rfl, bs_size]
  by_cases h1 : t.length ≤ 4000
  · rw [cond_df (by omega)]
    unfold strings_Contains
    rw [grd_pos (by rw [bs_size]; exact h), Option.bind_some, list_bs, list_bs, contains_one]
    by_cases h3 : (35 : UInt8) ∈ t
    · rw [cond_dt h3, if_neg (fun hh => hh.2.1 h3)]
    · rw [cond_df h3, grd_pos (by rw [bs_size]; simp; omega), checksum_eq t (by omega), Option.bind_some, e, itoa_eq _ (by omega), Option.bind_some, bs_app, grd_pos (by rw [bs_size, bs_size]; simp; omega), bs_app, bs_size]
      by_cases h4 : (sealL t).length ≤ 4000
      · rw [cond_df (by unfold sealL at h4; omega), if_pos ⟨h1, h3, h4⟩]
        rfl
      · rw [cond_dt (by unfold sealL at h4; omega), if_neg (fun hh => h4 hh.2.2)]
  · rw [cond_dt (by omega), if_neg (fun hh => h1 hh.1)]
theorem verify_eq (l : List UInt8) (h : l.length < 4294967281) : impl_VerifyChecksum (bs l) = some (if (bef 35 l).length ≤ 4000 ∧ (sealL (bef 35 l)).length ≤ 4000 ∧ sealL (bef 35 l) = l then (bs (bef 35 l), true) else (bs [], false)) := by
  unfold impl_VerifyChecksum strings_Cut
  rw [show (ByteArray.mk #[35]) = bs [35] from rfl, show (ByteArray.mk #[]) = bs [] from rfl, grd_pos (by rw [bs_size]; exact h), Option.bind_some]
  have e1 : cutA (bs l) (bs [35]) = bs (bef 35 l) := by unfold cutA; rw [list_bs, list_bs, cut_eq]
  simp only [e1]
  have hle := bef_length 35 l
  rw [append_eq _ (by omega), Option.bind_some]
  by_cases hc : (bef 35 l).length ≤ 4000 ∧ (sealL (bef 35 l)).length ≤ 4000
  · rw [if_pos ⟨hc.1, bef_not 35 l, hc.2⟩]
    simp only [Bool.not_true, cond_false]
    by_cases he : sealL (bef 35 l) = l
    · rw [cond_ndt (bs_inj.2 he), if_pos ⟨hc.1, hc.2, he⟩]
    · rw [cond_ndf (fun h => he (bs_inj.1 h)), if_neg (fun hh => he hh.2.2)]
  · rw [if_neg (fun hh => hc ⟨hh.1, hh.2.2⟩), if_neg (fun hh => hc ⟨hh.1, hh.2.1⟩)]
    rfl

/-! ### Records -/
def plainB (no : List UInt8) (l : List UInt8) : Bool := l.all fun b => decide (32 ≤ b.toNat) && decide (b.toNat ≤ 126) && !no.contains b
def goodB (c r : List UInt8) : Bool := decide (1 ≤ c.length ∧ c.length ≤ 160) && (decide (r.length ≤ 200) && (plainB [35, 64] c && plainB [35] r))
theorem printB_iff (l : List UInt8) : (l.all fun b => decide (32 ≤ b.toNat) && decide (b.toNat ≤ 126)) = true ↔ ∀ b ∈ l, 32 ≤ b.toNat ∧ b.toNat ≤ 126 := by
  rw [List.all_eq_true]; simp
theorem isPlain_eq (no l : List UInt8) (hl : l.length ≤ 1000000000) (hn : no.length ≤ 1000) (hna : asciiB (bs no) = true) : impl_isPlain (bs l) (bs no) = some (plainB no l) := by
  unfold impl_isPlain
  have H : iter (fun s => impl_isPlain_loop1 (bs l) s) (0 : Int) = some (if l.all (fun b => decide (32 ≤ b.toNat) && decide (b.toNat ≤ 126)) then (Sum.inr () : Unit ⊕ Unit) else Sum.inl ()) :=
    iter_all l (fun b => decide (32 ≤ b.toNat) && decide (b.toNat ≤ 126)) 0 (fun k => (k : Int)) (fun k hk => by
      show impl_isPlain_loop1 (bs l) (k : Int) = _
      unfold impl_isPlain_loop1
      rw [cond_dt (by rw [bs_size]; omega), grd_pos (by rw [bs_size]; omega), bAt_bs, Int.toNat_natCast, w64_nat (by omega)]
      generalize l.getD k 0 = x
      by_cases h1 : (x.toNat : Int) < 32
      · rw [cond_dt h1]
        have : ¬ 32 ≤ x.toNat := by omega
        simp [this]
      · rw [cond_df h1, grd_pos (by rw [bs_size]; omega)]
        have e1 : 32 ≤ x.toNat := by omega
        by_cases h2 : (126 : Int) < (x.toNat : Int)
        · rw [cond_dt h2]
          have : ¬ x.toNat ≤ 126 := by omega
          simp [this]
        · rw [cond_df h2]
          have e2 : x.toNat ≤ 126 := by omega
          simp [e1, e2]) (by
      show impl_isPlain_loop1 (bs l) (l.length : Int) = _
      unfold impl_isPlain_loop1
      rw [cond_df (by rw [bs_size]; omega)]) rfl
  rw [H, Option.bind_some]
  cases hp : l.all (fun b => decide (32 ≤ b.toNat) && decide (b.toNat ≤ 126)) with
  | false =>
    have : plainB no l = false := by
      cases hq : plainB no l with
      | false => rfl
      | true =>
        exfalso
        have : (l.all fun b => decide (32 ≤ b.toNat) && decide (b.toNat ≤ 126)) = true := by
          rw [List.all_eq_true]
          intro b hb
          have := List.all_eq_true.1 hq b hb
          rw [Bool.and_eq_true] at this
          exact this.1
        rw [hp] at this; cases this
    rw [this]; rfl
  | true =>
    have ha : asciiB (bs l) = true := by
      unfold asciiB
      rw [list_bs, List.all_eq_true]
      intro b hb
      have := (printB_iff l).1 hp b hb
      simp; omega
    rw [if_pos rfl, Sum.elim_inr]
    unfold strings_ContainsAny
    rw [grd_pos ⟨by rw [bs_size]; omega, by rw [bs_size]; omega, ha, hna⟩, Option.bind_some]
    refine congrArg some ?_
    unfold anyOf
    rw [list_bs, list_bs, containsAny_iff]
    rw [Bool.eq_iff_iff]
    unfold plainB
    have hpm := (printB_iff l).1 hp
    simp only [Bool.not_eq_true', List.any_eq_false, List.all_eq_true, Bool.and_eq_true, decide_eq_true_eq]
    constructor
    · intro h b hb
      exact ⟨hpm b hb, by simpa using h b hb⟩
    · intro h b hb
      have := (h b hb).2
      simpa using this
theorem isValid_eq (c r : List UInt8) (hc : c.length ≤ 1000000000) (hr : r.length ≤ 1000000000) : impl_IsValidRecord (bs c, bs r, ()) = some (goodB c r) := by
  unfold impl_IsValidRecord
  simp only [within_eq, Option.bind_some, bs_size]
  rw [show (ByteArray.mk #[35, 64]) = bs [35, 64] from rfl, show (ByteArray.mk #[35]) = bs [35] from rfl]
  unfold goodB
  by_cases h1 : 1 ≤ c.length ∧ c.length ≤ 160
  · rw [cond_dt (by omega), decide_eq_true h1, Bool.true_and]
    by_cases h2 : r.length ≤ 200
    · rw [cond_dt (by omega), decide_eq_true h2, Bool.true_and, isPlain_eq _ c hc (by simp) rfl, Option.bind_some]
      cases plainB [35, 64] c with
      | false => rfl
      | true => rw [isPlain_eq _ r hr (by simp) rfl]; rfl
    · rw [cond_df (by omega), decide_eq_false h2]; rfl
  · rw [cond_df (by omega), decide_eq_false h1]; rfl
theorem l27Plain_eq (l : List UInt8) (m : Nat) (hl : l.length ≤ 1000000000) : spec_l27Plain (bs l) (m : Int) = some (plainB [35] l && decide (l.length ≤ m)) := by
  unfold spec_l27Plain
  have H : iter (fun s => spec_l27Plain_loop1 (bs l) s) (0 : Int) = some (if l.all (fun b => decide (32 ≤ b.toNat) && decide (b.toNat ≤ 126) && ![(35 : UInt8)].contains b) then (Sum.inr () : Unit ⊕ Unit) else Sum.inl ()) :=
    iter_all l (fun b => decide (32 ≤ b.toNat) && decide (b.toNat ≤ 126) && ![(35 : UInt8)].contains b) 0 (fun k => (k : Int)) (fun k hk => by
      show spec_l27Plain_loop1 (bs l) (k : Int) = _
      unfold spec_l27Plain_loop1
      rw [cond_dt (by rw [bs_size]; omega), grd_pos (by rw [bs_size]; omega), bAt_bs, Int.toNat_natCast, w64_nat (by omega)]
      generalize l.getD k 0 = x
      have hb := x.toNat_lt
      rw [w64_id (by omega) (by omega), l1In_eq, Option.bind_some]
      by_cases h1 : (32 : Int) ≤ (x.toNat : Int) ∧ (x.toNat : Int) ≤ 126
      · rw [cond_ndt h1, grd_pos (by rw [bs_size]; omega)]
        have e1 : 32 ≤ x.toNat := by omega
        have e2 : x.toNat ≤ 126 := by omega
        by_cases h2 : (x.toNat : Int) = 35
        · rw [cond_dt h2]
          have e3 : x = 35 := UInt8.toNat_inj.1 (by show _ = 35; omega)
          rw [e3]; rfl
        · rw [cond_df h2]
          have e3 : x ≠ 35 := fun e => h2 (by rw [e]; rfl)
          simp [e1, e2, e3]
      · rw [cond_ndf h1]
        by_cases e1 : 32 ≤ x.toNat
        · have e2 : ¬ x.toNat ≤ 126 := by omega
          simp [e2]
        · simp [e1]) (by
      show spec_l27Plain_loop1 (bs l) (l.length : Int) = _
      unfold spec_l27Plain_loop1
      rw [cond_df (by rw [bs_size]; omega)]) rfl
  rw [H, Option.bind_some]
  change _ = some ((l.all (fun b => decide (32 ≤ b.toNat) && decide (b.toNat ≤ 126) && ![(35 : UInt8)].contains b)) && _)
  cases (l.all (fun b => decide (32 ≤ b.toNat) && decide (b.toNat ≤ 126) && ![(35 : UInt8)].contains b)) with
  | false => rfl
  | true =>
    rw [if_pos rfl, Sum.elim_inr, bs_size, Bool.true_and]
    refine congrArg some ?_
    rw [Bool.eq_iff_iff]; simp
theorem stands_eq (l : List UInt8) (c : UInt8) (hl : l.length ≤ 1000000000) : spec_l1Stands (bs l) (c.toNat : Int) = some (decide (c ∈ l)) := by
  unfold spec_l1Stands
  obtain ⟨r, e, hr⟩ := iter_ex (f := fun s => spec_l1Stands_loop1 (bs l) (c.toNat : Int) s) (miss := (Sum.inr () : Unit ⊕ Unit)) l.length (fun k => decide (l.getD k 0 = c)) (fun _ => Sum.inl ()) (fun k => (k : Int)) (fun k hk => by
      show spec_l1Stands_loop1 (bs l) (c.toNat : Int) (k : Int) = _
      unfold spec_l1Stands_loop1
      rw [cond_dt (by rw [bs_size]; omega), grd_pos (by rw [bs_size]; omega), w64_nat (by omega), bAt_bs, Int.toNat_natCast]
      by_cases he : l.getD k 0 = c
      · rw [cond_dt (by rw [he]), decide_eq_true he]; rfl
      · rw [cond_df (fun h => he (UInt8.toNat_inj.1 (by omega))), decide_eq_false he]; rfl) (by
      show spec_l1Stands_loop1 (bs l) (c.toNat : Int) (l.length : Int) = _
      unfold spec_l1Stands_loop1
      rw [cond_df (by rw [bs_size]; omega)]) (s := (0 : Int)) rfl
  rw [e, Option.bind_some]
  rcases hr with ⟨k, hk, hp, _, rfl⟩ | ⟨hn, rfl⟩
  · have : c ∈ l := by
      have := of_decide_eq_true hp
      rw [getD_eq _ _ _ hk] at this
      rw [← this]; exact List.getElem_mem hk
    rw [decide_eq_true this]; rfl
  · have : c ∉ l := fun hm => by
      obtain ⟨i, hi, he⟩ := List.getElem_of_mem hm
      have := hn i hi
      rw [getD_eq _ _ _ hi] at this
      exact absurd he (of_decide_eq_false this)
    rw [decide_eq_false this]; rfl
theorem plain_two (l : List UInt8) : plainB [35, 64] l = (plainB [35] l && !decide ((64 : UInt8) ∈ l)) := by
  rw [Bool.eq_iff_iff]
  unfold plainB
  simp only [List.all_eq_true, Bool.and_eq_true, Bool.not_eq_true', decide_eq_true_eq, decide_eq_false_iff_not]
  constructor
  · intro h
    refine ⟨fun b hb => ⟨(h b hb).1, ?_⟩, fun hm => ?_⟩
    · have := (h b hb).2
      simp at this ⊢; exact this.1
    · have := (h 64 hm).2
      simp at this
  · rintro ⟨h1, h2⟩ b hb
    refine ⟨(h1 b hb).1, ?_⟩
    have := (h1 b hb).2
    simp at this ⊢
    exact ⟨this, fun e => h2 (e ▸ hb)⟩
theorem good_eq (c r : List UInt8) (hc : c.length ≤ 1000000000) (hr : r.length ≤ 1000000000) : spec_l27Good (bs c, bs r, ()) = some (goodB c r) := by
  unfold spec_l27Good
  rw [show (ByteArray.mk #[]) = bs [] from rfl]
  simp only [show ((160 : Int)) = ((160 : Nat) : Int) from rfl, show ((200 : Int)) = ((200 : Nat) : Int) from rfl, show ((64 : Int)) = (((64 : UInt8).toNat : Nat) : Int) from rfl, l27Plain_eq c _ hc, l27Plain_eq r _ hr, stands_eq c 64 hc, Option.bind_some]
  unfold goodB
  rw [plain_two]
  by_cases h0 : c = []
  · rw [cond_ndt (bs_inj.2 h0)]
    subst h0; rfl
  · rw [cond_ndf (fun h => h0 (bs_inj.1 h))]
    have hpos : 1 ≤ c.length := List.length_pos_iff.2 h0
    by_cases h1 : c.length ≤ 160
    · have e1 : decide (1 ≤ c.length ∧ c.length ≤ 160) = true := decide_eq_true ⟨hpos, h1⟩
      rw [e1, decide_eq_true h1]
      cases plainB [35] c <;> cases plainB [35] r <;> by_cases h2 : (64 : UInt8) ∈ c <;> by_cases h3 : r.length ≤ 200 <;> simp [h2, h3]
    · have e1 : decide (1 ≤ c.length ∧ c.length ≤ 160) = false := decide_eq_false (fun h => h1 h.2)
      rw [e1, decide_eq_false h1]; simp
theorem goodB_out {c r : List UInt8} (h : goodB c r = true) : 1 ≤ c.length ∧ c.length ≤ 160 ∧ r.length ≤ 200 ∧ (35 : UInt8) ∉ c ∧ (35 : UInt8) ∉ r ∧ (64 : UInt8) ∉ c ∧ (10 : UInt8) ∉ c ∧ (10 : UInt8) ∉ r := by
  unfold goodB at h
  simp only [Bool.and_eq_true, decide_eq_true_eq] at h
  obtain ⟨⟨h1, h2⟩, h3, h4, h5⟩ := h
  unfold plainB at h4 h5
  rw [List.all_eq_true] at h4 h5
  refine ⟨h1, h2, h3, fun hm => ?_, fun hm => ?_, fun hm => ?_, fun hm => ?_, fun hm => ?_⟩
  · have := h4 _ hm; simp at this
  · have := h5 _ hm; simp at this
  · have := h4 _ hm; simp at this
  · have := h4 _ hm; simp at this
  · have := h5 _ hm; simp at this
def textL (k : Nat) (c r : List UInt8) : List UInt8 := Lib.decDigits k ++ [32] ++ c ++ [64] ++ r
def lineL (k : Nat) (c r : List UInt8) : List UInt8 := sealL (textL k c r) ++ [10]
theorem textL_length (k : Nat) (c r : List UInt8) (hk : k < 1000000) : (textL k c r).length ≤ c.length + r.length + 8 ∧ c.length + r.length + 3 ≤ (textL k c r).length := by
  have h1 := dec_length 5 k (by omega)
  have h2 := digit_length k
  simp only [textL, List.length_append, List.length_cons, List.length_nil]
  omega
theorem textL_no (k : Nat) {c r : List UInt8} (h : goodB c r = true) : (35 : UInt8) ∉ textL k c r := by
  obtain ⟨_, _, _, h1, h2, _⟩ := goodB_out h
  simp only [textL, List.mem_append, List.mem_singleton, not_or]
  refine ⟨⟨⟨⟨fun hm => ?_, by decide⟩, h1⟩, by decide⟩, h2⟩
  have := dec_mem k _ hm
  revert this; decide
theorem l27Line_eq (k : Nat) (c r : List UInt8) (hk : k < 1000000) (hc : c.length ≤ 1000000000) (hr : r.length ≤ 1000000000) : spec_l27Line (k : Int) (bs c, bs r, ()) = some (bs (lineL k c r)) := by
  have h1 := dec_length 5 k (by omega)
  have h2 := textL_length k c r hk
  have h3 := sealL_length (textL k c r)
  unfold spec_l27Line
  rw [l1Num_eq k (by omega), Option.bind_some]
  simp only [show (ByteArray.mk #[32]) = bs [32] from rfl, show (ByteArray.mk #[64]) = bs [64] from rfl, show (ByteArray.mk #[10]) = bs [10] from rfl, bs_app, bs_size, List.length_append, List.length_cons, List.length_nil]
  rw [grd_pos (by omega), grd_pos (by omega), grd_pos (by omega), grd_pos (by omega)]
  have e : Lib.decDigits k ++ [32] ++ c ++ [64] ++ r = textL k c r := rfl
  rw [e, l1Seal_eq _ (by omega), Option.bind_some]
  simp only [bs_size, bs_app]
  rw [grd_pos (by omega)]
  rfl
end Go.Proofs.YtppiaacfnoifkaaDoor
