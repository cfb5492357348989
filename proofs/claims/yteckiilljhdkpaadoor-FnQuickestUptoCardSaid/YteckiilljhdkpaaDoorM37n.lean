/-
  Plain laws, carried over from texts of other seats.
-/
import Derived.Test.YteckiilljhdkpaaDoorM37a
namespace Go.Proofs.YteckiilljhdkpaaDoor
open Go.RowKit

theorem digs_get (d : Nat) (h : d < 10) : bsub (ByteArray.mk #[48, 49, 50, 51, 52, 53, 54, 55, 56, 57]) (d : Int) (w64 ((d : Int) + 1)) = bs [UInt8.ofNat (48 + d)] := by
  have : w64 ((d : Int) + 1) = ((d + 1 : Nat) : Int) := w64_nat (by omega)
  rw [this, show (ByteArray.mk #[48, 49, 50, 51, 52, 53, 54, 55, 56, 57]) = bs [48, 49, 50, 51, 52, 53, 54, 55, 56, 57] from rfl, bsub_bs]
  have hd : d = 0 ∨ d = 1 ∨ d = 2 ∨ d = 3 ∨ d = 4 ∨ d = 5 ∨ d = 6 ∨ d = 7 ∨ d = 8 ∨ d = 9 := by omega
  rcases hd with rfl | rfl | rfl | rfl | rfl | rfl | rfl | rfl | rfl | rfl <;> rfl
theorem l1Num_f_eq : ∀ (k n : Nat), n < 10 ^ k → n < 1000000000000000000 → spec_l1Num_f (k + 1) (n : Int) = some (bs (Lib.decDigits n))
  | 0, n, h, _ => by
    obtain rfl : n = 0 := by simpa using h
    rw [spec_l1Num_f_succ, cond_df (by omega), cond_dt (by omega), grd_pos ⟨by omega, by decide, by decide⟩]
    have := digs_get 0 (by omega)
    rw [show ((0 : Nat) : Int) = (0 : Int) from rfl] at this ⊢
    rw [this]
    unfold Lib.decDigits
    rw [dif_pos (by omega)]
  | k + 1, n, h, h18 => by
    rw [spec_l1Num_f_succ, cond_df (by omega)]
    by_cases h10 : n < 10
    · have e : w64 ((n : Int) + 1) = ((n + 1 : Nat) : Int) := w64_nat (by omega)
      have hs : (ByteArray.mk #[48, 49, 50, 51, 52, 53, 54, 55, 56, 57]).size = 10 := rfl
      rw [cond_dt (by omega), grd_pos ⟨by omega, by rw [e]; omega, by rw [e, hs]; omega⟩, digs_get n h10]
      unfold Lib.decDigits
      rw [dif_pos h10]
    · have hq : n / 10 < 10 ^ k := by
        rw [Nat.div_lt_iff_lt_mul (by omega)]
        rw [Nat.pow_succ] at h; exact h
      have ih := l1Num_f_eq k (n / 10) hq (by omega)
      have e1 : w64 (Int.tdiv (n : Int) 10) = ((n / 10 : Nat) : Int) := by
        rw [show Int.tdiv (n : Int) 10 = ((n / 10 : Nat) : Int) from by rw [show (10 : Int) = ((10 : Nat) : Int) from rfl, ← Int.ofNat_tdiv]]
        rw [w64_id (by omega) (by omega)]
      have e2 : Int.tmod (n : Int) 10 = ((n % 10 : Nat) : Int) := by rw [show (10 : Int) = ((10 : Nat) : Int) from rfl, ← Int.ofNat_tmod]
      have hlen : (Lib.decDigits (n / 10)).length ≤ 19 := dec_length 18 (n / 10) (by omega)
      have hs : (ByteArray.mk #[48, 49, 50, 51, 52, 53, 54, 55, 56, 57]).size = 10 := rfl
      have e3 : w64 (((n % 10 : Nat) : Int) + 1) = ((n % 10 + 1 : Nat) : Int) := w64_nat (by omega)
      rw [cond_df (by omega), grd_pos (by omega), e1, ih, Option.bind_some]
      simp only [e2]
      have hm : n % 10 < 10 := Nat.mod_lt _ (by omega)
      rw [grd_pos (by omega), grd_pos (by omega), grd_pos ⟨by omega, by rw [e3]; omega, by rw [e3, hs]; omega⟩, digs_get (n % 10) hm, grd_pos (by rw [bs_size, bs_size]; simp; omega), bs_app]
      conv => rhs; unfold Lib.decDigits
      rw [dif_neg h10]
theorem l1Num_eq (n : Nat) (h : n < 1000000000000000000) : spec_l1Num (n : Int) = some (bs (Lib.decDigits n)) := by
  unfold spec_l1Num
  have := l1Num_f_eq 63 n (Nat.lt_of_lt_of_le h (by decide)) h
  exact this
theorem itoa_eq (n : Nat) (h : n < 1000000000000000000) : strconv_Itoa (n : Int) = some (bs (Lib.decDigits n)) := by
  unfold strconv_Itoa
  rw [grd_pos (by omega)]
  have : itoaB (n : Int) = bs (Lib.decDigits n) := by
    unfold itoaB Lib.itoa
    rw [if_neg (by omega), Int.toNat_natCast]
  rw [this]

end Go.Proofs.YteckiilljhdkpaaDoor
