/-
  Plain laws of rows as lines, and of a week's text.
-/
import Derived.Test.YteckiilljhdkpaaDoorM31a
namespace Go.Proofs.YteckiilljhdkpaaDoor
open Go.RowKit

def lineT (h s u dn : Nat) (why : List UInt8) : List UInt8 :=
  if h = 0 then [99, 108, 111, 115, 101, 100] else
    Lib.decDigits u ++ ([32, 117, 112, 44, 32] ++ (Lib.decDigits dn ++ ([32, 100, 111, 119, 110, 44, 32] ++ (Lib.decDigits h ++ ([32, 104] ++
      (if s = 0 then [] else if s = 1 then [44, 32, 49, 32, 115, 116, 111, 112, 32, 40] ++ (why ++ [41]) else [44, 32] ++ (Lib.decDigits s ++ ([32, 115, 116, 111, 112, 115, 32, 40] ++ (why ++ [41])))))))))
def lineL (d u dn h s : Nat) (why : List UInt8) : List UInt8 := [100, 97, 121, 32] ++ (Lib.decDigits d ++ ([58, 32] ++ lineT h s u dn why))
theorem dec_le (n : Nat) (h : n ≤ 99999) : (Lib.decDigits n).length ≤ 6 := dec_length 5 n (by omega)
theorem k1 : (ByteArray.mk #[100, 97, 121, 32]) = bs [100, 97, 121, 32] := rfl
theorem k2 : (ByteArray.mk #[58, 32]) = bs [58, 32] := rfl
theorem k3 : (ByteArray.mk #[99, 108, 111, 115, 101, 100]) = bs [99, 108, 111, 115, 101, 100] := rfl
theorem k4 : (ByteArray.mk #[32, 117, 112, 44, 32]) = bs [32, 117, 112, 44, 32] := rfl
theorem k5 : (ByteArray.mk #[32, 100, 111, 119, 110, 44, 32]) = bs [32, 100, 111, 119, 110, 44, 32] := rfl
theorem k6 : (ByteArray.mk #[32, 104]) = bs [32, 104] := rfl
theorem k7 : (ByteArray.mk #[44, 32, 49, 32, 115, 116, 111, 112, 32, 40]) = bs [44, 32, 49, 32, 115, 116, 111, 112, 32, 40] := rfl
theorem k8 : (ByteArray.mk #[41]) = bs [41] := rfl
theorem k9 : (ByteArray.mk #[44, 32]) = bs [44, 32] := rfl
theorem k10 : (ByteArray.mk #[32, 115, 116, 111, 112, 115, 32, 40]) = bs [32, 115, 116, 111, 112, 115, 32, 40] := rfl
theorem k11 : (ByteArray.mk #[10]) = bs [10] := rfl
theorem k12 : (ByteArray.mk #[97, 108, 108, 58, 32]) = bs [97, 108, 108, 58, 32] := rfl
theorem k13 : (ByteArray.mk #[32, 100, 111, 119, 110]) = bs [32, 100, 111, 119, 110] := rfl
theorem k14 : (ByteArray.mk #[]) = bs [] := rfl
theorem l26Line_eq (d u dn h s : Nat) (why : List UInt8) (h1 : d ≤ 99999) (h2 : u ≤ 99999) (h3 : dn ≤ 99999) (h4 : h ≤ 99999) (h5 : s ≤ 99999) (h6 : why.length ≤ 1000000000) :
    spec_l26Line ((d : Int), (u : Int), (dn : Int), (h : Int), (s : Int), bs why, ()) = some (bs (lineL d u dn h s why)) := by
  have e1 := dec_le d h1
  have e2 := dec_le u h2
  have e3 := dec_le dn h3
  have e4 := dec_le h h4
  have e5 := dec_le s h5
  unfold spec_l26Line
  simp only [l1Num_eq d (by omega), l1Num_eq u (by omega), l1Num_eq dn (by omega), l1Num_eq h (by omega), l1Num_eq s (by omega), Option.bind_some, k1, k2, k3, k4, k5, k6, k7, k8, k9, k10, bs_app, bs_size]
  rw [grd_pos (by simp; omega), grd_pos (by simp; omega)]
  by_cases g1 : h = 0
  · rw [cond_dt (by omega), grd_pos (by simp; omega)]
    simp [lineL, lineT, g1]
  rw [cond_df (by omega), grd_pos (by simp; omega), grd_pos (by simp; omega), grd_pos (by simp; omega), grd_pos (by simp; omega), grd_pos (by simp; omega), grd_pos (by simp; omega)]
  by_cases g2 : s = 0
  · rw [cond_dt (by omega)]
    simp [lineL, lineT, g1, g2]
  rw [cond_df (by omega)]
  by_cases g3 : s = 1
  · rw [cond_dt (by omega), grd_pos (by simp; omega), grd_pos (by simp; omega), grd_pos (by simp; omega)]
    simp [lineL, lineT, g1, g3]
  · rw [cond_df (by omega), grd_pos (by simp; omega), grd_pos (by simp; omega), grd_pos (by simp; omega), grd_pos (by simp; omega), grd_pos (by simp; omega)]
    simp [lineL, lineT, g1, g2, g3]
theorem dayLine_eq (d u dn h s : Nat) (why : List UInt8) (h1 : d ≤ 99999) (h2 : u ≤ 99999) (h3 : dn ≤ 99999) (h4 : h ≤ 99999) (h5 : s ≤ 99999) (h6 : why.length ≤ 1000000000) :
    impl_dayLine ((d : Int), (u : Int), (dn : Int), (h : Int), (s : Int), bs why, ()) = some (bs (lineL d u dn h s why)) := by
  have e1 := dec_le d h1
  have e2 := dec_le u h2
  have e3 := dec_le dn h3
  have e4 := dec_le h h4
  have e5 := dec_le s h5
  unfold impl_dayLine
  simp only [itoa_eq d (by omega), itoa_eq u (by omega), itoa_eq dn (by omega), itoa_eq h (by omega), itoa_eq s (by omega), Option.bind_some, k1, k2, k3, k4, k5, k6, k7, k8, k9, k10, bs_app, bs_size]
  rw [grd_pos (by simp; omega), grd_pos (by simp; omega)]
  by_cases g1 : h = 0
  · rw [cond_dt (by omega), grd_pos (by simp; omega)]
    simp [lineL, lineT, g1]
  rw [cond_df (by omega), grd_pos (by simp; omega), grd_pos (by simp; omega), grd_pos (by simp; omega), grd_pos (by simp; omega), grd_pos (by simp; omega), grd_pos (by simp; omega)]
  by_cases g3 : s = 1
  · rw [cond_dt (by omega), grd_pos (by simp; omega), grd_pos (by simp; omega), grd_pos (by simp; omega)]
    simp [lineL, lineT, g1, g3]
  rw [cond_df (by omega)]
  by_cases g2 : s = 0
  · rw [cond_df (by omega)]
    simp [lineL, lineT, g1, g2]
  · rw [cond_dt (by omega), grd_pos (by simp; omega), grd_pos (by simp; omega), grd_pos (by simp; omega), grd_pos (by simp; omega), grd_pos (by simp; omega)]
    simp [lineL, lineT, g1, g2, g3]

/-- A row's line. -/
def lineR (r : DayRow) : List UInt8 := lineL r.1.toNat r.2.1.toNat r.2.2.1.toNat r.2.2.2.1.toNat r.2.2.2.2.1.toNat r.2.2.2.2.2.1.data.toList
theorem nums_out {r : DayRow} (h : rowB r = true) : ((0 ≤ r.1 ∧ r.1 ≤ 999) ∧ (0 ≤ r.2.1 ∧ r.2.1 ≤ 99999)) ∧ ((0 ≤ r.2.2.1 ∧ r.2.2.1 ≤ 99999) ∧ (0 ≤ r.2.2.2.1 ∧ r.2.2.2.1 ≤ 24)) ∧ (0 ≤ r.2.2.2.2.1 ∧ r.2.2.2.2.1 ≤ 99) := by
  unfold rowB numsB at h
  simp only [Bool.and_eq_true, decide_eq_true_eq] at h
  obtain ⟨⟨a, b, c, d, e⟩, _⟩ := h
  exact ⟨⟨a, b⟩, ⟨c, d⟩, e⟩
theorem lines_eq (r : DayRow) (h : rowB r = true) (hs : r.2.2.2.2.2.1.size ≤ 1000000000) : spec_l26Line r = some (bs (lineR r)) ∧ impl_dayLine r = some (bs (lineR r)) := by
  obtain ⟨⟨h1, h2⟩, ⟨h3, h4⟩, h5⟩ := nums_out h
  obtain ⟨d, u, dn, hh, s, why, un⟩ := r
  obtain ⟨d, rfl⟩ := Int.eq_ofNat_of_zero_le h1.1
  obtain ⟨u, rfl⟩ := Int.eq_ofNat_of_zero_le h2.1
  obtain ⟨dn, rfl⟩ := Int.eq_ofNat_of_zero_le h3.1
  obtain ⟨hh, rfl⟩ := Int.eq_ofNat_of_zero_le h4.1
  obtain ⟨s, rfl⟩ := Int.eq_ofNat_of_zero_le h5.1
  obtain ⟨why, rfl⟩ := bs_ex why
  have hs : (bs why).size ≤ 1000000000 := hs
  rw [bs_size] at hs
  have h1 : (d : Int) ≤ 999 := h1.2
  have h2 : (u : Int) ≤ 99999 := h2.2
  have h3 : (dn : Int) ≤ 99999 := h3.2
  have h4 : (hh : Int) ≤ 24 := h4.2
  have h5 : (s : Int) ≤ 99 := h5.2
  have e : lineR ((d : Int), (u : Int), (dn : Int), (hh : Int), (s : Int), bs why, un) = lineL d u dn hh s why := by
    simp [lineR, list_bs]
  rw [e]
  exact ⟨l26Line_eq d u dn hh s why (by omega) (by omega) (by omega) (by omega) (by omega) hs, dayLine_eq d u dn hh s why (by omega) (by omega) (by omega) (by omega) (by omega) hs⟩
theorem lineR_le (r : DayRow) (h : rowB r = true) (hs : r.2.2.2.2.2.1.size ≤ 1048576) : (lineR r).length ≤ 1100000 := by
  obtain ⟨⟨h1, h2⟩, ⟨h3, h4⟩, h5⟩ := nums_out h
  have e1 := dec_le r.1.toNat (by omega)
  have e2 := dec_le r.2.1.toNat (by omega)
  have e3 := dec_le r.2.2.1.toNat (by omega)
  have e4 := dec_le r.2.2.2.1.toNat (by omega)
  have e5 := dec_le r.2.2.2.2.1.toNat (by omega)
  have e6 := size_list r.2.2.2.2.2.1
  unfold lineR lineL lineT
  simp only [List.length_append, List.length_cons, List.length_nil]
  split
  · simp only [List.length_cons, List.length_nil]; omega
  · simp only [List.length_append, List.length_cons, List.length_nil]
    split
    · simp only [List.length_nil]; omega
    · split <;> simp only [List.length_append, List.length_cons, List.length_nil] <;> omega
theorem szRow_eq (a : DayRow) (k : Int) : ∃ y, laws_szDayRow a k = some y := by
  unfold laws_szDayRow
  simp only [Bool.cond_eq_ite]
  split <;> exact ⟨_, rfl⟩
theorem law_FnExactDayLine (a : DayRow) (ha : Ty.fit ty_DayRow a) : laws_FnExactDayLine a = some true := by
  have hs : a.2.2.2.2.2.1.size ≤ 1048576 := ha.2.2.2.2.2.1
  obtain ⟨y, hy⟩ := szRow_eq a 1048576
  unfold laws_FnExactDayLine
  rw [row_eta, hy, Option.bind_some]
  by_cases h0 : y < 0
  · rw [cond_dt h0]
  rw [cond_df h0]
  have e : laws_toDayRow a = some a := rfl
  rw [e, Option.bind_some, row_eta]
  unfold spec_DayLine impl_DayLine
  simp only [row_eta, one_eq a (by omega), isRow_eq a (by omega), Option.bind_some]
  cases hr : rowB a with
  | false => simp only [Bool.not_false, cond_true, Option.bind_some, decide_true, Bool.not_true, cond_false, beq_self_eq_true]
  | true =>
    obtain ⟨e1, e2⟩ := lines_eq a hr (by omega)
    simp only [e1, e2, Bool.not_true, cond_false, Option.bind_some, decide_true, beq_self_eq_true]
end Go.Proofs.YteckiilljhdkpaaDoor
