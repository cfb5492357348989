/-
  Plain laws of conditions: which are good, when they end, their texts.
-/
import Derived.Test.YtpmmaohaahbphaaDoorI70
namespace Go.Proofs.YtpmmaohaahbphaaDoor
open Go.RowKit

/-- Is it a condition? -/
def okC (r : Condition) : Bool := decide (1 ≤ r.1 ∧ r.1 ≤ 99) && (wordB r.2.1 && (decide (1 ≤ r.2.2.1 ∧ r.2.2.1 ≤ 1000) && (decide (0 ≤ r.2.2.2.1 ∧ r.2.2.2.1 ≤ 9999) && decide (1 ≤ r.2.2.2.2.1 ∧ r.2.2.2.2.1 ≤ 5))))
theorem eta_c (r : Condition) : ((r.1, r.2.1, r.2.2.1, r.2.2.2.1, r.2.2.2.2.1, ()) : Condition) = r := rfl
theorem cond_and (a b : Bool) : cond a (some b) (some false) = some (a && b) := by cases a <;> rfl
theorem isCond_eq (r : Condition) (h : r.2.1.size ≤ 1000000000) : impl_IsCondition r = some (okC r) := by
  unfold impl_IsCondition impl_isDate okC
  rw [within_eq, isWord_eq _ h, within_eq, within_eq, within_eq]
  simp only [Option.bind_some]
  cases decide (1 ≤ r.1 ∧ r.1 ≤ 99) <;> cases wordB r.2.1 <;> cases decide (1 ≤ r.2.2.1 ∧ r.2.2.1 ≤ 1000) <;> cases decide (0 ≤ r.2.2.2.1 ∧ r.2.2.2.1 ≤ 9999) <;> rfl
theorem l24One_eq (r : Condition) (h : r.2.1.size ≤ 1000000000) : spec_l24One r = some (okC r) := by
  unfold spec_l24One spec_l24Day okC
  rw [l1In_eq, l2Word_eq _ h, l1In_eq, l1In_eq, l1In_eq]
  simp only [Option.bind_some]
  cases decide (1 ≤ r.1 ∧ r.1 ≤ 99) <;> cases wordB r.2.1 <;> cases decide (1 ≤ r.2.2.1 ∧ r.2.2.1 ≤ 1000) <;> cases decide (0 ≤ r.2.2.2.1 ∧ r.2.2.2.1 ≤ 9999) <;> rfl
structure OC (r : Condition) : Prop where
  num : 1 ≤ r.1 ∧ r.1 ≤ 99
  word : wordB r.2.1 = true
  every : 1 ≤ r.2.2.1 ∧ r.2.2.1 ≤ 1000
  last : 0 ≤ r.2.2.2.1 ∧ r.2.2.2.1 ≤ 9999
  grade : 1 ≤ r.2.2.2.2.1 ∧ r.2.2.2.2.1 ≤ 5
theorem okC_out {r : Condition} (h : okC r = true) : OC r := by
  unfold okC at h
  simp only [Bool.and_eq_true, decide_eq_true_eq] at h
  exact ⟨h.1, h.2.1, h.2.2.1, h.2.2.2.1, h.2.2.2.2⟩
/-- The day from which it is no longer met. -/
def endC (r : Condition) : Int := if r.2.2.2.2.1 = 5 then -1 else if r.2.2.2.2.1 = 4 then r.2.2.2.1 + (if r.2.2.1 < 14 then r.2.2.1 else 14) else r.2.2.2.1 + r.2.2.1
theorem end_impl {r : Condition} (h : OC r) : impl_Condition_lastMet r = some (endC r) := by
  have h3 := h.every; have h4 := h.last
  unfold impl_Condition_lastMet endC
  by_cases h5 : r.2.2.2.2.1 = 5
  · rw [cond_dt h5, if_pos h5]
  · rw [cond_df h5, if_neg h5]
    by_cases h6 : r.2.2.2.2.1 = 4
    · rw [cond_dt h6, if_pos h6]
      simp only [eq_self, if_true]
      refine congrArg some (w64_id ?_ ?_) <;> split <;> omega
    · rw [cond_df h6, if_neg h6, w64_id (by omega) (by omega)]
theorem end_spec {r : Condition} (h : OC r) : spec_l24End r = some (endC r) := by
  have h3 := h.every; have h4 := h.last
  unfold spec_l24End endC spec_l1Least
  by_cases h5 : r.2.2.2.2.1 = 5
  · rw [cond_dt h5, if_pos h5]
  · rw [cond_df h5, if_neg h5]
    by_cases h6 : r.2.2.2.2.1 = 4
    · rw [cond_dt h6, if_pos h6]
      by_cases h7 : 14 < r.2.2.1
      · rw [cond_dt h7, Option.bind_some, if_neg (by omega), w64_id (by omega) (by omega)]
      · rw [cond_df h7, Option.bind_some, w64_id (by omega) (by omega)]
        refine congrArg some ?_
        split <;> omega
    · rw [cond_df h6, if_neg h6, w64_id (by omega) (by omega)]
/-- A condition's text at a day. -/
def txC (r : Condition) (day : Int) : List UInt8 :=
  Lib.decDigits r.1.toNat ++ ([46, 32] ++ (r.2.1.data.toList ++ ([32, 101, 118, 101, 114, 121, 32] ++ (Lib.decDigits r.2.2.1.toNat ++ ([32, 100, 97, 121, 115, 58, 32] ++ (if endC r < day then [110, 111, 116, 32, 109, 101, 116] else [109, 101, 116]))))))
theorem condText (r : Condition) (day : Int) (hs : r.2.1.size ≤ 1000000) : (okC r = true ∧ (0 ≤ day ∧ day ≤ 9999) ∧ impl_ConditionText r day = some (bs (txC r day), true) ∧ spec_ConditionText r day = some (bs (txC r day), true)) ∨
    (¬ (okC r = true ∧ (0 ≤ day ∧ day ≤ 9999)) ∧ impl_ConditionText r day = some (bs [], false) ∧ spec_ConditionText r day = some (bs [], false)) := by
  unfold impl_ConditionText spec_ConditionText impl_isDate spec_l24Day
  simp only [eta_c]
  rw [isCond_eq r (by omega), l24One_eq r (by omega), within_eq, l1In_eq]
  simp only [Option.bind_some]
  cases hc : okC r
  · exact .inr ⟨fun e => (by cases e.1), rfl, rfl⟩
  · have h := okC_out hc
    have h1 := h.num; have h3 := h.every
    simp only [Bool.not_true, cond_false]
    by_cases hd : 0 ≤ day ∧ day ≤ 9999
    · rw [cond_ndt hd, cond_ndt hd]
      refine .inl ⟨by simp, hd, ?_⟩
      have l1 : (Lib.decDigits r.1.toNat).length ≤ 2 := dec_length 1 r.1.toNat (by omega)
      have l2 : (Lib.decDigits r.2.2.1.toNat).length ≤ 4 := dec_length 3 r.2.2.1.toNat (by omega)
      obtain ⟨W, hW⟩ := bs_ex r.2.1
      have hWl : r.2.1.data.toList = W := by rw [hW, list_bs]
      have hWs : W.length ≤ 1000000 := by rw [hW, bs_size] at hs; exact hs
      have e1 : strconv_Itoa r.1 = some (bs (Lib.decDigits r.1.toNat)) := by
        have := itoa_eq r.1.toNat (by omega)
        rw [show ((r.1.toNat : Nat) : Int) = r.1 by omega] at this; exact this
      have e2 : strconv_Itoa r.2.2.1 = some (bs (Lib.decDigits r.2.2.1.toNat)) := by
        have := itoa_eq r.2.2.1.toNat (by omega)
        rw [show ((r.2.2.1.toNat : Nat) : Int) = r.2.2.1 by omega] at this; exact this
      have e3 : spec_l1Num r.1 = some (bs (Lib.decDigits r.1.toNat)) := by
        have := l1Num_eq r.1.toNat (by omega)
        rw [show ((r.1.toNat : Nat) : Int) = r.1 by omega] at this; exact this
      have e4 : spec_l1Num r.2.2.1 = some (bs (Lib.decDigits r.2.2.1.toNat)) := by
        have := l1Num_eq r.2.2.1.toNat (by omega)
        rw [show ((r.2.2.1.toNat : Nat) : Int) = r.2.2.1 by omega] at this; exact this
      rw [e1, e3, e2, e4, end_impl h, end_spec h]
      simp only [Option.bind_some]
      rw [show (ByteArray.mk #[46, 32]) = bs [46, 32] from rfl, show (ByteArray.mk #[32, 101, 118, 101, 114, 121, 32]) = bs [32, 101, 118, 101, 114, 121, 32] from rfl, show (ByteArray.mk #[32, 100, 97, 121, 115, 58, 32]) = bs [32, 100, 97, 121, 115, 58, 32] from rfl, show (ByteArray.mk #[110, 111, 116, 32]) = bs [110, 111, 116, 32] from rfl, show (ByteArray.mk #[109, 101, 116]) = bs [109, 101, 116] from rfl]
      unfold txC
      rw [hWl, hW]
      simp only [bs_app, bs_size]
      by_cases hm : endC r < day
      · rw [cond_dt hm, if_pos hm]
        constructor
        · iterate 7 rw [grd_pos (by simp only [List.length_append, List.length_cons, List.length_nil]; omega)]
          simp
        · iterate 7 rw [grd_pos (by simp only [List.length_append, List.length_cons, List.length_nil]; omega)]
          simp
      · rw [cond_df hm, if_neg hm]
        constructor
        · iterate 6 rw [grd_pos (by simp only [List.length_append, List.length_cons, List.length_nil]; omega)]
          simp
        · iterate 6 rw [grd_pos (by simp only [List.length_append, List.length_cons, List.length_nil]; omega)]
          simp
    · rw [cond_ndf hd, cond_ndf hd]
      exact .inr ⟨fun e => hd e.2, rfl, rfl⟩
theorem specIs_eq (r : Condition) (h : r.2.1.size ≤ 1000000000) : spec_IsCondition r = some (okC r) := by
  unfold spec_IsCondition
  simp only [eta_c]
  rw [l24One_eq r h]; rfl
end Go.Proofs.YtpmmaohaahbphaaDoor
