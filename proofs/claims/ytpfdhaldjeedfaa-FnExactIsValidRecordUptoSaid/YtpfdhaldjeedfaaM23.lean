/-
  The law of valid records, in plain words.
-/
import Derived.Test.YtpfdhaldjeedfaaC23
import Derived.Test.YtpfdhaldjeedfaaO1
namespace Go.Proofs.Ytpfdhaldjeedfaa
open Go.RowKit

theorem l1In_eq (a lo hi : Int) : spec_l1In a lo hi = some (decide (lo ≤ a ∧ a ≤ hi)) := by
  unfold spec_l1In
  by_cases h : lo ≤ a
  · rw [cond_dt h]; simp [h]
  · rw [cond_df h]; simp [h]
theorem within_eq (a lo hi : Int) : impl_within a lo hi = some (decide (lo ≤ a ∧ a ≤ hi)) := by
  unfold impl_within
  by_cases h : lo ≤ a
  · rw [cond_dt h]; simp [h]
  · rw [cond_df h]; simp [h]

/-! ### Records -/
def plainB (no : List UInt8) (l : List UInt8) : Bool := l.all fun b => decide (32 ≤ b.toNat) && decide (b.toNat ≤ 126) && !no.contains b
def goodB (c r : List UInt8) : Bool := decide (1 ≤ c.length ∧ c.length ≤ 160) && (decide (r.length ≤ 200) && (plainB [35, 64] c && plainB [35] r))
theorem printB_iff (l : List UInt8) : (l.all fun b => decide (32 ≤ b.toNat) && decide (b.toNat ≤ 126)) = true ↔ ∀ b ∈ l, 32 ≤ b.toNat ∧ b.toNat ≤ 126 := by
  rw [List.all_eq_true]; simp
theorem isPlain_eq (no l : List UInt8) (hl : l.length ≤ 1000000000) (hn : no.length ≤ 1000) (hna : asciiB (bs no) = true) : impl_isPlain (bs l) (bs no) = some (plainB no l) := by
  unfold impl_isPlain
  have H : iter (fun s => impl_isPlain_loop1 (bs l) s) (0 : Int) = some (if l.all (fun b => decide (32 ≤ b.toNat) && decide (b.toNat ≤ 126)) then (Sum.inr () : Unit ⊕ Unit) else Sum.inl ()) :=
    iter_all l (fun b => decide (32 ≤ b.toNat) && decide (b.toNat ≤ 126)) 0 (fun k => (k : Int)) (fun k hk => by
      show impl_isPlain_loop1 (bs l) (k : Int) = _
      unfold impl_isPlain_loop1
      rw [cond_dt (by rw [bs_size]; omega), grd_pos (by rw [bs_size]; omega), bAt_bs, Int.toNat_natCast, w64_nat (by omega)]
      generalize l.getD k 0 = x
      by_cases h1 : (x.toNat : Int) < 32
      · rw [cond_dt h1]
        have : ¬ 32 ≤ x.toNat := by omega
        simp [this]
      · rw [cond_df h1, grd_pos (by rw [bs_size]; omega)]
        have e1 : 32 ≤ x.toNat := by omega
        by_cases h2 : (126 : Int) < (x.toNat : Int)
        · rw [cond_dt h2]
          have : ¬ x.toNat ≤ 126 := by omega
          simp [this]
        · rw [cond_df h2]
          have e2 : x.toNat ≤ 126 := by omega
          simp [e1, e2]) (by
      show impl_isPlain_loop1 (bs l) (l.length : Int) = _
      unfold impl_isPlain_loop1
      rw [cond_df (by rw [bs_size]; omega)]) rfl
  rw [H, Option.bind_some]
  cases hp : l.all (fun b => decide (32 ≤ b.toNat) && decide (b.toNat ≤ 126)) with
  | false =>
    have : plainB no l = false := by
      cases hq : plainB no l with
      | false => rfl
      | true =>
        exfalso
        have : (l.all fun b => decide (32 ≤ b.toNat) && decide (b.toNat ≤ 126)) = true := by
          rw [List.all_eq_true]
          intro b hb
          have := List.all_eq_true.1 hq b hb
          rw [Bool.and_eq_true] at this
          exact this.1
        rw [hp] at this; cases this
    rw [this]; rfl
  | true =>
    have ha : asciiB (bs l) = true := by
      unfold asciiB
      rw [list_bs, List.all_eq_true]
      intro b hb
      have := (printB_iff l).1 hp b hb
      simp; omega
    rw [if_pos rfl, Sum.elim_inr]
    unfold strings_ContainsAny
    rw [grd_pos ⟨by rw [bs_size]; omega, by rw [bs_size]; omega, ha, hna⟩, Option.bind_some]
    refine congrArg some ?_
    unfold anyOf
    rw [list_bs, list_bs, containsAny_iff]
    rw [Bool.eq_iff_iff]
    unfold plainB
    have hpm := (printB_iff l).1 hp
    simp only [Bool.not_eq_true', List.any_eq_false, List.all_eq_true, Bool.and_eq_true, decide_eq_true_eq]
    constructor
    · intro h b hb
      exact ⟨hpm b hb, by simpa using h b hb⟩
    · intro h b hb
      have := (h b hb).2
      simpa using this
theorem isValid_eq (c r : List UInt8) (hc : c.length ≤ 1000000000) (hr : r.length ≤ 1000000000) : impl_IsValidRecord (bs c, bs r, ()) = some (goodB c r) := by
  unfold impl_IsValidRecord
  simp only [within_eq, Option.bind_some, bs_size]
  rw [show (ByteArray.mk #[35, 64]) = bs [35, 64] from rfl, show (ByteArray.mk #[35]) = bs [35] from rfl]
  unfold goodB
  by_cases h1 : 1 ≤ c.length ∧ c.length ≤ 160
  · rw [cond_dt (by omega), decide_eq_true h1, Bool.true_and]
    by_cases h2 : r.length ≤ 200
    · rw [cond_dt (by omega), decide_eq_true h2, Bool.true_and, isPlain_eq _ c hc (by simp) rfl, Option.bind_some]
      cases plainB [35, 64] c with
      | false => rfl
      | true => rw [isPlain_eq _ r hr (by simp) rfl]; rfl
    · rw [cond_df (by omega), decide_eq_false h2]; rfl
  · rw [cond_df (by omega), decide_eq_false h1]; rfl
theorem l27Plain_eq (l : List UInt8) (m : Nat) (hl : l.length ≤ 1000000000) : spec_l27Plain (bs l) (m : Int) = some (plainB [35] l && decide (l.length ≤ m)) := by
  unfold spec_l27Plain
  have H : iter (fun s => spec_l27Plain_loop1 (bs l) s) (0 : Int) = some (if l.all (fun b => decide (32 ≤ b.toNat) && decide (b.toNat ≤ 126) && ![(35 : UInt8)].contains b) then (Sum.inr () : Unit ⊕ Unit) else Sum.inl ()) :=
    iter_all l (fun b => decide (32 ≤ b.toNat) && decide (b.toNat ≤ 126) && ![(35 : UInt8)].contains b) 0 (fun k => (k : Int)) (fun k hk => by
      show spec_l27Plain_loop1 (bs l) (k : Int) = _
      unfold spec_l27Plain_loop1
      rw [cond_dt (by rw [bs_size]; omega), grd_pos (by rw [bs_size]; omega), bAt_bs, Int.toNat_natCast, w64_nat (by omega)]
      generalize l.getD k 0 = x
      have hb := x.toNat_lt
      rw [w64_id (by omega) (by omega), l1In_eq, Option.bind_some]
      by_cases h1 : (32 : Int) ≤ (x.toNat : Int) ∧ (x.toNat : Int) ≤ 126
      · rw [cond_ndt h1, grd_pos (by rw [bs_size]; omega)]
        have e1 : 32 ≤ x.toNat := by omega
        have e2 : x.toNat ≤ 126 := by omega
        by_cases h2 : (x.toNat : Int) = 35
        · rw [cond_dt h2]
          have e3 : x = 35 := UInt8.toNat_inj.1 (by show _ = 35; omega)
          rw [e3]; rfl
        · rw [cond_df h2]
          have e3 : x ≠ 35 := fun e => h2 (by rw [e]; rfl)
          simp [e1, e2, e3]
      · rw [cond_ndf h1]
        by_cases e1 : 32 ≤ x.toNat
        · have e2 : ¬ x.toNat ≤ 126 := by omega
          simp [e2]
        · simp [e1]) (by
      show spec_l27Plain_loop1 (bs l) (l.length : Int) = _
      unfold spec_l27Plain_loop1
      rw [cond_df (by rw [bs_size]; omega)]) rfl
  rw [H, Option.bind_some]
  change _ = some ((l.all (fun b => decide (32 ≤ b.toNat) && decide (b.toNat ≤ 126) && ![(35 : UInt8)].contains b)) && _)
  cases (l.all (fun b => decide (32 ≤ b.toNat) && decide (b.toNat ≤ 126) && ![(35 : UInt8)].contains b)) with
  | false => rfl
  | true =>
    rw [if_pos rfl, Sum.elim_inr, bs_size, Bool.true_and]
    refine congrArg some ?_
    rw [Bool.eq_iff_iff]; simp
theorem stands_eq (l : List UInt8) (c : UInt8) (hl : l.length ≤ 1000000000) : spec_l1Stands (bs l) (c.toNat : Int) = some (decide (c ∈ l)) := by
  unfold spec_l1Stands
  obtain ⟨r, e, hr⟩ := iter_ex (f := fun s => spec_l1Stands_loop1 (bs l) (c.toNat : Int) s) (miss := (Sum.inr () : Unit ⊕ Unit)) l.length (fun k => decide (l.getD k 0 = c)) (fun _ => Sum.inl ()) (fun k => (k : Int)) (fun k hk => by
      show spec_l1Stands_loop1 (bs l) (c.toNat : Int) (k : Int) = _
      unfold spec_l1Stands_loop1
      rw [cond_dt (by rw [bs_size]; omega), grd_pos (by rw [bs_size]; omega), w64_nat (by omega), bAt_bs, Int.toNat_natCast]
      by_cases he : l.getD k 0 = c
      · rw [cond_dt (by rw [he]), decide_eq_true he]; rfl
      · rw [cond_df (fun h => he (UInt8.toNat_inj.1 (by omega))), decide_eq_false he]; rfl) (by
      show spec_l1Stands_loop1 (bs l) (c.toNat : Int) (l.length : Int) = _
      unfold spec_l1Stands_loop1
      rw [cond_df (by rw [bs_size]; omega)]) (s := (0 : Int)) rfl
  rw [e, Option.bind_some]
  rcases hr with ⟨k, hk, hp, _, rfl⟩ | ⟨hn, rfl⟩
  · have : c ∈ l := by
      have := of_decide_eq_true hp
      rw [getD_eq _ _ _ hk] at this
      rw [← this]; exact List.getElem_mem hk
    rw [decide_eq_true this]; rfl
  · have : c ∉ l := fun hm => by
      obtain ⟨i, hi, he⟩ := List.getElem_of_mem hm
      have := hn i hi
      rw [getD_eq _ _ _ hi] at this
      exact absurd he (of_decide_eq_false this)
    rw [decide_eq_false this]; rfl
theorem plain_two (l : List UInt8) : plainB [35, 64] l = (plainB [35] l && !decide ((64 : UInt8) ∈ l)) := by
  rw [Bool.eq_iff_iff]
  unfold plainB
  simp only [List.all_eq_true, Bool.and_eq_true, Bool.not_eq_true', decide_eq_true_eq, decide_eq_false_iff_not]
  constructor
  · intro h
    refine ⟨fun b hb => ⟨(h b hb).1, ?_⟩, fun hm => ?_⟩
    · have := (h b hb).2
      simp at this ⊢; exact this.1
    · have := (h 64 hm).2
      simp at this
  · rintro ⟨h1, h2⟩ b hb
    refine ⟨(h1 b hb).1, ?_⟩
    have := (h1 b hb).2
    simp at this ⊢
    exact ⟨this, fun e => h2 (e ▸ hb)⟩
theorem good_eq (c r : List UInt8) (hc : c.length ≤ 1000000000) (hr : r.length ≤ 1000000000) : spec_l27Good (bs c, bs r, ()) = some (goodB c r) := by
  unfold spec_l27Good
  rw [show (ByteArray.mk #[]) = bs [] from rfl]
  simp only [show ((160 : Int)) = ((160 : Nat) : Int) from rfl, show ((200 : Int)) = ((200 : Nat) : Int) from rfl, show ((64 : Int)) = (((64 : UInt8).toNat : Nat) : Int) from rfl, l27Plain_eq c _ hc, l27Plain_eq r _ hr, stands_eq c 64 hc, Option.bind_some]
  unfold goodB
  rw [plain_two]
  by_cases h0 : c = []
  · rw [cond_ndt (bs_inj.2 h0)]
    subst h0; rfl
  · rw [cond_ndf (fun h => h0 (bs_inj.1 h))]
    have hpos : 1 ≤ c.length := List.length_pos_iff.2 h0
    by_cases h1 : c.length ≤ 160
    · have e1 : decide (1 ≤ c.length ∧ c.length ≤ 160) = true := decide_eq_true ⟨hpos, h1⟩
      rw [e1, decide_eq_true h1]
      cases plainB [35] c <;> cases plainB [35] r <;> by_cases h2 : (64 : UInt8) ∈ c <;> by_cases h3 : r.length ≤ 200 <;> simp [h2, h3]
    · have e1 : decide (1 ≤ c.length ∧ c.length ≤ 160) = false := decide_eq_false (fun h => h1 h.2)
      rw [e1, decide_eq_false h1]; simp
theorem szRecord_ex (a : LogRecord) (n : Int) : ∃ y, laws_szLogRecord a n = some y := by
  unfold laws_szLogRecord
  by_cases h1 : (w64 (n - (a.1.size : Int))) < 0
  · rw [cond_dt h1]; exact ⟨_, rfl⟩
  · rw [cond_df h1]
    by_cases h2 : (w64 ((w64 (n - (a.1.size : Int))) - (a.2.1.size : Int))) < 0
    · rw [cond_dt h2]; exact ⟨_, rfl⟩
    · rw [cond_df h2]; exact ⟨_, rfl⟩
theorem law_FnExactIsValidRecord (a : LogRecord) (ha : Ty.fit ty_LogRecord a) : laws_FnExactIsValidRecord a = some true := by
  obtain ⟨c0, r0, u⟩ := a
  obtain ⟨c, rfl⟩ := bs_ex c0
  obtain ⟨r, rfl⟩ := bs_ex r0
  have hc : c.length ≤ 1048576 := by rw [← bs_size]; exact ha.1
  have hr : r.length ≤ 1048576 := by rw [← bs_size]; exact ha.2.1
  obtain ⟨y, hy⟩ := szRecord_ex (bs c, bs r, ()) 1048576
  have e1 : spec_IsValidRecord (bs c, bs r, ()) = some (goodB c r) := by
    unfold spec_IsValidRecord
    simp only [good_eq c r (by omega) (by omega), Option.bind_some]
  unfold laws_FnExactIsValidRecord
  simp only [hy, Option.bind_some]
  by_cases h0 : y < 0
  · rw [cond_dt h0]
  · rw [cond_df h0]
    simp only [laws_toLogRecord, Option.bind_some, e1, isValid_eq c r (by omega) (by omega), Bool.not_true, cond_false, beq_self_eq_true]
end Go.Proofs.Ytpfdhaldjeedfaa
