/-
  Plain laws of the wind rules: what the two texts compute is the same.
-/
import Derived.Test.YtplknllbpdookaaC2
import Derived.Test.YtplknllbpdookaaL1
import Derived.Test.YtplknllbpdookaaO1
namespace Go.Proofs.Ytplknllbpdookaa
open Go.RowKit

theorem toIntS_eq (l : List Int) (h : l.length ≤ 1048576) : laws_toIntS l = some l := by
  unfold laws_toIntS
  rw [grd_pos (by omega)]
  have H : iter (fun s => laws_toIntS_loop1 l s.1 s.2) ((0 : Int), (List.replicate (l.length : Int).toNat (0 : Int))) = some l :=
    iter_copy l 0 0 (fun k m hk hm => by
      show laws_toIntS_loop1 l (k : Int) m = _
      unfold laws_toIntS_loop1
      rw [cond_dt (by omega), grd_pos (by omega), grd_pos (by omega), w64_nat (by omega)]
      rfl) (by
      show laws_toIntS_loop1 l (l.length : Int) l = _
      unfold laws_toIntS_loop1
      rw [cond_df (by omega)]) rfl
  rw [H]; rfl
theorem eqIntS_eq (l : List Int) (h : l.length ≤ 1048576) : laws_eqIntS l l = some true := by
  unfold laws_eqIntS
  rw [cond_ndt rfl]
  have H : iter (fun s => laws_eqIntS_loop1 l l s) (0 : Int) = some (Sum.inr ()) :=
    iter_for l.length (fun k => (k : Int)) (fun k hk => by
      show laws_eqIntS_loop1 l l (k : Int) = _
      unfold laws_eqIntS_loop1
      rw [cond_dt (by omega), grd_pos (by omega), grd_pos (by omega), cond_ndt rfl, w64_nat (by omega)]) (by
      show laws_eqIntS_loop1 l l (l.length : Int) = _
      unfold laws_eqIntS_loop1
      rw [cond_df (by omega)]) rfl
  rw [H]; rfl
theorem l1In_eq (a lo hi : Int) : spec_l1In a lo hi = some (decide (lo ≤ a ∧ a ≤ hi)) := by
  unfold spec_l1In
  by_cases h : lo ≤ a
  · rw [cond_dt h]; simp [h]
  · rw [cond_df h]; simp [h]
theorem within_eq (a lo hi : Int) : impl_within a lo hi = some (decide (lo ≤ a ∧ a ≤ hi)) := by
  unfold impl_within
  by_cases h : lo ≤ a
  · rw [cond_dt h]; simp [h]
  · rw [cond_df h]; simp [h]
def voteOk (x : Int) : Bool := decide ((0 : Int) ≤ x ∧ x ≤ 60)
theorem l12Votes_eq (l : List Int) (h : l.length ≤ 1048576) : spec_l12Votes l = some (l.all voteOk && decide ((l.length : Int) ≤ 50)) := by
  unfold spec_l12Votes
  have H : iter (fun s => spec_l12Votes_loop1 l s) (0 : Int) = some (if l.all voteOk then Sum.inr () else Sum.inl ()) :=
    iter_all l voteOk 0 (fun k => (k : Int)) (fun k hk => by
      show spec_l12Votes_loop1 l (k : Int) = _
      unfold spec_l12Votes_loop1
      rw [cond_dt (by omega), grd_pos (by omega), w64_nat (by omega)]
      show (spec_l12Vote (l.getD k 0)).bind _ = _
      unfold spec_l12Vote
      rw [l1In_eq]
      show cond (!voteOk (l.getD k 0)) _ _ = _
      cases voteOk (l.getD k 0) <;> rfl) (by
      show spec_l12Votes_loop1 l (l.length : Int) = _
      unfold spec_l12Votes_loop1
      rw [cond_df (by omega)]) rfl
  rw [H]; cases l.all voteOk <;> rfl
theorem allIn_eq (l : List Int) (h : l.length ≤ 1048576) : impl_allIn l 0 60 = some (l.all voteOk) := by
  unfold impl_allIn
  have H : iter (fun s => impl_allIn_loop1 l 0 60 s) (0 : Int) = some (if l.all voteOk then Sum.inr () else Sum.inl ()) :=
    iter_all l voteOk 0 (fun k => (k : Int)) (fun k hk => by
      show impl_allIn_loop1 l 0 60 (k : Int) = _
      unfold impl_allIn_loop1
      rw [cond_dt (by omega), grd_pos (by omega), w64_nat (by omega)]
      show (impl_within (l.getD k 0) 0 60).bind _ = _
      rw [within_eq]
      show cond (!voteOk (l.getD k 0)) _ _ = _
      cases voteOk (l.getD k 0) <;> rfl) (by
      show impl_allIn_loop1 l 0 60 (l.length : Int) = _
      unfold impl_allIn_loop1
      rw [cond_df (by omega)]) rfl
  rw [H]; cases l.all voteOk <;> rfl
theorem areVotes_eq (l : List Int) (h : l.length ≤ 1048576) : impl_areVotes l = some (l.all voteOk && decide ((l.length : Int) ≤ 50)) := by
  unfold impl_areVotes
  by_cases h5 : (l.length : Int) ≤ 50
  · rw [cond_dt h5, allIn_eq l h]; simp [h5]
  · rw [cond_df h5]; simp [h5]

def ruleOk (a : WindRule) : Bool := decide ((2 : Int) ≤ a.1 ∧ a.1 < a.2.1 ∧ a.2.1 ≤ 60 ∧ 1 ≤ a.2.2.1 ∧ a.2.2.1 ≤ a.1 - 1 ∧ 1 ≤ a.2.2.2.1 ∧ a.2.2.2.1 ≤ 10)
theorem l12Rule_eq (a : WindRule) : spec_l12Rule a = some (ruleOk a) := by
  obtain ⟨on, stop, drop, calm, u⟩ := a
  simp only [spec_l12Rule, l1In_eq, Option.bind_some, Bool.cond_decide, w64, IntKind.wrap_i64, ruleOk]
  repeat' split
  all_goals refine congrArg some ?_
  all_goals first
    | exact (decide_eq_false (by omega)).symm
    | (apply decide_eq_decide.2; omega)
theorem isWindRule_eq (a : WindRule) : impl_IsWindRule a = some (ruleOk a) := by
  obtain ⟨on, stop, drop, calm, u⟩ := a
  simp only [impl_IsWindRule, within_eq, Option.bind_some, Bool.cond_decide, w64, IntKind.wrap_i64, ruleOk]
  repeat' split
  all_goals refine congrArg some ?_
  all_goals first
    | exact (decide_eq_false (by omega)).symm
    | (apply decide_eq_decide.2; omega)

theorem next_ok (a : WindRule) (lv cm v : Int) (h : lv = 0 → cm = 0) : ∃ y : WindState, spec_l12Next a (lv, cm, ()) v = some y ∧ impl_WindRule_next a (lv, cm, ()) v = some y ∧ (y.1 = 0 → y.2.1 = 0) := by
  obtain ⟨on, stop, drop, calm, u⟩ := a
  unfold spec_l12Next impl_WindRule_next
  simp only [Bool.cond_decide]
  by_cases h1 : stop ≤ v
  · by_cases h2 : lv = 2 <;> simp [h1, h2]
  · by_cases h2 : lv = 0
    · have := h h2
      subst h2 this
      by_cases h3 : on ≤ v <;> simp [h1, h3]
    · by_cases h4 : lv = 2
      · subst h4
        by_cases h5 : w64 (stop - drop) ≤ v <;> by_cases h6 : w64 (cm + 1) = calm <;> simp [h1, h5, h6]
      · by_cases h5 : w64 (on - drop) ≤ v <;> by_cases h6 : w64 (cm + 1) = calm <;> simp [h1, h2, h4, h5, h6]
theorem run_ok (a : WindRule) (l : List Int) (h : l.length ≤ 1048576) : ∃ y, spec_l12Run a (0, 0, ()) l = some y ∧ impl_WindRule_run a (0, 0, ()) l = some y ∧ y.1.length = l.length := by
  obtain ⟨r, r', e1, e2, rfl, hn⟩ := iter_rel (f := fun s => spec_l12Run_loop1 a l s.1 s.2.1 s.2.2.1 s.2.2.2) (g := fun s => impl_WindRule_run_loop1 a l s.1 s.2.1 s.2.2.1 s.2.2.2)
    (fun (k : Nat) s t => ∃ (lv cm : Int) (acc : List Int), s = ((k : Int), lv, cm, acc) ∧ t = ((k : Int), lv, cm, acc) ∧ acc.length = k ∧ (lv = 0 → cm = 0))
    (fun r r' => r = r' ∧ r.2.2.length = l.length) l.length
    (by
      rintro k _ _ hk ⟨lv, cm, acc, rfl, rfl, hac, hlv⟩
      refine .inl ?_
      obtain ⟨⟨lv', cm', u⟩, n1, n2, n3⟩ := next_ok a lv cm (l.getD k 0) hlv
      refine ⟨_, _, ?_, ?_, lv', cm', acc ++ [lv'], rfl, rfl, by simp [hac], n3⟩
      · show spec_l12Run_loop1 a l (k : Int) lv cm acc = _
        unfold spec_l12Run_loop1
        rw [cond_dt (by omega), grd_pos (by omega), w64_nat (by omega)]
        show (spec_l12Next a (lv, cm, ()) (l.getD k 0)).bind _ = _
        rw [n1, Option.bind_some, grd_pos (by simp; omega)]
      · show impl_WindRule_run_loop1 a l (k : Int) lv cm acc = _
        unfold impl_WindRule_run_loop1
        rw [cond_dt (by omega), grd_pos (by omega), w64_nat (by omega)]
        show (impl_WindRule_next a (lv, cm, ()) (l.getD k 0)).bind _ = _
        rw [n2, Option.bind_some, grd_pos (by simp; omega)])
    (by
      rintro _ _ ⟨lv, cm, acc, rfl, rfl, hac, hlv⟩
      refine ⟨(lv, cm, acc), (lv, cm, acc), ?_, ?_, rfl, hac⟩
      · show spec_l12Run_loop1 a l (l.length : Int) lv cm acc = _
        unfold spec_l12Run_loop1
        rw [cond_df (by omega)]
      · show impl_WindRule_run_loop1 a l (l.length : Int) lv cm acc = _
        unfold impl_WindRule_run_loop1
        rw [cond_df (by omega)])
    (s := ((0 : Int), 0, 0, [])) (t := ((0 : Int), 0, 0, [])) ⟨0, 0, [], rfl, rfl, rfl, fun _ => rfl⟩
  refine ⟨(r.2.2, (r.1, r.2.1, ())), ?_, ?_, hn⟩
  · unfold spec_l12Run; rw [e1]; rfl
  · unfold impl_WindRule_run; rw [e2]; rfl

theorem timeStopped_ok (a : WindRule) (l : List Int) (h : l.length ≤ 1048576) : ∃ y, spec_TimeStopped a l = some y ∧ impl_TimeStopped a l = some y := by
  unfold spec_TimeStopped impl_TimeStopped
  rw [l12Rule_eq, isWindRule_eq, l12Votes_eq l h, areVotes_eq l h]
  obtain ⟨⟨m, st⟩, r1, r2, hm⟩ := run_ok (a.1, a.2.1, a.2.2.1, a.2.2.2.1, ()) l h
  have hm : m.length = l.length := hm
  rw [r1, r2]
  simp only [Option.bind_some]
  cases ruleOk (a.1, a.2.1, a.2.2.1, a.2.2.2.1, ())
  · exact ⟨_, rfl, rfl⟩
  cases l.all voteOk && decide ((l.length : Int) ≤ 50)
  · exact ⟨_, rfl, rfl⟩
  obtain ⟨r, r', e1, e2, rfl⟩ := iter_rel (f := fun s => spec_TimeStopped_loop1 s.1 s.2.1 s.2.2) (g := fun s => impl_TimeStopped_loop1 s.1 s.2.1 s.2.2.1 s.2.2.2)
    (fun (k : Nat) s t => ∃ c : Int, s = (c, (k : Int), m) ∧ t = (c, (m.length : Int), (k : Int), m)) (fun r r' => r = r') m.length
    (by
      rintro k _ _ hk ⟨c, rfl, rfl⟩
      refine .inl ?_
      by_cases h2 : m.getD k 0 = 2
      · refine ⟨_, _, ?_, ?_, w64 (c + 1), rfl, rfl⟩
        · show spec_TimeStopped_loop1 c (k : Int) m = _
          unfold spec_TimeStopped_loop1
          rw [cond_dt (by omega), grd_pos (by omega), Int.toNat_natCast, cond_dt h2, w64_nat (by omega)]
        · show impl_TimeStopped_loop1 c (m.length : Int) (k : Int) m = _
          unfold impl_TimeStopped_loop1
          rw [cond_dt (by omega), grd_pos (by omega), Int.toNat_natCast, cond_dt h2, w64_nat (by omega)]
      · refine ⟨_, _, ?_, ?_, c, rfl, rfl⟩
        · show spec_TimeStopped_loop1 c (k : Int) m = _
          unfold spec_TimeStopped_loop1
          rw [cond_dt (by omega), grd_pos (by omega), Int.toNat_natCast, cond_df h2, w64_nat (by omega)]
        · show impl_TimeStopped_loop1 c (m.length : Int) (k : Int) m = _
          unfold impl_TimeStopped_loop1
          rw [cond_dt (by omega), grd_pos (by omega), Int.toNat_natCast, cond_df h2, w64_nat (by omega)])
    (by
      rintro _ _ ⟨c, rfl, rfl⟩
      refine ⟨c, c, ?_, ?_, rfl⟩
      · show spec_TimeStopped_loop1 c (m.length : Int) m = _
        unfold spec_TimeStopped_loop1
        rw [cond_df (by omega)]
      · show impl_TimeStopped_loop1 c (m.length : Int) (m.length : Int) m = _
        unfold impl_TimeStopped_loop1
        rw [cond_df (by omega)])
    (s := ((0 : Int), (0 : Int), m)) (t := ((0 : Int), (m.length : Int), (0 : Int), m)) ⟨0, rfl, rfl⟩
  simp only [e1, e2]
  exact ⟨_, rfl, rfl⟩
theorem law_FnExactTimeStopped (a : WindRule) (l : List Int) (_ : Ty.fit ty_WindRule a) (hl : Ty.fit (.sl (.int .i64)) l) : laws_FnExactTimeStopped a l = some true := by
  have h : l.length ≤ 1048576 := hl.1
  obtain ⟨on, stop, drop, calm, u⟩ := a
  obtain ⟨y, e1, e2⟩ := timeStopped_ok (on, stop, drop, calm, ()) l h
  unfold laws_FnExactTimeStopped
  rw [cond_df (by omega)]
  simp only [laws_toWindRule, toIntS_eq l h, eqIntS_eq l h, Option.bind_some, e1, e2, decide_true, Bool.not_true, cond_false, beq_self_eq_true]

theorem compareRules_ok (a b : WindRule) (l : List Int) (h : l.length ≤ 1048576) : ∃ y, spec_CompareRules a b l = some y ∧ impl_CompareRules a b l = some y := by
  unfold spec_CompareRules impl_CompareRules
  rw [l12Rule_eq, isWindRule_eq, l12Rule_eq, isWindRule_eq, l12Votes_eq l h, areVotes_eq l h]
  obtain ⟨⟨m, st⟩, r1, r2, hm⟩ := run_ok (a.1, a.2.1, a.2.2.1, a.2.2.2.1, ()) l h
  obtain ⟨⟨m', st'⟩, r1', r2', hm'⟩ := run_ok (b.1, b.2.1, b.2.2.1, b.2.2.2.1, ()) l h
  rw [r1, r2, r1', r2']
  simp only [Option.bind_some]
  cases ruleOk (a.1, a.2.1, a.2.2.1, a.2.2.2.1, ())
  · exact ⟨_, rfl, rfl⟩
  cases ruleOk (b.1, b.2.1, b.2.2.1, b.2.2.2.1, ())
  · exact ⟨_, rfl, rfl⟩
  cases l.all voteOk && decide ((l.length : Int) ≤ 50)
  · exact ⟨_, rfl, rfl⟩
  have hm : m.length = l.length := hm
  have hm' : m'.length = l.length := hm'
  obtain ⟨r, r', e1, e2, rfl⟩ := iter_rel (f := fun s => spec_CompareRules_loop1 s.1 s.2.1 s.2.2.1 s.2.2.2) (g := fun s => impl_CompareRules_loop1 s.1 s.2.1 s.2.2.1 s.2.2.2.1 s.2.2.2.2)
    (fun (k : Nat) s t => ∃ c : Int, s = (c, (k : Int), m, m') ∧ t = (c, (m.length : Int), (k : Int), m, m')) (fun r r' => r = r') m.length
    (by
      rintro k _ _ hk ⟨c, rfl, rfl⟩
      refine .inl ?_
      by_cases h2 : m'.getD k 0 < m.getD k 0
      · refine ⟨_, _, ?_, ?_, w64 (c + 1), rfl, rfl⟩
        · show spec_CompareRules_loop1 c (k : Int) m m' = _
          unfold spec_CompareRules_loop1
          rw [cond_dt (by omega), grd_pos (by omega), grd_pos (by omega), Int.toNat_natCast, cond_dt h2, w64_nat (by omega)]
        · show impl_CompareRules_loop1 c (m.length : Int) (k : Int) m m' = _
          unfold impl_CompareRules_loop1
          rw [cond_dt (by omega), grd_pos (by omega), grd_pos (by omega), Int.toNat_natCast, cond_dt h2, w64_nat (by omega)]
      · refine ⟨_, _, ?_, ?_, c, rfl, rfl⟩
        · show spec_CompareRules_loop1 c (k : Int) m m' = _
          unfold spec_CompareRules_loop1
          rw [cond_dt (by omega), grd_pos (by omega), grd_pos (by omega), Int.toNat_natCast, cond_df h2, w64_nat (by omega)]
        · show impl_CompareRules_loop1 c (m.length : Int) (k : Int) m m' = _
          unfold impl_CompareRules_loop1
          rw [cond_dt (by omega), grd_pos (by omega), grd_pos (by omega), Int.toNat_natCast, cond_df h2, w64_nat (by omega)])
    (by
      rintro _ _ ⟨c, rfl, rfl⟩
      refine ⟨c, c, ?_, ?_, rfl⟩
      · show spec_CompareRules_loop1 c (m.length : Int) m m' = _
        unfold spec_CompareRules_loop1
        rw [cond_df (by omega)]
      · show impl_CompareRules_loop1 c (m.length : Int) (m.length : Int) m m' = _
        unfold impl_CompareRules_loop1
        rw [cond_df (by omega)])
    (s := ((0 : Int), (0 : Int), m, m')) (t := ((0 : Int), (m.length : Int), (0 : Int), m, m')) ⟨0, rfl, rfl⟩
  simp only [e1, e2]
  exact ⟨_, rfl, rfl⟩
theorem law_FnExactCompareRules (a b : WindRule) (l : List Int) (_ : Ty.fit ty_WindRule a) (_ : Ty.fit ty_WindRule b) (hl : Ty.fit (.sl (.int .i64)) l) : laws_FnExactCompareRules a b l = some true := by
  have h : l.length ≤ 1048576 := hl.1
  obtain ⟨on, stop, drop, calm, u⟩ := a
  obtain ⟨on', stop', drop', calm', u'⟩ := b
  obtain ⟨y, e1, e2⟩ := compareRules_ok (on, stop, drop, calm, ()) (on', stop', drop', calm', ()) l h
  unfold laws_FnExactCompareRules
  rw [cond_df (by omega)]
  simp only [laws_toWindRule, toIntS_eq l h, eqIntS_eq l h, Option.bind_some, e1, e2, decide_true, Bool.not_true, cond_false, beq_self_eq_true]

end Go.Proofs.Ytplknllbpdookaa
