/-
  Plain laws of the wind rules: what the two texts compute is the same.
-/
import Derived.Test.YtplknllbpdookaaC7
import Derived.Test.YtplknllbpdookaaL2
import Derived.Test.YtplknllbpdookaaO1
namespace Go.Proofs.Ytplknllbpdookaa
open Go.RowKit

theorem toIntS_eq (l : List Int) (h : l.length ≤ 1048576) : laws_toIntS l = some l := by
  unfold laws_toIntS
  rw [grd_pos (by omega)]
  have H : iter (fun s => laws_toIntS_loop1 l s.1 s.2) ((0 : Int), (List.replicate (l.length : Int).toNat (0 : Int))) = some l :=
    iter_copy l 0 0 (fun k m hk hm => by
      show laws_toIntS_loop1 l (k : Int) m = _
      unfold laws_toIntS_loop1
      rw [cond_dt (by omega), grd_pos (by omega), grd_pos (by omega), w64_nat (by omega)]
      rfl) (by
      show laws_toIntS_loop1 l (l.length : Int) l = _
      unfold laws_toIntS_loop1
      rw [cond_df (by omega)]) rfl
  rw [H]; rfl
theorem eqIntS_eq (l : List Int) (h : l.length ≤ 1048576) : laws_eqIntS l l = some true := by
  unfold laws_eqIntS
  rw [cond_ndt rfl]
  have H : iter (fun s => laws_eqIntS_loop1 l l s) (0 : Int) = some (Sum.inr ()) :=
    iter_for l.length (fun k => (k : Int)) (fun k hk => by
      show laws_eqIntS_loop1 l l (k : Int) = _
      unfold laws_eqIntS_loop1
      rw [cond_dt (by omega), grd_pos (by omega), grd_pos (by omega), cond_ndt rfl, w64_nat (by omega)]) (by
      show laws_eqIntS_loop1 l l (l.length : Int) = _
      unfold laws_eqIntS_loop1
      rw [cond_df (by omega)]) rfl
  rw [H]; rfl
theorem l1In_eq (a lo hi : Int) : spec_l1In a lo hi = some (decide (lo ≤ a ∧ a ≤ hi)) := by
  unfold spec_l1In
  by_cases h : lo ≤ a
  · rw [cond_dt h]; simp [h]
  · rw [cond_df h]; simp [h]
theorem within_eq (a lo hi : Int) : impl_within a lo hi = some (decide (lo ≤ a ∧ a ≤ hi)) := by
  unfold impl_within
  by_cases h : lo ≤ a
  · rw [cond_dt h]; simp [h]
  · rw [cond_df h]; simp [h]
def voteOk (x : Int) : Bool := decide ((0 : Int) ≤ x ∧ x ≤ 60)
theorem l12Votes_eq (l : List Int) (h : l.length ≤ 1048576) : spec_l12Votes l = some (l.all voteOk && decide ((l.length : Int) ≤ 50)) := by
  unfold spec_l12Votes
  have H : iter (fun s => spec_l12Votes_loop1 l s) (0 : Int) = some (if l.all voteOk then Sum.inr () else Sum.inl ()) :=
    iter_all l voteOk 0 (fun k => (k : Int)) (fun k hk => by
      show spec_l12Votes_loop1 l (k : Int) = _
      unfold spec_l12Votes_loop1
      rw [cond_dt (by omega), grd_pos (by omega), w64_nat (by omega)]
      show (spec_l12Vote (l.getD k 0)).bind _ = _
      unfold spec_l12Vote
      rw [l1In_eq]
      show cond (!voteOk (l.getD k 0)) _ _ = _
      cases voteOk (l.getD k 0) <;> rfl) (by
      show spec_l12Votes_loop1 l (l.length : Int) = _
      unfold spec_l12Votes_loop1
      rw [cond_df (by omega)]) rfl
  rw [H]; cases l.all voteOk <;> rfl
theorem allIn_eq (l : List Int) (h : l.length ≤ 1048576) : impl_allIn l 0 60 = some (l.all voteOk) := by
  unfold impl_allIn
  have H : iter (fun s => impl_allIn_loop1 l 0 60 s) (0 : Int) = some (if l.all voteOk then Sum.inr () else Sum.inl ()) :=
    iter_all l voteOk 0 (fun k => (k : Int)) (fun k hk => by
      show impl_allIn_loop1 l 0 60 (k : Int) = _
      unfold impl_allIn_loop1
      rw [cond_dt (by omega), grd_pos (by omega), w64_nat (by omega)]
      show (impl_within (l.getD k 0) 0 60).bind _ = _
      rw [within_eq]
      show cond (!voteOk (l.getD k 0)) _ _ = _
      cases voteOk (l.getD k 0) <;> rfl) (by
      show impl_allIn_loop1 l 0 60 (l.length : Int) = _
      unfold impl_allIn_loop1
      rw [cond_df (by omega)]) rfl
  rw [H]; cases l.all voteOk <;> rfl
theorem areVotes_eq (l : List Int) (h : l.length ≤ 1048576) : impl_areVotes l = some (l.all voteOk && decide ((l.length : Int) ≤ 50)) := by
  unfold impl_areVotes
  by_cases h5 : (l.length : Int) ≤ 50
  · rw [cond_dt h5, allIn_eq l h]; simp [h5]
  · rw [cond_df h5]; simp [h5]

def ruleOk (a : WindRule) : Bool := decide ((2 : Int) ≤ a.1 ∧ a.1 < a.2.1 ∧ a.2.1 ≤ 60 ∧ 1 ≤ a.2.2.1 ∧ a.2.2.1 ≤ a.1 - 1 ∧ 1 ≤ a.2.2.2.1 ∧ a.2.2.2.1 ≤ 10)
theorem l12Rule_eq (a : WindRule) : spec_l12Rule a = some (ruleOk a) := by
  obtain ⟨on, stop, drop, calm, u⟩ := a
  simp only [spec_l12Rule, l1In_eq, Option.bind_some, Bool.cond_decide, w64, IntKind.wrap_i64, ruleOk]
  repeat' split
  all_goals refine congrArg some ?_
  all_goals first
    | exact (decide_eq_false (by omega)).symm
    | (apply decide_eq_decide.2; omega)
theorem isWindRule_eq (a : WindRule) : impl_IsWindRule a = some (ruleOk a) := by
  obtain ⟨on, stop, drop, calm, u⟩ := a
  simp only [impl_IsWindRule, within_eq, Option.bind_some, Bool.cond_decide, w64, IntKind.wrap_i64, ruleOk]
  repeat' split
  all_goals refine congrArg some ?_
  all_goals first
    | exact (decide_eq_false (by omega)).symm
    | (apply decide_eq_decide.2; omega)

theorem next_ok (a : WindRule) (lv cm v : Int) (h : lv = 0 → cm = 0) : ∃ y : WindState, spec_l12Next a (lv, cm, ()) v = some y ∧ impl_WindRule_next a (lv, cm, ()) v = some y ∧ (y.1 = 0 → y.2.1 = 0) := by
  obtain ⟨on, stop, drop, calm, u⟩ := a
  unfold spec_l12Next impl_WindRule_next
  simp only [Bool.cond_decide]
  by_cases h1 : stop ≤ v
  · by_cases h2 : lv = 2 <;> simp [h1, h2]
  · by_cases h2 : lv = 0
    · have := h h2
      subst h2 this
      by_cases h3 : on ≤ v <;> simp [h1, h3]
    · by_cases h4 : lv = 2
      · subst h4
        by_cases h5 : w64 (stop - drop) ≤ v <;> by_cases h6 : w64 (cm + 1) = calm <;> simp [h1, h5, h6]
      · by_cases h5 : w64 (on - drop) ≤ v <;> by_cases h6 : w64 (cm + 1) = calm <;> simp [h1, h2, h4, h5, h6]
theorem run_ok (a : WindRule) (l : List Int) (h : l.length ≤ 1048576) (lv0 cm0 : Int) (h0 : lv0 = 0 → cm0 = 0) : ∃ y, spec_l12Run a (lv0, cm0, ()) l = some y ∧ impl_WindRule_run a (lv0, cm0, ()) l = some y ∧ y.1.length = l.length := by
  obtain ⟨r, r', e1, e2, rfl, hn⟩ := iter_rel (f := fun s => spec_l12Run_loop1 a l s.1 s.2.1 s.2.2.1 s.2.2.2) (g := fun s => impl_WindRule_run_loop1 a l s.1 s.2.1 s.2.2.1 s.2.2.2)
    (fun (k : Nat) s t => ∃ (lv cm : Int) (acc : List Int), s = ((k : Int), lv, cm, acc) ∧ t = ((k : Int), lv, cm, acc) ∧ acc.length = k ∧ (lv = 0 → cm = 0))
    (fun r r' => r = r' ∧ r.2.2.length = l.length) l.length
    (by
      rintro k _ _ hk ⟨lv, cm, acc, rfl, rfl, hac, hlv⟩
      refine .inl ?_
      obtain ⟨⟨lv', cm', u⟩, n1, n2, n3⟩ := next_ok a lv cm (l.getD k 0) hlv
      refine ⟨_, _, ?_, ?_, lv', cm', acc ++ [lv'], rfl, rfl, by simp [hac], n3⟩
      · show spec_l12Run_loop1 a l (k : Int) lv cm acc = _
        unfold spec_l12Run_loop1
        rw [cond_dt (by omega), grd_pos (by omega), w64_nat (by omega)]
        show (spec_l12Next a (lv, cm, ()) (l.getD k 0)).bind _ = _
        rw [n1, Option.bind_some, grd_pos (by simp; omega)]
      · show impl_WindRule_run_loop1 a l (k : Int) lv cm acc = _
        unfold impl_WindRule_run_loop1
        rw [cond_dt (by omega), grd_pos (by omega), w64_nat (by omega)]
        show (impl_WindRule_next a (lv, cm, ()) (l.getD k 0)).bind _ = _
        rw [n2, Option.bind_some, grd_pos (by simp; omega)])
    (by
      rintro _ _ ⟨lv, cm, acc, rfl, rfl, hac, hlv⟩
      refine ⟨(lv, cm, acc), (lv, cm, acc), ?_, ?_, rfl, hac⟩
      · show spec_l12Run_loop1 a l (l.length : Int) lv cm acc = _
        unfold spec_l12Run_loop1
        rw [cond_df (by omega)]
      · show impl_WindRule_run_loop1 a l (l.length : Int) lv cm acc = _
        unfold impl_WindRule_run_loop1
        rw [cond_df (by omega)])
    (s := ((0 : Int), lv0, cm0, [])) (t := ((0 : Int), lv0, cm0, [])) ⟨lv0, cm0, [], rfl, rfl, rfl, h0⟩
  refine ⟨(r.2.2, (r.1, r.2.1, ())), ?_, ?_, hn⟩
  · unfold spec_l12Run; rw [e1]; rfl
  · unfold impl_WindRule_run; rw [e2]; rfl

theorem adv1_eq (n : Nat) (h : n ≤ 1048576) : advN (fun k => w64 (k + 1)) n 1 = 1 + (n : Int) := by
  have := advN_add (fun k => w64 (k + 1)) 1 4611686018427387904 (fun k h1 h2 => by
    show w64 (k + 1) = _
    rw [w64_id (by omega) (by omega)]; rfl) n 1 (by omega) (by omega)
  rw [this]; omega
theorem markIntS_eq (l : List Int) (h : l.length ≤ 1048576) : laws_markIntS l 1 = some (1 + (l.length : Int), marksL (fun k => w64 (k + 1)) (fun k => k) l.length 1) := by
  unfold laws_markIntS
  have H : iter (fun s => laws_markIntS_loop1 s.1 s.2.1 s.2.2) ((1 : Int), (0 : Int), l) = some (advN (fun k => w64 (k + 1)) l.length 1, marksL (fun k => w64 (k + 1)) (fun k => k) l.length 1) :=
    iter_mark _ _ l 1 (fun k i m hi hm => by
      show laws_markIntS_loop1 k (i : Int) m = _
      unfold laws_markIntS_loop1
      rw [cond_dt (by omega), grd_pos (by omega), w64_nat (by omega), Int.toNat_natCast]) (fun k m hm => by
      show laws_markIntS_loop1 k (m.length : Int) m = _
      unfold laws_markIntS_loop1
      rw [cond_df (by omega)])
  rw [H, adv1_eq _ h]; rfl
theorem heldIntS_eq (n : Nat) (h : n ≤ 1048576) : laws_heldIntS (marksL (fun k => w64 (k + 1)) (fun k => k) n 1) 1 = some (1 + (n : Int)) := by
  unfold laws_heldIntS
  have hl := marksL_length (fun k => w64 (k + 1)) (fun k : Int => k) n 1
  have H : iter (fun s => laws_heldIntS_loop1 (marksL (fun k => w64 (k + 1)) (fun k => k) n 1) s.1 s.2) ((1 : Int), (0 : Int)) = some (Sum.inr (advN (fun k => w64 (k + 1)) n 1)) :=
    iter_held _ (fun k => k) 0 n 1 (fun k i hi e => by
      show laws_heldIntS_loop1 _ k (i : Int) = _
      unfold laws_heldIntS_loop1
      rw [cond_dt (by omega), grd_pos (by omega), Int.toNat_natCast, cond_ndt e, w64_nat (by omega)]) (fun k => by
      show laws_heldIntS_loop1 _ k (n : Int) = _
      unfold laws_heldIntS_loop1
      rw [cond_df (by omega)])
  rw [H, adv1_eq _ h]; rfl
theorem markIntS_nil : laws_markIntS_i1 1 = some 1 := by
  unfold laws_markIntS_i1
  rw [show iter (fun _ : Unit => laws_markIntS_i1_loop1) () = some () from iter_out rfl]; rfl
theorem heldIntS_nil : laws_heldIntS [] 1 = some 1 := heldIntS_eq 0 (by omega)
theorem state_ok (a : WindRule) (lv cm : Int) : ∃ b, spec_l12State a (lv, cm, ()) = some b ∧ impl_windOk a (lv, cm, ()) = some b ∧ (b = true → lv = 0 → cm = 0) := by
  refine ⟨ruleOk a && decide (0 ≤ lv ∧ lv ≤ 2 ∧ 0 ≤ cm ∧ cm ≤ w64 (a.2.2.2.1 - 1) ∧ (lv = 0 → cm = 0)), ?_, ?_, fun h => ?_⟩
  · unfold spec_l12State
    rw [l12Rule_eq]
    simp only [l1In_eq, Option.bind_some]
    cases ruleOk a
    · rfl
    simp only [Bool.cond_decide, cond_true, Bool.true_and]
    repeat' split
    all_goals refine congrArg some ?_
    all_goals (rw [Bool.eq_iff_iff]; simp only [decide_eq_true_eq, true_iff, false_iff, Bool.false_eq_true]; omega)
  · unfold impl_windOk
    rw [isWindRule_eq]
    simp only [within_eq, Option.bind_some]
    cases ruleOk a
    · rfl
    simp only [Bool.cond_decide, cond_true, Bool.true_and, ← decide_not]
    repeat' split
    all_goals refine congrArg some ?_
    all_goals (rw [Bool.eq_iff_iff]; simp only [decide_eq_true_eq, true_iff, false_iff, Bool.false_eq_true]; omega)
  · simp only [Bool.and_eq_true, decide_eq_true_eq] at h
    exact h.2.2.2.2.2
theorem runWind_ok (a : WindRule) (lv cm : Int) (l : List Int) (h : l.length ≤ 1048576) :
    (spec_RunWind a (lv, cm, ()) l = some ([], (0, 0, ()), false) ∧ impl_RunWind a (lv, cm, ()) l = some (Sum.inl (0, 0, ()))) ∨
    ∃ m lv' cm', spec_RunWind a (lv, cm, ()) l = some (m, (lv', cm', ()), true) ∧ impl_RunWind a (lv, cm, ()) l = some (Sum.inr (m, (lv', cm', ()))) ∧ m.length ≤ 1048576 := by
  obtain ⟨on, stop, drop, calm, u⟩ := a
  obtain ⟨b, b1, b2, b3⟩ := state_ok (on, stop, drop, calm, ()) lv cm
  unfold spec_RunWind impl_RunWind
  simp only [b1, b2, l12Votes_eq l h, areVotes_eq l h, Option.bind_some]
  cases b
  · exact .inl ⟨rfl, rfl⟩
  cases l.all voteOk && decide ((l.length : Int) ≤ 50)
  · exact .inl ⟨rfl, rfl⟩
  obtain ⟨⟨m, lv', cm', u'⟩, r1, r2, hm⟩ := run_ok (on, stop, drop, calm, ()) l h lv cm (b3 rfl)
  refine .inr ⟨m, lv', cm', ?_, ?_, by simp at hm; omega⟩
  · simp only [r1]; rfl
  · simp only [r2]; rfl
theorem eqWindState_eq (a b : Int) : laws_eqWindState (a, b, ()) (a, b, ()) = some true := by
  unfold laws_eqWindState
  rw [cond_ndt rfl, cond_ndt rfl]
theorem law_FnExactRunWind (a : WindRule) (s : WindState) (l : List Int) (_ : Ty.fit ty_WindRule a) (_ : Ty.fit ty_WindState s) (hl : Ty.fit (.sl (.int .i64)) l) : laws_FnExactRunWind a s l = some true := by
  have h : l.length ≤ 1048576 := hl.1
  obtain ⟨on, stop, drop, calm, u⟩ := a
  obtain ⟨lv, cm, u'⟩ := s
  unfold laws_FnExactRunWind
  rw [cond_df (by omega)]
  have h1 : ¬ (1 : Int) + (l.length : Int) < 0 := by omega
  rcases runWind_ok (on, stop, drop, calm, ()) lv cm l h with ⟨e1, e2⟩ | ⟨m, lv', cm', e1, e2, hm⟩
  · simp only [laws_toWindRule, laws_toWindState, toIntS_eq l h, eqIntS_eq l h, eqIntS_eq [] (by simp), Option.bind_some, e1, e2, Sum.elim_inl, eqWindState_eq, markIntS_eq l h, markIntS_nil, heldIntS_nil, decide_true, Bool.not_true, cond_false, beq_self_eq_true]
    rw [cond_df h1]
    rfl
  · have h2 : ¬ (1 : Int) + (m.length : Int) < 0 := by omega
    simp only [laws_toWindRule, laws_toWindState, toIntS_eq l h, eqIntS_eq l h, eqIntS_eq m hm, Option.bind_some, e1, e2, Sum.elim_inr, eqWindState_eq, markIntS_eq l h, markIntS_eq m hm, heldIntS_eq m.length hm, decide_true, Bool.not_true, cond_false, beq_self_eq_true]
    simp only [cond_df h1, cond_df h2]

end Go.Proofs.Ytplknllbpdookaa
