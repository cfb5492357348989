/-
  Plain laws of the wind: readings, and what law FnWinds asks of them.
-/
import Derived.Test.YtplknllbpdookaaD10
import Derived.Test.YtplknllbpdookaaO1
namespace Go.Proofs.Ytplknllbpdookaa
open Go.RowKit

theorem l1In_eq (a lo hi : Int) : spec_l1In a lo hi = some (decide (lo ≤ a ∧ a ≤ hi)) := by
  unfold spec_l1In
  by_cases h : lo ≤ a
  · rw [cond_dt h]; simp [h]
  · rw [cond_df h]; simp [h]
theorem within_eq (a lo hi : Int) : impl_within a lo hi = some (decide (lo ≤ a ∧ a ≤ hi)) := by
  unfold impl_within
  by_cases h : lo ≤ a
  · rw [cond_dt h]; simp [h]
  · rw [cond_df h]; simp [h]
def voteOk (x : Int) : Bool := decide ((0 : Int) ≤ x ∧ x ≤ 60)
theorem l12Votes_eq (l : List Int) (h : l.length ≤ 1048576) : spec_l12Votes l = some (l.all voteOk && decide ((l.length : Int) ≤ 50)) := by
  unfold spec_l12Votes
  have H : iter (fun s => spec_l12Votes_loop1 l s) (0 : Int) = some (if l.all voteOk then Sum.inr () else Sum.inl ()) :=
    iter_all l voteOk 0 (fun k => (k : Int)) (fun k hk => by
      show spec_l12Votes_loop1 l (k : Int) = _
      unfold spec_l12Votes_loop1
      rw [cond_dt (by omega), grd_pos (by omega), w64_nat (by omega)]
      show (spec_l12Vote (l.getD k 0)).bind _ = _
      unfold spec_l12Vote
      rw [l1In_eq]
      show cond (!voteOk (l.getD k 0)) _ _ = _
      cases voteOk (l.getD k 0) <;> rfl) (by
      show spec_l12Votes_loop1 l (l.length : Int) = _
      unfold spec_l12Votes_loop1
      rw [cond_df (by omega)]) rfl
  rw [H]; cases l.all voteOk <;> rfl
theorem allIn_eq (l : List Int) (h : l.length ≤ 1048576) : impl_allIn l 0 60 = some (l.all voteOk) := by
  unfold impl_allIn
  have H : iter (fun s => impl_allIn_loop1 l 0 60 s) (0 : Int) = some (if l.all voteOk then Sum.inr () else Sum.inl ()) :=
    iter_all l voteOk 0 (fun k => (k : Int)) (fun k hk => by
      show impl_allIn_loop1 l 0 60 (k : Int) = _
      unfold impl_allIn_loop1
      rw [cond_dt (by omega), grd_pos (by omega), w64_nat (by omega)]
      show (impl_within (l.getD k 0) 0 60).bind _ = _
      rw [within_eq]
      show cond (!voteOk (l.getD k 0)) _ _ = _
      cases voteOk (l.getD k 0) <;> rfl) (by
      show impl_allIn_loop1 l 0 60 (l.length : Int) = _
      unfold impl_allIn_loop1
      rw [cond_df (by omega)]) rfl
  rw [H]; cases l.all voteOk <;> rfl
theorem areVotes_eq (l : List Int) (h : l.length ≤ 1048576) : impl_areVotes l = some (l.all voteOk && decide ((l.length : Int) ≤ 50)) := by
  unfold impl_areVotes
  by_cases h5 : (l.length : Int) ≤ 50
  · rw [cond_dt h5, allIn_eq l h]; simp [h5]
  · rw [cond_df h5]; simp [h5]

def ruleOk (a : WindRule) : Bool := decide ((2 : Int) ≤ a.1 ∧ a.1 < a.2.1 ∧ a.2.1 ≤ 60 ∧ 1 ≤ a.2.2.1 ∧ a.2.2.1 ≤ a.1 - 1 ∧ 1 ≤ a.2.2.2.1 ∧ a.2.2.2.1 ≤ 10)
theorem l12Rule_eq (a : WindRule) : spec_l12Rule a = some (ruleOk a) := by
  obtain ⟨on, stop, drop, calm, u⟩ := a
  simp only [spec_l12Rule, l1In_eq, Option.bind_some, Bool.cond_decide, w64, IntKind.wrap_i64, ruleOk]
  repeat' split
  all_goals refine congrArg some ?_
  all_goals first
    | exact (decide_eq_false (by omega)).symm
    | (apply decide_eq_decide.2; omega)
theorem isWindRule_eq (a : WindRule) : impl_IsWindRule a = some (ruleOk a) := by
  obtain ⟨on, stop, drop, calm, u⟩ := a
  simp only [impl_IsWindRule, within_eq, Option.bind_some, Bool.cond_decide, w64, IntKind.wrap_i64, ruleOk]
  repeat' split
  all_goals refine congrArg some ?_
  all_goals first
    | exact (decide_eq_false (by omega)).symm
    | (apply decide_eq_decide.2; omega)

theorem wnext_ok (a : WindRule) (lv cm v : Int) (h : lv = 0 → cm = 0) : ∃ y : WindState, spec_l12Next a (lv, cm, ()) v = some y ∧ impl_WindRule_next a (lv, cm, ()) v = some y ∧ (y.1 = 0 → y.2.1 = 0) := by
  obtain ⟨on, stop, drop, calm, u⟩ := a
  unfold spec_l12Next impl_WindRule_next
  simp only [Bool.cond_decide]
  by_cases h1 : stop ≤ v
  · by_cases h2 : lv = 2 <;> simp [h1, h2]
  · by_cases h2 : lv = 0
    · have := h h2
      subst h2 this
      by_cases h3 : on ≤ v <;> simp [h1, h3]
    · by_cases h4 : lv = 2
      · subst h4
        by_cases h5 : w64 (stop - drop) ≤ v <;> by_cases h6 : w64 (cm + 1) = calm <;> simp [h1, h5, h6]
      · by_cases h5 : w64 (on - drop) ≤ v <;> by_cases h6 : w64 (cm + 1) = calm <;> simp [h1, h2, h4, h5, h6]
theorem run_ok (a : WindRule) (l : List Int) (h : l.length ≤ 1048576) (lv0 cm0 : Int) (h0 : lv0 = 0 → cm0 = 0) : ∃ y, spec_l12Run a (lv0, cm0, ()) l = some y ∧ impl_WindRule_run a (lv0, cm0, ()) l = some y ∧ y.1.length = l.length := by
  obtain ⟨r, r', e1, e2, rfl, hn⟩ := iter_rel (f := fun s => spec_l12Run_loop1 a l s.1 s.2.1 s.2.2.1 s.2.2.2) (g := fun s => impl_WindRule_run_loop1 a l s.1 s.2.1 s.2.2.1 s.2.2.2)
    (fun (k : Nat) s t => ∃ (lv cm : Int) (acc : List Int), s = ((k : Int), lv, cm, acc) ∧ t = ((k : Int), lv, cm, acc) ∧ acc.length = k ∧ (lv = 0 → cm = 0))
    (fun r r' => r = r' ∧ r.2.2.length = l.length) l.length
    (by
      rintro k _ _ hk ⟨lv, cm, acc, rfl, rfl, hac, hlv⟩
      refine .inl ?_
      obtain ⟨⟨lv', cm', u⟩, n1, n2, n3⟩ := wnext_ok a lv cm (l.getD k 0) hlv
      refine ⟨_, _, ?_, ?_, lv', cm', acc ++ [lv'], rfl, rfl, by simp [hac], n3⟩
      · show spec_l12Run_loop1 a l (k : Int) lv cm acc = _
        unfold spec_l12Run_loop1
        rw [cond_dt (by omega), grd_pos (by omega), w64_nat (by omega)]
        show (spec_l12Next a (lv, cm, ()) (l.getD k 0)).bind _ = _
        rw [n1, Option.bind_some, grd_pos (by simp; omega)]
      · show impl_WindRule_run_loop1 a l (k : Int) lv cm acc = _
        unfold impl_WindRule_run_loop1
        rw [cond_dt (by omega), grd_pos (by omega), w64_nat (by omega)]
        show (impl_WindRule_next a (lv, cm, ()) (l.getD k 0)).bind _ = _
        rw [n2, Option.bind_some, grd_pos (by simp; omega)])
    (by
      rintro _ _ ⟨lv, cm, acc, rfl, rfl, hac, hlv⟩
      refine ⟨(lv, cm, acc), (lv, cm, acc), ?_, ?_, rfl, hac⟩
      · show spec_l12Run_loop1 a l (l.length : Int) lv cm acc = _
        unfold spec_l12Run_loop1
        rw [cond_df (by omega)]
      · show impl_WindRule_run_loop1 a l (l.length : Int) lv cm acc = _
        unfold impl_WindRule_run_loop1
        rw [cond_df (by omega)])
    (s := ((0 : Int), lv0, cm0, [])) (t := ((0 : Int), lv0, cm0, [])) ⟨lv0, cm0, [], rfl, rfl, rfl, h0⟩
  refine ⟨(r.2.2, (r.1, r.2.1, ())), ?_, ?_, hn⟩
  · unfold spec_l12Run; rw [e1]; rfl
  · unfold impl_WindRule_run; rw [e2]; rfl

theorem state_ok (a : WindRule) (lv cm : Int) : ∃ b, spec_l12State a (lv, cm, ()) = some b ∧ impl_windOk a (lv, cm, ()) = some b ∧ (b = true → lv = 0 → cm = 0) := by
  refine ⟨ruleOk a && decide (0 ≤ lv ∧ lv ≤ 2 ∧ 0 ≤ cm ∧ cm ≤ w64 (a.2.2.2.1 - 1) ∧ (lv = 0 → cm = 0)), ?_, ?_, fun h => ?_⟩
  · unfold spec_l12State
    rw [l12Rule_eq]
    simp only [l1In_eq, Option.bind_some]
    cases ruleOk a
    · rfl
    simp only [Bool.cond_decide, cond_true, Bool.true_and]
    repeat' split
    all_goals refine congrArg some ?_
    all_goals (rw [Bool.eq_iff_iff]; simp only [decide_eq_true_eq, true_iff, false_iff, Bool.false_eq_true]; omega)
  · unfold impl_windOk
    rw [isWindRule_eq]
    simp only [within_eq, Option.bind_some]
    cases ruleOk a
    · rfl
    simp only [Bool.cond_decide, cond_true, Bool.true_and, ← decide_not]
    repeat' split
    all_goals refine congrArg some ?_
    all_goals (rw [Bool.eq_iff_iff]; simp only [decide_eq_true_eq, true_iff, false_iff, Bool.false_eq_true]; omega)
  · simp only [Bool.and_eq_true, decide_eq_true_eq] at h
    exact h.2.2.2.2.2
theorem runWind_ok (a : WindRule) (lv cm : Int) (l : List Int) (h : l.length ≤ 1048576) :
    (spec_RunWind a (lv, cm, ()) l = some ([], (0, 0, ()), false) ∧ impl_RunWind a (lv, cm, ()) l = some (Sum.inl (0, 0, ()))) ∨
    ∃ m lv' cm', spec_RunWind a (lv, cm, ()) l = some (m, (lv', cm', ()), true) ∧ impl_RunWind a (lv, cm, ()) l = some (Sum.inr (m, (lv', cm', ()))) ∧ m.length ≤ 1048576 := by
  obtain ⟨on, stop, drop, calm, u⟩ := a
  obtain ⟨b, b1, b2, b3⟩ := state_ok (on, stop, drop, calm, ()) lv cm
  unfold spec_RunWind impl_RunWind
  simp only [b1, b2, l12Votes_eq l h, areVotes_eq l h, Option.bind_some]
  cases b
  · exact .inl ⟨rfl, rfl⟩
  cases l.all voteOk && decide ((l.length : Int) ≤ 50)
  · exact .inl ⟨rfl, rfl⟩
  obtain ⟨⟨m, lv', cm', u'⟩, r1, r2, hm⟩ := run_ok (on, stop, drop, calm, ()) l h lv cm (b3 rfl)
  refine .inr ⟨m, lv', cm', ?_, ?_, by simp at hm; omega⟩
  · simp only [r1]; rfl
  · simp only [r2]; rfl

theorem ruleOk_out {on stop drop calm : Int} {u : Unit} (h : ruleOk (on, stop, drop, calm, u) = true) : 2 ≤ on ∧ on < stop ∧ stop ≤ 60 ∧ 1 ≤ drop ∧ drop ≤ on - 1 ∧ 1 ≤ calm ∧ calm ≤ 10 := by
  simpa [ruleOk] using h

/-! Draws. -/
theorem windRule_ok (c : l1Cur) (n : Int) (h : CG c n) (hn : n ≤ 100000000) : Gives (spec_l1Cur_windRule c) (n + 12) (fun _ => True) := by
  obtain ⟨code, at', seed, u⟩ := c
  unfold spec_l1Cur_windRule
  refine gives_bind (among_ok _ n _ (by simp) h (by omega)) fun a1 c1 t1 s1 _ h => ?_
  dsimp only
  refine gives_bind (among_ok _ _ _ (by simp) h (by omega)) fun a2 c1 t1 s1 _ h => ?_
  dsimp only
  refine gives_bind (among_ok _ _ _ (by simp) h (by omega)) fun a3 c1 t1 s1 _ h => ?_
  dsimp only
  refine gives_bind (among_ok _ _ _ (by simp) h (by omega)) fun a4 c1 t1 s1 _ h => ?_
  dsimp only
  refine gives_bind (pick_ok _ _ _ h (by omega)) fun a5 c1 t1 s1 _ h => ?_
  dsimp only
  refine gives_cond (fun _ => ?_) (fun _ => gives_cond (fun _ => ?_) (fun _ => gives_cond (fun _ => ?_) (fun _ => gives_cond (fun _ => ?_) (fun _ => ?_))))
  · exact gives_bind (among_ok _ _ _ (by simp) h (by omega)) fun a6 c1 t1 s1 _ h => Gives.ret (h.up (by omega)) trivial
  · exact gives_bind (among_ok _ _ _ (by simp) h (by omega)) fun a6 c1 t1 s1 _ h => Gives.ret (h.up (by omega)) trivial
  · exact gives_bind (among_ok _ _ _ (by simp) h (by omega)) fun a6 c1 t1 s1 _ h => Gives.ret (h.up (by omega)) trivial
  · exact gives_bind (among_ok _ _ _ (by simp) h (by omega)) fun a6 c1 t1 s1 _ h => Gives.ret (h.up (by omega)) trivial
  · exact Gives.ret (h.up (by omega)) trivial
theorem l1Most_ok (a b : Int) : ∃ y, spec_l1Most a b = some y := by
  unfold spec_l1Most
  by_cases h : b < a
  · rw [cond_dt h]; exact ⟨_, rfl⟩
  · rw [cond_df h]; exact ⟨_, rfl⟩
theorem windState_ok (c : l1Cur) (r : WindRule) (n : Int) (h : CG c n) (hn : n ≤ 100000000) : Gives (spec_l1Cur_windState c r) (n + 10) (fun _ => True) := by
  obtain ⟨code, at', seed, u⟩ := c
  unfold spec_l1Cur_windState
  refine gives_bind (pick_ok _ n _ h (by omega)) fun a1 c1 t1 s1 _ h => ?_
  dsimp only
  have key : ∃ (c2 : List Int) (t2 s2 lv cm : Int), (cond (decide ((0 : Int) < a1)) ((spec_l1Most (1 : Int) r.2.2.2.1).bind fun y2 => ((spec_l1Cur_pick (c1, t1, s1, ()) y2).bind fun y3 => (some (y3.2.1, y3.2.2.1, y3.2.2.2.1, a1, y3.1)))) ((some (c1, t1, s1, a1, (0 : Int))))) = some (c2, t2, s2, lv, cm) ∧ CG (c2, t2, s2, ()) (n + 4) := by
    by_cases h0 : 0 < a1
    · rw [cond_dt h0]
      obtain ⟨y, hy⟩ := l1Most_ok 1 r.2.2.2.1
      rw [hy, Option.bind_some]
      obtain ⟨v, ⟨c2, t2, s2, u2⟩, e, hc, _⟩ := pick_ok (c1, t1, s1, ()) _ y h (by omega)
      rw [e]
      exact ⟨c2, t2, s2, a1, v, rfl, hc.up (by omega)⟩
    · rw [cond_df h0]
      exact ⟨c1, t1, s1, a1, 0, rfl, h.up (by omega)⟩
  obtain ⟨c2, t2, s2, lv, cm, e, h⟩ := key
  rw [e, Option.bind_some]
  refine gives_bind (one_ok _ _ _ h (by omega)) fun a5 c1 t1 s1 _ h => ?_
  dsimp only
  refine gives_cond (fun _ => ?_) (fun _ => Gives.ret (h.up (by omega)) trivial)
  refine gives_bind (among_ok _ _ _ (by simp) h (by omega)) fun a6 c1 t1 s1 _ h => ?_
  dsimp only
  exact gives_bind (among_ok _ _ _ (by simp) h (by omega)) fun a7 c1 t1 s1 _ h => Gives.ret (h.up (by omega)) trivial
theorem votes_loop1 : ∀ (d : Nat) (code : List Int) (at' seed : Int) (acc : List Int) (n : Int), CG (code, at', seed, ()) n → n + 2 * d ≤ 100000000 → acc.length + d ≤ 1000000 → d ≤ 1000000 →
    ∃ code' at2 seed' acc', iter (fun s => spec_l1Cur_votes_loop1 s.1 s.2.1 s.2.2.1 s.2.2.2.1 s.2.2.2.2) ((d : Int), code, at', seed, acc) = some (code', at2, seed', acc') ∧ CG (code', at2, seed', ()) (n + 2 * d) ∧ acc'.length = acc.length + d
  | 0, code, at', seed, acc, n, h, _, _, _ => ⟨code, at', seed, acc, iter_out (by
      show spec_l1Cur_votes_loop1 (0 : Int) code at' seed acc = _
      unfold spec_l1Cur_votes_loop1
      rw [cond_df (by omega)]), h.up (by omega), rfl⟩
  | d + 1, code, at', seed, acc, n, h, hn, ha, hd => by
    obtain ⟨v, ⟨c1, t1, s1, u1⟩, e, hc, _⟩ := among_ok (code, at', seed, ()) n [(0 : Int), (3 : Int), (5 : Int), (8 : Int), (9 : Int), (10 : Int), (11 : Int), (12 : Int), (14 : Int), (15 : Int), (17 : Int), (18 : Int), (20 : Int), (30 : Int)] (by simp) h (by omega)
    obtain ⟨c2, t2, s2, acc2, e2, h2, l2⟩ := votes_loop1 d c1 t1 s1 (acc ++ [v]) (n + 2) hc (by omega) (by simp; omega) (by omega)
    refine ⟨c2, t2, s2, acc2, (iter_go ?_).trans e2, h2.up (by omega), by simp at l2; omega⟩
    show spec_l1Cur_votes_loop1 ((d + 1 : Nat) : Int) code at' seed acc = _
    unfold spec_l1Cur_votes_loop1
    rw [cond_dt (by omega), e, Option.bind_some, grd_pos (by simp; omega), w64_id (by omega) (by omega)]
    rw [show ((d + 1 : Nat) : Int) - 1 = (d : Int) by omega]
theorem votes_loop2 : ∀ (d : Nat) (code : List Int) (at' seed : Int) (acc : List Int) (n : Int), CG (code, at', seed, ()) n → n + 2 * d ≤ 10000000 → 51 ≤ acc.length + d → acc.length ≤ 1000 →
    ∃ code' at2 seed' acc', iter (fun s => spec_l1Cur_votes_loop2 s.1 s.2.1 s.2.2.1 s.2.2.2) (code, at', seed, acc) = some (code', at2, seed', acc') ∧ CG (code', at2, seed', ()) (n + 2 * d + 2) ∧ acc'.length ≤ 1000
  | d, code, at', seed, acc, n, h, hn, ha, hb => by
    obtain ⟨v, ⟨c1, t1, s1, u1⟩, e, hc, hv⟩ := pick_ok (code, at', seed, ()) n 2 h (by omega)
    have hv : 0 ≤ v ∧ v < 2 := by omega
    have hw : w64 ((50 : Int) + v) = 50 + v := w64_id (by omega) (by omega)
    by_cases hl : (acc.length : Int) < 50 + v
    · cases d with
      | zero => omega
      | succ d =>
        obtain ⟨c2, t2, s2, acc2, e2, h2, l2⟩ := votes_loop2 d c1 t1 s1 (acc ++ [7]) (n + 2) hc (by omega) (by simp; omega) (by simp; omega)
        refine ⟨c2, t2, s2, acc2, (iter_go ?_).trans e2, h2.up (by omega), l2⟩
        show spec_l1Cur_votes_loop2 code at' seed acc = _
        unfold spec_l1Cur_votes_loop2
        rw [e, Option.bind_some, hw, cond_dt hl, grd_pos (by simp; omega)]
    · refine ⟨c1, t1, s1, acc, iter_out ?_, hc.up (by omega), hb⟩
      show spec_l1Cur_votes_loop2 code at' seed acc = _
      unfold spec_l1Cur_votes_loop2
      rw [e, Option.bind_some, hw, cond_df hl]
theorem votes_ok (c : l1Cur) (n : Int) (h : CG c n) (hn : n ≤ 1000000) : Gives (spec_l1Cur_votes c) (n + 1000) (fun l => l.length ≤ 1000) := by
  obtain ⟨code, at', seed, u⟩ := c
  unfold spec_l1Cur_votes
  refine gives_bind (pick_ok _ n _ h (by omega)) fun a1 c1 t1 s1 ha h => ?_
  dsimp only
  obtain ⟨d, rfl⟩ : ∃ d : Nat, a1 = (d : Int) := ⟨a1.toNat, by omega⟩
  obtain ⟨c2, t2, s2, acc2, e2, h2, l2⟩ := votes_loop1 d c1 t1 s1 [] _ h (by omega) (by simp; omega) (by omega)
  rw [e2, Option.bind_some]
  have l2 : acc2.length ≤ 20 := by simp at l2; omega
  dsimp only
  refine gives_bind (pick_ok _ _ _ h2 (by omega)) fun a1 c1 t1 s1 _ h => ?_
  dsimp only
  refine gives_cond (fun _ => ?_) (fun _ => gives_cond (fun _ => ?_) (fun _ => Gives.ret (h.up (by omega)) (by omega)))
  · refine gives_bind (among_ok _ _ _ (by simp) h (by omega)) fun a6 c1 t1 s1 _ h => ?_
    dsimp only
    exact gives_grd (by simp; omega) (Gives.ret (h.up (by omega)) (by simp; omega))
  · obtain ⟨c3, t3, s3, acc3, e3, h3, l3⟩ := votes_loop2 60 c1 t1 s1 acc2 _ h (by omega) (by omega) (by omega)
    rw [e3, Option.bind_some]
    exact Gives.ret (h3.up (by omega)) l3
theorem cg0 (code : List Int) (hb : ∀ x ∈ code, 0 ≤ x ∧ x ≤ 255) (hl : code.length ≤ 1048576) : CG (code, (0 : Int), (0 : Int), ()) 0 := ⟨hb, hl, by show (0 : Int) ≤ 0; omega, by show (0 : Int) ≤ 0; omega⟩
theorem drawRunWind_ok (code : List Int) (hb : ∀ x ∈ code, 0 ≤ x ∧ x ≤ 255) (hl : code.length ≤ 1048576) : ∃ on stop drop hold lv cm l, spec_DrawRunWind code = some ((on, stop, drop, hold, ()), (lv, cm, ()), l) ∧ l.length ≤ 1000 := by
  unfold spec_DrawRunWind
  obtain ⟨⟨on, stop, drop, hold, u⟩, ⟨c1, t1, s1, u1⟩, e1, h1, _⟩ := windRule_ok _ 0 (cg0 code hb hl) (by omega)
  simp only [e1, Option.bind_some]
  obtain ⟨⟨lv, cm, u'⟩, ⟨c2, t2, s2, u2⟩, e2, h2, _⟩ := windState_ok (c1, t1, s1, ()) (on, stop, drop, hold, ()) _ h1 (by omega)
  simp only [e2, Option.bind_some]
  obtain ⟨l, ⟨c3, t3, s3, u3⟩, e3, h3, hl⟩ := votes_ok (c2, t2, s2, ()) _ h2 (by omega)
  simp only [e3, Option.bind_some]
  exact ⟨on, stop, drop, hold, lv, cm, l, rfl, hl⟩
theorem drawNextWind_ok (code : List Int) (hb : ∀ x ∈ code, 0 ≤ x ∧ x ≤ 255) (hl : code.length ≤ 1048576) : ∃ on stop drop hold lv cm v, spec_DrawNextWind code = some ((on, stop, drop, hold, ()), (lv, cm, ()), v) := by
  unfold spec_DrawNextWind
  obtain ⟨⟨on, stop, drop, hold, u⟩, ⟨c1, t1, s1, u1⟩, e1, h1, _⟩ := windRule_ok _ 0 (cg0 code hb hl) (by omega)
  simp only [e1, Option.bind_some]
  obtain ⟨⟨lv, cm, u'⟩, ⟨c2, t2, s2, u2⟩, e2, h2, _⟩ := windState_ok (c1, t1, s1, ()) (on, stop, drop, hold, ()) _ h1 (by omega)
  simp only [e2, Option.bind_some]
  obtain ⟨l, ⟨c3, t3, s3, u3⟩, e3, h3, hl⟩ := among_ok (c2, t2, s2, ()) _ [(0 : Int), (4 : Int), (7 : Int), (9 : Int), (10 : Int), (12 : Int), (14 : Int), (15 : Int), (16 : Int), (18 : Int), (20 : Int), (60 : Int), (61 : Int), ((-1) : Int)] (by simp) h2 (by omega)
  simp only [e3, Option.bind_some]
  exact ⟨on, stop, drop, hold, lv, cm, l, rfl⟩
theorem drawEarliestFree_ok (code : List Int) (hb : ∀ x ∈ code, 0 ≤ x ∧ x ≤ 255) (hl : code.length ≤ 1048576) : ∃ on stop drop hold lv cm, spec_DrawEarliestFree code = some ((on, stop, drop, hold, ()), (lv, cm, ())) := by
  unfold spec_DrawEarliestFree
  obtain ⟨⟨on, stop, drop, hold, u⟩, ⟨c1, t1, s1, u1⟩, e1, h1, _⟩ := windRule_ok _ 0 (cg0 code hb hl) (by omega)
  simp only [e1, Option.bind_some]
  obtain ⟨⟨lv, cm, u'⟩, ⟨c2, t2, s2, u2⟩, e2, h2, _⟩ := windState_ok (c1, t1, s1, ()) (on, stop, drop, hold, ()) _ h1 (by omega)
  simp only [e2, Option.bind_some]
  exact ⟨on, stop, drop, hold, lv, cm, rfl⟩

/-! Readings. -/
def nx (on stop drop hold lv cm v : Int) : Int × Int :=
  if stop ≤ v then (2, 0) else if lv = 0 then (if on ≤ v then (1, 0) else (0, 0)) else
    if (if lv = 2 then stop else on) - drop ≤ v then (lv, 0) else if cm + 1 = hold then (lv - 1, 0) else (lv, cm + 1)
abbrev RU (on stop drop hold : Int) : Prop := 2 ≤ on ∧ on < stop ∧ stop ≤ 60 ∧ 1 ≤ drop ∧ drop ≤ on - 1 ∧ 1 ≤ hold ∧ hold ≤ 10
abbrev SU (hold lv cm : Int) : Prop := 0 ≤ lv ∧ lv ≤ 2 ∧ 0 ≤ cm ∧ cm ≤ hold - 1 ∧ (lv = 0 → cm = 0)
theorem ruleOk_eq (on stop drop hold : Int) (u : Unit) : ruleOk (on, stop, drop, hold, u) = decide (RU on stop drop hold) := by
  rw [Bool.eq_iff_iff]; simp [ruleOk]
theorem state_eq (on stop drop hold lv cm : Int) : spec_l12State (on, stop, drop, hold, ()) (lv, cm, ()) = some (decide (RU on stop drop hold ∧ SU hold lv cm)) ∧ impl_windOk (on, stop, drop, hold, ()) (lv, cm, ()) = some (decide (RU on stop drop hold ∧ SU hold lv cm)) := by
  unfold spec_l12State impl_windOk
  simp only [l12Rule_eq, isWindRule_eq, ruleOk_eq, l1In_eq, within_eq, Option.bind_some]
  by_cases hr : RU on stop drop hold
  · have hw : w64 (hold - 1) = hold - 1 := w64_id (by omega) (by omega)
    simp only [decide_eq_true hr, hw, cond_true, Bool.cond_decide, ← decide_not]
    constructor
    all_goals repeat' split
    all_goals refine congrArg some ?_
    all_goals (rw [Bool.eq_iff_iff]; simp only [decide_eq_true_eq, true_iff, false_iff, Bool.false_eq_true]; omega)
  · have h2 : ¬ (RU on stop drop hold ∧ SU hold lv cm) := fun h => hr h.1
    rw [decide_eq_false h2, decide_eq_false hr]
    exact ⟨rfl, rfl⟩
theorem nx_eq {on stop drop hold lv cm : Int} (hr : RU on stop drop hold) (hs : SU hold lv cm) (v : Int) :
    spec_l12Next (on, stop, drop, hold, ()) (lv, cm, ()) v = some ((nx on stop drop hold lv cm v).1, (nx on stop drop hold lv cm v).2, ()) ∧
    impl_WindRule_next (on, stop, drop, hold, ()) (lv, cm, ()) v = some ((nx on stop drop hold lv cm v).1, (nx on stop drop hold lv cm v).2, ()) := by
  have w1 : w64 (stop - drop) = stop - drop := w64_id (by omega) (by omega)
  have w2 : w64 (on - drop) = on - drop := w64_id (by omega) (by omega)
  have w3 : w64 (cm + 1) = cm + 1 := w64_id (by omega) (by omega)
  have w4 : w64 (lv - 1) = lv - 1 := w64_id (by omega) (by omega)
  have w5 : w64 1 = 1 := rfl
  have w6 : w64 hold = hold := w64_id (by omega) (by omega)
  unfold spec_l12Next impl_WindRule_next nx
  simp only [Bool.cond_decide]
  by_cases h1 : stop ≤ v
  · by_cases h2 : lv = 2 <;> simp [h1, h2]
  · by_cases h2 : lv = 0
    · have h3 : cm = 0 := hs.2.2.2.2 h2
      subst h2 h3
      by_cases h3 : on ≤ v <;> simp [h1, h3]
    · by_cases h4 : lv = 2
      · subst h4
        by_cases h5 : stop - drop ≤ v <;> by_cases h6 : cm + 1 = hold <;> simp [h1, w1, w3, w5, w6, h5, h6]
      · by_cases h5 : on - drop ≤ v <;> by_cases h6 : cm + 1 = hold <;> simp [h1, h2, h4, w2, w3, w4, w6, h5, h6]
theorem nx_facts {on stop drop hold lv cm : Int} (hr : RU on stop drop hold) (hs : SU hold lv cm) (v : Int) :
    SU hold (nx on stop drop hold lv cm v).1 (nx on stop drop hold lv cm v).2 ∧ lv - 1 ≤ (nx on stop drop hold lv cm v).1 ∧ (stop ≤ v → (nx on stop drop hold lv cm v).1 = 2) := by
  unfold nx
  by_cases h1 : stop ≤ v
  · rw [if_pos h1]; (try dsimp only); omega
  rw [if_neg h1]
  by_cases h2 : lv = 0
  · rw [if_pos h2]
    by_cases h3 : on ≤ v
    · rw [if_pos h3]; (try dsimp only); omega
    · rw [if_neg h3]; (try dsimp only); omega
  rw [if_neg h2]
  by_cases h4 : (if lv = 2 then stop else on) - drop ≤ v
  · rw [if_pos h4]; (try dsimp only); omega
  rw [if_neg h4]
  by_cases h5 : cm + 1 = hold
  · rw [if_pos h5]; (try dsimp only); omega
  · rw [if_neg h5]; (try dsimp only); omega
def rem (hold lv cm : Int) : Int := if lv = 0 then 0 else if lv = 1 then hold - cm else 2 * hold - cm
theorem nx_zero {on stop drop hold lv cm : Int} (hr : RU on stop drop hold) (hs : SU hold lv cm) :
    (lv = 0 → nx on stop drop hold lv cm 0 = (0, 0)) ∧ (lv ≠ 0 → rem hold (nx on stop drop hold lv cm 0).1 (nx on stop drop hold lv cm 0).2 = rem hold lv cm - 1) := by
  have h1 : ¬ stop ≤ 0 := by omega
  have h2 : ¬ on ≤ 0 := by omega
  constructor
  · rintro rfl
    simp [nx, h1, h2]
  · intro h0
    have h3 : ¬ (if lv = 2 then stop else on) - drop ≤ 0 := by split <;> omega
    unfold nx
    rw [if_neg h1, if_neg h0, if_neg h3]
    have hl : lv = 1 ∨ lv = 2 := by omega
    unfold rem
    rcases hl with rfl | rfl
    · by_cases h6 : cm + 1 = hold
      · rw [if_pos h6]; simp; omega
      · rw [if_neg h6]; simp; omega
    · by_cases h6 : cm + 1 = hold
      · rw [if_pos h6]; simp; omega
      · rw [if_neg h6]; simp; omega
def stk (on stop drop hold : Int) (l : List Int) (lv cm : Int) : Nat → Int × Int
  | 0 => (lv, cm)
  | k + 1 => nx on stop drop hold (stk on stop drop hold l lv cm k).1 (stk on stop drop hold l lv cm k).2 (l.getD k 0)
theorem stk_ok {on stop drop hold lv cm : Int} (hr : RU on stop drop hold) (hs : SU hold lv cm) (l : List Int) : ∀ k, SU hold (stk on stop drop hold l lv cm k).1 (stk on stop drop hold l lv cm k).2
  | 0 => hs
  | k + 1 => (nx_facts hr (stk_ok hr hs l k) (l.getD k 0)).1
abbrev levs (on stop drop hold : Int) (l : List Int) (lv cm : Int) (n : Nat) : List Int := (List.range n).map fun j => (stk on stop drop hold l lv cm (j + 1)).1
theorem levs_get (on stop drop hold : Int) (l : List Int) (lv cm : Int) (n k : Nat) (h : k < n) : (levs on stop drop hold l lv cm n).getD k 0 = (stk on stop drop hold l lv cm (k + 1)).1 := by
  simp [levs, List.getD_eq_getElem?_getD, h]
theorem levs_succ (on stop drop hold : Int) (l : List Int) (lv cm : Int) (n : Nat) : levs on stop drop hold l lv cm (n + 1) = levs on stop drop hold l lv cm n ++ [(stk on stop drop hold l lv cm (n + 1)).1] := by
  simp [levs, List.range_succ]
theorem run_eq {on stop drop hold lv cm : Int} (hr : RU on stop drop hold) (hs : SU hold lv cm) (l : List Int) (h : l.length ≤ 1048576) :
    spec_l12Run (on, stop, drop, hold, ()) (lv, cm, ()) l = some (levs on stop drop hold l lv cm l.length, ((stk on stop drop hold l lv cm l.length).1, (stk on stop drop hold l lv cm l.length).2, ())) ∧
    impl_WindRule_run (on, stop, drop, hold, ()) (lv, cm, ()) l = some (levs on stop drop hold l lv cm l.length, ((stk on stop drop hold l lv cm l.length).1, (stk on stop drop hold l lv cm l.length).2, ())) := by
  constructor
  · unfold spec_l12Run
    have H : iter (fun s => spec_l12Run_loop1 (on, stop, drop, hold, ()) l s.1 s.2.1 s.2.2.1 s.2.2.2) ((0 : Int), lv, cm, ([] : List Int)) = some ((stk on stop drop hold l lv cm l.length).1, (stk on stop drop hold l lv cm l.length).2, levs on stop drop hold l lv cm l.length) :=
      iter_for l.length (fun k => ((k : Int), (stk on stop drop hold l lv cm k).1, (stk on stop drop hold l lv cm k).2, levs on stop drop hold l lv cm k)) (fun k hk => by
        show spec_l12Run_loop1 (on, stop, drop, hold, ()) l (k : Int) (stk on stop drop hold l lv cm k).1 (stk on stop drop hold l lv cm k).2 (levs on stop drop hold l lv cm k) = _
        unfold spec_l12Run_loop1
        rw [cond_dt (by omega), grd_pos (by omega), w64_nat (by omega), Int.toNat_natCast]
        rw [(nx_eq hr (stk_ok hr hs l k) (l.getD k 0)).1, Option.bind_some, grd_pos (by simp; omega), levs_succ]
        rfl) (by
        show spec_l12Run_loop1 (on, stop, drop, hold, ()) l (l.length : Int) _ _ _ = _
        unfold spec_l12Run_loop1
        rw [cond_df (by omega)]) rfl
    rw [H]; rfl
  · unfold impl_WindRule_run
    have H : iter (fun s => impl_WindRule_run_loop1 (on, stop, drop, hold, ()) l s.1 s.2.1 s.2.2.1 s.2.2.2) ((0 : Int), lv, cm, ([] : List Int)) = some ((stk on stop drop hold l lv cm l.length).1, (stk on stop drop hold l lv cm l.length).2, levs on stop drop hold l lv cm l.length) :=
      iter_for l.length (fun k => ((k : Int), (stk on stop drop hold l lv cm k).1, (stk on stop drop hold l lv cm k).2, levs on stop drop hold l lv cm k)) (fun k hk => by
        show impl_WindRule_run_loop1 (on, stop, drop, hold, ()) l (k : Int) (stk on stop drop hold l lv cm k).1 (stk on stop drop hold l lv cm k).2 (levs on stop drop hold l lv cm k) = _
        unfold impl_WindRule_run_loop1
        rw [cond_dt (by omega), grd_pos (by omega), w64_nat (by omega), Int.toNat_natCast]
        rw [(nx_eq hr (stk_ok hr hs l k) (l.getD k 0)).2, Option.bind_some, grd_pos (by simp; omega), levs_succ]
        rfl) (by
        show impl_WindRule_run_loop1 (on, stop, drop, hold, ()) l (l.length : Int) _ _ _ = _
        unfold impl_WindRule_run_loop1
        rw [cond_df (by omega)]) rfl
    rw [H]; rfl
abbrev VO (l : List Int) : Prop := (l.all voteOk && decide ((l.length : Int) ≤ 50)) = true
theorem runWind_yes {on stop drop hold lv cm : Int} (hr : RU on stop drop hold) (hs : SU hold lv cm) (l : List Int) (h : l.length ≤ 1048576) (hv : VO l) :
    spec_RunWind (on, stop, drop, hold, ()) (lv, cm, ()) l = some (levs on stop drop hold l lv cm l.length, ((stk on stop drop hold l lv cm l.length).1, (stk on stop drop hold l lv cm l.length).2, ()), true) ∧
    impl_RunWind (on, stop, drop, hold, ()) (lv, cm, ()) l = some (Sum.inr (levs on stop drop hold l lv cm l.length, ((stk on stop drop hold l lv cm l.length).1, (stk on stop drop hold l lv cm l.length).2, ()))) := by
  unfold spec_RunWind impl_RunWind
  simp only [(state_eq on stop drop hold lv cm).1, (state_eq on stop drop hold lv cm).2, l12Votes_eq l h, areVotes_eq l h, Option.bind_some, decide_eq_true (show RU on stop drop hold ∧ SU hold lv cm from ⟨hr, hs⟩), show (l.all voteOk && decide ((l.length : Int) ≤ 50)) = true from hv, Bool.not_true, cond_false, (run_eq hr hs l h).1, (run_eq hr hs l h).2]
  exact ⟨trivial, trivial⟩
theorem runWind_no (on stop drop hold lv cm : Int) (l : List Int) (h : l.length ≤ 1048576) (hn : ¬ ((RU on stop drop hold ∧ SU hold lv cm) ∧ VO l)) :
    spec_RunWind (on, stop, drop, hold, ()) (lv, cm, ()) l = some ([], (0, 0, ()), false) ∧ impl_RunWind (on, stop, drop, hold, ()) (lv, cm, ()) l = some (Sum.inl (0, 0, ())) := by
  unfold spec_RunWind impl_RunWind
  simp only [(state_eq on stop drop hold lv cm).1, (state_eq on stop drop hold lv cm).2, l12Votes_eq l h, areVotes_eq l h, Option.bind_some]
  by_cases hs : RU on stop drop hold ∧ SU hold lv cm
  · have hv : (l.all voteOk && decide ((l.length : Int) ≤ 50)) = false := by
      cases hb : (l.all voteOk && decide ((l.length : Int) ≤ 50)) with
      | false => rfl
      | true => exact absurd ⟨hs, hb⟩ hn
    simp only [decide_eq_true hs, hv]
    exact ⟨rfl, rfl⟩
  · simp only [decide_eq_false hs]
    exact ⟨rfl, rfl⟩
theorem l12Vote_eq (v : Int) : spec_l12Vote v = some (decide (0 ≤ v ∧ v ≤ 60)) := by
  unfold spec_l12Vote; rw [l1In_eq]; rfl
theorem nextWind_yes {on stop drop hold lv cm v : Int} (hr : RU on stop drop hold) (hs : SU hold lv cm) (hv : 0 ≤ v ∧ v ≤ 60) :
    spec_NextWind (on, stop, drop, hold, ()) (lv, cm, ()) v = some (((nx on stop drop hold lv cm v).1, (nx on stop drop hold lv cm v).2, ()), true) ∧
    impl_NextWind (on, stop, drop, hold, ()) (lv, cm, ()) v = some (((nx on stop drop hold lv cm v).1, (nx on stop drop hold lv cm v).2, ()), true) := by
  unfold spec_NextWind impl_NextWind
  simp only [(state_eq on stop drop hold lv cm).1, (state_eq on stop drop hold lv cm).2, l12Vote_eq, within_eq, Option.bind_some, decide_eq_true (show RU on stop drop hold ∧ SU hold lv cm from ⟨hr, hs⟩), decide_eq_true hv, Bool.not_true, cond_false, (nx_eq hr hs v).1, (nx_eq hr hs v).2]
  exact ⟨trivial, trivial⟩
theorem nextWind_same (on stop drop hold lv cm v : Int) : ∃ a b ok, spec_NextWind (on, stop, drop, hold, ()) (lv, cm, ()) v = some ((a, b, ()), ok) ∧ impl_NextWind (on, stop, drop, hold, ()) (lv, cm, ()) v = some ((a, b, ()), ok) := by
  by_cases hs : RU on stop drop hold ∧ SU hold lv cm
  · by_cases hv : 0 ≤ v ∧ v ≤ 60
    · exact ⟨_, _, _, nextWind_yes hs.1 hs.2 hv⟩
    · unfold spec_NextWind impl_NextWind
      simp only [(state_eq on stop drop hold lv cm).1, (state_eq on stop drop hold lv cm).2, l12Vote_eq, within_eq, Option.bind_some, decide_eq_true hs, decide_eq_false hv]
      exact ⟨_, _, _, rfl, rfl⟩
  · unfold spec_NextWind impl_NextWind
    simp only [(state_eq on stop drop hold lv cm).1, (state_eq on stop drop hold lv cm).2, Option.bind_some, decide_eq_false hs]
    exact ⟨_, _, _, rfl, rfl⟩
theorem vInts_eq (l : List Int) (h : l.length ≤ 1048576) : laws_vInts l l = some true := by
  unfold laws_vInts
  rw [cond_ndt rfl]
  have H : iter (fun s => laws_vInts_loop1 l l s) (0 : Int) = some (Sum.inr ()) :=
    iter_for l.length (fun k => (k : Int)) (fun k hk => by
      show laws_vInts_loop1 l l (k : Int) = _
      unfold laws_vInts_loop1
      rw [cond_dt (by omega), grd_pos (by omega), grd_pos (by omega), cond_ndt rfl, w64_nat (by omega)]) (by
      show laws_vInts_loop1 l l (l.length : Int) = _
      unfold laws_vInts_loop1
      rw [cond_df (by omega)]) rfl
  rw [H]; rfl
/-- How often the level is 2, where it is counted. -/
def cn (z : Bool) (lev : List Int) : Nat → Int
  | 0 => 0
  | k + 1 => if z = true ∧ lev.getD k 0 = 2 then w64 (cn z lev k + 1) else cn z lev k
theorem timeStopped_yes {on stop drop hold : Int} (hr : RU on stop drop hold) (l : List Int) (h : l.length ≤ 1048576) (hv : VO l) :
    impl_TimeStopped (on, stop, drop, hold, ()) l = some (cn true (levs on stop drop hold l 0 0 l.length) l.length, true) := by
  have hs : SU hold 0 0 := by omega
  have hl : (levs on stop drop hold l 0 0 l.length).length = l.length := by simp [levs]
  unfold impl_TimeStopped
  simp only [isWindRule_eq, ruleOk_eq, decide_eq_true hr, areVotes_eq l h, show (l.all voteOk && decide ((l.length : Int) ≤ 50)) = true from hv, Option.bind_some, Bool.not_true, cond_false, (run_eq hr hs l h).2]
  have H : iter (fun s => impl_TimeStopped_loop1 s.1 s.2.1 s.2.2.1 s.2.2.2) ((0 : Int), ((levs on stop drop hold l 0 0 l.length).length : Int), (0 : Int), levs on stop drop hold l 0 0 l.length) = some (cn true (levs on stop drop hold l 0 0 l.length) l.length) :=
    iter_for l.length (fun k => (cn true (levs on stop drop hold l 0 0 l.length) k, ((levs on stop drop hold l 0 0 l.length).length : Int), (k : Int), levs on stop drop hold l 0 0 l.length)) (fun k hk => by
      show impl_TimeStopped_loop1 (cn true (levs on stop drop hold l 0 0 l.length) k) ((levs on stop drop hold l 0 0 l.length).length : Int) (k : Int) (levs on stop drop hold l 0 0 l.length) = _
      unfold impl_TimeStopped_loop1
      rw [cond_dt (by rw [hl]; omega), grd_pos (by rw [hl]; omega), Int.toNat_natCast, w64_nat (by omega)]
      by_cases h2 : (levs on stop drop hold l 0 0 l.length).getD k 0 = 2
      · rw [cond_dt h2]; simp only [cn, h2, true_and, if_true]
      · rw [cond_df h2]; simp only [cn, h2, and_false, if_false]) (by
      show impl_TimeStopped_loop1 (cn true (levs on stop drop hold l 0 0 l.length) l.length) ((levs on stop drop hold l 0 0 l.length).length : Int) (l.length : Int) (levs on stop drop hold l 0 0 l.length) = _
      unfold impl_TimeStopped_loop1
      rw [cond_df (by rw [hl]; omega)]) rfl
  rw [H]; rfl
theorem timeStopped_ex {on stop drop hold : Int} (hr : RU on stop drop hold) (l : List Int) (h : l.length ≤ 1048576) (hv : VO l) : ∃ n, impl_TimeStopped (on, stop, drop, hold, ()) l = some (n, true) := ⟨_, timeStopped_yes hr l h hv⟩
theorem earliest_loop {on stop drop hold : Int} (hr : RU on stop drop hold) : ∀ (d : Nat) (n lv cm : Int), SU hold lv cm → rem hold lv cm = d → 0 ≤ n → n + d ≤ 1000 →
    iter (fun s => spec_EarliestFree_loop1 (on, stop, drop, hold, ()) s.1 s.2.1 s.2.2) (n, lv, cm) = some (n + d)
  | d, n, lv, cm, hs, he, h0, h1 => by
    by_cases hz : lv = 0
    · have hd : (d : Int) = 0 := by rw [← he]; simp [rem, hz]
      rw [show n + (d : Int) = n by omega]
      refine iter_out ?_
      show spec_EarliestFree_loop1 (on, stop, drop, hold, ()) n lv cm = _
      unfold spec_EarliestFree_loop1
      rw [cond_df (by omega)]
    · have hf := (nx_zero hr hs).2 hz
      cases d with
      | zero =>
        exfalso
        unfold rem at he
        rw [if_neg hz] at he
        split at he <;> omega
      | succ d =>
        have := earliest_loop hr d (n + 1) _ _ (nx_facts hr hs 0).1 (by rw [hf]; omega) (by omega) (by omega)
        rw [show n + ((d + 1 : Nat) : Int) = n + 1 + (d : Int) by omega]
        refine (iter_go ?_).trans this
        show spec_EarliestFree_loop1 (on, stop, drop, hold, ()) n lv cm = _
        unfold spec_EarliestFree_loop1
        rw [cond_dt (by omega), (nx_eq hr hs 0).1, Option.bind_some, w64_id (by omega) (by omega)]
theorem rem_range {hold lv cm : Int} (hs : SU hold lv cm) (hh : 1 ≤ hold ∧ hold ≤ 10) : 0 ≤ rem hold lv cm ∧ rem hold lv cm ≤ 20 ∧ (rem hold lv cm = 0 → lv = 0) := by
  unfold rem
  split
  · omega
  · split <;> omega
theorem earliest_yes {on stop drop hold lv cm : Int} (hr : RU on stop drop hold) (hs : SU hold lv cm) :
    spec_EarliestFree (on, stop, drop, hold, ()) (lv, cm, ()) = some (rem hold lv cm, true) ∧ impl_EarliestFree (on, stop, drop, hold, ()) (lv, cm, ()) = some (rem hold lv cm, true) := by
  have hrg := rem_range hs ⟨hr.2.2.2.2.2.1, hr.2.2.2.2.2.2⟩
  constructor
  · unfold spec_EarliestFree
    simp only [(state_eq on stop drop hold lv cm).1, Option.bind_some, decide_eq_true (show RU on stop drop hold ∧ SU hold lv cm from ⟨hr, hs⟩), Bool.not_true, cond_false]
    rw [earliest_loop hr (rem hold lv cm).toNat 0 lv cm hs (by omega) (by omega) (by omega), Option.bind_some]
    rw [show (0 : Int) + ((rem hold lv cm).toNat : Int) = rem hold lv cm by omega]
  · unfold impl_EarliestFree
    simp only [(state_eq on stop drop hold lv cm).2, Option.bind_some, decide_eq_true (show RU on stop drop hold ∧ SU hold lv cm from ⟨hr, hs⟩), Bool.not_true, cond_false]
    have hl : lv = 0 ∨ lv = 1 ∨ lv = 2 := by omega
    have key : w64 (w64 (lv * hold) - cm) = rem hold lv cm := by
      rcases hl with rfl | rfl | rfl
      · rw [w64_id (x := 0 * hold) (by omega) (by omega), w64_id (by omega) (by omega)]
        have := hs.2.2.2.2 rfl
        simp [rem]; omega
      · rw [w64_id (x := 1 * hold) (by omega) (by omega), w64_id (by omega) (by omega)]
        simp [rem]
      · rw [w64_id (x := 2 * hold) (by omega) (by omega), w64_id (by omega) (by omega)]
        simp [rem]
    rw [key]
theorem earliest_no (on stop drop hold lv cm : Int) (hn : ¬ (RU on stop drop hold ∧ SU hold lv cm)) :
    spec_EarliestFree (on, stop, drop, hold, ()) (lv, cm, ()) = some (0, false) ∧ impl_EarliestFree (on, stop, drop, hold, ()) (lv, cm, ()) = some (0, false) := by
  unfold spec_EarliestFree impl_EarliestFree
  simp only [(state_eq on stop drop hold lv cm).1, (state_eq on stop drop hold lv cm).2, Option.bind_some, decide_eq_false hn]
  exact ⟨rfl, rfl⟩
theorem zeros_get (n k : Nat) : (List.replicate n (0 : Int)).getD k 0 = 0 := by
  simp only [List.getD_eq_getElem?_getD, List.getElem?_replicate]
  split <;> rfl
theorem stk_zeros {on stop drop hold lv cm : Int} (hr : RU on stop drop hold) (hs : SU hold lv cm) (n : Nat) : ∀ k : Nat, (k : Int) ≤ rem hold lv cm →
    rem hold (stk on stop drop hold (List.replicate n 0) lv cm k).1 (stk on stop drop hold (List.replicate n 0) lv cm k).2 = rem hold lv cm - k
  | 0, _ => by simp [stk]
  | k + 1, hk => by
    have ih := stk_zeros hr hs n k (by omega)
    have hsk := stk_ok hr hs (List.replicate n 0) k
    have hne : (stk on stop drop hold (List.replicate n 0) lv cm k).1 ≠ 0 := fun h0 => by
      have : rem hold (stk on stop drop hold (List.replicate n 0) lv cm k).1 (stk on stop drop hold (List.replicate n 0) lv cm k).2 = 0 := by simp [rem, h0]
      omega
    have := (nx_zero hr hsk).2 hne
    simp only [stk, zeros_get]
    rw [this, ih]; omega

theorem vo_get {l : List Int} (hv : VO l) {k : Nat} (hk : k < l.length) : 0 ≤ l.getD k 0 ∧ l.getD k 0 ≤ 60 := by
  have h := (Bool.and_eq_true _ _ ▸ hv : l.all voteOk = true ∧ decide ((l.length : Int) ≤ 50) = true).1
  rw [List.all_eq_true] at h
  have := h (l.getD k 0) (by rw [getD_eq _ _ _ hk]; exact List.getElem_mem hk)
  simpa [voteOk] using this
theorem wloop {on stop drop hold lv cm : Int} (hr : RU on stop drop hold) (hs : SU hold lv cm) (l : List Int) (h : l.length ≤ 1048576) (hv : VO l) (e1 e2 : Int) (z : Bool) (hz : (decide (lv = (0 : Int)) && (decide (cm = (0 : Int)) && true)) = z) :
    iter (fun s => laws_FnWinds_loop1 s.1 s.2.1 s.2.2.1 s.2.2.2.1 s.2.2.2.2.1 s.2.2.2.2.2.1 s.2.2.2.2.2.2.1 s.2.2.2.2.2.2.2.1 s.2.2.2.2.2.2.2.2.1 s.2.2.2.2.2.2.2.2.2.1 s.2.2.2.2.2.2.2.2.2.2.1 s.2.2.2.2.2.2.2.2.2.2.2.1 s.2.2.2.2.2.2.2.2.2.2.2.2.1 s.2.2.2.2.2.2.2.2.2.2.2.2.2)
      (levs on stop drop hold l lv cm l.length, (0 : Int), (0 : Int), on, stop, drop, hold, lv, cm, l, e1, e2, lv, cm) =
    some (Sum.inr (cn z (levs on stop drop hold l lv cm l.length) l.length, on, stop, drop, hold, lv, cm, l, e1, e2, (stk on stop drop hold l lv cm l.length).1, (stk on stop drop hold l lv cm l.length).2)) := by
  have hl : (levs on stop drop hold l lv cm l.length).length = l.length := by simp [levs]
  refine iter_for l.length (fun k => (levs on stop drop hold l lv cm l.length, cn z (levs on stop drop hold l lv cm l.length) k, (k : Int), on, stop, drop, hold, lv, cm, l, e1, e2, (stk on stop drop hold l lv cm k).1, (stk on stop drop hold l lv cm k).2)) (fun k hk => ?_) ?_ rfl
  · show laws_FnWinds_loop1 (levs on stop drop hold l lv cm l.length) (cn z (levs on stop drop hold l lv cm l.length) k) (k : Int) on stop drop hold lv cm l e1 e2 (stk on stop drop hold l lv cm k).1 (stk on stop drop hold l lv cm k).2 = _
    have hsk := stk_ok hr hs l k
    have hg := levs_get on stop drop hold l lv cm l.length k hk
    have hf := nx_facts hr hsk (l.getD k 0)
    have hvk := vo_get hv hk
    have hwl : w64 ((stk on stop drop hold l lv cm k).1 - 1) = (stk on stop drop hold l lv cm k).1 - 1 := w64_id (by omega) (by omega)
    have hstk : stk on stop drop hold l lv cm (k + 1) = nx on stop drop hold (stk on stop drop hold l lv cm k).1 (stk on stop drop hold l lv cm k).2 (l.getD k 0) := rfl
    have hcn : cn z (levs on stop drop hold l lv cm l.length) (k + 1) = if z = true ∧ (nx on stop drop hold (stk on stop drop hold l lv cm k).1 (stk on stop drop hold l lv cm k).2 (l.getD k 0)).1 = 2 then w64 (cn z (levs on stop drop hold l lv cm l.length) k + 1) else cn z (levs on stop drop hold l lv cm l.length) k := by
      simp only [cn, hg, hstk]
    unfold laws_FnWinds_loop1
    rw [cond_dt (by omega), grd_pos (by omega), Int.toNat_natCast, (nextWind_yes hr hsk hvk).2, w64_nat (by omega), hwl]
    simp only [Option.bind_some, Bool.not_true, cond_false]
    rw [grd_pos (by rw [hl]; omega), cond_ndt (by rw [hg, hstk]), cond_df (by omega), grd_pos (by omega), hz]
    have go : ∀ (x : Int), (if z = true ∧ (nx on stop drop hold (stk on stop drop hold l lv cm k).1 (stk on stop drop hold l lv cm k).2 (l.getD k 0)).1 = 2 then w64 (cn z (levs on stop drop hold l lv cm l.length) k + 1) else cn z (levs on stop drop hold l lv cm l.length) k) = x →
        cn z (levs on stop drop hold l lv cm l.length) (k + 1) = x := fun x hx => hcn.trans hx
    by_cases hst : stop ≤ l.getD k 0
    · have h2 := hf.2.2 hst
      rw [cond_dt hst, cond_ndt h2]
      cases z with
      | true => simp only [cond_true]; rw [cond_dt h2, hcn, if_pos ⟨rfl, h2⟩, hstk]
      | false => simp only [cond_false]; rw [hcn, if_neg (by simp), hstk]
    · rw [cond_df hst]
      cases z with
      | true =>
        simp only [cond_true]
        by_cases h2 : (nx on stop drop hold (stk on stop drop hold l lv cm k).1 (stk on stop drop hold l lv cm k).2 (l.getD k 0)).1 = 2
        · rw [cond_dt h2, hcn, if_pos ⟨rfl, h2⟩, hstk]
        · rw [cond_df h2, hcn, if_neg (fun hh => h2 hh.2), hstk]
      | false => simp only [cond_false]; rw [hcn, if_neg (by simp), hstk]
  · show laws_FnWinds_loop1 (levs on stop drop hold l lv cm l.length) (cn z (levs on stop drop hold l lv cm l.length) l.length) (l.length : Int) on stop drop hold lv cm l e1 e2 (stk on stop drop hold l lv cm l.length).1 (stk on stop drop hold l lv cm l.length).2 = _
    unfold laws_FnWinds_loop1
    rw [cond_df (by omega)]
theorem zeros_vo (n : Nat) (hn : n ≤ 20) : VO (List.replicate n (0 : Int)) := by
  show (_ && _) = true
  rw [Bool.and_eq_true]
  refine ⟨?_, by simp; omega⟩
  rw [List.all_eq_true]
  intro x hx
  rw [List.eq_of_mem_replicate hx]
  rfl
theorem law_FnWinds (code : List Int) (hc : Ty.fit (.sl (.int .u8)) code) : laws_FnWinds code = some true := by
  have hl : code.length ≤ 1048576 := hc.1
  have hb : ∀ x ∈ code, 0 ≤ x ∧ x ≤ 255 := fun x hx => by
    have := hc.2 x hx
    exact this
  obtain ⟨on, stop, drop, hold, lv, cm, l, d1, hll⟩ := drawRunWind_ok code hb hl
  obtain ⟨on2, stop2, drop2, hold2, lv2, cm2, v2, d2⟩ := drawNextWind_ok code hb hl
  obtain ⟨on3, stop3, drop3, hold3, lv3, cm3, d3⟩ := drawEarliestFree_ok code hb hl
  have hlen : l.length ≤ 1048576 := by omega
  have tail : (fun (_ : Unit) => ((spec_DrawNextWind code).bind fun y76 => ((impl_NextWind (y76.1.1, y76.1.2.1, y76.1.2.2.1, y76.1.2.2.2.1, ()) (y76.2.1.1, y76.2.1.2.1, ()) y76.2.2).bind fun y77 => ((spec_NextWind (y76.1.1, y76.1.2.1, y76.1.2.2.1, y76.1.2.2.2.1, ()) (y76.2.1.1, y76.2.1.2.1, ()) y76.2.2).bind fun y78 => (cond (!(decide (y77.1.1 = y78.1.1) && (decide (y77.1.2.1 = y78.1.2.1) && true))) ((some false)) (cond (!(y77.2 == y78.2)) ((some false)) ((spec_DrawEarliestFree code).bind fun y79 => ((impl_EarliestFree (y79.1.1, y79.1.2.1, y79.1.2.2.1, y79.1.2.2.2.1, ()) (y79.2.1, y79.2.2.1, ())).bind fun y80 => ((spec_EarliestFree (y79.1.1, y79.1.2.1, y79.1.2.2.1, y79.1.2.2.2.1, ()) (y79.2.1, y79.2.2.1, ())).bind fun y81 => (cond (!decide (y80.1 = y81.1)) ((some false)) (cond (!(y80.2 == y81.2)) ((some false)) (cond y80.2 (grd (0 ≤ y80.1 ∧ y80.1 ≤ y80.1 ∧ (8 : Int) * y80.1 ≤ 140737488355328 ∧ y80.1 ≤ 140737488355328) (((impl_RunWind (y79.1.1, y79.1.2.1, y79.1.2.2.1, y79.1.2.2.2.1, ()) (y79.2.1, y79.2.2.1, ()) (List.replicate y80.1.toNat (0 : Int))).bind (Sum.elim (fun y83 => (some ((Tg.mk : Tg 6), false, y83.1, y83.2.1))) (fun y84 => (some ((Tg.mk : Tg 6), true, y84.2.1, y84.2.2.1))))).bind fun z85 => (cond z85.2.1 ((some (decide (z85.2.2.1 = (0 : Int))))) ((some false))))) ((some true)))))))))))))) () = some true := by
    obtain ⟨a, b, ok, n1, n2⟩ := nextWind_same on2 stop2 drop2 hold2 lv2 cm2 v2
    simp only [d2, d3, n1, n2, Option.bind_some, decide_true, Bool.and_true, Bool.not_true, cond_false, beq_self_eq_true]
    by_cases hs : RU on3 stop3 drop3 hold3 ∧ SU hold3 lv3 cm3
    · obtain ⟨hr, hs⟩ := hs
      have hrg := rem_range hs ⟨hr.2.2.2.2.2.1, hr.2.2.2.2.2.2⟩
      obtain ⟨f1, f2⟩ := earliest_yes hr hs
      have hz := stk_zeros hr hs (rem hold3 lv3 cm3).toNat (rem hold3 lv3 cm3).toNat (by omega)
      have hsk := stk_ok hr hs (List.replicate (rem hold3 lv3 cm3).toNat 0) (rem hold3 lv3 cm3).toNat
      have h0 := (rem_range hsk ⟨hr.2.2.2.2.2.1, hr.2.2.2.2.2.2⟩).2.2 (by rw [hz]; omega)
      have hlr : (List.replicate (rem hold3 lv3 cm3).toNat (0 : Int)).length = (rem hold3 lv3 cm3).toNat := by simp
      have hrun := (runWind_yes hr hs (List.replicate (rem hold3 lv3 cm3).toNat 0) (by rw [hlr]; omega) (zeros_vo _ (by omega))).2
      rw [hlr] at hrun
      simp only [f1, f2, Option.bind_some, decide_true, Bool.not_true, cond_false, cond_true, beq_self_eq_true]
      rw [grd_pos (by omega), hrun]
      simp only [Option.bind_some, Sum.elim_inr, cond_true, h0, decide_true]
    · obtain ⟨f1, f2⟩ := earliest_no on3 stop3 drop3 hold3 lv3 cm3 hs
      simp only [f1, f2, Option.bind_some, decide_true, Bool.not_true, cond_false, beq_self_eq_true]
  simp only [Bool.and_true] at tail
  unfold laws_FnWinds laws_vBig
  rw [Option.bind_some]
  by_cases hbig : (65536 : Int) < code.length
  · rw [cond_dt hbig]
  rw [cond_df hbig]
  simp only [d1, Option.bind_some]
  by_cases hs : (RU on stop drop hold ∧ SU hold lv cm) ∧ VO l
  · obtain ⟨⟨hr, hs⟩, hv⟩ := hs
    obtain ⟨e1, e2⟩ := runWind_yes hr hs l hlen hv
    have hlv : (levs on stop drop hold l lv cm l.length).length ≤ 1048576 := by simp [levs]; omega
    simp only [e1, e2, Option.bind_some, Sum.elim_inr, decide_true, Bool.and_true, Bool.not_true, cond_false, cond_true, beq_self_eq_true, vInts_eq _ hlv, isWindRule_eq, spec_IsWindRule, l12Rule_eq]
    rw [wloop hr hs l hlen hv _ _ _ rfl]
    by_cases hz : lv = 0 ∧ cm = 0
    · obtain ⟨rfl, rfl⟩ := hz
      simp only [Option.bind_some, Sum.elim_inr, timeStopped_yes hr l hlen hv, decide_true, Bool.and_true, Bool.not_true, cond_false, cond_true, joinx_go]
      exact tail
    · obtain ⟨n, hn⟩ := timeStopped_ex hr l hlen hv
      have hzf : (decide (lv = (0 : Int)) && decide (cm = (0 : Int))) = false := by
        rw [Bool.eq_false_iff]; simp; omega
      simp only [Option.bind_some, Sum.elim_inr, hn, decide_true, Bool.and_true, Bool.not_true, cond_false, hzf, joinx_go]
      exact tail
  · obtain ⟨e1, e2⟩ := runWind_no on stop drop hold lv cm l hlen hs
    simp only [e1, e2, Option.bind_some, Sum.elim_inl, decide_true, Bool.and_true, Bool.not_true, cond_false, beq_self_eq_true, vInts_eq [] (by simp), isWindRule_eq, spec_IsWindRule, l12Rule_eq, joinx_go]
    exact tail
end Go.Proofs.Ytplknllbpdookaa
