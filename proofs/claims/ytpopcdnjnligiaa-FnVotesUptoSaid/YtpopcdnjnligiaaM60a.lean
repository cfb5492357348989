/-
  Plain laws of wind rules and votes.
-/
import Derived.Test.YtpopcdnjnligiaaD60
import Derived.Test.YtpopcdnjnligiaaO1
namespace Go.Proofs.Ytpopcdnjnligiaa
open Go.RowKit

theorem l1In_eq (a lo hi : Int) : spec_l1In a lo hi = some (decide (lo ≤ a ∧ a ≤ hi)) := by
  unfold spec_l1In
  by_cases h : lo ≤ a
  · rw [cond_dt h]; simp [h]
  · rw [cond_df h]; simp [h]
theorem within_eq (a lo hi : Int) : impl_within a lo hi = some (decide (lo ≤ a ∧ a ≤ hi)) := by
  unfold impl_within
  by_cases h : lo ≤ a
  · rw [cond_dt h]; simp [h]
  · rw [cond_df h]; simp [h]
def voteOk (x : Int) : Bool := decide ((0 : Int) ≤ x ∧ x ≤ 60)
theorem l12Votes_eq (l : List Int) (h : l.length ≤ 1048576) : spec_l12Votes l = some (l.all voteOk && decide ((l.length : Int) ≤ 50)) := by
  unfold spec_l12Votes
  have H : iter (fun s => spec_l12Votes_loop1 l s) (0 : Int) = some (if l.all voteOk then Sum.inr () else Sum.inl ()) :=
    iter_all l voteOk 0 (fun k => (k : Int)) (fun k hk => by
      show spec_l12Votes_loop1 l (k : Int) = _
      unfold spec_l12Votes_loop1
      rw [cond_dt (by omega), grd_pos (by omega), w64_nat (by omega)]
      show (spec_l12Vote (l.getD k 0)).bind _ = _
      unfold spec_l12Vote
      rw [l1In_eq]
      show cond (!voteOk (l.getD k 0)) _ _ = _
      cases voteOk (l.getD k 0) <;> rfl) (by
      show spec_l12Votes_loop1 l (l.length : Int) = _
      unfold spec_l12Votes_loop1
      rw [cond_df (by omega)]) rfl
  rw [H]; cases l.all voteOk <;> rfl
theorem allIn_eq (l : List Int) (h : l.length ≤ 1048576) : impl_allIn l 0 60 = some (l.all voteOk) := by
  unfold impl_allIn
  have H : iter (fun s => impl_allIn_loop1 l 0 60 s) (0 : Int) = some (if l.all voteOk then Sum.inr () else Sum.inl ()) :=
    iter_all l voteOk 0 (fun k => (k : Int)) (fun k hk => by
      show impl_allIn_loop1 l 0 60 (k : Int) = _
      unfold impl_allIn_loop1
      rw [cond_dt (by omega), grd_pos (by omega), w64_nat (by omega)]
      show (impl_within (l.getD k 0) 0 60).bind _ = _
      rw [within_eq]
      show cond (!voteOk (l.getD k 0)) _ _ = _
      cases voteOk (l.getD k 0) <;> rfl) (by
      show impl_allIn_loop1 l 0 60 (l.length : Int) = _
      unfold impl_allIn_loop1
      rw [cond_df (by omega)]) rfl
  rw [H]; cases l.all voteOk <;> rfl
theorem areVotes_eq (l : List Int) (h : l.length ≤ 1048576) : impl_areVotes l = some (l.all voteOk && decide ((l.length : Int) ≤ 50)) := by
  unfold impl_areVotes
  by_cases h5 : (l.length : Int) ≤ 50
  · rw [cond_dt h5, allIn_eq l h]; simp [h5]
  · rw [cond_df h5]; simp [h5]

def ruleOk (a : WindRule) : Bool := decide ((2 : Int) ≤ a.1 ∧ a.1 < a.2.1 ∧ a.2.1 ≤ 60 ∧ 1 ≤ a.2.2.1 ∧ a.2.2.1 ≤ a.1 - 1 ∧ 1 ≤ a.2.2.2.1 ∧ a.2.2.2.1 ≤ 10)
theorem l12Rule_eq (a : WindRule) : spec_l12Rule a = some (ruleOk a) := by
  obtain ⟨on, stop, drop, calm, u⟩ := a
  simp only [spec_l12Rule, l1In_eq, Option.bind_some, Bool.cond_decide, w64, IntKind.wrap_i64, ruleOk]
  repeat' split
  all_goals refine congrArg some ?_
  all_goals first
    | exact (decide_eq_false (by omega)).symm
    | (apply decide_eq_decide.2; omega)
theorem isWindRule_eq (a : WindRule) : impl_IsWindRule a = some (ruleOk a) := by
  obtain ⟨on, stop, drop, calm, u⟩ := a
  simp only [impl_IsWindRule, within_eq, Option.bind_some, Bool.cond_decide, w64, IntKind.wrap_i64, ruleOk]
  repeat' split
  all_goals refine congrArg some ?_
  all_goals first
    | exact (decide_eq_false (by omega)).symm
    | (apply decide_eq_decide.2; omega)

theorem wnext_ok (a : WindRule) (lv cm v : Int) (h : lv = 0 → cm = 0) : ∃ y : WindState, spec_l12Next a (lv, cm, ()) v = some y ∧ impl_WindRule_next a (lv, cm, ()) v = some y ∧ (y.1 = 0 → y.2.1 = 0) := by
  obtain ⟨on, stop, drop, calm, u⟩ := a
  unfold spec_l12Next impl_WindRule_next
  simp only [Bool.cond_decide]
  by_cases h1 : stop ≤ v
  · by_cases h2 : lv = 2 <;> simp [h1, h2]
  · by_cases h2 : lv = 0
    · have := h h2
      subst h2 this
      by_cases h3 : on ≤ v <;> simp [h1, h3]
    · by_cases h4 : lv = 2
      · subst h4
        by_cases h5 : w64 (stop - drop) ≤ v <;> by_cases h6 : w64 (cm + 1) = calm <;> simp [h1, h5, h6]
      · by_cases h5 : w64 (on - drop) ≤ v <;> by_cases h6 : w64 (cm + 1) = calm <;> simp [h1, h2, h4, h5, h6]
theorem run_ok (a : WindRule) (l : List Int) (h : l.length ≤ 1048576) (lv0 cm0 : Int) (h0 : lv0 = 0 → cm0 = 0) : ∃ y, spec_l12Run a (lv0, cm0, ()) l = some y ∧ impl_WindRule_run a (lv0, cm0, ()) l = some y ∧ y.1.length = l.length := by
  obtain ⟨r, r', e1, e2, rfl, hn⟩ := iter_rel (f := fun s => spec_l12Run_loop1 a l s.1 s.2.1 s.2.2.1 s.2.2.2) (g := fun s => impl_WindRule_run_loop1 a l s.1 s.2.1 s.2.2.1 s.2.2.2)
    (fun (k : Nat) s t => ∃ (lv cm : Int) (acc : List Int), s = ((k : Int), lv, cm, acc) ∧ t = ((k : Int), lv, cm, acc) ∧ acc.length = k ∧ (lv = 0 → cm = 0))
    (fun r r' => r = r' ∧ r.2.2.length = l.length) l.length
    (by
      rintro k _ _ hk ⟨lv, cm, acc, rfl, rfl, hac, hlv⟩
      refine .inl ?_
      obtain ⟨⟨lv', cm', u⟩, n1, n2, n3⟩ := wnext_ok a lv cm (l.getD k 0) hlv
      refine ⟨_, _, ?_, ?_, lv', cm', acc ++ [lv'], rfl, rfl, by simp [hac], n3⟩
      · show spec_l12Run_loop1 a l (k : Int) lv cm acc = _
        unfold spec_l12Run_loop1
        rw [cond_dt (by omega), grd_pos (by omega), w64_nat (by omega)]
        show (spec_l12Next a (lv, cm, ()) (l.getD k 0)).bind _ = _
        rw [n1, Option.bind_some, grd_pos (by simp; omega)]
      · show impl_WindRule_run_loop1 a l (k : Int) lv cm acc = _
        unfold impl_WindRule_run_loop1
        rw [cond_dt (by omega), grd_pos (by omega), w64_nat (by omega)]
        show (impl_WindRule_next a (lv, cm, ()) (l.getD k 0)).bind _ = _
        rw [n2, Option.bind_some, grd_pos (by simp; omega)])
    (by
      rintro _ _ ⟨lv, cm, acc, rfl, rfl, hac, hlv⟩
      refine ⟨(lv, cm, acc), (lv, cm, acc), ?_, ?_, rfl, hac⟩
      · show spec_l12Run_loop1 a l (l.length : Int) lv cm acc = _
        unfold spec_l12Run_loop1
        rw [cond_df (by omega)]
      · show impl_WindRule_run_loop1 a l (l.length : Int) lv cm acc = _
        unfold impl_WindRule_run_loop1
        rw [cond_df (by omega)])
    (s := ((0 : Int), lv0, cm0, [])) (t := ((0 : Int), lv0, cm0, [])) ⟨lv0, cm0, [], rfl, rfl, rfl, h0⟩
  refine ⟨(r.2.2, (r.1, r.2.1, ())), ?_, ?_, hn⟩
  · unfold spec_l12Run; rw [e1]; rfl
  · unfold impl_WindRule_run; rw [e2]; rfl

theorem ruleOk_out {on stop drop calm : Int} {u : Unit} (h : ruleOk (on, stop, drop, calm, u) = true) : 2 ≤ on ∧ on < stop ∧ stop ≤ 60 ∧ 1 ≤ drop ∧ drop ≤ on - 1 ∧ 1 ≤ calm ∧ calm ≤ 10 := by
  simpa [ruleOk] using h

theorem windRule_ok (c : l1Cur) (n : Int) (h : CG c n) (hn : n ≤ 100000000) : Gives (spec_l1Cur_windRule c) (n + 12) (fun _ => True) := by
  obtain ⟨code, at', seed, u⟩ := c
  unfold spec_l1Cur_windRule
  refine gives_bind (among_ok _ n _ (by simp) h (by omega)) fun a1 c1 t1 s1 _ h => ?_
  dsimp only
  refine gives_bind (among_ok _ _ _ (by simp) h (by omega)) fun a2 c1 t1 s1 _ h => ?_
  dsimp only
  refine gives_bind (among_ok _ _ _ (by simp) h (by omega)) fun a3 c1 t1 s1 _ h => ?_
  dsimp only
  refine gives_bind (among_ok _ _ _ (by simp) h (by omega)) fun a4 c1 t1 s1 _ h => ?_
  dsimp only
  refine gives_bind (pick_ok _ _ _ h (by omega)) fun a5 c1 t1 s1 _ h => ?_
  dsimp only
  refine gives_cond (fun _ => ?_) (fun _ => gives_cond (fun _ => ?_) (fun _ => gives_cond (fun _ => ?_) (fun _ => gives_cond (fun _ => ?_) (fun _ => ?_))))
  · exact gives_bind (among_ok _ _ _ (by simp) h (by omega)) fun a6 c1 t1 s1 _ h => Gives.ret (h.up (by omega)) trivial
  · exact gives_bind (among_ok _ _ _ (by simp) h (by omega)) fun a6 c1 t1 s1 _ h => Gives.ret (h.up (by omega)) trivial
  · exact gives_bind (among_ok _ _ _ (by simp) h (by omega)) fun a6 c1 t1 s1 _ h => Gives.ret (h.up (by omega)) trivial
  · exact gives_bind (among_ok _ _ _ (by simp) h (by omega)) fun a6 c1 t1 s1 _ h => Gives.ret (h.up (by omega)) trivial
  · exact Gives.ret (h.up (by omega)) trivial
theorem l1Most_ok (a b : Int) : ∃ y, spec_l1Most a b = some y := by
  unfold spec_l1Most
  by_cases h : b < a
  · rw [cond_dt h]; exact ⟨_, rfl⟩
  · rw [cond_df h]; exact ⟨_, rfl⟩
theorem votes_loop1 : ∀ (d : Nat) (code : List Int) (at' seed : Int) (acc : List Int) (n : Int), CG (code, at', seed, ()) n → n + 2 * d ≤ 100000000 → acc.length + d ≤ 1000000 → d ≤ 1000000 →
    ∃ code' at2 seed' acc', iter (fun s => spec_l1Cur_votes_loop1 s.1 s.2.1 s.2.2.1 s.2.2.2.1 s.2.2.2.2) ((d : Int), code, at', seed, acc) = some (code', at2, seed', acc') ∧ CG (code', at2, seed', ()) (n + 2 * d) ∧ acc'.length = acc.length + d
  | 0, code, at', seed, acc, n, h, _, _, _ => ⟨code, at', seed, acc, iter_out (by
      show spec_l1Cur_votes_loop1 (0 : Int) code at' seed acc = _
      unfold spec_l1Cur_votes_loop1
      rw [cond_df (by omega)]), h.up (by omega), rfl⟩
  | d + 1, code, at', seed, acc, n, h, hn, ha, hd => by
    obtain ⟨v, ⟨c1, t1, s1, u1⟩, e, hc, _⟩ := among_ok (code, at', seed, ()) n [(0 : Int), (3 : Int), (5 : Int), (8 : Int), (9 : Int), (10 : Int), (11 : Int), (12 : Int), (14 : Int), (15 : Int), (17 : Int), (18 : Int), (20 : Int), (30 : Int)] (by simp) h (by omega)
    obtain ⟨c2, t2, s2, acc2, e2, h2, l2⟩ := votes_loop1 d c1 t1 s1 (acc ++ [v]) (n + 2) hc (by omega) (by simp; omega) (by omega)
    refine ⟨c2, t2, s2, acc2, (iter_go ?_).trans e2, h2.up (by omega), by simp at l2; omega⟩
    show spec_l1Cur_votes_loop1 ((d + 1 : Nat) : Int) code at' seed acc = _
    unfold spec_l1Cur_votes_loop1
    rw [cond_dt (by omega), e, Option.bind_some, grd_pos (by simp; omega), w64_id (by omega) (by omega)]
    rw [show ((d + 1 : Nat) : Int) - 1 = (d : Int) by omega]
theorem votes_loop2 : ∀ (d : Nat) (code : List Int) (at' seed : Int) (acc : List Int) (n : Int), CG (code, at', seed, ()) n → n + 2 * d ≤ 10000000 → 51 ≤ acc.length + d → acc.length ≤ 1000 →
    ∃ code' at2 seed' acc', iter (fun s => spec_l1Cur_votes_loop2 s.1 s.2.1 s.2.2.1 s.2.2.2) (code, at', seed, acc) = some (code', at2, seed', acc') ∧ CG (code', at2, seed', ()) (n + 2 * d + 2) ∧ acc'.length ≤ 1000
  | d, code, at', seed, acc, n, h, hn, ha, hb => by
    obtain ⟨v, ⟨c1, t1, s1, u1⟩, e, hc, hv⟩ := pick_ok (code, at', seed, ()) n 2 h (by omega)
    have hv : 0 ≤ v ∧ v < 2 := by omega
    have hw : w64 ((50 : Int) + v) = 50 + v := w64_id (by omega) (by omega)
    by_cases hl : (acc.length : Int) < 50 + v
    · cases d with
      | zero => omega
      | succ d =>
        obtain ⟨c2, t2, s2, acc2, e2, h2, l2⟩ := votes_loop2 d c1 t1 s1 (acc ++ [7]) (n + 2) hc (by omega) (by simp; omega) (by simp; omega)
        refine ⟨c2, t2, s2, acc2, (iter_go ?_).trans e2, h2.up (by omega), l2⟩
        show spec_l1Cur_votes_loop2 code at' seed acc = _
        unfold spec_l1Cur_votes_loop2
        rw [e, Option.bind_some, hw, cond_dt hl, grd_pos (by simp; omega)]
    · refine ⟨c1, t1, s1, acc, iter_out ?_, hc.up (by omega), hb⟩
      show spec_l1Cur_votes_loop2 code at' seed acc = _
      unfold spec_l1Cur_votes_loop2
      rw [e, Option.bind_some, hw, cond_df hl]
theorem votes_ok (c : l1Cur) (n : Int) (h : CG c n) (hn : n ≤ 1000000) : Gives (spec_l1Cur_votes c) (n + 1000) (fun l => l.length ≤ 1000) := by
  obtain ⟨code, at', seed, u⟩ := c
  unfold spec_l1Cur_votes
  refine gives_bind (pick_ok _ n _ h (by omega)) fun a1 c1 t1 s1 ha h => ?_
  dsimp only
  obtain ⟨d, rfl⟩ : ∃ d : Nat, a1 = (d : Int) := ⟨a1.toNat, by omega⟩
  obtain ⟨c2, t2, s2, acc2, e2, h2, l2⟩ := votes_loop1 d c1 t1 s1 [] _ h (by omega) (by simp; omega) (by omega)
  rw [e2, Option.bind_some]
  have l2 : acc2.length ≤ 20 := by simp at l2; omega
  dsimp only
  refine gives_bind (pick_ok _ _ _ h2 (by omega)) fun a1 c1 t1 s1 _ h => ?_
  dsimp only
  refine gives_cond (fun _ => ?_) (fun _ => gives_cond (fun _ => ?_) (fun _ => Gives.ret (h.up (by omega)) (by omega)))
  · refine gives_bind (among_ok _ _ _ (by simp) h (by omega)) fun a6 c1 t1 s1 _ h => ?_
    dsimp only
    exact gives_grd (by simp; omega) (Gives.ret (h.up (by omega)) (by simp; omega))
  · obtain ⟨c3, t3, s3, acc3, e3, h3, l3⟩ := votes_loop2 60 c1 t1 s1 acc2 _ h (by omega) (by omega) (by omega)
    rw [e3, Option.bind_some]
    exact Gives.ret (h3.up (by omega)) l3
theorem cg0 (code : List Int) (hb : ∀ x ∈ code, 0 ≤ x ∧ x ≤ 255) (hl : code.length ≤ 1048576) : CG (code, (0 : Int), (0 : Int), ()) 0 := ⟨hb, hl, by show (0 : Int) ≤ 0; omega, by show (0 : Int) ≤ 0; omega⟩
theorem vInts_eq (l : List Int) (h : l.length ≤ 1048576) : laws_vInts l l = some true := by
  unfold laws_vInts
  rw [cond_ndt rfl]
  have H : iter (fun s => laws_vInts_loop1 l l s) (0 : Int) = some (Sum.inr ()) :=
    iter_for l.length (fun k => (k : Int)) (fun k hk => by
      show laws_vInts_loop1 l l (k : Int) = _
      unfold laws_vInts_loop1
      rw [cond_dt (by omega), grd_pos (by omega), grd_pos (by omega), cond_ndt rfl, w64_nat (by omega)]) (by
      show laws_vInts_loop1 l l (l.length : Int) = _
      unfold laws_vInts_loop1
      rw [cond_df (by omega)]) rfl
  rw [H]; rfl
theorem timeStopped_ok (a : WindRule) (l : List Int) (h : l.length ≤ 1048576) : ∃ y, spec_TimeStopped a l = some y ∧ impl_TimeStopped a l = some y := by
  unfold spec_TimeStopped impl_TimeStopped
  rw [l12Rule_eq, isWindRule_eq, l12Votes_eq l h, areVotes_eq l h]
  obtain ⟨⟨m, st⟩, r1, r2, hm⟩ := run_ok (a.1, a.2.1, a.2.2.1, a.2.2.2.1, ()) l h 0 0 (fun _ => rfl)
  have hm : m.length = l.length := hm
  rw [r1, r2]
  simp only [Option.bind_some]
  cases ruleOk (a.1, a.2.1, a.2.2.1, a.2.2.2.1, ())
  · exact ⟨_, rfl, rfl⟩
  cases l.all voteOk && decide ((l.length : Int) ≤ 50)
  · exact ⟨_, rfl, rfl⟩
  obtain ⟨r, r', e1, e2, rfl⟩ := iter_rel (f := fun s => spec_TimeStopped_loop1 s.1 s.2.1 s.2.2) (g := fun s => impl_TimeStopped_loop1 s.1 s.2.1 s.2.2.1 s.2.2.2)
    (fun (k : Nat) s t => ∃ c : Int, s = (c, (k : Int), m) ∧ t = (c, (m.length : Int), (k : Int), m)) (fun r r' => r = r') m.length
    (by
      rintro k _ _ hk ⟨c, rfl, rfl⟩
      refine .inl ?_
      by_cases h2 : m.getD k 0 = 2
      · refine ⟨_, _, ?_, ?_, w64 (c + 1), rfl, rfl⟩
        · show spec_TimeStopped_loop1 c (k : Int) m = _
          unfold spec_TimeStopped_loop1
          rw [cond_dt (by omega), grd_pos (by omega), Int.toNat_natCast, cond_dt h2, w64_nat (by omega)]
        · show impl_TimeStopped_loop1 c (m.length : Int) (k : Int) m = _
          unfold impl_TimeStopped_loop1
          rw [cond_dt (by omega), grd_pos (by omega), Int.toNat_natCast, cond_dt h2, w64_nat (by omega)]
      · refine ⟨_, _, ?_, ?_, c, rfl, rfl⟩
        · show spec_TimeStopped_loop1 c (k : Int) m = _
          unfold spec_TimeStopped_loop1
          rw [cond_dt (by omega), grd_pos (by omega), Int.toNat_natCast, cond_df h2, w64_nat (by omega)]
        · show impl_TimeStopped_loop1 c (m.length : Int) (k : Int) m = _
          unfold impl_TimeStopped_loop1
          rw [cond_dt (by omega), grd_pos (by omega), Int.toNat_natCast, cond_df h2, w64_nat (by omega)])
    (by
      rintro _ _ ⟨c, rfl, rfl⟩
      refine ⟨c, c, ?_, ?_, rfl⟩
      · show spec_TimeStopped_loop1 c (m.length : Int) m = _
        unfold spec_TimeStopped_loop1
        rw [cond_df (by omega)]
      · show impl_TimeStopped_loop1 c (m.length : Int) (m.length : Int) m = _
        unfold impl_TimeStopped_loop1
        rw [cond_df (by omega)])
    (s := ((0 : Int), (0 : Int), m)) (t := ((0 : Int), (m.length : Int), (0 : Int), m)) ⟨0, rfl, rfl⟩
  simp only [e1, e2]
  exact ⟨_, rfl, rfl⟩
theorem compareRules_ok (a b : WindRule) (l : List Int) (h : l.length ≤ 1048576) : ∃ y, spec_CompareRules a b l = some y ∧ impl_CompareRules a b l = some y := by
  unfold spec_CompareRules impl_CompareRules
  rw [l12Rule_eq, isWindRule_eq, l12Rule_eq, isWindRule_eq, l12Votes_eq l h, areVotes_eq l h]
  obtain ⟨⟨m, st⟩, r1, r2, hm⟩ := run_ok (a.1, a.2.1, a.2.2.1, a.2.2.2.1, ()) l h 0 0 (fun _ => rfl)
  obtain ⟨⟨m', st'⟩, r1', r2', hm'⟩ := run_ok (b.1, b.2.1, b.2.2.1, b.2.2.2.1, ()) l h 0 0 (fun _ => rfl)
  rw [r1, r2, r1', r2']
  simp only [Option.bind_some]
  cases ruleOk (a.1, a.2.1, a.2.2.1, a.2.2.2.1, ())
  · exact ⟨_, rfl, rfl⟩
  cases ruleOk (b.1, b.2.1, b.2.2.1, b.2.2.2.1, ())
  · exact ⟨_, rfl, rfl⟩
  cases l.all voteOk && decide ((l.length : Int) ≤ 50)
  · exact ⟨_, rfl, rfl⟩
  have hm : m.length = l.length := hm
  have hm' : m'.length = l.length := hm'
  obtain ⟨r, r', e1, e2, rfl⟩ := iter_rel (f := fun s => spec_CompareRules_loop1 s.1 s.2.1 s.2.2.1 s.2.2.2) (g := fun s => impl_CompareRules_loop1 s.1 s.2.1 s.2.2.1 s.2.2.2.1 s.2.2.2.2)
    (fun (k : Nat) s t => ∃ c : Int, s = (c, (k : Int), m, m') ∧ t = (c, (m.length : Int), (k : Int), m, m')) (fun r r' => r = r') m.length
    (by
      rintro k _ _ hk ⟨c, rfl, rfl⟩
      refine .inl ?_
      by_cases h2 : m'.getD k 0 < m.getD k 0
      · refine ⟨_, _, ?_, ?_, w64 (c + 1), rfl, rfl⟩
        · show spec_CompareRules_loop1 c (k : Int) m m' = _
          unfold spec_CompareRules_loop1
          rw [cond_dt (by omega), grd_pos (by omega), grd_pos (by omega), Int.toNat_natCast, cond_dt h2, w64_nat (by omega)]
        · show impl_CompareRules_loop1 c (m.length : Int) (k : Int) m m' = _
          unfold impl_CompareRules_loop1
          rw [cond_dt (by omega), grd_pos (by omega), grd_pos (by omega), Int.toNat_natCast, cond_dt h2, w64_nat (by omega)]
      · refine ⟨_, _, ?_, ?_, c, rfl, rfl⟩
        · show spec_CompareRules_loop1 c (k : Int) m m' = _
          unfold spec_CompareRules_loop1
          rw [cond_dt (by omega), grd_pos (by omega), grd_pos (by omega), Int.toNat_natCast, cond_df h2, w64_nat (by omega)]
        · show impl_CompareRules_loop1 c (m.length : Int) (k : Int) m m' = _
          unfold impl_CompareRules_loop1
          rw [cond_dt (by omega), grd_pos (by omega), grd_pos (by omega), Int.toNat_natCast, cond_df h2, w64_nat (by omega)])
    (by
      rintro _ _ ⟨c, rfl, rfl⟩
      refine ⟨c, c, ?_, ?_, rfl⟩
      · show spec_CompareRules_loop1 c (m.length : Int) m m' = _
        unfold spec_CompareRules_loop1
        rw [cond_df (by omega)]
      · show impl_CompareRules_loop1 c (m.length : Int) (m.length : Int) m m' = _
        unfold impl_CompareRules_loop1
        rw [cond_df (by omega)])
    (s := ((0 : Int), (0 : Int), m, m')) (t := ((0 : Int), (m.length : Int), (0 : Int), m, m')) ⟨0, rfl, rfl⟩
  simp only [e1, e2]
  exact ⟨_, rfl, rfl⟩
end Go.Proofs.Ytpopcdnjnligiaa
