/-
  No step loses anybody: people, doors, neighbours; many steps one after the other.
-/
import Derived.Test.YtpopcdnjnligiaaM61
namespace Go.Proofs.Ytpopcdnjnligiaa
open Go.RowKit

/-- All people in the slots. -/
def sm (l : List Slot) : Int := (l.map fun s => s.2.2.1).sum
theorem sm_cons (s : Slot) (l : List Slot) : sm (s :: l) = s.2.2.1 + sm l := rfl
theorem sm_append (a b : List Slot) : sm (a ++ b) = sm a + sm b := by
  unfold sm; rw [List.map_append, List.sum_append]
theorem sm_take (l : List Slot) (k : Nat) (hk : k < l.length) : sm (l.take (k + 1)) = sm (l.take k) + ppl l k := by
  rw [List.take_succ_eq_append_getElem hk, sm_append, ppl, getD_eq _ _ _ hk]
  show sm (l.take k) + ((l[k]).2.2.1 + (0 : Int)) = sm (l.take k) + (l[k]).2.2.1
  omega
theorem sm_set : ∀ (l : List Slot) (i : Nat) (x : Slot), i < l.length → sm (l.set i x) = sm l - ppl l i + x.2.2.1
  | [], _, _, h => absurd h (by simp)
  | s :: l, 0, x, _ => by
    show x.2.2.1 + sm l = s.2.2.1 + sm l - s.2.2.1 + x.2.2.1
    omega
  | s :: l, i + 1, x, h => by
    have e := sm_set l i x (by simpa using h)
    show s.2.2.1 + sm (l.set i x) = s.2.2.1 + sm l - ppl l i + x.2.2.1
    omega
theorem sm_rot (l : List Slot) : sm (rot l) = sm l := by
  unfold rot
  rw [sm_append, Int.add_comm, ← sm_append, List.take_append_drop]
theorem sm_le (l : List Slot) (hp : ∀ k, k < l.length → 0 ≤ ppl l k ∧ ppl l k ≤ 8) : ∀ k, k ≤ l.length → 0 ≤ sm (l.take k) ∧ sm (l.take k) ≤ 8 * k
  | 0, _ => by
    rw [List.take_zero]
    show 0 ≤ (0 : Int) ∧ (0 : Int) ≤ 8 * ((0 : Nat) : Int)
    omega
  | k + 1, h => by
    have e := sm_le l hp k (by omega)
    have := hp k (by omega)
    rw [sm_take l k (by omega)]
    omega
def sB (l : List Slot) : Nat → Int
  | 0 => 0
  | k + 1 => if stat l k = true then sB l k else w64 (sB l k + ppl l k)
theorem sum_val (a : Ropeway) (h : a.2.1.length ≤ 10) (hp : ∀ k, k < a.2.1.length → 0 ≤ ppl a.2.1 k ∧ ppl a.2.1 k ≤ 8) : ∃ z, impl_Ropeway_peopleOn a = some (sm a.2.1, z) := by
  have H : iter (fun s => impl_Ropeway_peopleOn_loop1 a s.1 s.2.1 s.2.2) ((0 : Int), (0 : Int), (0 : Int)) = some (sm (a.2.1.take a.2.1.length), sB a.2.1 a.2.1.length) :=
    iter_for a.2.1.length (fun k => (sm (a.2.1.take k), sB a.2.1 k, (k : Int))) (fun k hk => by
      have hpk := hp k hk
      have hle := sm_le a.2.1 hp k (by omega)
      have hs : impl_Ropeway_isStation (a.1, a.2.1, a.2.2.1, a.2.2.2.1, a.2.2.2.2.1, ()) (k : Int) = some (stat a.2.1 k) := isStation_eq _ k
      have hw : w64 ((k : Int) + 1) = ((k + 1 : Nat) : Int) := w64_nat (by omega)
      have e1 : w64 (sm (a.2.1.take k) + ppl a.2.1 k) = sm (a.2.1.take (k + 1)) := by rw [sm_take _ _ hk, w64_id (by omega) (by omega)]
      have e2 : sB a.2.1 (k + 1) = if stat a.2.1 k = true then sB a.2.1 k else w64 (sB a.2.1 k + ppl a.2.1 k) := rfl
      show impl_Ropeway_peopleOn_loop1 a (sm (a.2.1.take k)) (sB a.2.1 k) (k : Int) = _
      unfold impl_Ropeway_peopleOn_loop1
      rw [cond_dt (by omega), grd_pos (by omega), hs, Option.bind_some, hw, ← e1, e2]
      cases stat a.2.1 k <;> rfl) (by
      show impl_Ropeway_peopleOn_loop1 a (sm (a.2.1.take a.2.1.length)) (sB a.2.1 a.2.1.length) (a.2.1.length : Int) = _
      unfold impl_Ropeway_peopleOn_loop1
      rw [cond_df (by omega)]) (by rw [List.take_zero]; rfl)
  refine ⟨sB a.2.1 a.2.1.length, ?_⟩
  unfold impl_Ropeway_peopleOn
  rw [H, List.take_length]; rfl
theorem peopleOn_val (a : Ropeway) (hg : gd a = true) : (∃ z, impl_PeopleOn a = some (sm a.2.1, z, true)) ∧ 0 ≤ sm a.2.1 ∧ sm a.2.1 ≤ 80 := by
  obtain ⟨m, l, w, t, d, u⟩ := a
  obtain ⟨_, hl, _, _, _, hk⟩ := gd_out hg
  have hl' : l.length ≤ 1048576 := by omega
  have e2 : impl_IsRopeway (m, l, w, t, d, ()) = some (gd (m, l, w, t, d, ())) := isRopeway_eq (m, l, w, t, d, ()) hl'
  have hg : gd (m, l, w, t, d, ()) = true := hg
  obtain ⟨z, s1⟩ := sum_val (m, l, w, t, d, ()) (by show l.length ≤ 10; omega) (fun k h => iOk_ppl (hk k h))
  have hb := sm_le l (fun k h => iOk_ppl (hk k h)) l.length (by omega)
  rw [List.take_length] at hb
  refine ⟨⟨z, ?_⟩, hb.1, by show sm l ≤ 80; omega⟩
  unfold impl_PeopleOn
  simp only [e2, hg, s1, Option.bind_some, Bool.not_true, cond_false]
theorem iOk_empty {l : List Slot} {k : Nat} (h : iOk l k = true) (h0 : cab l k = 0) : ppl l k = 0 := by
  have hp := iOk_ppl h
  simp only [iOk, Bool.and_eq_true] at h
  have h := h.2.2
  rw [if_pos h0] at h
  simp only [Bool.and_eq_true, Bool.not_eq_true', decide_eq_false_iff_not] at h
  omega
theorem iOk_stat {l : List Slot} {k : Nat} (h : iOk l k = true) (ho : opn l k = true) : stat l k = true := by
  have hc := iOk_opn h ho
  simp only [iOk, Bool.and_eq_true] at h
  have h := h.2.2
  rw [if_neg (by omega)] at h
  simp only [Bool.and_eq_true, ho, Bool.not_true, Bool.false_or] at h
  exact h.2.2
theorem iOk_next {l : List Slot} {k : Nat} (h : iOk l k = true) (hc : 0 < cab l k) : ¬ 0 < nxt l k := by
  simp only [iOk, Bool.and_eq_true] at h
  have h := h.2.2
  rw [if_neg (by omega)] at h
  simp only [Bool.and_eq_true, Bool.not_eq_true', decide_eq_false_iff_not] at h
  exact h.2.1
theorem conserve (a : Ropeway) (s : RopeStep) (hg : gd a = true) (y : Ropeway) (hy : outc a s = some y) : a.2.2.1 + sm a.2.1 + a.2.2.2.1 + a.2.2.2.2.1 = y.2.2.1 + sm y.2.1 + y.2.2.2.1 + y.2.2.2.2.1 := by
  obtain ⟨m, l, w, t, d, u⟩ := a
  obtain ⟨k, v, u'⟩ := s
  obtain ⟨hm, hl, hw, ht, hd, hk⟩ := gd_out hg
  unfold outc at hy
  split at hy
  case isFalse => cases hy
  rename_i hc
  have hy := Option.some.inj hy
  rw [Bool.and_eq_true] at hc
  have hc := hc.1
  subst hy
  unfold act at hc ⊢
  dsimp only at hc ⊢
  by_cases k1 : k = 1
  · simp only [if_pos k1]
  simp only [if_neg k1] at hc ⊢
  by_cases k2 : k = 2
  · simp only [if_pos k2, sm_rot]
  simp only [if_neg k2] at hc ⊢
  by_cases k3 : k = 3
  · simp only [if_pos k3] at hc ⊢
    have h0 := iOk_empty (hk 0 (by omega)) (of_decide_eq_true hc).2.2.1
    rw [sm_set _ _ _ (by omega), h0]
    dsimp only
    omega
  simp only [if_neg k3] at hc ⊢
  by_cases k4 : k = 4
  · simp only [if_pos k4] at hc ⊢
    have h0 := (of_decide_eq_true hc).2.2.2
    rw [sm_set _ _ _ (by omega), h0]
    dsimp only
    omega
  simp only [if_neg k4] at hc ⊢
  by_cases hv : 0 ≤ v ∧ v ≤ 1
  case neg => simp only [if_pos hv]
  simp only [if_neg (show ¬ ¬ (0 ≤ v ∧ v ≤ 1) from fun h => h hv)] at hc ⊢
  have hi := stn_in (l := l) (v := v) hl hv
  have hi' : (stn l v).toNat < l.length := by omega
  have hp := iOk_ppl (hk _ hi')
  by_cases k7 : k = 7
  · simp only [if_pos k7]
    unfold setS
    rw [sm_set _ _ _ hi']
    dsimp only
    omega
  simp only [if_neg k7] at hc ⊢
  have w1 : w64 (ppl l (stn l v).toNat + 1) = ppl l (stn l v).toNat + 1 := w64_id (by omega) (by omega)
  have w2 : w64 (ppl l (stn l v).toNat - 1) = ppl l (stn l v).toNat - 1 := w64_id (by omega) (by omega)
  have w3 : w64 (w - 1) = w - 1 := w64_id (by omega) (by omega)
  have w4 : w64 (t - 1) = t - 1 := w64_id (by omega) (by omega)
  have w5 : w64 (t + 1) = t + 1 := w64_id (by omega) (by omega)
  have w6 : w64 (d + 1) = d + 1 := w64_id (by omega) (by omega)
  by_cases k5 : k = 5
  · simp only [if_pos k5]
    unfold setS
    rw [sm_set _ _ _ hi', w1, w3, w4]
    by_cases v0 : v = 0
    · simp only [if_pos v0]; omega
    · simp only [if_neg v0]; omega
  simp only [if_neg k5] at hc ⊢
  by_cases k6 : k = 6
  · simp only [if_pos k6]
    unfold setS
    rw [sm_set _ _ _ hi', w2, w5, w6]
    by_cases v0 : v = 0
    · simp only [if_pos v0]; omega
    · simp only [if_neg v0]; omega
  simp only [if_neg k6]

/-- Doors stand open at stations only. -/
theorem opnL_mem {l : List Slot} {n : Nat} {x : Int} (h : x ∈ opnL l n) : ∃ j, j < n ∧ opn l j = true ∧ x = (j : Int) := by
  unfold opnL at h
  obtain ⟨j, hj, e⟩ := List.mem_map.1 h
  obtain ⟨h1, h2⟩ := List.mem_filter.1 hj
  exact ⟨j, by simpa using h1, h2, e.symm⟩
theorem loopDoors (m : Int) (l : List Slot) (w t d : Int) (hl : 4 ≤ l.length ∧ l.length ≤ 10) (hk : ∀ k, k < l.length → iOk l k = true) :
    iter (fun s => laws_FnRopeways_loop1 s.1 s.2.1 s.2.2.1 s.2.2.2.1 s.2.2.2.2.1 s.2.2.2.2.2.1 s.2.2.2.2.2.2) (opnL l l.length, (0 : Int), m, l, w, t, d) = some (Sum.inr (m, l, w, t, d)) := by
  have hle := opnL_le l l.length
  refine iter_for (opnL l l.length).length (fun k => (opnL l l.length, (k : Int), m, l, w, t, d)) (fun k hk' => ?_) ?_ rfl
  · show laws_FnRopeways_loop1 (opnL l l.length) (k : Int) m l w t d = _
    unfold laws_FnRopeways_loop1
    have hi : 0 ≤ (k : Int) ∧ (k : Int) < ((opnL l l.length).length : Int) := by omega
    have hmem : (opnL l l.length).getD k 0 ∈ opnL l l.length := by rw [getD_eq _ _ _ hk']; exact List.getElem_mem hk'
    obtain ⟨j, hj, ho, e⟩ := opnL_mem hmem
    have hst := iOk_stat (hk j hj) ho
    rw [cond_dt hi.2, grd_pos hi, Int.toNat_natCast, e, w64_nat (by omega)]
    by_cases h0 : (j : Int) = 0
    · rw [cond_ndt h0]
    · rw [cond_ndf h0, grd_pos hi, grd_pos (by decide)]
      have h1 : (j : Int) = w64 (Int.tdiv (l.length : Int) 2) := by
        simp only [stat, Bool.or_eq_true, decide_eq_true_eq] at hst
        exact hst.resolve_left h0
      rw [cond_ndt h1]
  · show laws_FnRopeways_loop1 (opnL l l.length) ((opnL l l.length).length : Int) m l w t d = _
    unfold laws_FnRopeways_loop1
    rw [cond_df (by omega)]
theorem loopNext (m : Int) (l : List Slot) (w t d : Int) (hl : 4 ≤ l.length ∧ l.length ≤ 10) (hk : ∀ k, k < l.length → iOk l k = true) :
    iter (fun s => laws_FnRopeways_loop2 s.1 s.2.1 s.2.2.1 s.2.2.2.1 s.2.2.2.2.1 s.2.2.2.2.2) ((0 : Int), m, l, w, t, d) = some (Sum.inr ()) := by
  refine iter_for l.length (fun k => ((k : Int), m, l, w, t, d)) (fun k hk' => ?_) ?_ rfl
  · show laws_FnRopeways_loop2 (k : Int) m l w t d = _
    unfold laws_FnRopeways_loop2
    have hi := tmod_in l k hk' (by omega)
    have hw : w64 ((k : Int) + 1) = ((k + 1 : Nat) : Int) := w64_nat (by omega)
    rw [cond_dt (by omega), grd_pos (by omega), Int.toNat_natCast]
    by_cases hc : 0 < cab l k
    · rw [cond_dt hc, grd_pos (by omega), grd_pos hi, cond_df (iOk_next (hk k hk') hc), hw]
    · rw [cond_df hc, hw]
  · show laws_FnRopeways_loop2 (l.length : Int) m l w t d = _
    unfold laws_FnRopeways_loop2
    rw [cond_df (by omega)]

theorem vSlots_eq (l : List Slot) (h : l.length ≤ 1048576) : laws_vSlots l l = some true := by
  unfold laws_vSlots
  rw [cond_ndt rfl]
  have H : iter (fun s => laws_vSlots_loop1 l l s) (0 : Int) = some (Sum.inr ()) :=
    iter_for l.length (fun k => (k : Int)) (fun k hk => by
      show laws_vSlots_loop1 l l (k : Int) = _
      unfold laws_vSlots_loop1
      rw [cond_dt (by omega), grd_pos (by omega), grd_pos (by omega), w64_nat (by omega)]
      simp) (by
      show laws_vSlots_loop1 l l (l.length : Int) = _
      unfold laws_vSlots_loop1
      rw [cond_df (by omega)]) rfl
  rw [H]; rfl
theorem vRopeway_eq (m : Int) (l : List Slot) (w t d : Int) (h : l.length ≤ 1048576) : laws_vRopeway (m, l, w, t, d, ()) (m, l, w, t, d, ()) = some true := by
  unfold laws_vRopeway
  rw [cond_dt rfl, cond_dt rfl, cond_dt rfl, cond_dt rfl]
  show (laws_vSlots l l).bind _ = _
  rw [vSlots_eq l h]; rfl

/-- Steps one after the other, those that may not be made left out. -/
noncomputable def runK (a : Ropeway) (ss : List RopeStep) : Nat → Ropeway × Nat
  | 0 => (a, 0)
  | k + 1 => match outc (runK a ss k).1 (ss.getD k d_RopeStep) with
    | none => runK a ss k
    | some y => (y, (runK a ss k).2 + 1)
theorem runK_none {a : Ropeway} {ss : List RopeStep} {k : Nat} (h : outc (runK a ss k).1 (ss.getD k d_RopeStep) = none) : runK a ss (k + 1) = runK a ss k := by
  show (match outc (runK a ss k).1 (ss.getD k d_RopeStep) with | none => runK a ss k | some y => (y, (runK a ss k).2 + 1)) = _
  rw [h]
theorem runK_some {a : Ropeway} {ss : List RopeStep} {k : Nat} {y : Ropeway} (h : outc (runK a ss k).1 (ss.getD k d_RopeStep) = some y) : runK a ss (k + 1) = (y, (runK a ss k).2 + 1) := by
  show (match outc (runK a ss k).1 (ss.getD k d_RopeStep) with | none => runK a ss k | some y => (y, (runK a ss k).2 + 1)) = _
  rw [h]
theorem runK_good (a : Ropeway) (ss : List RopeStep) (hg : gd a = true) : ∀ k, gd (runK a ss k).1 = true ∧ (runK a ss k).2 ≤ k
  | 0 => ⟨hg, Nat.le_refl _⟩
  | k + 1 => by
    obtain ⟨h1, h2⟩ := runK_good a ss hg k
    cases h : outc (runK a ss k).1 (ss.getD k d_RopeStep) with
    | none => rw [runK_none h]; exact ⟨h1, by omega⟩
    | some y => rw [runK_some h]; exact ⟨outc_good _ _ _ h, by show (runK a ss k).2 + 1 ≤ k + 1; omega⟩
theorem gd_len {a : Ropeway} (hg : gd a = true) : a.2.1.length ≤ 1048576 := by
  obtain ⟨m, l, w, t, d, u⟩ := a
  obtain ⟨_, hl, _⟩ := gd_out hg
  show l.length ≤ 1048576
  omega
theorem run_impl (a : Ropeway) (ss : List RopeStep) (h : a.2.1.length ≤ 1048576) : impl_RunRopeway a ss = some (if gd a = true ∧ ss.length ≤ 40 then .inr ((runK a ss ss.length).1, ((runK a ss ss.length).2 : Int)) else .inl ((0, [], 0, 0, 0, ()), 0)) := by
  have e2 : impl_IsRopeway (a.1, a.2.1, a.2.2.1, a.2.2.2.1, a.2.2.2.2.1, ()) = some (gd a) := isRopeway_eq a h
  unfold impl_RunRopeway
  rw [e2, Option.bind_some]
  cases hg : gd a
  · rw [if_neg (by simp)]; rfl
  rw [Bool.not_true, cond_false]
  by_cases hn : (40 : Int) < (ss.length : Int)
  · rw [cond_dt hn, if_neg (by omega)]
  rw [cond_df hn, if_pos ⟨rfl, by omega⟩]
  have e4 : impl_copyRopeway (a.1, a.2.1, a.2.2.1, a.2.2.2.1, a.2.2.2.2.1, ()) = some a := by
    obtain ⟨m, l, w, t, d, u⟩ := a
    obtain ⟨_, hl, _⟩ := gd_out hg
    unfold impl_copyRopeway
    dsimp only
    rw [clone_eq l (by omega)]; rfl
  rw [e4, Option.bind_some]
  have H : iter (fun s : Int × Int × Int × Int × Int × Int × List Slot => impl_RunRopeway_loop1 ss s.1 s.2.1 s.2.2.1 s.2.2.2.1 s.2.2.2.2.1 s.2.2.2.2.2.1 s.2.2.2.2.2.2) ((0 : Int), (0 : Int), a.1, a.2.2.1, a.2.2.2.1, a.2.2.2.2.1, a.2.1) = some ((((runK a ss ss.length).2 : Nat) : Int), (runK a ss ss.length).1.1, (runK a ss ss.length).1.2.2.1, (runK a ss ss.length).1.2.2.2.1, (runK a ss ss.length).1.2.2.2.2.1, (runK a ss ss.length).1.2.1) :=
    iter_for ss.length (fun k => ((((runK a ss k).2 : Nat) : Int), (k : Int), (runK a ss k).1.1, (runK a ss k).1.2.2.1, (runK a ss k).1.2.2.2.1, (runK a ss k).1.2.2.2.2.1, (runK a ss k).1.2.1)) (fun k hk => by
      obtain ⟨hgd, hle⟩ := runK_good a ss hg k
      have es := step_eq (runK a ss k).1 (ss.getD k d_RopeStep) hgd
      have hw : w64 ((k : Int) + 1) = ((k + 1 : Nat) : Int) := w64_nat (by omega)
      have es : impl_Ropeway_step ((runK a ss k).1.1, (runK a ss k).1.2.1, (runK a ss k).1.2.2.1, (runK a ss k).1.2.2.2.1, (runK a ss k).1.2.2.2.2.1, ()) ((ss.getD k d_RopeStep).1, (ss.getD k d_RopeStep).2.1, ()) = _ := es
      dsimp only
      unfold impl_RunRopeway_loop1
      have hkk : 0 ≤ (k : Int) ∧ (k : Int) < (ss.length : Int) := by omega
      rw [cond_dt (by omega), grd_pos hkk, hw, Int.toNat_natCast, es, Option.bind_some]
      cases ho : outc (runK a ss k).1 (ss.getD k d_RopeStep) with
      | none => rw [runK_none ho]; rfl
      | some y =>
        rw [runK_some ho]
        have hw2 : w64 ((((runK a ss k).2 : Nat) : Int) + 1) = (((runK a ss k).2 + 1 : Nat) : Int) := w64_nat (by omega)
        rw [Option.elim_some, Sum.elim_inr, hw2]) (by
      dsimp only
      unfold impl_RunRopeway_loop1
      rw [cond_df (by omega)]) rfl
  rw [H, Option.bind_some]
theorem loopRun (n m2 : Int) (l2 : List Slot) (w2 t2 d2 : Int) (a : Ropeway) (ss : List RopeStep) (hg : gd a = true) (hs : ss.length ≤ 40) :
    iter (fun s : Int × Int × Int × (List RopeStep) × Int × (List Slot) × Int × Int × Int × Int × (List Slot) × Int × Int × Int => laws_FnRopeways_loop3 s.1 s.2.1 s.2.2.1 s.2.2.2.1 s.2.2.2.2.1 s.2.2.2.2.2.1 s.2.2.2.2.2.2.1 s.2.2.2.2.2.2.2.1 s.2.2.2.2.2.2.2.2.1 s.2.2.2.2.2.2.2.2.2.1 s.2.2.2.2.2.2.2.2.2.2.1 s.2.2.2.2.2.2.2.2.2.2.2.1 s.2.2.2.2.2.2.2.2.2.2.2.2.1 s.2.2.2.2.2.2.2.2.2.2.2.2.2)
      (n, (0 : Int), (0 : Int), ss, m2, l2, w2, t2, d2, a.1, a.2.1, a.2.2.1, a.2.2.2.1, a.2.2.2.2.1)
      = some (n, (((runK a ss ss.length).2 : Nat) : Int), m2, l2, w2, t2, d2, (runK a ss ss.length).1.1, (runK a ss ss.length).1.2.1, (runK a ss ss.length).1.2.2.1, (runK a ss ss.length).1.2.2.2.1, (runK a ss ss.length).1.2.2.2.2.1) := by
  refine iter_for ss.length (fun k => (n, (((runK a ss k).2 : Nat) : Int), (k : Int), ss, m2, l2, w2, t2, d2, (runK a ss k).1.1, (runK a ss k).1.2.1, (runK a ss k).1.2.2.1, (runK a ss k).1.2.2.2.1, (runK a ss k).1.2.2.2.2.1)) (fun k hk => ?_) ?_ rfl
  · obtain ⟨hgd, hle⟩ := runK_good a ss hg k
    have hw : w64 ((k : Int) + 1) = ((k + 1 : Nat) : Int) := w64_nat (by omega)
    have es : impl_StepRopeway ((runK a ss k).1.1, (runK a ss k).1.2.1, (runK a ss k).1.2.2.1, (runK a ss k).1.2.2.2.1, (runK a ss k).1.2.2.2.2.1, ()) ((ss.getD k d_RopeStep).1, (ss.getD k d_RopeStep).2.1, ()) = _ := implStep (runK a ss k).1 (ss.getD k d_RopeStep) (gd_len hgd) hgd
    dsimp only
    unfold laws_FnRopeways_loop3
    have hkk : 0 ≤ (k : Int) ∧ (k : Int) < (ss.length : Int) := by omega
    rw [cond_dt (by omega), grd_pos hkk, hw, Int.toNat_natCast, es, Option.bind_some]
    cases ho : outc (runK a ss k).1 (ss.getD k d_RopeStep) with
    | none => rw [runK_none ho]; rfl
    | some y =>
      rw [runK_some ho]
      have hw2 : w64 ((((runK a ss k).2 : Nat) : Int) + 1) = (((runK a ss k).2 + 1 : Nat) : Int) := w64_nat (by omega)
      rw [Option.elim_some, Sum.elim_inr, hw2]
  · dsimp only
    unfold laws_FnRopeways_loop3
    rw [cond_df (by omega)]
end Go.Proofs.Ytpopcdnjnligiaa
