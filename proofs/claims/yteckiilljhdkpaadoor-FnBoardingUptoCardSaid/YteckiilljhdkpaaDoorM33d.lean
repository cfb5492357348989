/-
  The law FnBoarding.
-/
import Derived.Test.YteckiilljhdkpaaDoorM33c
namespace Go.Proofs.YteckiilljhdkpaaDoor
open Go.RowKit

theorem step_other (p : Platform) (k : ByteArray) (c : Int) (hk : k ∉ ([(ByteArray.mk #[99, 111, 109, 101]), (ByteArray.mk #[111, 112, 101, 110]), (ByteArray.mk #[115, 104, 117, 116]), (ByteArray.mk #[101, 110, 116, 101, 114]), (ByteArray.mk #[108, 101, 97, 118, 101]), (ByteArray.mk #[97, 114, 114, 105, 118, 101]), (ByteArray.mk #[108, 101, 118, 101, 108]), (ByteArray.mk #[103, 111])] : List ByteArray)) : impl_Platform_step p (k, c, ()) = some (p, false) := by
  have hk2 := hk
  simp only [List.mem_cons, List.not_mem_nil, or_false, not_or] at hk2
  obtain ⟨h1, h2, h3, h4, h5, h6, h7, h8⟩ := hk2
  unfold impl_Platform_step
  rw [isEvent_other k c hk, Option.bind_some, cond_df h1, cond_df h2, cond_df h3, cond_df h4, cond_df h5, cond_df h6, cond_df h7, cond_df h8]
  rfl
theorem mono (p : Platform) (hg : goodB p = true) (k : ByteArray) (c : Int) (q : Platform) (h : impl_Platform_step p (k, c, ()) = some (q, true)) :
    k ∈ ([(ByteArray.mk #[99, 111, 109, 101]), (ByteArray.mk #[111, 112, 101, 110]), (ByteArray.mk #[115, 104, 117, 116]), (ByteArray.mk #[101, 110, 116, 101, 114]), (ByteArray.mk #[108, 101, 97, 118, 101]), (ByteArray.mk #[97, 114, 114, 105, 118, 101]), (ByteArray.mk #[108, 101, 118, 101, 108]), (ByteArray.mk #[103, 111])] : List ByteArray) ∧ ∃ lo hi q', impl_boardCounts k = some (lo, hi) ∧ impl_Platform_step p (k, lo, ()) = some (q', true) := by
  by_cases hk : k ∈ ([(ByteArray.mk #[99, 111, 109, 101]), (ByteArray.mk #[111, 112, 101, 110]), (ByteArray.mk #[115, 104, 117, 116]), (ByteArray.mk #[101, 110, 116, 101, 114]), (ByteArray.mk #[108, 101, 97, 118, 101]), (ByteArray.mk #[97, 114, 114, 105, 118, 101]), (ByteArray.mk #[108, 101, 118, 101, 108]), (ByteArray.mk #[103, 111])] : List ByteArray)
  case neg => rw [step_other p k c hk] at h; cases h
  refine ⟨hk, ?_⟩
  obtain ⟨d, s, n, w, l, g, u⟩ := p
  have hg' := (goodB_iff d s n w g l).1 hg
  simp only [List.mem_cons, List.not_mem_nil, or_false] at hk
  rcases hk with rfl | rfl | rfl | rfl | rfl | rfl | rfl | rfl
  · have h2 := (step_come d s n w g l c hg).1.symm.trans h
    have hb := congrArg Prod.snd (Option.some.inj h2)
    refine ⟨1, 16, _, ?_, (step_come d s n w g l 1 hg).1.trans (congrArg (fun b => some (_, b)) ?_)⟩
    · unfold impl_boardCounts
      simp only [ne_come_enter, ne_come_leave, ne_come_arrive, decide_true, decide_false, cond_true, cond_false]
    · simp only [Bool.and_eq_true, decide_eq_true_eq] at hb ⊢
      omega
  · have h2 := (step_open d s n w g l c hg).1.symm.trans h
    have hb := congrArg Prod.snd (Option.some.inj h2)
    refine ⟨0, 0, _, ?_, (step_open d s n w g l 0 hg).1.trans (congrArg (fun b => some (_, b)) ?_)⟩
    · unfold impl_boardCounts
      simp only [ne_open_come, ne_open_enter, ne_open_leave, ne_open_arrive, decide_false, cond_false]
    · simp only [Bool.and_eq_true, decide_eq_true_eq, true_and] at hb ⊢
      omega
  · have h2 := (step_shut d s n w g l c hg).1.symm.trans h
    have hb := congrArg Prod.snd (Option.some.inj h2)
    refine ⟨0, 0, _, ?_, (step_shut d s n w g l 0 hg).1.trans (congrArg (fun b => some (_, b)) ?_)⟩
    · unfold impl_boardCounts
      simp only [ne_shut_come, ne_shut_enter, ne_shut_leave, ne_shut_arrive, decide_false, cond_false]
    · simp only [Bool.and_eq_true, decide_eq_true_eq, true_and] at hb ⊢
      omega
  · have h2 := (step_enter d s n w g l c hg).1.symm.trans h
    have hb := congrArg Prod.snd (Option.some.inj h2)
    refine ⟨1, 16, _, ?_, (step_enter d s n w g l 1 hg).1.trans (congrArg (fun b => some (_, b)) ?_)⟩
    · unfold impl_boardCounts
      simp only [ne_enter_come, ne_enter_leave, ne_enter_arrive, decide_true, decide_false, cond_true, cond_false]
    · simp only [Bool.and_eq_true, decide_eq_true_eq] at hb ⊢
      omega
  · have h2 := (step_leave d s n w g l c hg).1.symm.trans h
    have hb := congrArg Prod.snd (Option.some.inj h2)
    refine ⟨1, 16, _, ?_, (step_leave d s n w g l 1 hg).1.trans (congrArg (fun b => some (_, b)) ?_)⟩
    · unfold impl_boardCounts
      simp only [ne_leave_come, ne_leave_enter, ne_leave_arrive, decide_true, decide_false, cond_true, cond_false]
    · simp only [Bool.and_eq_true, decide_eq_true_eq] at hb ⊢
      omega
  · have h2 := (step_arrive d s n w g l c hg).1.symm.trans h
    have hb := congrArg Prod.snd (Option.some.inj h2)
    refine ⟨1, 100, _, ?_, (step_arrive d s n w g l 1 hg).1.trans (congrArg (fun b => some (_, b)) ?_)⟩
    · unfold impl_boardCounts
      simp only [ne_arrive_come, ne_arrive_enter, ne_arrive_leave, decide_true, decide_false, cond_true, cond_false]
    · simp only [Bool.and_eq_true, decide_eq_true_eq] at hb ⊢
      rw [w64_id (by omega) (by omega)] at hb
      rw [w64_id (by omega) (by omega)]
      omega
  · have h2 := (step_level d s n w g l c hg).1.symm.trans h
    have hb := congrArg Prod.snd (Option.some.inj h2)
    refine ⟨0, 0, _, ?_, (step_level d s n w g l 0 hg).1.trans (congrArg (fun b => some (_, b)) ?_)⟩
    · unfold impl_boardCounts
      simp only [ne_level_come, ne_level_enter, ne_level_leave, ne_level_arrive, decide_false, cond_false]
    · cases l
      · simp only [Bool.and_eq_true, decide_eq_true_eq, Bool.not_false, true_and] at hb ⊢
        omega
      · simp at hb
  · have h2 := (step_go d s n w g l c hg).1.symm.trans h
    have hb := congrArg Prod.snd (Option.some.inj h2)
    refine ⟨0, 0, _, ?_, (step_go d s n w g l 0 hg).1.trans (congrArg (fun b => some (_, b)) ?_)⟩
    · unfold impl_boardCounts
      simp only [ne_go_come, ne_go_enter, ne_go_leave, ne_go_arrive, decide_false, cond_false]
    · simp only [Bool.and_eq_true, decide_eq_true_eq, true_and] at hb ⊢
      omega
theorem possible_full (p : Platform) (hg : goodB p = true) :
    ∃ x, spec_PossibleKinds p = some (x, true) ∧ impl_PossibleKinds p = some (Sum.inr x) ∧ x.length ≤ 8 ∧ ∀ k c q, impl_Platform_step p (k, c, ()) = some (q, true) → k ∈ x := by
  unfold spec_PossibleKinds impl_PossibleKinds
  simp only [p_eta, good_eq, isPlat_eq, Option.bind_some, hg, Bool.not_true, cond_false]
  obtain ⟨y, y', d1, d2, rfl, hl, hall⟩ := iter_rel (f := fun s => spec_PossibleKinds_loop1 p s.1 s.2) (g := fun s => impl_PossibleKinds_loop1 p s.1 s.2)
    (fun (k : Nat) s t => ∃ m : List ByteArray, s = ((k : Int), m) ∧ t = ((k : Int), m) ∧ m.length ≤ k ∧ ∀ j, j < k → ∀ lo hi q, impl_boardCounts (([(ByteArray.mk #[99, 111, 109, 101]), (ByteArray.mk #[111, 112, 101, 110]), (ByteArray.mk #[115, 104, 117, 116]), (ByteArray.mk #[101, 110, 116, 101, 114]), (ByteArray.mk #[108, 101, 97, 118, 101]), (ByteArray.mk #[97, 114, 114, 105, 118, 101]), (ByteArray.mk #[108, 101, 118, 101, 108]), (ByteArray.mk #[103, 111])] : List ByteArray).getD j (ByteArray.mk #[])) = some (lo, hi) → impl_Platform_step p (([(ByteArray.mk #[99, 111, 109, 101]), (ByteArray.mk #[111, 112, 101, 110]), (ByteArray.mk #[115, 104, 117, 116]), (ByteArray.mk #[101, 110, 116, 101, 114]), (ByteArray.mk #[108, 101, 97, 118, 101]), (ByteArray.mk #[97, 114, 114, 105, 118, 101]), (ByteArray.mk #[108, 101, 118, 101, 108]), (ByteArray.mk #[103, 111])] : List ByteArray).getD j (ByteArray.mk #[]), lo, ()) = some (q, true) → ([(ByteArray.mk #[99, 111, 109, 101]), (ByteArray.mk #[111, 112, 101, 110]), (ByteArray.mk #[115, 104, 117, 116]), (ByteArray.mk #[101, 110, 116, 101, 114]), (ByteArray.mk #[108, 101, 97, 118, 101]), (ByteArray.mk #[97, 114, 114, 105, 118, 101]), (ByteArray.mk #[108, 101, 118, 101, 108]), (ByteArray.mk #[103, 111])] : List ByteArray).getD j (ByteArray.mk #[]) ∈ m)
    (fun r r' => r = r' ∧ r.length ≤ 8 ∧ ∀ j, j < 8 → ∀ lo hi q, impl_boardCounts (([(ByteArray.mk #[99, 111, 109, 101]), (ByteArray.mk #[111, 112, 101, 110]), (ByteArray.mk #[115, 104, 117, 116]), (ByteArray.mk #[101, 110, 116, 101, 114]), (ByteArray.mk #[108, 101, 97, 118, 101]), (ByteArray.mk #[97, 114, 114, 105, 118, 101]), (ByteArray.mk #[108, 101, 118, 101, 108]), (ByteArray.mk #[103, 111])] : List ByteArray).getD j (ByteArray.mk #[])) = some (lo, hi) → impl_Platform_step p (([(ByteArray.mk #[99, 111, 109, 101]), (ByteArray.mk #[111, 112, 101, 110]), (ByteArray.mk #[115, 104, 117, 116]), (ByteArray.mk #[101, 110, 116, 101, 114]), (ByteArray.mk #[108, 101, 97, 118, 101]), (ByteArray.mk #[97, 114, 114, 105, 118, 101]), (ByteArray.mk #[108, 101, 118, 101, 108]), (ByteArray.mk #[103, 111])] : List ByteArray).getD j (ByteArray.mk #[]), lo, ()) = some (q, true) → ([(ByteArray.mk #[99, 111, 109, 101]), (ByteArray.mk #[111, 112, 101, 110]), (ByteArray.mk #[115, 104, 117, 116]), (ByteArray.mk #[101, 110, 116, 101, 114]), (ByteArray.mk #[108, 101, 97, 118, 101]), (ByteArray.mk #[97, 114, 114, 105, 118, 101]), (ByteArray.mk #[108, 101, 118, 101, 108]), (ByteArray.mk #[103, 111])] : List ByteArray).getD j (ByteArray.mk #[]) ∈ r) 8
    (by
      rintro k _ _ hk ⟨m, rfl, rfl, hm, ha⟩
      have hlen : (([(ByteArray.mk #[99, 111, 109, 101]), (ByteArray.mk #[111, 112, 101, 110]), (ByteArray.mk #[115, 104, 117, 116]), (ByteArray.mk #[101, 110, 116, 101, 114]), (ByteArray.mk #[108, 101, 97, 118, 101]), (ByteArray.mk #[97, 114, 114, 105, 118, 101]), (ByteArray.mk #[108, 101, 118, 101, 108]), (ByteArray.mk #[103, 111])] : List ByteArray).length : Int) = 8 := rfl
      have hmem : ([(ByteArray.mk #[99, 111, 109, 101]), (ByteArray.mk #[111, 112, 101, 110]), (ByteArray.mk #[115, 104, 117, 116]), (ByteArray.mk #[101, 110, 116, 101, 114]), (ByteArray.mk #[108, 101, 97, 118, 101]), (ByteArray.mk #[97, 114, 114, 105, 118, 101]), (ByteArray.mk #[108, 101, 118, 101, 108]), (ByteArray.mk #[103, 111])] : List ByteArray).getD k (ByteArray.mk #[]) ∈ ([(ByteArray.mk #[99, 111, 109, 101]), (ByteArray.mk #[111, 112, 101, 110]), (ByteArray.mk #[115, 104, 117, 116]), (ByteArray.mk #[101, 110, 116, 101, 114]), (ByteArray.mk #[108, 101, 97, 118, 101]), (ByteArray.mk #[97, 114, 114, 105, 118, 101]), (ByteArray.mk #[108, 101, 118, 101, 108]), (ByteArray.mk #[103, 111])] : List ByteArray) := by
        rw [getD_eq _ k _ (by simpa using hk)]
        exact List.getElem_mem _
      obtain ⟨mo, lo, hi, C, q, e1, e2, e3, e4, e5⟩ := kind_ok p hg _ hmem
      have hS : spec_PossibleKinds_loop1 p (k : Int) m = some (.go (((k + 1 : Nat) : Int), cond C (m ++ [([(ByteArray.mk #[99, 111, 109, 101]), (ByteArray.mk #[111, 112, 101, 110]), (ByteArray.mk #[115, 104, 117, 116]), (ByteArray.mk #[101, 110, 116, 101, 114]), (ByteArray.mk #[108, 101, 97, 118, 101]), (ByteArray.mk #[97, 114, 114, 105, 118, 101]), (ByteArray.mk #[108, 101, 118, 101, 108]), (ByteArray.mk #[103, 111])] : List ByteArray).getD k (ByteArray.mk #[])]) m)) := by
        unfold spec_PossibleKinds_loop1
        simp only [hlen, Int.toNat_natCast, p_eta, e1, e2, e4, Option.bind_some]
        rw [cond_dt (by omega), grd_pos (by omega), grd_pos (by omega), w64_nat (by omega)]
        cases C
        · rfl
        · simp only [cond_true]
          rw [grd_pos (by omega), grd_pos (by simp only [List.length_cons, List.length_nil]; omega)]
      have hI : impl_PossibleKinds_loop1 p (k : Int) m = some (.go (((k + 1 : Nat) : Int), cond C (m ++ [([(ByteArray.mk #[99, 111, 109, 101]), (ByteArray.mk #[111, 112, 101, 110]), (ByteArray.mk #[115, 104, 117, 116]), (ByteArray.mk #[101, 110, 116, 101, 114]), (ByteArray.mk #[108, 101, 97, 118, 101]), (ByteArray.mk #[97, 114, 114, 105, 118, 101]), (ByteArray.mk #[108, 101, 118, 101, 108]), (ByteArray.mk #[103, 111])] : List ByteArray).getD k (ByteArray.mk #[])]) m)) := by
        unfold impl_PossibleKinds_loop1
        simp only [Int.toNat_natCast, p_eta, e3, e5, Option.bind_some]
        rw [cond_dt (by omega), grd_pos (by omega), w64_nat (by omega)]
        cases C
        · rfl
        · simp only [cond_true]
          rw [grd_pos (by simp only [List.length_cons, List.length_nil]; omega)]
      refine .inl ⟨_, _, hS, hI, _, rfl, rfl, ?_, fun j hj lo' hi' q' f1 f2 => ?_⟩
      · cases C
        · simp only [cond_false]; omega
        · simp only [cond_true, List.length_append, List.length_cons, List.length_nil]; omega
      · rcases Nat.lt_or_ge j k with h1 | h1
        · have := ha j h1 lo' hi' q' f1 f2
          cases C
          · exact this
          · exact List.mem_append_left _ this
        · obtain rfl : j = k := by omega
          rw [e3] at f1
          obtain rfl := congrArg Prod.fst (Option.some.inj f1)
          have hC : C = true := by
            have := congrArg Prod.snd (Option.some.inj (e5.symm.trans f2))
            exact this
          rw [hC]
          exact List.mem_append_right _ (List.mem_singleton.2 rfl))
    (by
      rintro _ _ ⟨m, rfl, rfl, hm, ha⟩
      have hlen : (([(ByteArray.mk #[99, 111, 109, 101]), (ByteArray.mk #[111, 112, 101, 110]), (ByteArray.mk #[115, 104, 117, 116]), (ByteArray.mk #[101, 110, 116, 101, 114]), (ByteArray.mk #[108, 101, 97, 118, 101]), (ByteArray.mk #[97, 114, 114, 105, 118, 101]), (ByteArray.mk #[108, 101, 118, 101, 108]), (ByteArray.mk #[103, 111])] : List ByteArray).length : Int) = 8 := rfl
      refine ⟨m, m, ?_, ?_, rfl, hm, ha⟩
      · show spec_PossibleKinds_loop1 p ((8 : Nat) : Int) m = _
        unfold spec_PossibleKinds_loop1
        rw [hlen, cond_df (by omega)]
      · show impl_PossibleKinds_loop1 p ((8 : Nat) : Int) m = _
        unfold impl_PossibleKinds_loop1
        rw [cond_df (by omega)])
    (s := ((0 : Int), [])) (t := ((0 : Int), [])) ⟨[], rfl, rfl, by simp, fun j hj => by omega⟩
  refine ⟨y, ?_, ?_, hl, fun k c q hq => ?_⟩
  · rw [d1]; rfl
  · rw [d2]; rfl
  · obtain ⟨hk, lo, hi, q', f1, f2⟩ := mono p hg k c q hq
    obtain ⟨j, hj, e⟩ := List.mem_iff_getElem.1 hk
    have hj8 : j < 8 := by simpa using hj
    have e2 : ([(ByteArray.mk #[99, 111, 109, 101]), (ByteArray.mk #[111, 112, 101, 110]), (ByteArray.mk #[115, 104, 117, 116]), (ByteArray.mk #[101, 110, 116, 101, 114]), (ByteArray.mk #[108, 101, 97, 118, 101]), (ByteArray.mk #[97, 114, 114, 105, 118, 101]), (ByteArray.mk #[108, 101, 118, 101, 108]), (ByteArray.mk #[103, 111])] : List ByteArray).getD j (ByteArray.mk #[]) = k := by rw [getD_eq _ j _ hj]; exact e
    have := hall j hj8 lo hi q' (by rw [e2]; exact f1) (by rw [e2]; exact f2)
    rw [e2] at this
    exact this
theorem rTexts_eq (l : List ByteArray) (h : l.length ≤ 1048576) : laws_rTexts l l = some true := by
  unfold laws_rTexts
  rw [cond_ndt rfl]
  have H : iter (fun s => laws_rTexts_loop1 l l s) (0 : Int) = some (Sum.inr ()) :=
    iter_for l.length (fun k => (k : Int)) (fun k hk => by
      show laws_rTexts_loop1 l l (k : Int) = _
      unfold laws_rTexts_loop1
      rw [cond_dt (by omega), grd_pos (by omega), grd_pos (by omega), cond_ndt rfl, w64_nat (by omega)]) (by
      show laws_rTexts_loop1 l l (l.length : Int) = _
      unfold laws_rTexts_loop1
      rw [cond_df (by omega)]) rfl
  rw [H]; rfl
theorem has_yes (l : List ByteArray) (x : ByteArray) (h : l.length ≤ 1048576) (hm : x ∈ l) : laws_rHasText l x = some true := by
  unfold laws_rHasText
  obtain ⟨r, e, hr⟩ := iter_ex (f := fun s => laws_rHasText_loop1 l x s) (miss := (Sum.inr () : Unit ⊕ Unit)) l.length (fun k => decide (l.getD k (ByteArray.mk #[]) = x)) (fun _ => Sum.inl ()) (fun k => (k : Int)) (fun k hk => by
    show laws_rHasText_loop1 l x (k : Int) = _
    unfold laws_rHasText_loop1
    rw [cond_dt (by omega), grd_pos (by omega), Int.toNat_natCast, w64_nat (by omega)]
    cases decide (l.getD k (ByteArray.mk #[]) = x) <;> rfl) (by
    show laws_rHasText_loop1 l x (l.length : Int) = _
    unfold laws_rHasText_loop1
    rw [cond_df (by omega)]) (s := (0 : Int)) rfl
  rw [e]
  rcases hr with ⟨k, hk, hp, _, rfl⟩ | ⟨hp, rfl⟩
  · rfl
  · exfalso
    obtain ⟨k, hk, e⟩ := List.mem_iff_getElem.1 hm
    have := of_decide_eq_false (hp k hk)
    rw [getD_eq l k _ hk] at this
    exact this e
theorem ev_ex (e : BoardEvent) : ∃ b, impl_IsBoardEvent e = some b ∧ spec_l14Event e = some b := by
  obtain ⟨k, c, v⟩ := e
  by_cases hk : k ∈ ([(ByteArray.mk #[99, 111, 109, 101]), (ByteArray.mk #[111, 112, 101, 110]), (ByteArray.mk #[115, 104, 117, 116]), (ByteArray.mk #[101, 110, 116, 101, 114]), (ByteArray.mk #[108, 101, 97, 118, 101]), (ByteArray.mk #[97, 114, 114, 105, 118, 101]), (ByteArray.mk #[108, 101, 118, 101, 108]), (ByteArray.mk #[103, 111])] : List ByteArray)
  · simp only [List.mem_cons, List.not_mem_nil, or_false] at hk
    rcases hk with rfl | rfl | rfl | rfl | rfl | rfl | rfl | rfl
    · exact ⟨_, isEvent_come c, event_come c⟩
    · exact ⟨_, isEvent_open c, event_open c⟩
    · exact ⟨_, isEvent_shut c, event_shut c⟩
    · exact ⟨_, isEvent_enter c, event_enter c⟩
    · exact ⟨_, isEvent_leave c, event_leave c⟩
    · exact ⟨_, isEvent_arrive c, event_arrive c⟩
    · exact ⟨_, isEvent_level c, event_level c⟩
    · exact ⟨_, isEvent_go c, event_go c⟩
  · exact ⟨_, isEvent_other k c hk, event_other k c hk⟩
noncomputable def evOf (e : BoardEvent) : Bool := (impl_IsBoardEvent e).getD false
theorem ev_eq (e : BoardEvent) : impl_IsBoardEvent e = some (evOf e) ∧ spec_l14Event e = some (evOf e) := by
  obtain ⟨b, e1, e2⟩ := ev_ex e
  unfold evOf
  rw [e1, e2]
  exact ⟨rfl, rfl⟩
theorem most_in (k : ByteArray) (hk : k ∈ ([(ByteArray.mk #[99, 111, 109, 101]), (ByteArray.mk #[111, 112, 101, 110]), (ByteArray.mk #[115, 104, 117, 116]), (ByteArray.mk #[101, 110, 116, 101, 114]), (ByteArray.mk #[108, 101, 97, 118, 101]), (ByteArray.mk #[97, 114, 114, 105, 118, 101]), (ByteArray.mk #[108, 101, 118, 101, 108]), (ByteArray.mk #[103, 111])] : List ByteArray)) : ∃ m : Int, 0 ≤ m ∧ spec_l14Most k = some m := by
  simp only [List.mem_cons, List.not_mem_nil, or_false] at hk
  rcases hk with rfl | rfl | rfl | rfl | rfl | rfl | rfl | rfl
  · refine ⟨16, by omega, ?_⟩
    unfold spec_l14Most
    simp only [ne_come_open, ne_come_shut, ne_come_enter, ne_come_leave, ne_come_arrive, ne_come_level, ne_come_go, decide_true, decide_false, cond_true, cond_false]
  · refine ⟨0, by omega, ?_⟩
    unfold spec_l14Most
    simp only [ne_open_come, ne_open_shut, ne_open_enter, ne_open_leave, ne_open_arrive, ne_open_level, ne_open_go, decide_true, decide_false, cond_true, cond_false]
  · refine ⟨0, by omega, ?_⟩
    unfold spec_l14Most
    simp only [ne_shut_come, ne_shut_open, ne_shut_enter, ne_shut_leave, ne_shut_arrive, ne_shut_level, ne_shut_go, decide_true, decide_false, cond_true, cond_false]
  · refine ⟨16, by omega, ?_⟩
    unfold spec_l14Most
    simp only [ne_enter_come, ne_enter_open, ne_enter_shut, ne_enter_leave, ne_enter_arrive, ne_enter_level, ne_enter_go, decide_true, decide_false, cond_true, cond_false]
  · refine ⟨16, by omega, ?_⟩
    unfold spec_l14Most
    simp only [ne_leave_come, ne_leave_open, ne_leave_shut, ne_leave_enter, ne_leave_arrive, ne_leave_level, ne_leave_go, decide_true, decide_false, cond_true, cond_false]
  · refine ⟨100, by omega, ?_⟩
    unfold spec_l14Most
    simp only [ne_arrive_come, ne_arrive_open, ne_arrive_shut, ne_arrive_enter, ne_arrive_leave, ne_arrive_level, ne_arrive_go, decide_true, decide_false, cond_true, cond_false]
  · refine ⟨0, by omega, ?_⟩
    unfold spec_l14Most
    simp only [ne_level_come, ne_level_open, ne_level_shut, ne_level_enter, ne_level_leave, ne_level_arrive, ne_level_go, decide_true, decide_false, cond_true, cond_false]
  · refine ⟨0, by omega, ?_⟩
    unfold spec_l14Most
    simp only [ne_go_come, ne_go_open, ne_go_shut, ne_go_enter, ne_go_leave, ne_go_arrive, ne_go_level, decide_true, decide_false, cond_true, cond_false]
noncomputable def cntK (l : List BoardEvent) (kind : ByteArray) : Nat → Int × Int
  | 0 => (0, 0)
  | k + 1 => cond (decide ((l.getD k d_BoardEvent).1 = kind)) (w64 ((cntK l kind k).1 + 1), w64 ((cntK l kind k).2 + (l.getD k d_BoardEvent).2.1)) (cntK l kind k)
theorem count_impl (l : List BoardEvent) (kind : ByteArray) (hl : l.length ≤ 1048576) : iter (fun s => impl_CountEvents_loop1 l kind s.1 s.2.1 s.2.2) ((0 : Int), (0 : Int), (0 : Int)) = some (cntK l kind l.length) :=
  iter_for l.length (fun k => ((cntK l kind k).1, (cntK l kind k).2, (k : Int))) (fun k hk => by
    show impl_CountEvents_loop1 l kind (cntK l kind k).1 (cntK l kind k).2 (k : Int) = _
    unfold impl_CountEvents_loop1
    rw [cond_dt (by omega), grd_pos (by omega), Int.toNat_natCast, w64_nat (by omega)]
    simp only [cntK]
    cases decide ((l.getD k d_BoardEvent).1 = kind) <;> rfl) (by
    show impl_CountEvents_loop1 l kind _ _ (l.length : Int) = _
    unfold impl_CountEvents_loop1
    rw [cond_df (by omega)]) rfl
theorem count_eq (l : List BoardEvent) (kind : ByteArray) (hl : l.length ≤ 1048576) : ∃ y, impl_CountEvents l kind = some y ∧ spec_CountEvents l kind = some y := by
  unfold impl_CountEvents spec_CountEvents slices_ContainsFunc___impl_BoardEvent_impl_BoardEvent__i1 slices_IndexFunc___impl_BoardEvent_impl_BoardEvent__i1
  by_cases h20 : (20 : Int) < (l.length : Int)
  · rw [cond_dt h20, cond_dt h20]; exact ⟨_, rfl, rfl⟩
  rw [cond_df h20, cond_df h20]
  obtain ⟨r, e, hr⟩ := iter_ex (f := fun s => slices_IndexFunc___impl_BoardEvent_impl_BoardEvent__i1_loop1 l s) (miss := (Sum.inr () : Int ⊕ Unit)) l.length (fun k => !evOf (l.getD k d_BoardEvent)) (fun k => Sum.inl (k : Int)) (fun k => (k : Int)) (fun k hk => by
    show slices_IndexFunc___impl_BoardEvent_impl_BoardEvent__i1_loop1 l (k : Int) = _
    unfold slices_IndexFunc___impl_BoardEvent_impl_BoardEvent__i1_loop1 impl_CountEvents_1
    rw [cond_dt (by omega), grd_pos (by omega), e_eta, e_eta, Int.toNat_natCast, (ev_eq _).1, w64_nat (by omega)]
    cases evOf (l.getD k d_BoardEvent) <;> rfl) (by
    show slices_IndexFunc___impl_BoardEvent_impl_BoardEvent__i1_loop1 l (l.length : Int) = _
    unfold slices_IndexFunc___impl_BoardEvent_impl_BoardEvent__i1_loop1
    rw [cond_df (by omega)]) (s := (0 : Int)) rfl
  obtain ⟨r', e', hr'⟩ := iter_ex (f := fun s => spec_CountEvents_loop1 l kind s.1 s.2.1 s.2.2) (miss := (Sum.inr (cntK l kind l.length) : Unit ⊕ (Int × Int))) l.length (fun k => !evOf (l.getD k d_BoardEvent)) (fun _ => Sum.inl ()) (fun k => ((cntK l kind k).1, (cntK l kind k).2, (k : Int))) (fun k hk => by
    show spec_CountEvents_loop1 l kind (cntK l kind k).1 (cntK l kind k).2 (k : Int) = _
    unfold spec_CountEvents_loop1
    rw [cond_dt (by omega), grd_pos (by omega), e_eta, Int.toNat_natCast, (ev_eq _).2, Option.bind_some, w64_nat (by omega)]
    cases evOf (l.getD k d_BoardEvent)
    · rfl
    · rw [Bool.not_true, cond_false, grd_pos (by omega), grd_pos (by omega)]
      simp only [cntK]
      cases decide ((l.getD k d_BoardEvent).1 = kind) <;> rfl) (by
    show spec_CountEvents_loop1 l kind _ _ (l.length : Int) = _
    unfold spec_CountEvents_loop1
    rw [cond_df (by omega)]) (s := ((0 : Int), (0 : Int), (0 : Int))) rfl
  rw [e]
  rcases hr with ⟨k, hk, hp, _, rfl⟩ | ⟨hp, rfl⟩
  · have hbad : r' = Sum.inl () := by
      rcases hr' with ⟨_, _, _, _, e2⟩ | ⟨hp2, _⟩
      · exact e2
      · exact absurd hp (by rw [hp2 k hk]; simp)
    rw [Option.bind_some, Sum.elim_inl, Option.bind_some, Option.bind_some, decide_eq_true (show (0 : Int) ≤ (k : Int) by omega), cond_true, e', hbad]
    by_cases hk : kind ∈ ([(ByteArray.mk #[99, 111, 109, 101]), (ByteArray.mk #[111, 112, 101, 110]), (ByteArray.mk #[115, 104, 117, 116]), (ByteArray.mk #[101, 110, 116, 101, 114]), (ByteArray.mk #[108, 101, 97, 118, 101]), (ByteArray.mk #[97, 114, 114, 105, 118, 101]), (ByteArray.mk #[108, 101, 118, 101, 108]), (ByteArray.mk #[103, 111])] : List ByteArray)
    · obtain ⟨m, hm, e3⟩ := most_in kind hk
      rw [e3]
      simp only [Option.bind_some]
      rw [cond_df (show ¬ m < 0 by omega)]; exact ⟨_, rfl, rfl⟩
    · rw [most_other kind hk]; exact ⟨_, rfl, rfl⟩
  · have hgood : r' = Sum.inr (cntK l kind l.length) := by
      rcases hr' with ⟨k, hk, hp2, _, _⟩ | ⟨_, e2⟩
      · exact absurd hp2 (by rw [hp k hk]; simp)
      · exact e2
    rw [Option.bind_some, Sum.elim_inr, Option.bind_some, Option.bind_some, decide_eq_false (show ¬ (0 : Int) ≤ -1 by omega), cond_false, e', hgood, count_impl l kind hl]
    by_cases hk : kind ∈ ([(ByteArray.mk #[99, 111, 109, 101]), (ByteArray.mk #[111, 112, 101, 110]), (ByteArray.mk #[115, 104, 117, 116]), (ByteArray.mk #[101, 110, 116, 101, 114]), (ByteArray.mk #[108, 101, 97, 118, 101]), (ByteArray.mk #[97, 114, 114, 105, 118, 101]), (ByteArray.mk #[108, 101, 118, 101, 108]), (ByteArray.mk #[103, 111])] : List ByteArray)
    · obtain ⟨m, hm, e3⟩ := most_in kind hk
      rw [contains_yes _ _ kinds_length hk, e3]
      simp only [Option.bind_some]
      rw [cond_df (show ¬ m < 0 by omega)]; exact ⟨_, rfl, rfl⟩
    · rw [most_other kind hk, contains_no _ _ kinds_length hk]; exact ⟨_, rfl, rfl⟩
/-! ### Running and stepping -/
theorem stepPlat_yes {p q : Platform} {e : BoardEvent} (hg : goodB p = true) (h : StepR p e q true) : impl_StepPlatform p e = some (q, true) := by
  unfold impl_StepPlatform
  simp only [p_eta, e_eta, isPlat_eq, hg, h.impl, Option.bind_some, Bool.not_true, cond_false]
theorem stepPlat_no {p q : Platform} {e : BoardEvent} (hg : goodB p = true) (h : StepR p e q false) : impl_StepPlatform p e = some (zeroP, false) := by
  unfold impl_StepPlatform
  simp only [p_eta, e_eta, isPlat_eq, hg, h.impl, Option.bind_some, Bool.not_true, Bool.not_false, cond_false, cond_true]
theorem stops : ∀ (es : List BoardEvent) (p : Platform), goodB p = true → (runP es p).2 < es.length → ∃ q', StepR (runP es p).1 (es.getD (runP es p).2 d_BoardEvent) q' false
  | [], p, _, h => by simp [runP_nil] at h
  | e :: es, p, hg, h => by
    obtain ⟨q, b, hs⟩ := stepR p e hg
    cases b with
    | false => rw [runP_no es hs]; exact ⟨q, hs⟩
    | true =>
      rw [runP_yes es hs] at h ⊢
      have := stops es q (hs.good rfl) (by simpa using h)
      exact this
theorem starts (es : List BoardEvent) (p : Platform) (hg : goodB p = true) (h : 0 < (runP es p).2) : ∃ e0 tl q0, es = e0 :: tl ∧ StepR p e0 q0 true ∧ runP es p = ((runP tl q0).1, (runP tl q0).2 + 1) := by
  cases es with
  | nil => simp [runP_nil] at h
  | cons e es =>
    obtain ⟨q, b, hs⟩ := stepR p e hg
    cases b with
    | false => rw [runP_no es hs] at h; simp at h
    | true => exact ⟨e, es, q, rfl, hs, runP_yes es hs⟩
theorem law_FnBoarding (code : List Int) (hc : Ty.fit (.sl (.int .u8)) code) : laws_FnBoarding code = some true := by
  obtain ⟨⟨p, es⟩, d1, hes⟩ := draw_run code hc
  obtain ⟨⟨x, e⟩, d2, _⟩ := draw_step code hc
  obtain ⟨⟨l, kind⟩, d3, hl⟩ := draw_count code hc
  have hes : es.length ≤ 10000 := hes
  have hl : l.length ≤ 200 := hl
  obtain ⟨y, c1, c2⟩ := count_eq l kind (by omega)
  obtain ⟨v1, v2⟩ := ev_eq e
  have v3 : spec_IsBoardEvent e = some (evOf e) := by
    unfold spec_IsBoardEvent
    rw [e_eta, v2]; rfl
  obtain ⟨q2, b2, s1, s2, s3, _⟩ := step_eq x e
  obtain ⟨r1, r2⟩ := run_eq p es (by omega)
  unfold laws_FnBoarding laws_rBig
  rw [Option.bind_some]
  cases decide ((65536 : Int) < (code.length : Int)) with
  | true => rfl
  | false =>
  rw [cond_false]
  have hk : (impl_PossibleKinds x = some (Sum.inl ()) ∧ spec_PossibleKinds x = some ([], false) ∧ b2 = false) ∨ ∃ m, impl_PossibleKinds x = some (Sum.inr m) ∧ spec_PossibleKinds x = some (m, true) ∧ laws_rTexts m m = some true ∧ (b2 = true → laws_rHasText m e.1 = some true) := by
    cases hg : goodB x with
    | true =>
      obtain ⟨m, k1, k2, hm, hall⟩ := possible_full x hg
      refine .inr ⟨m, k2, k1, rTexts_eq m (by omega), fun hb => has_yes m e.1 (by omega) ?_⟩
      exact hall e.1 e.2.1 q2 (s3 hb).2.impl
    | false =>
      refine .inl ?_
      have hb : b2 = false := by
        cases b2 with
        | false => rfl
        | true => have := (s3 rfl).1; rw [hg] at this; cases this
      rcases possible_ok x with ⟨k1, k2⟩ | ⟨m, k1, k2, _⟩
      · exact ⟨k2, k1, hb⟩
      · exfalso
        unfold impl_PossibleKinds at k2
        rw [p_eta, isPlat_eq, hg] at k2
        cases k2
  by_cases hg : goodB p = true ∧ es.length ≤ 20
  · rw [if_pos hg] at r1 r2
    have hIs : impl_IsPlatform (runP es p).1 = some true := by rw [isPlat_eq, (runP_le es p hg.1).2]
    have hA : ∀ (n : Nat), n = (runP es p).2 → n < es.length → impl_StepPlatform (runP es p).1 (es.getD n d_BoardEvent) = some (zeroP, false) := by
      rintro n rfl hn
      obtain ⟨q', hs⟩ := stops es p hg.1 hn
      exact stepPlat_no (runP_le es p hg.1).2 hs
    have hB : 0 < (runP es p).2 → ∃ q0 m2, es.length ≠ 0 ∧ impl_StepPlatform p (es.getD 0 d_BoardEvent) = some (q0, true) ∧ impl_RunPlatform q0 ((es.drop 1).take ((es.length : Int) - 1).toNat) = some ((runP es p).1, (m2 : Int), true) ∧ (m2 : Int) = w64 (((runP es p).2 : Int) - 1) := by
      intro h0
      obtain ⟨e0, tl, q0, rfl, hs, hr⟩ := starts es p hg.1 h0
      have hlen : (e0 :: tl).length ≤ 20 := hg.2
      simp only [List.length_cons] at hlen
      have htl : ((e0 :: tl).drop 1).take (((e0 :: tl).length : Int) - 1).toNat = tl := by
        simp only [List.drop_succ_cons, List.drop_zero, List.length_cons]
        rw [List.take_of_length_le (by omega)]
      refine ⟨q0, (runP tl q0).2, by simp, stepPlat_yes hg.1 hs, ?_, ?_⟩
      · rw [htl, (run_eq q0 tl (by omega)).2, if_pos ⟨hs.good rfl, by omega⟩, hr]
      · rw [hr]
        have := (runP_le tl q0 (hs.good rfl)).1
        rw [w64_id (by dsimp only; omega) (by dsimp only; omega)]
        dsimp only; omega
    have hnl := (runP_le es p hg.1).1
    by_cases hn : (runP es p).2 < es.length
    · have hA' := hA _ rfl hn
      have t1 : decide (((runP es p).2 : Int) < (es.length : Int)) = true := decide_eq_true (by omega)
      have t2 : ∀ (X : Option Bool), grd (0 ≤ ((runP es p).2 : Int) ∧ ((runP es p).2 : Int) < (es.length : Int)) X = X := fun X => grd_pos (by omega)
      by_cases h0 : 0 < (runP es p).2
      · obtain ⟨q0, m2, hz, f1, f2, f3⟩ := hB h0
        have t3 : decide ((0 : Int) < ((runP es p).2 : Int)) = true := decide_eq_true (by omega)
        have t4 : (0 : Int) ≤ 0 ∧ (0 : Int) < (es.length : Int) := by omega
        have t5 : 0 ≤ (1 : Int) ∧ (1 : Int) ≤ (es.length : Int) ∧ (es.length : Int) ≤ (es.length : Int) := by omega
        simp only [d1, d2, d3, c1, c2, s1, s2, r1, r2, hIs, p_eta, e_eta, Option.bind_some, Int.toNat_natCast, Int.toNat_zero, Int.toNat_one, decide_true, beq_self_eq_true, Bool.and_true, Bool.not_true, cond_false, cond_true, t1, t2, t3, hA', f1, f2, f3, grd_pos t4, grd_pos t5]
        rcases hk with ⟨k1, k2, rfl⟩ | ⟨m, k1, k2, k3, k4⟩
        · simp only [k1, k2, v1, v3, p_eta, e_eta, Option.bind_some, Sum.elim_inl, rTexts_eq [] (by simp), beq_self_eq_true, Bool.not_true, cond_false]
        · cases b2 with
          | false => simp only [k1, k2, k3, v1, v3, p_eta, e_eta, Option.bind_some, Sum.elim_inr, beq_self_eq_true, Bool.not_true, cond_false]
          | true => simp only [k1, k2, k3, k4 rfl, v1, v3, p_eta, e_eta, Option.bind_some, Sum.elim_inr, beq_self_eq_true, Bool.not_true, cond_false, cond_true]
      · have t3 : decide ((0 : Int) < ((runP es p).2 : Int)) = false := decide_eq_false (by omega)
        simp only [d1, d2, d3, c1, c2, s1, s2, r1, r2, hIs, p_eta, e_eta, Option.bind_some, Int.toNat_natCast, Int.toNat_zero, Int.toNat_one, decide_true, beq_self_eq_true, Bool.and_true, Bool.not_true, cond_false, cond_true, t1, t2, t3, hA']
        rcases hk with ⟨k1, k2, rfl⟩ | ⟨m, k1, k2, k3, k4⟩
        · simp only [k1, k2, v1, v3, p_eta, e_eta, Option.bind_some, Sum.elim_inl, rTexts_eq [] (by simp), beq_self_eq_true, Bool.not_true, cond_false]
        · cases b2 with
          | false => simp only [k1, k2, k3, v1, v3, p_eta, e_eta, Option.bind_some, Sum.elim_inr, beq_self_eq_true, Bool.not_true, cond_false]
          | true => simp only [k1, k2, k3, k4 rfl, v1, v3, p_eta, e_eta, Option.bind_some, Sum.elim_inr, beq_self_eq_true, Bool.not_true, cond_false, cond_true]
    · have t1 : decide (((runP es p).2 : Int) < (es.length : Int)) = false := decide_eq_false (by omega)
      by_cases h0 : 0 < (runP es p).2
      · obtain ⟨q0, m2, hz, f1, f2, f3⟩ := hB h0
        have t3 : decide ((0 : Int) < ((runP es p).2 : Int)) = true := decide_eq_true (by omega)
        have t4 : (0 : Int) ≤ 0 ∧ (0 : Int) < (es.length : Int) := by omega
        have t5 : 0 ≤ (1 : Int) ∧ (1 : Int) ≤ (es.length : Int) ∧ (es.length : Int) ≤ (es.length : Int) := by omega
        simp only [d1, d2, d3, c1, c2, s1, s2, r1, r2, hIs, p_eta, e_eta, Option.bind_some, Int.toNat_natCast, Int.toNat_zero, Int.toNat_one, decide_true, beq_self_eq_true, Bool.and_true, Bool.not_true, cond_false, cond_true, t1, t3, f1, f2, f3, grd_pos t4, grd_pos t5]
        rcases hk with ⟨k1, k2, rfl⟩ | ⟨m, k1, k2, k3, k4⟩
        · simp only [k1, k2, v1, v3, p_eta, e_eta, Option.bind_some, Sum.elim_inl, rTexts_eq [] (by simp), beq_self_eq_true, Bool.not_true, cond_false]
        · cases b2 with
          | false => simp only [k1, k2, k3, v1, v3, p_eta, e_eta, Option.bind_some, Sum.elim_inr, beq_self_eq_true, Bool.not_true, cond_false]
          | true => simp only [k1, k2, k3, k4 rfl, v1, v3, p_eta, e_eta, Option.bind_some, Sum.elim_inr, beq_self_eq_true, Bool.not_true, cond_false, cond_true]
      · have t3 : decide ((0 : Int) < ((runP es p).2 : Int)) = false := decide_eq_false (by omega)
        simp only [d1, d2, d3, c1, c2, s1, s2, r1, r2, hIs, p_eta, e_eta, Option.bind_some, Int.toNat_natCast, Int.toNat_zero, Int.toNat_one, decide_true, beq_self_eq_true, Bool.and_true, Bool.not_true, cond_false, cond_true, t1, t3]
        rcases hk with ⟨k1, k2, rfl⟩ | ⟨m, k1, k2, k3, k4⟩
        · simp only [k1, k2, v1, v3, p_eta, e_eta, Option.bind_some, Sum.elim_inl, rTexts_eq [] (by simp), beq_self_eq_true, Bool.not_true, cond_false]
        · cases b2 with
          | false => simp only [k1, k2, k3, v1, v3, p_eta, e_eta, Option.bind_some, Sum.elim_inr, beq_self_eq_true, Bool.not_true, cond_false]
          | true => simp only [k1, k2, k3, k4 rfl, v1, v3, p_eta, e_eta, Option.bind_some, Sum.elim_inr, beq_self_eq_true, Bool.not_true, cond_false, cond_true]
  · rw [if_neg hg] at r1 r2
    simp only [d1, d2, d3, c1, c2, s1, s2, r1, r2, p_eta, e_eta, Option.bind_some, Int.toNat_zero, Int.toNat_one, decide_true, beq_self_eq_true, Bool.and_true, Bool.not_true, cond_false, cond_true]
    rcases hk with ⟨k1, k2, rfl⟩ | ⟨m, k1, k2, k3, k4⟩
    · simp only [k1, k2, v1, v3, p_eta, e_eta, Option.bind_some, Sum.elim_inl, rTexts_eq [] (by simp), beq_self_eq_true, Bool.not_true, cond_false]
    · cases b2 with
      | false => simp only [k1, k2, k3, v1, v3, p_eta, e_eta, Option.bind_some, Sum.elim_inr, beq_self_eq_true, Bool.not_true, cond_false]
      | true => simp only [k1, k2, k3, k4 rfl, v1, v3, p_eta, e_eta, Option.bind_some, Sum.elim_inr, beq_self_eq_true, Bool.not_true, cond_false, cond_true]
end Go.Proofs.YteckiilljhdkpaaDoor
