/-
  A step of the ropeway, twice.
-/
import Derived.Test.YtmknleaomfpmmaaM21
namespace Go.Proofs.Ytmknleaomfpmmaa
open Go.RowKit

theorem getD_setS (l : List Slot) (i : Nat) (o : Bool) (p : Int) (h : i < l.length) : (setS l i o p).getD i d_Slot = (cab l i, o, p, ()) := getD_set_self l i _ _ h
theorem setS_length (l : List Slot) (i : Nat) (o : Bool) (p : Int) : (setS l i o p).length = l.length := by simp [setS]
theorem rot_length (l : List Slot) (h : 0 < l.length) : (rot l).length = l.length := by simp [rot]; try omega
theorem act_len (a : Ropeway) (s : RopeStep) (h : 0 < a.2.1.length) : (act a s).2.2.1.length = a.2.1.length := by
  obtain ⟨m, l, w, t, d, u⟩ := a
  have h : 0 < l.length := h
  have := rot_length l h
  unfold act
  dsimp only
  repeat' split
  all_goals simp [setS_length, this]
theorem act_eq (a : Ropeway) (s : RopeStep) (hg : gd a = true) : ∃ r, impl_Ropeway_act a s = some r ∧ (r = .inl (act a s) ∨ r = .inr (act a s)) := by
  obtain ⟨m, l, w, t, d, u⟩ := a
  obtain ⟨k, v, u'⟩ := s
  obtain ⟨hm, hl, hw, ht, hd, hs⟩ := gd_out hg
  have hc0 : (l.getD (0 : Int).toNat d_Slot).1 = cab l 0 := rfl
  have hp0 : (l.getD (0 : Int).toNat d_Slot).2.2.1 = ppl l 0 := rfl
  unfold impl_Ropeway_act act
  dsimp only
  by_cases k1 : k = 1
  · rw [if_pos k1, cond_dt k1]
    by_cases h1 : v = m
    · rw [cond_ndt h1]; refine ⟨_, rfl, .inl ?_⟩; rw [decide_eq_false (fun h => h.1 h1)]
    rw [cond_ndf h1]
    have last : (m = 3 → v = 0) → ∃ r, cond (!decide (v = 2)) (some (Sum.inl (true, (v, l, w, t, d, ())))) (some (Sum.inl (decide (m = 1), (v, l, w, t, d, ())))) = some r ∧ (r = Sum.inl (decide (v ≠ m ∧ (m = 3 → v = 0) ∧ (v = 2 → m = 1)), (v, l, w, t, d, ())) ∨ r = (Sum.inr (decide (v ≠ m ∧ (m = 3 → v = 0) ∧ (v = 2 → m = 1)), (v, l, w, t, d, ())) : (Bool × Ropeway) ⊕ (Bool × Ropeway))) := fun h2 => by
      by_cases h4 : v = 2
      · rw [cond_ndt h4]; refine ⟨_, rfl, .inl ?_⟩
        rw [show decide (m = 1) = decide (v ≠ m ∧ (m = 3 → v = 0) ∧ (v = 2 → m = 1)) from by rw [decide_eq_decide]; omega]
      · rw [cond_ndf h4]; refine ⟨_, rfl, .inl ?_⟩
        rw [decide_eq_true (show v ≠ m ∧ (m = 3 → v = 0) ∧ (v = 2 → m = 1) by omega)]
    by_cases h2 : m = 3
    · rw [cond_ndt h2]
      by_cases h3 : v = 0
      · rw [cond_dt h3]; exact last fun _ => h3
      · rw [cond_df h3]; refine ⟨_, rfl, .inl ?_⟩
        rw [decide_eq_false (by omega)]
    · rw [cond_ndf h2]; exact last fun h => absurd h h2
  rw [if_neg k1, cond_df k1]
  by_cases k2 : k = 2
  · rw [if_pos k2, cond_dt k2]
    have e1 : w64 ((l.length : Int) - 1) = ((l.length - 1 : Nat) : Int) := by rw [w64_id (by omega) (by omega)]; omega
    have e2 : (l.drop ((l.length - 1 : Nat) : Int).toNat).take ((l.length : Int) - ((l.length - 1 : Nat) : Int)).toNat = l.drop (l.length - 1) := by
      rw [Int.toNat_natCast, List.take_of_length_le (by simp <;> omega)]
    have e3 : (l.drop (0 : Int).toNat).take (((l.length - 1 : Nat) : Int) - 0).toNat = l.take (l.length - 1) := by simp
    rw [any_eq l (by omega), Option.bind_some, e1, e2, e3, grd_pos (by omega), grd_pos (by omega), concat_eq _ _ (by simp only [List.length_drop, List.length_take]; omega)]
    simp only [Option.bind_some]
    by_cases h1 : v = 0 <;> cases h2 : anyOpen l <;> by_cases h3 : m = 1 <;> by_cases h4 : m = 2 <;> simp [h1, h3, h4, rot]
  rw [if_neg k2, cond_df k2]
  by_cases k3 : k = 3
  · rw [if_pos k3, cond_dt k3]
    by_cases h1 : m = 0
    · rw [cond_dt h1, within_eq, Option.bind_some]
      by_cases h2 : 1 ≤ v ∧ v ≤ 20
      · rw [decide_eq_true h2, cond_true, grd_pos (by omega), hc0]
        by_cases h3 : cab l 0 = 0
        · obtain ⟨r, e, hr⟩ := cabinAt_eq (m, l, w, t, d, ()) v (by show l.length ≤ 1048576; omega) h2.1
          have hr : r < 0 ↔ ∀ k, k < l.length → cab l k ≠ v := hr
          rw [cond_dt h3, e, Option.bind_some, grd_pos (by omega)]
          refine ⟨_, rfl, .inl ?_⟩
          rw [show decide (r < 0) = decide (m = 0 ∧ (1 ≤ v ∧ v ≤ 20) ∧ cab l 0 = 0 ∧ ∀ k, k < l.length → cab l k ≠ v) from by
            rw [decide_eq_decide, hr]
            exact ⟨fun h => ⟨h1, h2, h3, h⟩, fun h => h.2.2.2⟩]
          rfl
        · rw [cond_df h3, grd_pos (by omega)]
          refine ⟨_, rfl, .inl ?_⟩
          rw [decide_eq_false (fun h => h3 h.2.2.1)]; rfl
      · rw [decide_eq_false h2, cond_false, grd_pos (by omega)]
        refine ⟨_, rfl, .inl ?_⟩
        rw [decide_eq_false (fun h => h2 h.2.1)]; rfl
    · rw [cond_df h1, grd_pos (by omega)]
      refine ⟨_, rfl, .inl ?_⟩
      rw [decide_eq_false (fun h => h1 h.1)]; rfl
  rw [if_neg k3, cond_df k3]
  by_cases k4 : k = 4
  · rw [if_pos k4, cond_dt k4]
    simp only [grd_pos (show (0 : Int) ≤ 0 ∧ (0 : Int) < (l.length : Int) by omega), hc0, hp0]
    by_cases h1 : v = 0 <;> by_cases h2 : m = 0 <;> by_cases h3 : 0 < cab l 0 <;> simp [h1, h2, h3]
  rw [if_neg k4, cond_df k4, within_eq, Option.bind_some]
  by_cases hv : 0 ≤ v ∧ v ≤ 1
  case neg => rw [if_pos hv, cond_ndf hv]; exact ⟨_, rfl, .inl rfl⟩
  rw [if_neg (fun h => h hv), cond_ndt hv]
  have hst : impl_Ropeway_stationOf (m, l, w, t, d, ()) v = some (stn l v) := by
    unfold impl_Ropeway_stationOf
    rw [grd_pos (by omega)]; rfl
  have hin := stn_in hl hv
  have hi : (stn l v).toNat < l.length := by omega
  rw [hst, Option.bind_some, grd_pos hin]
  by_cases k7 : k = 7
  · rw [if_pos k7, cond_dt k7]
    rw [getD_set_self l _ _ _ hi]
    show ∃ r, cond (decide (0 < cab l (stn l v).toNat)) _ _ = _ ∧ _
    by_cases h1 : 0 < cab l (stn l v).toNat
    · rw [cond_dt h1]
      have e : (!decide (m = 2)) = decide (0 < cab l (stn l v).toNat ∧ m ≠ 2) := by by_cases h2 : m = 2 <;> simp [h1, h2]
      refine ⟨_, rfl, .inl ?_⟩
      rw [e]; rfl
    · rw [cond_df h1]
      refine ⟨_, rfl, .inl ?_⟩
      rw [decide_eq_false (fun h => h1 h.1)]; rfl
  rw [if_neg k7, cond_df k7]
  by_cases k5 : k = 5
  · rw [if_pos k5, cond_dt k5]
    by_cases h1 : v = 0
    · have h1' : ¬ v = 1 := by omega
      rw [cond_dt h1, Option.bind_some, if_pos h1, if_pos h1]
      dsimp only
      rw [getD_set_self l _ _ _ hi, cond_df h1']
      dsimp only
      rw [show (l.getD (stn l v).toNat d_Slot).2.1 = opn l (stn l v).toNat from rfl]
      cases opn l (stn l v).toNat
      · refine ⟨_, rfl, .inl ?_⟩; rw [decide_eq_false (by simp)]; rfl
      · have e : (!decide (m = 3)) = decide (true = true ∧ (v = 1 ∨ m ≠ 3)) := by by_cases h3 : m = 3 <;> simp [h3, h1']
        refine ⟨_, rfl, .inl ?_⟩; rw [← e]; rfl
    · have h1' : v = 1 := by omega
      rw [cond_df h1, Option.bind_some, if_neg h1, if_neg h1]
      dsimp only
      rw [getD_set_self l _ _ _ hi, cond_dt h1']
      dsimp only
      rw [show (l.getD (stn l v).toNat d_Slot).2.1 = opn l (stn l v).toNat from rfl]
      cases opn l (stn l v).toNat
      · refine ⟨_, rfl, .inl ?_⟩; rw [decide_eq_false (by simp)]; rfl
      · refine ⟨_, rfl, .inl ?_⟩; rw [decide_eq_true ⟨rfl, .inl h1'⟩]; rfl
  rw [if_neg k5, cond_df k5]
  by_cases k6 : k = 6
  · rw [if_pos k6, cond_dt k6]
    rw [getD_set_self l _ _ _ hi]
    by_cases h1 : v = 0
    · rw [cond_dt h1, if_pos h1, if_pos h1]; exact ⟨_, rfl, .inl rfl⟩
    · rw [cond_df h1, if_neg h1, if_neg h1]; exact ⟨_, rfl, .inl rfl⟩
  rw [if_neg k6, cond_df k6]
  exact ⟨_, rfl, .inl rfl⟩
/-- What a step leaves. -/
def outc (a : Ropeway) (s : RopeStep) : Option Ropeway := if ((act a s).1 && gd (act a s).2) = true then some (act a s).2 else none
theorem step_eq (a : Ropeway) (s : RopeStep) (hg : gd a = true) : impl_Ropeway_step a s = some ((outc a s).elim (.inl (0, [], 0, 0, 0, ())) .inr) := by
  obtain ⟨r, e, hr⟩ := act_eq a s hg
  have hlen := act_len a s
  unfold outc
  obtain ⟨m, l, w, t, d, u⟩ := a
  obtain ⟨k, v, u'⟩ := s
  obtain ⟨hm, hl, _⟩ := gd_out hg
  have hlen : (act (m, l, w, t, d, u) (k, v, u')).2.2.1.length = l.length := hlen (by show 0 < l.length; omega)
  have e : impl_Ropeway_act (m, l, w, t, d, ()) (k, v, ()) = some r := e
  unfold impl_Ropeway_step impl_copyRopeway
  rw [clone_eq l (by omega)]
  simp only [Option.bind_some, e]
  generalize act (m, l, w, t, d, u) (k, v, u') = y at hr hlen
  obtain ⟨b, m', l', w', t', d', u''⟩ := y
  have hlen : l'.length = l.length := hlen
  have hgd := isRopeway_eq (m', l', w', t', d', ()) (by show l'.length ≤ 1048576; omega)
  rcases hr with rfl | rfl
  · simp only [Sum.elim_inl, hgd, Option.bind_some]
    cases b
    · rfl
    · cases hq : gd (m', l', w', t', d', ()) <;> simp [hq]
  · simp only [Sum.elim_inr, hgd, Option.bind_some]
    cases b
    · rfl
    · cases hq : gd (m', l', w', t', d', ()) <;> simp [hq]
end Go.Proofs.Ytmknleaomfpmmaa
