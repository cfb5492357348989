/-
  The laws of a step and of many.
-/
import Derived.Test.YtmknleaomfpmmaaM21c
namespace Go.Proofs.Ytmknleaomfpmmaa
open Go.RowKit

theorem people_eq (a : Ropeway) (s : RopeStep) (hg : gd a = true) (hk : 5 ≤ s.1 ∧ s.1 ≤ 7) (hv : 0 ≤ s.2.1 ∧ s.2.1 ≤ 1) : ∃ ok, spec_l25People a s = some ((act a s).2, ok) ∧ (ok && gd (act a s).2) = ((act a s).1 && gd (act a s).2) := by
  obtain ⟨m, l, w, t, d, u⟩ := a
  obtain ⟨k, v, u'⟩ := s
  obtain ⟨hm, hl, hw, ht, hd, hs⟩ := gd_out hg
  have hk : 5 ≤ k ∧ k ≤ 7 := hk
  have hv : 0 ≤ v ∧ v ≤ 1 := hv
  have hin := stn_in hl hv
  have hi : (stn l v).toNat < l.length := by omega
  have hpp := iOk_ppl (hs _ hi)
  have hoc := iOk_opn (hs _ hi)
  have hst : spec_l25Station (m, l, w, t, d, ()) v = some (stn l v) := by
    unfold spec_l25Station
    rw [grd_pos (by omega)]; rfl
  have hF : ∀ p, gd (m, setS l (stn l v).toNat (opn l (stn l v).toNat) p, w, t, d, ()) = true → 0 ≤ p ∧ p ≤ 8 := fun p h => by
    obtain ⟨_, _, _, _, _, h⟩ := gd_out h
    have := iOk_ppl (h (stn l v).toNat (by rw [setS_length]; exact hi))
    unfold ppl at this
    rw [getD_setS l _ _ _ hi] at this
    exact this
  have hG : ∀ p w' t' d', gd (m, setS l (stn l v).toNat (opn l (stn l v).toNat) p, w', t', d', ()) = true → (0 ≤ p ∧ p ≤ 8) ∧ (0 ≤ w' ∧ w' ≤ 500) ∧ (0 ≤ t' ∧ t' ≤ 500) ∧ (0 ≤ d' ∧ d' ≤ 500) := fun p w' t' d' h => by
    obtain ⟨_, _, h1, h2, h3, h⟩ := gd_out h
    have := iOk_ppl (h (stn l v).toNat (by rw [setS_length]; exact hi))
    unfold ppl at this
    rw [getD_setS l _ _ _ hi] at this
    exact ⟨this, h1, h2, h3⟩
  clear hF
  have hb : ∀ (x y g : Bool), (g = true → x = y) → (x && g) = (y && g) := fun x y g h => by
    cases g
    · simp
    · rw [h rfl]
  unfold spec_l25People act
  dsimp only
  rw [own_eq (m, l, w, t, d, ()) (by show l.length ≤ 1048576; omega), Option.bind_some, hst, Option.bind_some, grd_pos hin]
  rw [if_neg (by omega), if_neg (by omega), if_neg (by omega), if_neg (by omega), if_neg (fun h => h hv)]
  have hc : (l.getD (stn l v).toNat d_Slot).1 = cab l (stn l v).toNat := rfl
  have ho : (l.getD (stn l v).toNat d_Slot).2.1 = opn l (stn l v).toNat := rfl
  have hp : (l.getD (stn l v).toNat d_Slot).2.2.1 = ppl l (stn l v).toNat := rfl
  simp only [hc, ho, hp]
  by_cases k7 : k = 7
  · rw [if_pos k7, cond_dt k7]
    by_cases h1 : 0 < cab l (stn l v).toNat
    · rw [cond_dt h1, grd_pos hin]
      exact ⟨_, rfl, hb _ _ _ fun _ => by by_cases h2 : m = 2 <;> simp [h1, h2]⟩
    · rw [cond_df h1, grd_pos hin]
      exact ⟨_, rfl, hb _ _ _ fun _ => by simp [h1]⟩
  rw [if_neg k7, cond_df k7]
  by_cases k5 : k = 5
  · rw [if_pos k5, cond_dt k5]
    have hbr : ∀ (A B C D : Option (Int × Bool × Int × Int × Int × Int × Int × Bool × Int × List Slot)), cond (decide (0 < cab l (stn l v).toNat)) (cond (opn l (stn l v).toNat) A B) B = if opn l (stn l v).toNat = true then A else B := fun A B _ _ => by
      cases ho : opn l (stn l v).toNat
      · simp
      · rw [cond_dt (hoc ho)]; rfl
    rw [hbr _ _ none none]
    clear hbr
    cases hop : opn l (stn l v).toNat
    · rw [if_neg (by simp), Option.bind_some]
      by_cases h1 : v = 0
      · rw [cond_dt h1]
        simp only [cond_false]
        rw [grd_pos hin, if_pos h1, if_pos h1]
        exact ⟨_, rfl, hb _ _ _ fun _ => by simp⟩
      · rw [cond_df h1]
        simp only [cond_false]
        rw [grd_pos hin, if_neg h1, if_neg h1]
        exact ⟨_, rfl, hb _ _ _ fun _ => by simp⟩
    · rw [if_pos rfl, Option.bind_some]
      by_cases h1 : v = 0
      · rw [cond_dt h1, if_pos h1, if_pos h1]
        simp only []
        have e1 : w64 (ppl l (stn l v).toNat + 1) = ppl l (stn l v).toNat + 1 := w64_id (by omega) (by omega)
        have e2 : w64 (w - 1) = w - 1 := w64_id (by omega) (by omega)
        have hG2 := hG (ppl l (stn l v).toNat + 1) (w - 1) t d
        rw [hop] at hG2
        rw [e1, e2]
        by_cases h2 : ppl l (stn l v).toNat < 8
        · rw [cond_dt h2]
          by_cases h3 : 0 < w
          · rw [cond_dt h3, grd_pos hin]
            exact ⟨_, rfl, hb _ _ _ fun _ => by by_cases h4 : m = 3 <;> simp [h1, h4]⟩
          · rw [cond_df h3, grd_pos hin]
            exact ⟨_, rfl, hb _ _ _ fun hq => by have := hG2 hq; omega⟩
        · rw [cond_df h2, grd_pos hin]
          exact ⟨_, rfl, hb _ _ _ fun hq => by have := hG2 hq; omega⟩
      · rw [cond_df h1, if_neg h1, if_neg h1]
        simp only []
        have e1 : w64 (ppl l (stn l v).toNat + 1) = ppl l (stn l v).toNat + 1 := w64_id (by omega) (by omega)
        have e2 : w64 (t - 1) = t - 1 := w64_id (by omega) (by omega)
        have hG2 := hG (ppl l (stn l v).toNat + 1) w (t - 1) d
        rw [hop] at hG2
        have h1' : v = 1 := by omega
        rw [e1, e2]
        by_cases h2 : ppl l (stn l v).toNat < 8
        · rw [cond_dt h2, grd_pos hin]
          exact ⟨_, rfl, hb _ _ _ fun hq => by have := hG2 hq; simp [h1']; omega⟩
        · rw [cond_df h2, grd_pos hin]
          exact ⟨_, rfl, hb _ _ _ fun hq => by have := hG2 hq; omega⟩
  rw [if_neg k5, cond_df k5, if_pos (by omega)]
  have e1 : w64 (ppl l (stn l v).toNat - 1) = ppl l (stn l v).toNat - 1 := w64_id (by omega) (by omega)
  have e2 : w64 (d + 1) = d + 1 := w64_id (by omega) (by omega)
  have e3 : w64 (t + 1) = t + 1 := w64_id (by omega) (by omega)
  rw [e1, e2, e3]
  cases hop : opn l (stn l v).toNat
  · simp only [cond_false]
    have hbr : ∀ (A : Option (Ropeway × Bool)), cond (decide (0 < cab l (stn l v).toNat)) A A = A := fun A => by cases decide (0 < cab l (stn l v).toNat) <;> rfl
    rw [hbr]
    by_cases h1 : v = 0
    · rw [cond_dt h1, grd_pos hin, if_pos h1, if_pos h1]; exact ⟨_, rfl, rfl⟩
    · rw [cond_df h1, grd_pos hin, if_neg h1, if_neg h1]; exact ⟨_, rfl, rfl⟩
  · rw [cond_dt (hoc hop), cond_true]
    by_cases h1 : v = 0
    · rw [cond_dt h1, grd_pos hin, if_pos h1, if_pos h1]
      have hG2 := hG (ppl l (stn l v).toNat - 1) w t (d + 1)
      rw [hop] at hG2
      exact ⟨_, rfl, hb _ _ _ fun hq => by have := hG2 hq; simp; omega⟩
    · rw [cond_df h1, grd_pos hin, if_neg h1, if_neg h1]
      have hG2 := hG (ppl l (stn l v).toNat - 1) w (t + 1) d
      rw [hop] at hG2
      exact ⟨_, rfl, hb _ _ _ fun hq => by have := hG2 hq; simp; omega⟩
theorem make_eq (a : Ropeway) (s : RopeStep) (hg : gd a = true) (hs : askB s = true) : ∃ y ok, spec_l25Make a s = some (y, ok) ∧ outc a s = if ok = true then some y else none := by
  have hlen := act_len a s
  obtain ⟨m, l, w, t, d, u⟩ := a
  obtain ⟨k, v, u'⟩ := s
  obtain ⟨hm, hl, hw, ht, hd, hs0⟩ := gd_out hg
  have hlen : (act (m, l, w, t, d, u) (k, v, u')).2.2.1.length = l.length := hlen (by show 0 < l.length; omega)
  unfold spec_l25Make outc
  dsimp only
  have tail : ∀ (ok : Bool), (ok && gd (act (m, l, w, t, d, u) (k, v, u')).2) = ((act (m, l, w, t, d, u) (k, v, u')).1 && gd (act (m, l, w, t, d, u) (k, v, u')).2) →
      ∃ y ok', ((some (ok, (act (m, l, w, t, d, u) (k, v, u')).2.1, (act (m, l, w, t, d, u) (k, v, u')).2.2.2.1, (act (m, l, w, t, d, u) (k, v, u')).2.2.2.2.1, (act (m, l, w, t, d, u) (k, v, u')).2.2.2.2.2.1, (act (m, l, w, t, d, u) (k, v, u')).2.2.1)).bind fun z3 => (cond z3.1 ((spec_l25Good (z3.2.1, z3.2.2.2.2.2, z3.2.2.1, z3.2.2.2.1, z3.2.2.2.2.1, ())).bind fun y4 => (some ((z3.2.1, z3.2.2.2.2.2, z3.2.2.1, z3.2.2.2.1, z3.2.2.2.2.1, ()), y4))) ((some ((z3.2.1, z3.2.2.2.2.2, z3.2.2.1, z3.2.2.2.1, z3.2.2.2.2.1, ()), false))))) = some (((y : Ropeway), ok') : Ropeway × Bool) ∧ (if ((act (m, l, w, t, d, u) (k, v, u')).1 && gd (act (m, l, w, t, d, u) (k, v, u')).2) = true then some (act (m, l, w, t, d, u) (k, v, u')).2 else none) = if ok' = true then some y else none := by
    intro ok hok
    generalize act (m, l, w, t, d, u) (k, v, u') = z at hlen hok
    obtain ⟨b, m', l', w', t', d', u''⟩ := z
    have hlen : l'.length = l.length := hlen
    have hgd := goodS_eq (m', l', w', t', d', ()) (by show l'.length ≤ 1048576; omega)
    rw [← hok]
    dsimp only
    rw [Option.bind_some]
    cases ok
    · exact ⟨_, _, rfl, rfl⟩
    · simp only [cond_true, hgd, Option.bind_some]
      exact ⟨_, _, rfl, by simp⟩
  by_cases hk : k ≤ 4
  · rw [cond_dt hk]
    have e := rope_eq (m, l, w, t, d, u) (k, v, u') hg hk hs
    have e : spec_l25Rope (m, l, w, t, d, ()) (k, v, ()) = some ((act (m, l, w, t, d, u) (k, v, u')).2, (act (m, l, w, t, d, u) (k, v, u')).1) := e
    rw [e, Option.bind_some]
    exact tail _ rfl
  · rw [cond_df hk]
    have hs' : decide (5 ≤ k ∧ k ≤ 7) && decide (0 ≤ v ∧ v ≤ 1) = true := by
      unfold askB at hs
      dsimp only at hs
      rw [if_neg (by omega), if_neg (by omega), if_neg (by omega)] at hs
      simpa using hs
    simp only [Bool.and_eq_true, decide_eq_true_eq] at hs'
    obtain ⟨ok, e, hok⟩ := people_eq (m, l, w, t, d, u) (k, v, u') hg hs'.1 hs'.2
    have e : spec_l25People (m, l, w, t, d, ()) (k, v, ()) = some ((act (m, l, w, t, d, u) (k, v, u')).2, ok) := e
    rw [e, Option.bind_some]
    exact tail _ hok
theorem ask_no (a : Ropeway) (s : RopeStep) (hg : gd a = true) (hs : askB s = false) : outc a s = none := by
  obtain ⟨m, l, w, t, d, u⟩ := a
  obtain ⟨k, v, u'⟩ := s
  unfold outc
  rw [if_neg]
  intro h
  rw [Bool.and_eq_true] at h
  obtain ⟨h1, h2⟩ := h
  unfold act at h1 h2
  unfold askB at hs
  dsimp only at h1 h2 hs
  by_cases k1 : k = 1
  · rw [if_pos k1] at h1 h2 hs
    obtain ⟨hm, _⟩ := gd_out h2
    exact of_decide_eq_false hs hm
  rw [if_neg k1] at h1 hs
  by_cases k2 : k = 2
  · rw [if_pos k2] at h1
    rw [if_pos (.inl k2)] at hs
    exact of_decide_eq_false hs (of_decide_eq_true h1).1
  rw [if_neg k2] at h1
  by_cases k3 : k = 3
  · rw [if_pos k3] at h1
    rw [if_neg (by omega), if_pos k3] at hs
    exact of_decide_eq_false hs (of_decide_eq_true h1).2.1
  rw [if_neg k3] at h1
  by_cases k4 : k = 4
  · rw [if_pos k4] at h1
    rw [if_pos (.inr k4)] at hs
    exact of_decide_eq_false hs (of_decide_eq_true h1).1
  rw [if_neg k4] at h1
  rw [if_neg (by omega), if_neg k3] at hs
  by_cases hv : 0 ≤ v ∧ v ≤ 1
  · rw [if_neg (fun h => h hv)] at h1
    rw [decide_eq_true hv, Bool.and_true] at hs
    have hk := of_decide_eq_false hs
    rw [if_neg (by omega), if_neg (by omega), if_neg (by omega)] at h1
    cases h1
  · rw [if_pos hv] at h1; cases h1
end Go.Proofs.Ytmknleaomfpmmaa
