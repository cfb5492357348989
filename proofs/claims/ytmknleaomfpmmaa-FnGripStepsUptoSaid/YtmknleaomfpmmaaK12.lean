/-
  Plain laws of slices.Compact on numbers: what is equal to the one before it goes.
-/
import Derived.Test.YtmknleaomfpmmaaD12
namespace Go.Proofs.Ytmknleaomfpmmaa
open Go.RowKit

/-- What is left of the first j. -/
def cpt (a : List Int) : Nat → List Int
  | 0 => []
  | 1 => a.take 1
  | j + 2 => if a.getD (j + 1) 0 = a.getD j 0 then cpt a (j + 1) else cpt a (j + 1) ++ [a.getD (j + 1) 0]
theorem cpt_length (a : List Int) : ∀ j, (cpt a j).length ≤ j
  | 0 => by simp [cpt]
  | 1 => by simp [cpt]; omega
  | j + 2 => by
    have := cpt_length a (j + 1)
    unfold cpt
    split
    · omega
    · simp; omega
theorem cpt_all (a : List Int) : ∀ j, j ≤ a.length → (∀ i, i + 1 < j → a.getD (i + 1) 0 ≠ a.getD i 0) → cpt a j = a.take j
  | 0, _, _ => by simp [cpt]
  | 1, _, _ => by simp [cpt]
  | j + 2, hj, h => by
    have ih := cpt_all a (j + 1) (by omega) (fun i hi => h i (by omega))
    unfold cpt
    rw [if_neg (h j (by omega)), ih, getD_eq _ _ _ (by omega), List.take_succ_eq_append_getElem (by omega : j + 1 < a.length)]
theorem take_set_le {α : Type} (l : List α) (k : Nat) (x : α) (j : Nat) (h : j ≤ k) : (l.set k x).take j = l.take j := by
  rw [List.take_set, List.set_eq_of_length_le (by simp; omega)]
theorem take_succ_set {α : Type} (l : List α) (k : Nat) (x : α) (h : k < l.length) : (l.set k x).take (k + 1) = l.take k ++ [x] := by
  rw [List.take_succ_eq_append_getElem (by simpa using h), take_set_le _ _ _ _ (Nat.le_refl _)]
  simp
theorem compact_loop2 (a : List Int) (h : a.length ≤ 1048576) (s : Nat) (hs : 1 ≤ s) (hsn : s < a.length) (hno : ∀ i, i + 1 < s → a.getD (i + 1) 0 ≠ a.getD i 0) (hd : a.getD s 0 = a.getD (s - 1) 0) :
    ∃ (k : Nat) (m : List Int), iter (fun q => slices_Compact___int_int__loop2 a (s : Int) q.1 q.2.1 q.2.2) ((s : Int), (1 : Int), a) = some ((k : Int), m) ∧ m.length = a.length ∧ k ≤ a.length ∧ m.take k = cpt a a.length := by
  have key : ∀ (d j k : Nat) (m : List Int), s + j + d = a.length → 1 ≤ j → m.length = a.length → k + 1 ≤ s + j → (∀ i, k ≤ i → m.getD i 0 = a.getD i 0) → m.take k = cpt a (s + j) →
      ∃ (k' : Nat) (m' : List Int), iter (fun q => slices_Compact___int_int__loop2 a (s : Int) q.1 q.2.1 q.2.2) ((k : Int), (j : Int), m) = some ((k' : Int), m') ∧ m'.length = a.length ∧ k' ≤ a.length ∧ m'.take k' = cpt a a.length := by
    intro d
    induction d with
    | zero =>
      intro j k m hj h1 hm hk _ ht
      refine ⟨k, m, iter_out ?_, hm, by omega, ?_⟩
      · show slices_Compact___int_int__loop2 a (s : Int) (k : Int) (j : Int) m = _
        unfold slices_Compact___int_int__loop2
        rw [cond_df (by omega)]
      · rw [ht]; congr 1
    | succ d ih =>
      intro j k m hj h1 hm hk hr ht
      have e1 : w64 ((j : Int) - 1) = ((j - 1 : Nat) : Int) := by rw [w64_id (by omega) (by omega)]; omega
      have r1 : m.getD (s + j) 0 = a.getD (s + j) 0 := hr _ (by omega)
      have r2 : m.getD (s + (j - 1)) 0 = a.getD (s + (j - 1)) 0 := hr _ (by omega)
      have hc : cpt a (s + (j + 1)) = if a.getD (s + j) 0 = a.getD (s + (j - 1)) 0 then cpt a (s + j) else cpt a (s + j) ++ [a.getD (s + j) 0] := by
        obtain ⟨p, hp⟩ : ∃ p, s + j = p + 1 := ⟨s + j - 1, by omega⟩
        rw [show s + (j + 1) = p + 2 by omega, show s + (j - 1) = p by omega, hp]
        rfl
      have hstep : ∀ (X : Option (Lp (Int × Int × List Int) (Int × List Int))), (if a.getD (s + j) 0 = a.getD (s + (j - 1)) 0 then some (Lp.go ((k : Int), ((j + 1 : Nat) : Int), m)) else some (.go (((k + 1 : Nat) : Int), ((j + 1 : Nat) : Int), m.set k (a.getD (s + j) 0)))) = X → slices_Compact___int_int__loop2 a (s : Int) (k : Int) (j : Int) m = X := by
        intro X hX
        rw [← hX]
        unfold slices_Compact___int_int__loop2
        rw [cond_dt (by omega), grd_pos (by omega), e1, grd_pos (by omega)]
        simp only [Int.toNat_natCast, r1, r2]
        by_cases he : a.getD (s + j) 0 = a.getD (s + (j - 1)) 0
        · rw [cond_ndt he, if_pos he, w64_nat (by omega)]
        · rw [cond_ndf he, if_neg he, grd_pos (by omega), grd_pos (by omega), w64_nat (by omega), w64_nat (by omega)]
      by_cases he : a.getD (s + j) 0 = a.getD (s + (j - 1)) 0
      · obtain ⟨k', m', e, q1, q2, q3⟩ := ih (j + 1) k m (by omega) (by omega) hm (by omega) hr (by rw [ht, hc, if_pos he])
        exact ⟨k', m', (iter_go (hstep _ (if_pos he))).trans e, q1, q2, q3⟩
      · have hkl : k < m.length := by omega
        obtain ⟨k', m', e, q1, q2, q3⟩ := ih (j + 1) (k + 1) (m.set k (a.getD (s + j) 0)) (by omega) (by omega) (by simpa using hm) (by omega)
          (fun i hi => by
            have := hr i (by omega)
            simp only [List.getD_eq_getElem?_getD] at this ⊢
            rw [List.getElem?_set_ne (by omega)]
            exact this) (by rw [take_succ_set _ _ _ hkl, ht, hc, if_neg he])
        exact ⟨k', m', (iter_go (hstep _ (if_neg he))).trans e, q1, q2, q3⟩
  refine key (a.length - s - 1) 1 s a (by omega) (by omega) rfl (by omega) (fun _ _ => rfl) ?_
  have h0 := cpt_all a s (by omega) hno
  obtain ⟨p, rfl⟩ : ∃ p, s = p + 1 := ⟨s - 1, by omega⟩
  rw [← h0]
  show cpt a (p + 1) = if a.getD (p + 1) 0 = a.getD p 0 then cpt a (p + 1) else _
  rw [if_pos (by simpa using hd)]
theorem clr_take {α : Type} (xs : List α) (k n : Nat) (z : α) (h : k ≤ xs.length) : (clr xs k n z).take k = xs.take k := by
  simp only [clr, List.append_assoc]
  rw [List.take_append_of_le_length (by simp; omega), List.take_take, Nat.min_self]
theorem compact_eq (a : List Int) (h : a.length ≤ 1048576) : ∃ r, slices_Compact___int_int_ a = some r ∧ ((r = Sum.inl (a, a) ∧ cpt a a.length = a) ∨ r = Sum.inr (cpt a a.length)) := by
  unfold slices_Compact___int_int_
  by_cases h2 : (a.length : Int) < 2
  · rw [cond_dt h2]
    refine ⟨_, rfl, .inl ⟨rfl, ?_⟩⟩
    rw [cpt_all a a.length (Nat.le_refl _) (fun i hi => by omega)]; simp
  rw [cond_df h2]
  have key : ∀ (d s : Nat), s + d = a.length → 1 ≤ s → (∀ i, i + 1 < s → a.getD (i + 1) 0 ≠ a.getD i 0) →
      (iter (fun s => slices_Compact___int_int__loop1 a s) (s : Int) = some (Sum.inr ()) ∧ cpt a a.length = a) ∨ iter (fun s => slices_Compact___int_int__loop1 a s) (s : Int) = some (Sum.inl (cpt a a.length)) := by
    intro d
    induction d with
    | zero =>
      intro s hs h1 hno
      left
      refine ⟨iter_out ?_, ?_⟩
      · show slices_Compact___int_int__loop1 a (s : Int) = _
        unfold slices_Compact___int_int__loop1
        rw [cond_df (by omega)]
      · rw [cpt_all a a.length (Nat.le_refl _) (fun i hi => hno i (by omega))]; simp
    | succ d ih =>
      intro s hs h1 hno
      have e1 : w64 ((s : Int) - 1) = ((s - 1 : Nat) : Int) := by rw [w64_id (by omega) (by omega)]; omega
      by_cases he : a.getD s 0 = a.getD (s - 1) 0
      · right
        obtain ⟨k, m, e, q1, q2, q3⟩ := compact_loop2 a h s h1 (by omega) hno he
        refine iter_out ?_
        show slices_Compact___int_int__loop1 a (s : Int) = _
        unfold slices_Compact___int_int__loop1
        rw [cond_dt (by omega), grd_pos (by omega), e1, grd_pos (by omega)]
        simp only [Int.toNat_natCast]
        rw [cond_dt he, grd_pos (by omega), e, Option.bind_some]
        have hcl : (clr m k ((m.length : Int) - (k : Int)).toNat (0 : Int)).length = m.length := clr_length m k _ 0 (by omega)
        simp only [Int.toNat_natCast]
        rw [grd_pos (by omega), grd_pos (by rw [hcl]; omega), clr_take _ _ _ _ (by omega), q3]
      · have hgo : slices_Compact___int_int__loop1 a (s : Int) = some (.go (((s + 1 : Nat) : Int))) := by
          unfold slices_Compact___int_int__loop1
          rw [cond_dt (by omega), grd_pos (by omega), e1, grd_pos (by omega)]
          simp only [Int.toNat_natCast]
          rw [cond_df he, w64_nat (by omega)]
        have := ih (s + 1) (by omega) (by omega) (fun i hi => by
          by_cases hi2 : i + 1 < s
          · exact hno i hi2
          · obtain rfl : i = s - 1 := by omega
            rw [show s - 1 + 1 = s by omega]; exact he)
        rw [iter_go hgo]; exact this
  rcases key (a.length - 1) 1 (by omega) (by omega) (fun i hi => by omega) with ⟨e, hq⟩ | e
  · rw [show ((1 : Nat) : Int) = (1 : Int) from rfl] at e
    rw [e]; exact ⟨_, rfl, .inl ⟨rfl, hq⟩⟩
  · rw [show ((1 : Nat) : Int) = (1 : Int) from rfl] at e
    rw [e]; exact ⟨_, rfl, .inr rfl⟩
end Go.Proofs.Ytmknleaomfpmmaa
