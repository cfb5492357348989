/-
  What slices.DeleteFunc and slices.Sort do with a few readings, and the reference's own sorting.
-/
import Derived.Test.YtpopcdnjnligiaaM60a
namespace Go.Proofs.Ytpopcdnjnligiaa
open Go.RowKit

abbrev R0 : Int := 0
def keepR (r : Int) : Bool := !decide (r < 0)
/-- The open days among the first. -/
def filK (a : List Int) : Nat → List Int
  | 0 => []
  | k + 1 => cond (keepR (a.getD k R0)) (filK a k ++ [a.getD k R0]) (filK a k)
theorem filK_length (a : List Int) : ∀ k, (filK a k).length ≤ k
  | 0 => by simp [filK]
  | k + 1 => by
    have := filK_length a k
    simp only [filK]
    cases keepR (a.getD k R0)
    · simp only [cond_false]; omega
    · simp only [cond_true, List.length_append, List.length_cons, List.length_nil]; omega
theorem filK_all (a : List Int) : ∀ k, k ≤ a.length → (∀ i, i < k → keepR (a.getD i R0) = true) → filK a k = a.take k
  | 0, _, _ => by simp [filK]
  | k + 1, hk, h => by
    have ih := filK_all a k (by omega) (fun i hi => h i (by omega))
    simp only [filK]
    rw [h k (by omega), cond_true, ih, getD_eq _ _ _ (by omega), List.take_succ_eq_append_getElem (by omega : k < a.length)]
theorem take_set_le {α : Type} (l : List α) (k : Nat) (x : α) (j : Nat) (h : j ≤ k) : (l.set k x).take j = l.take j := by
  rw [List.take_set, List.set_eq_of_length_le (by simp; omega)]
theorem take_succ_set {α : Type} (l : List α) (k : Nat) (x : α) (h : k < l.length) : (l.set k x).take (k + 1) = l.take k ++ [x] := by
  rw [List.take_succ_eq_append_getElem (by simpa using h), take_set_le _ _ _ _ (Nat.le_refl _)]
  simp
theorem clr_take {α : Type} (xs : List α) (k n : Nat) (z : α) (h : k ≤ xs.length) : (clr xs k n z).take k = xs.take k := by
  simp only [clr, List.append_assoc]
  rw [List.take_append_of_le_length (by simp; omega), List.take_take, Nat.min_self]
theorem index_ok (a : List Int) (h : a.length ≤ 1048576) : ∃ r, slices_IndexFunc___int_int__i1 a = some r ∧ ((r = -1 ∧ ∀ i, i < a.length → keepR (a.getD i R0) = true) ∨ ∃ k : Nat, r = (k : Int) ∧ k < a.length ∧ keepR (a.getD k R0) = false ∧ ∀ i, i < k → keepR (a.getD i R0) = true) := by
  unfold slices_IndexFunc___int_int__i1
  obtain ⟨r, e, hr⟩ := iter_ex (f := fun s => slices_IndexFunc___int_int__i1_loop1 a s) (miss := (Sum.inr () : Int ⊕ Unit)) a.length (fun k => decide ((a.getD k R0) < 0)) (fun k => Sum.inl (k : Int)) (fun k => (k : Int)) (fun k hk => by
    show slices_IndexFunc___int_int__i1_loop1 a (k : Int) = _
    unfold slices_IndexFunc___int_int__i1_loop1 impl_voteOf_1
    rw [cond_dt (by omega), grd_pos (by omega), Int.toNat_natCast, Option.bind_some, w64_nat (by omega)]
    cases decide ((a.getD k R0) < 0) <;> rfl) (by
    show slices_IndexFunc___int_int__i1_loop1 a (a.length : Int) = _
    unfold slices_IndexFunc___int_int__i1_loop1
    rw [cond_df (by omega)]) (s := (0 : Int)) rfl
  rw [e]
  rcases hr with ⟨k, hk, hp, hb, rfl⟩ | ⟨hp, rfl⟩
  · exact ⟨_, rfl, .inr ⟨k, rfl, hk, by unfold keepR; rw [hp]; rfl, fun i hi => by unfold keepR; rw [hb i hi]; rfl⟩⟩
  · exact ⟨_, rfl, .inl ⟨rfl, fun i hi => by unfold keepR; rw [hp i hi]; rfl⟩⟩
theorem delete_ok (a : List Int) (h : a.length ≤ 1048576) : ∃ r, slices_DeleteFunc___int_int__i1 a = some r ∧ ((r = Sum.inl (a, a) ∧ filK a a.length = a) ∨ r = Sum.inr (filK a a.length)) := by
  unfold slices_DeleteFunc___int_int__i1
  obtain ⟨r, e, hr⟩ := index_ok a h
  rw [e, Option.bind_some]
  rcases hr with ⟨rfl, hall⟩ | ⟨s, rfl, hs, hd, hb⟩
  · rw [cond_dt rfl]
    refine ⟨_, rfl, .inl ⟨rfl, ?_⟩⟩
    rw [filK_all a a.length (Nat.le_refl _) hall]; simp
  · rw [cond_df (by omega)]
    have key : ∀ (d j k : Nat) (m : List Int), j + d = a.length → m.length = a.length → k ≤ j → (∀ i, k ≤ i → j ≤ i → m.getD i R0 = a.getD i R0) → m.take k = filK a j →
        ∃ (k' : Nat) (m' : List Int), iter (fun q => slices_DeleteFunc___int_int__i1_loop1 q.1 q.2.1 q.2.2) ((k : Int), (j : Int), m) = some ((k' : Int), m') ∧ m'.length = a.length ∧ k' ≤ a.length ∧ m'.take k' = filK a a.length := by
      intro d
      induction d with
      | zero =>
        intro j k m hj hm hk _ ht
        refine ⟨k, m, iter_out ?_, hm, by omega, ?_⟩
        · show slices_DeleteFunc___int_int__i1_loop1 (k : Int) (j : Int) m = _
          unfold slices_DeleteFunc___int_int__i1_loop1
          rw [cond_df (by omega)]
        · rw [ht]; congr 1
      | succ d ih =>
        intro j k m hj hm hk hr ht
        have r1 : m.getD j R0 = a.getD j R0 := hr _ hk (Nat.le_refl _)
        have hstep : slices_DeleteFunc___int_int__i1_loop1 (k : Int) (j : Int) m = some (cond (keepR (a.getD j R0)) (.go (((k + 1 : Nat) : Int), ((j + 1 : Nat) : Int), m.set k (a.getD j R0))) (.go ((k : Int), ((j + 1 : Nat) : Int), m))) := by
          unfold slices_DeleteFunc___int_int__i1_loop1 impl_voteOf_1
          rw [cond_dt (by omega), grd_pos (by omega), Int.toNat_natCast, r1, Option.bind_some, w64_nat (k := j) (by omega)]
          unfold keepR
          by_cases he : (a.getD j R0) < 0
          · rw [cond_ndt he, cond_ndt he]
          · rw [cond_ndf he, cond_ndf he, grd_pos (by omega), w64_nat (by omega), Int.toNat_natCast]
        cases hkp : keepR (a.getD j R0) with
        | false =>
          rw [hkp] at hstep
          obtain ⟨k', m', e, q1, q2, q3⟩ := ih (j + 1) k m (by omega) hm (by omega) (fun i h1 h2 => hr i h1 (by omega)) (by rw [ht]; simp only [filK]; rw [hkp]; rfl)
          exact ⟨k', m', (iter_go hstep).trans e, q1, q2, q3⟩
        | true =>
          rw [hkp] at hstep
          obtain ⟨k', m', e, q1, q2, q3⟩ := ih (j + 1) (k + 1) (m.set k (a.getD j R0)) (by omega) (by simpa using hm) (by omega)
            (fun i h1 h2 => by
              have := hr i (by omega) (by omega)
              simp only [List.getD_eq_getElem?_getD] at this ⊢
              rw [List.getElem?_set_ne (by omega)]
              exact this) (by rw [take_succ_set _ _ _ (by omega), ht]; simp only [filK]; rw [hkp]; rfl)
          exact ⟨k', m', (iter_go hstep).trans e, q1, q2, q3⟩
    have h0 := filK_all a s (by omega) hb
    obtain ⟨k, m, e2, q1, q2, q3⟩ := key (a.length - s - 1) (s + 1) s a (by omega) rfl (by omega) (fun _ _ _ => rfl) (by simp only [filK]; rw [hd, cond_false, h0])
    rw [w64_nat (by omega), e2, Option.bind_some]
    have hcl : (clr m k ((m.length : Int) - (k : Int)).toNat (0 : Int)).length = m.length := clr_length m k _ _ (by omega)
    simp only [Int.toNat_natCast]
    rw [grd_pos (by omega), grd_pos (by rw [hcl]; omega), clr_take _ _ _ _ (by omega), q3]
    exact ⟨_, rfl, .inr rfl⟩
/-! ### Sorting by inserting -/
def posR (x : Int) (l : List Int) : Nat → Nat
  | 0 => 0
  | k + 1 => if x < (l.getD k R0) then posR x l k else k + 1
theorem posR_le (x : Int) (l : List Int) : ∀ k, posR x l k ≤ k
  | 0 => Nat.le_refl _
  | k + 1 => by
    have := posR_le x l k
    simp only [posR]
    split <;> omega
def insR (x : Int) (l : List Int) : List Int := l.take (posR x l l.length) ++ x :: l.drop (posR x l l.length)
theorem insR_length (x : Int) (l : List Int) : (insR x l).length = l.length + 1 := by
  have := posR_le x l l.length
  unfold insR
  simp only [List.length_append, List.length_take, List.length_cons, List.length_drop]
  omega
def srtK (f : List Int) : Nat → List Int
  | 0 => []
  | k + 1 => insR (f.getD k R0) (srtK f k)
theorem srtK_length (f : List Int) : ∀ k, (srtK f k).length = k
  | 0 => rfl
  | k + 1 => by simp only [srtK]; rw [insR_length, srtK_length f k]
theorem srtK_app (f g : List Int) : ∀ k, k ≤ f.length → srtK (f ++ g) k = srtK f k
  | 0, _ => rfl
  | k + 1, hk => by
    simp only [srtK]
    rw [srtK_app f g k (by omega)]
    congr 1
    simp only [List.getD_eq_getElem?_getD]
    rw [List.getElem?_append_left (by omega)]
theorem srtK_snoc (f : List Int) (x : Int) : srtK (f ++ [x]) (f.length + 1) = insR x (srtK f f.length) := by
  simp only [srtK]
  rw [srtK_app f [x] f.length (Nat.le_refl _)]
  congr 1
  simp [List.getD_eq_getElem?_getD]
theorem less_eq (r q : Int) : cmp_Less_int_ r q = some (decide (r < q)) := by
  unfold cmp_Less_int_ cmp_isNaN_int_
  simp only [decide_true, Bool.not_true, Option.bind_some, cond_false]
theorem swap_eq {α : Type} (A : List α) (b x : α) (B : List α) : ((A ++ b :: x :: B).set (A.length + 1) b).set A.length x = A ++ x :: b :: B := by
  have h1 := set_mid (A ++ [b]) x b B
  simp only [List.length_append, List.length_cons, List.length_nil, List.append_assoc, List.cons_append, List.nil_append] at h1
  rw [h1]
  exact set_mid A b x (b :: B)
abbrev last18 (r : Int × Int × Int × Int × Int × Bool × (List Int)) : List Int := r.2.2.2.2.2.2
theorem ins_loop (l rest : List Int) (x : Int) (hl : l.length + rest.length ≤ 1048576) : ∀ k, k ≤ l.length →
    ∃ r, iter (fun s => slices_insertionSortOrdered_int__loop2 0 s.1 s.2) ((k : Int), l.take k ++ x :: (l.drop k ++ rest)) = some r ∧ Sum.elim last18 (fun s => s) r = l.take (posR x l k) ++ x :: (l.drop (posR x l k) ++ rest)
  | 0, _ => by
    refine ⟨Sum.inr (l.take 0 ++ x :: (l.drop 0 ++ rest)), iter_out ?_, rfl⟩
    show slices_insertionSortOrdered_int__loop2 0 ((0 : Nat) : Int) _ = _
    unfold slices_insertionSortOrdered_int__loop2
    rw [cond_df (by omega)]
  | k + 1, hk => by
    have hk' : k < l.length := by omega
    have e1 : w64 (((k + 1 : Nat) : Int) - 1) = (k : Int) := by rw [w64_id (by omega) (by omega)]; omega
    have htk : l.take (k + 1) = l.take k ++ [l[k]] := List.take_succ_eq_append_getElem hk'
    have hdk : l.drop k = l[k] :: l.drop (k + 1) := List.drop_eq_getElem_cons hk'
    have hA : (l.take k).length = k := by simp; omega
    have hdata : l.take (k + 1) ++ x :: (l.drop (k + 1) ++ rest) = l.take k ++ l[k] :: x :: (l.drop (k + 1) ++ rest) := by rw [htk, List.append_assoc]; rfl
    have hlen : (l.take k ++ l[k] :: x :: (l.drop (k + 1) ++ rest)).length = l.length + 1 + rest.length := by simp; omega
    have g1 : (l.take k ++ l[k] :: x :: (l.drop (k + 1) ++ rest)).getD k R0 = l[k] := by
      have := getD_mid (l.take k) l[k] R0 (x :: (l.drop (k + 1) ++ rest))
      rw [hA] at this; exact this
    have g2 : (l.take k ++ l[k] :: x :: (l.drop (k + 1) ++ rest)).getD (k + 1) R0 = x := by
      have := getD_mid (l.take k ++ [l[k]]) x R0 (l.drop (k + 1) ++ rest)
      simp only [List.length_append, List.length_cons, List.length_nil, List.append_assoc, List.cons_append, List.nil_append, hA] at this
      exact this
    have hsw := swap_eq (l.take k) l[k] x (l.drop (k + 1) ++ rest)
    rw [hA] at hsw
    rw [hdata]
    by_cases hc : x < l[k]
    · obtain ⟨r, e2, h2⟩ := ins_loop l rest x hl k (by omega)
      refine ⟨r, (iter_go ?_).trans e2, ?_⟩
      · show slices_insertionSortOrdered_int__loop2 0 ((k + 1 : Nat) : Int) _ = _
        unfold slices_insertionSortOrdered_int__loop2
        simp only [e1, Int.toNat_natCast]
        rw [cond_dt (by omega), grd_pos (by rw [hlen]; omega), grd_pos (by rw [hlen]; omega), g1, g2, less_eq, Option.bind_some, cond_dt hc, grd_pos (by rw [hlen]; omega), grd_pos (by rw [hlen]; omega), grd_pos (by rw [hlen]; omega), grd_pos (by rw [List.length_set, hlen]; omega), hsw, hdk]
        rfl
      · rw [h2]
        simp only [posR]
        rw [if_pos (by rw [getD_eq _ _ _ hk']; exact hc)]
    · obtain ⟨r0, e2, h2⟩ : ∃ r0, slices_insertionSortOrdered_int__loop2 0 ((k + 1 : Nat) : Int) (l.take k ++ l[k] :: x :: (l.drop (k + 1) ++ rest)) = some (.out (Sum.inl r0)) ∧ last18 r0 = l.take k ++ l[k] :: x :: (l.drop (k + 1) ++ rest) := by
        unfold slices_insertionSortOrdered_int__loop2
        simp only [e1, Int.toNat_natCast]
        rw [cond_dt (by omega), grd_pos (by rw [hlen]; omega), grd_pos (by rw [hlen]; omega), g1, g2, less_eq, Option.bind_some, cond_df hc]
        exact ⟨_, rfl, rfl⟩
      refine ⟨Sum.inl r0, iter_out e2, ?_⟩
      show last18 r0 = _
      rw [h2]
      simp only [posR]
      rw [if_neg (by rw [getD_eq _ _ _ hk']; exact hc), hdata]
theorem sort_ok (f : List Int) (hf : f.length ≤ 12) : slices_Sort___int_int_ f = some (srtK f f.length) := by
  have hins : slices_insertionSortOrdered_int_ f 0 (f.length : Int) = some (srtK f f.length) := by
    unfold slices_insertionSortOrdered_int_
    have hw : w64 ((0 : Int) + 1) = 1 := by rw [w64_id (by omega) (by omega)]; rfl
    rw [hw]
    cases hfl : f with
    | nil =>
      have : iter (fun s => slices_insertionSortOrdered_int__loop1 0 (([] : List Int).length : Int) s.1 s.2) ((1 : Int), ([] : List Int)) = some [] := iter_out (by
        show slices_insertionSortOrdered_int__loop1 0 (([] : List Int).length : Int) 1 [] = _
        unfold slices_insertionSortOrdered_int__loop1
        rw [cond_df (by simp)])
      rw [this]; rfl
    | cons x0 fs =>
      rw [← hfl]
      have hpos : 0 < f.length := by rw [hfl]; simp
      have key : ∀ (d i : Nat), i + d = f.length → iter (fun s => slices_insertionSortOrdered_int__loop1 0 (f.length : Int) s.1 s.2) ((i : Int), srtK f i ++ f.drop i) = some (srtK f f.length) := by
        intro d
        induction d with
        | zero =>
          intro i hi
          obtain rfl : i = f.length := by omega
          refine iter_out ?_
          show slices_insertionSortOrdered_int__loop1 0 (f.length : Int) (f.length : Int) _ = _
          unfold slices_insertionSortOrdered_int__loop1
          rw [cond_df (by omega), List.drop_length, List.append_nil]
        | succ d ih =>
          intro i hi
          have hi' : i < f.length := by omega
          refine (iter_go ?_).trans (ih (i + 1) (by omega))
          show slices_insertionSortOrdered_int__loop1 0 (f.length : Int) (i : Int) _ = _
          obtain ⟨r, e, hr⟩ := ins_loop (srtK f i) (f.drop (i + 1)) f[i] (by rw [srtK_length, List.length_drop]; omega) i (by rw [srtK_length]; omega)
          have hs : (srtK f i).take i = srtK f i := List.take_of_length_le (by rw [srtK_length]; omega)
          have hd : (srtK f i).drop i = [] := List.drop_eq_nil_iff.2 (by rw [srtK_length]; omega)
          rw [hs, hd, List.nil_append, ← List.drop_eq_getElem_cons hi'] at e
          have hres : Sum.elim last18 (fun s => s) r = srtK f (i + 1) ++ f.drop (i + 1) := by
            rw [hr]
            simp only [srtK]
            rw [getD_eq _ _ _ hi']
            unfold insR
            rw [srtK_length, List.append_assoc]; rfl
          unfold slices_insertionSortOrdered_int__loop1
          rw [cond_dt (by omega), e, Option.bind_some, w64_nat (by omega)]
          cases r with
          | inl r =>
            rw [Sum.elim_inl] at hres
            rw [Sum.elim_inl]
            exact congrArg (fun z => some (Lp.go (_, z))) hres
          | inr r =>
            rw [Sum.elim_inr] at hres
            rw [Sum.elim_inr]
            exact congrArg (fun z => some (Lp.go (_, z))) hres
      have h1 : srtK f 1 ++ f.drop 1 = f := by rw [hfl]; rfl
      have := key (f.length - 1) 1 (by omega)
      rw [h1] at this
      rw [show ((1 : Nat) : Int) = (1 : Int) from rfl] at this
      rw [this]; rfl
  have hlen : math_bits_Len (wu64 (f.length : Int)) = some ((Lib.bitLen f.length : Nat) : Int) := by
    unfold math_bits_Len math_bits_Len64
    have e : wu64 (f.length : Int) = (f.length : Int) := by
      show IntKind.u64.wrap _ = _
      rw [IntKind.wrap_u64]; omega
    rw [e, grd_pos (by omega)]
    rfl
  unfold slices_Sort___int_int_
  rw [hlen, Option.bind_some]
  unfold slices_pdqsortOrdered_int_
  have l1 : iter (fun _ => slices_pdqsortOrdered_int__loop1 f 0 (f.length : Int) ((Lib.bitLen f.length : Nat) : Int)) () = some (srtK f f.length) := iter_out (by
    show slices_pdqsortOrdered_int__loop1 f 0 (f.length : Int) ((Lib.bitLen f.length : Nat) : Int) = _
    unfold slices_pdqsortOrdered_int__loop1
    rw [w64_id (by omega) (by omega), cond_dt (by omega), hins]; rfl)
  rw [l1]; rfl
end Go.Proofs.Ytpopcdnjnligiaa
