/-
  The best days: what slices.DeleteFunc and slices.SortStableFunc do with a few rows, and the reference's own sorting.
-/
import Derived.Test.YtppiaacfnoifkaaM62a
namespace Go.Proofs.Ytppiaacfnoifkaa
open Go.RowKit

def keepR (r : DayRow) : Bool := !decide (r.2.2.2.1 = 0)
/-- The open days among the first. -/
def filK (a : List DayRow) : Nat → List DayRow
  | 0 => []
  | k + 1 => cond (keepR (a.getD k d_DayRow)) (filK a k ++ [a.getD k d_DayRow]) (filK a k)
theorem filK_length (a : List DayRow) : ∀ k, (filK a k).length ≤ k
  | 0 => by simp [filK]
  | k + 1 => by
    have := filK_length a k
    simp only [filK]
    cases keepR (a.getD k d_DayRow)
    · simp only [cond_false]; omega
    · simp only [cond_true, List.length_append, List.length_cons, List.length_nil]; omega
theorem filK_all (a : List DayRow) : ∀ k, k ≤ a.length → (∀ i, i < k → keepR (a.getD i d_DayRow) = true) → filK a k = a.take k
  | 0, _, _ => by simp [filK]
  | k + 1, hk, h => by
    have ih := filK_all a k (by omega) (fun i hi => h i (by omega))
    simp only [filK]
    rw [h k (by omega), cond_true, ih, getD_eq _ _ _ (by omega), List.take_succ_eq_append_getElem (by omega : k < a.length)]
theorem take_set_le {α : Type} (l : List α) (k : Nat) (x : α) (j : Nat) (h : j ≤ k) : (l.set k x).take j = l.take j := by
  rw [List.take_set, List.set_eq_of_length_le (by simp; omega)]
theorem take_succ_set {α : Type} (l : List α) (k : Nat) (x : α) (h : k < l.length) : (l.set k x).take (k + 1) = l.take k ++ [x] := by
  rw [List.take_succ_eq_append_getElem (by simpa using h), take_set_le _ _ _ _ (Nat.le_refl _)]
  simp
theorem clr_take {α : Type} (xs : List α) (k n : Nat) (z : α) (h : k ≤ xs.length) : (clr xs k n z).take k = xs.take k := by
  simp only [clr, List.append_assoc]
  rw [List.take_append_of_le_length (by simp; omega), List.take_take, Nat.min_self]
theorem index_ok (a : List DayRow) (h : a.length ≤ 1048576) : ∃ r, slices_IndexFunc___impl_DayRow_impl_DayRow__i1 a = some r ∧ ((r = -1 ∧ ∀ i, i < a.length → keepR (a.getD i d_DayRow) = true) ∨ ∃ k : Nat, r = (k : Int) ∧ k < a.length ∧ keepR (a.getD k d_DayRow) = false ∧ ∀ i, i < k → keepR (a.getD i d_DayRow) = true) := by
  unfold slices_IndexFunc___impl_DayRow_impl_DayRow__i1
  obtain ⟨r, e, hr⟩ := iter_ex (f := fun s => slices_IndexFunc___impl_DayRow_impl_DayRow__i1_loop1 a s) (miss := (Sum.inr () : Int ⊕ Unit)) a.length (fun k => decide ((a.getD k d_DayRow).2.2.2.1 = 0)) (fun k => Sum.inl (k : Int)) (fun k => (k : Int)) (fun k hk => by
    show slices_IndexFunc___impl_DayRow_impl_DayRow__i1_loop1 a (k : Int) = _
    unfold slices_IndexFunc___impl_DayRow_impl_DayRow__i1_loop1 impl_BestDays_1
    rw [cond_dt (by omega), grd_pos (by omega), row_eta, Int.toNat_natCast, Option.bind_some, w64_nat (by omega)]
    cases decide ((a.getD k d_DayRow).2.2.2.1 = 0) <;> rfl) (by
    show slices_IndexFunc___impl_DayRow_impl_DayRow__i1_loop1 a (a.length : Int) = _
    unfold slices_IndexFunc___impl_DayRow_impl_DayRow__i1_loop1
    rw [cond_df (by omega)]) (s := (0 : Int)) rfl
  rw [e]
  rcases hr with ⟨k, hk, hp, hb, rfl⟩ | ⟨hp, rfl⟩
  · exact ⟨_, rfl, .inr ⟨k, rfl, hk, by unfold keepR; rw [hp]; rfl, fun i hi => by unfold keepR; rw [hb i hi]; rfl⟩⟩
  · exact ⟨_, rfl, .inl ⟨rfl, fun i hi => by unfold keepR; rw [hp i hi]; rfl⟩⟩
theorem delete_ok (a : List DayRow) (h : a.length ≤ 1048576) : ∃ r, slices_DeleteFunc___impl_DayRow_impl_DayRow__i1 a = some r ∧ ((r = Sum.inl (a, a) ∧ filK a a.length = a) ∨ r = Sum.inr (filK a a.length)) := by
  unfold slices_DeleteFunc___impl_DayRow_impl_DayRow__i1
  obtain ⟨r, e, hr⟩ := index_ok a h
  rw [e, Option.bind_some]
  rcases hr with ⟨rfl, hall⟩ | ⟨s, rfl, hs, hd, hb⟩
  · rw [cond_dt rfl]
    refine ⟨_, rfl, .inl ⟨rfl, ?_⟩⟩
    rw [filK_all a a.length (Nat.le_refl _) hall]; simp
  · rw [cond_df (by omega)]
    have key : ∀ (d j k : Nat) (m : List DayRow), j + d = a.length → m.length = a.length → k ≤ j → (∀ i, k ≤ i → j ≤ i → m.getD i d_DayRow = a.getD i d_DayRow) → m.take k = filK a j →
        ∃ (k' : Nat) (m' : List DayRow), iter (fun q => slices_DeleteFunc___impl_DayRow_impl_DayRow__i1_loop1 q.1 q.2.1 q.2.2) ((k : Int), (j : Int), m) = some ((k' : Int), m') ∧ m'.length = a.length ∧ k' ≤ a.length ∧ m'.take k' = filK a a.length := by
      intro d
      induction d with
      | zero =>
        intro j k m hj hm hk _ ht
        refine ⟨k, m, iter_out ?_, hm, by omega, ?_⟩
        · show slices_DeleteFunc___impl_DayRow_impl_DayRow__i1_loop1 (k : Int) (j : Int) m = _
          unfold slices_DeleteFunc___impl_DayRow_impl_DayRow__i1_loop1
          rw [cond_df (by omega)]
        · rw [ht]; congr 1
      | succ d ih =>
        intro j k m hj hm hk hr ht
        have r1 : m.getD j d_DayRow = a.getD j d_DayRow := hr _ hk (Nat.le_refl _)
        have hstep : slices_DeleteFunc___impl_DayRow_impl_DayRow__i1_loop1 (k : Int) (j : Int) m = some (cond (keepR (a.getD j d_DayRow)) (.go (((k + 1 : Nat) : Int), ((j + 1 : Nat) : Int), m.set k (a.getD j d_DayRow))) (.go ((k : Int), ((j + 1 : Nat) : Int), m))) := by
          unfold slices_DeleteFunc___impl_DayRow_impl_DayRow__i1_loop1 impl_BestDays_1
          rw [cond_dt (by omega), grd_pos (by omega), row_eta, Int.toNat_natCast, r1, Option.bind_some, w64_nat (k := j) (by omega)]
          unfold keepR
          by_cases he : (a.getD j d_DayRow).2.2.2.1 = 0
          · rw [cond_ndt he, cond_ndt he]
          · rw [cond_ndf he, cond_ndf he, grd_pos (by omega), w64_nat (by omega), Int.toNat_natCast]
        cases hkp : keepR (a.getD j d_DayRow) with
        | false =>
          rw [hkp] at hstep
          obtain ⟨k', m', e, q1, q2, q3⟩ := ih (j + 1) k m (by omega) hm (by omega) (fun i h1 h2 => hr i h1 (by omega)) (by rw [ht]; simp only [filK]; rw [hkp]; rfl)
          exact ⟨k', m', (iter_go hstep).trans e, q1, q2, q3⟩
        | true =>
          rw [hkp] at hstep
          obtain ⟨k', m', e, q1, q2, q3⟩ := ih (j + 1) (k + 1) (m.set k (a.getD j d_DayRow)) (by omega) (by simpa using hm) (by omega)
            (fun i h1 h2 => by
              have := hr i (by omega) (by omega)
              simp only [List.getD_eq_getElem?_getD] at this ⊢
              rw [List.getElem?_set_ne (by omega)]
              exact this) (by rw [take_succ_set _ _ _ (by omega), ht]; simp only [filK]; rw [hkp]; rfl)
          exact ⟨k', m', (iter_go hstep).trans e, q1, q2, q3⟩
    have h0 := filK_all a s (by omega) hb
    obtain ⟨k, m, e2, q1, q2, q3⟩ := key (a.length - s - 1) (s + 1) s a (by omega) rfl (by omega) (fun _ _ _ => rfl) (by simp only [filK]; rw [hd, cond_false, h0])
    rw [w64_nat (by omega), e2, Option.bind_some]
    have hcl : (clr m k ((m.length : Int) - (k : Int)).toNat ((0 : Int), (0 : Int), (0 : Int), (0 : Int), (0 : Int), (ByteArray.mk #[]), ())).length = m.length := clr_length m k _ _ (by omega)
    simp only [Int.toNat_natCast]
    rw [grd_pos (by omega), grd_pos (by rw [hcl]; omega), clr_take _ _ _ _ (by omega), q3]
    exact ⟨_, rfl, .inr rfl⟩
/-! ### Sorting by inserting -/
def posR (x : DayRow) (l : List DayRow) : Nat → Nat
  | 0 => 0
  | k + 1 => if (l.getD k d_DayRow).2.1 < x.2.1 then posR x l k else k + 1
theorem posR_le (x : DayRow) (l : List DayRow) : ∀ k, posR x l k ≤ k
  | 0 => Nat.le_refl _
  | k + 1 => by
    have := posR_le x l k
    simp only [posR]
    split <;> omega
def insR (x : DayRow) (l : List DayRow) : List DayRow := l.take (posR x l l.length) ++ x :: l.drop (posR x l l.length)
theorem insR_length (x : DayRow) (l : List DayRow) : (insR x l).length = l.length + 1 := by
  have := posR_le x l l.length
  unfold insR
  simp only [List.length_append, List.length_take, List.length_cons, List.length_drop]
  omega
def srtK (f : List DayRow) : Nat → List DayRow
  | 0 => []
  | k + 1 => insR (f.getD k d_DayRow) (srtK f k)
theorem srtK_length (f : List DayRow) : ∀ k, (srtK f k).length = k
  | 0 => rfl
  | k + 1 => by simp only [srtK]; rw [insR_length, srtK_length f k]
theorem srtK_app (f g : List DayRow) : ∀ k, k ≤ f.length → srtK (f ++ g) k = srtK f k
  | 0, _ => rfl
  | k + 1, hk => by
    simp only [srtK]
    rw [srtK_app f g k (by omega)]
    congr 1
    simp only [List.getD_eq_getElem?_getD]
    rw [List.getElem?_append_left (by omega)]
theorem srtK_snoc (f : List DayRow) (x : DayRow) : srtK (f ++ [x]) (f.length + 1) = insR x (srtK f f.length) := by
  simp only [srtK]
  rw [srtK_app f [x] f.length (Nat.le_refl _)]
  congr 1
  simp [List.getD_eq_getElem?_getD]
theorem cmp_eq (r q : DayRow) : ∃ y, impl_BestDays_2 r q = some y ∧ (y < 0 ↔ q.2.1 < r.2.1) := by
  unfold impl_BestDays_2 cmp_Compare_int_ cmp_isNaN_int_
  simp only [decide_true, Bool.not_true, Option.bind_some, cond_false]
  by_cases h1 : q.2.1 < r.2.1
  · rw [cond_dt h1]; exact ⟨-1, rfl, by omega⟩
  · rw [cond_df h1]
    by_cases h2 : r.2.1 < q.2.1
    · rw [cond_dt h2]; exact ⟨1, rfl, by omega⟩
    · rw [cond_df h2]; exact ⟨0, rfl, by omega⟩
theorem swap_eq {α : Type} (A : List α) (b x : α) (B : List α) : ((A ++ b :: x :: B).set (A.length + 1) b).set A.length x = A ++ x :: b :: B := by
  have h1 := set_mid (A ++ [b]) x b B
  simp only [List.length_append, List.length_cons, List.length_nil, List.append_assoc, List.cons_append, List.nil_append] at h1
  rw [h1]
  exact set_mid A b x (b :: B)
abbrev last18 (r : Int × Int × Int × Int × Int × Int × ByteArray × Int × Int × Int × Int × Int × Int × Int × ByteArray × Int × Bool × (List DayRow)) : List DayRow := r.2.2.2.2.2.2.2.2.2.2.2.2.2.2.2.2.2
theorem ins_loop (l rest : List DayRow) (x : DayRow) (hl : l.length + rest.length ≤ 1048576) : ∀ k, k ≤ l.length →
    ∃ r, iter (fun s => slices_insertionSortCmpFunc_impl_DayRow__i1_loop2 0 s.1 s.2) ((k : Int), l.take k ++ x :: (l.drop k ++ rest)) = some r ∧ Sum.elim last18 (fun s => s) r = l.take (posR x l k) ++ x :: (l.drop (posR x l k) ++ rest)
  | 0, _ => by
    refine ⟨Sum.inr (l.take 0 ++ x :: (l.drop 0 ++ rest)), iter_out ?_, rfl⟩
    show slices_insertionSortCmpFunc_impl_DayRow__i1_loop2 0 ((0 : Nat) : Int) _ = _
    unfold slices_insertionSortCmpFunc_impl_DayRow__i1_loop2
    rw [cond_df (by omega)]
  | k + 1, hk => by
    have hk' : k < l.length := by omega
    have e1 : w64 (((k + 1 : Nat) : Int) - 1) = (k : Int) := by rw [w64_id (by omega) (by omega)]; omega
    have htk : l.take (k + 1) = l.take k ++ [l[k]] := List.take_succ_eq_append_getElem hk'
    have hdk : l.drop k = l[k] :: l.drop (k + 1) := List.drop_eq_getElem_cons hk'
    have hA : (l.take k).length = k := by simp; omega
    have hdata : l.take (k + 1) ++ x :: (l.drop (k + 1) ++ rest) = l.take k ++ l[k] :: x :: (l.drop (k + 1) ++ rest) := by rw [htk, List.append_assoc]; rfl
    have hlen : (l.take k ++ l[k] :: x :: (l.drop (k + 1) ++ rest)).length = l.length + 1 + rest.length := by simp; omega
    have g1 : (l.take k ++ l[k] :: x :: (l.drop (k + 1) ++ rest)).getD k d_DayRow = l[k] := by
      have := getD_mid (l.take k) l[k] d_DayRow (x :: (l.drop (k + 1) ++ rest))
      rw [hA] at this; exact this
    have g2 : (l.take k ++ l[k] :: x :: (l.drop (k + 1) ++ rest)).getD (k + 1) d_DayRow = x := by
      have := getD_mid (l.take k ++ [l[k]]) x d_DayRow (l.drop (k + 1) ++ rest)
      simp only [List.length_append, List.length_cons, List.length_nil, List.append_assoc, List.cons_append, List.nil_append, hA] at this
      exact this
    have hsw := swap_eq (l.take k) l[k] x (l.drop (k + 1) ++ rest)
    rw [hA] at hsw
    obtain ⟨y, hy, hlt⟩ := cmp_eq x l[k]
    rw [hdata]
    by_cases hc : (l[k]).2.1 < x.2.1
    · obtain ⟨r, e2, h2⟩ := ins_loop l rest x hl k (by omega)
      refine ⟨r, (iter_go ?_).trans e2, ?_⟩
      · show slices_insertionSortCmpFunc_impl_DayRow__i1_loop2 0 ((k + 1 : Nat) : Int) _ = _
        unfold slices_insertionSortCmpFunc_impl_DayRow__i1_loop2
        simp only [e1, row_eta, Int.toNat_natCast]
        rw [cond_dt (by omega), grd_pos (by rw [hlen]; omega), grd_pos (by rw [hlen]; omega), g1, g2, hy, Option.bind_some, cond_dt (hlt.2 hc), grd_pos (by rw [hlen]; omega), grd_pos (by rw [hlen]; omega), grd_pos (by rw [hlen]; omega), grd_pos (by rw [List.length_set, hlen]; omega), hsw, hdk]
        rfl
      · rw [h2]
        simp only [posR]
        rw [if_pos (by rw [getD_eq _ _ _ hk']; exact hc)]
    · obtain ⟨r0, e2, h2⟩ : ∃ r0, slices_insertionSortCmpFunc_impl_DayRow__i1_loop2 0 ((k + 1 : Nat) : Int) (l.take k ++ l[k] :: x :: (l.drop (k + 1) ++ rest)) = some (.out (Sum.inl r0)) ∧ last18 r0 = l.take k ++ l[k] :: x :: (l.drop (k + 1) ++ rest) := by
        unfold slices_insertionSortCmpFunc_impl_DayRow__i1_loop2
        simp only [e1, row_eta, Int.toNat_natCast]
        rw [cond_dt (by omega), grd_pos (by rw [hlen]; omega), grd_pos (by rw [hlen]; omega), g1, g2, hy, Option.bind_some, cond_df (fun h => hc (hlt.1 h))]
        exact ⟨_, rfl, rfl⟩
      refine ⟨Sum.inl r0, iter_out e2, ?_⟩
      show last18 r0 = _
      rw [h2]
      simp only [posR]
      rw [if_neg (by rw [getD_eq _ _ _ hk']; exact hc), hdata]
theorem sort_ok (f : List DayRow) (hf : f.length ≤ 14) : slices_SortStableFunc___impl_DayRow_impl_DayRow__i1 f = some (srtK f f.length) := by
  have hins : slices_insertionSortCmpFunc_impl_DayRow__i1 f 0 (f.length : Int) = some (srtK f f.length) := by
    unfold slices_insertionSortCmpFunc_impl_DayRow__i1
    have hw : w64 ((0 : Int) + 1) = 1 := by rw [w64_id (by omega) (by omega)]; rfl
    rw [hw]
    cases hfl : f with
    | nil =>
      have : iter (fun s => slices_insertionSortCmpFunc_impl_DayRow__i1_loop1 0 (([] : List DayRow).length : Int) s.1 s.2) ((1 : Int), ([] : List DayRow)) = some [] := iter_out (by
        show slices_insertionSortCmpFunc_impl_DayRow__i1_loop1 0 (([] : List DayRow).length : Int) 1 [] = _
        unfold slices_insertionSortCmpFunc_impl_DayRow__i1_loop1
        rw [cond_df (by simp)])
      rw [this]; rfl
    | cons x0 fs =>
      rw [← hfl]
      have hpos : 0 < f.length := by rw [hfl]; simp
      have key : ∀ (d i : Nat), i + d = f.length → iter (fun s => slices_insertionSortCmpFunc_impl_DayRow__i1_loop1 0 (f.length : Int) s.1 s.2) ((i : Int), srtK f i ++ f.drop i) = some (srtK f f.length) := by
        intro d
        induction d with
        | zero =>
          intro i hi
          obtain rfl : i = f.length := by omega
          refine iter_out ?_
          show slices_insertionSortCmpFunc_impl_DayRow__i1_loop1 0 (f.length : Int) (f.length : Int) _ = _
          unfold slices_insertionSortCmpFunc_impl_DayRow__i1_loop1
          rw [cond_df (by omega), List.drop_length, List.append_nil]
        | succ d ih =>
          intro i hi
          have hi' : i < f.length := by omega
          refine (iter_go ?_).trans (ih (i + 1) (by omega))
          show slices_insertionSortCmpFunc_impl_DayRow__i1_loop1 0 (f.length : Int) (i : Int) _ = _
          obtain ⟨r, e, hr⟩ := ins_loop (srtK f i) (f.drop (i + 1)) f[i] (by rw [srtK_length, List.length_drop]; omega) i (by rw [srtK_length]; omega)
          have hs : (srtK f i).take i = srtK f i := List.take_of_length_le (by rw [srtK_length]; omega)
          have hd : (srtK f i).drop i = [] := List.drop_eq_nil_iff.2 (by rw [srtK_length]; omega)
          rw [hs, hd, List.nil_append, ← List.drop_eq_getElem_cons hi'] at e
          have hres : Sum.elim last18 (fun s => s) r = srtK f (i + 1) ++ f.drop (i + 1) := by
            rw [hr]
            simp only [srtK]
            rw [getD_eq _ _ _ hi']
            unfold insR
            rw [srtK_length, List.append_assoc]; rfl
          unfold slices_insertionSortCmpFunc_impl_DayRow__i1_loop1
          rw [cond_dt (by omega), e, Option.bind_some, w64_nat (by omega)]
          cases r with
          | inl r =>
            rw [Sum.elim_inl] at hres
            rw [Sum.elim_inl]
            exact congrArg (fun z => some (Lp.go (_, z))) hres
          | inr r =>
            rw [Sum.elim_inr] at hres
            rw [Sum.elim_inr]
            exact congrArg (fun z => some (Lp.go (_, z))) hres
      have h1 : srtK f 1 ++ f.drop 1 = f := by rw [hfl]; rfl
      have := key (f.length - 1) 1 (by omega)
      rw [h1] at this
      rw [show ((1 : Nat) : Int) = (1 : Int) from rfl] at this
      rw [this]; rfl
  unfold slices_SortStableFunc___impl_DayRow_impl_DayRow__i1 slices_stableCmpFunc_impl_DayRow__i1
  have l1 : iter (fun s => slices_stableCmpFunc_impl_DayRow__i1_loop1 (f.length : Int) s.1 s.2.1 s.2.2) ((0 : Int), (20 : Int), f) = some ((0 : Int), f) := iter_out (by
    show slices_stableCmpFunc_impl_DayRow__i1_loop1 (f.length : Int) 0 20 f = _
    unfold slices_stableCmpFunc_impl_DayRow__i1_loop1
    rw [cond_df (by omega)])
  have l2 : iter (fun s => slices_stableCmpFunc_impl_DayRow__i1_loop2 (f.length : Int) s.1 s.2) ((20 : Int), srtK f f.length) = some (srtK f f.length) := iter_out (by
    show slices_stableCmpFunc_impl_DayRow__i1_loop2 (f.length : Int) 20 _ = _
    unfold slices_stableCmpFunc_impl_DayRow__i1_loop2
    rw [cond_df (by omega)])
  simp only [l1, Option.bind_some, hins, l2]
/-! ### The reference's list -/
theorem ref_pos (a o : List DayRow) (i : Nat) (hi : i < a.length) (ho : o.length ≤ 1048576) : ∀ k, k ≤ o.length →
    ∃ r, iter (fun s => spec_BestDays_loop2 a (i : Int) o s) (k : Int) = some r ∧ Sum.elim (fun (q : Int × Int × Int × Int × Bool) => q.1) (fun q => q) r = (posR (a.getD i d_DayRow) o k : Int)
  | 0, _ => by
    refine ⟨Sum.inr 0, iter_out ?_, rfl⟩
    show spec_BestDays_loop2 a (i : Int) o ((0 : Nat) : Int) = _
    unfold spec_BestDays_loop2
    rw [cond_df (by omega)]; rfl
  | k + 1, hk => by
    have e1 : w64 (((k + 1 : Nat) : Int) - 1) = (k : Int) := by
      have := posR_le (a.getD i d_DayRow) o k
      rw [w64_id (by omega) (by omega)]; omega
    by_cases hc : (o.getD k d_DayRow).2.1 < (a.getD i d_DayRow).2.1
    · obtain ⟨r, e2, h2⟩ := ref_pos a o i hi ho k (by omega)
      refine ⟨r, (iter_go ?_).trans e2, ?_⟩
      · show spec_BestDays_loop2 a (i : Int) o ((k + 1 : Nat) : Int) = _
        unfold spec_BestDays_loop2
        simp only [e1, Int.toNat_natCast]
        rw [cond_dt (by omega), grd_pos (by omega), grd_pos (by omega), cond_dt hc]
      · rw [h2]; simp only [posR]; rw [if_pos hc]
    · obtain ⟨r0, e2, h2⟩ : ∃ r0 : Int × Int × Int × Int × Bool, spec_BestDays_loop2 a (i : Int) o ((k + 1 : Nat) : Int) = some (.out (Sum.inl r0)) ∧ r0.1 = ((k + 1 : Nat) : Int) := by
        unfold spec_BestDays_loop2
        simp only [e1, Int.toNat_natCast]
        rw [cond_dt (by omega), grd_pos (by omega), grd_pos (by omega), cond_df hc]
        exact ⟨_, rfl, rfl⟩
      refine ⟨Sum.inl r0, iter_out e2, ?_⟩
      show r0.1 = _
      rw [h2]
      simp only [posR]; rw [if_neg hc]
def refK (a : List DayRow) : Nat → List DayRow
  | 0 => []
  | k + 1 => cond (decide (0 < (a.getD k d_DayRow).2.2.2.1)) (insR (a.getD k d_DayRow) (refK a k)) (refK a k)
theorem refK_le (a : List DayRow) : ∀ k, (refK a k).length ≤ k
  | 0 => by simp [refK]
  | k + 1 => by
    have := refK_le a k
    simp only [refK]
    cases decide (0 < (a.getD k d_DayRow).2.2.2.1)
    · simp only [cond_false]; omega
    · simp only [cond_true]; rw [insR_length]; omega
theorem refK_eq (a : List DayRow) (n : Nat) (h : ∀ k, k < n → 0 ≤ (a.getD k d_DayRow).2.2.2.1) : ∀ k, k ≤ n → refK a k = srtK (filK a k) (filK a k).length
  | 0, _ => rfl
  | k + 1, hk => by
    have ih := refK_eq a n h k (by omega)
    have h0 := h k (by omega)
    simp only [refK, filK]
    by_cases hp : 0 < (a.getD k d_DayRow).2.2.2.1
    · have hkp : keepR (a.getD k d_DayRow) = true := by unfold keepR; rw [decide_eq_false (by omega)]; rfl
      rw [decide_eq_true hp, hkp, cond_true, cond_true, ih, List.length_append]
      exact (srtK_snoc (filK a k) (a.getD k d_DayRow)).symm
    · have hkp : keepR (a.getD k d_DayRow) = false := by unfold keepR; rw [decide_eq_true (by omega)]; rfl
      rw [decide_eq_false hp, hkp, cond_false, cond_false, ih]
theorem ref_ok (a : List DayRow) (ha : a.length ≤ 1000) : iter (fun s => spec_BestDays_loop1 a s.1 s.2) ((0 : Int), ([] : List DayRow)) = some (refK a a.length) :=
  iter_for a.length (fun k => ((k : Int), refK a k)) (fun k hk => by
    show spec_BestDays_loop1 a (k : Int) (refK a k) = _
    have hle := refK_le a k
    obtain ⟨r, e, hr⟩ := ref_pos a (refK a k) k hk (by omega) (refK a k).length (Nat.le_refl _)
    have hp := posR_le (a.getD k d_DayRow) (refK a k) (refK a k).length
    have hins : ∀ p : Nat, p = posR (a.getD k d_DayRow) (refK a k) (refK a k).length → (([] : List DayRow) ++ (((refK a k).drop ((0 : Int).toNat)).take (((p : Int) - (0 : Int)).toNat))) ++ [a.getD k d_DayRow] ++ (((refK a k).drop (p : Int).toNat).take ((((refK a k).length : Int) - (p : Int)).toNat)) = insR (a.getD k d_DayRow) (refK a k) := by
      rintro p rfl
      unfold insR
      rw [Int.toNat_natCast, show (0 : Int).toNat = 0 from rfl, List.drop_zero, List.nil_append, show ((posR (a.getD k d_DayRow) (refK a k) (refK a k).length : Nat) : Int) - 0 = ((posR (a.getD k d_DayRow) (refK a k) (refK a k).length : Nat) : Int) by omega, Int.toNat_natCast, List.append_assoc, List.take_of_length_le (l := (refK a k).drop _) (by rw [List.length_drop]; omega)]
      rfl
    unfold spec_BestDays_loop1
    rw [cond_dt (by omega), e, Option.bind_some, w64_nat (by omega)]
    simp only [row_eta, Int.toNat_natCast]
    have common : ∀ (q : Int), q = (posR (a.getD k d_DayRow) (refK a k) (refK a k).length : Int) →
        grd (0 ≤ (k : Int) ∧ (k : Int) < (a.length : Int)) (cond (decide ((0 : Int) < ((a.getD k d_DayRow).2.2.2.1))) (grd (0 ≤ (0 : Int) ∧ (0 : Int) ≤ q ∧ q ≤ ((refK a k).length : Int)) (grd (([] : List DayRow).length + (((refK a k).drop ((0 : Int).toNat)).take ((q - (0 : Int)).toNat)).length ≤ 140737488355328 / 56 ∧ ([] : List DayRow).length + (((refK a k).drop ((0 : Int).toNat)).take ((q - (0 : Int)).toNat)).length ≤ 140737488355328) (grd (0 ≤ (k : Int) ∧ (k : Int) < (a.length : Int)) (grd ((([] : List DayRow) ++ (((refK a k).drop ((0 : Int).toNat)).take ((q - (0 : Int)).toNat))).length + [a.getD k d_DayRow].length ≤ 140737488355328 / 56 ∧ (([] : List DayRow) ++ (((refK a k).drop ((0 : Int).toNat)).take ((q - (0 : Int)).toNat))).length + [a.getD k d_DayRow].length ≤ 140737488355328) (grd (0 ≤ q ∧ q ≤ ((refK a k).length : Int) ∧ ((refK a k).length : Int) ≤ ((refK a k).length : Int)) (grd (((([] : List DayRow) ++ (((refK a k).drop ((0 : Int).toNat)).take ((q - (0 : Int)).toNat))) ++ [a.getD k d_DayRow]).length + (((refK a k).drop q.toNat).take ((((refK a k).length : Int) - q).toNat)).length ≤ 140737488355328 / 56 ∧ ((([] : List DayRow) ++ (((refK a k).drop ((0 : Int).toNat)).take ((q - (0 : Int)).toNat))) ++ [a.getD k d_DayRow]).length + (((refK a k).drop q.toNat).take ((((refK a k).length : Int) - q).toNat)).length ≤ 140737488355328) (some (Lp.go (R := List DayRow) (((k + 1 : Nat) : Int), (((([] : List DayRow) ++ (((refK a k).drop ((0 : Int).toNat)).take ((q - (0 : Int)).toNat))) ++ [a.getD k d_DayRow]) ++ (((refK a k).drop q.toNat).take ((((refK a k).length : Int) - q).toNat)))))))))))) (some (.go (((k + 1 : Nat) : Int), refK a k)))) = some (.go (((k + 1 : Nat) : Int), refK a (k + 1))) := by
      rintro q rfl
      rw [grd_pos (by omega)]
      simp only [refK]
      by_cases hh : 0 < (a.getD k d_DayRow).2.2.2.1
      · rw [cond_dt hh, cond_dt hh, grd_pos (by omega), grd_pos (by simp only [List.length_nil, List.length_take, List.length_drop]; omega), grd_pos (by omega), grd_pos (by simp only [List.length_append, List.length_cons, List.length_nil, List.length_take, List.length_drop]; omega), grd_pos (by omega), grd_pos (by simp only [List.length_append, List.length_cons, List.length_nil, List.length_take, List.length_drop]; omega), hins _ rfl]
      · rw [cond_df hh, cond_df hh]
    cases r with
    | inl q => rw [Sum.elim_inl] at hr ⊢; exact common q.1 hr
    | inr q => rw [Sum.elim_inr] at hr ⊢; exact common q hr) (by
    show spec_BestDays_loop1 a (a.length : Int) _ = _
    unfold spec_BestDays_loop1
    rw [cond_df (by omega)]) rfl
def outK (o : List DayRow) : Nat → List Int
  | 0 => []
  | k + 1 => outK o k ++ [(o.getD k d_DayRow).1]
theorem outK_length (o : List DayRow) : ∀ k, (outK o k).length = k
  | 0 => rfl
  | k + 1 => by simp only [outK]; rw [List.length_append, outK_length o k]; rfl
theorem ref_out (o : List DayRow) (m : Nat) (ho : o.length ≤ 1000) : iter (fun s => spec_BestDays_loop3 (m : Int) s.1 s.2.1 s.2.2) ((0 : Int), ([] : List Int), o) = some (outK o (min o.length m)) :=
  iter_for (min o.length m) (fun k => ((k : Int), outK o k, o)) (fun k hk => by
    show spec_BestDays_loop3 (m : Int) (k : Int) (outK o k) o = _
    have := outK_length o k
    unfold spec_BestDays_loop3
    rw [cond_dt (by omega), cond_dt (by omega), grd_pos (by omega), grd_pos (by simp only [List.length_cons, List.length_nil]; omega), w64_nat (by omega), Int.toNat_natCast]
    rfl) (by
    show spec_BestDays_loop3 (m : Int) ((min o.length m : Nat) : Int) _ o = _
    unfold spec_BestDays_loop3
    by_cases h1 : ((min o.length m : Nat) : Int) < (o.length : Int)
    · rw [cond_dt h1, cond_df (by omega)]
    · rw [cond_df h1]) rfl
theorem impl_out (o l : List DayRow) (m c : Nat) (ho : o.length ≤ 1000) (hc : c = min o.length m) :
    iter (fun s => impl_BestDays_loop1 s.1 s.2.1 s.2.2.1 s.2.2.2.1 s.2.2.2.2.1 s.2.2.2.2.2) (c, (c : Int), (0 : Int), l, ([] : List Int), o) = some (l, outK o (min o.length m)) :=
  iter_for c (fun k => (c, (c : Int), (k : Int), l, outK o k, o)) (fun k hk => by
    show impl_BestDays_loop1 c (c : Int) (k : Int) l (outK o k) o = _
    have := outK_length o k
    unfold impl_BestDays_loop1
    rw [cond_dt (by omega), grd_pos (by omega), grd_pos (by simp only [List.length_cons, List.length_nil]; omega), w64_nat (by omega), show (0 : Int).toNat + (k : Int).toNat = k by omega]
    rfl) (by
    show impl_BestDays_loop1 c (c : Int) (c : Int) l _ o = _
    unfold impl_BestDays_loop1
    rw [cond_df (by omega), hc]) rfl
theorem clone_ok (l : List DayRow) (h : l.length ≤ 1048576) : slices_Clone___impl_DayRow_impl_DayRow_ l = some (l, l) := by
  unfold slices_Clone___impl_DayRow_impl_DayRow_
  rw [grd_pos (by simp only [List.length_nil]; omega)]
  rfl
theorem best_ok (l : List DayRow) (m : Int) (h : Small l) : (spec_BestDays l m = some ([], false) ∧ impl_BestDays l m = some (Sum.inl l)) ∨
    okL l = true ∧ ∃ k : Nat, m = (k : Int) ∧ k ≤ 14 ∧ spec_BestDays l m = some (outK (srtK (filK l l.length) (filK l l.length).length) (min (srtK (filK l l.length) (filK l l.length).length).length k), true) ∧ impl_BestDays l m = some (Sum.inr (outK (srtK (filK l l.length) (filK l l.length).length) (min (srtK (filK l l.length) (filK l l.length).length).length k), l)) := by
  unfold spec_BestDays impl_BestDays
  rw [rows_eq l h, are_eq l h, Option.bind_some, Option.bind_some, l1In_eq, within_eq]
  cases ho : okL l with
  | false => exact .inl ⟨rfl, rfl⟩
  | true =>
    obtain ⟨hn, hr⟩ := okL_out ho
    simp only [Bool.not_true, cond_false, Option.bind_some]
    by_cases hm : 0 ≤ m ∧ m ≤ 14
    case neg => rw [cond_ndf hm, cond_ndf hm]; exact .inl ⟨rfl, rfl⟩
    rw [cond_ndt hm, cond_ndt hm]
    obtain ⟨k, rfl⟩ := Int.eq_ofNat_of_zero_le hm.1
    have hpos : ∀ i, i < l.length → 0 ≤ (l.getD i d_DayRow).2.2.2.1 := fun i hi => (nums_out (hr i hi)).2.1.2.1
    have hfl := filK_length l l.length
    have hsl := srtK_length (filK l l.length) (filK l l.length).length
    have href := refK_eq l l.length hpos l.length (Nat.le_refl _)
    have hc : (((if ((srtK (filK l l.length) (filK l l.length).length).length : Int) < (k : Int) then ((srtK (filK l l.length) (filK l l.length).length).length : Int) else (k : Int)) - (0 : Int)).toNat) = min (srtK (filK l l.length) (filK l l.length).length).length k := by
      split <;> omega
    have hc2 : (0 : Int) ≤ 0 ∧ (0 : Int) ≤ (if ((srtK (filK l l.length) (filK l l.length).length).length : Int) < (k : Int) then ((srtK (filK l l.length) (filK l l.length).length).length : Int) else (k : Int)) ∧ (if ((srtK (filK l l.length) (filK l l.length).length).length : Int) < (k : Int) then ((srtK (filK l l.length) (filK l l.length).length).length : Int) else (k : Int)) ≤ ((srtK (filK l l.length) (filK l l.length).length).length : Int) := by
      split <;> omega
    have hdel : ∃ r, slices_DeleteFunc___impl_DayRow_impl_DayRow__i1 l = some r ∧ Sum.elim (fun q : (List DayRow) × (List DayRow) => q.2) (fun q => q) r = filK l l.length := by
      obtain ⟨r, e, h1⟩ := delete_ok l (by omega)
      refine ⟨r, e, ?_⟩
      rcases h1 with ⟨rfl, h1⟩ | rfl
      · exact h1.symm
      · rfl
    obtain ⟨r, e1, e2⟩ := hdel
    refine .inr ⟨trivial, k, rfl, by omega, ?_, ?_⟩
    · rw [ref_ok l (by omega), Option.bind_some, href, ref_out _ k (by omega)]; rfl
    · rw [clone_ok l (by omega), Option.bind_some, e1, Option.bind_some]
      have hs := sort_ok (filK l l.length) (by omega)
      have ho := impl_out (srtK (filK l l.length) (filK l l.length).length) l k _ (by omega) rfl
      cases r with
      | inl q =>
        rw [Sum.elim_inl] at e2
        simp only [Sum.elim_inl, Option.bind_some, e2, hs, if_true]
        rw [grd_pos hc2, hc, ho]; rfl
      | inr q =>
        rw [Sum.elim_inr] at e2
        simp only [Sum.elim_inr, Option.bind_some, e2, hs, if_true]
        rw [grd_pos hc2, hc, ho]; rfl
end Go.Proofs.Ytppiaacfnoifkaa
