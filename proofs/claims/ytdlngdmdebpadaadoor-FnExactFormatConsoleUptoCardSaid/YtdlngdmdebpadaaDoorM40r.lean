/-
  Plain laws, carried over from texts of other seats.
-/
import Derived.Test.YtdlngdmdebpadaaDoorM40t
namespace Go.Proofs.YtdlngdmdebpadaaDoor
open Go.RowKit

theorem toSlotS_eq (l : List Slot) (h : l.length ≤ 1048576) : laws_toSlotS l = some l := by
  unfold laws_toSlotS
  rw [grd_pos (by omega)]
  have H : iter (fun s => laws_toSlotS_loop1 l s.1 s.2) ((0 : Int), (List.replicate (l.length : Int).toNat ((0 : Int), false, (0 : Int), ()))) = some l :=
    iter_copy l ((0 : Int), false, (0 : Int), ()) d_Slot (fun k m hk hm => by
      show laws_toSlotS_loop1 l (k : Int) m = _
      unfold laws_toSlotS_loop1 laws_toSlot
      rw [cond_dt (by omega), grd_pos (by omega), Option.bind_some, grd_pos (by omega), w64_nat (by omega)]
      rfl) (by
      show laws_toSlotS_loop1 l (l.length : Int) l = _
      unfold laws_toSlotS_loop1
      rw [cond_df (by omega)]) rfl
  rw [H]; rfl
theorem toRopeway_eq (a : Ropeway) (h : a.2.1.length ≤ 1048576) : laws_toRopeway a = some a := by
  unfold laws_toRopeway
  rw [toSlotS_eq _ h]; rfl
theorem eqSlot_eq (a : Slot) : laws_eqSlot a a = some true := by
  unfold laws_eqSlot
  rw [cond_ndt rfl, cond_ndt rfl]
  simp
theorem eqSlotS_eq (l : List Slot) (h : l.length ≤ 1048576) : laws_eqSlotS l l = some true := by
  unfold laws_eqSlotS
  rw [cond_ndt rfl]
  have H : iter (fun s => laws_eqSlotS_loop1 l l s) (0 : Int) = some (Sum.inr ()) :=
    iter_for l.length (fun k => (k : Int)) (fun k hk => by
      show laws_eqSlotS_loop1 l l (k : Int) = _
      unfold laws_eqSlotS_loop1
      rw [cond_dt (by omega), grd_pos (by omega), grd_pos (by omega), eqSlot_eq, w64_nat (by omega)]
      rfl) (by
      show laws_eqSlotS_loop1 l l (l.length : Int) = _
      unfold laws_eqSlotS_loop1
      rw [cond_df (by omega)]) rfl
  rw [H]; rfl
theorem eqRopeway_eq (a : Ropeway) (h : a.2.1.length ≤ 1048576) : laws_eqRopeway a a = some true := by
  unfold laws_eqRopeway
  rw [cond_ndt rfl, eqSlotS_eq _ h]
  simp
theorem szRopeway_eq (a : Ropeway) (n : Int) : ∃ y, laws_szRopeway a n = some y := by
  unfold laws_szRopeway laws_szSlotS
  by_cases h1 : w64 (n - (a.2.1.length : Int)) < 0
  · rw [cond_dt h1]
    exact ⟨_, rfl⟩
  · rw [cond_df h1]
    by_cases h2 : w64 (n - (a.2.1.length : Int)) < 0
    · exact absurd h2 h1
    · exact ⟨_, by rw [Option.bind_some, cond_df h2]⟩

abbrev cab (l : List Slot) (k : Nat) : Int := (l.getD k d_Slot).1
abbrev opn (l : List Slot) (k : Nat) : Bool := (l.getD k d_Slot).2.1
abbrev ppl (l : List Slot) (k : Nat) : Int := (l.getD k d_Slot).2.2.1
abbrev nxt (l : List Slot) (k : Nat) : Int := cab l (Int.tmod (w64 ((k : Int) + 1)) (l.length : Int)).toNat
def fresh (l : List Slot) (k : Nat) : Bool := (List.range k).all fun j => !decide (cab l j = cab l k)
def stat (l : List Slot) (k : Nat) : Bool := decide ((k : Int) = 0) || decide ((k : Int) = w64 (Int.tdiv (l.length : Int) 2))
def sOk (l : List Slot) (k : Nat) : Bool :=
  decide (0 ≤ cab l k ∧ cab l k ≤ 20) && (decide (0 ≤ ppl l k ∧ ppl l k ≤ 8) && if cab l k = 0 then !opn l k && decide (ppl l k = 0) else fresh l k && (decide (nxt l k = 0) && (!opn l k || stat l k)))
theorem tmod_in (l : List Slot) (k : Nat) (hk : k < l.length) (h : l.length ≤ 1048576) : 0 ≤ Int.tmod (w64 ((k : Int) + 1)) (l.length : Int) ∧ Int.tmod (w64 ((k : Int) + 1)) (l.length : Int) < (l.length : Int) := by
  rw [w64_nat (by omega)]
  exact ⟨Int.tmod_nonneg _ (by omega), Int.tmod_lt_of_pos _ (by omega)⟩
theorem l25Slot_eq (a : Ropeway) (k : Nat) (hk : k < a.2.1.length) (h : a.2.1.length ≤ 1048576) : spec_l25Slot a (k : Int) = some (sOk a.2.1 k) := by
  obtain ⟨x, l, u⟩ := a
  have hk : k < l.length := hk
  have h : l.length ≤ 1048576 := h
  have H : iter (fun s => spec_l25Slot_loop1 (x, l, u) (k : Int) s) (0 : Int) = some (if fresh l k then Sum.inr () else Sum.inl ()) :=
    iter_allN k (fun j => !decide (cab l j = cab l k)) (fun j => (j : Int)) (fun j hj => by
      show spec_l25Slot_loop1 (x, l, u) (k : Int) (j : Int) = _
      unfold spec_l25Slot_loop1
      rw [cond_dt (by omega), grd_pos (by constructor <;> simp <;> omega), w64_nat (by omega)]
      simp only [Int.toNat_natCast]
      by_cases hc : cab l j = cab l k
      · rw [cond_dt hc]; simp [hc]
      · rw [cond_df hc]; simp [hc]) (by
      show spec_l25Slot_loop1 (x, l, u) (k : Int) (k : Int) = _
      unfold spec_l25Slot_loop1
      rw [cond_df (by omega)]) rfl
  have ht := tmod_in l k hk h
  unfold spec_l25Slot
  rw [grd_pos (show 0 ≤ (k : Int) ∧ (k : Int) < ((x, l, u) : Ropeway).2.1.length from ⟨by omega, by simp; omega⟩)]
  simp only [l1In_eq, Option.bind_some, H, Int.toNat_natCast, sOk]
  by_cases h1 : 0 ≤ cab l k ∧ cab l k ≤ 20
  · rw [cond_ndt h1]
    by_cases h2 : 0 ≤ ppl l k ∧ ppl l k ≤ 8
    · rw [cond_ndt h2]
      by_cases h3 : cab l k = 0
      · rw [cond_dt h3]
        show cond (!opn l k) (some (decide (ppl l k = 0))) (some false) = _
        cases h4 : opn l k <;> simp [h2, h3]
      · rw [cond_df h3]
        cases h4 : fresh l k
        · simp [h3]
        · simp only [if_true, Sum.elim_inr]
          rw [grd_pos (by omega), grd_pos ht]
          by_cases h5 : nxt l k = 0
          · rw [cond_ndt h5]
            show cond (!opn l k) _ _ = _
            cases h6 : opn l k
            · simp [h1, h2, h3, h5]
            · simp only [Bool.not_true, cond_false]
              by_cases h7 : (k : Int) = 0
              · rw [cond_dt h7]; simp [h1, h2, h3, h5, stat, h7]
              · rw [cond_df h7]
                rw [grd_pos (by omega)]
                have h7' : ¬ k = 0 := by omega
                simp [h1, h2, h3, h5, stat, h7']
          · rw [cond_ndf h5]; simp [h3, h5]
    · rw [cond_ndf h2]; simp [h2]
  · rw [cond_ndf h1]; simp [h1]

theorem indexFunc_eq (l : List Slot) (c : Int) (o : Bool) (p : Int) (h : l.length ≤ 1048576) : ∃ r, slices_IndexFunc___impl_Slot_impl_Slot__i1 l c o p = some r ∧ (decide ((0 : Int) ≤ r) = (List.range l.length).any fun j => decide (cab l j = c)) := by
  unfold slices_IndexFunc___impl_Slot_impl_Slot__i1
  obtain ⟨r, e, hr⟩ := iter_ex (f := fun s => slices_IndexFunc___impl_Slot_impl_Slot__i1_loop1 l c o p s) (miss := Sum.inr ()) l.length (fun j => decide (cab l j = c)) (fun j => Sum.inl (j : Int)) (fun j => (j : Int)) (fun k hk => by
    show slices_IndexFunc___impl_Slot_impl_Slot__i1_loop1 l c o p (k : Int) = _
    unfold slices_IndexFunc___impl_Slot_impl_Slot__i1_loop1 impl_IsRopeway_1_i1
    rw [cond_dt (by omega), grd_pos (by omega), w64_nat (by omega), Option.bind_some]
    show cond (decide (cab l k = c)) _ _ = _
    cases decide (cab l k = c) <;> rfl) (by
    show slices_IndexFunc___impl_Slot_impl_Slot__i1_loop1 l c o p (l.length : Int) = _
    unfold slices_IndexFunc___impl_Slot_impl_Slot__i1_loop1
    rw [cond_df (by omega)]) (s := (0 : Int)) rfl
  rw [e]
  rcases hr with ⟨k, hk, hp, _, rfl⟩ | ⟨hn, rfl⟩
  · refine ⟨(k : Int), rfl, ?_⟩
    rw [decide_eq_true (by omega)]
    symm
    rw [List.any_eq_true]
    exact ⟨k, by simpa using hk, hp⟩
  · refine ⟨-1, rfl, ?_⟩
    rw [decide_eq_false (by omega)]
    symm
    rw [List.any_eq_false]
    intro j hj
    rw [hn j (by simpa using hj)]
    simp
theorem lsub_get (l : List Slot) (k j : Nat) (hj : j < k) : cab (lsub l (0 : Int) (k : Int)) j = cab l j := by
  simp [cab, lsub, hj]
theorem contains_eq (l : List Slot) (k : Nat) (hk : k < l.length) (h : l.length ≤ 1048576) (o : Bool) (p : Int) :
    slices_ContainsFunc___impl_Slot_impl_Slot__i1 (lsub l (0 : Int) (k : Int)) (cab l k) o p = some (!fresh l k) := by
  have hl : (lsub l (0 : Int) (k : Int)).length = k := by simp [lsub]; omega
  obtain ⟨r, e, hr⟩ := indexFunc_eq (lsub l (0 : Int) (k : Int)) (cab l k) o p (by rw [hl]; omega)
  unfold slices_ContainsFunc___impl_Slot_impl_Slot__i1
  rw [e, Option.bind_some, hr, hl]
  refine congrArg some ?_
  unfold fresh
  rw [List.not_all_eq_any_not]
  rw [Bool.eq_iff_iff, List.any_eq_true, List.any_eq_true]
  constructor
  · rintro ⟨j, hj, hp⟩
    exact ⟨j, hj, by rw [lsub_get l k j (by simpa using hj)] at hp; simpa using hp⟩
  · rintro ⟨j, hj, hp⟩
    exact ⟨j, hj, by rw [lsub_get l k j (by simpa using hj)]; simpa using hp⟩
def iOk (l : List Slot) (k : Nat) : Bool :=
  decide (0 ≤ cab l k ∧ cab l k ≤ 20) && (decide (0 ≤ ppl l k ∧ ppl l k ≤ 8) && if cab l k = 0 then !opn l k && !decide (0 < ppl l k) else fresh l k && (!decide (0 < nxt l k) && (!opn l k || stat l k)))
theorem isStation_eq (a : Ropeway) (k : Nat) : impl_Ropeway_isStation a (k : Int) = some (stat a.2.1 k) := by
  unfold impl_Ropeway_isStation stat
  by_cases h : (k : Int) = 0
  · rw [cond_dt h]; simp [h]
  · rw [cond_df h, grd_pos (by omega), decide_eq_false h]; simp
theorem isRopeway_step (a : Ropeway) (k : Nat) (hk : k < a.2.1.length) (h : a.2.1.length ≤ 1048576) : impl_IsRopeway_loop1 a (k : Int) = some (if iOk a.2.1 k then .go ((k + 1 : Nat) : Int) else .out (Sum.inl ())) := by
  obtain ⟨x, l, u⟩ := a
  have hk : k < l.length := hk
  have h : l.length ≤ 1048576 := h
  have ht := tmod_in l k hk h
  have hf : ∀ o p, slices_ContainsFunc___impl_Slot_impl_Slot__i1 (lsub l (0 : Int) (k : Int)) ((l.getD (k : Int).toNat d_Slot).1) o p = some (!fresh l k) := fun o p => contains_eq l k hk h o p
  unfold impl_IsRopeway_loop1
  rw [cond_dt (show (k : Int) < (((x, l, u) : Ropeway).2.1.length : Int) from by simp; omega), grd_pos (show 0 ≤ (k : Int) ∧ (k : Int) < ((x, l, u) : Ropeway).2.1.length from ⟨by omega, by simp; omega⟩)]
  simp only [within_eq, Option.bind_some, isStation_eq, hf]
  have hw : w64 ((k : Int) + 1) = ((k + 1 : Nat) : Int) := w64_nat (by omega)
  show cond (!decide (0 ≤ cab l k ∧ cab l k ≤ 20)) _ (cond (!decide (0 ≤ ppl l k ∧ ppl l k ≤ 8)) _ (cond (decide (cab l k = 0)) (cond (opn l k) _ (cond (decide (0 < ppl l k)) _ _)) (cond (opn l k) (cond (!stat l k) _ _) _))) = some (if iOk l k then _ else _)
  by_cases h1 : 0 ≤ cab l k ∧ cab l k ≤ 20
  case neg => rw [cond_ndf h1, show iOk l k = false by simp [iOk, h1]]; rfl
  by_cases h2 : 0 ≤ ppl l k ∧ ppl l k ≤ 8
  case neg => rw [cond_ndt h1, cond_ndf h2, show iOk l k = false by simp [iOk, h2]]; rfl
  rw [cond_ndt h1, cond_ndt h2]
  by_cases h3 : cab l k = 0
  · rw [cond_dt h3]
    cases h4 : opn l k
    case true => rw [show iOk l k = false by simp [iOk, h3, h4]]; rfl
    by_cases h5 : 0 < ppl l k
    · rw [show iOk l k = false by simp [iOk, h3, h5]]
      show cond (decide (0 < ppl l k)) _ _ = _
      rw [cond_dt h5]; rfl
    · rw [show iOk l k = true by simp [iOk, h2, h3, h4]; omega]
      show cond (decide (0 < ppl l k)) _ _ = _
      rw [cond_df h5, hw]; rfl
  · rw [cond_df h3]
    have tail : ∀ (b : Bool), b = opn l k → (opn l k = true → stat l k = true) → (grd ((l.length : Int) ≠ 0) (grd (0 ≤ (Int.tmod (w64 ((k : Int) + 1)) (l.length : Int)) ∧ (Int.tmod (w64 ((k : Int) + 1)) (l.length : Int)) < (l.length : Int)) (cond (decide ((0 : Int) < nxt l k)) ((some (Lp.out (Sum.inl ()) : Lp Int (Unit ⊕ Unit)))) (grd (0 ≤ (0 : Int) ∧ (0 : Int) ≤ (k : Int) ∧ (k : Int) ≤ (l.length : Int)) (cond (!fresh l k) ((some (Lp.out (Sum.inl ())))) (some (Lp.go (w64 ((k : Int) + 1))))))))) = some (if iOk l k then Lp.go ((k + 1 : Nat) : Int) else Lp.out (Sum.inl ())) := fun b _ hs => by
      rw [grd_pos (by omega), grd_pos ht]
      by_cases h5 : 0 < nxt l k
      · rw [cond_dt h5, show iOk l k = false by simp [iOk, h3, h5]]; rfl
      · rw [cond_df h5, grd_pos (by omega), hw]
        cases h6 : fresh l k
        · rw [show iOk l k = false by simp [iOk, h3, h6]]; rfl
        · have hso : (!opn l k || stat l k) = true := by
            cases ho : opn l k
            · rfl
            · simp [hs ho]
          rw [show iOk l k = true by simp only [iOk, h3, h6, hso]; simp [h1, h2]; omega]; rfl
    cases h4 : opn l k
    case false => exact tail _ rfl (fun h => by rw [h4] at h; cases h)
    cases h5 : stat l k
    case false => rw [show iOk l k = false by simp [iOk, h3, h4, h5]]; rfl
    exact tail _ rfl (fun _ => h5)

theorem all_same (l : List Slot) (h : l.length ≤ 1048576) : (List.range l.length).all (sOk l) = (List.range l.length).all (iOk l) := by
  rw [Bool.eq_iff_iff, List.all_eq_true, List.all_eq_true]
  constructor
  · intro H k hk
    have := H k hk
    simp only [sOk, iOk, Bool.and_eq_true, decide_eq_true_eq] at this ⊢
    obtain ⟨h1, h2, h3⟩ := this
    refine ⟨h1, h2, ?_⟩
    split
    · rename_i hc
      rw [if_pos hc] at h3
      simp only [Bool.and_eq_true, decide_eq_true_eq, Bool.not_eq_true', decide_eq_false_iff_not] at h3 ⊢
      exact ⟨h3.1, by omega⟩
    · rename_i hc
      rw [if_neg hc] at h3
      simp only [Bool.and_eq_true, decide_eq_true_eq, Bool.not_eq_true', decide_eq_false_iff_not] at h3 ⊢
      exact ⟨h3.1, by omega, h3.2.2⟩
  · intro H k hk
    have hkl : k < l.length := by simpa using hk
    have hn : 0 ≤ nxt l k := by
      have ht := tmod_in l k hkl h
      have := H (Int.tmod (w64 ((k : Int) + 1)) (l.length : Int)).toNat (by simp; omega)
      simp only [iOk, Bool.and_eq_true, decide_eq_true_eq] at this
      exact this.1.1
    have := H k hk
    simp only [sOk, iOk, Bool.and_eq_true, decide_eq_true_eq] at this ⊢
    obtain ⟨h1, h2, h3⟩ := this
    refine ⟨h1, h2, ?_⟩
    split
    · rename_i hc
      rw [if_pos hc] at h3
      simp only [Bool.and_eq_true, decide_eq_true_eq, Bool.not_eq_true', decide_eq_false_iff_not] at h3 ⊢
      exact ⟨h3.1, by omega⟩
    · rename_i hc
      rw [if_neg hc] at h3
      simp only [Bool.and_eq_true, decide_eq_true_eq, Bool.not_eq_true', decide_eq_false_iff_not] at h3 ⊢
      exact ⟨h3.1, by omega, h3.2.2⟩
theorem rw_good_eq (a : Ropeway) (h : a.2.1.length ≤ 1048576) : ∃ b, spec_l25Good a = some b ∧ impl_IsRopeway a = some b := by
  have H1 : iter (fun s => spec_l25Good_loop1 a s) (0 : Int) = some (if (List.range a.2.1.length).all (sOk a.2.1) then Sum.inr () else Sum.inl ()) :=
    iter_allN a.2.1.length (sOk a.2.1) (fun k => (k : Int)) (fun k hk => by
      show spec_l25Good_loop1 a (k : Int) = _
      unfold spec_l25Good_loop1
      rw [cond_dt (by omega), l25Slot_eq _ k hk h, w64_nat (by omega)]
      show cond (!sOk a.2.1 k) _ _ = _
      cases sOk a.2.1 k <;> rfl) (by
      show spec_l25Good_loop1 a (a.2.1.length : Int) = _
      unfold spec_l25Good_loop1
      rw [cond_df (by omega)]) rfl
  have H2 : iter (fun s => impl_IsRopeway_loop1 a s) (0 : Int) = some (if (List.range a.2.1.length).all (iOk a.2.1) then Sum.inr () else Sum.inl ()) :=
    iter_allN a.2.1.length (iOk a.2.1) (fun k => (k : Int)) (fun k hk => isRopeway_step a k hk h) (by
      show impl_IsRopeway_loop1 a (a.2.1.length : Int) = _
      unfold impl_IsRopeway_loop1
      rw [cond_df (by omega)]) rfl
  have hs : spec_l25Good a = impl_IsRopeway a := by
    unfold spec_l25Good impl_IsRopeway
    simp only [l1In_eq, within_eq, Option.bind_some, H1, H2, all_same _ h]
  refine ⟨(impl_IsRopeway a).getD false, ?_⟩
  rw [hs]
  suffices hh : ∃ b, impl_IsRopeway a = some b by
    obtain ⟨b, hb⟩ := hh
    rw [hb]; exact ⟨rfl, rfl⟩
  unfold impl_IsRopeway
  simp only [within_eq, Option.bind_some, H2]
  rw [grd_pos (by omega)]
  simp only [Bool.cond_eq_ite]
  repeat' split
  all_goals exact ⟨_, rfl⟩

abbrev advS (k : Int) : Int := w64 (w64 (w64 (k + 1) + 1) + 1)
abbrev mkS (k : Int) : Slot := (k, decide (Int.tmod (w64 (k + 1)) 3 = 0), w64 (w64 (k + 1) + 1), ())
theorem getD_set_self {α : Type} (l : List α) (i : Nat) (a d : α) (h : i < l.length) : (l.set i a).getD i d = a := by
  simp [List.getD_eq_getElem?_getD, h]
theorem advS_eq (n : Nat) (h : n ≤ 1048576) : advN advS n 1 = 1 + 3 * (n : Int) := by
  rw [advN_add advS 3 4611686018427387904 (fun k h1 h2 => by
    show w64 (w64 (w64 (k + 1) + 1) + 1) = _
    rw [w64_id (x := k + 1) (by omega) (by omega), w64_id (x := k + 1 + 1) (by omega) (by omega), w64_id (by omega) (by omega)]; omega) n 1 (by omega) (by omega)]
  rfl
def gd (a : Ropeway) : Bool := decide (0 ≤ a.1 ∧ a.1 ≤ 3) && (decide (4 ≤ (a.2.1.length : Int) ∧ (a.2.1.length : Int) ≤ 10) && (decide (Int.tmod (a.2.1.length : Int) 2 = 0) && (decide (0 ≤ a.2.2.1 ∧ a.2.2.1 ≤ 500) && (decide (0 ≤ a.2.2.2.1 ∧ a.2.2.2.1 ≤ 500) && (decide (0 ≤ a.2.2.2.2.1 ∧ a.2.2.2.2.1 ≤ 500) && (List.range a.2.1.length).all (iOk a.2.1))))))
theorem isRopeway_eq (a : Ropeway) (h : a.2.1.length ≤ 1048576) : impl_IsRopeway a = some (gd a) := by
  have H2 : iter (fun s => impl_IsRopeway_loop1 a s) (0 : Int) = some (if (List.range a.2.1.length).all (iOk a.2.1) then Sum.inr () else Sum.inl ()) :=
    iter_allN a.2.1.length (iOk a.2.1) (fun k => (k : Int)) (fun k hk => isRopeway_step a k hk h) (by
      show impl_IsRopeway_loop1 a (a.2.1.length : Int) = _
      unfold impl_IsRopeway_loop1
      rw [cond_df (by omega)]) rfl
  unfold impl_IsRopeway gd
  simp only [within_eq, Option.bind_some, H2]
  rw [grd_pos (by omega)]
  cases decide (0 ≤ a.1 ∧ a.1 ≤ 3) <;> cases decide (4 ≤ (a.2.1.length : Int) ∧ (a.2.1.length : Int) ≤ 10) <;> cases decide (Int.tmod (a.2.1.length : Int) 2 = 0) <;> cases decide (0 ≤ a.2.2.1 ∧ a.2.2.1 ≤ 500) <;> cases decide (0 ≤ a.2.2.2.1 ∧ a.2.2.2.1 ≤ 500) <;> cases decide (0 ≤ a.2.2.2.2.1 ∧ a.2.2.2.2.1 ≤ 500) <;> first | rfl | skip
  cases (List.range a.2.1.length).all (iOk a.2.1) <;> rfl
theorem goodS_eq (a : Ropeway) (h : a.2.1.length ≤ 1048576) : spec_l25Good a = some (gd a) := by
  obtain ⟨b, e1, e2⟩ := rw_good_eq a h
  rw [isRopeway_eq a h] at e2
  rw [e1, ← e2]
theorem gd_out {m w t d : Int} {l : List Slot} {u : Unit} (h : gd (m, l, w, t, d, u) = true) : (0 ≤ m ∧ m ≤ 3) ∧ (4 ≤ l.length ∧ l.length ≤ 10) ∧ (0 ≤ w ∧ w ≤ 500) ∧ (0 ≤ t ∧ t ≤ 500) ∧ (0 ≤ d ∧ d ≤ 500) ∧ ∀ k, k < l.length → iOk l k = true := by
  simp only [gd, Bool.and_eq_true, decide_eq_true_eq, List.all_eq_true, List.mem_range] at h
  obtain ⟨h1, h2, _, h4, h5, h6, h7⟩ := h
  exact ⟨h1, by omega, h4, h5, h6, h7⟩
theorem iOk_ppl {l : List Slot} {k : Nat} (h : iOk l k = true) : 0 ≤ ppl l k ∧ ppl l k ≤ 8 := by
  simp only [iOk, Bool.and_eq_true, decide_eq_true_eq] at h
  exact h.2.1
theorem iOk_cab {l : List Slot} {k : Nat} (h : iOk l k = true) : 0 ≤ cab l k ∧ cab l k ≤ 20 := by
  simp only [iOk, Bool.and_eq_true, decide_eq_true_eq] at h
  exact h.1
theorem iOk_opn {l : List Slot} {k : Nat} (h : iOk l k = true) (ho : opn l k = true) : 0 < cab l k := by
  have hc := iOk_cab h
  rcases Int.lt_or_le 0 (cab l k) with h' | h'
  · exact h'
  · have h0 : cab l k = 0 := by omega
    simp only [iOk, h0, if_true, ho] at h
    simp at h

/-- Where a station lies. -/
def stn (l : List Slot) (v : Int) : Int := w64 (Int.tdiv (w64 (v * (l.length : Int))) 2)
theorem stn_in {l : List Slot} {v : Int} (hl : 4 ≤ l.length ∧ l.length ≤ 10) (hv : 0 ≤ v ∧ v ≤ 1) : 0 ≤ stn l v ∧ stn l v < l.length := by
  have : v = 0 ∨ v = 1 := by omega
  unfold stn
  rcases this with rfl | rfl
  · rw [Int.zero_mul, show w64 0 = 0 from rfl, show Int.tdiv 0 2 = 0 from rfl, show w64 0 = 0 from rfl]; omega
  · rw [Int.one_mul, w64_id (x := (l.length : Int)) (by omega) (by omega), Int.tdiv_eq_ediv_of_nonneg (by omega), w64_id (by omega) (by omega)]; omega
def anyOpen (l : List Slot) : Bool := (List.range l.length).any fun k => opn l k
def rot (l : List Slot) : List Slot := l.drop (l.length - 1) ++ l.take (l.length - 1)
/-- The slot at i put anew. -/
def setS (l : List Slot) (i : Nat) (o : Bool) (p : Int) : List Slot := l.set i (cab l i, o, p, ())
end Go.Proofs.YtdlngdmdebpadaaDoor
