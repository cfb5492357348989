/-
  Plain laws of the ropeway: copies and comparisons of arguments.
-/
import Derived.Test.YtdlgljedjdnepaaC3
import Derived.Test.YtdlgljedjdnepaaL1
import Derived.Test.YtdlgljedjdnepaaO1
namespace Go.Proofs.Ytdlgljedjdnepaa
open Go.RowKit

theorem toSlotS_eq (l : List Slot) (h : l.length ≤ 1048576) : laws_toSlotS l = some l := by
  unfold laws_toSlotS
  rw [grd_pos (by omega)]
  have H : iter (fun s => laws_toSlotS_loop1 l s.1 s.2) ((0 : Int), (List.replicate (l.length : Int).toNat ((0 : Int), false, (0 : Int), ()))) = some l :=
    iter_copy l ((0 : Int), false, (0 : Int), ()) d_Slot (fun k m hk hm => by
      show laws_toSlotS_loop1 l (k : Int) m = _
      unfold laws_toSlotS_loop1 laws_toSlot
      rw [cond_dt (by omega), grd_pos (by omega), Option.bind_some, grd_pos (by omega), w64_nat (by omega)]
      rfl) (by
      show laws_toSlotS_loop1 l (l.length : Int) l = _
      unfold laws_toSlotS_loop1
      rw [cond_df (by omega)]) rfl
  rw [H]; rfl
theorem toRopeway_eq (a : Ropeway) (h : a.2.1.length ≤ 1048576) : laws_toRopeway a = some a := by
  unfold laws_toRopeway
  rw [toSlotS_eq _ h]; rfl
theorem eqSlot_eq (a : Slot) : laws_eqSlot a a = some true := by
  unfold laws_eqSlot
  rw [cond_ndt rfl, cond_ndt rfl]
  simp
theorem eqSlotS_eq (l : List Slot) (h : l.length ≤ 1048576) : laws_eqSlotS l l = some true := by
  unfold laws_eqSlotS
  rw [cond_ndt rfl]
  have H : iter (fun s => laws_eqSlotS_loop1 l l s) (0 : Int) = some (Sum.inr ()) :=
    iter_for l.length (fun k => (k : Int)) (fun k hk => by
      show laws_eqSlotS_loop1 l l (k : Int) = _
      unfold laws_eqSlotS_loop1
      rw [cond_dt (by omega), grd_pos (by omega), grd_pos (by omega), eqSlot_eq, w64_nat (by omega)]
      rfl) (by
      show laws_eqSlotS_loop1 l l (l.length : Int) = _
      unfold laws_eqSlotS_loop1
      rw [cond_df (by omega)]) rfl
  rw [H]; rfl
theorem eqRopeway_eq (a : Ropeway) (h : a.2.1.length ≤ 1048576) : laws_eqRopeway a a = some true := by
  unfold laws_eqRopeway
  rw [cond_ndt rfl, eqSlotS_eq _ h]
  simp
theorem szRopeway_eq (a : Ropeway) (n : Int) : ∃ y, laws_szRopeway a n = some y := by
  unfold laws_szRopeway laws_szSlotS
  by_cases h1 : w64 (n - (a.2.1.length : Int)) < 0
  · rw [cond_dt h1]
    exact ⟨_, rfl⟩
  · rw [cond_df h1]
    by_cases h2 : w64 (n - (a.2.1.length : Int)) < 0
    · exact absurd h2 h1
    · exact ⟨_, by rw [Option.bind_some, cond_df h2]⟩

theorem l1In_eq (a lo hi : Int) : spec_l1In a lo hi = some (decide (lo ≤ a ∧ a ≤ hi)) := by
  unfold spec_l1In
  by_cases h : lo ≤ a
  · rw [cond_dt h]; simp [h]
  · rw [cond_df h]; simp [h]
theorem within_eq (a lo hi : Int) : impl_within a lo hi = some (decide (lo ≤ a ∧ a ≤ hi)) := by
  unfold impl_within
  by_cases h : lo ≤ a
  · rw [cond_dt h]; simp [h]
  · rw [cond_df h]; simp [h]
abbrev cab (l : List Slot) (k : Nat) : Int := (l.getD k d_Slot).1
abbrev opn (l : List Slot) (k : Nat) : Bool := (l.getD k d_Slot).2.1
abbrev ppl (l : List Slot) (k : Nat) : Int := (l.getD k d_Slot).2.2.1
abbrev nxt (l : List Slot) (k : Nat) : Int := cab l (Int.tmod (w64 ((k : Int) + 1)) (l.length : Int)).toNat
def fresh (l : List Slot) (k : Nat) : Bool := (List.range k).all fun j => !decide (cab l j = cab l k)
def stat (l : List Slot) (k : Nat) : Bool := decide ((k : Int) = 0) || decide ((k : Int) = w64 (Int.tdiv (l.length : Int) 2))
def sOk (l : List Slot) (k : Nat) : Bool :=
  decide (0 ≤ cab l k ∧ cab l k ≤ 20) && (decide (0 ≤ ppl l k ∧ ppl l k ≤ 8) && if cab l k = 0 then !opn l k && decide (ppl l k = 0) else fresh l k && (decide (nxt l k = 0) && (!opn l k || stat l k)))
theorem tmod_in (l : List Slot) (k : Nat) (hk : k < l.length) (h : l.length ≤ 1048576) : 0 ≤ Int.tmod (w64 ((k : Int) + 1)) (l.length : Int) ∧ Int.tmod (w64 ((k : Int) + 1)) (l.length : Int) < (l.length : Int) := by
  rw [w64_nat (by omega)]
  exact ⟨Int.tmod_nonneg _ (by omega), Int.tmod_lt_of_pos _ (by omega)⟩
theorem l25Slot_eq (a : Ropeway) (k : Nat) (hk : k < a.2.1.length) (h : a.2.1.length ≤ 1048576) : spec_l25Slot a (k : Int) = some (sOk a.2.1 k) := by
  obtain ⟨x, l, u⟩ := a
  have hk : k < l.length := hk
  have h : l.length ≤ 1048576 := h
  have H : iter (fun s => spec_l25Slot_loop1 (x, l, u) (k : Int) s) (0 : Int) = some (if fresh l k then Sum.inr () else Sum.inl ()) :=
    iter_allN k (fun j => !decide (cab l j = cab l k)) (fun j => (j : Int)) (fun j hj => by
      show spec_l25Slot_loop1 (x, l, u) (k : Int) (j : Int) = _
      unfold spec_l25Slot_loop1
      rw [cond_dt (by omega), grd_pos (by constructor <;> simp <;> omega), w64_nat (by omega)]
      simp only [Int.toNat_natCast]
      by_cases hc : cab l j = cab l k
      · rw [cond_dt hc]; simp [hc]
      · rw [cond_df hc]; simp [hc]) (by
      show spec_l25Slot_loop1 (x, l, u) (k : Int) (k : Int) = _
      unfold spec_l25Slot_loop1
      rw [cond_df (by omega)]) rfl
  have ht := tmod_in l k hk h
  unfold spec_l25Slot
  rw [grd_pos (show 0 ≤ (k : Int) ∧ (k : Int) < ((x, l, u) : Ropeway).2.1.length from ⟨by omega, by simp; omega⟩)]
  simp only [l1In_eq, Option.bind_some, H, Int.toNat_natCast, sOk]
  by_cases h1 : 0 ≤ cab l k ∧ cab l k ≤ 20
  · rw [cond_ndt h1]
    by_cases h2 : 0 ≤ ppl l k ∧ ppl l k ≤ 8
    · rw [cond_ndt h2]
      by_cases h3 : cab l k = 0
      · rw [cond_dt h3]
        show cond (!opn l k) (some (decide (ppl l k = 0))) (some false) = _
        cases h4 : opn l k <;> simp [h1, h2, h3, h4]
      · rw [cond_df h3]
        cases h4 : fresh l k
        · simp [h3]
        · simp only [if_true, Option.bind_some, Sum.elim_inr]
          rw [grd_pos (by omega), grd_pos ht]
          by_cases h5 : nxt l k = 0
          · rw [cond_ndt h5]
            show cond (!opn l k) _ _ = _
            cases h6 : opn l k
            · simp [h1, h2, h3, h5]
            · simp only [Bool.not_true, cond_false]
              by_cases h7 : (k : Int) = 0
              · rw [cond_dt h7]; simp [h1, h2, h3, h5, stat, h7]
              · rw [cond_df h7]
                rw [grd_pos (by omega)]
                have h7' : ¬ k = 0 := by omega
                simp [h1, h2, h3, h5, stat, h7']
          · rw [cond_ndf h5]; simp [h3, h5]
    · rw [cond_ndf h2]; simp [h2]
  · rw [cond_ndf h1]; simp [h1]

theorem indexFunc_eq (l : List Slot) (c : Int) (o : Bool) (p : Int) (h : l.length ≤ 1048576) : ∃ r, slices_IndexFunc___impl_Slot_impl_Slot__i1 l c o p = some r ∧ (decide ((0 : Int) ≤ r) = (List.range l.length).any fun j => decide (cab l j = c)) := by
  unfold slices_IndexFunc___impl_Slot_impl_Slot__i1
  obtain ⟨r, e, hr⟩ := iter_ex (f := fun s => slices_IndexFunc___impl_Slot_impl_Slot__i1_loop1 l c o p s) (miss := Sum.inr ()) l.length (fun j => decide (cab l j = c)) (fun j => Sum.inl (j : Int)) (fun j => (j : Int)) (fun k hk => by
    show slices_IndexFunc___impl_Slot_impl_Slot__i1_loop1 l c o p (k : Int) = _
    unfold slices_IndexFunc___impl_Slot_impl_Slot__i1_loop1 impl_IsRopeway_1_i1
    rw [cond_dt (by omega), grd_pos (by omega), w64_nat (by omega), Option.bind_some]
    show cond (decide (cab l k = c)) _ _ = _
    cases decide (cab l k = c) <;> rfl) (by
    show slices_IndexFunc___impl_Slot_impl_Slot__i1_loop1 l c o p (l.length : Int) = _
    unfold slices_IndexFunc___impl_Slot_impl_Slot__i1_loop1
    rw [cond_df (by omega)]) (s := (0 : Int)) rfl
  rw [e]
  rcases hr with ⟨k, hk, hp, _, rfl⟩ | ⟨hn, rfl⟩
  · refine ⟨(k : Int), rfl, ?_⟩
    rw [decide_eq_true (by omega)]
    symm
    rw [List.any_eq_true]
    exact ⟨k, by simpa using hk, hp⟩
  · refine ⟨-1, rfl, ?_⟩
    rw [decide_eq_false (by omega)]
    symm
    rw [List.any_eq_false]
    intro j hj
    rw [hn j (by simpa using hj)]
    simp
theorem lsub_get (l : List Slot) (k j : Nat) (hj : j < k) : cab (lsub l (0 : Int) (k : Int)) j = cab l j := by
  simp [cab, lsub, List.getElem?_take, hj]
theorem contains_eq (l : List Slot) (k : Nat) (hk : k < l.length) (h : l.length ≤ 1048576) (o : Bool) (p : Int) :
    slices_ContainsFunc___impl_Slot_impl_Slot__i1 (lsub l (0 : Int) (k : Int)) (cab l k) o p = some (!fresh l k) := by
  have hl : (lsub l (0 : Int) (k : Int)).length = k := by simp [lsub]; omega
  obtain ⟨r, e, hr⟩ := indexFunc_eq (lsub l (0 : Int) (k : Int)) (cab l k) o p (by rw [hl]; omega)
  unfold slices_ContainsFunc___impl_Slot_impl_Slot__i1
  rw [e, Option.bind_some, hr, hl]
  refine congrArg some ?_
  unfold fresh
  rw [List.not_all_eq_any_not]
  rw [Bool.eq_iff_iff, List.any_eq_true, List.any_eq_true]
  constructor
  · rintro ⟨j, hj, hp⟩
    exact ⟨j, hj, by rw [lsub_get l k j (by simpa using hj)] at hp; simpa using hp⟩
  · rintro ⟨j, hj, hp⟩
    exact ⟨j, hj, by rw [lsub_get l k j (by simpa using hj)]; simpa using hp⟩
def iOk (l : List Slot) (k : Nat) : Bool :=
  decide (0 ≤ cab l k ∧ cab l k ≤ 20) && (decide (0 ≤ ppl l k ∧ ppl l k ≤ 8) && if cab l k = 0 then !opn l k && !decide (0 < ppl l k) else fresh l k && (!decide (0 < nxt l k) && (!opn l k || stat l k)))
theorem isStation_eq (a : Ropeway) (k : Nat) : impl_Ropeway_isStation a (k : Int) = some (stat a.2.1 k) := by
  unfold impl_Ropeway_isStation stat
  by_cases h : (k : Int) = 0
  · rw [cond_dt h]; simp [h]
  · rw [cond_df h, grd_pos (by omega), decide_eq_false h]; simp
theorem isRopeway_step (a : Ropeway) (k : Nat) (hk : k < a.2.1.length) (h : a.2.1.length ≤ 1048576) : impl_IsRopeway_loop1 a (k : Int) = some (if iOk a.2.1 k then .go ((k + 1 : Nat) : Int) else .out (Sum.inl ())) := by
  obtain ⟨x, l, u⟩ := a
  have hk : k < l.length := hk
  have h : l.length ≤ 1048576 := h
  have ht := tmod_in l k hk h
  have hf : ∀ o p, slices_ContainsFunc___impl_Slot_impl_Slot__i1 (lsub l (0 : Int) (k : Int)) ((l.getD (k : Int).toNat d_Slot).1) o p = some (!fresh l k) := fun o p => contains_eq l k hk h o p
  unfold impl_IsRopeway_loop1
  rw [cond_dt (show (k : Int) < (((x, l, u) : Ropeway).2.1.length : Int) from by simp; omega), grd_pos (show 0 ≤ (k : Int) ∧ (k : Int) < ((x, l, u) : Ropeway).2.1.length from ⟨by omega, by simp; omega⟩)]
  simp only [within_eq, Option.bind_some, isStation_eq, hf]
  have hw : w64 ((k : Int) + 1) = ((k + 1 : Nat) : Int) := w64_nat (by omega)
  show cond (!decide (0 ≤ cab l k ∧ cab l k ≤ 20)) _ (cond (!decide (0 ≤ ppl l k ∧ ppl l k ≤ 8)) _ (cond (decide (cab l k = 0)) (cond (opn l k) _ (cond (decide (0 < ppl l k)) _ _)) (cond (opn l k) (cond (!stat l k) _ _) _))) = some (if iOk l k then _ else _)
  by_cases h1 : 0 ≤ cab l k ∧ cab l k ≤ 20
  case neg => rw [cond_ndf h1, show iOk l k = false by simp [iOk, h1]]; rfl
  by_cases h2 : 0 ≤ ppl l k ∧ ppl l k ≤ 8
  case neg => rw [cond_ndt h1, cond_ndf h2, show iOk l k = false by simp [iOk, h2]]; rfl
  rw [cond_ndt h1, cond_ndt h2]
  by_cases h3 : cab l k = 0
  · rw [cond_dt h3]
    cases h4 : opn l k
    case true => rw [show iOk l k = false by simp [iOk, h3, h4]]; rfl
    by_cases h5 : 0 < ppl l k
    · rw [show iOk l k = false by simp [iOk, h3, h5]]
      show cond (decide (0 < ppl l k)) _ _ = _
      rw [cond_dt h5]; rfl
    · rw [show iOk l k = true by simp [iOk, h1, h2, h3, h4]; omega]
      show cond (decide (0 < ppl l k)) _ _ = _
      rw [cond_df h5, hw]; rfl
  · rw [cond_df h3]
    have tail : ∀ (b : Bool), b = opn l k → (opn l k = true → stat l k = true) → (grd ((l.length : Int) ≠ 0) (grd (0 ≤ (Int.tmod (w64 ((k : Int) + 1)) (l.length : Int)) ∧ (Int.tmod (w64 ((k : Int) + 1)) (l.length : Int)) < (l.length : Int)) (cond (decide ((0 : Int) < nxt l k)) ((some (Lp.out (Sum.inl ()) : Lp Int (Unit ⊕ Unit)))) (grd (0 ≤ (0 : Int) ∧ (0 : Int) ≤ (k : Int) ∧ (k : Int) ≤ (l.length : Int)) (cond (!fresh l k) ((some (Lp.out (Sum.inl ())))) (some (Lp.go (w64 ((k : Int) + 1))))))))) = some (if iOk l k then Lp.go ((k + 1 : Nat) : Int) else Lp.out (Sum.inl ())) := fun b _ hs => by
      rw [grd_pos (by omega), grd_pos ht]
      by_cases h5 : 0 < nxt l k
      · rw [cond_dt h5, show iOk l k = false by simp [iOk, h3, h5]]; rfl
      · rw [cond_df h5, grd_pos (by omega), hw]
        cases h6 : fresh l k
        · rw [show iOk l k = false by simp [iOk, h3, h6]]; rfl
        · have hso : (!opn l k || stat l k) = true := by
            cases ho : opn l k
            · rfl
            · simp [hs ho]
          rw [show iOk l k = true by simp only [iOk, h3, h6, hso]; simp [h1, h2]; omega]; rfl
    cases h4 : opn l k
    case false => exact tail _ rfl (fun h => by rw [h4] at h; cases h)
    cases h5 : stat l k
    case false => rw [show iOk l k = false by simp [iOk, h3, h4, h5]]; rfl
    exact tail _ rfl (fun _ => h5)

theorem all_same (l : List Slot) (h : l.length ≤ 1048576) : (List.range l.length).all (sOk l) = (List.range l.length).all (iOk l) := by
  rw [Bool.eq_iff_iff, List.all_eq_true, List.all_eq_true]
  constructor
  · intro H k hk
    have := H k hk
    simp only [sOk, iOk, Bool.and_eq_true, decide_eq_true_eq] at this ⊢
    obtain ⟨h1, h2, h3⟩ := this
    refine ⟨h1, h2, ?_⟩
    split
    · rename_i hc
      rw [if_pos hc] at h3
      simp only [Bool.and_eq_true, decide_eq_true_eq, Bool.not_eq_true', decide_eq_false_iff_not] at h3 ⊢
      exact ⟨h3.1, by omega⟩
    · rename_i hc
      rw [if_neg hc] at h3
      simp only [Bool.and_eq_true, decide_eq_true_eq, Bool.not_eq_true', decide_eq_false_iff_not] at h3 ⊢
      exact ⟨h3.1, by omega, h3.2.2⟩
  · intro H k hk
    have hkl : k < l.length := by simpa using hk
    have hn : 0 ≤ nxt l k := by
      have ht := tmod_in l k hkl h
      have := H (Int.tmod (w64 ((k : Int) + 1)) (l.length : Int)).toNat (by simp; omega)
      simp only [iOk, Bool.and_eq_true, decide_eq_true_eq] at this
      exact this.1.1
    have := H k hk
    simp only [sOk, iOk, Bool.and_eq_true, decide_eq_true_eq] at this ⊢
    obtain ⟨h1, h2, h3⟩ := this
    refine ⟨h1, h2, ?_⟩
    split
    · rename_i hc
      rw [if_pos hc] at h3
      simp only [Bool.and_eq_true, decide_eq_true_eq, Bool.not_eq_true', decide_eq_false_iff_not] at h3 ⊢
      exact ⟨h3.1, by omega⟩
    · rename_i hc
      rw [if_neg hc] at h3
      simp only [Bool.and_eq_true, decide_eq_true_eq, Bool.not_eq_true', decide_eq_false_iff_not] at h3 ⊢
      exact ⟨h3.1, by omega, h3.2.2⟩
theorem good_eq (a : Ropeway) (h : a.2.1.length ≤ 1048576) : ∃ b, spec_l25Good a = some b ∧ impl_IsRopeway a = some b := by
  have H1 : iter (fun s => spec_l25Good_loop1 a s) (0 : Int) = some (if (List.range a.2.1.length).all (sOk a.2.1) then Sum.inr () else Sum.inl ()) :=
    iter_allN a.2.1.length (sOk a.2.1) (fun k => (k : Int)) (fun k hk => by
      show spec_l25Good_loop1 a (k : Int) = _
      unfold spec_l25Good_loop1
      rw [cond_dt (by omega), l25Slot_eq _ k hk h, w64_nat (by omega)]
      show cond (!sOk a.2.1 k) _ _ = _
      cases sOk a.2.1 k <;> rfl) (by
      show spec_l25Good_loop1 a (a.2.1.length : Int) = _
      unfold spec_l25Good_loop1
      rw [cond_df (by omega)]) rfl
  have H2 : iter (fun s => impl_IsRopeway_loop1 a s) (0 : Int) = some (if (List.range a.2.1.length).all (iOk a.2.1) then Sum.inr () else Sum.inl ()) :=
    iter_allN a.2.1.length (iOk a.2.1) (fun k => (k : Int)) (fun k hk => isRopeway_step a k hk h) (by
      show impl_IsRopeway_loop1 a (a.2.1.length : Int) = _
      unfold impl_IsRopeway_loop1
      rw [cond_df (by omega)]) rfl
  have hs : spec_l25Good a = impl_IsRopeway a := by
    unfold spec_l25Good impl_IsRopeway
    simp only [l1In_eq, within_eq, Option.bind_some, H1, H2, all_same _ h]
  refine ⟨(impl_IsRopeway a).getD false, ?_⟩
  rw [hs]
  suffices hh : ∃ b, impl_IsRopeway a = some b by
    obtain ⟨b, hb⟩ := hh
    rw [hb]; exact ⟨rfl, rfl⟩
  unfold impl_IsRopeway
  simp only [within_eq, Option.bind_some, H2]
  rw [grd_pos (by omega)]
  simp only [Bool.cond_eq_ite]
  repeat' split
  all_goals exact ⟨_, rfl⟩
theorem law_FnExactIsRopeway (a : Ropeway) (ha : Ty.fit ty_Ropeway a) : laws_FnExactIsRopeway a = some true := by
  obtain ⟨x, l, p, q, r, u⟩ := a
  have h : l.length ≤ 1048576 := ha.2.1.1
  obtain ⟨b, e1, e2⟩ := good_eq (x, l, p, q, r, ()) h
  obtain ⟨y, hy⟩ := szRopeway_eq (x, l, p, q, r, ()) 1048576
  unfold laws_FnExactIsRopeway
  simp only [hy, Option.bind_some]
  by_cases h0 : y < 0
  · rw [cond_dt h0]
  · rw [cond_df h0]
    simp only [toRopeway_eq (x, l, p, q, r, ()) h, Option.bind_some, spec_IsRopeway, e1, e2, eqRopeway_eq (x, l, p, q, r, ()) h, beq_self_eq_true, Bool.not_true, cond_false]

theorem sum_ok (a : Ropeway) (h : a.2.1.length ≤ 1048576) : ∃ y, spec_l25Sum a = some y ∧ impl_Ropeway_peopleOn a = some y := by
  obtain ⟨r, r', e1, e2, rfl⟩ := iter_rel (f := fun s => spec_l25Sum_loop1 a s.1 s.2.1 s.2.2) (g := fun s => impl_Ropeway_peopleOn_loop1 a s.1 s.2.1 s.2.2)
    (fun (k : Nat) s t => ∃ c d : Int, s = (c, d, (k : Int)) ∧ t = (c, d, (k : Int))) (fun r r' => r = r') a.2.1.length
    (by
      rintro k _ _ hk ⟨c, d, rfl, rfl⟩
      refine .inl ?_
      have hs : impl_Ropeway_isStation (a.1, a.2.1, a.2.2.1, a.2.2.2.1, a.2.2.2.2.1, ()) (k : Int) = some (stat a.2.1 k) := isStation_eq _ k
      have hw : w64 ((k : Int) + 1) = ((k + 1 : Nat) : Int) := w64_nat (by omega)
      cases hst : stat a.2.1 k with
      | true =>
        refine ⟨_, _, ?_, ?_, w64 (c + ppl a.2.1 k), d, rfl, rfl⟩
        · show spec_l25Sum_loop1 a c d (k : Int) = _
          unfold spec_l25Sum_loop1
          rw [cond_dt (by omega), grd_pos (by omega)]
          by_cases h0 : (k : Int) = 0
          · rw [cond_ndt h0, hw]; rfl
          · rw [cond_ndf h0, grd_pos (by omega)]
            have h1 : (k : Int) = w64 (Int.tdiv (a.2.1.length : Int) 2) := by
              simp only [stat, Bool.or_eq_true, decide_eq_true_eq] at hst
              exact hst.resolve_left h0
            rw [cond_ndt h1, hw]; rfl
        · show impl_Ropeway_peopleOn_loop1 a c d (k : Int) = _
          unfold impl_Ropeway_peopleOn_loop1
          rw [cond_dt (by omega), grd_pos (by omega), hs, Option.bind_some, hst, hw]; rfl
      | false =>
        refine ⟨_, _, ?_, ?_, w64 (c + ppl a.2.1 k), w64 (d + ppl a.2.1 k), rfl, rfl⟩
        · show spec_l25Sum_loop1 a c d (k : Int) = _
          unfold spec_l25Sum_loop1
          rw [cond_dt (by omega), grd_pos (by omega)]
          simp only [stat, Bool.or_eq_false_iff, decide_eq_false_iff_not] at hst
          rw [cond_ndf hst.1, grd_pos (by omega), cond_ndf hst.2, grd_pos (by omega), hw]; rfl
        · show impl_Ropeway_peopleOn_loop1 a c d (k : Int) = _
          unfold impl_Ropeway_peopleOn_loop1
          rw [cond_dt (by omega), grd_pos (by omega), hs, Option.bind_some, hst, hw]; rfl)
    (by
      rintro _ _ ⟨c, d, rfl, rfl⟩
      refine ⟨(c, d), (c, d), ?_, ?_, rfl⟩
      · show spec_l25Sum_loop1 a c d (a.2.1.length : Int) = _
        unfold spec_l25Sum_loop1
        rw [cond_df (by omega)]
      · show impl_Ropeway_peopleOn_loop1 a c d (a.2.1.length : Int) = _
        unfold impl_Ropeway_peopleOn_loop1
        rw [cond_df (by omega)])
    (s := ((0 : Int), (0 : Int), (0 : Int))) (t := ((0 : Int), (0 : Int), (0 : Int))) ⟨0, 0, rfl, rfl⟩
  refine ⟨(r.1, r.2), ?_, ?_⟩
  · unfold spec_l25Sum; rw [e1]; rfl
  · unfold impl_Ropeway_peopleOn; rw [e2]; rfl
theorem peopleOn_ok (a : Ropeway) (h : a.2.1.length ≤ 1048576) : ∃ y, spec_PeopleOn a = some y ∧ impl_PeopleOn a = some y := by
  obtain ⟨x, l, p, q, r, u⟩ := a
  obtain ⟨b, e1, e2⟩ := good_eq (x, l, p, q, r, ()) h
  obtain ⟨y, s1, s2⟩ := sum_ok (x, l, p, q, r, ()) h
  unfold spec_PeopleOn impl_PeopleOn
  simp only [e1, e2, s1, s2, Option.bind_some]
  cases b
  · exact ⟨_, rfl, rfl⟩
  · exact ⟨_, rfl, rfl⟩
theorem law_FnExactPeopleOn (a : Ropeway) (ha : Ty.fit ty_Ropeway a) : laws_FnExactPeopleOn a = some true := by
  obtain ⟨x, l, p, q, r, u⟩ := a
  have h : l.length ≤ 1048576 := ha.2.1.1
  obtain ⟨b, e1, e2⟩ := peopleOn_ok (x, l, p, q, r, ()) h
  obtain ⟨y, hy⟩ := szRopeway_eq (x, l, p, q, r, ()) 1048576
  unfold laws_FnExactPeopleOn
  simp only [hy, Option.bind_some]
  by_cases h0 : y < 0
  · rw [cond_dt h0]
  · rw [cond_df h0]
    simp only [toRopeway_eq (x, l, p, q, r, ()) h, Option.bind_some, e1, e2, eqRopeway_eq (x, l, p, q, r, ()) h, beq_self_eq_true, decide_true, Bool.not_true, cond_false]
theorem isCleared_ok (a : Ropeway) (h : a.2.1.length ≤ 1048576) : ∃ y, spec_IsCleared a = some y ∧ impl_IsCleared a = some y := by
  obtain ⟨x, l, p, q, r, u⟩ := a
  obtain ⟨b, e1, e2⟩ := good_eq (x, l, p, q, r, ()) h
  obtain ⟨y, s1, s2⟩ := sum_ok (x, l, p, q, r, ()) h
  unfold spec_IsCleared impl_IsCleared
  simp only [e1, e2, s1, s2, Option.bind_some]
  cases b
  · exact ⟨_, rfl, rfl⟩
  · by_cases h1 : q = 0 <;> by_cases h2 : y.1 = 0 <;> simp [h1, h2]
theorem law_FnExactIsCleared (a : Ropeway) (ha : Ty.fit ty_Ropeway a) : laws_FnExactIsCleared a = some true := by
  obtain ⟨x, l, p, q, r, u⟩ := a
  have h : l.length ≤ 1048576 := ha.2.1.1
  obtain ⟨b, e1, e2⟩ := isCleared_ok (x, l, p, q, r, ()) h
  obtain ⟨y, hy⟩ := szRopeway_eq (x, l, p, q, r, ()) 1048576
  unfold laws_FnExactIsCleared
  simp only [hy, Option.bind_some]
  by_cases h0 : y < 0
  · rw [cond_dt h0]
  · rw [cond_df h0]
    simp only [toRopeway_eq (x, l, p, q, r, ()) h, Option.bind_some, e1, e2, eqRopeway_eq (x, l, p, q, r, ()) h, beq_self_eq_true, decide_true, Bool.not_true, cond_false]
theorem find_eq (a : Ropeway) (n : Int) (h : a.2.1.length ≤ 1048576) : ∃ r, spec_l25Find a n = some r ∧ ((∃ k, k < a.2.1.length ∧ cab a.2.1 k = n ∧ (∀ j, j < k → cab a.2.1 j ≠ n) ∧ r = (k : Int)) ∨ ((∀ k, k < a.2.1.length → cab a.2.1 k ≠ n) ∧ r = -1)) := by
  obtain ⟨r, e, hr⟩ := iter_ex (f := fun s => spec_l25Find_loop1 a n s) (miss := Sum.inr ()) a.2.1.length (fun j => decide (cab a.2.1 j = n)) (fun j => Sum.inl (j : Int)) (fun j => (j : Int)) (fun k hk => by
    show spec_l25Find_loop1 a n (k : Int) = _
    unfold spec_l25Find_loop1
    rw [cond_dt (by omega), grd_pos (by omega), w64_nat (by omega)]
    show cond (decide (cab a.2.1 k = n)) _ _ = _
    cases decide (cab a.2.1 k = n) <;> rfl) (by
    show spec_l25Find_loop1 a n (a.2.1.length : Int) = _
    unfold spec_l25Find_loop1
    rw [cond_df (by omega)]) (s := (0 : Int)) rfl
  unfold spec_l25Find
  rw [e]
  rcases hr with ⟨k, hk, hp, hj, rfl⟩ | ⟨hn, rfl⟩
  · exact ⟨(k : Int), rfl, .inl ⟨k, hk, of_decide_eq_true hp, fun j h => of_decide_eq_false (hj j h), rfl⟩⟩
  · exact ⟨-1, rfl, .inr ⟨fun k hk => of_decide_eq_false (hn k hk), rfl⟩⟩
theorem cabinAt_eq (a : Ropeway) (n : Int) (h : a.2.1.length ≤ 1048576) : ∃ r, impl_Ropeway_cabinAt a n = some r ∧ ((∃ k, k < a.2.1.length ∧ (0 < cab a.2.1 k ∧ cab a.2.1 k = n) ∧ (∀ j, j < k → ¬ (0 < cab a.2.1 j ∧ cab a.2.1 j = n)) ∧ r = (k : Int)) ∨ ((∀ k, k < a.2.1.length → ¬ (0 < cab a.2.1 k ∧ cab a.2.1 k = n)) ∧ r = -1)) := by
  obtain ⟨r, e, hr⟩ := iter_ex (f := fun s => slices_IndexFunc___impl_Slot_impl_Slot__i2_loop1 a.2.1 n s) (miss := Sum.inr ()) a.2.1.length (fun j => decide (0 < cab a.2.1 j ∧ cab a.2.1 j = n)) (fun j => Sum.inl (j : Int)) (fun j => (j : Int)) (fun k hk => by
    show slices_IndexFunc___impl_Slot_impl_Slot__i2_loop1 a.2.1 n (k : Int) = _
    unfold slices_IndexFunc___impl_Slot_impl_Slot__i2_loop1
    rw [cond_dt (by omega), grd_pos (by omega), w64_nat (by omega)]
    have hp : ∀ (o : Bool) (p : Int), impl_Ropeway_cabinAt_1_i1 (cab a.2.1 k, o, p, ()) n = some (decide (0 < cab a.2.1 k ∧ cab a.2.1 k = n)) := fun o p => by
      unfold impl_Ropeway_cabinAt_1_i1
      show cond (decide (0 < cab a.2.1 k)) (some (decide (cab a.2.1 k = n))) (some false) = _
      by_cases h1 : 0 < cab a.2.1 k
      · rw [cond_dt h1]; simp [h1]
      · rw [cond_df h1]; simp [h1]
    have hp := hp (opn a.2.1 k) (ppl a.2.1 k)
    show (impl_Ropeway_cabinAt_1_i1 (cab a.2.1 k, opn a.2.1 k, ppl a.2.1 k, ()) n).bind _ = _
    rw [hp, Option.bind_some]
    cases decide (0 < cab a.2.1 k ∧ cab a.2.1 k = n) <;> rfl) (by
    show slices_IndexFunc___impl_Slot_impl_Slot__i2_loop1 a.2.1 n (a.2.1.length : Int) = _
    unfold slices_IndexFunc___impl_Slot_impl_Slot__i2_loop1
    rw [cond_df (by omega)]) (s := (0 : Int)) rfl
  unfold impl_Ropeway_cabinAt slices_IndexFunc___impl_Slot_impl_Slot__i2
  rw [e]
  rcases hr with ⟨k, hk, hp, hj, rfl⟩ | ⟨hn, rfl⟩
  · exact ⟨(k : Int), rfl, .inl ⟨k, hk, of_decide_eq_true hp, fun j h => of_decide_eq_false (hj j h), rfl⟩⟩
  · exact ⟨-1, rfl, .inr ⟨fun k hk => of_decide_eq_false (hn k hk), rfl⟩⟩
theorem cabinAt_ok (a : Ropeway) (n : Int) (h : a.2.1.length ≤ 1048576) : ∃ y, spec_CabinAt a n = some y ∧ impl_CabinAt a n = some y ∧ 0 ≤ y.1 ∧ (y.2 = true → (0 : Int) < (a.2.1.length : Int)) := by
  obtain ⟨x, l, p, q, r, u⟩ := a
  obtain ⟨b, e1, e2⟩ := good_eq (x, l, p, q, r, ()) h
  obtain ⟨f, f1, hf⟩ := find_eq (x, l, p, q, r, ()) n h
  obtain ⟨g, g1, hg⟩ := cabinAt_eq (x, l, p, q, r, ()) n h
  unfold spec_CabinAt impl_CabinAt
  simp only [e1, e2, f1, g1, Option.bind_some]
  cases b
  · exact ⟨_, rfl, rfl, by omega, fun h => by cases h⟩
  simp only [Bool.not_true, cond_false]
  by_cases hn : n < 1
  · have hgg : g = -1 := by
      rcases hg with ⟨k, _, h1, _⟩ | ⟨_, h1⟩
      · exact absurd h1.1 (by rw [h1.2]; omega)
      · exact h1
    rw [cond_dt hn, hgg]
    exact ⟨_, rfl, rfl, by omega, fun h => by cases h⟩
  · rw [cond_df hn]
    have hfg : f = g := by
      rcases hf with ⟨k, hk, h1, h2, rfl⟩ | ⟨h1, rfl⟩
      · rcases hg with ⟨k', hk', h1', h2', rfl⟩ | ⟨h1', rfl⟩
        · rcases Nat.lt_trichotomy k k' with hl | he | hl
          · exact absurd ⟨by rw [h1]; omega, h1⟩ (h2' k hl)
          · rw [he]
          · exact absurd h1'.2 (h2 k' hl)
        · exact absurd ⟨by rw [h1]; omega, h1⟩ (h1' k hk)
      · rcases hg with ⟨k', hk', h1', _, _⟩ | ⟨_, rfl⟩
        · exact absurd h1'.2 (h1 k' hk')
        · rfl
    subst hfg
    rcases hf with ⟨k, hk, _, _, rfl⟩ | ⟨_, rfl⟩
    · rw [cond_df (by omega)]
      refine ⟨((k : Int), true), rfl, ?_, by simp, fun _ => by have : k < l.length := hk; show (0 : Int) < (l.length : Int); omega⟩
      have h1 : ¬ (0 : Int) > (k : Int) := by omega
      simp [h1]
    · exact ⟨_, rfl, rfl, by omega, fun h => by cases h⟩
theorem law_FnExactCabinAt (a : Ropeway) (n : Int) (ha : Ty.fit ty_Ropeway a) (_ : Ty.fit (.int .i64) n) : laws_FnExactCabinAt a n = some true := by
  obtain ⟨x, l, p, q, r, u⟩ := a
  have h : l.length ≤ 1048576 := ha.2.1.1
  obtain ⟨b, e1, e2, _⟩ := cabinAt_ok (x, l, p, q, r, ()) n h
  obtain ⟨y, hy⟩ := szRopeway_eq (x, l, p, q, r, ()) 1048576
  unfold laws_FnExactCabinAt
  simp only [hy, Option.bind_some]
  by_cases h0 : y < 0
  · rw [cond_dt h0]
  · rw [cond_df h0]
    simp only [toRopeway_eq (x, l, p, q, r, ()) h, Option.bind_some, e1, e2, eqRopeway_eq (x, l, p, q, r, ()) h, beq_self_eq_true, decide_true, Bool.not_true, cond_false]
theorem turnsTo_ok (a : Ropeway) (n : Int) (up : Bool) (h : a.2.1.length ≤ 1048576) : ∃ y, spec_TurnsTo a n up = some y ∧ impl_TurnsTo a n up = some y := by
  obtain ⟨x, l, p, q, r, u⟩ := a
  obtain ⟨b, e1, e2, _, hb⟩ := cabinAt_ok (x, l, p, q, r, ()) n h
  unfold spec_TurnsTo impl_TurnsTo
  simp only [e1, e2, Option.bind_some]
  cases hy : b.2
  · exact ⟨_, rfl, rfl⟩
  · have hl : (0 : Int) < (l.length : Int) := hb hy
    have hne : (l.length : Int) ≠ 0 := by omega
    cases up
    · exact ⟨_, by simp only [Bool.not_true, cond_false]; rw [grd_pos hne], by simp only [Bool.not_true, cond_false]; rw [grd_pos hne]⟩
    · exact ⟨_, by simp only [Bool.not_true, cond_false, cond_true]; rw [grd_pos (by omega), grd_pos hne], by simp only [Bool.not_true, cond_false, cond_true]; rw [grd_pos (by omega), grd_pos hne]⟩
theorem law_FnExactTurnsTo (a : Ropeway) (n : Int) (up : Bool) (ha : Ty.fit ty_Ropeway a) (_ : Ty.fit (.int .i64) n) (_ : Ty.fit .bool up) : laws_FnExactTurnsTo a n up = some true := by
  obtain ⟨x, l, p, q, r, u⟩ := a
  have h : l.length ≤ 1048576 := ha.2.1.1
  obtain ⟨b, e1, e2⟩ := turnsTo_ok (x, l, p, q, r, ()) n up h
  obtain ⟨y, hy⟩ := szRopeway_eq (x, l, p, q, r, ()) 1048576
  unfold laws_FnExactTurnsTo
  simp only [hy, Option.bind_some]
  by_cases h0 : y < 0
  · rw [cond_dt h0]
  · rw [cond_df h0]
    simp only [toRopeway_eq (x, l, p, q, r, ()) h, Option.bind_some, e1, e2, eqRopeway_eq (x, l, p, q, r, ()) h, beq_self_eq_true, decide_true, Bool.not_true, cond_false]

end Go.Proofs.Ytdlgljedjdnepaa
