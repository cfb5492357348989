/-
  Plain laws of the weather's records: the coldest, the icy minutes; the law of the calm.
-/
import Derived.Test.YtaajchikfgbecaaS75
import Derived.Test.YtaajchikfgbecaaO1
namespace Go.Proofs.Ytaajchikfgbecaa
open Go.RowKit

/-- The coldest so far. -/
def coK (l : List Weather) : Nat → Nat
  | 0 => 0
  | k + 1 => if (l.getD k d_Weather).2.2.2.1 < (l.getD (coK l k) d_Weather).2.2.2.1 then k else coK l k
theorem coK_one (l : List Weather) : coK l 1 = 0 := by
  show (if (l.getD 0 d_Weather).2.2.2.1 < (l.getD 0 d_Weather).2.2.2.1 then 0 else 0) = 0
  split <;> rfl
theorem coK_inv (l : List Weather) : ∀ k, (coK l k = 0 ∨ coK l k < k) ∧ ∀ j, j < k → (l.getD (coK l k) d_Weather).2.2.2.1 ≤ (l.getD j d_Weather).2.2.2.1 ∧ ((l.getD j d_Weather).2.2.2.1 = (l.getD (coK l k) d_Weather).2.2.2.1 → coK l k ≤ j)
  | 0 => ⟨.inl rfl, fun j hj => by omega⟩
  | k + 1 => by
    obtain ⟨h1, h2⟩ := coK_inv l k
    rw [coK]
    by_cases hc : (l.getD k d_Weather).2.2.2.1 < (l.getD (coK l k) d_Weather).2.2.2.1
    · rw [if_pos hc]
      refine ⟨.inr (by omega), fun j hj => ?_⟩
      by_cases e : j = k
      · rw [e]; exact ⟨by omega, fun _ => by omega⟩
      · have := (h2 j (by omega)).1
        exact ⟨by omega, fun e2 => by omega⟩
    · rw [if_neg hc]
      refine ⟨by omega, fun j hj => ?_⟩
      by_cases e : j = k
      · rw [e]; exact ⟨by omega, fun _ => by omega⟩
      · exact h2 j (by omega)
abbrev cold (l : List Weather) (k : Nat) : Weather := l.getD (coK l k) d_Weather
theorem cold_impl (l : List Weather) (h : l.length ≤ 1048576) : iter (fun s => impl_ColdestRecord_loop1 l s.1 s.2.1 s.2.2.1 s.2.2.2.1 s.2.2.2.2.1 s.2.2.2.2.2) ((0 : Int), (l.getD 0 d_Weather).1, (l.getD 0 d_Weather).2.1, (l.getD 0 d_Weather).2.2.1, (l.getD 0 d_Weather).2.2.2.1, (l.getD 0 d_Weather).2.2.2.2.1) =
    some ((cold l l.length).1, (cold l l.length).2.1, (cold l l.length).2.2.1, (cold l l.length).2.2.2.1, (cold l l.length).2.2.2.2.1) :=
  iter_for l.length (fun k => ((k : Int), (cold l k).1, (cold l k).2.1, (cold l k).2.2.1, (cold l k).2.2.2.1, (cold l k).2.2.2.2.1)) (fun k hk => by
    show impl_ColdestRecord_loop1 l (k : Int) (cold l k).1 (cold l k).2.1 (cold l k).2.2.1 (cold l k).2.2.2.1 (cold l k).2.2.2.2.1 = _
    unfold impl_ColdestRecord_loop1
    rw [cond_dt (by omega), grd_pos (by omega)]
    simp only [Int.toNat_natCast]
    have e : cold l (k + 1) = if (l.getD k d_Weather).2.2.2.1 < (cold l k).2.2.2.1 then l.getD k d_Weather else cold l k := by
      show l.getD (coK l (k + 1)) d_Weather = _
      rw [coK]; split <;> rfl
    rw [e, w64_nat (by omega)]
    by_cases hc : (l.getD k d_Weather).2.2.2.1 < (cold l k).2.2.2.1
    · rw [cond_dt hc, if_pos hc]
    · rw [cond_df hc, if_neg hc]) (by
    show impl_ColdestRecord_loop1 l (l.length : Int) (cold l l.length).1 (cold l l.length).2.1 (cold l l.length).2.2.1 (cold l l.length).2.2.2.1 (cold l l.length).2.2.2.2.1 = _
    unfold impl_ColdestRecord_loop1
    rw [cond_df (by omega)]) rfl
theorem cold_spec (l : List Weather) (h : l.length ≤ 1048576) (h0 : 0 < l.length) : iter (fun s => spec_ColdestRecord_loop1 l s.1 s.2.1 s.2.2.1 s.2.2.2.1 s.2.2.2.2.1 s.2.2.2.2.2) ((1 : Int), (l.getD 0 d_Weather).1, (l.getD 0 d_Weather).2.1, (l.getD 0 d_Weather).2.2.1, (l.getD 0 d_Weather).2.2.2.1, (l.getD 0 d_Weather).2.2.2.2.1) =
    some ((cold l l.length).1, (cold l l.length).2.1, (cold l l.length).2.2.1, (cold l l.length).2.2.2.1, (cold l l.length).2.2.2.2.1) :=
  iter_for (l.length - 1) (fun k => (((k + 1 : Nat) : Int), (cold l (k + 1)).1, (cold l (k + 1)).2.1, (cold l (k + 1)).2.2.1, (cold l (k + 1)).2.2.2.1, (cold l (k + 1)).2.2.2.2.1)) (fun k hk => by
    show spec_ColdestRecord_loop1 l ((k + 1 : Nat) : Int) (cold l (k + 1)).1 (cold l (k + 1)).2.1 (cold l (k + 1)).2.2.1 (cold l (k + 1)).2.2.2.1 (cold l (k + 1)).2.2.2.2.1 = _
    unfold spec_ColdestRecord_loop1
    rw [cond_dt (by omega), grd_pos (by omega)]
    simp only [Int.toNat_natCast]
    have e : cold l (k + 1 + 1) = if (l.getD (k + 1) d_Weather).2.2.2.1 < (cold l (k + 1)).2.2.2.1 then l.getD (k + 1) d_Weather else cold l (k + 1) := by
      show l.getD (coK l (k + 1 + 1)) d_Weather = _
      rw [coK]; split <;> rfl
    rw [e, w64_nat (by omega)]
    by_cases hc : (l.getD (k + 1) d_Weather).2.2.2.1 < (cold l (k + 1)).2.2.2.1
    · rw [cond_dt hc, if_pos hc, grd_pos (by omega)]
    · rw [cond_df hc, if_neg hc]) (by
    have e : l.length - 1 + 1 = l.length := by omega
    show spec_ColdestRecord_loop1 l ((l.length - 1 + 1 : Nat) : Int) (cold l (l.length - 1 + 1)).1 (cold l (l.length - 1 + 1)).2.1 (cold l (l.length - 1 + 1)).2.2.1 (cold l (l.length - 1 + 1)).2.2.2.1 (cold l (l.length - 1 + 1)).2.2.2.2.1 = _
    rw [e]
    unfold spec_ColdestRecord_loop1
    rw [cond_df (by omega)]) (by
    show _ = (((0 + 1 : Nat) : Int), (l.getD (coK l 1) d_Weather).1, (l.getD (coK l 1) d_Weather).2.1, (l.getD (coK l 1) d_Weather).2.2.1, (l.getD (coK l 1) d_Weather).2.2.2.1, (l.getD (coK l 1) d_Weather).2.2.2.2.1)
    rw [coK_one]; rfl)
theorem coldest_eq (l : List Weather) (h : l.length ≤ 1048576) : (impl_ColdestRecord l = some ((0, 0, 0, 0, false, ()), false) ∧ spec_ColdestRecord l = some ((0, 0, 0, 0, false, ()), false)) ∨
    (Rec l ∧ 0 < l.length ∧ impl_ColdestRecord l = some (cold l l.length, true) ∧ spec_ColdestRecord l = some (cold l l.length, true)) := by
  unfold impl_ColdestRecord spec_ColdestRecord
  rw [areRecords_eq l h, l17Good_eq l h]
  simp only [Option.bind_some]
  cases ha : AR l
  · exact .inl ⟨rfl, rfl⟩
  · simp only [Bool.not_true, cond_false]
    by_cases h0 : (l.length : Int) = 0
    · rw [cond_dt h0, cond_dt h0]; exact .inl ⟨rfl, rfl⟩
    · rw [cond_df h0, cond_df h0, grd_pos (by omega), grd_pos (by omega), show (0 : Int).toNat = 0 from rfl, cold_impl l h, cold_spec l h (by omega)]
      exact .inr ⟨AR_out ha, by omega, rfl, rfl⟩
/-! ## The icy minutes -/
def icy (r : Weather) : Prop := (-100 ≤ r.2.2.2.1 ∧ r.2.2.2.1 ≤ 10) ∧ 50 ≤ r.2.1
instance icyDec (r : Weather) : Decidable (icy r) := inferInstanceAs (Decidable ((-100 ≤ r.2.2.2.1 ∧ r.2.2.2.1 ≤ 10) ∧ 50 ≤ r.2.1))
def icK (l : List Weather) : Nat → List Int
  | 0 => []
  | k + 1 => if icy (l.getD k d_Weather) then icK l k ++ [(l.getD k d_Weather).1] else icK l k
theorem icK_len (l : List Weather) : ∀ k, (icK l k).length ≤ k
  | 0 => by simp [icK]
  | k + 1 => by have := icK_len l k; rw [icK]; split <;> simp <;> omega
theorem icK_yes {l : List Weather} {k : Nat} (h : icy (l.getD k d_Weather)) : icK l (k + 1) = icK l k ++ [(l.getD k d_Weather).1] := if_pos h
theorem icK_no {l : List Weather} {k : Nat} (h : ¬ icy (l.getD k d_Weather)) : icK l (k + 1) = icK l k := if_neg h
theorem icy_impl (l : List Weather) (h : l.length ≤ 1048576) : iter (fun s => impl_IcyMinutes_loop1 l s.1 s.2) ((0 : Int), ([] : List Int)) = some (icK l l.length) :=
  iter_for l.length (fun k => ((k : Int), icK l k)) (fun k hk => by
    show impl_IcyMinutes_loop1 l (k : Int) (icK l k) = _
    have hl := icK_len l k
    unfold impl_IcyMinutes_loop1
    rw [cond_dt (by omega), grd_pos (by omega)]
    simp only [Int.toNat_natCast, within_eq, Option.bind_some]
    rw [w64_nat (by omega)]
    by_cases h1 : -100 ≤ (l.getD k d_Weather).2.2.2.1 ∧ (l.getD k d_Weather).2.2.2.1 ≤ 10
    · rw [cond_dt h1]
      by_cases h2 : 50 ≤ (l.getD k d_Weather).2.1
      · rw [cond_dt h2, grd_pos (by simp only [List.length_singleton]; omega), icK_yes ⟨h1, h2⟩]
      · rw [cond_df h2, icK_no (fun e => h2 e.2)]
    · rw [cond_df h1, icK_no (fun e => h1 e.1)]) (by
    show impl_IcyMinutes_loop1 l (l.length : Int) (icK l l.length) = _
    unfold impl_IcyMinutes_loop1
    rw [cond_df (by omega)]) rfl
theorem icy_spec (l : List Weather) (h : l.length ≤ 1048576) : iter (fun s => spec_IcyMinutes_loop1 l s.1 s.2) ((0 : Int), ([] : List Int)) = some (icK l l.length) :=
  iter_for l.length (fun k => ((k : Int), icK l k)) (fun k hk => by
    show spec_IcyMinutes_loop1 l (k : Int) (icK l k) = _
    have hl := icK_len l k
    have hg : 0 ≤ (k : Int) ∧ (k : Int) < (l.length : Int) := by omega
    unfold spec_IcyMinutes_loop1
    rw [cond_dt (by omega)]
    simp only [grd_pos hg, Int.toNat_natCast, l1In_eq, Option.bind_some]
    rw [w64_nat (by omega)]
    by_cases h1 : -100 ≤ (l.getD k d_Weather).2.2.2.1 ∧ (l.getD k d_Weather).2.2.2.1 ≤ 10
    · rw [cond_dt h1]
      by_cases h2 : 50 ≤ (l.getD k d_Weather).2.1
      · rw [cond_dt h2, grd_pos (by simp only [List.length_singleton]; omega), icK_yes ⟨h1, h2⟩]
      · rw [cond_df h2, icK_no (fun e => h2 e.2)]
    · rw [cond_df h1, icK_no (fun e => h1 e.1)]) (by
    show spec_IcyMinutes_loop1 l (l.length : Int) (icK l l.length) = _
    unfold spec_IcyMinutes_loop1
    rw [cond_df (by omega)]) rfl
theorem icyM_eq (l : List Weather) (h : l.length ≤ 1048576) : (impl_IcyMinutes l = some (.inl ()) ∧ spec_IcyMinutes l = some ([], false)) ∨
    (impl_IcyMinutes l = some (.inr (icK l l.length)) ∧ spec_IcyMinutes l = some (icK l l.length, true)) := by
  unfold impl_IcyMinutes spec_IcyMinutes
  rw [areRecords_eq l h, l17Good_eq l h]
  simp only [Option.bind_some]
  cases ha : AR l
  · exact .inl ⟨rfl, rfl⟩
  · simp only [Bool.not_true, cond_false]
    rw [icy_impl l h, icy_spec l h]; exact .inr ⟨rfl, rfl⟩
/-! ## The loops of the law -/
theorem loop1_eq {l : List Weather} {m : Int} (hR : Rec l) (hm : 0 ≤ m ∧ m ≤ 600) (ha : AR l = true) (h : l.length ≤ 1048576) (sp : List (List Int)) (hl : sp.length ≤ 1048576) (hs : ∀ row ∈ sp, Span l m l.length row) :
    iter (fun s => laws_FnCalm_loop1 s.1 s.2.1 s.2.2.1 s.2.2.2) (m, sp, (0 : Int), l) = some (Sum.inr ()) :=
  iter_for sp.length (fun k => (m, sp, (k : Int), l)) (fun k hk => by
    show laws_FnCalm_loop1 m sp (k : Int) l = _
    have hmem : sp.getD k [] ∈ sp := by rw [getD_eq sp k _ hk]; exact List.getElem_mem hk
    obtain ⟨i, j, hij, hj, hrow, hcalm⟩ := hs _ hmem
    have hg : 0 ≤ (k : Int) ∧ (k : Int) < (sp.length : Int) := by omega
    have oki := hR.ok i (by omega)
    have okj := hR.ok j hj
    have hle : (l.getD i d_Weather).1 ≤ (l.getD j d_Weather).1 := by
      by_cases e : i = j
      · rw [e]; omega
      · have := hR.up i j (by omega) hj; omega
    obtain ⟨w1, w2, w3⟩ := sw_span hR hm.1 hij hj hcalm l.length (Nat.le_refl _)
    have hw0 := w3 (by omega)
    have hSW : impl_StrongestWind l (l.getD i d_Weather).1 (l.getD j d_Weather).1 = some (swK l (l.getD i d_Weather).1 (l.getD j d_Weather).1 l.length, true) := by
      rw [strongest_eq l _ _ h, if_pos ⟨ha, ⟨by omega, hle⟩, by omega⟩, if_neg (by omega), decide_eq_true hw0]
    have hin : ∀ t, t < l.length → inW (l.getD i d_Weather).1 0 (l.getD t d_Weather) → t = i := fun t ht hw => by
      have e : w64 ((l.getD i d_Weather).1 - 0) = (l.getD i d_Weather).1 := by rw [w64_id (by omega) (by omega)]; omega
      have h1 : (l.getD i d_Weather).1 ≤ (l.getD t d_Weather).1 := by have := hw.1; rw [e] at this; exact this
      have := hR.inj (by omega) ht h1
      have := hR.inj ht (by omega) hw.2
      omega
    have hSO : impl_StormsOver l (l.getD i d_Weather).1 0 = some (true, true) := by
      rw [storms_eq l _ _ h]
      unfold SO
      rw [if_pos ⟨ha, by omega, by omega⟩, if_pos ((acK_iff l _ _ _).2 fun t ht hw => by
        rw [hin t ht hw.1] at hw
        have := (hcalm i (by omega) hij).1
        rw [this] at hw
        cases hw.2)]
      have : 0 < cnK l (l.getD i d_Weather).1 0 l.length := cnK_pos (i := i) (by
        refine ⟨?_, by omega⟩
        rw [w64_id (by omega) (by omega)]; omega) _ (by omega)
      rw [decide_eq_true this]
    unfold laws_FnCalm_loop1
    rw [cond_dt (by omega)]
    simp only [grd_pos hg, Int.toNat_natCast, hrow]
    rw [grd_pos (by simp), grd_pos (by simp), show (0 : Int).toNat = 0 from rfl, show (1 : Int).toNat = 1 from rfl]
    show (impl_StrongestWind l (l.getD i d_Weather).1 (l.getD j d_Weather).1).bind _ = _
    rw [hSW, Option.bind_some, grd_pos (by simp)]
    show (impl_StormsOver l (l.getD i d_Weather).1 0).bind _ = _
    rw [hSO, Option.bind_some]
    simp only [Bool.not_true, cond_false]
    rw [cond_df (by omega), w64_nat (by omega)]) (by
    show laws_FnCalm_loop1 m sp (sp.length : Int) l = _
    unfold laws_FnCalm_loop1
    rw [cond_df (by omega)]) rfl
theorem loop1_nil (l : List Weather) (m : Int) : iter (fun s => laws_FnCalm_loop1 s.1 s.2.1 s.2.2.1 s.2.2.2) (m, ([] : List (List Int)), (0 : Int), l) = some (Sum.inr ()) :=
  iter_out (by
    show laws_FnCalm_loop1 m [] (0 : Int) l = _
    unfold laws_FnCalm_loop1
    rw [cond_df (by simp)])
theorem loop2_eq (l : List Weather) (m s : Int) (h : l.length ≤ 1048576) : iter (fun x => laws_FnCalm_loop2 x.1 x.2.1 x.2.2.1 x.2.2.2.1 x.2.2.2.2) (m, s, (SO l m s).1, (0 : Int), l) = some (Sum.inr ()) := by
  cases ha : (SO l m s).1
  · refine iter_out ?_
    show laws_FnCalm_loop2 m s false (0 : Int) l = _
    unfold laws_FnCalm_loop2
    cases decide ((0 : Int) < (l.length : Int)) <;> rfl
  · have hac : acK l m s l.length = true := by
      unfold SO at ha
      split at ha
      · split at ha
        · assumption
        · cases ha
      · cases ha
    have hno := (acK_iff l m s _).1 hac
    refine iter_for l.length (fun k => (m, s, true, (k : Int), l)) (fun k hk => ?_) ?_ rfl
    · show laws_FnCalm_loop2 m s true (k : Int) l = _
      have hg : 0 ≤ (k : Int) ∧ (k : Int) < (l.length : Int) := by omega
      unfold laws_FnCalm_loop2
      rw [cond_dt (by omega)]
      simp only [grd_pos hg, Int.toNat_natCast, cond_true]
      rw [w64_nat (by omega)]
      cases hs : (l.getD k d_Weather).2.2.2.2.1
      · rfl
      · simp only [cond_true]
        by_cases h1 : (l.getD k d_Weather).1 ≤ m
        · rw [cond_dt h1]
          by_cases h2 : w64 (m - s) ≤ (l.getD k d_Weather).1
          · exact absurd ⟨⟨h2, h1⟩, hs⟩ (hno k hk)
          · rw [cond_df h2]
        · rw [cond_df h1]
    · show laws_FnCalm_loop2 m s true (l.length : Int) l = _
      unfold laws_FnCalm_loop2
      rw [cond_df (by omega)]
theorem loop3_no (l : List Weather) (a b c d : Int) (e : Bool) : iter (fun s => laws_FnCalm_loop3 s.1 s.2.1 s.2.2.1 s.2.2.2.1 s.2.2.2.2.1 s.2.2.2.2.2.1 s.2.2.2.2.2.2.1 s.2.2.2.2.2.2.2) (false, (0 : Int), l, a, b, c, d, e) = some (Sum.inr l) := by
  refine iter_out ?_
  show laws_FnCalm_loop3 false (0 : Int) l a b c d e = _
  unfold laws_FnCalm_loop3
  cases decide ((0 : Int) < (l.length : Int)) <;> rfl
theorem loop3_yes {l : List Weather} (hR : Rec l) (h : l.length ≤ 1048576) (h0 : 0 < l.length) (w q : Int) (e : Bool) : iter (fun s => laws_FnCalm_loop3 s.1 s.2.1 s.2.2.1 s.2.2.2.1 s.2.2.2.2.1 s.2.2.2.2.2.1 s.2.2.2.2.2.2.1 s.2.2.2.2.2.2.2) (true, (0 : Int), l, (cold l l.length).1, w, q, (cold l l.length).2.2.2.1, e) = some (Sum.inr l) := by
  obtain ⟨h1, h2⟩ := coK_inv l l.length
  refine iter_for l.length (fun k => (true, (k : Int), l, (cold l l.length).1, w, q, (cold l l.length).2.2.2.1, e)) (fun k hk => ?_) ?_ rfl
  · show laws_FnCalm_loop3 true (k : Int) l (cold l l.length).1 w q (cold l l.length).2.2.2.1 e = _
    have hg : 0 ≤ (k : Int) ∧ (k : Int) < (l.length : Int) := by omega
    obtain ⟨h3, h4⟩ := h2 k hk
    unfold laws_FnCalm_loop3
    rw [cond_dt (by omega)]
    simp only [grd_pos hg, Int.toNat_natCast, cond_true]
    rw [w64_nat (by omega), cond_df (show ¬ (l.getD k d_Weather).2.2.2.1 < (cold l l.length).2.2.2.1 by show ¬ _ < (l.getD (coK l l.length) d_Weather).2.2.2.1; omega)]
    by_cases h5 : (l.getD k d_Weather).2.2.2.1 = (cold l l.length).2.2.2.1
    · rw [cond_dt h5]
      have h6 := h4 h5
      have h7 : ¬ (l.getD k d_Weather).1 < (cold l l.length).1 := by
        by_cases e6 : coK l l.length = k
        · show ¬ _ < (l.getD (coK l l.length) d_Weather).1
          rw [e6]; omega
        · have := hR.up (coK l l.length) k (by omega) hk
          show ¬ _ < (l.getD (coK l l.length) d_Weather).1
          omega
      rw [cond_df h7]
    · rw [cond_df h5]
  · show laws_FnCalm_loop3 true (l.length : Int) l (cold l l.length).1 w q (cold l l.length).2.2.2.1 e = _
    unfold laws_FnCalm_loop3
    rw [cond_df (by omega)]
/-! ## The law -/
theorem law_FnCalm (code : List Int) (hc : Ty.fit (.sl (.int .u8)) code) : laws_FnCalm code = some true := by
  have hl : code.length ≤ 1048576 := hc.1
  have hb : ∀ x ∈ code, 0 ≤ x ∧ x ≤ 255 := fun x hx => by
    have := hc.2 x hx
    exact this
  unfold laws_FnCalm laws_rBig
  simp only [Option.bind_some]
  by_cases hbig : (65536 : Int) < (code.length : Int)
  · rw [cond_dt hbig]
  rw [cond_df hbig]
  obtain ⟨l, m, el, ll⟩ := drawCalm_ok code hb hl
  obtain ⟨u, um, us, eu, lu⟩ := drawStorms_ok code hb hl
  obtain ⟨v, ev, lv⟩ := drawCold_ok code hb hl
  have hll : l.length ≤ 1048576 := by omega
  have hlu : u.length ≤ 1048576 := by omega
  have hlv : v.length ≤ 1048576 := by omega
  have icyT : ∀ (x : Option (Tg 2 × List Int × Bool × List Weather)), (x = some (Tg.mk, [], false, v) ∧ spec_IcyMinutes v = some ([], false)) ∨ (x = some (Tg.mk, icK v v.length, true, v) ∧ spec_IcyMinutes v = some (icK v v.length, true)) →
      (x.bind fun z97 => ((spec_IcyMinutes z97.2.2.2).bind fun y98 => (cond (z97.2.2.1 == y98.2) ((laws_rInts z97.2.1 y98.1).bind fun y99 => (cond y99 ((some (decide ((z97.2.1.length : Int) ≤ (z97.2.2.2.length : Int))))) ((some false)))) ((some false))))) = some true := by
    rintro x (⟨rfl, e2⟩ | ⟨rfl, e2⟩)
    · simp only [Option.bind_some, e2, beq_self_eq_true, cond_true]
      rw [rInts_eq [] (by simp), Option.bind_some, cond_true, decide_eq_true (by simp)]
    · have := icK_len v v.length
      simp only [Option.bind_some, e2, beq_self_eq_true, cond_true]
      rw [rInts_eq _ (by omega), Option.bind_some, cond_true, decide_eq_true (by omega)]
  have icyQ : ((impl_IcyMinutes v).bind (Sum.elim (fun _ => (some ((Tg.mk : Tg 2), ([] : List Int), false, v))) (fun y96 => (some ((Tg.mk : Tg 2), y96, true, v)))) = some (Tg.mk, [], false, v) ∧ spec_IcyMinutes v = some ([], false)) ∨
      ((impl_IcyMinutes v).bind (Sum.elim (fun _ => (some ((Tg.mk : Tg 2), ([] : List Int), false, v))) (fun y96 => (some ((Tg.mk : Tg 2), y96, true, v)))) = some (Tg.mk, icK v v.length, true, v) ∧ spec_IcyMinutes v = some (icK v v.length, true)) := by
    rcases icyM_eq v hlv with ⟨e1, e2⟩ | ⟨e1, e2⟩
    · exact .inl ⟨by rw [e1]; rfl, e2⟩
    · exact .inr ⟨by rw [e1]; rfl, e2⟩
  have tail := icyT _ icyQ
  rw [el, Option.bind_some]
  have hstorm := storms_eq u um us hlu
  have hstorm2 := storms_spec u um us hlu
  have hloop2 := loop2_eq u um us hlu
  rcases calmSpans_eq l m hll with ⟨e1, e2⟩ | ⟨hR, hm, ha, e1, e2⟩
  · simp only [e1, e2, Option.bind_some, Sum.elim_inl, Sum.elim_inr, beq_self_eq_true, Bool.not_true, cond_false, rTable_eq [] (by simp) (by simp), loop1_nil, eu, hstorm, hstorm2, hloop2, ev]
    rcases coldest_eq v hlv with ⟨c1, c2⟩ | ⟨vR, v0, c1, c2⟩
    · simp only [c1, c2, Option.bind_some, decide_true, Bool.and_true, Bool.not_true, cond_false, beq_self_eq_true, loop3_no, Sum.elim_inr]
      exact tail
    · simp only [c1, c2, Option.bind_some, decide_true, Bool.and_true, Bool.not_true, cond_false, beq_self_eq_true, loop3_yes vR hlv v0, Sum.elim_inr]
      exact tail
  · obtain ⟨k1, k2, _⟩ := csK_inv l m l.length
    simp only [e1, e2, Option.bind_some, Sum.elim_inr, beq_self_eq_true, Bool.not_true, cond_false, rTable_eq (csK l m l.length).2 (by omega) (fun r hr => by have := (k2 r hr).len; omega), loop1_eq hR hm ha hll (csK l m l.length).2 (by omega) k2, eu, hstorm, hstorm2, hloop2, ev]
    rcases coldest_eq v hlv with ⟨c1, c2⟩ | ⟨vR, v0, c1, c2⟩
    · simp only [c1, c2, Option.bind_some, decide_true, Bool.and_true, Bool.not_true, cond_false, beq_self_eq_true, loop3_no, Sum.elim_inr]
      exact tail
    · simp only [c1, c2, Option.bind_some, decide_true, Bool.and_true, Bool.not_true, cond_false, beq_self_eq_true, loop3_yes vR hlv v0, Sum.elim_inr]
      exact tail
end Go.Proofs.Ytaajchikfgbecaa
