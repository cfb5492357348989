/-
  The law FnInspections in plain Lean.
-/
import Derived.Test.YtpmmaohaahbphaaDoorI76
namespace Go.Proofs.YtpmmaohaahbphaaDoor
open Go.RowKit

theorem text_part (code : List Int) (hb : ∀ x ∈ code, 0 ≤ x ∧ x ≤ 255) (hl : code.length ≤ 1048576) :
    ((spec_DrawConditionText code).bind fun y94 => ((impl_ConditionText (y94.1.1, y94.1.2.1, y94.1.2.2.1, y94.1.2.2.2.1, y94.1.2.2.2.2.1, ()) y94.2).bind fun y95 => ((spec_ConditionText (y94.1.1, y94.1.2.1, y94.1.2.2.1, y94.1.2.2.2.1, y94.1.2.2.2.2.1, ()) y94.2).bind fun y96 => (cond (!decide (y95.1 = y96.1)) ((some false)) (cond (!(y95.2 == y96.2)) ((some false)) (cond y95.2 (((impl_UnmetOn [(y94.1.1, y94.1.2.1, y94.1.2.2.1, y94.1.2.2.2.1, y94.1.2.2.2.2.1, ())] y94.2).bind (Sum.elim (fun _ => (some ((Tg.mk : Tg 3), y95.1, [], false, y94.1.1, y94.1.2.1, y94.1.2.2.1, y94.1.2.2.2.1, y94.1.2.2.2.2.1))) (fun y99 => (some ((Tg.mk : Tg 3), y95.1, y99, true, y94.1.1, y94.1.2.1, y94.1.2.2.1, y94.1.2.2.2.1, y94.1.2.2.2.2.1))))).bind fun z100 => (cond (!z100.2.2.2.1) ((some false)) (grd (0 ≤ (w64 ((z100.2.1.size : Int) - (7 : Int))) ∧ (w64 ((z100.2.1.size : Int) - (7 : Int))) ≤ (z100.2.1.size : Int) ∧ (z100.2.1.size : Int) ≤ (z100.2.1.size : Int)) (cond (!((decide ((z100.2.2.1.length : Int) = (1 : Int))) == (decide ((bsub z100.2.1 (w64 ((z100.2.1.size : Int) - (7 : Int))) (z100.2.1.size : Int)) = (ByteArray.mk #[110, 111, 116, 32, 109, 101, 116]))))) ((some false)) ((impl_IsCondition (z100.2.2.2.2.1, z100.2.2.2.2.2.1, z100.2.2.2.2.2.2.1, z100.2.2.2.2.2.2.2.1, z100.2.2.2.2.2.2.2.2, ())).bind fun y101 => ((spec_IsCondition (z100.2.2.2.2.1, z100.2.2.2.2.2.1, z100.2.2.2.2.2.2.1, z100.2.2.2.2.2.2.2.1, z100.2.2.2.2.2.2.2.2, ())).bind fun y102 => (some (y101 == y102)))))))) ((impl_IsCondition (y94.1.1, y94.1.2.1, y94.1.2.2.1, y94.1.2.2.2.1, y94.1.2.2.2.2.1, ())).bind fun y103 => ((spec_IsCondition (y94.1.1, y94.1.2.1, y94.1.2.2.1, y94.1.2.2.2.1, y94.1.2.2.2.2.1, ())).bind fun y104 => (some (y103 == y104)))))))))) = some true := by
  obtain ⟨x, day, e, hs, hd⟩ := drawText_ok code hb hl
  have hsz : x.2.1.size ≤ 100 := hs
  rw [e]
  simp only [Option.bind_some, eta_c]
  rcases condText x day (by omega) with ⟨h1, h2, e1, e2⟩ | ⟨_, e1, e2⟩
  · obtain ⟨t1, t2, t3⟩ := tx_tail x day h1 hs
    have hw : w64 (((bs (txC x day)).size : Int) - (7 : Int)) = ((bs (txC x day)).size : Int) - 7 := w64_id (by omega) (by omega)
    rw [e1, e2]
    simp only [Option.bind_some, decide_true, Bool.not_true, cond_false, cond_true, beq_self_eq_true, unmet_one hs h1 h2, Sum.elim_inr, eta_c, isCond_eq x (show x.2.1.size ≤ 1000000000 by omega), specIs_eq x (show x.2.1.size ≤ 1000000000 by omega), t3]
    rw [grd_pos (by rw [hw]; omega)]
    by_cases hm : endC x < day
    · rw [if_pos hm, decide_eq_true hm]; rfl
    · rw [if_neg hm, decide_eq_false hm]; rfl
  · rw [e1, e2]
    simp only [Option.bind_some, decide_true, Bool.not_true, cond_false, beq_self_eq_true, isCond_eq x (show x.2.1.size ≤ 1000000000 by omega), specIs_eq x (show x.2.1.size ≤ 1000000000 by omega)]
theorem add_part (code : List Int) (hb : ∀ x ∈ code, 0 ≤ x ∧ x ≤ 255) (hl : code.length ≤ 1048576) :
    ((spec_DrawAddCondition code).bind fun y87 => (((impl_AddCondition y87.1 (y87.2.1, y87.2.2.1, y87.2.2.2.1, y87.2.2.2.2.1, y87.2.2.2.2.2.1, ())).bind (Sum.elim (fun y89 => (some ((Tg.mk : Tg 2), [], false, y89, y87.2.1, y87.2.2.1, y87.2.2.2.1, y87.2.2.2.2.1, y87.2.2.2.2.2.1))) (fun y90 => (some ((Tg.mk : Tg 2), y90.1, true, y90.2, y87.2.1, y87.2.2.1, y87.2.2.2.1, y87.2.2.2.2.1, y87.2.2.2.2.2.1))))).bind fun z91 => ((spec_AddCondition z91.2.2.2.1 (z91.2.2.2.2.1, z91.2.2.2.2.2.1, z91.2.2.2.2.2.2.1, z91.2.2.2.2.2.2.2.1, z91.2.2.2.2.2.2.2.2, ())).bind fun y92 => (cond (!(z91.2.2.1 == y92.2)) ((some false)) ((laws_rConditions z91.2.1 y92.1).bind fun y93 => (cond (!y93) ((some false)) ((spec_DrawConditionText code).bind fun y94 => ((impl_ConditionText (y94.1.1, y94.1.2.1, y94.1.2.2.1, y94.1.2.2.2.1, y94.1.2.2.2.2.1, ()) y94.2).bind fun y95 => ((spec_ConditionText (y94.1.1, y94.1.2.1, y94.1.2.2.1, y94.1.2.2.2.1, y94.1.2.2.2.2.1, ()) y94.2).bind fun y96 => (cond (!decide (y95.1 = y96.1)) ((some false)) (cond (!(y95.2 == y96.2)) ((some false)) (cond y95.2 (((impl_UnmetOn [(y94.1.1, y94.1.2.1, y94.1.2.2.1, y94.1.2.2.2.1, y94.1.2.2.2.2.1, ())] y94.2).bind (Sum.elim (fun _ => (some ((Tg.mk : Tg 3), y95.1, [], false, y94.1.1, y94.1.2.1, y94.1.2.2.1, y94.1.2.2.2.1, y94.1.2.2.2.2.1))) (fun y99 => (some ((Tg.mk : Tg 3), y95.1, y99, true, y94.1.1, y94.1.2.1, y94.1.2.2.1, y94.1.2.2.2.1, y94.1.2.2.2.2.1))))).bind fun z100 => (cond (!z100.2.2.2.1) ((some false)) (grd (0 ≤ (w64 ((z100.2.1.size : Int) - (7 : Int))) ∧ (w64 ((z100.2.1.size : Int) - (7 : Int))) ≤ (z100.2.1.size : Int) ∧ (z100.2.1.size : Int) ≤ (z100.2.1.size : Int)) (cond (!((decide ((z100.2.2.1.length : Int) = (1 : Int))) == (decide ((bsub z100.2.1 (w64 ((z100.2.1.size : Int) - (7 : Int))) (z100.2.1.size : Int)) = (ByteArray.mk #[110, 111, 116, 32, 109, 101, 116]))))) ((some false)) ((impl_IsCondition (z100.2.2.2.2.1, z100.2.2.2.2.2.1, z100.2.2.2.2.2.2.1, z100.2.2.2.2.2.2.2.1, z100.2.2.2.2.2.2.2.2, ())).bind fun y101 => ((spec_IsCondition (z100.2.2.2.2.1, z100.2.2.2.2.2.1, z100.2.2.2.2.2.2.1, z100.2.2.2.2.2.2.2.1, z100.2.2.2.2.2.2.2.2, ())).bind fun y102 => (some (y101 == y102)))))))) ((impl_IsCondition (y94.1.1, y94.1.2.1, y94.1.2.2.1, y94.1.2.2.2.1, y94.1.2.2.2.2.1, ())).bind fun y103 => ((spec_IsCondition (y94.1.1, y94.1.2.1, y94.1.2.2.1, y94.1.2.2.2.1, y94.1.2.2.2.2.1, ())).bind fun y104 => (some (y103 == y104)))))))))))))))) = some true := by
  rw [text_part code hb hl]
  obtain ⟨l, c, e, hL, hc⟩ := drawAdd_ok code hb hl
  rw [e]
  simp only [Option.bind_some, eta_c]
  rcases add_both hL hc with ⟨e1, e2⟩ | ⟨m, hm, e1, e2⟩
  · simp only [e1, e2, Option.bind_some, Sum.elim_inl, eta_c, beq_self_eq_true, Bool.not_true, cond_false, rConditions_eq [] (by simp)]
  · simp only [e1, e2, Option.bind_some, Sum.elim_inr, eta_c, beq_self_eq_true, Bool.not_true, cond_false, rConditions_eq m (by omega)]
theorem law_FnInspections (code : List Int) (hc : Ty.fit (.sl (.int .u8)) code) : laws_FnInspections code = some true := by
  have hl : code.length ≤ 1048576 := hc.1
  have hb : ∀ x ∈ code, 0 ≤ x ∧ x ≤ 255 := fun x hx => by
    have := hc.2 x hx
    exact this
  unfold laws_FnInspections laws_rBig
  simp only [Option.bind_some]
  by_cases hbig : (65536 : Int) < (code.length : Int)
  · rw [cond_dt hbig]
  rw [cond_df hbig]
  rw [add_part code hb hl]
  obtain ⟨l, f, t, e, hL, hf, ht⟩ := drawPlan_ok code hb hl
  have h1000 : LC 1000 l := ⟨by have := hL.1; omega, hL.2⟩
  rw [e]
  simp only [Option.bind_some]
  rw [plan_impl h1000 (by omega) (by omega)]
  by_cases hok : goodL l = true ∧ (0 ≤ f ∧ f ≤ t) ∧ t ≤ 9999 ∧ t - f ≤ 400
  · rw [if_pos hok]
    obtain ⟨h1, h2, h3, h4⟩ := hok
    obtain ⟨g1, g2, g3⟩ := good_out h1
    have hs : spec_InspectionPlan l f t = some (specL l f (t - f + 1).toNat, true, l) := by rw [plan_spec h1000 (by omega) (by omega), if_pos ⟨h1, h2, h3, h4⟩]
    have hlen := specL_length g3 f (t - f + 1).toNat
    have hr : ∀ x ∈ specL l f (t - f + 1).toNat, ∃ d a, x = [d, a] ∧ f ≤ d ∧ d ≤ t := fun x hx => by
      obtain ⟨d, a, e, h1, h2⟩ := row_two x hx
      exact ⟨d, a, e, h1, by omega⟩
    rw [plan_eq g2 (fun r hr => (g1 r hr).every.1) (by omega)]
    simp only [Option.bind_some, Sum.elim_inr, hs, beq_self_eq_true, Bool.not_true, cond_false, rTable_eq _ (show (specL l f (t - f + 1).toNat).length ≤ 1048576 by omega) (fun x hx => by obtain ⟨d, a, e, _⟩ := row_two x hx; rw [e]; simp),
      lloop1 (by omega) hr (strict_specL g2 f _), lloop2 h1 h2 h3 h4]
  · rw [if_neg hok]
    have hs : spec_InspectionPlan l f t = some ([], false, l) := by rw [plan_spec h1000 (by omega) (by omega), if_neg hok]
    simp only [Option.bind_some, Sum.elim_inl, Sum.elim_inr, hs, beq_self_eq_true, Bool.not_true, cond_false, rTable_eq [] (by simp) (by simp), lloop1 (P := []) (f := f) (t := t) (l := l) (b := false) (by simp) (fun x hx => by cases hx) List.Pairwise.nil, lloop2_no]
end Go.Proofs.YtpmmaohaahbphaaDoor
