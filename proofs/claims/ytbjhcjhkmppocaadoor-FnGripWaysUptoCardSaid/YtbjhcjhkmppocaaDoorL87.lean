/-
  The law of the ways of a grip.
-/
import Derived.Test.YtbjhcjhkmppocaaDoorL86
namespace Go.Proofs.YtbjhcjhkmppocaaDoor
open Go.RowKit

theorem eta_g (g : GripState) : ((g.1, g.2.1, g.2.2.1, g.2.2.2.1, ()) : GripState) = g := rfl
theorem zone_zero (t : Int) (ht : t = 0 ∨ t = 2) (st z f n : Int) : (decide ((DD t (st, z, f, n, ()) : Int) = 0)) = decide (z = t) := by
  have h := DD_zero t ht (st, z, f, n, ())
  refine decide_eq_decide.2 ⟨fun e => h.1 (by omega), fun e => ?_⟩
  have := h.2 e
  omega
theorem drawDD (code : List Int) (st z f n : Int) (e : spec_DrawIsGripState code = some (st, z, f, n, ())) : spec_DrawStepsToRope code = some (st, z, f, n, ()) ∧ spec_DrawGripText code = some (st, z, f, n, ()) := by
  unfold spec_DrawStepsToRope spec_DrawGripText
  rw [e]
  exact ⟨rfl, rfl⟩
theorem partA (code : List Int) (hb : ∀ x ∈ code, 0 ≤ x ∧ x ≤ 255) (hl : code.length ≤ 1048576) : ((spec_DrawParseGrip code).bind fun y21 => ((impl_ParseGrip y21).bind fun y22 => ((impl_GripText (y22.1.1, y22.1.2.1, y22.1.2.2.1, y22.1.2.2.2.1, ())).bind fun y23 => ((spec_ParseGrip y21).bind fun y24 => (cond (decide (y22.1.1 = y24.1.1) && (decide (y22.1.2.1 = y24.1.2.1) && (decide (y22.1.2.2.1 = y24.1.2.2.1) && (decide (y22.1.2.2.2.1 = y24.1.2.2.2.1) && true)))) (cond (y22.2 == y24.2) (cond (!y22.2) ((some true)) (cond y23.2 ((some (decide (y23.1 = y21)))) ((some false)))) ((some false))) ((some false))))))) = some true := by
  obtain ⟨s, es, hs⟩ := drawParse_ok code hb hl
  rw [es, Option.bind_some]
  rcases parses s hs with ⟨st, z, f, hg, ht, e1, e2⟩ | ⟨e1, e2⟩
  · rw [e1, e2]
    simp only [Option.bind_some]
    rcases texts st z f 0 with ⟨_, t1, _⟩ | ⟨h, _⟩
    · rw [t1]
      simp only [Option.bind_some, decide_true, Bool.and_true, cond_true, beq_self_eq_true, Bool.not_true, cond_false, ht]
    · exact absurd hg h
  · rw [e1, e2]
    simp only [Option.bind_some]
    rcases texts 0 0 0 0 with ⟨_, t1, _⟩ | ⟨h, t1, _⟩
    · rw [t1]; rfl
    · rw [t1]; rfl
theorem partB (code : List Int) (hb : ∀ x ∈ code, 0 ≤ x ∧ x ≤ 255) (hl : code.length ≤ 1048576) (st z f n : Int) (e : spec_DrawGripText code = some (st, z, f, n, ())) : ((spec_DrawGripText code).bind fun y16 => ((impl_GripText (y16.1, y16.2.1, y16.2.2.1, y16.2.2.2.1, ())).bind fun y17 => ((impl_ParseGrip y17.1).bind fun y18 => (joinx ((spec_GripText (y16.1, y16.2.1, y16.2.2.1, y16.2.2.2.1, ())).bind fun y19 => (cond (!decide (y17.1 = y19.1)) (outm ((some false))) (cond (!(y17.2 == y19.2)) (outm ((some false))) (cond y17.2 (cond (!y18.2) (outm ((some false))) (cond (!(decide (y18.1.1 = y16.1) && (decide (y18.1.2.1 = y16.2.1) && (decide (y18.1.2.2.1 = y16.2.2.1) && (decide (y18.1.2.2.2.1 = (0 : Int)) && true))))) (outm ((some false))) ((some (.go ()))))) ((some (.go ()))))))) (fun (_ : Unit) => ((spec_DrawParseGrip code).bind fun y21 => ((impl_ParseGrip y21).bind fun y22 => ((impl_GripText (y22.1.1, y22.1.2.1, y22.1.2.2.1, y22.1.2.2.2.1, ())).bind fun y23 => ((spec_ParseGrip y21).bind fun y24 => (cond (decide (y22.1.1 = y24.1.1) && (decide (y22.1.2.1 = y24.1.2.1) && (decide (y22.1.2.2.1 = y24.1.2.2.1) && (decide (y22.1.2.2.2.1 = y24.1.2.2.2.1) && true)))) (cond (y22.2 == y24.2) (cond (!y22.2) ((some true)) (cond y23.2 ((some (decide (y23.1 = y21)))) ((some false)))) ((some false))) ((some false)))))))))))) = some true := by
  rw [e, Option.bind_some]
  dsimp only
  have hA := partA code hb hl
  rcases texts st z f n with ⟨hg, t1, t2⟩ | ⟨_, t1, t2⟩
  · rcases parses (txt st z f) (by have := txt_len hg; omega) with ⟨st', z', f', hg', ht, e1, _⟩ | ⟨e1, e2⟩
    · obtain ⟨q1, q2, q3⟩ := txt_inj hg' (GP_zero hg) ht
      rw [t1, t2]
      simp only [Option.bind_some]
      rw [e1]
      simp only [Option.bind_some, q1, q2, q3, decide_true, Bool.and_true, cond_true, beq_self_eq_true, Bool.not_true, cond_false, joinx_go]
      simp only [Bool.and_true] at hA
      exact hA
    · obtain ⟨a, b, c, i1, i2⟩ := impl_parse (txt st z f) (by have := txt_len hg; omega)
      obtain ⟨q1, q2, q3⟩ := i2 st z f (GP_zero hg) rfl
      rw [if_pos (by rw [q1, q2, q3]; exact ⟨GP_zero hg, rfl⟩)] at i1
      rw [i1] at e1
      exact absurd (Prod.mk.inj (Option.some.inj e1)).2 (by decide)
  · obtain ⟨a, b, c, i1, _⟩ := impl_parse [] (by simp)
    rw [t1, t2]
    simp only [Option.bind_some]
    rw [i1]
    simp only [Option.bind_some, decide_true, Bool.not_true, cond_false, beq_self_eq_true, joinx_go]
    exact hA
theorem partC (code : List Int) (hb : ∀ x ∈ code, 0 ≤ x ∧ x ≤ 255) (hl : code.length ≤ 1048576) (st z f n : Int) (e : spec_DrawGripText code = some (st, z, f, n, ())) : ((spec_DrawStepGrip code).bind fun y9 => (joinx ((impl_StepGrip (y9.1.1, y9.1.2.1, y9.1.2.2.1, y9.1.2.2.2.1, ()) (y9.2.1, y9.2.2.1, ())).bind fun y10 => (cond y10.2 ((impl_StepsToRope (y9.1.1, y9.1.2.1, y9.1.2.2.1, y9.1.2.2.2.1, ())).bind fun y11 => ((impl_StepsToRope (y10.1.1, y10.1.2.1, y10.1.2.2.1, y10.1.2.2.2.1, ())).bind fun y12 => ((impl_StepsHome (y9.1.1, y9.1.2.1, y9.1.2.2.1, y9.1.2.2.2.1, ())).bind fun y13 => ((impl_StepsHome (y10.1.1, y10.1.2.1, y10.1.2.2.1, y10.1.2.2.2.1, ())).bind fun y14 => (cond (!y11.2) (outm ((some false))) (cond (!y12.2) (outm ((some false))) (cond (decide ((w64 (y12.1 + (1 : Int))) < y11.1)) (outm ((some false))) (cond (!y13.2) (outm ((some false))) (cond (!y14.2) (outm ((some false))) (cond (decide ((w64 (y14.1 + (1 : Int))) < y13.1)) (outm ((some false))) ((some (.go ()))))))))))))) ((some (.go ()))))) (fun (_ : Unit) => ((spec_DrawGripText code).bind fun y16 => ((impl_GripText (y16.1, y16.2.1, y16.2.2.1, y16.2.2.2.1, ())).bind fun y17 => ((impl_ParseGrip y17.1).bind fun y18 => (joinx ((spec_GripText (y16.1, y16.2.1, y16.2.2.1, y16.2.2.2.1, ())).bind fun y19 => (cond (!decide (y17.1 = y19.1)) (outm ((some false))) (cond (!(y17.2 == y19.2)) (outm ((some false))) (cond y17.2 (cond (!y18.2) (outm ((some false))) (cond (!(decide (y18.1.1 = y16.1) && (decide (y18.1.2.1 = y16.2.1) && (decide (y18.1.2.2.1 = y16.2.2.1) && (decide (y18.1.2.2.2.1 = (0 : Int)) && true))))) (outm ((some false))) ((some (.go ()))))) ((some (.go ()))))))) (fun (_ : Unit) => ((spec_DrawParseGrip code).bind fun y21 => ((impl_ParseGrip y21).bind fun y22 => ((impl_GripText (y22.1.1, y22.1.2.1, y22.1.2.2.1, y22.1.2.2.2.1, ())).bind fun y23 => ((spec_ParseGrip y21).bind fun y24 => (cond (decide (y22.1.1 = y24.1.1) && (decide (y22.1.2.1 = y24.1.2.1) && (decide (y22.1.2.2.1 = y24.1.2.2.1) && (decide (y22.1.2.2.2.1 = y24.1.2.2.2.1) && true)))) (cond (y22.2 == y24.2) (cond (!y22.2) ((some true)) (cond y23.2 ((some (decide (y23.1 = y21)))) ((some false)))) ((some false))) ((some false))))))))))))))) = some true := by
  have hB := partB code hb hl st z f n e
  obtain ⟨st, z, f, n, k, v, es⟩ := drawStepGrip_ok code hb hl
  rw [es, Option.bind_some]
  dsimp only
  have hI : impl_StepGrip (st, z, f, n, ()) (k, v, ()) = some ((0, 0, 0, 0, ()), false) ∨ ∃ r, impl_StepGrip (st, z, f, n, ()) (k, v, ()) = some (r, true) ∧ GP st z f n ∧ Near (st, z, f, n, ()) r := by
    unfold impl_StepGrip
    dsimp only
    rw [isGrip_eq, Option.bind_some]
    by_cases hg : GP st z f n
    · rw [cond_ndt hg]
      obtain ⟨r, b, h1, _⟩ := step_ok st z f n k v hg
      rw [h1, Option.bind_some]
      cases b
      · exact .inl rfl
      · exact .inr ⟨r, rfl, hg, step_near st z f n k v hg r h1⟩
    · rw [cond_ndf hg]; exact .inl rfl
  rcases hI with e1 | ⟨r, e1, hg, hN⟩
  · rw [e1]
    simp only [Option.bind_some, cond_false, joinx_go]
    exact hB
  · have hgG : Good (st, z, f, n, ()) := hg
    have d2 := Near_DD hN 2
    have d0 := Near_DD hN 0
    have b1 := DD_le 2 r
    have b2 := DD_le 0 r
    rw [e1]
    simp only [Option.bind_some, cond_true, eta_g]
    rw [implRope_eq, implRope_eq, implHome_eq, implHome_eq, if_pos hgG, if_pos hN.1, if_pos hgG, if_pos hN.1]
    simp only [Option.bind_some, Bool.not_true, cond_false]
    rw [w64_id (x := (DD 2 r : Int) + 1) (by omega) (by omega), w64_id (x := (DD 0 r : Int) + 1) (by omega) (by omega), cond_df (by omega), cond_df (by omega), joinx_go]
    exact hB
theorem law_FnGripWays (code : List Int) (hc : Ty.fit (.sl (.int .u8)) code) : laws_FnGripWays code = some true := by
  have hl : code.length ≤ 1048576 := hc.1
  have hb : ∀ x ∈ code, 0 ≤ x ∧ x ≤ 255 := fun x hx => by
    have := hc.2 x hx
    exact this
  unfold laws_FnGripWays laws_vBig
  simp only [Option.bind_some]
  by_cases hbig : (65536 : Int) < (code.length : Int)
  · rw [cond_dt hbig]
  rw [cond_df hbig]
  obtain ⟨st, z, f, n, ei⟩ := drawIsGrip_ok code hb hl
  obtain ⟨er, et⟩ := drawDD code st z f n ei
  have hC := partC code hb hl st z f n et
  rw [er, Option.bind_some]
  dsimp only
  have z2 := zone_zero 2 (.inr rfl) st z f n
  have z0 := zone_zero 0 (.inl rfl) st z f n
  rw [implRope_eq, specRope_eq]
  by_cases hg : Good (st, z, f, n, ())
  · simp only [if_pos hg, Option.bind_some, decide_true, Bool.not_true, cond_false, cond_true, beq_self_eq_true]
    rw [cond_df (by omega), z2]
    simp only [beq_self_eq_true, Bool.not_true, cond_false, joinx_go]
    rw [implHome_eq, specHome_eq]
    simp only [if_pos hg, Option.bind_some, decide_true, Bool.not_true, cond_false, cond_true, beq_self_eq_true]
    rw [cond_df (by omega), z0]
    simp only [beq_self_eq_true, Bool.not_true, cond_false, joinx_go]
    exact hC
  · simp only [if_neg hg, Option.bind_some, decide_true, Bool.not_true, cond_false, beq_self_eq_true, joinx_go]
    rw [implHome_eq, specHome_eq]
    simp only [if_neg hg, Option.bind_some, decide_true, Bool.not_true, cond_false, beq_self_eq_true, joinx_go]
    exact hC
end Go.Proofs.YtbjhcjhkmppocaaDoor
