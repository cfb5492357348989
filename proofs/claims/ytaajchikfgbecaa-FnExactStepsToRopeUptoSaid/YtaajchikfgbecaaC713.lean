/-
  Contracts, printed by a program.
-/
import Derived.Test.YtaajchikfgbecaaC712
namespace Go.Proofs.Ytaajchikfgbecaa
open Go.RowKit
attribute [local irreducible] Ob loopwp Sub Spec Fin Again CallW CutC KOb iter joinx outm

attribute [local irreducible] laws_toGripState spec_l1In spec_l21Good spec_l21Try spec_l1Least spec_l21Move spec_l21Make spec_l21In spec_l21To spec_StepsHome impl_within impl_IsGripState impl_GripState_step impl_GripState_someSteps

noncomputable def impl_GripState_stepsTo_loop3 (v126 : (List GripState)) (v164 : Int) (v177 : Int) (v178 : Int) (v179 : (List GripState)) (v180 : (List GripState)) (v181 : (List GripStep)) : Option (Lp (Int × Int × (List GripState) × (List GripState) × (List GripStep)) (((List GripState) × (List GripState)))) :=
  (cond (decide (v178 < v177)) (grd (0 ≤ v178 ∧ v178 < (v181.length : Int)) ((impl_GripState_step ((v126.getD v164.toNat d_GripState).1, (v126.getD v164.toNat d_GripState).2.1, (v126.getD v164.toNat d_GripState).2.2.1, (v126.getD v164.toNat d_GripState).2.2.2.1, ()) ((v181.getD v178.toNat d_GripStep).1, (v181.getD v178.toNat d_GripStep).2.1, ())).bind fun y182 => (cond (!(hasK ty_GripState (y182.1.1, y182.1.2.1, y182.1.2.2.1, y182.1.2.2.2.1, ()) v179)) (grd (v180.length + [(y182.1.1, y182.1.2.1, y182.1.2.2.1, y182.1.2.2.2.1, ())].length ≤ 140737488355328 / 32 ∧ v180.length + [(y182.1.1, y182.1.2.1, y182.1.2.2.1, y182.1.2.2.2.1, ())].length ≤ 140737488355328) (some (.go (v177, (w64 (v178 + (1 : Int))), (insK ty_GripState (y182.1.1, y182.1.2.1, y182.1.2.2.1, y182.1.2.2.2.1, ()) v179), (v180 ++ [(y182.1.1, y182.1.2.1, y182.1.2.2.1, y182.1.2.2.2.1, ())]), v181)))) (some (.go (v177, (w64 (v178 + (1 : Int))), v179, v180, v181)))))) ((some (.out (v179, v180)))))
noncomputable def impl_GripState_stepsTo_loop2 (a1 : Int) (v126 : (List GripState)) (v164 : Int) (v165 : (List GripState)) (v166 : (List GripState)) : Option (Lp (Int × (List GripState) × (List GripState)) ((Unit) ⊕ ((List GripState) × (List GripState)))) :=
  (cond (decide (v164 < (v126.length : Int))) (grd (0 ≤ v164 ∧ v164 < (v126.length : Int)) (cond (decide (((v126.getD v164.toNat d_GripState).2.1) = a1)) ((some (.out (Sum.inl ())))) ((impl_GripState_someSteps ((v126.getD v164.toNat d_GripState).1, (v126.getD v164.toNat d_GripState).2.1, (v126.getD v164.toNat d_GripState).2.2.1, (v126.getD v164.toNat d_GripState).2.2.2.1, ())).bind fun y167 => ((iter (fun s => impl_GripState_stepsTo_loop3 v126 v164 s.1 s.2.1 s.2.2.1 s.2.2.2.1 s.2.2.2.2) ((y167.length : Int), (0 : Int), v165, v166, y167)).bind (fun r183 => (some (.go ((w64 (v164 + (1 : Int))), r183.1, r183.2)))))))) ((some (.out (Sum.inr (v165, v166))))))
noncomputable def impl_GripState_stepsTo_loop1 (a1 : Int) (v124 : Int) (v125 : (List GripState)) (v126 : (List GripState)) : Option (Lp (Int × (List GripState) × (List GripState)) ((Int) ⊕ (Unit))) :=
  (cond (decide ((0 : Int) < (v126.length : Int))) ((iter (fun s => impl_GripState_stepsTo_loop2 a1 v126 s.1 s.2.1 s.2.2) ((0 : Int), v125, ([] : List GripState))).bind (Sum.elim (fun _ => (some (.out (Sum.inl v124)))) (fun r186 => (some (.go ((w64 (v124 + (1 : Int))), r186.1, r186.2)))))) ((some (.out (Sum.inr ())))))
noncomputable def impl_GripState_stepsTo (a0 : GripState) (a1 : Int) : Option (Int × Bool) :=
  ((iter (fun s => impl_GripState_stepsTo_loop1 a1 s.1 s.2.1 s.2.2) ((0 : Int), (insK ty_GripState (a0.1, a0.2.1, a0.2.2.1, a0.2.2.2.1, ()) ([] : List GripState)), [(a0.1, a0.2.1, a0.2.2.1, a0.2.2.2.1, ())])).bind (Sum.elim (fun r188 => (some (r188, true))) (fun _ => (some ((0 : Int), false)))))
def impl_GripState_stepsTo.res (_ : GripState) (_ : Int) (y : Int × Bool) : AV := (.tup [(.v (.int .i64 y.1)), (.bl y.2)])
def impl_GripState_stepsTo.out (_ : GripState) (_ : Int) (_ : Int × Bool) : List (Option LB) := []
def impl_GripState_stepsTo.S (ar : List AV) (h : List (Option LB)) (r : AV) (h1 : List (Option LB)) : Prop := ∃ a0 a1 y, impl_GripState_stepsTo a0 a1 = some y ∧ leL ar [(.agg [(.v (.int .i64 a0.1)), (.v (.int .i64 a0.2.1)), (.v (.int .i64 a0.2.2.1)), (.v (.int .i64 a0.2.2.2.1))]), (.v (.int .i64 a1))] ∧ leH h [] ∧ r = impl_GripState_stepsTo.res a0 a1 y ∧ h1 = impl_GripState_stepsTo.out a0 a1 y
theorem impl_GripState_stepsTo.call {ar : List AV} {h : List (Option LB)} {a0 : GripState} {a1 : Int} {y : Int × Bool} (H : impl_GripState_stepsTo a0 a1 = some y) (h0 : leLk ar [(.agg [(.v (.int .i64 a0.1)), (.v (.int .i64 a0.2.1)), (.v (.int .i64 a0.2.2.1)), (.v (.int .i64 a0.2.2.2.1))]), (.v (.int .i64 a1))] (leHk h [])) : impl_GripState_stepsTo.S ar h (impl_GripState_stepsTo.res a0 a1 y) (impl_GripState_stepsTo.out a0 a1 y) := ⟨a0, a1, y, H, (args_ok h0).1, (args_ok h0).2, rfl, rfl⟩
set_option maxHeartbeats 100000000 in
set_option maxRecDepth 100000 in
theorem impl_GripState_stepsTo.spec (a0 : GripState) (a1 : Int) (y : Int × Bool) (H : impl_GripState_stepsTo a0 a1 = some y) : Spec Try.prog 59 [(.agg [(.v (.int .i64 a0.1)), (.v (.int .i64 a0.2.1)), (.v (.int .i64 a0.2.2.1)), (.v (.int .i64 a0.2.2.2.1))]), (.v (.int .i64 a1))] [] (impl_GripState_stepsTo.res a0 a1 y) (impl_GripState_stepsTo.out a0 a1 y) := by
  refine spec_intro (G14_ok.at tok []) (ct := [(12, some [1, 6, 8, 9, 11, 27, 28, 29, 39, 40, 41]), (16, some [1, 6, 8, 9, 11, 14, 27, 28, 29, 39, 40, 41, 54])]) Try.func59 rfl (by kernel_rfl) (by kernel_rfl) rfl ?_
  repeat' first
    | ((with_reducible refine eqg ?_); exact rfl)
    | ((with_reducible refine KOb.mk ?_); kernel_rfl)
    | ((with_reducible intro h); (repeat (first | replace H := grd_k H | replace H := out_step H (by assumption))); first | replace H := cond_t h H | replace H := cond_f h H | exact absurd h (by decide) | skip)
    | ((with_reducible refine Ob.mk ?_); first | (with_reducible rfl) | (first | ((repeat (first | (with_reducible exact grd_p H) | (replace H := grd_k H) | (replace H := out_step H (by assumption)))); done) | rfl | ((repeat (first | exact grd_p H | replace H := grd_k H | replace H := out_step H (by assumption))); done) | ((repeat (first | exact grd_p H | (have hp := grd_p H; exact hp) | replace H := grd_k H | replace H := out_step H (by assumption) | (replace H := bind_some H; obtain ⟨_, _, H⟩ := H))); done) | (repeat (first | exact grd_p H | replace H := grd_k H | replace H := out_step H (by assumption)))))
    | (with_reducible exact True.intro)
    | ((conv => whnf); first
        | (with_reducible refine And.intro ?_ ?_)
        | (with_reducible exact True.intro)
        | ((with_reducible refine Ob.mk ?_); first | (with_reducible rfl) | (first | ((repeat (first | (with_reducible exact grd_p H) | (replace H := grd_k H) | (replace H := out_step H (by assumption)))); done) | rfl | ((repeat (first | exact grd_p H | replace H := grd_k H | replace H := out_step H (by assumption))); done) | ((repeat (first | exact grd_p H | (have hp := grd_p H; exact hp) | replace H := grd_k H | replace H := out_step H (by assumption) | (replace H := bind_some H; obtain ⟨_, _, H⟩ := H))); done) | (repeat (first | exact grd_p H | replace H := grd_k H | replace H := out_step H (by assumption)))))
        | ((with_reducible refine CallW.mk ?_); (repeat (first | replace H := grd_k H | replace H := out_step H (by assumption))); replace H := bind_some H; obtain ⟨y, hy, H⟩ := H; first | ((with_reducible have hz : impl_GripState_someSteps _ = some y := hy); clear hz; refine Exists.intro _ (Exists.intro _ ⟨impl_GripState_someSteps.call hy ?_, rfl, rfl, ?_⟩)) | ((with_reducible have hz : impl_GripState_step _ _ = some y := hy); clear hz; refine Exists.intro _ (Exists.intro _ ⟨impl_GripState_step.call hy ?_, rfl, rfl, ?_⟩)))
        | ((repeat (first | replace H := grd_k H | replace H := out_step H (by assumption))); refine loop_iter (G14_ok.at tok []) (ct := [(12, some [1, 6, 8, 9, 11, 27, 28, 29, 39, 40, 41]), (16, some [1, 6, 8, 9, 11, 14, 27, 28, 29, 39, 40, 41, 54])]) (F := (fun s1 : Int × (List GripState) × (List GripState) => ⟨sl [(1, (.v (.int .i64 a1))), (6, (.own 0)), (7, (.own 1)), (8, (.v (.int .i64 s1.1)))], [some (.mp 94 ty_GripState s1.2.1), some (.arr 58 ty_GripState s1.2.2)]⟩)) (step := (fun s : Int × (List GripState) × (List GripState) => impl_GripState_stepsTo_loop1 _ s.1 s.2.1 s.2.2)) _ H (by kernel_rfl) (sub_auto ?_) ?_; rotate_left; (intro s1 r v hr H); rotate_right)
        | ((repeat (first | replace H := grd_k H | replace H := out_step H (by assumption))); refine loop_iter (G14_ok.at tok []) (ct := [(12, some [1, 6, 8, 9, 11, 27, 28, 29, 39, 40, 41]), (16, some [1, 6, 8, 9, 11, 14, 27, 28, 29, 39, 40, 41, 54])]) (F := (fun s2 : Int × (List GripState) × (List GripState) => ⟨sl [(1, (.v (.int .i64 a1))), (6, (.own 0)), (8, (.v (.int .i64 s1.1))), (9, (.own 1)), (27, (.own 2)), (28, (.v (.int .i64 (s1.2.2.length : Int)))), (29, (.v (.int .i64 s2.1)))], [some (.mp 94 ty_GripState s2.2.1), some (.arr 58 ty_GripState s2.2.2), some (.arr 58 ty_GripState s1.2.2)]⟩)) (step := (fun s : Int × (List GripState) × (List GripState) => impl_GripState_stepsTo_loop2 _ _ s.1 s.2.1 s.2.2)) _ H (by kernel_rfl) (sub_auto ?_) ?_; rotate_left; (intro s2 r v hr H); rotate_right)
        | ((repeat (first | replace H := grd_k H | replace H := out_step H (by assumption))); refine loop_iter (G14_ok.at tok []) (ct := [(12, some [1, 6, 8, 9, 11, 27, 28, 29, 39, 40, 41]), (16, some [1, 6, 8, 9, 11, 14, 27, 28, 29, 39, 40, 41, 54])]) (F := (fun s3 : Int × Int × (List GripState) × (List GripState) × (List GripStep) => ⟨sl [(1, (.v (.int .i64 a1))), (6, (.own 0)), (8, (.v (.int .i64 s1.1))), (9, (.own 1)), (11, (.loc 2 0 0)), (27, (.own 3)), (28, (.v (.int .i64 (s1.2.2.length : Int)))), (29, (.v (.int .i64 s2.1))), (39, (.own 4)), (40, (.v (.int .i64 s3.1))), (41, (.v (.int .i64 s3.2.1)))], [some (.mp 94 ty_GripState s3.2.2.1), some (.arr 58 ty_GripState s3.2.2.2.1), some (.box 58 [(.v (.int .i64 ((s1.2.2.getD s2.1.toNat d_GripState).1))), (.v (.int .i64 ((s1.2.2.getD s2.1.toNat d_GripState).2.1))), (.v (.int .i64 ((s1.2.2.getD s2.1.toNat d_GripState).2.2.1))), (.v (.int .i64 ((s1.2.2.getD s2.1.toNat d_GripState).2.2.2.1)))]), some (.arr 58 ty_GripState s1.2.2), some (.arr 91 ty_GripStep s3.2.2.2.2)]⟩)) (step := (fun s : Int × Int × (List GripState) × (List GripState) × (List GripStep) => impl_GripState_stepsTo_loop3 _ _ s.1 s.2.1 s.2.2.1 s.2.2.2.1 s.2.2.2.2)) _ H (by kernel_rfl) (sub_auto ?_) ?_; rotate_left; (intro s3 r v hr H); rotate_right)
        | ((repeat (first | replace H := grd_k H | replace H := out_step H (by assumption))); refine again_step H (by assumption) (sub_auto ?_))
        | ((with_reducible refine fin_mk ?_); (repeat (first | replace H := grd_k H | replace H := out_step H (by assumption))); have H := Option.some.inj H; subst H))
    | constructor
def G15 : Env := G14.add 59 [] impl_GripState_stepsTo.S
theorem G15_ok : EnvOk Try.prog G15 := G14_ok.add ent_59 fun ar h r h1 ⟨a0, a1, y, hy, e1, e2, e3, e4⟩ => by
  subst e3 e4; exact (impl_GripState_stepsTo.spec a0 a1 y hy).le e1 e2
attribute [local irreducible] impl_GripState_stepsTo

noncomputable def impl_StepsHome (a0 : GripState) : Option (Int × Bool) :=
  ((impl_IsGripState (a0.1, a0.2.1, a0.2.2.1, a0.2.2.2.1, ())).bind fun y1 => (cond (!y1) ((some ((0 : Int), false))) ((impl_GripState_stepsTo (a0.1, a0.2.1, a0.2.2.1, a0.2.2.2.1, ()) (0 : Int)).bind fun y2 => (some (y2.1, y2.2)))))
def impl_StepsHome.res (_ : GripState) (y : Int × Bool) : AV := (.tup [(.v (.int .i64 y.1)), (.bl y.2)])
def impl_StepsHome.out (_ : GripState) (_ : Int × Bool) : List (Option LB) := []
def impl_StepsHome.S (ar : List AV) (h : List (Option LB)) (r : AV) (h1 : List (Option LB)) : Prop := ∃ a0 y, impl_StepsHome a0 = some y ∧ leL ar [(.agg [(.v (.int .i64 a0.1)), (.v (.int .i64 a0.2.1)), (.v (.int .i64 a0.2.2.1)), (.v (.int .i64 a0.2.2.2.1))])] ∧ leH h [] ∧ r = impl_StepsHome.res a0 y ∧ h1 = impl_StepsHome.out a0 y
theorem impl_StepsHome.call {ar : List AV} {h : List (Option LB)} {a0 : GripState} {y : Int × Bool} (H : impl_StepsHome a0 = some y) (h0 : leLk ar [(.agg [(.v (.int .i64 a0.1)), (.v (.int .i64 a0.2.1)), (.v (.int .i64 a0.2.2.1)), (.v (.int .i64 a0.2.2.2.1))])] (leHk h [])) : impl_StepsHome.S ar h (impl_StepsHome.res a0 y) (impl_StepsHome.out a0 y) := ⟨a0, y, H, (args_ok h0).1, (args_ok h0).2, rfl, rfl⟩
set_option maxHeartbeats 100000000 in
set_option maxRecDepth 100000 in
theorem impl_StepsHome.spec (a0 : GripState) (y : Int × Bool) (H : impl_StepsHome a0 = some y) : Spec Try.prog 33 [(.agg [(.v (.int .i64 a0.1)), (.v (.int .i64 a0.2.1)), (.v (.int .i64 a0.2.2.1)), (.v (.int .i64 a0.2.2.2.1))])] [] (impl_StepsHome.res a0 y) (impl_StepsHome.out a0 y) := by
  refine spec_intro (G15_ok.at tok []) (ct := []) Try.func33 rfl (by kernel_rfl) (by kernel_rfl) rfl ?_
  repeat' first
    | ((with_reducible refine eqg ?_); exact rfl)
    | ((with_reducible refine KOb.mk ?_); kernel_rfl)
    | ((with_reducible intro h); (repeat (first | replace H := grd_k H | replace H := out_step H (by assumption))); first | replace H := cond_t h H | replace H := cond_f h H | exact absurd h (by decide) | skip)
    | ((with_reducible refine Ob.mk ?_); first | (with_reducible rfl) | (first | ((repeat (first | (with_reducible exact grd_p H) | (replace H := grd_k H) | (replace H := out_step H (by assumption)))); done) | rfl | ((repeat (first | exact grd_p H | replace H := grd_k H | replace H := out_step H (by assumption))); done) | ((repeat (first | exact grd_p H | (have hp := grd_p H; exact hp) | replace H := grd_k H | replace H := out_step H (by assumption) | (replace H := bind_some H; obtain ⟨_, _, H⟩ := H))); done) | (repeat (first | exact grd_p H | replace H := grd_k H | replace H := out_step H (by assumption)))))
    | (with_reducible exact True.intro)
    | ((conv => whnf); first
        | (with_reducible refine And.intro ?_ ?_)
        | (with_reducible exact True.intro)
        | ((with_reducible refine Ob.mk ?_); first | (with_reducible rfl) | (first | ((repeat (first | (with_reducible exact grd_p H) | (replace H := grd_k H) | (replace H := out_step H (by assumption)))); done) | rfl | ((repeat (first | exact grd_p H | replace H := grd_k H | replace H := out_step H (by assumption))); done) | ((repeat (first | exact grd_p H | (have hp := grd_p H; exact hp) | replace H := grd_k H | replace H := out_step H (by assumption) | (replace H := bind_some H; obtain ⟨_, _, H⟩ := H))); done) | (repeat (first | exact grd_p H | replace H := grd_k H | replace H := out_step H (by assumption)))))
        | ((with_reducible refine CallW.mk ?_); (repeat (first | replace H := grd_k H | replace H := out_step H (by assumption))); replace H := bind_some H; obtain ⟨y, hy, H⟩ := H; first | ((with_reducible have hz : impl_IsGripState _ = some y := hy); clear hz; refine Exists.intro _ (Exists.intro _ ⟨impl_IsGripState.call hy ?_, rfl, rfl, ?_⟩)) | ((with_reducible have hz : impl_GripState_stepsTo _ _ = some y := hy); clear hz; refine Exists.intro _ (Exists.intro _ ⟨impl_GripState_stepsTo.call hy ?_, rfl, rfl, ?_⟩)))
        | ((with_reducible refine fin_mk ?_); (repeat (first | replace H := grd_k H | replace H := out_step H (by assumption))); have H := Option.some.inj H; subst H))
    | constructor
def G16 : Env := G15.add 33 [] impl_StepsHome.S
theorem G16_ok : EnvOk Try.prog G16 := G15_ok.add ent_33 fun ar h r h1 ⟨a0, y, hy, e1, e2, e3, e4⟩ => by
  subst e3 e4; exact (impl_StepsHome.spec a0 y hy).le e1 e2
attribute [local irreducible] impl_StepsHome

noncomputable def laws_FnExactStepsHome (a0 : GripState) : Option (Bool) :=
  ((laws_toGripState (a0.1, a0.2.1, a0.2.2.1, a0.2.2.2.1, ())).bind fun y1 => ((spec_StepsHome (y1.1, y1.2.1, y1.2.2.1, y1.2.2.2.1, ())).bind fun y2 => ((laws_toGripState (a0.1, a0.2.1, a0.2.2.1, a0.2.2.2.1, ())).bind fun y3 => ((impl_StepsHome (y3.1, y3.2.1, y3.2.2.1, y3.2.2.2.1, ())).bind fun y4 => (cond (!decide (y4.1 = y2.1)) ((some false)) (cond (!(y4.2 == y2.2)) ((some false)) ((some true))))))))
def laws_FnExactStepsHome.res (_ : GripState) (y : Bool) : AV := (.bl y)
def laws_FnExactStepsHome.out (_ : GripState) (_ : Bool) : List (Option LB) := []
def laws_FnExactStepsHome.S (ar : List AV) (h : List (Option LB)) (r : AV) (h1 : List (Option LB)) : Prop := ∃ a0 y, laws_FnExactStepsHome a0 = some y ∧ leL ar [(.agg [(.v (.int .i64 a0.1)), (.v (.int .i64 a0.2.1)), (.v (.int .i64 a0.2.2.1)), (.v (.int .i64 a0.2.2.2.1))])] ∧ leH h [] ∧ r = laws_FnExactStepsHome.res a0 y ∧ h1 = laws_FnExactStepsHome.out a0 y
theorem laws_FnExactStepsHome.call {ar : List AV} {h : List (Option LB)} {a0 : GripState} {y : Bool} (H : laws_FnExactStepsHome a0 = some y) (h0 : leLk ar [(.agg [(.v (.int .i64 a0.1)), (.v (.int .i64 a0.2.1)), (.v (.int .i64 a0.2.2.1)), (.v (.int .i64 a0.2.2.2.1))])] (leHk h [])) : laws_FnExactStepsHome.S ar h (laws_FnExactStepsHome.res a0 y) (laws_FnExactStepsHome.out a0 y) := ⟨a0, y, H, (args_ok h0).1, (args_ok h0).2, rfl, rfl⟩
set_option maxHeartbeats 100000000 in
set_option maxRecDepth 100000 in
theorem laws_FnExactStepsHome.spec (a0 : GripState) (y : Bool) (H : laws_FnExactStepsHome a0 = some y) : Spec Try.prog 5 [(.agg [(.v (.int .i64 a0.1)), (.v (.int .i64 a0.2.1)), (.v (.int .i64 a0.2.2.1)), (.v (.int .i64 a0.2.2.2.1))])] [] (laws_FnExactStepsHome.res a0 y) (laws_FnExactStepsHome.out a0 y) := by
  refine spec_intro (G16_ok.at tok []) (ct := [(3, some [3, 4, 5, 6, 23, 24, 25])]) Try.func5 rfl (by kernel_rfl) (by kernel_rfl) rfl ?_
  repeat' first
    | ((with_reducible refine eqg ?_); exact rfl)
    | ((with_reducible refine KOb.mk ?_); kernel_rfl)
    | ((with_reducible intro h); (repeat (first | replace H := grd_k H | replace H := out_step H (by assumption))); first | replace H := cond_t h H | replace H := cond_f h H | exact absurd h (by decide) | skip)
    | ((with_reducible refine Ob.mk ?_); first | (with_reducible rfl) | (first | ((repeat (first | (with_reducible exact grd_p H) | (replace H := grd_k H) | (replace H := out_step H (by assumption)))); done) | rfl | ((repeat (first | exact grd_p H | replace H := grd_k H | replace H := out_step H (by assumption))); done) | ((repeat (first | exact grd_p H | (have hp := grd_p H; exact hp) | replace H := grd_k H | replace H := out_step H (by assumption) | (replace H := bind_some H; obtain ⟨_, _, H⟩ := H))); done) | (repeat (first | exact grd_p H | replace H := grd_k H | replace H := out_step H (by assumption)))))
    | (with_reducible exact True.intro)
    | ((conv => whnf); first
        | (with_reducible refine And.intro ?_ ?_)
        | (with_reducible exact True.intro)
        | ((with_reducible refine Ob.mk ?_); first | (with_reducible rfl) | (first | ((repeat (first | (with_reducible exact grd_p H) | (replace H := grd_k H) | (replace H := out_step H (by assumption)))); done) | rfl | ((repeat (first | exact grd_p H | replace H := grd_k H | replace H := out_step H (by assumption))); done) | ((repeat (first | exact grd_p H | (have hp := grd_p H; exact hp) | replace H := grd_k H | replace H := out_step H (by assumption) | (replace H := bind_some H; obtain ⟨_, _, H⟩ := H))); done) | (repeat (first | exact grd_p H | replace H := grd_k H | replace H := out_step H (by assumption)))))
        | ((with_reducible refine CallW.mk ?_); (repeat (first | replace H := grd_k H | replace H := out_step H (by assumption))); replace H := bind_some H; obtain ⟨y, hy, H⟩ := H; first | ((with_reducible have hz : laws_toGripState _ = some y := hy); clear hz; refine Exists.intro _ (Exists.intro _ ⟨laws_toGripState.call hy ?_, rfl, rfl, ?_⟩)) | ((with_reducible have hz : spec_StepsHome _ = some y := hy); clear hz; refine Exists.intro _ (Exists.intro _ ⟨spec_StepsHome.call hy ?_, rfl, rfl, ?_⟩)) | ((with_reducible have hz : impl_StepsHome _ = some y := hy); clear hz; refine Exists.intro _ (Exists.intro _ ⟨impl_StepsHome.call hy ?_, rfl, rfl, ?_⟩)))
        | ((with_reducible refine fin_mk ?_); (repeat (first | replace H := grd_k H | replace H := out_step H (by assumption))); have H := Option.some.inj H; subst H))
    | constructor
def G17 : Env := G16.add 5 [] laws_FnExactStepsHome.S
theorem G17_ok : EnvOk Try.prog G17 := G16_ok.add ent_5 fun ar h r h1 ⟨a0, y, hy, e1, e2, e3, e4⟩ => by
  subst e3 e4; exact (laws_FnExactStepsHome.spec a0 y hy).le e1 e2
attribute [local irreducible] laws_FnExactStepsHome

noncomputable def spec_StepsToRope (a0 : GripState) : Option (Int × Bool) :=
  ((spec_l21Good (a0.1, a0.2.1, a0.2.2.1, a0.2.2.2.1, ())).bind fun y1 => (cond (!y1) ((some ((0 : Int), false))) ((spec_l21To (a0.1, a0.2.1, a0.2.2.1, a0.2.2.2.1, ()) (2 : Int)).bind fun y2 => (some (y2, true)))))
def spec_StepsToRope.res (_ : GripState) (y : Int × Bool) : AV := (.tup [(.v (.int .i64 y.1)), (.bl y.2)])
def spec_StepsToRope.out (_ : GripState) (_ : Int × Bool) : List (Option LB) := []
def spec_StepsToRope.S (ar : List AV) (h : List (Option LB)) (r : AV) (h1 : List (Option LB)) : Prop := ∃ a0 y, spec_StepsToRope a0 = some y ∧ leL ar [(.agg [(.v (.int .i64 a0.1)), (.v (.int .i64 a0.2.1)), (.v (.int .i64 a0.2.2.1)), (.v (.int .i64 a0.2.2.2.1))])] ∧ leH h [] ∧ r = spec_StepsToRope.res a0 y ∧ h1 = spec_StepsToRope.out a0 y
theorem spec_StepsToRope.call {ar : List AV} {h : List (Option LB)} {a0 : GripState} {y : Int × Bool} (H : spec_StepsToRope a0 = some y) (h0 : leLk ar [(.agg [(.v (.int .i64 a0.1)), (.v (.int .i64 a0.2.1)), (.v (.int .i64 a0.2.2.1)), (.v (.int .i64 a0.2.2.2.1))])] (leHk h [])) : spec_StepsToRope.S ar h (spec_StepsToRope.res a0 y) (spec_StepsToRope.out a0 y) := ⟨a0, y, H, (args_ok h0).1, (args_ok h0).2, rfl, rfl⟩
set_option maxHeartbeats 100000000 in
set_option maxRecDepth 100000 in
theorem spec_StepsToRope.spec (a0 : GripState) (y : Int × Bool) (H : spec_StepsToRope a0 = some y) : Spec Try.prog 34 [(.agg [(.v (.int .i64 a0.1)), (.v (.int .i64 a0.2.1)), (.v (.int .i64 a0.2.2.1)), (.v (.int .i64 a0.2.2.2.1))])] [] (spec_StepsToRope.res a0 y) (spec_StepsToRope.out a0 y) := by
  refine spec_intro (G17_ok.at tok []) (ct := []) Try.func34 rfl (by kernel_rfl) (by kernel_rfl) rfl ?_
  repeat' first
    | ((with_reducible refine eqg ?_); exact rfl)
    | ((with_reducible refine KOb.mk ?_); kernel_rfl)
    | ((with_reducible intro h); (repeat (first | replace H := grd_k H | replace H := out_step H (by assumption))); first | replace H := cond_t h H | replace H := cond_f h H | exact absurd h (by decide) | skip)
    | ((with_reducible refine Ob.mk ?_); first | (with_reducible rfl) | (first | ((repeat (first | (with_reducible exact grd_p H) | (replace H := grd_k H) | (replace H := out_step H (by assumption)))); done) | rfl | ((repeat (first | exact grd_p H | replace H := grd_k H | replace H := out_step H (by assumption))); done) | ((repeat (first | exact grd_p H | (have hp := grd_p H; exact hp) | replace H := grd_k H | replace H := out_step H (by assumption) | (replace H := bind_some H; obtain ⟨_, _, H⟩ := H))); done) | (repeat (first | exact grd_p H | replace H := grd_k H | replace H := out_step H (by assumption)))))
    | (with_reducible exact True.intro)
    | ((conv => whnf); first
        | (with_reducible refine And.intro ?_ ?_)
        | (with_reducible exact True.intro)
        | ((with_reducible refine Ob.mk ?_); first | (with_reducible rfl) | (first | ((repeat (first | (with_reducible exact grd_p H) | (replace H := grd_k H) | (replace H := out_step H (by assumption)))); done) | rfl | ((repeat (first | exact grd_p H | replace H := grd_k H | replace H := out_step H (by assumption))); done) | ((repeat (first | exact grd_p H | (have hp := grd_p H; exact hp) | replace H := grd_k H | replace H := out_step H (by assumption) | (replace H := bind_some H; obtain ⟨_, _, H⟩ := H))); done) | (repeat (first | exact grd_p H | replace H := grd_k H | replace H := out_step H (by assumption)))))
        | ((with_reducible refine CallW.mk ?_); (repeat (first | replace H := grd_k H | replace H := out_step H (by assumption))); replace H := bind_some H; obtain ⟨y, hy, H⟩ := H; first | ((with_reducible have hz : spec_l21Good _ = some y := hy); clear hz; refine Exists.intro _ (Exists.intro _ ⟨spec_l21Good.call hy ?_, rfl, rfl, ?_⟩)) | ((with_reducible have hz : spec_l21To _ _ = some y := hy); clear hz; refine Exists.intro _ (Exists.intro _ ⟨spec_l21To.call hy ?_, rfl, rfl, ?_⟩)))
        | ((with_reducible refine fin_mk ?_); (repeat (first | replace H := grd_k H | replace H := out_step H (by assumption))); have H := Option.some.inj H; subst H))
    | constructor
def G18 : Env := G17.add 34 [] spec_StepsToRope.S
theorem G18_ok : EnvOk Try.prog G18 := G17_ok.add ent_34 fun ar h r h1 ⟨a0, y, hy, e1, e2, e3, e4⟩ => by
  subst e3 e4; exact (spec_StepsToRope.spec a0 y hy).le e1 e2
attribute [local irreducible] spec_StepsToRope

noncomputable def impl_StepsToRope (a0 : GripState) : Option (Int × Bool) :=
  ((impl_IsGripState (a0.1, a0.2.1, a0.2.2.1, a0.2.2.2.1, ())).bind fun y1 => (cond (!y1) ((some ((0 : Int), false))) ((impl_GripState_stepsTo (a0.1, a0.2.1, a0.2.2.1, a0.2.2.2.1, ()) (2 : Int)).bind fun y2 => (some (y2.1, y2.2)))))
def impl_StepsToRope.res (_ : GripState) (y : Int × Bool) : AV := (.tup [(.v (.int .i64 y.1)), (.bl y.2)])
def impl_StepsToRope.out (_ : GripState) (_ : Int × Bool) : List (Option LB) := []
def impl_StepsToRope.S (ar : List AV) (h : List (Option LB)) (r : AV) (h1 : List (Option LB)) : Prop := ∃ a0 y, impl_StepsToRope a0 = some y ∧ leL ar [(.agg [(.v (.int .i64 a0.1)), (.v (.int .i64 a0.2.1)), (.v (.int .i64 a0.2.2.1)), (.v (.int .i64 a0.2.2.2.1))])] ∧ leH h [] ∧ r = impl_StepsToRope.res a0 y ∧ h1 = impl_StepsToRope.out a0 y
theorem impl_StepsToRope.call {ar : List AV} {h : List (Option LB)} {a0 : GripState} {y : Int × Bool} (H : impl_StepsToRope a0 = some y) (h0 : leLk ar [(.agg [(.v (.int .i64 a0.1)), (.v (.int .i64 a0.2.1)), (.v (.int .i64 a0.2.2.1)), (.v (.int .i64 a0.2.2.2.1))])] (leHk h [])) : impl_StepsToRope.S ar h (impl_StepsToRope.res a0 y) (impl_StepsToRope.out a0 y) := ⟨a0, y, H, (args_ok h0).1, (args_ok h0).2, rfl, rfl⟩
set_option maxHeartbeats 100000000 in
set_option maxRecDepth 100000 in
theorem impl_StepsToRope.spec (a0 : GripState) (y : Int × Bool) (H : impl_StepsToRope a0 = some y) : Spec Try.prog 35 [(.agg [(.v (.int .i64 a0.1)), (.v (.int .i64 a0.2.1)), (.v (.int .i64 a0.2.2.1)), (.v (.int .i64 a0.2.2.2.1))])] [] (impl_StepsToRope.res a0 y) (impl_StepsToRope.out a0 y) := by
  refine spec_intro (G18_ok.at tok []) (ct := []) Try.func35 rfl (by kernel_rfl) (by kernel_rfl) rfl ?_
  repeat' first
    | ((with_reducible refine eqg ?_); exact rfl)
    | ((with_reducible refine KOb.mk ?_); kernel_rfl)
    | ((with_reducible intro h); (repeat (first | replace H := grd_k H | replace H := out_step H (by assumption))); first | replace H := cond_t h H | replace H := cond_f h H | exact absurd h (by decide) | skip)
    | ((with_reducible refine Ob.mk ?_); first | (with_reducible rfl) | (first | ((repeat (first | (with_reducible exact grd_p H) | (replace H := grd_k H) | (replace H := out_step H (by assumption)))); done) | rfl | ((repeat (first | exact grd_p H | replace H := grd_k H | replace H := out_step H (by assumption))); done) | ((repeat (first | exact grd_p H | (have hp := grd_p H; exact hp) | replace H := grd_k H | replace H := out_step H (by assumption) | (replace H := bind_some H; obtain ⟨_, _, H⟩ := H))); done) | (repeat (first | exact grd_p H | replace H := grd_k H | replace H := out_step H (by assumption)))))
    | (with_reducible exact True.intro)
    | ((conv => whnf); first
        | (with_reducible refine And.intro ?_ ?_)
        | (with_reducible exact True.intro)
        | ((with_reducible refine Ob.mk ?_); first | (with_reducible rfl) | (first | ((repeat (first | (with_reducible exact grd_p H) | (replace H := grd_k H) | (replace H := out_step H (by assumption)))); done) | rfl | ((repeat (first | exact grd_p H | replace H := grd_k H | replace H := out_step H (by assumption))); done) | ((repeat (first | exact grd_p H | (have hp := grd_p H; exact hp) | replace H := grd_k H | replace H := out_step H (by assumption) | (replace H := bind_some H; obtain ⟨_, _, H⟩ := H))); done) | (repeat (first | exact grd_p H | replace H := grd_k H | replace H := out_step H (by assumption)))))
        | ((with_reducible refine CallW.mk ?_); (repeat (first | replace H := grd_k H | replace H := out_step H (by assumption))); replace H := bind_some H; obtain ⟨y, hy, H⟩ := H; first | ((with_reducible have hz : impl_IsGripState _ = some y := hy); clear hz; refine Exists.intro _ (Exists.intro _ ⟨impl_IsGripState.call hy ?_, rfl, rfl, ?_⟩)) | ((with_reducible have hz : impl_GripState_stepsTo _ _ = some y := hy); clear hz; refine Exists.intro _ (Exists.intro _ ⟨impl_GripState_stepsTo.call hy ?_, rfl, rfl, ?_⟩)))
        | ((with_reducible refine fin_mk ?_); (repeat (first | replace H := grd_k H | replace H := out_step H (by assumption))); have H := Option.some.inj H; subst H))
    | constructor
def G19 : Env := G18.add 35 [] impl_StepsToRope.S
theorem G19_ok : EnvOk Try.prog G19 := G18_ok.add ent_35 fun ar h r h1 ⟨a0, y, hy, e1, e2, e3, e4⟩ => by
  subst e3 e4; exact (impl_StepsToRope.spec a0 y hy).le e1 e2
attribute [local irreducible] impl_StepsToRope

noncomputable def laws_FnExactStepsToRope (a0 : GripState) : Option (Bool) :=
  ((laws_toGripState (a0.1, a0.2.1, a0.2.2.1, a0.2.2.2.1, ())).bind fun y1 => ((spec_StepsToRope (y1.1, y1.2.1, y1.2.2.1, y1.2.2.2.1, ())).bind fun y2 => ((laws_toGripState (a0.1, a0.2.1, a0.2.2.1, a0.2.2.2.1, ())).bind fun y3 => ((impl_StepsToRope (y3.1, y3.2.1, y3.2.2.1, y3.2.2.2.1, ())).bind fun y4 => (cond (!decide (y4.1 = y2.1)) ((some false)) (cond (!(y4.2 == y2.2)) ((some false)) ((some true))))))))
def laws_FnExactStepsToRope.res (_ : GripState) (y : Bool) : AV := (.bl y)
def laws_FnExactStepsToRope.out (_ : GripState) (_ : Bool) : List (Option LB) := []
def laws_FnExactStepsToRope.S (ar : List AV) (h : List (Option LB)) (r : AV) (h1 : List (Option LB)) : Prop := ∃ a0 y, laws_FnExactStepsToRope a0 = some y ∧ leL ar [(.agg [(.v (.int .i64 a0.1)), (.v (.int .i64 a0.2.1)), (.v (.int .i64 a0.2.2.1)), (.v (.int .i64 a0.2.2.2.1))])] ∧ leH h [] ∧ r = laws_FnExactStepsToRope.res a0 y ∧ h1 = laws_FnExactStepsToRope.out a0 y
theorem laws_FnExactStepsToRope.call {ar : List AV} {h : List (Option LB)} {a0 : GripState} {y : Bool} (H : laws_FnExactStepsToRope a0 = some y) (h0 : leLk ar [(.agg [(.v (.int .i64 a0.1)), (.v (.int .i64 a0.2.1)), (.v (.int .i64 a0.2.2.1)), (.v (.int .i64 a0.2.2.2.1))])] (leHk h [])) : laws_FnExactStepsToRope.S ar h (laws_FnExactStepsToRope.res a0 y) (laws_FnExactStepsToRope.out a0 y) := ⟨a0, y, H, (args_ok h0).1, (args_ok h0).2, rfl, rfl⟩
set_option maxHeartbeats 100000000 in
set_option maxRecDepth 100000 in
theorem laws_FnExactStepsToRope.spec (a0 : GripState) (y : Bool) (H : laws_FnExactStepsToRope a0 = some y) : Spec Try.prog 6 [(.agg [(.v (.int .i64 a0.1)), (.v (.int .i64 a0.2.1)), (.v (.int .i64 a0.2.2.1)), (.v (.int .i64 a0.2.2.2.1))])] [] (laws_FnExactStepsToRope.res a0 y) (laws_FnExactStepsToRope.out a0 y) := by
  refine spec_intro (G19_ok.at tok []) (ct := [(3, some [3, 4, 5, 6, 23, 24, 25])]) Try.func6 rfl (by kernel_rfl) (by kernel_rfl) rfl ?_
  repeat' first
    | ((with_reducible refine eqg ?_); exact rfl)
    | ((with_reducible refine KOb.mk ?_); kernel_rfl)
    | ((with_reducible intro h); (repeat (first | replace H := grd_k H | replace H := out_step H (by assumption))); first | replace H := cond_t h H | replace H := cond_f h H | exact absurd h (by decide) | skip)
    | ((with_reducible refine Ob.mk ?_); first | (with_reducible rfl) | (first | ((repeat (first | (with_reducible exact grd_p H) | (replace H := grd_k H) | (replace H := out_step H (by assumption)))); done) | rfl | ((repeat (first | exact grd_p H | replace H := grd_k H | replace H := out_step H (by assumption))); done) | ((repeat (first | exact grd_p H | (have hp := grd_p H; exact hp) | replace H := grd_k H | replace H := out_step H (by assumption) | (replace H := bind_some H; obtain ⟨_, _, H⟩ := H))); done) | (repeat (first | exact grd_p H | replace H := grd_k H | replace H := out_step H (by assumption)))))
    | (with_reducible exact True.intro)
    | ((conv => whnf); first
        | (with_reducible refine And.intro ?_ ?_)
        | (with_reducible exact True.intro)
        | ((with_reducible refine Ob.mk ?_); first | (with_reducible rfl) | (first | ((repeat (first | (with_reducible exact grd_p H) | (replace H := grd_k H) | (replace H := out_step H (by assumption)))); done) | rfl | ((repeat (first | exact grd_p H | replace H := grd_k H | replace H := out_step H (by assumption))); done) | ((repeat (first | exact grd_p H | (have hp := grd_p H; exact hp) | replace H := grd_k H | replace H := out_step H (by assumption) | (replace H := bind_some H; obtain ⟨_, _, H⟩ := H))); done) | (repeat (first | exact grd_p H | replace H := grd_k H | replace H := out_step H (by assumption)))))
        | ((with_reducible refine CallW.mk ?_); (repeat (first | replace H := grd_k H | replace H := out_step H (by assumption))); replace H := bind_some H; obtain ⟨y, hy, H⟩ := H; first | ((with_reducible have hz : laws_toGripState _ = some y := hy); clear hz; refine Exists.intro _ (Exists.intro _ ⟨laws_toGripState.call hy ?_, rfl, rfl, ?_⟩)) | ((with_reducible have hz : spec_StepsToRope _ = some y := hy); clear hz; refine Exists.intro _ (Exists.intro _ ⟨spec_StepsToRope.call hy ?_, rfl, rfl, ?_⟩)) | ((with_reducible have hz : impl_StepsToRope _ = some y := hy); clear hz; refine Exists.intro _ (Exists.intro _ ⟨impl_StepsToRope.call hy ?_, rfl, rfl, ?_⟩)))
        | ((with_reducible refine fin_mk ?_); (repeat (first | replace H := grd_k H | replace H := out_step H (by assumption))); have H := Option.some.inj H; subst H))
    | constructor
def G20 : Env := G19.add 6 [] laws_FnExactStepsToRope.S
theorem G20_ok : EnvOk Try.prog G20 := G19_ok.add ent_6 fun ar h r h1 ⟨a0, y, hy, e1, e2, e3, e4⟩ => by
  subst e3 e4; exact (laws_FnExactStepsToRope.spec a0 y hy).le e1 e2
attribute [local irreducible] laws_FnExactStepsToRope

end Go.Proofs.Ytaajchikfgbecaa
