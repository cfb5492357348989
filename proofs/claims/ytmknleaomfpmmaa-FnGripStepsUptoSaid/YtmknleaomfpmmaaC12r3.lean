/-
  Contracts, printed by a program.
-/
import Derived.Test.YtmknleaomfpmmaaC12r2
namespace Go.Proofs.Ytmknleaomfpmmaa
open Go.RowKit
attribute [local irreducible] Ob loopwp Sub Spec Fin Again CallW CutC KOb iter joinx outm

attribute [local irreducible] laws_vBig spec_l1Cur_next spec_l1Cur_pick spec_l1Cur_among spec_l1Cur_one spec_l1Cur_gripStep spec_l1In spec_l21Good spec_l21Step spec_l1Least spec_l21Move spec_l21Make spec_StepGrip spec_l1Cur_gripState spec_DrawStepGrip impl_within impl_IsGripState impl_GripState_step impl_StepGrip spec_IsGripState impl_GripState_someSteps slices_Compact___int_int_ impl_PossibleSteps laws_vHas

noncomputable def spec_DrawRunGrip_loop1  (v32 : Int) (v33 : (List Int)) (v34 : Int) (v35 : Int) (v36 : Int) (v37 : Int) (v38 : Int) (v39 : Int) (v40 : (List GripStep)) (v41 : Int) (v42 : Int) (v43 : Int) (v44 : Int) : Option (Lp (Int × (List Int) × Int × Int × Int × Int × Int × Int × (List GripStep) × Int × Int × Int × Int) (((List Int) × Int × Int × Int × Int × Int × Int × (List GripStep)))) :=
  (cond (decide ((0 : Int) < v32)) ((spec_l1Cur_gripStep (v33, v34, v35, ()) (v41, v42, v43, v44, ())).bind fun y45 => (grd ((v40.length + [(y45.1.1, y45.1.2.1, ())].length) * 16 ≤ 140737488355328 ∧ v40.length + [(y45.1.1, y45.1.2.1, ())].length ≤ 140737488355328) ((spec_StepGrip (v41, v42, v43, v44, ()) (y45.1.1, y45.1.2.1, ())).bind fun y46 => (cond y46.2 (some (.go ((w64 (v32 - (1 : Int))), y45.2.1, y45.2.2.1, y45.2.2.2.1, v36, v37, v38, v39, (v40 ++ [(y45.1.1, y45.1.2.1, ())]), y46.1.1, y46.1.2.1, y46.1.2.2.1, y46.1.2.2.2.1))) (some (.go ((w64 (v32 - (1 : Int))), y45.2.1, y45.2.2.1, y45.2.2.2.1, v36, v37, v38, v39, (v40 ++ [(y45.1.1, y45.1.2.1, ())]), v41, v42, v43, v44))))))) ((some (.out (v33, v34, v35, v36, v37, v38, v39, v40)))))
noncomputable def spec_DrawRunGrip_loop2  (v58 : (List Int)) (v59 : Int) (v60 : Int) (v61 : Int) (v62 : Int) (v63 : Int) (v64 : Int) (v65 : (List GripStep)) : Option (Lp ((List Int) × Int × Int × Int × Int × Int × Int × (List GripStep)) ((Int × Int × Int × Int × (List GripStep)))) :=
  ((spec_l1Cur_pick (v58, v59, v60, ()) (2 : Int)).bind fun y66 => (cond (decide ((v65.length : Int) < (w64 ((30 : Int) + y66.1)))) (grd ((v65.length + [((1 : Int), (0 : Int), ())].length) * 16 ≤ 140737488355328 ∧ v65.length + [((1 : Int), (0 : Int), ())].length ≤ 140737488355328) (some (.go (y66.2.1, y66.2.2.1, y66.2.2.2.1, v61, v62, v63, v64, (v65 ++ [((1 : Int), (0 : Int), ())]))))) ((some (.out (v61, v62, v63, v64, v65))))))
noncomputable def spec_DrawRunGrip (a0 : (List Int)) : Option (GripState × (List GripStep)) :=
  ((spec_l1Cur_gripState (a0, (0 : Int), (0 : Int), ())).bind fun y1 => ((spec_l1Cur_pick (y1.2.1, y1.2.2.1, y1.2.2.2.1, ()) (12 : Int)).bind fun y2 => ((iter (fun s => spec_DrawRunGrip_loop1 s.1 s.2.1 s.2.2.1 s.2.2.2.1 s.2.2.2.2.1 s.2.2.2.2.2.1 s.2.2.2.2.2.2.1 s.2.2.2.2.2.2.2.1 s.2.2.2.2.2.2.2.2.1 s.2.2.2.2.2.2.2.2.2.1 s.2.2.2.2.2.2.2.2.2.2.1 s.2.2.2.2.2.2.2.2.2.2.2.1 s.2.2.2.2.2.2.2.2.2.2.2.2) (y2.1, y2.2.1, y2.2.2.1, y2.2.2.2.1, y1.1.1, y1.1.2.1, y1.1.2.2.1, y1.1.2.2.2.1, ([] : List GripStep), y1.1.1, y1.1.2.1, y1.1.2.2.1, y1.1.2.2.2.1)).bind (fun r47 => ((spec_l1Cur_one (r47.1, r47.2.1, r47.2.2.1, ()) (24 : Int)).bind fun y48 => (cond y48.1 ((iter (fun s => spec_DrawRunGrip_loop2 s.1 s.2.1 s.2.2.1 s.2.2.2.1 s.2.2.2.2.1 s.2.2.2.2.2.1 s.2.2.2.2.2.2.1 s.2.2.2.2.2.2.2) (y48.2.1, y48.2.2.1, y48.2.2.2.1, r47.2.2.2.1, r47.2.2.2.2.1, r47.2.2.2.2.2.1, r47.2.2.2.2.2.2.1, r47.2.2.2.2.2.2.2)).bind (fun r67 => (some ((r67.1, r67.2.1, r67.2.2.1, r67.2.2.2.1, ()), r67.2.2.2.2)))) ((some ((r47.2.2.2.1, r47.2.2.2.2.1, r47.2.2.2.2.2.1, r47.2.2.2.2.2.2.1, ()), r47.2.2.2.2.2.2.2)))))))))
def spec_DrawRunGrip.res (_ : (List Int)) (y : GripState × (List GripStep)) : AV := (.tup [(.agg [(.v (.int .i64 y.1.1)), (.v (.int .i64 y.1.2.1)), (.v (.int .i64 y.1.2.2.1)), (.v (.int .i64 y.1.2.2.2.1))]), (.own 0)])
def spec_DrawRunGrip.out (_ : (List Int)) (y : GripState × (List GripStep)) : List (Option LB) := [some (.arr 53 ty_GripStep y.2)]
def spec_DrawRunGrip.S (ar : List AV) (h : List (Option LB)) (r : AV) (h1 : List (Option LB)) : Prop := ∃ a0 y, spec_DrawRunGrip a0 = some y ∧ leL ar [(.tree (.int .u8) a0)] ∧ leH h [] ∧ r = spec_DrawRunGrip.res a0 y ∧ h1 = spec_DrawRunGrip.out a0 y
theorem spec_DrawRunGrip.call {ar : List AV} {h : List (Option LB)} {a0 : (List Int)} {y : GripState × (List GripStep)} (H : spec_DrawRunGrip a0 = some y) (h0 : leLk ar [(.tree (.int .u8) a0)] (leHk h [])) : spec_DrawRunGrip.S ar h (spec_DrawRunGrip.res a0 y) (spec_DrawRunGrip.out a0 y) := ⟨a0, y, H, (args_ok h0).1, (args_ok h0).2, rfl, rfl⟩
set_option maxHeartbeats 100000000 in
set_option maxRecDepth 100000 in
theorem spec_DrawRunGrip.spec (a0 : (List Int)) (y : GripState × (List GripStep)) (H : spec_DrawRunGrip a0 = some y) : Spec Try.prog 40 [(.tree (.int .u8) a0)] [] (spec_DrawRunGrip.res a0 y) (spec_DrawRunGrip.out a0 y) := by
  refine spec_intro (G24_ok.at tok []) (ct := [(6, some [2, 4, 5, 6, 7, 8]), (11, some [2, 4, 5, 6, 7, 8, 10, 11])]) Try.func40 rfl (by kernel_rfl) (by kernel_rfl) rfl ?_
  repeat' first
    | ((with_reducible refine eqg ?_); exact rfl)
    | ((with_reducible refine KOb.mk ?_); kernel_rfl)
    | ((with_reducible intro h); (repeat (first | replace H := grd_k H | replace H := out_step H (by assumption))); first | replace H := cond_t h H | replace H := cond_f h H | exact absurd h (by decide) | skip)
    | ((with_reducible refine Ob.mk ?_); first | rfl | (repeat (first | exact grd_p H | replace H := grd_k H | replace H := out_step H (by assumption))))
    | (with_reducible exact True.intro)
    | constructor
    | ((conv => whnf); first
        | ((with_reducible refine Ob.mk ?_); first | rfl | (repeat (first | exact grd_p H | replace H := grd_k H | replace H := out_step H (by assumption))))
        | ((with_reducible refine CallW.mk ?_); (repeat (first | replace H := grd_k H | replace H := out_step H (by assumption))); replace H := bind_some H; obtain ⟨y, hy, H⟩ := H; first | ((with_reducible have hz : spec_l1Cur_gripState _ = some y := hy); clear hz; refine Exists.intro _ (Exists.intro _ ⟨spec_l1Cur_gripState.call hy ?_, rfl, rfl, ?_⟩)) | ((with_reducible have hz : spec_l1Cur_pick _ _ = some y := hy); clear hz; refine Exists.intro _ (Exists.intro _ ⟨spec_l1Cur_pick.call hy ?_, rfl, rfl, ?_⟩)) | ((with_reducible have hz : spec_l1Cur_gripStep _ _ = some y := hy); clear hz; refine Exists.intro _ (Exists.intro _ ⟨spec_l1Cur_gripStep.call hy ?_, rfl, rfl, ?_⟩)) | ((with_reducible have hz : spec_StepGrip _ _ = some y := hy); clear hz; refine Exists.intro _ (Exists.intro _ ⟨spec_StepGrip.call hy ?_, rfl, rfl, ?_⟩)) | ((with_reducible have hz : spec_l1Cur_one _ _ = some y := hy); clear hz; refine Exists.intro _ (Exists.intro _ ⟨spec_l1Cur_one.call hy ?_, rfl, rfl, ?_⟩)))
        | ((repeat (first | replace H := grd_k H | replace H := out_step H (by assumption))); refine loop_iter (G24_ok.at tok []) (ct := [(6, some [2, 4, 5, 6, 7, 8]), (11, some [2, 4, 5, 6, 7, 8, 10, 11])]) (F := (fun s1 : Int × (List Int) × Int × Int × Int × Int × Int × Int × (List GripStep) × Int × Int × Int × Int => ⟨sl [(2, (.loc 0 0 0)), (4, (.loc 1 0 0)), (5, (.loc 2 0 0)), (6, (.own 3)), (7, (.loc 4 0 0)), (8, (.v (.int .i64 s1.1)))], [some (.box 26 [(.v (.int .i64 (0 : Int))), (.v (.int .i64 (0 : Int))), (.v (.int .i64 (0 : Int))), (.v (.int .i64 (0 : Int)))]), some (.box 136 [(.tree (.int .u8) s1.2.1), (.v (.int .i64 s1.2.2.1)), (.v (.int .u64 s1.2.2.2.1))]), some (.box 26 [(.v (.int .i64 s1.2.2.2.2.1)), (.v (.int .i64 s1.2.2.2.2.2.1)), (.v (.int .i64 s1.2.2.2.2.2.2.1)), (.v (.int .i64 s1.2.2.2.2.2.2.2.1))]), some (.arr 53 ty_GripStep s1.2.2.2.2.2.2.2.2.1), some (.box 26 [(.v (.int .i64 s1.2.2.2.2.2.2.2.2.2.1)), (.v (.int .i64 s1.2.2.2.2.2.2.2.2.2.2.1)), (.v (.int .i64 s1.2.2.2.2.2.2.2.2.2.2.2.1)), (.v (.int .i64 s1.2.2.2.2.2.2.2.2.2.2.2.2))])]⟩)) (step := (fun s : Int × (List Int) × Int × Int × Int × Int × Int × Int × (List GripStep) × Int × Int × Int × Int => spec_DrawRunGrip_loop1 s.1 s.2.1 s.2.2.1 s.2.2.2.1 s.2.2.2.2.1 s.2.2.2.2.2.1 s.2.2.2.2.2.2.1 s.2.2.2.2.2.2.2.1 s.2.2.2.2.2.2.2.2.1 s.2.2.2.2.2.2.2.2.2.1 s.2.2.2.2.2.2.2.2.2.2.1 s.2.2.2.2.2.2.2.2.2.2.2.1 s.2.2.2.2.2.2.2.2.2.2.2.2)) _ H (by kernel_rfl) (sub_auto ?_) ?_; rotate_left; (intro s1 r v hr H); rotate_right)
        | ((repeat (first | replace H := grd_k H | replace H := out_step H (by assumption))); refine loop_iter (G24_ok.at tok []) (ct := [(6, some [2, 4, 5, 6, 7, 8]), (11, some [2, 4, 5, 6, 7, 8, 10, 11])]) (F := (fun s2 : (List Int) × Int × Int × Int × Int × Int × Int × (List GripStep) => ⟨sl [(2, (.loc 0 0 0)), (4, (.loc 1 0 0)), (5, (.loc 2 0 0)), (6, (.own 3))], [some (.box 26 [(.v (.int .i64 (0 : Int))), (.v (.int .i64 (0 : Int))), (.v (.int .i64 (0 : Int))), (.v (.int .i64 (0 : Int)))]), some (.box 136 [(.tree (.int .u8) s2.1), (.v (.int .i64 s2.2.1)), (.v (.int .u64 s2.2.2.1))]), some (.box 26 [(.v (.int .i64 s2.2.2.2.1)), (.v (.int .i64 s2.2.2.2.2.1)), (.v (.int .i64 s2.2.2.2.2.2.1)), (.v (.int .i64 s2.2.2.2.2.2.2.1))]), some (.arr 53 ty_GripStep s2.2.2.2.2.2.2.2)]⟩)) (step := (fun s : (List Int) × Int × Int × Int × Int × Int × Int × (List GripStep) => spec_DrawRunGrip_loop2 s.1 s.2.1 s.2.2.1 s.2.2.2.1 s.2.2.2.2.1 s.2.2.2.2.2.1 s.2.2.2.2.2.2.1 s.2.2.2.2.2.2.2)) _ H (by kernel_rfl) (sub_auto ?_) ?_; rotate_left; (intro s2 r v hr H); rotate_right)
        | ((repeat (first | replace H := grd_k H | replace H := out_step H (by assumption))); refine again_step H (by assumption) (sub_auto ?_))
        | ((with_reducible refine fin_mk ?_); (repeat (first | replace H := grd_k H | replace H := out_step H (by assumption))); have H := Option.some.inj H; subst H))
def G25 : Env := G24.add 40 [] spec_DrawRunGrip.S
theorem G25_ok : EnvOk Try.prog G25 := G24_ok.add ent_40 fun ar h r h1 ⟨a0, y, hy, e1, e2, e3, e4⟩ => by
  subst e3 e4; exact (spec_DrawRunGrip.spec a0 y hy).le e1 e2
attribute [local irreducible] spec_DrawRunGrip

noncomputable def impl_RunGrip_loop1 (a1 : (List GripStep)) (v10 : Int) (v11 : Int) (v12 : Int) (v13 : Int) (v14 : Int) (v15 : Int) : Option (Lp (Int × Int × Int × Int × Int × Int) ((Int × Int × Int × Int × Int))) :=
  (cond (decide (v11 < (a1.length : Int))) (grd (0 ≤ v11 ∧ v11 < (a1.length : Int)) ((impl_GripState_step (v12, v13, v14, v15, ()) ((a1.getD v11.toNat d_GripStep).1, (a1.getD v11.toNat d_GripStep).2.1, ())).bind fun y16 => (cond y16.2 (some (.go ((w64 (v10 + (1 : Int))), (w64 (v11 + (1 : Int))), y16.1.1, y16.1.2.1, y16.1.2.2.1, y16.1.2.2.2.1))) (some (.go (v10, (w64 (v11 + (1 : Int))), v12, v13, v14, v15)))))) ((some (.out (v10, v12, v13, v14, v15)))))
noncomputable def impl_RunGrip (a0 : GripState) (a1 : (List GripStep)) : Option (GripState × Int × Bool) :=
  ((impl_IsGripState (a0.1, a0.2.1, a0.2.2.1, a0.2.2.2.1, ())).bind fun y1 => (cond (!y1) ((some (((0 : Int), (0 : Int), (0 : Int), (0 : Int), ()), (0 : Int), false))) (cond (decide ((30 : Int) < (a1.length : Int))) ((some (((0 : Int), (0 : Int), (0 : Int), (0 : Int), ()), (0 : Int), false))) ((iter (fun s => impl_RunGrip_loop1 a1 s.1 s.2.1 s.2.2.1 s.2.2.2.1 s.2.2.2.2.1 s.2.2.2.2.2) ((0 : Int), (0 : Int), a0.1, a0.2.1, a0.2.2.1, a0.2.2.2.1)).bind (fun r17 => (some ((r17.2.1, r17.2.2.1, r17.2.2.2.1, r17.2.2.2.2, ()), r17.1, true)))))))
def impl_RunGrip.res (_ : GripState) (_ : (List GripStep)) (y : GripState × Int × Bool) : AV := (.tup [(.agg [(.v (.int .i64 y.1.1)), (.v (.int .i64 y.1.2.1)), (.v (.int .i64 y.1.2.2.1)), (.v (.int .i64 y.1.2.2.2.1))]), (.v (.int .i64 y.2.1)), (.bl y.2.2)])
def impl_RunGrip.out (_ : GripState) (_ : (List GripStep)) (_ : GripState × Int × Bool) : List (Option LB) := []
def impl_RunGrip.S (ar : List AV) (h : List (Option LB)) (r : AV) (h1 : List (Option LB)) : Prop := ∃ a0 a1 y, impl_RunGrip a0 a1 = some y ∧ leL ar [(.agg [(.v (.int .i64 a0.1)), (.v (.int .i64 a0.2.1)), (.v (.int .i64 a0.2.2.1)), (.v (.int .i64 a0.2.2.2.1))]), (.tree ty_GripStep a1)] ∧ leH h [] ∧ r = impl_RunGrip.res a0 a1 y ∧ h1 = impl_RunGrip.out a0 a1 y
theorem impl_RunGrip.call {ar : List AV} {h : List (Option LB)} {a0 : GripState} {a1 : (List GripStep)} {y : GripState × Int × Bool} (H : impl_RunGrip a0 a1 = some y) (h0 : leLk ar [(.agg [(.v (.int .i64 a0.1)), (.v (.int .i64 a0.2.1)), (.v (.int .i64 a0.2.2.1)), (.v (.int .i64 a0.2.2.2.1))]), (.tree ty_GripStep a1)] (leHk h [])) : impl_RunGrip.S ar h (impl_RunGrip.res a0 a1 y) (impl_RunGrip.out a0 a1 y) := ⟨a0, a1, y, H, (args_ok h0).1, (args_ok h0).2, rfl, rfl⟩
set_option maxHeartbeats 100000000 in
set_option maxRecDepth 100000 in
theorem impl_RunGrip.spec (a0 : GripState) (a1 : (List GripStep)) (y : GripState × Int × Bool) (H : impl_RunGrip a0 a1 = some y) : Spec Try.prog 41 [(.agg [(.v (.int .i64 a0.1)), (.v (.int .i64 a0.2.1)), (.v (.int .i64 a0.2.2.1)), (.v (.int .i64 a0.2.2.2.1))]), (.tree ty_GripStep a1)] [] (impl_RunGrip.res a0 a1 y) (impl_RunGrip.out a0 a1 y) := by
  refine spec_intro (G25_ok.at tok []) (ct := [(3, some [1, 2, 4]), (10, some [2, 4, 7, 21, 22, 23])]) Try.func41 rfl (by kernel_rfl) (by kernel_rfl) rfl ?_
  repeat' first
    | ((with_reducible refine eqg ?_); exact rfl)
    | ((with_reducible refine KOb.mk ?_); kernel_rfl)
    | ((with_reducible intro h); (repeat (first | replace H := grd_k H | replace H := out_step H (by assumption))); first | replace H := cond_t h H | replace H := cond_f h H | exact absurd h (by decide) | skip)
    | ((with_reducible refine Ob.mk ?_); first | rfl | (repeat (first | exact grd_p H | replace H := grd_k H | replace H := out_step H (by assumption))))
    | (with_reducible exact True.intro)
    | constructor
    | ((conv => whnf); first
        | ((with_reducible refine Ob.mk ?_); first | rfl | (repeat (first | exact grd_p H | replace H := grd_k H | replace H := out_step H (by assumption))))
        | ((with_reducible refine CallW.mk ?_); (repeat (first | replace H := grd_k H | replace H := out_step H (by assumption))); replace H := bind_some H; obtain ⟨y, hy, H⟩ := H; first | ((with_reducible have hz : impl_IsGripState _ = some y := hy); clear hz; refine Exists.intro _ (Exists.intro _ ⟨impl_IsGripState.call hy ?_, rfl, rfl, ?_⟩)) | ((with_reducible have hz : impl_GripState_step _ _ = some y := hy); clear hz; refine Exists.intro _ (Exists.intro _ ⟨impl_GripState_step.call hy ?_, rfl, rfl, ?_⟩)))
        | ((repeat (first | replace H := grd_k H | replace H := out_step H (by assumption))); refine loop_iter (G25_ok.at tok []) (ct := [(3, some [1, 2, 4]), (10, some [2, 4, 7, 21, 22, 23])]) (F := (fun s1 : Int × Int × Int × Int × Int × Int => ⟨sl [(2, (.loc 0 0 0)), (4, (.loc 1 0 0)), (7, (.v (.int .i64 s1.1))), (21, (.tree ty_GripStep a1)), (22, (.v (.int .i64 (a1.length : Int)))), (23, (.v (.int .i64 s1.2.1)))], [some (.box 26 [(.v (.int .i64 s1.2.2.1)), (.v (.int .i64 s1.2.2.2.1)), (.v (.int .i64 s1.2.2.2.2.1)), (.v (.int .i64 s1.2.2.2.2.2))]), some (.box 26 [(.v (.int .i64 (0 : Int))), (.v (.int .i64 (0 : Int))), (.v (.int .i64 (0 : Int))), (.v (.int .i64 (0 : Int)))])]⟩)) (step := (fun s : Int × Int × Int × Int × Int × Int => impl_RunGrip_loop1 _ s.1 s.2.1 s.2.2.1 s.2.2.2.1 s.2.2.2.2.1 s.2.2.2.2.2)) _ H (by kernel_rfl) (sub_auto ?_) ?_; rotate_left; (intro s1 r v hr H); rotate_right)
        | ((repeat (first | replace H := grd_k H | replace H := out_step H (by assumption))); refine again_step H (by assumption) (sub_auto ?_))
        | ((with_reducible refine fin_mk ?_); (repeat (first | replace H := grd_k H | replace H := out_step H (by assumption))); have H := Option.some.inj H; subst H))
def G26 : Env := G25.add 41 [] impl_RunGrip.S
theorem G26_ok : EnvOk Try.prog G26 := G25_ok.add ent_41 fun ar h r h1 ⟨a0, a1, y, hy, e1, e2, e3, e4⟩ => by
  subst e3 e4; exact (impl_RunGrip.spec a0 a1 y hy).le e1 e2
attribute [local irreducible] impl_RunGrip

noncomputable def spec_RunGrip_loop1 (a1 : (List GripStep)) (v15 : Int) (v16 : Int) (v17 : Int) (v18 : Int) (v19 : Int) (v20 : Int) : Option (Lp (Int × Int × Int × Int × Int × Int) ((Int × Int × Int × Int × Int))) :=
  (cond (decide (v16 < (a1.length : Int))) (grd (0 ≤ v16 ∧ v16 < (a1.length : Int)) ((spec_l21Step (v17, v18, v19, v20, ()) ((a1.getD v16.toNat d_GripStep).1, (a1.getD v16.toNat d_GripStep).2.1, ())).bind fun y21 => (cond (!y21) (some (.go (v15, (w64 (v16 + (1 : Int))), v17, v18, v19, v20))) (grd (0 ≤ v16 ∧ v16 < (a1.length : Int)) ((spec_l21Make (v17, v18, v19, v20, ()) ((a1.getD v16.toNat d_GripStep).1, (a1.getD v16.toNat d_GripStep).2.1, ())).bind fun y22 => (cond y22.2 (some (.go ((w64 (v15 + (1 : Int))), (w64 (v16 + (1 : Int))), y22.1.1, y22.1.2.1, y22.1.2.2.1, y22.1.2.2.2.1))) (some (.go (v15, (w64 (v16 + (1 : Int))), v17, v18, v19, v20))))))))) ((some (.out (v15, v17, v18, v19, v20)))))
noncomputable def spec_RunGrip (a0 : GripState) (a1 : (List GripStep)) : Option (GripState × Int × Bool) :=
  ((spec_l21Good (a0.1, a0.2.1, a0.2.2.1, a0.2.2.2.1, ())).bind fun y1 => (cond (!y1) ((some (((0 : Int), (0 : Int), (0 : Int), (0 : Int), ()), (0 : Int), false))) (cond (decide ((30 : Int) < (a1.length : Int))) ((some (((0 : Int), (0 : Int), (0 : Int), (0 : Int), ()), (0 : Int), false))) ((iter (fun s => spec_RunGrip_loop1 a1 s.1 s.2.1 s.2.2.1 s.2.2.2.1 s.2.2.2.2.1 s.2.2.2.2.2) ((0 : Int), (0 : Int), a0.1, a0.2.1, a0.2.2.1, a0.2.2.2.1)).bind (fun r23 => (some ((r23.2.1, r23.2.2.1, r23.2.2.2.1, r23.2.2.2.2, ()), r23.1, true)))))))
def spec_RunGrip.res (_ : GripState) (_ : (List GripStep)) (y : GripState × Int × Bool) : AV := (.tup [(.agg [(.v (.int .i64 y.1.1)), (.v (.int .i64 y.1.2.1)), (.v (.int .i64 y.1.2.2.1)), (.v (.int .i64 y.1.2.2.2.1))]), (.v (.int .i64 y.2.1)), (.bl y.2.2)])
def spec_RunGrip.out (_ : GripState) (_ : (List GripStep)) (_ : GripState × Int × Bool) : List (Option LB) := []
def spec_RunGrip.S (ar : List AV) (h : List (Option LB)) (r : AV) (h1 : List (Option LB)) : Prop := ∃ a0 a1 y, spec_RunGrip a0 a1 = some y ∧ leL ar [(.agg [(.v (.int .i64 a0.1)), (.v (.int .i64 a0.2.1)), (.v (.int .i64 a0.2.2.1)), (.v (.int .i64 a0.2.2.2.1))]), (.tree ty_GripStep a1)] ∧ leH h [] ∧ r = spec_RunGrip.res a0 a1 y ∧ h1 = spec_RunGrip.out a0 a1 y
theorem spec_RunGrip.call {ar : List AV} {h : List (Option LB)} {a0 : GripState} {a1 : (List GripStep)} {y : GripState × Int × Bool} (H : spec_RunGrip a0 a1 = some y) (h0 : leLk ar [(.agg [(.v (.int .i64 a0.1)), (.v (.int .i64 a0.2.1)), (.v (.int .i64 a0.2.2.1)), (.v (.int .i64 a0.2.2.2.1))]), (.tree ty_GripStep a1)] (leHk h [])) : spec_RunGrip.S ar h (spec_RunGrip.res a0 a1 y) (spec_RunGrip.out a0 a1 y) := ⟨a0, a1, y, H, (args_ok h0).1, (args_ok h0).2, rfl, rfl⟩
set_option maxHeartbeats 100000000 in
set_option maxRecDepth 100000 in
theorem spec_RunGrip.spec (a0 : GripState) (a1 : (List GripStep)) (y : GripState × Int × Bool) (H : spec_RunGrip a0 a1 = some y) : Spec Try.prog 42 [(.agg [(.v (.int .i64 a0.1)), (.v (.int .i64 a0.2.1)), (.v (.int .i64 a0.2.2.1)), (.v (.int .i64 a0.2.2.2.1))]), (.tree ty_GripStep a1)] [] (spec_RunGrip.res a0 a1 y) (spec_RunGrip.out a0 a1 y) := by
  refine spec_intro (G26_ok.at tok []) (ct := [(3, some [1, 2, 4]), (9, some [1, 2, 4, 7, 8, 9, 10])]) Try.func42 rfl (by kernel_rfl) (by kernel_rfl) rfl ?_
  repeat' first
    | ((with_reducible refine eqg ?_); exact rfl)
    | ((with_reducible refine KOb.mk ?_); kernel_rfl)
    | ((with_reducible intro h); (repeat (first | replace H := grd_k H | replace H := out_step H (by assumption))); first | replace H := cond_t h H | replace H := cond_f h H | exact absurd h (by decide) | skip)
    | ((with_reducible refine Ob.mk ?_); first | rfl | (repeat (first | exact grd_p H | replace H := grd_k H | replace H := out_step H (by assumption))))
    | (with_reducible exact True.intro)
    | constructor
    | ((conv => whnf); first
        | ((with_reducible refine Ob.mk ?_); first | rfl | (repeat (first | exact grd_p H | replace H := grd_k H | replace H := out_step H (by assumption))))
        | ((with_reducible refine CallW.mk ?_); (repeat (first | replace H := grd_k H | replace H := out_step H (by assumption))); replace H := bind_some H; obtain ⟨y, hy, H⟩ := H; first | ((with_reducible have hz : spec_l21Good _ = some y := hy); clear hz; refine Exists.intro _ (Exists.intro _ ⟨spec_l21Good.call hy ?_, rfl, rfl, ?_⟩)) | ((with_reducible have hz : spec_l21Step _ _ = some y := hy); clear hz; refine Exists.intro _ (Exists.intro _ ⟨spec_l21Step.call hy ?_, rfl, rfl, ?_⟩)) | ((with_reducible have hz : spec_l21Make _ _ = some y := hy); clear hz; refine Exists.intro _ (Exists.intro _ ⟨spec_l21Make.call hy ?_, rfl, rfl, ?_⟩)))
        | ((repeat (first | replace H := grd_k H | replace H := out_step H (by assumption))); refine loop_iter (G26_ok.at tok []) (ct := [(3, some [1, 2, 4]), (9, some [1, 2, 4, 7, 8, 9, 10])]) (F := (fun s1 : Int × Int × Int × Int × Int × Int => ⟨sl [(1, (.tree ty_GripStep a1)), (2, (.loc 0 0 0)), (4, (.loc 1 0 0)), (7, (.v (.int .i64 s1.1))), (8, (.v (.int .i64 s1.2.1)))], [some (.box 26 [(.v (.int .i64 s1.2.2.1)), (.v (.int .i64 s1.2.2.2.1)), (.v (.int .i64 s1.2.2.2.2.1)), (.v (.int .i64 s1.2.2.2.2.2))]), some (.box 26 [(.v (.int .i64 (0 : Int))), (.v (.int .i64 (0 : Int))), (.v (.int .i64 (0 : Int))), (.v (.int .i64 (0 : Int)))])]⟩)) (step := (fun s : Int × Int × Int × Int × Int × Int => spec_RunGrip_loop1 _ s.1 s.2.1 s.2.2.1 s.2.2.2.1 s.2.2.2.2.1 s.2.2.2.2.2)) _ H (by kernel_rfl) (sub_auto ?_) ?_; rotate_left; (intro s1 r v hr H); rotate_right)
        | ((repeat (first | replace H := grd_k H | replace H := out_step H (by assumption))); refine again_step H (by assumption) (sub_auto ?_))
        | ((with_reducible refine fin_mk ?_); (repeat (first | replace H := grd_k H | replace H := out_step H (by assumption))); have H := Option.some.inj H; subst H))
def G27 : Env := G26.add 42 [] spec_RunGrip.S
theorem G27_ok : EnvOk Try.prog G27 := G26_ok.add ent_42 fun ar h r h1 ⟨a0, a1, y, hy, e1, e2, e3, e4⟩ => by
  subst e3 e4; exact (spec_RunGrip.spec a0 a1 y hy).le e1 e2
attribute [local irreducible] spec_RunGrip

noncomputable def spec_DrawIsGripState (a0 : (List Int)) : Option (GripState) :=
  ((spec_l1Cur_gripState (a0, (0 : Int), (0 : Int), ())).bind fun y1 => (some (y1.1.1, y1.1.2.1, y1.1.2.2.1, y1.1.2.2.2.1, ())))
def spec_DrawIsGripState.res (_ : (List Int)) (y : GripState) : AV := (.agg [(.v (.int .i64 y.1)), (.v (.int .i64 y.2.1)), (.v (.int .i64 y.2.2.1)), (.v (.int .i64 y.2.2.2.1))])
def spec_DrawIsGripState.out (_ : (List Int)) (_ : GripState) : List (Option LB) := []
def spec_DrawIsGripState.S (ar : List AV) (h : List (Option LB)) (r : AV) (h1 : List (Option LB)) : Prop := ∃ a0 y, spec_DrawIsGripState a0 = some y ∧ leL ar [(.tree (.int .u8) a0)] ∧ leH h [] ∧ r = spec_DrawIsGripState.res a0 y ∧ h1 = spec_DrawIsGripState.out a0 y
theorem spec_DrawIsGripState.call {ar : List AV} {h : List (Option LB)} {a0 : (List Int)} {y : GripState} (H : spec_DrawIsGripState a0 = some y) (h0 : leLk ar [(.tree (.int .u8) a0)] (leHk h [])) : spec_DrawIsGripState.S ar h (spec_DrawIsGripState.res a0 y) (spec_DrawIsGripState.out a0 y) := ⟨a0, y, H, (args_ok h0).1, (args_ok h0).2, rfl, rfl⟩
set_option maxHeartbeats 100000000 in
set_option maxRecDepth 100000 in
theorem spec_DrawIsGripState.spec (a0 : (List Int)) (y : GripState) (H : spec_DrawIsGripState a0 = some y) : Spec Try.prog 122 [(.tree (.int .u8) a0)] [] (spec_DrawIsGripState.res a0 y) (spec_DrawIsGripState.out a0 y) := by
  refine spec_intro (G27_ok.at tok []) (ct := []) Try.func122 rfl (by kernel_rfl) (by kernel_rfl) rfl ?_
  repeat' first
    | ((with_reducible refine eqg ?_); exact rfl)
    | ((with_reducible refine KOb.mk ?_); kernel_rfl)
    | ((with_reducible intro h); (repeat (first | replace H := grd_k H | replace H := out_step H (by assumption))); first | replace H := cond_t h H | replace H := cond_f h H | exact absurd h (by decide) | skip)
    | ((with_reducible refine Ob.mk ?_); first | rfl | (repeat (first | exact grd_p H | replace H := grd_k H | replace H := out_step H (by assumption))))
    | (with_reducible exact True.intro)
    | constructor
    | ((conv => whnf); first
        | ((with_reducible refine Ob.mk ?_); first | rfl | (repeat (first | exact grd_p H | replace H := grd_k H | replace H := out_step H (by assumption))))
        | ((with_reducible refine CallW.mk ?_); (repeat (first | replace H := grd_k H | replace H := out_step H (by assumption))); replace H := bind_some H; obtain ⟨y, hy, H⟩ := H; first | ((with_reducible have hz : spec_l1Cur_gripState _ = some y := hy); clear hz; refine Exists.intro _ (Exists.intro _ ⟨spec_l1Cur_gripState.call hy ?_, rfl, rfl, ?_⟩)))
        | ((with_reducible refine fin_mk ?_); (repeat (first | replace H := grd_k H | replace H := out_step H (by assumption))); have H := Option.some.inj H; subst H))
def G28 : Env := G27.add 122 [] spec_DrawIsGripState.S
theorem G28_ok : EnvOk Try.prog G28 := G27_ok.add ent_122 fun ar h r h1 ⟨a0, y, hy, e1, e2, e3, e4⟩ => by
  subst e3 e4; exact (spec_DrawIsGripState.spec a0 y hy).le e1 e2
attribute [local irreducible] spec_DrawIsGripState

noncomputable def spec_DrawPossibleSteps (a0 : (List Int)) : Option (GripState) :=
  ((spec_DrawIsGripState a0).bind fun y1 => (some (y1.1, y1.2.1, y1.2.2.1, y1.2.2.2.1, ())))
def spec_DrawPossibleSteps.res (_ : (List Int)) (y : GripState) : AV := (.agg [(.v (.int .i64 y.1)), (.v (.int .i64 y.2.1)), (.v (.int .i64 y.2.2.1)), (.v (.int .i64 y.2.2.2.1))])
def spec_DrawPossibleSteps.out (_ : (List Int)) (_ : GripState) : List (Option LB) := []
def spec_DrawPossibleSteps.S (ar : List AV) (h : List (Option LB)) (r : AV) (h1 : List (Option LB)) : Prop := ∃ a0 y, spec_DrawPossibleSteps a0 = some y ∧ leL ar [(.tree (.int .u8) a0)] ∧ leH h [] ∧ r = spec_DrawPossibleSteps.res a0 y ∧ h1 = spec_DrawPossibleSteps.out a0 y
theorem spec_DrawPossibleSteps.call {ar : List AV} {h : List (Option LB)} {a0 : (List Int)} {y : GripState} (H : spec_DrawPossibleSteps a0 = some y) (h0 : leLk ar [(.tree (.int .u8) a0)] (leHk h [])) : spec_DrawPossibleSteps.S ar h (spec_DrawPossibleSteps.res a0 y) (spec_DrawPossibleSteps.out a0 y) := ⟨a0, y, H, (args_ok h0).1, (args_ok h0).2, rfl, rfl⟩
set_option maxHeartbeats 100000000 in
set_option maxRecDepth 100000 in
theorem spec_DrawPossibleSteps.spec (a0 : (List Int)) (y : GripState) (H : spec_DrawPossibleSteps a0 = some y) : Spec Try.prog 43 [(.tree (.int .u8) a0)] [] (spec_DrawPossibleSteps.res a0 y) (spec_DrawPossibleSteps.out a0 y) := by
  refine spec_intro (G28_ok.at tok []) (ct := []) Try.func43 rfl (by kernel_rfl) (by kernel_rfl) rfl ?_
  repeat' first
    | ((with_reducible refine eqg ?_); exact rfl)
    | ((with_reducible refine KOb.mk ?_); kernel_rfl)
    | ((with_reducible intro h); (repeat (first | replace H := grd_k H | replace H := out_step H (by assumption))); first | replace H := cond_t h H | replace H := cond_f h H | exact absurd h (by decide) | skip)
    | ((with_reducible refine Ob.mk ?_); first | rfl | (repeat (first | exact grd_p H | replace H := grd_k H | replace H := out_step H (by assumption))))
    | (with_reducible exact True.intro)
    | constructor
    | ((conv => whnf); first
        | ((with_reducible refine Ob.mk ?_); first | rfl | (repeat (first | exact grd_p H | replace H := grd_k H | replace H := out_step H (by assumption))))
        | ((with_reducible refine CallW.mk ?_); (repeat (first | replace H := grd_k H | replace H := out_step H (by assumption))); replace H := bind_some H; obtain ⟨y, hy, H⟩ := H; first | ((with_reducible have hz : spec_DrawIsGripState _ = some y := hy); clear hz; refine Exists.intro _ (Exists.intro _ ⟨spec_DrawIsGripState.call hy ?_, rfl, rfl, ?_⟩)))
        | ((with_reducible refine fin_mk ?_); (repeat (first | replace H := grd_k H | replace H := out_step H (by assumption))); have H := Option.some.inj H; subst H))
def G29 : Env := G28.add 43 [] spec_DrawPossibleSteps.S
theorem G29_ok : EnvOk Try.prog G29 := G28_ok.add ent_43 fun ar h r h1 ⟨a0, y, hy, e1, e2, e3, e4⟩ => by
  subst e3 e4; exact (spec_DrawPossibleSteps.spec a0 y hy).le e1 e2
attribute [local irreducible] spec_DrawPossibleSteps

noncomputable def spec_l21Try (a0 : GripState) (a1 : Int) : Option (GripStep) :=
  (cond (decide (a1 = (2 : Int))) (cond (decide (a0.1 = (1 : Int))) ((some (a1, (2000 : Int), ()))) ((some (a1, (0 : Int), ())))) ((some (a1, (0 : Int), ()))))
def spec_l21Try.res (_ : GripState) (_ : Int) (y : GripStep) : AV := (.agg [(.v (.int .i64 y.1)), (.v (.int .i64 y.2.1))])
def spec_l21Try.out (_ : GripState) (_ : Int) (_ : GripStep) : List (Option LB) := []
def spec_l21Try.S (ar : List AV) (h : List (Option LB)) (r : AV) (h1 : List (Option LB)) : Prop := ∃ a0 a1 y, spec_l21Try a0 a1 = some y ∧ leL ar [(.agg [(.v (.int .i64 a0.1)), (.v (.int .i64 a0.2.1)), (.v (.int .i64 a0.2.2.1)), (.v (.int .i64 a0.2.2.2.1))]), (.v (.int .i64 a1))] ∧ leH h [] ∧ r = spec_l21Try.res a0 a1 y ∧ h1 = spec_l21Try.out a0 a1 y
theorem spec_l21Try.call {ar : List AV} {h : List (Option LB)} {a0 : GripState} {a1 : Int} {y : GripStep} (H : spec_l21Try a0 a1 = some y) (h0 : leLk ar [(.agg [(.v (.int .i64 a0.1)), (.v (.int .i64 a0.2.1)), (.v (.int .i64 a0.2.2.1)), (.v (.int .i64 a0.2.2.2.1))]), (.v (.int .i64 a1))] (leHk h [])) : spec_l21Try.S ar h (spec_l21Try.res a0 a1 y) (spec_l21Try.out a0 a1 y) := ⟨a0, a1, y, H, (args_ok h0).1, (args_ok h0).2, rfl, rfl⟩
set_option maxHeartbeats 100000000 in
set_option maxRecDepth 100000 in
theorem spec_l21Try.spec (a0 : GripState) (a1 : Int) (y : GripStep) (H : spec_l21Try a0 a1 = some y) : Spec Try.prog 123 [(.agg [(.v (.int .i64 a0.1)), (.v (.int .i64 a0.2.1)), (.v (.int .i64 a0.2.2.1)), (.v (.int .i64 a0.2.2.2.1))]), (.v (.int .i64 a1))] [] (spec_l21Try.res a0 a1 y) (spec_l21Try.out a0 a1 y) := by
  refine spec_intro (G29_ok.at tok []) (ct := []) Try.func123 rfl (by kernel_rfl) (by kernel_rfl) rfl ?_
  repeat' first
    | ((with_reducible refine eqg ?_); exact rfl)
    | ((with_reducible refine KOb.mk ?_); kernel_rfl)
    | ((with_reducible intro h); (repeat (first | replace H := grd_k H | replace H := out_step H (by assumption))); first | replace H := cond_t h H | replace H := cond_f h H | exact absurd h (by decide) | skip)
    | ((with_reducible refine Ob.mk ?_); first | rfl | (repeat (first | exact grd_p H | replace H := grd_k H | replace H := out_step H (by assumption))))
    | (with_reducible exact True.intro)
    | constructor
    | ((conv => whnf); first
        | ((with_reducible refine Ob.mk ?_); first | rfl | (repeat (first | exact grd_p H | replace H := grd_k H | replace H := out_step H (by assumption))))
        | ((with_reducible refine fin_mk ?_); (repeat (first | replace H := grd_k H | replace H := out_step H (by assumption))); have H := Option.some.inj H; subst H))
def G30 : Env := G29.add 123 [] spec_l21Try.S
theorem G30_ok : EnvOk Try.prog G30 := G29_ok.add ent_123 fun ar h r h1 ⟨a0, a1, y, hy, e1, e2, e3, e4⟩ => by
  subst e3 e4; exact (spec_l21Try.spec a0 a1 y hy).le e1 e2
attribute [local irreducible] spec_l21Try

noncomputable def spec_PossibleSteps_loop1 (a0 : GripState) (v8 : Int) (v9 : (List Int)) : Option (Lp (Int × (List Int)) (((List Int)))) :=
  (cond (decide (v8 ≤ (5 : Int))) ((spec_l21Try (a0.1, a0.2.1, a0.2.2.1, a0.2.2.2.1, ()) v8).bind fun y10 => ((spec_l21Make (a0.1, a0.2.1, a0.2.2.1, a0.2.2.2.1, ()) (y10.1, y10.2.1, ())).bind fun y11 => (cond y11.2 (grd ((v9.length + [v8].length) * 8 ≤ 140737488355328 ∧ v9.length + [v8].length ≤ 140737488355328) (some (.go ((w64 (v8 + (1 : Int))), (v9 ++ [v8]))))) (some (.go ((w64 (v8 + (1 : Int))), v9)))))) ((some (.out v9))))
noncomputable def spec_PossibleSteps (a0 : GripState) : Option ((List Int) × Bool) :=
  ((spec_l21Good (a0.1, a0.2.1, a0.2.2.1, a0.2.2.2.1, ())).bind fun y1 => (cond (!y1) ((some (([] : List Int), false))) ((iter (fun s => spec_PossibleSteps_loop1 a0 s.1 s.2) ((1 : Int), ([] : List Int))).bind (fun r12 => (some (r12, true))))))
def spec_PossibleSteps.res (_ : GripState) (y : (List Int) × Bool) : AV := (.tup [(.own 0), (.bl y.2)])
def spec_PossibleSteps.out (_ : GripState) (y : (List Int) × Bool) : List (Option LB) := [some (.arr 3 (.int .i64) y.1)]
def spec_PossibleSteps.S (ar : List AV) (h : List (Option LB)) (r : AV) (h1 : List (Option LB)) : Prop := ∃ a0 y, spec_PossibleSteps a0 = some y ∧ leL ar [(.agg [(.v (.int .i64 a0.1)), (.v (.int .i64 a0.2.1)), (.v (.int .i64 a0.2.2.1)), (.v (.int .i64 a0.2.2.2.1))])] ∧ leH h [] ∧ r = spec_PossibleSteps.res a0 y ∧ h1 = spec_PossibleSteps.out a0 y
theorem spec_PossibleSteps.call {ar : List AV} {h : List (Option LB)} {a0 : GripState} {y : (List Int) × Bool} (H : spec_PossibleSteps a0 = some y) (h0 : leLk ar [(.agg [(.v (.int .i64 a0.1)), (.v (.int .i64 a0.2.1)), (.v (.int .i64 a0.2.2.1)), (.v (.int .i64 a0.2.2.2.1))])] (leHk h [])) : spec_PossibleSteps.S ar h (spec_PossibleSteps.res a0 y) (spec_PossibleSteps.out a0 y) := ⟨a0, y, H, (args_ok h0).1, (args_ok h0).2, rfl, rfl⟩
set_option maxHeartbeats 100000000 in
set_option maxRecDepth 100000 in
theorem spec_PossibleSteps.spec (a0 : GripState) (y : (List Int) × Bool) (H : spec_PossibleSteps a0 = some y) : Spec Try.prog 44 [(.agg [(.v (.int .i64 a0.1)), (.v (.int .i64 a0.2.1)), (.v (.int .i64 a0.2.2.1)), (.v (.int .i64 a0.2.2.2.1))])] [] (spec_PossibleSteps.res a0 y) (spec_PossibleSteps.out a0 y) := by
  refine spec_intro (G30_ok.at tok []) (ct := [(6, some [1, 4, 5]), (10, some [4])]) Try.func44 rfl (by kernel_rfl) (by kernel_rfl) rfl ?_
  repeat' first
    | ((with_reducible refine eqg ?_); exact rfl)
    | ((with_reducible refine KOb.mk ?_); kernel_rfl)
    | ((with_reducible intro h); (repeat (first | replace H := grd_k H | replace H := out_step H (by assumption))); first | replace H := cond_t h H | replace H := cond_f h H | exact absurd h (by decide) | skip)
    | ((with_reducible refine Ob.mk ?_); first | rfl | (repeat (first | exact grd_p H | replace H := grd_k H | replace H := out_step H (by assumption))))
    | (with_reducible exact True.intro)
    | constructor
    | ((conv => whnf); first
        | ((with_reducible refine Ob.mk ?_); first | rfl | (repeat (first | exact grd_p H | replace H := grd_k H | replace H := out_step H (by assumption))))
        | ((with_reducible refine CallW.mk ?_); (repeat (first | replace H := grd_k H | replace H := out_step H (by assumption))); replace H := bind_some H; obtain ⟨y, hy, H⟩ := H; first | ((with_reducible have hz : spec_l21Good _ = some y := hy); clear hz; refine Exists.intro _ (Exists.intro _ ⟨spec_l21Good.call hy ?_, rfl, rfl, ?_⟩)) | ((with_reducible have hz : spec_l21Try _ _ = some y := hy); clear hz; refine Exists.intro _ (Exists.intro _ ⟨spec_l21Try.call hy ?_, rfl, rfl, ?_⟩)) | ((with_reducible have hz : spec_l21Make _ _ = some y := hy); clear hz; refine Exists.intro _ (Exists.intro _ ⟨spec_l21Make.call hy ?_, rfl, rfl, ?_⟩)))
        | ((repeat (first | replace H := grd_k H | replace H := out_step H (by assumption))); refine loop_iter (G30_ok.at tok []) (ct := [(6, some [1, 4, 5]), (10, some [4])]) (F := (fun s1 : Int × (List Int) => ⟨sl [(1, (.loc 0 0 0)), (4, (.own 1)), (5, (.v (.int .i64 s1.1)))], [some (.box 26 [(.v (.int .i64 a0.1)), (.v (.int .i64 a0.2.1)), (.v (.int .i64 a0.2.2.1)), (.v (.int .i64 a0.2.2.2.1))]), some (.arr 3 (.int .i64) s1.2)]⟩)) (step := (fun s : Int × (List Int) => spec_PossibleSteps_loop1 _ s.1 s.2)) _ H (by kernel_rfl) (sub_auto ?_) ?_; rotate_left; (intro s1 r v hr H); rotate_right)
        | ((repeat (first | replace H := grd_k H | replace H := out_step H (by assumption))); refine again_step H (by assumption) (sub_auto ?_))
        | ((with_reducible refine fin_mk ?_); (repeat (first | replace H := grd_k H | replace H := out_step H (by assumption))); have H := Option.some.inj H; subst H))
def G31 : Env := G30.add 44 [] spec_PossibleSteps.S
theorem G31_ok : EnvOk Try.prog G31 := G30_ok.add ent_44 fun ar h r h1 ⟨a0, y, hy, e1, e2, e3, e4⟩ => by
  subst e3 e4; exact (spec_PossibleSteps.spec a0 y hy).le e1 e2
attribute [local irreducible] spec_PossibleSteps

noncomputable def laws_vInts_loop1 (a0 : (List Int)) (a1 : (List Int)) (v2 : Int) : Option (Lp (Int) ((Unit) ⊕ (Unit))) :=
  (cond (decide (v2 < (a0.length : Int))) (grd (0 ≤ v2 ∧ v2 < (a0.length : Int)) (grd (0 ≤ v2 ∧ v2 < (a1.length : Int)) (cond (!decide ((a0.getD v2.toNat 0) = (a1.getD v2.toNat 0))) ((some (.out (Sum.inl ())))) (some (.go (w64 (v2 + (1 : Int)))))))) ((some (.out (Sum.inr ())))))
noncomputable def laws_vInts (a0 : (List Int)) (a1 : (List Int)) : Option (Bool) :=
  (cond (!decide ((a0.length : Int) = (a1.length : Int))) ((some false)) ((iter (fun s => laws_vInts_loop1 a0 a1 s) (0 : Int)).bind (Sum.elim (fun _ => (some false)) (fun _ => (some true)))))
def laws_vInts.res (_ : (List Int)) (_ : (List Int)) (y : Bool) : AV := (.bl y)
def laws_vInts.out (_ : (List Int)) (_ : (List Int)) (_ : Bool) : List (Option LB) := []
def laws_vInts.S (ar : List AV) (h : List (Option LB)) (r : AV) (h1 : List (Option LB)) : Prop := ∃ a0 a1 y, laws_vInts a0 a1 = some y ∧ leL ar [(.tree (.int .i64) a0), (.tree (.int .i64) a1)] ∧ leH h [] ∧ r = laws_vInts.res a0 a1 y ∧ h1 = laws_vInts.out a0 a1 y
theorem laws_vInts.call {ar : List AV} {h : List (Option LB)} {a0 : (List Int)} {a1 : (List Int)} {y : Bool} (H : laws_vInts a0 a1 = some y) (h0 : leLk ar [(.tree (.int .i64) a0), (.tree (.int .i64) a1)] (leHk h [])) : laws_vInts.S ar h (laws_vInts.res a0 a1 y) (laws_vInts.out a0 a1 y) := ⟨a0, a1, y, H, (args_ok h0).1, (args_ok h0).2, rfl, rfl⟩
set_option maxHeartbeats 100000000 in
set_option maxRecDepth 100000 in
theorem laws_vInts.spec (a0 : (List Int)) (a1 : (List Int)) (y : Bool) (H : laws_vInts a0 a1 = some y) : Spec Try.prog 45 [(.tree (.int .i64) a0), (.tree (.int .i64) a1)] [] (laws_vInts.res a0 a1 y) (laws_vInts.out a0 a1 y) := by
  refine spec_intro (G31_ok.at tok []) (ct := [(5, some [0, 1, 5])]) Try.func45 rfl (by kernel_rfl) (by kernel_rfl) rfl ?_
  repeat' first
    | ((with_reducible refine eqg ?_); exact rfl)
    | ((with_reducible refine KOb.mk ?_); kernel_rfl)
    | ((with_reducible intro h); (repeat (first | replace H := grd_k H | replace H := out_step H (by assumption))); first | replace H := cond_t h H | replace H := cond_f h H | exact absurd h (by decide) | skip)
    | ((with_reducible refine Ob.mk ?_); first | rfl | (repeat (first | exact grd_p H | replace H := grd_k H | replace H := out_step H (by assumption))))
    | (with_reducible exact True.intro)
    | constructor
    | ((conv => whnf); first
        | ((with_reducible refine Ob.mk ?_); first | rfl | (repeat (first | exact grd_p H | replace H := grd_k H | replace H := out_step H (by assumption))))
        | ((repeat (first | replace H := grd_k H | replace H := out_step H (by assumption))); refine loop_iter (G31_ok.at tok []) (ct := [(5, some [0, 1, 5])]) (F := (fun s1 : Int => ⟨sl [(0, (.tree (.int .i64) a0)), (1, (.tree (.int .i64) a1)), (5, (.v (.int .i64 s1)))], []⟩)) (step := (fun s : Int => laws_vInts_loop1 _ _ s)) _ H (by kernel_rfl) (sub_auto ?_) ?_; rotate_left; (intro s1 r v hr H); rotate_right)
        | ((repeat (first | replace H := grd_k H | replace H := out_step H (by assumption))); refine again_step H (by assumption) (sub_auto ?_))
        | ((with_reducible refine fin_mk ?_); (repeat (first | replace H := grd_k H | replace H := out_step H (by assumption))); have H := Option.some.inj H; subst H))
def G32 : Env := G31.add 45 [] laws_vInts.S
theorem G32_ok : EnvOk Try.prog G32 := G31_ok.add ent_45 fun ar h r h1 ⟨a0, a1, y, hy, e1, e2, e3, e4⟩ => by
  subst e3 e4; exact (laws_vInts.spec a0 a1 y hy).le e1 e2
attribute [local irreducible] laws_vInts

noncomputable def laws_FnGripSteps_loop1  (v52 : Int) (v53 : Int) (v54 : Int) (v55 : (List GripStep)) (v56 : Int) (v57 : Int) (v58 : Int) (v59 : Int) (v60 : Int) (v61 : Int) (v62 : Int) (v63 : Int) : Option (Lp (Int × Int × Int × (List GripStep) × Int × Int × Int × Int × Int × Int × Int × Int) ((Int × Int × Int × Int × Int × Int × Int × Int × Int × Int))) :=
  (cond (decide (v54 < (v55.length : Int))) (grd (0 ≤ v54 ∧ v54 < (v55.length : Int)) ((impl_StepGrip (v60, v61, v62, v63, ()) ((v55.getD v54.toNat d_GripStep).1, (v55.getD v54.toNat d_GripStep).2.1, ())).bind fun y64 => (cond y64.2 (some (.go (v52, (w64 (v53 + (1 : Int))), (w64 (v54 + (1 : Int))), v55, v56, v57, v58, v59, y64.1.1, y64.1.2.1, y64.1.2.2.1, y64.1.2.2.2.1))) (some (.go (v52, v53, (w64 (v54 + (1 : Int))), v55, v56, v57, v58, v59, v60, v61, v62, v63)))))) ((some (.out (v52, v53, v56, v57, v58, v59, v60, v61, v62, v63)))))
noncomputable def laws_FnGripSteps (a0 : (List Int)) : Option (Bool) :=
  ((laws_vBig a0).bind fun y1 => (cond y1 ((some true)) ((spec_DrawStepGrip a0).bind fun y2 => ((impl_StepGrip (y2.1.1, y2.1.2.1, y2.1.2.2.1, y2.1.2.2.2.1, ()) (y2.2.1, y2.2.2.1, ())).bind fun y3 => ((spec_StepGrip (y2.1.1, y2.1.2.1, y2.1.2.2.1, y2.1.2.2.2.1, ()) (y2.2.1, y2.2.2.1, ())).bind fun y4 => (cond (!(decide (y3.1.1 = y4.1.1) && (decide (y3.1.2.1 = y4.1.2.1) && (decide (y3.1.2.2.1 = y4.1.2.2.1) && (decide (y3.1.2.2.2.1 = y4.1.2.2.2.1) && true))))) ((some false)) (cond (!(y3.2 == y4.2)) ((some false)) ((impl_IsGripState (y2.1.1, y2.1.2.1, y2.1.2.2.1, y2.1.2.2.2.1, ())).bind fun y5 => ((spec_IsGripState (y2.1.1, y2.1.2.1, y2.1.2.2.1, y2.1.2.2.2.1, ())).bind fun y6 => (cond (!(y5 == y6)) ((some false)) (joinx (cond y3.2 (((impl_PossibleSteps (y2.1.1, y2.1.2.1, y2.1.2.2.1, y2.1.2.2.2.1, ())).bind (Sum.elim (fun _ => (some ((Tg.mk : Tg 1), [], false, y2.2.1, y2.2.2.1, y3.1.1, y3.1.2.1, y3.1.2.2.1, y3.1.2.2.2.1))) (fun y9 => (some ((Tg.mk : Tg 1), y9, true, y2.2.1, y2.2.2.1, y3.1.1, y3.1.2.1, y3.1.2.2.1, y3.1.2.2.2.1))))).bind fun z10 => ((impl_IsGripState (z10.2.2.2.2.2.1, z10.2.2.2.2.2.2.1, z10.2.2.2.2.2.2.2.1, z10.2.2.2.2.2.2.2.2, ())).bind fun y11 => (cond (!y11) (outm ((some false))) (cond (!z10.2.2.1) (outm ((some false))) ((laws_vHas z10.2.1 z10.2.2.2.1).bind fun y12 => (cond (!y12) (outm ((some false))) (cond (decide (z10.2.2.2.2.2.2.1 = (2 : Int))) (cond (!decide (z10.2.2.2.2.2.1 = (2 : Int))) (outm ((some false))) (cond (decide (z10.2.2.2.2.2.2.2.1 < (500 : Int))) (outm ((some false))) ((some (.go ()))))) ((some (.go ())))))))))) ((some (.go ())))) (fun (_ : Unit) => ((spec_DrawRunGrip a0).bind fun y14 => ((impl_RunGrip (y14.1.1, y14.1.2.1, y14.1.2.2.1, y14.1.2.2.2.1, ()) y14.2).bind fun y15 => ((spec_RunGrip (y14.1.1, y14.1.2.1, y14.1.2.2.1, y14.1.2.2.2.1, ()) y14.2).bind fun y16 => (cond (!(decide (y15.1.1 = y16.1.1) && (decide (y15.1.2.1 = y16.1.2.1) && (decide (y15.1.2.2.1 = y16.1.2.2.1) && (decide (y15.1.2.2.2.1 = y16.1.2.2.2.1) && true))))) ((some false)) (cond (!decide (y15.2.1 = y16.2.1)) ((some false)) (cond (!(y15.2.2 == y16.2.2)) ((some false)) (joinx (cond y15.2.2 ((iter (fun s => laws_FnGripSteps_loop1 s.1 s.2.1 s.2.2.1 s.2.2.2.1 s.2.2.2.2.1 s.2.2.2.2.2.1 s.2.2.2.2.2.2.1 s.2.2.2.2.2.2.2.1 s.2.2.2.2.2.2.2.2.1 s.2.2.2.2.2.2.2.2.2.1 s.2.2.2.2.2.2.2.2.2.2.1 s.2.2.2.2.2.2.2.2.2.2.2) (y15.2.1, (0 : Int), (0 : Int), y14.2, y15.1.1, y15.1.2.1, y15.1.2.2.1, y15.1.2.2.2.1, y14.1.1, y14.1.2.1, y14.1.2.2.1, y14.1.2.2.2.1)).bind (fun r65 => (cond (!(decide (r65.2.2.2.2.2.2.1 = r65.2.2.1) && (decide (r65.2.2.2.2.2.2.2.1 = r65.2.2.2.1) && (decide (r65.2.2.2.2.2.2.2.2.1 = r65.2.2.2.2.1) && (decide (r65.2.2.2.2.2.2.2.2.2 = r65.2.2.2.2.2.1) && true))))) (outm ((some false))) (cond (!decide (r65.2.1 = r65.1)) (outm ((some false))) ((some (.go ()))))))) ((some (.go ())))) (fun (_ : Unit) => ((spec_DrawPossibleSteps a0).bind fun y67 => (((impl_PossibleSteps (y67.1, y67.2.1, y67.2.2.1, y67.2.2.2.1, ())).bind (Sum.elim (fun _ => (some ((Tg.mk : Tg 2), [], false, y67.1, y67.2.1, y67.2.2.1, y67.2.2.2.1))) (fun y70 => (some ((Tg.mk : Tg 2), y70, true, y67.1, y67.2.1, y67.2.2.1, y67.2.2.2.1))))).bind fun z71 => ((spec_PossibleSteps (z71.2.2.2.1, z71.2.2.2.2.1, z71.2.2.2.2.2.1, z71.2.2.2.2.2.2, ())).bind fun y72 => (cond (z71.2.2.1 == y72.2) ((laws_vInts z71.2.1 y72.1).bind fun y73 => (some y73)) ((some false))))))))))))))))))))))))))
def laws_FnGripSteps.res (_ : (List Int)) (y : Bool) : AV := (.bl y)
def laws_FnGripSteps.out (_ : (List Int)) (_ : Bool) : List (Option LB) := []
def laws_FnGripSteps.S (ar : List AV) (h : List (Option LB)) (r : AV) (h1 : List (Option LB)) : Prop := ∃ a0 y, laws_FnGripSteps a0 = some y ∧ leL ar [(.tree (.int .u8) a0)] ∧ leH h [] ∧ r = laws_FnGripSteps.res a0 y ∧ h1 = laws_FnGripSteps.out a0 y
theorem laws_FnGripSteps.call {ar : List AV} {h : List (Option LB)} {a0 : (List Int)} {y : Bool} (H : laws_FnGripSteps a0 = some y) (h0 : leLk ar [(.tree (.int .u8) a0)] (leHk h [])) : laws_FnGripSteps.S ar h (laws_FnGripSteps.res a0 y) (laws_FnGripSteps.out a0 y) := ⟨a0, y, H, (args_ok h0).1, (args_ok h0).2, rfl, rfl⟩
set_option maxHeartbeats 100000000 in
set_option maxRecDepth 100000 in
theorem laws_FnGripSteps.spec (a0 : (List Int)) (y : Bool) (H : laws_FnGripSteps a0 = some y) : Spec Try.prog 6 [(.tree (.int .u8) a0)] [] (laws_FnGripSteps.res a0 y) (laws_FnGripSteps.out a0 y) := by
  refine spec_intro (G32_ok.at tok []) (ct := [(10, none), (12, none), (28, none), (30, none), (5, some [0, 3, 4, 5, 6, 52, 53, 54, 57, 58, 59, 60, 61, 73, 74, 77, 78, 79, 80, 81, 84, 85, 86, 87, 88, 89, 90, 91, 92, 93, 94, 95, 96, 121, 122, 123, 126, 127, 128, 155, 156, 157, 175, 176, 177]), (7, some [0, 3, 4, 5, 6, 62, 73, 74, 77, 78, 79, 80, 81, 84, 85, 86, 87, 88, 89, 90, 91, 92, 93, 94, 95, 96, 121, 122, 123, 126, 127, 128, 155, 156, 157, 175, 176, 177]), (11, some [0, 97, 121, 122, 123, 126, 127, 128, 155, 156, 157, 175, 176, 177]), (14, some [0, 11, 12, 13, 14, 15, 121, 122, 123, 126, 127, 128, 155, 156, 157, 175, 176, 177]), (16, some [0, 11, 12, 13, 14, 15, 129, 155, 156, 157, 175, 176, 177]), (23, some [0, 12, 13, 14, 19, 20, 21, 22, 23, 155, 156, 157, 175, 176, 177]), (27, some [0, 158, 175, 176, 177])]) Try.func6 rfl (by kernel_rfl) (by kernel_rfl) rfl ?_
  repeat' first
    | (with_reducible exact (outm_no H).elim)
    | ((replace H := out_step H (by assumption)); exact (outm_no H).elim)
    | ((with_reducible refine eqg ?_); exact rfl)
    | ((with_reducible refine KOb.mk ?_); kernel_rfl)
    | ((with_reducible intro h); (repeat (first | replace H := grd_k H | replace H := out_step H (by assumption) | replace H := outm_out H)); first | replace H := cond_t h H | replace H := cond_f h H | exact absurd h (by decide) | skip)
    | ((with_reducible refine Ob.mk ?_); first | rfl | (repeat (first | exact grd_p H | replace H := grd_k H | replace H := out_step H (by assumption) | replace H := outm_out H)))
    | (with_reducible exact True.intro)
    | constructor
    | ((conv => whnf); first
        | ((with_reducible refine Ob.mk ?_); first | rfl | (repeat (first | exact grd_p H | replace H := grd_k H | replace H := out_step H (by assumption) | replace H := outm_out H)))
        | ((with_reducible refine CallW.mk ?_); (repeat (first | replace H := grd_k H | replace H := out_step H (by assumption) | replace H := outm_out H)); replace H := bind_some H; obtain ⟨y, hy, H⟩ := H; first | ((with_reducible have hz : laws_vBig _ = some y := hy); clear hz; refine Exists.intro _ (Exists.intro _ ⟨laws_vBig.call hy ?_, rfl, rfl, ?_⟩)) | ((with_reducible have hz : spec_DrawStepGrip _ = some y := hy); clear hz; refine Exists.intro _ (Exists.intro _ ⟨spec_DrawStepGrip.call hy ?_, rfl, rfl, ?_⟩)) | ((with_reducible have hz : impl_StepGrip _ _ = some y := hy); clear hz; refine Exists.intro _ (Exists.intro _ ⟨impl_StepGrip.call hy ?_, rfl, rfl, ?_⟩)) | ((with_reducible have hz : spec_StepGrip _ _ = some y := hy); clear hz; refine Exists.intro _ (Exists.intro _ ⟨spec_StepGrip.call hy ?_, rfl, rfl, ?_⟩)) | ((with_reducible have hz : impl_IsGripState _ = some y := hy); clear hz; refine Exists.intro _ (Exists.intro _ ⟨impl_IsGripState.call hy ?_, rfl, rfl, ?_⟩)) | ((with_reducible have hz : spec_IsGripState _ = some y := hy); clear hz; refine Exists.intro _ (Exists.intro _ ⟨spec_IsGripState.call hy ?_, rfl, rfl, ?_⟩)) | ((with_reducible have hz : impl_PossibleSteps _ = some y := hy); clear hz; rcases y with y | y <;> refine Exists.intro _ (Exists.intro _ ⟨impl_PossibleSteps.call hy ?_, rfl, rfl, ?_⟩)) | ((with_reducible have hz : laws_vHas _ _ = some y := hy); clear hz; refine Exists.intro _ (Exists.intro _ ⟨laws_vHas.call hy ?_, rfl, rfl, ?_⟩)) | ((with_reducible have hz : spec_DrawRunGrip _ = some y := hy); clear hz; refine Exists.intro _ (Exists.intro _ ⟨spec_DrawRunGrip.call hy ?_, rfl, rfl, ?_⟩)) | ((with_reducible have hz : impl_RunGrip _ _ = some y := hy); clear hz; refine Exists.intro _ (Exists.intro _ ⟨impl_RunGrip.call hy ?_, rfl, rfl, ?_⟩)) | ((with_reducible have hz : spec_RunGrip _ _ = some y := hy); clear hz; refine Exists.intro _ (Exists.intro _ ⟨spec_RunGrip.call hy ?_, rfl, rfl, ?_⟩)) | ((with_reducible have hz : spec_DrawPossibleSteps _ = some y := hy); clear hz; refine Exists.intro _ (Exists.intro _ ⟨spec_DrawPossibleSteps.call hy ?_, rfl, rfl, ?_⟩)) | ((with_reducible have hz : spec_PossibleSteps _ = some y := hy); clear hz; refine Exists.intro _ (Exists.intro _ ⟨spec_PossibleSteps.call hy ?_, rfl, rfl, ?_⟩)) | ((with_reducible have hz : laws_vInts _ _ = some y := hy); clear hz; refine Exists.intro _ (Exists.intro _ ⟨laws_vInts.call hy ?_, rfl, rfl, ?_⟩)))
        | ((repeat (first | replace H := grd_k H | replace H := out_step H (by assumption) | replace H := outm_out H)); refine loop_iter (G32_ok.at tok []) (ct := [(10, none), (12, none), (28, none), (30, none), (5, some [0, 3, 4, 5, 6, 52, 53, 54, 57, 58, 59, 60, 61, 73, 74, 77, 78, 79, 80, 81, 84, 85, 86, 87, 88, 89, 90, 91, 92, 93, 94, 95, 96, 121, 122, 123, 126, 127, 128, 155, 156, 157, 175, 176, 177]), (7, some [0, 3, 4, 5, 6, 62, 73, 74, 77, 78, 79, 80, 81, 84, 85, 86, 87, 88, 89, 90, 91, 92, 93, 94, 95, 96, 121, 122, 123, 126, 127, 128, 155, 156, 157, 175, 176, 177]), (11, some [0, 97, 121, 122, 123, 126, 127, 128, 155, 156, 157, 175, 176, 177]), (14, some [0, 11, 12, 13, 14, 15, 121, 122, 123, 126, 127, 128, 155, 156, 157, 175, 176, 177]), (16, some [0, 11, 12, 13, 14, 15, 129, 155, 156, 157, 175, 176, 177]), (23, some [0, 12, 13, 14, 19, 20, 21, 22, 23, 155, 156, 157, 175, 176, 177]), (27, some [0, 158, 175, 176, 177])]) (F := (fun s1 : Int × Int × Int × (List GripStep) × Int × Int × Int × Int × Int × Int × Int × Int => ⟨sl [(0, (.tree (.int .u8) a0)), (12, (.own 0)), (13, (.loc 1 0 0)), (14, (.v (.int .i64 s1.1))), (19, (.loc 2 0 0)), (20, (.v (.int .i64 s1.2.1))), (21, (.v (.int .i64 s1.2.2.1)))], [some (.arr 53 ty_GripStep s1.2.2.2.1), some (.box 26 [(.v (.int .i64 s1.2.2.2.2.1)), (.v (.int .i64 s1.2.2.2.2.2.1)), (.v (.int .i64 s1.2.2.2.2.2.2.1)), (.v (.int .i64 s1.2.2.2.2.2.2.2.1))]), some (.box 26 [(.v (.int .i64 s1.2.2.2.2.2.2.2.2.1)), (.v (.int .i64 s1.2.2.2.2.2.2.2.2.2.1)), (.v (.int .i64 s1.2.2.2.2.2.2.2.2.2.2.1)), (.v (.int .i64 s1.2.2.2.2.2.2.2.2.2.2.2))])]⟩)) (step := (fun s : Int × Int × Int × (List GripStep) × Int × Int × Int × Int × Int × Int × Int × Int => laws_FnGripSteps_loop1 s.1 s.2.1 s.2.2.1 s.2.2.2.1 s.2.2.2.2.1 s.2.2.2.2.2.1 s.2.2.2.2.2.2.1 s.2.2.2.2.2.2.2.1 s.2.2.2.2.2.2.2.2.1 s.2.2.2.2.2.2.2.2.2.1 s.2.2.2.2.2.2.2.2.2.2.1 s.2.2.2.2.2.2.2.2.2.2.2)) _ H (by kernel_rfl) (sub_auto ?_) ?_; rotate_left; (intro s1 r v hr H); rotate_right)
        | ((with_reducible refine cutAt (id := 10) ?_); (repeat (first | replace H := grd_k H | replace H := out_step H (by assumption) | replace H := outm_out H)); first | (replace H := bind_some H; obtain ⟨z, hz, H⟩ := H; have hT : Tg 1 × (List Int) × Bool × Int × Int × Int × Int × Int × Int := z; clear hT; refine CutC.mk (id := 10) ⟨sl [(0, (.tree (.int .u8) a0)), (4, (.loc 0 0 0)), (5, (.loc 1 0 0)), (9, (.tree (.int .i64) z.2.1)), (10, (.bl z.2.2.1))], [some (.box 53 [(.v (.int .i64 z.2.2.2.1)), (.v (.int .i64 z.2.2.2.2.1))]), some (.box 26 [(.v (.int .i64 z.2.2.2.2.2.1)), (.v (.int .i64 z.2.2.2.2.2.2.1)), (.v (.int .i64 z.2.2.2.2.2.2.2.1)), (.v (.int .i64 z.2.2.2.2.2.2.2.2))])]⟩ ?_ ?_; (replace H := hz)))
        | ((with_reducible refine cutAt (id := 12) ?_); (repeat (first | replace H := grd_k H | replace H := out_step H (by assumption) | replace H := outm_out H)); first | (replace H := joinx_some H; rcases H with ⟨z, hz, H⟩ | H; rotate_left; (with_reducible refine CutC.no ?_); rotate_right; (refine CutC.mk (id := 12) ⟨sl [(0, (.tree (.int .u8) a0))], []⟩ ?_ ?_; (replace H := hz))))
        | ((with_reducible refine cutAt (id := 28) ?_); (repeat (first | replace H := grd_k H | replace H := out_step H (by assumption) | replace H := outm_out H)); first | (replace H := joinx_some H; rcases H with ⟨z, hz, H⟩ | H; rotate_left; (with_reducible refine CutC.no ?_); rotate_right; (refine CutC.mk (id := 28) ⟨sl [(0, (.tree (.int .u8) a0))], []⟩ ?_ ?_; (replace H := hz))))
        | ((with_reducible refine cutAt (id := 30) ?_); (repeat (first | replace H := grd_k H | replace H := out_step H (by assumption) | replace H := outm_out H)); first | (replace H := bind_some H; obtain ⟨z, hz, H⟩ := H; have hT : Tg 2 × (List Int) × Bool × Int × Int × Int × Int := z; clear hT; refine CutC.mk (id := 30) ⟨sl [(24, (.loc 0 0 0)), (25, (.tree (.int .i64) z.2.1)), (26, (.bl z.2.2.1))], [some (.box 26 [(.v (.int .i64 z.2.2.2.1)), (.v (.int .i64 z.2.2.2.2.1)), (.v (.int .i64 z.2.2.2.2.2.1)), (.v (.int .i64 z.2.2.2.2.2.2))])]⟩ ?_ ?_; (replace H := hz)))
        | ((repeat (first | replace H := grd_k H | replace H := out_step H (by assumption) | replace H := outm_out H)); have H := Option.some.inj H; subst H; with_reducible refine sub_auto ?_)
        | ((repeat (first | replace H := grd_k H | replace H := out_step H (by assumption) | replace H := outm_out H)); have H := go_inj H; subst H; with_reducible refine sub_auto ?_)
        | ((repeat (first | replace H := grd_k H | replace H := out_step H (by assumption) | replace H := outm_out H)); exact (go_out H).elim)
        | ((repeat (first | replace H := grd_k H | replace H := out_step H (by assumption) | replace H := outm_out H)); refine again_step H (by assumption) (sub_auto ?_))
        | ((with_reducible refine fin_mk ?_); (repeat (first | replace H := grd_k H | replace H := out_step H (by assumption) | replace H := outm_out H)); have H := Option.some.inj H; subst H))
def G33 : Env := G32.add 6 [] laws_FnGripSteps.S
theorem G33_ok : EnvOk Try.prog G33 := G32_ok.add ent_6 fun ar h r h1 ⟨a0, y, hy, e1, e2, e3, e4⟩ => by
  subst e3 e4; exact (laws_FnGripSteps.spec a0 y hy).le e1 e2
attribute [local irreducible] laws_FnGripSteps

end Go.Proofs.Ytmknleaomfpmmaa
