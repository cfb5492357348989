/-
  Contracts, printed by a program.
-/
import Derived.Test.YtmknleaomfpmmaaC12r1
namespace Go.Proofs.Ytmknleaomfpmmaa
open Go.RowKit
attribute [local irreducible] Ob loopwp Sub Spec Fin Again CallW CutC KOb iter joinx outm

attribute [local irreducible] laws_vBig spec_l1Cur_next spec_l1Cur_pick spec_l1Cur_among spec_l1Cur_one spec_l1Cur_gripStep spec_l1In spec_l21Good spec_l21Step spec_l1Least spec_l21Move spec_l21Make

noncomputable def spec_StepGrip (a0 : GripState) (a1 : GripStep) : Option (GripState × Bool) :=
  ((spec_l21Good (a0.1, a0.2.1, a0.2.2.1, a0.2.2.2.1, ())).bind fun y1 => (cond (!y1) ((some (((0 : Int), (0 : Int), (0 : Int), (0 : Int), ()), false))) ((spec_l21Step (a0.1, a0.2.1, a0.2.2.1, a0.2.2.2.1, ()) (a1.1, a1.2.1, ())).bind fun y2 => (cond (!y2) ((some (((0 : Int), (0 : Int), (0 : Int), (0 : Int), ()), false))) ((spec_l21Make (a0.1, a0.2.1, a0.2.2.1, a0.2.2.2.1, ()) (a1.1, a1.2.1, ())).bind fun y3 => (cond (!y3.2) ((some (((0 : Int), (0 : Int), (0 : Int), (0 : Int), ()), false))) ((some ((y3.1.1, y3.1.2.1, y3.1.2.2.1, y3.1.2.2.2.1, ()), true)))))))))
def spec_StepGrip.res (_ : GripState) (_ : GripStep) (y : GripState × Bool) : AV := (.tup [(.agg [(.v (.int .i64 y.1.1)), (.v (.int .i64 y.1.2.1)), (.v (.int .i64 y.1.2.2.1)), (.v (.int .i64 y.1.2.2.2.1))]), (.bl y.2)])
def spec_StepGrip.out (_ : GripState) (_ : GripStep) (_ : GripState × Bool) : List (Option LB) := []
def spec_StepGrip.S (ar : List AV) (h : List (Option LB)) (r : AV) (h1 : List (Option LB)) : Prop := ∃ a0 a1 y, spec_StepGrip a0 a1 = some y ∧ leL ar [(.agg [(.v (.int .i64 a0.1)), (.v (.int .i64 a0.2.1)), (.v (.int .i64 a0.2.2.1)), (.v (.int .i64 a0.2.2.2.1))]), (.agg [(.v (.int .i64 a1.1)), (.v (.int .i64 a1.2.1))])] ∧ leH h [] ∧ r = spec_StepGrip.res a0 a1 y ∧ h1 = spec_StepGrip.out a0 a1 y
theorem spec_StepGrip.call {ar : List AV} {h : List (Option LB)} {a0 : GripState} {a1 : GripStep} {y : GripState × Bool} (H : spec_StepGrip a0 a1 = some y) (h0 : leLk ar [(.agg [(.v (.int .i64 a0.1)), (.v (.int .i64 a0.2.1)), (.v (.int .i64 a0.2.2.1)), (.v (.int .i64 a0.2.2.2.1))]), (.agg [(.v (.int .i64 a1.1)), (.v (.int .i64 a1.2.1))])] (leHk h [])) : spec_StepGrip.S ar h (spec_StepGrip.res a0 a1 y) (spec_StepGrip.out a0 a1 y) := ⟨a0, a1, y, H, (args_ok h0).1, (args_ok h0).2, rfl, rfl⟩
set_option maxHeartbeats 100000000 in
set_option maxRecDepth 100000 in
theorem spec_StepGrip.spec (a0 : GripState) (a1 : GripStep) (y : GripState × Bool) (H : spec_StepGrip a0 a1 = some y) : Spec Try.prog 35 [(.agg [(.v (.int .i64 a0.1)), (.v (.int .i64 a0.2.1)), (.v (.int .i64 a0.2.2.1)), (.v (.int .i64 a0.2.2.2.1))]), (.agg [(.v (.int .i64 a1.1)), (.v (.int .i64 a1.2.1))])] [] (spec_StepGrip.res a0 a1 y) (spec_StepGrip.out a0 a1 y) := by
  refine spec_intro (G12_ok.at tok []) (ct := [(3, some [2, 3, 4])]) Try.func35 rfl (by kernel_rfl) (by kernel_rfl) rfl ?_
  repeat' first
    | ((with_reducible refine eqg ?_); exact rfl)
    | ((with_reducible refine KOb.mk ?_); kernel_rfl)
    | ((with_reducible intro h); (repeat (first | replace H := grd_k H | replace H := out_step H (by assumption))); first | replace H := cond_t h H | replace H := cond_f h H | exact absurd h (by decide) | skip)
    | ((with_reducible refine Ob.mk ?_); first | rfl | (repeat (first | exact grd_p H | replace H := grd_k H | replace H := out_step H (by assumption))))
    | (with_reducible exact True.intro)
    | constructor
    | ((conv => whnf); first
        | ((with_reducible refine Ob.mk ?_); first | rfl | (repeat (first | exact grd_p H | replace H := grd_k H | replace H := out_step H (by assumption))))
        | ((with_reducible refine CallW.mk ?_); (repeat (first | replace H := grd_k H | replace H := out_step H (by assumption))); replace H := bind_some H; obtain ⟨y, hy, H⟩ := H; first | ((with_reducible have hz : spec_l21Good _ = some y := hy); clear hz; refine Exists.intro _ (Exists.intro _ ⟨spec_l21Good.call hy ?_, rfl, rfl, ?_⟩)) | ((with_reducible have hz : spec_l21Step _ _ = some y := hy); clear hz; refine Exists.intro _ (Exists.intro _ ⟨spec_l21Step.call hy ?_, rfl, rfl, ?_⟩)) | ((with_reducible have hz : spec_l21Make _ _ = some y := hy); clear hz; refine Exists.intro _ (Exists.intro _ ⟨spec_l21Make.call hy ?_, rfl, rfl, ?_⟩)))
        | ((with_reducible refine fin_mk ?_); (repeat (first | replace H := grd_k H | replace H := out_step H (by assumption))); have H := Option.some.inj H; subst H))
def G13 : Env := G12.add 35 [] spec_StepGrip.S
theorem G13_ok : EnvOk Try.prog G13 := G12_ok.add ent_35 fun ar h r h1 ⟨a0, a1, y, hy, e1, e2, e3, e4⟩ => by
  subst e3 e4; exact (spec_StepGrip.spec a0 a1 y hy).le e1 e2
attribute [local irreducible] spec_StepGrip

noncomputable def spec_l1Cur_gripState_loop1  (v20 : Int) (v21 : (List Int)) (v22 : Int) (v23 : Int) (v24 : Int) (v25 : Int) (v26 : Int) (v27 : Int) : Option (Lp (Int × (List Int) × Int × Int × Int × Int × Int × Int) (((List Int) × Int × Int × Int × Int × Int × Int))) :=
  (cond (decide ((0 : Int) < v20)) ((spec_l1Cur_gripStep (v21, v22, v23, ()) (v24, v25, v26, v27, ())).bind fun y28 => ((spec_StepGrip (v24, v25, v26, v27, ()) (y28.1.1, y28.1.2.1, ())).bind fun y29 => (cond y29.2 (some (.go ((w64 (v20 - (1 : Int))), y28.2.1, y28.2.2.1, y28.2.2.2.1, y29.1.1, y29.1.2.1, y29.1.2.2.1, y29.1.2.2.2.1))) (some (.go ((w64 (v20 - (1 : Int))), y28.2.1, y28.2.2.1, y28.2.2.2.1, v24, v25, v26, v27)))))) ((some (.out (v21, v22, v23, v24, v25, v26, v27)))))
noncomputable def spec_l1Cur_gripState (a0 : l1Cur) : Option (GripState × l1Cur) :=
  ((spec_l1Cur_among (a0.1, a0.2.1, a0.2.2.1, ()) [(0 : Int), (0 : Int), (1 : Int), (3 : Int)]).bind fun y1 => ((spec_l1Cur_pick (y1.2.1, y1.2.2.1, y1.2.2.2.1, ()) (12 : Int)).bind fun y2 => ((iter (fun s => spec_l1Cur_gripState_loop1 s.1 s.2.1 s.2.2.1 s.2.2.2.1 s.2.2.2.2.1 s.2.2.2.2.2.1 s.2.2.2.2.2.2.1 s.2.2.2.2.2.2.2) (y2.1, y2.2.1, y2.2.2.1, y2.2.2.2.1, (0 : Int), (0 : Int), (0 : Int), y1.1)).bind (fun r30 => ((spec_l1Cur_pick (r30.1, r30.2.1, r30.2.2.1, ()) (24 : Int)).bind fun y31 => (cond (decide (y31.1 = (0 : Int))) ((spec_l1Cur_among (y31.2.1, y31.2.2.1, y31.2.2.2.1, ()) [((-1) : Int), (0 : Int), (2 : Int), (4 : Int), (5 : Int)]).bind fun y32 => (some ((y32.1, r30.2.2.2.2.1, r30.2.2.2.2.2.1, r30.2.2.2.2.2.2, ()), (y32.2.1, y32.2.2.1, y32.2.2.2.1, ())))) (cond (decide (y31.1 = (1 : Int))) ((spec_l1Cur_among (y31.2.1, y31.2.2.1, y31.2.2.2.1, ()) [((-1) : Int), (0 : Int), (1 : Int), (2 : Int), (3 : Int), (4 : Int)]).bind fun y33 => (some ((r30.2.2.2.1, y33.1, r30.2.2.2.2.2.1, r30.2.2.2.2.2.2, ()), (y33.2.1, y33.2.2.1, y33.2.2.2.1, ())))) (cond (decide (y31.1 = (2 : Int))) ((spec_l1Cur_among (y31.2.1, y31.2.2.1, y31.2.2.2.1, ()) [((-1) : Int), (0 : Int), (500 : Int), (2000 : Int), (2001 : Int)]).bind fun y34 => (some ((r30.2.2.2.1, r30.2.2.2.2.1, y34.1, r30.2.2.2.2.2.2, ()), (y34.2.1, y34.2.2.1, y34.2.2.2.1, ())))) (cond (decide (y31.1 = (3 : Int))) ((spec_l1Cur_among (y31.2.1, y31.2.2.1, y31.2.2.2.1, ()) [((-1) : Int), (4 : Int)]).bind fun y35 => (some ((r30.2.2.2.1, r30.2.2.2.2.1, r30.2.2.2.2.2.1, y35.1, ()), (y35.2.1, y35.2.2.1, y35.2.2.2.1, ())))) ((some ((r30.2.2.2.1, r30.2.2.2.2.1, r30.2.2.2.2.2.1, r30.2.2.2.2.2.2, ()), (y31.2.1, y31.2.2.1, y31.2.2.2.1, ())))))))))))))
def spec_l1Cur_gripState.res (_ : l1Cur) (y : GripState × l1Cur) : AV := (.agg [(.v (.int .i64 y.1.1)), (.v (.int .i64 y.1.2.1)), (.v (.int .i64 y.1.2.2.1)), (.v (.int .i64 y.1.2.2.2.1))])
def spec_l1Cur_gripState.out (_ : l1Cur) (y : GripState × l1Cur) : List (Option LB) := [some (.box 136 [(.tree (.int .u8) y.2.1), (.v (.int .i64 y.2.2.1)), (.v (.int .u64 y.2.2.2.1))])]
def spec_l1Cur_gripState.S (ar : List AV) (h : List (Option LB)) (r : AV) (h1 : List (Option LB)) : Prop := ∃ a0 y, spec_l1Cur_gripState a0 = some y ∧ leL ar [(.loc 0 0 0)] ∧ leH h [some (.box 136 [(.tree (.int .u8) a0.1), (.v (.int .i64 a0.2.1)), (.v (.int .u64 a0.2.2.1))])] ∧ r = spec_l1Cur_gripState.res a0 y ∧ h1 = spec_l1Cur_gripState.out a0 y
theorem spec_l1Cur_gripState.call {ar : List AV} {h : List (Option LB)} {a0 : l1Cur} {y : GripState × l1Cur} (H : spec_l1Cur_gripState a0 = some y) (h0 : leLk ar [(.loc 0 0 0)] (leHk h [some (.box 136 [(.tree (.int .u8) a0.1), (.v (.int .i64 a0.2.1)), (.v (.int .u64 a0.2.2.1))])])) : spec_l1Cur_gripState.S ar h (spec_l1Cur_gripState.res a0 y) (spec_l1Cur_gripState.out a0 y) := ⟨a0, y, H, (args_ok h0).1, (args_ok h0).2, rfl, rfl⟩
set_option maxHeartbeats 100000000 in
set_option maxRecDepth 100000 in
theorem spec_l1Cur_gripState.spec (a0 : l1Cur) (y : GripState × l1Cur) (H : spec_l1Cur_gripState a0 = some y) : Spec Try.prog 114 [(.loc 0 0 0)] [some (.box 136 [(.tree (.int .u8) a0.1), (.v (.int .i64 a0.2.1)), (.v (.int .u64 a0.2.2.1))])] (spec_l1Cur_gripState.res a0 y) (spec_l1Cur_gripState.out a0 y) := by
  refine spec_intro (G13_ok.at tok []) (ct := [(4, some [0, 2, 3, 4]), (10, some [0, 2, 3, 28, 29])]) Try.func114 rfl (by kernel_rfl) (by kernel_rfl) rfl ?_
  repeat' first
    | ((with_reducible refine eqg ?_); exact rfl)
    | ((with_reducible refine KOb.mk ?_); kernel_rfl)
    | ((with_reducible intro h); (repeat (first | replace H := grd_k H | replace H := out_step H (by assumption))); first | replace H := cond_t h H | replace H := cond_f h H | exact absurd h (by decide) | skip)
    | ((with_reducible refine Ob.mk ?_); first | rfl | (repeat (first | exact grd_p H | replace H := grd_k H | replace H := out_step H (by assumption))))
    | (with_reducible exact True.intro)
    | constructor
    | ((conv => whnf); first
        | ((with_reducible refine Ob.mk ?_); first | rfl | (repeat (first | exact grd_p H | replace H := grd_k H | replace H := out_step H (by assumption))))
        | ((with_reducible refine CallW.mk ?_); (repeat (first | replace H := grd_k H | replace H := out_step H (by assumption))); replace H := bind_some H; obtain ⟨y, hy, H⟩ := H; first | ((with_reducible have hz : spec_l1Cur_among _ _ = some y := hy); clear hz; refine Exists.intro _ (Exists.intro _ ⟨spec_l1Cur_among.call hy ?_, rfl, rfl, ?_⟩)) | ((with_reducible have hz : spec_l1Cur_pick _ _ = some y := hy); clear hz; refine Exists.intro _ (Exists.intro _ ⟨spec_l1Cur_pick.call hy ?_, rfl, rfl, ?_⟩)) | ((with_reducible have hz : spec_l1Cur_gripStep _ _ = some y := hy); clear hz; refine Exists.intro _ (Exists.intro _ ⟨spec_l1Cur_gripStep.call hy ?_, rfl, rfl, ?_⟩)) | ((with_reducible have hz : spec_StepGrip _ _ = some y := hy); clear hz; refine Exists.intro _ (Exists.intro _ ⟨spec_StepGrip.call hy ?_, rfl, rfl, ?_⟩)))
        | ((repeat (first | replace H := grd_k H | replace H := out_step H (by assumption))); refine loop_iter (G13_ok.at tok []) (ct := [(4, some [0, 2, 3, 4]), (10, some [0, 2, 3, 28, 29])]) (F := (fun s1 : Int × (List Int) × Int × Int × Int × Int × Int × Int => ⟨sl [(0, (.loc 0 0 0)), (2, (.loc 1 0 0)), (3, (.loc 2 0 0)), (4, (.v (.int .i64 s1.1)))], [some (.box 136 [(.tree (.int .u8) s1.2.1), (.v (.int .i64 s1.2.2.1)), (.v (.int .u64 s1.2.2.2.1))]), some (.box 26 [(.v (.int .i64 (0 : Int))), (.v (.int .i64 (0 : Int))), (.v (.int .i64 (0 : Int))), (.v (.int .i64 (0 : Int)))]), some (.box 26 [(.v (.int .i64 s1.2.2.2.2.1)), (.v (.int .i64 s1.2.2.2.2.2.1)), (.v (.int .i64 s1.2.2.2.2.2.2.1)), (.v (.int .i64 s1.2.2.2.2.2.2.2))])]⟩)) (step := (fun s : Int × (List Int) × Int × Int × Int × Int × Int × Int => spec_l1Cur_gripState_loop1 s.1 s.2.1 s.2.2.1 s.2.2.2.1 s.2.2.2.2.1 s.2.2.2.2.2.1 s.2.2.2.2.2.2.1 s.2.2.2.2.2.2.2)) _ H (by kernel_rfl) (sub_auto ?_) ?_; rotate_left; (intro s1 r v hr H); rotate_right)
        | ((repeat (first | replace H := grd_k H | replace H := out_step H (by assumption))); refine again_step H (by assumption) (sub_auto ?_))
        | ((with_reducible refine fin_mk ?_); (repeat (first | replace H := grd_k H | replace H := out_step H (by assumption))); have H := Option.some.inj H; subst H))
def G14 : Env := G13.add 114 [true] spec_l1Cur_gripState.S
theorem G14_ok : EnvOk Try.prog G14 := G13_ok.add ent_114 fun ar h r h1 ⟨a0, y, hy, e1, e2, e3, e4⟩ => by
  subst e3 e4; exact (spec_l1Cur_gripState.spec a0 y hy).le e1 e2
attribute [local irreducible] spec_l1Cur_gripState

noncomputable def spec_DrawStepGrip (a0 : (List Int)) : Option (GripState × GripStep) :=
  ((spec_l1Cur_gripState (a0, (0 : Int), (0 : Int), ())).bind fun y1 => ((spec_l1Cur_gripStep (y1.2.1, y1.2.2.1, y1.2.2.2.1, ()) (y1.1.1, y1.1.2.1, y1.1.2.2.1, y1.1.2.2.2.1, ())).bind fun y2 => (some ((y1.1.1, y1.1.2.1, y1.1.2.2.1, y1.1.2.2.2.1, ()), (y2.1.1, y2.1.2.1, ())))))
def spec_DrawStepGrip.res (_ : (List Int)) (y : GripState × GripStep) : AV := (.tup [(.agg [(.v (.int .i64 y.1.1)), (.v (.int .i64 y.1.2.1)), (.v (.int .i64 y.1.2.2.1)), (.v (.int .i64 y.1.2.2.2.1))]), (.agg [(.v (.int .i64 y.2.1)), (.v (.int .i64 y.2.2.1))])])
def spec_DrawStepGrip.out (_ : (List Int)) (_ : GripState × GripStep) : List (Option LB) := []
def spec_DrawStepGrip.S (ar : List AV) (h : List (Option LB)) (r : AV) (h1 : List (Option LB)) : Prop := ∃ a0 y, spec_DrawStepGrip a0 = some y ∧ leL ar [(.tree (.int .u8) a0)] ∧ leH h [] ∧ r = spec_DrawStepGrip.res a0 y ∧ h1 = spec_DrawStepGrip.out a0 y
theorem spec_DrawStepGrip.call {ar : List AV} {h : List (Option LB)} {a0 : (List Int)} {y : GripState × GripStep} (H : spec_DrawStepGrip a0 = some y) (h0 : leLk ar [(.tree (.int .u8) a0)] (leHk h [])) : spec_DrawStepGrip.S ar h (spec_DrawStepGrip.res a0 y) (spec_DrawStepGrip.out a0 y) := ⟨a0, y, H, (args_ok h0).1, (args_ok h0).2, rfl, rfl⟩
set_option maxHeartbeats 100000000 in
set_option maxRecDepth 100000 in
theorem spec_DrawStepGrip.spec (a0 : (List Int)) (y : GripState × GripStep) (H : spec_DrawStepGrip a0 = some y) : Spec Try.prog 33 [(.tree (.int .u8) a0)] [] (spec_DrawStepGrip.res a0 y) (spec_DrawStepGrip.out a0 y) := by
  refine spec_intro (G14_ok.at tok []) (ct := []) Try.func33 rfl (by kernel_rfl) (by kernel_rfl) rfl ?_
  repeat' first
    | ((with_reducible refine eqg ?_); exact rfl)
    | ((with_reducible refine KOb.mk ?_); kernel_rfl)
    | ((with_reducible intro h); (repeat (first | replace H := grd_k H | replace H := out_step H (by assumption))); first | replace H := cond_t h H | replace H := cond_f h H | exact absurd h (by decide) | skip)
    | ((with_reducible refine Ob.mk ?_); first | rfl | (repeat (first | exact grd_p H | replace H := grd_k H | replace H := out_step H (by assumption))))
    | (with_reducible exact True.intro)
    | constructor
    | ((conv => whnf); first
        | ((with_reducible refine Ob.mk ?_); first | rfl | (repeat (first | exact grd_p H | replace H := grd_k H | replace H := out_step H (by assumption))))
        | ((with_reducible refine CallW.mk ?_); (repeat (first | replace H := grd_k H | replace H := out_step H (by assumption))); replace H := bind_some H; obtain ⟨y, hy, H⟩ := H; first | ((with_reducible have hz : spec_l1Cur_gripState _ = some y := hy); clear hz; refine Exists.intro _ (Exists.intro _ ⟨spec_l1Cur_gripState.call hy ?_, rfl, rfl, ?_⟩)) | ((with_reducible have hz : spec_l1Cur_gripStep _ _ = some y := hy); clear hz; refine Exists.intro _ (Exists.intro _ ⟨spec_l1Cur_gripStep.call hy ?_, rfl, rfl, ?_⟩)))
        | ((with_reducible refine fin_mk ?_); (repeat (first | replace H := grd_k H | replace H := out_step H (by assumption))); have H := Option.some.inj H; subst H))
def G15 : Env := G14.add 33 [] spec_DrawStepGrip.S
theorem G15_ok : EnvOk Try.prog G15 := G14_ok.add ent_33 fun ar h r h1 ⟨a0, y, hy, e1, e2, e3, e4⟩ => by
  subst e3 e4; exact (spec_DrawStepGrip.spec a0 y hy).le e1 e2
attribute [local irreducible] spec_DrawStepGrip

noncomputable def impl_within (a0 : Int) (a1 : Int) (a2 : Int) : Option (Bool) :=
  (cond (decide (a1 ≤ a0)) ((some (decide (a0 ≤ a2)))) ((some false)))
def impl_within.res (_ : Int) (_ : Int) (_ : Int) (y : Bool) : AV := (.bl y)
def impl_within.out (_ : Int) (_ : Int) (_ : Int) (_ : Bool) : List (Option LB) := []
def impl_within.S (ar : List AV) (h : List (Option LB)) (r : AV) (h1 : List (Option LB)) : Prop := ∃ a0 a1 a2 y, impl_within a0 a1 a2 = some y ∧ leL ar [(.v (.int .i64 a0)), (.v (.int .i64 a1)), (.v (.int .i64 a2))] ∧ leH h [] ∧ r = impl_within.res a0 a1 a2 y ∧ h1 = impl_within.out a0 a1 a2 y
theorem impl_within.call {ar : List AV} {h : List (Option LB)} {a0 : Int} {a1 : Int} {a2 : Int} {y : Bool} (H : impl_within a0 a1 a2 = some y) (h0 : leLk ar [(.v (.int .i64 a0)), (.v (.int .i64 a1)), (.v (.int .i64 a2))] (leHk h [])) : impl_within.S ar h (impl_within.res a0 a1 a2 y) (impl_within.out a0 a1 a2 y) := ⟨a0, a1, a2, y, H, (args_ok h0).1, (args_ok h0).2, rfl, rfl⟩
set_option maxHeartbeats 100000000 in
set_option maxRecDepth 100000 in
theorem impl_within.spec (a0 : Int) (a1 : Int) (a2 : Int) (y : Bool) (H : impl_within a0 a1 a2 = some y) : Spec Try.prog 107 [(.v (.int .i64 a0)), (.v (.int .i64 a1)), (.v (.int .i64 a2))] [] (impl_within.res a0 a1 a2 y) (impl_within.out a0 a1 a2 y) := by
  refine spec_intro (G15_ok.at tok []) (ct := []) Try.func107 rfl (by kernel_rfl) (by kernel_rfl) rfl ?_
  repeat' first
    | ((with_reducible refine eqg ?_); exact rfl)
    | ((with_reducible refine KOb.mk ?_); kernel_rfl)
    | ((with_reducible intro h); (repeat (first | replace H := grd_k H | replace H := out_step H (by assumption))); first | replace H := cond_t h H | replace H := cond_f h H | exact absurd h (by decide) | skip)
    | ((with_reducible refine Ob.mk ?_); first | rfl | (repeat (first | exact grd_p H | replace H := grd_k H | replace H := out_step H (by assumption))))
    | (with_reducible exact True.intro)
    | constructor
    | ((conv => whnf); first
        | ((with_reducible refine Ob.mk ?_); first | rfl | (repeat (first | exact grd_p H | replace H := grd_k H | replace H := out_step H (by assumption))))
        | ((with_reducible refine fin_mk ?_); (repeat (first | replace H := grd_k H | replace H := out_step H (by assumption))); have H := Option.some.inj H; subst H))
def G16 : Env := G15.add 107 [] impl_within.S
theorem G16_ok : EnvOk Try.prog G16 := G15_ok.add ent_107 fun ar h r h1 ⟨a0, a1, a2, y, hy, e1, e2, e3, e4⟩ => by
  subst e3 e4; exact (impl_within.spec a0 a1 a2 y hy).le e1 e2
attribute [local irreducible] impl_within

noncomputable def impl_IsGripState (a0 : GripState) : Option (Bool) :=
  (joinx ((impl_within a0.1 (0 : Int) (4 : Int)).bind fun y1 => (cond (!y1) (outm ((some false))) ((impl_within a0.2.1 (0 : Int) (3 : Int)).bind fun y2 => (cond (!y2) (outm ((some false))) ((impl_within a0.2.2.1 (0 : Int) (2000 : Int)).bind fun y3 => (cond (!y3) (outm ((some false))) ((impl_within a0.2.2.2.1 (0 : Int) (3 : Int)).bind fun y4 => (cond (!y4) (outm ((some false))) (cond (decide ((0 : Int) < a0.2.2.1)) (cond (!decide (a0.1 = (2 : Int))) (outm ((some false))) ((some (.go ())))) ((some (.go ())))))))))))) (fun (_ : Unit) => (cond (decide (a0.2.1 = (0 : Int))) (cond (decide (a0.1 = (0 : Int))) ((some true)) ((some (decide (a0.1 = (4 : Int)))))) (cond (decide (a0.2.1 = (2 : Int))) (cond (decide (a0.1 = (2 : Int))) ((some (decide ((500 : Int) ≤ a0.2.2.1)))) ((some false))) (cond (decide (a0.2.1 = (3 : Int))) (cond (!decide (a0.1 = (4 : Int))) ((some (!decide (a0.1 = (1 : Int))))) ((some false))) ((some (!decide (a0.1 = (4 : Int))))))))))
def impl_IsGripState.res (_ : GripState) (y : Bool) : AV := (.bl y)
def impl_IsGripState.out (_ : GripState) (_ : Bool) : List (Option LB) := []
def impl_IsGripState.S (ar : List AV) (h : List (Option LB)) (r : AV) (h1 : List (Option LB)) : Prop := ∃ a0 y, impl_IsGripState a0 = some y ∧ leL ar [(.agg [(.v (.int .i64 a0.1)), (.v (.int .i64 a0.2.1)), (.v (.int .i64 a0.2.2.1)), (.v (.int .i64 a0.2.2.2.1))])] ∧ leH h [] ∧ r = impl_IsGripState.res a0 y ∧ h1 = impl_IsGripState.out a0 y
theorem impl_IsGripState.call {ar : List AV} {h : List (Option LB)} {a0 : GripState} {y : Bool} (H : impl_IsGripState a0 = some y) (h0 : leLk ar [(.agg [(.v (.int .i64 a0.1)), (.v (.int .i64 a0.2.1)), (.v (.int .i64 a0.2.2.1)), (.v (.int .i64 a0.2.2.2.1))])] (leHk h [])) : impl_IsGripState.S ar h (impl_IsGripState.res a0 y) (impl_IsGripState.out a0 y) := ⟨a0, y, H, (args_ok h0).1, (args_ok h0).2, rfl, rfl⟩
set_option maxHeartbeats 100000000 in
set_option maxRecDepth 100000 in
theorem impl_IsGripState.spec (a0 : GripState) (y : Bool) (H : impl_IsGripState a0 = some y) : Spec Try.prog 36 [(.agg [(.v (.int .i64 a0.1)), (.v (.int .i64 a0.2.1)), (.v (.int .i64 a0.2.2.1)), (.v (.int .i64 a0.2.2.2.1))])] [] (impl_IsGripState.res a0 y) (impl_IsGripState.out a0 y) := by
  refine spec_intro (G16_ok.at tok []) (ct := [(3, none), (2, some [1, 34, 43, 44, 45, 53, 54, 55, 63, 64, 65]), (10, some [1])]) Try.func36 rfl (by kernel_rfl) (by kernel_rfl) rfl ?_
  repeat' first
    | (with_reducible exact (outm_no H).elim)
    | ((replace H := out_step H (by assumption)); exact (outm_no H).elim)
    | ((with_reducible refine eqg ?_); exact rfl)
    | ((with_reducible refine KOb.mk ?_); kernel_rfl)
    | ((with_reducible intro h); (repeat (first | replace H := grd_k H | replace H := out_step H (by assumption) | replace H := outm_out H)); first | replace H := cond_t h H | replace H := cond_f h H | exact absurd h (by decide) | skip)
    | ((with_reducible refine Ob.mk ?_); first | rfl | (repeat (first | exact grd_p H | replace H := grd_k H | replace H := out_step H (by assumption) | replace H := outm_out H)))
    | (with_reducible exact True.intro)
    | constructor
    | ((conv => whnf); first
        | ((with_reducible refine Ob.mk ?_); first | rfl | (repeat (first | exact grd_p H | replace H := grd_k H | replace H := out_step H (by assumption) | replace H := outm_out H)))
        | ((with_reducible refine CallW.mk ?_); (repeat (first | replace H := grd_k H | replace H := out_step H (by assumption) | replace H := outm_out H)); replace H := bind_some H; obtain ⟨y, hy, H⟩ := H; first | ((with_reducible have hz : impl_within _ _ _ = some y := hy); clear hz; refine Exists.intro _ (Exists.intro _ ⟨impl_within.call hy ?_, rfl, rfl, ?_⟩)))
        | ((with_reducible refine cutAt (id := 3) ?_); (repeat (first | replace H := grd_k H | replace H := out_step H (by assumption) | replace H := outm_out H)); first | (replace H := joinx_some H; rcases H with ⟨z, hz, H⟩ | H; rotate_left; (with_reducible refine CutC.no ?_); rotate_right; (refine CutC.mk (id := 3) ⟨sl [(1, (.loc 0 0 0))], [some (.box 26 [(.v (.int .i64 a0.1)), (.v (.int .i64 a0.2.1)), (.v (.int .i64 a0.2.2.1)), (.v (.int .i64 a0.2.2.2.1))])]⟩ ?_ ?_; (replace H := hz))))
        | ((repeat (first | replace H := grd_k H | replace H := out_step H (by assumption) | replace H := outm_out H)); have H := Option.some.inj H; subst H; with_reducible refine sub_auto ?_)
        | ((repeat (first | replace H := grd_k H | replace H := out_step H (by assumption) | replace H := outm_out H)); have H := go_inj H; subst H; with_reducible refine sub_auto ?_)
        | ((repeat (first | replace H := grd_k H | replace H := out_step H (by assumption) | replace H := outm_out H)); exact (go_out H).elim)
        | ((with_reducible refine fin_mk ?_); (repeat (first | replace H := grd_k H | replace H := out_step H (by assumption) | replace H := outm_out H)); have H := Option.some.inj H; subst H))
def G17 : Env := G16.add 36 [] impl_IsGripState.S
theorem G17_ok : EnvOk Try.prog G17 := G16_ok.add ent_36 fun ar h r h1 ⟨a0, y, hy, e1, e2, e3, e4⟩ => by
  subst e3 e4; exact (impl_IsGripState.spec a0 y hy).le e1 e2
attribute [local irreducible] impl_IsGripState

noncomputable def impl_GripState_step (a0 : GripState) (a1 : GripStep) : Option (GripState × Bool) :=
  ((cond (decide (a1.1 = (2 : Int))) ((some (decide (a0.1 = (1 : Int))))) ((some false))).bind fun z1 => (joinx (cond (!decide (a1.2.1 = (0 : Int))) (cond (!z1) (outm ((some ((a0.1, a0.2.1, a0.2.2.1, a0.2.2.2.1, ()), false)))) (cond z1 ((impl_within a1.2.1 (1 : Int) (2000 : Int)).bind fun y2 => (cond (!y2) (outm ((some ((a0.1, a0.2.1, a0.2.2.1, a0.2.2.2.1, ()), false)))) ((some (.go z1))))) ((some (.go z1))))) (cond z1 ((impl_within a1.2.1 (1 : Int) (2000 : Int)).bind fun y3 => (cond (!y3) (outm ((some ((a0.1, a0.2.1, a0.2.2.1, a0.2.2.2.1, ()), false)))) ((some (.go z1))))) ((some (.go z1))))) (fun (z4 : Bool) => ((cond (decide (a1.1 = (1 : Int))) ((some (z4, (!decide (a0.1 = (4 : Int)))))) ((some (z4, false)))).bind fun z5 => (cond z5.2 (grd ((4 : Int) ≠ 0) ((impl_IsGripState (a0.1, (Int.tmod (w64 (a0.2.1 + (1 : Int))) (4 : Int)), a0.2.2.1, a0.2.2.2.1, ())).bind fun y6 => (some ((a0.1, (Int.tmod (w64 (a0.2.1 + (1 : Int))) (4 : Int)), a0.2.2.1, a0.2.2.2.1, ()), y6)))) ((cond (decide (a1.1 = (2 : Int))) (cond (decide (a0.2.1 = (1 : Int))) ((some (z5.1, (decide (a0.1 = (0 : Int)))))) ((some (z5.1, false)))) ((some (z5.1, false)))).bind fun z7 => (cond z7.2 ((impl_IsGripState ((1 : Int), a0.2.1, a0.2.2.1, a0.2.2.2.1, ())).bind fun y8 => (some (((1 : Int), a0.2.1, a0.2.2.1, a0.2.2.2.1, ()), y8))) ((cond z7.1 ((some (decide (a0.2.1 = (1 : Int))))) ((some false))).bind fun z9 => (cond z9 ((impl_IsGripState ((2 : Int), a0.2.1, a1.2.1, a0.2.2.2.1, ())).bind fun y10 => (some (((2 : Int), a0.2.1, a1.2.1, a0.2.2.2.1, ()), y10))) ((cond (decide (a1.1 = (3 : Int))) (cond (decide (a0.2.1 = (1 : Int))) ((some (decide (a0.1 = (2 : Int))))) (cond (decide (a0.2.1 = (3 : Int))) ((some (decide (a0.1 = (2 : Int))))) ((some false)))) ((some false))).bind fun z11 => (cond z11 ((impl_IsGripState ((3 : Int), a0.2.1, (0 : Int), a0.2.2.2.1, ())).bind fun y12 => (some (((3 : Int), a0.2.1, (0 : Int), a0.2.2.2.1, ()), y12))) ((cond (decide (a1.1 = (3 : Int))) (cond (decide (a0.2.1 = (1 : Int))) ((some (decide (a0.1 = (3 : Int))))) (cond (decide (a0.2.1 = (3 : Int))) ((some (decide (a0.1 = (3 : Int))))) ((some false)))) ((some false))).bind fun z13 => (cond z13 ((impl_IsGripState ((0 : Int), a0.2.1, a0.2.2.1, a0.2.2.2.1, ())).bind fun y14 => (some (((0 : Int), a0.2.1, a0.2.2.1, a0.2.2.2.1, ()), y14))) ((cond (decide (a1.1 = (4 : Int))) (cond (decide (a0.2.1 = (1 : Int))) (cond (decide (a0.1 = (2 : Int))) ((some (decide (a0.2.2.1 < (500 : Int))))) ((some false))) ((some false))) ((some false))).bind fun z15 => (cond z15 ((impl_IsGripState ((3 : Int), a0.2.1, (0 : Int), (if true = true then (if (3 : Int) < (w64 (a0.2.2.2.1 + (1 : Int))) then (3 : Int) else (w64 (a0.2.2.2.1 + (1 : Int)))) else (if (3 : Int) > (w64 (a0.2.2.2.1 + (1 : Int))) then (3 : Int) else (w64 (a0.2.2.2.1 + (1 : Int))))), ())).bind fun y16 => (some (((3 : Int), a0.2.1, (0 : Int), (if true = true then (if (3 : Int) < (w64 (a0.2.2.2.1 + (1 : Int))) then (3 : Int) else (w64 (a0.2.2.2.1 + (1 : Int)))) else (if (3 : Int) > (w64 (a0.2.2.2.1 + (1 : Int))) then (3 : Int) else (w64 (a0.2.2.2.1 + (1 : Int))))), ()), y16))) ((cond (decide (a1.1 = (4 : Int))) (cond (decide (a0.2.1 = (1 : Int))) ((some (decide (a0.1 = (2 : Int))))) ((some false))) ((some false))).bind fun z17 => (cond z17 ((impl_IsGripState (a0.1, a0.2.1, a0.2.2.1, (0 : Int), ())).bind fun y18 => (some ((a0.1, a0.2.1, a0.2.2.1, (0 : Int), ()), y18))) ((cond (decide (a1.1 = (5 : Int))) (cond (decide (a0.2.1 = (0 : Int))) (cond (decide (a0.1 = (0 : Int))) ((some (decide (a0.2.2.2.1 = (3 : Int))))) ((some false))) ((some false))) ((some false))).bind fun z19 => (cond z19 ((impl_IsGripState ((4 : Int), a0.2.1, a0.2.2.1, a0.2.2.2.1, ())).bind fun y20 => (some (((4 : Int), a0.2.1, a0.2.2.1, a0.2.2.2.1, ()), y20))) (cond (decide (a1.1 = (5 : Int))) (cond (decide (a0.1 = (4 : Int))) ((impl_IsGripState ((0 : Int), a0.2.1, a0.2.2.1, (0 : Int), ())).bind fun y21 => (some (((0 : Int), a0.2.1, a0.2.2.1, (0 : Int), ()), y21))) ((some ((a0.1, a0.2.1, a0.2.2.1, a0.2.2.2.1, ()), false)))) ((some ((a0.1, a0.2.1, a0.2.2.1, a0.2.2.2.1, ()), false)))))))))))))))))))))))
def impl_GripState_step.res (_ : GripState) (_ : GripStep) (y : GripState × Bool) : AV := (.tup [(.agg [(.v (.int .i64 y.1.1)), (.v (.int .i64 y.1.2.1)), (.v (.int .i64 y.1.2.2.1)), (.v (.int .i64 y.1.2.2.2.1))]), (.bl y.2)])
def impl_GripState_step.out (_ : GripState) (_ : GripStep) (_ : GripState × Bool) : List (Option LB) := []
def impl_GripState_step.S (ar : List AV) (h : List (Option LB)) (r : AV) (h1 : List (Option LB)) : Prop := ∃ a0 a1 y, impl_GripState_step a0 a1 = some y ∧ leL ar [(.agg [(.v (.int .i64 a0.1)), (.v (.int .i64 a0.2.1)), (.v (.int .i64 a0.2.2.1)), (.v (.int .i64 a0.2.2.2.1))]), (.agg [(.v (.int .i64 a1.1)), (.v (.int .i64 a1.2.1))])] ∧ leH h [] ∧ r = impl_GripState_step.res a0 a1 y ∧ h1 = impl_GripState_step.out a0 a1 y
theorem impl_GripState_step.call {ar : List AV} {h : List (Option LB)} {a0 : GripState} {a1 : GripStep} {y : GripState × Bool} (H : impl_GripState_step a0 a1 = some y) (h0 : leLk ar [(.agg [(.v (.int .i64 a0.1)), (.v (.int .i64 a0.2.1)), (.v (.int .i64 a0.2.2.1)), (.v (.int .i64 a0.2.2.2.1))]), (.agg [(.v (.int .i64 a1.1)), (.v (.int .i64 a1.2.1))])] (leHk h [])) : impl_GripState_step.S ar h (impl_GripState_step.res a0 a1 y) (impl_GripState_step.out a0 a1 y) := ⟨a0, a1, y, H, (args_ok h0).1, (args_ok h0).2, rfl, rfl⟩
set_option maxHeartbeats 100000000 in
set_option maxRecDepth 100000 in
theorem impl_GripState_step.spec (a0 : GripState) (a1 : GripStep) (y : GripState × Bool) (H : impl_GripState_step a0 a1 = some y) : Spec Try.prog 116 [(.agg [(.v (.int .i64 a0.1)), (.v (.int .i64 a0.2.1)), (.v (.int .i64 a0.2.2.1)), (.v (.int .i64 a0.2.2.2.1))]), (.agg [(.v (.int .i64 a1.1)), (.v (.int .i64 a1.2.1))])] [] (impl_GripState_step.res a0 a1 y) (impl_GripState_step.out a0 a1 y) := by
  refine spec_intro (G17_ok.at tok []) (ct := [(2, none), (4, none), (7, none), (9, none), (11, none), (13, none), (15, none), (17, none), (19, none), (21, none), (3, some [2, 3, 4, 6, 31, 42, 43, 44, 56, 59, 60, 61, 67, 78, 79, 80, 81, 82, 83, 86, 87, 88, 97, 98, 99, 100, 101, 102, 105, 106, 107, 115, 118, 119, 120, 123, 124, 125, 139, 142, 143, 144, 152, 153, 154, 157, 158, 159, 162, 163, 164, 172, 173, 174])]) Try.func116 rfl (by kernel_rfl) (by kernel_rfl) rfl ?_
  repeat' first
    | (with_reducible exact (outm_no H).elim)
    | ((replace H := out_step H (by assumption)); exact (outm_no H).elim)
    | ((with_reducible refine eqg ?_); exact rfl)
    | ((with_reducible refine KOb.mk ?_); kernel_rfl)
    | ((with_reducible intro h); (repeat (first | replace H := grd_k H | replace H := out_step H (by assumption) | replace H := outm_out H)); first | replace H := cond_t h H | replace H := cond_f h H | exact absurd h (by decide) | skip)
    | ((with_reducible refine Ob.mk ?_); first | rfl | (repeat (first | exact grd_p H | replace H := grd_k H | replace H := out_step H (by assumption) | replace H := outm_out H)))
    | (with_reducible exact True.intro)
    | constructor
    | ((conv => whnf); first
        | ((with_reducible refine Ob.mk ?_); first | rfl | (repeat (first | exact grd_p H | replace H := grd_k H | replace H := out_step H (by assumption) | replace H := outm_out H)))
        | ((with_reducible refine CallW.mk ?_); (repeat (first | replace H := grd_k H | replace H := out_step H (by assumption) | replace H := outm_out H)); replace H := bind_some H; obtain ⟨y, hy, H⟩ := H; first | ((with_reducible have hz : impl_within _ _ _ = some y := hy); clear hz; refine Exists.intro _ (Exists.intro _ ⟨impl_within.call hy ?_, rfl, rfl, ?_⟩)) | ((with_reducible have hz : impl_IsGripState _ = some y := hy); clear hz; refine Exists.intro _ (Exists.intro _ ⟨impl_IsGripState.call hy ?_, rfl, rfl, ?_⟩)))
        | ((with_reducible refine cutAt (id := 2) ?_); (repeat (first | replace H := grd_k H | replace H := out_step H (by assumption) | replace H := outm_out H)); first | (replace H := bind_some H; obtain ⟨z, hz, H⟩ := H; refine CutC.mk (id := 2) ⟨sl [(2, (.loc 0 0 0)), (3, (.loc 1 0 0)), (4, (.loc 2 0 0)), (6, (.bl z))], [some (.box 26 [(.v (.int .i64 a0.1)), (.v (.int .i64 a0.2.1)), (.v (.int .i64 a0.2.2.1)), (.v (.int .i64 a0.2.2.2.1))]), some (.box 53 [(.v (.int .i64 a1.1)), (.v (.int .i64 a1.2.1))]), some (.box 26 [(.v (.int .i64 (0 : Int))), (.v (.int .i64 (0 : Int))), (.v (.int .i64 (0 : Int))), (.v (.int .i64 (0 : Int)))])]⟩ ?_ ?_; (replace H := hz)))
        | ((with_reducible refine cutAt (id := 4) ?_); (repeat (first | replace H := grd_k H | replace H := out_step H (by assumption) | replace H := outm_out H)); first | (replace H := joinx_some H; rcases H with ⟨z, hz, H⟩ | H; rotate_left; (with_reducible refine CutC.no ?_); rotate_right; (refine CutC.mk (id := 4) ⟨sl [(2, (.loc 0 0 0)), (3, (.loc 1 0 0)), (4, (.loc 2 0 0)), (6, (.bl z))], [some (.box 26 [(.v (.int .i64 a0.1)), (.v (.int .i64 a0.2.1)), (.v (.int .i64 a0.2.2.1)), (.v (.int .i64 a0.2.2.2.1))]), some (.box 53 [(.v (.int .i64 a1.1)), (.v (.int .i64 a1.2.1))]), some (.box 26 [(.v (.int .i64 (0 : Int))), (.v (.int .i64 (0 : Int))), (.v (.int .i64 (0 : Int))), (.v (.int .i64 (0 : Int)))])]⟩ ?_ ?_; (replace H := hz))))
        | ((with_reducible refine cutAt (id := 7) ?_); (repeat (first | replace H := grd_k H | replace H := out_step H (by assumption) | replace H := outm_out H)); first | (replace H := bind_some H; obtain ⟨z, hz, H⟩ := H; refine CutC.mk (id := 7) ⟨sl [(2, (.loc 0 0 0)), (3, (.loc 1 0 0)), (4, (.loc 2 0 0)), (6, (.bl z.1)), (7, (.bl (decide (a0.2.1 = (1 : Int))))), (37, (.bl z.2))], [some (.box 26 [(.v (.int .i64 a0.1)), (.v (.int .i64 a0.2.1)), (.v (.int .i64 a0.2.2.1)), (.v (.int .i64 a0.2.2.2.1))]), some (.box 53 [(.v (.int .i64 a1.1)), (.v (.int .i64 a1.2.1))]), some (.box 26 [(.v (.int .i64 (0 : Int))), (.v (.int .i64 (0 : Int))), (.v (.int .i64 (0 : Int))), (.v (.int .i64 (0 : Int)))])]⟩ ?_ ?_; (replace H := hz)))
        | ((with_reducible refine cutAt (id := 9) ?_); (repeat (first | replace H := grd_k H | replace H := out_step H (by assumption) | replace H := outm_out H)); first | (replace H := bind_some H; obtain ⟨z, hz, H⟩ := H; refine CutC.mk (id := 9) ⟨sl [(2, (.loc 0 0 0)), (3, (.loc 1 0 0)), (4, (.loc 2 0 0)), (6, (.bl z.1)), (7, (.bl (decide (a0.2.1 = (1 : Int))))), (51, (.bl z.2))], [some (.box 26 [(.v (.int .i64 a0.1)), (.v (.int .i64 a0.2.1)), (.v (.int .i64 a0.2.2.1)), (.v (.int .i64 a0.2.2.2.1))]), some (.box 53 [(.v (.int .i64 a1.1)), (.v (.int .i64 a1.2.1))]), some (.box 26 [(.v (.int .i64 (0 : Int))), (.v (.int .i64 (0 : Int))), (.v (.int .i64 (0 : Int))), (.v (.int .i64 (0 : Int)))])]⟩ ?_ ?_; (replace H := hz)))
        | ((with_reducible refine cutAt (id := 11) ?_); (repeat (first | replace H := grd_k H | replace H := out_step H (by assumption) | replace H := outm_out H)); first | (replace H := bind_some H; obtain ⟨z, hz, H⟩ := H; refine CutC.mk (id := 11) ⟨sl [(2, (.loc 0 0 0)), (3, (.loc 1 0 0)), (4, (.loc 2 0 0)), (7, (.bl (decide (a0.2.1 = (1 : Int))))), (64, (.bl z))], [some (.box 26 [(.v (.int .i64 a0.1)), (.v (.int .i64 a0.2.1)), (.v (.int .i64 a0.2.2.1)), (.v (.int .i64 a0.2.2.2.1))]), some (.box 53 [(.v (.int .i64 a1.1)), (.v (.int .i64 a1.2.1))]), some (.box 26 [(.v (.int .i64 (0 : Int))), (.v (.int .i64 (0 : Int))), (.v (.int .i64 (0 : Int))), (.v (.int .i64 (0 : Int)))])]⟩ ?_ ?_; (replace H := hz)))
        | ((with_reducible refine cutAt (id := 13) ?_); (repeat (first | replace H := grd_k H | replace H := out_step H (by assumption) | replace H := outm_out H)); first | (replace H := bind_some H; obtain ⟨z, hz, H⟩ := H; refine CutC.mk (id := 13) ⟨sl [(2, (.loc 0 0 0)), (3, (.loc 1 0 0)), (4, (.loc 2 0 0)), (7, (.bl (decide (a0.2.1 = (1 : Int))))), (73, (.bl z))], [some (.box 26 [(.v (.int .i64 a0.1)), (.v (.int .i64 a0.2.1)), (.v (.int .i64 a0.2.2.1)), (.v (.int .i64 a0.2.2.2.1))]), some (.box 53 [(.v (.int .i64 a1.1)), (.v (.int .i64 a1.2.1))]), some (.box 26 [(.v (.int .i64 (0 : Int))), (.v (.int .i64 (0 : Int))), (.v (.int .i64 (0 : Int))), (.v (.int .i64 (0 : Int)))])]⟩ ?_ ?_; (replace H := hz)))
        | ((with_reducible refine cutAt (id := 15) ?_); (repeat (first | replace H := grd_k H | replace H := out_step H (by assumption) | replace H := outm_out H)); first | (replace H := bind_some H; obtain ⟨z, hz, H⟩ := H; refine CutC.mk (id := 15) ⟨sl [(2, (.loc 0 0 0)), (3, (.loc 1 0 0)), (4, (.loc 2 0 0)), (7, (.bl (decide (a0.2.1 = (1 : Int))))), (92, (.bl z))], [some (.box 26 [(.v (.int .i64 a0.1)), (.v (.int .i64 a0.2.1)), (.v (.int .i64 a0.2.2.1)), (.v (.int .i64 a0.2.2.2.1))]), some (.box 53 [(.v (.int .i64 a1.1)), (.v (.int .i64 a1.2.1))]), some (.box 26 [(.v (.int .i64 (0 : Int))), (.v (.int .i64 (0 : Int))), (.v (.int .i64 (0 : Int))), (.v (.int .i64 (0 : Int)))])]⟩ ?_ ?_; (replace H := hz)))
        | ((with_reducible refine cutAt (id := 17) ?_); (repeat (first | replace H := grd_k H | replace H := out_step H (by assumption) | replace H := outm_out H)); first | (replace H := bind_some H; obtain ⟨z, hz, H⟩ := H; refine CutC.mk (id := 17) ⟨sl [(2, (.loc 0 0 0)), (3, (.loc 1 0 0)), (4, (.loc 2 0 0)), (7, (.bl (decide (a0.2.1 = (1 : Int))))), (110, (.bl z))], [some (.box 26 [(.v (.int .i64 a0.1)), (.v (.int .i64 a0.2.1)), (.v (.int .i64 a0.2.2.1)), (.v (.int .i64 a0.2.2.2.1))]), some (.box 53 [(.v (.int .i64 a1.1)), (.v (.int .i64 a1.2.1))]), some (.box 26 [(.v (.int .i64 (0 : Int))), (.v (.int .i64 (0 : Int))), (.v (.int .i64 (0 : Int))), (.v (.int .i64 (0 : Int)))])]⟩ ?_ ?_; (replace H := hz)))
        | ((with_reducible refine cutAt (id := 19) ?_); (repeat (first | replace H := grd_k H | replace H := out_step H (by assumption) | replace H := outm_out H)); first | (replace H := bind_some H; obtain ⟨z, hz, H⟩ := H; refine CutC.mk (id := 19) ⟨sl [(2, (.loc 0 0 0)), (3, (.loc 1 0 0)), (4, (.loc 2 0 0)), (134, (.bl z))], [some (.box 26 [(.v (.int .i64 a0.1)), (.v (.int .i64 a0.2.1)), (.v (.int .i64 a0.2.2.1)), (.v (.int .i64 a0.2.2.2.1))]), some (.box 53 [(.v (.int .i64 a1.1)), (.v (.int .i64 a1.2.1))]), some (.box 26 [(.v (.int .i64 (0 : Int))), (.v (.int .i64 (0 : Int))), (.v (.int .i64 (0 : Int))), (.v (.int .i64 (0 : Int)))])]⟩ ?_ ?_; (replace H := hz)))
        | ((with_reducible refine cutAt (id := 21) ?_); (repeat (first | replace H := grd_k H | replace H := out_step H (by assumption) | replace H := outm_out H)); first | (replace H := bind_some H; obtain ⟨z, hz, H⟩ := H; refine CutC.mk (id := 21) ⟨sl [(2, (.loc 0 0 0)), (3, (.loc 1 0 0)), (4, (.loc 2 0 0)), (147, (.bl z))], [some (.box 26 [(.v (.int .i64 a0.1)), (.v (.int .i64 a0.2.1)), (.v (.int .i64 a0.2.2.1)), (.v (.int .i64 a0.2.2.2.1))]), some (.box 53 [(.v (.int .i64 a1.1)), (.v (.int .i64 a1.2.1))]), some (.box 26 [(.v (.int .i64 (0 : Int))), (.v (.int .i64 (0 : Int))), (.v (.int .i64 (0 : Int))), (.v (.int .i64 (0 : Int)))])]⟩ ?_ ?_; (replace H := hz)))
        | ((repeat (first | replace H := grd_k H | replace H := out_step H (by assumption) | replace H := outm_out H)); have H := Option.some.inj H; subst H; with_reducible refine sub_auto ?_)
        | ((repeat (first | replace H := grd_k H | replace H := out_step H (by assumption) | replace H := outm_out H)); have H := go_inj H; subst H; with_reducible refine sub_auto ?_)
        | ((repeat (first | replace H := grd_k H | replace H := out_step H (by assumption) | replace H := outm_out H)); exact (go_out H).elim)
        | ((with_reducible refine fin_mk ?_); (repeat (first | replace H := grd_k H | replace H := out_step H (by assumption) | replace H := outm_out H)); have H := Option.some.inj H; subst H))
def G18 : Env := G17.add 116 [] impl_GripState_step.S
theorem G18_ok : EnvOk Try.prog G18 := G17_ok.add ent_116 fun ar h r h1 ⟨a0, a1, y, hy, e1, e2, e3, e4⟩ => by
  subst e3 e4; exact (impl_GripState_step.spec a0 a1 y hy).le e1 e2
attribute [local irreducible] impl_GripState_step

noncomputable def impl_StepGrip (a0 : GripState) (a1 : GripStep) : Option (GripState × Bool) :=
  ((impl_IsGripState (a0.1, a0.2.1, a0.2.2.1, a0.2.2.2.1, ())).bind fun y1 => (cond (!y1) ((some (((0 : Int), (0 : Int), (0 : Int), (0 : Int), ()), false))) ((impl_GripState_step (a0.1, a0.2.1, a0.2.2.1, a0.2.2.2.1, ()) (a1.1, a1.2.1, ())).bind fun y2 => (cond (!y2.2) ((some (((0 : Int), (0 : Int), (0 : Int), (0 : Int), ()), false))) ((some ((y2.1.1, y2.1.2.1, y2.1.2.2.1, y2.1.2.2.2.1, ()), true)))))))
def impl_StepGrip.res (_ : GripState) (_ : GripStep) (y : GripState × Bool) : AV := (.tup [(.agg [(.v (.int .i64 y.1.1)), (.v (.int .i64 y.1.2.1)), (.v (.int .i64 y.1.2.2.1)), (.v (.int .i64 y.1.2.2.2.1))]), (.bl y.2)])
def impl_StepGrip.out (_ : GripState) (_ : GripStep) (_ : GripState × Bool) : List (Option LB) := []
def impl_StepGrip.S (ar : List AV) (h : List (Option LB)) (r : AV) (h1 : List (Option LB)) : Prop := ∃ a0 a1 y, impl_StepGrip a0 a1 = some y ∧ leL ar [(.agg [(.v (.int .i64 a0.1)), (.v (.int .i64 a0.2.1)), (.v (.int .i64 a0.2.2.1)), (.v (.int .i64 a0.2.2.2.1))]), (.agg [(.v (.int .i64 a1.1)), (.v (.int .i64 a1.2.1))])] ∧ leH h [] ∧ r = impl_StepGrip.res a0 a1 y ∧ h1 = impl_StepGrip.out a0 a1 y
theorem impl_StepGrip.call {ar : List AV} {h : List (Option LB)} {a0 : GripState} {a1 : GripStep} {y : GripState × Bool} (H : impl_StepGrip a0 a1 = some y) (h0 : leLk ar [(.agg [(.v (.int .i64 a0.1)), (.v (.int .i64 a0.2.1)), (.v (.int .i64 a0.2.2.1)), (.v (.int .i64 a0.2.2.2.1))]), (.agg [(.v (.int .i64 a1.1)), (.v (.int .i64 a1.2.1))])] (leHk h [])) : impl_StepGrip.S ar h (impl_StepGrip.res a0 a1 y) (impl_StepGrip.out a0 a1 y) := ⟨a0, a1, y, H, (args_ok h0).1, (args_ok h0).2, rfl, rfl⟩
set_option maxHeartbeats 100000000 in
set_option maxRecDepth 100000 in
theorem impl_StepGrip.spec (a0 : GripState) (a1 : GripStep) (y : GripState × Bool) (H : impl_StepGrip a0 a1 = some y) : Spec Try.prog 34 [(.agg [(.v (.int .i64 a0.1)), (.v (.int .i64 a0.2.1)), (.v (.int .i64 a0.2.2.1)), (.v (.int .i64 a0.2.2.2.1))]), (.agg [(.v (.int .i64 a1.1)), (.v (.int .i64 a1.2.1))])] [] (impl_StepGrip.res a0 a1 y) (impl_StepGrip.out a0 a1 y) := by
  refine spec_intro (G18_ok.at tok []) (ct := [(4, some [4, 6, 7])]) Try.func34 rfl (by kernel_rfl) (by kernel_rfl) rfl ?_
  repeat' first
    | ((with_reducible refine eqg ?_); exact rfl)
    | ((with_reducible refine KOb.mk ?_); kernel_rfl)
    | ((with_reducible intro h); (repeat (first | replace H := grd_k H | replace H := out_step H (by assumption))); first | replace H := cond_t h H | replace H := cond_f h H | exact absurd h (by decide) | skip)
    | ((with_reducible refine Ob.mk ?_); first | rfl | (repeat (first | exact grd_p H | replace H := grd_k H | replace H := out_step H (by assumption))))
    | (with_reducible exact True.intro)
    | constructor
    | ((conv => whnf); first
        | ((with_reducible refine Ob.mk ?_); first | rfl | (repeat (first | exact grd_p H | replace H := grd_k H | replace H := out_step H (by assumption))))
        | ((with_reducible refine CallW.mk ?_); (repeat (first | replace H := grd_k H | replace H := out_step H (by assumption))); replace H := bind_some H; obtain ⟨y, hy, H⟩ := H; first | ((with_reducible have hz : impl_IsGripState _ = some y := hy); clear hz; refine Exists.intro _ (Exists.intro _ ⟨impl_IsGripState.call hy ?_, rfl, rfl, ?_⟩)) | ((with_reducible have hz : impl_GripState_step _ _ = some y := hy); clear hz; refine Exists.intro _ (Exists.intro _ ⟨impl_GripState_step.call hy ?_, rfl, rfl, ?_⟩)))
        | ((with_reducible refine fin_mk ?_); (repeat (first | replace H := grd_k H | replace H := out_step H (by assumption))); have H := Option.some.inj H; subst H))
def G19 : Env := G18.add 34 [] impl_StepGrip.S
theorem G19_ok : EnvOk Try.prog G19 := G18_ok.add ent_34 fun ar h r h1 ⟨a0, a1, y, hy, e1, e2, e3, e4⟩ => by
  subst e3 e4; exact (impl_StepGrip.spec a0 a1 y hy).le e1 e2
attribute [local irreducible] impl_StepGrip

noncomputable def spec_IsGripState (a0 : GripState) : Option (Bool) :=
  ((spec_l21Good (a0.1, a0.2.1, a0.2.2.1, a0.2.2.2.1, ())).bind fun y1 => (some y1))
def spec_IsGripState.res (_ : GripState) (y : Bool) : AV := (.bl y)
def spec_IsGripState.out (_ : GripState) (_ : Bool) : List (Option LB) := []
def spec_IsGripState.S (ar : List AV) (h : List (Option LB)) (r : AV) (h1 : List (Option LB)) : Prop := ∃ a0 y, spec_IsGripState a0 = some y ∧ leL ar [(.agg [(.v (.int .i64 a0.1)), (.v (.int .i64 a0.2.1)), (.v (.int .i64 a0.2.2.1)), (.v (.int .i64 a0.2.2.2.1))])] ∧ leH h [] ∧ r = spec_IsGripState.res a0 y ∧ h1 = spec_IsGripState.out a0 y
theorem spec_IsGripState.call {ar : List AV} {h : List (Option LB)} {a0 : GripState} {y : Bool} (H : spec_IsGripState a0 = some y) (h0 : leLk ar [(.agg [(.v (.int .i64 a0.1)), (.v (.int .i64 a0.2.1)), (.v (.int .i64 a0.2.2.1)), (.v (.int .i64 a0.2.2.2.1))])] (leHk h [])) : spec_IsGripState.S ar h (spec_IsGripState.res a0 y) (spec_IsGripState.out a0 y) := ⟨a0, y, H, (args_ok h0).1, (args_ok h0).2, rfl, rfl⟩
set_option maxHeartbeats 100000000 in
set_option maxRecDepth 100000 in
theorem spec_IsGripState.spec (a0 : GripState) (y : Bool) (H : spec_IsGripState a0 = some y) : Spec Try.prog 37 [(.agg [(.v (.int .i64 a0.1)), (.v (.int .i64 a0.2.1)), (.v (.int .i64 a0.2.2.1)), (.v (.int .i64 a0.2.2.2.1))])] [] (spec_IsGripState.res a0 y) (spec_IsGripState.out a0 y) := by
  refine spec_intro (G19_ok.at tok []) (ct := []) Try.func37 rfl (by kernel_rfl) (by kernel_rfl) rfl ?_
  repeat' first
    | ((with_reducible refine eqg ?_); exact rfl)
    | ((with_reducible refine KOb.mk ?_); kernel_rfl)
    | ((with_reducible intro h); (repeat (first | replace H := grd_k H | replace H := out_step H (by assumption))); first | replace H := cond_t h H | replace H := cond_f h H | exact absurd h (by decide) | skip)
    | ((with_reducible refine Ob.mk ?_); first | rfl | (repeat (first | exact grd_p H | replace H := grd_k H | replace H := out_step H (by assumption))))
    | (with_reducible exact True.intro)
    | constructor
    | ((conv => whnf); first
        | ((with_reducible refine Ob.mk ?_); first | rfl | (repeat (first | exact grd_p H | replace H := grd_k H | replace H := out_step H (by assumption))))
        | ((with_reducible refine CallW.mk ?_); (repeat (first | replace H := grd_k H | replace H := out_step H (by assumption))); replace H := bind_some H; obtain ⟨y, hy, H⟩ := H; first | ((with_reducible have hz : spec_l21Good _ = some y := hy); clear hz; refine Exists.intro _ (Exists.intro _ ⟨spec_l21Good.call hy ?_, rfl, rfl, ?_⟩)))
        | ((with_reducible refine fin_mk ?_); (repeat (first | replace H := grd_k H | replace H := out_step H (by assumption))); have H := Option.some.inj H; subst H))
def G20 : Env := G19.add 37 [] spec_IsGripState.S
theorem G20_ok : EnvOk Try.prog G20 := G19_ok.add ent_37 fun ar h r h1 ⟨a0, y, hy, e1, e2, e3, e4⟩ => by
  subst e3 e4; exact (spec_IsGripState.spec a0 y hy).le e1 e2
attribute [local irreducible] spec_IsGripState

noncomputable def impl_GripState_someSteps_loop2 (a0 : GripState) (v19 : Int) (v25 : Int) (v26 : (List GripStep)) : Option (Lp (Int × (List GripStep)) (((List GripStep)))) :=
  (cond (decide (v25 < ([(0 : Int), (1 : Int), (500 : Int)].length : Int))) (grd (0 ≤ v25 ∧ v25 < ([(0 : Int), (1 : Int), (500 : Int)].length : Int)) ((impl_GripState_step (a0.1, a0.2.1, a0.2.2.1, a0.2.2.2.1, ()) (v19, ([(0 : Int), (1 : Int), (500 : Int)].getD v25.toNat 0), ())).bind fun y27 => (cond y27.2 (grd ((v26.length + [(v19, ([(0 : Int), (1 : Int), (500 : Int)].getD v25.toNat 0), ())].length) * 16 ≤ 140737488355328 ∧ v26.length + [(v19, ([(0 : Int), (1 : Int), (500 : Int)].getD v25.toNat 0), ())].length ≤ 140737488355328) (some (.go ((w64 (v25 + (1 : Int))), (v26 ++ [(v19, ([(0 : Int), (1 : Int), (500 : Int)].getD v25.toNat 0), ())]))))) (some (.go ((w64 (v25 + (1 : Int))), v26)))))) ((some (.out v26))))
noncomputable def impl_GripState_someSteps_loop1 (a0 : GripState) (v19 : Int) (v20 : (List GripStep)) : Option (Lp (Int × (List GripStep)) (((List GripStep)))) :=
  (cond (decide (v19 ≤ (5 : Int))) ((iter (fun s => impl_GripState_someSteps_loop2 a0 v19 s.1 s.2) ((0 : Int), v20)).bind (fun r28 => (some (.go ((w64 (v19 + (1 : Int))), r28))))) ((some (.out v20))))
noncomputable def impl_GripState_someSteps (a0 : GripState) : Option ((List GripStep)) :=
  ((iter (fun s => impl_GripState_someSteps_loop1 a0 s.1 s.2) ((1 : Int), ([] : List GripStep))).bind (fun r29 => (some r29)))
def impl_GripState_someSteps.res (_ : GripState) (_ : (List GripStep)) : AV := (.own 0)
def impl_GripState_someSteps.out (_ : GripState) (y : (List GripStep)) : List (Option LB) := [some (.arr 53 ty_GripStep y)]
def impl_GripState_someSteps.S (ar : List AV) (h : List (Option LB)) (r : AV) (h1 : List (Option LB)) : Prop := ∃ a0 y, impl_GripState_someSteps a0 = some y ∧ leL ar [(.agg [(.v (.int .i64 a0.1)), (.v (.int .i64 a0.2.1)), (.v (.int .i64 a0.2.2.1)), (.v (.int .i64 a0.2.2.2.1))])] ∧ leH h [] ∧ r = impl_GripState_someSteps.res a0 y ∧ h1 = impl_GripState_someSteps.out a0 y
theorem impl_GripState_someSteps.call {ar : List AV} {h : List (Option LB)} {a0 : GripState} {y : (List GripStep)} (H : impl_GripState_someSteps a0 = some y) (h0 : leLk ar [(.agg [(.v (.int .i64 a0.1)), (.v (.int .i64 a0.2.1)), (.v (.int .i64 a0.2.2.1)), (.v (.int .i64 a0.2.2.2.1))])] (leHk h [])) : impl_GripState_someSteps.S ar h (impl_GripState_someSteps.res a0 y) (impl_GripState_someSteps.out a0 y) := ⟨a0, y, H, (args_ok h0).1, (args_ok h0).2, rfl, rfl⟩
set_option maxHeartbeats 100000000 in
set_option maxRecDepth 100000 in
theorem impl_GripState_someSteps.spec (a0 : GripState) (y : (List GripStep)) (H : impl_GripState_someSteps a0 = some y) : Spec Try.prog 119 [(.agg [(.v (.int .i64 a0.1)), (.v (.int .i64 a0.2.1)), (.v (.int .i64 a0.2.2.1)), (.v (.int .i64 a0.2.2.2.1))])] [] (impl_GripState_someSteps.res a0 y) (impl_GripState_someSteps.out a0 y) := by
  refine spec_intro (G20_ok.at tok []) (ct := [(10, some [1, 3, 4, 7, 9, 15, 16, 17])]) Try.func119 rfl (by kernel_rfl) (by kernel_rfl) rfl ?_
  repeat' first
    | ((with_reducible refine eqg ?_); exact rfl)
    | ((with_reducible refine KOb.mk ?_); kernel_rfl)
    | ((with_reducible intro h); (repeat (first | replace H := grd_k H | replace H := out_step H (by assumption))); first | replace H := cond_t h H | replace H := cond_f h H | exact absurd h (by decide) | skip)
    | ((with_reducible refine Ob.mk ?_); first | rfl | (repeat (first | exact grd_p H | replace H := grd_k H | replace H := out_step H (by assumption))))
    | (with_reducible exact True.intro)
    | constructor
    | ((conv => whnf); first
        | ((with_reducible refine Ob.mk ?_); first | rfl | (repeat (first | exact grd_p H | replace H := grd_k H | replace H := out_step H (by assumption))))
        | ((with_reducible refine CallW.mk ?_); (repeat (first | replace H := grd_k H | replace H := out_step H (by assumption))); replace H := bind_some H; obtain ⟨y, hy, H⟩ := H; first | ((with_reducible have hz : impl_GripState_step _ _ = some y := hy); clear hz; refine Exists.intro _ (Exists.intro _ ⟨impl_GripState_step.call hy ?_, rfl, rfl, ?_⟩)))
        | ((repeat (first | replace H := grd_k H | replace H := out_step H (by assumption))); refine loop_iter (G20_ok.at tok []) (ct := [(10, some [1, 3, 4, 7, 9, 15, 16, 17])]) (F := (fun s1 : Int × (List GripStep) => ⟨sl [(1, (.loc 0 0 0)), (3, (.own 1)), (4, (.v (.int .i64 s1.1)))], [some (.box 26 [(.v (.int .i64 a0.1)), (.v (.int .i64 a0.2.1)), (.v (.int .i64 a0.2.2.1)), (.v (.int .i64 a0.2.2.2.1))]), some (.arr 53 ty_GripStep s1.2)]⟩)) (step := (fun s : Int × (List GripStep) => impl_GripState_someSteps_loop1 _ s.1 s.2)) _ H (by kernel_rfl) (sub_auto ?_) ?_; rotate_left; (intro s1 r v hr H); rotate_right)
        | ((repeat (first | replace H := grd_k H | replace H := out_step H (by assumption))); refine loop_iter (G20_ok.at tok []) (ct := [(10, some [1, 3, 4, 7, 9, 15, 16, 17])]) (F := (fun s2 : Int × (List GripStep) => ⟨sl [(1, (.loc 0 0 0)), (3, (.own 1)), (4, (.v (.int .i64 s1.1))), (15, (.own 2)), (16, (.v (.int .i64 ([(0 : Int), (1 : Int), (500 : Int)].length : Int)))), (17, (.v (.int .i64 s2.1)))], [some (.box 26 [(.v (.int .i64 a0.1)), (.v (.int .i64 a0.2.1)), (.v (.int .i64 a0.2.2.1)), (.v (.int .i64 a0.2.2.2.1))]), some (.arr 53 ty_GripStep s2.2), some (.arr 3 (.int .i64) [(0 : Int), (1 : Int), (500 : Int)])]⟩)) (step := (fun s : Int × (List GripStep) => impl_GripState_someSteps_loop2 _ _ s.1 s.2)) _ H (by kernel_rfl) (sub_auto ?_) ?_; rotate_left; (intro s2 r v hr H); rotate_right)
        | ((repeat (first | replace H := grd_k H | replace H := out_step H (by assumption))); refine again_step H (by assumption) (sub_auto ?_))
        | ((with_reducible refine fin_mk ?_); (repeat (first | replace H := grd_k H | replace H := out_step H (by assumption))); have H := Option.some.inj H; subst H))
def G21 : Env := G20.add 119 [] impl_GripState_someSteps.S
theorem G21_ok : EnvOk Try.prog G21 := G20_ok.add ent_119 fun ar h r h1 ⟨a0, y, hy, e1, e2, e3, e4⟩ => by
  subst e3 e4; exact (impl_GripState_someSteps.spec a0 y hy).le e1 e2
attribute [local irreducible] impl_GripState_someSteps

noncomputable def slices_Compact___int_int__loop2 (a0 : (List Int)) (v16 : Int) (v20 : Int) (v21 : Int) (v22 : (List Int)) : Option (Lp (Int × Int × (List Int)) ((Int × (List Int)))) :=
  (cond (decide (v21 < ((((a0.length : Int) - v16).toNat : Nat) : Int))) (grd (0 ≤ v21 ∧ v21 < ((((a0.length : Int) - v16).toNat) : Int)) (grd (0 ≤ (w64 (v21 - (1 : Int))) ∧ (w64 (v21 - (1 : Int))) < ((((a0.length : Int) - v16).toNat) : Int)) (cond (!decide ((v22.getD (v16.toNat + v21.toNat) 0) = (v22.getD (v16.toNat + (w64 (v21 - (1 : Int))).toNat) 0))) (grd (0 ≤ v21 ∧ v21 < ((((a0.length : Int) - v16).toNat) : Int)) (grd (0 ≤ v20 ∧ v20 < (v22.length : Int)) (some (.go ((w64 (v20 + (1 : Int))), (w64 (v21 + (1 : Int))), (v22.set v20.toNat (v22.getD (v16.toNat + v21.toNat) 0))))))) (some (.go (v20, (w64 (v21 + (1 : Int))), v22)))))) ((some (.out (v20, v22)))))
noncomputable def slices_Compact___int_int__loop1 (a0 : (List Int)) (v16 : Int) : Option (Lp (Int) (((List Int)) ⊕ (Unit))) :=
  (cond (decide (v16 < (a0.length : Int))) (grd (0 ≤ v16 ∧ v16 < (a0.length : Int)) (grd (0 ≤ (w64 (v16 - (1 : Int))) ∧ (w64 (v16 - (1 : Int))) < (a0.length : Int)) (cond (decide ((a0.getD v16.toNat 0) = (a0.getD ((w64 (v16 - (1 : Int))).toNat) 0))) (grd (0 ≤ v16 ∧ v16 ≤ (a0.length : Int) ∧ (a0.length : Int) ≤ (a0.length : Int)) ((iter (fun s => slices_Compact___int_int__loop2 a0 v16 s.1 s.2.1 s.2.2) (v16, (1 : Int), a0)).bind (fun r23 => (grd (0 ≤ r23.1 ∧ r23.1 ≤ (r23.2.length : Int) ∧ (r23.2.length : Int) ≤ (r23.2.length : Int)) (grd (0 ≤ (0 : Int) ∧ (0 : Int) ≤ r23.1 ∧ r23.1 ≤ ((clr r23.2 r23.1.toNat (((r23.2.length : Int) - r23.1).toNat) (0 : Int)).length : Int)) ((some (.out (Sum.inl ((clr r23.2 r23.1.toNat (((r23.2.length : Int) - r23.1).toNat) (0 : Int)).take r23.1.toNat)))))))))) (some (.go (w64 (v16 + (1 : Int)))))))) ((some (.out (Sum.inr ())))))
noncomputable def slices_Compact___int_int_ (a0 : (List Int)) : Option (((List Int) × (List Int)) ⊕ ((List Int))) :=
  (cond (decide ((a0.length : Int) < (2 : Int))) ((some (Sum.inl (a0, a0)))) ((iter (fun s => slices_Compact___int_int__loop1 a0 s) (1 : Int)).bind (Sum.elim (fun r25 => (some (Sum.inr r25))) (fun _ => (some (Sum.inl (a0, a0)))))))
def slices_Compact___int_int_.res (_ : (List Int)) (y : ((List Int) × (List Int)) ⊕ ((List Int))) : AV := match y with
  | (.inl y) => (.own 0)
  | (.inr y) => (.own 1)
def slices_Compact___int_int_.out (_ : (List Int)) (y : ((List Int) × (List Int)) ⊕ ((List Int))) : List (Option LB) := match y with
  | (.inl y) => [some (.arr 3 (.int .i64) y.2)]
  | (.inr y) => [none, some (.arr 3 (.int .i64) y)]
def slices_Compact___int_int_.S (ar : List AV) (h : List (Option LB)) (r : AV) (h1 : List (Option LB)) : Prop := ∃ a0 y, slices_Compact___int_int_ a0 = some y ∧ leL ar [(.own 0)] ∧ leH h [some (.arr 3 (.int .i64) a0)] ∧ r = slices_Compact___int_int_.res a0 y ∧ h1 = slices_Compact___int_int_.out a0 y
theorem slices_Compact___int_int_.call {ar : List AV} {h : List (Option LB)} {a0 : (List Int)} {y : ((List Int) × (List Int)) ⊕ ((List Int))} (H : slices_Compact___int_int_ a0 = some y) (h0 : leLk ar [(.own 0)] (leHk h [some (.arr 3 (.int .i64) a0)])) : slices_Compact___int_int_.S ar h (slices_Compact___int_int_.res a0 y) (slices_Compact___int_int_.out a0 y) := ⟨a0, y, H, (args_ok h0).1, (args_ok h0).2, rfl, rfl⟩
set_option maxHeartbeats 100000000 in
set_option maxRecDepth 100000 in
theorem slices_Compact___int_int_.spec (a0 : (List Int)) (y : ((List Int) × (List Int)) ⊕ ((List Int))) (H : slices_Compact___int_int_ a0 = some y) : Spec Try.prog 120 [(.own 0)] [some (.arr 3 (.int .i64) a0)] (slices_Compact___int_int_.res a0 y) (slices_Compact___int_int_.out a0 y) := by
  have hlen : Nat.ble ([some (.arr 3 (.int .i64) a0)] : List (Option LB)).length (slices_Compact___int_int_.out a0 y).length = true := by
    rcases y with y | y <;> rfl
  refine spec_intro (G21_ok.at tok [59]) (ct := [(5, some [0, 3]), (7, some [0, 3, 25]), (12, some [0, 3, 4, 5, 44])]) Try.func120 rfl (by kernel_rfl) (by kernel_rfl) hlen ?_
  repeat' first
    | ((with_reducible refine eqg ?_); exact rfl)
    | ((with_reducible refine KOb.mk ?_); kernel_rfl)
    | ((with_reducible intro h); (repeat (first | replace H := grd_k H | replace H := out_step H (by assumption))); first | replace H := cond_t h H | replace H := cond_f h H | exact absurd h (by decide) | skip)
    | ((with_reducible refine Ob.mk ?_); first | rfl | (repeat (first | exact grd_p H | replace H := grd_k H | replace H := out_step H (by assumption))))
    | (with_reducible exact True.intro)
    | constructor
    | ((conv => whnf); first
        | ((with_reducible refine Ob.mk ?_); first | rfl | (repeat (first | exact grd_p H | replace H := grd_k H | replace H := out_step H (by assumption))))
        | ((repeat (first | replace H := grd_k H | replace H := out_step H (by assumption))); refine loop_iter (G21_ok.at tok [59]) (ct := [(5, some [0, 3]), (7, some [0, 3, 25]), (12, some [0, 3, 4, 5, 44])]) (F := (fun s1 : Int => ⟨sl [(0, (.own 0)), (3, (.v (.int .i64 s1)))], [some (.arr 3 (.int .i64) a0)]⟩)) (step := (fun s : Int => slices_Compact___int_int__loop1 _ s)) _ H (by kernel_rfl) (sub_auto ?_) ?_; rotate_left; (intro s1 r v hr H); rotate_right)
        | ((repeat (first | replace H := grd_k H | replace H := out_step H (by assumption))); refine loop_iter (G21_ok.at tok [59]) (ct := [(5, some [0, 3]), (7, some [0, 3, 25]), (12, some [0, 3, 4, 5, 44])]) (F := (fun s2 : Int × Int × (List Int) => ⟨sl [(0, (.own 0)), (3, (.v (.int .i64 s2.1))), (4, (.view 0 s1.toNat (((a0.length : Int) - s1).toNat))), (5, (.v (.int .i64 s2.2.1)))], [some (.arr 3 (.int .i64) s2.2.2)]⟩)) (step := (fun s : Int × Int × (List Int) => slices_Compact___int_int__loop2 _ _ s.1 s.2.1 s.2.2)) _ H (by kernel_rfl) (sub_auto ?_) ?_; rotate_left; (intro s2 r v hr H); rotate_right)
        | ((repeat (first | replace H := grd_k H | replace H := out_step H (by assumption))); refine again_step H (by assumption) (sub_auto ?_))
        | ((with_reducible refine fin_mk ?_); (repeat (first | replace H := grd_k H | replace H := out_step H (by assumption))); have H := Option.some.inj H; subst H))
  all_goals exact viewz _ _
def G22 : Env := G21.add 120 [true] slices_Compact___int_int_.S
theorem G22_ok : EnvOk Try.prog G22 := G21_ok.add ent_120 fun ar h r h1 ⟨a0, y, hy, e1, e2, e3, e4⟩ => by
  subst e3 e4; exact (slices_Compact___int_int_.spec a0 y hy).le e1 e2
attribute [local irreducible] slices_Compact___int_int_

noncomputable def impl_PossibleSteps_loop1  (v9 : Int) (v10 : Int) (v11 : (List Int)) (v12 : (List GripStep)) : Option (Lp (Int × Int × (List Int) × (List GripStep)) (((List Int)))) :=
  (cond (decide (v10 < v9)) (grd (0 ≤ v10 ∧ v10 < (v12.length : Int)) (grd ((v11.length + [(v12.getD v10.toNat d_GripStep).1].length) * 8 ≤ 140737488355328 ∧ v11.length + [(v12.getD v10.toNat d_GripStep).1].length ≤ 140737488355328) (some (.go (v9, (w64 (v10 + (1 : Int))), (v11 ++ [(v12.getD v10.toNat d_GripStep).1]), v12))))) ((some (.out v11))))
noncomputable def impl_PossibleSteps (a0 : GripState) : Option ((Unit) ⊕ ((List Int))) :=
  ((impl_IsGripState (a0.1, a0.2.1, a0.2.2.1, a0.2.2.2.1, ())).bind fun y1 => (cond (!y1) ((some (Sum.inl ()))) ((impl_GripState_someSteps (a0.1, a0.2.1, a0.2.2.1, a0.2.2.2.1, ())).bind fun y2 => ((iter (fun s => impl_PossibleSteps_loop1 s.1 s.2.1 s.2.2.1 s.2.2.2) ((y2.length : Int), (0 : Int), ([] : List Int), y2)).bind (fun r13 => ((slices_Compact___int_int_ r13).bind (Sum.elim (fun y15 => (some (Sum.inr y15.2))) (fun y16 => (some (Sum.inr y16))))))))))
def impl_PossibleSteps.res (_ : GripState) (y : (Unit) ⊕ ((List Int))) : AV := match y with
  | (.inl y) => (.tup [(.v (.slice none 0 0)), (.v (.bool false))])
  | (.inr y) => (.tup [(.own 0), (.v (.bool true))])
def impl_PossibleSteps.out (_ : GripState) (y : (Unit) ⊕ ((List Int))) : List (Option LB) := match y with
  | (.inl y) => []
  | (.inr y) => [some (.arr 3 (.int .i64) y)]
def impl_PossibleSteps.S (ar : List AV) (h : List (Option LB)) (r : AV) (h1 : List (Option LB)) : Prop := ∃ a0 y, impl_PossibleSteps a0 = some y ∧ leL ar [(.agg [(.v (.int .i64 a0.1)), (.v (.int .i64 a0.2.1)), (.v (.int .i64 a0.2.2.1)), (.v (.int .i64 a0.2.2.2.1))])] ∧ leH h [] ∧ r = impl_PossibleSteps.res a0 y ∧ h1 = impl_PossibleSteps.out a0 y
theorem impl_PossibleSteps.call {ar : List AV} {h : List (Option LB)} {a0 : GripState} {y : (Unit) ⊕ ((List Int))} (H : impl_PossibleSteps a0 = some y) (h0 : leLk ar [(.agg [(.v (.int .i64 a0.1)), (.v (.int .i64 a0.2.1)), (.v (.int .i64 a0.2.2.1)), (.v (.int .i64 a0.2.2.2.1))])] (leHk h [])) : impl_PossibleSteps.S ar h (impl_PossibleSteps.res a0 y) (impl_PossibleSteps.out a0 y) := ⟨a0, y, H, (args_ok h0).1, (args_ok h0).2, rfl, rfl⟩
set_option maxHeartbeats 100000000 in
set_option maxRecDepth 100000 in
theorem impl_PossibleSteps.spec (a0 : GripState) (y : (Unit) ⊕ ((List Int))) (H : impl_PossibleSteps a0 = some y) : Spec Try.prog 38 [(.agg [(.v (.int .i64 a0.1)), (.v (.int .i64 a0.2.1)), (.v (.int .i64 a0.2.2.1)), (.v (.int .i64 a0.2.2.2.1))])] [] (impl_PossibleSteps.res a0 y) (impl_PossibleSteps.out a0 y) := by
  have hlen : Nat.ble ([] : List (Option LB)).length (impl_PossibleSteps.out a0 y).length = true := by
    rcases y with y | y <;> rfl
  refine spec_intro (G22_ok.at tok []) (ct := [(5, some [4, 12, 13, 14])]) Try.func38 rfl (by kernel_rfl) (by kernel_rfl) hlen ?_
  repeat' first
    | ((with_reducible refine eqg ?_); exact rfl)
    | ((with_reducible refine KOb.mk ?_); kernel_rfl)
    | ((with_reducible intro h); (repeat (first | replace H := grd_k H | replace H := out_step H (by assumption))); first | replace H := cond_t h H | replace H := cond_f h H | exact absurd h (by decide) | skip)
    | ((with_reducible refine Ob.mk ?_); first | rfl | (repeat (first | exact grd_p H | replace H := grd_k H | replace H := out_step H (by assumption))))
    | (with_reducible exact True.intro)
    | constructor
    | ((conv => whnf); first
        | ((with_reducible refine Ob.mk ?_); first | rfl | (repeat (first | exact grd_p H | replace H := grd_k H | replace H := out_step H (by assumption))))
        | ((with_reducible refine CallW.mk ?_); (repeat (first | replace H := grd_k H | replace H := out_step H (by assumption))); replace H := bind_some H; obtain ⟨y, hy, H⟩ := H; first | ((with_reducible have hz : impl_IsGripState _ = some y := hy); clear hz; refine Exists.intro _ (Exists.intro _ ⟨impl_IsGripState.call hy ?_, rfl, rfl, ?_⟩)) | ((with_reducible have hz : impl_GripState_someSteps _ = some y := hy); clear hz; refine Exists.intro _ (Exists.intro _ ⟨impl_GripState_someSteps.call hy ?_, rfl, rfl, ?_⟩)) | ((with_reducible have hz : slices_Compact___int_int_ _ = some y := hy); clear hz; rcases y with y | y <;> refine Exists.intro _ (Exists.intro _ ⟨slices_Compact___int_int_.call hy ?_, rfl, rfl, ?_⟩)))
        | ((repeat (first | replace H := grd_k H | replace H := out_step H (by assumption))); refine loop_iter (G22_ok.at tok []) (ct := [(5, some [4, 12, 13, 14])]) (F := (fun s1 : Int × Int × (List Int) × (List GripStep) => ⟨sl [(4, (.own 0)), (12, (.own 1)), (13, (.v (.int .i64 s1.1))), (14, (.v (.int .i64 s1.2.1)))], [some (.arr 3 (.int .i64) s1.2.2.1), some (.arr 53 ty_GripStep s1.2.2.2)]⟩)) (step := (fun s : Int × Int × (List Int) × (List GripStep) => impl_PossibleSteps_loop1 s.1 s.2.1 s.2.2.1 s.2.2.2)) _ H (by kernel_rfl) (sub_auto ?_) ?_; rotate_left; (intro s1 r v hr H); rotate_right)
        | ((repeat (first | replace H := grd_k H | replace H := out_step H (by assumption))); refine again_step H (by assumption) (sub_auto ?_))
        | ((with_reducible refine fin_mk ?_); (repeat (first | replace H := grd_k H | replace H := out_step H (by assumption))); have H := Option.some.inj H; subst H))
def G23 : Env := G22.add 38 [] impl_PossibleSteps.S
theorem G23_ok : EnvOk Try.prog G23 := G22_ok.add ent_38 fun ar h r h1 ⟨a0, y, hy, e1, e2, e3, e4⟩ => by
  subst e3 e4; exact (impl_PossibleSteps.spec a0 y hy).le e1 e2
attribute [local irreducible] impl_PossibleSteps

noncomputable def laws_vHas_loop1 (a0 : (List Int)) (a1 : Int) (v2 : Int) : Option (Lp (Int) ((Unit) ⊕ (Unit))) :=
  (cond (decide (v2 < (a0.length : Int))) (grd (0 ≤ v2 ∧ v2 < (a0.length : Int)) (cond (decide ((a0.getD v2.toNat 0) = a1)) ((some (.out (Sum.inl ())))) (some (.go (w64 (v2 + (1 : Int))))))) ((some (.out (Sum.inr ())))))
noncomputable def laws_vHas (a0 : (List Int)) (a1 : Int) : Option (Bool) :=
  ((iter (fun s => laws_vHas_loop1 a0 a1 s) (0 : Int)).bind (Sum.elim (fun _ => (some true)) (fun _ => (some false))))
def laws_vHas.res (_ : (List Int)) (_ : Int) (y : Bool) : AV := (.bl y)
def laws_vHas.out (_ : (List Int)) (_ : Int) (_ : Bool) : List (Option LB) := []
def laws_vHas.S (ar : List AV) (h : List (Option LB)) (r : AV) (h1 : List (Option LB)) : Prop := ∃ a0 a1 y, laws_vHas a0 a1 = some y ∧ leL ar [(.tree (.int .i64) a0), (.v (.int .i64 a1))] ∧ leH h [] ∧ r = laws_vHas.res a0 a1 y ∧ h1 = laws_vHas.out a0 a1 y
theorem laws_vHas.call {ar : List AV} {h : List (Option LB)} {a0 : (List Int)} {a1 : Int} {y : Bool} (H : laws_vHas a0 a1 = some y) (h0 : leLk ar [(.tree (.int .i64) a0), (.v (.int .i64 a1))] (leHk h [])) : laws_vHas.S ar h (laws_vHas.res a0 a1 y) (laws_vHas.out a0 a1 y) := ⟨a0, a1, y, H, (args_ok h0).1, (args_ok h0).2, rfl, rfl⟩
set_option maxHeartbeats 100000000 in
set_option maxRecDepth 100000 in
theorem laws_vHas.spec (a0 : (List Int)) (a1 : Int) (y : Bool) (H : laws_vHas a0 a1 = some y) : Spec Try.prog 39 [(.tree (.int .i64) a0), (.v (.int .i64 a1))] [] (laws_vHas.res a0 a1 y) (laws_vHas.out a0 a1 y) := by
  refine spec_intro (G23_ok.at tok []) (ct := []) Try.func39 rfl (by kernel_rfl) (by kernel_rfl) rfl ?_
  repeat' first
    | ((with_reducible refine eqg ?_); exact rfl)
    | ((with_reducible refine KOb.mk ?_); kernel_rfl)
    | ((with_reducible intro h); (repeat (first | replace H := grd_k H | replace H := out_step H (by assumption))); first | replace H := cond_t h H | replace H := cond_f h H | exact absurd h (by decide) | skip)
    | ((with_reducible refine Ob.mk ?_); first | rfl | (repeat (first | exact grd_p H | replace H := grd_k H | replace H := out_step H (by assumption))))
    | (with_reducible exact True.intro)
    | constructor
    | ((conv => whnf); first
        | ((with_reducible refine Ob.mk ?_); first | rfl | (repeat (first | exact grd_p H | replace H := grd_k H | replace H := out_step H (by assumption))))
        | ((repeat (first | replace H := grd_k H | replace H := out_step H (by assumption))); refine loop_iter (G23_ok.at tok []) (ct := []) (F := (fun s1 : Int => ⟨sl [(0, (.tree (.int .i64) a0)), (1, (.v (.int .i64 a1))), (5, (.v (.int .i64 s1)))], []⟩)) (step := (fun s : Int => laws_vHas_loop1 _ _ s)) _ H (by kernel_rfl) (sub_auto ?_) ?_; rotate_left; (intro s1 r v hr H); rotate_right)
        | ((repeat (first | replace H := grd_k H | replace H := out_step H (by assumption))); refine again_step H (by assumption) (sub_auto ?_))
        | ((with_reducible refine fin_mk ?_); (repeat (first | replace H := grd_k H | replace H := out_step H (by assumption))); have H := Option.some.inj H; subst H))
def G24 : Env := G23.add 39 [] laws_vHas.S
theorem G24_ok : EnvOk Try.prog G24 := G23_ok.add ent_39 fun ar h r h1 ⟨a0, a1, y, hy, e1, e2, e3, e4⟩ => by
  subst e3 e4; exact (laws_vHas.spec a0 a1 y hy).le e1 e2
attribute [local irreducible] laws_vHas

end Go.Proofs.Ytmknleaomfpmmaa
