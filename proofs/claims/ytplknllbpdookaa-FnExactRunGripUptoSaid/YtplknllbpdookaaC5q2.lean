/-
  Contracts, printed by a program.
-/
import Derived.Test.YtplknllbpdookaaC5q1
namespace Go.Proofs.Ytplknllbpdookaa
open Go.RowKit
attribute [local irreducible] Ob loopwp Sub Spec Fin Again CallW CutC KOb iter joinx outm

attribute [local irreducible] laws_toGripState laws_toGripStep spec_l1In spec_l21Good spec_l21Step spec_l1Least spec_l21Move spec_l21Make spec_StepGrip impl_within impl_IsGripState impl_GripState_step

noncomputable def impl_StepGrip (a0 : GripState) (a1 : GripStep) : Option (GripState × Bool) :=
  ((impl_IsGripState (a0.1, a0.2.1, a0.2.2.1, a0.2.2.2.1, ())).bind fun y1 => (cond (!y1) ((some (((0 : Int), (0 : Int), (0 : Int), (0 : Int), ()), false))) ((impl_GripState_step (a0.1, a0.2.1, a0.2.2.1, a0.2.2.2.1, ()) (a1.1, a1.2.1, ())).bind fun y2 => (cond (!y2.2) ((some (((0 : Int), (0 : Int), (0 : Int), (0 : Int), ()), false))) ((some ((y2.1.1, y2.1.2.1, y2.1.2.2.1, y2.1.2.2.2.1, ()), true)))))))
def impl_StepGrip.res (_ : GripState) (_ : GripStep) (y : GripState × Bool) : AV := (.tup [(.agg [(.v (.int .i64 y.1.1)), (.v (.int .i64 y.1.2.1)), (.v (.int .i64 y.1.2.2.1)), (.v (.int .i64 y.1.2.2.2.1))]), (.bl y.2)])
def impl_StepGrip.out (_ : GripState) (_ : GripStep) (_ : GripState × Bool) : List (Option LB) := []
def impl_StepGrip.S (ar : List AV) (h : List (Option LB)) (r : AV) (h1 : List (Option LB)) : Prop := ∃ a0 a1 y, impl_StepGrip a0 a1 = some y ∧ leL ar [(.agg [(.v (.int .i64 a0.1)), (.v (.int .i64 a0.2.1)), (.v (.int .i64 a0.2.2.1)), (.v (.int .i64 a0.2.2.2.1))]), (.agg [(.v (.int .i64 a1.1)), (.v (.int .i64 a1.2.1))])] ∧ leH h [] ∧ r = impl_StepGrip.res a0 a1 y ∧ h1 = impl_StepGrip.out a0 a1 y
theorem impl_StepGrip.call {ar : List AV} {h : List (Option LB)} {a0 : GripState} {a1 : GripStep} {y : GripState × Bool} (H : impl_StepGrip a0 a1 = some y) (h1 : leL ar [(.agg [(.v (.int .i64 a0.1)), (.v (.int .i64 a0.2.1)), (.v (.int .i64 a0.2.2.1)), (.v (.int .i64 a0.2.2.2.1))]), (.agg [(.v (.int .i64 a1.1)), (.v (.int .i64 a1.2.1))])]) (h2 : leH h []) : impl_StepGrip.S ar h (impl_StepGrip.res a0 a1 y) (impl_StepGrip.out a0 a1 y) := ⟨a0, a1, y, H, h1, h2, rfl, rfl⟩
set_option maxHeartbeats 100000000 in
set_option maxRecDepth 100000 in
theorem impl_StepGrip.spec (a0 : GripState) (a1 : GripStep) (y : GripState × Bool) (H : impl_StepGrip a0 a1 = some y) : Spec Try.prog 31 [(.agg [(.v (.int .i64 a0.1)), (.v (.int .i64 a0.2.1)), (.v (.int .i64 a0.2.2.1)), (.v (.int .i64 a0.2.2.2.1))]), (.agg [(.v (.int .i64 a1.1)), (.v (.int .i64 a1.2.1))])] [] (impl_StepGrip.res a0 a1 y) (impl_StepGrip.out a0 a1 y) := by
  refine spec_intro G12_ok (ct := [(4, some [4, 6, 7])]) Try.func31 rfl (by kernel_rfl) (by kernel_rfl) rfl ?_
  repeat' first
    | ((with_reducible refine eqg ?_); exact rfl)
    | ((with_reducible refine KOb.mk ?_); kernel_rfl)
    | ((with_reducible intro h); (repeat (first | replace H := grd_k H | replace H := out_step H (by assumption))); first | replace H := cond_t h H | replace H := cond_f h H | exact absurd h (by decide) | skip)
    | ((with_reducible refine Ob.mk ?_); first | rfl | (repeat (first | exact grd_p H | replace H := grd_k H | replace H := out_step H (by assumption))))
    | (with_reducible exact True.intro)
    | constructor
    | ((conv => whnf); first
        | ((with_reducible refine Ob.mk ?_); first | rfl | (repeat (first | exact grd_p H | replace H := grd_k H | replace H := out_step H (by assumption))))
        | ((with_reducible refine CallW.mk ?_); (repeat (first | replace H := grd_k H | replace H := out_step H (by assumption))); replace H := bind_some H; obtain ⟨y, hy, H⟩ := H; first | ((with_reducible have hz : impl_IsGripState _ = some y := hy); clear hz; refine Exists.intro _ (Exists.intro _ ⟨impl_IsGripState.call hy ?_ ?_, rfl, rfl, ?_⟩)) | ((with_reducible have hz : impl_GripState_step _ _ = some y := hy); clear hz; refine Exists.intro _ (Exists.intro _ ⟨impl_GripState_step.call hy ?_ ?_, rfl, rfl, ?_⟩)))
        | ((with_reducible refine fin_mk ?_); (repeat (first | replace H := grd_k H | replace H := out_step H (by assumption))); have H := Option.some.inj H; subst H))
def G13 : Env := G12.add 31 [] impl_StepGrip.S
theorem G13_ok : EnvOk Try.prog G13 := G12_ok.add ent_31 fun ar h r h1 ⟨a0, a1, y, hy, e1, e2, e3, e4⟩ => by
  subst e3 e4; exact (impl_StepGrip.spec a0 a1 y hy).le e1 e2
attribute [local irreducible] impl_StepGrip

noncomputable def laws_eqGripState (a0 : GripState) (a1 : GripState) : Option (Bool) :=
  (cond (!decide (a0.1 = a1.1)) ((some false)) (cond (!decide (a0.2.1 = a1.2.1)) ((some false)) (cond (!decide (a0.2.2.1 = a1.2.2.1)) ((some false)) (cond (!decide (a0.2.2.2.1 = a1.2.2.2.1)) ((some false)) ((some true))))))
def laws_eqGripState.res (_ : GripState) (_ : GripState) (y : Bool) : AV := (.bl y)
def laws_eqGripState.out (_ : GripState) (_ : GripState) (_ : Bool) : List (Option LB) := []
def laws_eqGripState.S (ar : List AV) (h : List (Option LB)) (r : AV) (h1 : List (Option LB)) : Prop := ∃ a0 a1 y, laws_eqGripState a0 a1 = some y ∧ leL ar [(.agg [(.v (.int .i64 a0.1)), (.v (.int .i64 a0.2.1)), (.v (.int .i64 a0.2.2.1)), (.v (.int .i64 a0.2.2.2.1))]), (.agg [(.v (.int .i64 a1.1)), (.v (.int .i64 a1.2.1)), (.v (.int .i64 a1.2.2.1)), (.v (.int .i64 a1.2.2.2.1))])] ∧ leH h [] ∧ r = laws_eqGripState.res a0 a1 y ∧ h1 = laws_eqGripState.out a0 a1 y
theorem laws_eqGripState.call {ar : List AV} {h : List (Option LB)} {a0 : GripState} {a1 : GripState} {y : Bool} (H : laws_eqGripState a0 a1 = some y) (h1 : leL ar [(.agg [(.v (.int .i64 a0.1)), (.v (.int .i64 a0.2.1)), (.v (.int .i64 a0.2.2.1)), (.v (.int .i64 a0.2.2.2.1))]), (.agg [(.v (.int .i64 a1.1)), (.v (.int .i64 a1.2.1)), (.v (.int .i64 a1.2.2.1)), (.v (.int .i64 a1.2.2.2.1))])]) (h2 : leH h []) : laws_eqGripState.S ar h (laws_eqGripState.res a0 a1 y) (laws_eqGripState.out a0 a1 y) := ⟨a0, a1, y, H, h1, h2, rfl, rfl⟩
set_option maxHeartbeats 100000000 in
set_option maxRecDepth 100000 in
theorem laws_eqGripState.spec (a0 : GripState) (a1 : GripState) (y : Bool) (H : laws_eqGripState a0 a1 = some y) : Spec Try.prog 32 [(.agg [(.v (.int .i64 a0.1)), (.v (.int .i64 a0.2.1)), (.v (.int .i64 a0.2.2.1)), (.v (.int .i64 a0.2.2.2.1))]), (.agg [(.v (.int .i64 a1.1)), (.v (.int .i64 a1.2.1)), (.v (.int .i64 a1.2.2.1)), (.v (.int .i64 a1.2.2.2.1))])] [] (laws_eqGripState.res a0 a1 y) (laws_eqGripState.out a0 a1 y) := by
  refine spec_intro G13_ok (ct := [(4, some [2, 3, 14])]) Try.func32 rfl (by kernel_rfl) (by kernel_rfl) rfl ?_
  repeat' first
    | ((with_reducible refine eqg ?_); exact rfl)
    | ((with_reducible refine KOb.mk ?_); kernel_rfl)
    | ((with_reducible intro h); (repeat (first | replace H := grd_k H | replace H := out_step H (by assumption))); first | replace H := cond_t h H | replace H := cond_f h H | exact absurd h (by decide) | skip)
    | ((with_reducible refine Ob.mk ?_); first | rfl | (repeat (first | exact grd_p H | replace H := grd_k H | replace H := out_step H (by assumption))))
    | (with_reducible exact True.intro)
    | constructor
    | ((conv => whnf); first
        | ((with_reducible refine Ob.mk ?_); first | rfl | (repeat (first | exact grd_p H | replace H := grd_k H | replace H := out_step H (by assumption))))
        | ((with_reducible refine fin_mk ?_); (repeat (first | replace H := grd_k H | replace H := out_step H (by assumption))); have H := Option.some.inj H; subst H))
def G14 : Env := G13.add 32 [] laws_eqGripState.S
theorem G14_ok : EnvOk Try.prog G14 := G13_ok.add ent_32 fun ar h r h1 ⟨a0, a1, y, hy, e1, e2, e3, e4⟩ => by
  subst e3 e4; exact (laws_eqGripState.spec a0 a1 y hy).le e1 e2
attribute [local irreducible] laws_eqGripState

noncomputable def laws_FnExactStepGrip (a0 : GripState) (a1 : GripStep) : Option (Bool) :=
  (((laws_toGripState (a0.1, a0.2.1, a0.2.2.1, a0.2.2.2.1, ())).bind fun y1 => ((laws_toGripStep (a1.1, a1.2.1, ())).bind fun y2 => ((spec_StepGrip (y1.1, y1.2.1, y1.2.2.1, y1.2.2.2.1, ()) (y2.1, y2.2.1, ())).bind fun y3 => (some (y3.2, y3.1.1, y3.1.2.1, y3.1.2.2.1, y3.1.2.2.2.1))))).bind fun z4 => (((laws_toGripState (a0.1, a0.2.1, a0.2.2.1, a0.2.2.2.1, ())).bind fun y5 => ((laws_toGripStep (a1.1, a1.2.1, ())).bind fun y6 => ((impl_StepGrip (y5.1, y5.2.1, y5.2.2.1, y5.2.2.2.1, ()) (y6.1, y6.2.1, ())).bind fun y7 => (some (z4.1, y7.2, z4.2.1, z4.2.2.1, z4.2.2.2.1, z4.2.2.2.2, y7.1.1, y7.1.2.1, y7.1.2.2.1, y7.1.2.2.2.1))))).bind fun z8 => ((laws_eqGripState (z8.2.2.2.2.2.2.1, z8.2.2.2.2.2.2.2.1, z8.2.2.2.2.2.2.2.2.1, z8.2.2.2.2.2.2.2.2.2, ()) (z8.2.2.1, z8.2.2.2.1, z8.2.2.2.2.1, z8.2.2.2.2.2.1, ())).bind fun y9 => (cond (!y9) ((some false)) (cond (!(z8.2.1 == z8.1)) ((some false)) ((some true)))))))
def laws_FnExactStepGrip.res (_ : GripState) (_ : GripStep) (y : Bool) : AV := (.bl y)
def laws_FnExactStepGrip.out (_ : GripState) (_ : GripStep) (_ : Bool) : List (Option LB) := []
def laws_FnExactStepGrip.S (ar : List AV) (h : List (Option LB)) (r : AV) (h1 : List (Option LB)) : Prop := ∃ a0 a1 y, laws_FnExactStepGrip a0 a1 = some y ∧ leL ar [(.agg [(.v (.int .i64 a0.1)), (.v (.int .i64 a0.2.1)), (.v (.int .i64 a0.2.2.1)), (.v (.int .i64 a0.2.2.2.1))]), (.agg [(.v (.int .i64 a1.1)), (.v (.int .i64 a1.2.1))])] ∧ leH h [] ∧ r = laws_FnExactStepGrip.res a0 a1 y ∧ h1 = laws_FnExactStepGrip.out a0 a1 y
theorem laws_FnExactStepGrip.call {ar : List AV} {h : List (Option LB)} {a0 : GripState} {a1 : GripStep} {y : Bool} (H : laws_FnExactStepGrip a0 a1 = some y) (h1 : leL ar [(.agg [(.v (.int .i64 a0.1)), (.v (.int .i64 a0.2.1)), (.v (.int .i64 a0.2.2.1)), (.v (.int .i64 a0.2.2.2.1))]), (.agg [(.v (.int .i64 a1.1)), (.v (.int .i64 a1.2.1))])]) (h2 : leH h []) : laws_FnExactStepGrip.S ar h (laws_FnExactStepGrip.res a0 a1 y) (laws_FnExactStepGrip.out a0 a1 y) := ⟨a0, a1, y, H, h1, h2, rfl, rfl⟩
set_option maxHeartbeats 100000000 in
set_option maxRecDepth 100000 in
theorem laws_FnExactStepGrip.spec (a0 : GripState) (a1 : GripStep) (y : Bool) (H : laws_FnExactStepGrip a0 a1 = some y) : Spec Try.prog 6 [(.agg [(.v (.int .i64 a0.1)), (.v (.int .i64 a0.2.1)), (.v (.int .i64 a0.2.2.1)), (.v (.int .i64 a0.2.2.2.1))]), (.agg [(.v (.int .i64 a1.1)), (.v (.int .i64 a1.2.1))])] [] (laws_FnExactStepGrip.res a0 a1 y) (laws_FnExactStepGrip.out a0 a1 y) := by
  refine spec_intro G14_ok (ct := [(2, none), (3, none)]) Try.func6 rfl (by kernel_rfl) (by kernel_rfl) rfl ?_
  repeat' first
    | ((with_reducible refine eqg ?_); exact rfl)
    | ((with_reducible refine KOb.mk ?_); kernel_rfl)
    | ((with_reducible intro h); (repeat (first | replace H := grd_k H | replace H := out_step H (by assumption))); first | replace H := cond_t h H | replace H := cond_f h H | exact absurd h (by decide) | skip)
    | ((with_reducible refine Ob.mk ?_); first | rfl | (repeat (first | exact grd_p H | replace H := grd_k H | replace H := out_step H (by assumption))))
    | (with_reducible exact True.intro)
    | constructor
    | ((conv => whnf); first
        | ((with_reducible refine Ob.mk ?_); first | rfl | (repeat (first | exact grd_p H | replace H := grd_k H | replace H := out_step H (by assumption))))
        | ((with_reducible refine CallW.mk ?_); (repeat (first | replace H := grd_k H | replace H := out_step H (by assumption))); replace H := bind_some H; obtain ⟨y, hy, H⟩ := H; first | ((with_reducible have hz : laws_toGripState _ = some y := hy); clear hz; refine Exists.intro _ (Exists.intro _ ⟨laws_toGripState.call hy ?_ ?_, rfl, rfl, ?_⟩)) | ((with_reducible have hz : laws_toGripStep _ = some y := hy); clear hz; refine Exists.intro _ (Exists.intro _ ⟨laws_toGripStep.call hy ?_ ?_, rfl, rfl, ?_⟩)) | ((with_reducible have hz : spec_StepGrip _ _ = some y := hy); clear hz; refine Exists.intro _ (Exists.intro _ ⟨spec_StepGrip.call hy ?_ ?_, rfl, rfl, ?_⟩)) | ((with_reducible have hz : impl_StepGrip _ _ = some y := hy); clear hz; refine Exists.intro _ (Exists.intro _ ⟨impl_StepGrip.call hy ?_ ?_, rfl, rfl, ?_⟩)) | ((with_reducible have hz : laws_eqGripState _ _ = some y := hy); clear hz; refine Exists.intro _ (Exists.intro _ ⟨laws_eqGripState.call hy ?_ ?_, rfl, rfl, ?_⟩)))
        | ((with_reducible refine cutAt (id := 2) ?_); (repeat (first | replace H := grd_k H | replace H := out_step H (by assumption))); first | (replace H := bind_some H; obtain ⟨z, hz, H⟩ := H; refine CutC.mk (id := 2) ⟨sl [(2, (.loc 0 0 0)), (3, (.loc 1 0 0)), (5, (.loc 2 0 0)), (6, (.bl z.1))], [some (.box 44 [(.v (.int .i64 a0.1)), (.v (.int .i64 a0.2.1)), (.v (.int .i64 a0.2.2.1)), (.v (.int .i64 a0.2.2.2.1))]), some (.box 46 [(.v (.int .i64 a1.1)), (.v (.int .i64 a1.2.1))]), some (.box 47 [(.v (.int .i64 z.2.1)), (.v (.int .i64 z.2.2.1)), (.v (.int .i64 z.2.2.2.1)), (.v (.int .i64 z.2.2.2.2))])]⟩ ?_ ?_; (replace H := hz)))
        | ((with_reducible refine cutAt (id := 3) ?_); (repeat (first | replace H := grd_k H | replace H := out_step H (by assumption))); first | (replace H := bind_some H; obtain ⟨z, hz, H⟩ := H; refine CutC.mk (id := 3) ⟨sl [(5, (.loc 0 0 0)), (6, (.bl z.1)), (7, (.loc 1 0 0)), (8, (.bl z.2.1))], [some (.box 47 [(.v (.int .i64 z.2.2.1)), (.v (.int .i64 z.2.2.2.1)), (.v (.int .i64 z.2.2.2.2.1)), (.v (.int .i64 z.2.2.2.2.2.1))]), some (.box 47 [(.v (.int .i64 z.2.2.2.2.2.2.1)), (.v (.int .i64 z.2.2.2.2.2.2.2.1)), (.v (.int .i64 z.2.2.2.2.2.2.2.2.1)), (.v (.int .i64 z.2.2.2.2.2.2.2.2.2))])]⟩ ?_ ?_; (replace H := hz)))
        | ((repeat (first | replace H := grd_k H | replace H := out_step H (by assumption))); have H := Option.some.inj H; subst H; with_reducible refine sub_auto ?_)
        | ((with_reducible refine fin_mk ?_); (repeat (first | replace H := grd_k H | replace H := out_step H (by assumption))); have H := Option.some.inj H; subst H))
def G15 : Env := G14.add 6 [] laws_FnExactStepGrip.S
theorem G15_ok : EnvOk Try.prog G15 := G14_ok.add ent_6 fun ar h r h1 ⟨a0, a1, y, hy, e1, e2, e3, e4⟩ => by
  subst e3 e4; exact (laws_FnExactStepGrip.spec a0 a1 y hy).le e1 e2
attribute [local irreducible] laws_FnExactStepGrip

noncomputable def laws_szGripStepS (a0 : (List GripStep)) (a1 : Int) : Option (Int) :=
  (cond (decide ((w64 (a1 - (a0.length : Int))) < (0 : Int))) ((some ((-1) : Int))) ((some (w64 (a1 - (a0.length : Int))))))
def laws_szGripStepS.res (_ : (List GripStep)) (_ : Int) (y : Int) : AV := (.v (.int .i64 y))
def laws_szGripStepS.out (_ : (List GripStep)) (_ : Int) (_ : Int) : List (Option LB) := []
def laws_szGripStepS.S (ar : List AV) (h : List (Option LB)) (r : AV) (h1 : List (Option LB)) : Prop := ∃ a0 a1 y, laws_szGripStepS a0 a1 = some y ∧ leL ar [(.tree ty_GripStep a0), (.v (.int .i64 a1))] ∧ leH h [] ∧ r = laws_szGripStepS.res a0 a1 y ∧ h1 = laws_szGripStepS.out a0 a1 y
theorem laws_szGripStepS.call {ar : List AV} {h : List (Option LB)} {a0 : (List GripStep)} {a1 : Int} {y : Int} (H : laws_szGripStepS a0 a1 = some y) (h1 : leL ar [(.tree ty_GripStep a0), (.v (.int .i64 a1))]) (h2 : leH h []) : laws_szGripStepS.S ar h (laws_szGripStepS.res a0 a1 y) (laws_szGripStepS.out a0 a1 y) := ⟨a0, a1, y, H, h1, h2, rfl, rfl⟩
set_option maxHeartbeats 100000000 in
set_option maxRecDepth 100000 in
theorem laws_szGripStepS.spec (a0 : (List GripStep)) (a1 : Int) (y : Int) (H : laws_szGripStepS a0 a1 = some y) : Spec Try.prog 39 [(.tree ty_GripStep a0), (.v (.int .i64 a1))] [] (laws_szGripStepS.res a0 a1 y) (laws_szGripStepS.out a0 a1 y) := by
  refine spec_intro G15_ok (ct := []) Try.func39 rfl (by kernel_rfl) (by kernel_rfl) rfl ?_
  repeat' first
    | ((with_reducible refine eqg ?_); exact rfl)
    | ((with_reducible refine KOb.mk ?_); kernel_rfl)
    | ((with_reducible intro h); (repeat (first | replace H := grd_k H | replace H := out_step H (by assumption))); first | replace H := cond_t h H | replace H := cond_f h H | exact absurd h (by decide) | skip)
    | ((with_reducible refine Ob.mk ?_); first | rfl | (repeat (first | exact grd_p H | replace H := grd_k H | replace H := out_step H (by assumption))))
    | (with_reducible exact True.intro)
    | constructor
    | ((conv => whnf); first
        | ((with_reducible refine Ob.mk ?_); first | rfl | (repeat (first | exact grd_p H | replace H := grd_k H | replace H := out_step H (by assumption))))
        | ((with_reducible refine fin_mk ?_); (repeat (first | replace H := grd_k H | replace H := out_step H (by assumption))); have H := Option.some.inj H; subst H))
def G16 : Env := G15.add 39 [] laws_szGripStepS.S
theorem G16_ok : EnvOk Try.prog G16 := G15_ok.add ent_39 fun ar h r h1 ⟨a0, a1, y, hy, e1, e2, e3, e4⟩ => by
  subst e3 e4; exact (laws_szGripStepS.spec a0 a1 y hy).le e1 e2
attribute [local irreducible] laws_szGripStepS

noncomputable def laws_toGripStepS_loop1 (a0 : (List GripStep)) (v5 : Int) (v6 : (List GripStep)) : Option (Lp (Int × (List GripStep)) (((List GripStep)))) :=
  (cond (decide (v5 < (a0.length : Int))) (grd (0 ≤ v5 ∧ v5 < (a0.length : Int)) ((laws_toGripStep ((a0.getD v5.toNat d_GripStep).1, (a0.getD v5.toNat d_GripStep).2.1, ())).bind fun y7 => (grd (0 ≤ v5 ∧ v5 < (v6.length : Int)) (some (.go ((w64 (v5 + (1 : Int))), (v6.set v5.toNat (y7.1, y7.2.1, ())))))))) ((some (.out v6))))
noncomputable def laws_toGripStepS (a0 : (List GripStep)) : Option ((List GripStep)) :=
  (grd (0 ≤ (a0.length : Int) ∧ (a0.length : Int) ≤ (a0.length : Int) ∧ (16 : Int) * (a0.length : Int) ≤ 140737488355328 ∧ (a0.length : Int) ≤ 140737488355328) ((iter (fun s => laws_toGripStepS_loop1 a0 s.1 s.2) ((0 : Int), (List.replicate (a0.length : Int).toNat ((0 : Int), (0 : Int), ())))).bind (fun r8 => (some r8))))
def laws_toGripStepS.res (_ : (List GripStep)) (_ : (List GripStep)) : AV := (.own 0)
def laws_toGripStepS.out (_ : (List GripStep)) (y : (List GripStep)) : List (Option LB) := [some (.arr 51 ty_GripStep y)]
def laws_toGripStepS.S (ar : List AV) (h : List (Option LB)) (r : AV) (h1 : List (Option LB)) : Prop := ∃ a0 y, laws_toGripStepS a0 = some y ∧ leL ar [(.tree ty_GripStep a0)] ∧ leH h [] ∧ r = laws_toGripStepS.res a0 y ∧ h1 = laws_toGripStepS.out a0 y
theorem laws_toGripStepS.call {ar : List AV} {h : List (Option LB)} {a0 : (List GripStep)} {y : (List GripStep)} (H : laws_toGripStepS a0 = some y) (h1 : leL ar [(.tree ty_GripStep a0)]) (h2 : leH h []) : laws_toGripStepS.S ar h (laws_toGripStepS.res a0 y) (laws_toGripStepS.out a0 y) := ⟨a0, y, H, h1, h2, rfl, rfl⟩
set_option maxHeartbeats 100000000 in
set_option maxRecDepth 100000 in
theorem laws_toGripStepS.spec (a0 : (List GripStep)) (y : (List GripStep)) (H : laws_toGripStepS a0 = some y) : Spec Try.prog 41 [(.tree ty_GripStep a0)] [] (laws_toGripStepS.res a0 y) (laws_toGripStepS.out a0 y) := by
  refine spec_intro G16_ok (ct := []) Try.func41 rfl (by kernel_rfl) (by kernel_rfl) rfl ?_
  repeat' first
    | ((with_reducible refine eqg ?_); exact rfl)
    | ((with_reducible refine KOb.mk ?_); kernel_rfl)
    | ((with_reducible intro h); (repeat (first | replace H := grd_k H | replace H := out_step H (by assumption))); first | replace H := cond_t h H | replace H := cond_f h H | exact absurd h (by decide) | skip)
    | ((with_reducible refine Ob.mk ?_); first | rfl | (repeat (first | exact grd_p H | replace H := grd_k H | replace H := out_step H (by assumption))))
    | (with_reducible exact True.intro)
    | constructor
    | ((conv => whnf); first
        | ((with_reducible refine Ob.mk ?_); first | rfl | (repeat (first | exact grd_p H | replace H := grd_k H | replace H := out_step H (by assumption))))
        | ((with_reducible refine CallW.mk ?_); (repeat (first | replace H := grd_k H | replace H := out_step H (by assumption))); replace H := bind_some H; obtain ⟨y, hy, H⟩ := H; first | ((with_reducible have hz : laws_toGripStep _ = some y := hy); clear hz; refine Exists.intro _ (Exists.intro _ ⟨laws_toGripStep.call hy ?_ ?_, rfl, rfl, ?_⟩)))
        | ((repeat (first | replace H := grd_k H | replace H := out_step H (by assumption))); refine loop_iter G16_ok (ct := []) (F := (fun s1 : Int × (List GripStep) => ⟨sl [(0, (.tree ty_GripStep a0)), (3, (.own 0)), (4, (.v (.int .i64 s1.1)))], [some (.arr 51 ty_GripStep s1.2)]⟩)) (step := (fun s : Int × (List GripStep) => laws_toGripStepS_loop1 _ s.1 s.2)) _ H (by kernel_rfl) (sub_auto ?_) ?_; rotate_left; (intro s1 r v hr H); rotate_right)
        | ((repeat (first | replace H := grd_k H | replace H := out_step H (by assumption))); refine again_step H (by assumption) (sub_auto ?_))
        | ((with_reducible refine fin_mk ?_); (repeat (first | replace H := grd_k H | replace H := out_step H (by assumption))); have H := Option.some.inj H; subst H))
def G17 : Env := G16.add 41 [] laws_toGripStepS.S
theorem G17_ok : EnvOk Try.prog G17 := G16_ok.add ent_41 fun ar h r h1 ⟨a0, y, hy, e1, e2, e3, e4⟩ => by
  subst e3 e4; exact (laws_toGripStepS.spec a0 y hy).le e1 e2
attribute [local irreducible] laws_toGripStepS

noncomputable def spec_RunGrip_loop1 (a1 : (List GripStep)) (v15 : Int) (v16 : Int) (v17 : Int) (v18 : Int) (v19 : Int) (v20 : Int) : Option (Lp (Int × Int × Int × Int × Int × Int) ((Int × Int × Int × Int × Int))) :=
  (cond (decide (v16 < (a1.length : Int))) (grd (0 ≤ v16 ∧ v16 < (a1.length : Int)) ((spec_l21Step (v17, v18, v19, v20, ()) ((a1.getD v16.toNat d_GripStep).1, (a1.getD v16.toNat d_GripStep).2.1, ())).bind fun y21 => (cond (!y21) (some (.go (v15, (w64 (v16 + (1 : Int))), v17, v18, v19, v20))) (grd (0 ≤ v16 ∧ v16 < (a1.length : Int)) ((spec_l21Make (v17, v18, v19, v20, ()) ((a1.getD v16.toNat d_GripStep).1, (a1.getD v16.toNat d_GripStep).2.1, ())).bind fun y22 => (cond y22.2 (some (.go ((w64 (v15 + (1 : Int))), (w64 (v16 + (1 : Int))), y22.1.1, y22.1.2.1, y22.1.2.2.1, y22.1.2.2.2.1))) (some (.go (v15, (w64 (v16 + (1 : Int))), v17, v18, v19, v20))))))))) ((some (.out (v15, v17, v18, v19, v20)))))
noncomputable def spec_RunGrip (a0 : GripState) (a1 : (List GripStep)) : Option (GripState × Int × Bool) :=
  ((spec_l21Good (a0.1, a0.2.1, a0.2.2.1, a0.2.2.2.1, ())).bind fun y1 => (cond (!y1) ((some (((0 : Int), (0 : Int), (0 : Int), (0 : Int), ()), (0 : Int), false))) (cond (decide ((30 : Int) < (a1.length : Int))) ((some (((0 : Int), (0 : Int), (0 : Int), (0 : Int), ()), (0 : Int), false))) ((iter (fun s => spec_RunGrip_loop1 a1 s.1 s.2.1 s.2.2.1 s.2.2.2.1 s.2.2.2.2.1 s.2.2.2.2.2) ((0 : Int), (0 : Int), a0.1, a0.2.1, a0.2.2.1, a0.2.2.2.1)).bind (fun r23 => (some ((r23.2.1, r23.2.2.1, r23.2.2.2.1, r23.2.2.2.2, ()), r23.1, true)))))))
def spec_RunGrip.res (_ : GripState) (_ : (List GripStep)) (y : GripState × Int × Bool) : AV := (.tup [(.agg [(.v (.int .i64 y.1.1)), (.v (.int .i64 y.1.2.1)), (.v (.int .i64 y.1.2.2.1)), (.v (.int .i64 y.1.2.2.2.1))]), (.v (.int .i64 y.2.1)), (.bl y.2.2)])
def spec_RunGrip.out (_ : GripState) (_ : (List GripStep)) (_ : GripState × Int × Bool) : List (Option LB) := []
def spec_RunGrip.S (ar : List AV) (h : List (Option LB)) (r : AV) (h1 : List (Option LB)) : Prop := ∃ a0 a1 y, spec_RunGrip a0 a1 = some y ∧ leL ar [(.agg [(.v (.int .i64 a0.1)), (.v (.int .i64 a0.2.1)), (.v (.int .i64 a0.2.2.1)), (.v (.int .i64 a0.2.2.2.1))]), (.tree ty_GripStep a1)] ∧ leH h [] ∧ r = spec_RunGrip.res a0 a1 y ∧ h1 = spec_RunGrip.out a0 a1 y
theorem spec_RunGrip.call {ar : List AV} {h : List (Option LB)} {a0 : GripState} {a1 : (List GripStep)} {y : GripState × Int × Bool} (H : spec_RunGrip a0 a1 = some y) (h1 : leL ar [(.agg [(.v (.int .i64 a0.1)), (.v (.int .i64 a0.2.1)), (.v (.int .i64 a0.2.2.1)), (.v (.int .i64 a0.2.2.2.1))]), (.tree ty_GripStep a1)]) (h2 : leH h []) : spec_RunGrip.S ar h (spec_RunGrip.res a0 a1 y) (spec_RunGrip.out a0 a1 y) := ⟨a0, a1, y, H, h1, h2, rfl, rfl⟩
set_option maxHeartbeats 100000000 in
set_option maxRecDepth 100000 in
theorem spec_RunGrip.spec (a0 : GripState) (a1 : (List GripStep)) (y : GripState × Int × Bool) (H : spec_RunGrip a0 a1 = some y) : Spec Try.prog 40 [(.agg [(.v (.int .i64 a0.1)), (.v (.int .i64 a0.2.1)), (.v (.int .i64 a0.2.2.1)), (.v (.int .i64 a0.2.2.2.1))]), (.tree ty_GripStep a1)] [] (spec_RunGrip.res a0 a1 y) (spec_RunGrip.out a0 a1 y) := by
  refine spec_intro G17_ok (ct := [(3, some [1, 2, 4]), (9, some [1, 2, 4, 7, 8, 9, 10])]) Try.func40 rfl (by kernel_rfl) (by kernel_rfl) rfl ?_
  repeat' first
    | ((with_reducible refine eqg ?_); exact rfl)
    | ((with_reducible refine KOb.mk ?_); kernel_rfl)
    | ((with_reducible intro h); (repeat (first | replace H := grd_k H | replace H := out_step H (by assumption))); first | replace H := cond_t h H | replace H := cond_f h H | exact absurd h (by decide) | skip)
    | ((with_reducible refine Ob.mk ?_); first | rfl | (repeat (first | exact grd_p H | replace H := grd_k H | replace H := out_step H (by assumption))))
    | (with_reducible exact True.intro)
    | constructor
    | ((conv => whnf); first
        | ((with_reducible refine Ob.mk ?_); first | rfl | (repeat (first | exact grd_p H | replace H := grd_k H | replace H := out_step H (by assumption))))
        | ((with_reducible refine CallW.mk ?_); (repeat (first | replace H := grd_k H | replace H := out_step H (by assumption))); replace H := bind_some H; obtain ⟨y, hy, H⟩ := H; first | ((with_reducible have hz : spec_l21Good _ = some y := hy); clear hz; refine Exists.intro _ (Exists.intro _ ⟨spec_l21Good.call hy ?_ ?_, rfl, rfl, ?_⟩)) | ((with_reducible have hz : spec_l21Step _ _ = some y := hy); clear hz; refine Exists.intro _ (Exists.intro _ ⟨spec_l21Step.call hy ?_ ?_, rfl, rfl, ?_⟩)) | ((with_reducible have hz : spec_l21Make _ _ = some y := hy); clear hz; refine Exists.intro _ (Exists.intro _ ⟨spec_l21Make.call hy ?_ ?_, rfl, rfl, ?_⟩)))
        | ((repeat (first | replace H := grd_k H | replace H := out_step H (by assumption))); refine loop_iter G17_ok (ct := [(3, some [1, 2, 4]), (9, some [1, 2, 4, 7, 8, 9, 10])]) (F := (fun s1 : Int × Int × Int × Int × Int × Int => ⟨sl [(1, (.tree ty_GripStep a1)), (2, (.loc 0 0 0)), (4, (.loc 1 0 0)), (7, (.v (.int .i64 s1.1))), (8, (.v (.int .i64 s1.2.1)))], [some (.box 47 [(.v (.int .i64 s1.2.2.1)), (.v (.int .i64 s1.2.2.2.1)), (.v (.int .i64 s1.2.2.2.2.1)), (.v (.int .i64 s1.2.2.2.2.2))]), some (.box 47 [(.v (.int .i64 (0 : Int))), (.v (.int .i64 (0 : Int))), (.v (.int .i64 (0 : Int))), (.v (.int .i64 (0 : Int)))])]⟩)) (step := (fun s : Int × Int × Int × Int × Int × Int => spec_RunGrip_loop1 _ s.1 s.2.1 s.2.2.1 s.2.2.2.1 s.2.2.2.2.1 s.2.2.2.2.2)) _ H (by kernel_rfl) (sub_auto ?_) ?_; rotate_left; (intro s1 r v hr H); rotate_right)
        | ((repeat (first | replace H := grd_k H | replace H := out_step H (by assumption))); refine again_step H (by assumption) (sub_auto ?_))
        | ((with_reducible refine fin_mk ?_); (repeat (first | replace H := grd_k H | replace H := out_step H (by assumption))); have H := Option.some.inj H; subst H))
def G18 : Env := G17.add 40 [] spec_RunGrip.S
theorem G18_ok : EnvOk Try.prog G18 := G17_ok.add ent_40 fun ar h r h1 ⟨a0, a1, y, hy, e1, e2, e3, e4⟩ => by
  subst e3 e4; exact (spec_RunGrip.spec a0 a1 y hy).le e1 e2
attribute [local irreducible] spec_RunGrip

noncomputable def impl_RunGrip_loop1 (a1 : (List GripStep)) (v10 : Int) (v11 : Int) (v12 : Int) (v13 : Int) (v14 : Int) (v15 : Int) : Option (Lp (Int × Int × Int × Int × Int × Int) ((Int × Int × Int × Int × Int))) :=
  (cond (decide (v11 < (a1.length : Int))) (grd (0 ≤ v11 ∧ v11 < (a1.length : Int)) ((impl_GripState_step (v12, v13, v14, v15, ()) ((a1.getD v11.toNat d_GripStep).1, (a1.getD v11.toNat d_GripStep).2.1, ())).bind fun y16 => (cond y16.2 (some (.go ((w64 (v10 + (1 : Int))), (w64 (v11 + (1 : Int))), y16.1.1, y16.1.2.1, y16.1.2.2.1, y16.1.2.2.2.1))) (some (.go (v10, (w64 (v11 + (1 : Int))), v12, v13, v14, v15)))))) ((some (.out (v10, v12, v13, v14, v15)))))
noncomputable def impl_RunGrip (a0 : GripState) (a1 : (List GripStep)) : Option (GripState × Int × Bool) :=
  ((impl_IsGripState (a0.1, a0.2.1, a0.2.2.1, a0.2.2.2.1, ())).bind fun y1 => (cond (!y1) ((some (((0 : Int), (0 : Int), (0 : Int), (0 : Int), ()), (0 : Int), false))) (cond (decide ((30 : Int) < (a1.length : Int))) ((some (((0 : Int), (0 : Int), (0 : Int), (0 : Int), ()), (0 : Int), false))) ((iter (fun s => impl_RunGrip_loop1 a1 s.1 s.2.1 s.2.2.1 s.2.2.2.1 s.2.2.2.2.1 s.2.2.2.2.2) ((0 : Int), (0 : Int), a0.1, a0.2.1, a0.2.2.1, a0.2.2.2.1)).bind (fun r17 => (some ((r17.2.1, r17.2.2.1, r17.2.2.2.1, r17.2.2.2.2, ()), r17.1, true)))))))
def impl_RunGrip.res (_ : GripState) (_ : (List GripStep)) (y : GripState × Int × Bool) : AV := (.tup [(.agg [(.v (.int .i64 y.1.1)), (.v (.int .i64 y.1.2.1)), (.v (.int .i64 y.1.2.2.1)), (.v (.int .i64 y.1.2.2.2.1))]), (.v (.int .i64 y.2.1)), (.bl y.2.2)])
def impl_RunGrip.out (_ : GripState) (_ : (List GripStep)) (_ : GripState × Int × Bool) : List (Option LB) := []
def impl_RunGrip.S (ar : List AV) (h : List (Option LB)) (r : AV) (h1 : List (Option LB)) : Prop := ∃ a0 a1 y, impl_RunGrip a0 a1 = some y ∧ leL ar [(.agg [(.v (.int .i64 a0.1)), (.v (.int .i64 a0.2.1)), (.v (.int .i64 a0.2.2.1)), (.v (.int .i64 a0.2.2.2.1))]), (.tree ty_GripStep a1)] ∧ leH h [] ∧ r = impl_RunGrip.res a0 a1 y ∧ h1 = impl_RunGrip.out a0 a1 y
theorem impl_RunGrip.call {ar : List AV} {h : List (Option LB)} {a0 : GripState} {a1 : (List GripStep)} {y : GripState × Int × Bool} (H : impl_RunGrip a0 a1 = some y) (h1 : leL ar [(.agg [(.v (.int .i64 a0.1)), (.v (.int .i64 a0.2.1)), (.v (.int .i64 a0.2.2.1)), (.v (.int .i64 a0.2.2.2.1))]), (.tree ty_GripStep a1)]) (h2 : leH h []) : impl_RunGrip.S ar h (impl_RunGrip.res a0 a1 y) (impl_RunGrip.out a0 a1 y) := ⟨a0, a1, y, H, h1, h2, rfl, rfl⟩
set_option maxHeartbeats 100000000 in
set_option maxRecDepth 100000 in
theorem impl_RunGrip.spec (a0 : GripState) (a1 : (List GripStep)) (y : GripState × Int × Bool) (H : impl_RunGrip a0 a1 = some y) : Spec Try.prog 42 [(.agg [(.v (.int .i64 a0.1)), (.v (.int .i64 a0.2.1)), (.v (.int .i64 a0.2.2.1)), (.v (.int .i64 a0.2.2.2.1))]), (.tree ty_GripStep a1)] [] (impl_RunGrip.res a0 a1 y) (impl_RunGrip.out a0 a1 y) := by
  refine spec_intro G18_ok (ct := [(3, some [1, 2, 4]), (10, some [2, 4, 7, 21, 22, 23])]) Try.func42 rfl (by kernel_rfl) (by kernel_rfl) rfl ?_
  repeat' first
    | ((with_reducible refine eqg ?_); exact rfl)
    | ((with_reducible refine KOb.mk ?_); kernel_rfl)
    | ((with_reducible intro h); (repeat (first | replace H := grd_k H | replace H := out_step H (by assumption))); first | replace H := cond_t h H | replace H := cond_f h H | exact absurd h (by decide) | skip)
    | ((with_reducible refine Ob.mk ?_); first | rfl | (repeat (first | exact grd_p H | replace H := grd_k H | replace H := out_step H (by assumption))))
    | (with_reducible exact True.intro)
    | constructor
    | ((conv => whnf); first
        | ((with_reducible refine Ob.mk ?_); first | rfl | (repeat (first | exact grd_p H | replace H := grd_k H | replace H := out_step H (by assumption))))
        | ((with_reducible refine CallW.mk ?_); (repeat (first | replace H := grd_k H | replace H := out_step H (by assumption))); replace H := bind_some H; obtain ⟨y, hy, H⟩ := H; first | ((with_reducible have hz : impl_IsGripState _ = some y := hy); clear hz; refine Exists.intro _ (Exists.intro _ ⟨impl_IsGripState.call hy ?_ ?_, rfl, rfl, ?_⟩)) | ((with_reducible have hz : impl_GripState_step _ _ = some y := hy); clear hz; refine Exists.intro _ (Exists.intro _ ⟨impl_GripState_step.call hy ?_ ?_, rfl, rfl, ?_⟩)))
        | ((repeat (first | replace H := grd_k H | replace H := out_step H (by assumption))); refine loop_iter G18_ok (ct := [(3, some [1, 2, 4]), (10, some [2, 4, 7, 21, 22, 23])]) (F := (fun s1 : Int × Int × Int × Int × Int × Int => ⟨sl [(2, (.loc 0 0 0)), (4, (.loc 1 0 0)), (7, (.v (.int .i64 s1.1))), (21, (.tree ty_GripStep a1)), (22, (.v (.int .i64 (a1.length : Int)))), (23, (.v (.int .i64 s1.2.1)))], [some (.box 47 [(.v (.int .i64 s1.2.2.1)), (.v (.int .i64 s1.2.2.2.1)), (.v (.int .i64 s1.2.2.2.2.1)), (.v (.int .i64 s1.2.2.2.2.2))]), some (.box 47 [(.v (.int .i64 (0 : Int))), (.v (.int .i64 (0 : Int))), (.v (.int .i64 (0 : Int))), (.v (.int .i64 (0 : Int)))])]⟩)) (step := (fun s : Int × Int × Int × Int × Int × Int => impl_RunGrip_loop1 _ s.1 s.2.1 s.2.2.1 s.2.2.2.1 s.2.2.2.2.1 s.2.2.2.2.2)) _ H (by kernel_rfl) (sub_auto ?_) ?_; rotate_left; (intro s1 r v hr H); rotate_right)
        | ((repeat (first | replace H := grd_k H | replace H := out_step H (by assumption))); refine again_step H (by assumption) (sub_auto ?_))
        | ((with_reducible refine fin_mk ?_); (repeat (first | replace H := grd_k H | replace H := out_step H (by assumption))); have H := Option.some.inj H; subst H))
def G19 : Env := G18.add 42 [] impl_RunGrip.S
theorem G19_ok : EnvOk Try.prog G19 := G18_ok.add ent_42 fun ar h r h1 ⟨a0, a1, y, hy, e1, e2, e3, e4⟩ => by
  subst e3 e4; exact (impl_RunGrip.spec a0 a1 y hy).le e1 e2
attribute [local irreducible] impl_RunGrip

noncomputable def laws_eqGripStep (a0 : GripStep) (a1 : GripStep) : Option (Bool) :=
  (cond (!decide (a0.1 = a1.1)) ((some false)) (cond (!decide (a0.2.1 = a1.2.1)) ((some false)) ((some true))))
def laws_eqGripStep.res (_ : GripStep) (_ : GripStep) (y : Bool) : AV := (.bl y)
def laws_eqGripStep.out (_ : GripStep) (_ : GripStep) (_ : Bool) : List (Option LB) := []
def laws_eqGripStep.S (ar : List AV) (h : List (Option LB)) (r : AV) (h1 : List (Option LB)) : Prop := ∃ a0 a1 y, laws_eqGripStep a0 a1 = some y ∧ leL ar [(.agg [(.v (.int .i64 a0.1)), (.v (.int .i64 a0.2.1))]), (.agg [(.v (.int .i64 a1.1)), (.v (.int .i64 a1.2.1))])] ∧ leH h [] ∧ r = laws_eqGripStep.res a0 a1 y ∧ h1 = laws_eqGripStep.out a0 a1 y
theorem laws_eqGripStep.call {ar : List AV} {h : List (Option LB)} {a0 : GripStep} {a1 : GripStep} {y : Bool} (H : laws_eqGripStep a0 a1 = some y) (h1 : leL ar [(.agg [(.v (.int .i64 a0.1)), (.v (.int .i64 a0.2.1))]), (.agg [(.v (.int .i64 a1.1)), (.v (.int .i64 a1.2.1))])]) (h2 : leH h []) : laws_eqGripStep.S ar h (laws_eqGripStep.res a0 a1 y) (laws_eqGripStep.out a0 a1 y) := ⟨a0, a1, y, H, h1, h2, rfl, rfl⟩
set_option maxHeartbeats 100000000 in
set_option maxRecDepth 100000 in
theorem laws_eqGripStep.spec (a0 : GripStep) (a1 : GripStep) (y : Bool) (H : laws_eqGripStep a0 a1 = some y) : Spec Try.prog 104 [(.agg [(.v (.int .i64 a0.1)), (.v (.int .i64 a0.2.1))]), (.agg [(.v (.int .i64 a1.1)), (.v (.int .i64 a1.2.1))])] [] (laws_eqGripStep.res a0 a1 y) (laws_eqGripStep.out a0 a1 y) := by
  refine spec_intro G19_ok (ct := [(4, some [14])]) Try.func104 rfl (by kernel_rfl) (by kernel_rfl) rfl ?_
  repeat' first
    | ((with_reducible refine eqg ?_); exact rfl)
    | ((with_reducible refine KOb.mk ?_); kernel_rfl)
    | ((with_reducible intro h); (repeat (first | replace H := grd_k H | replace H := out_step H (by assumption))); first | replace H := cond_t h H | replace H := cond_f h H | exact absurd h (by decide) | skip)
    | ((with_reducible refine Ob.mk ?_); first | rfl | (repeat (first | exact grd_p H | replace H := grd_k H | replace H := out_step H (by assumption))))
    | (with_reducible exact True.intro)
    | constructor
    | ((conv => whnf); first
        | ((with_reducible refine Ob.mk ?_); first | rfl | (repeat (first | exact grd_p H | replace H := grd_k H | replace H := out_step H (by assumption))))
        | ((with_reducible refine fin_mk ?_); (repeat (first | replace H := grd_k H | replace H := out_step H (by assumption))); have H := Option.some.inj H; subst H))
def G20 : Env := G19.add 104 [] laws_eqGripStep.S
theorem G20_ok : EnvOk Try.prog G20 := G19_ok.add ent_104 fun ar h r h1 ⟨a0, a1, y, hy, e1, e2, e3, e4⟩ => by
  subst e3 e4; exact (laws_eqGripStep.spec a0 a1 y hy).le e1 e2
attribute [local irreducible] laws_eqGripStep

noncomputable def laws_eqGripStepS_loop1 (a0 : (List GripStep)) (a1 : (List GripStep)) (v4 : Int) : Option (Lp (Int) ((Unit) ⊕ (Unit))) :=
  (cond (decide (v4 < (a0.length : Int))) (grd (0 ≤ v4 ∧ v4 < (a0.length : Int)) (grd (0 ≤ v4 ∧ v4 < (a1.length : Int)) ((laws_eqGripStep ((a0.getD v4.toNat d_GripStep).1, (a0.getD v4.toNat d_GripStep).2.1, ()) ((a1.getD v4.toNat d_GripStep).1, (a1.getD v4.toNat d_GripStep).2.1, ())).bind fun y5 => (cond (!y5) ((some (.out (Sum.inl ())))) (some (.go (w64 (v4 + (1 : Int))))))))) ((some (.out (Sum.inr ())))))
noncomputable def laws_eqGripStepS (a0 : (List GripStep)) (a1 : (List GripStep)) : Option (Bool) :=
  (cond (!decide ((a0.length : Int) = (a1.length : Int))) ((some false)) ((iter (fun s => laws_eqGripStepS_loop1 a0 a1 s) (0 : Int)).bind (Sum.elim (fun r7 => (some false)) (fun r8 => (some true)))))
def laws_eqGripStepS.res (_ : (List GripStep)) (_ : (List GripStep)) (y : Bool) : AV := (.bl y)
def laws_eqGripStepS.out (_ : (List GripStep)) (_ : (List GripStep)) (_ : Bool) : List (Option LB) := []
def laws_eqGripStepS.S (ar : List AV) (h : List (Option LB)) (r : AV) (h1 : List (Option LB)) : Prop := ∃ a0 a1 y, laws_eqGripStepS a0 a1 = some y ∧ leL ar [(.tree ty_GripStep a0), (.tree ty_GripStep a1)] ∧ leH h [] ∧ r = laws_eqGripStepS.res a0 a1 y ∧ h1 = laws_eqGripStepS.out a0 a1 y
theorem laws_eqGripStepS.call {ar : List AV} {h : List (Option LB)} {a0 : (List GripStep)} {a1 : (List GripStep)} {y : Bool} (H : laws_eqGripStepS a0 a1 = some y) (h1 : leL ar [(.tree ty_GripStep a0), (.tree ty_GripStep a1)]) (h2 : leH h []) : laws_eqGripStepS.S ar h (laws_eqGripStepS.res a0 a1 y) (laws_eqGripStepS.out a0 a1 y) := ⟨a0, a1, y, H, h1, h2, rfl, rfl⟩
set_option maxHeartbeats 100000000 in
set_option maxRecDepth 100000 in
theorem laws_eqGripStepS.spec (a0 : (List GripStep)) (a1 : (List GripStep)) (y : Bool) (H : laws_eqGripStepS a0 a1 = some y) : Spec Try.prog 43 [(.tree ty_GripStep a0), (.tree ty_GripStep a1)] [] (laws_eqGripStepS.res a0 a1 y) (laws_eqGripStepS.out a0 a1 y) := by
  refine spec_intro G20_ok (ct := [(7, some [0, 1, 5, 26])]) Try.func43 rfl (by kernel_rfl) (by kernel_rfl) rfl ?_
  repeat' first
    | ((with_reducible refine eqg ?_); exact rfl)
    | ((with_reducible refine KOb.mk ?_); kernel_rfl)
    | ((with_reducible intro h); (repeat (first | replace H := grd_k H | replace H := out_step H (by assumption))); first | replace H := cond_t h H | replace H := cond_f h H | exact absurd h (by decide) | skip)
    | ((with_reducible refine Ob.mk ?_); first | rfl | (repeat (first | exact grd_p H | replace H := grd_k H | replace H := out_step H (by assumption))))
    | (with_reducible exact True.intro)
    | constructor
    | ((conv => whnf); first
        | ((with_reducible refine Ob.mk ?_); first | rfl | (repeat (first | exact grd_p H | replace H := grd_k H | replace H := out_step H (by assumption))))
        | ((with_reducible refine CallW.mk ?_); (repeat (first | replace H := grd_k H | replace H := out_step H (by assumption))); replace H := bind_some H; obtain ⟨y, hy, H⟩ := H; first | ((with_reducible have hz : laws_eqGripStep _ _ = some y := hy); clear hz; refine Exists.intro _ (Exists.intro _ ⟨laws_eqGripStep.call hy ?_ ?_, rfl, rfl, ?_⟩)))
        | ((repeat (first | replace H := grd_k H | replace H := out_step H (by assumption))); refine loop_iter G20_ok (ct := [(7, some [0, 1, 5, 26])]) (F := (fun s1 : Int => ⟨sl [(0, (.tree ty_GripStep a0)), (1, (.tree ty_GripStep a1)), (5, (.v (.int .i64 s1)))], []⟩)) (step := (fun s : Int => laws_eqGripStepS_loop1 _ _ s)) _ H (by kernel_rfl) (sub_auto ?_) ?_; rotate_left; (intro s1 r v hr H); rotate_right)
        | ((repeat (first | replace H := grd_k H | replace H := out_step H (by assumption))); refine again_step H (by assumption) (sub_auto ?_))
        | ((with_reducible refine fin_mk ?_); (repeat (first | replace H := grd_k H | replace H := out_step H (by assumption))); have H := Option.some.inj H; subst H))
def G21 : Env := G20.add 43 [] laws_eqGripStepS.S
theorem G21_ok : EnvOk Try.prog G21 := G20_ok.add ent_43 fun ar h r h1 ⟨a0, a1, y, hy, e1, e2, e3, e4⟩ => by
  subst e3 e4; exact (laws_eqGripStepS.spec a0 a1 y hy).le e1 e2
attribute [local irreducible] laws_eqGripStepS

noncomputable def laws_FnExactRunGrip (a0 : GripState) (a1 : (List GripStep)) : Option (Bool) :=
  ((laws_szGripStepS a1 (1048576 : Int)).bind fun y1 => (cond (decide (y1 < (0 : Int))) ((some true)) ((laws_toGripState (a0.1, a0.2.1, a0.2.2.1, a0.2.2.2.1, ())).bind fun y2 => ((laws_toGripStepS a1).bind fun y3 => ((spec_RunGrip (y2.1, y2.2.1, y2.2.2.1, y2.2.2.2.1, ()) y3).bind fun y4 => ((laws_toGripStepS a1).bind fun y5 => ((laws_toGripState (a0.1, a0.2.1, a0.2.2.1, a0.2.2.2.1, ())).bind fun y6 => ((impl_RunGrip (y6.1, y6.2.1, y6.2.2.1, y6.2.2.2.1, ()) y5).bind fun y7 => ((laws_eqGripState (y7.1.1, y7.1.2.1, y7.1.2.2.1, y7.1.2.2.2.1, ()) (y4.1.1, y4.1.2.1, y4.1.2.2.1, y4.1.2.2.2.1, ())).bind fun y8 => (cond (!y8) ((some false)) (cond (!decide (y7.2.1 = y4.2.1)) ((some false)) (cond (!(y7.2.2 == y4.2.2)) ((some false)) ((laws_toGripStepS a1).bind fun y9 => ((laws_eqGripStepS y5 y9).bind fun y10 => (cond (!y10) ((some false)) ((some true)))))))))))))))))
def laws_FnExactRunGrip.res (_ : GripState) (_ : (List GripStep)) (y : Bool) : AV := (.bl y)
def laws_FnExactRunGrip.out (_ : GripState) (_ : (List GripStep)) (_ : Bool) : List (Option LB) := []
def laws_FnExactRunGrip.S (ar : List AV) (h : List (Option LB)) (r : AV) (h1 : List (Option LB)) : Prop := ∃ a0 a1 y, laws_FnExactRunGrip a0 a1 = some y ∧ leL ar [(.agg [(.v (.int .i64 a0.1)), (.v (.int .i64 a0.2.1)), (.v (.int .i64 a0.2.2.1)), (.v (.int .i64 a0.2.2.2.1))]), (.tree ty_GripStep a1)] ∧ leH h [] ∧ r = laws_FnExactRunGrip.res a0 a1 y ∧ h1 = laws_FnExactRunGrip.out a0 a1 y
theorem laws_FnExactRunGrip.call {ar : List AV} {h : List (Option LB)} {a0 : GripState} {a1 : (List GripStep)} {y : Bool} (H : laws_FnExactRunGrip a0 a1 = some y) (h1 : leL ar [(.agg [(.v (.int .i64 a0.1)), (.v (.int .i64 a0.2.1)), (.v (.int .i64 a0.2.2.1)), (.v (.int .i64 a0.2.2.2.1))]), (.tree ty_GripStep a1)]) (h2 : leH h []) : laws_FnExactRunGrip.S ar h (laws_FnExactRunGrip.res a0 a1 y) (laws_FnExactRunGrip.out a0 a1 y) := ⟨a0, a1, y, H, h1, h2, rfl, rfl⟩
set_option maxHeartbeats 100000000 in
set_option maxRecDepth 100000 in
theorem laws_FnExactRunGrip.spec (a0 : GripState) (a1 : (List GripStep)) (y : Bool) (H : laws_FnExactRunGrip a0 a1 = some y) : Spec Try.prog 10 [(.agg [(.v (.int .i64 a0.1)), (.v (.int .i64 a0.2.1)), (.v (.int .i64 a0.2.2.1)), (.v (.int .i64 a0.2.2.2.1))]), (.tree ty_GripStep a1)] [] (laws_FnExactRunGrip.res a0 a1 y) (laws_FnExactRunGrip.out a0 a1 y) := by
  refine spec_intro G21_ok (ct := [(6, some [1, 2, 6, 7, 8, 42, 43, 44, 47, 48, 49]), (8, some [1, 6, 7, 8, 9, 10, 11, 12, 42, 43, 44, 47, 48, 49]), (9, some [1, 9, 50])]) Try.func10 rfl (by kernel_rfl) (by kernel_rfl) rfl ?_
  repeat' first
    | ((with_reducible refine eqg ?_); exact rfl)
    | ((with_reducible refine KOb.mk ?_); kernel_rfl)
    | ((with_reducible intro h); (repeat (first | replace H := grd_k H | replace H := out_step H (by assumption))); first | replace H := cond_t h H | replace H := cond_f h H | exact absurd h (by decide) | skip)
    | ((with_reducible refine Ob.mk ?_); first | rfl | (repeat (first | exact grd_p H | replace H := grd_k H | replace H := out_step H (by assumption))))
    | (with_reducible exact True.intro)
    | constructor
    | ((conv => whnf); first
        | ((with_reducible refine Ob.mk ?_); first | rfl | (repeat (first | exact grd_p H | replace H := grd_k H | replace H := out_step H (by assumption))))
        | ((with_reducible refine CallW.mk ?_); (repeat (first | replace H := grd_k H | replace H := out_step H (by assumption))); replace H := bind_some H; obtain ⟨y, hy, H⟩ := H; first | ((with_reducible have hz : laws_szGripStepS _ _ = some y := hy); clear hz; refine Exists.intro _ (Exists.intro _ ⟨laws_szGripStepS.call hy ?_ ?_, rfl, rfl, ?_⟩)) | ((with_reducible have hz : laws_toGripState _ = some y := hy); clear hz; refine Exists.intro _ (Exists.intro _ ⟨laws_toGripState.call hy ?_ ?_, rfl, rfl, ?_⟩)) | ((with_reducible have hz : laws_toGripStepS _ = some y := hy); clear hz; refine Exists.intro _ (Exists.intro _ ⟨laws_toGripStepS.call hy ?_ ?_, rfl, rfl, ?_⟩)) | ((with_reducible have hz : spec_RunGrip _ _ = some y := hy); clear hz; refine Exists.intro _ (Exists.intro _ ⟨spec_RunGrip.call hy ?_ ?_, rfl, rfl, ?_⟩)) | ((with_reducible have hz : impl_RunGrip _ _ = some y := hy); clear hz; refine Exists.intro _ (Exists.intro _ ⟨impl_RunGrip.call hy ?_ ?_, rfl, rfl, ?_⟩)) | ((with_reducible have hz : laws_eqGripState _ _ = some y := hy); clear hz; refine Exists.intro _ (Exists.intro _ ⟨laws_eqGripState.call hy ?_ ?_, rfl, rfl, ?_⟩)) | ((with_reducible have hz : laws_eqGripStepS _ _ = some y := hy); clear hz; refine Exists.intro _ (Exists.intro _ ⟨laws_eqGripStepS.call hy ?_ ?_, rfl, rfl, ?_⟩)))
        | ((with_reducible refine fin_mk ?_); (repeat (first | replace H := grd_k H | replace H := out_step H (by assumption))); have H := Option.some.inj H; subst H))
def G22 : Env := G21.add 10 [] laws_FnExactRunGrip.S
theorem G22_ok : EnvOk Try.prog G22 := G21_ok.add ent_10 fun ar h r h1 ⟨a0, a1, y, hy, e1, e2, e3, e4⟩ => by
  subst e3 e4; exact (laws_FnExactRunGrip.spec a0 a1 y hy).le e1 e2
attribute [local irreducible] laws_FnExactRunGrip

end Go.Proofs.Ytplknllbpdookaa
