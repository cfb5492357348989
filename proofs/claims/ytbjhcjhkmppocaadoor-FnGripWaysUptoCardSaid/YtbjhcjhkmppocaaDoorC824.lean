/-
  Contracts, printed by a program.
-/
import Derived.Test.YtbjhcjhkmppocaaDoorC823
namespace Go.Proofs.YtbjhcjhkmppocaaDoor
open Go.RowKit
attribute [local irreducible] Ob loopwp Sub Spec Fin Again CallW CutC KOb iter joinx outm

attribute [local irreducible] laws_vBig spec_l1Cur_next spec_l1Cur_pick spec_l1Cur_among spec_l1Cur_one spec_l1Cur_gripStep spec_l1In spec_l21Good spec_l21Step spec_l1Least spec_l21Move spec_l21Make spec_StepGrip spec_l1Cur_gripState spec_DrawIsGripState spec_DrawStepsToRope impl_within impl_IsGripState impl_GripState_step impl_GripState_someSteps impl_GripState_stepsTo

noncomputable def impl_StepsToRope (a0 : GripState) : Option (Int × Bool) :=
  ((impl_IsGripState (a0.1, a0.2.1, a0.2.2.1, a0.2.2.2.1, ())).bind fun y1 => (cond (!y1) ((some ((0 : Int), false))) ((impl_GripState_stepsTo (a0.1, a0.2.1, a0.2.2.1, a0.2.2.2.1, ()) (2 : Int)).bind fun y2 => (some (y2.1, y2.2)))))
def impl_StepsToRope.res (_ : GripState) (y : Int × Bool) : AV := (.tup [(.v (.int .i64 y.1)), (.bl y.2)])
def impl_StepsToRope.out (_ : GripState) (_ : Int × Bool) : List (Option LB) := []
def impl_StepsToRope.S (ar : List AV) (h : List (Option LB)) (r : AV) (h1 : List (Option LB)) : Prop := ∃ a0 y, impl_StepsToRope a0 = some y ∧ leL ar [(.agg [(.v (.int .i64 a0.1)), (.v (.int .i64 a0.2.1)), (.v (.int .i64 a0.2.2.1)), (.v (.int .i64 a0.2.2.2.1))])] ∧ leH h [] ∧ r = impl_StepsToRope.res a0 y ∧ h1 = impl_StepsToRope.out a0 y
theorem impl_StepsToRope.call {ar : List AV} {h : List (Option LB)} {a0 : GripState} {y : Int × Bool} (H : impl_StepsToRope a0 = some y) (h0 : leLk ar [(.agg [(.v (.int .i64 a0.1)), (.v (.int .i64 a0.2.1)), (.v (.int .i64 a0.2.2.1)), (.v (.int .i64 a0.2.2.2.1))])] (leHk h [])) : impl_StepsToRope.S ar h (impl_StepsToRope.res a0 y) (impl_StepsToRope.out a0 y) := ⟨a0, y, H, (args_ok h0).1, (args_ok h0).2, rfl, rfl⟩
set_option maxHeartbeats 100000000 in
set_option maxRecDepth 100000 in
theorem impl_StepsToRope.spec (a0 : GripState) (y : Int × Bool) (H : impl_StepsToRope a0 = some y) : Spec Tryd.prog 6 [(.agg [(.v (.int .i64 a0.1)), (.v (.int .i64 a0.2.1)), (.v (.int .i64 a0.2.2.1)), (.v (.int .i64 a0.2.2.2.1))])] [] (impl_StepsToRope.res a0 y) (impl_StepsToRope.out a0 y) := by
  refine spec_intro (G21_ok.at tok []) (ct := []) Tryd.func6 rfl (by kernel_rfl) (by kernel_rfl) rfl ?_
  repeat' first
    | ((with_reducible refine eqg ?_); exact rfl)
    | ((with_reducible refine KOb.mk ?_); kernel_rfl)
    | ((with_reducible intro h); (repeat (first | replace H := grd_k H | replace H := out_step H (by assumption))); first | replace H := cond_t h H | replace H := cond_f h H | exact absurd h (by decide) | skip)
    | ((with_reducible refine Ob.mk ?_); first | (with_reducible rfl) | (first | ((repeat (first | (with_reducible exact grd_p H) | (replace H := grd_k H) | (replace H := out_step H (by assumption)))); done) | rfl | ((repeat (first | exact grd_p H | replace H := grd_k H | replace H := out_step H (by assumption))); done) | ((repeat (first | exact grd_p H | (have hp := grd_p H; exact hp) | replace H := grd_k H | replace H := out_step H (by assumption) | (replace H := bind_some H; obtain ⟨_, _, H⟩ := H))); done) | (repeat (first | exact grd_p H | replace H := grd_k H | replace H := out_step H (by assumption)))))
    | (with_reducible exact True.intro)
    | ((conv => whnf); first
        | (with_reducible refine And.intro ?_ ?_)
        | (with_reducible exact True.intro)
        | ((with_reducible refine Ob.mk ?_); first | (with_reducible rfl) | (first | ((repeat (first | (with_reducible exact grd_p H) | (replace H := grd_k H) | (replace H := out_step H (by assumption)))); done) | rfl | ((repeat (first | exact grd_p H | replace H := grd_k H | replace H := out_step H (by assumption))); done) | ((repeat (first | exact grd_p H | (have hp := grd_p H; exact hp) | replace H := grd_k H | replace H := out_step H (by assumption) | (replace H := bind_some H; obtain ⟨_, _, H⟩ := H))); done) | (repeat (first | exact grd_p H | replace H := grd_k H | replace H := out_step H (by assumption)))))
        | ((with_reducible refine CallW.mk ?_); (repeat (first | replace H := grd_k H | replace H := out_step H (by assumption))); replace H := bind_some H; obtain ⟨y, hy, H⟩ := H; first | ((with_reducible have hz : impl_IsGripState _ = some y := hy); clear hz; refine Exists.intro _ (Exists.intro _ ⟨impl_IsGripState.call hy ?_, rfl, rfl, ?_⟩)) | ((with_reducible have hz : impl_GripState_stepsTo _ _ = some y := hy); clear hz; refine Exists.intro _ (Exists.intro _ ⟨impl_GripState_stepsTo.call hy ?_, rfl, rfl, ?_⟩)))
        | ((with_reducible refine fin_mk ?_); (repeat (first | replace H := grd_k H | replace H := out_step H (by assumption))); have H := Option.some.inj H; subst H))
    | constructor
def G22 : Env := G21.add 6 [] impl_StepsToRope.S
theorem G22_ok : EnvOk Tryd.prog G22 := G21_ok.add ent_6 fun ar h r h1 ⟨a0, y, hy, e1, e2, e3, e4⟩ => by
  subst e3 e4; exact (impl_StepsToRope.spec a0 y hy).le e1 e2
attribute [local irreducible] impl_StepsToRope

noncomputable def spec_l21Try (a0 : GripState) (a1 : Int) : Option (GripStep) :=
  (cond (decide (a1 = (2 : Int))) (cond (decide (a0.1 = (1 : Int))) ((some (a1, (2000 : Int), ()))) ((some (a1, (0 : Int), ())))) ((some (a1, (0 : Int), ()))))
def spec_l21Try.res (_ : GripState) (_ : Int) (y : GripStep) : AV := (.agg [(.v (.int .i64 y.1)), (.v (.int .i64 y.2.1))])
def spec_l21Try.out (_ : GripState) (_ : Int) (_ : GripStep) : List (Option LB) := []
def spec_l21Try.S (ar : List AV) (h : List (Option LB)) (r : AV) (h1 : List (Option LB)) : Prop := ∃ a0 a1 y, spec_l21Try a0 a1 = some y ∧ leL ar [(.agg [(.v (.int .i64 a0.1)), (.v (.int .i64 a0.2.1)), (.v (.int .i64 a0.2.2.1)), (.v (.int .i64 a0.2.2.2.1))]), (.v (.int .i64 a1))] ∧ leH h [] ∧ r = spec_l21Try.res a0 a1 y ∧ h1 = spec_l21Try.out a0 a1 y
theorem spec_l21Try.call {ar : List AV} {h : List (Option LB)} {a0 : GripState} {a1 : Int} {y : GripStep} (H : spec_l21Try a0 a1 = some y) (h0 : leLk ar [(.agg [(.v (.int .i64 a0.1)), (.v (.int .i64 a0.2.1)), (.v (.int .i64 a0.2.2.1)), (.v (.int .i64 a0.2.2.2.1))]), (.v (.int .i64 a1))] (leHk h [])) : spec_l21Try.S ar h (spec_l21Try.res a0 a1 y) (spec_l21Try.out a0 a1 y) := ⟨a0, a1, y, H, (args_ok h0).1, (args_ok h0).2, rfl, rfl⟩
set_option maxHeartbeats 100000000 in
set_option maxRecDepth 100000 in
theorem spec_l21Try.spec (a0 : GripState) (a1 : Int) (y : GripStep) (H : spec_l21Try a0 a1 = some y) : Spec Tryd.prog 39 [(.agg [(.v (.int .i64 a0.1)), (.v (.int .i64 a0.2.1)), (.v (.int .i64 a0.2.2.1)), (.v (.int .i64 a0.2.2.2.1))]), (.v (.int .i64 a1))] [] (spec_l21Try.res a0 a1 y) (spec_l21Try.out a0 a1 y) := by
  refine spec_intro (G22_ok.at tok []) (ct := []) Tryd.func39 rfl (by kernel_rfl) (by kernel_rfl) rfl ?_
  repeat' first
    | ((with_reducible refine eqg ?_); exact rfl)
    | ((with_reducible refine KOb.mk ?_); kernel_rfl)
    | ((with_reducible intro h); (repeat (first | replace H := grd_k H | replace H := out_step H (by assumption))); first | replace H := cond_t h H | replace H := cond_f h H | exact absurd h (by decide) | skip)
    | ((with_reducible refine Ob.mk ?_); first | (with_reducible rfl) | (first | ((repeat (first | (with_reducible exact grd_p H) | (replace H := grd_k H) | (replace H := out_step H (by assumption)))); done) | rfl | ((repeat (first | exact grd_p H | replace H := grd_k H | replace H := out_step H (by assumption))); done) | ((repeat (first | exact grd_p H | (have hp := grd_p H; exact hp) | replace H := grd_k H | replace H := out_step H (by assumption) | (replace H := bind_some H; obtain ⟨_, _, H⟩ := H))); done) | (repeat (first | exact grd_p H | replace H := grd_k H | replace H := out_step H (by assumption)))))
    | (with_reducible exact True.intro)
    | ((conv => whnf); first
        | (with_reducible refine And.intro ?_ ?_)
        | (with_reducible exact True.intro)
        | ((with_reducible refine Ob.mk ?_); first | (with_reducible rfl) | (first | ((repeat (first | (with_reducible exact grd_p H) | (replace H := grd_k H) | (replace H := out_step H (by assumption)))); done) | rfl | ((repeat (first | exact grd_p H | replace H := grd_k H | replace H := out_step H (by assumption))); done) | ((repeat (first | exact grd_p H | (have hp := grd_p H; exact hp) | replace H := grd_k H | replace H := out_step H (by assumption) | (replace H := bind_some H; obtain ⟨_, _, H⟩ := H))); done) | (repeat (first | exact grd_p H | replace H := grd_k H | replace H := out_step H (by assumption)))))
        | ((with_reducible refine fin_mk ?_); (repeat (first | replace H := grd_k H | replace H := out_step H (by assumption))); have H := Option.some.inj H; subst H))
    | constructor
def G23 : Env := G22.add 39 [] spec_l21Try.S
theorem G23_ok : EnvOk Tryd.prog G23 := G22_ok.add ent_39 fun ar h r h1 ⟨a0, a1, y, hy, e1, e2, e3, e4⟩ => by
  subst e3 e4; exact (spec_l21Try.spec a0 a1 y hy).le e1 e2
attribute [local irreducible] spec_l21Try

noncomputable def spec_l21In_loop1 (a0 : (List GripState)) (a1 : GripState) (v2 : Int) : Option (Lp (Int) ((Unit) ⊕ (Unit))) :=
  (cond (decide (v2 < (a0.length : Int))) (grd (0 ≤ v2 ∧ v2 < (a0.length : Int)) (cond (decide (((a0.getD v2.toNat d_GripState).1) = a1.1) && (decide (((a0.getD v2.toNat d_GripState).2.1) = a1.2.1) && (decide (((a0.getD v2.toNat d_GripState).2.2.1) = a1.2.2.1) && (decide (((a0.getD v2.toNat d_GripState).2.2.2.1) = a1.2.2.2.1) && true)))) ((some (.out (Sum.inl ())))) (some (.go (w64 (v2 + (1 : Int))))))) ((some (.out (Sum.inr ())))))
noncomputable def spec_l21In (a0 : (List GripState)) (a1 : GripState) : Option (Bool) :=
  ((iter (fun s => spec_l21In_loop1 a0 a1 s) (0 : Int)).bind (Sum.elim (fun _ => (some true)) (fun _ => (some false))))
def spec_l21In.res (_ : (List GripState)) (_ : GripState) (y : Bool) : AV := (.bl y)
def spec_l21In.out (_ : (List GripState)) (_ : GripState) (_ : Bool) : List (Option LB) := []
def spec_l21In.S (ar : List AV) (h : List (Option LB)) (r : AV) (h1 : List (Option LB)) : Prop := ∃ a0 a1 y, spec_l21In a0 a1 = some y ∧ leL ar [(.tree ty_GripState a0), (.agg [(.v (.int .i64 a1.1)), (.v (.int .i64 a1.2.1)), (.v (.int .i64 a1.2.2.1)), (.v (.int .i64 a1.2.2.2.1))])] ∧ leH h [] ∧ r = spec_l21In.res a0 a1 y ∧ h1 = spec_l21In.out a0 a1 y
theorem spec_l21In.call {ar : List AV} {h : List (Option LB)} {a0 : (List GripState)} {a1 : GripState} {y : Bool} (H : spec_l21In a0 a1 = some y) (h0 : leLk ar [(.tree ty_GripState a0), (.agg [(.v (.int .i64 a1.1)), (.v (.int .i64 a1.2.1)), (.v (.int .i64 a1.2.2.1)), (.v (.int .i64 a1.2.2.2.1))])] (leHk h [])) : spec_l21In.S ar h (spec_l21In.res a0 a1 y) (spec_l21In.out a0 a1 y) := ⟨a0, a1, y, H, (args_ok h0).1, (args_ok h0).2, rfl, rfl⟩
set_option maxHeartbeats 100000000 in
set_option maxRecDepth 100000 in
theorem spec_l21In.spec (a0 : (List GripState)) (a1 : GripState) (y : Bool) (H : spec_l21In a0 a1 = some y) : Spec Tryd.prog 40 [(.tree ty_GripState a0), (.agg [(.v (.int .i64 a1.1)), (.v (.int .i64 a1.2.1)), (.v (.int .i64 a1.2.2.1)), (.v (.int .i64 a1.2.2.2.1))])] [] (spec_l21In.res a0 a1 y) (spec_l21In.out a0 a1 y) := by
  refine spec_intro (G23_ok.at tok []) (ct := []) Tryd.func40 rfl (by kernel_rfl) (by kernel_rfl) rfl ?_
  repeat' first
    | ((with_reducible refine eqg ?_); exact rfl)
    | ((with_reducible refine KOb.mk ?_); kernel_rfl)
    | ((with_reducible intro h); (repeat (first | replace H := grd_k H | replace H := out_step H (by assumption))); first | replace H := cond_t h H | replace H := cond_f h H | exact absurd h (by decide) | skip)
    | ((with_reducible refine Ob.mk ?_); first | (with_reducible rfl) | (first | ((repeat (first | (with_reducible exact grd_p H) | (replace H := grd_k H) | (replace H := out_step H (by assumption)))); done) | rfl | ((repeat (first | exact grd_p H | replace H := grd_k H | replace H := out_step H (by assumption))); done) | ((repeat (first | exact grd_p H | (have hp := grd_p H; exact hp) | replace H := grd_k H | replace H := out_step H (by assumption) | (replace H := bind_some H; obtain ⟨_, _, H⟩ := H))); done) | (repeat (first | exact grd_p H | replace H := grd_k H | replace H := out_step H (by assumption)))))
    | (with_reducible exact True.intro)
    | ((conv => whnf); first
        | (with_reducible refine And.intro ?_ ?_)
        | (with_reducible exact True.intro)
        | ((with_reducible refine Ob.mk ?_); first | (with_reducible rfl) | (first | ((repeat (first | (with_reducible exact grd_p H) | (replace H := grd_k H) | (replace H := out_step H (by assumption)))); done) | rfl | ((repeat (first | exact grd_p H | replace H := grd_k H | replace H := out_step H (by assumption))); done) | ((repeat (first | exact grd_p H | (have hp := grd_p H; exact hp) | replace H := grd_k H | replace H := out_step H (by assumption) | (replace H := bind_some H; obtain ⟨_, _, H⟩ := H))); done) | (repeat (first | exact grd_p H | replace H := grd_k H | replace H := out_step H (by assumption)))))
        | ((repeat (first | replace H := grd_k H | replace H := out_step H (by assumption))); refine loop_iter (G23_ok.at tok []) (ct := []) (F := (fun s1 : Int => ⟨sl [(0, (.tree ty_GripState a0)), (3, (.loc 0 0 0)), (5, (.v (.int .i64 s1)))], [some (.box 25 [(.v (.int .i64 a1.1)), (.v (.int .i64 a1.2.1)), (.v (.int .i64 a1.2.2.1)), (.v (.int .i64 a1.2.2.2.1))])]⟩)) (step := (fun s : Int => spec_l21In_loop1 _ _ s)) _ H (by kernel_rfl) (sub_auto ?_) ?_; rotate_left; (intro s1 r v hr H); rotate_right)
        | ((repeat (first | replace H := grd_k H | replace H := out_step H (by assumption))); refine again_step H (by assumption) (sub_auto ?_))
        | ((with_reducible refine fin_mk ?_); (repeat (first | replace H := grd_k H | replace H := out_step H (by assumption))); have H := Option.some.inj H; subst H))
    | constructor
def G24 : Env := G23.add 40 [] spec_l21In.S
theorem G24_ok : EnvOk Tryd.prog G24 := G23_ok.add ent_40 fun ar h r h1 ⟨a0, a1, y, hy, e1, e2, e3, e4⟩ => by
  subst e3 e4; exact (spec_l21In.spec a0 a1 y hy).le e1 e2
attribute [local irreducible] spec_l21In

noncomputable def spec_l21To_loop3 (v277 : (List GripState)) (v343 : Int) (v359 : Int) (v360 : (List GripState)) : Option (Lp (Int × (List GripState)) (((List GripState)))) :=
  (cond (decide (v359 ≤ (5 : Int))) ((grd (0 ≤ v343 ∧ v343 < (v277.length : Int)) (grd (0 ≤ v343 ∧ v343 < (v277.length : Int)) ((spec_l21Try ((v277.getD v343.toNat d_GripState).1, (v277.getD v343.toNat d_GripState).2.1, (v277.getD v343.toNat d_GripState).2.2.1, (v277.getD v343.toNat d_GripState).2.2.2.1, ()) v359).bind fun y361 => ((spec_l21Make ((v277.getD v343.toNat d_GripState).1, (v277.getD v343.toNat d_GripState).2.1, (v277.getD v343.toNat d_GripState).2.2.1, (v277.getD v343.toNat d_GripState).2.2.2.1, ()) (y361.1, y361.2.1, ())).bind fun y362 => (some ((Tg.mk : Tg 64), y362.2, y362.1.1, y362.1.2.1, y362.1.2.2.1, y362.1.2.2.2.1)))))).bind fun z363 => (cond z363.2.1 ((spec_l21In v360 (z363.2.2.1, z363.2.2.2.1, z363.2.2.2.2.1, z363.2.2.2.2.2, ())).bind fun y364 => (cond (!y364) (grd (0 ≤ v343 ∧ v343 < (v277.length : Int)) (cond (!(decide (z363.2.2.1 = ((v277.getD v343.toNat d_GripState).1)) && (decide (z363.2.2.2.1 = ((v277.getD v343.toNat d_GripState).2.1)) && (decide (z363.2.2.2.2.1 = ((v277.getD v343.toNat d_GripState).2.2.1)) && (decide (z363.2.2.2.2.2 = ((v277.getD v343.toNat d_GripState).2.2.2.1)) && true))))) (grd (v360.length + [(z363.2.2.1, z363.2.2.2.1, z363.2.2.2.2.1, z363.2.2.2.2.2, ())].length ≤ 140737488355328 / 32 ∧ v360.length + [(z363.2.2.1, z363.2.2.2.1, z363.2.2.2.2.1, z363.2.2.2.2.2, ())].length ≤ 140737488355328) (some (.go ((w64 (v359 + (1 : Int))), (v360 ++ [(z363.2.2.1, z363.2.2.2.1, z363.2.2.2.2.1, z363.2.2.2.2.2, ())]))))) (some (.go ((w64 (v359 + (1 : Int))), v360))))) (some (.go ((w64 (v359 + (1 : Int))), v360))))) (some (.go ((w64 (v359 + (1 : Int))), v360))))) ((some (.out v360))))
noncomputable def spec_l21To_loop2 (a1 : Int) (v277 : (List GripState)) (v343 : Int) (v344 : (List GripState)) : Option (Lp (Int × (List GripState)) ((Unit) ⊕ ((List GripState)))) :=
  (cond (decide (v343 < (v277.length : Int))) (grd (0 ≤ v343 ∧ v343 < (v277.length : Int)) (cond (decide (((v277.getD v343.toNat d_GripState).2.1) = a1)) ((some (.out (Sum.inl ())))) ((iter (fun s => spec_l21To_loop3 v277 v343 s.1 s.2) ((1 : Int), v344)).bind (fun r365 => (some (.go ((w64 (v343 + (1 : Int))), r365))))))) ((some (.out (Sum.inr v344)))))
noncomputable def spec_l21To_loop1 (a1 : Int) (v276 : Int) (v277 : (List GripState)) : Option (Lp (Int × (List GripState)) ((Int) ⊕ (Unit))) :=
  (cond (decide (v276 < (40 : Int))) ((iter (fun s => spec_l21To_loop2 a1 v277 s.1 s.2) ((0 : Int), ([] : List GripState))).bind (Sum.elim (fun _ => (some (.out (Sum.inl v276)))) (fun r368 => (some (.go ((w64 (v276 + (1 : Int))), r368)))))) ((some (.out (Sum.inr ())))))
noncomputable def spec_l21To (a0 : GripState) (a1 : Int) : Option (Int) :=
  ((iter (fun s => spec_l21To_loop1 a1 s.1 s.2) ((0 : Int), [(a0.1, a0.2.1, a0.2.2.1, a0.2.2.2.1, ())])).bind (Sum.elim (fun r370 => (some r370)) (fun _ => (some ((-1) : Int)))))
def spec_l21To.res (_ : GripState) (_ : Int) (y : Int) : AV := (.v (.int .i64 y))
def spec_l21To.out (_ : GripState) (_ : Int) (_ : Int) : List (Option LB) := []
def spec_l21To.S (ar : List AV) (h : List (Option LB)) (r : AV) (h1 : List (Option LB)) : Prop := ∃ a0 a1 y, spec_l21To a0 a1 = some y ∧ leL ar [(.agg [(.v (.int .i64 a0.1)), (.v (.int .i64 a0.2.1)), (.v (.int .i64 a0.2.2.1)), (.v (.int .i64 a0.2.2.2.1))]), (.v (.int .i64 a1))] ∧ leH h [] ∧ r = spec_l21To.res a0 a1 y ∧ h1 = spec_l21To.out a0 a1 y
theorem spec_l21To.call {ar : List AV} {h : List (Option LB)} {a0 : GripState} {a1 : Int} {y : Int} (H : spec_l21To a0 a1 = some y) (h0 : leLk ar [(.agg [(.v (.int .i64 a0.1)), (.v (.int .i64 a0.2.1)), (.v (.int .i64 a0.2.2.1)), (.v (.int .i64 a0.2.2.2.1))]), (.v (.int .i64 a1))] (leHk h [])) : spec_l21To.S ar h (spec_l21To.res a0 a1 y) (spec_l21To.out a0 a1 y) := ⟨a0, a1, y, H, (args_ok h0).1, (args_ok h0).2, rfl, rfl⟩
set_option maxHeartbeats 100000000 in
set_option maxRecDepth 100000 in
theorem spec_l21To.spec (a0 : GripState) (a1 : Int) (y : Int) (H : spec_l21To a0 a1 = some y) : Spec Tryd.prog 22 [(.agg [(.v (.int .i64 a0.1)), (.v (.int .i64 a0.2.1)), (.v (.int .i64 a0.2.2.1)), (.v (.int .i64 a0.2.2.2.1))]), (.v (.int .i64 a1))] [] (spec_l21To.res a0 a1 y) (spec_l21To.out a0 a1 y) := by
  refine spec_intro (G24_ok.at tok []) (ct := [(15, none), (12, some [1, 5, 6, 7, 8, 9, 53, 54, 55, 56, 59, 60, 61, 62, 63, 64]), (16, some [1, 5, 6, 7, 8, 9, 10, 53, 54, 55, 56, 59, 60, 61, 62, 63, 64, 65])]) Tryd.func22 rfl (by kernel_rfl) (by kernel_rfl) rfl ?_
  repeat' first
    | ((with_reducible refine eqg ?_); exact rfl)
    | ((with_reducible refine KOb.mk ?_); kernel_rfl)
    | ((with_reducible intro h); (repeat (first | replace H := grd_k H | replace H := out_step H (by assumption))); first | replace H := cond_t h H | replace H := cond_f h H | exact absurd h (by decide) | skip)
    | ((with_reducible refine Ob.mk ?_); first | (with_reducible rfl) | (first | ((repeat (first | (with_reducible exact grd_p H) | (replace H := grd_k H) | (replace H := out_step H (by assumption)))); done) | rfl | ((repeat (first | exact grd_p H | replace H := grd_k H | replace H := out_step H (by assumption))); done) | ((repeat (first | exact grd_p H | (have hp := grd_p H; exact hp) | replace H := grd_k H | replace H := out_step H (by assumption) | (replace H := bind_some H; obtain ⟨_, _, H⟩ := H))); done) | (repeat (first | exact grd_p H | replace H := grd_k H | replace H := out_step H (by assumption)))))
    | (with_reducible exact True.intro)
    | ((conv => whnf); first
        | (with_reducible refine And.intro ?_ ?_)
        | (with_reducible exact True.intro)
        | ((with_reducible refine Ob.mk ?_); first | (with_reducible rfl) | (first | ((repeat (first | (with_reducible exact grd_p H) | (replace H := grd_k H) | (replace H := out_step H (by assumption)))); done) | rfl | ((repeat (first | exact grd_p H | replace H := grd_k H | replace H := out_step H (by assumption))); done) | ((repeat (first | exact grd_p H | (have hp := grd_p H; exact hp) | replace H := grd_k H | replace H := out_step H (by assumption) | (replace H := bind_some H; obtain ⟨_, _, H⟩ := H))); done) | (repeat (first | exact grd_p H | replace H := grd_k H | replace H := out_step H (by assumption)))))
        | ((with_reducible refine CallW.mk ?_); (repeat (first | replace H := grd_k H | replace H := out_step H (by assumption))); replace H := bind_some H; obtain ⟨y, hy, H⟩ := H; first | ((with_reducible have hz : spec_l21Try _ _ = some y := hy); clear hz; refine Exists.intro _ (Exists.intro _ ⟨spec_l21Try.call hy ?_, rfl, rfl, ?_⟩)) | ((with_reducible have hz : spec_l21Make _ _ = some y := hy); clear hz; refine Exists.intro _ (Exists.intro _ ⟨spec_l21Make.call hy ?_, rfl, rfl, ?_⟩)) | ((with_reducible have hz : spec_l21In _ _ = some y := hy); clear hz; refine Exists.intro _ (Exists.intro _ ⟨spec_l21In.call hy ?_, rfl, rfl, ?_⟩)))
        | ((repeat (first | replace H := grd_k H | replace H := out_step H (by assumption))); refine loop_iter (G24_ok.at tok []) (ct := [(15, none), (12, some [1, 5, 6, 7, 8, 9, 53, 54, 55, 56, 59, 60, 61, 62, 63, 64]), (16, some [1, 5, 6, 7, 8, 9, 10, 53, 54, 55, 56, 59, 60, 61, 62, 63, 64, 65])]) (F := (fun s1 : Int × (List GripState) => ⟨sl [(1, (.v (.int .i64 a1))), (5, (.own 0)), (6, (.v (.int .i64 s1.1)))], [some (.arr 25 ty_GripState s1.2)]⟩)) (step := (fun s : Int × (List GripState) => spec_l21To_loop1 _ s.1 s.2)) _ H (by kernel_rfl) (sub_auto ?_) ?_; rotate_left; (intro s1 r v hr H); rotate_right)
        | ((repeat (first | replace H := grd_k H | replace H := out_step H (by assumption))); refine loop_iter (G24_ok.at tok []) (ct := [(15, none), (12, some [1, 5, 6, 7, 8, 9, 53, 54, 55, 56, 59, 60, 61, 62, 63, 64]), (16, some [1, 5, 6, 7, 8, 9, 10, 53, 54, 55, 56, 59, 60, 61, 62, 63, 64, 65])]) (F := (fun s2 : Int × (List GripState) => ⟨sl [(1, (.v (.int .i64 a1))), (5, (.own 0)), (6, (.v (.int .i64 s1.1))), (7, (.own 1)), (8, (.v (.int .i64 s2.1)))], [some (.arr 25 ty_GripState s1.2), some (.arr 25 ty_GripState s2.2)]⟩)) (step := (fun s : Int × (List GripState) => spec_l21To_loop2 _ _ s.1 s.2)) _ H (by kernel_rfl) (sub_auto ?_) ?_; rotate_left; (intro s2 r v hr H); rotate_right)
        | ((repeat (first | replace H := grd_k H | replace H := out_step H (by assumption))); refine loop_iter (G24_ok.at tok []) (ct := [(15, none), (12, some [1, 5, 6, 7, 8, 9, 53, 54, 55, 56, 59, 60, 61, 62, 63, 64]), (16, some [1, 5, 6, 7, 8, 9, 10, 53, 54, 55, 56, 59, 60, 61, 62, 63, 64, 65])]) (F := (fun s3 : Int × (List GripState) => ⟨sl [(1, (.v (.int .i64 a1))), (5, (.own 0)), (6, (.v (.int .i64 s1.1))), (7, (.own 1)), (8, (.v (.int .i64 s2.1))), (9, (.v (.int .i64 s3.1)))], [some (.arr 25 ty_GripState s1.2), some (.arr 25 ty_GripState s3.2)]⟩)) (step := (fun s : Int × (List GripState) => spec_l21To_loop3 _ _ s.1 s.2)) _ H (by kernel_rfl) (sub_auto ?_) ?_; rotate_left; (intro s3 r v hr H); rotate_right)
        | ((with_reducible refine cutAt (id := 15) ?_); (repeat (first | replace H := grd_k H | replace H := out_step H (by assumption))); first | (replace H := bind_some H; obtain ⟨z, hz, H⟩ := H; have hT : Tg 64 × Bool × Int × Int × Int × Int := z; clear hT; refine CutC.mk (id := 15) ⟨sl [(1, (.v (.int .i64 a1))), (5, (.own 0)), (6, (.v (.int .i64 s1.1))), (7, (.own 1)), (8, (.v (.int .i64 s2.1))), (9, (.v (.int .i64 s3.1))), (10, (.loc 2 0 0)), (11, (.bl z.2.1))], [some (.arr 25 ty_GripState s1.2), some (.arr 25 ty_GripState s3.2), some (.box 25 [(.v (.int .i64 z.2.2.1)), (.v (.int .i64 z.2.2.2.1)), (.v (.int .i64 z.2.2.2.2.1)), (.v (.int .i64 z.2.2.2.2.2))])]⟩ ?_ ?_; (replace H := hz)))
        | ((repeat (first | replace H := grd_k H | replace H := out_step H (by assumption))); have H := Option.some.inj H; subst H; with_reducible refine sub_auto ?_)
        | ((repeat (first | replace H := grd_k H | replace H := out_step H (by assumption))); refine again_step H (by assumption) (sub_auto ?_))
        | ((with_reducible refine fin_mk ?_); (repeat (first | replace H := grd_k H | replace H := out_step H (by assumption))); have H := Option.some.inj H; subst H))
    | constructor
def G25 : Env := G24.add 22 [] spec_l21To.S
theorem G25_ok : EnvOk Tryd.prog G25 := G24_ok.add ent_22 fun ar h r h1 ⟨a0, a1, y, hy, e1, e2, e3, e4⟩ => by
  subst e3 e4; exact (spec_l21To.spec a0 a1 y hy).le e1 e2
attribute [local irreducible] spec_l21To

noncomputable def spec_StepsToRope (a0 : GripState) : Option (Int × Bool) :=
  ((spec_l21Good (a0.1, a0.2.1, a0.2.2.1, a0.2.2.2.1, ())).bind fun y1 => (cond (!y1) ((some ((0 : Int), false))) ((spec_l21To (a0.1, a0.2.1, a0.2.2.1, a0.2.2.2.1, ()) (2 : Int)).bind fun y2 => (some (y2, true)))))
def spec_StepsToRope.res (_ : GripState) (y : Int × Bool) : AV := (.tup [(.v (.int .i64 y.1)), (.bl y.2)])
def spec_StepsToRope.out (_ : GripState) (_ : Int × Bool) : List (Option LB) := []
def spec_StepsToRope.S (ar : List AV) (h : List (Option LB)) (r : AV) (h1 : List (Option LB)) : Prop := ∃ a0 y, spec_StepsToRope a0 = some y ∧ leL ar [(.agg [(.v (.int .i64 a0.1)), (.v (.int .i64 a0.2.1)), (.v (.int .i64 a0.2.2.1)), (.v (.int .i64 a0.2.2.2.1))])] ∧ leH h [] ∧ r = spec_StepsToRope.res a0 y ∧ h1 = spec_StepsToRope.out a0 y
theorem spec_StepsToRope.call {ar : List AV} {h : List (Option LB)} {a0 : GripState} {y : Int × Bool} (H : spec_StepsToRope a0 = some y) (h0 : leLk ar [(.agg [(.v (.int .i64 a0.1)), (.v (.int .i64 a0.2.1)), (.v (.int .i64 a0.2.2.1)), (.v (.int .i64 a0.2.2.2.1))])] (leHk h [])) : spec_StepsToRope.S ar h (spec_StepsToRope.res a0 y) (spec_StepsToRope.out a0 y) := ⟨a0, y, H, (args_ok h0).1, (args_ok h0).2, rfl, rfl⟩
set_option maxHeartbeats 100000000 in
set_option maxRecDepth 100000 in
theorem spec_StepsToRope.spec (a0 : GripState) (y : Int × Bool) (H : spec_StepsToRope a0 = some y) : Spec Tryd.prog 7 [(.agg [(.v (.int .i64 a0.1)), (.v (.int .i64 a0.2.1)), (.v (.int .i64 a0.2.2.1)), (.v (.int .i64 a0.2.2.2.1))])] [] (spec_StepsToRope.res a0 y) (spec_StepsToRope.out a0 y) := by
  refine spec_intro (G25_ok.at tok []) (ct := []) Tryd.func7 rfl (by kernel_rfl) (by kernel_rfl) rfl ?_
  repeat' first
    | ((with_reducible refine eqg ?_); exact rfl)
    | ((with_reducible refine KOb.mk ?_); kernel_rfl)
    | ((with_reducible intro h); (repeat (first | replace H := grd_k H | replace H := out_step H (by assumption))); first | replace H := cond_t h H | replace H := cond_f h H | exact absurd h (by decide) | skip)
    | ((with_reducible refine Ob.mk ?_); first | (with_reducible rfl) | (first | ((repeat (first | (with_reducible exact grd_p H) | (replace H := grd_k H) | (replace H := out_step H (by assumption)))); done) | rfl | ((repeat (first | exact grd_p H | replace H := grd_k H | replace H := out_step H (by assumption))); done) | ((repeat (first | exact grd_p H | (have hp := grd_p H; exact hp) | replace H := grd_k H | replace H := out_step H (by assumption) | (replace H := bind_some H; obtain ⟨_, _, H⟩ := H))); done) | (repeat (first | exact grd_p H | replace H := grd_k H | replace H := out_step H (by assumption)))))
    | (with_reducible exact True.intro)
    | ((conv => whnf); first
        | (with_reducible refine And.intro ?_ ?_)
        | (with_reducible exact True.intro)
        | ((with_reducible refine Ob.mk ?_); first | (with_reducible rfl) | (first | ((repeat (first | (with_reducible exact grd_p H) | (replace H := grd_k H) | (replace H := out_step H (by assumption)))); done) | rfl | ((repeat (first | exact grd_p H | replace H := grd_k H | replace H := out_step H (by assumption))); done) | ((repeat (first | exact grd_p H | (have hp := grd_p H; exact hp) | replace H := grd_k H | replace H := out_step H (by assumption) | (replace H := bind_some H; obtain ⟨_, _, H⟩ := H))); done) | (repeat (first | exact grd_p H | replace H := grd_k H | replace H := out_step H (by assumption)))))
        | ((with_reducible refine CallW.mk ?_); (repeat (first | replace H := grd_k H | replace H := out_step H (by assumption))); replace H := bind_some H; obtain ⟨y, hy, H⟩ := H; first | ((with_reducible have hz : spec_l21Good _ = some y := hy); clear hz; refine Exists.intro _ (Exists.intro _ ⟨spec_l21Good.call hy ?_, rfl, rfl, ?_⟩)) | ((with_reducible have hz : spec_l21To _ _ = some y := hy); clear hz; refine Exists.intro _ (Exists.intro _ ⟨spec_l21To.call hy ?_, rfl, rfl, ?_⟩)))
        | ((with_reducible refine fin_mk ?_); (repeat (first | replace H := grd_k H | replace H := out_step H (by assumption))); have H := Option.some.inj H; subst H))
    | constructor
def G26 : Env := G25.add 7 [] spec_StepsToRope.S
theorem G26_ok : EnvOk Tryd.prog G26 := G25_ok.add ent_7 fun ar h r h1 ⟨a0, y, hy, e1, e2, e3, e4⟩ => by
  subst e3 e4; exact (spec_StepsToRope.spec a0 y hy).le e1 e2
attribute [local irreducible] spec_StepsToRope

noncomputable def impl_StepsHome (a0 : GripState) : Option (Int × Bool) :=
  ((impl_IsGripState (a0.1, a0.2.1, a0.2.2.1, a0.2.2.2.1, ())).bind fun y1 => (cond (!y1) ((some ((0 : Int), false))) ((impl_GripState_stepsTo (a0.1, a0.2.1, a0.2.2.1, a0.2.2.2.1, ()) (0 : Int)).bind fun y2 => (some (y2.1, y2.2)))))
def impl_StepsHome.res (_ : GripState) (y : Int × Bool) : AV := (.tup [(.v (.int .i64 y.1)), (.bl y.2)])
def impl_StepsHome.out (_ : GripState) (_ : Int × Bool) : List (Option LB) := []
def impl_StepsHome.S (ar : List AV) (h : List (Option LB)) (r : AV) (h1 : List (Option LB)) : Prop := ∃ a0 y, impl_StepsHome a0 = some y ∧ leL ar [(.agg [(.v (.int .i64 a0.1)), (.v (.int .i64 a0.2.1)), (.v (.int .i64 a0.2.2.1)), (.v (.int .i64 a0.2.2.2.1))])] ∧ leH h [] ∧ r = impl_StepsHome.res a0 y ∧ h1 = impl_StepsHome.out a0 y
theorem impl_StepsHome.call {ar : List AV} {h : List (Option LB)} {a0 : GripState} {y : Int × Bool} (H : impl_StepsHome a0 = some y) (h0 : leLk ar [(.agg [(.v (.int .i64 a0.1)), (.v (.int .i64 a0.2.1)), (.v (.int .i64 a0.2.2.1)), (.v (.int .i64 a0.2.2.2.1))])] (leHk h [])) : impl_StepsHome.S ar h (impl_StepsHome.res a0 y) (impl_StepsHome.out a0 y) := ⟨a0, y, H, (args_ok h0).1, (args_ok h0).2, rfl, rfl⟩
set_option maxHeartbeats 100000000 in
set_option maxRecDepth 100000 in
theorem impl_StepsHome.spec (a0 : GripState) (y : Int × Bool) (H : impl_StepsHome a0 = some y) : Spec Tryd.prog 8 [(.agg [(.v (.int .i64 a0.1)), (.v (.int .i64 a0.2.1)), (.v (.int .i64 a0.2.2.1)), (.v (.int .i64 a0.2.2.2.1))])] [] (impl_StepsHome.res a0 y) (impl_StepsHome.out a0 y) := by
  refine spec_intro (G26_ok.at tok []) (ct := []) Tryd.func8 rfl (by kernel_rfl) (by kernel_rfl) rfl ?_
  repeat' first
    | ((with_reducible refine eqg ?_); exact rfl)
    | ((with_reducible refine KOb.mk ?_); kernel_rfl)
    | ((with_reducible intro h); (repeat (first | replace H := grd_k H | replace H := out_step H (by assumption))); first | replace H := cond_t h H | replace H := cond_f h H | exact absurd h (by decide) | skip)
    | ((with_reducible refine Ob.mk ?_); first | (with_reducible rfl) | (first | ((repeat (first | (with_reducible exact grd_p H) | (replace H := grd_k H) | (replace H := out_step H (by assumption)))); done) | rfl | ((repeat (first | exact grd_p H | replace H := grd_k H | replace H := out_step H (by assumption))); done) | ((repeat (first | exact grd_p H | (have hp := grd_p H; exact hp) | replace H := grd_k H | replace H := out_step H (by assumption) | (replace H := bind_some H; obtain ⟨_, _, H⟩ := H))); done) | (repeat (first | exact grd_p H | replace H := grd_k H | replace H := out_step H (by assumption)))))
    | (with_reducible exact True.intro)
    | ((conv => whnf); first
        | (with_reducible refine And.intro ?_ ?_)
        | (with_reducible exact True.intro)
        | ((with_reducible refine Ob.mk ?_); first | (with_reducible rfl) | (first | ((repeat (first | (with_reducible exact grd_p H) | (replace H := grd_k H) | (replace H := out_step H (by assumption)))); done) | rfl | ((repeat (first | exact grd_p H | replace H := grd_k H | replace H := out_step H (by assumption))); done) | ((repeat (first | exact grd_p H | (have hp := grd_p H; exact hp) | replace H := grd_k H | replace H := out_step H (by assumption) | (replace H := bind_some H; obtain ⟨_, _, H⟩ := H))); done) | (repeat (first | exact grd_p H | replace H := grd_k H | replace H := out_step H (by assumption)))))
        | ((with_reducible refine CallW.mk ?_); (repeat (first | replace H := grd_k H | replace H := out_step H (by assumption))); replace H := bind_some H; obtain ⟨y, hy, H⟩ := H; first | ((with_reducible have hz : impl_IsGripState _ = some y := hy); clear hz; refine Exists.intro _ (Exists.intro _ ⟨impl_IsGripState.call hy ?_, rfl, rfl, ?_⟩)) | ((with_reducible have hz : impl_GripState_stepsTo _ _ = some y := hy); clear hz; refine Exists.intro _ (Exists.intro _ ⟨impl_GripState_stepsTo.call hy ?_, rfl, rfl, ?_⟩)))
        | ((with_reducible refine fin_mk ?_); (repeat (first | replace H := grd_k H | replace H := out_step H (by assumption))); have H := Option.some.inj H; subst H))
    | constructor
def G27 : Env := G26.add 8 [] impl_StepsHome.S
theorem G27_ok : EnvOk Tryd.prog G27 := G26_ok.add ent_8 fun ar h r h1 ⟨a0, y, hy, e1, e2, e3, e4⟩ => by
  subst e3 e4; exact (impl_StepsHome.spec a0 y hy).le e1 e2
attribute [local irreducible] impl_StepsHome

noncomputable def spec_StepsHome (a0 : GripState) : Option (Int × Bool) :=
  ((spec_l21Good (a0.1, a0.2.1, a0.2.2.1, a0.2.2.2.1, ())).bind fun y1 => (cond (!y1) ((some ((0 : Int), false))) ((spec_l21To (a0.1, a0.2.1, a0.2.2.1, a0.2.2.2.1, ()) (0 : Int)).bind fun y2 => (some (y2, true)))))
def spec_StepsHome.res (_ : GripState) (y : Int × Bool) : AV := (.tup [(.v (.int .i64 y.1)), (.bl y.2)])
def spec_StepsHome.out (_ : GripState) (_ : Int × Bool) : List (Option LB) := []
def spec_StepsHome.S (ar : List AV) (h : List (Option LB)) (r : AV) (h1 : List (Option LB)) : Prop := ∃ a0 y, spec_StepsHome a0 = some y ∧ leL ar [(.agg [(.v (.int .i64 a0.1)), (.v (.int .i64 a0.2.1)), (.v (.int .i64 a0.2.2.1)), (.v (.int .i64 a0.2.2.2.1))])] ∧ leH h [] ∧ r = spec_StepsHome.res a0 y ∧ h1 = spec_StepsHome.out a0 y
theorem spec_StepsHome.call {ar : List AV} {h : List (Option LB)} {a0 : GripState} {y : Int × Bool} (H : spec_StepsHome a0 = some y) (h0 : leLk ar [(.agg [(.v (.int .i64 a0.1)), (.v (.int .i64 a0.2.1)), (.v (.int .i64 a0.2.2.1)), (.v (.int .i64 a0.2.2.2.1))])] (leHk h [])) : spec_StepsHome.S ar h (spec_StepsHome.res a0 y) (spec_StepsHome.out a0 y) := ⟨a0, y, H, (args_ok h0).1, (args_ok h0).2, rfl, rfl⟩
set_option maxHeartbeats 100000000 in
set_option maxRecDepth 100000 in
theorem spec_StepsHome.spec (a0 : GripState) (y : Int × Bool) (H : spec_StepsHome a0 = some y) : Spec Tryd.prog 9 [(.agg [(.v (.int .i64 a0.1)), (.v (.int .i64 a0.2.1)), (.v (.int .i64 a0.2.2.1)), (.v (.int .i64 a0.2.2.2.1))])] [] (spec_StepsHome.res a0 y) (spec_StepsHome.out a0 y) := by
  refine spec_intro (G27_ok.at tok []) (ct := []) Tryd.func9 rfl (by kernel_rfl) (by kernel_rfl) rfl ?_
  repeat' first
    | ((with_reducible refine eqg ?_); exact rfl)
    | ((with_reducible refine KOb.mk ?_); kernel_rfl)
    | ((with_reducible intro h); (repeat (first | replace H := grd_k H | replace H := out_step H (by assumption))); first | replace H := cond_t h H | replace H := cond_f h H | exact absurd h (by decide) | skip)
    | ((with_reducible refine Ob.mk ?_); first | (with_reducible rfl) | (first | ((repeat (first | (with_reducible exact grd_p H) | (replace H := grd_k H) | (replace H := out_step H (by assumption)))); done) | rfl | ((repeat (first | exact grd_p H | replace H := grd_k H | replace H := out_step H (by assumption))); done) | ((repeat (first | exact grd_p H | (have hp := grd_p H; exact hp) | replace H := grd_k H | replace H := out_step H (by assumption) | (replace H := bind_some H; obtain ⟨_, _, H⟩ := H))); done) | (repeat (first | exact grd_p H | replace H := grd_k H | replace H := out_step H (by assumption)))))
    | (with_reducible exact True.intro)
    | ((conv => whnf); first
        | (with_reducible refine And.intro ?_ ?_)
        | (with_reducible exact True.intro)
        | ((with_reducible refine Ob.mk ?_); first | (with_reducible rfl) | (first | ((repeat (first | (with_reducible exact grd_p H) | (replace H := grd_k H) | (replace H := out_step H (by assumption)))); done) | rfl | ((repeat (first | exact grd_p H | replace H := grd_k H | replace H := out_step H (by assumption))); done) | ((repeat (first | exact grd_p H | (have hp := grd_p H; exact hp) | replace H := grd_k H | replace H := out_step H (by assumption) | (replace H := bind_some H; obtain ⟨_, _, H⟩ := H))); done) | (repeat (first | exact grd_p H | replace H := grd_k H | replace H := out_step H (by assumption)))))
        | ((with_reducible refine CallW.mk ?_); (repeat (first | replace H := grd_k H | replace H := out_step H (by assumption))); replace H := bind_some H; obtain ⟨y, hy, H⟩ := H; first | ((with_reducible have hz : spec_l21Good _ = some y := hy); clear hz; refine Exists.intro _ (Exists.intro _ ⟨spec_l21Good.call hy ?_, rfl, rfl, ?_⟩)) | ((with_reducible have hz : spec_l21To _ _ = some y := hy); clear hz; refine Exists.intro _ (Exists.intro _ ⟨spec_l21To.call hy ?_, rfl, rfl, ?_⟩)))
        | ((with_reducible refine fin_mk ?_); (repeat (first | replace H := grd_k H | replace H := out_step H (by assumption))); have H := Option.some.inj H; subst H))
    | constructor
def G28 : Env := G27.add 9 [] spec_StepsHome.S
theorem G28_ok : EnvOk Tryd.prog G28 := G27_ok.add ent_9 fun ar h r h1 ⟨a0, y, hy, e1, e2, e3, e4⟩ => by
  subst e3 e4; exact (spec_StepsHome.spec a0 y hy).le e1 e2
attribute [local irreducible] spec_StepsHome

end Go.Proofs.YtbjhcjhkmppocaaDoor
