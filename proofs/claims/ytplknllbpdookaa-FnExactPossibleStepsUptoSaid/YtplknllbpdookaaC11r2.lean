/-
  Contracts, printed by a program.
-/
import Derived.Test.YtplknllbpdookaaC11r1
namespace Go.Proofs.Ytplknllbpdookaa
open Go.RowKit
attribute [local irreducible] Ob loopwp Sub Spec Fin Again CallW CutC KOb iter joinx outm

attribute [local irreducible] laws_toGripState laws_toGripStep spec_l1In spec_l21Good spec_l21Step spec_l1Least spec_l21Move spec_l21Make spec_StepGrip

noncomputable def impl_within (a0 : Int) (a1 : Int) (a2 : Int) : Option (Bool) :=
  (cond (decide (a1 ≤ a0)) ((some (decide (a0 ≤ a2)))) ((some false)))
def impl_within.res (_ : Int) (_ : Int) (_ : Int) (y : Bool) : AV := (.bl y)
def impl_within.out (_ : Int) (_ : Int) (_ : Int) (_ : Bool) : List (Option LB) := []
def impl_within.S (ar : List AV) (h : List (Option LB)) (r : AV) (h1 : List (Option LB)) : Prop := ∃ a0 a1 a2 y, impl_within a0 a1 a2 = some y ∧ leL ar [(.v (.int .i64 a0)), (.v (.int .i64 a1)), (.v (.int .i64 a2))] ∧ leH h [] ∧ r = impl_within.res a0 a1 a2 y ∧ h1 = impl_within.out a0 a1 a2 y
theorem impl_within.call {ar : List AV} {h : List (Option LB)} {a0 : Int} {a1 : Int} {a2 : Int} {y : Bool} (H : impl_within a0 a1 a2 = some y) (h0 : leLk ar [(.v (.int .i64 a0)), (.v (.int .i64 a1)), (.v (.int .i64 a2))] (leHk h [])) : impl_within.S ar h (impl_within.res a0 a1 a2 y) (impl_within.out a0 a1 a2 y) := ⟨a0, a1, a2, y, H, (args_ok h0).1, (args_ok h0).2, rfl, rfl⟩
set_option maxHeartbeats 100000000 in
set_option maxRecDepth 100000 in
theorem impl_within.spec (a0 : Int) (a1 : Int) (a2 : Int) (y : Bool) (H : impl_within a0 a1 a2 = some y) : Spec Try.prog 108 [(.v (.int .i64 a0)), (.v (.int .i64 a1)), (.v (.int .i64 a2))] [] (impl_within.res a0 a1 a2 y) (impl_within.out a0 a1 a2 y) := by
  refine spec_intro (G9_ok.at tok []) (ct := []) Try.func108 rfl (by kernel_rfl) (by kernel_rfl) rfl ?_
  repeat' first
    | ((with_reducible refine eqg ?_); exact rfl)
    | ((with_reducible refine KOb.mk ?_); kernel_rfl)
    | ((with_reducible intro h); (repeat (first | replace H := grd_k H | replace H := out_step H (by assumption))); first | replace H := cond_t h H | replace H := cond_f h H | exact absurd h (by decide) | skip)
    | ((with_reducible refine Ob.mk ?_); first | rfl | (repeat (first | exact grd_p H | replace H := grd_k H | replace H := out_step H (by assumption))))
    | (with_reducible exact True.intro)
    | constructor
    | ((conv => whnf); first
        | ((with_reducible refine Ob.mk ?_); first | rfl | (repeat (first | exact grd_p H | replace H := grd_k H | replace H := out_step H (by assumption))))
        | ((with_reducible refine fin_mk ?_); (repeat (first | replace H := grd_k H | replace H := out_step H (by assumption))); have H := Option.some.inj H; subst H))
def G10 : Env := G9.add 108 [] impl_within.S
theorem G10_ok : EnvOk Try.prog G10 := G9_ok.add ent_108 fun ar h r h1 ⟨a0, a1, a2, y, hy, e1, e2, e3, e4⟩ => by
  subst e3 e4; exact (impl_within.spec a0 a1 a2 y hy).le e1 e2
attribute [local irreducible] impl_within

noncomputable def impl_IsGripState (a0 : GripState) : Option (Bool) :=
  (joinx ((impl_within a0.1 (0 : Int) (4 : Int)).bind fun y1 => (cond (!y1) (outm ((some false))) ((impl_within a0.2.1 (0 : Int) (3 : Int)).bind fun y2 => (cond (!y2) (outm ((some false))) ((impl_within a0.2.2.1 (0 : Int) (2000 : Int)).bind fun y3 => (cond (!y3) (outm ((some false))) ((impl_within a0.2.2.2.1 (0 : Int) (3 : Int)).bind fun y4 => (cond (!y4) (outm ((some false))) (cond (decide ((0 : Int) < a0.2.2.1)) (cond (!decide (a0.1 = (2 : Int))) (outm ((some false))) ((some (.go ())))) ((some (.go ())))))))))))) (fun (z5 : Unit) => (cond (decide (a0.2.1 = (0 : Int))) (cond (decide (a0.1 = (0 : Int))) ((some true)) ((some (decide (a0.1 = (4 : Int)))))) (cond (decide (a0.2.1 = (2 : Int))) (cond (decide (a0.1 = (2 : Int))) ((some (decide ((500 : Int) ≤ a0.2.2.1)))) ((some false))) (cond (decide (a0.2.1 = (3 : Int))) (cond (!decide (a0.1 = (4 : Int))) ((some (!decide (a0.1 = (1 : Int))))) ((some false))) ((some (!decide (a0.1 = (4 : Int))))))))))
def impl_IsGripState.res (_ : GripState) (y : Bool) : AV := (.bl y)
def impl_IsGripState.out (_ : GripState) (_ : Bool) : List (Option LB) := []
def impl_IsGripState.S (ar : List AV) (h : List (Option LB)) (r : AV) (h1 : List (Option LB)) : Prop := ∃ a0 y, impl_IsGripState a0 = some y ∧ leL ar [(.agg [(.v (.int .i64 a0.1)), (.v (.int .i64 a0.2.1)), (.v (.int .i64 a0.2.2.1)), (.v (.int .i64 a0.2.2.2.1))])] ∧ leH h [] ∧ r = impl_IsGripState.res a0 y ∧ h1 = impl_IsGripState.out a0 y
theorem impl_IsGripState.call {ar : List AV} {h : List (Option LB)} {a0 : GripState} {y : Bool} (H : impl_IsGripState a0 = some y) (h0 : leLk ar [(.agg [(.v (.int .i64 a0.1)), (.v (.int .i64 a0.2.1)), (.v (.int .i64 a0.2.2.1)), (.v (.int .i64 a0.2.2.2.1))])] (leHk h [])) : impl_IsGripState.S ar h (impl_IsGripState.res a0 y) (impl_IsGripState.out a0 y) := ⟨a0, y, H, (args_ok h0).1, (args_ok h0).2, rfl, rfl⟩
set_option maxHeartbeats 100000000 in
set_option maxRecDepth 100000 in
theorem impl_IsGripState.spec (a0 : GripState) (y : Bool) (H : impl_IsGripState a0 = some y) : Spec Try.prog 71 [(.agg [(.v (.int .i64 a0.1)), (.v (.int .i64 a0.2.1)), (.v (.int .i64 a0.2.2.1)), (.v (.int .i64 a0.2.2.2.1))])] [] (impl_IsGripState.res a0 y) (impl_IsGripState.out a0 y) := by
  refine spec_intro (G10_ok.at tok []) (ct := [(3, none), (2, some [1, 34, 43, 44, 45, 53, 54, 55, 63, 64, 65]), (10, some [1])]) Try.func71 rfl (by kernel_rfl) (by kernel_rfl) rfl ?_
  repeat' first
    | (with_reducible exact (outm_no H).elim)
    | ((with_reducible refine eqg ?_); exact rfl)
    | ((with_reducible refine KOb.mk ?_); kernel_rfl)
    | ((with_reducible intro h); (repeat (first | replace H := grd_k H | replace H := out_step H (by assumption) | replace H := outm_out H)); first | replace H := cond_t h H | replace H := cond_f h H | exact absurd h (by decide) | skip)
    | ((with_reducible refine Ob.mk ?_); first | rfl | (repeat (first | exact grd_p H | replace H := grd_k H | replace H := out_step H (by assumption) | replace H := outm_out H)))
    | (with_reducible exact True.intro)
    | constructor
    | ((conv => whnf); first
        | ((with_reducible refine Ob.mk ?_); first | rfl | (repeat (first | exact grd_p H | replace H := grd_k H | replace H := out_step H (by assumption) | replace H := outm_out H)))
        | ((with_reducible refine CallW.mk ?_); (repeat (first | replace H := grd_k H | replace H := out_step H (by assumption) | replace H := outm_out H)); replace H := bind_some H; obtain ⟨y, hy, H⟩ := H; first | ((with_reducible have hz : impl_within _ _ _ = some y := hy); clear hz; refine Exists.intro _ (Exists.intro _ ⟨impl_within.call hy ?_, rfl, rfl, ?_⟩)))
        | ((with_reducible refine cutAt (id := 3) ?_); (repeat (first | replace H := grd_k H | replace H := out_step H (by assumption) | replace H := outm_out H)); first | (replace H := joinx_some H; rcases H with ⟨z, hz, H⟩ | H; rotate_left; with_reducible refine CutC.no ?_; rotate_right; (refine CutC.mk (id := 3) ⟨sl [(1, (.loc 0 0 0))], [some (.box 47 [(.v (.int .i64 a0.1)), (.v (.int .i64 a0.2.1)), (.v (.int .i64 a0.2.2.1)), (.v (.int .i64 a0.2.2.2.1))])]⟩ ?_ ?_; (replace H := hz))))
        | ((repeat (first | replace H := grd_k H | replace H := out_step H (by assumption) | replace H := outm_out H)); have H := Option.some.inj H; subst H; with_reducible refine sub_auto ?_)
        | ((repeat (first | replace H := grd_k H | replace H := out_step H (by assumption) | replace H := outm_out H)); have H := go_inj H; subst H; with_reducible refine sub_auto ?_)
        | ((repeat (first | replace H := grd_k H | replace H := out_step H (by assumption) | replace H := outm_out H)); exact (go_out H).elim)
        | ((with_reducible refine fin_mk ?_); (repeat (first | replace H := grd_k H | replace H := out_step H (by assumption) | replace H := outm_out H)); have H := Option.some.inj H; subst H))
def G11 : Env := G10.add 71 [] impl_IsGripState.S
theorem G11_ok : EnvOk Try.prog G11 := G10_ok.add ent_71 fun ar h r h1 ⟨a0, y, hy, e1, e2, e3, e4⟩ => by
  subst e3 e4; exact (impl_IsGripState.spec a0 y hy).le e1 e2
attribute [local irreducible] impl_IsGripState

noncomputable def impl_GripState_step (a0 : GripState) (a1 : GripStep) : Option (GripState × Bool) :=
  ((cond (decide (a1.1 = (2 : Int))) ((some (decide (a0.1 = (1 : Int))))) ((some false))).bind fun z1 => (joinx (cond (!decide (a1.2.1 = (0 : Int))) (cond (!z1) (outm ((some ((a0.1, a0.2.1, a0.2.2.1, a0.2.2.2.1, ()), false)))) (cond z1 ((impl_within a1.2.1 (1 : Int) (2000 : Int)).bind fun y2 => (cond (!y2) (outm ((some ((a0.1, a0.2.1, a0.2.2.1, a0.2.2.2.1, ()), false)))) ((some (.go z1))))) ((some (.go z1))))) (cond z1 ((impl_within a1.2.1 (1 : Int) (2000 : Int)).bind fun y3 => (cond (!y3) (outm ((some ((a0.1, a0.2.1, a0.2.2.1, a0.2.2.2.1, ()), false)))) ((some (.go z1))))) ((some (.go z1))))) (fun (z4 : Bool) => ((cond (decide (a1.1 = (1 : Int))) ((some (z4, (!decide (a0.1 = (4 : Int)))))) ((some (z4, false)))).bind fun z5 => (cond z5.2 (grd ((4 : Int) ≠ 0) ((impl_IsGripState (a0.1, (Int.tmod (w64 (a0.2.1 + (1 : Int))) (4 : Int)), a0.2.2.1, a0.2.2.2.1, ())).bind fun y6 => (some ((a0.1, (Int.tmod (w64 (a0.2.1 + (1 : Int))) (4 : Int)), a0.2.2.1, a0.2.2.2.1, ()), y6)))) ((cond (decide (a1.1 = (2 : Int))) (cond (decide (a0.2.1 = (1 : Int))) ((some (z5.1, (decide (a0.1 = (0 : Int)))))) ((some (z5.1, false)))) ((some (z5.1, false)))).bind fun z7 => (cond z7.2 ((impl_IsGripState ((1 : Int), a0.2.1, a0.2.2.1, a0.2.2.2.1, ())).bind fun y8 => (some (((1 : Int), a0.2.1, a0.2.2.1, a0.2.2.2.1, ()), y8))) ((cond z7.1 ((some (decide (a0.2.1 = (1 : Int))))) ((some false))).bind fun z9 => (cond z9 ((impl_IsGripState ((2 : Int), a0.2.1, a1.2.1, a0.2.2.2.1, ())).bind fun y10 => (some (((2 : Int), a0.2.1, a1.2.1, a0.2.2.2.1, ()), y10))) ((cond (decide (a1.1 = (3 : Int))) (cond (decide (a0.2.1 = (1 : Int))) ((some (decide (a0.1 = (2 : Int))))) (cond (decide (a0.2.1 = (3 : Int))) ((some (decide (a0.1 = (2 : Int))))) ((some false)))) ((some false))).bind fun z11 => (cond z11 ((impl_IsGripState ((3 : Int), a0.2.1, (0 : Int), a0.2.2.2.1, ())).bind fun y12 => (some (((3 : Int), a0.2.1, (0 : Int), a0.2.2.2.1, ()), y12))) ((cond (decide (a1.1 = (3 : Int))) (cond (decide (a0.2.1 = (1 : Int))) ((some (decide (a0.1 = (3 : Int))))) (cond (decide (a0.2.1 = (3 : Int))) ((some (decide (a0.1 = (3 : Int))))) ((some false)))) ((some false))).bind fun z13 => (cond z13 ((impl_IsGripState ((0 : Int), a0.2.1, a0.2.2.1, a0.2.2.2.1, ())).bind fun y14 => (some (((0 : Int), a0.2.1, a0.2.2.1, a0.2.2.2.1, ()), y14))) ((cond (decide (a1.1 = (4 : Int))) (cond (decide (a0.2.1 = (1 : Int))) (cond (decide (a0.1 = (2 : Int))) ((some (decide (a0.2.2.1 < (500 : Int))))) ((some false))) ((some false))) ((some false))).bind fun z15 => (cond z15 ((impl_IsGripState ((3 : Int), a0.2.1, (0 : Int), (if true = true then (if (3 : Int) < (w64 (a0.2.2.2.1 + (1 : Int))) then (3 : Int) else (w64 (a0.2.2.2.1 + (1 : Int)))) else (if (3 : Int) > (w64 (a0.2.2.2.1 + (1 : Int))) then (3 : Int) else (w64 (a0.2.2.2.1 + (1 : Int))))), ())).bind fun y16 => (some (((3 : Int), a0.2.1, (0 : Int), (if true = true then (if (3 : Int) < (w64 (a0.2.2.2.1 + (1 : Int))) then (3 : Int) else (w64 (a0.2.2.2.1 + (1 : Int)))) else (if (3 : Int) > (w64 (a0.2.2.2.1 + (1 : Int))) then (3 : Int) else (w64 (a0.2.2.2.1 + (1 : Int))))), ()), y16))) ((cond (decide (a1.1 = (4 : Int))) (cond (decide (a0.2.1 = (1 : Int))) ((some (decide (a0.1 = (2 : Int))))) ((some false))) ((some false))).bind fun z17 => (cond z17 ((impl_IsGripState (a0.1, a0.2.1, a0.2.2.1, (0 : Int), ())).bind fun y18 => (some ((a0.1, a0.2.1, a0.2.2.1, (0 : Int), ()), y18))) ((cond (decide (a1.1 = (5 : Int))) (cond (decide (a0.2.1 = (0 : Int))) (cond (decide (a0.1 = (0 : Int))) ((some (decide (a0.2.2.2.1 = (3 : Int))))) ((some false))) ((some false))) ((some false))).bind fun z19 => (cond z19 ((impl_IsGripState ((4 : Int), a0.2.1, a0.2.2.1, a0.2.2.2.1, ())).bind fun y20 => (some (((4 : Int), a0.2.1, a0.2.2.1, a0.2.2.2.1, ()), y20))) (cond (decide (a1.1 = (5 : Int))) (cond (decide (a0.1 = (4 : Int))) ((impl_IsGripState ((0 : Int), a0.2.1, a0.2.2.1, (0 : Int), ())).bind fun y21 => (some (((0 : Int), a0.2.1, a0.2.2.1, (0 : Int), ()), y21))) ((some ((a0.1, a0.2.1, a0.2.2.1, a0.2.2.2.1, ()), false)))) ((some ((a0.1, a0.2.1, a0.2.2.1, a0.2.2.2.1, ()), false)))))))))))))))))))))))
def impl_GripState_step.res (_ : GripState) (_ : GripStep) (y : GripState × Bool) : AV := (.tup [(.agg [(.v (.int .i64 y.1.1)), (.v (.int .i64 y.1.2.1)), (.v (.int .i64 y.1.2.2.1)), (.v (.int .i64 y.1.2.2.2.1))]), (.bl y.2)])
def impl_GripState_step.out (_ : GripState) (_ : GripStep) (_ : GripState × Bool) : List (Option LB) := []
def impl_GripState_step.S (ar : List AV) (h : List (Option LB)) (r : AV) (h1 : List (Option LB)) : Prop := ∃ a0 a1 y, impl_GripState_step a0 a1 = some y ∧ leL ar [(.agg [(.v (.int .i64 a0.1)), (.v (.int .i64 a0.2.1)), (.v (.int .i64 a0.2.2.1)), (.v (.int .i64 a0.2.2.2.1))]), (.agg [(.v (.int .i64 a1.1)), (.v (.int .i64 a1.2.1))])] ∧ leH h [] ∧ r = impl_GripState_step.res a0 a1 y ∧ h1 = impl_GripState_step.out a0 a1 y
theorem impl_GripState_step.call {ar : List AV} {h : List (Option LB)} {a0 : GripState} {a1 : GripStep} {y : GripState × Bool} (H : impl_GripState_step a0 a1 = some y) (h0 : leLk ar [(.agg [(.v (.int .i64 a0.1)), (.v (.int .i64 a0.2.1)), (.v (.int .i64 a0.2.2.1)), (.v (.int .i64 a0.2.2.2.1))]), (.agg [(.v (.int .i64 a1.1)), (.v (.int .i64 a1.2.1))])] (leHk h [])) : impl_GripState_step.S ar h (impl_GripState_step.res a0 a1 y) (impl_GripState_step.out a0 a1 y) := ⟨a0, a1, y, H, (args_ok h0).1, (args_ok h0).2, rfl, rfl⟩
set_option maxHeartbeats 100000000 in
set_option maxRecDepth 100000 in
theorem impl_GripState_step.spec (a0 : GripState) (a1 : GripStep) (y : GripState × Bool) (H : impl_GripState_step a0 a1 = some y) : Spec Try.prog 98 [(.agg [(.v (.int .i64 a0.1)), (.v (.int .i64 a0.2.1)), (.v (.int .i64 a0.2.2.1)), (.v (.int .i64 a0.2.2.2.1))]), (.agg [(.v (.int .i64 a1.1)), (.v (.int .i64 a1.2.1))])] [] (impl_GripState_step.res a0 a1 y) (impl_GripState_step.out a0 a1 y) := by
  refine spec_intro (G11_ok.at tok []) (ct := [(2, none), (4, none), (7, none), (9, none), (11, none), (13, none), (15, none), (17, none), (19, none), (21, none), (3, some [2, 3, 4, 6, 31, 42, 43, 44, 56, 59, 60, 61, 67, 78, 79, 80, 81, 82, 83, 86, 87, 88, 97, 98, 99, 100, 101, 102, 105, 106, 107, 115, 118, 119, 120, 123, 124, 125, 139, 142, 143, 144, 152, 153, 154, 157, 158, 159, 162, 163, 164, 172, 173, 174])]) Try.func98 rfl (by kernel_rfl) (by kernel_rfl) rfl ?_
  repeat' first
    | (with_reducible exact (outm_no H).elim)
    | ((with_reducible refine eqg ?_); exact rfl)
    | ((with_reducible refine KOb.mk ?_); kernel_rfl)
    | ((with_reducible intro h); (repeat (first | replace H := grd_k H | replace H := out_step H (by assumption) | replace H := outm_out H)); first | replace H := cond_t h H | replace H := cond_f h H | exact absurd h (by decide) | skip)
    | ((with_reducible refine Ob.mk ?_); first | rfl | (repeat (first | exact grd_p H | replace H := grd_k H | replace H := out_step H (by assumption) | replace H := outm_out H)))
    | (with_reducible exact True.intro)
    | constructor
    | ((conv => whnf); first
        | ((with_reducible refine Ob.mk ?_); first | rfl | (repeat (first | exact grd_p H | replace H := grd_k H | replace H := out_step H (by assumption) | replace H := outm_out H)))
        | ((with_reducible refine CallW.mk ?_); (repeat (first | replace H := grd_k H | replace H := out_step H (by assumption) | replace H := outm_out H)); replace H := bind_some H; obtain ⟨y, hy, H⟩ := H; first | ((with_reducible have hz : impl_within _ _ _ = some y := hy); clear hz; refine Exists.intro _ (Exists.intro _ ⟨impl_within.call hy ?_, rfl, rfl, ?_⟩)) | ((with_reducible have hz : impl_IsGripState _ = some y := hy); clear hz; refine Exists.intro _ (Exists.intro _ ⟨impl_IsGripState.call hy ?_, rfl, rfl, ?_⟩)))
        | ((with_reducible refine cutAt (id := 2) ?_); (repeat (first | replace H := grd_k H | replace H := out_step H (by assumption) | replace H := outm_out H)); first | (replace H := bind_some H; obtain ⟨z, hz, H⟩ := H; refine CutC.mk (id := 2) ⟨sl [(2, (.loc 0 0 0)), (3, (.loc 1 0 0)), (4, (.loc 2 0 0)), (6, (.bl z))], [some (.box 47 [(.v (.int .i64 a0.1)), (.v (.int .i64 a0.2.1)), (.v (.int .i64 a0.2.2.1)), (.v (.int .i64 a0.2.2.2.1))]), some (.box 51 [(.v (.int .i64 a1.1)), (.v (.int .i64 a1.2.1))]), some (.box 47 [(.v (.int .i64 (0 : Int))), (.v (.int .i64 (0 : Int))), (.v (.int .i64 (0 : Int))), (.v (.int .i64 (0 : Int)))])]⟩ ?_ ?_; (replace H := hz)))
        | ((with_reducible refine cutAt (id := 4) ?_); (repeat (first | replace H := grd_k H | replace H := out_step H (by assumption) | replace H := outm_out H)); first | (replace H := joinx_some H; rcases H with ⟨z, hz, H⟩ | H; rotate_left; with_reducible refine CutC.no ?_; rotate_right; (refine CutC.mk (id := 4) ⟨sl [(2, (.loc 0 0 0)), (3, (.loc 1 0 0)), (4, (.loc 2 0 0)), (6, (.bl z))], [some (.box 47 [(.v (.int .i64 a0.1)), (.v (.int .i64 a0.2.1)), (.v (.int .i64 a0.2.2.1)), (.v (.int .i64 a0.2.2.2.1))]), some (.box 51 [(.v (.int .i64 a1.1)), (.v (.int .i64 a1.2.1))]), some (.box 47 [(.v (.int .i64 (0 : Int))), (.v (.int .i64 (0 : Int))), (.v (.int .i64 (0 : Int))), (.v (.int .i64 (0 : Int)))])]⟩ ?_ ?_; (replace H := hz))))
        | ((with_reducible refine cutAt (id := 7) ?_); (repeat (first | replace H := grd_k H | replace H := out_step H (by assumption) | replace H := outm_out H)); first | (replace H := bind_some H; obtain ⟨z, hz, H⟩ := H; refine CutC.mk (id := 7) ⟨sl [(2, (.loc 0 0 0)), (3, (.loc 1 0 0)), (4, (.loc 2 0 0)), (6, (.bl z.1)), (7, (.bl (decide (a0.2.1 = (1 : Int))))), (37, (.bl z.2))], [some (.box 47 [(.v (.int .i64 a0.1)), (.v (.int .i64 a0.2.1)), (.v (.int .i64 a0.2.2.1)), (.v (.int .i64 a0.2.2.2.1))]), some (.box 51 [(.v (.int .i64 a1.1)), (.v (.int .i64 a1.2.1))]), some (.box 47 [(.v (.int .i64 (0 : Int))), (.v (.int .i64 (0 : Int))), (.v (.int .i64 (0 : Int))), (.v (.int .i64 (0 : Int)))])]⟩ ?_ ?_; (replace H := hz)))
        | ((with_reducible refine cutAt (id := 9) ?_); (repeat (first | replace H := grd_k H | replace H := out_step H (by assumption) | replace H := outm_out H)); first | (replace H := bind_some H; obtain ⟨z, hz, H⟩ := H; refine CutC.mk (id := 9) ⟨sl [(2, (.loc 0 0 0)), (3, (.loc 1 0 0)), (4, (.loc 2 0 0)), (6, (.bl z.1)), (7, (.bl (decide (a0.2.1 = (1 : Int))))), (51, (.bl z.2))], [some (.box 47 [(.v (.int .i64 a0.1)), (.v (.int .i64 a0.2.1)), (.v (.int .i64 a0.2.2.1)), (.v (.int .i64 a0.2.2.2.1))]), some (.box 51 [(.v (.int .i64 a1.1)), (.v (.int .i64 a1.2.1))]), some (.box 47 [(.v (.int .i64 (0 : Int))), (.v (.int .i64 (0 : Int))), (.v (.int .i64 (0 : Int))), (.v (.int .i64 (0 : Int)))])]⟩ ?_ ?_; (replace H := hz)))
        | ((with_reducible refine cutAt (id := 11) ?_); (repeat (first | replace H := grd_k H | replace H := out_step H (by assumption) | replace H := outm_out H)); first | (replace H := bind_some H; obtain ⟨z, hz, H⟩ := H; refine CutC.mk (id := 11) ⟨sl [(2, (.loc 0 0 0)), (3, (.loc 1 0 0)), (4, (.loc 2 0 0)), (7, (.bl (decide (a0.2.1 = (1 : Int))))), (64, (.bl z))], [some (.box 47 [(.v (.int .i64 a0.1)), (.v (.int .i64 a0.2.1)), (.v (.int .i64 a0.2.2.1)), (.v (.int .i64 a0.2.2.2.1))]), some (.box 51 [(.v (.int .i64 a1.1)), (.v (.int .i64 a1.2.1))]), some (.box 47 [(.v (.int .i64 (0 : Int))), (.v (.int .i64 (0 : Int))), (.v (.int .i64 (0 : Int))), (.v (.int .i64 (0 : Int)))])]⟩ ?_ ?_; (replace H := hz)))
        | ((with_reducible refine cutAt (id := 13) ?_); (repeat (first | replace H := grd_k H | replace H := out_step H (by assumption) | replace H := outm_out H)); first | (replace H := bind_some H; obtain ⟨z, hz, H⟩ := H; refine CutC.mk (id := 13) ⟨sl [(2, (.loc 0 0 0)), (3, (.loc 1 0 0)), (4, (.loc 2 0 0)), (7, (.bl (decide (a0.2.1 = (1 : Int))))), (73, (.bl z))], [some (.box 47 [(.v (.int .i64 a0.1)), (.v (.int .i64 a0.2.1)), (.v (.int .i64 a0.2.2.1)), (.v (.int .i64 a0.2.2.2.1))]), some (.box 51 [(.v (.int .i64 a1.1)), (.v (.int .i64 a1.2.1))]), some (.box 47 [(.v (.int .i64 (0 : Int))), (.v (.int .i64 (0 : Int))), (.v (.int .i64 (0 : Int))), (.v (.int .i64 (0 : Int)))])]⟩ ?_ ?_; (replace H := hz)))
        | ((with_reducible refine cutAt (id := 15) ?_); (repeat (first | replace H := grd_k H | replace H := out_step H (by assumption) | replace H := outm_out H)); first | (replace H := bind_some H; obtain ⟨z, hz, H⟩ := H; refine CutC.mk (id := 15) ⟨sl [(2, (.loc 0 0 0)), (3, (.loc 1 0 0)), (4, (.loc 2 0 0)), (7, (.bl (decide (a0.2.1 = (1 : Int))))), (92, (.bl z))], [some (.box 47 [(.v (.int .i64 a0.1)), (.v (.int .i64 a0.2.1)), (.v (.int .i64 a0.2.2.1)), (.v (.int .i64 a0.2.2.2.1))]), some (.box 51 [(.v (.int .i64 a1.1)), (.v (.int .i64 a1.2.1))]), some (.box 47 [(.v (.int .i64 (0 : Int))), (.v (.int .i64 (0 : Int))), (.v (.int .i64 (0 : Int))), (.v (.int .i64 (0 : Int)))])]⟩ ?_ ?_; (replace H := hz)))
        | ((with_reducible refine cutAt (id := 17) ?_); (repeat (first | replace H := grd_k H | replace H := out_step H (by assumption) | replace H := outm_out H)); first | (replace H := bind_some H; obtain ⟨z, hz, H⟩ := H; refine CutC.mk (id := 17) ⟨sl [(2, (.loc 0 0 0)), (3, (.loc 1 0 0)), (4, (.loc 2 0 0)), (7, (.bl (decide (a0.2.1 = (1 : Int))))), (110, (.bl z))], [some (.box 47 [(.v (.int .i64 a0.1)), (.v (.int .i64 a0.2.1)), (.v (.int .i64 a0.2.2.1)), (.v (.int .i64 a0.2.2.2.1))]), some (.box 51 [(.v (.int .i64 a1.1)), (.v (.int .i64 a1.2.1))]), some (.box 47 [(.v (.int .i64 (0 : Int))), (.v (.int .i64 (0 : Int))), (.v (.int .i64 (0 : Int))), (.v (.int .i64 (0 : Int)))])]⟩ ?_ ?_; (replace H := hz)))
        | ((with_reducible refine cutAt (id := 19) ?_); (repeat (first | replace H := grd_k H | replace H := out_step H (by assumption) | replace H := outm_out H)); first | (replace H := bind_some H; obtain ⟨z, hz, H⟩ := H; refine CutC.mk (id := 19) ⟨sl [(2, (.loc 0 0 0)), (3, (.loc 1 0 0)), (4, (.loc 2 0 0)), (134, (.bl z))], [some (.box 47 [(.v (.int .i64 a0.1)), (.v (.int .i64 a0.2.1)), (.v (.int .i64 a0.2.2.1)), (.v (.int .i64 a0.2.2.2.1))]), some (.box 51 [(.v (.int .i64 a1.1)), (.v (.int .i64 a1.2.1))]), some (.box 47 [(.v (.int .i64 (0 : Int))), (.v (.int .i64 (0 : Int))), (.v (.int .i64 (0 : Int))), (.v (.int .i64 (0 : Int)))])]⟩ ?_ ?_; (replace H := hz)))
        | ((with_reducible refine cutAt (id := 21) ?_); (repeat (first | replace H := grd_k H | replace H := out_step H (by assumption) | replace H := outm_out H)); first | (replace H := bind_some H; obtain ⟨z, hz, H⟩ := H; refine CutC.mk (id := 21) ⟨sl [(2, (.loc 0 0 0)), (3, (.loc 1 0 0)), (4, (.loc 2 0 0)), (147, (.bl z))], [some (.box 47 [(.v (.int .i64 a0.1)), (.v (.int .i64 a0.2.1)), (.v (.int .i64 a0.2.2.1)), (.v (.int .i64 a0.2.2.2.1))]), some (.box 51 [(.v (.int .i64 a1.1)), (.v (.int .i64 a1.2.1))]), some (.box 47 [(.v (.int .i64 (0 : Int))), (.v (.int .i64 (0 : Int))), (.v (.int .i64 (0 : Int))), (.v (.int .i64 (0 : Int)))])]⟩ ?_ ?_; (replace H := hz)))
        | ((repeat (first | replace H := grd_k H | replace H := out_step H (by assumption) | replace H := outm_out H)); have H := Option.some.inj H; subst H; with_reducible refine sub_auto ?_)
        | ((repeat (first | replace H := grd_k H | replace H := out_step H (by assumption) | replace H := outm_out H)); have H := go_inj H; subst H; with_reducible refine sub_auto ?_)
        | ((repeat (first | replace H := grd_k H | replace H := out_step H (by assumption) | replace H := outm_out H)); exact (go_out H).elim)
        | ((with_reducible refine fin_mk ?_); (repeat (first | replace H := grd_k H | replace H := out_step H (by assumption) | replace H := outm_out H)); have H := Option.some.inj H; subst H))
def G12 : Env := G11.add 98 [] impl_GripState_step.S
theorem G12_ok : EnvOk Try.prog G12 := G11_ok.add ent_98 fun ar h r h1 ⟨a0, a1, y, hy, e1, e2, e3, e4⟩ => by
  subst e3 e4; exact (impl_GripState_step.spec a0 a1 y hy).le e1 e2
attribute [local irreducible] impl_GripState_step

noncomputable def impl_StepGrip (a0 : GripState) (a1 : GripStep) : Option (GripState × Bool) :=
  ((impl_IsGripState (a0.1, a0.2.1, a0.2.2.1, a0.2.2.2.1, ())).bind fun y1 => (cond (!y1) ((some (((0 : Int), (0 : Int), (0 : Int), (0 : Int), ()), false))) ((impl_GripState_step (a0.1, a0.2.1, a0.2.2.1, a0.2.2.2.1, ()) (a1.1, a1.2.1, ())).bind fun y2 => (cond (!y2.2) ((some (((0 : Int), (0 : Int), (0 : Int), (0 : Int), ()), false))) ((some ((y2.1.1, y2.1.2.1, y2.1.2.2.1, y2.1.2.2.2.1, ()), true)))))))
def impl_StepGrip.res (_ : GripState) (_ : GripStep) (y : GripState × Bool) : AV := (.tup [(.agg [(.v (.int .i64 y.1.1)), (.v (.int .i64 y.1.2.1)), (.v (.int .i64 y.1.2.2.1)), (.v (.int .i64 y.1.2.2.2.1))]), (.bl y.2)])
def impl_StepGrip.out (_ : GripState) (_ : GripStep) (_ : GripState × Bool) : List (Option LB) := []
def impl_StepGrip.S (ar : List AV) (h : List (Option LB)) (r : AV) (h1 : List (Option LB)) : Prop := ∃ a0 a1 y, impl_StepGrip a0 a1 = some y ∧ leL ar [(.agg [(.v (.int .i64 a0.1)), (.v (.int .i64 a0.2.1)), (.v (.int .i64 a0.2.2.1)), (.v (.int .i64 a0.2.2.2.1))]), (.agg [(.v (.int .i64 a1.1)), (.v (.int .i64 a1.2.1))])] ∧ leH h [] ∧ r = impl_StepGrip.res a0 a1 y ∧ h1 = impl_StepGrip.out a0 a1 y
theorem impl_StepGrip.call {ar : List AV} {h : List (Option LB)} {a0 : GripState} {a1 : GripStep} {y : GripState × Bool} (H : impl_StepGrip a0 a1 = some y) (h0 : leLk ar [(.agg [(.v (.int .i64 a0.1)), (.v (.int .i64 a0.2.1)), (.v (.int .i64 a0.2.2.1)), (.v (.int .i64 a0.2.2.2.1))]), (.agg [(.v (.int .i64 a1.1)), (.v (.int .i64 a1.2.1))])] (leHk h [])) : impl_StepGrip.S ar h (impl_StepGrip.res a0 a1 y) (impl_StepGrip.out a0 a1 y) := ⟨a0, a1, y, H, (args_ok h0).1, (args_ok h0).2, rfl, rfl⟩
set_option maxHeartbeats 100000000 in
set_option maxRecDepth 100000 in
theorem impl_StepGrip.spec (a0 : GripState) (a1 : GripStep) (y : GripState × Bool) (H : impl_StepGrip a0 a1 = some y) : Spec Try.prog 31 [(.agg [(.v (.int .i64 a0.1)), (.v (.int .i64 a0.2.1)), (.v (.int .i64 a0.2.2.1)), (.v (.int .i64 a0.2.2.2.1))]), (.agg [(.v (.int .i64 a1.1)), (.v (.int .i64 a1.2.1))])] [] (impl_StepGrip.res a0 a1 y) (impl_StepGrip.out a0 a1 y) := by
  refine spec_intro (G12_ok.at tok []) (ct := [(4, some [4, 6, 7])]) Try.func31 rfl (by kernel_rfl) (by kernel_rfl) rfl ?_
  repeat' first
    | ((with_reducible refine eqg ?_); exact rfl)
    | ((with_reducible refine KOb.mk ?_); kernel_rfl)
    | ((with_reducible intro h); (repeat (first | replace H := grd_k H | replace H := out_step H (by assumption))); first | replace H := cond_t h H | replace H := cond_f h H | exact absurd h (by decide) | skip)
    | ((with_reducible refine Ob.mk ?_); first | rfl | (repeat (first | exact grd_p H | replace H := grd_k H | replace H := out_step H (by assumption))))
    | (with_reducible exact True.intro)
    | constructor
    | ((conv => whnf); first
        | ((with_reducible refine Ob.mk ?_); first | rfl | (repeat (first | exact grd_p H | replace H := grd_k H | replace H := out_step H (by assumption))))
        | ((with_reducible refine CallW.mk ?_); (repeat (first | replace H := grd_k H | replace H := out_step H (by assumption))); replace H := bind_some H; obtain ⟨y, hy, H⟩ := H; first | ((with_reducible have hz : impl_IsGripState _ = some y := hy); clear hz; refine Exists.intro _ (Exists.intro _ ⟨impl_IsGripState.call hy ?_, rfl, rfl, ?_⟩)) | ((with_reducible have hz : impl_GripState_step _ _ = some y := hy); clear hz; refine Exists.intro _ (Exists.intro _ ⟨impl_GripState_step.call hy ?_, rfl, rfl, ?_⟩)))
        | ((with_reducible refine fin_mk ?_); (repeat (first | replace H := grd_k H | replace H := out_step H (by assumption))); have H := Option.some.inj H; subst H))
def G13 : Env := G12.add 31 [] impl_StepGrip.S
theorem G13_ok : EnvOk Try.prog G13 := G12_ok.add ent_31 fun ar h r h1 ⟨a0, a1, y, hy, e1, e2, e3, e4⟩ => by
  subst e3 e4; exact (impl_StepGrip.spec a0 a1 y hy).le e1 e2
attribute [local irreducible] impl_StepGrip

noncomputable def laws_eqGripState (a0 : GripState) (a1 : GripState) : Option (Bool) :=
  (cond (!decide (a0.1 = a1.1)) ((some false)) (cond (!decide (a0.2.1 = a1.2.1)) ((some false)) (cond (!decide (a0.2.2.1 = a1.2.2.1)) ((some false)) (cond (!decide (a0.2.2.2.1 = a1.2.2.2.1)) ((some false)) ((some true))))))
def laws_eqGripState.res (_ : GripState) (_ : GripState) (y : Bool) : AV := (.bl y)
def laws_eqGripState.out (_ : GripState) (_ : GripState) (_ : Bool) : List (Option LB) := []
def laws_eqGripState.S (ar : List AV) (h : List (Option LB)) (r : AV) (h1 : List (Option LB)) : Prop := ∃ a0 a1 y, laws_eqGripState a0 a1 = some y ∧ leL ar [(.agg [(.v (.int .i64 a0.1)), (.v (.int .i64 a0.2.1)), (.v (.int .i64 a0.2.2.1)), (.v (.int .i64 a0.2.2.2.1))]), (.agg [(.v (.int .i64 a1.1)), (.v (.int .i64 a1.2.1)), (.v (.int .i64 a1.2.2.1)), (.v (.int .i64 a1.2.2.2.1))])] ∧ leH h [] ∧ r = laws_eqGripState.res a0 a1 y ∧ h1 = laws_eqGripState.out a0 a1 y
theorem laws_eqGripState.call {ar : List AV} {h : List (Option LB)} {a0 : GripState} {a1 : GripState} {y : Bool} (H : laws_eqGripState a0 a1 = some y) (h0 : leLk ar [(.agg [(.v (.int .i64 a0.1)), (.v (.int .i64 a0.2.1)), (.v (.int .i64 a0.2.2.1)), (.v (.int .i64 a0.2.2.2.1))]), (.agg [(.v (.int .i64 a1.1)), (.v (.int .i64 a1.2.1)), (.v (.int .i64 a1.2.2.1)), (.v (.int .i64 a1.2.2.2.1))])] (leHk h [])) : laws_eqGripState.S ar h (laws_eqGripState.res a0 a1 y) (laws_eqGripState.out a0 a1 y) := ⟨a0, a1, y, H, (args_ok h0).1, (args_ok h0).2, rfl, rfl⟩
set_option maxHeartbeats 100000000 in
set_option maxRecDepth 100000 in
theorem laws_eqGripState.spec (a0 : GripState) (a1 : GripState) (y : Bool) (H : laws_eqGripState a0 a1 = some y) : Spec Try.prog 32 [(.agg [(.v (.int .i64 a0.1)), (.v (.int .i64 a0.2.1)), (.v (.int .i64 a0.2.2.1)), (.v (.int .i64 a0.2.2.2.1))]), (.agg [(.v (.int .i64 a1.1)), (.v (.int .i64 a1.2.1)), (.v (.int .i64 a1.2.2.1)), (.v (.int .i64 a1.2.2.2.1))])] [] (laws_eqGripState.res a0 a1 y) (laws_eqGripState.out a0 a1 y) := by
  refine spec_intro (G13_ok.at tok []) (ct := [(4, some [2, 3, 14])]) Try.func32 rfl (by kernel_rfl) (by kernel_rfl) rfl ?_
  repeat' first
    | ((with_reducible refine eqg ?_); exact rfl)
    | ((with_reducible refine KOb.mk ?_); kernel_rfl)
    | ((with_reducible intro h); (repeat (first | replace H := grd_k H | replace H := out_step H (by assumption))); first | replace H := cond_t h H | replace H := cond_f h H | exact absurd h (by decide) | skip)
    | ((with_reducible refine Ob.mk ?_); first | rfl | (repeat (first | exact grd_p H | replace H := grd_k H | replace H := out_step H (by assumption))))
    | (with_reducible exact True.intro)
    | constructor
    | ((conv => whnf); first
        | ((with_reducible refine Ob.mk ?_); first | rfl | (repeat (first | exact grd_p H | replace H := grd_k H | replace H := out_step H (by assumption))))
        | ((with_reducible refine fin_mk ?_); (repeat (first | replace H := grd_k H | replace H := out_step H (by assumption))); have H := Option.some.inj H; subst H))
def G14 : Env := G13.add 32 [] laws_eqGripState.S
theorem G14_ok : EnvOk Try.prog G14 := G13_ok.add ent_32 fun ar h r h1 ⟨a0, a1, y, hy, e1, e2, e3, e4⟩ => by
  subst e3 e4; exact (laws_eqGripState.spec a0 a1 y hy).le e1 e2
attribute [local irreducible] laws_eqGripState

noncomputable def laws_FnExactStepGrip (a0 : GripState) (a1 : GripStep) : Option (Bool) :=
  (((laws_toGripState (a0.1, a0.2.1, a0.2.2.1, a0.2.2.2.1, ())).bind fun y1 => ((laws_toGripStep (a1.1, a1.2.1, ())).bind fun y2 => ((spec_StepGrip (y1.1, y1.2.1, y1.2.2.1, y1.2.2.2.1, ()) (y2.1, y2.2.1, ())).bind fun y3 => (some ((Tg.mk : Tg 1), y3.2, y3.1.1, y3.1.2.1, y3.1.2.2.1, y3.1.2.2.2.1))))).bind fun z4 => (((laws_toGripState (a0.1, a0.2.1, a0.2.2.1, a0.2.2.2.1, ())).bind fun y5 => ((laws_toGripStep (a1.1, a1.2.1, ())).bind fun y6 => ((impl_StepGrip (y5.1, y5.2.1, y5.2.2.1, y5.2.2.2.1, ()) (y6.1, y6.2.1, ())).bind fun y7 => (some ((Tg.mk : Tg 2), z4.2.1, y7.2, z4.2.2.1, z4.2.2.2.1, z4.2.2.2.2.1, z4.2.2.2.2.2, y7.1.1, y7.1.2.1, y7.1.2.2.1, y7.1.2.2.2.1))))).bind fun z8 => ((laws_eqGripState (z8.2.2.2.2.2.2.2.1, z8.2.2.2.2.2.2.2.2.1, z8.2.2.2.2.2.2.2.2.2.1, z8.2.2.2.2.2.2.2.2.2.2, ()) (z8.2.2.2.1, z8.2.2.2.2.1, z8.2.2.2.2.2.1, z8.2.2.2.2.2.2.1, ())).bind fun y9 => (cond (!y9) ((some false)) (cond (!(z8.2.2.1 == z8.2.1)) ((some false)) ((some true)))))))
def laws_FnExactStepGrip.res (_ : GripState) (_ : GripStep) (y : Bool) : AV := (.bl y)
def laws_FnExactStepGrip.out (_ : GripState) (_ : GripStep) (_ : Bool) : List (Option LB) := []
def laws_FnExactStepGrip.S (ar : List AV) (h : List (Option LB)) (r : AV) (h1 : List (Option LB)) : Prop := ∃ a0 a1 y, laws_FnExactStepGrip a0 a1 = some y ∧ leL ar [(.agg [(.v (.int .i64 a0.1)), (.v (.int .i64 a0.2.1)), (.v (.int .i64 a0.2.2.1)), (.v (.int .i64 a0.2.2.2.1))]), (.agg [(.v (.int .i64 a1.1)), (.v (.int .i64 a1.2.1))])] ∧ leH h [] ∧ r = laws_FnExactStepGrip.res a0 a1 y ∧ h1 = laws_FnExactStepGrip.out a0 a1 y
theorem laws_FnExactStepGrip.call {ar : List AV} {h : List (Option LB)} {a0 : GripState} {a1 : GripStep} {y : Bool} (H : laws_FnExactStepGrip a0 a1 = some y) (h0 : leLk ar [(.agg [(.v (.int .i64 a0.1)), (.v (.int .i64 a0.2.1)), (.v (.int .i64 a0.2.2.1)), (.v (.int .i64 a0.2.2.2.1))]), (.agg [(.v (.int .i64 a1.1)), (.v (.int .i64 a1.2.1))])] (leHk h [])) : laws_FnExactStepGrip.S ar h (laws_FnExactStepGrip.res a0 a1 y) (laws_FnExactStepGrip.out a0 a1 y) := ⟨a0, a1, y, H, (args_ok h0).1, (args_ok h0).2, rfl, rfl⟩
set_option maxHeartbeats 100000000 in
set_option maxRecDepth 100000 in
theorem laws_FnExactStepGrip.spec (a0 : GripState) (a1 : GripStep) (y : Bool) (H : laws_FnExactStepGrip a0 a1 = some y) : Spec Try.prog 6 [(.agg [(.v (.int .i64 a0.1)), (.v (.int .i64 a0.2.1)), (.v (.int .i64 a0.2.2.1)), (.v (.int .i64 a0.2.2.2.1))]), (.agg [(.v (.int .i64 a1.1)), (.v (.int .i64 a1.2.1))])] [] (laws_FnExactStepGrip.res a0 a1 y) (laws_FnExactStepGrip.out a0 a1 y) := by
  refine spec_intro (G14_ok.at tok []) (ct := [(2, none), (3, none)]) Try.func6 rfl (by kernel_rfl) (by kernel_rfl) rfl ?_
  repeat' first
    | ((with_reducible refine eqg ?_); exact rfl)
    | ((with_reducible refine KOb.mk ?_); kernel_rfl)
    | ((with_reducible intro h); (repeat (first | replace H := grd_k H | replace H := out_step H (by assumption))); first | replace H := cond_t h H | replace H := cond_f h H | exact absurd h (by decide) | skip)
    | ((with_reducible refine Ob.mk ?_); first | rfl | (repeat (first | exact grd_p H | replace H := grd_k H | replace H := out_step H (by assumption))))
    | (with_reducible exact True.intro)
    | constructor
    | ((conv => whnf); first
        | ((with_reducible refine Ob.mk ?_); first | rfl | (repeat (first | exact grd_p H | replace H := grd_k H | replace H := out_step H (by assumption))))
        | ((with_reducible refine CallW.mk ?_); (repeat (first | replace H := grd_k H | replace H := out_step H (by assumption))); replace H := bind_some H; obtain ⟨y, hy, H⟩ := H; first | ((with_reducible have hz : laws_toGripState _ = some y := hy); clear hz; refine Exists.intro _ (Exists.intro _ ⟨laws_toGripState.call hy ?_, rfl, rfl, ?_⟩)) | ((with_reducible have hz : laws_toGripStep _ = some y := hy); clear hz; refine Exists.intro _ (Exists.intro _ ⟨laws_toGripStep.call hy ?_, rfl, rfl, ?_⟩)) | ((with_reducible have hz : spec_StepGrip _ _ = some y := hy); clear hz; refine Exists.intro _ (Exists.intro _ ⟨spec_StepGrip.call hy ?_, rfl, rfl, ?_⟩)) | ((with_reducible have hz : impl_StepGrip _ _ = some y := hy); clear hz; refine Exists.intro _ (Exists.intro _ ⟨impl_StepGrip.call hy ?_, rfl, rfl, ?_⟩)) | ((with_reducible have hz : laws_eqGripState _ _ = some y := hy); clear hz; refine Exists.intro _ (Exists.intro _ ⟨laws_eqGripState.call hy ?_, rfl, rfl, ?_⟩)))
        | ((with_reducible refine cutAt (id := 2) ?_); (repeat (first | replace H := grd_k H | replace H := out_step H (by assumption))); first | (replace H := bind_some H; obtain ⟨z, hz, H⟩ := H; have hT : Tg 1 × Bool × Int × Int × Int × Int := z; clear hT; refine CutC.mk (id := 2) ⟨sl [(2, (.loc 0 0 0)), (3, (.loc 1 0 0)), (5, (.loc 2 0 0)), (6, (.bl z.2.1))], [some (.box 44 [(.v (.int .i64 a0.1)), (.v (.int .i64 a0.2.1)), (.v (.int .i64 a0.2.2.1)), (.v (.int .i64 a0.2.2.2.1))]), some (.box 46 [(.v (.int .i64 a1.1)), (.v (.int .i64 a1.2.1))]), some (.box 47 [(.v (.int .i64 z.2.2.1)), (.v (.int .i64 z.2.2.2.1)), (.v (.int .i64 z.2.2.2.2.1)), (.v (.int .i64 z.2.2.2.2.2))])]⟩ ?_ ?_; (replace H := hz)))
        | ((with_reducible refine cutAt (id := 3) ?_); (repeat (first | replace H := grd_k H | replace H := out_step H (by assumption))); first | (replace H := bind_some H; obtain ⟨z, hz, H⟩ := H; have hT : Tg 2 × Bool × Bool × Int × Int × Int × Int × Int × Int × Int × Int := z; clear hT; refine CutC.mk (id := 3) ⟨sl [(5, (.loc 0 0 0)), (6, (.bl z.2.1)), (7, (.loc 1 0 0)), (8, (.bl z.2.2.1))], [some (.box 47 [(.v (.int .i64 z.2.2.2.1)), (.v (.int .i64 z.2.2.2.2.1)), (.v (.int .i64 z.2.2.2.2.2.1)), (.v (.int .i64 z.2.2.2.2.2.2.1))]), some (.box 47 [(.v (.int .i64 z.2.2.2.2.2.2.2.1)), (.v (.int .i64 z.2.2.2.2.2.2.2.2.1)), (.v (.int .i64 z.2.2.2.2.2.2.2.2.2.1)), (.v (.int .i64 z.2.2.2.2.2.2.2.2.2.2))])]⟩ ?_ ?_; (replace H := hz)))
        | ((repeat (first | replace H := grd_k H | replace H := out_step H (by assumption))); have H := Option.some.inj H; subst H; with_reducible refine sub_auto ?_)
        | ((with_reducible refine fin_mk ?_); (repeat (first | replace H := grd_k H | replace H := out_step H (by assumption))); have H := Option.some.inj H; subst H))
def G15 : Env := G14.add 6 [] laws_FnExactStepGrip.S
theorem G15_ok : EnvOk Try.prog G15 := G14_ok.add ent_6 fun ar h r h1 ⟨a0, a1, y, hy, e1, e2, e3, e4⟩ => by
  subst e3 e4; exact (laws_FnExactStepGrip.spec a0 a1 y hy).le e1 e2
attribute [local irreducible] laws_FnExactStepGrip

noncomputable def spec_l21Try (a0 : GripState) (a1 : Int) : Option (GripStep) :=
  (cond (decide (a1 = (2 : Int))) (cond (decide (a0.1 = (1 : Int))) ((some (a1, (2000 : Int), ()))) ((some (a1, (0 : Int), ())))) ((some (a1, (0 : Int), ()))))
def spec_l21Try.res (_ : GripState) (_ : Int) (y : GripStep) : AV := (.agg [(.v (.int .i64 y.1)), (.v (.int .i64 y.2.1))])
def spec_l21Try.out (_ : GripState) (_ : Int) (_ : GripStep) : List (Option LB) := []
def spec_l21Try.S (ar : List AV) (h : List (Option LB)) (r : AV) (h1 : List (Option LB)) : Prop := ∃ a0 a1 y, spec_l21Try a0 a1 = some y ∧ leL ar [(.agg [(.v (.int .i64 a0.1)), (.v (.int .i64 a0.2.1)), (.v (.int .i64 a0.2.2.1)), (.v (.int .i64 a0.2.2.2.1))]), (.v (.int .i64 a1))] ∧ leH h [] ∧ r = spec_l21Try.res a0 a1 y ∧ h1 = spec_l21Try.out a0 a1 y
theorem spec_l21Try.call {ar : List AV} {h : List (Option LB)} {a0 : GripState} {a1 : Int} {y : GripStep} (H : spec_l21Try a0 a1 = some y) (h0 : leLk ar [(.agg [(.v (.int .i64 a0.1)), (.v (.int .i64 a0.2.1)), (.v (.int .i64 a0.2.2.1)), (.v (.int .i64 a0.2.2.2.1))]), (.v (.int .i64 a1))] (leHk h [])) : spec_l21Try.S ar h (spec_l21Try.res a0 a1 y) (spec_l21Try.out a0 a1 y) := ⟨a0, a1, y, H, (args_ok h0).1, (args_ok h0).2, rfl, rfl⟩
set_option maxHeartbeats 100000000 in
set_option maxRecDepth 100000 in
theorem spec_l21Try.spec (a0 : GripState) (a1 : Int) (y : GripStep) (H : spec_l21Try a0 a1 = some y) : Spec Try.prog 101 [(.agg [(.v (.int .i64 a0.1)), (.v (.int .i64 a0.2.1)), (.v (.int .i64 a0.2.2.1)), (.v (.int .i64 a0.2.2.2.1))]), (.v (.int .i64 a1))] [] (spec_l21Try.res a0 a1 y) (spec_l21Try.out a0 a1 y) := by
  refine spec_intro (G15_ok.at tok []) (ct := []) Try.func101 rfl (by kernel_rfl) (by kernel_rfl) rfl ?_
  repeat' first
    | ((with_reducible refine eqg ?_); exact rfl)
    | ((with_reducible refine KOb.mk ?_); kernel_rfl)
    | ((with_reducible intro h); (repeat (first | replace H := grd_k H | replace H := out_step H (by assumption))); first | replace H := cond_t h H | replace H := cond_f h H | exact absurd h (by decide) | skip)
    | ((with_reducible refine Ob.mk ?_); first | rfl | (repeat (first | exact grd_p H | replace H := grd_k H | replace H := out_step H (by assumption))))
    | (with_reducible exact True.intro)
    | constructor
    | ((conv => whnf); first
        | ((with_reducible refine Ob.mk ?_); first | rfl | (repeat (first | exact grd_p H | replace H := grd_k H | replace H := out_step H (by assumption))))
        | ((with_reducible refine fin_mk ?_); (repeat (first | replace H := grd_k H | replace H := out_step H (by assumption))); have H := Option.some.inj H; subst H))
def G16 : Env := G15.add 101 [] spec_l21Try.S
theorem G16_ok : EnvOk Try.prog G16 := G15_ok.add ent_101 fun ar h r h1 ⟨a0, a1, y, hy, e1, e2, e3, e4⟩ => by
  subst e3 e4; exact (spec_l21Try.spec a0 a1 y hy).le e1 e2
attribute [local irreducible] spec_l21Try

noncomputable def spec_PossibleSteps_loop1 (a0 : GripState) (v8 : Int) (v9 : (List Int)) : Option (Lp (Int × (List Int)) (((List Int)))) :=
  (cond (decide (v8 ≤ (5 : Int))) ((spec_l21Try (a0.1, a0.2.1, a0.2.2.1, a0.2.2.2.1, ()) v8).bind fun y10 => ((spec_l21Make (a0.1, a0.2.1, a0.2.2.1, a0.2.2.2.1, ()) (y10.1, y10.2.1, ())).bind fun y11 => (cond y11.2 (grd ((v9.length + [v8].length) * 8 ≤ 140737488355328 ∧ v9.length + [v8].length ≤ 140737488355328) (some (.go ((w64 (v8 + (1 : Int))), (v9 ++ [v8]))))) (some (.go ((w64 (v8 + (1 : Int))), v9)))))) ((some (.out v9))))
noncomputable def spec_PossibleSteps (a0 : GripState) : Option ((List Int) × Bool) :=
  ((spec_l21Good (a0.1, a0.2.1, a0.2.2.1, a0.2.2.2.1, ())).bind fun y1 => (cond (!y1) ((some (([] : List Int), false))) ((iter (fun s => spec_PossibleSteps_loop1 a0 s.1 s.2) ((1 : Int), ([] : List Int))).bind (fun r12 => (some (r12, true))))))
def spec_PossibleSteps.res (_ : GripState) (y : (List Int) × Bool) : AV := (.tup [(.own 0), (.bl y.2)])
def spec_PossibleSteps.out (_ : GripState) (y : (List Int) × Bool) : List (Option LB) := [some (.arr 3 (.int .i64) y.1)]
def spec_PossibleSteps.S (ar : List AV) (h : List (Option LB)) (r : AV) (h1 : List (Option LB)) : Prop := ∃ a0 y, spec_PossibleSteps a0 = some y ∧ leL ar [(.agg [(.v (.int .i64 a0.1)), (.v (.int .i64 a0.2.1)), (.v (.int .i64 a0.2.2.1)), (.v (.int .i64 a0.2.2.2.1))])] ∧ leH h [] ∧ r = spec_PossibleSteps.res a0 y ∧ h1 = spec_PossibleSteps.out a0 y
theorem spec_PossibleSteps.call {ar : List AV} {h : List (Option LB)} {a0 : GripState} {y : (List Int) × Bool} (H : spec_PossibleSteps a0 = some y) (h0 : leLk ar [(.agg [(.v (.int .i64 a0.1)), (.v (.int .i64 a0.2.1)), (.v (.int .i64 a0.2.2.1)), (.v (.int .i64 a0.2.2.2.1))])] (leHk h [])) : spec_PossibleSteps.S ar h (spec_PossibleSteps.res a0 y) (spec_PossibleSteps.out a0 y) := ⟨a0, y, H, (args_ok h0).1, (args_ok h0).2, rfl, rfl⟩
set_option maxHeartbeats 100000000 in
set_option maxRecDepth 100000 in
theorem spec_PossibleSteps.spec (a0 : GripState) (y : (List Int) × Bool) (H : spec_PossibleSteps a0 = some y) : Spec Try.prog 37 [(.agg [(.v (.int .i64 a0.1)), (.v (.int .i64 a0.2.1)), (.v (.int .i64 a0.2.2.1)), (.v (.int .i64 a0.2.2.2.1))])] [] (spec_PossibleSteps.res a0 y) (spec_PossibleSteps.out a0 y) := by
  refine spec_intro (G16_ok.at tok []) (ct := [(6, some [1, 4, 5]), (10, some [4])]) Try.func37 rfl (by kernel_rfl) (by kernel_rfl) rfl ?_
  repeat' first
    | ((with_reducible refine eqg ?_); exact rfl)
    | ((with_reducible refine KOb.mk ?_); kernel_rfl)
    | ((with_reducible intro h); (repeat (first | replace H := grd_k H | replace H := out_step H (by assumption))); first | replace H := cond_t h H | replace H := cond_f h H | exact absurd h (by decide) | skip)
    | ((with_reducible refine Ob.mk ?_); first | rfl | (repeat (first | exact grd_p H | replace H := grd_k H | replace H := out_step H (by assumption))))
    | (with_reducible exact True.intro)
    | constructor
    | ((conv => whnf); first
        | ((with_reducible refine Ob.mk ?_); first | rfl | (repeat (first | exact grd_p H | replace H := grd_k H | replace H := out_step H (by assumption))))
        | ((with_reducible refine CallW.mk ?_); (repeat (first | replace H := grd_k H | replace H := out_step H (by assumption))); replace H := bind_some H; obtain ⟨y, hy, H⟩ := H; first | ((with_reducible have hz : spec_l21Good _ = some y := hy); clear hz; refine Exists.intro _ (Exists.intro _ ⟨spec_l21Good.call hy ?_, rfl, rfl, ?_⟩)) | ((with_reducible have hz : spec_l21Try _ _ = some y := hy); clear hz; refine Exists.intro _ (Exists.intro _ ⟨spec_l21Try.call hy ?_, rfl, rfl, ?_⟩)) | ((with_reducible have hz : spec_l21Make _ _ = some y := hy); clear hz; refine Exists.intro _ (Exists.intro _ ⟨spec_l21Make.call hy ?_, rfl, rfl, ?_⟩)))
        | ((repeat (first | replace H := grd_k H | replace H := out_step H (by assumption))); refine loop_iter (G16_ok.at tok []) (ct := [(6, some [1, 4, 5]), (10, some [4])]) (F := (fun s1 : Int × (List Int) => ⟨sl [(1, (.loc 0 0 0)), (4, (.own 1)), (5, (.v (.int .i64 s1.1)))], [some (.box 47 [(.v (.int .i64 a0.1)), (.v (.int .i64 a0.2.1)), (.v (.int .i64 a0.2.2.1)), (.v (.int .i64 a0.2.2.2.1))]), some (.arr 3 (.int .i64) s1.2)]⟩)) (step := (fun s : Int × (List Int) => spec_PossibleSteps_loop1 _ s.1 s.2)) _ H (by kernel_rfl) (sub_auto ?_) ?_; rotate_left; (intro s1 r v hr H); rotate_right)
        | ((repeat (first | replace H := grd_k H | replace H := out_step H (by assumption))); refine again_step H (by assumption) (sub_auto ?_))
        | ((with_reducible refine fin_mk ?_); (repeat (first | replace H := grd_k H | replace H := out_step H (by assumption))); have H := Option.some.inj H; subst H))
def G17 : Env := G16.add 37 [] spec_PossibleSteps.S
theorem G17_ok : EnvOk Try.prog G17 := G16_ok.add ent_37 fun ar h r h1 ⟨a0, y, hy, e1, e2, e3, e4⟩ => by
  subst e3 e4; exact (spec_PossibleSteps.spec a0 y hy).le e1 e2
attribute [local irreducible] spec_PossibleSteps

noncomputable def impl_GripState_someSteps_loop2 (a0 : GripState) (v19 : Int) (v25 : Int) (v26 : (List GripStep)) : Option (Lp (Int × (List GripStep)) (((List GripStep)))) :=
  (cond (decide (v25 < ([(0 : Int), (1 : Int), (500 : Int)].length : Int))) (grd (0 ≤ v25 ∧ v25 < ([(0 : Int), (1 : Int), (500 : Int)].length : Int)) ((impl_GripState_step (a0.1, a0.2.1, a0.2.2.1, a0.2.2.2.1, ()) (v19, ([(0 : Int), (1 : Int), (500 : Int)].getD v25.toNat 0), ())).bind fun y27 => (cond y27.2 (grd ((v26.length + [(v19, ([(0 : Int), (1 : Int), (500 : Int)].getD v25.toNat 0), ())].length) * 16 ≤ 140737488355328 ∧ v26.length + [(v19, ([(0 : Int), (1 : Int), (500 : Int)].getD v25.toNat 0), ())].length ≤ 140737488355328) (some (.go ((w64 (v25 + (1 : Int))), (v26 ++ [(v19, ([(0 : Int), (1 : Int), (500 : Int)].getD v25.toNat 0), ())]))))) (some (.go ((w64 (v25 + (1 : Int))), v26)))))) ((some (.out v26))))
noncomputable def impl_GripState_someSteps_loop1 (a0 : GripState) (v19 : Int) (v20 : (List GripStep)) : Option (Lp (Int × (List GripStep)) (((List GripStep)))) :=
  (cond (decide (v19 ≤ (5 : Int))) ((iter (fun s => impl_GripState_someSteps_loop2 a0 v19 s.1 s.2) ((0 : Int), v20)).bind (fun r28 => (some (.go ((w64 (v19 + (1 : Int))), r28))))) ((some (.out v20))))
noncomputable def impl_GripState_someSteps (a0 : GripState) : Option ((List GripStep)) :=
  ((iter (fun s => impl_GripState_someSteps_loop1 a0 s.1 s.2) ((1 : Int), ([] : List GripStep))).bind (fun r29 => (some r29)))
def impl_GripState_someSteps.res (_ : GripState) (_ : (List GripStep)) : AV := (.own 0)
def impl_GripState_someSteps.out (_ : GripState) (y : (List GripStep)) : List (Option LB) := [some (.arr 51 ty_GripStep y)]
def impl_GripState_someSteps.S (ar : List AV) (h : List (Option LB)) (r : AV) (h1 : List (Option LB)) : Prop := ∃ a0 y, impl_GripState_someSteps a0 = some y ∧ leL ar [(.agg [(.v (.int .i64 a0.1)), (.v (.int .i64 a0.2.1)), (.v (.int .i64 a0.2.2.1)), (.v (.int .i64 a0.2.2.2.1))])] ∧ leH h [] ∧ r = impl_GripState_someSteps.res a0 y ∧ h1 = impl_GripState_someSteps.out a0 y
theorem impl_GripState_someSteps.call {ar : List AV} {h : List (Option LB)} {a0 : GripState} {y : (List GripStep)} (H : impl_GripState_someSteps a0 = some y) (h0 : leLk ar [(.agg [(.v (.int .i64 a0.1)), (.v (.int .i64 a0.2.1)), (.v (.int .i64 a0.2.2.1)), (.v (.int .i64 a0.2.2.2.1))])] (leHk h [])) : impl_GripState_someSteps.S ar h (impl_GripState_someSteps.res a0 y) (impl_GripState_someSteps.out a0 y) := ⟨a0, y, H, (args_ok h0).1, (args_ok h0).2, rfl, rfl⟩
set_option maxHeartbeats 100000000 in
set_option maxRecDepth 100000 in
theorem impl_GripState_someSteps.spec (a0 : GripState) (y : (List GripStep)) (H : impl_GripState_someSteps a0 = some y) : Spec Try.prog 102 [(.agg [(.v (.int .i64 a0.1)), (.v (.int .i64 a0.2.1)), (.v (.int .i64 a0.2.2.1)), (.v (.int .i64 a0.2.2.2.1))])] [] (impl_GripState_someSteps.res a0 y) (impl_GripState_someSteps.out a0 y) := by
  refine spec_intro (G17_ok.at tok []) (ct := [(10, some [1, 3, 4, 7, 9, 15, 16, 17])]) Try.func102 rfl (by kernel_rfl) (by kernel_rfl) rfl ?_
  repeat' first
    | ((with_reducible refine eqg ?_); exact rfl)
    | ((with_reducible refine KOb.mk ?_); kernel_rfl)
    | ((with_reducible intro h); (repeat (first | replace H := grd_k H | replace H := out_step H (by assumption))); first | replace H := cond_t h H | replace H := cond_f h H | exact absurd h (by decide) | skip)
    | ((with_reducible refine Ob.mk ?_); first | rfl | (repeat (first | exact grd_p H | replace H := grd_k H | replace H := out_step H (by assumption))))
    | (with_reducible exact True.intro)
    | constructor
    | ((conv => whnf); first
        | ((with_reducible refine Ob.mk ?_); first | rfl | (repeat (first | exact grd_p H | replace H := grd_k H | replace H := out_step H (by assumption))))
        | ((with_reducible refine CallW.mk ?_); (repeat (first | replace H := grd_k H | replace H := out_step H (by assumption))); replace H := bind_some H; obtain ⟨y, hy, H⟩ := H; first | ((with_reducible have hz : impl_GripState_step _ _ = some y := hy); clear hz; refine Exists.intro _ (Exists.intro _ ⟨impl_GripState_step.call hy ?_, rfl, rfl, ?_⟩)))
        | ((repeat (first | replace H := grd_k H | replace H := out_step H (by assumption))); refine loop_iter (G17_ok.at tok []) (ct := [(10, some [1, 3, 4, 7, 9, 15, 16, 17])]) (F := (fun s1 : Int × (List GripStep) => ⟨sl [(1, (.loc 0 0 0)), (3, (.own 1)), (4, (.v (.int .i64 s1.1)))], [some (.box 47 [(.v (.int .i64 a0.1)), (.v (.int .i64 a0.2.1)), (.v (.int .i64 a0.2.2.1)), (.v (.int .i64 a0.2.2.2.1))]), some (.arr 51 ty_GripStep s1.2)]⟩)) (step := (fun s : Int × (List GripStep) => impl_GripState_someSteps_loop1 _ s.1 s.2)) _ H (by kernel_rfl) (sub_auto ?_) ?_; rotate_left; (intro s1 r v hr H); rotate_right)
        | ((repeat (first | replace H := grd_k H | replace H := out_step H (by assumption))); refine loop_iter (G17_ok.at tok []) (ct := [(10, some [1, 3, 4, 7, 9, 15, 16, 17])]) (F := (fun s2 : Int × (List GripStep) => ⟨sl [(1, (.loc 0 0 0)), (3, (.own 1)), (4, (.v (.int .i64 s1.1))), (15, (.own 2)), (16, (.v (.int .i64 ([(0 : Int), (1 : Int), (500 : Int)].length : Int)))), (17, (.v (.int .i64 s2.1)))], [some (.box 47 [(.v (.int .i64 a0.1)), (.v (.int .i64 a0.2.1)), (.v (.int .i64 a0.2.2.1)), (.v (.int .i64 a0.2.2.2.1))]), some (.arr 51 ty_GripStep s2.2), some (.arr 3 (.int .i64) [(0 : Int), (1 : Int), (500 : Int)])]⟩)) (step := (fun s : Int × (List GripStep) => impl_GripState_someSteps_loop2 _ _ s.1 s.2)) _ H (by kernel_rfl) (sub_auto ?_) ?_; rotate_left; (intro s2 r v hr H); rotate_right)
        | ((repeat (first | replace H := grd_k H | replace H := out_step H (by assumption))); refine again_step H (by assumption) (sub_auto ?_))
        | ((with_reducible refine fin_mk ?_); (repeat (first | replace H := grd_k H | replace H := out_step H (by assumption))); have H := Option.some.inj H; subst H))
def G18 : Env := G17.add 102 [] impl_GripState_someSteps.S
theorem G18_ok : EnvOk Try.prog G18 := G17_ok.add ent_102 fun ar h r h1 ⟨a0, y, hy, e1, e2, e3, e4⟩ => by
  subst e3 e4; exact (impl_GripState_someSteps.spec a0 y hy).le e1 e2
attribute [local irreducible] impl_GripState_someSteps

end Go.Proofs.Ytplknllbpdookaa
