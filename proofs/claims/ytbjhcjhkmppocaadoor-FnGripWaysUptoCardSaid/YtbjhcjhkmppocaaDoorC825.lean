/-
  Contracts, printed by a program.
-/
import Derived.Test.YtbjhcjhkmppocaaDoorC824
namespace Go.Proofs.YtbjhcjhkmppocaaDoor
open Go.RowKit
attribute [local irreducible] Ob loopwp Sub Spec Fin Again CallW CutC KOb iter joinx outm

attribute [local irreducible] laws_vBig spec_l1Cur_next spec_l1Cur_pick spec_l1Cur_among spec_l1Cur_one spec_l1Cur_gripStep spec_l1In spec_l21Good spec_l21Step spec_l1Least spec_l21Move spec_l21Make spec_StepGrip spec_l1Cur_gripState spec_DrawIsGripState spec_DrawStepsToRope impl_within impl_IsGripState impl_GripState_step impl_GripState_someSteps impl_GripState_stepsTo impl_StepsToRope spec_l21Try spec_l21In spec_l21To spec_StepsToRope impl_StepsHome spec_StepsHome

noncomputable def spec_DrawStepGrip (a0 : (List Int)) : Option (GripState × GripStep) :=
  ((spec_l1Cur_gripState (a0, (0 : Int), (0 : Int), ())).bind fun y1 => ((spec_l1Cur_gripStep (y1.2.1, y1.2.2.1, y1.2.2.2.1, ()) (y1.1.1, y1.1.2.1, y1.1.2.2.1, y1.1.2.2.2.1, ())).bind fun y2 => (some ((y1.1.1, y1.1.2.1, y1.1.2.2.1, y1.1.2.2.2.1, ()), (y2.1.1, y2.1.2.1, ())))))
def spec_DrawStepGrip.res (_ : (List Int)) (y : GripState × GripStep) : AV := (.tup [(.agg [(.v (.int .i64 y.1.1)), (.v (.int .i64 y.1.2.1)), (.v (.int .i64 y.1.2.2.1)), (.v (.int .i64 y.1.2.2.2.1))]), (.agg [(.v (.int .i64 y.2.1)), (.v (.int .i64 y.2.2.1))])])
def spec_DrawStepGrip.out (_ : (List Int)) (_ : GripState × GripStep) : List (Option LB) := []
def spec_DrawStepGrip.S (ar : List AV) (h : List (Option LB)) (r : AV) (h1 : List (Option LB)) : Prop := ∃ a0 y, spec_DrawStepGrip a0 = some y ∧ leL ar [(.tree (.int .u8) a0)] ∧ leH h [] ∧ r = spec_DrawStepGrip.res a0 y ∧ h1 = spec_DrawStepGrip.out a0 y
theorem spec_DrawStepGrip.call {ar : List AV} {h : List (Option LB)} {a0 : (List Int)} {y : GripState × GripStep} (H : spec_DrawStepGrip a0 = some y) (h0 : leLk ar [(.tree (.int .u8) a0)] (leHk h [])) : spec_DrawStepGrip.S ar h (spec_DrawStepGrip.res a0 y) (spec_DrawStepGrip.out a0 y) := ⟨a0, y, H, (args_ok h0).1, (args_ok h0).2, rfl, rfl⟩
set_option maxHeartbeats 100000000 in
set_option maxRecDepth 100000 in
theorem spec_DrawStepGrip.spec (a0 : (List Int)) (y : GripState × GripStep) (H : spec_DrawStepGrip a0 = some y) : Spec Tryd.prog 10 [(.tree (.int .u8) a0)] [] (spec_DrawStepGrip.res a0 y) (spec_DrawStepGrip.out a0 y) := by
  refine spec_intro (G28_ok.at tok []) (ct := []) Tryd.func10 rfl (by kernel_rfl) (by kernel_rfl) rfl ?_
  repeat' first
    | ((with_reducible refine eqg ?_); exact rfl)
    | ((with_reducible refine KOb.mk ?_); kernel_rfl)
    | ((with_reducible intro h); (repeat (first | replace H := grd_k H | replace H := out_step H (by assumption))); first | replace H := cond_t h H | replace H := cond_f h H | exact absurd h (by decide) | skip)
    | ((with_reducible refine Ob.mk ?_); first | (with_reducible rfl) | (first | ((repeat (first | (with_reducible exact grd_p H) | (replace H := grd_k H) | (replace H := out_step H (by assumption)))); done) | rfl | ((repeat (first | exact grd_p H | replace H := grd_k H | replace H := out_step H (by assumption))); done) | ((repeat (first | exact grd_p H | (have hp := grd_p H; exact hp) | replace H := grd_k H | replace H := out_step H (by assumption) | (replace H := bind_some H; obtain ⟨_, _, H⟩ := H))); done) | (repeat (first | exact grd_p H | replace H := grd_k H | replace H := out_step H (by assumption)))))
    | (with_reducible exact True.intro)
    | ((conv => whnf); first
        | (with_reducible refine And.intro ?_ ?_)
        | (with_reducible exact True.intro)
        | ((with_reducible refine Ob.mk ?_); first | (with_reducible rfl) | (first | ((repeat (first | (with_reducible exact grd_p H) | (replace H := grd_k H) | (replace H := out_step H (by assumption)))); done) | rfl | ((repeat (first | exact grd_p H | replace H := grd_k H | replace H := out_step H (by assumption))); done) | ((repeat (first | exact grd_p H | (have hp := grd_p H; exact hp) | replace H := grd_k H | replace H := out_step H (by assumption) | (replace H := bind_some H; obtain ⟨_, _, H⟩ := H))); done) | (repeat (first | exact grd_p H | replace H := grd_k H | replace H := out_step H (by assumption)))))
        | ((with_reducible refine CallW.mk ?_); (repeat (first | replace H := grd_k H | replace H := out_step H (by assumption))); replace H := bind_some H; obtain ⟨y, hy, H⟩ := H; first | ((with_reducible have hz : spec_l1Cur_gripState _ = some y := hy); clear hz; refine Exists.intro _ (Exists.intro _ ⟨spec_l1Cur_gripState.call hy ?_, rfl, rfl, ?_⟩)) | ((with_reducible have hz : spec_l1Cur_gripStep _ _ = some y := hy); clear hz; refine Exists.intro _ (Exists.intro _ ⟨spec_l1Cur_gripStep.call hy ?_, rfl, rfl, ?_⟩)))
        | ((with_reducible refine fin_mk ?_); (repeat (first | replace H := grd_k H | replace H := out_step H (by assumption))); have H := Option.some.inj H; subst H))
    | constructor
def G29 : Env := G28.add 10 [] spec_DrawStepGrip.S
theorem G29_ok : EnvOk Tryd.prog G29 := G28_ok.add ent_10 fun ar h r h1 ⟨a0, y, hy, e1, e2, e3, e4⟩ => by
  subst e3 e4; exact (spec_DrawStepGrip.spec a0 y hy).le e1 e2
attribute [local irreducible] spec_DrawStepGrip

noncomputable def impl_StepGrip (a0 : GripState) (a1 : GripStep) : Option (GripState × Bool) :=
  ((impl_IsGripState (a0.1, a0.2.1, a0.2.2.1, a0.2.2.2.1, ())).bind fun y1 => (cond (!y1) ((some (((0 : Int), (0 : Int), (0 : Int), (0 : Int), ()), false))) ((impl_GripState_step (a0.1, a0.2.1, a0.2.2.1, a0.2.2.2.1, ()) (a1.1, a1.2.1, ())).bind fun y2 => (cond (!y2.2) ((some (((0 : Int), (0 : Int), (0 : Int), (0 : Int), ()), false))) ((some ((y2.1.1, y2.1.2.1, y2.1.2.2.1, y2.1.2.2.2.1, ()), true)))))))
def impl_StepGrip.res (_ : GripState) (_ : GripStep) (y : GripState × Bool) : AV := (.tup [(.agg [(.v (.int .i64 y.1.1)), (.v (.int .i64 y.1.2.1)), (.v (.int .i64 y.1.2.2.1)), (.v (.int .i64 y.1.2.2.2.1))]), (.bl y.2)])
def impl_StepGrip.out (_ : GripState) (_ : GripStep) (_ : GripState × Bool) : List (Option LB) := []
def impl_StepGrip.S (ar : List AV) (h : List (Option LB)) (r : AV) (h1 : List (Option LB)) : Prop := ∃ a0 a1 y, impl_StepGrip a0 a1 = some y ∧ leL ar [(.agg [(.v (.int .i64 a0.1)), (.v (.int .i64 a0.2.1)), (.v (.int .i64 a0.2.2.1)), (.v (.int .i64 a0.2.2.2.1))]), (.agg [(.v (.int .i64 a1.1)), (.v (.int .i64 a1.2.1))])] ∧ leH h [] ∧ r = impl_StepGrip.res a0 a1 y ∧ h1 = impl_StepGrip.out a0 a1 y
theorem impl_StepGrip.call {ar : List AV} {h : List (Option LB)} {a0 : GripState} {a1 : GripStep} {y : GripState × Bool} (H : impl_StepGrip a0 a1 = some y) (h0 : leLk ar [(.agg [(.v (.int .i64 a0.1)), (.v (.int .i64 a0.2.1)), (.v (.int .i64 a0.2.2.1)), (.v (.int .i64 a0.2.2.2.1))]), (.agg [(.v (.int .i64 a1.1)), (.v (.int .i64 a1.2.1))])] (leHk h [])) : impl_StepGrip.S ar h (impl_StepGrip.res a0 a1 y) (impl_StepGrip.out a0 a1 y) := ⟨a0, a1, y, H, (args_ok h0).1, (args_ok h0).2, rfl, rfl⟩
set_option maxHeartbeats 100000000 in
set_option maxRecDepth 100000 in
theorem impl_StepGrip.spec (a0 : GripState) (a1 : GripStep) (y : GripState × Bool) (H : impl_StepGrip a0 a1 = some y) : Spec Tryd.prog 11 [(.agg [(.v (.int .i64 a0.1)), (.v (.int .i64 a0.2.1)), (.v (.int .i64 a0.2.2.1)), (.v (.int .i64 a0.2.2.2.1))]), (.agg [(.v (.int .i64 a1.1)), (.v (.int .i64 a1.2.1))])] [] (impl_StepGrip.res a0 a1 y) (impl_StepGrip.out a0 a1 y) := by
  refine spec_intro (G29_ok.at tok []) (ct := [(4, some [4, 6, 7])]) Tryd.func11 rfl (by kernel_rfl) (by kernel_rfl) rfl ?_
  repeat' first
    | ((with_reducible refine eqg ?_); exact rfl)
    | ((with_reducible refine KOb.mk ?_); kernel_rfl)
    | ((with_reducible intro h); (repeat (first | replace H := grd_k H | replace H := out_step H (by assumption))); first | replace H := cond_t h H | replace H := cond_f h H | exact absurd h (by decide) | skip)
    | ((with_reducible refine Ob.mk ?_); first | (with_reducible rfl) | (first | ((repeat (first | (with_reducible exact grd_p H) | (replace H := grd_k H) | (replace H := out_step H (by assumption)))); done) | rfl | ((repeat (first | exact grd_p H | replace H := grd_k H | replace H := out_step H (by assumption))); done) | ((repeat (first | exact grd_p H | (have hp := grd_p H; exact hp) | replace H := grd_k H | replace H := out_step H (by assumption) | (replace H := bind_some H; obtain ⟨_, _, H⟩ := H))); done) | (repeat (first | exact grd_p H | replace H := grd_k H | replace H := out_step H (by assumption)))))
    | (with_reducible exact True.intro)
    | ((conv => whnf); first
        | (with_reducible refine And.intro ?_ ?_)
        | (with_reducible exact True.intro)
        | ((with_reducible refine Ob.mk ?_); first | (with_reducible rfl) | (first | ((repeat (first | (with_reducible exact grd_p H) | (replace H := grd_k H) | (replace H := out_step H (by assumption)))); done) | rfl | ((repeat (first | exact grd_p H | replace H := grd_k H | replace H := out_step H (by assumption))); done) | ((repeat (first | exact grd_p H | (have hp := grd_p H; exact hp) | replace H := grd_k H | replace H := out_step H (by assumption) | (replace H := bind_some H; obtain ⟨_, _, H⟩ := H))); done) | (repeat (first | exact grd_p H | replace H := grd_k H | replace H := out_step H (by assumption)))))
        | ((with_reducible refine CallW.mk ?_); (repeat (first | replace H := grd_k H | replace H := out_step H (by assumption))); replace H := bind_some H; obtain ⟨y, hy, H⟩ := H; first | ((with_reducible have hz : impl_IsGripState _ = some y := hy); clear hz; refine Exists.intro _ (Exists.intro _ ⟨impl_IsGripState.call hy ?_, rfl, rfl, ?_⟩)) | ((with_reducible have hz : impl_GripState_step _ _ = some y := hy); clear hz; refine Exists.intro _ (Exists.intro _ ⟨impl_GripState_step.call hy ?_, rfl, rfl, ?_⟩)))
        | ((with_reducible refine fin_mk ?_); (repeat (first | replace H := grd_k H | replace H := out_step H (by assumption))); have H := Option.some.inj H; subst H))
    | constructor
def G30 : Env := G29.add 11 [] impl_StepGrip.S
theorem G30_ok : EnvOk Tryd.prog G30 := G29_ok.add ent_11 fun ar h r h1 ⟨a0, a1, y, hy, e1, e2, e3, e4⟩ => by
  subst e3 e4; exact (impl_StepGrip.spec a0 a1 y hy).le e1 e2
attribute [local irreducible] impl_StepGrip

noncomputable def spec_DrawGripText (a0 : (List Int)) : Option (GripState) :=
  ((spec_DrawIsGripState a0).bind fun y1 => (some (y1.1, y1.2.1, y1.2.2.1, y1.2.2.2.1, ())))
def spec_DrawGripText.res (_ : (List Int)) (y : GripState) : AV := (.agg [(.v (.int .i64 y.1)), (.v (.int .i64 y.2.1)), (.v (.int .i64 y.2.2.1)), (.v (.int .i64 y.2.2.2.1))])
def spec_DrawGripText.out (_ : (List Int)) (_ : GripState) : List (Option LB) := []
def spec_DrawGripText.S (ar : List AV) (h : List (Option LB)) (r : AV) (h1 : List (Option LB)) : Prop := ∃ a0 y, spec_DrawGripText a0 = some y ∧ leL ar [(.tree (.int .u8) a0)] ∧ leH h [] ∧ r = spec_DrawGripText.res a0 y ∧ h1 = spec_DrawGripText.out a0 y
theorem spec_DrawGripText.call {ar : List AV} {h : List (Option LB)} {a0 : (List Int)} {y : GripState} (H : spec_DrawGripText a0 = some y) (h0 : leLk ar [(.tree (.int .u8) a0)] (leHk h [])) : spec_DrawGripText.S ar h (spec_DrawGripText.res a0 y) (spec_DrawGripText.out a0 y) := ⟨a0, y, H, (args_ok h0).1, (args_ok h0).2, rfl, rfl⟩
set_option maxHeartbeats 100000000 in
set_option maxRecDepth 100000 in
theorem spec_DrawGripText.spec (a0 : (List Int)) (y : GripState) (H : spec_DrawGripText a0 = some y) : Spec Tryd.prog 12 [(.tree (.int .u8) a0)] [] (spec_DrawGripText.res a0 y) (spec_DrawGripText.out a0 y) := by
  refine spec_intro (G30_ok.at tok []) (ct := []) Tryd.func12 rfl (by kernel_rfl) (by kernel_rfl) rfl ?_
  repeat' first
    | ((with_reducible refine eqg ?_); exact rfl)
    | ((with_reducible refine KOb.mk ?_); kernel_rfl)
    | ((with_reducible intro h); (repeat (first | replace H := grd_k H | replace H := out_step H (by assumption))); first | replace H := cond_t h H | replace H := cond_f h H | exact absurd h (by decide) | skip)
    | ((with_reducible refine Ob.mk ?_); first | (with_reducible rfl) | (first | ((repeat (first | (with_reducible exact grd_p H) | (replace H := grd_k H) | (replace H := out_step H (by assumption)))); done) | rfl | ((repeat (first | exact grd_p H | replace H := grd_k H | replace H := out_step H (by assumption))); done) | ((repeat (first | exact grd_p H | (have hp := grd_p H; exact hp) | replace H := grd_k H | replace H := out_step H (by assumption) | (replace H := bind_some H; obtain ⟨_, _, H⟩ := H))); done) | (repeat (first | exact grd_p H | replace H := grd_k H | replace H := out_step H (by assumption)))))
    | (with_reducible exact True.intro)
    | ((conv => whnf); first
        | (with_reducible refine And.intro ?_ ?_)
        | (with_reducible exact True.intro)
        | ((with_reducible refine Ob.mk ?_); first | (with_reducible rfl) | (first | ((repeat (first | (with_reducible exact grd_p H) | (replace H := grd_k H) | (replace H := out_step H (by assumption)))); done) | rfl | ((repeat (first | exact grd_p H | replace H := grd_k H | replace H := out_step H (by assumption))); done) | ((repeat (first | exact grd_p H | (have hp := grd_p H; exact hp) | replace H := grd_k H | replace H := out_step H (by assumption) | (replace H := bind_some H; obtain ⟨_, _, H⟩ := H))); done) | (repeat (first | exact grd_p H | replace H := grd_k H | replace H := out_step H (by assumption)))))
        | ((with_reducible refine CallW.mk ?_); (repeat (first | replace H := grd_k H | replace H := out_step H (by assumption))); replace H := bind_some H; obtain ⟨y, hy, H⟩ := H; first | ((with_reducible have hz : spec_DrawIsGripState _ = some y := hy); clear hz; refine Exists.intro _ (Exists.intro _ ⟨spec_DrawIsGripState.call hy ?_, rfl, rfl, ?_⟩)))
        | ((with_reducible refine fin_mk ?_); (repeat (first | replace H := grd_k H | replace H := out_step H (by assumption))); have H := Option.some.inj H; subst H))
    | constructor
def G31 : Env := G30.add 12 [] spec_DrawGripText.S
theorem G31_ok : EnvOk Tryd.prog G31 := G30_ok.add ent_12 fun ar h r h1 ⟨a0, y, hy, e1, e2, e3, e4⟩ => by
  subst e3 e4; exact (spec_DrawGripText.spec a0 y hy).le e1 e2
attribute [local irreducible] spec_DrawGripText

noncomputable def strconv_Itoa (a0 : Int) : Option (ByteArray) :=
  (grd (-9223372036854775808 ≤ a0 ∧ a0 ≤ 9223372036854775807) ((some (itoaB a0))))
def strconv_Itoa.res (_ : Int) (y : ByteArray) : AV := (.v (.string y))
def strconv_Itoa.out (_ : Int) (_ : ByteArray) : List (Option LB) := []
def strconv_Itoa.S (ar : List AV) (h : List (Option LB)) (r : AV) (h1 : List (Option LB)) : Prop := ∃ a0 y, strconv_Itoa a0 = some y ∧ leL ar [(.v (.int .i64 a0))] ∧ leH h [] ∧ r = strconv_Itoa.res a0 y ∧ h1 = strconv_Itoa.out a0 y
theorem strconv_Itoa.call {ar : List AV} {h : List (Option LB)} {a0 : Int} {y : ByteArray} (H : strconv_Itoa a0 = some y) (h0 : leLk ar [(.v (.int .i64 a0))] (leHk h [])) : strconv_Itoa.S ar h (strconv_Itoa.res a0 y) (strconv_Itoa.out a0 y) := ⟨a0, y, H, (args_ok h0).1, (args_ok h0).2, rfl, rfl⟩
theorem strconv_Itoa.spec (a0 : Int) (y : ByteArray) (H : strconv_Itoa a0 = some y) : Spec Tryd.prog 44 [(.v (.int .i64 a0))] [] (strconv_Itoa.res a0 y) (strconv_Itoa.out a0 y) := by
  have hg := grd_p H
  have H := Option.some.inj (grd_k H)
  subst H
  exact ext_strconv_Itoa a0 hg
def G32 : Env := G31.add 44 [] strconv_Itoa.S
theorem G32_ok : EnvOk Tryd.prog G32 := G31_ok.add ent_44 fun ar h r h1 ⟨a0, y, hy, e1, e2, e3, e4⟩ => by
  subst e3 e4; exact (strconv_Itoa.spec a0 y hy).le e1 e2
attribute [local irreducible] strconv_Itoa

noncomputable def impl_gripText (a0 : GripState) : Option (ByteArray) :=
  (grd (0 ≤ a0.1 ∧ a0.1 < (5 : Int)) (grd (([(ByteArray.mk #[111, 112, 101, 110]), (ByteArray.mk #[99, 108, 111, 115, 105, 110, 103]), (ByteArray.mk #[115, 104, 117, 116]), (ByteArray.mk #[111, 112, 101, 110, 105, 110, 103]), (ByteArray.mk #[108, 111, 99, 107, 101, 100])].getD a0.1.toNat (ByteArray.mk #[])).size + (ByteArray.mk #[32, 105, 110, 32]).size ≤ 9223372036854775807) (grd (0 ≤ a0.2.1 ∧ a0.2.1 < (4 : Int)) (grd ((([(ByteArray.mk #[111, 112, 101, 110]), (ByteArray.mk #[99, 108, 111, 115, 105, 110, 103]), (ByteArray.mk #[115, 104, 117, 116]), (ByteArray.mk #[111, 112, 101, 110, 105, 110, 103]), (ByteArray.mk #[108, 111, 99, 107, 101, 100])].getD a0.1.toNat (ByteArray.mk #[])) ++ (ByteArray.mk #[32, 105, 110, 32])).size + ([(ByteArray.mk #[115, 116, 97, 116, 105, 111, 110]), (ByteArray.mk #[101, 110, 116, 114, 121]), (ByteArray.mk #[114, 111, 112, 101]), (ByteArray.mk #[101, 120, 105, 116])].getD a0.2.1.toNat (ByteArray.mk #[])).size ≤ 9223372036854775807) (cond (decide (a0.1 = (2 : Int))) ((strconv_Itoa a0.2.2.1).bind fun y1 => (grd ((ByteArray.mk #[32, 119, 105, 116, 104, 32]).size + y1.size ≤ 9223372036854775807) (grd (((([(ByteArray.mk #[111, 112, 101, 110]), (ByteArray.mk #[99, 108, 111, 115, 105, 110, 103]), (ByteArray.mk #[115, 104, 117, 116]), (ByteArray.mk #[111, 112, 101, 110, 105, 110, 103]), (ByteArray.mk #[108, 111, 99, 107, 101, 100])].getD a0.1.toNat (ByteArray.mk #[])) ++ (ByteArray.mk #[32, 105, 110, 32])) ++ ([(ByteArray.mk #[115, 116, 97, 116, 105, 111, 110]), (ByteArray.mk #[101, 110, 116, 114, 121]), (ByteArray.mk #[114, 111, 112, 101]), (ByteArray.mk #[101, 120, 105, 116])].getD a0.2.1.toNat (ByteArray.mk #[]))).size + ((ByteArray.mk #[32, 119, 105, 116, 104, 32]) ++ y1).size ≤ 9223372036854775807) ((some (((([(ByteArray.mk #[111, 112, 101, 110]), (ByteArray.mk #[99, 108, 111, 115, 105, 110, 103]), (ByteArray.mk #[115, 104, 117, 116]), (ByteArray.mk #[111, 112, 101, 110, 105, 110, 103]), (ByteArray.mk #[108, 111, 99, 107, 101, 100])].getD a0.1.toNat (ByteArray.mk #[])) ++ (ByteArray.mk #[32, 105, 110, 32])) ++ ([(ByteArray.mk #[115, 116, 97, 116, 105, 111, 110]), (ByteArray.mk #[101, 110, 116, 114, 121]), (ByteArray.mk #[114, 111, 112, 101]), (ByteArray.mk #[101, 120, 105, 116])].getD a0.2.1.toNat (ByteArray.mk #[]))) ++ ((ByteArray.mk #[32, 119, 105, 116, 104, 32]) ++ y1))))))) ((some ((([(ByteArray.mk #[111, 112, 101, 110]), (ByteArray.mk #[99, 108, 111, 115, 105, 110, 103]), (ByteArray.mk #[115, 104, 117, 116]), (ByteArray.mk #[111, 112, 101, 110, 105, 110, 103]), (ByteArray.mk #[108, 111, 99, 107, 101, 100])].getD a0.1.toNat (ByteArray.mk #[])) ++ (ByteArray.mk #[32, 105, 110, 32])) ++ ([(ByteArray.mk #[115, 116, 97, 116, 105, 111, 110]), (ByteArray.mk #[101, 110, 116, 114, 121]), (ByteArray.mk #[114, 111, 112, 101]), (ByteArray.mk #[101, 120, 105, 116])].getD a0.2.1.toNat (ByteArray.mk #[]))))))))))
def impl_gripText.res (_ : GripState) (y : ByteArray) : AV := (.v (.string y))
def impl_gripText.out (_ : GripState) (_ : ByteArray) : List (Option LB) := []
def impl_gripText.S (ar : List AV) (h : List (Option LB)) (r : AV) (h1 : List (Option LB)) : Prop := ∃ a0 y, impl_gripText a0 = some y ∧ leL ar [(.agg [(.v (.int .i64 a0.1)), (.v (.int .i64 a0.2.1)), (.v (.int .i64 a0.2.2.1)), (.v (.int .i64 a0.2.2.2.1))])] ∧ leH h [] ∧ r = impl_gripText.res a0 y ∧ h1 = impl_gripText.out a0 y
theorem impl_gripText.call {ar : List AV} {h : List (Option LB)} {a0 : GripState} {y : ByteArray} (H : impl_gripText a0 = some y) (h0 : leLk ar [(.agg [(.v (.int .i64 a0.1)), (.v (.int .i64 a0.2.1)), (.v (.int .i64 a0.2.2.1)), (.v (.int .i64 a0.2.2.2.1))])] (leHk h [])) : impl_gripText.S ar h (impl_gripText.res a0 y) (impl_gripText.out a0 y) := ⟨a0, y, H, (args_ok h0).1, (args_ok h0).2, rfl, rfl⟩
set_option maxHeartbeats 100000000 in
set_option maxRecDepth 100000 in
theorem impl_gripText.spec (a0 : GripState) (y : ByteArray) (H : impl_gripText a0 = some y) : Spec Tryd.prog 26 [(.agg [(.v (.int .i64 a0.1)), (.v (.int .i64 a0.2.1)), (.v (.int .i64 a0.2.2.1)), (.v (.int .i64 a0.2.2.2.1))])] [] (impl_gripText.res a0 y) (impl_gripText.out a0 y) := by
  refine spec_intro (G32_ok.at tok []) (ct := [(3, some [1, 3, 16])]) Tryd.func26 rfl (by kernel_rfl) (by kernel_rfl) rfl ?_
  repeat' first
    | ((with_reducible refine eqg ?_); exact rfl)
    | ((with_reducible refine KOb.mk ?_); kernel_rfl)
    | ((with_reducible intro h); (repeat (first | replace H := grd_k H | replace H := out_step H (by assumption))); first | replace H := cond_t h H | replace H := cond_f h H | exact absurd h (by decide) | skip)
    | ((with_reducible refine Ob.mk ?_); first | (with_reducible rfl) | (first | ((repeat (first | (with_reducible exact grd_p H) | (replace H := grd_k H) | (replace H := out_step H (by assumption)))); done) | rfl | ((repeat (first | exact grd_p H | replace H := grd_k H | replace H := out_step H (by assumption))); done) | ((repeat (first | exact grd_p H | (have hp := grd_p H; exact hp) | replace H := grd_k H | replace H := out_step H (by assumption) | (replace H := bind_some H; obtain ⟨_, _, H⟩ := H))); done) | (repeat (first | exact grd_p H | replace H := grd_k H | replace H := out_step H (by assumption)))))
    | (with_reducible exact True.intro)
    | ((conv => whnf); first
        | (with_reducible refine And.intro ?_ ?_)
        | (with_reducible exact True.intro)
        | ((with_reducible refine Ob.mk ?_); first | (with_reducible rfl) | (first | ((repeat (first | (with_reducible exact grd_p H) | (replace H := grd_k H) | (replace H := out_step H (by assumption)))); done) | rfl | ((repeat (first | exact grd_p H | replace H := grd_k H | replace H := out_step H (by assumption))); done) | ((repeat (first | exact grd_p H | (have hp := grd_p H; exact hp) | replace H := grd_k H | replace H := out_step H (by assumption) | (replace H := bind_some H; obtain ⟨_, _, H⟩ := H))); done) | (repeat (first | exact grd_p H | replace H := grd_k H | replace H := out_step H (by assumption)))))
        | ((with_reducible refine CallW.mk ?_); (repeat (first | replace H := grd_k H | replace H := out_step H (by assumption))); replace H := bind_some H; obtain ⟨y, hy, H⟩ := H; first | ((with_reducible have hz : strconv_Itoa _ = some y := hy); clear hz; refine Exists.intro _ (Exists.intro _ ⟨strconv_Itoa.call hy ?_, rfl, rfl, ?_⟩)))
        | ((with_reducible refine fin_mk ?_); (repeat (first | replace H := grd_k H | replace H := out_step H (by assumption))); have H := Option.some.inj H; subst H))
    | constructor
def G33 : Env := G32.add 26 [] impl_gripText.S
theorem G33_ok : EnvOk Tryd.prog G33 := G32_ok.add ent_26 fun ar h r h1 ⟨a0, y, hy, e1, e2, e3, e4⟩ => by
  subst e3 e4; exact (impl_gripText.spec a0 y hy).le e1 e2
attribute [local irreducible] impl_gripText

noncomputable def impl_GripText (a0 : GripState) : Option (ByteArray × Bool) :=
  ((impl_IsGripState (a0.1, a0.2.1, a0.2.2.1, a0.2.2.2.1, ())).bind fun y1 => (cond (!y1) ((some ((ByteArray.mk #[]), false))) ((impl_gripText (a0.1, a0.2.1, a0.2.2.1, a0.2.2.2.1, ())).bind fun y2 => (some (y2, true)))))
def impl_GripText.res (_ : GripState) (y : ByteArray × Bool) : AV := (.tup [(.v (.string y.1)), (.bl y.2)])
def impl_GripText.out (_ : GripState) (_ : ByteArray × Bool) : List (Option LB) := []
def impl_GripText.S (ar : List AV) (h : List (Option LB)) (r : AV) (h1 : List (Option LB)) : Prop := ∃ a0 y, impl_GripText a0 = some y ∧ leL ar [(.agg [(.v (.int .i64 a0.1)), (.v (.int .i64 a0.2.1)), (.v (.int .i64 a0.2.2.1)), (.v (.int .i64 a0.2.2.2.1))])] ∧ leH h [] ∧ r = impl_GripText.res a0 y ∧ h1 = impl_GripText.out a0 y
theorem impl_GripText.call {ar : List AV} {h : List (Option LB)} {a0 : GripState} {y : ByteArray × Bool} (H : impl_GripText a0 = some y) (h0 : leLk ar [(.agg [(.v (.int .i64 a0.1)), (.v (.int .i64 a0.2.1)), (.v (.int .i64 a0.2.2.1)), (.v (.int .i64 a0.2.2.2.1))])] (leHk h [])) : impl_GripText.S ar h (impl_GripText.res a0 y) (impl_GripText.out a0 y) := ⟨a0, y, H, (args_ok h0).1, (args_ok h0).2, rfl, rfl⟩
set_option maxHeartbeats 100000000 in
set_option maxRecDepth 100000 in
theorem impl_GripText.spec (a0 : GripState) (y : ByteArray × Bool) (H : impl_GripText a0 = some y) : Spec Tryd.prog 13 [(.agg [(.v (.int .i64 a0.1)), (.v (.int .i64 a0.2.1)), (.v (.int .i64 a0.2.2.1)), (.v (.int .i64 a0.2.2.2.1))])] [] (impl_GripText.res a0 y) (impl_GripText.out a0 y) := by
  refine spec_intro (G33_ok.at tok []) (ct := []) Tryd.func13 rfl (by kernel_rfl) (by kernel_rfl) rfl ?_
  repeat' first
    | ((with_reducible refine eqg ?_); exact rfl)
    | ((with_reducible refine KOb.mk ?_); kernel_rfl)
    | ((with_reducible intro h); (repeat (first | replace H := grd_k H | replace H := out_step H (by assumption))); first | replace H := cond_t h H | replace H := cond_f h H | exact absurd h (by decide) | skip)
    | ((with_reducible refine Ob.mk ?_); first | (with_reducible rfl) | (first | ((repeat (first | (with_reducible exact grd_p H) | (replace H := grd_k H) | (replace H := out_step H (by assumption)))); done) | rfl | ((repeat (first | exact grd_p H | replace H := grd_k H | replace H := out_step H (by assumption))); done) | ((repeat (first | exact grd_p H | (have hp := grd_p H; exact hp) | replace H := grd_k H | replace H := out_step H (by assumption) | (replace H := bind_some H; obtain ⟨_, _, H⟩ := H))); done) | (repeat (first | exact grd_p H | replace H := grd_k H | replace H := out_step H (by assumption)))))
    | (with_reducible exact True.intro)
    | ((conv => whnf); first
        | (with_reducible refine And.intro ?_ ?_)
        | (with_reducible exact True.intro)
        | ((with_reducible refine Ob.mk ?_); first | (with_reducible rfl) | (first | ((repeat (first | (with_reducible exact grd_p H) | (replace H := grd_k H) | (replace H := out_step H (by assumption)))); done) | rfl | ((repeat (first | exact grd_p H | replace H := grd_k H | replace H := out_step H (by assumption))); done) | ((repeat (first | exact grd_p H | (have hp := grd_p H; exact hp) | replace H := grd_k H | replace H := out_step H (by assumption) | (replace H := bind_some H; obtain ⟨_, _, H⟩ := H))); done) | (repeat (first | exact grd_p H | replace H := grd_k H | replace H := out_step H (by assumption)))))
        | ((with_reducible refine CallW.mk ?_); (repeat (first | replace H := grd_k H | replace H := out_step H (by assumption))); replace H := bind_some H; obtain ⟨y, hy, H⟩ := H; first | ((with_reducible have hz : impl_IsGripState _ = some y := hy); clear hz; refine Exists.intro _ (Exists.intro _ ⟨impl_IsGripState.call hy ?_, rfl, rfl, ?_⟩)) | ((with_reducible have hz : impl_gripText _ = some y := hy); clear hz; refine Exists.intro _ (Exists.intro _ ⟨impl_gripText.call hy ?_, rfl, rfl, ?_⟩)))
        | ((with_reducible refine fin_mk ?_); (repeat (first | replace H := grd_k H | replace H := out_step H (by assumption))); have H := Option.some.inj H; subst H))
    | constructor
def G34 : Env := G33.add 13 [] impl_GripText.S
theorem G34_ok : EnvOk Tryd.prog G34 := G33_ok.add ent_13 fun ar h r h1 ⟨a0, y, hy, e1, e2, e3, e4⟩ => by
  subst e3 e4; exact (impl_GripText.spec a0 y hy).le e1 e2
attribute [local irreducible] impl_GripText

noncomputable def strings_Cut (a0 : ByteArray) (a1 : ByteArray) : Option (ByteArray × ByteArray × Bool) :=
  (grd (a0.size < 4294967281) ((some ((cutA a0 a1), (cutB a0 a1), (cutF a0 a1)))))
def strings_Cut.res (_ : ByteArray) (_ : ByteArray) (y : ByteArray × ByteArray × Bool) : AV := (.tup [(.v (.string y.1)), (.v (.string y.2.1)), (.bl y.2.2)])
def strings_Cut.out (_ : ByteArray) (_ : ByteArray) (_ : ByteArray × ByteArray × Bool) : List (Option LB) := []
def strings_Cut.S (ar : List AV) (h : List (Option LB)) (r : AV) (h1 : List (Option LB)) : Prop := ∃ a0 a1 y, strings_Cut a0 a1 = some y ∧ leL ar [(.v (.string a0)), (.v (.string a1))] ∧ leH h [] ∧ r = strings_Cut.res a0 a1 y ∧ h1 = strings_Cut.out a0 a1 y
theorem strings_Cut.call {ar : List AV} {h : List (Option LB)} {a0 : ByteArray} {a1 : ByteArray} {y : ByteArray × ByteArray × Bool} (H : strings_Cut a0 a1 = some y) (h0 : leLk ar [(.v (.string a0)), (.v (.string a1))] (leHk h [])) : strings_Cut.S ar h (strings_Cut.res a0 a1 y) (strings_Cut.out a0 a1 y) := ⟨a0, a1, y, H, (args_ok h0).1, (args_ok h0).2, rfl, rfl⟩
theorem strings_Cut.spec (a0 : ByteArray) (a1 : ByteArray) (y : ByteArray × ByteArray × Bool) (H : strings_Cut a0 a1 = some y) : Spec Tryd.prog 27 [(.v (.string a0)), (.v (.string a1))] [] (strings_Cut.res a0 a1 y) (strings_Cut.out a0 a1 y) := by
  have hg := grd_p H
  have H := Option.some.inj (grd_k H)
  subst H
  exact ext_strings_Cut a0 a1 hg
def G35 : Env := G34.add 27 [] strings_Cut.S
theorem G35_ok : EnvOk Tryd.prog G35 := G34_ok.add ent_27 fun ar h r h1 ⟨a0, a1, y, hy, e1, e2, e3, e4⟩ => by
  subst e3 e4; exact (strings_Cut.spec a0 a1 y hy).le e1 e2
attribute [local irreducible] strings_Cut

end Go.Proofs.YtbjhcjhkmppocaaDoor
