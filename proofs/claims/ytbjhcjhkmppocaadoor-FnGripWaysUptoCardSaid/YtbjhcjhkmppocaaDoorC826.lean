/-
  Contracts, printed by a program.
-/
import Derived.Test.YtbjhcjhkmppocaaDoorC825
namespace Go.Proofs.YtbjhcjhkmppocaaDoor
open Go.RowKit
attribute [local irreducible] Ob loopwp Sub Spec Fin Again CallW CutC KOb iter joinx outm

attribute [local irreducible] laws_vBig spec_l1Cur_next spec_l1Cur_pick spec_l1Cur_among spec_l1Cur_one spec_l1Cur_gripStep spec_l1In spec_l21Good spec_l21Step spec_l1Least spec_l21Move spec_l21Make spec_StepGrip spec_l1Cur_gripState spec_DrawIsGripState spec_DrawStepsToRope impl_within impl_IsGripState impl_GripState_step impl_GripState_someSteps impl_GripState_stepsTo impl_StepsToRope spec_l21Try spec_l21In spec_l21To spec_StepsToRope impl_StepsHome spec_StepsHome spec_DrawStepGrip impl_StepGrip spec_DrawGripText strconv_Itoa impl_gripText impl_GripText strings_Cut

noncomputable def slices_Index___string_string__loop1 (a0 : (List ByteArray)) (a1 : ByteArray) (v2 : Int) : Option (Lp (Int) ((Int) ⊕ (Unit))) :=
  (cond (decide (v2 < (a0.length : Int))) (grd (0 ≤ v2 ∧ v2 < (a0.length : Int)) (cond (decide (a1 = (a0.getD v2.toNat (ByteArray.mk #[])))) ((some (.out (Sum.inl v2)))) (some (.go (w64 (v2 + (1 : Int))))))) ((some (.out (Sum.inr ())))))
noncomputable def slices_Index___string_string_ (a0 : (List ByteArray)) (a1 : ByteArray) : Option (Int) :=
  ((iter (fun s => slices_Index___string_string__loop1 a0 a1 s) (0 : Int)).bind (Sum.elim (fun r4 => (some r4)) (fun _ => (some ((-1) : Int)))))
def slices_Index___string_string_.res (_ : (List ByteArray)) (_ : ByteArray) (y : Int) : AV := (.v (.int .i64 y))
def slices_Index___string_string_.out (_ : (List ByteArray)) (_ : ByteArray) (_ : Int) : List (Option LB) := []
def slices_Index___string_string_.S (ar : List AV) (h : List (Option LB)) (r : AV) (h1 : List (Option LB)) : Prop := ∃ a0 a1 y, slices_Index___string_string_ a0 a1 = some y ∧ leL ar [(.tree .str a0), (.v (.string a1))] ∧ leH h [] ∧ r = slices_Index___string_string_.res a0 a1 y ∧ h1 = slices_Index___string_string_.out a0 a1 y
theorem slices_Index___string_string_.call {ar : List AV} {h : List (Option LB)} {a0 : (List ByteArray)} {a1 : ByteArray} {y : Int} (H : slices_Index___string_string_ a0 a1 = some y) (h0 : leLk ar [(.tree .str a0), (.v (.string a1))] (leHk h [])) : slices_Index___string_string_.S ar h (slices_Index___string_string_.res a0 a1 y) (slices_Index___string_string_.out a0 a1 y) := ⟨a0, a1, y, H, (args_ok h0).1, (args_ok h0).2, rfl, rfl⟩
set_option maxHeartbeats 100000000 in
set_option maxRecDepth 100000 in
theorem slices_Index___string_string_.spec (a0 : (List ByteArray)) (a1 : ByteArray) (y : Int) (H : slices_Index___string_string_ a0 a1 = some y) : Spec Tryd.prog 28 [(.tree .str a0), (.v (.string a1))] [] (slices_Index___string_string_.res a0 a1 y) (slices_Index___string_string_.out a0 a1 y) := by
  refine spec_intro (G35_ok.at tok []) (ct := []) Tryd.func28 rfl (by kernel_rfl) (by kernel_rfl) rfl ?_
  repeat' first
    | ((with_reducible refine eqg ?_); exact rfl)
    | ((with_reducible refine KOb.mk ?_); kernel_rfl)
    | ((with_reducible intro h); (repeat (first | replace H := grd_k H | replace H := out_step H (by assumption))); first | replace H := cond_t h H | replace H := cond_f h H | exact absurd h (by decide) | skip)
    | ((with_reducible refine Ob.mk ?_); first | (with_reducible rfl) | (first | ((repeat (first | (with_reducible exact grd_p H) | (replace H := grd_k H) | (replace H := out_step H (by assumption)))); done) | rfl | ((repeat (first | exact grd_p H | replace H := grd_k H | replace H := out_step H (by assumption))); done) | ((repeat (first | exact grd_p H | (have hp := grd_p H; exact hp) | replace H := grd_k H | replace H := out_step H (by assumption) | (replace H := bind_some H; obtain ⟨_, _, H⟩ := H))); done) | (repeat (first | exact grd_p H | replace H := grd_k H | replace H := out_step H (by assumption)))))
    | (with_reducible exact True.intro)
    | ((conv => whnf); first
        | (with_reducible refine And.intro ?_ ?_)
        | (with_reducible exact True.intro)
        | ((with_reducible refine Ob.mk ?_); first | (with_reducible rfl) | (first | ((repeat (first | (with_reducible exact grd_p H) | (replace H := grd_k H) | (replace H := out_step H (by assumption)))); done) | rfl | ((repeat (first | exact grd_p H | replace H := grd_k H | replace H := out_step H (by assumption))); done) | ((repeat (first | exact grd_p H | (have hp := grd_p H; exact hp) | replace H := grd_k H | replace H := out_step H (by assumption) | (replace H := bind_some H; obtain ⟨_, _, H⟩ := H))); done) | (repeat (first | exact grd_p H | replace H := grd_k H | replace H := out_step H (by assumption)))))
        | ((repeat (first | replace H := grd_k H | replace H := out_step H (by assumption))); refine loop_iter (G35_ok.at tok []) (ct := []) (F := (fun s1 : Int => ⟨sl [(0, (.tree .str a0)), (1, (.v (.string a1))), (7, (.v (.int .i64 (a0.length : Int)))), (8, (.v (.int .i64 s1)))], []⟩)) (step := (fun s : Int => slices_Index___string_string__loop1 _ _ s)) _ H (by kernel_rfl) (sub_auto ?_) ?_; rotate_left; (intro s1 r v hr H); rotate_right)
        | ((repeat (first | replace H := grd_k H | replace H := out_step H (by assumption))); refine again_step H (by assumption) (sub_auto ?_))
        | ((with_reducible refine fin_mk ?_); (repeat (first | replace H := grd_k H | replace H := out_step H (by assumption))); have H := Option.some.inj H; subst H))
    | constructor
  all_goals exact viewz _ _
def G36 : Env := G35.add 28 [] slices_Index___string_string_.S
theorem G36_ok : EnvOk Tryd.prog G36 := G35_ok.add ent_28 fun ar h r h1 ⟨a0, a1, y, hy, e1, e2, e3, e4⟩ => by
  subst e3 e4; exact (slices_Index___string_string_.spec a0 a1 y hy).le e1 e2
attribute [local irreducible] slices_Index___string_string_

noncomputable def impl_ParseInt (a0 : ByteArray) : Option (Int × Bool) :=
  (some (((parseI a0).1), ((parseI a0).2)))
def impl_ParseInt.res (_ : ByteArray) (y : Int × Bool) : AV := (.tup [(.v (.int .i64 y.1)), (.bl y.2)])
def impl_ParseInt.out (_ : ByteArray) (_ : Int × Bool) : List (Option LB) := []
def impl_ParseInt.S (ar : List AV) (h : List (Option LB)) (r : AV) (h1 : List (Option LB)) : Prop := ∃ a0 y, impl_ParseInt a0 = some y ∧ leL ar [(.v (.string a0))] ∧ leH h [] ∧ r = impl_ParseInt.res a0 y ∧ h1 = impl_ParseInt.out a0 y
theorem impl_ParseInt.call {ar : List AV} {h : List (Option LB)} {a0 : ByteArray} {y : Int × Bool} (H : impl_ParseInt a0 = some y) (h0 : leLk ar [(.v (.string a0))] (leHk h [])) : impl_ParseInt.S ar h (impl_ParseInt.res a0 y) (impl_ParseInt.out a0 y) := ⟨a0, y, H, (args_ok h0).1, (args_ok h0).2, rfl, rfl⟩
theorem impl_ParseInt.spec (a0 : ByteArray) (y : Int × Bool) (H : impl_ParseInt a0 = some y) : Spec Tryd.prog 29 [(.v (.string a0))] [] (impl_ParseInt.res a0 y) (impl_ParseInt.out a0 y) := by
  have H := Option.some.inj H
  subst H
  exact ext_impl_ParseInt a0
def G37 : Env := G36.add 29 [] impl_ParseInt.S
theorem G37_ok : EnvOk Tryd.prog G37 := G36_ok.add ent_29 fun ar h r h1 ⟨a0, y, hy, e1, e2, e3, e4⟩ => by
  subst e3 e4; exact (impl_ParseInt.spec a0 y hy).le e1 e2
attribute [local irreducible] impl_ParseInt

noncomputable def impl_ParseGrip (a0 : ByteArray) : Option (GripState × Bool) :=
  ((strings_Cut a0 (ByteArray.mk #[32, 105, 110, 32])).bind fun y1 => ((strings_Cut y1.2.1 (ByteArray.mk #[32, 119, 105, 116, 104, 32])).bind fun y2 => (((slices_Index___string_string_ [(ByteArray.mk #[111, 112, 101, 110]), (ByteArray.mk #[99, 108, 111, 115, 105, 110, 103]), (ByteArray.mk #[115, 104, 117, 116]), (ByteArray.mk #[111, 112, 101, 110, 105, 110, 103]), (ByteArray.mk #[108, 111, 99, 107, 101, 100])] y1.1).bind fun y3 => ((slices_Index___string_string_ [(ByteArray.mk #[115, 116, 97, 116, 105, 111, 110]), (ByteArray.mk #[101, 110, 116, 114, 121]), (ByteArray.mk #[114, 111, 112, 101]), (ByteArray.mk #[101, 120, 105, 116])] y2.1).bind fun y4 => (some ((Tg.mk : Tg 1), y2.2.1, y3, y4)))).bind fun z5 => ((impl_ParseInt z5.2.1).bind fun y6 => ((impl_IsGripState (z5.2.2.1, z5.2.2.2, y6.1, (0 : Int), ())).bind fun y7 => (cond (!y7) ((some (((0 : Int), (0 : Int), (0 : Int), (0 : Int), ()), false))) ((impl_gripText (z5.2.2.1, z5.2.2.2, y6.1, (0 : Int), ())).bind fun y8 => (cond (!decide (y8 = a0)) ((some (((0 : Int), (0 : Int), (0 : Int), (0 : Int), ()), false))) ((some ((z5.2.2.1, z5.2.2.2, y6.1, (0 : Int), ()), true)))))))))))
def impl_ParseGrip.res (_ : ByteArray) (y : GripState × Bool) : AV := (.tup [(.agg [(.v (.int .i64 y.1.1)), (.v (.int .i64 y.1.2.1)), (.v (.int .i64 y.1.2.2.1)), (.v (.int .i64 y.1.2.2.2.1))]), (.bl y.2)])
def impl_ParseGrip.out (_ : ByteArray) (_ : GripState × Bool) : List (Option LB) := []
def impl_ParseGrip.S (ar : List AV) (h : List (Option LB)) (r : AV) (h1 : List (Option LB)) : Prop := ∃ a0 y, impl_ParseGrip a0 = some y ∧ leL ar [(.v (.string a0))] ∧ leH h [] ∧ r = impl_ParseGrip.res a0 y ∧ h1 = impl_ParseGrip.out a0 y
theorem impl_ParseGrip.call {ar : List AV} {h : List (Option LB)} {a0 : ByteArray} {y : GripState × Bool} (H : impl_ParseGrip a0 = some y) (h0 : leLk ar [(.v (.string a0))] (leHk h [])) : impl_ParseGrip.S ar h (impl_ParseGrip.res a0 y) (impl_ParseGrip.out a0 y) := ⟨a0, y, H, (args_ok h0).1, (args_ok h0).2, rfl, rfl⟩
set_option maxHeartbeats 100000000 in
set_option maxRecDepth 100000 in
theorem impl_ParseGrip.spec (a0 : ByteArray) (y : GripState × Bool) (H : impl_ParseGrip a0 = some y) : Spec Tryd.prog 14 [(.v (.string a0))] [] (impl_ParseGrip.res a0 y) (impl_ParseGrip.out a0 y) := by
  refine spec_intro (G37_ok.at tok []) (ct := [(4, none), (3, some [0, 2, 4, 7, 8, 40, 41, 42, 43]), (6, some [2, 10, 44])]) Tryd.func14 rfl (by kernel_rfl) (by kernel_rfl) rfl ?_
  repeat' first
    | ((with_reducible refine eqg ?_); exact rfl)
    | ((with_reducible refine KOb.mk ?_); kernel_rfl)
    | ((with_reducible intro h); (repeat (first | replace H := grd_k H | replace H := out_step H (by assumption))); first | replace H := cond_t h H | replace H := cond_f h H | exact absurd h (by decide) | skip)
    | ((with_reducible refine Ob.mk ?_); first | (with_reducible rfl) | (first | ((repeat (first | (with_reducible exact grd_p H) | (replace H := grd_k H) | (replace H := out_step H (by assumption)))); done) | rfl | ((repeat (first | exact grd_p H | replace H := grd_k H | replace H := out_step H (by assumption))); done) | ((repeat (first | exact grd_p H | (have hp := grd_p H; exact hp) | replace H := grd_k H | replace H := out_step H (by assumption) | (replace H := bind_some H; obtain ⟨_, _, H⟩ := H))); done) | (repeat (first | exact grd_p H | replace H := grd_k H | replace H := out_step H (by assumption)))))
    | (with_reducible exact True.intro)
    | ((conv => whnf); first
        | (with_reducible refine And.intro ?_ ?_)
        | (with_reducible exact True.intro)
        | ((with_reducible refine Ob.mk ?_); first | (with_reducible rfl) | (first | ((repeat (first | (with_reducible exact grd_p H) | (replace H := grd_k H) | (replace H := out_step H (by assumption)))); done) | rfl | ((repeat (first | exact grd_p H | replace H := grd_k H | replace H := out_step H (by assumption))); done) | ((repeat (first | exact grd_p H | (have hp := grd_p H; exact hp) | replace H := grd_k H | replace H := out_step H (by assumption) | (replace H := bind_some H; obtain ⟨_, _, H⟩ := H))); done) | (repeat (first | exact grd_p H | replace H := grd_k H | replace H := out_step H (by assumption)))))
        | ((with_reducible refine CallW.mk ?_); (repeat (first | replace H := grd_k H | replace H := out_step H (by assumption))); replace H := bind_some H; obtain ⟨y, hy, H⟩ := H; first | ((with_reducible have hz : strings_Cut _ _ = some y := hy); clear hz; refine Exists.intro _ (Exists.intro _ ⟨strings_Cut.call hy ?_, rfl, rfl, ?_⟩)) | ((with_reducible have hz : slices_Index___string_string_ _ _ = some y := hy); clear hz; refine Exists.intro _ (Exists.intro _ ⟨slices_Index___string_string_.call hy ?_, rfl, rfl, ?_⟩)) | ((with_reducible have hz : impl_ParseInt _ = some y := hy); clear hz; refine Exists.intro _ (Exists.intro _ ⟨impl_ParseInt.call hy ?_, rfl, rfl, ?_⟩)) | ((with_reducible have hz : impl_IsGripState _ = some y := hy); clear hz; refine Exists.intro _ (Exists.intro _ ⟨impl_IsGripState.call hy ?_, rfl, rfl, ?_⟩)) | ((with_reducible have hz : impl_gripText _ = some y := hy); clear hz; refine Exists.intro _ (Exists.intro _ ⟨impl_gripText.call hy ?_, rfl, rfl, ?_⟩)))
        | ((with_reducible refine cutAt (id := 4) ?_); (repeat (first | replace H := grd_k H | replace H := out_step H (by assumption))); first | (replace H := bind_some H; obtain ⟨z, hz, H⟩ := H; have hT : Tg 1 × ByteArray × Int × Int := z; clear hT; refine CutC.mk (id := 4) ⟨sl [(0, (.v (.string a0))), (2, (.loc 0 0 0)), (8, (.v (.string z.2.1))), (10, (.loc 1 0 0))], [some (.box 25 [(.v (.int .i64 (0 : Int))), (.v (.int .i64 (0 : Int))), (.v (.int .i64 (0 : Int))), (.v (.int .i64 (0 : Int)))]), some (.box 25 [(.v (.int .i64 z.2.2.1)), (.v (.int .i64 z.2.2.2)), (.v (.int .i64 (0 : Int))), (.v (.int .i64 (0 : Int)))])]⟩ ?_ ?_; (replace H := hz)))
        | ((repeat (first | replace H := grd_k H | replace H := out_step H (by assumption))); have H := Option.some.inj H; subst H; with_reducible refine sub_auto ?_)
        | ((with_reducible refine fin_mk ?_); (repeat (first | replace H := grd_k H | replace H := out_step H (by assumption))); have H := Option.some.inj H; subst H))
    | constructor
def G38 : Env := G37.add 14 [] impl_ParseGrip.S
theorem G38_ok : EnvOk Tryd.prog G38 := G37_ok.add ent_14 fun ar h r h1 ⟨a0, y, hy, e1, e2, e3, e4⟩ => by
  subst e3 e4; exact (impl_ParseGrip.spec a0 y hy).le e1 e2
attribute [local irreducible] impl_ParseGrip

noncomputable def spec_l21States  : Option ((List ByteArray)) :=
  (some [(ByteArray.mk #[111, 112, 101, 110]), (ByteArray.mk #[99, 108, 111, 115, 105, 110, 103]), (ByteArray.mk #[115, 104, 117, 116]), (ByteArray.mk #[111, 112, 101, 110, 105, 110, 103]), (ByteArray.mk #[108, 111, 99, 107, 101, 100])])
def spec_l21States.res  (_ : (List ByteArray)) : AV := (.own 0)
def spec_l21States.out  (y : (List ByteArray)) : List (Option LB) := [some (.arr 9 .str y)]
def spec_l21States.S (ar : List AV) (h : List (Option LB)) (r : AV) (h1 : List (Option LB)) : Prop := ∃ y, spec_l21States  = some y ∧ leL ar [] ∧ leH h [] ∧ r = spec_l21States.res  y ∧ h1 = spec_l21States.out  y
theorem spec_l21States.call {ar : List AV} {h : List (Option LB)}  {y : (List ByteArray)} (H : spec_l21States  = some y) (h0 : leLk ar [] (leHk h [])) : spec_l21States.S ar h (spec_l21States.res  y) (spec_l21States.out  y) := ⟨y, H, (args_ok h0).1, (args_ok h0).2, rfl, rfl⟩
set_option maxHeartbeats 100000000 in
set_option maxRecDepth 100000 in
theorem spec_l21States.spec  (y : (List ByteArray)) (H : spec_l21States  = some y) : Spec Tryd.prog 47 [] [] (spec_l21States.res  y) (spec_l21States.out  y) := by
  refine spec_intro (G38_ok.at tok []) (ct := []) Tryd.func47 rfl (by kernel_rfl) (by kernel_rfl) rfl ?_
  repeat' first
    | ((with_reducible refine eqg ?_); exact rfl)
    | ((with_reducible refine KOb.mk ?_); kernel_rfl)
    | ((with_reducible intro h); (repeat (first | replace H := grd_k H | replace H := out_step H (by assumption))); first | replace H := cond_t h H | replace H := cond_f h H | exact absurd h (by decide) | skip)
    | ((with_reducible refine Ob.mk ?_); first | (with_reducible rfl) | (first | ((repeat (first | (with_reducible exact grd_p H) | (replace H := grd_k H) | (replace H := out_step H (by assumption)))); done) | rfl | ((repeat (first | exact grd_p H | replace H := grd_k H | replace H := out_step H (by assumption))); done) | ((repeat (first | exact grd_p H | (have hp := grd_p H; exact hp) | replace H := grd_k H | replace H := out_step H (by assumption) | (replace H := bind_some H; obtain ⟨_, _, H⟩ := H))); done) | (repeat (first | exact grd_p H | replace H := grd_k H | replace H := out_step H (by assumption)))))
    | (with_reducible exact True.intro)
    | ((conv => whnf); first
        | (with_reducible refine And.intro ?_ ?_)
        | (with_reducible exact True.intro)
        | ((with_reducible refine Ob.mk ?_); first | (with_reducible rfl) | (first | ((repeat (first | (with_reducible exact grd_p H) | (replace H := grd_k H) | (replace H := out_step H (by assumption)))); done) | rfl | ((repeat (first | exact grd_p H | replace H := grd_k H | replace H := out_step H (by assumption))); done) | ((repeat (first | exact grd_p H | (have hp := grd_p H; exact hp) | replace H := grd_k H | replace H := out_step H (by assumption) | (replace H := bind_some H; obtain ⟨_, _, H⟩ := H))); done) | (repeat (first | exact grd_p H | replace H := grd_k H | replace H := out_step H (by assumption)))))
        | ((with_reducible refine fin_mk ?_); (repeat (first | replace H := grd_k H | replace H := out_step H (by assumption))); have H := Option.some.inj H; subst H))
    | constructor
def G39 : Env := G38.add 47 [] spec_l21States.S
theorem G39_ok : EnvOk Tryd.prog G39 := G38_ok.add ent_47 fun ar h r h1 ⟨y, hy, e1, e2, e3, e4⟩ => by
  subst e3 e4; exact (spec_l21States.spec y hy).le e1 e2
attribute [local irreducible] spec_l21States

noncomputable def spec_l21Zones  : Option ((List ByteArray)) :=
  (some [(ByteArray.mk #[115, 116, 97, 116, 105, 111, 110]), (ByteArray.mk #[101, 110, 116, 114, 121]), (ByteArray.mk #[114, 111, 112, 101]), (ByteArray.mk #[101, 120, 105, 116])])
def spec_l21Zones.res  (_ : (List ByteArray)) : AV := (.own 0)
def spec_l21Zones.out  (y : (List ByteArray)) : List (Option LB) := [some (.arr 9 .str y)]
def spec_l21Zones.S (ar : List AV) (h : List (Option LB)) (r : AV) (h1 : List (Option LB)) : Prop := ∃ y, spec_l21Zones  = some y ∧ leL ar [] ∧ leH h [] ∧ r = spec_l21Zones.res  y ∧ h1 = spec_l21Zones.out  y
theorem spec_l21Zones.call {ar : List AV} {h : List (Option LB)}  {y : (List ByteArray)} (H : spec_l21Zones  = some y) (h0 : leLk ar [] (leHk h [])) : spec_l21Zones.S ar h (spec_l21Zones.res  y) (spec_l21Zones.out  y) := ⟨y, H, (args_ok h0).1, (args_ok h0).2, rfl, rfl⟩
set_option maxHeartbeats 100000000 in
set_option maxRecDepth 100000 in
theorem spec_l21Zones.spec  (y : (List ByteArray)) (H : spec_l21Zones  = some y) : Spec Tryd.prog 48 [] [] (spec_l21Zones.res  y) (spec_l21Zones.out  y) := by
  refine spec_intro (G39_ok.at tok []) (ct := []) Tryd.func48 rfl (by kernel_rfl) (by kernel_rfl) rfl ?_
  repeat' first
    | ((with_reducible refine eqg ?_); exact rfl)
    | ((with_reducible refine KOb.mk ?_); kernel_rfl)
    | ((with_reducible intro h); (repeat (first | replace H := grd_k H | replace H := out_step H (by assumption))); first | replace H := cond_t h H | replace H := cond_f h H | exact absurd h (by decide) | skip)
    | ((with_reducible refine Ob.mk ?_); first | (with_reducible rfl) | (first | ((repeat (first | (with_reducible exact grd_p H) | (replace H := grd_k H) | (replace H := out_step H (by assumption)))); done) | rfl | ((repeat (first | exact grd_p H | replace H := grd_k H | replace H := out_step H (by assumption))); done) | ((repeat (first | exact grd_p H | (have hp := grd_p H; exact hp) | replace H := grd_k H | replace H := out_step H (by assumption) | (replace H := bind_some H; obtain ⟨_, _, H⟩ := H))); done) | (repeat (first | exact grd_p H | replace H := grd_k H | replace H := out_step H (by assumption)))))
    | (with_reducible exact True.intro)
    | ((conv => whnf); first
        | (with_reducible refine And.intro ?_ ?_)
        | (with_reducible exact True.intro)
        | ((with_reducible refine Ob.mk ?_); first | (with_reducible rfl) | (first | ((repeat (first | (with_reducible exact grd_p H) | (replace H := grd_k H) | (replace H := out_step H (by assumption)))); done) | rfl | ((repeat (first | exact grd_p H | replace H := grd_k H | replace H := out_step H (by assumption))); done) | ((repeat (first | exact grd_p H | (have hp := grd_p H; exact hp) | replace H := grd_k H | replace H := out_step H (by assumption) | (replace H := bind_some H; obtain ⟨_, _, H⟩ := H))); done) | (repeat (first | exact grd_p H | replace H := grd_k H | replace H := out_step H (by assumption)))))
        | ((with_reducible refine fin_mk ?_); (repeat (first | replace H := grd_k H | replace H := out_step H (by assumption))); have H := Option.some.inj H; subst H))
    | constructor
def G40 : Env := G39.add 48 [] spec_l21Zones.S
theorem G40_ok : EnvOk Tryd.prog G40 := G39_ok.add ent_48 fun ar h r h1 ⟨y, hy, e1, e2, e3, e4⟩ => by
  subst e3 e4; exact (spec_l21Zones.spec y hy).le e1 e2
attribute [local irreducible] spec_l21Zones

noncomputable def spec_l1Num_f : Nat → Int → Option (ByteArray)
  | 0, _ => none
  | k + 1, a0 => (cond (decide (a0 < (0 : Int))) ((spec_l1Num_f k (w64 (0 - a0))).bind fun y1 => (grd ((ByteArray.mk #[45]).size + y1.size ≤ 9223372036854775807) ((some ((ByteArray.mk #[45]) ++ y1))))) (cond (decide (a0 < (10 : Int))) (grd (0 ≤ a0 ∧ a0 ≤ (w64 (a0 + (1 : Int))) ∧ (w64 (a0 + (1 : Int))) ≤ ((ByteArray.mk #[48, 49, 50, 51, 52, 53, 54, 55, 56, 57]).size : Int)) ((some (bsub (ByteArray.mk #[48, 49, 50, 51, 52, 53, 54, 55, 56, 57]) a0 (w64 (a0 + (1 : Int))))))) (grd ((10 : Int) ≠ 0) ((spec_l1Num_f k (w64 (Int.tdiv a0 (10 : Int)))).bind fun y2 => (grd ((10 : Int) ≠ 0) (grd ((10 : Int) ≠ 0) (grd (0 ≤ (Int.tmod a0 (10 : Int)) ∧ (Int.tmod a0 (10 : Int)) ≤ (w64 ((Int.tmod a0 (10 : Int)) + (1 : Int))) ∧ (w64 ((Int.tmod a0 (10 : Int)) + (1 : Int))) ≤ ((ByteArray.mk #[48, 49, 50, 51, 52, 53, 54, 55, 56, 57]).size : Int)) (grd (y2.size + (bsub (ByteArray.mk #[48, 49, 50, 51, 52, 53, 54, 55, 56, 57]) (Int.tmod a0 (10 : Int)) (w64 ((Int.tmod a0 (10 : Int)) + (1 : Int)))).size ≤ 9223372036854775807) ((some (y2 ++ (bsub (ByteArray.mk #[48, 49, 50, 51, 52, 53, 54, 55, 56, 57]) (Int.tmod a0 (10 : Int)) (w64 ((Int.tmod a0 (10 : Int)) + (1 : Int)))))))))))))))
theorem spec_l1Num_f_succ (k : Nat) (a0 : Int) : spec_l1Num_f (k + 1) a0 = (cond (decide (a0 < (0 : Int))) ((spec_l1Num_f k (w64 (0 - a0))).bind fun y1 => (grd ((ByteArray.mk #[45]).size + y1.size ≤ 9223372036854775807) ((some ((ByteArray.mk #[45]) ++ y1))))) (cond (decide (a0 < (10 : Int))) (grd (0 ≤ a0 ∧ a0 ≤ (w64 (a0 + (1 : Int))) ∧ (w64 (a0 + (1 : Int))) ≤ ((ByteArray.mk #[48, 49, 50, 51, 52, 53, 54, 55, 56, 57]).size : Int)) ((some (bsub (ByteArray.mk #[48, 49, 50, 51, 52, 53, 54, 55, 56, 57]) a0 (w64 (a0 + (1 : Int))))))) (grd ((10 : Int) ≠ 0) ((spec_l1Num_f k (w64 (Int.tdiv a0 (10 : Int)))).bind fun y2 => (grd ((10 : Int) ≠ 0) (grd ((10 : Int) ≠ 0) (grd (0 ≤ (Int.tmod a0 (10 : Int)) ∧ (Int.tmod a0 (10 : Int)) ≤ (w64 ((Int.tmod a0 (10 : Int)) + (1 : Int))) ∧ (w64 ((Int.tmod a0 (10 : Int)) + (1 : Int))) ≤ ((ByteArray.mk #[48, 49, 50, 51, 52, 53, 54, 55, 56, 57]).size : Int)) (grd (y2.size + (bsub (ByteArray.mk #[48, 49, 50, 51, 52, 53, 54, 55, 56, 57]) (Int.tmod a0 (10 : Int)) (w64 ((Int.tmod a0 (10 : Int)) + (1 : Int)))).size ≤ 9223372036854775807) ((some (y2 ++ (bsub (ByteArray.mk #[48, 49, 50, 51, 52, 53, 54, 55, 56, 57]) (Int.tmod a0 (10 : Int)) (w64 ((Int.tmod a0 (10 : Int)) + (1 : Int))))))))))))))) := rfl
attribute [local irreducible] spec_l1Num_f
noncomputable def spec_l1Num (a0 : Int) : Option (ByteArray) := spec_l1Num_f 64 a0
def spec_l1Num.res (_ : Int) (y : ByteArray) : AV := (.v (.string y))
def spec_l1Num.out (_ : Int) (_ : ByteArray) : List (Option LB) := []
def spec_l1Num.S (ar : List AV) (h : List (Option LB)) (r : AV) (h1 : List (Option LB)) : Prop := ∃ a0 y, spec_l1Num a0 = some y ∧ leL ar [(.v (.int .i64 a0))] ∧ leH h [] ∧ r = spec_l1Num.res a0 y ∧ h1 = spec_l1Num.out a0 y
theorem spec_l1Num.call {ar : List AV} {h : List (Option LB)} {a0 : Int} {y : ByteArray} (H : spec_l1Num a0 = some y) (h0 : leLk ar [(.v (.int .i64 a0))] (leHk h [])) : spec_l1Num.S ar h (spec_l1Num.res a0 y) (spec_l1Num.out a0 y) := ⟨a0, y, H, (args_ok h0).1, (args_ok h0).2, rfl, rfl⟩
def spec_l1Num_f.S (k : Nat) (ar : List AV) (h : List (Option LB)) (r : AV) (h1 : List (Option LB)) : Prop := ∃ a0 y, spec_l1Num_f k a0 = some y ∧ leL ar [(.v (.int .i64 a0))] ∧ leH h [] ∧ r = spec_l1Num.res a0 y ∧ h1 = spec_l1Num.out a0 y
theorem spec_l1Num_f.call {k : Nat} {ar : List AV} {h : List (Option LB)} {a0 : Int} {y : ByteArray} (H : spec_l1Num_f k a0 = some y) (h0 : leLk ar [(.v (.int .i64 a0))] (leHk h [])) : spec_l1Num_f.S k ar h (spec_l1Num.res a0 y) (spec_l1Num.out a0 y) := ⟨a0, y, H, (args_ok h0).1, (args_ok h0).2, rfl, rfl⟩
set_option maxHeartbeats 100000000 in
set_option maxRecDepth 100000 in
theorem spec_l1Num_f.spec (k : Nat) : ∀ (a0 : Int) (y : ByteArray) (_ : spec_l1Num_f k a0 = some y), Spec Tryd.prog 49 [(.v (.int .i64 a0))] [] (spec_l1Num.res a0 y) (spec_l1Num.out a0 y) := by
  induction k with
  | zero => intro a0 y H; unfold spec_l1Num_f at H; cases H
  | succ k IH =>
  intro a0 y H
  have H := (spec_l1Num_f_succ k a0).symm.trans H
  have hG : EnvOk Tryd.prog (G40.add 49 [] (spec_l1Num_f.S k)) := G40_ok.add ent_49 fun ar h r h1 ⟨a0, y, hy, e1, e2, e3, e4⟩ => by
    subst e3 e4; exact (IH a0 y hy).le e1 e2
  clear IH
  refine spec_intro (hG.at tok []) (ct := [(5, some [0])]) Tryd.func49 rfl (by kernel_rfl) (by kernel_rfl) rfl ?_
  repeat' first
    | ((with_reducible refine eqg ?_); exact rfl)
    | ((with_reducible refine KOb.mk ?_); kernel_rfl)
    | ((with_reducible intro h); (repeat (first | replace H := grd_k H | replace H := out_step H (by assumption))); first | replace H := cond_t h H | replace H := cond_f h H | exact absurd h (by decide) | skip)
    | ((with_reducible refine Ob.mk ?_); first | (with_reducible rfl) | (first | ((repeat (first | (with_reducible exact grd_p H) | (replace H := grd_k H) | (replace H := out_step H (by assumption)))); done) | rfl | ((repeat (first | exact grd_p H | replace H := grd_k H | replace H := out_step H (by assumption))); done) | ((repeat (first | exact grd_p H | (have hp := grd_p H; exact hp) | replace H := grd_k H | replace H := out_step H (by assumption) | (replace H := bind_some H; obtain ⟨_, _, H⟩ := H))); done) | (repeat (first | exact grd_p H | replace H := grd_k H | replace H := out_step H (by assumption)))))
    | (with_reducible exact True.intro)
    | ((conv => whnf); first
        | (with_reducible refine And.intro ?_ ?_)
        | (with_reducible exact True.intro)
        | ((with_reducible refine Ob.mk ?_); first | (with_reducible rfl) | (first | ((repeat (first | (with_reducible exact grd_p H) | (replace H := grd_k H) | (replace H := out_step H (by assumption)))); done) | rfl | ((repeat (first | exact grd_p H | replace H := grd_k H | replace H := out_step H (by assumption))); done) | ((repeat (first | exact grd_p H | (have hp := grd_p H; exact hp) | replace H := grd_k H | replace H := out_step H (by assumption) | (replace H := bind_some H; obtain ⟨_, _, H⟩ := H))); done) | (repeat (first | exact grd_p H | replace H := grd_k H | replace H := out_step H (by assumption)))))
        | ((with_reducible refine CallW.mk ?_); (repeat (first | replace H := grd_k H | replace H := out_step H (by assumption))); replace H := bind_some H; obtain ⟨y, hy, H⟩ := H; first | ((with_reducible have hz : spec_l1Num_f k _ = some y := hy); clear hz; refine Exists.intro _ (Exists.intro _ ⟨spec_l1Num_f.call hy ?_, rfl, rfl, ?_⟩)))
        | ((with_reducible refine fin_mk ?_); (repeat (first | replace H := grd_k H | replace H := out_step H (by assumption))); have H := Option.some.inj H; subst H))
    | constructor
theorem spec_l1Num.spec (a0 : Int) (y : ByteArray) (H : spec_l1Num a0 = some y) : Spec Tryd.prog 49 [(.v (.int .i64 a0))] [] (spec_l1Num.res a0 y) (spec_l1Num.out a0 y) := spec_l1Num_f.spec 64 a0 y H
def G41 : Env := G40.add 49 [] spec_l1Num.S
theorem G41_ok : EnvOk Tryd.prog G41 := G40_ok.add ent_49 fun ar h r h1 ⟨a0, y, hy, e1, e2, e3, e4⟩ => by
  subst e3 e4; exact (spec_l1Num.spec a0 y hy).le e1 e2
attribute [local irreducible] spec_l1Num

noncomputable def spec_l21Text (a0 : GripState) : Option (ByteArray) :=
  ((spec_l21States.bind fun y1 => (grd (0 ≤ a0.1 ∧ a0.1 < (y1.length : Int)) (grd ((y1.getD a0.1.toNat (ByteArray.mk #[])).size + (ByteArray.mk #[32, 105, 110, 32]).size ≤ 9223372036854775807) (spec_l21Zones.bind fun y2 => (grd (0 ≤ a0.2.1 ∧ a0.2.1 < (y2.length : Int)) (grd (((y1.getD a0.1.toNat (ByteArray.mk #[])) ++ (ByteArray.mk #[32, 105, 110, 32])).size + (y2.getD a0.2.1.toNat (ByteArray.mk #[])).size ≤ 9223372036854775807) ((some ((Tg.mk : Tg 1), (((y1.getD a0.1.toNat (ByteArray.mk #[])) ++ (ByteArray.mk #[32, 105, 110, 32])) ++ (y2.getD a0.2.1.toNat (ByteArray.mk #[])))))))))))).bind fun z3 => (cond (decide (a0.1 = (2 : Int))) (grd (z3.2.size + (ByteArray.mk #[32, 119, 105, 116, 104, 32]).size ≤ 9223372036854775807) ((spec_l1Num a0.2.2.1).bind fun y4 => (grd ((z3.2 ++ (ByteArray.mk #[32, 119, 105, 116, 104, 32])).size + y4.size ≤ 9223372036854775807) ((some ((z3.2 ++ (ByteArray.mk #[32, 119, 105, 116, 104, 32])) ++ y4)))))) ((some z3.2))))
def spec_l21Text.res (_ : GripState) (y : ByteArray) : AV := (.v (.string y))
def spec_l21Text.out (_ : GripState) (_ : ByteArray) : List (Option LB) := []
def spec_l21Text.S (ar : List AV) (h : List (Option LB)) (r : AV) (h1 : List (Option LB)) : Prop := ∃ a0 y, spec_l21Text a0 = some y ∧ leL ar [(.agg [(.v (.int .i64 a0.1)), (.v (.int .i64 a0.2.1)), (.v (.int .i64 a0.2.2.1)), (.v (.int .i64 a0.2.2.2.1))])] ∧ leH h [] ∧ r = spec_l21Text.res a0 y ∧ h1 = spec_l21Text.out a0 y
theorem spec_l21Text.call {ar : List AV} {h : List (Option LB)} {a0 : GripState} {y : ByteArray} (H : spec_l21Text a0 = some y) (h0 : leLk ar [(.agg [(.v (.int .i64 a0.1)), (.v (.int .i64 a0.2.1)), (.v (.int .i64 a0.2.2.1)), (.v (.int .i64 a0.2.2.2.1))])] (leHk h [])) : spec_l21Text.S ar h (spec_l21Text.res a0 y) (spec_l21Text.out a0 y) := ⟨a0, y, H, (args_ok h0).1, (args_ok h0).2, rfl, rfl⟩
set_option maxHeartbeats 100000000 in
set_option maxRecDepth 100000 in
theorem spec_l21Text.spec (a0 : GripState) (y : ByteArray) (H : spec_l21Text a0 = some y) : Spec Tryd.prog 30 [(.agg [(.v (.int .i64 a0.1)), (.v (.int .i64 a0.2.1)), (.v (.int .i64 a0.2.2.1)), (.v (.int .i64 a0.2.2.2.1))])] [] (spec_l21Text.res a0 y) (spec_l21Text.out a0 y) := by
  refine spec_intro (G41_ok.at tok []) (ct := [(2, none)]) Tryd.func30 rfl (by kernel_rfl) (by kernel_rfl) rfl ?_
  repeat' first
    | ((with_reducible refine eqg ?_); exact rfl)
    | ((with_reducible refine KOb.mk ?_); kernel_rfl)
    | ((with_reducible intro h); (repeat (first | replace H := grd_k H | replace H := out_step H (by assumption))); first | replace H := cond_t h H | replace H := cond_f h H | exact absurd h (by decide) | skip)
    | ((with_reducible refine Ob.mk ?_); first | (with_reducible rfl) | (first | ((repeat (first | (with_reducible exact grd_p H) | (replace H := grd_k H) | (replace H := out_step H (by assumption)))); done) | rfl | ((repeat (first | exact grd_p H | replace H := grd_k H | replace H := out_step H (by assumption))); done) | ((repeat (first | exact grd_p H | (have hp := grd_p H; exact hp) | replace H := grd_k H | replace H := out_step H (by assumption) | (replace H := bind_some H; obtain ⟨_, _, H⟩ := H))); done) | (repeat (first | exact grd_p H | replace H := grd_k H | replace H := out_step H (by assumption)))))
    | (with_reducible exact True.intro)
    | ((conv => whnf); first
        | (with_reducible refine And.intro ?_ ?_)
        | (with_reducible exact True.intro)
        | ((with_reducible refine Ob.mk ?_); first | (with_reducible rfl) | (first | ((repeat (first | (with_reducible exact grd_p H) | (replace H := grd_k H) | (replace H := out_step H (by assumption)))); done) | rfl | ((repeat (first | exact grd_p H | replace H := grd_k H | replace H := out_step H (by assumption))); done) | ((repeat (first | exact grd_p H | (have hp := grd_p H; exact hp) | replace H := grd_k H | replace H := out_step H (by assumption) | (replace H := bind_some H; obtain ⟨_, _, H⟩ := H))); done) | (repeat (first | exact grd_p H | replace H := grd_k H | replace H := out_step H (by assumption)))))
        | ((with_reducible refine CallW.mk ?_); (repeat (first | replace H := grd_k H | replace H := out_step H (by assumption))); replace H := bind_some H; obtain ⟨y, hy, H⟩ := H; first | ((with_reducible have hz : spec_l21States  = some y := hy); clear hz; refine Exists.intro _ (Exists.intro _ ⟨spec_l21States.call hy ?_, rfl, rfl, ?_⟩)) | ((with_reducible have hz : spec_l21Zones  = some y := hy); clear hz; refine Exists.intro _ (Exists.intro _ ⟨spec_l21Zones.call hy ?_, rfl, rfl, ?_⟩)) | ((with_reducible have hz : spec_l1Num _ = some y := hy); clear hz; refine Exists.intro _ (Exists.intro _ ⟨spec_l1Num.call hy ?_, rfl, rfl, ?_⟩)))
        | ((with_reducible refine cutAt (id := 2) ?_); (repeat (first | replace H := grd_k H | replace H := out_step H (by assumption))); first | (replace H := bind_some H; obtain ⟨z, hz, H⟩ := H; have hT : Tg 1 × ByteArray := z; clear hT; refine CutC.mk (id := 2) ⟨sl [(1, (.loc 0 0 0)), (3, (.v (.string z.2)))], [some (.box 25 [(.v (.int .i64 a0.1)), (.v (.int .i64 a0.2.1)), (.v (.int .i64 a0.2.2.1)), (.v (.int .i64 a0.2.2.2.1))])]⟩ ?_ ?_; (replace H := hz)))
        | ((repeat (first | replace H := grd_k H | replace H := out_step H (by assumption))); have H := Option.some.inj H; subst H; with_reducible refine sub_auto ?_)
        | ((with_reducible refine fin_mk ?_); (repeat (first | replace H := grd_k H | replace H := out_step H (by assumption))); have H := Option.some.inj H; subst H))
    | constructor
def G42 : Env := G41.add 30 [] spec_l21Text.S
theorem G42_ok : EnvOk Tryd.prog G42 := G41_ok.add ent_30 fun ar h r h1 ⟨a0, y, hy, e1, e2, e3, e4⟩ => by
  subst e3 e4; exact (spec_l21Text.spec a0 y hy).le e1 e2
attribute [local irreducible] spec_l21Text

end Go.Proofs.YtbjhcjhkmppocaaDoor
