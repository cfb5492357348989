/-
  Contracts, printed by a program.
-/
import Derived.Test.YtplknllbpdookaaC11r2
namespace Go.Proofs.Ytplknllbpdookaa
open Go.RowKit
attribute [local irreducible] Ob loopwp Sub Spec Fin Again CallW CutC KOb iter joinx outm

attribute [local irreducible] laws_toGripState laws_toGripStep spec_l1In spec_l21Good spec_l21Step spec_l1Least spec_l21Move spec_l21Make spec_StepGrip impl_within impl_IsGripState impl_GripState_step impl_StepGrip laws_eqGripState laws_FnExactStepGrip spec_l21Try spec_PossibleSteps impl_GripState_someSteps

theorem viewz (i : Nat) (k : Int) : AV.view i (Int.toNat 0) (k - 0).toNat = AV.view i 0 k.toNat := by rw [Int.sub_zero]; rfl
noncomputable def slices_Compact___int_int__loop2 (a0 : (List Int)) (v16 : Int) (v20 : Int) (v21 : Int) (v22 : (List Int)) : Option (Lp (Int × Int × (List Int)) ((Int × (List Int)))) :=
  (cond (decide (v21 < ((((a0.length : Int) - v16).toNat : Nat) : Int))) (grd (0 ≤ v21 ∧ v21 < ((((a0.length : Int) - v16).toNat) : Int)) (grd (0 ≤ (w64 (v21 - (1 : Int))) ∧ (w64 (v21 - (1 : Int))) < ((((a0.length : Int) - v16).toNat) : Int)) (cond (!decide ((v22.getD (v16.toNat + v21.toNat) 0) = (v22.getD (v16.toNat + (w64 (v21 - (1 : Int))).toNat) 0))) (grd (0 ≤ v21 ∧ v21 < ((((a0.length : Int) - v16).toNat) : Int)) (grd (0 ≤ v20 ∧ v20 < (v22.length : Int)) (some (.go ((w64 (v20 + (1 : Int))), (w64 (v21 + (1 : Int))), (v22.set v20.toNat (v22.getD (v16.toNat + v21.toNat) 0))))))) (some (.go (v20, (w64 (v21 + (1 : Int))), v22)))))) ((some (.out (v20, v22)))))
noncomputable def slices_Compact___int_int__loop1 (a0 : (List Int)) (v16 : Int) : Option (Lp (Int) (((List Int)) ⊕ (Unit))) :=
  (cond (decide (v16 < (a0.length : Int))) (grd (0 ≤ v16 ∧ v16 < (a0.length : Int)) (grd (0 ≤ (w64 (v16 - (1 : Int))) ∧ (w64 (v16 - (1 : Int))) < (a0.length : Int)) (cond (decide ((a0.getD v16.toNat 0) = (a0.getD ((w64 (v16 - (1 : Int))).toNat) 0))) (grd (0 ≤ v16 ∧ v16 ≤ (a0.length : Int) ∧ (a0.length : Int) ≤ (a0.length : Int)) ((iter (fun s => slices_Compact___int_int__loop2 a0 v16 s.1 s.2.1 s.2.2) (v16, (1 : Int), a0)).bind (fun r23 => (grd (0 ≤ r23.1 ∧ r23.1 ≤ (r23.2.length : Int) ∧ (r23.2.length : Int) ≤ (r23.2.length : Int)) (grd (0 ≤ (0 : Int) ∧ (0 : Int) ≤ r23.1 ∧ r23.1 ≤ ((clr r23.2 r23.1.toNat (((r23.2.length : Int) - r23.1).toNat) (0 : Int)).length : Int)) ((some (.out (Sum.inl ((clr r23.2 r23.1.toNat (((r23.2.length : Int) - r23.1).toNat) (0 : Int)).take r23.1.toNat)))))))))) (some (.go (w64 (v16 + (1 : Int)))))))) ((some (.out (Sum.inr ())))))
noncomputable def slices_Compact___int_int_ (a0 : (List Int)) : Option (((List Int) × (List Int)) ⊕ ((List Int))) :=
  (cond (decide ((a0.length : Int) < (2 : Int))) ((some (Sum.inl (a0, a0)))) ((iter (fun s => slices_Compact___int_int__loop1 a0 s) (1 : Int)).bind (Sum.elim (fun r25 => (some (Sum.inr r25))) (fun r26 => (some (Sum.inl (a0, a0)))))))
def slices_Compact___int_int_.res (_ : (List Int)) (y : ((List Int) × (List Int)) ⊕ ((List Int))) : AV := match y with
  | (.inl y) => (.own 0)
  | (.inr y) => (.own 1)
def slices_Compact___int_int_.out (_ : (List Int)) (y : ((List Int) × (List Int)) ⊕ ((List Int))) : List (Option LB) := match y with
  | (.inl y) => [some (.arr 3 (.int .i64) y.2)]
  | (.inr y) => [none, some (.arr 3 (.int .i64) y)]
def slices_Compact___int_int_.S (ar : List AV) (h : List (Option LB)) (r : AV) (h1 : List (Option LB)) : Prop := ∃ a0 y, slices_Compact___int_int_ a0 = some y ∧ leL ar [(.own 0)] ∧ leH h [some (.arr 3 (.int .i64) a0)] ∧ r = slices_Compact___int_int_.res a0 y ∧ h1 = slices_Compact___int_int_.out a0 y
theorem slices_Compact___int_int_.call {ar : List AV} {h : List (Option LB)} {a0 : (List Int)} {y : ((List Int) × (List Int)) ⊕ ((List Int))} (H : slices_Compact___int_int_ a0 = some y) (h0 : leLk ar [(.own 0)] (leHk h [some (.arr 3 (.int .i64) a0)])) : slices_Compact___int_int_.S ar h (slices_Compact___int_int_.res a0 y) (slices_Compact___int_int_.out a0 y) := ⟨a0, y, H, (args_ok h0).1, (args_ok h0).2, rfl, rfl⟩
set_option maxHeartbeats 100000000 in
set_option maxRecDepth 100000 in
theorem slices_Compact___int_int_.spec (a0 : (List Int)) (y : ((List Int) × (List Int)) ⊕ ((List Int))) (H : slices_Compact___int_int_ a0 = some y) : Spec Try.prog 103 [(.own 0)] [some (.arr 3 (.int .i64) a0)] (slices_Compact___int_int_.res a0 y) (slices_Compact___int_int_.out a0 y) := by
  have hlen : Nat.ble ([some (.arr 3 (.int .i64) a0)] : List (Option LB)).length (slices_Compact___int_int_.out a0 y).length = true := by
    rcases y with y | y <;> rfl
  refine spec_intro (G18_ok.at tok [59]) (ct := [(5, some [0, 3]), (7, some [0, 3, 25]), (12, some [0, 3, 4, 5, 44])]) Try.func103 rfl (by kernel_rfl) (by kernel_rfl) hlen ?_
  repeat' first
    | ((with_reducible refine eqg ?_); exact rfl)
    | ((with_reducible refine KOb.mk ?_); kernel_rfl)
    | ((with_reducible intro h); (repeat (first | replace H := grd_k H | replace H := out_step H (by assumption))); first | replace H := cond_t h H | replace H := cond_f h H | exact absurd h (by decide) | skip)
    | ((with_reducible refine Ob.mk ?_); first | rfl | (repeat (first | exact grd_p H | replace H := grd_k H | replace H := out_step H (by assumption))))
    | (with_reducible exact True.intro)
    | constructor
    | ((conv => whnf); first
        | ((with_reducible refine Ob.mk ?_); first | rfl | (repeat (first | exact grd_p H | replace H := grd_k H | replace H := out_step H (by assumption))))
        | ((repeat (first | replace H := grd_k H | replace H := out_step H (by assumption))); refine loop_iter (G18_ok.at tok [59]) (ct := [(5, some [0, 3]), (7, some [0, 3, 25]), (12, some [0, 3, 4, 5, 44])]) (F := (fun s1 : Int => ⟨sl [(0, (.own 0)), (3, (.v (.int .i64 s1)))], [some (.arr 3 (.int .i64) a0)]⟩)) (step := (fun s : Int => slices_Compact___int_int__loop1 _ s)) _ H (by kernel_rfl) (sub_auto ?_) ?_; rotate_left; (intro s1 r v hr H); rotate_right)
        | ((repeat (first | replace H := grd_k H | replace H := out_step H (by assumption))); refine loop_iter (G18_ok.at tok [59]) (ct := [(5, some [0, 3]), (7, some [0, 3, 25]), (12, some [0, 3, 4, 5, 44])]) (F := (fun s2 : Int × Int × (List Int) => ⟨sl [(0, (.own 0)), (3, (.v (.int .i64 s2.1))), (4, (.view 0 s1.toNat (((a0.length : Int) - s1).toNat))), (5, (.v (.int .i64 s2.2.1)))], [some (.arr 3 (.int .i64) s2.2.2)]⟩)) (step := (fun s : Int × Int × (List Int) => slices_Compact___int_int__loop2 _ _ s.1 s.2.1 s.2.2)) _ H (by kernel_rfl) (sub_auto ?_) ?_; rotate_left; (intro s2 r v hr H); rotate_right)
        | ((repeat (first | replace H := grd_k H | replace H := out_step H (by assumption))); refine again_step H (by assumption) (sub_auto ?_))
        | ((with_reducible refine fin_mk ?_); (repeat (first | replace H := grd_k H | replace H := out_step H (by assumption))); have H := Option.some.inj H; subst H))
  exact viewz _ _
def G19 : Env := G18.add 103 [true] slices_Compact___int_int_.S
theorem G19_ok : EnvOk Try.prog G19 := G18_ok.add ent_103 fun ar h r h1 ⟨a0, y, hy, e1, e2, e3, e4⟩ => by
  subst e3 e4; exact (slices_Compact___int_int_.spec a0 y hy).le e1 e2
attribute [local irreducible] slices_Compact___int_int_

noncomputable def impl_PossibleSteps_loop1  (v9 : Int) (v10 : Int) (v11 : (List Int)) (v12 : (List GripStep)) : Option (Lp (Int × Int × (List Int) × (List GripStep)) (((List Int)))) :=
  (cond (decide (v10 < v9)) (grd (0 ≤ v10 ∧ v10 < (v12.length : Int)) (grd ((v11.length + [(v12.getD v10.toNat d_GripStep).1].length) * 8 ≤ 140737488355328 ∧ v11.length + [(v12.getD v10.toNat d_GripStep).1].length ≤ 140737488355328) (some (.go (v9, (w64 (v10 + (1 : Int))), (v11 ++ [(v12.getD v10.toNat d_GripStep).1]), v12))))) ((some (.out v11))))
noncomputable def impl_PossibleSteps (a0 : GripState) : Option ((Unit) ⊕ ((List Int))) :=
  ((impl_IsGripState (a0.1, a0.2.1, a0.2.2.1, a0.2.2.2.1, ())).bind fun y1 => (cond (!y1) ((some (Sum.inl ()))) ((impl_GripState_someSteps (a0.1, a0.2.1, a0.2.2.1, a0.2.2.2.1, ())).bind fun y2 => ((iter (fun s => impl_PossibleSteps_loop1 s.1 s.2.1 s.2.2.1 s.2.2.2) ((y2.length : Int), (0 : Int), ([] : List Int), y2)).bind (fun r13 => ((slices_Compact___int_int_ r13).bind (Sum.elim (fun y15 => (some (Sum.inr y15.2))) (fun y16 => (some (Sum.inr y16))))))))))
def impl_PossibleSteps.res (_ : GripState) (y : (Unit) ⊕ ((List Int))) : AV := match y with
  | (.inl y) => (.tup [(.v (.slice none 0 0)), (.v (.bool false))])
  | (.inr y) => (.tup [(.own 0), (.v (.bool true))])
def impl_PossibleSteps.out (_ : GripState) (y : (Unit) ⊕ ((List Int))) : List (Option LB) := match y with
  | (.inl y) => []
  | (.inr y) => [some (.arr 3 (.int .i64) y)]
def impl_PossibleSteps.S (ar : List AV) (h : List (Option LB)) (r : AV) (h1 : List (Option LB)) : Prop := ∃ a0 y, impl_PossibleSteps a0 = some y ∧ leL ar [(.agg [(.v (.int .i64 a0.1)), (.v (.int .i64 a0.2.1)), (.v (.int .i64 a0.2.2.1)), (.v (.int .i64 a0.2.2.2.1))])] ∧ leH h [] ∧ r = impl_PossibleSteps.res a0 y ∧ h1 = impl_PossibleSteps.out a0 y
theorem impl_PossibleSteps.call {ar : List AV} {h : List (Option LB)} {a0 : GripState} {y : (Unit) ⊕ ((List Int))} (H : impl_PossibleSteps a0 = some y) (h0 : leLk ar [(.agg [(.v (.int .i64 a0.1)), (.v (.int .i64 a0.2.1)), (.v (.int .i64 a0.2.2.1)), (.v (.int .i64 a0.2.2.2.1))])] (leHk h [])) : impl_PossibleSteps.S ar h (impl_PossibleSteps.res a0 y) (impl_PossibleSteps.out a0 y) := ⟨a0, y, H, (args_ok h0).1, (args_ok h0).2, rfl, rfl⟩
set_option maxHeartbeats 100000000 in
set_option maxRecDepth 100000 in
theorem impl_PossibleSteps.spec (a0 : GripState) (y : (Unit) ⊕ ((List Int))) (H : impl_PossibleSteps a0 = some y) : Spec Try.prog 38 [(.agg [(.v (.int .i64 a0.1)), (.v (.int .i64 a0.2.1)), (.v (.int .i64 a0.2.2.1)), (.v (.int .i64 a0.2.2.2.1))])] [] (impl_PossibleSteps.res a0 y) (impl_PossibleSteps.out a0 y) := by
  have hlen : Nat.ble ([] : List (Option LB)).length (impl_PossibleSteps.out a0 y).length = true := by
    rcases y with y | y <;> rfl
  refine spec_intro (G19_ok.at tok []) (ct := [(5, some [4, 12, 13, 14])]) Try.func38 rfl (by kernel_rfl) (by kernel_rfl) hlen ?_
  repeat' first
    | ((with_reducible refine eqg ?_); exact rfl)
    | ((with_reducible refine KOb.mk ?_); kernel_rfl)
    | ((with_reducible intro h); (repeat (first | replace H := grd_k H | replace H := out_step H (by assumption))); first | replace H := cond_t h H | replace H := cond_f h H | exact absurd h (by decide) | skip)
    | ((with_reducible refine Ob.mk ?_); first | rfl | (repeat (first | exact grd_p H | replace H := grd_k H | replace H := out_step H (by assumption))))
    | (with_reducible exact True.intro)
    | constructor
    | ((conv => whnf); first
        | ((with_reducible refine Ob.mk ?_); first | rfl | (repeat (first | exact grd_p H | replace H := grd_k H | replace H := out_step H (by assumption))))
        | ((with_reducible refine CallW.mk ?_); (repeat (first | replace H := grd_k H | replace H := out_step H (by assumption))); replace H := bind_some H; obtain ⟨y, hy, H⟩ := H; first | ((with_reducible have hz : impl_IsGripState _ = some y := hy); clear hz; refine Exists.intro _ (Exists.intro _ ⟨impl_IsGripState.call hy ?_, rfl, rfl, ?_⟩)) | ((with_reducible have hz : impl_GripState_someSteps _ = some y := hy); clear hz; refine Exists.intro _ (Exists.intro _ ⟨impl_GripState_someSteps.call hy ?_, rfl, rfl, ?_⟩)) | ((with_reducible have hz : slices_Compact___int_int_ _ = some y := hy); clear hz; rcases y with y | y <;> refine Exists.intro _ (Exists.intro _ ⟨slices_Compact___int_int_.call hy ?_, rfl, rfl, ?_⟩)))
        | ((repeat (first | replace H := grd_k H | replace H := out_step H (by assumption))); refine loop_iter (G19_ok.at tok []) (ct := [(5, some [4, 12, 13, 14])]) (F := (fun s1 : Int × Int × (List Int) × (List GripStep) => ⟨sl [(4, (.own 0)), (12, (.own 1)), (13, (.v (.int .i64 s1.1))), (14, (.v (.int .i64 s1.2.1)))], [some (.arr 3 (.int .i64) s1.2.2.1), some (.arr 51 ty_GripStep s1.2.2.2)]⟩)) (step := (fun s : Int × Int × (List Int) × (List GripStep) => impl_PossibleSteps_loop1 s.1 s.2.1 s.2.2.1 s.2.2.2)) _ H (by kernel_rfl) (sub_auto ?_) ?_; rotate_left; (intro s1 r v hr H); rotate_right)
        | ((repeat (first | replace H := grd_k H | replace H := out_step H (by assumption))); refine again_step H (by assumption) (sub_auto ?_))
        | ((with_reducible refine fin_mk ?_); (repeat (first | replace H := grd_k H | replace H := out_step H (by assumption))); have H := Option.some.inj H; subst H))
def G20 : Env := G19.add 38 [] impl_PossibleSteps.S
theorem G20_ok : EnvOk Try.prog G20 := G19_ok.add ent_38 fun ar h r h1 ⟨a0, y, hy, e1, e2, e3, e4⟩ => by
  subst e3 e4; exact (impl_PossibleSteps.spec a0 y hy).le e1 e2
attribute [local irreducible] impl_PossibleSteps

noncomputable def laws_eqIntS_loop1 (a0 : (List Int)) (a1 : (List Int)) (v2 : Int) : Option (Lp (Int) ((Unit) ⊕ (Unit))) :=
  (cond (decide (v2 < (a0.length : Int))) (grd (0 ≤ v2 ∧ v2 < (a0.length : Int)) (grd (0 ≤ v2 ∧ v2 < (a1.length : Int)) (cond (!decide ((a0.getD v2.toNat 0) = (a1.getD v2.toNat 0))) ((some (.out (Sum.inl ())))) (some (.go (w64 (v2 + (1 : Int)))))))) ((some (.out (Sum.inr ())))))
noncomputable def laws_eqIntS (a0 : (List Int)) (a1 : (List Int)) : Option (Bool) :=
  (cond (!decide ((a0.length : Int) = (a1.length : Int))) ((some false)) ((iter (fun s => laws_eqIntS_loop1 a0 a1 s) (0 : Int)).bind (Sum.elim (fun r4 => (some false)) (fun r5 => (some true)))))
def laws_eqIntS.res (_ : (List Int)) (_ : (List Int)) (y : Bool) : AV := (.bl y)
def laws_eqIntS.out (_ : (List Int)) (_ : (List Int)) (_ : Bool) : List (Option LB) := []
def laws_eqIntS.S (ar : List AV) (h : List (Option LB)) (r : AV) (h1 : List (Option LB)) : Prop := ∃ a0 a1 y, laws_eqIntS a0 a1 = some y ∧ leL ar [(.tree (.int .i64) a0), (.tree (.int .i64) a1)] ∧ leH h [] ∧ r = laws_eqIntS.res a0 a1 y ∧ h1 = laws_eqIntS.out a0 a1 y
theorem laws_eqIntS.call {ar : List AV} {h : List (Option LB)} {a0 : (List Int)} {a1 : (List Int)} {y : Bool} (H : laws_eqIntS a0 a1 = some y) (h0 : leLk ar [(.tree (.int .i64) a0), (.tree (.int .i64) a1)] (leHk h [])) : laws_eqIntS.S ar h (laws_eqIntS.res a0 a1 y) (laws_eqIntS.out a0 a1 y) := ⟨a0, a1, y, H, (args_ok h0).1, (args_ok h0).2, rfl, rfl⟩
set_option maxHeartbeats 100000000 in
set_option maxRecDepth 100000 in
theorem laws_eqIntS.spec (a0 : (List Int)) (a1 : (List Int)) (y : Bool) (H : laws_eqIntS a0 a1 = some y) : Spec Try.prog 19 [(.tree (.int .i64) a0), (.tree (.int .i64) a1)] [] (laws_eqIntS.res a0 a1 y) (laws_eqIntS.out a0 a1 y) := by
  refine spec_intro (G20_ok.at tok []) (ct := [(5, some [0, 1, 5])]) Try.func19 rfl (by kernel_rfl) (by kernel_rfl) rfl ?_
  repeat' first
    | ((with_reducible refine eqg ?_); exact rfl)
    | ((with_reducible refine KOb.mk ?_); kernel_rfl)
    | ((with_reducible intro h); (repeat (first | replace H := grd_k H | replace H := out_step H (by assumption))); first | replace H := cond_t h H | replace H := cond_f h H | exact absurd h (by decide) | skip)
    | ((with_reducible refine Ob.mk ?_); first | rfl | (repeat (first | exact grd_p H | replace H := grd_k H | replace H := out_step H (by assumption))))
    | (with_reducible exact True.intro)
    | constructor
    | ((conv => whnf); first
        | ((with_reducible refine Ob.mk ?_); first | rfl | (repeat (first | exact grd_p H | replace H := grd_k H | replace H := out_step H (by assumption))))
        | ((repeat (first | replace H := grd_k H | replace H := out_step H (by assumption))); refine loop_iter (G20_ok.at tok []) (ct := [(5, some [0, 1, 5])]) (F := (fun s1 : Int => ⟨sl [(0, (.tree (.int .i64) a0)), (1, (.tree (.int .i64) a1)), (5, (.v (.int .i64 s1)))], []⟩)) (step := (fun s : Int => laws_eqIntS_loop1 _ _ s)) _ H (by kernel_rfl) (sub_auto ?_) ?_; rotate_left; (intro s1 r v hr H); rotate_right)
        | ((repeat (first | replace H := grd_k H | replace H := out_step H (by assumption))); refine again_step H (by assumption) (sub_auto ?_))
        | ((with_reducible refine fin_mk ?_); (repeat (first | replace H := grd_k H | replace H := out_step H (by assumption))); have H := Option.some.inj H; subst H))
def G21 : Env := G20.add 19 [] laws_eqIntS.S
theorem G21_ok : EnvOk Try.prog G21 := G20_ok.add ent_19 fun ar h r h1 ⟨a0, a1, y, hy, e1, e2, e3, e4⟩ => by
  subst e3 e4; exact (laws_eqIntS.spec a0 a1 y hy).le e1 e2
attribute [local irreducible] laws_eqIntS

noncomputable def laws_markIntS_loop1  (v4 : Int) (v5 : Int) (v6 : (List Int)) : Option (Lp (Int × Int × (List Int)) ((Int × (List Int)))) :=
  (cond (decide (v5 < (v6.length : Int))) (grd (0 ≤ v5 ∧ v5 < (v6.length : Int)) (some (.go ((w64 (v4 + (1 : Int))), (w64 (v5 + (1 : Int))), (v6.set v5.toNat v4))))) ((some (.out (v4, v6)))))
noncomputable def laws_markIntS (a0 : (List Int)) (a1 : Int) : Option (Int × (List Int)) :=
  ((iter (fun s => laws_markIntS_loop1 s.1 s.2.1 s.2.2) (a1, (0 : Int), a0)).bind (fun r7 => (some (r7.1, r7.2))))
def laws_markIntS.res (_ : (List Int)) (_ : Int) (y : Int × (List Int)) : AV := (.v (.int .i64 y.1))
def laws_markIntS.out (_ : (List Int)) (_ : Int) (y : Int × (List Int)) : List (Option LB) := [some (.arr 3 (.int .i64) y.2)]
def laws_markIntS.S (ar : List AV) (h : List (Option LB)) (r : AV) (h1 : List (Option LB)) : Prop := ∃ a0 a1 y, laws_markIntS a0 a1 = some y ∧ leL ar [(.own 0), (.v (.int .i64 a1))] ∧ leH h [some (.arr 3 (.int .i64) a0)] ∧ r = laws_markIntS.res a0 a1 y ∧ h1 = laws_markIntS.out a0 a1 y
theorem laws_markIntS.call {ar : List AV} {h : List (Option LB)} {a0 : (List Int)} {a1 : Int} {y : Int × (List Int)} (H : laws_markIntS a0 a1 = some y) (h0 : leLk ar [(.own 0), (.v (.int .i64 a1))] (leHk h [some (.arr 3 (.int .i64) a0)])) : laws_markIntS.S ar h (laws_markIntS.res a0 a1 y) (laws_markIntS.out a0 a1 y) := ⟨a0, a1, y, H, (args_ok h0).1, (args_ok h0).2, rfl, rfl⟩
set_option maxHeartbeats 100000000 in
set_option maxRecDepth 100000 in
theorem laws_markIntS.spec (a0 : (List Int)) (a1 : Int) (y : Int × (List Int)) (H : laws_markIntS a0 a1 = some y) : Spec Try.prog 26 [(.own 0), (.v (.int .i64 a1))] [some (.arr 3 (.int .i64) a0)] (laws_markIntS.res a0 a1 y) (laws_markIntS.out a0 a1 y) := by
  refine spec_intro (G21_ok.at tok []) (ct := []) Try.func26 rfl (by kernel_rfl) (by kernel_rfl) rfl ?_
  repeat' first
    | ((with_reducible refine eqg ?_); exact rfl)
    | ((with_reducible refine KOb.mk ?_); kernel_rfl)
    | ((with_reducible intro h); (repeat (first | replace H := grd_k H | replace H := out_step H (by assumption))); first | replace H := cond_t h H | replace H := cond_f h H | exact absurd h (by decide) | skip)
    | ((with_reducible refine Ob.mk ?_); first | rfl | (repeat (first | exact grd_p H | replace H := grd_k H | replace H := out_step H (by assumption))))
    | (with_reducible exact True.intro)
    | constructor
    | ((conv => whnf); first
        | ((with_reducible refine Ob.mk ?_); first | rfl | (repeat (first | exact grd_p H | replace H := grd_k H | replace H := out_step H (by assumption))))
        | ((repeat (first | replace H := grd_k H | replace H := out_step H (by assumption))); refine loop_iter (G21_ok.at tok []) (ct := []) (F := (fun s1 : Int × Int × (List Int) => ⟨sl [(0, (.own 0)), (1, (.v (.int .i64 s1.1))), (5, (.v (.int .i64 s1.2.1)))], [some (.arr 3 (.int .i64) s1.2.2)]⟩)) (step := (fun s : Int × Int × (List Int) => laws_markIntS_loop1 s.1 s.2.1 s.2.2)) _ H (by kernel_rfl) (sub_auto ?_) ?_; rotate_left; (intro s1 r v hr H); rotate_right)
        | ((repeat (first | replace H := grd_k H | replace H := out_step H (by assumption))); refine again_step H (by assumption) (sub_auto ?_))
        | ((with_reducible refine fin_mk ?_); (repeat (first | replace H := grd_k H | replace H := out_step H (by assumption))); have H := Option.some.inj H; subst H))
def G22 : Env := G21.add 26 [true] laws_markIntS.S
theorem G22_ok : EnvOk Try.prog G22 := G21_ok.add ent_26 fun ar h r h1 ⟨a0, a1, y, hy, e1, e2, e3, e4⟩ => by
  subst e3 e4; exact (laws_markIntS.spec a0 a1 y hy).le e1 e2
attribute [local irreducible] laws_markIntS

noncomputable def laws_heldIntS_loop1 (a0 : (List Int)) (v3 : Int) (v4 : Int) : Option (Lp (Int × Int) ((Unit) ⊕ (Int))) :=
  (cond (decide (v4 < (a0.length : Int))) (grd (0 ≤ v4 ∧ v4 < (a0.length : Int)) (cond (!decide ((a0.getD v4.toNat 0) = v3)) ((some (.out (Sum.inl ())))) (some (.go ((w64 (v3 + (1 : Int))), (w64 (v4 + (1 : Int)))))))) ((some (.out (Sum.inr v3)))))
noncomputable def laws_heldIntS (a0 : (List Int)) (a1 : Int) : Option (Int) :=
  ((iter (fun s => laws_heldIntS_loop1 a0 s.1 s.2) (a1, (0 : Int))).bind (Sum.elim (fun r6 => (some ((-1) : Int))) (fun r7 => (some r7))))
def laws_heldIntS.res (_ : (List Int)) (_ : Int) (y : Int) : AV := (.v (.int .i64 y))
def laws_heldIntS.out (_ : (List Int)) (_ : Int) (_ : Int) : List (Option LB) := []
def laws_heldIntS.S (ar : List AV) (h : List (Option LB)) (r : AV) (h1 : List (Option LB)) : Prop := ∃ a0 a1 y, laws_heldIntS a0 a1 = some y ∧ leL ar [(.tree (.int .i64) a0), (.v (.int .i64 a1))] ∧ leH h [] ∧ r = laws_heldIntS.res a0 a1 y ∧ h1 = laws_heldIntS.out a0 a1 y
theorem laws_heldIntS.call {ar : List AV} {h : List (Option LB)} {a0 : (List Int)} {a1 : Int} {y : Int} (H : laws_heldIntS a0 a1 = some y) (h0 : leLk ar [(.tree (.int .i64) a0), (.v (.int .i64 a1))] (leHk h [])) : laws_heldIntS.S ar h (laws_heldIntS.res a0 a1 y) (laws_heldIntS.out a0 a1 y) := ⟨a0, a1, y, H, (args_ok h0).1, (args_ok h0).2, rfl, rfl⟩
set_option maxHeartbeats 100000000 in
set_option maxRecDepth 100000 in
theorem laws_heldIntS.spec (a0 : (List Int)) (a1 : Int) (y : Int) (H : laws_heldIntS a0 a1 = some y) : Spec Try.prog 27 [(.tree (.int .i64) a0), (.v (.int .i64 a1))] [] (laws_heldIntS.res a0 a1 y) (laws_heldIntS.out a0 a1 y) := by
  refine spec_intro (G22_ok.at tok []) (ct := [(3, some [0, 1, 5])]) Try.func27 rfl (by kernel_rfl) (by kernel_rfl) rfl ?_
  repeat' first
    | ((with_reducible refine eqg ?_); exact rfl)
    | ((with_reducible refine KOb.mk ?_); kernel_rfl)
    | ((with_reducible intro h); (repeat (first | replace H := grd_k H | replace H := out_step H (by assumption))); first | replace H := cond_t h H | replace H := cond_f h H | exact absurd h (by decide) | skip)
    | ((with_reducible refine Ob.mk ?_); first | rfl | (repeat (first | exact grd_p H | replace H := grd_k H | replace H := out_step H (by assumption))))
    | (with_reducible exact True.intro)
    | constructor
    | ((conv => whnf); first
        | ((with_reducible refine Ob.mk ?_); first | rfl | (repeat (first | exact grd_p H | replace H := grd_k H | replace H := out_step H (by assumption))))
        | ((repeat (first | replace H := grd_k H | replace H := out_step H (by assumption))); refine loop_iter (G22_ok.at tok []) (ct := [(3, some [0, 1, 5])]) (F := (fun s1 : Int × Int => ⟨sl [(0, (.tree (.int .i64) a0)), (1, (.v (.int .i64 s1.1))), (5, (.v (.int .i64 s1.2)))], []⟩)) (step := (fun s : Int × Int => laws_heldIntS_loop1 _ s.1 s.2)) _ H (by kernel_rfl) (sub_auto ?_) ?_; rotate_left; (intro s1 r v hr H); rotate_right)
        | ((repeat (first | replace H := grd_k H | replace H := out_step H (by assumption))); refine again_step H (by assumption) (sub_auto ?_))
        | ((with_reducible refine fin_mk ?_); (repeat (first | replace H := grd_k H | replace H := out_step H (by assumption))); have H := Option.some.inj H; subst H))
def G23 : Env := G22.add 27 [] laws_heldIntS.S
theorem G23_ok : EnvOk Try.prog G23 := G22_ok.add ent_27 fun ar h r h1 ⟨a0, a1, y, hy, e1, e2, e3, e4⟩ => by
  subst e3 e4; exact (laws_heldIntS.spec a0 a1 y hy).le e1 e2
attribute [local irreducible] laws_heldIntS

noncomputable def laws_markIntS_i1_loop1   : Option (Lp (Unit) ((Unit))) :=
  (some (.out ()))
noncomputable def laws_markIntS_i1 (a1 : Int) : Option (Int) :=
  ((iter (fun s => laws_markIntS_i1_loop1) ()).bind (fun r1 => (some a1)))
def laws_markIntS_i1.res (_ : Int) (y : Int) : AV := (.v (.int .i64 y))
def laws_markIntS_i1.out (_ : Int) (_ : Int) : List (Option LB) := []
def laws_markIntS_i1.S (ar : List AV) (h : List (Option LB)) (r : AV) (h1 : List (Option LB)) : Prop := ∃ a1 y, laws_markIntS_i1 a1 = some y ∧ leL ar [(.v (.slice none 0 0)), (.v (.int .i64 a1))] ∧ leH h [] ∧ r = laws_markIntS_i1.res a1 y ∧ h1 = laws_markIntS_i1.out a1 y
theorem laws_markIntS_i1.call {ar : List AV} {h : List (Option LB)} {a1 : Int} {y : Int} (H : laws_markIntS_i1 a1 = some y) (h0 : leLk ar [(.v (.slice none 0 0)), (.v (.int .i64 a1))] (leHk h [])) : laws_markIntS_i1.S ar h (laws_markIntS_i1.res a1 y) (laws_markIntS_i1.out a1 y) := ⟨a1, y, H, (args_ok h0).1, (args_ok h0).2, rfl, rfl⟩
set_option maxHeartbeats 100000000 in
set_option maxRecDepth 100000 in
theorem laws_markIntS_i1.spec (a1 : Int) (y : Int) (H : laws_markIntS_i1 a1 = some y) : Spec Try.prog 26 [(.v (.slice none 0 0)), (.v (.int .i64 a1))] [] (laws_markIntS_i1.res a1 y) (laws_markIntS_i1.out a1 y) := by
  refine spec_intro (G23_ok.at tok []) (ct := []) Try.func26 rfl (by kernel_rfl) (by kernel_rfl) rfl ?_
  repeat' first
    | ((with_reducible refine eqg ?_); exact rfl)
    | ((with_reducible refine KOb.mk ?_); kernel_rfl)
    | ((with_reducible intro h); (repeat (first | replace H := grd_k H | replace H := out_step H (by assumption))); first | replace H := cond_t h H | replace H := cond_f h H | exact absurd h (by decide) | skip)
    | ((with_reducible refine Ob.mk ?_); first | rfl | (repeat (first | exact grd_p H | replace H := grd_k H | replace H := out_step H (by assumption))))
    | (with_reducible exact True.intro)
    | constructor
    | ((conv => whnf); first
        | ((with_reducible refine Ob.mk ?_); first | rfl | (repeat (first | exact grd_p H | replace H := grd_k H | replace H := out_step H (by assumption))))
        | ((repeat (first | replace H := grd_k H | replace H := out_step H (by assumption))); refine loop_iter (G23_ok.at tok []) (ct := []) (F := (fun s1 : Unit => ⟨sl [(0, (.v (.slice none 0 0))), (1, (.v (.int .i64 a1))), (5, (.v (.int .i64 (0 : Int))))], []⟩)) (step := (fun s : Unit => laws_markIntS_i1_loop1)) _ H (by kernel_rfl) (sub_auto ?_) ?_; rotate_left; (intro s1 r v hr H); rotate_right)
        | ((repeat (first | replace H := grd_k H | replace H := out_step H (by assumption))); refine again_step H (by assumption) (sub_auto ?_))
        | ((with_reducible refine fin_mk ?_); (repeat (first | replace H := grd_k H | replace H := out_step H (by assumption))); have H := Option.some.inj H; subst H))
def G24 : Env := G23.addOr 26 [true] laws_markIntS_i1.S
theorem G24_ok : EnvOk Try.prog G24 := G23_ok.addOr ent_26 fun ar h r h1 ⟨a1, y, hy, e1, e2, e3, e4⟩ => by
  subst e3 e4; exact (laws_markIntS_i1.spec a1 y hy).le e1 e2
attribute [local irreducible] laws_markIntS_i1

noncomputable def laws_FnExactPossibleSteps (a0 : GripState) : Option (Bool) :=
  ((laws_toGripState (a0.1, a0.2.1, a0.2.2.1, a0.2.2.2.1, ())).bind fun y1 => ((spec_PossibleSteps (y1.1, y1.2.1, y1.2.2.1, y1.2.2.2.1, ())).bind fun y2 => ((laws_toGripState (a0.1, a0.2.1, a0.2.2.1, a0.2.2.2.1, ())).bind fun y3 => ((impl_PossibleSteps (y3.1, y3.2.1, y3.2.2.1, y3.2.2.2.1, ())).bind (Sum.elim (fun y5 => ((laws_eqIntS [] y2.1).bind fun y6 => (cond (!y6) ((some false)) (cond (!(false == y2.2)) ((some false)) ((laws_markIntS_i1 (1 : Int)).bind fun y7 => ((laws_heldIntS [] (1 : Int)).bind fun y8 => (cond (decide (y8 < (0 : Int))) ((some false)) (cond (!decide (y8 = y7)) ((some false)) (((laws_toGripState (a0.1, a0.2.1, a0.2.2.1, a0.2.2.2.1, ())).bind fun y9 => ((impl_PossibleSteps (y9.1, y9.2.1, y9.2.2.1, y9.2.2.2.1, ())).bind (Sum.elim (fun y11 => (some ((Tg.mk : Tg 1), y2.2, y7, [], false, y2.1))) (fun y12 => (some ((Tg.mk : Tg 1), y2.2, y7, y12, true, y2.1)))))).bind fun z13 => ((laws_eqIntS z13.2.2.2.1 z13.2.2.2.2.2).bind fun y14 => (cond (!y14) ((some false)) (cond (!(z13.2.2.2.2.1 == z13.2.1)) ((some false)) ((laws_heldIntS [] (1 : Int)).bind fun y15 => (cond (decide (y15 < (0 : Int))) ((some false)) (cond (!decide (y15 = z13.2.2.1)) ((some false)) ((some true))))))))))))))))) (fun y16 => ((laws_eqIntS y16 y2.1).bind fun y17 => (cond (!y17) ((some false)) (cond (!(true == y2.2)) ((some false)) ((laws_markIntS y16 (1 : Int)).bind fun y18 => ((laws_heldIntS y18.2 (1 : Int)).bind fun y19 => (cond (decide (y19 < (0 : Int))) ((some false)) (cond (!decide (y19 = y18.1)) ((some false)) (((laws_toGripState (a0.1, a0.2.1, a0.2.2.1, a0.2.2.2.1, ())).bind fun y20 => ((impl_PossibleSteps (y20.1, y20.2.1, y20.2.2.1, y20.2.2.2.1, ())).bind (Sum.elim (fun y22 => (some ((Tg.mk : Tg 2), y2.2, y18.1, [], false, y2.1, y18.2))) (fun y23 => (some ((Tg.mk : Tg 2), y2.2, y18.1, y23, true, y2.1, y18.2)))))).bind fun z24 => ((laws_eqIntS z24.2.2.2.1 z24.2.2.2.2.2.1).bind fun y25 => (cond (!y25) ((some false)) (cond (!(z24.2.2.2.2.1 == z24.2.1)) ((some false)) ((laws_heldIntS z24.2.2.2.2.2.2 (1 : Int)).bind fun y26 => (cond (decide (y26 < (0 : Int))) ((some false)) (cond (!decide (y26 = z24.2.2.1)) ((some false)) ((some true))))))))))))))))))))))
def laws_FnExactPossibleSteps.res (_ : GripState) (y : Bool) : AV := (.bl y)
def laws_FnExactPossibleSteps.out (_ : GripState) (_ : Bool) : List (Option LB) := []
def laws_FnExactPossibleSteps.S (ar : List AV) (h : List (Option LB)) (r : AV) (h1 : List (Option LB)) : Prop := ∃ a0 y, laws_FnExactPossibleSteps a0 = some y ∧ leL ar [(.agg [(.v (.int .i64 a0.1)), (.v (.int .i64 a0.2.1)), (.v (.int .i64 a0.2.2.1)), (.v (.int .i64 a0.2.2.2.1))])] ∧ leH h [] ∧ r = laws_FnExactPossibleSteps.res a0 y ∧ h1 = laws_FnExactPossibleSteps.out a0 y
theorem laws_FnExactPossibleSteps.call {ar : List AV} {h : List (Option LB)} {a0 : GripState} {y : Bool} (H : laws_FnExactPossibleSteps a0 = some y) (h0 : leLk ar [(.agg [(.v (.int .i64 a0.1)), (.v (.int .i64 a0.2.1)), (.v (.int .i64 a0.2.2.1)), (.v (.int .i64 a0.2.2.2.1))])] (leHk h [])) : laws_FnExactPossibleSteps.S ar h (laws_FnExactPossibleSteps.res a0 y) (laws_FnExactPossibleSteps.out a0 y) := ⟨a0, y, H, (args_ok h0).1, (args_ok h0).2, rfl, rfl⟩
set_option maxHeartbeats 100000000 in
set_option maxRecDepth 100000 in
theorem laws_FnExactPossibleSteps.spec (a0 : GripState) (y : Bool) (H : laws_FnExactPossibleSteps a0 = some y) : Spec Try.prog 9 [(.agg [(.v (.int .i64 a0.1)), (.v (.int .i64 a0.2.1)), (.v (.int .i64 a0.2.2.1)), (.v (.int .i64 a0.2.2.2.1))])] [] (laws_FnExactPossibleSteps.res a0 y) (laws_FnExactPossibleSteps.out a0 y) := by
  refine spec_intro (G24_ok.at tok []) (ct := [(14, none), (3, some [1, 3, 4, 5, 6, 28, 29, 30, 54, 55, 56]), (7, some [1, 3, 4, 5, 7, 54, 55, 56]), (18, some [7, 8])]) Try.func9 rfl (by kernel_rfl) (by kernel_rfl) rfl ?_
  repeat' first
    | ((with_reducible refine eqg ?_); exact rfl)
    | ((with_reducible refine KOb.mk ?_); kernel_rfl)
    | ((with_reducible intro h); (repeat (first | replace H := grd_k H | replace H := out_step H (by assumption))); first | replace H := cond_t h H | replace H := cond_f h H | exact absurd h (by decide) | skip)
    | ((with_reducible refine Ob.mk ?_); first | rfl | (repeat (first | exact grd_p H | replace H := grd_k H | replace H := out_step H (by assumption))))
    | (with_reducible exact True.intro)
    | constructor
    | ((conv => whnf); first
        | ((with_reducible refine Ob.mk ?_); first | rfl | (repeat (first | exact grd_p H | replace H := grd_k H | replace H := out_step H (by assumption))))
        | ((with_reducible refine CallW.mk ?_); (repeat (first | replace H := grd_k H | replace H := out_step H (by assumption))); replace H := bind_some H; obtain ⟨y, hy, H⟩ := H; first | ((with_reducible have hz : laws_toGripState _ = some y := hy); clear hz; refine Exists.intro _ (Exists.intro _ ⟨laws_toGripState.call hy ?_, rfl, rfl, ?_⟩)) | ((with_reducible have hz : spec_PossibleSteps _ = some y := hy); clear hz; refine Exists.intro _ (Exists.intro _ ⟨spec_PossibleSteps.call hy ?_, rfl, rfl, ?_⟩)) | ((with_reducible have hz : impl_PossibleSteps _ = some y := hy); clear hz; rcases y with y | y <;> refine Exists.intro _ (Exists.intro _ ⟨impl_PossibleSteps.call hy ?_, rfl, rfl, ?_⟩)) | ((with_reducible have hz : laws_eqIntS _ _ = some y := hy); clear hz; refine Exists.intro _ (Exists.intro _ ⟨laws_eqIntS.call hy ?_, rfl, rfl, ?_⟩)) | ((with_reducible have hz : laws_markIntS_i1 _ = some y := hy); clear hz; refine Exists.intro _ (Exists.intro _ ⟨Or.inl (laws_markIntS_i1.call hy ?_), rfl, rfl, ?_⟩)) | ((with_reducible have hz : laws_heldIntS _ _ = some y := hy); clear hz; refine Exists.intro _ (Exists.intro _ ⟨laws_heldIntS.call hy ?_, rfl, rfl, ?_⟩)) | ((with_reducible have hz : laws_markIntS _ _ = some y := hy); clear hz; refine Exists.intro _ (Exists.intro _ ⟨Or.inr (laws_markIntS.call hy ?_), rfl, rfl, ?_⟩)))
        | ((with_reducible refine cutAt (id := 14) ?_); (repeat (first | replace H := grd_k H | replace H := out_step H (by assumption))); first | (replace H := bind_some H; obtain ⟨z, hz, H⟩ := H; have hT : Tg 1 × Bool × Int × (List Int) × Bool × (List Int) := z; clear hT; refine CutC.mk (id := 14) ⟨sl [(3, (.own 0)), (4, (.bl z.2.1)), (5, (.v (.slice none 0 0))), (7, (.v (.int .i64 z.2.2.1))), (9, (.tree (.int .i64) z.2.2.2.1)), (10, (.bl z.2.2.2.2.1))], [some (.arr 3 (.int .i64) z.2.2.2.2.2)]⟩ ?_ ?_; (replace H := hz)) | (replace H := bind_some H; obtain ⟨z, hz, H⟩ := H; have hT : Tg 2 × Bool × Int × (List Int) × Bool × (List Int) × (List Int) := z; clear hT; refine CutC.mk (id := 14) ⟨sl [(3, (.own 0)), (4, (.bl z.2.1)), (5, (.own 1)), (7, (.v (.int .i64 z.2.2.1))), (9, (.tree (.int .i64) z.2.2.2.1)), (10, (.bl z.2.2.2.2.1))], [some (.arr 3 (.int .i64) z.2.2.2.2.2.1), some (.arr 3 (.int .i64) z.2.2.2.2.2.2)]⟩ ?_ ?_; (replace H := hz)))
        | ((repeat (first | replace H := grd_k H | replace H := out_step H (by assumption))); have H := Option.some.inj H; subst H; with_reducible refine sub_auto ?_)
        | ((with_reducible refine fin_mk ?_); (repeat (first | replace H := grd_k H | replace H := out_step H (by assumption))); have H := Option.some.inj H; subst H))
def G25 : Env := G24.add 9 [] laws_FnExactPossibleSteps.S
theorem G25_ok : EnvOk Try.prog G25 := G24_ok.add ent_9 fun ar h r h1 ⟨a0, y, hy, e1, e2, e3, e4⟩ => by
  subst e3 e4; exact (laws_FnExactPossibleSteps.spec a0 y hy).le e1 e2
attribute [local irreducible] laws_FnExactPossibleSteps

end Go.Proofs.Ytplknllbpdookaa
