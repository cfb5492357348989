/-
  Contracts, printed by a program.
-/
import Derived.Test.YtpmmaohaahbphaaDoorC865
namespace Go.Proofs.YtpmmaohaahbphaaDoor
open Go.RowKit
attribute [local irreducible] Ob loopwp Sub Spec Fin Again CallW CutC KOb iter joinx outm

attribute [local irreducible] laws_rBig spec_l1Cur_next spec_l1Cur_pick spec_l1Cur_of spec_l1Cur_among spec_l1Cur_condition spec_l1Cur_one spec_l1Cur_conditions spec_l1Cur_day24 spec_DrawInspectionPlan impl_within impl_isWord impl_isDate impl_IsCondition impl_AreConditions impl_Condition_lastMet cmp_isNaN_int_ cmp_Compare_int_ slices_Compare___int_int_ impl_InspectionPlan_1 slices_SortFunc_____int___int__i1 impl_InspectionPlan spec_l1In spec_l2Word spec_l24Day spec_l24One spec_l24Good spec_l1Least spec_l24End spec_l1Most spec_InspectionPlan laws_rInts laws_rTable spec_DrawAddCondition impl_compareNumbers

noncomputable def slices_Clone___impl_Condition_impl_Condition_ (a0 : (List Condition)) : Option ((List Condition) × (List Condition)) :=
  (grd (([] : List Condition).length + a0.length ≤ 140737488355328 / 48 ∧ ([] : List Condition).length + a0.length ≤ 140737488355328) ((some ((([] : List Condition) ++ a0), a0))))
def slices_Clone___impl_Condition_impl_Condition_.res (_ : (List Condition)) (_ : (List Condition) × (List Condition)) : AV := (.own 1)
def slices_Clone___impl_Condition_impl_Condition_.out (_ : (List Condition)) (y : (List Condition) × (List Condition)) : List (Option LB) := [some (.arr 33 ty_Condition y.2), some (.arr 33 ty_Condition y.1)]
def slices_Clone___impl_Condition_impl_Condition_.S (ar : List AV) (h : List (Option LB)) (r : AV) (h1 : List (Option LB)) : Prop := ∃ a0 y, slices_Clone___impl_Condition_impl_Condition_ a0 = some y ∧ leL ar [(.own 0)] ∧ leH h [some (.arr 33 ty_Condition a0)] ∧ r = slices_Clone___impl_Condition_impl_Condition_.res a0 y ∧ h1 = slices_Clone___impl_Condition_impl_Condition_.out a0 y
theorem slices_Clone___impl_Condition_impl_Condition_.call {ar : List AV} {h : List (Option LB)} {a0 : (List Condition)} {y : (List Condition) × (List Condition)} (H : slices_Clone___impl_Condition_impl_Condition_ a0 = some y) (h0 : leLk ar [(.own 0)] (leHk h [some (.arr 33 ty_Condition a0)])) : slices_Clone___impl_Condition_impl_Condition_.S ar h (slices_Clone___impl_Condition_impl_Condition_.res a0 y) (slices_Clone___impl_Condition_impl_Condition_.out a0 y) := ⟨a0, y, H, (args_ok h0).1, (args_ok h0).2, rfl, rfl⟩
set_option maxHeartbeats 100000000 in
set_option maxRecDepth 100000 in
theorem slices_Clone___impl_Condition_impl_Condition_.spec (a0 : (List Condition)) (y : (List Condition) × (List Condition)) (H : slices_Clone___impl_Condition_impl_Condition_ a0 = some y) : Spec Tryd.prog 39 [(.own 0)] [some (.arr 33 ty_Condition a0)] (slices_Clone___impl_Condition_impl_Condition_.res a0 y) (slices_Clone___impl_Condition_impl_Condition_.out a0 y) := by
  refine spec_intro (G35_ok.at tok []) (ct := []) Tryd.func39 rfl (by kernel_rfl) (by kernel_rfl) rfl ?_
  repeat' first
    | ((with_reducible refine eqg ?_); exact rfl)
    | ((with_reducible refine KOb.mk ?_); kernel_rfl)
    | ((with_reducible intro h); (repeat (first | replace H := grd_k H | replace H := out_step H (by assumption))); first | replace H := cond_t h H | replace H := cond_f h H | exact absurd h (by decide) | skip)
    | ((with_reducible refine Ob.mk ?_); first | (with_reducible rfl) | (first | ((repeat (first | (with_reducible exact grd_p H) | (replace H := grd_k H) | (replace H := out_step H (by assumption)))); done) | rfl | ((repeat (first | exact grd_p H | replace H := grd_k H | replace H := out_step H (by assumption))); done) | ((repeat (first | exact grd_p H | (have hp := grd_p H; exact hp) | replace H := grd_k H | replace H := out_step H (by assumption) | (replace H := bind_some H; obtain ⟨_, _, H⟩ := H))); done) | (repeat (first | exact grd_p H | replace H := grd_k H | replace H := out_step H (by assumption)))))
    | (with_reducible exact True.intro)
    | ((conv => whnf); first
        | (with_reducible refine And.intro ?_ ?_)
        | (with_reducible exact True.intro)
        | ((with_reducible refine Ob.mk ?_); first | (with_reducible rfl) | (first | ((repeat (first | (with_reducible exact grd_p H) | (replace H := grd_k H) | (replace H := out_step H (by assumption)))); done) | rfl | ((repeat (first | exact grd_p H | replace H := grd_k H | replace H := out_step H (by assumption))); done) | ((repeat (first | exact grd_p H | (have hp := grd_p H; exact hp) | replace H := grd_k H | replace H := out_step H (by assumption) | (replace H := bind_some H; obtain ⟨_, _, H⟩ := H))); done) | (repeat (first | exact grd_p H | replace H := grd_k H | replace H := out_step H (by assumption)))))
        | ((with_reducible refine fin_mk ?_); (repeat (first | replace H := grd_k H | replace H := out_step H (by assumption))); have H := Option.some.inj H; subst H))
    | constructor
  all_goals exact viewz _ _
def G36 : Env := G35.add 39 [true] slices_Clone___impl_Condition_impl_Condition_.S
theorem G36_ok : EnvOk Tryd.prog G36 := G35_ok.add ent_39 fun ar h r h1 ⟨a0, y, hy, e1, e2, e3, e4⟩ => by
  subst e3 e4; exact (slices_Clone___impl_Condition_impl_Condition_.spec a0 y hy).le e1 e2
attribute [local irreducible] slices_Clone___impl_Condition_impl_Condition_

noncomputable def slices_Insert___impl_Condition_impl_Condition_ (a0 : (List Condition)) (a1 : Int) (a2 : (List Condition)) : Option ((List Condition)) :=
  (grd ((0 ≤ a1 ∧ a1 ≤ (a0.length : Int)) ∧ a0.length ≤ 1000000 ∧ a2.length = 1) ((some (insL a0 a1 a2))))
def slices_Insert___impl_Condition_impl_Condition_.res (_ : (List Condition)) (_ : Int) (_ : (List Condition)) (_ : (List Condition)) : AV := (.own 2)
def slices_Insert___impl_Condition_impl_Condition_.out (_ : (List Condition)) (_ : Int) (_ : (List Condition)) (y : (List Condition)) : List (Option LB) := [none, none, some (.arr 33 ty_Condition y)]
def slices_Insert___impl_Condition_impl_Condition_.S (ar : List AV) (h : List (Option LB)) (r : AV) (h1 : List (Option LB)) : Prop := ∃ a0 a1 a2 y, slices_Insert___impl_Condition_impl_Condition_ a0 a1 a2 = some y ∧ leL ar [(.own 0), (.v (.int .i64 a1)), (.own 1)] ∧ leH h [some (.arr 33 ty_Condition a0), some (.arr 33 ty_Condition a2)] ∧ r = slices_Insert___impl_Condition_impl_Condition_.res a0 a1 a2 y ∧ h1 = slices_Insert___impl_Condition_impl_Condition_.out a0 a1 a2 y
theorem slices_Insert___impl_Condition_impl_Condition_.call {ar : List AV} {h : List (Option LB)} {a0 : (List Condition)} {a1 : Int} {a2 : (List Condition)} {y : (List Condition)} (H : slices_Insert___impl_Condition_impl_Condition_ a0 a1 a2 = some y) (h0 : leLk ar [(.own 0), (.v (.int .i64 a1)), (.own 1)] (leHk h [some (.arr 33 ty_Condition a0), some (.arr 33 ty_Condition a2)])) : slices_Insert___impl_Condition_impl_Condition_.S ar h (slices_Insert___impl_Condition_impl_Condition_.res a0 a1 a2 y) (slices_Insert___impl_Condition_impl_Condition_.out a0 a1 a2 y) := ⟨a0, a1, a2, y, H, (args_ok h0).1, (args_ok h0).2, rfl, rfl⟩
theorem slices_Insert___impl_Condition_impl_Condition_.spec (a0 : (List Condition)) (a1 : Int) (a2 : (List Condition)) (y : (List Condition)) (H : slices_Insert___impl_Condition_impl_Condition_ a0 a1 a2 = some y) : Spec Tryd.prog 38 [(.own 0), (.v (.int .i64 a1)), (.own 1)] [some (.arr 33 ty_Condition a0), some (.arr 33 ty_Condition a2)] (slices_Insert___impl_Condition_impl_Condition_.res a0 a1 a2 y) (slices_Insert___impl_Condition_impl_Condition_.out a0 a1 a2 y) := by
  have hg := grd_p H
  have H := Option.some.inj (grd_k H)
  subst H
  exact ext_slices_Insert a0 a1 a2 hg
def G37 : Env := G36.add 38 [true, false, true] slices_Insert___impl_Condition_impl_Condition_.S
theorem G37_ok : EnvOk Tryd.prog G37 := G36_ok.add ent_38 fun ar h r h1 ⟨a0, a1, a2, y, hy, e1, e2, e3, e4⟩ => by
  subst e3 e4; exact (slices_Insert___impl_Condition_impl_Condition_.spec a0 a1 a2 y hy).le e1 e2
attribute [local irreducible] slices_Insert___impl_Condition_impl_Condition_

noncomputable def slices_BinarySearchFunc___impl_Condition_impl_Condition_impl_Condition__i1_loop1 (a0 : (List Condition)) (a1 : Condition) (v8 : Int) (v9 : Int) : Option (Lp (Int × Int) ((Int))) :=
  (cond (decide (v8 < v9)) (grd (0 ≤ (1 : Int)) (grd (0 ≤ (w64 (Int.fdiv (wu64 (w64 (v8 + v9))) (2 ^ min (1 : Int).toNat (IntKind.u64).bits))) ∧ (w64 (Int.fdiv (wu64 (w64 (v8 + v9))) (2 ^ min (1 : Int).toNat (IntKind.u64).bits))) < (a0.length : Int)) ((impl_compareNumbers ((a0.getD ((w64 (Int.fdiv (wu64 (w64 (v8 + v9))) (2 ^ min (1 : Int).toNat (IntKind.u64).bits))).toNat) d_Condition).1, (a0.getD ((w64 (Int.fdiv (wu64 (w64 (v8 + v9))) (2 ^ min (1 : Int).toNat (IntKind.u64).bits))).toNat) d_Condition).2.1, (a0.getD ((w64 (Int.fdiv (wu64 (w64 (v8 + v9))) (2 ^ min (1 : Int).toNat (IntKind.u64).bits))).toNat) d_Condition).2.2.1, (a0.getD ((w64 (Int.fdiv (wu64 (w64 (v8 + v9))) (2 ^ min (1 : Int).toNat (IntKind.u64).bits))).toNat) d_Condition).2.2.2.1, (a0.getD ((w64 (Int.fdiv (wu64 (w64 (v8 + v9))) (2 ^ min (1 : Int).toNat (IntKind.u64).bits))).toNat) d_Condition).2.2.2.2.1, ()) (a1.1, a1.2.1, a1.2.2.1, a1.2.2.2.1, a1.2.2.2.2.1, ())).bind fun y10 => (cond (decide (y10 < (0 : Int))) (some (.go ((w64 ((w64 (Int.fdiv (wu64 (w64 (v8 + v9))) (2 ^ min (1 : Int).toNat (IntKind.u64).bits))) + (1 : Int))), v9))) (some (.go (v8, (w64 (Int.fdiv (wu64 (w64 (v8 + v9))) (2 ^ min (1 : Int).toNat (IntKind.u64).bits)))))))))) ((some (.out v8))))
noncomputable def slices_BinarySearchFunc___impl_Condition_impl_Condition_impl_Condition__i1 (a0 : (List Condition)) (a1 : Condition) : Option (Int × Bool) :=
  ((iter (fun s => slices_BinarySearchFunc___impl_Condition_impl_Condition_impl_Condition__i1_loop1 a0 a1 s.1 s.2) ((0 : Int), (a0.length : Int))).bind (fun r11 => (cond (decide (r11 < (a0.length : Int))) (grd (0 ≤ r11 ∧ r11 < (a0.length : Int)) ((impl_compareNumbers ((a0.getD r11.toNat d_Condition).1, (a0.getD r11.toNat d_Condition).2.1, (a0.getD r11.toNat d_Condition).2.2.1, (a0.getD r11.toNat d_Condition).2.2.2.1, (a0.getD r11.toNat d_Condition).2.2.2.2.1, ()) (a1.1, a1.2.1, a1.2.2.1, a1.2.2.2.1, a1.2.2.2.2.1, ())).bind fun y12 => (some (r11, (decide (y12 = (0 : Int))))))) ((some (r11, false))))))
def slices_BinarySearchFunc___impl_Condition_impl_Condition_impl_Condition__i1.res (_ : (List Condition)) (_ : Condition) (y : Int × Bool) : AV := (.tup [(.v (.int .i64 y.1)), (.bl y.2)])
def slices_BinarySearchFunc___impl_Condition_impl_Condition_impl_Condition__i1.out (_ : (List Condition)) (_ : Condition) (_ : Int × Bool) : List (Option LB) := []
def slices_BinarySearchFunc___impl_Condition_impl_Condition_impl_Condition__i1.S (ar : List AV) (h : List (Option LB)) (r : AV) (h1 : List (Option LB)) : Prop := ∃ a0 a1 y, slices_BinarySearchFunc___impl_Condition_impl_Condition_impl_Condition__i1 a0 a1 = some y ∧ leL ar [(.tree ty_Condition a0), (.agg [(.v (.int .i64 a1.1)), (.v (.string a1.2.1)), (.v (.int .i64 a1.2.2.1)), (.v (.int .i64 a1.2.2.2.1)), (.v (.int .i64 a1.2.2.2.2.1))]), (.fn 37 [])] ∧ leH h [] ∧ r = slices_BinarySearchFunc___impl_Condition_impl_Condition_impl_Condition__i1.res a0 a1 y ∧ h1 = slices_BinarySearchFunc___impl_Condition_impl_Condition_impl_Condition__i1.out a0 a1 y
theorem slices_BinarySearchFunc___impl_Condition_impl_Condition_impl_Condition__i1.call {ar : List AV} {h : List (Option LB)} {a0 : (List Condition)} {a1 : Condition} {y : Int × Bool} (H : slices_BinarySearchFunc___impl_Condition_impl_Condition_impl_Condition__i1 a0 a1 = some y) (h0 : leLk ar [(.tree ty_Condition a0), (.agg [(.v (.int .i64 a1.1)), (.v (.string a1.2.1)), (.v (.int .i64 a1.2.2.1)), (.v (.int .i64 a1.2.2.2.1)), (.v (.int .i64 a1.2.2.2.2.1))]), (.fn 37 [])] (leHk h [])) : slices_BinarySearchFunc___impl_Condition_impl_Condition_impl_Condition__i1.S ar h (slices_BinarySearchFunc___impl_Condition_impl_Condition_impl_Condition__i1.res a0 a1 y) (slices_BinarySearchFunc___impl_Condition_impl_Condition_impl_Condition__i1.out a0 a1 y) := ⟨a0, a1, y, H, (args_ok h0).1, (args_ok h0).2, rfl, rfl⟩
set_option maxHeartbeats 100000000 in
set_option maxRecDepth 100000 in
theorem slices_BinarySearchFunc___impl_Condition_impl_Condition_impl_Condition__i1.spec (a0 : (List Condition)) (a1 : Condition) (y : Int × Bool) (H : slices_BinarySearchFunc___impl_Condition_impl_Condition_impl_Condition__i1 a0 a1 = some y) : Spec Tryd.prog 36 [(.tree ty_Condition a0), (.agg [(.v (.int .i64 a1.1)), (.v (.string a1.2.1)), (.v (.int .i64 a1.2.2.1)), (.v (.int .i64 a1.2.2.2.1)), (.v (.int .i64 a1.2.2.2.2.1))]), (.fn 37 [])] [] (slices_BinarySearchFunc___impl_Condition_impl_Condition_impl_Condition__i1.res a0 a1 y) (slices_BinarySearchFunc___impl_Condition_impl_Condition_impl_Condition__i1.out a0 a1 y) := by
  refine spec_intro (G37_ok.at tok []) (ct := [(6, some [0, 2, 4, 8, 9, 10, 11, 31, 40, 41, 42, 43, 44, 45, 46, 47])]) Tryd.func36 rfl (by kernel_rfl) (by kernel_rfl) rfl ?_
  repeat' first
    | ((with_reducible refine eqg ?_); exact rfl)
    | ((with_reducible refine KOb.mk ?_); kernel_rfl)
    | ((with_reducible intro h); (repeat (first | replace H := grd_k H | replace H := out_step H (by assumption))); first | replace H := cond_t h H | replace H := cond_f h H | exact absurd h (by decide) | skip)
    | ((with_reducible refine Ob.mk ?_); first | (with_reducible rfl) | (first | ((repeat (first | (with_reducible exact grd_p H) | (replace H := grd_k H) | (replace H := out_step H (by assumption)))); done) | rfl | ((repeat (first | exact grd_p H | replace H := grd_k H | replace H := out_step H (by assumption))); done) | ((repeat (first | exact grd_p H | (have hp := grd_p H; exact hp) | replace H := grd_k H | replace H := out_step H (by assumption) | (replace H := bind_some H; obtain ⟨_, _, H⟩ := H))); done) | (repeat (first | exact grd_p H | replace H := grd_k H | replace H := out_step H (by assumption)))))
    | (with_reducible exact True.intro)
    | ((conv => whnf); first
        | (with_reducible refine And.intro ?_ ?_)
        | (with_reducible exact True.intro)
        | ((with_reducible refine Ob.mk ?_); first | (with_reducible rfl) | (first | ((repeat (first | (with_reducible exact grd_p H) | (replace H := grd_k H) | (replace H := out_step H (by assumption)))); done) | rfl | ((repeat (first | exact grd_p H | replace H := grd_k H | replace H := out_step H (by assumption))); done) | ((repeat (first | exact grd_p H | (have hp := grd_p H; exact hp) | replace H := grd_k H | replace H := out_step H (by assumption) | (replace H := bind_some H; obtain ⟨_, _, H⟩ := H))); done) | (repeat (first | exact grd_p H | replace H := grd_k H | replace H := out_step H (by assumption)))))
        | ((with_reducible refine CallW.mk ?_); (repeat (first | replace H := grd_k H | replace H := out_step H (by assumption))); replace H := bind_some H; obtain ⟨y, hy, H⟩ := H; first | ((with_reducible have hz : impl_compareNumbers _ _ = some y := hy); clear hz; refine Exists.intro _ (Exists.intro _ ⟨impl_compareNumbers.call hy ?_, rfl, rfl, ?_⟩)))
        | ((repeat (first | replace H := grd_k H | replace H := out_step H (by assumption))); refine loop_iter (G37_ok.at tok []) (ct := [(6, some [0, 2, 4, 8, 9, 10, 11, 31, 40, 41, 42, 43, 44, 45, 46, 47])]) (F := (fun s1 : Int × Int => ⟨sl [(0, (.tree ty_Condition a0)), (2, (.fn 37 [])), (4, (.loc 0 0 0)), (8, (.v (.int .i64 (a0.length : Int)))), (9, (.v (.int .i64 s1.1))), (10, (.v (.int .i64 s1.2)))], [some (.box 33 [(.v (.int .i64 a1.1)), (.v (.string a1.2.1)), (.v (.int .i64 a1.2.2.1)), (.v (.int .i64 a1.2.2.2.1)), (.v (.int .i64 a1.2.2.2.2.1))])]⟩)) (step := (fun s : Int × Int => slices_BinarySearchFunc___impl_Condition_impl_Condition_impl_Condition__i1_loop1 _ _ s.1 s.2)) _ H (by kernel_rfl) (sub_auto ?_) ?_; rotate_left; (intro s1 r v hr H); rotate_right)
        | ((repeat (first | replace H := grd_k H | replace H := out_step H (by assumption))); refine again_step H (by assumption) (sub_auto ?_))
        | ((with_reducible refine fin_mk ?_); (repeat (first | replace H := grd_k H | replace H := out_step H (by assumption))); have H := Option.some.inj H; subst H))
    | constructor
  all_goals exact viewz _ _
def G38 : Env := G37.add 36 [] slices_BinarySearchFunc___impl_Condition_impl_Condition_impl_Condition__i1.S
theorem G38_ok : EnvOk Tryd.prog G38 := G37_ok.add ent_36 fun ar h r h1 ⟨a0, a1, y, hy, e1, e2, e3, e4⟩ => by
  subst e3 e4; exact (slices_BinarySearchFunc___impl_Condition_impl_Condition_impl_Condition__i1.spec a0 a1 y hy).le e1 e2
attribute [local irreducible] slices_BinarySearchFunc___impl_Condition_impl_Condition_impl_Condition__i1

noncomputable def impl_AddCondition (a0 : (List Condition)) (a1 : Condition) : Option (((List Condition)) ⊕ ((List Condition) × (List Condition))) :=
  ((impl_AreConditions a0).bind fun y1 => (cond (!y1) ((some (Sum.inl a0))) ((slices_BinarySearchFunc___impl_Condition_impl_Condition_impl_Condition__i1 a0 (a1.1, a1.2.1, a1.2.2.1, a1.2.2.2.1, a1.2.2.2.2.1, ())).bind fun y2 => ((slices_Clone___impl_Condition_impl_Condition_ a0).bind fun y3 => ((slices_Insert___impl_Condition_impl_Condition_ y3.1 y2.1 [(a1.1, a1.2.1, a1.2.2.1, a1.2.2.2.1, a1.2.2.2.2.1, ())]).bind fun y4 => ((impl_AreConditions y4).bind fun y5 => (cond (!y5) ((some (Sum.inl y3.2))) ((some (Sum.inr (y4, y3.2)))))))))))
def impl_AddCondition.res (_ : (List Condition)) (_ : Condition) (y : ((List Condition)) ⊕ ((List Condition) × (List Condition))) : AV := match y with
  | (.inl y) => (.tup [(.v (.slice none 0 0)), (.v (.bool false))])
  | (.inr y) => (.tup [(.own 1), (.v (.bool true))])
def impl_AddCondition.out (_ : (List Condition)) (_ : Condition) (y : ((List Condition)) ⊕ ((List Condition) × (List Condition))) : List (Option LB) := match y with
  | (.inl y) => [some (.arr 33 ty_Condition y)]
  | (.inr y) => [some (.arr 33 ty_Condition y.2), some (.arr 33 ty_Condition y.1)]
def impl_AddCondition.S (ar : List AV) (h : List (Option LB)) (r : AV) (h1 : List (Option LB)) : Prop := ∃ a0 a1 y, impl_AddCondition a0 a1 = some y ∧ leL ar [(.own 0), (.agg [(.v (.int .i64 a1.1)), (.v (.string a1.2.1)), (.v (.int .i64 a1.2.2.1)), (.v (.int .i64 a1.2.2.2.1)), (.v (.int .i64 a1.2.2.2.2.1))])] ∧ leH h [some (.arr 33 ty_Condition a0)] ∧ r = impl_AddCondition.res a0 a1 y ∧ h1 = impl_AddCondition.out a0 a1 y
theorem impl_AddCondition.call {ar : List AV} {h : List (Option LB)} {a0 : (List Condition)} {a1 : Condition} {y : ((List Condition)) ⊕ ((List Condition) × (List Condition))} (H : impl_AddCondition a0 a1 = some y) (h0 : leLk ar [(.own 0), (.agg [(.v (.int .i64 a1.1)), (.v (.string a1.2.1)), (.v (.int .i64 a1.2.2.1)), (.v (.int .i64 a1.2.2.2.1)), (.v (.int .i64 a1.2.2.2.2.1))])] (leHk h [some (.arr 33 ty_Condition a0)])) : impl_AddCondition.S ar h (impl_AddCondition.res a0 a1 y) (impl_AddCondition.out a0 a1 y) := ⟨a0, a1, y, H, (args_ok h0).1, (args_ok h0).2, rfl, rfl⟩
set_option maxHeartbeats 100000000 in
set_option maxRecDepth 100000 in
theorem impl_AddCondition.spec (a0 : (List Condition)) (a1 : Condition) (y : ((List Condition)) ⊕ ((List Condition) × (List Condition))) (H : impl_AddCondition a0 a1 = some y) : Spec Tryd.prog 10 [(.own 0), (.agg [(.v (.int .i64 a1.1)), (.v (.string a1.2.1)), (.v (.int .i64 a1.2.2.1)), (.v (.int .i64 a1.2.2.2.1)), (.v (.int .i64 a1.2.2.2.2.1))])] [some (.arr 33 ty_Condition a0)] (impl_AddCondition.res a0 a1 y) (impl_AddCondition.out a0 a1 y) := by
  have hlen : Nat.ble ([some (.arr 33 ty_Condition a0)] : List (Option LB)).length (impl_AddCondition.out a0 a1 y).length = true := by
    rcases y with y | y <;> rfl
  refine spec_intro (G38_ok.at tok []) (ct := [(4, some [0, 3, 6])]) Tryd.func10 rfl (by kernel_rfl) (by kernel_rfl) hlen ?_
  repeat' first
    | ((with_reducible refine eqg ?_); exact rfl)
    | ((with_reducible refine KOb.mk ?_); kernel_rfl)
    | ((with_reducible intro h); (repeat (first | replace H := grd_k H | replace H := out_step H (by assumption))); first | replace H := cond_t h H | replace H := cond_f h H | exact absurd h (by decide) | skip)
    | ((with_reducible refine Ob.mk ?_); first | (with_reducible rfl) | (first | ((repeat (first | (with_reducible exact grd_p H) | (replace H := grd_k H) | (replace H := out_step H (by assumption)))); done) | rfl | ((repeat (first | exact grd_p H | replace H := grd_k H | replace H := out_step H (by assumption))); done) | ((repeat (first | exact grd_p H | (have hp := grd_p H; exact hp) | replace H := grd_k H | replace H := out_step H (by assumption) | (replace H := bind_some H; obtain ⟨_, _, H⟩ := H))); done) | (repeat (first | exact grd_p H | replace H := grd_k H | replace H := out_step H (by assumption)))))
    | (with_reducible exact True.intro)
    | ((conv => whnf); first
        | (with_reducible refine And.intro ?_ ?_)
        | (with_reducible exact True.intro)
        | ((with_reducible refine Ob.mk ?_); first | (with_reducible rfl) | (first | ((repeat (first | (with_reducible exact grd_p H) | (replace H := grd_k H) | (replace H := out_step H (by assumption)))); done) | rfl | ((repeat (first | exact grd_p H | replace H := grd_k H | replace H := out_step H (by assumption))); done) | ((repeat (first | exact grd_p H | (have hp := grd_p H; exact hp) | replace H := grd_k H | replace H := out_step H (by assumption) | (replace H := bind_some H; obtain ⟨_, _, H⟩ := H))); done) | (repeat (first | exact grd_p H | replace H := grd_k H | replace H := out_step H (by assumption)))))
        | ((with_reducible refine CallW.mk ?_); (repeat (first | replace H := grd_k H | replace H := out_step H (by assumption))); replace H := bind_some H; obtain ⟨y, hy, H⟩ := H; first | ((with_reducible have hz : impl_AreConditions _ = some y := hy); clear hz; refine Exists.intro _ (Exists.intro _ ⟨impl_AreConditions.call hy ?_, rfl, rfl, ?_⟩)) | ((with_reducible have hz : slices_BinarySearchFunc___impl_Condition_impl_Condition_impl_Condition__i1 _ _ = some y := hy); clear hz; refine Exists.intro _ (Exists.intro _ ⟨slices_BinarySearchFunc___impl_Condition_impl_Condition_impl_Condition__i1.call hy ?_, rfl, rfl, ?_⟩)) | ((with_reducible have hz : slices_Clone___impl_Condition_impl_Condition_ _ = some y := hy); clear hz; refine Exists.intro _ (Exists.intro _ ⟨slices_Clone___impl_Condition_impl_Condition_.call hy ?_, rfl, rfl, ?_⟩)) | ((with_reducible have hz : slices_Insert___impl_Condition_impl_Condition_ _ _ _ = some y := hy); clear hz; refine Exists.intro _ (Exists.intro _ ⟨slices_Insert___impl_Condition_impl_Condition_.call hy ?_, rfl, rfl, ?_⟩)))
        | ((with_reducible refine fin_mk ?_); (repeat (first | replace H := grd_k H | replace H := out_step H (by assumption))); have H := Option.some.inj H; subst H))
    | constructor
def G39 : Env := G38.add 10 [true] impl_AddCondition.S
theorem G39_ok : EnvOk Tryd.prog G39 := G38_ok.add ent_10 fun ar h r h1 ⟨a0, a1, y, hy, e1, e2, e3, e4⟩ => by
  subst e3 e4; exact (impl_AddCondition.spec a0 a1 y hy).le e1 e2
attribute [local irreducible] impl_AddCondition

noncomputable def spec_AddCondition_loop1 (a0 : (List Condition)) (a1 : Condition) (v3 : Int) : Option (Lp (Int) ((Int))) :=
  (cond (decide (v3 < (a0.length : Int))) (grd (0 ≤ v3 ∧ v3 < (a0.length : Int)) (cond (decide (((a0.getD v3.toNat d_Condition).1) < a1.1)) (some (.go (w64 (v3 + (1 : Int))))) ((some (.out v3))))) ((some (.out v3))))
noncomputable def spec_AddCondition (a0 : (List Condition)) (a1 : Condition) : Option ((List Condition) × Bool) :=
  ((spec_l24Good a0).bind fun y1 => (cond (!y1) ((some (([] : List Condition), false))) ((iter (fun s => spec_AddCondition_loop1 a0 a1 s) (0 : Int)).bind (fun r4 => (grd (0 ≤ (0 : Int) ∧ (0 : Int) ≤ r4 ∧ r4 ≤ (a0.length : Int)) (grd (([] : List Condition).length + (lsub a0 (0 : Int) r4).length ≤ 140737488355328 / 48 ∧ ([] : List Condition).length + (lsub a0 (0 : Int) r4).length ≤ 140737488355328) (grd ((([] : List Condition) ++ (lsub a0 (0 : Int) r4)).length + [(a1.1, a1.2.1, a1.2.2.1, a1.2.2.2.1, a1.2.2.2.2.1, ())].length ≤ 140737488355328 / 48 ∧ (([] : List Condition) ++ (lsub a0 (0 : Int) r4)).length + [(a1.1, a1.2.1, a1.2.2.1, a1.2.2.2.1, a1.2.2.2.2.1, ())].length ≤ 140737488355328) (grd (0 ≤ r4 ∧ r4 ≤ (a0.length : Int) ∧ (a0.length : Int) ≤ (a0.length : Int)) (grd (((([] : List Condition) ++ (lsub a0 (0 : Int) r4)) ++ [(a1.1, a1.2.1, a1.2.2.1, a1.2.2.2.1, a1.2.2.2.2.1, ())]).length + (lsub a0 r4 (a0.length : Int)).length ≤ 140737488355328 / 48 ∧ ((([] : List Condition) ++ (lsub a0 (0 : Int) r4)) ++ [(a1.1, a1.2.1, a1.2.2.1, a1.2.2.2.1, a1.2.2.2.2.1, ())]).length + (lsub a0 r4 (a0.length : Int)).length ≤ 140737488355328) ((spec_l24Good (((([] : List Condition) ++ (lsub a0 (0 : Int) r4)) ++ [(a1.1, a1.2.1, a1.2.2.1, a1.2.2.2.1, a1.2.2.2.2.1, ())]) ++ (lsub a0 r4 (a0.length : Int)))).bind fun y5 => (cond (!y5) ((some (([] : List Condition), false))) ((some ((((([] : List Condition) ++ (lsub a0 (0 : Int) r4)) ++ [(a1.1, a1.2.1, a1.2.2.1, a1.2.2.2.1, a1.2.2.2.2.1, ())]) ++ (lsub a0 r4 (a0.length : Int))), true))))))))))))))
def spec_AddCondition.res (_ : (List Condition)) (_ : Condition) (y : (List Condition) × Bool) : AV := (.tup [(.own 0), (.bl y.2)])
def spec_AddCondition.out (_ : (List Condition)) (_ : Condition) (y : (List Condition) × Bool) : List (Option LB) := [some (.arr 33 ty_Condition y.1)]
def spec_AddCondition.S (ar : List AV) (h : List (Option LB)) (r : AV) (h1 : List (Option LB)) : Prop := ∃ a0 a1 y, spec_AddCondition a0 a1 = some y ∧ leL ar [(.tree ty_Condition a0), (.agg [(.v (.int .i64 a1.1)), (.v (.string a1.2.1)), (.v (.int .i64 a1.2.2.1)), (.v (.int .i64 a1.2.2.2.1)), (.v (.int .i64 a1.2.2.2.2.1))])] ∧ leH h [] ∧ r = spec_AddCondition.res a0 a1 y ∧ h1 = spec_AddCondition.out a0 a1 y
theorem spec_AddCondition.call {ar : List AV} {h : List (Option LB)} {a0 : (List Condition)} {a1 : Condition} {y : (List Condition) × Bool} (H : spec_AddCondition a0 a1 = some y) (h0 : leLk ar [(.tree ty_Condition a0), (.agg [(.v (.int .i64 a1.1)), (.v (.string a1.2.1)), (.v (.int .i64 a1.2.2.1)), (.v (.int .i64 a1.2.2.2.1)), (.v (.int .i64 a1.2.2.2.2.1))])] (leHk h [])) : spec_AddCondition.S ar h (spec_AddCondition.res a0 a1 y) (spec_AddCondition.out a0 a1 y) := ⟨a0, a1, y, H, (args_ok h0).1, (args_ok h0).2, rfl, rfl⟩
set_option maxHeartbeats 100000000 in
set_option maxRecDepth 100000 in
theorem spec_AddCondition.spec (a0 : (List Condition)) (a1 : Condition) (y : (List Condition) × Bool) (H : spec_AddCondition a0 a1 = some y) : Spec Tryd.prog 11 [(.tree ty_Condition a0), (.agg [(.v (.int .i64 a1.1)), (.v (.string a1.2.1)), (.v (.int .i64 a1.2.2.1)), (.v (.int .i64 a1.2.2.2.1)), (.v (.int .i64 a1.2.2.2.2.1))])] [] (spec_AddCondition.res a0 a1 y) (spec_AddCondition.out a0 a1 y) := by
  refine spec_intro (G39_ok.at tok []) (ct := [(5, some [0, 3, 6, 17, 18, 19, 20, 21, 22, 23, 24]), (7, some [7])]) Tryd.func11 rfl (by kernel_rfl) (by kernel_rfl) rfl ?_
  repeat' first
    | ((with_reducible refine eqg ?_); exact rfl)
    | ((with_reducible refine KOb.mk ?_); kernel_rfl)
    | ((with_reducible intro h); (repeat (first | replace H := grd_k H | replace H := out_step H (by assumption))); first | replace H := cond_t h H | replace H := cond_f h H | exact absurd h (by decide) | skip)
    | ((with_reducible refine Ob.mk ?_); first | (with_reducible rfl) | (first | ((repeat (first | (with_reducible exact grd_p H) | (replace H := grd_k H) | (replace H := out_step H (by assumption)))); done) | rfl | ((repeat (first | exact grd_p H | replace H := grd_k H | replace H := out_step H (by assumption))); done) | ((repeat (first | exact grd_p H | (have hp := grd_p H; exact hp) | replace H := grd_k H | replace H := out_step H (by assumption) | (replace H := bind_some H; obtain ⟨_, _, H⟩ := H))); done) | (repeat (first | exact grd_p H | replace H := grd_k H | replace H := out_step H (by assumption)))))
    | (with_reducible exact True.intro)
    | ((conv => whnf); first
        | (with_reducible refine And.intro ?_ ?_)
        | (with_reducible exact True.intro)
        | ((with_reducible refine Ob.mk ?_); first | (with_reducible rfl) | (first | ((repeat (first | (with_reducible exact grd_p H) | (replace H := grd_k H) | (replace H := out_step H (by assumption)))); done) | rfl | ((repeat (first | exact grd_p H | replace H := grd_k H | replace H := out_step H (by assumption))); done) | ((repeat (first | exact grd_p H | (have hp := grd_p H; exact hp) | replace H := grd_k H | replace H := out_step H (by assumption) | (replace H := bind_some H; obtain ⟨_, _, H⟩ := H))); done) | (repeat (first | exact grd_p H | replace H := grd_k H | replace H := out_step H (by assumption)))))
        | ((with_reducible refine CallW.mk ?_); (repeat (first | replace H := grd_k H | replace H := out_step H (by assumption))); replace H := bind_some H; obtain ⟨y, hy, H⟩ := H; first | ((with_reducible have hz : spec_l24Good _ = some y := hy); clear hz; refine Exists.intro _ (Exists.intro _ ⟨spec_l24Good.call hy ?_, rfl, rfl, ?_⟩)))
        | ((repeat (first | replace H := grd_k H | replace H := out_step H (by assumption))); refine loop_iter (G39_ok.at tok []) (ct := [(5, some [0, 3, 6, 17, 18, 19, 20, 21, 22, 23, 24]), (7, some [7])]) (F := (fun s1 : Int => ⟨sl [(0, (.tree ty_Condition a0)), (3, (.loc 0 0 0)), (6, (.v (.int .i64 s1)))], [some (.box 33 [(.v (.int .i64 a1.1)), (.v (.string a1.2.1)), (.v (.int .i64 a1.2.2.1)), (.v (.int .i64 a1.2.2.2.1)), (.v (.int .i64 a1.2.2.2.2.1))])]⟩)) (step := (fun s : Int => spec_AddCondition_loop1 _ _ s)) _ H (by kernel_rfl) (sub_auto ?_) ?_; rotate_left; (intro s1 r v hr H); rotate_right)
        | ((repeat (first | replace H := grd_k H | replace H := out_step H (by assumption))); refine again_step H (by assumption) (sub_auto ?_))
        | ((with_reducible refine fin_mk ?_); (repeat (first | replace H := grd_k H | replace H := out_step H (by assumption))); have H := Option.some.inj H; subst H))
    | constructor
def G40 : Env := G39.add 11 [] spec_AddCondition.S
theorem G40_ok : EnvOk Tryd.prog G40 := G39_ok.add ent_11 fun ar h r h1 ⟨a0, a1, y, hy, e1, e2, e3, e4⟩ => by
  subst e3 e4; exact (spec_AddCondition.spec a0 a1 y hy).le e1 e2
attribute [local irreducible] spec_AddCondition

noncomputable def laws_rConditions_loop1 (a0 : (List Condition)) (a1 : (List Condition)) (v2 : Int) : Option (Lp (Int) ((Unit) ⊕ (Unit))) :=
  (cond (decide (v2 < (a0.length : Int))) (grd (0 ≤ v2 ∧ v2 < (a0.length : Int)) (grd (0 ≤ v2 ∧ v2 < (a1.length : Int)) (cond (!(decide (((a0.getD v2.toNat d_Condition).1) = ((a1.getD v2.toNat d_Condition).1)) && (decide (((a0.getD v2.toNat d_Condition).2.1) = ((a1.getD v2.toNat d_Condition).2.1)) && (decide (((a0.getD v2.toNat d_Condition).2.2.1) = ((a1.getD v2.toNat d_Condition).2.2.1)) && (decide (((a0.getD v2.toNat d_Condition).2.2.2.1) = ((a1.getD v2.toNat d_Condition).2.2.2.1)) && (decide (((a0.getD v2.toNat d_Condition).2.2.2.2.1) = ((a1.getD v2.toNat d_Condition).2.2.2.2.1)) && true)))))) ((some (.out (Sum.inl ())))) (some (.go (w64 (v2 + (1 : Int)))))))) ((some (.out (Sum.inr ())))))
noncomputable def laws_rConditions (a0 : (List Condition)) (a1 : (List Condition)) : Option (Bool) :=
  (cond (!decide ((a0.length : Int) = (a1.length : Int))) ((some false)) ((iter (fun s => laws_rConditions_loop1 a0 a1 s) (0 : Int)).bind (Sum.elim (fun _ => (some false)) (fun _ => (some true)))))
def laws_rConditions.res (_ : (List Condition)) (_ : (List Condition)) (y : Bool) : AV := (.bl y)
def laws_rConditions.out (_ : (List Condition)) (_ : (List Condition)) (_ : Bool) : List (Option LB) := []
def laws_rConditions.S (ar : List AV) (h : List (Option LB)) (r : AV) (h1 : List (Option LB)) : Prop := ∃ a0 a1 y, laws_rConditions a0 a1 = some y ∧ leL ar [(.tree ty_Condition a0), (.tree ty_Condition a1)] ∧ leH h [] ∧ r = laws_rConditions.res a0 a1 y ∧ h1 = laws_rConditions.out a0 a1 y
theorem laws_rConditions.call {ar : List AV} {h : List (Option LB)} {a0 : (List Condition)} {a1 : (List Condition)} {y : Bool} (H : laws_rConditions a0 a1 = some y) (h0 : leLk ar [(.tree ty_Condition a0), (.tree ty_Condition a1)] (leHk h [])) : laws_rConditions.S ar h (laws_rConditions.res a0 a1 y) (laws_rConditions.out a0 a1 y) := ⟨a0, a1, y, H, (args_ok h0).1, (args_ok h0).2, rfl, rfl⟩
set_option maxHeartbeats 100000000 in
set_option maxRecDepth 100000 in
theorem laws_rConditions.spec (a0 : (List Condition)) (a1 : (List Condition)) (y : Bool) (H : laws_rConditions a0 a1 = some y) : Spec Tryd.prog 12 [(.tree ty_Condition a0), (.tree ty_Condition a1)] [] (laws_rConditions.res a0 a1 y) (laws_rConditions.out a0 a1 y) := by
  refine spec_intro (G40_ok.at tok []) (ct := [(5, some [0, 1, 5])]) Tryd.func12 rfl (by kernel_rfl) (by kernel_rfl) rfl ?_
  repeat' first
    | ((with_reducible refine eqg ?_); exact rfl)
    | ((with_reducible refine KOb.mk ?_); kernel_rfl)
    | ((with_reducible intro h); (repeat (first | replace H := grd_k H | replace H := out_step H (by assumption))); first | replace H := cond_t h H | replace H := cond_f h H | exact absurd h (by decide) | skip)
    | ((with_reducible refine Ob.mk ?_); first | (with_reducible rfl) | (first | ((repeat (first | (with_reducible exact grd_p H) | (replace H := grd_k H) | (replace H := out_step H (by assumption)))); done) | rfl | ((repeat (first | exact grd_p H | replace H := grd_k H | replace H := out_step H (by assumption))); done) | ((repeat (first | exact grd_p H | (have hp := grd_p H; exact hp) | replace H := grd_k H | replace H := out_step H (by assumption) | (replace H := bind_some H; obtain ⟨_, _, H⟩ := H))); done) | (repeat (first | exact grd_p H | replace H := grd_k H | replace H := out_step H (by assumption)))))
    | (with_reducible exact True.intro)
    | ((conv => whnf); first
        | (with_reducible refine And.intro ?_ ?_)
        | (with_reducible exact True.intro)
        | ((with_reducible refine Ob.mk ?_); first | (with_reducible rfl) | (first | ((repeat (first | (with_reducible exact grd_p H) | (replace H := grd_k H) | (replace H := out_step H (by assumption)))); done) | rfl | ((repeat (first | exact grd_p H | replace H := grd_k H | replace H := out_step H (by assumption))); done) | ((repeat (first | exact grd_p H | (have hp := grd_p H; exact hp) | replace H := grd_k H | replace H := out_step H (by assumption) | (replace H := bind_some H; obtain ⟨_, _, H⟩ := H))); done) | (repeat (first | exact grd_p H | replace H := grd_k H | replace H := out_step H (by assumption)))))
        | ((repeat (first | replace H := grd_k H | replace H := out_step H (by assumption))); refine loop_iter (G40_ok.at tok []) (ct := [(5, some [0, 1, 5])]) (F := (fun s1 : Int => ⟨sl [(0, (.tree ty_Condition a0)), (1, (.tree ty_Condition a1)), (5, (.v (.int .i64 s1)))], []⟩)) (step := (fun s : Int => laws_rConditions_loop1 _ _ s)) _ H (by kernel_rfl) (sub_auto ?_) ?_; rotate_left; (intro s1 r v hr H); rotate_right)
        | ((repeat (first | replace H := grd_k H | replace H := out_step H (by assumption))); refine again_step H (by assumption) (sub_auto ?_))
        | ((with_reducible refine fin_mk ?_); (repeat (first | replace H := grd_k H | replace H := out_step H (by assumption))); have H := Option.some.inj H; subst H))
    | constructor
def G41 : Env := G40.add 12 [] laws_rConditions.S
theorem G41_ok : EnvOk Tryd.prog G41 := G40_ok.add ent_12 fun ar h r h1 ⟨a0, a1, y, hy, e1, e2, e3, e4⟩ => by
  subst e3 e4; exact (laws_rConditions.spec a0 a1 y hy).le e1 e2
attribute [local irreducible] laws_rConditions

noncomputable def spec_DrawConditionText (a0 : (List Int)) : Option (Condition × Int) :=
  ((spec_l1Cur_condition (a0, (0 : Int), (0 : Int), ()) (5 : Int)).bind fun y1 => ((spec_l1Cur_day24 (y1.2.1, y1.2.2.1, y1.2.2.2.1, ())).bind fun y2 => (some ((y1.1.1, y1.1.2.1, y1.1.2.2.1, y1.1.2.2.2.1, y1.1.2.2.2.2.1, ()), y2.1))))
def spec_DrawConditionText.res (_ : (List Int)) (y : Condition × Int) : AV := (.tup [(.agg [(.v (.int .i64 y.1.1)), (.v (.string y.1.2.1)), (.v (.int .i64 y.1.2.2.1)), (.v (.int .i64 y.1.2.2.2.1)), (.v (.int .i64 y.1.2.2.2.2.1))]), (.v (.int .i64 y.2))])
def spec_DrawConditionText.out (_ : (List Int)) (_ : Condition × Int) : List (Option LB) := []
def spec_DrawConditionText.S (ar : List AV) (h : List (Option LB)) (r : AV) (h1 : List (Option LB)) : Prop := ∃ a0 y, spec_DrawConditionText a0 = some y ∧ leL ar [(.tree (.int .u8) a0)] ∧ leH h [] ∧ r = spec_DrawConditionText.res a0 y ∧ h1 = spec_DrawConditionText.out a0 y
theorem spec_DrawConditionText.call {ar : List AV} {h : List (Option LB)} {a0 : (List Int)} {y : Condition × Int} (H : spec_DrawConditionText a0 = some y) (h0 : leLk ar [(.tree (.int .u8) a0)] (leHk h [])) : spec_DrawConditionText.S ar h (spec_DrawConditionText.res a0 y) (spec_DrawConditionText.out a0 y) := ⟨a0, y, H, (args_ok h0).1, (args_ok h0).2, rfl, rfl⟩
set_option maxHeartbeats 100000000 in
set_option maxRecDepth 100000 in
theorem spec_DrawConditionText.spec (a0 : (List Int)) (y : Condition × Int) (H : spec_DrawConditionText a0 = some y) : Spec Tryd.prog 13 [(.tree (.int .u8) a0)] [] (spec_DrawConditionText.res a0 y) (spec_DrawConditionText.out a0 y) := by
  refine spec_intro (G41_ok.at tok []) (ct := []) Tryd.func13 rfl (by kernel_rfl) (by kernel_rfl) rfl ?_
  repeat' first
    | ((with_reducible refine eqg ?_); exact rfl)
    | ((with_reducible refine KOb.mk ?_); kernel_rfl)
    | ((with_reducible intro h); (repeat (first | replace H := grd_k H | replace H := out_step H (by assumption))); first | replace H := cond_t h H | replace H := cond_f h H | exact absurd h (by decide) | skip)
    | ((with_reducible refine Ob.mk ?_); first | (with_reducible rfl) | (first | ((repeat (first | (with_reducible exact grd_p H) | (replace H := grd_k H) | (replace H := out_step H (by assumption)))); done) | rfl | ((repeat (first | exact grd_p H | replace H := grd_k H | replace H := out_step H (by assumption))); done) | ((repeat (first | exact grd_p H | (have hp := grd_p H; exact hp) | replace H := grd_k H | replace H := out_step H (by assumption) | (replace H := bind_some H; obtain ⟨_, _, H⟩ := H))); done) | (repeat (first | exact grd_p H | replace H := grd_k H | replace H := out_step H (by assumption)))))
    | (with_reducible exact True.intro)
    | ((conv => whnf); first
        | (with_reducible refine And.intro ?_ ?_)
        | (with_reducible exact True.intro)
        | ((with_reducible refine Ob.mk ?_); first | (with_reducible rfl) | (first | ((repeat (first | (with_reducible exact grd_p H) | (replace H := grd_k H) | (replace H := out_step H (by assumption)))); done) | rfl | ((repeat (first | exact grd_p H | replace H := grd_k H | replace H := out_step H (by assumption))); done) | ((repeat (first | exact grd_p H | (have hp := grd_p H; exact hp) | replace H := grd_k H | replace H := out_step H (by assumption) | (replace H := bind_some H; obtain ⟨_, _, H⟩ := H))); done) | (repeat (first | exact grd_p H | replace H := grd_k H | replace H := out_step H (by assumption)))))
        | ((with_reducible refine CallW.mk ?_); (repeat (first | replace H := grd_k H | replace H := out_step H (by assumption))); replace H := bind_some H; obtain ⟨y, hy, H⟩ := H; first | ((with_reducible have hz : spec_l1Cur_condition _ _ = some y := hy); clear hz; refine Exists.intro _ (Exists.intro _ ⟨spec_l1Cur_condition.call hy ?_, rfl, rfl, ?_⟩)) | ((with_reducible have hz : spec_l1Cur_day24 _ = some y := hy); clear hz; refine Exists.intro _ (Exists.intro _ ⟨spec_l1Cur_day24.call hy ?_, rfl, rfl, ?_⟩)))
        | ((with_reducible refine fin_mk ?_); (repeat (first | replace H := grd_k H | replace H := out_step H (by assumption))); have H := Option.some.inj H; subst H))
    | constructor
def G42 : Env := G41.add 13 [] spec_DrawConditionText.S
theorem G42_ok : EnvOk Tryd.prog G42 := G41_ok.add ent_13 fun ar h r h1 ⟨a0, y, hy, e1, e2, e3, e4⟩ => by
  subst e3 e4; exact (spec_DrawConditionText.spec a0 y hy).le e1 e2
attribute [local irreducible] spec_DrawConditionText

end Go.Proofs.YtpmmaohaahbphaaDoor
