/-
  Contracts, printed by a program.
-/
import Derived.Test.YtpmmaohaahbphaaDoorC864
namespace Go.Proofs.YtpmmaohaahbphaaDoor
open Go.RowKit
attribute [local irreducible] Ob loopwp Sub Spec Fin Again CallW CutC KOb iter joinx outm

attribute [local irreducible] laws_rBig spec_l1Cur_next spec_l1Cur_pick spec_l1Cur_of spec_l1Cur_among spec_l1Cur_condition spec_l1Cur_one spec_l1Cur_conditions spec_l1Cur_day24 spec_DrawInspectionPlan impl_within impl_isWord impl_isDate impl_IsCondition impl_AreConditions impl_Condition_lastMet cmp_isNaN_int_ cmp_Compare_int_ slices_Compare___int_int_ impl_InspectionPlan_1 slices_SortFunc_____int___int__i1 impl_InspectionPlan spec_l1In spec_l2Word spec_l24Day spec_l24One spec_l24Good spec_l1Least

noncomputable def spec_l24End (a0 : Condition) : Option (Int) :=
  (cond (decide (a0.2.2.2.2.1 = (5 : Int))) ((some ((-1) : Int))) (cond (decide (a0.2.2.2.2.1 = (4 : Int))) ((spec_l1Least (14 : Int) a0.2.2.1).bind fun y1 => (some (w64 (a0.2.2.2.1 + y1)))) ((some (w64 (a0.2.2.2.1 + a0.2.2.1))))))
def spec_l24End.res (_ : Condition) (y : Int) : AV := (.v (.int .i64 y))
def spec_l24End.out (_ : Condition) (_ : Int) : List (Option LB) := []
def spec_l24End.S (ar : List AV) (h : List (Option LB)) (r : AV) (h1 : List (Option LB)) : Prop := ∃ a0 y, spec_l24End a0 = some y ∧ leL ar [(.agg [(.v (.int .i64 a0.1)), (.v (.string a0.2.1)), (.v (.int .i64 a0.2.2.1)), (.v (.int .i64 a0.2.2.2.1)), (.v (.int .i64 a0.2.2.2.2.1))])] ∧ leH h [] ∧ r = spec_l24End.res a0 y ∧ h1 = spec_l24End.out a0 y
theorem spec_l24End.call {ar : List AV} {h : List (Option LB)} {a0 : Condition} {y : Int} (H : spec_l24End a0 = some y) (h0 : leLk ar [(.agg [(.v (.int .i64 a0.1)), (.v (.string a0.2.1)), (.v (.int .i64 a0.2.2.1)), (.v (.int .i64 a0.2.2.2.1)), (.v (.int .i64 a0.2.2.2.2.1))])] (leHk h [])) : spec_l24End.S ar h (spec_l24End.res a0 y) (spec_l24End.out a0 y) := ⟨a0, y, H, (args_ok h0).1, (args_ok h0).2, rfl, rfl⟩
set_option maxHeartbeats 100000000 in
set_option maxRecDepth 100000 in
theorem spec_l24End.spec (a0 : Condition) (y : Int) (H : spec_l24End a0 = some y) : Spec Tryd.prog 33 [(.agg [(.v (.int .i64 a0.1)), (.v (.string a0.2.1)), (.v (.int .i64 a0.2.2.1)), (.v (.int .i64 a0.2.2.2.1)), (.v (.int .i64 a0.2.2.2.2.1))])] [] (spec_l24End.res a0 y) (spec_l24End.out a0 y) := by
  refine spec_intro (G28_ok.at tok []) (ct := [(6, some [1])]) Tryd.func33 rfl (by kernel_rfl) (by kernel_rfl) rfl ?_
  repeat' first
    | ((with_reducible refine eqg ?_); exact rfl)
    | ((with_reducible refine KOb.mk ?_); kernel_rfl)
    | ((with_reducible intro h); (repeat (first | replace H := grd_k H | replace H := out_step H (by assumption))); first | replace H := cond_t h H | replace H := cond_f h H | exact absurd h (by decide) | skip)
    | ((with_reducible refine Ob.mk ?_); first | (with_reducible rfl) | (first | ((repeat (first | (with_reducible exact grd_p H) | (replace H := grd_k H) | (replace H := out_step H (by assumption)))); done) | rfl | ((repeat (first | exact grd_p H | replace H := grd_k H | replace H := out_step H (by assumption))); done) | ((repeat (first | exact grd_p H | (have hp := grd_p H; exact hp) | replace H := grd_k H | replace H := out_step H (by assumption) | (replace H := bind_some H; obtain ⟨_, _, H⟩ := H))); done) | (repeat (first | exact grd_p H | replace H := grd_k H | replace H := out_step H (by assumption)))))
    | (with_reducible exact True.intro)
    | ((conv => whnf); first
        | (with_reducible refine And.intro ?_ ?_)
        | (with_reducible exact True.intro)
        | ((with_reducible refine Ob.mk ?_); first | (with_reducible rfl) | (first | ((repeat (first | (with_reducible exact grd_p H) | (replace H := grd_k H) | (replace H := out_step H (by assumption)))); done) | rfl | ((repeat (first | exact grd_p H | replace H := grd_k H | replace H := out_step H (by assumption))); done) | ((repeat (first | exact grd_p H | (have hp := grd_p H; exact hp) | replace H := grd_k H | replace H := out_step H (by assumption) | (replace H := bind_some H; obtain ⟨_, _, H⟩ := H))); done) | (repeat (first | exact grd_p H | replace H := grd_k H | replace H := out_step H (by assumption)))))
        | ((with_reducible refine CallW.mk ?_); (repeat (first | replace H := grd_k H | replace H := out_step H (by assumption))); replace H := bind_some H; obtain ⟨y, hy, H⟩ := H; first | ((with_reducible have hz : spec_l1Least _ _ = some y := hy); clear hz; refine Exists.intro _ (Exists.intro _ ⟨spec_l1Least.call hy ?_, rfl, rfl, ?_⟩)))
        | ((with_reducible refine fin_mk ?_); (repeat (first | replace H := grd_k H | replace H := out_step H (by assumption))); have H := Option.some.inj H; subst H))
    | constructor
def G29 : Env := G28.add 33 [] spec_l24End.S
theorem G29_ok : EnvOk Tryd.prog G29 := G28_ok.add ent_33 fun ar h r h1 ⟨a0, y, hy, e1, e2, e3, e4⟩ => by
  subst e3 e4; exact (spec_l24End.spec a0 y hy).le e1 e2
attribute [local irreducible] spec_l24End

noncomputable def spec_l1Most (a0 : Int) (a1 : Int) : Option (Int) :=
  (cond (decide (a1 < a0)) ((some a0)) ((some a1)))
def spec_l1Most.res (_ : Int) (_ : Int) (y : Int) : AV := (.v (.int .i64 y))
def spec_l1Most.out (_ : Int) (_ : Int) (_ : Int) : List (Option LB) := []
def spec_l1Most.S (ar : List AV) (h : List (Option LB)) (r : AV) (h1 : List (Option LB)) : Prop := ∃ a0 a1 y, spec_l1Most a0 a1 = some y ∧ leL ar [(.v (.int .i64 a0)), (.v (.int .i64 a1))] ∧ leH h [] ∧ r = spec_l1Most.res a0 a1 y ∧ h1 = spec_l1Most.out a0 a1 y
theorem spec_l1Most.call {ar : List AV} {h : List (Option LB)} {a0 : Int} {a1 : Int} {y : Int} (H : spec_l1Most a0 a1 = some y) (h0 : leLk ar [(.v (.int .i64 a0)), (.v (.int .i64 a1))] (leHk h [])) : spec_l1Most.S ar h (spec_l1Most.res a0 a1 y) (spec_l1Most.out a0 a1 y) := ⟨a0, a1, y, H, (args_ok h0).1, (args_ok h0).2, rfl, rfl⟩
set_option maxHeartbeats 100000000 in
set_option maxRecDepth 100000 in
theorem spec_l1Most.spec (a0 : Int) (a1 : Int) (y : Int) (H : spec_l1Most a0 a1 = some y) : Spec Tryd.prog 32 [(.v (.int .i64 a0)), (.v (.int .i64 a1))] [] (spec_l1Most.res a0 a1 y) (spec_l1Most.out a0 a1 y) := by
  refine spec_intro (G29_ok.at tok []) (ct := []) Tryd.func32 rfl (by kernel_rfl) (by kernel_rfl) rfl ?_
  repeat' first
    | ((with_reducible refine eqg ?_); exact rfl)
    | ((with_reducible refine KOb.mk ?_); kernel_rfl)
    | ((with_reducible intro h); (repeat (first | replace H := grd_k H | replace H := out_step H (by assumption))); first | replace H := cond_t h H | replace H := cond_f h H | exact absurd h (by decide) | skip)
    | ((with_reducible refine Ob.mk ?_); first | (with_reducible rfl) | (first | ((repeat (first | (with_reducible exact grd_p H) | (replace H := grd_k H) | (replace H := out_step H (by assumption)))); done) | rfl | ((repeat (first | exact grd_p H | replace H := grd_k H | replace H := out_step H (by assumption))); done) | ((repeat (first | exact grd_p H | (have hp := grd_p H; exact hp) | replace H := grd_k H | replace H := out_step H (by assumption) | (replace H := bind_some H; obtain ⟨_, _, H⟩ := H))); done) | (repeat (first | exact grd_p H | replace H := grd_k H | replace H := out_step H (by assumption)))))
    | (with_reducible exact True.intro)
    | ((conv => whnf); first
        | (with_reducible refine And.intro ?_ ?_)
        | (with_reducible exact True.intro)
        | ((with_reducible refine Ob.mk ?_); first | (with_reducible rfl) | (first | ((repeat (first | (with_reducible exact grd_p H) | (replace H := grd_k H) | (replace H := out_step H (by assumption)))); done) | rfl | ((repeat (first | exact grd_p H | replace H := grd_k H | replace H := out_step H (by assumption))); done) | ((repeat (first | exact grd_p H | (have hp := grd_p H; exact hp) | replace H := grd_k H | replace H := out_step H (by assumption) | (replace H := bind_some H; obtain ⟨_, _, H⟩ := H))); done) | (repeat (first | exact grd_p H | replace H := grd_k H | replace H := out_step H (by assumption)))))
        | ((with_reducible refine fin_mk ?_); (repeat (first | replace H := grd_k H | replace H := out_step H (by assumption))); have H := Option.some.inj H; subst H))
    | constructor
def G30 : Env := G29.add 32 [] spec_l1Most.S
theorem G30_ok : EnvOk Tryd.prog G30 := G29_ok.add ent_32 fun ar h r h1 ⟨a0, a1, y, hy, e1, e2, e3, e4⟩ => by
  subst e3 e4; exact (spec_l1Most.spec a0 a1 y hy).le e1 e2
attribute [local irreducible] spec_l1Most

noncomputable def spec_InspectionPlan_loop2 (a0 : (List Condition)) (a1 : Int) (v45 : Int) (v55 : Int) (v56 : (List (List Int))) : Option (Lp (Int × (List (List Int))) (((List (List Int))))) :=
  (cond (decide (v55 < (a0.length : Int))) (grd (0 ≤ v55 ∧ v55 < (a0.length : Int)) ((spec_l24End ((a0.getD v55.toNat d_Condition).1, (a0.getD v55.toNat d_Condition).2.1, (a0.getD v55.toNat d_Condition).2.2.1, (a0.getD v55.toNat d_Condition).2.2.2.1, (a0.getD v55.toNat d_Condition).2.2.2.2.1, ())).bind fun y57 => ((spec_l1Most a1 y57).bind fun y58 => (cond (decide (y58 ≤ v45)) (grd (0 ≤ v55 ∧ v55 < (a0.length : Int)) (grd (((a0.getD v55.toNat d_Condition).2.2.1) ≠ 0) (cond (decide ((Int.tmod (w64 (v45 - y58)) ((a0.getD v55.toNat d_Condition).2.2.1)) = (0 : Int))) (grd (0 ≤ v55 ∧ v55 < (a0.length : Int)) (grd (v56.length + [[v45, (a0.getD v55.toNat d_Condition).1]].length ≤ 140737488355328 / 24 ∧ v56.length + [[v45, (a0.getD v55.toNat d_Condition).1]].length ≤ 140737488355328) (some (.go ((w64 (v55 + (1 : Int))), (v56 ++ [[v45, (a0.getD v55.toNat d_Condition).1]])))))) (some (.go ((w64 (v55 + (1 : Int))), v56)))))) (some (.go ((w64 (v55 + (1 : Int))), v56))))))) ((some (.out v56))))
noncomputable def spec_InspectionPlan_loop1 (a0 : (List Condition)) (a1 : Int) (a2 : Int) (v45 : Int) (v46 : (List (List Int))) : Option (Lp (Int × (List (List Int))) (((List (List Int))))) :=
  (cond (decide (v45 ≤ a2)) ((iter (fun s => spec_InspectionPlan_loop2 a0 a1 v45 s.1 s.2) ((0 : Int), v46)).bind (fun r59 => (some (.go ((w64 (v45 + (1 : Int))), r59))))) ((some (.out v46))))
noncomputable def spec_InspectionPlan (a0 : (List Condition)) (a1 : Int) (a2 : Int) : Option ((List (List Int)) × Bool × (List Condition)) :=
  ((spec_l24Good a0).bind fun y1 => (cond (!y1) ((some (([] : List (List Int)), false, a0))) ((spec_l24Day a2).bind fun y2 => (cond (!y2) ((some (([] : List (List Int)), false, a0))) ((spec_l1In a1 (0 : Int) a2).bind fun y3 => (cond (!y3) ((some (([] : List (List Int)), false, a0))) (cond (decide ((400 : Int) < (w64 (a2 - a1)))) ((some (([] : List (List Int)), false, a0))) ((iter (fun s => spec_InspectionPlan_loop1 a0 a1 a2 s.1 s.2) (a1, ([] : List (List Int)))).bind (fun r60 => (some (r60, true, a0)))))))))))
def spec_InspectionPlan.res (_ : (List Condition)) (_ : Int) (_ : Int) (y : (List (List Int)) × Bool × (List Condition)) : AV := (.tup [(.own 1), (.bl y.2.1)])
def spec_InspectionPlan.out (_ : (List Condition)) (_ : Int) (_ : Int) (y : (List (List Int)) × Bool × (List Condition)) : List (Option LB) := [some (.arr 33 ty_Condition y.2.2), some (.arr 31 (.sl (.int .i64)) y.1)]
def spec_InspectionPlan.S (ar : List AV) (h : List (Option LB)) (r : AV) (h1 : List (Option LB)) : Prop := ∃ a0 a1 a2 y, spec_InspectionPlan a0 a1 a2 = some y ∧ leL ar [(.own 0), (.v (.int .i64 a1)), (.v (.int .i64 a2))] ∧ leH h [some (.arr 33 ty_Condition a0)] ∧ r = spec_InspectionPlan.res a0 a1 a2 y ∧ h1 = spec_InspectionPlan.out a0 a1 a2 y
theorem spec_InspectionPlan.call {ar : List AV} {h : List (Option LB)} {a0 : (List Condition)} {a1 : Int} {a2 : Int} {y : (List (List Int)) × Bool × (List Condition)} (H : spec_InspectionPlan a0 a1 a2 = some y) (h0 : leLk ar [(.own 0), (.v (.int .i64 a1)), (.v (.int .i64 a2))] (leHk h [some (.arr 33 ty_Condition a0)])) : spec_InspectionPlan.S ar h (spec_InspectionPlan.res a0 a1 a2 y) (spec_InspectionPlan.out a0 a1 a2 y) := ⟨a0, a1, a2, y, H, (args_ok h0).1, (args_ok h0).2, rfl, rfl⟩
set_option maxHeartbeats 100000000 in
set_option maxRecDepth 100000 in
theorem spec_InspectionPlan.spec (a0 : (List Condition)) (a1 : Int) (a2 : Int) (y : (List (List Int)) × Bool × (List Condition)) (H : spec_InspectionPlan a0 a1 a2 = some y) : Spec Tryd.prog 7 [(.own 0), (.v (.int .i64 a1)), (.v (.int .i64 a2))] [some (.arr 33 ty_Condition a0)] (spec_InspectionPlan.res a0 a1 a2 y) (spec_InspectionPlan.out a0 a1 a2 y) := by
  refine spec_intro (G30_ok.at tok []) (ct := [(3, some [0, 1, 2, 8, 32, 57, 58, 59, 60, 61, 62, 63, 64, 65, 66]), (12, some [0, 1, 2, 8, 9, 10, 57, 58, 59, 60, 61, 62, 63, 64, 65, 66, 67])]) Tryd.func7 rfl (by kernel_rfl) (by kernel_rfl) rfl ?_
  repeat' first
    | ((with_reducible refine eqg ?_); exact rfl)
    | ((with_reducible refine KOb.mk ?_); kernel_rfl)
    | ((with_reducible intro h); (repeat (first | replace H := grd_k H | replace H := out_step H (by assumption))); first | replace H := cond_t h H | replace H := cond_f h H | exact absurd h (by decide) | skip)
    | ((with_reducible refine Ob.mk ?_); first | (with_reducible rfl) | (first | ((repeat (first | (with_reducible exact grd_p H) | (replace H := grd_k H) | (replace H := out_step H (by assumption)))); done) | rfl | ((repeat (first | exact grd_p H | replace H := grd_k H | replace H := out_step H (by assumption))); done) | ((repeat (first | exact grd_p H | (have hp := grd_p H; exact hp) | replace H := grd_k H | replace H := out_step H (by assumption) | (replace H := bind_some H; obtain ⟨_, _, H⟩ := H))); done) | (repeat (first | exact grd_p H | replace H := grd_k H | replace H := out_step H (by assumption)))))
    | (with_reducible exact True.intro)
    | ((conv => whnf); first
        | (with_reducible refine And.intro ?_ ?_)
        | (with_reducible exact True.intro)
        | ((with_reducible refine Ob.mk ?_); first | (with_reducible rfl) | (first | ((repeat (first | (with_reducible exact grd_p H) | (replace H := grd_k H) | (replace H := out_step H (by assumption)))); done) | rfl | ((repeat (first | exact grd_p H | replace H := grd_k H | replace H := out_step H (by assumption))); done) | ((repeat (first | exact grd_p H | (have hp := grd_p H; exact hp) | replace H := grd_k H | replace H := out_step H (by assumption) | (replace H := bind_some H; obtain ⟨_, _, H⟩ := H))); done) | (repeat (first | exact grd_p H | replace H := grd_k H | replace H := out_step H (by assumption)))))
        | ((with_reducible refine CallW.mk ?_); (repeat (first | replace H := grd_k H | replace H := out_step H (by assumption))); replace H := bind_some H; obtain ⟨y, hy, H⟩ := H; first | ((with_reducible have hz : spec_l24Good _ = some y := hy); clear hz; refine Exists.intro _ (Exists.intro _ ⟨spec_l24Good.call hy ?_, rfl, rfl, ?_⟩)) | ((with_reducible have hz : spec_l24Day _ = some y := hy); clear hz; refine Exists.intro _ (Exists.intro _ ⟨spec_l24Day.call hy ?_, rfl, rfl, ?_⟩)) | ((with_reducible have hz : spec_l1In _ _ _ = some y := hy); clear hz; refine Exists.intro _ (Exists.intro _ ⟨spec_l1In.call hy ?_, rfl, rfl, ?_⟩)) | ((with_reducible have hz : spec_l24End _ = some y := hy); clear hz; refine Exists.intro _ (Exists.intro _ ⟨spec_l24End.call hy ?_, rfl, rfl, ?_⟩)) | ((with_reducible have hz : spec_l1Most _ _ = some y := hy); clear hz; refine Exists.intro _ (Exists.intro _ ⟨spec_l1Most.call hy ?_, rfl, rfl, ?_⟩)))
        | ((repeat (first | replace H := grd_k H | replace H := out_step H (by assumption))); refine loop_iter (G30_ok.at tok []) (ct := [(3, some [0, 1, 2, 8, 32, 57, 58, 59, 60, 61, 62, 63, 64, 65, 66]), (12, some [0, 1, 2, 8, 9, 10, 57, 58, 59, 60, 61, 62, 63, 64, 65, 66, 67])]) (F := (fun s1 : Int × (List (List Int)) => ⟨sl [(0, (.own 0)), (1, (.v (.int .i64 a1))), (2, (.v (.int .i64 a2))), (8, (.own 1)), (9, (.v (.int .i64 s1.1)))], [some (.arr 33 ty_Condition a0), some (.arr 31 (.sl (.int .i64)) s1.2)]⟩)) (step := (fun s : Int × (List (List Int)) => spec_InspectionPlan_loop1 _ _ _ s.1 s.2)) _ H (by kernel_rfl) (sub_auto ?_) ?_; rotate_left; (intro s1 r v hr H); rotate_right)
        | ((repeat (first | replace H := grd_k H | replace H := out_step H (by assumption))); refine loop_iter (G30_ok.at tok []) (ct := [(3, some [0, 1, 2, 8, 32, 57, 58, 59, 60, 61, 62, 63, 64, 65, 66]), (12, some [0, 1, 2, 8, 9, 10, 57, 58, 59, 60, 61, 62, 63, 64, 65, 66, 67])]) (F := (fun s2 : Int × (List (List Int)) => ⟨sl [(0, (.own 0)), (1, (.v (.int .i64 a1))), (2, (.v (.int .i64 a2))), (8, (.own 1)), (9, (.v (.int .i64 s1.1))), (10, (.v (.int .i64 s2.1)))], [some (.arr 33 ty_Condition a0), some (.arr 31 (.sl (.int .i64)) s2.2)]⟩)) (step := (fun s : Int × (List (List Int)) => spec_InspectionPlan_loop2 _ _ _ s.1 s.2)) _ H (by kernel_rfl) (sub_auto ?_) ?_; rotate_left; (intro s2 r v hr H); rotate_right)
        | ((repeat (first | replace H := grd_k H | replace H := out_step H (by assumption))); refine again_step H (by assumption) (sub_auto ?_))
        | ((with_reducible refine fin_mk ?_); (repeat (first | replace H := grd_k H | replace H := out_step H (by assumption))); have H := Option.some.inj H; subst H))
    | constructor
def G31 : Env := G30.add 7 [true] spec_InspectionPlan.S
theorem G31_ok : EnvOk Tryd.prog G31 := G30_ok.add ent_7 fun ar h r h1 ⟨a0, a1, a2, y, hy, e1, e2, e3, e4⟩ => by
  subst e3 e4; exact (spec_InspectionPlan.spec a0 a1 a2 y hy).le e1 e2
attribute [local irreducible] spec_InspectionPlan

noncomputable def laws_rInts_loop1 (a0 : (List Int)) (a1 : (List Int)) (v2 : Int) : Option (Lp (Int) ((Unit) ⊕ (Unit))) :=
  (cond (decide (v2 < (a0.length : Int))) (grd (0 ≤ v2 ∧ v2 < (a0.length : Int)) (grd (0 ≤ v2 ∧ v2 < (a1.length : Int)) (cond (!decide ((a0.getD v2.toNat 0) = (a1.getD v2.toNat 0))) ((some (.out (Sum.inl ())))) (some (.go (w64 (v2 + (1 : Int)))))))) ((some (.out (Sum.inr ())))))
noncomputable def laws_rInts (a0 : (List Int)) (a1 : (List Int)) : Option (Bool) :=
  (cond (!decide ((a0.length : Int) = (a1.length : Int))) ((some false)) ((iter (fun s => laws_rInts_loop1 a0 a1 s) (0 : Int)).bind (Sum.elim (fun _ => (some false)) (fun _ => (some true)))))
def laws_rInts.res (_ : (List Int)) (_ : (List Int)) (y : Bool) : AV := (.bl y)
def laws_rInts.out (_ : (List Int)) (_ : (List Int)) (_ : Bool) : List (Option LB) := []
def laws_rInts.S (ar : List AV) (h : List (Option LB)) (r : AV) (h1 : List (Option LB)) : Prop := ∃ a0 a1 y, laws_rInts a0 a1 = some y ∧ leL ar [(.tree (.int .i64) a0), (.tree (.int .i64) a1)] ∧ leH h [] ∧ r = laws_rInts.res a0 a1 y ∧ h1 = laws_rInts.out a0 a1 y
theorem laws_rInts.call {ar : List AV} {h : List (Option LB)} {a0 : (List Int)} {a1 : (List Int)} {y : Bool} (H : laws_rInts a0 a1 = some y) (h0 : leLk ar [(.tree (.int .i64) a0), (.tree (.int .i64) a1)] (leHk h [])) : laws_rInts.S ar h (laws_rInts.res a0 a1 y) (laws_rInts.out a0 a1 y) := ⟨a0, a1, y, H, (args_ok h0).1, (args_ok h0).2, rfl, rfl⟩
set_option maxHeartbeats 100000000 in
set_option maxRecDepth 100000 in
theorem laws_rInts.spec (a0 : (List Int)) (a1 : (List Int)) (y : Bool) (H : laws_rInts a0 a1 = some y) : Spec Tryd.prog 34 [(.tree (.int .i64) a0), (.tree (.int .i64) a1)] [] (laws_rInts.res a0 a1 y) (laws_rInts.out a0 a1 y) := by
  refine spec_intro (G31_ok.at tok []) (ct := [(5, some [0, 1, 5])]) Tryd.func34 rfl (by kernel_rfl) (by kernel_rfl) rfl ?_
  repeat' first
    | ((with_reducible refine eqg ?_); exact rfl)
    | ((with_reducible refine KOb.mk ?_); kernel_rfl)
    | ((with_reducible intro h); (repeat (first | replace H := grd_k H | replace H := out_step H (by assumption))); first | replace H := cond_t h H | replace H := cond_f h H | exact absurd h (by decide) | skip)
    | ((with_reducible refine Ob.mk ?_); first | (with_reducible rfl) | (first | ((repeat (first | (with_reducible exact grd_p H) | (replace H := grd_k H) | (replace H := out_step H (by assumption)))); done) | rfl | ((repeat (first | exact grd_p H | replace H := grd_k H | replace H := out_step H (by assumption))); done) | ((repeat (first | exact grd_p H | (have hp := grd_p H; exact hp) | replace H := grd_k H | replace H := out_step H (by assumption) | (replace H := bind_some H; obtain ⟨_, _, H⟩ := H))); done) | (repeat (first | exact grd_p H | replace H := grd_k H | replace H := out_step H (by assumption)))))
    | (with_reducible exact True.intro)
    | ((conv => whnf); first
        | (with_reducible refine And.intro ?_ ?_)
        | (with_reducible exact True.intro)
        | ((with_reducible refine Ob.mk ?_); first | (with_reducible rfl) | (first | ((repeat (first | (with_reducible exact grd_p H) | (replace H := grd_k H) | (replace H := out_step H (by assumption)))); done) | rfl | ((repeat (first | exact grd_p H | replace H := grd_k H | replace H := out_step H (by assumption))); done) | ((repeat (first | exact grd_p H | (have hp := grd_p H; exact hp) | replace H := grd_k H | replace H := out_step H (by assumption) | (replace H := bind_some H; obtain ⟨_, _, H⟩ := H))); done) | (repeat (first | exact grd_p H | replace H := grd_k H | replace H := out_step H (by assumption)))))
        | ((repeat (first | replace H := grd_k H | replace H := out_step H (by assumption))); refine loop_iter (G31_ok.at tok []) (ct := [(5, some [0, 1, 5])]) (F := (fun s1 : Int => ⟨sl [(0, (.tree (.int .i64) a0)), (1, (.tree (.int .i64) a1)), (5, (.v (.int .i64 s1)))], []⟩)) (step := (fun s : Int => laws_rInts_loop1 _ _ s)) _ H (by kernel_rfl) (sub_auto ?_) ?_; rotate_left; (intro s1 r v hr H); rotate_right)
        | ((repeat (first | replace H := grd_k H | replace H := out_step H (by assumption))); refine again_step H (by assumption) (sub_auto ?_))
        | ((with_reducible refine fin_mk ?_); (repeat (first | replace H := grd_k H | replace H := out_step H (by assumption))); have H := Option.some.inj H; subst H))
    | constructor
def G32 : Env := G31.add 34 [] laws_rInts.S
theorem G32_ok : EnvOk Tryd.prog G32 := G31_ok.add ent_34 fun ar h r h1 ⟨a0, a1, y, hy, e1, e2, e3, e4⟩ => by
  subst e3 e4; exact (laws_rInts.spec a0 a1 y hy).le e1 e2
attribute [local irreducible] laws_rInts

noncomputable def laws_rTable_loop1 (a0 : (List (List Int))) (a1 : (List (List Int))) (v4 : Int) : Option (Lp (Int) ((Unit) ⊕ (Unit))) :=
  (cond (decide (v4 < (a0.length : Int))) (grd (0 ≤ v4 ∧ v4 < (a0.length : Int)) (grd (0 ≤ v4 ∧ v4 < (a1.length : Int)) ((laws_rInts (a0.getD v4.toNat []) (a1.getD v4.toNat [])).bind fun y5 => (cond (!y5) ((some (.out (Sum.inl ())))) (some (.go (w64 (v4 + (1 : Int))))))))) ((some (.out (Sum.inr ())))))
noncomputable def laws_rTable (a0 : (List (List Int))) (a1 : (List (List Int))) : Option (Bool) :=
  (cond (!decide ((a0.length : Int) = (a1.length : Int))) ((some false)) ((iter (fun s => laws_rTable_loop1 a0 a1 s) (0 : Int)).bind (Sum.elim (fun _ => (some false)) (fun _ => (some true)))))
def laws_rTable.res (_ : (List (List Int))) (_ : (List (List Int))) (y : Bool) : AV := (.bl y)
def laws_rTable.out (_ : (List (List Int))) (_ : (List (List Int))) (_ : Bool) : List (Option LB) := []
def laws_rTable.S (ar : List AV) (h : List (Option LB)) (r : AV) (h1 : List (Option LB)) : Prop := ∃ a0 a1 y, laws_rTable a0 a1 = some y ∧ leL ar [(.tree (.sl (.int .i64)) a0), (.tree (.sl (.int .i64)) a1)] ∧ leH h [] ∧ r = laws_rTable.res a0 a1 y ∧ h1 = laws_rTable.out a0 a1 y
theorem laws_rTable.call {ar : List AV} {h : List (Option LB)} {a0 : (List (List Int))} {a1 : (List (List Int))} {y : Bool} (H : laws_rTable a0 a1 = some y) (h0 : leLk ar [(.tree (.sl (.int .i64)) a0), (.tree (.sl (.int .i64)) a1)] (leHk h [])) : laws_rTable.S ar h (laws_rTable.res a0 a1 y) (laws_rTable.out a0 a1 y) := ⟨a0, a1, y, H, (args_ok h0).1, (args_ok h0).2, rfl, rfl⟩
set_option maxHeartbeats 100000000 in
set_option maxRecDepth 100000 in
theorem laws_rTable.spec (a0 : (List (List Int))) (a1 : (List (List Int))) (y : Bool) (H : laws_rTable a0 a1 = some y) : Spec Tryd.prog 8 [(.tree (.sl (.int .i64)) a0), (.tree (.sl (.int .i64)) a1)] [] (laws_rTable.res a0 a1 y) (laws_rTable.out a0 a1 y) := by
  refine spec_intro (G32_ok.at tok []) (ct := [(7, some [0, 1, 5, 26])]) Tryd.func8 rfl (by kernel_rfl) (by kernel_rfl) rfl ?_
  repeat' first
    | ((with_reducible refine eqg ?_); exact rfl)
    | ((with_reducible refine KOb.mk ?_); kernel_rfl)
    | ((with_reducible intro h); (repeat (first | replace H := grd_k H | replace H := out_step H (by assumption))); first | replace H := cond_t h H | replace H := cond_f h H | exact absurd h (by decide) | skip)
    | ((with_reducible refine Ob.mk ?_); first | (with_reducible rfl) | (first | ((repeat (first | (with_reducible exact grd_p H) | (replace H := grd_k H) | (replace H := out_step H (by assumption)))); done) | rfl | ((repeat (first | exact grd_p H | replace H := grd_k H | replace H := out_step H (by assumption))); done) | ((repeat (first | exact grd_p H | (have hp := grd_p H; exact hp) | replace H := grd_k H | replace H := out_step H (by assumption) | (replace H := bind_some H; obtain ⟨_, _, H⟩ := H))); done) | (repeat (first | exact grd_p H | replace H := grd_k H | replace H := out_step H (by assumption)))))
    | (with_reducible exact True.intro)
    | ((conv => whnf); first
        | (with_reducible refine And.intro ?_ ?_)
        | (with_reducible exact True.intro)
        | ((with_reducible refine Ob.mk ?_); first | (with_reducible rfl) | (first | ((repeat (first | (with_reducible exact grd_p H) | (replace H := grd_k H) | (replace H := out_step H (by assumption)))); done) | rfl | ((repeat (first | exact grd_p H | replace H := grd_k H | replace H := out_step H (by assumption))); done) | ((repeat (first | exact grd_p H | (have hp := grd_p H; exact hp) | replace H := grd_k H | replace H := out_step H (by assumption) | (replace H := bind_some H; obtain ⟨_, _, H⟩ := H))); done) | (repeat (first | exact grd_p H | replace H := grd_k H | replace H := out_step H (by assumption)))))
        | ((with_reducible refine CallW.mk ?_); (repeat (first | replace H := grd_k H | replace H := out_step H (by assumption))); replace H := bind_some H; obtain ⟨y, hy, H⟩ := H; first | ((with_reducible have hz : laws_rInts _ _ = some y := hy); clear hz; refine Exists.intro _ (Exists.intro _ ⟨laws_rInts.call hy ?_, rfl, rfl, ?_⟩)))
        | ((repeat (first | replace H := grd_k H | replace H := out_step H (by assumption))); refine loop_iter (G32_ok.at tok []) (ct := [(7, some [0, 1, 5, 26])]) (F := (fun s1 : Int => ⟨sl [(0, (.tree (.sl (.int .i64)) a0)), (1, (.tree (.sl (.int .i64)) a1)), (5, (.v (.int .i64 s1)))], []⟩)) (step := (fun s : Int => laws_rTable_loop1 _ _ s)) _ H (by kernel_rfl) (sub_auto ?_) ?_; rotate_left; (intro s1 r v hr H); rotate_right)
        | ((repeat (first | replace H := grd_k H | replace H := out_step H (by assumption))); refine again_step H (by assumption) (sub_auto ?_))
        | ((with_reducible refine fin_mk ?_); (repeat (first | replace H := grd_k H | replace H := out_step H (by assumption))); have H := Option.some.inj H; subst H))
    | constructor
def G33 : Env := G32.add 8 [] laws_rTable.S
theorem G33_ok : EnvOk Tryd.prog G33 := G32_ok.add ent_8 fun ar h r h1 ⟨a0, a1, y, hy, e1, e2, e3, e4⟩ => by
  subst e3 e4; exact (laws_rTable.spec a0 a1 y hy).le e1 e2
attribute [local irreducible] laws_rTable

noncomputable def spec_DrawAddCondition (a0 : (List Int)) : Option ((List Condition) × Condition) :=
  ((spec_l1Cur_conditions (a0, (0 : Int), (0 : Int), ())).bind fun y1 => ((spec_l1Cur_pick (y1.2.1, y1.2.2.1, y1.2.2.2.1, ()) (12 : Int)).bind fun y2 => ((spec_l1Cur_condition (y2.2.1, y2.2.2.1, y2.2.2.2.1, ()) (w64 ((1 : Int) + y2.1))).bind fun y3 => (some (y1.1, (y3.1.1, y3.1.2.1, y3.1.2.2.1, y3.1.2.2.2.1, y3.1.2.2.2.2.1, ()))))))
def spec_DrawAddCondition.res (_ : (List Int)) (y : (List Condition) × Condition) : AV := (.tup [(.own 0), (.agg [(.v (.int .i64 y.2.1)), (.v (.string y.2.2.1)), (.v (.int .i64 y.2.2.2.1)), (.v (.int .i64 y.2.2.2.2.1)), (.v (.int .i64 y.2.2.2.2.2.1))])])
def spec_DrawAddCondition.out (_ : (List Int)) (y : (List Condition) × Condition) : List (Option LB) := [some (.arr 33 ty_Condition y.1)]
def spec_DrawAddCondition.S (ar : List AV) (h : List (Option LB)) (r : AV) (h1 : List (Option LB)) : Prop := ∃ a0 y, spec_DrawAddCondition a0 = some y ∧ leL ar [(.tree (.int .u8) a0)] ∧ leH h [] ∧ r = spec_DrawAddCondition.res a0 y ∧ h1 = spec_DrawAddCondition.out a0 y
theorem spec_DrawAddCondition.call {ar : List AV} {h : List (Option LB)} {a0 : (List Int)} {y : (List Condition) × Condition} (H : spec_DrawAddCondition a0 = some y) (h0 : leLk ar [(.tree (.int .u8) a0)] (leHk h [])) : spec_DrawAddCondition.S ar h (spec_DrawAddCondition.res a0 y) (spec_DrawAddCondition.out a0 y) := ⟨a0, y, H, (args_ok h0).1, (args_ok h0).2, rfl, rfl⟩
set_option maxHeartbeats 100000000 in
set_option maxRecDepth 100000 in
theorem spec_DrawAddCondition.spec (a0 : (List Int)) (y : (List Condition) × Condition) (H : spec_DrawAddCondition a0 = some y) : Spec Tryd.prog 9 [(.tree (.int .u8) a0)] [] (spec_DrawAddCondition.res a0 y) (spec_DrawAddCondition.out a0 y) := by
  refine spec_intro (G33_ok.at tok []) (ct := []) Tryd.func9 rfl (by kernel_rfl) (by kernel_rfl) rfl ?_
  repeat' first
    | ((with_reducible refine eqg ?_); exact rfl)
    | ((with_reducible refine KOb.mk ?_); kernel_rfl)
    | ((with_reducible intro h); (repeat (first | replace H := grd_k H | replace H := out_step H (by assumption))); first | replace H := cond_t h H | replace H := cond_f h H | exact absurd h (by decide) | skip)
    | ((with_reducible refine Ob.mk ?_); first | (with_reducible rfl) | (first | ((repeat (first | (with_reducible exact grd_p H) | (replace H := grd_k H) | (replace H := out_step H (by assumption)))); done) | rfl | ((repeat (first | exact grd_p H | replace H := grd_k H | replace H := out_step H (by assumption))); done) | ((repeat (first | exact grd_p H | (have hp := grd_p H; exact hp) | replace H := grd_k H | replace H := out_step H (by assumption) | (replace H := bind_some H; obtain ⟨_, _, H⟩ := H))); done) | (repeat (first | exact grd_p H | replace H := grd_k H | replace H := out_step H (by assumption)))))
    | (with_reducible exact True.intro)
    | ((conv => whnf); first
        | (with_reducible refine And.intro ?_ ?_)
        | (with_reducible exact True.intro)
        | ((with_reducible refine Ob.mk ?_); first | (with_reducible rfl) | (first | ((repeat (first | (with_reducible exact grd_p H) | (replace H := grd_k H) | (replace H := out_step H (by assumption)))); done) | rfl | ((repeat (first | exact grd_p H | replace H := grd_k H | replace H := out_step H (by assumption))); done) | ((repeat (first | exact grd_p H | (have hp := grd_p H; exact hp) | replace H := grd_k H | replace H := out_step H (by assumption) | (replace H := bind_some H; obtain ⟨_, _, H⟩ := H))); done) | (repeat (first | exact grd_p H | replace H := grd_k H | replace H := out_step H (by assumption)))))
        | ((with_reducible refine CallW.mk ?_); (repeat (first | replace H := grd_k H | replace H := out_step H (by assumption))); replace H := bind_some H; obtain ⟨y, hy, H⟩ := H; first | ((with_reducible have hz : spec_l1Cur_conditions _ = some y := hy); clear hz; refine Exists.intro _ (Exists.intro _ ⟨spec_l1Cur_conditions.call hy ?_, rfl, rfl, ?_⟩)) | ((with_reducible have hz : spec_l1Cur_pick _ _ = some y := hy); clear hz; refine Exists.intro _ (Exists.intro _ ⟨spec_l1Cur_pick.call hy ?_, rfl, rfl, ?_⟩)) | ((with_reducible have hz : spec_l1Cur_condition _ _ = some y := hy); clear hz; refine Exists.intro _ (Exists.intro _ ⟨spec_l1Cur_condition.call hy ?_, rfl, rfl, ?_⟩)))
        | ((with_reducible refine fin_mk ?_); (repeat (first | replace H := grd_k H | replace H := out_step H (by assumption))); have H := Option.some.inj H; subst H))
    | constructor
def G34 : Env := G33.add 9 [] spec_DrawAddCondition.S
theorem G34_ok : EnvOk Tryd.prog G34 := G33_ok.add ent_9 fun ar h r h1 ⟨a0, y, hy, e1, e2, e3, e4⟩ => by
  subst e3 e4; exact (spec_DrawAddCondition.spec a0 y hy).le e1 e2
attribute [local irreducible] spec_DrawAddCondition

noncomputable def impl_compareNumbers (a0 : Condition) (a1 : Condition) : Option (Int) :=
  ((cmp_Compare_int_ a0.1 a1.1).bind fun y1 => (some y1))
def impl_compareNumbers.res (_ : Condition) (_ : Condition) (y : Int) : AV := (.v (.int .i64 y))
def impl_compareNumbers.out (_ : Condition) (_ : Condition) (_ : Int) : List (Option LB) := []
def impl_compareNumbers.S (ar : List AV) (h : List (Option LB)) (r : AV) (h1 : List (Option LB)) : Prop := ∃ a0 a1 y, impl_compareNumbers a0 a1 = some y ∧ leL ar [(.agg [(.v (.int .i64 a0.1)), (.v (.string a0.2.1)), (.v (.int .i64 a0.2.2.1)), (.v (.int .i64 a0.2.2.2.1)), (.v (.int .i64 a0.2.2.2.2.1))]), (.agg [(.v (.int .i64 a1.1)), (.v (.string a1.2.1)), (.v (.int .i64 a1.2.2.1)), (.v (.int .i64 a1.2.2.2.1)), (.v (.int .i64 a1.2.2.2.2.1))])] ∧ leH h [] ∧ r = impl_compareNumbers.res a0 a1 y ∧ h1 = impl_compareNumbers.out a0 a1 y
theorem impl_compareNumbers.call {ar : List AV} {h : List (Option LB)} {a0 : Condition} {a1 : Condition} {y : Int} (H : impl_compareNumbers a0 a1 = some y) (h0 : leLk ar [(.agg [(.v (.int .i64 a0.1)), (.v (.string a0.2.1)), (.v (.int .i64 a0.2.2.1)), (.v (.int .i64 a0.2.2.2.1)), (.v (.int .i64 a0.2.2.2.2.1))]), (.agg [(.v (.int .i64 a1.1)), (.v (.string a1.2.1)), (.v (.int .i64 a1.2.2.1)), (.v (.int .i64 a1.2.2.2.1)), (.v (.int .i64 a1.2.2.2.2.1))])] (leHk h [])) : impl_compareNumbers.S ar h (impl_compareNumbers.res a0 a1 y) (impl_compareNumbers.out a0 a1 y) := ⟨a0, a1, y, H, (args_ok h0).1, (args_ok h0).2, rfl, rfl⟩
set_option maxHeartbeats 100000000 in
set_option maxRecDepth 100000 in
theorem impl_compareNumbers.spec (a0 : Condition) (a1 : Condition) (y : Int) (H : impl_compareNumbers a0 a1 = some y) : Spec Tryd.prog 37 [(.agg [(.v (.int .i64 a0.1)), (.v (.string a0.2.1)), (.v (.int .i64 a0.2.2.1)), (.v (.int .i64 a0.2.2.2.1)), (.v (.int .i64 a0.2.2.2.2.1))]), (.agg [(.v (.int .i64 a1.1)), (.v (.string a1.2.1)), (.v (.int .i64 a1.2.2.1)), (.v (.int .i64 a1.2.2.2.1)), (.v (.int .i64 a1.2.2.2.2.1))])] [] (impl_compareNumbers.res a0 a1 y) (impl_compareNumbers.out a0 a1 y) := by
  refine spec_intro (G34_ok.at tok []) (ct := []) Tryd.func37 rfl (by kernel_rfl) (by kernel_rfl) rfl ?_
  repeat' first
    | ((with_reducible refine eqg ?_); exact rfl)
    | ((with_reducible refine KOb.mk ?_); kernel_rfl)
    | ((with_reducible intro h); (repeat (first | replace H := grd_k H | replace H := out_step H (by assumption))); first | replace H := cond_t h H | replace H := cond_f h H | exact absurd h (by decide) | skip)
    | ((with_reducible refine Ob.mk ?_); first | (with_reducible rfl) | (first | ((repeat (first | (with_reducible exact grd_p H) | (replace H := grd_k H) | (replace H := out_step H (by assumption)))); done) | rfl | ((repeat (first | exact grd_p H | replace H := grd_k H | replace H := out_step H (by assumption))); done) | ((repeat (first | exact grd_p H | (have hp := grd_p H; exact hp) | replace H := grd_k H | replace H := out_step H (by assumption) | (replace H := bind_some H; obtain ⟨_, _, H⟩ := H))); done) | (repeat (first | exact grd_p H | replace H := grd_k H | replace H := out_step H (by assumption)))))
    | (with_reducible exact True.intro)
    | ((conv => whnf); first
        | (with_reducible refine And.intro ?_ ?_)
        | (with_reducible exact True.intro)
        | ((with_reducible refine Ob.mk ?_); first | (with_reducible rfl) | (first | ((repeat (first | (with_reducible exact grd_p H) | (replace H := grd_k H) | (replace H := out_step H (by assumption)))); done) | rfl | ((repeat (first | exact grd_p H | replace H := grd_k H | replace H := out_step H (by assumption))); done) | ((repeat (first | exact grd_p H | (have hp := grd_p H; exact hp) | replace H := grd_k H | replace H := out_step H (by assumption) | (replace H := bind_some H; obtain ⟨_, _, H⟩ := H))); done) | (repeat (first | exact grd_p H | replace H := grd_k H | replace H := out_step H (by assumption)))))
        | ((with_reducible refine CallW.mk ?_); (repeat (first | replace H := grd_k H | replace H := out_step H (by assumption))); replace H := bind_some H; obtain ⟨y, hy, H⟩ := H; first | ((with_reducible have hz : cmp_Compare_int_ _ _ = some y := hy); clear hz; refine Exists.intro _ (Exists.intro _ ⟨cmp_Compare_int_.call hy ?_, rfl, rfl, ?_⟩)))
        | ((with_reducible refine fin_mk ?_); (repeat (first | replace H := grd_k H | replace H := out_step H (by assumption))); have H := Option.some.inj H; subst H))
    | constructor
def G35 : Env := G34.add 37 [] impl_compareNumbers.S
theorem G35_ok : EnvOk Tryd.prog G35 := G34_ok.add ent_37 fun ar h r h1 ⟨a0, a1, y, hy, e1, e2, e3, e4⟩ => by
  subst e3 e4; exact (impl_compareNumbers.spec a0 a1 y hy).le e1 e2
attribute [local irreducible] impl_compareNumbers

end Go.Proofs.YtpmmaohaahbphaaDoor
