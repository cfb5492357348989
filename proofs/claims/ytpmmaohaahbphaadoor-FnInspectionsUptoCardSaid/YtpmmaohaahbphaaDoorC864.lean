/-
  Contracts, printed by a program.
-/
import Derived.Test.YtpmmaohaahbphaaDoorC863
namespace Go.Proofs.YtpmmaohaahbphaaDoor
open Go.RowKit
attribute [local irreducible] Ob loopwp Sub Spec Fin Again CallW CutC KOb iter joinx outm

attribute [local irreducible] laws_rBig spec_l1Cur_next spec_l1Cur_pick spec_l1Cur_of spec_l1Cur_among spec_l1Cur_condition spec_l1Cur_one spec_l1Cur_conditions spec_l1Cur_day24 spec_DrawInspectionPlan impl_within impl_isWord impl_isDate impl_IsCondition impl_AreConditions impl_Condition_lastMet cmp_isNaN_int_ cmp_Compare_int_ slices_Compare___int_int_ impl_InspectionPlan_1 slices_SortFunc_____int___int__i1

noncomputable def impl_InspectionPlan_loop2 (a0 : (List Condition)) (a2 : Int) (v19 : Int) (v25 : Int) (v26 : (List (List Int))) : Option (Lp (Int × (List (List Int))) (((List (List Int))))) :=
  (cond (decide (v25 ≤ a2)) (grd (v26.length + [[v25, (a0.getD v19.toNat d_Condition).1]].length ≤ 140737488355328 / 24 ∧ v26.length + [[v25, (a0.getD v19.toNat d_Condition).1]].length ≤ 140737488355328) (some (.go ((w64 (v25 + ((a0.getD v19.toNat d_Condition).2.2.1))), (v26 ++ [[v25, (a0.getD v19.toNat d_Condition).1]]))))) ((some (.out v26))))
noncomputable def impl_InspectionPlan_loop1 (a0 : (List Condition)) (a1 : Int) (a2 : Int) (v19 : Int) (v20 : (List (List Int))) : Option (Lp (Int × (List (List Int))) (((List (List Int))))) :=
  (cond (decide (v19 < (a0.length : Int))) (grd (0 ≤ v19 ∧ v19 < (a0.length : Int)) ((impl_Condition_lastMet ((a0.getD v19.toNat d_Condition).1, (a0.getD v19.toNat d_Condition).2.1, (a0.getD v19.toNat d_Condition).2.2.1, (a0.getD v19.toNat d_Condition).2.2.2.1, (a0.getD v19.toNat d_Condition).2.2.2.2.1, ())).bind fun y21 => ((iter (fun s => impl_InspectionPlan_loop2 a0 a2 v19 s.1 s.2) ((if false = true then (if a1 < y21 then a1 else y21) else (if a1 > y21 then a1 else y21)), v20)).bind (fun r27 => (some (.go ((w64 (v19 + (1 : Int))), r27))))))) ((some (.out v20))))
noncomputable def impl_InspectionPlan (a0 : (List Condition)) (a1 : Int) (a2 : Int) : Option (((List Condition)) ⊕ ((List (List Int)) × (List Condition))) :=
  ((impl_AreConditions a0).bind fun y1 => (cond (!y1) ((some (Sum.inl a0))) ((impl_within a1 (0 : Int) a2).bind fun y2 => (cond (!y2) ((some (Sum.inl a0))) (cond (decide ((9999 : Int) < a2)) ((some (Sum.inl a0))) (cond (decide ((400 : Int) < (w64 (a2 - a1)))) ((some (Sum.inl a0))) ((iter (fun s => impl_InspectionPlan_loop1 a0 a1 a2 s.1 s.2) ((0 : Int), ([] : List (List Int)))).bind (fun r28 => ((slices_SortFunc_____int___int__i1 r28).bind fun y29 => (some (Sum.inr (y29, a0))))))))))))
def impl_InspectionPlan.res (_ : (List Condition)) (_ : Int) (_ : Int) (y : ((List Condition)) ⊕ ((List (List Int)) × (List Condition))) : AV := match y with
  | (.inl y) => (.tup [(.v (.slice none 0 0)), (.v (.bool false))])
  | (.inr y) => (.tup [(.own 1), (.v (.bool true))])
def impl_InspectionPlan.out (_ : (List Condition)) (_ : Int) (_ : Int) (y : ((List Condition)) ⊕ ((List (List Int)) × (List Condition))) : List (Option LB) := match y with
  | (.inl y) => [some (.arr 33 ty_Condition y)]
  | (.inr y) => [some (.arr 33 ty_Condition y.2), some (.arr 31 (.sl (.int .i64)) y.1)]
def impl_InspectionPlan.S (ar : List AV) (h : List (Option LB)) (r : AV) (h1 : List (Option LB)) : Prop := ∃ a0 a1 a2 y, impl_InspectionPlan a0 a1 a2 = some y ∧ leL ar [(.own 0), (.v (.int .i64 a1)), (.v (.int .i64 a2))] ∧ leH h [some (.arr 33 ty_Condition a0)] ∧ r = impl_InspectionPlan.res a0 a1 a2 y ∧ h1 = impl_InspectionPlan.out a0 a1 a2 y
theorem impl_InspectionPlan.call {ar : List AV} {h : List (Option LB)} {a0 : (List Condition)} {a1 : Int} {a2 : Int} {y : ((List Condition)) ⊕ ((List (List Int)) × (List Condition))} (H : impl_InspectionPlan a0 a1 a2 = some y) (h0 : leLk ar [(.own 0), (.v (.int .i64 a1)), (.v (.int .i64 a2))] (leHk h [some (.arr 33 ty_Condition a0)])) : impl_InspectionPlan.S ar h (impl_InspectionPlan.res a0 a1 a2 y) (impl_InspectionPlan.out a0 a1 a2 y) := ⟨a0, a1, a2, y, H, (args_ok h0).1, (args_ok h0).2, rfl, rfl⟩
set_option maxHeartbeats 100000000 in
set_option maxRecDepth 100000 in
theorem impl_InspectionPlan.spec (a0 : (List Condition)) (a1 : Int) (a2 : Int) (y : ((List Condition)) ⊕ ((List (List Int)) × (List Condition))) (H : impl_InspectionPlan a0 a1 a2 = some y) : Spec Tryd.prog 6 [(.own 0), (.v (.int .i64 a1)), (.v (.int .i64 a2))] [some (.arr 33 ty_Condition a0)] (impl_InspectionPlan.res a0 a1 a2 y) (impl_InspectionPlan.out a0 a1 a2 y) := by
  have hlen : Nat.ble ([some (.arr 33 ty_Condition a0)] : List (Option LB)).length (impl_InspectionPlan.out a0 a1 a2 y).length = true := by
    rcases y with y | y <;> rfl
  refine spec_intro (G21_ok.at tok []) (ct := [(2, some [0, 1, 2, 30])]) Tryd.func6 rfl (by kernel_rfl) (by kernel_rfl) hlen ?_
  repeat' first
    | ((with_reducible refine eqg ?_); exact rfl)
    | ((with_reducible refine KOb.mk ?_); kernel_rfl)
    | ((with_reducible intro h); (repeat (first | replace H := grd_k H | replace H := out_step H (by assumption))); first | replace H := cond_t h H | replace H := cond_f h H | exact absurd h (by decide) | skip)
    | ((with_reducible refine Ob.mk ?_); first | (with_reducible rfl) | (first | ((repeat (first | (with_reducible exact grd_p H) | (replace H := grd_k H) | (replace H := out_step H (by assumption)))); done) | rfl | ((repeat (first | exact grd_p H | replace H := grd_k H | replace H := out_step H (by assumption))); done) | ((repeat (first | exact grd_p H | (have hp := grd_p H; exact hp) | replace H := grd_k H | replace H := out_step H (by assumption) | (replace H := bind_some H; obtain ⟨_, _, H⟩ := H))); done) | (repeat (first | exact grd_p H | replace H := grd_k H | replace H := out_step H (by assumption)))))
    | (with_reducible exact True.intro)
    | ((conv => whnf); first
        | (with_reducible refine And.intro ?_ ?_)
        | (with_reducible exact True.intro)
        | ((with_reducible refine Ob.mk ?_); first | (with_reducible rfl) | (first | ((repeat (first | (with_reducible exact grd_p H) | (replace H := grd_k H) | (replace H := out_step H (by assumption)))); done) | rfl | ((repeat (first | exact grd_p H | replace H := grd_k H | replace H := out_step H (by assumption))); done) | ((repeat (first | exact grd_p H | (have hp := grd_p H; exact hp) | replace H := grd_k H | replace H := out_step H (by assumption) | (replace H := bind_some H; obtain ⟨_, _, H⟩ := H))); done) | (repeat (first | exact grd_p H | replace H := grd_k H | replace H := out_step H (by assumption)))))
        | ((with_reducible refine CallW.mk ?_); (repeat (first | replace H := grd_k H | replace H := out_step H (by assumption))); replace H := bind_some H; obtain ⟨y, hy, H⟩ := H; first | ((with_reducible have hz : impl_AreConditions _ = some y := hy); clear hz; refine Exists.intro _ (Exists.intro _ ⟨impl_AreConditions.call hy ?_, rfl, rfl, ?_⟩)) | ((with_reducible have hz : impl_within _ _ _ = some y := hy); clear hz; refine Exists.intro _ (Exists.intro _ ⟨impl_within.call hy ?_, rfl, rfl, ?_⟩)) | ((with_reducible have hz : impl_Condition_lastMet _ = some y := hy); clear hz; refine Exists.intro _ (Exists.intro _ ⟨impl_Condition_lastMet.call hy ?_, rfl, rfl, ?_⟩)) | ((with_reducible have hz : slices_SortFunc_____int___int__i1 _ = some y := hy); clear hz; refine Exists.intro _ (Exists.intro _ ⟨slices_SortFunc_____int___int__i1.call hy ?_, rfl, rfl, ?_⟩)))
        | ((repeat (first | replace H := grd_k H | replace H := out_step H (by assumption))); refine loop_iter (G21_ok.at tok []) (ct := [(2, some [0, 1, 2, 30])]) (F := (fun s1 : Int × (List (List Int)) => ⟨sl [(1, (.v (.int .i64 a1))), (2, (.v (.int .i64 a2))), (8, (.own 1)), (32, (.own 0)), (33, (.v (.int .i64 (a0.length : Int)))), (34, (.v (.int .i64 s1.1)))], [some (.arr 33 ty_Condition a0), some (.arr 31 (.sl (.int .i64)) s1.2)]⟩)) (step := (fun s : Int × (List (List Int)) => impl_InspectionPlan_loop1 _ _ _ s.1 s.2)) _ H (by kernel_rfl) (sub_auto ?_) ?_; rotate_left; (intro s1 r v hr H); rotate_right)
        | ((repeat (first | replace H := grd_k H | replace H := out_step H (by assumption))); refine loop_iter (G21_ok.at tok []) (ct := [(2, some [0, 1, 2, 30])]) (F := (fun s2 : Int × (List (List Int)) => ⟨sl [(1, (.v (.int .i64 a1))), (2, (.v (.int .i64 a2))), (8, (.own 1)), (10, (.loc 2 0 0)), (11, (.v (.int .i64 s2.1))), (32, (.own 0)), (33, (.v (.int .i64 (a0.length : Int)))), (34, (.v (.int .i64 s1.1)))], [some (.arr 33 ty_Condition a0), some (.arr 31 (.sl (.int .i64)) s2.2), some (.box 33 [(.v (.int .i64 ((a0.getD s1.1.toNat d_Condition).1))), (.v (.string ((a0.getD s1.1.toNat d_Condition).2.1))), (.v (.int .i64 ((a0.getD s1.1.toNat d_Condition).2.2.1))), (.v (.int .i64 ((a0.getD s1.1.toNat d_Condition).2.2.2.1))), (.v (.int .i64 ((a0.getD s1.1.toNat d_Condition).2.2.2.2.1)))])]⟩)) (step := (fun s : Int × (List (List Int)) => impl_InspectionPlan_loop2 _ _ _ s.1 s.2)) _ H (by kernel_rfl) (sub_auto ?_) ?_; rotate_left; (intro s2 r v hr H); rotate_right)
        | ((repeat (first | replace H := grd_k H | replace H := out_step H (by assumption))); refine again_step H (by assumption) (sub_auto ?_))
        | ((with_reducible refine fin_mk ?_); (repeat (first | replace H := grd_k H | replace H := out_step H (by assumption))); have H := Option.some.inj H; subst H))
    | constructor
def G22 : Env := G21.add 6 [true] impl_InspectionPlan.S
theorem G22_ok : EnvOk Tryd.prog G22 := G21_ok.add ent_6 fun ar h r h1 ⟨a0, a1, a2, y, hy, e1, e2, e3, e4⟩ => by
  subst e3 e4; exact (impl_InspectionPlan.spec a0 a1 a2 y hy).le e1 e2
attribute [local irreducible] impl_InspectionPlan

noncomputable def spec_l1In (a0 : Int) (a1 : Int) (a2 : Int) : Option (Bool) :=
  (cond (decide (a1 ≤ a0)) ((some (decide (a0 ≤ a2)))) ((some false)))
def spec_l1In.res (_ : Int) (_ : Int) (_ : Int) (y : Bool) : AV := (.bl y)
def spec_l1In.out (_ : Int) (_ : Int) (_ : Int) (_ : Bool) : List (Option LB) := []
def spec_l1In.S (ar : List AV) (h : List (Option LB)) (r : AV) (h1 : List (Option LB)) : Prop := ∃ a0 a1 a2 y, spec_l1In a0 a1 a2 = some y ∧ leL ar [(.v (.int .i64 a0)), (.v (.int .i64 a1)), (.v (.int .i64 a2))] ∧ leH h [] ∧ r = spec_l1In.res a0 a1 a2 y ∧ h1 = spec_l1In.out a0 a1 a2 y
theorem spec_l1In.call {ar : List AV} {h : List (Option LB)} {a0 : Int} {a1 : Int} {a2 : Int} {y : Bool} (H : spec_l1In a0 a1 a2 = some y) (h0 : leLk ar [(.v (.int .i64 a0)), (.v (.int .i64 a1)), (.v (.int .i64 a2))] (leHk h [])) : spec_l1In.S ar h (spec_l1In.res a0 a1 a2 y) (spec_l1In.out a0 a1 a2 y) := ⟨a0, a1, a2, y, H, (args_ok h0).1, (args_ok h0).2, rfl, rfl⟩
set_option maxHeartbeats 100000000 in
set_option maxRecDepth 100000 in
theorem spec_l1In.spec (a0 : Int) (a1 : Int) (a2 : Int) (y : Bool) (H : spec_l1In a0 a1 a2 = some y) : Spec Tryd.prog 31 [(.v (.int .i64 a0)), (.v (.int .i64 a1)), (.v (.int .i64 a2))] [] (spec_l1In.res a0 a1 a2 y) (spec_l1In.out a0 a1 a2 y) := by
  refine spec_intro (G22_ok.at tok []) (ct := []) Tryd.func31 rfl (by kernel_rfl) (by kernel_rfl) rfl ?_
  repeat' first
    | ((with_reducible refine eqg ?_); exact rfl)
    | ((with_reducible refine KOb.mk ?_); kernel_rfl)
    | ((with_reducible intro h); (repeat (first | replace H := grd_k H | replace H := out_step H (by assumption))); first | replace H := cond_t h H | replace H := cond_f h H | exact absurd h (by decide) | skip)
    | ((with_reducible refine Ob.mk ?_); first | (with_reducible rfl) | (first | ((repeat (first | (with_reducible exact grd_p H) | (replace H := grd_k H) | (replace H := out_step H (by assumption)))); done) | rfl | ((repeat (first | exact grd_p H | replace H := grd_k H | replace H := out_step H (by assumption))); done) | ((repeat (first | exact grd_p H | (have hp := grd_p H; exact hp) | replace H := grd_k H | replace H := out_step H (by assumption) | (replace H := bind_some H; obtain ⟨_, _, H⟩ := H))); done) | (repeat (first | exact grd_p H | replace H := grd_k H | replace H := out_step H (by assumption)))))
    | (with_reducible exact True.intro)
    | ((conv => whnf); first
        | (with_reducible refine And.intro ?_ ?_)
        | (with_reducible exact True.intro)
        | ((with_reducible refine Ob.mk ?_); first | (with_reducible rfl) | (first | ((repeat (first | (with_reducible exact grd_p H) | (replace H := grd_k H) | (replace H := out_step H (by assumption)))); done) | rfl | ((repeat (first | exact grd_p H | replace H := grd_k H | replace H := out_step H (by assumption))); done) | ((repeat (first | exact grd_p H | (have hp := grd_p H; exact hp) | replace H := grd_k H | replace H := out_step H (by assumption) | (replace H := bind_some H; obtain ⟨_, _, H⟩ := H))); done) | (repeat (first | exact grd_p H | replace H := grd_k H | replace H := out_step H (by assumption)))))
        | ((with_reducible refine fin_mk ?_); (repeat (first | replace H := grd_k H | replace H := out_step H (by assumption))); have H := Option.some.inj H; subst H))
    | constructor
def G23 : Env := G22.add 31 [] spec_l1In.S
theorem G23_ok : EnvOk Tryd.prog G23 := G22_ok.add ent_31 fun ar h r h1 ⟨a0, a1, a2, y, hy, e1, e2, e3, e4⟩ => by
  subst e3 e4; exact (spec_l1In.spec a0 a1 a2 y hy).le e1 e2
attribute [local irreducible] spec_l1In

noncomputable def spec_l2Word_loop1 (a0 : ByteArray) (v2 : Int) : Option (Lp (Int) ((Unit) ⊕ (Unit))) :=
  (cond (decide (v2 < (a0.size : Int))) (grd (0 ≤ v2 ∧ v2 < (a0.size : Int)) (cond (decide ((bAt a0 v2) < (97 : Int))) ((some (.out (Sum.inl ())))) (grd (0 ≤ v2 ∧ v2 < (a0.size : Int)) (cond (decide ((122 : Int) < (bAt a0 v2))) ((some (.out (Sum.inl ())))) (some (.go (w64 (v2 + (1 : Int))))))))) ((some (.out (Sum.inr ())))))
noncomputable def spec_l2Word (a0 : ByteArray) : Option (Bool) :=
  ((iter (fun s => spec_l2Word_loop1 a0 s) (0 : Int)).bind (Sum.elim (fun _ => (some false)) (fun _ => ((spec_l1In (a0.size : Int) (1 : Int) (10 : Int)).bind fun y6 => (some y6)))))
def spec_l2Word.res (_ : ByteArray) (y : Bool) : AV := (.bl y)
def spec_l2Word.out (_ : ByteArray) (_ : Bool) : List (Option LB) := []
def spec_l2Word.S (ar : List AV) (h : List (Option LB)) (r : AV) (h1 : List (Option LB)) : Prop := ∃ a0 y, spec_l2Word a0 = some y ∧ leL ar [(.v (.string a0))] ∧ leH h [] ∧ r = spec_l2Word.res a0 y ∧ h1 = spec_l2Word.out a0 y
theorem spec_l2Word.call {ar : List AV} {h : List (Option LB)} {a0 : ByteArray} {y : Bool} (H : spec_l2Word a0 = some y) (h0 : leLk ar [(.v (.string a0))] (leHk h [])) : spec_l2Word.S ar h (spec_l2Word.res a0 y) (spec_l2Word.out a0 y) := ⟨a0, y, H, (args_ok h0).1, (args_ok h0).2, rfl, rfl⟩
set_option maxHeartbeats 100000000 in
set_option maxRecDepth 100000 in
theorem spec_l2Word.spec (a0 : ByteArray) (y : Bool) (H : spec_l2Word a0 = some y) : Spec Tryd.prog 55 [(.v (.string a0))] [] (spec_l2Word.res a0 y) (spec_l2Word.out a0 y) := by
  refine spec_intro (G23_ok.at tok []) (ct := [(5, some [0, 3, 15, 16, 17, 18, 19])]) Tryd.func55 rfl (by kernel_rfl) (by kernel_rfl) rfl ?_
  repeat' first
    | ((with_reducible refine eqg ?_); exact rfl)
    | ((with_reducible refine KOb.mk ?_); kernel_rfl)
    | ((with_reducible intro h); (repeat (first | replace H := grd_k H | replace H := out_step H (by assumption))); first | replace H := cond_t h H | replace H := cond_f h H | exact absurd h (by decide) | skip)
    | ((with_reducible refine Ob.mk ?_); first | (with_reducible rfl) | (first | ((repeat (first | (with_reducible exact grd_p H) | (replace H := grd_k H) | (replace H := out_step H (by assumption)))); done) | rfl | ((repeat (first | exact grd_p H | replace H := grd_k H | replace H := out_step H (by assumption))); done) | ((repeat (first | exact grd_p H | (have hp := grd_p H; exact hp) | replace H := grd_k H | replace H := out_step H (by assumption) | (replace H := bind_some H; obtain ⟨_, _, H⟩ := H))); done) | (repeat (first | exact grd_p H | replace H := grd_k H | replace H := out_step H (by assumption)))))
    | (with_reducible exact True.intro)
    | ((conv => whnf); first
        | (with_reducible refine And.intro ?_ ?_)
        | (with_reducible exact True.intro)
        | ((with_reducible refine Ob.mk ?_); first | (with_reducible rfl) | (first | ((repeat (first | (with_reducible exact grd_p H) | (replace H := grd_k H) | (replace H := out_step H (by assumption)))); done) | rfl | ((repeat (first | exact grd_p H | replace H := grd_k H | replace H := out_step H (by assumption))); done) | ((repeat (first | exact grd_p H | (have hp := grd_p H; exact hp) | replace H := grd_k H | replace H := out_step H (by assumption) | (replace H := bind_some H; obtain ⟨_, _, H⟩ := H))); done) | (repeat (first | exact grd_p H | replace H := grd_k H | replace H := out_step H (by assumption)))))
        | ((with_reducible refine CallW.mk ?_); (repeat (first | replace H := grd_k H | replace H := out_step H (by assumption))); replace H := bind_some H; obtain ⟨y, hy, H⟩ := H; first | ((with_reducible have hz : spec_l1In _ _ _ = some y := hy); clear hz; refine Exists.intro _ (Exists.intro _ ⟨spec_l1In.call hy ?_, rfl, rfl, ?_⟩)))
        | ((repeat (first | replace H := grd_k H | replace H := out_step H (by assumption))); refine loop_iter (G23_ok.at tok []) (ct := [(5, some [0, 3, 15, 16, 17, 18, 19])]) (F := (fun s1 : Int => ⟨sl [(0, (.v (.string a0))), (3, (.v (.int .i64 s1)))], []⟩)) (step := (fun s : Int => spec_l2Word_loop1 _ s)) _ H (by kernel_rfl) (sub_auto ?_) ?_; rotate_left; (intro s1 r v hr H); rotate_right)
        | ((repeat (first | replace H := grd_k H | replace H := out_step H (by assumption))); refine again_step H (by assumption) (sub_auto ?_))
        | ((with_reducible refine fin_mk ?_); (repeat (first | replace H := grd_k H | replace H := out_step H (by assumption))); have H := Option.some.inj H; subst H))
    | constructor
def G24 : Env := G23.add 55 [] spec_l2Word.S
theorem G24_ok : EnvOk Tryd.prog G24 := G23_ok.add ent_55 fun ar h r h1 ⟨a0, y, hy, e1, e2, e3, e4⟩ => by
  subst e3 e4; exact (spec_l2Word.spec a0 y hy).le e1 e2
attribute [local irreducible] spec_l2Word

noncomputable def spec_l24Day (a0 : Int) : Option (Bool) :=
  ((spec_l1In a0 (0 : Int) (9999 : Int)).bind fun y1 => (some y1))
def spec_l24Day.res (_ : Int) (y : Bool) : AV := (.bl y)
def spec_l24Day.out (_ : Int) (_ : Bool) : List (Option LB) := []
def spec_l24Day.S (ar : List AV) (h : List (Option LB)) (r : AV) (h1 : List (Option LB)) : Prop := ∃ a0 y, spec_l24Day a0 = some y ∧ leL ar [(.v (.int .i64 a0))] ∧ leH h [] ∧ r = spec_l24Day.res a0 y ∧ h1 = spec_l24Day.out a0 y
theorem spec_l24Day.call {ar : List AV} {h : List (Option LB)} {a0 : Int} {y : Bool} (H : spec_l24Day a0 = some y) (h0 : leLk ar [(.v (.int .i64 a0))] (leHk h [])) : spec_l24Day.S ar h (spec_l24Day.res a0 y) (spec_l24Day.out a0 y) := ⟨a0, y, H, (args_ok h0).1, (args_ok h0).2, rfl, rfl⟩
set_option maxHeartbeats 100000000 in
set_option maxRecDepth 100000 in
theorem spec_l24Day.spec (a0 : Int) (y : Bool) (H : spec_l24Day a0 = some y) : Spec Tryd.prog 30 [(.v (.int .i64 a0))] [] (spec_l24Day.res a0 y) (spec_l24Day.out a0 y) := by
  refine spec_intro (G24_ok.at tok []) (ct := []) Tryd.func30 rfl (by kernel_rfl) (by kernel_rfl) rfl ?_
  repeat' first
    | ((with_reducible refine eqg ?_); exact rfl)
    | ((with_reducible refine KOb.mk ?_); kernel_rfl)
    | ((with_reducible intro h); (repeat (first | replace H := grd_k H | replace H := out_step H (by assumption))); first | replace H := cond_t h H | replace H := cond_f h H | exact absurd h (by decide) | skip)
    | ((with_reducible refine Ob.mk ?_); first | (with_reducible rfl) | (first | ((repeat (first | (with_reducible exact grd_p H) | (replace H := grd_k H) | (replace H := out_step H (by assumption)))); done) | rfl | ((repeat (first | exact grd_p H | replace H := grd_k H | replace H := out_step H (by assumption))); done) | ((repeat (first | exact grd_p H | (have hp := grd_p H; exact hp) | replace H := grd_k H | replace H := out_step H (by assumption) | (replace H := bind_some H; obtain ⟨_, _, H⟩ := H))); done) | (repeat (first | exact grd_p H | replace H := grd_k H | replace H := out_step H (by assumption)))))
    | (with_reducible exact True.intro)
    | ((conv => whnf); first
        | (with_reducible refine And.intro ?_ ?_)
        | (with_reducible exact True.intro)
        | ((with_reducible refine Ob.mk ?_); first | (with_reducible rfl) | (first | ((repeat (first | (with_reducible exact grd_p H) | (replace H := grd_k H) | (replace H := out_step H (by assumption)))); done) | rfl | ((repeat (first | exact grd_p H | replace H := grd_k H | replace H := out_step H (by assumption))); done) | ((repeat (first | exact grd_p H | (have hp := grd_p H; exact hp) | replace H := grd_k H | replace H := out_step H (by assumption) | (replace H := bind_some H; obtain ⟨_, _, H⟩ := H))); done) | (repeat (first | exact grd_p H | replace H := grd_k H | replace H := out_step H (by assumption)))))
        | ((with_reducible refine CallW.mk ?_); (repeat (first | replace H := grd_k H | replace H := out_step H (by assumption))); replace H := bind_some H; obtain ⟨y, hy, H⟩ := H; first | ((with_reducible have hz : spec_l1In _ _ _ = some y := hy); clear hz; refine Exists.intro _ (Exists.intro _ ⟨spec_l1In.call hy ?_, rfl, rfl, ?_⟩)))
        | ((with_reducible refine fin_mk ?_); (repeat (first | replace H := grd_k H | replace H := out_step H (by assumption))); have H := Option.some.inj H; subst H))
    | constructor
def G25 : Env := G24.add 30 [] spec_l24Day.S
theorem G25_ok : EnvOk Tryd.prog G25 := G24_ok.add ent_30 fun ar h r h1 ⟨a0, y, hy, e1, e2, e3, e4⟩ => by
  subst e3 e4; exact (spec_l24Day.spec a0 y hy).le e1 e2
attribute [local irreducible] spec_l24Day

noncomputable def spec_l24One (a0 : Condition) : Option (Bool) :=
  ((spec_l1In a0.1 (1 : Int) (99 : Int)).bind fun y1 => (cond y1 ((spec_l2Word a0.2.1).bind fun y2 => (cond y2 ((spec_l1In a0.2.2.1 (1 : Int) (1000 : Int)).bind fun y3 => (cond y3 ((spec_l24Day a0.2.2.2.1).bind fun y4 => (cond y4 ((spec_l1In a0.2.2.2.2.1 (1 : Int) (5 : Int)).bind fun y5 => (some y5)) ((some false)))) ((some false)))) ((some false)))) ((some false))))
def spec_l24One.res (_ : Condition) (y : Bool) : AV := (.bl y)
def spec_l24One.out (_ : Condition) (_ : Bool) : List (Option LB) := []
def spec_l24One.S (ar : List AV) (h : List (Option LB)) (r : AV) (h1 : List (Option LB)) : Prop := ∃ a0 y, spec_l24One a0 = some y ∧ leL ar [(.agg [(.v (.int .i64 a0.1)), (.v (.string a0.2.1)), (.v (.int .i64 a0.2.2.1)), (.v (.int .i64 a0.2.2.2.1)), (.v (.int .i64 a0.2.2.2.2.1))])] ∧ leH h [] ∧ r = spec_l24One.res a0 y ∧ h1 = spec_l24One.out a0 y
theorem spec_l24One.call {ar : List AV} {h : List (Option LB)} {a0 : Condition} {y : Bool} (H : spec_l24One a0 = some y) (h0 : leLk ar [(.agg [(.v (.int .i64 a0.1)), (.v (.string a0.2.1)), (.v (.int .i64 a0.2.2.1)), (.v (.int .i64 a0.2.2.2.1)), (.v (.int .i64 a0.2.2.2.2.1))])] (leHk h [])) : spec_l24One.S ar h (spec_l24One.res a0 y) (spec_l24One.out a0 y) := ⟨a0, y, H, (args_ok h0).1, (args_ok h0).2, rfl, rfl⟩
set_option maxHeartbeats 100000000 in
set_option maxRecDepth 100000 in
theorem spec_l24One.spec (a0 : Condition) (y : Bool) (H : spec_l24One a0 = some y) : Spec Tryd.prog 42 [(.agg [(.v (.int .i64 a0.1)), (.v (.string a0.2.1)), (.v (.int .i64 a0.2.2.1)), (.v (.int .i64 a0.2.2.2.1)), (.v (.int .i64 a0.2.2.2.2.1))])] [] (spec_l24One.res a0 y) (spec_l24One.out a0 y) := by
  refine spec_intro (G25_ok.at tok []) (ct := []) Tryd.func42 rfl (by kernel_rfl) (by kernel_rfl) rfl ?_
  repeat' first
    | ((with_reducible refine eqg ?_); exact rfl)
    | ((with_reducible refine KOb.mk ?_); kernel_rfl)
    | ((with_reducible intro h); (repeat (first | replace H := grd_k H | replace H := out_step H (by assumption))); first | replace H := cond_t h H | replace H := cond_f h H | exact absurd h (by decide) | skip)
    | ((with_reducible refine Ob.mk ?_); first | (with_reducible rfl) | (first | ((repeat (first | (with_reducible exact grd_p H) | (replace H := grd_k H) | (replace H := out_step H (by assumption)))); done) | rfl | ((repeat (first | exact grd_p H | replace H := grd_k H | replace H := out_step H (by assumption))); done) | ((repeat (first | exact grd_p H | (have hp := grd_p H; exact hp) | replace H := grd_k H | replace H := out_step H (by assumption) | (replace H := bind_some H; obtain ⟨_, _, H⟩ := H))); done) | (repeat (first | exact grd_p H | replace H := grd_k H | replace H := out_step H (by assumption)))))
    | (with_reducible exact True.intro)
    | ((conv => whnf); first
        | (with_reducible refine And.intro ?_ ?_)
        | (with_reducible exact True.intro)
        | ((with_reducible refine Ob.mk ?_); first | (with_reducible rfl) | (first | ((repeat (first | (with_reducible exact grd_p H) | (replace H := grd_k H) | (replace H := out_step H (by assumption)))); done) | rfl | ((repeat (first | exact grd_p H | replace H := grd_k H | replace H := out_step H (by assumption))); done) | ((repeat (first | exact grd_p H | (have hp := grd_p H; exact hp) | replace H := grd_k H | replace H := out_step H (by assumption) | (replace H := bind_some H; obtain ⟨_, _, H⟩ := H))); done) | (repeat (first | exact grd_p H | replace H := grd_k H | replace H := out_step H (by assumption)))))
        | ((with_reducible refine CallW.mk ?_); (repeat (first | replace H := grd_k H | replace H := out_step H (by assumption))); replace H := bind_some H; obtain ⟨y, hy, H⟩ := H; first | ((with_reducible have hz : spec_l1In _ _ _ = some y := hy); clear hz; refine Exists.intro _ (Exists.intro _ ⟨spec_l1In.call hy ?_, rfl, rfl, ?_⟩)) | ((with_reducible have hz : spec_l2Word _ = some y := hy); clear hz; refine Exists.intro _ (Exists.intro _ ⟨spec_l2Word.call hy ?_, rfl, rfl, ?_⟩)) | ((with_reducible have hz : spec_l24Day _ = some y := hy); clear hz; refine Exists.intro _ (Exists.intro _ ⟨spec_l24Day.call hy ?_, rfl, rfl, ?_⟩)))
        | ((with_reducible refine fin_mk ?_); (repeat (first | replace H := grd_k H | replace H := out_step H (by assumption))); have H := Option.some.inj H; subst H))
    | constructor
def G26 : Env := G25.add 42 [] spec_l24One.S
theorem G26_ok : EnvOk Tryd.prog G26 := G25_ok.add ent_42 fun ar h r h1 ⟨a0, y, hy, e1, e2, e3, e4⟩ => by
  subst e3 e4; exact (spec_l24One.spec a0 y hy).le e1 e2
attribute [local irreducible] spec_l24One

noncomputable def spec_l24Good_loop1 (a0 : (List Condition)) (v5 : Int) : Option (Lp (Int) ((Unit) ⊕ (Unit))) :=
  (cond (decide (v5 < (a0.length : Int))) (grd (0 ≤ v5 ∧ v5 < (a0.length : Int)) ((spec_l24One ((a0.getD v5.toNat d_Condition).1, (a0.getD v5.toNat d_Condition).2.1, (a0.getD v5.toNat d_Condition).2.2.1, (a0.getD v5.toNat d_Condition).2.2.2.1, (a0.getD v5.toNat d_Condition).2.2.2.2.1, ())).bind fun y6 => (cond (!y6) ((some (.out (Sum.inl ())))) (cond (decide ((0 : Int) < v5)) (grd (0 ≤ (w64 (v5 - (1 : Int))) ∧ (w64 (v5 - (1 : Int))) < (a0.length : Int)) (grd (0 ≤ v5 ∧ v5 < (a0.length : Int)) (cond (decide (((a0.getD v5.toNat d_Condition).1) ≤ ((a0.getD ((w64 (v5 - (1 : Int))).toNat) d_Condition).1))) ((some (.out (Sum.inl ())))) (some (.go (w64 (v5 + (1 : Int)))))))) (some (.go (w64 (v5 + (1 : Int))))))))) ((some (.out (Sum.inr ())))))
noncomputable def spec_l24Good (a0 : (List Condition)) : Option (Bool) :=
  ((iter (fun s => spec_l24Good_loop1 a0 s) (0 : Int)).bind (Sum.elim (fun _ => (some false)) (fun _ => (some (decide ((a0.length : Int) ≤ (12 : Int)))))))
def spec_l24Good.res (_ : (List Condition)) (y : Bool) : AV := (.bl y)
def spec_l24Good.out (_ : (List Condition)) (_ : Bool) : List (Option LB) := []
def spec_l24Good.S (ar : List AV) (h : List (Option LB)) (r : AV) (h1 : List (Option LB)) : Prop := ∃ a0 y, spec_l24Good a0 = some y ∧ leL ar [(.tree ty_Condition a0)] ∧ leH h [] ∧ r = spec_l24Good.res a0 y ∧ h1 = spec_l24Good.out a0 y
theorem spec_l24Good.call {ar : List AV} {h : List (Option LB)} {a0 : (List Condition)} {y : Bool} (H : spec_l24Good a0 = some y) (h0 : leLk ar [(.tree ty_Condition a0)] (leHk h [])) : spec_l24Good.S ar h (spec_l24Good.res a0 y) (spec_l24Good.out a0 y) := ⟨a0, y, H, (args_ok h0).1, (args_ok h0).2, rfl, rfl⟩
set_option maxHeartbeats 100000000 in
set_option maxRecDepth 100000 in
theorem spec_l24Good.spec (a0 : (List Condition)) (y : Bool) (H : spec_l24Good a0 = some y) : Spec Tryd.prog 29 [(.tree ty_Condition a0)] [] (spec_l24Good.res a0 y) (spec_l24Good.out a0 y) := by
  refine spec_intro (G26_ok.at tok []) (ct := [(5, some [0, 3, 17, 18, 19, 20, 21, 22, 23, 24, 25, 26, 27, 28, 29, 30, 31, 32, 33])]) Tryd.func29 rfl (by kernel_rfl) (by kernel_rfl) rfl ?_
  repeat' first
    | ((with_reducible refine eqg ?_); exact rfl)
    | ((with_reducible refine KOb.mk ?_); kernel_rfl)
    | ((with_reducible intro h); (repeat (first | replace H := grd_k H | replace H := out_step H (by assumption))); first | replace H := cond_t h H | replace H := cond_f h H | exact absurd h (by decide) | skip)
    | ((with_reducible refine Ob.mk ?_); first | (with_reducible rfl) | (first | ((repeat (first | (with_reducible exact grd_p H) | (replace H := grd_k H) | (replace H := out_step H (by assumption)))); done) | rfl | ((repeat (first | exact grd_p H | replace H := grd_k H | replace H := out_step H (by assumption))); done) | ((repeat (first | exact grd_p H | (have hp := grd_p H; exact hp) | replace H := grd_k H | replace H := out_step H (by assumption) | (replace H := bind_some H; obtain ⟨_, _, H⟩ := H))); done) | (repeat (first | exact grd_p H | replace H := grd_k H | replace H := out_step H (by assumption)))))
    | (with_reducible exact True.intro)
    | ((conv => whnf); first
        | (with_reducible refine And.intro ?_ ?_)
        | (with_reducible exact True.intro)
        | ((with_reducible refine Ob.mk ?_); first | (with_reducible rfl) | (first | ((repeat (first | (with_reducible exact grd_p H) | (replace H := grd_k H) | (replace H := out_step H (by assumption)))); done) | rfl | ((repeat (first | exact grd_p H | replace H := grd_k H | replace H := out_step H (by assumption))); done) | ((repeat (first | exact grd_p H | (have hp := grd_p H; exact hp) | replace H := grd_k H | replace H := out_step H (by assumption) | (replace H := bind_some H; obtain ⟨_, _, H⟩ := H))); done) | (repeat (first | exact grd_p H | replace H := grd_k H | replace H := out_step H (by assumption)))))
        | ((with_reducible refine CallW.mk ?_); (repeat (first | replace H := grd_k H | replace H := out_step H (by assumption))); replace H := bind_some H; obtain ⟨y, hy, H⟩ := H; first | ((with_reducible have hz : spec_l24One _ = some y := hy); clear hz; refine Exists.intro _ (Exists.intro _ ⟨spec_l24One.call hy ?_, rfl, rfl, ?_⟩)))
        | ((repeat (first | replace H := grd_k H | replace H := out_step H (by assumption))); refine loop_iter (G26_ok.at tok []) (ct := [(5, some [0, 3, 17, 18, 19, 20, 21, 22, 23, 24, 25, 26, 27, 28, 29, 30, 31, 32, 33])]) (F := (fun s1 : Int => ⟨sl [(0, (.tree ty_Condition a0)), (3, (.v (.int .i64 s1)))], []⟩)) (step := (fun s : Int => spec_l24Good_loop1 _ s)) _ H (by kernel_rfl) (sub_auto ?_) ?_; rotate_left; (intro s1 r v hr H); rotate_right)
        | ((repeat (first | replace H := grd_k H | replace H := out_step H (by assumption))); refine again_step H (by assumption) (sub_auto ?_))
        | ((with_reducible refine fin_mk ?_); (repeat (first | replace H := grd_k H | replace H := out_step H (by assumption))); have H := Option.some.inj H; subst H))
    | constructor
def G27 : Env := G26.add 29 [] spec_l24Good.S
theorem G27_ok : EnvOk Tryd.prog G27 := G26_ok.add ent_29 fun ar h r h1 ⟨a0, y, hy, e1, e2, e3, e4⟩ => by
  subst e3 e4; exact (spec_l24Good.spec a0 y hy).le e1 e2
attribute [local irreducible] spec_l24Good

noncomputable def spec_l1Least (a0 : Int) (a1 : Int) : Option (Int) :=
  (cond (decide (a0 < a1)) ((some a0)) ((some a1)))
def spec_l1Least.res (_ : Int) (_ : Int) (y : Int) : AV := (.v (.int .i64 y))
def spec_l1Least.out (_ : Int) (_ : Int) (_ : Int) : List (Option LB) := []
def spec_l1Least.S (ar : List AV) (h : List (Option LB)) (r : AV) (h1 : List (Option LB)) : Prop := ∃ a0 a1 y, spec_l1Least a0 a1 = some y ∧ leL ar [(.v (.int .i64 a0)), (.v (.int .i64 a1))] ∧ leH h [] ∧ r = spec_l1Least.res a0 a1 y ∧ h1 = spec_l1Least.out a0 a1 y
theorem spec_l1Least.call {ar : List AV} {h : List (Option LB)} {a0 : Int} {a1 : Int} {y : Int} (H : spec_l1Least a0 a1 = some y) (h0 : leLk ar [(.v (.int .i64 a0)), (.v (.int .i64 a1))] (leHk h [])) : spec_l1Least.S ar h (spec_l1Least.res a0 a1 y) (spec_l1Least.out a0 a1 y) := ⟨a0, a1, y, H, (args_ok h0).1, (args_ok h0).2, rfl, rfl⟩
set_option maxHeartbeats 100000000 in
set_option maxRecDepth 100000 in
theorem spec_l1Least.spec (a0 : Int) (a1 : Int) (y : Int) (H : spec_l1Least a0 a1 = some y) : Spec Tryd.prog 50 [(.v (.int .i64 a0)), (.v (.int .i64 a1))] [] (spec_l1Least.res a0 a1 y) (spec_l1Least.out a0 a1 y) := by
  refine spec_intro (G27_ok.at tok []) (ct := []) Tryd.func50 rfl (by kernel_rfl) (by kernel_rfl) rfl ?_
  repeat' first
    | ((with_reducible refine eqg ?_); exact rfl)
    | ((with_reducible refine KOb.mk ?_); kernel_rfl)
    | ((with_reducible intro h); (repeat (first | replace H := grd_k H | replace H := out_step H (by assumption))); first | replace H := cond_t h H | replace H := cond_f h H | exact absurd h (by decide) | skip)
    | ((with_reducible refine Ob.mk ?_); first | (with_reducible rfl) | (first | ((repeat (first | (with_reducible exact grd_p H) | (replace H := grd_k H) | (replace H := out_step H (by assumption)))); done) | rfl | ((repeat (first | exact grd_p H | replace H := grd_k H | replace H := out_step H (by assumption))); done) | ((repeat (first | exact grd_p H | (have hp := grd_p H; exact hp) | replace H := grd_k H | replace H := out_step H (by assumption) | (replace H := bind_some H; obtain ⟨_, _, H⟩ := H))); done) | (repeat (first | exact grd_p H | replace H := grd_k H | replace H := out_step H (by assumption)))))
    | (with_reducible exact True.intro)
    | ((conv => whnf); first
        | (with_reducible refine And.intro ?_ ?_)
        | (with_reducible exact True.intro)
        | ((with_reducible refine Ob.mk ?_); first | (with_reducible rfl) | (first | ((repeat (first | (with_reducible exact grd_p H) | (replace H := grd_k H) | (replace H := out_step H (by assumption)))); done) | rfl | ((repeat (first | exact grd_p H | replace H := grd_k H | replace H := out_step H (by assumption))); done) | ((repeat (first | exact grd_p H | (have hp := grd_p H; exact hp) | replace H := grd_k H | replace H := out_step H (by assumption) | (replace H := bind_some H; obtain ⟨_, _, H⟩ := H))); done) | (repeat (first | exact grd_p H | replace H := grd_k H | replace H := out_step H (by assumption)))))
        | ((with_reducible refine fin_mk ?_); (repeat (first | replace H := grd_k H | replace H := out_step H (by assumption))); have H := Option.some.inj H; subst H))
    | constructor
def G28 : Env := G27.add 50 [] spec_l1Least.S
theorem G28_ok : EnvOk Tryd.prog G28 := G27_ok.add ent_50 fun ar h r h1 ⟨a0, a1, y, hy, e1, e2, e3, e4⟩ => by
  subst e3 e4; exact (spec_l1Least.spec a0 a1 y hy).le e1 e2
attribute [local irreducible] spec_l1Least

end Go.Proofs.YtpmmaohaahbphaaDoor
