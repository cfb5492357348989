/-
  Contracts, printed by a program.
-/
import Derived.Test.YtpmmaohaahbphaaDoorC861
namespace Go.Proofs.YtpmmaohaahbphaaDoor
open Go.RowKit
attribute [local irreducible] Ob loopwp Sub Spec Fin Again CallW CutC KOb iter joinx outm

attribute [local irreducible] laws_rBig spec_l1Cur_next spec_l1Cur_pick spec_l1Cur_of spec_l1Cur_among spec_l1Cur_condition spec_l1Cur_one

noncomputable def spec_l1Cur_conditions_loop1  (v28 : Int) (v29 : Int) (v30 : (List Int)) (v31 : Int) (v32 : Int) (v33 : (List Condition)) : Option (Lp (Int × Int × (List Int) × Int × Int × (List Condition)) ((Int × (List Int) × Int × Int × (List Condition)))) :=
  (cond (decide ((0 : Int) < v29)) ((spec_l1Cur_pick (v30, v31, v32, ()) (3 : Int)).bind fun y34 => ((spec_l1Cur_pick (y34.2.1, y34.2.2.1, y34.2.2.2.1, ()) (80 : Int)).bind fun y35 => (grd ((79 : Int) ≠ 0) ((spec_l1Cur_condition (y35.2.1, y35.2.2.1, y35.2.2.2.1, ()) (w64 ((w64 ((w64 (v28 + (1 : Int))) + y34.1)) - (w64 (Int.tdiv y35.1 (79 : Int)))))).bind fun y36 => (cond (decide (y36.1.2.2.2.2.1 = (5 : Int))) ((spec_l1Cur_one (y36.2.1, y36.2.2.1, y36.2.2.2.1, ()) (2 : Int)).bind fun y37 => (cond y37.1 (grd (v33.length + [(y36.1.1, y36.1.2.1, y36.1.2.2.1, y36.1.2.2.2.1, (1 : Int), ())].length ≤ 140737488355328 / 48 ∧ v33.length + [(y36.1.1, y36.1.2.1, y36.1.2.2.1, y36.1.2.2.2.1, (1 : Int), ())].length ≤ 140737488355328) (some (.go ((w64 ((w64 ((w64 (v28 + (1 : Int))) + y34.1)) - (w64 (Int.tdiv y35.1 (79 : Int))))), (w64 (v29 - (1 : Int))), y37.2.1, y37.2.2.1, y37.2.2.2.1, (v33 ++ [(y36.1.1, y36.1.2.1, y36.1.2.2.1, y36.1.2.2.2.1, (1 : Int), ())]))))) (grd (v33.length + [(y36.1.1, y36.1.2.1, y36.1.2.2.1, y36.1.2.2.2.1, y36.1.2.2.2.2.1, ())].length ≤ 140737488355328 / 48 ∧ v33.length + [(y36.1.1, y36.1.2.1, y36.1.2.2.1, y36.1.2.2.2.1, y36.1.2.2.2.2.1, ())].length ≤ 140737488355328) (some (.go ((w64 ((w64 ((w64 (v28 + (1 : Int))) + y34.1)) - (w64 (Int.tdiv y35.1 (79 : Int))))), (w64 (v29 - (1 : Int))), y37.2.1, y37.2.2.1, y37.2.2.2.1, (v33 ++ [(y36.1.1, y36.1.2.1, y36.1.2.2.1, y36.1.2.2.2.1, y36.1.2.2.2.2.1, ())]))))))) (grd (v33.length + [(y36.1.1, y36.1.2.1, y36.1.2.2.1, y36.1.2.2.2.1, y36.1.2.2.2.2.1, ())].length ≤ 140737488355328 / 48 ∧ v33.length + [(y36.1.1, y36.1.2.1, y36.1.2.2.1, y36.1.2.2.2.1, y36.1.2.2.2.2.1, ())].length ≤ 140737488355328) (some (.go ((w64 ((w64 ((w64 (v28 + (1 : Int))) + y34.1)) - (w64 (Int.tdiv y35.1 (79 : Int))))), (w64 (v29 - (1 : Int))), y36.2.1, y36.2.2.1, y36.2.2.2.1, (v33 ++ [(y36.1.1, y36.1.2.1, y36.1.2.2.1, y36.1.2.2.2.1, y36.1.2.2.2.2.1, ())])))))))))) ((some (.out (v28, v30, v31, v32, v33)))))
noncomputable def spec_l1Cur_conditions_loop2  (v46 : Int) (v47 : (List Int)) (v48 : Int) (v49 : Int) (v50 : (List Condition)) : Option (Lp (Int × (List Int) × Int × Int × (List Condition)) (((List Int) × Int × Int × (List Condition)))) :=
  ((spec_l1Cur_pick (v47, v48, v49, ()) (2 : Int)).bind fun y51 => (cond (decide ((v50.length : Int) < (w64 ((12 : Int) + y51.1)))) (grd (v50.length + [((w64 (v46 + (1 : Int))), (ByteArray.mk #[120]), (5 : Int), (0 : Int), (1 : Int), ())].length ≤ 140737488355328 / 48 ∧ v50.length + [((w64 (v46 + (1 : Int))), (ByteArray.mk #[120]), (5 : Int), (0 : Int), (1 : Int), ())].length ≤ 140737488355328) (some (.go ((w64 (v46 + (1 : Int))), y51.2.1, y51.2.2.1, y51.2.2.2.1, (v50 ++ [((w64 (v46 + (1 : Int))), (ByteArray.mk #[120]), (5 : Int), (0 : Int), (1 : Int), ())]))))) ((some (.out (y51.2.1, y51.2.2.1, y51.2.2.2.1, v50))))))
noncomputable def spec_l1Cur_conditions (a0 : l1Cur) : Option ((List Condition) × l1Cur) :=
  ((spec_l1Cur_pick (a0.1, a0.2.1, a0.2.2.1, ()) (7 : Int)).bind fun y1 => ((iter (fun s => spec_l1Cur_conditions_loop1 s.1 s.2.1 s.2.2.1 s.2.2.2.1 s.2.2.2.2.1 s.2.2.2.2.2) ((0 : Int), y1.1, y1.2.1, y1.2.2.1, y1.2.2.2.1, ([] : List Condition))).bind (fun r38 => ((spec_l1Cur_one (r38.2.1, r38.2.2.1, r38.2.2.2.1, ()) (24 : Int)).bind fun y39 => (cond y39.1 ((iter (fun s => spec_l1Cur_conditions_loop2 s.1 s.2.1 s.2.2.1 s.2.2.2.1 s.2.2.2.2) (r38.1, y39.2.1, y39.2.2.1, y39.2.2.2.1, r38.2.2.2.2)).bind (fun r52 => (some (r52.2.2.2, (r52.1, r52.2.1, r52.2.2.1, ()))))) ((some (r38.2.2.2.2, (y39.2.1, y39.2.2.1, y39.2.2.2.1, ())))))))))
def spec_l1Cur_conditions.res (_ : l1Cur) (_ : (List Condition) × l1Cur) : AV := (.own 1)
def spec_l1Cur_conditions.out (_ : l1Cur) (y : (List Condition) × l1Cur) : List (Option LB) := [some (.box 49 [(.tree (.int .u8) y.2.1), (.v (.int .i64 y.2.2.1)), (.v (.int .u64 y.2.2.2.1))]), some (.arr 33 ty_Condition y.1)]
def spec_l1Cur_conditions.S (ar : List AV) (h : List (Option LB)) (r : AV) (h1 : List (Option LB)) : Prop := ∃ a0 y, spec_l1Cur_conditions a0 = some y ∧ leL ar [(.loc 0 0 0)] ∧ leH h [some (.box 49 [(.tree (.int .u8) a0.1), (.v (.int .i64 a0.2.1)), (.v (.int .u64 a0.2.2.1))])] ∧ r = spec_l1Cur_conditions.res a0 y ∧ h1 = spec_l1Cur_conditions.out a0 y
theorem spec_l1Cur_conditions.call {ar : List AV} {h : List (Option LB)} {a0 : l1Cur} {y : (List Condition) × l1Cur} (H : spec_l1Cur_conditions a0 = some y) (h0 : leLk ar [(.loc 0 0 0)] (leHk h [some (.box 49 [(.tree (.int .u8) a0.1), (.v (.int .i64 a0.2.1)), (.v (.int .u64 a0.2.2.1))])])) : spec_l1Cur_conditions.S ar h (spec_l1Cur_conditions.res a0 y) (spec_l1Cur_conditions.out a0 y) := ⟨a0, y, H, (args_ok h0).1, (args_ok h0).2, rfl, rfl⟩
set_option maxHeartbeats 100000000 in
set_option maxRecDepth 100000 in
theorem spec_l1Cur_conditions.spec (a0 : l1Cur) (y : (List Condition) × l1Cur) (H : spec_l1Cur_conditions a0 = some y) : Spec Tryd.prog 19 [(.loc 0 0 0)] [some (.box 49 [(.tree (.int .u8) a0.1), (.v (.int .i64 a0.2.1)), (.v (.int .u64 a0.2.2.1))])] (spec_l1Cur_conditions.res a0 y) (spec_l1Cur_conditions.out a0 y) := by
  refine spec_intro (G7_ok.at tok []) (ct := [(8, some [0, 3, 4, 5, 6, 30, 31])]) Tryd.func19 rfl (by kernel_rfl) (by kernel_rfl) rfl ?_
  repeat' first
    | ((with_reducible refine eqg ?_); exact rfl)
    | ((with_reducible refine KOb.mk ?_); kernel_rfl)
    | ((with_reducible intro h); (repeat (first | replace H := grd_k H | replace H := out_step H (by assumption))); first | replace H := cond_t h H | replace H := cond_f h H | exact absurd h (by decide) | skip)
    | ((with_reducible refine Ob.mk ?_); first | (with_reducible rfl) | (first | ((repeat (first | (with_reducible exact grd_p H) | (replace H := grd_k H) | (replace H := out_step H (by assumption)))); done) | rfl | ((repeat (first | exact grd_p H | replace H := grd_k H | replace H := out_step H (by assumption))); done) | ((repeat (first | exact grd_p H | (have hp := grd_p H; exact hp) | replace H := grd_k H | replace H := out_step H (by assumption) | (replace H := bind_some H; obtain ⟨_, _, H⟩ := H))); done) | (repeat (first | exact grd_p H | replace H := grd_k H | replace H := out_step H (by assumption)))))
    | (with_reducible exact True.intro)
    | ((conv => whnf); first
        | (with_reducible refine And.intro ?_ ?_)
        | (with_reducible exact True.intro)
        | ((with_reducible refine Ob.mk ?_); first | (with_reducible rfl) | (first | ((repeat (first | (with_reducible exact grd_p H) | (replace H := grd_k H) | (replace H := out_step H (by assumption)))); done) | rfl | ((repeat (first | exact grd_p H | replace H := grd_k H | replace H := out_step H (by assumption))); done) | ((repeat (first | exact grd_p H | (have hp := grd_p H; exact hp) | replace H := grd_k H | replace H := out_step H (by assumption) | (replace H := bind_some H; obtain ⟨_, _, H⟩ := H))); done) | (repeat (first | exact grd_p H | replace H := grd_k H | replace H := out_step H (by assumption)))))
        | ((with_reducible refine CallW.mk ?_); (repeat (first | replace H := grd_k H | replace H := out_step H (by assumption))); replace H := bind_some H; obtain ⟨y, hy, H⟩ := H; first | ((with_reducible have hz : spec_l1Cur_pick _ _ = some y := hy); clear hz; refine Exists.intro _ (Exists.intro _ ⟨spec_l1Cur_pick.call hy ?_, rfl, rfl, ?_⟩)) | ((with_reducible have hz : spec_l1Cur_condition _ _ = some y := hy); clear hz; refine Exists.intro _ (Exists.intro _ ⟨spec_l1Cur_condition.call hy ?_, rfl, rfl, ?_⟩)) | ((with_reducible have hz : spec_l1Cur_one _ _ = some y := hy); clear hz; refine Exists.intro _ (Exists.intro _ ⟨spec_l1Cur_one.call hy ?_, rfl, rfl, ?_⟩)))
        | ((repeat (first | replace H := grd_k H | replace H := out_step H (by assumption))); refine loop_iter (G7_ok.at tok []) (ct := [(8, some [0, 3, 4, 5, 6, 30, 31])]) (F := (fun s1 : Int × Int × (List Int) × Int × Int × (List Condition) => ⟨sl [(0, (.loc 0 0 0)), (3, (.own 1)), (4, (.v (.int .i64 s1.1))), (5, (.v (.int .i64 s1.2.1)))], [some (.box 49 [(.tree (.int .u8) s1.2.2.1), (.v (.int .i64 s1.2.2.2.1)), (.v (.int .u64 s1.2.2.2.2.1))]), some (.arr 33 ty_Condition s1.2.2.2.2.2)]⟩)) (step := (fun s : Int × Int × (List Int) × Int × Int × (List Condition) => spec_l1Cur_conditions_loop1 s.1 s.2.1 s.2.2.1 s.2.2.2.1 s.2.2.2.2.1 s.2.2.2.2.2)) _ H (by kernel_rfl) (sub_auto ?_) ?_; rotate_left; (intro s1 r v hr H); rotate_right)
        | ((repeat (first | replace H := grd_k H | replace H := out_step H (by assumption))); refine loop_iter (G7_ok.at tok []) (ct := [(8, some [0, 3, 4, 5, 6, 30, 31])]) (F := (fun s2 : Int × (List Int) × Int × Int × (List Condition) => ⟨sl [(0, (.loc 0 0 0)), (3, (.own 1)), (4, (.v (.int .i64 s2.1)))], [some (.box 49 [(.tree (.int .u8) s2.2.1), (.v (.int .i64 s2.2.2.1)), (.v (.int .u64 s2.2.2.2.1))]), some (.arr 33 ty_Condition s2.2.2.2.2)]⟩)) (step := (fun s : Int × (List Int) × Int × Int × (List Condition) => spec_l1Cur_conditions_loop2 s.1 s.2.1 s.2.2.1 s.2.2.2.1 s.2.2.2.2)) _ H (by kernel_rfl) (sub_auto ?_) ?_; rotate_left; (intro s2 r v hr H); rotate_right)
        | ((repeat (first | replace H := grd_k H | replace H := out_step H (by assumption))); refine again_step H (by assumption) (sub_auto ?_))
        | ((with_reducible refine fin_mk ?_); (repeat (first | replace H := grd_k H | replace H := out_step H (by assumption))); have H := Option.some.inj H; subst H))
    | constructor
def G8 : Env := G7.add 19 [true] spec_l1Cur_conditions.S
theorem G8_ok : EnvOk Tryd.prog G8 := G7_ok.add ent_19 fun ar h r h1 ⟨a0, y, hy, e1, e2, e3, e4⟩ => by
  subst e3 e4; exact (spec_l1Cur_conditions.spec a0 y hy).le e1 e2
attribute [local irreducible] spec_l1Cur_conditions

noncomputable def spec_l1Cur_day24 (a0 : l1Cur) : Option (Int × l1Cur) :=
  ((spec_l1Cur_pick (a0.1, a0.2.1, a0.2.2.1, ()) (24 : Int)).bind fun y1 => (grd ((11 : Int) ≠ 0) (grd (0 ≤ (0 : Int) ∧ (0 : Int) ≤ (w64 ((8 : Int) + (w64 (Int.tdiv y1.1 (11 : Int))))) ∧ (w64 ((8 : Int) + (w64 (Int.tdiv y1.1 (11 : Int))))) ≤ ([(0 : Int), (100 : Int), (107 : Int), (114 : Int), (115 : Int), (125 : Int), (200 : Int), (9999 : Int), ((-1) : Int), (10000 : Int)].length : Int)) ((spec_l1Cur_among (y1.2.1, y1.2.2.1, y1.2.2.2.1, ()) (([(0 : Int), (100 : Int), (107 : Int), (114 : Int), (115 : Int), (125 : Int), (200 : Int), (9999 : Int), ((-1) : Int), (10000 : Int)].drop ((0 : Int).toNat)).take (((w64 ((8 : Int) + (w64 (Int.tdiv y1.1 (11 : Int))))) - (0 : Int)).toNat))).bind fun y2 => (some (y2.1, (y2.2.1, y2.2.2.1, y2.2.2.2.1, ())))))))
def spec_l1Cur_day24.res (_ : l1Cur) (y : Int × l1Cur) : AV := (.v (.int .i64 y.1))
def spec_l1Cur_day24.out (_ : l1Cur) (y : Int × l1Cur) : List (Option LB) := [some (.box 49 [(.tree (.int .u8) y.2.1), (.v (.int .i64 y.2.2.1)), (.v (.int .u64 y.2.2.2.1))])]
def spec_l1Cur_day24.S (ar : List AV) (h : List (Option LB)) (r : AV) (h1 : List (Option LB)) : Prop := ∃ a0 y, spec_l1Cur_day24 a0 = some y ∧ leL ar [(.loc 0 0 0)] ∧ leH h [some (.box 49 [(.tree (.int .u8) a0.1), (.v (.int .i64 a0.2.1)), (.v (.int .u64 a0.2.2.1))])] ∧ r = spec_l1Cur_day24.res a0 y ∧ h1 = spec_l1Cur_day24.out a0 y
theorem spec_l1Cur_day24.call {ar : List AV} {h : List (Option LB)} {a0 : l1Cur} {y : Int × l1Cur} (H : spec_l1Cur_day24 a0 = some y) (h0 : leLk ar [(.loc 0 0 0)] (leHk h [some (.box 49 [(.tree (.int .u8) a0.1), (.v (.int .i64 a0.2.1)), (.v (.int .u64 a0.2.2.1))])])) : spec_l1Cur_day24.S ar h (spec_l1Cur_day24.res a0 y) (spec_l1Cur_day24.out a0 y) := ⟨a0, y, H, (args_ok h0).1, (args_ok h0).2, rfl, rfl⟩
set_option maxHeartbeats 100000000 in
set_option maxRecDepth 100000 in
theorem spec_l1Cur_day24.spec (a0 : l1Cur) (y : Int × l1Cur) (H : spec_l1Cur_day24 a0 = some y) : Spec Tryd.prog 20 [(.loc 0 0 0)] [some (.box 49 [(.tree (.int .u8) a0.1), (.v (.int .i64 a0.2.1)), (.v (.int .u64 a0.2.2.1))])] (spec_l1Cur_day24.res a0 y) (spec_l1Cur_day24.out a0 y) := by
  refine spec_intro (G8_ok.at tok []) (ct := []) Tryd.func20 rfl (by kernel_rfl) (by kernel_rfl) rfl ?_
  repeat' first
    | ((with_reducible refine eqg ?_); exact rfl)
    | ((with_reducible refine KOb.mk ?_); kernel_rfl)
    | ((with_reducible intro h); (repeat (first | replace H := grd_k H | replace H := out_step H (by assumption))); first | replace H := cond_t h H | replace H := cond_f h H | exact absurd h (by decide) | skip)
    | ((with_reducible refine Ob.mk ?_); first | (with_reducible rfl) | (first | ((repeat (first | (with_reducible exact grd_p H) | (replace H := grd_k H) | (replace H := out_step H (by assumption)))); done) | rfl | ((repeat (first | exact grd_p H | replace H := grd_k H | replace H := out_step H (by assumption))); done) | ((repeat (first | exact grd_p H | (have hp := grd_p H; exact hp) | replace H := grd_k H | replace H := out_step H (by assumption) | (replace H := bind_some H; obtain ⟨_, _, H⟩ := H))); done) | (repeat (first | exact grd_p H | replace H := grd_k H | replace H := out_step H (by assumption)))))
    | (with_reducible exact True.intro)
    | ((conv => whnf); first
        | (with_reducible refine And.intro ?_ ?_)
        | (with_reducible exact True.intro)
        | ((with_reducible refine Ob.mk ?_); first | (with_reducible rfl) | (first | ((repeat (first | (with_reducible exact grd_p H) | (replace H := grd_k H) | (replace H := out_step H (by assumption)))); done) | rfl | ((repeat (first | exact grd_p H | replace H := grd_k H | replace H := out_step H (by assumption))); done) | ((repeat (first | exact grd_p H | (have hp := grd_p H; exact hp) | replace H := grd_k H | replace H := out_step H (by assumption) | (replace H := bind_some H; obtain ⟨_, _, H⟩ := H))); done) | (repeat (first | exact grd_p H | replace H := grd_k H | replace H := out_step H (by assumption)))))
        | ((with_reducible refine CallW.mk ?_); (repeat (first | replace H := grd_k H | replace H := out_step H (by assumption))); replace H := bind_some H; obtain ⟨y, hy, H⟩ := H; first | ((with_reducible have hz : spec_l1Cur_pick _ _ = some y := hy); clear hz; refine Exists.intro _ (Exists.intro _ ⟨spec_l1Cur_pick.call hy ?_, rfl, rfl, ?_⟩)) | ((with_reducible have hz : spec_l1Cur_among _ _ = some y := hy); clear hz; refine Exists.intro _ (Exists.intro _ ⟨spec_l1Cur_among.call hy ?_, rfl, rfl, ?_⟩)))
        | ((with_reducible refine fin_mk ?_); (repeat (first | replace H := grd_k H | replace H := out_step H (by assumption))); have H := Option.some.inj H; subst H))
    | constructor
def G9 : Env := G8.add 20 [true] spec_l1Cur_day24.S
theorem G9_ok : EnvOk Tryd.prog G9 := G8_ok.add ent_20 fun ar h r h1 ⟨a0, y, hy, e1, e2, e3, e4⟩ => by
  subst e3 e4; exact (spec_l1Cur_day24.spec a0 y hy).le e1 e2
attribute [local irreducible] spec_l1Cur_day24

noncomputable def spec_DrawInspectionPlan (a0 : (List Int)) : Option ((List Condition) × Int × Int) :=
  ((spec_l1Cur_conditions (a0, (0 : Int), (0 : Int), ())).bind fun y1 => ((spec_l1Cur_day24 (y1.2.1, y1.2.2.1, y1.2.2.2.1, ())).bind fun y2 => ((spec_l1Cur_pick (y2.2.1, y2.2.2.1, y2.2.2.2.1, ()) (24 : Int)).bind fun y3 => (grd ((11 : Int) ≠ 0) (grd (0 ≤ (0 : Int) ∧ (0 : Int) ≤ (w64 ((5 : Int) + (w64 (Int.tdiv y3.1 (11 : Int))))) ∧ (w64 ((5 : Int) + (w64 (Int.tdiv y3.1 (11 : Int))))) ≤ ([(0 : Int), (5 : Int), (30 : Int), (30 : Int), (400 : Int), ((-1) : Int), (401 : Int)].length : Int)) ((spec_l1Cur_among (y3.2.1, y3.2.2.1, y3.2.2.2.1, ()) (([(0 : Int), (5 : Int), (30 : Int), (30 : Int), (400 : Int), ((-1) : Int), (401 : Int)].drop ((0 : Int).toNat)).take (((w64 ((5 : Int) + (w64 (Int.tdiv y3.1 (11 : Int))))) - (0 : Int)).toNat))).bind fun y4 => (some (y1.1, y2.1, (w64 (y2.1 + y4.1))))))))))
def spec_DrawInspectionPlan.res (_ : (List Int)) (y : (List Condition) × Int × Int) : AV := (.tup [(.own 0), (.v (.int .i64 y.2.1)), (.v (.int .i64 y.2.2))])
def spec_DrawInspectionPlan.out (_ : (List Int)) (y : (List Condition) × Int × Int) : List (Option LB) := [some (.arr 33 ty_Condition y.1)]
def spec_DrawInspectionPlan.S (ar : List AV) (h : List (Option LB)) (r : AV) (h1 : List (Option LB)) : Prop := ∃ a0 y, spec_DrawInspectionPlan a0 = some y ∧ leL ar [(.tree (.int .u8) a0)] ∧ leH h [] ∧ r = spec_DrawInspectionPlan.res a0 y ∧ h1 = spec_DrawInspectionPlan.out a0 y
theorem spec_DrawInspectionPlan.call {ar : List AV} {h : List (Option LB)} {a0 : (List Int)} {y : (List Condition) × Int × Int} (H : spec_DrawInspectionPlan a0 = some y) (h0 : leLk ar [(.tree (.int .u8) a0)] (leHk h [])) : spec_DrawInspectionPlan.S ar h (spec_DrawInspectionPlan.res a0 y) (spec_DrawInspectionPlan.out a0 y) := ⟨a0, y, H, (args_ok h0).1, (args_ok h0).2, rfl, rfl⟩
set_option maxHeartbeats 100000000 in
set_option maxRecDepth 100000 in
theorem spec_DrawInspectionPlan.spec (a0 : (List Int)) (y : (List Condition) × Int × Int) (H : spec_DrawInspectionPlan a0 = some y) : Spec Tryd.prog 5 [(.tree (.int .u8) a0)] [] (spec_DrawInspectionPlan.res a0 y) (spec_DrawInspectionPlan.out a0 y) := by
  refine spec_intro (G9_ok.at tok []) (ct := []) Tryd.func5 rfl (by kernel_rfl) (by kernel_rfl) rfl ?_
  repeat' first
    | ((with_reducible refine eqg ?_); exact rfl)
    | ((with_reducible refine KOb.mk ?_); kernel_rfl)
    | ((with_reducible intro h); (repeat (first | replace H := grd_k H | replace H := out_step H (by assumption))); first | replace H := cond_t h H | replace H := cond_f h H | exact absurd h (by decide) | skip)
    | ((with_reducible refine Ob.mk ?_); first | (with_reducible rfl) | (first | ((repeat (first | (with_reducible exact grd_p H) | (replace H := grd_k H) | (replace H := out_step H (by assumption)))); done) | rfl | ((repeat (first | exact grd_p H | replace H := grd_k H | replace H := out_step H (by assumption))); done) | ((repeat (first | exact grd_p H | (have hp := grd_p H; exact hp) | replace H := grd_k H | replace H := out_step H (by assumption) | (replace H := bind_some H; obtain ⟨_, _, H⟩ := H))); done) | (repeat (first | exact grd_p H | replace H := grd_k H | replace H := out_step H (by assumption)))))
    | (with_reducible exact True.intro)
    | ((conv => whnf); first
        | (with_reducible refine And.intro ?_ ?_)
        | (with_reducible exact True.intro)
        | ((with_reducible refine Ob.mk ?_); first | (with_reducible rfl) | (first | ((repeat (first | (with_reducible exact grd_p H) | (replace H := grd_k H) | (replace H := out_step H (by assumption)))); done) | rfl | ((repeat (first | exact grd_p H | replace H := grd_k H | replace H := out_step H (by assumption))); done) | ((repeat (first | exact grd_p H | (have hp := grd_p H; exact hp) | replace H := grd_k H | replace H := out_step H (by assumption) | (replace H := bind_some H; obtain ⟨_, _, H⟩ := H))); done) | (repeat (first | exact grd_p H | replace H := grd_k H | replace H := out_step H (by assumption)))))
        | ((with_reducible refine CallW.mk ?_); (repeat (first | replace H := grd_k H | replace H := out_step H (by assumption))); replace H := bind_some H; obtain ⟨y, hy, H⟩ := H; first | ((with_reducible have hz : spec_l1Cur_conditions _ = some y := hy); clear hz; refine Exists.intro _ (Exists.intro _ ⟨spec_l1Cur_conditions.call hy ?_, rfl, rfl, ?_⟩)) | ((with_reducible have hz : spec_l1Cur_day24 _ = some y := hy); clear hz; refine Exists.intro _ (Exists.intro _ ⟨spec_l1Cur_day24.call hy ?_, rfl, rfl, ?_⟩)) | ((with_reducible have hz : spec_l1Cur_pick _ _ = some y := hy); clear hz; refine Exists.intro _ (Exists.intro _ ⟨spec_l1Cur_pick.call hy ?_, rfl, rfl, ?_⟩)) | ((with_reducible have hz : spec_l1Cur_among _ _ = some y := hy); clear hz; refine Exists.intro _ (Exists.intro _ ⟨spec_l1Cur_among.call hy ?_, rfl, rfl, ?_⟩)))
        | ((with_reducible refine fin_mk ?_); (repeat (first | replace H := grd_k H | replace H := out_step H (by assumption))); have H := Option.some.inj H; subst H))
    | constructor
def G10 : Env := G9.add 5 [] spec_DrawInspectionPlan.S
theorem G10_ok : EnvOk Tryd.prog G10 := G9_ok.add ent_5 fun ar h r h1 ⟨a0, y, hy, e1, e2, e3, e4⟩ => by
  subst e3 e4; exact (spec_DrawInspectionPlan.spec a0 y hy).le e1 e2
attribute [local irreducible] spec_DrawInspectionPlan

noncomputable def impl_within (a0 : Int) (a1 : Int) (a2 : Int) : Option (Bool) :=
  (cond (decide (a1 ≤ a0)) ((some (decide (a0 ≤ a2)))) ((some false)))
def impl_within.res (_ : Int) (_ : Int) (_ : Int) (y : Bool) : AV := (.bl y)
def impl_within.out (_ : Int) (_ : Int) (_ : Int) (_ : Bool) : List (Option LB) := []
def impl_within.S (ar : List AV) (h : List (Option LB)) (r : AV) (h1 : List (Option LB)) : Prop := ∃ a0 a1 a2 y, impl_within a0 a1 a2 = some y ∧ leL ar [(.v (.int .i64 a0)), (.v (.int .i64 a1)), (.v (.int .i64 a2))] ∧ leH h [] ∧ r = impl_within.res a0 a1 a2 y ∧ h1 = impl_within.out a0 a1 a2 y
theorem impl_within.call {ar : List AV} {h : List (Option LB)} {a0 : Int} {a1 : Int} {a2 : Int} {y : Bool} (H : impl_within a0 a1 a2 = some y) (h0 : leLk ar [(.v (.int .i64 a0)), (.v (.int .i64 a1)), (.v (.int .i64 a2))] (leHk h [])) : impl_within.S ar h (impl_within.res a0 a1 a2 y) (impl_within.out a0 a1 a2 y) := ⟨a0, a1, a2, y, H, (args_ok h0).1, (args_ok h0).2, rfl, rfl⟩
set_option maxHeartbeats 100000000 in
set_option maxRecDepth 100000 in
theorem impl_within.spec (a0 : Int) (a1 : Int) (a2 : Int) (y : Bool) (H : impl_within a0 a1 a2 = some y) : Spec Tryd.prog 24 [(.v (.int .i64 a0)), (.v (.int .i64 a1)), (.v (.int .i64 a2))] [] (impl_within.res a0 a1 a2 y) (impl_within.out a0 a1 a2 y) := by
  refine spec_intro (G10_ok.at tok []) (ct := []) Tryd.func24 rfl (by kernel_rfl) (by kernel_rfl) rfl ?_
  repeat' first
    | ((with_reducible refine eqg ?_); exact rfl)
    | ((with_reducible refine KOb.mk ?_); kernel_rfl)
    | ((with_reducible intro h); (repeat (first | replace H := grd_k H | replace H := out_step H (by assumption))); first | replace H := cond_t h H | replace H := cond_f h H | exact absurd h (by decide) | skip)
    | ((with_reducible refine Ob.mk ?_); first | (with_reducible rfl) | (first | ((repeat (first | (with_reducible exact grd_p H) | (replace H := grd_k H) | (replace H := out_step H (by assumption)))); done) | rfl | ((repeat (first | exact grd_p H | replace H := grd_k H | replace H := out_step H (by assumption))); done) | ((repeat (first | exact grd_p H | (have hp := grd_p H; exact hp) | replace H := grd_k H | replace H := out_step H (by assumption) | (replace H := bind_some H; obtain ⟨_, _, H⟩ := H))); done) | (repeat (first | exact grd_p H | replace H := grd_k H | replace H := out_step H (by assumption)))))
    | (with_reducible exact True.intro)
    | ((conv => whnf); first
        | (with_reducible refine And.intro ?_ ?_)
        | (with_reducible exact True.intro)
        | ((with_reducible refine Ob.mk ?_); first | (with_reducible rfl) | (first | ((repeat (first | (with_reducible exact grd_p H) | (replace H := grd_k H) | (replace H := out_step H (by assumption)))); done) | rfl | ((repeat (first | exact grd_p H | replace H := grd_k H | replace H := out_step H (by assumption))); done) | ((repeat (first | exact grd_p H | (have hp := grd_p H; exact hp) | replace H := grd_k H | replace H := out_step H (by assumption) | (replace H := bind_some H; obtain ⟨_, _, H⟩ := H))); done) | (repeat (first | exact grd_p H | replace H := grd_k H | replace H := out_step H (by assumption)))))
        | ((with_reducible refine fin_mk ?_); (repeat (first | replace H := grd_k H | replace H := out_step H (by assumption))); have H := Option.some.inj H; subst H))
    | constructor
def G11 : Env := G10.add 24 [] impl_within.S
theorem G11_ok : EnvOk Tryd.prog G11 := G10_ok.add ent_24 fun ar h r h1 ⟨a0, a1, a2, y, hy, e1, e2, e3, e4⟩ => by
  subst e3 e4; exact (impl_within.spec a0 a1 a2 y hy).le e1 e2
attribute [local irreducible] impl_within

noncomputable def impl_isWord_loop1 (a0 : ByteArray) (v2 : Int) : Option (Lp (Int) ((Unit) ⊕ (Unit))) :=
  (cond (decide (v2 < (a0.size : Int))) (grd (0 ≤ v2 ∧ v2 < (a0.size : Int)) (cond (decide ((bAt a0 v2) < (97 : Int))) ((some (.out (Sum.inl ())))) (grd (0 ≤ v2 ∧ v2 < (a0.size : Int)) (cond (decide ((122 : Int) < (bAt a0 v2))) ((some (.out (Sum.inl ())))) (some (.go (w64 (v2 + (1 : Int))))))))) ((some (.out (Sum.inr ())))))
noncomputable def impl_isWord (a0 : ByteArray) : Option (Bool) :=
  ((iter (fun s => impl_isWord_loop1 a0 s) (0 : Int)).bind (Sum.elim (fun _ => (some false)) (fun _ => (cond (decide ((1 : Int) ≤ (a0.size : Int))) ((some (decide ((a0.size : Int) ≤ (10 : Int))))) ((some false))))))
def impl_isWord.res (_ : ByteArray) (y : Bool) : AV := (.bl y)
def impl_isWord.out (_ : ByteArray) (_ : Bool) : List (Option LB) := []
def impl_isWord.S (ar : List AV) (h : List (Option LB)) (r : AV) (h1 : List (Option LB)) : Prop := ∃ a0 y, impl_isWord a0 = some y ∧ leL ar [(.v (.string a0))] ∧ leH h [] ∧ r = impl_isWord.res a0 y ∧ h1 = impl_isWord.out a0 y
theorem impl_isWord.call {ar : List AV} {h : List (Option LB)} {a0 : ByteArray} {y : Bool} (H : impl_isWord a0 = some y) (h0 : leLk ar [(.v (.string a0))] (leHk h [])) : impl_isWord.S ar h (impl_isWord.res a0 y) (impl_isWord.out a0 y) := ⟨a0, y, H, (args_ok h0).1, (args_ok h0).2, rfl, rfl⟩
set_option maxHeartbeats 100000000 in
set_option maxRecDepth 100000 in
theorem impl_isWord.spec (a0 : ByteArray) (y : Bool) (H : impl_isWord a0 = some y) : Spec Tryd.prog 44 [(.v (.string a0))] [] (impl_isWord.res a0 y) (impl_isWord.out a0 y) := by
  refine spec_intro (G11_ok.at tok []) (ct := [(6, some [0, 5, 6, 14, 15, 16, 17, 24, 25, 26])]) Tryd.func44 rfl (by kernel_rfl) (by kernel_rfl) rfl ?_
  repeat' first
    | ((with_reducible refine eqg ?_); exact rfl)
    | ((with_reducible refine KOb.mk ?_); kernel_rfl)
    | ((with_reducible intro h); (repeat (first | replace H := grd_k H | replace H := out_step H (by assumption))); first | replace H := cond_t h H | replace H := cond_f h H | exact absurd h (by decide) | skip)
    | ((with_reducible refine Ob.mk ?_); first | (with_reducible rfl) | (first | ((repeat (first | (with_reducible exact grd_p H) | (replace H := grd_k H) | (replace H := out_step H (by assumption)))); done) | rfl | ((repeat (first | exact grd_p H | replace H := grd_k H | replace H := out_step H (by assumption))); done) | ((repeat (first | exact grd_p H | (have hp := grd_p H; exact hp) | replace H := grd_k H | replace H := out_step H (by assumption) | (replace H := bind_some H; obtain ⟨_, _, H⟩ := H))); done) | (repeat (first | exact grd_p H | replace H := grd_k H | replace H := out_step H (by assumption)))))
    | (with_reducible exact True.intro)
    | ((conv => whnf); first
        | (with_reducible refine And.intro ?_ ?_)
        | (with_reducible exact True.intro)
        | ((with_reducible refine Ob.mk ?_); first | (with_reducible rfl) | (first | ((repeat (first | (with_reducible exact grd_p H) | (replace H := grd_k H) | (replace H := out_step H (by assumption)))); done) | rfl | ((repeat (first | exact grd_p H | replace H := grd_k H | replace H := out_step H (by assumption))); done) | ((repeat (first | exact grd_p H | (have hp := grd_p H; exact hp) | replace H := grd_k H | replace H := out_step H (by assumption) | (replace H := bind_some H; obtain ⟨_, _, H⟩ := H))); done) | (repeat (first | exact grd_p H | replace H := grd_k H | replace H := out_step H (by assumption)))))
        | ((repeat (first | replace H := grd_k H | replace H := out_step H (by assumption))); refine loop_iter (G11_ok.at tok []) (ct := [(6, some [0, 5, 6, 14, 15, 16, 17, 24, 25, 26])]) (F := (fun s1 : Int => ⟨sl [(0, (.v (.string a0))), (5, (.v (.int .i64 (a0.size : Int)))), (6, (.v (.int .i64 s1)))], []⟩)) (step := (fun s : Int => impl_isWord_loop1 _ s)) _ H (by kernel_rfl) (sub_auto ?_) ?_; rotate_left; (intro s1 r v hr H); rotate_right)
        | ((repeat (first | replace H := grd_k H | replace H := out_step H (by assumption))); refine again_step H (by assumption) (sub_auto ?_))
        | ((with_reducible refine fin_mk ?_); (repeat (first | replace H := grd_k H | replace H := out_step H (by assumption))); have H := Option.some.inj H; subst H))
    | constructor
def G12 : Env := G11.add 44 [] impl_isWord.S
theorem G12_ok : EnvOk Tryd.prog G12 := G11_ok.add ent_44 fun ar h r h1 ⟨a0, y, hy, e1, e2, e3, e4⟩ => by
  subst e3 e4; exact (impl_isWord.spec a0 y hy).le e1 e2
attribute [local irreducible] impl_isWord

noncomputable def impl_isDate (a0 : Int) : Option (Bool) :=
  ((impl_within a0 (0 : Int) (9999 : Int)).bind fun y1 => (some y1))
def impl_isDate.res (_ : Int) (y : Bool) : AV := (.bl y)
def impl_isDate.out (_ : Int) (_ : Bool) : List (Option LB) := []
def impl_isDate.S (ar : List AV) (h : List (Option LB)) (r : AV) (h1 : List (Option LB)) : Prop := ∃ a0 y, impl_isDate a0 = some y ∧ leL ar [(.v (.int .i64 a0))] ∧ leH h [] ∧ r = impl_isDate.res a0 y ∧ h1 = impl_isDate.out a0 y
theorem impl_isDate.call {ar : List AV} {h : List (Option LB)} {a0 : Int} {y : Bool} (H : impl_isDate a0 = some y) (h0 : leLk ar [(.v (.int .i64 a0))] (leHk h [])) : impl_isDate.S ar h (impl_isDate.res a0 y) (impl_isDate.out a0 y) := ⟨a0, y, H, (args_ok h0).1, (args_ok h0).2, rfl, rfl⟩
set_option maxHeartbeats 100000000 in
set_option maxRecDepth 100000 in
theorem impl_isDate.spec (a0 : Int) (y : Bool) (H : impl_isDate a0 = some y) : Spec Tryd.prog 40 [(.v (.int .i64 a0))] [] (impl_isDate.res a0 y) (impl_isDate.out a0 y) := by
  refine spec_intro (G12_ok.at tok []) (ct := []) Tryd.func40 rfl (by kernel_rfl) (by kernel_rfl) rfl ?_
  repeat' first
    | ((with_reducible refine eqg ?_); exact rfl)
    | ((with_reducible refine KOb.mk ?_); kernel_rfl)
    | ((with_reducible intro h); (repeat (first | replace H := grd_k H | replace H := out_step H (by assumption))); first | replace H := cond_t h H | replace H := cond_f h H | exact absurd h (by decide) | skip)
    | ((with_reducible refine Ob.mk ?_); first | (with_reducible rfl) | (first | ((repeat (first | (with_reducible exact grd_p H) | (replace H := grd_k H) | (replace H := out_step H (by assumption)))); done) | rfl | ((repeat (first | exact grd_p H | replace H := grd_k H | replace H := out_step H (by assumption))); done) | ((repeat (first | exact grd_p H | (have hp := grd_p H; exact hp) | replace H := grd_k H | replace H := out_step H (by assumption) | (replace H := bind_some H; obtain ⟨_, _, H⟩ := H))); done) | (repeat (first | exact grd_p H | replace H := grd_k H | replace H := out_step H (by assumption)))))
    | (with_reducible exact True.intro)
    | ((conv => whnf); first
        | (with_reducible refine And.intro ?_ ?_)
        | (with_reducible exact True.intro)
        | ((with_reducible refine Ob.mk ?_); first | (with_reducible rfl) | (first | ((repeat (first | (with_reducible exact grd_p H) | (replace H := grd_k H) | (replace H := out_step H (by assumption)))); done) | rfl | ((repeat (first | exact grd_p H | replace H := grd_k H | replace H := out_step H (by assumption))); done) | ((repeat (first | exact grd_p H | (have hp := grd_p H; exact hp) | replace H := grd_k H | replace H := out_step H (by assumption) | (replace H := bind_some H; obtain ⟨_, _, H⟩ := H))); done) | (repeat (first | exact grd_p H | replace H := grd_k H | replace H := out_step H (by assumption)))))
        | ((with_reducible refine CallW.mk ?_); (repeat (first | replace H := grd_k H | replace H := out_step H (by assumption))); replace H := bind_some H; obtain ⟨y, hy, H⟩ := H; first | ((with_reducible have hz : impl_within _ _ _ = some y := hy); clear hz; refine Exists.intro _ (Exists.intro _ ⟨impl_within.call hy ?_, rfl, rfl, ?_⟩)))
        | ((with_reducible refine fin_mk ?_); (repeat (first | replace H := grd_k H | replace H := out_step H (by assumption))); have H := Option.some.inj H; subst H))
    | constructor
def G13 : Env := G12.add 40 [] impl_isDate.S
theorem G13_ok : EnvOk Tryd.prog G13 := G12_ok.add ent_40 fun ar h r h1 ⟨a0, y, hy, e1, e2, e3, e4⟩ => by
  subst e3 e4; exact (impl_isDate.spec a0 y hy).le e1 e2
attribute [local irreducible] impl_isDate

noncomputable def impl_IsCondition (a0 : Condition) : Option (Bool) :=
  ((impl_within a0.1 (1 : Int) (99 : Int)).bind fun y1 => (cond y1 ((impl_isWord a0.2.1).bind fun y2 => (cond y2 ((impl_within a0.2.2.1 (1 : Int) (1000 : Int)).bind fun y3 => (cond y3 ((impl_isDate a0.2.2.2.1).bind fun y4 => (cond y4 ((impl_within a0.2.2.2.2.1 (1 : Int) (5 : Int)).bind fun y5 => (some y5)) ((some false)))) ((some false)))) ((some false)))) ((some false))))
def impl_IsCondition.res (_ : Condition) (y : Bool) : AV := (.bl y)
def impl_IsCondition.out (_ : Condition) (_ : Bool) : List (Option LB) := []
def impl_IsCondition.S (ar : List AV) (h : List (Option LB)) (r : AV) (h1 : List (Option LB)) : Prop := ∃ a0 y, impl_IsCondition a0 = some y ∧ leL ar [(.agg [(.v (.int .i64 a0.1)), (.v (.string a0.2.1)), (.v (.int .i64 a0.2.2.1)), (.v (.int .i64 a0.2.2.2.1)), (.v (.int .i64 a0.2.2.2.2.1))])] ∧ leH h [] ∧ r = impl_IsCondition.res a0 y ∧ h1 = impl_IsCondition.out a0 y
theorem impl_IsCondition.call {ar : List AV} {h : List (Option LB)} {a0 : Condition} {y : Bool} (H : impl_IsCondition a0 = some y) (h0 : leLk ar [(.agg [(.v (.int .i64 a0.1)), (.v (.string a0.2.1)), (.v (.int .i64 a0.2.2.1)), (.v (.int .i64 a0.2.2.2.1)), (.v (.int .i64 a0.2.2.2.2.1))])] (leHk h [])) : impl_IsCondition.S ar h (impl_IsCondition.res a0 y) (impl_IsCondition.out a0 y) := ⟨a0, y, H, (args_ok h0).1, (args_ok h0).2, rfl, rfl⟩
set_option maxHeartbeats 100000000 in
set_option maxRecDepth 100000 in
theorem impl_IsCondition.spec (a0 : Condition) (y : Bool) (H : impl_IsCondition a0 = some y) : Spec Tryd.prog 17 [(.agg [(.v (.int .i64 a0.1)), (.v (.string a0.2.1)), (.v (.int .i64 a0.2.2.1)), (.v (.int .i64 a0.2.2.2.1)), (.v (.int .i64 a0.2.2.2.2.1))])] [] (impl_IsCondition.res a0 y) (impl_IsCondition.out a0 y) := by
  refine spec_intro (G13_ok.at tok []) (ct := []) Tryd.func17 rfl (by kernel_rfl) (by kernel_rfl) rfl ?_
  repeat' first
    | ((with_reducible refine eqg ?_); exact rfl)
    | ((with_reducible refine KOb.mk ?_); kernel_rfl)
    | ((with_reducible intro h); (repeat (first | replace H := grd_k H | replace H := out_step H (by assumption))); first | replace H := cond_t h H | replace H := cond_f h H | exact absurd h (by decide) | skip)
    | ((with_reducible refine Ob.mk ?_); first | (with_reducible rfl) | (first | ((repeat (first | (with_reducible exact grd_p H) | (replace H := grd_k H) | (replace H := out_step H (by assumption)))); done) | rfl | ((repeat (first | exact grd_p H | replace H := grd_k H | replace H := out_step H (by assumption))); done) | ((repeat (first | exact grd_p H | (have hp := grd_p H; exact hp) | replace H := grd_k H | replace H := out_step H (by assumption) | (replace H := bind_some H; obtain ⟨_, _, H⟩ := H))); done) | (repeat (first | exact grd_p H | replace H := grd_k H | replace H := out_step H (by assumption)))))
    | (with_reducible exact True.intro)
    | ((conv => whnf); first
        | (with_reducible refine And.intro ?_ ?_)
        | (with_reducible exact True.intro)
        | ((with_reducible refine Ob.mk ?_); first | (with_reducible rfl) | (first | ((repeat (first | (with_reducible exact grd_p H) | (replace H := grd_k H) | (replace H := out_step H (by assumption)))); done) | rfl | ((repeat (first | exact grd_p H | replace H := grd_k H | replace H := out_step H (by assumption))); done) | ((repeat (first | exact grd_p H | (have hp := grd_p H; exact hp) | replace H := grd_k H | replace H := out_step H (by assumption) | (replace H := bind_some H; obtain ⟨_, _, H⟩ := H))); done) | (repeat (first | exact grd_p H | replace H := grd_k H | replace H := out_step H (by assumption)))))
        | ((with_reducible refine CallW.mk ?_); (repeat (first | replace H := grd_k H | replace H := out_step H (by assumption))); replace H := bind_some H; obtain ⟨y, hy, H⟩ := H; first | ((with_reducible have hz : impl_within _ _ _ = some y := hy); clear hz; refine Exists.intro _ (Exists.intro _ ⟨impl_within.call hy ?_, rfl, rfl, ?_⟩)) | ((with_reducible have hz : impl_isWord _ = some y := hy); clear hz; refine Exists.intro _ (Exists.intro _ ⟨impl_isWord.call hy ?_, rfl, rfl, ?_⟩)) | ((with_reducible have hz : impl_isDate _ = some y := hy); clear hz; refine Exists.intro _ (Exists.intro _ ⟨impl_isDate.call hy ?_, rfl, rfl, ?_⟩)))
        | ((with_reducible refine fin_mk ?_); (repeat (first | replace H := grd_k H | replace H := out_step H (by assumption))); have H := Option.some.inj H; subst H))
    | constructor
def G14 : Env := G13.add 17 [] impl_IsCondition.S
theorem G14_ok : EnvOk Tryd.prog G14 := G13_ok.add ent_17 fun ar h r h1 ⟨a0, y, hy, e1, e2, e3, e4⟩ => by
  subst e3 e4; exact (impl_IsCondition.spec a0 y hy).le e1 e2
attribute [local irreducible] impl_IsCondition

end Go.Proofs.YtpmmaohaahbphaaDoor
