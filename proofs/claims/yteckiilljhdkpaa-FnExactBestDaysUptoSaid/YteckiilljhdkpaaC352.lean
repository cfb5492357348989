/-
  Contracts, printed by a program.
-/
import Derived.Test.YteckiilljhdkpaaC351
namespace Go.Proofs.Yteckiilljhdkpaa
open Go.RowKit
attribute [local irreducible] Ob loopwp Sub Spec Fin Again CallW CutC KOb iter joinx outm

attribute [local irreducible] laws_szDayRow laws_szDayRowS laws_toDayRow laws_toDayRowS spec_l1In spec_l2Word spec_l26One spec_l26Good

noncomputable def spec_BestDays_loop2 (a0 : (List DayRow)) (v20 : Int) (v21 : (List DayRow)) (v23 : Int) : Option (Lp (Int) ((Int × Int × Int × Int × Bool) ⊕ (Int))) :=
  (cond (decide ((0 : Int) < v23)) (grd (0 ≤ (w64 (v23 - (1 : Int))) ∧ (w64 (v23 - (1 : Int))) < (v21.length : Int)) (grd (0 ≤ v20 ∧ v20 < (a0.length : Int)) (cond (decide (((v21.getD ((w64 (v23 - (1 : Int))).toNat) d_DayRow).2.1) < ((a0.getD v20.toNat d_DayRow).2.1))) (some (.go (w64 (v23 - (1 : Int))))) ((some (.out (Sum.inl (v23, v23, (w64 (v23 - (1 : Int))), ((v21.getD ((w64 (v23 - (1 : Int))).toNat) d_DayRow).2.1), (decide (((v21.getD ((w64 (v23 - (1 : Int))).toNat) d_DayRow).2.1) < ((a0.getD v20.toNat d_DayRow).2.1))))))))))) ((some (.out (Sum.inr v23)))))
noncomputable def spec_BestDays_loop1 (a0 : (List DayRow)) (v20 : Int) (v21 : (List DayRow)) : Option (Lp (Int × (List DayRow)) (((List DayRow)))) :=
  (cond (decide (v20 < (a0.length : Int))) ((iter (fun s => spec_BestDays_loop2 a0 v20 v21 s) (v21.length : Int)).bind (Sum.elim (fun r25 => (grd (0 ≤ v20 ∧ v20 < (a0.length : Int)) (cond (decide ((0 : Int) < ((a0.getD v20.toNat d_DayRow).2.2.2.1))) (grd (0 ≤ (0 : Int) ∧ (0 : Int) ≤ r25.1 ∧ r25.1 ≤ (v21.length : Int)) (grd (([] : List DayRow).length + ((v21.drop ((0 : Int).toNat)).take ((r25.1 - (0 : Int)).toNat)).length ≤ 140737488355328 / 56 ∧ ([] : List DayRow).length + ((v21.drop ((0 : Int).toNat)).take ((r25.1 - (0 : Int)).toNat)).length ≤ 140737488355328) (grd (0 ≤ v20 ∧ v20 < (a0.length : Int)) (grd ((([] : List DayRow) ++ ((v21.drop ((0 : Int).toNat)).take ((r25.1 - (0 : Int)).toNat))).length + [((a0.getD v20.toNat d_DayRow).1, (a0.getD v20.toNat d_DayRow).2.1, (a0.getD v20.toNat d_DayRow).2.2.1, (a0.getD v20.toNat d_DayRow).2.2.2.1, (a0.getD v20.toNat d_DayRow).2.2.2.2.1, (a0.getD v20.toNat d_DayRow).2.2.2.2.2.1, ())].length ≤ 140737488355328 / 56 ∧ (([] : List DayRow) ++ ((v21.drop ((0 : Int).toNat)).take ((r25.1 - (0 : Int)).toNat))).length + [((a0.getD v20.toNat d_DayRow).1, (a0.getD v20.toNat d_DayRow).2.1, (a0.getD v20.toNat d_DayRow).2.2.1, (a0.getD v20.toNat d_DayRow).2.2.2.1, (a0.getD v20.toNat d_DayRow).2.2.2.2.1, (a0.getD v20.toNat d_DayRow).2.2.2.2.2.1, ())].length ≤ 140737488355328) (grd (0 ≤ r25.1 ∧ r25.1 ≤ (v21.length : Int) ∧ (v21.length : Int) ≤ (v21.length : Int)) (grd (((([] : List DayRow) ++ ((v21.drop ((0 : Int).toNat)).take ((r25.1 - (0 : Int)).toNat))) ++ [((a0.getD v20.toNat d_DayRow).1, (a0.getD v20.toNat d_DayRow).2.1, (a0.getD v20.toNat d_DayRow).2.2.1, (a0.getD v20.toNat d_DayRow).2.2.2.1, (a0.getD v20.toNat d_DayRow).2.2.2.2.1, (a0.getD v20.toNat d_DayRow).2.2.2.2.2.1, ())]).length + ((v21.drop r25.1.toNat).take (((v21.length : Int) - r25.1).toNat)).length ≤ 140737488355328 / 56 ∧ ((([] : List DayRow) ++ ((v21.drop ((0 : Int).toNat)).take ((r25.1 - (0 : Int)).toNat))) ++ [((a0.getD v20.toNat d_DayRow).1, (a0.getD v20.toNat d_DayRow).2.1, (a0.getD v20.toNat d_DayRow).2.2.1, (a0.getD v20.toNat d_DayRow).2.2.2.1, (a0.getD v20.toNat d_DayRow).2.2.2.2.1, (a0.getD v20.toNat d_DayRow).2.2.2.2.2.1, ())]).length + ((v21.drop r25.1.toNat).take (((v21.length : Int) - r25.1).toNat)).length ≤ 140737488355328) (some (.go ((w64 (v20 + (1 : Int))), (((([] : List DayRow) ++ ((v21.drop ((0 : Int).toNat)).take ((r25.1 - (0 : Int)).toNat))) ++ [((a0.getD v20.toNat d_DayRow).1, (a0.getD v20.toNat d_DayRow).2.1, (a0.getD v20.toNat d_DayRow).2.2.1, (a0.getD v20.toNat d_DayRow).2.2.2.1, (a0.getD v20.toNat d_DayRow).2.2.2.2.1, (a0.getD v20.toNat d_DayRow).2.2.2.2.2.1, ())]) ++ ((v21.drop r25.1.toNat).take (((v21.length : Int) - r25.1).toNat)))))))))))) (some (.go ((w64 (v20 + (1 : Int))), v21)))))) (fun r26 => (grd (0 ≤ v20 ∧ v20 < (a0.length : Int)) (cond (decide ((0 : Int) < ((a0.getD v20.toNat d_DayRow).2.2.2.1))) (grd (0 ≤ (0 : Int) ∧ (0 : Int) ≤ r26 ∧ r26 ≤ (v21.length : Int)) (grd (([] : List DayRow).length + ((v21.drop ((0 : Int).toNat)).take ((r26 - (0 : Int)).toNat)).length ≤ 140737488355328 / 56 ∧ ([] : List DayRow).length + ((v21.drop ((0 : Int).toNat)).take ((r26 - (0 : Int)).toNat)).length ≤ 140737488355328) (grd (0 ≤ v20 ∧ v20 < (a0.length : Int)) (grd ((([] : List DayRow) ++ ((v21.drop ((0 : Int).toNat)).take ((r26 - (0 : Int)).toNat))).length + [((a0.getD v20.toNat d_DayRow).1, (a0.getD v20.toNat d_DayRow).2.1, (a0.getD v20.toNat d_DayRow).2.2.1, (a0.getD v20.toNat d_DayRow).2.2.2.1, (a0.getD v20.toNat d_DayRow).2.2.2.2.1, (a0.getD v20.toNat d_DayRow).2.2.2.2.2.1, ())].length ≤ 140737488355328 / 56 ∧ (([] : List DayRow) ++ ((v21.drop ((0 : Int).toNat)).take ((r26 - (0 : Int)).toNat))).length + [((a0.getD v20.toNat d_DayRow).1, (a0.getD v20.toNat d_DayRow).2.1, (a0.getD v20.toNat d_DayRow).2.2.1, (a0.getD v20.toNat d_DayRow).2.2.2.1, (a0.getD v20.toNat d_DayRow).2.2.2.2.1, (a0.getD v20.toNat d_DayRow).2.2.2.2.2.1, ())].length ≤ 140737488355328) (grd (0 ≤ r26 ∧ r26 ≤ (v21.length : Int) ∧ (v21.length : Int) ≤ (v21.length : Int)) (grd (((([] : List DayRow) ++ ((v21.drop ((0 : Int).toNat)).take ((r26 - (0 : Int)).toNat))) ++ [((a0.getD v20.toNat d_DayRow).1, (a0.getD v20.toNat d_DayRow).2.1, (a0.getD v20.toNat d_DayRow).2.2.1, (a0.getD v20.toNat d_DayRow).2.2.2.1, (a0.getD v20.toNat d_DayRow).2.2.2.2.1, (a0.getD v20.toNat d_DayRow).2.2.2.2.2.1, ())]).length + ((v21.drop r26.toNat).take (((v21.length : Int) - r26).toNat)).length ≤ 140737488355328 / 56 ∧ ((([] : List DayRow) ++ ((v21.drop ((0 : Int).toNat)).take ((r26 - (0 : Int)).toNat))) ++ [((a0.getD v20.toNat d_DayRow).1, (a0.getD v20.toNat d_DayRow).2.1, (a0.getD v20.toNat d_DayRow).2.2.1, (a0.getD v20.toNat d_DayRow).2.2.2.1, (a0.getD v20.toNat d_DayRow).2.2.2.2.1, (a0.getD v20.toNat d_DayRow).2.2.2.2.2.1, ())]).length + ((v21.drop r26.toNat).take (((v21.length : Int) - r26).toNat)).length ≤ 140737488355328) (some (.go ((w64 (v20 + (1 : Int))), (((([] : List DayRow) ++ ((v21.drop ((0 : Int).toNat)).take ((r26 - (0 : Int)).toNat))) ++ [((a0.getD v20.toNat d_DayRow).1, (a0.getD v20.toNat d_DayRow).2.1, (a0.getD v20.toNat d_DayRow).2.2.1, (a0.getD v20.toNat d_DayRow).2.2.2.1, (a0.getD v20.toNat d_DayRow).2.2.2.2.1, (a0.getD v20.toNat d_DayRow).2.2.2.2.2.1, ())]) ++ ((v21.drop r26.toNat).take (((v21.length : Int) - r26).toNat)))))))))))) (some (.go ((w64 (v20 + (1 : Int))), v21)))))))) ((some (.out v21))))
noncomputable def spec_BestDays_loop3 (a1 : Int) (v33 : Int) (v34 : (List Int)) (v35 : (List DayRow)) : Option (Lp (Int × (List Int) × (List DayRow)) (((List Int)))) :=
  (cond (decide (v33 < (v35.length : Int))) (cond (decide (v33 < a1)) (grd (0 ≤ v33 ∧ v33 < (v35.length : Int)) (grd (v34.length + [(v35.getD v33.toNat d_DayRow).1].length ≤ 140737488355328 / 8 ∧ v34.length + [(v35.getD v33.toNat d_DayRow).1].length ≤ 140737488355328) (some (.go ((w64 (v33 + (1 : Int))), (v34 ++ [(v35.getD v33.toNat d_DayRow).1]), v35))))) ((some (.out v34)))) ((some (.out v34))))
noncomputable def spec_BestDays (a0 : (List DayRow)) (a1 : Int) : Option ((List Int) × Bool) :=
  ((spec_l26Good a0).bind fun y1 => (cond (!y1) ((some (([] : List Int), false))) ((spec_l1In a1 (0 : Int) (14 : Int)).bind fun y2 => (cond (!y2) ((some (([] : List Int), false))) ((iter (fun s => spec_BestDays_loop1 a0 s.1 s.2) ((0 : Int), ([] : List DayRow))).bind (fun r27 => ((iter (fun s => spec_BestDays_loop3 a1 s.1 s.2.1 s.2.2) ((0 : Int), ([] : List Int), r27)).bind (fun r36 => (some (r36, true))))))))))
def spec_BestDays.res (_ : (List DayRow)) (_ : Int) (y : (List Int) × Bool) : AV := (.tup [(.own 0), (.bl y.2)])
def spec_BestDays.out (_ : (List DayRow)) (_ : Int) (y : (List Int) × Bool) : List (Option LB) := [some (.arr 3 (.int .i64) y.1)]
def spec_BestDays.S (ar : List AV) (h : List (Option LB)) (r : AV) (h1 : List (Option LB)) : Prop := ∃ a0 a1 y, spec_BestDays a0 a1 = some y ∧ leL ar [(.tree ty_DayRow a0), (.v (.int .i64 a1))] ∧ leH h [] ∧ r = spec_BestDays.res a0 a1 y ∧ h1 = spec_BestDays.out a0 a1 y
theorem spec_BestDays.call {ar : List AV} {h : List (Option LB)} {a0 : (List DayRow)} {a1 : Int} {y : (List Int) × Bool} (H : spec_BestDays a0 a1 = some y) (h0 : leLk ar [(.tree ty_DayRow a0), (.v (.int .i64 a1))] (leHk h [])) : spec_BestDays.S ar h (spec_BestDays.res a0 a1 y) (spec_BestDays.out a0 a1 y) := ⟨a0, a1, y, H, (args_ok h0).1, (args_ok h0).2, rfl, rfl⟩
set_option maxHeartbeats 100000000 in
set_option maxRecDepth 100000 in
theorem spec_BestDays.spec (a0 : (List DayRow)) (a1 : Int) (y : (List Int) × Bool) (H : spec_BestDays a0 a1 = some y) : Spec Try.prog 21 [(.tree ty_DayRow a0), (.v (.int .i64 a1))] [] (spec_BestDays.res a0 a1 y) (spec_BestDays.out a0 a1 y) := by
  refine spec_intro (G8_ok.at tok []) (ct := [(4, some [0, 1, 6, 33, 34, 35, 36, 37, 38, 39, 40, 41, 42, 43, 44, 74, 75, 76]), (7, some [0, 1, 6, 7, 8, 33, 34, 35, 36, 37, 38, 39, 40, 41, 42, 43, 44, 74, 75, 76]), (10, some [0, 1, 6, 7, 8, 9, 33, 34, 35, 36, 37, 38, 39, 40, 41, 42, 43, 44, 74, 75, 76]), (12, some [0, 1, 6, 7, 8, 9, 33, 34, 35, 36, 37, 38, 39, 40, 41, 42, 43, 44, 53, 74, 75, 76]), (15, some [1, 6, 7, 10, 74, 75, 76])]) Try.func21 rfl (by kernel_rfl) (by kernel_rfl) rfl ?_
  repeat' first
    | ((with_reducible refine eqg ?_); exact rfl)
    | ((with_reducible refine KOb.mk ?_); kernel_rfl)
    | ((with_reducible intro h); (repeat (first | replace H := grd_k H | replace H := out_step H (by assumption))); first | replace H := cond_t h H | replace H := cond_f h H | exact absurd h (by decide) | skip)
    | ((with_reducible refine Ob.mk ?_); first | (with_reducible rfl) | (first | ((repeat (first | (with_reducible exact grd_p H) | (replace H := grd_k H) | (replace H := out_step H (by assumption)))); done) | rfl | ((repeat (first | exact grd_p H | replace H := grd_k H | replace H := out_step H (by assumption))); done) | ((repeat (first | exact grd_p H | (have hp := grd_p H; exact hp) | replace H := grd_k H | replace H := out_step H (by assumption) | (replace H := bind_some H; obtain ⟨_, _, H⟩ := H))); done) | (repeat (first | exact grd_p H | replace H := grd_k H | replace H := out_step H (by assumption)))))
    | (with_reducible exact True.intro)
    | constructor
    | ((conv => whnf); first
        | ((with_reducible refine Ob.mk ?_); first | (with_reducible rfl) | (first | ((repeat (first | (with_reducible exact grd_p H) | (replace H := grd_k H) | (replace H := out_step H (by assumption)))); done) | rfl | ((repeat (first | exact grd_p H | replace H := grd_k H | replace H := out_step H (by assumption))); done) | ((repeat (first | exact grd_p H | (have hp := grd_p H; exact hp) | replace H := grd_k H | replace H := out_step H (by assumption) | (replace H := bind_some H; obtain ⟨_, _, H⟩ := H))); done) | (repeat (first | exact grd_p H | replace H := grd_k H | replace H := out_step H (by assumption)))))
        | ((with_reducible refine CallW.mk ?_); (repeat (first | replace H := grd_k H | replace H := out_step H (by assumption))); replace H := bind_some H; obtain ⟨y, hy, H⟩ := H; first | ((with_reducible have hz : spec_l26Good _ = some y := hy); clear hz; refine Exists.intro _ (Exists.intro _ ⟨spec_l26Good.call hy ?_, rfl, rfl, ?_⟩)) | ((with_reducible have hz : spec_l1In _ _ _ = some y := hy); clear hz; refine Exists.intro _ (Exists.intro _ ⟨spec_l1In.call hy ?_, rfl, rfl, ?_⟩)))
        | ((repeat (first | replace H := grd_k H | replace H := out_step H (by assumption))); refine loop_iter (G8_ok.at tok []) (ct := [(4, some [0, 1, 6, 33, 34, 35, 36, 37, 38, 39, 40, 41, 42, 43, 44, 74, 75, 76]), (7, some [0, 1, 6, 7, 8, 33, 34, 35, 36, 37, 38, 39, 40, 41, 42, 43, 44, 74, 75, 76]), (10, some [0, 1, 6, 7, 8, 9, 33, 34, 35, 36, 37, 38, 39, 40, 41, 42, 43, 44, 74, 75, 76]), (12, some [0, 1, 6, 7, 8, 9, 33, 34, 35, 36, 37, 38, 39, 40, 41, 42, 43, 44, 53, 74, 75, 76]), (15, some [1, 6, 7, 10, 74, 75, 76])]) (F := (fun s1 : Int × (List DayRow) => ⟨sl [(0, (.tree ty_DayRow a0)), (1, (.v (.int .i64 a1))), (6, (.own 0)), (7, (.own 1)), (8, (.v (.int .i64 s1.1)))], [some (.arr 3 (.int .i64) ([] : List Int)), some (.arr 57 ty_DayRow s1.2)]⟩)) (step := (fun s : Int × (List DayRow) => spec_BestDays_loop1 _ s.1 s.2)) _ H (by kernel_rfl) (sub_auto ?_) ?_; rotate_left; (intro s1 r v hr H); rotate_right)
        | ((repeat (first | replace H := grd_k H | replace H := out_step H (by assumption))); refine loop_iter (G8_ok.at tok []) (ct := [(4, some [0, 1, 6, 33, 34, 35, 36, 37, 38, 39, 40, 41, 42, 43, 44, 74, 75, 76]), (7, some [0, 1, 6, 7, 8, 33, 34, 35, 36, 37, 38, 39, 40, 41, 42, 43, 44, 74, 75, 76]), (10, some [0, 1, 6, 7, 8, 9, 33, 34, 35, 36, 37, 38, 39, 40, 41, 42, 43, 44, 74, 75, 76]), (12, some [0, 1, 6, 7, 8, 9, 33, 34, 35, 36, 37, 38, 39, 40, 41, 42, 43, 44, 53, 74, 75, 76]), (15, some [1, 6, 7, 10, 74, 75, 76])]) (F := (fun s2 : Int => ⟨sl [(0, (.tree ty_DayRow a0)), (1, (.v (.int .i64 a1))), (6, (.own 0)), (7, (.own 1)), (8, (.v (.int .i64 s1.1))), (9, (.v (.int .i64 s2)))], [some (.arr 3 (.int .i64) ([] : List Int)), some (.arr 57 ty_DayRow s1.2)]⟩)) (step := (fun s : Int => spec_BestDays_loop2 _ _ _ s)) _ H (by kernel_rfl) (sub_auto ?_) ?_; rotate_left; (intro s2 r v hr H); rotate_right)
        | ((repeat (first | replace H := grd_k H | replace H := out_step H (by assumption))); refine loop_iter (G8_ok.at tok []) (ct := [(4, some [0, 1, 6, 33, 34, 35, 36, 37, 38, 39, 40, 41, 42, 43, 44, 74, 75, 76]), (7, some [0, 1, 6, 7, 8, 33, 34, 35, 36, 37, 38, 39, 40, 41, 42, 43, 44, 74, 75, 76]), (10, some [0, 1, 6, 7, 8, 9, 33, 34, 35, 36, 37, 38, 39, 40, 41, 42, 43, 44, 74, 75, 76]), (12, some [0, 1, 6, 7, 8, 9, 33, 34, 35, 36, 37, 38, 39, 40, 41, 42, 43, 44, 53, 74, 75, 76]), (15, some [1, 6, 7, 10, 74, 75, 76])]) (F := (fun s3 : Int × (List Int) × (List DayRow) => ⟨sl [(1, (.v (.int .i64 a1))), (6, (.own 0)), (7, (.own 1)), (10, (.v (.int .i64 s3.1)))], [some (.arr 3 (.int .i64) s3.2.1), some (.arr 57 ty_DayRow s3.2.2)]⟩)) (step := (fun s : Int × (List Int) × (List DayRow) => spec_BestDays_loop3 _ s.1 s.2.1 s.2.2)) _ H (by kernel_rfl) (sub_auto ?_) ?_; rotate_left; (intro s3 r v hr H); rotate_right)
        | ((repeat (first | replace H := grd_k H | replace H := out_step H (by assumption))); refine again_step H (by assumption) (sub_auto ?_))
        | ((with_reducible refine fin_mk ?_); (repeat (first | replace H := grd_k H | replace H := out_step H (by assumption))); have H := Option.some.inj H; subst H))
def G9 : Env := G8.add 21 [] spec_BestDays.S
theorem G9_ok : EnvOk Try.prog G9 := G8_ok.add ent_21 fun ar h r h1 ⟨a0, a1, y, hy, e1, e2, e3, e4⟩ => by
  subst e3 e4; exact (spec_BestDays.spec a0 a1 y hy).le e1 e2
attribute [local irreducible] spec_BestDays

noncomputable def impl_within (a0 : Int) (a1 : Int) (a2 : Int) : Option (Bool) :=
  (cond (decide (a1 ≤ a0)) ((some (decide (a0 ≤ a2)))) ((some false)))
def impl_within.res (_ : Int) (_ : Int) (_ : Int) (y : Bool) : AV := (.bl y)
def impl_within.out (_ : Int) (_ : Int) (_ : Int) (_ : Bool) : List (Option LB) := []
def impl_within.S (ar : List AV) (h : List (Option LB)) (r : AV) (h1 : List (Option LB)) : Prop := ∃ a0 a1 a2 y, impl_within a0 a1 a2 = some y ∧ leL ar [(.v (.int .i64 a0)), (.v (.int .i64 a1)), (.v (.int .i64 a2))] ∧ leH h [] ∧ r = impl_within.res a0 a1 a2 y ∧ h1 = impl_within.out a0 a1 a2 y
theorem impl_within.call {ar : List AV} {h : List (Option LB)} {a0 : Int} {a1 : Int} {a2 : Int} {y : Bool} (H : impl_within a0 a1 a2 = some y) (h0 : leLk ar [(.v (.int .i64 a0)), (.v (.int .i64 a1)), (.v (.int .i64 a2))] (leHk h [])) : impl_within.S ar h (impl_within.res a0 a1 a2 y) (impl_within.out a0 a1 a2 y) := ⟨a0, a1, a2, y, H, (args_ok h0).1, (args_ok h0).2, rfl, rfl⟩
set_option maxHeartbeats 100000000 in
set_option maxRecDepth 100000 in
theorem impl_within.spec (a0 : Int) (a1 : Int) (a2 : Int) (y : Bool) (H : impl_within a0 a1 a2 = some y) : Spec Try.prog 41 [(.v (.int .i64 a0)), (.v (.int .i64 a1)), (.v (.int .i64 a2))] [] (impl_within.res a0 a1 a2 y) (impl_within.out a0 a1 a2 y) := by
  refine spec_intro (G9_ok.at tok []) (ct := []) Try.func41 rfl (by kernel_rfl) (by kernel_rfl) rfl ?_
  repeat' first
    | ((with_reducible refine eqg ?_); exact rfl)
    | ((with_reducible refine KOb.mk ?_); kernel_rfl)
    | ((with_reducible intro h); (repeat (first | replace H := grd_k H | replace H := out_step H (by assumption))); first | replace H := cond_t h H | replace H := cond_f h H | exact absurd h (by decide) | skip)
    | ((with_reducible refine Ob.mk ?_); first | (with_reducible rfl) | (first | ((repeat (first | (with_reducible exact grd_p H) | (replace H := grd_k H) | (replace H := out_step H (by assumption)))); done) | rfl | ((repeat (first | exact grd_p H | replace H := grd_k H | replace H := out_step H (by assumption))); done) | ((repeat (first | exact grd_p H | (have hp := grd_p H; exact hp) | replace H := grd_k H | replace H := out_step H (by assumption) | (replace H := bind_some H; obtain ⟨_, _, H⟩ := H))); done) | (repeat (first | exact grd_p H | replace H := grd_k H | replace H := out_step H (by assumption)))))
    | (with_reducible exact True.intro)
    | constructor
    | ((conv => whnf); first
        | ((with_reducible refine Ob.mk ?_); first | (with_reducible rfl) | (first | ((repeat (first | (with_reducible exact grd_p H) | (replace H := grd_k H) | (replace H := out_step H (by assumption)))); done) | rfl | ((repeat (first | exact grd_p H | replace H := grd_k H | replace H := out_step H (by assumption))); done) | ((repeat (first | exact grd_p H | (have hp := grd_p H; exact hp) | replace H := grd_k H | replace H := out_step H (by assumption) | (replace H := bind_some H; obtain ⟨_, _, H⟩ := H))); done) | (repeat (first | exact grd_p H | replace H := grd_k H | replace H := out_step H (by assumption)))))
        | ((with_reducible refine fin_mk ?_); (repeat (first | replace H := grd_k H | replace H := out_step H (by assumption))); have H := Option.some.inj H; subst H))
def G10 : Env := G9.add 41 [] impl_within.S
theorem G10_ok : EnvOk Try.prog G10 := G9_ok.add ent_41 fun ar h r h1 ⟨a0, a1, a2, y, hy, e1, e2, e3, e4⟩ => by
  subst e3 e4; exact (impl_within.spec a0 a1 a2 y hy).le e1 e2
attribute [local irreducible] impl_within

noncomputable def impl_isDay (a0 : Int) : Option (Bool) :=
  ((impl_within a0 (0 : Int) (999 : Int)).bind fun y1 => (some y1))
def impl_isDay.res (_ : Int) (y : Bool) : AV := (.bl y)
def impl_isDay.out (_ : Int) (_ : Bool) : List (Option LB) := []
def impl_isDay.S (ar : List AV) (h : List (Option LB)) (r : AV) (h1 : List (Option LB)) : Prop := ∃ a0 y, impl_isDay a0 = some y ∧ leL ar [(.v (.int .i64 a0))] ∧ leH h [] ∧ r = impl_isDay.res a0 y ∧ h1 = impl_isDay.out a0 y
theorem impl_isDay.call {ar : List AV} {h : List (Option LB)} {a0 : Int} {y : Bool} (H : impl_isDay a0 = some y) (h0 : leLk ar [(.v (.int .i64 a0))] (leHk h [])) : impl_isDay.S ar h (impl_isDay.res a0 y) (impl_isDay.out a0 y) := ⟨a0, y, H, (args_ok h0).1, (args_ok h0).2, rfl, rfl⟩
set_option maxHeartbeats 100000000 in
set_option maxRecDepth 100000 in
theorem impl_isDay.spec (a0 : Int) (y : Bool) (H : impl_isDay a0 = some y) : Spec Try.prog 59 [(.v (.int .i64 a0))] [] (impl_isDay.res a0 y) (impl_isDay.out a0 y) := by
  refine spec_intro (G10_ok.at tok []) (ct := []) Try.func59 rfl (by kernel_rfl) (by kernel_rfl) rfl ?_
  repeat' first
    | ((with_reducible refine eqg ?_); exact rfl)
    | ((with_reducible refine KOb.mk ?_); kernel_rfl)
    | ((with_reducible intro h); (repeat (first | replace H := grd_k H | replace H := out_step H (by assumption))); first | replace H := cond_t h H | replace H := cond_f h H | exact absurd h (by decide) | skip)
    | ((with_reducible refine Ob.mk ?_); first | (with_reducible rfl) | (first | ((repeat (first | (with_reducible exact grd_p H) | (replace H := grd_k H) | (replace H := out_step H (by assumption)))); done) | rfl | ((repeat (first | exact grd_p H | replace H := grd_k H | replace H := out_step H (by assumption))); done) | ((repeat (first | exact grd_p H | (have hp := grd_p H; exact hp) | replace H := grd_k H | replace H := out_step H (by assumption) | (replace H := bind_some H; obtain ⟨_, _, H⟩ := H))); done) | (repeat (first | exact grd_p H | replace H := grd_k H | replace H := out_step H (by assumption)))))
    | (with_reducible exact True.intro)
    | constructor
    | ((conv => whnf); first
        | ((with_reducible refine Ob.mk ?_); first | (with_reducible rfl) | (first | ((repeat (first | (with_reducible exact grd_p H) | (replace H := grd_k H) | (replace H := out_step H (by assumption)))); done) | rfl | ((repeat (first | exact grd_p H | replace H := grd_k H | replace H := out_step H (by assumption))); done) | ((repeat (first | exact grd_p H | (have hp := grd_p H; exact hp) | replace H := grd_k H | replace H := out_step H (by assumption) | (replace H := bind_some H; obtain ⟨_, _, H⟩ := H))); done) | (repeat (first | exact grd_p H | replace H := grd_k H | replace H := out_step H (by assumption)))))
        | ((with_reducible refine CallW.mk ?_); (repeat (first | replace H := grd_k H | replace H := out_step H (by assumption))); replace H := bind_some H; obtain ⟨y, hy, H⟩ := H; first | ((with_reducible have hz : impl_within _ _ _ = some y := hy); clear hz; refine Exists.intro _ (Exists.intro _ ⟨impl_within.call hy ?_, rfl, rfl, ?_⟩)))
        | ((with_reducible refine fin_mk ?_); (repeat (first | replace H := grd_k H | replace H := out_step H (by assumption))); have H := Option.some.inj H; subst H))
def G11 : Env := G10.add 59 [] impl_isDay.S
theorem G11_ok : EnvOk Try.prog G11 := G10_ok.add ent_59 fun ar h r h1 ⟨a0, y, hy, e1, e2, e3, e4⟩ => by
  subst e3 e4; exact (impl_isDay.spec a0 y hy).le e1 e2
attribute [local irreducible] impl_isDay

noncomputable def impl_isWord_loop1 (a0 : ByteArray) (v2 : Int) : Option (Lp (Int) ((Unit) ⊕ (Unit))) :=
  (cond (decide (v2 < (a0.size : Int))) (grd (0 ≤ v2 ∧ v2 < (a0.size : Int)) (cond (decide ((bAt a0 v2) < (97 : Int))) ((some (.out (Sum.inl ())))) (grd (0 ≤ v2 ∧ v2 < (a0.size : Int)) (cond (decide ((122 : Int) < (bAt a0 v2))) ((some (.out (Sum.inl ())))) (some (.go (w64 (v2 + (1 : Int))))))))) ((some (.out (Sum.inr ())))))
noncomputable def impl_isWord (a0 : ByteArray) : Option (Bool) :=
  ((iter (fun s => impl_isWord_loop1 a0 s) (0 : Int)).bind (Sum.elim (fun _ => (some false)) (fun _ => (cond (decide ((1 : Int) ≤ (a0.size : Int))) ((some (decide ((a0.size : Int) ≤ (10 : Int))))) ((some false))))))
def impl_isWord.res (_ : ByteArray) (y : Bool) : AV := (.bl y)
def impl_isWord.out (_ : ByteArray) (_ : Bool) : List (Option LB) := []
def impl_isWord.S (ar : List AV) (h : List (Option LB)) (r : AV) (h1 : List (Option LB)) : Prop := ∃ a0 y, impl_isWord a0 = some y ∧ leL ar [(.v (.string a0))] ∧ leH h [] ∧ r = impl_isWord.res a0 y ∧ h1 = impl_isWord.out a0 y
theorem impl_isWord.call {ar : List AV} {h : List (Option LB)} {a0 : ByteArray} {y : Bool} (H : impl_isWord a0 = some y) (h0 : leLk ar [(.v (.string a0))] (leHk h [])) : impl_isWord.S ar h (impl_isWord.res a0 y) (impl_isWord.out a0 y) := ⟨a0, y, H, (args_ok h0).1, (args_ok h0).2, rfl, rfl⟩
set_option maxHeartbeats 100000000 in
set_option maxRecDepth 100000 in
theorem impl_isWord.spec (a0 : ByteArray) (y : Bool) (H : impl_isWord a0 = some y) : Spec Try.prog 60 [(.v (.string a0))] [] (impl_isWord.res a0 y) (impl_isWord.out a0 y) := by
  refine spec_intro (G11_ok.at tok []) (ct := [(6, some [0, 5, 6, 14, 15, 16, 17, 24, 25, 26])]) Try.func60 rfl (by kernel_rfl) (by kernel_rfl) rfl ?_
  repeat' first
    | ((with_reducible refine eqg ?_); exact rfl)
    | ((with_reducible refine KOb.mk ?_); kernel_rfl)
    | ((with_reducible intro h); (repeat (first | replace H := grd_k H | replace H := out_step H (by assumption))); first | replace H := cond_t h H | replace H := cond_f h H | exact absurd h (by decide) | skip)
    | ((with_reducible refine Ob.mk ?_); first | (with_reducible rfl) | (first | ((repeat (first | (with_reducible exact grd_p H) | (replace H := grd_k H) | (replace H := out_step H (by assumption)))); done) | rfl | ((repeat (first | exact grd_p H | replace H := grd_k H | replace H := out_step H (by assumption))); done) | ((repeat (first | exact grd_p H | (have hp := grd_p H; exact hp) | replace H := grd_k H | replace H := out_step H (by assumption) | (replace H := bind_some H; obtain ⟨_, _, H⟩ := H))); done) | (repeat (first | exact grd_p H | replace H := grd_k H | replace H := out_step H (by assumption)))))
    | (with_reducible exact True.intro)
    | constructor
    | ((conv => whnf); first
        | ((with_reducible refine Ob.mk ?_); first | (with_reducible rfl) | (first | ((repeat (first | (with_reducible exact grd_p H) | (replace H := grd_k H) | (replace H := out_step H (by assumption)))); done) | rfl | ((repeat (first | exact grd_p H | replace H := grd_k H | replace H := out_step H (by assumption))); done) | ((repeat (first | exact grd_p H | (have hp := grd_p H; exact hp) | replace H := grd_k H | replace H := out_step H (by assumption) | (replace H := bind_some H; obtain ⟨_, _, H⟩ := H))); done) | (repeat (first | exact grd_p H | replace H := grd_k H | replace H := out_step H (by assumption)))))
        | ((repeat (first | replace H := grd_k H | replace H := out_step H (by assumption))); refine loop_iter (G11_ok.at tok []) (ct := [(6, some [0, 5, 6, 14, 15, 16, 17, 24, 25, 26])]) (F := (fun s1 : Int => ⟨sl [(0, (.v (.string a0))), (5, (.v (.int .i64 (a0.size : Int)))), (6, (.v (.int .i64 s1)))], []⟩)) (step := (fun s : Int => impl_isWord_loop1 _ s)) _ H (by kernel_rfl) (sub_auto ?_) ?_; rotate_left; (intro s1 r v hr H); rotate_right)
        | ((repeat (first | replace H := grd_k H | replace H := out_step H (by assumption))); refine again_step H (by assumption) (sub_auto ?_))
        | ((with_reducible refine fin_mk ?_); (repeat (first | replace H := grd_k H | replace H := out_step H (by assumption))); have H := Option.some.inj H; subst H))
def G12 : Env := G11.add 60 [] impl_isWord.S
theorem G12_ok : EnvOk Try.prog G12 := G11_ok.add ent_60 fun ar h r h1 ⟨a0, y, hy, e1, e2, e3, e4⟩ => by
  subst e3 e4; exact (impl_isWord.spec a0 y hy).le e1 e2
attribute [local irreducible] impl_isWord

noncomputable def impl_IsDayRow (a0 : DayRow) : Option (Bool) :=
  ((impl_isDay a0.1).bind fun y1 => (cond (!y1) ((some false)) ((impl_within a0.2.1 (0 : Int) (99999 : Int)).bind fun y2 => (cond (!y2) ((some false)) ((impl_within a0.2.2.1 (0 : Int) (99999 : Int)).bind fun y3 => (cond (!y3) ((some false)) ((impl_within a0.2.2.2.1 (0 : Int) (24 : Int)).bind fun y4 => (cond (!y4) ((some false)) ((impl_within a0.2.2.2.2.1 (0 : Int) (99 : Int)).bind fun y5 => (cond (!y5) ((some false)) (cond (decide (a0.2.2.2.1 = (0 : Int))) (cond (decide ((0 : Int) < (w64 ((w64 (a0.2.1 + a0.2.2.1)) + a0.2.2.2.2.1)))) ((some false)) (cond (decide (a0.2.2.2.2.1 = (0 : Int))) (cond (decide (a0.2.2.2.2.2.1 = (ByteArray.mk #[]))) ((some true)) (cond (decide ((0 : Int) < a0.2.2.2.2.1)) ((impl_isWord a0.2.2.2.2.2.1).bind fun y6 => (some y6)) ((some false)))) (cond (decide ((0 : Int) < a0.2.2.2.2.1)) ((impl_isWord a0.2.2.2.2.2.1).bind fun y7 => (some y7)) ((some false))))) (cond (decide (a0.2.2.2.2.1 = (0 : Int))) (cond (decide (a0.2.2.2.2.2.1 = (ByteArray.mk #[]))) ((some true)) (cond (decide ((0 : Int) < a0.2.2.2.2.1)) ((impl_isWord a0.2.2.2.2.2.1).bind fun y8 => (some y8)) ((some false)))) (cond (decide ((0 : Int) < a0.2.2.2.2.1)) ((impl_isWord a0.2.2.2.2.2.1).bind fun y9 => (some y9)) ((some false)))))))))))))))
def impl_IsDayRow.res (_ : DayRow) (y : Bool) : AV := (.bl y)
def impl_IsDayRow.out (_ : DayRow) (_ : Bool) : List (Option LB) := []
def impl_IsDayRow.S (ar : List AV) (h : List (Option LB)) (r : AV) (h1 : List (Option LB)) : Prop := ∃ a0 y, impl_IsDayRow a0 = some y ∧ leL ar [(.agg [(.v (.int .i64 a0.1)), (.v (.int .i64 a0.2.1)), (.v (.int .i64 a0.2.2.1)), (.v (.int .i64 a0.2.2.2.1)), (.v (.int .i64 a0.2.2.2.2.1)), (.v (.string a0.2.2.2.2.2.1))])] ∧ leH h [] ∧ r = impl_IsDayRow.res a0 y ∧ h1 = impl_IsDayRow.out a0 y
theorem impl_IsDayRow.call {ar : List AV} {h : List (Option LB)} {a0 : DayRow} {y : Bool} (H : impl_IsDayRow a0 = some y) (h0 : leLk ar [(.agg [(.v (.int .i64 a0.1)), (.v (.int .i64 a0.2.1)), (.v (.int .i64 a0.2.2.1)), (.v (.int .i64 a0.2.2.2.1)), (.v (.int .i64 a0.2.2.2.2.1)), (.v (.string a0.2.2.2.2.2.1))])] (leHk h [])) : impl_IsDayRow.S ar h (impl_IsDayRow.res a0 y) (impl_IsDayRow.out a0 y) := ⟨a0, y, H, (args_ok h0).1, (args_ok h0).2, rfl, rfl⟩
set_option maxHeartbeats 100000000 in
set_option maxRecDepth 100000 in
theorem impl_IsDayRow.spec (a0 : DayRow) (y : Bool) (H : impl_IsDayRow a0 = some y) : Spec Try.prog 49 [(.agg [(.v (.int .i64 a0.1)), (.v (.int .i64 a0.2.1)), (.v (.int .i64 a0.2.2.1)), (.v (.int .i64 a0.2.2.2.1)), (.v (.int .i64 a0.2.2.2.2.1)), (.v (.string a0.2.2.2.2.2.1))])] [] (impl_IsDayRow.res a0 y) (impl_IsDayRow.out a0 y) := by
  refine spec_intro (G12_ok.at tok []) (ct := [(2, some [1, 30, 35, 36, 37, 38, 39, 40, 41, 42, 43, 49, 50, 51, 54, 55, 56, 57, 58, 59, 60, 61]), (4, some [1, 44, 49, 50, 51, 54, 55, 56, 57, 58, 59, 60, 61])]) Try.func49 rfl (by kernel_rfl) (by kernel_rfl) rfl ?_
  repeat' first
    | ((with_reducible refine eqg ?_); exact rfl)
    | ((with_reducible refine KOb.mk ?_); kernel_rfl)
    | ((with_reducible intro h); (repeat (first | replace H := grd_k H | replace H := out_step H (by assumption))); first | replace H := cond_t h H | replace H := cond_f h H | exact absurd h (by decide) | skip)
    | ((with_reducible refine Ob.mk ?_); first | (with_reducible rfl) | (first | ((repeat (first | (with_reducible exact grd_p H) | (replace H := grd_k H) | (replace H := out_step H (by assumption)))); done) | rfl | ((repeat (first | exact grd_p H | replace H := grd_k H | replace H := out_step H (by assumption))); done) | ((repeat (first | exact grd_p H | (have hp := grd_p H; exact hp) | replace H := grd_k H | replace H := out_step H (by assumption) | (replace H := bind_some H; obtain ⟨_, _, H⟩ := H))); done) | (repeat (first | exact grd_p H | replace H := grd_k H | replace H := out_step H (by assumption)))))
    | (with_reducible exact True.intro)
    | constructor
    | ((conv => whnf); first
        | ((with_reducible refine Ob.mk ?_); first | (with_reducible rfl) | (first | ((repeat (first | (with_reducible exact grd_p H) | (replace H := grd_k H) | (replace H := out_step H (by assumption)))); done) | rfl | ((repeat (first | exact grd_p H | replace H := grd_k H | replace H := out_step H (by assumption))); done) | ((repeat (first | exact grd_p H | (have hp := grd_p H; exact hp) | replace H := grd_k H | replace H := out_step H (by assumption) | (replace H := bind_some H; obtain ⟨_, _, H⟩ := H))); done) | (repeat (first | exact grd_p H | replace H := grd_k H | replace H := out_step H (by assumption)))))
        | ((with_reducible refine CallW.mk ?_); (repeat (first | replace H := grd_k H | replace H := out_step H (by assumption))); replace H := bind_some H; obtain ⟨y, hy, H⟩ := H; first | ((with_reducible have hz : impl_isDay _ = some y := hy); clear hz; refine Exists.intro _ (Exists.intro _ ⟨impl_isDay.call hy ?_, rfl, rfl, ?_⟩)) | ((with_reducible have hz : impl_within _ _ _ = some y := hy); clear hz; refine Exists.intro _ (Exists.intro _ ⟨impl_within.call hy ?_, rfl, rfl, ?_⟩)) | ((with_reducible have hz : impl_isWord _ = some y := hy); clear hz; refine Exists.intro _ (Exists.intro _ ⟨impl_isWord.call hy ?_, rfl, rfl, ?_⟩)))
        | ((with_reducible refine fin_mk ?_); (repeat (first | replace H := grd_k H | replace H := out_step H (by assumption))); have H := Option.some.inj H; subst H))
def G13 : Env := G12.add 49 [] impl_IsDayRow.S
theorem G13_ok : EnvOk Try.prog G13 := G12_ok.add ent_49 fun ar h r h1 ⟨a0, y, hy, e1, e2, e3, e4⟩ => by
  subst e3 e4; exact (impl_IsDayRow.spec a0 y hy).le e1 e2
attribute [local irreducible] impl_IsDayRow

noncomputable def impl_AreDayRows_loop1 (a0 : (List DayRow)) (v5 : Int) : Option (Lp (Int) ((Unit) ⊕ (Unit))) :=
  (cond (decide (v5 < (a0.length : Int))) (grd (0 ≤ v5 ∧ v5 < (a0.length : Int)) ((impl_IsDayRow ((a0.getD v5.toNat d_DayRow).1, (a0.getD v5.toNat d_DayRow).2.1, (a0.getD v5.toNat d_DayRow).2.2.1, (a0.getD v5.toNat d_DayRow).2.2.2.1, (a0.getD v5.toNat d_DayRow).2.2.2.2.1, (a0.getD v5.toNat d_DayRow).2.2.2.2.2.1, ())).bind fun y6 => (cond (!y6) ((some (.out (Sum.inl ())))) (cond (decide ((0 : Int) < v5)) (grd (0 ≤ (w64 (v5 - (1 : Int))) ∧ (w64 (v5 - (1 : Int))) < (a0.length : Int)) (cond (decide (((a0.getD v5.toNat d_DayRow).1) ≤ ((a0.getD ((w64 (v5 - (1 : Int))).toNat) d_DayRow).1))) ((some (.out (Sum.inl ())))) (some (.go (w64 (v5 + (1 : Int))))))) (some (.go (w64 (v5 + (1 : Int))))))))) ((some (.out (Sum.inr ())))))
noncomputable def impl_AreDayRows (a0 : (List DayRow)) : Option (Bool) :=
  ((iter (fun s => impl_AreDayRows_loop1 a0 s) (0 : Int)).bind (Sum.elim (fun _ => (some false)) (fun _ => (some (decide ((a0.length : Int) ≤ (14 : Int)))))))
def impl_AreDayRows.res (_ : (List DayRow)) (y : Bool) : AV := (.bl y)
def impl_AreDayRows.out (_ : (List DayRow)) (_ : Bool) : List (Option LB) := []
def impl_AreDayRows.S (ar : List AV) (h : List (Option LB)) (r : AV) (h1 : List (Option LB)) : Prop := ∃ a0 y, impl_AreDayRows a0 = some y ∧ leL ar [(.tree ty_DayRow a0)] ∧ leH h [] ∧ r = impl_AreDayRows.res a0 y ∧ h1 = impl_AreDayRows.out a0 y
theorem impl_AreDayRows.call {ar : List AV} {h : List (Option LB)} {a0 : (List DayRow)} {y : Bool} (H : impl_AreDayRows a0 = some y) (h0 : leLk ar [(.tree ty_DayRow a0)] (leHk h [])) : impl_AreDayRows.S ar h (impl_AreDayRows.res a0 y) (impl_AreDayRows.out a0 y) := ⟨a0, y, H, (args_ok h0).1, (args_ok h0).2, rfl, rfl⟩
set_option maxHeartbeats 100000000 in
set_option maxRecDepth 100000 in
theorem impl_AreDayRows.spec (a0 : (List DayRow)) (y : Bool) (H : impl_AreDayRows a0 = some y) : Spec Try.prog 31 [(.tree ty_DayRow a0)] [] (impl_AreDayRows.res a0 y) (impl_AreDayRows.out a0 y) := by
  refine spec_intro (G13_ok.at tok []) (ct := [(5, some [0, 5, 6, 7, 16, 17, 18, 19, 20, 21, 22, 23, 24, 25, 26, 27, 28, 29])]) Try.func31 rfl (by kernel_rfl) (by kernel_rfl) rfl ?_
  repeat' first
    | ((with_reducible refine eqg ?_); exact rfl)
    | ((with_reducible refine KOb.mk ?_); kernel_rfl)
    | ((with_reducible intro h); (repeat (first | replace H := grd_k H | replace H := out_step H (by assumption))); first | replace H := cond_t h H | replace H := cond_f h H | exact absurd h (by decide) | skip)
    | ((with_reducible refine Ob.mk ?_); first | (with_reducible rfl) | (first | ((repeat (first | (with_reducible exact grd_p H) | (replace H := grd_k H) | (replace H := out_step H (by assumption)))); done) | rfl | ((repeat (first | exact grd_p H | replace H := grd_k H | replace H := out_step H (by assumption))); done) | ((repeat (first | exact grd_p H | (have hp := grd_p H; exact hp) | replace H := grd_k H | replace H := out_step H (by assumption) | (replace H := bind_some H; obtain ⟨_, _, H⟩ := H))); done) | (repeat (first | exact grd_p H | replace H := grd_k H | replace H := out_step H (by assumption)))))
    | (with_reducible exact True.intro)
    | constructor
    | ((conv => whnf); first
        | ((with_reducible refine Ob.mk ?_); first | (with_reducible rfl) | (first | ((repeat (first | (with_reducible exact grd_p H) | (replace H := grd_k H) | (replace H := out_step H (by assumption)))); done) | rfl | ((repeat (first | exact grd_p H | replace H := grd_k H | replace H := out_step H (by assumption))); done) | ((repeat (first | exact grd_p H | (have hp := grd_p H; exact hp) | replace H := grd_k H | replace H := out_step H (by assumption) | (replace H := bind_some H; obtain ⟨_, _, H⟩ := H))); done) | (repeat (first | exact grd_p H | replace H := grd_k H | replace H := out_step H (by assumption)))))
        | ((with_reducible refine CallW.mk ?_); (repeat (first | replace H := grd_k H | replace H := out_step H (by assumption))); replace H := bind_some H; obtain ⟨y, hy, H⟩ := H; first | ((with_reducible have hz : impl_IsDayRow _ = some y := hy); clear hz; refine Exists.intro _ (Exists.intro _ ⟨impl_IsDayRow.call hy ?_, rfl, rfl, ?_⟩)))
        | ((repeat (first | replace H := grd_k H | replace H := out_step H (by assumption))); refine loop_iter (G13_ok.at tok []) (ct := [(5, some [0, 5, 6, 7, 16, 17, 18, 19, 20, 21, 22, 23, 24, 25, 26, 27, 28, 29])]) (F := (fun s1 : Int => ⟨sl [(0, (.tree ty_DayRow a0)), (5, (.tree ty_DayRow a0)), (6, (.v (.int .i64 (a0.length : Int)))), (7, (.v (.int .i64 s1)))], []⟩)) (step := (fun s : Int => impl_AreDayRows_loop1 _ s)) _ H (by kernel_rfl) (sub_auto ?_) ?_; rotate_left; (intro s1 r v hr H); rotate_right)
        | ((repeat (first | replace H := grd_k H | replace H := out_step H (by assumption))); refine again_step H (by assumption) (sub_auto ?_))
        | ((with_reducible refine fin_mk ?_); (repeat (first | replace H := grd_k H | replace H := out_step H (by assumption))); have H := Option.some.inj H; subst H))
def G14 : Env := G13.add 31 [] impl_AreDayRows.S
theorem G14_ok : EnvOk Try.prog G14 := G13_ok.add ent_31 fun ar h r h1 ⟨a0, y, hy, e1, e2, e3, e4⟩ => by
  subst e3 e4; exact (impl_AreDayRows.spec a0 y hy).le e1 e2
attribute [local irreducible] impl_AreDayRows

noncomputable def slices_Clone___impl_DayRow_impl_DayRow_ (a0 : (List DayRow)) : Option ((List DayRow) × (List DayRow)) :=
  (grd (([] : List DayRow).length + a0.length ≤ 140737488355328 / 56 ∧ ([] : List DayRow).length + a0.length ≤ 140737488355328) ((some ((([] : List DayRow) ++ a0), a0))))
def slices_Clone___impl_DayRow_impl_DayRow_.res (_ : (List DayRow)) (_ : (List DayRow) × (List DayRow)) : AV := (.own 1)
def slices_Clone___impl_DayRow_impl_DayRow_.out (_ : (List DayRow)) (y : (List DayRow) × (List DayRow)) : List (Option LB) := [some (.arr 57 ty_DayRow y.2), some (.arr 57 ty_DayRow y.1)]
def slices_Clone___impl_DayRow_impl_DayRow_.S (ar : List AV) (h : List (Option LB)) (r : AV) (h1 : List (Option LB)) : Prop := ∃ a0 y, slices_Clone___impl_DayRow_impl_DayRow_ a0 = some y ∧ leL ar [(.own 0)] ∧ leH h [some (.arr 57 ty_DayRow a0)] ∧ r = slices_Clone___impl_DayRow_impl_DayRow_.res a0 y ∧ h1 = slices_Clone___impl_DayRow_impl_DayRow_.out a0 y
theorem slices_Clone___impl_DayRow_impl_DayRow_.call {ar : List AV} {h : List (Option LB)} {a0 : (List DayRow)} {y : (List DayRow) × (List DayRow)} (H : slices_Clone___impl_DayRow_impl_DayRow_ a0 = some y) (h0 : leLk ar [(.own 0)] (leHk h [some (.arr 57 ty_DayRow a0)])) : slices_Clone___impl_DayRow_impl_DayRow_.S ar h (slices_Clone___impl_DayRow_impl_DayRow_.res a0 y) (slices_Clone___impl_DayRow_impl_DayRow_.out a0 y) := ⟨a0, y, H, (args_ok h0).1, (args_ok h0).2, rfl, rfl⟩
set_option maxHeartbeats 100000000 in
set_option maxRecDepth 100000 in
theorem slices_Clone___impl_DayRow_impl_DayRow_.spec (a0 : (List DayRow)) (y : (List DayRow) × (List DayRow)) (H : slices_Clone___impl_DayRow_impl_DayRow_ a0 = some y) : Spec Try.prog 43 [(.own 0)] [some (.arr 57 ty_DayRow a0)] (slices_Clone___impl_DayRow_impl_DayRow_.res a0 y) (slices_Clone___impl_DayRow_impl_DayRow_.out a0 y) := by
  refine spec_intro (G14_ok.at tok []) (ct := []) Try.func43 rfl (by kernel_rfl) (by kernel_rfl) rfl ?_
  repeat' first
    | ((with_reducible refine eqg ?_); exact rfl)
    | ((with_reducible refine KOb.mk ?_); kernel_rfl)
    | ((with_reducible intro h); (repeat (first | replace H := grd_k H | replace H := out_step H (by assumption))); first | replace H := cond_t h H | replace H := cond_f h H | exact absurd h (by decide) | skip)
    | ((with_reducible refine Ob.mk ?_); first | (with_reducible rfl) | (first | ((repeat (first | (with_reducible exact grd_p H) | (replace H := grd_k H) | (replace H := out_step H (by assumption)))); done) | rfl | ((repeat (first | exact grd_p H | replace H := grd_k H | replace H := out_step H (by assumption))); done) | ((repeat (first | exact grd_p H | (have hp := grd_p H; exact hp) | replace H := grd_k H | replace H := out_step H (by assumption) | (replace H := bind_some H; obtain ⟨_, _, H⟩ := H))); done) | (repeat (first | exact grd_p H | replace H := grd_k H | replace H := out_step H (by assumption)))))
    | (with_reducible exact True.intro)
    | constructor
    | ((conv => whnf); first
        | ((with_reducible refine Ob.mk ?_); first | (with_reducible rfl) | (first | ((repeat (first | (with_reducible exact grd_p H) | (replace H := grd_k H) | (replace H := out_step H (by assumption)))); done) | rfl | ((repeat (first | exact grd_p H | replace H := grd_k H | replace H := out_step H (by assumption))); done) | ((repeat (first | exact grd_p H | (have hp := grd_p H; exact hp) | replace H := grd_k H | replace H := out_step H (by assumption) | (replace H := bind_some H; obtain ⟨_, _, H⟩ := H))); done) | (repeat (first | exact grd_p H | replace H := grd_k H | replace H := out_step H (by assumption)))))
        | ((with_reducible refine fin_mk ?_); (repeat (first | replace H := grd_k H | replace H := out_step H (by assumption))); have H := Option.some.inj H; subst H))
  all_goals exact viewz _ _
def G15 : Env := G14.add 43 [true] slices_Clone___impl_DayRow_impl_DayRow_.S
theorem G15_ok : EnvOk Try.prog G15 := G14_ok.add ent_43 fun ar h r h1 ⟨a0, y, hy, e1, e2, e3, e4⟩ => by
  subst e3 e4; exact (slices_Clone___impl_DayRow_impl_DayRow_.spec a0 y hy).le e1 e2
attribute [local irreducible] slices_Clone___impl_DayRow_impl_DayRow_

noncomputable def impl_BestDays_1 (a0 : DayRow) : Option (Bool) :=
  (some (decide (a0.2.2.2.1 = (0 : Int))))
def impl_BestDays_1.res (_ : DayRow) (y : Bool) : AV := (.bl y)
def impl_BestDays_1.out (_ : DayRow) (_ : Bool) : List (Option LB) := []
def impl_BestDays_1.S (ar : List AV) (h : List (Option LB)) (r : AV) (h1 : List (Option LB)) : Prop := ∃ a0 y, impl_BestDays_1 a0 = some y ∧ leL ar [(.agg [(.v (.int .i64 a0.1)), (.v (.int .i64 a0.2.1)), (.v (.int .i64 a0.2.2.1)), (.v (.int .i64 a0.2.2.2.1)), (.v (.int .i64 a0.2.2.2.2.1)), (.v (.string a0.2.2.2.2.2.1))])] ∧ leH h [] ∧ r = impl_BestDays_1.res a0 y ∧ h1 = impl_BestDays_1.out a0 y
theorem impl_BestDays_1.call {ar : List AV} {h : List (Option LB)} {a0 : DayRow} {y : Bool} (H : impl_BestDays_1 a0 = some y) (h0 : leLk ar [(.agg [(.v (.int .i64 a0.1)), (.v (.int .i64 a0.2.1)), (.v (.int .i64 a0.2.2.1)), (.v (.int .i64 a0.2.2.2.1)), (.v (.int .i64 a0.2.2.2.2.1)), (.v (.string a0.2.2.2.2.2.1))])] (leHk h [])) : impl_BestDays_1.S ar h (impl_BestDays_1.res a0 y) (impl_BestDays_1.out a0 y) := ⟨a0, y, H, (args_ok h0).1, (args_ok h0).2, rfl, rfl⟩
set_option maxHeartbeats 100000000 in
set_option maxRecDepth 100000 in
theorem impl_BestDays_1.spec (a0 : DayRow) (y : Bool) (H : impl_BestDays_1 a0 = some y) : Spec Try.prog 44 [(.agg [(.v (.int .i64 a0.1)), (.v (.int .i64 a0.2.1)), (.v (.int .i64 a0.2.2.1)), (.v (.int .i64 a0.2.2.2.1)), (.v (.int .i64 a0.2.2.2.2.1)), (.v (.string a0.2.2.2.2.2.1))])] [] (impl_BestDays_1.res a0 y) (impl_BestDays_1.out a0 y) := by
  refine spec_intro (G15_ok.at tok []) (ct := []) Try.func44 rfl (by kernel_rfl) (by kernel_rfl) rfl ?_
  repeat' first
    | ((with_reducible refine eqg ?_); exact rfl)
    | ((with_reducible refine KOb.mk ?_); kernel_rfl)
    | ((with_reducible intro h); (repeat (first | replace H := grd_k H | replace H := out_step H (by assumption))); first | replace H := cond_t h H | replace H := cond_f h H | exact absurd h (by decide) | skip)
    | ((with_reducible refine Ob.mk ?_); first | (with_reducible rfl) | (first | ((repeat (first | (with_reducible exact grd_p H) | (replace H := grd_k H) | (replace H := out_step H (by assumption)))); done) | rfl | ((repeat (first | exact grd_p H | replace H := grd_k H | replace H := out_step H (by assumption))); done) | ((repeat (first | exact grd_p H | (have hp := grd_p H; exact hp) | replace H := grd_k H | replace H := out_step H (by assumption) | (replace H := bind_some H; obtain ⟨_, _, H⟩ := H))); done) | (repeat (first | exact grd_p H | replace H := grd_k H | replace H := out_step H (by assumption)))))
    | (with_reducible exact True.intro)
    | constructor
    | ((conv => whnf); first
        | ((with_reducible refine Ob.mk ?_); first | (with_reducible rfl) | (first | ((repeat (first | (with_reducible exact grd_p H) | (replace H := grd_k H) | (replace H := out_step H (by assumption)))); done) | rfl | ((repeat (first | exact grd_p H | replace H := grd_k H | replace H := out_step H (by assumption))); done) | ((repeat (first | exact grd_p H | (have hp := grd_p H; exact hp) | replace H := grd_k H | replace H := out_step H (by assumption) | (replace H := bind_some H; obtain ⟨_, _, H⟩ := H))); done) | (repeat (first | exact grd_p H | replace H := grd_k H | replace H := out_step H (by assumption)))))
        | ((with_reducible refine fin_mk ?_); (repeat (first | replace H := grd_k H | replace H := out_step H (by assumption))); have H := Option.some.inj H; subst H))
def G16 : Env := G15.add 44 [] impl_BestDays_1.S
theorem G16_ok : EnvOk Try.prog G16 := G15_ok.add ent_44 fun ar h r h1 ⟨a0, y, hy, e1, e2, e3, e4⟩ => by
  subst e3 e4; exact (impl_BestDays_1.spec a0 y hy).le e1 e2
attribute [local irreducible] impl_BestDays_1

end Go.Proofs.Yteckiilljhdkpaa
