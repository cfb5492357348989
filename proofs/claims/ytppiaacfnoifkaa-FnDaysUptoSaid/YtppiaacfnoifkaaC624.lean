/-
  Contracts, printed by a program.
-/
import Derived.Test.YtppiaacfnoifkaaC623
namespace Go.Proofs.Ytppiaacfnoifkaa
open Go.RowKit
attribute [local irreducible] Ob loopwp Sub Spec Fin Again CallW CutC KOb iter joinx outm

attribute [local irreducible] laws_rBig spec_l1Cur_next spec_l1Cur_pick spec_l1Cur_among spec_l1Cur_one spec_l1Cur_of spec_l1Cur_dayRow spec_l1Cur_dayRows spec_DrawBestDays impl_within impl_isDay impl_isWord impl_IsDayRow impl_AreDayRows slices_Clone___impl_DayRow_impl_DayRow_ impl_BestDays_1 cmp_isNaN_int_ cmp_Compare_int_ impl_BestDays_2 slices_IndexFunc___impl_DayRow_impl_DayRow__i1 slices_DeleteFunc___impl_DayRow_impl_DayRow__i1 slices_insertionSortCmpFunc_impl_DayRow__i1 slices_symMergeCmpFunc_impl_DayRow__i1 slices_stableCmpFunc_impl_DayRow__i1 slices_SortStableFunc___impl_DayRow_impl_DayRow__i1 impl_BestDays spec_l1In spec_l2Word spec_l26One spec_l26Good spec_BestDays laws_rInts laws_rHas spec_DrawAreDayRows spec_DrawMainReason impl_MainReason

noncomputable def spec_MainReason_loop2 (a0 : (List DayRow)) (v22 : Int) (v25 : Int) (v26 : Int) : Option (Lp (Int × Int) ((Int))) :=
  (cond (decide (v26 < (a0.length : Int))) (grd (0 ≤ v26 ∧ v26 < (a0.length : Int)) (grd (0 ≤ v22 ∧ v22 < (a0.length : Int)) (cond (decide (((a0.getD v26.toNat d_DayRow).2.2.2.2.2.1) = ((a0.getD v22.toNat d_DayRow).2.2.2.2.2.1))) (grd (0 ≤ v26 ∧ v26 < (a0.length : Int)) (some (.go ((w64 (v25 + ((a0.getD v26.toNat d_DayRow).2.2.2.2.1))), (w64 (v26 + (1 : Int))))))) (some (.go (v25, (w64 (v26 + (1 : Int))))))))) ((some (.out v25))))
noncomputable def spec_MainReason_loop1 (a0 : (List DayRow)) (v20 : ByteArray) (v21 : Int) (v22 : Int) : Option (Lp (ByteArray × Int × Int) ((ByteArray × Int))) :=
  (cond (decide (v22 < (a0.length : Int))) ((iter (fun s => spec_MainReason_loop2 a0 v22 s.1 s.2) ((0 : Int), (0 : Int))).bind (fun r27 => (cond (decide (v21 < r27)) (grd (0 ≤ v22 ∧ v22 < (a0.length : Int)) (some (.go (((a0.getD v22.toNat d_DayRow).2.2.2.2.2.1), r27, (w64 (v22 + (1 : Int))))))) (cond (decide (r27 = v21)) (cond (decide ((0 : Int) < r27)) (grd (0 ≤ v22 ∧ v22 < (a0.length : Int)) (cond (Op.bytesLess ((a0.getD v22.toNat d_DayRow).2.2.2.2.2.1).toList v20.toList) (grd (0 ≤ v22 ∧ v22 < (a0.length : Int)) (some (.go (((a0.getD v22.toNat d_DayRow).2.2.2.2.2.1), r27, (w64 (v22 + (1 : Int))))))) (some (.go (v20, v21, (w64 (v22 + (1 : Int)))))))) (some (.go (v20, v21, (w64 (v22 + (1 : Int))))))) (some (.go (v20, v21, (w64 (v22 + (1 : Int)))))))))) ((some (.out (v20, v21)))))
noncomputable def spec_MainReason (a0 : (List DayRow)) : Option (ByteArray × Int × Bool) :=
  ((spec_l26Good a0).bind fun y1 => (cond y1 ((iter (fun s => spec_MainReason_loop1 a0 s.1 s.2.1 s.2.2) ((ByteArray.mk #[]), (0 : Int), (0 : Int))).bind (fun r28 => (some (r28.1, r28.2, (decide ((0 : Int) < r28.2)))))) ((some ((ByteArray.mk #[]), (0 : Int), (decide ((0 : Int) < (0 : Int))))))))
def spec_MainReason.res (_ : (List DayRow)) (y : ByteArray × Int × Bool) : AV := (.tup [(.v (.string y.1)), (.v (.int .i64 y.2.1)), (.bl y.2.2)])
def spec_MainReason.out (_ : (List DayRow)) (_ : ByteArray × Int × Bool) : List (Option LB) := []
def spec_MainReason.S (ar : List AV) (h : List (Option LB)) (r : AV) (h1 : List (Option LB)) : Prop := ∃ a0 y, spec_MainReason a0 = some y ∧ leL ar [(.tree ty_DayRow a0)] ∧ leH h [] ∧ r = spec_MainReason.res a0 y ∧ h1 = spec_MainReason.out a0 y
theorem spec_MainReason.call {ar : List AV} {h : List (Option LB)} {a0 : (List DayRow)} {y : ByteArray × Int × Bool} (H : spec_MainReason a0 = some y) (h0 : leLk ar [(.tree ty_DayRow a0)] (leHk h [])) : spec_MainReason.S ar h (spec_MainReason.res a0 y) (spec_MainReason.out a0 y) := ⟨a0, y, H, (args_ok h0).1, (args_ok h0).2, rfl, rfl⟩
set_option maxHeartbeats 100000000 in
set_option maxRecDepth 100000 in
theorem spec_MainReason.spec (a0 : (List DayRow)) (y : ByteArray × Int × Bool) (H : spec_MainReason a0 = some y) : Spec Try.prog 12 [(.tree ty_DayRow a0)] [] (spec_MainReason.res a0 y) (spec_MainReason.out a0 y) := by
  refine spec_intro (G36_ok.at tok []) (ct := [(11, some [0, 5, 6, 7, 8, 9, 34, 46, 47, 48, 49, 50, 51, 52, 53, 54, 55, 56, 57, 58, 59, 60, 61]), (13, some [0, 5, 6, 7, 8, 46, 47, 48, 49, 50, 51, 52, 53, 54, 55, 56, 57, 58, 59, 60, 61, 62])]) Try.func12 rfl (by kernel_rfl) (by kernel_rfl) rfl ?_
  repeat' first
    | ((with_reducible refine eqg ?_); exact rfl)
    | ((with_reducible refine KOb.mk ?_); kernel_rfl)
    | ((with_reducible intro h); (repeat (first | replace H := grd_k H | replace H := out_step H (by assumption))); first | replace H := cond_t h H | replace H := cond_f h H | exact absurd h (by decide) | skip)
    | ((with_reducible refine Ob.mk ?_); first | (with_reducible rfl) | (first | ((repeat (first | (with_reducible exact grd_p H) | (replace H := grd_k H) | (replace H := out_step H (by assumption)))); done) | rfl | ((repeat (first | exact grd_p H | replace H := grd_k H | replace H := out_step H (by assumption))); done) | ((repeat (first | exact grd_p H | (have hp := grd_p H; exact hp) | replace H := grd_k H | replace H := out_step H (by assumption) | (replace H := bind_some H; obtain ⟨_, _, H⟩ := H))); done) | (repeat (first | exact grd_p H | replace H := grd_k H | replace H := out_step H (by assumption)))))
    | (with_reducible exact True.intro)
    | ((conv => whnf); first
        | (with_reducible refine And.intro ?_ ?_)
        | (with_reducible exact True.intro)
        | ((with_reducible refine Ob.mk ?_); first | (with_reducible rfl) | (first | ((repeat (first | (with_reducible exact grd_p H) | (replace H := grd_k H) | (replace H := out_step H (by assumption)))); done) | rfl | ((repeat (first | exact grd_p H | replace H := grd_k H | replace H := out_step H (by assumption))); done) | ((repeat (first | exact grd_p H | (have hp := grd_p H; exact hp) | replace H := grd_k H | replace H := out_step H (by assumption) | (replace H := bind_some H; obtain ⟨_, _, H⟩ := H))); done) | (repeat (first | exact grd_p H | replace H := grd_k H | replace H := out_step H (by assumption)))))
        | ((with_reducible refine CallW.mk ?_); (repeat (first | replace H := grd_k H | replace H := out_step H (by assumption))); replace H := bind_some H; obtain ⟨y, hy, H⟩ := H; first | ((with_reducible have hz : spec_l26Good _ = some y := hy); clear hz; refine Exists.intro _ (Exists.intro _ ⟨spec_l26Good.call hy ?_, rfl, rfl, ?_⟩)))
        | ((repeat (first | replace H := grd_k H | replace H := out_step H (by assumption))); refine loop_iter (G36_ok.at tok []) (ct := [(11, some [0, 5, 6, 7, 8, 9, 34, 46, 47, 48, 49, 50, 51, 52, 53, 54, 55, 56, 57, 58, 59, 60, 61]), (13, some [0, 5, 6, 7, 8, 46, 47, 48, 49, 50, 51, 52, 53, 54, 55, 56, 57, 58, 59, 60, 61, 62])]) (F := (fun s1 : ByteArray × Int × Int => ⟨sl [(0, (.tree ty_DayRow a0)), (5, (.v (.string s1.1))), (6, (.v (.int .i64 s1.2.1))), (7, (.v (.int .i64 s1.2.2)))], []⟩)) (step := (fun s : ByteArray × Int × Int => spec_MainReason_loop1 _ s.1 s.2.1 s.2.2)) _ H (by kernel_rfl) (sub_auto ?_) ?_; rotate_left; (intro s1 r v hr H); rotate_right)
        | ((repeat (first | replace H := grd_k H | replace H := out_step H (by assumption))); refine loop_iter (G36_ok.at tok []) (ct := [(11, some [0, 5, 6, 7, 8, 9, 34, 46, 47, 48, 49, 50, 51, 52, 53, 54, 55, 56, 57, 58, 59, 60, 61]), (13, some [0, 5, 6, 7, 8, 46, 47, 48, 49, 50, 51, 52, 53, 54, 55, 56, 57, 58, 59, 60, 61, 62])]) (F := (fun s2 : Int × Int => ⟨sl [(0, (.tree ty_DayRow a0)), (5, (.v (.string s1.1))), (6, (.v (.int .i64 s1.2.1))), (7, (.v (.int .i64 s1.2.2))), (8, (.v (.int .i64 s2.1))), (9, (.v (.int .i64 s2.2)))], []⟩)) (step := (fun s : Int × Int => spec_MainReason_loop2 _ _ s.1 s.2)) _ H (by kernel_rfl) (sub_auto ?_) ?_; rotate_left; (intro s2 r v hr H); rotate_right)
        | ((repeat (first | replace H := grd_k H | replace H := out_step H (by assumption))); refine again_step H (by assumption) (sub_auto ?_))
        | ((with_reducible refine fin_mk ?_); (repeat (first | replace H := grd_k H | replace H := out_step H (by assumption))); have H := Option.some.inj H; subst H))
    | constructor
def G37 : Env := G36.add 12 [] spec_MainReason.S
theorem G37_ok : EnvOk Try.prog G37 := G36_ok.add ent_12 fun ar h r h1 ⟨a0, y, hy, e1, e2, e3, e4⟩ => by
  subst e3 e4; exact (spec_MainReason.spec a0 y hy).le e1 e2
attribute [local irreducible] spec_MainReason

noncomputable def spec_DrawLeftBehind (a0 : (List Int)) : Option ((List DayRow)) :=
  ((spec_DrawAreDayRows a0).bind fun y1 => (some y1))
def spec_DrawLeftBehind.res (_ : (List Int)) (_ : (List DayRow)) : AV := (.own 0)
def spec_DrawLeftBehind.out (_ : (List Int)) (y : (List DayRow)) : List (Option LB) := [some (.arr 33 ty_DayRow y)]
def spec_DrawLeftBehind.S (ar : List AV) (h : List (Option LB)) (r : AV) (h1 : List (Option LB)) : Prop := ∃ a0 y, spec_DrawLeftBehind a0 = some y ∧ leL ar [(.tree (.int .u8) a0)] ∧ leH h [] ∧ r = spec_DrawLeftBehind.res a0 y ∧ h1 = spec_DrawLeftBehind.out a0 y
theorem spec_DrawLeftBehind.call {ar : List AV} {h : List (Option LB)} {a0 : (List Int)} {y : (List DayRow)} (H : spec_DrawLeftBehind a0 = some y) (h0 : leLk ar [(.tree (.int .u8) a0)] (leHk h [])) : spec_DrawLeftBehind.S ar h (spec_DrawLeftBehind.res a0 y) (spec_DrawLeftBehind.out a0 y) := ⟨a0, y, H, (args_ok h0).1, (args_ok h0).2, rfl, rfl⟩
set_option maxHeartbeats 100000000 in
set_option maxRecDepth 100000 in
theorem spec_DrawLeftBehind.spec (a0 : (List Int)) (y : (List DayRow)) (H : spec_DrawLeftBehind a0 = some y) : Spec Try.prog 13 [(.tree (.int .u8) a0)] [] (spec_DrawLeftBehind.res a0 y) (spec_DrawLeftBehind.out a0 y) := by
  refine spec_intro (G37_ok.at tok []) (ct := []) Try.func13 rfl (by kernel_rfl) (by kernel_rfl) rfl ?_
  repeat' first
    | ((with_reducible refine eqg ?_); exact rfl)
    | ((with_reducible refine KOb.mk ?_); kernel_rfl)
    | ((with_reducible intro h); (repeat (first | replace H := grd_k H | replace H := out_step H (by assumption))); first | replace H := cond_t h H | replace H := cond_f h H | exact absurd h (by decide) | skip)
    | ((with_reducible refine Ob.mk ?_); first | (with_reducible rfl) | (first | ((repeat (first | (with_reducible exact grd_p H) | (replace H := grd_k H) | (replace H := out_step H (by assumption)))); done) | rfl | ((repeat (first | exact grd_p H | replace H := grd_k H | replace H := out_step H (by assumption))); done) | ((repeat (first | exact grd_p H | (have hp := grd_p H; exact hp) | replace H := grd_k H | replace H := out_step H (by assumption) | (replace H := bind_some H; obtain ⟨_, _, H⟩ := H))); done) | (repeat (first | exact grd_p H | replace H := grd_k H | replace H := out_step H (by assumption)))))
    | (with_reducible exact True.intro)
    | ((conv => whnf); first
        | (with_reducible refine And.intro ?_ ?_)
        | (with_reducible exact True.intro)
        | ((with_reducible refine Ob.mk ?_); first | (with_reducible rfl) | (first | ((repeat (first | (with_reducible exact grd_p H) | (replace H := grd_k H) | (replace H := out_step H (by assumption)))); done) | rfl | ((repeat (first | exact grd_p H | replace H := grd_k H | replace H := out_step H (by assumption))); done) | ((repeat (first | exact grd_p H | (have hp := grd_p H; exact hp) | replace H := grd_k H | replace H := out_step H (by assumption) | (replace H := bind_some H; obtain ⟨_, _, H⟩ := H))); done) | (repeat (first | exact grd_p H | replace H := grd_k H | replace H := out_step H (by assumption)))))
        | ((with_reducible refine CallW.mk ?_); (repeat (first | replace H := grd_k H | replace H := out_step H (by assumption))); replace H := bind_some H; obtain ⟨y, hy, H⟩ := H; first | ((with_reducible have hz : spec_DrawAreDayRows _ = some y := hy); clear hz; refine Exists.intro _ (Exists.intro _ ⟨spec_DrawAreDayRows.call hy ?_, rfl, rfl, ?_⟩)))
        | ((with_reducible refine fin_mk ?_); (repeat (first | replace H := grd_k H | replace H := out_step H (by assumption))); have H := Option.some.inj H; subst H))
    | constructor
def G38 : Env := G37.add 13 [] spec_DrawLeftBehind.S
theorem G38_ok : EnvOk Try.prog G38 := G37_ok.add ent_13 fun ar h r h1 ⟨a0, y, hy, e1, e2, e3, e4⟩ => by
  subst e3 e4; exact (spec_DrawLeftBehind.spec a0 y hy).le e1 e2
attribute [local irreducible] spec_DrawLeftBehind

noncomputable def impl_LeftBehind_loop1 (a0 : (List DayRow)) (v5 : Int) (v6 : Int) (v7 : (List Int)) : Option (Lp (Int × Int × (List Int)) (((List Int)))) :=
  (cond (decide (v6 < (a0.length : Int))) (grd (0 ≤ v6 ∧ v6 < (a0.length : Int)) (cond (decide ((0 : Int) < (w64 (v5 + (w64 (((a0.getD v6.toNat d_DayRow).2.1) - ((a0.getD v6.toNat d_DayRow).2.2.1))))))) (grd (v7.length + [(a0.getD v6.toNat d_DayRow).1].length ≤ 140737488355328 / 8 ∧ v7.length + [(a0.getD v6.toNat d_DayRow).1].length ≤ 140737488355328) (some (.go ((w64 (v5 + (w64 (((a0.getD v6.toNat d_DayRow).2.1) - ((a0.getD v6.toNat d_DayRow).2.2.1))))), (w64 (v6 + (1 : Int))), (v7 ++ [(a0.getD v6.toNat d_DayRow).1]))))) (some (.go ((w64 (v5 + (w64 (((a0.getD v6.toNat d_DayRow).2.1) - ((a0.getD v6.toNat d_DayRow).2.2.1))))), (w64 (v6 + (1 : Int))), v7))))) ((some (.out v7))))
noncomputable def impl_LeftBehind (a0 : (List DayRow)) : Option ((Unit) ⊕ ((List Int))) :=
  ((impl_AreDayRows a0).bind fun y1 => (cond (!y1) ((some (Sum.inl ()))) ((iter (fun s => impl_LeftBehind_loop1 a0 s.1 s.2.1 s.2.2) ((0 : Int), (0 : Int), ([] : List Int))).bind (fun r8 => (some (Sum.inr r8))))))
def impl_LeftBehind.res (_ : (List DayRow)) (y : (Unit) ⊕ ((List Int))) : AV := match y with
  | (.inl y) => (.tup [(.v (.slice none 0 0)), (.v (.bool false))])
  | (.inr y) => (.tup [(.own 0), (.v (.bool true))])
def impl_LeftBehind.out (_ : (List DayRow)) (y : (Unit) ⊕ ((List Int))) : List (Option LB) := match y with
  | (.inl y) => []
  | (.inr y) => [some (.arr 3 (.int .i64) y)]
def impl_LeftBehind.S (ar : List AV) (h : List (Option LB)) (r : AV) (h1 : List (Option LB)) : Prop := ∃ a0 y, impl_LeftBehind a0 = some y ∧ leL ar [(.tree ty_DayRow a0)] ∧ leH h [] ∧ r = impl_LeftBehind.res a0 y ∧ h1 = impl_LeftBehind.out a0 y
theorem impl_LeftBehind.call {ar : List AV} {h : List (Option LB)} {a0 : (List DayRow)} {y : (Unit) ⊕ ((List Int))} (H : impl_LeftBehind a0 = some y) (h0 : leLk ar [(.tree ty_DayRow a0)] (leHk h [])) : impl_LeftBehind.S ar h (impl_LeftBehind.res a0 y) (impl_LeftBehind.out a0 y) := ⟨a0, y, H, (args_ok h0).1, (args_ok h0).2, rfl, rfl⟩
set_option maxHeartbeats 100000000 in
set_option maxRecDepth 100000 in
theorem impl_LeftBehind.spec (a0 : (List DayRow)) (y : (Unit) ⊕ ((List Int))) (H : impl_LeftBehind a0 = some y) : Spec Try.prog 14 [(.tree ty_DayRow a0)] [] (impl_LeftBehind.res a0 y) (impl_LeftBehind.out a0 y) := by
  have hlen : Nat.ble ([] : List (Option LB)).length (impl_LeftBehind.out a0 y).length = true := by
    rcases y with y | y <;> rfl
  refine spec_intro (G38_ok.at tok []) (ct := [(9, some [4, 5, 7, 12, 13, 14, 26]), (11, some [4])]) Try.func14 rfl (by kernel_rfl) (by kernel_rfl) hlen ?_
  repeat' first
    | ((with_reducible refine eqg ?_); exact rfl)
    | ((with_reducible refine KOb.mk ?_); kernel_rfl)
    | ((with_reducible intro h); (repeat (first | replace H := grd_k H | replace H := out_step H (by assumption))); first | replace H := cond_t h H | replace H := cond_f h H | exact absurd h (by decide) | skip)
    | ((with_reducible refine Ob.mk ?_); first | (with_reducible rfl) | (first | ((repeat (first | (with_reducible exact grd_p H) | (replace H := grd_k H) | (replace H := out_step H (by assumption)))); done) | rfl | ((repeat (first | exact grd_p H | replace H := grd_k H | replace H := out_step H (by assumption))); done) | ((repeat (first | exact grd_p H | (have hp := grd_p H; exact hp) | replace H := grd_k H | replace H := out_step H (by assumption) | (replace H := bind_some H; obtain ⟨_, _, H⟩ := H))); done) | (repeat (first | exact grd_p H | replace H := grd_k H | replace H := out_step H (by assumption)))))
    | (with_reducible exact True.intro)
    | ((conv => whnf); first
        | (with_reducible refine And.intro ?_ ?_)
        | (with_reducible exact True.intro)
        | ((with_reducible refine Ob.mk ?_); first | (with_reducible rfl) | (first | ((repeat (first | (with_reducible exact grd_p H) | (replace H := grd_k H) | (replace H := out_step H (by assumption)))); done) | rfl | ((repeat (first | exact grd_p H | replace H := grd_k H | replace H := out_step H (by assumption))); done) | ((repeat (first | exact grd_p H | (have hp := grd_p H; exact hp) | replace H := grd_k H | replace H := out_step H (by assumption) | (replace H := bind_some H; obtain ⟨_, _, H⟩ := H))); done) | (repeat (first | exact grd_p H | replace H := grd_k H | replace H := out_step H (by assumption)))))
        | ((with_reducible refine CallW.mk ?_); (repeat (first | replace H := grd_k H | replace H := out_step H (by assumption))); replace H := bind_some H; obtain ⟨y, hy, H⟩ := H; first | ((with_reducible have hz : impl_AreDayRows _ = some y := hy); clear hz; refine Exists.intro _ (Exists.intro _ ⟨impl_AreDayRows.call hy ?_, rfl, rfl, ?_⟩)))
        | ((repeat (first | replace H := grd_k H | replace H := out_step H (by assumption))); refine loop_iter (G38_ok.at tok []) (ct := [(9, some [4, 5, 7, 12, 13, 14, 26]), (11, some [4])]) (F := (fun s1 : Int × Int × (List Int) => ⟨sl [(4, (.own 0)), (5, (.v (.int .i64 s1.1))), (12, (.tree ty_DayRow a0)), (13, (.v (.int .i64 (a0.length : Int)))), (14, (.v (.int .i64 s1.2.1)))], [some (.arr 3 (.int .i64) s1.2.2)]⟩)) (step := (fun s : Int × Int × (List Int) => impl_LeftBehind_loop1 _ s.1 s.2.1 s.2.2)) _ H (by kernel_rfl) (sub_auto ?_) ?_; rotate_left; (intro s1 r v hr H); rotate_right)
        | ((repeat (first | replace H := grd_k H | replace H := out_step H (by assumption))); refine again_step H (by assumption) (sub_auto ?_))
        | ((with_reducible refine fin_mk ?_); (repeat (first | replace H := grd_k H | replace H := out_step H (by assumption))); have H := Option.some.inj H; subst H))
    | constructor
def G39 : Env := G38.add 14 [] impl_LeftBehind.S
theorem G39_ok : EnvOk Try.prog G39 := G38_ok.add ent_14 fun ar h r h1 ⟨a0, y, hy, e1, e2, e3, e4⟩ => by
  subst e3 e4; exact (impl_LeftBehind.spec a0 y hy).le e1 e2
attribute [local irreducible] impl_LeftBehind

noncomputable def spec_LeftBehind_loop1 (a0 : (List DayRow)) (v5 : Int) (v6 : Int) (v7 : (List Int)) : Option (Lp (Int × Int × (List Int)) (((List Int)))) :=
  (cond (decide (v6 < (a0.length : Int))) (grd (0 ≤ v6 ∧ v6 < (a0.length : Int)) (grd (0 ≤ v6 ∧ v6 < (a0.length : Int)) (cond (decide ((0 : Int) < (w64 ((w64 (v5 + ((a0.getD v6.toNat d_DayRow).2.1))) - ((a0.getD v6.toNat d_DayRow).2.2.1))))) (grd (0 ≤ v6 ∧ v6 < (a0.length : Int)) (grd (v7.length + [(a0.getD v6.toNat d_DayRow).1].length ≤ 140737488355328 / 8 ∧ v7.length + [(a0.getD v6.toNat d_DayRow).1].length ≤ 140737488355328) (some (.go ((w64 ((w64 (v5 + ((a0.getD v6.toNat d_DayRow).2.1))) - ((a0.getD v6.toNat d_DayRow).2.2.1))), (w64 (v6 + (1 : Int))), (v7 ++ [(a0.getD v6.toNat d_DayRow).1])))))) (some (.go ((w64 ((w64 (v5 + ((a0.getD v6.toNat d_DayRow).2.1))) - ((a0.getD v6.toNat d_DayRow).2.2.1))), (w64 (v6 + (1 : Int))), v7)))))) ((some (.out v7))))
noncomputable def spec_LeftBehind (a0 : (List DayRow)) : Option ((List Int) × Bool) :=
  ((spec_l26Good a0).bind fun y1 => (cond (!y1) ((some (([] : List Int), false))) ((iter (fun s => spec_LeftBehind_loop1 a0 s.1 s.2.1 s.2.2) ((0 : Int), (0 : Int), ([] : List Int))).bind (fun r8 => (some (r8, true))))))
def spec_LeftBehind.res (_ : (List DayRow)) (y : (List Int) × Bool) : AV := (.tup [(.own 0), (.bl y.2)])
def spec_LeftBehind.out (_ : (List DayRow)) (y : (List Int) × Bool) : List (Option LB) := [some (.arr 3 (.int .i64) y.1)]
def spec_LeftBehind.S (ar : List AV) (h : List (Option LB)) (r : AV) (h1 : List (Option LB)) : Prop := ∃ a0 y, spec_LeftBehind a0 = some y ∧ leL ar [(.tree ty_DayRow a0)] ∧ leH h [] ∧ r = spec_LeftBehind.res a0 y ∧ h1 = spec_LeftBehind.out a0 y
theorem spec_LeftBehind.call {ar : List AV} {h : List (Option LB)} {a0 : (List DayRow)} {y : (List Int) × Bool} (H : spec_LeftBehind a0 = some y) (h0 : leLk ar [(.tree ty_DayRow a0)] (leHk h [])) : spec_LeftBehind.S ar h (spec_LeftBehind.res a0 y) (spec_LeftBehind.out a0 y) := ⟨a0, y, H, (args_ok h0).1, (args_ok h0).2, rfl, rfl⟩
set_option maxHeartbeats 100000000 in
set_option maxRecDepth 100000 in
theorem spec_LeftBehind.spec (a0 : (List DayRow)) (y : (List Int) × Bool) (H : spec_LeftBehind a0 = some y) : Spec Try.prog 15 [(.tree ty_DayRow a0)] [] (spec_LeftBehind.res a0 y) (spec_LeftBehind.out a0 y) := by
  refine spec_intro (G39_ok.at tok []) (ct := [(9, some [0, 4, 5, 6]), (11, some [4])]) Try.func15 rfl (by kernel_rfl) (by kernel_rfl) rfl ?_
  repeat' first
    | ((with_reducible refine eqg ?_); exact rfl)
    | ((with_reducible refine KOb.mk ?_); kernel_rfl)
    | ((with_reducible intro h); (repeat (first | replace H := grd_k H | replace H := out_step H (by assumption))); first | replace H := cond_t h H | replace H := cond_f h H | exact absurd h (by decide) | skip)
    | ((with_reducible refine Ob.mk ?_); first | (with_reducible rfl) | (first | ((repeat (first | (with_reducible exact grd_p H) | (replace H := grd_k H) | (replace H := out_step H (by assumption)))); done) | rfl | ((repeat (first | exact grd_p H | replace H := grd_k H | replace H := out_step H (by assumption))); done) | ((repeat (first | exact grd_p H | (have hp := grd_p H; exact hp) | replace H := grd_k H | replace H := out_step H (by assumption) | (replace H := bind_some H; obtain ⟨_, _, H⟩ := H))); done) | (repeat (first | exact grd_p H | replace H := grd_k H | replace H := out_step H (by assumption)))))
    | (with_reducible exact True.intro)
    | ((conv => whnf); first
        | (with_reducible refine And.intro ?_ ?_)
        | (with_reducible exact True.intro)
        | ((with_reducible refine Ob.mk ?_); first | (with_reducible rfl) | (first | ((repeat (first | (with_reducible exact grd_p H) | (replace H := grd_k H) | (replace H := out_step H (by assumption)))); done) | rfl | ((repeat (first | exact grd_p H | replace H := grd_k H | replace H := out_step H (by assumption))); done) | ((repeat (first | exact grd_p H | (have hp := grd_p H; exact hp) | replace H := grd_k H | replace H := out_step H (by assumption) | (replace H := bind_some H; obtain ⟨_, _, H⟩ := H))); done) | (repeat (first | exact grd_p H | replace H := grd_k H | replace H := out_step H (by assumption)))))
        | ((with_reducible refine CallW.mk ?_); (repeat (first | replace H := grd_k H | replace H := out_step H (by assumption))); replace H := bind_some H; obtain ⟨y, hy, H⟩ := H; first | ((with_reducible have hz : spec_l26Good _ = some y := hy); clear hz; refine Exists.intro _ (Exists.intro _ ⟨spec_l26Good.call hy ?_, rfl, rfl, ?_⟩)))
        | ((repeat (first | replace H := grd_k H | replace H := out_step H (by assumption))); refine loop_iter (G39_ok.at tok []) (ct := [(9, some [0, 4, 5, 6]), (11, some [4])]) (F := (fun s1 : Int × Int × (List Int) => ⟨sl [(0, (.tree ty_DayRow a0)), (4, (.own 0)), (5, (.v (.int .i64 s1.1))), (6, (.v (.int .i64 s1.2.1)))], [some (.arr 3 (.int .i64) s1.2.2)]⟩)) (step := (fun s : Int × Int × (List Int) => spec_LeftBehind_loop1 _ s.1 s.2.1 s.2.2)) _ H (by kernel_rfl) (sub_auto ?_) ?_; rotate_left; (intro s1 r v hr H); rotate_right)
        | ((repeat (first | replace H := grd_k H | replace H := out_step H (by assumption))); refine again_step H (by assumption) (sub_auto ?_))
        | ((with_reducible refine fin_mk ?_); (repeat (first | replace H := grd_k H | replace H := out_step H (by assumption))); have H := Option.some.inj H; subst H))
    | constructor
def G40 : Env := G39.add 15 [] spec_LeftBehind.S
theorem G40_ok : EnvOk Try.prog G40 := G39_ok.add ent_15 fun ar h r h1 ⟨a0, y, hy, e1, e2, e3, e4⟩ => by
  subst e3 e4; exact (spec_LeftBehind.spec a0 y hy).le e1 e2
attribute [local irreducible] spec_LeftBehind

noncomputable def spec_DrawUpsAnHour (a0 : (List Int)) : Option ((List DayRow)) :=
  ((spec_DrawAreDayRows a0).bind fun y1 => (some y1))
def spec_DrawUpsAnHour.res (_ : (List Int)) (_ : (List DayRow)) : AV := (.own 0)
def spec_DrawUpsAnHour.out (_ : (List Int)) (y : (List DayRow)) : List (Option LB) := [some (.arr 33 ty_DayRow y)]
def spec_DrawUpsAnHour.S (ar : List AV) (h : List (Option LB)) (r : AV) (h1 : List (Option LB)) : Prop := ∃ a0 y, spec_DrawUpsAnHour a0 = some y ∧ leL ar [(.tree (.int .u8) a0)] ∧ leH h [] ∧ r = spec_DrawUpsAnHour.res a0 y ∧ h1 = spec_DrawUpsAnHour.out a0 y
theorem spec_DrawUpsAnHour.call {ar : List AV} {h : List (Option LB)} {a0 : (List Int)} {y : (List DayRow)} (H : spec_DrawUpsAnHour a0 = some y) (h0 : leLk ar [(.tree (.int .u8) a0)] (leHk h [])) : spec_DrawUpsAnHour.S ar h (spec_DrawUpsAnHour.res a0 y) (spec_DrawUpsAnHour.out a0 y) := ⟨a0, y, H, (args_ok h0).1, (args_ok h0).2, rfl, rfl⟩
set_option maxHeartbeats 100000000 in
set_option maxRecDepth 100000 in
theorem spec_DrawUpsAnHour.spec (a0 : (List Int)) (y : (List DayRow)) (H : spec_DrawUpsAnHour a0 = some y) : Spec Try.prog 16 [(.tree (.int .u8) a0)] [] (spec_DrawUpsAnHour.res a0 y) (spec_DrawUpsAnHour.out a0 y) := by
  refine spec_intro (G40_ok.at tok []) (ct := []) Try.func16 rfl (by kernel_rfl) (by kernel_rfl) rfl ?_
  repeat' first
    | ((with_reducible refine eqg ?_); exact rfl)
    | ((with_reducible refine KOb.mk ?_); kernel_rfl)
    | ((with_reducible intro h); (repeat (first | replace H := grd_k H | replace H := out_step H (by assumption))); first | replace H := cond_t h H | replace H := cond_f h H | exact absurd h (by decide) | skip)
    | ((with_reducible refine Ob.mk ?_); first | (with_reducible rfl) | (first | ((repeat (first | (with_reducible exact grd_p H) | (replace H := grd_k H) | (replace H := out_step H (by assumption)))); done) | rfl | ((repeat (first | exact grd_p H | replace H := grd_k H | replace H := out_step H (by assumption))); done) | ((repeat (first | exact grd_p H | (have hp := grd_p H; exact hp) | replace H := grd_k H | replace H := out_step H (by assumption) | (replace H := bind_some H; obtain ⟨_, _, H⟩ := H))); done) | (repeat (first | exact grd_p H | replace H := grd_k H | replace H := out_step H (by assumption)))))
    | (with_reducible exact True.intro)
    | ((conv => whnf); first
        | (with_reducible refine And.intro ?_ ?_)
        | (with_reducible exact True.intro)
        | ((with_reducible refine Ob.mk ?_); first | (with_reducible rfl) | (first | ((repeat (first | (with_reducible exact grd_p H) | (replace H := grd_k H) | (replace H := out_step H (by assumption)))); done) | rfl | ((repeat (first | exact grd_p H | replace H := grd_k H | replace H := out_step H (by assumption))); done) | ((repeat (first | exact grd_p H | (have hp := grd_p H; exact hp) | replace H := grd_k H | replace H := out_step H (by assumption) | (replace H := bind_some H; obtain ⟨_, _, H⟩ := H))); done) | (repeat (first | exact grd_p H | replace H := grd_k H | replace H := out_step H (by assumption)))))
        | ((with_reducible refine CallW.mk ?_); (repeat (first | replace H := grd_k H | replace H := out_step H (by assumption))); replace H := bind_some H; obtain ⟨y, hy, H⟩ := H; first | ((with_reducible have hz : spec_DrawAreDayRows _ = some y := hy); clear hz; refine Exists.intro _ (Exists.intro _ ⟨spec_DrawAreDayRows.call hy ?_, rfl, rfl, ?_⟩)))
        | ((with_reducible refine fin_mk ?_); (repeat (first | replace H := grd_k H | replace H := out_step H (by assumption))); have H := Option.some.inj H; subst H))
    | constructor
def G41 : Env := G40.add 16 [] spec_DrawUpsAnHour.S
theorem G41_ok : EnvOk Try.prog G41 := G40_ok.add ent_16 fun ar h r h1 ⟨a0, y, hy, e1, e2, e3, e4⟩ => by
  subst e3 e4; exact (spec_DrawUpsAnHour.spec a0 y hy).le e1 e2
attribute [local irreducible] spec_DrawUpsAnHour

noncomputable def impl_sums_loop1 (a0 : (List DayRow)) (v5 : Int) (v6 : Int) (v7 : Int) (v8 : Int) : Option (Lp (Int × Int × Int × Int) ((Int × Int × Int))) :=
  (cond (decide (v8 < (a0.length : Int))) (grd (0 ≤ v8 ∧ v8 < (a0.length : Int)) (some (.go ((w64 (v5 + ((a0.getD v8.toNat d_DayRow).2.1))), (w64 (v6 + ((a0.getD v8.toNat d_DayRow).2.2.1))), (w64 (v7 + ((a0.getD v8.toNat d_DayRow).2.2.2.1))), (w64 (v8 + (1 : Int))))))) ((some (.out (v5, v6, v7)))))
noncomputable def impl_sums (a0 : (List DayRow)) : Option (Int × Int × Int) :=
  ((iter (fun s => impl_sums_loop1 a0 s.1 s.2.1 s.2.2.1 s.2.2.2) ((0 : Int), (0 : Int), (0 : Int), (0 : Int))).bind (fun r9 => (some (r9.1, r9.2.1, r9.2.2))))
def impl_sums.res (_ : (List DayRow)) (y : Int × Int × Int) : AV := (.tup [(.v (.int .i64 y.1)), (.v (.int .i64 y.2.1)), (.v (.int .i64 y.2.2))])
def impl_sums.out (_ : (List DayRow)) (_ : Int × Int × Int) : List (Option LB) := []
def impl_sums.S (ar : List AV) (h : List (Option LB)) (r : AV) (h1 : List (Option LB)) : Prop := ∃ a0 y, impl_sums a0 = some y ∧ leL ar [(.tree ty_DayRow a0)] ∧ leH h [] ∧ r = impl_sums.res a0 y ∧ h1 = impl_sums.out a0 y
theorem impl_sums.call {ar : List AV} {h : List (Option LB)} {a0 : (List DayRow)} {y : Int × Int × Int} (H : impl_sums a0 = some y) (h0 : leLk ar [(.tree ty_DayRow a0)] (leHk h [])) : impl_sums.S ar h (impl_sums.res a0 y) (impl_sums.out a0 y) := ⟨a0, y, H, (args_ok h0).1, (args_ok h0).2, rfl, rfl⟩
set_option maxHeartbeats 100000000 in
set_option maxRecDepth 100000 in
theorem impl_sums.spec (a0 : (List DayRow)) (y : Int × Int × Int) (H : impl_sums a0 = some y) : Spec Try.prog 33 [(.tree ty_DayRow a0)] [] (impl_sums.res a0 y) (impl_sums.out a0 y) := by
  refine spec_intro (G41_ok.at tok []) (ct := [(6, some [5, 6, 7, 10, 11, 12])]) Try.func33 rfl (by kernel_rfl) (by kernel_rfl) rfl ?_
  repeat' first
    | ((with_reducible refine eqg ?_); exact rfl)
    | ((with_reducible refine KOb.mk ?_); kernel_rfl)
    | ((with_reducible intro h); (repeat (first | replace H := grd_k H | replace H := out_step H (by assumption))); first | replace H := cond_t h H | replace H := cond_f h H | exact absurd h (by decide) | skip)
    | ((with_reducible refine Ob.mk ?_); first | (with_reducible rfl) | (first | ((repeat (first | (with_reducible exact grd_p H) | (replace H := grd_k H) | (replace H := out_step H (by assumption)))); done) | rfl | ((repeat (first | exact grd_p H | replace H := grd_k H | replace H := out_step H (by assumption))); done) | ((repeat (first | exact grd_p H | (have hp := grd_p H; exact hp) | replace H := grd_k H | replace H := out_step H (by assumption) | (replace H := bind_some H; obtain ⟨_, _, H⟩ := H))); done) | (repeat (first | exact grd_p H | replace H := grd_k H | replace H := out_step H (by assumption)))))
    | (with_reducible exact True.intro)
    | ((conv => whnf); first
        | (with_reducible refine And.intro ?_ ?_)
        | (with_reducible exact True.intro)
        | ((with_reducible refine Ob.mk ?_); first | (with_reducible rfl) | (first | ((repeat (first | (with_reducible exact grd_p H) | (replace H := grd_k H) | (replace H := out_step H (by assumption)))); done) | rfl | ((repeat (first | exact grd_p H | replace H := grd_k H | replace H := out_step H (by assumption))); done) | ((repeat (first | exact grd_p H | (have hp := grd_p H; exact hp) | replace H := grd_k H | replace H := out_step H (by assumption) | (replace H := bind_some H; obtain ⟨_, _, H⟩ := H))); done) | (repeat (first | exact grd_p H | replace H := grd_k H | replace H := out_step H (by assumption)))))
        | ((repeat (first | replace H := grd_k H | replace H := out_step H (by assumption))); refine loop_iter (G41_ok.at tok []) (ct := [(6, some [5, 6, 7, 10, 11, 12])]) (F := (fun s1 : Int × Int × Int × Int => ⟨sl [(5, (.v (.int .i64 s1.1))), (6, (.v (.int .i64 s1.2.1))), (7, (.v (.int .i64 s1.2.2.1))), (10, (.tree ty_DayRow a0)), (11, (.v (.int .i64 (a0.length : Int)))), (12, (.v (.int .i64 s1.2.2.2)))], []⟩)) (step := (fun s : Int × Int × Int × Int => impl_sums_loop1 _ s.1 s.2.1 s.2.2.1 s.2.2.2)) _ H (by kernel_rfl) (sub_auto ?_) ?_; rotate_left; (intro s1 r v hr H); rotate_right)
        | ((repeat (first | replace H := grd_k H | replace H := out_step H (by assumption))); refine again_step H (by assumption) (sub_auto ?_))
        | ((with_reducible refine fin_mk ?_); (repeat (first | replace H := grd_k H | replace H := out_step H (by assumption))); have H := Option.some.inj H; subst H))
    | constructor
def G42 : Env := G41.add 33 [] impl_sums.S
theorem G42_ok : EnvOk Try.prog G42 := G41_ok.add ent_33 fun ar h r h1 ⟨a0, y, hy, e1, e2, e3, e4⟩ => by
  subst e3 e4; exact (impl_sums.spec a0 y hy).le e1 e2
attribute [local irreducible] impl_sums

noncomputable def impl_divisor_loop1  (v3 : Int) (v4 : Int) : Option (Lp (Int × Int) ((Int))) :=
  (cond (!decide (v4 = (0 : Int))) (grd (v4 ≠ 0) (some (.go (v4, (Int.tmod v3 v4))))) ((some (.out v3))))
noncomputable def impl_divisor (a0 : Int) (a1 : Int) : Option (Int) :=
  ((iter (fun s => impl_divisor_loop1 s.1 s.2) (a0, a1)).bind (fun r5 => (some (if false = true then (if (w64 (0 - r5)) < r5 then (w64 (0 - r5)) else r5) else (if (w64 (0 - r5)) > r5 then (w64 (0 - r5)) else r5)))))
def impl_divisor.res (_ : Int) (_ : Int) (y : Int) : AV := (.v (.int .i64 y))
def impl_divisor.out (_ : Int) (_ : Int) (_ : Int) : List (Option LB) := []
def impl_divisor.S (ar : List AV) (h : List (Option LB)) (r : AV) (h1 : List (Option LB)) : Prop := ∃ a0 a1 y, impl_divisor a0 a1 = some y ∧ leL ar [(.v (.int .i64 a0)), (.v (.int .i64 a1))] ∧ leH h [] ∧ r = impl_divisor.res a0 a1 y ∧ h1 = impl_divisor.out a0 a1 y
theorem impl_divisor.call {ar : List AV} {h : List (Option LB)} {a0 : Int} {a1 : Int} {y : Int} (H : impl_divisor a0 a1 = some y) (h0 : leLk ar [(.v (.int .i64 a0)), (.v (.int .i64 a1))] (leHk h [])) : impl_divisor.S ar h (impl_divisor.res a0 a1 y) (impl_divisor.out a0 a1 y) := ⟨a0, a1, y, H, (args_ok h0).1, (args_ok h0).2, rfl, rfl⟩
set_option maxHeartbeats 100000000 in
set_option maxRecDepth 100000 in
theorem impl_divisor.spec (a0 : Int) (a1 : Int) (y : Int) (H : impl_divisor a0 a1 = some y) : Spec Try.prog 44 [(.v (.int .i64 a0)), (.v (.int .i64 a1))] [] (impl_divisor.res a0 a1 y) (impl_divisor.out a0 a1 y) := by
  refine spec_intro (G42_ok.at tok []) (ct := []) Try.func44 rfl (by kernel_rfl) (by kernel_rfl) rfl ?_
  repeat' first
    | ((with_reducible refine eqg ?_); exact rfl)
    | ((with_reducible refine KOb.mk ?_); kernel_rfl)
    | ((with_reducible intro h); (repeat (first | replace H := grd_k H | replace H := out_step H (by assumption))); first | replace H := cond_t h H | replace H := cond_f h H | exact absurd h (by decide) | skip)
    | ((with_reducible refine Ob.mk ?_); first | (with_reducible rfl) | (first | ((repeat (first | (with_reducible exact grd_p H) | (replace H := grd_k H) | (replace H := out_step H (by assumption)))); done) | rfl | ((repeat (first | exact grd_p H | replace H := grd_k H | replace H := out_step H (by assumption))); done) | ((repeat (first | exact grd_p H | (have hp := grd_p H; exact hp) | replace H := grd_k H | replace H := out_step H (by assumption) | (replace H := bind_some H; obtain ⟨_, _, H⟩ := H))); done) | (repeat (first | exact grd_p H | replace H := grd_k H | replace H := out_step H (by assumption)))))
    | (with_reducible exact True.intro)
    | ((conv => whnf); first
        | (with_reducible refine And.intro ?_ ?_)
        | (with_reducible exact True.intro)
        | ((with_reducible refine Ob.mk ?_); first | (with_reducible rfl) | (first | ((repeat (first | (with_reducible exact grd_p H) | (replace H := grd_k H) | (replace H := out_step H (by assumption)))); done) | rfl | ((repeat (first | exact grd_p H | replace H := grd_k H | replace H := out_step H (by assumption))); done) | ((repeat (first | exact grd_p H | (have hp := grd_p H; exact hp) | replace H := grd_k H | replace H := out_step H (by assumption) | (replace H := bind_some H; obtain ⟨_, _, H⟩ := H))); done) | (repeat (first | exact grd_p H | replace H := grd_k H | replace H := out_step H (by assumption)))))
        | ((repeat (first | replace H := grd_k H | replace H := out_step H (by assumption))); refine loop_iter (G42_ok.at tok []) (ct := []) (F := (fun s1 : Int × Int => ⟨sl [(0, (.v (.int .i64 s1.1))), (1, (.v (.int .i64 s1.2)))], []⟩)) (step := (fun s : Int × Int => impl_divisor_loop1 s.1 s.2)) _ H (by kernel_rfl) (sub_auto ?_) ?_; rotate_left; (intro s1 r v hr H); rotate_right)
        | ((repeat (first | replace H := grd_k H | replace H := out_step H (by assumption))); refine again_step H (by assumption) (sub_auto ?_))
        | ((with_reducible refine fin_mk ?_); (repeat (first | replace H := grd_k H | replace H := out_step H (by assumption))); have H := Option.some.inj H; subst H))
    | constructor
def G43 : Env := G42.add 44 [] impl_divisor.S
theorem G43_ok : EnvOk Try.prog G43 := G42_ok.add ent_44 fun ar h r h1 ⟨a0, a1, y, hy, e1, e2, e3, e4⟩ => by
  subst e3 e4; exact (impl_divisor.spec a0 a1 y hy).le e1 e2
attribute [local irreducible] impl_divisor

noncomputable def impl_lowest (a0 : Int) (a1 : Int) : Option (fraction) :=
  ((impl_divisor a0 a1).bind fun y1 => (grd (y1 ≠ 0) (grd (y1 ≠ 0) ((some ((w64 (Int.tdiv a0 y1)), (w64 (Int.tdiv a1 y1)), ()))))))
def impl_lowest.res (_ : Int) (_ : Int) (y : fraction) : AV := (.agg [(.v (.int .i64 y.1)), (.v (.int .i64 y.2.1))])
def impl_lowest.out (_ : Int) (_ : Int) (_ : fraction) : List (Option LB) := []
def impl_lowest.S (ar : List AV) (h : List (Option LB)) (r : AV) (h1 : List (Option LB)) : Prop := ∃ a0 a1 y, impl_lowest a0 a1 = some y ∧ leL ar [(.v (.int .i64 a0)), (.v (.int .i64 a1))] ∧ leH h [] ∧ r = impl_lowest.res a0 a1 y ∧ h1 = impl_lowest.out a0 a1 y
theorem impl_lowest.call {ar : List AV} {h : List (Option LB)} {a0 : Int} {a1 : Int} {y : fraction} (H : impl_lowest a0 a1 = some y) (h0 : leLk ar [(.v (.int .i64 a0)), (.v (.int .i64 a1))] (leHk h [])) : impl_lowest.S ar h (impl_lowest.res a0 a1 y) (impl_lowest.out a0 a1 y) := ⟨a0, a1, y, H, (args_ok h0).1, (args_ok h0).2, rfl, rfl⟩
set_option maxHeartbeats 100000000 in
set_option maxRecDepth 100000 in
theorem impl_lowest.spec (a0 : Int) (a1 : Int) (y : fraction) (H : impl_lowest a0 a1 = some y) : Spec Try.prog 34 [(.v (.int .i64 a0)), (.v (.int .i64 a1))] [] (impl_lowest.res a0 a1 y) (impl_lowest.out a0 a1 y) := by
  refine spec_intro (G43_ok.at tok []) (ct := []) Try.func34 rfl (by kernel_rfl) (by kernel_rfl) rfl ?_
  repeat' first
    | ((with_reducible refine eqg ?_); exact rfl)
    | ((with_reducible refine KOb.mk ?_); kernel_rfl)
    | ((with_reducible intro h); (repeat (first | replace H := grd_k H | replace H := out_step H (by assumption))); first | replace H := cond_t h H | replace H := cond_f h H | exact absurd h (by decide) | skip)
    | ((with_reducible refine Ob.mk ?_); first | (with_reducible rfl) | (first | ((repeat (first | (with_reducible exact grd_p H) | (replace H := grd_k H) | (replace H := out_step H (by assumption)))); done) | rfl | ((repeat (first | exact grd_p H | replace H := grd_k H | replace H := out_step H (by assumption))); done) | ((repeat (first | exact grd_p H | (have hp := grd_p H; exact hp) | replace H := grd_k H | replace H := out_step H (by assumption) | (replace H := bind_some H; obtain ⟨_, _, H⟩ := H))); done) | (repeat (first | exact grd_p H | replace H := grd_k H | replace H := out_step H (by assumption)))))
    | (with_reducible exact True.intro)
    | ((conv => whnf); first
        | (with_reducible refine And.intro ?_ ?_)
        | (with_reducible exact True.intro)
        | ((with_reducible refine Ob.mk ?_); first | (with_reducible rfl) | (first | ((repeat (first | (with_reducible exact grd_p H) | (replace H := grd_k H) | (replace H := out_step H (by assumption)))); done) | rfl | ((repeat (first | exact grd_p H | replace H := grd_k H | replace H := out_step H (by assumption))); done) | ((repeat (first | exact grd_p H | (have hp := grd_p H; exact hp) | replace H := grd_k H | replace H := out_step H (by assumption) | (replace H := bind_some H; obtain ⟨_, _, H⟩ := H))); done) | (repeat (first | exact grd_p H | replace H := grd_k H | replace H := out_step H (by assumption)))))
        | ((with_reducible refine CallW.mk ?_); (repeat (first | replace H := grd_k H | replace H := out_step H (by assumption))); replace H := bind_some H; obtain ⟨y, hy, H⟩ := H; first | ((with_reducible have hz : impl_divisor _ _ = some y := hy); clear hz; refine Exists.intro _ (Exists.intro _ ⟨impl_divisor.call hy ?_, rfl, rfl, ?_⟩)))
        | ((with_reducible refine fin_mk ?_); (repeat (first | replace H := grd_k H | replace H := out_step H (by assumption))); have H := Option.some.inj H; subst H))
    | constructor
def G44 : Env := G43.add 34 [] impl_lowest.S
theorem G44_ok : EnvOk Try.prog G44 := G43_ok.add ent_34 fun ar h r h1 ⟨a0, a1, y, hy, e1, e2, e3, e4⟩ => by
  subst e3 e4; exact (impl_lowest.spec a0 a1 y hy).le e1 e2
attribute [local irreducible] impl_lowest

noncomputable def impl_UpsAnHour (a0 : (List DayRow)) : Option (Int × Int × Bool) :=
  ((impl_AreDayRows a0).bind fun y1 => (cond (!y1) ((some ((0 : Int), (0 : Int), false))) ((impl_sums a0).bind fun y2 => (cond (decide (y2.2.2 = (0 : Int))) ((some ((0 : Int), (0 : Int), false))) ((impl_lowest y2.1 y2.2.2).bind fun y3 => (some (y3.1, y3.2.1, true)))))))
def impl_UpsAnHour.res (_ : (List DayRow)) (y : Int × Int × Bool) : AV := (.tup [(.v (.int .i64 y.1)), (.v (.int .i64 y.2.1)), (.bl y.2.2)])
def impl_UpsAnHour.out (_ : (List DayRow)) (_ : Int × Int × Bool) : List (Option LB) := []
def impl_UpsAnHour.S (ar : List AV) (h : List (Option LB)) (r : AV) (h1 : List (Option LB)) : Prop := ∃ a0 y, impl_UpsAnHour a0 = some y ∧ leL ar [(.tree ty_DayRow a0)] ∧ leH h [] ∧ r = impl_UpsAnHour.res a0 y ∧ h1 = impl_UpsAnHour.out a0 y
theorem impl_UpsAnHour.call {ar : List AV} {h : List (Option LB)} {a0 : (List DayRow)} {y : Int × Int × Bool} (H : impl_UpsAnHour a0 = some y) (h0 : leLk ar [(.tree ty_DayRow a0)] (leHk h [])) : impl_UpsAnHour.S ar h (impl_UpsAnHour.res a0 y) (impl_UpsAnHour.out a0 y) := ⟨a0, y, H, (args_ok h0).1, (args_ok h0).2, rfl, rfl⟩
set_option maxHeartbeats 100000000 in
set_option maxRecDepth 100000 in
theorem impl_UpsAnHour.spec (a0 : (List DayRow)) (y : Int × Int × Bool) (H : impl_UpsAnHour a0 = some y) : Spec Try.prog 17 [(.tree ty_DayRow a0)] [] (impl_UpsAnHour.res a0 y) (impl_UpsAnHour.out a0 y) := by
  refine spec_intro (G44_ok.at tok []) (ct := [(4, some [5, 7])]) Try.func17 rfl (by kernel_rfl) (by kernel_rfl) rfl ?_
  repeat' first
    | ((with_reducible refine eqg ?_); exact rfl)
    | ((with_reducible refine KOb.mk ?_); kernel_rfl)
    | ((with_reducible intro h); (repeat (first | replace H := grd_k H | replace H := out_step H (by assumption))); first | replace H := cond_t h H | replace H := cond_f h H | exact absurd h (by decide) | skip)
    | ((with_reducible refine Ob.mk ?_); first | (with_reducible rfl) | (first | ((repeat (first | (with_reducible exact grd_p H) | (replace H := grd_k H) | (replace H := out_step H (by assumption)))); done) | rfl | ((repeat (first | exact grd_p H | replace H := grd_k H | replace H := out_step H (by assumption))); done) | ((repeat (first | exact grd_p H | (have hp := grd_p H; exact hp) | replace H := grd_k H | replace H := out_step H (by assumption) | (replace H := bind_some H; obtain ⟨_, _, H⟩ := H))); done) | (repeat (first | exact grd_p H | replace H := grd_k H | replace H := out_step H (by assumption)))))
    | (with_reducible exact True.intro)
    | ((conv => whnf); first
        | (with_reducible refine And.intro ?_ ?_)
        | (with_reducible exact True.intro)
        | ((with_reducible refine Ob.mk ?_); first | (with_reducible rfl) | (first | ((repeat (first | (with_reducible exact grd_p H) | (replace H := grd_k H) | (replace H := out_step H (by assumption)))); done) | rfl | ((repeat (first | exact grd_p H | replace H := grd_k H | replace H := out_step H (by assumption))); done) | ((repeat (first | exact grd_p H | (have hp := grd_p H; exact hp) | replace H := grd_k H | replace H := out_step H (by assumption) | (replace H := bind_some H; obtain ⟨_, _, H⟩ := H))); done) | (repeat (first | exact grd_p H | replace H := grd_k H | replace H := out_step H (by assumption)))))
        | ((with_reducible refine CallW.mk ?_); (repeat (first | replace H := grd_k H | replace H := out_step H (by assumption))); replace H := bind_some H; obtain ⟨y, hy, H⟩ := H; first | ((with_reducible have hz : impl_AreDayRows _ = some y := hy); clear hz; refine Exists.intro _ (Exists.intro _ ⟨impl_AreDayRows.call hy ?_, rfl, rfl, ?_⟩)) | ((with_reducible have hz : impl_sums _ = some y := hy); clear hz; refine Exists.intro _ (Exists.intro _ ⟨impl_sums.call hy ?_, rfl, rfl, ?_⟩)) | ((with_reducible have hz : impl_lowest _ _ = some y := hy); clear hz; refine Exists.intro _ (Exists.intro _ ⟨impl_lowest.call hy ?_, rfl, rfl, ?_⟩)))
        | ((with_reducible refine fin_mk ?_); (repeat (first | replace H := grd_k H | replace H := out_step H (by assumption))); have H := Option.some.inj H; subst H))
    | constructor
def G45 : Env := G44.add 17 [] impl_UpsAnHour.S
theorem G45_ok : EnvOk Try.prog G45 := G44_ok.add ent_17 fun ar h r h1 ⟨a0, y, hy, e1, e2, e3, e4⟩ => by
  subst e3 e4; exact (impl_UpsAnHour.spec a0 y hy).le e1 e2
attribute [local irreducible] impl_UpsAnHour

noncomputable def spec_l26Common_loop1  (v3 : Int) (v4 : Int) : Option (Lp (Int × Int) ((Int))) :=
  (cond (decide ((0 : Int) < v4)) (grd (v4 ≠ 0) (some (.go (v4, (Int.tmod v3 v4))))) ((some (.out v3))))
noncomputable def spec_l26Common (a0 : Int) (a1 : Int) : Option (Int) :=
  ((iter (fun s => spec_l26Common_loop1 s.1 s.2) (a0, a1)).bind (fun r5 => (some r5)))
def spec_l26Common.res (_ : Int) (_ : Int) (y : Int) : AV := (.v (.int .i64 y))
def spec_l26Common.out (_ : Int) (_ : Int) (_ : Int) : List (Option LB) := []
def spec_l26Common.S (ar : List AV) (h : List (Option LB)) (r : AV) (h1 : List (Option LB)) : Prop := ∃ a0 a1 y, spec_l26Common a0 a1 = some y ∧ leL ar [(.v (.int .i64 a0)), (.v (.int .i64 a1))] ∧ leH h [] ∧ r = spec_l26Common.res a0 a1 y ∧ h1 = spec_l26Common.out a0 a1 y
theorem spec_l26Common.call {ar : List AV} {h : List (Option LB)} {a0 : Int} {a1 : Int} {y : Int} (H : spec_l26Common a0 a1 = some y) (h0 : leLk ar [(.v (.int .i64 a0)), (.v (.int .i64 a1))] (leHk h [])) : spec_l26Common.S ar h (spec_l26Common.res a0 a1 y) (spec_l26Common.out a0 a1 y) := ⟨a0, a1, y, H, (args_ok h0).1, (args_ok h0).2, rfl, rfl⟩
set_option maxHeartbeats 100000000 in
set_option maxRecDepth 100000 in
theorem spec_l26Common.spec (a0 : Int) (a1 : Int) (y : Int) (H : spec_l26Common a0 a1 = some y) : Spec Try.prog 35 [(.v (.int .i64 a0)), (.v (.int .i64 a1))] [] (spec_l26Common.res a0 a1 y) (spec_l26Common.out a0 a1 y) := by
  refine spec_intro (G45_ok.at tok []) (ct := []) Try.func35 rfl (by kernel_rfl) (by kernel_rfl) rfl ?_
  repeat' first
    | ((with_reducible refine eqg ?_); exact rfl)
    | ((with_reducible refine KOb.mk ?_); kernel_rfl)
    | ((with_reducible intro h); (repeat (first | replace H := grd_k H | replace H := out_step H (by assumption))); first | replace H := cond_t h H | replace H := cond_f h H | exact absurd h (by decide) | skip)
    | ((with_reducible refine Ob.mk ?_); first | (with_reducible rfl) | (first | ((repeat (first | (with_reducible exact grd_p H) | (replace H := grd_k H) | (replace H := out_step H (by assumption)))); done) | rfl | ((repeat (first | exact grd_p H | replace H := grd_k H | replace H := out_step H (by assumption))); done) | ((repeat (first | exact grd_p H | (have hp := grd_p H; exact hp) | replace H := grd_k H | replace H := out_step H (by assumption) | (replace H := bind_some H; obtain ⟨_, _, H⟩ := H))); done) | (repeat (first | exact grd_p H | replace H := grd_k H | replace H := out_step H (by assumption)))))
    | (with_reducible exact True.intro)
    | ((conv => whnf); first
        | (with_reducible refine And.intro ?_ ?_)
        | (with_reducible exact True.intro)
        | ((with_reducible refine Ob.mk ?_); first | (with_reducible rfl) | (first | ((repeat (first | (with_reducible exact grd_p H) | (replace H := grd_k H) | (replace H := out_step H (by assumption)))); done) | rfl | ((repeat (first | exact grd_p H | replace H := grd_k H | replace H := out_step H (by assumption))); done) | ((repeat (first | exact grd_p H | (have hp := grd_p H; exact hp) | replace H := grd_k H | replace H := out_step H (by assumption) | (replace H := bind_some H; obtain ⟨_, _, H⟩ := H))); done) | (repeat (first | exact grd_p H | replace H := grd_k H | replace H := out_step H (by assumption)))))
        | ((repeat (first | replace H := grd_k H | replace H := out_step H (by assumption))); refine loop_iter (G45_ok.at tok []) (ct := []) (F := (fun s1 : Int × Int => ⟨sl [(0, (.v (.int .i64 s1.1))), (1, (.v (.int .i64 s1.2)))], []⟩)) (step := (fun s : Int × Int => spec_l26Common_loop1 s.1 s.2)) _ H (by kernel_rfl) (sub_auto ?_) ?_; rotate_left; (intro s1 r v hr H); rotate_right)
        | ((repeat (first | replace H := grd_k H | replace H := out_step H (by assumption))); refine again_step H (by assumption) (sub_auto ?_))
        | ((with_reducible refine fin_mk ?_); (repeat (first | replace H := grd_k H | replace H := out_step H (by assumption))); have H := Option.some.inj H; subst H))
    | constructor
def G46 : Env := G45.add 35 [] spec_l26Common.S
theorem G46_ok : EnvOk Try.prog G46 := G45_ok.add ent_35 fun ar h r h1 ⟨a0, a1, y, hy, e1, e2, e3, e4⟩ => by
  subst e3 e4; exact (spec_l26Common.spec a0 a1 y hy).le e1 e2
attribute [local irreducible] spec_l26Common

noncomputable def spec_UpsAnHour_loop1 (a0 : (List DayRow)) (v5 : Int) (v6 : Int) (v7 : Int) : Option (Lp (Int × Int × Int) ((Int × Int))) :=
  (cond (decide (v7 < (a0.length : Int))) (grd (0 ≤ v7 ∧ v7 < (a0.length : Int)) (grd (0 ≤ v7 ∧ v7 < (a0.length : Int)) (some (.go ((w64 (v5 + ((a0.getD v7.toNat d_DayRow).2.1))), (w64 (v6 + ((a0.getD v7.toNat d_DayRow).2.2.2.1))), (w64 (v7 + (1 : Int)))))))) ((some (.out (v5, v6)))))
noncomputable def spec_UpsAnHour (a0 : (List DayRow)) : Option (Int × Int × Bool) :=
  ((spec_l26Good a0).bind fun y1 => (cond y1 ((iter (fun s => spec_UpsAnHour_loop1 a0 s.1 s.2.1 s.2.2) ((0 : Int), (0 : Int), (0 : Int))).bind (fun r8 => (cond (decide (r8.2 = (0 : Int))) ((some ((0 : Int), (0 : Int), false))) ((spec_l26Common r8.1 r8.2).bind fun y9 => (grd (y9 ≠ 0) (grd (y9 ≠ 0) ((some ((w64 (Int.tdiv r8.1 y9)), (w64 (Int.tdiv r8.2 y9)), true))))))))) ((some ((0 : Int), (0 : Int), false)))))
def spec_UpsAnHour.res (_ : (List DayRow)) (y : Int × Int × Bool) : AV := (.tup [(.v (.int .i64 y.1)), (.v (.int .i64 y.2.1)), (.bl y.2.2)])
def spec_UpsAnHour.out (_ : (List DayRow)) (_ : Int × Int × Bool) : List (Option LB) := []
def spec_UpsAnHour.S (ar : List AV) (h : List (Option LB)) (r : AV) (h1 : List (Option LB)) : Prop := ∃ a0 y, spec_UpsAnHour a0 = some y ∧ leL ar [(.tree ty_DayRow a0)] ∧ leH h [] ∧ r = spec_UpsAnHour.res a0 y ∧ h1 = spec_UpsAnHour.out a0 y
theorem spec_UpsAnHour.call {ar : List AV} {h : List (Option LB)} {a0 : (List DayRow)} {y : Int × Int × Bool} (H : spec_UpsAnHour a0 = some y) (h0 : leLk ar [(.tree ty_DayRow a0)] (leHk h [])) : spec_UpsAnHour.S ar h (spec_UpsAnHour.res a0 y) (spec_UpsAnHour.out a0 y) := ⟨a0, y, H, (args_ok h0).1, (args_ok h0).2, rfl, rfl⟩
set_option maxHeartbeats 100000000 in
set_option maxRecDepth 100000 in
theorem spec_UpsAnHour.spec (a0 : (List DayRow)) (y : Int × Int × Bool) (H : spec_UpsAnHour a0 = some y) : Spec Try.prog 18 [(.tree ty_DayRow a0)] [] (spec_UpsAnHour.res a0 y) (spec_UpsAnHour.out a0 y) := by
  refine spec_intro (G46_ok.at tok []) (ct := [(5, some [0, 5, 6, 7]), (10, some [5, 6])]) Try.func18 rfl (by kernel_rfl) (by kernel_rfl) rfl ?_
  repeat' first
    | ((with_reducible refine eqg ?_); exact rfl)
    | ((with_reducible refine KOb.mk ?_); kernel_rfl)
    | ((with_reducible intro h); (repeat (first | replace H := grd_k H | replace H := out_step H (by assumption))); first | replace H := cond_t h H | replace H := cond_f h H | exact absurd h (by decide) | skip)
    | ((with_reducible refine Ob.mk ?_); first | (with_reducible rfl) | (first | ((repeat (first | (with_reducible exact grd_p H) | (replace H := grd_k H) | (replace H := out_step H (by assumption)))); done) | rfl | ((repeat (first | exact grd_p H | replace H := grd_k H | replace H := out_step H (by assumption))); done) | ((repeat (first | exact grd_p H | (have hp := grd_p H; exact hp) | replace H := grd_k H | replace H := out_step H (by assumption) | (replace H := bind_some H; obtain ⟨_, _, H⟩ := H))); done) | (repeat (first | exact grd_p H | replace H := grd_k H | replace H := out_step H (by assumption)))))
    | (with_reducible exact True.intro)
    | ((conv => whnf); first
        | (with_reducible refine And.intro ?_ ?_)
        | (with_reducible exact True.intro)
        | ((with_reducible refine Ob.mk ?_); first | (with_reducible rfl) | (first | ((repeat (first | (with_reducible exact grd_p H) | (replace H := grd_k H) | (replace H := out_step H (by assumption)))); done) | rfl | ((repeat (first | exact grd_p H | replace H := grd_k H | replace H := out_step H (by assumption))); done) | ((repeat (first | exact grd_p H | (have hp := grd_p H; exact hp) | replace H := grd_k H | replace H := out_step H (by assumption) | (replace H := bind_some H; obtain ⟨_, _, H⟩ := H))); done) | (repeat (first | exact grd_p H | replace H := grd_k H | replace H := out_step H (by assumption)))))
        | ((with_reducible refine CallW.mk ?_); (repeat (first | replace H := grd_k H | replace H := out_step H (by assumption))); replace H := bind_some H; obtain ⟨y, hy, H⟩ := H; first | ((with_reducible have hz : spec_l26Good _ = some y := hy); clear hz; refine Exists.intro _ (Exists.intro _ ⟨spec_l26Good.call hy ?_, rfl, rfl, ?_⟩)) | ((with_reducible have hz : spec_l26Common _ _ = some y := hy); clear hz; refine Exists.intro _ (Exists.intro _ ⟨spec_l26Common.call hy ?_, rfl, rfl, ?_⟩)))
        | ((repeat (first | replace H := grd_k H | replace H := out_step H (by assumption))); refine loop_iter (G46_ok.at tok []) (ct := [(5, some [0, 5, 6, 7]), (10, some [5, 6])]) (F := (fun s1 : Int × Int × Int => ⟨sl [(0, (.tree ty_DayRow a0)), (5, (.v (.int .i64 s1.1))), (6, (.v (.int .i64 s1.2.1))), (7, (.v (.int .i64 s1.2.2)))], []⟩)) (step := (fun s : Int × Int × Int => spec_UpsAnHour_loop1 _ s.1 s.2.1 s.2.2)) _ H (by kernel_rfl) (sub_auto ?_) ?_; rotate_left; (intro s1 r v hr H); rotate_right)
        | ((repeat (first | replace H := grd_k H | replace H := out_step H (by assumption))); refine again_step H (by assumption) (sub_auto ?_))
        | ((with_reducible refine fin_mk ?_); (repeat (first | replace H := grd_k H | replace H := out_step H (by assumption))); have H := Option.some.inj H; subst H))
    | constructor
def G47 : Env := G46.add 18 [] spec_UpsAnHour.S
theorem G47_ok : EnvOk Try.prog G47 := G46_ok.add ent_18 fun ar h r h1 ⟨a0, y, hy, e1, e2, e3, e4⟩ => by
  subst e3 e4; exact (spec_UpsAnHour.spec a0 y hy).le e1 e2
attribute [local irreducible] spec_UpsAnHour

noncomputable def laws_FnDays_loop1  (v27 : Int) (v28 : (List Int)) (v29 : Bool) (v30 : Int) (v31 : Int) (v32 : (List DayRow)) : Option (Lp (Int × (List Int) × Bool × Int × Int × (List DayRow)) ((Int × (List Int) × Bool × Int × (List DayRow)))) :=
  (cond (decide (v31 < (v32.length : Int))) (cond v29 (grd (0 ≤ v31 ∧ v31 < (v32.length : Int)) ((laws_rHas v28 ((v32.getD v31.toNat d_DayRow).1)).bind fun y33 => (cond y33 (grd (0 ≤ v31 ∧ v31 < (v32.length : Int)) (cond (decide (((v32.getD v31.toNat d_DayRow).2.1) < v30)) (grd (0 ≤ v31 ∧ v31 < (v32.length : Int)) (some (.go (v27, v28, v29, ((v32.getD v31.toNat d_DayRow).2.1), (w64 (v31 + (1 : Int))), v32)))) (some (.go (v27, v28, v29, v30, (w64 (v31 + (1 : Int))), v32))))) (some (.go (v27, v28, v29, v30, (w64 (v31 + (1 : Int))), v32)))))) ((some (.out (v27, v28, v29, v30, v32))))) ((some (.out (v27, v28, v29, v30, v32)))))
noncomputable def laws_FnDays_loop2  (v54 : Int) (v55 : (List Int)) (v56 : Bool) (v57 : Int) (v58 : Int) (v59 : (List DayRow)) : Option (Lp (Int × (List Int) × Bool × Int × Int × (List DayRow)) ((Unit) ⊕ (Unit))) :=
  (cond (decide (v58 < (v59.length : Int))) (cond v56 (cond (decide ((0 : Int) < v54)) (grd (0 ≤ v58 ∧ v58 < (v59.length : Int)) (cond (decide ((0 : Int) < ((v59.getD v58.toNat d_DayRow).2.2.2.1))) (grd (0 ≤ v58 ∧ v58 < (v59.length : Int)) ((laws_rHas v55 ((v59.getD v58.toNat d_DayRow).1)).bind fun y60 => (cond (!y60) (grd (0 ≤ v58 ∧ v58 < (v59.length : Int)) (cond (decide (v57 < ((v59.getD v58.toNat d_DayRow).2.1))) ((some (.out (Sum.inl ())))) (some (.go (v54, v55, v56, v57, (w64 (v58 + (1 : Int))), v59))))) (some (.go (v54, v55, v56, v57, (w64 (v58 + (1 : Int))), v59)))))) (some (.go (v54, v55, v56, v57, (w64 (v58 + (1 : Int))), v59))))) ((some (.out (Sum.inr ()))))) ((some (.out (Sum.inr ()))))) ((some (.out (Sum.inr ())))))
noncomputable def laws_FnDays_loop3  (v85 : (List Int)) (v86 : Bool) (v87 : Int) (v88 : Int) (v89 : (List DayRow)) : Option (Lp ((List Int) × Bool × Int × Int × (List DayRow)) (((List Int) × Bool × Int × (List DayRow)))) :=
  (cond (decide (v88 < (v89.length : Int))) (grd (0 ≤ v88 ∧ v88 < (v89.length : Int)) (grd (0 ≤ v88 ∧ v88 < (v89.length : Int)) (some (.go (v85, v86, (w64 ((w64 (v87 + ((v89.getD v88.toNat d_DayRow).2.1))) - ((v89.getD v88.toNat d_DayRow).2.2.1))), (w64 (v88 + (1 : Int))), v89))))) ((some (.out (v85, v86, v87, v89)))))
noncomputable def laws_FnDays (a0 : (List Int)) : Option (Bool) :=
  ((laws_rBig a0).bind fun y1 => (cond y1 ((some true)) ((spec_DrawBestDays a0).bind fun y2 => (((impl_BestDays y2.1 y2.2).bind (Sum.elim (fun y4 => (some ((Tg.mk : Tg 1), y2.2, [], false, y4))) (fun y5 => (some ((Tg.mk : Tg 1), y2.2, y5.1, true, y5.2))))).bind fun z6 => (joinx ((spec_BestDays z6.2.2.2.2 z6.2.1).bind fun y7 => (cond (!(z6.2.2.2.1 == y7.2)) (outm ((some false))) ((laws_rInts z6.2.2.1 y7.1).bind fun y8 => (cond (!y8) (outm ((some false))) (cond z6.2.2.2.1 (cond (decide (z6.2.1 < (z6.2.2.1.length : Int))) (outm ((some false))) ((some (.go (z6.2.1, z6.2.2.1, z6.2.2.2.1, z6.2.2.2.2))))) ((some (.go (z6.2.1, z6.2.2.1, z6.2.2.2.1, z6.2.2.2.2))))))))) (fun (z9 : Int × (List Int) × Bool × (List DayRow)) => ((iter (fun s => laws_FnDays_loop1 s.1 s.2.1 s.2.2.1 s.2.2.2.1 s.2.2.2.2.1 s.2.2.2.2.2) (z9.1, z9.2.1, z9.2.2.1, (100000 : Int), (0 : Int), z9.2.2.2)).bind (fun r34 => ((iter (fun s => laws_FnDays_loop2 s.1 s.2.1 s.2.2.1 s.2.2.2.1 s.2.2.2.2.1 s.2.2.2.2.2) (r34.1, r34.2.1, r34.2.2.1, r34.2.2.2.1, (0 : Int), r34.2.2.2.2)).bind (Sum.elim (fun _ => (some false)) (fun _ => ((spec_DrawMainReason a0).bind fun y64 => ((impl_MainReason y64).bind fun y65 => ((spec_MainReason y64).bind fun y66 => (cond (!decide (y65.1 = y66.1)) ((some false)) (cond (!decide (y65.2.1 = y66.2.1)) ((some false)) (cond (!(y65.2.2 == y66.2.2)) ((some false)) ((spec_DrawLeftBehind a0).bind fun y67 => (((impl_LeftBehind y67).bind (Sum.elim (fun _ => (some ((Tg.mk : Tg 2), [], false, y67))) (fun y70 => (some ((Tg.mk : Tg 2), y70, true, y67))))).bind fun z71 => ((spec_LeftBehind z71.2.2.2).bind fun y72 => (cond (!(z71.2.2.1 == y72.2)) ((some false)) ((laws_rInts z71.2.1 y72.1).bind fun y73 => (cond (!y73) ((some false)) ((iter (fun s => laws_FnDays_loop3 s.1 s.2.1 s.2.2.1 s.2.2.2.1 s.2.2.2.2) (z71.2.1, z71.2.2.1, (0 : Int), (0 : Int), z71.2.2.2)).bind (fun r90 => (joinx (cond (decide ((0 : Int) < (r90.2.2.2.length : Int))) (cond r90.2.1 (grd (0 ≤ (w64 ((r90.2.2.2.length : Int) - (1 : Int))) ∧ (w64 ((r90.2.2.2.length : Int) - (1 : Int))) < (r90.2.2.2.length : Int)) ((laws_rHas r90.1 ((r90.2.2.2.getD ((w64 ((r90.2.2.2.length : Int) - (1 : Int))).toNat) d_DayRow).1)).bind fun y91 => (cond (!(y91 == (decide ((0 : Int) < r90.2.2.1)))) (outm ((some false))) ((some (.go ())))))) ((some (.go ())))) ((some (.go ())))) (fun (_ : Unit) => ((spec_DrawUpsAnHour a0).bind fun y93 => ((impl_UpsAnHour y93).bind fun y94 => ((spec_UpsAnHour y93).bind fun y95 => (cond (decide (y94.1 = y95.1)) (cond (decide (y94.2.1 = y95.2.1)) ((some (y94.2.2 == y95.2.2))) ((some false))) ((some false)))))))))))))))))))))))))))))))))
def laws_FnDays.res (_ : (List Int)) (y : Bool) : AV := (.bl y)
def laws_FnDays.out (_ : (List Int)) (_ : Bool) : List (Option LB) := []
def laws_FnDays.S (ar : List AV) (h : List (Option LB)) (r : AV) (h1 : List (Option LB)) : Prop := ∃ a0 y, laws_FnDays a0 = some y ∧ leL ar [(.tree (.int .u8) a0)] ∧ leH h [] ∧ r = laws_FnDays.res a0 y ∧ h1 = laws_FnDays.out a0 y
theorem laws_FnDays.call {ar : List AV} {h : List (Option LB)} {a0 : (List Int)} {y : Bool} (H : laws_FnDays a0 = some y) (h0 : leLk ar [(.tree (.int .u8) a0)] (leHk h [])) : laws_FnDays.S ar h (laws_FnDays.res a0 y) (laws_FnDays.out a0 y) := ⟨a0, y, H, (args_ok h0).1, (args_ok h0).2, rfl, rfl⟩
set_option maxHeartbeats 100000000 in
set_option maxRecDepth 100000 in
theorem laws_FnDays.spec (a0 : (List Int)) (y : Bool) (H : laws_FnDays a0 = some y) : Spec Try.prog 3 [(.tree (.int .u8) a0)] [] (laws_FnDays.res a0 y) (laws_FnDays.out a0 y) := by
  refine spec_intro (G47_ok.at tok []) (ct := [(5, none), (8, none), (26, none), (37, none), (7, some [0, 3, 4, 5, 6, 70, 76, 88, 89, 90, 91, 92, 93, 94, 106, 109, 110, 121, 122, 123, 124, 125, 126, 127, 128, 131, 132, 133, 134, 135, 136, 137, 157, 158, 159, 162, 163, 164, 182, 183, 184, 185, 211, 214, 215, 216, 217, 218, 219, 220, 221, 222, 223, 224, 244, 245, 246, 249, 250, 251]), (13, some [0, 3, 4, 5, 6, 9, 10, 76, 88, 89, 90, 91, 92, 93, 94, 95, 106, 109, 110, 121, 122, 123, 124, 125, 126, 127, 128, 131, 132, 133, 134, 135, 136, 137, 157, 158, 159, 162, 163, 164, 182, 183, 184, 185, 211, 214, 215, 216, 217, 218, 219, 220, 221, 222, 223, 224, 244, 245, 246, 249, 250, 251]), (18, some [0, 3, 4, 5, 6, 9, 11, 106, 109, 110, 121, 122, 123, 124, 125, 126, 127, 128, 131, 132, 133, 134, 135, 136, 137, 138, 157, 158, 159, 162, 163, 164, 182, 183, 184, 185, 211, 214, 215, 216, 217, 218, 219, 220, 221, 222, 223, 224, 244, 245, 246, 249, 250, 251]), (21, some [0, 12, 13, 14, 15, 157, 158, 159, 162, 163, 164, 182, 183, 184, 185, 211, 214, 215, 216, 217, 218, 219, 220, 221, 222, 223, 224, 244, 245, 246, 249, 250, 251]), (23, some [0, 165, 182, 183, 184, 185, 211, 214, 215, 216, 217, 218, 219, 220, 221, 222, 223, 224, 244, 245, 246, 249, 250, 251]), (28, some [0, 19, 20, 21, 186, 211, 214, 215, 216, 217, 218, 219, 220, 221, 222, 223, 224, 244, 245, 246, 249, 250, 251]), (32, some [0, 19, 20, 21, 24, 25, 211, 214, 215, 216, 217, 218, 219, 220, 221, 222, 223, 224, 244, 245, 246, 249, 250, 251]), (36, some [0, 225, 244, 245, 246, 249, 250, 251]), (40, some [28, 29, 30, 31, 32, 33, 244, 245, 246, 249, 250, 251])]) Try.func3 rfl (by kernel_rfl) (by kernel_rfl) rfl ?_
  repeat' first
    | (with_reducible exact (outm_no H).elim)
    | ((replace H := out_step H (by assumption)); exact (outm_no H).elim)
    | ((with_reducible refine eqg ?_); exact rfl)
    | ((with_reducible refine KOb.mk ?_); kernel_rfl)
    | ((with_reducible intro h); (repeat (first | replace H := grd_k H | replace H := out_step H (by assumption) | replace H := outm_out H)); first | replace H := cond_t h H | replace H := cond_f h H | exact absurd h (by decide) | skip)
    | ((with_reducible refine Ob.mk ?_); first | (with_reducible rfl) | (first | ((repeat (first | (with_reducible exact grd_p H) | (replace H := grd_k H) | (replace H := out_step H (by assumption)) | replace H := outm_out H)); done) | rfl | ((repeat (first | exact grd_p H | replace H := grd_k H | replace H := out_step H (by assumption) | replace H := outm_out H)); done) | ((repeat (first | exact grd_p H | (have hp := grd_p H; exact hp) | replace H := grd_k H | replace H := out_step H (by assumption) | replace H := outm_out H | (replace H := bind_some H; obtain ⟨_, _, H⟩ := H))); done) | (repeat (first | exact grd_p H | replace H := grd_k H | replace H := out_step H (by assumption) | replace H := outm_out H))))
    | (with_reducible exact True.intro)
    | ((conv => whnf); first
        | (with_reducible refine And.intro ?_ ?_)
        | (with_reducible exact True.intro)
        | ((with_reducible refine Ob.mk ?_); first | (with_reducible rfl) | (first | ((repeat (first | (with_reducible exact grd_p H) | (replace H := grd_k H) | (replace H := out_step H (by assumption)) | replace H := outm_out H)); done) | rfl | ((repeat (first | exact grd_p H | replace H := grd_k H | replace H := out_step H (by assumption) | replace H := outm_out H)); done) | ((repeat (first | exact grd_p H | (have hp := grd_p H; exact hp) | replace H := grd_k H | replace H := out_step H (by assumption) | replace H := outm_out H | (replace H := bind_some H; obtain ⟨_, _, H⟩ := H))); done) | (repeat (first | exact grd_p H | replace H := grd_k H | replace H := out_step H (by assumption) | replace H := outm_out H))))
        | ((with_reducible refine CallW.mk ?_); (repeat (first | replace H := grd_k H | replace H := out_step H (by assumption) | replace H := outm_out H)); replace H := bind_some H; obtain ⟨y, hy, H⟩ := H; first | ((with_reducible have hz : laws_rBig _ = some y := hy); clear hz; refine Exists.intro _ (Exists.intro _ ⟨laws_rBig.call hy ?_, rfl, rfl, ?_⟩)) | ((with_reducible have hz : spec_DrawBestDays _ = some y := hy); clear hz; refine Exists.intro _ (Exists.intro _ ⟨spec_DrawBestDays.call hy ?_, rfl, rfl, ?_⟩)) | ((with_reducible have hz : impl_BestDays _ _ = some y := hy); clear hz; rcases y with y | y <;> refine Exists.intro _ (Exists.intro _ ⟨impl_BestDays.call hy ?_, rfl, rfl, ?_⟩)) | ((with_reducible have hz : spec_BestDays _ _ = some y := hy); clear hz; refine Exists.intro _ (Exists.intro _ ⟨spec_BestDays.call hy ?_, rfl, rfl, ?_⟩)) | ((with_reducible have hz : laws_rInts _ _ = some y := hy); clear hz; refine Exists.intro _ (Exists.intro _ ⟨laws_rInts.call hy ?_, rfl, rfl, ?_⟩)) | ((with_reducible have hz : laws_rHas _ _ = some y := hy); clear hz; refine Exists.intro _ (Exists.intro _ ⟨laws_rHas.call hy ?_, rfl, rfl, ?_⟩)) | ((with_reducible have hz : spec_DrawMainReason _ = some y := hy); clear hz; refine Exists.intro _ (Exists.intro _ ⟨spec_DrawMainReason.call hy ?_, rfl, rfl, ?_⟩)) | ((with_reducible have hz : impl_MainReason _ = some y := hy); clear hz; refine Exists.intro _ (Exists.intro _ ⟨impl_MainReason.call hy ?_, rfl, rfl, ?_⟩)) | ((with_reducible have hz : spec_MainReason _ = some y := hy); clear hz; refine Exists.intro _ (Exists.intro _ ⟨spec_MainReason.call hy ?_, rfl, rfl, ?_⟩)) | ((with_reducible have hz : spec_DrawLeftBehind _ = some y := hy); clear hz; refine Exists.intro _ (Exists.intro _ ⟨spec_DrawLeftBehind.call hy ?_, rfl, rfl, ?_⟩)) | ((with_reducible have hz : impl_LeftBehind _ = some y := hy); clear hz; rcases y with y | y <;> refine Exists.intro _ (Exists.intro _ ⟨impl_LeftBehind.call hy ?_, rfl, rfl, ?_⟩)) | ((with_reducible have hz : spec_LeftBehind _ = some y := hy); clear hz; refine Exists.intro _ (Exists.intro _ ⟨spec_LeftBehind.call hy ?_, rfl, rfl, ?_⟩)) | ((with_reducible have hz : spec_DrawUpsAnHour _ = some y := hy); clear hz; refine Exists.intro _ (Exists.intro _ ⟨spec_DrawUpsAnHour.call hy ?_, rfl, rfl, ?_⟩)) | ((with_reducible have hz : impl_UpsAnHour _ = some y := hy); clear hz; refine Exists.intro _ (Exists.intro _ ⟨impl_UpsAnHour.call hy ?_, rfl, rfl, ?_⟩)) | ((with_reducible have hz : spec_UpsAnHour _ = some y := hy); clear hz; refine Exists.intro _ (Exists.intro _ ⟨spec_UpsAnHour.call hy ?_, rfl, rfl, ?_⟩)))
        | ((repeat (first | replace H := grd_k H | replace H := out_step H (by assumption) | replace H := outm_out H)); refine loop_iter (G47_ok.at tok []) (ct := [(5, none), (8, none), (26, none), (37, none), (7, some [0, 3, 4, 5, 6, 70, 76, 88, 89, 90, 91, 92, 93, 94, 106, 109, 110, 121, 122, 123, 124, 125, 126, 127, 128, 131, 132, 133, 134, 135, 136, 137, 157, 158, 159, 162, 163, 164, 182, 183, 184, 185, 211, 214, 215, 216, 217, 218, 219, 220, 221, 222, 223, 224, 244, 245, 246, 249, 250, 251]), (13, some [0, 3, 4, 5, 6, 9, 10, 76, 88, 89, 90, 91, 92, 93, 94, 95, 106, 109, 110, 121, 122, 123, 124, 125, 126, 127, 128, 131, 132, 133, 134, 135, 136, 137, 157, 158, 159, 162, 163, 164, 182, 183, 184, 185, 211, 214, 215, 216, 217, 218, 219, 220, 221, 222, 223, 224, 244, 245, 246, 249, 250, 251]), (18, some [0, 3, 4, 5, 6, 9, 11, 106, 109, 110, 121, 122, 123, 124, 125, 126, 127, 128, 131, 132, 133, 134, 135, 136, 137, 138, 157, 158, 159, 162, 163, 164, 182, 183, 184, 185, 211, 214, 215, 216, 217, 218, 219, 220, 221, 222, 223, 224, 244, 245, 246, 249, 250, 251]), (21, some [0, 12, 13, 14, 15, 157, 158, 159, 162, 163, 164, 182, 183, 184, 185, 211, 214, 215, 216, 217, 218, 219, 220, 221, 222, 223, 224, 244, 245, 246, 249, 250, 251]), (23, some [0, 165, 182, 183, 184, 185, 211, 214, 215, 216, 217, 218, 219, 220, 221, 222, 223, 224, 244, 245, 246, 249, 250, 251]), (28, some [0, 19, 20, 21, 186, 211, 214, 215, 216, 217, 218, 219, 220, 221, 222, 223, 224, 244, 245, 246, 249, 250, 251]), (32, some [0, 19, 20, 21, 24, 25, 211, 214, 215, 216, 217, 218, 219, 220, 221, 222, 223, 224, 244, 245, 246, 249, 250, 251]), (36, some [0, 225, 244, 245, 246, 249, 250, 251]), (40, some [28, 29, 30, 31, 32, 33, 244, 245, 246, 249, 250, 251])]) (F := (fun s1 : Int × (List Int) × Bool × Int × Int × (List DayRow) => ⟨sl [(0, (.tree (.int .u8) a0)), (3, (.own 0)), (4, (.v (.int .i64 s1.1))), (5, (.tree (.int .i64) s1.2.1)), (6, (.bl s1.2.2.1)), (9, (.v (.int .i64 s1.2.2.2.1))), (10, (.v (.int .i64 s1.2.2.2.2.1)))], [some (.arr 33 ty_DayRow s1.2.2.2.2.2)]⟩)) (step := (fun s : Int × (List Int) × Bool × Int × Int × (List DayRow) => laws_FnDays_loop1 s.1 s.2.1 s.2.2.1 s.2.2.2.1 s.2.2.2.2.1 s.2.2.2.2.2)) _ H (by kernel_rfl) (sub_auto ?_) ?_; rotate_left; (intro s1 r v hr H); rotate_right)
        | ((repeat (first | replace H := grd_k H | replace H := out_step H (by assumption) | replace H := outm_out H)); refine loop_iter (G47_ok.at tok []) (ct := [(5, none), (8, none), (26, none), (37, none), (7, some [0, 3, 4, 5, 6, 70, 76, 88, 89, 90, 91, 92, 93, 94, 106, 109, 110, 121, 122, 123, 124, 125, 126, 127, 128, 131, 132, 133, 134, 135, 136, 137, 157, 158, 159, 162, 163, 164, 182, 183, 184, 185, 211, 214, 215, 216, 217, 218, 219, 220, 221, 222, 223, 224, 244, 245, 246, 249, 250, 251]), (13, some [0, 3, 4, 5, 6, 9, 10, 76, 88, 89, 90, 91, 92, 93, 94, 95, 106, 109, 110, 121, 122, 123, 124, 125, 126, 127, 128, 131, 132, 133, 134, 135, 136, 137, 157, 158, 159, 162, 163, 164, 182, 183, 184, 185, 211, 214, 215, 216, 217, 218, 219, 220, 221, 222, 223, 224, 244, 245, 246, 249, 250, 251]), (18, some [0, 3, 4, 5, 6, 9, 11, 106, 109, 110, 121, 122, 123, 124, 125, 126, 127, 128, 131, 132, 133, 134, 135, 136, 137, 138, 157, 158, 159, 162, 163, 164, 182, 183, 184, 185, 211, 214, 215, 216, 217, 218, 219, 220, 221, 222, 223, 224, 244, 245, 246, 249, 250, 251]), (21, some [0, 12, 13, 14, 15, 157, 158, 159, 162, 163, 164, 182, 183, 184, 185, 211, 214, 215, 216, 217, 218, 219, 220, 221, 222, 223, 224, 244, 245, 246, 249, 250, 251]), (23, some [0, 165, 182, 183, 184, 185, 211, 214, 215, 216, 217, 218, 219, 220, 221, 222, 223, 224, 244, 245, 246, 249, 250, 251]), (28, some [0, 19, 20, 21, 186, 211, 214, 215, 216, 217, 218, 219, 220, 221, 222, 223, 224, 244, 245, 246, 249, 250, 251]), (32, some [0, 19, 20, 21, 24, 25, 211, 214, 215, 216, 217, 218, 219, 220, 221, 222, 223, 224, 244, 245, 246, 249, 250, 251]), (36, some [0, 225, 244, 245, 246, 249, 250, 251]), (40, some [28, 29, 30, 31, 32, 33, 244, 245, 246, 249, 250, 251])]) (F := (fun s2 : Int × (List Int) × Bool × Int × Int × (List DayRow) => ⟨sl [(0, (.tree (.int .u8) a0)), (3, (.own 0)), (4, (.v (.int .i64 s2.1))), (5, (.tree (.int .i64) s2.2.1)), (6, (.bl s2.2.2.1)), (9, (.v (.int .i64 s2.2.2.2.1))), (11, (.v (.int .i64 s2.2.2.2.2.1)))], [some (.arr 33 ty_DayRow s2.2.2.2.2.2)]⟩)) (step := (fun s : Int × (List Int) × Bool × Int × Int × (List DayRow) => laws_FnDays_loop2 s.1 s.2.1 s.2.2.1 s.2.2.2.1 s.2.2.2.2.1 s.2.2.2.2.2)) _ H (by kernel_rfl) (sub_auto ?_) ?_; rotate_left; (intro s2 r v hr H); rotate_right)
        | ((repeat (first | replace H := grd_k H | replace H := out_step H (by assumption) | replace H := outm_out H)); refine loop_iter (G47_ok.at tok []) (ct := [(5, none), (8, none), (26, none), (37, none), (7, some [0, 3, 4, 5, 6, 70, 76, 88, 89, 90, 91, 92, 93, 94, 106, 109, 110, 121, 122, 123, 124, 125, 126, 127, 128, 131, 132, 133, 134, 135, 136, 137, 157, 158, 159, 162, 163, 164, 182, 183, 184, 185, 211, 214, 215, 216, 217, 218, 219, 220, 221, 222, 223, 224, 244, 245, 246, 249, 250, 251]), (13, some [0, 3, 4, 5, 6, 9, 10, 76, 88, 89, 90, 91, 92, 93, 94, 95, 106, 109, 110, 121, 122, 123, 124, 125, 126, 127, 128, 131, 132, 133, 134, 135, 136, 137, 157, 158, 159, 162, 163, 164, 182, 183, 184, 185, 211, 214, 215, 216, 217, 218, 219, 220, 221, 222, 223, 224, 244, 245, 246, 249, 250, 251]), (18, some [0, 3, 4, 5, 6, 9, 11, 106, 109, 110, 121, 122, 123, 124, 125, 126, 127, 128, 131, 132, 133, 134, 135, 136, 137, 138, 157, 158, 159, 162, 163, 164, 182, 183, 184, 185, 211, 214, 215, 216, 217, 218, 219, 220, 221, 222, 223, 224, 244, 245, 246, 249, 250, 251]), (21, some [0, 12, 13, 14, 15, 157, 158, 159, 162, 163, 164, 182, 183, 184, 185, 211, 214, 215, 216, 217, 218, 219, 220, 221, 222, 223, 224, 244, 245, 246, 249, 250, 251]), (23, some [0, 165, 182, 183, 184, 185, 211, 214, 215, 216, 217, 218, 219, 220, 221, 222, 223, 224, 244, 245, 246, 249, 250, 251]), (28, some [0, 19, 20, 21, 186, 211, 214, 215, 216, 217, 218, 219, 220, 221, 222, 223, 224, 244, 245, 246, 249, 250, 251]), (32, some [0, 19, 20, 21, 24, 25, 211, 214, 215, 216, 217, 218, 219, 220, 221, 222, 223, 224, 244, 245, 246, 249, 250, 251]), (36, some [0, 225, 244, 245, 246, 249, 250, 251]), (40, some [28, 29, 30, 31, 32, 33, 244, 245, 246, 249, 250, 251])]) (F := (fun s3 : (List Int) × Bool × Int × Int × (List DayRow) => ⟨sl [(0, (.tree (.int .u8) a0)), (19, (.own 0)), (20, (.tree (.int .i64) s3.1)), (21, (.bl s3.2.1)), (24, (.v (.int .i64 s3.2.2.1))), (25, (.v (.int .i64 s3.2.2.2.1)))], [some (.arr 33 ty_DayRow s3.2.2.2.2)]⟩)) (step := (fun s : (List Int) × Bool × Int × Int × (List DayRow) => laws_FnDays_loop3 s.1 s.2.1 s.2.2.1 s.2.2.2.1 s.2.2.2.2)) _ H (by kernel_rfl) (sub_auto ?_) ?_; rotate_left; (intro s3 r v hr H); rotate_right)
        | ((with_reducible refine cutAt (id := 5) ?_); (repeat (first | replace H := grd_k H | replace H := out_step H (by assumption) | replace H := outm_out H)); first | (replace H := bind_some H; obtain ⟨z, hz, H⟩ := H; have hT : Tg 1 × Int × (List Int) × Bool × (List DayRow) := z; clear hT; refine CutC.mk (id := 5) ⟨sl [(0, (.tree (.int .u8) a0)), (3, (.own 0)), (4, (.v (.int .i64 z.2.1))), (5, (.tree (.int .i64) z.2.2.1)), (6, (.bl z.2.2.2.1))], [some (.arr 33 ty_DayRow z.2.2.2.2)]⟩ ?_ ?_; (replace H := hz)))
        | ((with_reducible refine cutAt (id := 8) ?_); (repeat (first | replace H := grd_k H | replace H := out_step H (by assumption) | replace H := outm_out H)); first | (replace H := joinx_some H; rcases H with ⟨z, hz, H⟩ | H; rotate_left; (with_reducible refine CutC.no ?_); rotate_right; (refine CutC.mk (id := 8) ⟨sl [(0, (.tree (.int .u8) a0)), (3, (.own 0)), (4, (.v (.int .i64 z.1))), (5, (.tree (.int .i64) z.2.1)), (6, (.bl z.2.2.1))], [some (.arr 33 ty_DayRow z.2.2.2)]⟩ ?_ ?_; (replace H := hz))))
        | ((with_reducible refine cutAt (id := 26) ?_); (repeat (first | replace H := grd_k H | replace H := out_step H (by assumption) | replace H := outm_out H)); first | (replace H := bind_some H; obtain ⟨z, hz, H⟩ := H; have hT : Tg 2 × (List Int) × Bool × (List DayRow) := z; clear hT; refine CutC.mk (id := 26) ⟨sl [(0, (.tree (.int .u8) a0)), (19, (.own 0)), (20, (.tree (.int .i64) z.2.1)), (21, (.bl z.2.2.1))], [some (.arr 33 ty_DayRow z.2.2.2)]⟩ ?_ ?_; (replace H := hz)))
        | ((with_reducible refine cutAt (id := 37) ?_); (repeat (first | replace H := grd_k H | replace H := out_step H (by assumption) | replace H := outm_out H)); first | (replace H := joinx_some H; rcases H with ⟨z, hz, H⟩ | H; rotate_left; (with_reducible refine CutC.no ?_); rotate_right; (refine CutC.mk (id := 37) ⟨sl [(0, (.tree (.int .u8) a0))], []⟩ ?_ ?_; (replace H := hz))))
        | ((repeat (first | replace H := grd_k H | replace H := out_step H (by assumption) | replace H := outm_out H)); have H := Option.some.inj H; subst H; with_reducible refine sub_auto ?_)
        | ((repeat (first | replace H := grd_k H | replace H := out_step H (by assumption) | replace H := outm_out H)); have H := go_inj H; subst H; with_reducible refine sub_auto ?_)
        | ((repeat (first | replace H := grd_k H | replace H := out_step H (by assumption) | replace H := outm_out H)); exact (go_out H).elim)
        | ((repeat (first | replace H := grd_k H | replace H := out_step H (by assumption) | replace H := outm_out H)); refine again_step H (by assumption) (sub_auto ?_))
        | ((with_reducible refine fin_mk ?_); (repeat (first | replace H := grd_k H | replace H := out_step H (by assumption) | replace H := outm_out H)); have H := Option.some.inj H; subst H))
    | constructor
def G48 : Env := G47.add 3 [] laws_FnDays.S
theorem G48_ok : EnvOk Try.prog G48 := G47_ok.add ent_3 fun ar h r h1 ⟨a0, y, hy, e1, e2, e3, e4⟩ => by
  subst e3 e4; exact (laws_FnDays.spec a0 y hy).le e1 e2
attribute [local irreducible] laws_FnDays

end Go.Proofs.Ytppiaacfnoifkaa
